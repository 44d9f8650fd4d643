/- Joined of: E10 To5 To4 To6 H2 H5 H6 H11. No condition. -/
import Derived.Test.YtckmhlpngolbpaaJ7
import Derived.Test.YtckmhlpngolbpaaJ5
set_option linter.unusedVariables false
set_option linter.unusedSimpArgs false
namespace Go.Proofs.Ytckmhlpngolbpaa
open Int renaming reduceToNat → zr, reduceTDiv → zd, reduceTMod → zm
open Go Go.Vc Go.Sh Go.Tp Go.Ov
set_option maxHeartbeats 4000000 in
theorem stable1_m {B F : List Nat} {n : Nat} (h : DS B n) (hn1 : 1 ≤ n) (hn : n ≤ 12) :
  FnM Try.prog 30 [.st true (.sadr (.agg [I64 n, .arr (.int .u16) (zN (B) : List Int), .arr (.int .u16) (zN (F) : List Int)]))] [] (.st true (.arr (.int .u16) (zN (alL (stB B n) (2 ^ n)) : List Int))) [] := by
 have c1 := allSt_m (F := F) h hn1 hn
 obtain ⟨l, hl⟩ : ∃ l, l = alL (stB B n) (2 ^ n) := ⟨_, rfl⟩
 rw [← hl] at c1 ⊢
 refine FnM.of_body tys_ok Try.func30 (by rfl) rfl Try.ntmps30 (by rw [Try.results30]) (by simp) ?_
 repeat' (first
 | refine W.seq ?_
 | refine W.block ?_
 | (refine W.regionM (id := 1) tys_ok [] [2] ?_; conv => whnf)
 | (refine W.region tys_ok [] ?_; conv => whnf)
 | (refine W.drawAll tys_ok [] mixed rfl ?_; conv => whnf)
 | (refine W.ret ?_; conv => whnf)
 | (refine W.skip ?_; conv => whnf)
 | (refine W.exit ?_; conv => whnf)
 | (refine callM_at (c1) ?_; conv => whnf)
 | (refine W.cond rfl (fun hb => ?_) (fun hb => ?_) <;> (try simp only [zr, zd, zm, minL, maxL, pickB, zA] at hb) <;> (try (first | (cases hb; done) | exact absurd hb (by decide) | (exfalso; omega) | (omega))))
 | (refine Or.inl (And.intro trivial ?_); (conv => whnf))
 | ((with_reducible refine And.intro ?_ ?_); exact zc; conv => whnf)
 | ((with_reducible refine And.intro (Side.out ?_) ?_); rotate_left; (conv => whnf))
 | ((first | refine retM1 ?_ | refine retM2 ?_) <;> (conv => whnf) <;> repeat' (first
 | exact trivial
 | (with_reducible rfl)
 | ((with_reducible refine And.intro ?_ ?_) <;> conv => whnf)
 | omega
 | rfl
 | (refine congrArg (SV.arr _) ?_)
 | (refine congrArg (Value.int _) ?_)
 | (refine congrArg Value.bool ?_)))); all_goals (try unfold Side)
 all_goals try (repeat' (first | exact zb | with_reducible refine And.intro ?_ ?_))
abbrev byT (at_ : List (Nat × Nat)) (n : Nat) : List Nat := byK at_ n at_.length
abbrev frT (at_ : List (Nat × Nat)) (n : Nat) : List Nat := frK at_ n at_.length
theorem by_DS {at_ : List (Nat × Nat)} {n : Nat} (h : PrOk at_ n) : DS (byT at_ n) n := ⟨byK_len, fun i => byK_lt h (Nat.le_refl _)⟩
theorem fr_DS {at_ : List (Nat × Nat)} {n : Nat} (h : PrOk at_ n) : DS (frT at_ n) n := ⟨frK_len, fun i => frK_lt h (Nat.le_refl _)⟩
set_option maxHeartbeats 4000000 in
theorem listed_pre {at_ : List (Nat × Nat)} {n : Nat} {l : List Nat} (h : PrOk at_ n) (hn1 : 1 ≤ n) (hn : n ≤ 12) (hl : at_.length ≤ 40) (c2 : FnM Try.prog 29 [.st true (.sadr (.agg [I64 n, .arr (.int .u16) (zN (byT at_ n) : List Int), .arr (.int .u16) (zN (frT at_ n) : List Int)]))] [] (.st true (.arr (.int .u16) (zN (l) : List Int))) []) (hl1 : 1 ≤ l.length) (hl2 : l.length ≤ 12) (hll : ∀ i, i < l.length → l.getD i 0 < 65536) :
  FnAt Try.prog false 28 [I64 n, .arr P2 (zP at_), .fn 29 []] (.tup [.st true (.arr (.sl (.int .i64)) (lisT l : List (List Int))), .lit (.int .i64 0)]) [] := by
 have c1 : FnAt Try.prog false 34 [I64 n, .arr P2 (zP at_)] (.tup [.st true (.sadr (.agg [I64 n, .arr (.int .u16) (zN (byT at_ n) : List Int), .arr (.int .u16) (zN (frT at_ n) : List Int)])), .lit (.bool true)]) [] := read_at h hn1 hn hl
 have c3 := lists_at hl1 hl2 hll
 obtain ⟨B, hB⟩ : ∃ B, B = byT at_ n := ⟨_, rfl⟩
 obtain ⟨F, hF⟩ : ∃ F, F = frT at_ n := ⟨_, rfl⟩
 rw [← hB, ← hF] at c1 c2
 refine FnAt.of_body tys_ok Try.func28 (by rfl) rfl Try.ntmps28 (by rw [Try.results28]) (by simp) ?_
 repeat' (first
 | refine W.seq ?_
 | refine W.block ?_
 | (refine W.regionM (id := 4) tys_ok [] [2] ?_; conv => whnf)
 | (refine W.region tys_ok [] ?_; conv => whnf)
 | (refine W.drawAll tys_ok [] mixed rfl ?_; conv => whnf)
 | (refine W.ret ?_; conv => whnf)
 | (refine W.skip ?_; conv => whnf)
 | (refine W.exit ?_; conv => whnf)
 | (refine call_at (al := false) (c1) rfl rfl rfl rfl ?_; conv => whnf)
 | (refine callM_at (c2) ?_; conv => whnf)
 | (refine call_at (al := false) (c3) rfl rfl rfl rfl ?_; conv => whnf)
 | (refine W.cond rfl (fun hb => ?_) (fun hb => ?_) <;> (try simp only [zr, zd, zm, minL, maxL, pickB, zA] at hb) <;> (try (first | (cases hb; done) | exact absurd hb (by decide) | (exfalso; omega) | (omega))))
 | (refine Or.inl (And.intro trivial ?_); (conv => whnf))
 | ((with_reducible refine And.intro ?_ ?_); exact zc; conv => whnf)
 | ((with_reducible refine And.intro (Side.out ?_) ?_); rotate_left; (conv => whnf))
 | ((first | refine retF1 ?_ | refine retF2 ?_) <;> (conv => whnf) <;> repeat' (first
 | exact trivial
 | (with_reducible rfl)
 | ((with_reducible refine And.intro ?_ ?_) <;> conv => whnf)
 | omega
 | rfl
 | (refine congrArg (SV.arr _) ?_)
 | (refine congrArg (Value.int _) ?_)
 | (refine congrArg Value.bool ?_)))); all_goals (try unfold Side)
 all_goals try (repeat' (first | exact zb | with_reducible refine And.intro ?_ ?_))
set_option maxHeartbeats 4000000 in
theorem listed_sta {at_ : List (Nat × Nat)} {n : Nat} {l : List Nat} (h : PrOk at_ n) (hn1 : 1 ≤ n) (hn : n ≤ 12) (hl : at_.length ≤ 40) (c2 : FnM Try.prog 30 [.st true (.sadr (.agg [I64 n, .arr (.int .u16) (zN (byT at_ n) : List Int), .arr (.int .u16) (zN (frT at_ n) : List Int)]))] [] (.st true (.arr (.int .u16) (zN (l) : List Int))) []) (hl1 : 1 ≤ l.length) (hl2 : l.length ≤ 12) (hll : ∀ i, i < l.length → l.getD i 0 < 65536) :
  FnAt Try.prog false 28 [I64 n, .arr P2 (zP at_), .fn 30 []] (.tup [.st true (.arr (.sl (.int .i64)) (lisT l : List (List Int))), .lit (.int .i64 0)]) [] := by
 have c1 : FnAt Try.prog false 34 [I64 n, .arr P2 (zP at_)] (.tup [.st true (.sadr (.agg [I64 n, .arr (.int .u16) (zN (byT at_ n) : List Int), .arr (.int .u16) (zN (frT at_ n) : List Int)])), .lit (.bool true)]) [] := read_at h hn1 hn hl
 have c3 := lists_at hl1 hl2 hll
 obtain ⟨B, hB⟩ : ∃ B, B = byT at_ n := ⟨_, rfl⟩
 obtain ⟨F, hF⟩ : ∃ F, F = frT at_ n := ⟨_, rfl⟩
 rw [← hB, ← hF] at c1 c2
 refine FnAt.of_body tys_ok Try.func28 (by rfl) rfl Try.ntmps28 (by rw [Try.results28]) (by simp) ?_
 repeat' (first
 | refine W.seq ?_
 | refine W.block ?_
 | (refine W.regionM (id := 4) tys_ok [] [2] ?_; conv => whnf)
 | (refine W.region tys_ok [] ?_; conv => whnf)
 | (refine W.drawAll tys_ok [] mixed rfl ?_; conv => whnf)
 | (refine W.ret ?_; conv => whnf)
 | (refine W.skip ?_; conv => whnf)
 | (refine W.exit ?_; conv => whnf)
 | (refine call_at (al := false) (c1) rfl rfl rfl rfl ?_; conv => whnf)
 | (refine callM_at (c2) ?_; conv => whnf)
 | (refine call_at (al := false) (c3) rfl rfl rfl rfl ?_; conv => whnf)
 | (refine W.cond rfl (fun hb => ?_) (fun hb => ?_) <;> (try simp only [zr, zd, zm, minL, maxL, pickB, zA] at hb) <;> (try (first | (cases hb; done) | exact absurd hb (by decide) | (exfalso; omega) | (omega))))
 | (refine Or.inl (And.intro trivial ?_); (conv => whnf))
 | ((with_reducible refine And.intro ?_ ?_); exact zc; conv => whnf)
 | ((with_reducible refine And.intro (Side.out ?_) ?_); rotate_left; (conv => whnf))
 | ((first | refine retF1 ?_ | refine retF2 ?_) <;> (conv => whnf) <;> repeat' (first
 | exact trivial
 | (with_reducible rfl)
 | ((with_reducible refine And.intro ?_ ?_) <;> conv => whnf)
 | omega
 | rfl
 | (refine congrArg (SV.arr _) ?_)
 | (refine congrArg (Value.int _) ?_)
 | (refine congrArg Value.bool ?_)))); all_goals (try unfold Side)
 all_goals try (repeat' (first | exact zb | with_reducible refine And.intro ?_ ?_))
set_option maxHeartbeats 4000000 in
theorem pre_at {at_ : List (Nat × Nat)} {n : Nat} {l : List Nat} (h : PrOk at_ n) (hn1 : 1 ≤ n) (hn : n ≤ 12) (hl : at_.length ≤ 40) (c2 : FnM Try.prog 29 [.st true (.sadr (.agg [I64 n, .arr (.int .u16) (zN (byT at_ n) : List Int), .arr (.int .u16) (zN (frT at_ n) : List Int)]))] [] (.st true (.arr (.int .u16) (zN (l) : List Int))) []) (hl1 : 1 ≤ l.length) (hl2 : l.length ≤ 12) (hll : ∀ i, i < l.length → l.getD i 0 < 65536) :
  FnAt Try.prog false 12 [I64 n, .arr P2 (zP at_)] (.tup [.st true (.arr (.sl (.int .i64)) (lisT l : List (List Int))), .lit (.int .i64 0)]) [] := by
 have c1 := listed_pre h hn1 hn hl c2 hl1 hl2 hll
 refine FnAt.of_body tys_ok Try.func12 (by rfl) rfl Try.ntmps12 (by rw [Try.results12]) (by simp) ?_
 repeat' (first
 | refine W.seq ?_
 | refine W.block ?_
 | (refine W.region tys_ok [] ?_; conv => whnf)
 | (refine W.drawAll tys_ok [] mixed rfl ?_; conv => whnf)
 | (refine W.ret ?_; conv => whnf)
 | (refine W.skip ?_; conv => whnf)
 | (refine W.exit ?_; conv => whnf)
 | (refine call_at (al := false) (c1) rfl rfl rfl rfl ?_; conv => whnf)
 | (refine W.cond rfl (fun hb => ?_) (fun hb => ?_) <;> (try simp only [zr, zd, zm, minL, maxL, pickB, zA] at hb) <;> (try (first | (cases hb; done) | exact absurd hb (by decide) | (exfalso; omega) | (omega))))
 | ((with_reducible refine And.intro ?_ ?_); exact zc; conv => whnf)
 | ((with_reducible refine And.intro (Side.out ?_) ?_); rotate_left; (conv => whnf))
 | ((first | refine retF1 ?_ | refine retF2 ?_) <;> (conv => whnf) <;> repeat' (first
 | exact trivial
 | (with_reducible rfl)
 | ((with_reducible refine And.intro ?_ ?_) <;> conv => whnf)
 | omega
 | rfl
 | (refine congrArg (SV.arr _) ?_)
 | (refine congrArg (Value.int _) ?_)
 | (refine congrArg Value.bool ?_)))); all_goals (try unfold Side)
 all_goals try (repeat' (first | exact zb | with_reducible refine And.intro ?_ ?_))
set_option maxHeartbeats 4000000 in
theorem sta_at {at_ : List (Nat × Nat)} {n : Nat} {l : List Nat} (h : PrOk at_ n) (hn1 : 1 ≤ n) (hn : n ≤ 12) (hl : at_.length ≤ 40) (c2 : FnM Try.prog 30 [.st true (.sadr (.agg [I64 n, .arr (.int .u16) (zN (byT at_ n) : List Int), .arr (.int .u16) (zN (frT at_ n) : List Int)]))] [] (.st true (.arr (.int .u16) (zN (l) : List Int))) []) (hl1 : 1 ≤ l.length) (hl2 : l.length ≤ 12) (hll : ∀ i, i < l.length → l.getD i 0 < 65536) :
  FnAt Try.prog false 13 [I64 n, .arr P2 (zP at_)] (.tup [.st true (.arr (.sl (.int .i64)) (lisT l : List (List Int))), .lit (.int .i64 0)]) [] := by
 have c1 := listed_sta h hn1 hn hl c2 hl1 hl2 hll
 refine FnAt.of_body tys_ok Try.func13 (by rfl) rfl Try.ntmps13 (by rw [Try.results13]) (by simp) ?_
 repeat' (first
 | refine W.seq ?_
 | refine W.block ?_
 | (refine W.region tys_ok [] ?_; conv => whnf)
 | (refine W.drawAll tys_ok [] mixed rfl ?_; conv => whnf)
 | (refine W.ret ?_; conv => whnf)
 | (refine W.skip ?_; conv => whnf)
 | (refine W.exit ?_; conv => whnf)
 | (refine call_at (al := false) (c1) rfl rfl rfl rfl ?_; conv => whnf)
 | (refine W.cond rfl (fun hb => ?_) (fun hb => ?_) <;> (try simp only [zr, zd, zm, minL, maxL, pickB, zA] at hb) <;> (try (first | (cases hb; done) | exact absurd hb (by decide) | (exfalso; omega) | (omega))))
 | ((with_reducible refine And.intro ?_ ?_); exact zc; conv => whnf)
 | ((with_reducible refine And.intro (Side.out ?_) ?_); rotate_left; (conv => whnf))
 | ((first | refine retF1 ?_ | refine retF2 ?_) <;> (conv => whnf) <;> repeat' (first
 | exact trivial
 | (with_reducible rfl)
 | ((with_reducible refine And.intro ?_ ?_) <;> conv => whnf)
 | omega
 | rfl
 | (refine congrArg (SV.arr _) ?_)
 | (refine congrArg (Value.int _) ?_)
 | (refine congrArg Value.bool ?_)))); all_goals (try unfold Side)
 all_goals try (repeat' (first | exact zb | with_reducible refine And.intro ?_ ?_))
def grT (I : Nat) : List Nat := if I = 0 then [0] else [0, I]
set_option maxHeartbeats 4000000 in
theorem granted_at {B F : List Nat} {n I : Nat} (h : DS B n) (hF : DS F n) (hn : n ≤ 12) (h0 : defT B F n 0 = I) (h1 : defT B F n I = I) :
  FnAt Try.prog false 35 [.sadr (.agg [I64 n, .arr (.int .u16) (zN (B) : List Int), .arr (.int .u16) (zN (F) : List Int)])] (.st true (.arr (.int .u16) (zN (grT I) : List Int))) [] := by
 have c0 := defended_at (s := 0) h hF hn (Nat.two_pow_pos n)
 have hI : I < 2 ^ n := by rw [← h0]; exact defT_lt
 have c1 := defended_at (s := I) h hF hn hI
 rw [h0] at c0
 rw [h1] at c1
 obtain ⟨gl, hgl⟩ : ∃ gl : Bool → List Nat, gl = fun b => if b = true then [0, I] else [0] := ⟨_, rfl⟩
 have g0 : gl false = [0] := by rw [hgl]; rfl
 have g1 : gl true = [0, I] := by rw [hgl]; rfl
 have hzi : (I : Int) = ((0 : Nat) : Int) ↔ I = 0 := by omega
 refine FnAt.of_body tys_ok Try.func35 (by rfl) rfl Try.ntmps35 (by rw [Try.results35]) (by simp) ?_
 repeat' (first
 | refine W.seq ?_
 | refine W.block ?_
 | (refine W.region tys_ok [] ?_; conv => whnf)
 | (refine W.drawAll tys_ok [] mixed rfl ?_; conv => whnf)
 | (refine W.ret ?_; conv => whnf)
 | (refine W.skip ?_; conv => whnf)
 | (refine W.exit ?_; conv => whnf)
 | (refine W.cond rfl (fun hb => ?_) (fun hb => ?_) <;> (try simp only [zr, zd, zm, minL, maxL, pickB, zA] at hb) <;> (try (first | (cases hb; done) | exact absurd hb (by decide) | (exfalso; omega) | (omega))))
 | ((with_reducible refine And.intro ?_ ?_); exact zc; conv => whnf)
 | ((with_reducible refine And.intro (Side.out ?_) ?_); rotate_left; (conv => whnf))
 | ((first | refine retF1 ?_ | refine retF2 ?_) <;> (conv => whnf) <;> repeat' (first
 | exact trivial
 | (with_reducible rfl)
 | ((with_reducible refine And.intro ?_ ?_) <;> conv => whnf)
 | omega
 | rfl
 | (refine congrArg (SV.arr _) ?_)
 | (refine congrArg (Value.int _) ?_)
 | (refine congrArg Value.bool ?_)))); all_goals (try unfold Side)
 all_goals try (repeat' (first | exact zb | with_reducible refine And.intro ?_ ?_))
 refine W.loop (fun b : Bool => ⟨[(0, .st false (.sadr (.agg [I64 n, .arr (.int .u16) (zN (B) : List Int), .arr (.int .u16) (zN (F) : List Int)]))), (3, .own 3000)], [(3000, .row 79 (.int .u16) true (zN (gl b) : List Int))]⟩) (fun b => (b = true → I ≠ 0)) (fun b => (if b = true then 0 else 1)) (false) ?_ ?_
 · refine ⟨fun h => Bool.noConfusion h, ?_⟩
   rw [g0]
   refine subF.ok ?_ <;> (conv => whnf) <;> repeat' (first
 | exact trivial
 | (with_reducible rfl)
 | ((with_reducible refine And.intro ?_ ?_) <;> conv => whnf)
 | omega
 | rfl
 | (refine congrArg (SV.arr _) ?_)
 | (refine congrArg (Value.int _) ?_)
 | (refine congrArg Value.bool ?_))
 · intro b hb2
   cases b with
   | false =>
    rw [g0]
    have lz : (zN [0]).length = 1 := rfl
    have ez : (zN [0]).getD (((zN [0]).length : Int) - 1).toNat 0 = 0 := rfl
    have q0 : InK .i64 (((zN [0]).length : Int) - 1) := ⟨by omega, by omega⟩
    by_cases hz : I = 0
    · have e : grT I = [0] := if_pos hz
      rw [e]
      repeat' (first
 | refine W.seq ?_
 | refine W.block ?_
 | (refine W.region tys_ok [] ?_; conv => whnf)
 | (refine W.drawAll tys_ok [] mixed rfl ?_; conv => whnf)
 | (refine W.ret ?_; conv => whnf)
 | (refine W.skip ?_; conv => whnf)
 | (refine W.exit ?_; conv => whnf)
 | (refine call_at (al := false) (c0) rfl rfl rfl rfl ?_; conv => whnf)
 | (refine W.cond rfl (fun hb => ?_) (fun hb => ?_) <;> (try simp only [zr, zd, zm, minL, maxL, pickB, zA] at hb) <;> (try (first | (cases hb; done) | exact absurd hb (by decide) | (exfalso; omega) | (omega))))
 | ((with_reducible refine And.intro ?_ ?_); exact zc; conv => whnf)
 | ((with_reducible refine And.intro (Side.out ?_) ?_); rotate_left; (conv => whnf))
 | ((first | refine retF1 ?_ | refine retF2 ?_) <;> (conv => whnf) <;> repeat' (first
 | exact trivial
 | (with_reducible rfl)
 | ((with_reducible refine And.intro ?_ ?_) <;> conv => whnf)
 | omega
 | rfl
 | (refine congrArg (SV.arr _) ?_)
 | (refine congrArg (Value.int _) ?_)
 | (refine congrArg Value.bool ?_)))); all_goals (try unfold Side)
      all_goals try (repeat' (first | exact zb | with_reducible refine And.intro ?_ ?_))
      all_goals first | exact Path.imp_of q0 | skip
    · repeat' (first
 | refine W.seq ?_
 | refine W.block ?_
 | (refine W.region tys_ok [] ?_; conv => whnf)
 | (refine W.drawAll tys_ok [] mixed rfl ?_; conv => whnf)
 | (refine W.ret ?_; conv => whnf)
 | (refine W.skip ?_; conv => whnf)
 | (refine W.exit ?_; conv => whnf)
 | (refine call_at (al := false) (c0) rfl rfl rfl rfl ?_; conv => whnf)
 | (refine W.cond rfl (fun hb => ?_) (fun hb => ?_) <;> (try simp only [zr, zd, zm, minL, maxL, pickB, zA] at hb) <;> (try (first | (cases hb; done) | exact absurd hb (by decide) | (exfalso; omega) | (omega))))
 | ((with_reducible refine And.intro ?_ ?_); exact zc; conv => whnf)
 | ((with_reducible refine And.intro (Side.out ?_) ?_); rotate_left; (conv => whnf))
 | ((first | refine retF1 ?_ | refine retF2 ?_) <;> (conv => whnf) <;> repeat' (first
 | exact trivial
 | (with_reducible rfl)
 | ((with_reducible refine And.intro ?_ ?_) <;> conv => whnf)
 | omega
 | rfl
 | (refine congrArg (SV.arr _) ?_)
 | (refine congrArg (Value.int _) ?_)
 | (refine congrArg Value.bool ?_)))); all_goals (try unfold Side)
      all_goals try (repeat' (first | exact zb | with_reducible refine And.intro ?_ ?_))
      all_goals first | exact Path.imp_of q0 | (show ((zN [0]).length + 1).le 4294967296; exact (by omega : (zN [0]).length + 1 ≤ 4294967296)) | skip
      refine ⟨true, ⟨fun _ => hz, by simp⟩, ?_⟩
      rw [g1]
      refine subF.ok ?_ <;> (conv => whnf) <;> repeat' (first
 | exact trivial
 | (with_reducible rfl)
 | ((with_reducible refine And.intro ?_ ?_) <;> conv => whnf)
 | omega
 | rfl
 | (refine congrArg (SV.arr _) ?_)
 | (refine congrArg (Value.int _) ?_)
 | (refine congrArg Value.bool ?_))
   | true =>
    have hz := hb2 rfl
    have e : grT I = [0, I] := if_neg hz
    rw [g1, e]
    have lz : (zN [0, I]).length = 2 := rfl
    have ez : (zN [0, I]).getD (((zN [0, I]).length : Int) - 1).toNat 0 = (I : Int) := rfl
    have q0 : InK .i64 (((zN [0, I]).length : Int) - 1) := ⟨by omega, by omega⟩
    repeat' (first
 | refine W.seq ?_
 | refine W.block ?_
 | (refine W.region tys_ok [] ?_; conv => whnf)
 | (refine W.drawAll tys_ok [] mixed rfl ?_; conv => whnf)
 | (refine W.ret ?_; conv => whnf)
 | (refine W.skip ?_; conv => whnf)
 | (refine W.exit ?_; conv => whnf)
 | (refine call_at (al := false) (c1) rfl rfl rfl rfl ?_; conv => whnf)
 | (refine W.cond rfl (fun hb => ?_) (fun hb => ?_) <;> (try simp only [zr, zd, zm, minL, maxL, pickB, zA] at hb) <;> (try (first | (cases hb; done) | exact absurd hb (by decide) | (exfalso; omega) | (omega))))
 | ((with_reducible refine And.intro ?_ ?_); exact zc; conv => whnf)
 | ((with_reducible refine And.intro (Side.out ?_) ?_); rotate_left; (conv => whnf))
 | ((first | refine retF1 ?_ | refine retF2 ?_) <;> (conv => whnf) <;> repeat' (first
 | exact trivial
 | (with_reducible rfl)
 | ((with_reducible refine And.intro ?_ ?_) <;> conv => whnf)
 | omega
 | rfl
 | (refine congrArg (SV.arr _) ?_)
 | (refine congrArg (Value.int _) ?_)
 | (refine congrArg Value.bool ?_)))); all_goals (try unfold Side)
    all_goals try (repeat' (first | exact zb | with_reducible refine And.intro ?_ ?_))
    all_goals first | exact Path.imp_of q0 | skip
theorem grT_last {I : Nat} : (grT I).getD ((grT I).length - 1) 0 = I := by
 unfold grT
 split
 · rename_i h; exact h.symm
 · rfl
theorem grT_len {I : Nat} : 1 ≤ (grT I).length ∧ (grT I).length ≤ 2 := by
 unfold grT
 split <;> simp
set_option maxHeartbeats 4000000 in
theorem gra_at {at_ : List (Nat × Nat)} {n I : Nat} (h : PrOk at_ n) (hn1 : 1 ≤ n) (hn : n ≤ 12) (hl : at_.length ≤ 40) (h0 : defT (byT at_ n) (frT at_ n) n 0 = I) (h1 : defT (byT at_ n) (frT at_ n) n I = I) :
  FnAt Try.prog false 14 [I64 n, .arr P2 (zP at_)] (.tup [.st true (.arr (.int .i64) (zN (lsT I 12) : List Int)), .lit (.int .i64 0)]) [] := by
 have h2 := two12 hn
 have hI : I < 2 ^ n := by rw [← h0]; exact defT_lt
 have c1 : FnAt Try.prog false 34 [I64 n, .arr P2 (zP at_)] (.tup [.st true (.sadr (.agg [I64 n, .arr (.int .u16) (zN (byT at_ n) : List Int), .arr (.int .u16) (zN (frT at_ n) : List Int)])), .lit (.bool true)]) [] := read_at h hn1 hn hl
 have c2 := granted_at (by_DS h) (fr_DS h) hn h0 h1
 have c3 := list_at (s := I) (by omega)
 have hgl := grT_last (I := I)
 have hgn := grT_len (I := I)
 obtain ⟨B, hB⟩ : ∃ B, B = byT at_ n := ⟨_, rfl⟩
 obtain ⟨F, hF⟩ : ∃ F, F = frT at_ n := ⟨_, rfl⟩
 obtain ⟨G, hG⟩ : ∃ G, G = grT I := ⟨_, rfl⟩
 rw [← hB, ← hF] at c1 c2
 rw [← hG] at c2 hgl hgn
 have hzg : @List.length (Ty.int .u16).T (zN G) = G.length := zN_len
 have hix : (((zN G).length : Int) - 1).toNat = G.length - 1 := by rw [zN_len]; omega
 have hge : (zN G).getD (((zN G).length : Int) - 1).toNat 0 = (I : Int) := by rw [hix, zN_get, hgl]
 rw [← hge] at c3
 refine FnAt.of_body tys_ok Try.func14 (by rfl) rfl Try.ntmps14 (by rw [Try.results14]) (by simp) ?_
 repeat' (first
 | refine W.seq ?_
 | refine W.block ?_
 | (refine W.region tys_ok [] ?_; conv => whnf)
 | (refine W.drawAll tys_ok [] mixed rfl ?_; conv => whnf)
 | (refine W.ret ?_; conv => whnf)
 | (refine W.skip ?_; conv => whnf)
 | (refine W.exit ?_; conv => whnf)
 | (refine call_at (al := false) (c1) rfl rfl rfl rfl ?_; conv => whnf)
 | (refine call_at (al := false) (c2) rfl rfl rfl rfl ?_; conv => whnf)
 | (refine call_at (al := false) (c3) rfl rfl rfl rfl ?_; conv => whnf)
 | (refine W.cond rfl (fun hb => ?_) (fun hb => ?_) <;> (try simp only [zr, zd, zm, minL, maxL, pickB, zA] at hb) <;> (try (first | (cases hb; done) | exact absurd hb (by decide) | (exfalso; omega) | (omega))))
 | ((with_reducible refine And.intro ?_ ?_); exact zc; conv => whnf)
 | ((with_reducible refine And.intro (Side.out ?_) ?_); rotate_left; (conv => whnf))
 | ((first | refine retF1 ?_ | refine retF2 ?_) <;> (conv => whnf) <;> repeat' (first
 | exact trivial
 | (with_reducible rfl)
 | ((with_reducible refine And.intro ?_ ?_) <;> conv => whnf)
 | omega
 | rfl
 | (refine congrArg (SV.arr _) ?_)
 | (refine congrArg (Value.int _) ?_)
 | (refine congrArg Value.bool ?_)))); all_goals (try unfold Side)
 all_goals try (repeat' (first | exact zb | with_reducible refine And.intro ?_ ?_))
open Go Go.Vc Go.Sh Go.Tp Go.Ov
structure GR (B F : List Nat) (n : Nat) (adj : Nat → Nat → Bool) : Prop where
 n6 : n ≤ 6
 b : ∀ i j, (B.getD i 0).testBit j = adj i j
 f : ∀ i j, (F.getD i 0).testBit j = adj i j
 sym : ∀ i j, adj i j = adj j i
 irr : ∀ i, adj i i = false
 lt : ∀ i j, adj i j = true → i < n ∧ j < n
def ind (adj : Nat → Nat → Bool) (s : Nat) : Prop := ∀ i j, s.testBit i = true → s.testBit j = true → adj i j = false
def mis (adj : Nat → Nat → Bool) (n s : Nat) : Prop := ind adj s ∧ ∀ j, j < n → s.testBit j = false → ∃ i, s.testBit i = true ∧ adj i j = true
section gr
variable {B F : List Nat} {n : Nat} {adj : Nat → Nat → Bool} (h : GR B F n adj)
include h
theorem att_bit {s j : Nat} (hs : s < 2 ^ n) : (attT B s).testBit j = true ↔ ∃ i, s.testBit i = true ∧ adj i j = true := by
 rw [attT_bit]
 constructor
 · rintro ⟨i, h1, h2, h3⟩; exact ⟨i, h2, by rw [← h.b]; exact h3⟩
 · rintro ⟨i, h2, h3⟩
   have := h.n6
   have := bit_hi hs h2
   exact ⟨i, by omega, h2, by rw [h.b]; exact h3⟩
theorem adm_iff {s : Nat} (hs : s < 2 ^ n) : admB B F n s = true ↔ ind adj s := by
 unfold admB
 rw [Bool.and_eq_true, decide_eq_true_eq, decide_eq_true_eq]
 constructor
 · rintro ⟨h1, _⟩ i j hi hj
   cases ha : adj i j with
   | false => rfl
   | true =>
    have := zero_iff.1 h1 j
    rw [Nat.testBit_and, hj, Bool.and_true, (att_bit h hs).2 ⟨i, hi, ha⟩] at this
    cases this
 · intro hi
   refine ⟨zero_iff.2 fun j => ?_, zero_iff.2 fun i => ?_⟩
   · rw [Nat.testBit_and]
     cases h1 : (attT B s).testBit j with
     | false => rfl
     | true =>
      obtain ⟨i, h2, h3⟩ := (att_bit h hs).1 h1
      cases h4 : s.testBit j with
      | false => rfl
      | true => rw [hi i j h2 h4] at h3; cases h3
   · rw [andN_bit]
     cases h1 : s.testBit i with
     | false => rfl
     | true =>
      have hin := bit_hi hs h1
      have : (defT B F n s).testBit i = true := by
       unfold defT
       rw [setK_bit, Bool.and_eq_true, decide_eq_true_eq]
       refine ⟨hin, decide_eq_true (zero_iff.2 fun k => ?_)⟩
       rw [andN_bit, h.f]
       cases h2 : adj i k with
       | false => rfl
       | true => rw [(att_bit h hs).2 ⟨i, h1, h2⟩]; rfl
      rw [this]; rfl
omit h in
theorem ones_bit {i : Nat} : (2 ^ n - 1).testBit i = decide (i < n) := Nat.testBit_two_pow_sub_one n i
theorem st_iff {s : Nat} (hs : s < 2 ^ n) : stB B n s = true ↔ mis adj n s := by
 unfold stB
 rw [decide_eq_true_eq]
 constructor
 · intro he
   have key : ∀ j, (attT B s).testBit j = (decide (j < n) && !s.testBit j) := fun j => by rw [he, andN_bit, ones_bit]
   refine ⟨fun i j hi hj => ?_, fun j hj hsj => ?_⟩
   · cases ha : adj i j with
     | false => rfl
     | true =>
      have := key j
      rw [(att_bit h hs).2 ⟨i, hi, ha⟩, hj] at this
      simp at this
   · have := key j
     rw [decide_eq_true hj, hsj] at this
     exact (att_bit h hs).1 this
 · rintro ⟨h1, h2⟩
   apply Nat.eq_of_testBit_eq
   intro j
   rw [andN_bit, ones_bit]
   cases h3 : (attT B s).testBit j with
   | true =>
    obtain ⟨i, h4, h5⟩ := (att_bit h hs).1 h3
    have h6 := (h.lt i j h5).2
    cases h7 : s.testBit j with
    | true => rw [h1 i j h4 h7] at h5; cases h5
    | false => rw [decide_eq_true h6]; rfl
   | false =>
    by_cases hj : j < n
    · cases h7 : s.testBit j with
      | true => simp
      | false =>
       have := (att_bit h hs).2 (h2 j hj h7)
       rw [h3] at this; cases this
    · rw [decide_eq_false hj]; rfl
omit h in
theorem pas_iff {s t : Nat} : pasB s t = true ↔ t ≠ s ∧ ∀ i, s.testBit i = true → t.testBit i = true := by
 unfold pasB
 rw [Bool.and_eq_true, decide_eq_true_eq, decide_eq_true_eq, zero_iff]
 refine and_congr Iff.rfl ⟨fun h1 i hi => ?_, fun h1 i => ?_⟩
 · have := h1 i
   rw [andN_bit, hi] at this
   simpa using this
 · rw [andN_bit]
   cases h2 : s.testBit i with
   | false => rfl
   | true => rw [h1 i h2]; rfl
theorem mis_pas {s : Nat} (hs : s < 2 ^ n) (hi : ind adj s) : mis adj n s ↔ (alL (admB B F n) (2 ^ n)).any (pasB s) = false := by
 constructor
 · rintro ⟨_, h2⟩
   rw [List.any_eq_false]
   intro t ht hp
   obtain ⟨h3, h4⟩ := alL_mem.1 ht
   obtain ⟨h5, h6⟩ := pas_iff.1 hp
   have h7 := (adm_iff h h3).1 h4
   refine h5 (Nat.eq_of_testBit_eq fun j => ?_)
   cases h8 : s.testBit j with
   | true => exact h6 j h8
   | false =>
    cases h9 : t.testBit j with
    | false => rfl
    | true =>
     obtain ⟨i, h10, h11⟩ := h2 j (bit_hi h3 h9) h8
     rw [h7 i j (h6 i h10) h9] at h11; cases h11
 · intro ha
   refine ⟨hi, fun j hj hsj => ?_⟩
   apply Classical.byContradiction
   intro hno
   have hno : ∀ i, s.testBit i = true → adj i j = false := fun i h1 => by
    cases h2 : adj i j with
    | false => rfl
    | true => exact absurd ⟨i, h1, h2⟩ hno
   have hb : ∀ i, (s ||| 2 ^ j).testBit i = (s.testBit i || decide (j = i)) := fun i => bit_or
   have h1 : ind adj (s ||| 2 ^ j) := fun a b ha hb' => by
    rw [hb, Bool.or_eq_true, decide_eq_true_eq] at ha hb'
    rcases ha with ha | ha <;> rcases hb' with hb' | hb'
    · exact hi a b ha hb'
    · subst hb'; exact hno a ha
    · subst ha; rw [h.sym]; exact hno b hb'
    · subst ha; subst hb'; exact h.irr _
   have h2 : s ||| 2 ^ j < 2 ^ n := or_lt hs hj
   have h3 : s ||| 2 ^ j ∈ alL (admB B F n) (2 ^ n) := alL_mem.2 ⟨h2, (adm_iff h h2).2 h1⟩
   have h4 : pasB s (s ||| 2 ^ j) = true := pas_iff.2 ⟨fun e => (by
    have := hb j
    rw [e, hsj, decide_eq_true rfl] at this
    cases this), fun i h5 => by rw [hb, h5]; rfl⟩
   rw [List.any_eq_false] at ha
   exact ha _ h3 h4
theorem gr_st : grL (alL (admB B F n) (2 ^ n)) = alL (stB B n) (2 ^ n) := by
 unfold grL
 rw [show alL (stB B n) (2 ^ n) = (List.range (2 ^ n)).filter (stB B n) from rfl]
 obtain ⟨q, hq⟩ : ∃ q : Nat → Bool, q = fun s => !(alL (admB B F n) (2 ^ n)).any (pasB s) := ⟨_, rfl⟩
 have hq' : (fun s => !(alL (admB B F n) (2 ^ n)).any (pasB s)) = q := hq.symm
 rw [hq']
 unfold alL
 rw [List.filter_filter]
 refine List.filter_congr fun s hs => ?_
 have hs := List.mem_range.1 hs
 rw [Bool.eq_iff_iff, Bool.and_eq_true, st_iff h hs, adm_iff h hs, hq]
 constructor
 · rintro ⟨h1, h2⟩
   exact (mis_pas h hs h2).2 (by simpa using h1)
 · intro h1
   exact ⟨by have := (mis_pas h hs h1.1).1 h1; dsimp only; rw [this]; rfl, h1.1⟩
theorem st_some : 1 ≤ (alL (stB B n) (2 ^ n)).length := by
 -- the greatest number among those without attacks
 have key : ∀ k, k ≤ 2 ^ n → (∃ s, s < k ∧ ind adj s) → ∃ s, s < 2 ^ n ∧ ind adj s ∧ ∀ t, t < k → ind adj t → t ≤ s := by
  intro k
  induction k with
  | zero => rintro _ ⟨s, h1, _⟩; omega
  | succ k ih =>
   intro hk hex
   by_cases h1 : ind adj k
   · exact ⟨k, by omega, h1, fun t ht _ => by omega⟩
   · obtain ⟨s, h2, h3⟩ := hex
     have : s ≠ k := fun e => h1 (e ▸ h3)
     obtain ⟨u, h4, h5, h6⟩ := ih (by omega) ⟨s, by omega, h3⟩
     refine ⟨u, h4, h5, fun t ht hi => ?_⟩
     have : t ≠ k := fun e => h1 (e ▸ hi)
     exact h6 t (by omega) hi
 obtain ⟨s, h1, h2, h3⟩ := key (2 ^ n) (Nat.le_refl _) ⟨0, Nat.two_pow_pos n, fun i j hi => by rw [Nat.zero_testBit] at hi; cases hi⟩
 have h4 : mis adj n s := (mis_pas h h1 h2).2 (by
  rw [List.any_eq_false]
  intro t ht hp
  obtain ⟨h5, h6⟩ := alL_mem.1 ht
  obtain ⟨h7, h8⟩ := pas_iff.1 hp
  have h9 := h3 t h5 ((adm_iff h h5).1 h6)
  have h10 : s ≤ t := by
   have : s &&& t = s := Nat.eq_of_testBit_eq fun i => by
    rw [Nat.testBit_and]
    cases hb : s.testBit i with
    | false => rfl
    | true => rw [h8 i hb]; rfl
   rw [← this]; exact Nat.and_le_right
  omega)
 have h5 : s ∈ alL (stB B n) (2 ^ n) := alL_mem.2 ⟨h1, (st_iff h h1).2 h4⟩
 exact List.length_pos_of_mem h5
def pop6 (s : Nat) : Nat := s % 2 + s / 2 % 2 + s / 4 % 2 + s / 8 % 2 + s / 16 % 2 + s / 32 % 2
omit h in
theorem three6 : (List.range 64).all (fun s => decide (pop6 s ≤ 2) || (List.range 6).any fun a => (List.range 6).any fun b => (List.range 6).any fun c => decide (a < b) && decide (b < c) && (s.testBit a && s.testBit b && s.testBit c)) = true := by decide +kernel
omit h in
theorem two6 : (List.range 64).all (fun s => decide (pop6 s ≤ 1) || (List.range 6).any fun a => (List.range 6).any fun b => decide (a < b) && (s.testBit a && s.testBit b)) = true := by decide +kernel
omit h in
theorem cnt3 : (List.range 6).all (fun a => (List.range 6).all fun b => (List.range 6).all fun c => !(decide (a < b) && decide (b < c)) || Nat.ble ((List.range 64).filter (fun s => !(s.testBit a || s.testBit b || s.testBit c))).length 12) = true := by decide +kernel
omit h in
theorem cnt2 : (List.range 6).all (fun a => (List.range 6).all fun b => !decide (a < b) || Nat.ble ((List.range 64).filter (fun s => !(s.testBit a || s.testBit b) && decide (pop6 s ≤ 2))).length 12) = true := by decide +kernel
omit h in
theorem cnt1 : ((List.range 64).filter (fun s => decide (pop6 s ≤ 1))).length ≤ 12 := by decide +kernel
omit h in
theorem pop6_le {s t : Nat} (hs : t < 64) (h : ∀ i, s.testBit i = true → t.testBit i = true) (ht : pop6 t ≤ 2) (hs64 : s < 64) : pop6 s ≤ 2 := by
 have h1 := List.all_eq_true.1 three6 s (List.mem_range.2 hs64)
 rw [Bool.or_eq_true] at h1
 rcases h1 with h1 | h1
 · exact of_decide_eq_true h1
 · exfalso
   have h2 : (List.range 64).all (fun t => !decide (pop6 t ≤ 2) || !((List.range 6).any fun a => (List.range 6).any fun b => (List.range 6).any fun c => decide (a < b) && decide (b < c) && (t.testBit a && t.testBit b && t.testBit c))) = true := by decide +kernel
   have h3 := List.all_eq_true.1 h2 t (List.mem_range.2 hs)
   rw [decide_eq_true ht] at h3
   have h4 : ((List.range 6).any fun a => (List.range 6).any fun b => (List.range 6).any fun c => decide (a < b) && decide (b < c) && (t.testBit a && t.testBit b && t.testBit c)) = true := by
    simp only [List.any_eq_true, Bool.and_eq_true] at h1 ⊢
    obtain ⟨a, ha, b, hb, c, hc, h5, ⟨h6, h7⟩, h8⟩ := h1
    exact ⟨a, ha, b, hb, c, hc, h5, ⟨h _ h6, h _ h7⟩, h _ h8⟩
   rw [h4] at h3
   cases h3
omit h in
theorem mis_out {W s t : Nat} (hW : ind adj W) (h1 : mis adj n s) (h2 : mis adj n t) (hs : s < 2 ^ n) (ht : t < 2 ^ n) (e : andN s W = andN t W) : s = t := by
 have hb : ∀ i, W.testBit i = false → s.testBit i = t.testBit i := fun i hi => by
  have := congrArg (fun x => x.testBit i) e
  simpa [andN_bit, hi] using this
 have key : ∀ s t : Nat, mis adj n s → mis adj n t → s < 2 ^ n → (∀ i, W.testBit i = false → s.testBit i = t.testBit i) → ∀ j, s.testBit j = true → t.testBit j = true := fun s t h1 h2 hs hb j hj => by
  cases hw : W.testBit j with
  | false => rw [← hb j hw]; exact hj
  | true =>
   cases htj : t.testBit j with
   | true => rfl
   | false =>
    obtain ⟨i, h3, h4⟩ := h2.2 j (bit_hi hs hj) htj
    cases hwi : W.testBit i with
    | true => rw [hW i j hwi hw] at h4; cases h4
    | false =>
     have h5 := hb i hwi
     rw [h3] at h5
     rw [h1.1 i j h5 hj] at h4; cases h4
 refine Nat.eq_of_testBit_eq fun j => ?_
 rw [Bool.eq_iff_iff]
 exact ⟨key s t h1 h2 hs hb j, key t s h2 h1 ht (fun i hi => (hb i hi).symm) j⟩
theorem st_few : (alL (stB B n) (2 ^ n)).length ≤ 12 := by
 have h64 : 2 ^ n ≤ 64 := Nat.pow_le_pow_right (n := 2) (by decide) h.n6
 obtain ⟨l, hl⟩ : ∃ l, l = alL (stB B n) (2 ^ n) := ⟨_, rfl⟩
 rw [← hl]
 have hnd : l.Nodup := by rw [hl]; unfold alL List.Nodup; exact List.nodup_range.filter _
 have hlm : ∀ s ∈ l, s < 2 ^ n ∧ mis adj n s := fun s hs => by
  rw [hl] at hs
  obtain ⟨h1, h2⟩ := alL_mem.1 hs
  exact ⟨h1, (st_iff h h1).1 h2⟩
 have inj : ∀ W, ind adj W → (l.map fun s => andN s W).Nodup := fun W hW => by
  unfold List.Nodup
  rw [List.pairwise_map]
  refine List.Pairwise.imp_of_mem (fun ha hb hne e => hne (mis_out hW (hlm _ ha).2 (hlm _ hb).2 (hlm _ ha).1 (hlm _ hb).1 e)) hnd
 have hsub : ∀ s W, s < 2 ^ n → andN s W < 64 := fun s W hs => Nat.lt_of_lt_of_le (lt_of_bits fun i hi => by
  rw [andN_bit, Bool.and_eq_true] at hi
  exact bit_hi hs hi.1) h64
 by_cases h3 : ∃ a b c, a < b ∧ b < c ∧ c < 6 ∧ adj a b = false ∧ adj b c = false ∧ adj a c = false
 · obtain ⟨a, b, c, hab, hbc, hc, e1, e2, e3⟩ := h3
   obtain ⟨W, hW⟩ : ∃ W, W = 2 ^ a ||| 2 ^ b ||| 2 ^ c := ⟨_, rfl⟩
   have hWb : ∀ i, W.testBit i = (decide (a = i) || decide (b = i) || decide (c = i)) := fun i => by rw [hW, bit_or, bit_or, Nat.testBit_two_pow]
   have hWi : ind adj W := fun i j hi hj => by
    simp only [hWb, Bool.or_eq_true, decide_eq_true_eq] at hi hj
    rcases hi with (rfl | rfl) | rfl <;> rcases hj with (rfl | rfl) | rfl <;> first | exact h.irr _ | assumption | (rw [h.sym]; assumption)
   have := (inj W hWi).length_le_of_subset (l₂ := (List.range 64).filter (fun s => !(s.testBit a || s.testBit b || s.testBit c))) fun x hx => by
    obtain ⟨s, h4, rfl⟩ := List.mem_map.1 hx
    refine List.mem_filter.2 ⟨List.mem_range.2 (hsub s W (hlm s h4).1), ?_⟩
    simp [andN_bit, hWb]
   rw [List.length_map] at this
   have h5 := List.all_eq_true.1 (List.all_eq_true.1 (List.all_eq_true.1 cnt3 a (List.mem_range.2 (by omega))) b (List.mem_range.2 (by omega))) c (List.mem_range.2 hc)
   rw [decide_eq_true hab, decide_eq_true hbc] at h5
   exact Nat.le_trans this (Nat.le_of_ble_eq_true h5)
 · have hp2 : ∀ s ∈ l, pop6 s ≤ 2 := fun s hs => by
    have h1 := List.all_eq_true.1 three6 s (List.mem_range.2 (by have := (hlm s hs).1; omega))
    rw [Bool.or_eq_true] at h1
    rcases h1 with h1 | h1
    · exact of_decide_eq_true h1
    · exfalso
      simp only [List.any_eq_true, Bool.and_eq_true, List.mem_range, decide_eq_true_eq] at h1
      obtain ⟨a, ha, b, hb, c, hc, ⟨h5, h6⟩, ⟨h7, h8⟩, h9⟩ := h1
      have hi := (hlm s hs).2.1
      exact h3 ⟨a, b, c, h5, h6, hc, hi _ _ h7 h8, hi _ _ h8 h9, hi _ _ h7 h9⟩
   by_cases h2 : ∃ a b, a < b ∧ b < 6 ∧ adj a b = false
   · obtain ⟨a, b, hab, hb, e1⟩ := h2
     obtain ⟨W, hW⟩ : ∃ W, W = 2 ^ a ||| 2 ^ b := ⟨_, rfl⟩
     have hWb : ∀ i, W.testBit i = (decide (a = i) || decide (b = i)) := fun i => by rw [hW, bit_or, Nat.testBit_two_pow]
     have hWi : ind adj W := fun i j hi hj => by
      simp only [hWb, Bool.or_eq_true, decide_eq_true_eq] at hi hj
      rcases hi with rfl | rfl <;> rcases hj with rfl | rfl <;> first | exact h.irr _ | assumption | (rw [h.sym]; assumption)
     have := (inj W hWi).length_le_of_subset (l₂ := (List.range 64).filter (fun s => !(s.testBit a || s.testBit b) && decide (pop6 s ≤ 2))) fun x hx => by
      obtain ⟨s, h4, rfl⟩ := List.mem_map.1 hx
      have h6 := hsub s W (hlm s h4).1
      refine List.mem_filter.2 ⟨List.mem_range.2 h6, ?_⟩
      rw [Bool.and_eq_true]
      refine ⟨by simp [andN_bit, hWb], decide_eq_true (pop6_le (by have := (hlm s h4).1; omega) (fun i hi => ?_) (hp2 s h4) h6)⟩
      rw [andN_bit, Bool.and_eq_true] at hi
      exact hi.1
     rw [List.length_map] at this
     have h5 := List.all_eq_true.1 (List.all_eq_true.1 cnt2 a (List.mem_range.2 (by omega))) b (List.mem_range.2 hb)
     rw [decide_eq_true hab] at h5
     exact Nat.le_trans this (Nat.le_of_ble_eq_true h5)
   · have := hnd.length_le_of_subset (l₂ := (List.range 64).filter (fun s => decide (pop6 s ≤ 1))) fun s hs => by
      have hs64 : s < 64 := by have := (hlm s hs).1; omega
      refine List.mem_filter.2 ⟨List.mem_range.2 hs64, ?_⟩
      have h1 := List.all_eq_true.1 two6 s (List.mem_range.2 hs64)
      rw [Bool.or_eq_true] at h1
      rcases h1 with h1 | h1
      · exact h1
      · exfalso
        simp only [List.any_eq_true, Bool.and_eq_true, List.mem_range, decide_eq_true_eq] at h1
        obtain ⟨a, ha, b, hb, h5, h7, h8⟩ := h1
        exact h2 ⟨a, b, h5, hb, (hlm s hs).2.1 _ _ h7 h8⟩
     exact Nat.le_trans this cnt1
theorem gra_bit {i : Nat} : (defT B F n 0).testBit i = true ↔ i < n ∧ ∀ j, adj i j = false := by
 unfold defT
 rw [setK_bit, Bool.and_eq_true, decide_eq_true_eq, decide_eq_true_eq, zero_iff]
 have h0 : ∀ j, (attT B 0).testBit j = false := fun j => by
  cases ha : (attT B 0).testBit j with
  | false => rfl
  | true =>
   obtain ⟨i, h1, _⟩ := (att_bit h (Nat.two_pow_pos n)).1 ha
   rw [Nat.zero_testBit] at h1; cases h1
 refine and_congr Iff.rfl (forall_congr' fun j => ?_)
 rw [andN_bit, h0, h.f]; simp
theorem gra_fix : defT B F n (defT B F n 0) = defT B F n 0 := by
 obtain ⟨I, hI⟩ : ∃ I, I = defT B F n 0 := ⟨_, rfl⟩
 have hlt : I < 2 ^ n := by rw [hI]; exact defT_lt
 have h1 : ∀ i, I.testBit i = true ↔ i < n ∧ ∀ j, adj i j = false := fun i => by rw [hI]; exact gra_bit h
 have h0 : attT B I = 0 := zero_iff.2 fun j => by
  cases ha : (attT B I).testBit j with
  | false => rfl
  | true =>
   obtain ⟨i, h2, h3⟩ := (att_bit h hlt).1 ha
   rw [((h1 i).1 h2).2 j] at h3; cases h3
 have h00 : attT B 0 = 0 := zero_iff.2 fun j => by
  cases ha : (attT B 0).testBit j with
  | false => rfl
  | true =>
   obtain ⟨i, h1, _⟩ := (att_bit h (Nat.two_pow_pos n)).1 ha
   rw [Nat.zero_testBit] at h1; cases h1
 rw [← hI]
 rw [hI]
 show setK (fun i => decide (andN (F.getD i 0) (attT B (defT B F n 0)) = 0)) n = setK (fun i => decide (andN (F.getD i 0) (attT B 0) = 0)) n
 rw [← hI, h0, h00]
end gr
end Go.Proofs.Ytckmhlpngolbpaa
namespace Go.Ov
open Go.Sh Go.Tp
structure OJ (l : List Jb) : Prop where
 rg : ∀ i, i < l.length → 0 ≤ jf l i ∧ 1 ≤ jl l i ∧ jt l i = jf l i + jl l i ∧ jt l i ≤ 24 ∧ jp l i = 1
def ovB (l : List Jb) (i j : Nat) : Bool := decide (jf l i < jt l j ∧ jf l j < jt l i)
def subJ (l : List Jb) (c : List Nat) : List Jb := c.map fun i => l.getD i J0
def stJ (l : List Jb) (c : List Nat) : List Int := c.map fun i => jf l i
noncomputable def fitsT (l : List Jb) (c : List Nat) : Bool := if c.length = 0 then true else fitB 1 (subJ l c) [] (stJ l c)
theorem subJ_len {l : List Jb} {c : List Nat} : (subJ l c).length = c.length := by simp [subJ]
theorem stJ_len {l : List Jb} {c : List Nat} : (stJ l c).length = c.length := by simp [stJ]
theorem subJ_get {l : List Jb} {c : List Nat} {a : Nat} (h : a < c.length) : (subJ l c).getD a J0 = l.getD (c.getD a 0) J0 := by
 unfold subJ
 rw [List.getD_eq_getElem?_getD, List.getElem?_map, List.getElem?_eq_getElem h, List.getD_eq_getElem?_getD (l := c), List.getElem?_eq_getElem h]; rfl
theorem stJ_get {l : List Jb} {c : List Nat} {a : Nat} (h : a < c.length) : (stJ l c).getD a 0 = jf l (c.getD a 0) := by
 unfold stJ
 rw [List.getD_eq_getElem?_getD, List.getElem?_map, List.getElem?_eq_getElem h, List.getD_eq_getElem?_getD (l := c), List.getElem?_eq_getElem h]; rfl
def NmOk (l : List Jb) (c : List Nat) : Prop := ∀ a, a < c.length → c.getD a 0 < l.length
theorem vs_sub {l : List Jb} {c : List Nat} (h : OJ l) (hc : NmOk l c) (h1 : 1 ≤ c.length) (h6 : c.length ≤ 6) : VS 1 (subJ l c) [] := by
 refine ⟨by omega, by rw [subJ_len]; exact ⟨h1, h6⟩, by simp, fun m hm => ?_, fun m hm => by simp at hm⟩
 rw [subJ_len] at hm
 rw [subJ_get hm]
 have h2 := h.rg _ (hc m hm)
 unfold jf jt jl jp at h2
 unfold JobOk
 omega
theorem load_sub {l : List Jb} {c : List Nat} (h : OJ l) (hc : NmOk l c) (t : Int) :
  loadT (subJ l c) (stJ l c) t = sumZ (fun a => if a < c.length ∧ jf l (c.getD a 0) ≤ t ∧ t < jt l (c.getD a 0) then 1 else 0) c.length := by
 unfold loadT
 rw [stJ_len]
 refine sumZ_congr fun a ha => ?_
 have h2 := h.rg _ (hc a ha)
 have e1 : jp (subJ l c) a = 1 := by unfold jp; rw [subJ_get ha]; exact h2.2.2.2.2
 have e2 : jl (subJ l c) a = jl l (c.getD a 0) := by unfold jl; rw [subJ_get ha]
 rw [e1, e2, stJ_get ha]
 unfold onT
 by_cases e : jf l (c.getD a 0) ≤ t ∧ t < jt l (c.getD a 0)
 · rw [if_pos (by omega), if_pos ⟨ha, e⟩]; rfl
 · rw [if_neg (by omega), if_neg fun h => e h.2]; rfl
theorem fitsT_iff {l : List Jb} {c : List Nat} (h : OJ l) (hc : NmOk l c) : fitsT l c = true ↔ ∀ a b, a < b → b < c.length → ovB l (c.getD a 0) (c.getD b 0) = false := by
 unfold fitsT
 by_cases h0 : c.length = 0
 · rw [if_pos h0]
   exact ⟨fun _ a b _ hb => by omega, fun _ => rfl⟩
 rw [if_neg h0, fitB_iff]
 constructor
 · intro hf a b hab hb
   cases ho : ovB l (c.getD a 0) (c.getD b 0) with
   | false => rfl
   | true =>
    have ho := of_decide_eq_true ho
    have ha2 := h.rg _ (hc a (by omega))
    have hb2 := h.rg _ (hc b hb)
    obtain ⟨t, ht⟩ : ∃ t : Nat, (t : Int) = max (jf l (c.getD a 0)) (jf l (c.getD b 0)) := ⟨(max (jf l (c.getD a 0)) (jf l (c.getD b 0))).toNat, by omega⟩
    have hl := hf.load t (by omega)
    rw [load_sub h hc] at hl
    have h3 := sum_two (f := fun a => if a < c.length ∧ jf l (c.getD a 0) ≤ (t : Int) ∧ (t : Int) < jt l (c.getD a 0) then 1 else 0) (fun i => by split <;> omega) hab hb
    rw [if_pos ⟨by omega, by omega, by omega⟩, if_pos ⟨hb, by omega, by omega⟩] at h3
    omega
 · intro hd
   refine ⟨by rw [stJ_len, subJ_len], fun a ha => ?_, fun t ht => ?_, fun o ho => by simp at ho⟩
   · rw [subJ_len] at ha
     have h2 := h.rg _ (hc a ha)
     rw [stJ_get ha]
     unfold jf jt jl
     rw [subJ_get ha]
     unfold jf jt jl at h2
     omega
   · rw [load_sub h hc]
     refine (sum_one (fun i => ?_) fun i j hi hj e1 e2 => ?_).1
     · split
       · exact .inr rfl
       · exact .inl rfl
     · split at e1
       · rename_i a
         split at e2
         · rename_i b
           apply Classical.byContradiction
           intro hne
           have key : ∀ x y, x < y → y < c.length → jf l (c.getD x 0) ≤ (t : Int) ∧ (t : Int) < jt l (c.getD x 0) → jf l (c.getD y 0) ≤ (t : Int) ∧ (t : Int) < jt l (c.getD y 0) → False := fun x y hxy hy g1 g2 => by
            have := hd x y hxy hy
            rw [ovB, decide_eq_false_iff_not] at this
            omega
           rcases Nat.lt_or_gt_of_ne hne with h1 | h1
           · exact key i j h1 hj a.2 b.2
           · exact key j i h1 hi b.2 a.2
         · omega
       · omega
end Go.Ov
namespace Go.Proofs.Ytckmhlpngolbpaa
open Int renaming reduceToNat → zr, reduceTDiv → zd, reduceTMod → zm
open Go Go.Vc Go.Sh Go.Tp Go.Ov
abbrev Tv2 := Int × Int × Unit
@[reducible] def E0 : Tv2 := (0, 0, ())
def frF (x : List Tv2) (i : Nat) : Int := if i < x.length then (x.getD i E0).1.tmod 15 else 0
def lnF (x : List Tv2) (i : Nat) : Int := if i < x.length then (x.getD i E0).2.1.tmod 6 + 1 else 1
def jobF (x : List Tv2) (i : Nat) : Jb := (frF x i, frF x i + lnF x i, lnF x i, 1, ())
def sm2o (y : List Tv2) : Prop := ∀ i, (0 ≤ (y.getD i E0).1 ∧ (y.getD i E0).1 ≤ 255) ∧ 0 ≤ (y.getD i E0).2.1 ∧ (y.getD i E0).2.1 ≤ 255
theorem frF_rg {x : List Tv2} {i : Nat} (hx : sm2o x) : 0 ≤ frF x i ∧ frF x i ≤ 14 := by
 unfold frF
 have h := (hx i).1.1
 split
 · rw [Int.tmod_eq_emod_of_nonneg h]; omega
 · omega
theorem lnF_rg {x : List Tv2} {i : Nat} (hx : sm2o x) : 1 ≤ lnF x i ∧ lnF x i ≤ 6 := by
 unfold lnF
 have h := (hx i).2.1
 split
 · rw [Int.tmod_eq_emod_of_nonneg h]; omega
 · omega
def jobK (x : List Tv2) (k : Nat) : List Jb := (List.range k).map (jobF x)
theorem jobK_len {x : List Tv2} {k : Nat} : (jobK x k).length = k := by simp [jobK]
theorem jobK_add {x : List Tv2} {k : Nat} : jobK x (k + 1) = jobK x k ++ [jobF x k] := by unfold jobK; rw [List.range_succ, List.map_append]; rfl
theorem jobK_get {x : List Tv2} {k i : Nat} (h : i < k) : (jobK x k).getD i J0 = jobF x i := by
 unfold jobK
 rw [List.getD_eq_getElem?_getD, List.getElem?_map, List.getElem?_range h]; rfl
theorem jobK_OJ {x : List Tv2} {k : Nat} (hx : sm2o x) : OJ (jobK x k) := ⟨fun i hi => by
 rw [jobK_len] at hi
 have h1 := frF_rg (i := i) hx
 have h2 := lnF_rg (i := i) hx
 unfold jf jt jl jp
 rw [jobK_get hi]
 show 0 ≤ frF x i ∧ 1 ≤ lnF x i ∧ frF x i + lnF x i = frF x i + lnF x i ∧ frF x i + lnF x i ≤ 24 ∧ (1 : Int) = 1
 omega⟩
def ovX (x : List Tv2) (i j : Nat) : Bool := decide ((jobF x i).1 < (jobF x j).2.1 ∧ (jobF x j).1 < (jobF x i).2.1)
theorem ovX_comm {x : List Tv2} {i j : Nat} : ovX x i j = ovX x j i := by unfold ovX; rw [decide_eq_decide]; omega
theorem ovB_X {x : List Tv2} {k i j : Nat} (hi : i < k) (hj : j < k) : Ov.ovB (jobK x k) i j = ovX x i j := by
 unfold Ov.ovB ovX jf jt
 rw [jobK_get hi, jobK_get hj]
def atI (o : Nat → Nat → Bool) (i : Nat) : Nat → List (Nat × Nat)
 | 0 => []
 | k + 1 => if o k i = true then atI o i k ++ [(i, k), (k, i)] else atI o i k
def atA (o : Nat → Nat → Bool) : Nat → List (Nat × Nat)
 | 0 => []
 | i + 1 => atA o i ++ atI o i i
theorem atI_len {o : Nat → Nat → Bool} {i : Nat} : ∀ {k : Nat}, (atI o i k).length ≤ 2 * k
 | 0 => by simp [atI]
 | k + 1 => by
  rw [atI]
  have := atI_len (o := o) (i := i) (k := k)
  split
  · rw [List.length_append]; simp; omega
  · omega
theorem atA_len {o : Nat → Nat → Bool} : ∀ {i : Nat}, i ≤ 6 → (atA o i).length ≤ 5 * i ∧ (i = 0 ∨ (atA o i).length ≤ i * (i - 1))
 | 0, _ => by simp [atA]
 | i + 1, h => by
  rw [atA, List.length_append]
  have h1 := (atA_len (o := o) (i := i) (by omega)).2
  have h2 := atI_len (o := o) (i := i) (k := i)
  have h3 : i = 0 ∨ i = 1 ∨ i = 2 ∨ i = 3 ∨ i = 4 ∨ i = 5 := by omega
  rcases h3 with rfl | rfl | rfl | rfl | rfl | rfl
  · have e : (atA o 0).length = 0 := rfl
    rw [e]; omega
  all_goals (rcases h1 with h1 | h1 <;> omega)
theorem atI_mem {o : Nat → Nat → Bool} {i a b : Nat} : ∀ {k : Nat}, (a, b) ∈ atI o i k ↔ (a = i ∧ b < k ∧ o b i = true) ∨ (b = i ∧ a < k ∧ o a i = true)
 | 0 => by simp [atI]
 | k + 1 => by
  rw [atI]
  have ih := atI_mem (o := o) (i := i) (a := a) (b := b) (k := k)
  have e1 : ∀ {c : Nat}, c < k + 1 ↔ c < k ∨ c = k := by omega
  split
  · rename_i ho
    rw [List.mem_append, ih]
    simp only [List.mem_cons, List.not_mem_nil, or_false, Prod.mk.injEq, e1]
    constructor
    · rintro ((⟨h1, h2, h3⟩ | ⟨h1, h2, h3⟩) | (⟨h1, h2⟩ | ⟨h1, h2⟩))
      · exact .inl ⟨h1, .inl h2, h3⟩
      · exact .inr ⟨h1, .inl h2, h3⟩
      · subst h1; subst h2; exact .inl ⟨rfl, .inr rfl, ho⟩
      · subst h1; subst h2; exact .inr ⟨rfl, .inr rfl, ho⟩
    · rintro (⟨h1, h2 | h2, h3⟩ | ⟨h1, h2 | h2, h3⟩)
      · exact .inl (.inl ⟨h1, h2, h3⟩)
      · exact .inr (.inl ⟨h1, h2⟩)
      · exact .inl (.inr ⟨h1, h2, h3⟩)
      · exact .inr (.inr ⟨h2, h1⟩)
  · rename_i ho
    rw [ih]
    simp only [e1]
    constructor
    · rintro (⟨h1, h2, h3⟩ | ⟨h1, h2, h3⟩)
      · exact .inl ⟨h1, .inl h2, h3⟩
      · exact .inr ⟨h1, .inl h2, h3⟩
    · rintro (⟨h1, h2 | h2, h3⟩ | ⟨h1, h2 | h2, h3⟩)
      · exact .inl ⟨h1, h2, h3⟩
      · subst h2; exact absurd h3 ho
      · exact .inr ⟨h1, h2, h3⟩
      · subst h2; exact absurd h3 ho
theorem atA_mem {o : Nat → Nat → Bool} (hs : ∀ i j, o i j = o j i) {a b : Nat} : ∀ {n : Nat}, (a, b) ∈ atA o n ↔ a < n ∧ b < n ∧ a ≠ b ∧ o a b = true
 | 0 => by simp [atA]
 | n + 1 => by
  rw [atA, List.mem_append, atA_mem hs (n := n), atI_mem]
  constructor
  · rintro (⟨h1, h2, h3, h4⟩ | ⟨h1, h2, h3⟩ | ⟨h1, h2, h3⟩)
    · exact ⟨by omega, by omega, h3, h4⟩
    · subst h1; exact ⟨by omega, by omega, by omega, by rw [hs]; exact h3⟩
    · subst h1; exact ⟨by omega, by omega, by omega, h3⟩
  · rintro ⟨h1, h2, h3, h4⟩
    by_cases ha : a = n
    · subst ha; exact .inr (.inl ⟨rfl, by omega, by rw [hs]; exact h4⟩)
    · by_cases hb : b = n
      · subst hb; exact .inr (.inr ⟨rfl, by omega, h4⟩)
      · exact .inl ⟨by omega, by omega, h3, h4⟩
theorem mem_ix {l : List (Nat × Nat)} {a b : Nat} : (∃ m, m < l.length ∧ l.getD m (0, 0) = (a, b)) ↔ (a, b) ∈ l := by
 constructor
 · rintro ⟨m, h1, h2⟩
   rw [List.getD_eq_getElem?_getD, List.getElem?_eq_getElem h1] at h2
   have h2 : l[m] = (a, b) := h2
   rw [← h2]; exact List.getElem_mem _
 · intro h
   obtain ⟨m, h1, h2⟩ := List.getElem_of_mem h
   exact ⟨m, h1, by rw [List.getD_eq_getElem?_getD, List.getElem?_eq_getElem h1]; exact h2⟩
def adjX (x : List Tv2) (n i j : Nat) : Bool := decide (i < n ∧ j < n ∧ i ≠ j ∧ ovX x i j = true)
theorem at_ok {x : List Tv2} {n : Nat} : PrOk (atA (ovX x) n) n := fun k hk => by
 have h : ((atA (ovX x) n).getD k (0, 0)).1 = ((atA (ovX x) n).getD k (0, 0)).1 := rfl
 have hm : (atA (ovX x) n).getD k (0, 0) ∈ atA (ovX x) n := by
  rw [List.getD_eq_getElem?_getD, List.getElem?_eq_getElem hk]; exact List.getElem_mem _
 have := (atA_mem (fun i j => ovX_comm) (a := ((atA (ovX x) n).getD k (0, 0)).1) (b := ((atA (ovX x) n).getD k (0, 0)).2)).1 hm
 exact ⟨this.1, this.2.1⟩
theorem at_GR {x : List Tv2} {n : Nat} (hn : n ≤ 6) : GR (byT (atA (ovX x) n) n) (frT (atA (ovX x) n) n) n (adjX x n) := by
 have hc : ∀ i j : Nat, adjX x n i j = adjX x n j i := fun i j => by
  unfold adjX
  rw [decide_eq_decide, ovX_comm (i := i)]
  constructor <;> rintro ⟨h1, h2, h3, h4⟩ <;> exact ⟨h2, h1, Ne.symm h3, h4⟩
 refine ⟨hn, fun i j => ?_, fun i j => ?_, hc, fun i => ?_, fun i j h => ?_⟩
 · rw [Bool.eq_iff_iff, byK_bit at_ok (Nat.le_refl _), mem_ix, atA_mem (fun i j => ovX_comm)]
   unfold adjX; rw [decide_eq_true_eq]
 · rw [hc, Bool.eq_iff_iff, frK_bit at_ok (Nat.le_refl _), mem_ix, atA_mem (fun i j => ovX_comm)]
   unfold adjX; rw [decide_eq_true_eq]
 · unfold adjX; exact decide_eq_false fun h => h.2.2.1 rfl
 · unfold adjX at h; have := of_decide_eq_true h; exact ⟨this.1, this.2.1⟩
theorem lsT_pre {s a : Nat} : ∀ {b : Nat}, a ≤ b → ∃ r, lsT s b = lsT s a ++ r
  | 0, h => ⟨[], by have : a = 0 := by omega
                    subst this; simp⟩
  | b + 1, h => by
    by_cases e : a = b + 1
    · subst e; exact ⟨[], by simp⟩
    · obtain ⟨r, hr⟩ := lsT_pre (s := s) (a := a) (b := b) (by omega)
      cases hb : s.testBit b with
      | true => exact ⟨r ++ [b], by rw [lsT_yes hb, hr, List.append_assoc]⟩
      | false => exact ⟨r, by rw [lsT_no hb, hr]⟩
theorem lsT_at {s j : Nat} (hj : j < 12) : (decide ((lsT s j).length < (lsT s 12).length ∧ (lsT s 12).getD (lsT s j).length 0 = j)) = s.testBit j := by
 rw [Bool.eq_iff_iff, decide_eq_true_eq]
 constructor
 · rintro ⟨h1, h2⟩
   have h3 : (lsT s 12).getD (lsT s j).length 0 ∈ lsT s 12 := by
    rw [List.getD_eq_getElem?_getD, List.getElem?_eq_getElem h1]; exact List.getElem_mem _
   rw [h2] at h3
   exact (lsT_mem.1 h3).2
 · intro hb
   obtain ⟨r, hr⟩ := lsT_pre (s := s) (a := j + 1) (b := 12) (by omega)
   rw [lsT_yes hb, List.append_assoc] at hr
   rw [hr]
   refine ⟨by simp, ?_⟩
   rw [List.getD_eq_getElem?_getD, List.getElem?_append_right (Nat.le_refl _)]
   simp
theorem lsT_top {s n : Nat} (hs : s < 2 ^ n) (hn : n ≤ 12) : lsT s n = lsT s 12 := by
 have key : ∀ d, lsT s (n + d) = lsT s n := by
  intro d
  induction d with
  | zero => rfl
  | succ d ih =>
   have : s.testBit (n + d) = false := by
    cases h : s.testBit (n + d) with
    | false => rfl
    | true => have := bit_hi hs h; omega
   rw [← Nat.add_assoc, lsT_no this, ih]
 have := key (12 - n)
 rw [show n + (12 - n) = 12 by omega] at this
 exact this.symm
theorem lsT_lt {s k : Nat} : (lsT s k).Pairwise (· < ·) := by
 unfold lsT
 exact List.Pairwise.filter _ List.pairwise_lt_range
theorem lsT_ne {s k a b : Nat} (hab : a < b) (hb : b < (lsT s k).length) : (lsT s k).getD a 0 < (lsT s k).getD b 0 := by
 have h := List.pairwise_iff_getElem.1 (lsT_lt (s := s) (k := k)) a b (by omega) hb hab
 rw [List.getD_eq_getElem?_getD, List.getElem?_eq_getElem (by omega : a < (lsT s k).length), List.getD_eq_getElem?_getD, List.getElem?_eq_getElem hb]
 exact h
theorem lsT_ix {s k a : Nat} (ha : a < (lsT s k).length) : (lsT s k).getD a 0 < k ∧ s.testBit ((lsT s k).getD a 0) = true := by
 have h3 : (lsT s k).getD a 0 ∈ lsT s k := by
  rw [List.getD_eq_getElem?_getD, List.getElem?_eq_getElem ha]; exact List.getElem_mem _
 exact lsT_mem.1 h3
section law
variable {x : List Tv2} {n : Nat} (hx : sm2o x) (hn : n ≤ 6)
include hx hn
omit hn in
theorem mis_fits {s : Nat} (hs : s < 2 ^ n) (hm : mis (adjX x n) n s) : fitsT (jobK x n) (lsT s 12) = true := by
 have hnm : NmOk (jobK x n) (lsT s 12) := fun a ha => by rw [jobK_len]; exact bit_hi hs (lsT_ix ha).2
 refine (fitsT_iff (jobK_OJ hx) hnm).2 fun a b hab hb => ?_
 have h1 := lsT_ix (s := s) (k := 12) (a := a) (by omega)
 have h2 := lsT_ix hb
 have h3 := lsT_ne hab hb
 have h4 := bit_hi hs h1.2
 have h5 := bit_hi hs h2.2
 rw [ovB_X h4 h5]
 have h6 := hm.1 _ _ h1.2 h2.2
 cases ho : ovX x ((lsT s 12).getD a 0) ((lsT s 12).getD b 0) with
 | false => rfl
 | true =>
  unfold adjX at h6
  rw [decide_eq_false_iff_not] at h6
  exact absurd ⟨h4, h5, by omega, ho⟩ h6
theorem mis_more {s j : Nat} (hs : s < 2 ^ n) (hm : mis (adjX x n) n s) (hj : j < n) (hsj : s.testBit j = false) : fitsT (jobK x n) (lsT s 12 ++ [j]) = false := by
 have hnm : NmOk (jobK x n) (lsT s 12 ++ [j]) := fun a ha => by
  rw [List.length_append, List.length_singleton] at ha
  rw [jobK_len]
  by_cases e : a < (lsT s 12).length
  · rw [List.getD_eq_getElem?_getD, List.getElem?_append_left e, ← List.getD_eq_getElem?_getD]; exact bit_hi hs (lsT_ix e).2
  · have e : a = (lsT s 12).length := by omega
    subst e
    rw [List.getD_eq_getElem?_getD, List.getElem?_append_right (Nat.le_refl _)]; simpa using hj
 obtain ⟨i, h1, h2⟩ := hm.2 j hj hsj
 cases hf : fitsT (jobK x n) (lsT s 12 ++ [j]) with
 | false => rfl
 | true =>
  exfalso
  have hf := (fitsT_iff (jobK_OJ hx) hnm).1 hf
  obtain ⟨a, ha, he⟩ := List.getElem_of_mem (lsT_mem.2 ⟨by have := bit_hi hs h1; omega, h1⟩ : i ∈ lsT s 12)
  have h3 := hf a (lsT s 12).length ha (by simp)
  rw [List.getD_eq_getElem?_getD, List.getElem?_append_left ha, List.getElem?_eq_getElem ha, List.getD_eq_getElem?_getD, List.getElem?_append_right (Nat.le_refl _)] at h3
  have h3 : Ov.ovB (jobK x n) ((lsT s 12)[a]) ((([j] : List Nat)[(lsT s 12).length - (lsT s 12).length]?).getD 0) = false := h3
  rw [he, Nat.sub_self] at h3
  have h3 : Ov.ovB (jobK x n) i j = false := h3
  unfold adjX at h2
  have h4 := of_decide_eq_true h2
  rw [ovB_X h4.1 h4.2.1, h4.2.2.2] at h3
  cases h3
omit hn in
theorem two_fits {j k : Nat} (hj : j < n) (hk : k < n) : fitsT (jobK x n) [j, k] = !ovX x j k := by
 have hnm : NmOk (jobK x n) [j, k] := fun a ha => by
  rw [jobK_len]
  have ha : a < 2 := ha
  have : a = 0 ∨ a = 1 := by omega
  rcases this with rfl | rfl
  · exact hj
  · exact hk
 rw [Bool.eq_iff_iff, fitsT_iff (jobK_OJ hx) hnm, Bool.not_eq_true']
 constructor
 · intro h
   have := h 0 1 (by omega) (show 1 < 2 by decide)
   have this : Ov.ovB (jobK x n) j k = false := this
   rw [ovB_X hj hk] at this; exact this
 · intro h a b hab hb
   have hb : b < 2 := hb
   have h1 : a = 0 := by omega
   have h2 : b = 1 := by omega
   subst h1; subst h2
   show Ov.ovB (jobK x n) j k = false
   rw [ovB_X hj hk]; exact h
end law
open Int renaming reduceToNat → zr, reduceTDiv → zd, reduceTMod → zm
open Go Go.Vc Go.Sh
theorem sumZ_rg {f : Nat → Int} {c : Int} {n : Nat} (hc : 0 ≤ c) (h : ∀ i, i < n → 0 ≤ f i ∧ f i ≤ c) : ∀ {k : Nat}, k ≤ n → 0 ≤ sumZ f k ∧ sumZ f k ≤ c * k
 | 0, _ => by simp [sumZ]
 | k + 1, hk => by
  have h1 := sumZ_rg hc h (k := k) (by omega)
  have h2 := h k (by omega)
  rw [sumZ, show ((k + 1 : Nat) : Int) = (k : Int) + 1 by omega, Int.mul_add, Int.mul_one]
  omega
theorem need_rg {l : List Jb} (h : Bd l) {a b : Int} (ha : 0 ≤ a ∧ a ≤ b ∧ b ≤ 100) : ∀ i, i < l.length → 0 ≤ needT l i a b ∧ needT l i a b ≤ 10000 := fun i hi => by
 have hj := h.rg i hi
 exact nd_rg hj.2.2.1 hj.2.2.2 ha
theorem needs_rg {l : List Jb} (h : Bd l) {a b : Int} (ha : 0 ≤ a ∧ a ≤ b ∧ b ≤ 100) {k : Nat} (hk : k ≤ l.length) : 0 ≤ sumZ (fun i => needT l i a b) k ∧ sumZ (fun i => needT l i a b) k ≤ 1000000 := by
 have h1 := sumZ_rg (c := 10000) (by omega) (need_rg h ha) hk
 have := h.len
 omega
theorem needs_at {l : List Jb} (h : Bd l) {a b : Int} (ha : 0 ≤ a ∧ a ≤ b ∧ b ≤ 100) : FnAt Try.prog false 61 [.arr JT l, I64 a, I64 b] (.lit (.int .i64 (needsT l a b))) [] := by
 have hl := h.len
 have hll : @List.length JT.T l = l.length := rfl
 have hrg := fun i hi => needs_rg h ha (k := i) hi
 have hr1 := need_rg h ha
 obtain ⟨S, hS⟩ : ∃ S : Nat → Int, S = sumZ (fun i => needT l i a b) := ⟨_, rfl⟩
 have hSs : ∀ i, S i + jp l i * ndT (jf l i) (jt l i) (jl l i) a b = S (i + 1) := fun i => by rw [hS, sumZ]; rfl
 have hSn : needsT l a b = S l.length := by rw [hS]; rfl
 have hS0 : S 0 = 0 := by rw [hS]; rfl
 rw [← hS] at hrg
 rw [hSn]
 have hnd := fun i (hi : i < l.length) => need_at (f := jf l i) (t := jt l i) (n := jl l i) (p := jp l i) (a := a) (b := b) (h.rg i hi).1 (h.rg i hi).2.1 (h.rg i hi).2.2.1 (h.rg i hi).2.2.2 ha
 refine FnAt.of_body tys_ok Try.func61 (by rfl) rfl Try.ntmps61 (by rw [Try.results61]) (by simp) ?_
 repeat' (first
 | refine W.seq ?_
 | refine W.block ?_
 | (refine W.region tys_ok [] ?_; conv => whnf)
 | (refine W.drawAll tys_ok [] mixed rfl ?_; conv => whnf)
 | (refine W.ret ?_; conv => whnf)
 | (refine W.skip ?_; conv => whnf)
 | (refine W.exit ?_; conv => whnf)
 | (refine W.cond rfl (fun hb => ?_) (fun hb => ?_) <;> (try simp only [zr, zd, zm, minL, maxL, pickB, zA] at hb) <;> (try (first | (cases hb; done) | exact absurd hb (by decide) | (exfalso; omega))))
 | ((with_reducible refine And.intro ?_ ?_); exact zc; conv => whnf)
 | ((with_reducible refine And.intro (Side.out ?_) ?_); rotate_left; (conv => whnf))
 | ((first | refine retF1 ?_ | refine retF2 ?_) <;> (conv => whnf) <;> repeat' (first
 | exact trivial
 | (with_reducible rfl)
 | ((with_reducible refine And.intro ?_ ?_) <;> conv => whnf)
 | omega
 | rfl
 | (refine congrArg (SV.arr _) ?_)
 | (refine congrArg (Value.int _) ?_)
 | (refine congrArg Value.bool ?_)))); all_goals (try unfold Side)
 all_goals try (repeat' (first | exact zb | with_reducible refine And.intro ?_ ?_))
 refine W.loop (fun i : Nat => ⟨[(0, .st false (.arr JT l)), (1, .lit (.int .i64 (a))), (2, .lit (.int .i64 (b))), (7, .lit (.int .i64 ((S i)))), (10, .st false (.arr JT l)), (11, .lit (.int .i64 ((l.length : Int)))), (12, .lit (.int .i64 (i)))], []⟩) (fun i => i ≤ l.length) (fun i => l.length - i) (0) ?_ ?_
 · refine ⟨Nat.zero_le _, ?_⟩
   refine subF.ok ?_ <;> (conv => whnf) <;> repeat' (first
 | exact trivial
 | (with_reducible rfl)
 | ((with_reducible refine And.intro ?_ ?_) <;> conv => whnf)
 | omega
 | rfl
 | (refine congrArg (SV.arr _) ?_)
 | (refine congrArg (Value.int _) ?_)
 | (refine congrArg Value.bool ?_))
   all_goals exact hS0.symm
 · intro i hi
   by_cases hil : i < l.length
   · have hn := hnd i hil
     have h1 := hr1 i hil
     have h2 := hrg i hi
     have hs := hSs i
     have h3 := hrg (i + 1) (by omega)
     have hik : InK .i64 (S i + jp l i * ndT (jf l i) (jt l i) (jl l i) a b) := by rw [hs]; simp only [InK]; omega
     repeat' (first
 | refine W.seq ?_
 | refine W.block ?_
 | (refine W.region tys_ok [] ?_; conv => whnf)
 | (refine W.drawAll tys_ok [] mixed rfl ?_; conv => whnf)
 | (refine W.ret ?_; conv => whnf)
 | (refine W.skip ?_; conv => whnf)
 | (refine W.exit ?_; conv => whnf)
 | (refine call_at (al := false) (hn) rfl rfl rfl rfl ?_; conv => whnf)
 | (refine W.cond rfl (fun hb => ?_) (fun hb => ?_) <;> (try simp only [zr, zd, zm, minL, maxL, pickB, zA] at hb) <;> (try (first | (cases hb; done) | exact absurd hb (by decide) | (exfalso; omega))))
 | ((with_reducible refine And.intro ?_ ?_); exact zc; conv => whnf)
 | ((with_reducible refine And.intro (Side.out ?_) ?_); rotate_left; (conv => whnf))
 | ((first | refine retF1 ?_ | refine retF2 ?_) <;> (conv => whnf) <;> repeat' (first
 | exact trivial
 | (with_reducible rfl)
 | ((with_reducible refine And.intro ?_ ?_) <;> conv => whnf)
 | omega
 | rfl
 | (refine congrArg (SV.arr _) ?_)
 | (refine congrArg (Value.int _) ?_)
 | (refine congrArg Value.bool ?_)))); all_goals (try unfold Side)
     all_goals try exact hik
     all_goals try (repeat' (first | exact zb | with_reducible refine And.intro ?_ ?_))
     refine ⟨i + 1, ⟨by omega, by omega⟩, ?_⟩
     refine subF.ok ?_ <;> (conv => whnf) <;> repeat' (first
 | exact trivial
 | (with_reducible rfl)
 | ((with_reducible refine And.intro ?_ ?_) <;> conv => whnf)
 | omega
 | rfl
 | (refine congrArg (SV.arr _) ?_)
 | (refine congrArg (Value.int _) ?_)
 | (refine congrArg Value.bool ?_))
     all_goals exact hs
   · have hie : l.length = i := by omega
     subst hie
     repeat' (first
 | refine W.seq ?_
 | refine W.block ?_
 | (refine W.region tys_ok [] ?_; conv => whnf)
 | (refine W.drawAll tys_ok [] mixed rfl ?_; conv => whnf)
 | (refine W.ret ?_; conv => whnf)
 | (refine W.skip ?_; conv => whnf)
 | (refine W.exit ?_; conv => whnf)
 | (refine W.cond rfl (fun hb => ?_) (fun hb => ?_) <;> (try simp only [zr, zd, zm, minL, maxL, pickB, zA] at hb) <;> (try (first | (cases hb; done) | exact absurd hb (by decide) | (exfalso; omega))))
 | ((with_reducible refine And.intro ?_ ?_); exact zc; conv => whnf)
 | ((with_reducible refine And.intro (Side.out ?_) ?_); rotate_left; (conv => whnf))
 | ((first | refine retF1 ?_ | refine retF2 ?_) <;> (conv => whnf) <;> repeat' (first
 | exact trivial
 | (with_reducible rfl)
 | ((with_reducible refine And.intro ?_ ?_) <;> conv => whnf)
 | omega
 | rfl
 | (refine congrArg (SV.arr _) ?_)
 | (refine congrArg (Value.int _) ?_)
 | (refine congrArg Value.bool ?_)))); all_goals (try unfold Side)
     all_goals try (repeat' (first | exact zb | with_reducible refine And.intro ?_ ?_))
theorem clone_at {l : List Jb} (h : 1 ≤ l.length) (hl : l.length ≤ 1000) : FnAt Try.prog false 25 [.arr JT l] (.own 0) [(0, .row 30 JT true l)] := by
 have hwl : @List.length JT.T l ≤ 1000 := hl
 have hne : l ≠ [] := fun e => by rw [e] at h; simp at h
 have he : l.isEmpty = false := by cases l with | nil => exact absurd rfl hne | cons => rfl
 have hn : FnAt Try.prog false 25 [.narr JT l] (.own 0) [(0, .row 30 JT true l)] := by
  refine FnAt.of_body tys_ok Try.func25 (by rfl) rfl Try.ntmps25 (by rw [Try.results25]) (by simp) ?_
  repeat' (first
 | refine W.seq ?_
 | refine W.block ?_
 | (refine W.region tys_ok [] ?_; conv => whnf)
 | (refine W.drawAll tys_ok [] mixed rfl ?_; conv => whnf)
 | (refine W.ret ?_; conv => whnf)
 | (refine W.skip ?_; conv => whnf)
 | (refine W.exit ?_; conv => whnf)
 | (refine W.cond rfl (fun hb => ?_) (fun hb => ?_) <;> (try simp only [zr, zd, zm, minL, maxL, pickB, zA] at hb) <;> (try (first | (cases hb; done) | exact absurd hb (by decide) | (exfalso; omega) | (exact Bool.noConfusion (hb.symm.trans he)))))
 | ((with_reducible refine And.intro ?_ ?_); exact zc; conv => whnf)
 | ((with_reducible refine And.intro (Side.out ?_) ?_); rotate_left; (conv => whnf))
 | ((first | refine retF1 ?_ | refine retF2 ?_) <;> (conv => whnf) <;> repeat' (first
 | exact trivial
 | (with_reducible rfl)
 | ((with_reducible refine And.intro ?_ ?_) <;> conv => whnf)
 | omega
 | rfl
 | (refine congrArg (SV.arr _) ?_)
 | (refine congrArg (Value.int _) ?_)
 | (refine congrArg Value.bool ?_)))); all_goals (try unfold Side)
  all_goals try (repeat' (first | exact zb | with_reducible refine And.intro ?_ ?_))
 refine ⟨hn.1, fun w O vals hO ha => hn.2 w O vals hO ⟨by simpa using ha.1, fun i v A hv hA => ?_⟩⟩
 cases i with
 | zero =>
  simp at hA
  subst hA
  exact .narr _ _ _ (ha.2 0 v _ hv rfl) (fun h => absurd h hne)
 | succ i => exact ha.2 (i + 1) v A hv (by simp at hA)
theorem late_at {l : List Jb} (h : Bd l) {x y : Int} (hx : 0 ≤ x ∧ x < l.length) (hy : 0 ≤ y ∧ y < l.length) : FnAt Try.prog false 42 [.agg [I64 x, I64 y], .arr JT l] (.lit (.bool (lateT l (x, y, ())))) [] := by
 have hl := h.len
 have hll : @List.length JT.T l = l.length := rfl
 have h1 := h.rg x.toNat (by omega)
 have h2 := h.rg y.toNat (by omega)
 unfold jf jt jl jp at h1 h2
 refine FnAt.of_body tys_ok Try.func42 (by rfl) rfl Try.ntmps42 (by rw [Try.results42]) (by simp) ?_
 repeat' (first
 | refine W.seq ?_
 | refine W.block ?_
 | (refine W.resub (x := Code.region 1 _ _) (Γ' := ⟨[(1, .st false (.arr JT l)), (2, .st true (.sadr (.agg [I64 x, I64 y])))], []⟩) ?_ (W.drawPh (id := 1) tys_ok [] mixed [0, 0, 2, 5, 8, 0, 0, 64, 160, 256, 0, 0, 3103, 8191] [([0, 1, 2, 3, 4, 5, 6, 7, 8, 9], 2, 4095), ([], 1, 8191), ([], 1, 16383)] (by decide +kernel) ?_); rotate_left; (conv => whnf))
 | (refine W.region tys_ok [] ?_; conv => whnf)
 | (refine W.drawAll tys_ok [] mixed rfl ?_; conv => whnf)
 | (refine W.ret ?_; conv => whnf)
 | (refine W.skip ?_; conv => whnf)
 | (refine W.exit ?_; conv => whnf)
 | (refine Both.mk ?_ ?_ <;> (conv => whnf))
 | (refine W.cond rfl (fun hb => ?_) (fun hb => ?_) <;> (try simp only [zr, zd, zm, minL, maxL, pickB, zA] at hb) <;> (try (first | (cases hb; done) | exact absurd hb (by decide) | (exfalso; omega))))
 | ((with_reducible refine And.intro ?_ ?_); exact zc; conv => whnf)
 | ((with_reducible refine And.intro (Side.out ?_) ?_); rotate_left; (conv => whnf))
 | ((first | refine retF1 ?_ | refine retF2 ?_ | refine subF.leaf ?_ | refine subF.side ?_) <;> (conv => whnf) <;> repeat' (first
 | exact trivial
 | (with_reducible rfl)
 | ((with_reducible refine And.intro ?_ ?_) <;> conv => whnf)
 | omega
 | rfl
 | (refine congrArg (SV.arr _) ?_)
 | (refine congrArg (Value.int _) ?_)
 | (refine congrArg Value.bool ?_)))); all_goals (try unfold Side)
 all_goals try (repeat' (first | exact zb | with_reducible refine And.intro ?_ ?_))
open Go Go.Vc Go.Sh
set_option maxHeartbeats 4000000 in
theorem valid_at {P : Int} {l : List Jb} {os : List Od} (hl : l.length ≤ 1000) (ho : os.length ≤ 1000) : FnAt Try.prog false 16 [.agg [I64 P, .arr JT l, .arr OT os]] (.lit (.bool (validB P l os))) [] := by
 have hno0 : ¬ ((1 ≤ P ∧ P ≤ 20) ∧ (1 ≤ l.length ∧ l.length ≤ 6) ∧ os.length ≤ 20) → validB P l os = false := fun hc => validB_no fun h => hc ⟨h.pw, h.ln, h.lo⟩
 have hno1 : ∀ i, i < l.length → ¬ JobOk (l.getD i J0) → validB P l os = false := fun i hi hc => validB_no fun h => hc (h.rg i hi)
 have hno2 : ∀ i, i < os.length → ¬ OrdOk l.length (os.getD i O0) → validB P l os = false := fun i hi hc => validB_no fun h => hc (h.od i hi)
 have hend : ((1 ≤ P ∧ P ≤ 20) ∧ (1 ≤ l.length ∧ l.length ≤ 6) ∧ os.length ≤ 20) → (∀ i, i < l.length → JobOk (l.getD i J0)) → (∀ i, i < os.length → OrdOk l.length (os.getD i O0)) → validB P l os = true := fun h0 h1 h2 => validB_yes ⟨h0.1, h0.2.1, h0.2.2, h1, h2⟩
 obtain ⟨V, hV⟩ : ∃ V, V = validB P l os := ⟨_, rfl⟩
 rw [← hV] at hno0 hno1 hno2 hend ⊢
 clear hV
 have hll : @List.length JT.T l = l.length := rfl
 have hlo : @List.length OT.T os = os.length := rfl
 refine FnAt.of_body tys_ok Try.func16 (by rfl) rfl Try.ntmps16 (by rw [Try.results16]) (by simp) ?_
 by_cases h0 : (1 ≤ P ∧ P ≤ 20) ∧ (1 ≤ l.length ∧ l.length ≤ 6) ∧ os.length ≤ 20
 · repeat' (first
 | refine W.seq ?_
 | refine W.block ?_
 | (refine W.region tys_ok [] ?_; conv => whnf)
 | (refine W.drawAll tys_ok [] mixed rfl ?_; conv => whnf)
 | (refine W.ret ?_; conv => whnf)
 | (refine W.skip ?_; conv => whnf)
 | (refine W.exit ?_; conv => whnf)
 | (refine W.cond rfl (fun hb => ?_) (fun hb => ?_) <;> (try simp only [zr, zd, zm, minL, maxL, pickB, zA] at hb) <;> (try (first | (cases hb; done) | exact absurd hb (by decide) | (exfalso; omega) | (omega))))
 | ((with_reducible refine And.intro ?_ ?_); exact zc; conv => whnf)
 | ((with_reducible refine And.intro (Side.out ?_) ?_); rotate_left; (conv => whnf))
 | ((first | refine retF1 ?_ | refine retF2 ?_) <;> (conv => whnf) <;> repeat' (first
 | exact trivial
 | (with_reducible rfl)
 | ((with_reducible refine And.intro ?_ ?_) <;> conv => whnf)
 | omega
 | rfl
 | (refine congrArg (SV.arr _) ?_)
 | (refine congrArg (Value.int _) ?_)
 | (refine congrArg Value.bool ?_)))); all_goals (try unfold Side)
   all_goals try (repeat' (first | exact zb | with_reducible refine And.intro ?_ ?_))
   refine W.loop (fun i : Nat => ⟨[(1, .st false (.sadr (.agg [I64 P, .arr JT l, .arr OT os]))), (35, .st false (.arr JT l)), (36, .lit (.int .i64 ((l.length : Int)))), (37, .lit (.int .i64 (i)))], []⟩) (fun i => i ≤ l.length ∧ (∀ m, m < i → JobOk (l.getD m J0))) (fun i => l.length - i) (0) ?_ ?_
   · refine ⟨⟨Nat.zero_le _, by omega⟩, ?_⟩
     refine subF.ok ?_ <;> (conv => whnf) <;> repeat' (first
 | exact trivial
 | (with_reducible rfl)
 | ((with_reducible refine And.intro ?_ ?_) <;> conv => whnf)
 | omega
 | rfl
 | (refine congrArg (SV.arr _) ?_)
 | (refine congrArg (Value.int _) ?_)
 | (refine congrArg Value.bool ?_))
   · rintro i ⟨hi, hj⟩
     by_cases hil : i < l.length
     · have hn := hno1 i hil
       by_cases hc : JobOk (l.getD i J0)
       · have hc' := hc
         unfold JobOk at hc'
         repeat' (first
 | refine W.seq ?_
 | refine W.block ?_
 | (refine W.region tys_ok [] ?_; conv => whnf)
 | (refine W.drawAll tys_ok [] mixed rfl ?_; conv => whnf)
 | (refine W.ret ?_; conv => whnf)
 | (refine W.skip ?_; conv => whnf)
 | (refine W.exit ?_; conv => whnf)
 | (refine W.cond rfl (fun hb => ?_) (fun hb => ?_) <;> (try simp only [zr, zd, zm, minL, maxL, pickB, zA] at hb) <;> (try (first | (cases hb; done) | exact absurd hb (by decide) | (exfalso; omega) | (omega))))
 | ((with_reducible refine And.intro ?_ ?_); exact zc; conv => whnf)
 | ((with_reducible refine And.intro (Side.out ?_) ?_); rotate_left; (conv => whnf))
 | ((first | refine retF1 ?_ | refine retF2 ?_) <;> (conv => whnf) <;> repeat' (first
 | exact trivial
 | (with_reducible rfl)
 | ((with_reducible refine And.intro ?_ ?_) <;> conv => whnf)
 | omega
 | rfl
 | (refine congrArg (SV.arr _) ?_)
 | (refine congrArg (Value.int _) ?_)
 | (refine congrArg Value.bool ?_)))); all_goals (try unfold Side)
         all_goals try (repeat' (first | exact zb | with_reducible refine And.intro ?_ ?_))
         refine ⟨i + 1, ⟨⟨by omega, fun m hm => ?_⟩, by omega⟩, ?_⟩
         · by_cases e : m = i
           · subst e; exact hc
           · exact hj m (by omega)
         · refine subF.ok ?_ <;> (conv => whnf) <;> repeat' (first
 | exact trivial
 | (with_reducible rfl)
 | ((with_reducible refine And.intro ?_ ?_) <;> conv => whnf)
 | omega
 | rfl
 | (refine congrArg (SV.arr _) ?_)
 | (refine congrArg (Value.int _) ?_)
 | (refine congrArg Value.bool ?_))
       · have hc' := hc
         have hn := hn hc
         unfold JobOk at hc'
         repeat' (first
 | refine W.seq ?_
 | refine W.block ?_
 | (refine W.region tys_ok [] ?_; conv => whnf)
 | (refine W.drawAll tys_ok [] mixed rfl ?_; conv => whnf)
 | (refine W.ret ?_; conv => whnf)
 | (refine W.skip ?_; conv => whnf)
 | (refine W.exit ?_; conv => whnf)
 | (refine W.cond rfl (fun hb => ?_) (fun hb => ?_) <;> (try simp only [zr, zd, zm, minL, maxL, pickB, zA] at hb) <;> (try (first | (cases hb; done) | exact absurd hb (by decide) | (exfalso; omega) | (omega))))
 | ((with_reducible refine And.intro ?_ ?_); exact zc; conv => whnf)
 | ((with_reducible refine And.intro (Side.out ?_) ?_); rotate_left; (conv => whnf))
 | ((first | refine retF1 ?_ | refine retF2 ?_) <;> (conv => whnf) <;> repeat' (first
 | exact trivial
 | (with_reducible rfl)
 | ((with_reducible refine And.intro ?_ ?_) <;> conv => whnf)
 | omega
 | rfl
 | (refine congrArg (SV.arr _) ?_)
 | (refine congrArg (Value.int _) ?_)
 | (refine congrArg Value.bool ?_)))); all_goals (try unfold Side)
         all_goals try (repeat' (first | exact zb | with_reducible refine And.intro ?_ ?_))
         all_goals exact hn.symm
     · have hie : l.length = i := by omega
       subst hie
       repeat' (first
 | refine W.seq ?_
 | refine W.block ?_
 | (refine W.region tys_ok [] ?_; conv => whnf)
 | (refine W.drawAll tys_ok [] mixed rfl ?_; conv => whnf)
 | (refine W.ret ?_; conv => whnf)
 | (refine W.skip ?_; conv => whnf)
 | (refine W.exit ?_; conv => whnf)
 | (refine W.cond rfl (fun hb => ?_) (fun hb => ?_) <;> (try simp only [zr, zd, zm, minL, maxL, pickB, zA] at hb) <;> (try (first | (cases hb; done) | exact absurd hb (by decide) | (exfalso; omega))))
 | ((with_reducible refine And.intro ?_ ?_); exact zc; conv => whnf)
 | ((with_reducible refine And.intro (Side.out ?_) ?_); rotate_left; (conv => whnf))
 | ((first | refine retF1 ?_ | refine retF2 ?_) <;> (conv => whnf) <;> repeat' (first
 | exact trivial
 | (with_reducible rfl)
 | ((with_reducible refine And.intro ?_ ?_) <;> conv => whnf)
 | omega
 | rfl
 | (refine congrArg (SV.arr _) ?_)
 | (refine congrArg (Value.int _) ?_)
 | (refine congrArg Value.bool ?_)))); all_goals (try unfold Side)
       all_goals try (repeat' (first | exact zb | with_reducible refine And.intro ?_ ?_))
       refine W.loop (fun i : Nat => ⟨[(5, .lit (.int .i64 ((l.length : Int)))), (86, .st false (.arr OT os)), (87, .lit (.int .i64 ((os.length : Int)))), (88, .lit (.int .i64 (i)))], []⟩) (fun i => i ≤ os.length ∧ (∀ m, m < i → OrdOk l.length (os.getD m O0))) (fun i => os.length - i) (0) ?_ ?_
       · refine ⟨⟨Nat.zero_le _, by omega⟩, ?_⟩
         refine subF.ok ?_ <;> (conv => whnf) <;> repeat' (first
 | exact trivial
 | (with_reducible rfl)
 | ((with_reducible refine And.intro ?_ ?_) <;> conv => whnf)
 | omega
 | rfl
 | (refine congrArg (SV.arr _) ?_)
 | (refine congrArg (Value.int _) ?_)
 | (refine congrArg Value.bool ?_))
       · rintro i ⟨hi, hj2⟩
         by_cases hil : i < os.length
         · have hn := hno2 i hil
           by_cases hc : OrdOk l.length (os.getD i O0)
           · have hc' := hc
             unfold OrdOk at hc'
             repeat' (first
 | refine W.seq ?_
 | refine W.block ?_
 | (refine W.region tys_ok [] ?_; conv => whnf)
 | (refine W.drawAll tys_ok [] mixed rfl ?_; conv => whnf)
 | (refine W.ret ?_; conv => whnf)
 | (refine W.skip ?_; conv => whnf)
 | (refine W.exit ?_; conv => whnf)
 | (refine W.cond rfl (fun hb => ?_) (fun hb => ?_) <;> (try simp only [zr, zd, zm, minL, maxL, pickB, zA] at hb) <;> (try (first | (cases hb; done) | exact absurd hb (by decide) | (exfalso; omega) | (omega))))
 | ((with_reducible refine And.intro ?_ ?_); exact zc; conv => whnf)
 | ((with_reducible refine And.intro (Side.out ?_) ?_); rotate_left; (conv => whnf))
 | ((first | refine retF1 ?_ | refine retF2 ?_) <;> (conv => whnf) <;> repeat' (first
 | exact trivial
 | (with_reducible rfl)
 | ((with_reducible refine And.intro ?_ ?_) <;> conv => whnf)
 | omega
 | rfl
 | (refine congrArg (SV.arr _) ?_)
 | (refine congrArg (Value.int _) ?_)
 | (refine congrArg Value.bool ?_)))); all_goals (try unfold Side)
             all_goals try (repeat' (first | exact zb | with_reducible refine And.intro ?_ ?_))
             refine ⟨i + 1, ⟨⟨by omega, fun m hm => ?_⟩, by omega⟩, ?_⟩
             · by_cases e : m = i
               · subst e; exact hc
               · exact hj2 m (by omega)
             · refine subF.ok ?_ <;> (conv => whnf) <;> repeat' (first
 | exact trivial
 | (with_reducible rfl)
 | ((with_reducible refine And.intro ?_ ?_) <;> conv => whnf)
 | omega
 | rfl
 | (refine congrArg (SV.arr _) ?_)
 | (refine congrArg (Value.int _) ?_)
 | (refine congrArg Value.bool ?_))
           · have hc' := hc
             have hn := hn hc
             unfold OrdOk at hc'
             repeat' (first
 | refine W.seq ?_
 | refine W.block ?_
 | (refine W.region tys_ok [] ?_; conv => whnf)
 | (refine W.drawAll tys_ok [] mixed rfl ?_; conv => whnf)
 | (refine W.ret ?_; conv => whnf)
 | (refine W.skip ?_; conv => whnf)
 | (refine W.exit ?_; conv => whnf)
 | (refine W.cond rfl (fun hb => ?_) (fun hb => ?_) <;> (try simp only [zr, zd, zm, minL, maxL, pickB, zA] at hb) <;> (try (first | (cases hb; done) | exact absurd hb (by decide) | (exfalso; omega) | (omega))))
 | ((with_reducible refine And.intro ?_ ?_); exact zc; conv => whnf)
 | ((with_reducible refine And.intro (Side.out ?_) ?_); rotate_left; (conv => whnf))
 | ((first | refine retF1 ?_ | refine retF2 ?_) <;> (conv => whnf) <;> repeat' (first
 | exact trivial
 | (with_reducible rfl)
 | ((with_reducible refine And.intro ?_ ?_) <;> conv => whnf)
 | omega
 | rfl
 | (refine congrArg (SV.arr _) ?_)
 | (refine congrArg (Value.int _) ?_)
 | (refine congrArg Value.bool ?_)))); all_goals (try unfold Side)
             all_goals try (repeat' (first | exact zb | with_reducible refine And.intro ?_ ?_))
             all_goals exact hn.symm
         · have hie : os.length = i := by omega
           subst hie
           repeat' (first
 | refine W.seq ?_
 | refine W.block ?_
 | (refine W.region tys_ok [] ?_; conv => whnf)
 | (refine W.drawAll tys_ok [] mixed rfl ?_; conv => whnf)
 | (refine W.ret ?_; conv => whnf)
 | (refine W.skip ?_; conv => whnf)
 | (refine W.exit ?_; conv => whnf)
 | (refine W.cond rfl (fun hb => ?_) (fun hb => ?_) <;> (try simp only [zr, zd, zm, minL, maxL, pickB, zA] at hb) <;> (try (first | (cases hb; done) | exact absurd hb (by decide) | (exfalso; omega))))
 | ((with_reducible refine And.intro ?_ ?_); exact zc; conv => whnf)
 | ((with_reducible refine And.intro (Side.out ?_) ?_); rotate_left; (conv => whnf))
 | ((first | refine retF1 ?_ | refine retF2 ?_) <;> (conv => whnf) <;> repeat' (first
 | exact trivial
 | (with_reducible rfl)
 | ((with_reducible refine And.intro ?_ ?_) <;> conv => whnf)
 | omega
 | rfl
 | (refine congrArg (SV.arr _) ?_)
 | (refine congrArg (Value.int _) ?_)
 | (refine congrArg Value.bool ?_)))); all_goals (try unfold Side)
           all_goals try (repeat' (first | exact zb | with_reducible refine And.intro ?_ ?_))
           all_goals exact (hend h0 hj hj2).symm
 · have hn := hno0 h0
   repeat' (first
 | refine W.seq ?_
 | refine W.block ?_
 | (refine W.region tys_ok [] ?_; conv => whnf)
 | (refine W.drawAll tys_ok [] mixed rfl ?_; conv => whnf)
 | (refine W.ret ?_; conv => whnf)
 | (refine W.skip ?_; conv => whnf)
 | (refine W.exit ?_; conv => whnf)
 | (refine W.cond rfl (fun hb => ?_) (fun hb => ?_) <;> (try simp only [zr, zd, zm, minL, maxL, pickB, zA] at hb) <;> (try (first | (cases hb; done) | exact absurd hb (by decide) | (exfalso; omega) | (omega))))
 | ((with_reducible refine And.intro ?_ ?_); exact zc; conv => whnf)
 | ((with_reducible refine And.intro (Side.out ?_) ?_); rotate_left; (conv => whnf))
 | ((first | refine retF1 ?_ | refine retF2 ?_) <;> (conv => whnf) <;> repeat' (first
 | exact trivial
 | (with_reducible rfl)
 | ((with_reducible refine And.intro ?_ ?_) <;> conv => whnf)
 | omega
 | rfl
 | (refine congrArg (SV.arr _) ?_)
 | (refine congrArg (Value.int _) ?_)
 | (refine congrArg Value.bool ?_)))); all_goals (try unfold Side)
   all_goals try (repeat' (first | exact zb | with_reducible refine And.intro ?_ ?_))
   all_goals exact hn.symm
open Int renaming reduceToNat → zr, reduceTDiv → zd, reduceTMod → zm
open Go Go.Vc Go.Sh
def Ords (os : List Od) (n : Nat) : Prop := os.length ≤ 100 ∧ ∀ i, i < os.length → 0 ≤ (os.getD i O0).1 ∧ (os.getD i O0).1 < n ∧ 0 ≤ (os.getD i O0).2.1 ∧ (os.getD i O0).2.1 < n
theorem bd_of {P : Int} {l : List Jb} {os : List Od} (h : VS P l os) : Bd l := ⟨by have := h.ln; omega, fun m hm => by
 have := h.rg m hm
 unfold JobOk at this
 unfold jf jt jl jp
 omega⟩
theorem ords_of {P : Int} {l : List Jb} {os : List Od} (h : VS P l os) : Ords os l.length := ⟨by have := h.lo; omega, fun i hi => by
 have := h.od i hi
 unfold OrdOk at this
 omega⟩
open Go Go.Vc Go.Sh
structure Vj (l : List Jb) (os : List Od) : Prop where
 bd : Bd l
 or : Ords os l.length
 rg : ∀ m, m < l.length → 0 ≤ jf l m ∧ jt l m ≤ 24 ∧ 1 ≤ jl l m
theorem vj_of {P : Int} {l : List Jb} {os : List Od} (h : VS P l os) : Vj l os := ⟨bd_of h, ords_of h, fun m hm => by
 have := h.pre.rg m hm
 omega⟩
end Go.Proofs.Ytckmhlpngolbpaa
