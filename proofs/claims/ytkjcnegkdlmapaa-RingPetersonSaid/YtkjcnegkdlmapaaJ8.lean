/- Joined of: R4 R5 R7 K9 R6 Vc34 Vc35. No condition. -/
import Derived.Test.YtkjcnegkdlmapaaJ7
import Derived.Test.YtkjcnegkdlmapaaJ5
import Derived.Test.YtkjcnegkdlmapaaJ4

namespace Go.Proofs.Ytkjcnegkdlmapaa
open Go Go.Vc Go.Rg
set_option linter.unusedVariables false
set_option linter.unusedSimpArgs false
variable {n : Nat} {pet : Bool} {r : Rn}
theorem chang_at {i : Nat} {k v : Int} (hp : i < r.1.length) (hi : i < r.2.1.length) (hf : ((r.2.1.getD i []).length : Int) ≤ r.2.2) (hs : 0 ≤ r.2.2 ∧ r.2.2 ≤ 1000000) : FnM Try.prog 66 [.padr 1000000000 0, (.lit (.int .i64 (i : Int))), .strct [(.lit (.int .i64 (k : Int))), (.lit (.int .i64 (v : Int)))]] [(1000000000, .box [.lit (.bool true), .lit (.bool pet), .own 1000000001, .mown 5, (.lit (.int .i64 ((r).2.2 : Int)))]), (1000000001, .row 105 PT true (r).1), (5, .mat 80 91 NT true (r).2.1 none)] (.tup []) [(1000000000, .box [.lit (.bool true), .lit (.bool pet), .own 1000000001, .mown 5, (.lit (.int .i64 (((changR i k v r)).2.2 : Int)))]), (1000000001, .row 105 PT true ((changR i k v r)).1), (5, .mat 80 91 NT true ((changR i k v r)).2.1 none)] := by
  unfold changR
  split
  · rename_i hk
    split
    · rename_i hv; exact chang_own hp hi hf hs hk hv
    · rename_i hv; exact chang_lead hp hi hf hs hk hv
  · rename_i hk
    split
    · rename_i hv; exact chang_win hp hi hf hs hk hv
    · rename_i hv
      split
      · rename_i hg; exact chang_pass hp hi hf hs hk hv hg
      · rename_i hg
        split
        · rename_i hb; exact chang_drop hp hi hf hs hk hv hg hb
        · rename_i hb; exact chang_wake hp hi hf hs hk hv hg (by simpa using hb)
theorem peter_at {i : Nat} {k v : Int} (hp : i < r.1.length) (hi : i < r.2.1.length) (hf : ((r.2.1.getD i []).length : Int) ≤ r.2.2) (hs : 0 ≤ r.2.2 ∧ r.2.2 ≤ 999999) : FnM Try.prog 67 [.padr 1000000000 0, (.lit (.int .i64 (i : Int))), .strct [(.lit (.int .i64 (k : Int))), (.lit (.int .i64 (v : Int)))]] [(1000000000, .box [.lit (.bool true), .lit (.bool pet), .own 1000000001, .mown 5, (.lit (.int .i64 ((r).2.2 : Int)))]), (1000000001, .row 105 PT true (r).1), (5, .mat 80 91 NT true (r).2.1 none)] (.tup []) [(1000000000, .box [.lit (.bool true), .lit (.bool pet), .own 1000000001, .mown 5, (.lit (.int .i64 (((peterR i k v r)).2.2 : Int)))]), (1000000001, .row 105 PT true ((peterR i k v r)).1), (5, .mat 80 91 NT true ((peterR i k v r)).2.1 none)] := by
  have hs' : 0 ≤ r.2.2 ∧ r.2.2 ≤ 1000000 := by omega
  unfold peterR wakeR
  cases hb : pB r.1 i with
  | true =>
    rw [if_pos rfl]
    unfold peterS
    split
    · rename_i hk
      split
      · rename_i h1; exact peter_lead0_b hp hb hi hf hs' hk h1
      · rename_i h1; exact peter_lead1_b hp hb hi hf hs' hk h1
    · rename_i hk
      split
      · rename_i h1; exact peter_relay_b hp hb hi hf hs' hk h1
      · rename_i h1
        have h1 : pR r.1 i = false := by simpa using h1
        split
        · rename_i h2
          split
          · rename_i h3; exact peter_win_b hp hb hi hf hs' hk h1 h2 h3
          · rename_i h3; exact peter_note_b hp hb hi hf hs' hk h1 h2 h3
        · rename_i h2
          split
          · rename_i h3; exact peter_up_b hp hb hi hf hs' hk h1 h2 h3.1 h3.2
          · rename_i h3; exact peter_down_b hp hb hi hf hs' hk h1 h2 h3
  | false =>
    rw [if_neg (by decide)]
    have hp1 : i < (beginR i r).1.length := by unfold beginR sendR; dsimp only; rw [setB_len]; exact hp
    have hi1 : i < (beginR i r).2.1.length := by unfold beginR sendR; dsimp only; rw [List.length_set]; exact hi
    have hf1 : (((beginR i r).2.1.getD i []).length : Int) ≤ (beginR i r).2.2 := by
      unfold beginR sendR; dsimp only
      rw [getD_setF hi, if_pos rfl, List.length_append, List.length_singleton]
      omega
    have hs1 : 0 ≤ (beginR i r).2.2 ∧ (beginR i r).2.2 ≤ 1000000 := by
      have : (beginR i r).2.2 = r.2.2 + 1 := rfl
      omega
    unfold peterS
    split
    · rename_i hk
      split
      · rename_i h1; exact peter_lead0_u hp hi hf hs' hb hp1 hi1 hf1 hs1 hk h1
      · rename_i h1; exact peter_lead1_u hp hi hf hs' hb hp1 hi1 hf1 hs1 hk h1
    · rename_i hk
      split
      · rename_i h1; exact peter_relay_u hp hi hf hs' hb hp1 hi1 hf1 hs1 hk h1
      · rename_i h1
        have h1 : pR (beginR i r).1 i = false := by simpa using h1
        split
        · rename_i h2
          split
          · rename_i h3; exact peter_win_u hp hi hf hs' hb hp1 hi1 hf1 hs1 hk h1 h2 h3
          · rename_i h3; exact peter_note_u hp hi hf hs' hb hp1 hi1 hf1 hs1 hk h1 h2 h3
        · rename_i h2
          split
          · rename_i h3; exact peter_up_u hp hi hf hs' hb hp1 hi1 hf1 hs1 hk h1 h2 h3.1 h3.2
          · rename_i h3; exact peter_down_u hp hi hf hs' hb hp1 hi1 hf1 hs1 hk h1 h2 h3
theorem leader_in {i : Nat} (hp : i < r.1.length) : FnM Try.prog 47 [.padr 1000000000 0, (.lit (.int .i64 (i : Int)))] [(1000000000, .box [.lit (.bool true), .lit (.bool pet), .own 1000000001, .mown 1000000002, (.lit (.int .i64 ((r).2.2 : Int)))]), (1000000001, .row 105 PT true (r).1), (1000000002, .mat 80 91 NT true (r).2.1 none)] (.lit (.int .i64 (pL r.1 i : Int))) [(1000000000, .box [.lit (.bool true), .lit (.bool pet), .own 1000000001, .mown 1000000002, (.lit (.int .i64 ((r).2.2 : Int)))]), (1000000001, .row 105 PT true (r).1), (1000000002, .mat 80 91 NT true (r).2.1 none)] := by
  have c1 := ris_at (pet := pet) (r := r)
  have c2 := rhas_at (pet := pet) (r := r) (has_of hp).symm
  have hl : @List.length PT.T r.1 = r.1.length := rfl
  refine FnM.of_body tys_ok Try.func47 (by rfl) rfl Try.ntmps47 (by rw [Try.results47]) (by simp) ?_
  
  repeat' (first
 | refine W.seq ?_
 | refine W.block ?_
 | (refine W.regionM (id := 1) tys_ok [] [1,6] ?_; conv => whnf)
 | (refine W.region tys_ok [] ?_; conv => whnf)
 | (refine W.drawAll tys_ok [] mixed rfl ?_; conv => whnf)
 | (refine W.ret ?_; conv => whnf)
 | (refine W.skip ?_; conv => whnf)
 | (refine W.exit ?_; conv => whnf)
 | (refine callM_at (c1) ?_; conv => whnf)
 | (refine callM_at (c2) ?_; conv => whnf)
 | (refine W.cond rfl (fun hb => ?_) (fun hb => ?_) <;> (try simp only [Int.reduceToNat, Int.reduceTDiv, Int.reduceTMod, minL, maxL, pickB, zHB, zSH] at hb) <;> (try (first | (cases hb; done) | exact absurd hb (by decide) | (exfalso; omega) | (omega) | ((simp_all; done)))))
 | (refine Or.inl (And.intro ?_ ?_); (focus (first | exact trivial | exact ⟨rfl, trivial⟩ | (refine ⟨?_, trivial⟩; dsimp only; simp only [Int.reduceToNat, Int.reduceTDiv, Int.reduceTMod, minL, maxL, pickB, zHB, zSH]; omega) | (refine ⟨?_, trivial⟩; dsimp only; (try simp only [Int.reduceToNat, Int.reduceTDiv, Int.reduceTMod, minL, maxL, pickB, zHB, zSH]); (simp_all; done)) | (refine ⟨?_, trivial⟩; dsimp only; (simp only [Int.reduceToNat, Int.reduceTDiv, Int.reduceTMod, minL, maxL, pickB, zHB, zSH]; done)) | (refine ⟨?_, trivial⟩; dsimp only; (simp; done)))); (conv => whnf))
 | (refine Or.inr (And.intro ?_ ?_); (focus (intro h; have h := h.1; dsimp only at h; first | (exact Bool.noConfusion h) | (simp only [Int.reduceToNat, Int.reduceTDiv, Int.reduceTMod, minL, maxL, pickB, zHB, zSH] at h; omega) | ((try simp only [Int.reduceToNat, Int.reduceTDiv, Int.reduceTMod, minL, maxL, pickB, zHB, zSH] at h); (simp_all; done)))); (conv => whnf))
 | ((with_reducible refine And.intro ?_ ?_); (focus (first | (with_reducible rfl) | omega | rfl | ((try simp only [Int.reduceToNat, Int.reduceTDiv, Int.reduceTMod, minL, maxL, pickB, zHB, zSH, InK, Path.imp, zL] at *); omega))); (conv => whnf))
 | ((with_reducible refine And.intro (Side.out ?_) ?_); rotate_left; (conv => whnf))
 | ((first | refine retM1 ?_ | refine retM2 ?_) <;> (conv => whnf) <;> repeat' (first
 | exact trivial
 | (with_reducible rfl)
 | ((with_reducible refine And.intro ?_ ?_) <;> conv => whnf)
 | omega
 | rfl
 | (refine congrArg (SV.arr _) ?_)
 | (refine congrArg (Value.int _) ?_)
 | (refine congrArg Value.bool ?_)))); all_goals (try unfold Side)
  all_goals try (repeat' (first | (with_reducible rfl) | (with_reducible refine And.intro ?_ ?_) | omega | rfl | exact Or.inl rfl | exact Or.inr rfl | exact of_decide_eq_true rfl | exact Path.imp_of (of_decide_eq_true rfl) | (focus ((try simp only [Int.reduceToNat, Int.reduceTDiv, Int.reduceTMod, minL, maxL, pickB, zHB, zSH, InK, Path.imp, zL] at *); omega)) | (refine app_le rfl ?_; omega)))
theorem sent_at : FnM Try.prog 48 [.padr 1000000000 0] [(1000000000, .box [.lit (.bool true), .lit (.bool pet), .own 1000000001, .mown 1000000002, (.lit (.int .i64 ((r).2.2 : Int)))]), (1000000001, .row 105 PT true (r).1), (1000000002, .mat 80 91 NT true (r).2.1 none)] (.lit (.int .i64 (r.2.2 : Int))) [(1000000000, .box [.lit (.bool true), .lit (.bool pet), .own 1000000001, .mown 1000000002, (.lit (.int .i64 ((r).2.2 : Int)))]), (1000000001, .row 105 PT true (r).1), (1000000002, .mat 80 91 NT true (r).2.1 none)] := by
  have c1 := ris_at (pet := pet) (r := r)
  refine FnM.of_body tys_ok Try.func48 (by rfl) rfl Try.ntmps48 (by rw [Try.results48]) (by simp) ?_
  
  repeat' (first
 | refine W.seq ?_
 | refine W.block ?_
 | (refine W.regionM (id := 1) tys_ok [] [1] ?_; conv => whnf)
 | (refine W.region tys_ok [] ?_; conv => whnf)
 | (refine W.drawAll tys_ok [] mixed rfl ?_; conv => whnf)
 | (refine W.ret ?_; conv => whnf)
 | (refine W.skip ?_; conv => whnf)
 | (refine W.exit ?_; conv => whnf)
 | (refine callM_at (c1) ?_; conv => whnf)
 | (refine W.cond rfl (fun hb => ?_) (fun hb => ?_) <;> (try simp only [Int.reduceToNat, Int.reduceTDiv, Int.reduceTMod, minL, maxL, pickB, zHB, zSH] at hb) <;> (try (first | (cases hb; done) | exact absurd hb (by decide) | (exfalso; omega) | (omega))))
 | (refine Or.inl (And.intro ?_ ?_); (focus (first | exact trivial | exact ⟨rfl, trivial⟩ | (refine ⟨?_, trivial⟩; dsimp only; simp only [Int.reduceToNat, Int.reduceTDiv, Int.reduceTMod, minL, maxL, pickB, zHB, zSH]; omega) | (refine ⟨?_, trivial⟩; dsimp only; (try simp only [Int.reduceToNat, Int.reduceTDiv, Int.reduceTMod, minL, maxL, pickB, zHB, zSH]); (simp_all; done)) | (refine ⟨?_, trivial⟩; dsimp only; (simp only [Int.reduceToNat, Int.reduceTDiv, Int.reduceTMod, minL, maxL, pickB, zHB, zSH]; done)) | (refine ⟨?_, trivial⟩; dsimp only; (simp; done)))); (conv => whnf))
 | (refine Or.inr (And.intro ?_ ?_); (focus (intro h; have h := h.1; dsimp only at h; first | (exact Bool.noConfusion h) | (simp only [Int.reduceToNat, Int.reduceTDiv, Int.reduceTMod, minL, maxL, pickB, zHB, zSH] at h; omega) | ((try simp only [Int.reduceToNat, Int.reduceTDiv, Int.reduceTMod, minL, maxL, pickB, zHB, zSH] at h); (simp_all; done)))); (conv => whnf))
 | ((with_reducible refine And.intro ?_ ?_); (focus (first | (with_reducible rfl) | omega | rfl | ((try simp only [Int.reduceToNat, Int.reduceTDiv, Int.reduceTMod, minL, maxL, pickB, zHB, zSH, InK, Path.imp, zL] at *); omega))); (conv => whnf))
 | ((with_reducible refine And.intro (Side.out ?_) ?_); rotate_left; (conv => whnf))
 | ((first | refine retM1 ?_ | refine retM2 ?_) <;> (conv => whnf) <;> repeat' (first
 | exact trivial
 | (with_reducible rfl)
 | ((with_reducible refine And.intro ?_ ?_) <;> conv => whnf)
 | omega
 | rfl
 | (refine congrArg (SV.arr _) ?_)
 | (refine congrArg (Value.int _) ?_)
 | (refine congrArg Value.bool ?_)))); all_goals (try unfold Side)
  all_goals try (repeat' (first | (with_reducible rfl) | (with_reducible refine And.intro ?_ ?_) | omega | rfl | exact Or.inl rfl | exact Or.inr rfl | exact of_decide_eq_true rfl | exact Path.imp_of (of_decide_eq_true rfl) | (focus ((try simp only [Int.reduceToNat, Int.reduceTDiv, Int.reduceTMod, minL, maxL, pickB, zHB, zSH, InK, Path.imp, zL] at *); omega)) | (refine app_le rfl ?_; omega)))
theorem rdel_arg {i : Int} (h : hasB r.1.length i = false) : FnM Try.prog 33 [.padr 1000000000 0, (.lit (.int .i64 (i : Int)))] [(1000000000, .box [.lit (.bool true), .lit (.bool pet), .own 1000000001, .mown 5, (.lit (.int .i64 ((r).2.2 : Int)))]), (1000000001, .row 105 PT true (r).1), (5, .mat 80 91 NT true (r).2.1 none)] (.lit (.int .i64 (1 : Int))) [(1000000000, .box [.lit (.bool true), .lit (.bool pet), .own 1000000001, .mown 5, (.lit (.int .i64 ((r).2.2 : Int)))]), (1000000001, .row 105 PT true (r).1), (5, .mat 80 91 NT true (r).2.1 none)] := by
  have c1 := ris_at (pet := pet) (r := r)
  have c2 := rhas_at (pet := pet) (r := r) h.symm
  refine FnM.of_body tys_ok Try.func33 (by rfl) rfl Try.ntmps33 (by rw [Try.results33]) (by simp) ?_
  
  repeat' (first
 | refine W.seq ?_
 | refine W.block ?_
 | (refine W.regionM (id := 1) tys_ok [] [1] ?_; conv => whnf)
 | (refine W.regionM (id := 3) tys_ok [] [2] ?_; conv => whnf)
 | (refine W.region tys_ok [] ?_; conv => whnf)
 | (refine W.drawAll tys_ok [] mixed rfl ?_; conv => whnf)
 | (refine W.ret ?_; conv => whnf)
 | (refine W.skip ?_; conv => whnf)
 | (refine W.exit ?_; conv => whnf)
 | (refine callM_at (c1) ?_; conv => whnf)
 | (refine callM_at (c2) ?_; conv => whnf)
 | (refine W.cond rfl (fun hb => ?_) (fun hb => ?_) <;> (try simp only [Int.reduceToNat, Int.reduceTDiv, Int.reduceTMod, minL, maxL, pickB, zHB, zSH] at hb) <;> (try (first | (cases hb; done) | exact absurd hb (by decide) | (exfalso; omega) | (omega))))
 | (refine Or.inl (And.intro ?_ ?_); (focus (first | exact trivial | exact ⟨rfl, trivial⟩ | (refine ⟨?_, trivial⟩; dsimp only; simp only [Int.reduceToNat, Int.reduceTDiv, Int.reduceTMod, minL, maxL, pickB, zHB, zSH]; omega) | (refine ⟨?_, trivial⟩; dsimp only; (try simp only [Int.reduceToNat, Int.reduceTDiv, Int.reduceTMod, minL, maxL, pickB, zHB, zSH]); (simp_all; done)) | (refine ⟨?_, trivial⟩; dsimp only; (simp only [Int.reduceToNat, Int.reduceTDiv, Int.reduceTMod, minL, maxL, pickB, zHB, zSH]; done)) | (refine ⟨?_, trivial⟩; dsimp only; (simp; done)))); (conv => whnf))
 | (refine Or.inr (And.intro ?_ ?_); (focus (intro h; have h := h.1; dsimp only at h; first | (exact Bool.noConfusion h) | (simp only [Int.reduceToNat, Int.reduceTDiv, Int.reduceTMod, minL, maxL, pickB, zHB, zSH] at h; omega) | ((try simp only [Int.reduceToNat, Int.reduceTDiv, Int.reduceTMod, minL, maxL, pickB, zHB, zSH] at h); (simp_all; done)))); (conv => whnf))
 | ((with_reducible refine And.intro ?_ ?_); (focus (first | (with_reducible rfl) | omega | rfl | ((try simp only [Int.reduceToNat, Int.reduceTDiv, Int.reduceTMod, minL, maxL, pickB, zHB, zSH, InK, Path.imp, zL] at *); omega))); (conv => whnf))
 | ((with_reducible refine And.intro (Side.out ?_) ?_); rotate_left; (conv => whnf))
 | ((first | refine retM1 ?_ | refine retM2 ?_) <;> (conv => whnf) <;> repeat' (first
 | exact trivial
 | (with_reducible rfl)
 | ((with_reducible refine And.intro ?_ ?_) <;> conv => whnf)
 | omega
 | rfl
 | (refine congrArg (SV.arr _) ?_)
 | (refine congrArg (Value.int _) ?_)
 | (refine congrArg Value.bool ?_)))); all_goals (try unfold Side)
  all_goals try (repeat' (first | (with_reducible rfl) | (with_reducible refine And.intro ?_ ?_) | omega | rfl | exact Or.inl rfl | exact Or.inr rfl | exact of_decide_eq_true rfl | exact Path.imp_of (of_decide_eq_true rfl) | (focus ((try simp only [Int.reduceToNat, Int.reduceTDiv, Int.reduceTMod, minL, maxL, pickB, zHB, zSH, InK, Path.imp, zL] at *); omega)) | (refine app_le rfl ?_; omega)))
theorem rdel_none {i : Nat} (hp : i < r.1.length) (hi : i < r.2.1.length) (h0 : (r.2.1.getD i []).length = 0) : FnM Try.prog 33 [.padr 1000000000 0, (.lit (.int .i64 (i : Int)))] [(1000000000, .box [.lit (.bool true), .lit (.bool pet), .own 1000000001, .mown 5, (.lit (.int .i64 ((r).2.2 : Int)))]), (1000000001, .row 105 PT true (r).1), (5, .mat 80 91 NT true (r).2.1 none)] (.lit (.int .i64 (5 : Int))) [(1000000000, .box [.lit (.bool true), .lit (.bool pet), .own 1000000001, .mown 5, (.lit (.int .i64 ((r).2.2 : Int)))]), (1000000001, .row 105 PT true (r).1), (5, .mat 80 91 NT true (r).2.1 none)] := by
  have c1 := ris_at (pet := pet) (r := r)
  have c2 := rhas_at (pet := pet) (r := r) (has_of hp).symm
  have e0 : @List.length NT.T (@List.getD (List NT.T) r.2.1 i []) = 0 := h0
  have e1 : 0 ≤ (i : Int) ∧ i < r.2.1.length := ⟨by omega, hi⟩
  refine FnM.of_body tys_ok Try.func33 (by rfl) rfl Try.ntmps33 (by rw [Try.results33]) (by simp) ?_
  
  repeat' (first
 | refine W.seq ?_
 | refine W.block ?_
 | (refine W.regionM (id := 1) tys_ok [] [1] ?_; conv => whnf)
 | (refine W.regionM (id := 3) tys_ok [] [2] ?_; conv => whnf)
 | (refine W.region tys_ok [] ?_; conv => whnf)
 | (refine W.drawAll tys_ok [] mixed rfl ?_; conv => whnf)
 | (refine W.ret ?_; conv => whnf)
 | (refine W.skip ?_; conv => whnf)
 | (refine W.exit ?_; conv => whnf)
 | (refine callM_at (c1) ?_; conv => whnf)
 | (refine callM_at (c2) ?_; conv => whnf)
 | (refine W.cond rfl (fun hb => ?_) (fun hb => ?_) <;> (try simp only [Int.reduceToNat, Int.reduceTDiv, Int.reduceTMod, minL, maxL, pickB, zHB, zSH] at hb) <;> (try (first | (cases hb; done) | exact absurd hb (by decide) | (exfalso; omega) | (omega) | ((simp_all; done)))))
 | (refine Or.inl (And.intro ?_ ?_); (focus (first | exact trivial | exact ⟨rfl, trivial⟩ | (refine ⟨?_, trivial⟩; dsimp only; simp only [Int.reduceToNat, Int.reduceTDiv, Int.reduceTMod, minL, maxL, pickB, zHB, zSH]; omega) | (refine ⟨?_, trivial⟩; dsimp only; (try simp only [Int.reduceToNat, Int.reduceTDiv, Int.reduceTMod, minL, maxL, pickB, zHB, zSH]); (simp_all; done)) | (refine ⟨?_, trivial⟩; dsimp only; (simp only [Int.reduceToNat, Int.reduceTDiv, Int.reduceTMod, minL, maxL, pickB, zHB, zSH]; done)) | (refine ⟨?_, trivial⟩; dsimp only; (simp; done)))); (conv => whnf))
 | (refine Or.inr (And.intro ?_ ?_); (focus (intro h; have h := h.1; dsimp only at h; first | (exact Bool.noConfusion h) | (simp only [Int.reduceToNat, Int.reduceTDiv, Int.reduceTMod, minL, maxL, pickB, zHB, zSH] at h; omega) | ((try simp only [Int.reduceToNat, Int.reduceTDiv, Int.reduceTMod, minL, maxL, pickB, zHB, zSH] at h); (simp_all; done)))); (conv => whnf))
 | ((with_reducible refine And.intro ?_ ?_); (focus (first | (with_reducible rfl) | omega | rfl | ((try simp only [Int.reduceToNat, Int.reduceTDiv, Int.reduceTMod, minL, maxL, pickB, zHB, zSH, InK, Path.imp, zL] at *); omega))); (conv => whnf))
 | ((with_reducible refine And.intro (Side.out ?_) ?_); rotate_left; (conv => whnf))
 | ((first | refine retM1 ?_ | refine retM2 ?_) <;> (conv => whnf) <;> repeat' (first
 | exact trivial
 | (with_reducible rfl)
 | ((with_reducible refine And.intro ?_ ?_) <;> conv => whnf)
 | omega
 | rfl
 | (refine congrArg (SV.arr _) ?_)
 | (refine congrArg (Value.int _) ?_)
 | (refine congrArg Value.bool ?_)))); all_goals (try unfold Side)
  all_goals try (repeat' (first | (with_reducible rfl) | (with_reducible refine And.intro ?_ ?_) | omega | rfl | exact Or.inl rfl | exact Or.inr rfl | exact of_decide_eq_true rfl | exact Path.imp_of (of_decide_eq_true rfl) | (focus ((try simp only [Int.reduceToNat, Int.reduceTDiv, Int.reduceTMod, minL, maxL, pickB, zHB, zSH, InK, Path.imp, zL] at *); omega)) | (refine app_le rfl ?_; omega)))
  all_goals first | exact hi | exact Path.imp_of hi | exact Path.imp_of e1 | skip
end Go.Proofs.Ytkjcnegkdlmapaa
namespace Go.Proofs.Ytkjcnegkdlmapaa
open Go Go.Vc Go.Rg
set_option linter.unusedVariables false
set_option linter.unusedSimpArgs false
variable {n : Nat} {pet : Bool} {r : Rn}
set_option maxHeartbeats 4000000 in
theorem rdel_ok_c {i : Nat} (h : ROk n false r) (hi : i < n) (hs : r.2.2 ≤ 900000) (h0 : (r.2.1.getD i []).length ≠ 0) : FnM Try.prog 33 [.padr 1000000000 0, (.lit (.int .i64 (i : Int)))] [(1000000000, .box [.lit (.bool true), .lit (.bool false), .own 1000000001, .mown 5, (.lit (.int .i64 ((r).2.2 : Int)))]), (1000000001, .row 105 PT true (r).1), (5, .mat 80 91 NT true (r).2.1 none)] (.lit (.int .i64 (0 : Int))) [(1000000000, .box [.lit (.bool true), .lit (.bool false), .own 1000000001, .mown 5, (.lit (.int .i64 (((rdelL false i r)).2.2 : Int)))]), (1000000001, .row 105 PT true ((rdelL false i r)).1), (5, .mat 80 91 NT true ((rdelL false i r)).2.1 none)] := by
  have hs0 := h.s0
  have hp : i < r.1.length := by rw [h.len]; exact hi
  have hF : i < r.2.1.length := by rw [h.fln]; exact hi
  have hd := h.drop hi
  have hn0 := h.n0
  have hn1 := h.n1
  have hj : (i + 1) % n < n := Nat.mod_lt _ hn0
  obtain ⟨F2, hF2⟩ : ∃ F2, F2 = r.2.1.set i ((r.2.1.getD i []).drop 1) := ⟨_, rfl⟩
  obtain ⟨k, hk⟩ : ∃ k, k = ((r.2.1.getD i []).getD 0 N0).1 := ⟨_, rfl⟩
  obtain ⟨v, hv⟩ : ∃ v, v = ((r.2.1.getD i []).getD 0 N0).2.1 := ⟨_, rfl⟩
  have eL : rdelL false i r = changR ((i + 1) % n) k v (r.1, F2, r.2.2) := by unfold rdelL recvR; rw [h.len, ← hk, ← hv, ← hF2]; rfl
  rw [eL]
  have c1 := ris_at (pet := false) (r := r)
  have c2 := rhas_at (pet := false) (r := r) (has_of hp).symm
  have c3 := chang_at (pet := false) (r := (r.1, F2, r.2.2)) (i := (i + 1) % n) (k := k) (v := v) (by show _ < r.1.length; rw [h.len]; exact hj) (by rw [hF2]; show _ < (List.set _ _ _).length; rw [List.length_set, h.fln]; exact hj) (by rw [hF2]; exact hd.fl _) (by dsimp only; omega)
  have hl : @List.length PT.T r.1 = n := h.len
  have em : ((i : Int) + 1).tmod (n : Int) = (((i + 1) % n : Nat) : Int) := by
    rw [show (i : Int) + 1 = ((i + 1 : Nat) : Int) by omega]; exact (Int.ofNat_tmod _ _).symm
  have em' : ((i : Int) + 1).tmod (r.1.length : Int) = (((i + 1) % n : Nat) : Int) := by rw [h.len]; exact em
  have e0 : 0 ≤ (i : Int) ∧ i < r.2.1.length := ⟨by omega, hF⟩
  have e1 : 0 ≤ (0 : Int) ∧ 0 < (r.2.1.getD i []).length := ⟨by omega, by omega⟩
  have e2 : 0 ≤ (0 : Int) ∧ (0 : Int) < 1 ∧ (1 : Int).toNat ≤ (r.2.1.getD i []).length ∧ (r.2.1.getD i []).length ≤ 4294967296 := by
    have := h.fl i
    exact ⟨by omega, by omega, by show 1 ≤ _; omega, by omega⟩
  have e9 : (r.2.1.getD i []).length ≤ 4294967296 := e2.2.2.2
  have e3 : i < (r.2.1.set i ((r.2.1.getD i []).take 0 ++ (r.2.1.getD i []).drop 1)).length := by rw [List.length_set]; exact hF
  have e4 : 0 ≤ (i : Int) ∧ i < (r.2.1.set i ((r.2.1.getD i []).take 0 ++ (r.2.1.getD i []).drop 1)).length := ⟨by omega, e3⟩
  have e5 : r.2.1.set i ((r.2.1.getD i []).take 0 ++ (r.2.1.getD i []).drop 1) = F2 := by rw [hF2]; rfl
  have e6 : ((r.2.1.getD i []).getD 0 N0).1 = k := hk.symm
  have e7 : ((r.2.1.getD i []).getD 0 N0).2.1 = v := hv.symm
  have e8 : ¬ @List.length NT.T (@List.getD (List NT.T) r.2.1 i []) = 0 := h0
  refine FnM.of_body tys_ok Try.func33 (by rfl) rfl Try.ntmps33 (by rw [Try.results33]) (by simp) ?_
  
  repeat' (first
 | refine W.seq ?_
 | refine W.block ?_
 | (refine W.regionM (id := 1) tys_ok [] [1] ?_; conv => whnf)
 | (refine W.regionM (id := 3) tys_ok [] [2] ?_; conv => whnf)
 | (refine W.resub (x := Code.region 8 _ _) (Γ' := ⟨[(0, .padr 1000000000 0), (1, (.lit (.int .i64 (i : Int)))), (5, .padr 6000 0)], [(1000000000, .box [.lit (.bool true), .lit (.bool false), .own 1000000001, .mown 5, (.lit (.int .i64 ((r).2.2 : Int)))]), (1000000001, .row 105 PT true (r).1), (5, .mat 80 91 NT true (r).2.1 none), (6000, .box [(.lit (.int .i64 (k : Int))), (.lit (.int .i64 (v : Int)))])]⟩) ?_ ?_; rotate_left; refine W.drawMTo (id := 8) tys_ok [] [12] mixed [0, 1, 2, 4, 0, 0, 32, 64, 128, 0, 768, 1024, 2048, 8191, 16383] [([0, 1, 2, 4, 5, 6, 7, 9], 5, 8191), ([13], 1, 32767)] ⟨[(0, .padr 1000000000 0), (1, (.lit (.int .i64 (i : Int)))), (5, .padr 6000 0)], [(1000000000, .box [.lit (.bool true), .lit (.bool false), .own 1000000001, .mown 5, (.lit (.int .i64 (((r.1, F2, r.2.2)).2.2 : Int)))]), (1000000001, .row 105 PT true ((r.1, F2, r.2.2)).1), (5, .mat 80 91 NT true ((r.1, F2, r.2.2)).2.1 none), (6000, .box [(.lit (.int .i64 (k : Int))), (.lit (.int .i64 (v : Int)))])]⟩ (by decide +kernel) ?_ ?_; (conv => whnf); rotate_left; (conv => whnf))
 | (refine W.resub (x := Code.region 12 _ _) (Γ' := ⟨[(0, .padr 1000000000 0), (1, (.lit (.int .i64 (i : Int)))), (5, .padr 6000 0), (6, .fn 1000066 [.padr 1000000000 0])], [(1000000000, .box [.lit (.bool true), .lit (.bool false), .own 1000000001, .mown 5, (.lit (.int .i64 (((r.1, F2, r.2.2)).2.2 : Int)))]), (1000000001, .row 105 PT true ((r.1, F2, r.2.2)).1), (5, .mat 80 91 NT true ((r.1, F2, r.2.2)).2.1 none), (6000, .box [(.lit (.int .i64 (k : Int))), (.lit (.int .i64 (v : Int)))])]⟩) ?_ (W.drawM (id := 12) tys_ok [] [10] mixed [0, 0, 2, 0, 8, 16, 32, 64, 132, 0, 769] [([0, 1, 2, 3, 4, 5], 4, 1023), ([], 1, 2047)] (by decide +kernel) ?_); rotate_left; (conv => whnf))
 | (refine W.region tys_ok [] ?_; conv => whnf)
 | (refine W.drawAll tys_ok [] mixed rfl ?_; conv => whnf)
 | (refine W.ret ?_; conv => whnf)
 | (refine W.skip ?_; conv => whnf)
 | (refine W.exit ?_; conv => whnf)
 | (refine callM_at (c1) ?_; conv => whnf)
 | (refine callM_at (c2) ?_; conv => whnf)
 | (refine callM_at (c3) ?_; conv => whnf)
 | (refine And.intro del_note ?_; (conv => whnf))
 | (refine Both.mk ?_ ?_ <;> (conv => whnf))
 | (refine W.cond rfl (fun hb => ?_) (fun hb => ?_) <;> (try simp only [Int.reduceToNat, Int.reduceTDiv, Int.reduceTMod, minL, maxL, pickB, zHB, zSH] at hb) <;> (try (first | (cases hb; done) | exact absurd hb (by decide) | (exfalso; omega) | (omega) | ((simp_all; done)))))
 | (refine Or.inl (And.intro ?_ ?_); (focus (first | exact trivial | exact ⟨rfl, trivial⟩ | (refine ⟨?_, trivial⟩; dsimp only; simp only [Int.reduceToNat, Int.reduceTDiv, Int.reduceTMod, minL, maxL, pickB, zHB, zSH]; omega) | (refine ⟨?_, trivial⟩; dsimp only; (try simp only [Int.reduceToNat, Int.reduceTDiv, Int.reduceTMod, minL, maxL, pickB, zHB, zSH]); (simp_all; done)) | (refine ⟨?_, trivial⟩; dsimp only; (simp only [Int.reduceToNat, Int.reduceTDiv, Int.reduceTMod, minL, maxL, pickB, zHB, zSH]; done)) | (refine ⟨?_, trivial⟩; dsimp only; (simp; done)))); (conv => whnf))
 | (refine Or.inr (And.intro ?_ ?_); (focus (intro h; have h := h.1; dsimp only at h; first | (exact Bool.noConfusion h) | (simp only [Int.reduceToNat, Int.reduceTDiv, Int.reduceTMod, minL, maxL, pickB, zHB, zSH] at h; omega) | ((try simp only [Int.reduceToNat, Int.reduceTDiv, Int.reduceTMod, minL, maxL, pickB, zHB, zSH] at h); (simp_all; done)))); (conv => whnf))
 | ((with_reducible refine And.intro ?_ ?_); (focus (first | (with_reducible rfl) | omega | rfl | ((try simp only [Int.reduceToNat, Int.reduceTDiv, Int.reduceTMod, minL, maxL, pickB, zHB, zSH, InK, Path.imp, zL] at *); omega))); (conv => whnf))
 | ((with_reducible refine And.intro (Side.out ?_) ?_); rotate_left; (conv => whnf))
 | ((first | refine retM1 ?_ | refine retM2 ?_ | refine subF.leaf ?_ | refine subF.side ?_) <;> (conv => whnf) <;> repeat' (first
 | exact trivial
 | (with_reducible rfl)
 | ((with_reducible refine And.intro ?_ ?_) <;> conv => whnf)
 | omega
 | rfl
 | (refine congrArg (SV.arr _) ?_)
 | (refine congrArg (Value.int _) ?_)
 | (refine congrArg Value.bool ?_)))); all_goals (try unfold Side)
  all_goals try (repeat' (first | (with_reducible rfl) | (with_reducible refine And.intro ?_ ?_) | omega | rfl | exact Or.inl rfl | exact Or.inr rfl | exact of_decide_eq_true rfl | exact Path.imp_of (of_decide_eq_true rfl) | (focus ((try simp only [Int.reduceToNat, Int.reduceTDiv, Int.reduceTMod, minL, maxL, pickB, zHB, zSH, InK, Path.imp, zL] at *); omega)) | (refine app_le rfl ?_; omega)))
  all_goals first | exact e9 | exact hF | exact e3 | exact e5 | exact e6 | exact e7 | exact em | exact em' | exact Path.imp_of hF | exact Path.imp_of e0 | exact Path.imp_of e1 | exact e2 | exact Path.imp_of e4 | skip
set_option maxHeartbeats 4000000 in
theorem rdel_ok_p {i : Nat} (h : ROk n true r) (hi : i < n) (hs : r.2.2 ≤ 900000) (h0 : (r.2.1.getD i []).length ≠ 0) : FnM Try.prog 33 [.padr 1000000000 0, (.lit (.int .i64 (i : Int)))] [(1000000000, .box [.lit (.bool true), .lit (.bool true), .own 1000000001, .mown 5, (.lit (.int .i64 ((r).2.2 : Int)))]), (1000000001, .row 105 PT true (r).1), (5, .mat 80 91 NT true (r).2.1 none)] (.lit (.int .i64 (0 : Int))) [(1000000000, .box [.lit (.bool true), .lit (.bool true), .own 1000000001, .mown 5, (.lit (.int .i64 (((rdelL true i r)).2.2 : Int)))]), (1000000001, .row 105 PT true ((rdelL true i r)).1), (5, .mat 80 91 NT true ((rdelL true i r)).2.1 none)] := by
  have hs0 := h.s0
  have hp : i < r.1.length := by rw [h.len]; exact hi
  have hF : i < r.2.1.length := by rw [h.fln]; exact hi
  have hd := h.drop hi
  have hn0 := h.n0
  have hn1 := h.n1
  have hj : (i + 1) % n < n := Nat.mod_lt _ hn0
  obtain ⟨F2, hF2⟩ : ∃ F2, F2 = r.2.1.set i ((r.2.1.getD i []).drop 1) := ⟨_, rfl⟩
  obtain ⟨k, hk⟩ : ∃ k, k = ((r.2.1.getD i []).getD 0 N0).1 := ⟨_, rfl⟩
  obtain ⟨v, hv⟩ : ∃ v, v = ((r.2.1.getD i []).getD 0 N0).2.1 := ⟨_, rfl⟩
  have eL : rdelL true i r = peterR ((i + 1) % n) k v (r.1, F2, r.2.2) := by unfold rdelL recvR; rw [h.len, ← hk, ← hv, ← hF2]; rfl
  rw [eL]
  have c1 := ris_at (pet := true) (r := r)
  have c2 := rhas_at (pet := true) (r := r) (has_of hp).symm
  have c3 := peter_at (pet := true) (r := (r.1, F2, r.2.2)) (i := (i + 1) % n) (k := k) (v := v) (by show _ < r.1.length; rw [h.len]; exact hj) (by rw [hF2]; show _ < (List.set _ _ _).length; rw [List.length_set, h.fln]; exact hj) (by rw [hF2]; exact hd.fl _) (by dsimp only; omega)
  have hl : @List.length PT.T r.1 = n := h.len
  have em : ((i : Int) + 1).tmod (n : Int) = (((i + 1) % n : Nat) : Int) := by
    rw [show (i : Int) + 1 = ((i + 1 : Nat) : Int) by omega]; exact (Int.ofNat_tmod _ _).symm
  have em' : ((i : Int) + 1).tmod (r.1.length : Int) = (((i + 1) % n : Nat) : Int) := by rw [h.len]; exact em
  have e0 : 0 ≤ (i : Int) ∧ i < r.2.1.length := ⟨by omega, hF⟩
  have e1 : 0 ≤ (0 : Int) ∧ 0 < (r.2.1.getD i []).length := ⟨by omega, by omega⟩
  have e2 : 0 ≤ (0 : Int) ∧ (0 : Int) < 1 ∧ (1 : Int).toNat ≤ (r.2.1.getD i []).length ∧ (r.2.1.getD i []).length ≤ 4294967296 := by
    have := h.fl i
    exact ⟨by omega, by omega, by show 1 ≤ _; omega, by omega⟩
  have e9 : (r.2.1.getD i []).length ≤ 4294967296 := e2.2.2.2
  have e3 : i < (r.2.1.set i ((r.2.1.getD i []).take 0 ++ (r.2.1.getD i []).drop 1)).length := by rw [List.length_set]; exact hF
  have e4 : 0 ≤ (i : Int) ∧ i < (r.2.1.set i ((r.2.1.getD i []).take 0 ++ (r.2.1.getD i []).drop 1)).length := ⟨by omega, e3⟩
  have e5 : r.2.1.set i ((r.2.1.getD i []).take 0 ++ (r.2.1.getD i []).drop 1) = F2 := by rw [hF2]; rfl
  have e6 : ((r.2.1.getD i []).getD 0 N0).1 = k := hk.symm
  have e7 : ((r.2.1.getD i []).getD 0 N0).2.1 = v := hv.symm
  have e8 : ¬ @List.length NT.T (@List.getD (List NT.T) r.2.1 i []) = 0 := h0
  refine FnM.of_body tys_ok Try.func33 (by rfl) rfl Try.ntmps33 (by rw [Try.results33]) (by simp) ?_
  
  repeat' (first
 | refine W.seq ?_
 | refine W.block ?_
 | (refine W.regionM (id := 1) tys_ok [] [1] ?_; conv => whnf)
 | (refine W.regionM (id := 3) tys_ok [] [2] ?_; conv => whnf)
 | (refine W.resub (x := Code.region 8 _ _) (Γ' := ⟨[(0, .padr 1000000000 0), (1, (.lit (.int .i64 (i : Int)))), (5, .padr 6000 0)], [(1000000000, .box [.lit (.bool true), .lit (.bool true), .own 1000000001, .mown 5, (.lit (.int .i64 ((r).2.2 : Int)))]), (1000000001, .row 105 PT true (r).1), (5, .mat 80 91 NT true (r).2.1 none), (6000, .box [(.lit (.int .i64 (k : Int))), (.lit (.int .i64 (v : Int)))])]⟩) ?_ ?_; rotate_left; refine W.drawMTo (id := 8) tys_ok [] [12] mixed [0, 1, 2, 4, 0, 0, 32, 64, 128, 0, 768, 1024, 2048, 8191, 16383] [([0, 1, 2, 4, 5, 6, 7, 9], 5, 8191), ([13], 1, 32767)] ⟨[(0, .padr 1000000000 0), (1, (.lit (.int .i64 (i : Int)))), (5, .padr 6000 0)], [(1000000000, .box [.lit (.bool true), .lit (.bool true), .own 1000000001, .mown 5, (.lit (.int .i64 (((r.1, F2, r.2.2)).2.2 : Int)))]), (1000000001, .row 105 PT true ((r.1, F2, r.2.2)).1), (5, .mat 80 91 NT true ((r.1, F2, r.2.2)).2.1 none), (6000, .box [(.lit (.int .i64 (k : Int))), (.lit (.int .i64 (v : Int)))])]⟩ (by decide +kernel) ?_ ?_; (conv => whnf); rotate_left; (conv => whnf))
 | (refine W.resub (x := Code.region 12 _ _) (Γ' := ⟨[(0, .padr 1000000000 0), (1, (.lit (.int .i64 (i : Int)))), (5, .padr 6000 0), (6, .fn 1000067 [.padr 1000000000 0])], [(1000000000, .box [.lit (.bool true), .lit (.bool true), .own 1000000001, .mown 5, (.lit (.int .i64 (((r.1, F2, r.2.2)).2.2 : Int)))]), (1000000001, .row 105 PT true ((r.1, F2, r.2.2)).1), (5, .mat 80 91 NT true ((r.1, F2, r.2.2)).2.1 none), (6000, .box [(.lit (.int .i64 (k : Int))), (.lit (.int .i64 (v : Int)))])]⟩) ?_ (W.drawM (id := 12) tys_ok [] [10] mixed [0, 0, 2, 0, 8, 16, 32, 64, 132, 0, 769] [([0, 1, 2, 3, 4, 5], 4, 1023), ([], 1, 2047)] (by decide +kernel) ?_); rotate_left; (conv => whnf))
 | (refine W.region tys_ok [] ?_; conv => whnf)
 | (refine W.drawAll tys_ok [] mixed rfl ?_; conv => whnf)
 | (refine W.ret ?_; conv => whnf)
 | (refine W.skip ?_; conv => whnf)
 | (refine W.exit ?_; conv => whnf)
 | (refine callM_at (c1) ?_; conv => whnf)
 | (refine callM_at (c2) ?_; conv => whnf)
 | (refine callM_at (c3) ?_; conv => whnf)
 | (refine And.intro del_note ?_; (conv => whnf))
 | (refine Both.mk ?_ ?_ <;> (conv => whnf))
 | (refine W.cond rfl (fun hb => ?_) (fun hb => ?_) <;> (try simp only [Int.reduceToNat, Int.reduceTDiv, Int.reduceTMod, minL, maxL, pickB, zHB, zSH] at hb) <;> (try (first | (cases hb; done) | exact absurd hb (by decide) | (exfalso; omega) | (omega) | ((simp_all; done)))))
 | (refine Or.inl (And.intro ?_ ?_); (focus (first | exact trivial | exact ⟨rfl, trivial⟩ | (refine ⟨?_, trivial⟩; dsimp only; simp only [Int.reduceToNat, Int.reduceTDiv, Int.reduceTMod, minL, maxL, pickB, zHB, zSH]; omega) | (refine ⟨?_, trivial⟩; dsimp only; (try simp only [Int.reduceToNat, Int.reduceTDiv, Int.reduceTMod, minL, maxL, pickB, zHB, zSH]); (simp_all; done)) | (refine ⟨?_, trivial⟩; dsimp only; (simp only [Int.reduceToNat, Int.reduceTDiv, Int.reduceTMod, minL, maxL, pickB, zHB, zSH]; done)) | (refine ⟨?_, trivial⟩; dsimp only; (simp; done)))); (conv => whnf))
 | (refine Or.inr (And.intro ?_ ?_); (focus (intro h; have h := h.1; dsimp only at h; first | (exact Bool.noConfusion h) | (simp only [Int.reduceToNat, Int.reduceTDiv, Int.reduceTMod, minL, maxL, pickB, zHB, zSH] at h; omega) | ((try simp only [Int.reduceToNat, Int.reduceTDiv, Int.reduceTMod, minL, maxL, pickB, zHB, zSH] at h); (simp_all; done)))); (conv => whnf))
 | ((with_reducible refine And.intro ?_ ?_); (focus (first | (with_reducible rfl) | omega | rfl | ((try simp only [Int.reduceToNat, Int.reduceTDiv, Int.reduceTMod, minL, maxL, pickB, zHB, zSH, InK, Path.imp, zL] at *); omega))); (conv => whnf))
 | ((with_reducible refine And.intro (Side.out ?_) ?_); rotate_left; (conv => whnf))
 | ((first | refine retM1 ?_ | refine retM2 ?_ | refine subF.leaf ?_ | refine subF.side ?_) <;> (conv => whnf) <;> repeat' (first
 | exact trivial
 | (with_reducible rfl)
 | ((with_reducible refine And.intro ?_ ?_) <;> conv => whnf)
 | omega
 | rfl
 | (refine congrArg (SV.arr _) ?_)
 | (refine congrArg (Value.int _) ?_)
 | (refine congrArg Value.bool ?_)))); all_goals (try unfold Side)
  all_goals try (repeat' (first | (with_reducible rfl) | (with_reducible refine And.intro ?_ ?_) | omega | rfl | exact Or.inl rfl | exact Or.inr rfl | exact of_decide_eq_true rfl | exact Path.imp_of (of_decide_eq_true rfl) | (focus ((try simp only [Int.reduceToNat, Int.reduceTDiv, Int.reduceTMod, minL, maxL, pickB, zHB, zSH, InK, Path.imp, zL] at *); omega)) | (refine app_le rfl ?_; omega)))
  all_goals first | exact e9 | exact hF | exact e3 | exact e5 | exact e6 | exact e7 | exact em | exact em' | exact Path.imp_of hF | exact Path.imp_of e0 | exact Path.imp_of e1 | exact e2 | exact Path.imp_of e4 | skip
end Go.Proofs.Ytkjcnegkdlmapaa
namespace Go.Proofs.Ytkjcnegkdlmapaa
open Go Go.Vc Go.Rg
set_option linter.unusedVariables false
set_option linter.unusedSimpArgs false
variable {n : Nat} {pet : Bool} {r r2 : Rn} {e : Int}
theorem start_ring {i : Int} (h : ROk n pet r) (hs : r.2.2 ≤ 900000) (he : startE i r = e) (hr : startK i r = r2) : FnM Try.prog 30 [.padr 1000000000 0, (.lit (.int .i64 (i : Int)))] [(1000000000, .box [.lit (.bool true), .lit (.bool pet), .own 1000000001, .mown 5, (.lit (.int .i64 ((r).2.2 : Int)))]), (1000000001, .row 105 PT true (r).1), (5, .mat 80 91 NT true (r).2.1 none)] (.lit (.int .i64 (e : Int))) [(1000000000, .box [.lit (.bool true), .lit (.bool pet), .own 1000000001, .mown 5, (.lit (.int .i64 ((r2).2.2 : Int)))]), (1000000001, .row 105 PT true (r2).1), (5, .mat 80 91 NT true (r2).2.1 none)] := by
  have hs0 := h.s0
  unfold startK at hr
  rw [he] at hr
  unfold startE at he
  split at he
  · rename_i h1
    obtain ⟨j, rfl, hj⟩ := has_nat h1
    rw [Int.toNat_natCast] at he hr
    split at he
    · rename_i h2
      subst he
      rw [if_neg (by decide)] at hr
      subst hr
      exact start_none hj h2
    · rename_i h2
      subst he
      rw [if_pos rfl] at hr
      subst hr
      exact start_ok hj (by rw [h.fln, ← h.len]; exact hj) (h.fl j) (by omega) (by simpa using h2)
  · rename_i h1
    subst he
    rw [if_neg (by decide)] at hr
    subst hr
    exact start_arg (by simpa using h1)
theorem deliver_ring {i : Int} (h : ROk n pet r) (hs : r.2.2 ≤ 900000) (he : rdelE i r = e) (hr : rdelK pet i r = r2) : FnM Try.prog 33 [.padr 1000000000 0, (.lit (.int .i64 (i : Int)))] [(1000000000, .box [.lit (.bool true), .lit (.bool pet), .own 1000000001, .mown 5, (.lit (.int .i64 ((r).2.2 : Int)))]), (1000000001, .row 105 PT true (r).1), (5, .mat 80 91 NT true (r).2.1 none)] (.lit (.int .i64 (e : Int))) [(1000000000, .box [.lit (.bool true), .lit (.bool pet), .own 1000000001, .mown 5, (.lit (.int .i64 ((r2).2.2 : Int)))]), (1000000001, .row 105 PT true (r2).1), (5, .mat 80 91 NT true (r2).2.1 none)] := by
  have hs0 := h.s0
  unfold rdelK at hr
  rw [he] at hr
  unfold rdelE at he
  split at he
  · rename_i h1
    obtain ⟨j, rfl, hj⟩ := has_nat h1
    rw [Int.toNat_natCast] at he hr
    split at he
    · rename_i h2
      subst he
      rw [if_neg (by decide)] at hr
      subst hr
      exact rdel_none hj (by rw [h.fln, ← h.len]; exact hj) h2
    · rename_i h2
      subst he
      rw [if_pos rfl] at hr
      subst hr
      have hjn : j < n := by rw [← h.len]; exact hj
      cases pet with
      | false => exact rdel_ok_c h hjn hs h2
      | true => exact rdel_ok_p h hjn hs h2
  · rename_i h1
    subst he
    rw [if_neg (by decide)] at hr
    subst hr
    exact rdel_arg (by simpa using h1)
end Go.Proofs.Ytkjcnegkdlmapaa
namespace Go.Proofs.Ytkjcnegkdlmapaa
open Go Go.Vc Go.Rg
set_option linter.unusedVariables false
set_option linter.unusedSimpArgs false
variable {hs : List Hd} {fl : List Lt}
end Go.Proofs.Ytkjcnegkdlmapaa
namespace Go.Proofs.Ytkjcnegkdlmapaa
open Go Go.Vc Go.Rg
set_option linter.unusedVariables false
set_option linter.unusedSimpArgs false
def ixN (l : List Int) (x : Int) (i : Nat) : Int := if x ∈ l.drop i then ((i + (l.drop i).idxOf x : Nat) : Int) else -1
theorem ixN_end {l : List Int} {x : Int} {i : Nat} (h : l.length ≤ i) : ixN l x i = -1 := by
  unfold ixN
  rw [List.drop_of_length_le h]
  rfl
theorem getD_eq {l : List Int} {i : Nat} (h : i < l.length) : l.getD i 0 = l[i] := by rw [List.getD_eq_getElem?_getD, List.getElem?_eq_getElem h]; rfl
theorem ixN_hit {l : List Int} {x : Int} {i : Nat} (h : i < l.length) (hx : x = l.getD i 0) : ixN l x i = (i : Int) := by
  unfold ixN
  rw [List.drop_eq_getElem_cons h, ← getD_eq h, ← hx]
  simp
theorem ixN_miss {l : List Int} {x : Int} {i : Nat} (h : i < l.length) (hx : x ≠ l.getD i 0) : ixN l x i = ixN l x (i + 1) := by
  unfold ixN
  rw [List.drop_eq_getElem_cons h, ← getD_eq h]
  have h1 : (x ∈ l.getD i 0 :: l.drop (i + 1)) ↔ x ∈ l.drop (i + 1) :=
    ⟨fun h => (List.mem_cons.1 h).elim (fun e => absurd e hx) id, List.mem_cons_of_mem _⟩
  by_cases e : x ∈ l.drop (i + 1)
  · rw [if_pos (h1.2 e), if_pos e, List.idxOf_cons]
    have : (l.getD i 0 == x) = false := by simpa using fun h => hx h.symm
    rw [this]
    simp only [cond_false]
    congr 1
    omega
  · rw [if_neg (fun h => e (h1.1 h)), if_neg e]
theorem ixN_sign {l : List Int} {x : Int} : decide (0 ≤ ixN l x 0) = decide (x ∈ l) := by
  unfold ixN
  rw [List.drop_zero, decide_eq_decide]
  by_cases e : x ∈ l
  · rw [if_pos e]; simp only [e, iff_true]; omega
  · rw [if_neg e]; simp only [e, iff_false]; omega
theorem indexN_at {l : List Int} {x : Int} (hll : l.length ≤ 1000) : FnAt Try.prog false 77 [.arr (.int .i64) l, I64 x] (.lit (.int .i64 (ixN l x 0 : Int))) [] := by
  have hl : @List.length (Ty.int .i64).T l = l.length := rfl
  refine FnAt.of_body tys_ok Try.func77 (by rfl) rfl Try.ntmps77 (by rw [Try.results77]) (by simp) ?_
  
  repeat' (first
 | refine W.seq ?_
 | refine W.block ?_
 | (refine W.region tys_ok [] ?_; conv => whnf)
 | (refine W.drawAll tys_ok [] mixed rfl ?_; conv => whnf)
 | (refine W.ret ?_; conv => whnf)
 | (refine W.skip ?_; conv => whnf)
 | (refine W.exit ?_; conv => whnf)
 | (refine W.cond rfl (fun hb => ?_) (fun hb => ?_) <;> (try simp only [Int.reduceToNat, Int.reduceTDiv, Int.reduceTMod, minL, maxL, pickB, zHB, zSH] at hb) <;> (try (first | (cases hb; done) | exact absurd hb (by decide) | (exfalso; omega) | (omega))))
 | ((with_reducible refine And.intro ?_ ?_); (focus (first | (with_reducible rfl) | omega | rfl | ((try simp only [Int.reduceToNat, Int.reduceTDiv, Int.reduceTMod, minL, maxL, pickB, zHB, zSH, InK, Path.imp, zL] at *); omega))); (conv => whnf))
 | ((with_reducible refine And.intro (Side.out ?_) ?_); rotate_left; (conv => whnf))
 | ((first | refine retF1 ?_ | refine retF2 ?_) <;> (conv => whnf) <;> repeat' (first
 | exact trivial
 | (with_reducible rfl)
 | ((with_reducible refine And.intro ?_ ?_) <;> conv => whnf)
 | omega
 | rfl
 | (refine congrArg (SV.arr _) ?_)
 | (refine congrArg (Value.int _) ?_)
 | (refine congrArg Value.bool ?_)))); all_goals (try unfold Side)
  all_goals try (repeat' (first | (with_reducible rfl) | (with_reducible refine And.intro ?_ ?_) | omega | rfl | exact Or.inl rfl | exact Or.inr rfl | exact of_decide_eq_true rfl | exact Path.imp_of (of_decide_eq_true rfl) | (focus ((try simp only [Int.reduceToNat, Int.reduceTDiv, Int.reduceTMod, minL, maxL, pickB, zHB, zSH, InK, Path.imp, zL] at *); omega)) | (refine app_le rfl ?_; omega)))
  refine W.loop (fun i : Nat => ⟨[(0, .st false (.arr (.int .i64) l)), (1, (.lit (.int .i64 (x : Int)))), (7, (.lit (.int .i64 (l.length : Int)))), (8, (.lit (.int .i64 (i : Int))))], []⟩) (fun i => i ≤ l.length ∧ ixN l x 0 = ixN l x i) (fun i => l.length - i) (0) ?_ ?_
  · refine ⟨⟨Nat.zero_le _, rfl⟩, ?_⟩
    refine subF.ok ?_ <;> (conv => whnf) <;> repeat' (first
 | exact trivial
 | (with_reducible rfl)
 | ((with_reducible refine And.intro ?_ ?_) <;> conv => whnf)
 | omega
 | rfl
 | (refine congrArg (SV.arr _) ?_)
 | (refine congrArg (Value.int _) ?_)
 | (refine congrArg Value.bool ?_))
  · rintro i ⟨hi, hix⟩
    by_cases hil : i < l.length
    · by_cases hx : x = l.getD i 0
      · have hy := ixN_hit hil hx
        repeat' (first
 | refine W.seq ?_
 | refine W.block ?_
 | (refine W.region tys_ok [] ?_; conv => whnf)
 | (refine W.drawAll tys_ok [] mixed rfl ?_; conv => whnf)
 | (refine W.ret ?_; conv => whnf)
 | (refine W.skip ?_; conv => whnf)
 | (refine W.exit ?_; conv => whnf)
 | (refine W.cond rfl (fun hb => ?_) (fun hb => ?_) <;> (try simp only [Int.reduceToNat, Int.reduceTDiv, Int.reduceTMod, minL, maxL, pickB, zHB, zSH] at hb) <;> (try (first | (cases hb; done) | exact absurd hb (by decide) | (exfalso; omega) | (omega) | ((simp_all; done)))))
 | ((with_reducible refine And.intro ?_ ?_); (focus (first | (with_reducible rfl) | omega | rfl | ((try simp only [Int.reduceToNat, Int.reduceTDiv, Int.reduceTMod, minL, maxL, pickB, zHB, zSH, InK, Path.imp, zL] at *); omega))); (conv => whnf))
 | ((with_reducible refine And.intro (Side.out ?_) ?_); rotate_left; (conv => whnf))
 | ((first | refine retF1 ?_ | refine retF2 ?_) <;> (conv => whnf) <;> repeat' (first
 | exact trivial
 | (with_reducible rfl)
 | ((with_reducible refine And.intro ?_ ?_) <;> conv => whnf)
 | omega
 | rfl
 | (refine congrArg (SV.arr _) ?_)
 | (refine congrArg (Value.int _) ?_)
 | (refine congrArg Value.bool ?_)))); all_goals (try unfold Side)
        all_goals try (repeat' (first | (with_reducible rfl) | (with_reducible refine And.intro ?_ ?_) | omega | rfl | exact Or.inl rfl | exact Or.inr rfl | exact of_decide_eq_true rfl | exact Path.imp_of (of_decide_eq_true rfl) | (focus ((try simp only [Int.reduceToNat, Int.reduceTDiv, Int.reduceTMod, minL, maxL, pickB, zHB, zSH, InK, Path.imp, zL] at *); omega)) | (refine app_le rfl ?_; omega)))
        all_goals (rw [hix, hy])
      · have hy := ixN_miss hil hx
        repeat' (first
 | refine W.seq ?_
 | refine W.block ?_
 | (refine W.region tys_ok [] ?_; conv => whnf)
 | (refine W.drawAll tys_ok [] mixed rfl ?_; conv => whnf)
 | (refine W.ret ?_; conv => whnf)
 | (refine W.skip ?_; conv => whnf)
 | (refine W.exit ?_; conv => whnf)
 | (refine W.cond rfl (fun hb => ?_) (fun hb => ?_) <;> (try simp only [Int.reduceToNat, Int.reduceTDiv, Int.reduceTMod, minL, maxL, pickB, zHB, zSH] at hb) <;> (try (first | (cases hb; done) | exact absurd hb (by decide) | (exfalso; omega) | (omega) | ((simp_all; done)))))
 | ((with_reducible refine And.intro ?_ ?_); (focus (first | (with_reducible rfl) | omega | rfl | ((try simp only [Int.reduceToNat, Int.reduceTDiv, Int.reduceTMod, minL, maxL, pickB, zHB, zSH, InK, Path.imp, zL] at *); omega))); (conv => whnf))
 | ((with_reducible refine And.intro (Side.out ?_) ?_); rotate_left; (conv => whnf))
 | ((first | refine retF1 ?_ | refine retF2 ?_) <;> (conv => whnf) <;> repeat' (first
 | exact trivial
 | (with_reducible rfl)
 | ((with_reducible refine And.intro ?_ ?_) <;> conv => whnf)
 | omega
 | rfl
 | (refine congrArg (SV.arr _) ?_)
 | (refine congrArg (Value.int _) ?_)
 | (refine congrArg Value.bool ?_)))); all_goals (try unfold Side)
        all_goals try (repeat' (first | (with_reducible rfl) | (with_reducible refine And.intro ?_ ?_) | omega | rfl | exact Or.inl rfl | exact Or.inr rfl | exact of_decide_eq_true rfl | exact Path.imp_of (of_decide_eq_true rfl) | (focus ((try simp only [Int.reduceToNat, Int.reduceTDiv, Int.reduceTMod, minL, maxL, pickB, zHB, zSH, InK, Path.imp, zL] at *); omega)) | (refine app_le rfl ?_; omega)))
        refine ⟨i + 1, ⟨⟨by omega, by rw [hix, hy]⟩, by omega⟩, ?_⟩
        refine subF.ok ?_ <;> (conv => whnf) <;> repeat' (first
 | exact trivial
 | (with_reducible rfl)
 | ((with_reducible refine And.intro ?_ ?_) <;> conv => whnf)
 | omega
 | rfl
 | (refine congrArg (SV.arr _) ?_)
 | (refine congrArg (Value.int _) ?_)
 | (refine congrArg Value.bool ?_))
    · have hy := ixN_end (l := l) (x := x) (i := i) (by omega)
      repeat' (first
 | refine W.seq ?_
 | refine W.block ?_
 | (refine W.region tys_ok [] ?_; conv => whnf)
 | (refine W.drawAll tys_ok [] mixed rfl ?_; conv => whnf)
 | (refine W.ret ?_; conv => whnf)
 | (refine W.skip ?_; conv => whnf)
 | (refine W.exit ?_; conv => whnf)
 | (refine W.cond rfl (fun hb => ?_) (fun hb => ?_) <;> (try simp only [Int.reduceToNat, Int.reduceTDiv, Int.reduceTMod, minL, maxL, pickB, zHB, zSH] at hb) <;> (try (first | (cases hb; done) | exact absurd hb (by decide) | (exfalso; omega) | (omega))))
 | ((with_reducible refine And.intro ?_ ?_); (focus (first | (with_reducible rfl) | omega | rfl | ((try simp only [Int.reduceToNat, Int.reduceTDiv, Int.reduceTMod, minL, maxL, pickB, zHB, zSH, InK, Path.imp, zL] at *); omega))); (conv => whnf))
 | ((with_reducible refine And.intro (Side.out ?_) ?_); rotate_left; (conv => whnf))
 | ((first | refine retF1 ?_ | refine retF2 ?_) <;> (conv => whnf) <;> repeat' (first
 | exact trivial
 | (with_reducible rfl)
 | ((with_reducible refine And.intro ?_ ?_) <;> conv => whnf)
 | omega
 | rfl
 | (refine congrArg (SV.arr _) ?_)
 | (refine congrArg (Value.int _) ?_)
 | (refine congrArg Value.bool ?_)))); all_goals (try unfold Side)
      all_goals try (repeat' (first | (with_reducible rfl) | (with_reducible refine And.intro ?_ ?_) | omega | rfl | exact Or.inl rfl | exact Or.inr rfl | exact of_decide_eq_true rfl | exact Path.imp_of (of_decide_eq_true rfl) | (focus ((try simp only [Int.reduceToNat, Int.reduceTDiv, Int.reduceTMod, minL, maxL, pickB, zHB, zSH, InK, Path.imp, zL] at *); omega)) | (refine app_le rfl ?_; omega)))
      all_goals (rw [hix, hy])
theorem containsN_at {l : List Int} {x : Int} {b : Bool} (hll : l.length ≤ 1000) (h : b = decide (x ∈ l)) : FnAt Try.prog false 57 [.arr (.int .i64) l, I64 x] (.lit (.bool b)) [] := by
  subst h
  have c1 := indexN_at (x := x) hll
  have hs := ixN_sign (l := l) (x := x)
  refine FnAt.of_body tys_ok Try.func57 (by rfl) rfl Try.ntmps57 (by rw [Try.results57]) (by simp) ?_
  
  repeat' (first
 | refine W.seq ?_
 | refine W.block ?_
 | (refine W.region tys_ok [] ?_; conv => whnf)
 | (refine W.drawAll tys_ok [] mixed rfl ?_; conv => whnf)
 | (refine W.ret ?_; conv => whnf)
 | (refine W.skip ?_; conv => whnf)
 | (refine W.exit ?_; conv => whnf)
 | (refine call_at (al := false) (c1) rfl rfl rfl rfl ?_; conv => whnf)
 | (refine W.cond rfl (fun hb => ?_) (fun hb => ?_) <;> (try simp only [Int.reduceToNat, Int.reduceTDiv, Int.reduceTMod, minL, maxL, pickB, zHB, zSH] at hb) <;> (try (first | (cases hb; done) | exact absurd hb (by decide) | (exfalso; omega) | (omega))))
 | ((with_reducible refine And.intro ?_ ?_); (focus (first | (with_reducible rfl) | omega | rfl | ((try simp only [Int.reduceToNat, Int.reduceTDiv, Int.reduceTMod, minL, maxL, pickB, zHB, zSH, InK, Path.imp, zL] at *); omega))); (conv => whnf))
 | ((with_reducible refine And.intro (Side.out ?_) ?_); rotate_left; (conv => whnf))
 | ((first | refine retF1 ?_ | refine retF2 ?_) <;> (conv => whnf) <;> repeat' (first
 | exact trivial
 | (with_reducible rfl)
 | ((with_reducible refine And.intro ?_ ?_) <;> conv => whnf)
 | omega
 | rfl
 | (refine congrArg (SV.arr _) ?_)
 | (refine congrArg (Value.int _) ?_)
 | (refine congrArg Value.bool ?_)))); all_goals (try unfold Side)
  all_goals try (repeat' (first | (with_reducible rfl) | (with_reducible refine And.intro ?_ ?_) | omega | rfl | exact Or.inl rfl | exact Or.inr rfl | exact of_decide_eq_true rfl | exact Path.imp_of (of_decide_eq_true rfl) | (focus ((try simp only [Int.reduceToNat, Int.reduceTDiv, Int.reduceTMod, minL, maxL, pickB, zHB, zSH, InK, Path.imp, zL] at *); omega)) | (refine app_le rfl ?_; omega)))
  all_goals exact hs
def mkP (x : Int) : Pe := (x, false, 0, x, 0, false, 1, ())
def goodAt (xs : List Int) (i : Nat) : Prop := 1 ≤ xs.getD i 0 ∧ xs.getD i 0 ≤ 1000 ∧ xs.getD i 0 ∉ xs.take i
set_option maxHeartbeats 4000000 in
theorem new_ok {xs : List Int} {pet : Bool} (h1 : 1 ≤ xs.length) (h2 : xs.length ≤ 10) (hg : ∀ i, i < xs.length → goodAt xs i) : FnM Try.prog 27 [.st false (.arr (.int .i64) xs), .lit (.bool pet)] [] (.tup [.padr 0 0, (.lit (.int .i64 (0 : Int)))]) [(0, .box [.lit (.bool true), .lit (.bool pet), .own 1, .mown 2, (.lit (.int .i64 (((rnew xs)).2.2 : Int)))]), (1, .row 105 PT true ((rnew xs)).1), (2, .mat 80 91 NT true ((rnew xs)).2.1 none)] := by
  have hl : @List.length (Ty.int .i64).T xs = xs.length := rfl
  have hN1 : (xs.length : Int) ≤ 4294967296 := by omega
  refine FnM.of_body tys_ok Try.func27 (by rfl) rfl Try.ntmps27 (by rw [Try.results27]) (by simp) ?_
  
  repeat' (first
 | refine W.seq ?_
 | refine W.block ?_
 | (refine W.region tys_ok [0, 20] ?_; conv => whnf)
 | (refine W.drawAll tys_ok [0, 20] mixed rfl ?_; conv => whnf)
 | (refine W.ret ?_; conv => whnf)
 | (refine W.skip ?_; conv => whnf)
 | (refine W.exit ?_; conv => whnf)
 | (refine W.cond rfl (fun hb => ?_) (fun hb => ?_) <;> (try simp only [Int.reduceToNat, Int.reduceTDiv, Int.reduceTMod, minL, maxL, pickB, zHB, zSH] at hb) <;> (try (first | (cases hb; done) | exact absurd hb (by decide) | (exfalso; omega) | (omega) | ((simp [pickB] at hb; omega)))))
 | ((with_reducible refine And.intro ?_ ?_); (focus (first | (with_reducible rfl) | omega | rfl | ((try simp only [Int.reduceToNat, Int.reduceTDiv, Int.reduceTMod, minL, maxL, pickB, zHB, zSH, InK, Path.imp, zL] at *); omega))); (conv => whnf))
 | ((with_reducible refine And.intro (Side.out ?_) ?_); rotate_left; (conv => whnf))
 | ((first | refine retM1 ?_ | refine retM2 ?_) <;> (conv => whnf) <;> repeat' (first
 | exact trivial
 | (with_reducible rfl)
 | ((with_reducible refine And.intro ?_ ?_) <;> conv => whnf)
 | omega
 | rfl
 | (refine congrArg (SV.arr _) ?_)
 | (refine congrArg (Value.int _) ?_)
 | (refine congrArg Value.bool ?_)))); all_goals (try unfold Side)
  all_goals first | exact Nat.le_of_ble_eq_true rfl | exact hN1 | skip
  all_goals try (repeat' (first | (with_reducible rfl) | (with_reducible refine And.intro ?_ ?_) | omega | rfl | exact Or.inl rfl | exact Or.inr rfl | exact of_decide_eq_true rfl | exact Path.imp_of (of_decide_eq_true rfl) | (focus ((try simp only [Int.reduceToNat, Int.reduceTDiv, Int.reduceTMod, minL, maxL, pickB, zHB, zSH, InK, Path.imp, zL] at *); omega)) | (refine app_le rfl ?_; omega)))
  refine W.loop (fun i : Nat => ⟨[(0, .st false (.arr (.int .i64) xs)), (6, .padr 7000 0), (23, .st false (.arr (.int .i64) xs)), (24, (.lit (.int .i64 (xs.length : Int)))), (25, (.lit (.int .i64 (i : Int))))], [(7000, .box [.lit (.bool true), .lit (.bool pet), .own 7001, .mown 7002, (.lit (.int .i64 (0 : Int)))]), (7001, .row 105 PT true ((xs.take i).map mkP)), (7002, .mat 80 91 NT true (List.replicate xs.length ([] : List Nt)) none)]⟩) (fun i => i ≤ xs.length) (fun i => xs.length - i) (0) ?_ ?_
  · refine ⟨Nat.zero_le _, ?_⟩
    refine subF.ok ?_ <;> (conv => whnf) <;> repeat' (first
 | exact trivial
 | (with_reducible rfl)
 | ((with_reducible refine And.intro ?_ ?_) <;> conv => whnf)
 | omega
 | rfl
 | (refine congrArg (SV.arr _) ?_)
 | (refine congrArg (Value.int _) ?_)
 | (refine congrArg Value.bool ?_))
  · intro i hi
    by_cases hil : i < xs.length
    · have hgi := hg i hil
      have hg1 : 1 ≤ xs.getD i 0 := hgi.1
      have hg2 : xs.getD i 0 ≤ 1000 := hgi.2.1
      have c1 := containsN_at (l := xs.take i) (x := xs.getD i 0) (b := false) (by rw [List.length_take]; omega) (by rw [eq_comm, decide_eq_false_iff_not]; exact hgi.2.2)
      have e1 : (xs.take i).map mkP ++ [(xs.getD i 0, false, 0, xs.getD i 0, 0, false, 1, ())] = (xs.take (i + 1)).map mkP := by
        rw [List.take_succ_eq_append_getElem hil, List.map_append, ← getD_eq hil]; rfl
      have e2 : ((xs.take i).map mkP).length + [((xs.getD i 0, false, 0, xs.getD i 0, 0, false, 1, ()) : Pe)].length ≤ 4294967296 := by
        rw [List.length_map, List.length_take, List.length_singleton]; omega
      have hk : ¬ (xs.getD i 0 < 1 ∨ 1000 < xs.getD i 0) := by omega
      repeat' (first
 | refine W.seq ?_
 | refine W.block ?_
 | (refine W.region tys_ok [] ?_; conv => whnf)
 | (refine W.drawAll tys_ok [] mixed rfl ?_; conv => whnf)
 | (refine W.ret ?_; conv => whnf)
 | (refine W.skip ?_; conv => whnf)
 | (refine W.exit ?_; conv => whnf)
 | (refine call_at (al := false) (c1) rfl rfl rfl rfl ?_; conv => whnf)
 | (refine W.cond rfl (fun hb => ?_) (fun hb => ?_) <;> (try simp only [Int.reduceToNat, Int.reduceTDiv, Int.reduceTMod, minL, maxL, pickB, zHB, zSH] at hb) <;> (try (first | (cases hb; done) | exact absurd hb (by decide) | (exfalso; omega) | (omega) | (exact hk hb) | ((simp [pickB] at hb; omega)))))
 | ((with_reducible refine And.intro ?_ ?_); (focus (first | (with_reducible rfl) | omega | rfl | ((try simp only [Int.reduceToNat, Int.reduceTDiv, Int.reduceTMod, minL, maxL, pickB, zHB, zSH, InK, Path.imp, zL] at *); omega))); (conv => whnf))
 | ((with_reducible refine And.intro (Side.out ?_) ?_); rotate_left; (conv => whnf))
 | ((first | refine retM1 ?_ | refine retM2 ?_) <;> (conv => whnf) <;> repeat' (first
 | exact trivial
 | (with_reducible rfl)
 | ((with_reducible refine And.intro ?_ ?_) <;> conv => whnf)
 | omega
 | rfl
 | (refine congrArg (SV.arr _) ?_)
 | (refine congrArg (Value.int _) ?_)
 | (refine congrArg Value.bool ?_)))); all_goals (try unfold Side)
      all_goals try (repeat' (first | (with_reducible rfl) | (with_reducible refine And.intro ?_ ?_) | omega | rfl | exact Or.inl rfl | exact Or.inr rfl | exact of_decide_eq_true rfl | exact Path.imp_of (of_decide_eq_true rfl) | (focus ((try simp only [Int.reduceToNat, Int.reduceTDiv, Int.reduceTMod, minL, maxL, pickB, zHB, zSH, InK, Path.imp, zL] at *); omega)) | (refine app_le rfl ?_; omega)))
      all_goals first | exact e2 | skip
      refine ⟨i + 1, ⟨by omega, by omega⟩, ?_⟩
      refine subF.ok ?_ <;> (conv => whnf) <;> repeat' (first
 | exact trivial
 | (with_reducible rfl)
 | ((with_reducible refine And.intro ?_ ?_) <;> conv => whnf)
 | omega
 | rfl
 | (refine congrArg (SV.arr _) ?_)
 | (refine congrArg (Value.int _) ?_)
 | (refine congrArg Value.bool ?_))
      all_goals exact e1
    · have hie : i = xs.length := by omega
      subst hie
      have e3 : (xs.take xs.length).map mkP = (rnew xs).1 := by rw [List.take_length]; rfl
      repeat' (first
 | refine W.seq ?_
 | refine W.block ?_
 | (refine W.region tys_ok [] ?_; conv => whnf)
 | (refine W.drawAll tys_ok [] mixed rfl ?_; conv => whnf)
 | (refine W.ret ?_; conv => whnf)
 | (refine W.skip ?_; conv => whnf)
 | (refine W.exit ?_; conv => whnf)
 | (refine W.cond rfl (fun hb => ?_) (fun hb => ?_) <;> (try simp only [Int.reduceToNat, Int.reduceTDiv, Int.reduceTMod, minL, maxL, pickB, zHB, zSH] at hb) <;> (try (first | (cases hb; done) | exact absurd hb (by decide) | (exfalso; omega) | (omega))))
 | ((with_reducible refine And.intro ?_ ?_); (focus (first | (with_reducible rfl) | omega | rfl | ((try simp only [Int.reduceToNat, Int.reduceTDiv, Int.reduceTMod, minL, maxL, pickB, zHB, zSH, InK, Path.imp, zL] at *); omega))); (conv => whnf))
 | ((with_reducible refine And.intro (Side.out ?_) ?_); rotate_left; (conv => whnf))
 | ((first | refine retM1 ?_ | refine retM2 ?_) <;> (conv => whnf) <;> repeat' (first
 | exact trivial
 | (with_reducible rfl)
 | ((with_reducible refine And.intro ?_ ?_) <;> conv => whnf)
 | omega
 | rfl
 | (refine congrArg (SV.arr _) ?_)
 | (refine congrArg (Value.int _) ?_)
 | (refine congrArg Value.bool ?_)))); all_goals (try unfold Side)
      all_goals try (repeat' (first | (with_reducible rfl) | (with_reducible refine And.intro ?_ ?_) | omega | rfl | exact Or.inl rfl | exact Or.inr rfl | exact of_decide_eq_true rfl | exact Path.imp_of (of_decide_eq_true rfl) | (focus ((try simp only [Int.reduceToNat, Int.reduceTDiv, Int.reduceTMod, minL, maxL, pickB, zHB, zSH, InK, Path.imp, zL] at *); omega)) | (refine app_le rfl ?_; omega)))
      all_goals exact e3
end Go.Proofs.Ytkjcnegkdlmapaa
namespace Go.Vc
set_option linter.unusedVariables false
set_option linter.unusedSimpArgs false
def RegW (P : Program) (n : Nat) (ops : Array Oper) (i : Nat) (Γ : Sy) (Q : Exit → Sy → Prop) : Prop :=
  ∀ (c : Cx) (g : Nat → Value) (a : Act) (w : World), c.n = n → St c Γ g a w → wpOps P ops (fun e a' w' => ∃ Γ' g', Q e Γ' ∧ St c Γ' g' a' w') (List.range' i (ops.size - i)) a w
theorem W.regW {P : Program} {n : Nat} {Q : Exit → Sy → Prop} {Γ : Sy} {id : Nat} {ops : Array Oper} (h : RegW P n ops 0 Γ Q) : W P n (.region id ops false) Γ Q := by
  refine ⟨fun c g a w hn hst => wp_region ?_⟩
  rw [List.range_eq_range']
  exact h c g a w hn hst
theorem RegW.fin {P : Program} {n : Nat} {Q : Exit → Sy → Prop} {Γ : Sy} {T : List (Nat × TE)} (hT : TOk P T) (F Ms : List Nat) {ops : Array Oper} {i : Nat} (h : seqM P T F Ms n ops (ops.toList.drop i) i Γ (Q .normal)) : RegW P n ops i Γ Q := by
  intro c g a w hn hst
  subst hn
  have := seqM_sound (c := c) (ops := ops) (Q := fun e a' w' => ∃ Γ' g', Q e Γ' ∧ St c Γ' g' a' w') hT (fun Γ' g' a' w' h1 h2 => ⟨Γ', g', h1, h2⟩) (ops.toList.drop i) i Γ g a w rfl h hst
  simpa using this
theorem RegW.cut {P : Program} {n : Nat} {Q : Exit → Sy → Prop} {Γ : Sy} {T : List (Nat × TE)} (hT : TOk P T) (F Ms : List Nat) {ops : Array Oper} {i : Nat} (k : Nat) (Γ2 : Sy) (hk : (Nat.ble i k && Nat.ble k ops.size) = true)
    (h : seqM P T F Ms n ops ((ops.toList.drop i).take (k - i)) i Γ fun Γ1 => Leaf (Sub Γ1 Γ2 (mkRen Γ1 Γ2))) (h2 : RegW P n ops k Γ2 Q) : RegW P n ops i Γ Q := by
  intro c g a w hn hst
  subst hn
  rw [Bool.and_eq_true] at hk
  have h3 := Nat.le_of_ble_eq_true hk.1
  have h4 := Nat.le_of_ble_eq_true hk.2
  have hl : ((ops.toList.drop i).take (k - i)).length = k - i := by rw [List.length_take, List.length_drop, Array.length_toList]; omega
  have e : List.range' i (ops.size - i) = List.range' i ((ops.toList.drop i).take (k - i)).length ++ List.range' k (ops.size - k) := by
    rw [hl]
    have := List.range'_append (s := i) (m := k - i) (n := ops.size - k) (step := 1)
    rw [show i + 1 * (k - i) = k by omega, show k - i + (ops.size - k) = ops.size - i by omega] at this
    exact this.symm
  rw [e]
  exact seqM_app (K := fun Γ1 => Leaf (Sub Γ1 Γ2 (mkRen Γ1 Γ2))) hT (fun Γ' g' a' w' h5 h6 => h2 c _ a' w' rfl (Sub.st h5.1 h6)) _ i Γ g a w ⟨(ops.toList.drop i).drop (k - i), (List.take_append_drop _ _).symm⟩ h hst
end Go.Vc
namespace Go.Vc
set_option linter.unusedVariables false
set_option linter.unusedSimpArgs false
theorem RegW.go {P : Program} {n : Nat} {Q : Exit → Sy → Prop} {Γ : Sy} {T : List (Nat × TE)} (hT : TOk P T) (F Ms : List Nat) {ops : Array Oper} {i : Nat} (k : Nat) (hk : (Nat.ble i k && Nat.ble k ops.size) = true)
    (h : seqM P T F Ms n ops ((ops.toList.drop i).take (k - i)) i Γ fun Γ1 => RegW P n ops k Γ1 Q) : RegW P n ops i Γ Q := by
  intro c g a w hn hst
  subst hn
  rw [Bool.and_eq_true] at hk
  have h3 := Nat.le_of_ble_eq_true hk.1
  have h4 := Nat.le_of_ble_eq_true hk.2
  have hl : ((ops.toList.drop i).take (k - i)).length = k - i := by rw [List.length_take, List.length_drop, Array.length_toList]; omega
  have e : List.range' i (ops.size - i) = List.range' i ((ops.toList.drop i).take (k - i)).length ++ List.range' k (ops.size - k) := by
    rw [hl]
    have := List.range'_append (s := i) (m := k - i) (n := ops.size - k) (step := 1)
    rw [show i + 1 * (k - i) = k by omega, show k - i + (ops.size - k) = ops.size - i by omega] at this
    exact this.symm
  rw [e]
  exact seqM_app (K := fun Γ1 => RegW P c.n ops k Γ1 Q) hT (fun Γ' g' a' w' h5 h6 => h5 c g' a' w' rfl h6) _ i Γ g a w ⟨(ops.toList.drop i).drop (k - i), (List.take_append_drop _ _).symm⟩ h hst
theorem RegW.skip {P : Program} {n : Nat} {Q : Exit → Sy → Prop} {Γ : Sy} {ops : Array Oper} {i : Nat} {o : Oper} {G : Path} {t : Nat} (ho : ops[i]? = some o) (hG : guardOf (dstsOf ops) Γ o.guard = some G) (hno : ¬ G.ok) (ht : o.dst = some t) (hlt : Nat.blt t n = true) (A : AV)
    (h : RegW P n ops (i + 1) (Γ.putB t (gd' G A)) Q) : RegW P n ops i Γ Q := by
  intro c g a w hn hst
  subst hn
  have hi : i < ops.size := (Array.getElem?_eq_some_iff.1 ho).1
  have e : List.range' i (ops.size - i) = i :: List.range' (i + 1) (ops.size - (i + 1)) := by
    rw [show ops.size - i = ops.size - (i + 1) + 1 by omega, List.range'_succ]
  rw [e, wpOps_cons]
  unfold wpOp
  rw [ho]
  dsimp only
  rw [if_neg (fun h => hno ((guardOf.wanted (ops := ops) hst hG).1 h)), ht]
  refine h c g _ w rfl ((hst.put (Nat.le_of_ble_eq_true hlt) (A := gd' G A) ?_).congr (fun _ => rfl) (fun _ => rfl))
  cases G with
  | nil => exact absurd trivial hno
  | cons x r => exact ⟨fun h => absurd h hno, fun _ => rfl⟩
end Go.Vc

