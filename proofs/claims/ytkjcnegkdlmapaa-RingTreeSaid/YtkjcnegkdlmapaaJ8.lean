/- Joined of: K11 K13 R1 R6 R2. No condition. -/
import Derived.Test.YtkjcnegkdlmapaaJ7
import Derived.Test.YtkjcnegkdlmapaaJ5

namespace Go.Proofs.Ytkjcnegkdlmapaa
open Go Go.Vc Go.Rg
set_option linter.unusedVariables false
set_option linter.unusedSimpArgs false
variable {hs : List Hd} {fl : List Lt}
set_option maxHeartbeats 16000000 in
theorem rdeliver_at {k f x : Nat} {b : Bool} {h2 : List Hd} {f2 : List Lt} (hk : k < fl.length) (hfl : fl.length ≤ 1000) (hx : x < hs.length) (hm : fl.getD k L0 = ((f : Int), (x : Int), b, ())) (ho : 0 ≤ go hs x ∧ go hs x ≤ 1000) (h : delL k (hs, fl) = (h2, f2)) :
    FnM Try.prog 41 [.padr 1000000000 0, (.lit (.int .i64 (k : Int)))] [(1000000000, .box [.own 1000000001, .own 5]), (1000000001, .row 93 HT true (hs)), (5, .row 50 LT true (fl))] (.lit (.int .i64 (0 : Int))) [(1000000000, .box [.own 1000000001, .own 5]), (1000000001, .row 93 HT true (h2)), (5, .row 50 LT true (f2))] := by
  have c1 := inB_at (v := (k : Int)) (lo := 0) (hi := (fl.length : Int) - 1) (b := true) (by
    rw [eq_comm, Bool.and_eq_true, decide_eq_true_eq, decide_eq_true_eq]; omega)
  have hel := era_len hk
  have hl : @List.length HT.T hs = hs.length := rfl
  have hlf : @List.length LT.T fl = fl.length := rfl
  have hle : @List.length LT.T (era fl k) = (era fl k).length := rfl
  have hm1 : (fl.getD k L0).1 = (f : Int) := by rw [hm]
  have hm2 : (fl.getD k L0).2.1 = (x : Int) := by rw [hm]
  have hm3 : (fl.getD k L0).2.2.1 = b := by rw [hm]
  have ho' : 0 ≤ (hs.getD x H0).2.2.2.1 ∧ (hs.getD x H0).2.2.2.1 ≤ 1000 := ho
  have h' : (if b = true then settL x (setO hs x (go hs x - 1), era fl k) else if ge hs x = true then (setW hs x true, era fl k ++ [((x : Int), (f : Int), true, ())]) else (hs.set x (true, true, (f : Int), go hs x, ()), era fl k)) = (h2, f2) := by
    rw [← h]; unfold delL; rw [hm1, hm2, hm3, Int.toNat_natCast]
  have c3 := put_at (hs := setW hs x true) (fl := era fl k) (a := (x : Int)) (b := (f : Int)) (c := true) (by omega)
  have d1 : ([] ++ List.drop 0 (List.take k fl) : List Lt) ++ List.drop (k + 1) (List.take fl.length fl) = era fl k := by rw [List.drop_zero, List.take_length]; rfl
  have d2 : (([] : List Lt) ++ List.drop 0 (List.take k fl)).length + (List.drop (k + 1) (List.take fl.length fl)).length ≤ 4294967296 := by simp; omega
  have d3 : ([] : List Lt).length + (List.drop 0 (List.take k fl)).length ≤ 4294967296 := by simp; omega
  cases hb1 : b with
  | true =>
    rw [if_pos hb1] at h'
    have c4 := leave_at (by rw [setO_len]; exact hx) (by omega) h'
    refine FnM.of_body tys_ok Try.func41 (by rfl) rfl Try.ntmps41 (by rw [Try.results41]) (by simp) ?_
  
    repeat' (first
 | refine W.seq ?_
 | refine W.block ?_
 | (refine W.resub (x := Code.region 4 _ _) (Γ' := ⟨[(0, .padr 1000000000 0), (1, .lit (.int .i64 ((k : Int)))), (5, .padr 6000 0)], [(1000000000, .box [.own 1000000001, .st true (.arr LT fl)]), (1000000001, .row 93 HT true (hs)), (6000, .box [(.lit (.int .i64 (f : Int))), (.lit (.int .i64 (x : Int))), .lit (.bool b)])]⟩) ?_ ?_; rotate_left; refine W.drawPhTo (id := 4) tys_ok [] mixed [0, 0, 0, 4, 8, 16, 0, 96, 130, 0, 512, 1024, 2048, 0, 8192, 20480, 33024, 131071, 262143, 393215] [([0, 2, 3, 4, 6, 9, 10, 11, 13, 14], 6, 65535), ([], 1, 131071), ([17, 18], 1, 1048575)] ⟨[(0, .padr 1000000000 0), (5, .padr 6000 0)], [(1000000000, .box [.own 1000000001, .own 5]), (1000000001, .row 93 HT true (hs)), (5, .row 50 LT true (era fl k)), (6000, .box [(.lit (.int .i64 (f : Int))), (.lit (.int .i64 (x : Int))), .lit (.bool b)])]⟩ (by decide +kernel) ?_ ?_; (conv => whnf); rotate_left; (conv => whnf))
 | (refine W.drawPhTo (id := 5) tys_ok [] mixed [0, 1, 2, 4, 0, 16, 40, 127] [([0, 1, 2, 4], 2, 63), ([6, 7], 0, 255)] ⟨[(0, .padr 1000000000 0), (5, .padr 6000 0), (6, .oadr 1000000001 4 x 0)], [(1000000000, .box [.own 1000000001, .own 5]), (1000000001, .row 93 HT true (hs)), (5, .row 50 LT true (era fl k)), (6000, .box [(.lit (.int .i64 (f : Int))), (.lit (.int .i64 (x : Int))), .lit (.bool b)])]⟩ (by decide +kernel) ?_ ?_ <;> (conv => whnf))
 | (refine W.regionM (id := 9) tys_ok [] [3] ?_; conv => whnf)
 | (refine W.region tys_ok [] ?_; conv => whnf)
 | (refine W.drawAll tys_ok [] mixed rfl ?_; conv => whnf)
 | (refine W.ret ?_; conv => whnf)
 | (refine W.skip ?_; conv => whnf)
 | (refine W.exit ?_; conv => whnf)
 | (refine call_at (al := false) (c1) rfl rfl rfl rfl ?_; conv => whnf)
 | (refine callM_at (c4) ?_; conv => whnf)
 | (refine Both.mk ?_ ?_ <;> (conv => whnf))
 | (refine W.cond rfl (fun hb => ?_) (fun hb => ?_) <;> (try simp only [Int.reduceToNat, Int.reduceTDiv, Int.reduceTMod, minL, maxL, pickB, zHB, zSH] at hb) <;> (try (first | (cases hb; done) | exact absurd hb (by decide) | (exfalso; omega) | (omega) | ((simp_all; done)))))
 | (refine Or.inl (And.intro ?_ ?_); (focus (first | exact trivial | exact ⟨rfl, trivial⟩ | (refine ⟨?_, trivial⟩; dsimp only; simp only [Int.reduceToNat, Int.reduceTDiv, Int.reduceTMod, minL, maxL, pickB, zHB, zSH]; omega) | (refine ⟨?_, trivial⟩; dsimp only; (try simp only [Int.reduceToNat, Int.reduceTDiv, Int.reduceTMod, minL, maxL, pickB, zHB, zSH]); (simp_all; done)) | (refine ⟨?_, trivial⟩; dsimp only; (simp only [Int.reduceToNat, Int.reduceTDiv, Int.reduceTMod, minL, maxL, pickB, zHB, zSH]; done)) | (refine ⟨?_, trivial⟩; dsimp only; (simp; done)))); (conv => whnf))
 | (refine Or.inr (And.intro ?_ ?_); (focus (intro h; have h := h.1; dsimp only at h; first | (exact Bool.noConfusion h) | (simp only [Int.reduceToNat, Int.reduceTDiv, Int.reduceTMod, minL, maxL, pickB, zHB, zSH] at h; omega) | ((try simp only [Int.reduceToNat, Int.reduceTDiv, Int.reduceTMod, minL, maxL, pickB, zHB, zSH] at h); (simp_all; done)))); (conv => whnf))
 | ((with_reducible refine And.intro ?_ ?_); (focus (first | (with_reducible rfl) | omega | rfl | ((try simp only [Int.reduceToNat, Int.reduceTDiv, Int.reduceTMod, minL, maxL, pickB, zHB, zSH, InK, Path.imp, zL] at *); omega))); (conv => whnf))
 | ((with_reducible refine And.intro (Side.out ?_) ?_); rotate_left; (conv => whnf))
 | ((first | refine retM1 ?_ | refine retM2 ?_ | refine subF.leaf ?_ | refine subF.side ?_) <;> (conv => whnf) <;> repeat' (first
 | exact trivial
 | (with_reducible rfl)
 | ((with_reducible refine And.intro ?_ ?_) <;> conv => whnf)
 | omega
 | rfl
 | (refine congrArg (SV.arr _) ?_)
 | (refine congrArg (Value.int _) ?_)
 | (refine congrArg Value.bool ?_)))); all_goals (try unfold Side)
    all_goals try (repeat' (first | (with_reducible rfl) | (with_reducible refine And.intro ?_ ?_) | omega | rfl | exact Or.inl rfl | exact Or.inr rfl | exact of_decide_eq_true rfl | exact Path.imp_of (of_decide_eq_true rfl) | (focus ((try simp only [Int.reduceToNat, Int.reduceTDiv, Int.reduceTMod, minL, maxL, pickB, zHB, zSH, InK, Path.imp, zL] at *); omega)) | (refine app_le rfl ?_; omega)))
    all_goals first | exact d1 | exact d2 | exact d3 | exact hm1 | exact hm2 | exact hm3
  | false =>
    have hb2 : ¬ b = true := by rw [hb1]; decide
    rw [if_neg hb2] at h'
    have hgx : (hs.getD x H0).2.1 = ge hs x := rfl
    have h3 : ge hs x = true → h2 = setW hs x true ∧ f2 = era fl k ++ [((x : Int), (f : Int), true, ())] := fun e => by rw [if_pos e] at h'; cases h'; exact ⟨rfl, rfl⟩
    have h4 : ge hs x = false → h2 = hs.set x (true, true, (f : Int), go hs x, ()) ∧ f2 = era fl k := fun e => by rw [if_neg (by rw [e]; decide)] at h'; cases h'; exact ⟨rfl, rfl⟩
    refine FnM.of_body tys_ok Try.func41 (by rfl) rfl Try.ntmps41 (by rw [Try.results41]) (by simp) ?_
  
    repeat' (first
 | refine W.seq ?_
 | refine W.block ?_
 | (refine W.resub (x := Code.region 4 _ _) (Γ' := ⟨[(0, .padr 1000000000 0), (1, .lit (.int .i64 ((k : Int)))), (5, .padr 6000 0)], [(1000000000, .box [.own 1000000001, .st true (.arr LT fl)]), (1000000001, .row 93 HT true (hs)), (6000, .box [(.lit (.int .i64 (f : Int))), (.lit (.int .i64 (x : Int))), .lit (.bool b)])]⟩) ?_ ?_; rotate_left; refine W.drawPhTo (id := 4) tys_ok [] mixed [0, 0, 0, 4, 8, 16, 0, 96, 130, 0, 512, 1024, 2048, 0, 8192, 20480, 33024, 131071, 262143, 393215] [([0, 2, 3, 4, 6, 9, 10, 11, 13, 14], 6, 65535), ([], 1, 131071), ([17, 18], 1, 1048575)] ⟨[(0, .padr 1000000000 0), (5, .padr 6000 0)], [(1000000000, .box [.own 1000000001, .own 5]), (1000000001, .row 93 HT true (hs)), (5, .row 50 LT true (era fl k)), (6000, .box [(.lit (.int .i64 (f : Int))), (.lit (.int .i64 (x : Int))), .lit (.bool b)])]⟩ (by decide +kernel) ?_ ?_; (conv => whnf); rotate_left; (conv => whnf))
 | (refine W.drawPhTo (id := 5) tys_ok [] mixed [0, 1, 2, 4, 0, 16, 40, 127] [([0, 1, 2, 4], 2, 63), ([6, 7], 0, 255)] ⟨[(0, .padr 1000000000 0), (5, .padr 6000 0), (6, .oadr 1000000001 4 x 0)], [(1000000000, .box [.own 1000000001, .own 5]), (1000000001, .row 93 HT true (hs)), (5, .row 50 LT true (era fl k)), (6000, .box [(.lit (.int .i64 (f : Int))), (.lit (.int .i64 (x : Int))), .lit (.bool b)])]⟩ (by decide +kernel) ?_ ?_ <;> (conv => whnf))
 | (refine W.regionM (id := 12) tys_ok [] [6] ?_; conv => whnf)
 | (refine W.drawPhTo (id := 6) tys_ok [] mixed [0, 0, 0, 0, 8, 1, 33, 65, 227, 483, 739, 2047, 4095, 6143] [([0, 1, 2, 3, 5, 6], 5, 2047), ([11, 12], 1, 16383)] ⟨[(0, .padr 1000000000 0)], [(1000000000, .box [.own 1000000001, .own 5]), (1000000001, .row 93 HT true (hs.set x (true, true, (f : Int), go hs x, ()))), (5, .row 50 LT true (era fl k))]⟩ (by decide +kernel) ?_ ?_ <;> (conv => whnf))
 | (refine W.region tys_ok [] ?_; conv => whnf)
 | (refine W.drawAll tys_ok [] mixed rfl ?_; conv => whnf)
 | (refine W.ret ?_; conv => whnf)
 | (refine W.skip ?_; conv => whnf)
 | (refine W.exit ?_; conv => whnf)
 | (refine call_at (al := false) (c1) rfl rfl rfl rfl ?_; conv => whnf)
 | (refine callM_at (c3) ?_; conv => whnf)
 | (refine Both.mk ?_ ?_ <;> (conv => whnf))
 | (refine W.cond rfl (fun hb => ?_) (fun hb => ?_) <;> (try simp only [Int.reduceToNat, Int.reduceTDiv, Int.reduceTMod, minL, maxL, pickB, zHB, zSH] at hb) <;> (try (first | (cases hb; done) | exact absurd hb (by decide) | (exfalso; omega) | (omega) | ((simp_all; done)))))
 | (refine Or.inl (And.intro ?_ ?_); (focus (first | exact trivial | exact ⟨rfl, trivial⟩ | (refine ⟨?_, trivial⟩; dsimp only; simp only [Int.reduceToNat, Int.reduceTDiv, Int.reduceTMod, minL, maxL, pickB, zHB, zSH]; omega) | (refine ⟨?_, trivial⟩; dsimp only; (try simp only [Int.reduceToNat, Int.reduceTDiv, Int.reduceTMod, minL, maxL, pickB, zHB, zSH]); (simp_all; done)) | (refine ⟨?_, trivial⟩; dsimp only; (simp only [Int.reduceToNat, Int.reduceTDiv, Int.reduceTMod, minL, maxL, pickB, zHB, zSH]; done)) | (refine ⟨?_, trivial⟩; dsimp only; (simp; done)))); (conv => whnf))
 | (refine Or.inr (And.intro ?_ ?_); (focus (intro h; have h := h.1; dsimp only at h; first | (exact Bool.noConfusion h) | (simp only [Int.reduceToNat, Int.reduceTDiv, Int.reduceTMod, minL, maxL, pickB, zHB, zSH] at h; omega) | ((try simp only [Int.reduceToNat, Int.reduceTDiv, Int.reduceTMod, minL, maxL, pickB, zHB, zSH] at h); (simp_all; done)))); (conv => whnf))
 | ((with_reducible refine And.intro ?_ ?_); (focus (first | (with_reducible rfl) | omega | rfl | ((try simp only [Int.reduceToNat, Int.reduceTDiv, Int.reduceTMod, minL, maxL, pickB, zHB, zSH, InK, Path.imp, zL] at *); omega))); (conv => whnf))
 | ((with_reducible refine And.intro (Side.out ?_) ?_); rotate_left; (conv => whnf))
 | ((first | refine retM1 ?_ | refine retM2 ?_ | refine subF.leaf ?_ | refine subF.side ?_) <;> (conv => whnf) <;> repeat' (first
 | exact trivial
 | (with_reducible rfl)
 | ((with_reducible refine And.intro ?_ ?_) <;> conv => whnf)
 | omega
 | rfl
 | (refine congrArg (SV.arr _) ?_)
 | (refine congrArg (Value.int _) ?_)
 | (refine congrArg Value.bool ?_)))); all_goals (try unfold Side)
    all_goals try (repeat' (first | (with_reducible rfl) | (with_reducible refine And.intro ?_ ?_) | omega | rfl | exact Or.inl rfl | exact Or.inr rfl | exact of_decide_eq_true rfl | exact Path.imp_of (of_decide_eq_true rfl) | (focus ((try simp only [Int.reduceToNat, Int.reduceTDiv, Int.reduceTMod, minL, maxL, pickB, zHB, zSH, InK, Path.imp, zL] at *); omega)) | (refine app_le rfl ?_; omega)))
    all_goals first | exact d1 | exact d2 | exact d3 | exact hm1 | exact hm2 | exact hm3 | exact st_len1 hx | exact st_len2 hx | exact st_all hx | exact (h3 hb).1.symm | exact (h3 hb).2.symm | exact (h4 hb).1.symm | exact (h4 hb).2.symm
end Go.Proofs.Ytkjcnegkdlmapaa
namespace Go.Proofs.Ytkjcnegkdlmapaa
open Go Go.Vc Go.Rg
set_option linter.unusedVariables false
set_option linter.unusedSimpArgs false
variable {n : Nat} {w w2 : Wk} {e : Int}
theorem send_cases {a b : Int} (h : WOk n w) (he : sendE a b w = e) (hw : sendK a b w = w2) :
    ((hasB w.1.length a && hasB w.1.length b) = false ∧ e = 1 ∧ w2 = w) ∨ ∃ f x : Nat, a = f ∧ b = x ∧ f < w.1.length ∧ x < w.1.length ∧
      ((gw w.1 f = false ∧ e = 5 ∧ w2 = w) ∨ (gw w.1 f = true ∧ 200 ≤ w.2.length ∧ e = 7 ∧ w2 = w) ∨
        (gw w.1 f = true ∧ ¬ 200 ≤ w.2.length ∧ e = 0 ∧ w2 = (setO w.1 f (go w.1 f + 1), w.2 ++ [((f : Int), (x : Int), false, ())]))) := by
  unfold sendK at hw
  rw [he] at hw
  unfold sendE at he
  split at he
  · rename_i h1
    rw [Bool.and_eq_true] at h1
    obtain ⟨f, rfl, hf⟩ := has_nat h1.1
    obtain ⟨x, rfl, hx⟩ := has_nat h1.2
    rw [Int.toNat_natCast] at he hw
    refine .inr ⟨f, x, rfl, rfl, hf, hx, ?_⟩
    split at he
    · rename_i h2
      split at he
      · rename_i h3
        subst he
        rw [if_neg (by decide)] at hw
        exact .inr (.inl ⟨h2, h3, rfl, hw.symm⟩)
      · rename_i h3
        subst he
        rw [if_pos rfl] at hw
        exact .inr (.inr ⟨h2, h3, rfl, hw.symm⟩)
    · rename_i h2
      subst he
      rw [if_neg (by decide)] at hw
      exact .inl ⟨by simpa using h2, rfl, hw.symm⟩
  · rename_i h1
    subst he
    rw [if_neg (by decide)] at hw
    exact .inl ⟨by simpa using h1, rfl, hw.symm⟩
theorem idle_cases {i : Int} (h : WOk n w) (he : idleE i w = e) (hw : idleK i w = w2) :
    (hasB w.1.length i = false ∧ e = 1 ∧ w2 = w) ∨ ∃ f : Nat, i = f ∧ f < w.1.length ∧
      ((gw w.1 f = false ∧ e = 5 ∧ w2 = w) ∨ (gw w.1 f = true ∧ goesI w.1 f = true ∧ 200 ≤ w.2.length ∧ e = 7 ∧ w2 = w) ∨
        (gw w.1 f = true ∧ ¬ (goesI w.1 f = true ∧ 200 ≤ w.2.length) ∧ e = 0 ∧ w2 = settL f (setW w.1 f false, w.2))) := by
  unfold idleK at hw
  rw [he] at hw
  unfold idleE at he
  split at he
  · rename_i h1
    obtain ⟨f, rfl, hf⟩ := has_nat h1
    rw [Int.toNat_natCast] at he hw
    refine .inr ⟨f, rfl, hf, ?_⟩
    split at he
    · rename_i h2
      split at he
      · rename_i h3
        subst he
        rw [if_neg (by decide)] at hw
        exact .inr (.inl ⟨h2, h3.1, h3.2, rfl, hw.symm⟩)
      · rename_i h3
        subst he
        rw [if_pos rfl] at hw
        exact .inr (.inr ⟨h2, h3, rfl, hw.symm⟩)
    · rename_i h2
      subst he
      rw [if_neg (by decide)] at hw
      exact .inl ⟨by simpa using h2, rfl, hw.symm⟩
  · rename_i h1
    subst he
    rw [if_neg (by decide)] at hw
    exact .inl ⟨by simpa using h1, rfl, hw.symm⟩
theorem del_cases {k : Int} (h : WOk n w) (he : delE k w = e) (hw : delK k w = w2) :
    (hasB w.2.length k = false ∧ e = 1 ∧ w2 = w) ∨ ∃ (j f x : Nat) (b : Bool), k = j ∧ j < w.2.length ∧ w.2.getD j L0 = ((f : Int), (x : Int), b, ()) ∧ x < w.1.length ∧ (0 ≤ go w.1 x ∧ go w.1 x ≤ 1000) ∧ e = 0 ∧ w2 = delL j w := by
  unfold delK at hw
  rw [he] at hw
  unfold delE at he
  split at he
  · rename_i h1
    subst he
    rw [if_pos rfl] at hw
    obtain ⟨j, rfl, hj⟩ := has_nat h1
    rw [Int.toNat_natCast] at hw
    obtain ⟨⟨v1, v2⟩, v3, v4⟩ := h.let hj
    obtain ⟨f, hf⟩ : ∃ f : Nat, (f : Int) = (w.2.getD j L0).1 := ⟨(w.2.getD j L0).1.toNat, by omega⟩
    obtain ⟨x, hx⟩ : ∃ x : Nat, (x : Int) = (w.2.getD j L0).2.1 := ⟨(w.2.getD j L0).2.1.toNat, by omega⟩
    have hxl : x < n := by omega
    have := h.owed hxl
    refine .inr ⟨j, f, x, (w.2.getD j L0).2.2.1, rfl, hj, by rw [hf, hx], by rw [h.len]; exact hxl, by omega, rfl, hw.symm⟩
  · rename_i h1
    subst he
    rw [if_neg (by decide)] at hw
    exact .inl ⟨by simpa using h1, rfl, hw.symm⟩
theorem send_at {a b : Int} (h : WOk n w) (he : sendE a b w = e) (hw : sendK a b w = w2) : FnM Try.prog 38 [.padr 1000000000 0, (.lit (.int .i64 (a : Int))), (.lit (.int .i64 (b : Int)))] [(1000000000, .box [.own 1000000001, .own 5]), (1000000001, .row 96 HT true (w).1), (5, .row 50 LT true (w).2)] (.lit (.int .i64 (e : Int))) [(1000000000, .box [.own 1000000001, .own 5]), (1000000001, .row 96 HT true (w2).1), (5, .row 50 LT true (w2).2)] := by
  have h0 : 0 < w.1.length := by rw [h.len]; exact h.n0
  have hf := h.fl
  rcases send_cases h he hw with ⟨h1, rfl, rfl⟩ | ⟨f, x, rfl, rfl, hf, hx, ⟨h1, rfl, rfl⟩ | ⟨h1, h2, rfl, rfl⟩ | ⟨h1, h2, rfl, rfl⟩⟩
  · exact send_arg h0 h1
  · exact send_none hf hx h1
  · exact send_full hf hx h1 h2
  · have := h.owed (i := f) (by rw [← h.len]; exact hf)
    exact send_ok hf hx h1 h2 (by omega)
theorem rsend_at {a b : Int} (h : WOk n w) (he : sendE a b w = e) (hw : sendK a b w = w2) : FnM Try.prog 39 [.padr 1000000000 0, (.lit (.int .i64 (a : Int))), (.lit (.int .i64 (b : Int)))] [(1000000000, .box [.own 1000000001, .own 5]), (1000000001, .row 93 HT true (w).1), (5, .row 50 LT true (w).2)] (.lit (.int .i64 (e : Int))) [(1000000000, .box [.own 1000000001, .own 5]), (1000000001, .row 93 HT true (w2).1), (5, .row 50 LT true (w2).2)] := by
  have h1 : w.1.length ≤ 1000 := by have := h.len; have := h.n1; omega
  have hf := h.fl
  rcases send_cases h he hw with ⟨h2, rfl, rfl⟩ | ⟨f, x, rfl, rfl, hf, hx, ⟨h2, rfl, rfl⟩ | ⟨h2, h3, rfl, rfl⟩ | ⟨h2, h3, rfl, rfl⟩⟩
  · exact rsend_arg h1 h2
  · exact rsend_none h1 hf hx h2
  · exact rsend_full h1 hf hx h2 h3
  · have := h.owed (i := f) (by rw [← h.len]; exact hf)
    exact rsend_ok h1 hf hx h2 h3 (by omega)
theorem idle_at {i : Int} (h : WOk n w) (he : idleE i w = e) (hw : idleK i w = w2) : FnM Try.prog 19 [.padr 1000000000 0, (.lit (.int .i64 (i : Int)))] [(1000000000, .box [.own 1000000001, .own 5]), (1000000001, .row 96 HT true (w).1), (5, .row 50 LT true (w).2)] (.lit (.int .i64 (e : Int))) [(1000000000, .box [.own 1000000001, .own 5]), (1000000001, .row 96 HT true (w2).1), (5, .row 50 LT true (w2).2)] := by
  have h0 : 0 < w.1.length := by rw [h.len]; exact h.n0
  have hf := h.fl
  rcases idle_cases h he hw with ⟨h1, rfl, rfl⟩ | ⟨f, rfl, hf, ⟨h1, rfl, rfl⟩ | ⟨h1, h2, h3, rfl, rfl⟩ | ⟨h1, h2, rfl, rfl⟩⟩
  · exact idle_arg h0 h1
  · exact idle_none hf h1
  · exact idle_full hf h1 h2 h3
  · exact idle_ok hf h1 h2 (by omega) rfl
theorem ridle_at {i : Int} (h : WOk n w) (he : idleE i w = e) (hw : idleK i w = w2) : FnM Try.prog 40 [.padr 1000000000 0, (.lit (.int .i64 (i : Int)))] [(1000000000, .box [.own 1000000001, .own 5]), (1000000001, .row 93 HT true (w).1), (5, .row 50 LT true (w).2)] (.lit (.int .i64 (e : Int))) [(1000000000, .box [.own 1000000001, .own 5]), (1000000001, .row 93 HT true (w2).1), (5, .row 50 LT true (w2).2)] := by
  have h1 : w.1.length ≤ 1000 := by have := h.len; have := h.n1; omega
  have hf := h.fl
  rcases idle_cases h he hw with ⟨h2, rfl, rfl⟩ | ⟨f, rfl, hf, ⟨h2, rfl, rfl⟩ | ⟨h2, h3, h4, rfl, rfl⟩ | ⟨h2, h3, rfl, rfl⟩⟩
  · exact ridle_arg h1 h2
  · exact ridle_none h1 hf h2
  · exact ridle_full h1 hf h2 h3 h4
  · exact ridle_ok h1 hf h2 h3 (by omega) rfl
theorem deliver_at {k : Int} (h : WOk n w) (he : delE k w = e) (hw : delK k w = w2) : FnM Try.prog 21 [.padr 1000000000 0, (.lit (.int .i64 (k : Int)))] [(1000000000, .box [.own 1000000001, .own 5]), (1000000001, .row 96 HT true (w).1), (5, .row 50 LT true (w).2)] (.lit (.int .i64 (e : Int))) [(1000000000, .box [.own 1000000001, .own 5]), (1000000001, .row 96 HT true (w2).1), (5, .row 50 LT true (w2).2)] := by
  have h0 : 0 < w.1.length := by rw [h.len]; exact h.n0
  have hf := h.fl
  rcases del_cases h he hw with ⟨h1, rfl, rfl⟩ | ⟨j, f, x, b, rfl, hj, hm, hx, ho, rfl, rfl⟩
  · exact deliver_arg h0 h1
  · have e0 : delL j w = if b = true then settL x (setO w.1 x (go w.1 x - 1), era w.2 j) else if ge w.1 x = true then (setW w.1 x true, era w.2 j ++ [((x : Int), (f : Int), true, ())]) else (w.1.set x (true, true, (f : Int), go w.1 x, ()), era w.2 j) := by
      unfold delL; rw [hm]; rfl
    rw [e0]
    cases b with
    | true =>
      rw [if_pos rfl]
      exact deliver_ack h0 hj (by omega) hx hm ho rfl
    | false =>
      rw [if_neg (by decide)]
      cases hg : ge w.1 x with
      | true =>
        rw [if_pos rfl]
        exact deliver_eng h0 hj (by omega) hx hm hg
      | false =>
        rw [if_neg (by decide)]
        exact deliver_new h0 hj (by omega) hx hm hg
theorem rdeliver_all {k : Int} (h : WOk n w) (he : delE k w = e) (hw : delK k w = w2) : FnM Try.prog 41 [.padr 1000000000 0, (.lit (.int .i64 (k : Int)))] [(1000000000, .box [.own 1000000001, .own 5]), (1000000001, .row 93 HT true (w).1), (5, .row 50 LT true (w).2)] (.lit (.int .i64 (e : Int))) [(1000000000, .box [.own 1000000001, .own 5]), (1000000001, .row 93 HT true (w2).1), (5, .row 50 LT true (w2).2)] := by
  have hf := h.fl
  rcases del_cases h he hw with ⟨h1, rfl, rfl⟩ | ⟨j, f, x, b, rfl, hj, hm, hx, ho, rfl, rfl⟩
  · exact rdeliver_arg (by omega) h1
  · exact rdeliver_at hj (by omega) hx hm ho rfl
end Go.Proofs.Ytkjcnegkdlmapaa
namespace Go.Proofs.Ytkjcnegkdlmapaa
open Go Go.Vc Go.Rg
set_option linter.unusedVariables false
set_option linter.unusedSimpArgs false
variable {n : Nat} {pet : Bool} {r : Rn}
theorem ris_at : FnM Try.prog 59 [.padr 1000000000 0] [(1000000000, .box [.lit (.bool true), .lit (.bool pet), .own 1000000001, .mown 1000000002, (.lit (.int .i64 ((r).2.2 : Int)))]), (1000000001, .row 105 PT true (r).1), (1000000002, .mat 80 91 NT true (r).2.1 none)] (.lit (.bool true)) [(1000000000, .box [.lit (.bool true), .lit (.bool pet), .own 1000000001, .mown 1000000002, (.lit (.int .i64 ((r).2.2 : Int)))]), (1000000001, .row 105 PT true (r).1), (1000000002, .mat 80 91 NT true (r).2.1 none)] := by
  refine FnM.of_body tys_ok Try.func59 (by rfl) rfl Try.ntmps59 (by rw [Try.results59]) (by simp) ?_
  
  repeat' (first
 | refine W.seq ?_
 | refine W.block ?_
 | (refine W.region tys_ok [] ?_; conv => whnf)
 | (refine W.drawAll tys_ok [] mixed rfl ?_; conv => whnf)
 | (refine W.ret ?_; conv => whnf)
 | (refine W.skip ?_; conv => whnf)
 | (refine W.exit ?_; conv => whnf)
 | (refine W.cond rfl (fun hb => ?_) (fun hb => ?_) <;> (try simp only [Int.reduceToNat, Int.reduceTDiv, Int.reduceTMod, minL, maxL, pickB, zHB, zSH] at hb) <;> (try (first | (cases hb; done) | exact absurd hb (by decide) | (exfalso; omega) | (omega))))
 | ((with_reducible refine And.intro ?_ ?_); (focus (first | (with_reducible rfl) | omega | rfl | ((try simp only [Int.reduceToNat, Int.reduceTDiv, Int.reduceTMod, minL, maxL, pickB, zHB, zSH, InK, Path.imp, zL] at *); omega))); (conv => whnf))
 | ((with_reducible refine And.intro (Side.out ?_) ?_); rotate_left; (conv => whnf))
 | ((first | refine retM1 ?_ | refine retM2 ?_) <;> (conv => whnf) <;> repeat' (first
 | exact trivial
 | (with_reducible rfl)
 | ((with_reducible refine And.intro ?_ ?_) <;> conv => whnf)
 | omega
 | rfl
 | (refine congrArg (SV.arr _) ?_)
 | (refine congrArg (Value.int _) ?_)
 | (refine congrArg Value.bool ?_)))); all_goals (try unfold Side)
  all_goals try (repeat' (first | (with_reducible rfl) | (with_reducible refine And.intro ?_ ?_) | omega | rfl | exact Or.inl rfl | exact Or.inr rfl | exact of_decide_eq_true rfl | exact Path.imp_of (of_decide_eq_true rfl) | (focus ((try simp only [Int.reduceToNat, Int.reduceTDiv, Int.reduceTMod, minL, maxL, pickB, zHB, zSH, InK, Path.imp, zL] at *); omega)) | (refine app_le rfl ?_; omega)))
theorem rhas_at {i : Int} {b : Bool} (h : b = hasB r.1.length i) : FnM Try.prog 60 [.padr 1000000000 0, (.lit (.int .i64 (i : Int)))] [(1000000000, .box [.lit (.bool true), .lit (.bool pet), .own 1000000001, .mown 1000000002, (.lit (.int .i64 ((r).2.2 : Int)))]), (1000000001, .row 105 PT true (r).1), (1000000002, .mat 80 91 NT true (r).2.1 none)] (.lit (.bool b)) [(1000000000, .box [.lit (.bool true), .lit (.bool pet), .own 1000000001, .mown 1000000002, (.lit (.int .i64 ((r).2.2 : Int)))]), (1000000001, .row 105 PT true (r).1), (1000000002, .mat 80 91 NT true (r).2.1 none)] := by
  subst h
  have hl : @List.length PT.T r.1 = r.1.length := rfl
  refine FnM.of_body tys_ok Try.func60 (by rfl) rfl Try.ntmps60 (by rw [Try.results60]) (by simp) ?_
  
  repeat' (first
 | refine W.seq ?_
 | refine W.block ?_
 | (refine W.region tys_ok [] ?_; conv => whnf)
 | (refine W.drawAll tys_ok [] mixed rfl ?_; conv => whnf)
 | (refine W.ret ?_; conv => whnf)
 | (refine W.skip ?_; conv => whnf)
 | (refine W.exit ?_; conv => whnf)
 | (refine W.cond rfl (fun hb => ?_) (fun hb => ?_) <;> (try simp only [Int.reduceToNat, Int.reduceTDiv, Int.reduceTMod, minL, maxL, pickB, zHB, zSH] at hb) <;> (try (first | (cases hb; done) | exact absurd hb (by decide) | (exfalso; omega) | (omega))))
 | ((with_reducible refine And.intro ?_ ?_); (focus (first | (with_reducible rfl) | omega | rfl | ((try simp only [Int.reduceToNat, Int.reduceTDiv, Int.reduceTMod, minL, maxL, pickB, zHB, zSH, InK, Path.imp, zL] at *); omega))); (conv => whnf))
 | ((with_reducible refine And.intro (Side.out ?_) ?_); rotate_left; (conv => whnf))
 | ((first | refine retM1 ?_ | refine retM2 ?_) <;> (conv => whnf) <;> repeat' (first
 | exact trivial
 | (with_reducible rfl)
 | ((with_reducible refine And.intro ?_ ?_) <;> conv => whnf)
 | omega
 | rfl
 | (refine congrArg (SV.arr _) ?_)
 | (refine congrArg (Value.int _) ?_)
 | (refine congrArg Value.bool ?_)))); all_goals (try unfold Side)
  all_goals try (repeat' (first | (with_reducible rfl) | (with_reducible refine And.intro ?_ ?_) | omega | rfl | exact Or.inl rfl | exact Or.inr rfl | exact of_decide_eq_true rfl | exact Path.imp_of (of_decide_eq_true rfl) | (focus ((try simp only [Int.reduceToNat, Int.reduceTDiv, Int.reduceTMod, minL, maxL, pickB, zHB, zSH, InK, Path.imp, zL] at *); omega)) | (refine app_le rfl ?_; omega)))
set_option maxHeartbeats 4000000 in
theorem sendp_at {i : Nat} {k v : Int} (hi : i < r.2.1.length) (hf : ((r.2.1.getD i []).length : Int) ≤ r.2.2) (hs : 0 ≤ r.2.2 ∧ r.2.2 ≤ 1000000) : FnM Try.prog 78 [.padr 1000000000 0, (.lit (.int .i64 (i : Int))), (.lit (.int .i64 (k : Int))), (.lit (.int .i64 (v : Int)))] [(1000000000, .box [.lit (.bool true), .lit (.bool pet), .own 1000000001, .mown 5, (.lit (.int .i64 ((r).2.2 : Int)))]), (1000000001, .row 105 PT true (r).1), (5, .mat 80 91 NT true (r).2.1 none)] (.tup []) [(1000000000, .box [.lit (.bool true), .lit (.bool pet), .own 1000000001, .mown 5, (.lit (.int .i64 (((sendR i k v r)).2.2 : Int)))]), (1000000001, .row 105 PT true ((sendR i k v r)).1), (5, .mat 80 91 NT true ((sendR i k v r)).2.1 none)] := by
  have e0 : i < r.2.1.length := hi
  have e1 : i < (r.2.1.set i (r.2.1.getD i [] ++ [(k, v, ())])).length := by rw [List.length_set]; exact hi
  have e2 : (r.2.1.getD i []).length + [((k, v, ()) : Nt)].length ≤ 4294967296 := by rw [List.length_singleton]; omega
  have e3 : 0 ≤ (i : Int) ∧ i < (r.2.1.set i (r.2.1.getD i [] ++ [(k, v, ())])).length := ⟨by omega, e1⟩
  have e4 : 0 ≤ (i : Int) ∧ i < r.2.1.length := ⟨by omega, e0⟩
  refine FnM.of_body tys_ok Try.func78 (by rfl) rfl Try.ntmps78 (by rw [Try.results78]) (by simp) ?_
  
  repeat' (first
 | refine W.seq ?_
 | refine W.block ?_
 | (refine W.resub (x := Code.region 0 _ _) (Γ' := ⟨[(0, .padr 1000000000 0), (1, (.lit (.int .i64 (i : Int)))), (2, (.lit (.int .i64 (k : Int)))), (3, (.lit (.int .i64 (v : Int))))], [(1000000000, .box [.lit (.bool true), .lit (.bool pet), .own 1000000001, .mown 5, (.lit (.int .i64 ((r).2.2 : Int)))]), (1000000001, .row 105 PT true (r).1), (5, .mat 80 91 NT true (r).2.1 none)]⟩) ?_ ?_; rotate_left; refine W.drawPhTo (id := 0) tys_ok [] mixed [0, 1, 2, 4, 0, 0, 32, 64, 128, 0, 768, 1024, 0, 0, 12288, 16384, 34816, 131071, 262143] [([0, 1, 2, 4, 5, 6, 7, 9, 12, 13], 7, 131071), ([17], 1, 524287)] ⟨[(0, .padr 1000000000 0)], [(1000000000, .box [.lit (.bool true), .lit (.bool pet), .own 1000000001, .mown 5, (.lit (.int .i64 (r.2.2 : Int)))]), (1000000001, .row 105 PT true r.1), (5, .mat 80 91 NT true (sendR i k v r).2.1 none)]⟩ (by decide +kernel) ?_ ?_; (conv => whnf); rotate_left; (conv => whnf))
 | (refine W.region tys_ok [] ?_; conv => whnf)
 | (refine W.drawAll tys_ok [] mixed rfl ?_; conv => whnf)
 | (refine W.ret ?_; conv => whnf)
 | (refine W.skip ?_; conv => whnf)
 | (refine W.exit ?_; conv => whnf)
 | (refine Both.mk ?_ ?_ <;> (conv => whnf))
 | (refine W.cond rfl (fun hb => ?_) (fun hb => ?_) <;> (try simp only [Int.reduceToNat, Int.reduceTDiv, Int.reduceTMod, minL, maxL, pickB, zHB, zSH] at hb) <;> (try (first | (cases hb; done) | exact absurd hb (by decide) | (exfalso; omega) | (omega))))
 | ((with_reducible refine And.intro ?_ ?_); (focus (first | (with_reducible rfl) | omega | rfl | ((try simp only [Int.reduceToNat, Int.reduceTDiv, Int.reduceTMod, minL, maxL, pickB, zHB, zSH, InK, Path.imp, zL] at *); omega))); (conv => whnf))
 | ((with_reducible refine And.intro (Side.out ?_) ?_); rotate_left; (conv => whnf))
 | ((first | refine retM1 ?_ | refine retM2 ?_ | refine subF.leaf ?_ | refine subF.side ?_) <;> (conv => whnf) <;> repeat' (first
 | exact trivial
 | (with_reducible rfl)
 | ((with_reducible refine And.intro ?_ ?_) <;> conv => whnf)
 | omega
 | rfl
 | (refine congrArg (SV.arr _) ?_)
 | (refine congrArg (Value.int _) ?_)
 | (refine congrArg Value.bool ?_)))); all_goals (try unfold Side)
  all_goals try (repeat' (first | (with_reducible rfl) | (with_reducible refine And.intro ?_ ?_) | omega | rfl | exact Or.inl rfl | exact Or.inr rfl | exact of_decide_eq_true rfl | exact Path.imp_of (of_decide_eq_true rfl) | (focus ((try simp only [Int.reduceToNat, Int.reduceTDiv, Int.reduceTMod, minL, maxL, pickB, zHB, zSH, InK, Path.imp, zL] at *); omega)) | (refine app_le rfl ?_; omega)))
  all_goals first | exact e0 | exact e1 | exact Path.imp_of e0 | exact e2 | exact Path.imp_of e3 | exact Path.imp_of e4 | skip
end Go.Proofs.Ytkjcnegkdlmapaa
namespace Go.Proofs.Ytkjcnegkdlmapaa
open Go Go.Vc Go.Rg
set_option linter.unusedVariables false
set_option linter.unusedSimpArgs false
def ixN (l : List Int) (x : Int) (i : Nat) : Int := if x ∈ l.drop i then ((i + (l.drop i).idxOf x : Nat) : Int) else -1
theorem ixN_end {l : List Int} {x : Int} {i : Nat} (h : l.length ≤ i) : ixN l x i = -1 := by
  unfold ixN
  rw [List.drop_of_length_le h]
  rfl
theorem getD_eq {l : List Int} {i : Nat} (h : i < l.length) : l.getD i 0 = l[i] := by rw [List.getD_eq_getElem?_getD, List.getElem?_eq_getElem h]; rfl
theorem ixN_hit {l : List Int} {x : Int} {i : Nat} (h : i < l.length) (hx : x = l.getD i 0) : ixN l x i = (i : Int) := by
  unfold ixN
  rw [List.drop_eq_getElem_cons h, ← getD_eq h, ← hx]
  simp
theorem ixN_miss {l : List Int} {x : Int} {i : Nat} (h : i < l.length) (hx : x ≠ l.getD i 0) : ixN l x i = ixN l x (i + 1) := by
  unfold ixN
  rw [List.drop_eq_getElem_cons h, ← getD_eq h]
  have h1 : (x ∈ l.getD i 0 :: l.drop (i + 1)) ↔ x ∈ l.drop (i + 1) :=
    ⟨fun h => (List.mem_cons.1 h).elim (fun e => absurd e hx) id, List.mem_cons_of_mem _⟩
  by_cases e : x ∈ l.drop (i + 1)
  · rw [if_pos (h1.2 e), if_pos e, List.idxOf_cons]
    have : (l.getD i 0 == x) = false := by simpa using fun h => hx h.symm
    rw [this]
    simp only [cond_false]
    congr 1
    omega
  · rw [if_neg (fun h => e (h1.1 h)), if_neg e]
theorem ixN_sign {l : List Int} {x : Int} : decide (0 ≤ ixN l x 0) = decide (x ∈ l) := by
  unfold ixN
  rw [List.drop_zero, decide_eq_decide]
  by_cases e : x ∈ l
  · rw [if_pos e]; simp only [e, iff_true]; omega
  · rw [if_neg e]; simp only [e, iff_false]; omega
theorem indexN_at {l : List Int} {x : Int} (hll : l.length ≤ 1000) : FnAt Try.prog false 77 [.arr (.int .i64) l, I64 x] (.lit (.int .i64 (ixN l x 0 : Int))) [] := by
  have hl : @List.length (Ty.int .i64).T l = l.length := rfl
  refine FnAt.of_body tys_ok Try.func77 (by rfl) rfl Try.ntmps77 (by rw [Try.results77]) (by simp) ?_
  
  repeat' (first
 | refine W.seq ?_
 | refine W.block ?_
 | (refine W.region tys_ok [] ?_; conv => whnf)
 | (refine W.drawAll tys_ok [] mixed rfl ?_; conv => whnf)
 | (refine W.ret ?_; conv => whnf)
 | (refine W.skip ?_; conv => whnf)
 | (refine W.exit ?_; conv => whnf)
 | (refine W.cond rfl (fun hb => ?_) (fun hb => ?_) <;> (try simp only [Int.reduceToNat, Int.reduceTDiv, Int.reduceTMod, minL, maxL, pickB, zHB, zSH] at hb) <;> (try (first | (cases hb; done) | exact absurd hb (by decide) | (exfalso; omega) | (omega))))
 | ((with_reducible refine And.intro ?_ ?_); (focus (first | (with_reducible rfl) | omega | rfl | ((try simp only [Int.reduceToNat, Int.reduceTDiv, Int.reduceTMod, minL, maxL, pickB, zHB, zSH, InK, Path.imp, zL] at *); omega))); (conv => whnf))
 | ((with_reducible refine And.intro (Side.out ?_) ?_); rotate_left; (conv => whnf))
 | ((first | refine retF1 ?_ | refine retF2 ?_) <;> (conv => whnf) <;> repeat' (first
 | exact trivial
 | (with_reducible rfl)
 | ((with_reducible refine And.intro ?_ ?_) <;> conv => whnf)
 | omega
 | rfl
 | (refine congrArg (SV.arr _) ?_)
 | (refine congrArg (Value.int _) ?_)
 | (refine congrArg Value.bool ?_)))); all_goals (try unfold Side)
  all_goals try (repeat' (first | (with_reducible rfl) | (with_reducible refine And.intro ?_ ?_) | omega | rfl | exact Or.inl rfl | exact Or.inr rfl | exact of_decide_eq_true rfl | exact Path.imp_of (of_decide_eq_true rfl) | (focus ((try simp only [Int.reduceToNat, Int.reduceTDiv, Int.reduceTMod, minL, maxL, pickB, zHB, zSH, InK, Path.imp, zL] at *); omega)) | (refine app_le rfl ?_; omega)))
  refine W.loop (fun i : Nat => ⟨[(0, .st false (.arr (.int .i64) l)), (1, (.lit (.int .i64 (x : Int)))), (7, (.lit (.int .i64 (l.length : Int)))), (8, (.lit (.int .i64 (i : Int))))], []⟩) (fun i => i ≤ l.length ∧ ixN l x 0 = ixN l x i) (fun i => l.length - i) (0) ?_ ?_
  · refine ⟨⟨Nat.zero_le _, rfl⟩, ?_⟩
    refine subF.ok ?_ <;> (conv => whnf) <;> repeat' (first
 | exact trivial
 | (with_reducible rfl)
 | ((with_reducible refine And.intro ?_ ?_) <;> conv => whnf)
 | omega
 | rfl
 | (refine congrArg (SV.arr _) ?_)
 | (refine congrArg (Value.int _) ?_)
 | (refine congrArg Value.bool ?_))
  · rintro i ⟨hi, hix⟩
    by_cases hil : i < l.length
    · by_cases hx : x = l.getD i 0
      · have hy := ixN_hit hil hx
        repeat' (first
 | refine W.seq ?_
 | refine W.block ?_
 | (refine W.region tys_ok [] ?_; conv => whnf)
 | (refine W.drawAll tys_ok [] mixed rfl ?_; conv => whnf)
 | (refine W.ret ?_; conv => whnf)
 | (refine W.skip ?_; conv => whnf)
 | (refine W.exit ?_; conv => whnf)
 | (refine W.cond rfl (fun hb => ?_) (fun hb => ?_) <;> (try simp only [Int.reduceToNat, Int.reduceTDiv, Int.reduceTMod, minL, maxL, pickB, zHB, zSH] at hb) <;> (try (first | (cases hb; done) | exact absurd hb (by decide) | (exfalso; omega) | (omega) | ((simp_all; done)))))
 | ((with_reducible refine And.intro ?_ ?_); (focus (first | (with_reducible rfl) | omega | rfl | ((try simp only [Int.reduceToNat, Int.reduceTDiv, Int.reduceTMod, minL, maxL, pickB, zHB, zSH, InK, Path.imp, zL] at *); omega))); (conv => whnf))
 | ((with_reducible refine And.intro (Side.out ?_) ?_); rotate_left; (conv => whnf))
 | ((first | refine retF1 ?_ | refine retF2 ?_) <;> (conv => whnf) <;> repeat' (first
 | exact trivial
 | (with_reducible rfl)
 | ((with_reducible refine And.intro ?_ ?_) <;> conv => whnf)
 | omega
 | rfl
 | (refine congrArg (SV.arr _) ?_)
 | (refine congrArg (Value.int _) ?_)
 | (refine congrArg Value.bool ?_)))); all_goals (try unfold Side)
        all_goals try (repeat' (first | (with_reducible rfl) | (with_reducible refine And.intro ?_ ?_) | omega | rfl | exact Or.inl rfl | exact Or.inr rfl | exact of_decide_eq_true rfl | exact Path.imp_of (of_decide_eq_true rfl) | (focus ((try simp only [Int.reduceToNat, Int.reduceTDiv, Int.reduceTMod, minL, maxL, pickB, zHB, zSH, InK, Path.imp, zL] at *); omega)) | (refine app_le rfl ?_; omega)))
        all_goals (rw [hix, hy])
      · have hy := ixN_miss hil hx
        repeat' (first
 | refine W.seq ?_
 | refine W.block ?_
 | (refine W.region tys_ok [] ?_; conv => whnf)
 | (refine W.drawAll tys_ok [] mixed rfl ?_; conv => whnf)
 | (refine W.ret ?_; conv => whnf)
 | (refine W.skip ?_; conv => whnf)
 | (refine W.exit ?_; conv => whnf)
 | (refine W.cond rfl (fun hb => ?_) (fun hb => ?_) <;> (try simp only [Int.reduceToNat, Int.reduceTDiv, Int.reduceTMod, minL, maxL, pickB, zHB, zSH] at hb) <;> (try (first | (cases hb; done) | exact absurd hb (by decide) | (exfalso; omega) | (omega) | ((simp_all; done)))))
 | ((with_reducible refine And.intro ?_ ?_); (focus (first | (with_reducible rfl) | omega | rfl | ((try simp only [Int.reduceToNat, Int.reduceTDiv, Int.reduceTMod, minL, maxL, pickB, zHB, zSH, InK, Path.imp, zL] at *); omega))); (conv => whnf))
 | ((with_reducible refine And.intro (Side.out ?_) ?_); rotate_left; (conv => whnf))
 | ((first | refine retF1 ?_ | refine retF2 ?_) <;> (conv => whnf) <;> repeat' (first
 | exact trivial
 | (with_reducible rfl)
 | ((with_reducible refine And.intro ?_ ?_) <;> conv => whnf)
 | omega
 | rfl
 | (refine congrArg (SV.arr _) ?_)
 | (refine congrArg (Value.int _) ?_)
 | (refine congrArg Value.bool ?_)))); all_goals (try unfold Side)
        all_goals try (repeat' (first | (with_reducible rfl) | (with_reducible refine And.intro ?_ ?_) | omega | rfl | exact Or.inl rfl | exact Or.inr rfl | exact of_decide_eq_true rfl | exact Path.imp_of (of_decide_eq_true rfl) | (focus ((try simp only [Int.reduceToNat, Int.reduceTDiv, Int.reduceTMod, minL, maxL, pickB, zHB, zSH, InK, Path.imp, zL] at *); omega)) | (refine app_le rfl ?_; omega)))
        refine ⟨i + 1, ⟨⟨by omega, by rw [hix, hy]⟩, by omega⟩, ?_⟩
        refine subF.ok ?_ <;> (conv => whnf) <;> repeat' (first
 | exact trivial
 | (with_reducible rfl)
 | ((with_reducible refine And.intro ?_ ?_) <;> conv => whnf)
 | omega
 | rfl
 | (refine congrArg (SV.arr _) ?_)
 | (refine congrArg (Value.int _) ?_)
 | (refine congrArg Value.bool ?_))
    · have hy := ixN_end (l := l) (x := x) (i := i) (by omega)
      repeat' (first
 | refine W.seq ?_
 | refine W.block ?_
 | (refine W.region tys_ok [] ?_; conv => whnf)
 | (refine W.drawAll tys_ok [] mixed rfl ?_; conv => whnf)
 | (refine W.ret ?_; conv => whnf)
 | (refine W.skip ?_; conv => whnf)
 | (refine W.exit ?_; conv => whnf)
 | (refine W.cond rfl (fun hb => ?_) (fun hb => ?_) <;> (try simp only [Int.reduceToNat, Int.reduceTDiv, Int.reduceTMod, minL, maxL, pickB, zHB, zSH] at hb) <;> (try (first | (cases hb; done) | exact absurd hb (by decide) | (exfalso; omega) | (omega))))
 | ((with_reducible refine And.intro ?_ ?_); (focus (first | (with_reducible rfl) | omega | rfl | ((try simp only [Int.reduceToNat, Int.reduceTDiv, Int.reduceTMod, minL, maxL, pickB, zHB, zSH, InK, Path.imp, zL] at *); omega))); (conv => whnf))
 | ((with_reducible refine And.intro (Side.out ?_) ?_); rotate_left; (conv => whnf))
 | ((first | refine retF1 ?_ | refine retF2 ?_) <;> (conv => whnf) <;> repeat' (first
 | exact trivial
 | (with_reducible rfl)
 | ((with_reducible refine And.intro ?_ ?_) <;> conv => whnf)
 | omega
 | rfl
 | (refine congrArg (SV.arr _) ?_)
 | (refine congrArg (Value.int _) ?_)
 | (refine congrArg Value.bool ?_)))); all_goals (try unfold Side)
      all_goals try (repeat' (first | (with_reducible rfl) | (with_reducible refine And.intro ?_ ?_) | omega | rfl | exact Or.inl rfl | exact Or.inr rfl | exact of_decide_eq_true rfl | exact Path.imp_of (of_decide_eq_true rfl) | (focus ((try simp only [Int.reduceToNat, Int.reduceTDiv, Int.reduceTMod, minL, maxL, pickB, zHB, zSH, InK, Path.imp, zL] at *); omega)) | (refine app_le rfl ?_; omega)))
      all_goals (rw [hix, hy])
theorem containsN_at {l : List Int} {x : Int} {b : Bool} (hll : l.length ≤ 1000) (h : b = decide (x ∈ l)) : FnAt Try.prog false 57 [.arr (.int .i64) l, I64 x] (.lit (.bool b)) [] := by
  subst h
  have c1 := indexN_at (x := x) hll
  have hs := ixN_sign (l := l) (x := x)
  refine FnAt.of_body tys_ok Try.func57 (by rfl) rfl Try.ntmps57 (by rw [Try.results57]) (by simp) ?_
  
  repeat' (first
 | refine W.seq ?_
 | refine W.block ?_
 | (refine W.region tys_ok [] ?_; conv => whnf)
 | (refine W.drawAll tys_ok [] mixed rfl ?_; conv => whnf)
 | (refine W.ret ?_; conv => whnf)
 | (refine W.skip ?_; conv => whnf)
 | (refine W.exit ?_; conv => whnf)
 | (refine call_at (al := false) (c1) rfl rfl rfl rfl ?_; conv => whnf)
 | (refine W.cond rfl (fun hb => ?_) (fun hb => ?_) <;> (try simp only [Int.reduceToNat, Int.reduceTDiv, Int.reduceTMod, minL, maxL, pickB, zHB, zSH] at hb) <;> (try (first | (cases hb; done) | exact absurd hb (by decide) | (exfalso; omega) | (omega))))
 | ((with_reducible refine And.intro ?_ ?_); (focus (first | (with_reducible rfl) | omega | rfl | ((try simp only [Int.reduceToNat, Int.reduceTDiv, Int.reduceTMod, minL, maxL, pickB, zHB, zSH, InK, Path.imp, zL] at *); omega))); (conv => whnf))
 | ((with_reducible refine And.intro (Side.out ?_) ?_); rotate_left; (conv => whnf))
 | ((first | refine retF1 ?_ | refine retF2 ?_) <;> (conv => whnf) <;> repeat' (first
 | exact trivial
 | (with_reducible rfl)
 | ((with_reducible refine And.intro ?_ ?_) <;> conv => whnf)
 | omega
 | rfl
 | (refine congrArg (SV.arr _) ?_)
 | (refine congrArg (Value.int _) ?_)
 | (refine congrArg Value.bool ?_)))); all_goals (try unfold Side)
  all_goals try (repeat' (first | (with_reducible rfl) | (with_reducible refine And.intro ?_ ?_) | omega | rfl | exact Or.inl rfl | exact Or.inr rfl | exact of_decide_eq_true rfl | exact Path.imp_of (of_decide_eq_true rfl) | (focus ((try simp only [Int.reduceToNat, Int.reduceTDiv, Int.reduceTMod, minL, maxL, pickB, zHB, zSH, InK, Path.imp, zL] at *); omega)) | (refine app_le rfl ?_; omega)))
  all_goals exact hs
def mkP (x : Int) : Pe := (x, false, 0, x, 0, false, 1, ())
def goodAt (xs : List Int) (i : Nat) : Prop := 1 ≤ xs.getD i 0 ∧ xs.getD i 0 ≤ 1000 ∧ xs.getD i 0 ∉ xs.take i
set_option maxHeartbeats 4000000 in
theorem new_ok {xs : List Int} {pet : Bool} (h1 : 1 ≤ xs.length) (h2 : xs.length ≤ 10) (hg : ∀ i, i < xs.length → goodAt xs i) : FnM Try.prog 27 [.st false (.arr (.int .i64) xs), .lit (.bool pet)] [] (.tup [.padr 0 0, (.lit (.int .i64 (0 : Int)))]) [(0, .box [.lit (.bool true), .lit (.bool pet), .own 1, .mown 2, (.lit (.int .i64 (((rnew xs)).2.2 : Int)))]), (1, .row 105 PT true ((rnew xs)).1), (2, .mat 80 91 NT true ((rnew xs)).2.1 none)] := by
  have hl : @List.length (Ty.int .i64).T xs = xs.length := rfl
  have hN1 : (xs.length : Int) ≤ 4294967296 := by omega
  refine FnM.of_body tys_ok Try.func27 (by rfl) rfl Try.ntmps27 (by rw [Try.results27]) (by simp) ?_
  
  repeat' (first
 | refine W.seq ?_
 | refine W.block ?_
 | (refine W.region tys_ok [0, 20] ?_; conv => whnf)
 | (refine W.drawAll tys_ok [0, 20] mixed rfl ?_; conv => whnf)
 | (refine W.ret ?_; conv => whnf)
 | (refine W.skip ?_; conv => whnf)
 | (refine W.exit ?_; conv => whnf)
 | (refine W.cond rfl (fun hb => ?_) (fun hb => ?_) <;> (try simp only [Int.reduceToNat, Int.reduceTDiv, Int.reduceTMod, minL, maxL, pickB, zHB, zSH] at hb) <;> (try (first | (cases hb; done) | exact absurd hb (by decide) | (exfalso; omega) | (omega) | ((simp [pickB] at hb; omega)))))
 | ((with_reducible refine And.intro ?_ ?_); (focus (first | (with_reducible rfl) | omega | rfl | ((try simp only [Int.reduceToNat, Int.reduceTDiv, Int.reduceTMod, minL, maxL, pickB, zHB, zSH, InK, Path.imp, zL] at *); omega))); (conv => whnf))
 | ((with_reducible refine And.intro (Side.out ?_) ?_); rotate_left; (conv => whnf))
 | ((first | refine retM1 ?_ | refine retM2 ?_) <;> (conv => whnf) <;> repeat' (first
 | exact trivial
 | (with_reducible rfl)
 | ((with_reducible refine And.intro ?_ ?_) <;> conv => whnf)
 | omega
 | rfl
 | (refine congrArg (SV.arr _) ?_)
 | (refine congrArg (Value.int _) ?_)
 | (refine congrArg Value.bool ?_)))); all_goals (try unfold Side)
  all_goals first | exact Nat.le_of_ble_eq_true rfl | exact hN1 | skip
  all_goals try (repeat' (first | (with_reducible rfl) | (with_reducible refine And.intro ?_ ?_) | omega | rfl | exact Or.inl rfl | exact Or.inr rfl | exact of_decide_eq_true rfl | exact Path.imp_of (of_decide_eq_true rfl) | (focus ((try simp only [Int.reduceToNat, Int.reduceTDiv, Int.reduceTMod, minL, maxL, pickB, zHB, zSH, InK, Path.imp, zL] at *); omega)) | (refine app_le rfl ?_; omega)))
  refine W.loop (fun i : Nat => ⟨[(0, .st false (.arr (.int .i64) xs)), (6, .padr 7000 0), (23, .st false (.arr (.int .i64) xs)), (24, (.lit (.int .i64 (xs.length : Int)))), (25, (.lit (.int .i64 (i : Int))))], [(7000, .box [.lit (.bool true), .lit (.bool pet), .own 7001, .mown 7002, (.lit (.int .i64 (0 : Int)))]), (7001, .row 105 PT true ((xs.take i).map mkP)), (7002, .mat 80 91 NT true (List.replicate xs.length ([] : List Nt)) none)]⟩) (fun i => i ≤ xs.length) (fun i => xs.length - i) (0) ?_ ?_
  · refine ⟨Nat.zero_le _, ?_⟩
    refine subF.ok ?_ <;> (conv => whnf) <;> repeat' (first
 | exact trivial
 | (with_reducible rfl)
 | ((with_reducible refine And.intro ?_ ?_) <;> conv => whnf)
 | omega
 | rfl
 | (refine congrArg (SV.arr _) ?_)
 | (refine congrArg (Value.int _) ?_)
 | (refine congrArg Value.bool ?_))
  · intro i hi
    by_cases hil : i < xs.length
    · have hgi := hg i hil
      have hg1 : 1 ≤ xs.getD i 0 := hgi.1
      have hg2 : xs.getD i 0 ≤ 1000 := hgi.2.1
      have c1 := containsN_at (l := xs.take i) (x := xs.getD i 0) (b := false) (by rw [List.length_take]; omega) (by rw [eq_comm, decide_eq_false_iff_not]; exact hgi.2.2)
      have e1 : (xs.take i).map mkP ++ [(xs.getD i 0, false, 0, xs.getD i 0, 0, false, 1, ())] = (xs.take (i + 1)).map mkP := by
        rw [List.take_succ_eq_append_getElem hil, List.map_append, ← getD_eq hil]; rfl
      have e2 : ((xs.take i).map mkP).length + [((xs.getD i 0, false, 0, xs.getD i 0, 0, false, 1, ()) : Pe)].length ≤ 4294967296 := by
        rw [List.length_map, List.length_take, List.length_singleton]; omega
      have hk : ¬ (xs.getD i 0 < 1 ∨ 1000 < xs.getD i 0) := by omega
      repeat' (first
 | refine W.seq ?_
 | refine W.block ?_
 | (refine W.region tys_ok [] ?_; conv => whnf)
 | (refine W.drawAll tys_ok [] mixed rfl ?_; conv => whnf)
 | (refine W.ret ?_; conv => whnf)
 | (refine W.skip ?_; conv => whnf)
 | (refine W.exit ?_; conv => whnf)
 | (refine call_at (al := false) (c1) rfl rfl rfl rfl ?_; conv => whnf)
 | (refine W.cond rfl (fun hb => ?_) (fun hb => ?_) <;> (try simp only [Int.reduceToNat, Int.reduceTDiv, Int.reduceTMod, minL, maxL, pickB, zHB, zSH] at hb) <;> (try (first | (cases hb; done) | exact absurd hb (by decide) | (exfalso; omega) | (omega) | (exact hk hb) | ((simp [pickB] at hb; omega)))))
 | ((with_reducible refine And.intro ?_ ?_); (focus (first | (with_reducible rfl) | omega | rfl | ((try simp only [Int.reduceToNat, Int.reduceTDiv, Int.reduceTMod, minL, maxL, pickB, zHB, zSH, InK, Path.imp, zL] at *); omega))); (conv => whnf))
 | ((with_reducible refine And.intro (Side.out ?_) ?_); rotate_left; (conv => whnf))
 | ((first | refine retM1 ?_ | refine retM2 ?_) <;> (conv => whnf) <;> repeat' (first
 | exact trivial
 | (with_reducible rfl)
 | ((with_reducible refine And.intro ?_ ?_) <;> conv => whnf)
 | omega
 | rfl
 | (refine congrArg (SV.arr _) ?_)
 | (refine congrArg (Value.int _) ?_)
 | (refine congrArg Value.bool ?_)))); all_goals (try unfold Side)
      all_goals try (repeat' (first | (with_reducible rfl) | (with_reducible refine And.intro ?_ ?_) | omega | rfl | exact Or.inl rfl | exact Or.inr rfl | exact of_decide_eq_true rfl | exact Path.imp_of (of_decide_eq_true rfl) | (focus ((try simp only [Int.reduceToNat, Int.reduceTDiv, Int.reduceTMod, minL, maxL, pickB, zHB, zSH, InK, Path.imp, zL] at *); omega)) | (refine app_le rfl ?_; omega)))
      all_goals first | exact e2 | skip
      refine ⟨i + 1, ⟨by omega, by omega⟩, ?_⟩
      refine subF.ok ?_ <;> (conv => whnf) <;> repeat' (first
 | exact trivial
 | (with_reducible rfl)
 | ((with_reducible refine And.intro ?_ ?_) <;> conv => whnf)
 | omega
 | rfl
 | (refine congrArg (SV.arr _) ?_)
 | (refine congrArg (Value.int _) ?_)
 | (refine congrArg Value.bool ?_))
      all_goals exact e1
    · have hie : i = xs.length := by omega
      subst hie
      have e3 : (xs.take xs.length).map mkP = (rnew xs).1 := by rw [List.take_length]; rfl
      repeat' (first
 | refine W.seq ?_
 | refine W.block ?_
 | (refine W.region tys_ok [] ?_; conv => whnf)
 | (refine W.drawAll tys_ok [] mixed rfl ?_; conv => whnf)
 | (refine W.ret ?_; conv => whnf)
 | (refine W.skip ?_; conv => whnf)
 | (refine W.exit ?_; conv => whnf)
 | (refine W.cond rfl (fun hb => ?_) (fun hb => ?_) <;> (try simp only [Int.reduceToNat, Int.reduceTDiv, Int.reduceTMod, minL, maxL, pickB, zHB, zSH] at hb) <;> (try (first | (cases hb; done) | exact absurd hb (by decide) | (exfalso; omega) | (omega))))
 | ((with_reducible refine And.intro ?_ ?_); (focus (first | (with_reducible rfl) | omega | rfl | ((try simp only [Int.reduceToNat, Int.reduceTDiv, Int.reduceTMod, minL, maxL, pickB, zHB, zSH, InK, Path.imp, zL] at *); omega))); (conv => whnf))
 | ((with_reducible refine And.intro (Side.out ?_) ?_); rotate_left; (conv => whnf))
 | ((first | refine retM1 ?_ | refine retM2 ?_) <;> (conv => whnf) <;> repeat' (first
 | exact trivial
 | (with_reducible rfl)
 | ((with_reducible refine And.intro ?_ ?_) <;> conv => whnf)
 | omega
 | rfl
 | (refine congrArg (SV.arr _) ?_)
 | (refine congrArg (Value.int _) ?_)
 | (refine congrArg Value.bool ?_)))); all_goals (try unfold Side)
      all_goals try (repeat' (first | (with_reducible rfl) | (with_reducible refine And.intro ?_ ?_) | omega | rfl | exact Or.inl rfl | exact Or.inr rfl | exact of_decide_eq_true rfl | exact Path.imp_of (of_decide_eq_true rfl) | (focus ((try simp only [Int.reduceToNat, Int.reduceTDiv, Int.reduceTMod, minL, maxL, pickB, zHB, zSH, InK, Path.imp, zL] at *); omega)) | (refine app_le rfl ?_; omega)))
      all_goals exact e3
end Go.Proofs.Ytkjcnegkdlmapaa
namespace Go.Proofs.Ytkjcnegkdlmapaa
open Go Go.Vc Go.Rg
set_option linter.unusedVariables false
set_option linter.unusedSimpArgs false
variable {n : Nat} {pet : Bool} {r : Rn}
theorem begin_ring {i : Nat} (hp : i < r.1.length) (hi : i < r.2.1.length) (hf : ((r.2.1.getD i []).length : Int) ≤ r.2.2) (hs : 0 ≤ r.2.2 ∧ r.2.2 ≤ 1000000) : FnM Try.prog 61 [.padr 1000000000 0, (.lit (.int .i64 (i : Int)))] [(1000000000, .box [.lit (.bool true), .lit (.bool pet), .own 1000000001, .mown 5, (.lit (.int .i64 ((r).2.2 : Int)))]), (1000000001, .row 105 PT true (r).1), (5, .mat 80 91 NT true (r).2.1 none)] (.tup []) [(1000000000, .box [.lit (.bool true), .lit (.bool pet), .own 1000000001, .mown 5, (.lit (.int .i64 (((beginR i r)).2.2 : Int)))]), (1000000001, .row 105 PT true ((beginR i r)).1), (5, .mat 80 91 NT true ((beginR i r)).2.1 none)] := by
  have c1 := sendp_at (pet := pet) (r := (setB r.1 i, r.2)) (i := i) (k := 1) (v := pV r.1 i) hi hf hs
  have hl : @List.length PT.T r.1 = r.1.length := rfl
  have e1 : pV (setB r.1 i) i = pV r.1 i := by unfold pV setB; rw [getD_setP hp, if_pos rfl]; rfl
  have e2 : i < (setB r.1 i).length := by rw [setB_len]; exact hp
  have e3 : 0 ≤ (i : Int) ∧ i < (setB r.1 i).length := ⟨by omega, e2⟩
  refine FnM.of_body tys_ok Try.func61 (by rfl) rfl Try.ntmps61 (by rw [Try.results61]) (by simp) ?_
  
  repeat' (first
 | refine W.seq ?_
 | refine W.block ?_
 | (refine W.regionM (id := 1) tys_ok [] [10] ?_; conv => whnf)
 | (refine W.region tys_ok [] ?_; conv => whnf)
 | (refine W.drawAll tys_ok [] mixed rfl ?_; conv => whnf)
 | (refine W.ret ?_; conv => whnf)
 | (refine W.skip ?_; conv => whnf)
 | (refine W.exit ?_; conv => whnf)
 | (refine callM_at (c1) ?_; conv => whnf)
 | (refine W.cond rfl (fun hb => ?_) (fun hb => ?_) <;> (try simp only [Int.reduceToNat, Int.reduceTDiv, Int.reduceTMod, minL, maxL, pickB, zHB, zSH] at hb) <;> (try (first | (cases hb; done) | exact absurd hb (by decide) | (exfalso; omega) | (omega))))
 | (refine Or.inl (And.intro ?_ ?_); (focus (first | exact trivial | exact ⟨rfl, trivial⟩ | (refine ⟨?_, trivial⟩; dsimp only; simp only [Int.reduceToNat, Int.reduceTDiv, Int.reduceTMod, minL, maxL, pickB, zHB, zSH]; omega) | (refine ⟨?_, trivial⟩; dsimp only; (try simp only [Int.reduceToNat, Int.reduceTDiv, Int.reduceTMod, minL, maxL, pickB, zHB, zSH]); (simp_all; done)) | (refine ⟨?_, trivial⟩; dsimp only; (simp only [Int.reduceToNat, Int.reduceTDiv, Int.reduceTMod, minL, maxL, pickB, zHB, zSH]; done)) | (refine ⟨?_, trivial⟩; dsimp only; (simp; done)))); (conv => whnf))
 | (refine Or.inr (And.intro ?_ ?_); (focus (intro h; have h := h.1; dsimp only at h; first | (exact Bool.noConfusion h) | (simp only [Int.reduceToNat, Int.reduceTDiv, Int.reduceTMod, minL, maxL, pickB, zHB, zSH] at h; omega) | ((try simp only [Int.reduceToNat, Int.reduceTDiv, Int.reduceTMod, minL, maxL, pickB, zHB, zSH] at h); (simp_all; done)))); (conv => whnf))
 | ((with_reducible refine And.intro ?_ ?_); (focus (first | (with_reducible rfl) | omega | rfl | ((try simp only [Int.reduceToNat, Int.reduceTDiv, Int.reduceTMod, minL, maxL, pickB, zHB, zSH, InK, Path.imp, zL] at *); omega))); (conv => whnf))
 | ((with_reducible refine And.intro (Side.out ?_) ?_); rotate_left; (conv => whnf))
 | ((first | refine retM1 ?_ | refine retM2 ?_) <;> (conv => whnf) <;> repeat' (first
 | exact trivial
 | (with_reducible rfl)
 | ((with_reducible refine And.intro ?_ ?_) <;> conv => whnf)
 | omega
 | rfl
 | (refine congrArg (SV.arr _) ?_)
 | (refine congrArg (Value.int _) ?_)
 | (refine congrArg Value.bool ?_)))); all_goals (try unfold Side)
  all_goals try (repeat' (first | (with_reducible rfl) | (with_reducible refine And.intro ?_ ?_) | omega | rfl | exact Or.inl rfl | exact Or.inr rfl | exact of_decide_eq_true rfl | exact Path.imp_of (of_decide_eq_true rfl) | (focus ((try simp only [Int.reduceToNat, Int.reduceTDiv, Int.reduceTMod, minL, maxL, pickB, zHB, zSH, InK, Path.imp, zL] at *); omega)) | (refine app_le rfl ?_; omega)))
  all_goals first | exact e1 | exact e2 | exact Path.imp_of e3 | rfl
theorem start_arg {i : Int} (h : hasB r.1.length i = false) : FnM Try.prog 30 [.padr 1000000000 0, (.lit (.int .i64 (i : Int)))] [(1000000000, .box [.lit (.bool true), .lit (.bool pet), .own 1000000001, .mown 5, (.lit (.int .i64 ((r).2.2 : Int)))]), (1000000001, .row 105 PT true (r).1), (5, .mat 80 91 NT true (r).2.1 none)] (.lit (.int .i64 (1 : Int))) [(1000000000, .box [.lit (.bool true), .lit (.bool pet), .own 1000000001, .mown 5, (.lit (.int .i64 ((r).2.2 : Int)))]), (1000000001, .row 105 PT true (r).1), (5, .mat 80 91 NT true (r).2.1 none)] := by
  have c1 := ris_at (pet := pet) (r := r)
  have c2 := rhas_at (pet := pet) (r := r) h.symm
  refine FnM.of_body tys_ok Try.func30 (by rfl) rfl Try.ntmps30 (by rw [Try.results30]) (by simp) ?_
  
  repeat' (first
 | refine W.seq ?_
 | refine W.block ?_
 | (refine W.regionM (id := 1) tys_ok [] [1] ?_; conv => whnf)
 | (refine W.regionM (id := 3) tys_ok [] [2] ?_; conv => whnf)
 | (refine W.region tys_ok [] ?_; conv => whnf)
 | (refine W.drawAll tys_ok [] mixed rfl ?_; conv => whnf)
 | (refine W.ret ?_; conv => whnf)
 | (refine W.skip ?_; conv => whnf)
 | (refine W.exit ?_; conv => whnf)
 | (refine callM_at (c1) ?_; conv => whnf)
 | (refine callM_at (c2) ?_; conv => whnf)
 | (refine W.cond rfl (fun hb => ?_) (fun hb => ?_) <;> (try simp only [Int.reduceToNat, Int.reduceTDiv, Int.reduceTMod, minL, maxL, pickB, zHB, zSH] at hb) <;> (try (first | (cases hb; done) | exact absurd hb (by decide) | (exfalso; omega) | (omega))))
 | (refine Or.inl (And.intro ?_ ?_); (focus (first | exact trivial | exact ⟨rfl, trivial⟩ | (refine ⟨?_, trivial⟩; dsimp only; simp only [Int.reduceToNat, Int.reduceTDiv, Int.reduceTMod, minL, maxL, pickB, zHB, zSH]; omega) | (refine ⟨?_, trivial⟩; dsimp only; (try simp only [Int.reduceToNat, Int.reduceTDiv, Int.reduceTMod, minL, maxL, pickB, zHB, zSH]); (simp_all; done)) | (refine ⟨?_, trivial⟩; dsimp only; (simp only [Int.reduceToNat, Int.reduceTDiv, Int.reduceTMod, minL, maxL, pickB, zHB, zSH]; done)) | (refine ⟨?_, trivial⟩; dsimp only; (simp; done)))); (conv => whnf))
 | (refine Or.inr (And.intro ?_ ?_); (focus (intro h; have h := h.1; dsimp only at h; first | (exact Bool.noConfusion h) | (simp only [Int.reduceToNat, Int.reduceTDiv, Int.reduceTMod, minL, maxL, pickB, zHB, zSH] at h; omega) | ((try simp only [Int.reduceToNat, Int.reduceTDiv, Int.reduceTMod, minL, maxL, pickB, zHB, zSH] at h); (simp_all; done)))); (conv => whnf))
 | ((with_reducible refine And.intro ?_ ?_); (focus (first | (with_reducible rfl) | omega | rfl | ((try simp only [Int.reduceToNat, Int.reduceTDiv, Int.reduceTMod, minL, maxL, pickB, zHB, zSH, InK, Path.imp, zL] at *); omega))); (conv => whnf))
 | ((with_reducible refine And.intro (Side.out ?_) ?_); rotate_left; (conv => whnf))
 | ((first | refine retM1 ?_ | refine retM2 ?_) <;> (conv => whnf) <;> repeat' (first
 | exact trivial
 | (with_reducible rfl)
 | ((with_reducible refine And.intro ?_ ?_) <;> conv => whnf)
 | omega
 | rfl
 | (refine congrArg (SV.arr _) ?_)
 | (refine congrArg (Value.int _) ?_)
 | (refine congrArg Value.bool ?_)))); all_goals (try unfold Side)
  all_goals try (repeat' (first | (with_reducible rfl) | (with_reducible refine And.intro ?_ ?_) | omega | rfl | exact Or.inl rfl | exact Or.inr rfl | exact of_decide_eq_true rfl | exact Path.imp_of (of_decide_eq_true rfl) | (focus ((try simp only [Int.reduceToNat, Int.reduceTDiv, Int.reduceTMod, minL, maxL, pickB, zHB, zSH, InK, Path.imp, zL] at *); omega)) | (refine app_le rfl ?_; omega)))
theorem start_none {i : Nat} (hp : i < r.1.length) (hb0 : pB r.1 i = true) : FnM Try.prog 30 [.padr 1000000000 0, (.lit (.int .i64 (i : Int)))] [(1000000000, .box [.lit (.bool true), .lit (.bool pet), .own 1000000001, .mown 5, (.lit (.int .i64 ((r).2.2 : Int)))]), (1000000001, .row 105 PT true (r).1), (5, .mat 80 91 NT true (r).2.1 none)] (.lit (.int .i64 (5 : Int))) [(1000000000, .box [.lit (.bool true), .lit (.bool pet), .own 1000000001, .mown 5, (.lit (.int .i64 ((r).2.2 : Int)))]), (1000000001, .row 105 PT true (r).1), (5, .mat 80 91 NT true (r).2.1 none)] := by
  have c1 := ris_at (pet := pet) (r := r)
  have c2 := rhas_at (pet := pet) (r := r) (has_of hp).symm
  have hl : @List.length PT.T r.1 = r.1.length := rfl
  have hb' : (r.1.getD i P0).2.1 = true := hb0
  refine FnM.of_body tys_ok Try.func30 (by rfl) rfl Try.ntmps30 (by rw [Try.results30]) (by simp) ?_
  
  repeat' (first
 | refine W.seq ?_
 | refine W.block ?_
 | (refine W.regionM (id := 1) tys_ok [] [1] ?_; conv => whnf)
 | (refine W.regionM (id := 3) tys_ok [] [2] ?_; conv => whnf)
 | (refine W.region tys_ok [] ?_; conv => whnf)
 | (refine W.drawAll tys_ok [] mixed rfl ?_; conv => whnf)
 | (refine W.ret ?_; conv => whnf)
 | (refine W.skip ?_; conv => whnf)
 | (refine W.exit ?_; conv => whnf)
 | (refine callM_at (c1) ?_; conv => whnf)
 | (refine callM_at (c2) ?_; conv => whnf)
 | (refine W.cond rfl (fun hb => ?_) (fun hb => ?_) <;> (try simp only [Int.reduceToNat, Int.reduceTDiv, Int.reduceTMod, minL, maxL, pickB, zHB, zSH] at hb) <;> (try (first | (cases hb; done) | exact absurd hb (by decide) | (exfalso; omega) | (omega) | ((simp_all; done)))))
 | (refine Or.inl (And.intro ?_ ?_); (focus (first | exact trivial | exact ⟨rfl, trivial⟩ | (refine ⟨?_, trivial⟩; dsimp only; simp only [Int.reduceToNat, Int.reduceTDiv, Int.reduceTMod, minL, maxL, pickB, zHB, zSH]; omega) | (refine ⟨?_, trivial⟩; dsimp only; (try simp only [Int.reduceToNat, Int.reduceTDiv, Int.reduceTMod, minL, maxL, pickB, zHB, zSH]); (simp_all; done)) | (refine ⟨?_, trivial⟩; dsimp only; (simp only [Int.reduceToNat, Int.reduceTDiv, Int.reduceTMod, minL, maxL, pickB, zHB, zSH]; done)) | (refine ⟨?_, trivial⟩; dsimp only; (simp; done)))); (conv => whnf))
 | (refine Or.inr (And.intro ?_ ?_); (focus (intro h; have h := h.1; dsimp only at h; first | (exact Bool.noConfusion h) | (simp only [Int.reduceToNat, Int.reduceTDiv, Int.reduceTMod, minL, maxL, pickB, zHB, zSH] at h; omega) | ((try simp only [Int.reduceToNat, Int.reduceTDiv, Int.reduceTMod, minL, maxL, pickB, zHB, zSH] at h); (simp_all; done)))); (conv => whnf))
 | ((with_reducible refine And.intro ?_ ?_); (focus (first | (with_reducible rfl) | omega | rfl | ((try simp only [Int.reduceToNat, Int.reduceTDiv, Int.reduceTMod, minL, maxL, pickB, zHB, zSH, InK, Path.imp, zL] at *); omega))); (conv => whnf))
 | ((with_reducible refine And.intro (Side.out ?_) ?_); rotate_left; (conv => whnf))
 | ((first | refine retM1 ?_ | refine retM2 ?_) <;> (conv => whnf) <;> repeat' (first
 | exact trivial
 | (with_reducible rfl)
 | ((with_reducible refine And.intro ?_ ?_) <;> conv => whnf)
 | omega
 | rfl
 | (refine congrArg (SV.arr _) ?_)
 | (refine congrArg (Value.int _) ?_)
 | (refine congrArg Value.bool ?_)))); all_goals (try unfold Side)
  all_goals try (repeat' (first | (with_reducible rfl) | (with_reducible refine And.intro ?_ ?_) | omega | rfl | exact Or.inl rfl | exact Or.inr rfl | exact of_decide_eq_true rfl | exact Path.imp_of (of_decide_eq_true rfl) | (focus ((try simp only [Int.reduceToNat, Int.reduceTDiv, Int.reduceTMod, minL, maxL, pickB, zHB, zSH, InK, Path.imp, zL] at *); omega)) | (refine app_le rfl ?_; omega)))
theorem start_ok {i : Nat} (hp : i < r.1.length) (hi : i < r.2.1.length) (hf : ((r.2.1.getD i []).length : Int) ≤ r.2.2) (hs : 0 ≤ r.2.2 ∧ r.2.2 ≤ 1000000) (hb0 : pB r.1 i = false) : FnM Try.prog 30 [.padr 1000000000 0, (.lit (.int .i64 (i : Int)))] [(1000000000, .box [.lit (.bool true), .lit (.bool pet), .own 1000000001, .mown 5, (.lit (.int .i64 ((r).2.2 : Int)))]), (1000000001, .row 105 PT true (r).1), (5, .mat 80 91 NT true (r).2.1 none)] (.lit (.int .i64 (0 : Int))) [(1000000000, .box [.lit (.bool true), .lit (.bool pet), .own 1000000001, .mown 5, (.lit (.int .i64 (((beginR i r)).2.2 : Int)))]), (1000000001, .row 105 PT true ((beginR i r)).1), (5, .mat 80 91 NT true ((beginR i r)).2.1 none)] := by
  have c1 := ris_at (pet := pet) (r := r)
  have c2 := rhas_at (pet := pet) (r := r) (has_of hp).symm
  have c3 := begin_ring (pet := pet) hp hi hf hs
  have hl : @List.length PT.T r.1 = r.1.length := rfl
  have hb' : (r.1.getD i P0).2.1 = false := hb0
  refine FnM.of_body tys_ok Try.func30 (by rfl) rfl Try.ntmps30 (by rw [Try.results30]) (by simp) ?_
  
  repeat' (first
 | refine W.seq ?_
 | refine W.block ?_
 | (refine W.regionM (id := 1) tys_ok [] [1] ?_; conv => whnf)
 | (refine W.regionM (id := 3) tys_ok [] [2] ?_; conv => whnf)
 | (refine W.regionM (id := 7) tys_ok [] [2] ?_; conv => whnf)
 | (refine W.region tys_ok [] ?_; conv => whnf)
 | (refine W.drawAll tys_ok [] mixed rfl ?_; conv => whnf)
 | (refine W.ret ?_; conv => whnf)
 | (refine W.skip ?_; conv => whnf)
 | (refine W.exit ?_; conv => whnf)
 | (refine callM_at (c1) ?_; conv => whnf)
 | (refine callM_at (c2) ?_; conv => whnf)
 | (refine callM_at (c3) ?_; conv => whnf)
 | (refine W.cond rfl (fun hb => ?_) (fun hb => ?_) <;> (try simp only [Int.reduceToNat, Int.reduceTDiv, Int.reduceTMod, minL, maxL, pickB, zHB, zSH] at hb) <;> (try (first | (cases hb; done) | exact absurd hb (by decide) | (exfalso; omega) | (omega) | ((simp_all; done)))))
 | (refine Or.inl (And.intro ?_ ?_); (focus (first | exact trivial | exact ⟨rfl, trivial⟩ | (refine ⟨?_, trivial⟩; dsimp only; simp only [Int.reduceToNat, Int.reduceTDiv, Int.reduceTMod, minL, maxL, pickB, zHB, zSH]; omega) | (refine ⟨?_, trivial⟩; dsimp only; (try simp only [Int.reduceToNat, Int.reduceTDiv, Int.reduceTMod, minL, maxL, pickB, zHB, zSH]); (simp_all; done)) | (refine ⟨?_, trivial⟩; dsimp only; (simp only [Int.reduceToNat, Int.reduceTDiv, Int.reduceTMod, minL, maxL, pickB, zHB, zSH]; done)) | (refine ⟨?_, trivial⟩; dsimp only; (simp; done)))); (conv => whnf))
 | (refine Or.inr (And.intro ?_ ?_); (focus (intro h; have h := h.1; dsimp only at h; first | (exact Bool.noConfusion h) | (simp only [Int.reduceToNat, Int.reduceTDiv, Int.reduceTMod, minL, maxL, pickB, zHB, zSH] at h; omega) | ((try simp only [Int.reduceToNat, Int.reduceTDiv, Int.reduceTMod, minL, maxL, pickB, zHB, zSH] at h); (simp_all; done)))); (conv => whnf))
 | ((with_reducible refine And.intro ?_ ?_); (focus (first | (with_reducible rfl) | omega | rfl | ((try simp only [Int.reduceToNat, Int.reduceTDiv, Int.reduceTMod, minL, maxL, pickB, zHB, zSH, InK, Path.imp, zL] at *); omega))); (conv => whnf))
 | ((with_reducible refine And.intro (Side.out ?_) ?_); rotate_left; (conv => whnf))
 | ((first | refine retM1 ?_ | refine retM2 ?_) <;> (conv => whnf) <;> repeat' (first
 | exact trivial
 | (with_reducible rfl)
 | ((with_reducible refine And.intro ?_ ?_) <;> conv => whnf)
 | omega
 | rfl
 | (refine congrArg (SV.arr _) ?_)
 | (refine congrArg (Value.int _) ?_)
 | (refine congrArg Value.bool ?_)))); all_goals (try unfold Side)
  all_goals try (repeat' (first | (with_reducible rfl) | (with_reducible refine And.intro ?_ ?_) | omega | rfl | exact Or.inl rfl | exact Or.inr rfl | exact of_decide_eq_true rfl | exact Path.imp_of (of_decide_eq_true rfl) | (focus ((try simp only [Int.reduceToNat, Int.reduceTDiv, Int.reduceTMod, minL, maxL, pickB, zHB, zSH, InK, Path.imp, zL] at *); omega)) | (refine app_le rfl ?_; omega)))
theorem chang_own {i : Nat} {k v : Int} (hp : i < r.1.length) (hi : i < r.2.1.length) (hf : ((r.2.1.getD i []).length : Int) ≤ r.2.2) (hs : 0 ≤ r.2.2 ∧ r.2.2 ≤ 1000000) (hk : k = 3) (hv : v = pN r.1 i) : FnM Try.prog 66 [.padr 1000000000 0, (.lit (.int .i64 (i : Int))), .strct [(.lit (.int .i64 (k : Int))), (.lit (.int .i64 (v : Int)))]] [(1000000000, .box [.lit (.bool true), .lit (.bool pet), .own 1000000001, .mown 5, (.lit (.int .i64 ((r).2.2 : Int)))]), (1000000001, .row 105 PT true (r).1), (5, .mat 80 91 NT true (r).2.1 none)] (.tup []) [(1000000000, .box [.lit (.bool true), .lit (.bool pet), .own 1000000001, .mown 5, (.lit (.int .i64 ((r).2.2 : Int)))]), (1000000001, .row 105 PT true (r).1), (5, .mat 80 91 NT true (r).2.1 none)] := by
  have hl : @List.length PT.T r.1 = r.1.length := rfl
  have hN : (r.1.getD i P0).1 = pN r.1 i := rfl
  have hBg : (r.1.getD i P0).2.1 = pB r.1 i := rfl
  refine FnM.of_body tys_ok Try.func66 (by rfl) rfl Try.ntmps66 (by rw [Try.results66]) (by simp) ?_
  
  repeat' (first
 | refine W.seq ?_
 | refine W.block ?_
 | (refine W.drawPhTo (id := 2) tys_ok [] mixed [0, 1, 0, 4, 8, 16, 32, 66, 255] [([0, 2, 3, 4, 5], 2, 127), ([7, 8], 0, 511)] ⟨[(0, .padr 1000000000 0), (1, (.lit (.int .i64 (i : Int)))), (5, .padr 6000 0), (6, .oadr 1000000001 7 i 0), (7, .lit (.bool (decide (v = pN r.1 i))))], [(1000000000, .box [.lit (.bool true), .lit (.bool pet), .own 1000000001, .mown 5, (.lit (.int .i64 ((r).2.2 : Int)))]), (1000000001, .row 105 PT true (r).1), (5, .mat 80 91 NT true (r).2.1 none), (6000, .box [(.lit (.int .i64 (k : Int))), (.lit (.int .i64 (v : Int)))])]⟩ (by decide +kernel) ?_ ?_ <;> (conv => whnf))
 | (refine W.drawPhTo (id := 10) tys_ok [] mixed [0, 1, 0, 4, 8, 16, 32, 66, 128] [([0, 2, 3, 4, 5], 2, 127), ([7, 8], 0, 511)] ⟨[(0, .padr 1000000000 0), (1, (.lit (.int .i64 (i : Int)))), (5, .padr 6000 0), (6, .oadr 1000000001 7 i 0), (60, .lit (.bool (decide (pN r.1 i < v))))], [(1000000000, .box [.lit (.bool true), .lit (.bool pet), .own 1000000001, .mown 5, (.lit (.int .i64 ((r).2.2 : Int)))]), (1000000001, .row 105 PT true (r).1), (5, .mat 80 91 NT true (r).2.1 none), (6000, .box [(.lit (.int .i64 (k : Int))), (.lit (.int .i64 (v : Int)))])]⟩ (by decide +kernel) ?_ ?_ <;> (conv => whnf))
 | (refine W.region tys_ok [] ?_; conv => whnf)
 | (refine W.drawAll tys_ok [] mixed rfl ?_; conv => whnf)
 | (refine W.ret ?_; conv => whnf)
 | (refine W.skip ?_; conv => whnf)
 | (refine W.exit ?_; conv => whnf)
 | (refine Both.mk ?_ ?_ <;> (conv => whnf))
 | (refine W.cond rfl (fun hb => ?_) (fun hb => ?_) <;> (try simp only [Int.reduceToNat, Int.reduceTDiv, Int.reduceTMod, minL, maxL, pickB, zHB, zSH] at hb) <;> (try (first | (cases hb; done) | exact absurd hb (by decide) | (exfalso; omega) | (omega) | ((simp_all; done)))))
 | ((with_reducible refine And.intro ?_ ?_); (focus (first | (with_reducible rfl) | omega | rfl | ((try simp only [Int.reduceToNat, Int.reduceTDiv, Int.reduceTMod, minL, maxL, pickB, zHB, zSH, InK, Path.imp, zL] at *); omega))); (conv => whnf))
 | ((with_reducible refine And.intro (Side.out ?_) ?_); rotate_left; (conv => whnf))
 | ((first | refine retM1 ?_ | refine retM2 ?_ | refine subF.leaf ?_ | refine subF.side ?_) <;> (conv => whnf) <;> repeat' (first
 | exact trivial
 | (with_reducible rfl)
 | ((with_reducible refine And.intro ?_ ?_) <;> conv => whnf)
 | omega
 | rfl
 | (refine congrArg (SV.arr _) ?_)
 | (refine congrArg (Value.int _) ?_)
 | (refine congrArg Value.bool ?_)))); all_goals (try unfold Side)
  all_goals try (repeat' (first | (with_reducible rfl) | (with_reducible refine And.intro ?_ ?_) | omega | rfl | exact Or.inl rfl | exact Or.inr rfl | exact of_decide_eq_true rfl | exact Path.imp_of (of_decide_eq_true rfl) | (focus ((try simp only [Int.reduceToNat, Int.reduceTDiv, Int.reduceTMod, minL, maxL, pickB, zHB, zSH, InK, Path.imp, zL] at *); omega)) | (refine app_le rfl ?_; omega)))
theorem chang_lead {i : Nat} {k v : Int} (hp : i < r.1.length) (hi : i < r.2.1.length) (hf : ((r.2.1.getD i []).length : Int) ≤ r.2.2) (hs : 0 ≤ r.2.2 ∧ r.2.2 ≤ 1000000) (hk : k = 3) (hv : v ≠ pN r.1 i) : FnM Try.prog 66 [.padr 1000000000 0, (.lit (.int .i64 (i : Int))), .strct [(.lit (.int .i64 (k : Int))), (.lit (.int .i64 (v : Int)))]] [(1000000000, .box [.lit (.bool true), .lit (.bool pet), .own 1000000001, .mown 5, (.lit (.int .i64 ((r).2.2 : Int)))]), (1000000001, .row 105 PT true (r).1), (5, .mat 80 91 NT true (r).2.1 none)] (.tup []) [(1000000000, .box [.lit (.bool true), .lit (.bool pet), .own 1000000001, .mown 5, (.lit (.int .i64 (((sendR i k v (setL r.1 i v, r.2))).2.2 : Int)))]), (1000000001, .row 105 PT true ((sendR i k v (setL r.1 i v, r.2))).1), (5, .mat 80 91 NT true ((sendR i k v (setL r.1 i v, r.2))).2.1 none)] := by
  have c1 := sendp_at (pet := pet) (r := (setL r.1 i v, r.2)) (i := i) (k := k) (v := v) hi hf hs
  have hl : @List.length PT.T r.1 = r.1.length := rfl
  have hN : (r.1.getD i P0).1 = pN r.1 i := rfl
  have hBg : (r.1.getD i P0).2.1 = pB r.1 i := rfl
  refine FnM.of_body tys_ok Try.func66 (by rfl) rfl Try.ntmps66 (by rw [Try.results66]) (by simp) ?_
  
  repeat' (first
 | refine W.seq ?_
 | refine W.block ?_
 | (refine W.drawPhTo (id := 2) tys_ok [] mixed [0, 1, 0, 4, 8, 16, 32, 66, 255] [([0, 2, 3, 4, 5], 2, 127), ([7, 8], 0, 511)] ⟨[(0, .padr 1000000000 0), (1, (.lit (.int .i64 (i : Int)))), (5, .padr 6000 0), (6, .oadr 1000000001 7 i 0), (7, .lit (.bool (decide (v = pN r.1 i))))], [(1000000000, .box [.lit (.bool true), .lit (.bool pet), .own 1000000001, .mown 5, (.lit (.int .i64 ((r).2.2 : Int)))]), (1000000001, .row 105 PT true (r).1), (5, .mat 80 91 NT true (r).2.1 none), (6000, .box [(.lit (.int .i64 (k : Int))), (.lit (.int .i64 (v : Int)))])]⟩ (by decide +kernel) ?_ ?_ <;> (conv => whnf))
 | (refine W.drawPhTo (id := 10) tys_ok [] mixed [0, 1, 0, 4, 8, 16, 32, 66, 128] [([0, 2, 3, 4, 5], 2, 127), ([7, 8], 0, 511)] ⟨[(0, .padr 1000000000 0), (1, (.lit (.int .i64 (i : Int)))), (5, .padr 6000 0), (6, .oadr 1000000001 7 i 0), (60, .lit (.bool (decide (pN r.1 i < v))))], [(1000000000, .box [.lit (.bool true), .lit (.bool pet), .own 1000000001, .mown 5, (.lit (.int .i64 ((r).2.2 : Int)))]), (1000000001, .row 105 PT true (r).1), (5, .mat 80 91 NT true (r).2.1 none), (6000, .box [(.lit (.int .i64 (k : Int))), (.lit (.int .i64 (v : Int)))])]⟩ (by decide +kernel) ?_ ?_ <;> (conv => whnf))
 | (refine W.regionM (id := 5) tys_ok [] [6] ?_; conv => whnf)
 | (refine W.region tys_ok [] ?_; conv => whnf)
 | (refine W.drawAll tys_ok [] mixed rfl ?_; conv => whnf)
 | (refine W.ret ?_; conv => whnf)
 | (refine W.skip ?_; conv => whnf)
 | (refine W.exit ?_; conv => whnf)
 | (refine callM_at (c1) ?_; conv => whnf)
 | (refine Both.mk ?_ ?_ <;> (conv => whnf))
 | (refine W.cond rfl (fun hb => ?_) (fun hb => ?_) <;> (try simp only [Int.reduceToNat, Int.reduceTDiv, Int.reduceTMod, minL, maxL, pickB, zHB, zSH] at hb) <;> (try (first | (cases hb; done) | exact absurd hb (by decide) | (exfalso; omega) | (omega) | ((simp_all; done)))))
 | (refine Or.inl (And.intro ?_ ?_); (focus (first | exact trivial | exact ⟨rfl, trivial⟩ | (refine ⟨?_, trivial⟩; dsimp only; simp only [Int.reduceToNat, Int.reduceTDiv, Int.reduceTMod, minL, maxL, pickB, zHB, zSH]; omega) | (refine ⟨?_, trivial⟩; dsimp only; (try simp only [Int.reduceToNat, Int.reduceTDiv, Int.reduceTMod, minL, maxL, pickB, zHB, zSH]); (simp_all; done)) | (refine ⟨?_, trivial⟩; dsimp only; (simp only [Int.reduceToNat, Int.reduceTDiv, Int.reduceTMod, minL, maxL, pickB, zHB, zSH]; done)) | (refine ⟨?_, trivial⟩; dsimp only; (simp; done)))); (conv => whnf))
 | (refine Or.inr (And.intro ?_ ?_); (focus (intro h; have h := h.1; dsimp only at h; first | (exact Bool.noConfusion h) | (simp only [Int.reduceToNat, Int.reduceTDiv, Int.reduceTMod, minL, maxL, pickB, zHB, zSH] at h; omega) | ((try simp only [Int.reduceToNat, Int.reduceTDiv, Int.reduceTMod, minL, maxL, pickB, zHB, zSH] at h); (simp_all; done)))); (conv => whnf))
 | ((with_reducible refine And.intro ?_ ?_); (focus (first | (with_reducible rfl) | omega | rfl | ((try simp only [Int.reduceToNat, Int.reduceTDiv, Int.reduceTMod, minL, maxL, pickB, zHB, zSH, InK, Path.imp, zL] at *); omega))); (conv => whnf))
 | ((with_reducible refine And.intro (Side.out ?_) ?_); rotate_left; (conv => whnf))
 | ((first | refine retM1 ?_ | refine retM2 ?_ | refine subF.leaf ?_ | refine subF.side ?_) <;> (conv => whnf) <;> repeat' (first
 | exact trivial
 | (with_reducible rfl)
 | ((with_reducible refine And.intro ?_ ?_) <;> conv => whnf)
 | omega
 | rfl
 | (refine congrArg (SV.arr _) ?_)
 | (refine congrArg (Value.int _) ?_)
 | (refine congrArg Value.bool ?_)))); all_goals (try unfold Side)
  all_goals try (repeat' (first | (with_reducible rfl) | (with_reducible refine And.intro ?_ ?_) | omega | rfl | exact Or.inl rfl | exact Or.inr rfl | exact of_decide_eq_true rfl | exact Path.imp_of (of_decide_eq_true rfl) | (focus ((try simp only [Int.reduceToNat, Int.reduceTDiv, Int.reduceTMod, minL, maxL, pickB, zHB, zSH, InK, Path.imp, zL] at *); omega)) | (refine app_le rfl ?_; omega)))
theorem chang_win {i : Nat} {k v : Int} (hp : i < r.1.length) (hi : i < r.2.1.length) (hf : ((r.2.1.getD i []).length : Int) ≤ r.2.2) (hs : 0 ≤ r.2.2 ∧ r.2.2 ≤ 1000000) (hk : k ≠ 3) (hv : v = pN r.1 i) : FnM Try.prog 66 [.padr 1000000000 0, (.lit (.int .i64 (i : Int))), .strct [(.lit (.int .i64 (k : Int))), (.lit (.int .i64 (v : Int)))]] [(1000000000, .box [.lit (.bool true), .lit (.bool pet), .own 1000000001, .mown 5, (.lit (.int .i64 ((r).2.2 : Int)))]), (1000000001, .row 105 PT true (r).1), (5, .mat 80 91 NT true (r).2.1 none)] (.tup []) [(1000000000, .box [.lit (.bool true), .lit (.bool pet), .own 1000000001, .mown 5, (.lit (.int .i64 (((sendR i 3 v (setL r.1 i v, r.2))).2.2 : Int)))]), (1000000001, .row 105 PT true ((sendR i 3 v (setL r.1 i v, r.2))).1), (5, .mat 80 91 NT true ((sendR i 3 v (setL r.1 i v, r.2))).2.1 none)] := by
  have c1 := sendp_at (pet := pet) (r := (setL r.1 i v, r.2)) (i := i) (k := 3) (v := v) hi hf hs
  have hl : @List.length PT.T r.1 = r.1.length := rfl
  have hN : (r.1.getD i P0).1 = pN r.1 i := rfl
  have hBg : (r.1.getD i P0).2.1 = pB r.1 i := rfl
  refine FnM.of_body tys_ok Try.func66 (by rfl) rfl Try.ntmps66 (by rw [Try.results66]) (by simp) ?_
  
  repeat' (first
 | refine W.seq ?_
 | refine W.block ?_
 | (refine W.drawPhTo (id := 2) tys_ok [] mixed [0, 1, 0, 4, 8, 16, 32, 66, 255] [([0, 2, 3, 4, 5], 2, 127), ([7, 8], 0, 511)] ⟨[(0, .padr 1000000000 0), (1, (.lit (.int .i64 (i : Int)))), (5, .padr 6000 0), (6, .oadr 1000000001 7 i 0), (7, .lit (.bool (decide (v = pN r.1 i))))], [(1000000000, .box [.lit (.bool true), .lit (.bool pet), .own 1000000001, .mown 5, (.lit (.int .i64 ((r).2.2 : Int)))]), (1000000001, .row 105 PT true (r).1), (5, .mat 80 91 NT true (r).2.1 none), (6000, .box [(.lit (.int .i64 (k : Int))), (.lit (.int .i64 (v : Int)))])]⟩ (by decide +kernel) ?_ ?_ <;> (conv => whnf))
 | (refine W.drawPhTo (id := 10) tys_ok [] mixed [0, 1, 0, 4, 8, 16, 32, 66, 128] [([0, 2, 3, 4, 5], 2, 127), ([7, 8], 0, 511)] ⟨[(0, .padr 1000000000 0), (1, (.lit (.int .i64 (i : Int)))), (5, .padr 6000 0), (6, .oadr 1000000001 7 i 0), (60, .lit (.bool (decide (pN r.1 i < v))))], [(1000000000, .box [.lit (.bool true), .lit (.bool pet), .own 1000000001, .mown 5, (.lit (.int .i64 ((r).2.2 : Int)))]), (1000000001, .row 105 PT true (r).1), (5, .mat 80 91 NT true (r).2.1 none), (6000, .box [(.lit (.int .i64 (k : Int))), (.lit (.int .i64 (v : Int)))])]⟩ (by decide +kernel) ?_ ?_ <;> (conv => whnf))
 | (refine W.regionM (id := 9) tys_ok [] [4] ?_; conv => whnf)
 | (refine W.region tys_ok [] ?_; conv => whnf)
 | (refine W.drawAll tys_ok [] mixed rfl ?_; conv => whnf)
 | (refine W.ret ?_; conv => whnf)
 | (refine W.skip ?_; conv => whnf)
 | (refine W.exit ?_; conv => whnf)
 | (refine callM_at (c1) ?_; conv => whnf)
 | (refine Both.mk ?_ ?_ <;> (conv => whnf))
 | (refine W.cond rfl (fun hb => ?_) (fun hb => ?_) <;> (try simp only [Int.reduceToNat, Int.reduceTDiv, Int.reduceTMod, minL, maxL, pickB, zHB, zSH] at hb) <;> (try (first | (cases hb; done) | exact absurd hb (by decide) | (exfalso; omega) | (omega) | ((simp_all; done)))))
 | (refine Or.inl (And.intro ?_ ?_); (focus (first | exact trivial | exact ⟨rfl, trivial⟩ | (refine ⟨?_, trivial⟩; dsimp only; simp only [Int.reduceToNat, Int.reduceTDiv, Int.reduceTMod, minL, maxL, pickB, zHB, zSH]; omega) | (refine ⟨?_, trivial⟩; dsimp only; (try simp only [Int.reduceToNat, Int.reduceTDiv, Int.reduceTMod, minL, maxL, pickB, zHB, zSH]); (simp_all; done)) | (refine ⟨?_, trivial⟩; dsimp only; (simp only [Int.reduceToNat, Int.reduceTDiv, Int.reduceTMod, minL, maxL, pickB, zHB, zSH]; done)) | (refine ⟨?_, trivial⟩; dsimp only; (simp; done)))); (conv => whnf))
 | (refine Or.inr (And.intro ?_ ?_); (focus (intro h; have h := h.1; dsimp only at h; first | (exact Bool.noConfusion h) | (simp only [Int.reduceToNat, Int.reduceTDiv, Int.reduceTMod, minL, maxL, pickB, zHB, zSH] at h; omega) | ((try simp only [Int.reduceToNat, Int.reduceTDiv, Int.reduceTMod, minL, maxL, pickB, zHB, zSH] at h); (simp_all; done)))); (conv => whnf))
 | ((with_reducible refine And.intro ?_ ?_); (focus (first | (with_reducible rfl) | omega | rfl | ((try simp only [Int.reduceToNat, Int.reduceTDiv, Int.reduceTMod, minL, maxL, pickB, zHB, zSH, InK, Path.imp, zL] at *); omega))); (conv => whnf))
 | ((with_reducible refine And.intro (Side.out ?_) ?_); rotate_left; (conv => whnf))
 | ((first | refine retM1 ?_ | refine retM2 ?_ | refine subF.leaf ?_ | refine subF.side ?_) <;> (conv => whnf) <;> repeat' (first
 | exact trivial
 | (with_reducible rfl)
 | ((with_reducible refine And.intro ?_ ?_) <;> conv => whnf)
 | omega
 | rfl
 | (refine congrArg (SV.arr _) ?_)
 | (refine congrArg (Value.int _) ?_)
 | (refine congrArg Value.bool ?_)))); all_goals (try unfold Side)
  all_goals try (repeat' (first | (with_reducible rfl) | (with_reducible refine And.intro ?_ ?_) | omega | rfl | exact Or.inl rfl | exact Or.inr rfl | exact of_decide_eq_true rfl | exact Path.imp_of (of_decide_eq_true rfl) | (focus ((try simp only [Int.reduceToNat, Int.reduceTDiv, Int.reduceTMod, minL, maxL, pickB, zHB, zSH, InK, Path.imp, zL] at *); omega)) | (refine app_le rfl ?_; omega)))
theorem chang_pass {i : Nat} {k v : Int} (hp : i < r.1.length) (hi : i < r.2.1.length) (hf : ((r.2.1.getD i []).length : Int) ≤ r.2.2) (hs : 0 ≤ r.2.2 ∧ r.2.2 ≤ 1000000) (hk : k ≠ 3) (hv : v ≠ pN r.1 i) (hg : pN r.1 i < v) : FnM Try.prog 66 [.padr 1000000000 0, (.lit (.int .i64 (i : Int))), .strct [(.lit (.int .i64 (k : Int))), (.lit (.int .i64 (v : Int)))]] [(1000000000, .box [.lit (.bool true), .lit (.bool pet), .own 1000000001, .mown 5, (.lit (.int .i64 ((r).2.2 : Int)))]), (1000000001, .row 105 PT true (r).1), (5, .mat 80 91 NT true (r).2.1 none)] (.tup []) [(1000000000, .box [.lit (.bool true), .lit (.bool pet), .own 1000000001, .mown 5, (.lit (.int .i64 (((sendR i k v (setB r.1 i, r.2))).2.2 : Int)))]), (1000000001, .row 105 PT true ((sendR i k v (setB r.1 i, r.2))).1), (5, .mat 80 91 NT true ((sendR i k v (setB r.1 i, r.2))).2.1 none)] := by
  have c1 := sendp_at (pet := pet) (r := (setB r.1 i, r.2)) (i := i) (k := k) (v := v) hi hf hs
  have hl : @List.length PT.T r.1 = r.1.length := rfl
  have hN : (r.1.getD i P0).1 = pN r.1 i := rfl
  have hBg : (r.1.getD i P0).2.1 = pB r.1 i := rfl
  refine FnM.of_body tys_ok Try.func66 (by rfl) rfl Try.ntmps66 (by rw [Try.results66]) (by simp) ?_
  
  repeat' (first
 | refine W.seq ?_
 | refine W.block ?_
 | (refine W.drawPhTo (id := 2) tys_ok [] mixed [0, 1, 0, 4, 8, 16, 32, 66, 255] [([0, 2, 3, 4, 5], 2, 127), ([7, 8], 0, 511)] ⟨[(0, .padr 1000000000 0), (1, (.lit (.int .i64 (i : Int)))), (5, .padr 6000 0), (6, .oadr 1000000001 7 i 0), (7, .lit (.bool (decide (v = pN r.1 i))))], [(1000000000, .box [.lit (.bool true), .lit (.bool pet), .own 1000000001, .mown 5, (.lit (.int .i64 ((r).2.2 : Int)))]), (1000000001, .row 105 PT true (r).1), (5, .mat 80 91 NT true (r).2.1 none), (6000, .box [(.lit (.int .i64 (k : Int))), (.lit (.int .i64 (v : Int)))])]⟩ (by decide +kernel) ?_ ?_ <;> (conv => whnf))
 | (refine W.drawPhTo (id := 10) tys_ok [] mixed [0, 1, 0, 4, 8, 16, 32, 66, 128] [([0, 2, 3, 4, 5], 2, 127), ([7, 8], 0, 511)] ⟨[(0, .padr 1000000000 0), (1, (.lit (.int .i64 (i : Int)))), (5, .padr 6000 0), (6, .oadr 1000000001 7 i 0), (60, .lit (.bool (decide (pN r.1 i < v))))], [(1000000000, .box [.lit (.bool true), .lit (.bool pet), .own 1000000001, .mown 5, (.lit (.int .i64 ((r).2.2 : Int)))]), (1000000001, .row 105 PT true (r).1), (5, .mat 80 91 NT true (r).2.1 none), (6000, .box [(.lit (.int .i64 (k : Int))), (.lit (.int .i64 (v : Int)))])]⟩ (by decide +kernel) ?_ ?_ <;> (conv => whnf))
 | (refine W.regionM (id := 12) tys_ok [] [6] ?_; conv => whnf)
 | (refine W.region tys_ok [] ?_; conv => whnf)
 | (refine W.drawAll tys_ok [] mixed rfl ?_; conv => whnf)
 | (refine W.ret ?_; conv => whnf)
 | (refine W.skip ?_; conv => whnf)
 | (refine W.exit ?_; conv => whnf)
 | (refine callM_at (c1) ?_; conv => whnf)
 | (refine Both.mk ?_ ?_ <;> (conv => whnf))
 | (refine W.cond rfl (fun hb => ?_) (fun hb => ?_) <;> (try simp only [Int.reduceToNat, Int.reduceTDiv, Int.reduceTMod, minL, maxL, pickB, zHB, zSH] at hb) <;> (try (first | (cases hb; done) | exact absurd hb (by decide) | (exfalso; omega) | (omega) | ((simp_all; done)))))
 | (refine Or.inl (And.intro ?_ ?_); (focus (first | exact trivial | exact ⟨rfl, trivial⟩ | (refine ⟨?_, trivial⟩; dsimp only; simp only [Int.reduceToNat, Int.reduceTDiv, Int.reduceTMod, minL, maxL, pickB, zHB, zSH]; omega) | (refine ⟨?_, trivial⟩; dsimp only; (try simp only [Int.reduceToNat, Int.reduceTDiv, Int.reduceTMod, minL, maxL, pickB, zHB, zSH]); (simp_all; done)) | (refine ⟨?_, trivial⟩; dsimp only; (simp only [Int.reduceToNat, Int.reduceTDiv, Int.reduceTMod, minL, maxL, pickB, zHB, zSH]; done)) | (refine ⟨?_, trivial⟩; dsimp only; (simp; done)))); (conv => whnf))
 | (refine Or.inr (And.intro ?_ ?_); (focus (intro h; have h := h.1; dsimp only at h; first | (exact Bool.noConfusion h) | (simp only [Int.reduceToNat, Int.reduceTDiv, Int.reduceTMod, minL, maxL, pickB, zHB, zSH] at h; omega) | ((try simp only [Int.reduceToNat, Int.reduceTDiv, Int.reduceTMod, minL, maxL, pickB, zHB, zSH] at h); (simp_all; done)))); (conv => whnf))
 | ((with_reducible refine And.intro ?_ ?_); (focus (first | (with_reducible rfl) | omega | rfl | ((try simp only [Int.reduceToNat, Int.reduceTDiv, Int.reduceTMod, minL, maxL, pickB, zHB, zSH, InK, Path.imp, zL] at *); omega))); (conv => whnf))
 | ((with_reducible refine And.intro (Side.out ?_) ?_); rotate_left; (conv => whnf))
 | ((first | refine retM1 ?_ | refine retM2 ?_ | refine subF.leaf ?_ | refine subF.side ?_) <;> (conv => whnf) <;> repeat' (first
 | exact trivial
 | (with_reducible rfl)
 | ((with_reducible refine And.intro ?_ ?_) <;> conv => whnf)
 | omega
 | rfl
 | (refine congrArg (SV.arr _) ?_)
 | (refine congrArg (Value.int _) ?_)
 | (refine congrArg Value.bool ?_)))); all_goals (try unfold Side)
  all_goals try (repeat' (first | (with_reducible rfl) | (with_reducible refine And.intro ?_ ?_) | omega | rfl | exact Or.inl rfl | exact Or.inr rfl | exact of_decide_eq_true rfl | exact Path.imp_of (of_decide_eq_true rfl) | (focus ((try simp only [Int.reduceToNat, Int.reduceTDiv, Int.reduceTMod, minL, maxL, pickB, zHB, zSH, InK, Path.imp, zL] at *); omega)) | (refine app_le rfl ?_; omega)))
theorem chang_wake {i : Nat} {k v : Int} (hp : i < r.1.length) (hi : i < r.2.1.length) (hf : ((r.2.1.getD i []).length : Int) ≤ r.2.2) (hs : 0 ≤ r.2.2 ∧ r.2.2 ≤ 1000000) (hk : k ≠ 3) (hv : v ≠ pN r.1 i) (hg : ¬ pN r.1 i < v) (hb0 : pB r.1 i = false) : FnM Try.prog 66 [.padr 1000000000 0, (.lit (.int .i64 (i : Int))), .strct [(.lit (.int .i64 (k : Int))), (.lit (.int .i64 (v : Int)))]] [(1000000000, .box [.lit (.bool true), .lit (.bool pet), .own 1000000001, .mown 5, (.lit (.int .i64 ((r).2.2 : Int)))]), (1000000001, .row 105 PT true (r).1), (5, .mat 80 91 NT true (r).2.1 none)] (.tup []) [(1000000000, .box [.lit (.bool true), .lit (.bool pet), .own 1000000001, .mown 5, (.lit (.int .i64 (((beginR i r)).2.2 : Int)))]), (1000000001, .row 105 PT true ((beginR i r)).1), (5, .mat 80 91 NT true ((beginR i r)).2.1 none)] := by
  have c1 := begin_ring (pet := pet) hp hi hf hs
  have hl : @List.length PT.T r.1 = r.1.length := rfl
  have hN : (r.1.getD i P0).1 = pN r.1 i := rfl
  have hBg : (r.1.getD i P0).2.1 = pB r.1 i := rfl
  refine FnM.of_body tys_ok Try.func66 (by rfl) rfl Try.ntmps66 (by rw [Try.results66]) (by simp) ?_
  
  repeat' (first
 | refine W.seq ?_
 | refine W.block ?_
 | (refine W.drawPhTo (id := 2) tys_ok [] mixed [0, 1, 0, 4, 8, 16, 32, 66, 255] [([0, 2, 3, 4, 5], 2, 127), ([7, 8], 0, 511)] ⟨[(0, .padr 1000000000 0), (1, (.lit (.int .i64 (i : Int)))), (5, .padr 6000 0), (6, .oadr 1000000001 7 i 0), (7, .lit (.bool (decide (v = pN r.1 i))))], [(1000000000, .box [.lit (.bool true), .lit (.bool pet), .own 1000000001, .mown 5, (.lit (.int .i64 ((r).2.2 : Int)))]), (1000000001, .row 105 PT true (r).1), (5, .mat 80 91 NT true (r).2.1 none), (6000, .box [(.lit (.int .i64 (k : Int))), (.lit (.int .i64 (v : Int)))])]⟩ (by decide +kernel) ?_ ?_ <;> (conv => whnf))
 | (refine W.drawPhTo (id := 10) tys_ok [] mixed [0, 1, 0, 4, 8, 16, 32, 66, 128] [([0, 2, 3, 4, 5], 2, 127), ([7, 8], 0, 511)] ⟨[(0, .padr 1000000000 0), (1, (.lit (.int .i64 (i : Int)))), (5, .padr 6000 0), (6, .oadr 1000000001 7 i 0), (60, .lit (.bool (decide (pN r.1 i < v))))], [(1000000000, .box [.lit (.bool true), .lit (.bool pet), .own 1000000001, .mown 5, (.lit (.int .i64 ((r).2.2 : Int)))]), (1000000001, .row 105 PT true (r).1), (5, .mat 80 91 NT true (r).2.1 none), (6000, .box [(.lit (.int .i64 (k : Int))), (.lit (.int .i64 (v : Int)))])]⟩ (by decide +kernel) ?_ ?_ <;> (conv => whnf))
 | (refine W.regionM (id := 14) tys_ok [] [2] ?_; conv => whnf)
 | (refine W.region tys_ok [] ?_; conv => whnf)
 | (refine W.drawAll tys_ok [] mixed rfl ?_; conv => whnf)
 | (refine W.ret ?_; conv => whnf)
 | (refine W.skip ?_; conv => whnf)
 | (refine W.exit ?_; conv => whnf)
 | (refine callM_at (c1) ?_; conv => whnf)
 | (refine Both.mk ?_ ?_ <;> (conv => whnf))
 | (refine W.cond rfl (fun hb => ?_) (fun hb => ?_) <;> (try simp only [Int.reduceToNat, Int.reduceTDiv, Int.reduceTMod, minL, maxL, pickB, zHB, zSH] at hb) <;> (try (first | (cases hb; done) | exact absurd hb (by decide) | (exfalso; omega) | (omega) | ((simp_all; done)))))
 | (refine Or.inl (And.intro ?_ ?_); (focus (first | exact trivial | exact ⟨rfl, trivial⟩ | (refine ⟨?_, trivial⟩; dsimp only; simp only [Int.reduceToNat, Int.reduceTDiv, Int.reduceTMod, minL, maxL, pickB, zHB, zSH]; omega) | (refine ⟨?_, trivial⟩; dsimp only; (try simp only [Int.reduceToNat, Int.reduceTDiv, Int.reduceTMod, minL, maxL, pickB, zHB, zSH]); (simp_all; done)) | (refine ⟨?_, trivial⟩; dsimp only; (simp only [Int.reduceToNat, Int.reduceTDiv, Int.reduceTMod, minL, maxL, pickB, zHB, zSH]; done)) | (refine ⟨?_, trivial⟩; dsimp only; (simp; done)))); (conv => whnf))
 | (refine Or.inr (And.intro ?_ ?_); (focus (intro h; have h := h.1; dsimp only at h; first | (exact Bool.noConfusion h) | (simp only [Int.reduceToNat, Int.reduceTDiv, Int.reduceTMod, minL, maxL, pickB, zHB, zSH] at h; omega) | ((try simp only [Int.reduceToNat, Int.reduceTDiv, Int.reduceTMod, minL, maxL, pickB, zHB, zSH] at h); (simp_all; done)))); (conv => whnf))
 | ((with_reducible refine And.intro ?_ ?_); (focus (first | (with_reducible rfl) | omega | rfl | ((try simp only [Int.reduceToNat, Int.reduceTDiv, Int.reduceTMod, minL, maxL, pickB, zHB, zSH, InK, Path.imp, zL] at *); omega))); (conv => whnf))
 | ((with_reducible refine And.intro (Side.out ?_) ?_); rotate_left; (conv => whnf))
 | ((first | refine retM1 ?_ | refine retM2 ?_ | refine subF.leaf ?_ | refine subF.side ?_) <;> (conv => whnf) <;> repeat' (first
 | exact trivial
 | (with_reducible rfl)
 | ((with_reducible refine And.intro ?_ ?_) <;> conv => whnf)
 | omega
 | rfl
 | (refine congrArg (SV.arr _) ?_)
 | (refine congrArg (Value.int _) ?_)
 | (refine congrArg Value.bool ?_)))); all_goals (try unfold Side)
  all_goals try (repeat' (first | (with_reducible rfl) | (with_reducible refine And.intro ?_ ?_) | omega | rfl | exact Or.inl rfl | exact Or.inr rfl | exact of_decide_eq_true rfl | exact Path.imp_of (of_decide_eq_true rfl) | (focus ((try simp only [Int.reduceToNat, Int.reduceTDiv, Int.reduceTMod, minL, maxL, pickB, zHB, zSH, InK, Path.imp, zL] at *); omega)) | (refine app_le rfl ?_; omega)))
theorem chang_drop {i : Nat} {k v : Int} (hp : i < r.1.length) (hi : i < r.2.1.length) (hf : ((r.2.1.getD i []).length : Int) ≤ r.2.2) (hs : 0 ≤ r.2.2 ∧ r.2.2 ≤ 1000000) (hk : k ≠ 3) (hv : v ≠ pN r.1 i) (hg : ¬ pN r.1 i < v) (hb0 : pB r.1 i = true) : FnM Try.prog 66 [.padr 1000000000 0, (.lit (.int .i64 (i : Int))), .strct [(.lit (.int .i64 (k : Int))), (.lit (.int .i64 (v : Int)))]] [(1000000000, .box [.lit (.bool true), .lit (.bool pet), .own 1000000001, .mown 5, (.lit (.int .i64 ((r).2.2 : Int)))]), (1000000001, .row 105 PT true (r).1), (5, .mat 80 91 NT true (r).2.1 none)] (.tup []) [(1000000000, .box [.lit (.bool true), .lit (.bool pet), .own 1000000001, .mown 5, (.lit (.int .i64 ((r).2.2 : Int)))]), (1000000001, .row 105 PT true (r).1), (5, .mat 80 91 NT true (r).2.1 none)] := by
  have hl : @List.length PT.T r.1 = r.1.length := rfl
  have hN : (r.1.getD i P0).1 = pN r.1 i := rfl
  have hBg : (r.1.getD i P0).2.1 = pB r.1 i := rfl
  refine FnM.of_body tys_ok Try.func66 (by rfl) rfl Try.ntmps66 (by rw [Try.results66]) (by simp) ?_
  
  repeat' (first
 | refine W.seq ?_
 | refine W.block ?_
 | (refine W.drawPhTo (id := 2) tys_ok [] mixed [0, 1, 0, 4, 8, 16, 32, 66, 255] [([0, 2, 3, 4, 5], 2, 127), ([7, 8], 0, 511)] ⟨[(0, .padr 1000000000 0), (1, (.lit (.int .i64 (i : Int)))), (5, .padr 6000 0), (6, .oadr 1000000001 7 i 0), (7, .lit (.bool (decide (v = pN r.1 i))))], [(1000000000, .box [.lit (.bool true), .lit (.bool pet), .own 1000000001, .mown 5, (.lit (.int .i64 ((r).2.2 : Int)))]), (1000000001, .row 105 PT true (r).1), (5, .mat 80 91 NT true (r).2.1 none), (6000, .box [(.lit (.int .i64 (k : Int))), (.lit (.int .i64 (v : Int)))])]⟩ (by decide +kernel) ?_ ?_ <;> (conv => whnf))
 | (refine W.drawPhTo (id := 10) tys_ok [] mixed [0, 1, 0, 4, 8, 16, 32, 66, 128] [([0, 2, 3, 4, 5], 2, 127), ([7, 8], 0, 511)] ⟨[(0, .padr 1000000000 0), (1, (.lit (.int .i64 (i : Int)))), (5, .padr 6000 0), (6, .oadr 1000000001 7 i 0), (60, .lit (.bool (decide (pN r.1 i < v))))], [(1000000000, .box [.lit (.bool true), .lit (.bool pet), .own 1000000001, .mown 5, (.lit (.int .i64 ((r).2.2 : Int)))]), (1000000001, .row 105 PT true (r).1), (5, .mat 80 91 NT true (r).2.1 none), (6000, .box [(.lit (.int .i64 (k : Int))), (.lit (.int .i64 (v : Int)))])]⟩ (by decide +kernel) ?_ ?_ <;> (conv => whnf))
 | (refine W.region tys_ok [] ?_; conv => whnf)
 | (refine W.drawAll tys_ok [] mixed rfl ?_; conv => whnf)
 | (refine W.ret ?_; conv => whnf)
 | (refine W.skip ?_; conv => whnf)
 | (refine W.exit ?_; conv => whnf)
 | (refine Both.mk ?_ ?_ <;> (conv => whnf))
 | (refine W.cond rfl (fun hb => ?_) (fun hb => ?_) <;> (try simp only [Int.reduceToNat, Int.reduceTDiv, Int.reduceTMod, minL, maxL, pickB, zHB, zSH] at hb) <;> (try (first | (cases hb; done) | exact absurd hb (by decide) | (exfalso; omega) | (omega) | ((simp_all; done)))))
 | ((with_reducible refine And.intro ?_ ?_); (focus (first | (with_reducible rfl) | omega | rfl | ((try simp only [Int.reduceToNat, Int.reduceTDiv, Int.reduceTMod, minL, maxL, pickB, zHB, zSH, InK, Path.imp, zL] at *); omega))); (conv => whnf))
 | ((with_reducible refine And.intro (Side.out ?_) ?_); rotate_left; (conv => whnf))
 | ((first | refine retM1 ?_ | refine retM2 ?_ | refine subF.leaf ?_ | refine subF.side ?_) <;> (conv => whnf) <;> repeat' (first
 | exact trivial
 | (with_reducible rfl)
 | ((with_reducible refine And.intro ?_ ?_) <;> conv => whnf)
 | omega
 | rfl
 | (refine congrArg (SV.arr _) ?_)
 | (refine congrArg (Value.int _) ?_)
 | (refine congrArg Value.bool ?_)))); all_goals (try unfold Side)
  all_goals try (repeat' (first | (with_reducible rfl) | (with_reducible refine And.intro ?_ ?_) | omega | rfl | exact Or.inl rfl | exact Or.inr rfl | exact of_decide_eq_true rfl | exact Path.imp_of (of_decide_eq_true rfl) | (focus ((try simp only [Int.reduceToNat, Int.reduceTDiv, Int.reduceTMod, minL, maxL, pickB, zHB, zSH, InK, Path.imp, zL] at *); omega)) | (refine app_le rfl ?_; omega)))
end Go.Proofs.Ytkjcnegkdlmapaa
