/- Joined of: R10 K21. No condition. -/
import Derived.Test.YtkjcnegkdlmapaaJ8
import Derived.Test.YtkjcnegkdlmapaaJ10
import Derived.Test.YtkjcnegkdlmapaaJ11

namespace Go.Proofs.Ytkjcnegkdlmapaa
open Go Go.Vc Go.Rg
set_option linter.unusedVariables false
set_option linter.unusedSimpArgs false
theorem new_len {xs : List Int} {pet : Bool} (h : xs.length < 1 ∨ 10 < xs.length) : FnM Try.prog 27 [.st false (.arr (.int .i64) xs), .lit (.bool pet)] [] (.tup [.lit (.pointer none), (.lit (.int .i64 (1 : Int)))]) [] := by
  have hl : @List.length (Ty.int .i64).T xs = xs.length := rfl
  refine FnM.of_body tys_ok Try.func27 (by rfl) rfl Try.ntmps27 (by rw [Try.results27]) (by simp) ?_
  
  repeat' (first
 | refine W.seq ?_
 | refine W.block ?_
 | (refine W.region tys_ok [] ?_; conv => whnf)
 | (refine W.drawAll tys_ok [] mixed rfl ?_; conv => whnf)
 | (refine W.ret ?_; conv => whnf)
 | (refine W.skip ?_; conv => whnf)
 | (refine W.exit ?_; conv => whnf)
 | (refine W.cond rfl (fun hb => ?_) (fun hb => ?_) <;> (try simp only [Int.reduceToNat, Int.reduceTDiv, Int.reduceTMod, minL, maxL, pickB, zHB, zSH] at hb) <;> (try (first | (cases hb; done) | exact absurd hb (by decide) | (exfalso; omega) | (omega) | ((simp [pickB] at hb; omega)))))
 | ((with_reducible refine And.intro ?_ ?_); (focus (first | (with_reducible rfl) | omega | rfl | ((try simp only [Int.reduceToNat, Int.reduceTDiv, Int.reduceTMod, minL, maxL, pickB, zHB, zSH, InK, Path.imp, zL] at *); omega))); (conv => whnf))
 | ((with_reducible refine And.intro (Side.out ?_) ?_); rotate_left; (conv => whnf))
 | ((first | refine retM1 ?_ | refine retM2 ?_) <;> (conv => whnf) <;> repeat' (first
 | exact trivial
 | (with_reducible rfl)
 | ((with_reducible refine And.intro ?_ ?_) <;> conv => whnf)
 | omega
 | rfl
 | (refine congrArg (SV.arr _) ?_)
 | (refine congrArg (Value.int _) ?_)
 | (refine congrArg Value.bool ?_)))); all_goals (try unfold Side)
  all_goals try (repeat' (first | (with_reducible rfl) | (with_reducible refine And.intro ?_ ?_) | omega | rfl | exact Or.inl rfl | exact Or.inr rfl | exact of_decide_eq_true rfl | exact Path.imp_of (of_decide_eq_true rfl) | (focus ((try simp only [Int.reduceToNat, Int.reduceTDiv, Int.reduceTMod, minL, maxL, pickB, zHB, zSH, InK, Path.imp, zL] at *); omega)) | (refine app_le rfl ?_; omega)))
set_option maxHeartbeats 4000000 in
theorem new_bad {xs : List Int} {pet : Bool} (h1 : 1 ≤ xs.length) (h2 : xs.length ≤ 10) (hg : ¬ ∀ i, i < xs.length → goodAt xs i) : FnM Try.prog 27 [.st false (.arr (.int .i64) xs), .lit (.bool pet)] [] (.tup [.lit (.pointer none), (.lit (.int .i64 (1 : Int)))]) [] := by
  have hl : @List.length (Ty.int .i64).T xs = xs.length := rfl
  have hN1 : (xs.length : Int) ≤ 4294967296 := by omega
  refine FnM.of_body tys_ok Try.func27 (by rfl) rfl Try.ntmps27 (by rw [Try.results27]) (by simp) ?_
  
  repeat' (first
 | refine W.seq ?_
 | refine W.block ?_
 | (refine W.region tys_ok [0, 20] ?_; conv => whnf)
 | (refine W.drawAll tys_ok [0, 20] mixed rfl ?_; conv => whnf)
 | (refine W.ret ?_; conv => whnf)
 | (refine W.skip ?_; conv => whnf)
 | (refine W.exit ?_; conv => whnf)
 | (refine W.cond rfl (fun hb => ?_) (fun hb => ?_) <;> (try simp only [Int.reduceToNat, Int.reduceTDiv, Int.reduceTMod, minL, maxL, pickB, zHB, zSH] at hb) <;> (try (first | (cases hb; done) | exact absurd hb (by decide) | (exfalso; omega) | (omega) | ((simp [pickB] at hb; omega)))))
 | ((with_reducible refine And.intro ?_ ?_); (focus (first | (with_reducible rfl) | omega | rfl | ((try simp only [Int.reduceToNat, Int.reduceTDiv, Int.reduceTMod, minL, maxL, pickB, zHB, zSH, InK, Path.imp, zL] at *); omega))); (conv => whnf))
 | ((with_reducible refine And.intro (Side.out ?_) ?_); rotate_left; (conv => whnf))
 | ((first | refine retM1 ?_ | refine retM2 ?_) <;> (conv => whnf) <;> repeat' (first
 | exact trivial
 | (with_reducible rfl)
 | ((with_reducible refine And.intro ?_ ?_) <;> conv => whnf)
 | omega
 | rfl
 | (refine congrArg (SV.arr _) ?_)
 | (refine congrArg (Value.int _) ?_)
 | (refine congrArg Value.bool ?_)))); all_goals (try unfold Side)
  all_goals first | exact Nat.le_of_ble_eq_true rfl | exact hN1 | skip
  all_goals try (repeat' (first | (with_reducible rfl) | (with_reducible refine And.intro ?_ ?_) | omega | rfl | exact Or.inl rfl | exact Or.inr rfl | exact of_decide_eq_true rfl | exact Path.imp_of (of_decide_eq_true rfl) | (focus ((try simp only [Int.reduceToNat, Int.reduceTDiv, Int.reduceTMod, minL, maxL, pickB, zHB, zSH, InK, Path.imp, zL] at *); omega)) | (refine app_le rfl ?_; omega)))
  refine W.loop (fun i : Nat => ⟨[(0, .st false (.arr (.int .i64) xs)), (6, .padr 7000 0), (23, .st false (.arr (.int .i64) xs)), (24, (.lit (.int .i64 (xs.length : Int)))), (25, (.lit (.int .i64 (i : Int))))], [(7000, .box [.lit (.bool true), .lit (.bool pet), .own 7001, .mown 7002, (.lit (.int .i64 (0 : Int)))]), (7001, .row 105 PT true ((xs.take i).map mkP)), (7002, .mat 80 91 NT true (List.replicate xs.length ([] : List Nt)) none)]⟩) (fun i => i ≤ xs.length ∧ ∀ j, j < i → goodAt xs j) (fun i => xs.length - i) (0) ?_ ?_
  · refine ⟨⟨Nat.zero_le _, fun j hj => absurd hj (Nat.not_lt_zero _)⟩, ?_⟩
    refine subF.ok ?_ <;> (conv => whnf) <;> repeat' (first
 | exact trivial
 | (with_reducible rfl)
 | ((with_reducible refine And.intro ?_ ?_) <;> conv => whnf)
 | omega
 | rfl
 | (refine congrArg (SV.arr _) ?_)
 | (refine congrArg (Value.int _) ?_)
 | (refine congrArg Value.bool ?_))
  · rintro i ⟨hi, hgood⟩
    by_cases hil : i < xs.length
    · have e1 : (xs.take i).map mkP ++ [(xs.getD i 0, false, 0, xs.getD i 0, 0, false, 1, ())] = (xs.take (i + 1)).map mkP := by
        rw [List.take_succ_eq_append_getElem hil, List.map_append, ← getD_eq hil]; rfl
      have e2 : ((xs.take i).map mkP).length + [((xs.getD i 0, false, 0, xs.getD i 0, 0, false, 1, ()) : Pe)].length ≤ 4294967296 := by
        rw [List.length_map, List.length_take, List.length_singleton]; omega
      by_cases hr : 1 ≤ xs.getD i 0 ∧ xs.getD i 0 ≤ 1000
      · have hk : ¬ (xs.getD i 0 < 1 ∨ 1000 < xs.getD i 0) := by omega
        by_cases hm : xs.getD i 0 ∈ xs.take i
        · have c1 := containsN_at (l := xs.take i) (x := xs.getD i 0) (b := true) (by rw [List.length_take]; omega) (by rw [eq_comm, decide_eq_true_eq]; exact hm)
          repeat' (first
 | refine W.seq ?_
 | refine W.block ?_
 | (refine W.region tys_ok [] ?_; conv => whnf)
 | (refine W.drawAll tys_ok [] mixed rfl ?_; conv => whnf)
 | (refine W.ret ?_; conv => whnf)
 | (refine W.skip ?_; conv => whnf)
 | (refine W.exit ?_; conv => whnf)
 | (refine call_at (al := false) (c1) rfl rfl rfl rfl ?_; conv => whnf)
 | (refine W.cond rfl (fun hb => ?_) (fun hb => ?_) <;> (try simp only [Int.reduceToNat, Int.reduceTDiv, Int.reduceTMod, minL, maxL, pickB, zHB, zSH] at hb) <;> (try (first | (cases hb; done) | exact absurd hb (by decide) | (exfalso; omega) | (omega) | (exact (hk hb).elim) | ((simp [pickB] at hb; done)))))
 | ((with_reducible refine And.intro ?_ ?_); (focus (first | (with_reducible rfl) | omega | rfl | ((try simp only [Int.reduceToNat, Int.reduceTDiv, Int.reduceTMod, minL, maxL, pickB, zHB, zSH, InK, Path.imp, zL] at *); omega))); (conv => whnf))
 | ((with_reducible refine And.intro (Side.out ?_) ?_); rotate_left; (conv => whnf))
 | ((first | refine retM1 ?_ | refine retM2 ?_) <;> (conv => whnf) <;> repeat' (first
 | exact trivial
 | (with_reducible rfl)
 | ((with_reducible refine And.intro ?_ ?_) <;> conv => whnf)
 | omega
 | rfl
 | (refine congrArg (SV.arr _) ?_)
 | (refine congrArg (Value.int _) ?_)
 | (refine congrArg Value.bool ?_)))); all_goals (try unfold Side)
          all_goals try (repeat' (first | (with_reducible rfl) | (with_reducible refine And.intro ?_ ?_) | omega | rfl | exact Or.inl rfl | exact Or.inr rfl | exact of_decide_eq_true rfl | exact Path.imp_of (of_decide_eq_true rfl) | (focus ((try simp only [Int.reduceToNat, Int.reduceTDiv, Int.reduceTMod, minL, maxL, pickB, zHB, zSH, InK, Path.imp, zL] at *); omega)) | (refine app_le rfl ?_; omega)))
        · have c1 := containsN_at (l := xs.take i) (x := xs.getD i 0) (b := false) (by rw [List.length_take]; omega) (by rw [eq_comm, decide_eq_false_iff_not]; exact hm)
          repeat' (first
 | refine W.seq ?_
 | refine W.block ?_
 | (refine W.region tys_ok [] ?_; conv => whnf)
 | (refine W.drawAll tys_ok [] mixed rfl ?_; conv => whnf)
 | (refine W.ret ?_; conv => whnf)
 | (refine W.skip ?_; conv => whnf)
 | (refine W.exit ?_; conv => whnf)
 | (refine call_at (al := false) (c1) rfl rfl rfl rfl ?_; conv => whnf)
 | (refine W.cond rfl (fun hb => ?_) (fun hb => ?_) <;> (try simp only [Int.reduceToNat, Int.reduceTDiv, Int.reduceTMod, minL, maxL, pickB, zHB, zSH] at hb) <;> (try (first | (cases hb; done) | exact absurd hb (by decide) | (exfalso; omega) | (omega) | (exact (hk hb).elim) | ((simp [pickB] at hb; omega)))))
 | ((with_reducible refine And.intro ?_ ?_); (focus (first | (with_reducible rfl) | omega | rfl | ((try simp only [Int.reduceToNat, Int.reduceTDiv, Int.reduceTMod, minL, maxL, pickB, zHB, zSH, InK, Path.imp, zL] at *); omega))); (conv => whnf))
 | ((with_reducible refine And.intro (Side.out ?_) ?_); rotate_left; (conv => whnf))
 | ((first | refine retM1 ?_ | refine retM2 ?_) <;> (conv => whnf) <;> repeat' (first
 | exact trivial
 | (with_reducible rfl)
 | ((with_reducible refine And.intro ?_ ?_) <;> conv => whnf)
 | omega
 | rfl
 | (refine congrArg (SV.arr _) ?_)
 | (refine congrArg (Value.int _) ?_)
 | (refine congrArg Value.bool ?_)))); all_goals (try unfold Side)
          all_goals try (repeat' (first | (with_reducible rfl) | (with_reducible refine And.intro ?_ ?_) | omega | rfl | exact Or.inl rfl | exact Or.inr rfl | exact of_decide_eq_true rfl | exact Path.imp_of (of_decide_eq_true rfl) | (focus ((try simp only [Int.reduceToNat, Int.reduceTDiv, Int.reduceTMod, minL, maxL, pickB, zHB, zSH, InK, Path.imp, zL] at *); omega)) | (refine app_le rfl ?_; omega)))
          all_goals first | exact e2 | skip
          refine ⟨i + 1, ⟨⟨by omega, fun j hj => ?_⟩, by omega⟩, ?_⟩
          · by_cases hji : j = i
            · rw [hji]; exact ⟨hr.1, hr.2, hm⟩
            · exact hgood j (by omega)
          · refine subF.ok ?_ <;> (conv => whnf) <;> repeat' (first
 | exact trivial
 | (with_reducible rfl)
 | ((with_reducible refine And.intro ?_ ?_) <;> conv => whnf)
 | omega
 | rfl
 | (refine congrArg (SV.arr _) ?_)
 | (refine congrArg (Value.int _) ?_)
 | (refine congrArg Value.bool ?_))
            all_goals exact e1
      · have c1 := containsN_at (l := xs.take i) (x := xs.getD i 0) (b := decide (xs.getD i 0 ∈ xs.take i)) (by rw [List.length_take]; omega) rfl
        have hk : ¬ (¬ xs.getD i 0 < 1 ∧ ¬ 1000 < xs.getD i 0) := by omega
        repeat' (first
 | refine W.seq ?_
 | refine W.block ?_
 | (refine W.region tys_ok [] ?_; conv => whnf)
 | (refine W.drawAll tys_ok [] mixed rfl ?_; conv => whnf)
 | (refine W.ret ?_; conv => whnf)
 | (refine W.skip ?_; conv => whnf)
 | (refine W.exit ?_; conv => whnf)
 | (refine call_at (al := false) (c1) rfl rfl rfl rfl ?_; conv => whnf)
 | (refine W.cond rfl (fun hb => ?_) (fun hb => ?_) <;> (try simp only [Int.reduceToNat, Int.reduceTDiv, Int.reduceTMod, minL, maxL, pickB, zHB, zSH] at hb) <;> (try (first | (cases hb; done) | exact absurd hb (by decide) | (exfalso; omega) | (omega) | (exact (hk hb).elim) | (exact (hk hb.1).elim) | ((simp [pickB] at hb; omega)))))
 | ((with_reducible refine And.intro ?_ ?_); (focus (first | (with_reducible rfl) | omega | rfl | ((try simp only [Int.reduceToNat, Int.reduceTDiv, Int.reduceTMod, minL, maxL, pickB, zHB, zSH, InK, Path.imp, zL] at *); omega))); (conv => whnf))
 | ((with_reducible refine And.intro (Side.out ?_) ?_); rotate_left; (conv => whnf))
 | ((first | refine retM1 ?_ | refine retM2 ?_) <;> (conv => whnf) <;> repeat' (first
 | exact trivial
 | (with_reducible rfl)
 | ((with_reducible refine And.intro ?_ ?_) <;> conv => whnf)
 | omega
 | rfl
 | (refine congrArg (SV.arr _) ?_)
 | (refine congrArg (Value.int _) ?_)
 | (refine congrArg Value.bool ?_)))); all_goals (try unfold Side)
        all_goals try (repeat' (first | (with_reducible rfl) | (with_reducible refine And.intro ?_ ?_) | omega | rfl | exact Or.inl rfl | exact Or.inr rfl | exact of_decide_eq_true rfl | exact Path.imp_of (of_decide_eq_true rfl) | (focus ((try simp only [Int.reduceToNat, Int.reduceTDiv, Int.reduceTMod, minL, maxL, pickB, zHB, zSH, InK, Path.imp, zL] at *); omega)) | (refine app_le rfl ?_; omega)))
    · have hie : i = xs.length := by omega
      exact absurd (fun j hj => hgood j (by omega)) hg
end Go.Proofs.Ytkjcnegkdlmapaa
namespace Go.Proofs.Ytkjcnegkdlmapaa
open Go Go.Vc Go.Rg
set_option linter.unusedVariables false
set_option linter.unusedSimpArgs false
set_option maxHeartbeats 16000000 in
theorem RingNews_yg {x : List Int} {pet : Bool} (n : Nat) {xs : List Int} (hx : xs = x.take 11) (h1 : 1 ≤ xs.length) (h2 : xs.length ≤ 10) (hg : ∀ i, i < xs.length → goodAt xs i) (n1 : 1 ≤ n) (n2 : n ≤ 10) : FnAt Try.prog false 10 [.arr (.int .i64) x, .lit (.bool pet), I64 (n : Int)] (.lit (.bool true)) [] := by
  have hl : @List.length (Ty.int .i64).T x = x.length := rfl
  have hxl : xs.length ≤ 11 := by rw [hx, List.length_take]; omega
  have em : (minL (x.length : Int) [(11 : Int)]).toNat = min x.length 11 := by simp only [minL]; omega
  have em' : 0 ≤ minL (x.length : Int) [(11 : Int)] ∧ minL (x.length : Int) [(11 : Int)] ≤ x.length := by simp only [minL]; omega
  have ex : List.drop 0 (List.take (minL (x.length : Int) [(11 : Int)]).toNat x) = xs := by
    rw [em, List.drop_zero, hx, Nat.min_comm, ← List.take_take, List.take_length]
  have ex' : ([] : List Int) ++ List.drop 0 (List.take (minL (x.length : Int) [(11 : Int)]).toNat x) = xs := ex
  have exl : 0 + (List.drop 0 (List.take (minL (x.length : Int) [(11 : Int)]).toNat x)).length ≤ 4294967296 := by rw [ex]; omega
  have exl' : ([] : List Int).length + (List.drop 0 (List.take (minL (x.length : Int) [(11 : Int)]).toNat x)).length ≤ 4294967296 := by rw [ex]; simp; omega
  have c8 := lives_at
  have c1 := new_ok (pet := pet) h1 h2 hg
  have c3 := valid_at (xs := xs) (b := true) (by omega) ⟨fun _ => ⟨⟨h1, h2⟩, hg⟩, fun _ => rfl⟩
  have c4 := rnew_at (xs := xs) (pet := pet) (by omega)
  have c5 := rings_at (pet := pet) (r := rnew xs) (ROk.new (by omega) h2) (by show (0 : Int) ≤ 1000000; decide)
  have c2 := begin_at n1 n2
  have c6 := rbegin_at n1 n2
  have w0 := WOk.beg (n := n) (by omega) n2
  have w1 := w0.len
  have w2 := w0.fl
  have c7 := works_at (hs := (begL n).1) (fl := (begL n).2) (by omega) (by omega) (by omega)
  refine FnAt.of_body tys_ok Try.func10 (by rfl) rfl Try.ntmps10 (by rw [Try.results10]) (by simp) ?_
  
  repeat' (first
 | refine W.seq ?_
 | refine W.block ?_
 | (refine W.resub (x := Code.region 2 _ _) (Γ' := ⟨[(1, .lit (.bool pet)), (2, (.lit (.int .i64 (n : Int)))), (7, .st true (.arr (.int .i64) (xs : List Int)))], []⟩) ?_ (W.regionM tys_ok [] [2] ?_); rotate_left; (conv => whnf))
 | (refine W.regionM (id := 3) tys_ok [] [1] ?_; conv => whnf)
 | (refine W.regionM (id := 7) tys_ok [] [10,11] ?_; conv => whnf)
 | (refine W.regionM (id := 11) tys_ok [] [9,10] ?_; conv => whnf)
 | (refine W.region tys_ok [] ?_; conv => whnf)
 | (refine W.drawAll tys_ok [] mixed rfl ?_; conv => whnf)
 | (refine W.ret ?_; conv => whnf)
 | (refine W.skip ?_; conv => whnf)
 | (refine W.exit ?_; conv => whnf)
 | (refine callM_at (c1) ?_; conv => whnf)
 | (refine call_at (al := false) (c3) rfl rfl rfl rfl ?_; conv => whnf)
 | (refine callM_at (c4) ?_; conv => whnf)
 | (refine callM_at (c5) ?_; conv => whnf)
 | (refine callM_at (c2) ?_; conv => whnf)
 | (refine callM_at (c6) ?_; conv => whnf)
 | (refine callM_at (c7) ?_; conv => whnf)
 | (refine call_at (al := false) (c8) rfl rfl rfl rfl ?_; conv => whnf)
 | (refine W.cond rfl (fun hb => ?_) (fun hb => ?_) <;> (try simp only [Int.reduceToNat, Int.reduceTDiv, Int.reduceTMod, minL, maxL, pickB, zHB, zSH] at hb) <;> (try (first | (cases hb; done) | exact absurd hb (by decide) | (exfalso; omega) | (omega) | ((simp [pickB] at hb; omega)))))
 | (refine Or.inl (And.intro ?_ ?_); (focus (first | exact trivial | exact ⟨rfl, trivial⟩ | (refine ⟨?_, trivial⟩; dsimp only; simp only [Int.reduceToNat, Int.reduceTDiv, Int.reduceTMod, minL, maxL, pickB, zHB, zSH]; omega) | (refine ⟨?_, trivial⟩; dsimp only; (try simp only [Int.reduceToNat, Int.reduceTDiv, Int.reduceTMod, minL, maxL, pickB, zHB, zSH]); (simp_all; done)) | (refine ⟨?_, trivial⟩; dsimp only; (simp only [Int.reduceToNat, Int.reduceTDiv, Int.reduceTMod, minL, maxL, pickB, zHB, zSH]; done)) | (refine ⟨?_, trivial⟩; dsimp only; (simp; done)))); (conv => whnf))
 | (refine Or.inr (And.intro ?_ ?_); (focus (intro h; have h := h.1; dsimp only at h; first | (exact Bool.noConfusion h) | (simp only [Int.reduceToNat, Int.reduceTDiv, Int.reduceTMod, minL, maxL, pickB, zHB, zSH] at h; omega) | ((try simp only [Int.reduceToNat, Int.reduceTDiv, Int.reduceTMod, minL, maxL, pickB, zHB, zSH] at h); (simp_all; done)))); (conv => whnf))
 | ((with_reducible refine And.intro ?_ ?_); (focus (first | (with_reducible rfl) | omega | rfl | ((try simp only [Int.reduceToNat, Int.reduceTDiv, Int.reduceTMod, minL, maxL, pickB, zHB, zSH, InK, Path.imp, zL] at *); omega))); (conv => whnf))
 | ((with_reducible refine And.intro (Side.out ?_) ?_); rotate_left; (conv => whnf))
 | ((first | refine retF1 ?_ | refine retF2 ?_) <;> (conv => whnf) <;> repeat' (first
 | exact trivial
 | (with_reducible rfl)
 | ((with_reducible refine And.intro ?_ ?_) <;> conv => whnf)
 | omega
 | rfl
 | (refine congrArg (SV.arr _) ?_)
 | (refine congrArg (Value.int _) ?_)
 | (refine congrArg Value.bool ?_)))); all_goals (try unfold Side)
  all_goals try (repeat' (first | (with_reducible rfl) | (with_reducible refine And.intro ?_ ?_) | omega | rfl | exact Or.inl rfl | exact Or.inr rfl | exact of_decide_eq_true rfl | exact Path.imp_of (of_decide_eq_true rfl) | (focus ((try simp only [Int.reduceToNat, Int.reduceTDiv, Int.reduceTMod, minL, maxL, pickB, zHB, zSH, InK, Path.imp, zL] at *); omega)) | (refine app_le rfl ?_; omega)))
  all_goals try refine subF.ok ?_ <;> (conv => whnf) <;> repeat' (first
 | exact trivial
 | (with_reducible rfl)
 | ((with_reducible refine And.intro ?_ ?_) <;> conv => whnf)
 | omega
 | rfl
 | (refine congrArg (SV.arr _) ?_)
 | (refine congrArg (Value.int _) ?_)
 | (refine congrArg Value.bool ?_))
  all_goals first | exact ex | exact ex' | exact exl | exact exl' | exact Path.imp_of em' | exact congrArg _ ex | exact congrArg _ ex' | skip
set_option maxHeartbeats 16000000 in
theorem RingNews_yb {x : List Int} {pet : Bool} (n : Int) {xs : List Int} (hx : xs = x.take 11) (h1 : 1 ≤ xs.length) (h2 : xs.length ≤ 10) (hg : ∀ i, i < xs.length → goodAt xs i) (hn : n < 1 ∨ 10 < n) : FnAt Try.prog false 10 [.arr (.int .i64) x, .lit (.bool pet), I64 n] (.lit (.bool true)) [] := by
  have hl : @List.length (Ty.int .i64).T x = x.length := rfl
  have hxl : xs.length ≤ 11 := by rw [hx, List.length_take]; omega
  have em : (minL (x.length : Int) [(11 : Int)]).toNat = min x.length 11 := by simp only [minL]; omega
  have em' : 0 ≤ minL (x.length : Int) [(11 : Int)] ∧ minL (x.length : Int) [(11 : Int)] ≤ x.length := by simp only [minL]; omega
  have ex : List.drop 0 (List.take (minL (x.length : Int) [(11 : Int)]).toNat x) = xs := by
    rw [em, List.drop_zero, hx, Nat.min_comm, ← List.take_take, List.take_length]
  have ex' : ([] : List Int) ++ List.drop 0 (List.take (minL (x.length : Int) [(11 : Int)]).toNat x) = xs := ex
  have exl : 0 + (List.drop 0 (List.take (minL (x.length : Int) [(11 : Int)]).toNat x)).length ≤ 4294967296 := by rw [ex]; omega
  have exl' : ([] : List Int).length + (List.drop 0 (List.take (minL (x.length : Int) [(11 : Int)]).toNat x)).length ≤ 4294967296 := by rw [ex]; simp; omega
  have c8 := lives_at
  have c1 := new_ok (pet := pet) h1 h2 hg
  have c3 := valid_at (xs := xs) (b := true) (by omega) ⟨fun _ => ⟨⟨h1, h2⟩, hg⟩, fun _ => rfl⟩
  have c4 := rnew_at (xs := xs) (pet := pet) (by omega)
  have c5 := rings_at (pet := pet) (r := rnew xs) (ROk.new (by omega) h2) (by show (0 : Int) ≤ 1000000; decide)
  have c2 := begin_bad hn
  refine FnAt.of_body tys_ok Try.func10 (by rfl) rfl Try.ntmps10 (by rw [Try.results10]) (by simp) ?_
  
  repeat' (first
 | refine W.seq ?_
 | refine W.block ?_
 | (refine W.resub (x := Code.region 2 _ _) (Γ' := ⟨[(1, .lit (.bool pet)), (2, (.lit (.int .i64 (n : Int)))), (7, .st true (.arr (.int .i64) (xs : List Int)))], []⟩) ?_ (W.regionM tys_ok [] [2] ?_); rotate_left; (conv => whnf))
 | (refine W.regionM (id := 3) tys_ok [] [1] ?_; conv => whnf)
 | (refine W.regionM (id := 7) tys_ok [] [10,11] ?_; conv => whnf)
 | (refine W.region tys_ok [] ?_; conv => whnf)
 | (refine W.drawAll tys_ok [] mixed rfl ?_; conv => whnf)
 | (refine W.ret ?_; conv => whnf)
 | (refine W.skip ?_; conv => whnf)
 | (refine W.exit ?_; conv => whnf)
 | (refine callM_at (c1) ?_; conv => whnf)
 | (refine call_at (al := false) (c3) rfl rfl rfl rfl ?_; conv => whnf)
 | (refine callM_at (c4) ?_; conv => whnf)
 | (refine callM_at (c5) ?_; conv => whnf)
 | (refine callM_at (c2) ?_; conv => whnf)
 | (refine call_at (al := false) (c8) rfl rfl rfl rfl ?_; conv => whnf)
 | (refine W.cond rfl (fun hb => ?_) (fun hb => ?_) <;> (try simp only [Int.reduceToNat, Int.reduceTDiv, Int.reduceTMod, minL, maxL, pickB, zHB, zSH] at hb) <;> (try (first | (cases hb; done) | exact absurd hb (by decide) | (exfalso; omega) | (omega) | ((simp [pickB] at hb; omega)))))
 | (refine Or.inl (And.intro ?_ ?_); (focus (first | exact trivial | exact ⟨rfl, trivial⟩ | (refine ⟨?_, trivial⟩; dsimp only; simp only [Int.reduceToNat, Int.reduceTDiv, Int.reduceTMod, minL, maxL, pickB, zHB, zSH]; omega) | (refine ⟨?_, trivial⟩; dsimp only; (try simp only [Int.reduceToNat, Int.reduceTDiv, Int.reduceTMod, minL, maxL, pickB, zHB, zSH]); (simp_all; done)) | (refine ⟨?_, trivial⟩; dsimp only; (simp only [Int.reduceToNat, Int.reduceTDiv, Int.reduceTMod, minL, maxL, pickB, zHB, zSH]; done)) | (refine ⟨?_, trivial⟩; dsimp only; (simp; done)))); (conv => whnf))
 | (refine Or.inr (And.intro ?_ ?_); (focus (intro h; have h := h.1; dsimp only at h; first | (exact Bool.noConfusion h) | (simp only [Int.reduceToNat, Int.reduceTDiv, Int.reduceTMod, minL, maxL, pickB, zHB, zSH] at h; omega) | ((try simp only [Int.reduceToNat, Int.reduceTDiv, Int.reduceTMod, minL, maxL, pickB, zHB, zSH] at h); (simp_all; done)))); (conv => whnf))
 | ((with_reducible refine And.intro ?_ ?_); (focus (first | (with_reducible rfl) | omega | rfl | ((try simp only [Int.reduceToNat, Int.reduceTDiv, Int.reduceTMod, minL, maxL, pickB, zHB, zSH, InK, Path.imp, zL] at *); omega))); (conv => whnf))
 | ((with_reducible refine And.intro (Side.out ?_) ?_); rotate_left; (conv => whnf))
 | ((first | refine retF1 ?_ | refine retF2 ?_) <;> (conv => whnf) <;> repeat' (first
 | exact trivial
 | (with_reducible rfl)
 | ((with_reducible refine And.intro ?_ ?_) <;> conv => whnf)
 | omega
 | rfl
 | (refine congrArg (SV.arr _) ?_)
 | (refine congrArg (Value.int _) ?_)
 | (refine congrArg Value.bool ?_)))); all_goals (try unfold Side)
  all_goals try (repeat' (first | (with_reducible rfl) | (with_reducible refine And.intro ?_ ?_) | omega | rfl | exact Or.inl rfl | exact Or.inr rfl | exact of_decide_eq_true rfl | exact Path.imp_of (of_decide_eq_true rfl) | (focus ((try simp only [Int.reduceToNat, Int.reduceTDiv, Int.reduceTMod, minL, maxL, pickB, zHB, zSH, InK, Path.imp, zL] at *); omega)) | (refine app_le rfl ?_; omega)))
  all_goals try refine subF.ok ?_ <;> (conv => whnf) <;> repeat' (first
 | exact trivial
 | (with_reducible rfl)
 | ((with_reducible refine And.intro ?_ ?_) <;> conv => whnf)
 | omega
 | rfl
 | (refine congrArg (SV.arr _) ?_)
 | (refine congrArg (Value.int _) ?_)
 | (refine congrArg Value.bool ?_))
  all_goals first | exact ex | exact ex' | exact exl | exact exl' | exact Path.imp_of em' | exact congrArg _ ex | exact congrArg _ ex' | skip
set_option maxHeartbeats 16000000 in
theorem RingNews_ng {x : List Int} {pet : Bool} (n : Nat) {xs : List Int} (hx : xs = x.take 11) (hg : ¬ ((1 ≤ xs.length ∧ xs.length ≤ 10) ∧ ∀ i, i < xs.length → goodAt xs i)) (n1 : 1 ≤ n) (n2 : n ≤ 10) : FnAt Try.prog false 10 [.arr (.int .i64) x, .lit (.bool pet), I64 (n : Int)] (.lit (.bool true)) [] := by
  have hl : @List.length (Ty.int .i64).T x = x.length := rfl
  have hxl : xs.length ≤ 11 := by rw [hx, List.length_take]; omega
  have em : (minL (x.length : Int) [(11 : Int)]).toNat = min x.length 11 := by simp only [minL]; omega
  have em' : 0 ≤ minL (x.length : Int) [(11 : Int)] ∧ minL (x.length : Int) [(11 : Int)] ≤ x.length := by simp only [minL]; omega
  have ex : List.drop 0 (List.take (minL (x.length : Int) [(11 : Int)]).toNat x) = xs := by
    rw [em, List.drop_zero, hx, Nat.min_comm, ← List.take_take, List.take_length]
  have ex' : ([] : List Int) ++ List.drop 0 (List.take (minL (x.length : Int) [(11 : Int)]).toNat x) = xs := ex
  have exl : 0 + (List.drop 0 (List.take (minL (x.length : Int) [(11 : Int)]).toNat x)).length ≤ 4294967296 := by rw [ex]; omega
  have exl' : ([] : List Int).length + (List.drop 0 (List.take (minL (x.length : Int) [(11 : Int)]).toNat x)).length ≤ 4294967296 := by rw [ex]; simp; omega
  have c8 := lives_at
  have c1 : FnM Try.prog 27 [.st false (.arr (.int .i64) xs), .lit (.bool pet)] [] (.tup [.lit (.pointer none), (.lit (.int .i64 (1 : Int)))]) [] := by
    by_cases h : 1 ≤ xs.length ∧ xs.length ≤ 10
    · exact new_bad h.1 h.2 fun h' => hg ⟨h, h'⟩
    · exact new_len (by omega)
  have c3 := valid_at (xs := xs) (b := false) (by omega) ⟨fun h => Bool.noConfusion h, fun h => absurd h hg⟩
  have c2 := begin_at n1 n2
  have c6 := rbegin_at n1 n2
  have w0 := WOk.beg (n := n) (by omega) n2
  have w1 := w0.len
  have w2 := w0.fl
  have c7 := works_at (hs := (begL n).1) (fl := (begL n).2) (by omega) (by omega) (by omega)
  refine FnAt.of_body tys_ok Try.func10 (by rfl) rfl Try.ntmps10 (by rw [Try.results10]) (by simp) ?_
  
  repeat' (first
 | refine W.seq ?_
 | refine W.block ?_
 | (refine W.resub (x := Code.region 2 _ _) (Γ' := ⟨[(1, .lit (.bool pet)), (2, (.lit (.int .i64 (n : Int)))), (7, .st true (.arr (.int .i64) (xs : List Int)))], []⟩) ?_ (W.regionM tys_ok [] [2] ?_); rotate_left; (conv => whnf))
 | (refine W.regionM (id := 3) tys_ok [] [1] ?_; conv => whnf)
 | (refine W.regionM (id := 11) tys_ok [] [9,10] ?_; conv => whnf)
 | (refine W.region tys_ok [] ?_; conv => whnf)
 | (refine W.drawAll tys_ok [] mixed rfl ?_; conv => whnf)
 | (refine W.ret ?_; conv => whnf)
 | (refine W.skip ?_; conv => whnf)
 | (refine W.exit ?_; conv => whnf)
 | (refine callM_at (c1) ?_; conv => whnf)
 | (refine call_at (al := false) (c3) rfl rfl rfl rfl ?_; conv => whnf)
 | (refine callM_at (c2) ?_; conv => whnf)
 | (refine callM_at (c6) ?_; conv => whnf)
 | (refine callM_at (c7) ?_; conv => whnf)
 | (refine call_at (al := false) (c8) rfl rfl rfl rfl ?_; conv => whnf)
 | (refine W.cond rfl (fun hb => ?_) (fun hb => ?_) <;> (try simp only [Int.reduceToNat, Int.reduceTDiv, Int.reduceTMod, minL, maxL, pickB, zHB, zSH] at hb) <;> (try (first | (cases hb; done) | exact absurd hb (by decide) | (exfalso; omega) | (omega) | ((simp [pickB] at hb; omega)))))
 | (refine Or.inl (And.intro ?_ ?_); (focus (first | exact trivial | exact ⟨rfl, trivial⟩ | (refine ⟨?_, trivial⟩; dsimp only; simp only [Int.reduceToNat, Int.reduceTDiv, Int.reduceTMod, minL, maxL, pickB, zHB, zSH]; omega) | (refine ⟨?_, trivial⟩; dsimp only; (try simp only [Int.reduceToNat, Int.reduceTDiv, Int.reduceTMod, minL, maxL, pickB, zHB, zSH]); (simp_all; done)) | (refine ⟨?_, trivial⟩; dsimp only; (simp only [Int.reduceToNat, Int.reduceTDiv, Int.reduceTMod, minL, maxL, pickB, zHB, zSH]; done)) | (refine ⟨?_, trivial⟩; dsimp only; (simp; done)))); (conv => whnf))
 | (refine Or.inr (And.intro ?_ ?_); (focus (intro h; have h := h.1; dsimp only at h; first | (exact Bool.noConfusion h) | (simp only [Int.reduceToNat, Int.reduceTDiv, Int.reduceTMod, minL, maxL, pickB, zHB, zSH] at h; omega) | ((try simp only [Int.reduceToNat, Int.reduceTDiv, Int.reduceTMod, minL, maxL, pickB, zHB, zSH] at h); (simp_all; done)))); (conv => whnf))
 | ((with_reducible refine And.intro ?_ ?_); (focus (first | (with_reducible rfl) | omega | rfl | ((try simp only [Int.reduceToNat, Int.reduceTDiv, Int.reduceTMod, minL, maxL, pickB, zHB, zSH, InK, Path.imp, zL] at *); omega))); (conv => whnf))
 | ((with_reducible refine And.intro (Side.out ?_) ?_); rotate_left; (conv => whnf))
 | ((first | refine retF1 ?_ | refine retF2 ?_) <;> (conv => whnf) <;> repeat' (first
 | exact trivial
 | (with_reducible rfl)
 | ((with_reducible refine And.intro ?_ ?_) <;> conv => whnf)
 | omega
 | rfl
 | (refine congrArg (SV.arr _) ?_)
 | (refine congrArg (Value.int _) ?_)
 | (refine congrArg Value.bool ?_)))); all_goals (try unfold Side)
  all_goals try (repeat' (first | (with_reducible rfl) | (with_reducible refine And.intro ?_ ?_) | omega | rfl | exact Or.inl rfl | exact Or.inr rfl | exact of_decide_eq_true rfl | exact Path.imp_of (of_decide_eq_true rfl) | (focus ((try simp only [Int.reduceToNat, Int.reduceTDiv, Int.reduceTMod, minL, maxL, pickB, zHB, zSH, InK, Path.imp, zL] at *); omega)) | (refine app_le rfl ?_; omega)))
  all_goals try refine subF.ok ?_ <;> (conv => whnf) <;> repeat' (first
 | exact trivial
 | (with_reducible rfl)
 | ((with_reducible refine And.intro ?_ ?_) <;> conv => whnf)
 | omega
 | rfl
 | (refine congrArg (SV.arr _) ?_)
 | (refine congrArg (Value.int _) ?_)
 | (refine congrArg Value.bool ?_))
  all_goals first | exact ex | exact ex' | exact exl | exact exl' | exact Path.imp_of em' | exact congrArg _ ex | exact congrArg _ ex' | skip
set_option maxHeartbeats 16000000 in
theorem RingNews_nb {x : List Int} {pet : Bool} (n : Int) {xs : List Int} (hx : xs = x.take 11) (hg : ¬ ((1 ≤ xs.length ∧ xs.length ≤ 10) ∧ ∀ i, i < xs.length → goodAt xs i)) (hn : n < 1 ∨ 10 < n) : FnAt Try.prog false 10 [.arr (.int .i64) x, .lit (.bool pet), I64 n] (.lit (.bool true)) [] := by
  have hl : @List.length (Ty.int .i64).T x = x.length := rfl
  have hxl : xs.length ≤ 11 := by rw [hx, List.length_take]; omega
  have em : (minL (x.length : Int) [(11 : Int)]).toNat = min x.length 11 := by simp only [minL]; omega
  have em' : 0 ≤ minL (x.length : Int) [(11 : Int)] ∧ minL (x.length : Int) [(11 : Int)] ≤ x.length := by simp only [minL]; omega
  have ex : List.drop 0 (List.take (minL (x.length : Int) [(11 : Int)]).toNat x) = xs := by
    rw [em, List.drop_zero, hx, Nat.min_comm, ← List.take_take, List.take_length]
  have ex' : ([] : List Int) ++ List.drop 0 (List.take (minL (x.length : Int) [(11 : Int)]).toNat x) = xs := ex
  have exl : 0 + (List.drop 0 (List.take (minL (x.length : Int) [(11 : Int)]).toNat x)).length ≤ 4294967296 := by rw [ex]; omega
  have exl' : ([] : List Int).length + (List.drop 0 (List.take (minL (x.length : Int) [(11 : Int)]).toNat x)).length ≤ 4294967296 := by rw [ex]; simp; omega
  have c8 := lives_at
  have c1 : FnM Try.prog 27 [.st false (.arr (.int .i64) xs), .lit (.bool pet)] [] (.tup [.lit (.pointer none), (.lit (.int .i64 (1 : Int)))]) [] := by
    by_cases h : 1 ≤ xs.length ∧ xs.length ≤ 10
    · exact new_bad h.1 h.2 fun h' => hg ⟨h, h'⟩
    · exact new_len (by omega)
  have c3 := valid_at (xs := xs) (b := false) (by omega) ⟨fun h => Bool.noConfusion h, fun h => absurd h hg⟩
  have c2 := begin_bad hn
  refine FnAt.of_body tys_ok Try.func10 (by rfl) rfl Try.ntmps10 (by rw [Try.results10]) (by simp) ?_
  
  repeat' (first
 | refine W.seq ?_
 | refine W.block ?_
 | (refine W.resub (x := Code.region 2 _ _) (Γ' := ⟨[(1, .lit (.bool pet)), (2, (.lit (.int .i64 (n : Int)))), (7, .st true (.arr (.int .i64) (xs : List Int)))], []⟩) ?_ (W.regionM tys_ok [] [2] ?_); rotate_left; (conv => whnf))
 | (refine W.regionM (id := 3) tys_ok [] [1] ?_; conv => whnf)
 | (refine W.region tys_ok [] ?_; conv => whnf)
 | (refine W.drawAll tys_ok [] mixed rfl ?_; conv => whnf)
 | (refine W.ret ?_; conv => whnf)
 | (refine W.skip ?_; conv => whnf)
 | (refine W.exit ?_; conv => whnf)
 | (refine callM_at (c1) ?_; conv => whnf)
 | (refine call_at (al := false) (c3) rfl rfl rfl rfl ?_; conv => whnf)
 | (refine callM_at (c2) ?_; conv => whnf)
 | (refine call_at (al := false) (c8) rfl rfl rfl rfl ?_; conv => whnf)
 | (refine W.cond rfl (fun hb => ?_) (fun hb => ?_) <;> (try simp only [Int.reduceToNat, Int.reduceTDiv, Int.reduceTMod, minL, maxL, pickB, zHB, zSH] at hb) <;> (try (first | (cases hb; done) | exact absurd hb (by decide) | (exfalso; omega) | (omega) | ((simp [pickB] at hb; omega)))))
 | (refine Or.inl (And.intro ?_ ?_); (focus (first | exact trivial | exact ⟨rfl, trivial⟩ | (refine ⟨?_, trivial⟩; dsimp only; simp only [Int.reduceToNat, Int.reduceTDiv, Int.reduceTMod, minL, maxL, pickB, zHB, zSH]; omega) | (refine ⟨?_, trivial⟩; dsimp only; (try simp only [Int.reduceToNat, Int.reduceTDiv, Int.reduceTMod, minL, maxL, pickB, zHB, zSH]); (simp_all; done)) | (refine ⟨?_, trivial⟩; dsimp only; (simp only [Int.reduceToNat, Int.reduceTDiv, Int.reduceTMod, minL, maxL, pickB, zHB, zSH]; done)) | (refine ⟨?_, trivial⟩; dsimp only; (simp; done)))); (conv => whnf))
 | (refine Or.inr (And.intro ?_ ?_); (focus (intro h; have h := h.1; dsimp only at h; first | (exact Bool.noConfusion h) | (simp only [Int.reduceToNat, Int.reduceTDiv, Int.reduceTMod, minL, maxL, pickB, zHB, zSH] at h; omega) | ((try simp only [Int.reduceToNat, Int.reduceTDiv, Int.reduceTMod, minL, maxL, pickB, zHB, zSH] at h); (simp_all; done)))); (conv => whnf))
 | ((with_reducible refine And.intro ?_ ?_); (focus (first | (with_reducible rfl) | omega | rfl | ((try simp only [Int.reduceToNat, Int.reduceTDiv, Int.reduceTMod, minL, maxL, pickB, zHB, zSH, InK, Path.imp, zL] at *); omega))); (conv => whnf))
 | ((with_reducible refine And.intro (Side.out ?_) ?_); rotate_left; (conv => whnf))
 | ((first | refine retF1 ?_ | refine retF2 ?_) <;> (conv => whnf) <;> repeat' (first
 | exact trivial
 | (with_reducible rfl)
 | ((with_reducible refine And.intro ?_ ?_) <;> conv => whnf)
 | omega
 | rfl
 | (refine congrArg (SV.arr _) ?_)
 | (refine congrArg (Value.int _) ?_)
 | (refine congrArg Value.bool ?_)))); all_goals (try unfold Side)
  all_goals try (repeat' (first | (with_reducible rfl) | (with_reducible refine And.intro ?_ ?_) | omega | rfl | exact Or.inl rfl | exact Or.inr rfl | exact of_decide_eq_true rfl | exact Path.imp_of (of_decide_eq_true rfl) | (focus ((try simp only [Int.reduceToNat, Int.reduceTDiv, Int.reduceTMod, minL, maxL, pickB, zHB, zSH, InK, Path.imp, zL] at *); omega)) | (refine app_le rfl ?_; omega)))
  all_goals try refine subF.ok ?_ <;> (conv => whnf) <;> repeat' (first
 | exact trivial
 | (with_reducible rfl)
 | ((with_reducible refine And.intro ?_ ?_) <;> conv => whnf)
 | omega
 | rfl
 | (refine congrArg (SV.arr _) ?_)
 | (refine congrArg (Value.int _) ?_)
 | (refine congrArg Value.bool ?_))
  all_goals first | exact ex | exact ex' | exact exl | exact exl' | exact Path.imp_of em' | exact congrArg _ ex | exact congrArg _ ex' | skip
theorem RingNews_at (x : List Int) (pet : Bool) (n : Int) : FnAt Try.prog false 10 [.arr (.int .i64) x, .lit (.bool pet), I64 n] (.lit (.bool true)) [] := by
  obtain ⟨xs, hx⟩ : ∃ xs, xs = x.take 11 := ⟨_, rfl⟩
  by_cases hg : (1 ≤ xs.length ∧ xs.length ≤ 10) ∧ ∀ i, i < xs.length → goodAt xs i
  · by_cases hn : n < 1 ∨ 10 < n
    · exact RingNews_yb n hx hg.1.1 hg.1.2 hg.2 hn
    · obtain ⟨k, rfl⟩ : ∃ k : Nat, n = k := ⟨n.toNat, by omega⟩
      exact RingNews_yg k hx hg.1.1 hg.1.2 hg.2 (by omega) (by omega)
  · by_cases hn : n < 1 ∨ 10 < n
    · exact RingNews_nb n hx hg hn
    · obtain ⟨k, rfl⟩ : ∃ k : Nat, n = k := ⟨n.toNat, by omega⟩
      exact RingNews_ng k hx hg (by omega) (by omega)
end Go.Proofs.Ytkjcnegkdlmapaa
