/- Joined of: K16 K17 Vc35 Ww2 K20. No condition. -/
import Derived.Test.YtkjcnegkdlmapaaJ10
import Derived.Test.YtkjcnegkdlmapaaJ7
import Derived.Test.YtkjcnegkdlmapaaJ5

namespace Go.Proofs.Ytkjcnegkdlmapaa
open Go Go.Vc Go.Rg
set_option linter.unusedVariables false
set_option linter.unusedSimpArgs false
abbrev U3 : Ty := .cons (.int .u8) (.cons (.int .u8) (.cons (.int .u8) .nil))
abbrev Tr3 := Int × Int × Int × Unit
@[reducible] def R0 : Tr3 := (0, 0, 0, ())
def sm3 (y : List Tr3) : Prop := ∀ i, (0 ≤ (y.getD i R0).1 ∧ (y.getD i R0).1 ≤ 255) ∧ (0 ≤ (y.getD i R0).2.1 ∧ (y.getD i R0).2.1 ≤ 255) ∧ 0 ≤ (y.getD i R0).2.2.1 ∧ (y.getD i R0).2.2.1 ≤ 255
theorem over_at {hs : List Hd} {fl : List Lt} (h0 : 0 < hs.length) (hn : hs.length ≤ 1000) (hfl : fl.length ≤ 1000) (hq : ∀ i, i < hs.length → gw hs i = false ∧ gp hs i = -1 ∧ go hs i = 0) (hf : ∀ k, k < fl.length → (fl.getD k L0).2.2.1 = true) :
    FnM Try.prog 23 [.padr 1000000000 0, (.lit (.int .i64 (hs.length : Int)))] [(1000000000, .box [.own 1000000001, .own 1000000002]), (1000000001, .row 96 HT true (hs)), (1000000002, .row 50 LT true (fl))] (.lit (.bool true)) [(1000000000, .box [.own 1000000001, .own 1000000002]), (1000000001, .row 96 HT true (hs)), (1000000002, .row 50 LT true (fl))] := by
  have hl : @List.length HT.T hs = hs.length := rfl
  have hlf : @List.length LT.T fl = fl.length := rfl
  have c1 := flight_at (fl := fl) h0 hfl
  refine FnM.of_body tys_ok Try.func23 (by rfl) rfl Try.ntmps23 (by rw [Try.results23]) (by simp) ?_
  
  repeat' (first
 | refine W.seq ?_
 | refine W.block ?_
 | (refine W.region tys_ok [] ?_; conv => whnf)
 | (refine W.drawAll tys_ok [] mixed rfl ?_; conv => whnf)
 | (refine W.ret ?_; conv => whnf)
 | (refine W.skip ?_; conv => whnf)
 | (refine W.exit ?_; conv => whnf)
 | (refine W.cond rfl (fun hb => ?_) (fun hb => ?_) <;> (try simp only [Int.reduceToNat, Int.reduceTDiv, Int.reduceTMod, minL, maxL, pickB, zHB, zSH] at hb) <;> (try (first | (cases hb; done) | exact absurd hb (by decide) | (exfalso; omega) | (omega))))
 | ((with_reducible refine And.intro ?_ ?_); (focus (first | (with_reducible rfl) | omega | rfl | ((try simp only [Int.reduceToNat, Int.reduceTDiv, Int.reduceTMod, minL, maxL, pickB, zHB, zSH, InK, Path.imp, zL] at *); omega))); (conv => whnf))
 | ((with_reducible refine And.intro (Side.out ?_) ?_); rotate_left; (conv => whnf))
 | ((first | refine retM1 ?_ | refine retM2 ?_) <;> (conv => whnf) <;> repeat' (first
 | exact trivial
 | (with_reducible rfl)
 | ((with_reducible refine And.intro ?_ ?_) <;> conv => whnf)
 | omega
 | rfl
 | (refine congrArg (SV.arr _) ?_)
 | (refine congrArg (Value.int _) ?_)
 | (refine congrArg Value.bool ?_)))); all_goals (try unfold Side)
  all_goals try (repeat' (first | (with_reducible rfl) | (with_reducible refine And.intro ?_ ?_) | omega | rfl | exact Or.inl rfl | exact Or.inr rfl | exact of_decide_eq_true rfl | exact Path.imp_of (of_decide_eq_true rfl) | (focus ((try simp only [Int.reduceToNat, Int.reduceTDiv, Int.reduceTMod, minL, maxL, pickB, zHB, zSH, InK, Path.imp, zL] at *); omega)) | (refine app_le rfl ?_; omega)))
  refine W.loop (fun i : Nat => ⟨[(0, .padr 1000000000 0), (1, (.lit (.int .i64 (hs.length : Int)))), (5, (.lit (.int .i64 (i : Int))))], [(1000000000, .box [.own 1000000001, .own 1000000002]), (1000000001, .row 96 HT true (hs)), (1000000002, .row 50 LT true (fl))]⟩) (fun i => i ≤ hs.length) (fun i => hs.length - i) (0) ?_ ?_
  · refine ⟨Nat.zero_le _, ?_⟩
    refine subF.ok ?_ <;> (conv => whnf) <;> repeat' (first
 | exact trivial
 | (with_reducible rfl)
 | ((with_reducible refine And.intro ?_ ?_) <;> conv => whnf)
 | omega
 | rfl
 | (refine congrArg (SV.arr _) ?_)
 | (refine congrArg (Value.int _) ?_)
 | (refine congrArg Value.bool ?_))
  · intro i hi
    by_cases hil : i < hs.length
    · obtain ⟨q1, q2, q3⟩ := hq i hil
      have g1 := working_in (hs := hs) (fl := fl) (i := i) hil
      have g2 := parent_in (hs := hs) (fl := fl) (i := i) hil
      have g3 := owed_in (hs := hs) (fl := fl) (i := i) hil
      rw [q1] at g1
      rw [q2] at g2
      rw [q3] at g3
      repeat' (first
 | refine W.seq ?_
 | refine W.block ?_
 | (refine W.regionM (id := 4) tys_ok [] [2,6,12] ?_; conv => whnf)
 | (refine W.region tys_ok [] ?_; conv => whnf)
 | (refine W.drawAll tys_ok [] mixed rfl ?_; conv => whnf)
 | (refine W.ret ?_; conv => whnf)
 | (refine W.skip ?_; conv => whnf)
 | (refine W.exit ?_; conv => whnf)
 | (refine callM_at (g1) ?_; conv => whnf)
 | (refine callM_at (g2) ?_; conv => whnf)
 | (refine callM_at (g3) ?_; conv => whnf)
 | (refine W.cond rfl (fun hb => ?_) (fun hb => ?_) <;> (try simp only [Int.reduceToNat, Int.reduceTDiv, Int.reduceTMod, minL, maxL, pickB, zHB, zSH] at hb) <;> (try (first | (cases hb; done) | exact absurd hb (by decide) | (exfalso; omega) | (omega) | ((simp [pickB] at hb; done)))))
 | (refine Or.inl (And.intro ?_ ?_); (focus (first | exact trivial | exact ⟨rfl, trivial⟩ | (refine ⟨?_, trivial⟩; dsimp only; simp only [Int.reduceToNat, Int.reduceTDiv, Int.reduceTMod, minL, maxL, pickB, zHB, zSH]; omega) | (refine ⟨?_, trivial⟩; dsimp only; (try simp only [Int.reduceToNat, Int.reduceTDiv, Int.reduceTMod, minL, maxL, pickB, zHB, zSH]); (simp_all; done)) | (refine ⟨?_, trivial⟩; dsimp only; (simp only [Int.reduceToNat, Int.reduceTDiv, Int.reduceTMod, minL, maxL, pickB, zHB, zSH]; done)) | (refine ⟨?_, trivial⟩; dsimp only; (simp; done)))); (conv => whnf))
 | (refine Or.inr (And.intro ?_ ?_); (focus (intro h; have h := h.1; dsimp only at h; first | (exact Bool.noConfusion h) | (simp only [Int.reduceToNat, Int.reduceTDiv, Int.reduceTMod, minL, maxL, pickB, zHB, zSH] at h; omega) | ((try simp only [Int.reduceToNat, Int.reduceTDiv, Int.reduceTMod, minL, maxL, pickB, zHB, zSH] at h); (simp_all; done)))); (conv => whnf))
 | ((with_reducible refine And.intro ?_ ?_); (focus (first | (with_reducible rfl) | omega | rfl | ((try simp only [Int.reduceToNat, Int.reduceTDiv, Int.reduceTMod, minL, maxL, pickB, zHB, zSH, InK, Path.imp, zL] at *); omega))); (conv => whnf))
 | ((with_reducible refine And.intro (Side.out ?_) ?_); rotate_left; (conv => whnf))
 | ((first | refine retM1 ?_ | refine retM2 ?_) <;> (conv => whnf) <;> repeat' (first
 | exact trivial
 | (with_reducible rfl)
 | ((with_reducible refine And.intro ?_ ?_) <;> conv => whnf)
 | omega
 | rfl
 | (refine congrArg (SV.arr _) ?_)
 | (refine congrArg (Value.int _) ?_)
 | (refine congrArg Value.bool ?_)))); all_goals (try unfold Side)
      all_goals try (repeat' (first | (with_reducible rfl) | (with_reducible refine And.intro ?_ ?_) | omega | rfl | exact Or.inl rfl | exact Or.inr rfl | exact of_decide_eq_true rfl | exact Path.imp_of (of_decide_eq_true rfl) | (focus ((try simp only [Int.reduceToNat, Int.reduceTDiv, Int.reduceTMod, minL, maxL, pickB, zHB, zSH, InK, Path.imp, zL] at *); omega)) | (refine app_le rfl ?_; omega)))
      refine ⟨i + 1, ⟨by omega, by omega⟩, ?_⟩
      refine subF.ok ?_ <;> (conv => whnf) <;> repeat' (first
 | exact trivial
 | (with_reducible rfl)
 | ((with_reducible refine And.intro ?_ ?_) <;> conv => whnf)
 | omega
 | rfl
 | (refine congrArg (SV.arr _) ?_)
 | (refine congrArg (Value.int _) ?_)
 | (refine congrArg Value.bool ?_))
    · repeat' (first
 | refine W.seq ?_
 | refine W.block ?_
 | (refine W.regionM (id := 6) tys_ok [] [1] ?_; conv => whnf)
 | (refine W.region tys_ok [] ?_; conv => whnf)
 | (refine W.drawAll tys_ok [] mixed rfl ?_; conv => whnf)
 | (refine W.ret ?_; conv => whnf)
 | (refine W.skip ?_; conv => whnf)
 | (refine W.exit ?_; conv => whnf)
 | (refine callM_at (c1) ?_; conv => whnf)
 | (refine W.cond rfl (fun hb => ?_) (fun hb => ?_) <;> (try simp only [Int.reduceToNat, Int.reduceTDiv, Int.reduceTMod, minL, maxL, pickB, zHB, zSH] at hb) <;> (try (first | (cases hb; done) | exact absurd hb (by decide) | (exfalso; omega) | (omega))))
 | (refine Or.inl (And.intro ?_ ?_); (focus (first | exact trivial | exact ⟨rfl, trivial⟩ | (refine ⟨?_, trivial⟩; dsimp only; simp only [Int.reduceToNat, Int.reduceTDiv, Int.reduceTMod, minL, maxL, pickB, zHB, zSH]; omega) | (refine ⟨?_, trivial⟩; dsimp only; (try simp only [Int.reduceToNat, Int.reduceTDiv, Int.reduceTMod, minL, maxL, pickB, zHB, zSH]); (simp_all; done)) | (refine ⟨?_, trivial⟩; dsimp only; (simp only [Int.reduceToNat, Int.reduceTDiv, Int.reduceTMod, minL, maxL, pickB, zHB, zSH]; done)) | (refine ⟨?_, trivial⟩; dsimp only; (simp; done)))); (conv => whnf))
 | (refine Or.inr (And.intro ?_ ?_); (focus (intro h; have h := h.1; dsimp only at h; first | (exact Bool.noConfusion h) | (simp only [Int.reduceToNat, Int.reduceTDiv, Int.reduceTMod, minL, maxL, pickB, zHB, zSH] at h; omega) | ((try simp only [Int.reduceToNat, Int.reduceTDiv, Int.reduceTMod, minL, maxL, pickB, zHB, zSH] at h); (simp_all; done)))); (conv => whnf))
 | ((with_reducible refine And.intro ?_ ?_); (focus (first | (with_reducible rfl) | omega | rfl | ((try simp only [Int.reduceToNat, Int.reduceTDiv, Int.reduceTMod, minL, maxL, pickB, zHB, zSH, InK, Path.imp, zL] at *); omega))); (conv => whnf))
 | ((with_reducible refine And.intro (Side.out ?_) ?_); rotate_left; (conv => whnf))
 | ((first | refine retM1 ?_ | refine retM2 ?_) <;> (conv => whnf) <;> repeat' (first
 | exact trivial
 | (with_reducible rfl)
 | ((with_reducible refine And.intro ?_ ?_) <;> conv => whnf)
 | omega
 | rfl
 | (refine congrArg (SV.arr _) ?_)
 | (refine congrArg (Value.int _) ?_)
 | (refine congrArg Value.bool ?_)))); all_goals (try unfold Side)
      all_goals try (repeat' (first | (with_reducible rfl) | (with_reducible refine And.intro ?_ ?_) | omega | rfl | exact Or.inl rfl | exact Or.inr rfl | exact of_decide_eq_true rfl | exact Path.imp_of (of_decide_eq_true rfl) | (focus ((try simp only [Int.reduceToNat, Int.reduceTDiv, Int.reduceTMod, minL, maxL, pickB, zHB, zSH, InK, Path.imp, zL] at *); omega)) | (refine app_le rfl ?_; omega)))
      refine W.loop (fun i : Nat => ⟨[(0, .padr 1000000000 0), (6, .own 9000), (7, (.lit (.int .i64 (i : Int))))], [(1000000000, .box [.own 1000000001, .own 1000000002]), (1000000001, .row 96 HT true (hs)), (1000000002, .row 50 LT true (fl)), (9000, .row 50 LT true fl)]⟩) (fun i => i ≤ fl.length) (fun i => fl.length - i) (0) ?_ ?_
      · refine ⟨Nat.zero_le _, ?_⟩
        refine subF.ok ?_ <;> (conv => whnf) <;> repeat' (first
 | exact trivial
 | (with_reducible rfl)
 | ((with_reducible refine And.intro ?_ ?_) <;> conv => whnf)
 | omega
 | rfl
 | (refine congrArg (SV.arr _) ?_)
 | (refine congrArg (Value.int _) ?_)
 | (refine congrArg Value.bool ?_))
      · intro i hi2
        by_cases hi3 : i < fl.length
        · have q := hf i hi3
          repeat' (first
 | refine W.seq ?_
 | refine W.block ?_
 | (refine W.region tys_ok [] ?_; conv => whnf)
 | (refine W.drawAll tys_ok [] mixed rfl ?_; conv => whnf)
 | (refine W.ret ?_; conv => whnf)
 | (refine W.skip ?_; conv => whnf)
 | (refine W.exit ?_; conv => whnf)
 | (refine W.cond rfl (fun hb => ?_) (fun hb => ?_) <;> (try simp only [Int.reduceToNat, Int.reduceTDiv, Int.reduceTMod, minL, maxL, pickB, zHB, zSH] at hb) <;> (try (first | (cases hb; done) | exact absurd hb (by decide) | (exfalso; omega) | (omega) | ((simp_all; done)))))
 | ((with_reducible refine And.intro ?_ ?_); (focus (first | (with_reducible rfl) | omega | rfl | ((try simp only [Int.reduceToNat, Int.reduceTDiv, Int.reduceTMod, minL, maxL, pickB, zHB, zSH, InK, Path.imp, zL] at *); omega))); (conv => whnf))
 | ((with_reducible refine And.intro (Side.out ?_) ?_); rotate_left; (conv => whnf))
 | ((first | refine retM1 ?_ | refine retM2 ?_) <;> (conv => whnf) <;> repeat' (first
 | exact trivial
 | (with_reducible rfl)
 | ((with_reducible refine And.intro ?_ ?_) <;> conv => whnf)
 | omega
 | rfl
 | (refine congrArg (SV.arr _) ?_)
 | (refine congrArg (Value.int _) ?_)
 | (refine congrArg Value.bool ?_)))); all_goals (try unfold Side)
          all_goals try (repeat' (first | (with_reducible rfl) | (with_reducible refine And.intro ?_ ?_) | omega | rfl | exact Or.inl rfl | exact Or.inr rfl | exact of_decide_eq_true rfl | exact Path.imp_of (of_decide_eq_true rfl) | (focus ((try simp only [Int.reduceToNat, Int.reduceTDiv, Int.reduceTMod, minL, maxL, pickB, zHB, zSH, InK, Path.imp, zL] at *); omega)) | (refine app_le rfl ?_; omega)))
          refine ⟨i + 1, ⟨by omega, by omega⟩, ?_⟩
          refine subF.ok ?_ <;> (conv => whnf) <;> repeat' (first
 | exact trivial
 | (with_reducible rfl)
 | ((with_reducible refine And.intro ?_ ?_) <;> conv => whnf)
 | omega
 | rfl
 | (refine congrArg (SV.arr _) ?_)
 | (refine congrArg (Value.int _) ?_)
 | (refine congrArg Value.bool ?_))
        · repeat' (first
 | refine W.seq ?_
 | refine W.block ?_
 | (refine W.region tys_ok [] ?_; conv => whnf)
 | (refine W.drawAll tys_ok [] mixed rfl ?_; conv => whnf)
 | (refine W.ret ?_; conv => whnf)
 | (refine W.skip ?_; conv => whnf)
 | (refine W.exit ?_; conv => whnf)
 | (refine W.cond rfl (fun hb => ?_) (fun hb => ?_) <;> (try simp only [Int.reduceToNat, Int.reduceTDiv, Int.reduceTMod, minL, maxL, pickB, zHB, zSH] at hb) <;> (try (first | (cases hb; done) | exact absurd hb (by decide) | (exfalso; omega) | (omega))))
 | ((with_reducible refine And.intro ?_ ?_); (focus (first | (with_reducible rfl) | omega | rfl | ((try simp only [Int.reduceToNat, Int.reduceTDiv, Int.reduceTMod, minL, maxL, pickB, zHB, zSH, InK, Path.imp, zL] at *); omega))); (conv => whnf))
 | ((with_reducible refine And.intro (Side.out ?_) ?_); rotate_left; (conv => whnf))
 | ((first | refine retM1 ?_ | refine retM2 ?_) <;> (conv => whnf) <;> repeat' (first
 | exact trivial
 | (with_reducible rfl)
 | ((with_reducible refine And.intro ?_ ?_) <;> conv => whnf)
 | omega
 | rfl
 | (refine congrArg (SV.arr _) ?_)
 | (refine congrArg (Value.int _) ?_)
 | (refine congrArg Value.bool ?_)))); all_goals (try unfold Side)
          all_goals try (repeat' (first | (with_reducible rfl) | (with_reducible refine And.intro ?_ ?_) | omega | rfl | exact Or.inl rfl | exact Or.inr rfl | exact of_decide_eq_true rfl | exact Path.imp_of (of_decide_eq_true rfl) | (focus ((try simp only [Int.reduceToNat, Int.reduceTDiv, Int.reduceTMod, minL, maxL, pickB, zHB, zSH, InK, Path.imp, zL] at *); omega)) | (refine app_le rfl ?_; omega)))
end Go.Proofs.Ytkjcnegkdlmapaa
namespace Go.Proofs.Ytkjcnegkdlmapaa
open Go Go.Vc Go.Rg
set_option linter.unusedVariables false
set_option linter.unusedSimpArgs false
theorem getD_mem' {α : Type} {d : α} : ∀ {l : List α} {i : Nat}, i < l.length → l.getD i d ∈ l := fun {l i} h => by
  rw [List.getD_eq_getElem?_getD, List.getElem?_eq_getElem h]
  exact List.getElem_mem _
theorem sm3_wf {y : List Tr3} (h : (Ty.sl U3).wf y) : sm3 y := fun i => by
  have h2 : ∀ z ∈ y, U3.wf z := h.2
  by_cases hi : i < y.length
  · have h3 := h2 _ (getD_mem' (d := R0) hi)
    exact ⟨wf_u8 h3.1, wf_u8 h3.2.1, wf_u8 h3.2.2.1⟩
  · have : y.getD i R0 = R0 := by simp [List.getD, List.getElem?_eq_none (Nat.le_of_not_lt hi)]
    rw [this]; decide
def playS (n : Nat) (t : Tr3) (w : Wk) : Wk :=
  if t.1.tmod 4 = 0 then sendK (t.2.1.tmod n) (t.2.2.1.tmod n) w
  else if t.1.tmod 4 = 1 then idleK (t.2.1.tmod n) w
  else if w.2.length = 0 then w
  else delK ((t.2.1 + t.2.2.1).tmod w.2.length) w
def playF (n : Nat) : Nat → List Tr3 → Wk → Wk
  | k + 1, t :: r, w => playF n k r (playS n t w)
  | _, _, w => w
theorem playF_end {n k : Nat} {w : Wk} : playF n k [] w = w := by cases k <;> rfl
theorem WOk.playS {n : Nat} {w : Wk} (h : WOk n w) (t : Tr3) : WOk n (playS n t w) := by
  unfold Go.Proofs.Ytkjcnegkdlmapaa.playS
  split
  · exact h.send
  · split
    · exact h.idle
    · split
      · exact h
      · exact h.del
theorem WOk.playF {n : Nat} : ∀ {k : Nat} {l : List Tr3} {w : Wk}, WOk n w → WOk n (playF n k l w)
  | 0, l, w, h => by unfold Go.Proofs.Ytkjcnegkdlmapaa.playF; exact h
  | k + 1, [], w, h => h
  | k + 1, t :: r, w, h => WOk.playF (k := k) (WOk.playS h t)
def played (n : Nat) (x : List Tr3) : Wk := playF n 120 x (begL n)
theorem drop_cons {x : List Tr3} {i : Nat} (h : i < x.length) : x.drop i = x.getD i R0 :: x.drop (i + 1) := by
  rw [List.drop_eq_getElem_cons h, List.getD_eq_getElem?_getD, List.getElem?_eq_getElem h]; rfl
theorem playF_stop {n i : Nat} {x : List Tr3} {w : Wk} (h : ¬ (i < x.length ∧ i < 120)) (hi : i ≤ 120) : playF n (120 - i) (x.drop i) w = w := by
  by_cases e : i < x.length
  · have : 120 - i = 0 := by omega
    rw [this]; unfold playF; rfl
  · rw [List.drop_of_length_le (by omega)]; exact playF_end
theorem ended_over {n : Nat} {w : Wk} (h : WOk n w) (he : endB w = true) : (∀ i, i < w.1.length → gw w.1 i = false ∧ gp w.1 i = -1 ∧ go w.1 i = 0) ∧ ∀ k, k < w.2.length → (w.2.getD k L0).2.2.1 = true := by
  obtain ⟨Es, hw⟩ := h.inv
  unfold endB at he
  rw [Bool.and_eq_true, decide_eq_true_eq] at he
  obtain ⟨h1, h2⟩ := hw.ended h.n0 (show gw w.1 0 = false by simpa using he.1) he.2
  refine ⟨fun i hi => h1 i (by rw [← h.len]; exact hi), fun k hk => h2 _ (getD_mem' hk)⟩
set_option maxHeartbeats 16000000 in
theorem played_at {n : Int} {x : List U3.T} {s : Nat} (hn : 0 ≤ n ∧ n ≤ 255) (hx : sm3 x) (hs : (s : Int) = n.tmod 10 + 1) : FnM Try.prog 17 [.lit (.int .u8 n), .st false (.arr U3 x)] [] (.tup [.padr 0 0, .padr 3 0]) [(0, .box [.own 1, .own 2]), (1, .row 96 HT true ((played s x)).1), (2, .row 50 LT true ((played s x)).2), (3, .box [.own 4, .own 5]), (4, .row 93 HT true ((played s x)).1), (5, .row 50 LT true ((played s x)).2)] := by
  have hmod : n.tmod 10 = n % 10 := Int.tmod_eq_emod_of_nonneg hn.1
  have h1 : 1 ≤ s := by omega
  have h2 : s ≤ 10 := by omega
  have c1 := begin_at h1 h2
  rw [hs] at c1
  have c3 := rbegin_at h1 h2
  rw [hs] at c3
  have w0 := WOk.beg (n := s) (by omega) h2
  have hlx : @List.length U3.T x = x.length := rfl
  refine FnM.of_body tys_ok Try.func17 (by rfl) rfl Try.ntmps17 (by rw [Try.results17]) (by simp) ?_
  
  repeat' (first
 | refine W.seq ?_
 | refine W.block ?_
 | (refine W.regionM (id := 2) tys_ok [] [1] ?_; conv => whnf)
 | (refine W.regionM (id := 5) tys_ok [] [1] ?_; conv => whnf)
 | (refine W.region tys_ok [] ?_; conv => whnf)
 | (refine W.drawAll tys_ok [] mixed rfl ?_; conv => whnf)
 | (refine W.ret ?_; conv => whnf)
 | (refine W.skip ?_; conv => whnf)
 | (refine W.exit ?_; conv => whnf)
 | (refine callM_at (c1) ?_; conv => whnf)
 | (refine callM_at (c3) ?_; conv => whnf)
 | (refine W.cond rfl (fun hb => ?_) (fun hb => ?_) <;> (try simp only [Int.reduceToNat, Int.reduceTDiv, Int.reduceTMod, minL, maxL, pickB, zHB, zSH] at hb) <;> (try (first | (cases hb; done) | exact absurd hb (by decide) | (exfalso; omega) | (omega) | ((simp [pickB] at hb; omega)))))
 | (refine Or.inl (And.intro ?_ ?_); (focus (first | exact trivial | exact ⟨rfl, trivial⟩ | (refine ⟨?_, trivial⟩; dsimp only; simp only [Int.reduceToNat, Int.reduceTDiv, Int.reduceTMod, minL, maxL, pickB, zHB, zSH]; omega) | (refine ⟨?_, trivial⟩; dsimp only; (try simp only [Int.reduceToNat, Int.reduceTDiv, Int.reduceTMod, minL, maxL, pickB, zHB, zSH]); (simp_all; done)) | (refine ⟨?_, trivial⟩; dsimp only; (simp only [Int.reduceToNat, Int.reduceTDiv, Int.reduceTMod, minL, maxL, pickB, zHB, zSH]; done)) | (refine ⟨?_, trivial⟩; dsimp only; (simp; done)))); (conv => whnf))
 | (refine Or.inr (And.intro ?_ ?_); (focus (intro h; have h := h.1; dsimp only at h; first | (exact Bool.noConfusion h) | (simp only [Int.reduceToNat, Int.reduceTDiv, Int.reduceTMod, minL, maxL, pickB, zHB, zSH] at h; omega) | ((try simp only [Int.reduceToNat, Int.reduceTDiv, Int.reduceTMod, minL, maxL, pickB, zHB, zSH] at h); (simp_all; done)))); (conv => whnf))
 | ((with_reducible refine And.intro ?_ ?_); (focus (first | (with_reducible rfl) | omega | rfl | ((try simp only [Int.reduceToNat, Int.reduceTDiv, Int.reduceTMod, minL, maxL, pickB, zHB, zSH, InK, Path.imp, zL] at *); omega))); (conv => whnf))
 | ((with_reducible refine And.intro (Side.out ?_) ?_); rotate_left; (conv => whnf))
 | ((first | refine retM1 ?_ | refine retM2 ?_) <;> (conv => whnf) <;> repeat' (first
 | exact trivial
 | (with_reducible rfl)
 | ((with_reducible refine And.intro ?_ ?_) <;> conv => whnf)
 | omega
 | rfl
 | (refine congrArg (SV.arr _) ?_)
 | (refine congrArg (Value.int _) ?_)
 | (refine congrArg Value.bool ?_)))); all_goals (try unfold Side)
  all_goals try (repeat' (first | (with_reducible rfl) | (with_reducible refine And.intro ?_ ?_) | omega | rfl | exact Or.inl rfl | exact Or.inr rfl | exact of_decide_eq_true rfl | exact Path.imp_of (of_decide_eq_true rfl) | (focus ((try simp only [Int.reduceToNat, Int.reduceTDiv, Int.reduceTMod, minL, maxL, pickB, zHB, zSH, InK, Path.imp, zL] at *); omega)) | (refine app_le rfl ?_; omega)))
  refine W.loop (fun p : Nat × Wk => ⟨[(1, .st false (.arr U3 x)), (6, (.lit (.int .i64 (s : Int)))), (7, .padr 6000 0), (9, .padr 8000 0), (10, (.lit (.int .i64 (p.1 : Int))))], [(6000, .box [.own 6001, .own 6002]), (6001, .row 96 HT true (p.2).1), (6002, .row 50 LT true (p.2).2), (8000, .box [.own 8001, .own 8002]), (8001, .row 93 HT true (p.2).1), (8002, .row 50 LT true (p.2).2)]⟩) (fun p => p.1 ≤ x.length ∧ p.1 ≤ 120 ∧ WOk s p.2 ∧ playF s (120 - p.1) (x.drop p.1) p.2 = played s x) (fun p => x.length - p.1) ((0, begL s)) ?_ ?_
  · refine ⟨⟨Nat.zero_le _, Nat.zero_le _, w0, rfl⟩, ?_⟩
    refine subF.ok ?_ <;> (conv => whnf) <;> repeat' (first
 | exact trivial
 | (with_reducible rfl)
 | ((with_reducible refine And.intro ?_ ?_) <;> conv => whnf)
 | omega
 | rfl
 | (refine congrArg (SV.arr _) ?_)
 | (refine congrArg (Value.int _) ?_)
 | (refine congrArg Value.bool ?_))
    all_goals exact hs.symm
  · rintro ⟨i, w⟩ ⟨hi, hi120, hw, hpl⟩
    dsimp only at hi hi120 hw hpl ⊢
    have hwl := hw.len
    have hwf := hw.fl
    -- BODY
    by_cases hil : i < x.length ∧ i < 120
    · have hia : i < x.length := hil.1
      have hi2 : i < 120 := hil.2
      obtain ⟨b0, b1, b2⟩ := hx i
      obtain ⟨κ, hκ⟩ : ∃ κ : Int, κ = (x.getD i U3.dflt).1 := ⟨_, rfl⟩
      obtain ⟨a', ha'⟩ : ∃ a' : Int, a' = (@List.getD Tr3 x i R0).2.1 := ⟨_, rfl⟩
      obtain ⟨b', hb'⟩ : ∃ b' : Int, b' = (@List.getD Tr3 x i R0).2.2.1 := ⟨_, rfl⟩
      obtain ⟨a, ha⟩ : ∃ a : Int, a = a'.tmod s := ⟨_, rfl⟩
      obtain ⟨b, hb0⟩ : ∃ b : Int, b = b'.tmod s := ⟨_, rfl⟩
      have ea : (@List.getD Tr3 x i R0).2.1.tmod (s : Int) = a := by rw [ha, ha']
      have eb : (@List.getD Tr3 x i R0).2.2.1.tmod (s : Int) = b := by rw [hb0, hb']
      have ia : 0 ≤ (i : Int) ∧ i < x.length := ⟨by omega, hia⟩
      have ik1 : InK .i64 (@List.getD Tr3 x i R0).2.1 := ⟨by omega, by omega⟩
      have ik2 : InK .i64 (@List.getD Tr3 x i R0).2.2.1 := ⟨by omega, by omega⟩
      have ik3 : InK .i64 ((@List.getD Tr3 x i R0).2.1 + (@List.getD Tr3 x i R0).2.2.1) := ⟨by omega, by omega⟩
      have ek : ((@List.getD Tr3 x i R0).2.1 + (@List.getD Tr3 x i R0).2.2.1).tmod (w.2.length : Int) = (a' + b').tmod (w.2.length : Int) := by rw [ha', hb']
      have hfu : 120 - i = 120 - (i + 1) + 1 := by omega
      have hpl : playF s (120 - (i + 1) + 1) (@List.drop Tr3 i x) w = played s x := by rw [← hfu]; exact hpl
      rw [drop_cons (x := x) hia] at hpl
      have hstep : playS s (@List.getD Tr3 x i R0) w = (if κ.tmod 4 = 0 then sendK a b w else if κ.tmod 4 = 1 then idleK a w else if w.2.length = 0 then w else delK ((a' + b').tmod w.2.length) w) := by
        unfold playS; rw [ea, eb, ← ha', ← hb', show (@List.getD Tr3 x i R0).1 = κ from hκ.symm]
      have hpl2 : playF s (120 - (i + 1)) (x.drop (i + 1)) (playS s (@List.getD Tr3 x i R0) w) = played s x := hpl
      rw [hstep] at hpl2
      have hlf : @List.length LT.T w.2 = w.2.length := rfl
      by_cases h0 : κ.tmod 4 = 0
      · obtain ⟨w2, hw2⟩ : ∃ w2, w2 = sendK a b w := ⟨_, rfl⟩
        obtain ⟨e, he⟩ : ∃ e : Int, e = sendE a b w := ⟨_, rfl⟩
        have hk2 : WOk s w2 := by rw [hw2]; exact hw.send
        have hpl3 : playF s (120 - (i + 1)) (x.drop (i + 1)) w2 = played s x := by rw [hw2]; rw [if_pos h0] at hpl2; exact hpl2
        have d1 := send_at (a := a) (b := b) hw he.symm hw2.symm
        have d2 := rsend_at (a := a) (b := b) hw he.symm hw2.symm
        have hl2 : 0 < w2.1.length ∧ w2.1.length ≤ 10 ∧ w2.2.length ≤ 200 := by
          have := hk2.len; have := hk2.n0; have := hk2.fl; omega
        have hws : (w2.1.length : Int) = (s : Int) := by rw [hk2.len]
        cases hend : endB w2 with
        | true =>
          have g1 := ended_at (hs := w2.1) (fl := w2.2) (b := true) hl2.1 hend.symm
          obtain ⟨o1, o2⟩ := ended_over hk2 hend
          have g2 := over_at (hs := w2.1) (fl := w2.2) hl2.1 (by omega) (by omega) o1 o2
          rw [hws] at g2
          repeat' (first
 | refine W.seq ?_
 | refine W.block ?_
 | (refine W.drawPhTo (id := 9) tys_ok [] mixed [0, 0, 3, 4, 8, 16, 0, 96, 0, 0, 768, 1024, 2048, 4096, 0, 24576, 255, 131071] [([0, 1, 2, 3, 4, 5, 6, 7, 8, 9, 10, 11, 12, 13, 14, 15, 16, 17], 0, 262143)] ⟨[(1, .st false (.arr U3 x)), (6, (.lit (.int .i64 (s : Int)))), (7, .padr 6000 0), (9, .padr 8000 0), (10, (.lit (.int .i64 (i : Int)))), (11, (.lit (.int .i64 (a : Int)))), (12, (.lit (.int .i64 (b : Int))))], [(6000, .box [.own 6001, .own 6002]), (6001, .row 96 HT true (w).1), (6002, .row 50 LT true (w).2), (8000, .box [.own 8001, .own 8002]), (8001, .row 93 HT true (w).1), (8002, .row 50 LT true (w).2)]⟩ (by decide +kernel) ?_ ?_ <;> (conv => whnf))
 | (refine W.regionM (id := 16) tys_ok [] [3,7] ?_; conv => whnf)
 | (refine W.resub (x := Code.region 21 _ _) (Γ' := ⟨[(1, .st false (.arr U3 x)), (6, (.lit (.int .i64 (s : Int)))), (7, .padr 6000 0), (9, .padr 8000 0), (10, (.lit (.int .i64 (i : Int))))], [(6000, .box [.own 6001, .own 6002]), (6001, .row 96 HT true (w2).1), (6002, .row 50 LT true (w2).2), (8000, .box [.own 8001, .own 8002]), (8001, .row 93 HT true (w2).1), (8002, .row 50 LT true (w2).2)]⟩) ?_ (W.regionM tys_ok [] [1,5] ?_); rotate_left; (conv => whnf))
 | (refine W.region tys_ok [] ?_; conv => whnf)
 | (refine W.drawAll tys_ok [] mixed rfl ?_; conv => whnf)
 | (refine W.ret ?_; conv => whnf)
 | (refine W.skip ?_; conv => whnf)
 | (refine W.exit ?_; conv => whnf)
 | (refine callM_at (d1) ?_; conv => whnf)
 | (refine callM_at (d2) ?_; conv => whnf)
 | (refine callM_at (g1) ?_; conv => whnf)
 | (refine callM_at (g2) ?_; conv => whnf)
 | (refine Both.mk ?_ ?_ <;> (conv => whnf))
 | (refine W.cond rfl (fun hb => ?_) (fun hb => ?_) <;> (try simp only [Int.reduceToNat, Int.reduceTDiv, Int.reduceTMod, minL, maxL, pickB, zHB, zSH] at hb) <;> (try (first | (cases hb; done) | exact absurd hb (by decide) | (exfalso; omega) | (omega) | ((simp_all; done)))))
 | (refine Or.inl (And.intro ?_ ?_); (focus (first | exact trivial | exact ⟨rfl, trivial⟩ | (refine ⟨?_, trivial⟩; dsimp only; simp only [Int.reduceToNat, Int.reduceTDiv, Int.reduceTMod, minL, maxL, pickB, zHB, zSH]; omega) | (refine ⟨?_, trivial⟩; dsimp only; (try simp only [Int.reduceToNat, Int.reduceTDiv, Int.reduceTMod, minL, maxL, pickB, zHB, zSH]); (simp_all; done)) | (refine ⟨?_, trivial⟩; dsimp only; (simp only [Int.reduceToNat, Int.reduceTDiv, Int.reduceTMod, minL, maxL, pickB, zHB, zSH]; done)) | (refine ⟨?_, trivial⟩; dsimp only; (simp; done)))); (conv => whnf))
 | (refine Or.inr (And.intro ?_ ?_); (focus (intro h; have h := h.1; dsimp only at h; first | (exact Bool.noConfusion h) | (simp only [Int.reduceToNat, Int.reduceTDiv, Int.reduceTMod, minL, maxL, pickB, zHB, zSH] at h; omega) | ((try simp only [Int.reduceToNat, Int.reduceTDiv, Int.reduceTMod, minL, maxL, pickB, zHB, zSH] at h); (simp_all; done)))); (conv => whnf))
 | ((with_reducible refine And.intro ?_ ?_); (focus (first | (with_reducible rfl) | omega | rfl | ((try simp only [Int.reduceToNat, Int.reduceTDiv, Int.reduceTMod, minL, maxL, pickB, zHB, zSH, InK, Path.imp, zL] at *); omega))); (conv => whnf))
 | ((with_reducible refine And.intro (Side.out ?_) ?_); rotate_left; (conv => whnf))
 | ((first | refine retM1 ?_ | refine retM2 ?_ | refine subF.leaf ?_ | refine subF.side ?_) <;> (conv => whnf) <;> repeat' (first
 | exact trivial
 | (with_reducible rfl)
 | ((with_reducible refine And.intro ?_ ?_) <;> conv => whnf)
 | omega
 | rfl
 | (refine congrArg (SV.arr _) ?_)
 | (refine congrArg (Value.int _) ?_)
 | (refine congrArg Value.bool ?_)))); all_goals (try unfold Side)
          all_goals try (repeat' (first | (with_reducible rfl) | (with_reducible refine And.intro ?_ ?_) | omega | rfl | exact Or.inl rfl | exact Or.inr rfl | exact of_decide_eq_true rfl | exact Path.imp_of (of_decide_eq_true rfl) | (focus ((try simp only [Int.reduceToNat, Int.reduceTDiv, Int.reduceTMod, minL, maxL, pickB, zHB, zSH, InK, Path.imp, zL] at *); omega)) | (refine app_le rfl ?_; omega)))
          all_goals first | exact ik1 | exact ik2 | exact ik3 | exact Path.imp_of ik1 | exact Path.imp_of ik2 | exact Path.imp_of ik3 | exact ek | exact ea | exact eb | exact hκ.symm | exact ha'.symm | exact hb'.symm | exact Path.imp_of ia | exact ia.2 | exact Path.imp_of ia.2 | skip
          refine ⟨(i + 1, w2), ⟨⟨by dsimp only; omega, by dsimp only; omega, hk2, by dsimp only; exact hpl3⟩, by dsimp only; omega⟩, ?_⟩
          refine subF.ok ?_ <;> (conv => whnf) <;> repeat' (first
 | exact trivial
 | (with_reducible rfl)
 | ((with_reducible refine And.intro ?_ ?_) <;> conv => whnf)
 | omega
 | rfl
 | (refine congrArg (SV.arr _) ?_)
 | (refine congrArg (Value.int _) ?_)
 | (refine congrArg Value.bool ?_))
          all_goals try refine subF.ok ?_ <;> (conv => whnf) <;> repeat' (first
 | exact trivial
 | (with_reducible rfl)
 | ((with_reducible refine And.intro ?_ ?_) <;> conv => whnf)
 | omega
 | rfl
 | (refine congrArg (SV.arr _) ?_)
 | (refine congrArg (Value.int _) ?_)
 | (refine congrArg Value.bool ?_))
        | false =>
          have g1 := ended_at (hs := w2.1) (fl := w2.2) (b := false) hl2.1 hend.symm
          repeat' (first
 | refine W.seq ?_
 | refine W.block ?_
 | (refine W.drawPhTo (id := 9) tys_ok [] mixed [0, 0, 3, 4, 8, 16, 0, 96, 0, 0, 768, 1024, 2048, 4096, 0, 24576, 255, 131071] [([0, 1, 2, 3, 4, 5, 6, 7, 8, 9, 10, 11, 12, 13, 14, 15, 16, 17], 0, 262143)] ⟨[(1, .st false (.arr U3 x)), (6, (.lit (.int .i64 (s : Int)))), (7, .padr 6000 0), (9, .padr 8000 0), (10, (.lit (.int .i64 (i : Int)))), (11, (.lit (.int .i64 (a : Int)))), (12, (.lit (.int .i64 (b : Int))))], [(6000, .box [.own 6001, .own 6002]), (6001, .row 96 HT true (w).1), (6002, .row 50 LT true (w).2), (8000, .box [.own 8001, .own 8002]), (8001, .row 93 HT true (w).1), (8002, .row 50 LT true (w).2)]⟩ (by decide +kernel) ?_ ?_ <;> (conv => whnf))
 | (refine W.regionM (id := 16) tys_ok [] [3,7] ?_; conv => whnf)
 | (refine W.resub (x := Code.region 21 _ _) (Γ' := ⟨[(1, .st false (.arr U3 x)), (6, (.lit (.int .i64 (s : Int)))), (7, .padr 6000 0), (9, .padr 8000 0), (10, (.lit (.int .i64 (i : Int))))], [(6000, .box [.own 6001, .own 6002]), (6001, .row 96 HT true (w2).1), (6002, .row 50 LT true (w2).2), (8000, .box [.own 8001, .own 8002]), (8001, .row 93 HT true (w2).1), (8002, .row 50 LT true (w2).2)]⟩) ?_ (W.regionM tys_ok [] [1,5] ?_); rotate_left; (conv => whnf))
 | (refine W.region tys_ok [] ?_; conv => whnf)
 | (refine W.drawAll tys_ok [] mixed rfl ?_; conv => whnf)
 | (refine W.ret ?_; conv => whnf)
 | (refine W.skip ?_; conv => whnf)
 | (refine W.exit ?_; conv => whnf)
 | (refine callM_at (d1) ?_; conv => whnf)
 | (refine callM_at (d2) ?_; conv => whnf)
 | (refine callM_at (g1) ?_; conv => whnf)
 | (refine Both.mk ?_ ?_ <;> (conv => whnf))
 | (refine W.cond rfl (fun hb => ?_) (fun hb => ?_) <;> (try simp only [Int.reduceToNat, Int.reduceTDiv, Int.reduceTMod, minL, maxL, pickB, zHB, zSH] at hb) <;> (try (first | (cases hb; done) | exact absurd hb (by decide) | (exfalso; omega) | (omega) | ((simp_all; done)))))
 | (refine Or.inl (And.intro ?_ ?_); (focus (first | exact trivial | exact ⟨rfl, trivial⟩ | (refine ⟨?_, trivial⟩; dsimp only; simp only [Int.reduceToNat, Int.reduceTDiv, Int.reduceTMod, minL, maxL, pickB, zHB, zSH]; omega) | (refine ⟨?_, trivial⟩; dsimp only; (try simp only [Int.reduceToNat, Int.reduceTDiv, Int.reduceTMod, minL, maxL, pickB, zHB, zSH]); (simp_all; done)) | (refine ⟨?_, trivial⟩; dsimp only; (simp only [Int.reduceToNat, Int.reduceTDiv, Int.reduceTMod, minL, maxL, pickB, zHB, zSH]; done)) | (refine ⟨?_, trivial⟩; dsimp only; (simp; done)))); (conv => whnf))
 | (refine Or.inr (And.intro ?_ ?_); (focus (intro h; have h := h.1; dsimp only at h; first | (exact Bool.noConfusion h) | (simp only [Int.reduceToNat, Int.reduceTDiv, Int.reduceTMod, minL, maxL, pickB, zHB, zSH] at h; omega) | ((try simp only [Int.reduceToNat, Int.reduceTDiv, Int.reduceTMod, minL, maxL, pickB, zHB, zSH] at h); (simp_all; done)))); (conv => whnf))
 | ((with_reducible refine And.intro ?_ ?_); (focus (first | (with_reducible rfl) | omega | rfl | ((try simp only [Int.reduceToNat, Int.reduceTDiv, Int.reduceTMod, minL, maxL, pickB, zHB, zSH, InK, Path.imp, zL] at *); omega))); (conv => whnf))
 | ((with_reducible refine And.intro (Side.out ?_) ?_); rotate_left; (conv => whnf))
 | ((first | refine retM1 ?_ | refine retM2 ?_ | refine subF.leaf ?_ | refine subF.side ?_) <;> (conv => whnf) <;> repeat' (first
 | exact trivial
 | (with_reducible rfl)
 | ((with_reducible refine And.intro ?_ ?_) <;> conv => whnf)
 | omega
 | rfl
 | (refine congrArg (SV.arr _) ?_)
 | (refine congrArg (Value.int _) ?_)
 | (refine congrArg Value.bool ?_)))); all_goals (try unfold Side)
          all_goals try (repeat' (first | (with_reducible rfl) | (with_reducible refine And.intro ?_ ?_) | omega | rfl | exact Or.inl rfl | exact Or.inr rfl | exact of_decide_eq_true rfl | exact Path.imp_of (of_decide_eq_true rfl) | (focus ((try simp only [Int.reduceToNat, Int.reduceTDiv, Int.reduceTMod, minL, maxL, pickB, zHB, zSH, InK, Path.imp, zL] at *); omega)) | (refine app_le rfl ?_; omega)))
          all_goals first | exact ik1 | exact ik2 | exact ik3 | exact Path.imp_of ik1 | exact Path.imp_of ik2 | exact Path.imp_of ik3 | exact ek | exact ea | exact eb | exact hκ.symm | exact ha'.symm | exact hb'.symm | exact Path.imp_of ia | exact ia.2 | exact Path.imp_of ia.2 | skip
          refine ⟨(i + 1, w2), ⟨⟨by dsimp only; omega, by dsimp only; omega, hk2, by dsimp only; exact hpl3⟩, by dsimp only; omega⟩, ?_⟩
          refine subF.ok ?_ <;> (conv => whnf) <;> repeat' (first
 | exact trivial
 | (with_reducible rfl)
 | ((with_reducible refine And.intro ?_ ?_) <;> conv => whnf)
 | omega
 | rfl
 | (refine congrArg (SV.arr _) ?_)
 | (refine congrArg (Value.int _) ?_)
 | (refine congrArg Value.bool ?_))
          all_goals try refine subF.ok ?_ <;> (conv => whnf) <;> repeat' (first
 | exact trivial
 | (with_reducible rfl)
 | ((with_reducible refine And.intro ?_ ?_) <;> conv => whnf)
 | omega
 | rfl
 | (refine congrArg (SV.arr _) ?_)
 | (refine congrArg (Value.int _) ?_)
 | (refine congrArg Value.bool ?_))
      · by_cases h1' : κ.tmod 4 = 1
        · obtain ⟨w2, hw2⟩ : ∃ w2, w2 = idleK a w := ⟨_, rfl⟩
          obtain ⟨e, he⟩ : ∃ e : Int, e = idleE a w := ⟨_, rfl⟩
          have hk2 : WOk s w2 := by rw [hw2]; exact hw.idle
          have hpl3 : playF s (120 - (i + 1)) (x.drop (i + 1)) w2 = played s x := by rw [hw2]; rw [if_neg h0, if_pos h1'] at hpl2; exact hpl2
          have d1 := idle_at (i := a) hw he.symm hw2.symm
          have d2 := ridle_at (i := a) hw he.symm hw2.symm
          have hl2 : 0 < w2.1.length ∧ w2.1.length ≤ 10 ∧ w2.2.length ≤ 200 := by
            have := hk2.len; have := hk2.n0; have := hk2.fl; omega
          have hws : (w2.1.length : Int) = (s : Int) := by rw [hk2.len]
          cases hend : endB w2 with
          | true =>
            have g1 := ended_at (hs := w2.1) (fl := w2.2) (b := true) hl2.1 hend.symm
            obtain ⟨o1, o2⟩ := ended_over hk2 hend
            have g2 := over_at (hs := w2.1) (fl := w2.2) hl2.1 (by omega) (by omega) o1 o2
            rw [hws] at g2
            repeat' (first
 | refine W.seq ?_
 | refine W.block ?_
 | (refine W.drawPhTo (id := 9) tys_ok [] mixed [0, 0, 3, 4, 8, 16, 0, 96, 0, 0, 768, 1024, 2048, 4096, 0, 24576, 255, 131071] [([0, 1, 2, 3, 4, 5, 6, 7, 8, 9, 10, 11, 12, 13, 14, 15, 16, 17], 0, 262143)] ⟨[(1, .st false (.arr U3 x)), (6, (.lit (.int .i64 (s : Int)))), (7, .padr 6000 0), (9, .padr 8000 0), (10, (.lit (.int .i64 (i : Int)))), (11, (.lit (.int .i64 (a : Int)))), (12, (.lit (.int .i64 (b : Int))))], [(6000, .box [.own 6001, .own 6002]), (6001, .row 96 HT true (w).1), (6002, .row 50 LT true (w).2), (8000, .box [.own 8001, .own 8002]), (8001, .row 93 HT true (w).1), (8002, .row 50 LT true (w).2)]⟩ (by decide +kernel) ?_ ?_ <;> (conv => whnf))
 | (refine W.regionM (id := 19) tys_ok [] [2,5] ?_; conv => whnf)
 | (refine W.resub (x := Code.region 21 _ _) (Γ' := ⟨[(1, .st false (.arr U3 x)), (6, (.lit (.int .i64 (s : Int)))), (7, .padr 6000 0), (9, .padr 8000 0), (10, (.lit (.int .i64 (i : Int))))], [(6000, .box [.own 6001, .own 6002]), (6001, .row 96 HT true (w2).1), (6002, .row 50 LT true (w2).2), (8000, .box [.own 8001, .own 8002]), (8001, .row 93 HT true (w2).1), (8002, .row 50 LT true (w2).2)]⟩) ?_ (W.regionM tys_ok [] [1,5] ?_); rotate_left; (conv => whnf))
 | (refine W.region tys_ok [] ?_; conv => whnf)
 | (refine W.drawAll tys_ok [] mixed rfl ?_; conv => whnf)
 | (refine W.ret ?_; conv => whnf)
 | (refine W.skip ?_; conv => whnf)
 | (refine W.exit ?_; conv => whnf)
 | (refine callM_at (d1) ?_; conv => whnf)
 | (refine callM_at (d2) ?_; conv => whnf)
 | (refine callM_at (g1) ?_; conv => whnf)
 | (refine callM_at (g2) ?_; conv => whnf)
 | (refine Both.mk ?_ ?_ <;> (conv => whnf))
 | (refine W.cond rfl (fun hb => ?_) (fun hb => ?_) <;> (try simp only [Int.reduceToNat, Int.reduceTDiv, Int.reduceTMod, minL, maxL, pickB, zHB, zSH] at hb) <;> (try (first | (cases hb; done) | exact absurd hb (by decide) | (exfalso; omega) | (omega) | ((simp_all; done)))))
 | (refine Or.inl (And.intro ?_ ?_); (focus (first | exact trivial | exact ⟨rfl, trivial⟩ | (refine ⟨?_, trivial⟩; dsimp only; simp only [Int.reduceToNat, Int.reduceTDiv, Int.reduceTMod, minL, maxL, pickB, zHB, zSH]; omega) | (refine ⟨?_, trivial⟩; dsimp only; (try simp only [Int.reduceToNat, Int.reduceTDiv, Int.reduceTMod, minL, maxL, pickB, zHB, zSH]); (simp_all; done)) | (refine ⟨?_, trivial⟩; dsimp only; (simp only [Int.reduceToNat, Int.reduceTDiv, Int.reduceTMod, minL, maxL, pickB, zHB, zSH]; done)) | (refine ⟨?_, trivial⟩; dsimp only; (simp; done)))); (conv => whnf))
 | (refine Or.inr (And.intro ?_ ?_); (focus (intro h; have h := h.1; dsimp only at h; first | (exact Bool.noConfusion h) | (simp only [Int.reduceToNat, Int.reduceTDiv, Int.reduceTMod, minL, maxL, pickB, zHB, zSH] at h; omega) | ((try simp only [Int.reduceToNat, Int.reduceTDiv, Int.reduceTMod, minL, maxL, pickB, zHB, zSH] at h); (simp_all; done)))); (conv => whnf))
 | ((with_reducible refine And.intro ?_ ?_); (focus (first | (with_reducible rfl) | omega | rfl | ((try simp only [Int.reduceToNat, Int.reduceTDiv, Int.reduceTMod, minL, maxL, pickB, zHB, zSH, InK, Path.imp, zL] at *); omega))); (conv => whnf))
 | ((with_reducible refine And.intro (Side.out ?_) ?_); rotate_left; (conv => whnf))
 | ((first | refine retM1 ?_ | refine retM2 ?_ | refine subF.leaf ?_ | refine subF.side ?_) <;> (conv => whnf) <;> repeat' (first
 | exact trivial
 | (with_reducible rfl)
 | ((with_reducible refine And.intro ?_ ?_) <;> conv => whnf)
 | omega
 | rfl
 | (refine congrArg (SV.arr _) ?_)
 | (refine congrArg (Value.int _) ?_)
 | (refine congrArg Value.bool ?_)))); all_goals (try unfold Side)
            all_goals try (repeat' (first | (with_reducible rfl) | (with_reducible refine And.intro ?_ ?_) | omega | rfl | exact Or.inl rfl | exact Or.inr rfl | exact of_decide_eq_true rfl | exact Path.imp_of (of_decide_eq_true rfl) | (focus ((try simp only [Int.reduceToNat, Int.reduceTDiv, Int.reduceTMod, minL, maxL, pickB, zHB, zSH, InK, Path.imp, zL] at *); omega)) | (refine app_le rfl ?_; omega)))
            all_goals first | exact ik1 | exact ik2 | exact ik3 | exact Path.imp_of ik1 | exact Path.imp_of ik2 | exact Path.imp_of ik3 | exact ek | exact ea | exact eb | exact hκ.symm | exact ha'.symm | exact hb'.symm | exact Path.imp_of ia | exact ia.2 | exact Path.imp_of ia.2 | skip
            refine ⟨(i + 1, w2), ⟨⟨by dsimp only; omega, by dsimp only; omega, hk2, by dsimp only; exact hpl3⟩, by dsimp only; omega⟩, ?_⟩
            refine subF.ok ?_ <;> (conv => whnf) <;> repeat' (first
 | exact trivial
 | (with_reducible rfl)
 | ((with_reducible refine And.intro ?_ ?_) <;> conv => whnf)
 | omega
 | rfl
 | (refine congrArg (SV.arr _) ?_)
 | (refine congrArg (Value.int _) ?_)
 | (refine congrArg Value.bool ?_))
            all_goals try refine subF.ok ?_ <;> (conv => whnf) <;> repeat' (first
 | exact trivial
 | (with_reducible rfl)
 | ((with_reducible refine And.intro ?_ ?_) <;> conv => whnf)
 | omega
 | rfl
 | (refine congrArg (SV.arr _) ?_)
 | (refine congrArg (Value.int _) ?_)
 | (refine congrArg Value.bool ?_))
          | false =>
            have g1 := ended_at (hs := w2.1) (fl := w2.2) (b := false) hl2.1 hend.symm
            repeat' (first
 | refine W.seq ?_
 | refine W.block ?_
 | (refine W.drawPhTo (id := 9) tys_ok [] mixed [0, 0, 3, 4, 8, 16, 0, 96, 0, 0, 768, 1024, 2048, 4096, 0, 24576, 255, 131071] [([0, 1, 2, 3, 4, 5, 6, 7, 8, 9, 10, 11, 12, 13, 14, 15, 16, 17], 0, 262143)] ⟨[(1, .st false (.arr U3 x)), (6, (.lit (.int .i64 (s : Int)))), (7, .padr 6000 0), (9, .padr 8000 0), (10, (.lit (.int .i64 (i : Int)))), (11, (.lit (.int .i64 (a : Int)))), (12, (.lit (.int .i64 (b : Int))))], [(6000, .box [.own 6001, .own 6002]), (6001, .row 96 HT true (w).1), (6002, .row 50 LT true (w).2), (8000, .box [.own 8001, .own 8002]), (8001, .row 93 HT true (w).1), (8002, .row 50 LT true (w).2)]⟩ (by decide +kernel) ?_ ?_ <;> (conv => whnf))
 | (refine W.regionM (id := 19) tys_ok [] [2,5] ?_; conv => whnf)
 | (refine W.resub (x := Code.region 21 _ _) (Γ' := ⟨[(1, .st false (.arr U3 x)), (6, (.lit (.int .i64 (s : Int)))), (7, .padr 6000 0), (9, .padr 8000 0), (10, (.lit (.int .i64 (i : Int))))], [(6000, .box [.own 6001, .own 6002]), (6001, .row 96 HT true (w2).1), (6002, .row 50 LT true (w2).2), (8000, .box [.own 8001, .own 8002]), (8001, .row 93 HT true (w2).1), (8002, .row 50 LT true (w2).2)]⟩) ?_ (W.regionM tys_ok [] [1,5] ?_); rotate_left; (conv => whnf))
 | (refine W.region tys_ok [] ?_; conv => whnf)
 | (refine W.drawAll tys_ok [] mixed rfl ?_; conv => whnf)
 | (refine W.ret ?_; conv => whnf)
 | (refine W.skip ?_; conv => whnf)
 | (refine W.exit ?_; conv => whnf)
 | (refine callM_at (d1) ?_; conv => whnf)
 | (refine callM_at (d2) ?_; conv => whnf)
 | (refine callM_at (g1) ?_; conv => whnf)
 | (refine Both.mk ?_ ?_ <;> (conv => whnf))
 | (refine W.cond rfl (fun hb => ?_) (fun hb => ?_) <;> (try simp only [Int.reduceToNat, Int.reduceTDiv, Int.reduceTMod, minL, maxL, pickB, zHB, zSH] at hb) <;> (try (first | (cases hb; done) | exact absurd hb (by decide) | (exfalso; omega) | (omega) | ((simp_all; done)))))
 | (refine Or.inl (And.intro ?_ ?_); (focus (first | exact trivial | exact ⟨rfl, trivial⟩ | (refine ⟨?_, trivial⟩; dsimp only; simp only [Int.reduceToNat, Int.reduceTDiv, Int.reduceTMod, minL, maxL, pickB, zHB, zSH]; omega) | (refine ⟨?_, trivial⟩; dsimp only; (try simp only [Int.reduceToNat, Int.reduceTDiv, Int.reduceTMod, minL, maxL, pickB, zHB, zSH]); (simp_all; done)) | (refine ⟨?_, trivial⟩; dsimp only; (simp only [Int.reduceToNat, Int.reduceTDiv, Int.reduceTMod, minL, maxL, pickB, zHB, zSH]; done)) | (refine ⟨?_, trivial⟩; dsimp only; (simp; done)))); (conv => whnf))
 | (refine Or.inr (And.intro ?_ ?_); (focus (intro h; have h := h.1; dsimp only at h; first | (exact Bool.noConfusion h) | (simp only [Int.reduceToNat, Int.reduceTDiv, Int.reduceTMod, minL, maxL, pickB, zHB, zSH] at h; omega) | ((try simp only [Int.reduceToNat, Int.reduceTDiv, Int.reduceTMod, minL, maxL, pickB, zHB, zSH] at h); (simp_all; done)))); (conv => whnf))
 | ((with_reducible refine And.intro ?_ ?_); (focus (first | (with_reducible rfl) | omega | rfl | ((try simp only [Int.reduceToNat, Int.reduceTDiv, Int.reduceTMod, minL, maxL, pickB, zHB, zSH, InK, Path.imp, zL] at *); omega))); (conv => whnf))
 | ((with_reducible refine And.intro (Side.out ?_) ?_); rotate_left; (conv => whnf))
 | ((first | refine retM1 ?_ | refine retM2 ?_ | refine subF.leaf ?_ | refine subF.side ?_) <;> (conv => whnf) <;> repeat' (first
 | exact trivial
 | (with_reducible rfl)
 | ((with_reducible refine And.intro ?_ ?_) <;> conv => whnf)
 | omega
 | rfl
 | (refine congrArg (SV.arr _) ?_)
 | (refine congrArg (Value.int _) ?_)
 | (refine congrArg Value.bool ?_)))); all_goals (try unfold Side)
            all_goals try (repeat' (first | (with_reducible rfl) | (with_reducible refine And.intro ?_ ?_) | omega | rfl | exact Or.inl rfl | exact Or.inr rfl | exact of_decide_eq_true rfl | exact Path.imp_of (of_decide_eq_true rfl) | (focus ((try simp only [Int.reduceToNat, Int.reduceTDiv, Int.reduceTMod, minL, maxL, pickB, zHB, zSH, InK, Path.imp, zL] at *); omega)) | (refine app_le rfl ?_; omega)))
            all_goals first | exact ik1 | exact ik2 | exact ik3 | exact Path.imp_of ik1 | exact Path.imp_of ik2 | exact Path.imp_of ik3 | exact ek | exact ea | exact eb | exact hκ.symm | exact ha'.symm | exact hb'.symm | exact Path.imp_of ia | exact ia.2 | exact Path.imp_of ia.2 | skip
            refine ⟨(i + 1, w2), ⟨⟨by dsimp only; omega, by dsimp only; omega, hk2, by dsimp only; exact hpl3⟩, by dsimp only; omega⟩, ?_⟩
            refine subF.ok ?_ <;> (conv => whnf) <;> repeat' (first
 | exact trivial
 | (with_reducible rfl)
 | ((with_reducible refine And.intro ?_ ?_) <;> conv => whnf)
 | omega
 | rfl
 | (refine congrArg (SV.arr _) ?_)
 | (refine congrArg (Value.int _) ?_)
 | (refine congrArg Value.bool ?_))
            all_goals try refine subF.ok ?_ <;> (conv => whnf) <;> repeat' (first
 | exact trivial
 | (with_reducible rfl)
 | ((with_reducible refine And.intro ?_ ?_) <;> conv => whnf)
 | omega
 | rfl
 | (refine congrArg (SV.arr _) ?_)
 | (refine congrArg (Value.int _) ?_)
 | (refine congrArg Value.bool ?_))
        · by_cases h2' : w.2.length = 0
          · have hpl3 : playF s (120 - (i + 1)) (x.drop (i + 1)) w = played s x := by rw [if_neg h0, if_neg h1', if_pos h2'] at hpl2; exact hpl2
            repeat' (first
 | refine W.seq ?_
 | refine W.block ?_
 | (refine W.drawPhTo (id := 9) tys_ok [] mixed [0, 0, 3, 4, 8, 16, 0, 96, 0, 0, 768, 1024, 2048, 4096, 0, 24576, 255, 131071] [([0, 1, 2, 3, 4, 5, 6, 7, 8, 9, 10, 11, 12, 13, 14, 15, 16, 17], 0, 262143)] ⟨[(1, .st false (.arr U3 x)), (6, (.lit (.int .i64 (s : Int)))), (7, .padr 6000 0), (9, .padr 8000 0), (10, (.lit (.int .i64 (i : Int)))), (11, (.lit (.int .i64 (a : Int)))), (12, (.lit (.int .i64 (b : Int))))], [(6000, .box [.own 6001, .own 6002]), (6001, .row 96 HT true (w).1), (6002, .row 50 LT true (w).2), (8000, .box [.own 8001, .own 8002]), (8001, .row 93 HT true (w).1), (8002, .row 50 LT true (w).2)]⟩ (by decide +kernel) ?_ ?_ <;> (conv => whnf))
 | (refine W.region tys_ok [] ?_; conv => whnf)
 | (refine W.drawAll tys_ok [] mixed rfl ?_; conv => whnf)
 | (refine W.ret ?_; conv => whnf)
 | (refine W.skip ?_; conv => whnf)
 | (refine W.exit ?_; conv => whnf)
 | (refine Both.mk ?_ ?_ <;> (conv => whnf))
 | (refine W.cond rfl (fun hb => ?_) (fun hb => ?_) <;> (try simp only [Int.reduceToNat, Int.reduceTDiv, Int.reduceTMod, minL, maxL, pickB, zHB, zSH] at hb) <;> (try (first | (cases hb; done) | exact absurd hb (by decide) | (exfalso; omega) | (omega) | ((simp_all; done)))))
 | ((with_reducible refine And.intro ?_ ?_); (focus (first | (with_reducible rfl) | omega | rfl | ((try simp only [Int.reduceToNat, Int.reduceTDiv, Int.reduceTMod, minL, maxL, pickB, zHB, zSH, InK, Path.imp, zL] at *); omega))); (conv => whnf))
 | ((with_reducible refine And.intro (Side.out ?_) ?_); rotate_left; (conv => whnf))
 | ((first | refine retM1 ?_ | refine retM2 ?_ | refine subF.leaf ?_ | refine subF.side ?_) <;> (conv => whnf) <;> repeat' (first
 | exact trivial
 | (with_reducible rfl)
 | ((with_reducible refine And.intro ?_ ?_) <;> conv => whnf)
 | omega
 | rfl
 | (refine congrArg (SV.arr _) ?_)
 | (refine congrArg (Value.int _) ?_)
 | (refine congrArg Value.bool ?_)))); all_goals (try unfold Side)
            all_goals try (repeat' (first | (with_reducible rfl) | (with_reducible refine And.intro ?_ ?_) | omega | rfl | exact Or.inl rfl | exact Or.inr rfl | exact of_decide_eq_true rfl | exact Path.imp_of (of_decide_eq_true rfl) | (focus ((try simp only [Int.reduceToNat, Int.reduceTDiv, Int.reduceTMod, minL, maxL, pickB, zHB, zSH, InK, Path.imp, zL] at *); omega)) | (refine app_le rfl ?_; omega)))
            all_goals first | exact ik1 | exact ik2 | exact ik3 | exact Path.imp_of ik1 | exact Path.imp_of ik2 | exact Path.imp_of ik3 | exact ek | exact ea | exact eb | exact hκ.symm | exact ha'.symm | exact hb'.symm | exact Path.imp_of ia | exact ia.2 | exact Path.imp_of ia.2 | skip
            refine ⟨(i + 1, w), ⟨⟨by dsimp only; omega, by dsimp only; omega, hw, by dsimp only; exact hpl3⟩, by dsimp only; omega⟩, ?_⟩
            refine subF.ok ?_ <;> (conv => whnf) <;> repeat' (first
 | exact trivial
 | (with_reducible rfl)
 | ((with_reducible refine And.intro ?_ ?_) <;> conv => whnf)
 | omega
 | rfl
 | (refine congrArg (SV.arr _) ?_)
 | (refine congrArg (Value.int _) ?_)
 | (refine congrArg Value.bool ?_))
          · obtain ⟨w2, hw2⟩ : ∃ w2, w2 = delK ((a' + b').tmod w.2.length) w := ⟨_, rfl⟩
            obtain ⟨e, he⟩ : ∃ e : Int, e = delE ((a' + b').tmod w.2.length) w := ⟨_, rfl⟩
            have hk2 : WOk s w2 := by rw [hw2]; exact hw.del
            have hpl3 : playF s (120 - (i + 1)) (x.drop (i + 1)) w2 = played s x := by rw [hw2]; rw [if_neg h0, if_neg h1', if_neg h2'] at hpl2; exact hpl2
            have d1 := deliver_at (k := (a' + b').tmod w.2.length) hw he.symm hw2.symm
            have d2 := rdeliver_all (k := (a' + b').tmod w.2.length) hw he.symm hw2.symm
            have hl2 : 0 < w2.1.length ∧ w2.1.length ≤ 10 ∧ w2.2.length ≤ 200 := by
              have := hk2.len; have := hk2.n0; have := hk2.fl; omega
            have hws : (w2.1.length : Int) = (s : Int) := by rw [hk2.len]
            cases hend : endB w2 with
            | true =>
              have g1 := ended_at (hs := w2.1) (fl := w2.2) (b := true) hl2.1 hend.symm
              obtain ⟨o1, o2⟩ := ended_over hk2 hend
              have g2 := over_at (hs := w2.1) (fl := w2.2) hl2.1 (by omega) (by omega) o1 o2
              rw [hws] at g2
              repeat' (first
 | refine W.seq ?_
 | refine W.block ?_
 | (refine W.drawPhTo (id := 9) tys_ok [] mixed [0, 0, 3, 4, 8, 16, 0, 96, 0, 0, 768, 1024, 2048, 4096, 0, 24576, 255, 131071] [([0, 1, 2, 3, 4, 5, 6, 7, 8, 9, 10, 11, 12, 13, 14, 15, 16, 17], 0, 262143)] ⟨[(1, .st false (.arr U3 x)), (6, (.lit (.int .i64 (s : Int)))), (7, .padr 6000 0), (9, .padr 8000 0), (10, (.lit (.int .i64 (i : Int)))), (11, (.lit (.int .i64 (a : Int)))), (12, (.lit (.int .i64 (b : Int))))], [(6000, .box [.own 6001, .own 6002]), (6001, .row 96 HT true (w).1), (6002, .row 50 LT true (w).2), (8000, .box [.own 8001, .own 8002]), (8001, .row 93 HT true (w).1), (8002, .row 50 LT true (w).2)]⟩ (by decide +kernel) ?_ ?_ <;> (conv => whnf))
 | (refine W.drawPhTo (id := 12) tys_ok [] mixed [0, 0, 3, 4, 8, 16, 0, 0, 192, 256, 512, 1024, 2080, 0, 8192, 16384, 32768, 65536, 135168, 524287] [([0, 1, 2, 3, 4, 5, 6, 7, 8, 9, 10, 11, 12, 13, 14, 15], 1, 131071), ([], 1, 262143), ([18, 19], 0, 1048575)] ⟨[(1, .st false (.arr U3 x)), (6, (.lit (.int .i64 (s : Int)))), (7, .padr 6000 0), (9, .padr 8000 0), (10, (.lit (.int .i64 (i : Int)))), (13, (.lit (.int .i64 (((a' + b').tmod w.2.length) : Int))))], [(6000, .box [.own 6001, .own 6002]), (6001, .row 96 HT true (w).1), (6002, .row 50 LT true (w).2), (8000, .box [.own 8001, .own 8002]), (8001, .row 93 HT true (w).1), (8002, .row 50 LT true (w).2)]⟩ (by decide +kernel) ?_ ?_ <;> (conv => whnf))
 | (refine W.regionM (id := 13) tys_ok [] [2,5] ?_; conv => whnf)
 | (refine W.resub (x := Code.region 21 _ _) (Γ' := ⟨[(1, .st false (.arr U3 x)), (6, (.lit (.int .i64 (s : Int)))), (7, .padr 6000 0), (9, .padr 8000 0), (10, (.lit (.int .i64 (i : Int))))], [(6000, .box [.own 6001, .own 6002]), (6001, .row 96 HT true (w2).1), (6002, .row 50 LT true (w2).2), (8000, .box [.own 8001, .own 8002]), (8001, .row 93 HT true (w2).1), (8002, .row 50 LT true (w2).2)]⟩) ?_ (W.regionM tys_ok [] [1,5] ?_); rotate_left; (conv => whnf))
 | (refine W.region tys_ok [] ?_; conv => whnf)
 | (refine W.drawAll tys_ok [] mixed rfl ?_; conv => whnf)
 | (refine W.ret ?_; conv => whnf)
 | (refine W.skip ?_; conv => whnf)
 | (refine W.exit ?_; conv => whnf)
 | (refine callM_at (d1) ?_; conv => whnf)
 | (refine callM_at (d2) ?_; conv => whnf)
 | (refine callM_at (g1) ?_; conv => whnf)
 | (refine callM_at (g2) ?_; conv => whnf)
 | (refine Both.mk ?_ ?_ <;> (conv => whnf))
 | (refine W.cond rfl (fun hb => ?_) (fun hb => ?_) <;> (try simp only [Int.reduceToNat, Int.reduceTDiv, Int.reduceTMod, minL, maxL, pickB, zHB, zSH] at hb) <;> (try (first | (cases hb; done) | exact absurd hb (by decide) | (exfalso; omega) | (omega) | ((simp_all; done)))))
 | (refine Or.inl (And.intro ?_ ?_); (focus (first | exact trivial | exact ⟨rfl, trivial⟩ | (refine ⟨?_, trivial⟩; dsimp only; simp only [Int.reduceToNat, Int.reduceTDiv, Int.reduceTMod, minL, maxL, pickB, zHB, zSH]; omega) | (refine ⟨?_, trivial⟩; dsimp only; (try simp only [Int.reduceToNat, Int.reduceTDiv, Int.reduceTMod, minL, maxL, pickB, zHB, zSH]); (simp_all; done)) | (refine ⟨?_, trivial⟩; dsimp only; (simp only [Int.reduceToNat, Int.reduceTDiv, Int.reduceTMod, minL, maxL, pickB, zHB, zSH]; done)) | (refine ⟨?_, trivial⟩; dsimp only; (simp; done)))); (conv => whnf))
 | (refine Or.inr (And.intro ?_ ?_); (focus (intro h; have h := h.1; dsimp only at h; first | (exact Bool.noConfusion h) | (simp only [Int.reduceToNat, Int.reduceTDiv, Int.reduceTMod, minL, maxL, pickB, zHB, zSH] at h; omega) | ((try simp only [Int.reduceToNat, Int.reduceTDiv, Int.reduceTMod, minL, maxL, pickB, zHB, zSH] at h); (simp_all; done)))); (conv => whnf))
 | ((with_reducible refine And.intro ?_ ?_); (focus (first | (with_reducible rfl) | omega | rfl | ((try simp only [Int.reduceToNat, Int.reduceTDiv, Int.reduceTMod, minL, maxL, pickB, zHB, zSH, InK, Path.imp, zL] at *); omega))); (conv => whnf))
 | ((with_reducible refine And.intro (Side.out ?_) ?_); rotate_left; (conv => whnf))
 | ((first | refine retM1 ?_ | refine retM2 ?_ | refine subF.leaf ?_ | refine subF.side ?_) <;> (conv => whnf) <;> repeat' (first
 | exact trivial
 | (with_reducible rfl)
 | ((with_reducible refine And.intro ?_ ?_) <;> conv => whnf)
 | omega
 | rfl
 | (refine congrArg (SV.arr _) ?_)
 | (refine congrArg (Value.int _) ?_)
 | (refine congrArg Value.bool ?_)))); all_goals (try unfold Side)
              all_goals try (repeat' (first | (with_reducible rfl) | (with_reducible refine And.intro ?_ ?_) | omega | rfl | exact Or.inl rfl | exact Or.inr rfl | exact of_decide_eq_true rfl | exact Path.imp_of (of_decide_eq_true rfl) | (focus ((try simp only [Int.reduceToNat, Int.reduceTDiv, Int.reduceTMod, minL, maxL, pickB, zHB, zSH, InK, Path.imp, zL] at *); omega)) | (refine app_le rfl ?_; omega)))
              all_goals first | exact ik1 | exact ik2 | exact ik3 | exact Path.imp_of ik1 | exact Path.imp_of ik2 | exact Path.imp_of ik3 | exact ek | exact ea | exact eb | exact hκ.symm | exact ha'.symm | exact hb'.symm | exact Path.imp_of ia | exact ia.2 | exact Path.imp_of ia.2 | skip
              refine ⟨(i + 1, w2), ⟨⟨by dsimp only; omega, by dsimp only; omega, hk2, by dsimp only; exact hpl3⟩, by dsimp only; omega⟩, ?_⟩
              refine subF.ok ?_ <;> (conv => whnf) <;> repeat' (first
 | exact trivial
 | (with_reducible rfl)
 | ((with_reducible refine And.intro ?_ ?_) <;> conv => whnf)
 | omega
 | rfl
 | (refine congrArg (SV.arr _) ?_)
 | (refine congrArg (Value.int _) ?_)
 | (refine congrArg Value.bool ?_))
              all_goals try refine subF.ok ?_ <;> (conv => whnf) <;> repeat' (first
 | exact trivial
 | (with_reducible rfl)
 | ((with_reducible refine And.intro ?_ ?_) <;> conv => whnf)
 | omega
 | rfl
 | (refine congrArg (SV.arr _) ?_)
 | (refine congrArg (Value.int _) ?_)
 | (refine congrArg Value.bool ?_))
            | false =>
              have g1 := ended_at (hs := w2.1) (fl := w2.2) (b := false) hl2.1 hend.symm
              repeat' (first
 | refine W.seq ?_
 | refine W.block ?_
 | (refine W.drawPhTo (id := 9) tys_ok [] mixed [0, 0, 3, 4, 8, 16, 0, 96, 0, 0, 768, 1024, 2048, 4096, 0, 24576, 255, 131071] [([0, 1, 2, 3, 4, 5, 6, 7, 8, 9, 10, 11, 12, 13, 14, 15, 16, 17], 0, 262143)] ⟨[(1, .st false (.arr U3 x)), (6, (.lit (.int .i64 (s : Int)))), (7, .padr 6000 0), (9, .padr 8000 0), (10, (.lit (.int .i64 (i : Int)))), (11, (.lit (.int .i64 (a : Int)))), (12, (.lit (.int .i64 (b : Int))))], [(6000, .box [.own 6001, .own 6002]), (6001, .row 96 HT true (w).1), (6002, .row 50 LT true (w).2), (8000, .box [.own 8001, .own 8002]), (8001, .row 93 HT true (w).1), (8002, .row 50 LT true (w).2)]⟩ (by decide +kernel) ?_ ?_ <;> (conv => whnf))
 | (refine W.drawPhTo (id := 12) tys_ok [] mixed [0, 0, 3, 4, 8, 16, 0, 0, 192, 256, 512, 1024, 2080, 0, 8192, 16384, 32768, 65536, 135168, 524287] [([0, 1, 2, 3, 4, 5, 6, 7, 8, 9, 10, 11, 12, 13, 14, 15], 1, 131071), ([], 1, 262143), ([18, 19], 0, 1048575)] ⟨[(1, .st false (.arr U3 x)), (6, (.lit (.int .i64 (s : Int)))), (7, .padr 6000 0), (9, .padr 8000 0), (10, (.lit (.int .i64 (i : Int)))), (13, (.lit (.int .i64 (((a' + b').tmod w.2.length) : Int))))], [(6000, .box [.own 6001, .own 6002]), (6001, .row 96 HT true (w).1), (6002, .row 50 LT true (w).2), (8000, .box [.own 8001, .own 8002]), (8001, .row 93 HT true (w).1), (8002, .row 50 LT true (w).2)]⟩ (by decide +kernel) ?_ ?_ <;> (conv => whnf))
 | (refine W.regionM (id := 13) tys_ok [] [2,5] ?_; conv => whnf)
 | (refine W.resub (x := Code.region 21 _ _) (Γ' := ⟨[(1, .st false (.arr U3 x)), (6, (.lit (.int .i64 (s : Int)))), (7, .padr 6000 0), (9, .padr 8000 0), (10, (.lit (.int .i64 (i : Int))))], [(6000, .box [.own 6001, .own 6002]), (6001, .row 96 HT true (w2).1), (6002, .row 50 LT true (w2).2), (8000, .box [.own 8001, .own 8002]), (8001, .row 93 HT true (w2).1), (8002, .row 50 LT true (w2).2)]⟩) ?_ (W.regionM tys_ok [] [1,5] ?_); rotate_left; (conv => whnf))
 | (refine W.region tys_ok [] ?_; conv => whnf)
 | (refine W.drawAll tys_ok [] mixed rfl ?_; conv => whnf)
 | (refine W.ret ?_; conv => whnf)
 | (refine W.skip ?_; conv => whnf)
 | (refine W.exit ?_; conv => whnf)
 | (refine callM_at (d1) ?_; conv => whnf)
 | (refine callM_at (d2) ?_; conv => whnf)
 | (refine callM_at (g1) ?_; conv => whnf)
 | (refine Both.mk ?_ ?_ <;> (conv => whnf))
 | (refine W.cond rfl (fun hb => ?_) (fun hb => ?_) <;> (try simp only [Int.reduceToNat, Int.reduceTDiv, Int.reduceTMod, minL, maxL, pickB, zHB, zSH] at hb) <;> (try (first | (cases hb; done) | exact absurd hb (by decide) | (exfalso; omega) | (omega) | ((simp_all; done)))))
 | (refine Or.inl (And.intro ?_ ?_); (focus (first | exact trivial | exact ⟨rfl, trivial⟩ | (refine ⟨?_, trivial⟩; dsimp only; simp only [Int.reduceToNat, Int.reduceTDiv, Int.reduceTMod, minL, maxL, pickB, zHB, zSH]; omega) | (refine ⟨?_, trivial⟩; dsimp only; (try simp only [Int.reduceToNat, Int.reduceTDiv, Int.reduceTMod, minL, maxL, pickB, zHB, zSH]); (simp_all; done)) | (refine ⟨?_, trivial⟩; dsimp only; (simp only [Int.reduceToNat, Int.reduceTDiv, Int.reduceTMod, minL, maxL, pickB, zHB, zSH]; done)) | (refine ⟨?_, trivial⟩; dsimp only; (simp; done)))); (conv => whnf))
 | (refine Or.inr (And.intro ?_ ?_); (focus (intro h; have h := h.1; dsimp only at h; first | (exact Bool.noConfusion h) | (simp only [Int.reduceToNat, Int.reduceTDiv, Int.reduceTMod, minL, maxL, pickB, zHB, zSH] at h; omega) | ((try simp only [Int.reduceToNat, Int.reduceTDiv, Int.reduceTMod, minL, maxL, pickB, zHB, zSH] at h); (simp_all; done)))); (conv => whnf))
 | ((with_reducible refine And.intro ?_ ?_); (focus (first | (with_reducible rfl) | omega | rfl | ((try simp only [Int.reduceToNat, Int.reduceTDiv, Int.reduceTMod, minL, maxL, pickB, zHB, zSH, InK, Path.imp, zL] at *); omega))); (conv => whnf))
 | ((with_reducible refine And.intro (Side.out ?_) ?_); rotate_left; (conv => whnf))
 | ((first | refine retM1 ?_ | refine retM2 ?_ | refine subF.leaf ?_ | refine subF.side ?_) <;> (conv => whnf) <;> repeat' (first
 | exact trivial
 | (with_reducible rfl)
 | ((with_reducible refine And.intro ?_ ?_) <;> conv => whnf)
 | omega
 | rfl
 | (refine congrArg (SV.arr _) ?_)
 | (refine congrArg (Value.int _) ?_)
 | (refine congrArg Value.bool ?_)))); all_goals (try unfold Side)
              all_goals try (repeat' (first | (with_reducible rfl) | (with_reducible refine And.intro ?_ ?_) | omega | rfl | exact Or.inl rfl | exact Or.inr rfl | exact of_decide_eq_true rfl | exact Path.imp_of (of_decide_eq_true rfl) | (focus ((try simp only [Int.reduceToNat, Int.reduceTDiv, Int.reduceTMod, minL, maxL, pickB, zHB, zSH, InK, Path.imp, zL] at *); omega)) | (refine app_le rfl ?_; omega)))
              all_goals first | exact ik1 | exact ik2 | exact ik3 | exact Path.imp_of ik1 | exact Path.imp_of ik2 | exact Path.imp_of ik3 | exact ek | exact ea | exact eb | exact hκ.symm | exact ha'.symm | exact hb'.symm | exact Path.imp_of ia | exact ia.2 | exact Path.imp_of ia.2 | skip
              refine ⟨(i + 1, w2), ⟨⟨by dsimp only; omega, by dsimp only; omega, hk2, by dsimp only; exact hpl3⟩, by dsimp only; omega⟩, ?_⟩
              refine subF.ok ?_ <;> (conv => whnf) <;> repeat' (first
 | exact trivial
 | (with_reducible rfl)
 | ((with_reducible refine And.intro ?_ ?_) <;> conv => whnf)
 | omega
 | rfl
 | (refine congrArg (SV.arr _) ?_)
 | (refine congrArg (Value.int _) ?_)
 | (refine congrArg Value.bool ?_))
              all_goals try refine subF.ok ?_ <;> (conv => whnf) <;> repeat' (first
 | exact trivial
 | (with_reducible rfl)
 | ((with_reducible refine And.intro ?_ ?_) <;> conv => whnf)
 | omega
 | rfl
 | (refine congrArg (SV.arr _) ?_)
 | (refine congrArg (Value.int _) ?_)
 | (refine congrArg Value.bool ?_))
    · have hend : playF s (120 - i) (x.drop i) w = w := playF_stop hil hi120
      have hfin : w = played s x := by rw [← hpl, hend]
      have f1 : w.1 = (played s x).1 := by rw [← hfin]
      have f2 : w.2 = (played s x).2 := by rw [← hfin]
      repeat' (first
 | refine W.seq ?_
 | refine W.block ?_
 | (refine W.region tys_ok [] ?_; conv => whnf)
 | (refine W.drawAll tys_ok [] mixed rfl ?_; conv => whnf)
 | (refine W.ret ?_; conv => whnf)
 | (refine W.skip ?_; conv => whnf)
 | (refine W.exit ?_; conv => whnf)
 | (refine W.cond rfl (fun hb => ?_) (fun hb => ?_) <;> (try simp only [Int.reduceToNat, Int.reduceTDiv, Int.reduceTMod, minL, maxL, pickB, zHB, zSH] at hb) <;> (try (first | (cases hb; done) | exact absurd hb (by decide) | (exfalso; omega) | (omega) | ((simp [pickB] at hb; omega)))))
 | ((with_reducible refine And.intro ?_ ?_); (focus (first | (with_reducible rfl) | omega | rfl | ((try simp only [Int.reduceToNat, Int.reduceTDiv, Int.reduceTMod, minL, maxL, pickB, zHB, zSH, InK, Path.imp, zL] at *); omega))); (conv => whnf))
 | ((with_reducible refine And.intro (Side.out ?_) ?_); rotate_left; (conv => whnf))
 | ((first | refine retM1 ?_ | refine retM2 ?_) <;> (conv => whnf) <;> repeat' (first
 | exact trivial
 | (with_reducible rfl)
 | ((with_reducible refine And.intro ?_ ?_) <;> conv => whnf)
 | omega
 | rfl
 | (refine congrArg (SV.arr _) ?_)
 | (refine congrArg (Value.int _) ?_)
 | (refine congrArg Value.bool ?_)))); all_goals (try unfold Side)
      all_goals try (repeat' (first | (with_reducible rfl) | (with_reducible refine And.intro ?_ ?_) | omega | rfl | exact Or.inl rfl | exact Or.inr rfl | exact of_decide_eq_true rfl | exact Path.imp_of (of_decide_eq_true rfl) | (focus ((try simp only [Int.reduceToNat, Int.reduceTDiv, Int.reduceTMod, minL, maxL, pickB, zHB, zSH, InK, Path.imp, zL] at *); omega)) | (refine app_le rfl ?_; omega)))
      all_goals first | exact f1 | exact f2 | skip
end Go.Proofs.Ytkjcnegkdlmapaa
namespace Go.Vc
set_option linter.unusedVariables false
set_option linter.unusedSimpArgs false
theorem RegW.go {P : Program} {n : Nat} {Q : Exit → Sy → Prop} {Γ : Sy} {T : List (Nat × TE)} (hT : TOk P T) (F Ms : List Nat) {ops : Array Oper} {i : Nat} (k : Nat) (hk : (Nat.ble i k && Nat.ble k ops.size) = true)
    (h : seqM P T F Ms n ops ((ops.toList.drop i).take (k - i)) i Γ fun Γ1 => RegW P n ops k Γ1 Q) : RegW P n ops i Γ Q := by
  intro c g a w hn hst
  subst hn
  rw [Bool.and_eq_true] at hk
  have h3 := Nat.le_of_ble_eq_true hk.1
  have h4 := Nat.le_of_ble_eq_true hk.2
  have hl : ((ops.toList.drop i).take (k - i)).length = k - i := by rw [List.length_take, List.length_drop, Array.length_toList]; omega
  have e : List.range' i (ops.size - i) = List.range' i ((ops.toList.drop i).take (k - i)).length ++ List.range' k (ops.size - k) := by
    rw [hl]
    have := List.range'_append (s := i) (m := k - i) (n := ops.size - k) (step := 1)
    rw [show i + 1 * (k - i) = k by omega, show k - i + (ops.size - k) = ops.size - i by omega] at this
    exact this.symm
  rw [e]
  exact seqM_app (K := fun Γ1 => RegW P c.n ops k Γ1 Q) hT (fun Γ' g' a' w' h5 h6 => h5 c g' a' w' rfl h6) _ i Γ g a w ⟨(ops.toList.drop i).drop (k - i), (List.take_append_drop _ _).symm⟩ h hst
theorem RegW.skip {P : Program} {n : Nat} {Q : Exit → Sy → Prop} {Γ : Sy} {ops : Array Oper} {i : Nat} {o : Oper} {G : Path} {t : Nat} (ho : ops[i]? = some o) (hG : guardOf (dstsOf ops) Γ o.guard = some G) (hno : ¬ G.ok) (ht : o.dst = some t) (hlt : Nat.blt t n = true) (A : AV)
    (h : RegW P n ops (i + 1) (Γ.putB t (gd' G A)) Q) : RegW P n ops i Γ Q := by
  intro c g a w hn hst
  subst hn
  have hi : i < ops.size := (Array.getElem?_eq_some_iff.1 ho).1
  have e : List.range' i (ops.size - i) = i :: List.range' (i + 1) (ops.size - (i + 1)) := by
    rw [show ops.size - i = ops.size - (i + 1) + 1 by omega, List.range'_succ]
  rw [e, wpOps_cons]
  unfold wpOp
  rw [ho]
  dsimp only
  rw [if_neg (fun h => hno ((guardOf.wanted (ops := ops) hst hG).1 h)), ht]
  refine h c g _ w rfl ((hst.put (Nat.le_of_ble_eq_true hlt) (A := gd' G A) ?_).congr (fun _ => rfl) (fun _ => rfl))
  cases G with
  | nil => exact absurd trivial hno
  | cons x r => exact ⟨fun h => absurd h hno, fun _ => rfl⟩
end Go.Vc
namespace Go.Rg
set_option linter.unusedVariables false
set_option linter.unusedSimpArgs false
variable {n : Nat} {w : Wk} {Es : List Nat}
theorem idle_mu {i : Nat} (h : WOk n w) (hE : WI n (wnOf w) Es) (hi : i < n) : ∃ Es', WI n (wnOf (idleK i w)) Es' ∧ mu (wnOf (idleK i w)) Es' ≤ mu (wnOf w) Es ∧ ((idleK i w).2 = w.2 ∨ mu (wnOf (idleK i w)) Es' + 1 ≤ mu (wnOf w) Es) := by
  unfold idleK
  split
  · have hil : i < w.1.length := by rw [h.len]; exact hi
    rw [Int.toNat_natCast, wn_idle hil]
    obtain ⟨Es', h1, h2, h3, h4⟩ := wi_idle hi hE
    refine ⟨Es', h1, h2, ?_⟩
    rcases h3 with h3 | h3
    · refine .inl ?_
      have : (wnOf (settL i (setW w.1 i false, w.2))).fl = (wnOf w).fl := by rw [wn_idle hil]; exact h3
      exact this
    · exact .inr (by omega)
  · exact ⟨Es, hE, Int.le_refl _, .inl rfl⟩
theorem del_mu {k : Nat} (h : WOk n w) (hE : WI n (wnOf w) Es) (hk : k < w.2.length) : ∃ Es', WI n (wnOf (delK k w)) Es' ∧ mu (wnOf (delK k w)) Es' + 1 ≤ mu (wnOf w) Es := by
  have he : delE k w = 0 := by unfold delE; rw [if_pos (has_of hk)]
  unfold delK
  rw [if_pos he, Int.toNat_natCast, wn_del hk h]
  exact wi_del hk hE
theorem delE_zero {k : Nat} (hk : k < w.2.length) : delE k w = 0 := by unfold delE; rw [if_pos (has_of hk)]
theorem idleE_some {i : Nat} (hi : i < w.1.length) : idleE i w = 0 ∨ idleE i w = 5 ∨ idleE i w = 7 := by
  unfold idleE
  rw [if_pos (has_of hi)]
  split
  · split
    · exact .inr (.inr rfl)
    · exact .inl rfl
  · exact .inr (.inl rfl)
theorem idle_off {i : Nat} (h : WOk n w) (hi : i < n) (hf : w.2.length < 200) : gw (idleK i w).1 i = false ∧ (∀ j, gw w.1 j = false → gw (idleK i w).1 j = false) ∧ (idleK i w).2.length ≤ w.2.length + 1 := by
  have hil : i < w.1.length := by rw [h.len]; exact hi
  have hW : idleE i w = 0 → (wnOf (idleK i w)).W = upd (gw w.1) i false := fun he => by
    unfold idleK
    rw [if_pos he, Int.toNat_natCast, wn_idle hil]
    obtain ⟨Es, hE⟩ := h.inv
    obtain ⟨Es', _, _, _, h4⟩ := wi_idle hi hE
    exact h4
  have hcase : idleE i w = 0 ∨ (idleE i w = 5 ∧ gw w.1 i = false) := by
    unfold idleE
    rw [if_pos (has_of hil), Int.toNat_natCast]
    cases e : gw w.1 i with
    | false => exact .inr ⟨if_neg (by decide), rfl⟩
    | true =>
      refine .inl ?_
      rw [if_pos rfl, if_neg (by omega)]
  rcases hcase with he | ⟨he, hg⟩
  · have hw := hW he
    refine ⟨?_, fun j hj => ?_, ?_⟩
    · show (wnOf (idleK i w)).W i = false
      rw [hw]; exact upd_at
    · show (wnOf (idleK i w)).W j = false
      rw [hw]
      unfold upd
      split
      · rfl
      · exact hj
    · unfold idleK
      rw [if_pos he, Int.toNat_natCast]
      exact (sett_fl (w := (setW w.1 i false, w.2)) (i := i)).1
  · have e : idleK i w = w := by unfold idleK; rw [he, if_neg (by decide)]
    rw [e]
    exact ⟨hg, fun j hj => hj, by omega⟩
theorem quiet_end (h : WOk n w) (hw : ∀ i, i < n → gw w.1 i = false) (hf : w.2 = []) : endB w = true := by
  obtain ⟨Es, hE⟩ := h.inv
  have := hE.quiet h.n0 (fun i hi => hw i hi) hf
  unfold endB
  rw [hw 0 h.n0, Bool.not_false, Bool.true_and, decide_eq_true_eq]
  exact this
theorem mu_start (h : WOk n w) (hE : WI n (wnOf w) Es) : 0 ≤ mu (wnOf w) Es ∧ mu (wnOf w) Es ≤ 620 := by
  refine ⟨mu_nn, ?_⟩
  have h1 := hE.mu_le
  have h2 : ((wnOf w).fl.length : Int) ≤ 200 := by have := h.fl; show (w.2.length : Int) ≤ 200; omega
  have := h.n1
  omega
end Go.Rg
namespace Go.Proofs.Ytkjcnegkdlmapaa
open Go Go.Vc Go.Rg
set_option linter.unusedVariables false
set_option linter.unusedSimpArgs false
def sm1 (y : List Int) : Prop := ∀ i, 0 ≤ y.getD i 0 ∧ y.getD i 0 ≤ 255
theorem sm1_wf {y : List Int} (h : (Ty.sl (.int .u8)).wf y) : sm1 y := fun i => by
  have h2 : ∀ z ∈ y, (Ty.int .u8).wf z := h.2
  by_cases hi : i < y.length
  · exact wf_u8 (h2 _ (getD_mem' (d := 0) hi))
  · have : y.getD i 0 = 0 := by simp [List.getD, List.getElem?_eq_none (Nat.le_of_not_lt hi)]
    rw [this]; decide
set_option maxRecDepth 100000 in
set_option maxHeartbeats 32000000 in
theorem RingLive_at {n : Int} {x : List U3.T} {os : List Int} (hn : 0 ≤ n ∧ n ≤ 255) (hx : sm3 x) (ho : sm1 os) : FnAt Try.prog false 7 [.lit (.int .u8 n), .arr U3 x, .arr (.int .u8) os] (.lit (.bool true)) [] := by
  have hmod : n.tmod 10 = n % 10 := Int.tmod_eq_emod_of_nonneg hn.1
  obtain ⟨s, hs⟩ : ∃ s : Nat, (s : Int) = n.tmod 10 + 1 := ⟨(n.tmod 10 + 1).toNat, by omega⟩
  have c1 := played_at hn hx hs
  have c2 := lives_at
  obtain ⟨w0, hwd⟩ : ∃ w, w = played s x := ⟨_, rfl⟩
  rw [← hwd] at c1
  have hw0 : WOk s w0 := by rw [hwd]; exact WOk.playF (WOk.beg (by omega) (by omega))
  obtain ⟨Es0, hE0⟩ := hw0.inv
  have hm0 := mu_start hw0 hE0
  have h3 := hw0.n1
  have h4 := hw0.n0
  have hl0 : @List.length HT.T w0.1 = s := hw0.len
  have hlo : @List.length (Ty.int .u8).T os = os.length := rfl
  refine FnAt.of_body tys_ok Try.func7 (by rfl) rfl Try.ntmps7 (by rw [Try.results7]) (by simp) ?_
  
  repeat' (first
 | refine W.seq ?_
 | refine W.block ?_
 | (refine W.regionM (id := 1) tys_ok [] [2] ?_; conv => whnf)
 | (refine W.region tys_ok [] ?_; conv => whnf)
 | (refine W.drawAll tys_ok [] mixed rfl ?_; conv => whnf)
 | (refine W.ret ?_; conv => whnf)
 | (refine W.skip ?_; conv => whnf)
 | (refine W.exit ?_; conv => whnf)
 | (refine callM_at (c1) ?_; conv => whnf)
 | (refine call_at (al := false) (c2) rfl rfl rfl rfl ?_; conv => whnf)
 | (refine W.cond rfl (fun hb => ?_) (fun hb => ?_) <;> (try simp only [Int.reduceToNat, Int.reduceTDiv, Int.reduceTMod, minL, maxL, pickB, zHB, zSH] at hb) <;> (try (first | (cases hb; done) | exact absurd hb (by decide) | (exfalso; omega) | (omega))))
 | (refine Or.inl (And.intro ?_ ?_); (focus (first | exact trivial | exact ⟨rfl, trivial⟩ | (refine ⟨?_, trivial⟩; dsimp only; simp only [Int.reduceToNat, Int.reduceTDiv, Int.reduceTMod, minL, maxL, pickB, zHB, zSH]; omega) | (refine ⟨?_, trivial⟩; dsimp only; (try simp only [Int.reduceToNat, Int.reduceTDiv, Int.reduceTMod, minL, maxL, pickB, zHB, zSH]); (simp_all; done)) | (refine ⟨?_, trivial⟩; dsimp only; (simp only [Int.reduceToNat, Int.reduceTDiv, Int.reduceTMod, minL, maxL, pickB, zHB, zSH]; done)) | (refine ⟨?_, trivial⟩; dsimp only; (simp; done)))); (conv => whnf))
 | (refine Or.inr (And.intro ?_ ?_); (focus (intro h; have h := h.1; dsimp only at h; first | (exact Bool.noConfusion h) | (simp only [Int.reduceToNat, Int.reduceTDiv, Int.reduceTMod, minL, maxL, pickB, zHB, zSH] at h; omega) | ((try simp only [Int.reduceToNat, Int.reduceTDiv, Int.reduceTMod, minL, maxL, pickB, zHB, zSH] at h); (simp_all; done)))); (conv => whnf))
 | ((with_reducible refine And.intro ?_ ?_); (focus (first | (with_reducible rfl) | omega | rfl | ((try simp only [Int.reduceToNat, Int.reduceTDiv, Int.reduceTMod, minL, maxL, pickB, zHB, zSH, InK, Path.imp, zL] at *); omega))); (conv => whnf))
 | ((with_reducible refine And.intro (Side.out ?_) ?_); rotate_left; (conv => whnf))
 | ((first | refine retF1 ?_ | refine retF2 ?_) <;> (conv => whnf) <;> repeat' (first
 | exact trivial
 | (with_reducible rfl)
 | ((with_reducible refine And.intro ?_ ?_) <;> conv => whnf)
 | omega
 | rfl
 | (refine congrArg (SV.arr _) ?_)
 | (refine congrArg (Value.int _) ?_)
 | (refine congrArg Value.bool ?_)))); all_goals (try unfold Side)
  all_goals try (repeat' (first | (with_reducible rfl) | (with_reducible refine And.intro ?_ ?_) | omega | rfl | exact Or.inl rfl | exact Or.inr rfl | exact of_decide_eq_true rfl | exact Path.imp_of (of_decide_eq_true rfl) | (focus ((try simp only [Int.reduceToNat, Int.reduceTDiv, Int.reduceTMod, minL, maxL, pickB, zHB, zSH, InK, Path.imp, zL] at *); omega)) | (refine app_le rfl ?_; omega)))
  refine W.loop (fun p : Nat × Wk => ⟨[(2, .st false (.arr (.int .u8) (os : List Int))), (7, .padr 6000 0), (9, (.lit (.int .i64 (s : Int)))), (10, (.lit (.int .i64 (p.1 : Int))))], [(6000, .box [.own 6001, .own 6002]), (6001, .row 96 HT true (p.2).1), (6002, .row 50 LT true (p.2).2)]⟩) (fun p => p.1 ≤ 620 ∧ WOk s p.2 ∧ ∃ Es, WI s (wnOf p.2) Es ∧ mu (wnOf p.2) Es + p.1 ≤ 620) (fun p => 3000 - p.1) ((0, w0)) ?_ ?_
  · refine ⟨⟨Nat.zero_le _, hw0, Es0, hE0, by dsimp only; omega⟩, ?_⟩
    refine subF.ok ?_ <;> (conv => whnf) <;> repeat' (first
 | exact trivial
 | (with_reducible rfl)
 | ((with_reducible refine And.intro ?_ ?_) <;> conv => whnf)
 | omega
 | rfl
 | (refine congrArg (SV.arr _) ?_)
 | (refine congrArg (Value.int _) ?_)
 | (refine congrArg Value.bool ?_))
    all_goals first | exact congrArg Int.ofNat hw0.len | exact (congrArg Int.ofNat hw0.len).symm | skip
  · rintro ⟨t, w⟩ ⟨ht, hw, Es, hE, hmu⟩
    dsimp only at ht hw hE hmu ⊢
    have hwl := hw.len
    have hwf := hw.fl
    have hmn := mu_nn (t := wnOf w) (Es := Es)
    have hos := ho (t % os.length)
    obtain ⟨v, hv⟩ : ∃ v : Int, v = if 0 < os.length then os.getD (t % os.length) 0 else (t : Int) := ⟨_, rfl⟩
    have hv0 : 0 ≤ v ∧ v ≤ 620 := by rw [hv]; split <;> omega
    have hv1 : 0 < os.length → os.getD (t % os.length) 0 = v := fun h => by rw [hv, if_pos h]
    have hv2 : ¬ 0 < os.length → (t : Int) = v := fun h => by rw [hv, if_neg h]
    have htm : 0 < os.length → ((t : Int).tmod (os.length : Int)) = ((t % os.length : Nat) : Int) := fun h => (Int.ofNat_tmod _ _).symm
    have htl : 0 < os.length → t % os.length < os.length := fun h => Nat.mod_lt _ h
    obtain ⟨a, ha⟩ : ∃ a : Nat, (a : Int) = v.tmod (s : Int) := ⟨(v.tmod (s : Int)).toNat, by have := Int.tmod_nonneg (s : Int) hv0.1; omega⟩
    have has : a < s := by have := Int.tmod_lt_of_pos v (b := (s : Int)) (by omega); omega
    -- BODY
    have hv3 : 0 < os.length → os.getD ((t : Int).tmod (os.length : Int)).toNat 0 = v := fun h => by rw [htm h, Int.toNat_natCast]; exact hv1 h
    have hv4 : 0 < os.length → 0 ≤ (t : Int).tmod (os.length : Int) ∧ ((t : Int).tmod (os.length : Int)).toNat < os.length := fun h => by rw [htm h, Int.toNat_natCast]; have := htl h; omega
    have hv5 : 0 < os.length → InK .i64 (os.getD ((t : Int).tmod (os.length : Int)).toNat 0) := fun h => by rw [hv3 h]; exact ⟨by omega, by omega⟩
    obtain ⟨w1, hw1⟩ : ∃ w1, w1 = idleK (a : Int) w := ⟨_, rfl⟩
    obtain ⟨e1, he1⟩ : ∃ e : Int, e = idleE (a : Int) w := ⟨_, rfl⟩
    have hk1 : WOk s w1 := by rw [hw1]; exact hw.idle
    have d1 := idle_at (i := (a : Int)) hw he1.symm hw1.symm
    have hes : e1 = 0 ∨ e1 = 5 ∨ e1 = 7 := by rw [he1]; exact idleE_some (by omega)
    obtain ⟨Es1, hE1, hm1, _⟩ := idle_mu hw hE has
    rw [← hw1] at hE1 hm1
    have hf1 := hk1.fl
    have hl1 := hk1.len
    have d2 := flight_at (hs := w1.1) (fl := w1.2) (by omega) (by omega)
    have hlf1 : @List.length LT.T w1.2 = w1.2.length := rfl
    by_cases hemp : w1.2.length = 0
    · repeat' (first
 | refine W.seq ?_
 | refine W.block ?_
 | (refine W.resub (x := Code.region 11 _ _) (Γ' := ⟨[(2, .st false (.arr (.int .u8) (os : List Int))), (7, .padr 6000 0), (9, (.lit (.int .i64 (s : Int)))), (10, (.lit (.int .i64 (t : Int)))), (11, (.lit (.int .i64 (v : Int))))], [(6000, .box [.own 6001, .own 6002]), (6001, .row 96 HT true (w).1), (6002, .row 50 LT true (w).2)]⟩) ?_ (W.region tys_ok [] ?_); rotate_left; (conv => whnf))
 | (refine W.resub (x := Code.region 12 _ _) (Γ' := ⟨[(2, .st false (.arr (.int .u8) (os : List Int))), (7, .padr 6000 0), (9, (.lit (.int .i64 (s : Int)))), (10, (.lit (.int .i64 (t : Int)))), (11, (.lit (.int .i64 (v : Int)))), (12, (.lit (.int .i64 (a : Int))))], [(6000, .box [.own 6001, .own 6002]), (6001, .row 96 HT true (w).1), (6002, .row 50 LT true (w).2)]⟩) ?_ (W.regionM tys_ok [] [2] ?_); rotate_left; (conv => whnf))
 | (refine W.resub (x := Code.region 15 _ _) (Γ' := ⟨[(2, .st false (.arr (.int .u8) (os : List Int))), (7, .padr 6000 0), (9, (.lit (.int .i64 (s : Int)))), (10, (.lit (.int .i64 (t : Int)))), (11, (.lit (.int .i64 (v : Int)))), (13, (.lit (.int .i64 (e1 : Int))))], [(6000, .box [.own 6001, .own 6002]), (6001, .row 96 HT true (w1).1), (6002, .row 50 LT true (w1).2)]⟩) ?_ (W.regionM tys_ok [] [1] ?_); rotate_left; (conv => whnf))
 | (refine W.region tys_ok [] ?_; conv => whnf)
 | (refine W.drawAll tys_ok [] mixed rfl ?_; conv => whnf)
 | (refine W.ret ?_; conv => whnf)
 | (refine W.skip ?_; conv => whnf)
 | (refine W.exit ?_; conv => whnf)
 | (refine callM_at (d1) ?_; conv => whnf)
 | (refine callM_at (d2) ?_; conv => whnf)
 | (refine W.cond rfl (fun hb => ?_) (fun hb => ?_) <;> (try simp only [Int.reduceToNat, Int.reduceTDiv, Int.reduceTMod, minL, maxL, pickB, zHB, zSH] at hb) <;> (try (first | (cases hb; done) | exact absurd hb (by decide) | (exfalso; omega) | (omega) | ((simp [pickB] at hb; omega)))))
 | (refine Or.inl (And.intro ?_ ?_); (focus (first | exact trivial | exact ⟨rfl, trivial⟩ | (refine ⟨?_, trivial⟩; dsimp only; simp only [Int.reduceToNat, Int.reduceTDiv, Int.reduceTMod, minL, maxL, pickB, zHB, zSH]; omega) | (refine ⟨?_, trivial⟩; dsimp only; (try simp only [Int.reduceToNat, Int.reduceTDiv, Int.reduceTMod, minL, maxL, pickB, zHB, zSH]); (simp_all; done)) | (refine ⟨?_, trivial⟩; dsimp only; (simp only [Int.reduceToNat, Int.reduceTDiv, Int.reduceTMod, minL, maxL, pickB, zHB, zSH]; done)) | (refine ⟨?_, trivial⟩; dsimp only; (simp; done)))); (conv => whnf))
 | (refine Or.inr (And.intro ?_ ?_); (focus (intro h; have h := h.1; dsimp only at h; first | (exact Bool.noConfusion h) | (simp only [Int.reduceToNat, Int.reduceTDiv, Int.reduceTMod, minL, maxL, pickB, zHB, zSH] at h; omega) | ((try simp only [Int.reduceToNat, Int.reduceTDiv, Int.reduceTMod, minL, maxL, pickB, zHB, zSH] at h); (simp_all; done)))); (conv => whnf))
 | ((with_reducible refine And.intro ?_ ?_); (focus (first | (with_reducible rfl) | omega | rfl | ((try simp only [Int.reduceToNat, Int.reduceTDiv, Int.reduceTMod, minL, maxL, pickB, zHB, zSH, InK, Path.imp, zL] at *); omega))); (conv => whnf))
 | ((with_reducible refine And.intro (Side.out ?_) ?_); rotate_left; (conv => whnf))
 | ((first | refine retF1 ?_ | refine retF2 ?_) <;> (conv => whnf) <;> repeat' (first
 | exact trivial
 | (with_reducible rfl)
 | ((with_reducible refine And.intro ?_ ?_) <;> conv => whnf)
 | omega
 | rfl
 | (refine congrArg (SV.arr _) ?_)
 | (refine congrArg (Value.int _) ?_)
 | (refine congrArg Value.bool ?_)))); all_goals (try unfold Side)
      all_goals try (repeat' (first | (with_reducible rfl) | (with_reducible refine And.intro ?_ ?_) | omega | rfl | exact Or.inl rfl | exact Or.inr rfl | exact of_decide_eq_true rfl | exact Path.imp_of (of_decide_eq_true rfl) | (focus ((try simp only [Int.reduceToNat, Int.reduceTDiv, Int.reduceTMod, minL, maxL, pickB, zHB, zSH, InK, Path.imp, zL] at *); omega)) | (refine app_le rfl ?_; omega)))
      all_goals try refine subF.ok ?_ <;> (conv => whnf) <;> repeat' (first
 | exact trivial
 | (with_reducible rfl)
 | ((with_reducible refine And.intro ?_ ?_) <;> conv => whnf)
 | omega
 | rfl
 | (refine congrArg (SV.arr _) ?_)
 | (refine congrArg (Value.int _) ?_)
 | (refine congrArg Value.bool ?_))
      all_goals first | exact ha.symm | exact hv3 (by omega) | exact hv2 (by omega) | exact Path.imp_of (hv5 (by omega)) | exact Path.imp_of (hv4 (by omega)) | exact (hv4 (by omega)).2 | skip
      all_goals
        refine W.loop (fun q : Nat × Wk => ⟨[(2, .st false (.arr (.int .u8) (os : List Int))), (7, .padr 6000 0), (9, (.lit (.int .i64 (s : Int)))), (10, (.lit (.int .i64 (t : Int)))), (11, (.lit (.int .i64 (v : Int)))), (15, (.lit (.int .i64 (q.1 : Int))))], [(6000, .box [.own 6001, .own 6002]), (6001, .row 96 HT true (q.2).1), (6002, .row 50 LT true (q.2).2)]⟩) (fun q => q.1 ≤ s ∧ WOk s q.2 ∧ (∃ Eu, WI s (wnOf q.2) Eu ∧ mu (wnOf q.2) Eu ≤ mu (wnOf w1) Es1 ∧ (q.2.2 = [] ∨ mu (wnOf q.2) Eu + 1 ≤ mu (wnOf w1) Es1)) ∧ q.2.2.length ≤ q.1 ∧ ∀ j, j < q.1 → gw q.2.1 j = false) (fun q => s - q.1) ((0, w1)) ?_ ?_
        · refine ⟨⟨Nat.zero_le _, hk1, ⟨Es1, hE1, Int.le_refl _, .inl (List.eq_nil_of_length_eq_zero hemp)⟩, by dsimp only; omega, fun j hj => absurd hj (Nat.not_lt_zero _)⟩, ?_⟩
          refine subF.ok ?_ <;> (conv => whnf) <;> repeat' (first
 | exact trivial
 | (with_reducible rfl)
 | ((with_reducible refine And.intro ?_ ?_) <;> conv => whnf)
 | omega
 | rfl
 | (refine congrArg (SV.arr _) ?_)
 | (refine congrArg (Value.int _) ?_)
 | (refine congrArg Value.bool ?_))
        · rintro ⟨k, u⟩ ⟨hk, hku, ⟨Eu, hEu, hmu1, hmu2⟩, hulen, hoff⟩
          dsimp only at hk hku hEu hmu1 hmu2 hulen hoff ⊢
          have hul := hku.len
          by_cases hks : k < s
          · obtain ⟨u2, hu2⟩ : ∃ u2, u2 = idleK (k : Int) u := ⟨_, rfl⟩
            obtain ⟨e2, he2⟩ : ∃ e : Int, e = idleE (k : Int) u := ⟨_, rfl⟩
            have hku2 : WOk s u2 := by rw [hu2]; exact hku.idle
            have d3 := idle_at (i := (k : Int)) hku he2.symm hu2.symm
            obtain ⟨Eu2, q1, q2, q3⟩ := idle_mu hku hEu hks
            obtain ⟨r1, r2, r3⟩ := idle_off hku hks (by omega)
            rw [← hu2] at q1 q2 q3 r1 r2 r3
            repeat' (first
 | refine W.seq ?_
 | refine W.block ?_
 | (refine W.regionM (id := 20) tys_ok [] [2] ?_; conv => whnf)
 | (refine W.region tys_ok [] ?_; conv => whnf)
 | (refine W.drawAll tys_ok [] mixed rfl ?_; conv => whnf)
 | (refine W.ret ?_; conv => whnf)
 | (refine W.skip ?_; conv => whnf)
 | (refine W.exit ?_; conv => whnf)
 | (refine callM_at (d3) ?_; conv => whnf)
 | (refine W.cond rfl (fun hb => ?_) (fun hb => ?_) <;> (try simp only [Int.reduceToNat, Int.reduceTDiv, Int.reduceTMod, minL, maxL, pickB, zHB, zSH] at hb) <;> (try (first | (cases hb; done) | exact absurd hb (by decide) | (exfalso; omega) | (omega))))
 | (refine Or.inl (And.intro ?_ ?_); (focus (first | exact trivial | exact ⟨rfl, trivial⟩ | (refine ⟨?_, trivial⟩; dsimp only; simp only [Int.reduceToNat, Int.reduceTDiv, Int.reduceTMod, minL, maxL, pickB, zHB, zSH]; omega) | (refine ⟨?_, trivial⟩; dsimp only; (try simp only [Int.reduceToNat, Int.reduceTDiv, Int.reduceTMod, minL, maxL, pickB, zHB, zSH]); (simp_all; done)) | (refine ⟨?_, trivial⟩; dsimp only; (simp only [Int.reduceToNat, Int.reduceTDiv, Int.reduceTMod, minL, maxL, pickB, zHB, zSH]; done)) | (refine ⟨?_, trivial⟩; dsimp only; (simp; done)))); (conv => whnf))
 | (refine Or.inr (And.intro ?_ ?_); (focus (intro h; have h := h.1; dsimp only at h; first | (exact Bool.noConfusion h) | (simp only [Int.reduceToNat, Int.reduceTDiv, Int.reduceTMod, minL, maxL, pickB, zHB, zSH] at h; omega) | ((try simp only [Int.reduceToNat, Int.reduceTDiv, Int.reduceTMod, minL, maxL, pickB, zHB, zSH] at h); (simp_all; done)))); (conv => whnf))
 | ((with_reducible refine And.intro ?_ ?_); (focus (first | (with_reducible rfl) | omega | rfl | ((try simp only [Int.reduceToNat, Int.reduceTDiv, Int.reduceTMod, minL, maxL, pickB, zHB, zSH, InK, Path.imp, zL] at *); omega))); (conv => whnf))
 | ((with_reducible refine And.intro (Side.out ?_) ?_); rotate_left; (conv => whnf))
 | ((first | refine retF1 ?_ | refine retF2 ?_) <;> (conv => whnf) <;> repeat' (first
 | exact trivial
 | (with_reducible rfl)
 | ((with_reducible refine And.intro ?_ ?_) <;> conv => whnf)
 | omega
 | rfl
 | (refine congrArg (SV.arr _) ?_)
 | (refine congrArg (Value.int _) ?_)
 | (refine congrArg Value.bool ?_)))); all_goals (try unfold Side)
            all_goals try (repeat' (first | (with_reducible rfl) | (with_reducible refine And.intro ?_ ?_) | omega | rfl | exact Or.inl rfl | exact Or.inr rfl | exact of_decide_eq_true rfl | exact Path.imp_of (of_decide_eq_true rfl) | (focus ((try simp only [Int.reduceToNat, Int.reduceTDiv, Int.reduceTMod, minL, maxL, pickB, zHB, zSH, InK, Path.imp, zL] at *); omega)) | (refine app_le rfl ?_; omega)))
            refine ⟨(k + 1, u2), ⟨⟨by dsimp only; omega, hku2, ⟨Eu2, q1, by dsimp only; omega, ?_⟩, by dsimp only; omega, fun j hj => ?_⟩, by dsimp only; omega⟩, ?_⟩
            · dsimp only
              rcases q3 with q3 | q3
              · rcases hmu2 with h | h
                · exact .inl (q3.trans h)
                · exact .inr (by omega)
              · exact .inr (by omega)
            · dsimp only at hj ⊢
              by_cases hjk : j = k
              · rw [hjk]; exact r1
              · exact r2 j (hoff j (by omega))
            · refine subF.ok ?_ <;> (conv => whnf) <;> repeat' (first
 | exact trivial
 | (with_reducible rfl)
 | ((with_reducible refine And.intro ?_ ?_) <;> conv => whnf)
 | omega
 | rfl
 | (refine congrArg (SV.arr _) ?_)
 | (refine congrArg (Value.int _) ?_)
 | (refine congrArg Value.bool ?_))
          · have hks2 : k = s := by omega
            subst hks2
            have d4 := flight_at (hs := u.1) (fl := u.2) (by omega) (by have := hku.fl; omega)
            have hlu : @List.length LT.T u.2 = u.2.length := rfl
            by_cases hue : u.2.length = 0
            · have hen := quiet_end hku hoff (List.eq_nil_of_length_eq_zero hue)
              have g1 := ended_at (hs := u.1) (fl := u.2) (b := true) (by omega) hen.symm
              obtain ⟨o1, o2⟩ := ended_over hku hen
              have g2 := over_at (hs := u.1) (fl := u.2) (by omega) (by omega) (by omega) o1 o2
              rw [hul] at g2
              repeat' (first
 | refine W.seq ?_
 | refine W.block ?_
 | (refine W.regionM (id := 21) tys_ok [] [1] ?_; conv => whnf)
 | (refine W.regionM (id := 24) tys_ok [] [1,5] ?_; conv => whnf)
 | (refine W.region tys_ok [] ?_; conv => whnf)
 | (refine W.drawAll tys_ok [] mixed rfl ?_; conv => whnf)
 | (refine W.ret ?_; conv => whnf)
 | (refine W.skip ?_; conv => whnf)
 | (refine W.exit ?_; conv => whnf)
 | (refine callM_at (d4) ?_; conv => whnf)
 | (refine callM_at (g1) ?_; conv => whnf)
 | (refine callM_at (g2) ?_; conv => whnf)
 | (refine W.cond rfl (fun hb => ?_) (fun hb => ?_) <;> (try simp only [Int.reduceToNat, Int.reduceTDiv, Int.reduceTMod, minL, maxL, pickB, zHB, zSH] at hb) <;> (try (first | (cases hb; done) | exact absurd hb (by decide) | (exfalso; omega) | (omega))))
 | (refine Or.inl (And.intro ?_ ?_); (focus (first | exact trivial | exact ⟨rfl, trivial⟩ | (refine ⟨?_, trivial⟩; dsimp only; simp only [Int.reduceToNat, Int.reduceTDiv, Int.reduceTMod, minL, maxL, pickB, zHB, zSH]; omega) | (refine ⟨?_, trivial⟩; dsimp only; (try simp only [Int.reduceToNat, Int.reduceTDiv, Int.reduceTMod, minL, maxL, pickB, zHB, zSH]); (simp_all; done)) | (refine ⟨?_, trivial⟩; dsimp only; (simp only [Int.reduceToNat, Int.reduceTDiv, Int.reduceTMod, minL, maxL, pickB, zHB, zSH]; done)) | (refine ⟨?_, trivial⟩; dsimp only; (simp; done)))); (conv => whnf))
 | (refine Or.inr (And.intro ?_ ?_); (focus (intro h; have h := h.1; dsimp only at h; first | (exact Bool.noConfusion h) | (simp only [Int.reduceToNat, Int.reduceTDiv, Int.reduceTMod, minL, maxL, pickB, zHB, zSH] at h; omega) | ((try simp only [Int.reduceToNat, Int.reduceTDiv, Int.reduceTMod, minL, maxL, pickB, zHB, zSH] at h); (simp_all; done)))); (conv => whnf))
 | ((with_reducible refine And.intro ?_ ?_); (focus (first | (with_reducible rfl) | omega | rfl | ((try simp only [Int.reduceToNat, Int.reduceTDiv, Int.reduceTMod, minL, maxL, pickB, zHB, zSH, InK, Path.imp, zL] at *); omega))); (conv => whnf))
 | ((with_reducible refine And.intro (Side.out ?_) ?_); rotate_left; (conv => whnf))
 | ((first | refine retF1 ?_ | refine retF2 ?_) <;> (conv => whnf) <;> repeat' (first
 | exact trivial
 | (with_reducible rfl)
 | ((with_reducible refine And.intro ?_ ?_) <;> conv => whnf)
 | omega
 | rfl
 | (refine congrArg (SV.arr _) ?_)
 | (refine congrArg (Value.int _) ?_)
 | (refine congrArg Value.bool ?_)))); all_goals (try unfold Side)
              all_goals try (repeat' (first | (with_reducible rfl) | (with_reducible refine And.intro ?_ ?_) | omega | rfl | exact Or.inl rfl | exact Or.inr rfl | exact of_decide_eq_true rfl | exact Path.imp_of (of_decide_eq_true rfl) | (focus ((try simp only [Int.reduceToNat, Int.reduceTDiv, Int.reduceTMod, minL, maxL, pickB, zHB, zSH, InK, Path.imp, zL] at *); omega)) | (refine app_le rfl ?_; omega)))
            · have hmu3 : mu (wnOf u) Eu + 1 ≤ mu (wnOf w1) Es1 := by
                rcases hmu2 with h | h
                · rw [h] at hue; exact absurd rfl hue
                · exact h
              have hmn2 := mu_nn (t := wnOf u) (Es := Eu)
              repeat' (first
 | refine W.seq ?_
 | refine W.block ?_
 | (refine W.regionM (id := 21) tys_ok [] [1] ?_; conv => whnf)
 | (refine W.region tys_ok [] ?_; conv => whnf)
 | (refine W.drawAll tys_ok [] mixed rfl ?_; conv => whnf)
 | (refine W.ret ?_; conv => whnf)
 | (refine W.skip ?_; conv => whnf)
 | (refine W.exit ?_; conv => whnf)
 | (refine callM_at (d4) ?_; conv => whnf)
 | (refine W.cond rfl (fun hb => ?_) (fun hb => ?_) <;> (try simp only [Int.reduceToNat, Int.reduceTDiv, Int.reduceTMod, minL, maxL, pickB, zHB, zSH] at hb) <;> (try (first | (cases hb; done) | exact absurd hb (by decide) | (exfalso; omega) | (omega))))
 | (refine Or.inl (And.intro ?_ ?_); (focus (first | exact trivial | exact ⟨rfl, trivial⟩ | (refine ⟨?_, trivial⟩; dsimp only; simp only [Int.reduceToNat, Int.reduceTDiv, Int.reduceTMod, minL, maxL, pickB, zHB, zSH]; omega) | (refine ⟨?_, trivial⟩; dsimp only; (try simp only [Int.reduceToNat, Int.reduceTDiv, Int.reduceTMod, minL, maxL, pickB, zHB, zSH]); (simp_all; done)) | (refine ⟨?_, trivial⟩; dsimp only; (simp only [Int.reduceToNat, Int.reduceTDiv, Int.reduceTMod, minL, maxL, pickB, zHB, zSH]; done)) | (refine ⟨?_, trivial⟩; dsimp only; (simp; done)))); (conv => whnf))
 | (refine Or.inr (And.intro ?_ ?_); (focus (intro h; have h := h.1; dsimp only at h; first | (exact Bool.noConfusion h) | (simp only [Int.reduceToNat, Int.reduceTDiv, Int.reduceTMod, minL, maxL, pickB, zHB, zSH] at h; omega) | ((try simp only [Int.reduceToNat, Int.reduceTDiv, Int.reduceTMod, minL, maxL, pickB, zHB, zSH] at h); (simp_all; done)))); (conv => whnf))
 | ((with_reducible refine And.intro ?_ ?_); (focus (first | (with_reducible rfl) | omega | rfl | ((try simp only [Int.reduceToNat, Int.reduceTDiv, Int.reduceTMod, minL, maxL, pickB, zHB, zSH, InK, Path.imp, zL] at *); omega))); (conv => whnf))
 | ((with_reducible refine And.intro (Side.out ?_) ?_); rotate_left; (conv => whnf))
 | ((first | refine retF1 ?_ | refine retF2 ?_) <;> (conv => whnf) <;> repeat' (first
 | exact trivial
 | (with_reducible rfl)
 | ((with_reducible refine And.intro ?_ ?_) <;> conv => whnf)
 | omega
 | rfl
 | (refine congrArg (SV.arr _) ?_)
 | (refine congrArg (Value.int _) ?_)
 | (refine congrArg Value.bool ?_)))); all_goals (try unfold Side)
              all_goals try (repeat' (first | (with_reducible rfl) | (with_reducible refine And.intro ?_ ?_) | omega | rfl | exact Or.inl rfl | exact Or.inr rfl | exact of_decide_eq_true rfl | exact Path.imp_of (of_decide_eq_true rfl) | (focus ((try simp only [Int.reduceToNat, Int.reduceTDiv, Int.reduceTMod, minL, maxL, pickB, zHB, zSH, InK, Path.imp, zL] at *); omega)) | (refine app_le rfl ?_; omega)))
              refine ⟨(t + 1, u), ⟨⟨by dsimp only; omega, hku, Eu, hEu, by dsimp only; omega⟩, by dsimp only; omega⟩, ?_⟩
              refine subF.ok ?_ <;> (conv => whnf) <;> repeat' (first
 | exact trivial
 | (with_reducible rfl)
 | ((with_reducible refine And.intro ?_ ?_) <;> conv => whnf)
 | omega
 | rfl
 | (refine congrArg (SV.arr _) ?_)
 | (refine congrArg (Value.int _) ?_)
 | (refine congrArg Value.bool ?_))
    · obtain ⟨kk, hkk⟩ : ∃ kk : Nat, (kk : Int) = v.tmod (w1.2.length : Int) := ⟨(v.tmod (w1.2.length : Int)).toNat, by have := Int.tmod_nonneg (w1.2.length : Int) hv0.1; omega⟩
      have hkl : kk < w1.2.length := by have := Int.tmod_lt_of_pos v (b := (w1.2.length : Int)) (by omega); omega
      obtain ⟨w2, hw2⟩ : ∃ w2, w2 = delK (kk : Int) w1 := ⟨_, rfl⟩
      have hk2 : WOk s w2 := by rw [hw2]; exact hk1.del
      have d5 := deliver_at (k := (kk : Int)) hk1 (delE_zero hkl) hw2.symm
      rw [hkk] at d5
      obtain ⟨Es2, hE2, hm2⟩ := del_mu hk1 hE1 hkl
      rw [← hw2] at hE2 hm2
      have hmn2 := mu_nn (t := wnOf w2) (Es := Es2)
      repeat' (first
 | refine W.seq ?_
 | refine W.block ?_
 | (refine W.resub (x := Code.region 11 _ _) (Γ' := ⟨[(2, .st false (.arr (.int .u8) (os : List Int))), (7, .padr 6000 0), (9, (.lit (.int .i64 (s : Int)))), (10, (.lit (.int .i64 (t : Int)))), (11, (.lit (.int .i64 (v : Int))))], [(6000, .box [.own 6001, .own 6002]), (6001, .row 96 HT true (w).1), (6002, .row 50 LT true (w).2)]⟩) ?_ (W.region tys_ok [] ?_); rotate_left; (conv => whnf))
 | (refine W.resub (x := Code.region 12 _ _) (Γ' := ⟨[(2, .st false (.arr (.int .u8) (os : List Int))), (7, .padr 6000 0), (9, (.lit (.int .i64 (s : Int)))), (10, (.lit (.int .i64 (t : Int)))), (11, (.lit (.int .i64 (v : Int)))), (12, (.lit (.int .i64 (a : Int))))], [(6000, .box [.own 6001, .own 6002]), (6001, .row 96 HT true (w).1), (6002, .row 50 LT true (w).2)]⟩) ?_ (W.regionM tys_ok [] [2] ?_); rotate_left; (conv => whnf))
 | (refine W.resub (x := Code.region 15 _ _) (Γ' := ⟨[(2, .st false (.arr (.int .u8) (os : List Int))), (7, .padr 6000 0), (9, (.lit (.int .i64 (s : Int)))), (10, (.lit (.int .i64 (t : Int)))), (11, (.lit (.int .i64 (v : Int)))), (13, (.lit (.int .i64 (e1 : Int))))], [(6000, .box [.own 6001, .own 6002]), (6001, .row 96 HT true (w1).1), (6002, .row 50 LT true (w1).2)]⟩) ?_ (W.regionM tys_ok [] [1] ?_); rotate_left; (conv => whnf))
 | (refine W.regionM (id := 22) tys_ok [] [5] ?_; conv => whnf)
 | (refine W.region tys_ok [] ?_; conv => whnf)
 | (refine W.drawAll tys_ok [] mixed rfl ?_; conv => whnf)
 | (refine W.ret ?_; conv => whnf)
 | (refine W.skip ?_; conv => whnf)
 | (refine W.exit ?_; conv => whnf)
 | (refine callM_at (d1) ?_; conv => whnf)
 | (refine callM_at (d2) ?_; conv => whnf)
 | (refine callM_at (d5) ?_; conv => whnf)
 | (refine W.cond rfl (fun hb => ?_) (fun hb => ?_) <;> (try simp only [Int.reduceToNat, Int.reduceTDiv, Int.reduceTMod, minL, maxL, pickB, zHB, zSH] at hb) <;> (try (first | (cases hb; done) | exact absurd hb (by decide) | (exfalso; omega) | (omega) | ((simp [pickB] at hb; omega)))))
 | (refine Or.inl (And.intro ?_ ?_); (focus (first | exact trivial | exact ⟨rfl, trivial⟩ | (refine ⟨?_, trivial⟩; dsimp only; simp only [Int.reduceToNat, Int.reduceTDiv, Int.reduceTMod, minL, maxL, pickB, zHB, zSH]; omega) | (refine ⟨?_, trivial⟩; dsimp only; (try simp only [Int.reduceToNat, Int.reduceTDiv, Int.reduceTMod, minL, maxL, pickB, zHB, zSH]); (simp_all; done)) | (refine ⟨?_, trivial⟩; dsimp only; (simp only [Int.reduceToNat, Int.reduceTDiv, Int.reduceTMod, minL, maxL, pickB, zHB, zSH]; done)) | (refine ⟨?_, trivial⟩; dsimp only; (simp; done)))); (conv => whnf))
 | (refine Or.inr (And.intro ?_ ?_); (focus (intro h; have h := h.1; dsimp only at h; first | (exact Bool.noConfusion h) | (simp only [Int.reduceToNat, Int.reduceTDiv, Int.reduceTMod, minL, maxL, pickB, zHB, zSH] at h; omega) | ((try simp only [Int.reduceToNat, Int.reduceTDiv, Int.reduceTMod, minL, maxL, pickB, zHB, zSH] at h); (simp_all; done)))); (conv => whnf))
 | ((with_reducible refine And.intro ?_ ?_); (focus (first | (with_reducible rfl) | omega | rfl | ((try simp only [Int.reduceToNat, Int.reduceTDiv, Int.reduceTMod, minL, maxL, pickB, zHB, zSH, InK, Path.imp, zL] at *); omega))); (conv => whnf))
 | ((with_reducible refine And.intro (Side.out ?_) ?_); rotate_left; (conv => whnf))
 | ((first | refine retF1 ?_ | refine retF2 ?_) <;> (conv => whnf) <;> repeat' (first
 | exact trivial
 | (with_reducible rfl)
 | ((with_reducible refine And.intro ?_ ?_) <;> conv => whnf)
 | omega
 | rfl
 | (refine congrArg (SV.arr _) ?_)
 | (refine congrArg (Value.int _) ?_)
 | (refine congrArg Value.bool ?_)))); all_goals (try unfold Side)
      all_goals try (repeat' (first | (with_reducible rfl) | (with_reducible refine And.intro ?_ ?_) | omega | rfl | exact Or.inl rfl | exact Or.inr rfl | exact of_decide_eq_true rfl | exact Path.imp_of (of_decide_eq_true rfl) | (focus ((try simp only [Int.reduceToNat, Int.reduceTDiv, Int.reduceTMod, minL, maxL, pickB, zHB, zSH, InK, Path.imp, zL] at *); omega)) | (refine app_le rfl ?_; omega)))
      all_goals try refine subF.ok ?_ <;> (conv => whnf) <;> repeat' (first
 | exact trivial
 | (with_reducible rfl)
 | ((with_reducible refine And.intro ?_ ?_) <;> conv => whnf)
 | omega
 | rfl
 | (refine congrArg (SV.arr _) ?_)
 | (refine congrArg (Value.int _) ?_)
 | (refine congrArg Value.bool ?_))
      all_goals first | exact ha.symm | exact hv3 (by omega) | exact hv2 (by omega) | exact Path.imp_of (hv5 (by omega)) | exact Path.imp_of (hv4 (by omega)) | exact (hv4 (by omega)).2 | skip
      all_goals
        refine ⟨(t + 1, w2), ⟨⟨by dsimp only; omega, hk2, Es2, hE2, by dsimp only; omega⟩, by dsimp only; omega⟩, ?_⟩
        refine subF.ok ?_ <;> (conv => whnf) <;> repeat' (first
 | exact trivial
 | (with_reducible rfl)
 | ((with_reducible refine And.intro ?_ ?_) <;> conv => whnf)
 | omega
 | rfl
 | (refine congrArg (SV.arr _) ?_)
 | (refine congrArg (Value.int _) ?_)
 | (refine congrArg Value.bool ?_))
end Go.Proofs.Ytkjcnegkdlmapaa
