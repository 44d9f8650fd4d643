/- Joined of: K16 K17 Vc35. No condition. -/
import Derived.Test.YtkjcnegkdlmapaaJ10
import Derived.Test.YtkjcnegkdlmapaaJ7

namespace Go.Proofs.Ytkjcnegkdlmapaa
open Go Go.Vc Go.Rg
set_option linter.unusedVariables false
set_option linter.unusedSimpArgs false
abbrev U3 : Ty := .cons (.int .u8) (.cons (.int .u8) (.cons (.int .u8) .nil))
abbrev Tr3 := Int × Int × Int × Unit
@[reducible] def R0 : Tr3 := (0, 0, 0, ())
def sm3 (y : List Tr3) : Prop := ∀ i, (0 ≤ (y.getD i R0).1 ∧ (y.getD i R0).1 ≤ 255) ∧ (0 ≤ (y.getD i R0).2.1 ∧ (y.getD i R0).2.1 ≤ 255) ∧ 0 ≤ (y.getD i R0).2.2.1 ∧ (y.getD i R0).2.2.1 ≤ 255
theorem over_at {hs : List Hd} {fl : List Lt} (h0 : 0 < hs.length) (hn : hs.length ≤ 1000) (hfl : fl.length ≤ 1000) (hq : ∀ i, i < hs.length → gw hs i = false ∧ gp hs i = -1 ∧ go hs i = 0) (hf : ∀ k, k < fl.length → (fl.getD k L0).2.2.1 = true) :
    FnM Try.prog 23 [.padr 1000000000 0, (.lit (.int .i64 (hs.length : Int)))] [(1000000000, .box [.own 1000000001, .own 1000000002]), (1000000001, .row 96 HT true (hs)), (1000000002, .row 50 LT true (fl))] (.lit (.bool true)) [(1000000000, .box [.own 1000000001, .own 1000000002]), (1000000001, .row 96 HT true (hs)), (1000000002, .row 50 LT true (fl))] := by
  have hl : @List.length HT.T hs = hs.length := rfl
  have hlf : @List.length LT.T fl = fl.length := rfl
  have c1 := flight_at (fl := fl) h0 hfl
  refine FnM.of_body tys_ok Try.func23 (by rfl) rfl Try.ntmps23 (by rw [Try.results23]) (by simp) ?_
  
  repeat' (first
 | refine W.seq ?_
 | refine W.block ?_
 | (refine W.region tys_ok [] ?_; conv => whnf)
 | (refine W.drawAll tys_ok [] mixed rfl ?_; conv => whnf)
 | (refine W.ret ?_; conv => whnf)
 | (refine W.skip ?_; conv => whnf)
 | (refine W.exit ?_; conv => whnf)
 | (refine W.cond rfl (fun hb => ?_) (fun hb => ?_) <;> (try simp only [Int.reduceToNat, Int.reduceTDiv, Int.reduceTMod, minL, maxL, pickB, zHB, zSH] at hb) <;> (try (first | (cases hb; done) | exact absurd hb (by decide) | (exfalso; omega) | (omega))))
 | ((with_reducible refine And.intro ?_ ?_); (focus (first | (with_reducible rfl) | omega | rfl | ((try simp only [Int.reduceToNat, Int.reduceTDiv, Int.reduceTMod, minL, maxL, pickB, zHB, zSH, InK, Path.imp, zL] at *); omega))); (conv => whnf))
 | ((with_reducible refine And.intro (Side.out ?_) ?_); rotate_left; (conv => whnf))
 | ((first | refine retM1 ?_ | refine retM2 ?_) <;> (conv => whnf) <;> repeat' (first
 | exact trivial
 | (with_reducible rfl)
 | ((with_reducible refine And.intro ?_ ?_) <;> conv => whnf)
 | omega
 | rfl
 | (refine congrArg (SV.arr _) ?_)
 | (refine congrArg (Value.int _) ?_)
 | (refine congrArg Value.bool ?_)))); all_goals (try unfold Side)
  all_goals try (repeat' (first | (with_reducible rfl) | (with_reducible refine And.intro ?_ ?_) | omega | rfl | exact Or.inl rfl | exact Or.inr rfl | exact of_decide_eq_true rfl | exact Path.imp_of (of_decide_eq_true rfl) | (focus ((try simp only [Int.reduceToNat, Int.reduceTDiv, Int.reduceTMod, minL, maxL, pickB, zHB, zSH, InK, Path.imp, zL] at *); omega)) | (refine app_le rfl ?_; omega)))
  refine W.loop (fun i : Nat => ⟨[(0, .padr 1000000000 0), (1, (.lit (.int .i64 (hs.length : Int)))), (5, (.lit (.int .i64 (i : Int))))], [(1000000000, .box [.own 1000000001, .own 1000000002]), (1000000001, .row 96 HT true (hs)), (1000000002, .row 50 LT true (fl))]⟩) (fun i => i ≤ hs.length) (fun i => hs.length - i) (0) ?_ ?_
  · refine ⟨Nat.zero_le _, ?_⟩
    refine subF.ok ?_ <;> (conv => whnf) <;> repeat' (first
 | exact trivial
 | (with_reducible rfl)
 | ((with_reducible refine And.intro ?_ ?_) <;> conv => whnf)
 | omega
 | rfl
 | (refine congrArg (SV.arr _) ?_)
 | (refine congrArg (Value.int _) ?_)
 | (refine congrArg Value.bool ?_))
  · intro i hi
    by_cases hil : i < hs.length
    · obtain ⟨q1, q2, q3⟩ := hq i hil
      have g1 := working_in (hs := hs) (fl := fl) (i := i) hil
      have g2 := parent_in (hs := hs) (fl := fl) (i := i) hil
      have g3 := owed_in (hs := hs) (fl := fl) (i := i) hil
      rw [q1] at g1
      rw [q2] at g2
      rw [q3] at g3
      repeat' (first
 | refine W.seq ?_
 | refine W.block ?_
 | (refine W.regionM (id := 4) tys_ok [] [2,6,12] ?_; conv => whnf)
 | (refine W.region tys_ok [] ?_; conv => whnf)
 | (refine W.drawAll tys_ok [] mixed rfl ?_; conv => whnf)
 | (refine W.ret ?_; conv => whnf)
 | (refine W.skip ?_; conv => whnf)
 | (refine W.exit ?_; conv => whnf)
 | (refine callM_at (g1) ?_; conv => whnf)
 | (refine callM_at (g2) ?_; conv => whnf)
 | (refine callM_at (g3) ?_; conv => whnf)
 | (refine W.cond rfl (fun hb => ?_) (fun hb => ?_) <;> (try simp only [Int.reduceToNat, Int.reduceTDiv, Int.reduceTMod, minL, maxL, pickB, zHB, zSH] at hb) <;> (try (first | (cases hb; done) | exact absurd hb (by decide) | (exfalso; omega) | (omega) | ((simp [pickB] at hb; done)))))
 | (refine Or.inl (And.intro ?_ ?_); (focus (first | exact trivial | exact ⟨rfl, trivial⟩ | (refine ⟨?_, trivial⟩; dsimp only; simp only [Int.reduceToNat, Int.reduceTDiv, Int.reduceTMod, minL, maxL, pickB, zHB, zSH]; omega) | (refine ⟨?_, trivial⟩; dsimp only; (try simp only [Int.reduceToNat, Int.reduceTDiv, Int.reduceTMod, minL, maxL, pickB, zHB, zSH]); (simp_all; done)) | (refine ⟨?_, trivial⟩; dsimp only; (simp only [Int.reduceToNat, Int.reduceTDiv, Int.reduceTMod, minL, maxL, pickB, zHB, zSH]; done)) | (refine ⟨?_, trivial⟩; dsimp only; (simp; done)))); (conv => whnf))
 | (refine Or.inr (And.intro ?_ ?_); (focus (intro h; have h := h.1; dsimp only at h; first | (exact Bool.noConfusion h) | (simp only [Int.reduceToNat, Int.reduceTDiv, Int.reduceTMod, minL, maxL, pickB, zHB, zSH] at h; omega) | ((try simp only [Int.reduceToNat, Int.reduceTDiv, Int.reduceTMod, minL, maxL, pickB, zHB, zSH] at h); (simp_all; done)))); (conv => whnf))
 | ((with_reducible refine And.intro ?_ ?_); (focus (first | (with_reducible rfl) | omega | rfl | ((try simp only [Int.reduceToNat, Int.reduceTDiv, Int.reduceTMod, minL, maxL, pickB, zHB, zSH, InK, Path.imp, zL] at *); omega))); (conv => whnf))
 | ((with_reducible refine And.intro (Side.out ?_) ?_); rotate_left; (conv => whnf))
 | ((first | refine retM1 ?_ | refine retM2 ?_) <;> (conv => whnf) <;> repeat' (first
 | exact trivial
 | (with_reducible rfl)
 | ((with_reducible refine And.intro ?_ ?_) <;> conv => whnf)
 | omega
 | rfl
 | (refine congrArg (SV.arr _) ?_)
 | (refine congrArg (Value.int _) ?_)
 | (refine congrArg Value.bool ?_)))); all_goals (try unfold Side)
      all_goals try (repeat' (first | (with_reducible rfl) | (with_reducible refine And.intro ?_ ?_) | omega | rfl | exact Or.inl rfl | exact Or.inr rfl | exact of_decide_eq_true rfl | exact Path.imp_of (of_decide_eq_true rfl) | (focus ((try simp only [Int.reduceToNat, Int.reduceTDiv, Int.reduceTMod, minL, maxL, pickB, zHB, zSH, InK, Path.imp, zL] at *); omega)) | (refine app_le rfl ?_; omega)))
      refine ⟨i + 1, ⟨by omega, by omega⟩, ?_⟩
      refine subF.ok ?_ <;> (conv => whnf) <;> repeat' (first
 | exact trivial
 | (with_reducible rfl)
 | ((with_reducible refine And.intro ?_ ?_) <;> conv => whnf)
 | omega
 | rfl
 | (refine congrArg (SV.arr _) ?_)
 | (refine congrArg (Value.int _) ?_)
 | (refine congrArg Value.bool ?_))
    · repeat' (first
 | refine W.seq ?_
 | refine W.block ?_
 | (refine W.regionM (id := 6) tys_ok [] [1] ?_; conv => whnf)
 | (refine W.region tys_ok [] ?_; conv => whnf)
 | (refine W.drawAll tys_ok [] mixed rfl ?_; conv => whnf)
 | (refine W.ret ?_; conv => whnf)
 | (refine W.skip ?_; conv => whnf)
 | (refine W.exit ?_; conv => whnf)
 | (refine callM_at (c1) ?_; conv => whnf)
 | (refine W.cond rfl (fun hb => ?_) (fun hb => ?_) <;> (try simp only [Int.reduceToNat, Int.reduceTDiv, Int.reduceTMod, minL, maxL, pickB, zHB, zSH] at hb) <;> (try (first | (cases hb; done) | exact absurd hb (by decide) | (exfalso; omega) | (omega))))
 | (refine Or.inl (And.intro ?_ ?_); (focus (first | exact trivial | exact ⟨rfl, trivial⟩ | (refine ⟨?_, trivial⟩; dsimp only; simp only [Int.reduceToNat, Int.reduceTDiv, Int.reduceTMod, minL, maxL, pickB, zHB, zSH]; omega) | (refine ⟨?_, trivial⟩; dsimp only; (try simp only [Int.reduceToNat, Int.reduceTDiv, Int.reduceTMod, minL, maxL, pickB, zHB, zSH]); (simp_all; done)) | (refine ⟨?_, trivial⟩; dsimp only; (simp only [Int.reduceToNat, Int.reduceTDiv, Int.reduceTMod, minL, maxL, pickB, zHB, zSH]; done)) | (refine ⟨?_, trivial⟩; dsimp only; (simp; done)))); (conv => whnf))
 | (refine Or.inr (And.intro ?_ ?_); (focus (intro h; have h := h.1; dsimp only at h; first | (exact Bool.noConfusion h) | (simp only [Int.reduceToNat, Int.reduceTDiv, Int.reduceTMod, minL, maxL, pickB, zHB, zSH] at h; omega) | ((try simp only [Int.reduceToNat, Int.reduceTDiv, Int.reduceTMod, minL, maxL, pickB, zHB, zSH] at h); (simp_all; done)))); (conv => whnf))
 | ((with_reducible refine And.intro ?_ ?_); (focus (first | (with_reducible rfl) | omega | rfl | ((try simp only [Int.reduceToNat, Int.reduceTDiv, Int.reduceTMod, minL, maxL, pickB, zHB, zSH, InK, Path.imp, zL] at *); omega))); (conv => whnf))
 | ((with_reducible refine And.intro (Side.out ?_) ?_); rotate_left; (conv => whnf))
 | ((first | refine retM1 ?_ | refine retM2 ?_) <;> (conv => whnf) <;> repeat' (first
 | exact trivial
 | (with_reducible rfl)
 | ((with_reducible refine And.intro ?_ ?_) <;> conv => whnf)
 | omega
 | rfl
 | (refine congrArg (SV.arr _) ?_)
 | (refine congrArg (Value.int _) ?_)
 | (refine congrArg Value.bool ?_)))); all_goals (try unfold Side)
      all_goals try (repeat' (first | (with_reducible rfl) | (with_reducible refine And.intro ?_ ?_) | omega | rfl | exact Or.inl rfl | exact Or.inr rfl | exact of_decide_eq_true rfl | exact Path.imp_of (of_decide_eq_true rfl) | (focus ((try simp only [Int.reduceToNat, Int.reduceTDiv, Int.reduceTMod, minL, maxL, pickB, zHB, zSH, InK, Path.imp, zL] at *); omega)) | (refine app_le rfl ?_; omega)))
      refine W.loop (fun i : Nat => ⟨[(0, .padr 1000000000 0), (6, .own 9000), (7, (.lit (.int .i64 (i : Int))))], [(1000000000, .box [.own 1000000001, .own 1000000002]), (1000000001, .row 96 HT true (hs)), (1000000002, .row 50 LT true (fl)), (9000, .row 50 LT true fl)]⟩) (fun i => i ≤ fl.length) (fun i => fl.length - i) (0) ?_ ?_
      · refine ⟨Nat.zero_le _, ?_⟩
        refine subF.ok ?_ <;> (conv => whnf) <;> repeat' (first
 | exact trivial
 | (with_reducible rfl)
 | ((with_reducible refine And.intro ?_ ?_) <;> conv => whnf)
 | omega
 | rfl
 | (refine congrArg (SV.arr _) ?_)
 | (refine congrArg (Value.int _) ?_)
 | (refine congrArg Value.bool ?_))
      · intro i hi2
        by_cases hi3 : i < fl.length
        · have q := hf i hi3
          repeat' (first
 | refine W.seq ?_
 | refine W.block ?_
 | (refine W.region tys_ok [] ?_; conv => whnf)
 | (refine W.drawAll tys_ok [] mixed rfl ?_; conv => whnf)
 | (refine W.ret ?_; conv => whnf)
 | (refine W.skip ?_; conv => whnf)
 | (refine W.exit ?_; conv => whnf)
 | (refine W.cond rfl (fun hb => ?_) (fun hb => ?_) <;> (try simp only [Int.reduceToNat, Int.reduceTDiv, Int.reduceTMod, minL, maxL, pickB, zHB, zSH] at hb) <;> (try (first | (cases hb; done) | exact absurd hb (by decide) | (exfalso; omega) | (omega) | ((simp_all; done)))))
 | ((with_reducible refine And.intro ?_ ?_); (focus (first | (with_reducible rfl) | omega | rfl | ((try simp only [Int.reduceToNat, Int.reduceTDiv, Int.reduceTMod, minL, maxL, pickB, zHB, zSH, InK, Path.imp, zL] at *); omega))); (conv => whnf))
 | ((with_reducible refine And.intro (Side.out ?_) ?_); rotate_left; (conv => whnf))
 | ((first | refine retM1 ?_ | refine retM2 ?_) <;> (conv => whnf) <;> repeat' (first
 | exact trivial
 | (with_reducible rfl)
 | ((with_reducible refine And.intro ?_ ?_) <;> conv => whnf)
 | omega
 | rfl
 | (refine congrArg (SV.arr _) ?_)
 | (refine congrArg (Value.int _) ?_)
 | (refine congrArg Value.bool ?_)))); all_goals (try unfold Side)
          all_goals try (repeat' (first | (with_reducible rfl) | (with_reducible refine And.intro ?_ ?_) | omega | rfl | exact Or.inl rfl | exact Or.inr rfl | exact of_decide_eq_true rfl | exact Path.imp_of (of_decide_eq_true rfl) | (focus ((try simp only [Int.reduceToNat, Int.reduceTDiv, Int.reduceTMod, minL, maxL, pickB, zHB, zSH, InK, Path.imp, zL] at *); omega)) | (refine app_le rfl ?_; omega)))
          refine ⟨i + 1, ⟨by omega, by omega⟩, ?_⟩
          refine subF.ok ?_ <;> (conv => whnf) <;> repeat' (first
 | exact trivial
 | (with_reducible rfl)
 | ((with_reducible refine And.intro ?_ ?_) <;> conv => whnf)
 | omega
 | rfl
 | (refine congrArg (SV.arr _) ?_)
 | (refine congrArg (Value.int _) ?_)
 | (refine congrArg Value.bool ?_))
        · repeat' (first
 | refine W.seq ?_
 | refine W.block ?_
 | (refine W.region tys_ok [] ?_; conv => whnf)
 | (refine W.drawAll tys_ok [] mixed rfl ?_; conv => whnf)
 | (refine W.ret ?_; conv => whnf)
 | (refine W.skip ?_; conv => whnf)
 | (refine W.exit ?_; conv => whnf)
 | (refine W.cond rfl (fun hb => ?_) (fun hb => ?_) <;> (try simp only [Int.reduceToNat, Int.reduceTDiv, Int.reduceTMod, minL, maxL, pickB, zHB, zSH] at hb) <;> (try (first | (cases hb; done) | exact absurd hb (by decide) | (exfalso; omega) | (omega))))
 | ((with_reducible refine And.intro ?_ ?_); (focus (first | (with_reducible rfl) | omega | rfl | ((try simp only [Int.reduceToNat, Int.reduceTDiv, Int.reduceTMod, minL, maxL, pickB, zHB, zSH, InK, Path.imp, zL] at *); omega))); (conv => whnf))
 | ((with_reducible refine And.intro (Side.out ?_) ?_); rotate_left; (conv => whnf))
 | ((first | refine retM1 ?_ | refine retM2 ?_) <;> (conv => whnf) <;> repeat' (first
 | exact trivial
 | (with_reducible rfl)
 | ((with_reducible refine And.intro ?_ ?_) <;> conv => whnf)
 | omega
 | rfl
 | (refine congrArg (SV.arr _) ?_)
 | (refine congrArg (Value.int _) ?_)
 | (refine congrArg Value.bool ?_)))); all_goals (try unfold Side)
          all_goals try (repeat' (first | (with_reducible rfl) | (with_reducible refine And.intro ?_ ?_) | omega | rfl | exact Or.inl rfl | exact Or.inr rfl | exact of_decide_eq_true rfl | exact Path.imp_of (of_decide_eq_true rfl) | (focus ((try simp only [Int.reduceToNat, Int.reduceTDiv, Int.reduceTMod, minL, maxL, pickB, zHB, zSH, InK, Path.imp, zL] at *); omega)) | (refine app_le rfl ?_; omega)))
end Go.Proofs.Ytkjcnegkdlmapaa
namespace Go.Proofs.Ytkjcnegkdlmapaa
open Go Go.Vc Go.Rg
set_option linter.unusedVariables false
set_option linter.unusedSimpArgs false
theorem getD_mem' {α : Type} {d : α} : ∀ {l : List α} {i : Nat}, i < l.length → l.getD i d ∈ l := fun {l i} h => by
  rw [List.getD_eq_getElem?_getD, List.getElem?_eq_getElem h]
  exact List.getElem_mem _
theorem sm3_wf {y : List Tr3} (h : (Ty.sl U3).wf y) : sm3 y := fun i => by
  have h2 : ∀ z ∈ y, U3.wf z := h.2
  by_cases hi : i < y.length
  · have h3 := h2 _ (getD_mem' (d := R0) hi)
    exact ⟨wf_u8 h3.1, wf_u8 h3.2.1, wf_u8 h3.2.2.1⟩
  · have : y.getD i R0 = R0 := by simp [List.getD, List.getElem?_eq_none (Nat.le_of_not_lt hi)]
    rw [this]; decide
def playS (n : Nat) (t : Tr3) (w : Wk) : Wk :=
  if t.1.tmod 4 = 0 then sendK (t.2.1.tmod n) (t.2.2.1.tmod n) w
  else if t.1.tmod 4 = 1 then idleK (t.2.1.tmod n) w
  else if w.2.length = 0 then w
  else delK ((t.2.1 + t.2.2.1).tmod w.2.length) w
def playF (n : Nat) : Nat → List Tr3 → Wk → Wk
  | k + 1, t :: r, w => playF n k r (playS n t w)
  | _, _, w => w
theorem playF_end {n k : Nat} {w : Wk} : playF n k [] w = w := by cases k <;> rfl
theorem WOk.playS {n : Nat} {w : Wk} (h : WOk n w) (t : Tr3) : WOk n (playS n t w) := by
  unfold Go.Proofs.Ytkjcnegkdlmapaa.playS
  split
  · exact h.send
  · split
    · exact h.idle
    · split
      · exact h
      · exact h.del
theorem WOk.playF {n : Nat} : ∀ {k : Nat} {l : List Tr3} {w : Wk}, WOk n w → WOk n (playF n k l w)
  | 0, l, w, h => by unfold Go.Proofs.Ytkjcnegkdlmapaa.playF; exact h
  | k + 1, [], w, h => h
  | k + 1, t :: r, w, h => WOk.playF (k := k) (WOk.playS h t)
def played (n : Nat) (x : List Tr3) : Wk := playF n 120 x (begL n)
theorem drop_cons {x : List Tr3} {i : Nat} (h : i < x.length) : x.drop i = x.getD i R0 :: x.drop (i + 1) := by
  rw [List.drop_eq_getElem_cons h, List.getD_eq_getElem?_getD, List.getElem?_eq_getElem h]; rfl
theorem playF_stop {n i : Nat} {x : List Tr3} {w : Wk} (h : ¬ (i < x.length ∧ i < 120)) (hi : i ≤ 120) : playF n (120 - i) (x.drop i) w = w := by
  by_cases e : i < x.length
  · have : 120 - i = 0 := by omega
    rw [this]; unfold playF; rfl
  · rw [List.drop_of_length_le (by omega)]; exact playF_end
theorem ended_over {n : Nat} {w : Wk} (h : WOk n w) (he : endB w = true) : (∀ i, i < w.1.length → gw w.1 i = false ∧ gp w.1 i = -1 ∧ go w.1 i = 0) ∧ ∀ k, k < w.2.length → (w.2.getD k L0).2.2.1 = true := by
  obtain ⟨Es, hw⟩ := h.inv
  unfold endB at he
  rw [Bool.and_eq_true, decide_eq_true_eq] at he
  obtain ⟨h1, h2⟩ := hw.ended h.n0 (show gw w.1 0 = false by simpa using he.1) he.2
  refine ⟨fun i hi => h1 i (by rw [← h.len]; exact hi), fun k hk => h2 _ (getD_mem' hk)⟩
set_option maxHeartbeats 16000000 in
theorem played_at {n : Int} {x : List U3.T} {s : Nat} (hn : 0 ≤ n ∧ n ≤ 255) (hx : sm3 x) (hs : (s : Int) = n.tmod 10 + 1) : FnM Try.prog 17 [.lit (.int .u8 n), .st false (.arr U3 x)] [] (.tup [.padr 0 0, .padr 3 0]) [(0, .box [.own 1, .own 2]), (1, .row 96 HT true ((played s x)).1), (2, .row 50 LT true ((played s x)).2), (3, .box [.own 4, .own 5]), (4, .row 93 HT true ((played s x)).1), (5, .row 50 LT true ((played s x)).2)] := by
  have hmod : n.tmod 10 = n % 10 := Int.tmod_eq_emod_of_nonneg hn.1
  have h1 : 1 ≤ s := by omega
  have h2 : s ≤ 10 := by omega
  have c1 := begin_at h1 h2
  rw [hs] at c1
  have c3 := rbegin_at h1 h2
  rw [hs] at c3
  have w0 := WOk.beg (n := s) (by omega) h2
  have hlx : @List.length U3.T x = x.length := rfl
  refine FnM.of_body tys_ok Try.func17 (by rfl) rfl Try.ntmps17 (by rw [Try.results17]) (by simp) ?_
  
  repeat' (first
 | refine W.seq ?_
 | refine W.block ?_
 | (refine W.regionM (id := 2) tys_ok [] [1] ?_; conv => whnf)
 | (refine W.regionM (id := 5) tys_ok [] [1] ?_; conv => whnf)
 | (refine W.region tys_ok [] ?_; conv => whnf)
 | (refine W.drawAll tys_ok [] mixed rfl ?_; conv => whnf)
 | (refine W.ret ?_; conv => whnf)
 | (refine W.skip ?_; conv => whnf)
 | (refine W.exit ?_; conv => whnf)
 | (refine callM_at (c1) ?_; conv => whnf)
 | (refine callM_at (c3) ?_; conv => whnf)
 | (refine W.cond rfl (fun hb => ?_) (fun hb => ?_) <;> (try simp only [Int.reduceToNat, Int.reduceTDiv, Int.reduceTMod, minL, maxL, pickB, zHB, zSH] at hb) <;> (try (first | (cases hb; done) | exact absurd hb (by decide) | (exfalso; omega) | (omega) | ((simp [pickB] at hb; omega)))))
 | (refine Or.inl (And.intro ?_ ?_); (focus (first | exact trivial | exact ⟨rfl, trivial⟩ | (refine ⟨?_, trivial⟩; dsimp only; simp only [Int.reduceToNat, Int.reduceTDiv, Int.reduceTMod, minL, maxL, pickB, zHB, zSH]; omega) | (refine ⟨?_, trivial⟩; dsimp only; (try simp only [Int.reduceToNat, Int.reduceTDiv, Int.reduceTMod, minL, maxL, pickB, zHB, zSH]); (simp_all; done)) | (refine ⟨?_, trivial⟩; dsimp only; (simp only [Int.reduceToNat, Int.reduceTDiv, Int.reduceTMod, minL, maxL, pickB, zHB, zSH]; done)) | (refine ⟨?_, trivial⟩; dsimp only; (simp; done)))); (conv => whnf))
 | (refine Or.inr (And.intro ?_ ?_); (focus (intro h; have h := h.1; dsimp only at h; first | (exact Bool.noConfusion h) | (simp only [Int.reduceToNat, Int.reduceTDiv, Int.reduceTMod, minL, maxL, pickB, zHB, zSH] at h; omega) | ((try simp only [Int.reduceToNat, Int.reduceTDiv, Int.reduceTMod, minL, maxL, pickB, zHB, zSH] at h); (simp_all; done)))); (conv => whnf))
 | ((with_reducible refine And.intro ?_ ?_); (focus (first | (with_reducible rfl) | omega | rfl | ((try simp only [Int.reduceToNat, Int.reduceTDiv, Int.reduceTMod, minL, maxL, pickB, zHB, zSH, InK, Path.imp, zL] at *); omega))); (conv => whnf))
 | ((with_reducible refine And.intro (Side.out ?_) ?_); rotate_left; (conv => whnf))
 | ((first | refine retM1 ?_ | refine retM2 ?_) <;> (conv => whnf) <;> repeat' (first
 | exact trivial
 | (with_reducible rfl)
 | ((with_reducible refine And.intro ?_ ?_) <;> conv => whnf)
 | omega
 | rfl
 | (refine congrArg (SV.arr _) ?_)
 | (refine congrArg (Value.int _) ?_)
 | (refine congrArg Value.bool ?_)))); all_goals (try unfold Side)
  all_goals try (repeat' (first | (with_reducible rfl) | (with_reducible refine And.intro ?_ ?_) | omega | rfl | exact Or.inl rfl | exact Or.inr rfl | exact of_decide_eq_true rfl | exact Path.imp_of (of_decide_eq_true rfl) | (focus ((try simp only [Int.reduceToNat, Int.reduceTDiv, Int.reduceTMod, minL, maxL, pickB, zHB, zSH, InK, Path.imp, zL] at *); omega)) | (refine app_le rfl ?_; omega)))
  refine W.loop (fun p : Nat × Wk => ⟨[(1, .st false (.arr U3 x)), (6, (.lit (.int .i64 (s : Int)))), (7, .padr 6000 0), (9, .padr 8000 0), (10, (.lit (.int .i64 (p.1 : Int))))], [(6000, .box [.own 6001, .own 6002]), (6001, .row 96 HT true (p.2).1), (6002, .row 50 LT true (p.2).2), (8000, .box [.own 8001, .own 8002]), (8001, .row 93 HT true (p.2).1), (8002, .row 50 LT true (p.2).2)]⟩) (fun p => p.1 ≤ x.length ∧ p.1 ≤ 120 ∧ WOk s p.2 ∧ playF s (120 - p.1) (x.drop p.1) p.2 = played s x) (fun p => x.length - p.1) ((0, begL s)) ?_ ?_
  · refine ⟨⟨Nat.zero_le _, Nat.zero_le _, w0, rfl⟩, ?_⟩
    refine subF.ok ?_ <;> (conv => whnf) <;> repeat' (first
 | exact trivial
 | (with_reducible rfl)
 | ((with_reducible refine And.intro ?_ ?_) <;> conv => whnf)
 | omega
 | rfl
 | (refine congrArg (SV.arr _) ?_)
 | (refine congrArg (Value.int _) ?_)
 | (refine congrArg Value.bool ?_))
    all_goals exact hs.symm
  · rintro ⟨i, w⟩ ⟨hi, hi120, hw, hpl⟩
    dsimp only at hi hi120 hw hpl ⊢
    have hwl := hw.len
    have hwf := hw.fl
    -- BODY
    by_cases hil : i < x.length ∧ i < 120
    · have hia : i < x.length := hil.1
      have hi2 : i < 120 := hil.2
      obtain ⟨b0, b1, b2⟩ := hx i
      obtain ⟨κ, hκ⟩ : ∃ κ : Int, κ = (x.getD i U3.dflt).1 := ⟨_, rfl⟩
      obtain ⟨a', ha'⟩ : ∃ a' : Int, a' = (@List.getD Tr3 x i R0).2.1 := ⟨_, rfl⟩
      obtain ⟨b', hb'⟩ : ∃ b' : Int, b' = (@List.getD Tr3 x i R0).2.2.1 := ⟨_, rfl⟩
      obtain ⟨a, ha⟩ : ∃ a : Int, a = a'.tmod s := ⟨_, rfl⟩
      obtain ⟨b, hb0⟩ : ∃ b : Int, b = b'.tmod s := ⟨_, rfl⟩
      have ea : (@List.getD Tr3 x i R0).2.1.tmod (s : Int) = a := by rw [ha, ha']
      have eb : (@List.getD Tr3 x i R0).2.2.1.tmod (s : Int) = b := by rw [hb0, hb']
      have ia : 0 ≤ (i : Int) ∧ i < x.length := ⟨by omega, hia⟩
      have ik1 : InK .i64 (@List.getD Tr3 x i R0).2.1 := ⟨by omega, by omega⟩
      have ik2 : InK .i64 (@List.getD Tr3 x i R0).2.2.1 := ⟨by omega, by omega⟩
      have ik3 : InK .i64 ((@List.getD Tr3 x i R0).2.1 + (@List.getD Tr3 x i R0).2.2.1) := ⟨by omega, by omega⟩
      have ek : ((@List.getD Tr3 x i R0).2.1 + (@List.getD Tr3 x i R0).2.2.1).tmod (w.2.length : Int) = (a' + b').tmod (w.2.length : Int) := by rw [ha', hb']
      have hfu : 120 - i = 120 - (i + 1) + 1 := by omega
      have hpl : playF s (120 - (i + 1) + 1) (@List.drop Tr3 i x) w = played s x := by rw [← hfu]; exact hpl
      rw [drop_cons (x := x) hia] at hpl
      have hstep : playS s (@List.getD Tr3 x i R0) w = (if κ.tmod 4 = 0 then sendK a b w else if κ.tmod 4 = 1 then idleK a w else if w.2.length = 0 then w else delK ((a' + b').tmod w.2.length) w) := by
        unfold playS; rw [ea, eb, ← ha', ← hb', show (@List.getD Tr3 x i R0).1 = κ from hκ.symm]
      have hpl2 : playF s (120 - (i + 1)) (x.drop (i + 1)) (playS s (@List.getD Tr3 x i R0) w) = played s x := hpl
      rw [hstep] at hpl2
      have hlf : @List.length LT.T w.2 = w.2.length := rfl
      by_cases h0 : κ.tmod 4 = 0
      · obtain ⟨w2, hw2⟩ : ∃ w2, w2 = sendK a b w := ⟨_, rfl⟩
        obtain ⟨e, he⟩ : ∃ e : Int, e = sendE a b w := ⟨_, rfl⟩
        have hk2 : WOk s w2 := by rw [hw2]; exact hw.send
        have hpl3 : playF s (120 - (i + 1)) (x.drop (i + 1)) w2 = played s x := by rw [hw2]; rw [if_pos h0] at hpl2; exact hpl2
        have d1 := send_at (a := a) (b := b) hw he.symm hw2.symm
        have d2 := rsend_at (a := a) (b := b) hw he.symm hw2.symm
        have hl2 : 0 < w2.1.length ∧ w2.1.length ≤ 10 ∧ w2.2.length ≤ 200 := by
          have := hk2.len; have := hk2.n0; have := hk2.fl; omega
        have hws : (w2.1.length : Int) = (s : Int) := by rw [hk2.len]
        cases hend : endB w2 with
        | true =>
          have g1 := ended_at (hs := w2.1) (fl := w2.2) (b := true) hl2.1 hend.symm
          obtain ⟨o1, o2⟩ := ended_over hk2 hend
          have g2 := over_at (hs := w2.1) (fl := w2.2) hl2.1 (by omega) (by omega) o1 o2
          rw [hws] at g2
          repeat' (first
 | refine W.seq ?_
 | refine W.block ?_
 | (refine W.drawPhTo (id := 9) tys_ok [] mixed [0, 0, 3, 4, 8, 16, 0, 96, 0, 0, 768, 1024, 2048, 4096, 0, 24576, 255, 131071] [([0, 1, 2, 3, 4, 5, 6, 7, 8, 9, 10, 11, 12, 13, 14, 15, 16, 17], 0, 262143)] ⟨[(1, .st false (.arr U3 x)), (6, (.lit (.int .i64 (s : Int)))), (7, .padr 6000 0), (9, .padr 8000 0), (10, (.lit (.int .i64 (i : Int)))), (11, (.lit (.int .i64 (a : Int)))), (12, (.lit (.int .i64 (b : Int))))], [(6000, .box [.own 6001, .own 6002]), (6001, .row 96 HT true (w).1), (6002, .row 50 LT true (w).2), (8000, .box [.own 8001, .own 8002]), (8001, .row 93 HT true (w).1), (8002, .row 50 LT true (w).2)]⟩ (by decide +kernel) ?_ ?_ <;> (conv => whnf))
 | (refine W.regionM (id := 16) tys_ok [] [3,7] ?_; conv => whnf)
 | (refine W.resub (x := Code.region 21 _ _) (Γ' := ⟨[(1, .st false (.arr U3 x)), (6, (.lit (.int .i64 (s : Int)))), (7, .padr 6000 0), (9, .padr 8000 0), (10, (.lit (.int .i64 (i : Int))))], [(6000, .box [.own 6001, .own 6002]), (6001, .row 96 HT true (w2).1), (6002, .row 50 LT true (w2).2), (8000, .box [.own 8001, .own 8002]), (8001, .row 93 HT true (w2).1), (8002, .row 50 LT true (w2).2)]⟩) ?_ (W.regionM tys_ok [] [1,5] ?_); rotate_left; (conv => whnf))
 | (refine W.region tys_ok [] ?_; conv => whnf)
 | (refine W.drawAll tys_ok [] mixed rfl ?_; conv => whnf)
 | (refine W.ret ?_; conv => whnf)
 | (refine W.skip ?_; conv => whnf)
 | (refine W.exit ?_; conv => whnf)
 | (refine callM_at (d1) ?_; conv => whnf)
 | (refine callM_at (d2) ?_; conv => whnf)
 | (refine callM_at (g1) ?_; conv => whnf)
 | (refine callM_at (g2) ?_; conv => whnf)
 | (refine Both.mk ?_ ?_ <;> (conv => whnf))
 | (refine W.cond rfl (fun hb => ?_) (fun hb => ?_) <;> (try simp only [Int.reduceToNat, Int.reduceTDiv, Int.reduceTMod, minL, maxL, pickB, zHB, zSH] at hb) <;> (try (first | (cases hb; done) | exact absurd hb (by decide) | (exfalso; omega) | (omega) | ((simp_all; done)))))
 | (refine Or.inl (And.intro ?_ ?_); (focus (first | exact trivial | exact ⟨rfl, trivial⟩ | (refine ⟨?_, trivial⟩; dsimp only; simp only [Int.reduceToNat, Int.reduceTDiv, Int.reduceTMod, minL, maxL, pickB, zHB, zSH]; omega) | (refine ⟨?_, trivial⟩; dsimp only; (try simp only [Int.reduceToNat, Int.reduceTDiv, Int.reduceTMod, minL, maxL, pickB, zHB, zSH]); (simp_all; done)) | (refine ⟨?_, trivial⟩; dsimp only; (simp only [Int.reduceToNat, Int.reduceTDiv, Int.reduceTMod, minL, maxL, pickB, zHB, zSH]; done)) | (refine ⟨?_, trivial⟩; dsimp only; (simp; done)))); (conv => whnf))
 | (refine Or.inr (And.intro ?_ ?_); (focus (intro h; have h := h.1; dsimp only at h; first | (exact Bool.noConfusion h) | (simp only [Int.reduceToNat, Int.reduceTDiv, Int.reduceTMod, minL, maxL, pickB, zHB, zSH] at h; omega) | ((try simp only [Int.reduceToNat, Int.reduceTDiv, Int.reduceTMod, minL, maxL, pickB, zHB, zSH] at h); (simp_all; done)))); (conv => whnf))
 | ((with_reducible refine And.intro ?_ ?_); (focus (first | (with_reducible rfl) | omega | rfl | ((try simp only [Int.reduceToNat, Int.reduceTDiv, Int.reduceTMod, minL, maxL, pickB, zHB, zSH, InK, Path.imp, zL] at *); omega))); (conv => whnf))
 | ((with_reducible refine And.intro (Side.out ?_) ?_); rotate_left; (conv => whnf))
 | ((first | refine retM1 ?_ | refine retM2 ?_ | refine subF.leaf ?_ | refine subF.side ?_) <;> (conv => whnf) <;> repeat' (first
 | exact trivial
 | (with_reducible rfl)
 | ((with_reducible refine And.intro ?_ ?_) <;> conv => whnf)
 | omega
 | rfl
 | (refine congrArg (SV.arr _) ?_)
 | (refine congrArg (Value.int _) ?_)
 | (refine congrArg Value.bool ?_)))); all_goals (try unfold Side)
          all_goals try (repeat' (first | (with_reducible rfl) | (with_reducible refine And.intro ?_ ?_) | omega | rfl | exact Or.inl rfl | exact Or.inr rfl | exact of_decide_eq_true rfl | exact Path.imp_of (of_decide_eq_true rfl) | (focus ((try simp only [Int.reduceToNat, Int.reduceTDiv, Int.reduceTMod, minL, maxL, pickB, zHB, zSH, InK, Path.imp, zL] at *); omega)) | (refine app_le rfl ?_; omega)))
          all_goals first | exact ik1 | exact ik2 | exact ik3 | exact Path.imp_of ik1 | exact Path.imp_of ik2 | exact Path.imp_of ik3 | exact ek | exact ea | exact eb | exact hκ.symm | exact ha'.symm | exact hb'.symm | exact Path.imp_of ia | exact ia.2 | exact Path.imp_of ia.2 | skip
          refine ⟨(i + 1, w2), ⟨⟨by dsimp only; omega, by dsimp only; omega, hk2, by dsimp only; exact hpl3⟩, by dsimp only; omega⟩, ?_⟩
          refine subF.ok ?_ <;> (conv => whnf) <;> repeat' (first
 | exact trivial
 | (with_reducible rfl)
 | ((with_reducible refine And.intro ?_ ?_) <;> conv => whnf)
 | omega
 | rfl
 | (refine congrArg (SV.arr _) ?_)
 | (refine congrArg (Value.int _) ?_)
 | (refine congrArg Value.bool ?_))
          all_goals try refine subF.ok ?_ <;> (conv => whnf) <;> repeat' (first
 | exact trivial
 | (with_reducible rfl)
 | ((with_reducible refine And.intro ?_ ?_) <;> conv => whnf)
 | omega
 | rfl
 | (refine congrArg (SV.arr _) ?_)
 | (refine congrArg (Value.int _) ?_)
 | (refine congrArg Value.bool ?_))
        | false =>
          have g1 := ended_at (hs := w2.1) (fl := w2.2) (b := false) hl2.1 hend.symm
          repeat' (first
 | refine W.seq ?_
 | refine W.block ?_
 | (refine W.drawPhTo (id := 9) tys_ok [] mixed [0, 0, 3, 4, 8, 16, 0, 96, 0, 0, 768, 1024, 2048, 4096, 0, 24576, 255, 131071] [([0, 1, 2, 3, 4, 5, 6, 7, 8, 9, 10, 11, 12, 13, 14, 15, 16, 17], 0, 262143)] ⟨[(1, .st false (.arr U3 x)), (6, (.lit (.int .i64 (s : Int)))), (7, .padr 6000 0), (9, .padr 8000 0), (10, (.lit (.int .i64 (i : Int)))), (11, (.lit (.int .i64 (a : Int)))), (12, (.lit (.int .i64 (b : Int))))], [(6000, .box [.own 6001, .own 6002]), (6001, .row 96 HT true (w).1), (6002, .row 50 LT true (w).2), (8000, .box [.own 8001, .own 8002]), (8001, .row 93 HT true (w).1), (8002, .row 50 LT true (w).2)]⟩ (by decide +kernel) ?_ ?_ <;> (conv => whnf))
 | (refine W.regionM (id := 16) tys_ok [] [3,7] ?_; conv => whnf)
 | (refine W.resub (x := Code.region 21 _ _) (Γ' := ⟨[(1, .st false (.arr U3 x)), (6, (.lit (.int .i64 (s : Int)))), (7, .padr 6000 0), (9, .padr 8000 0), (10, (.lit (.int .i64 (i : Int))))], [(6000, .box [.own 6001, .own 6002]), (6001, .row 96 HT true (w2).1), (6002, .row 50 LT true (w2).2), (8000, .box [.own 8001, .own 8002]), (8001, .row 93 HT true (w2).1), (8002, .row 50 LT true (w2).2)]⟩) ?_ (W.regionM tys_ok [] [1,5] ?_); rotate_left; (conv => whnf))
 | (refine W.region tys_ok [] ?_; conv => whnf)
 | (refine W.drawAll tys_ok [] mixed rfl ?_; conv => whnf)
 | (refine W.ret ?_; conv => whnf)
 | (refine W.skip ?_; conv => whnf)
 | (refine W.exit ?_; conv => whnf)
 | (refine callM_at (d1) ?_; conv => whnf)
 | (refine callM_at (d2) ?_; conv => whnf)
 | (refine callM_at (g1) ?_; conv => whnf)
 | (refine Both.mk ?_ ?_ <;> (conv => whnf))
 | (refine W.cond rfl (fun hb => ?_) (fun hb => ?_) <;> (try simp only [Int.reduceToNat, Int.reduceTDiv, Int.reduceTMod, minL, maxL, pickB, zHB, zSH] at hb) <;> (try (first | (cases hb; done) | exact absurd hb (by decide) | (exfalso; omega) | (omega) | ((simp_all; done)))))
 | (refine Or.inl (And.intro ?_ ?_); (focus (first | exact trivial | exact ⟨rfl, trivial⟩ | (refine ⟨?_, trivial⟩; dsimp only; simp only [Int.reduceToNat, Int.reduceTDiv, Int.reduceTMod, minL, maxL, pickB, zHB, zSH]; omega) | (refine ⟨?_, trivial⟩; dsimp only; (try simp only [Int.reduceToNat, Int.reduceTDiv, Int.reduceTMod, minL, maxL, pickB, zHB, zSH]); (simp_all; done)) | (refine ⟨?_, trivial⟩; dsimp only; (simp only [Int.reduceToNat, Int.reduceTDiv, Int.reduceTMod, minL, maxL, pickB, zHB, zSH]; done)) | (refine ⟨?_, trivial⟩; dsimp only; (simp; done)))); (conv => whnf))
 | (refine Or.inr (And.intro ?_ ?_); (focus (intro h; have h := h.1; dsimp only at h; first | (exact Bool.noConfusion h) | (simp only [Int.reduceToNat, Int.reduceTDiv, Int.reduceTMod, minL, maxL, pickB, zHB, zSH] at h; omega) | ((try simp only [Int.reduceToNat, Int.reduceTDiv, Int.reduceTMod, minL, maxL, pickB, zHB, zSH] at h); (simp_all; done)))); (conv => whnf))
 | ((with_reducible refine And.intro ?_ ?_); (focus (first | (with_reducible rfl) | omega | rfl | ((try simp only [Int.reduceToNat, Int.reduceTDiv, Int.reduceTMod, minL, maxL, pickB, zHB, zSH, InK, Path.imp, zL] at *); omega))); (conv => whnf))
 | ((with_reducible refine And.intro (Side.out ?_) ?_); rotate_left; (conv => whnf))
 | ((first | refine retM1 ?_ | refine retM2 ?_ | refine subF.leaf ?_ | refine subF.side ?_) <;> (conv => whnf) <;> repeat' (first
 | exact trivial
 | (with_reducible rfl)
 | ((with_reducible refine And.intro ?_ ?_) <;> conv => whnf)
 | omega
 | rfl
 | (refine congrArg (SV.arr _) ?_)
 | (refine congrArg (Value.int _) ?_)
 | (refine congrArg Value.bool ?_)))); all_goals (try unfold Side)
          all_goals try (repeat' (first | (with_reducible rfl) | (with_reducible refine And.intro ?_ ?_) | omega | rfl | exact Or.inl rfl | exact Or.inr rfl | exact of_decide_eq_true rfl | exact Path.imp_of (of_decide_eq_true rfl) | (focus ((try simp only [Int.reduceToNat, Int.reduceTDiv, Int.reduceTMod, minL, maxL, pickB, zHB, zSH, InK, Path.imp, zL] at *); omega)) | (refine app_le rfl ?_; omega)))
          all_goals first | exact ik1 | exact ik2 | exact ik3 | exact Path.imp_of ik1 | exact Path.imp_of ik2 | exact Path.imp_of ik3 | exact ek | exact ea | exact eb | exact hκ.symm | exact ha'.symm | exact hb'.symm | exact Path.imp_of ia | exact ia.2 | exact Path.imp_of ia.2 | skip
          refine ⟨(i + 1, w2), ⟨⟨by dsimp only; omega, by dsimp only; omega, hk2, by dsimp only; exact hpl3⟩, by dsimp only; omega⟩, ?_⟩
          refine subF.ok ?_ <;> (conv => whnf) <;> repeat' (first
 | exact trivial
 | (with_reducible rfl)
 | ((with_reducible refine And.intro ?_ ?_) <;> conv => whnf)
 | omega
 | rfl
 | (refine congrArg (SV.arr _) ?_)
 | (refine congrArg (Value.int _) ?_)
 | (refine congrArg Value.bool ?_))
          all_goals try refine subF.ok ?_ <;> (conv => whnf) <;> repeat' (first
 | exact trivial
 | (with_reducible rfl)
 | ((with_reducible refine And.intro ?_ ?_) <;> conv => whnf)
 | omega
 | rfl
 | (refine congrArg (SV.arr _) ?_)
 | (refine congrArg (Value.int _) ?_)
 | (refine congrArg Value.bool ?_))
      · by_cases h1' : κ.tmod 4 = 1
        · obtain ⟨w2, hw2⟩ : ∃ w2, w2 = idleK a w := ⟨_, rfl⟩
          obtain ⟨e, he⟩ : ∃ e : Int, e = idleE a w := ⟨_, rfl⟩
          have hk2 : WOk s w2 := by rw [hw2]; exact hw.idle
          have hpl3 : playF s (120 - (i + 1)) (x.drop (i + 1)) w2 = played s x := by rw [hw2]; rw [if_neg h0, if_pos h1'] at hpl2; exact hpl2
          have d1 := idle_at (i := a) hw he.symm hw2.symm
          have d2 := ridle_at (i := a) hw he.symm hw2.symm
          have hl2 : 0 < w2.1.length ∧ w2.1.length ≤ 10 ∧ w2.2.length ≤ 200 := by
            have := hk2.len; have := hk2.n0; have := hk2.fl; omega
          have hws : (w2.1.length : Int) = (s : Int) := by rw [hk2.len]
          cases hend : endB w2 with
          | true =>
            have g1 := ended_at (hs := w2.1) (fl := w2.2) (b := true) hl2.1 hend.symm
            obtain ⟨o1, o2⟩ := ended_over hk2 hend
            have g2 := over_at (hs := w2.1) (fl := w2.2) hl2.1 (by omega) (by omega) o1 o2
            rw [hws] at g2
            repeat' (first
 | refine W.seq ?_
 | refine W.block ?_
 | (refine W.drawPhTo (id := 9) tys_ok [] mixed [0, 0, 3, 4, 8, 16, 0, 96, 0, 0, 768, 1024, 2048, 4096, 0, 24576, 255, 131071] [([0, 1, 2, 3, 4, 5, 6, 7, 8, 9, 10, 11, 12, 13, 14, 15, 16, 17], 0, 262143)] ⟨[(1, .st false (.arr U3 x)), (6, (.lit (.int .i64 (s : Int)))), (7, .padr 6000 0), (9, .padr 8000 0), (10, (.lit (.int .i64 (i : Int)))), (11, (.lit (.int .i64 (a : Int)))), (12, (.lit (.int .i64 (b : Int))))], [(6000, .box [.own 6001, .own 6002]), (6001, .row 96 HT true (w).1), (6002, .row 50 LT true (w).2), (8000, .box [.own 8001, .own 8002]), (8001, .row 93 HT true (w).1), (8002, .row 50 LT true (w).2)]⟩ (by decide +kernel) ?_ ?_ <;> (conv => whnf))
 | (refine W.regionM (id := 19) tys_ok [] [2,5] ?_; conv => whnf)
 | (refine W.resub (x := Code.region 21 _ _) (Γ' := ⟨[(1, .st false (.arr U3 x)), (6, (.lit (.int .i64 (s : Int)))), (7, .padr 6000 0), (9, .padr 8000 0), (10, (.lit (.int .i64 (i : Int))))], [(6000, .box [.own 6001, .own 6002]), (6001, .row 96 HT true (w2).1), (6002, .row 50 LT true (w2).2), (8000, .box [.own 8001, .own 8002]), (8001, .row 93 HT true (w2).1), (8002, .row 50 LT true (w2).2)]⟩) ?_ (W.regionM tys_ok [] [1,5] ?_); rotate_left; (conv => whnf))
 | (refine W.region tys_ok [] ?_; conv => whnf)
 | (refine W.drawAll tys_ok [] mixed rfl ?_; conv => whnf)
 | (refine W.ret ?_; conv => whnf)
 | (refine W.skip ?_; conv => whnf)
 | (refine W.exit ?_; conv => whnf)
 | (refine callM_at (d1) ?_; conv => whnf)
 | (refine callM_at (d2) ?_; conv => whnf)
 | (refine callM_at (g1) ?_; conv => whnf)
 | (refine callM_at (g2) ?_; conv => whnf)
 | (refine Both.mk ?_ ?_ <;> (conv => whnf))
 | (refine W.cond rfl (fun hb => ?_) (fun hb => ?_) <;> (try simp only [Int.reduceToNat, Int.reduceTDiv, Int.reduceTMod, minL, maxL, pickB, zHB, zSH] at hb) <;> (try (first | (cases hb; done) | exact absurd hb (by decide) | (exfalso; omega) | (omega) | ((simp_all; done)))))
 | (refine Or.inl (And.intro ?_ ?_); (focus (first | exact trivial | exact ⟨rfl, trivial⟩ | (refine ⟨?_, trivial⟩; dsimp only; simp only [Int.reduceToNat, Int.reduceTDiv, Int.reduceTMod, minL, maxL, pickB, zHB, zSH]; omega) | (refine ⟨?_, trivial⟩; dsimp only; (try simp only [Int.reduceToNat, Int.reduceTDiv, Int.reduceTMod, minL, maxL, pickB, zHB, zSH]); (simp_all; done)) | (refine ⟨?_, trivial⟩; dsimp only; (simp only [Int.reduceToNat, Int.reduceTDiv, Int.reduceTMod, minL, maxL, pickB, zHB, zSH]; done)) | (refine ⟨?_, trivial⟩; dsimp only; (simp; done)))); (conv => whnf))
 | (refine Or.inr (And.intro ?_ ?_); (focus (intro h; have h := h.1; dsimp only at h; first | (exact Bool.noConfusion h) | (simp only [Int.reduceToNat, Int.reduceTDiv, Int.reduceTMod, minL, maxL, pickB, zHB, zSH] at h; omega) | ((try simp only [Int.reduceToNat, Int.reduceTDiv, Int.reduceTMod, minL, maxL, pickB, zHB, zSH] at h); (simp_all; done)))); (conv => whnf))
 | ((with_reducible refine And.intro ?_ ?_); (focus (first | (with_reducible rfl) | omega | rfl | ((try simp only [Int.reduceToNat, Int.reduceTDiv, Int.reduceTMod, minL, maxL, pickB, zHB, zSH, InK, Path.imp, zL] at *); omega))); (conv => whnf))
 | ((with_reducible refine And.intro (Side.out ?_) ?_); rotate_left; (conv => whnf))
 | ((first | refine retM1 ?_ | refine retM2 ?_ | refine subF.leaf ?_ | refine subF.side ?_) <;> (conv => whnf) <;> repeat' (first
 | exact trivial
 | (with_reducible rfl)
 | ((with_reducible refine And.intro ?_ ?_) <;> conv => whnf)
 | omega
 | rfl
 | (refine congrArg (SV.arr _) ?_)
 | (refine congrArg (Value.int _) ?_)
 | (refine congrArg Value.bool ?_)))); all_goals (try unfold Side)
            all_goals try (repeat' (first | (with_reducible rfl) | (with_reducible refine And.intro ?_ ?_) | omega | rfl | exact Or.inl rfl | exact Or.inr rfl | exact of_decide_eq_true rfl | exact Path.imp_of (of_decide_eq_true rfl) | (focus ((try simp only [Int.reduceToNat, Int.reduceTDiv, Int.reduceTMod, minL, maxL, pickB, zHB, zSH, InK, Path.imp, zL] at *); omega)) | (refine app_le rfl ?_; omega)))
            all_goals first | exact ik1 | exact ik2 | exact ik3 | exact Path.imp_of ik1 | exact Path.imp_of ik2 | exact Path.imp_of ik3 | exact ek | exact ea | exact eb | exact hκ.symm | exact ha'.symm | exact hb'.symm | exact Path.imp_of ia | exact ia.2 | exact Path.imp_of ia.2 | skip
            refine ⟨(i + 1, w2), ⟨⟨by dsimp only; omega, by dsimp only; omega, hk2, by dsimp only; exact hpl3⟩, by dsimp only; omega⟩, ?_⟩
            refine subF.ok ?_ <;> (conv => whnf) <;> repeat' (first
 | exact trivial
 | (with_reducible rfl)
 | ((with_reducible refine And.intro ?_ ?_) <;> conv => whnf)
 | omega
 | rfl
 | (refine congrArg (SV.arr _) ?_)
 | (refine congrArg (Value.int _) ?_)
 | (refine congrArg Value.bool ?_))
            all_goals try refine subF.ok ?_ <;> (conv => whnf) <;> repeat' (first
 | exact trivial
 | (with_reducible rfl)
 | ((with_reducible refine And.intro ?_ ?_) <;> conv => whnf)
 | omega
 | rfl
 | (refine congrArg (SV.arr _) ?_)
 | (refine congrArg (Value.int _) ?_)
 | (refine congrArg Value.bool ?_))
          | false =>
            have g1 := ended_at (hs := w2.1) (fl := w2.2) (b := false) hl2.1 hend.symm
            repeat' (first
 | refine W.seq ?_
 | refine W.block ?_
 | (refine W.drawPhTo (id := 9) tys_ok [] mixed [0, 0, 3, 4, 8, 16, 0, 96, 0, 0, 768, 1024, 2048, 4096, 0, 24576, 255, 131071] [([0, 1, 2, 3, 4, 5, 6, 7, 8, 9, 10, 11, 12, 13, 14, 15, 16, 17], 0, 262143)] ⟨[(1, .st false (.arr U3 x)), (6, (.lit (.int .i64 (s : Int)))), (7, .padr 6000 0), (9, .padr 8000 0), (10, (.lit (.int .i64 (i : Int)))), (11, (.lit (.int .i64 (a : Int)))), (12, (.lit (.int .i64 (b : Int))))], [(6000, .box [.own 6001, .own 6002]), (6001, .row 96 HT true (w).1), (6002, .row 50 LT true (w).2), (8000, .box [.own 8001, .own 8002]), (8001, .row 93 HT true (w).1), (8002, .row 50 LT true (w).2)]⟩ (by decide +kernel) ?_ ?_ <;> (conv => whnf))
 | (refine W.regionM (id := 19) tys_ok [] [2,5] ?_; conv => whnf)
 | (refine W.resub (x := Code.region 21 _ _) (Γ' := ⟨[(1, .st false (.arr U3 x)), (6, (.lit (.int .i64 (s : Int)))), (7, .padr 6000 0), (9, .padr 8000 0), (10, (.lit (.int .i64 (i : Int))))], [(6000, .box [.own 6001, .own 6002]), (6001, .row 96 HT true (w2).1), (6002, .row 50 LT true (w2).2), (8000, .box [.own 8001, .own 8002]), (8001, .row 93 HT true (w2).1), (8002, .row 50 LT true (w2).2)]⟩) ?_ (W.regionM tys_ok [] [1,5] ?_); rotate_left; (conv => whnf))
 | (refine W.region tys_ok [] ?_; conv => whnf)
 | (refine W.drawAll tys_ok [] mixed rfl ?_; conv => whnf)
 | (refine W.ret ?_; conv => whnf)
 | (refine W.skip ?_; conv => whnf)
 | (refine W.exit ?_; conv => whnf)
 | (refine callM_at (d1) ?_; conv => whnf)
 | (refine callM_at (d2) ?_; conv => whnf)
 | (refine callM_at (g1) ?_; conv => whnf)
 | (refine Both.mk ?_ ?_ <;> (conv => whnf))
 | (refine W.cond rfl (fun hb => ?_) (fun hb => ?_) <;> (try simp only [Int.reduceToNat, Int.reduceTDiv, Int.reduceTMod, minL, maxL, pickB, zHB, zSH] at hb) <;> (try (first | (cases hb; done) | exact absurd hb (by decide) | (exfalso; omega) | (omega) | ((simp_all; done)))))
 | (refine Or.inl (And.intro ?_ ?_); (focus (first | exact trivial | exact ⟨rfl, trivial⟩ | (refine ⟨?_, trivial⟩; dsimp only; simp only [Int.reduceToNat, Int.reduceTDiv, Int.reduceTMod, minL, maxL, pickB, zHB, zSH]; omega) | (refine ⟨?_, trivial⟩; dsimp only; (try simp only [Int.reduceToNat, Int.reduceTDiv, Int.reduceTMod, minL, maxL, pickB, zHB, zSH]); (simp_all; done)) | (refine ⟨?_, trivial⟩; dsimp only; (simp only [Int.reduceToNat, Int.reduceTDiv, Int.reduceTMod, minL, maxL, pickB, zHB, zSH]; done)) | (refine ⟨?_, trivial⟩; dsimp only; (simp; done)))); (conv => whnf))
 | (refine Or.inr (And.intro ?_ ?_); (focus (intro h; have h := h.1; dsimp only at h; first | (exact Bool.noConfusion h) | (simp only [Int.reduceToNat, Int.reduceTDiv, Int.reduceTMod, minL, maxL, pickB, zHB, zSH] at h; omega) | ((try simp only [Int.reduceToNat, Int.reduceTDiv, Int.reduceTMod, minL, maxL, pickB, zHB, zSH] at h); (simp_all; done)))); (conv => whnf))
 | ((with_reducible refine And.intro ?_ ?_); (focus (first | (with_reducible rfl) | omega | rfl | ((try simp only [Int.reduceToNat, Int.reduceTDiv, Int.reduceTMod, minL, maxL, pickB, zHB, zSH, InK, Path.imp, zL] at *); omega))); (conv => whnf))
 | ((with_reducible refine And.intro (Side.out ?_) ?_); rotate_left; (conv => whnf))
 | ((first | refine retM1 ?_ | refine retM2 ?_ | refine subF.leaf ?_ | refine subF.side ?_) <;> (conv => whnf) <;> repeat' (first
 | exact trivial
 | (with_reducible rfl)
 | ((with_reducible refine And.intro ?_ ?_) <;> conv => whnf)
 | omega
 | rfl
 | (refine congrArg (SV.arr _) ?_)
 | (refine congrArg (Value.int _) ?_)
 | (refine congrArg Value.bool ?_)))); all_goals (try unfold Side)
            all_goals try (repeat' (first | (with_reducible rfl) | (with_reducible refine And.intro ?_ ?_) | omega | rfl | exact Or.inl rfl | exact Or.inr rfl | exact of_decide_eq_true rfl | exact Path.imp_of (of_decide_eq_true rfl) | (focus ((try simp only [Int.reduceToNat, Int.reduceTDiv, Int.reduceTMod, minL, maxL, pickB, zHB, zSH, InK, Path.imp, zL] at *); omega)) | (refine app_le rfl ?_; omega)))
            all_goals first | exact ik1 | exact ik2 | exact ik3 | exact Path.imp_of ik1 | exact Path.imp_of ik2 | exact Path.imp_of ik3 | exact ek | exact ea | exact eb | exact hκ.symm | exact ha'.symm | exact hb'.symm | exact Path.imp_of ia | exact ia.2 | exact Path.imp_of ia.2 | skip
            refine ⟨(i + 1, w2), ⟨⟨by dsimp only; omega, by dsimp only; omega, hk2, by dsimp only; exact hpl3⟩, by dsimp only; omega⟩, ?_⟩
            refine subF.ok ?_ <;> (conv => whnf) <;> repeat' (first
 | exact trivial
 | (with_reducible rfl)
 | ((with_reducible refine And.intro ?_ ?_) <;> conv => whnf)
 | omega
 | rfl
 | (refine congrArg (SV.arr _) ?_)
 | (refine congrArg (Value.int _) ?_)
 | (refine congrArg Value.bool ?_))
            all_goals try refine subF.ok ?_ <;> (conv => whnf) <;> repeat' (first
 | exact trivial
 | (with_reducible rfl)
 | ((with_reducible refine And.intro ?_ ?_) <;> conv => whnf)
 | omega
 | rfl
 | (refine congrArg (SV.arr _) ?_)
 | (refine congrArg (Value.int _) ?_)
 | (refine congrArg Value.bool ?_))
        · by_cases h2' : w.2.length = 0
          · have hpl3 : playF s (120 - (i + 1)) (x.drop (i + 1)) w = played s x := by rw [if_neg h0, if_neg h1', if_pos h2'] at hpl2; exact hpl2
            repeat' (first
 | refine W.seq ?_
 | refine W.block ?_
 | (refine W.drawPhTo (id := 9) tys_ok [] mixed [0, 0, 3, 4, 8, 16, 0, 96, 0, 0, 768, 1024, 2048, 4096, 0, 24576, 255, 131071] [([0, 1, 2, 3, 4, 5, 6, 7, 8, 9, 10, 11, 12, 13, 14, 15, 16, 17], 0, 262143)] ⟨[(1, .st false (.arr U3 x)), (6, (.lit (.int .i64 (s : Int)))), (7, .padr 6000 0), (9, .padr 8000 0), (10, (.lit (.int .i64 (i : Int)))), (11, (.lit (.int .i64 (a : Int)))), (12, (.lit (.int .i64 (b : Int))))], [(6000, .box [.own 6001, .own 6002]), (6001, .row 96 HT true (w).1), (6002, .row 50 LT true (w).2), (8000, .box [.own 8001, .own 8002]), (8001, .row 93 HT true (w).1), (8002, .row 50 LT true (w).2)]⟩ (by decide +kernel) ?_ ?_ <;> (conv => whnf))
 | (refine W.region tys_ok [] ?_; conv => whnf)
 | (refine W.drawAll tys_ok [] mixed rfl ?_; conv => whnf)
 | (refine W.ret ?_; conv => whnf)
 | (refine W.skip ?_; conv => whnf)
 | (refine W.exit ?_; conv => whnf)
 | (refine Both.mk ?_ ?_ <;> (conv => whnf))
 | (refine W.cond rfl (fun hb => ?_) (fun hb => ?_) <;> (try simp only [Int.reduceToNat, Int.reduceTDiv, Int.reduceTMod, minL, maxL, pickB, zHB, zSH] at hb) <;> (try (first | (cases hb; done) | exact absurd hb (by decide) | (exfalso; omega) | (omega) | ((simp_all; done)))))
 | ((with_reducible refine And.intro ?_ ?_); (focus (first | (with_reducible rfl) | omega | rfl | ((try simp only [Int.reduceToNat, Int.reduceTDiv, Int.reduceTMod, minL, maxL, pickB, zHB, zSH, InK, Path.imp, zL] at *); omega))); (conv => whnf))
 | ((with_reducible refine And.intro (Side.out ?_) ?_); rotate_left; (conv => whnf))
 | ((first | refine retM1 ?_ | refine retM2 ?_ | refine subF.leaf ?_ | refine subF.side ?_) <;> (conv => whnf) <;> repeat' (first
 | exact trivial
 | (with_reducible rfl)
 | ((with_reducible refine And.intro ?_ ?_) <;> conv => whnf)
 | omega
 | rfl
 | (refine congrArg (SV.arr _) ?_)
 | (refine congrArg (Value.int _) ?_)
 | (refine congrArg Value.bool ?_)))); all_goals (try unfold Side)
            all_goals try (repeat' (first | (with_reducible rfl) | (with_reducible refine And.intro ?_ ?_) | omega | rfl | exact Or.inl rfl | exact Or.inr rfl | exact of_decide_eq_true rfl | exact Path.imp_of (of_decide_eq_true rfl) | (focus ((try simp only [Int.reduceToNat, Int.reduceTDiv, Int.reduceTMod, minL, maxL, pickB, zHB, zSH, InK, Path.imp, zL] at *); omega)) | (refine app_le rfl ?_; omega)))
            all_goals first | exact ik1 | exact ik2 | exact ik3 | exact Path.imp_of ik1 | exact Path.imp_of ik2 | exact Path.imp_of ik3 | exact ek | exact ea | exact eb | exact hκ.symm | exact ha'.symm | exact hb'.symm | exact Path.imp_of ia | exact ia.2 | exact Path.imp_of ia.2 | skip
            refine ⟨(i + 1, w), ⟨⟨by dsimp only; omega, by dsimp only; omega, hw, by dsimp only; exact hpl3⟩, by dsimp only; omega⟩, ?_⟩
            refine subF.ok ?_ <;> (conv => whnf) <;> repeat' (first
 | exact trivial
 | (with_reducible rfl)
 | ((with_reducible refine And.intro ?_ ?_) <;> conv => whnf)
 | omega
 | rfl
 | (refine congrArg (SV.arr _) ?_)
 | (refine congrArg (Value.int _) ?_)
 | (refine congrArg Value.bool ?_))
          · obtain ⟨w2, hw2⟩ : ∃ w2, w2 = delK ((a' + b').tmod w.2.length) w := ⟨_, rfl⟩
            obtain ⟨e, he⟩ : ∃ e : Int, e = delE ((a' + b').tmod w.2.length) w := ⟨_, rfl⟩
            have hk2 : WOk s w2 := by rw [hw2]; exact hw.del
            have hpl3 : playF s (120 - (i + 1)) (x.drop (i + 1)) w2 = played s x := by rw [hw2]; rw [if_neg h0, if_neg h1', if_neg h2'] at hpl2; exact hpl2
            have d1 := deliver_at (k := (a' + b').tmod w.2.length) hw he.symm hw2.symm
            have d2 := rdeliver_all (k := (a' + b').tmod w.2.length) hw he.symm hw2.symm
            have hl2 : 0 < w2.1.length ∧ w2.1.length ≤ 10 ∧ w2.2.length ≤ 200 := by
              have := hk2.len; have := hk2.n0; have := hk2.fl; omega
            have hws : (w2.1.length : Int) = (s : Int) := by rw [hk2.len]
            cases hend : endB w2 with
            | true =>
              have g1 := ended_at (hs := w2.1) (fl := w2.2) (b := true) hl2.1 hend.symm
              obtain ⟨o1, o2⟩ := ended_over hk2 hend
              have g2 := over_at (hs := w2.1) (fl := w2.2) hl2.1 (by omega) (by omega) o1 o2
              rw [hws] at g2
              repeat' (first
 | refine W.seq ?_
 | refine W.block ?_
 | (refine W.drawPhTo (id := 9) tys_ok [] mixed [0, 0, 3, 4, 8, 16, 0, 96, 0, 0, 768, 1024, 2048, 4096, 0, 24576, 255, 131071] [([0, 1, 2, 3, 4, 5, 6, 7, 8, 9, 10, 11, 12, 13, 14, 15, 16, 17], 0, 262143)] ⟨[(1, .st false (.arr U3 x)), (6, (.lit (.int .i64 (s : Int)))), (7, .padr 6000 0), (9, .padr 8000 0), (10, (.lit (.int .i64 (i : Int)))), (11, (.lit (.int .i64 (a : Int)))), (12, (.lit (.int .i64 (b : Int))))], [(6000, .box [.own 6001, .own 6002]), (6001, .row 96 HT true (w).1), (6002, .row 50 LT true (w).2), (8000, .box [.own 8001, .own 8002]), (8001, .row 93 HT true (w).1), (8002, .row 50 LT true (w).2)]⟩ (by decide +kernel) ?_ ?_ <;> (conv => whnf))
 | (refine W.drawPhTo (id := 12) tys_ok [] mixed [0, 0, 3, 4, 8, 16, 0, 0, 192, 256, 512, 1024, 2080, 0, 8192, 16384, 32768, 65536, 135168, 524287] [([0, 1, 2, 3, 4, 5, 6, 7, 8, 9, 10, 11, 12, 13, 14, 15], 1, 131071), ([], 1, 262143), ([18, 19], 0, 1048575)] ⟨[(1, .st false (.arr U3 x)), (6, (.lit (.int .i64 (s : Int)))), (7, .padr 6000 0), (9, .padr 8000 0), (10, (.lit (.int .i64 (i : Int)))), (13, (.lit (.int .i64 (((a' + b').tmod w.2.length) : Int))))], [(6000, .box [.own 6001, .own 6002]), (6001, .row 96 HT true (w).1), (6002, .row 50 LT true (w).2), (8000, .box [.own 8001, .own 8002]), (8001, .row 93 HT true (w).1), (8002, .row 50 LT true (w).2)]⟩ (by decide +kernel) ?_ ?_ <;> (conv => whnf))
 | (refine W.regionM (id := 13) tys_ok [] [2,5] ?_; conv => whnf)
 | (refine W.resub (x := Code.region 21 _ _) (Γ' := ⟨[(1, .st false (.arr U3 x)), (6, (.lit (.int .i64 (s : Int)))), (7, .padr 6000 0), (9, .padr 8000 0), (10, (.lit (.int .i64 (i : Int))))], [(6000, .box [.own 6001, .own 6002]), (6001, .row 96 HT true (w2).1), (6002, .row 50 LT true (w2).2), (8000, .box [.own 8001, .own 8002]), (8001, .row 93 HT true (w2).1), (8002, .row 50 LT true (w2).2)]⟩) ?_ (W.regionM tys_ok [] [1,5] ?_); rotate_left; (conv => whnf))
 | (refine W.region tys_ok [] ?_; conv => whnf)
 | (refine W.drawAll tys_ok [] mixed rfl ?_; conv => whnf)
 | (refine W.ret ?_; conv => whnf)
 | (refine W.skip ?_; conv => whnf)
 | (refine W.exit ?_; conv => whnf)
 | (refine callM_at (d1) ?_; conv => whnf)
 | (refine callM_at (d2) ?_; conv => whnf)
 | (refine callM_at (g1) ?_; conv => whnf)
 | (refine callM_at (g2) ?_; conv => whnf)
 | (refine Both.mk ?_ ?_ <;> (conv => whnf))
 | (refine W.cond rfl (fun hb => ?_) (fun hb => ?_) <;> (try simp only [Int.reduceToNat, Int.reduceTDiv, Int.reduceTMod, minL, maxL, pickB, zHB, zSH] at hb) <;> (try (first | (cases hb; done) | exact absurd hb (by decide) | (exfalso; omega) | (omega) | ((simp_all; done)))))
 | (refine Or.inl (And.intro ?_ ?_); (focus (first | exact trivial | exact ⟨rfl, trivial⟩ | (refine ⟨?_, trivial⟩; dsimp only; simp only [Int.reduceToNat, Int.reduceTDiv, Int.reduceTMod, minL, maxL, pickB, zHB, zSH]; omega) | (refine ⟨?_, trivial⟩; dsimp only; (try simp only [Int.reduceToNat, Int.reduceTDiv, Int.reduceTMod, minL, maxL, pickB, zHB, zSH]); (simp_all; done)) | (refine ⟨?_, trivial⟩; dsimp only; (simp only [Int.reduceToNat, Int.reduceTDiv, Int.reduceTMod, minL, maxL, pickB, zHB, zSH]; done)) | (refine ⟨?_, trivial⟩; dsimp only; (simp; done)))); (conv => whnf))
 | (refine Or.inr (And.intro ?_ ?_); (focus (intro h; have h := h.1; dsimp only at h; first | (exact Bool.noConfusion h) | (simp only [Int.reduceToNat, Int.reduceTDiv, Int.reduceTMod, minL, maxL, pickB, zHB, zSH] at h; omega) | ((try simp only [Int.reduceToNat, Int.reduceTDiv, Int.reduceTMod, minL, maxL, pickB, zHB, zSH] at h); (simp_all; done)))); (conv => whnf))
 | ((with_reducible refine And.intro ?_ ?_); (focus (first | (with_reducible rfl) | omega | rfl | ((try simp only [Int.reduceToNat, Int.reduceTDiv, Int.reduceTMod, minL, maxL, pickB, zHB, zSH, InK, Path.imp, zL] at *); omega))); (conv => whnf))
 | ((with_reducible refine And.intro (Side.out ?_) ?_); rotate_left; (conv => whnf))
 | ((first | refine retM1 ?_ | refine retM2 ?_ | refine subF.leaf ?_ | refine subF.side ?_) <;> (conv => whnf) <;> repeat' (first
 | exact trivial
 | (with_reducible rfl)
 | ((with_reducible refine And.intro ?_ ?_) <;> conv => whnf)
 | omega
 | rfl
 | (refine congrArg (SV.arr _) ?_)
 | (refine congrArg (Value.int _) ?_)
 | (refine congrArg Value.bool ?_)))); all_goals (try unfold Side)
              all_goals try (repeat' (first | (with_reducible rfl) | (with_reducible refine And.intro ?_ ?_) | omega | rfl | exact Or.inl rfl | exact Or.inr rfl | exact of_decide_eq_true rfl | exact Path.imp_of (of_decide_eq_true rfl) | (focus ((try simp only [Int.reduceToNat, Int.reduceTDiv, Int.reduceTMod, minL, maxL, pickB, zHB, zSH, InK, Path.imp, zL] at *); omega)) | (refine app_le rfl ?_; omega)))
              all_goals first | exact ik1 | exact ik2 | exact ik3 | exact Path.imp_of ik1 | exact Path.imp_of ik2 | exact Path.imp_of ik3 | exact ek | exact ea | exact eb | exact hκ.symm | exact ha'.symm | exact hb'.symm | exact Path.imp_of ia | exact ia.2 | exact Path.imp_of ia.2 | skip
              refine ⟨(i + 1, w2), ⟨⟨by dsimp only; omega, by dsimp only; omega, hk2, by dsimp only; exact hpl3⟩, by dsimp only; omega⟩, ?_⟩
              refine subF.ok ?_ <;> (conv => whnf) <;> repeat' (first
 | exact trivial
 | (with_reducible rfl)
 | ((with_reducible refine And.intro ?_ ?_) <;> conv => whnf)
 | omega
 | rfl
 | (refine congrArg (SV.arr _) ?_)
 | (refine congrArg (Value.int _) ?_)
 | (refine congrArg Value.bool ?_))
              all_goals try refine subF.ok ?_ <;> (conv => whnf) <;> repeat' (first
 | exact trivial
 | (with_reducible rfl)
 | ((with_reducible refine And.intro ?_ ?_) <;> conv => whnf)
 | omega
 | rfl
 | (refine congrArg (SV.arr _) ?_)
 | (refine congrArg (Value.int _) ?_)
 | (refine congrArg Value.bool ?_))
            | false =>
              have g1 := ended_at (hs := w2.1) (fl := w2.2) (b := false) hl2.1 hend.symm
              repeat' (first
 | refine W.seq ?_
 | refine W.block ?_
 | (refine W.drawPhTo (id := 9) tys_ok [] mixed [0, 0, 3, 4, 8, 16, 0, 96, 0, 0, 768, 1024, 2048, 4096, 0, 24576, 255, 131071] [([0, 1, 2, 3, 4, 5, 6, 7, 8, 9, 10, 11, 12, 13, 14, 15, 16, 17], 0, 262143)] ⟨[(1, .st false (.arr U3 x)), (6, (.lit (.int .i64 (s : Int)))), (7, .padr 6000 0), (9, .padr 8000 0), (10, (.lit (.int .i64 (i : Int)))), (11, (.lit (.int .i64 (a : Int)))), (12, (.lit (.int .i64 (b : Int))))], [(6000, .box [.own 6001, .own 6002]), (6001, .row 96 HT true (w).1), (6002, .row 50 LT true (w).2), (8000, .box [.own 8001, .own 8002]), (8001, .row 93 HT true (w).1), (8002, .row 50 LT true (w).2)]⟩ (by decide +kernel) ?_ ?_ <;> (conv => whnf))
 | (refine W.drawPhTo (id := 12) tys_ok [] mixed [0, 0, 3, 4, 8, 16, 0, 0, 192, 256, 512, 1024, 2080, 0, 8192, 16384, 32768, 65536, 135168, 524287] [([0, 1, 2, 3, 4, 5, 6, 7, 8, 9, 10, 11, 12, 13, 14, 15], 1, 131071), ([], 1, 262143), ([18, 19], 0, 1048575)] ⟨[(1, .st false (.arr U3 x)), (6, (.lit (.int .i64 (s : Int)))), (7, .padr 6000 0), (9, .padr 8000 0), (10, (.lit (.int .i64 (i : Int)))), (13, (.lit (.int .i64 (((a' + b').tmod w.2.length) : Int))))], [(6000, .box [.own 6001, .own 6002]), (6001, .row 96 HT true (w).1), (6002, .row 50 LT true (w).2), (8000, .box [.own 8001, .own 8002]), (8001, .row 93 HT true (w).1), (8002, .row 50 LT true (w).2)]⟩ (by decide +kernel) ?_ ?_ <;> (conv => whnf))
 | (refine W.regionM (id := 13) tys_ok [] [2,5] ?_; conv => whnf)
 | (refine W.resub (x := Code.region 21 _ _) (Γ' := ⟨[(1, .st false (.arr U3 x)), (6, (.lit (.int .i64 (s : Int)))), (7, .padr 6000 0), (9, .padr 8000 0), (10, (.lit (.int .i64 (i : Int))))], [(6000, .box [.own 6001, .own 6002]), (6001, .row 96 HT true (w2).1), (6002, .row 50 LT true (w2).2), (8000, .box [.own 8001, .own 8002]), (8001, .row 93 HT true (w2).1), (8002, .row 50 LT true (w2).2)]⟩) ?_ (W.regionM tys_ok [] [1,5] ?_); rotate_left; (conv => whnf))
 | (refine W.region tys_ok [] ?_; conv => whnf)
 | (refine W.drawAll tys_ok [] mixed rfl ?_; conv => whnf)
 | (refine W.ret ?_; conv => whnf)
 | (refine W.skip ?_; conv => whnf)
 | (refine W.exit ?_; conv => whnf)
 | (refine callM_at (d1) ?_; conv => whnf)
 | (refine callM_at (d2) ?_; conv => whnf)
 | (refine callM_at (g1) ?_; conv => whnf)
 | (refine Both.mk ?_ ?_ <;> (conv => whnf))
 | (refine W.cond rfl (fun hb => ?_) (fun hb => ?_) <;> (try simp only [Int.reduceToNat, Int.reduceTDiv, Int.reduceTMod, minL, maxL, pickB, zHB, zSH] at hb) <;> (try (first | (cases hb; done) | exact absurd hb (by decide) | (exfalso; omega) | (omega) | ((simp_all; done)))))
 | (refine Or.inl (And.intro ?_ ?_); (focus (first | exact trivial | exact ⟨rfl, trivial⟩ | (refine ⟨?_, trivial⟩; dsimp only; simp only [Int.reduceToNat, Int.reduceTDiv, Int.reduceTMod, minL, maxL, pickB, zHB, zSH]; omega) | (refine ⟨?_, trivial⟩; dsimp only; (try simp only [Int.reduceToNat, Int.reduceTDiv, Int.reduceTMod, minL, maxL, pickB, zHB, zSH]); (simp_all; done)) | (refine ⟨?_, trivial⟩; dsimp only; (simp only [Int.reduceToNat, Int.reduceTDiv, Int.reduceTMod, minL, maxL, pickB, zHB, zSH]; done)) | (refine ⟨?_, trivial⟩; dsimp only; (simp; done)))); (conv => whnf))
 | (refine Or.inr (And.intro ?_ ?_); (focus (intro h; have h := h.1; dsimp only at h; first | (exact Bool.noConfusion h) | (simp only [Int.reduceToNat, Int.reduceTDiv, Int.reduceTMod, minL, maxL, pickB, zHB, zSH] at h; omega) | ((try simp only [Int.reduceToNat, Int.reduceTDiv, Int.reduceTMod, minL, maxL, pickB, zHB, zSH] at h); (simp_all; done)))); (conv => whnf))
 | ((with_reducible refine And.intro ?_ ?_); (focus (first | (with_reducible rfl) | omega | rfl | ((try simp only [Int.reduceToNat, Int.reduceTDiv, Int.reduceTMod, minL, maxL, pickB, zHB, zSH, InK, Path.imp, zL] at *); omega))); (conv => whnf))
 | ((with_reducible refine And.intro (Side.out ?_) ?_); rotate_left; (conv => whnf))
 | ((first | refine retM1 ?_ | refine retM2 ?_ | refine subF.leaf ?_ | refine subF.side ?_) <;> (conv => whnf) <;> repeat' (first
 | exact trivial
 | (with_reducible rfl)
 | ((with_reducible refine And.intro ?_ ?_) <;> conv => whnf)
 | omega
 | rfl
 | (refine congrArg (SV.arr _) ?_)
 | (refine congrArg (Value.int _) ?_)
 | (refine congrArg Value.bool ?_)))); all_goals (try unfold Side)
              all_goals try (repeat' (first | (with_reducible rfl) | (with_reducible refine And.intro ?_ ?_) | omega | rfl | exact Or.inl rfl | exact Or.inr rfl | exact of_decide_eq_true rfl | exact Path.imp_of (of_decide_eq_true rfl) | (focus ((try simp only [Int.reduceToNat, Int.reduceTDiv, Int.reduceTMod, minL, maxL, pickB, zHB, zSH, InK, Path.imp, zL] at *); omega)) | (refine app_le rfl ?_; omega)))
              all_goals first | exact ik1 | exact ik2 | exact ik3 | exact Path.imp_of ik1 | exact Path.imp_of ik2 | exact Path.imp_of ik3 | exact ek | exact ea | exact eb | exact hκ.symm | exact ha'.symm | exact hb'.symm | exact Path.imp_of ia | exact ia.2 | exact Path.imp_of ia.2 | skip
              refine ⟨(i + 1, w2), ⟨⟨by dsimp only; omega, by dsimp only; omega, hk2, by dsimp only; exact hpl3⟩, by dsimp only; omega⟩, ?_⟩
              refine subF.ok ?_ <;> (conv => whnf) <;> repeat' (first
 | exact trivial
 | (with_reducible rfl)
 | ((with_reducible refine And.intro ?_ ?_) <;> conv => whnf)
 | omega
 | rfl
 | (refine congrArg (SV.arr _) ?_)
 | (refine congrArg (Value.int _) ?_)
 | (refine congrArg Value.bool ?_))
              all_goals try refine subF.ok ?_ <;> (conv => whnf) <;> repeat' (first
 | exact trivial
 | (with_reducible rfl)
 | ((with_reducible refine And.intro ?_ ?_) <;> conv => whnf)
 | omega
 | rfl
 | (refine congrArg (SV.arr _) ?_)
 | (refine congrArg (Value.int _) ?_)
 | (refine congrArg Value.bool ?_))
    · have hend : playF s (120 - i) (x.drop i) w = w := playF_stop hil hi120
      have hfin : w = played s x := by rw [← hpl, hend]
      have f1 : w.1 = (played s x).1 := by rw [← hfin]
      have f2 : w.2 = (played s x).2 := by rw [← hfin]
      repeat' (first
 | refine W.seq ?_
 | refine W.block ?_
 | (refine W.region tys_ok [] ?_; conv => whnf)
 | (refine W.drawAll tys_ok [] mixed rfl ?_; conv => whnf)
 | (refine W.ret ?_; conv => whnf)
 | (refine W.skip ?_; conv => whnf)
 | (refine W.exit ?_; conv => whnf)
 | (refine W.cond rfl (fun hb => ?_) (fun hb => ?_) <;> (try simp only [Int.reduceToNat, Int.reduceTDiv, Int.reduceTMod, minL, maxL, pickB, zHB, zSH] at hb) <;> (try (first | (cases hb; done) | exact absurd hb (by decide) | (exfalso; omega) | (omega) | ((simp [pickB] at hb; omega)))))
 | ((with_reducible refine And.intro ?_ ?_); (focus (first | (with_reducible rfl) | omega | rfl | ((try simp only [Int.reduceToNat, Int.reduceTDiv, Int.reduceTMod, minL, maxL, pickB, zHB, zSH, InK, Path.imp, zL] at *); omega))); (conv => whnf))
 | ((with_reducible refine And.intro (Side.out ?_) ?_); rotate_left; (conv => whnf))
 | ((first | refine retM1 ?_ | refine retM2 ?_) <;> (conv => whnf) <;> repeat' (first
 | exact trivial
 | (with_reducible rfl)
 | ((with_reducible refine And.intro ?_ ?_) <;> conv => whnf)
 | omega
 | rfl
 | (refine congrArg (SV.arr _) ?_)
 | (refine congrArg (Value.int _) ?_)
 | (refine congrArg Value.bool ?_)))); all_goals (try unfold Side)
      all_goals try (repeat' (first | (with_reducible rfl) | (with_reducible refine And.intro ?_ ?_) | omega | rfl | exact Or.inl rfl | exact Or.inr rfl | exact of_decide_eq_true rfl | exact Path.imp_of (of_decide_eq_true rfl) | (focus ((try simp only [Int.reduceToNat, Int.reduceTDiv, Int.reduceTMod, minL, maxL, pickB, zHB, zSH, InK, Path.imp, zL] at *); omega)) | (refine app_le rfl ?_; omega)))
      all_goals first | exact f1 | exact f2 | skip
end Go.Proofs.Ytkjcnegkdlmapaa
namespace Go.Vc
set_option linter.unusedVariables false
set_option linter.unusedSimpArgs false
theorem RegW.go {P : Program} {n : Nat} {Q : Exit → Sy → Prop} {Γ : Sy} {T : List (Nat × TE)} (hT : TOk P T) (F Ms : List Nat) {ops : Array Oper} {i : Nat} (k : Nat) (hk : (Nat.ble i k && Nat.ble k ops.size) = true)
    (h : seqM P T F Ms n ops ((ops.toList.drop i).take (k - i)) i Γ fun Γ1 => RegW P n ops k Γ1 Q) : RegW P n ops i Γ Q := by
  intro c g a w hn hst
  subst hn
  rw [Bool.and_eq_true] at hk
  have h3 := Nat.le_of_ble_eq_true hk.1
  have h4 := Nat.le_of_ble_eq_true hk.2
  have hl : ((ops.toList.drop i).take (k - i)).length = k - i := by rw [List.length_take, List.length_drop, Array.length_toList]; omega
  have e : List.range' i (ops.size - i) = List.range' i ((ops.toList.drop i).take (k - i)).length ++ List.range' k (ops.size - k) := by
    rw [hl]
    have := List.range'_append (s := i) (m := k - i) (n := ops.size - k) (step := 1)
    rw [show i + 1 * (k - i) = k by omega, show k - i + (ops.size - k) = ops.size - i by omega] at this
    exact this.symm
  rw [e]
  exact seqM_app (K := fun Γ1 => RegW P c.n ops k Γ1 Q) hT (fun Γ' g' a' w' h5 h6 => h5 c g' a' w' rfl h6) _ i Γ g a w ⟨(ops.toList.drop i).drop (k - i), (List.take_append_drop _ _).symm⟩ h hst
theorem RegW.skip {P : Program} {n : Nat} {Q : Exit → Sy → Prop} {Γ : Sy} {ops : Array Oper} {i : Nat} {o : Oper} {G : Path} {t : Nat} (ho : ops[i]? = some o) (hG : guardOf (dstsOf ops) Γ o.guard = some G) (hno : ¬ G.ok) (ht : o.dst = some t) (hlt : Nat.blt t n = true) (A : AV)
    (h : RegW P n ops (i + 1) (Γ.putB t (gd' G A)) Q) : RegW P n ops i Γ Q := by
  intro c g a w hn hst
  subst hn
  have hi : i < ops.size := (Array.getElem?_eq_some_iff.1 ho).1
  have e : List.range' i (ops.size - i) = i :: List.range' (i + 1) (ops.size - (i + 1)) := by
    rw [show ops.size - i = ops.size - (i + 1) + 1 by omega, List.range'_succ]
  rw [e, wpOps_cons]
  unfold wpOp
  rw [ho]
  dsimp only
  rw [if_neg (fun h => hno ((guardOf.wanted (ops := ops) hst hG).1 h)), ht]
  refine h c g _ w rfl ((hst.put (Nat.le_of_ble_eq_true hlt) (A := gd' G A) ?_).congr (fun _ => rfl) (fun _ => rfl))
  cases G with
  | nil => exact absurd trivial hno
  | cons x r => exact ⟨fun h => absurd h hno, fun _ => rfl⟩
end Go.Vc
