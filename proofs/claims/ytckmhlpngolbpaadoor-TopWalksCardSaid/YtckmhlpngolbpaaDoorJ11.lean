/- Joined of: W16. No condition. -/
import Derived.Test.YtckmhlpngolbpaaDoorJ8
import Derived.Test.YtckmhlpngolbpaaDoorJ9
import Derived.Test.YtckmhlpngolbpaaDoorJ10
set_option linter.unusedVariables false
set_option linter.unusedSimpArgs false
namespace Go.Proofs.YtckmhlpngolbpaaDoor
open Int renaming reduceToNat → zr, reduceTDiv → zd, reduceTMod → zm
open Go Go.Vc Go.Rg Go.Sh
def gby (b : Nat) : Nat → List UInt8
 | 0 => []
 | i + 1 => gby b i ++ [if i = b then 46 else 35]
theorem gby_len {b : Nat} : ∀ {i : Nat}, (gby b i).length = i
 | 0 => rfl
 | i + 1 => by rw [gby, List.length_append, gby_len]; rfl
theorem gby_get {b : Nat} : ∀ {i x : Nat}, x < i → (gby b i).getD x 0 = if x = b then 46 else 35
 | i + 1, x, h => by
  rw [gby, List.getD_eq_getElem?_getD]
  by_cases e : x < i
  · rw [List.getElem?_append_left (by rw [gby_len]; exact e)]
    have := gby_get (b := b) e
    rwa [List.getD_eq_getElem?_getD] at this
  · have e2 : x = i := by omega
    subst e2
    rw [List.getElem?_append_right (by rw [gby_len]; exact Nat.le_refl _), gby_len, Nat.sub_self]; rfl
def goalB (b i : Nat) : ByteArray := ⟨⟨gby b i⟩⟩
theorem dots_row {w : Nat} : RowB (dots w) w := ⟨by simp [dots], fun x hx => by
 have h : x ∈ List.replicate w (46 : UInt8) := hx
 exact .inl (List.eq_of_mem_replicate h)⟩
theorem dots_pt {w y : Nat} (hy : y < w) : isPt (dots w) y = true := by
 have h : (dots w).data.toList.getD y 0 = 46 := by
  show (List.replicate w (46 : UInt8)).getD y 0 = 46
  rw [List.getD_eq_getElem?_getD, List.getElem?_replicate, if_pos hy]; rfl
 unfold isPt
 rw [h]; rfl
theorem goal_row {b w : Nat} : RowB (goalB b w) w := ⟨gby_len, fun x hx => by
 have h : x ∈ gby b w := hx
 obtain ⟨i, hi, rfl⟩ := List.mem_iff_getElem.1 h
 have h2 := gby_get (b := b) (i := w) (x := i) (by rw [gby_len] at hi; exact hi)
 rw [List.getD_eq_getElem?_getD, List.getElem?_eq_getElem hi] at h2
 have h3 : (gby b w)[i] = if i = b then 46 else 35 := h2
 rw [h3]
 split
 · exact .inl rfl
 · exact .inr rfl⟩
theorem goal_pt {b w y : Nat} (hy : y < w) : isPt (goalB b w) y = true ↔ y = b := by
 have h : (goalB b w).data.toList.getD y 0 = if y = b then 46 else 35 := gby_get hy
 unfold isPt
 rw [h]
 by_cases e : y = b
 · rw [if_pos e]; simp [e]
 · rw [if_neg e]; simp [e]
theorem dots_step {i : Nat} : Value.string ⟨⟨(dots i).data.toList ++ (⟨#[46]⟩ : ByteArray).data.toList⟩⟩ = Value.string (dots (i + 1)) :=
 congrArg (fun l : List UInt8 => Value.string ⟨⟨l⟩⟩) List.replicate_succ'.symm
theorem goal_step {b i : Nat} (h : (i : Int) = b) : Value.string ⟨⟨(goalB b i).data.toList ++ (⟨#[46]⟩ : ByteArray).data.toList⟩⟩ = Value.string (goalB b (i + 1)) :=
 congrArg (fun l : List UInt8 => Value.string ⟨⟨l⟩⟩) (show gby b i ++ [46] = gby b (i + 1) by rw [gby, if_pos (by omega)])
theorem goal_step' {b i : Nat} (h : ¬ (i : Int) = b) : Value.string ⟨⟨(goalB b i).data.toList ++ (⟨#[35]⟩ : ByteArray).data.toList⟩⟩ = Value.string (goalB b (i + 1)) :=
 congrArg (fun l : List UInt8 => Value.string ⟨⟨l⟩⟩) (show gby b i ++ [35] = gby b (i + 1) by rw [gby, if_neg (by omega)])
set_option maxRecDepth 100000 in
set_option maxHeartbeats 32000000 in
theorem TopWalks_at {x y z : Int} (hx : 0 ≤ x ∧ x ≤ 255) (hy : 0 ≤ y ∧ y ≤ 255) (hz : 0 ≤ z ∧ z ≤ 255) :
  FnAt Tryd.prog false 4 [(.lit (.int .u8 (x : Int))), (.lit (.int .u8 (y : Int))), (.lit (.int .u8 (z : Int)))] (.lit (.bool true)) [] := by
 have hmx : x.tmod 16 = x % 16 := Int.tmod_eq_emod_of_nonneg hx.1
 obtain ⟨w, hw⟩ : ∃ w : Nat, (w : Int) = x.tmod 16 + 1 := ⟨(x.tmod 16 + 1).toNat, by omega⟩
 have hw1 : 1 ≤ w ∧ w ≤ 16 := by omega
 have hwz : (w : Int) ≠ 0 := by omega
 have hyb : y.tmod (w : Int) = y % (w : Int) := Int.tmod_eq_emod_of_nonneg hy.1
 have hy1 := Int.emod_nonneg y hwz
 have hy2 := Int.emod_lt_of_pos y (by omega : (0 : Int) < w)
 obtain ⟨a, ha⟩ : ∃ a : Nat, (a : Int) = y.tmod w := ⟨(y.tmod w).toNat, by omega⟩
 have haw : a < w := by omega
 have hzb : z.tmod (w : Int) = z % (w : Int) := Int.tmod_eq_emod_of_nonneg hz.1
 have hz1 := Int.emod_nonneg z hwz
 have hz2 := Int.emod_lt_of_pos z (by omega : (0 : Int) < w)
 obtain ⟨b, hb0⟩ : ∃ b : Nat, (b : Int) = z.tmod w := ⟨(z.tmod w).toNat, by omega⟩
 have hbw : b < w := by omega
 have e1 : x.tmod 16 + 1 = (w : Int) := hw.symm
 have e2 : y.tmod (x.tmod 16 + 1) = (a : Int) := by rw [e1]; exact ha.symm
 have e3 : z.tmod (x.tmod 16 + 1) = (b : Int) := by rw [e1]; exact hb0.symm
 have e4 : x.tmod 16 + 1 ≠ 0 := by omega
 have c1 := reach_m (row := dots w) (goal := goalB b w) hw1 haw hbw dots_row goal_row (fun y hy => dots_pt hy) (fun y hy => goal_pt hy)
 have c2 := Kernel_m (row := dots w) hw1 dots_row rfl (fun y hy => dots_pt hy)
 obtain ⟨f, hf⟩ : ∃ f : Nat, (f : Int) = farT a b := ⟨(farT a b).toNat, by unfold farT; split <;> omega⟩
 obtain ⟨g, hg⟩ : ∃ g : Int, g = firT a b := ⟨_, rfl⟩
 obtain ⟨g1, hg1⟩ : ∃ g1 : Int, g1 = if (b : Int) - (a : Int) < 0 then 1 else 0 := ⟨_, rfl⟩
 rw [← hf, ← hg] at c1
 have f1 : (b : Int) - (a : Int) < 0 → -((b : Int) - (a : Int)) = f := fun h => by rw [hf]; unfold farT; rw [if_neg (by omega)]; omega
 have f2 : ¬ (b : Int) - (a : Int) < 0 → (b : Int) - (a : Int) = f := fun h => by
  rw [hf]; unfold farT
  split <;> omega
 have f3 : (f : Int) = 0 → g = -1 := fun h => by
  rw [hg]; unfold firT
  rw [hf] at h; unfold farT at h
  rw [if_pos (by split at h <;> omega)]
 have f4 : ¬ (f : Int) = 0 → g = g1 := fun h => by
  rw [hg, hg1]; unfold firT
  rw [hf] at h; unfold farT at h
  by_cases hlt : a < b
  · rw [if_neg (by omega), if_pos hlt, if_neg (by omega)]
  · rw [if_neg hlt] at h
    rw [if_neg (by omega), if_neg hlt, if_pos (by omega)]
 have f5 : f ≤ 15 := by
  have : (f : Int) ≤ 15 := by rw [hf]; unfold farT; split <;> omega
  omega
 have s1 : (b : Int) - (a : Int) < 0 → (1 : Int) = g1 := fun h => by rw [hg1, if_pos h]
 have s2 : ¬ (b : Int) - (a : Int) < 0 → (0 : Int) = g1 := fun h => by rw [hg1, if_neg h]
 clear hg hg1 hf
 clear hmx hyb hzb hy1 hy2 hz1 hz2
 refine FnAt.of_body tys_ok Tryd.func4 (by rfl) rfl Tryd.ntmps4 (by rw [Tryd.results4]) (by simp) ?_
 repeat' (first
 | refine W.seq ?_
 | refine W.block ?_
 | (refine W.resub (x := Code.region 3 _ _) (Γ' := ⟨[(7, (.lit (.int .i64 (w : Int)))), (8, (.lit (.int .i64 (a : Int)))), (9, (.lit (.int .i64 (b : Int))))], []⟩) ?_ (W.region tys_ok [] ?_); rotate_left; (conv => whnf))
 | (refine W.region tys_ok [] ?_; conv => whnf)
 | (refine W.drawAll tys_ok [] mixed rfl ?_; conv => whnf)
 | (refine W.ret ?_; conv => whnf)
 | (refine W.skip ?_; conv => whnf)
 | (refine W.exit ?_; conv => whnf)
 | (refine W.cond rfl (fun hb => ?_) (fun hb => ?_) <;> (try simp only [zr, zd, zm, minL, maxL, pickB, zA] at hb) <;> (try (first | (cases hb; done) | exact absurd hb (by decide) | (exfalso; omega) | (omega))))
 | ((with_reducible refine And.intro ?_ ?_); exact zc; conv => whnf)
 | ((with_reducible refine And.intro (Side.out ?_) ?_); rotate_left; (conv => whnf))
 | ((first | refine retF1 ?_ | refine retF2 ?_) <;> (conv => whnf) <;> repeat' (first
 | exact trivial
 | (with_reducible rfl)
 | ((with_reducible refine And.intro ?_ ?_) <;> conv => whnf)
 | omega
 | rfl
 | (refine congrArg (SV.arr _) ?_)
 | (refine congrArg (Value.int _) ?_)
 | (refine congrArg Value.bool ?_)))); all_goals (try unfold Side)
 all_goals try refine subF.ok ?_ <;> (conv => whnf) <;> repeat' (first
 | exact trivial
 | (with_reducible rfl)
 | ((with_reducible refine And.intro ?_ ?_) <;> conv => whnf)
 | omega
 | rfl
 | (refine congrArg (SV.arr _) ?_)
 | (refine congrArg (Value.int _) ?_)
 | (refine congrArg Value.bool ?_))
 all_goals first | exact e1 | exact e2 | exact e3 | skip
 all_goals try (repeat' (first | exact zb | with_reducible refine And.intro ?_ ?_))
 refine W.loop (fun i : Nat => ⟨[(7, (.lit (.int .i64 (w : Int)))), (8, (.lit (.int .i64 (a : Int)))), (9, (.lit (.int .i64 (b : Int)))), (10, .lit (.string (dots i))), (11, .lit (.string (goalB b i))), (12, (.lit (.int .i64 (i : Int))))], []⟩) (fun i => i ≤ w) (fun i => w - i) (0) ?_ ?_
 · refine ⟨Nat.zero_le _, ?_⟩
   refine subF.ok ?_ <;> (conv => whnf) <;> repeat' (first
 | exact trivial
 | (with_reducible rfl)
 | ((with_reducible refine And.intro ?_ ?_) <;> conv => whnf)
 | omega
 | rfl
 | (refine congrArg (SV.arr _) ?_)
 | (refine congrArg (Value.int _) ?_)
 | (refine congrArg Value.bool ?_))
   done
 · rintro i hi
   by_cases hiw : i < w
   · have q1 : (dots i).data.toList.length + (⟨#[46]⟩ : ByteArray).data.toList.length ≤ 9223372036854775807 := by
      show (List.replicate i (46 : UInt8)).length + 1 ≤ _
      rw [List.length_replicate]; omega
     have q2 : (goalB b i).data.toList.length + (⟨#[46]⟩ : ByteArray).data.toList.length ≤ 9223372036854775807 := by
      show (gby b i).length + 1 ≤ _
      rw [gby_len]; omega
     have q3 : (goalB b i).data.toList.length + (⟨#[35]⟩ : ByteArray).data.toList.length ≤ 9223372036854775807 := q2
     repeat' (first
 | refine W.seq ?_
 | refine W.block ?_
 | (refine W.region tys_ok [] ?_; conv => whnf)
 | (refine W.drawAll tys_ok [] mixed rfl ?_; conv => whnf)
 | (refine W.ret ?_; conv => whnf)
 | (refine W.skip ?_; conv => whnf)
 | (refine W.exit ?_; conv => whnf)
 | (refine W.cond rfl (fun hb => ?_) (fun hb => ?_) <;> (try simp only [zr, zd, zm, minL, maxL, pickB, zA] at hb) <;> (try (first | (cases hb; done) | exact absurd hb (by decide) | (exfalso; omega) | (omega))))
 | ((with_reducible refine And.intro ?_ ?_); exact zc; conv => whnf)
 | ((with_reducible refine And.intro (Side.out ?_) ?_); rotate_left; (conv => whnf))
 | ((first | refine retF1 ?_ | refine retF2 ?_) <;> (conv => whnf) <;> repeat' (first
 | exact trivial
 | (with_reducible rfl)
 | ((with_reducible refine And.intro ?_ ?_) <;> conv => whnf)
 | omega
 | rfl
 | (refine congrArg (SV.arr _) ?_)
 | (refine congrArg (Value.int _) ?_)
 | (refine congrArg Value.bool ?_)))); all_goals (try unfold Side)
     all_goals try (repeat' (first | exact zb | with_reducible refine And.intro ?_ ?_))
     all_goals first | exact Path.imp_of q1 | exact Path.imp_of q2 | exact Path.imp_of q3 | skip
     all_goals
      refine ⟨i + 1, ⟨by omega, by omega⟩, ?_⟩
      refine subF.ok ?_ <;> (conv => whnf) <;> repeat' (first
 | exact trivial
 | (with_reducible rfl)
 | ((with_reducible refine And.intro ?_ ?_) <;> conv => whnf)
 | omega
 | rfl
 | (refine congrArg (SV.arr _) ?_)
 | (refine congrArg (Value.int _) ?_)
 | (refine congrArg Value.bool ?_))
     all_goals first | exact dots_step | (refine (goal_step ?_); omega) | (refine (goal_step' ?_); omega) | skip
   · obtain rfl : w = i := by omega
     repeat' (first
 | refine W.joinTo (t := 83) ⟨[(10, .lit (.string (dots w))), (14, (.lit (.int .i64 (f : Int)))), (15, (.lit (.int .i64 (g : Int)))), (16, (.lit (.int .i64 (0 : Int)))), (17, .st true (.arr (.sl .str) ([[(dots w)]] : List (List ByteArray)))), (18, (.lit (.int .i64 (0 : Int)))), (19, (.lit (.int .i64 (f : Int)))), (20, (.lit (.int .i64 (g1 : Int))))], []⟩ ?_ ?_
 | refine W.joinTo (t := 87) ⟨[(10, .lit (.string (dots w))), (14, (.lit (.int .i64 (f : Int)))), (15, (.lit (.int .i64 (g : Int)))), (16, (.lit (.int .i64 (0 : Int)))), (17, .st true (.arr (.sl .str) ([[(dots w)]] : List (List ByteArray)))), (18, (.lit (.int .i64 (0 : Int)))), (19, (.lit (.int .i64 (f : Int)))), (20, (.lit (.int .i64 (g : Int))))], []⟩ ?_ ?_
 | refine W.seq ?_
 | refine W.block ?_
 | (refine W.regW (id := 11) ?_; refine RegW.cut tys_ok [] [] 2 ⟨[(7, (.lit (.int .i64 (w : Int)))), (8, (.lit (.int .i64 (a : Int)))), (9, (.lit (.int .i64 (b : Int)))), (10, .lit (.string (dots w))), (11, .lit (.string (goalB b w))), (53, .lit (.string (dots w))), (54, .st true (.arr .str [dots w]))], []⟩ rfl ?_ ?_; (conv => whnf); rotate_left; refine RegW.cut tys_ok [] [] 12 ⟨[(7, (.lit (.int .i64 (w : Int)))), (8, (.lit (.int .i64 (a : Int)))), (9, (.lit (.int .i64 (b : Int)))), (10, .lit (.string (dots w))), (11, .lit (.string (goalB b w))), (13, .st true (.sadr (.agg [.arr (.sl .str) ([[(dots w)]] : List (List ByteArray)), .arr MT mvL, .arr KT jlL])))], []⟩ rfl ?_ ?_; (conv => whnf); rotate_left; refine RegW.fin tys_ok [] [] ?_; (conv => whnf))
 | (refine W.regW (id := 12) ?_; refine RegW.cut tys_ok [] [6] 3 ⟨[(8, (.lit (.int .i64 (a : Int)))), (9, (.lit (.int .i64 (b : Int)))), (10, .lit (.string (dots w))), (13, .st true (.sadr (.agg [.arr (.sl .str) ([[(dots w)]] : List (List ByteArray)), .arr MT mvL, .arr KT jlL]))), (64, .st true (.agg [.arr (.sl .str) ([[(dots w)]] : List (List ByteArray)), .arr MT mvL, .arr KT jlL])), (65, .lit (.string (goalB b w))), (66, .st true (.arr .str [goalB b w]))], []⟩ rfl ?_ ?_; (conv => whnf); rotate_left; refine RegW.cut tys_ok [] [6] 6 ⟨[(8, (.lit (.int .i64 (a : Int)))), (9, (.lit (.int .i64 (b : Int)))), (10, .lit (.string (dots w))), (13, .st true (.sadr (.agg [.arr (.sl .str) ([[(dots w)]] : List (List ByteArray)), .arr MT mvL, .arr KT jlL]))), (64, .st true (.agg [.arr (.sl .str) ([[(dots w)]] : List (List ByteArray)), .arr MT mvL, .arr KT jlL])), (67, .st true (.arr (.sl .str) ([[(goalB b w)]] : List (List ByteArray)))), (69, .strct [(.lit (.int .i64 (0 : Int))), (.lit (.int .i64 (a : Int))), (.lit (.int .i64 (0 : Int)))])], []⟩ rfl ?_ ?_; (conv => whnf); rotate_left; refine RegW.fin tys_ok [] [6] ?_; (conv => whnf))
 | (refine W.regionM (id := 13) tys_ok [] [1] ?_; conv => whnf)
 | (refine W.region tys_ok [] ?_; conv => whnf)
 | (refine W.drawAll tys_ok [] mixed rfl ?_; conv => whnf)
 | (refine W.ret ?_; conv => whnf)
 | (refine W.skip ?_; conv => whnf)
 | (refine W.exit ?_; conv => whnf)
 | (refine callM_at (c1) ?_; conv => whnf)
 | (refine callM_at (c2) ?_; conv => whnf)
 | (refine Both.mk ?_ ?_ <;> (conv => whnf))
 | (refine W.cond rfl (fun hb => ?_) (fun hb => ?_) <;> (try simp only [zr, zd, zm, minL, maxL, pickB, zA] at hb) <;> (try (first | (cases hb; done) | exact absurd hb (by decide) | (exfalso; omega) | (omega) | ((rcases hb with (h | h) | h <;> exact (h rfl).elim)))))
 | (refine Or.inl (And.intro ?_ ?_); exact zi; conv => whnf)
 | (refine Or.inr (And.intro ?_ ?_); exact zj; conv => whnf)
 | ((with_reducible refine And.intro ?_ ?_); exact zc; conv => whnf)
 | ((with_reducible refine And.intro (Side.out ?_) ?_); rotate_left; (conv => whnf))
 | ((first | refine retF1 ?_ | refine retF2 ?_ | refine subF.leaf ?_ | refine subF.side ?_) <;> (conv => whnf) <;> repeat' (first
 | exact trivial
 | (with_reducible rfl)
 | ((with_reducible refine And.intro ?_ ?_) <;> conv => whnf)
 | omega
 | rfl
 | (refine congrArg (SV.arr _) ?_)
 | (refine congrArg (Value.int _) ?_)
 | (refine congrArg Value.bool ?_)))); all_goals (try unfold Side)
     all_goals try refine subF.ok ?_ <;> (conv => whnf) <;> repeat' (first
 | exact trivial
 | (with_reducible rfl)
 | ((with_reducible refine And.intro ?_ ?_) <;> conv => whnf)
 | omega
 | rfl
 | (refine congrArg (SV.arr _) ?_)
 | (refine congrArg (Value.int _) ?_)
 | (refine congrArg Value.bool ?_))
     all_goals try (repeat' (first | exact zb | with_reducible refine And.intro ?_ ?_))
     obtain ⟨m, hm⟩ : ∃ m : Nat, m = min f 6 := ⟨_, rfl⟩
     have hmf : minL (f : Int) [6] = (m : Int) := by
      show min (f : Int) 6 = m
      rw [hm]; omega
     refine W.loop (fun i : Nat => ⟨[(19, (.lit (.int .i64 (f : Int)))), (21, .padr 22000 0), (22, (.lit (.int .i64 (i : Int))))], [(22000, .box [(.lit (.int .i64 (1 : Int))), .own 22001, .own 22002]), (22001, .row 58 JT true (jbs m i)), (22002, .row 60 OT true (ods i))]⟩) (fun i => i ≤ m) (fun i => m - i) (0) ?_ ?_
     · refine ⟨Nat.zero_le _, ?_⟩
       refine subF.ok ?_ <;> (conv => whnf) <;> repeat' (first
 | exact trivial
 | (with_reducible rfl)
 | ((with_reducible refine And.intro ?_ ?_) <;> conv => whnf)
 | omega
 | rfl
 | (refine congrArg (SV.arr _) ?_)
 | (refine congrArg (Value.int _) ?_)
 | (refine congrArg Value.bool ?_))
       all_goals first | rfl | skip
     · rintro i him
       by_cases hilm : i < m
       · have j1 : (jbs m i).length + 1 ≤ 4294967296 := by rw [jbs_len]; omega
         have j2 : (ods i).length + 1 ≤ 4294967296 := by rw [ods_len]; omega
         have j3 : jbs m i ++ [((0 : Int), minL (f : Int) [6], (1 : Int), (1 : Int), ())] = jbs m (i + 1) := by rw [hmf]; exact jbs_step
         repeat' (first
 | refine W.seq ?_
 | refine W.block ?_
 | (refine W.region tys_ok [] ?_; conv => whnf)
 | (refine W.drawAll tys_ok [] mixed rfl ?_; conv => whnf)
 | (refine W.ret ?_; conv => whnf)
 | (refine W.skip ?_; conv => whnf)
 | (refine W.exit ?_; conv => whnf)
 | (refine W.cond rfl (fun hb => ?_) (fun hb => ?_) <;> (try simp only [zr, zd, zm, minL, maxL, pickB, zA] at hb) <;> (try (first | (cases hb; done) | exact absurd hb (by decide) | (exfalso; omega) | (omega) | ((simp [pickB] at hb; omega)))))
 | ((with_reducible refine And.intro ?_ ?_); exact zc; conv => whnf)
 | ((with_reducible refine And.intro (Side.out ?_) ?_); rotate_left; (conv => whnf))
 | ((first | refine retF1 ?_ | refine retF2 ?_) <;> (conv => whnf) <;> repeat' (first
 | exact trivial
 | (with_reducible rfl)
 | ((with_reducible refine And.intro ?_ ?_) <;> conv => whnf)
 | omega
 | rfl
 | (refine congrArg (SV.arr _) ?_)
 | (refine congrArg (Value.int _) ?_)
 | (refine congrArg Value.bool ?_)))); all_goals (try unfold Side)
         all_goals try (repeat' (first | exact zb | with_reducible refine And.intro ?_ ?_))
         all_goals first | exact j1 | exact j2 | skip
         · refine ⟨i + 1, ⟨by omega, by omega⟩, ?_⟩
           refine subF.ok ?_ <;> (conv => whnf) <;> repeat' (first
 | exact trivial
 | (with_reducible rfl)
 | ((with_reducible refine And.intro ?_ ?_) <;> conv => whnf)
 | omega
 | rfl
 | (refine congrArg (SV.arr _) ?_)
 | (refine congrArg (Value.int _) ?_)
 | (refine congrArg Value.bool ?_))
           all_goals first | exact j3 | exact ods_step (by omega) | skip
         · obtain rfl : i = 0 := by omega
           refine ⟨0 + 1, ⟨by omega, by omega⟩, ?_⟩
           refine subF.ok ?_ <;> (conv => whnf) <;> repeat' (first
 | exact trivial
 | (with_reducible rfl)
 | ((with_reducible refine And.intro ?_ ?_) <;> conv => whnf)
 | omega
 | rfl
 | (refine congrArg (SV.arr _) ?_)
 | (refine congrArg (Value.int _) ?_)
 | (refine congrArg Value.bool ?_))
           all_goals first | exact j3 | rfl | skip
       · obtain rfl : i = m := by omega
         by_cases hf0 : (f : Int) = 0
         · repeat' (first
 | refine W.seq ?_
 | refine W.block ?_
 | (refine W.region tys_ok [] ?_; conv => whnf)
 | (refine W.drawAll tys_ok [] mixed rfl ?_; conv => whnf)
 | (refine W.ret ?_; conv => whnf)
 | (refine W.skip ?_; conv => whnf)
 | (refine W.exit ?_; conv => whnf)
 | (refine W.cond rfl (fun hb => ?_) (fun hb => ?_) <;> (try simp only [zr, zd, zm, minL, maxL, pickB, zA] at hb) <;> (try (first | (cases hb; done) | exact absurd hb (by decide) | (exfalso; omega) | (omega) | ((simp [pickB] at hb; omega)))))
 | ((with_reducible refine And.intro ?_ ?_); exact zc; conv => whnf)
 | ((with_reducible refine And.intro (Side.out ?_) ?_); rotate_left; (conv => whnf))
 | ((first | refine retF1 ?_ | refine retF2 ?_) <;> (conv => whnf) <;> repeat' (first
 | exact trivial
 | (with_reducible rfl)
 | ((with_reducible refine And.intro ?_ ?_) <;> conv => whnf)
 | omega
 | rfl
 | (refine congrArg (SV.arr _) ?_)
 | (refine congrArg (Value.int _) ?_)
 | (refine congrArg Value.bool ?_)))); all_goals (try unfold Side)
           all_goals try (repeat' (first | exact zb | with_reducible refine And.intro ?_ ?_))
         · have hm1 : 1 ≤ i := by omega
           have hm6 : i ≤ 6 := by omega
           have c3 := Short_at (walks_vs hm1 hm6)
           obtain ⟨k1, k2⟩ := walks_short hm1 hm6
           have k3 : idn i ≠ [] := fun h => by have := idn_len (n := i); rw [h] at this; simp at this; omega
           rw [k1, k2, if_neg k3] at c3
           have k5 : @List.length (Ty.int .i64).T (idn i) = i := idn_len
           repeat' (first
 | refine W.seq ?_
 | refine W.block ?_
 | (refine W.resub (x := Code.region 30 _ _) (Γ' := ⟨[(19, (.lit (.int .i64 (f : Int)))), (21, .st true (.sadr (.agg [I64 1, .arr JT (jbs i i), .arr OT (ods i)])))], []⟩) ?_ (W.region tys_ok [] ?_); rotate_left; (conv => whnf))
 | (refine W.region tys_ok [] ?_; conv => whnf)
 | (refine W.drawAll tys_ok [] mixed rfl ?_; conv => whnf)
 | (refine W.ret ?_; conv => whnf)
 | (refine W.skip ?_; conv => whnf)
 | (refine W.exit ?_; conv => whnf)
 | (refine call_at (al := true) (c3) rfl rfl rfl rfl ?_; conv => whnf)
 | (refine W.cond rfl (fun hb => ?_) (fun hb => ?_) <;> (try simp only [zr, zd, zm, minL, maxL, pickB, zA] at hb) <;> (try (first | (cases hb; done) | exact absurd hb (by decide) | (exfalso; omega) | (omega) | ((simp [pickB] at hb; omega)))))
 | ((with_reducible refine And.intro ?_ ?_); exact zc; conv => whnf)
 | ((with_reducible refine And.intro (Side.out ?_) ?_); rotate_left; (conv => whnf))
 | ((first | refine retF1 ?_ | refine retF2 ?_) <;> (conv => whnf) <;> repeat' (first
 | exact trivial
 | (with_reducible rfl)
 | ((with_reducible refine And.intro ?_ ?_) <;> conv => whnf)
 | omega
 | rfl
 | (refine congrArg (SV.arr _) ?_)
 | (refine congrArg (Value.int _) ?_)
 | (refine congrArg Value.bool ?_)))); all_goals (try unfold Side)
           all_goals try refine subF.ok ?_ <;> (conv => whnf) <;> repeat' (first
 | exact trivial
 | (with_reducible rfl)
 | ((with_reducible refine And.intro ?_ ?_) <;> conv => whnf)
 | omega
 | rfl
 | (refine congrArg (SV.arr _) ?_)
 | (refine congrArg (Value.int _) ?_)
 | (refine congrArg Value.bool ?_))
           all_goals try (repeat' (first | exact zb | with_reducible refine And.intro ?_ ?_))
           refine W.loop (fun j : Nat => ⟨[(19, (.lit (.int .i64 (f : Int)))), (23, .st true (.narr (.int .i64) (idn i : List Int))), (24, (.lit (.int .i64 (i : Int)))), (25, (.lit (.int .i64 (0 : Int)))), (26, (.lit (.int .i64 (j : Int))))], []⟩) (fun j => j ≤ i) (fun j => i - j) (0) ?_ ?_
           · refine ⟨Nat.zero_le _, ?_⟩
             refine subF.ok ?_ <;> (conv => whnf) <;> repeat' (first
 | exact trivial
 | (with_reducible rfl)
 | ((with_reducible refine And.intro ?_ ?_) <;> conv => whnf)
 | omega
 | rfl
 | (refine congrArg (SV.arr _) ?_)
 | (refine congrArg (Value.int _) ?_)
 | (refine congrArg Value.bool ?_))
           · rintro j hj
             by_cases hji : j < i
             · have k4 := idn_get hji
               repeat' (first
 | refine W.seq ?_
 | refine W.block ?_
 | (refine W.region tys_ok [] ?_; conv => whnf)
 | (refine W.drawAll tys_ok [] mixed rfl ?_; conv => whnf)
 | (refine W.ret ?_; conv => whnf)
 | (refine W.skip ?_; conv => whnf)
 | (refine W.exit ?_; conv => whnf)
 | (refine W.cond rfl (fun hb => ?_) (fun hb => ?_) <;> (try simp only [zr, zd, zm, minL, maxL, pickB, zA] at hb) <;> (try (first | (cases hb; done) | exact absurd hb (by decide) | (exfalso; omega) | (omega) | ((exact (hb k4).elim)) | ((exact (hb (hji.trans_eq k5.symm)).elim)))))
 | ((with_reducible refine And.intro ?_ ?_); exact zc; conv => whnf)
 | ((with_reducible refine And.intro (Side.out ?_) ?_); rotate_left; (conv => whnf))
 | ((first | refine retF1 ?_ | refine retF2 ?_) <;> (conv => whnf) <;> repeat' (first
 | exact trivial
 | (with_reducible rfl)
 | ((with_reducible refine And.intro ?_ ?_) <;> conv => whnf)
 | omega
 | rfl
 | (refine congrArg (SV.arr _) ?_)
 | (refine congrArg (Value.int _) ?_)
 | (refine congrArg Value.bool ?_)))); all_goals (try unfold Side)
               all_goals try (repeat' (first | exact zb | with_reducible refine And.intro ?_ ?_))
               refine ⟨j + 1, ⟨by omega, by omega⟩, ?_⟩
               refine subF.ok ?_ <;> (conv => whnf) <;> repeat' (first
 | exact trivial
 | (with_reducible rfl)
 | ((with_reducible refine And.intro ?_ ?_) <;> conv => whnf)
 | omega
 | rfl
 | (refine congrArg (SV.arr _) ?_)
 | (refine congrArg (Value.int _) ?_)
 | (refine congrArg Value.bool ?_))
             · obtain rfl : j = i := by omega
               repeat' (first
 | refine W.seq ?_
 | refine W.block ?_
 | (refine W.region tys_ok [] ?_; conv => whnf)
 | (refine W.drawAll tys_ok [] mixed rfl ?_; conv => whnf)
 | (refine W.ret ?_; conv => whnf)
 | (refine W.skip ?_; conv => whnf)
 | (refine W.exit ?_; conv => whnf)
 | (refine W.cond rfl (fun hb => ?_) (fun hb => ?_) <;> (try simp only [zr, zd, zm, minL, maxL, pickB, zA] at hb) <;> (try (first | (cases hb; done) | exact absurd hb (by decide) | (exfalso; omega) | (omega) | ((exact (Nat.lt_irrefl j (hb.trans_eq k5)).elim)))))
 | ((with_reducible refine And.intro ?_ ?_); exact zc; conv => whnf)
 | ((with_reducible refine And.intro (Side.out ?_) ?_); rotate_left; (conv => whnf))
 | ((first | refine retF1 ?_ | refine retF2 ?_) <;> (conv => whnf) <;> repeat' (first
 | exact trivial
 | (with_reducible rfl)
 | ((with_reducible refine And.intro ?_ ?_) <;> conv => whnf)
 | omega
 | rfl
 | (refine congrArg (SV.arr _) ?_)
 | (refine congrArg (Value.int _) ?_)
 | (refine congrArg Value.bool ?_)))); all_goals (try unfold Side)
               all_goals try (repeat' (first | exact zb | with_reducible refine And.intro ?_ ?_))
               rw [hmf, show @List.length (Ty.int .i64).T (idn j) = j from k5]
               simp [pickB]
end Go.Proofs.YtckmhlpngolbpaaDoor
