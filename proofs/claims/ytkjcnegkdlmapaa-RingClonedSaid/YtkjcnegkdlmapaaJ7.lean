/- Joined of: R15 R16 R17 R2 R3 R4 R18. No condition. -/
import Derived.Test.YtkjcnegkdlmapaaJ6
set_option linter.unusedVariables false
set_option linter.unusedSimpArgs false
namespace Go.Proofs.Ytkjcnegkdlmapaa
open Int renaming reduceToNat → zr, reduceTDiv → zd, reduceTMod → zm
open Go Go.Vc Go.Rg
variable {n : Nat} {pet : Bool} {d : Dn}
theorem getD_setW {l : List We} {i j : Nat} {x : We} (hi : i < l.length) : (l.set i x).getD j W0 = if j = i then x else l.getD j W0 := by
 rw [List.getD_eq_getElem?_getD, List.getElem?_set, List.getD_eq_getElem?_getD]
 by_cases e : i = j
 · subst e; simp [hi]
 · rw [if_neg e, if_neg (fun h => e h.symm)]
theorem dB_len {ws : List We} {i : Nat} : (dB ws i).length = ws.length := by unfold dB; simp
theorem beginw_at {i : Nat} (hp : i < d.1.length) (hi : i < d.2.1.length) (hf : ((d.2.1.getD i []).length : Int) ≤ d.2.2) (hs : 0 ≤ d.2.2 ∧ d.2.2 ≤ 1000000) : FnM Try.prog 62 [.padr 1000000000 0, (.lit (.int .i64 (i : Int)))] [(1000000000, .box [.lit (.bool pet), .own 1000000001, .own 1000000002, (.lit (.int .i64 ((d).2.2 : Int)))]), (1000000001, .row 111 WT true (d).1), (1000000002, .row 80 (.sl NT) true (d).2.1)] (.tup []) [(1000000000, .box [.lit (.bool pet), .own 1000000001, .own 1000000002, (.lit (.int .i64 (((beginD i d)).2.2 : Int)))]), (1000000001, .row 111 WT true ((beginD i d)).1), (1000000002, .row 80 (.sl NT) true ((beginD i d)).2.1)] := by
 have c1 := sendd_at (pet := pet) (d := (dB d.1 i, d.2)) (i := i) (k := 1) (v := wV d.1 i) hi hf hs
 have hl : @List.length WT.T d.1 = d.1.length := rfl
 have e1 : wV (dB d.1 i) i = wV d.1 i := by unfold wV dB; rw [getD_setW hp, if_pos rfl]; rfl
 have e2 : i < (dB d.1 i).length := by rw [dB_len]; exact hp
 have e3 : 0 ≤ (i : Int) ∧ i < (dB d.1 i).length := ⟨by omega, e2⟩
 refine FnM.of_body tys_ok Try.func62 (by rfl) rfl Try.ntmps62 (by rw [Try.results62]) (by simp) ?_
 repeat' (first
 | refine W.seq ?_
 | refine W.block ?_
 | (refine W.regionM (id := 1) tys_ok [] [10] ?_; conv => whnf)
 | (refine W.region tys_ok [] ?_; conv => whnf)
 | (refine W.drawAll tys_ok [] mixed rfl ?_; conv => whnf)
 | (refine W.ret ?_; conv => whnf)
 | (refine W.skip ?_; conv => whnf)
 | (refine W.exit ?_; conv => whnf)
 | (refine callM_at (c1) ?_; conv => whnf)
 | (refine W.cond rfl (fun hb => ?_) (fun hb => ?_) <;> (try simp only [zr, zd, zm, minL, maxL, pickB, zA] at hb) <;> (try (first | (cases hb; done) | exact absurd hb (by decide) | (exfalso; omega) | (omega))))
 | (refine Or.inl (And.intro trivial ?_); (conv => whnf))
 | ((with_reducible refine And.intro ?_ ?_); exact zc; conv => whnf)
 | ((with_reducible refine And.intro (Side.out ?_) ?_); rotate_left; (conv => whnf))
 | ((first | refine retM1 ?_ | refine retM2 ?_) <;> (conv => whnf) <;> repeat' (first
 | exact trivial
 | (with_reducible rfl)
 | ((with_reducible refine And.intro ?_ ?_) <;> conv => whnf)
 | omega
 | rfl
 | (refine congrArg (SV.arr _) ?_)
 | (refine congrArg (Value.int _) ?_)
 | (refine congrArg Value.bool ?_)))); all_goals (try unfold Side)
 all_goals try (repeat' (first | exact zb | with_reducible refine And.intro ?_ ?_))
 all_goals first | exact e1 | exact e2 | exact Path.imp_of e3 | rfl
theorem learnd_at {i : Nat} {v : Int} (hp : i < d.1.length) (hi : i < d.2.1.length) (hf : ((d.2.1.getD i []).length : Int) ≤ d.2.2) (hs : 0 ≤ d.2.2 ∧ d.2.2 ≤ 1000000) : FnM Try.prog 80 [.padr 1000000000 0, (.lit (.int .i64 (i : Int))), (.lit (.int .i64 (v : Int)))] [(1000000000, .box [.lit (.bool pet), .own 1000000001, .own 1000000002, (.lit (.int .i64 ((d).2.2 : Int)))]), (1000000001, .row 111 WT true (d).1), (1000000002, .row 80 (.sl NT) true (d).2.1)] (.tup []) [(1000000000, .box [.lit (.bool pet), .own 1000000001, .own 1000000002, (.lit (.int .i64 (((learnD i v d)).2.2 : Int)))]), (1000000001, .row 111 WT true ((learnD i v d)).1), (1000000002, .row 80 (.sl NT) true ((learnD i v d)).2.1)] := by
 have c1 := sendd_at (pet := pet) (d := (dL d.1 i v, d.2)) (i := i) (k := 3) (v := v) hi hf hs
 have hl : @List.length WT.T d.1 = d.1.length := rfl
 refine FnM.of_body tys_ok Try.func80 (by rfl) rfl Try.ntmps80 (by rw [Try.results80]) (by simp) ?_
 repeat' (first
 | refine W.seq ?_
 | refine W.block ?_
 | (refine W.regionM (id := 1) tys_ok [] [3] ?_; conv => whnf)
 | (refine W.region tys_ok [] ?_; conv => whnf)
 | (refine W.drawAll tys_ok [] mixed rfl ?_; conv => whnf)
 | (refine W.ret ?_; conv => whnf)
 | (refine W.skip ?_; conv => whnf)
 | (refine W.exit ?_; conv => whnf)
 | (refine callM_at (c1) ?_; conv => whnf)
 | (refine W.cond rfl (fun hb => ?_) (fun hb => ?_) <;> (try simp only [zr, zd, zm, minL, maxL, pickB, zA] at hb) <;> (try (first | (cases hb; done) | exact absurd hb (by decide) | (exfalso; omega) | (omega))))
 | (refine Or.inl (And.intro trivial ?_); (conv => whnf))
 | ((with_reducible refine And.intro ?_ ?_); exact zc; conv => whnf)
 | ((with_reducible refine And.intro (Side.out ?_) ?_); rotate_left; (conv => whnf))
 | ((first | refine retM1 ?_ | refine retM2 ?_) <;> (conv => whnf) <;> repeat' (first
 | exact trivial
 | (with_reducible rfl)
 | ((with_reducible refine And.intro ?_ ?_) <;> conv => whnf)
 | omega
 | rfl
 | (refine congrArg (SV.arr _) ?_)
 | (refine congrArg (Value.int _) ?_)
 | (refine congrArg Value.bool ?_)))); all_goals (try unfold Side)
 all_goals try (repeat' (first | exact zb | with_reducible refine And.intro ?_ ?_))
def startDE (i : Int) (d : Dn) : Int := if hasB d.1.length i = true then (if wB d.1 i.toNat = true then 5 else 0) else 1
def startDK (i : Int) (d : Dn) : Dn := if startDE i d = 0 then beginD i.toNat d else d
theorem has_iff {n : Nat} {i : Int} : hasB n i = true ↔ 0 ≤ i ∧ i < n := by unfold hasB; simp
theorem startd_at {i e : Int} {d2 : Dn} (hfl : d.2.1.length = d.1.length) (hf : ∀ i, ((d.2.1.getD i []).length : Int) ≤ d.2.2) (hs : 0 ≤ d.2.2 ∧ d.2.2 ≤ 1000000) (hlen : d.1.length ≤ 1000) (he : startDE i d = e) (hd : startDK i d = d2) :
  FnM Try.prog 31 [.padr 1000000000 0, (.lit (.int .i64 (i : Int)))] [(1000000000, .box [.lit (.bool pet), .own 1000000001, .own 1000000002, (.lit (.int .i64 ((d).2.2 : Int)))]), (1000000001, .row 111 WT true (d).1), (1000000002, .row 80 (.sl NT) true (d).2.1)] (.lit (.int .i64 (e : Int))) [(1000000000, .box [.lit (.bool pet), .own 1000000001, .own 1000000002, (.lit (.int .i64 ((d2).2.2 : Int)))]), (1000000001, .row 111 WT true (d2).1), (1000000002, .row 80 (.sl NT) true (d2).2.1)] := by
 have hl : @List.length WT.T d.1 = d.1.length := rfl
 have c1 := inB_at (v := i) (lo := 0) (hi := (d.1.length : Int) - 1) (b := hasB d.1.length i) (by
  rw [Bool.eq_iff_iff, has_iff, Bool.and_eq_true, decide_eq_true_eq, decide_eq_true_eq]; omega)
 have c2 : ∀ j : Nat, j < d.1.length → _ := fun j hj => beginw_at (pet := pet) (d := d) (i := j) hj (by omega) (hf j) hs
 have key : (hasB d.1.length i = false ∧ e = 1 ∧ d2 = d) ∨ (∃ j : Nat, i = j ∧ j < d.1.length ∧ (d.1.getD j W0).2.2.2.2.1 = true ∧ e = 5 ∧ d2 = d) ∨ ∃ j : Nat, i = j ∧ j < d.1.length ∧ (d.1.getD j W0).2.2.2.2.1 = false ∧ e = 0 ∧ d2 = beginD j d := by
  unfold startDK at hd
  rw [he] at hd
  unfold startDE at he
  by_cases h1 : hasB d.1.length i = true
  · obtain ⟨j, rfl, hj⟩ := has_nat h1
    rw [if_pos h1, Int.toNat_natCast] at he
    rw [Int.toNat_natCast] at hd
    by_cases h2 : wB d.1 j = true
    · rw [if_pos h2] at he
      rw [← he, if_neg (by decide)] at hd
      exact .inr (.inl ⟨j, rfl, hj, h2, he.symm, hd.symm⟩)
    · rw [if_neg h2] at he
      rw [← he, if_pos rfl] at hd
      exact .inr (.inr ⟨j, rfl, hj, Bool.eq_false_iff.2 h2, he.symm, hd.symm⟩)
  · rw [if_neg h1] at he
    rw [← he, if_neg (by decide)] at hd
    exact .inl ⟨by simpa using h1, he.symm, hd.symm⟩
 clear he hd
 rcases key with ⟨h1, rfl, rfl⟩ | ⟨j, rfl, hj, h2, rfl, rfl⟩ | ⟨j, rfl, hj, h2, rfl, rfl⟩
 all_goals
  refine FnM.of_body tys_ok Try.func31 (by rfl) rfl Try.ntmps31 (by rw [Try.results31]) (by simp) ?_
  repeat' (first
 | refine W.seq ?_
 | refine W.block ?_
 | (refine W.regionM (id := 5) tys_ok [] [2] ?_; conv => whnf)
 | (refine W.region tys_ok [] ?_; conv => whnf)
 | (refine W.drawAll tys_ok [] mixed rfl ?_; conv => whnf)
 | (refine W.ret ?_; conv => whnf)
 | (refine W.skip ?_; conv => whnf)
 | (refine W.exit ?_; conv => whnf)
 | (refine call_at (al := false) (c1) rfl rfl rfl rfl ?_; conv => whnf)
 | (refine callM_at (c2 _ hj) ?_; conv => whnf)
 | (refine W.cond rfl (fun hb => ?_) (fun hb => ?_) <;> (try simp only [zr, zd, zm, minL, maxL, pickB, zA] at hb) <;> (try (first | (cases hb; done) | exact absurd hb (by decide) | (exfalso; omega) | (omega) | ((simp_all [has_of]; done)))))
 | (refine Or.inl (And.intro trivial ?_); (conv => whnf))
 | ((with_reducible refine And.intro ?_ ?_); exact zc; conv => whnf)
 | ((with_reducible refine And.intro (Side.out ?_) ?_); rotate_left; (conv => whnf))
 | ((first | refine retM1 ?_ | refine retM2 ?_) <;> (conv => whnf) <;> repeat' (first
 | exact trivial
 | (with_reducible rfl)
 | ((with_reducible refine And.intro ?_ ?_) <;> conv => whnf)
 | omega
 | rfl
 | (refine congrArg (SV.arr _) ?_)
 | (refine congrArg (Value.int _) ?_)
 | (refine congrArg Value.bool ?_)))); all_goals (try unfold Side)
 all_goals try (repeat' (first | exact zb | with_reducible refine And.intro ?_ ?_))
theorem changd_at {i : Nat} {k v : Int} {d2 : Dn} (hp : i < d.1.length) (hi : i < d.2.1.length) (hf : ((d.2.1.getD i []).length : Int) ≤ d.2.2) (hs : 0 ≤ d.2.2 ∧ d.2.2 ≤ 1000000) (hk : k = 1 ∨ k = 3) (hd : changD i k v d = d2) :
  FnM Try.prog 69 [.padr 1000000000 0, (.lit (.int .i64 (i : Int))), .strct [(.lit (.int .i64 (k : Int))), (.lit (.int .i64 (v : Int)))]] [(1000000000, .box [.lit (.bool pet), .own 1000000001, .own 1000000002, (.lit (.int .i64 ((d).2.2 : Int)))]), (1000000001, .row 111 WT true (d).1), (1000000002, .row 80 (.sl NT) true (d).2.1)] (.tup []) [(1000000000, .box [.lit (.bool pet), .own 1000000001, .own 1000000002, (.lit (.int .i64 ((d2).2.2 : Int)))]), (1000000001, .row 111 WT true (d2).1), (1000000002, .row 80 (.sl NT) true (d2).2.1)] := by
 have hl : @List.length WT.T d.1 = d.1.length := rfl
 have e0 : 0 ≤ (i : Int) ∧ i < d.1.length := ⟨by omega, hp⟩
 have c1 := learnd_at (pet := pet) (d := d) (i := i) (v := v) hp hi hf hs
 have c2 := sendd_at (pet := pet) (d := (dB d.1 i, d.2)) (i := i) (k := 1) (v := v) hi hf hs
 have c3 := beginw_at (pet := pet) (d := d) (i := i) hp hi hf hs
 obtain ⟨N, hN⟩ : ∃ N, (d.1.getD i W0).1 = N := ⟨_, rfl⟩
 obtain ⟨B, hB⟩ : ∃ B, (d.1.getD i W0).2.2.2.2.1 = B := ⟨_, rfl⟩
 have key : (k = 3 ∧ v ≠ N ∧ d2 = learnD i v d) ∨ (k = 1 ∧ v = N ∧ d2 = learnD i v d) ∨ (k = 1 ∧ N < v ∧ d2 = sendD i 1 v (dB d.1 i, d.2)) ∨ (k = 1 ∧ v < N ∧ B = false ∧ d2 = beginD i d) ∨ (k = 1 ∧ v < N ∧ B = true ∧ d2 = d) ∨ (k = 3 ∧ v = N ∧ d2 = d) := by
  unfold changD at hd
  have hN' : wN d.1 i = N := hN
  have hB' : wB d.1 i = B := hB
  rw [hN', hB'] at hd
  by_cases c1 : (k = 3 ∧ v ≠ N) ∨ (k = 1 ∧ v = N)
  · rw [if_pos c1] at hd
    rcases c1 with c | c
    · exact .inl ⟨c.1, c.2, hd.symm⟩
    · exact .inr (.inl ⟨c.1, c.2, hd.symm⟩)
  · rw [if_neg c1] at hd
    rcases hk with e | e
    · have hv : v ≠ N := fun c => c1 (.inr ⟨e, c⟩)
      by_cases c2 : N < v
      · rw [if_pos ⟨e, c2⟩] at hd
        exact .inr (.inr (.inl ⟨e, c2, hd.symm⟩))
      · rw [if_neg (fun c => c2 c.2)] at hd
        by_cases c3 : B = false
        · rw [if_pos ⟨e, c3⟩] at hd
          exact .inr (.inr (.inr (.inl ⟨e, by omega, c3, hd.symm⟩)))
        · rw [if_neg (fun c => c3 c.2)] at hd
          exact .inr (.inr (.inr (.inr (.inl ⟨e, by omega, by simpa using c3, hd.symm⟩))))
    · have hv : v = N := Classical.byContradiction fun c => c1 (.inl ⟨e, c⟩)
      rw [if_neg (fun c => by omega), if_neg (fun c => by omega)] at hd
      exact .inr (.inr (.inr (.inr (.inr ⟨e, hv, hd.symm⟩))))
 clear hd hk
 rcases key with ⟨h1, h2, rfl⟩ | ⟨h1, h2, rfl⟩ | ⟨h1, h2, rfl⟩ | ⟨h1, h2, h3, rfl⟩ | ⟨h1, h2, h3, rfl⟩ | ⟨h1, h2, rfl⟩
 all_goals subst h1
 all_goals
  refine FnM.of_body tys_ok Try.func69 (by rfl) rfl Try.ntmps69 (by rw [Try.results69]) (by simp) ?_
  repeat' (first
 | refine W.seq ?_
 | refine W.block ?_
 | (refine W.drawBC (id := 1) tys_ok [] [] mixed 1000000000 [.lit (.bool pet), .own 1000000001, .own 1000000002, (.lit (.int .i64 (d.2.2 : Int)))] rfl rfl [0, 1, 2, 4, 0, 24, 0, 64, 63, 511] [([0, 1, 2, 3, 4, 5, 6, 8], 1, 511), ([9], 0, 1023)] [none, none] (by decide +kernel) ?_; conv => whnf)
 | (refine W.regionM (id := 4) tys_ok [] [3] ?_; conv => whnf)
 | (refine W.regionM (id := 7) tys_ok [] [3] ?_; conv => whnf)
 | (refine W.regionM (id := 9) tys_ok [] [2] ?_; conv => whnf)
 | (refine W.region tys_ok [] ?_; conv => whnf)
 | (refine W.drawAll tys_ok [] mixed rfl ?_; conv => whnf)
 | (refine W.ret ?_; conv => whnf)
 | (refine W.skip ?_; conv => whnf)
 | (refine W.exit ?_; conv => whnf)
 | (refine callM_at (c1) ?_; conv => whnf)
 | (refine callM_at (c2) ?_; conv => whnf)
 | (refine callM_at (c3) ?_; conv => whnf)
 | (refine Both.mk ?_ ?_ <;> (conv => whnf))
 | (refine W.cond rfl (fun hb => ?_) (fun hb => ?_) <;> (try simp only [zr, zd, zm, minL, maxL, pickB, zA] at hb) <;> (try (first | (cases hb; done) | exact absurd hb (by decide) | (exfalso; omega) | (omega) | ((simp [pickB, hN] at hb; omega)) | ((simp_all; done)))))
 | (refine Or.inl (And.intro trivial ?_); (conv => whnf))
 | ((with_reducible refine And.intro ?_ ?_); exact zc; conv => whnf)
 | ((with_reducible refine And.intro (Side.out ?_) ?_); rotate_left; (conv => whnf))
 | ((first | refine retM1 ?_ | refine retM2 ?_ | refine subF.leaf ?_ | refine subF.side ?_) <;> (conv => whnf) <;> repeat' (first
 | exact trivial
 | (with_reducible rfl)
 | ((with_reducible refine And.intro ?_ ?_) <;> conv => whnf)
 | omega
 | rfl
 | (refine congrArg (SV.arr _) ?_)
 | (refine congrArg (Value.int _) ?_)
 | (refine congrArg Value.bool ?_)))); all_goals (try unfold Side)
 all_goals first | exact Path.imp_of e0 | exact Path.imp_of hp | exact hp | rfl | skip
 all_goals try (repeat' (first | exact zb | with_reducible refine And.intro ?_ ?_))
open Go Go.Vc Go.Rg
variable {n : Nat} {pet : Bool} {d : Dn}
def sw1 (ws : List We) (i : Nat) (v : Int) : List We := ws.set i ((ws.getD i W0).1, v, (ws.getD i W0).2.2)
def sw2 (ws : List We) (i : Nat) (v : Int) : List We := ws.set i ((ws.getD i W0).1, (ws.getD i W0).2.1, v, (ws.getD i W0).2.2.2)
def sw6 (ws : List We) (i : Nat) (b : Bool) : List We := ws.set i ((ws.getD i W0).1, (ws.getD i W0).2.1, (ws.getD i W0).2.2.1, (ws.getD i W0).2.2.2.1, (ws.getD i W0).2.2.2.2.1, (ws.getD i W0).2.2.2.2.2.1, b, (ws.getD i W0).2.2.2.2.2.2.2)
theorem sw_no {ws : List We} {i : Nat} {v : Int} (hi : i < ws.length) : sw6 (sw2 ws i v) i true = dNo ws i v := by
 have e : (sw2 ws i v).getD i W0 = ((ws.getD i W0).1, (ws.getD i W0).2.1, v, (ws.getD i W0).2.2.2) := by unfold sw2; rw [getD_setW hi, if_pos rfl]
 unfold sw6
 rw [e]
 unfold sw2
 rw [List.set_set]
 rfl
theorem sw_v {ws : List We} {i : Nat} (hi : i < ws.length) : sw6 (sw1 ws i (wO ws i)) i false = dV ws i := by
 have e : (sw1 ws i (wO ws i)).getD i W0 = ((ws.getD i W0).1, wO ws i, (ws.getD i W0).2.2) := by unfold sw1; rw [getD_setW hi, if_pos rfl]
 unfold sw6
 rw [e]
 unfold sw1
 rw [List.set_set]
 rfl
theorem sw1_len {ws : List We} {i : Nat} {v : Int} (hi : i < ws.length) : i < (sw1 ws i v).length := by unfold sw1; rw [List.length_set]; exact hi
theorem sw2_len {ws : List We} {i : Nat} {v : Int} (hi : i < ws.length) : i < (sw2 ws i v).length := by unfold sw2; rw [List.length_set]; exact hi
theorem getV_dV {ws : List We} {i : Nat} (hi : i < ws.length) : wV (dV ws i) i = wO ws i := by unfold wV dV; rw [getD_setW hi, if_pos rfl]
theorem beginD_ok {i : Nat} (hp : i < d.1.length) (hi : i < d.2.1.length) (hf : ((d.2.1.getD i []).length : Int) ≤ d.2.2) : i < (beginD i d).1.length ∧ i < (beginD i d).2.1.length ∧ (((beginD i d).2.1.getD i []).length : Int) ≤ (beginD i d).2.2 ∧ (beginD i d).2.2 = d.2.2 + 1 := by
 refine ⟨by show i < (dB d.1 i).length; rw [dB_len]; exact hp, by show i < (d.2.1.set i _).length; rw [List.length_set]; exact hi, ?_, rfl⟩
 show (((d.2.1.set i (d.2.1.getD i [] ++ [(1, wV d.1 i, ())])).getD i []).length : Int) ≤ d.2.2 + 1
 rw [getD_setF hi, if_pos rfl, List.length_append, List.length_singleton]; omega
set_option maxHeartbeats 4000000 in
theorem peterd_at {i : Nat} {k v : Int} {d2 : Dn} (hp0 : i < d.1.length) (hi0 : i < d.2.1.length) (hf0 : ((d.2.1.getD i []).length : Int) ≤ d.2.2) (hs0 : 0 ≤ d.2.2 ∧ d.2.2 ≤ 999999) (hd : peterD i k v d = d2) :
    FnM Try.prog 68 [.padr 1000000000 0, (.lit (.int .i64 (i : Int))), .strct [(.lit (.int .i64 (k : Int))), (.lit (.int .i64 (v : Int)))]] [(1000000000, .box [.lit (.bool pet), .own 1000000001, .own 1000000002, (.lit (.int .i64 ((d).2.2 : Int)))]), (1000000001, .row 111 WT true (d).1), (1000000002, .row 80 (.sl NT) true (d).2.1)] (.tup []) [(1000000000, .box [.lit (.bool pet), .own 1000000001, .own 1000000002, (.lit (.int .i64 ((d2).2.2 : Int)))]), (1000000001, .row 111 WT true (d2).1), (1000000002, .row 80 (.sl NT) true (d2).2.1)] := by
  have hl0 : @List.length WT.T d.1 = d.1.length := rfl
  have e00 : 0 ≤ (i : Int) ∧ i < d.1.length := ⟨by omega, hp0⟩
  have c0 := beginw_at (pet := pet) (d := d) (i := i) hp0 hi0 hf0 ⟨by omega, by omega⟩
  have hb0 : (d.1.getD i W0).2.2.2.2.1 = wB d.1 i := rfl
  obtain ⟨x, hx⟩ : ∃ x, x = wakeD i d := ⟨_, rfl⟩
  obtain ⟨hw1, hw2, hp, hi, hf, hs⟩ : (wB d.1 i = true → d = x) ∧ (wB d.1 i = false → beginD i d = x) ∧ i < x.1.length ∧ i < x.2.1.length ∧ ((x.2.1.getD i []).length : Int) ≤ x.2.2 ∧ 0 ≤ x.2.2 ∧ x.2.2 ≤ 1000000 := by
    obtain ⟨q1, q2, q3, q4⟩ := beginD_ok hp0 hi0 hf0
    rw [hx]
    unfold wakeD
    by_cases hb : wB d.1 i = true
    · rw [if_pos hb]; exact ⟨fun _ => rfl, (fun h => by rw [hb] at h; cases h), hp0, hi0, hf0, by omega, by omega⟩
    · rw [if_neg hb]; exact ⟨fun h => absurd h hb, fun _ => rfl, q1, q2, q3, by omega, by omega⟩
  have hw3 : (!(d.1.getD i W0).2.2.2.2.1) = false → d = x := fun h => hw1 (by rw [hb0] at h; simpa using h)
  have hw4 : (!(d.1.getD i W0).2.2.2.2.1) = true → beginD i d = x := fun h => hw2 (by rw [hb0] at h; simpa using h)
  have hl : @List.length WT.T x.1 = x.1.length := rfl
  have e0 : 0 ≤ (i : Int) ∧ i < x.1.length := ⟨by omega, hp⟩
  have c1 := learnd_at (pet := pet) (d := x) (i := i) (v := v) hp hi hf hs
  have c2 := sendd_at (pet := pet) (d := x) (i := i) (k := k) (v := v) hi hf hs
  have c3 := sendd_at (pet := pet) (d := (dNo x.1 i v, x.2)) (i := i) (k := 2) (v := v) hi hf hs
  have c4 := sendd_at (pet := pet) (d := (dV x.1 i, x.2)) (i := i) (k := 1) (v := wO x.1 i) hi hf hs
  obtain ⟨V, hV⟩ : ∃ V, (x.1.getD i W0).2.1 = V := ⟨_, rfl⟩
  obtain ⟨O, hO⟩ : ∃ O, (x.1.getD i W0).2.2.1 = O := ⟨_, rfl⟩
  obtain ⟨L, hL⟩ : ∃ L, (x.1.getD i W0).2.2.2.1 = L := ⟨_, rfl⟩
  obtain ⟨P, hP⟩ : ∃ P, (x.1.getD i W0).2.2.2.2.2.1 = P := ⟨_, rfl⟩
  have key : (k = 3 ∧ L = 0 ∧ learnD i v x = d2) ∨ (k = 3 ∧ L ≠ 0 ∧ x = d2) ∨ (k ≠ 3 ∧ P = true ∧ sendD i k v x = d2) ∨ (k = 1 ∧ P = false ∧ v = V ∧ learnD i v x = d2) ∨ (k = 1 ∧ P = false ∧ v ≠ V ∧ sendD i 2 v (dNo x.1 i v, x.2) = d2) ∨
      ((k ≠ 3 ∧ k ≠ 1) ∧ P = false ∧ (V < O ∧ v < O) ∧ sendD i 1 O (dV x.1 i, x.2) = d2) ∨ ((k ≠ 3 ∧ k ≠ 1) ∧ P = false ∧ ¬ (V < O ∧ v < O) ∧ (dR x.1 i, x.2) = d2) := by
    unfold peterD at hd
    rw [← hx] at hd
    unfold peterT at hd
    have hV' : wV x.1 i = V := hV
    have hO' : wO x.1 i = O := hO
    have hL' : wL x.1 i = L := hL
    have hP' : wP x.1 i = P := hP
    rw [hV', hO', hL', hP'] at hd
    by_cases k3 : k = 3
    · rw [if_pos k3] at hd
      by_cases l0 : L = 0
      · rw [if_pos l0] at hd; exact .inl ⟨k3, l0, hd⟩
      · rw [if_neg l0] at hd; exact .inr (.inl ⟨k3, l0, hd⟩)
    · rw [if_neg k3] at hd
      by_cases p1 : P = true
      · rw [if_pos p1] at hd; exact .inr (.inr (.inl ⟨k3, p1, hd⟩))
      · rw [if_neg p1] at hd
        have p1 : P = false := by simpa using p1
        by_cases k1 : k = 1
        · by_cases v1 : v = V
          · rw [if_pos ⟨k1, v1⟩] at hd; exact .inr (.inr (.inr (.inl ⟨k1, p1, v1, hd⟩)))
          · rw [if_neg (fun c => v1 c.2), if_pos k1] at hd; exact .inr (.inr (.inr (.inr (.inl ⟨k1, p1, v1, hd⟩))))
        · rw [if_neg (fun c => k1 c.1), if_neg k1] at hd
          by_cases u : V < O ∧ v < O
          · rw [if_pos u] at hd; exact .inr (.inr (.inr (.inr (.inr (.inl ⟨⟨k3, k1⟩, p1, u, hd⟩)))))
          · rw [if_neg u] at hd; exact .inr (.inr (.inr (.inr (.inr (.inr ⟨⟨k3, k1⟩, p1, u, hd⟩)))))
  clear hd
  have q1 : 0 ≤ (i : Int) ∧ i < (sw1 x.1 i (wO x.1 i)).length := ⟨by omega, sw1_len hp⟩
  have q2 : 0 ≤ (i : Int) ∧ i < (sw2 x.1 i v).length := ⟨by omega, sw2_len hp⟩
  have q5 : i < (sw6 (sw1 x.1 i (wO x.1 i)) i false).length := by unfold sw6; rw [List.length_set]; exact sw1_len hp
  have hU : wV (sw6 (sw1 x.1 i (wO x.1 i)) i false) i = wO x.1 i := by rw [sw_v hp]; exact getV_dV hp
  have epk : pickB (decide ((x.1.getD i W0).2.1 < (x.1.getD i W0).2.2.1)) (Operand.tmp 98) (Operand.const (Value.bool false)) (decide (v < (x.1.getD i W0).2.2.1)) false = (decide (V < O) && decide (v < O)) := by rw [hV, hO]; rfl
  clear hx
  rcases key with ⟨h1, h2, rfl⟩ | ⟨h1, h2, rfl⟩ | ⟨h1, h2, rfl⟩ | ⟨h1, h2, h3, rfl⟩ | ⟨h1, h2, h3, rfl⟩ | ⟨h1, h2, h3, rfl⟩ | ⟨h1, h2, h3, rfl⟩
  all_goals
    refine FnM.of_body tys_ok Try.func68 (by rfl) rfl Try.ntmps68 (by rw [Try.results68]) (by simp) ?_
    repeat' (first
 | refine W.joinTo (t := 20) ⟨[(0, .padr 1000000000 0), (1, (.lit (.int .i64 (i : Int)))), (5, .padr 6000 0), (6, .oadr 1000000001 7 i 0), (7, (.lit (.int .i64 (v : Int))))], [(1000000000, .box [.lit (.bool pet), .own 1000000001, .own 1000000002, (.lit (.int .i64 ((x).2.2 : Int)))]), (1000000001, .row 111 WT true (x).1), (1000000002, .row 80 (.sl NT) true (x).2.1), (6000, .box [(.lit (.int .i64 (k : Int))), (.lit (.int .i64 (v : Int)))])]⟩ ?_ ?_
 | refine W.seq ?_
 | refine W.block ?_
 | (refine W.drawBC (id := 1) tys_ok [] [] mixed 1000000000 [.lit (.bool pet), .own 1000000001, .own 1000000002, (.lit (.int .i64 (d.2.2 : Int)))] rfl rfl [0, 1, 2, 4, 0, 24, 0, 64, 63, 511] [([0, 1, 2, 3, 4, 5, 6, 8], 1, 511), ([9], 0, 1023)] [none, none] (by decide +kernel) ?_; conv => whnf)
 | (refine W.regionM (id := 3) tys_ok [] [2] ?_; conv => whnf)
 | (refine W.regionM (id := 7) tys_ok [] [3] ?_; conv => whnf)
 | (refine W.regionM (id := 9) tys_ok [] [5] ?_; conv => whnf)
 | (refine W.regionM (id := 11) tys_ok [] [3] ?_; conv => whnf)
 | (refine W.regionM (id := 14) tys_ok [] [3] ?_; conv => whnf)
 | (refine W.regionM (id := 17) tys_ok [] [6] ?_; conv => whnf)
 | (refine W.drawPhTo (id := 15) tys_ok [] mixed [0, 1, 2, 4, 0, 16, 32, 64, 136, 256, 512, 1536, 2560, 4608, 512, 25088, 33280, 66048] [([0, 1, 2, 4, 5, 6], 2, 255), ([8, 9, 10, 11, 12, 14], 1, 32767), ([15, 16, 17], 0, 262143)] ⟨[(0, .padr 1000000000 0), (1, (.lit (.int .i64 (i : Int)))), (5, .padr 6000 0), (6, .oadr 1000000001 7 i 0), (7, (.lit (.int .i64 (v : Int)))), (82, .lit (.bool (decide (V < O) && decide (v < O))))], [(1000000000, .box [.lit (.bool pet), .own 1000000001, .own 1000000002, (.lit (.int .i64 ((x).2.2 : Int)))]), (1000000001, .row 111 WT true (x).1), (1000000002, .row 80 (.sl NT) true (x).2.1), (6000, .box [(.lit (.int .i64 (k : Int))), (.lit (.int .i64 (v : Int)))])]⟩ (by decide +kernel) ?_ ?_ <;> (conv => whnf))
 | (refine W.region tys_ok [] ?_; conv => whnf)
 | (refine W.drawAll tys_ok [] mixed rfl ?_; conv => whnf)
 | (refine W.ret ?_; conv => whnf)
 | (refine W.skip ?_; conv => whnf)
 | (refine W.exit ?_; conv => whnf)
 | (refine callM_at (c0) ?_; conv => whnf)
 | (refine callM_at (c1) ?_; conv => whnf)
 | (have _ : P = true := h2; refine callM_at c2 ?_; conv => whnf)
 | (have _ : k = 1 := h1; refine callM_at c3 ?_; conv => whnf)
 | (refine callM_at (c4) ?_; conv => whnf)
 | (refine Both.mk ?_ ?_ <;> (conv => whnf))
 | (refine W.cond rfl (fun hb => ?_) (fun hb => ?_) <;> (try simp only [zr, zd, zm, minL, maxL, pickB, zA] at hb) <;> (try (first | (cases hb; done) | exact absurd hb (by decide) | (exfalso; omega) | (omega) | ((simp [pickB, hV, hO, hL, hP] at hb; omega)) | ((rw [hL] at hb; omega)) | ((rw [hP, h2] at hb; cases hb; done)))))
 | (refine Or.inl (And.intro trivial ?_); (conv => whnf))
 | ((with_reducible refine And.intro ?_ ?_); exact zc; conv => whnf)
 | ((with_reducible refine And.intro (Side.out ?_) ?_); rotate_left; (conv => whnf))
 | ((first | refine retM1 ?_ | refine retM2 ?_ | refine subF.leaf ?_ | refine subF.side ?_) <;> (conv => whnf) <;> repeat' (first
 | exact trivial
 | (with_reducible rfl)
 | ((with_reducible refine And.intro ?_ ?_) <;> conv => whnf)
 | omega
 | rfl
 | (refine congrArg (SV.arr _) ?_)
 | (refine congrArg (Value.int _) ?_)
 | (refine congrArg Value.bool ?_)))); all_goals (try unfold Side)
  all_goals first
    | exact congrArg (fun d : Dn => d.2.2) (hw3 hb)
    | exact congrArg (fun d : Dn => d.1) (hw3 hb)
    | exact congrArg (fun d : Dn => d.2.1) (hw3 hb)
    | exact congrArg (fun d : Dn => d.2.2) (hw4 hb)
    | exact congrArg (fun d : Dn => d.1) (hw4 hb)
    | exact congrArg (fun d : Dn => d.2.1) (hw4 hb)
    | exact epk | exact congrArg (fun O => (sendD i 1 O (dV x.1 i, x.2)).2.1) (show wO x.1 i = O from hO) | rfl | exact hp | exact sw1_len hp | exact sw2_len hp | exact Path.imp_of e0 | exact Path.imp_of e00 | exact Path.imp_of hp | exact Path.imp_of hp0 | exact Path.imp_of q1 | exact Path.imp_of q2 | exact Path.imp_of q5 | exact sw_no hp | exact sw_v hp | exact congrArg _ (sw_no hp) | exact congrArg _ (sw_v hp) | exact hU | skip
  all_goals try (repeat' (first | exact zb | with_reducible refine And.intro ?_ ?_))
open Int renaming reduceToNat → zr, reduceTDiv → zd, reduceTMod → zm
open Go Go.Vc Go.Rg
variable {n : Nat} {pet : Bool} {d : Dn}
def rdelDE (i : Int) (d : Dn) : Int := if hasB d.1.length i = true then (if (d.2.1.getD i.toNat []).length = 0 then 5 else 0) else 1
def rdelDK (pet : Bool) (i : Int) (d : Dn) : Dn := if rdelDE i d = 0 then delD pet i.toNat d else d
set_option maxHeartbeats 4000000 in
theorem delivd_at {i e : Int} {d2 : Dn} (h0 : 0 < d.1.length) (hfl : d.2.1.length = d.1.length) (hf : ∀ i, ((d.2.1.getD i []).length : Int) ≤ d.2.2) (hs : 0 ≤ d.2.2 ∧ d.2.2 ≤ 900000) (hlen : d.1.length ≤ 1000) (hkd : pet = false → ∀ i, ∀ m ∈ d.2.1.getD i [], m.1 = 1 ∨ m.1 = 3) (he : rdelDE i d = e) (hd : rdelDK pet i d = d2) :
  FnM Try.prog 34 [.padr 1000000000 0, (.lit (.int .i64 (i : Int)))] [(1000000000, .box [.lit (.bool pet), .own 1000000001, .own 1000000002, (.lit (.int .i64 ((d).2.2 : Int)))]), (1000000001, .row 111 WT true (d).1), (1000000002, .row 80 (.sl NT) true (d).2.1)] (.lit (.int .i64 (e : Int))) [(1000000000, .box [.lit (.bool pet), .own 1000000001, .own 1000000002, (.lit (.int .i64 ((d2).2.2 : Int)))]), (1000000001, .row 111 WT true (d2).1), (1000000002, .row 80 (.sl NT) true (d2).2.1)] := by
 have hl : @List.length WT.T d.1 = d.1.length := rfl
 have hlF : @List.length (List NT.T) d.2.1 = d.2.1.length := rfl
 have c1 := inB_at (v := i) (lo := 0) (hi := (d.1.length : Int) - 1) (b := hasB d.1.length i) (by
  rw [Bool.eq_iff_iff, has_iff, Bool.and_eq_true, decide_eq_true_eq, decide_eq_true_eq]; omega)
 have key : (hasB d.1.length i = false ∧ e = 1 ∧ d = d2) ∨ (∃ j : Nat, i = j ∧ j < d.1.length ∧ (d.2.1.getD j []).length = 0 ∧ e = 5 ∧ d = d2) ∨ ∃ j : Nat, i = j ∧ j < d.1.length ∧ (d.2.1.getD j []).length ≠ 0 ∧ e = 0 ∧ delD pet j d = d2 := by
  unfold rdelDK at hd
  rw [he] at hd
  unfold rdelDE at he
  by_cases h1 : hasB d.1.length i = true
  · obtain ⟨j, rfl, hj⟩ := has_nat h1
    rw [if_pos h1, Int.toNat_natCast] at he
    rw [Int.toNat_natCast] at hd
    by_cases h2 : (d.2.1.getD j []).length = 0
    · rw [if_pos h2] at he
      rw [← he, if_neg (by decide)] at hd
      exact .inr (.inl ⟨j, rfl, hj, h2, he.symm, hd⟩)
    · rw [if_neg h2] at he
      rw [← he, if_pos rfl] at hd
      exact .inr (.inr ⟨j, rfl, hj, h2, he.symm, hd⟩)
  · rw [if_neg h1] at he
    rw [← he, if_neg (by decide)] at hd
    exact .inl ⟨by simpa using h1, he.symm, hd⟩
 clear he hd
 rcases key with ⟨h1, rfl, rfl⟩ | ⟨j, rfl, hj, h2, rfl, rfl⟩ | ⟨j, rfl, hj, h2, rfl, rfl⟩
 · refine FnM.of_body tys_ok Try.func34 (by rfl) rfl Try.ntmps34 (by rw [Try.results34]) (by simp) ?_
   repeat' (first
 | refine W.seq ?_
 | refine W.block ?_
 | (refine W.region tys_ok [] ?_; conv => whnf)
 | (refine W.drawAll tys_ok [] mixed rfl ?_; conv => whnf)
 | (refine W.ret ?_; conv => whnf)
 | (refine W.skip ?_; conv => whnf)
 | (refine W.exit ?_; conv => whnf)
 | (refine call_at (al := false) (c1) rfl rfl rfl rfl ?_; conv => whnf)
 | (refine W.cond rfl (fun hb => ?_) (fun hb => ?_) <;> (try simp only [zr, zd, zm, minL, maxL, pickB, zA] at hb) <;> (try (first | (cases hb; done) | exact absurd hb (by decide) | (exfalso; omega) | (omega) | ((simp_all; done)))))
 | ((with_reducible refine And.intro ?_ ?_); exact zc; conv => whnf)
 | ((with_reducible refine And.intro (Side.out ?_) ?_); rotate_left; (conv => whnf))
 | ((first | refine retM1 ?_ | refine retM2 ?_) <;> (conv => whnf) <;> repeat' (first
 | exact trivial
 | (with_reducible rfl)
 | ((with_reducible refine And.intro ?_ ?_) <;> conv => whnf)
 | omega
 | rfl
 | (refine congrArg (SV.arr _) ?_)
 | (refine congrArg (Value.int _) ?_)
 | (refine congrArg Value.bool ?_)))); all_goals (try unfold Side)
   all_goals try (repeat' (first | exact zb | with_reducible refine And.intro ?_ ?_))
 · have h1 := has_of hj
   have e1 : 0 ≤ (j : Int) ∧ j < d.2.1.length := ⟨by omega, by omega⟩
   have h3 : @List.length NT.T (d.2.1.getD j []) = 0 := h2
   rw [h1] at c1
   refine FnM.of_body tys_ok Try.func34 (by rfl) rfl Try.ntmps34 (by rw [Try.results34]) (by simp) ?_
   repeat' (first
 | refine W.seq ?_
 | refine W.block ?_
 | (refine W.region tys_ok [] ?_; conv => whnf)
 | (refine W.drawAll tys_ok [] mixed rfl ?_; conv => whnf)
 | (refine W.ret ?_; conv => whnf)
 | (refine W.skip ?_; conv => whnf)
 | (refine W.exit ?_; conv => whnf)
 | (refine call_at (al := false) (c1) rfl rfl rfl rfl ?_; conv => whnf)
 | (refine W.cond rfl (fun hb => ?_) (fun hb => ?_) <;> (try simp only [zr, zd, zm, minL, maxL, pickB, zA] at hb) <;> (try (first | (cases hb; done) | exact absurd hb (by decide) | (exfalso; omega) | (omega) | (exact (hb (congrArg Int.ofNat h2)).elim))))
 | ((with_reducible refine And.intro ?_ ?_); exact zc; conv => whnf)
 | ((with_reducible refine And.intro (Side.out ?_) ?_); rotate_left; (conv => whnf))
 | ((first | refine retM1 ?_ | refine retM2 ?_) <;> (conv => whnf) <;> repeat' (first
 | exact trivial
 | (with_reducible rfl)
 | ((with_reducible refine And.intro ?_ ?_) <;> conv => whnf)
 | omega
 | rfl
 | (refine congrArg (SV.arr _) ?_)
 | (refine congrArg (Value.int _) ?_)
 | (refine congrArg Value.bool ?_)))); all_goals (try unfold Side)
   all_goals first | exact Path.imp_of e1 | exact Path.imp_of e1.2 | exact e1.2 | skip
   all_goals try (repeat' (first | exact zb | with_reducible refine And.intro ?_ ?_))
 · have h1 := has_of hj
   have e1 : 0 ≤ (j : Int) ∧ j < d.2.1.length := ⟨by omega, by omega⟩
   have h3 : @List.length NT.T (d.2.1.getD j []) = (d.2.1.getD j []).length := rfl
   rw [h1] at c1
   obtain ⟨l, hl2⟩ : ∃ l, l = d.2.1.getD j [] := ⟨_, rfl⟩
   obtain ⟨m, hm⟩ : ∃ m, m = l.getD 0 N0 := ⟨_, rfl⟩
   obtain ⟨x, hx⟩ : ∃ x : Dn, x = (d.1, d.2.1.set j (l.drop 1), d.2.2) := ⟨_, rfl⟩
   obtain ⟨b, hbq⟩ : ∃ b, b = (j + 1) % d.1.length := ⟨_, rfl⟩
   have hbl : b < d.1.length := by rw [hbq]; exact Nat.mod_lt _ h0
   have hkm : pet = false → m.1 = 1 ∨ m.1 = 3 := fun hp => by
    refine hkd hp j m ?_
    rw [hm, hl2]
    cases e : d.2.1.getD j [] with
    | nil => rw [e] at h2; exact absurd rfl h2
    | cons y t => exact List.mem_cons_self
   have hF : ∀ i, ((x.2.1.getD i []).length : Int) ≤ x.2.2 := fun i => by
    rw [hx]
    show (((d.2.1.set j (l.drop 1)).getD i []).length : Int) ≤ d.2.2
    rw [getD_setF e1.2]
    split
    · rw [List.length_drop, hl2]; have := hf j; omega
    · exact hf i
   have hx1 : x.1 = d.1 := by rw [hx]
   have hx2 : x.2.1.length = d.2.1.length := by rw [hx]; exact List.length_set
   have hx3 : x.2.2 = d.2.2 := by rw [hx]
   have hr : delD pet j d = recvD pet b m.1 m.2.1 x := by unfold delD; rw [hx, hbq, hm, hl2]
   rw [hr]
   have c5 : (pet = true → FnM Try.prog 68 [.padr 1000000000 0, (.lit (.int .i64 (b : Int))), .strct [(.lit (.int .i64 (m.1 : Int))), (.lit (.int .i64 (m.2.1 : Int)))]] [(1000000000, .box [.lit (.bool pet), .own 1000000001, .own 1000000002, (.lit (.int .i64 ((x).2.2 : Int)))]), (1000000001, .row 111 WT true (x).1), (1000000002, .row 80 (.sl NT) true (x).2.1)] (.tup []) [(1000000000, .box [.lit (.bool pet), .own 1000000001, .own 1000000002, (.lit (.int .i64 (((recvD pet b m.1 m.2.1 x)).2.2 : Int)))]), (1000000001, .row 111 WT true ((recvD pet b m.1 m.2.1 x)).1), (1000000002, .row 80 (.sl NT) true ((recvD pet b m.1 m.2.1 x)).2.1)]) ∧ (pet = false → FnM Try.prog 69 [.padr 1000000000 0, (.lit (.int .i64 (b : Int))), .strct [(.lit (.int .i64 (m.1 : Int))), (.lit (.int .i64 (m.2.1 : Int)))]] [(1000000000, .box [.lit (.bool pet), .own 1000000001, .own 1000000002, (.lit (.int .i64 ((x).2.2 : Int)))]), (1000000001, .row 111 WT true (x).1), (1000000002, .row 80 (.sl NT) true (x).2.1)] (.tup []) [(1000000000, .box [.lit (.bool pet), .own 1000000001, .own 1000000002, (.lit (.int .i64 (((recvD pet b m.1 m.2.1 x)).2.2 : Int)))]), (1000000001, .row 111 WT true ((recvD pet b m.1 m.2.1 x)).1), (1000000002, .row 80 (.sl NT) true ((recvD pet b m.1 m.2.1 x)).2.1)]) := by
    refine ⟨fun hp => peterd_at (by rw [hx1]; exact hbl) (by rw [hx2, hfl]; exact hbl) (hF b) (by rw [hx3]; omega) ?_, fun hp => changd_at (by rw [hx1]; exact hbl) (by rw [hx2, hfl]; exact hbl) (hF b) (by rw [hx3]; omega) (hkm hp) ?_⟩
    · unfold recvD; rw [if_pos hp]
    · unfold recvD; rw [if_neg (by rw [hp]; decide)]
   have g1 : d.2.1.set j (((d.2.1.getD j []).take ((d.2.1.getD j []).length : Int).toNat).drop (Int.toNat 1)) = x.2.1 := by
    rw [hx, hl2, Int.toNat_natCast, List.take_length]; rfl
   have g2 : ((d.2.1.getD j []).getD (Int.toNat 0) N0).1 = m.1 := by rw [hm, hl2]; rfl
   have g3 : ((d.2.1.getD j []).getD (Int.toNat 0) N0).2.1 = m.2.1 := by rw [hm, hl2]; rfl
   have g4 : (x.1.length : Int) ≠ 0 := by rw [hx1]; omega
   have g5 : ((j : Int) + 1).tmod (x.1.length : Int) = (b : Int) := by rw [hbq, hx1]; rfl
   have g6 : d.1 = x.1 := hx1.symm
   have g7 : 0 ≤ (0 : Int) ∧ (0 : Int).toNat < (d.2.1.getD j []).length := ⟨by decide, by show 0 < _; omega⟩
   have g8 : 0 ≤ (1 : Int) ∧ (1 : Int) ≤ ((d.2.1.getD j []).length : Int) := ⟨by decide, by omega⟩
   have hlx : @List.length WT.T x.1 = x.1.length := rfl
   clear hx hr hm hl2
   refine FnM.of_body tys_ok Try.func34 (by rfl) rfl Try.ntmps34 (by rw [Try.results34]) (by simp) ?_
   repeat' (first
 | refine W.seq ?_
 | refine W.block ?_
 | (refine W.drawBC (id := 6) tys_ok [] [] mixed 1000000000 [.lit (.bool pet), .own 1000000001, .own 1000000002, (.lit (.int .i64 (d.2.2 : Int)))] rfl rfl [0, 1, 2, 4, 0, 0, 32, 64, 128, 0, 768, 1024, 2048, 8191, 16383] [([0, 1, 2, 3, 4, 5, 6, 7, 8, 9, 10], 1, 4095), ([12, 13], 1, 32767)] [none, none] (by decide +kernel) ?_; conv => whnf)
 | (refine W.resub (x := Code.region 7 _ _) (Γ' := ⟨[(0, .padr 1000000000 0), (1, (.lit (.int .i64 (j : Int)))), (5, .padr 6000 0)], [(1000000000, .box [.lit (.bool pet), .own 1000000001, .own 1000000002, (.lit (.int .i64 ((x).2.2 : Int)))]), (1000000001, .row 111 WT true (x).1), (1000000002, .row 80 (.sl NT) true (x).2.1), (6000, .box [(.lit (.int .i64 (m.1 : Int))), (.lit (.int .i64 (m.2.1 : Int)))])]⟩) ?_ (W.region tys_ok [] ?_); rotate_left; (conv => whnf))
 | (refine W.regionM (id := 9) tys_ok [] [3] ?_; conv => whnf)
 | (refine W.regionM (id := 10) tys_ok [] [3] ?_; conv => whnf)
 | (refine W.region tys_ok [] ?_; conv => whnf)
 | (refine W.drawAll tys_ok [] mixed rfl ?_; conv => whnf)
 | (refine W.ret ?_; conv => whnf)
 | (refine W.skip ?_; conv => whnf)
 | (refine W.exit ?_; conv => whnf)
 | (refine call_at (al := false) (c1) rfl rfl rfl rfl ?_; conv => whnf)
 | (refine callM_at (c5.1 hb) ?_; conv => whnf)
 | (refine callM_at (c5.2 hb) ?_; conv => whnf)
 | (refine Both.mk ?_ ?_ <;> (conv => whnf))
 | (refine W.cond rfl (fun hb => ?_) (fun hb => ?_) <;> (try simp only [zr, zd, zm, minL, maxL, pickB, zA] at hb) <;> (try (first | (cases hb; done) | exact absurd hb (by decide) | (exfalso; omega) | (omega) | (exact (h2 (Int.ofNat_eq_zero.1 hb)).elim))))
 | (refine Or.inl (And.intro trivial ?_); (conv => whnf))
 | ((with_reducible refine And.intro ?_ ?_); exact zc; conv => whnf)
 | ((with_reducible refine And.intro (Side.out ?_) ?_); rotate_left; (conv => whnf))
 | ((first | refine retM1 ?_ | refine retM2 ?_ | refine subF.leaf ?_ | refine subF.side ?_) <;> (conv => whnf) <;> repeat' (first
 | exact trivial
 | (with_reducible rfl)
 | ((with_reducible refine And.intro ?_ ?_) <;> conv => whnf)
 | omega
 | rfl
 | (refine congrArg (SV.arr _) ?_)
 | (refine congrArg (Value.int _) ?_)
 | (refine congrArg Value.bool ?_)))); all_goals (try unfold Side)
   all_goals first | exact g1 | exact g2 | exact g3 | exact Path.imp_of g4 | exact g5 | exact g6 | exact Path.imp_of e1 | exact Path.imp_of e1.2 | exact e1.2 | exact Path.imp_of g7 | exact Path.imp_of g7.2 | exact Path.imp_of g8 | skip
   all_goals try (repeat' (first | exact zb | with_reducible refine And.intro ?_ ?_))
open Go Go.Vc Go.Rg
variable {n : Nat} {pet : Bool} {r : Rn}
theorem begin_ring {i : Nat} (hp : i < r.1.length) (hi : i < r.2.1.length) (hf : ((r.2.1.getD i []).length : Int) ≤ r.2.2) (hs : 0 ≤ r.2.2 ∧ r.2.2 ≤ 1000000) : FnM Try.prog 61 [.padr 1000000000 0, (.lit (.int .i64 (i : Int)))] [(1000000000, .box [.lit (.bool true), .lit (.bool pet), .own 1000000001, .mown 5, (.lit (.int .i64 ((r).2.2 : Int)))]), (1000000001, .row 105 PT true (r).1), (5, .mat 80 91 NT true (r).2.1 none)] (.tup []) [(1000000000, .box [.lit (.bool true), .lit (.bool pet), .own 1000000001, .mown 5, (.lit (.int .i64 (((beginR i r)).2.2 : Int)))]), (1000000001, .row 105 PT true ((beginR i r)).1), (5, .mat 80 91 NT true ((beginR i r)).2.1 none)] := by
 have c1 := sendp_at (pet := pet) (r := (setB r.1 i, r.2)) (i := i) (k := 1) (v := pV r.1 i) hi hf hs
 have hl : @List.length PT.T r.1 = r.1.length := rfl
 have e1 : pV (setB r.1 i) i = pV r.1 i := by unfold pV setB; rw [getD_setP hp, if_pos rfl]; rfl
 have e2 : i < (setB r.1 i).length := by rw [setB_len]; exact hp
 have e3 : 0 ≤ (i : Int) ∧ i < (setB r.1 i).length := ⟨by omega, e2⟩
 refine FnM.of_body tys_ok Try.func61 (by rfl) rfl Try.ntmps61 (by rw [Try.results61]) (by simp) ?_
 repeat' (first
 | refine W.seq ?_
 | refine W.block ?_
 | (refine W.regionM (id := 1) tys_ok [] [10] ?_; conv => whnf)
 | (refine W.region tys_ok [] ?_; conv => whnf)
 | (refine W.drawAll tys_ok [] mixed rfl ?_; conv => whnf)
 | (refine W.ret ?_; conv => whnf)
 | (refine W.skip ?_; conv => whnf)
 | (refine W.exit ?_; conv => whnf)
 | (refine callM_at (c1) ?_; conv => whnf)
 | (refine W.cond rfl (fun hb => ?_) (fun hb => ?_) <;> (try simp only [zr, zd, zm, minL, maxL, pickB, zA] at hb) <;> (try (first | (cases hb; done) | exact absurd hb (by decide) | (exfalso; omega) | (omega))))
 | (refine Or.inl (And.intro trivial ?_); (conv => whnf))
 | ((with_reducible refine And.intro ?_ ?_); exact zc; conv => whnf)
 | ((with_reducible refine And.intro (Side.out ?_) ?_); rotate_left; (conv => whnf))
 | ((first | refine retM1 ?_ | refine retM2 ?_) <;> (conv => whnf) <;> repeat' (first
 | exact trivial
 | (with_reducible rfl)
 | ((with_reducible refine And.intro ?_ ?_) <;> conv => whnf)
 | omega
 | rfl
 | (refine congrArg (SV.arr _) ?_)
 | (refine congrArg (Value.int _) ?_)
 | (refine congrArg Value.bool ?_)))); all_goals (try unfold Side)
 all_goals try (repeat' (first | exact zb | with_reducible refine And.intro ?_ ?_))
 all_goals first | exact e1 | exact e2 | exact Path.imp_of e3 | rfl
theorem start_arg {i : Int} (h : hasB r.1.length i = false) : FnM Try.prog 30 [.padr 1000000000 0, (.lit (.int .i64 (i : Int)))] [(1000000000, .box [.lit (.bool true), .lit (.bool pet), .own 1000000001, .mown 5, (.lit (.int .i64 ((r).2.2 : Int)))]), (1000000001, .row 105 PT true (r).1), (5, .mat 80 91 NT true (r).2.1 none)] (.lit (.int .i64 (1 : Int))) [(1000000000, .box [.lit (.bool true), .lit (.bool pet), .own 1000000001, .mown 5, (.lit (.int .i64 ((r).2.2 : Int)))]), (1000000001, .row 105 PT true (r).1), (5, .mat 80 91 NT true (r).2.1 none)] := by
 have c1 := ris_at (pet := pet) (r := r)
 have c2 := rhas_at (pet := pet) (r := r) h.symm
 refine FnM.of_body tys_ok Try.func30 (by rfl) rfl Try.ntmps30 (by rw [Try.results30]) (by simp) ?_
 repeat' (first
 | refine W.seq ?_
 | refine W.block ?_
 | (refine W.regionM (id := 1) tys_ok [] [1] ?_; conv => whnf)
 | (refine W.regionM (id := 3) tys_ok [] [2] ?_; conv => whnf)
 | (refine W.region tys_ok [] ?_; conv => whnf)
 | (refine W.drawAll tys_ok [] mixed rfl ?_; conv => whnf)
 | (refine W.ret ?_; conv => whnf)
 | (refine W.skip ?_; conv => whnf)
 | (refine W.exit ?_; conv => whnf)
 | (refine callM_at (c1) ?_; conv => whnf)
 | (refine callM_at (c2) ?_; conv => whnf)
 | (refine W.cond rfl (fun hb => ?_) (fun hb => ?_) <;> (try simp only [zr, zd, zm, minL, maxL, pickB, zA] at hb) <;> (try (first | (cases hb; done) | exact absurd hb (by decide) | (exfalso; omega) | (omega))))
 | (refine Or.inl (And.intro trivial ?_); (conv => whnf))
 | ((with_reducible refine And.intro ?_ ?_); exact zc; conv => whnf)
 | ((with_reducible refine And.intro (Side.out ?_) ?_); rotate_left; (conv => whnf))
 | ((first | refine retM1 ?_ | refine retM2 ?_) <;> (conv => whnf) <;> repeat' (first
 | exact trivial
 | (with_reducible rfl)
 | ((with_reducible refine And.intro ?_ ?_) <;> conv => whnf)
 | omega
 | rfl
 | (refine congrArg (SV.arr _) ?_)
 | (refine congrArg (Value.int _) ?_)
 | (refine congrArg Value.bool ?_)))); all_goals (try unfold Side)
 all_goals try (repeat' (first | exact zb | with_reducible refine And.intro ?_ ?_))
theorem start_none {i : Nat} (hp : i < r.1.length) (hb0 : pB r.1 i = true) : FnM Try.prog 30 [.padr 1000000000 0, (.lit (.int .i64 (i : Int)))] [(1000000000, .box [.lit (.bool true), .lit (.bool pet), .own 1000000001, .mown 5, (.lit (.int .i64 ((r).2.2 : Int)))]), (1000000001, .row 105 PT true (r).1), (5, .mat 80 91 NT true (r).2.1 none)] (.lit (.int .i64 (5 : Int))) [(1000000000, .box [.lit (.bool true), .lit (.bool pet), .own 1000000001, .mown 5, (.lit (.int .i64 ((r).2.2 : Int)))]), (1000000001, .row 105 PT true (r).1), (5, .mat 80 91 NT true (r).2.1 none)] := by
 have c1 := ris_at (pet := pet) (r := r)
 have c2 := rhas_at (pet := pet) (r := r) (has_of hp).symm
 have hl : @List.length PT.T r.1 = r.1.length := rfl
 have hb' : (r.1.getD i P0).2.1 = true := hb0
 refine FnM.of_body tys_ok Try.func30 (by rfl) rfl Try.ntmps30 (by rw [Try.results30]) (by simp) ?_
 repeat' (first
 | refine W.seq ?_
 | refine W.block ?_
 | (refine W.regionM (id := 1) tys_ok [] [1] ?_; conv => whnf)
 | (refine W.regionM (id := 3) tys_ok [] [2] ?_; conv => whnf)
 | (refine W.region tys_ok [] ?_; conv => whnf)
 | (refine W.drawAll tys_ok [] mixed rfl ?_; conv => whnf)
 | (refine W.ret ?_; conv => whnf)
 | (refine W.skip ?_; conv => whnf)
 | (refine W.exit ?_; conv => whnf)
 | (refine callM_at (c1) ?_; conv => whnf)
 | (refine callM_at (c2) ?_; conv => whnf)
 | (refine W.cond rfl (fun hb => ?_) (fun hb => ?_) <;> (try simp only [zr, zd, zm, minL, maxL, pickB, zA] at hb) <;> (try (first | (cases hb; done) | exact absurd hb (by decide) | (exfalso; omega) | (omega) | ((simp_all; done)))))
 | (refine Or.inl (And.intro trivial ?_); (conv => whnf))
 | ((with_reducible refine And.intro ?_ ?_); exact zc; conv => whnf)
 | ((with_reducible refine And.intro (Side.out ?_) ?_); rotate_left; (conv => whnf))
 | ((first | refine retM1 ?_ | refine retM2 ?_) <;> (conv => whnf) <;> repeat' (first
 | exact trivial
 | (with_reducible rfl)
 | ((with_reducible refine And.intro ?_ ?_) <;> conv => whnf)
 | omega
 | rfl
 | (refine congrArg (SV.arr _) ?_)
 | (refine congrArg (Value.int _) ?_)
 | (refine congrArg Value.bool ?_)))); all_goals (try unfold Side)
 all_goals try (repeat' (first | exact zb | with_reducible refine And.intro ?_ ?_))
theorem start_ok {i : Nat} (hp : i < r.1.length) (hi : i < r.2.1.length) (hf : ((r.2.1.getD i []).length : Int) ≤ r.2.2) (hs : 0 ≤ r.2.2 ∧ r.2.2 ≤ 1000000) (hb0 : pB r.1 i = false) : FnM Try.prog 30 [.padr 1000000000 0, (.lit (.int .i64 (i : Int)))] [(1000000000, .box [.lit (.bool true), .lit (.bool pet), .own 1000000001, .mown 5, (.lit (.int .i64 ((r).2.2 : Int)))]), (1000000001, .row 105 PT true (r).1), (5, .mat 80 91 NT true (r).2.1 none)] (.lit (.int .i64 (0 : Int))) [(1000000000, .box [.lit (.bool true), .lit (.bool pet), .own 1000000001, .mown 5, (.lit (.int .i64 (((beginR i r)).2.2 : Int)))]), (1000000001, .row 105 PT true ((beginR i r)).1), (5, .mat 80 91 NT true ((beginR i r)).2.1 none)] := by
 have c1 := ris_at (pet := pet) (r := r)
 have c2 := rhas_at (pet := pet) (r := r) (has_of hp).symm
 have c3 := begin_ring (pet := pet) hp hi hf hs
 have hl : @List.length PT.T r.1 = r.1.length := rfl
 have hb' : (r.1.getD i P0).2.1 = false := hb0
 refine FnM.of_body tys_ok Try.func30 (by rfl) rfl Try.ntmps30 (by rw [Try.results30]) (by simp) ?_
 repeat' (first
 | refine W.seq ?_
 | refine W.block ?_
 | (refine W.regionM (id := 1) tys_ok [] [1] ?_; conv => whnf)
 | (refine W.regionM (id := 3) tys_ok [] [2] ?_; conv => whnf)
 | (refine W.regionM (id := 7) tys_ok [] [2] ?_; conv => whnf)
 | (refine W.region tys_ok [] ?_; conv => whnf)
 | (refine W.drawAll tys_ok [] mixed rfl ?_; conv => whnf)
 | (refine W.ret ?_; conv => whnf)
 | (refine W.skip ?_; conv => whnf)
 | (refine W.exit ?_; conv => whnf)
 | (refine callM_at (c1) ?_; conv => whnf)
 | (refine callM_at (c2) ?_; conv => whnf)
 | (refine callM_at (c3) ?_; conv => whnf)
 | (refine W.cond rfl (fun hb => ?_) (fun hb => ?_) <;> (try simp only [zr, zd, zm, minL, maxL, pickB, zA] at hb) <;> (try (first | (cases hb; done) | exact absurd hb (by decide) | (exfalso; omega) | (omega) | ((simp_all; done)))))
 | (refine Or.inl (And.intro trivial ?_); (conv => whnf))
 | ((with_reducible refine And.intro ?_ ?_); exact zc; conv => whnf)
 | ((with_reducible refine And.intro (Side.out ?_) ?_); rotate_left; (conv => whnf))
 | ((first | refine retM1 ?_ | refine retM2 ?_) <;> (conv => whnf) <;> repeat' (first
 | exact trivial
 | (with_reducible rfl)
 | ((with_reducible refine And.intro ?_ ?_) <;> conv => whnf)
 | omega
 | rfl
 | (refine congrArg (SV.arr _) ?_)
 | (refine congrArg (Value.int _) ?_)
 | (refine congrArg Value.bool ?_)))); all_goals (try unfold Side)
 all_goals try (repeat' (first | exact zb | with_reducible refine And.intro ?_ ?_))
set_option maxHeartbeats 4000000 in
theorem chang_at {i : Nat} {k v : Int} (hp : i < r.1.length) (hi : i < r.2.1.length) (hf : ((r.2.1.getD i []).length : Int) ≤ r.2.2) (hs : 0 ≤ r.2.2 ∧ r.2.2 ≤ 1000000) : FnM Try.prog 66 [.padr 1000000000 0, (.lit (.int .i64 (i : Int))), .strct [(.lit (.int .i64 (k : Int))), (.lit (.int .i64 (v : Int)))]] [(1000000000, .box [.lit (.bool true), .lit (.bool pet), .own 1000000001, .mown 5, (.lit (.int .i64 ((r).2.2 : Int)))]), (1000000001, .row 105 PT true (r).1), (5, .mat 80 91 NT true (r).2.1 none)] (.tup []) [(1000000000, .box [.lit (.bool true), .lit (.bool pet), .own 1000000001, .mown 5, (.lit (.int .i64 (((changR i k v r)).2.2 : Int)))]), (1000000001, .row 105 PT true ((changR i k v r)).1), (5, .mat 80 91 NT true ((changR i k v r)).2.1 none)] := by
 obtain ⟨d2, hd⟩ : ∃ d2, changR i k v r = d2 := ⟨_, rfl⟩
 rw [hd]
 have hl : @List.length PT.T r.1 = r.1.length := rfl
 have c1 := sendp_at (pet := pet) (r := (setL r.1 i v, r.2)) (i := i) (k := k) (v := v) hi hf hs
 have c2 := sendp_at (pet := pet) (r := (setL r.1 i v, r.2)) (i := i) (k := 3) (v := v) hi hf hs
 have c3 := sendp_at (pet := pet) (r := (setB r.1 i, r.2)) (i := i) (k := k) (v := v) hi hf hs
 have c4 := begin_ring (pet := pet) hp hi hf hs
 obtain ⟨N, hN⟩ : ∃ N, (r.1.getD i P0).1 = N := ⟨_, rfl⟩
 obtain ⟨B, hB⟩ : ∃ B, (r.1.getD i P0).2.1 = B := ⟨_, rfl⟩
 have key : (k = 3 ∧ v ≠ N ∧ sendR i k v (setL r.1 i v, r.2) = d2) ∨ (k ≠ 3 ∧ v = N ∧ sendR i 3 v (setL r.1 i v, r.2) = d2) ∨ (k ≠ 3 ∧ N < v ∧ sendR i k v (setB r.1 i, r.2) = d2) ∨ (k ≠ 3 ∧ v < N ∧ B = false ∧ beginR i r = d2) ∨ (k ≠ 3 ∧ v < N ∧ B = true ∧ r = d2) ∨ (k = 3 ∧ v = N ∧ r = d2) := by
  unfold changR at hd
  have hN' : pN r.1 i = N := hN
  have hB' : pB r.1 i = B := hB
  rw [hN', hB'] at hd
  by_cases k3 : k = 3
  · rw [if_pos k3] at hd
    by_cases e : v = N
    · rw [if_pos e] at hd; exact .inr (.inr (.inr (.inr (.inr ⟨k3, e, hd⟩))))
    · rw [if_neg e] at hd; exact .inl ⟨k3, e, hd⟩
  · rw [if_neg k3] at hd
    by_cases e : v = N
    · rw [if_pos e] at hd; exact .inr (.inl ⟨k3, e, hd⟩)
    · rw [if_neg e] at hd
      by_cases g : N < v
      · rw [if_pos g] at hd; exact .inr (.inr (.inl ⟨k3, g, hd⟩))
      · rw [if_neg g] at hd
        by_cases b : B = true
        · rw [if_pos b] at hd; exact .inr (.inr (.inr (.inr (.inl ⟨k3, by omega, b, hd⟩))))
        · rw [if_neg b] at hd; exact .inr (.inr (.inr (.inl ⟨k3, by omega, by simpa using b, hd⟩)))
 clear hd
 have ea : decide (v = (r.1.getD i P0).1) = decide (v = N) := by rw [hN]
 have ec : decide ((r.1.getD i P0).1 < v) = decide (N < v) := by rw [hN]
 rcases key with ⟨h1, h2, rfl⟩ | ⟨h1, h2, rfl⟩ | ⟨h1, h2, rfl⟩ | ⟨h1, h2, h3, rfl⟩ | ⟨h1, h2, h3, rfl⟩ | ⟨h1, h2, rfl⟩
 all_goals
  refine FnM.of_body tys_ok Try.func66 (by rfl) rfl Try.ntmps66 (by rw [Try.results66]) (by simp) ?_
  repeat' (first
 | refine W.seq ?_
 | refine W.block ?_
 | (refine W.drawPhTo (id := 2) tys_ok [] mixed [0, 1, 0, 4, 8, 16, 32, 66, 255] [([0, 2, 3, 4, 5], 2, 127), ([7, 8], 0, 511)] ⟨[(0, .padr 1000000000 0), (1, (.lit (.int .i64 (i : Int)))), (5, .padr 6000 0), (6, .oadr 1000000001 7 i 0), (7, .lit (.bool (decide (v = N))))], [(1000000000, .box [.lit (.bool true), .lit (.bool pet), .own 1000000001, .mown 5, (.lit (.int .i64 ((r).2.2 : Int)))]), (1000000001, .row 105 PT true (r).1), (5, .mat 80 91 NT true (r).2.1 none), (6000, .box [(.lit (.int .i64 (k : Int))), (.lit (.int .i64 (v : Int)))])]⟩ (by decide +kernel) ?_ ?_ <;> (conv => whnf))
 | (refine W.drawPhTo (id := 10) tys_ok [] mixed [0, 1, 0, 4, 8, 16, 32, 66, 128] [([0, 2, 3, 4, 5], 2, 127), ([7, 8], 0, 511)] ⟨[(0, .padr 1000000000 0), (1, (.lit (.int .i64 (i : Int)))), (5, .padr 6000 0), (6, .oadr 1000000001 7 i 0), (60, .lit (.bool (decide (N < v))))], [(1000000000, .box [.lit (.bool true), .lit (.bool pet), .own 1000000001, .mown 5, (.lit (.int .i64 ((r).2.2 : Int)))]), (1000000001, .row 105 PT true (r).1), (5, .mat 80 91 NT true (r).2.1 none), (6000, .box [(.lit (.int .i64 (k : Int))), (.lit (.int .i64 (v : Int)))])]⟩ (by decide +kernel) ?_ ?_ <;> (conv => whnf))
 | (refine W.regionM (id := 5) tys_ok [] [6] ?_; conv => whnf)
 | (refine W.regionM (id := 9) tys_ok [] [4] ?_; conv => whnf)
 | (refine W.regionM (id := 12) tys_ok [] [6] ?_; conv => whnf)
 | (refine W.regionM (id := 14) tys_ok [] [2] ?_; conv => whnf)
 | (refine W.region tys_ok [] ?_; conv => whnf)
 | (refine W.drawAll tys_ok [] mixed rfl ?_; conv => whnf)
 | (refine W.ret ?_; conv => whnf)
 | (refine W.skip ?_; conv => whnf)
 | (refine W.exit ?_; conv => whnf)
 | (have _ : k = 3 := h1; refine callM_at c1 ?_; conv => whnf)
 | (have _ : v = N := h2; refine callM_at c2 ?_; conv => whnf)
 | (have _ : N < v := h2; refine callM_at c3 ?_; conv => whnf)
 | (refine callM_at (c4) ?_; conv => whnf)
 | (refine Both.mk ?_ ?_ <;> (conv => whnf))
 | (refine W.cond rfl (fun hb => ?_) (fun hb => ?_) <;> (try simp only [zr, zd, zm, minL, maxL, pickB, zA] at hb) <;> (try (first | (cases hb; done) | exact absurd hb (by decide) | (exfalso; omega) | (omega) | ((rw [hB] at hb; simp_all; done)) | ((simp [pickB] at hb; omega)) | ((simp_all; done)))))
 | (refine Or.inl (And.intro trivial ?_); (conv => whnf))
 | ((with_reducible refine And.intro ?_ ?_); exact zc; conv => whnf)
 | ((with_reducible refine And.intro (Side.out ?_) ?_); rotate_left; (conv => whnf))
 | ((first | refine retM1 ?_ | refine retM2 ?_ | refine subF.leaf ?_ | refine subF.side ?_) <;> (conv => whnf) <;> repeat' (first
 | exact trivial
 | (with_reducible rfl)
 | ((with_reducible refine And.intro ?_ ?_) <;> conv => whnf)
 | omega
 | rfl
 | (refine congrArg (SV.arr _) ?_)
 | (refine congrArg (Value.int _) ?_)
 | (refine congrArg Value.bool ?_)))); all_goals (try unfold Side)
 all_goals first | exact ea | exact ec | skip
 all_goals try (repeat' (first | exact zb | with_reducible refine And.intro ?_ ?_))
open Int renaming reduceToNat → zr, reduceTDiv → zd, reduceTMod → zm
open Go Go.Vc Go.Rg
variable {n : Nat} {pet : Bool} {r : Rn}
def sp3 (ps : List Pe) (i : Nat) (v : Int) : List Pe := ps.set i ((ps.getD i P0).1, (ps.getD i P0).2.1, (ps.getD i P0).2.2.1, v, (ps.getD i P0).2.2.2.2)
def sp4 (ps : List Pe) (i : Nat) (v : Int) : List Pe := ps.set i ((ps.getD i P0).1, (ps.getD i P0).2.1, (ps.getD i P0).2.2.1, (ps.getD i P0).2.2.2.1, v, (ps.getD i P0).2.2.2.2.2)
def sp6 (ps : List Pe) (i : Nat) (v : Int) : List Pe := ps.set i ((ps.getD i P0).1, (ps.getD i P0).2.1, (ps.getD i P0).2.2.1, (ps.getD i P0).2.2.2.1, (ps.getD i P0).2.2.2.2.1, (ps.getD i P0).2.2.2.2.2.1, v, (ps.getD i P0).2.2.2.2.2.2.2)
theorem sp_no {ps : List Pe} {i : Nat} {v : Int} (hi : i < ps.length) : sp6 (sp4 ps i v) i 2 = setNo ps i v := by
 have e : (sp4 ps i v).getD i P0 = ((ps.getD i P0).1, (ps.getD i P0).2.1, (ps.getD i P0).2.2.1, (ps.getD i P0).2.2.2.1, v, (ps.getD i P0).2.2.2.2.2) := by unfold sp4; rw [getD_setP hi, if_pos rfl]
 unfold sp6
 rw [e]
 unfold sp4
 rw [List.set_set]
 rfl
theorem sp_v {ps : List Pe} {i : Nat} (hi : i < ps.length) : sp6 (sp3 ps i (pO ps i)) i 1 = setV ps i := by
 have e : (sp3 ps i (pO ps i)).getD i P0 = ((ps.getD i P0).1, (ps.getD i P0).2.1, (ps.getD i P0).2.2.1, pO ps i, (ps.getD i P0).2.2.2.2) := by unfold sp3; rw [getD_setP hi, if_pos rfl]
 unfold sp6
 rw [e]
 unfold sp3
 rw [List.set_set]
 rfl
theorem sp3_len {ps : List Pe} {i : Nat} {v : Int} (hi : i < ps.length) : i < (sp3 ps i v).length := by unfold sp3; rw [List.length_set]; exact hi
theorem sp4_len {ps : List Pe} {i : Nat} {v : Int} (hi : i < ps.length) : i < (sp4 ps i v).length := by unfold sp4; rw [List.length_set]; exact hi
theorem getV_setV {ps : List Pe} {i : Nat} (hi : i < ps.length) : pV (setV ps i) i = pO ps i := by unfold pV setV; rw [getD_setP hi, if_pos rfl]
theorem beginR_ok {i : Nat} (hp : i < r.1.length) (hi : i < r.2.1.length) (hf : ((r.2.1.getD i []).length : Int) ≤ r.2.2) : i < (beginR i r).1.length ∧ i < (beginR i r).2.1.length ∧ (((beginR i r).2.1.getD i []).length : Int) ≤ (beginR i r).2.2 ∧ (beginR i r).2.2 = r.2.2 + 1 := by
 refine ⟨by show i < (setB r.1 i).length; rw [setB_len]; exact hp, by show i < (r.2.1.set i _).length; rw [List.length_set]; exact hi, ?_, rfl⟩
 show (((r.2.1.set i (r.2.1.getD i [] ++ [(1, pV r.1 i, ())])).getD i []).length : Int) ≤ r.2.2 + 1
 rw [getD_setF hi, if_pos rfl, List.length_append, List.length_singleton]; omega
set_option maxHeartbeats 8000000 in
theorem peter_at {i : Nat} {k v : Int} (hp0 : i < r.1.length) (hi0 : i < r.2.1.length) (hf0 : ((r.2.1.getD i []).length : Int) ≤ r.2.2) (hs0 : 0 ≤ r.2.2 ∧ r.2.2 ≤ 999999) : FnM Try.prog 67 [.padr 1000000000 0, (.lit (.int .i64 (i : Int))), .strct [(.lit (.int .i64 (k : Int))), (.lit (.int .i64 (v : Int)))]] [(1000000000, .box [.lit (.bool true), .lit (.bool pet), .own 1000000001, .mown 5, (.lit (.int .i64 ((r).2.2 : Int)))]), (1000000001, .row 105 PT true (r).1), (5, .mat 80 91 NT true (r).2.1 none)] (.tup []) [(1000000000, .box [.lit (.bool true), .lit (.bool pet), .own 1000000001, .mown 5, (.lit (.int .i64 (((peterR i k v r)).2.2 : Int)))]), (1000000001, .row 105 PT true ((peterR i k v r)).1), (5, .mat 80 91 NT true ((peterR i k v r)).2.1 none)] := by
  obtain ⟨d2, hd⟩ : ∃ d2, peterR i k v r = d2 := ⟨_, rfl⟩
  rw [hd]
  have hl0 : @List.length PT.T r.1 = r.1.length := rfl
  have e00 : 0 ≤ (i : Int) ∧ i < r.1.length := ⟨by omega, hp0⟩
  have c0 := begin_ring (pet := pet) (r := r) (i := i) hp0 hi0 hf0 ⟨by omega, by omega⟩
  have hb0 : (r.1.getD i P0).2.1 = pB r.1 i := rfl
  obtain ⟨x, hx⟩ : ∃ x, x = wakeR i r := ⟨_, rfl⟩
  obtain ⟨hw1, hw2, hp, hi, hf, hs⟩ : (pB r.1 i = true → r = x) ∧ (pB r.1 i = false → beginR i r = x) ∧ i < x.1.length ∧ i < x.2.1.length ∧ ((x.2.1.getD i []).length : Int) ≤ x.2.2 ∧ 0 ≤ x.2.2 ∧ x.2.2 ≤ 1000000 := by
    obtain ⟨q1, q2, q3, q4⟩ := beginR_ok hp0 hi0 hf0
    rw [hx]
    unfold wakeR
    by_cases hb : pB r.1 i = true
    · rw [if_pos hb]; exact ⟨fun _ => rfl, (fun h => by rw [hb] at h; cases h), hp0, hi0, hf0, by omega, by omega⟩
    · rw [if_neg hb]; exact ⟨fun h => absurd h hb, fun _ => rfl, q1, q2, q3, by omega, by omega⟩
  have hw3 : (!(r.1.getD i P0).2.1) = false → r = x := fun h => hw1 (by rw [hb0] at h; simpa using h)
  have hw4 : (!(r.1.getD i P0).2.1) = true → beginR i r = x := fun h => hw2 (by rw [hb0] at h; simpa using h)
  have hl : @List.length PT.T x.1 = x.1.length := rfl
  have e0 : 0 ≤ (i : Int) ∧ i < x.1.length := ⟨by omega, hp⟩
  have c1 := sendp_at (pet := pet) (r := (setL x.1 i v, x.2)) (i := i) (k := 3) (v := v) hi hf hs
  have c2 := sendp_at (pet := pet) (r := x) (i := i) (k := k) (v := v) hi hf hs
  have c3 := sendp_at (pet := pet) (r := (setNo x.1 i v, x.2)) (i := i) (k := 2) (v := v) hi hf hs
  have c4 := sendp_at (pet := pet) (r := (setV x.1 i, x.2)) (i := i) (k := 1) (v := pO x.1 i) hi hf hs
  obtain ⟨V, hV⟩ : ∃ V, (x.1.getD i P0).2.2.2.1 = V := ⟨_, rfl⟩
  obtain ⟨O, hO⟩ : ∃ O, (x.1.getD i P0).2.2.2.2.1 = O := ⟨_, rfl⟩
  obtain ⟨L, hL⟩ : ∃ L, (x.1.getD i P0).2.2.1 = L := ⟨_, rfl⟩
  obtain ⟨P, hP⟩ : ∃ P, (x.1.getD i P0).2.2.2.2.2.1 = P := ⟨_, rfl⟩
  have key : (k = 3 ∧ L = 0 ∧ sendR i 3 v (setL x.1 i v, x.2) = d2) ∨ (k = 3 ∧ L ≠ 0 ∧ x = d2) ∨ (k ≠ 3 ∧ P = true ∧ sendR i k v x = d2) ∨ (k = 1 ∧ P = false ∧ v = V ∧ sendR i 3 v (setL x.1 i v, x.2) = d2) ∨ (k = 1 ∧ P = false ∧ v ≠ V ∧ sendR i 2 v (setNo x.1 i v, x.2) = d2) ∨
      ((k ≠ 3 ∧ k ≠ 1) ∧ P = false ∧ (V < O ∧ v < O) ∧ sendR i 1 O (setV x.1 i, x.2) = d2) ∨ ((k ≠ 3 ∧ k ≠ 1) ∧ P = false ∧ ¬ (V < O ∧ v < O) ∧ (setR x.1 i, x.2) = d2) := by
    unfold peterR at hd
    rw [← hx] at hd
    unfold peterS at hd
    have hV' : pV x.1 i = V := hV
    have hO' : pO x.1 i = O := hO
    have hL' : pL x.1 i = L := hL
    have hP' : pR x.1 i = P := hP
    rw [hV', hO', hL', hP'] at hd
    by_cases k3 : k = 3
    · rw [if_pos k3] at hd
      by_cases l0 : L = 0
      · rw [if_pos l0, k3] at hd; exact .inl ⟨k3, l0, hd⟩
      · rw [if_neg l0] at hd; exact .inr (.inl ⟨k3, l0, hd⟩)
    · rw [if_neg k3] at hd
      by_cases p1 : P = true
      · rw [if_pos p1] at hd; exact .inr (.inr (.inl ⟨k3, p1, hd⟩))
      · rw [if_neg p1] at hd
        have p1 : P = false := by simpa using p1
        by_cases k1 : k = 1
        · rw [if_pos k1] at hd
          by_cases v1 : v = V
          · rw [if_pos v1] at hd; exact .inr (.inr (.inr (.inl ⟨k1, p1, v1, hd⟩)))
          · rw [if_neg v1] at hd; exact .inr (.inr (.inr (.inr (.inl ⟨k1, p1, v1, hd⟩))))
        · rw [if_neg k1] at hd
          by_cases u : V < O ∧ v < O
          · rw [if_pos u] at hd; exact .inr (.inr (.inr (.inr (.inr (.inl ⟨⟨k3, k1⟩, p1, u, hd⟩)))))
          · rw [if_neg u] at hd; exact .inr (.inr (.inr (.inr (.inr (.inr ⟨⟨k3, k1⟩, p1, u, hd⟩)))))
  clear hd
  have q3 : 0 ≤ (i : Int) ∧ i < (sp3 x.1 i (pO x.1 i)).length := ⟨by omega, sp3_len hp⟩
  have q5 : i < (sp6 (sp3 x.1 i (pO x.1 i)) i 1).length := by unfold sp6; rw [List.length_set]; exact sp3_len hp
  have q4 : 0 ≤ (i : Int) ∧ i < (sp4 x.1 i v).length := ⟨by omega, sp4_len hp⟩
  have hU : pV (sp6 (sp3 x.1 i (pO x.1 i)) i 1) i = pO x.1 i := by rw [sp_v hp]; exact getV_setV hp
  have ep1 : pickB (decide (k = 1)) (Operand.tmp 71) (Operand.const (Value.bool false)) (decide (v = (x.1.getD i P0).2.2.2.1)) false = (decide (k = 1) && decide (v = V)) := by rw [hV]; rfl
  have ep2 : pickB (decide ((x.1.getD i P0).2.2.2.1 < (x.1.getD i P0).2.2.2.2.1)) (Operand.tmp 118) (Operand.const (Value.bool false)) (decide (v < (x.1.getD i P0).2.2.2.2.1)) false = (decide (V < O) && decide (v < O)) := by rw [hV, hO]; rfl
  clear hx
  rcases key with ⟨h1, h2, rfl⟩ | ⟨h1, h2, rfl⟩ | ⟨h1, h2, rfl⟩ | ⟨h1, h2, h3, rfl⟩ | ⟨h1, h2, h3, rfl⟩ | ⟨h1, h2, h3, rfl⟩ | ⟨h1, h2, h3, rfl⟩
  all_goals
    refine FnM.of_body tys_ok Try.func67 (by rfl) rfl Try.ntmps67 (by rw [Try.results67]) (by simp) ?_
    repeat' (first
 | refine W.joinTo (t := 18) ⟨[(0, .padr 1000000000 0), (1, (.lit (.int .i64 (i : Int)))), (5, .padr 6000 0), (6, .oadr 1000000001 7 i 0)], [(1000000000, .box [.lit (.bool true), .lit (.bool pet), .own 1000000001, .mown 5, (.lit (.int .i64 ((x).2.2 : Int)))]), (1000000001, .row 105 PT true (x).1), (5, .mat 80 91 NT true (x).2.1 none), (6000, .box [(.lit (.int .i64 (k : Int))), (.lit (.int .i64 (v : Int)))])]⟩ ?_ ?_
 | refine W.seq ?_
 | refine W.block ?_
 | (refine W.regionM (id := 3) tys_ok [] [2] ?_; conv => whnf)
 | (refine W.regionM (id := 8) tys_ok [] [6] ?_; conv => whnf)
 | (refine W.regionM (id := 10) tys_ok [] [6] ?_; conv => whnf)
 | (refine W.regionM (id := 13) tys_ok [] [4] ?_; conv => whnf)
 | (refine W.regionM (id := 16) tys_ok [] [4] ?_; conv => whnf)
 | (refine W.regionM (id := 19) tys_ok [] [6] ?_; conv => whnf)
 | (refine W.drawPhTo (id := 11) tys_ok [] mixed [0, 1, 2, 4, 8, 24, 8, 72, 136, 264, 552, 1032, 2056] [([0], 1, 3), ([2, 3, 4, 6, 7, 8], 2, 1023), ([10, 11, 12], 0, 8191)] ⟨[(0, .padr 1000000000 0), (1, (.lit (.int .i64 (i : Int)))), (5, .padr 6000 0), (6, .oadr 1000000001 7 i 0), (60, .lit (.bool (decide (k = 1) && decide (v = V))))], [(1000000000, .box [.lit (.bool true), .lit (.bool pet), .own 1000000001, .mown 5, (.lit (.int .i64 ((x).2.2 : Int)))]), (1000000001, .row 105 PT true (x).1), (5, .mat 80 91 NT true (x).2.1 none), (6000, .box [(.lit (.int .i64 (k : Int))), (.lit (.int .i64 (v : Int)))])]⟩ (by decide +kernel) ?_ ?_ <;> (conv => whnf))
 | (refine W.drawPhTo (id := 17) tys_ok [] mixed [0, 1, 2, 4, 0, 16, 32, 64, 136, 256, 512, 1536, 2560, 4608, 512, 16896, 41472, 66048, 131584] [([0, 1, 2, 4, 5, 6], 2, 255), ([8, 9, 10, 11, 12, 14], 2, 65535), ([16, 17, 18], 0, 524287)] ⟨[(0, .padr 1000000000 0), (1, (.lit (.int .i64 (i : Int)))), (5, .padr 6000 0), (6, .oadr 1000000001 7 i 0), (101, .lit (.bool (decide (V < O) && decide (v < O))))], [(1000000000, .box [.lit (.bool true), .lit (.bool pet), .own 1000000001, .mown 5, (.lit (.int .i64 ((x).2.2 : Int)))]), (1000000001, .row 105 PT true (x).1), (5, .mat 80 91 NT true (x).2.1 none), (6000, .box [(.lit (.int .i64 (k : Int))), (.lit (.int .i64 (v : Int)))])]⟩ (by decide +kernel) ?_ ?_ <;> (conv => whnf))
 | (refine W.region tys_ok [] ?_; conv => whnf)
 | (refine W.drawAll tys_ok [] mixed rfl ?_; conv => whnf)
 | (refine W.ret ?_; conv => whnf)
 | (refine W.skip ?_; conv => whnf)
 | (refine W.exit ?_; conv => whnf)
 | (refine callM_at (c0) ?_; conv => whnf)
 | (have _ : P = true := h2; refine callM_at c2 ?_; conv => whnf)
 | (have _ : L = 0 := h2; refine callM_at c1 ?_; conv => whnf)
 | (have _ : v = V := h3; refine callM_at c1 ?_; conv => whnf)
 | (have _ : k = 1 := h1; refine callM_at c3 ?_; conv => whnf)
 | (refine callM_at (c4) ?_; conv => whnf)
 | (refine Both.mk ?_ ?_ <;> (conv => whnf))
 | (refine W.cond rfl (fun hb => ?_) (fun hb => ?_) <;> (try simp only [zr, zd, zm, minL, maxL, pickB, zA] at hb) <;> (try (first | (cases hb; done) | exact absurd hb (by decide) | (exfalso; omega) | (omega) | ((simp [pickB, hV, hO, hL, hP] at hb; omega)) | ((rw [hL] at hb; omega)) | ((rw [hP, h2] at hb; cases hb; done)))))
 | (refine Or.inl (And.intro trivial ?_); (conv => whnf))
 | ((with_reducible refine And.intro ?_ ?_); exact zc; conv => whnf)
 | ((with_reducible refine And.intro (Side.out ?_) ?_); rotate_left; (conv => whnf))
 | ((first | refine retM1 ?_ | refine retM2 ?_ | refine subF.leaf ?_ | refine subF.side ?_) <;> (conv => whnf) <;> repeat' (first
 | exact trivial
 | (with_reducible rfl)
 | ((with_reducible refine And.intro ?_ ?_) <;> conv => whnf)
 | omega
 | rfl
 | (refine congrArg (SV.arr _) ?_)
 | (refine congrArg (Value.int _) ?_)
 | (refine congrArg Value.bool ?_)))); all_goals (try unfold Side)
  all_goals first
    | exact congrArg (fun r : Rn => r.2.2) (hw3 hb)
    | exact congrArg (fun r : Rn => r.1) (hw3 hb)
    | exact congrArg (fun r : Rn => r.2.1) (hw3 hb)
    | exact congrArg (fun r : Rn => r.2.2) (hw4 hb)
    | exact congrArg (fun r : Rn => r.1) (hw4 hb)
    | exact congrArg (fun r : Rn => r.2.1) (hw4 hb)
    | exact ep1 | exact ep2 | exact congrArg (fun O => (sendR i 1 O (setV x.1 i, x.2)).2.1) (show pO x.1 i = O from hO) | rfl | exact sp3_len hp | exact sp4_len hp | exact Path.imp_of e0 | exact Path.imp_of e00 | exact Path.imp_of q3 | exact Path.imp_of q5 | exact Path.imp_of q4 | exact sp_no hp | exact sp_v hp | exact congrArg _ (sp_no hp) | exact congrArg _ (sp_v hp) | exact hU | skip
  all_goals try (repeat' (first | exact zb | with_reducible refine And.intro ?_ ?_))
open Go Go.Vc Go.Rg
variable {n : Nat} {pet : Bool} {r : Rn}
theorem leader_in {i : Nat} (hp : i < r.1.length) : FnM Try.prog 47 [.padr 1000000000 0, (.lit (.int .i64 (i : Int)))] [(1000000000, .box [.lit (.bool true), .lit (.bool pet), .own 1000000001, .mown 1000000002, (.lit (.int .i64 ((r).2.2 : Int)))]), (1000000001, .row 105 PT true (r).1), (1000000002, .mat 80 91 NT true (r).2.1 none)] (.lit (.int .i64 (pL r.1 i : Int))) [(1000000000, .box [.lit (.bool true), .lit (.bool pet), .own 1000000001, .mown 1000000002, (.lit (.int .i64 ((r).2.2 : Int)))]), (1000000001, .row 105 PT true (r).1), (1000000002, .mat 80 91 NT true (r).2.1 none)] := by
 have c1 := ris_at (pet := pet) (r := r)
 have c2 := rhas_at (pet := pet) (r := r) (has_of hp).symm
 have hl : @List.length PT.T r.1 = r.1.length := rfl
 refine FnM.of_body tys_ok Try.func47 (by rfl) rfl Try.ntmps47 (by rw [Try.results47]) (by simp) ?_
 repeat' (first
 | refine W.seq ?_
 | refine W.block ?_
 | (refine W.regionM (id := 1) tys_ok [] [1,6] ?_; conv => whnf)
 | (refine W.region tys_ok [] ?_; conv => whnf)
 | (refine W.drawAll tys_ok [] mixed rfl ?_; conv => whnf)
 | (refine W.ret ?_; conv => whnf)
 | (refine W.skip ?_; conv => whnf)
 | (refine W.exit ?_; conv => whnf)
 | (refine callM_at (c1) ?_; conv => whnf)
 | (refine callM_at (c2) ?_; conv => whnf)
 | (refine W.cond rfl (fun hb => ?_) (fun hb => ?_) <;> (try simp only [zr, zd, zm, minL, maxL, pickB, zA] at hb) <;> (try (first | (cases hb; done) | exact absurd hb (by decide) | (exfalso; omega) | (omega) | ((simp_all; done)))))
 | (refine Or.inl (And.intro ?_ ?_); exact zi; conv => whnf)
 | (refine Or.inr (And.intro ?_ ?_); exact zj; conv => whnf)
 | ((with_reducible refine And.intro ?_ ?_); exact zc; conv => whnf)
 | ((with_reducible refine And.intro (Side.out ?_) ?_); rotate_left; (conv => whnf))
 | ((first | refine retM1 ?_ | refine retM2 ?_) <;> (conv => whnf) <;> repeat' (first
 | exact trivial
 | (with_reducible rfl)
 | ((with_reducible refine And.intro ?_ ?_) <;> conv => whnf)
 | omega
 | rfl
 | (refine congrArg (SV.arr _) ?_)
 | (refine congrArg (Value.int _) ?_)
 | (refine congrArg Value.bool ?_)))); all_goals (try unfold Side)
 all_goals try (repeat' (first | exact zb | with_reducible refine And.intro ?_ ?_))
theorem leader_out {i : Int} (h : hasB r.1.length i = false) : FnM Try.prog 47 [.padr 1000000000 0, (.lit (.int .i64 (i : Int)))] [(1000000000, .box [.lit (.bool true), .lit (.bool pet), .own 1000000001, .mown 1000000002, (.lit (.int .i64 ((r).2.2 : Int)))]), (1000000001, .row 105 PT true (r).1), (1000000002, .mat 80 91 NT true (r).2.1 none)] (.lit (.int .i64 (0 : Int))) [(1000000000, .box [.lit (.bool true), .lit (.bool pet), .own 1000000001, .mown 1000000002, (.lit (.int .i64 ((r).2.2 : Int)))]), (1000000001, .row 105 PT true (r).1), (1000000002, .mat 80 91 NT true (r).2.1 none)] := by
 have c1 := ris_at (pet := pet) (r := r)
 have c2 := rhas_at (pet := pet) (r := r) h.symm
 refine FnM.of_body tys_ok Try.func47 (by rfl) rfl Try.ntmps47 (by rw [Try.results47]) (by simp) ?_
 repeat' (first
 | refine W.seq ?_
 | refine W.block ?_
 | (refine W.regionM (id := 1) tys_ok [] [1,6] ?_; conv => whnf)
 | (refine W.region tys_ok [] ?_; conv => whnf)
 | (refine W.drawAll tys_ok [] mixed rfl ?_; conv => whnf)
 | (refine W.ret ?_; conv => whnf)
 | (refine W.skip ?_; conv => whnf)
 | (refine W.exit ?_; conv => whnf)
 | (refine callM_at (c1) ?_; conv => whnf)
 | (refine callM_at (c2) ?_; conv => whnf)
 | (refine W.cond rfl (fun hb => ?_) (fun hb => ?_) <;> (try simp only [zr, zd, zm, minL, maxL, pickB, zA] at hb) <;> (try (first | (cases hb; done) | exact absurd hb (by decide) | (exfalso; omega) | (omega) | ((simp_all; done)))))
 | (refine Or.inl (And.intro ?_ ?_); exact zi; conv => whnf)
 | (refine Or.inr (And.intro ?_ ?_); exact zj; conv => whnf)
 | ((with_reducible refine And.intro ?_ ?_); exact zc; conv => whnf)
 | ((with_reducible refine And.intro (Side.out ?_) ?_); rotate_left; (conv => whnf))
 | ((first | refine retM1 ?_ | refine retM2 ?_) <;> (conv => whnf) <;> repeat' (first
 | exact trivial
 | (with_reducible rfl)
 | ((with_reducible refine And.intro ?_ ?_) <;> conv => whnf)
 | omega
 | rfl
 | (refine congrArg (SV.arr _) ?_)
 | (refine congrArg (Value.int _) ?_)
 | (refine congrArg Value.bool ?_)))); all_goals (try unfold Side)
 all_goals try (repeat' (first | exact zb | with_reducible refine And.intro ?_ ?_))
theorem sent_at : FnM Try.prog 48 [.padr 1000000000 0] [(1000000000, .box [.lit (.bool true), .lit (.bool pet), .own 1000000001, .mown 1000000002, (.lit (.int .i64 ((r).2.2 : Int)))]), (1000000001, .row 105 PT true (r).1), (1000000002, .mat 80 91 NT true (r).2.1 none)] (.lit (.int .i64 (r.2.2 : Int))) [(1000000000, .box [.lit (.bool true), .lit (.bool pet), .own 1000000001, .mown 1000000002, (.lit (.int .i64 ((r).2.2 : Int)))]), (1000000001, .row 105 PT true (r).1), (1000000002, .mat 80 91 NT true (r).2.1 none)] := by
 have c1 := ris_at (pet := pet) (r := r)
 refine FnM.of_body tys_ok Try.func48 (by rfl) rfl Try.ntmps48 (by rw [Try.results48]) (by simp) ?_
 repeat' (first
 | refine W.seq ?_
 | refine W.block ?_
 | (refine W.regionM (id := 1) tys_ok [] [1] ?_; conv => whnf)
 | (refine W.region tys_ok [] ?_; conv => whnf)
 | (refine W.drawAll tys_ok [] mixed rfl ?_; conv => whnf)
 | (refine W.ret ?_; conv => whnf)
 | (refine W.skip ?_; conv => whnf)
 | (refine W.exit ?_; conv => whnf)
 | (refine callM_at (c1) ?_; conv => whnf)
 | (refine W.cond rfl (fun hb => ?_) (fun hb => ?_) <;> (try simp only [zr, zd, zm, minL, maxL, pickB, zA] at hb) <;> (try (first | (cases hb; done) | exact absurd hb (by decide) | (exfalso; omega) | (omega))))
 | (refine Or.inl (And.intro trivial ?_); (conv => whnf))
 | ((with_reducible refine And.intro ?_ ?_); exact zc; conv => whnf)
 | ((with_reducible refine And.intro (Side.out ?_) ?_); rotate_left; (conv => whnf))
 | ((first | refine retM1 ?_ | refine retM2 ?_) <;> (conv => whnf) <;> repeat' (first
 | exact trivial
 | (with_reducible rfl)
 | ((with_reducible refine And.intro ?_ ?_) <;> conv => whnf)
 | omega
 | rfl
 | (refine congrArg (SV.arr _) ?_)
 | (refine congrArg (Value.int _) ?_)
 | (refine congrArg Value.bool ?_)))); all_goals (try unfold Side)
 all_goals try (repeat' (first | exact zb | with_reducible refine And.intro ?_ ?_))
theorem rdel_arg {i : Int} (h : hasB r.1.length i = false) : FnM Try.prog 33 [.padr 1000000000 0, (.lit (.int .i64 (i : Int)))] [(1000000000, .box [.lit (.bool true), .lit (.bool pet), .own 1000000001, .mown 5, (.lit (.int .i64 ((r).2.2 : Int)))]), (1000000001, .row 105 PT true (r).1), (5, .mat 80 91 NT true (r).2.1 none)] (.lit (.int .i64 (1 : Int))) [(1000000000, .box [.lit (.bool true), .lit (.bool pet), .own 1000000001, .mown 5, (.lit (.int .i64 ((r).2.2 : Int)))]), (1000000001, .row 105 PT true (r).1), (5, .mat 80 91 NT true (r).2.1 none)] := by
 have c1 := ris_at (pet := pet) (r := r)
 have c2 := rhas_at (pet := pet) (r := r) h.symm
 refine FnM.of_body tys_ok Try.func33 (by rfl) rfl Try.ntmps33 (by rw [Try.results33]) (by simp) ?_
 repeat' (first
 | refine W.seq ?_
 | refine W.block ?_
 | (refine W.regionM (id := 1) tys_ok [] [1] ?_; conv => whnf)
 | (refine W.regionM (id := 3) tys_ok [] [2] ?_; conv => whnf)
 | (refine W.region tys_ok [] ?_; conv => whnf)
 | (refine W.drawAll tys_ok [] mixed rfl ?_; conv => whnf)
 | (refine W.ret ?_; conv => whnf)
 | (refine W.skip ?_; conv => whnf)
 | (refine W.exit ?_; conv => whnf)
 | (refine callM_at (c1) ?_; conv => whnf)
 | (refine callM_at (c2) ?_; conv => whnf)
 | (refine W.cond rfl (fun hb => ?_) (fun hb => ?_) <;> (try simp only [zr, zd, zm, minL, maxL, pickB, zA] at hb) <;> (try (first | (cases hb; done) | exact absurd hb (by decide) | (exfalso; omega) | (omega))))
 | (refine Or.inl (And.intro trivial ?_); (conv => whnf))
 | ((with_reducible refine And.intro ?_ ?_); exact zc; conv => whnf)
 | ((with_reducible refine And.intro (Side.out ?_) ?_); rotate_left; (conv => whnf))
 | ((first | refine retM1 ?_ | refine retM2 ?_) <;> (conv => whnf) <;> repeat' (first
 | exact trivial
 | (with_reducible rfl)
 | ((with_reducible refine And.intro ?_ ?_) <;> conv => whnf)
 | omega
 | rfl
 | (refine congrArg (SV.arr _) ?_)
 | (refine congrArg (Value.int _) ?_)
 | (refine congrArg Value.bool ?_)))); all_goals (try unfold Side)
 all_goals try (repeat' (first | exact zb | with_reducible refine And.intro ?_ ?_))
theorem rdel_none {i : Nat} (hp : i < r.1.length) (hi : i < r.2.1.length) (h0 : (r.2.1.getD i []).length = 0) : FnM Try.prog 33 [.padr 1000000000 0, (.lit (.int .i64 (i : Int)))] [(1000000000, .box [.lit (.bool true), .lit (.bool pet), .own 1000000001, .mown 5, (.lit (.int .i64 ((r).2.2 : Int)))]), (1000000001, .row 105 PT true (r).1), (5, .mat 80 91 NT true (r).2.1 none)] (.lit (.int .i64 (5 : Int))) [(1000000000, .box [.lit (.bool true), .lit (.bool pet), .own 1000000001, .mown 5, (.lit (.int .i64 ((r).2.2 : Int)))]), (1000000001, .row 105 PT true (r).1), (5, .mat 80 91 NT true (r).2.1 none)] := by
 have c1 := ris_at (pet := pet) (r := r)
 have c2 := rhas_at (pet := pet) (r := r) (has_of hp).symm
 have e0 : @List.length NT.T (@List.getD (List NT.T) r.2.1 i []) = 0 := h0
 have e1 : 0 ≤ (i : Int) ∧ i < r.2.1.length := ⟨by omega, hi⟩
 refine FnM.of_body tys_ok Try.func33 (by rfl) rfl Try.ntmps33 (by rw [Try.results33]) (by simp) ?_
 repeat' (first
 | refine W.seq ?_
 | refine W.block ?_
 | (refine W.regionM (id := 1) tys_ok [] [1] ?_; conv => whnf)
 | (refine W.regionM (id := 3) tys_ok [] [2] ?_; conv => whnf)
 | (refine W.region tys_ok [] ?_; conv => whnf)
 | (refine W.drawAll tys_ok [] mixed rfl ?_; conv => whnf)
 | (refine W.ret ?_; conv => whnf)
 | (refine W.skip ?_; conv => whnf)
 | (refine W.exit ?_; conv => whnf)
 | (refine callM_at (c1) ?_; conv => whnf)
 | (refine callM_at (c2) ?_; conv => whnf)
 | (refine W.cond rfl (fun hb => ?_) (fun hb => ?_) <;> (try simp only [zr, zd, zm, minL, maxL, pickB, zA] at hb) <;> (try (first | (cases hb; done) | exact absurd hb (by decide) | (exfalso; omega) | (omega) | ((simp_all; done)))))
 | (refine Or.inl (And.intro trivial ?_); (conv => whnf))
 | ((with_reducible refine And.intro ?_ ?_); exact zc; conv => whnf)
 | ((with_reducible refine And.intro (Side.out ?_) ?_); rotate_left; (conv => whnf))
 | ((first | refine retM1 ?_ | refine retM2 ?_) <;> (conv => whnf) <;> repeat' (first
 | exact trivial
 | (with_reducible rfl)
 | ((with_reducible refine And.intro ?_ ?_) <;> conv => whnf)
 | omega
 | rfl
 | (refine congrArg (SV.arr _) ?_)
 | (refine congrArg (Value.int _) ?_)
 | (refine congrArg Value.bool ?_)))); all_goals (try unfold Side)
 all_goals try (repeat' (first | exact zb | with_reducible refine And.intro ?_ ?_))
 all_goals first | exact hi | exact Path.imp_of hi | exact Path.imp_of e1 | skip
open Int renaming reduceToNat → zr, reduceTDiv → zd, reduceTMod → zm
open Go Go.Vc Go.Rg
variable {n : Nat} {pet : Bool} {r : Rn}
set_option maxHeartbeats 4000000 in
theorem ringclone_at (h : ROk n pet r) (hs : r.2.2 ≤ 1000000) : FnM Try.prog 32 [.padr 1000000000 0] [(1000000000, .box [.lit (.bool true), .lit (.bool pet), .own 1000000001, .mown 1000000002, (.lit (.int .i64 ((r).2.2 : Int)))]), (1000000001, .row 105 PT true (r).1), (1000000002, .mat 80 91 NT true (r).2.1 none)] (.padr 0 0) [(1000000000, .box [.lit (.bool true), .lit (.bool pet), .own 1000000001, .mown 1000000002, (.lit (.int .i64 ((r).2.2 : Int)))]), (1000000001, .row 105 PT true (r).1), (1000000002, .mat 80 91 NT true (r).2.1 none), (0, .box [.lit (.bool true), .lit (.bool pet), .own 1, .mown 2, (.lit (.int .i64 ((r).2.2 : Int)))]), (1, .row 105 PT true (r).1), (2, .mat 80 91 NT true (r).2.1 none)] := by
 have hlp : @List.length PT.T r.1 = r.1.length := rfl
 have hlf : @List.length (List NT.T) r.2.1 = n := h.fln
 have h0 := h.n0
 have h1 := h.n1
 have c1 := ris_at (pet := pet) (r := r)
 have c2 := clone_peer (xs := r.1) (by have := h.len; show r.1.length ≤ _; omega)
 refine FnM.of_body tys_ok Try.func32 (by rfl) rfl Try.ntmps32 (by rw [Try.results32]) (by simp) ?_
 repeat' (first
 | refine W.seq ?_
 | refine W.block ?_
 | (refine W.regionM (id := 1) tys_ok [] [1] ?_; conv => whnf)
 | (refine W.region tys_ok [] ?_; conv => whnf)
 | (refine W.drawAll tys_ok [] mixed rfl ?_; conv => whnf)
 | (refine W.ret ?_; conv => whnf)
 | (refine W.skip ?_; conv => whnf)
 | (refine W.exit ?_; conv => whnf)
 | (refine callM_at (c1) ?_; conv => whnf)
 | (refine call_at (al := false) (c2) rfl rfl rfl rfl ?_; conv => whnf)
 | (refine W.cond rfl (fun hb => ?_) (fun hb => ?_) <;> (try simp only [zr, zd, zm, minL, maxL, pickB, zA] at hb) <;> (try (first | (cases hb; done) | exact absurd hb (by decide) | (exfalso; omega) | (omega))))
 | (refine Or.inl (And.intro trivial ?_); (conv => whnf))
 | ((with_reducible refine And.intro ?_ ?_); exact zc; conv => whnf)
 | ((with_reducible refine And.intro (Side.out ?_) ?_); rotate_left; (conv => whnf))
 | ((first | refine retM1 ?_ | refine retM2 ?_) <;> (conv => whnf) <;> repeat' (first
 | exact trivial
 | (with_reducible rfl)
 | ((with_reducible refine And.intro ?_ ?_) <;> conv => whnf)
 | omega
 | rfl
 | (refine congrArg (SV.arr _) ?_)
 | (refine congrArg (Value.int _) ?_)
 | (refine congrArg Value.bool ?_)))); all_goals (try unfold Side)
 all_goals try (repeat' (first | exact zb | with_reducible refine And.intro ?_ ?_))
 refine W.nilM 999 4000 3 80 91 NT rfl rfl rfl rfl ?_
 refine W.loop (fun i : Nat => ⟨[(0, .padr 1000000000 0), (3, .padr 4000 0), (22, .mown 1000000002), (23, (.lit (.int .i64 (n : Int)))), (24, (.lit (.int .i64 (i : Int))))], [(1000000000, .box [.lit (.bool true), .lit (.bool pet), .own 1000000001, .mown 1000000002, (.lit (.int .i64 ((r).2.2 : Int)))]), (1000000001, .row 105 PT true (r).1), (1000000002, .mat 80 91 NT true (r).2.1 none), (4000, .box [.lit (.bool true), .lit (.bool pet), .own 4001, .mown 4002, (.lit (.int .i64 (r.2.2 : Int)))]), (4001, .row 105 PT true r.1), (4002, .mat 80 91 NT true (r.2.1.take i) none)]⟩) (fun i => i ≤ n) (fun i => n - i) (0) ?_ ?_
 · refine ⟨Nat.zero_le _, ?_⟩
   refine subF.ok ?_ <;> (conv => whnf) <;> repeat' (first
 | exact trivial
 | (with_reducible rfl)
 | ((with_reducible refine And.intro ?_ ?_) <;> conv => whnf)
 | omega
 | rfl
 | (refine congrArg (SV.arr _) ?_)
 | (refine congrArg (Value.int _) ?_)
 | (refine congrArg Value.bool ?_))
 · intro i hi
   by_cases hin : i < n
   · have c3 := clone_note (xs := r.2.1.getD i []) (by have := h.fl i; show (r.2.1.getD i []).length ≤ _; omega)
     have e1 : r.2.1.take (i + 1) = r.2.1.take i ++ [r.2.1.getD i []] := by
      rw [List.take_succ_eq_append_getElem (by rw [h.fln]; exact hin), List.getD_eq_getElem?_getD, List.getElem?_eq_getElem (by rw [h.fln]; exact hin)]; rfl
     have hf1 : (r.2.1.take i).length + [r.2.1.getD i []].length ≤ 4294967296 := by rw [List.length_take, List.length_singleton]; omega
     repeat' (first
 | refine W.seq ?_
 | refine W.block ?_
 | (refine W.drawBC (id := 9) tys_ok [] [1004, 1005] mixed 1000000000 [.lit (.bool true), .lit (.bool pet), .own 1000000001, .mown 1000000002, (.lit (.int .i64 (r.2.2 : Int)))] rfl rfl [0, 1, 0, 4, 8, 26, 63, 127] [([0, 2], 3, 31), ([], 1, 63), ([6], 1, 255)] [none, none, none] (by decide +kernel) ?_; conv => whnf)
 | (refine W.region tys_ok [] ?_; conv => whnf)
 | (refine W.drawAll tys_ok [] mixed rfl ?_; conv => whnf)
 | (refine W.ret ?_; conv => whnf)
 | (refine W.skip ?_; conv => whnf)
 | (refine W.exit ?_; conv => whnf)
 | (refine call_at (al := false) (c3) rfl rfl rfl rfl ?_; conv => whnf)
 | (refine Both.mk ?_ ?_ <;> (conv => whnf))
 | (refine W.cond rfl (fun hb => ?_) (fun hb => ?_) <;> (try simp only [zr, zd, zm, minL, maxL, pickB, zA] at hb) <;> (try (first | (cases hb; done) | exact absurd hb (by decide) | (exfalso; omega) | (omega))))
 | (refine Or.inl (And.intro trivial ?_); (conv => whnf))
 | ((with_reducible refine And.intro ?_ ?_); exact zc; conv => whnf)
 | ((with_reducible refine And.intro (Side.out ?_) ?_); rotate_left; (conv => whnf))
 | ((first | refine retM1 ?_ | refine retM2 ?_ | refine subF.leaf ?_ | refine subF.side ?_) <;> (conv => whnf) <;> repeat' (first
 | exact trivial
 | (with_reducible rfl)
 | ((with_reducible refine And.intro ?_ ?_) <;> conv => whnf)
 | omega
 | rfl
 | (refine congrArg (SV.arr _) ?_)
 | (refine congrArg (Value.int _) ?_)
 | (refine congrArg Value.bool ?_)))); all_goals (try unfold Side)
     all_goals first | exact hf1 | skip
     all_goals try (repeat' (first | exact zb | with_reducible refine And.intro ?_ ?_))
     all_goals
      refine ⟨i + 1, ⟨by omega, by omega⟩, ?_⟩
      refine subF.ok ?_ <;> (conv => whnf) <;> repeat' (first
 | exact trivial
 | (with_reducible rfl)
 | ((with_reducible refine And.intro ?_ ?_) <;> conv => whnf)
 | omega
 | rfl
 | (refine congrArg (SV.arr _) ?_)
 | (refine congrArg (Value.int _) ?_)
 | (refine congrArg Value.bool ?_))
     all_goals exact e1.symm
   · have hie : r.2.1.take i = r.2.1 := List.take_of_length_le (by rw [h.fln]; omega)
     repeat' (first
 | refine W.seq ?_
 | refine W.block ?_
 | (refine W.region tys_ok [] ?_; conv => whnf)
 | (refine W.drawAll tys_ok [] mixed rfl ?_; conv => whnf)
 | (refine W.ret ?_; conv => whnf)
 | (refine W.skip ?_; conv => whnf)
 | (refine W.exit ?_; conv => whnf)
 | (refine W.cond rfl (fun hb => ?_) (fun hb => ?_) <;> (try simp only [zr, zd, zm, minL, maxL, pickB, zA] at hb) <;> (try (first | (cases hb; done) | exact absurd hb (by decide) | (exfalso; omega) | (omega))))
 | ((with_reducible refine And.intro ?_ ?_); exact zc; conv => whnf)
 | ((with_reducible refine And.intro (Side.out ?_) ?_); rotate_left; (conv => whnf))
 | ((first | refine retM1 ?_ | refine retM2 ?_) <;> (conv => whnf) <;> repeat' (first
 | exact trivial
 | (with_reducible rfl)
 | ((with_reducible refine And.intro ?_ ?_) <;> conv => whnf)
 | omega
 | rfl
 | (refine congrArg (SV.arr _) ?_)
 | (refine congrArg (Value.int _) ?_)
 | (refine congrArg Value.bool ?_)))); all_goals (try unfold Side)
     all_goals first | exact hie | skip
     all_goals try (repeat' (first | exact zb | with_reducible refine And.intro ?_ ?_))
end Go.Proofs.Ytkjcnegkdlmapaa
