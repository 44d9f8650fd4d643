/- Joined of: K11 K13 R5 R7 K14. No condition. -/
import Derived.Test.YtkjcnegkdlmapaaJ11
import Derived.Test.YtkjcnegkdlmapaaJ9
import Derived.Test.YtkjcnegkdlmapaaJ6

namespace Go.Proofs.Ytkjcnegkdlmapaa
open Go Go.Vc Go.Rg
set_option linter.unusedVariables false
set_option linter.unusedSimpArgs false
variable {hs : List Hd} {fl : List Lt}
end Go.Proofs.Ytkjcnegkdlmapaa
namespace Go.Proofs.Ytkjcnegkdlmapaa
open Go Go.Vc Go.Rg
set_option linter.unusedVariables false
set_option linter.unusedSimpArgs false
variable {n : Nat} {w w2 : Wk} {e : Int}
theorem send_cases {a b : Int} (h : WOk n w) (he : sendE a b w = e) (hw : sendK a b w = w2) :
    ((hasB w.1.length a && hasB w.1.length b) = false ∧ e = 1 ∧ w2 = w) ∨ ∃ f x : Nat, a = f ∧ b = x ∧ f < w.1.length ∧ x < w.1.length ∧
      ((gw w.1 f = false ∧ e = 5 ∧ w2 = w) ∨ (gw w.1 f = true ∧ 200 ≤ w.2.length ∧ e = 7 ∧ w2 = w) ∨
        (gw w.1 f = true ∧ ¬ 200 ≤ w.2.length ∧ e = 0 ∧ w2 = (setO w.1 f (go w.1 f + 1), w.2 ++ [((f : Int), (x : Int), false, ())]))) := by
  unfold sendK at hw
  rw [he] at hw
  unfold sendE at he
  split at he
  · rename_i h1
    rw [Bool.and_eq_true] at h1
    obtain ⟨f, rfl, hf⟩ := has_nat h1.1
    obtain ⟨x, rfl, hx⟩ := has_nat h1.2
    rw [Int.toNat_natCast] at he hw
    refine .inr ⟨f, x, rfl, rfl, hf, hx, ?_⟩
    split at he
    · rename_i h2
      split at he
      · rename_i h3
        subst he
        rw [if_neg (by decide)] at hw
        exact .inr (.inl ⟨h2, h3, rfl, hw.symm⟩)
      · rename_i h3
        subst he
        rw [if_pos rfl] at hw
        exact .inr (.inr ⟨h2, h3, rfl, hw.symm⟩)
    · rename_i h2
      subst he
      rw [if_neg (by decide)] at hw
      exact .inl ⟨by simpa using h2, rfl, hw.symm⟩
  · rename_i h1
    subst he
    rw [if_neg (by decide)] at hw
    exact .inl ⟨by simpa using h1, rfl, hw.symm⟩
theorem idle_cases {i : Int} (h : WOk n w) (he : idleE i w = e) (hw : idleK i w = w2) :
    (hasB w.1.length i = false ∧ e = 1 ∧ w2 = w) ∨ ∃ f : Nat, i = f ∧ f < w.1.length ∧
      ((gw w.1 f = false ∧ e = 5 ∧ w2 = w) ∨ (gw w.1 f = true ∧ goesI w.1 f = true ∧ 200 ≤ w.2.length ∧ e = 7 ∧ w2 = w) ∨
        (gw w.1 f = true ∧ ¬ (goesI w.1 f = true ∧ 200 ≤ w.2.length) ∧ e = 0 ∧ w2 = settL f (setW w.1 f false, w.2))) := by
  unfold idleK at hw
  rw [he] at hw
  unfold idleE at he
  split at he
  · rename_i h1
    obtain ⟨f, rfl, hf⟩ := has_nat h1
    rw [Int.toNat_natCast] at he hw
    refine .inr ⟨f, rfl, hf, ?_⟩
    split at he
    · rename_i h2
      split at he
      · rename_i h3
        subst he
        rw [if_neg (by decide)] at hw
        exact .inr (.inl ⟨h2, h3.1, h3.2, rfl, hw.symm⟩)
      · rename_i h3
        subst he
        rw [if_pos rfl] at hw
        exact .inr (.inr ⟨h2, h3, rfl, hw.symm⟩)
    · rename_i h2
      subst he
      rw [if_neg (by decide)] at hw
      exact .inl ⟨by simpa using h2, rfl, hw.symm⟩
  · rename_i h1
    subst he
    rw [if_neg (by decide)] at hw
    exact .inl ⟨by simpa using h1, rfl, hw.symm⟩
theorem del_cases {k : Int} (h : WOk n w) (he : delE k w = e) (hw : delK k w = w2) :
    (hasB w.2.length k = false ∧ e = 1 ∧ w2 = w) ∨ ∃ (j f x : Nat) (b : Bool), k = j ∧ j < w.2.length ∧ w.2.getD j L0 = ((f : Int), (x : Int), b, ()) ∧ x < w.1.length ∧ (0 ≤ go w.1 x ∧ go w.1 x ≤ 1000) ∧ e = 0 ∧ w2 = delL j w := by
  unfold delK at hw
  rw [he] at hw
  unfold delE at he
  split at he
  · rename_i h1
    subst he
    rw [if_pos rfl] at hw
    obtain ⟨j, rfl, hj⟩ := has_nat h1
    rw [Int.toNat_natCast] at hw
    obtain ⟨⟨v1, v2⟩, v3, v4⟩ := h.let hj
    obtain ⟨f, hf⟩ : ∃ f : Nat, (f : Int) = (w.2.getD j L0).1 := ⟨(w.2.getD j L0).1.toNat, by omega⟩
    obtain ⟨x, hx⟩ : ∃ x : Nat, (x : Int) = (w.2.getD j L0).2.1 := ⟨(w.2.getD j L0).2.1.toNat, by omega⟩
    have hxl : x < n := by omega
    have := h.owed hxl
    refine .inr ⟨j, f, x, (w.2.getD j L0).2.2.1, rfl, hj, by rw [hf, hx], by rw [h.len]; exact hxl, by omega, rfl, hw.symm⟩
  · rename_i h1
    subst he
    rw [if_neg (by decide)] at hw
    exact .inl ⟨by simpa using h1, rfl, hw.symm⟩
theorem send_at {a b : Int} (h : WOk n w) (he : sendE a b w = e) (hw : sendK a b w = w2) : FnM Try.prog 38 [.padr 1000000000 0, (.lit (.int .i64 (a : Int))), (.lit (.int .i64 (b : Int)))] [(1000000000, .box [.own 1000000001, .own 5]), (1000000001, .row 96 HT true (w).1), (5, .row 50 LT true (w).2)] (.lit (.int .i64 (e : Int))) [(1000000000, .box [.own 1000000001, .own 5]), (1000000001, .row 96 HT true (w2).1), (5, .row 50 LT true (w2).2)] := by
  have h0 : 0 < w.1.length := by rw [h.len]; exact h.n0
  have hf := h.fl
  rcases send_cases h he hw with ⟨h1, rfl, rfl⟩ | ⟨f, x, rfl, rfl, hf, hx, ⟨h1, rfl, rfl⟩ | ⟨h1, h2, rfl, rfl⟩ | ⟨h1, h2, rfl, rfl⟩⟩
  · exact send_arg h0 h1
  · exact send_none hf hx h1
  · exact send_full hf hx h1 h2
  · have := h.owed (i := f) (by rw [← h.len]; exact hf)
    exact send_ok hf hx h1 h2 (by omega)
theorem idle_at {i : Int} (h : WOk n w) (he : idleE i w = e) (hw : idleK i w = w2) : FnM Try.prog 19 [.padr 1000000000 0, (.lit (.int .i64 (i : Int)))] [(1000000000, .box [.own 1000000001, .own 5]), (1000000001, .row 96 HT true (w).1), (5, .row 50 LT true (w).2)] (.lit (.int .i64 (e : Int))) [(1000000000, .box [.own 1000000001, .own 5]), (1000000001, .row 96 HT true (w2).1), (5, .row 50 LT true (w2).2)] := by
  have h0 : 0 < w.1.length := by rw [h.len]; exact h.n0
  have hf := h.fl
  rcases idle_cases h he hw with ⟨h1, rfl, rfl⟩ | ⟨f, rfl, hf, ⟨h1, rfl, rfl⟩ | ⟨h1, h2, h3, rfl, rfl⟩ | ⟨h1, h2, rfl, rfl⟩⟩
  · exact idle_arg h0 h1
  · exact idle_none hf h1
  · exact idle_full hf h1 h2 h3
  · exact idle_ok hf h1 h2 (by omega) rfl
theorem deliver_at {k : Int} (h : WOk n w) (he : delE k w = e) (hw : delK k w = w2) : FnM Try.prog 21 [.padr 1000000000 0, (.lit (.int .i64 (k : Int)))] [(1000000000, .box [.own 1000000001, .own 5]), (1000000001, .row 96 HT true (w).1), (5, .row 50 LT true (w).2)] (.lit (.int .i64 (e : Int))) [(1000000000, .box [.own 1000000001, .own 5]), (1000000001, .row 96 HT true (w2).1), (5, .row 50 LT true (w2).2)] := by
  have h0 : 0 < w.1.length := by rw [h.len]; exact h.n0
  have hf := h.fl
  rcases del_cases h he hw with ⟨h1, rfl, rfl⟩ | ⟨j, f, x, b, rfl, hj, hm, hx, ho, rfl, rfl⟩
  · exact deliver_arg h0 h1
  · have e0 : delL j w = if b = true then settL x (setO w.1 x (go w.1 x - 1), era w.2 j) else if ge w.1 x = true then (setW w.1 x true, era w.2 j ++ [((x : Int), (f : Int), true, ())]) else (w.1.set x (true, true, (f : Int), go w.1 x, ()), era w.2 j) := by
      unfold delL; rw [hm]; rfl
    rw [e0]
    cases b with
    | true =>
      rw [if_pos rfl]
      exact deliver_ack h0 hj (by omega) hx hm ho rfl
    | false =>
      rw [if_neg (by decide)]
      cases hg : ge w.1 x with
      | true =>
        rw [if_pos rfl]
        exact deliver_eng h0 hj (by omega) hx hm hg
      | false =>
        rw [if_neg (by decide)]
        exact deliver_new h0 hj (by omega) hx hm hg
end Go.Proofs.Ytkjcnegkdlmapaa
namespace Go.Proofs.Ytkjcnegkdlmapaa
open Go Go.Vc Go.Rg
set_option linter.unusedVariables false
set_option linter.unusedSimpArgs false
variable {n : Nat} {pet : Bool} {r : Rn}
set_option maxHeartbeats 4000000 in
theorem rdel_ok_c {i : Nat} (h : ROk n false r) (hi : i < n) (hs : r.2.2 ≤ 900000) (h0 : (r.2.1.getD i []).length ≠ 0) : FnM Try.prog 33 [.padr 1000000000 0, (.lit (.int .i64 (i : Int)))] [(1000000000, .box [.lit (.bool true), .lit (.bool false), .own 1000000001, .mown 5, (.lit (.int .i64 ((r).2.2 : Int)))]), (1000000001, .row 105 PT true (r).1), (5, .mat 80 91 NT true (r).2.1 none)] (.lit (.int .i64 (0 : Int))) [(1000000000, .box [.lit (.bool true), .lit (.bool false), .own 1000000001, .mown 5, (.lit (.int .i64 (((rdelL false i r)).2.2 : Int)))]), (1000000001, .row 105 PT true ((rdelL false i r)).1), (5, .mat 80 91 NT true ((rdelL false i r)).2.1 none)] := by
  have hs0 := h.s0
  have hp : i < r.1.length := by rw [h.len]; exact hi
  have hF : i < r.2.1.length := by rw [h.fln]; exact hi
  have hd := h.drop hi
  have hn0 := h.n0
  have hn1 := h.n1
  have hj : (i + 1) % n < n := Nat.mod_lt _ hn0
  obtain ⟨F2, hF2⟩ : ∃ F2, F2 = r.2.1.set i ((r.2.1.getD i []).drop 1) := ⟨_, rfl⟩
  obtain ⟨k, hk⟩ : ∃ k, k = ((r.2.1.getD i []).getD 0 N0).1 := ⟨_, rfl⟩
  obtain ⟨v, hv⟩ : ∃ v, v = ((r.2.1.getD i []).getD 0 N0).2.1 := ⟨_, rfl⟩
  have eL : rdelL false i r = changR ((i + 1) % n) k v (r.1, F2, r.2.2) := by unfold rdelL recvR; rw [h.len, ← hk, ← hv, ← hF2]; rfl
  rw [eL]
  have c1 := ris_at (pet := false) (r := r)
  have c2 := rhas_at (pet := false) (r := r) (has_of hp).symm
  have c3 := chang_at (pet := false) (r := (r.1, F2, r.2.2)) (i := (i + 1) % n) (k := k) (v := v) (by show _ < r.1.length; rw [h.len]; exact hj) (by rw [hF2]; show _ < (List.set _ _ _).length; rw [List.length_set, h.fln]; exact hj) (by rw [hF2]; exact hd.fl _) (by dsimp only; omega)
  have hl : @List.length PT.T r.1 = n := h.len
  have em : ((i : Int) + 1).tmod (n : Int) = (((i + 1) % n : Nat) : Int) := by
    rw [show (i : Int) + 1 = ((i + 1 : Nat) : Int) by omega]; exact (Int.ofNat_tmod _ _).symm
  have em' : ((i : Int) + 1).tmod (r.1.length : Int) = (((i + 1) % n : Nat) : Int) := by rw [h.len]; exact em
  have e0 : 0 ≤ (i : Int) ∧ i < r.2.1.length := ⟨by omega, hF⟩
  have e1 : 0 ≤ (0 : Int) ∧ 0 < (r.2.1.getD i []).length := ⟨by omega, by omega⟩
  have e2 : 0 ≤ (0 : Int) ∧ (0 : Int) < 1 ∧ (1 : Int).toNat ≤ (r.2.1.getD i []).length ∧ (r.2.1.getD i []).length ≤ 4294967296 := by
    have := h.fl i
    exact ⟨by omega, by omega, by show 1 ≤ _; omega, by omega⟩
  have e9 : (r.2.1.getD i []).length ≤ 4294967296 := e2.2.2.2
  have e3 : i < (r.2.1.set i ((r.2.1.getD i []).take 0 ++ (r.2.1.getD i []).drop 1)).length := by rw [List.length_set]; exact hF
  have e4 : 0 ≤ (i : Int) ∧ i < (r.2.1.set i ((r.2.1.getD i []).take 0 ++ (r.2.1.getD i []).drop 1)).length := ⟨by omega, e3⟩
  have e5 : r.2.1.set i ((r.2.1.getD i []).take 0 ++ (r.2.1.getD i []).drop 1) = F2 := by rw [hF2]; rfl
  have e6 : ((r.2.1.getD i []).getD 0 N0).1 = k := hk.symm
  have e7 : ((r.2.1.getD i []).getD 0 N0).2.1 = v := hv.symm
  have e8 : ¬ @List.length NT.T (@List.getD (List NT.T) r.2.1 i []) = 0 := h0
  refine FnM.of_body tys_ok Try.func33 (by rfl) rfl Try.ntmps33 (by rw [Try.results33]) (by simp) ?_
  
  repeat' (first
 | refine W.seq ?_
 | refine W.block ?_
 | (refine W.regionM (id := 1) tys_ok [] [1] ?_; conv => whnf)
 | (refine W.regionM (id := 3) tys_ok [] [2] ?_; conv => whnf)
 | (refine W.resub (x := Code.region 8 _ _) (Γ' := ⟨[(0, .padr 1000000000 0), (1, (.lit (.int .i64 (i : Int)))), (5, .padr 6000 0)], [(1000000000, .box [.lit (.bool true), .lit (.bool false), .own 1000000001, .mown 5, (.lit (.int .i64 ((r).2.2 : Int)))]), (1000000001, .row 105 PT true (r).1), (5, .mat 80 91 NT true (r).2.1 none), (6000, .box [(.lit (.int .i64 (k : Int))), (.lit (.int .i64 (v : Int)))])]⟩) ?_ ?_; rotate_left; refine W.drawMTo (id := 8) tys_ok [] [12] mixed [0, 1, 2, 4, 0, 0, 32, 64, 128, 0, 768, 1024, 2048, 8191, 16383] [([0, 1, 2, 4, 5, 6, 7, 9], 5, 8191), ([13], 1, 32767)] ⟨[(0, .padr 1000000000 0), (1, (.lit (.int .i64 (i : Int)))), (5, .padr 6000 0)], [(1000000000, .box [.lit (.bool true), .lit (.bool false), .own 1000000001, .mown 5, (.lit (.int .i64 (((r.1, F2, r.2.2)).2.2 : Int)))]), (1000000001, .row 105 PT true ((r.1, F2, r.2.2)).1), (5, .mat 80 91 NT true ((r.1, F2, r.2.2)).2.1 none), (6000, .box [(.lit (.int .i64 (k : Int))), (.lit (.int .i64 (v : Int)))])]⟩ (by decide +kernel) ?_ ?_; (conv => whnf); rotate_left; (conv => whnf))
 | (refine W.resub (x := Code.region 12 _ _) (Γ' := ⟨[(0, .padr 1000000000 0), (1, (.lit (.int .i64 (i : Int)))), (5, .padr 6000 0), (6, .fn 1000066 [.padr 1000000000 0])], [(1000000000, .box [.lit (.bool true), .lit (.bool false), .own 1000000001, .mown 5, (.lit (.int .i64 (((r.1, F2, r.2.2)).2.2 : Int)))]), (1000000001, .row 105 PT true ((r.1, F2, r.2.2)).1), (5, .mat 80 91 NT true ((r.1, F2, r.2.2)).2.1 none), (6000, .box [(.lit (.int .i64 (k : Int))), (.lit (.int .i64 (v : Int)))])]⟩) ?_ (W.drawM (id := 12) tys_ok [] [10] mixed [0, 0, 2, 0, 8, 16, 32, 64, 132, 0, 769] [([0, 1, 2, 3, 4, 5], 4, 1023), ([], 1, 2047)] (by decide +kernel) ?_); rotate_left; (conv => whnf))
 | (refine W.region tys_ok [] ?_; conv => whnf)
 | (refine W.drawAll tys_ok [] mixed rfl ?_; conv => whnf)
 | (refine W.ret ?_; conv => whnf)
 | (refine W.skip ?_; conv => whnf)
 | (refine W.exit ?_; conv => whnf)
 | (refine callM_at (c1) ?_; conv => whnf)
 | (refine callM_at (c2) ?_; conv => whnf)
 | (refine callM_at (c3) ?_; conv => whnf)
 | (refine And.intro del_note ?_; (conv => whnf))
 | (refine Both.mk ?_ ?_ <;> (conv => whnf))
 | (refine W.cond rfl (fun hb => ?_) (fun hb => ?_) <;> (try simp only [Int.reduceToNat, Int.reduceTDiv, Int.reduceTMod, minL, maxL, pickB, zHB, zSH] at hb) <;> (try (first | (cases hb; done) | exact absurd hb (by decide) | (exfalso; omega) | (omega) | ((simp_all; done)))))
 | (refine Or.inl (And.intro ?_ ?_); (focus (first | exact trivial | exact ⟨rfl, trivial⟩ | (refine ⟨?_, trivial⟩; dsimp only; simp only [Int.reduceToNat, Int.reduceTDiv, Int.reduceTMod, minL, maxL, pickB, zHB, zSH]; omega) | (refine ⟨?_, trivial⟩; dsimp only; (try simp only [Int.reduceToNat, Int.reduceTDiv, Int.reduceTMod, minL, maxL, pickB, zHB, zSH]); (simp_all; done)) | (refine ⟨?_, trivial⟩; dsimp only; (simp only [Int.reduceToNat, Int.reduceTDiv, Int.reduceTMod, minL, maxL, pickB, zHB, zSH]; done)) | (refine ⟨?_, trivial⟩; dsimp only; (simp; done)))); (conv => whnf))
 | (refine Or.inr (And.intro ?_ ?_); (focus (intro h; have h := h.1; dsimp only at h; first | (exact Bool.noConfusion h) | (simp only [Int.reduceToNat, Int.reduceTDiv, Int.reduceTMod, minL, maxL, pickB, zHB, zSH] at h; omega) | ((try simp only [Int.reduceToNat, Int.reduceTDiv, Int.reduceTMod, minL, maxL, pickB, zHB, zSH] at h); (simp_all; done)))); (conv => whnf))
 | ((with_reducible refine And.intro ?_ ?_); (focus (first | (with_reducible rfl) | omega | rfl | ((try simp only [Int.reduceToNat, Int.reduceTDiv, Int.reduceTMod, minL, maxL, pickB, zHB, zSH, InK, Path.imp, zL] at *); omega))); (conv => whnf))
 | ((with_reducible refine And.intro (Side.out ?_) ?_); rotate_left; (conv => whnf))
 | ((first | refine retM1 ?_ | refine retM2 ?_ | refine subF.leaf ?_ | refine subF.side ?_) <;> (conv => whnf) <;> repeat' (first
 | exact trivial
 | (with_reducible rfl)
 | ((with_reducible refine And.intro ?_ ?_) <;> conv => whnf)
 | omega
 | rfl
 | (refine congrArg (SV.arr _) ?_)
 | (refine congrArg (Value.int _) ?_)
 | (refine congrArg Value.bool ?_)))); all_goals (try unfold Side)
  all_goals try (repeat' (first | (with_reducible rfl) | (with_reducible refine And.intro ?_ ?_) | omega | rfl | exact Or.inl rfl | exact Or.inr rfl | exact of_decide_eq_true rfl | exact Path.imp_of (of_decide_eq_true rfl) | (focus ((try simp only [Int.reduceToNat, Int.reduceTDiv, Int.reduceTMod, minL, maxL, pickB, zHB, zSH, InK, Path.imp, zL] at *); omega)) | (refine app_le rfl ?_; omega)))
  all_goals first | exact e9 | exact hF | exact e3 | exact e5 | exact e6 | exact e7 | exact em | exact em' | exact Path.imp_of hF | exact Path.imp_of e0 | exact Path.imp_of e1 | exact e2 | exact Path.imp_of e4 | skip
set_option maxHeartbeats 4000000 in
theorem rdel_ok_p {i : Nat} (h : ROk n true r) (hi : i < n) (hs : r.2.2 ≤ 900000) (h0 : (r.2.1.getD i []).length ≠ 0) : FnM Try.prog 33 [.padr 1000000000 0, (.lit (.int .i64 (i : Int)))] [(1000000000, .box [.lit (.bool true), .lit (.bool true), .own 1000000001, .mown 5, (.lit (.int .i64 ((r).2.2 : Int)))]), (1000000001, .row 105 PT true (r).1), (5, .mat 80 91 NT true (r).2.1 none)] (.lit (.int .i64 (0 : Int))) [(1000000000, .box [.lit (.bool true), .lit (.bool true), .own 1000000001, .mown 5, (.lit (.int .i64 (((rdelL true i r)).2.2 : Int)))]), (1000000001, .row 105 PT true ((rdelL true i r)).1), (5, .mat 80 91 NT true ((rdelL true i r)).2.1 none)] := by
  have hs0 := h.s0
  have hp : i < r.1.length := by rw [h.len]; exact hi
  have hF : i < r.2.1.length := by rw [h.fln]; exact hi
  have hd := h.drop hi
  have hn0 := h.n0
  have hn1 := h.n1
  have hj : (i + 1) % n < n := Nat.mod_lt _ hn0
  obtain ⟨F2, hF2⟩ : ∃ F2, F2 = r.2.1.set i ((r.2.1.getD i []).drop 1) := ⟨_, rfl⟩
  obtain ⟨k, hk⟩ : ∃ k, k = ((r.2.1.getD i []).getD 0 N0).1 := ⟨_, rfl⟩
  obtain ⟨v, hv⟩ : ∃ v, v = ((r.2.1.getD i []).getD 0 N0).2.1 := ⟨_, rfl⟩
  have eL : rdelL true i r = peterR ((i + 1) % n) k v (r.1, F2, r.2.2) := by unfold rdelL recvR; rw [h.len, ← hk, ← hv, ← hF2]; rfl
  rw [eL]
  have c1 := ris_at (pet := true) (r := r)
  have c2 := rhas_at (pet := true) (r := r) (has_of hp).symm
  have c3 := peter_at (pet := true) (r := (r.1, F2, r.2.2)) (i := (i + 1) % n) (k := k) (v := v) (by show _ < r.1.length; rw [h.len]; exact hj) (by rw [hF2]; show _ < (List.set _ _ _).length; rw [List.length_set, h.fln]; exact hj) (by rw [hF2]; exact hd.fl _) (by dsimp only; omega)
  have hl : @List.length PT.T r.1 = n := h.len
  have em : ((i : Int) + 1).tmod (n : Int) = (((i + 1) % n : Nat) : Int) := by
    rw [show (i : Int) + 1 = ((i + 1 : Nat) : Int) by omega]; exact (Int.ofNat_tmod _ _).symm
  have em' : ((i : Int) + 1).tmod (r.1.length : Int) = (((i + 1) % n : Nat) : Int) := by rw [h.len]; exact em
  have e0 : 0 ≤ (i : Int) ∧ i < r.2.1.length := ⟨by omega, hF⟩
  have e1 : 0 ≤ (0 : Int) ∧ 0 < (r.2.1.getD i []).length := ⟨by omega, by omega⟩
  have e2 : 0 ≤ (0 : Int) ∧ (0 : Int) < 1 ∧ (1 : Int).toNat ≤ (r.2.1.getD i []).length ∧ (r.2.1.getD i []).length ≤ 4294967296 := by
    have := h.fl i
    exact ⟨by omega, by omega, by show 1 ≤ _; omega, by omega⟩
  have e9 : (r.2.1.getD i []).length ≤ 4294967296 := e2.2.2.2
  have e3 : i < (r.2.1.set i ((r.2.1.getD i []).take 0 ++ (r.2.1.getD i []).drop 1)).length := by rw [List.length_set]; exact hF
  have e4 : 0 ≤ (i : Int) ∧ i < (r.2.1.set i ((r.2.1.getD i []).take 0 ++ (r.2.1.getD i []).drop 1)).length := ⟨by omega, e3⟩
  have e5 : r.2.1.set i ((r.2.1.getD i []).take 0 ++ (r.2.1.getD i []).drop 1) = F2 := by rw [hF2]; rfl
  have e6 : ((r.2.1.getD i []).getD 0 N0).1 = k := hk.symm
  have e7 : ((r.2.1.getD i []).getD 0 N0).2.1 = v := hv.symm
  have e8 : ¬ @List.length NT.T (@List.getD (List NT.T) r.2.1 i []) = 0 := h0
  refine FnM.of_body tys_ok Try.func33 (by rfl) rfl Try.ntmps33 (by rw [Try.results33]) (by simp) ?_
  
  repeat' (first
 | refine W.seq ?_
 | refine W.block ?_
 | (refine W.regionM (id := 1) tys_ok [] [1] ?_; conv => whnf)
 | (refine W.regionM (id := 3) tys_ok [] [2] ?_; conv => whnf)
 | (refine W.resub (x := Code.region 8 _ _) (Γ' := ⟨[(0, .padr 1000000000 0), (1, (.lit (.int .i64 (i : Int)))), (5, .padr 6000 0)], [(1000000000, .box [.lit (.bool true), .lit (.bool true), .own 1000000001, .mown 5, (.lit (.int .i64 ((r).2.2 : Int)))]), (1000000001, .row 105 PT true (r).1), (5, .mat 80 91 NT true (r).2.1 none), (6000, .box [(.lit (.int .i64 (k : Int))), (.lit (.int .i64 (v : Int)))])]⟩) ?_ ?_; rotate_left; refine W.drawMTo (id := 8) tys_ok [] [12] mixed [0, 1, 2, 4, 0, 0, 32, 64, 128, 0, 768, 1024, 2048, 8191, 16383] [([0, 1, 2, 4, 5, 6, 7, 9], 5, 8191), ([13], 1, 32767)] ⟨[(0, .padr 1000000000 0), (1, (.lit (.int .i64 (i : Int)))), (5, .padr 6000 0)], [(1000000000, .box [.lit (.bool true), .lit (.bool true), .own 1000000001, .mown 5, (.lit (.int .i64 (((r.1, F2, r.2.2)).2.2 : Int)))]), (1000000001, .row 105 PT true ((r.1, F2, r.2.2)).1), (5, .mat 80 91 NT true ((r.1, F2, r.2.2)).2.1 none), (6000, .box [(.lit (.int .i64 (k : Int))), (.lit (.int .i64 (v : Int)))])]⟩ (by decide +kernel) ?_ ?_; (conv => whnf); rotate_left; (conv => whnf))
 | (refine W.resub (x := Code.region 12 _ _) (Γ' := ⟨[(0, .padr 1000000000 0), (1, (.lit (.int .i64 (i : Int)))), (5, .padr 6000 0), (6, .fn 1000067 [.padr 1000000000 0])], [(1000000000, .box [.lit (.bool true), .lit (.bool true), .own 1000000001, .mown 5, (.lit (.int .i64 (((r.1, F2, r.2.2)).2.2 : Int)))]), (1000000001, .row 105 PT true ((r.1, F2, r.2.2)).1), (5, .mat 80 91 NT true ((r.1, F2, r.2.2)).2.1 none), (6000, .box [(.lit (.int .i64 (k : Int))), (.lit (.int .i64 (v : Int)))])]⟩) ?_ (W.drawM (id := 12) tys_ok [] [10] mixed [0, 0, 2, 0, 8, 16, 32, 64, 132, 0, 769] [([0, 1, 2, 3, 4, 5], 4, 1023), ([], 1, 2047)] (by decide +kernel) ?_); rotate_left; (conv => whnf))
 | (refine W.region tys_ok [] ?_; conv => whnf)
 | (refine W.drawAll tys_ok [] mixed rfl ?_; conv => whnf)
 | (refine W.ret ?_; conv => whnf)
 | (refine W.skip ?_; conv => whnf)
 | (refine W.exit ?_; conv => whnf)
 | (refine callM_at (c1) ?_; conv => whnf)
 | (refine callM_at (c2) ?_; conv => whnf)
 | (refine callM_at (c3) ?_; conv => whnf)
 | (refine And.intro del_note ?_; (conv => whnf))
 | (refine Both.mk ?_ ?_ <;> (conv => whnf))
 | (refine W.cond rfl (fun hb => ?_) (fun hb => ?_) <;> (try simp only [Int.reduceToNat, Int.reduceTDiv, Int.reduceTMod, minL, maxL, pickB, zHB, zSH] at hb) <;> (try (first | (cases hb; done) | exact absurd hb (by decide) | (exfalso; omega) | (omega) | ((simp_all; done)))))
 | (refine Or.inl (And.intro ?_ ?_); (focus (first | exact trivial | exact ⟨rfl, trivial⟩ | (refine ⟨?_, trivial⟩; dsimp only; simp only [Int.reduceToNat, Int.reduceTDiv, Int.reduceTMod, minL, maxL, pickB, zHB, zSH]; omega) | (refine ⟨?_, trivial⟩; dsimp only; (try simp only [Int.reduceToNat, Int.reduceTDiv, Int.reduceTMod, minL, maxL, pickB, zHB, zSH]); (simp_all; done)) | (refine ⟨?_, trivial⟩; dsimp only; (simp only [Int.reduceToNat, Int.reduceTDiv, Int.reduceTMod, minL, maxL, pickB, zHB, zSH]; done)) | (refine ⟨?_, trivial⟩; dsimp only; (simp; done)))); (conv => whnf))
 | (refine Or.inr (And.intro ?_ ?_); (focus (intro h; have h := h.1; dsimp only at h; first | (exact Bool.noConfusion h) | (simp only [Int.reduceToNat, Int.reduceTDiv, Int.reduceTMod, minL, maxL, pickB, zHB, zSH] at h; omega) | ((try simp only [Int.reduceToNat, Int.reduceTDiv, Int.reduceTMod, minL, maxL, pickB, zHB, zSH] at h); (simp_all; done)))); (conv => whnf))
 | ((with_reducible refine And.intro ?_ ?_); (focus (first | (with_reducible rfl) | omega | rfl | ((try simp only [Int.reduceToNat, Int.reduceTDiv, Int.reduceTMod, minL, maxL, pickB, zHB, zSH, InK, Path.imp, zL] at *); omega))); (conv => whnf))
 | ((with_reducible refine And.intro (Side.out ?_) ?_); rotate_left; (conv => whnf))
 | ((first | refine retM1 ?_ | refine retM2 ?_ | refine subF.leaf ?_ | refine subF.side ?_) <;> (conv => whnf) <;> repeat' (first
 | exact trivial
 | (with_reducible rfl)
 | ((with_reducible refine And.intro ?_ ?_) <;> conv => whnf)
 | omega
 | rfl
 | (refine congrArg (SV.arr _) ?_)
 | (refine congrArg (Value.int _) ?_)
 | (refine congrArg Value.bool ?_)))); all_goals (try unfold Side)
  all_goals try (repeat' (first | (with_reducible rfl) | (with_reducible refine And.intro ?_ ?_) | omega | rfl | exact Or.inl rfl | exact Or.inr rfl | exact of_decide_eq_true rfl | exact Path.imp_of (of_decide_eq_true rfl) | (focus ((try simp only [Int.reduceToNat, Int.reduceTDiv, Int.reduceTMod, minL, maxL, pickB, zHB, zSH, InK, Path.imp, zL] at *); omega)) | (refine app_le rfl ?_; omega)))
  all_goals first | exact e9 | exact hF | exact e3 | exact e5 | exact e6 | exact e7 | exact em | exact em' | exact Path.imp_of hF | exact Path.imp_of e0 | exact Path.imp_of e1 | exact e2 | exact Path.imp_of e4 | skip
end Go.Proofs.Ytkjcnegkdlmapaa
namespace Go.Proofs.Ytkjcnegkdlmapaa
open Go Go.Vc Go.Rg
set_option linter.unusedVariables false
set_option linter.unusedSimpArgs false
variable {n : Nat} {pet : Bool} {r r2 : Rn} {e : Int}
theorem start_ring {i : Int} (h : ROk n pet r) (hs : r.2.2 ≤ 900000) (he : startE i r = e) (hr : startK i r = r2) : FnM Try.prog 30 [.padr 1000000000 0, (.lit (.int .i64 (i : Int)))] [(1000000000, .box [.lit (.bool true), .lit (.bool pet), .own 1000000001, .mown 5, (.lit (.int .i64 ((r).2.2 : Int)))]), (1000000001, .row 105 PT true (r).1), (5, .mat 80 91 NT true (r).2.1 none)] (.lit (.int .i64 (e : Int))) [(1000000000, .box [.lit (.bool true), .lit (.bool pet), .own 1000000001, .mown 5, (.lit (.int .i64 ((r2).2.2 : Int)))]), (1000000001, .row 105 PT true (r2).1), (5, .mat 80 91 NT true (r2).2.1 none)] := by
  have hs0 := h.s0
  unfold startK at hr
  rw [he] at hr
  unfold startE at he
  split at he
  · rename_i h1
    obtain ⟨j, rfl, hj⟩ := has_nat h1
    rw [Int.toNat_natCast] at he hr
    split at he
    · rename_i h2
      subst he
      rw [if_neg (by decide)] at hr
      subst hr
      exact start_none hj h2
    · rename_i h2
      subst he
      rw [if_pos rfl] at hr
      subst hr
      exact start_ok hj (by rw [h.fln, ← h.len]; exact hj) (h.fl j) (by omega) (by simpa using h2)
  · rename_i h1
    subst he
    rw [if_neg (by decide)] at hr
    subst hr
    exact start_arg (by simpa using h1)
theorem deliver_ring {i : Int} (h : ROk n pet r) (hs : r.2.2 ≤ 900000) (he : rdelE i r = e) (hr : rdelK pet i r = r2) : FnM Try.prog 33 [.padr 1000000000 0, (.lit (.int .i64 (i : Int)))] [(1000000000, .box [.lit (.bool true), .lit (.bool pet), .own 1000000001, .mown 5, (.lit (.int .i64 ((r).2.2 : Int)))]), (1000000001, .row 105 PT true (r).1), (5, .mat 80 91 NT true (r).2.1 none)] (.lit (.int .i64 (e : Int))) [(1000000000, .box [.lit (.bool true), .lit (.bool pet), .own 1000000001, .mown 5, (.lit (.int .i64 ((r2).2.2 : Int)))]), (1000000001, .row 105 PT true (r2).1), (5, .mat 80 91 NT true (r2).2.1 none)] := by
  have hs0 := h.s0
  unfold rdelK at hr
  rw [he] at hr
  unfold rdelE at he
  split at he
  · rename_i h1
    obtain ⟨j, rfl, hj⟩ := has_nat h1
    rw [Int.toNat_natCast] at he hr
    split at he
    · rename_i h2
      subst he
      rw [if_neg (by decide)] at hr
      subst hr
      exact rdel_none hj (by rw [h.fln, ← h.len]; exact hj) h2
    · rename_i h2
      subst he
      rw [if_pos rfl] at hr
      subst hr
      have hjn : j < n := by rw [← h.len]; exact hj
      cases pet with
      | false => exact rdel_ok_c h hjn hs h2
      | true => exact rdel_ok_p h hjn hs h2
  · rename_i h1
    subst he
    rw [if_neg (by decide)] at hr
    subst hr
    exact rdel_arg (by simpa using h1)
end Go.Proofs.Ytkjcnegkdlmapaa
namespace Go.Proofs.Ytkjcnegkdlmapaa
open Go Go.Vc Go.Rg
set_option linter.unusedVariables false
set_option linter.unusedSimpArgs false
def lr0 : Rn := rnew [7]
def lr1 : Rn := startK 0 lr0
def lr2 : Rn := rdelK true 0 lr1
def lr3 : Rn := rdelK true 0 lr2
def lw0 : Wk := begL 2
def lw1 : Wk := sendK 0 1 lw0
def lw2 : Wk := idleK 0 lw1
def lw3 : Wk := delK 0 lw2
def lw4 : Wk := idleK 1 lw3
def lw5 : Wk := delK 0 lw4
theorem lr0_ok : ROk 1 true lr0 := ROk.new (xs := [7]) (by decide) (by decide)
theorem lw0_ok : WOk 2 lw0 := WOk.beg (by decide) (by decide)
theorem s0 : startE 0 lr0 = 0 := by decide
theorem s1 : rdelE 0 lr1 = 0 := by decide
theorem s2 : rdelE 0 lr2 = 0 := by decide
theorem s3 : pL lr2.1 0 = 7 ∧ lr2.1.length = 1 := by decide
theorem s4 : lr3.2.2 = 2 := by decide
theorem q0 : sendE 0 1 lw0 = 0 := by decide
theorem q1 : idleE 0 lw1 = 0 := by decide
theorem q2 : endB lw2 = false := by decide
theorem q3 : delE 0 lw2 = 0 := by decide
theorem q4 : gp lw3.1 1 = 0 ∧ lw3.1.length = 2 := by decide
theorem q5 : idleE 1 lw3 = 0 := by decide
theorem q6 : delE 0 lw4 = 0 := by decide
theorem q7 : endB lw5 = true := by decide
theorem seven : ∀ i, i < [(7 : Int)].length → goodAt [7] i := fun i hi => by
  match i, hi with
  | 0, _ => exact ⟨by decide, by decide, by simp⟩
set_option maxHeartbeats 16000000 in
theorem lives_at : FnAt Try.prog false 16 [] (.lit (.bool true)) [] := by
  have k1 := lr0_ok.start (i := 0)
  have k2 := k1.del (i := 0)
  have t0 : lr0.2.2 ≤ 900000 := by decide
  have t1 : lr1.2.2 ≤ 900000 := by decide
  have t2 : lr2.2.2 ≤ 900000 := by decide
  have c0 := new_ok (xs := [7]) (pet := true) (by decide) (by decide) seven
  have c1 := start_ring (i := 0) (r2 := lr1) lr0_ok t0 s0 rfl
  have c2 := deliver_ring (i := 0) (r2 := lr2) k1 t1 s1 rfl
  have c3 := leader_in (pet := true) (r := lr2) (i := 0) (by rw [s3.2]; decide)
  rw [s3.1] at c3
  have c4 := deliver_ring (i := 0) (r2 := lr3) k2 t2 s2 rfl
  have c5 := sent_at (pet := true) (r := lr3)
  rw [s4] at c5
  have m1 := lw0_ok.send (a := 0) (b := 1)
  have m2 := m1.idle (i := 0)
  have m3 := m2.del (k := 0)
  have m4 := m3.idle (i := 1)
  have m5 := m4.del (k := 0)
  have d0 := begin_at (n := 2) (by decide) (by decide)
  have d1 := send_at (a := 0) (b := 1) (w2 := lw1) lw0_ok q0 rfl
  have d2 := idle_at (i := 0) (w2 := lw2) m1 q1 rfl
  have d3 := ended_at (hs := lw2.1) (fl := lw2.2) (b := false) (by rw [show lw2.1.length = 2 from m2.len]; decide) q2.symm
  have d4 := deliver_at (k := 0) (w2 := lw3) m2 q3 rfl
  have d5 := parent_in (hs := lw3.1) (fl := lw3.2) (i := 1) (by rw [q4.2]; decide)
  rw [q4.1] at d5
  have d6 := idle_at (i := 1) (w2 := lw4) m3 q5 rfl
  have d7 := deliver_at (k := 0) (w2 := lw5) m4 q6 rfl
  have d8 := ended_at (hs := lw5.1) (fl := lw5.2) (b := true) (by rw [show lw5.1.length = 2 from m5.len]; decide) q7.symm
  refine FnAt.of_body tys_ok Try.func16 (by rfl) rfl Try.ntmps16 (by rw [Try.results16]) (by simp) ?_
  
  repeat' (first
 | refine W.seq ?_
 | refine W.block ?_
 | (refine W.regionM (id := 1) tys_ok [6] [1] ?_; conv => whnf)
 | (refine W.regW (id := 2) ?_; refine RegW.cut tys_ok [6] [8,13,18,23,28,33,38] 0 ⟨[(1, .padr 8000 0), (2, (.lit (.int .i64 (0 : Int))))], [(8000, .box [.lit (.bool true), .lit (.bool true), .own 8001, .mown 8002, (.lit (.int .i64 ((lr0).2.2 : Int)))]), (8001, .row 105 PT true (lr0).1), (8002, .mat 80 91 NT true (lr0).2.1 none)]⟩ rfl ?_ ?_; (conv => whnf); rotate_left; refine RegW.cut tys_ok [6] [8,13,18,23,28,33,38] 11 ⟨[(1, .padr 8000 0), (20, .lit (.bool false))], [(8000, .box [.lit (.bool true), .lit (.bool true), .own 8001, .mown 8002, (.lit (.int .i64 ((lr1).2.2 : Int)))]), (8001, .row 105 PT true (lr1).1), (8002, .mat 80 91 NT true (lr1).2.1 none)]⟩ rfl ?_ ?_; (conv => whnf); rotate_left; refine RegW.cut tys_ok [6] [8,13,18,23,28,33,38] 16 ⟨[(1, .padr 8000 0), (25, .lit (.bool false))], [(8000, .box [.lit (.bool true), .lit (.bool true), .own 8001, .mown 8002, (.lit (.int .i64 ((lr2).2.2 : Int)))]), (8001, .row 105 PT true (lr2).1), (8002, .mat 80 91 NT true (lr2).2.1 none)]⟩ rfl ?_ ?_; (conv => whnf); rotate_left; refine RegW.cut tys_ok [6] [8,13,18,23,28,33,38] 21 ⟨[(1, .padr 8000 0), (30, .lit (.bool false))], [(8000, .box [.lit (.bool true), .lit (.bool true), .own 8001, .mown 8002, (.lit (.int .i64 ((lr2).2.2 : Int)))]), (8001, .row 105 PT true (lr2).1), (8002, .mat 80 91 NT true (lr2).2.1 none)]⟩ rfl ?_ ?_; (conv => whnf); rotate_left; refine RegW.cut tys_ok [6] [8,13,18,23,28,33,38] 26 ⟨[(1, .padr 8000 0), (35, .lit (.bool false))], [(8000, .box [.lit (.bool true), .lit (.bool true), .own 8001, .mown 8002, (.lit (.int .i64 ((lr3).2.2 : Int)))]), (8001, .row 105 PT true (lr3).1), (8002, .mat 80 91 NT true (lr3).2.1 none)]⟩ rfl ?_ ?_; (conv => whnf); rotate_left; refine RegW.fin tys_ok [6] [8,13,18,23,28,33,38] ?_; (conv => whnf))
 | (refine W.region tys_ok [6] ?_; conv => whnf)
 | (refine W.drawAll tys_ok [6] mixed rfl ?_; conv => whnf)
 | (refine W.ret ?_; conv => whnf)
 | (refine W.skip ?_; conv => whnf)
 | (refine W.exit ?_; conv => whnf)
 | (refine callM_at (c0) ?_; conv => whnf)
 | (refine Both.mk ?_ ?_ <;> (conv => whnf))
 | (refine W.cond rfl (fun hb => ?_) (fun hb => ?_) <;> (try simp only [Int.reduceToNat, Int.reduceTDiv, Int.reduceTMod, minL, maxL, pickB, zHB, zSH] at hb) <;> (try (first | (cases hb; done) | exact absurd hb (by decide) | (exfalso; omega) | (omega))))
 | (refine Or.inl (And.intro ?_ ?_); (focus (first | exact trivial | exact ⟨rfl, trivial⟩ | (refine ⟨?_, trivial⟩; dsimp only; simp only [Int.reduceToNat, Int.reduceTDiv, Int.reduceTMod, minL, maxL, pickB, zHB, zSH]; omega) | (refine ⟨?_, trivial⟩; dsimp only; (try simp only [Int.reduceToNat, Int.reduceTDiv, Int.reduceTMod, minL, maxL, pickB, zHB, zSH]); (simp_all; done)) | (refine ⟨?_, trivial⟩; dsimp only; (simp only [Int.reduceToNat, Int.reduceTDiv, Int.reduceTMod, minL, maxL, pickB, zHB, zSH]; done)) | (refine ⟨?_, trivial⟩; dsimp only; (simp; done)))); (conv => whnf))
 | (refine Or.inr (And.intro ?_ ?_); (focus (intro h; have h := h.1; dsimp only at h; first | (exact Bool.noConfusion h) | (simp only [Int.reduceToNat, Int.reduceTDiv, Int.reduceTMod, minL, maxL, pickB, zHB, zSH] at h; omega) | ((try simp only [Int.reduceToNat, Int.reduceTDiv, Int.reduceTMod, minL, maxL, pickB, zHB, zSH] at h); (simp_all; done)))); (conv => whnf))
 | ((with_reducible refine And.intro ?_ ?_); (focus (first | (with_reducible rfl) | omega | rfl | ((try simp only [Int.reduceToNat, Int.reduceTDiv, Int.reduceTMod, minL, maxL, pickB, zHB, zSH, InK, Path.imp, zL] at *); omega))); (conv => whnf))
 | ((with_reducible refine And.intro (Side.out ?_) ?_); rotate_left; (conv => whnf))
 | ((first | refine retF1 ?_ | refine retF2 ?_ | refine subF.leaf ?_ | refine subF.side ?_) <;> (conv => whnf) <;> repeat' (first
 | exact trivial
 | (with_reducible rfl)
 | ((with_reducible refine And.intro ?_ ?_) <;> conv => whnf)
 | omega
 | rfl
 | (refine congrArg (SV.arr _) ?_)
 | (refine congrArg (Value.int _) ?_)
 | (refine congrArg Value.bool ?_)))); all_goals (try unfold Side)
  all_goals try (repeat' (first | (with_reducible rfl) | (with_reducible refine And.intro ?_ ?_) | omega | rfl | exact Or.inl rfl | exact Or.inr rfl | exact of_decide_eq_true rfl | exact Path.imp_of (of_decide_eq_true rfl) | (focus ((try simp only [Int.reduceToNat, Int.reduceTDiv, Int.reduceTMod, minL, maxL, pickB, zHB, zSH, InK, Path.imp, zL] at *); omega)) | (refine app_le rfl ?_; omega)))
  · repeat' (first
 | refine W.seq ?_
 | refine W.block ?_
 | (refine W.regW (id := 999) ?_; refine RegW.cut tys_ok [] [1] 8 ⟨[(1, .padr 8000 0), (2, (.lit (.int .i64 (0 : Int))))], [(8000, .box [.lit (.bool true), .lit (.bool true), .own 8001, .mown 8002, (.lit (.int .i64 ((lr0).2.2 : Int)))]), (8001, .row 105 PT true (lr0).1), (8002, .mat 80 91 NT true (lr0).2.1 none)]⟩ rfl ?_ ?_; (conv => whnf); rotate_left; refine RegW.fin tys_ok [] [1] ?_; (conv => whnf))
 | (refine W.regionM (id := 4) tys_ok [] [0] ?_; conv => whnf)
 | (refine W.regW (id := 5) ?_; refine RegW.cut tys_ok [] [8,13,18,23,28,33,38,43] 0 ⟨[(3, .padr 43000 0), (4, (.lit (.int .i64 (0 : Int))))], [(43000, .box [.own 43001, .own 43002]), (43001, .row 96 HT true (lw0).1), (43002, .row 50 LT true (lw0).2)]⟩ rfl ?_ ?_; (conv => whnf); rotate_left; refine RegW.cut tys_ok [] [8,13,18,23,28,33,38,43] 11 ⟨[(3, .padr 43000 0), (55, .lit (.bool true))], [(43000, .box [.own 43001, .own 43002]), (43001, .row 96 HT true (lw1).1), (43002, .row 50 LT true (lw1).2)]⟩ rfl ?_ ?_; (conv => whnf); rotate_left; refine RegW.cut tys_ok [] [8,13,18,23,28,33,38,43] 16 ⟨[(3, .padr 43000 0), (60, .lit (.bool true))], [(43000, .box [.own 43001, .own 43002]), (43001, .row 96 HT true (lw2).1), (43002, .row 50 LT true (lw2).2)]⟩ rfl ?_ ?_; (conv => whnf); rotate_left; refine RegW.cut tys_ok [] [8,13,18,23,28,33,38,43] 21 ⟨[(3, .padr 43000 0), (65, .lit (.bool true))], [(43000, .box [.own 43001, .own 43002]), (43001, .row 96 HT true (lw2).1), (43002, .row 50 LT true (lw2).2)]⟩ rfl ?_ ?_; (conv => whnf); rotate_left; refine RegW.cut tys_ok [] [8,13,18,23,28,33,38,43] 26 ⟨[(3, .padr 43000 0), (70, .lit (.bool true))], [(43000, .box [.own 43001, .own 43002]), (43001, .row 96 HT true (lw3).1), (43002, .row 50 LT true (lw3).2)]⟩ rfl ?_ ?_; (conv => whnf); rotate_left; refine RegW.cut tys_ok [] [8,13,18,23,28,33,38,43] 31 ⟨[(3, .padr 43000 0), (75, .lit (.bool true))], [(43000, .box [.own 43001, .own 43002]), (43001, .row 96 HT true (lw3).1), (43002, .row 50 LT true (lw3).2)]⟩ rfl ?_ ?_; (conv => whnf); rotate_left; refine RegW.cut tys_ok [] [8,13,18,23,28,33,38,43] 36 ⟨[(3, .padr 43000 0), (80, .lit (.bool true))], [(43000, .box [.own 43001, .own 43002]), (43001, .row 96 HT true (lw4).1), (43002, .row 50 LT true (lw4).2)]⟩ rfl ?_ ?_; (conv => whnf); rotate_left; refine RegW.cut tys_ok [] [8,13,18,23,28,33,38,43] 41 ⟨[(3, .padr 43000 0), (85, .lit (.bool true))], [(43000, .box [.own 43001, .own 43002]), (43001, .row 96 HT true (lw5).1), (43002, .row 50 LT true (lw5).2)]⟩ rfl ?_ ?_; (conv => whnf); rotate_left; refine RegW.fin tys_ok [] [8,13,18,23,28,33,38,43] ?_; (conv => whnf))
 | (refine W.region tys_ok [] ?_; conv => whnf)
 | (refine W.drawAll tys_ok [] mixed rfl ?_; conv => whnf)
 | (refine W.ret ?_; conv => whnf)
 | (refine W.skip ?_; conv => whnf)
 | (refine W.exit ?_; conv => whnf)
 | (refine callM_at (c5) ?_; conv => whnf)
 | (refine callM_at (d0) ?_; conv => whnf)
 | (refine Both.mk ?_ ?_ <;> (conv => whnf))
 | (refine W.cond rfl (fun hb => ?_) (fun hb => ?_) <;> (try simp only [Int.reduceToNat, Int.reduceTDiv, Int.reduceTMod, minL, maxL, pickB, zHB, zSH] at hb) <;> (try (first | (cases hb; done) | exact absurd hb (by decide) | (exfalso; omega) | (omega))))
 | (refine Or.inl (And.intro ?_ ?_); (focus (first | exact trivial | exact ⟨rfl, trivial⟩ | (refine ⟨?_, trivial⟩; dsimp only; simp only [Int.reduceToNat, Int.reduceTDiv, Int.reduceTMod, minL, maxL, pickB, zHB, zSH]; omega) | (refine ⟨?_, trivial⟩; dsimp only; (try simp only [Int.reduceToNat, Int.reduceTDiv, Int.reduceTMod, minL, maxL, pickB, zHB, zSH]); (simp_all; done)) | (refine ⟨?_, trivial⟩; dsimp only; (simp only [Int.reduceToNat, Int.reduceTDiv, Int.reduceTMod, minL, maxL, pickB, zHB, zSH]; done)) | (refine ⟨?_, trivial⟩; dsimp only; (simp; done)))); (conv => whnf))
 | (refine Or.inr (And.intro ?_ ?_); (focus (intro h; have h := h.1; dsimp only at h; first | (exact Bool.noConfusion h) | (simp only [Int.reduceToNat, Int.reduceTDiv, Int.reduceTMod, minL, maxL, pickB, zHB, zSH] at h; omega) | ((try simp only [Int.reduceToNat, Int.reduceTDiv, Int.reduceTMod, minL, maxL, pickB, zHB, zSH] at h); (simp_all; done)))); (conv => whnf))
 | ((with_reducible refine And.intro ?_ ?_); (focus (first | (with_reducible rfl) | omega | rfl | ((try simp only [Int.reduceToNat, Int.reduceTDiv, Int.reduceTMod, minL, maxL, pickB, zHB, zSH, InK, Path.imp, zL] at *); omega))); (conv => whnf))
 | ((with_reducible refine And.intro (Side.out ?_) ?_); rotate_left; (conv => whnf))
 | ((first | refine retF1 ?_ | refine retF2 ?_ | refine subF.leaf ?_ | refine subF.side ?_) <;> (conv => whnf) <;> repeat' (first
 | exact trivial
 | (with_reducible rfl)
 | ((with_reducible refine And.intro ?_ ?_) <;> conv => whnf)
 | omega
 | rfl
 | (refine congrArg (SV.arr _) ?_)
 | (refine congrArg (Value.int _) ?_)
 | (refine congrArg Value.bool ?_)))); all_goals (try unfold Side)
    all_goals try (repeat' (first | (with_reducible rfl) | (with_reducible refine And.intro ?_ ?_) | omega | rfl | exact Or.inl rfl | exact Or.inr rfl | exact of_decide_eq_true rfl | exact Path.imp_of (of_decide_eq_true rfl) | (focus ((try simp only [Int.reduceToNat, Int.reduceTDiv, Int.reduceTMod, minL, maxL, pickB, zHB, zSH, InK, Path.imp, zL] at *); omega)) | (refine app_le rfl ?_; omega)))
    · repeat' (first
 | refine W.seq ?_
 | refine W.block ?_
 | (refine W.regW (id := 999) ?_; refine RegW.cut tys_ok [] [1] 8 ⟨[(1, .padr 8000 0), (2, (.lit (.int .i64 (0 : Int))))], [(8000, .box [.lit (.bool true), .lit (.bool true), .own 8001, .mown 8002, (.lit (.int .i64 ((lr0).2.2 : Int)))]), (8001, .row 105 PT true (lr0).1), (8002, .mat 80 91 NT true (lr0).2.1 none)]⟩ rfl ?_ ?_; (conv => whnf); rotate_left; refine RegW.fin tys_ok [] [1] ?_; (conv => whnf))
 | (refine W.region tys_ok [] ?_; conv => whnf)
 | (refine W.drawAll tys_ok [] mixed rfl ?_; conv => whnf)
 | (refine W.ret ?_; conv => whnf)
 | (refine W.skip ?_; conv => whnf)
 | (refine W.exit ?_; conv => whnf)
 | (refine callM_at (d8) ?_; conv => whnf)
 | (refine Both.mk ?_ ?_ <;> (conv => whnf))
 | (refine W.cond rfl (fun hb => ?_) (fun hb => ?_) <;> (try simp only [Int.reduceToNat, Int.reduceTDiv, Int.reduceTMod, minL, maxL, pickB, zHB, zSH] at hb) <;> (try (first | (cases hb; done) | exact absurd hb (by decide) | (exfalso; omega) | (omega))))
 | (refine Or.inl (And.intro ?_ ?_); (focus (first | exact trivial | exact ⟨rfl, trivial⟩ | (refine ⟨?_, trivial⟩; dsimp only; simp only [Int.reduceToNat, Int.reduceTDiv, Int.reduceTMod, minL, maxL, pickB, zHB, zSH]; omega) | (refine ⟨?_, trivial⟩; dsimp only; (try simp only [Int.reduceToNat, Int.reduceTDiv, Int.reduceTMod, minL, maxL, pickB, zHB, zSH]); (simp_all; done)) | (refine ⟨?_, trivial⟩; dsimp only; (simp only [Int.reduceToNat, Int.reduceTDiv, Int.reduceTMod, minL, maxL, pickB, zHB, zSH]; done)) | (refine ⟨?_, trivial⟩; dsimp only; (simp; done)))); (conv => whnf))
 | (refine Or.inr (And.intro ?_ ?_); (focus (intro h; have h := h.1; dsimp only at h; first | (exact Bool.noConfusion h) | (simp only [Int.reduceToNat, Int.reduceTDiv, Int.reduceTMod, minL, maxL, pickB, zHB, zSH] at h; omega) | ((try simp only [Int.reduceToNat, Int.reduceTDiv, Int.reduceTMod, minL, maxL, pickB, zHB, zSH] at h); (simp_all; done)))); (conv => whnf))
 | ((with_reducible refine And.intro ?_ ?_); (focus (first | (with_reducible rfl) | omega | rfl | ((try simp only [Int.reduceToNat, Int.reduceTDiv, Int.reduceTMod, minL, maxL, pickB, zHB, zSH, InK, Path.imp, zL] at *); omega))); (conv => whnf))
 | ((with_reducible refine And.intro (Side.out ?_) ?_); rotate_left; (conv => whnf))
 | ((first | refine retF1 ?_ | refine retF2 ?_ | refine subF.leaf ?_ | refine subF.side ?_) <;> (conv => whnf) <;> repeat' (first
 | exact trivial
 | (with_reducible rfl)
 | ((with_reducible refine And.intro ?_ ?_) <;> conv => whnf)
 | omega
 | rfl
 | (refine congrArg (SV.arr _) ?_)
 | (refine congrArg (Value.int _) ?_)
 | (refine congrArg Value.bool ?_)))); all_goals (try unfold Side)
      all_goals try (repeat' (first | (with_reducible rfl) | (with_reducible refine And.intro ?_ ?_) | omega | rfl | exact Or.inl rfl | exact Or.inr rfl | exact of_decide_eq_true rfl | exact Path.imp_of (of_decide_eq_true rfl) | (focus ((try simp only [Int.reduceToNat, Int.reduceTDiv, Int.reduceTMod, minL, maxL, pickB, zHB, zSH, InK, Path.imp, zL] at *); omega)) | (refine app_le rfl ?_; omega)))
    · repeat' (first
 | refine W.seq ?_
 | refine W.block ?_
 | (refine W.regW (id := 999) ?_; refine RegW.cut tys_ok [] [1] 8 ⟨[(1, .padr 8000 0), (2, (.lit (.int .i64 (0 : Int))))], [(8000, .box [.lit (.bool true), .lit (.bool true), .own 8001, .mown 8002, (.lit (.int .i64 ((lr0).2.2 : Int)))]), (8001, .row 105 PT true (lr0).1), (8002, .mat 80 91 NT true (lr0).2.1 none)]⟩ rfl ?_ ?_; (conv => whnf); rotate_left; refine RegW.fin tys_ok [] [1] ?_; (conv => whnf))
 | (refine W.region tys_ok [] ?_; conv => whnf)
 | (refine W.drawAll tys_ok [] mixed rfl ?_; conv => whnf)
 | (refine W.ret ?_; conv => whnf)
 | (refine W.skip ?_; conv => whnf)
 | (refine W.exit ?_; conv => whnf)
 | (refine callM_at (d1) ?_; conv => whnf)
 | (refine Both.mk ?_ ?_ <;> (conv => whnf))
 | (refine W.cond rfl (fun hb => ?_) (fun hb => ?_) <;> (try simp only [Int.reduceToNat, Int.reduceTDiv, Int.reduceTMod, minL, maxL, pickB, zHB, zSH] at hb) <;> (try (first | (cases hb; done) | exact absurd hb (by decide) | (exfalso; omega) | (omega))))
 | (refine Or.inl (And.intro ?_ ?_); (focus (first | exact trivial | exact ⟨rfl, trivial⟩ | (refine ⟨?_, trivial⟩; dsimp only; simp only [Int.reduceToNat, Int.reduceTDiv, Int.reduceTMod, minL, maxL, pickB, zHB, zSH]; omega) | (refine ⟨?_, trivial⟩; dsimp only; (try simp only [Int.reduceToNat, Int.reduceTDiv, Int.reduceTMod, minL, maxL, pickB, zHB, zSH]); (simp_all; done)) | (refine ⟨?_, trivial⟩; dsimp only; (simp only [Int.reduceToNat, Int.reduceTDiv, Int.reduceTMod, minL, maxL, pickB, zHB, zSH]; done)) | (refine ⟨?_, trivial⟩; dsimp only; (simp; done)))); (conv => whnf))
 | (refine Or.inr (And.intro ?_ ?_); (focus (intro h; have h := h.1; dsimp only at h; first | (exact Bool.noConfusion h) | (simp only [Int.reduceToNat, Int.reduceTDiv, Int.reduceTMod, minL, maxL, pickB, zHB, zSH] at h; omega) | ((try simp only [Int.reduceToNat, Int.reduceTDiv, Int.reduceTMod, minL, maxL, pickB, zHB, zSH] at h); (simp_all; done)))); (conv => whnf))
 | ((with_reducible refine And.intro ?_ ?_); (focus (first | (with_reducible rfl) | omega | rfl | ((try simp only [Int.reduceToNat, Int.reduceTDiv, Int.reduceTMod, minL, maxL, pickB, zHB, zSH, InK, Path.imp, zL] at *); omega))); (conv => whnf))
 | ((with_reducible refine And.intro (Side.out ?_) ?_); rotate_left; (conv => whnf))
 | ((first | refine retF1 ?_ | refine retF2 ?_ | refine subF.leaf ?_ | refine subF.side ?_) <;> (conv => whnf) <;> repeat' (first
 | exact trivial
 | (with_reducible rfl)
 | ((with_reducible refine And.intro ?_ ?_) <;> conv => whnf)
 | omega
 | rfl
 | (refine congrArg (SV.arr _) ?_)
 | (refine congrArg (Value.int _) ?_)
 | (refine congrArg Value.bool ?_)))); all_goals (try unfold Side)
      all_goals try (repeat' (first | (with_reducible rfl) | (with_reducible refine And.intro ?_ ?_) | omega | rfl | exact Or.inl rfl | exact Or.inr rfl | exact of_decide_eq_true rfl | exact Path.imp_of (of_decide_eq_true rfl) | (focus ((try simp only [Int.reduceToNat, Int.reduceTDiv, Int.reduceTMod, minL, maxL, pickB, zHB, zSH, InK, Path.imp, zL] at *); omega)) | (refine app_le rfl ?_; omega)))
    · repeat' (first
 | refine W.seq ?_
 | refine W.block ?_
 | (refine W.regW (id := 999) ?_; refine RegW.cut tys_ok [] [1] 8 ⟨[(1, .padr 8000 0), (2, (.lit (.int .i64 (0 : Int))))], [(8000, .box [.lit (.bool true), .lit (.bool true), .own 8001, .mown 8002, (.lit (.int .i64 ((lr0).2.2 : Int)))]), (8001, .row 105 PT true (lr0).1), (8002, .mat 80 91 NT true (lr0).2.1 none)]⟩ rfl ?_ ?_; (conv => whnf); rotate_left; refine RegW.fin tys_ok [] [1] ?_; (conv => whnf))
 | (refine W.region tys_ok [] ?_; conv => whnf)
 | (refine W.drawAll tys_ok [] mixed rfl ?_; conv => whnf)
 | (refine W.ret ?_; conv => whnf)
 | (refine W.skip ?_; conv => whnf)
 | (refine W.exit ?_; conv => whnf)
 | (refine callM_at (d2) ?_; conv => whnf)
 | (refine Both.mk ?_ ?_ <;> (conv => whnf))
 | (refine W.cond rfl (fun hb => ?_) (fun hb => ?_) <;> (try simp only [Int.reduceToNat, Int.reduceTDiv, Int.reduceTMod, minL, maxL, pickB, zHB, zSH] at hb) <;> (try (first | (cases hb; done) | exact absurd hb (by decide) | (exfalso; omega) | (omega))))
 | (refine Or.inl (And.intro ?_ ?_); (focus (first | exact trivial | exact ⟨rfl, trivial⟩ | (refine ⟨?_, trivial⟩; dsimp only; simp only [Int.reduceToNat, Int.reduceTDiv, Int.reduceTMod, minL, maxL, pickB, zHB, zSH]; omega) | (refine ⟨?_, trivial⟩; dsimp only; (try simp only [Int.reduceToNat, Int.reduceTDiv, Int.reduceTMod, minL, maxL, pickB, zHB, zSH]); (simp_all; done)) | (refine ⟨?_, trivial⟩; dsimp only; (simp only [Int.reduceToNat, Int.reduceTDiv, Int.reduceTMod, minL, maxL, pickB, zHB, zSH]; done)) | (refine ⟨?_, trivial⟩; dsimp only; (simp; done)))); (conv => whnf))
 | (refine Or.inr (And.intro ?_ ?_); (focus (intro h; have h := h.1; dsimp only at h; first | (exact Bool.noConfusion h) | (simp only [Int.reduceToNat, Int.reduceTDiv, Int.reduceTMod, minL, maxL, pickB, zHB, zSH] at h; omega) | ((try simp only [Int.reduceToNat, Int.reduceTDiv, Int.reduceTMod, minL, maxL, pickB, zHB, zSH] at h); (simp_all; done)))); (conv => whnf))
 | ((with_reducible refine And.intro ?_ ?_); (focus (first | (with_reducible rfl) | omega | rfl | ((try simp only [Int.reduceToNat, Int.reduceTDiv, Int.reduceTMod, minL, maxL, pickB, zHB, zSH, InK, Path.imp, zL] at *); omega))); (conv => whnf))
 | ((with_reducible refine And.intro (Side.out ?_) ?_); rotate_left; (conv => whnf))
 | ((first | refine retF1 ?_ | refine retF2 ?_ | refine subF.leaf ?_ | refine subF.side ?_) <;> (conv => whnf) <;> repeat' (first
 | exact trivial
 | (with_reducible rfl)
 | ((with_reducible refine And.intro ?_ ?_) <;> conv => whnf)
 | omega
 | rfl
 | (refine congrArg (SV.arr _) ?_)
 | (refine congrArg (Value.int _) ?_)
 | (refine congrArg Value.bool ?_)))); all_goals (try unfold Side)
      all_goals try (repeat' (first | (with_reducible rfl) | (with_reducible refine And.intro ?_ ?_) | omega | rfl | exact Or.inl rfl | exact Or.inr rfl | exact of_decide_eq_true rfl | exact Path.imp_of (of_decide_eq_true rfl) | (focus ((try simp only [Int.reduceToNat, Int.reduceTDiv, Int.reduceTMod, minL, maxL, pickB, zHB, zSH, InK, Path.imp, zL] at *); omega)) | (refine app_le rfl ?_; omega)))
    · repeat' (first
 | refine W.seq ?_
 | refine W.block ?_
 | (refine W.regW (id := 999) ?_; refine RegW.cut tys_ok [] [1] 8 ⟨[(1, .padr 8000 0), (2, (.lit (.int .i64 (0 : Int))))], [(8000, .box [.lit (.bool true), .lit (.bool true), .own 8001, .mown 8002, (.lit (.int .i64 ((lr0).2.2 : Int)))]), (8001, .row 105 PT true (lr0).1), (8002, .mat 80 91 NT true (lr0).2.1 none)]⟩ rfl ?_ ?_; (conv => whnf); rotate_left; refine RegW.fin tys_ok [] [1] ?_; (conv => whnf))
 | (refine W.region tys_ok [] ?_; conv => whnf)
 | (refine W.drawAll tys_ok [] mixed rfl ?_; conv => whnf)
 | (refine W.ret ?_; conv => whnf)
 | (refine W.skip ?_; conv => whnf)
 | (refine W.exit ?_; conv => whnf)
 | (refine callM_at (d3) ?_; conv => whnf)
 | (refine Both.mk ?_ ?_ <;> (conv => whnf))
 | (refine W.cond rfl (fun hb => ?_) (fun hb => ?_) <;> (try simp only [Int.reduceToNat, Int.reduceTDiv, Int.reduceTMod, minL, maxL, pickB, zHB, zSH] at hb) <;> (try (first | (cases hb; done) | exact absurd hb (by decide) | (exfalso; omega) | (omega))))
 | (refine Or.inl (And.intro ?_ ?_); (focus (first | exact trivial | exact ⟨rfl, trivial⟩ | (refine ⟨?_, trivial⟩; dsimp only; simp only [Int.reduceToNat, Int.reduceTDiv, Int.reduceTMod, minL, maxL, pickB, zHB, zSH]; omega) | (refine ⟨?_, trivial⟩; dsimp only; (try simp only [Int.reduceToNat, Int.reduceTDiv, Int.reduceTMod, minL, maxL, pickB, zHB, zSH]); (simp_all; done)) | (refine ⟨?_, trivial⟩; dsimp only; (simp only [Int.reduceToNat, Int.reduceTDiv, Int.reduceTMod, minL, maxL, pickB, zHB, zSH]; done)) | (refine ⟨?_, trivial⟩; dsimp only; (simp; done)))); (conv => whnf))
 | (refine Or.inr (And.intro ?_ ?_); (focus (intro h; have h := h.1; dsimp only at h; first | (exact Bool.noConfusion h) | (simp only [Int.reduceToNat, Int.reduceTDiv, Int.reduceTMod, minL, maxL, pickB, zHB, zSH] at h; omega) | ((try simp only [Int.reduceToNat, Int.reduceTDiv, Int.reduceTMod, minL, maxL, pickB, zHB, zSH] at h); (simp_all; done)))); (conv => whnf))
 | ((with_reducible refine And.intro ?_ ?_); (focus (first | (with_reducible rfl) | omega | rfl | ((try simp only [Int.reduceToNat, Int.reduceTDiv, Int.reduceTMod, minL, maxL, pickB, zHB, zSH, InK, Path.imp, zL] at *); omega))); (conv => whnf))
 | ((with_reducible refine And.intro (Side.out ?_) ?_); rotate_left; (conv => whnf))
 | ((first | refine retF1 ?_ | refine retF2 ?_ | refine subF.leaf ?_ | refine subF.side ?_) <;> (conv => whnf) <;> repeat' (first
 | exact trivial
 | (with_reducible rfl)
 | ((with_reducible refine And.intro ?_ ?_) <;> conv => whnf)
 | omega
 | rfl
 | (refine congrArg (SV.arr _) ?_)
 | (refine congrArg (Value.int _) ?_)
 | (refine congrArg Value.bool ?_)))); all_goals (try unfold Side)
      all_goals try (repeat' (first | (with_reducible rfl) | (with_reducible refine And.intro ?_ ?_) | omega | rfl | exact Or.inl rfl | exact Or.inr rfl | exact of_decide_eq_true rfl | exact Path.imp_of (of_decide_eq_true rfl) | (focus ((try simp only [Int.reduceToNat, Int.reduceTDiv, Int.reduceTMod, minL, maxL, pickB, zHB, zSH, InK, Path.imp, zL] at *); omega)) | (refine app_le rfl ?_; omega)))
    · repeat' (first
 | refine W.seq ?_
 | refine W.block ?_
 | (refine W.regW (id := 999) ?_; refine RegW.cut tys_ok [] [1] 8 ⟨[(1, .padr 8000 0), (2, (.lit (.int .i64 (0 : Int))))], [(8000, .box [.lit (.bool true), .lit (.bool true), .own 8001, .mown 8002, (.lit (.int .i64 ((lr0).2.2 : Int)))]), (8001, .row 105 PT true (lr0).1), (8002, .mat 80 91 NT true (lr0).2.1 none)]⟩ rfl ?_ ?_; (conv => whnf); rotate_left; refine RegW.fin tys_ok [] [1] ?_; (conv => whnf))
 | (refine W.region tys_ok [] ?_; conv => whnf)
 | (refine W.drawAll tys_ok [] mixed rfl ?_; conv => whnf)
 | (refine W.ret ?_; conv => whnf)
 | (refine W.skip ?_; conv => whnf)
 | (refine W.exit ?_; conv => whnf)
 | (refine callM_at (d4) ?_; conv => whnf)
 | (refine Both.mk ?_ ?_ <;> (conv => whnf))
 | (refine W.cond rfl (fun hb => ?_) (fun hb => ?_) <;> (try simp only [Int.reduceToNat, Int.reduceTDiv, Int.reduceTMod, minL, maxL, pickB, zHB, zSH] at hb) <;> (try (first | (cases hb; done) | exact absurd hb (by decide) | (exfalso; omega) | (omega))))
 | (refine Or.inl (And.intro ?_ ?_); (focus (first | exact trivial | exact ⟨rfl, trivial⟩ | (refine ⟨?_, trivial⟩; dsimp only; simp only [Int.reduceToNat, Int.reduceTDiv, Int.reduceTMod, minL, maxL, pickB, zHB, zSH]; omega) | (refine ⟨?_, trivial⟩; dsimp only; (try simp only [Int.reduceToNat, Int.reduceTDiv, Int.reduceTMod, minL, maxL, pickB, zHB, zSH]); (simp_all; done)) | (refine ⟨?_, trivial⟩; dsimp only; (simp only [Int.reduceToNat, Int.reduceTDiv, Int.reduceTMod, minL, maxL, pickB, zHB, zSH]; done)) | (refine ⟨?_, trivial⟩; dsimp only; (simp; done)))); (conv => whnf))
 | (refine Or.inr (And.intro ?_ ?_); (focus (intro h; have h := h.1; dsimp only at h; first | (exact Bool.noConfusion h) | (simp only [Int.reduceToNat, Int.reduceTDiv, Int.reduceTMod, minL, maxL, pickB, zHB, zSH] at h; omega) | ((try simp only [Int.reduceToNat, Int.reduceTDiv, Int.reduceTMod, minL, maxL, pickB, zHB, zSH] at h); (simp_all; done)))); (conv => whnf))
 | ((with_reducible refine And.intro ?_ ?_); (focus (first | (with_reducible rfl) | omega | rfl | ((try simp only [Int.reduceToNat, Int.reduceTDiv, Int.reduceTMod, minL, maxL, pickB, zHB, zSH, InK, Path.imp, zL] at *); omega))); (conv => whnf))
 | ((with_reducible refine And.intro (Side.out ?_) ?_); rotate_left; (conv => whnf))
 | ((first | refine retF1 ?_ | refine retF2 ?_ | refine subF.leaf ?_ | refine subF.side ?_) <;> (conv => whnf) <;> repeat' (first
 | exact trivial
 | (with_reducible rfl)
 | ((with_reducible refine And.intro ?_ ?_) <;> conv => whnf)
 | omega
 | rfl
 | (refine congrArg (SV.arr _) ?_)
 | (refine congrArg (Value.int _) ?_)
 | (refine congrArg Value.bool ?_)))); all_goals (try unfold Side)
      all_goals try (repeat' (first | (with_reducible rfl) | (with_reducible refine And.intro ?_ ?_) | omega | rfl | exact Or.inl rfl | exact Or.inr rfl | exact of_decide_eq_true rfl | exact Path.imp_of (of_decide_eq_true rfl) | (focus ((try simp only [Int.reduceToNat, Int.reduceTDiv, Int.reduceTMod, minL, maxL, pickB, zHB, zSH, InK, Path.imp, zL] at *); omega)) | (refine app_le rfl ?_; omega)))
    · repeat' (first
 | refine W.seq ?_
 | refine W.block ?_
 | (refine W.regW (id := 999) ?_; refine RegW.cut tys_ok [] [1] 8 ⟨[(1, .padr 8000 0), (2, (.lit (.int .i64 (0 : Int))))], [(8000, .box [.lit (.bool true), .lit (.bool true), .own 8001, .mown 8002, (.lit (.int .i64 ((lr0).2.2 : Int)))]), (8001, .row 105 PT true (lr0).1), (8002, .mat 80 91 NT true (lr0).2.1 none)]⟩ rfl ?_ ?_; (conv => whnf); rotate_left; refine RegW.fin tys_ok [] [1] ?_; (conv => whnf))
 | (refine W.region tys_ok [] ?_; conv => whnf)
 | (refine W.drawAll tys_ok [] mixed rfl ?_; conv => whnf)
 | (refine W.ret ?_; conv => whnf)
 | (refine W.skip ?_; conv => whnf)
 | (refine W.exit ?_; conv => whnf)
 | (refine callM_at (d5) ?_; conv => whnf)
 | (refine Both.mk ?_ ?_ <;> (conv => whnf))
 | (refine W.cond rfl (fun hb => ?_) (fun hb => ?_) <;> (try simp only [Int.reduceToNat, Int.reduceTDiv, Int.reduceTMod, minL, maxL, pickB, zHB, zSH] at hb) <;> (try (first | (cases hb; done) | exact absurd hb (by decide) | (exfalso; omega) | (omega))))
 | (refine Or.inl (And.intro ?_ ?_); (focus (first | exact trivial | exact ⟨rfl, trivial⟩ | (refine ⟨?_, trivial⟩; dsimp only; simp only [Int.reduceToNat, Int.reduceTDiv, Int.reduceTMod, minL, maxL, pickB, zHB, zSH]; omega) | (refine ⟨?_, trivial⟩; dsimp only; (try simp only [Int.reduceToNat, Int.reduceTDiv, Int.reduceTMod, minL, maxL, pickB, zHB, zSH]); (simp_all; done)) | (refine ⟨?_, trivial⟩; dsimp only; (simp only [Int.reduceToNat, Int.reduceTDiv, Int.reduceTMod, minL, maxL, pickB, zHB, zSH]; done)) | (refine ⟨?_, trivial⟩; dsimp only; (simp; done)))); (conv => whnf))
 | (refine Or.inr (And.intro ?_ ?_); (focus (intro h; have h := h.1; dsimp only at h; first | (exact Bool.noConfusion h) | (simp only [Int.reduceToNat, Int.reduceTDiv, Int.reduceTMod, minL, maxL, pickB, zHB, zSH] at h; omega) | ((try simp only [Int.reduceToNat, Int.reduceTDiv, Int.reduceTMod, minL, maxL, pickB, zHB, zSH] at h); (simp_all; done)))); (conv => whnf))
 | ((with_reducible refine And.intro ?_ ?_); (focus (first | (with_reducible rfl) | omega | rfl | ((try simp only [Int.reduceToNat, Int.reduceTDiv, Int.reduceTMod, minL, maxL, pickB, zHB, zSH, InK, Path.imp, zL] at *); omega))); (conv => whnf))
 | ((with_reducible refine And.intro (Side.out ?_) ?_); rotate_left; (conv => whnf))
 | ((first | refine retF1 ?_ | refine retF2 ?_ | refine subF.leaf ?_ | refine subF.side ?_) <;> (conv => whnf) <;> repeat' (first
 | exact trivial
 | (with_reducible rfl)
 | ((with_reducible refine And.intro ?_ ?_) <;> conv => whnf)
 | omega
 | rfl
 | (refine congrArg (SV.arr _) ?_)
 | (refine congrArg (Value.int _) ?_)
 | (refine congrArg Value.bool ?_)))); all_goals (try unfold Side)
      all_goals try (repeat' (first | (with_reducible rfl) | (with_reducible refine And.intro ?_ ?_) | omega | rfl | exact Or.inl rfl | exact Or.inr rfl | exact of_decide_eq_true rfl | exact Path.imp_of (of_decide_eq_true rfl) | (focus ((try simp only [Int.reduceToNat, Int.reduceTDiv, Int.reduceTMod, minL, maxL, pickB, zHB, zSH, InK, Path.imp, zL] at *); omega)) | (refine app_le rfl ?_; omega)))
    · repeat' (first
 | refine W.seq ?_
 | refine W.block ?_
 | (refine W.regW (id := 999) ?_; refine RegW.cut tys_ok [] [1] 8 ⟨[(1, .padr 8000 0), (2, (.lit (.int .i64 (0 : Int))))], [(8000, .box [.lit (.bool true), .lit (.bool true), .own 8001, .mown 8002, (.lit (.int .i64 ((lr0).2.2 : Int)))]), (8001, .row 105 PT true (lr0).1), (8002, .mat 80 91 NT true (lr0).2.1 none)]⟩ rfl ?_ ?_; (conv => whnf); rotate_left; refine RegW.fin tys_ok [] [1] ?_; (conv => whnf))
 | (refine W.region tys_ok [] ?_; conv => whnf)
 | (refine W.drawAll tys_ok [] mixed rfl ?_; conv => whnf)
 | (refine W.ret ?_; conv => whnf)
 | (refine W.skip ?_; conv => whnf)
 | (refine W.exit ?_; conv => whnf)
 | (refine callM_at (d6) ?_; conv => whnf)
 | (refine Both.mk ?_ ?_ <;> (conv => whnf))
 | (refine W.cond rfl (fun hb => ?_) (fun hb => ?_) <;> (try simp only [Int.reduceToNat, Int.reduceTDiv, Int.reduceTMod, minL, maxL, pickB, zHB, zSH] at hb) <;> (try (first | (cases hb; done) | exact absurd hb (by decide) | (exfalso; omega) | (omega))))
 | (refine Or.inl (And.intro ?_ ?_); (focus (first | exact trivial | exact ⟨rfl, trivial⟩ | (refine ⟨?_, trivial⟩; dsimp only; simp only [Int.reduceToNat, Int.reduceTDiv, Int.reduceTMod, minL, maxL, pickB, zHB, zSH]; omega) | (refine ⟨?_, trivial⟩; dsimp only; (try simp only [Int.reduceToNat, Int.reduceTDiv, Int.reduceTMod, minL, maxL, pickB, zHB, zSH]); (simp_all; done)) | (refine ⟨?_, trivial⟩; dsimp only; (simp only [Int.reduceToNat, Int.reduceTDiv, Int.reduceTMod, minL, maxL, pickB, zHB, zSH]; done)) | (refine ⟨?_, trivial⟩; dsimp only; (simp; done)))); (conv => whnf))
 | (refine Or.inr (And.intro ?_ ?_); (focus (intro h; have h := h.1; dsimp only at h; first | (exact Bool.noConfusion h) | (simp only [Int.reduceToNat, Int.reduceTDiv, Int.reduceTMod, minL, maxL, pickB, zHB, zSH] at h; omega) | ((try simp only [Int.reduceToNat, Int.reduceTDiv, Int.reduceTMod, minL, maxL, pickB, zHB, zSH] at h); (simp_all; done)))); (conv => whnf))
 | ((with_reducible refine And.intro ?_ ?_); (focus (first | (with_reducible rfl) | omega | rfl | ((try simp only [Int.reduceToNat, Int.reduceTDiv, Int.reduceTMod, minL, maxL, pickB, zHB, zSH, InK, Path.imp, zL] at *); omega))); (conv => whnf))
 | ((with_reducible refine And.intro (Side.out ?_) ?_); rotate_left; (conv => whnf))
 | ((first | refine retF1 ?_ | refine retF2 ?_ | refine subF.leaf ?_ | refine subF.side ?_) <;> (conv => whnf) <;> repeat' (first
 | exact trivial
 | (with_reducible rfl)
 | ((with_reducible refine And.intro ?_ ?_) <;> conv => whnf)
 | omega
 | rfl
 | (refine congrArg (SV.arr _) ?_)
 | (refine congrArg (Value.int _) ?_)
 | (refine congrArg Value.bool ?_)))); all_goals (try unfold Side)
      all_goals try (repeat' (first | (with_reducible rfl) | (with_reducible refine And.intro ?_ ?_) | omega | rfl | exact Or.inl rfl | exact Or.inr rfl | exact of_decide_eq_true rfl | exact Path.imp_of (of_decide_eq_true rfl) | (focus ((try simp only [Int.reduceToNat, Int.reduceTDiv, Int.reduceTMod, minL, maxL, pickB, zHB, zSH, InK, Path.imp, zL] at *); omega)) | (refine app_le rfl ?_; omega)))
    · repeat' (first
 | refine W.seq ?_
 | refine W.block ?_
 | (refine W.regW (id := 999) ?_; refine RegW.cut tys_ok [] [1] 8 ⟨[(1, .padr 8000 0), (2, (.lit (.int .i64 (0 : Int))))], [(8000, .box [.lit (.bool true), .lit (.bool true), .own 8001, .mown 8002, (.lit (.int .i64 ((lr0).2.2 : Int)))]), (8001, .row 105 PT true (lr0).1), (8002, .mat 80 91 NT true (lr0).2.1 none)]⟩ rfl ?_ ?_; (conv => whnf); rotate_left; refine RegW.fin tys_ok [] [1] ?_; (conv => whnf))
 | (refine W.region tys_ok [] ?_; conv => whnf)
 | (refine W.drawAll tys_ok [] mixed rfl ?_; conv => whnf)
 | (refine W.ret ?_; conv => whnf)
 | (refine W.skip ?_; conv => whnf)
 | (refine W.exit ?_; conv => whnf)
 | (refine callM_at (d7) ?_; conv => whnf)
 | (refine Both.mk ?_ ?_ <;> (conv => whnf))
 | (refine W.cond rfl (fun hb => ?_) (fun hb => ?_) <;> (try simp only [Int.reduceToNat, Int.reduceTDiv, Int.reduceTMod, minL, maxL, pickB, zHB, zSH] at hb) <;> (try (first | (cases hb; done) | exact absurd hb (by decide) | (exfalso; omega) | (omega))))
 | (refine Or.inl (And.intro ?_ ?_); (focus (first | exact trivial | exact ⟨rfl, trivial⟩ | (refine ⟨?_, trivial⟩; dsimp only; simp only [Int.reduceToNat, Int.reduceTDiv, Int.reduceTMod, minL, maxL, pickB, zHB, zSH]; omega) | (refine ⟨?_, trivial⟩; dsimp only; (try simp only [Int.reduceToNat, Int.reduceTDiv, Int.reduceTMod, minL, maxL, pickB, zHB, zSH]); (simp_all; done)) | (refine ⟨?_, trivial⟩; dsimp only; (simp only [Int.reduceToNat, Int.reduceTDiv, Int.reduceTMod, minL, maxL, pickB, zHB, zSH]; done)) | (refine ⟨?_, trivial⟩; dsimp only; (simp; done)))); (conv => whnf))
 | (refine Or.inr (And.intro ?_ ?_); (focus (intro h; have h := h.1; dsimp only at h; first | (exact Bool.noConfusion h) | (simp only [Int.reduceToNat, Int.reduceTDiv, Int.reduceTMod, minL, maxL, pickB, zHB, zSH] at h; omega) | ((try simp only [Int.reduceToNat, Int.reduceTDiv, Int.reduceTMod, minL, maxL, pickB, zHB, zSH] at h); (simp_all; done)))); (conv => whnf))
 | ((with_reducible refine And.intro ?_ ?_); (focus (first | (with_reducible rfl) | omega | rfl | ((try simp only [Int.reduceToNat, Int.reduceTDiv, Int.reduceTMod, minL, maxL, pickB, zHB, zSH, InK, Path.imp, zL] at *); omega))); (conv => whnf))
 | ((with_reducible refine And.intro (Side.out ?_) ?_); rotate_left; (conv => whnf))
 | ((first | refine retF1 ?_ | refine retF2 ?_ | refine subF.leaf ?_ | refine subF.side ?_) <;> (conv => whnf) <;> repeat' (first
 | exact trivial
 | (with_reducible rfl)
 | ((with_reducible refine And.intro ?_ ?_) <;> conv => whnf)
 | omega
 | rfl
 | (refine congrArg (SV.arr _) ?_)
 | (refine congrArg (Value.int _) ?_)
 | (refine congrArg Value.bool ?_)))); all_goals (try unfold Side)
      all_goals try (repeat' (first | (with_reducible rfl) | (with_reducible refine And.intro ?_ ?_) | omega | rfl | exact Or.inl rfl | exact Or.inr rfl | exact of_decide_eq_true rfl | exact Path.imp_of (of_decide_eq_true rfl) | (focus ((try simp only [Int.reduceToNat, Int.reduceTDiv, Int.reduceTMod, minL, maxL, pickB, zHB, zSH, InK, Path.imp, zL] at *); omega)) | (refine app_le rfl ?_; omega)))
  · repeat' (first
 | refine W.seq ?_
 | refine W.block ?_
 | (refine W.regW (id := 999) ?_; refine RegW.cut tys_ok [] [1] 8 ⟨[(1, .padr 8000 0), (2, (.lit (.int .i64 (0 : Int))))], [(8000, .box [.lit (.bool true), .lit (.bool true), .own 8001, .mown 8002, (.lit (.int .i64 ((lr0).2.2 : Int)))]), (8001, .row 105 PT true (lr0).1), (8002, .mat 80 91 NT true (lr0).2.1 none)]⟩ rfl ?_ ?_; (conv => whnf); rotate_left; refine RegW.fin tys_ok [] [1] ?_; (conv => whnf))
 | (refine W.region tys_ok [] ?_; conv => whnf)
 | (refine W.drawAll tys_ok [] mixed rfl ?_; conv => whnf)
 | (refine W.ret ?_; conv => whnf)
 | (refine W.skip ?_; conv => whnf)
 | (refine W.exit ?_; conv => whnf)
 | (refine callM_at (c1) ?_; conv => whnf)
 | (refine Both.mk ?_ ?_ <;> (conv => whnf))
 | (refine W.cond rfl (fun hb => ?_) (fun hb => ?_) <;> (try simp only [Int.reduceToNat, Int.reduceTDiv, Int.reduceTMod, minL, maxL, pickB, zHB, zSH] at hb) <;> (try (first | (cases hb; done) | exact absurd hb (by decide) | (exfalso; omega) | (omega))))
 | (refine Or.inl (And.intro ?_ ?_); (focus (first | exact trivial | exact ⟨rfl, trivial⟩ | (refine ⟨?_, trivial⟩; dsimp only; simp only [Int.reduceToNat, Int.reduceTDiv, Int.reduceTMod, minL, maxL, pickB, zHB, zSH]; omega) | (refine ⟨?_, trivial⟩; dsimp only; (try simp only [Int.reduceToNat, Int.reduceTDiv, Int.reduceTMod, minL, maxL, pickB, zHB, zSH]); (simp_all; done)) | (refine ⟨?_, trivial⟩; dsimp only; (simp only [Int.reduceToNat, Int.reduceTDiv, Int.reduceTMod, minL, maxL, pickB, zHB, zSH]; done)) | (refine ⟨?_, trivial⟩; dsimp only; (simp; done)))); (conv => whnf))
 | (refine Or.inr (And.intro ?_ ?_); (focus (intro h; have h := h.1; dsimp only at h; first | (exact Bool.noConfusion h) | (simp only [Int.reduceToNat, Int.reduceTDiv, Int.reduceTMod, minL, maxL, pickB, zHB, zSH] at h; omega) | ((try simp only [Int.reduceToNat, Int.reduceTDiv, Int.reduceTMod, minL, maxL, pickB, zHB, zSH] at h); (simp_all; done)))); (conv => whnf))
 | ((with_reducible refine And.intro ?_ ?_); (focus (first | (with_reducible rfl) | omega | rfl | ((try simp only [Int.reduceToNat, Int.reduceTDiv, Int.reduceTMod, minL, maxL, pickB, zHB, zSH, InK, Path.imp, zL] at *); omega))); (conv => whnf))
 | ((with_reducible refine And.intro (Side.out ?_) ?_); rotate_left; (conv => whnf))
 | ((first | refine retF1 ?_ | refine retF2 ?_ | refine subF.leaf ?_ | refine subF.side ?_) <;> (conv => whnf) <;> repeat' (first
 | exact trivial
 | (with_reducible rfl)
 | ((with_reducible refine And.intro ?_ ?_) <;> conv => whnf)
 | omega
 | rfl
 | (refine congrArg (SV.arr _) ?_)
 | (refine congrArg (Value.int _) ?_)
 | (refine congrArg Value.bool ?_)))); all_goals (try unfold Side)
    all_goals try (repeat' (first | (with_reducible rfl) | (with_reducible refine And.intro ?_ ?_) | omega | rfl | exact Or.inl rfl | exact Or.inr rfl | exact of_decide_eq_true rfl | exact Path.imp_of (of_decide_eq_true rfl) | (focus ((try simp only [Int.reduceToNat, Int.reduceTDiv, Int.reduceTMod, minL, maxL, pickB, zHB, zSH, InK, Path.imp, zL] at *); omega)) | (refine app_le rfl ?_; omega)))
  · repeat' (first
 | refine W.seq ?_
 | refine W.block ?_
 | (refine W.regW (id := 999) ?_; refine RegW.cut tys_ok [] [1] 8 ⟨[(1, .padr 8000 0), (2, (.lit (.int .i64 (0 : Int))))], [(8000, .box [.lit (.bool true), .lit (.bool true), .own 8001, .mown 8002, (.lit (.int .i64 ((lr0).2.2 : Int)))]), (8001, .row 105 PT true (lr0).1), (8002, .mat 80 91 NT true (lr0).2.1 none)]⟩ rfl ?_ ?_; (conv => whnf); rotate_left; refine RegW.fin tys_ok [] [1] ?_; (conv => whnf))
 | (refine W.region tys_ok [] ?_; conv => whnf)
 | (refine W.drawAll tys_ok [] mixed rfl ?_; conv => whnf)
 | (refine W.ret ?_; conv => whnf)
 | (refine W.skip ?_; conv => whnf)
 | (refine W.exit ?_; conv => whnf)
 | (refine callM_at (c2) ?_; conv => whnf)
 | (refine Both.mk ?_ ?_ <;> (conv => whnf))
 | (refine W.cond rfl (fun hb => ?_) (fun hb => ?_) <;> (try simp only [Int.reduceToNat, Int.reduceTDiv, Int.reduceTMod, minL, maxL, pickB, zHB, zSH] at hb) <;> (try (first | (cases hb; done) | exact absurd hb (by decide) | (exfalso; omega) | (omega))))
 | (refine Or.inl (And.intro ?_ ?_); (focus (first | exact trivial | exact ⟨rfl, trivial⟩ | (refine ⟨?_, trivial⟩; dsimp only; simp only [Int.reduceToNat, Int.reduceTDiv, Int.reduceTMod, minL, maxL, pickB, zHB, zSH]; omega) | (refine ⟨?_, trivial⟩; dsimp only; (try simp only [Int.reduceToNat, Int.reduceTDiv, Int.reduceTMod, minL, maxL, pickB, zHB, zSH]); (simp_all; done)) | (refine ⟨?_, trivial⟩; dsimp only; (simp only [Int.reduceToNat, Int.reduceTDiv, Int.reduceTMod, minL, maxL, pickB, zHB, zSH]; done)) | (refine ⟨?_, trivial⟩; dsimp only; (simp; done)))); (conv => whnf))
 | (refine Or.inr (And.intro ?_ ?_); (focus (intro h; have h := h.1; dsimp only at h; first | (exact Bool.noConfusion h) | (simp only [Int.reduceToNat, Int.reduceTDiv, Int.reduceTMod, minL, maxL, pickB, zHB, zSH] at h; omega) | ((try simp only [Int.reduceToNat, Int.reduceTDiv, Int.reduceTMod, minL, maxL, pickB, zHB, zSH] at h); (simp_all; done)))); (conv => whnf))
 | ((with_reducible refine And.intro ?_ ?_); (focus (first | (with_reducible rfl) | omega | rfl | ((try simp only [Int.reduceToNat, Int.reduceTDiv, Int.reduceTMod, minL, maxL, pickB, zHB, zSH, InK, Path.imp, zL] at *); omega))); (conv => whnf))
 | ((with_reducible refine And.intro (Side.out ?_) ?_); rotate_left; (conv => whnf))
 | ((first | refine retF1 ?_ | refine retF2 ?_ | refine subF.leaf ?_ | refine subF.side ?_) <;> (conv => whnf) <;> repeat' (first
 | exact trivial
 | (with_reducible rfl)
 | ((with_reducible refine And.intro ?_ ?_) <;> conv => whnf)
 | omega
 | rfl
 | (refine congrArg (SV.arr _) ?_)
 | (refine congrArg (Value.int _) ?_)
 | (refine congrArg Value.bool ?_)))); all_goals (try unfold Side)
    all_goals try (repeat' (first | (with_reducible rfl) | (with_reducible refine And.intro ?_ ?_) | omega | rfl | exact Or.inl rfl | exact Or.inr rfl | exact of_decide_eq_true rfl | exact Path.imp_of (of_decide_eq_true rfl) | (focus ((try simp only [Int.reduceToNat, Int.reduceTDiv, Int.reduceTMod, minL, maxL, pickB, zHB, zSH, InK, Path.imp, zL] at *); omega)) | (refine app_le rfl ?_; omega)))
  · repeat' (first
 | refine W.seq ?_
 | refine W.block ?_
 | (refine W.regW (id := 999) ?_; refine RegW.cut tys_ok [] [1] 8 ⟨[(1, .padr 8000 0), (2, (.lit (.int .i64 (0 : Int))))], [(8000, .box [.lit (.bool true), .lit (.bool true), .own 8001, .mown 8002, (.lit (.int .i64 ((lr0).2.2 : Int)))]), (8001, .row 105 PT true (lr0).1), (8002, .mat 80 91 NT true (lr0).2.1 none)]⟩ rfl ?_ ?_; (conv => whnf); rotate_left; refine RegW.fin tys_ok [] [1] ?_; (conv => whnf))
 | (refine W.region tys_ok [] ?_; conv => whnf)
 | (refine W.drawAll tys_ok [] mixed rfl ?_; conv => whnf)
 | (refine W.ret ?_; conv => whnf)
 | (refine W.skip ?_; conv => whnf)
 | (refine W.exit ?_; conv => whnf)
 | (refine callM_at (c3) ?_; conv => whnf)
 | (refine Both.mk ?_ ?_ <;> (conv => whnf))
 | (refine W.cond rfl (fun hb => ?_) (fun hb => ?_) <;> (try simp only [Int.reduceToNat, Int.reduceTDiv, Int.reduceTMod, minL, maxL, pickB, zHB, zSH] at hb) <;> (try (first | (cases hb; done) | exact absurd hb (by decide) | (exfalso; omega) | (omega))))
 | (refine Or.inl (And.intro ?_ ?_); (focus (first | exact trivial | exact ⟨rfl, trivial⟩ | (refine ⟨?_, trivial⟩; dsimp only; simp only [Int.reduceToNat, Int.reduceTDiv, Int.reduceTMod, minL, maxL, pickB, zHB, zSH]; omega) | (refine ⟨?_, trivial⟩; dsimp only; (try simp only [Int.reduceToNat, Int.reduceTDiv, Int.reduceTMod, minL, maxL, pickB, zHB, zSH]); (simp_all; done)) | (refine ⟨?_, trivial⟩; dsimp only; (simp only [Int.reduceToNat, Int.reduceTDiv, Int.reduceTMod, minL, maxL, pickB, zHB, zSH]; done)) | (refine ⟨?_, trivial⟩; dsimp only; (simp; done)))); (conv => whnf))
 | (refine Or.inr (And.intro ?_ ?_); (focus (intro h; have h := h.1; dsimp only at h; first | (exact Bool.noConfusion h) | (simp only [Int.reduceToNat, Int.reduceTDiv, Int.reduceTMod, minL, maxL, pickB, zHB, zSH] at h; omega) | ((try simp only [Int.reduceToNat, Int.reduceTDiv, Int.reduceTMod, minL, maxL, pickB, zHB, zSH] at h); (simp_all; done)))); (conv => whnf))
 | ((with_reducible refine And.intro ?_ ?_); (focus (first | (with_reducible rfl) | omega | rfl | ((try simp only [Int.reduceToNat, Int.reduceTDiv, Int.reduceTMod, minL, maxL, pickB, zHB, zSH, InK, Path.imp, zL] at *); omega))); (conv => whnf))
 | ((with_reducible refine And.intro (Side.out ?_) ?_); rotate_left; (conv => whnf))
 | ((first | refine retF1 ?_ | refine retF2 ?_ | refine subF.leaf ?_ | refine subF.side ?_) <;> (conv => whnf) <;> repeat' (first
 | exact trivial
 | (with_reducible rfl)
 | ((with_reducible refine And.intro ?_ ?_) <;> conv => whnf)
 | omega
 | rfl
 | (refine congrArg (SV.arr _) ?_)
 | (refine congrArg (Value.int _) ?_)
 | (refine congrArg Value.bool ?_)))); all_goals (try unfold Side)
    all_goals try (repeat' (first | (with_reducible rfl) | (with_reducible refine And.intro ?_ ?_) | omega | rfl | exact Or.inl rfl | exact Or.inr rfl | exact of_decide_eq_true rfl | exact Path.imp_of (of_decide_eq_true rfl) | (focus ((try simp only [Int.reduceToNat, Int.reduceTDiv, Int.reduceTMod, minL, maxL, pickB, zHB, zSH, InK, Path.imp, zL] at *); omega)) | (refine app_le rfl ?_; omega)))
  · repeat' (first
 | refine W.seq ?_
 | refine W.block ?_
 | (refine W.regW (id := 999) ?_; refine RegW.cut tys_ok [] [1] 8 ⟨[(1, .padr 8000 0), (2, (.lit (.int .i64 (0 : Int))))], [(8000, .box [.lit (.bool true), .lit (.bool true), .own 8001, .mown 8002, (.lit (.int .i64 ((lr0).2.2 : Int)))]), (8001, .row 105 PT true (lr0).1), (8002, .mat 80 91 NT true (lr0).2.1 none)]⟩ rfl ?_ ?_; (conv => whnf); rotate_left; refine RegW.fin tys_ok [] [1] ?_; (conv => whnf))
 | (refine W.region tys_ok [] ?_; conv => whnf)
 | (refine W.drawAll tys_ok [] mixed rfl ?_; conv => whnf)
 | (refine W.ret ?_; conv => whnf)
 | (refine W.skip ?_; conv => whnf)
 | (refine W.exit ?_; conv => whnf)
 | (refine callM_at (c4) ?_; conv => whnf)
 | (refine Both.mk ?_ ?_ <;> (conv => whnf))
 | (refine W.cond rfl (fun hb => ?_) (fun hb => ?_) <;> (try simp only [Int.reduceToNat, Int.reduceTDiv, Int.reduceTMod, minL, maxL, pickB, zHB, zSH] at hb) <;> (try (first | (cases hb; done) | exact absurd hb (by decide) | (exfalso; omega) | (omega))))
 | (refine Or.inl (And.intro ?_ ?_); (focus (first | exact trivial | exact ⟨rfl, trivial⟩ | (refine ⟨?_, trivial⟩; dsimp only; simp only [Int.reduceToNat, Int.reduceTDiv, Int.reduceTMod, minL, maxL, pickB, zHB, zSH]; omega) | (refine ⟨?_, trivial⟩; dsimp only; (try simp only [Int.reduceToNat, Int.reduceTDiv, Int.reduceTMod, minL, maxL, pickB, zHB, zSH]); (simp_all; done)) | (refine ⟨?_, trivial⟩; dsimp only; (simp only [Int.reduceToNat, Int.reduceTDiv, Int.reduceTMod, minL, maxL, pickB, zHB, zSH]; done)) | (refine ⟨?_, trivial⟩; dsimp only; (simp; done)))); (conv => whnf))
 | (refine Or.inr (And.intro ?_ ?_); (focus (intro h; have h := h.1; dsimp only at h; first | (exact Bool.noConfusion h) | (simp only [Int.reduceToNat, Int.reduceTDiv, Int.reduceTMod, minL, maxL, pickB, zHB, zSH] at h; omega) | ((try simp only [Int.reduceToNat, Int.reduceTDiv, Int.reduceTMod, minL, maxL, pickB, zHB, zSH] at h); (simp_all; done)))); (conv => whnf))
 | ((with_reducible refine And.intro ?_ ?_); (focus (first | (with_reducible rfl) | omega | rfl | ((try simp only [Int.reduceToNat, Int.reduceTDiv, Int.reduceTMod, minL, maxL, pickB, zHB, zSH, InK, Path.imp, zL] at *); omega))); (conv => whnf))
 | ((with_reducible refine And.intro (Side.out ?_) ?_); rotate_left; (conv => whnf))
 | ((first | refine retF1 ?_ | refine retF2 ?_ | refine subF.leaf ?_ | refine subF.side ?_) <;> (conv => whnf) <;> repeat' (first
 | exact trivial
 | (with_reducible rfl)
 | ((with_reducible refine And.intro ?_ ?_) <;> conv => whnf)
 | omega
 | rfl
 | (refine congrArg (SV.arr _) ?_)
 | (refine congrArg (Value.int _) ?_)
 | (refine congrArg Value.bool ?_)))); all_goals (try unfold Side)
    all_goals try (repeat' (first | (with_reducible rfl) | (with_reducible refine And.intro ?_ ?_) | omega | rfl | exact Or.inl rfl | exact Or.inr rfl | exact of_decide_eq_true rfl | exact Path.imp_of (of_decide_eq_true rfl) | (focus ((try simp only [Int.reduceToNat, Int.reduceTDiv, Int.reduceTMod, minL, maxL, pickB, zHB, zSH, InK, Path.imp, zL] at *); omega)) | (refine app_le rfl ?_; omega)))
end Go.Proofs.Ytkjcnegkdlmapaa

