/- Joined of: K10 K11 K13. No condition. -/
import Derived.Test.YtkjcnegkdlmapaaJ8
import Derived.Test.YtkjcnegkdlmapaaJ11

namespace Go.Proofs.Ytkjcnegkdlmapaa
open Go Go.Vc Go.Rg
set_option linter.unusedVariables false
set_option linter.unusedSimpArgs false
variable {hs : List Hd} {fl : List Lt}
end Go.Proofs.Ytkjcnegkdlmapaa
namespace Go.Proofs.Ytkjcnegkdlmapaa
open Go Go.Vc Go.Rg
set_option linter.unusedVariables false
set_option linter.unusedSimpArgs false
variable {hs : List Hd} {fl : List Lt}
end Go.Proofs.Ytkjcnegkdlmapaa
namespace Go.Proofs.Ytkjcnegkdlmapaa
open Go Go.Vc Go.Rg
set_option linter.unusedVariables false
set_option linter.unusedSimpArgs false
variable {n : Nat} {w w2 : Wk} {e : Int}
theorem send_cases {a b : Int} (h : WOk n w) (he : sendE a b w = e) (hw : sendK a b w = w2) :
    ((hasB w.1.length a && hasB w.1.length b) = false ∧ e = 1 ∧ w2 = w) ∨ ∃ f x : Nat, a = f ∧ b = x ∧ f < w.1.length ∧ x < w.1.length ∧
      ((gw w.1 f = false ∧ e = 5 ∧ w2 = w) ∨ (gw w.1 f = true ∧ 200 ≤ w.2.length ∧ e = 7 ∧ w2 = w) ∨
        (gw w.1 f = true ∧ ¬ 200 ≤ w.2.length ∧ e = 0 ∧ w2 = (setO w.1 f (go w.1 f + 1), w.2 ++ [((f : Int), (x : Int), false, ())]))) := by
  unfold sendK at hw
  rw [he] at hw
  unfold sendE at he
  split at he
  · rename_i h1
    rw [Bool.and_eq_true] at h1
    obtain ⟨f, rfl, hf⟩ := has_nat h1.1
    obtain ⟨x, rfl, hx⟩ := has_nat h1.2
    rw [Int.toNat_natCast] at he hw
    refine .inr ⟨f, x, rfl, rfl, hf, hx, ?_⟩
    split at he
    · rename_i h2
      split at he
      · rename_i h3
        subst he
        rw [if_neg (by decide)] at hw
        exact .inr (.inl ⟨h2, h3, rfl, hw.symm⟩)
      · rename_i h3
        subst he
        rw [if_pos rfl] at hw
        exact .inr (.inr ⟨h2, h3, rfl, hw.symm⟩)
    · rename_i h2
      subst he
      rw [if_neg (by decide)] at hw
      exact .inl ⟨by simpa using h2, rfl, hw.symm⟩
  · rename_i h1
    subst he
    rw [if_neg (by decide)] at hw
    exact .inl ⟨by simpa using h1, rfl, hw.symm⟩
theorem idle_cases {i : Int} (h : WOk n w) (he : idleE i w = e) (hw : idleK i w = w2) :
    (hasB w.1.length i = false ∧ e = 1 ∧ w2 = w) ∨ ∃ f : Nat, i = f ∧ f < w.1.length ∧
      ((gw w.1 f = false ∧ e = 5 ∧ w2 = w) ∨ (gw w.1 f = true ∧ goesI w.1 f = true ∧ 200 ≤ w.2.length ∧ e = 7 ∧ w2 = w) ∨
        (gw w.1 f = true ∧ ¬ (goesI w.1 f = true ∧ 200 ≤ w.2.length) ∧ e = 0 ∧ w2 = settL f (setW w.1 f false, w.2))) := by
  unfold idleK at hw
  rw [he] at hw
  unfold idleE at he
  split at he
  · rename_i h1
    obtain ⟨f, rfl, hf⟩ := has_nat h1
    rw [Int.toNat_natCast] at he hw
    refine .inr ⟨f, rfl, hf, ?_⟩
    split at he
    · rename_i h2
      split at he
      · rename_i h3
        subst he
        rw [if_neg (by decide)] at hw
        exact .inr (.inl ⟨h2, h3.1, h3.2, rfl, hw.symm⟩)
      · rename_i h3
        subst he
        rw [if_pos rfl] at hw
        exact .inr (.inr ⟨h2, h3, rfl, hw.symm⟩)
    · rename_i h2
      subst he
      rw [if_neg (by decide)] at hw
      exact .inl ⟨by simpa using h2, rfl, hw.symm⟩
  · rename_i h1
    subst he
    rw [if_neg (by decide)] at hw
    exact .inl ⟨by simpa using h1, rfl, hw.symm⟩
theorem del_cases {k : Int} (h : WOk n w) (he : delE k w = e) (hw : delK k w = w2) :
    (hasB w.2.length k = false ∧ e = 1 ∧ w2 = w) ∨ ∃ (j f x : Nat) (b : Bool), k = j ∧ j < w.2.length ∧ w.2.getD j L0 = ((f : Int), (x : Int), b, ()) ∧ x < w.1.length ∧ (0 ≤ go w.1 x ∧ go w.1 x ≤ 1000) ∧ e = 0 ∧ w2 = delL j w := by
  unfold delK at hw
  rw [he] at hw
  unfold delE at he
  split at he
  · rename_i h1
    subst he
    rw [if_pos rfl] at hw
    obtain ⟨j, rfl, hj⟩ := has_nat h1
    rw [Int.toNat_natCast] at hw
    obtain ⟨⟨v1, v2⟩, v3, v4⟩ := h.let hj
    obtain ⟨f, hf⟩ : ∃ f : Nat, (f : Int) = (w.2.getD j L0).1 := ⟨(w.2.getD j L0).1.toNat, by omega⟩
    obtain ⟨x, hx⟩ : ∃ x : Nat, (x : Int) = (w.2.getD j L0).2.1 := ⟨(w.2.getD j L0).2.1.toNat, by omega⟩
    have hxl : x < n := by omega
    have := h.owed hxl
    refine .inr ⟨j, f, x, (w.2.getD j L0).2.2.1, rfl, hj, by rw [hf, hx], by rw [h.len]; exact hxl, by omega, rfl, hw.symm⟩
  · rename_i h1
    subst he
    rw [if_neg (by decide)] at hw
    exact .inl ⟨by simpa using h1, rfl, hw.symm⟩
theorem send_at {a b : Int} (h : WOk n w) (he : sendE a b w = e) (hw : sendK a b w = w2) : FnM Try.prog 38 [.padr 1000000000 0, (.lit (.int .i64 (a : Int))), (.lit (.int .i64 (b : Int)))] [(1000000000, .box [.own 1000000001, .own 5]), (1000000001, .row 96 HT true (w).1), (5, .row 50 LT true (w).2)] (.lit (.int .i64 (e : Int))) [(1000000000, .box [.own 1000000001, .own 5]), (1000000001, .row 96 HT true (w2).1), (5, .row 50 LT true (w2).2)] := by
  have h0 : 0 < w.1.length := by rw [h.len]; exact h.n0
  have hf := h.fl
  rcases send_cases h he hw with ⟨h1, rfl, rfl⟩ | ⟨f, x, rfl, rfl, hf, hx, ⟨h1, rfl, rfl⟩ | ⟨h1, h2, rfl, rfl⟩ | ⟨h1, h2, rfl, rfl⟩⟩
  · exact send_arg h0 h1
  · exact send_none hf hx h1
  · exact send_full hf hx h1 h2
  · have := h.owed (i := f) (by rw [← h.len]; exact hf)
    exact send_ok hf hx h1 h2 (by omega)
theorem idle_at {i : Int} (h : WOk n w) (he : idleE i w = e) (hw : idleK i w = w2) : FnM Try.prog 19 [.padr 1000000000 0, (.lit (.int .i64 (i : Int)))] [(1000000000, .box [.own 1000000001, .own 5]), (1000000001, .row 96 HT true (w).1), (5, .row 50 LT true (w).2)] (.lit (.int .i64 (e : Int))) [(1000000000, .box [.own 1000000001, .own 5]), (1000000001, .row 96 HT true (w2).1), (5, .row 50 LT true (w2).2)] := by
  have h0 : 0 < w.1.length := by rw [h.len]; exact h.n0
  have hf := h.fl
  rcases idle_cases h he hw with ⟨h1, rfl, rfl⟩ | ⟨f, rfl, hf, ⟨h1, rfl, rfl⟩ | ⟨h1, h2, h3, rfl, rfl⟩ | ⟨h1, h2, rfl, rfl⟩⟩
  · exact idle_arg h0 h1
  · exact idle_none hf h1
  · exact idle_full hf h1 h2 h3
  · exact idle_ok hf h1 h2 (by omega) rfl
theorem deliver_at {k : Int} (h : WOk n w) (he : delE k w = e) (hw : delK k w = w2) : FnM Try.prog 21 [.padr 1000000000 0, (.lit (.int .i64 (k : Int)))] [(1000000000, .box [.own 1000000001, .own 5]), (1000000001, .row 96 HT true (w).1), (5, .row 50 LT true (w).2)] (.lit (.int .i64 (e : Int))) [(1000000000, .box [.own 1000000001, .own 5]), (1000000001, .row 96 HT true (w2).1), (5, .row 50 LT true (w2).2)] := by
  have h0 : 0 < w.1.length := by rw [h.len]; exact h.n0
  have hf := h.fl
  rcases del_cases h he hw with ⟨h1, rfl, rfl⟩ | ⟨j, f, x, b, rfl, hj, hm, hx, ho, rfl, rfl⟩
  · exact deliver_arg h0 h1
  · have e0 : delL j w = if b = true then settL x (setO w.1 x (go w.1 x - 1), era w.2 j) else if ge w.1 x = true then (setW w.1 x true, era w.2 j ++ [((x : Int), (f : Int), true, ())]) else (w.1.set x (true, true, (f : Int), go w.1 x, ()), era w.2 j) := by
      unfold delL; rw [hm]; rfl
    rw [e0]
    cases b with
    | true =>
      rw [if_pos rfl]
      exact deliver_ack h0 hj (by omega) hx hm ho rfl
    | false =>
      rw [if_neg (by decide)]
      cases hg : ge w.1 x with
      | true =>
        rw [if_pos rfl]
        exact deliver_eng h0 hj (by omega) hx hm hg
      | false =>
        rw [if_neg (by decide)]
        exact deliver_new h0 hj (by omega) hx hm hg
end Go.Proofs.Ytkjcnegkdlmapaa

