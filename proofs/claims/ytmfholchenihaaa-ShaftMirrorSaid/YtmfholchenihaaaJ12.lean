/- Joined of: H30 Ha18 Ha19 H33. No condition. -/
import Derived.Test.YtmfholchenihaaaJ9
import Derived.Test.YtmfholchenihaaaJ11
import Derived.Test.YtmfholchenihaaaJ8

namespace Go.Proofs.Ytmfholchenihaaa
open Go Go.Vc Go.Sh
set_option linter.unusedVariables false
set_option linter.unusedSimpArgs false
theorem sm4_wf {x : List Jb} (h : (Ty.sl U4).wf x) : sm4 x := fun i => by
  have h2 : ∀ y ∈ x, U4.wf y := h.2
  by_cases hi : i < x.length
  · have h3 := h2 _ (getD_mem (d := J0) hi)
    exact ⟨wf_u8 h3.1, wf_u8 h3.2.1, wf_u8 h3.2.2.1, wf_u8 h3.2.2.2.1⟩
  · have : x.getD i J0 = J0 := by simp [List.getD, List.getElem?_eq_none (Nat.le_of_not_lt hi)]
    rw [this]; decide
theorem sm2_wf {y : List Od} (h : (Ty.sl U2).wf y) : sm2 y := fun i => by
  have h2 : ∀ z ∈ y, U2.wf z := h.2
  by_cases hi : i < y.length
  · have h3 := h2 _ (getD_mem (d := O0) hi)
    exact ⟨wf_u8 h3.1, wf_u8 h3.2.1⟩
  · have : y.getD i O0 = O0 := by simp [List.getD, List.getElem?_eq_none (Nat.le_of_not_lt hi)]
    rw [this]; decide
theorem made_eq {p Q : Int} {x J : List Jb} {y O : List Od} (hp : 0 ≤ p ∧ p ≤ 255) (hx : sm4 x) (hy : sm2 y) (hQ : Q = p % 6 + 1) (hJ : J = mkJs x) (hO : O = mkOs J.length y) :
    VS Q J O ∧ (1 ≤ Q ∧ Q ≤ 6) ∧ FnAt Try.prog false 27 [.agg [.lit (.int .u8 p), .arr U4 x, .arr U2 y]] (.strct [.lit (.int .i64 Q), .own 0, .own 1]) [(0, .row 45 JT true J), (1, .row 79 OT true O)] := by
  subst hQ hO hJ
  exact ⟨mk_vs (by omega), by omega, made_at hp hx hy⟩
end Go.Proofs.Ytmfholchenihaaa
namespace Go.Sh
set_option linter.unusedVariables false
set_option linter.unusedSimpArgs false
def upL (V : Nat → Int) (i : Nat) : List Int := (List.range i).map V
theorem upL_len {V : Nat → Int} {i : Nat} : (upL V i).length = i := by simp [upL]
theorem upL_get {V : Nat → Int} {i k : Nat} (h : k < i) : (upL V i).getD k 0 = V k := by
  unfold upL
  rw [List.getD_eq_getElem?_getD, List.getElem?_map, List.getElem?_range h]
  rfl
theorem upL_step {V : Nat → Int} {i : Nat} : upL V i ++ [V i] = upL V (i + 1) := by simp [upL, List.range_succ]
end Go.Sh
namespace Go.Sh
set_option linter.unusedVariables false
set_option linter.unusedSimpArgs false
end Go.Sh
namespace Go.Proofs.Ytmfholchenihaaa
open Go Go.Vc Go.Sh
set_option linter.unusedVariables false
set_option linter.unusedSimpArgs false
theorem First_at {P : Int} {l : List Jb} {os : List Od} (h : VS P l os) : FnAt Try.prog true 19 [.agg [I64 P, .arr JT l, .arr OT os]] (.tup [.st true (.narr (.int .i64) (firstT P l os : List Int)), .lit (.int .i64 (if firstT P l os = [] then 5 else 0))]) [] := by
  by_cases e : firstT P l os = []
  · rw [if_pos e, e]; exact First_none h e
  · rw [if_neg e]; exact First_ok h rfl e
end Go.Proofs.Ytmfholchenihaaa

