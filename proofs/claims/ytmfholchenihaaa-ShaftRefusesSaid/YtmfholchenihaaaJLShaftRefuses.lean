/- ShaftRefuses: whatever the input, the function returns true, and its arguments read as before. No condition. -/
import Derived.Test.YtmfholchenihaaaRows
import Derived.Test.YtmfholchenihaaaJ3
import Derived.Test.YtmfholchenihaaaJ14

namespace Go.Proofs.Ytmfholchenihaaa.shaftRefuses
open Go Go.Vc Go.ChangeShapes Go.WideShapes Go.ChangeAt Go.RowKit
set_option linter.unusedVariables false

theorem own : ownKnob Try.prog.godebug = none := by kernel_rfl
theorem laidOut : laidOutB Try.prog = true := by kernel_rfl
theorem under : Try.prog.underlying 4 = some .bool := by kernel_rfl
theorem argsFit : okArgs tys [.cons (.int .i64) (.cons (.sl JT) (.cons (.sl OT) .nil))] [25] = true := by decide +kernel
theorem rowed : rowedArgs Try.prog [25] = true := by kernel_rfl
theorem meets {H : Type} : ∀ ds : List (DataW H), ds.length = 1 → (Rows.shaftRefusesSpec.fn H ds).results = [.lit (.bool true)] ∧ (Rows.shaftRefusesSpec.fn H ds).args = ds ∧ (Rows.shaftRefusesSpec.fn H ds).vars = []
  | [_], _ => ⟨rfl, rfl, rfl⟩
  | [], h => by cases h
  | _ :: _ :: _, h => by simp at h
set_option maxRecDepth 100000 in
theorem lifted (os : Os) (started : os.Started) (H : Type) (enc : TypeId × Value → H) :
    ReturnsInHanded {} Try.checked os 4 .any (Rows.shaftRefusesSpec.pre6 enc Try.prog Try.f4 Rows.shaftRefusesRow.domain false) (Rows.shaftRefusesSpec.post enc Try.prog Try.f4 false true false false) := by
  refine returnsInHanded_of_change (C := Try.checked) own started (by kernel_rfl) Try.func4
    (ChangeSpec.witness6 (enc := enc) (C := Try.checked) false ⟨#[], #[.agg #[.int .i64 0, .slice none 0 0, .slice none 0 0]], []⟩ 8 (by kernel_rfl) (by kernel_rfl) (by kernel_rfl) (by kernel_rfl)) ?_
  intro W base args ds gs before hval hW _ _
  exact law_contract tys_ok laidOut rfl (by rw [Try.params4]) rowed (by rfl) under argsFit meets (fun ⟨z0, _⟩ h => ShaftRefuses_at z0.1 z0.2.1 z0.2.2.1) hval hW

theorem over : Rows.shaftRefusesRow.holds Try.pinned (OpenSpec.ofChange Rows.shaftRefusesSpec) :=
  OpenClaim.holds_of_wide 4 Try.f4 rfl rfl rfl rfl rfl rfl rfl ⟨rfl, rfl, rfl, rfl, rfl⟩ rfl rfl rfl rfl rfl (by kernel_rfl) Try.func4 (by kernel_rfl)
    (of_decide_eq_true (by kernel_rfl)) (by unfold Func.isWrapper; first | (rw [if_pos (by decide +kernel)]; kernel_rfl) | (rw [if_neg (by decide +kernel)]; exact ⟨rfl, rfl⟩))
    (fun os started H enc _ => lifted os started H enc)

/-- The statement. -/
theorem proved : Rows.ShaftRefusesSaid := over
#print axioms proved
end Go.Proofs.Ytmfholchenihaaa.shaftRefuses
