/- TopOverlaps: whatever the input, the function returns true, and its arguments read as before. No condition. -/
import Derived.Test.YtckmhlpngolbpaaRows
import Derived.Test.YtckmhlpngolbpaaJ3
import Derived.Test.YtckmhlpngolbpaaJ10

namespace Go.Proofs.Ytckmhlpngolbpaa.topOverlaps
open Go Go.Vc Go.ChangeShapes Go.WideShapes Go.ChangeAt Go.RowKit
set_option linter.unusedVariables false

theorem own : ownKnob Try.prog.godebug = none := by kernel_rfl
theorem laidOut : laidOutB Try.prog = true := by kernel_rfl
theorem under : Try.prog.underlying 4 = some .bool := by kernel_rfl
theorem argsFit : okArgs tys [.sl (.cons (.int .u8) (.cons (.int .u8) .nil))] [22] = true := by decide +kernel
theorem rowed : rowedArgs Try.prog [22] = true := by kernel_rfl
theorem meets {H : Type} : ∀ ds : List (DataW H), ds.length = 1 → (Rows.topOverlapsSpec.fn H ds).results = [.lit (.bool true)] ∧ (Rows.topOverlapsSpec.fn H ds).args = ds ∧ (Rows.topOverlapsSpec.fn H ds).vars = []
  | [_], _ => ⟨rfl, rfl, rfl⟩
  | [], h => by cases h
  | _ :: _ :: _, h => by simp at h
set_option maxRecDepth 100000 in
theorem lifted (os : Os) (started : os.Started) (H : Type) (enc : TypeId × Value → H) :
    ReturnsInHanded {} Try.checked os 4 .any (Rows.topOverlapsSpec.pre6 enc Try.prog Try.f4 Rows.topOverlapsRow.domain false) (Rows.topOverlapsSpec.post enc Try.prog Try.f4 false true false false) := by
  refine returnsInHanded_of_change (C := Try.checked) own started (by kernel_rfl) Try.func4
    (ChangeSpec.witness6 (enc := enc) (C := Try.checked) false ⟨#[], #[.slice none 0 0], []⟩ 8 (by kernel_rfl) (by kernel_rfl) (by kernel_rfl) (by kernel_rfl)) ?_
  intro W base args ds gs before hval hW _ _
  exact law_contract tys_ok laidOut rfl (by rw [Try.params4]) rowed (by rfl) under argsFit meets (fun ⟨z0, _⟩ h => TopOverlaps_at (sm2o_wf h.1)) hval hW

theorem over : Rows.topOverlapsRow.holds Try.pinned (OpenSpec.ofChange Rows.topOverlapsSpec) :=
  OpenClaim.holds_of_wide 4 Try.f4 rfl rfl rfl rfl rfl rfl rfl ⟨rfl, rfl, rfl, rfl, rfl⟩ rfl rfl rfl rfl rfl (by kernel_rfl) Try.func4 (by kernel_rfl)
    (of_decide_eq_true (by kernel_rfl)) (by unfold Func.isWrapper; first | (rw [if_pos (by decide +kernel)]; kernel_rfl) | (rw [if_neg (by decide +kernel)]; exact ⟨rfl, rfl⟩))
    (fun os started H enc _ => lifted os started H enc)

/-- The statement. -/
theorem proved : Rows.TopOverlapsSaid := over
#print axioms proved
end Go.Proofs.Ytckmhlpngolbpaa.topOverlaps
