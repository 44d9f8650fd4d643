/- RingCloned: whatever the input, the function returns true, and its arguments read as before. No condition. -/
import Derived.Test.YtkjcnegkdlmapaaRows
import Derived.Test.YtkjcnegkdlmapaaJ3
import Derived.Test.YtkjcnegkdlmapaaJ14

namespace Go.Proofs.Ytkjcnegkdlmapaa.ringCloned
open Go Go.Vc Go.ChangeShapes Go.WideShapes Go.ChangeAt Go.RowKit
set_option linter.unusedVariables false

theorem own : ownKnob Try.prog.godebug = none := by kernel_rfl
theorem laidOut : laidOutB Try.prog = true := by kernel_rfl
theorem under : Try.prog.underlying 4 = some .bool := by kernel_rfl
theorem argsFit : okArgs tys [.sl (.int .u16), .sl U3, .sl U3] [22, 31, 31] = true := by decide +kernel
theorem rowed : rowedArgs Try.prog [22, 31, 31] = true := by kernel_rfl
theorem meets {H : Type} : ∀ ds : List (DataW H), ds.length = 3 → (Rows.ringClonedSpec.fn H ds).results = [.lit (.bool true)] ∧ (Rows.ringClonedSpec.fn H ds).args = ds ∧ (Rows.ringClonedSpec.fn H ds).vars = []
  | [_, _, _], _ => ⟨rfl, rfl, rfl⟩
  | [], h => by cases h
  | [_], h => by cases h
  | [_, _], h => by cases h
  | _ :: _ :: _ :: _ :: _, h => by simp at h
set_option maxRecDepth 100000 in
theorem lifted (os : Os) (started : os.Started) (H : Type) (enc : TypeId × Value → H) :
    ReturnsInHanded {} Try.checked os 12 .any (Rows.ringClonedSpec.pre6 enc Try.prog Try.f12 Rows.ringClonedRow.domain false) (Rows.ringClonedSpec.post enc Try.prog Try.f12 false true false false) := by
  refine returnsInHanded_of_change (C := Try.checked) own started (by kernel_rfl) Try.func12
    (ChangeSpec.witness6 (enc := enc) (C := Try.checked) false ⟨#[], #[.slice none 0 0, .slice none 0 0, .slice none 0 0], []⟩ 8 (by kernel_rfl) (by kernel_rfl) (by kernel_rfl) (by kernel_rfl)) ?_
  intro W base args ds gs before hval hW _ _
  exact law_contract tys_ok laidOut rfl (by rw [Try.params12]) rowed (by rfl) under argsFit meets (fun ⟨z0, z1, z2, _⟩ h => RingCloned_at (smw_wf h.1) (sm3_wf h.2.1) (sm3_wf h.2.2.1)) hval hW

theorem over : Rows.ringClonedRow.holds Try.pinned (OpenSpec.ofChange Rows.ringClonedSpec) :=
  OpenClaim.holds_of_wide 12 Try.f12 rfl rfl rfl rfl rfl rfl rfl ⟨rfl, rfl, rfl, rfl, rfl⟩ rfl rfl rfl rfl rfl (by kernel_rfl) Try.func12 (by kernel_rfl)
    (of_decide_eq_true (by kernel_rfl)) (by unfold Func.isWrapper; first | (rw [if_pos (by decide +kernel)]; kernel_rfl) | (rw [if_neg (by decide +kernel)]; exact ⟨rfl, rfl⟩))
    (fun os started H enc _ => lifted os started H enc)

/-- The statement. -/
theorem proved : Rows.RingClonedSaid := over
#print axioms proved
end Go.Proofs.Ytkjcnegkdlmapaa.ringCloned
