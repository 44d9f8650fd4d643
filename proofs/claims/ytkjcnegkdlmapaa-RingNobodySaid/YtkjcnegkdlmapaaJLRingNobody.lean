/- RingNobody: whatever the input, the function returns true, and its arguments read as before. No condition. -/
import Derived.Test.YtkjcnegkdlmapaaRows
import Derived.Test.YtkjcnegkdlmapaaJ3
import Derived.Test.YtkjcnegkdlmapaaJ11

namespace Go.Proofs.Ytkjcnegkdlmapaa.ringNobody
open Go Go.Vc Go.ChangeShapes Go.WideShapes Go.ChangeAt Go.RowKit
set_option linter.unusedVariables false

theorem own : ownKnob Try.prog.godebug = none := by kernel_rfl
theorem laidOut : laidOutB Try.prog = true := by kernel_rfl
theorem under : Try.prog.underlying 4 = some .bool := by kernel_rfl
theorem argsFit : okArgs tys [.int .i64, .int .i64] [3, 3] = true := by decide +kernel
theorem rowed : rowedArgs Try.prog [3, 3] = true := by kernel_rfl
theorem meets {H : Type} : ∀ ds : List (DataW H), ds.length = 2 → (Rows.ringNobodySpec.fn H ds).results = [.lit (.bool true)] ∧ (Rows.ringNobodySpec.fn H ds).args = ds ∧ (Rows.ringNobodySpec.fn H ds).vars = []
  | [_, _], _ => ⟨rfl, rfl, rfl⟩
  | [], h => by cases h
  | [_], h => by cases h
  | _ :: _ :: _ :: _, h => by simp at h
set_option maxRecDepth 100000 in
theorem lifted (os : Os) (started : os.Started) (H : Type) (enc : TypeId × Value → H) :
    ReturnsInHanded {} Try.checked os 13 .any (Rows.ringNobodySpec.pre6 enc Try.prog Try.f13 Rows.ringNobodyRow.domain false) (Rows.ringNobodySpec.post enc Try.prog Try.f13 false true false false) := by
  refine returnsInHanded_of_change (C := Try.checked) own started (by kernel_rfl) Try.func13
    (ChangeSpec.witness6 (enc := enc) (C := Try.checked) false ⟨#[], #[.int .i64 0, .int .i64 0], []⟩ 8 (by kernel_rfl) (by kernel_rfl) (by kernel_rfl) (by kernel_rfl)) ?_
  intro W base args ds gs before hval hW _ _
  exact law_contract tys_ok laidOut rfl (by rw [Try.params13]) rowed (by rfl) under argsFit meets (fun ⟨z0, z1, _⟩ h => RingNobody_at z0 z1) hval hW

theorem over : Rows.ringNobodyRow.holds Try.pinned (OpenSpec.ofChange Rows.ringNobodySpec) :=
  OpenClaim.holds_of_wide 13 Try.f13 rfl rfl rfl rfl rfl rfl rfl ⟨rfl, rfl, rfl, rfl, rfl⟩ rfl rfl rfl rfl rfl (by kernel_rfl) Try.func13 (by kernel_rfl)
    (of_decide_eq_true (by kernel_rfl)) (by unfold Func.isWrapper; first | (rw [if_pos (by decide +kernel)]; kernel_rfl) | (rw [if_neg (by decide +kernel)]; exact ⟨rfl, rfl⟩))
    (fun os started H enc _ => lifted os started H enc)

/-- The statement. -/
theorem proved : Rows.RingNobodySaid := over
#print axioms proved
end Go.Proofs.Ytkjcnegkdlmapaa.ringNobody
