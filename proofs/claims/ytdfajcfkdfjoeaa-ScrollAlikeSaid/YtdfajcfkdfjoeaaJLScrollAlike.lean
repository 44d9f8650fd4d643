/- ScrollAlike: whatever the input, the function returns true, and its arguments read as before. No condition. -/
import Derived.Test.YtdfajcfkdfjoeaaRows
import Derived.Test.YtdfajcfkdfjoeaaJ3
import Derived.Test.YtdfajcfkdfjoeaaJ7

namespace Go.Proofs.Ytdfajcfkdfjoeaa.scrollAlike
open Go Go.Vc Go.ChangeShapes Go.WideShapes Go.ChangeAt Go.RowKit
set_option linter.unusedVariables false

theorem own : ownKnob Try.prog.godebug = none := by kernel_rfl
theorem laidOut : laidOutB Try.prog = true := by kernel_rfl
theorem under : Try.prog.underlying 4 = some .bool := by kernel_rfl
theorem argsFit : okArgs tys [.sl (.cons (.int .u8) (.cons (.int .u8) .nil)), .int .u8, .bool] [43, 5, 4] = true := by decide +kernel
theorem rowed : rowedArgs Try.prog [43, 5, 4] = true := by kernel_rfl
theorem meets {H : Type} : ∀ ds : List (DataW H), ds.length = 3 → (Rows.scrollAlikeSpec.fn H ds).results = [.lit (.bool true)] ∧ (Rows.scrollAlikeSpec.fn H ds).args = ds ∧ (Rows.scrollAlikeSpec.fn H ds).vars = []
  | [_, _, _], _ => ⟨rfl, rfl, rfl⟩
  | [], h => by cases h
  | [_], h => by cases h
  | [_, _], h => by cases h
  | _ :: _ :: _ :: _ :: _, h => by simp at h
set_option maxRecDepth 100000 in
theorem lifted (os : Os) (started : os.Started) (H : Type) (enc : TypeId × Value → H) :
    ReturnsInHanded {} Try.checked os 14 .any (Rows.scrollAlikeSpec.pre6 enc Try.prog Try.f14 Rows.scrollAlikeRow.domain false) (Rows.scrollAlikeSpec.post enc Try.prog Try.f14 false true false false) := by
  refine returnsInHanded_of_change (C := Try.checked) own started (by kernel_rfl) Try.func14
    (ChangeSpec.witness6 (enc := enc) (C := Try.checked) false ⟨#[], #[.slice none 0 0, .int .u8 0, .bool false], []⟩ 8 (by kernel_rfl) (by kernel_rfl) (by kernel_rfl) (by kernel_rfl)) ?_
  intro W base args ds gs before hval hW _ _
  exact law_contract tys_ok laidOut rfl (by rw [Try.params14]) rowed (by rfl) under argsFit meets (fun ⟨z0, z1, z2, _⟩ h => ScrollAlike_at (small_wf h.1) (wf_u8 h.2.1).1 (wf_u8 h.2.1).2 z2) hval hW

theorem over : Rows.scrollAlikeRow.holds Try.pinned (OpenSpec.ofChange Rows.scrollAlikeSpec) :=
  OpenClaim.holds_of_wide 14 Try.f14 rfl rfl rfl rfl rfl rfl rfl ⟨rfl, rfl, rfl, rfl, rfl⟩ rfl rfl rfl rfl rfl (by kernel_rfl) Try.func14 (by kernel_rfl)
    (of_decide_eq_true (by kernel_rfl)) (by unfold Func.isWrapper; first | (rw [if_pos (by decide +kernel)]; kernel_rfl) | (rw [if_neg (by decide +kernel)]; exact ⟨rfl, rfl⟩))
    (fun os started H enc _ => lifted os started H enc)

/-- The statement. -/
theorem proved : Rows.ScrollAlikeSaid := over
#print axioms proved
end Go.Proofs.Ytdfajcfkdfjoeaa.scrollAlike
