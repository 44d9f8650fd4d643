/- TopChosen: whatever the input, the function returns true, and its arguments read as before; the listed variables are tied to the program's text. No condition. -/
import Derived.Test.YtckmhlpngolbpaaDoorRows
import Derived.Test.YtckmhlpngolbpaaDoorCards
import Derived.Test.YtckmhlpngolbpaaDoorTie
import Derived.Lay
import Derived.SevenTiedAt
import Derived.Test.YtckmhlpngolbpaaDoorJ3
import Derived.Test.YtckmhlpngolbpaaDoorJ7

namespace Go.Proofs.YtckmhlpngolbpaaDoor.topChosen
open Go Go.Vc Go.ChangeShapes Go.WideShapes Go.ChangeAt Go.RowKit
set_option linter.unusedVariables false

theorem own : ownKnob Tryd.prog.godebug = none := by kernel_rfl
theorem laidOut : laidOutB Tryd.prog = true := by kernel_rfl
theorem under : Tryd.prog.underlying 4 = some .bool := by kernel_rfl
theorem argsFit : okArgs tys [.cons (.int .u8) (.cons (.int .u8) (.cons (.int .u8) .nil)), .sl (.int .u8)] [22, 23] = true := by decide +kernel
theorem rowed : rowedArgs Tryd.prog [22, 23] = true := by kernel_rfl
theorem meets {H : Type} : ∀ ds : List (DataW H), ds.length = 2 → (Rows.topChosenSpec.fn H ds).results = [.lit (.bool true)] ∧ (Rows.topChosenSpec.fn H ds).args = ds ∧ (Rows.topChosenSpec.fn H ds).vars = []
  | [_, _], _ => ⟨rfl, rfl, rfl⟩
  | [], h => by cases h
  | [_], h => by cases h
  | _ :: _ :: _ :: _, h => by simp at h
set_option maxRecDepth 100000 in
theorem lifted (os : Os) (started : os.Started) (H : Type) (enc : TypeId × Value → H) :
    ReturnsInHanded {} Tryd.checked os 3 .any (fun w args => (Rows.topChosenSpec.pre enc Tryd.prog Tryd.f3 [] false w args ∧ laidMetH Tryd.prog Rows.topChosenRow.laid w) ∧ sizedMet enc Tryd.prog Tryd.f3 (OpenSpec.ofChange Rows.topChosenSpec) false w args)
      (Rows.topChosenSpec.post enc Tryd.prog Tryd.f3 false true false false) := by
  refine returnsInHanded_of_change_and (C := Tryd.checked) (X := fun w _ => laidMetH Tryd.prog Rows.topChosenRow.laid w) (fun _ _ _ hh h => h.of_heap hh) own started (by kernel_rfl) Tryd.func3
    (ChangeSpec.witness_shaped (enc := enc) (C := Tryd.checked) (os := os) (X := fun w _ => laidMetH Tryd.prog Rows.topChosenRow.laid w) false (World.laidAll Tryd.prog os Rows.topChosenRow.laid) #[.agg #[.int .u8 0, .int .u8 0, .int .u8 0], .slice none 0 0] 8 (World.laidAll_os _ _ _)
      (World.shaped_of_ZipB (by kernel_rfl) (by kernel_rfl)) (by kernel_rfl) (by kernel_rfl) (by kernel_rfl)
      (by rw [MakeChecks.laidMetH_plain _ _ _ (by kernel_rfl)]; exact laidMet_laidAll _ (by kernel_rfl) (by kernel_rfl))) ?_
  intro W base args ds gs before hval hW _ _ _ _
  exact law_contract tys_ok laidOut rfl (by rw [Tryd.params3]) rowed (by rfl) under argsFit meets (fun ⟨z0, z1, _⟩ h => TopChosen_at (wf_u8 h.1.1) (wf_u8 h.1.2.1) (wf_u8 h.1.2.2.1) (smo8_wf h.2.1) (len8_wf h.2.1)) hval hW

theorem over : Rows.topChosenRow.holds Tryd.pinned (OpenSpec.ofChange Rows.topChosenSpec) :=
  OpenClaim.holds_of_wide 3 Tryd.f3 rfl rfl rfl rfl rfl rfl rfl ⟨rfl, rfl, rfl, rfl, rfl⟩ rfl rfl rfl rfl rfl (by kernel_rfl) Tryd.func3 (by kernel_rfl)
    (of_decide_eq_true (by kernel_rfl)) (by unfold Func.isWrapper; first | (rw [if_pos (by decide +kernel)]; kernel_rfl) | (rw [if_neg (by decide +kernel)]; exact ⟨rfl, rfl⟩))
    (fun os started H enc _ => lifted os started H enc)

/-- The statement. -/
theorem proved : Rows.TopChosenCardSaid :=
  Claim7.holds_tied_plain_at .later [] [.data, .pinned] true (true, "fb211bea943c145ad9ca17e4dbd71e93b1d653d0b38a58b39f88e08edac958cd") false over (fun _ h => by cases h) (by kernel_rfl) (fun _ h => by cases h) topChosen_row_tie rfl ⟨rfl, rfl⟩ (by kernel_rfl) rfl
    (fun f fn hf hfn => by
      obtain rfl : f = 3 := Option.some.inj ((show Tryd.prog.funcNamed "bolster/bolstertop.TopChosen" = some 3 by kernel_rfl).symm.trans hf) |>.symm
      obtain rfl : fn = Tryd.f3 := (Option.some.inj (Tryd.func3.symm.trans hfn)).symm
      exact ⟨by kernel_rfl, fun j t ht => by
        rw [Tryd.params3] at ht
        have hm : t ∈ [22, 23] := by simpa using Array.mem_of_getElem? ht
        have hall : ([22, 23].all fun u => !Tryd.prog.wantsStandIn u) = true := by kernel_rfl
        exact (show Tryd.prog.wantsStandIn t = false by simpa using List.all_eq_true.1 hall t hm)⟩)
    (by kernel_rfl)
#print axioms proved
end Go.Proofs.YtckmhlpngolbpaaDoor.topChosen
