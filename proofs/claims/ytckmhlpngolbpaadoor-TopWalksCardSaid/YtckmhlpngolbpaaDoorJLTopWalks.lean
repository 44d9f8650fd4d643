/- TopWalks: whatever the input, the function returns true, and its arguments read as before; the listed variables are tied to the program's text. No condition. -/
import Derived.Test.YtckmhlpngolbpaaDoorRows
import Derived.Test.YtckmhlpngolbpaaDoorCards
import Derived.Test.YtckmhlpngolbpaaDoorTie
import Derived.Lay
import Derived.SevenTiedAt
import Derived.Test.YtckmhlpngolbpaaDoorJ3
import Derived.Test.YtckmhlpngolbpaaDoorJ11

namespace Go.Proofs.YtckmhlpngolbpaaDoor.topWalks
open Go Go.Vc Go.ChangeShapes Go.WideShapes Go.ChangeAt Go.RowKit
set_option linter.unusedVariables false

theorem own : ownKnob Tryd.prog.godebug = none := by kernel_rfl
theorem laidOut : laidOutB Tryd.prog = true := by kernel_rfl
theorem under : Tryd.prog.underlying 4 = some .bool := by kernel_rfl
theorem argsFit : okArgs tys [.int .u8, .int .u8, .int .u8] [5, 5, 5] = true := by decide +kernel
theorem rowed : rowedArgs Tryd.prog [5, 5, 5] = true := by kernel_rfl
theorem meets {H : Type} : ∀ ds : List (DataW H), ds.length = 3 → (Rows.topWalksSpec.fn H ds).results = [.lit (.bool true)] ∧ (Rows.topWalksSpec.fn H ds).args = ds ∧ (Rows.topWalksSpec.fn H ds).vars = []
  | [_, _, _], _ => ⟨rfl, rfl, rfl⟩
  | [], h => by cases h
  | [_], h => by cases h
  | [_, _], h => by cases h
  | _ :: _ :: _ :: _ :: _, h => by simp at h
set_option maxRecDepth 100000 in
theorem lifted (os : Os) (started : os.Started) (H : Type) (enc : TypeId × Value → H) :
    ReturnsInHanded {} Tryd.checked os 4 .any (fun w args => (Rows.topWalksSpec.pre enc Tryd.prog Tryd.f4 [] false w args ∧ laidMetH Tryd.prog Rows.topWalksRow.laid w) ∧ sizedMet enc Tryd.prog Tryd.f4 (OpenSpec.ofChange Rows.topWalksSpec) false w args)
      (Rows.topWalksSpec.post enc Tryd.prog Tryd.f4 false true false false) := by
  refine returnsInHanded_of_change_and (C := Tryd.checked) (X := fun w _ => laidMetH Tryd.prog Rows.topWalksRow.laid w) (fun _ _ _ hh h => h.of_heap hh) own started (by kernel_rfl) Tryd.func4
    (ChangeSpec.witness_shaped (enc := enc) (C := Tryd.checked) (os := os) (X := fun w _ => laidMetH Tryd.prog Rows.topWalksRow.laid w) false (World.laidAll Tryd.prog os Rows.topWalksRow.laid) #[.int .u8 0, .int .u8 0, .int .u8 0] 8 (World.laidAll_os _ _ _)
      (World.shaped_of_ZipB (by kernel_rfl) (by kernel_rfl)) (by kernel_rfl) (by kernel_rfl) (by kernel_rfl)
      (by rw [MakeChecks.laidMetH_plain _ _ _ (by kernel_rfl)]; exact laidMet_laidAll _ (by kernel_rfl) (by kernel_rfl))) ?_
  intro W base args ds gs before hval hW _ _ _ _
  exact law_contract tys_ok laidOut rfl (by rw [Tryd.params4]) rowed (by rfl) under argsFit meets (fun ⟨z0, z1, z2, _⟩ h => TopWalks_at (wf_u8 h.1) (wf_u8 h.2.1) (wf_u8 h.2.2.1)) hval hW

theorem over : Rows.topWalksRow.holds Tryd.pinned (OpenSpec.ofChange Rows.topWalksSpec) :=
  OpenClaim.holds_of_wide 4 Tryd.f4 rfl rfl rfl rfl rfl rfl rfl ⟨rfl, rfl, rfl, rfl, rfl⟩ rfl rfl rfl rfl rfl (by kernel_rfl) Tryd.func4 (by kernel_rfl)
    (of_decide_eq_true (by kernel_rfl)) (by unfold Func.isWrapper; first | (rw [if_pos (by decide +kernel)]; kernel_rfl) | (rw [if_neg (by decide +kernel)]; exact ⟨rfl, rfl⟩))
    (fun os started H enc _ => lifted os started H enc)

/-- The statement. -/
theorem proved : Rows.TopWalksCardSaid :=
  Claim7.holds_tied_plain_at .later [] [.data, .pinned] true (true, "fb211bea943c145ad9ca17e4dbd71e93b1d653d0b38a58b39f88e08edac958cd") false over (fun _ h => by cases h) (by kernel_rfl) (fun _ h => by cases h) topWalks_row_tie rfl ⟨rfl, rfl⟩ (by kernel_rfl) rfl
    (fun f fn hf hfn => by
      obtain rfl : f = 4 := Option.some.inj ((show Tryd.prog.funcNamed "bolster/bolstertop.TopWalks" = some 4 by kernel_rfl).symm.trans hf) |>.symm
      obtain rfl : fn = Tryd.f4 := (Option.some.inj (Tryd.func4.symm.trans hfn)).symm
      exact ⟨by kernel_rfl, fun j t ht => by
        rw [Tryd.params4] at ht
        have hm : t ∈ [5, 5, 5] := by simpa using Array.mem_of_getElem? ht
        have hall : ([5, 5, 5].all fun u => !Tryd.prog.wantsStandIn u) = true := by kernel_rfl
        exact (show Tryd.prog.wantsStandIn t = false by simpa using List.all_eq_true.1 hall t hm)⟩)
    (by kernel_rfl)
#print axioms proved
end Go.Proofs.YtckmhlpngolbpaaDoor.topWalks
