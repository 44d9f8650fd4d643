/-
  No cell of these rows narrows 'for every input' (looked for: loops, veiled, ifaces, maps, wideKeys, modest, calm, conditions, laid).
  DERIVED. THE GIVEN ROWS OF THIS SEAT. 12 by the template 'for every input the law returns true; each argument reads behind the call as it read before'; 0 by the template 'total and deterministic' (their statements: YtdfajcfkdfjoeaaTotals.lean).
  GIVEN WITH THE SEED: the statements are not yours to turn. If you find one false, say at which input.
  Laid BY PROGRAM, IN A SANDBOX (cutbox-rows.mjs): the forced cells as the released guide's own fill.sh prints them over the translation bb57923960fc4b19… (all of the seat's roots in one cut). By AI agents, Wed Nov 11 2026. No macro, syntax, notation, axiom, sorry.
-/
import Derived.Test.YtdfajcfkdfjoeaaChecked
import GoSem.Claim
import GoSem.ClaimJoined
import GoSem.ClaimMapViews
import Derived.JoinedTies
import Derived.KernelRfl
namespace Go.Proofs.Ytdfajcfkdfjoeaa
/- THE CELL 'sum', in the pinned program and in every row, IS THE sha256 OF THE DUMP (.gsa) THAT YtdfajcfkdfjoeaaProg.lean LOADS. Nothing in Lean hashes anything: it is a label: what it is worth is what the hold of that sum in a sandbox is worth. -/
noncomputable def Try.pinned : Pinned := { name := "ytdfajcfkdfjoeaa", sum := "bb57923960fc4b19957ca670bd5ab67a1cdd9a09b0d0304ff025a4b7f556f788", checked := Try.checked }
namespace Rows
def none {H : Type} : Left H := { results := [], args := [] }

/-- 'bolsterlaw08.ScrollPlanes': WHATEVER THE INPUT: true; the input reads as it did. -/
def scrollPlanesSpec : ChangeSpec := { name := "scrollPlanes", fn := fun _ => fun
  | [d] => { results := [.lit (.bool true)], args := [d] }
  | _ => none }
def scrollPlanesRow : OpenClaim := { program := "ytdfajcfkdfjoeaa", sum := "bb57923960fc4b19957ca670bd5ab67a1cdd9a09b0d0304ff025a4b7f556f788", func := "bolster/bolsterlaw08.ScrollPlanes", spec := "scrollPlanes", unfollowed := true, recurses := true, apart := false }
def ScrollPlanesSaid : Prop := scrollPlanesRow.holds Try.pinned (OpenSpec.ofChange scrollPlanesSpec)

/-- ITS FALSE NEIGHBOUR: 'it returns false'. Refute it at one input. -/
def scrollPlanesWrong : ChangeSpec := { name := "scrollPlanes", fn := fun _ => fun
  | [d] => { results := [.lit (.bool false)], args := [d] }
  | _ => none }
def ScrollPlanesWrongFalsely : Prop := scrollPlanesRow.holds Try.pinned (OpenSpec.ofChange scrollPlanesWrong)

/-- 'bolsterlaw08.ScrollLeasts': WHATEVER THE INPUT: true; the input reads as it did. -/
def scrollLeastsSpec : ChangeSpec := { name := "scrollLeasts", fn := fun _ => fun
  | [d] => { results := [.lit (.bool true)], args := [d] }
  | _ => none }
def scrollLeastsRow : OpenClaim := { program := "ytdfajcfkdfjoeaa", sum := "bb57923960fc4b19957ca670bd5ab67a1cdd9a09b0d0304ff025a4b7f556f788", func := "bolster/bolsterlaw08.ScrollLeasts", spec := "scrollLeasts", unfollowed := true, recurses := true, apart := false }
def ScrollLeastsSaid : Prop := scrollLeastsRow.holds Try.pinned (OpenSpec.ofChange scrollLeastsSpec)

/-- ITS FALSE NEIGHBOUR: 'it returns false'. Refute it at one input. -/
def scrollLeastsWrong : ChangeSpec := { name := "scrollLeasts", fn := fun _ => fun
  | [d] => { results := [.lit (.bool false)], args := [d] }
  | _ => none }
def ScrollLeastsWrongFalsely : Prop := scrollLeastsRow.holds Try.pinned (OpenSpec.ofChange scrollLeastsWrong)

/-- 'bolsterlaw08.ScrollFaces': WHATEVER THE INPUT: true; the input reads as it did. -/
def scrollFacesSpec : ChangeSpec := { name := "scrollFaces", fn := fun _ => fun
  | [d1, d2] => { results := [.lit (.bool true)], args := [d1, d2] }
  | _ => none }
def scrollFacesRow : OpenClaim := { program := "ytdfajcfkdfjoeaa", sum := "bb57923960fc4b19957ca670bd5ab67a1cdd9a09b0d0304ff025a4b7f556f788", func := "bolster/bolsterlaw08.ScrollFaces", spec := "scrollFaces", unfollowed := true, recurses := true, apart := false }
def ScrollFacesSaid : Prop := scrollFacesRow.holds Try.pinned (OpenSpec.ofChange scrollFacesSpec)

/-- ITS FALSE NEIGHBOUR: 'it returns false'. Refute it at one input. -/
def scrollFacesWrong : ChangeSpec := { name := "scrollFaces", fn := fun _ => fun
  | [d1, d2] => { results := [.lit (.bool false)], args := [d1, d2] }
  | _ => none }
def ScrollFacesWrongFalsely : Prop := scrollFacesRow.holds Try.pinned (OpenSpec.ofChange scrollFacesWrong)

/-- 'bolsterlaw08.ScrollEuler': WHATEVER THE INPUT: true; the input reads as it did. -/
def scrollEulerSpec : ChangeSpec := { name := "scrollEuler", fn := fun _ => fun
  | [d1, d2] => { results := [.lit (.bool true)], args := [d1, d2] }
  | _ => none }
def scrollEulerRow : OpenClaim := { program := "ytdfajcfkdfjoeaa", sum := "bb57923960fc4b19957ca670bd5ab67a1cdd9a09b0d0304ff025a4b7f556f788", func := "bolster/bolsterlaw08.ScrollEuler", spec := "scrollEuler", unfollowed := true, recurses := true, apart := false }
def ScrollEulerSaid : Prop := scrollEulerRow.holds Try.pinned (OpenSpec.ofChange scrollEulerSpec)

/-- ITS FALSE NEIGHBOUR: 'it returns false'. Refute it at one input. -/
def scrollEulerWrong : ChangeSpec := { name := "scrollEuler", fn := fun _ => fun
  | [d1, d2] => { results := [.lit (.bool false)], args := [d1, d2] }
  | _ => none }
def ScrollEulerWrongFalsely : Prop := scrollEulerRow.holds Try.pinned (OpenSpec.ofChange scrollEulerWrong)

/-- 'bolsterlaw08.ScrollPairs': WHATEVER THE INPUT: true; the input reads as it did. -/
def scrollPairsSpec : ChangeSpec := { name := "scrollPairs", fn := fun _ => fun
  | [d] => { results := [.lit (.bool true)], args := [d] }
  | _ => none }
def scrollPairsRow : OpenClaim := { program := "ytdfajcfkdfjoeaa", sum := "bb57923960fc4b19957ca670bd5ab67a1cdd9a09b0d0304ff025a4b7f556f788", func := "bolster/bolsterlaw08.ScrollPairs", spec := "scrollPairs", unfollowed := true, recurses := true, apart := false }
def ScrollPairsSaid : Prop := scrollPairsRow.holds Try.pinned (OpenSpec.ofChange scrollPairsSpec)

/-- ITS FALSE NEIGHBOUR: 'it returns false'. Refute it at one input. -/
def scrollPairsWrong : ChangeSpec := { name := "scrollPairs", fn := fun _ => fun
  | [d] => { results := [.lit (.bool false)], args := [d] }
  | _ => none }
def ScrollPairsWrongFalsely : Prop := scrollPairsRow.holds Try.pinned (OpenSpec.ofChange scrollPairsWrong)

/-- 'bolsterlaw08.ScrollColors': WHATEVER THE INPUT: true; the input reads as it did. -/
def scrollColorsSpec : ChangeSpec := { name := "scrollColors", fn := fun _ => fun
  | [d1, d2] => { results := [.lit (.bool true)], args := [d1, d2] }
  | _ => none }
def scrollColorsRow : OpenClaim := { program := "ytdfajcfkdfjoeaa", sum := "bb57923960fc4b19957ca670bd5ab67a1cdd9a09b0d0304ff025a4b7f556f788", func := "bolster/bolsterlaw08.ScrollColors", spec := "scrollColors", unfollowed := true, recurses := true, apart := false }
def ScrollColorsSaid : Prop := scrollColorsRow.holds Try.pinned (OpenSpec.ofChange scrollColorsSpec)

/-- ITS FALSE NEIGHBOUR: 'it returns false'. Refute it at one input. -/
def scrollColorsWrong : ChangeSpec := { name := "scrollColors", fn := fun _ => fun
  | [d1, d2] => { results := [.lit (.bool false)], args := [d1, d2] }
  | _ => none }
def ScrollColorsWrongFalsely : Prop := scrollColorsRow.holds Try.pinned (OpenSpec.ofChange scrollColorsWrong)

/-- 'bolsterlaw08.ScrollTwo': WHATEVER THE INPUT: true; the input reads as it did. -/
def scrollTwoSpec : ChangeSpec := { name := "scrollTwo", fn := fun _ => fun
  | [d] => { results := [.lit (.bool true)], args := [d] }
  | _ => none }
def scrollTwoRow : OpenClaim := { program := "ytdfajcfkdfjoeaa", sum := "bb57923960fc4b19957ca670bd5ab67a1cdd9a09b0d0304ff025a4b7f556f788", func := "bolster/bolsterlaw08.ScrollTwo", spec := "scrollTwo", unfollowed := true, recurses := true, apart := false }
def ScrollTwoSaid : Prop := scrollTwoRow.holds Try.pinned (OpenSpec.ofChange scrollTwoSpec)

/-- ITS FALSE NEIGHBOUR: 'it returns false'. Refute it at one input. -/
def scrollTwoWrong : ChangeSpec := { name := "scrollTwo", fn := fun _ => fun
  | [d] => { results := [.lit (.bool false)], args := [d] }
  | _ => none }
def ScrollTwoWrongFalsely : Prop := scrollTwoRow.holds Try.pinned (OpenSpec.ofChange scrollTwoWrong)

/-- 'bolsterlaw08.ScrollDrawn': WHATEVER THE INPUT: true; the input reads as it did. -/
def scrollDrawnSpec : ChangeSpec := { name := "scrollDrawn", fn := fun _ => fun
  | [d] => { results := [.lit (.bool true)], args := [d] }
  | _ => none }
def scrollDrawnRow : OpenClaim := { program := "ytdfajcfkdfjoeaa", sum := "bb57923960fc4b19957ca670bd5ab67a1cdd9a09b0d0304ff025a4b7f556f788", func := "bolster/bolsterlaw08.ScrollDrawn", spec := "scrollDrawn", unfollowed := true, recurses := true, apart := false }
def ScrollDrawnSaid : Prop := scrollDrawnRow.holds Try.pinned (OpenSpec.ofChange scrollDrawnSpec)

/-- ITS FALSE NEIGHBOUR: 'it returns false'. Refute it at one input. -/
def scrollDrawnWrong : ChangeSpec := { name := "scrollDrawn", fn := fun _ => fun
  | [d] => { results := [.lit (.bool false)], args := [d] }
  | _ => none }
def ScrollDrawnWrongFalsely : Prop := scrollDrawnRow.holds Try.pinned (OpenSpec.ofChange scrollDrawnWrong)

/-- 'bolsterlaw08.ScrollCanons': WHATEVER THE INPUT: true; the input reads as it did. -/
def scrollCanonsSpec : ChangeSpec := { name := "scrollCanons", fn := fun _ => fun
  | [d] => { results := [.lit (.bool true)], args := [d] }
  | _ => none }
def scrollCanonsRow : OpenClaim := { program := "ytdfajcfkdfjoeaa", sum := "bb57923960fc4b19957ca670bd5ab67a1cdd9a09b0d0304ff025a4b7f556f788", func := "bolster/bolsterlaw08.ScrollCanons", spec := "scrollCanons", unfollowed := true, recurses := true, apart := false }
def ScrollCanonsSaid : Prop := scrollCanonsRow.holds Try.pinned (OpenSpec.ofChange scrollCanonsSpec)

/-- ITS FALSE NEIGHBOUR: 'it returns false'. Refute it at one input. -/
def scrollCanonsWrong : ChangeSpec := { name := "scrollCanons", fn := fun _ => fun
  | [d] => { results := [.lit (.bool false)], args := [d] }
  | _ => none }
def ScrollCanonsWrongFalsely : Prop := scrollCanonsRow.holds Try.pinned (OpenSpec.ofChange scrollCanonsWrong)

/-- 'bolsterlaw08.ScrollGauss': WHATEVER THE INPUT: true; the input reads as it did. -/
def scrollGaussSpec : ChangeSpec := { name := "scrollGauss", fn := fun _ => fun
  | [d] => { results := [.lit (.bool true)], args := [d] }
  | _ => none }
def scrollGaussRow : OpenClaim := { program := "ytdfajcfkdfjoeaa", sum := "bb57923960fc4b19957ca670bd5ab67a1cdd9a09b0d0304ff025a4b7f556f788", func := "bolster/bolsterlaw08.ScrollGauss", spec := "scrollGauss", unfollowed := true, recurses := true, apart := false }
def ScrollGaussSaid : Prop := scrollGaussRow.holds Try.pinned (OpenSpec.ofChange scrollGaussSpec)

/-- ITS FALSE NEIGHBOUR: 'it returns false'. Refute it at one input. -/
def scrollGaussWrong : ChangeSpec := { name := "scrollGauss", fn := fun _ => fun
  | [d] => { results := [.lit (.bool false)], args := [d] }
  | _ => none }
def ScrollGaussWrongFalsely : Prop := scrollGaussRow.holds Try.pinned (OpenSpec.ofChange scrollGaussWrong)

/-- 'bolsterlaw08.ScrollKinks': WHATEVER THE INPUT: true; the input reads as it did. -/
def scrollKinksSpec : ChangeSpec := { name := "scrollKinks", fn := fun _ => fun
  | [d1, d2] => { results := [.lit (.bool true)], args := [d1, d2] }
  | _ => none }
def scrollKinksRow : OpenClaim := { program := "ytdfajcfkdfjoeaa", sum := "bb57923960fc4b19957ca670bd5ab67a1cdd9a09b0d0304ff025a4b7f556f788", func := "bolster/bolsterlaw08.ScrollKinks", spec := "scrollKinks", unfollowed := true, recurses := true, apart := false }
def ScrollKinksSaid : Prop := scrollKinksRow.holds Try.pinned (OpenSpec.ofChange scrollKinksSpec)

/-- ITS FALSE NEIGHBOUR: 'it returns false'. Refute it at one input. -/
def scrollKinksWrong : ChangeSpec := { name := "scrollKinks", fn := fun _ => fun
  | [d1, d2] => { results := [.lit (.bool false)], args := [d1, d2] }
  | _ => none }
def ScrollKinksWrongFalsely : Prop := scrollKinksRow.holds Try.pinned (OpenSpec.ofChange scrollKinksWrong)

/-- 'bolsterlaw08.ScrollAlike': WHATEVER THE INPUT: true; the input reads as it did. -/
def scrollAlikeSpec : ChangeSpec := { name := "scrollAlike", fn := fun _ => fun
  | [d1, d2, d3] => { results := [.lit (.bool true)], args := [d1, d2, d3] }
  | _ => none }
def scrollAlikeRow : OpenClaim := { program := "ytdfajcfkdfjoeaa", sum := "bb57923960fc4b19957ca670bd5ab67a1cdd9a09b0d0304ff025a4b7f556f788", func := "bolster/bolsterlaw08.ScrollAlike", spec := "scrollAlike", unfollowed := true, recurses := true, apart := false }
def ScrollAlikeSaid : Prop := scrollAlikeRow.holds Try.pinned (OpenSpec.ofChange scrollAlikeSpec)

/-- ITS FALSE NEIGHBOUR: 'it returns false'. Refute it at one input. -/
def scrollAlikeWrong : ChangeSpec := { name := "scrollAlike", fn := fun _ => fun
  | [d1, d2, d3] => { results := [.lit (.bool false)], args := [d1, d2, d3] }
  | _ => none }
def ScrollAlikeWrongFalsely : Prop := scrollAlikeRow.holds Try.pinned (OpenSpec.ofChange scrollAlikeWrong)

/- THE SECOND FORM. 'bulk': how many values and letters a reading holds, each counted each time it is reached (what is shared counts as often as it is met; a slice's spare places count too). A statement '..UptoSaid' is the law's where the arguments, and the package variables that the reading takes, are together of bulk at most 1048576: NARROWER than '..Said'. Prove '..Said' where nothing that the law and all that it calls make is longer than what came in: it says more and counts as full. Else prove '..UptoSaid'. A law counts once. -/
mutual
def uptoBulk {H : Type} : DataW H → Nat
  | .lit (.string bytes) => bytes.length + 1
  | .lit _ => 1
  | .nil => 1
  | .ptr d => uptoBulk d + 1
  | .slice elems spare => uptoBulkAll elems + uptoBulkAll spare + 1
  | .agg parts => uptoBulkAll parts + 1
  | .iface _ d => uptoBulk d + 1
  | .map entries => uptoBulkEntries entries + 1
  | .held _ => 1
def uptoBulkAll {H : Type} : List (DataW H) → Nat
  | [] => 0
  | d :: r => uptoBulk d + uptoBulkAll r
def uptoBulkEntries {H : Type} : List (Lit × DataW H) → Nat
  | [] => 0
  | x :: r => uptoBulkEntry x + uptoBulkEntries r
def uptoBulkEntry {H : Type} : Lit × DataW H → Nat
  | (.string bytes, d) => bytes.length + uptoBulk d + 1
  | (_, d) => uptoBulk d + 1
 end
def uptoSmall : (H : Type) → List (DataW H) → Bool := fun _ ds => decide (uptoBulkAll ds ≤ 1048576)
def OpenSpec.upto (s : _root_.Go.ChangeSpec) : _root_.Go.OpenSpec := { _root_.Go.OpenSpec.ofChange s with cond := some uptoSmall }

/-- 'bolsterlaw08.ScrollPlanes', WHERE WHAT IT READS IS OF BULK AT MOST 1048576: true; the input reads as it did. -/
def scrollPlanesUptoRow : OpenClaim := { program := "ytdfajcfkdfjoeaa", sum := "bb57923960fc4b19957ca670bd5ab67a1cdd9a09b0d0304ff025a4b7f556f788", func := "bolster/bolsterlaw08.ScrollPlanes", spec := "scrollPlanes", unfollowed := true, recurses := true, apart := false, narrowed := true }
def ScrollPlanesUptoSaid : Prop := scrollPlanesUptoRow.holds Try.pinned (OpenSpec.upto scrollPlanesSpec)

/-- 'bolsterlaw08.ScrollLeasts', WHERE WHAT IT READS IS OF BULK AT MOST 1048576: true; the input reads as it did. -/
def scrollLeastsUptoRow : OpenClaim := { program := "ytdfajcfkdfjoeaa", sum := "bb57923960fc4b19957ca670bd5ab67a1cdd9a09b0d0304ff025a4b7f556f788", func := "bolster/bolsterlaw08.ScrollLeasts", spec := "scrollLeasts", unfollowed := true, recurses := true, apart := false, narrowed := true }
def ScrollLeastsUptoSaid : Prop := scrollLeastsUptoRow.holds Try.pinned (OpenSpec.upto scrollLeastsSpec)

/-- 'bolsterlaw08.ScrollFaces', WHERE WHAT IT READS IS OF BULK AT MOST 1048576: true; the input reads as it did. -/
def scrollFacesUptoRow : OpenClaim := { program := "ytdfajcfkdfjoeaa", sum := "bb57923960fc4b19957ca670bd5ab67a1cdd9a09b0d0304ff025a4b7f556f788", func := "bolster/bolsterlaw08.ScrollFaces", spec := "scrollFaces", unfollowed := true, recurses := true, apart := false, narrowed := true }
def ScrollFacesUptoSaid : Prop := scrollFacesUptoRow.holds Try.pinned (OpenSpec.upto scrollFacesSpec)

/-- 'bolsterlaw08.ScrollEuler', WHERE WHAT IT READS IS OF BULK AT MOST 1048576: true; the input reads as it did. -/
def scrollEulerUptoRow : OpenClaim := { program := "ytdfajcfkdfjoeaa", sum := "bb57923960fc4b19957ca670bd5ab67a1cdd9a09b0d0304ff025a4b7f556f788", func := "bolster/bolsterlaw08.ScrollEuler", spec := "scrollEuler", unfollowed := true, recurses := true, apart := false, narrowed := true }
def ScrollEulerUptoSaid : Prop := scrollEulerUptoRow.holds Try.pinned (OpenSpec.upto scrollEulerSpec)

/-- 'bolsterlaw08.ScrollPairs', WHERE WHAT IT READS IS OF BULK AT MOST 1048576: true; the input reads as it did. -/
def scrollPairsUptoRow : OpenClaim := { program := "ytdfajcfkdfjoeaa", sum := "bb57923960fc4b19957ca670bd5ab67a1cdd9a09b0d0304ff025a4b7f556f788", func := "bolster/bolsterlaw08.ScrollPairs", spec := "scrollPairs", unfollowed := true, recurses := true, apart := false, narrowed := true }
def ScrollPairsUptoSaid : Prop := scrollPairsUptoRow.holds Try.pinned (OpenSpec.upto scrollPairsSpec)

/-- 'bolsterlaw08.ScrollColors', WHERE WHAT IT READS IS OF BULK AT MOST 1048576: true; the input reads as it did. -/
def scrollColorsUptoRow : OpenClaim := { program := "ytdfajcfkdfjoeaa", sum := "bb57923960fc4b19957ca670bd5ab67a1cdd9a09b0d0304ff025a4b7f556f788", func := "bolster/bolsterlaw08.ScrollColors", spec := "scrollColors", unfollowed := true, recurses := true, apart := false, narrowed := true }
def ScrollColorsUptoSaid : Prop := scrollColorsUptoRow.holds Try.pinned (OpenSpec.upto scrollColorsSpec)

/-- 'bolsterlaw08.ScrollTwo', WHERE WHAT IT READS IS OF BULK AT MOST 1048576: true; the input reads as it did. -/
def scrollTwoUptoRow : OpenClaim := { program := "ytdfajcfkdfjoeaa", sum := "bb57923960fc4b19957ca670bd5ab67a1cdd9a09b0d0304ff025a4b7f556f788", func := "bolster/bolsterlaw08.ScrollTwo", spec := "scrollTwo", unfollowed := true, recurses := true, apart := false, narrowed := true }
def ScrollTwoUptoSaid : Prop := scrollTwoUptoRow.holds Try.pinned (OpenSpec.upto scrollTwoSpec)

/-- 'bolsterlaw08.ScrollDrawn', WHERE WHAT IT READS IS OF BULK AT MOST 1048576: true; the input reads as it did. -/
def scrollDrawnUptoRow : OpenClaim := { program := "ytdfajcfkdfjoeaa", sum := "bb57923960fc4b19957ca670bd5ab67a1cdd9a09b0d0304ff025a4b7f556f788", func := "bolster/bolsterlaw08.ScrollDrawn", spec := "scrollDrawn", unfollowed := true, recurses := true, apart := false, narrowed := true }
def ScrollDrawnUptoSaid : Prop := scrollDrawnUptoRow.holds Try.pinned (OpenSpec.upto scrollDrawnSpec)

/-- 'bolsterlaw08.ScrollCanons', WHERE WHAT IT READS IS OF BULK AT MOST 1048576: true; the input reads as it did. -/
def scrollCanonsUptoRow : OpenClaim := { program := "ytdfajcfkdfjoeaa", sum := "bb57923960fc4b19957ca670bd5ab67a1cdd9a09b0d0304ff025a4b7f556f788", func := "bolster/bolsterlaw08.ScrollCanons", spec := "scrollCanons", unfollowed := true, recurses := true, apart := false, narrowed := true }
def ScrollCanonsUptoSaid : Prop := scrollCanonsUptoRow.holds Try.pinned (OpenSpec.upto scrollCanonsSpec)

/-- 'bolsterlaw08.ScrollGauss', WHERE WHAT IT READS IS OF BULK AT MOST 1048576: true; the input reads as it did. -/
def scrollGaussUptoRow : OpenClaim := { program := "ytdfajcfkdfjoeaa", sum := "bb57923960fc4b19957ca670bd5ab67a1cdd9a09b0d0304ff025a4b7f556f788", func := "bolster/bolsterlaw08.ScrollGauss", spec := "scrollGauss", unfollowed := true, recurses := true, apart := false, narrowed := true }
def ScrollGaussUptoSaid : Prop := scrollGaussUptoRow.holds Try.pinned (OpenSpec.upto scrollGaussSpec)

/-- 'bolsterlaw08.ScrollKinks', WHERE WHAT IT READS IS OF BULK AT MOST 1048576: true; the input reads as it did. -/
def scrollKinksUptoRow : OpenClaim := { program := "ytdfajcfkdfjoeaa", sum := "bb57923960fc4b19957ca670bd5ab67a1cdd9a09b0d0304ff025a4b7f556f788", func := "bolster/bolsterlaw08.ScrollKinks", spec := "scrollKinks", unfollowed := true, recurses := true, apart := false, narrowed := true }
def ScrollKinksUptoSaid : Prop := scrollKinksUptoRow.holds Try.pinned (OpenSpec.upto scrollKinksSpec)

/-- 'bolsterlaw08.ScrollAlike', WHERE WHAT IT READS IS OF BULK AT MOST 1048576: true; the input reads as it did. -/
def scrollAlikeUptoRow : OpenClaim := { program := "ytdfajcfkdfjoeaa", sum := "bb57923960fc4b19957ca670bd5ab67a1cdd9a09b0d0304ff025a4b7f556f788", func := "bolster/bolsterlaw08.ScrollAlike", spec := "scrollAlike", unfollowed := true, recurses := true, apart := false, narrowed := true }
def ScrollAlikeUptoSaid : Prop := scrollAlikeUptoRow.holds Try.pinned (OpenSpec.upto scrollAlikeSpec)

end Rows
end Go.Proofs.Ytdfajcfkdfjoeaa
