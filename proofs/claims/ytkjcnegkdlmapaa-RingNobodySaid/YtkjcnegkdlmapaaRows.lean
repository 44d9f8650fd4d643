/-
  No cell of these rows narrows 'for every input' (looked for: loops, veiled, ifaces, maps, wideKeys, modest, calm, conditions, laid).
  DERIVED. THE GIVEN ROWS OF THIS SEAT. 11 by the template 'for every input the law returns true; each argument reads behind the call as it read before'; 0 by the template 'total and deterministic' (their statements: YtkjcnegkdlmapaaTotals.lean).
  GIVEN WITH THE SEED: the statements are not yours to turn. If you find one false, say at which input.
  Laid BY PROGRAM, IN A SANDBOX (cutbox-rows.mjs): the forced cells as the released guide's own fill.sh prints them over the translation d682bc7f2a3a9c0d… (all of the seat's roots in one cut). By AI agents, Wed Nov 11 2026. No macro, syntax, notation, axiom, sorry.
-/
import Derived.Test.YtkjcnegkdlmapaaChecked
import GoSem.Claim
import GoSem.ClaimJoined
import GoSem.ClaimMapViews
import Derived.JoinedTies
import Derived.KernelRfl
namespace Go.Proofs.Ytkjcnegkdlmapaa
/- THE CELL 'sum', in the pinned program and in every row, IS THE sha256 OF THE DUMP (.gsa) THAT YtkjcnegkdlmapaaProg.lean LOADS. Nothing in Lean hashes anything: it is a label: what it is worth is what the hold of that sum in a sandbox is worth. -/
noncomputable def Try.pinned : Pinned := { name := "ytkjcnegkdlmapaa", sum := "d682bc7f2a3a9c0dbde2329847a9dcb800186863222c2c0c827403422e0a71b7", checked := Try.checked }
namespace Rows
def none {H : Type} : Left H := { results := [], args := [] }

/-- 'bolsterlaw09.RingElects': WHATEVER THE INPUT: true; the input reads as it did. -/
def ringElectsSpec : ChangeSpec := { name := "ringElects", fn := fun _ => fun
  | [d1, d2] => { results := [.lit (.bool true)], args := [d1, d2] }
  | _ => none }
def ringElectsRow : OpenClaim := { program := "ytkjcnegkdlmapaa", sum := "d682bc7f2a3a9c0dbde2329847a9dcb800186863222c2c0c827403422e0a71b7", func := "bolster/bolsterlaw09.RingElects", spec := "ringElects", unfollowed := true, recurses := true, apart := false }
def RingElectsSaid : Prop := ringElectsRow.holds Try.pinned (OpenSpec.ofChange ringElectsSpec)

/-- ITS FALSE NEIGHBOUR: 'it returns false'. Refute it at one input. -/
def ringElectsWrong : ChangeSpec := { name := "ringElects", fn := fun _ => fun
  | [d1, d2] => { results := [.lit (.bool false)], args := [d1, d2] }
  | _ => none }
def RingElectsWrongFalsely : Prop := ringElectsRow.holds Try.pinned (OpenSpec.ofChange ringElectsWrong)

/-- 'bolsterlaw09.RingFew': WHATEVER THE INPUT: true; the input reads as it did. -/
def ringFewSpec : ChangeSpec := { name := "ringFew", fn := fun _ => fun
  | [d1, d2] => { results := [.lit (.bool true)], args := [d1, d2] }
  | _ => none }
def ringFewRow : OpenClaim := { program := "ytkjcnegkdlmapaa", sum := "d682bc7f2a3a9c0dbde2329847a9dcb800186863222c2c0c827403422e0a71b7", func := "bolster/bolsterlaw09.RingFew", spec := "ringFew", unfollowed := true, recurses := true, apart := false }
def RingFewSaid : Prop := ringFewRow.holds Try.pinned (OpenSpec.ofChange ringFewSpec)

/-- ITS FALSE NEIGHBOUR: 'it returns false'. Refute it at one input. -/
def ringFewWrong : ChangeSpec := { name := "ringFew", fn := fun _ => fun
  | [d1, d2] => { results := [.lit (.bool false)], args := [d1, d2] }
  | _ => none }
def RingFewWrongFalsely : Prop := ringFewRow.holds Try.pinned (OpenSpec.ofChange ringFewWrong)

/-- 'bolsterlaw09.RingPeterson': WHATEVER THE INPUT: true; the input reads as it did. -/
def ringPetersonSpec : ChangeSpec := { name := "ringPeterson", fn := fun _ => fun
  | [d1, d2] => { results := [.lit (.bool true)], args := [d1, d2] }
  | _ => none }
def ringPetersonRow : OpenClaim := { program := "ytkjcnegkdlmapaa", sum := "d682bc7f2a3a9c0dbde2329847a9dcb800186863222c2c0c827403422e0a71b7", func := "bolster/bolsterlaw09.RingPeterson", spec := "ringPeterson", unfollowed := true, recurses := true, apart := false }
def RingPetersonSaid : Prop := ringPetersonRow.holds Try.pinned (OpenSpec.ofChange ringPetersonSpec)

/-- ITS FALSE NEIGHBOUR: 'it returns false'. Refute it at one input. -/
def ringPetersonWrong : ChangeSpec := { name := "ringPeterson", fn := fun _ => fun
  | [d1, d2] => { results := [.lit (.bool false)], args := [d1, d2] }
  | _ => none }
def RingPetersonWrongFalsely : Prop := ringPetersonRow.holds Try.pinned (OpenSpec.ofChange ringPetersonWrong)

/-- 'bolsterlaw09.RingSafe': WHATEVER THE INPUT: true; the input reads as it did. -/
def ringSafeSpec : ChangeSpec := { name := "ringSafe", fn := fun _ => fun
  | [d1, d2] => { results := [.lit (.bool true)], args := [d1, d2] }
  | _ => none }
def ringSafeRow : OpenClaim := { program := "ytkjcnegkdlmapaa", sum := "d682bc7f2a3a9c0dbde2329847a9dcb800186863222c2c0c827403422e0a71b7", func := "bolster/bolsterlaw09.RingSafe", spec := "ringSafe", unfollowed := true, recurses := true, apart := false }
def RingSafeSaid : Prop := ringSafeRow.holds Try.pinned (OpenSpec.ofChange ringSafeSpec)

/-- ITS FALSE NEIGHBOUR: 'it returns false'. Refute it at one input. -/
def ringSafeWrong : ChangeSpec := { name := "ringSafe", fn := fun _ => fun
  | [d1, d2] => { results := [.lit (.bool false)], args := [d1, d2] }
  | _ => none }
def RingSafeWrongFalsely : Prop := ringSafeRow.holds Try.pinned (OpenSpec.ofChange ringSafeWrong)

/-- 'bolsterlaw09.RingLive': WHATEVER THE INPUT: true; the input reads as it did. -/
def ringLiveSpec : ChangeSpec := { name := "ringLive", fn := fun _ => fun
  | [d1, d2, d3] => { results := [.lit (.bool true)], args := [d1, d2, d3] }
  | _ => none }
def ringLiveRow : OpenClaim := { program := "ytkjcnegkdlmapaa", sum := "d682bc7f2a3a9c0dbde2329847a9dcb800186863222c2c0c827403422e0a71b7", func := "bolster/bolsterlaw09.RingLive", spec := "ringLive", unfollowed := true, recurses := true, apart := false }
def RingLiveSaid : Prop := ringLiveRow.holds Try.pinned (OpenSpec.ofChange ringLiveSpec)

/-- ITS FALSE NEIGHBOUR: 'it returns false'. Refute it at one input. -/
def ringLiveWrong : ChangeSpec := { name := "ringLive", fn := fun _ => fun
  | [d1, d2, d3] => { results := [.lit (.bool false)], args := [d1, d2, d3] }
  | _ => none }
def RingLiveWrongFalsely : Prop := ringLiveRow.holds Try.pinned (OpenSpec.ofChange ringLiveWrong)

/-- 'bolsterlaw09.RingTree': WHATEVER THE INPUT: true; the input reads as it did. -/
def ringTreeSpec : ChangeSpec := { name := "ringTree", fn := fun _ => fun
  | [d1, d2] => { results := [.lit (.bool true)], args := [d1, d2] }
  | _ => none }
def ringTreeRow : OpenClaim := { program := "ytkjcnegkdlmapaa", sum := "d682bc7f2a3a9c0dbde2329847a9dcb800186863222c2c0c827403422e0a71b7", func := "bolster/bolsterlaw09.RingTree", spec := "ringTree", unfollowed := true, recurses := true, apart := false }
def RingTreeSaid : Prop := ringTreeRow.holds Try.pinned (OpenSpec.ofChange ringTreeSpec)

/-- ITS FALSE NEIGHBOUR: 'it returns false'. Refute it at one input. -/
def ringTreeWrong : ChangeSpec := { name := "ringTree", fn := fun _ => fun
  | [d1, d2] => { results := [.lit (.bool false)], args := [d1, d2] }
  | _ => none }
def RingTreeWrongFalsely : Prop := ringTreeRow.holds Try.pinned (OpenSpec.ofChange ringTreeWrong)

/-- 'bolsterlaw09.RingPlays': WHATEVER THE INPUT: true; the input reads as it did. -/
def ringPlaysSpec : ChangeSpec := { name := "ringPlays", fn := fun _ => fun
  | [d1, d2, d3] => { results := [.lit (.bool true)], args := [d1, d2, d3] }
  | _ => none }
def ringPlaysRow : OpenClaim := { program := "ytkjcnegkdlmapaa", sum := "d682bc7f2a3a9c0dbde2329847a9dcb800186863222c2c0c827403422e0a71b7", func := "bolster/bolsterlaw09.RingPlays", spec := "ringPlays", unfollowed := true, recurses := true, apart := false }
def RingPlaysSaid : Prop := ringPlaysRow.holds Try.pinned (OpenSpec.ofChange ringPlaysSpec)

/-- ITS FALSE NEIGHBOUR: 'it returns false'. Refute it at one input. -/
def ringPlaysWrong : ChangeSpec := { name := "ringPlays", fn := fun _ => fun
  | [d1, d2, d3] => { results := [.lit (.bool false)], args := [d1, d2, d3] }
  | _ => none }
def RingPlaysWrongFalsely : Prop := ringPlaysRow.holds Try.pinned (OpenSpec.ofChange ringPlaysWrong)

/-- 'bolsterlaw09.RingNews': WHATEVER THE INPUT: true; the input reads as it did. -/
def ringNewsSpec : ChangeSpec := { name := "ringNews", fn := fun _ => fun
  | [d1, d2, d3] => { results := [.lit (.bool true)], args := [d1, d2, d3] }
  | _ => none }
def ringNewsRow : OpenClaim := { program := "ytkjcnegkdlmapaa", sum := "d682bc7f2a3a9c0dbde2329847a9dcb800186863222c2c0c827403422e0a71b7", func := "bolster/bolsterlaw09.RingNews", spec := "ringNews", unfollowed := true, recurses := true, apart := false }
def RingNewsSaid : Prop := ringNewsRow.holds Try.pinned (OpenSpec.ofChange ringNewsSpec)

/-- ITS FALSE NEIGHBOUR: 'it returns false'. Refute it at one input. -/
def ringNewsWrong : ChangeSpec := { name := "ringNews", fn := fun _ => fun
  | [d1, d2, d3] => { results := [.lit (.bool false)], args := [d1, d2, d3] }
  | _ => none }
def RingNewsWrongFalsely : Prop := ringNewsRow.holds Try.pinned (OpenSpec.ofChange ringNewsWrong)

/-- 'bolsterlaw09.RingWorks': WHATEVER THE INPUT: true; the input reads as it did. -/
def ringWorksSpec : ChangeSpec := { name := "ringWorks", fn := fun _ => fun
  | [d1, d2] => { results := [.lit (.bool true)], args := [d1, d2] }
  | _ => none }
def ringWorksRow : OpenClaim := { program := "ytkjcnegkdlmapaa", sum := "d682bc7f2a3a9c0dbde2329847a9dcb800186863222c2c0c827403422e0a71b7", func := "bolster/bolsterlaw09.RingWorks", spec := "ringWorks", unfollowed := true, recurses := true, apart := false }
def RingWorksSaid : Prop := ringWorksRow.holds Try.pinned (OpenSpec.ofChange ringWorksSpec)

/-- ITS FALSE NEIGHBOUR: 'it returns false'. Refute it at one input. -/
def ringWorksWrong : ChangeSpec := { name := "ringWorks", fn := fun _ => fun
  | [d1, d2] => { results := [.lit (.bool false)], args := [d1, d2] }
  | _ => none }
def RingWorksWrongFalsely : Prop := ringWorksRow.holds Try.pinned (OpenSpec.ofChange ringWorksWrong)

/-- 'bolsterlaw09.RingCloned': WHATEVER THE INPUT: true; the input reads as it did. -/
def ringClonedSpec : ChangeSpec := { name := "ringCloned", fn := fun _ => fun
  | [d1, d2, d3] => { results := [.lit (.bool true)], args := [d1, d2, d3] }
  | _ => none }
def ringClonedRow : OpenClaim := { program := "ytkjcnegkdlmapaa", sum := "d682bc7f2a3a9c0dbde2329847a9dcb800186863222c2c0c827403422e0a71b7", func := "bolster/bolsterlaw09.RingCloned", spec := "ringCloned", unfollowed := true, recurses := true, apart := false }
def RingClonedSaid : Prop := ringClonedRow.holds Try.pinned (OpenSpec.ofChange ringClonedSpec)

/-- ITS FALSE NEIGHBOUR: 'it returns false'. Refute it at one input. -/
def ringClonedWrong : ChangeSpec := { name := "ringCloned", fn := fun _ => fun
  | [d1, d2, d3] => { results := [.lit (.bool false)], args := [d1, d2, d3] }
  | _ => none }
def RingClonedWrongFalsely : Prop := ringClonedRow.holds Try.pinned (OpenSpec.ofChange ringClonedWrong)

/-- 'bolsterlaw09.RingNobody': WHATEVER THE INPUT: true; the input reads as it did. -/
def ringNobodySpec : ChangeSpec := { name := "ringNobody", fn := fun _ => fun
  | [d1, d2] => { results := [.lit (.bool true)], args := [d1, d2] }
  | _ => none }
def ringNobodyRow : OpenClaim := { program := "ytkjcnegkdlmapaa", sum := "d682bc7f2a3a9c0dbde2329847a9dcb800186863222c2c0c827403422e0a71b7", func := "bolster/bolsterlaw09.RingNobody", spec := "ringNobody", unfollowed := true, recurses := true, apart := false }
def RingNobodySaid : Prop := ringNobodyRow.holds Try.pinned (OpenSpec.ofChange ringNobodySpec)

/-- ITS FALSE NEIGHBOUR: 'it returns false'. Refute it at one input. -/
def ringNobodyWrong : ChangeSpec := { name := "ringNobody", fn := fun _ => fun
  | [d1, d2] => { results := [.lit (.bool false)], args := [d1, d2] }
  | _ => none }
def RingNobodyWrongFalsely : Prop := ringNobodyRow.holds Try.pinned (OpenSpec.ofChange ringNobodyWrong)

/- THE SECOND FORM. 'bulk': how many values and letters a reading holds, each counted each time it is reached (what is shared counts as often as it is met; a slice's spare places count too). A statement '..UptoSaid' is the law's where the arguments, and the package variables that the reading takes, are together of bulk at most 1048576: NARROWER than '..Said'. Prove '..Said' where nothing that the law and all that it calls make is longer than what came in: it says more and counts as full. Else prove '..UptoSaid'. A law counts once. -/
mutual
def uptoBulk {H : Type} : DataW H → Nat
  | .lit (.string bytes) => bytes.length + 1
  | .lit _ => 1
  | .nil => 1
  | .ptr d => uptoBulk d + 1
  | .slice elems spare => uptoBulkAll elems + uptoBulkAll spare + 1
  | .agg parts => uptoBulkAll parts + 1
  | .iface _ d => uptoBulk d + 1
  | .map entries => uptoBulkEntries entries + 1
  | .held _ => 1
def uptoBulkAll {H : Type} : List (DataW H) → Nat
  | [] => 0
  | d :: r => uptoBulk d + uptoBulkAll r
def uptoBulkEntries {H : Type} : List (Lit × DataW H) → Nat
  | [] => 0
  | x :: r => uptoBulkEntry x + uptoBulkEntries r
def uptoBulkEntry {H : Type} : Lit × DataW H → Nat
  | (.string bytes, d) => bytes.length + uptoBulk d + 1
  | (_, d) => uptoBulk d + 1
 end
def uptoSmall : (H : Type) → List (DataW H) → Bool := fun _ ds => decide (uptoBulkAll ds ≤ 1048576)
def OpenSpec.upto (s : _root_.Go.ChangeSpec) : _root_.Go.OpenSpec := { _root_.Go.OpenSpec.ofChange s with cond := some uptoSmall }

/-- 'bolsterlaw09.RingElects', WHERE WHAT IT READS IS OF BULK AT MOST 1048576: true; the input reads as it did. -/
def ringElectsUptoRow : OpenClaim := { program := "ytkjcnegkdlmapaa", sum := "d682bc7f2a3a9c0dbde2329847a9dcb800186863222c2c0c827403422e0a71b7", func := "bolster/bolsterlaw09.RingElects", spec := "ringElects", unfollowed := true, recurses := true, apart := false, narrowed := true }
def RingElectsUptoSaid : Prop := ringElectsUptoRow.holds Try.pinned (OpenSpec.upto ringElectsSpec)

/-- 'bolsterlaw09.RingFew', WHERE WHAT IT READS IS OF BULK AT MOST 1048576: true; the input reads as it did. -/
def ringFewUptoRow : OpenClaim := { program := "ytkjcnegkdlmapaa", sum := "d682bc7f2a3a9c0dbde2329847a9dcb800186863222c2c0c827403422e0a71b7", func := "bolster/bolsterlaw09.RingFew", spec := "ringFew", unfollowed := true, recurses := true, apart := false, narrowed := true }
def RingFewUptoSaid : Prop := ringFewUptoRow.holds Try.pinned (OpenSpec.upto ringFewSpec)

/-- 'bolsterlaw09.RingPeterson', WHERE WHAT IT READS IS OF BULK AT MOST 1048576: true; the input reads as it did. -/
def ringPetersonUptoRow : OpenClaim := { program := "ytkjcnegkdlmapaa", sum := "d682bc7f2a3a9c0dbde2329847a9dcb800186863222c2c0c827403422e0a71b7", func := "bolster/bolsterlaw09.RingPeterson", spec := "ringPeterson", unfollowed := true, recurses := true, apart := false, narrowed := true }
def RingPetersonUptoSaid : Prop := ringPetersonUptoRow.holds Try.pinned (OpenSpec.upto ringPetersonSpec)

/-- 'bolsterlaw09.RingSafe', WHERE WHAT IT READS IS OF BULK AT MOST 1048576: true; the input reads as it did. -/
def ringSafeUptoRow : OpenClaim := { program := "ytkjcnegkdlmapaa", sum := "d682bc7f2a3a9c0dbde2329847a9dcb800186863222c2c0c827403422e0a71b7", func := "bolster/bolsterlaw09.RingSafe", spec := "ringSafe", unfollowed := true, recurses := true, apart := false, narrowed := true }
def RingSafeUptoSaid : Prop := ringSafeUptoRow.holds Try.pinned (OpenSpec.upto ringSafeSpec)

/-- 'bolsterlaw09.RingLive', WHERE WHAT IT READS IS OF BULK AT MOST 1048576: true; the input reads as it did. -/
def ringLiveUptoRow : OpenClaim := { program := "ytkjcnegkdlmapaa", sum := "d682bc7f2a3a9c0dbde2329847a9dcb800186863222c2c0c827403422e0a71b7", func := "bolster/bolsterlaw09.RingLive", spec := "ringLive", unfollowed := true, recurses := true, apart := false, narrowed := true }
def RingLiveUptoSaid : Prop := ringLiveUptoRow.holds Try.pinned (OpenSpec.upto ringLiveSpec)

/-- 'bolsterlaw09.RingTree', WHERE WHAT IT READS IS OF BULK AT MOST 1048576: true; the input reads as it did. -/
def ringTreeUptoRow : OpenClaim := { program := "ytkjcnegkdlmapaa", sum := "d682bc7f2a3a9c0dbde2329847a9dcb800186863222c2c0c827403422e0a71b7", func := "bolster/bolsterlaw09.RingTree", spec := "ringTree", unfollowed := true, recurses := true, apart := false, narrowed := true }
def RingTreeUptoSaid : Prop := ringTreeUptoRow.holds Try.pinned (OpenSpec.upto ringTreeSpec)

/-- 'bolsterlaw09.RingPlays', WHERE WHAT IT READS IS OF BULK AT MOST 1048576: true; the input reads as it did. -/
def ringPlaysUptoRow : OpenClaim := { program := "ytkjcnegkdlmapaa", sum := "d682bc7f2a3a9c0dbde2329847a9dcb800186863222c2c0c827403422e0a71b7", func := "bolster/bolsterlaw09.RingPlays", spec := "ringPlays", unfollowed := true, recurses := true, apart := false, narrowed := true }
def RingPlaysUptoSaid : Prop := ringPlaysUptoRow.holds Try.pinned (OpenSpec.upto ringPlaysSpec)

/-- 'bolsterlaw09.RingNews', WHERE WHAT IT READS IS OF BULK AT MOST 1048576: true; the input reads as it did. -/
def ringNewsUptoRow : OpenClaim := { program := "ytkjcnegkdlmapaa", sum := "d682bc7f2a3a9c0dbde2329847a9dcb800186863222c2c0c827403422e0a71b7", func := "bolster/bolsterlaw09.RingNews", spec := "ringNews", unfollowed := true, recurses := true, apart := false, narrowed := true }
def RingNewsUptoSaid : Prop := ringNewsUptoRow.holds Try.pinned (OpenSpec.upto ringNewsSpec)

/-- 'bolsterlaw09.RingWorks', WHERE WHAT IT READS IS OF BULK AT MOST 1048576: true; the input reads as it did. -/
def ringWorksUptoRow : OpenClaim := { program := "ytkjcnegkdlmapaa", sum := "d682bc7f2a3a9c0dbde2329847a9dcb800186863222c2c0c827403422e0a71b7", func := "bolster/bolsterlaw09.RingWorks", spec := "ringWorks", unfollowed := true, recurses := true, apart := false, narrowed := true }
def RingWorksUptoSaid : Prop := ringWorksUptoRow.holds Try.pinned (OpenSpec.upto ringWorksSpec)

/-- 'bolsterlaw09.RingCloned', WHERE WHAT IT READS IS OF BULK AT MOST 1048576: true; the input reads as it did. -/
def ringClonedUptoRow : OpenClaim := { program := "ytkjcnegkdlmapaa", sum := "d682bc7f2a3a9c0dbde2329847a9dcb800186863222c2c0c827403422e0a71b7", func := "bolster/bolsterlaw09.RingCloned", spec := "ringCloned", unfollowed := true, recurses := true, apart := false, narrowed := true }
def RingClonedUptoSaid : Prop := ringClonedUptoRow.holds Try.pinned (OpenSpec.upto ringClonedSpec)

/-- 'bolsterlaw09.RingNobody', WHERE WHAT IT READS IS OF BULK AT MOST 1048576: true; the input reads as it did. -/
def ringNobodyUptoRow : OpenClaim := { program := "ytkjcnegkdlmapaa", sum := "d682bc7f2a3a9c0dbde2329847a9dcb800186863222c2c0c827403422e0a71b7", func := "bolster/bolsterlaw09.RingNobody", spec := "ringNobody", unfollowed := true, recurses := true, apart := false, narrowed := true }
def RingNobodyUptoSaid : Prop := ringNobodyUptoRow.holds Try.pinned (OpenSpec.upto ringNobodySpec)

end Rows
end Go.Proofs.Ytkjcnegkdlmapaa
