/-
  No cell of these rows narrows 'for every input' (looked for: loops, veiled, ifaces, maps, wideKeys, modest, calm, conditions, laid).
  DERIVED. THE GIVEN ROWS OF THIS SEAT. 4 by the template 'for every input the law returns true; each argument reads behind the call as it read before'; 0 by the template 'total and deterministic' (their statements: YtknmfocedphgmaaGreatTotals.lean).
  GIVEN WITH THE SEED: the statements are not yours to turn. If you find one false, say at which input.
  Laid BY PROGRAM, IN A SANDBOX (cutbox-rows.mjs): the forced cells as the released guide's own fill.sh prints them over the translation 0d7323f1c3e5b512… (all of the seat's roots in one cut). By AI agents, Wed Nov 11 2026. No macro, syntax, notation, axiom, sorry.
-/
import Derived.Test.YtknmfocedphgmaaGreatChecked
import GoSem.Claim
import GoSem.ClaimJoined
import GoSem.ClaimMapViews
import Derived.JoinedTies
import Derived.KernelRfl
namespace Go.Proofs.YtknmfocedphgmaaGreat
/- THE CELL 'sum', in the pinned program and in every row, IS THE sha256 OF THE DUMP (.gsa) THAT YtknmfocedphgmaaGreatProg.lean LOADS. Nothing in Lean hashes anything: it is a label: what it is worth is what the hold of that sum in a sandbox is worth. -/
noncomputable def Tryz.pinned : Pinned := { name := "ytknmfocedphgmaagreat", sum := "0d7323f1c3e5b5129a925bbe9fb7de997d18abba1e91221dfa7dcdde5555775e", checked := Tryz.checked }
namespace Rows
def none {H : Type} : Left H := { results := [], args := [] }

/-- 'patchbaylaw48.NetworkRuns': WHATEVER THE INPUT: true; the input reads as it did. -/
def networkRunsSpec : ChangeSpec := { name := "networkRuns", fn := fun _ => fun
  | [d1, d2, d3] => { results := [.lit (.bool true)], args := [d1, d2, d3] }
  | _ => none }
def networkRunsRow : OpenClaim := { program := "ytknmfocedphgmaagreat", sum := "0d7323f1c3e5b5129a925bbe9fb7de997d18abba1e91221dfa7dcdde5555775e", func := "patchbay/patchbaylaw48.NetworkRuns", spec := "networkRuns", unfollowed := true, recurses := true, apart := false }
def NetworkRunsSaid : Prop := networkRunsRow.holds Tryz.pinned (OpenSpec.ofChange networkRunsSpec)

/-- ITS FALSE NEIGHBOUR: 'it returns false'. Refute it at one input. -/
def networkRunsWrong : ChangeSpec := { name := "networkRuns", fn := fun _ => fun
  | [d1, d2, d3] => { results := [.lit (.bool false)], args := [d1, d2, d3] }
  | _ => none }
def NetworkRunsWrongFalsely : Prop := networkRunsRow.holds Tryz.pinned (OpenSpec.ofChange networkRunsWrong)

/-- 'patchbaylaw48.NetworkScripted': WHATEVER THE INPUT: true; the input reads as it did. -/
def networkScriptedSpec : ChangeSpec := { name := "networkScripted", fn := fun _ => fun
  | [d1, d2, d3] => { results := [.lit (.bool true)], args := [d1, d2, d3] }
  | _ => none }
def networkScriptedRow : OpenClaim := { program := "ytknmfocedphgmaagreat", sum := "0d7323f1c3e5b5129a925bbe9fb7de997d18abba1e91221dfa7dcdde5555775e", func := "patchbay/patchbaylaw48.NetworkScripted", spec := "networkScripted", unfollowed := true, recurses := true, apart := false }
def NetworkScriptedSaid : Prop := networkScriptedRow.holds Tryz.pinned (OpenSpec.ofChange networkScriptedSpec)

/-- ITS FALSE NEIGHBOUR: 'it returns false'. Refute it at one input. -/
def networkScriptedWrong : ChangeSpec := { name := "networkScripted", fn := fun _ => fun
  | [d1, d2, d3] => { results := [.lit (.bool false)], args := [d1, d2, d3] }
  | _ => none }
def NetworkScriptedWrongFalsely : Prop := networkScriptedRow.holds Tryz.pinned (OpenSpec.ofChange networkScriptedWrong)

/-- 'patchbaylaw48.NetworkEvents': WHATEVER THE INPUT: true; the input reads as it did. -/
def networkEventsSpec : ChangeSpec := { name := "networkEvents", fn := fun _ => fun
  | [d1, d2, d3] => { results := [.lit (.bool true)], args := [d1, d2, d3] }
  | _ => none }
def networkEventsRow : OpenClaim := { program := "ytknmfocedphgmaagreat", sum := "0d7323f1c3e5b5129a925bbe9fb7de997d18abba1e91221dfa7dcdde5555775e", func := "patchbay/patchbaylaw48.NetworkEvents", spec := "networkEvents", unfollowed := true, recurses := true, apart := false }
def NetworkEventsSaid : Prop := networkEventsRow.holds Tryz.pinned (OpenSpec.ofChange networkEventsSpec)

/-- ITS FALSE NEIGHBOUR: 'it returns false'. Refute it at one input. -/
def networkEventsWrong : ChangeSpec := { name := "networkEvents", fn := fun _ => fun
  | [d1, d2, d3] => { results := [.lit (.bool false)], args := [d1, d2, d3] }
  | _ => none }
def NetworkEventsWrongFalsely : Prop := networkEventsRow.holds Tryz.pinned (OpenSpec.ofChange networkEventsWrong)

/-- 'patchbaylaw48.NetworkClones': WHATEVER THE INPUT: true; the input reads as it did. -/
def networkClonesSpec : ChangeSpec := { name := "networkClones", fn := fun _ => fun
  | [d1, d2, d3] => { results := [.lit (.bool true)], args := [d1, d2, d3] }
  | _ => none }
def networkClonesRow : OpenClaim := { program := "ytknmfocedphgmaagreat", sum := "0d7323f1c3e5b5129a925bbe9fb7de997d18abba1e91221dfa7dcdde5555775e", func := "patchbay/patchbaylaw48.NetworkClones", spec := "networkClones", unfollowed := true, recurses := true, apart := false }
def NetworkClonesSaid : Prop := networkClonesRow.holds Tryz.pinned (OpenSpec.ofChange networkClonesSpec)

/-- ITS FALSE NEIGHBOUR: 'it returns false'. Refute it at one input. -/
def networkClonesWrong : ChangeSpec := { name := "networkClones", fn := fun _ => fun
  | [d1, d2, d3] => { results := [.lit (.bool false)], args := [d1, d2, d3] }
  | _ => none }
def NetworkClonesWrongFalsely : Prop := networkClonesRow.holds Tryz.pinned (OpenSpec.ofChange networkClonesWrong)

/- THE SECOND FORM. 'bulk': how many values and letters a reading holds, each counted each time it is reached (what is shared counts as often as it is met; a slice's spare places count too). A statement '..UptoSaid' is the law's where the arguments, and the package variables that the reading takes, are together of bulk at most 1048576: NARROWER than '..Said'. Prove '..Said' where nothing that the law and all that it calls make is longer than what came in: it says more and counts as full. Else prove '..UptoSaid'. A law counts once. -/
mutual
def uptoBulk {H : Type} : DataW H → Nat
  | .lit (.string bytes) => bytes.length + 1
  | .lit _ => 1
  | .nil => 1
  | .ptr d => uptoBulk d + 1
  | .slice elems spare => uptoBulkAll elems + uptoBulkAll spare + 1
  | .agg parts => uptoBulkAll parts + 1
  | .iface _ d => uptoBulk d + 1
  | .map entries => uptoBulkEntries entries + 1
  | .held _ => 1
def uptoBulkAll {H : Type} : List (DataW H) → Nat
  | [] => 0
  | d :: r => uptoBulk d + uptoBulkAll r
def uptoBulkEntries {H : Type} : List (Lit × DataW H) → Nat
  | [] => 0
  | x :: r => uptoBulkEntry x + uptoBulkEntries r
def uptoBulkEntry {H : Type} : Lit × DataW H → Nat
  | (.string bytes, d) => bytes.length + uptoBulk d + 1
  | (_, d) => uptoBulk d + 1
 end
def uptoSmall : (H : Type) → List (DataW H) → Bool := fun _ ds => decide (uptoBulkAll ds ≤ 1048576)
def OpenSpec.upto (s : _root_.Go.ChangeSpec) : _root_.Go.OpenSpec := { _root_.Go.OpenSpec.ofChange s with cond := some uptoSmall }

/-- 'patchbaylaw48.NetworkRuns', WHERE WHAT IT READS IS OF BULK AT MOST 1048576: true; the input reads as it did. -/
def networkRunsUptoRow : OpenClaim := { program := "ytknmfocedphgmaagreat", sum := "0d7323f1c3e5b5129a925bbe9fb7de997d18abba1e91221dfa7dcdde5555775e", func := "patchbay/patchbaylaw48.NetworkRuns", spec := "networkRuns", unfollowed := true, recurses := true, apart := false, narrowed := true }
def NetworkRunsUptoSaid : Prop := networkRunsUptoRow.holds Tryz.pinned (OpenSpec.upto networkRunsSpec)

/-- 'patchbaylaw48.NetworkScripted', WHERE WHAT IT READS IS OF BULK AT MOST 1048576: true; the input reads as it did. -/
def networkScriptedUptoRow : OpenClaim := { program := "ytknmfocedphgmaagreat", sum := "0d7323f1c3e5b5129a925bbe9fb7de997d18abba1e91221dfa7dcdde5555775e", func := "patchbay/patchbaylaw48.NetworkScripted", spec := "networkScripted", unfollowed := true, recurses := true, apart := false, narrowed := true }
def NetworkScriptedUptoSaid : Prop := networkScriptedUptoRow.holds Tryz.pinned (OpenSpec.upto networkScriptedSpec)

/-- 'patchbaylaw48.NetworkEvents', WHERE WHAT IT READS IS OF BULK AT MOST 1048576: true; the input reads as it did. -/
def networkEventsUptoRow : OpenClaim := { program := "ytknmfocedphgmaagreat", sum := "0d7323f1c3e5b5129a925bbe9fb7de997d18abba1e91221dfa7dcdde5555775e", func := "patchbay/patchbaylaw48.NetworkEvents", spec := "networkEvents", unfollowed := true, recurses := true, apart := false, narrowed := true }
def NetworkEventsUptoSaid : Prop := networkEventsUptoRow.holds Tryz.pinned (OpenSpec.upto networkEventsSpec)

/-- 'patchbaylaw48.NetworkClones', WHERE WHAT IT READS IS OF BULK AT MOST 1048576: true; the input reads as it did. -/
def networkClonesUptoRow : OpenClaim := { program := "ytknmfocedphgmaagreat", sum := "0d7323f1c3e5b5129a925bbe9fb7de997d18abba1e91221dfa7dcdde5555775e", func := "patchbay/patchbaylaw48.NetworkClones", spec := "networkClones", unfollowed := true, recurses := true, apart := false, narrowed := true }
def NetworkClonesUptoSaid : Prop := networkClonesUptoRow.holds Tryz.pinned (OpenSpec.upto networkClonesSpec)

end Rows
end Go.Proofs.YtknmfocedphgmaaGreat
