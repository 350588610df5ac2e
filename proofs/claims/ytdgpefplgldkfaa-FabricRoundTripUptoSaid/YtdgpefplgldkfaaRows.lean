/-
  No cell of these rows narrows 'for every input' (looked for: loops, veiled, ifaces, maps, wideKeys, modest, calm, conditions, laid).
  DERIVED. THE GIVEN ROWS OF THIS SEAT. 5 by the template 'for every input the law returns true; each argument reads behind the call as it read before'; 0 by the template 'total and deterministic' (their statements: YtdgpefplgldkfaaTotals.lean).
  GIVEN WITH THE SEED: the statements are not yours to turn. If you find one false, say at which input.
  Laid BY PROGRAM, IN A SANDBOX (cutbox-rows.mjs): the forced cells as the released guide's own fill.sh prints them over the translation 0587c0833526202c… (all of the seat's roots in one cut). By AI agents, Wed Nov 11 2026. No macro, syntax, notation, axiom, sorry.
-/
import Derived.Test.YtdgpefplgldkfaaChecked
import GoSem.Claim
import GoSem.ClaimJoined
import GoSem.ClaimMapViews
import Derived.JoinedTies
import Derived.KernelRfl
namespace Go.Proofs.Ytdgpefplgldkfaa
/- THE CELL 'sum', in the pinned program and in every row, IS THE sha256 OF THE DUMP (.gsa) THAT YtdgpefplgldkfaaProg.lean LOADS. Nothing in Lean hashes anything: it is a label: what it is worth is what the hold of that sum in a sandbox is worth. -/
noncomputable def Try.pinned : Pinned := { name := "ytdgpefplgldkfaa", sum := "0587c0833526202c8724f5eb52e29a40cf16e80d1722036962406a6056f3e429", checked := Try.checked }
namespace Rows
def none {H : Type} : Left H := { results := [], args := [] }

/-- 'patchbaylaw46.FabricPackets': WHATEVER THE INPUT: true; the input reads as it did. -/
def fabricPacketsSpec : ChangeSpec := { name := "fabricPackets", fn := fun _ => fun
  | [d1, d2, d3] => { results := [.lit (.bool true)], args := [d1, d2, d3] }
  | _ => none }
def fabricPacketsRow : OpenClaim := { program := "ytdgpefplgldkfaa", sum := "0587c0833526202c8724f5eb52e29a40cf16e80d1722036962406a6056f3e429", func := "patchbay/patchbaylaw46.FabricPackets", spec := "fabricPackets", unfollowed := true, recurses := true, apart := false }
def FabricPacketsSaid : Prop := fabricPacketsRow.holds Try.pinned (OpenSpec.ofChange fabricPacketsSpec)

/-- ITS FALSE NEIGHBOUR: 'it returns false'. Refute it at one input. -/
def fabricPacketsWrong : ChangeSpec := { name := "fabricPackets", fn := fun _ => fun
  | [d1, d2, d3] => { results := [.lit (.bool false)], args := [d1, d2, d3] }
  | _ => none }
def FabricPacketsWrongFalsely : Prop := fabricPacketsRow.holds Try.pinned (OpenSpec.ofChange fabricPacketsWrong)

/-- 'patchbaylaw46.FabricRoundTrip': WHATEVER THE INPUT: true; the input reads as it did. -/
def fabricRoundTripSpec : ChangeSpec := { name := "fabricRoundTrip", fn := fun _ => fun
  | [d1, d2, d3] => { results := [.lit (.bool true)], args := [d1, d2, d3] }
  | _ => none }
def fabricRoundTripRow : OpenClaim := { program := "ytdgpefplgldkfaa", sum := "0587c0833526202c8724f5eb52e29a40cf16e80d1722036962406a6056f3e429", func := "patchbay/patchbaylaw46.FabricRoundTrip", spec := "fabricRoundTrip", unfollowed := true, recurses := true, apart := false }
def FabricRoundTripSaid : Prop := fabricRoundTripRow.holds Try.pinned (OpenSpec.ofChange fabricRoundTripSpec)

/-- ITS FALSE NEIGHBOUR: 'it returns false'. Refute it at one input. -/
def fabricRoundTripWrong : ChangeSpec := { name := "fabricRoundTrip", fn := fun _ => fun
  | [d1, d2, d3] => { results := [.lit (.bool false)], args := [d1, d2, d3] }
  | _ => none }
def FabricRoundTripWrongFalsely : Prop := fabricRoundTripRow.holds Try.pinned (OpenSpec.ofChange fabricRoundTripWrong)

/-- 'patchbaylaw46.FabricEntries': WHATEVER THE INPUT: true; the input reads as it did. -/
def fabricEntriesSpec : ChangeSpec := { name := "fabricEntries", fn := fun _ => fun
  | [d] => { results := [.lit (.bool true)], args := [d] }
  | _ => none }
def fabricEntriesRow : OpenClaim := { program := "ytdgpefplgldkfaa", sum := "0587c0833526202c8724f5eb52e29a40cf16e80d1722036962406a6056f3e429", func := "patchbay/patchbaylaw46.FabricEntries", spec := "fabricEntries", unfollowed := true, recurses := true, apart := false }
def FabricEntriesSaid : Prop := fabricEntriesRow.holds Try.pinned (OpenSpec.ofChange fabricEntriesSpec)

/-- ITS FALSE NEIGHBOUR: 'it returns false'. Refute it at one input. -/
def fabricEntriesWrong : ChangeSpec := { name := "fabricEntries", fn := fun _ => fun
  | [d] => { results := [.lit (.bool false)], args := [d] }
  | _ => none }
def FabricEntriesWrongFalsely : Prop := fabricEntriesRow.holds Try.pinned (OpenSpec.ofChange fabricEntriesWrong)

/-- 'patchbaylaw46.FabricInitialOps': WHATEVER THE INPUT: true; the input reads as it did. -/
def fabricInitialOpsSpec : ChangeSpec := { name := "fabricInitialOps", fn := fun _ => fun
  | [d1, d2] => { results := [.lit (.bool true)], args := [d1, d2] }
  | _ => none }
def fabricInitialOpsRow : OpenClaim := { program := "ytdgpefplgldkfaa", sum := "0587c0833526202c8724f5eb52e29a40cf16e80d1722036962406a6056f3e429", func := "patchbay/patchbaylaw46.FabricInitialOps", spec := "fabricInitialOps", unfollowed := true, recurses := true, apart := false }
def FabricInitialOpsSaid : Prop := fabricInitialOpsRow.holds Try.pinned (OpenSpec.ofChange fabricInitialOpsSpec)

/-- ITS FALSE NEIGHBOUR: 'it returns false'. Refute it at one input. -/
def fabricInitialOpsWrong : ChangeSpec := { name := "fabricInitialOps", fn := fun _ => fun
  | [d1, d2] => { results := [.lit (.bool false)], args := [d1, d2] }
  | _ => none }
def FabricInitialOpsWrongFalsely : Prop := fabricInitialOpsRow.holds Try.pinned (OpenSpec.ofChange fabricInitialOpsWrong)

/-- 'patchbaylaw46.FabricValidEntries': WHATEVER THE INPUT: true; the input reads as it did. -/
def fabricValidEntriesSpec : ChangeSpec := { name := "fabricValidEntries", fn := fun _ => fun
  | [d1, d2, d3] => { results := [.lit (.bool true)], args := [d1, d2, d3] }
  | _ => none }
def fabricValidEntriesRow : OpenClaim := { program := "ytdgpefplgldkfaa", sum := "0587c0833526202c8724f5eb52e29a40cf16e80d1722036962406a6056f3e429", func := "patchbay/patchbaylaw46.FabricValidEntries", spec := "fabricValidEntries", unfollowed := true, recurses := true, apart := false }
def FabricValidEntriesSaid : Prop := fabricValidEntriesRow.holds Try.pinned (OpenSpec.ofChange fabricValidEntriesSpec)

/-- ITS FALSE NEIGHBOUR: 'it returns false'. Refute it at one input. -/
def fabricValidEntriesWrong : ChangeSpec := { name := "fabricValidEntries", fn := fun _ => fun
  | [d1, d2, d3] => { results := [.lit (.bool false)], args := [d1, d2, d3] }
  | _ => none }
def FabricValidEntriesWrongFalsely : Prop := fabricValidEntriesRow.holds Try.pinned (OpenSpec.ofChange fabricValidEntriesWrong)

/- THE SECOND FORM. 'bulk': how many values and letters a reading holds, each counted each time it is reached (what is shared counts as often as it is met; a slice's spare places count too). A statement '..UptoSaid' is the law's where the arguments, and the package variables that the reading takes, are together of bulk at most 1048576: NARROWER than '..Said'. Prove '..Said' where nothing that the law and all that it calls make is longer than what came in: it says more and counts as full. Else prove '..UptoSaid'. A law counts once. -/
mutual
def uptoBulk {H : Type} : DataW H → Nat
  | .lit (.string bytes) => bytes.length + 1
  | .lit _ => 1
  | .nil => 1
  | .ptr d => uptoBulk d + 1
  | .slice elems spare => uptoBulkAll elems + uptoBulkAll spare + 1
  | .agg parts => uptoBulkAll parts + 1
  | .iface _ d => uptoBulk d + 1
  | .map entries => uptoBulkEntries entries + 1
  | .held _ => 1
def uptoBulkAll {H : Type} : List (DataW H) → Nat
  | [] => 0
  | d :: r => uptoBulk d + uptoBulkAll r
def uptoBulkEntries {H : Type} : List (Lit × DataW H) → Nat
  | [] => 0
  | x :: r => uptoBulkEntry x + uptoBulkEntries r
def uptoBulkEntry {H : Type} : Lit × DataW H → Nat
  | (.string bytes, d) => bytes.length + uptoBulk d + 1
  | (_, d) => uptoBulk d + 1
 end
def uptoSmall : (H : Type) → List (DataW H) → Bool := fun _ ds => decide (uptoBulkAll ds ≤ 1048576)
def OpenSpec.upto (s : _root_.Go.ChangeSpec) : _root_.Go.OpenSpec := { _root_.Go.OpenSpec.ofChange s with cond := some uptoSmall }

/-- 'patchbaylaw46.FabricPackets', WHERE WHAT IT READS IS OF BULK AT MOST 1048576: true; the input reads as it did. -/
def fabricPacketsUptoRow : OpenClaim := { program := "ytdgpefplgldkfaa", sum := "0587c0833526202c8724f5eb52e29a40cf16e80d1722036962406a6056f3e429", func := "patchbay/patchbaylaw46.FabricPackets", spec := "fabricPackets", unfollowed := true, recurses := true, apart := false, narrowed := true }
def FabricPacketsUptoSaid : Prop := fabricPacketsUptoRow.holds Try.pinned (OpenSpec.upto fabricPacketsSpec)

/-- 'patchbaylaw46.FabricRoundTrip', WHERE WHAT IT READS IS OF BULK AT MOST 1048576: true; the input reads as it did. -/
def fabricRoundTripUptoRow : OpenClaim := { program := "ytdgpefplgldkfaa", sum := "0587c0833526202c8724f5eb52e29a40cf16e80d1722036962406a6056f3e429", func := "patchbay/patchbaylaw46.FabricRoundTrip", spec := "fabricRoundTrip", unfollowed := true, recurses := true, apart := false, narrowed := true }
def FabricRoundTripUptoSaid : Prop := fabricRoundTripUptoRow.holds Try.pinned (OpenSpec.upto fabricRoundTripSpec)

/-- 'patchbaylaw46.FabricEntries', WHERE WHAT IT READS IS OF BULK AT MOST 1048576: true; the input reads as it did. -/
def fabricEntriesUptoRow : OpenClaim := { program := "ytdgpefplgldkfaa", sum := "0587c0833526202c8724f5eb52e29a40cf16e80d1722036962406a6056f3e429", func := "patchbay/patchbaylaw46.FabricEntries", spec := "fabricEntries", unfollowed := true, recurses := true, apart := false, narrowed := true }
def FabricEntriesUptoSaid : Prop := fabricEntriesUptoRow.holds Try.pinned (OpenSpec.upto fabricEntriesSpec)

/-- 'patchbaylaw46.FabricInitialOps', WHERE WHAT IT READS IS OF BULK AT MOST 1048576: true; the input reads as it did. -/
def fabricInitialOpsUptoRow : OpenClaim := { program := "ytdgpefplgldkfaa", sum := "0587c0833526202c8724f5eb52e29a40cf16e80d1722036962406a6056f3e429", func := "patchbay/patchbaylaw46.FabricInitialOps", spec := "fabricInitialOps", unfollowed := true, recurses := true, apart := false, narrowed := true }
def FabricInitialOpsUptoSaid : Prop := fabricInitialOpsUptoRow.holds Try.pinned (OpenSpec.upto fabricInitialOpsSpec)

/-- 'patchbaylaw46.FabricValidEntries', WHERE WHAT IT READS IS OF BULK AT MOST 1048576: true; the input reads as it did. -/
def fabricValidEntriesUptoRow : OpenClaim := { program := "ytdgpefplgldkfaa", sum := "0587c0833526202c8724f5eb52e29a40cf16e80d1722036962406a6056f3e429", func := "patchbay/patchbaylaw46.FabricValidEntries", spec := "fabricValidEntries", unfollowed := true, recurses := true, apart := false, narrowed := true }
def FabricValidEntriesUptoSaid : Prop := fabricValidEntriesUptoRow.holds Try.pinned (OpenSpec.upto fabricValidEntriesSpec)

end Rows
end Go.Proofs.Ytdgpefplgldkfaa
