/-
  No cell of these rows narrows 'for every input' (looked for: loops, veiled, ifaces, maps, wideKeys, modest, calm, conditions, laid).
  DERIVED. THE GIVEN ROWS OF THIS SEAT. 6 by the template 'for every input the law returns true; each argument reads behind the call as it read before'; 0 by the template 'total and deterministic' (their statements: YtbhkkpfccfoioaaGreatTotals.lean).
  GIVEN WITH THE SEED: the statements are not yours to turn. If you find one false, say at which input.
  Laid BY PROGRAM, IN A SANDBOX (cutbox-rows.mjs): the forced cells as the released guide's own fill.sh prints them over the translation 549557f1473f33d7… (all of the seat's roots in one cut). By AI agents, Wed Nov 11 2026. No macro, syntax, notation, axiom, sorry.
-/
import Derived.Test.YtbhkkpfccfoioaaGreatChecked
import GoSem.Claim
import GoSem.ClaimJoined
import GoSem.ClaimMapViews
import Derived.JoinedTies
import Derived.KernelRfl
namespace Go.Proofs.YtbhkkpfccfoioaaGreat
/- THE CELL 'sum', in the pinned program and in every row, IS THE sha256 OF THE DUMP (.gsa) THAT YtbhkkpfccfoioaaGreatProg.lean LOADS. Nothing in Lean hashes anything: it is a label: what it is worth is what the hold of that sum in a sandbox is worth. -/
noncomputable def Tryz.pinned : Pinned := { name := "ytbhkkpfccfoioaagreat", sum := "549557f1473f33d7de54b2a1171e5513382bb05b1d8acb5969c41ecdb33918a6", checked := Tryz.checked }
namespace Rows
def none {H : Type} : Left H := { results := [], args := [] }

/-- 'patchbaylaw50.HsaChecks': WHATEVER THE INPUT: true; the input reads as it did. -/
def hsaChecksSpec : ChangeSpec := { name := "hsaChecks", fn := fun _ => fun
  | [d1, d2, d3] => { results := [.lit (.bool true)], args := [d1, d2, d3] }
  | _ => none }
def hsaChecksRow : OpenClaim := { program := "ytbhkkpfccfoioaagreat", sum := "549557f1473f33d7de54b2a1171e5513382bb05b1d8acb5969c41ecdb33918a6", func := "patchbay/patchbaylaw50.HsaChecks", spec := "hsaChecks", unfollowed := true, recurses := true, apart := false }
def HsaChecksSaid : Prop := hsaChecksRow.holds Tryz.pinned (OpenSpec.ofChange hsaChecksSpec)

/-- ITS FALSE NEIGHBOUR: 'it returns false'. Refute it at one input. -/
def hsaChecksWrong : ChangeSpec := { name := "hsaChecks", fn := fun _ => fun
  | [d1, d2, d3] => { results := [.lit (.bool false)], args := [d1, d2, d3] }
  | _ => none }
def HsaChecksWrongFalsely : Prop := hsaChecksRow.holds Tryz.pinned (OpenSpec.ofChange hsaChecksWrong)

/-- 'patchbaylaw50.HsaTransfers': WHATEVER THE INPUT: true; the input reads as it did. -/
def hsaTransfersSpec : ChangeSpec := { name := "hsaTransfers", fn := fun _ => fun
  | [d1, d2, d3] => { results := [.lit (.bool true)], args := [d1, d2, d3] }
  | _ => none }
def hsaTransfersRow : OpenClaim := { program := "ytbhkkpfccfoioaagreat", sum := "549557f1473f33d7de54b2a1171e5513382bb05b1d8acb5969c41ecdb33918a6", func := "patchbay/patchbaylaw50.HsaTransfers", spec := "hsaTransfers", unfollowed := true, recurses := true, apart := false }
def HsaTransfersSaid : Prop := hsaTransfersRow.holds Tryz.pinned (OpenSpec.ofChange hsaTransfersSpec)

/-- ITS FALSE NEIGHBOUR: 'it returns false'. Refute it at one input. -/
def hsaTransfersWrong : ChangeSpec := { name := "hsaTransfers", fn := fun _ => fun
  | [d1, d2, d3] => { results := [.lit (.bool false)], args := [d1, d2, d3] }
  | _ => none }
def HsaTransfersWrongFalsely : Prop := hsaTransfersRow.holds Tryz.pinned (OpenSpec.ofChange hsaTransfersWrong)

/-- 'patchbaylaw50.HsaSingles': WHATEVER THE INPUT: true; the input reads as it did. -/
def hsaSinglesSpec : ChangeSpec := { name := "hsaSingles", fn := fun _ => fun
  | [d1, d2, d3] => { results := [.lit (.bool true)], args := [d1, d2, d3] }
  | _ => none }
def hsaSinglesRow : OpenClaim := { program := "ytbhkkpfccfoioaagreat", sum := "549557f1473f33d7de54b2a1171e5513382bb05b1d8acb5969c41ecdb33918a6", func := "patchbay/patchbaylaw50.HsaSingles", spec := "hsaSingles", unfollowed := true, recurses := true, apart := false }
def HsaSinglesSaid : Prop := hsaSinglesRow.holds Tryz.pinned (OpenSpec.ofChange hsaSinglesSpec)

/-- ITS FALSE NEIGHBOUR: 'it returns false'. Refute it at one input. -/
def hsaSinglesWrong : ChangeSpec := { name := "hsaSingles", fn := fun _ => fun
  | [d1, d2, d3] => { results := [.lit (.bool false)], args := [d1, d2, d3] }
  | _ => none }
def HsaSinglesWrongFalsely : Prop := hsaSinglesRow.holds Tryz.pinned (OpenSpec.ofChange hsaSinglesWrong)

/-- 'patchbaylaw50.HsaUnites': WHATEVER THE INPUT: true; the input reads as it did. -/
def hsaUnitesSpec : ChangeSpec := { name := "hsaUnites", fn := fun _ => fun
  | [d1, d2, d3] => { results := [.lit (.bool true)], args := [d1, d2, d3] }
  | _ => none }
def hsaUnitesRow : OpenClaim := { program := "ytbhkkpfccfoioaagreat", sum := "549557f1473f33d7de54b2a1171e5513382bb05b1d8acb5969c41ecdb33918a6", func := "patchbay/patchbaylaw50.HsaUnites", spec := "hsaUnites", unfollowed := true, recurses := true, apart := false }
def HsaUnitesSaid : Prop := hsaUnitesRow.holds Tryz.pinned (OpenSpec.ofChange hsaUnitesSpec)

/-- ITS FALSE NEIGHBOUR: 'it returns false'. Refute it at one input. -/
def hsaUnitesWrong : ChangeSpec := { name := "hsaUnites", fn := fun _ => fun
  | [d1, d2, d3] => { results := [.lit (.bool false)], args := [d1, d2, d3] }
  | _ => none }
def HsaUnitesWrongFalsely : Prop := hsaUnitesRow.holds Tryz.pinned (OpenSpec.ofChange hsaUnitesWrong)

/-- 'patchbaylaw50.HsaOrders': WHATEVER THE INPUT: true; the input reads as it did. -/
def hsaOrdersSpec : ChangeSpec := { name := "hsaOrders", fn := fun _ => fun
  | [d1, d2, d3] => { results := [.lit (.bool true)], args := [d1, d2, d3] }
  | _ => none }
def hsaOrdersRow : OpenClaim := { program := "ytbhkkpfccfoioaagreat", sum := "549557f1473f33d7de54b2a1171e5513382bb05b1d8acb5969c41ecdb33918a6", func := "patchbay/patchbaylaw50.HsaOrders", spec := "hsaOrders", unfollowed := true, recurses := true, apart := false }
def HsaOrdersSaid : Prop := hsaOrdersRow.holds Tryz.pinned (OpenSpec.ofChange hsaOrdersSpec)

/-- ITS FALSE NEIGHBOUR: 'it returns false'. Refute it at one input. -/
def hsaOrdersWrong : ChangeSpec := { name := "hsaOrders", fn := fun _ => fun
  | [d1, d2, d3] => { results := [.lit (.bool false)], args := [d1, d2, d3] }
  | _ => none }
def HsaOrdersWrongFalsely : Prop := hsaOrdersRow.holds Tryz.pinned (OpenSpec.ofChange hsaOrdersWrong)

/-- 'patchbaylaw50.HsaFollows': WHATEVER THE INPUT: true; the input reads as it did. -/
def hsaFollowsSpec : ChangeSpec := { name := "hsaFollows", fn := fun _ => fun
  | [d1, d2, d3] => { results := [.lit (.bool true)], args := [d1, d2, d3] }
  | _ => none }
def hsaFollowsRow : OpenClaim := { program := "ytbhkkpfccfoioaagreat", sum := "549557f1473f33d7de54b2a1171e5513382bb05b1d8acb5969c41ecdb33918a6", func := "patchbay/patchbaylaw50.HsaFollows", spec := "hsaFollows", unfollowed := true, recurses := true, apart := false }
def HsaFollowsSaid : Prop := hsaFollowsRow.holds Tryz.pinned (OpenSpec.ofChange hsaFollowsSpec)

/-- ITS FALSE NEIGHBOUR: 'it returns false'. Refute it at one input. -/
def hsaFollowsWrong : ChangeSpec := { name := "hsaFollows", fn := fun _ => fun
  | [d1, d2, d3] => { results := [.lit (.bool false)], args := [d1, d2, d3] }
  | _ => none }
def HsaFollowsWrongFalsely : Prop := hsaFollowsRow.holds Tryz.pinned (OpenSpec.ofChange hsaFollowsWrong)

/- THE SECOND FORM. 'bulk': how many values and letters a reading holds, each counted each time it is reached (what is shared counts as often as it is met; a slice's spare places count too). A statement '..UptoSaid' is the law's where the arguments, and the package variables that the reading takes, are together of bulk at most 1048576: NARROWER than '..Said'. Prove '..Said' where nothing that the law and all that it calls make is longer than what came in: it says more and counts as full. Else prove '..UptoSaid'. A law counts once. -/
mutual
def uptoBulk {H : Type} : DataW H → Nat
  | .lit (.string bytes) => bytes.length + 1
  | .lit _ => 1
  | .nil => 1
  | .ptr d => uptoBulk d + 1
  | .slice elems spare => uptoBulkAll elems + uptoBulkAll spare + 1
  | .agg parts => uptoBulkAll parts + 1
  | .iface _ d => uptoBulk d + 1
  | .map entries => uptoBulkEntries entries + 1
  | .held _ => 1
def uptoBulkAll {H : Type} : List (DataW H) → Nat
  | [] => 0
  | d :: r => uptoBulk d + uptoBulkAll r
def uptoBulkEntries {H : Type} : List (Lit × DataW H) → Nat
  | [] => 0
  | x :: r => uptoBulkEntry x + uptoBulkEntries r
def uptoBulkEntry {H : Type} : Lit × DataW H → Nat
  | (.string bytes, d) => bytes.length + uptoBulk d + 1
  | (_, d) => uptoBulk d + 1
 end
def uptoSmall : (H : Type) → List (DataW H) → Bool := fun _ ds => decide (uptoBulkAll ds ≤ 1048576)
def OpenSpec.upto (s : _root_.Go.ChangeSpec) : _root_.Go.OpenSpec := { _root_.Go.OpenSpec.ofChange s with cond := some uptoSmall }

/-- 'patchbaylaw50.HsaChecks', WHERE WHAT IT READS IS OF BULK AT MOST 1048576: true; the input reads as it did. -/
def hsaChecksUptoRow : OpenClaim := { program := "ytbhkkpfccfoioaagreat", sum := "549557f1473f33d7de54b2a1171e5513382bb05b1d8acb5969c41ecdb33918a6", func := "patchbay/patchbaylaw50.HsaChecks", spec := "hsaChecks", unfollowed := true, recurses := true, apart := false, narrowed := true }
def HsaChecksUptoSaid : Prop := hsaChecksUptoRow.holds Tryz.pinned (OpenSpec.upto hsaChecksSpec)

/-- 'patchbaylaw50.HsaTransfers', WHERE WHAT IT READS IS OF BULK AT MOST 1048576: true; the input reads as it did. -/
def hsaTransfersUptoRow : OpenClaim := { program := "ytbhkkpfccfoioaagreat", sum := "549557f1473f33d7de54b2a1171e5513382bb05b1d8acb5969c41ecdb33918a6", func := "patchbay/patchbaylaw50.HsaTransfers", spec := "hsaTransfers", unfollowed := true, recurses := true, apart := false, narrowed := true }
def HsaTransfersUptoSaid : Prop := hsaTransfersUptoRow.holds Tryz.pinned (OpenSpec.upto hsaTransfersSpec)

/-- 'patchbaylaw50.HsaSingles', WHERE WHAT IT READS IS OF BULK AT MOST 1048576: true; the input reads as it did. -/
def hsaSinglesUptoRow : OpenClaim := { program := "ytbhkkpfccfoioaagreat", sum := "549557f1473f33d7de54b2a1171e5513382bb05b1d8acb5969c41ecdb33918a6", func := "patchbay/patchbaylaw50.HsaSingles", spec := "hsaSingles", unfollowed := true, recurses := true, apart := false, narrowed := true }
def HsaSinglesUptoSaid : Prop := hsaSinglesUptoRow.holds Tryz.pinned (OpenSpec.upto hsaSinglesSpec)

/-- 'patchbaylaw50.HsaUnites', WHERE WHAT IT READS IS OF BULK AT MOST 1048576: true; the input reads as it did. -/
def hsaUnitesUptoRow : OpenClaim := { program := "ytbhkkpfccfoioaagreat", sum := "549557f1473f33d7de54b2a1171e5513382bb05b1d8acb5969c41ecdb33918a6", func := "patchbay/patchbaylaw50.HsaUnites", spec := "hsaUnites", unfollowed := true, recurses := true, apart := false, narrowed := true }
def HsaUnitesUptoSaid : Prop := hsaUnitesUptoRow.holds Tryz.pinned (OpenSpec.upto hsaUnitesSpec)

/-- 'patchbaylaw50.HsaOrders', WHERE WHAT IT READS IS OF BULK AT MOST 1048576: true; the input reads as it did. -/
def hsaOrdersUptoRow : OpenClaim := { program := "ytbhkkpfccfoioaagreat", sum := "549557f1473f33d7de54b2a1171e5513382bb05b1d8acb5969c41ecdb33918a6", func := "patchbay/patchbaylaw50.HsaOrders", spec := "hsaOrders", unfollowed := true, recurses := true, apart := false, narrowed := true }
def HsaOrdersUptoSaid : Prop := hsaOrdersUptoRow.holds Tryz.pinned (OpenSpec.upto hsaOrdersSpec)

/-- 'patchbaylaw50.HsaFollows', WHERE WHAT IT READS IS OF BULK AT MOST 1048576: true; the input reads as it did. -/
def hsaFollowsUptoRow : OpenClaim := { program := "ytbhkkpfccfoioaagreat", sum := "549557f1473f33d7de54b2a1171e5513382bb05b1d8acb5969c41ecdb33918a6", func := "patchbay/patchbaylaw50.HsaFollows", spec := "hsaFollows", unfollowed := true, recurses := true, apart := false, narrowed := true }
def HsaFollowsUptoSaid : Prop := hsaFollowsUptoRow.holds Tryz.pinned (OpenSpec.upto hsaFollowsSpec)

end Rows
end Go.Proofs.YtbhkkpfccfoioaaGreat
