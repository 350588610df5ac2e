/-
  NARROWER THAN 'FOR EVERY INPUT', by the rows' own cells (each row's printed sentence says how): InterpRun: loops · InterpRunAll: loops · InterpInvariants: loops · InterpSplit: loops · InterpInvalid: loops · InterpPure: loops.
  DERIVED. THE GIVEN ROWS OF THIS SEAT. 8 by the template 'for every input the law returns true; each argument reads behind the call as it read before'; 0 by the template 'total and deterministic' (their statements: YtcehjengeaafpaaGreatTotals.lean).
  GIVEN WITH THE SEED: the statements are not yours to turn. If you find one false, say at which input.
  Laid BY PROGRAM, IN A SANDBOX (cutbox-rows.mjs): the forced cells as the released guide's own fill.sh prints them over the translation caafdd44060723c9… (all of the seat's roots in one cut). By AI agents, Wed Nov 11 2026. No macro, syntax, notation, axiom, sorry.
-/
import Derived.Test.YtcehjengeaafpaaGreatChecked
import GoSem.Claim
import GoSem.ClaimJoined
import GoSem.ClaimMapViews
import Derived.JoinedTies
import Derived.KernelRfl
namespace Go.Proofs.YtcehjengeaafpaaGreat
/- THE CELL 'sum', in the pinned program and in every row, IS THE sha256 OF THE DUMP (.gsa) THAT YtcehjengeaafpaaGreatProg.lean LOADS. Nothing in Lean hashes anything: it is a label: what it is worth is what the hold of that sum in a sandbox is worth. -/
noncomputable def Tryz.pinned : Pinned := { name := "ytcehjengeaafpaagreat", sum := "caafdd44060723c96218aa6f50646c9069290bc60acc4e3d532e37ca3a7684e5", checked := Tryz.checked }
namespace Rows
def none {H : Type} : Left H := { results := [], args := [] }

/-- 'patchbaylaw26.InterpRun': WHATEVER THE INPUT: true; the input reads as it did. -/
def interpRunSpec : ChangeSpec := { name := "interpRun", fn := fun _ => fun
  | [d] => { results := [.lit (.bool true)], args := [d] }
  | _ => none }
def interpRunRow : OpenClaim := { program := "ytcehjengeaafpaagreat", sum := "caafdd44060723c96218aa6f50646c9069290bc60acc4e3d532e37ca3a7684e5", func := "patchbay/patchbaylaw26.InterpRun", spec := "interpRun", unfollowed := true, recurses := true, loops := true, apart := false }
def InterpRunSaid : Prop := interpRunRow.holds Tryz.pinned (OpenSpec.ofChange interpRunSpec)

/-- ITS FALSE NEIGHBOUR: 'it returns false'. Refute it at one input. -/
def interpRunWrong : ChangeSpec := { name := "interpRun", fn := fun _ => fun
  | [d] => { results := [.lit (.bool false)], args := [d] }
  | _ => none }
def InterpRunWrongFalsely : Prop := interpRunRow.holds Tryz.pinned (OpenSpec.ofChange interpRunWrong)

/-- 'patchbaylaw26.InterpRunAll': WHATEVER THE INPUT: true; the input reads as it did. -/
def interpRunAllSpec : ChangeSpec := { name := "interpRunAll", fn := fun _ => fun
  | [d1, d2] => { results := [.lit (.bool true)], args := [d1, d2] }
  | _ => none }
def interpRunAllRow : OpenClaim := { program := "ytcehjengeaafpaagreat", sum := "caafdd44060723c96218aa6f50646c9069290bc60acc4e3d532e37ca3a7684e5", func := "patchbay/patchbaylaw26.InterpRunAll", spec := "interpRunAll", unfollowed := true, recurses := true, loops := true, apart := false }
def InterpRunAllSaid : Prop := interpRunAllRow.holds Tryz.pinned (OpenSpec.ofChange interpRunAllSpec)

/-- ITS FALSE NEIGHBOUR: 'it returns false'. Refute it at one input. -/
def interpRunAllWrong : ChangeSpec := { name := "interpRunAll", fn := fun _ => fun
  | [d1, d2] => { results := [.lit (.bool false)], args := [d1, d2] }
  | _ => none }
def InterpRunAllWrongFalsely : Prop := interpRunAllRow.holds Tryz.pinned (OpenSpec.ofChange interpRunAllWrong)

/-- 'patchbaylaw26.InterpInvariants': WHATEVER THE INPUT: true; the input reads as it did. -/
def interpInvariantsSpec : ChangeSpec := { name := "interpInvariants", fn := fun _ => fun
  | [d] => { results := [.lit (.bool true)], args := [d] }
  | _ => none }
def interpInvariantsRow : OpenClaim := { program := "ytcehjengeaafpaagreat", sum := "caafdd44060723c96218aa6f50646c9069290bc60acc4e3d532e37ca3a7684e5", func := "patchbay/patchbaylaw26.InterpInvariants", spec := "interpInvariants", unfollowed := true, recurses := true, loops := true, apart := false }
def InterpInvariantsSaid : Prop := interpInvariantsRow.holds Tryz.pinned (OpenSpec.ofChange interpInvariantsSpec)

/-- ITS FALSE NEIGHBOUR: 'it returns false'. Refute it at one input. -/
def interpInvariantsWrong : ChangeSpec := { name := "interpInvariants", fn := fun _ => fun
  | [d] => { results := [.lit (.bool false)], args := [d] }
  | _ => none }
def InterpInvariantsWrongFalsely : Prop := interpInvariantsRow.holds Tryz.pinned (OpenSpec.ofChange interpInvariantsWrong)

/-- 'patchbaylaw26.InterpSplit': WHATEVER THE INPUT: true; the input reads as it did. -/
def interpSplitSpec : ChangeSpec := { name := "interpSplit", fn := fun _ => fun
  | [d1, d2, d3] => { results := [.lit (.bool true)], args := [d1, d2, d3] }
  | _ => none }
def interpSplitRow : OpenClaim := { program := "ytcehjengeaafpaagreat", sum := "caafdd44060723c96218aa6f50646c9069290bc60acc4e3d532e37ca3a7684e5", func := "patchbay/patchbaylaw26.InterpSplit", spec := "interpSplit", unfollowed := true, recurses := true, loops := true, apart := false }
def InterpSplitSaid : Prop := interpSplitRow.holds Tryz.pinned (OpenSpec.ofChange interpSplitSpec)

/-- ITS FALSE NEIGHBOUR: 'it returns false'. Refute it at one input. -/
def interpSplitWrong : ChangeSpec := { name := "interpSplit", fn := fun _ => fun
  | [d1, d2, d3] => { results := [.lit (.bool false)], args := [d1, d2, d3] }
  | _ => none }
def InterpSplitWrongFalsely : Prop := interpSplitRow.holds Tryz.pinned (OpenSpec.ofChange interpSplitWrong)

/-- 'patchbaylaw26.InterpInvalid': WHATEVER THE INPUT: true; the input reads as it did. -/
def interpInvalidSpec : ChangeSpec := { name := "interpInvalid", fn := fun _ => fun
  | [d] => { results := [.lit (.bool true)], args := [d] }
  | _ => none }
def interpInvalidRow : OpenClaim := { program := "ytcehjengeaafpaagreat", sum := "caafdd44060723c96218aa6f50646c9069290bc60acc4e3d532e37ca3a7684e5", func := "patchbay/patchbaylaw26.InterpInvalid", spec := "interpInvalid", unfollowed := true, recurses := true, loops := true, apart := false }
def InterpInvalidSaid : Prop := interpInvalidRow.holds Tryz.pinned (OpenSpec.ofChange interpInvalidSpec)

/-- ITS FALSE NEIGHBOUR: 'it returns false'. Refute it at one input. -/
def interpInvalidWrong : ChangeSpec := { name := "interpInvalid", fn := fun _ => fun
  | [d] => { results := [.lit (.bool false)], args := [d] }
  | _ => none }
def InterpInvalidWrongFalsely : Prop := interpInvalidRow.holds Tryz.pinned (OpenSpec.ofChange interpInvalidWrong)

/-- 'patchbaylaw26.InterpPure': WHATEVER THE INPUT: true; the input reads as it did. -/
def interpPureSpec : ChangeSpec := { name := "interpPure", fn := fun _ => fun
  | [d] => { results := [.lit (.bool true)], args := [d] }
  | _ => none }
def interpPureRow : OpenClaim := { program := "ytcehjengeaafpaagreat", sum := "caafdd44060723c96218aa6f50646c9069290bc60acc4e3d532e37ca3a7684e5", func := "patchbay/patchbaylaw26.InterpPure", spec := "interpPure", unfollowed := true, recurses := true, loops := true, apart := false }
def InterpPureSaid : Prop := interpPureRow.holds Tryz.pinned (OpenSpec.ofChange interpPureSpec)

/-- ITS FALSE NEIGHBOUR: 'it returns false'. Refute it at one input. -/
def interpPureWrong : ChangeSpec := { name := "interpPure", fn := fun _ => fun
  | [d] => { results := [.lit (.bool false)], args := [d] }
  | _ => none }
def InterpPureWrongFalsely : Prop := interpPureRow.holds Tryz.pinned (OpenSpec.ofChange interpPureWrong)

/-- 'patchbaylaw46.FabricNoInjection': WHATEVER THE INPUT: true; the input reads as it did. -/
def fabricNoInjectionSpec : ChangeSpec := { name := "fabricNoInjection", fn := fun _ => fun
  | [d1, d2] => { results := [.lit (.bool true)], args := [d1, d2] }
  | _ => none }
def fabricNoInjectionRow : OpenClaim := { program := "ytcehjengeaafpaagreat", sum := "caafdd44060723c96218aa6f50646c9069290bc60acc4e3d532e37ca3a7684e5", func := "patchbay/patchbaylaw46.FabricNoInjection", spec := "fabricNoInjection", unfollowed := true, recurses := true, apart := false }
def FabricNoInjectionSaid : Prop := fabricNoInjectionRow.holds Tryz.pinned (OpenSpec.ofChange fabricNoInjectionSpec)

/-- ITS FALSE NEIGHBOUR: 'it returns false'. Refute it at one input. -/
def fabricNoInjectionWrong : ChangeSpec := { name := "fabricNoInjection", fn := fun _ => fun
  | [d1, d2] => { results := [.lit (.bool false)], args := [d1, d2] }
  | _ => none }
def FabricNoInjectionWrongFalsely : Prop := fabricNoInjectionRow.holds Tryz.pinned (OpenSpec.ofChange fabricNoInjectionWrong)

/-- 'patchbaylaw46.FabricStamp': WHATEVER THE INPUT: true; the input reads as it did. -/
def fabricStampSpec : ChangeSpec := { name := "fabricStamp", fn := fun _ => fun
  | [d] => { results := [.lit (.bool true)], args := [d] }
  | _ => none }
def fabricStampRow : OpenClaim := { program := "ytcehjengeaafpaagreat", sum := "caafdd44060723c96218aa6f50646c9069290bc60acc4e3d532e37ca3a7684e5", func := "patchbay/patchbaylaw46.FabricStamp", spec := "fabricStamp", unfollowed := true, recurses := true, apart := false }
def FabricStampSaid : Prop := fabricStampRow.holds Tryz.pinned (OpenSpec.ofChange fabricStampSpec)

/-- ITS FALSE NEIGHBOUR: 'it returns false'. Refute it at one input. -/
def fabricStampWrong : ChangeSpec := { name := "fabricStamp", fn := fun _ => fun
  | [d] => { results := [.lit (.bool false)], args := [d] }
  | _ => none }
def FabricStampWrongFalsely : Prop := fabricStampRow.holds Tryz.pinned (OpenSpec.ofChange fabricStampWrong)

/- THE SECOND FORM. 'bulk': how many values and letters a reading holds, each counted each time it is reached (what is shared counts as often as it is met; a slice's spare places count too). A statement '..UptoSaid' is the law's where the arguments, and the package variables that the reading takes, are together of bulk at most 1048576: NARROWER than '..Said'. Prove '..Said' where nothing that the law and all that it calls make is longer than what came in: it says more and counts as full. Else prove '..UptoSaid'. A law counts once. -/
mutual
def uptoBulk {H : Type} : DataW H → Nat
  | .lit (.string bytes) => bytes.length + 1
  | .lit _ => 1
  | .nil => 1
  | .ptr d => uptoBulk d + 1
  | .slice elems spare => uptoBulkAll elems + uptoBulkAll spare + 1
  | .agg parts => uptoBulkAll parts + 1
  | .iface _ d => uptoBulk d + 1
  | .map entries => uptoBulkEntries entries + 1
  | .held _ => 1
def uptoBulkAll {H : Type} : List (DataW H) → Nat
  | [] => 0
  | d :: r => uptoBulk d + uptoBulkAll r
def uptoBulkEntries {H : Type} : List (Lit × DataW H) → Nat
  | [] => 0
  | x :: r => uptoBulkEntry x + uptoBulkEntries r
def uptoBulkEntry {H : Type} : Lit × DataW H → Nat
  | (.string bytes, d) => bytes.length + uptoBulk d + 1
  | (_, d) => uptoBulk d + 1
 end
def uptoSmall : (H : Type) → List (DataW H) → Bool := fun _ ds => decide (uptoBulkAll ds ≤ 1048576)
def OpenSpec.upto (s : _root_.Go.ChangeSpec) : _root_.Go.OpenSpec := { _root_.Go.OpenSpec.ofChange s with cond := some uptoSmall }

/-- 'patchbaylaw26.InterpRun', WHERE WHAT IT READS IS OF BULK AT MOST 1048576: true; the input reads as it did. -/
def interpRunUptoRow : OpenClaim := { program := "ytcehjengeaafpaagreat", sum := "caafdd44060723c96218aa6f50646c9069290bc60acc4e3d532e37ca3a7684e5", func := "patchbay/patchbaylaw26.InterpRun", spec := "interpRun", unfollowed := true, recurses := true, loops := true, apart := false, narrowed := true }
def InterpRunUptoSaid : Prop := interpRunUptoRow.holds Tryz.pinned (OpenSpec.upto interpRunSpec)

/-- 'patchbaylaw26.InterpRunAll', WHERE WHAT IT READS IS OF BULK AT MOST 1048576: true; the input reads as it did. -/
def interpRunAllUptoRow : OpenClaim := { program := "ytcehjengeaafpaagreat", sum := "caafdd44060723c96218aa6f50646c9069290bc60acc4e3d532e37ca3a7684e5", func := "patchbay/patchbaylaw26.InterpRunAll", spec := "interpRunAll", unfollowed := true, recurses := true, loops := true, apart := false, narrowed := true }
def InterpRunAllUptoSaid : Prop := interpRunAllUptoRow.holds Tryz.pinned (OpenSpec.upto interpRunAllSpec)

/-- 'patchbaylaw26.InterpInvariants', WHERE WHAT IT READS IS OF BULK AT MOST 1048576: true; the input reads as it did. -/
def interpInvariantsUptoRow : OpenClaim := { program := "ytcehjengeaafpaagreat", sum := "caafdd44060723c96218aa6f50646c9069290bc60acc4e3d532e37ca3a7684e5", func := "patchbay/patchbaylaw26.InterpInvariants", spec := "interpInvariants", unfollowed := true, recurses := true, loops := true, apart := false, narrowed := true }
def InterpInvariantsUptoSaid : Prop := interpInvariantsUptoRow.holds Tryz.pinned (OpenSpec.upto interpInvariantsSpec)

/-- 'patchbaylaw26.InterpSplit', WHERE WHAT IT READS IS OF BULK AT MOST 1048576: true; the input reads as it did. -/
def interpSplitUptoRow : OpenClaim := { program := "ytcehjengeaafpaagreat", sum := "caafdd44060723c96218aa6f50646c9069290bc60acc4e3d532e37ca3a7684e5", func := "patchbay/patchbaylaw26.InterpSplit", spec := "interpSplit", unfollowed := true, recurses := true, loops := true, apart := false, narrowed := true }
def InterpSplitUptoSaid : Prop := interpSplitUptoRow.holds Tryz.pinned (OpenSpec.upto interpSplitSpec)

/-- 'patchbaylaw26.InterpInvalid', WHERE WHAT IT READS IS OF BULK AT MOST 1048576: true; the input reads as it did. -/
def interpInvalidUptoRow : OpenClaim := { program := "ytcehjengeaafpaagreat", sum := "caafdd44060723c96218aa6f50646c9069290bc60acc4e3d532e37ca3a7684e5", func := "patchbay/patchbaylaw26.InterpInvalid", spec := "interpInvalid", unfollowed := true, recurses := true, loops := true, apart := false, narrowed := true }
def InterpInvalidUptoSaid : Prop := interpInvalidUptoRow.holds Tryz.pinned (OpenSpec.upto interpInvalidSpec)

/-- 'patchbaylaw26.InterpPure', WHERE WHAT IT READS IS OF BULK AT MOST 1048576: true; the input reads as it did. -/
def interpPureUptoRow : OpenClaim := { program := "ytcehjengeaafpaagreat", sum := "caafdd44060723c96218aa6f50646c9069290bc60acc4e3d532e37ca3a7684e5", func := "patchbay/patchbaylaw26.InterpPure", spec := "interpPure", unfollowed := true, recurses := true, loops := true, apart := false, narrowed := true }
def InterpPureUptoSaid : Prop := interpPureUptoRow.holds Tryz.pinned (OpenSpec.upto interpPureSpec)

/-- 'patchbaylaw46.FabricNoInjection', WHERE WHAT IT READS IS OF BULK AT MOST 1048576: true; the input reads as it did. -/
def fabricNoInjectionUptoRow : OpenClaim := { program := "ytcehjengeaafpaagreat", sum := "caafdd44060723c96218aa6f50646c9069290bc60acc4e3d532e37ca3a7684e5", func := "patchbay/patchbaylaw46.FabricNoInjection", spec := "fabricNoInjection", unfollowed := true, recurses := true, apart := false, narrowed := true }
def FabricNoInjectionUptoSaid : Prop := fabricNoInjectionUptoRow.holds Tryz.pinned (OpenSpec.upto fabricNoInjectionSpec)

/-- 'patchbaylaw46.FabricStamp', WHERE WHAT IT READS IS OF BULK AT MOST 1048576: true; the input reads as it did. -/
def fabricStampUptoRow : OpenClaim := { program := "ytcehjengeaafpaagreat", sum := "caafdd44060723c96218aa6f50646c9069290bc60acc4e3d532e37ca3a7684e5", func := "patchbay/patchbaylaw46.FabricStamp", spec := "fabricStamp", unfollowed := true, recurses := true, apart := false, narrowed := true }
def FabricStampUptoSaid : Prop := fabricStampUptoRow.holds Tryz.pinned (OpenSpec.upto fabricStampSpec)

end Rows
end Go.Proofs.YtcehjengeaafpaaGreat
