/-
  NARROWER THAN 'FOR EVERY INPUT', by the rows' own cells (each row's printed sentence says how): StoreEquals: loops.
  DERIVED. THE GIVEN ROWS OF THIS SEAT. 8 by the template 'for every input the law returns true; each argument reads behind the call as it read before'; 0 by the template 'total and deterministic' (their statements: YtgnlablpigoioaaGreatTotals.lean).
  GIVEN WITH THE SEED: the statements are not yours to turn. If you find one false, say at which input.
  Laid BY PROGRAM, IN A SANDBOX (cutbox-rows.mjs): the forced cells as the released guide's own fill.sh prints them over the translation 0c69980e50aed8fd… (all of the seat's roots in one cut). By AI agents, Wed Nov 11 2026. No macro, syntax, notation, axiom, sorry.
-/
import Derived.Test.YtgnlablpigoioaaGreatChecked
import GoSem.Claim
import GoSem.ClaimJoined
import GoSem.ClaimMapViews
import Derived.JoinedTies
import Derived.KernelRfl
namespace Go.Proofs.YtgnlablpigoioaaGreat
/- THE CELL 'sum', in the pinned program and in every row, IS THE sha256 OF THE DUMP (.gsa) THAT YtgnlablpigoioaaGreatProg.lean LOADS. Nothing in Lean hashes anything: it is a label: what it is worth is what the hold of that sum in a sandbox is worth. -/
noncomputable def Tryz.pinned : Pinned := { name := "ytgnlablpigoioaagreat", sum := "0c69980e50aed8fdcded9e4c52319976f5e015ae86b753d6658ea64379f7e339", checked := Tryz.checked }
namespace Rows
def none {H : Type} : Left H := { results := [], args := [] }

/-- 'patchbaylaw30.ConfigdiffCounts': WHATEVER THE INPUT: true; the input reads as it did. -/
def configdiffCountsSpec : ChangeSpec := { name := "configdiffCounts", fn := fun _ => fun
  | [d] => { results := [.lit (.bool true)], args := [d] }
  | _ => none }
def configdiffCountsRow : OpenClaim := { program := "ytgnlablpigoioaagreat", sum := "0c69980e50aed8fdcded9e4c52319976f5e015ae86b753d6658ea64379f7e339", func := "patchbay/patchbaylaw30.ConfigdiffCounts", spec := "configdiffCounts", unfollowed := true, recurses := true, plainKeys := false, apart := false }
def ConfigdiffCountsSaid : Prop := configdiffCountsRow.holds Tryz.pinned (OpenSpec.ofChange configdiffCountsSpec)

/-- ITS FALSE NEIGHBOUR: 'it returns false'. Refute it at one input. -/
def configdiffCountsWrong : ChangeSpec := { name := "configdiffCounts", fn := fun _ => fun
  | [d] => { results := [.lit (.bool false)], args := [d] }
  | _ => none }
def ConfigdiffCountsWrongFalsely : Prop := configdiffCountsRow.holds Tryz.pinned (OpenSpec.ofChange configdiffCountsWrong)

/-- 'patchbaylaw30.ConfigdiffSameEntries': WHATEVER THE INPUT: true; the input reads as it did. -/
def configdiffSameEntriesSpec : ChangeSpec := { name := "configdiffSameEntries", fn := fun _ => fun
  | [d1, d2, d3] => { results := [.lit (.bool true)], args := [d1, d2, d3] }
  | _ => none }
def configdiffSameEntriesRow : OpenClaim := { program := "ytgnlablpigoioaagreat", sum := "0c69980e50aed8fdcded9e4c52319976f5e015ae86b753d6658ea64379f7e339", func := "patchbay/patchbaylaw30.ConfigdiffSameEntries", spec := "configdiffSameEntries", unfollowed := true, recurses := true, plainKeys := false, apart := false }
def ConfigdiffSameEntriesSaid : Prop := configdiffSameEntriesRow.holds Tryz.pinned (OpenSpec.ofChange configdiffSameEntriesSpec)

/-- ITS FALSE NEIGHBOUR: 'it returns false'. Refute it at one input. -/
def configdiffSameEntriesWrong : ChangeSpec := { name := "configdiffSameEntries", fn := fun _ => fun
  | [d1, d2, d3] => { results := [.lit (.bool false)], args := [d1, d2, d3] }
  | _ => none }
def ConfigdiffSameEntriesWrongFalsely : Prop := configdiffSameEntriesRow.holds Tryz.pinned (OpenSpec.ofChange configdiffSameEntriesWrong)

/-- 'patchbaylaw25.StoreNil': WHATEVER THE INPUT: true; the input reads as it did. -/
def storeNilSpec : ChangeSpec := { name := "storeNil", fn := fun _ => fun
  | [d] => { results := [.lit (.bool true)], args := [d] }
  | _ => none }
def storeNilRow : OpenClaim := { program := "ytgnlablpigoioaagreat", sum := "0c69980e50aed8fdcded9e4c52319976f5e015ae86b753d6658ea64379f7e339", func := "patchbay/patchbaylaw25.StoreNil", spec := "storeNil", unfollowed := true, recurses := true, plainKeys := false, apart := false }
def StoreNilSaid : Prop := storeNilRow.holds Tryz.pinned (OpenSpec.ofChange storeNilSpec)

/-- ITS FALSE NEIGHBOUR: 'it returns false'. Refute it at one input. -/
def storeNilWrong : ChangeSpec := { name := "storeNil", fn := fun _ => fun
  | [d] => { results := [.lit (.bool false)], args := [d] }
  | _ => none }
def StoreNilWrongFalsely : Prop := storeNilRow.holds Tryz.pinned (OpenSpec.ofChange storeNilWrong)

/-- 'patchbaylaw25.StoreEquals': WHATEVER THE INPUT: true; the input reads as it did. -/
def storeEqualsSpec : ChangeSpec := { name := "storeEquals", fn := fun _ => fun
  | [d1, d2, d3] => { results := [.lit (.bool true)], args := [d1, d2, d3] }
  | _ => none }
def storeEqualsRow : OpenClaim := { program := "ytgnlablpigoioaagreat", sum := "0c69980e50aed8fdcded9e4c52319976f5e015ae86b753d6658ea64379f7e339", func := "patchbay/patchbaylaw25.StoreEquals", spec := "storeEquals", unfollowed := true, recurses := true, loops := true, plainKeys := false, apart := false }
def StoreEqualsSaid : Prop := storeEqualsRow.holds Tryz.pinned (OpenSpec.ofChange storeEqualsSpec)

/-- ITS FALSE NEIGHBOUR: 'it returns false'. Refute it at one input. -/
def storeEqualsWrong : ChangeSpec := { name := "storeEquals", fn := fun _ => fun
  | [d1, d2, d3] => { results := [.lit (.bool false)], args := [d1, d2, d3] }
  | _ => none }
def StoreEqualsWrongFalsely : Prop := storeEqualsRow.holds Tryz.pinned (OpenSpec.ofChange storeEqualsWrong)

/-- 'patchbaylaw27.TxnNil': WHATEVER THE INPUT: true; the input reads as it did. -/
def txnNilSpec : ChangeSpec := { name := "txnNil", fn := fun _ => fun
  | [d1, d2] => { results := [.lit (.bool true)], args := [d1, d2] }
  | _ => none }
def txnNilRow : OpenClaim := { program := "ytgnlablpigoioaagreat", sum := "0c69980e50aed8fdcded9e4c52319976f5e015ae86b753d6658ea64379f7e339", func := "patchbay/patchbaylaw27.TxnNil", spec := "txnNil", unfollowed := true, recurses := true, plainKeys := false, apart := false }
def TxnNilSaid : Prop := txnNilRow.holds Tryz.pinned (OpenSpec.ofChange txnNilSpec)

/-- ITS FALSE NEIGHBOUR: 'it returns false'. Refute it at one input. -/
def txnNilWrong : ChangeSpec := { name := "txnNil", fn := fun _ => fun
  | [d1, d2] => { results := [.lit (.bool false)], args := [d1, d2] }
  | _ => none }
def TxnNilWrongFalsely : Prop := txnNilRow.holds Tryz.pinned (OpenSpec.ofChange txnNilWrong)

/-- 'patchbaylaw27.TxnEquivalent': WHATEVER THE INPUT: true; the input reads as it did. -/
def txnEquivalentSpec : ChangeSpec := { name := "txnEquivalent", fn := fun _ => fun
  | [d1, d2] => { results := [.lit (.bool true)], args := [d1, d2] }
  | _ => none }
def txnEquivalentRow : OpenClaim := { program := "ytgnlablpigoioaagreat", sum := "0c69980e50aed8fdcded9e4c52319976f5e015ae86b753d6658ea64379f7e339", func := "patchbay/patchbaylaw27.TxnEquivalent", spec := "txnEquivalent", unfollowed := true, recurses := true, plainKeys := false, apart := false }
def TxnEquivalentSaid : Prop := txnEquivalentRow.holds Tryz.pinned (OpenSpec.ofChange txnEquivalentSpec)

/-- ITS FALSE NEIGHBOUR: 'it returns false'. Refute it at one input. -/
def txnEquivalentWrong : ChangeSpec := { name := "txnEquivalent", fn := fun _ => fun
  | [d1, d2] => { results := [.lit (.bool false)], args := [d1, d2] }
  | _ => none }
def TxnEquivalentWrongFalsely : Prop := txnEquivalentRow.holds Tryz.pinned (OpenSpec.ofChange txnEquivalentWrong)

/-- 'patchbaylaw28.JournalEncodes': WHATEVER THE INPUT: true; the input reads as it did. -/
def journalEncodesSpec : ChangeSpec := { name := "journalEncodes", fn := fun _ => fun
  | [d] => { results := [.lit (.bool true)], args := [d] }
  | _ => none }
def journalEncodesRow : OpenClaim := { program := "ytgnlablpigoioaagreat", sum := "0c69980e50aed8fdcded9e4c52319976f5e015ae86b753d6658ea64379f7e339", func := "patchbay/patchbaylaw28.JournalEncodes", spec := "journalEncodes", unfollowed := true, recurses := true, plainKeys := false, apart := false }
def JournalEncodesSaid : Prop := journalEncodesRow.holds Tryz.pinned (OpenSpec.ofChange journalEncodesSpec)

/-- ITS FALSE NEIGHBOUR: 'it returns false'. Refute it at one input. -/
def journalEncodesWrong : ChangeSpec := { name := "journalEncodes", fn := fun _ => fun
  | [d] => { results := [.lit (.bool false)], args := [d] }
  | _ => none }
def JournalEncodesWrongFalsely : Prop := journalEncodesRow.holds Tryz.pinned (OpenSpec.ofChange journalEncodesWrong)

/-- 'patchbaylaw28.JournalDecodes': WHATEVER THE INPUT: true; the input reads as it did. -/
def journalDecodesSpec : ChangeSpec := { name := "journalDecodes", fn := fun _ => fun
  | [d] => { results := [.lit (.bool true)], args := [d] }
  | _ => none }
def journalDecodesRow : OpenClaim := { program := "ytgnlablpigoioaagreat", sum := "0c69980e50aed8fdcded9e4c52319976f5e015ae86b753d6658ea64379f7e339", func := "patchbay/patchbaylaw28.JournalDecodes", spec := "journalDecodes", unfollowed := true, recurses := true, plainKeys := false, apart := false }
def JournalDecodesSaid : Prop := journalDecodesRow.holds Tryz.pinned (OpenSpec.ofChange journalDecodesSpec)

/-- ITS FALSE NEIGHBOUR: 'it returns false'. Refute it at one input. -/
def journalDecodesWrong : ChangeSpec := { name := "journalDecodes", fn := fun _ => fun
  | [d] => { results := [.lit (.bool false)], args := [d] }
  | _ => none }
def JournalDecodesWrongFalsely : Prop := journalDecodesRow.holds Tryz.pinned (OpenSpec.ofChange journalDecodesWrong)

/- THE SECOND FORM. 'bulk': how many values and letters a reading holds, each counted each time it is reached (what is shared counts as often as it is met; a slice's spare places count too). A statement '..UptoSaid' is the law's where the arguments, and the package variables that the reading takes, are together of bulk at most 1048576: NARROWER than '..Said'. Prove '..Said' where nothing that the law and all that it calls make is longer than what came in: it says more and counts as full. Else prove '..UptoSaid'. A law counts once. -/
mutual
def uptoBulk {H : Type} : DataW H → Nat
  | .lit (.string bytes) => bytes.length + 1
  | .lit _ => 1
  | .nil => 1
  | .ptr d => uptoBulk d + 1
  | .slice elems spare => uptoBulkAll elems + uptoBulkAll spare + 1
  | .agg parts => uptoBulkAll parts + 1
  | .iface _ d => uptoBulk d + 1
  | .map entries => uptoBulkEntries entries + 1
  | .held _ => 1
def uptoBulkAll {H : Type} : List (DataW H) → Nat
  | [] => 0
  | d :: r => uptoBulk d + uptoBulkAll r
def uptoBulkEntries {H : Type} : List (Lit × DataW H) → Nat
  | [] => 0
  | x :: r => uptoBulkEntry x + uptoBulkEntries r
def uptoBulkEntry {H : Type} : Lit × DataW H → Nat
  | (.string bytes, d) => bytes.length + uptoBulk d + 1
  | (_, d) => uptoBulk d + 1
 end
def uptoSmall : (H : Type) → List (DataW H) → Bool := fun _ ds => decide (uptoBulkAll ds ≤ 1048576)
def OpenSpec.upto (s : _root_.Go.ChangeSpec) : _root_.Go.OpenSpec := { _root_.Go.OpenSpec.ofChange s with cond := some uptoSmall }

/-- 'patchbaylaw30.ConfigdiffCounts', WHERE WHAT IT READS IS OF BULK AT MOST 1048576: true; the input reads as it did. -/
def configdiffCountsUptoRow : OpenClaim := { program := "ytgnlablpigoioaagreat", sum := "0c69980e50aed8fdcded9e4c52319976f5e015ae86b753d6658ea64379f7e339", func := "patchbay/patchbaylaw30.ConfigdiffCounts", spec := "configdiffCounts", unfollowed := true, recurses := true, plainKeys := false, apart := false, narrowed := true }
def ConfigdiffCountsUptoSaid : Prop := configdiffCountsUptoRow.holds Tryz.pinned (OpenSpec.upto configdiffCountsSpec)

/-- 'patchbaylaw30.ConfigdiffSameEntries', WHERE WHAT IT READS IS OF BULK AT MOST 1048576: true; the input reads as it did. -/
def configdiffSameEntriesUptoRow : OpenClaim := { program := "ytgnlablpigoioaagreat", sum := "0c69980e50aed8fdcded9e4c52319976f5e015ae86b753d6658ea64379f7e339", func := "patchbay/patchbaylaw30.ConfigdiffSameEntries", spec := "configdiffSameEntries", unfollowed := true, recurses := true, plainKeys := false, apart := false, narrowed := true }
def ConfigdiffSameEntriesUptoSaid : Prop := configdiffSameEntriesUptoRow.holds Tryz.pinned (OpenSpec.upto configdiffSameEntriesSpec)

/-- 'patchbaylaw25.StoreNil', WHERE WHAT IT READS IS OF BULK AT MOST 1048576: true; the input reads as it did. -/
def storeNilUptoRow : OpenClaim := { program := "ytgnlablpigoioaagreat", sum := "0c69980e50aed8fdcded9e4c52319976f5e015ae86b753d6658ea64379f7e339", func := "patchbay/patchbaylaw25.StoreNil", spec := "storeNil", unfollowed := true, recurses := true, plainKeys := false, apart := false, narrowed := true }
def StoreNilUptoSaid : Prop := storeNilUptoRow.holds Tryz.pinned (OpenSpec.upto storeNilSpec)

/-- 'patchbaylaw25.StoreEquals', WHERE WHAT IT READS IS OF BULK AT MOST 1048576: true; the input reads as it did. -/
def storeEqualsUptoRow : OpenClaim := { program := "ytgnlablpigoioaagreat", sum := "0c69980e50aed8fdcded9e4c52319976f5e015ae86b753d6658ea64379f7e339", func := "patchbay/patchbaylaw25.StoreEquals", spec := "storeEquals", unfollowed := true, recurses := true, loops := true, plainKeys := false, apart := false, narrowed := true }
def StoreEqualsUptoSaid : Prop := storeEqualsUptoRow.holds Tryz.pinned (OpenSpec.upto storeEqualsSpec)

/-- 'patchbaylaw27.TxnNil', WHERE WHAT IT READS IS OF BULK AT MOST 1048576: true; the input reads as it did. -/
def txnNilUptoRow : OpenClaim := { program := "ytgnlablpigoioaagreat", sum := "0c69980e50aed8fdcded9e4c52319976f5e015ae86b753d6658ea64379f7e339", func := "patchbay/patchbaylaw27.TxnNil", spec := "txnNil", unfollowed := true, recurses := true, plainKeys := false, apart := false, narrowed := true }
def TxnNilUptoSaid : Prop := txnNilUptoRow.holds Tryz.pinned (OpenSpec.upto txnNilSpec)

/-- 'patchbaylaw27.TxnEquivalent', WHERE WHAT IT READS IS OF BULK AT MOST 1048576: true; the input reads as it did. -/
def txnEquivalentUptoRow : OpenClaim := { program := "ytgnlablpigoioaagreat", sum := "0c69980e50aed8fdcded9e4c52319976f5e015ae86b753d6658ea64379f7e339", func := "patchbay/patchbaylaw27.TxnEquivalent", spec := "txnEquivalent", unfollowed := true, recurses := true, plainKeys := false, apart := false, narrowed := true }
def TxnEquivalentUptoSaid : Prop := txnEquivalentUptoRow.holds Tryz.pinned (OpenSpec.upto txnEquivalentSpec)

/-- 'patchbaylaw28.JournalEncodes', WHERE WHAT IT READS IS OF BULK AT MOST 1048576: true; the input reads as it did. -/
def journalEncodesUptoRow : OpenClaim := { program := "ytgnlablpigoioaagreat", sum := "0c69980e50aed8fdcded9e4c52319976f5e015ae86b753d6658ea64379f7e339", func := "patchbay/patchbaylaw28.JournalEncodes", spec := "journalEncodes", unfollowed := true, recurses := true, plainKeys := false, apart := false, narrowed := true }
def JournalEncodesUptoSaid : Prop := journalEncodesUptoRow.holds Tryz.pinned (OpenSpec.upto journalEncodesSpec)

/-- 'patchbaylaw28.JournalDecodes', WHERE WHAT IT READS IS OF BULK AT MOST 1048576: true; the input reads as it did. -/
def journalDecodesUptoRow : OpenClaim := { program := "ytgnlablpigoioaagreat", sum := "0c69980e50aed8fdcded9e4c52319976f5e015ae86b753d6658ea64379f7e339", func := "patchbay/patchbaylaw28.JournalDecodes", spec := "journalDecodes", unfollowed := true, recurses := true, plainKeys := false, apart := false, narrowed := true }
def JournalDecodesUptoSaid : Prop := journalDecodesUptoRow.holds Tryz.pinned (OpenSpec.upto journalDecodesSpec)

end Rows
end Go.Proofs.YtgnlablpigoioaaGreat
