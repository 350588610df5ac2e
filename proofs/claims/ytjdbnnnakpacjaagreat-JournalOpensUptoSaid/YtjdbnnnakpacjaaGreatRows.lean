/-
  NARROWER THAN 'FOR EVERY INPUT', by the rows' own cells (each row's printed sentence says how): TxnUndoes: loops · TxnConcats: loops · JournalRecords: loops · JournalCommits: loops · JournalOpens: loops · JournalRecovers: loops.
  DERIVED. THE GIVEN ROWS OF THIS SEAT. 6 by the template 'for every input the law returns true; each argument reads behind the call as it read before'; 0 by the template 'total and deterministic' (their statements: YtjdbnnnakpacjaaGreatTotals.lean).
  GIVEN WITH THE SEED: the statements are not yours to turn. If you find one false, say at which input.
  Laid BY PROGRAM, IN A SANDBOX (cutbox-rows.mjs): the forced cells as the released guide's own fill.sh prints them over the translation 834a87e1af8fcb66… (all of the seat's roots in one cut). By AI agents, Wed Nov 11 2026. No macro, syntax, notation, axiom, sorry.
-/
import Derived.Test.YtjdbnnnakpacjaaGreatChecked
import GoSem.Claim
import GoSem.ClaimJoined
import GoSem.ClaimMapViews
import Derived.JoinedTies
import Derived.KernelRfl
namespace Go.Proofs.YtjdbnnnakpacjaaGreat
/- THE CELL 'sum', in the pinned program and in every row, IS THE sha256 OF THE DUMP (.gsa) THAT YtjdbnnnakpacjaaGreatProg.lean LOADS. Nothing in Lean hashes anything: it is a label: what it is worth is what the hold of that sum in a sandbox is worth. -/
noncomputable def Tryz.pinned : Pinned := { name := "ytjdbnnnakpacjaagreat", sum := "834a87e1af8fcb66f3782421963a389690fc891738ac909efff106676276170e", checked := Tryz.checked }
namespace Rows
def none {H : Type} : Left H := { results := [], args := [] }

/-- 'patchbaylaw27.TxnUndoes': WHATEVER THE INPUT: true; the input reads as it did. -/
def txnUndoesSpec : ChangeSpec := { name := "txnUndoes", fn := fun _ => fun
  | [d1, d2, d3] => { results := [.lit (.bool true)], args := [d1, d2, d3] }
  | _ => none }
def txnUndoesRow : OpenClaim := { program := "ytjdbnnnakpacjaagreat", sum := "834a87e1af8fcb66f3782421963a389690fc891738ac909efff106676276170e", func := "patchbay/patchbaylaw27.TxnUndoes", spec := "txnUndoes", unfollowed := true, recurses := true, loops := true, plainKeys := false, apart := false }
def TxnUndoesSaid : Prop := txnUndoesRow.holds Tryz.pinned (OpenSpec.ofChange txnUndoesSpec)

/-- ITS FALSE NEIGHBOUR: 'it returns false'. Refute it at one input. -/
def txnUndoesWrong : ChangeSpec := { name := "txnUndoes", fn := fun _ => fun
  | [d1, d2, d3] => { results := [.lit (.bool false)], args := [d1, d2, d3] }
  | _ => none }
def TxnUndoesWrongFalsely : Prop := txnUndoesRow.holds Tryz.pinned (OpenSpec.ofChange txnUndoesWrong)

/-- 'patchbaylaw27.TxnConcats': WHATEVER THE INPUT: true; the input reads as it did. -/
def txnConcatsSpec : ChangeSpec := { name := "txnConcats", fn := fun _ => fun
  | [d1, d2, d3] => { results := [.lit (.bool true)], args := [d1, d2, d3] }
  | _ => none }
def txnConcatsRow : OpenClaim := { program := "ytjdbnnnakpacjaagreat", sum := "834a87e1af8fcb66f3782421963a389690fc891738ac909efff106676276170e", func := "patchbay/patchbaylaw27.TxnConcats", spec := "txnConcats", unfollowed := true, recurses := true, loops := true, plainKeys := false, apart := false }
def TxnConcatsSaid : Prop := txnConcatsRow.holds Tryz.pinned (OpenSpec.ofChange txnConcatsSpec)

/-- ITS FALSE NEIGHBOUR: 'it returns false'. Refute it at one input. -/
def txnConcatsWrong : ChangeSpec := { name := "txnConcats", fn := fun _ => fun
  | [d1, d2, d3] => { results := [.lit (.bool false)], args := [d1, d2, d3] }
  | _ => none }
def TxnConcatsWrongFalsely : Prop := txnConcatsRow.holds Tryz.pinned (OpenSpec.ofChange txnConcatsWrong)

/-- 'patchbaylaw28.JournalRecords': WHATEVER THE INPUT: true; the input reads as it did. -/
def journalRecordsSpec : ChangeSpec := { name := "journalRecords", fn := fun _ => fun
  | [d1, d2] => { results := [.lit (.bool true)], args := [d1, d2] }
  | _ => none }
def journalRecordsRow : OpenClaim := { program := "ytjdbnnnakpacjaagreat", sum := "834a87e1af8fcb66f3782421963a389690fc891738ac909efff106676276170e", func := "patchbay/patchbaylaw28.JournalRecords", spec := "journalRecords", unfollowed := true, recurses := true, loops := true, plainKeys := false, apart := false }
def JournalRecordsSaid : Prop := journalRecordsRow.holds Tryz.pinned (OpenSpec.ofChange journalRecordsSpec)

/-- ITS FALSE NEIGHBOUR: 'it returns false'. Refute it at one input. -/
def journalRecordsWrong : ChangeSpec := { name := "journalRecords", fn := fun _ => fun
  | [d1, d2] => { results := [.lit (.bool false)], args := [d1, d2] }
  | _ => none }
def JournalRecordsWrongFalsely : Prop := journalRecordsRow.holds Tryz.pinned (OpenSpec.ofChange journalRecordsWrong)

/-- 'patchbaylaw28.JournalCommits': WHATEVER THE INPUT: true; the input reads as it did. -/
def journalCommitsSpec : ChangeSpec := { name := "journalCommits", fn := fun _ => fun
  | [d1, d2] => { results := [.lit (.bool true)], args := [d1, d2] }
  | _ => none }
def journalCommitsRow : OpenClaim := { program := "ytjdbnnnakpacjaagreat", sum := "834a87e1af8fcb66f3782421963a389690fc891738ac909efff106676276170e", func := "patchbay/patchbaylaw28.JournalCommits", spec := "journalCommits", unfollowed := true, recurses := true, loops := true, plainKeys := false, apart := false }
def JournalCommitsSaid : Prop := journalCommitsRow.holds Tryz.pinned (OpenSpec.ofChange journalCommitsSpec)

/-- ITS FALSE NEIGHBOUR: 'it returns false'. Refute it at one input. -/
def journalCommitsWrong : ChangeSpec := { name := "journalCommits", fn := fun _ => fun
  | [d1, d2] => { results := [.lit (.bool false)], args := [d1, d2] }
  | _ => none }
def JournalCommitsWrongFalsely : Prop := journalCommitsRow.holds Tryz.pinned (OpenSpec.ofChange journalCommitsWrong)

/-- 'patchbaylaw28.JournalOpens': WHATEVER THE INPUT: true; the input reads as it did. -/
def journalOpensSpec : ChangeSpec := { name := "journalOpens", fn := fun _ => fun
  | [d1, d2] => { results := [.lit (.bool true)], args := [d1, d2] }
  | _ => none }
def journalOpensRow : OpenClaim := { program := "ytjdbnnnakpacjaagreat", sum := "834a87e1af8fcb66f3782421963a389690fc891738ac909efff106676276170e", func := "patchbay/patchbaylaw28.JournalOpens", spec := "journalOpens", unfollowed := true, recurses := true, loops := true, plainKeys := false, apart := false }
def JournalOpensSaid : Prop := journalOpensRow.holds Tryz.pinned (OpenSpec.ofChange journalOpensSpec)

/-- ITS FALSE NEIGHBOUR: 'it returns false'. Refute it at one input. -/
def journalOpensWrong : ChangeSpec := { name := "journalOpens", fn := fun _ => fun
  | [d1, d2] => { results := [.lit (.bool false)], args := [d1, d2] }
  | _ => none }
def JournalOpensWrongFalsely : Prop := journalOpensRow.holds Tryz.pinned (OpenSpec.ofChange journalOpensWrong)

/-- 'patchbaylaw28.JournalRecovers': WHATEVER THE INPUT: true; the input reads as it did. -/
def journalRecoversSpec : ChangeSpec := { name := "journalRecovers", fn := fun _ => fun
  | [d1, d2, d3] => { results := [.lit (.bool true)], args := [d1, d2, d3] }
  | _ => none }
def journalRecoversRow : OpenClaim := { program := "ytjdbnnnakpacjaagreat", sum := "834a87e1af8fcb66f3782421963a389690fc891738ac909efff106676276170e", func := "patchbay/patchbaylaw28.JournalRecovers", spec := "journalRecovers", unfollowed := true, recurses := true, loops := true, plainKeys := false, apart := false }
def JournalRecoversSaid : Prop := journalRecoversRow.holds Tryz.pinned (OpenSpec.ofChange journalRecoversSpec)

/-- ITS FALSE NEIGHBOUR: 'it returns false'. Refute it at one input. -/
def journalRecoversWrong : ChangeSpec := { name := "journalRecovers", fn := fun _ => fun
  | [d1, d2, d3] => { results := [.lit (.bool false)], args := [d1, d2, d3] }
  | _ => none }
def JournalRecoversWrongFalsely : Prop := journalRecoversRow.holds Tryz.pinned (OpenSpec.ofChange journalRecoversWrong)

/- THE SECOND FORM. 'bulk': how many values and letters a reading holds, each counted each time it is reached (what is shared counts as often as it is met; a slice's spare places count too). A statement '..UptoSaid' is the law's where the arguments, and the package variables that the reading takes, are together of bulk at most 1048576: NARROWER than '..Said'. Prove '..Said' where nothing that the law and all that it calls make is longer than what came in: it says more and counts as full. Else prove '..UptoSaid'. A law counts once. -/
mutual
def uptoBulk {H : Type} : DataW H → Nat
  | .lit (.string bytes) => bytes.length + 1
  | .lit _ => 1
  | .nil => 1
  | .ptr d => uptoBulk d + 1
  | .slice elems spare => uptoBulkAll elems + uptoBulkAll spare + 1
  | .agg parts => uptoBulkAll parts + 1
  | .iface _ d => uptoBulk d + 1
  | .map entries => uptoBulkEntries entries + 1
  | .held _ => 1
def uptoBulkAll {H : Type} : List (DataW H) → Nat
  | [] => 0
  | d :: r => uptoBulk d + uptoBulkAll r
def uptoBulkEntries {H : Type} : List (Lit × DataW H) → Nat
  | [] => 0
  | x :: r => uptoBulkEntry x + uptoBulkEntries r
def uptoBulkEntry {H : Type} : Lit × DataW H → Nat
  | (.string bytes, d) => bytes.length + uptoBulk d + 1
  | (_, d) => uptoBulk d + 1
 end
def uptoSmall : (H : Type) → List (DataW H) → Bool := fun _ ds => decide (uptoBulkAll ds ≤ 1048576)
def OpenSpec.upto (s : _root_.Go.ChangeSpec) : _root_.Go.OpenSpec := { _root_.Go.OpenSpec.ofChange s with cond := some uptoSmall }

/-- 'patchbaylaw27.TxnUndoes', WHERE WHAT IT READS IS OF BULK AT MOST 1048576: true; the input reads as it did. -/
def txnUndoesUptoRow : OpenClaim := { program := "ytjdbnnnakpacjaagreat", sum := "834a87e1af8fcb66f3782421963a389690fc891738ac909efff106676276170e", func := "patchbay/patchbaylaw27.TxnUndoes", spec := "txnUndoes", unfollowed := true, recurses := true, loops := true, plainKeys := false, apart := false, narrowed := true }
def TxnUndoesUptoSaid : Prop := txnUndoesUptoRow.holds Tryz.pinned (OpenSpec.upto txnUndoesSpec)

/-- 'patchbaylaw27.TxnConcats', WHERE WHAT IT READS IS OF BULK AT MOST 1048576: true; the input reads as it did. -/
def txnConcatsUptoRow : OpenClaim := { program := "ytjdbnnnakpacjaagreat", sum := "834a87e1af8fcb66f3782421963a389690fc891738ac909efff106676276170e", func := "patchbay/patchbaylaw27.TxnConcats", spec := "txnConcats", unfollowed := true, recurses := true, loops := true, plainKeys := false, apart := false, narrowed := true }
def TxnConcatsUptoSaid : Prop := txnConcatsUptoRow.holds Tryz.pinned (OpenSpec.upto txnConcatsSpec)

/-- 'patchbaylaw28.JournalRecords', WHERE WHAT IT READS IS OF BULK AT MOST 1048576: true; the input reads as it did. -/
def journalRecordsUptoRow : OpenClaim := { program := "ytjdbnnnakpacjaagreat", sum := "834a87e1af8fcb66f3782421963a389690fc891738ac909efff106676276170e", func := "patchbay/patchbaylaw28.JournalRecords", spec := "journalRecords", unfollowed := true, recurses := true, loops := true, plainKeys := false, apart := false, narrowed := true }
def JournalRecordsUptoSaid : Prop := journalRecordsUptoRow.holds Tryz.pinned (OpenSpec.upto journalRecordsSpec)

/-- 'patchbaylaw28.JournalCommits', WHERE WHAT IT READS IS OF BULK AT MOST 1048576: true; the input reads as it did. -/
def journalCommitsUptoRow : OpenClaim := { program := "ytjdbnnnakpacjaagreat", sum := "834a87e1af8fcb66f3782421963a389690fc891738ac909efff106676276170e", func := "patchbay/patchbaylaw28.JournalCommits", spec := "journalCommits", unfollowed := true, recurses := true, loops := true, plainKeys := false, apart := false, narrowed := true }
def JournalCommitsUptoSaid : Prop := journalCommitsUptoRow.holds Tryz.pinned (OpenSpec.upto journalCommitsSpec)

/-- 'patchbaylaw28.JournalOpens', WHERE WHAT IT READS IS OF BULK AT MOST 1048576: true; the input reads as it did. -/
def journalOpensUptoRow : OpenClaim := { program := "ytjdbnnnakpacjaagreat", sum := "834a87e1af8fcb66f3782421963a389690fc891738ac909efff106676276170e", func := "patchbay/patchbaylaw28.JournalOpens", spec := "journalOpens", unfollowed := true, recurses := true, loops := true, plainKeys := false, apart := false, narrowed := true }
def JournalOpensUptoSaid : Prop := journalOpensUptoRow.holds Tryz.pinned (OpenSpec.upto journalOpensSpec)

/-- 'patchbaylaw28.JournalRecovers', WHERE WHAT IT READS IS OF BULK AT MOST 1048576: true; the input reads as it did. -/
def journalRecoversUptoRow : OpenClaim := { program := "ytjdbnnnakpacjaagreat", sum := "834a87e1af8fcb66f3782421963a389690fc891738ac909efff106676276170e", func := "patchbay/patchbaylaw28.JournalRecovers", spec := "journalRecovers", unfollowed := true, recurses := true, loops := true, plainKeys := false, apart := false, narrowed := true }
def JournalRecoversUptoSaid : Prop := journalRecoversUptoRow.holds Tryz.pinned (OpenSpec.upto journalRecoversSpec)

end Rows
end Go.Proofs.YtjdbnnnakpacjaaGreat
