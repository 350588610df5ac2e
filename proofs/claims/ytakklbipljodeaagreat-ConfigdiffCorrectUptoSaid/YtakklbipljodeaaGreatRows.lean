/-
  NARROWER THAN 'FOR EVERY INPUT', by the rows' own cells (each row's printed sentence says how): StoreChecks: loops · StoreRuns: loops · StoreNumbers: loops · StoreKeeps: loops · ConfigdiffDiffs: loops · ConfigdiffSingle: loops · ConfigdiffEquivalent: loops · ConfigdiffCorrect: loops · TxnApplies: loops · TxnCommits: loops · TxnInverse: loops · JournalNil: loops.
  DERIVED. THE GIVEN ROWS OF THIS SEAT. 12 by the template 'for every input the law returns true; each argument reads behind the call as it read before'; 0 by the template 'total and deterministic' (their statements: YtakklbipljodeaaGreatTotals.lean).
  GIVEN WITH THE SEED: the statements are not yours to turn. If you find one false, say at which input.
  Laid BY PROGRAM, IN A SANDBOX (cutbox-rows.mjs): the forced cells as the released guide's own fill.sh prints them over the translation 7a5f47812700a800… (all of the seat's roots in one cut). By AI agents, Wed Nov 11 2026. No macro, syntax, notation, axiom, sorry.
-/
import Derived.Test.YtakklbipljodeaaGreatChecked
import GoSem.Claim
import GoSem.ClaimJoined
import GoSem.ClaimMapViews
import Derived.JoinedTies
import Derived.KernelRfl
namespace Go.Proofs.YtakklbipljodeaaGreat
/- THE CELL 'sum', in the pinned program and in every row, IS THE sha256 OF THE DUMP (.gsa) THAT YtakklbipljodeaaGreatProg.lean LOADS. Nothing in Lean hashes anything: it is a label: what it is worth is what the hold of that sum in a sandbox is worth. -/
noncomputable def Tryz.pinned : Pinned := { name := "ytakklbipljodeaagreat", sum := "7a5f47812700a800b7b0dc287f0192d5da7515cd755de78e2611915f3ed471f6", checked := Tryz.checked }
namespace Rows
def none {H : Type} : Left H := { results := [], args := [] }

/-- 'patchbaylaw25.StoreChecks': WHATEVER THE INPUT: true; the input reads as it did. -/
def storeChecksSpec : ChangeSpec := { name := "storeChecks", fn := fun _ => fun
  | [d1, d2] => { results := [.lit (.bool true)], args := [d1, d2] }
  | _ => none }
def storeChecksRow : OpenClaim := { program := "ytakklbipljodeaagreat", sum := "7a5f47812700a800b7b0dc287f0192d5da7515cd755de78e2611915f3ed471f6", func := "patchbay/patchbaylaw25.StoreChecks", spec := "storeChecks", unfollowed := true, recurses := true, loops := true, plainKeys := false, apart := false }
def StoreChecksSaid : Prop := storeChecksRow.holds Tryz.pinned (OpenSpec.ofChange storeChecksSpec)

/-- ITS FALSE NEIGHBOUR: 'it returns false'. Refute it at one input. -/
def storeChecksWrong : ChangeSpec := { name := "storeChecks", fn := fun _ => fun
  | [d1, d2] => { results := [.lit (.bool false)], args := [d1, d2] }
  | _ => none }
def StoreChecksWrongFalsely : Prop := storeChecksRow.holds Tryz.pinned (OpenSpec.ofChange storeChecksWrong)

/-- 'patchbaylaw25.StoreRuns': WHATEVER THE INPUT: true; the input reads as it did. -/
def storeRunsSpec : ChangeSpec := { name := "storeRuns", fn := fun _ => fun
  | [d] => { results := [.lit (.bool true)], args := [d] }
  | _ => none }
def storeRunsRow : OpenClaim := { program := "ytakklbipljodeaagreat", sum := "7a5f47812700a800b7b0dc287f0192d5da7515cd755de78e2611915f3ed471f6", func := "patchbay/patchbaylaw25.StoreRuns", spec := "storeRuns", unfollowed := true, recurses := true, loops := true, plainKeys := false, apart := false }
def StoreRunsSaid : Prop := storeRunsRow.holds Tryz.pinned (OpenSpec.ofChange storeRunsSpec)

/-- ITS FALSE NEIGHBOUR: 'it returns false'. Refute it at one input. -/
def storeRunsWrong : ChangeSpec := { name := "storeRuns", fn := fun _ => fun
  | [d] => { results := [.lit (.bool false)], args := [d] }
  | _ => none }
def StoreRunsWrongFalsely : Prop := storeRunsRow.holds Tryz.pinned (OpenSpec.ofChange storeRunsWrong)

/-- 'patchbaylaw25.StoreNumbers': WHATEVER THE INPUT: true; the input reads as it did. -/
def storeNumbersSpec : ChangeSpec := { name := "storeNumbers", fn := fun _ => fun
  | [d] => { results := [.lit (.bool true)], args := [d] }
  | _ => none }
def storeNumbersRow : OpenClaim := { program := "ytakklbipljodeaagreat", sum := "7a5f47812700a800b7b0dc287f0192d5da7515cd755de78e2611915f3ed471f6", func := "patchbay/patchbaylaw25.StoreNumbers", spec := "storeNumbers", unfollowed := true, recurses := true, loops := true, plainKeys := false, apart := false }
def StoreNumbersSaid : Prop := storeNumbersRow.holds Tryz.pinned (OpenSpec.ofChange storeNumbersSpec)

/-- ITS FALSE NEIGHBOUR: 'it returns false'. Refute it at one input. -/
def storeNumbersWrong : ChangeSpec := { name := "storeNumbers", fn := fun _ => fun
  | [d] => { results := [.lit (.bool false)], args := [d] }
  | _ => none }
def StoreNumbersWrongFalsely : Prop := storeNumbersRow.holds Tryz.pinned (OpenSpec.ofChange storeNumbersWrong)

/-- 'patchbaylaw25.StoreKeeps': WHATEVER THE INPUT: true; the input reads as it did. -/
def storeKeepsSpec : ChangeSpec := { name := "storeKeeps", fn := fun _ => fun
  | [d] => { results := [.lit (.bool true)], args := [d] }
  | _ => none }
def storeKeepsRow : OpenClaim := { program := "ytakklbipljodeaagreat", sum := "7a5f47812700a800b7b0dc287f0192d5da7515cd755de78e2611915f3ed471f6", func := "patchbay/patchbaylaw25.StoreKeeps", spec := "storeKeeps", unfollowed := true, recurses := true, loops := true, plainKeys := false, apart := false }
def StoreKeepsSaid : Prop := storeKeepsRow.holds Tryz.pinned (OpenSpec.ofChange storeKeepsSpec)

/-- ITS FALSE NEIGHBOUR: 'it returns false'. Refute it at one input. -/
def storeKeepsWrong : ChangeSpec := { name := "storeKeeps", fn := fun _ => fun
  | [d] => { results := [.lit (.bool false)], args := [d] }
  | _ => none }
def StoreKeepsWrongFalsely : Prop := storeKeepsRow.holds Tryz.pinned (OpenSpec.ofChange storeKeepsWrong)

/-- 'patchbaylaw30.ConfigdiffDiffs': WHATEVER THE INPUT: true; the input reads as it did. -/
def configdiffDiffsSpec : ChangeSpec := { name := "configdiffDiffs", fn := fun _ => fun
  | [d1, d2, d3] => { results := [.lit (.bool true)], args := [d1, d2, d3] }
  | _ => none }
def configdiffDiffsRow : OpenClaim := { program := "ytakklbipljodeaagreat", sum := "7a5f47812700a800b7b0dc287f0192d5da7515cd755de78e2611915f3ed471f6", func := "patchbay/patchbaylaw30.ConfigdiffDiffs", spec := "configdiffDiffs", unfollowed := true, recurses := true, loops := true, plainKeys := false, apart := false }
def ConfigdiffDiffsSaid : Prop := configdiffDiffsRow.holds Tryz.pinned (OpenSpec.ofChange configdiffDiffsSpec)

/-- ITS FALSE NEIGHBOUR: 'it returns false'. Refute it at one input. -/
def configdiffDiffsWrong : ChangeSpec := { name := "configdiffDiffs", fn := fun _ => fun
  | [d1, d2, d3] => { results := [.lit (.bool false)], args := [d1, d2, d3] }
  | _ => none }
def ConfigdiffDiffsWrongFalsely : Prop := configdiffDiffsRow.holds Tryz.pinned (OpenSpec.ofChange configdiffDiffsWrong)

/-- 'patchbaylaw30.ConfigdiffSingle': WHATEVER THE INPUT: true; the input reads as it did. -/
def configdiffSingleSpec : ChangeSpec := { name := "configdiffSingle", fn := fun _ => fun
  | [d1, d2, d3] => { results := [.lit (.bool true)], args := [d1, d2, d3] }
  | _ => none }
def configdiffSingleRow : OpenClaim := { program := "ytakklbipljodeaagreat", sum := "7a5f47812700a800b7b0dc287f0192d5da7515cd755de78e2611915f3ed471f6", func := "patchbay/patchbaylaw30.ConfigdiffSingle", spec := "configdiffSingle", unfollowed := true, recurses := true, loops := true, plainKeys := false, apart := false }
def ConfigdiffSingleSaid : Prop := configdiffSingleRow.holds Tryz.pinned (OpenSpec.ofChange configdiffSingleSpec)

/-- ITS FALSE NEIGHBOUR: 'it returns false'. Refute it at one input. -/
def configdiffSingleWrong : ChangeSpec := { name := "configdiffSingle", fn := fun _ => fun
  | [d1, d2, d3] => { results := [.lit (.bool false)], args := [d1, d2, d3] }
  | _ => none }
def ConfigdiffSingleWrongFalsely : Prop := configdiffSingleRow.holds Tryz.pinned (OpenSpec.ofChange configdiffSingleWrong)

/-- 'patchbaylaw30.ConfigdiffEquivalent': WHATEVER THE INPUT: true; the input reads as it did. -/
def configdiffEquivalentSpec : ChangeSpec := { name := "configdiffEquivalent", fn := fun _ => fun
  | [d1, d2, d3] => { results := [.lit (.bool true)], args := [d1, d2, d3] }
  | _ => none }
def configdiffEquivalentRow : OpenClaim := { program := "ytakklbipljodeaagreat", sum := "7a5f47812700a800b7b0dc287f0192d5da7515cd755de78e2611915f3ed471f6", func := "patchbay/patchbaylaw30.ConfigdiffEquivalent", spec := "configdiffEquivalent", unfollowed := true, recurses := true, loops := true, plainKeys := false, apart := false }
def ConfigdiffEquivalentSaid : Prop := configdiffEquivalentRow.holds Tryz.pinned (OpenSpec.ofChange configdiffEquivalentSpec)

/-- ITS FALSE NEIGHBOUR: 'it returns false'. Refute it at one input. -/
def configdiffEquivalentWrong : ChangeSpec := { name := "configdiffEquivalent", fn := fun _ => fun
  | [d1, d2, d3] => { results := [.lit (.bool false)], args := [d1, d2, d3] }
  | _ => none }
def ConfigdiffEquivalentWrongFalsely : Prop := configdiffEquivalentRow.holds Tryz.pinned (OpenSpec.ofChange configdiffEquivalentWrong)

/-- 'patchbaylaw30.ConfigdiffCorrect': WHATEVER THE INPUT: true; the input reads as it did. -/
def configdiffCorrectSpec : ChangeSpec := { name := "configdiffCorrect", fn := fun _ => fun
  | [d1, d2, d3] => { results := [.lit (.bool true)], args := [d1, d2, d3] }
  | _ => none }
def configdiffCorrectRow : OpenClaim := { program := "ytakklbipljodeaagreat", sum := "7a5f47812700a800b7b0dc287f0192d5da7515cd755de78e2611915f3ed471f6", func := "patchbay/patchbaylaw30.ConfigdiffCorrect", spec := "configdiffCorrect", unfollowed := true, recurses := true, loops := true, plainKeys := false, apart := false }
def ConfigdiffCorrectSaid : Prop := configdiffCorrectRow.holds Tryz.pinned (OpenSpec.ofChange configdiffCorrectSpec)

/-- ITS FALSE NEIGHBOUR: 'it returns false'. Refute it at one input. -/
def configdiffCorrectWrong : ChangeSpec := { name := "configdiffCorrect", fn := fun _ => fun
  | [d1, d2, d3] => { results := [.lit (.bool false)], args := [d1, d2, d3] }
  | _ => none }
def ConfigdiffCorrectWrongFalsely : Prop := configdiffCorrectRow.holds Tryz.pinned (OpenSpec.ofChange configdiffCorrectWrong)

/-- 'patchbaylaw27.TxnApplies': WHATEVER THE INPUT: true; the input reads as it did. -/
def txnAppliesSpec : ChangeSpec := { name := "txnApplies", fn := fun _ => fun
  | [d1, d2, d3] => { results := [.lit (.bool true)], args := [d1, d2, d3] }
  | _ => none }
def txnAppliesRow : OpenClaim := { program := "ytakklbipljodeaagreat", sum := "7a5f47812700a800b7b0dc287f0192d5da7515cd755de78e2611915f3ed471f6", func := "patchbay/patchbaylaw27.TxnApplies", spec := "txnApplies", unfollowed := true, recurses := true, loops := true, plainKeys := false, apart := false }
def TxnAppliesSaid : Prop := txnAppliesRow.holds Tryz.pinned (OpenSpec.ofChange txnAppliesSpec)

/-- ITS FALSE NEIGHBOUR: 'it returns false'. Refute it at one input. -/
def txnAppliesWrong : ChangeSpec := { name := "txnApplies", fn := fun _ => fun
  | [d1, d2, d3] => { results := [.lit (.bool false)], args := [d1, d2, d3] }
  | _ => none }
def TxnAppliesWrongFalsely : Prop := txnAppliesRow.holds Tryz.pinned (OpenSpec.ofChange txnAppliesWrong)

/-- 'patchbaylaw27.TxnCommits': WHATEVER THE INPUT: true; the input reads as it did. -/
def txnCommitsSpec : ChangeSpec := { name := "txnCommits", fn := fun _ => fun
  | [d1, d2, d3] => { results := [.lit (.bool true)], args := [d1, d2, d3] }
  | _ => none }
def txnCommitsRow : OpenClaim := { program := "ytakklbipljodeaagreat", sum := "7a5f47812700a800b7b0dc287f0192d5da7515cd755de78e2611915f3ed471f6", func := "patchbay/patchbaylaw27.TxnCommits", spec := "txnCommits", unfollowed := true, recurses := true, loops := true, plainKeys := false, apart := false }
def TxnCommitsSaid : Prop := txnCommitsRow.holds Tryz.pinned (OpenSpec.ofChange txnCommitsSpec)

/-- ITS FALSE NEIGHBOUR: 'it returns false'. Refute it at one input. -/
def txnCommitsWrong : ChangeSpec := { name := "txnCommits", fn := fun _ => fun
  | [d1, d2, d3] => { results := [.lit (.bool false)], args := [d1, d2, d3] }
  | _ => none }
def TxnCommitsWrongFalsely : Prop := txnCommitsRow.holds Tryz.pinned (OpenSpec.ofChange txnCommitsWrong)

/-- 'patchbaylaw27.TxnInverse': WHATEVER THE INPUT: true; the input reads as it did. -/
def txnInverseSpec : ChangeSpec := { name := "txnInverse", fn := fun _ => fun
  | [d1, d2, d3] => { results := [.lit (.bool true)], args := [d1, d2, d3] }
  | _ => none }
def txnInverseRow : OpenClaim := { program := "ytakklbipljodeaagreat", sum := "7a5f47812700a800b7b0dc287f0192d5da7515cd755de78e2611915f3ed471f6", func := "patchbay/patchbaylaw27.TxnInverse", spec := "txnInverse", unfollowed := true, recurses := true, loops := true, plainKeys := false, apart := false }
def TxnInverseSaid : Prop := txnInverseRow.holds Tryz.pinned (OpenSpec.ofChange txnInverseSpec)

/-- ITS FALSE NEIGHBOUR: 'it returns false'. Refute it at one input. -/
def txnInverseWrong : ChangeSpec := { name := "txnInverse", fn := fun _ => fun
  | [d1, d2, d3] => { results := [.lit (.bool false)], args := [d1, d2, d3] }
  | _ => none }
def TxnInverseWrongFalsely : Prop := txnInverseRow.holds Tryz.pinned (OpenSpec.ofChange txnInverseWrong)

/-- 'patchbaylaw28.JournalNil': WHATEVER THE INPUT: true; the input reads as it did. -/
def journalNilSpec : ChangeSpec := { name := "journalNil", fn := fun _ => fun
  | [d1, d2] => { results := [.lit (.bool true)], args := [d1, d2] }
  | _ => none }
def journalNilRow : OpenClaim := { program := "ytakklbipljodeaagreat", sum := "7a5f47812700a800b7b0dc287f0192d5da7515cd755de78e2611915f3ed471f6", func := "patchbay/patchbaylaw28.JournalNil", spec := "journalNil", unfollowed := true, recurses := true, loops := true, plainKeys := false, apart := false }
def JournalNilSaid : Prop := journalNilRow.holds Tryz.pinned (OpenSpec.ofChange journalNilSpec)

/-- ITS FALSE NEIGHBOUR: 'it returns false'. Refute it at one input. -/
def journalNilWrong : ChangeSpec := { name := "journalNil", fn := fun _ => fun
  | [d1, d2] => { results := [.lit (.bool false)], args := [d1, d2] }
  | _ => none }
def JournalNilWrongFalsely : Prop := journalNilRow.holds Tryz.pinned (OpenSpec.ofChange journalNilWrong)

/- THE SECOND FORM. 'bulk': how many values and letters a reading holds, each counted each time it is reached (what is shared counts as often as it is met; a slice's spare places count too). A statement '..UptoSaid' is the law's where the arguments, and the package variables that the reading takes, are together of bulk at most 1048576: NARROWER than '..Said'. Prove '..Said' where nothing that the law and all that it calls make is longer than what came in: it says more and counts as full. Else prove '..UptoSaid'. A law counts once. -/
mutual
def uptoBulk {H : Type} : DataW H → Nat
  | .lit (.string bytes) => bytes.length + 1
  | .lit _ => 1
  | .nil => 1
  | .ptr d => uptoBulk d + 1
  | .slice elems spare => uptoBulkAll elems + uptoBulkAll spare + 1
  | .agg parts => uptoBulkAll parts + 1
  | .iface _ d => uptoBulk d + 1
  | .map entries => uptoBulkEntries entries + 1
  | .held _ => 1
def uptoBulkAll {H : Type} : List (DataW H) → Nat
  | [] => 0
  | d :: r => uptoBulk d + uptoBulkAll r
def uptoBulkEntries {H : Type} : List (Lit × DataW H) → Nat
  | [] => 0
  | x :: r => uptoBulkEntry x + uptoBulkEntries r
def uptoBulkEntry {H : Type} : Lit × DataW H → Nat
  | (.string bytes, d) => bytes.length + uptoBulk d + 1
  | (_, d) => uptoBulk d + 1
 end
def uptoSmall : (H : Type) → List (DataW H) → Bool := fun _ ds => decide (uptoBulkAll ds ≤ 1048576)
def OpenSpec.upto (s : _root_.Go.ChangeSpec) : _root_.Go.OpenSpec := { _root_.Go.OpenSpec.ofChange s with cond := some uptoSmall }

/-- 'patchbaylaw25.StoreChecks', WHERE WHAT IT READS IS OF BULK AT MOST 1048576: true; the input reads as it did. -/
def storeChecksUptoRow : OpenClaim := { program := "ytakklbipljodeaagreat", sum := "7a5f47812700a800b7b0dc287f0192d5da7515cd755de78e2611915f3ed471f6", func := "patchbay/patchbaylaw25.StoreChecks", spec := "storeChecks", unfollowed := true, recurses := true, loops := true, plainKeys := false, apart := false, narrowed := true }
def StoreChecksUptoSaid : Prop := storeChecksUptoRow.holds Tryz.pinned (OpenSpec.upto storeChecksSpec)

/-- 'patchbaylaw25.StoreRuns', WHERE WHAT IT READS IS OF BULK AT MOST 1048576: true; the input reads as it did. -/
def storeRunsUptoRow : OpenClaim := { program := "ytakklbipljodeaagreat", sum := "7a5f47812700a800b7b0dc287f0192d5da7515cd755de78e2611915f3ed471f6", func := "patchbay/patchbaylaw25.StoreRuns", spec := "storeRuns", unfollowed := true, recurses := true, loops := true, plainKeys := false, apart := false, narrowed := true }
def StoreRunsUptoSaid : Prop := storeRunsUptoRow.holds Tryz.pinned (OpenSpec.upto storeRunsSpec)

/-- 'patchbaylaw25.StoreNumbers', WHERE WHAT IT READS IS OF BULK AT MOST 1048576: true; the input reads as it did. -/
def storeNumbersUptoRow : OpenClaim := { program := "ytakklbipljodeaagreat", sum := "7a5f47812700a800b7b0dc287f0192d5da7515cd755de78e2611915f3ed471f6", func := "patchbay/patchbaylaw25.StoreNumbers", spec := "storeNumbers", unfollowed := true, recurses := true, loops := true, plainKeys := false, apart := false, narrowed := true }
def StoreNumbersUptoSaid : Prop := storeNumbersUptoRow.holds Tryz.pinned (OpenSpec.upto storeNumbersSpec)

/-- 'patchbaylaw25.StoreKeeps', WHERE WHAT IT READS IS OF BULK AT MOST 1048576: true; the input reads as it did. -/
def storeKeepsUptoRow : OpenClaim := { program := "ytakklbipljodeaagreat", sum := "7a5f47812700a800b7b0dc287f0192d5da7515cd755de78e2611915f3ed471f6", func := "patchbay/patchbaylaw25.StoreKeeps", spec := "storeKeeps", unfollowed := true, recurses := true, loops := true, plainKeys := false, apart := false, narrowed := true }
def StoreKeepsUptoSaid : Prop := storeKeepsUptoRow.holds Tryz.pinned (OpenSpec.upto storeKeepsSpec)

/-- 'patchbaylaw30.ConfigdiffDiffs', WHERE WHAT IT READS IS OF BULK AT MOST 1048576: true; the input reads as it did. -/
def configdiffDiffsUptoRow : OpenClaim := { program := "ytakklbipljodeaagreat", sum := "7a5f47812700a800b7b0dc287f0192d5da7515cd755de78e2611915f3ed471f6", func := "patchbay/patchbaylaw30.ConfigdiffDiffs", spec := "configdiffDiffs", unfollowed := true, recurses := true, loops := true, plainKeys := false, apart := false, narrowed := true }
def ConfigdiffDiffsUptoSaid : Prop := configdiffDiffsUptoRow.holds Tryz.pinned (OpenSpec.upto configdiffDiffsSpec)

/-- 'patchbaylaw30.ConfigdiffSingle', WHERE WHAT IT READS IS OF BULK AT MOST 1048576: true; the input reads as it did. -/
def configdiffSingleUptoRow : OpenClaim := { program := "ytakklbipljodeaagreat", sum := "7a5f47812700a800b7b0dc287f0192d5da7515cd755de78e2611915f3ed471f6", func := "patchbay/patchbaylaw30.ConfigdiffSingle", spec := "configdiffSingle", unfollowed := true, recurses := true, loops := true, plainKeys := false, apart := false, narrowed := true }
def ConfigdiffSingleUptoSaid : Prop := configdiffSingleUptoRow.holds Tryz.pinned (OpenSpec.upto configdiffSingleSpec)

/-- 'patchbaylaw30.ConfigdiffEquivalent', WHERE WHAT IT READS IS OF BULK AT MOST 1048576: true; the input reads as it did. -/
def configdiffEquivalentUptoRow : OpenClaim := { program := "ytakklbipljodeaagreat", sum := "7a5f47812700a800b7b0dc287f0192d5da7515cd755de78e2611915f3ed471f6", func := "patchbay/patchbaylaw30.ConfigdiffEquivalent", spec := "configdiffEquivalent", unfollowed := true, recurses := true, loops := true, plainKeys := false, apart := false, narrowed := true }
def ConfigdiffEquivalentUptoSaid : Prop := configdiffEquivalentUptoRow.holds Tryz.pinned (OpenSpec.upto configdiffEquivalentSpec)

/-- 'patchbaylaw30.ConfigdiffCorrect', WHERE WHAT IT READS IS OF BULK AT MOST 1048576: true; the input reads as it did. -/
def configdiffCorrectUptoRow : OpenClaim := { program := "ytakklbipljodeaagreat", sum := "7a5f47812700a800b7b0dc287f0192d5da7515cd755de78e2611915f3ed471f6", func := "patchbay/patchbaylaw30.ConfigdiffCorrect", spec := "configdiffCorrect", unfollowed := true, recurses := true, loops := true, plainKeys := false, apart := false, narrowed := true }
def ConfigdiffCorrectUptoSaid : Prop := configdiffCorrectUptoRow.holds Tryz.pinned (OpenSpec.upto configdiffCorrectSpec)

/-- 'patchbaylaw27.TxnApplies', WHERE WHAT IT READS IS OF BULK AT MOST 1048576: true; the input reads as it did. -/
def txnAppliesUptoRow : OpenClaim := { program := "ytakklbipljodeaagreat", sum := "7a5f47812700a800b7b0dc287f0192d5da7515cd755de78e2611915f3ed471f6", func := "patchbay/patchbaylaw27.TxnApplies", spec := "txnApplies", unfollowed := true, recurses := true, loops := true, plainKeys := false, apart := false, narrowed := true }
def TxnAppliesUptoSaid : Prop := txnAppliesUptoRow.holds Tryz.pinned (OpenSpec.upto txnAppliesSpec)

/-- 'patchbaylaw27.TxnCommits', WHERE WHAT IT READS IS OF BULK AT MOST 1048576: true; the input reads as it did. -/
def txnCommitsUptoRow : OpenClaim := { program := "ytakklbipljodeaagreat", sum := "7a5f47812700a800b7b0dc287f0192d5da7515cd755de78e2611915f3ed471f6", func := "patchbay/patchbaylaw27.TxnCommits", spec := "txnCommits", unfollowed := true, recurses := true, loops := true, plainKeys := false, apart := false, narrowed := true }
def TxnCommitsUptoSaid : Prop := txnCommitsUptoRow.holds Tryz.pinned (OpenSpec.upto txnCommitsSpec)

/-- 'patchbaylaw27.TxnInverse', WHERE WHAT IT READS IS OF BULK AT MOST 1048576: true; the input reads as it did. -/
def txnInverseUptoRow : OpenClaim := { program := "ytakklbipljodeaagreat", sum := "7a5f47812700a800b7b0dc287f0192d5da7515cd755de78e2611915f3ed471f6", func := "patchbay/patchbaylaw27.TxnInverse", spec := "txnInverse", unfollowed := true, recurses := true, loops := true, plainKeys := false, apart := false, narrowed := true }
def TxnInverseUptoSaid : Prop := txnInverseUptoRow.holds Tryz.pinned (OpenSpec.upto txnInverseSpec)

/-- 'patchbaylaw28.JournalNil', WHERE WHAT IT READS IS OF BULK AT MOST 1048576: true; the input reads as it did. -/
def journalNilUptoRow : OpenClaim := { program := "ytakklbipljodeaagreat", sum := "7a5f47812700a800b7b0dc287f0192d5da7515cd755de78e2611915f3ed471f6", func := "patchbay/patchbaylaw28.JournalNil", spec := "journalNil", unfollowed := true, recurses := true, loops := true, plainKeys := false, apart := false, narrowed := true }
def JournalNilUptoSaid : Prop := journalNilUptoRow.holds Tryz.pinned (OpenSpec.upto journalNilSpec)

end Rows
end Go.Proofs.YtakklbipljodeaaGreat
