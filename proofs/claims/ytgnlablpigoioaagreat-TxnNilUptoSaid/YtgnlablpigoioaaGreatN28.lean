/-
  Lemmas for the law.
-/
import Derived.Test.YtgnlablpigoioaaGreatN27
import Derived.Test.YtgnlablpigoioaaGreatT7
set_option linter.unusedVariables false
set_option linter.unusedSimpArgs false
set_option linter.constructorNameAsVariable false
namespace Go.Av
set_option maxRecDepth 8000
def zs27 : List AV := [.fslice 1 [], .fslice 1 [], .fslice 2 [], .fslice 1 [], .str [], .fslice 2 [], .fslice 2 [], .fslice 3 [], .fslice 3 [], .fslice 6 [], .fslice 7 [], .fslice 5 [], .fslice 1 [], .fslice 1 [], .bool false]
def jc (k : Nat) (s : AV) : List (Nat × AO) := [(k, .row 1 [[s]]), (k + 1, .row 1 [[.int .i64 1]]), (k + 2, .row 1 [[.nilptr]]), (k + 3, .row 2 [[.int .i64 0, .fslice 1 []]])]
theorem commit_nil (l : List (List AV)) : callI Φ f_txn_Commit [.nilptr, .slice 9 l] ⟨[], 0⟩ = some (.val (.tup [.fslice 1 [], .int .i64 (-1), .int .i64 1]), ⟨[(0, .row 1 [[.nilptr]]), (1, .row 1 [[.int .i64 1]]), (2, .row 1 [[.nilptr]]), (3, .row 2 [[.int .i64 0, .fslice 1 []]])], 4⟩) := callI_of _ (n := 50) (by kernel_rfl)
theorem commit_zero (l : List (List AV)) : callI Φ f_txn_Commit [.ptr 4 15 0 0, .slice 9 l] ⟨[(0, .row 1 [[.nilptr]]), (1, .row 1 [[.int .i64 1]]), (2, .row 1 [[.nilptr]]), (3, .row 2 [[.int .i64 0, .fslice 1 []]]), (4, .row 15 [zs27])], 5⟩ = some (.val (.tup [.fslice 1 [], .int .i64 (-1), .int .i64 1]),
   ⟨[(0, .row 1 [[.nilptr]]), (1, .row 1 [[.int .i64 1]]), (2, .row 1 [[.nilptr]]), (3, .row 2 [[.int .i64 0, .fslice 1 []]]), (4, .row 15 [zs27]), (5, .row 1 [[.ptr 4 15 0 0]]), (6, .row 1 [[.int .i64 1]]), (7, .row 1 [[.nilptr]]), (8, .row 2 [[.int .i64 0, .fslice 1 []]])], 9⟩) := callI_of _ (n := 50) (by kernel_rfl)
end Go.Av
