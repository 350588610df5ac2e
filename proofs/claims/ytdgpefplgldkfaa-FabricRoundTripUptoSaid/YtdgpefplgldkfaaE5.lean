/-
  Lemmas for the law.
-/
import Derived.Test.YtdgpefplgldkfaaE1
set_option linter.unusedVariables false
set_option linter.unusedSimpArgs false
set_option linter.constructorNameAsVariable false
namespace Go.Av
set_option maxRecDepth 4000
theorem cloneCall_ok (a : Int) (l : List Int) (hl : l.length ≤ 20) : pureI Φ f_fabric_cloneCall [.agg [.int .i64 a, .slice 1 (l.map c32)]] = some (.val (.agg [.int .i64 a, .slice 1 (l.map c32)])) := by
  rw [pureI_go (fn := c_fabric_cloneCall) rfl rfl]
  have : l.length * 4 ≤ 70368744177664 := by omega
  simp [c_fabric_cloneCall, this]
def part8 (x : Int) (s : Int) : Int := iand .u32 (IntKind.wrap .u32 (ishr .u64 x s)) 255
theorem part_ok (v m s : Int) (hs : 0 ≤ s) : pureI Φ f_fabric_FirstHopEntry_1 [.int .i64 s, .iptr 2 [[.int .u64 v, .int .u64 m]] 0 0] = some (.val (.agg [.int .u32 (low8 (ishr .u64 v s)), .int .u32 (low8 (ishr .u64 m s))])) := by
  rw [pureI_go (fn := c_fabric_FirstHopEntry_1) rfl rfl]
  simp [c_fabric_FirstHopEntry_1, hs]
end Go.Av
