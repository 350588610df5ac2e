/-
  Lemmas for the law.
-/
import Derived.Test.YtdgpefplgldkfaaE5
set_option linter.unusedVariables false
set_option linter.unusedSimpArgs false
set_option linter.constructorNameAsVariable false
namespace Go.Av
set_option maxRecDepth 4000
theorem FirstHopEntry_ok (port ver prio v m a : Int) (l : List Int) (hl : l.length ≤ 20) : pureI Φ f_fabric_FirstHopEntry [.int .i64 port, .int .i64 ver, .int .i64 prio, .agg [.int .u64 v, .int .u64 m], .agg [.int .i64 a, .slice 1 (l.map c32)]] =
    some (.val (.agg [.slice 2 ([⟨low8 port, 255⟩, ⟨low8 ver, 255⟩, ⟨low8 0, 255⟩, ⟨low8 (ishr .u64 v 16), low8 (ishr .u64 m 16)⟩, ⟨low8 (ishr .u64 v 8), low8 (ishr .u64 m 8)⟩, ⟨low8 (ishr .u64 v 0), low8 (ishr .u64 m 0)⟩].map KeyMatch.c), .int .i64 prio, .int .i64 a, .slice 1 (l.map c32)])) := by
  rw [pureI_go (fn := c_fabric_FirstHopEntry) rfl rfl]
  simp [c_fabric_FirstHopEntry, cloneCall_ok, hl, exact_ok, part_ok, entry_ok, KeyMatch.c]
theorem bits_ok (v m s : Int) (hs : 0 ≤ s) (hs2 : s < 64) : pureI Φ f_ref46_bits [.agg [.int .u64 v, .int .u64 m], .int .i64 s] = some (.val (.agg [.int .u32 (low8 (ishr .u64 v s)), .int .u32 (low8 (ishr .u64 m s))])) := by
  rw [pureI_go (fn := c_ref46_bits) rfl rfl]
  have e : IntKind.wrap .u64 s = s := by simp [IntKind.wrap, IntKind.bits, IntKind.signed]; omega
  simp [c_ref46_bits, hs, e]
theorem rFirstHopEntry_ok (port ver prio v m a : Int) (l : List Int) : pureI Φ f_ref46_FirstHopEntry [.int .i64 port, .int .i64 ver, .int .i64 prio, .agg [.int .u64 v, .int .u64 m], .agg [.int .i64 a, .slice 1 (l.map c32)]] =
    some (.val (.agg [.slice 2 ([⟨low8 port, 255⟩, ⟨low8 ver, 255⟩, ⟨low8 0, 255⟩, ⟨low8 (ishr .u64 v 16), low8 (ishr .u64 m 16)⟩, ⟨low8 (ishr .u64 v 8), low8 (ishr .u64 m 8)⟩, ⟨low8 (ishr .u64 v 0), low8 (ishr .u64 m 0)⟩].map KeyMatch.c), .int .i64 prio, .int .i64 a, .slice 1 (l.map c32)])) := by
  rw [pureI_go (fn := c_ref46_FirstHopEntry) rfl rfl]
  simp [c_ref46_FirstHopEntry, rexact_ok, bits_ok, KeyMatch.c]
theorem NextHopEntry_ok (ver lab a : Int) (l : List Int) (hl : l.length ≤ 20) : pureI Φ f_fabric_NextHopEntry [.int .i64 ver, .int .i64 lab, .agg [.int .i64 a, .slice 1 (l.map c32)]] =
    some (.val (.agg [.slice 2 ([⟨0, 0⟩, ⟨low8 ver, 255⟩, ⟨low8 lab, 255⟩, ⟨0, 0⟩, ⟨0, 0⟩, ⟨0, 0⟩].map KeyMatch.c), .int .i64 0, .int .i64 a, .slice 1 (l.map c32)])) := by
  rw [pureI_go (fn := c_fabric_NextHopEntry) rfl rfl]
  simp [c_fabric_NextHopEntry, cloneCall_ok, hl, exact_ok, entry_ok, KeyMatch.c]
theorem rNextHopEntry_ok (ver lab a : Int) (l : List Int) : pureI Φ f_ref46_NextHopEntry [.int .i64 ver, .int .i64 lab, .agg [.int .i64 a, .slice 1 (l.map c32)]] =
    some (.val (.agg [.slice 2 ([⟨0, 0⟩, ⟨low8 ver, 255⟩, ⟨low8 lab, 255⟩, ⟨0, 0⟩, ⟨0, 0⟩, ⟨0, 0⟩].map KeyMatch.c), .int .i64 0, .int .i64 a, .slice 1 (l.map c32)])) := by
  rw [pureI_go (fn := c_ref46_NextHopEntry) rfl rfl]
  simp [c_ref46_NextHopEntry, rexact_ok, KeyMatch.c]
end Go.Av
