/-
  Lemmas for the law.
-/
import Derived.Test.YtdgpefplgldkfaaB06
set_option linter.unusedVariables false
set_option linter.unusedSimpArgs false
set_option linter.constructorNameAsVariable false
namespace Go.Av
set_option maxRecDepth 8000
def nmBase : List UInt8 := [98, 97, 115, 101]
def nsBase : List (List UInt8) := [[107, 105, 110, 100]]
def nmTag : List UInt8 := [116, 97, 103]
def nsTag : List (List UInt8) := [[118, 101, 114, 115, 105, 111, 110], [108, 97, 98, 101, 108]]
def nmFlow : List UInt8 := [102, 108, 111, 119]
def nsFlow : List (List UInt8) := [[115, 114, 99], [100, 115, 116], [116, 121, 112, 101]]
theorem pv1_eq : pv1 = .slice 2 [hV nmBase nsBase, hV nmTag nsTag, hV nmFlow nsFlow] := rfl
theorem header_Check_0 : pureI Φ f_header_Check [.agg (hV nmBase nsBase)] = some (.val (.int .i64 0)) := pureI_of_ev2 (n := 100) (by kernel_rfl)
theorem header_Check_1 : pureI Φ f_header_Check [.agg (hV nmTag nsTag)] = some (.val (.int .i64 0)) := pureI_of_ev2 (n := 100) (by kernel_rfl)
theorem header_Check_2 : pureI Φ f_header_Check [.agg (hV nmFlow nsFlow)] = some (.val (.int .i64 0)) := pureI_of_ev2 (n := 100) (by kernel_rfl)
theorem header_Bits_0 : pureI Φ f_header_Bits [.agg (hV nmBase nsBase)] = some (.val (.int .i64 8)) := pureI_of_ev2 (n := 100) (by kernel_rfl)
theorem header_Bits_1 : pureI Φ f_header_Bits [.agg (hV nmTag nsTag)] = some (.val (.int .i64 16)) := pureI_of_ev2 (n := 100) (by kernel_rfl)
theorem header_Bits_2 : pureI Φ f_header_Bits [.agg (hV nmFlow nsFlow)] = some (.val (.int .i64 24)) := pureI_of_ev2 (n := 100) (by kernel_rfl)
theorem parser_Check_ok : pureI Φ f_parser_Check [.agg pvA] = some (.val (.tup [.int .i64 0, .int .i64 0, .int .i64 0])) := pureI_of_ev2 (n := 200) (by kernel_rfl)
end Go.Av
