/-
  Lemmas for the law.
-/
import Derived.Test.YtdgpefplgldkfaaV46c
set_option linter.unusedVariables false
set_option linter.unusedSimpArgs false
set_option linter.constructorNameAsVariable false
namespace Go.Av
set_option maxRecDepth 8000
theorem wrap32_8 {n : Int} (h1 : 0 ≤ n) (h2 : n ≤ 255) : IntKind.wrap .u32 n = n := by
  simp [IntKind.wrap, IntKind.bits, IntKind.signed]; omega
theorem wrap8_range (n : Int) : 0 ≤ IntKind.wrap .u8 n ∧ IntKind.wrap .u8 n ≤ 255 := by
  simp [IntKind.wrap, IntKind.bits, IntKind.signed]; omega
theorem goodK_255 (n : Int) : goodK (low8 n) 255 := ⟨(low8_range n).2, by omega, iandNot_255 n⟩
theorem goodK_zero : goodK 0 0 := ⟨by omega, by omega, by decide +kernel⟩
theorem goodK_cube (v m : Int) (hv : 0 ≤ v ∧ v ≤ 18446744073709551615) (hm : 0 ≤ m ∧ m ≤ 18446744073709551615) (s : Nat) (hs : s < 64) : goodK (low8 (ishr .u64 (iand .u64 v m) s)) (low8 (ishr .u64 m s)) :=
  ⟨(low8_range _).2, (low8_range _).2, iandNot_self v m hv hm s hs⟩
theorem FabricValidEntries_ok (port ver lab prio v m a : Int) (l : List Int) (p q : Int) (hv : 0 ≤ v ∧ v ≤ 18446744073709551615) (hm : 0 ≤ m ∧ m ≤ 18446744073709551615) (hp : 0 ≤ p ∧ p ≤ 255) (hq : 0 ≤ q ∧ q ≤ 255)
    (hw : pureI Φ f_law46_works [] = some (.val (.bool true))) :
    pureI Φ f_law46_FabricValidEntries [.agg [.int .i64 port, .int .i64 ver, .int .i64 lab, .int .i64 prio, .int .u64 v, .int .u64 m, .int .i64 a, .slice 1 (l.map c32)], .int .u8 p, .int .u8 q] = some (.val (.bool true)) := by
  rw [pureI_go (fn := c_law46_FabricValidEntries) rfl rfl]
  have e1 := wrap32_8 hp.1 hp.2
  have e2 := wrap32_8 hq.1 hq.2
  obtain ⟨r1, r2⟩ := wrap8_range prio
  have e3 : IntKind.wrap .i64 (IntKind.wrap .u8 prio) = IntKind.wrap .u8 prio := wrap64 (by omega) (by omega)
  have f1 := FirstHopEntry_ok port ver (IntKind.wrap .u8 prio) (iand .u64 v m) m 2 [p, q] (by simp)
  have f2 := NextHopEntry_ok ver lab 2 [p, q] (by simp)
  have c1 := entry_Check_0 (low8 port) (low8 ver) (low8_range _).2 (iandNot_255 port) (low8_range _).2
  have c2 := entry_Check_1 (low8 port) (low8_range _).2 (iandNot_255 port)
  have g16 : goodK (low8 (ishr .u64 (iand .u64 v m) 16)) (low8 (ishr .u64 m 16)) := goodK_cube v m hv hm 16 (by omega)
  have g8 : goodK (low8 (ishr .u64 (iand .u64 v m) 8)) (low8 (ishr .u64 m 8)) := goodK_cube v m hv hm 8 (by omega)
  have g0 : goodK (low8 (ishr .u64 (iand .u64 v m) 0)) (low8 (ishr .u64 m 0)) := goodK_cube v m hv hm 0 (by omega)
  have c3 := entry_Check_2 (low8 port) 255 (low8 ver) 255 (low8 0) 255 _ _ _ _ _ _ (IntKind.wrap .u8 prio) p q (goodK_255 _) (goodK_255 _) (goodK_255 _) g16 g8 g0 r1 r2 hp.2 hq.2
  have c4 := entry_Check_2 0 0 (low8 ver) 255 (low8 lab) 255 0 0 0 0 0 0 0 p q goodK_zero (goodK_255 _) (goodK_255 _) goodK_zero goodK_zero goodK_zero (by omega) (by omega) hp.2 hq.2
  simp only [List.map_cons, List.map_nil, c32, KeyMatch.c] at f1 f2
  simp only [pvA] at c1 c2 c3 c4
  simp [c_law46_FabricValidEntries, fabric_Program_ok, pvA, e1, e2, e3, IngressEntry_ok, TrunkEntry_ok, c1, c2, f1, f2, c3, c4, hw]
end Go.Av
