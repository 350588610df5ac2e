/-
  checksum.Unframe.
-/
import Derived.Test.YtjdbnnnakpacjaaGreatJC3
import Derived.Test.YtjdbnnnakpacjaaGreatQ15
set_option linter.unusedVariables false
set_option linter.unusedSimpArgs false
set_option linter.constructorNameAsVariable false
namespace Go.Av
set_option maxRecDepth 4000
theorem clB_ok (l : List Int) (h : l.length < 2 ^ 40) : pureI Φ f_slices_Clone_byte_byte [.slice 1 (l.map c8)] = some (.val (.slice 1 (l.map c8))) :=
  clone_app (bytes := 1) rfl _ (allLen_map 1 c8 l fun x => by simp [c8]) (by rw [List.length_map]; omega)
theorem kunframe (b : List Int) (hb : okB b) (h40 : b.length < 2 ^ 40) : pureI Φ f_checksum_Unframe [.slice 1 (b.map c8)] = some (.val (.tup [.slice 1 ((unfB b).1.map c8), .int .i64 (unfB b).2.1, .int .i64 (unfB b).2.2])) := by
  rw [pureI_go (fn := c_checksum_Unframe) rfl rfl]
  unfold unfB
  by_cases q : b.length < 8
  · have q' : (b.length : Int) < 8 := by omega
    simp [c_checksum_Unframe, q, q']
  have q' : ¬ (b.length : Int) < 8 := by omega
  have k1 := knumber b hb (by omega) h40
  have hr := num4_rng hb (by omega)
  have w0 : IntKind.wrap .u64 (b.length : Int) = (b.length : Int) := wrap64u (by omega)
  have w1 : IntKind.wrap .u64 ((b.length : Int) - 8) = (b.length : Int) - 8 := wrap64u (by omega)
  rw [if_neg q]
  obtain ⟨n, hn⟩ : ∃ n : Nat, num 4 b = n := ⟨(num 4 b).toNat, by omega⟩
  rw [hn] at k1 hr ⊢
  have w2 : IntKind.wrap .u64 (n : Int) = (n : Int) := wrap64u (by omega)
  by_cases q2 : (b.length : Int) - 8 < (n : Int)
  · rw [if_pos q2]
    simp [c_checksum_Unframe, q', k1, w0, w1, w2, q2]
  rw [if_neg q2]
  rw [Int.toNat_natCast]
  have w3 : IntKind.wrap .i64 (n : Int) = (n : Int) := wrap64 (by omega) (by omega)
  have w4 : IntKind.wrap .i64 (4 + (n : Int)) = 4 + (n : Int) := wrap64 (by omega) (by omega)
  have w5 : IntKind.wrap .i64 (4 + (n : Int) + 4) = (n : Int) + 8 := (wrap64 (by omega) (by omega)).trans (by omega)
  have ht : okB (b.take (4 + n)) := fun x hx => hb x (List.mem_of_mem_take hx)
  have hd : okB (b.drop (4 + n)) := okB_drop hb _
  have k2 := kfnv (b.take (4 + n)) ht (by simp; omega)
  have k3 := knumber (b.drop (4 + n)) hd (by simp; omega) (by simp; omega)
  have k4 := clB_ok ((b.drop 4).take n) (by simp; omega)
  rw [List.map_take] at k2
  rw [List.map_drop] at k3
  rw [List.map_take, List.map_drop] at k4
  have c1 : (0 : Int) ≤ 4 + (n : Int) ∧ 4 + (n : Int) ≤ (b.length : Int) := by omega
  have c4 : (4 : Int) ≤ 4 + (n : Int) := by omega
  have t4 : (4 + (n : Int)).toNat = 4 + n := by omega
  have x3 : 4 + n - 4 = n := by omega
  have x4 : ((b.map c8).drop (4 + n)).take (b.length - (4 + n)) = (b.map c8).drop (4 + n) := List.take_of_length_le (by simp)
  by_cases z : fnv (b.take (4 + n)) = num 4 (b.drop (4 + n))
  · rw [if_neg (by simpa using z)]
    rw [z] at k2
    generalize num 4 (b.drop (4 + n)) = F at *
    simp [c_checksum_Unframe, q', k1, w0, w1, w2, w3, w4, w5, q2, k2, k3, k4, c1, c4, t4, x3, x4]
  · rw [if_pos (by simpa using z)]
    generalize fnv (b.take (4 + n)) = E at *
    generalize num 4 (b.drop (4 + n)) = F at *
    simp [c_checksum_Unframe, q', k1, w0, w1, w2, w3, w4, q2, k2, k3, c1, c4, t4, x4, z]
end Go.Av
