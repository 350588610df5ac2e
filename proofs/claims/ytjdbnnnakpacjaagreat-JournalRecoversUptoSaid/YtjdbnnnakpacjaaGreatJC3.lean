/-
  checksum: the reference's Unframe.
-/
import Derived.Test.YtjdbnnnakpacjaaGreatJC2
set_option linter.unusedVariables false
set_option linter.unusedSimpArgs false
set_option linter.constructorNameAsVariable false
namespace Go.Av
set_option maxRecDepth 4000
theorem strB_inj : ∀ {a b : List Int}, okB a → okB b → strB a = strB b → a = b
  | [], [], _, _, _ => rfl
  | [], y :: b, _, _, h => by simp [strB] at h
  | x :: a, [], _, _, h => by simp [strB] at h
  | x :: a, y :: b, ha, hb, h => by
    simp only [strB, List.map_cons, List.cons.injEq] at h
    have h1 := ha x (by simp)
    have h2 := hb y (by simp)
    have hx : x = y := by
      have := congrArg UInt8.toNat h.1
      simp at this
      omega
    rw [hx, strB_inj (a := a) (b := b) (fun z hz => ha z (by simp [hz])) (fun z hz => hb z (by simp [hz])) h.2]
theorem be4_num {b : List Int} (hb : okB b) (hl : b.length = 4) : be4 (num 4 b) = b := by
  match b, hl with
  | [x, y, z, w], _ =>
    have h1 := hb x (by simp)
    have h2 := hb y (by simp)
    have h3 := hb z (by simp)
    have h4 := hb w (by simp)
    simp [num, be4]; omega
theorem num4_take (b : List Int) (h : 4 ≤ b.length) : num 4 (b.take 4) = num 4 b := by
  match b, h with
  | x :: y :: z :: w :: l, _ => rfl
theorem str_cmp {v : Int} {b : List Int} (hv : 0 ≤ v ∧ v ≤ 4294967295) (hb : okB b) (hl : 4 ≤ b.length) : (strB (be4 v) = strB (b.take 4)) ↔ v = num 4 b := by
  have hk : okB (b.take 4) := fun x hx => hb x (List.mem_of_mem_take hx)
  have hn := num4_take b hl
  constructor
  · intro h
    have := strB_inj (be4_okB v) hk h
    rw [← hn, ← this]
    have := num4_be hv []
    rw [List.append_nil] at this
    exact this.symm
  · intro h
    rw [h, ← hn, be4_num hk (by simp; omega)]
theorem runframe (b : List Int) (hb : okB b) (h40 : b.length < 2 ^ 40) : pureI Φ f_ref04_Unframe [.slice 1 (b.map c8)] = some (.val (.tup [.slice 1 ((unfB b).1.map c8), .int .i64 (unfB b).2.1, .int .i64 (unfB b).2.2])) := by
  rw [pureI_go (fn := c_ref04_Unframe) rfl rfl]
  unfold unfB
  by_cases q : b.length < 8
  · have q' : (b.length : Int) < 8 := by omega
    simp [c_ref04_Unframe, q, q']
  have q' : ¬ (b.length : Int) < 8 := by omega
  have k1 := rnumber b hb (by omega) h40
  have hr := num4_rng hb (by omega)
  have w1 : IntKind.wrap .i64 ((b.length : Int) - 8) = (b.length : Int) - 8 := wrap64 (by omega) (by omega)
  rw [if_neg q]
  by_cases q2 : (b.length : Int) - 8 < num 4 b
  · rw [if_pos q2]
    simp [c_ref04_Unframe, q', k1, w1, q2]
  rw [if_neg q2]
  obtain ⟨n, hn⟩ : ∃ n : Nat, num 4 b = n := ⟨(num 4 b).toNat, by omega⟩
  rw [hn] at k1 q2 hr ⊢
  rw [Int.toNat_natCast]
  have w2 : IntKind.wrap .i64 ((n : Int) + 4) = 4 + (n : Int) := (wrap64 (by omega) (by omega)).trans (by omega)
  have w3 : IntKind.wrap .i64 ((n : Int) + 8) = 8 + (n : Int) := (wrap64 (by omega) (by omega)).trans (by omega)
  have ht : okB (b.take (4 + n)) := fun x hx => hb x (List.mem_of_mem_take hx)
  have hd : okB (b.drop (4 + n)) := okB_drop hb _
  have k2 := rfnv (b.take (4 + n)) ht (by simp; omega)
  have k3 := rbig (fnv (b.take (4 + n))) (fnv_rng _)
  have hc := str_cmp (v := fnv (b.take (4 + n))) (b := b.drop (4 + n)) (fnv_rng _) hd (by simp; omega)
  have b1 := b2sV_slice
  rw [List.map_take] at k2
  have c1 : (0 : Int) ≤ 4 + (n : Int) ∧ 4 + (n : Int) ≤ (b.length : Int) := by omega
  have c2 : (0 : Int) ≤ 4 + (n : Int) ∧ 4 + (n : Int) ≤ 8 + (n : Int) ∧ 8 + (n : Int) ≤ (b.length : Int) := by omega
  have c3 : (0 : Int) ≤ 8 + (n : Int) ∧ 8 + (n : Int) ≤ (b.length : Int) := by omega
  have c4 : (4 : Int) ≤ 4 + (n : Int) := by omega
  have c5 : 4 + (n : Int) ≤ 8 + (n : Int) := by omega
  have t4 : (4 + (n : Int)).toNat = 4 + n := by omega
  have t8 : (8 + (n : Int)).toNat = 8 + n := by omega
  have m3 : (8 + n) - (4 + n) = 4 := by omega
  have x1 : ((b.map c8).drop (4 + n)).take 4 = ((b.drop (4 + n)).take 4).map c8 := by rw [List.map_take, List.map_drop]
  have x2 : ((b.map c8).drop 4).take n = ((b.drop 4).take n).map c8 := by rw [List.map_take, List.map_drop]
  have x3 : 4 + n - 4 = n := by omega
  have s1 := fun h => b2sV_slice h 1 (be4 (fnv (b.take (4 + n))))
  have s2 := fun h => b2sV_slice h 1 ((b.drop (4 + n)).take 4)
  have al := al8 ((b.drop 4).take n)
  have am : ((b.drop 4).take n).length ≤ 70368744177664 := by simp; omega
  by_cases z : fnv (b.take (4 + n)) = num 4 (b.drop (4 + n))
  · have hz := hc.2 z
    rw [if_neg (by simpa using z)]
    clear hc z hd ht
    rw [hz] at s1
    generalize fnv (b.take (4 + n)) = F at *
    generalize be4 F = E at *
    generalize (b.drop (4 + n)).take 4 = G at *
    generalize (b.drop 4).take n = B at *
    simp [c_ref04_Unframe, q', k1, w1, q2, w2, w3, k2, k3, c1, c2, c3, c4, c5, t4, t8, m3, x1, x2, x3, evC_b2s, s1, s2, al, am, -evCall_b2s]
    omega
  · have hz : ¬ strB (be4 (fnv (b.take (4 + n)))) = strB ((b.drop (4 + n)).take 4) := fun h => z (hc.1 h)
    rw [if_pos (by simpa using z)]
    clear hc z hd ht
    generalize fnv (b.take (4 + n)) = F at *
    generalize be4 F = E at *
    generalize (b.drop (4 + n)).take 4 = G at *
    simp [c_ref04_Unframe, q', k1, w1, q2, w2, w3, k2, k3, c1, c2, c3, c4, c5, t4, t8, m3, x1, evC_b2s, s1, s2, hz, -evCall_b2s]
end Go.Av
