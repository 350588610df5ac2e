/-
  The encoder's numbers.
-/
import Derived.Test.YtjdbnnnakpacjaaGreatJ11
set_option linter.unusedVariables false
set_option linter.unusedSimpArgs false
set_option linter.constructorNameAsVariable false
namespace Go.Av
set_option maxRecDepth 4000
theorem look_setl_eq {t : Nat} {x y : AO} : ∀ {O : List (Nat × AO)}, look t O = some x → look t (setl t y O) = some y
  | [], h => by simp at h
  | (u, z) :: r, h => by
    by_cases hu : u = t
    · subst hu; simp
    · simp [hu] at h
      simp [hu, look_setl_eq h]
theorem look_setl_ne {t j : Nat} {y : AO} (hj : j ≠ t) : ∀ {O : List (Nat × AO)}, look j (setl t y O) = look j O
  | [] => by simp
  | (u, z) :: r => by
    by_cases hu : u = t
    · subst hu
      have : ¬ u = j := fun h => hj h.symm
      simp [this]
    · by_cases hv : u = j
      · subst hv; simp [hu]
      · simp [hu, hv, look_setl_ne hj]
theorem setl_setl {t : Nat} {y z : AO} : ∀ {O : List (Nat × AO)}, setl t z (setl t y O) = setl t z O
  | [] => by simp
  | (u, w) :: r => by
    by_cases hu : u = t
    · subst hu; simp
    · simp [hu, setl_setl]
theorem setl_appL {t : Nat} {x y : AO} : ∀ {O r : List (Nat × AO)}, look t O = some x → setl t y (O ++ r) = setl t y O ++ r
  | [], _, h => by simp at h
  | (u, w) :: o, r, h => by
    by_cases hu : u = t
    · subst hu; simp
    · simp [hu] at h
      simp [hu, setl_appL h]
theorem Tail_setl {t N : Nat} {y : AO} {O : List (Nat × AO)} (h : Tail O N) (ht : t < N) : Tail (setl t y O) N := by
  intro j hj
  rw [look_setl_ne (by omega)]
  exact h j hj
theorem wr8u (v : Int) : IntKind.wrap .u8 v = v % 256 := by simp [IntKind.wrap, IntKind.bits, IntKind.signed]
theorem ishr0 (v : Int) : ishr .i64 v 0 = v := by
  unfold ishr
  have : (2 : Int) ^ (min (0 : Int).toNat (IntKind.bits .i64)) = 1 := by decide
  rw [this, Int.fdiv_one]
theorem ishr8 (v : Int) : ishr .i64 v 8 = v / 256 := by
  unfold ishr
  have : (2 : Int) ^ (min (8 : Int).toNat (IntKind.bits .i64)) = 256 := by decide
  rw [this, Int.fdiv_eq_ediv_of_nonneg _ (by decide)]
theorem ishr16 (v : Int) : ishr .i64 v 16 = v / 65536 := by
  unfold ishr
  have : (2 : Int) ^ (min (16 : Int).toNat (IntKind.bits .i64)) = 65536 := by decide
  rw [this, Int.fdiv_eq_ediv_of_nonneg _ (by decide)]
theorem ishr24 (v : Int) : ishr .i64 v 24 = v / 16777216 := by
  unfold ishr
  have : (2 : Int) ^ (min (24 : Int).toNat (IntKind.bits .i64)) = 16777216 := by decide
  rw [this, Int.fdiv_eq_ediv_of_nonneg _ (by decide)]
theorem anum2 {O : List (Nat × AO)} {N t : Nat} {E : List (List AV)} {v : Int} (h : look t O = some (.tok 1 E.length)) (hE : E.length ≤ 1099511627776) :
    callI Φ f_journal_appendNumber [.app 1 E t, .int .i64 v, .int .i64 2] ⟨O, N⟩ = some (.val (.app 1 (E ++ [[.int .u8 (v / 256 % 256)], [.int .u8 (v % 256)]]) t), ⟨setl t (.tok 1 (E.length + 2)) O, N⟩) := by
  rw [callI_go (fn := c_journal_appendNumber) rfl rfl]
  have k1 : IntKind.wrap .i64 1 = 1 := by decide
  have k0 : IntKind.wrap .i64 0 = 0 := by decide
  have k8 : IntKind.wrap .i64 8 = 8 := by decide
  have km : IntKind.wrap .i64 (-1) = -1 := by decide
  have l1 : E.length + 1 ≤ 70368744177664 := by omega
  have l2 : E.length + 1 + 1 ≤ 70368744177664 := by omega
  simp [c_journal_appendNumber, k1]
  rw [go_loop]
  simp [c_journal_appendNumber_l0, k0, k8, h, l1, wr8u]
  rw [go_loop]
  simp [c_journal_appendNumber_l0, k0, km, look_setl_eq h, l2, wr8u]
  rw [go_loop]
  simp [c_journal_appendNumber_l0, c_journal_appendNumber_k1]
  exact ⟨⟨by rw [ishr8], by rw [ishr0]⟩, setl_setl⟩
theorem anum4 {O : List (Nat × AO)} {N t : Nat} {E : List (List AV)} {v : Int} (h : look t O = some (.tok 1 E.length)) (hE : E.length ≤ 1099511627776) :
    callI Φ f_journal_appendNumber [.app 1 E t, .int .i64 v, .int .i64 4] ⟨O, N⟩ = some (.val (.app 1 (E ++ [[.int .u8 (v / 16777216 % 256)], [.int .u8 (v / 65536 % 256)], [.int .u8 (v / 256 % 256)], [.int .u8 (v % 256)]]) t), ⟨setl t (.tok 1 (E.length + 4)) O, N⟩) := by
  rw [callI_go (fn := c_journal_appendNumber) rfl rfl]
  have k3 : IntKind.wrap .i64 3 = 3 := by decide
  have k2 : IntKind.wrap .i64 2 = 2 := by decide
  have k1 : IntKind.wrap .i64 1 = 1 := by decide
  have k0 : IntKind.wrap .i64 0 = 0 := by decide
  have k8 : IntKind.wrap .i64 8 = 8 := by decide
  have k16 : IntKind.wrap .i64 16 = 16 := by decide
  have k24 : IntKind.wrap .i64 24 = 24 := by decide
  have km : IntKind.wrap .i64 (-1) = -1 := by decide
  have l1 : E.length + 1 ≤ 70368744177664 := by omega
  have l2 : E.length + 1 + 1 ≤ 70368744177664 := by omega
  have l3 : E.length + 1 + 1 + 1 ≤ 70368744177664 := by omega
  have l4 : E.length + 1 + 1 + 1 + 1 ≤ 70368744177664 := by omega
  simp [c_journal_appendNumber, k3]
  rw [go_loop]
  simp [c_journal_appendNumber_l0, k2, k24, h, l1, wr8u]
  rw [go_loop]
  simp [c_journal_appendNumber_l0, k1, k16, look_setl_eq h, l2, wr8u, setl_setl]
  rw [go_loop]
  simp [c_journal_appendNumber_l0, k0, k8, look_setl_eq h, l3, wr8u, setl_setl]
  rw [go_loop]
  simp [c_journal_appendNumber_l0, k0, km, look_setl_eq h, l4, wr8u, setl_setl]
  rw [go_loop]
  simp [c_journal_appendNumber_l0, c_journal_appendNumber_k1]
  exact ⟨by rw [ishr24], by rw [ishr16], by rw [ishr8], by rw [ishr0]⟩
end Go.Av
