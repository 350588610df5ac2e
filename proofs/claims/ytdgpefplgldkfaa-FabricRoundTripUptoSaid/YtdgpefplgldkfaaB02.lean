/-
  Lemmas for the law.
-/
import Derived.Test.YtdgpefplgldkfaaPV46
import Derived.Test.YtdgpefplgldkfaaE7
set_option linter.unusedVariables false
set_option linter.unusedSimpArgs false
set_option linter.constructorNameAsVariable false
namespace Go.Av
set_option maxRecDepth 8000
-- heaps of which only a part is known
theorem look_setl_same {t : Nat} {x y : AO} {l : List (Nat × AO)} (h : look t l = some x) : look t (setl t y l) = some y := by
  rw [look_setl, if_pos rfl, h]; rfl
theorem setl_setl {t : Nat} {x y : AO} : ∀ {l : List (Nat × AO)}, setl t y (setl t x l) = setl t y l
  | [] => rfl
  | (u, z) :: r => by
    by_cases h : u = t
    · subst h; simp
    · simp [h, setl_setl (l := r)]
theorem setl_self {t : Nat} {x : AO} : ∀ {l : List (Nat × AO)}, look t l = some x → setl t x l = l
  | [], _ => rfl
  | (u, z) :: r, h => by
    by_cases hu : u = t
    · subst hu; simp at h; subst h; simp
    · simp [hu] at h ⊢; exact setl_self h

theorem Reader_valid_ok (d p : AV) : pureI Φ f_bitio_Reader_valid [.iptr 3 [[d, p, .bool true]] 0 0] = some (.val (.bool true)) := by
  rw [pureI_go (fn := c_bitio_Reader_valid) rfl rfl]
  simp [c_bitio_Reader_valid]
theorem Reader_Remaining_ok (data : List (List AV)) (pos : Nat) (hd : data.length < 1099511627776) (hp : pos ≤ 8 * data.length) : pureI Φ f_bitio_Reader_Remaining [.iptr 3 [[.slice 1 data, .int .i64 pos, .bool true]] 0 0] = some (.val (.int .i64 ((8 * data.length - pos : Nat) : Int))) := by
  rw [pureI_go (fn := c_bitio_Reader_Remaining) rfl rfl]
  have e1 : IntKind.wrap .i64 (8 * (data.length : Int)) = 8 * (data.length : Int) := wrap64 (by omega) (by omega)
  have e2 : IntKind.wrap .i64 (8 * (data.length : Int) - pos) = ((8 * data.length - pos : Nat) : Int) := by rw [wrap64 (by omega) (by omega)]; omega
  simp [c_bitio_Reader_Remaining, Reader_valid_ok, e1, e2]
-- the first k bits of a byte
def bitsF (b : Nat) (k : Nat) : Nat := b / 2 ^ (8 - k)
theorem bitsF_step : ∀ b : Fin 256, ∀ k : Fin 8, ior .u32 (ishl .u32 ((bitsF b.1 k.1 : Nat) : Int) 1) (IntKind.wrap .u32 (iand .u8 (ishr .u8 ((b.1 : Nat) : Int) (7 - ((k.1 : Nat) : Int))) 1)) = ((bitsF b.1 (k.1 + 1) : Nat) : Int) := by decide +kernel
def rdr (data : List Int) (t pos : Nat) : AO := .row 3 [[.app 1 (data.map c8) t, .int .i64 pos, .bool true]]
theorem ReadBits_ok (objs : List (Nat × AO)) (n id t pos q b : Nat) (data : List Int) (hn : look id objs = some (rdr data t q)) (hq : q = 8 * pos) (hp : data[pos]? = some (b : Int)) (hb : b < 256) (hd : data.length < 1099511627776) :
    callI Φ f_bitio_Reader_ReadBits [.ptr id 3 0 0, .int .i64 8] ⟨objs, n⟩ = some (.val (.tup [.int .u32 b, .int .i64 0]), ⟨setl id (rdr data t (q + 8)) objs, n⟩) := by
  rw [callI_go (fn := c_bitio_Reader_ReadBits) rfl rfl]
  obtain ⟨hp1, hp2⟩ := List.getElem?_eq_some_iff.1 hp
  have hr := Reader_Remaining_ok (data.map c8) q (by simpa using hd) (by simp; omega)
  have hle : ¬ 8 * data.length - q < 8 := by omega
  have hn' := hn
  unfold rdr at hn'
  simp only [List.length_map] at hr
  simp [c_bitio_Reader_ReadBits, hn', Reader_valid_ok, hr, hle]
  obtain ⟨R, hR⟩ : ∃ R, R = some (Rt.val (.tup [.int .u32 (b : Nat), .int .i64 0]), (⟨setl id (rdr data t (q + 8)) objs, n⟩ : AH)) := ⟨_, rfl⟩
  rw [← hR]
  refine (loop_nat 8 (fun k e h => look 0 e = some (.ptr id 3 0 0) ∧ look 6 e = some (.int .u32 (bitsF b k : Nat)) ∧ look 24 e = some (.int .i64 8) ∧ look 25 e = some (.int .i64 k) ∧ h = ⟨setl id (rdr data t (q + k)) objs, n⟩)
    (fun k => R) ?_ ?_ 0 _ _ (Nat.zero_le _) ?_)
  · rintro k e _ L hk hL ⟨h0, h6, h24, h25, rfl⟩ ih
    have hs : look id (setl id (rdr data t (q + k)) objs) = some (rdr data t (q + k)) := look_setl_same hn
    have hb8 := bitsF_step ⟨b, hb⟩ ⟨k, hk⟩
    simp only at hb8
    have hw : IntKind.wrap .i64 ((k : Int) + 1) = ((k + 1 : Nat) : Int) := wrap64 (by omega) (by omega)
    have hw2 : IntKind.wrap .i64 (((q + k : Nat) : Int) + 1) = ((q + (k + 1) : Nat) : Int) := by rw [wrap64 (by omega) (by omega)]; omega
    have d1 : IntKind.wrap .i64 (((q + k : Nat) : Int) / 8) = (pos : Int) := by
      have : ((q + k : Nat) : Int) / 8 = (((q + k) / 8 : Nat) : Int) := rfl
      rw [this, show (q + k) / 8 = pos by omega, wrap64 (by omega) (by omega)]
    have d2 : IntKind.wrap .i64 (7 - ((q + k : Nat) : Int).tmod 8) = 7 - (k : Int) := by
      have : ((q + k : Nat) : Int).tmod 8 = (((q + k) % 8 : Nat) : Int) := rfl
      rw [this, show (q + k) % 8 = k by omega, wrap64 (by omega) (by omega)]
    have d3 : k ≤ 7 := by omega
    generalize hQ : (q + k : Nat) = Q at hs d1 d2 hw2 ⊢
    have hs' := hs
    unfold rdr at hs'
    simp [c_bitio_Reader_ReadBits_l0, rdr, c8, h0, h6, h24, h25, hk, hL, hs', hw, hw2, d1, d2, d3, hp1, hp2, hb8, setl_setl]

    refine ih _ _ ⟨by simp [h0], by simp, by simp [h24], by simp, ?_⟩
    simp [rdr]
  · rintro e _ L hL ⟨h0, h6, h24, h25, rfl⟩
    rw [hR]
    simp [c_bitio_Reader_ReadBits_l0, c_bitio_Reader_ReadBits_k1, h0, h6, h24, h25, hL, bitsF]
  · have hb0 : bitsF b 0 = 0 := by unfold bitsF; omega
    simp [hb0, setl_self hn]
end Go.Av
