/-
  The reference's Insert, Modify, Delete, SetDefault.
-/
import Derived.Test.YtjdbnnnakpacjaaGreatR1
import Derived.Test.YtjdbnnnakpacjaaGreatH12
set_option linter.unusedVariables false
set_option linter.unusedSimpArgs false
set_option linter.constructorNameAsVariable false
namespace Go.Av
set_option maxRecDepth 4000
theorem rIx_none {l : List Rw} {id : Int} (h : rIdx l id = none) : rIx l id = -1 := by simp [rIx, h]
theorem rIx_some {l : List Rw} {id : Int} {i : Nat} (h : rIdx l id = some i) : rIx l id = i := by simp [rIx, h]
section
variable {p : Prg} (f : PrgS p) (hv : ∀ t ∈ p.tables, ∀ v ∈ t.dflt.args, ok32 0 v) {c : Config} (v : CfgV p c) (s : CfgT c) (t : Int)
include f hv v s
theorem rInsert_ok (x : Entry) (hx : EntS x) : pureI Φ f_ref25_Insert [.agg (Prg.c p), .agg (Config.c c), .int .i64 t, .agg (Entry.c x)] =
    some (.val (.tup [.agg (Config.c (if insE p c t x = 0 then insC c t x else c)), .int .i64 (if insE p c t x = 0 then nextAt c t else 0), .int .i64 (insE p c t x)])) := by
  rw [pureI_go (fn := c_ref25_Insert) rfl rfl]
  have he := rentE_ok p f hv t x hx
  simp only [Prg.e, Entry.ce] at he
  by_cases z0 : t < 0
  · have hE : insE p c t x = 8 := by simp [insE, inT]; omega
    simp [c_ref25_Insert, Prg.e, Config.ce, Entry.ce, hE, z0]
  by_cases z1 : (p.tables.length : Int) ≤ t
  · have hE : insE p c t x = 8 := by simp [insE, inT]; omega
    simp [c_ref25_Insert, Prg.e, Config.ce, Entry.ce, hE, z0, z1]
  obtain ⟨k, rfl⟩ : ∃ k : Nat, t = k := ⟨t.toNat, by omega⟩
  have hk : k < p.tables.length := by omega
  have hk1 : k < c.rows.length := by rw [v.rl]; exact hk
  have hk2 : k < c.nextID.length := by rw [v.nl]; exact hk
  have hi := inT_nat hk
  have hkn : ¬ p.tables.length ≤ k := by omega
  have hrow : rowsAt c (k : Int) = c.rows[k] := rowsAt_nat hk1
  have hnx : nextAt c (k : Int) = c.nextID[k] := nextAt_nat hk2
  have hsz : sizeAt p (k : Int) = p.tables[k].size := sizeAt_nat hk
  have hE : insE p c k x = if entE p k x ≠ 0 then entE p k x else if (c.rows[k].any fun y => sk y.entry x) = true then 7 else if p.tables[k].size ≤ c.rows[k].length ∨ 1073741824 ≤ c.nextID[k] then 13 else 0 := by
    unfold insE
    rw [hi, hrow, hnx, hsz]
    simp
  by_cases y : entE p k x = 0
  rotate_left
  · rw [if_pos y] at hE
    simp [c_ref25_Insert, Prg.e, Config.ce, Entry.ce, hE, hkn, he, y]
  rw [if_neg (by simpa using y)] at hE
  rw [y] at he
  have hsl := s.rs _ (List.getElem_mem hk1)
  have htk := taken_ok c.rows[k] x hsl.1 fun r hr => (hsl.2 r hr).kl
  simp only [Entry.ce] at htk
  cases w : c.rows[k].any fun y => sk y.entry x with
  | true =>
    rw [if_pos w] at hE
    rw [w] at htk
    simp [c_ref25_Insert, Prg.e, Config.ce, cSe, Entry.ce, hE, hkn, hk1, he, htk]
  | false =>
  rw [if_neg (by rw [w]; decide)] at hE
  rw [w] at htk
  by_cases u : p.tables[k].size ≤ c.rows[k].length
  · rw [if_pos (.inl u)] at hE
    simp [c_ref25_Insert, Prg.e, Config.ce, cSe, Tbl.e, Entry.ce, hE, hk, hkn, hk1, he, htk, u]
  by_cases q : 1073741824 ≤ c.nextID[k]
  · rw [if_pos (.inr q)] at hE
    simp [c_ref25_Insert, Prg.e, Config.ce, cSe, cIe, Tbl.e, Entry.ce, hE, hk, hkn, hk1, hk2, he, htk, u, q]
  rw [if_neg (by omega)] at hE
  have hvt := v.at hk
  have hrp := rreplace_ok c k (c.rows[k] ++ [⟨c.nextID[k], x⟩]) (c.nextID[k] + 1) hk1 (by rw [v.nl, v.rl]) (by have := s.rl; omega)
  have hw : IntKind.wrap .i64 (c.nextID[k] + 1) = c.nextID[k] + 1 := wrap64 (by have := hvt.nx0; omega) (by omega)
  have hci : insC c (k : Int) x = ⟨c.rows.set k (c.rows[k] ++ [⟨c.nextID[k], x⟩]), c.nextID.set k (c.nextID[k] + 1), c.defaults, c.registers⟩ := by
    unfold insC
    rw [hrow, hnx]
    simp
  rw [hE, if_pos rfl, if_pos rfl, hci, hnx]
  generalize hR : Config.c ⟨c.rows.set k (c.rows[k] ++ [⟨c.nextID[k], x⟩]), c.nextID.set k (c.nextID[k] + 1), c.defaults, c.registers⟩ = R at hrp ⊢
  have hRl : R.length = 4 := by rw [← hR]; simp
  obtain ⟨r0, r1, r2, r3, rfl⟩ : ∃ r0 r1 r2 r3, R = [r0, r1, r2, r3] := by
    match R, hRl with
    | [r0, r1, r2, r3], _ => exact ⟨_, _, _, _, rfl⟩
  have hs0 : ∀ H : AH, snap 38 H r0 = some r0 ∧ snap 38 H r1 = some r1 ∧ snap 38 H r2 = some r2 ∧ snap 38 H r3 = some r3 := by
    intro H
    rw [Config.ce] at hR
    cases hR
    simp
  have hal : allLen 5 (c.rows[k].map Rw.c) = true := allLen_map 5 Rw.c _ fun x => by simp
  have hls := v.small _ (List.getElem_mem hk1)
  have b1 : c.rows[k].length * 72 ≤ 70368744177664 := by omega
  have b2 : (c.rows[k].length + 1) * 72 ≤ 70368744177664 := by omega
  simp only [Config.ce, List.map_append, List.map_cons, List.map_nil, Rw.ce] at hrp
  simp [c_ref25_Insert, Prg.e, Config.ce, cSe, cIe, Tbl.e, Entry.ce, hk, hkn, hk1, hk2, he, htk, u, q, hal, b1, b2, hw, hrp, hs0]
end
end Go.Av
