/-
  Names, and how a check is abandoned.
-/
import Derived.Test.YtjdbnnnakpacjaaGreatK3b
set_option linter.unusedVariables false
set_option linter.unusedSimpArgs false
set_option linter.constructorNameAsVariable false
namespace Go.Av
set_option maxRecDepth 4000
def tF : Nat := 172
def failV (c p i s : Int) : AV := .iface tF (.agg [.int .i64 c, .int .i64 p, .int .i64 i, .int .i64 s])
theorem failV_eq (c p i s : Int) : AV.iface 172 (.agg [.int .i64 c, .int .i64 p, .int .i64 i, .int .i64 s]) = failV c p i s := rfl
@[simp] theorem failV_flat (c p i s : Int) (n : Nat) : flat (n + 3) (failV c p i s) = true := by simp [failV]
@[simp] theorem failV_snap (c p i s : Int) (n : Nat) (H : AH) : snap (n + 3) H (failV c p i s) = some (failV c p i s) := by simp [failV]
def rtD (o : Option Dg) : Rt := match o with
  | none => .val (.tup [])
  | some d => .pan (failV d.1 d.2.1 d.2.2.1 d.2.2.2)
theorem require_zero (p i s : Int) : pureI Φ f_program_require [.int .i64 0, .int .i64 p, .int .i64 i, .int .i64 s] = some (.val (.tup [])) := by
  rw [pureI_go (fn := c_program_require) rfl rfl]
  simp [c_program_require]
theorem require_pan {c : Int} (h : ¬ c = 0) (p i s : Int) : pureI Φ f_program_require [.int .i64 c, .int .i64 p, .int .i64 i, .int .i64 s] = some (.pan (failV c p i s)) := by
  rw [pureI_go (fn := c_program_require) rfl rfl]
  simp [c_program_require, h, failV, tF]
theorem identifier_ok (s : List UInt8) (hs : s.length < 2 ^ 40) : pureI Φ f_program_identifier [.str s] = some (.val (.bool (!idS s))) := by
  rw [pureI_go (fn := c_program_identifier) rfl rfl]
  simp [c_program_identifier, isIdent_ok s hs]
theorem widthInvalid_ok (w : Int) : pureI Φ f_program_widthInvalid [.int .i64 w] = some (.val (.bool (wBad w))) := by
  rw [pureI_go (fn := c_program_widthInvalid) rfl rfl]
  by_cases h1 : w < 1 <;> simp [c_program_widthInvalid, wBad, h1]
-- the first place of an element
def ix {α : Type} (p : α → Bool) (l : List α) (i : Nat) : Int := (fe (fun k => (l[k]?).bind fun a => if p a then some (k : Int) else none) l.length i).getD (-1)
theorem ix_hit {α : Type} {p : α → Bool} {l : List α} {i : Nat} (hi : i < l.length) (h : p l[i] = true) : ix p l i = i := by
  unfold ix
  rw [fe_hit (x := (i : Int)) hi (by simp [hi, h])]
  rfl
theorem ix_miss {α : Type} {p : α → Bool} {l : List α} {i : Nat} (hi : i < l.length) (h : p l[i] = false) : ix p l i = ix p l (i + 1) := by
  unfold ix
  rw [fe_miss hi (by simp [hi, h])]
theorem ix_end {α : Type} {p : α → Bool} {l : List α} : ix p l l.length = -1 := by
  unfold ix
  rw [fe_end]
  rfl
theorem ix_from {α : Type} {p : α → Bool} {l : List α} : ∀ n i, n + i = l.length → decide (0 ≤ ix p l i) = anyFrom l p i
  | 0, i, h => by
    have : i = l.length := by omega
    subst this
    rw [ix_end, any_end]
    rfl
  | n + 1, i, h => by
    have hi : i < l.length := by omega
    cases q : p l[i] with
    | true => rw [ix_hit hi q, any_hit hi q]; simp
    | false => rw [ix_miss hi q, any_miss hi q]; exact ix_from n (i + 1) (by omega)
theorem ix_any {α : Type} {p : α → Bool} {l : List α} : decide (0 ≤ ix p l 0) = l.any p := by
  rw [ix_from l.length 0 (by omega), any_zero]
theorem indexS_ok (l : List (List UInt8)) (x : List UInt8) (hl : l.length < 2 ^ 40) : pureI Φ f_slices_Index_string_string [.slice 1 (l.map fun s => [.str s]), .str x] = some (.val (.int .i64 (ix (fun s => decide (x = s)) l 0))) := by
  rw [pureI_go (fn := c_slices_Index_string_string) rfl rfl]
  simp [c_slices_Index_string_string]
  refine (loop_nat0 l.length (fun i e => look 0 e = some (.slice 1 (l.map fun s => [.str s])) ∧ look 1 e = some (.str x) ∧ look 6 e = some (.slice 1 (l.map fun s => [.str s])) ∧ look 7 e = some (.int .i64 l.length) ∧ look 8 e = some (.int .i64 i))
    (fun i => some (.val (.int .i64 (ix (fun s => decide (x = s)) l i)))) ?_ ?_ 0 _ (Nat.zero_le _) ?_).trans (by simp)
  · rintro i e L hi hL ⟨h0, h1, h6, h7, h8⟩ ih
    have hw : IntKind.wrap .i64 ((i : Int) + 1) = ((i + 1 : Nat) : Int) := wrap64 (by omega) (by omega)
    by_cases z : x = l[i]
    · rw [ix_hit hi (by simpa using z)]
      simp [c_slices_Index_string_string_l0, h0, h1, h7, h8, hi, ← z]
    · rw [ix_miss hi (by simpa using z)]
      simp [c_slices_Index_string_string_l0, h0, h1, h7, h8, hi, z, hw]
      exact ih _ ⟨by simp [h0], by simp [h1], by simp [h6], by simp [h7], by simp⟩
  · rintro e L hL ⟨h0, h1, h6, h7, h8⟩
    rw [ix_end]
    simp [c_slices_Index_string_string_l0, c_slices_Index_string_string_k1, h7, h8, hL]
  · simp
theorem containsS_ok (l : List (List UInt8)) (x : List UInt8) (hl : l.length < 2 ^ 40) : pureI Φ f_slices_Contains_string_string [.slice 1 (l.map fun s => [.str s]), .str x] = some (.val (.bool (l.any fun s => decide (x = s)))) := by
  rw [pureI_go (fn := c_slices_Contains_string_string) rfl rfl]
  have h := indexS_ok l x hl
  have e := ix_any (p := fun s => decide (x = s)) (l := l)
  simp [c_slices_Contains_string_string, h]
  rw [← e]
theorem repeated_ok {α : Type} (nm : α → List UInt8) (l : List α) (i : Nat) (hi : i < l.length) (hl : l.length < 2 ^ 40) : pureI Φ f_program_repeated [.slice 1 (l.map fun x => [.str (nm x)]), .int .i64 i] = some (.val (.bool (dupN nm l i l[i]))) := by
  rw [pureI_go (fn := c_program_repeated) rfl rfl]
  have h := containsS_ok ((l.map nm).take i) (nm l[i]) (by simp; omega)
  have e : (((l.map nm).take i).any fun s => decide (nm l[i] = s)) = dupN nm l i l[i] := by
    unfold dupN
    rw [← List.map_take, List.any_map]
    congr 1
    funext y
    simp [eq_comm]
  rw [e] at h
  rw [← List.map_take, List.map_map, List.map_take] at h
  have h' : pureI Φ f_slices_Contains_string_string [.slice 1 ((l.map fun x => [AV.str (nm x)]).take i), .str (nm l[i])] = some (.val (.bool (dupN nm l i l[i]))) := h
  have hi' : i ≤ l.length := by omega
  simp [c_program_repeated, hi, hi', h']
theorem headerName_ok (x : Header) : pureI Φ f_program_headerName [.agg (Header.c x)] = some (.val (.str x.name)) := by
  rw [pureI_go (fn := c_program_headerName) rfl rfl]
  simp [c_program_headerName, Header.e]
theorem namesHeader_ok (l : List Header) (hl : l.length < 2 ^ 40) : pureI Φ f_program_names_api_Header [.slice 2 (l.map Header.c), .func (.func f_program_headerName) [] []] = some (.val (.slice 1 (l.map fun x => [.str x.name]))) := by
  rw [pureI_go (fn := c_program_names_api_Header) rfl rfl]
  simp [c_program_names_api_Header]
  refine (loop_nx l.length (fun i => [(0, .tok 1 i)]) 1 (fun i e => look 1 e = some (.func (.func f_program_headerName) [] []) ∧ look 5 e = some (.app 1 ((l.map fun x => [AV.str x.name]).take i) 0) ∧ look 8 e = some (.slice 2 (l.map Header.c)) ∧ look 9 e = some (.int .i64 l.length) ∧ look 10 e = some (.int .i64 i))
    (fun i => some (.val (.slice 1 (l.map fun x => [.str x.name])))) ?_ ?_ 0 _ 1 (Nat.zero_le _) (Nat.le_refl _) ?_).trans (by simp)
  · rintro i e n L hi hL hn ⟨h1, h5, h8, h9, h10⟩ ih
    have hw : IntKind.wrap .i64 ((i : Int) + 1) = ((i + 1 : Nat) : Int) := wrap64 (by omega) (by omega)
    have hn0 : ¬ (0 = n) := by omega
    have hn1 : ¬ (n = 0) := by omega
    have hm : min i l.length = i := by omega
    have hb : (i + 1) * 16 ≤ 70368744177664 := by omega
    have hN := headerName_ok l[i]
    simp only [Header.e] at hN
    simp [c_program_names_api_Header_l0, Header.e, h1, h5, h8, h9, h10, hi, hw, hn0, hm, hb, hN]
    exact ih _ _ (by omega) ⟨by simp [h1], by simp [take_map_succ hi], by simp [h8], by simp [h9], by simp⟩
  · rintro e n L hL hn ⟨h1, h5, h8, h9, h10⟩
    simp [c_program_names_api_Header_l0, c_program_names_api_Header_k1, h5, h9, h10, hL]
  · simp
theorem fieldName_ok (x : Fld) : pureI Φ f_program_fieldName [.agg (Fld.c x)] = some (.val (.str x.name)) := by
  rw [pureI_go (fn := c_program_fieldName) rfl rfl]
  simp [c_program_fieldName, Fld.e]
theorem namesFld_ok (l : List Fld) (hl : l.length < 2 ^ 40) : pureI Φ f_program_names_api_Field [.slice 2 (l.map Fld.c), .func (.func f_program_fieldName) [] []] = some (.val (.slice 1 (l.map fun x => [.str x.name]))) := by
  rw [pureI_go (fn := c_program_names_api_Field) rfl rfl]
  simp [c_program_names_api_Field]
  refine (loop_nx l.length (fun i => [(0, .tok 1 i)]) 1 (fun i e => look 1 e = some (.func (.func f_program_fieldName) [] []) ∧ look 5 e = some (.app 1 ((l.map fun x => [AV.str x.name]).take i) 0) ∧ look 8 e = some (.slice 2 (l.map Fld.c)) ∧ look 9 e = some (.int .i64 l.length) ∧ look 10 e = some (.int .i64 i))
    (fun i => some (.val (.slice 1 (l.map fun x => [.str x.name])))) ?_ ?_ 0 _ 1 (Nat.zero_le _) (Nat.le_refl _) ?_).trans (by simp)
  · rintro i e n L hi hL hn ⟨h1, h5, h8, h9, h10⟩ ih
    have hw : IntKind.wrap .i64 ((i : Int) + 1) = ((i + 1 : Nat) : Int) := wrap64 (by omega) (by omega)
    have hn0 : ¬ (0 = n) := by omega
    have hn1 : ¬ (n = 0) := by omega
    have hm : min i l.length = i := by omega
    have hb : (i + 1) * 16 ≤ 70368744177664 := by omega
    have hN := fieldName_ok l[i]
    simp only [Fld.e] at hN
    simp [c_program_names_api_Field_l0, Fld.e, h1, h5, h8, h9, h10, hi, hw, hn0, hm, hb, hN]
    exact ih _ _ (by omega) ⟨by simp [h1], by simp [take_map_succ hi], by simp [h8], by simp [h9], by simp⟩
  · rintro e n L hL hn ⟨h1, h5, h8, h9, h10⟩
    simp [c_program_names_api_Field_l0, c_program_names_api_Field_k1, h5, h9, h10, hL]
  · simp
theorem registerName_ok (x : Register) : pureI Φ f_program_registerName [.agg (Register.c x)] = some (.val (.str x.name)) := by
  rw [pureI_go (fn := c_program_registerName) rfl rfl]
  simp [c_program_registerName, Register.e]
theorem namesRegister_ok (l : List Register) (hl : l.length < 2 ^ 40) : pureI Φ f_program_names_api_Register [.slice 3 (l.map Register.c), .func (.func f_program_registerName) [] []] = some (.val (.slice 1 (l.map fun x => [.str x.name]))) := by
  rw [pureI_go (fn := c_program_names_api_Register) rfl rfl]
  simp [c_program_names_api_Register]
  refine (loop_nx l.length (fun i => [(0, .tok 1 i)]) 1 (fun i e => look 1 e = some (.func (.func f_program_registerName) [] []) ∧ look 5 e = some (.app 1 ((l.map fun x => [AV.str x.name]).take i) 0) ∧ look 8 e = some (.slice 3 (l.map Register.c)) ∧ look 9 e = some (.int .i64 l.length) ∧ look 10 e = some (.int .i64 i))
    (fun i => some (.val (.slice 1 (l.map fun x => [.str x.name])))) ?_ ?_ 0 _ 1 (Nat.zero_le _) (Nat.le_refl _) ?_).trans (by simp)
  · rintro i e n L hi hL hn ⟨h1, h5, h8, h9, h10⟩ ih
    have hw : IntKind.wrap .i64 ((i : Int) + 1) = ((i + 1 : Nat) : Int) := wrap64 (by omega) (by omega)
    have hn0 : ¬ (0 = n) := by omega
    have hn1 : ¬ (n = 0) := by omega
    have hm : min i l.length = i := by omega
    have hb : (i + 1) * 16 ≤ 70368744177664 := by omega
    have hN := registerName_ok l[i]
    simp only [Register.e] at hN
    simp [c_program_names_api_Register_l0, Register.e, h1, h5, h8, h9, h10, hi, hw, hn0, hm, hb, hN]
    exact ih _ _ (by omega) ⟨by simp [h1], by simp [take_map_succ hi], by simp [h8], by simp [h9], by simp⟩
  · rintro e n L hL hn ⟨h1, h5, h8, h9, h10⟩
    simp [c_program_names_api_Register_l0, c_program_names_api_Register_k1, h5, h9, h10, hL]
  · simp
theorem actionName_ok (x : Action) : pureI Φ f_program_actionName [.agg (Action.c x)] = some (.val (.str x.name)) := by
  rw [pureI_go (fn := c_program_actionName) rfl rfl]
  simp [c_program_actionName, Action.e]
theorem namesAction_ok (l : List Action) (hl : l.length < 2 ^ 40) : pureI Φ f_program_names_api_Action [.slice 3 (l.map Action.c), .func (.func f_program_actionName) [] []] = some (.val (.slice 1 (l.map fun x => [.str x.name]))) := by
  rw [pureI_go (fn := c_program_names_api_Action) rfl rfl]
  simp [c_program_names_api_Action]
  refine (loop_nx l.length (fun i => [(0, .tok 1 i)]) 1 (fun i e => look 1 e = some (.func (.func f_program_actionName) [] []) ∧ look 5 e = some (.app 1 ((l.map fun x => [AV.str x.name]).take i) 0) ∧ look 8 e = some (.slice 3 (l.map Action.c)) ∧ look 9 e = some (.int .i64 l.length) ∧ look 10 e = some (.int .i64 i))
    (fun i => some (.val (.slice 1 (l.map fun x => [.str x.name])))) ?_ ?_ 0 _ 1 (Nat.zero_le _) (Nat.le_refl _) ?_).trans (by simp)
  · rintro i e n L hi hL hn ⟨h1, h5, h8, h9, h10⟩ ih
    have hw : IntKind.wrap .i64 ((i : Int) + 1) = ((i + 1 : Nat) : Int) := wrap64 (by omega) (by omega)
    have hn0 : ¬ (0 = n) := by omega
    have hn1 : ¬ (n = 0) := by omega
    have hm : min i l.length = i := by omega
    have hb : (i + 1) * 16 ≤ 70368744177664 := by omega
    have hN := actionName_ok l[i]
    simp only [Action.e] at hN
    simp [c_program_names_api_Action_l0, Action.e, h1, h5, h8, h9, h10, hi, hw, hn0, hm, hb, hN]
    exact ih _ _ (by omega) ⟨by simp [h1], by simp [take_map_succ hi], by simp [h8], by simp [h9], by simp⟩
  · rintro e n L hL hn ⟨h1, h5, h8, h9, h10⟩
    simp [c_program_names_api_Action_l0, c_program_names_api_Action_k1, h5, h9, h10, hL]
  · simp
theorem tableName_ok (x : Tbl) : pureI Φ f_program_tableName [.agg (Tbl.c x)] = some (.val (.str x.name)) := by
  rw [pureI_go (fn := c_program_tableName) rfl rfl]
  simp [c_program_tableName, Tbl.e]
theorem namesTbl_ok (l : List Tbl) (hl : l.length < 2 ^ 40) : pureI Φ f_program_names_api_Table [.slice 6 (l.map Tbl.c), .func (.func f_program_tableName) [] []] = some (.val (.slice 1 (l.map fun x => [.str x.name]))) := by
  rw [pureI_go (fn := c_program_names_api_Table) rfl rfl]
  simp [c_program_names_api_Table]
  refine (loop_nx l.length (fun i => [(0, .tok 1 i)]) 1 (fun i e => look 1 e = some (.func (.func f_program_tableName) [] []) ∧ look 5 e = some (.app 1 ((l.map fun x => [AV.str x.name]).take i) 0) ∧ look 8 e = some (.slice 6 (l.map Tbl.c)) ∧ look 9 e = some (.int .i64 l.length) ∧ look 10 e = some (.int .i64 i))
    (fun i => some (.val (.slice 1 (l.map fun x => [.str x.name])))) ?_ ?_ 0 _ 1 (Nat.zero_le _) (Nat.le_refl _) ?_).trans (by simp)
  · rintro i e n L hi hL hn ⟨h1, h5, h8, h9, h10⟩ ih
    have hw : IntKind.wrap .i64 ((i : Int) + 1) = ((i + 1 : Nat) : Int) := wrap64 (by omega) (by omega)
    have hn0 : ¬ (0 = n) := by omega
    have hn1 : ¬ (n = 0) := by omega
    have hm : min i l.length = i := by omega
    have hb : (i + 1) * 16 ≤ 70368744177664 := by omega
    have hN := tableName_ok l[i]
    simp only [Tbl.e] at hN
    simp [c_program_names_api_Table_l0, Tbl.e, h1, h5, h8, h9, h10, hi, hw, hn0, hm, hb, hN]
    exact ih _ _ (by omega) ⟨by simp [h1], by simp [take_map_succ hi], by simp [h8], by simp [h9], by simp⟩
  · rintro e n L hL hn ⟨h1, h5, h8, h9, h10⟩
    simp [c_program_names_api_Table_l0, c_program_names_api_Table_k1, h5, h9, h10, hL]
  · simp
end Go.Av
