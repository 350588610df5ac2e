/-
  Lemmas for the law.
-/
import Derived.Test.YtgnlablpigoioaaGreatW25
import Derived.Test.YtgnlablpigoioaaGreatAvD
set_option linter.unusedVariables false
set_option linter.unusedSimpArgs false
set_option linter.constructorNameAsVariable false
namespace Go.Av
set_option maxRecDepth 4000
@[ext] structure Call where
  kind : Int
  table : Int
  id : Int
  entry : Entry
  call : ActionCall
  key : List Int
  deriving DecidableEq, Inhabited
def Call.c (x : Call) : List AV := [.int .i64 x.kind, .int .i64 x.table, .int .i64 x.id, .slice 2 (x.entry.keys.map KeyMatch.c), .int .i64 x.entry.priority, .int .i64 x.entry.call.action, .slice 1 (x.entry.call.args.map c32), .int .i64 x.call.action, .slice 1 (x.call.args.map c32), .slice 1 (x.key.map c32)]
@[simp] theorem Call.c_length (x : Call) : (Call.c x).length = 10 := by simp [Call.c]
def Call.Ok (B : Nat) (x : Call) : Prop := okI B x.kind ∧ okI B x.table ∧ okI B x.id ∧ Entry.Ok B x.entry ∧ ActionCall.Ok B x.call ∧ okL B (ok32 B) x.key
theorem Call.rd {P : Go.Program} {B : Nat} {t : TypeId} {f0 f1 f2 f3 f4 f5 : Go.Field} (hu : P.underlying t = some (.struct #[f0, f1, f2, f3, f4, f5])) (h0 : Rd P B f0.type cI (okI B)) (h1 : Rd P B f1.type cI (okI B)) (h2 : Rd P B f2.type cI (okI B)) (h3 : Rd P B f3.type Entry.c (Entry.Ok B)) (h4 : Rd P B f4.type ActionCall.c (ActionCall.Ok B)) (h5 : Rd P B f5.type (cS 1 c32) (okL B (ok32 B))) : Rd P B t Call.c (Call.Ok B) := by
  intro xs hx
  obtain ⟨xss, rfl, hl, hh⟩ := wt_struct hu hx
  match xss, hl, hh with
  | [a0, a1, a2, a3, a4, a5], _, hh =>
    obtain ⟨y0, rfl, o0⟩ := h0 a0 (hh 0 _ _ rfl rfl)
    obtain ⟨y1, rfl, o1⟩ := h1 a1 (hh 1 _ _ rfl rfl)
    obtain ⟨y2, rfl, o2⟩ := h2 a2 (hh 2 _ _ rfl rfl)
    obtain ⟨y3, rfl, o3⟩ := h3 a3 (hh 3 _ _ rfl rfl)
    obtain ⟨y4, rfl, o4⟩ := h4 a4 (hh 4 _ _ rfl rfl)
    obtain ⟨y5, rfl, o5⟩ := h5 a5 (hh 5 _ _ rfl rfl)
    exact ⟨⟨y0, y1, y2, y3, y4, y5⟩, by simp [Call.c, ActionCall.c, Entry.c, cI, cS], ⟨o0, o1, o2, o3, o4, o5⟩⟩

section
variable {O : List (Nat × AO)} {n : Nat}
theorem Ins_nil (hn : look n O = none) (t : AV) (cs : List AV) : callI Φ f_store_Store_Insert [.nilptr, t, .agg cs] ⟨O, n⟩ = some (.val (.tup [.int .i64 0, .int .i64 1]), ⟨O ++ [(n, .row cs.length [cs])], n + 1⟩) := by
  rw [callI_go (fn := c_store_Store_Insert) rfl rfl]
  simp [c_store_Store_Insert, hn]
theorem Look_nil (hn : look n O = none) (t k : AV) : callI Φ f_store_Store_Lookup [.nilptr, t, k] ⟨O, n⟩ = some (.val (.tup [.agg [.int .i64 0, .fslice 2 [], .int .i64 0, .int .i64 0, .fslice 1 []], .bool false]), ⟨O ++ [(n, .row 5 [[.int .i64 0, .fslice 2 [], .int .i64 0, .int .i64 0, .fslice 1 []]])], n + 1⟩) := by
  rw [callI_go (fn := c_store_Store_Lookup) rfl rfl]
  simp [c_store_Store_Lookup, hn]
theorem Cfg_nil (hn : look n O = none) : callI Φ f_store_Store_Config [.nilptr] ⟨O, n⟩ = some (.val (.agg [.fslice 1 [], .fslice 1 [], .fslice 2 [], .fslice 1 []]), ⟨O ++ [(n, .row 4 [[.fslice 1 [], .fslice 1 [], .fslice 2 [], .fslice 1 []]])], n + 1⟩) := by
  rw [callI_go (fn := c_store_Store_Config) rfl rfl]
  simp [c_store_Store_Config, hn]
theorem row_nil (t i : AV) : callI Φ f_store_Store_row [.nilptr, t, i] ⟨O, n⟩ = some (.val (.tup [.int .i64 0, .int .i64 1]), ⟨O, n⟩) := by
  rw [callI_go (fn := c_store_Store_row) rfl rfl]
  simp [c_store_Store_row]
theorem Mod_nil (hn : look n O = none) (t i : AV) (cs : List AV) : callI Φ f_store_Store_Modify [.nilptr, t, i, .agg cs] ⟨O, n⟩ = some (.val (.int .i64 1), ⟨O ++ [(n, .row cs.length [cs])], n + 1⟩) := by
  rw [callI_go (fn := c_store_Store_Modify) rfl rfl]
  simp [c_store_Store_Modify, hn, row_nil]
theorem Del_nil (t i : AV) : callI Φ f_store_Store_Delete [.nilptr, t, i] ⟨O, n⟩ = some (.val (.int .i64 1), ⟨O, n⟩) := by
  rw [callI_go (fn := c_store_Store_Delete) rfl rfl]
  simp [c_store_Store_Delete, row_nil]
theorem Def_nil (hn : look n O = none) (t : AV) (cs : List AV) : callI Φ f_store_Store_SetDefault [.nilptr, t, .agg cs] ⟨O, n⟩ = some (.val (.int .i64 1), ⟨O ++ [(n, .row cs.length [cs])], n + 1⟩) := by
  rw [callI_go (fn := c_store_Store_SetDefault) rfl rfl]
  simp [c_store_Store_SetDefault, hn]
theorem Len_nil (t : AV) : callI Φ f_store_Store_Len [.nilptr, t] ⟨O, n⟩ = some (.val (.int .i64 0), ⟨O, n⟩) := by
  rw [callI_go (fn := c_store_Store_Len) rfl rfl]
  simp [c_store_Store_Len]
theorem Cln_nil : callI Φ f_store_Store_Clone [.nilptr] ⟨O, n⟩ = some (.val .nilptr, ⟨O, n⟩) := by
  rw [callI_go (fn := c_store_Store_Clone) rfl rfl]
  simp [c_store_Store_Clone]
theorem Ins_zer {p : Nat} (hp : look p O = some (.row 15 [[.fslice 1 [], .fslice 1 [], .fslice 2 [], .fslice 1 [], .str [], .fslice 2 [], .fslice 2 [], .fslice 3 [], .fslice 3 [], .fslice 6 [], .fslice 7 [], .fslice 5 [], .fslice 1 [], .fslice 1 [], .bool false]])) (hn : look n O = none) (t : AV) (cs : List AV) : callI Φ f_store_Store_Insert [.ptr p 15 0 0, t, .agg cs] ⟨O, n⟩ = some (.val (.tup [.int .i64 0, .int .i64 1]), ⟨O ++ [(n, .row cs.length [cs])], n + 1⟩) := by
  have hq : ∀ r, look p (O ++ r) = some (.row 15 [[.fslice 1 [], .fslice 1 [], .fslice 2 [], .fslice 1 [], .str [], .fslice 2 [], .fslice 2 [], .fslice 3 [], .fslice 3 [], .fslice 6 [], .fslice 7 [], .fslice 5 [], .fslice 1 [], .fslice 1 [], .bool false]]) := fun r => by rw [look_append2, hp]; rfl
  rw [callI_go (fn := c_store_Store_Insert) rfl rfl]
  simp [c_store_Store_Insert, hp, hq, hn]
theorem Look_zer {p : Nat} (hp : look p O = some (.row 15 [[.fslice 1 [], .fslice 1 [], .fslice 2 [], .fslice 1 [], .str [], .fslice 2 [], .fslice 2 [], .fslice 3 [], .fslice 3 [], .fslice 6 [], .fslice 7 [], .fslice 5 [], .fslice 1 [], .fslice 1 [], .bool false]])) (hn : look n O = none) (t k : AV) : callI Φ f_store_Store_Lookup [.ptr p 15 0 0, t, k] ⟨O, n⟩ = some (.val (.tup [.agg [.int .i64 0, .fslice 2 [], .int .i64 0, .int .i64 0, .fslice 1 []], .bool false]), ⟨O ++ [(n, .row 5 [[.int .i64 0, .fslice 2 [], .int .i64 0, .int .i64 0, .fslice 1 []]])], n + 1⟩) := by
  have hq : ∀ r, look p (O ++ r) = some (.row 15 [[.fslice 1 [], .fslice 1 [], .fslice 2 [], .fslice 1 [], .str [], .fslice 2 [], .fslice 2 [], .fslice 3 [], .fslice 3 [], .fslice 6 [], .fslice 7 [], .fslice 5 [], .fslice 1 [], .fslice 1 [], .bool false]]) := fun r => by rw [look_append2, hp]; rfl
  rw [callI_go (fn := c_store_Store_Lookup) rfl rfl]
  simp [c_store_Store_Lookup, hp, hq, hn]
theorem Cfg_zer {p : Nat} (hp : look p O = some (.row 15 [[.fslice 1 [], .fslice 1 [], .fslice 2 [], .fslice 1 [], .str [], .fslice 2 [], .fslice 2 [], .fslice 3 [], .fslice 3 [], .fslice 6 [], .fslice 7 [], .fslice 5 [], .fslice 1 [], .fslice 1 [], .bool false]])) (hn : look n O = none) : callI Φ f_store_Store_Config [.ptr p 15 0 0] ⟨O, n⟩ = some (.val (.agg [.fslice 1 [], .fslice 1 [], .fslice 2 [], .fslice 1 []]), ⟨O ++ [(n, .row 4 [[.fslice 1 [], .fslice 1 [], .fslice 2 [], .fslice 1 []]])], n + 1⟩) := by
  have hq : ∀ r, look p (O ++ r) = some (.row 15 [[.fslice 1 [], .fslice 1 [], .fslice 2 [], .fslice 1 [], .str [], .fslice 2 [], .fslice 2 [], .fslice 3 [], .fslice 3 [], .fslice 6 [], .fslice 7 [], .fslice 5 [], .fslice 1 [], .fslice 1 [], .bool false]]) := fun r => by rw [look_append2, hp]; rfl
  rw [callI_go (fn := c_store_Store_Config) rfl rfl]
  simp [c_store_Store_Config, hp, hq, hn]
theorem row_zer {p : Nat} (hp : look p O = some (.row 15 [[.fslice 1 [], .fslice 1 [], .fslice 2 [], .fslice 1 [], .str [], .fslice 2 [], .fslice 2 [], .fslice 3 [], .fslice 3 [], .fslice 6 [], .fslice 7 [], .fslice 5 [], .fslice 1 [], .fslice 1 [], .bool false]])) (t i : AV) : callI Φ f_store_Store_row [.ptr p 15 0 0, t, i] ⟨O, n⟩ = some (.val (.tup [.int .i64 0, .int .i64 1]), ⟨O, n⟩) := by
  have hq : ∀ r, look p (O ++ r) = some (.row 15 [[.fslice 1 [], .fslice 1 [], .fslice 2 [], .fslice 1 [], .str [], .fslice 2 [], .fslice 2 [], .fslice 3 [], .fslice 3 [], .fslice 6 [], .fslice 7 [], .fslice 5 [], .fslice 1 [], .fslice 1 [], .bool false]]) := fun r => by rw [look_append2, hp]; rfl
  rw [callI_go (fn := c_store_Store_row) rfl rfl]
  simp [c_store_Store_row, hp, hq]
theorem Mod_zer {p : Nat} (hp : look p O = some (.row 15 [[.fslice 1 [], .fslice 1 [], .fslice 2 [], .fslice 1 [], .str [], .fslice 2 [], .fslice 2 [], .fslice 3 [], .fslice 3 [], .fslice 6 [], .fslice 7 [], .fslice 5 [], .fslice 1 [], .fslice 1 [], .bool false]])) (hn : look n O = none) (t i : AV) (cs : List AV) : callI Φ f_store_Store_Modify [.ptr p 15 0 0, t, i, .agg cs] ⟨O, n⟩ = some (.val (.int .i64 1), ⟨O ++ [(n, .row cs.length [cs])], n + 1⟩) := by
  have hq : ∀ r, look p (O ++ r) = some (.row 15 [[.fslice 1 [], .fslice 1 [], .fslice 2 [], .fslice 1 [], .str [], .fslice 2 [], .fslice 2 [], .fslice 3 [], .fslice 3 [], .fslice 6 [], .fslice 7 [], .fslice 5 [], .fslice 1 [], .fslice 1 [], .bool false]]) := fun r => by rw [look_append2, hp]; rfl
  have hr := row_zer (n := n + 1) (hq [(n, .row cs.length [cs])]) t i
  rw [callI_go (fn := c_store_Store_Modify) rfl rfl]
  simp [c_store_Store_Modify, hp, hq, hn, hr]
theorem Del_zer {p : Nat} (hp : look p O = some (.row 15 [[.fslice 1 [], .fslice 1 [], .fslice 2 [], .fslice 1 [], .str [], .fslice 2 [], .fslice 2 [], .fslice 3 [], .fslice 3 [], .fslice 6 [], .fslice 7 [], .fslice 5 [], .fslice 1 [], .fslice 1 [], .bool false]])) (t i : AV) : callI Φ f_store_Store_Delete [.ptr p 15 0 0, t, i] ⟨O, n⟩ = some (.val (.int .i64 1), ⟨O, n⟩) := by
  have hq : ∀ r, look p (O ++ r) = some (.row 15 [[.fslice 1 [], .fslice 1 [], .fslice 2 [], .fslice 1 [], .str [], .fslice 2 [], .fslice 2 [], .fslice 3 [], .fslice 3 [], .fslice 6 [], .fslice 7 [], .fslice 5 [], .fslice 1 [], .fslice 1 [], .bool false]]) := fun r => by rw [look_append2, hp]; rfl
  have hr := row_zer (n := n) hp t i
  rw [callI_go (fn := c_store_Store_Delete) rfl rfl]
  simp [c_store_Store_Delete, hp, hq, hr]
theorem Def_zer {p : Nat} (hp : look p O = some (.row 15 [[.fslice 1 [], .fslice 1 [], .fslice 2 [], .fslice 1 [], .str [], .fslice 2 [], .fslice 2 [], .fslice 3 [], .fslice 3 [], .fslice 6 [], .fslice 7 [], .fslice 5 [], .fslice 1 [], .fslice 1 [], .bool false]])) (hn : look n O = none) (t : AV) (cs : List AV) : callI Φ f_store_Store_SetDefault [.ptr p 15 0 0, t, .agg cs] ⟨O, n⟩ = some (.val (.int .i64 1), ⟨O ++ [(n, .row cs.length [cs])], n + 1⟩) := by
  have hq : ∀ r, look p (O ++ r) = some (.row 15 [[.fslice 1 [], .fslice 1 [], .fslice 2 [], .fslice 1 [], .str [], .fslice 2 [], .fslice 2 [], .fslice 3 [], .fslice 3 [], .fslice 6 [], .fslice 7 [], .fslice 5 [], .fslice 1 [], .fslice 1 [], .bool false]]) := fun r => by rw [look_append2, hp]; rfl
  rw [callI_go (fn := c_store_Store_SetDefault) rfl rfl]
  simp [c_store_Store_SetDefault, hp, hq, hn]
theorem Len_zer {p : Nat} (hp : look p O = some (.row 15 [[.fslice 1 [], .fslice 1 [], .fslice 2 [], .fslice 1 [], .str [], .fslice 2 [], .fslice 2 [], .fslice 3 [], .fslice 3 [], .fslice 6 [], .fslice 7 [], .fslice 5 [], .fslice 1 [], .fslice 1 [], .bool false]])) (t : AV) : callI Φ f_store_Store_Len [.ptr p 15 0 0, t] ⟨O, n⟩ = some (.val (.int .i64 0), ⟨O, n⟩) := by
  have hq : ∀ r, look p (O ++ r) = some (.row 15 [[.fslice 1 [], .fslice 1 [], .fslice 2 [], .fslice 1 [], .str [], .fslice 2 [], .fslice 2 [], .fslice 3 [], .fslice 3 [], .fslice 6 [], .fslice 7 [], .fslice 5 [], .fslice 1 [], .fslice 1 [], .bool false]]) := fun r => by rw [look_append2, hp]; rfl
  rw [callI_go (fn := c_store_Store_Len) rfl rfl]
  simp [c_store_Store_Len, hp, hq]
theorem Cln_zer {p : Nat} (hp : look p O = some (.row 15 [[.fslice 1 [], .fslice 1 [], .fslice 2 [], .fslice 1 [], .str [], .fslice 2 [], .fslice 2 [], .fslice 3 [], .fslice 3 [], .fslice 6 [], .fslice 7 [], .fslice 5 [], .fslice 1 [], .fslice 1 [], .bool false]])) : callI Φ f_store_Store_Clone [.ptr p 15 0 0] ⟨O, n⟩ = some (.val .nilptr, ⟨O, n⟩) := by
  have hq : ∀ r, look p (O ++ r) = some (.row 15 [[.fslice 1 [], .fslice 1 [], .fslice 2 [], .fslice 1 [], .str [], .fslice 2 [], .fslice 2 [], .fslice 3 [], .fslice 3 [], .fslice 6 [], .fslice 7 [], .fslice 5 [], .fslice 1 [], .fslice 1 [], .bool false]]) := fun r => by rw [look_append2, hp]; rfl
  rw [callI_go (fn := c_store_Store_Clone) rfl rfl]
  simp [c_store_Store_Clone, hp, hq]
end
def few1 (x : Call) : Bool := decide (x.entry.keys.length ≤ 30) && (decide (x.entry.call.args.length ≤ 30) && (decide (x.call.args.length ≤ 30) && decide (x.key.length ≤ 30)))
theorem few1_ok (x : Call) : pureI Φ f_law25_few [.slice 10 [Call.c x]] = some (.val (.bool (few1 x))) := by
  rw [pureI_go (fn := c_law25_few) rfl rfl]
  have w1 : IntKind.wrap .i64 1 = 1 := by decide
  by_cases q1 : x.entry.keys.length ≤ 30
  rotate_left
  · simp [c_law25_few, Call.c, few1, q1]
    rw [go_loop]
    simp [c_law25_few_l0, Nat.lt_of_not_le q1]
  by_cases q2 : x.entry.call.args.length ≤ 30
  rotate_left
  · simp [c_law25_few, Call.c, few1, q1, q2]
    rw [go_loop]
    simp [c_law25_few_l0, Nat.lt_of_not_le q2, Nat.not_lt.2 q1]
  by_cases q3 : x.call.args.length ≤ 30
  rotate_left
  · simp [c_law25_few, Call.c, few1, q1, q2, q3]
    rw [go_loop]
    simp [c_law25_few_l0, Nat.lt_of_not_le q3, Nat.not_lt.2 q1, Nat.not_lt.2 q2]
  by_cases q4 : x.key.length ≤ 30
  rotate_left
  · simp [c_law25_few, Call.c, few1, q1, q2, q3, q4]
    rw [go_loop]
    simp [c_law25_few_l0, Nat.lt_of_not_le q4, Nat.not_lt.2 q1, Nat.not_lt.2 q2, Nat.not_lt.2 q3]
  simp [c_law25_few, Call.c, few1, q1, q2, q3, q4]
  rw [go_loop]
  simp [c_law25_few_l0, Nat.not_lt.2 q4, Nat.not_lt.2 q1, Nat.not_lt.2 q2, Nat.not_lt.2 q3, w1]
  rw [go_loop]
  simp [c_law25_few_l0, c_law25_few_k1]
theorem eq0 : pureI Φ f_ref25_Equal [.agg [.slice 1 [], .slice 1 [], .slice 2 [], .slice 1 []], .agg [.slice 1 [], .slice 1 [], .slice 2 [], .slice 1 []]] = some (.val (.bool true)) := pureI_of_ev (n := 100) (by kernel_rfl)
theorem StoreNil_all {B : Nat} (x : Call) (_ : Call.Ok B x) : pureI Φ f_law25_StoreNil [.agg (Call.c x)] = some (.val (.bool true)) := by
  rw [pureI_go (fn := c_law25_StoreNil) rfl rfl]
  have hf := few1_ok x
  simp only [Call.c] at hf
  cases h : few1 x with
  | false =>
    rw [h] at hf
    simp [c_law25_StoreNil, Call.c, hf, awake25]
  | true =>
    rw [h] at hf
    have w1 : IntKind.wrap .i64 1 = 1 := by decide
    simp [c_law25_StoreNil, Call.c, hf, awake25]
    rw [go_loop]
    simp [c_law25_StoreNil_l0, Ins_nil, Look_nil, Cfg_nil, Mod_nil, Del_nil, Def_nil, Len_nil, Cln_nil, eq0, w1]
    rw [go_loop]
    have w2 : IntKind.wrap .i64 2 = 2 := by decide
    simp [c_law25_StoreNil_l0, Ins_zer (p := 1), Look_zer (p := 1), Cfg_zer (p := 1), Mod_zer (p := 1), Del_zer (p := 1), Def_zer (p := 1), Len_zer (p := 1), Cln_zer (p := 1), eq0, w2]
    rw [go_loop]
    simp [c_law25_StoreNil_l0, c_law25_StoreNil_k1, awake25]
end Go.Av
