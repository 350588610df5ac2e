/-
  The bounds of the laws of the store: whatever they answer, they answer.
-/
import Derived.Test.YtgnlablpigoioaaGreatS3
set_option linter.unusedVariables false
set_option linter.unusedSimpArgs false
set_option linter.constructorNameAsVariable false
namespace Go.Av
set_option maxRecDepth 4000
def IsB (x : Option Rt) : Prop := ∃ b, x = some (.val (.bool b))
def IsI (x : Option Rt) : Prop := ∃ n, x = some (.val (.int .i64 n))
@[simp] theorem IsB_some (b : Bool) : IsB (some (.val (.bool b))) := ⟨b, rfl⟩
@[simp] theorem IsI_some (n : Int) : IsI (some (.val (.int .i64 n))) := ⟨n, rfl⟩
theorem loop_ex {Φ : FuncId → Option AFun} {β : Type} {fin : Option (Ex × St) → Option β} {h : AH} (N : Nat) (Inv : Nat → Env → Prop) (Q : Option β → Prop) {b : ACode} {K : List Fr}
    (step : ∀ i e L, i < N → (∀ j s, go Φ fin L (.exit j) s = go Φ fin K (.exit j) s) → Inv i e → (∀ e', Inv (i + 1) e' → Q (go Φ fin L .normal ⟨e', h⟩)) → Q (go Φ fin (.c b :: L) .normal ⟨e, h⟩))
    (last : ∀ e L, (∀ j s, go Φ fin L (.exit j) s = go Φ fin K (.exit j) s) → Inv N e → Q (go Φ fin (.c b :: L) .normal ⟨e, h⟩)) :
    ∀ i e, i ≤ N → Inv i e → Q (go Φ fin (.c (.loop b) :: K) .normal ⟨e, h⟩) := by
  have key : ∀ n i e, N - i ≤ n → i ≤ N → Inv i e → Q (go Φ fin (.c (.loop b) :: K) .normal ⟨e, h⟩) := by
    intro n
    induction n with
    | zero =>
      intro i e hn hi hv
      have : i = N := by omega
      subst this
      rw [go_loop]
      exact last e _ (fun j s => by simp) hv
    | succ n ih =>
      intro i e hn hi hv
      rcases Nat.lt_or_ge i N with hlt | hge
      · rw [go_loop]
        exact step i e _ hlt (fun j s => by simp) hv fun e' hv' => ih (i + 1) e' (by omega) (by omega) hv'
      · have : i = N := by omega
        subst this
        rw [go_loop]
        exact last e _ (fun j s => by simp) hv
  intro i e hi hv
  exact key (N - i) i e (Nat.le_refl _) hi hv
theorem Action.ce (x : Action) : Action.c x = [.str x.name, .slice 2 (x.params.map Fld.c), .slice 7 (x.body.map Statement.c)] := by simp [Action.c]
theorem Header.ce (x : Header) : Header.c x = [.str x.name, .slice 2 (x.fields.map Fld.c)] := by simp [Header.c]
theorem Register.ce (x : Register) : Register.c x = [.str x.name, .int .i64 x.width, .int .i64 x.size] := by simp [Register.c]
theorem Statement.ce (x : Statement) : Statement.c x = [.int .i64 x.kind, .int .i64 x.dst.header, .int .i64 x.dst.field, .int .i64 x.register, .int .i64 x.header, .slice 3 (x.index.map ExprNode.c), .slice 3 (x.value.map ExprNode.c)] := by simp [Statement.c]
theorem Tbl.ce (x : Tbl) : Tbl.c x = [.str x.name, .slice 3 (x.keys.map TableKey.c), .slice 1 (x.actions.map cI), .int .i64 x.dflt.action, .slice 1 (x.dflt.args.map c32), .int .i64 x.size] := by simp [Tbl.c]
theorem ParserState.ce (x : ParserState) : ParserState.c x = [.str x.name, .slice 1 (x.extract.map cI), .bool x.select, .int .i64 x.on.header, .int .i64 x.on.field, .slice 3 (x.cases.map SelectCase.c), .int .i64 x.dflt] := by simp [ParserState.c]
theorem ControlNode.ce (k t : Int) (c : List ExprNode) (a b : List ControlNode) : ControlNode.c (.mk k t c a b) = [.int .i64 k, .int .i64 t, .slice 3 (c.map ExprNode.c), .slice 5 (a.map ControlNode.c), .slice 5 (b.map ControlNode.c)] := by simp [ControlNode.c, ControlNode.cs_eq]
theorem Prg.ce (x : Prg) : Prg.c x = [.str x.name, .slice 2 (x.headers.map Header.c), .slice 2 (x.metadata.map Fld.c), .slice 3 (x.registers.map Register.c), .slice 3 (x.actions.map Action.c), .slice 6 (x.tables.map Tbl.c), .slice 7 (x.states.map ParserState.c), .slice 5 (x.control.map ControlNode.c), .slice 1 (x.deparser.map cI)] := by simp [Prg.c]
theorem blocks_ok : ∀ (n : Nat) (l : List ControlNode) (d m : Int), SizeOf.sizeOf l ≤ n → l.length < 2 ^ 40 → (∀ x ∈ l, ControlNode.Ok bulkMax x) → IsI (pureI Φ f_law22_blocks [.slice 5 (l.map ControlNode.c), .int .i64 d, .int .i64 m])
  | 0, l, d, m, h, hb, ho => by
    cases l <;> simp at h
  | n + 1, l, d, m, h, hb, ho => by
    rw [pureI_go (fn := c_law22_blocks) rfl rfl]
    by_cases z0 : m < (l.length : Int)
    · simp [c_law22_blocks, z0]
    by_cases z1 : 20 < d
    · simp [c_law22_blocks, z0, z1]
    simp [c_law22_blocks, z0, z1]
    refine loop_ex l.length (fun i e => look 0 e = some (.slice 5 (l.map ControlNode.c)) ∧ look 1 e = some (.int .i64 d) ∧ look 2 e = some (.int .i64 m) ∧ look 8 e = some (.int .i64 i) ∧ ∃ q, look 7 e = some (.int .i64 q)) IsI ?_ ?_ 0 _ (Nat.zero_le _) ?_
    · rintro i e L hi hL ⟨h0, h1, h2, h8, q, h7⟩ ih
      have hw : IntKind.wrap .i64 ((i : Int) + 1) = ((i + 1 : Nat) : Int) := wrap64 (by omega) (by omega)
      by_cases z2 : q ≤ m
      rotate_left
      · simp [c_law22_blocks_l0, h0, h1, h2, h7, h8, hi, hL, z2, c_law22_blocks_k1]
      obtain ⟨k, t, c, a, b, hx⟩ : ∃ k t c a b, l[i] = .mk k t c a b := by
        cases hx : l[i] with
        | mk k t c a b => exact ⟨k, t, c, a, b, rfl⟩
      have hm : l[i] ∈ l := List.getElem_mem hi
      have hs : SizeOf.sizeOf l[i] < SizeOf.sizeOf l := List.sizeOf_lt_of_mem hm
      have ho' := ho _ hm
      rw [hx] at hs ho'
      simp only [ControlNode.Ok] at ho'
      simp at hs
      obtain ⟨_, _, hc, ⟨ha1, ha2⟩, hb1, hb2⟩ := ho'
      rw [ControlNode.oks_eq] at ha2 hb2
      rw [bulkMax_eq] at ha1 hb1
      obtain ⟨u, hu⟩ := blocks_ok n a (IntKind.wrap .i64 (d + 1)) m (by omega) (by omega) ha2
      obtain ⟨v, hv⟩ := blocks_ok n b (IntKind.wrap .i64 (d + 1)) m (by omega) (by omega) hb2
      simp [c_law22_blocks_l0, h0, h1, h2, h7, h8, hi, hL, z2, hx, ControlNode.ce, hu, hv, hw]
      exact ih _ ⟨by simp [h0], by simp [h1], by simp [h2], by simp, _, by simp; rfl⟩
    · rintro e L hL ⟨h0, h1, h2, h8, q, h7⟩
      simp [c_law22_blocks_l0, h0, h1, h2, h7, h8, hL, c_law22_blocks_k1]
    · simp
end Go.Av
