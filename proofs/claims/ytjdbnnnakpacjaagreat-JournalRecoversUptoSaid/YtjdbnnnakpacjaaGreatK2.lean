/-
  What it means that a program is valid: the first error, in plain Lean.
-/
import Derived.Test.YtjdbnnnakpacjaaGreatK1
set_option linter.unusedVariables false
set_option linter.unusedSimpArgs false
set_option linter.constructorNameAsVariable false
namespace Go.Av
theorem Fld.e (x : Fld) : Fld.c x = [.str x.name, .int .i64 x.width] := by simp [Fld.c]
theorem ExprNode.e (x : ExprNode) : ExprNode.c x = [.int .i64 x.op, .int .i64 x.n, .int .i64 x.w] := by simp [ExprNode.c]
theorem TableKey.e (x : TableKey) : TableKey.c x = [.int .i64 x.field.header, .int .i64 x.field.field, .int .i64 x.kind] := by simp [TableKey.c]
theorem ActionCall.e (x : ActionCall) : ActionCall.c x = [.int .i64 x.action, .slice 1 (x.args.map c32)] := by simp [ActionCall.c]
theorem SelectCase.e (x : SelectCase) : SelectCase.c x = [.int .u32 x.value, .int .u32 x.mask, .int .i64 x.next] := by simp [SelectCase.c]
theorem Action.e (x : Action) : Action.c x = [.str x.name, .slice 2 (x.params.map Fld.c), .slice 7 (x.body.map Statement.c)] := by simp [Action.c]
theorem Header.e (x : Header) : Header.c x = [.str x.name, .slice 2 (x.fields.map Fld.c)] := by simp [Header.c]
theorem Register.e (x : Register) : Register.c x = [.str x.name, .int .i64 x.width, .int .i64 x.size] := by simp [Register.c]
theorem Statement.e (x : Statement) : Statement.c x = [.int .i64 x.kind, .int .i64 x.dst.header, .int .i64 x.dst.field, .int .i64 x.register, .int .i64 x.header, .slice 3 (x.index.map ExprNode.c), .slice 3 (x.value.map ExprNode.c)] := by simp [Statement.c]
theorem Tbl.e (x : Tbl) : Tbl.c x = [.str x.name, .slice 3 (x.keys.map TableKey.c), .slice 1 (x.actions.map cI), .int .i64 x.dflt.action, .slice 1 (x.dflt.args.map c32), .int .i64 x.size] := by simp [Tbl.c]
theorem ParserState.e (x : ParserState) : ParserState.c x = [.str x.name, .slice 1 (x.extract.map cI), .bool x.select, .int .i64 x.on.header, .int .i64 x.on.field, .slice 3 (x.cases.map SelectCase.c), .int .i64 x.dflt] := by simp [ParserState.c]
theorem ControlNode.e (k t : Int) (c : List ExprNode) (a b : List ControlNode) : ControlNode.c (.mk k t c a b) = [.int .i64 k, .int .i64 t, .slice 3 (c.map ExprNode.c), .slice 5 (a.map ControlNode.c), .slice 5 (b.map ControlNode.c)] := by simp [ControlNode.c, ControlNode.cs_eq]
theorem Prg.e (x : Prg) : Prg.c x = [.str x.name, .slice 2 (x.headers.map Header.c), .slice 2 (x.metadata.map Fld.c), .slice 3 (x.registers.map Register.c), .slice 3 (x.actions.map Action.c), .slice 6 (x.tables.map Tbl.c), .slice 7 (x.states.map ParserState.c), .slice 5 (x.control.map ControlNode.c), .slice 1 (x.deparser.map cI)] := by simp [Prg.c]
-- the first of f i, f (i+1), .. f (N-1) that is something
def feF {α : Type} (f : Nat → Option α) : Nat → Nat → Option α
  | 0, _ => none
  | n + 1, i => match f i with
    | some x => some x
    | none => feF f n (i + 1)
def fe {α : Type} (f : Nat → Option α) (N i : Nat) : Option α := feF f (N - i) i
theorem fe_hit {α : Type} {f : Nat → Option α} {N i : Nat} {x : α} (hi : i < N) (h : f i = some x) : fe f N i = some x := by
  unfold fe
  rw [show N - i = (N - (i + 1)) + 1 by omega]
  simp [feF, h]
theorem fe_miss {α : Type} {f : Nat → Option α} {N i : Nat} (hi : i < N) (h : f i = none) : fe f N i = fe f N (i + 1) := by
  unfold fe
  rw [show N - i = (N - (i + 1)) + 1 by omega]
  simp [feF, h]
theorem fe_end {α : Type} {f : Nat → Option α} {N : Nat} : fe f N N = none := by simp [fe, feF]
theorem fe_congr {α : Type} {f g : Nat → Option α} {N : Nat} (h : ∀ i, i < N → f i = g i) : ∀ i, fe f N i = fe g N i := by
  have key : ∀ n i, n + i ≤ N → feF f n i = feF g n i := by
    intro n
    induction n with
    | zero => intro i _; rfl
    | succ n ih =>
      intro i hi
      simp only [feF]
      rw [h i (by omega), ih (i + 1) (by omega)]
  intro i
  unfold fe
  by_cases hi : i ≤ N
  · exact key _ _ (by omega)
  · rw [show N - i = 0 by omega]; rfl
-- an error, or none
def er (e : Int) : Option Int := if e = 0 then none else some e
@[simp] theorem er_zero : er 0 = none := by simp [er]
def errO : Option Int → Int
  | none => 0
  | some e => e
@[simp] theorem errO_none : errO none = 0 := by simp [errO]
@[simp] theorem errO_some (e : Int) : errO (some e) = e := by simp [errO]
def at? {α : Type} (l : List α) (i : Int) : Option α := if i < 0 then none else l[i.toNat]?
@[simp] theorem at_nat {α : Type} (l : List α) (i : Nat) : at? l (i : Int) = l[i]? := by
  unfold at?
  rw [if_neg (by omega)]
  simp
theorem at_neg {α : Type} {l : List α} {i : Int} (h : i < 0) : at? l i = none := by simp [at?, h]
theorem at_big {α : Type} {l : List α} {i : Int} (h : (l.length : Int) ≤ i) : at? l i = none := by
  unfold at?
  split
  · rfl
  · simp; omega
-- widths
def wBad (w : Int) : Bool := decide (w < 1) || decide (32 < w)
def dupN {α : Type} (nm : α → List UInt8) (l : List α) (i : Nat) (x : α) : Bool := (l.take i).any fun y => decide (nm y = nm x)
-- headers
def fldE (l : List Fld) (i : Nat) (f : Fld) : Int := if idS f.name = false then 6 else if wBad f.width then 10 else if dupN Fld.name l i f then 7 else 0
def fldsE (l : List Fld) : Option Int := fe (fun i => (l[i]?).bind fun f => er (fldE l i f)) l.length 0
def wSum (l : List Fld) : Int := (l.map (·.width)).sum
def hdrE (h : Header) : Int := if idS h.name = false then 6 else if h.fields.length = 0 then 8 else if 12 < h.fields.length then 12 else
  match fldsE h.fields with
  | some e => e
  | none => if (wSum h.fields) % 8 = 0 then 0 else 10
-- registers
def regE (r : Register) : Int := if idS r.name = false then 6 else if wBad r.width then 10 else if r.size < 1 ∨ 64 < r.size then 9 else 0
-- fields
def decl (p : Prg) (h f : Int) : Option Int := (if h = -1 then some p.metadata else (at? p.headers h).map (·.fields)).bind fun l => (at? l f).map (·.width)
def wid (p : Prg) (h f : Int) : Int := match decl p h f with
  | some w => if wBad w then 0 else w
  | none => 0
-- expressions
def ari (op : Int) : Int := if 1 ≤ op ∧ op ≤ 4 then 0 else if 5 ≤ op ∧ op ≤ 8 then 1 else if 9 ≤ op ∧ op ≤ 16 then 2 else if op = 17 then 3 else -1
def wide (w : Int) : Int × Int := if wBad w then (0, 10) else (w, 0)
def prim (p : Prg) (ps : List Fld) (x : ExprNode) : Int × Int :=
  if x.op = 1 then (if wBad x.w then (0, 10) else if x.n < 0 ∨ 2 ^ x.w.toNat - 1 < x.n then (0, 9) else (x.w, 0))
  else if x.op = 2 then (match decl p x.n x.w with | some w => wide w | none => (0, 8))
  else if x.op = 3 then (match at? ps x.n with | some f => wide f.width | none => (0, 8))
  else if (at? p.headers x.n).isSome then (1, 0) else (0, 8)
def comb (x : ExprNode) (a b c : Int) : Int × Int :=
  if x.op = 6 ∨ x.op = 7 then (if x.n < 0 ∨ 31 < x.n then (0, 9) else (a, 0))
  else if x.op = 8 then (if x.n < 0 then (0, 9) else if wBad x.w ∨ a - x.w < x.n then (0, 10) else (x.w, 0))
  else if x.op = 14 then wide (a + b)
  else if x.op = 17 then (if a ≠ 1 ∨ b ≠ c then (0, 10) else (b, 0))
  else if ari x.op = 2 ∧ a ≠ b then (0, 10)
  else if x.op = 15 ∨ x.op = 16 then (1, 0) else (a, 0)
-- a subexpression: the error, or its width and the place behind it
def chk (p : Prg) (ps : List Fld) (l : List ExprNode) : Nat → Nat → Except Int (Int × Nat)
  | 0, _ => .error 3
  | n + 1, i => match l[i]? with
    | none => .error 3
    | some x =>
      if ari x.op < 0 then .error 11
      else if ari x.op = 0 then (if (prim p ps x).2 = 0 then .ok ((prim p ps x).1, i + 1) else .error (prim p ps x).2)
      else match chk p ps l n (i + 1) with
        | .error e => .error e
        | .ok (a, i1) =>
          if ari x.op = 1 then (if (comb x a 0 0).2 = 0 then .ok ((comb x a 0 0).1, i1) else .error (comb x a 0 0).2)
          else match chk p ps l n i1 with
            | .error e => .error e
            | .ok (b, i2) =>
              if ari x.op = 2 then (if (comb x a b 0).2 = 0 then .ok ((comb x a b 0).1, i2) else .error (comb x a b 0).2)
              else match chk p ps l n i2 with
                | .error e => .error e
                | .ok (c, i3) => if (comb x a b c).2 = 0 then .ok ((comb x a b c).1, i3) else .error (comb x a b c).2
def exE (p : Prg) (ps : List Fld) (l : List ExprNode) : Int × Int :=
  if 24 < l.length then (0, 12) else match chk p ps l (l.length + 1) 0 with
  | .error e => (0, e)
  | .ok (w, i) => if i < l.length then (0, 4) else (w, 0)
-- statements
def valE (p : Prg) (ps : List Fld) (l : List ExprNode) (w : Int) : Int := if (exE p ps l).2 = 0 then (if (exE p ps l).1 = w then 0 else 10) else (exE p ps l).2
def stmE (p : Prg) (ps : List Fld) (s : Statement) : Int :=
  if s.kind = 1 then (match decl p s.dst.header s.dst.field with
    | none => 8
    | some w => valE p ps s.value w)
  else if s.kind = 2 ∨ s.kind = 3 then (if (at? p.headers s.header).isSome then 0 else 8)
  else if s.kind = 4 then (match at? p.registers s.register, decl p s.dst.header s.dst.field with
    | some r, some w => if (exE p ps s.index).2 = 0 then (if w = r.width then 0 else 10) else (exE p ps s.index).2
    | _, _ => 8)
  else if s.kind = 5 then (match at? p.registers s.register with
    | some r => if (exE p ps s.index).2 = 0 then valE p ps s.value r.width else (exE p ps s.index).2
    | none => 8)
  else 11
-- actions
def actD (a : Action) : Int := if idS a.name = false then 6 else if 4 < a.params.length ∨ 12 < a.body.length then 12 else errO (fldsE a.params)
def bodyE (p : Prg) (a : Action) : Option (Int × Int) := fe (fun k => (a.body[k]?).bind fun s => if stmE p a.params s = 0 then none else some ((k : Int), stmE p a.params s)) a.body.length 0
def actE (p : Prg) (i : Int) : Int × Int := match at? p.actions i with
  | none => (-1, 8)
  | some a => if actD a ≠ 0 then (-1, actD a) else (bodyE p a).getD (0, 0)
-- calls
def fits (v w : Int) : Bool := !wBad w && decide (v < 2 ^ w.toNat)
def callE (p : Prg) (c : ActionCall) : Int := match at? p.actions c.action with
  | none => 8
  | some a => if c.args.length ≠ a.params.length then 2 else errO (fe (fun i => match c.args[i]?, a.params[i]? with
    | some v, some f => if fits v f.width then none else some 9
    | _, _ => none) c.args.length 0)
-- tables
def keyE (p : Prg) (x : Tbl) : Option (Int × Int) := fe (fun i => (x.keys[i]?).bind fun k =>
  if wid p k.field.header k.field.field = 0 then some ((i : Int), 8) else if k.kind = 1 ∨ k.kind = 2 ∨ k.kind = 3 then none else some ((i : Int), 11)) x.keys.length 0
def kWid (p : Prg) (x : Tbl) : List Int := x.keys.map fun k => wid p k.field.header k.field.field
def keysE (p : Prg) (x : Tbl) : Int × Int := match keyE p x with
  | some e => e
  | none => if 1 < x.keys.countP (fun k => decide (k.kind = 2)) then (-2, 7) else if 64 < (kWid p x).sum then (-2, 10) else (0, 0)
def tactE (p : Prg) (x : Tbl) : Int := match fe (fun i => (x.actions[i]?).bind fun a => if a < 0 ∨ (p.actions.length : Int) ≤ a then some (8 : Int) else if (x.actions.take i).contains a then some 7 else none) x.actions.length 0 with
  | some e => e
  | none => if x.actions.contains x.dflt.action then callE p x.dflt else 8
def tblE (p : Prg) (t : Int) : Int × Int := match at? p.tables t with
  | none => (-1, 8)
  | some x => if idS x.name = false then (-1, 6) else if 6 < x.keys.length ∨ 16 < x.actions.length then (-1, 12) else if x.size < 1 ∨ 256 < x.size then (-1, 9)
    else if (keysE p x).2 ≠ 0 then keysE p x else if tactE p x ≠ 0 then (-3, tactE p x) else (0, 0)
-- parser states
def leads (p : Prg) (s : Nat) (n : Int) : Bool := decide (n = -1) || decide (n = -2) || (decide ((s : Int) < n) && decide (n < p.states.length))
def caseE (p : Prg) (s : Nat) (x : ParserState) (c : SelectCase) : Int :=
  if fits c.value (wid p x.on.header x.on.field) = false ∨ fits c.mask (wid p x.on.header x.on.field) = false then 9
  else if c.value.toNat &&& c.mask.toNat ≠ c.value.toNat then 5
  else if leads p s c.next then 0 else 14
def stE (p : Prg) (s : Nat) (x : ParserState) : Int × Int :=
  if 4 < x.extract.length ∨ 8 < x.cases.length then (-1, 12)
  else if x.extract.any (fun h => decide (h < 0) || decide ((p.headers.length : Int) ≤ h)) then (-1, 8)
  else if x.select = true ∧ wid p x.on.header x.on.field = 0 then (-1, 8)
  else if x.select = false ∧ 0 < x.cases.length then (-1, 11)
  else match fe (fun i => (x.cases[i]?).bind fun c => if caseE p s x c = 0 then none else some ((i : Int), caseE p s x c)) x.cases.length 0 with
    | some e => e
    | none => if leads p s x.dflt then (0, 0) else (-1, 14)
def parE (p : Prg) : Int × Int × Int :=
  if p.states.length = 0 then (-1, -1, 8) else if 12 < p.states.length then (-1, -1, 12)
  else (fe (fun s => (p.states[s]?).bind fun x => if idS x.name = false then some ((s : Int), (-1 : Int), (6 : Int)) else if dupN ParserState.name p.states s x then some ((s : Int), -1, 7)
    else if (stE p s x).2 = 0 then none else some ((s : Int), (stE p s x).1, (stE p s x).2)) p.states.length 0).getD (0, 0, 0)
-- the deparser
def depE (p : Prg) : Int × Int := if 8 < p.deparser.length then (-1, 12) else
  (fe (fun i => (p.deparser[i]?).bind fun h => if h < 0 ∨ (p.headers.length : Int) ≤ h then some ((i : Int), (8 : Int)) else if (p.deparser.take i).contains h then some ((i : Int), 7) else none) p.deparser.length 0).getD (0, 0)
-- control
def ControlNode.kind : ControlNode → Int | .mk k _ _ _ _ => k
def ControlNode.table : ControlNode → Int | .mk _ t _ _ _ => t
def ControlNode.cond : ControlNode → List ExprNode | .mk _ _ c _ _ => c
def ControlNode.thn : ControlNode → List ControlNode | .mk _ _ _ a _ => a
def ControlNode.els : ControlNode → List ControlNode | .mk _ _ _ _ b => b
mutual
def pre1 : ControlNode → List ControlNode
  | .mk k t c a b => .mk k t c a b :: (pre a ++ pre b)
def pre : List ControlNode → List ControlNode
  | [] => []
  | x :: r => pre1 x ++ pre r
end
mutual
def nest1 : ControlNode → Nat
  | .mk _ _ _ a b => max (nest a) (nest b)
def nest : List ControlNode → Nat
  | [] => 0
  | x :: r => max (1 + nest1 x) (nest r)
end
def appl (x : ControlNode) : Bool := decide (x.kind = 1) || decide (x.kind = 3)
def nodeE (p : Prg) (l : List ControlNode) (x : ControlNode) : Int :=
  if x.kind = 2 then (if (exE p [] x.cond).2 = 0 then (if (exE p [] x.cond).1 = 1 then 0 else 10) else (exE p [] x.cond).2)
  else if x.kind = 1 ∨ x.kind = 3 then (if x.table < 0 ∨ (p.tables.length : Int) ≤ x.table then 8
    else if l.any (fun y => appl y && decide (y.table = x.table)) then 7
    else if x.kind = 1 ∧ 0 < x.thn.length + x.els.length then 5 else 0)
  else 11
def ctlE (p : Prg) : Int × Int := if 24 < (pre p.control).length then (-1, 12) else if 6 < nest p.control then (-1, 14)
  else (fe (fun i => ((pre p.control)[i]?).bind fun x => if nodeE p ((pre p.control).take i) x = 0 then none else some ((i : Int), nodeE p ((pre p.control).take i) x)) (pre p.control).length 0).getD (0, 0)
-- the program: code, part, item, place
abbrev Dg := Int × Int × Int × Int
def limD (p : Prg) : Option Dg := if idS p.name = false then some (6, 0, 0, 0) else if 8 < p.headers.length then some (12, 0, 1, 0) else if 4 < p.registers.length then some (12, 0, 3, 0)
  else if 16 < p.actions.length then some (12, 0, 4, 0) else if 12 < p.tables.length then some (12, 0, 5, 0) else none
def hdrD1 (p : Prg) (i : Nat) (h : Header) : Int := if hdrE h ≠ 0 then hdrE h else if h.name = [109, 101, 116, 97] then 6 else if dupN Header.name p.headers i h then 7 else 0
def hdrD (p : Prg) : Option Dg := fe (fun i => (p.headers[i]?).bind fun h => if hdrD1 p i h = 0 then none else some (hdrD1 p i h, 1, (i : Int), 0)) p.headers.length 0
def metaW (i : Nat) : Fld := if i = 0 then ⟨[105, 110], 8⟩ else if i = 1 then ⟨[111, 117, 116], 8⟩ else ⟨[100, 114, 111, 112], 1⟩
def metD (p : Prg) : Option Dg := if 12 < p.metadata.length then some (12, 2, 0, 0)
  else match fe (fun i => (p.metadata[i]?).bind fun f => if fldE p.metadata i f = 0 then none else some (fldE p.metadata i f, (2 : Int), (i : Int), (0 : Int))) p.metadata.length 0 with
    | some d => some d
    | none => fe (fun i => if p.metadata[i]? = some (metaW i) then none else some (5, 2, (i : Int), 0)) 3 0
def regD1 (p : Prg) (i : Nat) (r : Register) : Int := if regE r ≠ 0 then regE r else if dupN Register.name p.registers i r then 7 else 0
def regD (p : Prg) : Option Dg := fe (fun i => (p.registers[i]?).bind fun r => if regD1 p i r = 0 then none else some (regD1 p i r, 3, (i : Int), 0)) p.registers.length 0
def actD1 (p : Prg) : Option Dg := fe (fun i => (p.actions[i]?).bind fun a => if (actE p i).2 ≠ 0 then some ((actE p i).2, (4 : Int), (i : Int), (actE p i).1) else if dupN Action.name p.actions i a then some (7, 4, (i : Int), 0) else none) p.actions.length 0
def tblD (p : Prg) : Option Dg := fe (fun i => (p.tables[i]?).bind fun a => if (tblE p i).2 ≠ 0 then some ((tblE p i).2, (5 : Int), (i : Int), (tblE p i).1) else if dupN Tbl.name p.tables i a then some (7, 5, (i : Int), 0) else none) p.tables.length 0
def floD (p : Prg) : Option Dg := if (parE p).2.2 ≠ 0 then some ((parE p).2.2, 6, (parE p).1, (parE p).2.1) else if (ctlE p).2 ≠ 0 then some ((ctlE p).2, 7, (ctlE p).1, 0)
  else if (depE p).2 ≠ 0 then some ((depE p).2, 8, (depE p).1, 0) else none
def prgD (p : Prg) : Dg := ((((((limD p).or (hdrD p)).or (metD p)).or (regD p)).or (actD1 p)).or (tblD p)).or (floD p) |>.getD (0, 0, 0, 0)
end Go.Av
