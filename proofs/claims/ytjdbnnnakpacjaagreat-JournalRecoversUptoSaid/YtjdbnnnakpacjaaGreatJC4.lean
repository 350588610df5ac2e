/-
  The reference's log: New, Commit.
-/
import Derived.Test.YtjdbnnnakpacjaaGreatJC3
import Derived.Test.YtjdbnnnakpacjaaGreatJP4
set_option linter.unusedVariables false
set_option linter.unusedSimpArgs false
set_option linter.constructorNameAsVariable false
namespace Go.Av
set_option maxRecDepth 4000
def rlC (p : Prg) (g : LgV) : List AV := Prg.c p ++ (Config.c g.c ++ [.slice 1 (g.b.map c8), .int .i64 g.n])
theorem rlC_e (p : Prg) (g : LgV) : rlC p g = [.str p.name, .slice 2 (p.headers.map Header.c), .slice 2 (p.metadata.map Fld.c), .slice 3 (p.registers.map Register.c), .slice 3 (p.actions.map Action.c), .slice 6 (p.tables.map Tbl.c), .slice 7 (p.states.map ParserState.c), .slice 5 (p.control.map ControlNode.c), .slice 1 (p.deparser.map cI),
    .slice 1 (g.c.rows.map (cS 5 Rw.c)), .slice 1 (g.c.nextID.map cI), .slice 2 (g.c.defaults.map ActionCall.c), .slice 1 (g.c.registers.map (cS 1 c32)), .slice 1 (g.b.map c8), .int .i64 g.n] := by
  simp [rlC, Prg.e, Config.ce]
def noLg : List AV := [.str [], .slice 2 [], .slice 2 [], .slice 3 [], .slice 3 [], .slice 6 [], .slice 7 [], .slice 5 [], .slice 1 [], .slice 1 [], .slice 1 [], .slice 2 [], .slice 1 [], .slice 1 [], .int .i64 0]
def lg0 (p : Prg) : LgV := ⟨emptyC p, [], 0⟩
theorem rlnew (p : Prg) (f : PrgS p) (hv : ∀ t ∈ p.tables, ∀ v ∈ t.dflt.args, ok32 0 v) (hc : (pre p.control).length < 2 ^ 40 - 1) :
    pureI Φ f_ref28_New [.agg (Prg.c p)] = some (.val (if (prgD p).1 = 0 then .tup [.agg (rlC p (lg0 p)), .int .i64 0] else .tup [.agg noLg, .int .i64 (prgD p).1])) := by
  rw [pureI_go (fn := c_ref28_New) rfl rfl]
  have h1 := rprogCheck_ok p f hv hc
  have h2 := rempty_ok p f
  simp only [Prg.e, Config.ce, dgC] at h1 h2
  by_cases z : (prgD p).1 = 0
  · rw [if_pos z]
    simp [c_ref28_New, Prg.e, h1, h2, z, rlC_e, lg0]
  · rw [if_neg z]
    simp [c_ref28_New, Prg.e, h1, z, noLg]
theorem okO_of {o : TableOp} (h : OpS o) : okO o := by
  have c : ∀ v : Int, ok32 0 v → 0 ≤ v ∧ v ≤ 4294967295 := fun v h => by unfold ok32 at h; omega
  exact ⟨fun k hk => ⟨c _ (h.e.ks k hk).1, c _ (h.e.ks k hk).2⟩, fun v hv => c _ (h.e.ar v hv), fun v hv => c _ (h.c.ar v hv)⟩
theorem encB_len2 (l : List TableOp) : (encB l).length ≤ 300000 := by
  by_cases q : l.length ≤ 64 ∧ ∀ o ∈ l, opE o = true
  · exact encB_len q.2 q.1
  · unfold encB; rw [if_neg q]; simp
def cmR (p : Prg) (g : LgV) (l : List TableOp) : AV := match badA p g.c l with
  | some (k, e) => .tup [.agg (rlC p g), .slice 1 [], .int .i64 k, .int .i64 e]
  | none => .tup [.agg (rlC p (cmt p g l)), .slice 1 (idsA p g.c l), .int .i64 0, .int .i64 0]
theorem rlcommit (p : Prg) (op : p.Ok bulkMax) (hv : ∀ t ∈ p.tables, ∀ v ∈ t.dflt.args, ok32 0 v) (hc : (pre p.control).length < 2 ^ 40 - 1) (hp : p.tables.length < 2 ^ 40) {g : LgV} (s : CfgT g.c) (hb : g.b.length < 2 ^ 40) (hn : g.n < 2 ^ 40) (l : List TableOp) (ol : l.length < 2 ^ 40) (hl : ∀ o ∈ l, OpS o) :
    pureI Φ f_ref28_Commit [.agg (rlC p g), .slice 9 (l.map TableOp.c)] = some (.val (cmR p g l)) := by
  rw [pureI_go (fn := c_ref28_Commit) rfl rfl]
  have k1 := rapply_ok p (PrgS_of op) hv hc hp s l ol hl
  have k2 := rEncode l fun o ho => okO_of (hl o ho)
  have k3 := rframe (encB l) (encB_okB l) (by have := encB_len2 l; omega)
  unfold cmR
  cases hA : badA p g.c l with
  | some x =>
    obtain ⟨k, x⟩ := x
    have hx := badA_ne hA
    rw [show appA p g.c l = .tup [.agg noC, .slice 1 [], .int .i64 k, .int .i64 x] by simp only [appA, hA]] at k1
    simp only [Prg.e, Config.ce, noC] at k1
    simp [c_ref28_Commit, rlC_e, k1, hx]
  | none =>
    rw [show appA p g.c l = .tup [.agg (Config.c (cfgN p g.c l l.length)), .slice 1 (idsA p g.c l), .int .i64 0, .int .i64 0] by simp only [appA, hA]; rfl, cfgN_len] at k1
    have hw : IntKind.wrap .i64 ((g.n : Int) + 1) = ((g.n + 1 : Nat) : Int) := wrap64 (by omega) (by omega)
    have a1 := al8 g.b
    have a2 := al8 (frB (encB l))
    have nF : (frB (encB l)).length ≤ 300008 := by rw [frB_len]; have := encB_len2 l; omega
    have m1 : g.b.length ≤ 70368744177664 := by omega
    have m2 : g.b.length + (frB (encB l)).length ≤ 70368744177664 := by omega
    simp only [cmt]
    generalize xoF p g.c l = d at *
    generalize frB (encB l) = F at *
    generalize idsA p g.c l = il at *
    simp only [Prg.e, Config.ce] at k1
    simp [c_ref28_Commit, rlC_e, k1, k2, k3, hw, a1, a2, m1, m2]
end Go.Av
