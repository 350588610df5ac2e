/-
  Lemmas for the law.
-/
import Derived.Test.YtdgpefplgldkfaaV46d
import Derived.Test.YtdgpefplgldkfaaW46
set_option linter.unusedVariables false
set_option linter.unusedSimpArgs false
set_option linter.constructorNameAsVariable false
namespace Go.Av
@[ext] structure Args where
  port : Int
  version : Int
  label : Int
  priority : Int
  cube : Cube
  call : ActionCall
  deriving DecidableEq, Inhabited
def Args.c (x : Args) : List AV := [.int .i64 x.port, .int .i64 x.version, .int .i64 x.label, .int .i64 x.priority, .int .u64 x.cube.value, .int .u64 x.cube.mask, .int .i64 x.call.action, .slice 1 (x.call.args.map c32)]
@[simp] theorem Args.c_length (x : Args) : (Args.c x).length = 8 := by simp [Args.c]
def Args.Ok (B : Nat) (x : Args) : Prop := okI B x.port ∧ okI B x.version ∧ okI B x.label ∧ okI B x.priority ∧ Cube.Ok B x.cube ∧ ActionCall.Ok B x.call
theorem Args.rd {P : Go.Program} {B : Nat} {t : TypeId} {f0 f1 f2 f3 f4 f5 : Go.Field} (hu : P.underlying t = some (.struct #[f0, f1, f2, f3, f4, f5])) (h0 : Rd P B f0.type cI (okI B)) (h1 : Rd P B f1.type cI (okI B)) (h2 : Rd P B f2.type cI (okI B)) (h3 : Rd P B f3.type cI (okI B)) (h4 : Rd P B f4.type Cube.c (Cube.Ok B)) (h5 : Rd P B f5.type ActionCall.c (ActionCall.Ok B)) : Rd P B t Args.c (Args.Ok B) := by
  intro xs hx
  obtain ⟨xss, rfl, hl, hh⟩ := wt_struct hu hx
  match xss, hl, hh with
  | [a0, a1, a2, a3, a4, a5], _, hh =>
    obtain ⟨y0, rfl, o0⟩ := h0 a0 (hh 0 _ _ rfl rfl)
    obtain ⟨y1, rfl, o1⟩ := h1 a1 (hh 1 _ _ rfl rfl)
    obtain ⟨y2, rfl, o2⟩ := h2 a2 (hh 2 _ _ rfl rfl)
    obtain ⟨y3, rfl, o3⟩ := h3 a3 (hh 3 _ _ rfl rfl)
    obtain ⟨y4, rfl, o4⟩ := h4 a4 (hh 4 _ _ rfl rfl)
    obtain ⟨y5, rfl, o5⟩ := h5 a5 (hh 5 _ _ rfl rfl)
    exact ⟨⟨y0, y1, y2, y3, y4, y5⟩, by simp [Args.c, ActionCall.c, Cube.c, cI], ⟨o0, o1, o2, o3, o4, o5⟩⟩
theorem FabricValidEntries_all (x : Args) (p q : Int) (o : x.Ok bulkMax) (hp : ok8 bulkMax p) (hq : ok8 bulkMax q) : pureI Φ 7 [.agg x.c, .int .u8 p, .int .u8 q] = some (.val (.bool true)) :=
  FabricValidEntries_ok x.port x.version x.label x.priority x.cube.value x.cube.mask x.call.action x.call.args p q o.2.2.2.2.1.1 o.2.2.2.2.1.2 hp hq works_ok
end Go.Av
