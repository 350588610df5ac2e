/-
  The law 'NetworkNeedsProcessor' returns true at every input whose readings are of bulk at most 1048576, and leaves its arguments as they were.
  Conditions: none but that bound, which the given statement itself bears.
-/
import Derived.Test.YtndppilbpccjfaaGreatN48c
import Derived.Test.YtndppilbpccjfaaGreatFunsBN
import Derived.Test.YtndppilbpccjfaaGreatRNetworkNeedsProcessorFa
import Derived.Test.YtndppilbpccjfaaGreatRNetworkNeedsProcessorFb
import Derived.Test.YtndppilbpccjfaaGreatRNetworkNeedsProcessorFc
import Derived.KernelRfl
import Derived.ClosedOfChecked
set_option linter.unusedVariables false
set_option linter.unusedSimpArgs false
set_option linter.constructorNameAsVariable false
namespace Go.Av
theorem rd_t3 (B : Nat) : Rd Go.Proofs.Tryz.prog B 3 cI (okI B) := rd_int Go.Proofs.Tryz.underlying3
theorem rd_t28 (B : Nat) : Rd Go.Proofs.Tryz.prog B 28 (cS 1 cI) (okL B (okI B)) := rd_slice Go.Proofs.Tryz.underlying28 (by kernel_rfl) (rd_t3 B)
theorem rd_t194 (B : Nat) : Rd Go.Proofs.Tryz.prog B 194 PortID.c (PortID.Ok B) := PortID.rd Go.Proofs.Tryz.underlying194 (rd_t3 B) (rd_t3 B)
theorem rd_t4 (B : Nat) : Rd Go.Proofs.Tryz.prog B 4 cB (okT B) := rd_bool Go.Proofs.Tryz.underlying4
theorem rd_t196 (B : Nat) : Rd Go.Proofs.Tryz.prog B 196 Link.c (Link.Ok B) := Link.rd Go.Proofs.Tryz.underlying196 (rd_t194 B) (rd_t194 B) (rd_t4 B)
theorem rd_t78 (B : Nat) : Rd Go.Proofs.Tryz.prog B 78 (cS 5 Link.c) (okL B (Link.Ok B)) := rd_slice Go.Proofs.Tryz.underlying78 (by kernel_rfl) (rd_t196 B)
theorem rd_t79 (B : Nat) : Rd Go.Proofs.Tryz.prog B 79 (cS 2 PortID.c) (okL B (PortID.Ok B)) := rd_slice Go.Proofs.Tryz.underlying79 (by kernel_rfl) (rd_t194 B)
theorem rd_t81 (B : Nat) : Rd Go.Proofs.Tryz.prog B 81 Topology.c (Topology.Ok B) := Topology.rd Go.Proofs.Tryz.underlying81 (rd_t28 B) (rd_t78 B) (rd_t79 B)
theorem rd_t137 (B : Nat) : Rd Go.Proofs.Tryz.prog B 137 c32 (ok32 B) := rd_u32 Go.Proofs.Tryz.underlying137
theorem rd_t249 (B : Nat) : Rd Go.Proofs.Tryz.prog B 249 KeyMatch.c (KeyMatch.Ok B) := KeyMatch.rd Go.Proofs.Tryz.underlying249 (rd_t137 B) (rd_t137 B)
theorem rd_t35 (B : Nat) : Rd Go.Proofs.Tryz.prog B 35 (cS 2 KeyMatch.c) (okL B (KeyMatch.Ok B)) := rd_slice Go.Proofs.Tryz.underlying35 (by kernel_rfl) (rd_t249 B)
theorem rd_t36 (B : Nat) : Rd Go.Proofs.Tryz.prog B 36 (cS 1 c32) (okL B (ok32 B)) := rd_slice Go.Proofs.Tryz.underlying36 (by kernel_rfl) (rd_t137 B)
theorem rd_t38 (B : Nat) : Rd Go.Proofs.Tryz.prog B 38 ActionCall.c (ActionCall.Ok B) := ActionCall.rd Go.Proofs.Tryz.underlying38 (rd_t3 B) (rd_t36 B)
theorem rd_t40 (B : Nat) : Rd Go.Proofs.Tryz.prog B 40 Entry.c (Entry.Ok B) := Entry.rd Go.Proofs.Tryz.underlying40 (rd_t35 B) (rd_t3 B) (rd_t38 B)
theorem rd_t42 (B : Nat) : Rd Go.Proofs.Tryz.prog B 42 Rw.c (Rw.Ok B) := Rw.rd Go.Proofs.Tryz.underlying42 (rd_t3 B) (rd_t40 B)
theorem rd_t34 (B : Nat) : Rd Go.Proofs.Tryz.prog B 34 (cS 5 Rw.c) (okL B (Rw.Ok B)) := rd_slice Go.Proofs.Tryz.underlying34 (by kernel_rfl) (rd_t42 B)
theorem rd_t27 (B : Nat) : Rd Go.Proofs.Tryz.prog B 27 (cS 1 (cS 5 Rw.c)) (okL B (okL B (Rw.Ok B))) := rd_slice Go.Proofs.Tryz.underlying27 (by kernel_rfl) (rd_t34 B)
theorem rd_t29 (B : Nat) : Rd Go.Proofs.Tryz.prog B 29 (cS 2 ActionCall.c) (okL B (ActionCall.Ok B)) := rd_slice Go.Proofs.Tryz.underlying29 (by kernel_rfl) (rd_t38 B)
theorem rd_t30 (B : Nat) : Rd Go.Proofs.Tryz.prog B 30 (cS 1 (cS 1 c32)) (okL B (okL B (ok32 B))) := rd_slice Go.Proofs.Tryz.underlying30 (by kernel_rfl) (rd_t36 B)
theorem rd_t32 (B : Nat) : Rd Go.Proofs.Tryz.prog B 32 Config.c (Config.Ok B) := Config.rd Go.Proofs.Tryz.underlying32 (rd_t27 B) (rd_t28 B) (rd_t29 B) (rd_t30 B)
theorem rd_t82 (B : Nat) : Rd Go.Proofs.Tryz.prog B 82 (cS 4 Config.c) (okL B (Config.Ok B)) := rd_slice Go.Proofs.Tryz.underlying82 (by kernel_rfl) (rd_t32 B)
def tyL : List Nat := [3, 4, 27, 28, 29, 30, 32, 34, 35, 36, 38, 40, 42, 78, 79, 81, 82, 137, 194, 196, 249]
theorem tyL_ok : plainS Go.Proofs.Tryz.prog tyL = true := by kernel_rfl
theorem bk_pos {H : Type} (d : DataW H) : 1 ≤ Go.Proofs.YtndppilbpccjfaaGreat.Rows.uptoBulk d := by
  cases d with
  | lit l => cases l <;> simp [Go.Proofs.YtndppilbpccjfaaGreat.Rows.uptoBulk]
  | nil => simp [Go.Proofs.YtndppilbpccjfaaGreat.Rows.uptoBulk]
  | ptr d => simp [Go.Proofs.YtndppilbpccjfaaGreat.Rows.uptoBulk]
  | slice elems spare => simp [Go.Proofs.YtndppilbpccjfaaGreat.Rows.uptoBulk]
  | agg parts => simp [Go.Proofs.YtndppilbpccjfaaGreat.Rows.uptoBulk]
  | iface t d => simp [Go.Proofs.YtndppilbpccjfaaGreat.Rows.uptoBulk]
  | map entries => simp [Go.Proofs.YtndppilbpccjfaaGreat.Rows.uptoBulk]
  | held h => simp [Go.Proofs.YtndppilbpccjfaaGreat.Rows.uptoBulk]
def bk (H : Type) : BulkFn H where
  one := Go.Proofs.YtndppilbpccjfaaGreat.Rows.uptoBulk
  all := Go.Proofs.YtndppilbpccjfaaGreat.Rows.uptoBulkAll
  nil := by simp [Go.Proofs.YtndppilbpccjfaaGreat.Rows.uptoBulkAll]
  cons := fun d r => by simp [Go.Proofs.YtndppilbpccjfaaGreat.Rows.uptoBulkAll]
  slice := fun e s => by simp [Go.Proofs.YtndppilbpccjfaaGreat.Rows.uptoBulk]
  agg := fun e => by simp [Go.Proofs.YtndppilbpccjfaaGreat.Rows.uptoBulk]
  str := fun b => by simp [Go.Proofs.YtndppilbpccjfaaGreat.Rows.uptoBulk]
  pos := bk_pos
theorem small {H : Type} {l : List (DataW H)} (h : Go.Proofs.YtndppilbpccjfaaGreat.Rows.uptoSmall H l = true) : (bk H).all l ≤ bulkMax := le_bulkMax (of_decide_eq_true h)
theorem agg_t81 : isAggU Go.Proofs.Tryz.prog 81 = true := by kernel_rfl
theorem agg_t82 : isAggU Go.Proofs.Tryz.prog 82 = false := by kernel_rfl
theorem law_as (vs : List AV) (h : WTVs Go.Proofs.Tryz.prog bulkMax [81, 82] vs) : pureI Φ 7 vs = some (.val (.bool true)) := by
  obtain ⟨a0, vs, rfl, h0, h⟩ := wtvs_cons h
  obtain ⟨a1, vs, rfl, h1, h⟩ := wtvs_cons h
  obtain rfl := wtvs_nil h
  obtain ⟨x0, rfl, o0⟩ := wtv_agg h0 agg_t81 (rd_t81 bulkMax)
  obtain ⟨x1, e1, o1⟩ := wtv_one h1 agg_t82 (rd_t82 bulkMax)
  cases e1
  exact NetworkNeedsProcessor_all x0 x1 o0 o1
end Go.Av
namespace Go.Proofs.YtndppilbpccjfaaGreat
open Go.ChangeShapes Go.WideShapes Go.ChangeAt Go.RowKit Go.Av
theorem own : ownKnob Tryz.prog.godebug = none := by kernel_rfl
theorem laid : laidOutB Tryz.prog = true := closed2.1
theorem facts : joinedFacts Tryz.checked.prog 7 Tryz.f7 (Rows.OpenSpec.upto Rows.networkNeedsProcessorSpec).bare Rows.networkNeedsProcessorUptoRow = true := by
  unfold joinedFacts
  rw [closed2.1, closed2.2, fa1, fa2, fa3, fa4, fa5, fa6, pf1, pf2]
  kernel_rfl
theorem table : TableOk Tryz.prog ann Φ := tabX_ok_of (by kernel_rfl) tab_ok (by kernel_rfl) tabD_ok (by kernel_rfl) tabC_ok1 tabC_ok2 (by kernel_rfl)
set_option maxRecDepth 100000 in
theorem contract (H : Type) (enc : TypeId × Value → H) (W : World) (base : Nat) (args : Array Value) (ds gs : List (DataW H)) (before : List MemPlace)
    (hval : ∀ (j : Nat) t v, Tryz.f7.params[j]? = some t → args[j]? = some v → Value.okWide Tryz.prog W .any base t v)
    (hW : DataW.Whole enc Tryz.prog Tryz.f7.params.toList Rows.networkNeedsProcessorSpec.vars false W args.toList ds gs before) (hk : Rows.uptoSmall H (ds ++ gs) = true) :
    Calls Tryz.prog 7 args W fun e W' => ∃ v, e = .returned v ∧ Rows.networkNeedsProcessorSpec.post enc Tryz.prog Tryz.f7 false true false false W args v W' :=
  row_calls2 table laid (tb := Tryz.f7.resultTypes[0]!) rfl rfl (by kernel_rfl) (by kernel_rfl) (bk H) tyL_ok (by kernel_rfl) hval hW
    (fun l hl => by
      match l, hl with
      | [d0, d1], _ => rfl)
    (small hk) (fun vs h => law_as vs (by rw [Tryz.params7] at h; exact h))
set_option maxRecDepth 100000 in
theorem lifted (os : Os) (started : os.Started) (H : Type) (enc : TypeId × Value → H) (F : Stop.Interp) :
    ReturnsInHanded {} Tryz.checked os 7 .any ((Rows.OpenSpec.upto Rows.networkNeedsProcessorSpec).pre6 enc Tryz.prog Tryz.f7 Rows.networkNeedsProcessorUptoRow.domain false) (((Rows.OpenSpec.upto Rows.networkNeedsProcessorSpec).at F).post enc Tryz.prog Tryz.f7 false true false false) := by
  refine returnsInHanded_of_cond (C := Tryz.checked) (s := Rows.OpenSpec.upto Rows.networkNeedsProcessorSpec) (k := Rows.uptoSmall) rfl own started (by kernel_rfl) Tryz.func7
    (OpenSpec.witness (enc := enc) (C := Tryz.checked) (s := Rows.OpenSpec.upto Rows.networkNeedsProcessorSpec) (k := Rows.uptoSmall) rfl false ⟨#[], #[.agg #[.slice none 0 0, .slice none 0 0, .slice none 0 0], .slice none 0 0], []⟩ 24 (by kernel_rfl) (by kernel_rfl) (by kernel_rfl)
      (x := ([.agg [.nil, .nil, .nil], .nil], [], [])) (by kernel_rfl) rfl (by kernel_rfl)) ?_
  intro W base args ds gs before hval hW _ hk _
  exact contract H enc W base args ds gs before hval hW hk
theorem proved : Rows.NetworkNeedsProcessorUptoSaid :=
  OpenClaim.holds_of_cond 7 Tryz.f7 rfl rfl rfl rfl rfl rfl rfl ⟨rfl, rfl, rfl, rfl, rfl⟩ rfl rfl rfl rfl rfl (by kernel_rfl) Tryz.func7 facts
    (of_decide_eq_true (by kernel_rfl)) (by unfold Func.isWrapper; first | (rw [if_pos (by decide +kernel)]; kernel_rfl) | (rw [if_neg (by decide +kernel)]; exact ⟨rfl, rfl⟩))
    (fun os started H enc _ F => lifted os started H enc F)
end Go.Proofs.YtndppilbpccjfaaGreat
