/-
  The law 'FabricInitialOps' returns true at every input whose readings are of bulk at most 1048576, and leaves its arguments as they were.
  Conditions: none but that bound, which the given statement itself bears.
-/
import Derived.Test.YtdgpefplgldkfaaL46Init
import Derived.Test.YtdgpefplgldkfaaFunsB
import Derived.KernelRfl
set_option linter.unusedVariables false
set_option linter.unusedSimpArgs false
set_option linter.constructorNameAsVariable false
namespace Go.Av
theorem rd_t3 (B : Nat) : Rd Go.Proofs.Try.prog B 3 cI (okI B) := rd_int Go.Proofs.Try.underlying3
theorem rd_t53 (B : Nat) : Rd Go.Proofs.Try.prog B 53 (cS 1 cI) (okL B (okI B)) := rd_slice Go.Proofs.Try.underlying53 (by kernel_rfl) (rd_t3 B)
theorem rd_t97 (B : Nat) : Rd Go.Proofs.Try.prog B 97 PortID.c (PortID.Ok B) := PortID.rd Go.Proofs.Try.underlying97 (rd_t3 B) (rd_t3 B)
theorem rd_t4 (B : Nat) : Rd Go.Proofs.Try.prog B 4 cB (okT B) := rd_bool Go.Proofs.Try.underlying4
theorem rd_t143 (B : Nat) : Rd Go.Proofs.Try.prog B 143 Link.c (Link.Ok B) := Link.rd Go.Proofs.Try.underlying143 (rd_t97 B) (rd_t97 B) (rd_t4 B)
theorem rd_t54 (B : Nat) : Rd Go.Proofs.Try.prog B 54 (cS 5 Link.c) (okL B (Link.Ok B)) := rd_slice Go.Proofs.Try.underlying54 (by kernel_rfl) (rd_t143 B)
theorem rd_t55 (B : Nat) : Rd Go.Proofs.Try.prog B 55 (cS 2 PortID.c) (okL B (PortID.Ok B)) := rd_slice Go.Proofs.Try.underlying55 (by kernel_rfl) (rd_t97 B)
theorem rd_t57 (B : Nat) : Rd Go.Proofs.Try.prog B 57 Topology.c (Topology.Ok B) := Topology.rd Go.Proofs.Try.underlying57 (rd_t53 B) (rd_t54 B) (rd_t55 B)
def tyL : List Nat := [3, 4, 53, 54, 55, 57, 97, 143]
theorem tyL_ok : plainS Go.Proofs.Try.prog tyL = true := by kernel_rfl
theorem bk_pos {H : Type} (d : DataW H) : 1 ≤ Go.Proofs.Ytdgpefplgldkfaa.Rows.uptoBulk d := by
  cases d with
  | lit l => cases l <;> simp [Go.Proofs.Ytdgpefplgldkfaa.Rows.uptoBulk]
  | nil => simp [Go.Proofs.Ytdgpefplgldkfaa.Rows.uptoBulk]
  | ptr d => simp [Go.Proofs.Ytdgpefplgldkfaa.Rows.uptoBulk]
  | slice elems spare => simp [Go.Proofs.Ytdgpefplgldkfaa.Rows.uptoBulk]
  | agg parts => simp [Go.Proofs.Ytdgpefplgldkfaa.Rows.uptoBulk]
  | iface t d => simp [Go.Proofs.Ytdgpefplgldkfaa.Rows.uptoBulk]
  | map entries => simp [Go.Proofs.Ytdgpefplgldkfaa.Rows.uptoBulk]
  | held h => simp [Go.Proofs.Ytdgpefplgldkfaa.Rows.uptoBulk]
def bk (H : Type) : BulkFn H where
  one := Go.Proofs.Ytdgpefplgldkfaa.Rows.uptoBulk
  all := Go.Proofs.Ytdgpefplgldkfaa.Rows.uptoBulkAll
  nil := by simp [Go.Proofs.Ytdgpefplgldkfaa.Rows.uptoBulkAll]
  cons := fun d r => by simp [Go.Proofs.Ytdgpefplgldkfaa.Rows.uptoBulkAll]
  slice := fun e s => by simp [Go.Proofs.Ytdgpefplgldkfaa.Rows.uptoBulk]
  agg := fun e => by simp [Go.Proofs.Ytdgpefplgldkfaa.Rows.uptoBulk]
  str := fun b => by simp [Go.Proofs.Ytdgpefplgldkfaa.Rows.uptoBulk]
  pos := bk_pos
theorem small {H : Type} {l : List (DataW H)} (h : Go.Proofs.Ytdgpefplgldkfaa.Rows.uptoSmall H l = true) : (bk H).all l ≤ bulkMax := le_bulkMax (of_decide_eq_true h)
theorem agg_t57 : isAggU Go.Proofs.Try.prog 57 = true := by kernel_rfl
theorem agg_t3 : isAggU Go.Proofs.Try.prog 3 = false := by kernel_rfl
theorem law_as (vs : List AV) (h : WTVs Go.Proofs.Try.prog bulkMax [57, 3] vs) : pureI Φ 6 vs = some (.val (.bool true)) := by
  obtain ⟨a0, vs, rfl, h0, h⟩ := wtvs_cons h
  obtain ⟨a1, vs, rfl, h1, h⟩ := wtvs_cons h
  obtain rfl := wtvs_nil h
  obtain ⟨x0, rfl, o0⟩ := wtv_agg h0 agg_t57 (rd_t57 bulkMax)
  obtain ⟨x1, e1, o1⟩ := wtv_one h1 agg_t3 (rd_t3 bulkMax)
  cases e1
  exact FabricInitialOps_all x0 x1 o0 o1
end Go.Av
namespace Go.Proofs.Ytdgpefplgldkfaa
open Go.ChangeShapes Go.WideShapes Go.ChangeAt Go.RowKit Go.Av
theorem own : ownKnob Try.prog.godebug = none := by kernel_rfl
theorem laid : laidOutB Try.prog = true := by kernel_rfl
theorem table : TableOk Try.prog ann Φ := tab_ok_of (by kernel_rfl) tab_ok (by kernel_rfl)
set_option maxRecDepth 100000 in
theorem contract (H : Type) (enc : TypeId × Value → H) (W : World) (base : Nat) (args : Array Value) (ds gs : List (DataW H)) (before : List MemPlace)
    (hval : ∀ (j : Nat) t v, Try.f6.params[j]? = some t → args[j]? = some v → Value.okWide Try.prog W .any base t v)
    (hW : DataW.Whole enc Try.prog Try.f6.params.toList Rows.fabricInitialOpsSpec.vars false W args.toList ds gs before) (hk : Rows.uptoSmall H (ds ++ gs) = true) :
    Calls Try.prog 6 args W fun e W' => ∃ v, e = .returned v ∧ Rows.fabricInitialOpsSpec.post enc Try.prog Try.f6 false true false false W args v W' :=
  row_calls2 table laid (tb := Try.f6.resultTypes[0]!) rfl rfl (by kernel_rfl) (by kernel_rfl) (bk H) tyL_ok (by kernel_rfl) hval hW
    (fun l hl => by
      match l, hl with
      | [d0, d1], _ => rfl)
    (small hk) (fun vs h => law_as vs (by rw [Try.params6] at h; exact h))
set_option maxRecDepth 100000 in
theorem lifted (os : Os) (started : os.Started) (H : Type) (enc : TypeId × Value → H) (F : Stop.Interp) :
    ReturnsInHanded {} Try.checked os 6 .any ((Rows.OpenSpec.upto Rows.fabricInitialOpsSpec).pre6 enc Try.prog Try.f6 Rows.fabricInitialOpsUptoRow.domain false) (((Rows.OpenSpec.upto Rows.fabricInitialOpsSpec).at F).post enc Try.prog Try.f6 false true false false) := by
  refine returnsInHanded_of_cond (C := Try.checked) (s := Rows.OpenSpec.upto Rows.fabricInitialOpsSpec) (k := Rows.uptoSmall) rfl own started (by kernel_rfl) Try.func6
    (OpenSpec.witness (enc := enc) (C := Try.checked) (s := Rows.OpenSpec.upto Rows.fabricInitialOpsSpec) (k := Rows.uptoSmall) rfl false ⟨#[], #[.agg #[.slice none 0 0, .slice none 0 0, .slice none 0 0], .int .i64 0], []⟩ 24 (by kernel_rfl) (by kernel_rfl) (by kernel_rfl)
      (x := ([.agg [.nil, .nil, .nil], .lit (.int .i64 0)], [], [])) (by kernel_rfl) rfl (by kernel_rfl)) ?_
  intro W base args ds gs before hval hW _ hk _
  exact contract H enc W base args ds gs before hval hW hk
theorem proved : Rows.FabricInitialOpsUptoSaid :=
  OpenClaim.holds_of_cond 6 Try.f6 rfl rfl rfl rfl rfl rfl rfl ⟨rfl, rfl, rfl, rfl, rfl⟩ rfl rfl rfl rfl rfl (by kernel_rfl) Try.func6 (by kernel_rfl)
    (of_decide_eq_true (by kernel_rfl)) (by unfold Func.isWrapper; first | (rw [if_pos (by decide +kernel)]; kernel_rfl) | (rw [if_neg (by decide +kernel)]; exact ⟨rfl, rfl⟩))
    (fun os started H enc _ F => lifted os started H enc F)
end Go.Proofs.Ytdgpefplgldkfaa
