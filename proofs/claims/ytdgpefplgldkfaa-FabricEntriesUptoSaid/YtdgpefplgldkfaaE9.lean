/-
  The law 'FabricEntries' returns true at every input whose readings are of bulk at most 1048576, and leaves its arguments as they were.
  Conditions: none but that bound, which the given statement itself bears.
-/
import Derived.Test.YtdgpefplgldkfaaE8
import Derived.Test.YtdgpefplgldkfaaFunsB
import Derived.KernelRfl
set_option linter.unusedVariables false
set_option linter.unusedSimpArgs false
set_option linter.constructorNameAsVariable false
namespace Go.Av
theorem rd_t3 (B : Nat) : Rd Go.Proofs.Try.prog B 3 cI (okI B) := rd_int Go.Proofs.Try.underlying3
theorem rd_t32 (B : Nat) : Rd Go.Proofs.Try.prog B 32 c64 (ok64 B) := rd_u64 Go.Proofs.Try.underlying32
theorem rd_t37 (B : Nat) : Rd Go.Proofs.Try.prog B 37 Cube.c (Cube.Ok B) := Cube.rd Go.Proofs.Try.underlying37 (rd_t32 B) (rd_t32 B)
theorem rd_t73 (B : Nat) : Rd Go.Proofs.Try.prog B 73 c32 (ok32 B) := rd_u32 Go.Proofs.Try.underlying73
theorem rd_t38 (B : Nat) : Rd Go.Proofs.Try.prog B 38 (cS 1 c32) (okL B (ok32 B)) := rd_slice Go.Proofs.Try.underlying38 (by kernel_rfl) (rd_t73 B)
theorem rd_t40 (B : Nat) : Rd Go.Proofs.Try.prog B 40 ActionCall.c (ActionCall.Ok B) := ActionCall.rd Go.Proofs.Try.underlying40 (rd_t3 B) (rd_t38 B)
theorem rd_t42 (B : Nat) : Rd Go.Proofs.Try.prog B 42 Args.c (Args.Ok B) := Args.rd Go.Proofs.Try.underlying42 (rd_t3 B) (rd_t3 B) (rd_t3 B) (rd_t3 B) (rd_t37 B) (rd_t40 B)
def tyL : List Nat := [3, 32, 37, 38, 40, 42, 73]
theorem tyL_ok : plainS Go.Proofs.Try.prog tyL = true := by kernel_rfl
theorem bk_pos {H : Type} (d : DataW H) : 1 ≤ Go.Proofs.Ytdgpefplgldkfaa.Rows.uptoBulk d := by
  cases d with
  | lit l => cases l <;> simp [Go.Proofs.Ytdgpefplgldkfaa.Rows.uptoBulk]
  | nil => simp [Go.Proofs.Ytdgpefplgldkfaa.Rows.uptoBulk]
  | ptr d => simp [Go.Proofs.Ytdgpefplgldkfaa.Rows.uptoBulk]
  | slice elems spare => simp [Go.Proofs.Ytdgpefplgldkfaa.Rows.uptoBulk]
  | agg parts => simp [Go.Proofs.Ytdgpefplgldkfaa.Rows.uptoBulk]
  | iface t d => simp [Go.Proofs.Ytdgpefplgldkfaa.Rows.uptoBulk]
  | map entries => simp [Go.Proofs.Ytdgpefplgldkfaa.Rows.uptoBulk]
  | held h => simp [Go.Proofs.Ytdgpefplgldkfaa.Rows.uptoBulk]
def bk (H : Type) : BulkFn H where
  one := Go.Proofs.Ytdgpefplgldkfaa.Rows.uptoBulk
  all := Go.Proofs.Ytdgpefplgldkfaa.Rows.uptoBulkAll
  nil := by simp [Go.Proofs.Ytdgpefplgldkfaa.Rows.uptoBulkAll]
  cons := fun d r => by simp [Go.Proofs.Ytdgpefplgldkfaa.Rows.uptoBulkAll]
  slice := fun e s => by simp [Go.Proofs.Ytdgpefplgldkfaa.Rows.uptoBulk]
  agg := fun e => by simp [Go.Proofs.Ytdgpefplgldkfaa.Rows.uptoBulk]
  str := fun b => by simp [Go.Proofs.Ytdgpefplgldkfaa.Rows.uptoBulk]
  pos := bk_pos
theorem small {H : Type} {l : List (DataW H)} (h : Go.Proofs.Ytdgpefplgldkfaa.Rows.uptoSmall H l = true) : (bk H).all l ≤ bulkMax := le_bulkMax (of_decide_eq_true h)
theorem agg_t42 : isAggU Go.Proofs.Try.prog 42 = true := by kernel_rfl
theorem law_as (vs : List AV) (h : WTVs Go.Proofs.Try.prog bulkMax [42] vs) : pureI Φ 5 vs = some (.val (.bool true)) := by
  obtain ⟨a0, vs, rfl, h0, h⟩ := wtvs_cons h
  obtain rfl := wtvs_nil h
  obtain ⟨x0, rfl, o0⟩ := wtv_agg h0 agg_t42 (rd_t42 bulkMax)
  exact FabricEntries_all x0 o0
end Go.Av
namespace Go.Proofs.Ytdgpefplgldkfaa
open Go.ChangeShapes Go.WideShapes Go.ChangeAt Go.RowKit Go.Av
theorem own : ownKnob Try.prog.godebug = none := by kernel_rfl
theorem laid : laidOutB Try.prog = true := by kernel_rfl
theorem table : TableOk Try.prog ann Φ := tab_ok_of (by kernel_rfl) tab_ok (by kernel_rfl)
set_option maxRecDepth 100000 in
theorem contract (H : Type) (enc : TypeId × Value → H) (W : World) (base : Nat) (args : Array Value) (ds gs : List (DataW H)) (before : List MemPlace)
    (hval : ∀ (j : Nat) t v, Try.f5.params[j]? = some t → args[j]? = some v → Value.okWide Try.prog W .any base t v)
    (hW : DataW.Whole enc Try.prog Try.f5.params.toList Rows.fabricEntriesSpec.vars false W args.toList ds gs before) (hk : Rows.uptoSmall H (ds ++ gs) = true) :
    Calls Try.prog 5 args W fun e W' => ∃ v, e = .returned v ∧ Rows.fabricEntriesSpec.post enc Try.prog Try.f5 false true false false W args v W' :=
  row_calls2 table laid (tb := Try.f5.resultTypes[0]!) rfl rfl (by kernel_rfl) (by kernel_rfl) (bk H) tyL_ok (by kernel_rfl) hval hW
    (fun l hl => by
      match l, hl with
      | [d0], _ => rfl)
    (small hk) (fun vs h => law_as vs (by rw [Try.params5] at h; exact h))
set_option maxRecDepth 100000 in
theorem lifted (os : Os) (started : os.Started) (H : Type) (enc : TypeId × Value → H) (F : Stop.Interp) :
    ReturnsInHanded {} Try.checked os 5 .any ((Rows.OpenSpec.upto Rows.fabricEntriesSpec).pre6 enc Try.prog Try.f5 Rows.fabricEntriesUptoRow.domain false) (((Rows.OpenSpec.upto Rows.fabricEntriesSpec).at F).post enc Try.prog Try.f5 false true false false) := by
  refine returnsInHanded_of_cond (C := Try.checked) (s := Rows.OpenSpec.upto Rows.fabricEntriesSpec) (k := Rows.uptoSmall) rfl own started (by kernel_rfl) Try.func5
    (OpenSpec.witness (enc := enc) (C := Try.checked) (s := Rows.OpenSpec.upto Rows.fabricEntriesSpec) (k := Rows.uptoSmall) rfl false ⟨#[], #[.agg #[.int .i64 0, .int .i64 0, .int .i64 0, .int .i64 0, .int .u64 0, .int .u64 0, .int .i64 0, .slice none 0 0]], []⟩ 24 (by kernel_rfl) (by kernel_rfl) (by kernel_rfl)
      (x := ([.agg [.lit (.int .i64 0), .lit (.int .i64 0), .lit (.int .i64 0), .lit (.int .i64 0), .agg [.lit (.int .u64 0), .lit (.int .u64 0)], .agg [.lit (.int .i64 0), .nil]]], [], [])) (by kernel_rfl) rfl (by kernel_rfl)) ?_
  intro W base args ds gs before hval hW _ hk _
  exact contract H enc W base args ds gs before hval hW hk
theorem proved : Rows.FabricEntriesUptoSaid :=
  OpenClaim.holds_of_cond 5 Try.f5 rfl rfl rfl rfl rfl rfl rfl ⟨rfl, rfl, rfl, rfl, rfl⟩ rfl rfl rfl rfl rfl (by kernel_rfl) Try.func5 (by kernel_rfl)
    (of_decide_eq_true (by kernel_rfl)) (by unfold Func.isWrapper; first | (rw [if_pos (by decide +kernel)]; kernel_rfl) | (rw [if_neg (by decide +kernel)]; exact ⟨rfl, rfl⟩))
    (fun os started H enc _ F => lifted os started H enc F)
end Go.Proofs.Ytdgpefplgldkfaa
