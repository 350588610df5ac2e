/-
  The law 'FabricValidEntries' returns true at every input whose readings are of bulk at most 1048576, and leaves its arguments as they were.
  Conditions: none but that bound, which the given statement itself bears.
-/
import Derived.Test.YtdgpefplgldkfaaL46Valid
import Derived.Test.YtdgpefplgldkfaaFunsB
import Derived.KernelRfl
set_option linter.unusedVariables false
set_option linter.unusedSimpArgs false
set_option linter.constructorNameAsVariable false
namespace Go.Av
theorem rd_t3 (B : Nat) : Rd Go.Proofs.Try.prog B 3 cI (okI B) := rd_int Go.Proofs.Try.underlying3
theorem rd_t32 (B : Nat) : Rd Go.Proofs.Try.prog B 32 c64 (ok64 B) := rd_u64 Go.Proofs.Try.underlying32
theorem rd_t37 (B : Nat) : Rd Go.Proofs.Try.prog B 37 Cube.c (Cube.Ok B) := Cube.rd Go.Proofs.Try.underlying37 (rd_t32 B) (rd_t32 B)
theorem rd_t73 (B : Nat) : Rd Go.Proofs.Try.prog B 73 c32 (ok32 B) := rd_u32 Go.Proofs.Try.underlying73
theorem rd_t38 (B : Nat) : Rd Go.Proofs.Try.prog B 38 (cS 1 c32) (okL B (ok32 B)) := rd_slice Go.Proofs.Try.underlying38 (by kernel_rfl) (rd_t73 B)
theorem rd_t40 (B : Nat) : Rd Go.Proofs.Try.prog B 40 ActionCall.c (ActionCall.Ok B) := ActionCall.rd Go.Proofs.Try.underlying40 (rd_t3 B) (rd_t38 B)
theorem rd_t42 (B : Nat) : Rd Go.Proofs.Try.prog B 42 Args.c (Args.Ok B) := Args.rd Go.Proofs.Try.underlying42 (rd_t3 B) (rd_t3 B) (rd_t3 B) (rd_t3 B) (rd_t37 B) (rd_t40 B)
theorem rd_t5 (B : Nat) : Rd Go.Proofs.Try.prog B 5 c8 (ok8 B) := rd_u8 Go.Proofs.Try.underlying5
def tyL : List Nat := [3, 5, 32, 37, 38, 40, 42, 73]
theorem tyL_ok : plainS Go.Proofs.Try.prog tyL = true := by kernel_rfl
theorem bk_pos {H : Type} (d : DataW H) : 1 ≤ Go.Proofs.Ytdgpefplgldkfaa.Rows.uptoBulk d := by
  cases d with
  | lit l => cases l <;> simp [Go.Proofs.Ytdgpefplgldkfaa.Rows.uptoBulk]
  | nil => simp [Go.Proofs.Ytdgpefplgldkfaa.Rows.uptoBulk]
  | ptr d => simp [Go.Proofs.Ytdgpefplgldkfaa.Rows.uptoBulk]
  | slice elems spare => simp [Go.Proofs.Ytdgpefplgldkfaa.Rows.uptoBulk]
  | agg parts => simp [Go.Proofs.Ytdgpefplgldkfaa.Rows.uptoBulk]
  | iface t d => simp [Go.Proofs.Ytdgpefplgldkfaa.Rows.uptoBulk]
  | map entries => simp [Go.Proofs.Ytdgpefplgldkfaa.Rows.uptoBulk]
  | held h => simp [Go.Proofs.Ytdgpefplgldkfaa.Rows.uptoBulk]
def bk (H : Type) : BulkFn H where
  one := Go.Proofs.Ytdgpefplgldkfaa.Rows.uptoBulk
  all := Go.Proofs.Ytdgpefplgldkfaa.Rows.uptoBulkAll
  nil := by simp [Go.Proofs.Ytdgpefplgldkfaa.Rows.uptoBulkAll]
  cons := fun d r => by simp [Go.Proofs.Ytdgpefplgldkfaa.Rows.uptoBulkAll]
  slice := fun e s => by simp [Go.Proofs.Ytdgpefplgldkfaa.Rows.uptoBulk]
  agg := fun e => by simp [Go.Proofs.Ytdgpefplgldkfaa.Rows.uptoBulk]
  str := fun b => by simp [Go.Proofs.Ytdgpefplgldkfaa.Rows.uptoBulk]
  pos := bk_pos
theorem small {H : Type} {l : List (DataW H)} (h : Go.Proofs.Ytdgpefplgldkfaa.Rows.uptoSmall H l = true) : (bk H).all l ≤ bulkMax := le_bulkMax (of_decide_eq_true h)
theorem agg_t42 : isAggU Go.Proofs.Try.prog 42 = true := by kernel_rfl
theorem agg_t5 : isAggU Go.Proofs.Try.prog 5 = false := by kernel_rfl
theorem law_as (vs : List AV) (h : WTVs Go.Proofs.Try.prog bulkMax [42, 5, 5] vs) : pureI Φ 7 vs = some (.val (.bool true)) := by
  obtain ⟨a0, vs, rfl, h0, h⟩ := wtvs_cons h
  obtain ⟨a1, vs, rfl, h1, h⟩ := wtvs_cons h
  obtain ⟨a2, vs, rfl, h2, h⟩ := wtvs_cons h
  obtain rfl := wtvs_nil h
  obtain ⟨x0, rfl, o0⟩ := wtv_agg h0 agg_t42 (rd_t42 bulkMax)
  obtain ⟨x1, e1, o1⟩ := wtv_one h1 agg_t5 (rd_t5 bulkMax)
  cases e1
  obtain ⟨x2, e2, o2⟩ := wtv_one h2 agg_t5 (rd_t5 bulkMax)
  cases e2
  exact FabricValidEntries_all x0 x1 x2 o0 o1 o2
end Go.Av
namespace Go.Proofs.Ytdgpefplgldkfaa
open Go.ChangeShapes Go.WideShapes Go.ChangeAt Go.RowKit Go.Av
theorem own : ownKnob Try.prog.godebug = none := by kernel_rfl
theorem laid : laidOutB Try.prog = true := by kernel_rfl
theorem table : TableOk Try.prog ann Φ := tab_ok_of (by kernel_rfl) tab_ok (by kernel_rfl)
set_option maxRecDepth 100000 in
theorem contract (H : Type) (enc : TypeId × Value → H) (W : World) (base : Nat) (args : Array Value) (ds gs : List (DataW H)) (before : List MemPlace)
    (hval : ∀ (j : Nat) t v, Try.f7.params[j]? = some t → args[j]? = some v → Value.okWide Try.prog W .any base t v)
    (hW : DataW.Whole enc Try.prog Try.f7.params.toList Rows.fabricValidEntriesSpec.vars false W args.toList ds gs before) (hk : Rows.uptoSmall H (ds ++ gs) = true) :
    Calls Try.prog 7 args W fun e W' => ∃ v, e = .returned v ∧ Rows.fabricValidEntriesSpec.post enc Try.prog Try.f7 false true false false W args v W' :=
  row_calls2 table laid (tb := Try.f7.resultTypes[0]!) rfl rfl (by kernel_rfl) (by kernel_rfl) (bk H) tyL_ok (by kernel_rfl) hval hW
    (fun l hl => by
      match l, hl with
      | [d0, d1, d2], _ => rfl)
    (small hk) (fun vs h => law_as vs (by rw [Try.params7] at h; exact h))
set_option maxRecDepth 100000 in
theorem lifted (os : Os) (started : os.Started) (H : Type) (enc : TypeId × Value → H) (F : Stop.Interp) :
    ReturnsInHanded {} Try.checked os 7 .any ((Rows.OpenSpec.upto Rows.fabricValidEntriesSpec).pre6 enc Try.prog Try.f7 Rows.fabricValidEntriesUptoRow.domain false) (((Rows.OpenSpec.upto Rows.fabricValidEntriesSpec).at F).post enc Try.prog Try.f7 false true false false) := by
  refine returnsInHanded_of_cond (C := Try.checked) (s := Rows.OpenSpec.upto Rows.fabricValidEntriesSpec) (k := Rows.uptoSmall) rfl own started (by kernel_rfl) Try.func7
    (OpenSpec.witness (enc := enc) (C := Try.checked) (s := Rows.OpenSpec.upto Rows.fabricValidEntriesSpec) (k := Rows.uptoSmall) rfl false ⟨#[], #[.agg #[.int .i64 0, .int .i64 0, .int .i64 0, .int .i64 0, .int .u64 0, .int .u64 0, .int .i64 0, .slice none 0 0], .int .u8 0, .int .u8 0], []⟩ 24 (by kernel_rfl) (by kernel_rfl) (by kernel_rfl)
      (x := ([.agg [.lit (.int .i64 0), .lit (.int .i64 0), .lit (.int .i64 0), .lit (.int .i64 0), .agg [.lit (.int .u64 0), .lit (.int .u64 0)], .agg [.lit (.int .i64 0), .nil]], .lit (.int .u8 0), .lit (.int .u8 0)], [], [])) (by kernel_rfl) rfl (by kernel_rfl)) ?_
  intro W base args ds gs before hval hW _ hk _
  exact contract H enc W base args ds gs before hval hW hk
theorem proved : Rows.FabricValidEntriesUptoSaid :=
  OpenClaim.holds_of_cond 7 Try.f7 rfl rfl rfl rfl rfl rfl rfl ⟨rfl, rfl, rfl, rfl, rfl⟩ rfl rfl rfl rfl rfl (by kernel_rfl) Try.func7 (by kernel_rfl)
    (of_decide_eq_true (by kernel_rfl)) (by unfold Func.isWrapper; first | (rw [if_pos (by decide +kernel)]; kernel_rfl) | (rw [if_neg (by decide +kernel)]; exact ⟨rfl, rfl⟩))
    (fun os started H enc _ F => lifted os started H enc F)
end Go.Proofs.Ytdgpefplgldkfaa
