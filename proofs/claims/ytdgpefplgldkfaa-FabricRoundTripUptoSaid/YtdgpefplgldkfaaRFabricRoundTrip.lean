/-
  The law 'FabricRoundTrip' returns true at every input whose readings are of bulk at most 1048576, and leaves its arguments as they were.
  Conditions: none but that bound, which the given statement itself bears.
-/
import Derived.Test.YtdgpefplgldkfaaL46RT
import Derived.Test.YtdgpefplgldkfaaFunsB
import Derived.Test.YtdgpefplgldkfaaRFabricRoundTripFa
import Derived.Test.YtdgpefplgldkfaaRFabricRoundTripFb
import Derived.Test.YtdgpefplgldkfaaRFabricRoundTripFc
import Derived.KernelRfl
import Derived.ClosedOfChecked
set_option linter.unusedVariables false
set_option linter.unusedSimpArgs false
set_option linter.constructorNameAsVariable false
namespace Go.Av
theorem rd_t5 (B : Nat) : Rd Go.Proofs.Try.prog B 5 c8 (ok8 B) := rd_u8 Go.Proofs.Try.underlying5
theorem rd_t26 (B : Nat) : Rd Go.Proofs.Try.prog B 26 Flow.c (Flow.Ok B) := Flow.rd Go.Proofs.Try.underlying26 (rd_t5 B) (rd_t5 B) (rd_t5 B)
theorem rd_t22 (B : Nat) : Rd Go.Proofs.Try.prog B 22 (cS 1 c8) (okL B (ok8 B)) := rd_slice Go.Proofs.Try.underlying22 (by kernel_rfl) (rd_t5 B)
def tyL : List Nat := [5, 22, 26]
theorem tyL_ok : plainS Go.Proofs.Try.prog tyL = true := by kernel_rfl
theorem bk_pos {H : Type} (d : DataW H) : 1 ≤ Go.Proofs.Ytdgpefplgldkfaa.Rows.uptoBulk d := by
  cases d with
  | lit l => cases l <;> simp [Go.Proofs.Ytdgpefplgldkfaa.Rows.uptoBulk]
  | nil => simp [Go.Proofs.Ytdgpefplgldkfaa.Rows.uptoBulk]
  | ptr d => simp [Go.Proofs.Ytdgpefplgldkfaa.Rows.uptoBulk]
  | slice elems spare => simp [Go.Proofs.Ytdgpefplgldkfaa.Rows.uptoBulk]
  | agg parts => simp [Go.Proofs.Ytdgpefplgldkfaa.Rows.uptoBulk]
  | iface t d => simp [Go.Proofs.Ytdgpefplgldkfaa.Rows.uptoBulk]
  | map entries => simp [Go.Proofs.Ytdgpefplgldkfaa.Rows.uptoBulk]
  | held h => simp [Go.Proofs.Ytdgpefplgldkfaa.Rows.uptoBulk]
def bk (H : Type) : BulkFn H where
  one := Go.Proofs.Ytdgpefplgldkfaa.Rows.uptoBulk
  all := Go.Proofs.Ytdgpefplgldkfaa.Rows.uptoBulkAll
  nil := by simp [Go.Proofs.Ytdgpefplgldkfaa.Rows.uptoBulkAll]
  cons := fun d r => by simp [Go.Proofs.Ytdgpefplgldkfaa.Rows.uptoBulkAll]
  slice := fun e s => by simp [Go.Proofs.Ytdgpefplgldkfaa.Rows.uptoBulk]
  agg := fun e => by simp [Go.Proofs.Ytdgpefplgldkfaa.Rows.uptoBulk]
  str := fun b => by simp [Go.Proofs.Ytdgpefplgldkfaa.Rows.uptoBulk]
  pos := bk_pos
theorem small {H : Type} {l : List (DataW H)} (h : Go.Proofs.Ytdgpefplgldkfaa.Rows.uptoSmall H l = true) : (bk H).all l ≤ bulkMax := le_bulkMax (of_decide_eq_true h)
theorem agg_t26 : isAggU Go.Proofs.Try.prog 26 = true := by kernel_rfl
theorem agg_t22 : isAggU Go.Proofs.Try.prog 22 = false := by kernel_rfl
theorem law_as (vs : List AV) (h : WTVs Go.Proofs.Try.prog bulkMax [26, 26, 22] vs) : pureI Φ 4 vs = some (.val (.bool true)) := by
  obtain ⟨a0, vs, rfl, h0, h⟩ := wtvs_cons h
  obtain ⟨a1, vs, rfl, h1, h⟩ := wtvs_cons h
  obtain ⟨a2, vs, rfl, h2, h⟩ := wtvs_cons h
  obtain rfl := wtvs_nil h
  obtain ⟨x0, rfl, o0⟩ := wtv_agg h0 agg_t26 (rd_t26 bulkMax)
  obtain ⟨x1, rfl, o1⟩ := wtv_agg h1 agg_t26 (rd_t26 bulkMax)
  obtain ⟨x2, e2, o2⟩ := wtv_one h2 agg_t22 (rd_t22 bulkMax)
  cases e2
  exact FabricRoundTrip_all x0 x1 x2 o0 o1 o2
end Go.Av
namespace Go.Proofs.Ytdgpefplgldkfaa
open Go.ChangeShapes Go.WideShapes Go.ChangeAt Go.RowKit Go.Av
theorem own : ownKnob Try.prog.godebug = none := by kernel_rfl
theorem laid : laidOutB Try.prog = true := closed2.1
theorem facts : joinedFacts Try.checked.prog 4 Try.f4 (Rows.OpenSpec.upto Rows.fabricRoundTripSpec).bare Rows.fabricRoundTripUptoRow = true := by
  unfold joinedFacts
  rw [closed2.1, closed2.2, fa1, fa2, fa3, fa4, fa5, fa6, pf1, pf2]
  kernel_rfl
theorem table : TableOk Try.prog ann Φ := tabX_ok_of (by kernel_rfl) tab_ok (by kernel_rfl) tabD_ok (by kernel_rfl) tabC_ok1 tabC_ok2 (by kernel_rfl)
set_option maxRecDepth 100000 in
theorem contract (H : Type) (enc : TypeId × Value → H) (W : World) (base : Nat) (args : Array Value) (ds gs : List (DataW H)) (before : List MemPlace)
    (hval : ∀ (j : Nat) t v, Try.f4.params[j]? = some t → args[j]? = some v → Value.okWide Try.prog W .any base t v)
    (hW : DataW.Whole enc Try.prog Try.f4.params.toList Rows.fabricRoundTripSpec.vars false W args.toList ds gs before) (hk : Rows.uptoSmall H (ds ++ gs) = true) :
    Calls Try.prog 4 args W fun e W' => ∃ v, e = .returned v ∧ Rows.fabricRoundTripSpec.post enc Try.prog Try.f4 false true false false W args v W' :=
  row_calls2 table laid (tb := Try.f4.resultTypes[0]!) rfl rfl (by kernel_rfl) (by kernel_rfl) (bk H) tyL_ok (by kernel_rfl) hval hW
    (fun l hl => by
      match l, hl with
      | [d0, d1, d2], _ => rfl)
    (small hk) (fun vs h => law_as vs (by rw [Try.params4] at h; exact h))
set_option maxRecDepth 100000 in
theorem lifted (os : Os) (started : os.Started) (H : Type) (enc : TypeId × Value → H) (F : Stop.Interp) :
    ReturnsInHanded {} Try.checked os 4 .any ((Rows.OpenSpec.upto Rows.fabricRoundTripSpec).pre6 enc Try.prog Try.f4 Rows.fabricRoundTripUptoRow.domain false) (((Rows.OpenSpec.upto Rows.fabricRoundTripSpec).at F).post enc Try.prog Try.f4 false true false false) := by
  refine returnsInHanded_of_cond (C := Try.checked) (s := Rows.OpenSpec.upto Rows.fabricRoundTripSpec) (k := Rows.uptoSmall) rfl own started (by kernel_rfl) Try.func4
    (OpenSpec.witness (enc := enc) (C := Try.checked) (s := Rows.OpenSpec.upto Rows.fabricRoundTripSpec) (k := Rows.uptoSmall) rfl false ⟨#[], #[.agg #[.int .u8 0, .int .u8 0, .int .u8 0], .agg #[.int .u8 0, .int .u8 0, .int .u8 0], .slice none 0 0], []⟩ 24 (by kernel_rfl) (by kernel_rfl) (by kernel_rfl)
      (x := ([.agg [.lit (.int .u8 0), .lit (.int .u8 0), .lit (.int .u8 0)], .agg [.lit (.int .u8 0), .lit (.int .u8 0), .lit (.int .u8 0)], .nil], [], [])) (by kernel_rfl) rfl (by kernel_rfl)) ?_
  intro W base args ds gs before hval hW _ hk _
  exact contract H enc W base args ds gs before hval hW hk
theorem proved : Rows.FabricRoundTripUptoSaid :=
  OpenClaim.holds_of_cond 4 Try.f4 rfl rfl rfl rfl rfl rfl rfl ⟨rfl, rfl, rfl, rfl, rfl⟩ rfl rfl rfl rfl rfl (by kernel_rfl) Try.func4 facts
    (of_decide_eq_true (by kernel_rfl)) (by unfold Func.isWrapper; first | (rw [if_pos (by decide +kernel)]; kernel_rfl) | (rw [if_neg (by decide +kernel)]; exact ⟨rfl, rfl⟩))
    (fun os started H enc _ F => lifted os started H enc F)
end Go.Proofs.Ytdgpefplgldkfaa
