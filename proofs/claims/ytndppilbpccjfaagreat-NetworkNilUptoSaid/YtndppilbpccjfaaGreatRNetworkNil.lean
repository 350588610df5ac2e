/-
  The law 'NetworkNil' returns true at every input whose readings are of bulk at most 1048576, and leaves its arguments as they were.
  Conditions: none but that bound, which the given statement itself bears.
-/
import Derived.Test.YtndppilbpccjfaaGreatN48
import Derived.Test.YtndppilbpccjfaaGreatFunsBN
import Derived.Test.YtndppilbpccjfaaGreatRNetworkNilFa
import Derived.Test.YtndppilbpccjfaaGreatRNetworkNilFb
import Derived.Test.YtndppilbpccjfaaGreatRNetworkNilFc
import Derived.KernelRfl
import Derived.ClosedOfChecked
set_option linter.unusedVariables false
set_option linter.unusedSimpArgs false
set_option linter.constructorNameAsVariable false
namespace Go.Av
theorem rd_t3 (B : Nat) : Rd Go.Proofs.Tryz.prog B 3 cI (okI B) := rd_int Go.Proofs.Tryz.underlying3
theorem rd_t5 (B : Nat) : Rd Go.Proofs.Tryz.prog B 5 c8 (ok8 B) := rd_u8 Go.Proofs.Tryz.underlying5
theorem rd_t89 (B : Nat) : Rd Go.Proofs.Tryz.prog B 89 (cS 1 c8) (okL B (ok8 B)) := rd_slice Go.Proofs.Tryz.underlying89 (by kernel_rfl) (rd_t5 B)
def tyL : List Nat := [3, 5, 89]
theorem tyL_ok : plainS Go.Proofs.Tryz.prog tyL = true := by kernel_rfl
theorem bk_pos {H : Type} (d : DataW H) : 1 ≤ Go.Proofs.YtndppilbpccjfaaGreat.Rows.uptoBulk d := by
  cases d with
  | lit l => cases l <;> simp [Go.Proofs.YtndppilbpccjfaaGreat.Rows.uptoBulk]
  | nil => simp [Go.Proofs.YtndppilbpccjfaaGreat.Rows.uptoBulk]
  | ptr d => simp [Go.Proofs.YtndppilbpccjfaaGreat.Rows.uptoBulk]
  | slice elems spare => simp [Go.Proofs.YtndppilbpccjfaaGreat.Rows.uptoBulk]
  | agg parts => simp [Go.Proofs.YtndppilbpccjfaaGreat.Rows.uptoBulk]
  | iface t d => simp [Go.Proofs.YtndppilbpccjfaaGreat.Rows.uptoBulk]
  | map entries => simp [Go.Proofs.YtndppilbpccjfaaGreat.Rows.uptoBulk]
  | held h => simp [Go.Proofs.YtndppilbpccjfaaGreat.Rows.uptoBulk]
def bk (H : Type) : BulkFn H where
  one := Go.Proofs.YtndppilbpccjfaaGreat.Rows.uptoBulk
  all := Go.Proofs.YtndppilbpccjfaaGreat.Rows.uptoBulkAll
  nil := by simp [Go.Proofs.YtndppilbpccjfaaGreat.Rows.uptoBulkAll]
  cons := fun d r => by simp [Go.Proofs.YtndppilbpccjfaaGreat.Rows.uptoBulkAll]
  slice := fun e s => by simp [Go.Proofs.YtndppilbpccjfaaGreat.Rows.uptoBulk]
  agg := fun e => by simp [Go.Proofs.YtndppilbpccjfaaGreat.Rows.uptoBulk]
  str := fun b => by simp [Go.Proofs.YtndppilbpccjfaaGreat.Rows.uptoBulk]
  pos := bk_pos
theorem small {H : Type} {l : List (DataW H)} (h : Go.Proofs.YtndppilbpccjfaaGreat.Rows.uptoSmall H l = true) : (bk H).all l ≤ bulkMax := le_bulkMax (of_decide_eq_true h)
theorem agg_t3 : isAggU Go.Proofs.Tryz.prog 3 = false := by kernel_rfl
theorem agg_t89 : isAggU Go.Proofs.Tryz.prog 89 = false := by kernel_rfl
theorem law_as (vs : List AV) (h : WTVs Go.Proofs.Tryz.prog bulkMax [3, 3, 89] vs) : pureI Φ 8 vs = some (.val (.bool true)) := by
  obtain ⟨a0, vs, rfl, h0, h⟩ := wtvs_cons h
  obtain ⟨a1, vs, rfl, h1, h⟩ := wtvs_cons h
  obtain ⟨a2, vs, rfl, h2, h⟩ := wtvs_cons h
  obtain rfl := wtvs_nil h
  obtain ⟨x0, e0, o0⟩ := wtv_one h0 agg_t3 (rd_t3 bulkMax)
  cases e0
  obtain ⟨x1, e1, o1⟩ := wtv_one h1 agg_t3 (rd_t3 bulkMax)
  cases e1
  obtain ⟨x2, e2, o2⟩ := wtv_one h2 agg_t89 (rd_t89 bulkMax)
  cases e2
  exact NetworkNil_all x0 x1 x2 o0 o1 o2
end Go.Av
namespace Go.Proofs.YtndppilbpccjfaaGreat
open Go.ChangeShapes Go.WideShapes Go.ChangeAt Go.RowKit Go.Av
theorem own : ownKnob Tryz.prog.godebug = none := by kernel_rfl
theorem laid : laidOutB Tryz.prog = true := closed2.1
theorem facts : joinedFacts Tryz.checked.prog 8 Tryz.f8 (Rows.OpenSpec.upto Rows.networkNilSpec).bare Rows.networkNilUptoRow = true := by
  unfold joinedFacts
  rw [closed2.1, closed2.2, fa1, fa2, fa3, fa4, fa5, fa6, pf1, pf2]
  kernel_rfl
theorem table : TableOk Tryz.prog ann Φ := tabX_ok_of (by kernel_rfl) tab_ok (by kernel_rfl) tabD_ok (by kernel_rfl) tabC_ok1 tabC_ok2 (by kernel_rfl)
set_option maxRecDepth 100000 in
theorem contract (H : Type) (enc : TypeId × Value → H) (W : World) (base : Nat) (args : Array Value) (ds gs : List (DataW H)) (before : List MemPlace)
    (hval : ∀ (j : Nat) t v, Tryz.f8.params[j]? = some t → args[j]? = some v → Value.okWide Tryz.prog W .any base t v)
    (hW : DataW.Whole enc Tryz.prog Tryz.f8.params.toList Rows.networkNilSpec.vars false W args.toList ds gs before) (hk : Rows.uptoSmall H (ds ++ gs) = true) :
    Calls Tryz.prog 8 args W fun e W' => ∃ v, e = .returned v ∧ Rows.networkNilSpec.post enc Tryz.prog Tryz.f8 false true false false W args v W' :=
  row_calls2 table laid (tb := Tryz.f8.resultTypes[0]!) rfl rfl (by kernel_rfl) (by kernel_rfl) (bk H) tyL_ok (by kernel_rfl) hval hW
    (fun l hl => by
      match l, hl with
      | [d0, d1, d2], _ => rfl)
    (small hk) (fun vs h => law_as vs (by rw [Tryz.params8] at h; exact h))
set_option maxRecDepth 100000 in
theorem lifted (os : Os) (started : os.Started) (H : Type) (enc : TypeId × Value → H) (F : Stop.Interp) :
    ReturnsInHanded {} Tryz.checked os 8 .any ((Rows.OpenSpec.upto Rows.networkNilSpec).pre6 enc Tryz.prog Tryz.f8 Rows.networkNilUptoRow.domain false) (((Rows.OpenSpec.upto Rows.networkNilSpec).at F).post enc Tryz.prog Tryz.f8 false true false false) := by
  refine returnsInHanded_of_cond (C := Tryz.checked) (s := Rows.OpenSpec.upto Rows.networkNilSpec) (k := Rows.uptoSmall) rfl own started (by kernel_rfl) Tryz.func8
    (OpenSpec.witness (enc := enc) (C := Tryz.checked) (s := Rows.OpenSpec.upto Rows.networkNilSpec) (k := Rows.uptoSmall) rfl false ⟨#[], #[.int .i64 0, .int .i64 0, .slice none 0 0], []⟩ 24 (by kernel_rfl) (by kernel_rfl) (by kernel_rfl)
      (x := ([.lit (.int .i64 0), .lit (.int .i64 0), .nil], [], [])) (by kernel_rfl) rfl (by kernel_rfl)) ?_
  intro W base args ds gs before hval hW _ hk _
  exact contract H enc W base args ds gs before hval hW hk
theorem proved : Rows.NetworkNilUptoSaid :=
  OpenClaim.holds_of_cond 8 Tryz.f8 rfl rfl rfl rfl rfl rfl rfl ⟨rfl, rfl, rfl, rfl, rfl⟩ rfl rfl rfl rfl rfl (by kernel_rfl) Tryz.func8 facts
    (of_decide_eq_true (by kernel_rfl)) (by unfold Func.isWrapper; first | (rw [if_pos (by decide +kernel)]; kernel_rfl) | (rw [if_neg (by decide +kernel)]; exact ⟨rfl, rfl⟩))
    (fun os started H enc _ F => lifted os started H enc F)
end Go.Proofs.YtndppilbpccjfaaGreat
