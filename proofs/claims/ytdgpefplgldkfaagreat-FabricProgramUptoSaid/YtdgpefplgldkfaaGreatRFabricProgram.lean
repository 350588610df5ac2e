/-
  The law 'FabricProgram' returns true at every input whose readings are of bulk at most 1048576, and leaves its arguments as they were.
  Conditions: none but that bound, which the given statement itself bears.
-/
import Derived.Test.YtdgpefplgldkfaaGreatWZ46
import Derived.Test.YtdgpefplgldkfaaGreatFunsBZ
import Derived.KernelRfl
set_option linter.unusedVariables false
set_option linter.unusedSimpArgs false
set_option linter.constructorNameAsVariable false
namespace Go.Av

def tyL : List Nat := []
theorem tyL_ok : plainS Go.Proofs.Tryz.prog tyL = true := by kernel_rfl
theorem bk_pos {H : Type} (d : DataW H) : 1 ≤ Go.Proofs.YtdgpefplgldkfaaGreat.Rows.uptoBulk d := by
  cases d with
  | lit l => cases l <;> simp [Go.Proofs.YtdgpefplgldkfaaGreat.Rows.uptoBulk]
  | nil => simp [Go.Proofs.YtdgpefplgldkfaaGreat.Rows.uptoBulk]
  | ptr d => simp [Go.Proofs.YtdgpefplgldkfaaGreat.Rows.uptoBulk]
  | slice elems spare => simp [Go.Proofs.YtdgpefplgldkfaaGreat.Rows.uptoBulk]
  | agg parts => simp [Go.Proofs.YtdgpefplgldkfaaGreat.Rows.uptoBulk]
  | iface t d => simp [Go.Proofs.YtdgpefplgldkfaaGreat.Rows.uptoBulk]
  | map entries => simp [Go.Proofs.YtdgpefplgldkfaaGreat.Rows.uptoBulk]
  | held h => simp [Go.Proofs.YtdgpefplgldkfaaGreat.Rows.uptoBulk]
def bk (H : Type) : BulkFn H where
  one := Go.Proofs.YtdgpefplgldkfaaGreat.Rows.uptoBulk
  all := Go.Proofs.YtdgpefplgldkfaaGreat.Rows.uptoBulkAll
  nil := by simp [Go.Proofs.YtdgpefplgldkfaaGreat.Rows.uptoBulkAll]
  cons := fun d r => by simp [Go.Proofs.YtdgpefplgldkfaaGreat.Rows.uptoBulkAll]
  slice := fun e s => by simp [Go.Proofs.YtdgpefplgldkfaaGreat.Rows.uptoBulk]
  agg := fun e => by simp [Go.Proofs.YtdgpefplgldkfaaGreat.Rows.uptoBulk]
  str := fun b => by simp [Go.Proofs.YtdgpefplgldkfaaGreat.Rows.uptoBulk]
  pos := bk_pos
theorem small {H : Type} {l : List (DataW H)} (h : Go.Proofs.YtdgpefplgldkfaaGreat.Rows.uptoSmall H l = true) : (bk H).all l ≤ bulkMax := le_bulkMax (of_decide_eq_true h)
theorem law_as (vs : List AV) (h : WTVs Go.Proofs.Tryz.prog bulkMax [] vs) : pureI Φ 3 vs = some (.val (.bool true)) := by
  obtain rfl := wtvs_nil h
  exact FabricProgram_all  
end Go.Av
namespace Go.Proofs.YtdgpefplgldkfaaGreat
open Go.ChangeShapes Go.WideShapes Go.ChangeAt Go.RowKit Go.Av
theorem own : ownKnob Tryz.prog.godebug = none := by kernel_rfl
theorem laid : laidOutB Tryz.prog = true := by kernel_rfl
theorem table : TableOk Tryz.prog ann Φ := tabD_ok_of (by kernel_rfl) tab_ok (by kernel_rfl) tabD_ok (by kernel_rfl)
set_option maxRecDepth 100000 in
theorem contract (H : Type) (enc : TypeId × Value → H) (W : World) (base : Nat) (args : Array Value) (ds gs : List (DataW H)) (before : List MemPlace)
    (hval : ∀ (j : Nat) t v, Tryz.f3.params[j]? = some t → args[j]? = some v → Value.okWide Tryz.prog W .any base t v)
    (hW : DataW.Whole enc Tryz.prog Tryz.f3.params.toList Rows.fabricProgramSpec.vars false W args.toList ds gs before) (hk : Rows.uptoSmall H (ds ++ gs) = true) :
    Calls Tryz.prog 3 args W fun e W' => ∃ v, e = .returned v ∧ Rows.fabricProgramSpec.post enc Tryz.prog Tryz.f3 false true false false W args v W' :=
  row_calls2 table laid (tb := Tryz.f3.resultTypes[0]!) rfl rfl (by kernel_rfl) (by kernel_rfl) (bk H) tyL_ok (by kernel_rfl) hval hW
    (fun l hl => by
      match l, hl with
      | [], _ => rfl)
    (small hk) (fun vs h => law_as vs (by rw [Tryz.params3] at h; exact h))
set_option maxRecDepth 100000 in
theorem lifted (os : Os) (started : os.Started) (H : Type) (enc : TypeId × Value → H) (F : Stop.Interp) :
    ReturnsInHanded {} Tryz.checked os 3 .any ((Rows.OpenSpec.upto Rows.fabricProgramSpec).pre6 enc Tryz.prog Tryz.f3 Rows.fabricProgramUptoRow.domain false) (((Rows.OpenSpec.upto Rows.fabricProgramSpec).at F).post enc Tryz.prog Tryz.f3 false true false false) := by
  refine returnsInHanded_of_cond (C := Tryz.checked) (s := Rows.OpenSpec.upto Rows.fabricProgramSpec) (k := Rows.uptoSmall) rfl own started (by kernel_rfl) Tryz.func3
    (OpenSpec.witness (enc := enc) (C := Tryz.checked) (s := Rows.OpenSpec.upto Rows.fabricProgramSpec) (k := Rows.uptoSmall) rfl false ⟨#[], #[], []⟩ 24 (by kernel_rfl) (by kernel_rfl) (by kernel_rfl)
      (x := ([], [], [])) (by kernel_rfl) rfl (by kernel_rfl)) ?_
  intro W base args ds gs before hval hW _ hk _
  exact contract H enc W base args ds gs before hval hW hk
theorem proved : Rows.FabricProgramUptoSaid :=
  OpenClaim.holds_of_cond 3 Tryz.f3 rfl rfl rfl rfl rfl rfl rfl ⟨rfl, rfl, rfl, rfl, rfl⟩ rfl rfl rfl rfl rfl (by kernel_rfl) Tryz.func3 (by kernel_rfl)
    (of_decide_eq_true (by kernel_rfl)) (by unfold Func.isWrapper; first | (rw [if_pos (by decide +kernel)]; kernel_rfl) | (rw [if_neg (by decide +kernel)]; exact ⟨rfl, rfl⟩))
    (fun os started H enc _ F => lifted os started H enc F)
end Go.Proofs.YtdgpefplgldkfaaGreat
