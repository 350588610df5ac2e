/-
  Lemmas for the law.
-/
import Derived.Test.YtdgpefplgldkfaaE6
set_option linter.unusedVariables false
set_option linter.unusedSimpArgs false
set_option linter.constructorNameAsVariable false
namespace Go.Av
set_option maxRecDepth 4000
def wi (x : KeyMatch) : KeyMatch := ⟨iand .u32 x.value x.mask, x.mask⟩
theorem within_ok (k : List KeyMatch) (p a : Int) (l : List Int) (hk : k.length ≤ 6) : pureI Φ f_law46_within [.agg [.slice 2 (k.map KeyMatch.c), .int .i64 p, .int .i64 a, .slice 1 (l.map c32)]] =
    some (.val (.agg [.slice 2 ((k.map wi).map KeyMatch.c), .int .i64 p, .int .i64 a, .slice 1 (l.map c32)])) := by
  rw [pureI_go (fn := c_law46_within) rfl rfl]
  simp [c_law46_within, -List.map_map]
  refine loop_nat k.length (fun i e h => look 1 e = some (.ptr 0 4 0 0) ∧ look 2 e = some (.ptr 1 4 0 0) ∧ look 3 e = some (.app 2 ((k.map (KeyMatch.c ∘ wi)).take i) 2) ∧ look 4 e = some (.int .i64 i) ∧
     ∃ T n, Tail T (n + 3) ∧ h = ⟨(0, AO.row 4 [[AV.slice 2 (List.map KeyMatch.c k), AV.int IntKind.i64 p, AV.int IntKind.i64 a, AV.slice 1 (List.map c32 l)]]) ::
       (1, AO.row 4 [[AV.fslice 2 [], AV.int IntKind.i64 0, AV.int IntKind.i64 0, AV.fslice 1 []]]) :: (2, AO.tok 2 i) :: T, n + 3⟩) (fun _ => _) ?_ ?_ 0 _ _ (Nat.zero_le _) ?_
  · rintro i e _ L hi hL ⟨h1, h2, h3, h4, T, n, hT, rfl⟩ ih
    have hw : IntKind.wrap .i64 ((i : Int) + 1) = ((i + 1 : Nat) : Int) := wrap64 (by omega) (by omega)
    have hT' := hT (n + 3) (Nat.le_refl _)
    have hb : (i + 1) * 8 ≤ 70368744177664 := by omega
    have hm : min i k.length = i := by omega
    simp [c_law46_within_l0, KeyMatch.c, h1, h2, h3, h4, hi, hL, hw, hT', hm, hb]
    refine (ih _ _ ⟨by simp [h1], by simp [h2], by simp [take_map_succ hi, KeyMatch.c, wi], by simp, _, n + 1, hT.app _, rfl⟩).trans (by simp)
  · rintro e _ L hL ⟨h1, h2, h3, h4, T, n, hT, rfl⟩
    simp [c_law46_within_l0, c_law46_within_k1, *]
    exact List.take_of_length_le (by simp)
  · simp
    exact Tail.nil 3
def ks1 (p : Int) : List KeyMatch := [⟨low8 p, 255⟩]
def ar1 (v : Int) : List Int := [low8 v]
def ksF (port ver v m : Int) : List KeyMatch := [⟨low8 port, 255⟩, ⟨low8 ver, 255⟩, ⟨low8 0, 255⟩, ⟨low8 (ishr .u64 v 16), low8 (ishr .u64 m 16)⟩, ⟨low8 (ishr .u64 v 8), low8 (ishr .u64 m 8)⟩, ⟨low8 (ishr .u64 v 0), low8 (ishr .u64 m 0)⟩]
def ksN (ver lab : Int) : List KeyMatch := [⟨0, 0⟩, ⟨low8 ver, 255⟩, ⟨low8 lab, 255⟩, ⟨0, 0⟩, ⟨0, 0⟩, ⟨0, 0⟩]
def ent (k : List KeyMatch) (p a : Int) (l : List Int) : List AV := [.slice 2 (k.map KeyMatch.c), .int .i64 p, .int .i64 a, .slice 1 (l.map c32)]
theorem ing1 (p v : Int) : pureI Φ f_fabric_IngressEntry [.int .i64 p, .int .i64 v] = some (.val (.agg [.slice 2 ((ks1 p).map KeyMatch.c), .int .i64 0, .int .i64 0, .slice 1 ((ar1 v).map c32)])) := by
  rw [IngressEntry_ok]; rfl
theorem ing2 (p v : Int) : pureI Φ f_ref46_IngressEntry [.int .i64 p, .int .i64 v] = some (.val (.agg [.slice 2 ((ks1 p).map KeyMatch.c), .int .i64 0, .int .i64 0, .slice 1 ((ar1 v).map c32)])) := by
  rw [rIngressEntry_ok]; rfl
def nilI : List Int := []
theorem trk1 (p : Int) : pureI Φ f_fabric_TrunkEntry [.int .i64 p] = some (.val (.agg [.slice 2 ((ks1 p).map KeyMatch.c), .int .i64 0, .int .i64 1, .slice 1 (nilI.map c32)])) := by
  rw [TrunkEntry_ok]; rfl
theorem trk2 (p : Int) : pureI Φ f_ref46_TrunkEntry [.int .i64 p] = some (.val (.agg [.slice 2 ((ks1 p).map KeyMatch.c), .int .i64 0, .int .i64 1, .slice 1 (nilI.map c32)])) := by
  rw [rTrunkEntry_ok]; rfl
theorem fh1 (port ver prio v m a : Int) (l : List Int) (hl : l.length ≤ 20) : pureI Φ f_fabric_FirstHopEntry [.int .i64 port, .int .i64 ver, .int .i64 prio, .agg [.int .u64 v, .int .u64 m], .agg [.int .i64 a, .slice 1 (l.map c32)]] =
    some (.val (.agg [.slice 2 ((ksF port ver v m).map KeyMatch.c), .int .i64 prio, .int .i64 a, .slice 1 (l.map c32)])) := FirstHopEntry_ok port ver prio v m a l hl
theorem fh2 (port ver prio v m a : Int) (l : List Int) : pureI Φ f_ref46_FirstHopEntry [.int .i64 port, .int .i64 ver, .int .i64 prio, .agg [.int .u64 v, .int .u64 m], .agg [.int .i64 a, .slice 1 (l.map c32)]] =
    some (.val (.agg [.slice 2 ((ksF port ver v m).map KeyMatch.c), .int .i64 prio, .int .i64 a, .slice 1 (l.map c32)])) := rFirstHopEntry_ok port ver prio v m a l
theorem nh1 (ver lab a : Int) (l : List Int) (hl : l.length ≤ 20) : pureI Φ f_fabric_NextHopEntry [.int .i64 ver, .int .i64 lab, .agg [.int .i64 a, .slice 1 (l.map c32)]] =
    some (.val (.agg [.slice 2 ((ksN ver lab).map KeyMatch.c), .int .i64 0, .int .i64 a, .slice 1 (l.map c32)])) := NextHopEntry_ok ver lab a l hl
theorem nh2 (ver lab a : Int) (l : List Int) : pureI Φ f_ref46_NextHopEntry [.int .i64 ver, .int .i64 lab, .agg [.int .i64 a, .slice 1 (l.map c32)]] =
    some (.val (.agg [.slice 2 ((ksN ver lab).map KeyMatch.c), .int .i64 0, .int .i64 a, .slice 1 (l.map c32)])) := rNextHopEntry_ok ver lab a l
theorem FabricEntries_ok (port ver lab prio v m a : Int) (l : List Int) (hw : pureI Φ f_law46_works [] = some (.val (.bool true))) :
    pureI Φ f_law46_FabricEntries [.agg [.int .i64 port, .int .i64 ver, .int .i64 lab, .int .i64 prio, .int .u64 v, .int .u64 m, .int .i64 a, .slice 1 (l.map c32)]] = some (.val (.bool true)) := by
  rw [pureI_go (fn := c_law46_FabricEntries) rfl rfl]
  simp [c_law46_FabricEntries]
  refine condG_split (fun h => ?_) (fun h => ?_) <;> simp at h
  · simp [hw]
  · have hl : l.length ≤ 20 := by omega
    have e1 : ∀ p, (ks1 p).length < 1099511627776 := fun p => by simp [ks1]
    have e2 : ∀ p, (ar1 p).length < 1099511627776 := fun p => by simp [ar1]
    have e3 : nilI.length < 1099511627776 := by simp [nilI]
    have e4 : (ksF port ver v m).length < 1099511627776 := by simp [ksF]
    have e5 : (ksF port ver v m).length ≤ 6 := by simp [ksF]
    have e6 : (ksN ver lab).length < 1099511627776 := by simp [ksN]
    have e7 : l.length < 1099511627776 := by omega
    simp [hw, ing1, ing2, trk1, trk2, fh1, fh2, nh1, nh2, Equal_ok, within_ok, e1, e2, e3, e4, e5, e6, e7, hl, -List.map_map]
end Go.Av
