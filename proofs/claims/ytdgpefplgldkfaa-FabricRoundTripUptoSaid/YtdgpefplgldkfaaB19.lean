/-
  Lemmas for the law.
-/
import Derived.Test.YtdgpefplgldkfaaB18
set_option linter.unusedVariables false
set_option linter.unusedSimpArgs false
set_option linter.constructorNameAsVariable false
namespace Go.Av
set_option maxRecDepth 8000
def eZl : List AV := [.slice 1 [[.bool false], [.bool false], [.bool false]], .slice 1 [[.slice 1 [[.int .u32 0]]], [.slice 1 [[.int .u32 0], [.int .u32 0]]], [.slice 1 [[.int .u32 0], [.int .u32 0], [.int .u32 0]]]], .slice 1 meta0, .slice 1 []]
theorem eZ_eq : eZ = .agg eZl := rfl
def okE (vs : List Bool) (gs : List (List Int)) (rest : List Int) : List AV := [.slice 1 (vs.map fun b => [.bool b]), .slice 1 (gs.map fun g => [.slice 1 (g.map c32)]), .slice 1 meta0, .slice 1 (rest.map c8)]
def decR : List Int → List AV × Int
  | [] => (eZl, 3)
  | v :: t =>
    if v = 1 then (if t.length < 3 then (eZl, 3) else (okE [true, false, true] [[1], [0, 0], t.take 3] (t.drop 3), 0))
    else if v = 2 then (if t.length < 2 then (eZl, 3) else if t.length < 5 then (eZl, 3) else (okE [true, true, true] [[2], t.take 2, (t.drop 2).take 3] (t.drop 5), 0))
    else (eZl, 15)
theorem flat_st0 : ∀ x ∈ ([.str [115, 116, 97, 114, 116], .bool true, .int .i64 0, .int .i64 0, .slice 3 [[.int .u32 1, .int .u32 255, .int .i64 2], [.int .u32 2, .int .u32 255, .int .i64 1]], .int .i64 (-2)] : List AV), ∀ k H, snap (k + 1) H x = some x := by
  intro x hx k H; simp at hx; rcases hx with rfl | rfl | rfl | rfl | rfl | rfl <;> simp
theorem flat_st1 : ∀ x ∈ ([.str [116, 97, 103, 103, 101, 100], .bool false, .int .i64 0, .int .i64 0, .slice 3 [], .int .i64 2] : List AV), ∀ k H, snap (k + 1) H x = some x := by
  intro x hx k H; simp at hx; rcases hx with rfl | rfl | rfl | rfl | rfl | rfl <;> simp
theorem flat_st2 : ∀ x ∈ ([.str [102, 108, 111, 119, 115], .bool false, .int .i64 0, .int .i64 0, .slice 3 [], .int .i64 (-1)] : List AV), ∀ k H, snap (k + 1) H x = some x := by
  intro x hx k H; simp at hx; rcases hx with rfl | rfl | rfl | rfl | rfl | rfl <;> simp
theorem run_ok (data : List Int) (hd : data.length ≤ 512) (hb : ∀ x ∈ data, 0 ≤ x ∧ x < 256) : ∃ ents, pureI Φ f_parser_run [.agg pvA, .slice 1 (data.map c8)] = some (.val (.tup [.agg (decR data).1, .slice 1 ents, .int .i64 (decR data).2])) := by
  cases data with
  | nil =>
    refine ⟨[] ++ [[.int .i64 ((0 : Nat) : Int)]], run_start hd fun e O he hH => ?_⟩
    exact round_short (s := 0) (h := 0) (st := stL0) rfl rfl (by omega) rfl header_Check_0 header_Bits_0 hd (by simp) (by simp [nsBase]) (by simp) he hH
  | cons v t =>
    obtain ⟨n, rfl⟩ : ∃ n : Nat, v = n := ⟨v.toNat, by have := hb v (by simp); omega⟩
    have hn : n < 256 := by have := hb (n : Int) (by simp); omega
    have hl1 : 0 + nsBase.length ≤ ((n : Int) :: t).length := by simp [nsBase]
    have hnx : pureI Φ f_parser_next [.agg stL0, .agg [.slice 1 ((vs0.set 0 true).map fun b => [AV.bool b]), .slice 1 ((gs0.set 0 ((((n : Int) :: t).drop 0).take nsBase.length)).map fun g => [AV.slice 1 (g.map c32)]), .slice 1 meta0, .slice 1 []]] = some (.val (.int .i64 (nx0 n))) :=
      next_0 n hn _ _ _ _ _ _
    by_cases h1 : n = 1
    · subst h1
      by_cases hs : t.length < 3
      · simp only [decR, if_pos hs, Int.natCast_one, if_true]
        refine ⟨[] ++ [[.int .i64 ((0 : Nat) : Int)]] ++ [[.int .i64 ((2 : Nat) : Int)]], run_start hd fun e O he hH => ?_⟩
        refine round_ok (s := 0) (h := 0) (st := stL0) rfl flat_st0 rfl (by omega) rfl header_Check_0 header_Bits_0 hd hl1 hb (by simp) hnx he hH ?_
        intro e' O' n' t' he' hH'
        exact round_short (s := 2) (h := 2) (st := stL2) rfl rfl (by omega) rfl header_Check_2 header_Bits_2 hd (by simp [nsBase]) (by simp [nsBase, nsFlow]; omega) (by simp) he' hH'
      · simp only [decR, if_neg hs, Int.natCast_one, if_true]
        refine ⟨[] ++ [[.int .i64 ((0 : Nat) : Int)]] ++ [[.int .i64 ((2 : Nat) : Int)]], run_start hd fun e O he hH => ?_⟩
        refine round_ok (s := 0) (h := 0) (st := stL0) rfl flat_st0 rfl (by omega) rfl header_Check_0 header_Bits_0 hd hl1 hb (by simp) hnx he hH ?_
        intro e' O' n' t' he' hH'
        refine round_ok (s := 2) (h := 2) (st := stL2) rfl flat_st2 rfl (by omega) rfl header_Check_2 header_Bits_2 hd (by simp [nsBase, nsFlow]; omega) hb (by simp) (next_2 _ ⟨_, rfl, rfl⟩) he' hH' ?_
        intro e2 O2 n2 t2 he2 hH2
        exact run_accept hd (by simp [nsBase, nsFlow]; omega) he2 hH2
    · by_cases h2 : n = 2
      · subst h2
        by_cases hs : t.length < 2
        · simp only [decR, if_pos hs]
          refine ⟨[] ++ [[.int .i64 ((0 : Nat) : Int)]] ++ [[.int .i64 ((1 : Nat) : Int)]], run_start hd fun e O he hH => ?_⟩
          refine round_ok (s := 0) (h := 0) (st := stL0) rfl flat_st0 rfl (by omega) rfl header_Check_0 header_Bits_0 hd hl1 hb (by simp) hnx he hH ?_
          intro e' O' n' t' he' hH'
          exact round_short (s := 1) (h := 1) (st := stL1) rfl rfl (by omega) rfl header_Check_1 header_Bits_1 hd (by simp [nsBase]) (by simp [nsBase, nsTag]; omega) (by simp) he' hH'
        · by_cases hs2 : t.length < 5
          · simp only [decR, if_neg hs, if_pos hs2]
            refine ⟨[] ++ [[.int .i64 ((0 : Nat) : Int)]] ++ [[.int .i64 ((1 : Nat) : Int)]] ++ [[.int .i64 ((2 : Nat) : Int)]], run_start hd fun e O he hH => ?_⟩
            refine round_ok (s := 0) (h := 0) (st := stL0) rfl flat_st0 rfl (by omega) rfl header_Check_0 header_Bits_0 hd hl1 hb (by simp) hnx he hH ?_
            intro e' O' n' t' he' hH'
            refine round_ok (s := 1) (h := 1) (st := stL1) rfl flat_st1 rfl (by omega) rfl header_Check_1 header_Bits_1 hd (by simp [nsBase, nsTag]; omega) hb (by simp) (next_1 _ ⟨_, rfl, rfl⟩) he' hH' ?_
            intro e2 O2 n2 t2 he2 hH2
            exact round_short (s := 2) (h := 2) (st := stL2) rfl rfl (by omega) rfl header_Check_2 header_Bits_2 hd (by simp [nsBase, nsTag]; omega) (by simp [nsBase, nsTag, nsFlow]; omega) (by simp) he2 hH2
          · simp only [decR, if_neg hs, if_neg hs2]
            refine ⟨[] ++ [[.int .i64 ((0 : Nat) : Int)]] ++ [[.int .i64 ((1 : Nat) : Int)]] ++ [[.int .i64 ((2 : Nat) : Int)]], run_start hd fun e O he hH => ?_⟩
            refine round_ok (s := 0) (h := 0) (st := stL0) rfl flat_st0 rfl (by omega) rfl header_Check_0 header_Bits_0 hd hl1 hb (by simp) hnx he hH ?_
            intro e' O' n' t' he' hH'
            refine round_ok (s := 1) (h := 1) (st := stL1) rfl flat_st1 rfl (by omega) rfl header_Check_1 header_Bits_1 hd (by simp [nsBase, nsTag]; omega) hb (by simp) (next_1 _ ⟨_, rfl, rfl⟩) he' hH' ?_
            intro e2 O2 n2 t2 he2 hH2
            refine round_ok (s := 2) (h := 2) (st := stL2) rfl flat_st2 rfl (by omega) rfl header_Check_2 header_Bits_2 hd (by simp [nsBase, nsTag, nsFlow]; omega) hb (by simp) (next_2 _ ⟨_, rfl, rfl⟩) he2 hH2 ?_
            intro e3 O3 n3 t3 he3 hH3
            exact run_accept hd (by simp [nsBase, nsTag, nsFlow]; omega) he3 hH3
      · have e1 : ¬ ((n : Int) = 1) := by omega
        have e2 : ¬ ((n : Int) = 2) := by omega
        have e3 : nx0 n = -2 := by simp only [nx0, if_neg e1, if_neg e2]
        rw [e3] at hnx
        simp only [decR, if_neg e1, if_neg e2]
        refine ⟨[] ++ [[.int .i64 ((0 : Nat) : Int)]], run_start hd fun e O he hH => ?_⟩
        refine round_ok (s := 0) (h := 0) (st := stL0) rfl flat_st0 rfl (by omega) rfl header_Check_0 header_Bits_0 hd hl1 hb (by simp) hnx he hH ?_
        intro e' O' n' t' he' hH'
        exact run_reject (by simp) he' hH'
end Go.Av
