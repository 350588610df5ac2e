/-
  Lemmas for the law.
-/
import Derived.Test.YtdgpefplgldkfaaB26
set_option linter.unusedVariables false
set_option linter.unusedSimpArgs false
set_option linter.constructorNameAsVariable false
namespace Go.Av
set_option maxRecDepth 8000
theorem envV_sn (vs : List Bool) (gs : List (List Int)) (k : Nat) (H : AH) : mapO (snap (k + 1) H) (envV vs gs) = some (envV vs gs) := by simp [envV]
theorem envV_bor (vs : List Bool) (gs : List (List Int)) (k : Nat) : anyL (bor (k + 1)) (envV vs gs) = false := by simp [envV]
theorem st0_sn (k : Nat) (H : AH) : mapO (snap (k + 1) H) stL0 = some stL0 := by simp [stL0]
theorem st1_sn (k : Nat) (H : AH) : mapO (snap (k + 1) H) stL1 = some stL1 := by simp [stL1]
theorem st2_sn (k : Nat) (H : AH) : mapO (snap (k + 1) H) stL2 = some stL2 := by simp [stL2]
theorem st0_bor (k : Nat) : anyL (bor (k + 1)) stL0 = false := by simp [stL0]
theorem st1_bor (k : Nat) : anyL (bor (k + 1)) stL1 = false := by simp [stL1]
theorem st2_bor (k : Nat) : anyL (bor (k + 1)) stL2 = false := by simp [stL2]
theorem refH_len (E : List AV) (data : List Int) (q : Nat) (ents : List (List AV)) (x : List AV) : refH E data q (ents.length + 1) = refH E data q (ents ++ [x]).length := by simp
theorem ref_run_ok (data : List Int) (hd : data.length ≤ 512) (hb : ∀ x ∈ data, 0 ≤ x ∧ x < 256) : ∃ ents, pureI Φ f_ref18_run [.agg pvA, .slice 1 (data.map c8)] = some (.val (.tup [.agg (decR data).1, .slice 1 ents, .int .i64 (decR data).2])) := by
  cases data with
  | nil =>
    refine ⟨[] ++ [[.int .i64 ((0 : Nat) : Int)]], ref_start hd fun e he => ?_⟩
    exact rshort (r' := []) (s := 0) (st := stL0) rfl rfl rfl (by simp) st0_sn (envV_sn _ _) st0_bor (envV_bor _ _)
      (ref18_extract_short (h := 0) [] 0 0 (envV vs0 gs0) rfl rfl (by omega) rfl rfl hd (by simp) (by simp [nsBase]) ref11_Check_0 ref11_Bits_0 (envV_sn _ _)) he
  | cons v t =>
    obtain ⟨n, rfl⟩ : ∃ n : Nat, v = n := ⟨v.toNat, by have := hb v (by simp); omega⟩
    have hn : n < 256 := by have := hb (n : Int) (by simp); omega
    have hx0 := ref18_extract_ok (h := 0) ((n : Int) :: t) 0 0 false false false [0] [0, 0] [0, 0, 0] (by simp) (by simp) (by simp) (st := stL0) rfl (by omega) rfl rfl hd (by simp [nsBase]) hb ref11_Check_0 ref11_Bits_0
    have hnx : pureI Φ f_ref18_transition [.agg stL0, .agg (envV ([false, false, false].set 0 true) ([[0], [0, 0], [0, 0, 0]].set 0 ((((n : Int) :: t).drop 0).take nsBase.length)))] = some (.val (.int .i64 (nx0 n))) :=
      trans_0 n hn _ _ _ _ _ _
    -- the first state
    have first : ∀ {R : Option Rt} (ents : List (List AV)), (∀ e', RefE e' ([] ++ [[.int .i64 ((0 : Nat) : Int)]]) (nx0 n) → go Φ (finP rsRun) (.c (.loop c_ref18_run_l0) :: [.b 0, .c c_ref18_run_k1]) .normal ⟨e', refH (envV [true, false, false] [[(n : Int)], [0, 0], [0, 0, 0]]) ((n : Int) :: t) 8 1⟩ = R) →
        pureI Φ f_ref18_run [.agg pvA, .slice 1 (((n : Int) :: t).map c8)] = R := by
      intro R _ next
      refine ref_start hd fun e he => ?_
      exact rround (s := 0) (ents := []) (st := stL0) (E' := envV [true, false, false] [[(n : Int)], [0, 0], [0, 0, 0]]) (q' := 8) (r' := []) rfl rfl rfl rfl (by simp) st0_sn (envV_sn _ _) (envV_sn _ _) st0_bor (envV_bor _ _) (envV_bor _ _) hx0 hnx he next
    have hl8 : 8 = 8 * 1 := rfl
    by_cases h1 : n = 1
    · subst h1
      have n0 : nx0 ((1 : Nat) : Int) = ((2 : Nat) : Int) := rfl
      rw [n0] at first
      by_cases hs : t.length < 3
      · simp only [decR, if_pos hs, Int.natCast_one, if_true]
        refine ⟨([] ++ [[.int .i64 ((0 : Nat) : Int)]]) ++ [[.int .i64 ((2 : Nat) : Int)]], first [] fun e he => ?_⟩
        exact rshort (r' := []) (s := 2) (ents := [] ++ [[.int .i64 ((0 : Nat) : Int)]]) (st := stL2) rfl rfl rfl (by simp) st2_sn (envV_sn _ _) st2_bor (envV_bor _ _)
          (ref18_extract_short (h := 2) _ 8 1 _ rfl rfl (by omega) rfl rfl hd (by simp) (by simp [nsFlow]; omega) ref11_Check_2 ref11_Bits_2 (envV_sn _ _)) he
      · simp only [decR, if_neg hs, Int.natCast_one, if_true]
        have hx2 := ref18_extract_ok (h := 2) (((1 : Nat) : Int) :: t) 8 1 true false false [((1 : Nat) : Int)] [0, 0] [0, 0, 0] (by simp) (by simp) (by simp) (st := stL2) rfl (by omega) rfl rfl hd (by simp [nsFlow]; omega) hb ref11_Check_2 ref11_Bits_2
        refine ⟨([] ++ [[.int .i64 ((0 : Nat) : Int)]]) ++ [[.int .i64 ((2 : Nat) : Int)]], first [] fun e he => ?_⟩
        refine rround (s := 2) (ents := [] ++ [[.int .i64 ((0 : Nat) : Int)]]) (st := stL2) (q' := 32) (r' := []) rfl rfl rfl rfl (by simp) st2_sn (envV_sn _ _) (envV_sn _ _) st2_bor (envV_bor _ _) (envV_bor _ _) hx2 (trans_2 _ rfl) he fun e2 he2 => ?_
        exact raccept (ents := ([] ++ [[.int .i64 ((0 : Nat) : Int)]]) ++ [[.int .i64 ((2 : Nat) : Int)]]) (pos := 4) rfl (by simp; omega) hd he2
    · by_cases h2 : n = 2
      · subst h2
        have n0 : nx0 ((2 : Nat) : Int) = ((1 : Nat) : Int) := rfl
        rw [n0] at first
        by_cases hs : t.length < 2
        · simp only [decR, if_pos hs]
          refine ⟨([] ++ [[.int .i64 ((0 : Nat) : Int)]]) ++ [[.int .i64 ((1 : Nat) : Int)]], first [] fun e he => ?_⟩
          exact rshort (r' := []) (s := 1) (ents := [] ++ [[.int .i64 ((0 : Nat) : Int)]]) (st := stL1) rfl rfl rfl (by simp) st1_sn (envV_sn _ _) st1_bor (envV_bor _ _)
            (ref18_extract_short (h := 1) _ 8 1 _ rfl rfl (by omega) rfl rfl hd (by simp) (by simp [nsTag]; omega) ref11_Check_1 ref11_Bits_1 (envV_sn _ _)) he
        · have hx1 := ref18_extract_ok (h := 1) (((2 : Nat) : Int) :: t) 8 1 true false false [((2 : Nat) : Int)] [0, 0] [0, 0, 0] (by simp) (by simp) (by simp) (st := stL1) rfl (by omega) rfl rfl hd (by simp [nsTag]; omega) hb ref11_Check_1 ref11_Bits_1
          by_cases hs2 : t.length < 5
          · simp only [decR, if_neg hs, if_pos hs2]
            refine ⟨(([] ++ [[.int .i64 ((0 : Nat) : Int)]]) ++ [[.int .i64 ((1 : Nat) : Int)]]) ++ [[.int .i64 ((2 : Nat) : Int)]], first [] fun e he => ?_⟩
            refine rround (s := 1) (ents := [] ++ [[.int .i64 ((0 : Nat) : Int)]]) (s' := ((2 : Nat) : Int)) (st := stL1) (q' := 24) (r' := []) rfl rfl rfl rfl (by simp) st1_sn (envV_sn _ _) (envV_sn _ _) st1_bor (envV_bor _ _) (envV_bor _ _) hx1 (trans_1 _ rfl) he fun e2 he2 => ?_
            exact rshort (r' := []) (s := 2) (ents := ([] ++ [[.int .i64 ((0 : Nat) : Int)]]) ++ [[.int .i64 ((1 : Nat) : Int)]]) (st := stL2) rfl rfl rfl (by simp) st2_sn (envV_sn _ _) st2_bor (envV_bor _ _)
              (ref18_extract_short (h := 2) _ 24 3 _ rfl rfl (by omega) rfl rfl hd (by simp; omega) (by simp [nsFlow]; omega) ref11_Check_2 ref11_Bits_2 (envV_sn _ _)) he2
          · simp only [decR, if_neg hs, if_neg hs2]
            refine ⟨(([] ++ [[.int .i64 ((0 : Nat) : Int)]]) ++ [[.int .i64 ((1 : Nat) : Int)]]) ++ [[.int .i64 ((2 : Nat) : Int)]], first [] fun e he => ?_⟩
            refine rround (s := 1) (ents := [] ++ [[.int .i64 ((0 : Nat) : Int)]]) (s' := ((2 : Nat) : Int)) (st := stL1) (q' := 24) (r' := []) rfl rfl rfl rfl (by simp) st1_sn (envV_sn _ _) (envV_sn _ _) st1_bor (envV_bor _ _) (envV_bor _ _) hx1 (trans_1 _ rfl) he fun e2 he2 => ?_
            have hx2 := ref18_extract_ok (h := 2) (((2 : Nat) : Int) :: t) 24 3 true true false [((2 : Nat) : Int)] (t.take 2) [0, 0, 0] (by simp) (by simp; omega) (by simp) (st := stL2) rfl (by omega) rfl rfl hd (by simp [nsFlow]; omega) hb ref11_Check_2 ref11_Bits_2
            refine rround (s := 2) (ents := ([] ++ [[.int .i64 ((0 : Nat) : Int)]]) ++ [[.int .i64 ((1 : Nat) : Int)]]) (st := stL2) (q' := 48) (r' := []) rfl rfl rfl rfl (by simp) st2_sn (envV_sn _ _) (envV_sn _ _) st2_bor (envV_bor _ _) (envV_bor _ _) hx2 (trans_2 _ rfl) he2 fun e3 he3 => ?_
            exact raccept (ents := (([] ++ [[.int .i64 ((0 : Nat) : Int)]]) ++ [[.int .i64 ((1 : Nat) : Int)]]) ++ [[.int .i64 ((2 : Nat) : Int)]]) (pos := 6) rfl (by simp; omega) hd he3
      · have e1 : ¬ ((n : Int) = 1) := by omega
        have e2 : ¬ ((n : Int) = 2) := by omega
        have e3 : nx0 n = -2 := by simp only [nx0, if_neg e1, if_neg e2]
        rw [e3] at first
        simp only [decR, if_neg e1, if_neg e2]
        refine ⟨[] ++ [[.int .i64 ((0 : Nat) : Int)]], first [] fun e he => ?_⟩
        exact rreject (ents := [] ++ [[.int .i64 ((0 : Nat) : Int)]]) he
end Go.Av
