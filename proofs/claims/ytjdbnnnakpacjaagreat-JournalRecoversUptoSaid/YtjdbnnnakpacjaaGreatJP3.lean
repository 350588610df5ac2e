/-
  Opening a log: the frames of successful transactions, cut anywhere, give the state after those that are complete.
-/
import Derived.Test.YtjdbnnnakpacjaaGreatJP2
set_option linter.unusedVariables false
set_option linter.unusedSimpArgs false
set_option linter.constructorNameAsVariable false
namespace Go.Av
set_option maxRecDepth 4000
def frs (G : List (List TableOp)) : List Int := (G.map fun l => frB (encB l)).flatten
def cmts (p : Prg) (g : LgV) (G : List (List TableOp)) : LgV := G.foldl (cmt p) g
-- transactions that succeed one after the other
def okG (p : Prg) : LgV → List (List TableOp) → Prop
  | _, [] => True
  | g, l :: G => badA p g.c l = none ∧ okG p (cmt p g l) G
def kOf : List (List TableOp) → Nat → Nat
  | [], _ => 0
  | l :: G, n => if (frB (encB l)).length ≤ n then kOf G (n - (frB (encB l)).length) + 1 else 0
theorem frs_cons (l : List TableOp) (G : List (List TableOp)) : frs (l :: G) = frB (encB l) ++ frs G := rfl
theorem frs_app (G H : List (List TableOp)) : frs (G ++ H) = frs G ++ frs H := by simp [frs]
theorem cmts_b (p : Prg) : ∀ (G : List (List TableOp)) (g : LgV), (cmts p g G).b = g.b ++ frs G
  | [], g => by simp [cmts, frs]
  | l :: G, g => by
    have := cmts_b p G (cmt p g l)
    rw [show cmts p g (l :: G) = cmts p (cmt p g l) G from rfl, this, frs_cons]
    simp [cmt]
theorem cmts_n (p : Prg) : ∀ (G : List (List TableOp)) (g : LgV), (cmts p g G).n = g.n + G.length
  | [], g => by simp [cmts]
  | l :: G, g => by
    have := cmts_n p G (cmt p g l)
    rw [show cmts p g (l :: G) = cmts p (cmt p g l) G from rfl, this]
    simp [cmt]; omega
theorem cmts_app (p : Prg) (g : LgV) (G H : List (List TableOp)) : cmts p g (G ++ H) = cmts p (cmts p g G) H := by simp [cmts]
theorem okG_app {p : Prg} : ∀ {g : LgV} (G H : List (List TableOp)), okG p g G → okG p (cmts p g G) H → okG p g (G ++ H)
  | _, [], _, _, h => h
  | _, _ :: G, H, h, h2 => ⟨h.1, okG_app G H h.2 h2⟩
theorem okG_take {p : Prg} : ∀ {g : LgV} (G : List (List TableOp)) (k : Nat), okG p g G → okG p g (G.take k)
  | _, [], k, h => by simp [okG]
  | _, l :: G, 0, h => trivial
  | _, l :: G, k + 1, h => ⟨h.1, okG_take G k h.2⟩
theorem encB_len {l : List TableOp} (h : ∀ o ∈ l, opE o = true) (h64 : l.length ≤ 64) : (encB l).length ≤ 300000 := by
  unfold encB
  rw [if_pos ⟨h64, h⟩]
  have : ∀ (l : List TableOp), (∀ o ∈ l, opE o = true) → (opsB l).length ≤ 4000 * l.length := by
    intro l
    induction l with
    | nil => simp [opsB]
    | cons x l ih =>
      intro h
      have h1 := ih fun o ho => h o (by simp [ho])
      have h2 : (opB x).length ≤ 4000 := by
        have hx := h x (by simp)
        have hc : ∀ c : ActionCall, callEJ c = true → (callB c).length ≤ 1100 := by
          intro c hc
          have ha : ∀ l : List Int, (argsB l).length = 4 * l.length := by
            intro l
            induction l with
            | nil => rfl
            | cons y l ih => simp [argsB, be4] at ih ⊢; omega
          simp [callEJ] at hc
          simp [callB, be2, ha]; omega
        have hk : ∀ l : List KeyMatch, (keysB l).length = 8 * l.length := by
          intro l
          induction l with
          | nil => rfl
          | cons y l ih => simp [keysB, keyB, be4] at ih ⊢; omega
        unfold opE at hx
        unfold opB
        by_cases k1 : x.kind = 1
        · simp [k1] at hx
          have := hc _ hx.2.2.2
          simp [k1, be2, hk]; omega
        by_cases k2 : x.kind = 2
        · simp [k2] at hx
          have := hc _ hx.2.2
          simp [k2, be2, be4]; omega
        by_cases k3 : x.kind = 3
        · simp [k3, be2, be4]
        by_cases k4 : x.kind = 4
        · simp [k4] at hx
          have := hc _ hx.2
          simp [k4, be2]; omega
        · simp [k1, k2, k3, k4] at hx
      simp [opsB] at h1 ⊢
      omega
  have := this l h
  simp; omega
theorem cmt_v {p : Prg} {g : LgV} (v : CfgV p g.c) (l : List TableOp) : CfgV p (cmt p g l).c := xoF_ok l v
-- a frame of a transaction that succeeds
theorem fr_ok {p : Prg} {g : LgV} (v : CfgV p g.c) {l : List TableOp} (h : badA p g.c l = none) : l.length ≤ 64 ∧ (∀ o ∈ l, opE o = true) ∧ ((encB l).length : Int) ≤ 300000 := by
  have h64 := badA_len h
  have hE := okF_opE l v (badA_okF h)
  exact ⟨h64, hE, by have := encB_len hE h64; omega⟩
theorem opn_good {p : Prg} : ∀ (G : List (List TableOp)) (g : LgV) (u : Int) (n k : Nat), CfgV p g.c → okG p g G → (∀ l ∈ G, ∀ o ∈ l, okO o) → ((frs G).take n).length ≤ k →
    opn p k g u ((frs G).take n) = (some (cmts p g (G.take (kOf G n))), u + (frs (G.take (kOf G n))).length, 0)
  | [], g, u, n, k, _, _, _, _ => by
    cases k <;> simp [frs, opn, kOf, cmts]
  | l :: G, g, u, n, k, v, h, ho, hk => by
    obtain ⟨h64, hE, hl⟩ := fr_ok v h.1
    have hF := frB_len (encB l)
    by_cases q : (frB (encB l)).length ≤ n
    · have ht : (frs (l :: G)).take n = frB (encB l) ++ (frs G).take (n - (frB (encB l)).length) := by
        rw [frs_cons, List.take_append, List.take_of_length_le q]
      rw [ht] at hk ⊢
      rw [List.length_append] at hk
      obtain ⟨m, rfl⟩ : ∃ m, k = m + 1 := ⟨k - 1, by omega⟩
      have hne : ¬ (frB (encB l) ++ (frs G).take (n - (frB (encB l)).length) = []) := by
        intro hn
        have := congrArg List.length hn
        rw [List.length_append, hF] at this
        simp at this
      have hd : (frB (encB l) ++ (frs G).take (n - (frB (encB l)).length)).drop (((encB l).length : Int) + 8).toNat = (frs G).take (n - (frB (encB l)).length) := by
        rw [show (((encB l).length : Int) + 8).toNat = (frB (encB l)).length by rw [hF]; omega]
        simp
      rw [opn, if_neg hne, unf_fr _ _ (by omega), dec_full h64 hE (ho l (by simp))]
      simp only [ne_eq, not_true, if_false, badA_cln, h.1, cmt_cln, hd]
      rw [opn_good G (cmt p g l) _ _ m (cmt_v v l) h.2 (fun x hx => ho x (by simp [hx])) (by omega)]
      have hk1 : kOf (l :: G) n = kOf G (n - (frB (encB l)).length) + 1 := by rw [kOf, if_pos q]
      rw [hk1, List.take_succ_cons, frs_cons, List.length_append]
      refine Prod.ext rfl (Prod.ext ?_ rfl)
      simp only
      omega
    · have ht : (frs (l :: G)).take n = (frB (encB l)).take n := by
        rw [frs_cons, List.take_append_of_le_length (by omega)]
      rw [ht] at hk ⊢
      rw [List.length_take, hF] at hk
      simp only [kOf, if_neg q, List.take_zero]
      cases k with
      | zero => simp [opn, cmts, frs]
      | succ k =>
        have hu := unf_cut (encB l) (by omega) (n := n) (by omega)
        rw [opn]
        by_cases hz : (frB (encB l)).take n = []
        · rw [if_pos hz]; simp [cmts, frs]
        · rw [if_neg hz, hu]; simp [cmts, frs]
-- which records are complete
theorem kOf_le : ∀ (G : List (List TableOp)) (n : Nat), kOf G n ≤ G.length
  | [], _ => Nat.le_refl _
  | l :: G, n => by
    unfold kOf
    split
    · have := kOf_le G (n - (frB (encB l)).length)
      simp; omega
    · omega
theorem kOf_in : ∀ (G : List (List TableOp)) (n j : Nat), j ≤ kOf G n → (frs (G.take j)).length ≤ n
  | [], n, j, _ => by simp [frs]
  | l :: G, n, 0, _ => by simp [frs]
  | l :: G, n, j + 1, h => by
    unfold kOf at h
    split at h
    · rename_i q
      have := kOf_in G (n - (frB (encB l)).length) j (by omega)
      rw [List.take_succ_cons, frs_cons, List.length_append]
      omega
    · omega
theorem kOf_out : ∀ (G : List (List TableOp)) (n : Nat), kOf G n < G.length → n < (frs (G.take (kOf G n + 1))).length
  | [], _, h => by simp at h
  | l :: G, n, h => by
    unfold kOf at h ⊢
    split
    · rename_i q
      rw [if_pos q] at h
      have := kOf_out G (n - (frB (encB l)).length) (by simpa using h)
      rw [List.take_succ_cons, frs_cons, List.length_append]
      omega
    · rename_i q
      simp [frs]; omega
theorem kOf_all : ∀ (G : List (List TableOp)) (n : Nat), (frs G).length ≤ n → kOf G n = G.length
  | [], _, _ => rfl
  | l :: G, n, h => by
    rw [frs_cons, List.length_append] at h
    unfold kOf
    rw [if_pos (by omega), kOf_all G _ (by omega)]
    rfl
-- the sequence of a law: transactions that fail are left out
def gds (p : Prg) : LgV → List (List TableOp) → List (List TableOp)
  | _, [] => []
  | g, l :: L => match badA p g.c l with
    | some _ => gds p g L
    | none => l :: gds p (cmt p g l) L
theorem gds_ok (p : Prg) : ∀ (L : List (List TableOp)) (g : LgV), okG p g (gds p g L)
  | [], _ => trivial
  | l :: L, g => by
    unfold gds
    cases h : badA p g.c l with
    | some x => exact gds_ok p L g
    | none => exact ⟨h, gds_ok p L _⟩
theorem gds_mem (p : Prg) : ∀ (L : List (List TableOp)) (g : LgV), ∀ l ∈ gds p g L, l ∈ L
  | [], _, l, h => by simp [gds] at h
  | x :: L, g, l, h => by
    unfold gds at h
    cases q : badA p g.c x with
    | some y => rw [q] at h; exact List.mem_cons_of_mem _ (gds_mem p L g l h)
    | none =>
      rw [q] at h
      rcases List.mem_cons.1 h with rfl | h
      · simp
      · exact List.mem_cons_of_mem _ (gds_mem p L _ l h)
theorem badA_nil {p : Prg} {c : Config} (v : CfgV p c) : badA p c [] = none := by
  unfold badA
  rw [if_neg (by simpa using (cfgE_zero p c).2 v), if_neg (by simp)]
  rfl
theorem cmts_v {p : Prg} : ∀ (G : List (List TableOp)) {g : LgV}, CfgV p g.c → CfgV p (cmts p g G).c
  | [], _, v => v
  | l :: G, _, v => cmts_v G (cmt_v v l)
-- opening what was opened and extended
theorem opn_again {p : Prg} {g : LgV} (G : List (List TableOp)) (v : CfgV p g.c) (h : okG p g G) (ho : ∀ l ∈ G, ∀ o ∈ l, okO o) (k : Nat) (hk : (frs (G ++ [[]])).length ≤ k) :
    opn p k g 0 (frs (G ++ [[]])) = (some (cmt p (cmts p g G) []), ((frs (G ++ [[]])).length : Int), 0) := by
  have h2 : okG p g (G ++ [[]]) := okG_app _ _ h ⟨badA_nil (cmts_v G v), trivial⟩
  have ho2 : ∀ l ∈ G ++ [[]], ∀ o ∈ l, okO o := by
    intro l hl o hx
    rcases List.mem_append.1 hl with hl | hl
    · exact ho l hl o hx
    · simp at hl; subst hl; cases hx
  have := opn_good (G ++ [[]]) g 0 (frs (G ++ [[]])).length k v h2 ho2 (by rw [List.take_of_length_le (Nat.le_refl _)]; exact hk)
  rw [kOf_all _ _ (Nat.le_refl _), List.take_of_length_le (Nat.le_refl _), List.take_of_length_le (Nat.le_refl _), cmts_app] at this
  rw [this]
  refine Prod.ext rfl (Prod.ext ?_ rfl)
  simp
end Go.Av
