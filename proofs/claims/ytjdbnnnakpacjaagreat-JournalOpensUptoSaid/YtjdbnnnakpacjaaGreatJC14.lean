/-
  The reference's Open; the law JournalOpens.
-/
import Derived.Test.YtjdbnnnakpacjaaGreatJC13
set_option linter.unusedVariables false
set_option linter.unusedSimpArgs false
set_option linter.constructorNameAsVariable false
namespace Go.Av
set_option maxRecDepth 4000
def oR (p : Prg) (out : Option LgV × Int × Int) : AV := match out.1 with
  | some g => .tup [.agg (rlC p g), .int .i64 out.2.1, .int .i64 out.2.2]
  | none => .tup [.agg noLg, .int .i64 out.2.1, .int .i64 out.2.2]
def zLg : List AV := [.str [], .fslice 2 [], .fslice 2 [], .fslice 3 [], .fslice 3 [], .fslice 6 [], .fslice 7 [], .fslice 5 [], .fslice 1 [], .fslice 1 [], .fslice 1 [], .fslice 2 [], .fslice 1 [], .fslice 1 [], .int .i64 0]
structure RoI (p : Prg) (b : List Int) (x : LgV × Nat) (e : Env) (h : AH) : Prop where
  ex : ∃ n, h = ⟨[(0, .row 15 [zLg]), (1, .row 15 [rlC p x.1])], n⟩ ∧ 2 ≤ n
  u : x.2 ≤ b.length
  s : ∃ i, 8 * i + (b.length - x.2) ≤ 2 ^ 24 ∧ LgS p x.1 i
  e1 : look 1 e = some (.slice 1 (b.map c8))
  e4 : look 4 e = some (.ptr 0 15 0 0)
  e7 : look 7 e = some (.ptr 1 15 0 0)
  e9 : look 9 e = some (.int .i64 (x.2 : Nat))
theorem ropen_loop (p : Prg) (op : p.Ok bulkMax) (hc : (pre p.control).length < 2 ^ 40 - 1) (hp : p.tables.length < 2 ^ 40) {b : List Int} (hbb : okB b) (hbl : b.length ≤ 2 ^ 24) :
    ∀ x e h, RoI p b x e h → ∀ k, b.length - x.2 ≤ k → go Φ (finP [.cell 4 true 15, .tmp 5, .tmp 6]) [.c (.loop c_ref28_Open_l0), .b 0, .c c_ref28_Open_k1] .normal ⟨e, h⟩ = some (.val (oR p (opn p k x.1 x.2 (b.drop x.2)))) := by
  have hv := prgHv op
  refine loopQ (fun x : LgV × Nat => b.length - x.2) (RoI p b) (fun (x : LgV × Nat) (r : Option Rt) => ∀ k, b.length - x.2 ≤ k → r = some (.val (oR p (opn p k x.1 x.2 (b.drop x.2))))) ?_
  rintro ⟨g, u⟩ e h L hL I ih k hk
  obtain ⟨⟨N, rfl, hN⟩, hu, ⟨i, hi, S⟩, e1, e4, e7, e9⟩ := I
  simp only at *
  have n0 : ¬ 0 = N := by omega
  have n1 : ¬ 1 = N := by omega
  have n2 : ¬ N = 0 := by omega
  have n3 : ¬ N = 1 := by omega
  by_cases q : u < b.length
  rotate_left
  · have hu2 : u = b.length := by omega
    subst hu2
    have ho : opn p k g (b.length : Nat) (b.drop b.length) = (some g, ((b.length : Nat) : Int), 0) := by cases k <;> simp [opn]
    rw [ho]
    simp [c_ref28_Open_l0, c_ref28_Open_k1, e1, e4, e7, e9, hL, oR, rlC_e, zLg]
  obtain ⟨k, rfl⟩ : ∃ n, k = n + 1 := ⟨k - 1, by omega⟩
  have hne : ¬ b.drop u = [] := by
    intro h
    have := congrArg List.length h
    simp at this; omega
  have hod : okB (b.drop u) := okB_drop hbb u
  have k1 := runframe (b.drop u) hod (by simp; omega)
  rw [List.map_drop] at k1
  have x4 : ((b.map c8).drop u).take (b.length - u) = (b.map c8).drop u := List.take_of_length_le (by simp)
  have c1 : (u : Int) < (b.length : Int) := by omega
  have c2 : (0 : Int) ≤ (u : Int) ∧ (u : Int) ≤ (b.length : Int) := by omega
  rw [opn, if_neg hne]
  by_cases z1 : (unfB (b.drop u)).2.2 = 0
  rotate_left
  · rw [if_pos z1]
    simp [c_ref28_Open_l0, c_ref28_Open_k1, e1, e4, e7, e9, c1, c2, x4, k1, z1, hL, oR, rlC_e, zLg]
  obtain ⟨body, n, hU⟩ : ∃ body n, unfB (b.drop u) = (body, n, 0) := ⟨(unfB (b.drop u)).1, (unfB (b.drop u)).2.1, by rw [← z1]⟩
  obtain ⟨n8, nl, nb, hob⟩ := unf_in hod hU
  rw [List.length_drop] at nl
  rw [hU] at k1
  rw [hU]
  simp only [ne_eq, not_true, if_false] at k1 ⊢
  have gn := S.n
  have gb := S.b
  have k2 := rDecode_ok body hob
  obtain ⟨dl, r2⟩ := decB_rng hob
  by_cases y1 : (decB body).2 = 0
  rotate_left
  · rw [if_pos y1]
    simp [c_ref28_Open_l0, c_ref28_Open_k1, e1, e4, e7, e9, c1, c2, x4, k1, k2, y1, hL, oR, rlC_e, zLg, noLg]
  rw [if_neg (by simpa using y1)]
  rw [y1] at k2
  have k3 := rlcommit p op hv hc hp S.s (by omega) (by omega) (decB body).1 (by omega) (fun o ho => OpS_sm (r2 o ho))
  unfold cmR at k3
  cases hA : badA p g.c (decB body).1 with
  | some x =>
    obtain ⟨q', x⟩ := x
    have hx := badA_ne hA
    rw [hA] at k3
    simp only [rlC_e] at k3
    simp [c_ref28_Open_l0, c_ref28_Open_k1, e1, e4, e7, e9, c1, c2, x4, k1, k2, k3, hx, hL, oR, rlC_e, zLg, noLg, n0, n1, n2, n3]
  | none =>
    rw [hA] at k3
    simp only [rlC_e] at k3
    have hw : IntKind.wrap .i64 ((u : Int) + n) = ((u + n.toNat : Nat) : Int) := (wrap64 (by omega) (by omega)).trans (by omega)
    have hd : (b.drop u).drop n.toNat = b.drop (u + n.toNat) := by rw [List.drop_drop]
    have hu2 : (u : Int) + n = ((u + n.toNat : Nat) : Int) := by omega
    simp only [hd, hu2]
    obtain ⟨u', hu'⟩ : ∃ u', u + n.toNat = u' := ⟨_, rfl⟩
    rw [hu'] at hw ⊢
    have S' := S.cmt hp (l := (decB body).1) (fun o ho => OpS_sm (r2 o ho))
    generalize hX : some (Rt.val (oR p (opn p k (cmt p g (decB body).1) (u' : Int) (b.drop u')))) = X
    simp [c_ref28_Open_l0, e1, e4, e7, e9, c1, c2, x4, k1, k2, k3, hw, rlC_e, zLg, n0, n1, n2, n3]
    rw [← hX]
    exact ih (cmt p g (decB body).1, u') _ _ (by simp only; omega) ⟨⟨_, by simp only [rlC_e, zLg]; rfl, by omega⟩, by simp only; omega, ⟨i + 1, by simp only; omega, S'⟩, by simp [e1], by simp [e4], by simp [e7], by simp⟩ k (by simp only; omega)
theorem ropen_ok (p : Prg) (op : p.Ok bulkMax) (hc : (pre p.control).length < 2 ^ 40 - 1) {b : List Int} (hbb : okB b) (hbl : b.length ≤ 2 ^ 24) (z : (prgD p).1 = 0) :
    pureI Φ f_ref28_Open [.agg (Prg.c p), .slice 1 (b.map c8)] = some (.val (oR p (opn p b.length (lg0 p) 0 b))) := by
  have f := PrgS_of op
  rw [pureI_go (fn := c_ref28_Open) rfl rfl]
  have r0 := rlnew p f (prgHv op) hc
  rw [if_pos z] at r0
  have hl := ropen_loop p op hc f.t hbb hbl (lg0 p, 0)
  generalize hX : some (Rt.val (oR p (opn p b.length (lg0 p) 0 b))) = X
  simp only [Prg.e, rlC_e] at r0
  simp [c_ref28_Open, Prg.e, r0]
  rw [← hX]
  exact hl _ _ ⟨⟨_, by simp only [rlC_e, zLg]; rfl, by omega⟩, by simp, ⟨0, by simp; omega, lg0_s op z 0⟩, by simp, by simp, by simp, by simp⟩ b.length (by simp)
end Go.Av
