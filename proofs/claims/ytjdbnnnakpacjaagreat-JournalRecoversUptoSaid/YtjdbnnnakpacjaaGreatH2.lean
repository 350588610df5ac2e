/-
  Configurations and stores in mutable memory.
-/
import Derived.Test.YtjdbnnnakpacjaaGreatH1
import Derived.Test.YtjdbnnnakpacjaaGreatV2
set_option linter.unusedVariables false
set_option linter.unusedSimpArgs false
set_option linter.constructorNameAsVariable false
namespace Go.Av
-- cells that are read as they are
theorem mapO_id {α : Type} {f : α → Option α} : ∀ {l : List α}, (∀ x ∈ l, f x = some x) → mapO f l = some l
  | [], _ => rfl
  | a :: l, h => by
    have h1 := h a (by simp)
    have h2 := mapO_id (f := f) (l := l) fun x hx => h x (by simp [hx])
    simp only [mapO, h1, h2]
theorem mapO_mapid {α : Type} {g : α → List AV} {n : Nat} {H : AH} (h : ∀ x, mapO (snap n H) (g x) = some (g x)) (l : List α) : mapO (mapO (snap n H)) (l.map g) = some (l.map g) := by
  refine mapO_id fun x hx => ?_
  obtain ⟨y, _, rfl⟩ := List.mem_map.1 hx
  exact h y
theorem snp_rw {n : Nat} {H : AH} (r : Rw) : mapO (snap (n + 1) H) (Rw.c r) = some (Rw.c r) := by simp [Rw.c]
theorem snp_cI {n : Nat} {H : AH} (x : Int) : mapO (snap (n + 1) H) (cI x) = some (cI x) := by simp [cI]
theorem snp_call {n : Nat} {H : AH} (x : ActionCall) : mapO (snap (n + 1) H) (ActionCall.c x) = some (ActionCall.c x) := by simp [ActionCall.c]
theorem snp_reg {n : Nat} {H : AH} (x : List Int) : mapO (snap (n + 1) H) (cS 1 c32 x) = some (cS 1 c32 x) := by simp [cS]
-- a configuration whose lists are mutable
structure CfgM (O : List (Nat × AO)) (v1 v2 v3 v4 : AV) (V : List AV) (c : Config) : Prop where
  r : Mu O 1 v1 (V.map fun v => [v])
  rl : V.length = c.rows.length
  rv : ∀ (k : Nat) (v : AV) (l : List Rw), V[k]? = some v → c.rows[k]? = some l → Mu O 5 v (l.map Rw.c)
  n : Mu O 1 v2 (c.nextID.map cI)
  d : Mu O 2 v3 (c.defaults.map ActionCall.c)
  g : v4 = .fslice 1 (c.registers.map (cS 1 c32)) ∨ ∃ t, v4 = .app 1 (c.registers.map (cS 1 c32)) t
  rn : ∀ i, vid v1 = some i → vid v2 = some i → False
  vi : ∀ (k k' : Nat) (v v' : AV) (i : Nat), V[k]? = some v → V[k']? = some v' → vid v = some i → vid v' = some i → k = k'
  va : ∀ v ∈ V, ∀ z es t, v ≠ .app z es t
def CfgM.own (v1 v2 v3 : AV) (V : List AV) (j : Nat) : Prop := vid v1 = some j ∨ vid v2 = some j ∨ vid v3 = some j ∨ ∃ v ∈ V, vid v = some j
theorem CfgM.fr {O O' : List (Nat × AO)} {v1 v2 v3 v4 : AV} {V : List AV} {c : Config} (h : CfgM O v1 v2 v3 v4 V c) (hf : ∀ j, CfgM.own v1 v2 v3 V j → look j O' = look j O) : CfgM O' v1 v2 v3 v4 V c := by
  refine ⟨h.r.fr fun j hj => hf j (.inl hj), h.rl, ?_, h.n.fr fun j hj => hf j (.inr (.inl hj)), h.d.fr fun j hj => hf j (.inr (.inr (.inl hj))), h.g, h.rn, h.vi, h.va⟩
  intro k v l hv hl
  exact (h.rv k v l hv hl).fr fun j hj => hf j (.inr (.inr (.inr ⟨v, List.mem_of_getElem? hv, hj⟩)))
theorem mapO_gets {α β : Type} {f : α → Option β} : ∀ {l : List α} {m : List β}, l.length = m.length → (∀ (k : Nat) (x : α) (y : β), l[k]? = some x → m[k]? = some y → f x = some y) → mapO f l = some m
  | [], [], _, _ => rfl
  | [], _ :: _, h, _ => by simp at h
  | _ :: _, [], h, _ => by simp at h
  | a :: l, b :: m, h, hf => by
    have h1 := hf 0 a b (by simp) (by simp)
    have h2 := mapO_gets (f := f) (l := l) (m := m) (by simpa using h) fun k x y hx hy => hf (k + 1) x y (by simpa using hx) (by simpa using hy)
    simp only [mapO, h1, h2]
theorem CfgM.snpR {O : List (Nat × AO)} {v1 v2 v3 v4 : AV} {V : List AV} {c : Config} {n N : Nat} (h : CfgM O v1 v2 v3 v4 V c) : snap (n + 4) ⟨O, N⟩ v1 = some (.slice 1 (c.rows.map (cS 5 Rw.c))) := by
  have e1 : mapO (mapO (snap (n + 3) ⟨O, N⟩)) (V.map fun v => [v]) = some (c.rows.map (cS 5 Rw.c)) := by
    refine mapO_gets (by simp [h.rl]) ?_
    intro k x y hx hy
    rw [List.getElem?_map] at hx hy
    cases hv : V[k]? with
    | none => rw [hv] at hx; cases hx
    | some v =>
      cases hl : c.rows[k]? with
      | none => rw [hl] at hy; cases hy
      | some l =>
        rw [hv] at hx; rw [hl] at hy
        cases hx; cases hy
        have := (h.rv k v l hv hl).snp (N := N) (n := n + 2)
        simp only [mapO, this, mapO_mapid (n := n + 2) (H := ⟨O, N⟩) (fun x => snp_rw x) l, Option.map_some, cS]
  have k1 := h.r.snp (N := N) (n := n + 3)
  rw [e1] at k1
  exact k1
theorem CfgM.snpN {O : List (Nat × AO)} {v1 v2 v3 v4 : AV} {V : List AV} {c : Config} {n N : Nat} (h : CfgM O v1 v2 v3 v4 V c) : snap (n + 4) ⟨O, N⟩ v2 = some (.slice 1 (c.nextID.map cI)) := by
  have k2 := h.n.snp (N := N) (n := n + 3)
  rw [mapO_mapid (n := n + 3) (H := ⟨O, N⟩) (fun x => snp_cI x)] at k2
  exact k2
theorem CfgM.snpD {O : List (Nat × AO)} {v1 v2 v3 v4 : AV} {V : List AV} {c : Config} {n N : Nat} (h : CfgM O v1 v2 v3 v4 V c) : snap (n + 4) ⟨O, N⟩ v3 = some (.slice 2 (c.defaults.map ActionCall.c)) := by
  have k3 := h.d.snp (N := N) (n := n + 3)
  rw [mapO_mapid (n := n + 3) (H := ⟨O, N⟩) (fun x => snp_call x)] at k3
  exact k3
theorem CfgM.snpG {O : List (Nat × AO)} {v1 v2 v3 v4 : AV} {V : List AV} {c : Config} {n N : Nat} (h : CfgM O v1 v2 v3 v4 V c) : snap (n + 4) ⟨O, N⟩ v4 = some (.slice 1 (c.registers.map (cS 1 c32))) := by
  rcases h.g with hg | ⟨t, hg⟩ <;> subst hg <;> simp
@[simp] theorem pureBack_bool (b x : Bool) (H : AH) : pureBack b H (some (.val (.bool x))) = some (.val (.bool x), H) := by cases b <;> simp
@[simp] theorem pureBack_int (b : Bool) (k : IntKind) (x : Int) (H : AH) : pureBack b H (some (.val (.int k x))) = some (.val (.int k x), H) := by cases b <;> simp
end Go.Av
