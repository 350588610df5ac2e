/-
  A store of which one table changes.
-/
import Derived.Test.YtjdbnnnakpacjaaGreatH13
set_option linter.unusedVariables false
set_option linter.unusedSimpArgs false
set_option linter.constructorNameAsVariable false
namespace Go.Av
set_option maxRecDepth 4000
theorem entsF_ids : ∀ (l l' : List Rw) (n : Nat), l.length = l'.length → (∀ (j : Nat) (h1 : j < l.length) (h2 : j < l'.length), l[j].id = l'[j].id) → entsF l n = entsF l' n
  | [], [], n, _, _ => rfl
  | [], _ :: _, n, h, _ => by simp at h
  | _ :: _, [], n, h, _ => by simp at h
  | a :: l, b :: l', n, h, hi => by
    have h0 := hi 0 (by simp) (by simp)
    simp at h0
    simp only [entsF, h0]
    rw [entsF_ids l l' (n + 1) (by simpa using h) fun j h1 h2 => by
      have := hi (j + 1) (by simp; omega) (by simp; omega)
      simpa using this]
theorem ents_ids {l l' : List Rw} (h : l.length = l'.length) (hi : ∀ (j : Nat) (h1 : j < l.length) (h2 : j < l'.length), l[j].id = l'[j].id) : ents l = ents l' := entsF_ids l l' 0 h hi
def SV.chg (S : SV) (k j : Nat) : Prop := (∃ v, S.V[k]? = some v ∧ vid v = some j) ∨ vid S.v1 = some j ∨ vid S.v2 = some j ∨ vid S.vi = some j ∨ S.M[k]? = some j
def SV.tab (S : SV) (k : Nat) (v : AV) (m : Nat) : SV := ⟨S.s, S.v1, S.v2, S.v3, S.v4, S.vi, S.V.set k v, S.M.set k m⟩
section
variable {O O' : List (Nat × AO)} {S : SV} {p : Prg} {c : Config} {k : Nat}
-- what the numbers hold
theorem StoreM.vrow (m : StoreM O S p c) {j : Nat} {v : AV} {i : Nat} (hv : S.V[j]? = some v) (hi : vid v = some i) : ∃ es, look i O = some (.row 5 es) := by
  have hj := (List.getElem?_eq_some_iff.1 hv).1
  exact (m.cm.rv j v _ hv (List.getElem?_eq_getElem (by rw [← m.cm.rl]; exact hj))).own hi
theorem StoreM.mmap (m : StoreM O S p c) {j i : Nat} (hv : S.M[j]? = some i) : ∃ es, look i O = some (.map es) := by
  have hj := (List.getElem?_eq_some_iff.1 hv).1
  exact ⟨_, m.x.m j i _ hv (List.getElem?_eq_getElem (by rw [← m.x.len]; exact hj))⟩
theorem StoreM.upd (m : StoreM O S p c) (hk : k < c.rows.length) {v' : AV} {m' : Nat} {l' : List Rw} {nx : Int}
    (keep : ∀ j, S.own j → ¬ S.chg k j → look j O' = look j O)
    (h1 : Mu O' 1 S.v1 ((S.V.set k v').map fun x => [x])) (h2 : Mu O' 1 S.v2 ((c.nextID.set k nx).map cI)) (h3 : Mu O' 1 S.vi ((S.M.set k m').map fun x => [.map x])) (h4 : Mu O' 5 v' (l'.map Rw.c)) (h5 : look m' O' = some (.map (ents l')))
    (h6 : ∀ z es t, v' ≠ .app z es t) (d1 : ∀ i, vid v' = some i → (∃ v, S.V[k]? = some v ∧ vid v = some i) ∨ ∀ x, look i O = some x → x = .res) (d2 : S.M[k]? = some m' ∨ ∀ x, look m' O = some x → x = .res) :
    StoreM O' (S.tab k v' m') p ⟨c.rows.set k l', c.nextID.set k nx, c.defaults, c.registers⟩ := by
  have hVl := m.cm.rl
  have hMl := m.x.len
  -- numbers that stay
  have ks : look S.s O' = look S.s O := by
    refine keep S.s (.inl rfl) ?_
    rintro (⟨v, hv, hi⟩ | hi | hi | hi | hi)
    · obtain ⟨es, hl⟩ := m.vrow hv hi; exact lk_ne m.s hl (by simp) rfl
    · obtain ⟨es, hl⟩ := m.cm.r.own hi; exact lk_ne m.s hl (by simp) rfl
    · obtain ⟨es, hl⟩ := m.cm.n.own hi; exact lk_ne m.s hl (by simp) rfl
    · obtain ⟨es, hl⟩ := m.x.i.own hi; exact lk_ne m.s hl (by simp) rfl
    · obtain ⟨es, hl⟩ := m.mmap hi; exact lk_ne m.s hl (by simp) rfl
  have kv : ∀ (j : Nat) (v : AV) (i : Nat), j ≠ k → S.V[j]? = some v → vid v = some i → look i O' = look i O := by
    intro j v i hj hv hi
    obtain ⟨es0, hl0⟩ := m.vrow hv hi
    refine keep i (.inr (.inl (.inr (.inr (.inr ⟨v, List.mem_of_getElem? hv, hi⟩))))) ?_
    rintro (⟨w, hw, hi'⟩ | hi' | hi' | hi' | hi')
    · exact hj (m.cm.vi j k v w i hv hw hi hi')
    · obtain ⟨es, hl⟩ := m.cm.r.own hi'; exact lk_ne hl0 hl (by simp) rfl
    · obtain ⟨es, hl⟩ := m.cm.n.own hi'; exact lk_ne hl0 hl (by simp) rfl
    · obtain ⟨es, hl⟩ := m.x.i.own hi'; exact lk_ne hl0 hl (by simp) rfl
    · obtain ⟨es, hl⟩ := m.mmap hi'; exact lk_ne hl0 hl (by simp) rfl
  have km : ∀ (j i : Nat), j ≠ k → S.M[j]? = some i → look i O' = look i O := by
    intro j i hj hv
    obtain ⟨es0, hl0⟩ := m.mmap hv
    refine keep i (.inr (.inr (.inr (List.mem_of_getElem? hv)))) ?_
    rintro (⟨w, hw, hi'⟩ | hi' | hi' | hi' | hi')
    · obtain ⟨es, hl⟩ := m.vrow hw hi'; exact lk_ne hl0 hl (by simp) rfl
    · obtain ⟨es, hl⟩ := m.cm.r.own hi'; exact lk_ne hl0 hl (by simp) rfl
    · obtain ⟨es, hl⟩ := m.cm.n.own hi'; exact lk_ne hl0 hl (by simp) rfl
    · obtain ⟨es, hl⟩ := m.x.i.own hi'; exact lk_ne hl0 hl (by simp) rfl
    · exact hj (m.x.nd j k i hv hi')
  have kd : Mu O' 2 S.v3 (c.defaults.map ActionCall.c) := by
    refine m.cm.d.fr fun i hi => ?_
    obtain ⟨es0, hl0⟩ := m.cm.d.own hi
    refine keep i (.inr (.inl (.inr (.inr (.inl hi))))) ?_
    rintro (⟨w, hw, hi'⟩ | hi' | hi' | hi' | hi')
    · obtain ⟨es, hl⟩ := m.vrow hw hi'; exact lk_ne hl0 hl (by simp) rfl
    · obtain ⟨es, hl⟩ := m.cm.r.own hi'; exact lk_ne hl0 hl (by simp) rfl
    · obtain ⟨es, hl⟩ := m.cm.n.own hi'; exact lk_ne hl0 hl (by simp) rfl
    · obtain ⟨es, hl⟩ := m.x.i.own hi'; exact lk_ne hl0 hl (by simp) rfl
    · obtain ⟨es, hl⟩ := m.mmap hi'; exact lk_ne hl0 hl (by simp) rfl
  have other : ∀ (j : Nat) (v : AV) (i : Nat), j ≠ k → S.V[j]? = some v → vid v = some i → vid v' = some i → False := by
    intro j v i hj hv hi hi'
    rcases d1 i hi' with ⟨w, hw, hw'⟩ | hf
    · exact hj (m.cm.vi j k v w i hv hw hi hw')
    · obtain ⟨es, hl⟩ := m.vrow hv hi
      have := hf _ hl
      cases this
  refine ⟨?_, ⟨h1, by simp [SV.tab, hVl], ?_, h2, kd, m.cm.g, m.cm.rn, ?_, ?_⟩, ⟨h3, by simp [SV.tab, hMl], ?_, ?_⟩, m.ri, m.ni⟩
  · show look S.s O' = _
    rw [ks]
    exact m.s
  · intro j v l hv hl
    simp only [SV.tab] at hv
    by_cases hj : k = j
    · subst hj
      rw [List.getElem?_set_self (by omega)] at hv hl
      cases hv; cases hl
      exact h4
    · rw [List.getElem?_set_ne hj] at hv hl
      have h0 := m.cm.rv j v l hv hl
      exact h0.fr fun i hi => kv j v i (fun e => hj e.symm) hv hi
  · intro a b v w i ha hb hi hi'
    simp only [SV.tab] at ha hb
    by_cases hka : k = a
    · by_cases hkb : k = b
      · omega
      · subst hka
        rw [List.getElem?_set_self (by omega)] at ha
        rw [List.getElem?_set_ne hkb] at hb
        cases ha
        exact (other b w i (fun e => hkb e.symm) hb hi' hi).elim
    · by_cases hkb : k = b
      · subst hkb
        rw [List.getElem?_set_self (by omega)] at hb
        rw [List.getElem?_set_ne hka] at ha
        cases hb
        exact (other a v i (fun e => hka e.symm) ha hi hi').elim
      · rw [List.getElem?_set_ne hka] at ha
        rw [List.getElem?_set_ne hkb] at hb
        exact m.cm.vi a b v w i ha hb hi hi'
  · intro v hv
    simp only [SV.tab] at hv
    rcases List.mem_or_eq_of_mem_set hv with hv | rfl
    · exact m.cm.va v hv
    · exact h6
  · intro j i l hi hl
    simp only [SV.tab] at hi
    by_cases hj : k = j
    · subst hj
      rw [List.getElem?_set_self (by omega)] at hi hl
      cases hi; cases hl
      exact h5
    · rw [List.getElem?_set_ne hj] at hi hl
      rw [km j i (fun e => hj e.symm) hi]
      exact m.x.m j i l hi hl
  · intro a b i ha hb
    simp only [SV.tab] at ha hb
    have oth : ∀ j, j ≠ k → S.M[j]? = some m' → False := by
      intro j hj hv
      rcases d2 with h0 | hf
      · exact hj (m.x.nd j k m' hv h0)
      · obtain ⟨es, hl⟩ := m.mmap hv
        have := hf _ hl
        cases this
    by_cases hka : k = a
    · by_cases hkb : k = b
      · omega
      · subst hka
        rw [List.getElem?_set_self (by omega)] at ha
        rw [List.getElem?_set_ne hkb] at hb
        cases ha
        exact (oth b (fun e => hkb e.symm) hb).elim
    · by_cases hkb : k = b
      · subst hkb
        rw [List.getElem?_set_self (by omega)] at hb
        rw [List.getElem?_set_ne hka] at ha
        cases hb
        exact (oth a (fun e => hka e.symm) ha).elim
      · rw [List.getElem?_set_ne hka] at ha
        rw [List.getElem?_set_ne hkb] at hb
        exact m.x.nd a b i ha hb
end
end Go.Av
