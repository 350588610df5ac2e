/-
  Towards TxnInverse: the two lists of undoing operations, as plain functions, and their agreement.
-/
import Derived.Test.YtjdbnnnakpacjaaGreatZ6
import Derived.Test.YtjdbnnnakpacjaaGreatV5
set_option linter.unusedVariables false
set_option linter.unusedSimpArgs false
set_option linter.constructorNameAsVariable false
namespace Go.Av
def noCl : ActionCall := ⟨0, []⟩
def defAt (c : Config) (t : Int) : ActionCall := (at? c.defaults t).getD noCl
def undF (c : Config) (o : TableOp) (id : Int) : TableOp :=
  if o.kind = 1 then ⟨3, o.table, id, noE, noCl⟩ else if o.kind = 2 then ⟨2, o.table, o.id, noE, (etyF (rowsAt c o.table) o.id).call⟩
  else if o.kind = 3 then ⟨1, o.table, o.id, etyF (rowsAt c o.table) o.id, noCl⟩ else ⟨4, o.table, 0, noE, defAt c o.table⟩
-- the map of new numbers
def getM (M : List Ren) (t id : Int) : Option Int := match M with
  | [] => none
  | r :: M => if r.t = t ∧ r.old = id then some r.new else getM M t id
def putM (M : List Ren) (t id n : Int) : List Ren := match M with
  | [] => [⟨t, id, n⟩]
  | r :: M => if r.t = t ∧ r.old = id then ⟨t, id, n⟩ :: M else r :: putM M t id n
theorem getM_put (t id n t' id' : Int) : ∀ M : List Ren, getM (putM M t id n) t' id' = if t = t' ∧ id = id' then some n else getM M t' id'
  | [] => by simp [putM, getM]
  | r :: M => by
    unfold putM
    by_cases h : r.t = t ∧ r.old = id
    · rw [if_pos h]
      simp only [getM]
      rw [h.1, h.2]
      split <;> simp [*]
    · rw [if_neg h]
      simp only [getM, getM_put t id n t' id' M]
      by_cases h2 : r.t = t' ∧ r.old = id'
      · rw [if_pos h2, if_pos h2, if_neg]
        rintro ⟨rfl, rfl⟩; exact h h2
      · rw [if_neg h2, if_neg h2]
-- one step of the program
def bk1 (M : List Ren) (u : TableOp) : TableOp := ⟨u.kind, u.table, if u.kind = 1 then 0 else (getM M u.table u.id).getD u.id, u.entry, u.call⟩
def bkM (p : Prg) (M : List Ren) (d : Config) (u : TableOp) : List Ren := if u.kind = 1 then putM M u.table u.id (xoI p d (bk1 M u)) else M
def bkP (p : Prg) : List Ren → Config → List TableOp → List TableOp
  | _, _, [] => []
  | M, d, u :: V => bk1 M u :: bkP p (bkM p M d u) (xoC p d (bk1 M u)) V
-- one step of the reference
def bkU (R : List Ren) (u : TableOp) : TableOp := ⟨u.kind, u.table, if u.kind = 1 then 0 else if u.kind = 4 then 0 else curF R u.table u.id, u.entry, u.call⟩
def bkR1 (R : List Ren) (N : List Int) (u : TableOp) : List Ren := if u.kind = 1 then R ++ [⟨u.table, u.id, (at? N u.table).getD 0⟩] else R
def bkN (N : List Int) (u : TableOp) : List Int := if u.kind = 1 then N.set u.table.toNat ((at? N u.table).getD 0 + 1) else N
def bkR : List Ren → List Int → List TableOp → List TableOp
  | _, _, [] => []
  | R, N, u :: V => bkU R u :: bkR (bkR1 R N u) (bkN N u) V
theorem bkP_len (p : Prg) : ∀ (V : List TableOp) (M : List Ren) (d : Config), (bkP p M d V).length = V.length
  | [], _, _ => rfl
  | u :: V, M, d => by simp [bkP, bkP_len p V]
theorem bkR_len : ∀ (V : List TableOp) (R : List Ren) (N : List Int), (bkR R N V).length = V.length
  | [], _, _ => rfl
  | u :: V, R, N => by simp [bkR, bkR_len V]
structure UndS (u : TableOp) : Prop where
  op : OpS u
  pos : u.kind = 1 → 0 < u.id
  zero : u.kind = 4 → u.id = 0
theorem bk_agree (p : Prg) (hp : p.tables.length < 2 ^ 40) : ∀ (V : List TableOp), (∀ u ∈ V, UndS u) → ∀ (d : Config) (R M : List Ren) (i : Nat), CfgV p d → CfgT d →
    (∀ t id, curF R t id = (getM M t id).getD id) → (∀ t, getM M t 0 = none) →
    bkP p M d V = bkR R d.nextID V ∨ (badF p d (bkP p M d V) i ≠ none ∧ badF p d (bkR R d.nextID V) i ≠ none)
  | [], _, _, _, _, _, _, _, _, _ => .inl rfl
  | u :: V, hV, d, R, M, i, v, s, hRM, hM0 => by
    have hu := hV u (by simp)
    have e1 : bkU R u = bk1 M u := by
      unfold bkU bk1
      by_cases z1 : u.kind = 1
      · simp [z1]
      by_cases z4 : u.kind = 4
      · simp [z4, hu.zero z4, hM0]
      · simp [z1, z4, hRM]
    have ho : OpS (bk1 M u) := ⟨hu.op.e, hu.op.c⟩
    simp only [bkP, bkR, e1, badF]
    by_cases hx : xoE p d (bk1 M u) = 0
    · simp only [if_pos hx]
      have hn := xoC_next hx
      have hk : (bk1 M u).kind = u.kind := rfl
      have ht : (bk1 M u).table = u.table := rfl
      have hN : bkN d.nextID u = (xoC p d (bk1 M u)).nextID := by
        rw [hn, hk, ht]; rfl
      have hI : u.kind = 1 → xoI p d (bk1 M u) = (at? d.nextID u.table).getD 0 := fun z => by
        simp [xoI, hx, hk, ht, z] <;> rfl
      have ih := bk_agree p hp V (fun w hw => hV w (by simp [hw])) (xoC p d (bk1 M u)) (bkR1 R d.nextID u) (bkM p M d u) (i + 1) (xoC_ok v _) (xoC_t v s hp _ ho) ?_ ?_
      · rw [hN]
        rcases ih with ih | ih
        · exact .inl (by rw [ih])
        · exact .inr ih
      · intro t id
        unfold bkR1 bkM
        by_cases z : u.kind = 1
        · rw [if_pos z, if_pos z, cur_snoc, getM_put, hI z]
          by_cases y : u.table = t ∧ u.id = id
          · rw [if_pos y, if_pos y]; rfl
          · rw [if_neg y, if_neg y]; exact hRM t id
        · rw [if_neg z, if_neg z]; exact hRM t id
      · intro t
        unfold bkM
        by_cases z : u.kind = 1
        · rw [if_pos z, getM_put, if_neg]
          · exact hM0 t
          · rintro ⟨_, h⟩
            have := hu.pos z
            omega
        · rw [if_neg z]; exact hM0 t
    · simp only [if_neg hx]
      exact .inr ⟨by simp, by simp⟩
-- the operations that undo a transaction, last first
def undos (p : Prg) (c : Config) (l : List TableOp) (i : Nat) : List TableOp := (List.range i).map fun j => match l[j]? with
  | some o => undF (cfgN p c l j) o (idN p c l j)
  | none => noO 0
def invP (p : Prg) (c : Config) (l : List TableOp) : List TableOp := bkP p [] (cfgN p c l l.length) (undos p c l l.length).reverse
def invR (p : Prg) (c : Config) (l : List TableOp) : List TableOp := bkR [] (cfgN p c l l.length).nextID (undos p c l l.length).reverse
def invT (p : Prg) (c : Config) (l out : List TableOp) : AV := match badA p (cfgN p c l l.length) out with
  | some _ => .tup [.slice 9 [], .int .i64 14]
  | none => if equiv (cfgN p (cfgN p c l l.length) out out.length) c = true then .tup [.slice 9 (out.map TableOp.c), .int .i64 0] else .tup [.slice 9 [], .int .i64 14]
def invA (p : Prg) (c : Config) (l out : List TableOp) : AV := match badA p c l with
  | some (_, e) => .tup [.slice 9 [], .int .i64 e]
  | none => invT p c l out
theorem badF_zero {p : Prg} : ∀ {l : List TableOp} {c : Config} {i : Nat}, badF p c l i = none → ∀ j (h : j < l.length), xoE p (cfgN p c l j) l[j] = 0
  | [], _, _, _, j, h => by simp at h
  | o :: l, c, i, hb, 0, _ => by
    unfold badF at hb
    by_cases z : xoE p c o = 0
    · rw [cfgN_zero]; exact z
    · rw [if_neg z] at hb; cases hb
  | o :: l, c, i, hb, j + 1, h => by
    unfold badF at hb
    by_cases z : xoE p c o = 0
    · rw [if_pos z] at hb
      have := badF_zero hb j (by simpa using h)
      simpa [cfgN, xoF] using this
    · rw [if_neg z] at hb; cases hb
theorem badA_none {p : Prg} {c : Config} {l : List TableOp} (h : badA p c l = none) : CfgV p c ∧ l.length ≤ 64 ∧ badF p c l 0 = none := by
  have h64 := badA_len h
  unfold badA at h
  by_cases z : cfgE p c = 0
  case neg => simp [z] at h
  refine ⟨(cfgE_zero p c).1 z, h64, ?_⟩
  rw [if_neg (by simpa using z), if_neg (by omega)] at h
  simpa using h
theorem etyF_mem {l : List Rw} {id : Int} (h : rIdx l id ≠ none) : ∃ r ∈ l, r.id = id ∧ etyF l id = r.entry := by
  unfold etyF
  cases hf : l.find? fun r => decide (r.id = id) with
  | none =>
    exfalso
    apply h
    unfold rIdx
    rw [List.findIdx?_eq_none_iff]
    intro r hr
    simpa using List.find?_eq_none.1 hf r hr
  | some r => exact ⟨r, List.mem_of_find?_eq_some hf, by simpa using List.find?_some hf, rfl⟩
theorem noE_s : EntS noE := ⟨by simp [noE], by simp [noE], by simp [noE], by simp [noE]⟩
theorem noCl_s : CallS noCl := ⟨by simp [noCl], by simp [noCl]⟩
theorem at_mem {α : Type} {l : List α} {t : Int} {x : α} (h : at? l t = some x) : x ∈ l := by
  unfold at? at h
  split at h
  · cases h
  · exact List.mem_of_getElem? h
theorem defAt_s {c : Config} (s : CfgT c) (t : Int) : CallS (defAt c t) := by
  unfold defAt
  cases h : at? c.defaults t with
  | none => exact noCl_s
  | some d => exact ⟨(s.ds d (at_mem h)).1, (s.ds d (at_mem h)).2⟩
-- an operation that succeeds names a row of a table
theorem xo_row {p : Prg} {c : Config} {o : TableOp} (hx : xoE p c o = 0) (hk : o.kind = 2 ∨ o.kind = 3) : inT p o.table = true ∧ rIdx (rowsAt c o.table) o.id ≠ none := by
  unfold xoE at hx
  rcases hk with z | z
  · simp only [z, modE] at hx
    cases hi : inT p o.table with
    | false => simp [hi] at hx
    | true =>
      refine ⟨rfl, fun h => ?_⟩
      simp [hi, h] at hx
  · simp only [z, delE] at hx
    cases hi : inT p o.table with
    | false => simp [hi] at hx
    | true =>
      refine ⟨rfl, fun h => ?_⟩
      simp [hi, h] at hx
theorem undF_s {p : Prg} {c : Config} (v : CfgV p c) (s : CfgT c) {o : TableOp} (hx : xoE p c o = 0) (id : Int) : UndS (undF c o id) := by
  have row : o.kind = 2 ∨ o.kind = 3 → ∃ r, rowS r ∧ 0 < r.id ∧ r.id = o.id ∧ etyF (rowsAt c o.table) o.id = r.entry := fun hk => by
    obtain ⟨hi, hr⟩ := xo_row hx hk
    obtain ⟨r, hr, h1, h2⟩ := etyF_mem hr
    obtain ⟨k, hk, hl⟩ := inT_iff hi
    obtain ⟨l, hl2, hr2⟩ := rowsAt_mem hr
    rw [hk, rowsAt_nat (by rw [v.rl]; exact hl)] at hr
    exact ⟨r, (s.rs l hl2).2 r hr2, (v.at hl).pos r hr, h1, h2⟩
  unfold undF
  by_cases z1 : o.kind = 1
  · rw [if_pos z1]; exact ⟨⟨noE_s, noCl_s⟩, by simp, by simp⟩
  rw [if_neg z1]
  by_cases z2 : o.kind = 2
  · rw [if_pos z2]
    obtain ⟨r, hr, _, _, he⟩ := row (.inl z2)
    exact ⟨⟨noE_s, by rw [he]; exact ⟨hr.al, hr.ar⟩⟩, by simp, by simp⟩
  rw [if_neg z2]
  by_cases z3 : o.kind = 3
  · rw [if_pos z3]
    obtain ⟨r, hr, hp, hid, he⟩ := row (.inr z3)
    exact ⟨⟨by rw [he]; exact hr, noCl_s⟩, by simp; omega, by simp⟩
  rw [if_neg z3]
  exact ⟨⟨noE_s, defAt_s s _⟩, by simp, by simp⟩
theorem undos_s {p : Prg} {c : Config} (v : CfgV p c) (s : CfgT c) (hp : p.tables.length < 2 ^ 40) {l : List TableOp} (hl : ∀ o ∈ l, OpS o) (hb : badF p c l 0 = none) : ∀ u ∈ undos p c l l.length, UndS u := by
  intro u hu
  simp only [undos, List.mem_map, List.mem_range] at hu
  obtain ⟨j, hj, rfl⟩ := hu
  rw [List.getElem?_eq_getElem hj]
  obtain ⟨vj, sj⟩ := cfgN_ok v s hp l hl j
  exact undF_s vj sj (badF_zero hb j hj) _
theorem inv_agree {p : Prg} {c : Config} (s : CfgT c) (hp : p.tables.length < 2 ^ 40) {l : List TableOp} (hl : ∀ o ∈ l, OpS o) : invA p c l (invP p c l) = invA p c l (invR p c l) := by
  unfold invA
  cases hA : badA p c l with
  | some x => rfl
  | none =>
    obtain ⟨v, h64, hb⟩ := badA_none hA
    obtain ⟨v', s'⟩ := cfgN_ok v s hp l hl l.length
    have hU := undos_s v s hp hl hb
    simp only
    have hlen : (undos p c l l.length).length = l.length := by simp [undos]
    rcases bk_agree p hp (undos p c l l.length).reverse (fun u hu => hU u (by simpa using hu)) (cfgN p c l l.length) [] [] 0 v' s' (by simp [curF, getM]) (by simp [getM]) with h | ⟨h1, h2⟩
    · unfold invP invR; rw [h]
    · have b : ∀ out : List TableOp, out.length = l.length → badF p (cfgN p c l l.length) out 0 ≠ none → invT p c l out = .tup [.slice 9 [], .int .i64 14] := fun out ho hne => by
        unfold invT
        cases hq : badA p (cfgN p c l l.length) out with
        | some x => rfl
        | none => exact absurd (badA_none hq).2.2 hne
      have h1 : badF p (cfgN p c l l.length) (invP p c l) 0 ≠ none := h1
      have h2 : badF p (cfgN p c l l.length) (invR p c l) 0 ≠ none := h2
      rw [b _ (by unfold invP; rw [bkP_len]; simp [hlen]) h1, b _ (by unfold invR; rw [bkR_len]; simp [hlen]) h2]
end Go.Av
