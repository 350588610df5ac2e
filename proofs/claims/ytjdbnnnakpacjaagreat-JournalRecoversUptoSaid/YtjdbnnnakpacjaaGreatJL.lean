/-
  The encoding of operations, and its inverse, as plain functions; each inverts the other.
-/
import Derived.Test.YtjdbnnnakpacjaaGreatAvD
set_option linter.unusedVariables false
set_option linter.unusedSimpArgs false
set_option linter.constructorNameAsVariable false
namespace Go.Av
def be2 (v : Int) : List Int := [v / 256 % 256, v % 256]
def be4 (v : Int) : List Int := [v / 16777216 % 256, v / 65536 % 256, v / 256 % 256, v % 256]
def shortI (n : Int) : Bool := decide (0 ≤ n) && decide (n ≤ 65535)
def idI (n : Int) : Bool := decide (0 ≤ n) && decide (n ≤ 2147483647)
def callEJ (c : ActionCall) : Bool := shortI c.action && decide (c.args.length ≤ 255)
def opE (o : TableOp) : Bool := shortI o.table && (if o.kind = 1 then shortI o.entry.priority && (decide (o.entry.keys.length ≤ 255) && callEJ o.entry.call) else if o.kind = 2 then idI o.id && callEJ o.call else if o.kind = 3 then idI o.id else if o.kind = 4 then callEJ o.call else false)
def keyB (k : KeyMatch) : List Int := be4 k.value ++ be4 k.mask
def argsB (l : List Int) : List Int := (l.map be4).flatten
def keysB (l : List KeyMatch) : List Int := (l.map keyB).flatten
def callB (c : ActionCall) : List Int := be2 c.action ++ ((c.args.length : Int) :: argsB c.args)
def opB (o : TableOp) : List Int := o.kind :: (be2 o.table ++ (if o.kind = 1 then be2 o.entry.priority ++ ((o.entry.keys.length : Int) :: (keysB o.entry.keys ++ callB o.entry.call)) else if o.kind = 2 then be4 o.id ++ callB o.call else if o.kind = 3 then be4 o.id else callB o.call))
def opsB (l : List TableOp) : List Int := (l.map opB).flatten
def encB (l : List TableOp) : List Int := if l.length ≤ 64 ∧ ∀ o ∈ l, opE o = true then (l.length : Int) :: opsB l else []

@[ext] structure Stt where
  b : List Int
  e : Int
def num : Nat → List Int → Int
  | 1, a :: _ => a
  | 2, a :: b :: _ => 256 * a + b
  | 4, a :: b :: c :: d :: _ => 256 * (256 * (256 * a + b) + c) + d
  | _, _ => 0
def rdN (n : Nat) (s : Stt) : Stt × Int := if s.e = 0 then (if s.b.length < n then (⟨s.b, 3⟩, 0) else (⟨s.b.drop n, 0⟩, num n s.b)) else (s, 0)
def rdI (s : Stt) : Stt × Int := (if (rdN 4 s).2 > 2147483647 then ⟨(rdN 4 s).1.b, 5⟩ else (rdN 4 s).1, (rdN 4 s).2)
def rdArgs : Nat → Stt → Stt × List Int
  | 0, s => (s, [])
  | n + 1, s => if s.e = 0 then ((rdArgs n (rdN 4 s).1).1, (rdN 4 s).2 :: (rdArgs n (rdN 4 s).1).2) else (s, [])
def rdKey (s : Stt) : Stt × KeyMatch := ((rdN 4 (rdN 4 s).1).1, ⟨(rdN 4 s).2, (rdN 4 (rdN 4 s).1).2⟩)
def rdKeys : Nat → Stt → Stt × List KeyMatch
  | 0, s => (s, [])
  | n + 1, s => if s.e = 0 then ((rdKeys n (rdKey s).1).1, (rdKey s).2 :: (rdKeys n (rdKey s).1).2) else (s, [])
def rdCall (s : Stt) : Stt × ActionCall :=
  let p := rdN 2 s
  let q := rdN 1 p.1
  let r := rdArgs q.2.toNat q.1
  (r.1, ⟨p.2, r.2⟩)
def rdEntry (s : Stt) : Stt × Entry :=
  let p := rdN 2 s
  let q := rdN 1 p.1
  let r := rdKeys q.2.toNat q.1
  let c := rdCall r.1
  (c.1, ⟨r.2, p.2, c.2⟩)
def call0 : ActionCall := ⟨0, []⟩
def entry0 : Entry := ⟨[], 0, call0⟩
def kindS (p : Stt × Int) : Stt := if p.1.e = 0 ∧ (p.2 < 1 ∨ 4 < p.2) then ⟨p.1.b, 5⟩ else p.1
def rdTail (k t : Int) (s : Stt) : Stt × TableOp :=
  if s.e ≠ 0 then (s, ⟨k, t, 0, entry0, call0⟩)
  else if k = 1 then ((rdEntry s).1, ⟨k, t, 0, (rdEntry s).2, call0⟩)
  else if k = 2 then ((if (rdI s).1.e = 0 then (rdCall (rdI s).1).1 else (rdI s).1), ⟨k, t, (rdI s).2, entry0, if (rdI s).1.e = 0 then (rdCall (rdI s).1).2 else call0⟩)
  else if k = 3 then ((rdI s).1, ⟨k, t, (rdI s).2, entry0, call0⟩)
  else ((rdCall s).1, ⟨k, t, 0, entry0, (rdCall s).2⟩)
def rdOp (s : Stt) : Stt × TableOp :=
  let p := rdN 1 s
  let q := rdN 2 (kindS p)
  rdTail p.2 q.2 q.1
def rdOps : Nat → Stt → Stt × List TableOp
  | 0, s => (s, [])
  | n + 1, s => if s.e = 0 then ((rdOps n (rdOp s).1).1, (rdOp s).2 :: (rdOps n (rdOp s).1).2) else (s, [])
def cntS (p : Stt × Int) : Stt := if 64 < p.2 then ⟨p.1.b, 5⟩ else p.1
def endE (s : Stt) : Int := if s.e = 0 ∧ s.b ≠ [] then 4 else s.e
def decB (b : List Int) : List TableOp × Int :=
  let p := rdN 1 ⟨b, 0⟩
  let r := rdOps p.2.toNat (cntS p)
  (if endE r.1 = 0 then r.2 else [], endE r.1)

-- reading what was written
theorem rd1_be (v : Int) (r : List Int) : rdN 1 ⟨v :: r, 0⟩ = (⟨r, 0⟩, v) := by simp [rdN, num]
theorem rd2_be {v : Int} (h : shortI v = true) (r : List Int) : rdN 2 ⟨be2 v ++ r, 0⟩ = (⟨r, 0⟩, v) := by
  simp [shortI] at h
  have e : 256 * (v / 256 % 256) + v % 256 = v := by omega
  simp [rdN, num, be2, e]
theorem rd4_be {v : Int} (h : 0 ≤ v ∧ v ≤ 4294967295) (r : List Int) : rdN 4 ⟨be4 v ++ r, 0⟩ = (⟨r, 0⟩, v) := by
  have e : 256 * (256 * (256 * (v / 16777216 % 256) + v / 65536 % 256) + v / 256 % 256) + v % 256 = v := by omega
  simp [rdN, num, be4, e]
theorem rdI_be {v : Int} (h : idI v = true) (r : List Int) : rdI ⟨be4 v ++ r, 0⟩ = (⟨r, 0⟩, v) := by
  simp [idI] at h
  have h2 : ¬ (2147483647 : Int) < v := by omega
  simp [rdI, rd4_be (v := v) (by omega), h2]
theorem rdArgs_be : ∀ (l : List Int), (∀ x ∈ l, 0 ≤ x ∧ x ≤ 4294967295) → ∀ r, rdArgs l.length ⟨argsB l ++ r, 0⟩ = (⟨r, 0⟩, l)
  | [], _, r => by simp [rdArgs, argsB]
  | x :: l, h, r => by
    have := rdArgs_be l (fun y hy => h y (List.mem_cons_of_mem _ hy)) r
    have h4 := rd4_be (h x (List.mem_cons_self ..)) (argsB l ++ r)
    simp [rdArgs, argsB] at this h4 ⊢
    simp [h4, this]
def okK (k : KeyMatch) : Prop := (0 ≤ k.value ∧ k.value ≤ 4294967295) ∧ (0 ≤ k.mask ∧ k.mask ≤ 4294967295)
theorem rdKeys_be : ∀ (l : List KeyMatch), (∀ x ∈ l, okK x) → ∀ r, rdKeys l.length ⟨keysB l ++ r, 0⟩ = (⟨r, 0⟩, l)
  | [], _, r => by simp [rdKeys, keysB]
  | x :: l, h, r => by
    have := rdKeys_be l (fun y hy => h y (List.mem_cons_of_mem _ hy)) r
    have hx := h x (List.mem_cons_self ..)
    have h4 := rd4_be hx.1 (be4 x.mask ++ (keysB l ++ r))
    have h5 := rd4_be hx.2 (keysB l ++ r)
    simp [rdKeys, keysB, keyB, rdKey] at this h4 h5 ⊢
    simp [h4, h5, this]
def okC (c : ActionCall) : Prop := ∀ x ∈ c.args, 0 ≤ x ∧ x ≤ 4294967295
theorem rdCall_be {c : ActionCall} (h : callEJ c = true) (ho : okC c) (r : List Int) : rdCall ⟨callB c ++ r, 0⟩ = (⟨r, 0⟩, c) := by
  simp [callEJ] at h
  have h2 := rd2_be h.1 ((c.args.length : Int) :: (argsB c.args ++ r))
  have h3 := rdArgs_be c.args ho r
  simp [rdCall, callB, h2, rd1_be, h3]
def okO (o : TableOp) : Prop := (∀ x ∈ o.entry.keys, okK x) ∧ okC o.entry.call ∧ okC o.call
theorem rdOp_be {o : TableOp} (h : opE o = true) (ho : okO o) (r : List Int) : (rdOp ⟨opB o ++ r, 0⟩).1 = ⟨r, 0⟩ := by
  obtain ⟨o1, o2, o3⟩ := ho
  have hk : 1 ≤ o.kind ∧ o.kind ≤ 4 := by
    by_cases k1 : o.kind = 1
    · omega
    by_cases k2 : o.kind = 2
    · omega
    by_cases k3 : o.kind = 3
    · omega
    by_cases k4 : o.kind = 4
    · omega
    · simp [opE, k1, k2, k3, k4] at h
  have hs : ∀ s : Stt, s.e = 0 → kindS (s, o.kind) = s := by
    intro s _
    simp only [kindS]
    rw [if_neg (by omega)]
  unfold opE at h
  rw [Bool.and_eq_true] at h
  obtain ⟨ht, h⟩ := h
  by_cases k1 : o.kind = 1
  · simp [k1] at h
    have h2 := rd2_be ht (be2 o.entry.priority ++ ((o.entry.keys.length : Int) :: (keysB o.entry.keys ++ (callB o.entry.call ++ r))))
    have h3 := rd2_be h.1 ((o.entry.keys.length : Int) :: (keysB o.entry.keys ++ (callB o.entry.call ++ r)))
    have h4 := rdKeys_be o.entry.keys o1 (callB o.entry.call ++ r)
    have h5 := rdCall_be h.2.2 o2 r
    simp [k1] at hs
    simp [rdOp, opB, k1, rd1_be, hs, h2, rdTail, rdEntry, h3, h4, h5]
  by_cases k2 : o.kind = 2
  · simp [k2] at h
    have h2 := rd2_be ht (be4 o.id ++ (callB o.call ++ r))
    have h3 := rdI_be h.1 (callB o.call ++ r)
    have h5 := rdCall_be h.2 o3 r
    simp [k2] at hs
    simp [rdOp, opB, k2, rd1_be, hs, h2, rdTail, h3, h5]
  by_cases k3 : o.kind = 3
  · simp [k3] at h
    have h2 := rd2_be ht (be4 o.id ++ r)
    have h3 := rdI_be h r
    simp [k3] at hs
    simp [rdOp, opB, k3, rd1_be, hs, h2, rdTail, h3]
  · have k4 : o.kind = 4 := by omega
    simp [k4] at h
    have h2 := rd2_be ht (callB o.call ++ r)
    have h5 := rdCall_be h o3 r
    simp [k4] at hs
    simp [rdOp, opB, k4, rd1_be, hs, h2, rdTail, h5]
theorem rdOps_be : ∀ (l : List TableOp), (∀ o ∈ l, opE o = true) → (∀ o ∈ l, okO o) → ∀ r, (rdOps l.length ⟨opsB l ++ r, 0⟩).1 = ⟨r, 0⟩ ∧ (rdOps l.length ⟨opsB l ++ r, 0⟩).2.length = l.length
  | [], _, _, r => by simp [rdOps, opsB]
  | x :: l, h, ho, r => by
    have := rdOps_be l (fun y hy => h y (List.mem_cons_of_mem _ hy)) (fun y hy => ho y (List.mem_cons_of_mem _ hy)) r
    have h4 := rdOp_be (h x (List.mem_cons_self ..)) (ho x (List.mem_cons_self ..)) (opsB l ++ r)
    simp [rdOps, opsB] at this h4 ⊢
    simp [h4, this]
theorem dec_enc (l : List TableOp) (h : encB l ≠ []) (ho : ∀ o ∈ l, okO o) : (decB (encB l)).2 = 0 ∧ (decB (encB l)).1.length = l.length := by
  unfold encB at h ⊢
  by_cases q : l.length ≤ 64 ∧ ∀ o ∈ l, opE o = true
  · rw [if_pos q]
    have := rdOps_be l q.2 ho []
    simp at this
    have c : cntS (⟨opsB l, 0⟩, (l.length : Int)) = ⟨opsB l, 0⟩ := by
      simp only [cntS]
      rw [if_neg (by omega)]
    simp [decB, rd1_be, c, this, endE]
  · rw [if_neg q] at h; exact absurd rfl h
theorem encB_nil {l : List TableOp} : encB l = [] → True := fun _ => trivial

-- writing what was read
def okB (l : List Int) : Prop := ∀ x ∈ l, 0 ≤ x ∧ x ≤ 255
theorem rd_e {n : Nat} {s : Stt} (h : (rdN n s).1.e = 0) : s.e = 0 := by
  unfold rdN at h
  split at h
  · assumption
  · exact h
theorem rd_in {n : Nat} {s : Stt} (h : (rdN n s).1.e = 0) : n ≤ s.b.length ∧ rdN n s = (⟨s.b.drop n, 0⟩, num n s.b) := by
  have he := rd_e h
  unfold rdN at h ⊢
  rw [if_pos he] at h ⊢
  by_cases q : s.b.length < n
  · rw [if_pos q] at h; simp at h
  · rw [if_neg q]; exact ⟨by omega, rfl⟩
theorem okB_drop {l : List Int} (h : okB l) (n : Nat) : okB (l.drop n) := fun x hx => h x (List.mem_of_mem_drop hx)
theorem rdN_okB {n : Nat} {s : Stt} (h : okB s.b) : okB (rdN n s).1.b := by
  unfold rdN
  split
  · split
    · exact h
    · exact okB_drop h n
  · exact h
theorem rd1_in {s : Stt} (hb : okB s.b) (h : (rdN 1 s).1.e = 0) : s.b = (rdN 1 s).2 :: (rdN 1 s).1.b ∧ 0 ≤ (rdN 1 s).2 ∧ (rdN 1 s).2 ≤ 255 := by
  obtain ⟨h1, h2⟩ := rd_in h
  rw [h2]
  match hs : s.b, h1 with
  | a :: l, _ => rw [hs] at hb; simp [num]; exact hb a (by simp)
theorem rd2_in {s : Stt} (hb : okB s.b) (h : (rdN 2 s).1.e = 0) : s.b = be2 (rdN 2 s).2 ++ (rdN 2 s).1.b ∧ shortI (rdN 2 s).2 = true := by
  obtain ⟨h1, h2⟩ := rd_in h
  rw [h2]
  match hs : s.b, h1 with
  | a :: b :: l, _ =>
    rw [hs] at hb
    have ha := hb a (by simp)
    have hb := hb b (by simp)
    simp [num, be2, shortI]; omega
theorem rd4_in {s : Stt} (hb : okB s.b) (h : (rdN 4 s).1.e = 0) : s.b = be4 (rdN 4 s).2 ++ (rdN 4 s).1.b ∧ 0 ≤ (rdN 4 s).2 ∧ (rdN 4 s).2 ≤ 4294967295 := by
  obtain ⟨h1, h2⟩ := rd_in h
  rw [h2]
  match hs : s.b, h1 with
  | a :: b :: c :: d :: l, _ =>
    rw [hs] at hb
    have ha := hb a (by simp)
    have hb' := hb b (by simp)
    have hc := hb c (by simp)
    have hd := hb d (by simp)
    simp [num, be4]; omega
theorem rdI_in {s : Stt} (hb : okB s.b) (h : (rdI s).1.e = 0) : s.b = be4 (rdI s).2 ++ (rdI s).1.b ∧ idI (rdI s).2 = true := by
  unfold rdI at h ⊢
  by_cases q : (rdN 4 s).2 > 2147483647
  · simp [q] at h
  · simp only [if_neg q] at h ⊢
    obtain ⟨a, b, c⟩ := rd4_in hb h
    exact ⟨a, by simp [idI]; omega⟩
theorem rdArgs_in : ∀ (n : Nat) {s : Stt}, okB s.b → (rdArgs n s).1.e = 0 → s.e = 0 ∧ s.b = argsB (rdArgs n s).2 ++ (rdArgs n s).1.b ∧ (rdArgs n s).2.length = n ∧ okB (rdArgs n s).1.b
  | 0, s, hb, h => by simp [rdArgs, argsB] at h ⊢; exact ⟨h, hb⟩
  | n + 1, s, hb, h => by
    unfold rdArgs at h ⊢
    by_cases q : s.e = 0
    · simp only [if_pos q] at h ⊢
      obtain ⟨i1, i2, i3, i4⟩ := rdArgs_in n (rdN_okB hb) h
      obtain ⟨a, _⟩ := rd4_in hb i1
      exact ⟨q, by rw [a, i2]; simp [argsB], by simp [i3], i4⟩
    · simp only [if_neg q] at h; exact absurd h q
theorem rdKey_in {s : Stt} (hb : okB s.b) (h : (rdKey s).1.e = 0) : s.b = keyB (rdKey s).2 ++ (rdKey s).1.b := by
  unfold rdKey at h ⊢
  simp only at h ⊢
  obtain ⟨a, _⟩ := rd4_in (rdN_okB hb) h
  obtain ⟨b, _⟩ := rd4_in hb (rd_e h)
  rw [b, a]; simp [keyB]
theorem rdKey_okB {s : Stt} (hb : okB s.b) : okB (rdKey s).1.b := rdN_okB (rdN_okB hb)
theorem rdKeys_in : ∀ (n : Nat) {s : Stt}, okB s.b → (rdKeys n s).1.e = 0 → s.e = 0 ∧ s.b = keysB (rdKeys n s).2 ++ (rdKeys n s).1.b ∧ (rdKeys n s).2.length = n ∧ okB (rdKeys n s).1.b
  | 0, s, hb, h => by simp [rdKeys, keysB] at h ⊢; exact ⟨h, hb⟩
  | n + 1, s, hb, h => by
    unfold rdKeys at h ⊢
    by_cases q : s.e = 0
    · simp only [if_pos q] at h ⊢
      obtain ⟨i1, i2, i3, i4⟩ := rdKeys_in n (rdKey_okB hb) h
      have a := rdKey_in hb i1
      exact ⟨q, by rw [a, i2]; simp [keysB], by simp [i3], i4⟩
    · simp only [if_neg q] at h; exact absurd h q
theorem rdCall_in {s : Stt} (hb : okB s.b) (h : (rdCall s).1.e = 0) : s.e = 0 ∧ s.b = callB (rdCall s).2 ++ (rdCall s).1.b ∧ callEJ (rdCall s).2 = true ∧ okB (rdCall s).1.b := by
  unfold rdCall at h ⊢
  simp only at h ⊢
  obtain ⟨i1, i2, i3, i4⟩ := rdArgs_in _ (rdN_okB (rdN_okB hb)) h
  obtain ⟨a, a1, a2⟩ := rd1_in (rdN_okB hb) i1
  obtain ⟨b, b1⟩ := rd2_in hb (rd_e i1)
  refine ⟨rd_e (rd_e i1), ?_, ?_, i4⟩
  · rw [b, a, i2]
    simp only [callB]
    rw [i3, Int.toNat_of_nonneg a1]
    simp
  · simp only [callEJ, b1, i3, Bool.true_and, decide_eq_true_eq]
    omega
theorem rdArgs_okB : ∀ (n : Nat) {s : Stt}, okB s.b → okB (rdArgs n s).1.b
  | 0, _, hb => hb
  | n + 1, s, hb => by
    unfold rdArgs
    by_cases q : s.e = 0
    · simp only [if_pos q]; exact rdArgs_okB n (rdN_okB hb)
    · simp only [if_neg q]; exact hb
theorem rdKeys_okB : ∀ (n : Nat) {s : Stt}, okB s.b → okB (rdKeys n s).1.b
  | 0, _, hb => hb
  | n + 1, s, hb => by
    unfold rdKeys
    by_cases q : s.e = 0
    · simp only [if_pos q]; exact rdKeys_okB n (rdKey_okB hb)
    · simp only [if_neg q]; exact hb
theorem rdCall_okB {s : Stt} (hb : okB s.b) : okB (rdCall s).1.b := rdArgs_okB _ (rdN_okB (rdN_okB hb))
theorem rdEntry_okB {s : Stt} (hb : okB s.b) : okB (rdEntry s).1.b := rdCall_okB (rdKeys_okB _ (rdN_okB (rdN_okB hb)))
theorem rdI_okB {s : Stt} (hb : okB s.b) : okB (rdI s).1.b := by
  unfold rdI
  simp only
  split
  · exact rdN_okB hb
  · exact rdN_okB hb
theorem rdI_e {s : Stt} (h : (rdI s).1.e = 0) : s.e = 0 := by
  unfold rdI at h
  simp only at h
  split at h
  · simp at h
  · exact rd_e h
theorem rdEntry_in {s : Stt} (hb : okB s.b) (h : (rdEntry s).1.e = 0) : s.e = 0 ∧ s.b = be2 (rdEntry s).2.priority ++ (((rdEntry s).2.keys.length : Int) :: (keysB (rdEntry s).2.keys ++ (callB (rdEntry s).2.call ++ (rdEntry s).1.b))) ∧
    shortI (rdEntry s).2.priority = true ∧ (rdEntry s).2.keys.length ≤ 255 ∧ callEJ (rdEntry s).2.call = true := by
  have b1 : okB (rdN 2 s).1.b := rdN_okB hb
  have b2 : okB (rdN 1 (rdN 2 s).1).1.b := rdN_okB b1
  unfold rdEntry at h ⊢
  simp only at h ⊢
  obtain ⟨c1, c2, c3, _⟩ := rdCall_in (rdKeys_okB _ b2) h
  obtain ⟨k1, k2, k3, _⟩ := rdKeys_in _ b2 c1
  obtain ⟨a, a1, a2⟩ := rd1_in b1 k1
  obtain ⟨d, d1⟩ := rd2_in hb (rd_e k1)
  refine ⟨rd_e (rd_e k1), ?_, d1, by omega, c3⟩
  rw [d, a, k2, c2, k3, Int.toNat_of_nonneg a1]
theorem rdTail_in {k t : Int} {s : Stt} (hb : okB s.b) (hk : 1 ≤ k ∧ k ≤ 4) (ht : shortI t = true) (h : (rdTail k t s).1.e = 0) :
    s.e = 0 ∧ k :: (be2 t ++ s.b) = opB (rdTail k t s).2 ++ (rdTail k t s).1.b ∧ opE (rdTail k t s).2 = true := by
  unfold rdTail at h ⊢
  by_cases q : s.e = 0
  rotate_left
  · rw [if_pos q] at h; exact absurd h q
  rw [if_neg (not_not_intro q)] at h ⊢
  by_cases k1 : k = 1
  · rw [if_pos k1] at h ⊢
    subst k1
    obtain ⟨_, e2, e3, e4, e5⟩ := rdEntry_in hb h
    refine ⟨q, ?_, ?_⟩
    · rw [e2]; simp [opB]
    · simp [opE, ht, e3, e4, e5]
  rw [if_neg k1] at h ⊢
  by_cases k2 : k = 2
  · rw [if_pos k2] at h ⊢
    subst k2
    by_cases r : (rdI s).1.e = 0
    · simp only [if_pos r] at h ⊢
      obtain ⟨c1, c2, c3, _⟩ := rdCall_in (rdI_okB hb) h
      obtain ⟨i1, i2⟩ := rdI_in hb c1
      refine ⟨q, ?_, ?_⟩
      · rw [i1, c2]; simp [opB]
      · simp [opE, ht, i2, c3]
    · simp only [if_neg r] at h; exact absurd h r
  rw [if_neg k2] at h ⊢
  by_cases k3 : k = 3
  · rw [if_pos k3] at h ⊢
    subst k3
    obtain ⟨i1, i2⟩ := rdI_in hb h
    refine ⟨q, ?_, ?_⟩
    · rw [i1]; simp [opB]
    · simp [opE, ht, i2]
  rw [if_neg k3] at h ⊢
  have k4 : k = 4 := by omega
  subst k4
  obtain ⟨c1, c2, c3, _⟩ := rdCall_in hb h
  refine ⟨q, ?_, ?_⟩
  · rw [c2]; simp [opB]
  · simp [opE, ht, c3]
theorem kindS_in {p : Stt × Int} (h : (kindS p).e = 0) : kindS p = p.1 ∧ 1 ≤ p.2 ∧ p.2 ≤ 4 := by
  unfold kindS at h ⊢
  split at h
  · simp at h
  · rename_i q; rw [if_neg q]; exact ⟨rfl, by simp [h] at q; omega⟩
theorem rdTail_okB {k t : Int} {s : Stt} (hb : okB s.b) : okB (rdTail k t s).1.b := by
  unfold rdTail
  split
  · exact hb
  split
  · exact rdEntry_okB hb
  split
  · simp only
    split
    · exact rdCall_okB (rdI_okB hb)
    · exact rdI_okB hb
  split
  · exact rdI_okB hb
  · exact rdCall_okB hb
theorem kindS_okB {p : Stt × Int} (h : okB p.1.b) : okB (kindS p).b := by
  unfold kindS; split <;> exact h
theorem rdOp_okB {s : Stt} (hb : okB s.b) : okB (rdOp s).1.b := rdTail_okB (rdN_okB (kindS_okB (rdN_okB hb)))
theorem rdOp_in {s : Stt} (hb : okB s.b) (h : (rdOp s).1.e = 0) : s.e = 0 ∧ s.b = opB (rdOp s).2 ++ (rdOp s).1.b ∧ opE (rdOp s).2 = true := by
  have b0 : okB (rdN 1 s).1.b := rdN_okB hb
  have b1 : okB (kindS (rdN 1 s)).b := kindS_okB b0
  have b2 : okB (rdN 2 (kindS (rdN 1 s))).1.b := rdN_okB b1
  unfold rdOp at h ⊢
  simp only at h ⊢
  have h2 : (rdN 2 (kindS (rdN 1 s))).1.e = 0 := by
    unfold rdTail at h
    by_cases q : (rdN 2 (kindS (rdN 1 s))).1.e = 0
    · exact q
    · rw [if_pos q] at h; exact h
  obtain ⟨t1, t2⟩ := rd2_in b1 h2
  obtain ⟨k1, k2⟩ := kindS_in (rd_e h2)
  obtain ⟨_, r2, r3⟩ := rdTail_in b2 k2 t2 h
  have h1 : (rdN 1 s).1.e = 0 := by rw [← k1]; exact rd_e h2
  obtain ⟨a, _⟩ := rd1_in hb h1
  refine ⟨rd_e h1, ?_, r3⟩
  rw [← r2, ← t1, k1]; exact a
theorem rdOps_in : ∀ (n : Nat) {s : Stt}, okB s.b → (rdOps n s).1.e = 0 → s.e = 0 ∧ s.b = opsB (rdOps n s).2 ++ (rdOps n s).1.b ∧ (rdOps n s).2.length = n ∧ ∀ o ∈ (rdOps n s).2, opE o = true
  | 0, s, hb, h => by simp [rdOps, opsB] at h ⊢; exact h
  | n + 1, s, hb, h => by
    unfold rdOps at h ⊢
    by_cases q : s.e = 0
    · simp only [if_pos q] at h ⊢
      obtain ⟨i1, i2, i3, i4⟩ := rdOps_in n (rdOp_okB hb) h
      obtain ⟨_, a, a1⟩ := rdOp_in hb i1
      refine ⟨q, by rw [a, i2]; simp [opsB], by simp [i3], ?_⟩
      intro o ho
      rcases List.mem_cons.1 ho with rfl | ho
      · exact a1
      · exact i4 o ho
    · simp only [if_neg q] at h; exact absurd h q
theorem enc_dec {b : List Int} (hb : okB b) (h : (decB b).2 = 0) : encB (decB b).1 = b := by
  unfold decB at h ⊢
  simp only at h ⊢
  rw [if_pos h]
  unfold endE at h
  split at h
  · simp at h
  rename_i q
  have hr : (rdOps (rdN 1 ⟨b, 0⟩).2.toNat (cntS (rdN 1 ⟨b, 0⟩))).1.b = [] := by
    by_cases w : (rdOps (rdN 1 ⟨b, 0⟩).2.toNat (cntS (rdN 1 ⟨b, 0⟩))).1.b = []
    · exact w
    · exact absurd ⟨h, w⟩ q
  have hb1 : okB (rdN 1 ⟨b, 0⟩).1.b := rdN_okB hb
  have hb2 : okB (cntS (rdN 1 ⟨b, 0⟩)).b := by unfold cntS; split <;> exact hb1
  obtain ⟨i1, i2, i3, i4⟩ := rdOps_in _ hb2 h
  rw [hr] at i2
  have hc : (rdN 1 ⟨b, 0⟩).2 ≤ 64 ∧ cntS (rdN 1 ⟨b, 0⟩) = (rdN 1 ⟨b, 0⟩).1 := by
    unfold cntS at i1 ⊢
    split at i1
    · simp at i1
    · rename_i w; rw [if_neg w]; exact ⟨by omega, rfl⟩
  rw [hc.2] at i1 i2 i3 i4
  obtain ⟨a, a1, a2⟩ := rd1_in (s := ⟨b, 0⟩) hb i1
  rw [hc.2]
  unfold encB
  rw [if_pos ⟨by rw [i3]; omega, i4⟩, i3, Int.toNat_of_nonneg a1]
  simp at i2
  rw [← i2]
  exact a.symm
end Go.Av
