/-
 Heaps of which only some objects are known: what is read of them after changes.
-/
import Derived.Test.YtakklbipljodeaaGreatFunsAK
set_option linter.unusedVariables false
set_option linter.unusedSimpArgs false
set_option linter.constructorNameAsVariable false
namespace Go.Av
theorem qal (t:Nat) (a b:List (Nat×AO)):look t (a++b)=(look t a).or (look t b):=qd8 t a b
theorem qae (j t:Nat) (y:AO):∀O:List (Nat×AO),look j (setl t y O)=if j=t then (look t O).map (fun _=>y) else look j O
 | []=>by simp
 | (u,w)::r=>by
  have ih:=qae j t y r;by_cases hu:u=t
  ·subst hu;by_cases hj:j=u
   ·subst hj;simp
   ·have:¬u=j:=fun h=>hj h.symm
    simp [hj,this]
  ·by_cases hj:j=t
   ·subst hj;simp [hu];simpa using ih
   ·by_cases hv:u=j
    ·subst hv;simp [hu]
    ·simp [hu,hv,hj];simpa [hj] using ih
theorem qda {j t:Nat} (h:j≠t):∀O:List (Nat×AO),look j (qbf t O)=look j O
 | []=>by simp
 | (u,w)::r=>by
  have ih:=qda h r;by_cases hu:u=t
  ·subst hu;have:¬u=j:=fun e=>h e.symm
   simp [this]
  ·by_cases hv:u=j
   ·subst hv;simp [hu]
   ·simp [hu,hv,ih]
theorem qeg {j t:Nat}:∀O:List (Nat×AO),look j O=none→look j (qbf t O)=none
 | [],_=>by simp
 | (u,w)::r,h=>by
  by_cases hv:u=j
  ·subst hv;simp at h
  ·simp [hv] at h;have ih:=qeg (t:=t) r h;by_cases hu:u=t
   ·subst hu;simpa using h
   ·simp [hu,hv,ih]
theorem qbl {j:Nat}:∀{O:List (Nat×AO)},look j O≠some .res→look j (qa6 O)=look j O
 | [],_=>by simp
 | (u,w)::r,h=>by
  by_cases hv:u=j
  ·subst hv;simp at h;cases w<;>simp at h ⊢
  ·simp [hv] at h;have ih:=qbl h;cases w<;>simp [hv,ih]
section
variable (z t i o n:Nat) (es:List (List AV))
@[simp] theorem qald:lenOf (.slice z es)=some es.length:=rfl
@[simp] theorem qalb:lenOf (.fslice z es)=some es.length:=rfl
@[simp] theorem qala:lenOf (.app z es t)=some es.length:=rfl
@[simp] theorem qalc:lenOf (.row t z o n)=some n:=rfl
@[simp] theorem qajs (cs:List AV):AV.cells (.agg cs)=some cs:=rfl
@[simp] theorem qajt (k:IntKind) (x:Int):AV.cells (.int k x)=some [.int k x]:=rfl
@[simp] theorem qais (b:Bool):AV.cells (.bool b)=some [.bool b]:=rfl
@[simp] theorem qajw (b:List UInt8):AV.cells (.str b)=some [.str b]:=rfl
@[simp] theorem qaft:AV.cells .nilptr=some [.nilptr]:=rfl
@[simp] theorem qafs:AV.cells .nilmap=some [.nilmap]:=rfl
@[simp] theorem qakw:AV.cells (.slice z es)=some [.slice z es]:=rfl
@[simp] theorem qaku:AV.cells (.fslice z es)=some [.fslice z es]:=rfl
@[simp] theorem qakt:AV.cells (.app z es t)=some [.app z es t]:=rfl
@[simp] theorem qakv:AV.cells (.row t z o n)=some [.row t z o n]:=rfl
@[simp] theorem qajv:AV.cells (.ptr t z o n)=some [.ptr t z o n]:=rfl
@[simp] theorem qaiu:AV.cells (.iptr z es o n)=some [.iptr z es o n]:=rfl
@[simp] theorem qaju:AV.cells (.map t)=some [.map t]:=rfl
@[simp] theorem qait (f:Fn) (a b:List AV):AV.cells (.func f a b)=some [.func f a b]:=rfl
end
theorem qb6 {a b:List (Nat×AO)} {n:Nat}:Tail (a++b) n↔Tail a n∧Tail b n:=by
 constructor
 ·intro h;refine ⟨fun j hj=>?_,fun j hj=>?_⟩
  ·have:=h j hj;rw [qal] at this;cases hl:look j a with
   | none=>rfl
   | some x=>rw [hl] at this;cases this
  ·have:=h j hj;rw [qal] at this;cases hl:look j a with
   | none=>rw [hl] at this;simpa using this
   | some x=>rw [hl] at this;cases this
 ·rintro ⟨h1,h2⟩ j hj;rw [qal,h1 j hj,h2 j hj];rfl
theorem qbo {u n:Nat} {x:AO} {r:List (Nat×AO)}:Tail ((u,x)::r) n↔u<n∧Tail r n:=by
 constructor
 ·intro h;have hu:u<n:=by
   refine Decidable.byContradiction fun hc=>?_
   have:=h u (by omega);simp at this
  refine ⟨hu,fun j hj=>?_⟩;have:=h j hj;have hne:¬u=j:=by omega
  simpa [hne] using this
 ·rintro ⟨h1,h2⟩ j hj;have hne:¬u=j:=by omega
  simp [hne,h2 j hj]
theorem qf5 {n:Nat}:Tail [] n↔True:=⟨fun _=>trivial,fun _=>Tail.nil n⟩
theorem qaq {t n:Nat} {y:AO} {O:List (Nat×AO)} (h:Tail O n):Tail (setl t y O) n:=by
 intro j hj;rw [qae];split
 ·rename_i e;rw [← e,h j hj];rfl
 ·exact h j hj
theorem qfb {t n:Nat} {O:List (Nat×AO)} (h:Tail O n):Tail (qbf t O) n:=fun j hj=>qeg _ (h j hj)
theorem qfc {n:Nat} {O:List (Nat×AO)} (h:Tail O n):Tail (qa6 O) n:=by
 intro j hj;rw [qbl (by rw [h j hj];simp),h j hj]
theorem Tail.lt {O:List (Nat×AO)} {n j:Nat} {x:AO} (h:Tail O n) (hl:look j O=some x):j<n:=by
 refine Decidable.byContradiction fun hc=>?_
 rw [h j (by omega)] at hl;cases hl
def Kp (X:Nat→Prop) (N:Nat) (O O':List (Nat×AO)):Prop:=∀j,j<N→¬X j→look j O'=look j O
theorem Kp.refl {X:Nat→Prop} {N:Nat} {O:List (Nat×AO)}:Kp X N O O:=fun _ _ _=>rfl
theorem Kp.trans {X:Nat→Prop} {N N':Nat} {O O' O'':List (Nat×AO)} (h:Kp X N O O') (h2:Kp X N' O' O'') (hn:N≤N'):Kp X N O O'':=
 fun j hj hx=>(h2 j (by omega) hx).trans (h j hj hx)
theorem Kp.mono {X Y:Nat→Prop} {N:Nat} {O O':List (Nat×AO)} (h:Kp X N O O') (hx:∀j,j<N→X j→Y j):Kp Y N O O':=
 fun j hj hy=>h j hj fun hc=>hy (hx j hj hc)
section
variable {Φ:FuncId→Option AFun} {β:Type} {fin:Option (Ex×St)→Option β}
theorem loopQ {σ:Type} (m:σ→Nat) (Inv:σ→Env→AH→Prop) (R:σ→Option β→Prop) {b:ACode} {K:List Go.Av.Fr}
  (step:∀x e h L,(∀j s,go Φ fin L (.exit j) s=go Φ fin K (.exit j) s)→Inv x e h→(∀y e' h',m y<m x→Inv y e' h'→R y (go Φ fin L .normal ⟨e',h'⟩))→R x (go Φ fin (.c b::L) .normal ⟨e,h⟩)):
  ∀x e h,Inv x e h→R x (go Φ fin (.c (.loop b)::K) .normal ⟨e,h⟩):=by
 have key:∀n x e h,m x≤n→Inv x e h→R x (go Φ fin (.c (.loop b)::K) .normal ⟨e,h⟩):=by
  intro n
  induction n with
  | zero=>
   intro x e h hn hi;rw [qay];exact step x e h _ (fun j s=>by simp) hi fun y e' h' hlt=>by omega
  | succ n ih=>
   intro x e h hn hi;rw [qay];exact step x e h _ (fun j s=>by simp) hi fun y e' h' hlt hy=>ih y e' h' (by omega) hy
 intro x e h hi;exact key (m x) x e h (Nat.le_refl _) hi
theorem qhg (N:Nat) (Inv:Nat→Env→AH→Prop) (Q:Option β→Prop) {b:ACode} {K:List Go.Av.Fr}
  (step:∀i e h L,i<N→(∀j s,go Φ fin L (.exit j) s=go Φ fin K (.exit j) s)→Inv i e h→(∀e' h',Inv (i+1) e' h'→Q (go Φ fin L .normal ⟨e',h'⟩))→Q (go Φ fin (.c b::L) .normal ⟨e,h⟩))
  (last:∀e h L,(∀j s,go Φ fin L (.exit j) s=go Φ fin K (.exit j) s)→Inv N e h→Q (go Φ fin (.c b::L) .normal ⟨e,h⟩)):
  ∀i e h,i≤N→Inv i e h→Q (go Φ fin (.c (.loop b)::K) .normal ⟨e,h⟩):=by
 intro i e h hi hinv;refine loopQ (σ:={ i:Nat // i≤N }) (fun x=>N - x.1) (fun x=>Inv x.1) (fun _=>Q) ?_ ⟨i,hi⟩ e h hinv;intro ⟨i,hi⟩ e h L hL hinv ih;rcases Nat.lt_or_eq_of_le hi with hlt | heq
 ·exact step i e h L hlt hL hinv fun e' h' hi'=>ih ⟨i+1,hlt⟩ e' h' (by simp;omega) hi'
 ·subst heq;exact last e h L hL hinv
end
def vid:AV→Option Nat
 | .row id _ _ _=>some id
 | _=>none
inductive Mu (O:List (Nat×AO)) (z:Nat):AV→List (List AV)→Prop
 | nilF:Mu O z (.fslice z []) []
 | nilA (t:Nat):Mu O z (.app z [] t) []
 | row (id:Nat) (es es0:List (List AV)) (n:Nat) (hn:n=es.length) (hl:look id O=some (.row z es0)) (hle:es.length≤es0.length) (ht:es0.take es.length=es):Mu O z (.row id z 0 n) es
theorem Mu.len {O:List (Nat×AO)} {z:Nat} {v:AV} {es:List (List AV)} (h:Mu O z v es):lenOf v=some es.length:=by
 cases h with
 | nilF=>rfl
 | nilA=>rfl
 | row id _ es0 n hn=>subst hn;rfl
theorem Mu.fr {O O':List (Nat×AO)} {z:Nat} {v:AV} {es:List (List AV)} (h:Mu O z v es) (hf:∀j,vid v=some j→look j O'=look j O):Mu O' z v es:=by
 cases h with
 | nilF=>exact .nilF
 | nilA=>exact .nilA _
 | row id _ es0 n hn hl hle ht=>exact .row id es es0 n hn (by rw [hf id rfl,hl]) hle ht
theorem Mu.nonempty {O:List (Nat×AO)} {z:Nat} {v:AV} {es:List (List AV)} (h:Mu O z v es) (hp:0<es.length):∃id es0,v= .row id z 0 es.length∧look id O=some (.row z es0)∧es.length≤es0.length∧es0.take es.length=es:=by
 cases h with
 | nilF=>simp at hp
 | nilA=>simp at hp
 | row id _ es0 n hn hl hle ht=>subst hn;exact ⟨id,es0,rfl,hl,hle,ht⟩
theorem Mu.snp {O:List (Nat×AO)} {z N n:Nat} {v:AV} {es:List (List AV)} (h:Mu O z v es):snap (n+1) ⟨O,N⟩ v=(mapO (mapO (snap n ⟨O,N⟩)) es).map (.slice z):=by
 cases h with
 | nilF=>simp
 | nilA=>simp
 | row id _ es0 k hn hl hle ht=>
  subst hn;simp [hl,hle,ht]
inductive Re (O:List (Nat×AO)) (z:Nat):AV→List (List AV)→Prop
 | sl (es:List (List AV)):Re O z (.slice z es) es
 | fs (es:List (List AV)):Re O z (.fslice z es) es
 | ap (es:List (List AV)) (t:Nat):Re O z (.app z es t) es
 | row (id:Nat) (es es0:List (List AV)) (n:Nat) (hn:n=es.length) (hl:look id O=some (.row z es0)) (hle:es.length≤es0.length) (ht:es0.take es.length=es):Re O z (.row id z 0 n) es
theorem Mu.re {O:List (Nat×AO)} {z:Nat} {v:AV} {es:List (List AV)} (h:Mu O z v es):Re O z v es:=by
 cases h with
 | nilF=>exact .fs []
 | nilA=>exact .ap [] _
 | row id _ es0 n hn hl hle ht=>exact .row id es es0 n hn hl hle ht
theorem Re.fr {O O':List (Nat×AO)} {z:Nat} {v:AV} {es:List (List AV)} (h:Re O z v es) (hf:∀j,vid v=some j→look j O'=look j O):Re O' z v es:=by
 cases h with
 | sl=>exact .sl es
 | fs=>exact .fs es
 | ap=>exact .ap es _
 | row id _ es0 n hn hl hle ht=>exact .row id es es0 n hn (by rw [hf id rfl,hl]) hle ht
theorem Re.len {O:List (Nat×AO)} {z:Nat} {v:AV} {es:List (List AV)} (h:Re O z v es):lenOf v=some es.length:=by
 cases h with
 | sl=>rfl
 | fs=>rfl
 | ap=>rfl
 | row id _ es0 n hn=>subst hn;rfl
theorem Re.snp {O:List (Nat×AO)} {z N n:Nat} {v:AV} {es:List (List AV)} (h:Re O z v es) (he:mapO (mapO (snap n ⟨O,N⟩)) es=some es):snap (n+1) ⟨O,N⟩ v=some (.slice z es):=by
 cases h with
 | sl=>simp
 | fs=>simp
 | ap=>simp
 | row id _ es0 k hn hl hle ht=>
  subst hn;simp [hl,hle,ht,he]
theorem Re.cells {O:List (Nat×AO)} {z:Nat} {v:AV} {es:List (List AV)} (h:Re O z v es):v.cells=some [v]:=by
 cases h<;>rfl
theorem Mu.cells {O:List (Nat×AO)} {z:Nat} {v:AV} {es:List (List AV)} (h:Mu O z v es):v.cells=some [v]:=h.re.cells
set_option maxRecDepth 4000
def letC (c:Int):Bool:=(decide (97≤c)&&decide (c≤122)) || (decide (65≤c)&&decide (c≤90))
def digI (c:Int):Bool:=decide (48≤c)&&decide (c≤57)
def idC (c:Int):Bool:=letC c || (digI c || decide (c=95))
theorem qml (c:Int):qab Φ f_313 [.int .u8 c]=some (.val (.bool (letC c))):=by
 rw [qaa (fn:=c_313) rfl rfl];by_cases h1:97≤c<;>by_cases h2:c≤122<;>by_cases h3:65≤c<;>simp [c_313,letC,h1,h2,h3]
theorem qvt (c:Int):qab Φ f_316 [.int .u8 c]=some (.val (.bool (digI c))):=by
 rw [qaa (fn:=c_316) rfl rfl];by_cases h1:48≤c<;>simp [c_316,digI,h1]
theorem qagh (c:Int):qab Φ f_315 [.int .u8 c]=some (.val (.bool (idC c))):=by
 rw [qaa (fn:=c_315) rfl rfl];have h1:=qml c;have h2:=qvt c;cases q1:letC c<;>cases q2:digI c<;>rw [q1] at h1<;>rw [q2] at h2<;>simp [c_315,idC,h1,h2,q1,q2]
theorem qxj (s:List UInt8) (hs:s.length<2^40):qab Φ f_314 [.str s,.func (.func f_315) [] []]=some (.val (.int .i64 (s.takeWhile fun b=>idC b.toNat).length)):=by
 rw [qaa (fn:=c_314) rfl rfl];simp [c_314];refine (qao s.length (fun i e=>look 0 e=some (.str s)∧look 1 e=some (.func (.func f_315) [] [])∧look 5 e=some (.int .i64 i))
  (fun i=>some (Rt.val (.int .i64 (i+((s.drop i).takeWhile fun b=>idC b.toNat).length:Nat)))) ?_ ?_ 0 _ (Nat.zero_le _) ?_).trans (by simp)
 ·rintro i e L hi hL ⟨h0,h1,h5⟩ ih;have hw:IntKind.wrap .i64 ((i:Int)+1)=((i+1:Nat):Int):=qac (by omega) (by omega);have hc:=qagh (s[i].toNat:Int);rw [List.drop_eq_getElem_cons hi];cases q:idC (s[i].toNat:Int) with
  | true=>
   rw [q] at hc;rw [show List.takeWhile (fun b:UInt8=>idC b.toNat) (s[i]::s.drop (i+1))=s[i]::List.takeWhile (fun b:UInt8=>idC b.toNat) (s.drop (i+1)) from List.takeWhile_cons_of_pos q];simp [c_314_l0,h0,h1,h5,hi,hc,hw];refine (ih _ ⟨by simp [h0],by simp [h1],by simp⟩).trans ?_;simp;omega
  | false=>
   rw [q] at hc;rw [show List.takeWhile (fun b:UInt8=>idC b.toNat) (s[i]::s.drop (i+1))=[] from List.takeWhile_cons_of_neg (by simp [q])];simp [c_314_l0,c_314_k1,h0,h1,h5,hi,hL,hc]
 ·rintro e L hL ⟨h0,h1,h5⟩;simp [c_314_l0,c_314_k1,h0,h5,hL]
 ·simp
def idS (s:List UInt8):Bool:=match s with
 | []=>false
 | c::_=>decide (s.length≤16)&&(letC c.toNat&&s.all fun b=>idC b.toNat)
theorem qkx (p:UInt8→Bool):∀s:List UInt8,((s.takeWhile p).length=s.length)↔s.all p=true
 | []=>by simp
 | c::r=>by
  have:=qkx p r;cases q:p c<;>simp [q];simpa using this
theorem quj {s:List UInt8} (h:0<s.length):idS s=(decide (s.length≤16)&&(letC s[0].toNat&&s.all fun b=>idC b.toNat)):=by
 cases s with
 | nil=>simp at h
 | cons c r=>rfl
theorem qdv (s:List UInt8) (hs:s.length<2^40):qab Φ f_257 [.str s]=some (.val (.bool (idS s))):=by
 rw [qaa (fn:=c_257) rfl rfl];by_cases h0:s.length=0
 ·have:s=[]:=List.eq_nil_of_length_eq_zero h0;subst this;simp [c_257,idS]
 have hp:0<s.length:=by omega
 rw [quj hp];by_cases h16:16<s.length
 ·simp [c_257,h0,h16,Nat.not_le.2 h16]
 have hl:=qml (s[0].toNat:Int);cases q:letC (s[0].toNat:Int) with
 | false=>
  rw [q] at hl;simp [c_257,h0,hp,h16,hl]
 | true=>
  rw [q] at hl;have he:=qxj s hs;have ht:=qkx (fun b=>idC b.toNat) s;have e:(decide ((s.takeWhile fun b=>idC b.toNat).length=s.length))=(s.all fun b=>idC b.toNat):=by
   cases h:(s.all fun b=>idC b.toNat) with
   | true=>exact decide_eq_true (ht.2 h)
   | false=>exact decide_eq_false (fun h2=>by have:=ht.1 h2;rw [h] at this;cases this)
  simp [c_257,h0,hp,h16,Nat.le_of_not_lt h16,hl,he,e]
theorem Fld.e (x:Fld):Fld.c x=[.str x.name,.int .i64 x.width]:=by simp [Fld.c]
theorem ExprNode.e (x:ExprNode):ExprNode.c x=[.int .i64 x.op,.int .i64 x.n,.int .i64 x.w]:=by simp [ExprNode.c]
theorem TableKey.e (x:TableKey):TableKey.c x=[.int .i64 x.field.header,.int .i64 x.field.field,.int .i64 x.kind]:=by simp [TableKey.c]
theorem ActionCall.e (x:ActionCall):ActionCall.c x=[.int .i64 x.action,.slice 1 (x.args.map c32)]:=by simp [ActionCall.c]
theorem SelectCase.e (x:SelectCase):SelectCase.c x=[.int .u32 x.value,.int .u32 x.mask,.int .i64 x.next]:=by simp [SelectCase.c]
theorem Action.e (x:Action):Action.c x=[.str x.name,.slice 2 (x.params.map Fld.c),.slice 7 (x.body.map Statement.c)]:=by simp [Action.c]
theorem Header.e (x:Header):Header.c x=[.str x.name,.slice 2 (x.fields.map Fld.c)]:=by simp [Header.c]
theorem Register.e (x:Register):Register.c x=[.str x.name,.int .i64 x.width,.int .i64 x.size]:=by simp [Register.c]
theorem Statement.e (x:Statement):Statement.c x=[.int .i64 x.kind,.int .i64 x.dst.header,.int .i64 x.dst.field,.int .i64 x.register,.int .i64 x.header,.slice 3 (x.index.map ExprNode.c),.slice 3 (x.value.map ExprNode.c)]:=by simp [Statement.c]
theorem Tbl.e (x:Tbl):Tbl.c x=[.str x.name,.slice 3 (x.keys.map TableKey.c),.slice 1 (x.actions.map cI),.int .i64 x.dflt.action,.slice 1 (x.dflt.args.map c32),.int .i64 x.size]:=by simp [Tbl.c]
theorem ParserState.e (x:ParserState):ParserState.c x=[.str x.name,.slice 1 (x.extract.map cI),.bool x.select,.int .i64 x.on.header,.int .i64 x.on.field,.slice 3 (x.cases.map SelectCase.c),.int .i64 x.dflt]:=by simp [ParserState.c]
theorem ControlNode.e (k t:Int) (c:List ExprNode) (a b:List ControlNode):ControlNode.c (.mk k t c a b)=[.int .i64 k,.int .i64 t,.slice 3 (c.map ExprNode.c),.slice 5 (a.map ControlNode.c),.slice 5 (b.map ControlNode.c)]:=by simp [ControlNode.c,ControlNode.cs_eq]
theorem Prg.e (x:Prg):Prg.c x=[.str x.name,.slice 2 (x.headers.map Header.c),.slice 2 (x.metadata.map Fld.c),.slice 3 (x.registers.map Register.c),.slice 3 (x.actions.map Action.c),.slice 6 (x.tables.map Tbl.c),.slice 7 (x.states.map ParserState.c),.slice 5 (x.control.map ControlNode.c),.slice 1 (x.deparser.map cI)]:=by simp [Prg.c]
def feF {α:Type} (f:Nat→Option α):Nat→Nat→Option α
 | 0,_=>none
 | n+1,i=>match f i with
  | some x=>some x
  | none=>feF f n (i+1)
def fe {α:Type} (f:Nat→Option α) (N i:Nat):Option α:=feF f (N - i) i
theorem qai {α:Type} {f:Nat→Option α} {N i:Nat} {x:α} (hi:i<N) (h:f i=some x):fe f N i=some x:=by
 unfold fe;rw [show N - i=(N - (i+1))+1 by omega];simp [feF,h]
theorem qap {α:Type} {f:Nat→Option α} {N i:Nat} (hi:i<N) (h:f i=none):fe f N i=fe f N (i+1):=by
 unfold fe;rw [show N - i=(N - (i+1))+1 by omega];simp [feF,h]
theorem qa0 {α:Type} {f:Nat→Option α} {N:Nat}:fe f N N=none:=by simp [fe,feF]
def er (e:Int):Option Int:=if e=0 then none else some e
@[simp] theorem er_zero:er 0=none:=by simp [er]
def errO:Option Int→Int
 | none=>0
 | some e=>e
@[simp] theorem qajz:errO none=0:=by simp [errO]
@[simp] theorem qaj0 (e:Int):errO (some e)=e:=by simp [errO]
def at? {α:Type} (l:List α) (i:Int):Option α:=if i<0 then none else l[i.toNat]?
@[simp] theorem qkz {α:Type} (l:List α) (i:Nat):at? l (i:Int)=l[i]? :=by
 unfold at?;rw [if_neg (by omega)];simp
theorem qbq {α:Type} {l:List α} {i:Int} (h:i<0):at? l i=none:=by simp [at?,h]
theorem qbp {α:Type} {l:List α} {i:Int} (h:(l.length:Int)≤i):at? l i=none:=by
 unfold at?;split
 ·rfl
 ·simp;omega
def wBad (w:Int):Bool:=decide (w<1) || decide (32<w)
def dupN {α:Type} (nm:α→List UInt8) (l:List α) (i:Nat) (x:α):Bool:=(l.take i).any fun y=>decide (nm y=nm x)
def fldE (l:List Fld) (i:Nat) (f:Fld):Int:=if idS f.name=false then 6 else if wBad f.width then 10 else if dupN Fld.name l i f then 7 else 0
def qj3 (l:List Fld):Option Int:=fe (fun i=>(l[i]?).bind fun f=>er (fldE l i f)) l.length 0
def wSum (l:List Fld):Int:=(l.map (·.width)).sum
def hdrE (h:Header):Int:=if idS h.name=false then 6 else if h.fields.length=0 then 8 else if 12<h.fields.length then 12 else
 match qj3 h.fields with
 | some e=>e
 | none=>if (wSum h.fields) % 8=0 then 0 else 10
def regE (r:Register):Int:=if idS r.name=false then 6 else if wBad r.width then 10 else if r.size<1∨64<r.size then 9 else 0
def decl (p:Prg) (h f:Int):Option Int:=(if h= -1 then some p.metadata else (at? p.headers h).map (·.fields)).bind fun l=>(at? l f).map (·.width)
def wid (p:Prg) (h f:Int):Int:=match decl p h f with
 | some w=>if wBad w then 0 else w
 | none=>0
def ari (op:Int):Int:=if 1≤op∧op≤4 then 0 else if 5≤op∧op≤8 then 1 else if 9≤op∧op≤16 then 2 else if op=17 then 3 else -1
def wide (w:Int):Int×Int:=if wBad w then (0,10) else (w,0)
def prim (p:Prg) (ps:List Fld) (x:ExprNode):Int×Int:=
 if x.op=1 then (if wBad x.w then (0,10) else if x.n<0∨2^x.w.toNat - 1<x.n then (0,9) else (x.w,0))
 else if x.op=2 then (match decl p x.n x.w with | some w=>wide w | none=>(0,8))
 else if x.op=3 then (match at? ps x.n with | some f=>wide f.width | none=>(0,8))
 else if (at? p.headers x.n).isSome then (1,0) else (0,8)
def comb (x:ExprNode) (a b c:Int):Int×Int:=
 if x.op=6∨x.op=7 then (if x.n<0∨31<x.n then (0,9) else (a,0))
 else if x.op=8 then (if x.n<0 then (0,9) else if wBad x.w∨a - x.w<x.n then (0,10) else (x.w,0))
 else if x.op=14 then wide (a+b)
 else if x.op=17 then (if a≠1∨b≠c then (0,10) else (b,0))
 else if ari x.op=2∧a≠b then (0,10)
 else if x.op=15∨x.op=16 then (1,0) else (a,0)
def chk (p:Prg) (ps:List Fld) (l:List ExprNode):Nat→Nat→Except Int (Int×Nat)
 | 0,_=> .error 3
 | n+1,i=>match l[i]? with
  | none=> .error 3
  | some x=>
   if ari x.op<0 then .error 11
   else if ari x.op=0 then (if (prim p ps x).2=0 then .ok ((prim p ps x).1,i+1) else .error (prim p ps x).2)
   else match chk p ps l n (i+1) with
    | .error e=> .error e
    | .ok (a,i1)=>
     if ari x.op=1 then (if (comb x a 0 0).2=0 then .ok ((comb x a 0 0).1,i1) else .error (comb x a 0 0).2)
     else match chk p ps l n i1 with
      | .error e=> .error e
      | .ok (b,i2)=>
       if ari x.op=2 then (if (comb x a b 0).2=0 then .ok ((comb x a b 0).1,i2) else .error (comb x a b 0).2)
       else match chk p ps l n i2 with
        | .error e=> .error e
        | .ok (c,i3)=>if (comb x a b c).2=0 then .ok ((comb x a b c).1,i3) else .error (comb x a b c).2
def exE (p:Prg) (ps:List Fld) (l:List ExprNode):Int×Int:=
 if 24<l.length then (0,12) else match chk p ps l (l.length+1) 0 with
 | .error e=>(0,e)
 | .ok (w,i)=>if i<l.length then (0,4) else (w,0)
def valE (p:Prg) (ps:List Fld) (l:List ExprNode) (w:Int):Int:=if (exE p ps l).2=0 then (if (exE p ps l).1=w then 0 else 10) else (exE p ps l).2
def stmE (p:Prg) (ps:List Fld) (s:Statement):Int:=
 if s.kind=1 then (match decl p s.dst.header s.dst.field with
  | none=>8
  | some w=>valE p ps s.value w)
 else if s.kind=2∨s.kind=3 then (if (at? p.headers s.header).isSome then 0 else 8)
 else if s.kind=4 then (match at? p.registers s.register,decl p s.dst.header s.dst.field with
  | some r,some w=>if (exE p ps s.index).2=0 then (if w=r.width then 0 else 10) else (exE p ps s.index).2
  | _,_=>8)
 else if s.kind=5 then (match at? p.registers s.register with
  | some r=>if (exE p ps s.index).2=0 then valE p ps s.value r.width else (exE p ps s.index).2
  | none=>8)
 else 11
def actD (a:Action):Int:=if idS a.name=false then 6 else if 4<a.params.length∨12<a.body.length then 12 else errO (qj3 a.params)
def bodyE (p:Prg) (a:Action):Option (Int×Int):=fe (fun k=>(a.body[k]?).bind fun s=>if stmE p a.params s=0 then none else some ((k:Int),stmE p a.params s)) a.body.length 0
def actE (p:Prg) (i:Int):Int×Int:=match at? p.actions i with
 | none=>(-1,8)
 | some a=>if actD a≠0 then (-1,actD a) else (bodyE p a).getD (0,0)
def fits (v w:Int):Bool:= !wBad w&&decide (v<2^w.toNat)
def qdm (p:Prg) (c:ActionCall):Int:=match at? p.actions c.action with
 | none=>8
 | some a=>if c.args.length≠a.params.length then 2 else errO (fe (fun i=>match c.args[i]?,a.params[i]? with
  | some v,some f=>if fits v f.width then none else some 9
  | _,_=>none) c.args.length 0)
def keyE (p:Prg) (x:Tbl):Option (Int×Int):=fe (fun i=>(x.keys[i]?).bind fun k=>
 if wid p k.field.header k.field.field=0 then some ((i:Int),8) else if k.kind=1∨k.kind=2∨k.kind=3 then none else some ((i:Int),11)) x.keys.length 0
def kWid (p:Prg) (x:Tbl):List Int:=x.keys.map fun k=>wid p k.field.header k.field.field
def qep (p:Prg) (x:Tbl):Int×Int:=match keyE p x with
 | some e=>e
 | none=>if 1<x.keys.countP (fun k=>decide (k.kind=2)) then (-2,7) else if 64<(kWid p x).sum then (-2,10) else (0,0)
def qix (p:Prg) (x:Tbl):Int:=match fe (fun i=>(x.actions[i]?).bind fun a=>if a<0∨(p.actions.length:Int)≤a then some (8:Int) else if (x.actions.take i).contains a then some 7 else none) x.actions.length 0 with
 | some e=>e
 | none=>if x.actions.contains x.dflt.action then qdm p x.dflt else 8
def tblE (p:Prg) (t:Int):Int×Int:=match at? p.tables t with
 | none=>(-1,8)
 | some x=>if idS x.name=false then (-1,6) else if 6<x.keys.length∨16<x.actions.length then (-1,12) else if x.size<1∨256<x.size then (-1,9)
  else if (qep p x).2≠0 then qep p x else if qix p x≠0 then (-3,qix p x) else (0,0)
def qdh (p:Prg) (s:Nat) (n:Int):Bool:=decide (n= -1) || decide (n= -2) || (decide ((s:Int)<n)&&decide (n<p.states.length))
def qdn (p:Prg) (s:Nat) (x:ParserState) (c:SelectCase):Int:=
 if fits c.value (wid p x.on.header x.on.field)=false∨fits c.mask (wid p x.on.header x.on.field)=false then 9
 else if c.value.toNat&&& c.mask.toNat≠c.value.toNat then 5
 else if qdh p s c.next then 0 else 14
def stE (p:Prg) (s:Nat) (x:ParserState):Int×Int:=
 if 4<x.extract.length∨8<x.cases.length then (-1,12)
 else if x.extract.any (fun h=>decide (h<0) || decide ((p.headers.length:Int)≤h)) then (-1,8)
 else if x.select=true∧wid p x.on.header x.on.field=0 then (-1,8)
 else if x.select=false∧0<x.cases.length then (-1,11)
 else match fe (fun i=>(x.cases[i]?).bind fun c=>if qdn p s x c=0 then none else some ((i:Int),qdn p s x c)) x.cases.length 0 with
  | some e=>e
  | none=>if qdh p s x.dflt then (0,0) else (-1,14)
def parE (p:Prg):Int×Int×Int:=
 if p.states.length=0 then (-1,-1,8) else if 12<p.states.length then (-1,-1,12)
 else (fe (fun s=>(p.states[s]?).bind fun x=>if idS x.name=false then some ((s:Int),(-1:Int),(6:Int)) else if dupN ParserState.name p.states s x then some ((s:Int),-1,7)
  else if (stE p s x).2=0 then none else some ((s:Int),(stE p s x).1,(stE p s x).2)) p.states.length 0).getD (0,0,0)
def depE (p:Prg):Int×Int:=if 8<p.deparser.length then (-1,12) else
 (fe (fun i=>(p.deparser[i]?).bind fun h=>if h<0∨(p.headers.length:Int)≤h then some ((i:Int),(8:Int)) else if (p.deparser.take i).contains h then some ((i:Int),7) else none) p.deparser.length 0).getD (0,0)
def ControlNode.kind:ControlNode→Int | .mk k _ _ _ _=>k
def ControlNode.table:ControlNode→Int | .mk _ t _ _ _=>t
def ControlNode.cond:ControlNode→List ExprNode | .mk _ _ c _ _=>c
def ControlNode.thn:ControlNode→List ControlNode | .mk _ _ _ a _=>a
def ControlNode.els:ControlNode→List ControlNode | .mk _ _ _ _ b=>b
mutual
def pre1:ControlNode→List ControlNode
 | .mk k t c a b=> .mk k t c a b::(pre a++pre b)
def pre:List ControlNode→List ControlNode
 | []=>[]
 | x::r=>pre1 x++pre r
end
mutual
def qg4:ControlNode→Nat
 | .mk _ _ _ a b=>max (nest a) (nest b)
def nest:List ControlNode→Nat
 | []=>0
 | x::r=>max (1+qg4 x) (nest r)
end
def appl (x:ControlNode):Bool:=decide (x.kind=1) || decide (x.kind=3)
def qcp (p:Prg) (l:List ControlNode) (x:ControlNode):Int:=
 if x.kind=2 then (if (exE p [] x.cond).2=0 then (if (exE p [] x.cond).1=1 then 0 else 10) else (exE p [] x.cond).2)
 else if x.kind=1∨x.kind=3 then (if x.table<0∨(p.tables.length:Int)≤x.table then 8
  else if l.any (fun y=>appl y&&decide (y.table=x.table)) then 7
  else if x.kind=1∧0<x.thn.length+x.els.length then 5 else 0)
 else 11
def ctlE (p:Prg):Int×Int:=if 24<(pre p.control).length then (-1,12) else if 6<nest p.control then (-1,14)
 else (fe (fun i=>((pre p.control)[i]?).bind fun x=>if qcp p ((pre p.control).take i) x=0 then none else some ((i:Int),qcp p ((pre p.control).take i) x)) (pre p.control).length 0).getD (0,0)
abbrev Dg:=Int×Int×Int×Int
def limD (p:Prg):Option Dg:=if idS p.name=false then some (6,0,0,0) else if 8<p.headers.length then some (12,0,1,0) else if 4<p.registers.length then some (12,0,3,0)
 else if 16<p.actions.length then some (12,0,4,0) else if 12<p.tables.length then some (12,0,5,0) else none
def qe5 (p:Prg) (i:Nat) (h:Header):Int:=if hdrE h≠0 then hdrE h else if h.name=[109,101,116,97] then 6 else if dupN Header.name p.headers i h then 7 else 0
def hdrD (p:Prg):Option Dg:=fe (fun i=>(p.headers[i]?).bind fun h=>if qe5 p i h=0 then none else some (qe5 p i h,1,(i:Int),0)) p.headers.length 0
def qc6 (i:Nat):Fld:=if i=0 then ⟨[105,110],8⟩ else if i=1 then ⟨[111,117,116],8⟩ else ⟨[100,114,111,112],1⟩
def metD (p:Prg):Option Dg:=if 12<p.metadata.length then some (12,2,0,0)
 else match fe (fun i=>(p.metadata[i]?).bind fun f=>if fldE p.metadata i f=0 then none else some (fldE p.metadata i f,(2:Int),(i:Int),(0:Int))) p.metadata.length 0 with
  | some d=>some d
  | none=>fe (fun i=>if p.metadata[i]? =some (qc6 i) then none else some (5,2,(i:Int),0)) 3 0
def qgd (p:Prg) (i:Nat) (r:Register):Int:=if regE r≠0 then regE r else if dupN Register.name p.registers i r then 7 else 0
def regD (p:Prg):Option Dg:=fe (fun i=>(p.registers[i]?).bind fun r=>if qgd p i r=0 then none else some (qgd p i r,3,(i:Int),0)) p.registers.length 0
def qdp (p:Prg):Option Dg:=fe (fun i=>(p.actions[i]?).bind fun a=>if (actE p i).2≠0 then some ((actE p i).2,(4:Int),(i:Int),(actE p i).1) else if dupN Action.name p.actions i a then some (7,4,(i:Int),0) else none) p.actions.length 0
def tblD (p:Prg):Option Dg:=fe (fun i=>(p.tables[i]?).bind fun a=>if (tblE p i).2≠0 then some ((tblE p i).2,(5:Int),(i:Int),(tblE p i).1) else if dupN Tbl.name p.tables i a then some (7,5,(i:Int),0) else none) p.tables.length 0
def floD (p:Prg):Option Dg:=if (parE p).2.2≠0 then some ((parE p).2.2,6,(parE p).1,(parE p).2.1) else if (ctlE p).2≠0 then some ((ctlE p).2,7,(ctlE p).1,0)
 else if (depE p).2≠0 then some ((depE p).2,8,(depE p).1,0) else none
def prgD (p:Prg):Dg:=((((((limD p).or (hdrD p)).or (metD p)).or (regD p)).or (qdp p)).or (tblD p)).or (floD p)|>.getD (0,0,0,0)
end Go.Av
