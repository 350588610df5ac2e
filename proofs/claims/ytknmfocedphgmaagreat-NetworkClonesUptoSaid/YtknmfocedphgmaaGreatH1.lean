/-
 Heaps of which only some objects are known: what is read of them after changes.
-/
import Derived.Test.YtknmfocedphgmaaGreatFunsAR
set_option linter.unusedVariables false
set_option linter.unusedSimpArgs false
set_option linter.constructorNameAsVariable false
namespace Go.Av
theorem aC (t:Nat) (a b:List (Nat×AO)):look t (a++b)=(look t a).or (look t b):=K2 t a b
theorem aB (j t:Nat) (y:AO):∀O:List (Nat×AO),look j (setl t y O)=if j=t then (look t O).map (fun _=>y) else look j O
 | []=>by simp
 | (u,w)::r=>by
  have ih:=aB j t y r;by_cases hu:u=t
  ·subst hu;by_cases hj:j=u
   ·subst hj;simp
   ·have:¬u=j:=fun h=>hj h.symm
    simp [hj,this]
  ·by_cases hj:j=t
   ·subst hj;simp [hu];simpa using ih
   ·by_cases hv:u=j
    ·subst hv;simp [hu]
    ·simp [hu,hv,hj];simpa [hj] using ih
theorem bK {j t:Nat} (h:j≠t):∀O:List (Nat×AO),look j (bW t O)=look j O
 | []=>by simp
 | (u,w)::r=>by
  have ih:=bK h r;by_cases hu:u=t
  ·subst hu;have:¬u=j:=fun e=>h e.symm
   simp [this]
  ·by_cases hv:u=j
   ·subst hv;simp [hu]
   ·simp [hu,hv,ih]
theorem K5 {j t:Nat}:∀O:List (Nat×AO),look j O=none->look j (bW t O)=none
 | [],_=>by simp
 | (u,w)::r,h=>by
  by_cases hv:u=j
  ·subst hv;simp at h
  ·simp [hv] at h;have ih:=K5 (t:=t) r h;by_cases hu:u=t
   ·subst hu;simpa using h
   ·simp [hu,hv,ih]
theorem aR {j:Nat}:∀{O:List (Nat×AO)},look j O≠some .res->look j (bZ O)=look j O
 | [],_=>by simp
 | (u,w)::r,h=>by
  by_cases hv:u=j
  ·subst hv;simp at h;cases w<;>simp at h ⊢
  ·simp [hv] at h;have ih:=aR h;cases w<;>simp [hv,ih]
section
variable (z t i o n:Nat) (es:List (List AV))
@[simp] theorem Zf:lenOf (.slice z es)=some es.length:=rfl
@[simp] theorem Zd:lenOf (.Xu z es)=some es.length:=rfl
@[simp] theorem Zc:lenOf (.app z es t)=some es.length:=rfl
@[simp] theorem Ze:lenOf (.row t z o n)=some n:=rfl
@[simp] theorem Vr (cs:List AV):AV.cells (.agg cs)=some cs:=rfl
@[simp] theorem Vs (k:IntKind) (x:Int):AV.cells (.int k x)=some [.int k x]:=rfl
@[simp] theorem Uj (b:Bool):AV.cells (.bool b)=some [.bool b]:=rfl
@[simp] theorem Vv (b:List UInt8):AV.cells (.str b)=some [.str b]:=rfl
@[simp] theorem Sq:AV.cells .nilptr=some [.nilptr]:=rfl
@[simp] theorem Sp:AV.cells .nilmap=some [.nilmap]:=rfl
@[simp] theorem Yo:AV.cells (.slice z es)=some [.slice z es]:=rfl
@[simp] theorem Ym:AV.cells (.Xu z es)=some [.Xu z es]:=rfl
@[simp] theorem Yl:AV.cells (.app z es t)=some [.app z es t]:=rfl
@[simp] theorem Yn:AV.cells (.row t z o n)=some [.row t z o n]:=rfl
@[simp] theorem Vu:AV.cells (.ptr t z o n)=some [.ptr t z o n]:=rfl
@[simp] theorem Ul:AV.cells (.iptr z es o n)=some [.iptr z es o n]:=rfl
@[simp] theorem Vt:AV.cells (.map t)=some [.map t]:=rfl
@[simp] theorem Uk (f:Fn) (a b:List AV):AV.cells (.func f a b)=some [.func f a b]:=rfl
end
theorem Tail_append_iff {a b:List (Nat×AO)} {n:Nat}:Tail (a++b) n↔Tail a n/\Tail b n:=by
 constructor
 ·intro h;refine ⟨fun j hj=>?_,fun j hj=>?_⟩
  ·have:=h j hj;rw [aC] at this;cases hl:look j a with
   | none=>rfl
   | some x=>rw [hl] at this;cases this
  ·have:=h j hj;rw [aC] at this;cases hl:look j a with
   | none=>rw [hl] at this;simpa using this
   | some x=>rw [hl] at this;cases this
 ·rintro ⟨h1,h2⟩ j hj;rw [aC,h1 j hj,h2 j hj];rfl
theorem Tail_cons_iff {u n:Nat} {x:AO} {r:List (Nat×AO)}:Tail ((u,x)::r) n↔u<n/\Tail r n:=by
 constructor
 ·intro h;have hu:u<n:=by
   refine Decidable.byContradiction fun hc=>?_
   have:=h u (by omega);simp at this
  refine ⟨hu,fun j hj=>?_⟩;have:=h j hj;have hne:¬u=j:=by omega
  simpa [hne] using this
 ·rintro ⟨h1,h2⟩ j hj;have hne:¬u=j:=by omega
  simp [hne,h2 j hj]
theorem pS {n:Nat}:Tail [] n↔True:=⟨fun _=>trivial,fun _=>Tail.nil n⟩
theorem bV {t n:Nat} {y:AO} {O:List (Nat×AO)} (h:Tail O n):Tail (setl t y O) n:=by
 intro j hj;rw [aB];split
 ·rename_i e;rw [<- e,h j hj];rfl
 ·exact h j hj
theorem G8 {t n:Nat} {O:List (Nat×AO)} (h:Tail O n):Tail (bW t O) n:=fun j hj=>K5 _ (h j hj)
theorem CU {n:Nat} {O:List (Nat×AO)} (h:Tail O n):Tail (bZ O) n:=by
 intro j hj;rw [aR (by rw [h j hj];simp),h j hj]
theorem Tail.lt {O:List (Nat×AO)} {n j:Nat} {x:AO} (h:Tail O n) (hl:look j O=some x):j<n:=by
 refine Decidable.byContradiction fun hc=>?_
 rw [h j (by omega)] at hl;cases hl
def Kp (X:Nat->Prop) (N:Nat) (O O':List (Nat×AO)):Prop:=∀j,j<N->¬X j->look j O'=look j O
theorem Kp.refl {X:Nat->Prop} {N:Nat} {O:List (Nat×AO)}:Kp X N O O:=fun _ _ _=>rfl
theorem Kp.trans {X:Nat->Prop} {N N':Nat} {O O' O'':List (Nat×AO)} (h:Kp X N O O') (h2:Kp X N' O' O'') (hn:N<=N'):Kp X N O O'':=
 fun j hj hx=>(h2 j (by omega) hx).trans (h j hj hx)
theorem Kp.mono {X Y:Nat->Prop} {N:Nat} {O O':List (Nat×AO)} (h:Kp X N O O') (hx:∀j,j<N->X j->Y j):Kp Y N O O':=
 fun j hj hy=>h j hj fun hc=>hy (hx j hj hc)
section
variable {Φ:FuncId->Option AFun} {β:Type} {fin:Option (Ex×St)->Option β}
theorem Hg {Z:Type} (m:Z->Nat) (Inv:Z->Env->AH->Prop) (R:Z->Option β->Prop) {b:Xv} {K:List Go.Av.Fr}
  (step:∀x e h L,(∀j s,go Φ fin L (.exit j) s=go Φ fin K (.exit j) s)->Inv x e h->(∀y e' h',m y<m x->Inv y e' h'->R y (go Φ fin L .normal ⟨e',h'⟩))->R x (go Φ fin (.c b::L) .normal ⟨e,h⟩)):
  ∀x e h,Inv x e h->R x (go Φ fin (.c (.loop b)::K) .normal ⟨e,h⟩):=by
 have key:∀n x e h,m x<=n->Inv x e h->R x (go Φ fin (.c (.loop b)::K) .normal ⟨e,h⟩):=by
  intro n
  induction n with
  | zero=>
   intro x e h hn hi;rw [fA];exact step x e h _ (fun j s=>by simp) hi fun y e' h' hlt=>by omega
  | succ n ih=>
   intro x e h hn hi;rw [fA];exact step x e h _ (fun j s=>by simp) hi fun y e' h' hlt hy=>ih y e' h' (by omega) hy
 intro x e h hi;exact key (m x) x e h (Qb _) hi
theorem fF (N:Nat) (Inv:Nat->Env->AH->Prop) (Q:Option β->Prop) {b:Xv} {K:List Go.Av.Fr}
  (step:∀i e h L,i<N->(∀j s,go Φ fin L (.exit j) s=go Φ fin K (.exit j) s)->Inv i e h->(∀e' h',Inv (i+1) e' h'->Q (go Φ fin L .normal ⟨e',h'⟩))->Q (go Φ fin (.c b::L) .normal ⟨e,h⟩))
  (last:∀e h L,(∀j s,go Φ fin L (.exit j) s=go Φ fin K (.exit j) s)->Inv N e h->Q (go Φ fin (.c b::L) .normal ⟨e,h⟩)):
  ∀i e h,i<=N->Inv i e h->Q (go Φ fin (.c (.loop b)::K) .normal ⟨e,h⟩):=by
 intro i e h hi hinv;refine Hg (Z:={ i:Nat // i<=N }) (fun x=>N - x.1) (fun x=>Inv x.1) (fun _=>Q) ?_ ⟨i,hi⟩ e h hinv;intro ⟨i,hi⟩ e h L hL hinv ih;rcases Nat.lt_or_eq_of_le hi with hlt | heq
 ·exact step i e h L hlt hL hinv fun e' h' hi'=>ih ⟨i+1,hlt⟩ e' h' (by simp;omega) hi'
 ·subst heq;exact last e h L hL hinv
end
def vid:AV->Option Nat
 | .row id _ _ _=>some id
 | _=>none
inductive Mu (O:List (Nat×AO)) (z:Nat):AV->List (List AV)->Prop
 | nilF:Mu O z (.Xu z []) []
 | nilA (t:Nat):Mu O z (.app z [] t) []
 | row (id:Nat) (es es0:List (List AV)) (n:Nat) (hn:n=es.length) (hl:look id O=some (.row z es0)) (hle:es.length<=es0.length) (ht:es0.take es.length=es):Mu O z (.row id z 0 n) es
theorem Mu.len {O:List (Nat×AO)} {z:Nat} {v:AV} {es:List (List AV)} (h:Mu O z v es):lenOf v=some es.length:=by
 cases h with
 | nilF=>rfl
 | nilA=>rfl
 | row id _ es0 n hn=>subst hn;rfl
theorem Mu.fr {O O':List (Nat×AO)} {z:Nat} {v:AV} {es:List (List AV)} (h:Mu O z v es) (hf:∀j,vid v=some j->look j O'=look j O):Mu O' z v es:=by
 cases h with
 | nilF=>exact .nilF
 | nilA=>exact .nilA _
 | row id _ es0 n hn hl hle ht=>exact .row id es es0 n hn (by rw [hf id rfl,hl]) hle ht
theorem Mu.nonempty {O:List (Nat×AO)} {z:Nat} {v:AV} {es:List (List AV)} (h:Mu O z v es) (hp:0<es.length):∃id es0,v= .row id z 0 es.length/\look id O=some (.row z es0)/\es.length<=es0.length/\es0.take es.length=es:=by
 cases h with
 | nilF=>simp at hp
 | nilA=>simp at hp
 | row id _ es0 n hn hl hle ht=>subst hn;exact ⟨id,es0,rfl,hl,hle,ht⟩
theorem Mu.snp {O:List (Nat×AO)} {z N n:Nat} {v:AV} {es:List (List AV)} (h:Mu O z v es):snap (n+1) ⟨O,N⟩ v=(mapO (mapO (snap n ⟨O,N⟩)) es).map (.slice z):=by
 cases h with
 | nilF=>simp
 | nilA=>simp
 | row id _ es0 k hn hl hle ht=>
  subst hn;simp [hl,hle,ht]
inductive Re (O:List (Nat×AO)) (z:Nat):AV->List (List AV)->Prop
 | sl (es:List (List AV)):Re O z (.slice z es) es
 | fs (es:List (List AV)):Re O z (.Xu z es) es
 | ap (es:List (List AV)) (t:Nat):Re O z (.app z es t) es
 | row (id:Nat) (es es0:List (List AV)) (n:Nat) (hn:n=es.length) (hl:look id O=some (.row z es0)) (hle:es.length<=es0.length) (ht:es0.take es.length=es):Re O z (.row id z 0 n) es
theorem Mu.re {O:List (Nat×AO)} {z:Nat} {v:AV} {es:List (List AV)} (h:Mu O z v es):Re O z v es:=by
 cases h with
 | nilF=>exact .fs []
 | nilA=>exact .ap [] _
 | row id _ es0 n hn hl hle ht=>exact .row id es es0 n hn hl hle ht
theorem Re.fr {O O':List (Nat×AO)} {z:Nat} {v:AV} {es:List (List AV)} (h:Re O z v es) (hf:∀j,vid v=some j->look j O'=look j O):Re O' z v es:=by
 cases h with
 | sl=>exact .sl es
 | fs=>exact .fs es
 | ap=>exact .ap es _
 | row id _ es0 n hn hl hle ht=>exact .row id es es0 n hn (by rw [hf id rfl,hl]) hle ht
theorem Re.len {O:List (Nat×AO)} {z:Nat} {v:AV} {es:List (List AV)} (h:Re O z v es):lenOf v=some es.length:=by
 cases h with
 | sl=>rfl
 | fs=>rfl
 | ap=>rfl
 | row id _ es0 n hn=>subst hn;rfl
theorem Re.snp {O:List (Nat×AO)} {z N n:Nat} {v:AV} {es:List (List AV)} (h:Re O z v es) (he:mapO (mapO (snap n ⟨O,N⟩)) es=some es):snap (n+1) ⟨O,N⟩ v=some (.slice z es):=by
 cases h with
 | sl=>simp
 | fs=>simp
 | ap=>simp
 | row id _ es0 k hn hl hle ht=>
  subst hn;simp [hl,hle,ht,he]
theorem Re.cells {O:List (Nat×AO)} {z:Nat} {v:AV} {es:List (List AV)} (h:Re O z v es):v.cells=some [v]:=by
 cases h<;>rfl
theorem Mu.cells {O:List (Nat×AO)} {z:Nat} {v:AV} {es:List (List AV)} (h:Mu O z v es):v.cells=some [v]:=h.re.cells
set_option maxRecDepth 4000
def letC (c:Int):Bool:=(decide (97<=c)&&decide (c<=122)) || (decide (65<=c)&&decide (c<=90))
def digI (c:Int):Bool:=decide (48<=c)&&decide (c<=57)
def idC (c:Int):Bool:=letC c || (digI c || decide (c=95))
theorem Jp (c:Int):aA Φ sW [.int .u8 c]=some (.val (.bool (letC c))):=by
 rw [aD rfl rfl];by_cases h1:97<=c<;>by_cases h2:c<=122<;>by_cases h3:65<=c<;>simp [FB,letC,h1,h2,h3]
theorem qx3 (c:Int):aA Φ zU [.int .u8 c]=some (.val (.bool (digI c))):=by
 rw [aD rfl rfl];by_cases h1:48<=c<;>simp [FE,digI,h1]
theorem Ar (c:Int):aA Φ nV [.int .u8 c]=some (.val (.bool (idC c))):=by
 rw [aD rfl rfl];have h1:=Jp c;have h2:=qx3 c;cases q1:letC c<;>cases q2:digI c<;>rw [q1] at h1<;>rw [q2] at h2<;>simp [FD,idC,h1,h2,q1,q2]
theorem qz0 (s:List UInt8) (hs:s.length<2^40):aA Φ zT [.str s,.func (.func nV) [] []]=some (.val (a8 (s.takeWhile fun b=>idC b.toNat).length)):=by
 rw [aD rfl rfl];simp [FC];refine (iJ s.length (fun i e=>look 0 e=some (.str s)/\look 1 e=some (.func (.func nV) [] [])/\look 5 e=some (a8 i))
  (fun i=>some (Rt.val (a8 (i+((s.drop i).takeWhile fun b=>idC b.toNat).length:Nat)))) ?_ ?_ 0 _ (Qc _) ?_).trans (by simp)
 ·rintro i e L hi hL ⟨h0,h1,h5⟩ ih;have hw:=aL i (by omega);have hc:=Ar (s[i].toNat:Int);rw [Qi hi];cases q:idC (s[i].toNat:Int) with
  | true=>
   rw [q] at hc;rw [show List.takeWhile (fun b:UInt8=>idC b.toNat) (s[i]::s.drop (i+1))=s[i]::List.takeWhile (fun b:UInt8=>idC b.toNat) (s.drop (i+1)) from List.takeWhile_cons_of_pos q];simp [c_300_l0,h0,h1,h5,hi,hc,hw];refine (ih _ ⟨by simp [h0],by simp [h1],by simp⟩).trans ?_;simp;omega
  | false=>
   rw [q] at hc;rw [show List.takeWhile (fun b:UInt8=>idC b.toNat) (s[i]::s.drop (i+1))=[] from List.takeWhile_cons_of_neg (by simp [q])];simp [c_300_l0,c_300_k1,h0,h1,h5,hi,hL,hc]
 ·rintro e L hL ⟨h0,h1,h5⟩;simp [c_300_l0,c_300_k1,h0,h5,hL]
 ·simp
def idS (s:List UInt8):Bool:=match s with
 | []=>false
 | c::_=>decide (s.length<=16)&&(letC c.toNat&&s.all fun b=>idC b.toNat)
theorem Iw (p:UInt8->Bool):∀s:List UInt8,((s.takeWhile p).length=s.length)↔s.all p=true
 | []=>by simp
 | c::r=>by
  have:=Iw p r;cases q:p c<;>simp [q];simpa using this
theorem Oy {s:List UInt8} (h:0<s.length):idS s=(decide (s.length<=16)&&(letC s[0].toNat&&s.all fun b=>idC b.toNat)):=by
 cases s with
 | nil=>simp at h
 | cons c r=>rfl
theorem qx4 (s:List UInt8) (hs:s.length<2^40):aA Φ zC [.str s]=some (.val (.bool (idS s))):=by
 rw [aD rfl rfl];by_cases h0:s.length=0
 ·have:s=[]:=Qg h0;subst this;simp [mV,idS]
 have hp:0<s.length:=by omega
 rw [Oy hp];by_cases h16:16<s.length
 ·simp [mV,h0,h16,Qf.2 h16]
 have hl:=Jp (s[0].toNat:Int);cases q:letC (s[0].toNat:Int) with
 | false=>
  rw [q] at hl;simp [mV,h0,hp,h16,hl]
 | true=>
  rw [q] at hl;have he:=qz0 s hs;have ht:=Iw (fun b=>idC b.toNat) s;have e:(decide ((s.takeWhile fun b=>idC b.toNat).length=s.length))=(s.all fun b=>idC b.toNat):=by
   cases h:(s.all fun b=>idC b.toNat) with
   | true=>exact decide_eq_true (ht.2 h)
   | false=>exact decide_eq_false (fun h2=>by have:=ht.1 h2;rw [h] at this;cases this)
  simp [mV,h0,hp,h16,Nat.le_of_not_lt h16,hl,he,e]
theorem Fld.e (x:Fld):Fld.c x=[.str x.name,a8 x.Yd]:=by simp [Fld.c]
theorem Xe.e (x:Xe):Xe.c x=[a8 x.op,a8 x.n,a8 x.w]:=by simp [Xe.c]
theorem Xl.e (x:Xl):Xl.c x=[a8 x.field.header,a8 x.field.field,a8 x.kind]:=by simp [Xl.c]
theorem Xb.e (x:Xb):Xb.c x=[a8 x.Xz,.slice 1 (x.args.map c32)]:=by simp [Xb.c]
theorem Xk.e (x:Xk):Xk.c x=[.int .u32 x.value,.int .u32 x.Ye,a8 x.next]:=by simp [Xk.c]
theorem Action.e (x:Action):Action.c x=[.str x.name,.slice 2 (x.params.map Fld.c),.slice 7 (x.body.map Xg.c)]:=by simp [Action.c]
theorem Xj.e (x:Xj):Xj.c x=[.str x.name,.slice 2 (x.Ya.map Fld.c)]:=by simp [Xj.c]
theorem Xh.e (x:Xh):Xh.c x=[.str x.name,a8 x.Yd,a8 x.size]:=by simp [Xh.c]
theorem Xg.e (x:Xg):Xg.c x=[a8 x.kind,a8 x.dst.header,a8 x.dst.field,a8 x.Yf,a8 x.header,.slice 3 (x.index.map Xe.c),.slice 3 (x.value.map Xe.c)]:=by simp [Xg.c]
theorem Tbl.e (x:Tbl):Tbl.c x=[.str x.name,.slice 3 (x.keys.map Xl.c),.slice 1 (x.Xy.map cI),a8 x.Yc.Xz,.slice 1 (x.Yc.args.map c32),a8 x.size]:=by simp [Tbl.c]
theorem Xd.e (x:Xd):Xd.c x=[.str x.name,.slice 1 (x.extract.map cI),.bool x.select,a8 x.on.header,a8 x.on.field,.slice 3 (x.cases.map Xk.c),a8 x.Yc]:=by simp [Xd.c]
theorem Xa.e (k t:Int) (c:List Xe) (a b:List Xa):Xa.c (.mk k t c a b)=[a8 k,a8 t,.slice 3 (c.map Xe.c),.slice 5 (a.map Xa.c),.slice 5 (b.map Xa.c)]:=by simp [Xa.c,Xa.cs_eq]
theorem Prg.e (x:Prg):Prg.c x=[.str x.name,.slice 2 (x.Xp.map Xj.c),.slice 2 (x.Xo.map Fld.c),.slice 3 (x.Xm.map Xh.c),.slice 3 (x.Xy.map Action.c),.slice 6 (x.Xn.map Tbl.c),.slice 7 (x.Xx.map Xd.c),.slice 5 (x.Yb.map Xa.c),.slice 1 (x.Xs.map cI)]:=by simp [Prg.c]
def feF {α:Type} (f:Nat->Option α):Nat->Nat->Option α
 | 0,_=>none
 | n+1,i=>match f i with
  | some x=>some x
  | none=>feF f n (i+1)
def fe {α:Type} (f:Nat->Option α) (N i:Nat):Option α:=feF f (N - i) i
theorem fB {α:Type} {f:Nat->Option α} {N i:Nat} {x:α} (hi:i<N) (h:f i=some x):fe f N i=some x:=by
 unfold fe;rw [show N - i=(N - (i+1))+1 by omega];simp [feF,h]
theorem gA {α:Type} {f:Nat->Option α} {N i:Nat} (hi:i<N) (h:f i=none):fe f N i=fe f N (i+1):=by
 unfold fe;rw [show N - i=(N - (i+1))+1 by omega];simp [feF,h]
theorem jG {α:Type} {f:Nat->Option α} {N:Nat}:fe f N N=none:=by simp [fe,feF]
def er (e:Int):Option Int:=if e=0 then none else some e
def errO:Option Int->Int
 | none=>0
 | some e=>e
@[simp] theorem Vz:errO none=0:=by simp [errO]
@[simp] theorem Wa (e:Int):errO (some e)=e:=by simp [errO]
def at? {α:Type} (l:List α) (i:Int):Option α:=if i<0 then none else l[i.toNat]?
@[simp] theorem L5 {α:Type} (l:List α) (i:Nat):at? l (i:Int)=l[i]? :=by
 unfold at?;rw [QA (by omega)];simp
theorem p6 {α:Type} {l:List α} {i:Int} (h:i<0):at? l i=none:=by simp [at?,h]
theorem p5 {α:Type} {l:List α} {i:Int} (h:(l.length:Int)<=i):at? l i=none:=by
 unfold at?;split
 ·rfl
 ·simp;omega
def wBad (w:Int):Bool:=decide (w<1) || decide (32<w)
def dupN {α:Type} (nm:α->List UInt8) (l:List α) (i:Nat) (x:α):Bool:=(l.take i).any fun y=>decide (nm y=nm x)
def fldE (l:List Fld) (i:Nat) (f:Fld):Int:=if idS f.name=false then 6 else if wBad f.Yd then 10 else if dupN Fld.name l i f then 7 else 0
def fldsE (l:List Fld):Option Int:=fe (fun i=>(l[i]?).bind fun f=>er (fldE l i f)) l.length 0
def wSum (l:List Fld):Int:=(l.map (·.Yd)).sum
def hdrE (h:Xj):Int:=if idS h.name=false then 6 else if h.Ya.length=0 then 8 else if 12<h.Ya.length then 12 else
 match fldsE h.Ya with
 | some e=>e
 | none=>if (wSum h.Ya) % 8=0 then 0 else 10
def regE (r:Xh):Int:=if idS r.name=false then 6 else if wBad r.Yd then 10 else if r.size<1\/64<r.size then 9 else 0
def decl (p:Prg) (h f:Int):Option Int:=(if h= -1 then some p.Xo else (at? p.Xp h).map (·.Ya)).bind fun l=>(at? l f).map (·.Yd)
def wid (p:Prg) (h f:Int):Int:=match decl p h f with
 | some w=>if wBad w then 0 else w
 | none=>0
def ari (op:Int):Int:=if 1<=op/\op<=4 then 0 else if 5<=op/\op<=8 then 1 else if 9<=op/\op<=16 then 2 else if op=17 then 3 else -1
def wide (w:Int):Int×Int:=if wBad w then (0,10) else (w,0)
def prim (p:Prg) (ps:List Fld) (x:Xe):Int×Int:=
 if x.op=1 then (if wBad x.w then (0,10) else if x.n<0\/2^x.w.toNat - 1<x.n then (0,9) else (x.w,0))
 else if x.op=2 then (match decl p x.n x.w with | some w=>wide w | none=>(0,8))
 else if x.op=3 then (match at? ps x.n with | some f=>wide f.Yd | none=>(0,8))
 else if (at? p.Xp x.n).isSome then (1,0) else (0,8)
def comb (x:Xe) (a b c:Int):Int×Int:=
 if x.op=6\/x.op=7 then (if x.n<0\/31<x.n then (0,9) else (a,0))
 else if x.op=8 then (if x.n<0 then (0,9) else if wBad x.w\/a - x.w<x.n then (0,10) else (x.w,0))
 else if x.op=14 then wide (a+b)
 else if x.op=17 then (if a≠1\/b≠c then (0,10) else (b,0))
 else if ari x.op=2/\a≠b then (0,10)
 else if x.op=15\/x.op=16 then (1,0) else (a,0)
def chk (p:Prg) (ps:List Fld) (l:List Xe):Nat->Nat->Except Int (Int×Nat)
 | 0,_=> .error 3
 | n+1,i=>match l[i]? with
  | none=> .error 3
  | some x=>
   if ari x.op<0 then .error 11
   else if ari x.op=0 then (if (prim p ps x).2=0 then .ok ((prim p ps x).1,i+1) else .error (prim p ps x).2)
   else match chk p ps l n (i+1) with
    | .error e=> .error e
    | .ok (a,i1)=>
     if ari x.op=1 then (if (comb x a 0 0).2=0 then .ok ((comb x a 0 0).1,i1) else .error (comb x a 0 0).2)
     else match chk p ps l n i1 with
      | .error e=> .error e
      | .ok (b,i2)=>
       if ari x.op=2 then (if (comb x a b 0).2=0 then .ok ((comb x a b 0).1,i2) else .error (comb x a b 0).2)
       else match chk p ps l n i2 with
        | .error e=> .error e
        | .ok (c,i3)=>if (comb x a b c).2=0 then .ok ((comb x a b c).1,i3) else .error (comb x a b c).2
def exE (p:Prg) (ps:List Fld) (l:List Xe):Int×Int:=
 if 24<l.length then (0,12) else match chk p ps l (l.length+1) 0 with
 | .error e=>(0,e)
 | .ok (w,i)=>if i<l.length then (0,4) else (w,0)
def valE (p:Prg) (ps:List Fld) (l:List Xe) (w:Int):Int:=if (exE p ps l).2=0 then (if (exE p ps l).1=w then 0 else 10) else (exE p ps l).2
def stmE (p:Prg) (ps:List Fld) (s:Xg):Int:=
 if s.kind=1 then (match decl p s.dst.header s.dst.field with
  | none=>8
  | some w=>valE p ps s.value w)
 else if s.kind=2\/s.kind=3 then (if (at? p.Xp s.header).isSome then 0 else 8)
 else if s.kind=4 then (match at? p.Xm s.Yf,decl p s.dst.header s.dst.field with
  | some r,some w=>if (exE p ps s.index).2=0 then (if w=r.Yd then 0 else 10) else (exE p ps s.index).2
  | _,_=>8)
 else if s.kind=5 then (match at? p.Xm s.Yf with
  | some r=>if (exE p ps s.index).2=0 then valE p ps s.value r.Yd else (exE p ps s.index).2
  | none=>8)
 else 11
def actD (a:Action):Int:=if idS a.name=false then 6 else if 4<a.params.length\/12<a.body.length then 12 else errO (fldsE a.params)
def bodyE (p:Prg) (a:Action):Option (Int×Int):=fe (fun k=>(a.body[k]?).bind fun s=>if stmE p a.params s=0 then none else some ((k:Int),stmE p a.params s)) a.body.length 0
def actE (p:Prg) (i:Int):Int×Int:=match at? p.Xy i with
 | none=>(-1,8)
 | some a=>if actD a≠0 then (-1,actD a) else (bodyE p a).getD (0,0)
def fits (v w:Int):Bool:= !wBad w&&decide (v<2^w.toNat)
def iC (p:Prg) (c:Xb):Int:=match at? p.Xy c.Xz with
 | none=>8
 | some a=>if c.args.length≠a.params.length then 2 else errO (fe (fun i=>match c.args[i]?,a.params[i]? with
  | some v,some f=>if fits v f.Yd then none else some 9
  | _,_=>none) c.args.length 0)
def keyE (p:Prg) (x:Tbl):Option (Int×Int):=fe (fun i=>(x.keys[i]?).bind fun k=>
 if wid p k.field.header k.field.field=0 then some ((i:Int),8) else if k.kind=1\/k.kind=2\/k.kind=3 then none else some ((i:Int),11)) x.keys.length 0
def kWid (p:Prg) (x:Tbl):List Int:=x.keys.map fun k=>wid p k.field.header k.field.field
def tI (p:Prg) (x:Tbl):Int×Int:=match keyE p x with
 | some e=>e
 | none=>if 1<x.keys.countP (fun k=>decide (k.kind=2)) then (-2,7) else if 64<(kWid p x).sum then (-2,10) else (0,0)
def GR (p:Prg) (x:Tbl):Int:=match fe (fun i=>(x.Xy[i]?).bind fun a=>if a<0\/(p.Xy.length:Int)<=a then some (8:Int) else if (x.Xy.take i).contains a then some 7 else none) x.Xy.length 0 with
 | some e=>e
 | none=>if x.Xy.contains x.Yc.Xz then iC p x.Yc else 8
def tblE (p:Prg) (t:Int):Int×Int:=match at? p.Xn t with
 | none=>(-1,8)
 | some x=>if idS x.name=false then (-1,6) else if 6<x.keys.length\/16<x.Xy.length then (-1,12) else if x.size<1\/256<x.size then (-1,9)
  else if (tI p x).2≠0 then tI p x else if GR p x≠0 then (-3,GR p x) else (0,0)
def leads (p:Prg) (s:Nat) (n:Int):Bool:=decide (n= -1) || decide (n= -2) || (decide ((s:Int)<n)&&decide (n<p.Xx.length))
def caseE (p:Prg) (s:Nat) (x:Xd) (c:Xk):Int:=
 if fits c.value (wid p x.on.header x.on.field)=false\/fits c.Ye (wid p x.on.header x.on.field)=false then 9
 else if c.value.toNat&&& c.Ye.toNat≠c.value.toNat then 5
 else if leads p s c.next then 0 else 14
def stE (p:Prg) (s:Nat) (x:Xd):Int×Int:=
 if 4<x.extract.length\/8<x.cases.length then (-1,12)
 else if x.extract.any (fun h=>decide (h<0) || decide ((p.Xp.length:Int)<=h)) then (-1,8)
 else if x.select=true/\wid p x.on.header x.on.field=0 then (-1,8)
 else if x.select=false/\0<x.cases.length then (-1,11)
 else match fe (fun i=>(x.cases[i]?).bind fun c=>if caseE p s x c=0 then none else some ((i:Int),caseE p s x c)) x.cases.length 0 with
  | some e=>e
  | none=>if leads p s x.Yc then (0,0) else (-1,14)
def parE (p:Prg):Int×Int×Int:=
 if p.Xx.length=0 then (-1,-1,8) else if 12<p.Xx.length then (-1,-1,12)
 else (fe (fun s=>(p.Xx[s]?).bind fun x=>if idS x.name=false then some ((s:Int),(-1:Int),(6:Int)) else if dupN Xd.name p.Xx s x then some ((s:Int),-1,7)
  else if (stE p s x).2=0 then none else some ((s:Int),(stE p s x).1,(stE p s x).2)) p.Xx.length 0).getD (0,0,0)
def depE (p:Prg):Int×Int:=if 8<p.Xs.length then (-1,12) else
 (fe (fun i=>(p.Xs[i]?).bind fun h=>if h<0\/(p.Xp.length:Int)<=h then some ((i:Int),(8:Int)) else if (p.Xs.take i).contains h then some ((i:Int),7) else none) p.Xs.length 0).getD (0,0)
def Xa.kind:Xa->Int | .mk k _ _ _ _=>k
def Xa.table:Xa->Int | .mk _ t _ _ _=>t
def Xa.cond:Xa->List Xe | .mk _ _ c _ _=>c
def Xa.thn:Xa->List Xa | .mk _ _ _ a _=>a
def Xa.els:Xa->List Xa | .mk _ _ _ _ b=>b
mutual
def pre1:Xa->List Xa
 | .mk k t c a b=> .mk k t c a b::(pre a++pre b)
def pre:List Xa->List Xa
 | []=>[]
 | x::r=>pre1 x++pre r
end
mutual
def SS:Xa->Nat
 | .mk _ _ _ a b=>max (nest a) (nest b)
def nest:List Xa->Nat
 | []=>0
 | x::r=>max (1+SS x) (nest r)
end
def appl (x:Xa):Bool:=decide (x.kind=1) || decide (x.kind=3)
def nodeE (p:Prg) (l:List Xa) (x:Xa):Int:=
 if x.kind=2 then (if (exE p [] x.cond).2=0 then (if (exE p [] x.cond).1=1 then 0 else 10) else (exE p [] x.cond).2)
 else if x.kind=1\/x.kind=3 then (if x.table<0\/(p.Xn.length:Int)<=x.table then 8
  else if l.any (fun y=>appl y&&decide (y.table=x.table)) then 7
  else if x.kind=1/\0<x.thn.length+x.els.length then 5 else 0)
 else 11
def ctlE (p:Prg):Int×Int:=if 24<(pre p.Yb).length then (-1,12) else if 6<nest p.Yb then (-1,14)
 else (fe (fun i=>((pre p.Yb)[i]?).bind fun x=>if nodeE p ((pre p.Yb).take i) x=0 then none else some ((i:Int),nodeE p ((pre p.Yb).take i) x)) (pre p.Yb).length 0).getD (0,0)
abbrev Dg:=Int×Int×Int×Int
def limD (p:Prg):Option Dg:=if idS p.name=false then some (6,0,0,0) else if 8<p.Xp.length then some (12,0,1,0) else if 4<p.Xm.length then some (12,0,3,0)
 else if 16<p.Xy.length then some (12,0,4,0) else if 12<p.Xn.length then some (12,0,5,0) else none
def hdrD1 (p:Prg) (i:Nat) (h:Xj):Int:=if hdrE h≠0 then hdrE h else if h.name=[109,101,116,97] then 6 else if dupN Xj.name p.Xp i h then 7 else 0
def hdrD (p:Prg):Option Dg:=fe (fun i=>(p.Xp[i]?).bind fun h=>if hdrD1 p i h=0 then none else some (hdrD1 p i h,1,(i:Int),0)) p.Xp.length 0
def metaW (i:Nat):Fld:=if i=0 then ⟨[105,110],8⟩ else if i=1 then ⟨[111,117,116],8⟩ else ⟨[100,114,111,112],1⟩
def metD (p:Prg):Option Dg:=if 12<p.Xo.length then some (12,2,0,0)
 else match fe (fun i=>(p.Xo[i]?).bind fun f=>if fldE p.Xo i f=0 then none else some (fldE p.Xo i f,(2:Int),(i:Int),(0:Int))) p.Xo.length 0 with
  | some d=>some d
  | none=>fe (fun i=>if p.Xo[i]? =some (metaW i) then none else some (5,2,(i:Int),0)) 3 0
def regD1 (p:Prg) (i:Nat) (r:Xh):Int:=if regE r≠0 then regE r else if dupN Xh.name p.Xm i r then 7 else 0
def regD (p:Prg):Option Dg:=fe (fun i=>(p.Xm[i]?).bind fun r=>if regD1 p i r=0 then none else some (regD1 p i r,3,(i:Int),0)) p.Xm.length 0
def SK (p:Prg):Option Dg:=fe (fun i=>(p.Xy[i]?).bind fun a=>if (actE p i).2≠0 then some ((actE p i).2,(4:Int),(i:Int),(actE p i).1) else if dupN Action.name p.Xy i a then some (7,4,(i:Int),0) else none) p.Xy.length 0
def tblD (p:Prg):Option Dg:=fe (fun i=>(p.Xn[i]?).bind fun a=>if (tblE p i).2≠0 then some ((tblE p i).2,(5:Int),(i:Int),(tblE p i).1) else if dupN Tbl.name p.Xn i a then some (7,5,(i:Int),0) else none) p.Xn.length 0
def floD (p:Prg):Option Dg:=if (parE p).2.2≠0 then some ((parE p).2.2,6,(parE p).1,(parE p).2.1) else if (ctlE p).2≠0 then some ((ctlE p).2,7,(ctlE p).1,0)
 else if (depE p).2≠0 then some ((depE p).2,8,(depE p).1,0) else none
def prgD (p:Prg):Dg:=((((((limD p).or (hdrD p)).or (metD p)).or (regD p)).or (SK p)).or (tblD p)).or (floD p)|>.getD (0,0,0,0)
def fC (w:Int):Int:=if wBad w then 0 else 2^w.toNat - 1
theorem wBad_false {w:Int}:wBad w=false↔1<=w/\w<=32:=by
 simp [wBad]
theorem wr1:IntKind.wrap .i64 1=1:=by decide
theorem QY (w:Int):aA Φ kU [.slice 1 [[a8 w]]]=some (.val (.bool (!wBad w))):=by
 rw [aD rfl rfl];by_cases h1:w<1
 ·simp [qT];rw [fA];simp [c_189_l0,h1,wBad]
 by_cases h2:32<w
 ·simp [qT];rw [fA];simp [c_189_l0,h1,h2,wBad]
 simp [qT];rw [fA];simp [c_189_l0,h1,h2,wr1];rw [fA];simp [c_189_k1,h1,h2,wBad]
theorem VU:∀k:Nat,k<33->1<=k->ishr .u32 4294967295 (IntKind.wrap .i64 (32 - (k:Int)))=2^k - 1/\0<=IntKind.wrap .i64 (32 - (k:Int)):=by decide
theorem KQ (w:Int):aA Φ gQ [a8 w]=some (.val (.int .u32 (fC w))):=by
 rw [aD rfl rfl];have hv:=QY w;cases h:wBad w with
 | true=>
  rw [h] at hv;simp [wI,hv,fC,h]
 | false=>
  rw [h] at hv;obtain ⟨h1,h2⟩:=wBad_false.1 h;obtain ⟨k,rfl⟩:∃k:Nat,w=k:=⟨w.toNat,by omega⟩;obtain ⟨e1,e2⟩:=VU k (by omega) (by omega);simp [wI,hv,fC,h,e2];exact e1
theorem Ew (v w:Int):aA Φ nO [.int .u32 v,a8 w]=some (.val (.bool (fits v w))):=by
 rw [aD rfl rfl];have hv:=QY w;have hm:=KQ w;cases h:wBad w with
 | true=>
  rw [h] at hv;simp [wX,hv,fits,h]
 | false=>
  rw [h] at hv;have e:(v<=fC w)↔v<2^w.toNat:=by
   simp only [fC,h];simp;omega
  simp [wX,hv,hm,fits,h,e]
@[simp] theorem Tm {α β:Type} (f:α->β) (l:List α):(l.map f).take l.length=l.map f:=by
 rw [Qo];simp
def Any (h:AH):Prop:=Tail h.objs h.next
theorem Any.app {T:List (Nat×AO)} {n:Nat} {o:AO} (h:Any ⟨T,n⟩):Any ⟨T++[(n,o)],n+1⟩:=Tail.app h o
theorem Any.mk {T:List (Nat×AO)} {n:Nat} (h:Tail T n):Any ⟨T,n⟩:=h
theorem fe_all {α:Type} {f:Nat->Option α} {N:Nat}:fe f N 0=none↔∀i,i<N->f i=none:=by
 have key:∀n i,feF f n i=none↔∀k,i<=k->k<i+n->f k=none:=by
  intro n
  induction n with
  | zero=>intro i;simp [feF];omega
  | succ n ih=>
   intro i;simp only [feF];cases h:f i with
   | some x=>simp;exact ⟨i,Qb _,by omega,by simp [h]⟩
   | none=>
    simp only [ih];constructor
    ·intro hh k h1 h2;rcases LN h1 with rfl | h3
     ·exact h
     ·exact hh k (by omega) (by omega)
    ·intro hh k h1 h2;exact hh k (by omega) (by omega)
 unfold fe;rw [key];simp
theorem wSum_eq (l:List Fld):wSum l=(l.map (·.Yd)).sum:=rfl
def tF:Nat:=249
def failV (c p i s:Int):AV:= .iface tF (.agg [a8 c,a8 p,a8 i,a8 s])
theorem Yq (c p i s:Int):AV.iface 249 (.agg [a8 c,a8 p,a8 i,a8 s])=failV c p i s:=rfl
def ix {α:Type} (p:α->Bool) (l:List α) (i:Nat):Int:=(fe (fun k=>(l[k]?).bind fun a=>if p a then some (k:Int) else none) l.length i).getD (-1)
theorem L9 {α:Type} {p:α->Bool} {l:List α} {i:Nat} (hi:i<l.length) (h:p l[i]=true):ix p l i=i:=by
 unfold ix;rw [fB (x:=(i:Int)) hi (by simp [hi,h])];rfl
theorem KO {α:Type} {p:α->Bool} {l:List α} {i:Nat} (hi:i<l.length) (h:p l[i]=false):ix p l i=ix p l (i+1):=by
 unfold ix;rw [gA hi (by simp [hi,h])]
theorem L8 {α:Type} {p:α->Bool} {l:List α}:ix p l l.length= -1:=by
 unfold ix;rw [jG];rfl
theorem Pa {α:Type} {p:α->Bool} {l:List α}:∀n i,n+i=l.length->decide (0<=ix p l i)=eA l p i
 | 0,i,h=>by
  have:i=l.length:=by omega
  subst this;rw [L8,IK];rfl
 | n+1,i,h=>by
  have hi:i<l.length:=by omega
  cases q:p l[i] with
  | true=>rw [L9 hi q,KW hi q];simp
  | false=>rw [KO hi q,IF hi q];exact Pa n (i+1) (by omega)
theorem SD {α:Type} {p:α->Bool} {l:List α}:decide (0<=ix p l 0)=l.any p:=by
 rw [Pa l.length 0 (by omega),Mo]
structure PrgS (p:Prg):Prop where
 n:p.name.length<2^40
 h:p.Xp.length<2^40
 hn:∀h∈p.Xp,h.name.length<2^40
 hf:∀h∈p.Xp,∀f∈h.Ya,f.name.length<2^40
 hl:∀h∈p.Xp,h.Ya.length<2^40
 m:p.Xo.length<2^40
 mn:∀f∈p.Xo,f.name.length<2^40
 r:p.Xm.length<2^40
 rn:∀r∈p.Xm,r.name.length<2^40
 a:p.Xy.length<2^40
 an:∀a∈p.Xy,a.name.length<2^40
 ap:∀a∈p.Xy,a.params.length<2^40
 apn:∀a∈p.Xy,∀f∈a.params,f.name.length<2^40
 ab:∀a∈p.Xy,a.body.length<2^40
 ai:∀a∈p.Xy,∀s∈a.body,s.index.length<2^40
 av:∀a∈p.Xy,∀s∈a.body,s.value.length<2^40
 t:p.Xn.length<2^40
 tn:∀t∈p.Xn,t.name.length<2^40
 tk:∀t∈p.Xn,t.keys.length<2^40
 ta:∀t∈p.Xn,t.Xy.length<2^40
 tg:∀t∈p.Xn,t.Yc.args.length<2^40
 s:p.Xx.length<2^40
 sn:∀s∈p.Xx,s.name.length<2^40
 se:∀s∈p.Xx,s.extract.length<2^40
 sc:∀s∈p.Xx,s.cases.length<2^40
 sv:∀s∈p.Xx,∀c∈s.cases,ok32 dO c.value/\ok32 dO c.Ye
 c:p.Yb.length<2^40
 co:∀x∈p.Yb,Xa.Ok dO x
 d:p.Xs.length<2^40
theorem GE {p:Prg} (o:p.Ok dO):PrgS p:=by
 obtain ⟨o0,o1,o2,o3,o4,o5,o6,o7,o8⟩:=o;have e:=CW;simp only [pD,okL,Xj.Ok,Fld.Ok,Xh.Ok,Action.Ok,Xg.Ok,Tbl.Ok,Xb.Ok,Xd.Ok,Xk.Ok] at o0 o1 o2 o3 o4 o5 o6 o7 o8;refine ⟨by omega,by omega,?_,?_,?_,by omega,?_,by omega,?_,by omega,?_,?_,?_,?_,?_,?_,by omega,?_,?_,?_,?_,by omega,?_,?_,?_,?_,by omega,o7.2,by omega⟩
 ·intro h hh;have:=(o1.2 h hh).1;omega
 ·intro h hh f hf;have:=((o1.2 h hh).2.2 f hf).1;omega
 ·intro h hh;have:=(o1.2 h hh).2.1;omega
 ·intro f hf;have:=(o2.2 f hf).1;omega
 ·intro r hr;have:=(o3.2 r hr).1;omega
 ·intro a ha;have:=(o4.2 a ha).1;omega
 ·intro a ha;have:=(o4.2 a ha).2.1.1;omega
 ·intro a ha f hf;have:=((o4.2 a ha).2.1.2 f hf).1;omega
 ·intro a ha;have:=(o4.2 a ha).2.2.1;omega
 ·intro a ha s hs;have:=((o4.2 a ha).2.2.2 s hs).2.2.2.2.1.1;omega
 ·intro a ha s hs;have:=((o4.2 a ha).2.2.2 s hs).2.2.2.2.2.1;omega
 ·intro t ht;have:=(o5.2 t ht).1;omega
 ·intro t ht;have:=(o5.2 t ht).2.1.1;omega
 ·intro t ht;have:=(o5.2 t ht).2.2.1.1;omega
 ·intro t ht;have:=(o5.2 t ht).2.2.2.1.2.1;omega
 ·intro s hs;have:=(o6.2 s hs).1;omega
 ·intro s hs;have:=(o6.2 s hs).2.1.1;omega
 ·intro s hs;have:=(o6.2 s hs).2.2.2.1.1;omega
 ·intro s hs c hc;have:=(o6.2 s hs).2.2.2.1.2 c hc;exact ⟨this.1,this.2.1⟩
theorem FieldRef.e (x:FieldRef):FieldRef.c x=[a8 x.header,a8 x.field]:=by simp [FieldRef.c]
def GV (ar:List Int) (ps:List Fld) (i:Nat):Option Int:=match ar[i]?,ps[i]? with
  | some v,some f=>if fits v f.Yd then none else some 9
  | _,_=>none
theorem Ej (p:Prg) (f:PrgS p) (c:Xb) (hc:c.args.length<2^40):aA Φ nG [.agg (Prg.c p),.agg (Xb.c c)]=some (.val (a8 (iC p c))):=by
 rw [aD rfl rfl];by_cases i0:c.Xz<0
 ·simp [mS,Prg.e,Xb.e,i0,iC,p6 i0]
 by_cases i1:(p.Xy.length:Int)<=c.Xz
 ·simp [mS,Prg.e,Xb.e,i0,i1,iC,p5 i1]
 obtain ⟨k,hk0⟩:∃k:Nat,c.Xz=k:=⟨c.Xz.toNat,by omega⟩;have hk:k<p.Xy.length:=by omega
 by_cases z:c.args.length=p.Xy[k].params.length
 rotate_left
 ·simp [mS,Prg.e,Xb.e,Action.e,hk0,hk,Qf.2 hk,iC,z]
 have hE:iC p c=errO (fe (GV c.args p.Xy[k].params) c.args.length 0):=by simp [iC,hk0,hk,z]<;>rfl
 rw [hE];simp [mS,Prg.e,Xb.e,Action.e,hk0,hk,Qf.2 hk,z];rw [<- z];refine iJ c.args.length (fun i e=>look 5 e=some (.slice 2 (p.Xy[k].params.map Fld.c))/\look 33 e=some (.slice 1 (c.args.map c32))/\look 34 e=some (a8 c.args.length)/\look 35 e=some (a8 i))
  (fun i=>some (Rt.val (a8 (errO (fe (GV c.args p.Xy[k].params) c.args.length i))))) ?_ ?_ 0 _ (Qc _) ?_
 ·rintro i e L hi hL ⟨h5,h33,h34,h35⟩ ih;have hw:=aL i (by omega);have hi2:i<p.Xy[k].params.length:=by omega
  have hf:=Ew c.args[i] p.Xy[k].params[i].Yd;cases y:fits c.args[i] p.Xy[k].params[i].Yd with
  | true=>
   rw [y] at hf;rw [gA hi (by simp [GV,hi,hi2,y])];simp [c_187_l0,Fld.e,c32,h5,h33,h34,h35,hi,hi2,hf,hw];exact ih _ ⟨by simp [h5],by simp [h33],by simp [h34],by simp⟩
  | false=>
   rw [y] at hf;rw [fB (x:=9) hi (by simp [GV,hi,hi2,y])];simp [c_187_l0,Fld.e,c32,h5,h33,h34,h35,hi,hi2,hf]
 ·rintro e L hL ⟨h5,h33,h34,h35⟩;rw [jG];simp [c_187_l0,c_187_k1,h34,h35,hL]
 ·simp [z]
@[simp] theorem Uq (O:List (Nat×AO)) (n id:Nat):L7 ⟨O,n⟩ (.map id)=match look id O with
  | some (.map es)=>some es
  | _=>none:=by simp only [L7,AH.get]<;>rfl
@[simp] theorem kdOk_i (k:IntKind) (x:Int):kdOk .i (.int k x)=true:=by simp [kdOk]
def setM (l:List Int):List (AV×AV):=l.map fun a=>(a8 a,.bool true)
theorem Do (k:Int):∀l:List Int,gV .i (a8 k) (setM l)=some (if l.contains k then some (.bool true) else none)
 | []=>by simp [setM,gV]
 | a::l=>by
  have ih:=Do k l;unfold setM at ih ⊢;by_cases h:k=a
  ·subst h;simp [gV]
  ·simp [gV,h,ih]
theorem Np (k:Int):∀l:List Int,l.contains k=false->putA .i (a8 k) (.bool true) (setM l)=some (setM (l++[k]))
 | [],_=>by simp [setM,putA]
 | a::l,h=>by
  simp only [List.contains_cons,BT,beq_eq_false_iff_ne,ne_eq] at h;have ih:=Np k l h.2;unfold setM at ih ⊢;simp [putA,h.1,ih]
theorem UZ (l:List Fld) (i:Int):aA Φ zV [.slice 2 (l.map Fld.c),a8 i]=some (.val (.agg (match at? l i with | some f=>Fld.c f | none=>[.str [],a8 0]))):=by
 rw [aD rfl rfl];by_cases i0:i<0
 ·simp [r9,i0,p6 i0]
 by_cases i1:(l.length:Int)<=i
 ·simp [r9,i0,i1,p5 i1]
 obtain ⟨k,rfl⟩:∃k:Nat,i=k:=⟨i.toNat,by omega⟩;have hk:k<l.length:=by omega
 simp [r9,hk,Qf.2 hk,Fld.e]
theorem V0 (l:List Xj) (i:Int):aA Φ A4 [.slice 2 (l.map Xj.c),a8 i]=some (.val (.agg (match at? l i with | some f=>Xj.c f | none=>[.str [],.slice 2 []]))):=by
 rw [aD rfl rfl];by_cases i0:i<0
 ·simp [rD,i0,p6 i0]
 by_cases i1:(l.length:Int)<=i
 ·simp [rD,i0,i1,p5 i1]
 obtain ⟨k,rfl⟩:∃k:Nat,i=k:=⟨i.toNat,by omega⟩;have hk:k<l.length:=by omega
 simp [rD,hk,Qf.2 hk,Xj.e]
def GW (p:Prg) (h:Int):List Fld:=((if h= -1 then some p.Xo else (at? p.Xp h).map (·.Ya))).getD []
theorem qz1 (p:Prg) (h:Int):aA Φ zW [.agg (Prg.c p),a8 h]=some (.val (.slice 2 ((GW p h).map Fld.c))):=by
 rw [aD rfl rfl];by_cases hm:h= -1
 ·simp [rA,Prg.e,hm,GW]
 have ha:=V0 p.Xp h;cases q:at? p.Xp h with
 | none=>
  rw [q] at ha;simp [rA,Prg.e,hm,GW,ha,q]
 | some x=>
  rw [q] at ha;simp only [Xj.e] at ha;simp [rA,Prg.e,hm,GW,ha,q]
theorem qzs (p:Prg) (h i:Int):decl p h i=(at? (GW p h) i).map (·.Yd):=by
 unfold decl GW;cases (if h= -1 then some p.Xo else (at? p.Xp h).map (·.Ya)) with
 | some l=>rfl
 | none=>
  have:at? ([]:List Fld) i=none:=by unfold at?;split<;>simp
  simp [this]
theorem NB (p:Prg) (h i:Int):aA Φ sF [.agg (Prg.c p),.agg [a8 h,a8 i]]=some (.val (a8 (wid p h i))):=by
 rw [aD rfl rfl];have hf:=qz1 p h;have ha:=UZ (GW p h) i;have hd:=qzs p h i;simp only [Prg.e] at hf;cases q:at? (GW p h) i with
 | none=>
  rw [q] at ha hd;have hm:=KQ 0;rw [show fC 0=0 from rfl] at hm;simp [qW,Prg.e,hf,ha,hm,wid,hd]
 | some f=>
  rw [q] at ha hd;simp only [Fld.e] at ha;have hm:=KQ f.Yd;cases w:wBad f.Yd with
  | true=>
   rw [show fC f.Yd=0 by simp [fC,w]] at hm;simp [qW,Prg.e,hf,ha,hm,wid,hd,w]
  | false=>
   have:¬fC f.Yd=0:=by
    obtain ⟨w1,w2⟩:=wBad_false.1 w;have:(2:Int)^1<=2^f.Yd.toNat:=by
     have:=Nat.pow_le_pow_right (n:=2) (by omega) (show 1<=f.Yd.toNat by omega)
     exact_mod_cast this
    simp only [fC,w];simp;omega
   simp [qW,Prg.e,hf,ha,hm,wid,hd,w,this]
theorem UR (p:Prg) (h i:Int):0<=wid p h i/\wid p h i<=32:=by
 unfold wid;split
 ·rename_i w _;cases q:wBad w with
  | true=>simp
  | false=>have:=wBad_false.1 q;simp;omega
 ·simp
def keyG (p:Prg) (x:Tbl) (i:Nat):Option (Int×Int):=(x.keys[i]?).bind fun k=>
 if wid p k.field.header k.field.field=0 then some ((i:Int),8) else if k.kind=1\/k.kind=2\/k.kind=3 then none else some ((i:Int),11)
def tJ (p:Prg) (x:Tbl):Int×Int:=if 1<x.keys.countP (fun k=>decide (k.kind=2)) then (-2,7) else if 64<(kWid p x).sum then (-2,10) else (0,0)
theorem QM (p:Prg) (x:Tbl):∀i,i<=x.keys.length->0<=((kWid p x).take i).sum/\((kWid p x).take i).sum<=32*i:=by
 intro i
 induction i with
 | zero=>intro _;simp
 | succ i ih=>
  intro hi;have:=ih (by omega);have hl:i<(kWid p x).length:=by simp [kWid];omega
  rw [Qh hl,List.sum_append,List.sum_singleton];have hr:=UR p x.keys[i].field.header x.keys[i].field.field;have he:(kWid p x)[i]=wid p x.keys[i].field.header x.keys[i].field.field:=by simp [kWid]
  rw [he];omega
theorem VP (p:Prg) (x:Tbl) (hl:x.keys.length<2^40):aA Φ zD [.agg (Prg.c p),.agg (Tbl.c x)]=some (.val (.tup [a8 (tI p x).1,a8 (tI p x).2])):=by
 rw [aD rfl rfl];have hE:tI p x=(fe (keyG p x) x.keys.length 0).getD (tJ p x):=by
  unfold tI keyE;show (match fe (keyG p x) x.keys.length 0 with | some e=>e | none=>tJ p x)=_;cases fe (keyG p x) x.keys.length 0<;>rfl
 rw [hE];simp [EQ,Prg.e,Tbl.e];refine cZ x.keys.length (fun _=>[]) 0 (fun i e=>look 2 e=some (.iptr 9 [Prg.c p] 0 0)/\look 6 e=some (a8 ((x.keys.take i).countP fun k=>decide (k.kind=2):Nat))/\look 7 e=some (a8 ((kWid p x).take i).sum)/\look 12 e=some (.slice 3 (x.keys.map Xl.c))/\look 13 e=some (a8 x.keys.length)/\look 14 e=some (a8 i))
  (fun i=>some (Rt.val (.tup [a8 ((fe (keyG p x) x.keys.length i).getD (tJ p x)).1,a8 ((fe (keyG p x) x.keys.length i).getD (tJ p x)).2]))) ?_ ?_ 0 _ 0 (Qc _) (Qb _) ?_
 ·rintro i e n L hi hL _ ⟨h2,h6,h7,h12,h13,h14⟩ ih;have hw:=aL i (by omega);have hv:=NB p x.keys[i].field.header x.keys[i].field.field;simp only [Prg.e] at hv;rw [Prg.e] at h2;by_cases z:wid p x.keys[i].field.header x.keys[i].field.field=0
  ·rw [z] at hv;rw [fB (x:=((i:Int),8)) hi (by simp [keyG,hi,z])];simp [c_235_l0,Xl.e,h2,h12,h13,h14,hi,hv]
  have hs:=QM p x (i+1) (by omega);have hs0:=QM p x i (by omega);have he:((kWid p x).take (i+1)).sum=((kWid p x).take i).sum+wid p x.keys[i].field.header x.keys[i].field.field:=by
   have hl:i<(kWid p x).length:=by simp [kWid];omega
   rw [Qh hl,List.sum_append,List.sum_singleton];congr 1;simp [kWid]
  have hw7:IntKind.wrap .i64 (((kWid p x).take i).sum+wid p x.keys[i].field.header x.keys[i].field.field)=((kWid p x).take (i+1)).sum:=by rw [<- he];exact fG (by omega) (by omega)
  have hc:(x.keys.take (i+1)).countP (fun k=>decide (k.kind=2))=(x.keys.take i).countP (fun k=>decide (k.kind=2))+if x.keys[i].kind=2 then 1 else 0:=by
   rw [Qh hi,List.countP_append];congr 1;simp [List.countP_cons]
  have hcl:(x.keys.take i).countP (fun k=>decide (k.kind=2))<=i:=by
   have:=List.countP_le_length (l:=x.keys.take i) (p:=fun k=>decide (k.kind=2));simp at this;omega
  have hw6:IntKind.wrap .i64 (((x.keys.take i).countP (fun k=>decide (k.kind=2)):Nat)+1:Int)=(((x.keys.take i).countP (fun k=>decide (k.kind=2))+1:Nat):Int):=fG (by omega) (by omega);by_cases k2:x.keys[i].kind=2
  ·rw [gA hi (by simp [keyG,hi,z,k2])];rw [aE k2] at hc;simp [c_235_l0,Xl.e,h2,h6,h7,h12,h13,h14,hi,hv,z,k2,hw7,hw6,hw];exact ih _ _ (Qc _) ⟨by simp [h2,Prg.e],by simp [hc],by simp,by simp [h12],by simp [h13],by simp⟩
  rw [QA k2] at hc;by_cases k1:x.keys[i].kind=1
  ·rw [gA hi (by simp [keyG,hi,z,k1])];simp [c_235_l0,Xl.e,h2,h7,h12,h13,h14,hi,hv,z,k1,hw7,hw];exact ih _ _ (Qc _) ⟨by simp [h2,Prg.e],by simp [hc,h6],by simp,by simp [h12],by simp [h13],by simp⟩
  by_cases k3:x.keys[i].kind=3
  ·rw [gA hi (by simp [keyG,hi,z,k3])];simp [c_235_l0,Xl.e,h2,h7,h12,h13,h14,hi,hv,z,k3,hw7,hw];exact ih _ _ (Qc _) ⟨by simp [h2,Prg.e],by simp [hc,h6],by simp,by simp [h12],by simp [h13],by simp⟩
  ·rw [fB (x:=((i:Int),11)) hi (by simp [keyG,hi,z,k1,k2,k3])];simp [c_235_l0,Xl.e,h2,h12,h13,h14,hi,hv,z,k1,k2,k3]
 ·rintro e n L hL _ ⟨h2,h6,h7,h12,h13,h14⟩;rw [jG];have ht:(kWid p x).take x.keys.length=kWid p x:=by rw [Qo];simp [kWid]
  rw [ht] at h7;rw [iI] at h6;by_cases y1:1<x.keys.countP (fun k=>decide (k.kind=2))
  ·simp [c_235_l0,c_235_k1,h6,h13,h14,hL,tJ,y1]
  by_cases y2:64<(kWid p x).sum
  ·simp [c_235_l0,c_235_k1,h6,h7,h13,h14,hL,tJ,y1,y2]
  ·simp [c_235_l0,c_235_k1,h6,h7,h13,h14,hL,tJ,y1,y2]
 ·simp [Prg.e]
def uV (p:Prg) (x:Tbl) (i:Nat):Option Int:=(x.Xy[i]?).bind fun a=>if a<0\/(p.Xy.length:Int)<=a then some (8:Int) else if (x.Xy.take i).contains a then some 7 else none
def vX (p:Prg) (x:Tbl):Int:=if x.Xy.contains x.Yc.Xz then iC p x.Yc else 8
theorem Nu (p:Prg) (x:Tbl):GR p x=(fe (uV p x) x.Xy.length 0).getD (vX p x):=by
 unfold GR;show (match fe (uV p x) x.Xy.length 0 with | some e=>e | none=>vX p x)=_;cases fe (uV p x) x.Xy.length 0<;>rfl
theorem W7 (p:Prg) (f:PrgS p) (x:Tbl) (hl:x.Xy.length<2^40) (hg:x.Yc.args.length<2^40):aA Φ zE [.agg (Prg.c p),.agg (Tbl.c x)]=some (.val (a8 (GR p x))):=by
 rw [aD rfl rfl,Nu];simp [ER,Prg.e,Tbl.e];refine GD x.Xy.length (fun i e H=>look 2 e=some (.iptr 9 [Prg.c p] 0 0)/\look 3 e=some (.iptr 6 [Tbl.c x] 0 0)/\look 5 e=some (.map 0)/\look 10 e=some (.slice 1 (x.Xy.map cI))/\look 11 e=some (a8 x.Xy.length)/\look 12 e=some (a8 i)/\
   H=⟨[(0,.map (setM (x.Xy.take i)))],1⟩)
  (fun i=>some (Rt.val (a8 ((fe (uV p x) x.Xy.length i).getD (vX p x))))) ?_ ?_ 0 _ _ (Qc _) ?_
 ·rintro i e _ L hi hL ⟨h2,h3,h5,h10,h11,h12,rfl⟩ ih;have hw:=aL i (by omega);rw [Prg.e] at h2;by_cases z0:x.Xy[i]<0
  ·rw [fB (x:=8) hi (by simp [uV,hi,z0])];simp [c_236_l0,cI,h10,h11,h12,hi,z0]
  by_cases z1:(p.Xy.length:Int)<=x.Xy[i]
  ·rw [fB (x:=8) hi (by simp [uV,hi,z0,z1])];simp [c_236_l0,cI,h2,h10,h11,h12,hi,z0,z1]
  have hfnd:=Do x.Xy[i] (x.Xy.take i);cases q:(x.Xy.take i).contains x.Xy[i] with
  | true=>
   rw [q] at hfnd;rw [fB (x:=7) hi (by simp only [uV,Qa hi,qG];rw [QA (by omega),q];rfl)];simp [c_236_l0,cI,h2,h5,h10,h11,h12,hi,z0,z1,hfnd]
  | false=>
   rw [q] at hfnd;have hput:=Np x.Xy[i] (x.Xy.take i) q;rw [<- Qh hi] at hput;rw [gA hi (by simp only [uV,Qa hi,qG];rw [QA (by omega),q];rfl)];simp [c_236_l0,cI,h2,h5,h10,h11,h12,hi,z0,z1,hfnd,hput,hw];exact ih _ _ ⟨by simp [h2,Prg.e],by simp [h3],by simp [h5],by simp [h10],by simp [h11],by simp,rfl⟩
 ·rintro e _ L hL ⟨h2,h3,h5,h10,h11,h12,rfl⟩;rw [jG,iI];have hfnd:=Do x.Yc.Xz x.Xy;have hc:=Ej p f x.Yc hg;simp only [Prg.e,Xb.e] at hc;rw [Prg.e] at h2;rw [Tbl.e] at h3;cases q:x.Xy.contains x.Yc.Xz with
  | true=>
   rw [q] at hfnd;rw [show vX p x=iC p x.Yc by simp only [vX,q];rfl];simp [c_236_l0,c_236_k1,h2,h3,h5,h11,h12,hL,hfnd,hc]
  | false=>
   rw [q] at hfnd;rw [show vX p x=8 by simp only [vX,q];rfl];simp [c_236_l0,c_236_k1,h3,h5,h11,h12,hL,hfnd]
 ·simp [Prg.e,Tbl.e,setM]
theorem Ol (p:Prg) (f:PrgS p) (t:Int):aA Φ rR [.agg (Prg.c p),a8 t]=some (.val (.tup [a8 (tblE p t).1,a8 (tblE p t).2])):=by
 rw [aD rfl rfl];by_cases i0:t<0
 ·simp [eP,Prg.e,i0,tblE,p6 i0]
 by_cases i1:(p.Xn.length:Int)<=t
 ·simp [eP,Prg.e,i0,i1,tblE,p5 i1]
 obtain ⟨k,rfl⟩:∃k:Nat,t=k:=⟨t.toNat,by omega⟩;have hk:k<p.Xn.length:=by omega
 have hm:=Qd hk;have n1:=qx4 p.Xn[k].name (f.tn _ hm);have h1:=VP p p.Xn[k] (f.tk _ hm);have h2:=W7 p f p.Xn[k] (f.ta _ hm) (f.tg _ hm);simp only [Prg.e,Tbl.e] at h1 h2;cases q1:idS p.Xn[k].name with
 | false=>rw [q1] at n1;simp [eP,Prg.e,Tbl.e,hk,Qf.2 hk,n1,tblE,q1]
 | true=>
 rw [q1] at n1;by_cases z0:6<p.Xn[k].keys.length
 ·simp [eP,Prg.e,Tbl.e,hk,Qf.2 hk,n1,tblE,q1,z0]
 by_cases z1:16<p.Xn[k].Xy.length
 ·simp [eP,Prg.e,Tbl.e,hk,Qf.2 hk,n1,tblE,q1,z0,z1]
 by_cases z2:p.Xn[k].size<1
 ·simp [eP,Prg.e,Tbl.e,hk,Qf.2 hk,n1,tblE,q1,z0,z1,z2]
 by_cases z3:256<p.Xn[k].size
 ·simp [eP,Prg.e,Tbl.e,hk,Qf.2 hk,n1,tblE,q1,z0,z1,z2,z3]
 by_cases y1:(tI p p.Xn[k]).2=0
 rotate_left
 ·simp [eP,Prg.e,Tbl.e,hk,Qf.2 hk,n1,tblE,q1,z0,z1,z2,z3,h1,y1]
 rw [y1] at h1;by_cases y2:GR p p.Xn[k]=0
 ·rw [y2] at h2;simp [eP,Prg.e,Tbl.e,hk,Qf.2 hk,n1,tblE,q1,z0,z1,z2,z3,h1,y1,h2,y2]
 ·simp [eP,Prg.e,Tbl.e,hk,Qf.2 hk,n1,tblE,q1,z0,z1,z2,z3,h1,y1,h2,y2]
theorem qzg (x y:BitVec 32):x&&& ~~~y=0#32↔x&&& y=x:=by
 constructor
 ·intro h;apply BitVec.eq_of_getLsbD_eq;intro i hi;have:=congrArg (·.getLsbD i) h;simp [hi] at this ⊢;exact this
 ·intro h;apply BitVec.eq_of_getLsbD_eq;intro i hi;have:=congrArg (·.getLsbD i) h;simp [hi] at this ⊢;exact this
theorem Gy {n:Int} (h1:0<=n) (h2:n<4294967296):IntKind.wrap .u32 n=n:=by
 have e1:(2:Int)^32=4294967296:=rfl;simp only [IntKind.wrap,IntKind.bits,IntKind.signed,Bool.false_and,e1];rw [QA (by simp)];omega
theorem S3 {v:Int} (h:ok32 0 v):BitVec.ofInt 32 v=BitVec.ofNat 32 v.toNat:=by
 obtain ⟨h1,h2⟩:=h;apply BitVec.eq_of_toNat_eq;simp;omega
theorem qtc {v m:Int} (hv:ok32 0 v) (hm:ok32 0 m):KM .u32 v m=0↔v.toNat&&& m.toNat=v.toNat:=by
 have hv2:=hv.2;have hm2:=hm.2;unfold KM;show IntKind.wrap .u32 ((BitVec.ofInt 32 v&&& ~~~BitVec.ofInt 32 m).toNat:Int)=0↔_;have hlt:=(BitVec.ofInt 32 v&&& ~~~BitVec.ofInt 32 m).isLt;rw [Gy (by omega) (by omega)];rw [show (((BitVec.ofInt 32 v&&& ~~~BitVec.ofInt 32 m).toNat:Int)=0)↔(BitVec.ofInt 32 v&&& ~~~BitVec.ofInt 32 m)=0#32 by
  rw [<- BitVec.toNat_inj];simp only [LO];omega]
 rw [qzg,S3 hv,S3 hm,<- BitVec.toNat_inj,BitVec.toNat_and,LO,LO,JR (by omega),JR (by omega)]
theorem TO {v m:Int} (hv:ok32 0 v) (hm:ok32 0 m):iand .u32 v m=v↔v.toNat&&& m.toNat=v.toNat:=by
 have hv1:=hv.1;have hv2:=hv.2;have hm2:=hm.2;unfold iand;show IntKind.wrap .u32 ((BitVec.ofInt 32 v&&& BitVec.ofInt 32 m).toNat:Int)=v↔_;have hlt:=(BitVec.ofInt 32 v&&& BitVec.ofInt 32 m).isLt;rw [Gy (by omega) (by omega),S3 hv,S3 hm,BitVec.toNat_and,LO,LO,JR (by omega),JR (by omega)];omega
theorem Jc {α β:Type} [BEq β] [LawfulBEq β] [DecidableEq β] (f:α->β) (a:β):∀l:List α,(l.map f).contains a=l.any fun y=>decide (f y=a)
 | []=>by simp
 | x::l=>by
  have ih:=Jc f a l;simp only [w9,List.contains_cons,BV,ih];congr 1;by_cases h:a=f x
  ·subst h;simp
  ·have h2:¬f x=a:=fun e=>h e.symm
   simp [h,h2]
@[simp] theorem Xa.kind_mk (k t:Int) (c:List Xe) (a b:List Xa):(Xa.mk k t c a b).kind=k:=by simp [Xa.kind]
@[simp] theorem Xa.table_mk (k t:Int) (c:List Xe) (a b:List Xa):(Xa.mk k t c a b).table=t:=by simp [Xa.table]
@[simp] theorem Xa.cond_mk (k t:Int) (c:List Xe) (a b:List Xa):(Xa.mk k t c a b).cond=c:=by simp [Xa.cond]
@[simp] theorem Xa.thn_mk (k t:Int) (c:List Xe) (a b:List Xa):(Xa.mk k t c a b).thn=a:=by simp [Xa.thn]
@[simp] theorem Xa.els_mk (k t:Int) (c:List Xe) (a b:List Xa):(Xa.mk k t c a b).els=b:=by simp [Xa.els]
theorem Pj (x:Xa):∃k t c a b,x= .mk k t c a b:=by
 cases x with
 | mk k t c a b=>exact ⟨k,t,c,a,b,rfl⟩
theorem VS {Φ:FuncId->Option AFun} {β:Type} {fin:Option (Ex×St)->Option β} (N:Nat) (Inv:Nat->Env->AH->Prop) (Q:Option β->Prop) {b:Xv} {K:List Fr}
  (step:∀i e h L,i<N->(∀j s,go Φ fin L (.exit j) s=go Φ fin K (.exit j) s)->Inv i e h->(∀e' h',Inv (i+1) e' h'->Q (go Φ fin L .normal ⟨e',h'⟩))->Q (go Φ fin (.c b::L) .normal ⟨e,h⟩))
  (last:∀e h L,(∀j s,go Φ fin L (.exit j) s=go Φ fin K (.exit j) s)->Inv N e h->Q (go Φ fin (.c b::L) .normal ⟨e,h⟩)):
  ∀i e h,i<=N->Inv i e h->Q (go Φ fin (.c (.loop b)::K) .normal ⟨e,h⟩):=by
 have key:∀n i e h,N - i<=n->i<=N->Inv i e h->Q (go Φ fin (.c (.loop b)::K) .normal ⟨e,h⟩):=by
  intro n
  induction n with
  | zero=>
   intro i e h hn hi hv;have:i=N:=by omega
   subst this;rw [fA];exact last e h _ (fun j s=>by simp) hv
  | succ n ih=>
   intro i e h hn hi hv;rcases Qv i N with hlt | hge
   ·rw [fA];exact step i e h _ hlt (fun j s=>by simp) hv fun e' h' hv'=>ih (i+1) e' h' (by omega) (by omega) hv'
   ·have:i=N:=by omega
    subst this;rw [fA];exact last e h _ (fun j s=>by simp) hv
 intro i e h hi hv;exact key (N - i) i e h (Qb _) hi hv
structure Wk where
 e:Int
 n:Int
 us:List Int
theorem Fld.eq_iff (a b:Fld):a=b↔a.name=b.name/\a.Yd=b.Yd:=Fld.ext_iff
theorem GC {Φ:FuncId->Option AFun} (c:Xv) (s:St):dP Φ c s=go Φ (fun o=>o) [.c c] .normal s:=by
 rw [go_c];cases dP Φ c s with
 | none=>rfl
 | some p=>rfl
def dgC (d:Dg):List AV:=[a8 d.1,a8 d.2.1,a8 d.2.2.1,a8 d.2.2.2]
theorem Fc (c:Int):aA Φ sO [.int .u8 c]=some (.val (.bool (letC c))):=by
 rw [aD rfl rfl];by_cases h1:97<=c<;>by_cases h2:c<=122<;>by_cases h3:65<=c<;>simp [F2,letC,h1,h2,h3]
theorem Pp (c:Int):aA Φ zL [.int .u8 c]=some (.val (.bool (digI c))):=by
 rw [aD rfl rfl];by_cases h1:48<=c<;>simp [F3,digI,h1]
theorem U3 (s:List UInt8) (hs:s.length<2^40):aA Φ yX [.str s]=some (.val (.bool (idS s))):=by
 rw [aD rfl rfl];by_cases h0:s.length=0
 ·have:s=[]:=Qg h0;subst this;simp [mT,idS]
 have hp:0<s.length:=by omega
 have hne:¬s=[]:=by intro h;subst h;simp at h0
 rw [Oy hp];by_cases h16:16<s.length
 ·simp [mT,hne,h16,Qf.2 h16]
 have hl:=Fc (s[0].toNat:Int);cases q:letC (s[0].toNat:Int) with
 | false=>
  rw [q] at hl;simp [mT,hne,hp,h16,hl]
 | true=>
  rw [q] at hl;generalize hX:(decide (s.length<=16)&&(true&&s.all fun b=>idC b.toNat))=X;simp [mT,hne,hp,h16,hl];refine (D4 s (fun b=> !idC b.toNat) (some (Rt.val (.bool false))) (some (Rt.val (.bool true)))
   (fun i e H=>look 0 e=some (.str s)/\look 3 e=some (a8 i)/\H=⟨[],0⟩) ?_ ?_ ?_ _ _ ?_).trans ?_
  ·rintro i e _ L hi hL ⟨h0,h3,rfl⟩ hb;have g1:=Fc (s[i].toNat:Int);have g2:=Pp (s[i].toNat:Int);cases z1:letC (s[i].toNat:Int) with
   | true=>simp [idC,z1] at hb
   | false=>
    cases z2:digI (s[i].toNat:Int) with
    | true=>simp [idC,z1,z2] at hb
    | false=>
     rw [z1] at g1;rw [z2] at g2;simp only [idC,z1,z2,B6,QB,decide_eq_false_iff_not] at hb;simp [c_206_l0,h0,h3,hi,g1,g2,hb]
  ·rintro i e _ L X hi hL ⟨h0,h3,rfl⟩ hb ih;have hw:=aL i (by omega);have g1:=Fc (s[i].toNat:Int);have g2:=Pp (s[i].toNat:Int);cases z1:letC (s[i].toNat:Int) with
   | true=>
    rw [z1] at g1;simp [c_206_l0,h0,h3,hi,g1,hw];exact ih _ _ ⟨by simp [h0],by simp,rfl⟩
   | false=>
    rw [z1] at g1;cases z2:digI (s[i].toNat:Int) with
    | true=>
     rw [z2] at g2;simp [c_206_l0,h0,h3,hi,g1,g2,hw];exact ih _ _ ⟨by simp [h0],by simp,rfl⟩
    | false=>
     rw [z2] at g2;simp only [idC,z1,z2,B6,Bool.not_eq_false',decide_eq_true_eq] at hb;rw [hb] at g1 g2;simp [c_206_l0,h0,h3,hi,g1,g2,hb,hw];exact ih _ _ ⟨by simp [h0],by simp,rfl⟩
  ·rintro e _ L hL ⟨h0,h3,rfl⟩;simp [c_206_l0,c_206_k1,h0,h3,hL]
  ·simp
  ·rw [<- hX];have:(s.any fun b=> !idC b.toNat)= !(s.all fun b=>idC b.toNat):=by
    rw [List.not_all_eq_any_not]
   rw [this];have h16':decide (s.length<=16)=true:=by simpa using h16
   rw [h16'];cases s.all fun b=>idC b.toNat<;>rfl
theorem GL {n:Int} (h1:0<=n) (h2:n<18446744073709551616):IntKind.wrap .u64 n=n:=by
 have e1:(2:Int)^64=18446744073709551616:=rfl;simp only [IntKind.wrap,IntKind.bits,IntKind.signed,Bool.false_and,e1];rw [QA (by simp)];omega
theorem S5 {i:Nat} (h:i<63):IntKind.wrap .u64 (2*2^i)=2^(i+1):=by
 have h1:(2:Int)^(i+1)=2*2^i:=by rw [Int.pow_succ];omega
 have h2:(2:Int)^i<=2^62:=by
  have:=Nat.pow_le_pow_right (n:=2) (by omega) (show i<=62 by omega)
  exact_mod_cast this
 have h0:(0:Int)<2^i:=by
  have:=Nat.pow_pos (a:=2) (n:=i) (by omega)
  exact_mod_cast this
 have h3:(2:Int)^62=4611686018427387904:=rfl;rw [h1];exact GL (by omega) (by omega)
theorem QX (w:Int):aA Φ kZ [a8 w]=some (.val (.bool (!wBad w))):=by
 rw [aD rfl rfl];by_cases h1:w<1
 ·simp [qX,wBad,h1,Int.not_le.2 h1]
 ·by_cases h2:32<w
  ·simp [qX,wBad,h1,Int.not_lt.1 h1,h2,Int.not_le.2 h2]
  ·simp [qX,wBad,h1,Int.not_lt.1 h1,h2,Int.not_lt.1 h2]
theorem RD (n:Nat) (hn:n<63):aA Φ l6 [a8 n]=some (.val (.int .u64 (2^n))):=by
 rw [aD rfl rfl];simp [F6];refine (iJ n (fun i e=>look 0 e=some (a8 n)/\look 3 e=some (.int .u64 (2^i))/\look 4 e=some (a8 i)) (fun i=>some (Rt.val (.int .u64 (2^n)))) ?_ ?_ 0 _ (Qc _) ?_).trans (by simp)
 ·rintro i e L hi hL ⟨h0,h3,h4⟩ ih;have hw:=aL i (by omega);have hp:=S5 (i:=i) (by omega);simp [c_286_l0,h0,h3,h4,hi,hw,hp];exact ih _ ⟨by simp [h0],by simp,by simp⟩
 ·rintro e L hL ⟨h0,h3,h4⟩;simp [c_286_l0,c_286_k1,h0,h3,h4,hL]
 ·simp
theorem RE (v w:Int) (hv:ok32 0 v):aA Φ kV [.int .u32 v,a8 w]=some (.val (.bool (fits v w))):=by
 rw [aD rfl rfl];have h1:=QX w;have hv1:=hv.1;have hv2:=hv.2;have hc:IntKind.wrap .u64 v=v:=GL (by omega) (by omega);cases q:wBad w with
 | true=>
  rw [q] at h1;simp [wW,h1,fits,q]
 | false=>
  rw [q] at h1;obtain ⟨w1,w2⟩:=wBad_false.1 q;obtain ⟨k,rfl⟩:∃k:Nat,w=k:=⟨w.toNat,by omega⟩;have h2:=RD k (by omega);simp [wW,h1,h2,hc,fits,q]
theorem Dc (v:Int) (hv:ok32 0 v) (k:Nat) (hk:k<=32):aA Φ nD [.int .u32 v,a8 k]=some (.val (.bool (decide (v<2^k)))):=by
 rw [aD rfl rfl];have hv1:=hv.1;have hv2:=hv.2;have hc:IntKind.wrap .u64 v=v:=GL (by omega) (by omega);generalize hX:decide (v<2^k)=X;simp [E8];refine (iJ k (fun i e=>look 0 e=some (.int .u32 v)/\look 1 e=some (a8 k)/\look 5 e=some (.int .u64 (2^i))/\look 6 e=some (a8 i)) (fun i=>some (Rt.val (.bool X))) ?_ ?_ 0 _ (Qc _) ?_).trans (by simp)
 ·rintro i e L hi hL ⟨h0,h1,h5,h6⟩ ih;have hw:=aL i (by omega);have hp:=S5 (i:=i) (by omega);simp [c_150_l0,h1,h5,h6,hi,hw,hp];exact ih _ ⟨by simp [h0],by simp [h1],by simp,by simp⟩
 ·rintro e L hL ⟨h0,h1,h5,h6⟩;simp [c_150_l0,c_150_k1,h0,h1,h5,h6,hL,hc,<- hX]
 ·simp
theorem Ea (p:Prg) (h i:Int):aA Φ nI [.agg (Prg.c p),.agg [a8 h,a8 i]]=some (.val (a8 (wid p h i))):=by
 rw [aD rfl rfl];have tail:∀(l:List Fld),(∀j:Int,decl p h j=(at? l j).map (·.Yd))->(i<0/\wid p h i=0)\/(¬i<0/\(l.length:Int)<=i/\wid p h i=0)\/∃k:Nat,∃hk:k<l.length,i=k/\((l[k].Yd<1/\wid p h i=0)\/(¬l[k].Yd<1/\32<l[k].Yd/\wid p h i=0)\/(¬l[k].Yd<1/\¬32<l[k].Yd/\wid p h i=l[k].Yd)):=by
  intro l hd;by_cases i0:i<0
  ·exact .inl ⟨i0,by simp [wid,hd,p6 i0]⟩
  by_cases i1:(l.length:Int)<=i
  ·exact .inr (.inl ⟨i0,i1,by simp [wid,hd,p5 i1]⟩)
  obtain ⟨k,hk⟩:∃k:Nat,i=k:=⟨i.toNat,by omega⟩;refine .inr (.inr ⟨k,by omega,hk,?_⟩);have hk2:k<l.length:=by omega
  have e:wid p h i=if wBad l[k].Yd then 0 else l[k].Yd:=by simp [wid,hd,hk,hk2]
  by_cases w1:l[k].Yd<1
  ·exact .inl ⟨w1,by rw [e];simp [wBad,w1]⟩
  by_cases w2:32<l[k].Yd
  ·exact .inr (.inl ⟨w1,w2,by rw [e];simp [wBad,w2]⟩)
  ·exact .inr (.inr ⟨w1,w2,by rw [e];simp [wBad,w1,w2]⟩)
 by_cases h0:0<=h
 ·have hm:¬h= -1:=by omega
  have hm2:¬h< -1:=by omega
  by_cases h1:(p.Xp.length:Int)<=h
  ·rw [show wid p h i=0 by simp [wid,decl,hm,p5 h1]];simp [dK,Prg.e,h0,h1]
  obtain ⟨m,rfl⟩:∃k:Nat,h=k:=⟨h.toNat,by omega⟩;have hk:m<p.Xp.length:=by omega
  rcases tail p.Xp[m].Ya (by intro j;simp [decl,hm,hk]) with ⟨i0,e⟩ | ⟨i0,i1,e⟩ | ⟨k,hk2,rfl,⟨w1,e⟩ | ⟨w1,w2,e⟩ | ⟨w1,w2,e⟩⟩
  ·rw [e];simp [dK,Prg.e,Xj.e,hk,Qf.2 hk,hm2,i0]
  ·rw [e];simp [dK,Prg.e,Xj.e,hk,Qf.2 hk,hm2,i0,i1]
  ·rw [e];simp [dK,Prg.e,Xj.e,Fld.e,hk,Qf.2 hk,hm2,hk2,Qf.2 hk2,w1]
  ·rw [e];simp [dK,Prg.e,Xj.e,Fld.e,hk,Qf.2 hk,hm2,hk2,Qf.2 hk2,w1,w2]
  ·rw [e];simp [dK,Prg.e,Xj.e,Fld.e,hk,Qf.2 hk,hm2,hk2,Qf.2 hk2,w1,w2]
 by_cases hm:h= -1
 ·subst hm;rcases tail p.Xo (by intro j;simp [decl]) with ⟨i0,e⟩ | ⟨i0,i1,e⟩ | ⟨k,hk2,rfl,⟨w1,e⟩ | ⟨w1,w2,e⟩ | ⟨w1,w2,e⟩⟩
  ·rw [e];simp [dK,Prg.e,i0]
  ·rw [e];simp [dK,Prg.e,i0,i1]
  ·rw [e];simp [dK,Prg.e,Fld.e,hk2,Qf.2 hk2,w1]
  ·rw [e];simp [dK,Prg.e,Fld.e,hk2,Qf.2 hk2,w1,w2]
  ·rw [e];simp [dK,Prg.e,Fld.e,hk2,Qf.2 hk2,w1,w2]
 ·have hm2:h< -1:=by omega
  rw [show wid p h i=0 by simp [wid,decl,hm,p6 (show h<0 by omega)]];simp [dK,Prg.e,h0,hm2]
theorem Lz (p:Prg) (h i:Int):aA Φ sP [.agg (Prg.c p),.agg [a8 h,a8 i]]=some (.val (a8 (wid p h i))):=by
 rw [aD rfl rfl];have tail:∀(l:List Fld),(∀j:Int,decl p h j=(at? l j).map (·.Yd))->(i<0/\wid p h i=0)\/(¬i<0/\(l.length:Int)<=i/\wid p h i=0)\/∃k:Nat,∃hk:k<l.length,i=k/\((l[k].Yd<1/\wid p h i=0)\/(¬l[k].Yd<1/\32<l[k].Yd/\wid p h i=0)\/(¬l[k].Yd<1/\¬32<l[k].Yd/\wid p h i=l[k].Yd)):=by
  intro l hd;by_cases i0:i<0
  ·exact .inl ⟨i0,by simp [wid,hd,p6 i0]⟩
  by_cases i1:(l.length:Int)<=i
  ·exact .inr (.inl ⟨i0,i1,by simp [wid,hd,p5 i1]⟩)
  obtain ⟨k,hk⟩:∃k:Nat,i=k:=⟨i.toNat,by omega⟩;refine .inr (.inr ⟨k,by omega,hk,?_⟩);have hk2:k<l.length:=by omega
  have e:wid p h i=if wBad l[k].Yd then 0 else l[k].Yd:=by simp [wid,hd,hk,hk2]
  by_cases w1:l[k].Yd<1
  ·exact .inl ⟨w1,by rw [e];simp [wBad,w1]⟩
  by_cases w2:32<l[k].Yd
  ·exact .inr (.inl ⟨w1,w2,by rw [e];simp [wBad,w2]⟩)
  ·exact .inr (.inr ⟨w1,w2,by rw [e];simp [wBad,w1,w2]⟩)
 by_cases h0:0<=h
 ·have hm:¬h= -1:=by omega
  have hm2:¬h< -1:=by omega
  by_cases h1:(p.Xp.length:Int)<=h
  ·rw [show wid p h i=0 by simp [wid,decl,hm,p5 h1]];simp [dL,Prg.e,h0,h1]
  obtain ⟨m,rfl⟩:∃k:Nat,h=k:=⟨h.toNat,by omega⟩;have hk:m<p.Xp.length:=by omega
  rcases tail p.Xp[m].Ya (by intro j;simp [decl,hm,hk]) with ⟨i0,e⟩ | ⟨i0,i1,e⟩ | ⟨k,hk2,rfl,⟨w1,e⟩ | ⟨w1,w2,e⟩ | ⟨w1,w2,e⟩⟩
  ·rw [e];simp [dL,Prg.e,Xj.e,hk,Qf.2 hk,hm2,i0]
  ·rw [e];simp [dL,Prg.e,Xj.e,hk,Qf.2 hk,hm2,i0,i1]
  ·rw [e];simp [dL,Prg.e,Xj.e,Fld.e,hk,Qf.2 hk,hm2,hk2,Qf.2 hk2,w1]
  ·rw [e];simp [dL,Prg.e,Xj.e,Fld.e,hk,Qf.2 hk,hm2,hk2,Qf.2 hk2,w1,w2]
  ·rw [e];simp [dL,Prg.e,Xj.e,Fld.e,hk,Qf.2 hk,hm2,hk2,Qf.2 hk2,w1,w2]
 by_cases hm:h= -1
 ·subst hm;rcases tail p.Xo (by intro j;simp [decl]) with ⟨i0,e⟩ | ⟨i0,i1,e⟩ | ⟨k,hk2,rfl,⟨w1,e⟩ | ⟨w1,w2,e⟩ | ⟨w1,w2,e⟩⟩
  ·rw [e];simp [dL,Prg.e,i0]
  ·rw [e];simp [dL,Prg.e,i0,i1]
  ·rw [e];simp [dL,Prg.e,Fld.e,hk2,Qf.2 hk2,w1]
  ·rw [e];simp [dL,Prg.e,Fld.e,hk2,Qf.2 hk2,w1,w2]
  ·rw [e];simp [dL,Prg.e,Fld.e,hk2,Qf.2 hk2,w1,w2]
 ·have hm2:h< -1:=by omega
  rw [show wid p h i=0 by simp [wid,decl,hm,p6 (show h<0 by omega)]];simp [dL,Prg.e,h0,hm2]
def fxO {α:Type} (q:α->Bool) (l:List α) (j:Nat):Option Int:=fe (fun k=>(l[k]?).bind fun f=>if q f then some (k:Int) else none) l.length j
theorem Ow {α:Type} {q:α->Bool} {l:List α} {i:Nat} (hi:i<l.length) (h:q l[i]=true):fxO q l i=some (i:Int):=by
 unfold fxO;rw [fB (x:=(i:Int)) hi (by simp [hi,h])]
theorem VH {α:Type} {q:α->Bool} {l:List α} {i:Nat} (hi:i<l.length) (h:q l[i]=false):fxO q l i=fxO q l (i+1):=by
 unfold fxO;rw [gA hi (by simp [hi,h])]
theorem Pv {α:Type} {q:α->Bool} {l:List α} {i:Nat} (hi:i<l.length) (h:q l[i]=true):∀n j,n+j=i->∃k:Nat,fxO q l j=some (k:Int)/\(decide ((k:Int)<i)=eA (l.take i) q j)
 | 0,j,e=>by
  have:j=i:=by omega
  subst this;refine ⟨j,Ow hi h,?_⟩;have:=IK (l:=l.take j) (p:=q);rw [show (l.take j).length=j by simp;omega] at this;rw [this];simp
 | n+1,j,e=>by
  have hj:j<l.length:=by omega
  have hj2:j<(l.take i).length:=by simp;omega
  have e1:(l.take i)[j]=l[j]:=by simp
  cases z:q l[j] with
  | true=>
   refine ⟨j,Ow hj z,?_⟩;rw [KW hj2 (by rw [e1];exact z)];simp;omega
  | false=>
   obtain ⟨k,k1,k2⟩:=Pv hi h n (j+1) (by omega);refine ⟨k,by rw [VH hj z];exact k1,?_⟩;rw [IF hj2 (by rw [e1];exact z)];exact k2
theorem WK (w:Int):aA Φ zP [a8 w]=some (.val (.int .u32 (fC w))):=by
 rw [aD rfl rfl];have h1:=QX w;cases q:wBad w with
 | true=>
  rw [q] at h1;simp [xU,h1,fC,q]
 | false=>
  rw [q] at h1;obtain ⟨w1,w2⟩:=wBad_false.1 q;obtain ⟨k,rfl⟩:∃k:Nat,w=k:=⟨w.toNat,by omega⟩;have h2:=RD k (by omega);have hb:(2:Int)^k<=2^32:=by
   have:=Nat.pow_le_pow_right (n:=2) (by omega) (show k<=32 by omega)
   exact_mod_cast this
  have h0:(0:Int)<2^k:=by
   have:=Nat.pow_pos (a:=2) (n:=k) (by omega)
   exact_mod_cast this
  have c1:IntKind.wrap .u64 ((2:Int)^k - 1)=2^k - 1:=GL (by omega) (by omega);have c2:IntKind.wrap .u32 ((2:Int)^k - 1)=2^k - 1:=Gy (by omega) (by omega);simp [xU,h1,h2,c1,c2,fC,q]
theorem QW (p:Prg) (f:PrgS p) (c:Xb) (hc:c.args.length<2^40) (hv:∀v∈c.args,ok32 0 v):aA Φ iY [.agg (Prg.c p),.agg (Xb.c c)]=some (.val (a8 (iC p c))):=by
 rw [aD rfl rfl];by_cases i0:c.Xz<0
 ·simp [mP,Prg.e,Xb.e,i0,iC,p6 i0]
 by_cases i1:(p.Xy.length:Int)<=c.Xz
 ·simp [mP,Prg.e,Xb.e,i0,i1,iC,p5 i1]
 obtain ⟨k,hk0⟩:∃k:Nat,c.Xz=k:=⟨c.Xz.toNat,by omega⟩;have hk:k<p.Xy.length:=by omega
 by_cases z:c.args.length=p.Xy[k].params.length
 rotate_left
 ·simp [mP,Prg.e,Xb.e,Action.e,hk0,hk,Qf.2 hk,iC,z]
 have hE:iC p c=errO (fe (GV c.args p.Xy[k].params) c.args.length 0):=by simp [iC,hk0,hk,z]<;>rfl
 rw [hE];simp [mP,Prg.e,Xb.e,Action.e,hk0,hk,Qf.2 hk,z];rw [<- z];refine iJ c.args.length (fun i e=>look 3 e=some (.iptr 2 [Xb.c c] 0 0)/\look 5 e=some (.slice 2 (p.Xy[k].params.map Fld.c))/\look 6 e=some (a8 i))
  (fun i=>some (Rt.val (a8 (errO (fe (GV c.args p.Xy[k].params) c.args.length i))))) ?_ ?_ 0 _ (Qc _) ?_
 ·rintro i e L hi hL ⟨h3,h5,h6⟩ ih;have hw:=aL i (by omega);have hi2:i<p.Xy[k].params.length:=by omega
  have hf:=RE c.args[i] p.Xy[k].params[i].Yd (hv _ (Qd hi));rw [Xb.e] at h3;cases y:fits c.args[i] p.Xy[k].params[i].Yd with
  | true=>
   rw [y] at hf;rw [gA hi (by simp [GV,hi,hi2,y])];simp [c_149_l0,Fld.e,c32,h3,h5,h6,hi,hi2,hf,hw];exact ih _ ⟨by simp [h3,Xb.e],by simp [h5],by simp⟩
  | false=>
   rw [y] at hf;rw [fB (x:=9) hi (by simp [GV,hi,hi2,y])];simp [c_149_l0,Fld.e,c32,h3,h5,h6,hi,hi2,hf]
 ·rintro e L hL ⟨h3,h5,h6⟩;rw [jG];simp [c_149_l0,c_149_k1,h5,h6,hL,<- z]
 ·simp [Xb.e,hk0]
theorem Dm (l:List Int) (x:Int) (hl:l.length<2^40):aA Φ nM [.slice 1 (l.map cI),a8 x]=some (.val (a8 (ix (fun s=>decide (s=x)) l 0))):=by
 rw [aD rfl rfl];simp [EM];refine (iJ l.length (fun i e=>look 0 e=some (.slice 1 (l.map cI))/\look 1 e=some (a8 x)/\look 5 e=some (a8 i))
  (fun i=>some (.val (a8 (ix (fun s=>decide (s=x)) l i)))) ?_ ?_ 0 _ (Qc _) ?_).trans (by simp)
 ·rintro i e L hi hL ⟨h0,h1,h5⟩ ih;have hw:=aL i (by omega);by_cases z:l[i]=x
  ·rw [L9 hi (by simpa using z)];simp [c_219_l0,cI,h0,h1,h5,hi,z]
  ·rw [KO hi (by simpa using z)];simp [c_219_l0,cI,h0,h1,h5,hi,z,hw];exact ih _ ⟨by simp [h0],by simp [h1],by simp⟩
 ·rintro e L hL ⟨h0,h1,h5⟩;rw [L8];simp [c_219_l0,c_219_k1,h0,h5,hL]
 ·simp
theorem TG (p:Prg) (x:Tbl) (hl:x.keys.length<2^40):aA Φ zM [.agg (Prg.c p),.agg (Tbl.c x)]=some (.val (.tup [a8 (tI p x).1,a8 (tI p x).2])):=by
 rw [aD rfl rfl];have hE:tI p x=(fe (keyG p x) x.keys.length 0).getD (tJ p x):=by
  unfold tI keyE;show (match fe (keyG p x) x.keys.length 0 with | some e=>e | none=>tJ p x)=_;cases fe (keyG p x) x.keys.length 0<;>rfl
 rw [hE];simp [F4,Prg.e,Tbl.e];refine iJ x.keys.length (fun i e=>look 2 e=some (.iptr 9 [Prg.c p] 0 0)/\look 3 e=some (.iptr 6 [Tbl.c x] 0 0)/\look 7 e=some (a8 ((x.keys.take i).countP fun k=>decide (k.kind=2):Nat))/\look 6 e=some (a8 ((kWid p x).take i).sum)/\look 8 e=some (a8 i))
  (fun i=>some (Rt.val (.tup [a8 ((fe (keyG p x) x.keys.length i).getD (tJ p x)).1,a8 ((fe (keyG p x) x.keys.length i).getD (tJ p x)).2]))) ?_ ?_ 0 _ (Qc _) ?_
 ·rintro i e L hi hL ⟨h2,h3,h7,h6,h8⟩ ih;have hw:=aL i (by omega);have hv:=Lz p x.keys[i].field.header x.keys[i].field.field;simp only [Prg.e] at hv;rw [Prg.e] at h2;rw [Tbl.e] at h3;by_cases z:wid p x.keys[i].field.header x.keys[i].field.field=0
  ·rw [z] at hv;rw [fB (x:=((i:Int),8)) hi (by simp [keyG,hi,z])];simp [c_275_l0,Xl.e,h2,h3,h8,hi,hv]
  have hs:=QM p x (i+1) (by omega);have hs0:=QM p x i (by omega);have he:((kWid p x).take (i+1)).sum=((kWid p x).take i).sum+wid p x.keys[i].field.header x.keys[i].field.field:=by
   have hl:i<(kWid p x).length:=by simp [kWid];omega
   rw [Qh hl,List.sum_append,List.sum_singleton];congr 1;simp [kWid]
  have hw7:IntKind.wrap .i64 (((kWid p x).take i).sum+wid p x.keys[i].field.header x.keys[i].field.field)=((kWid p x).take (i+1)).sum:=by rw [<- he];exact fG (by omega) (by omega)
  have hc:(x.keys.take (i+1)).countP (fun k=>decide (k.kind=2))=(x.keys.take i).countP (fun k=>decide (k.kind=2))+if x.keys[i].kind=2 then 1 else 0:=by
   rw [Qh hi,List.countP_append];congr 1;simp [List.countP_cons]
  have hcl:(x.keys.take i).countP (fun k=>decide (k.kind=2))<=i:=by
   have:=List.countP_le_length (l:=x.keys.take i) (p:=fun k=>decide (k.kind=2));simp at this;omega
  have hw6:IntKind.wrap .i64 (((x.keys.take i).countP (fun k=>decide (k.kind=2)):Nat)+1:Int)=(((x.keys.take i).countP (fun k=>decide (k.kind=2))+1:Nat):Int):=fG (by omega) (by omega);by_cases k2:x.keys[i].kind=2
  ·rw [gA hi (by simp [keyG,hi,z,k2])];rw [aE k2] at hc;simp [c_275_l0,Xl.e,h2,h3,h6,h7,h8,hi,hv,z,k2,hw7,hw6,hw];exact ih _ ⟨by simp [h2,Prg.e],by simp [h3,Tbl.e],by simp [hc],by simp,by simp⟩
  rw [QA k2] at hc;by_cases k1:x.keys[i].kind=1
  ·rw [gA hi (by simp [keyG,hi,z,k1])];simp [c_275_l0,Xl.e,h2,h3,h6,h8,hi,hv,z,k1,hw7,hw];exact ih _ ⟨by simp [h2,Prg.e],by simp [h3,Tbl.e],by simp [hc,h7],by simp,by simp⟩
  by_cases k3:x.keys[i].kind=3
  ·rw [gA hi (by simp [keyG,hi,z,k3])];simp [c_275_l0,Xl.e,h2,h3,h6,h8,hi,hv,z,k3,hw7,hw];exact ih _ ⟨by simp [h2,Prg.e],by simp [h3,Tbl.e],by simp [hc,h7],by simp,by simp⟩
  ·rw [fB (x:=((i:Int),11)) hi (by simp [keyG,hi,z,k1,k2,k3])];simp [c_275_l0,Xl.e,h2,h3,h8,hi,hv,z,k1,k2,k3]
 ·rintro e L hL ⟨h2,h3,h7,h6,h8⟩;rw [jG];have ht:(kWid p x).take x.keys.length=kWid p x:=by rw [Qo];simp [kWid]
  rw [ht] at h6;rw [iI] at h7;rw [Tbl.e] at h3;by_cases y1:1<x.keys.countP (fun k=>decide (k.kind=2))
  ·simp [c_275_l0,c_275_k1,h3,h7,h8,hL,tJ,y1]
  by_cases y2:64<(kWid p x).sum
  ·simp [c_275_l0,c_275_k1,h3,h6,h7,h8,hL,tJ,y1,y2]
  ·simp [c_275_l0,c_275_k1,h3,h6,h7,h8,hL,tJ,y1,y2]
 ·simp [Prg.e,Tbl.e]
theorem Jk (x:Int) (l:List Int):l.contains x=l.any fun s=>decide (s=x):=by
 have:=Jc (fun y:Int=>y) x l;rw [List.map_id'] at this;exact this
theorem TL (p:Prg) (f:PrgS p) (x:Tbl) (hl:x.Xy.length<2^40) (hg:x.Yc.args.length<2^40) (hv:∀v∈x.Yc.args,ok32 0 v):aA Φ zN [.agg (Prg.c p),.agg (Tbl.c x)]=some (.val (a8 (GR p x))):=by
 rw [aD rfl rfl,Nu];simp [F5,Prg.e,Tbl.e];refine iJ x.Xy.length (fun i e=>look 2 e=some (.iptr 9 [Prg.c p] 0 0)/\look 3 e=some (.iptr 6 [Tbl.c x] 0 0)/\look 5 e=some (a8 i))
  (fun i=>some (Rt.val (a8 ((fe (uV p x) x.Xy.length i).getD (vX p x))))) ?_ ?_ 0 _ (Qc _) ?_
 ·rintro i e L hi hL ⟨h2,h3,h5⟩ ih;have hw:=aL i (by omega);rw [Prg.e] at h2;rw [Tbl.e] at h3;by_cases z0:x.Xy[i]<0
  ·rw [fB (x:=8) hi (by simp [uV,hi,z0])];simp [c_276_l0,cI,h3,h5,hi,z0]
  by_cases z1:(p.Xy.length:Int)<=x.Xy[i]
  ·rw [fB (x:=8) hi (by simp [uV,hi,z0,z1])];simp [c_276_l0,cI,h2,h3,h5,hi,z0,z1]
  have hx:=Dm x.Xy x.Xy[i] hl;obtain ⟨at',k1,k2⟩:=Pv (q:=fun s:Int=>decide (s=x.Xy[i])) hi (by simp) i 0 (by omega);rw [show ix (fun s=>decide (s=x.Xy[i])) x.Xy 0=(fxO (fun s:Int=>decide (s=x.Xy[i])) x.Xy 0).getD (-1) from rfl,k1] at hx;rw [Mo,<- Jk] at k2;simp only [tS] at hx;cases q:(x.Xy.take i).contains x.Xy[i] with
  | true=>
   rw [q] at k2;have k3:at'<i:=by simpa using k2
   rw [fB (x:=7) hi (by simp only [uV,Qa hi,qG];rw [QA (by omega),q];rfl)];simp [c_276_l0,cI,h2,h3,h5,hi,z0,z1,hx,k3]
  | false=>
   rw [q] at k2;have k3:¬at'<i:=by simpa using k2
   rw [gA hi (by simp only [uV,Qa hi,qG];rw [QA (by omega),q];rfl)];simp [c_276_l0,cI,h2,h3,h5,hi,z0,z1,hx,k3,hw];exact ih _ ⟨by simp [h2,Prg.e],by simp [h3,Tbl.e],by simp⟩
 ·rintro e L hL ⟨h2,h3,h5⟩;rw [jG];have hx:=Dm x.Xy x.Yc.Xz hl;have hc:=QW p f x.Yc hg hv;have ha:=SD (p:=fun s=>decide (s=x.Yc.Xz)) (l:=x.Xy);rw [<- Jk] at ha;simp only [Prg.e,Xb.e] at hc;rw [Prg.e] at h2;rw [Tbl.e] at h3;cases q:x.Xy.contains x.Yc.Xz with
  | true=>
   rw [q] at ha;have ha2:¬ix (fun s=>decide (s=x.Yc.Xz)) x.Xy 0<0:=by simpa using ha
   rw [show vX p x=iC p x.Yc by simp only [vX,q];rfl];simp [c_276_l0,c_276_k1,h2,h3,h5,hL,hx,ha2,hc]
  | false=>
   rw [q] at ha;have ha2:ix (fun s=>decide (s=x.Yc.Xz)) x.Xy 0<0:=by simpa using ha
   rw [show vX p x=8 by simp only [vX,q];rfl];simp [c_276_l0,c_276_k1,h3,h5,hL,hx,ha2]
 ·simp [Prg.e,Tbl.e]
theorem Nm (p:Prg) (f:PrgS p) (hv:∀t∈p.Xn,∀v∈t.Yc.args,ok32 0 v) (t:Int):aA Φ rZ [.agg (Prg.c p),a8 t]=some (.val (.tup [a8 (tblE p t).1,a8 (tblE p t).2])):=by
 rw [aD rfl rfl];by_cases i0:t<0
 ·simp [eQ,Prg.e,i0,tblE,p6 i0]
 by_cases i1:(p.Xn.length:Int)<=t
 ·simp [eQ,Prg.e,i0,i1,tblE,p5 i1]
 obtain ⟨k,rfl⟩:∃k:Nat,t=k:=⟨t.toNat,by omega⟩;have hk:k<p.Xn.length:=by omega
 have hm:=Qd hk;have n1:=U3 p.Xn[k].name (f.tn _ hm);have h1:=TG p p.Xn[k] (f.tk _ hm);have h2:=TL p f p.Xn[k] (f.ta _ hm) (f.tg _ hm) (hv _ hm);simp only [Prg.e,Tbl.e] at h1 h2;cases q1:idS p.Xn[k].name with
 | false=>rw [q1] at n1;simp [eQ,Prg.e,Tbl.e,hk,Qf.2 hk,n1,tblE,q1]
 | true=>
 rw [q1] at n1;by_cases z0:6<p.Xn[k].keys.length
 ·simp [eQ,Prg.e,Tbl.e,hk,Qf.2 hk,n1,tblE,q1,z0]
 by_cases z1:16<p.Xn[k].Xy.length
 ·simp [eQ,Prg.e,Tbl.e,hk,Qf.2 hk,n1,tblE,q1,z0,z1]
 by_cases z2:p.Xn[k].size<1
 ·simp [eQ,Prg.e,Tbl.e,hk,Qf.2 hk,n1,tblE,q1,z0,z1,z2]
 by_cases z3:256<p.Xn[k].size
 ·simp [eQ,Prg.e,Tbl.e,hk,Qf.2 hk,n1,tblE,q1,z0,z1,z2,z3]
 by_cases y1:(tI p p.Xn[k]).2=0
 rotate_left
 ·simp [eQ,Prg.e,Tbl.e,hk,Qf.2 hk,n1,tblE,q1,z0,z1,z2,z3,h1,y1]
 rw [y1] at h1;by_cases y2:GR p p.Xn[k]=0
 ·rw [y2] at h2;simp [eQ,Prg.e,Tbl.e,hk,Qf.2 hk,n1,tblE,q1,z0,z1,z2,z3,h1,y1,h2,y2]
 ·simp [eQ,Prg.e,Tbl.e,hk,Qf.2 hk,n1,tblE,q1,z0,z1,z2,z3,h1,y1,h2,y2]
theorem GH {α:Type} {f:Nat->Option α} {N:Nat} {x:α}:∀{i},fe f N i=some x->∃k,k<N/\f k=some x:=by
 have key:∀n i,feF f n i=some x->∃k,k<i+n/\f k=some x:=by
  intro n
  induction n with
  | zero=>intro i h;simp [feF] at h
  | succ n ih=>
   intro i h;simp only [feF] at h;cases q:f i with
   | some y=>rw [q] at h;cases h;exact ⟨i,by omega,q⟩
   | none=>
    rw [q] at h;obtain ⟨k,h1,h2⟩:=ih _ h;exact ⟨k,by omega,h2⟩
 intro i h;unfold fe at h;obtain ⟨k,h1,h2⟩:=key _ _ h;by_cases hi:i<=N
 ·exact ⟨k,by omega,h2⟩
 ·rw [show N - i=0 by omega] at h;simp [feF] at h
theorem Fb {Φ:FuncId->Option AFun} {β:Type} {fin:Option (Ex×St)->Option β} {h:AH} (N:Nat) (Inv:Nat->Env->Prop) (Q:Option β->Prop) {b:Xv} {K:List Fr}
  (step:∀i e L,i<N->(∀j s,go Φ fin L (.exit j) s=go Φ fin K (.exit j) s)->Inv i e->(∀e',Inv (i+1) e'->Q (go Φ fin L .normal ⟨e',h⟩))->Q (go Φ fin (.c b::L) .normal ⟨e,h⟩))
  (last:∀e L,(∀j s,go Φ fin L (.exit j) s=go Φ fin K (.exit j) s)->Inv N e->Q (go Φ fin (.c b::L) .normal ⟨e,h⟩)):
  ∀i e,i<=N->Inv i e->Q (go Φ fin (.c (.loop b)::K) .normal ⟨e,h⟩):=by
 intro i e hi hv;refine VS N (fun i e H=>H=h/\Inv i e) Q ?_ ?_ i e h hi ⟨rfl,hv⟩
 ·rintro i e _ L hi hL ⟨rfl,hv⟩ ih;exact step i e L hi hL hv fun e' hv'=>ih e' _ ⟨rfl,hv'⟩
 ·rintro e _ L hL ⟨rfl,hv⟩;exact last e L hL hv
def i9 {α:Type} [DecidableEq α] (l m:List α) (i:Nat):Bool:=decide (l.drop i=m.drop i)
theorem CY {α:Type} [DecidableEq α] {l m:List α} {i:Nat} (h1:i<l.length) (h2:i<m.length) (h:l[i]=m[i]):i9 l m i=i9 l m (i+1):=by
 unfold i9;rw [decide_eq_decide,Jm h1 h2];simp [h]
theorem AC {α:Type} [DecidableEq α] {l m:List α} {i:Nat} (h1:i<l.length) (h2:i<m.length) (h:l[i]≠m[i]):i9 l m i=false:=by
 unfold i9;rw [decide_eq_false_iff_not,Jm h1 h2];simp [h]
theorem CX {α:Type} [DecidableEq α] {l m:List α} (h:l.length=m.length):i9 l m l.length=true:=by
 simp [i9,h]
theorem QK (k1 k2:List Xi) (p1 p2:Int) (r1 r2:List AV) (hb:k1.length<2^40):
   aA Φ nL [.agg (.slice 2 (k1.map Xi.c):: a8 p1::r1),.agg (.slice 2 (k2.map Xi.c):: a8 p2::r2)]=some (.val (.bool (decide (k1=k2/\p1=p2)))):=by
  rw [aD rfl rfl];by_cases q1:k1.length=k2.length
  rotate_left
  · have:k1≠k2:=fun h=>q1 (by rw [h])
    simp [qV,q1,this]
  by_cases q2:p1=p2
  rotate_left
  · simp [qV,q1,q2]
  subst q2;simp [qV,q1];refine (iJ k1.length (fun i e=>look 2 e=some (AV.ptr 0 (r1.length+1+1) 0 0)/\look 3 e=some (AV.ptr 1 (r2.length+1+1) 0 0)/\look 5 e=some (a8 i))
    (fun i=>some (Rt.val (AV.bool (i9 k1 k2 i)))) ?_ ?_ 0 _ (Qc _) ?_).trans (by simp [i9])
  · rintro i e L hi hL ⟨h2,h3,h5⟩ ih
    have hi2:i<k2.length:=by omega
    have hw:=aL i (by omega);by_cases c:k1[i]=k2[i]
    · rw [CY hi hi2 c]
      simp [c_217_l0,Xi.c,hi,hi2,h2,h3,h5,hw,c];exact ih _ ⟨by simp [h2],by simp [h3],by simp⟩
    · rw [AC hi hi2 c]
      have c':(decide (k1[i].value=k2[i].value)&&decide (k1[i].Ye=k2[i].Ye))=false:=by
        simp [Xi.ext_iff] at c ⊢;exact c
      simp [c_217_l0,Xi.c,hi,hi2,h2,h3,h5,c']
  · rintro e L hL ⟨h2,h3,h5⟩
    rw [CX q1];simp [c_217_l0,c_217_k1, *]
  · simp
theorem Iy (a1 a2:Int) (l1 l2:List Int) (hb:l1.length<2^40):
   aA Φ n7 [.agg [a8 a1,.slice 1 (l1.map c32)],.agg [a8 a2,.slice 1 (l2.map c32)]]=some (.val (.bool (decide (a1=a2/\l1=l2)))):=by
  rw [aD rfl rfl];by_cases q2:a1=a2
  rotate_left
  · simp [qK,q2]
  subst q2;by_cases q1:l1.length=l2.length
  rotate_left
  · have:l1≠l2:=fun h=>q1 (by rw [h])
    simp [qK,q1,this]
  simp [qK,q1];refine (iJ l1.length (fun i e=>look 2 e=some (AV.ptr 0 2 0 0)/\look 3 e=some (AV.ptr 1 2 0 0)/\look 5 e=some (a8 i))
    (fun i=>some (Rt.val (AV.bool (i9 l1 l2 i)))) ?_ ?_ 0 _ (Qc _) ?_).trans (by simp [i9])
  · rintro i e L hi hL ⟨h2,h3,h5⟩ ih
    have hi2:i<l2.length:=by omega
    have hw:=aL i (by omega);by_cases c:l1[i]=l2[i]
    · rw [CY hi hi2 c]
      simp [c_104_l0,c32,hi,hi2,h2,h3,h5,hw,c];exact ih _ ⟨by simp [h2],by simp [h3],by simp⟩
    · rw [AC hi hi2 c]
      simp [c_104_l0,c32,hi,hi2,h2,h3,h5,c]
  · rintro e L hL ⟨h2,h3,h5⟩
    rw [CX q1];simp [c_104_l0,c_104_k1, *]
  · simp
theorem UU (k1 k2:List Xi) (p1 p2:Int) (a1 a2:Int) (l1 l2:List Int) (hb:k1.length<2^40) (hb':l1.length<2^40):
   aA Φ rQ [.agg [.slice 2 (k1.map Xi.c),a8 p1,a8 a1,.slice 1 (l1.map c32)],.agg [.slice 2 (k2.map Xi.c),a8 p2,a8 a2,.slice 1 (l2.map c32)]]=some (.val (.bool (decide (k1=k2/\p1=p2/\a1=a2/\l1=l2)))):=by
  rw [aD rfl rfl];by_cases q1:k1=k2
  · by_cases q2:p1=p2
    · subst q1
      simp [qS,QK,Iy,hb,hb',q2]
    · subst q1
      simp [qS,QK,hb,q2]
  · simp [qS,QK,hb,q1]
theorem qve (k1 k2:List Xi) (p1 p2:Int) (r1 r2:List AV) (hb:k1.length<2^40):
   aA Φ n9 [.agg (.slice 2 (k1.map Xi.c):: a8 p1::r1),.agg (.slice 2 (k2.map Xi.c):: a8 p2::r2)]=some (.val (.bool (decide (k1=k2/\p1=p2)))):=by
  rw [aD rfl rfl];by_cases q2:p1=p2
  rotate_left
  · simp [qP,q2]
  by_cases q1:k1.length=k2.length
  rotate_left
  · have:k1≠k2:=fun h=>q1 (by rw [h])
    simp [qP,q1,this,q2]
  subst q2;simp [qP,q1];refine (GD k1.length (fun i e h=>look 2 e=some (AV.ptr 0 (r1.length+1+1) 0 0)/\look 3 e=some (AV.ptr 1 (r2.length+1+1) 0 0)/\look 22 e=some (.slice 2 (k1.map Xi.c))/\look 23 e=some (a8 k2.length)/\look 24 e=some (a8 i)/\
      HP [(0,AO.row (r1.length+1+1) [.slice 2 (k1.map Xi.c):: a8 p1::r1]),(1,AO.row (r2.length+1+1) [.slice 2 (k2.map Xi.c):: a8 p1::r2])] 2 h)
    (fun i=>some (Rt.val (AV.bool (i9 k1 k2 i)))) ?_ ?_ 0 _ _ (Qc _) ?_).trans (by simp [i9])
  · rintro i e _ L hi hL ⟨h2,h3,h22,h23,h24,T,n,hT,rfl⟩ ih
    have hi2:i<k2.length:=by omega
    have hw:=aL i (by omega);have hT':=hT (n+2) (Qb _);by_cases c:k1[i]=k2[i]
    · rw [CY hi hi2 c]
      simp [c_130_l0,Xi.c,hi,hi2,h3,h22,h23,h24,hw,c,hT'];exact ih _ _ ⟨by simp [h2],by simp [h3],by simp [h22],by simp [h23],by simp,HP.next hT⟩
    · rw [AC hi hi2 c]
      have c':(decide (k1[i].value=k2[i].value)&&decide (k1[i].Ye=k2[i].Ye))=false:=by
        simp [Xi.ext_iff] at c ⊢;exact c
      simp [c_130_l0,Xi.c,hi,hi2,h3,h22,h23,h24,c',hT']
  · rintro e _ L hL ⟨h2,h3,h22,h23,h24,T,n,hT,rfl⟩
    rw [CX q1];simp [c_130_l0,c_130_k1, *]
  · simp
    exact HP.mk
theorem Entry.eq_iff (x y:Entry):x=y↔x.keys=y.keys/\x.Xt=y.Xt/\x.call.Xz=y.call.Xz/\x.call.args=y.call.args:=by
 constructor
 ·rintro rfl;simp
 ·rintro ⟨a,b,c,d⟩;obtain ⟨k,p,u,v⟩:=x;obtain ⟨k',p',u',v'⟩:=y;simp only at a b c d;subst a b c d;rfl
def Entry.sm (x:Entry):Prop:=x.keys.length<2^40/\x.call.args.length<2^40
theorem U2 (x y:Entry) (hb:x.sm):aA Φ rQ [.agg (Entry.c x),.agg (Entry.c y)]=some (.val (.bool (decide (x=y)))):=by
 rw [decide_eq_decide.2 (Entry.eq_iff x y)];exact UU x.keys y.keys x.Xt y.Xt x.call.Xz y.call.Xz x.call.args y.call.args hb.1 hb.2
theorem Rw.ce (x:Rw):Rw.c x=[a8 x.id,.slice 2 (x.entry.keys.map Xi.c),a8 x.entry.Xt,a8 x.entry.call.Xz,.slice 1 (x.entry.call.args.map c32)]:=by simp [Rw.c]
theorem cSe {α:Type} (z:Nat) (f:α->List AV) (l:List α):cS z f l=[.slice z (l.map f)]:=by simp [cS]
theorem Xb.ce (x:Xb):Xb.c x=[a8 x.Xz,.slice 1 (x.args.map c32)]:=by simp [Xb.c]
theorem Entry.ce (x:Entry):Entry.c x=[.slice 2 (x.keys.map Xi.c),a8 x.Xt,a8 x.call.Xz,.slice 1 (x.call.args.map c32)]:=by simp [Entry.c]
theorem Xf.ce (x:Xf):Xf.c x=[.slice 1 (x.rows.map (cS 5 Rw.c)),.slice 1 (x.Xr.map cI),.slice 2 (x.Xq.map Xb.c),.slice 1 (x.Xm.map (cS 1 c32))]:=by simp [Xf.c]
theorem cIe (x:Int):cI x=[a8 x]:=by simp [cI]
theorem c32e (x:Int):c32 x=[.int .u32 x]:=by simp [c32]
theorem Rw.eq_iff (x y:Rw):x=y↔x.id=y.id/\x.entry=y.entry:=by
 constructor
 ·rintro rfl;simp
 ·rintro ⟨a,b⟩;obtain ⟨u,v⟩:=x;obtain ⟨u',v'⟩:=y;simp only at a b;subst a b;rfl
theorem Xb.eq_iff (x y:Xb):x=y↔x.Xz=y.Xz/\x.args=y.args:=by
 constructor
 ·rintro rfl;simp
 ·rintro ⟨a,b⟩;obtain ⟨u,v⟩:=x;obtain ⟨u',v'⟩:=y;simp only at a b;subst a b;rfl
structure CfgS (a:Xf):Prop where
 rl:a.rows.length<2^40
 rs:∀l∈a.rows,l.length<2^40/\∀r∈l,r.entry.sm
 nl:a.Xr.length<2^40
 dl:a.Xq.length<2^40
 ds:∀d∈a.Xq,d.args.length<2^40
 gl:a.Xm.length<2^40
 gs:∀l∈a.Xm,l.length<2^40
theorem Xf.eq_iff (a b:Xf):a=b↔a.rows=b.rows/\a.Xr=b.Xr/\a.Xq=b.Xq/\a.Xm=b.Xm:=by
 constructor
 ·rintro rfl;simp
 ·rintro ⟨h1,h2,h3,h4⟩;obtain ⟨x,y,z,u⟩:=a;obtain ⟨x',y',z',u'⟩:=b;simp only at h1 h2 h3 h4;subst h1 h2 h3 h4;rfl
theorem V8 (l m:List Int) (hb:l.length<2^40):aA Φ yH [.slice 1 (l.map cI),.slice 1 (m.map cI)]=some (.val (.bool (decide (l=m)))):=by
 rw [aD rfl rfl];by_cases q1:l.length=m.length
 rotate_left
 ·have:l≠m:=fun h=>q1 (by rw [h])
  simp [wB,q1,this]
 simp [wB,q1];refine (iJ l.length (fun i e=>look 0 e=some (.slice 1 (l.map cI))/\look 1 e=some (.slice 1 (m.map cI))/\look 5 e=some (a8 i))
  (fun i=>some (Rt.val (AV.bool (i9 l m i)))) ?_ ?_ 0 _ (Qc _) ?_).trans (by simp [i9])
 ·rintro i e L hi hL ⟨h0,h1,h5⟩ ih;have hi2:i<m.length:=by omega
  have hw:=aL i (by omega);by_cases c:l[i]=m[i]
  ·rw [CY hi hi2 c];simp [c_101_l0,cIe,hi,hi2,h0,h1,h5,hw,c];exact ih _ ⟨by simp [h0],by simp [h1],by simp⟩
  ·rw [AC hi hi2 c];simp [c_101_l0,cIe,hi,hi2,h0,h1,h5,c]
 ·rintro e L hL ⟨h0,h1,h5⟩;rw [CX q1];simp [c_101_l0,c_101_k1, *]
 ·simp
theorem WC (l m:List Int) (hb:l.length<2^40):aA Φ yP [.slice 1 (l.map c32),.slice 1 (m.map c32)]=some (.val (.bool (decide (l=m)))):=by
 rw [aD rfl rfl];by_cases q1:l.length=m.length
 rotate_left
 ·have:l≠m:=fun h=>q1 (by rw [h])
  simp [wM,q1,this]
 simp [wM,q1];refine (iJ l.length (fun i e=>look 0 e=some (.slice 1 (l.map c32))/\look 1 e=some (.slice 1 (m.map c32))/\look 5 e=some (a8 i))
  (fun i=>some (Rt.val (AV.bool (i9 l m i)))) ?_ ?_ 0 _ (Qc _) ?_).trans (by simp [i9])
 ·rintro i e L hi hL ⟨h0,h1,h5⟩ ih;have hi2:i<m.length:=by omega
  have hw:=aL i (by omega);by_cases c:l[i]=m[i]
  ·rw [CY hi hi2 c];simp [c_158_l0,c32e,hi,hi2,h0,h1,h5,hw,c];exact ih _ ⟨by simp [h0],by simp [h1],by simp⟩
  ·rw [AC hi hi2 c];simp [c_158_l0,c32e,hi,hi2,h0,h1,h5,c]
 ·rintro e L hL ⟨h0,h1,h5⟩;rw [CX q1];simp [c_158_l0,c_158_k1, *]
 ·simp
theorem V9 (l m:List (List Int)) (hb:l.length<2^40) (hf:∀x∈l,x.length<2^40):aA Φ yI [.slice 1 (l.map (cS 1 c32)),.slice 1 (m.map (cS 1 c32))]=some (.val (.bool (decide (l=m)))):=by
 rw [aD rfl rfl];by_cases q1:l.length=m.length
 rotate_left
 ·have:l≠m:=fun h=>q1 (by rw [h])
  simp [wC,q1,this]
 simp [wC,q1];refine (iJ l.length (fun i e=>look 0 e=some (.slice 1 (l.map (cS 1 c32)))/\look 1 e=some (.slice 1 (m.map (cS 1 c32)))/\look 5 e=some (a8 i))
  (fun i=>some (Rt.val (AV.bool (i9 l m i)))) ?_ ?_ 0 _ (Qc _) ?_).trans (by simp [i9])
 ·rintro i e L hi hL ⟨h0,h1,h5⟩ ih;have hi2:i<m.length:=by omega
  have hw:=aL i (by omega);have hee:=WC l[i] m[i] (hf _ (Qd hi));by_cases c:l[i]=m[i]
  ·rw [decide_eq_true c] at hee;rw [CY hi hi2 c];simp [c_102_l0,cSe,hi,hi2,h0,h1,h5,hw,hee];refine (ih _ ⟨by simp [h0],by simp [h1],by simp⟩).trans (by simp)
  ·rw [decide_eq_false c] at hee;rw [AC hi hi2 c];simp [c_102_l0,cSe,hi,hi2,h0,h1,h5,hee]
 ·rintro e L hL ⟨h0,h1,h5⟩;rw [CX q1];simp [c_102_l0,c_102_k1, *]
 ·simp
theorem VA (l m:List Rw) (hb:l.length<2^40) (hs:∀r∈l,r.entry.sm):aA Φ yJ [.slice 5 (l.map Rw.c),.slice 5 (m.map Rw.c)]=some (.val (.bool (decide (l=m)))):=by
 rw [aD rfl rfl];by_cases q1:l.length=m.length
 rotate_left
 ·have:l≠m:=fun h=>q1 (by rw [h])
  simp [wD,q1,this]
 simp [wD,q1];refine (iJ l.length (fun i e=>look 0 e=some (.slice 5 (l.map Rw.c))/\look 1 e=some (.slice 5 (m.map Rw.c))/\look 5 e=some (a8 i))
  (fun i=>some (Rt.val (AV.bool (i9 l m i)))) ?_ ?_ 0 _ (Qc _) ?_).trans (by simp [i9])
 ·rintro i e L hi hL ⟨h0,h1,h5⟩ ih;have hi2:i<m.length:=by omega
  have hw:=aL i (by omega);have hee:=U2 l[i].entry m[i].entry (hs _ (Qd hi));simp only [Entry.ce] at hee;by_cases c1:l[i].id=m[i].id
  rotate_left
  ·rw [AC hi hi2 (fun h=>c1 (by rw [h]))];simp [c_103_l0,Rw.ce,hi,hi2,h0,h1,h5,c1]
  by_cases c2:l[i].entry.Xt=m[i].entry.Xt
  rotate_left
  ·rw [AC hi hi2 (fun h=>c2 (by rw [h]))];simp [c_103_l0,Rw.ce,hi,hi2,h0,h1,h5,c1,c2]
  by_cases c:l[i].entry=m[i].entry
  ·rw [decide_eq_true c,c2] at hee;rw [CY hi hi2 ((Rw.eq_iff _ _).2 ⟨c1,c⟩)];simp [c_103_l0,Rw.ce,hi,hi2,h0,h1,h5,hw,c1,c2,hee];refine (ih _ ⟨by simp [h0],by simp [h1],by simp⟩).trans (by simp)
  ·rw [decide_eq_false c,c2] at hee;rw [AC hi hi2 (fun h=>c (by rw [h]))];simp [c_103_l0,Rw.ce,hi,hi2,h0,h1,h5,c1,c2,hee]
 ·rintro e L hL ⟨h0,h1,h5⟩;rw [CX q1];simp [c_103_l0,c_103_k1, *]
 ·simp
theorem U1 (x y:Xb) (h:x.args.length<2^40):aA Φ n7 [.agg (Xb.c x),.agg (Xb.c y)]=some (.val (.bool (decide (x=y)))):=by
 rw [decide_eq_decide.2 (Xb.eq_iff x y)];exact Iy x.Xz y.Xz x.args y.args h
theorem qx9 (a b:Xf) (f:CfgS a):aA Φ HW [.agg (Xf.c a),.agg (Xf.c b)]=some (.val (.bool (decide (a=b)))):=by
 have ee:decide (a=b)=decide (a.rows=b.rows/\a.Xr=b.Xr/\a.Xq=b.Xq/\a.Xm=b.Xm):=decide_eq_decide.2 (Xf.eq_iff a b);rw [ee,aD rfl rfl];have g2:=V8 a.Xr b.Xr f.nl;have g4:=V9 a.Xm b.Xm f.gl f.gs;by_cases q1:a.rows.length=b.rows.length
 rotate_left
 ·have:a.rows≠b.rows:=fun h=>q1 (by rw [h])
  simp [uB,Xf.ce,q1,this]
 by_cases q2:a.Xr=b.Xr
 rotate_left
 ·simp [uB,Xf.ce,q1,q2,g2]
 by_cases q3:a.Xq.length=b.Xq.length
 rotate_left
 ·have:a.Xq≠b.Xq:=fun h=>q3 (by rw [h])
  rw [q2] at g2;simp [uB,Xf.ce,q1,q2,g2,q3,this]
 by_cases q4:a.Xm=b.Xm
 rotate_left
 ·rw [q2] at g2;simp [uB,Xf.ce,q1,q2,q3,g2,g4,q4]
 rw [q2] at g2;rw [q4] at g4;simp [uB,Xf.ce,q1,q2,q3,q4,g2,g4];refine (iJ a.rows.length (fun i e=>look 2 e=some (.ptr 0 4 0 0)/\look 3 e=some (.ptr 1 4 0 0)/\look 5 e=some (a8 i))
  (fun i=>some (Rt.val (AV.bool (i9 a.rows b.rows i&&decide (a.Xq=b.Xq))))) ?_ ?_ 0 _ (Qc _) ?_).trans (by simp [i9])
 ·rintro i e L hi hL ⟨h2,h3,h5⟩ ih;have hi2:i<b.rows.length:=by omega
  have hw:IntKind.wrap .i64 ((i:Int)+1)=((i+1:Nat):Int):=fG (by omega) (by have:=f.rl;omega);obtain ⟨u1,u2⟩:=f.rs _ (Qd hi);have hee:=VA a.rows[i] b.rows[i] u1 u2;by_cases c:a.rows[i]=b.rows[i]
  ·rw [decide_eq_true c] at hee;rw [CY hi hi2 c];simp [c_56_l0,cSe,hi,hi2,h2,h3,h5,hee,hw];refine (ih _ ⟨by simp [h2],by simp [h3],by simp⟩).trans (by simp)
  ·rw [decide_eq_false c] at hee;rw [AC hi hi2 c];simp [c_56_l0,cSe,hi,hi2,h2,h3,h5,hee]
 ·rintro e L hL ⟨h2,h3,h5⟩;rw [CX q1];simp [c_56_l0,c_56_k3,h2,h5,hL];refine (iJ a.Xq.length (fun i e=>look 2 e=some (.ptr 0 4 0 0)/\look 3 e=some (.ptr 1 4 0 0)/\look 6 e=some (a8 i))
   (fun i=>some (Rt.val (AV.bool (i9 a.Xq b.Xq i)))) ?_ ?_ 0 _ (Qc _) ?_).trans (by simp [i9])
  ·rintro i e L' hi hL' ⟨h2,h3,h6⟩ ih;have hi2:i<b.Xq.length:=by omega
   have hw:IntKind.wrap .i64 ((i:Int)+1)=((i+1:Nat):Int):=fG (by omega) (by have:=f.dl;omega);have hee:=U1 a.Xq[i] b.Xq[i] (f.ds _ (Qd hi));simp only [Xb.ce] at hee;by_cases c:a.Xq[i]=b.Xq[i]
   ·rw [decide_eq_true c] at hee;rw [CY hi hi2 c];simp [c_56_l1,Xb.ce,hi,hi2,h2,h3,h6,hee,hw];refine (ih _ ⟨by simp [h2],by simp [h3],by simp⟩).trans (by simp)
   ·rw [decide_eq_false c] at hee;rw [AC hi hi2 c];simp [c_56_l1,Xb.ce,hi,hi2,h2,h3,h6,hee]
  ·rintro e L' hL' ⟨h2,h3,h6⟩;rw [CX q3];simp [c_56_l1,c_56_k2,h2,h6,hL']
  ·simp [h2,h3]
 ·simp
theorem Action.ce (x:Action):Action.c x=[.str x.name,.slice 2 (x.params.map Fld.c),.slice 7 (x.body.map Xg.c)]:=by simp [Action.c]
theorem Xj.ce (x:Xj):Xj.c x=[.str x.name,.slice 2 (x.Ya.map Fld.c)]:=by simp [Xj.c]
theorem Xh.ce (x:Xh):Xh.c x=[.str x.name,a8 x.Yd,a8 x.size]:=by simp [Xh.c]
theorem Xg.ce (x:Xg):Xg.c x=[a8 x.kind,a8 x.dst.header,a8 x.dst.field,a8 x.Yf,a8 x.header,.slice 3 (x.index.map Xe.c),.slice 3 (x.value.map Xe.c)]:=by simp [Xg.c]
theorem Tbl.ce (x:Tbl):Tbl.c x=[.str x.name,.slice 3 (x.keys.map Xl.c),.slice 1 (x.Xy.map cI),a8 x.Yc.Xz,.slice 1 (x.Yc.args.map c32),a8 x.size]:=by simp [Tbl.c]
theorem Xd.ce (x:Xd):Xd.c x=[.str x.name,.slice 1 (x.extract.map cI),.bool x.select,a8 x.on.header,a8 x.on.field,.slice 3 (x.cases.map Xk.c),a8 x.Yc]:=by simp [Xd.c]
theorem Xa.ce (k t:Int) (c:List Xe) (a b:List Xa):Xa.c (.mk k t c a b)=[a8 k,a8 t,.slice 3 (c.map Xe.c),.slice 5 (a.map Xa.c),.slice 5 (b.map Xa.c)]:=by simp [Xa.c,Xa.cs_eq]
theorem Prg.ce (x:Prg):Prg.c x=[.str x.name,.slice 2 (x.Xp.map Xj.c),.slice 2 (x.Xo.map Fld.c),.slice 3 (x.Xm.map Xh.c),.slice 3 (x.Xy.map Action.c),.slice 6 (x.Xn.map Tbl.c),.slice 7 (x.Xx.map Xd.c),.slice 5 (x.Yb.map Xa.c),.slice 1 (x.Xs.map cI)]:=by simp [Prg.c]
def hp0 (p:Prg):AH:=⟨[(0,.row 9 [[.str p.name,.slice 2 (p.Xp.map Xj.c),.slice 2 (p.Xo.map Fld.c),.slice 3 (p.Xm.map Xh.c),.slice 3 (p.Xy.map Action.c),.slice 6 (p.Xn.map Tbl.c),.slice 7 (p.Xx.map Xd.c),.slice 5 (p.Yb.map Xa.c),.slice 1 (p.Xs.map cI)]])],1⟩
structure PrgB (p:Prg):Prop where
 h:p.Xp.length<2^40
 r:p.Xm.length<2^40
 a:p.Xy.length<2^40
 b:∀x∈p.Xy,x.body.length<2^40
 t:p.Xn.length<2^40
 s:p.Xx.length<2^40
 c:p.Yb.length<2^40
 co:∀x∈p.Yb,Xa.Ok dO x
def hp1 (p:Prg) (c:Xf):AH:=⟨[(0,.row 9 [[.str p.name,.slice 2 (p.Xp.map Xj.c),.slice 2 (p.Xo.map Fld.c),.slice 3 (p.Xm.map Xh.c),.slice 3 (p.Xy.map Action.c),.slice 6 (p.Xn.map Tbl.c),.slice 7 (p.Xx.map Xd.c),.slice 5 (p.Yb.map Xa.c),.slice 1 (p.Xs.map cI)]]),(1,.row 4 [[.slice 1 (c.rows.map (cS 5 Rw.c)),.slice 1 (c.Xr.map cI),.slice 2 (c.Xq.map Xb.c),.slice 1 (c.Xm.map (cS 1 c32))]])],2⟩
def tOk (p:Prg) (t:Int):Bool:=decide ((tblE p t).2=0)
theorem keyV {p:Prg} {x:Tbl} (h:keyE p x=none):∀k∈x.keys,k.kind=1\/k.kind=2\/k.kind=3:=by
 intro k hk;obtain ⟨i,hi,rfl⟩:=Q3 hk;have:=(fe_all.1 h) i hi;simp [hi] at this;split at this
 ·cases this
 ·split at this
  ·assumption
  ·cases this
structure TOk (p:Prg) (k:Nat) (hk:k<p.Xn.length):Prop where
 keys:p.Xn[k].keys.length<=6
 acts:p.Xn[k].Xy.length<=16
 kinds:∀x∈p.Xn[k].keys,x.kind=1\/x.kind=2\/x.kind=3
 size:1<=p.Xn[k].size/\p.Xn[k].size<=256
theorem GQ {p:Prg} {t:Int} (h:tOk p t=true):∃(k:Nat) (hk:k<p.Xn.length),t=k/\TOk p k hk:=by
 simp only [tOk,decide_eq_true_eq] at h;by_cases i0:t<0
 ·simp [tblE,p6 i0] at h
 by_cases i1:(p.Xn.length:Int)<=t
 ·simp [tblE,p5 i1] at h
 obtain ⟨k,rfl⟩:∃k:Nat,t=k:=⟨t.toNat,by omega⟩;have hk:k<p.Xn.length:=by omega
 refine ⟨k,hk,rfl,?_⟩;unfold tblE at h;rw [L5,Qa hk] at h;dsimp only at h;by_cases z0:idS p.Xn[k].name=false
 ·rw [aE z0] at h;cases h
 rw [QA z0] at h;by_cases z1:6<p.Xn[k].keys.length\/16<p.Xn[k].Xy.length
 ·rw [aE z1] at h;cases h
 rw [QA z1] at h;by_cases z2:p.Xn[k].size<1\/256<p.Xn[k].size
 ·rw [aE z2] at h;cases h
 rw [QA z2] at h;by_cases z3:(tI p p.Xn[k]).2≠0
 ·rw [aE z3] at h;exact absurd h z3
 refine ⟨by omega,by omega,?_,by omega⟩;unfold tI at z3;cases q:keyE p p.Xn[k] with
 | none=>exact keyV q
 | some e=>
  exfalso;rw [q] at z3;dsimp only at z3;obtain ⟨i,hi,hx⟩:=GH q;simp only [Qt] at hx;obtain ⟨y,_,hy⟩:=hx;split at hy
  ·cases hy;exact z3 (by simp)
  ·split at hy
   ·cases hy
   ·cases hy;exact z3 (by simp)
theorem Eb (p:Prg) (f:PrgS p) (t:Int):aA Φ sE [.agg (Prg.c p),a8 t]=some (.val (.bool (tOk p t))):=by
 rw [aD rfl rfl];have h:=Ol p f t;simp only [Prg.e] at h;simp [ES,Prg.e,h,tOk]
theorem De (p:Prg) (f:PrgS p) (hv:∀t∈p.Xn,∀v∈t.Yc.args,ok32 0 v) (t:Int):aA Φ sB [.agg (Prg.c p),a8 t]=some (.val (.bool (tOk p t))):=by
 rw [aD rfl rfl];have h:=Nm p f hv t;simp only [Prg.e] at h;simp [EL,Prg.e,h,tOk]
def kMax:List Xl->Int->Int
 | [],a=>a
 | k::r,a=>kMax r (max a k.kind)
def AL (p:Prg) (t:Int):Int:=if tOk p t then (match at? p.Xn t with
 | some x=>kMax x.keys 1
 | none=>0) else 0
theorem MY:∀(l:List Xl) (a:Int),a=3->(∀x∈l,x.kind=1\/x.kind=2\/x.kind=3)->kMax l a=3
 | [],a,h,_=>h
 | k::r,a,h,hk=>by
  subst h;have:=hk k (by simp);simp only [kMax];exact MY r _ (by omega) fun x hx=>hk x (by simp [hx])
theorem W9 (p:Prg) (f:PrgS p) (t:Int):aA Φ yS [.agg (Prg.c p),a8 t]=some (.val (a8 (AL p t))):=by
 rw [aD rfl rfl];have h:=Eb p f t;simp only [Prg.e] at h;cases q:tOk p t with
 | false=>
  rw [q] at h;simp [wN,Prg.e,h,AL,q]
 | true=>
 rw [q] at h;obtain ⟨k,hk,rfl,o⟩:=GQ q;have hK:AL p (k:Int)=kMax p.Xn[k].keys 1:=by simp [AL,q,hk]
 rw [hK];have hb:=o.keys;simp [wN,Prg.e,h,hk,Tbl.e];refine cZ p.Xn[k].keys.length (fun _=>[]) 0 (fun i e=>look 17 e=some (.slice 3 (p.Xn[k].keys.map Xl.c))/\look 18 e=some (a8 p.Xn[k].keys.length)/\look 19 e=some (a8 i)/\∃a:Int,look 5 e=some (a8 a)/\(a=1\/a=2)/\kMax (p.Xn[k].keys.drop i) a=kMax p.Xn[k].keys 1)
  (fun _=>some (Rt.val (a8 (kMax p.Xn[k].keys 1)))) ?_ ?_ 0 _ 0 (Qc _) (Qb _) ?_
 ·rintro i e n L hi hL _ ⟨h17,h18,h19,a,h5,ha,hm⟩ ih;have hw:=aL i (by omega);rw [Qi hi] at hm;simp only [kMax] at hm;have hkk:=o.kinds _ (Qd hi);by_cases k3:p.Xn[k].keys[i].kind=3
  ·have:kMax p.Xn[k].keys 1=3:=by
    rw [<- hm];exact MY _ _ (by omega) fun x hx=>o.kinds x (B4 hx)
   rw [this];simp [c_185_l0,Xl.e,h17,h18,h19,hi,k3]
  by_cases k2:p.Xn[k].keys[i].kind=2
  ·simp [c_185_l0,Xl.e,h17,h18,h19,hi,k2,hw];exact ih _ _ (Qc _) ⟨by simp [h17],by simp [h18],by simp,2,by simp,.inr rfl,by rw [<- hm];congr 1;omega⟩
  ·simp [c_185_l0,Xl.e,h17,h18,h19,hi,k3,k2,hw];exact ih _ _ (Qc _) ⟨by simp [h17],by simp [h18],by simp,a,by simp [h5],ha,by rw [<- hm];congr 1;omega⟩
 ·rintro e n L hL _ ⟨h17,h18,h19,a,h5,ha,hm⟩;rw [DU] at hm;simp only [kMax] at hm;rw [<- hm];simp [c_185_l0,c_185_k1,h5,h18,h19,hL]
 ·simp
theorem WJ (p:Prg) (f:PrgS p) (hv:∀t∈p.Xn,∀v∈t.Yc.args,ok32 0 v) (t:Int):aA Φ zA [.agg (Prg.c p),a8 t]=some (.val (a8 (AL p t))):=by
 rw [aD rfl rfl];have h:=De p f hv t;simp only [Prg.e] at h;cases q:tOk p t with
 | false=>
  rw [q] at h;simp [wV,Prg.e,h,AL,q]
 | true=>
 rw [q] at h;obtain ⟨k,hk,rfl,o⟩:=GQ q;have hK:AL p (k:Int)=kMax p.Xn[k].keys 1:=by simp [AL,q,hk]
 rw [hK];have hb:=o.keys;simp [wV,Prg.e,h];refine cZ p.Xn[k].keys.length (fun _=>[]) 0 (fun i e=>look 2 e=some (.iptr 9 [Prg.c p] 0 0)/\look 1 e=some (a8 k)/\look 6 e=some (a8 i)/\∃a:Int,look 5 e=some (a8 a)/\kMax (p.Xn[k].keys.drop i) a=kMax p.Xn[k].keys 1)
  (fun _=>some (Rt.val (a8 (kMax p.Xn[k].keys 1)))) ?_ ?_ 0 _ 0 (Qc _) (Qb _) ?_
 ·rintro i e n L hi hL _ ⟨h2,h1,h6,a,h5,hm⟩ ih;have hw:=aL i (by omega);rw [Qi hi] at hm;simp only [kMax] at hm;rw [Prg.e] at h2;simp [c_216_l0,Xl.e,Tbl.e,h1,h2,h5,h6,hk,hi,hw];exact ih _ _ (Qc _) ⟨by simp [h2,Prg.e],by simp [h1],by simp,max a p.Xn[k].keys[i].kind,by simp;split<;>omega,hm⟩
 ·rintro e n L hL _ ⟨h2,h1,h6,a,h5,hm⟩;rw [DU] at hm;simp only [kMax] at hm;rw [Prg.e] at h2;rw [<- hm];simp [c_216_l0,c_216_k1,Tbl.e,h1,h2,h5,h6,hk,hL]
 ·simp [Prg.e]
theorem qyz (p:Prg) (f:PrgS p) (k:Nat) (hk:k<p.Xn.length) (q:tOk p k=true):aA Φ rS [.agg (Prg.c p),a8 k]=some (.val (.slice 1 ((kWid p p.Xn[k]).map cI))):=by
 rw [aD rfl rfl];have h:=Eb p f k;rw [q] at h;simp only [Prg.e] at h;obtain ⟨k',hk',e,o⟩:=GQ q;obtain rfl:k=k':=by omega
 have hb:=o.keys;have e0:(kWid p p.Xn[k]).map cI=p.Xn[k].keys.map fun y=>[a8 (wid p y.field.header y.field.field)]:=by simp [kWid,cI]
 rw [e0];simp [ED,Prg.e,h,hk,Tbl.e];refine (cZ p.Xn[k].keys.length (fun i=>[(0,.tok 1 i)]) 1 (fun i e=>look 2 e=some (.iptr 9 [Prg.c p] 0 0)/\look 5 e=some (.app 1 ((p.Xn[k].keys.map fun y=>[a8 (wid p y.field.header y.field.field)]).take i) 0)/\look 17 e=some (.slice 3 (p.Xn[k].keys.map Xl.c))/\look 18 e=some (a8 p.Xn[k].keys.length)/\look 19 e=some (a8 i))
  (fun _=>some (Rt.val (.slice 1 (p.Xn[k].keys.map fun y=>[a8 (wid p y.field.header y.field.field)])))) ?_ ?_ 0 _ 1 (Qc _) (Qb _) ?_).trans (by simp)
 ·rintro i e n L hi hL hn ⟨h2,h5,h17,h18,h19⟩ ih;have hw:=aL i (by omega);have hv:=NB p p.Xn[k].keys[i].field.header p.Xn[k].keys[i].field.field;simp only [Prg.e] at hv;rw [Prg.e] at h2;have hn0:¬(0=n):=by omega
  have hn1:¬(n=0):=by omega
  have hm:min i p.Xn[k].keys.length=i:=by omega
  have hb:(i+1)*8<=70368744177664:=by omega
  simp [c_183_l0,Xl.e,h2,h5,h17,h18,h19,hi,hw,hn0,hm,hb,hv];exact ih _ _ (by omega) ⟨by simp [h2,Prg.e],by simp [mJ hi],by simp [h17],by simp [h18],by simp⟩
 ·rintro e n L hL hn ⟨h2,h5,h17,h18,h19⟩;simp [c_183_l0,c_183_k1,h5,h18,h19,hL]
 ·simp [Prg.e]
theorem qyk (p:Prg) (f:PrgS p) (hv:∀t∈p.Xn,∀v∈t.Yc.args,ok32 0 v) (k:Nat) (hk:k<p.Xn.length) (q:tOk p k=true):aA Φ sA [.agg (Prg.c p),a8 k]=some (.val (.slice 1 ((kWid p p.Xn[k]).map cI))):=by
 rw [aD rfl rfl];have h:=De p f hv k;rw [q] at h;simp only [Prg.e] at h;obtain ⟨k',hk',e,o⟩:=GQ q;obtain rfl:k=k':=by omega
 have hb:=o.keys;have e0:(kWid p p.Xn[k]).map cI=p.Xn[k].keys.map fun y=>[a8 (wid p y.field.header y.field.field)]:=by simp [kWid,cI]
 rw [e0];simp [EK,Prg.e,h];refine (cZ p.Xn[k].keys.length (fun i=>[(0,.tok 1 i)]) 1 (fun i e=>look 2 e=some (.iptr 9 [Prg.c p] 0 0)/\look 1 e=some (a8 k)/\look 5 e=some (.app 1 ((p.Xn[k].keys.map fun y=>[a8 (wid p y.field.header y.field.field)]).take i) 0)/\look 6 e=some (a8 i))
  (fun _=>some (Rt.val (.slice 1 (p.Xn[k].keys.map fun y=>[a8 (wid p y.field.header y.field.field)])))) ?_ ?_ 0 _ 1 (Qc _) (Qb _) ?_).trans (by simp)
 ·rintro i e n L hi hL hn ⟨h2,h1,h5,h6⟩ ih;have hw:=aL i (by omega);have hv:=Lz p p.Xn[k].keys[i].field.header p.Xn[k].keys[i].field.field;simp only [Prg.e] at hv;rw [Prg.e] at h2;have hn0:¬(0=n):=by omega
  have hn1:¬(n=0):=by omega
  have hm:min i p.Xn[k].keys.length=i:=by omega
  have hb:(i+1)*8<=70368744177664:=by omega
  simp [c_214_l0,Xl.e,Tbl.e,h1,h2,h5,h6,hk,hi,hw,hm,hb,hv];exact ih _ _ (by omega) ⟨by simp [h2,Prg.e],by simp [h1],by simp [mJ hi],by simp⟩
 ·rintro e n L hL hn ⟨h2,h1,h5,h6⟩;rw [Prg.e] at h2;simp [c_214_l0,c_214_k1,Tbl.e,h1,h2,h5,h6,hk,hL]
 ·simp [Prg.e]
def tAl (p:Prg) (t a:Int):Bool:=tOk p t&&(match at? p.Xn t with
 | some x=>x.Xy.any fun s=>decide (s=a)
 | none=>false)
theorem Ky (p:Prg) (f:PrgS p) (t a:Int):aA Φ rT [.agg (Prg.c p),a8 t,a8 a]=some (.val (.bool (tAl p t a))):=by
 rw [aD rfl rfl];have h:=Eb p f t;simp only [Prg.e] at h;cases q:tOk p t with
 | false=>
  rw [q] at h;simp [wO,Prg.e,h,tAl,q]
 | true=>
 rw [q] at h;obtain ⟨k,hk,rfl,o⟩:=GQ q;have hK:tAl p (k:Int) a=p.Xn[k].Xy.any fun s=>decide (s=a):=by simp [tAl,q,hk]
 rw [hK];have hb:=o.acts;simp [wO,Prg.e,h,hk,Tbl.e];refine (cZ p.Xn[k].Xy.length (fun _=>[]) 0 (fun i e=>look 2 e=some (a8 a)/\look 18 e=some (.slice 1 (p.Xn[k].Xy.map cI))/\look 19 e=some (a8 p.Xn[k].Xy.length)/\look 20 e=some (a8 i))
  (fun i=>some (Rt.val (.bool ((p.Xn[k].Xy.drop i).any fun s=>decide (s=a))))) ?_ ?_ 0 _ 0 (Qc _) (Qb _) ?_).trans (by simp)
 ·rintro i e n L hi hL _ ⟨h2,h18,h19,h20⟩ ih;have hw:=aL i (by omega);rw [Qi hi,BV];by_cases z:p.Xn[k].Xy[i]=a
  ·generalize hX:some (Rt.val (AV.bool (decide (p.Xn[k].Xy[i]=a) || (p.Xn[k].Xy.drop (i+1)).any fun s=>decide (s=a))))=X;simp [c_186_l0,cI,h2,h18,h19,h20,hi,z];rw [<- hX];simp [z]
  ·rw [show (decide (p.Xn[k].Xy[i]=a) || (p.Xn[k].Xy.drop (i+1)).any fun s=>decide (s=a))=(p.Xn[k].Xy.drop (i+1)).any fun s=>decide (s=a) by simp [z]];generalize hX:some (Rt.val (AV.bool ((p.Xn[k].Xy.drop (i+1)).any fun s=>decide (s=a))))=X;simp [c_186_l0,cI,h2,h18,h19,h20,hi,z,hw];rw [<- hX];exact ih _ _ (Qc _) ⟨by simp [h2],by simp [h18],by simp [h19],by simp⟩
 ·rintro e n L hL _ ⟨h2,h18,h19,h20⟩;simp [c_186_l0,c_186_k1,h19,h20,hL]
 ·simp
theorem Jy (p:Prg) (f:PrgS p) (hv:∀t∈p.Xn,∀v∈t.Yc.args,ok32 0 v) (t a:Int):aA Φ rO [.agg (Prg.c p),a8 t,a8 a]=some (.val (.bool (tAl p t a))):=by
 rw [aD rfl rfl];have h:=De p f hv t;simp only [Prg.e] at h;cases q:tOk p t with
 | false=>
  rw [q] at h;simp [wK,Prg.e,h,tAl,q]
 | true=>
 rw [q] at h;obtain ⟨k,hk,rfl,o⟩:=GQ q;have hK:tAl p (k:Int) a=p.Xn[k].Xy.any fun s=>decide (s=a):=by simp [tAl,q,hk]
 have hb:=o.acts;have hx:=Dm p.Xn[k].Xy a (by omega);rw [hK,<- SD];simp [wK,Prg.e,Tbl.e,h,hk,hx]
def pmI (n k:Nat):Int:=2^k - 2^(k - n)
theorem Ae:∀k:Nat,k<33->∀n:Nat,n<33->n<=k->KM .u32 (2^k - 1) (ishr .u32 (2^k - 1) (n:Int))=pmI n k:=by decide+kernel
theorem V7 (n k:Nat) (h:n<=k) (h1:1<=k) (h2:k<=32):aA Φ zX [a8 n,a8 k]=some (.val (.int .u32 (pmI n k))):=by
 rw [aD rfl rfl];have hv:=QY k;have hm:=KQ k;have hw:wBad (k:Int)=false:=wBad_false.2 ⟨by omega,by omega⟩;have hM:fC (k:Int)=2^k - 1:=by simp [fC,hw]
 rw [hw] at hv;rw [hM] at hm;have hp:=Ae k (by omega) n (by omega) h;have n1:¬((n:Int)<0):=by omega
 have n2:¬((k:Int)<n):=by omega
 simp [FF,hv,hm,n1,n2];exact hp
theorem Bj:∀k:Nat,k<33->∀n:Nat,n<33->n<=k->IntKind.wrap .u32 (IntKind.wrap .u64 (2^k - 2^(k - n)))=pmI n k:=by decide+kernel
theorem TK (n k:Nat) (h:n<=k) (h1:1<=k) (h2:k<=32):aA Φ A1 [a8 n,a8 k]=some (.val (.int .u32 (pmI n k))):=by
 rw [aD rfl rfl];have hv:=QX k;have hw:wBad (k:Int)=false:=wBad_false.2 ⟨by omega,by omega⟩;rw [hw] at hv;have p1:=RD k (by omega);have p2:=RD (k - n) (by omega);have hs:IntKind.wrap .i64 ((k:Int) - n)=((k - n:Nat):Int):=by
  rw [show (k:Int) - n=((k - n:Nat):Int) by omega];exact fG (by omega) (by omega)
 have n1:¬((n:Int)<0):=by omega
 have n2:¬((k:Int)<n):=by omega
 simp [FI,hv,p1,p2,n1,n2,hs];exact Bj k (by omega) n (by omega) h
def plG (m:Int) (k:Nat) (n:Nat):Option Int:=if pmI n k=m then some (n:Int) else none
def plE (m w:Int):Option Int:=if wBad w then none else fe (plG m w.toNat) (w.toNat+1) 0
def plV (o:Option Int):Rt:= .val (.tup [a8 (o.getD 0),.bool o.isSome])
theorem ZC (m w:Int):aA Φ zF [.int .u32 m,a8 w]=some (plV (plE m w)):=by
 rw [aD rfl rfl];have hv:=QY w;cases q:wBad w with
 | true=>
  rw [q] at hv;simp [wY,hv,plE,q,plV]
 | false=>
 rw [q] at hv;obtain ⟨w1,w2⟩:=wBad_false.1 q;obtain ⟨k,rfl⟩:∃k:Nat,w=k:=⟨w.toNat,by omega⟩;have hw1:=aL k (by omega);have hE:plE m (k:Int)=fe (plG m k) (k+1) 0:=by simp [plE,q]
 rw [hE];simp [wY,hv,hw1];refine cZ (k+1) (fun _=>[]) 0 (fun i e=>look 0 e=some (.int .u32 m)/\look 1 e=some (a8 k)/\look 12 e=some (a8 ((k:Int)+1))/\look 13 e=some (a8 i))
  (fun i=>some (plV (fe (plG m k) (k+1) i))) ?_ ?_ 0 _ 0 (Qc _) (Qb _) ?_
 ·rintro i e n L hi hL _ ⟨h0,h1,h12,h13⟩ ih;have hw:=aL i (by omega);have hp:=V7 i k (by omega) (by omega) (by omega);have hlt:(i:Int)<(k:Int)+1:=by omega
  by_cases z:pmI i k=m
  ·rw [fB (x:=(i:Int)) hi (by simp [plG,z])];subst z;simp [c_248_l0,h0,h1,h12,h13,hp,hlt,plV]
  ·rw [gA hi (by simp [plG,z])];generalize hX:some (plV (fe (plG m k) (k+1) (i+1)))=X;simp [c_248_l0,h0,h1,h12,h13,hp,hlt,z,hw];rw [<- hX];exact ih _ _ (Qc _) ⟨by simp [h0],by simp [h1],by simp [h12],by simp⟩
 ·rintro e n L hL _ ⟨h0,h1,h12,h13⟩;rw [jG];simp [c_248_l0,c_248_k1,h12,h13,hL,plV]
 ·simp
theorem WN (m w:Int):aA Φ zO [.int .u32 m,a8 w]=some (plV (plE m w)):=by
 rw [aD rfl rfl];have hv:=QX w;cases q:wBad w with
 | true=>
  rw [q] at hv;simp [xT];rw [fA];by_cases z:0<=w
  ·simp [c_283_l0,c_283_k1,hv,z,plE,q,plV]
  ·simp [c_283_l0,c_283_k1,z,plE,q,plV]
 | false=>
 rw [q] at hv;obtain ⟨w1,w2⟩:=wBad_false.1 q;obtain ⟨k,rfl⟩:∃k:Nat,w=k:=⟨w.toNat,by omega⟩;have hE:plE m (k:Int)=fe (plG m k) (k+1) 0:=by simp [plE,q]
 rw [hE];simp [xT];refine cZ (k+1) (fun _=>[]) 0 (fun i e=>look 0 e=some (.int .u32 m)/\look 1 e=some (a8 k)/\look 6 e=some (a8 i))
  (fun i=>some (plV (fe (plG m k) (k+1) i))) ?_ ?_ 0 _ 0 (Qc _) (Qb _) ?_
 ·rintro i e n L hi hL _ ⟨h0,h1,h6⟩ ih;have hw:=aL i (by omega);have hp:=TK i k (by omega) (by omega) (by omega);have hle:i<=k:=by omega
  by_cases z:pmI i k=m
  ·rw [fB (x:=(i:Int)) hi (by simp [plG,z])];subst z;simp [c_283_l0,h0,h1,h6,hv,hp,hle,plV]
  ·rw [gA hi (by simp [plG,z])];generalize hX:some (plV (fe (plG m k) (k+1) (i+1)))=X;simp [c_283_l0,h0,h1,h6,hv,hp,hle,z,hw];rw [<- hX];exact ih _ _ (Qc _) ⟨by simp [h0],by simp [h1],by simp⟩
 ·rintro e n L hL _ ⟨h0,h1,h6⟩;rw [jG];have hgt:¬((k:Int)+1<=(k:Int)):=by omega
  simp [c_283_l0,c_283_k1,h1,h6,hL,hgt,plV]
 ·simp
theorem Xi.ce (m:Xi):Xi.c m=[.int .u32 m.value,.int .u32 m.Ye]:=by simp [Xi.c]
def keyK (m:Xi) (kind w:Int):Int:=
 if fits m.value w=false\/fits m.Ye w=false then 9
 else if m.value.toNat&&& m.Ye.toNat≠m.value.toNat then 5
 else if kind=1/\m.Ye≠fC w then 11
 else if kind=2/\(plE m.Ye w).isSome=false then 11 else 0
theorem XB (m:Xi) (kind w:Int) (h1:ok32 0 m.value) (h2:ok32 0 m.Ye):aA Φ yR [.agg (Xi.c m),a8 kind,a8 w]=some (.val (a8 (keyK m kind w))):=by
 rw [aD rfl rfl];have f1:=Ew m.value w;have f2:=Ew m.Ye w;have hm:=KQ w;have hp:=ZC m.Ye w;have ha:=qtc h1 h2;unfold keyK;cases q1:fits m.value w with
 | false=>rw [q1] at f1;simp [fQ,Xi.ce,f1]
 | true=>
 rw [q1] at f1;cases q2:fits m.Ye w with
 | false=>rw [q2] at f2;simp [fQ,Xi.ce,f1,f2]
 | true=>
 rw [q2] at f2;by_cases z:KM .u32 m.value m.Ye=0
 rotate_left
 ·have z':¬(m.value.toNat&&& m.Ye.toNat=m.value.toNat):=fun h=>z (ha.2 h)
  simp [fQ,Xi.ce,f1,f2,z,z']
 have z':=ha.1 z;by_cases k1:kind=1
 ·subst k1;by_cases y:m.Ye=fC w
  ·rw [y] at f2 z z';simp [fQ,Xi.ce,f1,f2,z,z',hm,y]
  ·simp [fQ,Xi.ce,f1,f2,z,z',hm,y]
 by_cases k2:kind=2
 ·subst k2;cases y:plE m.Ye w with
  | none=>rw [y] at hp;simp [plV] at hp;simp [fQ,Xi.ce,f1,f2,z,z',hp]
  | some x=>rw [y] at hp;simp [plV] at hp;simp [fQ,Xi.ce,f1,f2,z,z',hp]
 simp [fQ,Xi.ce,f1,f2,z,z',k1,k2]
theorem ZN (m:Xi) (kind w:Int) (h1:ok32 0 m.value) (h2:ok32 0 m.Ye):aA Φ yZ [.agg (Xi.c m),a8 w,a8 kind]=some (.val (a8 (keyK m kind w))):=by
 rw [aD rfl rfl];have f1:=RE m.value w h1;have f2:=RE m.Ye w h2;have hm:=WK w;have hp:=WN m.Ye w;have ha:=TO h1 h2;simp [plV] at hp;unfold keyK;cases q1:fits m.value w with
 | false=>rw [q1] at f1;simp [fS,Xi.ce,hp,f1]
 | true=>
 rw [q1] at f1;cases q2:fits m.Ye w with
 | false=>rw [q2] at f2;simp [fS,Xi.ce,hp,f1,f2]
 | true=>
 rw [q2] at f2;by_cases z:iand .u32 m.value m.Ye=m.value
 rotate_left
 ·have z':¬(m.value.toNat&&& m.Ye.toNat=m.value.toNat):=fun h=>z (ha.2 h)
  simp [fS,Xi.ce,hp,f1,f2,z,z']
 have z':=ha.1 z;by_cases k1:kind=1
 ·subst k1;by_cases y:m.Ye=fC w
  ·rw [y] at hp f2 z z';simp [fS,Xi.ce,hp,f1,f2,z,z',hm,y]
  ·simp [fS,Xi.ce,hp,f1,f2,z,z',hm,y]
 by_cases k2:kind=2
 ·subst k2;cases y:plE m.Ye w with
  | none=>rw [y] at hp;simp [fS,Xi.ce,f1,f2,z,z',hp]
  | some x=>rw [y] at hp;simp [fS,Xi.ce,f1,f2,z,z',hp]
 simp [fS,Xi.ce,hp,f1,f2,z,z',k1,k2]
structure EntS (x:Entry):Prop where
 kl:x.keys.length<2^40
 ks:∀m∈x.keys,ok32 0 m.value/\ok32 0 m.Ye
 al:x.call.args.length<2^40
 ar:∀v∈x.call.args,ok32 0 v
def entF (p:Prg) (t:Int) (x:Entry):Int:=if x.Xt<0 then 9 else if 255<x.Xt then 9 else if x.Xt≠0/\AL p t≠3 then 11 else if tAl p t x.call.Xz=false then 8 else iC p x.call
def entG (p:Prg) (tb:Tbl) (x:Entry) (i:Nat):Option Int:=match x.keys[i]?,tb.keys[i]? with
 | some m,some k=>if keyK m k.kind (wid p k.field.header k.field.field)=0 then none else some (keyK m k.kind (wid p k.field.header k.field.field))
 | _,_=>none
def entE (p:Prg) (t:Int) (x:Entry):Int:=if (tblE p t).2≠0 then (tblE p t).2 else match at? p.Xn t with
 | some tb=>if x.keys.length≠tb.keys.length then 2 else (fe (entG p tb x) tb.keys.length 0).getD (entF p t x)
 | none=>0
theorem XD (p:Prg) (f:PrgS p) (t:Int) (x:Entry) (s:EntS x) (e:Env) (n:Nat) (h1:look 1 e=some (a8 t)) (h3:look 3 e=some (.iptr 9 [Prg.c p] 0 0)) (h5:look 5 e=some (.iptr 4 [Entry.c x] 0 0)):
  go Φ (finP [.tmp 6]) [.c c_127_k1] .normal ⟨e,⟨[],n⟩⟩=some (.val (a8 (entF p t x))):=by
 have hk:=W9 p f t;have ha:=Ky p f t x.call.Xz;have hc:=Ej p f x.call s.al;simp only [Prg.e,Xb.ce] at hk ha hc;rw [Prg.e] at h3;rw [Entry.ce] at h5;unfold entF;by_cases p0:x.Xt<0
 ·simp [c_127_k1,h5,p0]
 by_cases p1:255<x.Xt
 ·simp [c_127_k1,h5,p0,p1]
 by_cases p2:x.Xt=0
 ·cases q:tAl p t x.call.Xz with
  | false=>rw [q] at ha;simp [c_127_k1,h1,h3,h5,p2,ha]
  | true=>rw [q] at ha;simp [c_127_k1,h1,h3,h5,p2,ha,hc]
 by_cases p3:AL p t=3
 ·cases q:tAl p t x.call.Xz with
  | false=>rw [q] at ha;simp [c_127_k1,h1,h3,h5,p0,p1,p2,p3,hk,ha]
  | true=>rw [q] at ha;simp [c_127_k1,h1,h3,h5,p0,p1,p2,p3,hk,ha,hc]
 ·simp [c_127_k1,h1,h3,h5,p0,p1,p2,p3,hk]
theorem Of (p:Prg) (f:PrgS p) (t:Int) (x:Entry) (s:EntS x):aA Φ rL [.agg (Prg.c p),a8 t,.agg (Entry.c x)]=some (.val (a8 (entE p t x))):=by
 rw [aD rfl rfl];have h:=Ol p f t;simp only [Prg.e] at h;by_cases z:(tblE p t).2=0
 rotate_left
 ·simp [qO,Prg.e,Entry.ce,h,z,entE]
 have q:tOk p t=true:=by simp [tOk,z]
 obtain ⟨k,hk,rfl,o⟩:=GQ q;have hw:=qyz p f k hk q;simp only [Prg.e] at hw;have hb:=o.keys;by_cases y:x.keys.length=p.Xn[k].keys.length
 rotate_left
 ·simp [qO,Prg.e,Entry.ce,Tbl.e,hk,h,z,hw,y,entE]
 have hE:entE p (k:Int) x=(fe (entG p p.Xn[k] x) p.Xn[k].keys.length 0).getD (entF p k x):=by simp [entE,z,hk,y]
 rw [hE];simp [qO,Prg.e,Entry.ce,Tbl.e,hk,h,z,hw,y];refine cZ p.Xn[k].keys.length (fun _=>[]) 0 (fun i e=>look 1 e=some (a8 k)/\look 3 e=some (.iptr 9 [Prg.c p] 0 0)/\look 5 e=some (.iptr 4 [Entry.c x] 0 0)/\look 9 e=some (.slice 3 (p.Xn[k].keys.map Xl.c))/\look 10 e=some (.slice 1 ((kWid p p.Xn[k]).map cI))/\look 39 e=some (.slice 2 (x.keys.map Xi.c))/\look 40 e=some (a8 p.Xn[k].keys.length)/\look 41 e=some (a8 i))
  (fun i=>some (Rt.val (a8 ((fe (entG p p.Xn[k] x) p.Xn[k].keys.length i).getD (entF p k x))))) ?_ ?_ 0 _ 0 (Qc _) (Qb _) ?_
 ·rintro i e n L hi hL _ ⟨h1,h3,h5,h9,h10,h39,h40,h41⟩ ih;have hi2:i<x.keys.length:=by omega
  have hi3:i<(kWid p p.Xn[k]).length:=by simp [kWid];exact hi
  have hkw:(kWid p p.Xn[k])[i]=wid p p.Xn[k].keys[i].field.header p.Xn[k].keys[i].field.field:=by simp [kWid]
  have hw:=aL i (by omega);have hm:=s.ks _ (Qd hi2);have hc:=XB x.keys[i] p.Xn[k].keys[i].kind (wid p p.Xn[k].keys[i].field.header p.Xn[k].keys[i].field.field) hm.1 hm.2;simp only [Xi.ce] at hc;by_cases v:keyK x.keys[i] p.Xn[k].keys[i].kind (wid p p.Xn[k].keys[i].field.header p.Xn[k].keys[i].field.field)=0
  ·rw [gA hi (by simp [entG,hi,hi2,v])];rw [v] at hc;generalize hX:some (Rt.val (a8 ((fe (entG p p.Xn[k] x) p.Xn[k].keys.length (i+1)).getD (entF p k x))))=X;simp [c_127_l0,Xl.e,Xi.ce,cI,h9,h10,h39,h40,h41,hi,hi2,hi3,hkw,hc,hw];rw [<- hX];exact ih _ _ (Qc _) ⟨by simp [h1],by simp [h3],by simp [h5],by simp [h9],by simp [h10],by simp [h39],by simp [h40],by simp⟩
  ·rw [fB (x:=keyK x.keys[i] p.Xn[k].keys[i].kind (wid p p.Xn[k].keys[i].field.header p.Xn[k].keys[i].field.field)) hi (by simp [entG,hi,hi2,v])];simp [c_127_l0,Xl.e,Xi.ce,cI,h9,h10,h39,h40,h41,hi,hi2,hi3,hkw,hc,v]
 ·rintro e n L hL _ ⟨h1,h3,h5,h9,h10,h39,h40,h41⟩;rw [jG];simp [c_127_l0,h40,h41,hL];exact XD p f k x s _ _ (by simp [h1]) (by simp [h3]) (by simp [h5])
 ·simp [Prg.e,Entry.ce]
theorem WG (p:Prg) (f:PrgS p) (hv:∀t∈p.Xn,∀v∈t.Yc.args,ok32 0 v) (t:Int) (x:Entry) (s:EntS x) (e:Env) (n:Nat) (h1:look 1 e=some (a8 t)) (h3:look 3 e=some (.iptr 9 [Prg.c p] 0 0)) (h5:look 5 e=some (.iptr 4 [Entry.c x] 0 0)):
  go Φ (finP [.tmp 6]) [.c c_146_k1] .normal ⟨e,⟨[],n⟩⟩=some (.val (a8 (entF p t x))):=by
 have hk:=WJ p f hv t;have ha:=Jy p f hv t x.call.Xz;have hc:=QW p f x.call s.al s.ar;simp only [Prg.e,Xb.ce] at hk ha hc;rw [Prg.e] at h3;rw [Entry.ce] at h5;unfold entF;by_cases p0:x.Xt<0
 ·simp [c_146_k1,h5,p0]
 by_cases p1:255<x.Xt
 ·simp [c_146_k1,h5,p0,p1]
 by_cases p2:x.Xt=0
 ·cases q:tAl p t x.call.Xz with
  | false=>rw [q] at ha;simp [c_146_k1,h1,h3,h5,p2,ha]
  | true=>rw [q] at ha;simp [c_146_k1,h1,h3,h5,p2,ha,hc]
 have p4:0<x.Xt:=by omega
 by_cases p3:AL p t=3
 ·cases q:tAl p t x.call.Xz with
  | false=>rw [q] at ha;simp [c_146_k1,h1,h3,h5,p0,p1,p2,p3,p4,hk,ha]
  | true=>rw [q] at ha;simp [c_146_k1,h1,h3,h5,p0,p1,p2,p3,p4,hk,ha,hc]
 ·simp [c_146_k1,h1,h3,h5,p0,p1,p2,p3,p4,hk]
theorem Nj (p:Prg) (f:PrgS p) (hv:∀t∈p.Xn,∀v∈t.Yc.args,ok32 0 v) (t:Int) (x:Entry) (s:EntS x):aA Φ rN [.agg (Prg.c p),a8 t,.agg (Entry.c x)]=some (.val (a8 (entE p t x))):=by
 rw [aD rfl rfl];have h:=Nm p f hv t;simp only [Prg.e] at h;by_cases z:(tblE p t).2=0
 rotate_left
 ·simp [qQ,Prg.e,Entry.ce,h,z,entE]
 have q:tOk p t=true:=by simp [tOk,z]
 obtain ⟨k,hk,rfl,o⟩:=GQ q;have hw:=qyk p f hv k hk q;simp only [Prg.e] at hw;have hb:=o.keys;have hkl:(kWid p p.Xn[k]).length=p.Xn[k].keys.length:=by simp [kWid]
 by_cases y:x.keys.length=p.Xn[k].keys.length
 rotate_left
 ·simp [qQ,Prg.e,Entry.ce,hk,h,z,hw,y,hkl,entE]
 have hE:entE p (k:Int) x=(fe (entG p p.Xn[k] x) p.Xn[k].keys.length 0).getD (entF p k x):=by simp [entE,z,hk,y]
 rw [hE];simp [qQ,Prg.e,Entry.ce,h,z,hw,y,hkl];refine cZ p.Xn[k].keys.length (fun _=>[]) 0 (fun i e=>look 1 e=some (a8 k)/\look 3 e=some (.iptr 9 [Prg.c p] 0 0)/\look 5 e=some (.iptr 4 [Entry.c x] 0 0)/\look 9 e=some (.slice 1 ((kWid p p.Xn[k]).map cI))/\look 10 e=some (a8 i))
  (fun i=>some (Rt.val (a8 ((fe (entG p p.Xn[k] x) p.Xn[k].keys.length i).getD (entF p k x))))) ?_ ?_ 0 _ 0 (Qc _) (Qb _) ?_
 ·rintro i e n L hi hL _ ⟨h1,h3,h5,h9,h10⟩ ih;have hi2:i<x.keys.length:=by omega
  have hi3:i<(kWid p p.Xn[k]).length:=by omega
  have hkw:(kWid p p.Xn[k])[i]=wid p p.Xn[k].keys[i].field.header p.Xn[k].keys[i].field.field:=by simp [kWid]
  have hw:=aL i (by omega);have hm:=s.ks _ (Qd hi2);have hc:=ZN x.keys[i] p.Xn[k].keys[i].kind (wid p p.Xn[k].keys[i].field.header p.Xn[k].keys[i].field.field) hm.1 hm.2;simp only [Xi.ce] at hc;rw [Prg.e] at h3;rw [Entry.ce] at h5;by_cases v:keyK x.keys[i] p.Xn[k].keys[i].kind (wid p p.Xn[k].keys[i].field.header p.Xn[k].keys[i].field.field)=0
  ·rw [gA hi (by simp [entG,hi,hi2,v])];rw [v] at hc;generalize hX:some (Rt.val (a8 ((fe (entG p p.Xn[k] x) p.Xn[k].keys.length (i+1)).getD (entF p k x))))=X;simp [c_146_l0,Xl.e,Tbl.e,Xi.ce,cI,h1,h3,h5,h9,h10,hk,hkl,hi,hi2,hkw,hc,hw];rw [<- hX];exact ih _ _ (Qc _) ⟨by simp [h1],by simp [h3,Prg.e],by simp [h5,Entry.ce],by simp [h9],by simp⟩
  ·rw [fB (x:=keyK x.keys[i] p.Xn[k].keys[i].kind (wid p p.Xn[k].keys[i].field.header p.Xn[k].keys[i].field.field)) hi (by simp [entG,hi,hi2,v])];simp [c_146_l0,Xl.e,Tbl.e,Xi.ce,cI,h1,h3,h5,h9,h10,hk,hkl,hi,hi2,hkw,hc,v]
 ·rintro e n L hL _ ⟨h1,h3,h5,h9,h10⟩;rw [jG];simp [c_146_l0,h9,h10,hkl,hL];exact WG p f hv k x s _ _ (by simp [h1]) (by simp [h3]) (by simp [h5])
 ·simp [Prg.e,Entry.ce]
end Go.Av
