/-
 Heaps of which only some objects are known: what is read of them after changes.
-/
import Derived.Test.YtjdbnnnakpacjaaGreatQ11
set_option linter.unusedVariables false
set_option linter.unusedSimpArgs false
set_option linter.constructorNameAsVariable false
namespace Go.Av
theorem qai (t:Nat) (a b:List (Nat×AO)):look t (a++b)=(look t a).or (look t b):=qa5 t a b
theorem qac (j t:Nat) (y:AO):∀O:List (Nat×AO),look j (setl t y O)=if j=t then (look t O).map (fun _=>y) else look j O
 | []=>by simp
 | (u,w)::r=>by
  have ih:=qac j t y r;by_cases hu:u=t
  ·subst hu;by_cases hj:j=u
   ·subst hj;simp
   ·have:¬u=j:=fun h=>hj h.symm
    simp [hj,this]
  ·by_cases hj:j=t
   ·subst hj;simp [hu];simpa using ih
   ·by_cases hv:u=j
    ·subst hv;simp [hu]
    ·simp [hu,hv,hj];simpa [hj] using ih
theorem qbi {j t:Nat} (h:j≠t):∀O:List (Nat×AO),look j (qbc t O)=look j O
 | []=>by simp
 | (u,w)::r=>by
  have ih:=qbi h r;by_cases hu:u=t
  ·subst hu;have:¬u=j:=fun e=>h e.symm
   simp [this]
  ·by_cases hv:u=j
   ·subst hv;simp [hu]
   ·simp [hu,hv,ih]
theorem qb3 {j t:Nat}:∀O:List (Nat×AO),look j O=none->look j (qbc t O)=none
 | [],_=>by simp
 | (u,w)::r,h=>by
  by_cases hv:u=j
  ·subst hv;simp at h
  ·simp [hv] at h;have ih:=qb3 (t:=t) r h;by_cases hu:u=t
   ·subst hu;simpa using h
   ·simp [hu,hv,ih]
theorem qav {j:Nat}:∀{O:List (Nat×AO)},look j O≠some .res->look j (qa2 O)=look j O
 | [],_=>by simp
 | (u,w)::r,h=>by
  by_cases hv:u=j
  ·subst hv;simp at h;cases w<;>simp at h ⊢
  ·simp [hv] at h;have ih:=qav h;cases w<;>simp [hv,ih]
section
variable (z t i o n:Nat) (es:List (List AV))
@[simp] theorem qao4:lenOf (.slice z es)=some es.length:=rfl
@[simp] theorem qao2:lenOf (.Xu z es)=some es.length:=rfl
@[simp] theorem qao1:lenOf (.app z es t)=some es.length:=rfl
@[simp] theorem qao3:lenOf (.row t z o n)=some n:=rfl
@[simp] theorem qanf (cs:List AV):AV.cells (.agg cs)=some cs:=rfl
@[simp] theorem qang (k:IntKind) (x:Int):AV.cells (.int k x)=some [.int k x]:=rfl
@[simp] theorem qamc (b:Bool):AV.cells (.bool b)=some [.bool b]:=rfl
@[simp] theorem qanj (b:List UInt8):AV.cells (.str b)=some [.str b]:=rfl
@[simp] theorem qais:AV.cells .nilptr=some [.nilptr]:=rfl
@[simp] theorem qair:AV.cells .nilmap=some [.nilmap]:=rfl
@[simp] theorem qaol:AV.cells (.slice z es)=some [.slice z es]:=rfl
@[simp] theorem qaoj:AV.cells (.Xu z es)=some [.Xu z es]:=rfl
@[simp] theorem qaoi:AV.cells (.app z es t)=some [.app z es t]:=rfl
@[simp] theorem qaok:AV.cells (.row t z o n)=some [.row t z o n]:=rfl
@[simp] theorem qani:AV.cells (.ptr t z o n)=some [.ptr t z o n]:=rfl
@[simp] theorem qame:AV.cells (.iptr z es o n)=some [.iptr z es o n]:=rfl
@[simp] theorem qanh:AV.cells (.map t)=some [.map t]:=rfl
@[simp] theorem qamd (f:Fn) (a b:List AV):AV.cells (.func f a b)=some [.func f a b]:=rfl
end
theorem Tail_append_iff {a b:List (Nat×AO)} {n:Nat}:Tail (a++b) n↔Tail a n/\Tail b n:=by
 constructor
 ·intro h;refine ⟨fun j hj=>?_,fun j hj=>?_⟩
  ·have:=h j hj;rw [qai] at this;cases hl:look j a with
   | none=>rfl
   | some x=>rw [hl] at this;cases this
  ·have:=h j hj;rw [qai] at this;cases hl:look j a with
   | none=>rw [hl] at this;simpa using this
   | some x=>rw [hl] at this;cases this
 ·rintro ⟨h1,h2⟩ j hj;rw [qai,h1 j hj,h2 j hj];rfl
theorem qa7 {u n:Nat} {x:AO} {r:List (Nat×AO)}:Tail ((u,x)::r) n↔u<n/\Tail r n:=by
 constructor
 ·intro h;have hu:u<n:=by
   refine Decidable.byContradiction fun hc=>?_
   have:=h u (by omega);simp at this
  refine ⟨hu,fun j hj=>?_⟩;have:=h j hj;have hne:¬u=j:=by omega
  simpa [hne] using this
 ·rintro ⟨h1,h2⟩ j hj;have hne:¬u=j:=by omega
  simp [hne,h2 j hj]
theorem qcw {n:Nat}:Tail [] n↔True:=⟨fun _=>trivial,fun _=>Tail.nil n⟩
theorem qaj {t n:Nat} {y:AO} {O:List (Nat×AO)} (h:Tail O n):Tail (setl t y O) n:=by
 intro j hj;rw [qac];split
 ·rename_i e;rw [<- e,h j hj];rfl
 ·exact h j hj
theorem qdk {t n:Nat} {O:List (Nat×AO)} (h:Tail O n):Tail (qbc t O) n:=fun j hj=>qb3 _ (h j hj)
theorem qdl {n:Nat} {O:List (Nat×AO)} (h:Tail O n):Tail (qa2 O) n:=by
 intro j hj;rw [qav (by rw [h j hj];simp),h j hj]
theorem Tail.lt {O:List (Nat×AO)} {n j:Nat} {x:AO} (h:Tail O n) (hl:look j O=some x):j<n:=by
 refine Decidable.byContradiction fun hc=>?_
 rw [h j (by omega)] at hl;cases hl
def Kp (X:Nat->Prop) (N:Nat) (O O':List (Nat×AO)):Prop:=∀j,j<N->¬X j->look j O'=look j O
theorem Kp.refl {X:Nat->Prop} {N:Nat} {O:List (Nat×AO)}:Kp X N O O:=fun _ _ _=>rfl
theorem Kp.trans {X:Nat->Prop} {N N':Nat} {O O' O'':List (Nat×AO)} (h:Kp X N O O') (h2:Kp X N' O' O'') (hn:N<=N'):Kp X N O O'':=
 fun j hj hx=>(h2 j (by omega) hx).trans (h j hj hx)
theorem Kp.mono {X Y:Nat->Prop} {N:Nat} {O O':List (Nat×AO)} (h:Kp X N O O') (hx:∀j,j<N->X j->Y j):Kp Y N O O':=
 fun j hj hy=>h j hj fun hc=>hy (hx j hj hc)
section
variable {Φ:FuncId->Option AFun} {β:Type} {fin:Option (Ex×St)->Option β}
theorem loopQ {σ:Type} (m:σ->Nat) (Inv:σ->Env->AH->Prop) (R:σ->Option β->Prop) {b:Xv} {K:List Go.Av.Fr}
  (step:∀x e h L,(∀j s,go Φ fin L (.exit j) s=go Φ fin K (.exit j) s)->Inv x e h->(∀y e' h',m y<m x->Inv y e' h'->R y (go Φ fin L .normal ⟨e',h'⟩))->R x (go Φ fin (.c b::L) .normal ⟨e,h⟩)):
  ∀x e h,Inv x e h->R x (go Φ fin (.c (.loop b)::K) .normal ⟨e,h⟩):=by
 have key:∀n x e h,m x<=n->Inv x e h->R x (go Φ fin (.c (.loop b)::K) .normal ⟨e,h⟩):=by
  intro n
  induction n with
  | zero=>
   intro x e h hn hi;rw [qap];exact step x e h _ (fun j s=>by simp) hi fun y e' h' hlt=>by omega
  | succ n ih=>
   intro x e h hn hi;rw [qap];exact step x e h _ (fun j s=>by simp) hi fun y e' h' hlt hy=>ih y e' h' (by omega) hy
 intro x e h hi;exact key (m x) x e h (Qb _) hi
theorem qgx (N:Nat) (Inv:Nat->Env->AH->Prop) (Q:Option β->Prop) {b:Xv} {K:List Go.Av.Fr}
  (step:∀i e h L,i<N->(∀j s,go Φ fin L (.exit j) s=go Φ fin K (.exit j) s)->Inv i e h->(∀e' h',Inv (i+1) e' h'->Q (go Φ fin L .normal ⟨e',h'⟩))->Q (go Φ fin (.c b::L) .normal ⟨e,h⟩))
  (last:∀e h L,(∀j s,go Φ fin L (.exit j) s=go Φ fin K (.exit j) s)->Inv N e h->Q (go Φ fin (.c b::L) .normal ⟨e,h⟩)):
  ∀i e h,i<=N->Inv i e h->Q (go Φ fin (.c (.loop b)::K) .normal ⟨e,h⟩):=by
 intro i e h hi hinv;refine loopQ (σ:={ i:Nat // i<=N }) (fun x=>N - x.1) (fun x=>Inv x.1) (fun _=>Q) ?_ ⟨i,hi⟩ e h hinv;intro ⟨i,hi⟩ e h L hL hinv ih;rcases Nat.lt_or_eq_of_le hi with hlt | heq
 ·exact step i e h L hlt hL hinv fun e' h' hi'=>ih ⟨i+1,hlt⟩ e' h' (by simp;omega) hi'
 ·subst heq;exact last e h L hL hinv
end
def vid:AV->Option Nat
 | .row id _ _ _=>some id
 | _=>none
inductive Mu (O:List (Nat×AO)) (z:Nat):AV->List (List AV)->Prop
 | nilF:Mu O z (.Xu z []) []
 | nilA (t:Nat):Mu O z (.app z [] t) []
 | row (id:Nat) (es es0:List (List AV)) (n:Nat) (hn:n=es.length) (hl:look id O=some (.row z es0)) (hle:es.length<=es0.length) (ht:es0.take es.length=es):Mu O z (.row id z 0 n) es
theorem Mu.len {O:List (Nat×AO)} {z:Nat} {v:AV} {es:List (List AV)} (h:Mu O z v es):lenOf v=some es.length:=by
 cases h with
 | nilF=>rfl
 | nilA=>rfl
 | row id _ es0 n hn=>subst hn;rfl
theorem Mu.fr {O O':List (Nat×AO)} {z:Nat} {v:AV} {es:List (List AV)} (h:Mu O z v es) (hf:∀j,vid v=some j->look j O'=look j O):Mu O' z v es:=by
 cases h with
 | nilF=>exact .nilF
 | nilA=>exact .nilA _
 | row id _ es0 n hn hl hle ht=>exact .row id es es0 n hn (by rw [hf id rfl,hl]) hle ht
theorem Mu.nonempty {O:List (Nat×AO)} {z:Nat} {v:AV} {es:List (List AV)} (h:Mu O z v es) (hp:0<es.length):∃id es0,v= .row id z 0 es.length/\look id O=some (.row z es0)/\es.length<=es0.length/\es0.take es.length=es:=by
 cases h with
 | nilF=>simp at hp
 | nilA=>simp at hp
 | row id _ es0 n hn hl hle ht=>subst hn;exact ⟨id,es0,rfl,hl,hle,ht⟩
theorem Mu.snp {O:List (Nat×AO)} {z N n:Nat} {v:AV} {es:List (List AV)} (h:Mu O z v es):snap (n+1) ⟨O,N⟩ v=(mapO (mapO (snap n ⟨O,N⟩)) es).map (.slice z):=by
 cases h with
 | nilF=>simp
 | nilA=>simp
 | row id _ es0 k hn hl hle ht=>
  subst hn;simp [hl,hle,ht]
inductive Re (O:List (Nat×AO)) (z:Nat):AV->List (List AV)->Prop
 | sl (es:List (List AV)):Re O z (.slice z es) es
 | fs (es:List (List AV)):Re O z (.Xu z es) es
 | ap (es:List (List AV)) (t:Nat):Re O z (.app z es t) es
 | row (id:Nat) (es es0:List (List AV)) (n:Nat) (hn:n=es.length) (hl:look id O=some (.row z es0)) (hle:es.length<=es0.length) (ht:es0.take es.length=es):Re O z (.row id z 0 n) es
theorem Mu.re {O:List (Nat×AO)} {z:Nat} {v:AV} {es:List (List AV)} (h:Mu O z v es):Re O z v es:=by
 cases h with
 | nilF=>exact .fs []
 | nilA=>exact .ap [] _
 | row id _ es0 n hn hl hle ht=>exact .row id es es0 n hn hl hle ht
theorem Re.fr {O O':List (Nat×AO)} {z:Nat} {v:AV} {es:List (List AV)} (h:Re O z v es) (hf:∀j,vid v=some j->look j O'=look j O):Re O' z v es:=by
 cases h with
 | sl=>exact .sl es
 | fs=>exact .fs es
 | ap=>exact .ap es _
 | row id _ es0 n hn hl hle ht=>exact .row id es es0 n hn (by rw [hf id rfl,hl]) hle ht
theorem Re.len {O:List (Nat×AO)} {z:Nat} {v:AV} {es:List (List AV)} (h:Re O z v es):lenOf v=some es.length:=by
 cases h with
 | sl=>rfl
 | fs=>rfl
 | ap=>rfl
 | row id _ es0 n hn=>subst hn;rfl
theorem Re.snp {O:List (Nat×AO)} {z N n:Nat} {v:AV} {es:List (List AV)} (h:Re O z v es) (he:mapO (mapO (snap n ⟨O,N⟩)) es=some es):snap (n+1) ⟨O,N⟩ v=some (.slice z es):=by
 cases h with
 | sl=>simp
 | fs=>simp
 | ap=>simp
 | row id _ es0 k hn hl hle ht=>
  subst hn;simp [hl,hle,ht,he]
theorem Re.cells {O:List (Nat×AO)} {z:Nat} {v:AV} {es:List (List AV)} (h:Re O z v es):v.cells=some [v]:=by
 cases h<;>rfl
theorem Mu.cells {O:List (Nat×AO)} {z:Nat} {v:AV} {es:List (List AV)} (h:Mu O z v es):v.cells=some [v]:=h.re.cells
theorem qwl {α:Type} {f:α->Option α}:∀{l:List α},(∀x∈l,f x=some x)->mapO f l=some l
 | [],_=>rfl
 | a::l,h=>by
  have h1:=h a (by simp);have h2:=qwl (f:=f) (l:=l) fun x hx=>h x (by simp [hx])
  simp only [mapO,h1,h2]
theorem qdz {α:Type} {g:α->List AV} {n:Nat} {H:AH} (h:∀x,mapO (snap n H) (g x)=some (g x)) (l:List α):mapO (mapO (snap n H)) (l.map g)=some (l.map g):=by
 refine qwl fun x hx=>?_
 obtain ⟨y,_,rfl⟩:=QAr.1 hx;exact h y
theorem qpk {n:Nat} {H:AH} (r:Rw):mapO (snap (n+1) H) (Rw.c r)=some (Rw.c r):=by simp [Rw.c]
theorem qak7 {n:Nat} {H:AH} (x:Int):mapO (snap (n+1) H) (cI x)=some (cI x):=by simp [cI]
theorem qux {n:Nat} {H:AH} (x:Xb):mapO (snap (n+1) H) (Xb.c x)=some (Xb.c x):=by simp [Xb.c]
structure CfgM (O:List (Nat×AO)) (v1 v2 v3 v4:AV) (V:List AV) (c:Xf):Prop where
 r:Mu O 1 v1 (V.map fun v=>[v])
 rl:V.length=c.rows.length
 rv:∀(k:Nat) (v:AV) (l:List Rw),V[k]? =some v->c.rows[k]? =some l->Mu O 5 v (l.map Rw.c)
 n:Mu O 1 v2 (c.Xr.map cI)
 d:Mu O 2 v3 (c.Xq.map Xb.c)
 g:v4= .Xu 1 (c.Xm.map (cS 1 c32))\/∃t,v4= .app 1 (c.Xm.map (cS 1 c32)) t
 rn:∀i,vid v1=some i->vid v2=some i->False
 vi:∀(k k':Nat) (v v':AV) (i:Nat),V[k]? =some v->V[k']? =some v'->vid v=some i->vid v'=some i->k=k'
 va:∀v∈V,∀z es t,v≠ .app z es t
def CfgM.own (v1 v2 v3:AV) (V:List AV) (j:Nat):Prop:=vid v1=some j\/vid v2=some j\/vid v3=some j\/∃v∈V,vid v=some j
theorem CfgM.fr {O O':List (Nat×AO)} {v1 v2 v3 v4:AV} {V:List AV} {c:Xf} (h:CfgM O v1 v2 v3 v4 V c) (hf:∀j,CfgM.own v1 v2 v3 V j->look j O'=look j O):CfgM O' v1 v2 v3 v4 V c:=by
 refine ⟨h.r.fr fun j hj=>hf j (.inl hj),h.rl,?_,h.n.fr fun j hj=>hf j (.inr (.inl hj)),h.d.fr fun j hj=>hf j (.inr (.inr (.inl hj))),h.g,h.rn,h.vi,h.va⟩;intro k v l hv hl;exact (h.rv k v l hv hl).fr fun j hj=>hf j (.inr (.inr (.inr ⟨v,Qe hv,hj⟩)))
theorem qrh {α β:Type} {f:α->Option β}:∀{l:List α} {m:List β},l.length=m.length->(∀(k:Nat) (x:α) (y:β),l[k]? =some x->m[k]? =some y->f x=some y)->mapO f l=some m
 | [],[],_,_=>rfl
 | [],_::_,h,_=>by simp at h
 | _::_,[],h,_=>by simp at h
 | a::l,b::m,h,hf=>by
  have h1:=hf 0 a b (by simp) (by simp);have h2:=qrh (f:=f) (l:=l) (m:=m) (by simpa using h) fun k x y hx hy=>hf (k+1) x y (by simpa using hx) (by simpa using hy)
  simp only [mapO,h1,h2]
theorem CfgM.snpR {O:List (Nat×AO)} {v1 v2 v3 v4:AV} {V:List AV} {c:Xf} {n N:Nat} (h:CfgM O v1 v2 v3 v4 V c):snap (n+4) ⟨O,N⟩ v1=some (.slice 1 (c.rows.map (cS 5 Rw.c))):=by
 have e1:mapO (mapO (snap (n+3) ⟨O,N⟩)) (V.map fun v=>[v])=some (c.rows.map (cS 5 Rw.c)):=by
  refine qrh (by simp [h.rl]) ?_;intro k x y hx hy;rw [List.getElem?_map] at hx hy;cases hv:V[k]? with
  | none=>rw [hv] at hx;cases hx
  | some v=>
   cases hl:c.rows[k]? with
   | none=>rw [hl] at hy;cases hy
   | some l=>
    rw [hv] at hx;rw [hl] at hy;cases hx;cases hy;have:=(h.rv k v l hv hl).snp (N:=N) (n:=n+2);simp only [mapO,this,qdz (n:=n+2) (H:=⟨O,N⟩) (fun x=>qpk x) l,QBe,cS]
 have k1:=h.r.snp (N:=N) (n:=n+3);rw [e1] at k1;exact k1
theorem CfgM.snpN {O:List (Nat×AO)} {v1 v2 v3 v4:AV} {V:List AV} {c:Xf} {n N:Nat} (h:CfgM O v1 v2 v3 v4 V c):snap (n+4) ⟨O,N⟩ v2=some (.slice 1 (c.Xr.map cI)):=by
 have k2:=h.n.snp (N:=N) (n:=n+3);rw [qdz (n:=n+3) (H:=⟨O,N⟩) (fun x=>qak7 x)] at k2;exact k2
theorem CfgM.snpD {O:List (Nat×AO)} {v1 v2 v3 v4:AV} {V:List AV} {c:Xf} {n N:Nat} (h:CfgM O v1 v2 v3 v4 V c):snap (n+4) ⟨O,N⟩ v3=some (.slice 2 (c.Xq.map Xb.c)):=by
 have k3:=h.d.snp (N:=N) (n:=n+3);rw [qdz (n:=n+3) (H:=⟨O,N⟩) (fun x=>qux x)] at k3;exact k3
theorem CfgM.snpG {O:List (Nat×AO)} {v1 v2 v3 v4:AV} {V:List AV} {c:Xf} {n N:Nat} (h:CfgM O v1 v2 v3 v4 V c):snap (n+4) ⟨O,N⟩ v4=some (.slice 1 (c.Xm.map (cS 1 c32))):=by
 rcases h.g with hg | ⟨t,hg⟩<;>subst hg<;>simp
@[simp] theorem qaik (b x:Bool) (H:AH):qek b H (some (.val (.bool x)))=some (.val (.bool x),H):=by cases b<;>simp
@[simp] theorem qakc (b:Bool) (k:IntKind) (x:Int) (H:AH):qek b H (some (.val (.int k x)))=some (.val (.int k x),H):=by cases b<;>simp
set_option maxRecDepth 4000
theorem qz3 {O O':List (Nat×AO)} {N N' k:Nat} {X:Nat->Prop} (hK:Kp X N O O') (hT:Tail O' N') (hN:N<=N') (o:AO):Kp X N O (O'++[(N'+k,o)])/\Tail (O'++[(N'+k,o)]) (N'+k+1)/\look (N'+k) (O'++[(N'+k,o)])=some o:=by
 refine ⟨?_,?_,?_⟩
 ·intro j hj hx;have:¬N'+k=j:=by omega
  rw [qai,hK j hj hx];simp [this]
 ·rw [Tail_append_iff,qa7];exact ⟨hT.mono (by omega),by omega,Tail.nil _⟩
 ·rw [qai,hT _ (by omega)];simp
theorem hp_mv {O O':List (Nat×AO)} {N N' k id:Nat} {X:Nat->Prop} (hK:Kp X N O O') (hT:Tail O' N') (hN:N<=N') (hid:N<=id) (o:AO):Kp X N O (qbc id O'++[(N'+k,o)])/\Tail (qbc id O'++[(N'+k,o)]) (N'+k+1)/\look (N'+k) (qbc id O'++[(N'+k,o)])=some o:=by
 have h1:Kp X N O (qbc id O'):=by
  intro j hj hx;rw [qbi (by omega),hK j hj hx]
 exact qz3 h1 (qdk hT) hN o
theorem qz1 {l:List Rw} {i:Nat} {es0:List (List AV)} (hi:i<l.length) (ht:es0.take (l.map Rw.c).length=l.map Rw.c):es0[i]? =some (Rw.c l[i]):=by
 have h:(es0.take (l.map Rw.c).length)[i]? =(l.map Rw.c)[i]? :=by rw [ht]
 rw [List.getElem?_take_of_lt (by simpa using hi)] at h;rw [h];simp [hi]
section
variable {β:Type} {fin:Option (Ex×St)->Option β}
theorem qv9 (l:List Rw) (hs:∀r∈l,rowS r) (hl:l.length<2^39) (v:AV) (K:List Fr) (Q:Option β->Prop) (e:Env) (O:List (Nat×AO)) (N:Nat) (hT:Tail O N) (hv:Re O 5 v (l.map Rw.c))
  (h6:look 6 e=some (.Xu 5 [])) (h24:look 24 e=some v) (h25:look 25 e=some (.int .i64 l.length)) (h26:look 26 e=some (.int .i64 0))
  (hK:∀e' O' N' w,Mu O' 5 w (l.map Rw.c)->(∀j,vid w=some j->N<=j)->(∀z es t,w≠ .app z es t)->Kp (fun _=>False) N O O'->Tail O' N'->N<=N'->look 6 e'=some w->
   look 1 e'=look 1 e->look 2 e'=look 2 e->look 3 e'=look 3 e->look 18 e'=look 18 e->look 19 e'=look 19 e->look 20 e'=look 20 e->Q (go Φ fin K .normal ⟨e',⟨O',N'⟩⟩)):
  Q (go Φ fin (.c (.loop c_92_l0):: .b 2::K) .normal ⟨e,⟨O,N⟩⟩):=by
 refine qgx l.length (fun i e' h=>∃O' N' w,h=⟨O',N'⟩/\((i=0/\w= .Xu 5 [])\/∃id,w= .row id 5 0 i/\look id O'=some (.row 5 ((l.take i).map Rw.c))/\N<=id)/\Kp (fun _=>False) N O O'/\Tail O' N'/\N<=N'/\look 6 e'=some w/\look 24 e'=some v/\look 25 e'=some (.int .i64 l.length)/\look 26 e'=some (.int .i64 i)/\
   look 1 e'=look 1 e/\look 2 e'=look 2 e/\look 3 e'=look 3 e/\look 18 e'=look 18 e/\look 19 e'=look 19 e/\look 20 e'=look 20 e) Q ?_ ?_ 0 _ _ (Qc _) ?_
 ·rintro i e' _ L hi hL ⟨O',N',w,rfl,hw,hk,hT',hN,h6,h24,h25,h26,g1,g2,g3,g18,g19,g20⟩ ih;have hw1:=qaf i (by omega);have hc:=qafa l[i] (hs _ (Qd hi));have hT0:=hT' N' (Qb _);have hT1:=hT' (N'+1) (by omega);have hm:min i l.length=i:=by omega
  have hd1:∀id,look (N'+1) (qbc id O')=none:=fun id=>qb3 _ hT1
  have htk:(l.map Rw.c).take (i+1)=(l.map Rw.c).take i++[Rw.c l[i]]:=qaw hi;rw [Rw.ce] at htk;have hb:(i+1)*72<=70368744177664:=by omega
  simp only [Rw.ce] at hc;have hv':Re O' 5 v (l.map Rw.c):=by
   refine hv.fr fun j hj=>?_
   cases hv with
   | row id _ es0 n hn hl hle ht=>cases hj;exact hk j (hT.lt hl) (by simp)
   | sl=>cases hj
   | fs=>cases hj
   | ap=>cases hj
  have hw0:min i (l.map Rw.c).length=i:=by simp;omega
  rcases hw with ⟨rfl,rfl⟩ | ⟨id,rfl,hlk,hid⟩
  ·obtain ⟨a1,a2,a3⟩:=qz3 (k:=1) hk hT' hN (.row 5 ((l.take (0+1)).map Rw.c));cases hv' with
   | row id' _ es0 n hn hl' hle ht=>
    have h0:=qz1 hi ht;simp [c_92_l0,Rw.ce,h6,h24,h25,h26,hi,hc,hT0,hT1,hn,hl',h0,wr1];refine ih _ _ ⟨_,N'+1+1,.row (N'+1) 5 0 (0+1),by simp at htk;simp [htk],.inr ⟨N'+1,rfl,a3,by omega⟩,a1,a2,by omega,?_,?_,?_,?_,?_,?_,?_,?_,?_,?_⟩<;>simp [*]
   | _=>
    simp [c_92_l0,Rw.ce,h6,h24,h25,h26,hi,hc,hT0,hT1,wr1];refine ih _ _ ⟨_,N'+1+1,.row (N'+1) 5 0 (0+1),by simp at htk;simp [htk],.inr ⟨N'+1,rfl,a3,by omega⟩,a1,a2,by omega,?_,?_,?_,?_,?_,?_,?_,?_,?_,?_⟩<;>simp [*]
  ·obtain ⟨a1,a2,a3⟩:=hp_mv (k:=1) hk hT' hN hid (.row 5 ((l.take (i+1)).map Rw.c));cases hv' with
   | row id' _ es0 n hn hl' hle ht=>
    have h0:=qz1 hi ht;simp [c_92_l0,Rw.ce,h6,h24,h25,h26,hi,hc,hT0,hn,hl',h0,hw1,hlk,hb,hm,hd1];refine ih _ _ ⟨_,N'+1+1,.row (N'+1) 5 0 (i+1),by simp [htk],.inr ⟨N'+1,rfl,a3,by omega⟩,a1,a2,by omega,?_,?_,?_,?_,?_,?_,?_,?_,?_,?_⟩<;>simp [*]
   | _=>
    simp [c_92_l0,Rw.ce,h6,h24,h25,h26,hi,hc,hT0,hw1,hlk,hb,hm,hd1];refine ih _ _ ⟨_,N'+1+1,.row (N'+1) 5 0 (i+1),by simp [htk],.inr ⟨N'+1,rfl,a3,by omega⟩,a1,a2,by omega,?_,?_,?_,?_,?_,?_,?_,?_,?_,?_⟩<;>simp [*]
 ·rintro e' _ L hL ⟨O',N',w,rfl,hw,hk,hT',hN,h6,h24,h25,h26,g1,g2,g3,g18,g19,g20⟩;simp [c_92_l0,h25,h26,hL];refine hK _ O' N' w ?_ ?_ ?_ hk hT' hN ?_ ?_ ?_ ?_ ?_ ?_ ?_<;>try simp [h6,g1,g2,g3,g18,g19,g20]
  ·rcases hw with ⟨hz,rfl⟩ | ⟨id,rfl,hlk,hid⟩
   ·have:l=[]:=Qg hz;subst this;exact .nilF
   ·rw [QAf] at hlk;exact .row id _ _ _ (by simp) hlk (Qb _) (by rw [QAf])
  ·rcases hw with ⟨hz,rfl⟩ | ⟨id,rfl,hlk,hid⟩
   ·intro j hj;cases hj
   ·intro j hj;cases hj;exact hid
  ·rcases hw with ⟨hz,rfl⟩ | ⟨id,rfl,hlk,hid⟩<;>intro z es t ht<;>cases ht
 ·exact ⟨O,N,.Xu 5 [],rfl,.inl ⟨rfl,rfl⟩,fun _ _ _=>rfl,hT,Qb _,h6,h24,h25,h26,rfl,rfl,rfl,rfl,rfl,rfl⟩
end
section
variable {O O':List (Nat×AO)} {N N' n id:Nat} {X:Nat->Prop} {o y:AO}
theorem Kp.app (h:Kp X N O O') (hn:N<=n):Kp X N O (O'++[(n,o)]):=by
 intro j hj hx;have:¬n=j:=by omega
 rw [qai,h j hj hx];simp [this]
theorem Kp.drop (h:Kp X N O O') (hn:N<=id\/X id):Kp X N O (qbc id O'):=by
 intro j hj hx;rw [qbi (by rintro rfl;rcases hn with hn | hn;omega;exact hx hn),h j hj hx]
theorem Kp.setl (h:Kp X N O O') (hn:N<=id\/X id):Kp X N O (setl id y O'):=by
 intro j hj hx;rw [qac,QA (by rintro rfl;rcases hn with hn | hn;omega;exact hx hn),h j hj hx]
theorem Tail.app1 (h:Tail O' N') (hn:N'<=n):Tail (O'++[(n,o)]) (n+1):=by
 rw [Tail_append_iff,qa7];exact ⟨h.mono (by omega),by omega,Tail.nil _⟩
theorem Kp.lk (h:Kp X N O O') (hT:Tail O N) {j:Nat} {x:AO} (hl:look j O=some x) (hx:¬X j):look j O'=some x:=by
 rw [h j (hT.lt hl) hx,hl]
theorem qan {j:Nat} {x y:AO} (h1:look id O=some x) (h2:look j O=some y) (h:x≠y):id≠j:=by
 rintro rfl;rw [h1] at h2;cases h2;exact h rfl
theorem qca {j:Nat} {x:AO} (hT:Tail O N) (h1:look j O=some x) (hn:N<=n):¬j=n/\¬n=j:=by
 have:=hT.lt h1;omega
end
theorem Re.src {O:List (Nat×AO)} {z N:Nat} {v:AV} {es:List (List AV)} (h:Re O z v es):qcz ⟨O,N⟩ v=some es:=by
 cases h with
 | sl=>rfl
 | fs=>rfl
 | ap=>rfl
 | row id _ es0 n hn hl hle ht=>
  subst hn;simp [hl,hle,ht]
theorem qae4 {O:List (Nat×AO)} {N:Nat} (hT:Tail O N) {v:AV} {l:List Int} (h:Re O 1 v (l.map cI)) (hl:l.length<2^40):
  ∃w o,qak Φ f_116 [v] ⟨O,N⟩=some (.val w,⟨O++[(N,o)],N+1⟩)/\Mu (O++[(N,o)]) 1 w (l.map cI)/\∀j,vid w=some j->N<=j:=by
 have hr:Φ f_116=some (.rule (qeq 1 8 .row)):=rfl;rw [qkk Φ hr];have hN:=hT N (Qb _);have hs:=h.src (N:=N);have hlen:=h.len;cases l with
 | nil=>
  refine ⟨.app 1 [] N,.tok 1 0,?_,.nilA _,fun j hj=>by cases hj⟩;simp only [qeq,hlen,QBp,QAq];simp only [QBp] at hs;simp only [hs,evR];simp [hN]
 | cons x l=>
  have ha:qch 1 ((x::l).map cI)=true:=qb7 1 cI (x::l) fun x=>by simp
  refine ⟨.row N 1 0 ((x::l).map cI).length,.row 1 ((x::l).map cI),?_,?_,fun j hj=>by cases hj;omega⟩
  ·have hb:((x::l).map cI).length*8<=2^46:=by rw [QAc];omega
   have hne:(x::l).map cI≠[]:=by simp
   simp only [qeq,hlen,QAc,QAl,evR];have e0:evOp [(5,.Xu 1 []),(6,v)] N ⟨O,N⟩ (.append .row 1 8 (.t 5) (.t 6))=some (.row N 1 0 ((x::l).map cI).length,(AH.mk O N).put N (.row 1 ((x::l).map cI))):=by
    simp only [evOp,evX,look];simp only [show ¬(5:Nat)=6 by decide,if_true,if_false,hs,ha];simp only [QAq,QBz,QBf,true_or,true_and];rw [QAa ⟨hne,hb⟩]
   rw [e0];simp [hN]
  ·exact .row N _ _ _ rfl (by rw [qai,hN];simp) (Qb _) (by rw [QAf])
theorem Kp.appL {O O':List (Nat×AO)} {N:Nat} {X:Nat->Prop} (h:Kp X N O O') {r:List (Nat×AO)} (hr:∀p∈r,N<=p.1):Kp X N O (O'++r):=by
 intro j hj hx;have:look j r=none:=by
  induction r with
  | nil=>rfl
  | cons p r ih=>
   have h1:=hr p (by simp);have:¬p.1=j:=by omega
   simp only [look,QA this];exact ih fun q hq=>hr q (by simp [hq])
 rw [qai,h j hj hx,this];simp
structure RowsR (O:List (Nat×AO)) (v:AV) (A:List AV) (R:List (List Rw)):Prop where
 v:Re O 1 v (A.map fun x=>[x])
 len:A.length=R.length
 at_:∀(k:Nat) (x:AV) (l:List Rw),A[k]? =some x->R[k]? =some l->Re O 5 x (l.map Rw.c)
theorem Re.own {O:List (Nat×AO)} {z j:Nat} {v:AV} {es:List (List AV)} (h:Re O z v es) (hj:vid v=some j):∃x,look j O=some x:=by
 cases h with
 | sl=>cases hj
 | fs=>cases hj
 | ap=>cases hj
 | row id _ es0 n hn hl hle ht=>cases hj;exact ⟨_,hl⟩
theorem Re.kp {O O':List (Nat×AO)} {z N:Nat} {v:AV} {es:List (List AV)} {X:Nat->Prop} (h:Re O z v es) (hT:Tail O N) (hk:Kp X N O O') (hx:∀j,X j->look j O=none\/N<=j):Re O' z v es:=by
 refine h.fr fun j hj=>?_
 obtain ⟨x,hl⟩:=h.own hj;refine hk j (hT.lt hl) fun hc=>?_
 rcases hx j hc with h1 | h1
 ·rw [hl] at h1;cases h1
 ·have:=hT.lt hl;omega
theorem Mu.own {O:List (Nat×AO)} {z j:Nat} {v:AV} {es:List (List AV)} (h:Mu O z v es) (hj:vid v=some j):∃es0,look j O=some (.row z es0):=by
 cases h with
 | nilF=>cases hj
 | nilA=>cases hj
 | row id _ es0 n hn hl hle ht=>cases hj;exact ⟨_,hl⟩
structure RowsW (O:List (Nat×AO)) (N:Nat) (V:List AV) (R:List (List Rw)):Prop where
 len:V.length=R.length
 mu:∀(k:Nat) (v:AV) (l:List Rw),V[k]? =some v->R[k]? =some l->Mu O 5 v (l.map Rw.c)
 fresh:∀v∈V,∀j,vid v=some j->N<=j
 inj:∀(k k':Nat) (v v':AV) (i:Nat),V[k]? =some v->V[k']? =some v'->vid v=some i->vid v'=some i->k=k'
 na:∀v∈V,∀z es t,v≠ .app z es t
theorem RowsW.nil {O:List (Nat×AO)} {N:Nat}:RowsW O N [] []:=⟨rfl,by simp,by simp,by simp,by simp⟩
theorem RowsW.own {O:List (Nat×AO)} {N:Nat} {V:List AV} {R:List (List Rw)} (h:RowsW O N V R) {v:AV} {j:Nat} (hv:v∈V) (hj:vid v=some j):∃es0,look j O=some (.row 5 es0):=by
 obtain ⟨k,hk,rfl⟩:=Qn.1 hv;have hk2:k<R.length:=by rw [<- h.len];exact hk
 exact (h.mu k _ _ (Qa hk) (Qa hk2)).own hj
theorem RowsW.fr {O O':List (Nat×AO)} {N:Nat} {V:List AV} {R:List (List Rw)} (h:RowsW O N V R) (hf:∀j es0,look j O=some (.row 5 es0)->look j O'=look j O):RowsW O' N V R:=by
 refine ⟨h.len,?_,h.fresh,h.inj,h.na⟩;intro k v l hv hl;have hm:=h.mu k v l hv hl;refine hm.fr fun j hj=>?_
 obtain ⟨es0,h0⟩:=hm.own hj;exact hf j es0 h0
theorem RowsW.snoc {O O':List (Nat×AO)} {N N':Nat} {V:List AV} {R:List (List Rw)} {w:AV} {l:List Rw} (h:RowsW O N V R) (hT:Tail O N') (hN:N<=N') (hf:∀j es0,look j O=some (.row 5 es0)->look j O'=look j O) (hw:Mu O' 5 w (l.map Rw.c)) (hn:∀j,vid w=some j->N'<=j) (ha:∀z es t,w≠ .app z es t):RowsW O' N (V++[w]) (R++[l]):=by
 have h':=h.fr hf;have hlt:∀v∈V,∀j,vid v=some j->j<N':=by
  intro v hv j hj;obtain ⟨es0,h0⟩:=h.own hv hj;exact hT.lt h0
 have hlen:=h.len;refine ⟨by simp [hlen],?_,?_,?_,fun v hv=>by rcases QAg.1 hv with hv | hv;exact h.na v hv;simp at hv;subst hv;exact ha⟩
 ·intro k v l' hv hl;by_cases hk:k<V.length
  ·rw [Ql hk] at hv;rw [Ql (by omega)] at hl;exact h'.mu k v l' hv hl
  ·have hk':k=V.length:=by
    have:=(Qm.1 hv).1;simp at this;omega
   subst hk';rw [Qp (by omega)] at hv;rw [Qp (by omega),hlen] at hl;simp at hv hl;subst hv hl;exact hw
 ·intro v hv j hj;rcases QAg.1 hv with hv | hv
  ·exact h.fresh v hv j hj
  ·simp at hv;subst hv;have:=hn j hj;omega
 ·intro k k' v v' i hv hv' hi hi';have hb:=(Qm.1 hv).1;have hb':=(Qm.1 hv').1;simp at hb hb';by_cases hk:k<V.length
  ·by_cases hk':k'<V.length
   ·rw [Ql hk] at hv;rw [Ql hk'] at hv';exact h.inj k k' v v' i hv hv' hi hi'
   ·rw [Ql hk] at hv;rw [Qp (by omega)] at hv';have:k' - V.length=0:=by omega
    rw [this] at hv';simp at hv';subst hv';have h1:=hlt v (Qe hv) i hi;have h2:=hn i hi';omega
  ·by_cases hk':k'<V.length
   ·rw [Ql hk'] at hv';rw [Qp (by omega)] at hv;have:k - V.length=0:=by omega
    rw [this] at hv;simp at hv;subst hv;have h1:=hlt v' (Qe hv') i hi';have h2:=hn i hi;omega
   ·omega
section
variable {β:Type} {fin:Option (Ex×St)->Option β}
theorem qae1 (R:List (List Rw)) (hR:R.length<2^40) (hs:∀l∈R,l.length<2^39/\∀r∈l,rowS r) (v w2:AV) (A:List AV) (b:Nat) (K:List Fr) (Q:Option β->Prop) (e:Env) (O:List (Nat×AO)) (N:Nat) (hT:Tail O N) (hv:RowsR O v A R)
  (hb:look b O=some (.row 4 [[.Xu 1 [],w2,.Xu 2 [],.Xu 1 []]])) (h3:look 3 e=some (.ptr b 4 0 0)) (h18:look 18 e=some v) (h19:look 19 e=some (.int .i64 R.length)) (h20:look 20 e=some (.int .i64 0))
  (hK:∀e' O' N' w V,Mu O' 1 w (V.map fun x=>[x])->(∀j,vid w=some j->N<=j)->RowsW O' N V R->Kp (fun j=>j=b) N O O'->Tail O' N'->N<=N'->look b O'=some (.row 4 [[w,w2,.Xu 2 [],.Xu 1 []]])->
   look 1 e'=look 1 e->look 2 e'=look 2 e->look 3 e'=look 3 e->Q (go Φ fin K .normal ⟨e',⟨O',N'⟩⟩)):
  Q (go Φ fin (.c (.loop c_92_l3):: .b 0::K) .normal ⟨e,⟨O,N⟩⟩):=by
 have hAb:∀(k:Nat) (x:AV) j,A[k]? =some x->vid x=some j->j≠b:=by
  intro k x j hx hj;have hk:k<R.length:=by
   have:=(Qm.1 hx).1;rw [hv.len] at this;exact this
  have:=hv.at_ k x _ hx (Qa hk);cases this with
  | sl=>cases hj
  | fs=>cases hj
  | ap=>cases hj
  | row id _ es0 n hn hl hle ht=>cases hj;exact qan hl hb (by simp)
 have hvb:∀j,vid v=some j->j≠b:=by
  intro j hj;cases hv.v with
  | sl=>cases hj
  | fs=>cases hj
  | ap=>cases hj
  | row id _ es0 n hn hl hle ht=>cases hj;exact qan hl hb (by simp)
 refine qgx R.length (fun i e' h=>∃O' N' w V,h=⟨O',N'⟩/\((i=0/\w= .Xu 1 []/\V=[])\/∃id,w= .row id 1 0 i/\look id O'=some (.row 1 (V.map fun x=>[x]))/\N<=id)/\RowsW O' N V (R.take i)/\Kp (fun j=>j=b) N O O'/\Tail O' N'/\N<=N'/\
   look b O'=some (.row 4 [[w,w2,.Xu 2 [],.Xu 1 []]])/\look 3 e'=some (.ptr b 4 0 0)/\look 18 e'=some v/\look 19 e'=some (.int .i64 R.length)/\look 20 e'=some (.int .i64 i)/\
   look 1 e'=look 1 e/\look 2 e'=look 2 e) Q ?_ ?_ 0 _ _ (Qc _) ?_
 ·rintro i e' _ L hi hL ⟨O',N',w,V,rfl,hw,hV,hk,hT',hN,hb',h3,h18,h19,h20,g1,g2⟩ ih;have hw1:=qaf i (by omega);have hA:i<A.length:=by rw [hv.len];exact hi
  have hlen:=hV.len;have hVl:V.length=i:=by rw [hlen];simp;omega
  have hri:=hs _ (Qd hi);have hbN:b<N:=hT.lt hb;have hx:Re O' 5 A[i] (R[i].map Rw.c):=by
   have h0:=hv.at_ i _ _ (Qa hA) (Qa hi);refine h0.fr fun j hj=>?_
   obtain ⟨x,hl⟩:=h0.own hj;exact hk j (hT.lt hl) (hAb i _ j (Qa hA) hj)
  have hxl:=hx.len;have hxc:=hx.cells;have hv':Re O' 1 v (A.map fun x=>[x]):=by
   refine hv.v.fr fun j hj=>?_
   obtain ⟨x,hl⟩:=hv.v.own hj;exact hk j (hT.lt hl) (hvb j hj)
  have after:∀e1,look 1 e1=look 1 e->look 2 e1=look 2 e->look 3 e1=some (.ptr b 4 0 0)->look 18 e1=some v->look 19 e1=some (.int .i64 R.length)->look 20 e1=some (.int .i64 i)->
    ∀e2 O2 N2 w',Mu O2 5 w' (R[i].map Rw.c)->(∀j,vid w'=some j->N'<=j)->(∀z es t,w'≠ .app z es t)->Kp (fun _=>False) N' O' O2->Tail O2 N2->N'<=N2->look 6 e2=some w'->look 1 e2=look 1 e1->look 2 e2=look 2 e1->look 3 e2=look 3 e1->look 18 e2=look 18 e1->look 19 e2=look 19 e1->look 20 e2=look 20 e1->
    Q (go Φ fin (.c c_92_k1:: .b 1:: .c c_92_k2::L) .normal ⟨e2,⟨O2,N2⟩⟩):=by
   intro e1 f1 f2 f3 f18 f19 f20 e2 O2 N2 w' hmu hnew hna hk2 hT2 hN2 d6 d1 d2 d3 d18 d19 d20;rw [f1] at d1;rw [f2] at d2;rw [f3] at d3;rw [f18] at d18;rw [f19] at d19;rw [f20] at d20;have hb2:look b O2=some (.row 4 [[w,w2,.Xu 2 [],.Xu 1 []]]):=hk2.lk hT' hb' (by simp);have hmc:=hmu.cells;have t0:=hT2 N2 (Qb _);have t1:=hT2 (N2+1) (by omega);have hbN2:b<N2:=by omega
   have q0:¬N2=b:=by omega
   have q1:¬N2+1=b:=by omega
   have q2:¬b=N2:=by omega
   have q3:¬b=N2+1:=by omega
   have hkk:Kp (fun j=>j=b) N O O2:=hk.trans (hk2.mono fun _ _ h=>h.elim) hN;have h5:∀(j:Nat) (es0:List (List AV)),look j O'=some (.row 5 es0)->look j O2=some (.row 5 es0):=fun j es0 hj=>hk2.lk hT' hj (by simp)
   rcases hw with ⟨rfl,rfl,rfl⟩ | ⟨id,rfl,hlk,hid⟩
   ·simp [c_92_k1,c_92_k2,d3,d6,d20,t0,t1,qai,hb2,wr1,hmc,-AV.cells];refine ih _ _ ⟨_,_,.row (N2+1) 1 0 1,[w'],rfl,.inr ⟨N2+1,rfl,?_,by omega⟩,?_,?_,?_,by omega,?_,?_,?_,?_,?_,?_,?_⟩
    ·simp [qac,q1,t1]
    ·rw [Qh hi];refine RowsW.snoc (V:=[]) hV hT' hN ?_ (hmu.fr ?_) hnew hna
     ·intro j es0 hj;have hj2:=h5 j es0 hj;have:=qan hj2 hb2 (by simp);simp [qac,qai,this,hj2,hj]
     ·intro j hj;obtain ⟨es0,hj2⟩:=hmu.own hj;have:=qan hj2 hb2 (by simp);simp [qac,qai,this,hj2]
    ·exact Kp.setl (Kp.appL hkk (by simp;omega)) (.inr rfl)
    ·exact qaj (by simp [Tail_append_iff,qa7,qcw];exact ⟨hT2.mono (by omega),by omega⟩)
    ·simp [qac,qai,hb2]
    all_goals simp [*]
   ·have hl2:look id O2=some (.row 1 (V.map fun x=>[x])):=hk2.lk hT' hlk (by simp);have hbi:=qan hb2 hl2 (by simp);have hd1:look (N2+1) (qbc id (O2++[(N2,.row 1 [[w']])]))=none:=qb3 _ (by simp [t1]);have hd2:look b (qbc id (O2++[(N2,.row 1 [[w']])]))=some (.row 4 [[.row id 1 0 i,w2,.Xu 2 [],.Xu 1 []]]):=by rw [qbi hbi,qai,hb2];rfl
    have hc:(i+1)*24<=70368744177664:=by omega
    simp [c_92_k1,c_92_k2,d3,d6,d20,t0,qai,hb2,hw1,hl2,hVl,hd1,hd2,hc,hmc,-AV.cells];refine ih _ _ ⟨_,_,.row (N2+1) 1 0 (i+1),V++[w'],rfl,.inr ⟨N2+1,rfl,?_,by omega⟩,?_,?_,?_,by omega,?_,?_,?_,?_,?_,?_,?_⟩
    ·simp [qac,q1,hd1]
    ·rw [Qh hi];refine RowsW.snoc hV hT' hN ?_ (hmu.fr ?_) hnew hna
     ·intro j es0 hj;have hj2:=h5 j es0 hj;have n1:=qan hj2 hb2 (by simp);have n2:=qan hj2 hl2 (by simp);simp [qac,qai,qbi n2,n1,hj2,hj]
     ·intro j hj;obtain ⟨es0,hj2⟩:=hmu.own hj;have n1:=qan hj2 hb2 (by simp);have n2:=qan hj2 hl2 (by simp);simp [qac,qai,qbi n2,n1,hj2]
    ·exact Kp.setl (Kp.appL (Kp.drop (Kp.appL hkk (by simp;omega)) (.inl hid)) (by simp;omega)) (.inr rfl)
    ·refine qaj ?_;rw [Tail_append_iff];exact ⟨qdk (by simp [Tail_append_iff,qa7,qcw];exact ⟨hT2.mono (by omega),by omega⟩),by simp [qa7,qcw]⟩
    ·simp [qac,qai,hd2]
    all_goals simp [*]
  cases hv' with
  | row id' _ es0 n hn hl' hle ht=>
   have h0:es0[i]? =some [A[i]]:=by
    have h:(es0.take (A.map fun x=>[x]).length)[i]? =(A.map fun x=>[x])[i]? :=by rw [ht]
    rw [List.getElem?_take_of_lt (by simpa using hA)] at h;rw [h];simp [hA]
   simp [c_92_l3,h18,h19,h20,hi,hA,hn,hl',h0,hxl,-lenOf];refine qv9 R[i] hri.2 hri.1 A[i] _ _ _ O' N' hT' hx ?_ ?_ ?_ ?_ (after _ ?_ ?_ ?_ ?_ ?_ ?_)<;>simp [*]
  | _=>
   simp [c_92_l3,h18,h19,h20,hi,hA,hxl,-lenOf];refine qv9 R[i] hri.2 hri.1 A[i] _ _ _ O' N' hT' hx ?_ ?_ ?_ ?_ (after _ ?_ ?_ ?_ ?_ ?_ ?_)<;>simp [*]
 ·rintro e' _ L hL ⟨O',N',w,V,rfl,hw,hV,hk,hT',hN,hb',h3,h18,h19,h20,g1,g2⟩;simp [c_92_l3,h19,h20,hL];rw [QAf] at hV;refine hK _ O' N' w V ?_ ?_ hV hk hT' hN hb' ?_ ?_ ?_
  ·rcases hw with ⟨hz,rfl,rfl⟩ | ⟨id,rfl,hlk,hid⟩
   ·exact .nilF
   ·exact .row id _ _ _ (by simp [hV.len]) hlk (Qb _) (by rw [QAf])
  ·rcases hw with ⟨hz,rfl,rfl⟩ | ⟨id,rfl,hlk,hid⟩
   ·intro j hj;cases hj
   ·intro j hj;cases hj;exact hid
  ·simp [g1]
  ·simp [g2]
  ·simp [*]
 ·exact ⟨O,N,.Xu 1 [],[],rfl,.inl ⟨rfl,rfl,rfl⟩,by simpa using RowsW.nil,fun _ _ _=>rfl,hT,Qb _,hb,h3,h18,h19,h20,rfl,rfl⟩
end
theorem qfr {α:Type} {f:α->List AV} {l:List α} {i:Nat} {es0:List (List AV)} (hi:i<l.length) (ht:es0.take (l.map f).length=l.map f):es0[i]? =some (f l[i]):=by
 have h:(es0.take (l.map f).length)[i]? =(l.map f)[i]? :=by rw [ht]
 rw [List.getElem?_take_of_lt (by simpa using hi)] at h;rw [h];simp [hi]
def Im (z:Nat) (v:AV) (es:List (List AV)):Prop:=v= .slice z es\/v= .Xu z es\/∃t,v= .app z es t
theorem Im.len {z:Nat} {v:AV} {es:List (List AV)} (h:Im z v es):lenOf v=some es.length:=by
 rcases h with rfl | rfl | ⟨t,rfl⟩<;>rfl
section
variable {β:Type} {fin:Option (Ex×St)->Option β}
theorem qaez (D:List Xb) (hD:D.length<2^40) (hs:∀d∈D,d.args.length<2^40) (v w1 w2:AV) (b:Nat) (K:List Fr) (Q:Option β->Prop) (e:Env) (O:List (Nat×AO)) (N:Nat) (hT:Tail O N) (hv:Re O 2 v (D.map Xb.c))
  (hb:look b O=some (.row 4 [[w1,w2,.Xu 2 [],.Xu 1 []]])) (h3:look 3 e=some (.ptr b 4 0 0)) (h44:look 44 e=some v) (h45:look 45 e=some (.int .i64 D.length)) (h46:look 46 e=some (.int .i64 0))
  (hK:∀e' O' N' w,Mu O' 2 w (D.map Xb.c)->(∀j,vid w=some j->N<=j)->Kp (fun j=>j=b) N O O'->Tail O' N'->N<=N'->look b O'=some (.row 4 [[w1,w2,w,.Xu 1 []]])->
   look 1 e'=look 1 e->look 2 e'=look 2 e->look 3 e'=look 3 e->Q (go Φ fin K .normal ⟨e',⟨O',N'⟩⟩)):
  Q (go Φ fin (.c (.loop c_92_l4):: .b 4::K) .normal ⟨e,⟨O,N⟩⟩):=by
 have hvb:∀j,vid v=some j->j≠b:=by
  intro j hj;cases hv with
  | sl=>cases hj
  | fs=>cases hj
  | ap=>cases hj
  | row id _ es0 n hn hl hle ht=>cases hj;exact qan hl hb (by simp)
 refine qgx D.length (fun i e' h=>∃O' N' w,h=⟨O',N'⟩/\((i=0/\w= .Xu 2 [])\/∃id,w= .row id 2 0 i/\look id O'=some (.row 2 ((D.map Xb.c).take i))/\N<=id)/\Kp (fun j=>j=b) N O O'/\Tail O' N'/\N<=N'/\
   look b O'=some (.row 4 [[w1,w2,w,.Xu 1 []]])/\look 3 e'=some (.ptr b 4 0 0)/\look 44 e'=some v/\look 45 e'=some (.int .i64 D.length)/\look 46 e'=some (.int .i64 i)/\
   look 1 e'=look 1 e/\look 2 e'=look 2 e) Q ?_ ?_ 0 _ _ (Qc _) ?_
 ·rintro i e' _ L hi hL ⟨O',N',w,rfl,hw,hk,hT',hN,hb',h3,h44,h45,h46,g1,g2⟩ ih;have hw1:=qaf i (by omega);have hbN:b<N:=hT.lt hb;have hc:=qi0 D[i] (hs _ (Qd hi));simp only [Xb.ce] at hc;have t0:=hT' N' (Qb _);have t1:=hT' (N'+1) (by omega);have q1:¬N'+1=b:=by omega
  have hm:min i D.length=i:=by omega
  have hbd:(i+1)*32<=70368744177664:=by omega
  have htk:(D.map Xb.c).take (i+1)=(D.map Xb.c).take i++[Xb.c D[i]]:=qaw hi;rw [Xb.ce] at htk;have hv':Re O' 2 v (D.map Xb.c):=by
   refine hv.fr fun j hj=>?_
   obtain ⟨x,hl⟩:=hv.own hj;exact hk j (hT.lt hl) (hvb j hj)
  rcases hw with ⟨rfl,rfl⟩ | ⟨id,rfl,hlk,hid⟩
  ·have htk1:(D.map Xb.c).take 1=[[.int .i64 D[0].action,.slice 1 (D[0].args.map c32)]]:=by simpa using htk
   cases hv' with
   | row id' _ es0 n hn hl' hle ht=>
    have h0:=qfr hi ht;simp [c_92_l4,Xb.ce,h3,h44,h45,h46,hi,hc,t0,t1,hn,hl',h0,wr1,qai,hb'];refine ih _ _ ⟨_,_,.row (N'+1) 2 0 (0+1),rfl,.inr ⟨N'+1,rfl,?_,by omega⟩,Kp.setl (Kp.app hk (by omega)) (.inr rfl),qaj (hT'.app1 (by omega)),by omega,?_,?_,?_,?_,?_,?_,?_⟩
    ·simp [qac,q1,t1,htk1]
    ·simp [qac,qai,hb']
    all_goals simp [*]
   | _=>
    simp [c_92_l4,Xb.ce,h3,h44,h45,h46,hi,hc,t0,t1,wr1,qai,hb'];refine ih _ _ ⟨_,_,.row (N'+1) 2 0 (0+1),rfl,.inr ⟨N'+1,rfl,?_,by omega⟩,Kp.setl (Kp.app hk (by omega)) (.inr rfl),qaj (hT'.app1 (by omega)),by omega,?_,?_,?_,?_,?_,?_,?_⟩
    ·simp [qac,q1,t1,htk1]
    ·simp [qac,qai,hb']
    all_goals simp [*]
  ·have hbi:=qan hb' hlk (by simp);have hd1:look (N'+1) (qbc id O')=none:=qb3 _ t1;have hd2:look b (qbc id O')=some (.row 4 [[w1,w2,.row id 2 0 i,.Xu 1 []]]):=by rw [qbi hbi,hb']
   cases hv' with
   | row id' _ es0 n hn hl' hle ht=>
    have h0:=qfr hi ht;simp [c_92_l4,Xb.ce,h3,h44,h45,h46,hi,hc,t0,hn,hl',h0,hw1,qai,hb',hlk,hm,hbd,hd1,hd2];refine ih _ _ ⟨_,_,.row (N'+1) 2 0 (i+1),rfl,.inr ⟨N'+1,rfl,?_,by omega⟩,Kp.setl (Kp.app (Kp.drop hk (.inl hid)) (by omega)) (.inr rfl),qaj ((qdk hT').app1 (by omega)),by omega,?_,?_,?_,?_,?_,?_,?_⟩
    ·simp [qac,q1,hd1,htk]
    ·simp [qac,qai,hd2]
    all_goals simp [*]
   | _=>
    simp [c_92_l4,Xb.ce,h3,h44,h45,h46,hi,hc,t0,hw1,qai,hb',hlk,hm,hbd,hd1,hd2];refine ih _ _ ⟨_,_,.row (N'+1) 2 0 (i+1),rfl,.inr ⟨N'+1,rfl,?_,by omega⟩,Kp.setl (Kp.app (Kp.drop hk (.inl hid)) (by omega)) (.inr rfl),qaj ((qdk hT').app1 (by omega)),by omega,?_,?_,?_,?_,?_,?_,?_⟩
    ·simp [qac,q1,hd1,htk]
    ·simp [qac,qai,hd2]
    all_goals simp [*]
 ·rintro e' _ L hL ⟨O',N',w,rfl,hw,hk,hT',hN,hb',h3,h44,h45,h46,g1,g2⟩;simp [c_92_l4,h45,h46,hL];refine hK _ O' N' w ?_ ?_ hk hT' hN hb' ?_ ?_ ?_
  ·rcases hw with ⟨hz,rfl⟩ | ⟨id,rfl,hlk,hid⟩
   ·have:D=[]:=Qg hz;subst this;exact .nilF
   ·rw [Qo (by simp)] at hlk;exact .row id _ _ _ (by simp) hlk (Qb _) (by rw [QAf])
  ·rcases hw with ⟨hz,rfl⟩ | ⟨id,rfl,hlk,hid⟩
   ·intro j hj;cases hj
   ·intro j hj;cases hj;exact hid
  ·simp [g1]
  ·simp [g2]
  ·simp [*]
 ·exact ⟨O,N,.Xu 2 [],rfl,.inl ⟨rfl,rfl⟩,fun _ _ _=>rfl,hT,Qb _,hb,h3,h44,h45,h46,rfl,rfl⟩
theorem qae0 (G:List (List Int)) (hG:G.length<2^40) (hs:∀l∈G,l.length<2^40) (v w1 w2 w3:AV) (b:Nat) (K:List Fr) (Q:Option β->Prop) (e:Env) (O:List (Nat×AO)) (N:Nat) (hT:Tail O N) (hv:Im 1 v (G.map (cS 1 c32)))
  (hb:look b O=some (.row 4 [[w1,w2,w3,.Xu 1 []]])) (h3:look 3 e=some (.ptr b 4 0 0)) (h59:look 59 e=some v) (h60:look 60 e=some (.int .i64 G.length)) (h61:look 61 e=some (.int .i64 0))
  (hK:∀e' O' N' w,(w= .Xu 1 (G.map (cS 1 c32))\/∃t,w= .app 1 (G.map (cS 1 c32)) t)->Kp (fun j=>j=b) N O O'->Tail O' N'->N<=N'->look b O'=some (.row 4 [[w1,w2,w3,w]])->
   look 1 e'=look 1 e->look 2 e'=look 2 e->look 3 e'=look 3 e->Q (go Φ fin K .normal ⟨e',⟨O',N'⟩⟩)):
  Q (go Φ fin (.c (.loop c_92_l5):: .b 6::K) .normal ⟨e,⟨O,N⟩⟩):=by
 refine qgx G.length (fun i e' h=>∃O' N' w,h=⟨O',N'⟩/\((i=0/\w= .Xu 1 [])\/∃id,w= .app 1 ((G.map (cS 1 c32)).take i) id/\look id O'=some (.tok 1 i)/\N<=id)/\Kp (fun j=>j=b) N O O'/\Tail O' N'/\N<=N'/\
   look b O'=some (.row 4 [[w1,w2,w3,w]])/\look 3 e'=some (.ptr b 4 0 0)/\look 59 e'=some v/\look 60 e'=some (.int .i64 G.length)/\look 61 e'=some (.int .i64 i)/\
   look 1 e'=look 1 e/\look 2 e'=look 2 e) Q ?_ ?_ 0 _ _ (Qc _) ?_
 ·rintro i e' _ L hi hL ⟨O',N',w,rfl,hw,hk,hT',hN,hb',h3,h59,h60,h61,g1,g2⟩ ih;have hw1:=qaf i (by omega);have hbN:b<N:=hT.lt hb;have hc:=qs2 G[i] (hs _ (Qd hi));have t0:=hT' N' (Qb _);have q0:¬N'=b:=by omega
  have q1:¬b=N':=by omega
  have hm:min i G.length=i:=by omega
  have hbd:(i+1)*24<=70368744177664:=by omega
  have htk:(G.map (cS 1 c32)).take (i+1)=(G.map (cS 1 c32)).take i++[cS 1 c32 G[i]]:=qaw hi;rw [cSe] at htk;rcases hw with ⟨rfl,rfl⟩ | ⟨id,rfl,hlk,hid⟩
  ·have htk1:(G.map (cS 1 c32)).take 1=[[.slice 1 (G[0].map c32)]]:=by simpa using htk
   rcases hv with rfl | rfl | ⟨t,rfl⟩
   all_goals
    simp [c_92_l5,cSe,h3,h59,h60,h61,hi,hc,t0,wr1,qai,hb'];refine ih _ _ ⟨_,_,.app 1 [[.slice 1 (G[0].map c32)]] N',rfl,.inr ⟨N',by rw [htk1],?_,by omega⟩,Kp.setl (Kp.app hk (by omega)) (.inr rfl),qaj (hT'.app1 (by omega)),by omega,?_,?_,?_,?_,?_,?_,?_⟩
    ·simp [qac,q0,t0]
    ·simp [qac,qai,hb']
    all_goals simp [*]
  ·have hbi:=qan hb' hlk (by simp);have hib:¬id=b:=fun h=>hbi h.symm
   rcases hv with rfl | rfl | ⟨t,rfl⟩
   all_goals
    simp [c_92_l5,cSe,h3,h59,h60,h61,hi,hc,hw1,qac,hb',hbi,hlk,hm,hbd];refine ih _ _ ⟨_,_,.app 1 ((G.map (cS 1 c32)).take i++[[.slice 1 (G[i].map c32)]]) id,rfl,.inr ⟨id,by rw [htk],?_,hid⟩,Kp.setl (Kp.setl hk (.inl hid)) (.inr rfl),qaj (qaj hT'),by omega,?_,?_,?_,?_,?_,?_,?_⟩
    ·simp [qac,hlk,hib]
    ·simp [qac,hbi,hb']
    all_goals simp [*]
 ·rintro e' _ L hL ⟨O',N',w,rfl,hw,hk,hT',hN,hb',h3,h59,h60,h61,g1,g2⟩;simp [c_92_l5,h60,h61,hL];refine hK _ O' N' w ?_ hk hT' hN hb' ?_ ?_ ?_
  ·rcases hw with ⟨hz,rfl⟩ | ⟨id,rfl,hlk,hid⟩
   ·have:G=[]:=Qg hz;subst this;exact .inl rfl
   ·right;exact ⟨id,by rw [Qo (by simp)]⟩
  ·simp [g1]
  ·simp [g2]
  ·simp [*]
 ·exact ⟨O,N,.Xu 1 [],rfl,.inl ⟨rfl,rfl⟩,fun _ _ _=>rfl,hT,Qb _,hb,h3,h59,h60,h61,rfl,rfl⟩
end
structure CfgR (O:List (Nat×AO)) (v1 v2 v3 v4:AV) (A:List AV) (c:Xf):Prop where
 r:RowsR O v1 A c.rows
 n:Re O 1 v2 (c.Xr.map cI)
 d:Re O 2 v3 (c.Xq.map Xb.c)
 g:Im 1 v4 (c.Xm.map (cS 1 c32))
structure CfgU (c:Xf):Prop where
 t:CfgT c
 u:∀l∈c.rows,l.length<2^39
theorem CfgR.kp {O O':List (Nat×AO)} {v1 v2 v3 v4:AV} {A:List AV} {c:Xf} {N:Nat} {X:Nat->Prop} (h:CfgR O v1 v2 v3 v4 A c) (hT:Tail O N) (hk:Kp X N O O') (hx:∀j,X j->look j O=none\/N<=j):CfgR O' v1 v2 v3 v4 A c:=
 ⟨⟨h.r.v.kp hT hk hx,h.r.len,fun k x l ha hl=>(h.r.at_ k x l ha hl).kp hT hk hx⟩,h.n.kp hT hk hx,h.d.kp hT hk hx,h.g⟩
def qyy (N:Nat) (O:List (Nat×AO)) (c:Xf) (r:Option (Rt×AH)):Prop:=
 ∃w1 w2 w3 w4 V O' N',r=some (.val (.agg [w1,w2,w3,w4]),⟨O',N'⟩)/\CfgM O' w1 w2 w3 w4 V c/\(∀j,CfgM.own w1 w2 w3 V j->N<=j)/\Kp (fun _=>False) N O O'/\Tail O' N'/\N<=N'
theorem qj6 (c:Xf) (s:CfgU c) {v1 v2 v3 v4:AV} {A:List AV} {O:List (Nat×AO)} {N:Nat} (hT:Tail O N) (h:CfgR O v1 v2 v3 v4 A c):qyy N O c (qak Φ f_92 [.agg [v1,v2,v3,v4]] ⟨O,N⟩):=by
 rw [qaz (fn:=c_92) rfl rfl];have t0:=hT N (Qb _);have t1:=hT (N+1) (by omega);have hT1:Tail (O++[(N,AO.row 4 [[v1,v2,v3,v4]]),(N+1,AO.row 4 [[.Xu 1 [],.Xu 1 [],.Xu 2 [],.Xu 1 []]])]) (N+1+1):=by
  rw [Tail_append_iff,qa7,qa7];exact ⟨hT.mono (by omega),by omega,by omega,Tail.nil _⟩
 have hk1:Kp (fun _=>False) N O (O++[(N,AO.row 4 [[v1,v2,v3,v4]]),(N+1,AO.row 4 [[.Xu 1 [],.Xu 1 [],.Xu 2 [],.Xu 1 []]])]):=Kp.appL (fun _ _ _=>rfl) (by simp);have hR1:=h.kp hT hk1 (by simp);have hc1:=hR1.n.cells;have c1:=h.r.v.cells;have c2:=h.n.cells;have c3:=h.d.cells;have c4:AV.cells v4=some [v4]:=by rcases h.g with e | e | ⟨t,e⟩<;>subst e<;>rfl
 simp [c_92,t0,t1];generalize hO1:O++[(N,AO.row 4 [[v1,v2,v3,v4]]),(N+1,AO.row 4 [[.Xu 1 [],.Xu 1 [],.Xu 2 [],.Xu 1 []]])]=O1 at hT1 hk1 hR1 ⊢;have lb1:look N O1=some (.row 4 [[v1,v2,v3,v4]]):=by rw [<- hO1];simp [t0]
 have lb2:look (N+1) O1=some (.row 4 [[.Xu 1 [],.Xu 1 [],.Xu 2 [],.Xu 1 []]]):=by rw [<- hO1];simp [t1]
 obtain ⟨w2,o2,e2,m2,fw2⟩:=qae4 hT1 hR1.n s.t.nl;rw [e2];have n1:¬N+1+1=N:=by omega
 have t2:=hT1 (N+1+1) (Qb _);have t3:=hT1 (N+1+1+1) (by omega);have m2c:=m2.cells;have l1:=h.r.v.len;rw [QAc,h.r.len] at l1;simp [t3,qai,lb1,m2c,l1,-AV.cells,-lenOf];have hT2:Tail (O1++[(N+1+1,o2),(N+1+1+1,AO.row 4 [[.Xu 1 [],w2,.Xu 2 [],.Xu 1 []]])]) (N+1+1+1+1):=by
  rw [Tail_append_iff,qa7,qa7];exact ⟨hT1.mono (by omega),by omega,by omega,Tail.nil _⟩
 have hk2:Kp (fun _=>False) (N+1+1) O1 (O1++[(N+1+1,o2),(N+1+1+1,AO.row 4 [[.Xu 1 [],w2,.Xu 2 [],.Xu 1 []]])]):=Kp.appL (fun _ _ _=>rfl) (by simp);have hR2:=hR1.kp hT1 hk2 (by simp);have lb3:look (N+1+1+1) (O1++[(N+1+1,o2),(N+1+1+1,AO.row 4 [[.Xu 1 [],w2,.Xu 2 [],.Xu 1 []]])])=some (.row 4 [[.Xu 1 [],w2,.Xu 2 [],.Xu 1 []]]):=by
  have:¬N+1+1=N+1+1+1:=by omega
  rw [qai,t3];simp
 have m2':Mu (O1++[(N+1+1,o2),(N+1+1+1,AO.row 4 [[.Xu 1 [],w2,.Xu 2 [],.Xu 1 []]])]) 1 w2 (c.Xr.map cI):=by
  refine m2.fr fun j hj=>?_
  obtain ⟨es0,hl⟩:=m2.own hj;have hlt:=(hT1.app1 (o:=o2) (Qb _)).lt hl;have:¬N+1+1+1=j:=by omega
  rw [show O1++[(N+1+1,o2),(N+1+1+1,AO.row 4 [[.Xu 1 [],w2,.Xu 2 [],.Xu 1 []]])]=(O1++[(N+1+1,o2)])++[(N+1+1+1,AO.row 4 [[.Xu 1 [],w2,.Xu 2 [],.Xu 1 []]])] by simp];rw [qai (b:=[(N+1+1+1,_)])];simp [this]
 have lc1:look N (O1++[(N+1+1,o2),(N+1+1+1,AO.row 4 [[.Xu 1 [],w2,.Xu 2 [],.Xu 1 []]])])=some (.row 4 [[v1,v2,v3,v4]]):=by rw [qai,lb1];rfl
 have lc2:look (N+1) (O1++[(N+1+1,o2),(N+1+1+1,AO.row 4 [[.Xu 1 [],w2,.Xu 2 [],.Xu 1 []]])])=some (.row 4 [[.Xu 1 [],.Xu 1 [],.Xu 2 [],.Xu 1 []]]):=by rw [qai,lb2];rfl
 have hk12:=hk1.trans hk2 (by omega);generalize O1++[(N+1+1,o2),(N+1+1+1,AO.row 4 [[.Xu 1 [],w2,.Xu 2 [],.Xu 1 []]])]=O2 at hT2 hR2 lb3 m2' lc1 lc2 hk12 ⊢;refine qae1 c.rows s.t.rl (fun l hl=>⟨s.u l hl,(s.t.rs l hl).2⟩) v1 w2 A (N+1+1+1) _ _ _ O2 _ hT2 hR2.r lb3 ?_ ?_ ?_ ?_ ?_
 ·simp
 ·simp
 ·simp
 ·simp
 intro e3 O3 N3 w1 V mw1 fw1 hV hk3 hT3 hN3 lb3' g1 g2 g3;simp at g1 g2 g3;have hx:∀j,j=N+1+1+1->look j O1=none\/N+1+1<=j:=fun j hj=> .inr (by omega)
 have ld1:look N O3=some (.row 4 [[v1,v2,v3,v4]]):=hk3.lk hT2 lc1 (by omega);have ld2:look (N+1) O3=some (.row 4 [[.Xu 1 [],.Xu 1 [],.Xu 2 [],.Xu 1 []]]):=hk3.lk hT2 lc2 (by omega);have hk13:Kp (fun _=>False) N O O3:=fun j hj _=>(hk3 j (by omega) (by omega)).trans (hk12 j hj (by simp))
 have hR3:=h.kp hT hk13 (by simp);have m23:Mu O3 1 w2 (c.Xr.map cI):=by
  refine m2'.fr fun j hj=>?_
  obtain ⟨es0,hl⟩:=m2'.own hj;exact hk3 j (hT2.lt hl) (qan hl lb3 (by simp))
 have l3:=h.d.len;simp [c_92_k8,g1,ld1,l3,-lenOf];refine qaez c.Xq s.t.dl (fun d hd=>(s.t.ds d hd).1) v3 w1 w2 (N+1+1+1) _ _ _ O3 N3 hT3 hR3.d lb3' ?_ ?_ ?_ ?_ ?_
 ·simp [g3]
 ·simp
 ·simp
 ·simp
 intro e4 O4 N4 w3 mw3 fw3 hk4 hT4 hN4 lb4 f1 f2 f3;simp at f1 f2 f3;have le1:look N O4=some (.row 4 [[v1,v2,v3,v4]]):=hk4.lk hT3 ld1 (by omega);have le2:look (N+1) O4=some (.row 4 [[.Xu 1 [],.Xu 1 [],.Xu 2 [],.Xu 1 []]]):=hk4.lk hT3 ld2 (by omega);have m24:Mu O4 1 w2 (c.Xr.map cI):=by
  refine m23.fr fun j hj=>?_
  obtain ⟨es0,hl⟩:=m23.own hj;exact hk4 j (hT3.lt hl) (qan hl lb3' (by simp))
 have m14:Mu O4 1 w1 (V.map fun x=>[x]):=by
  refine mw1.fr fun j hj=>?_
  obtain ⟨es0,hl⟩:=mw1.own hj;exact hk4 j (hT3.lt hl) (qan hl lb3' (by simp))
 have hV4:RowsW O4 (N+1+1+1+1) V c.rows:=hV.fr fun j es0 hl=>hk4 j (hT3.lt hl) (qan hl lb3' (by simp))
 have l4:lenOf v4=some c.Xm.length:=by have:=h.g.len;rw [QAc] at this;exact this
 simp [c_92_k7,f1,g1,le1,l4,-lenOf];refine qae0 c.Xm s.t.gl (fun l hl=>(s.t.gs l hl).1) v4 w1 w2 w3 (N+1+1+1) _ _ _ O4 N4 hT4 h.g lb4 ?_ ?_ ?_ ?_ ?_
 ·simp [f3,g3]
 ·simp
 ·simp
 ·simp
 intro e5 O5 N5 w4 mw4 hk5 hT5 hN5 lb5 d1 d2 d3;simp at d1 d2 d3;have lf2:look (N+1) O5=some (.row 4 [[.Xu 1 [],.Xu 1 [],.Xu 2 [],.Xu 1 []]]):=hk5.lk hT4 le2 (by omega);simp [c_92_k6,d2,d3,f2,f3,g2,g3,lb5,lf2,qac];refine ⟨w1,w2,w3,w4,V,_,N5,rfl,?_,?_,?_,qaj hT5,by omega⟩
 ·have keep:∀j z es0,z≠4->look j O4=some (.row z es0)->look j (setl (N+1) (.row 4 [[w1,w2,w3,w4]]) O5)=look j O4:=by
   intro j z es0 hz hl;have h5:=hk5 j (hT4.lt hl) (qan hl lb4 (by simp [hz]));have hl5:look j O5=some (.row z es0):=by rw [h5,hl]
   rw [qac,QA (qan hl5 lf2 (by simp [hz])),h5]
  refine ⟨m14.fr fun j hj=>?_,hV4.len,?_,m24.fr fun j hj=>?_,mw3.fr fun j hj=>?_,mw4,?_,hV4.inj,hV4.na⟩
  ·obtain ⟨es0,hl⟩:=m14.own hj;exact keep j 1 es0 (by decide) hl
  ·intro k v l hv hl;refine (hV4.mu k v l hv hl).fr fun j hj=>?_
   obtain ⟨es0,hl⟩:=(hV4.mu k v l hv hl).own hj;exact keep j 5 es0 (by decide) hl
  ·obtain ⟨es0,hl⟩:=m24.own hj;exact keep j 1 es0 (by decide) hl
  ·obtain ⟨es0,hl⟩:=mw3.own hj;exact keep j 2 es0 (by decide) hl
  ·intro i h1 h2;have:=fw1 i h1;obtain ⟨es0,hl⟩:=m2'.own h2;have:=hT2.lt hl;omega
 ·intro j hj;rcases hj with hj | hj | hj | ⟨v,hv,hj⟩
  ·have:=fw1 j hj;omega
  ·have:=fw2 j hj;omega
  ·have:=fw3 j hj;omega
  ·have:=hV4.fresh v hv j hj;omega
 ·intro j hj _;rw [qac,QA (by omega),hk5 j (by omega) (by omega),hk4 j (by omega) (by omega),hk3 j (by omega) (by omega)];exact hk12 j hj (by simp)
def qel:List Rw->Nat->List (AV×AV)
 | [],_=>[]
 | r::l,n=>(.int .i64 r.id,.int .i64 n)::qel l (n+1)
def ents (l:List Rw):List (AV×AV):=qel l 0
theorem qop (r:Rw):∀(l:List Rw) (n:Nat),qel (l++[r]) n=qel l n++[(.int .i64 r.id,.int .i64 ((n+l.length:Nat):Int))]
 | [],n=>by simp [qel]
 | a::l,n=>by
  have ih:=qop r l (n+1);simp only [QAp,qel,ih,QAl];rw [show n+1+l.length=n+(l.length+1) by omega]
theorem qq4 (l:List Rw) (r:Rw):ents (l++[r])=ents l++[(.int .i64 r.id,.int .i64 (l.length:Nat))]:=by
 unfold ents;rw [qop,QBz]
theorem qn5 (x:Int) (v:AV):∀(l:List Rw) (n:Nat),(∀r∈l,r.id≠x)->putA .i (.int .i64 x) v (qel l n)=some (qel l n++[(.int .i64 x,v)])
 | [],n,_=>rfl
 | r::l,n,h=>by
  have ih:=qn5 x v l (n+1) fun r hr=>h r (by simp [hr])
  have h1:¬x=r.id:=fun e=>h r (by simp) e.symm
  simp only [qel,putA,eqKd,if_true];have:(x == r.id)=false:=by simpa using h1
  rw [this];simp only [ih,QBe,QAp]
theorem qov (x:Int):∀(l:List Rw) (n:Nat),qcf .i (.int .i64 x) (qel l n)=some ((rIdx l x).map fun i=> .int .i64 ((i+n:Nat):Int))
 | [],n=>rfl
 | r::l,n=>by
  have ih:=qov x l (n+1);unfold rIdx at ih ⊢;simp only [qel,qcf,eqKd,if_true,List.findIdx?_cons];by_cases h:x=r.id
  ·subst h;simp
  ·have h':(x == r.id)=false:=by simpa using h
   have h'':¬r.id=x:=fun e=>h e.symm
   rw [h'];simp only [ih,h'',decide_false,Option.map_map,QAh,if_false];congr 2;funext i;simp only [Function.comp_apply];rw [show i+(n+1)=i+1+n by omega]
theorem qzx (x:Int) (l:List Rw):qcf .i (.int .i64 x) (ents l)=some ((rIdx l x).map fun (i:Nat)=> .int .i64 (i:Int)):=qov x l 0
def qy4 (N:Nat) (O:List (Nat×AO)) (iid k:Nat) (es:List (List AV)) (l:List Rw) (r:Option (Rt×AH)):Prop:=
 ∃O' N',r=some (.val (.tup []),⟨O',N'⟩)/\look iid O'=some (.row 1 (es.set k [.map N]))/\look N O'=some (.map (ents l))/\Kp (fun j=>j=iid) N O O'/\Tail O' N'/\N<N'
theorem qpe {O:List (Nat×AO)} {N sid iid k:Nat} {v1 v2 v3 v4:AV} {R:List AV} {V:List AV} {l:List Rw} {es:List (List AV)} {n:Nat} (hT:Tail O N) (hl:l.length<2^39) (hk:k<n) (hVk:k<V.length)
  (hs:look sid O=some (.row 15 [v1::v2::v3::v4::(R++[.row iid 1 0 n,.bool true])])) (hR:R.length=9) (hi:look iid O=some (.row 1 es)) (hn:n<=es.length) (hes:∃x,es[k]? =some [x])
  (h1:Mu O 1 v1 (V.map fun x=>[x])) (h5:Mu O 5 V[k] (l.map Rw.c)) (hri:vid v1≠some iid) (hinc:l.Pairwise fun a b=>a.id<b.id) (hk39:k<2^40):
  qy4 N O iid k es l (qak Φ f_154 [.ptr sid 15 0 0,.int .i64 k] ⟨O,N⟩):=by
 rw [qaz (fn:=c_154) rfl rfl];obtain ⟨r0,r1,r2,r3,r4,r5,r6,r7,r8,rfl⟩:∃r0 r1 r2 r3 r4 r5 r6 r7 r8,R=[r0,r1,r2,r3,r4,r5,r6,r7,r8]:=by
  match R,hR with
  | [r0,r1,r2,r3,r4,r5,r6,r7,r8],_=>exact ⟨_,_,_,_,_,_,_,_,_,rfl⟩
 obtain ⟨x,hx⟩:=hes;have t0:=hT N (Qb _);have hsi:=qan hs hi (by simp);have fi:=qca hT hi (Qb N);have fs:=qca hT hs (Qb N);obtain ⟨rid,es1,e1,hl1,hle1,ht1⟩:=h1.nonempty (by simp;omega);subst e1;have hrid:¬rid=iid:=fun e=>hri (by rw [e];rfl)
 have fr:=qca hT hl1 (Qb N);have g1:es1[k]? =some [V[k]]:=qfr hVk ht1;have hkn:k<V.length:=hVk;have hken:k<es.length:=by omega
 have h5l:=h5.len;rw [QAc] at h5l;simp [c_154,hs,hi,t0,qai,hk,hx,qac,hsi,fi,fs,hl1,hrid,g1,hVk,h5l,-lenOf];have hT1:Tail (setl iid (AO.row 1 (es.set k [.map N])) (O++[(N,AO.map [])])) (N+1):=qaj (hT.app1 (Qb _));have hk1:Kp (fun j=>j=iid) N O (setl iid (AO.row 1 (es.set k [.map N])) (O++[(N,AO.map [])])):=Kp.setl (Kp.app (fun _ _ _=>rfl) (Qb _)) (.inr rfl);have a1:look iid (setl iid (AO.row 1 (es.set k [.map N])) (O++[(N,AO.map [])]))=some (.row 1 (es.set k [.map N])):=by simp [qac,qai,hi]
 have a2:look N (setl iid (AO.row 1 (es.set k [.map N])) (O++[(N,AO.map [])]))=some (.map []):=by simp [qac,fi,t0]
 generalize setl iid (AO.row 1 (es.set k [.map N])) (O++[(N,AO.map [])])=O1 at hT1 hk1 a1 a2 ⊢;have a3:look sid O1=some (.row 15 [AV.row rid 1 0 V.length::v2::v3::v4::([r0,r1,r2,r3,r4,r5,r6,r7,r8]++[.row iid 1 0 n,.bool true])]):=by
  rw [hk1 sid (hT.lt hs) hsi,hs];simp
 have h51:Mu O1 5 V[k] (l.map Rw.c):=by
  refine h5.fr fun j hj=>?_
  obtain ⟨es0,hl0⟩:=h5.own hj;exact hk1 j (hT.lt hl0) (qan hl0 hi (by simp))
 refine qgx l.length (fun i e h=>∃O' N',h=⟨O',N'⟩/\Kp (fun j=>j=N) (N+1) O1 O'/\Tail O' N'/\N+1<=N'/\look N O'=some (.map (ents (l.take i)))/\look 0 e=some (.ptr sid 15 0 0)/\look 1 e=some (.int .i64 k)/\look 20 e=some V[k]/\look 21 e=some (.int .i64 l.length)/\look 22 e=some (.int .i64 i)) (qy4 N O iid k es l) ?_ ?_ 0 _ _ (Qc _) ?_
 ·rintro i e _ L hi' hL ⟨O',N',rfl,hk',hT',hN',b2,e0,e1,e20,e21,e22⟩ ih;have hw1:=qaf i (by omega);have u0:=hT' N' (Qb _);have fN:¬N'=N:=by omega
  have b1:look iid O'=some (.row 1 (es.set k [.map N])):=hk'.lk hT1 a1 (by omega);have b3:=hk'.lk hT1 a3 (by omega);have b4:(es.set k [AV.map N])[k]? =some [.map N]:=by rw [List.getElem?_set_self hken]
  have hne:∀r∈l.take i,r.id≠l[i].id:=by
   intro r hr;rw [List.mem_take_iff_getElem] at hr;obtain ⟨m,hm,rfl⟩:=hr;have:=QBa.1 hinc m i (by omega) hi' (by omega);omega
  have hp:=qn5 l[i].id (.int .i64 i) (l.take i) 0 hne;have hml:min i l.length=i:=by omega
  have hsn:ents (l.take (i+1))=ents (l.take i)++[(.int .i64 l[i].id,.int .i64 (i:Nat))]:=by
   rw [Qh hi',qq4,QAd,hml]
  rw [show qel (l.take i) 0=ents (l.take i) from rfl] at hp;have h5':Mu O' 5 V[k] (l.map Rw.c):=by
   refine h51.fr fun j hj=>?_
   obtain ⟨es0,hl0⟩:=h51.own hj;exact hk' j (hT1.lt hl0) (qan hl0 a2 (by simp))
  obtain ⟨r5',es5,ev,hl5,hle5,ht5⟩:=h5'.nonempty (by simp;omega);have g5:=qfr hi' ht5;rw [ev] at e20;have f1:=qca hT' b1 (Qb N');have f3:=qca hT' b3 (Qb N');simp [c_154_l0,Rw.ce,e0,e1,e20,e21,e22,hi',hl5,g5,u0,b3,b1,hken,hk,b2,hp,hw1];refine ih _ _ ⟨_,_,rfl,Kp.setl hk' (.inr rfl),qaj (hT'.mono (by omega)),by omega,?_,?_,?_,?_,?_,?_⟩
  ·simp [qac,b2,hsn]
  all_goals simp [*]
 ·rintro e _ L hL ⟨O',N',rfl,hk',hT',hN',b2,e0,e1,e20,e21,e22⟩;simp [c_154_l0,e21,e22,hL];refine ⟨O',N',rfl,hk'.lk hT1 a1 (by omega),?_,?_,hT',by omega⟩
  ·rw [b2,QAf]
  ·intro j hj hx;rw [hk' j (by omega) (by omega)];exact hk1 j hj hx
 ·refine ⟨O1,N+1,rfl,fun _ _ _=>rfl,hT1,Qb _,a2,?_,?_,?_,?_,?_⟩<;>simp
end Go.Av
