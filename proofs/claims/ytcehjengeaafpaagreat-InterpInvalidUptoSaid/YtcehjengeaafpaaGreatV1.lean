/-
 Valid configurations: what the check says, as a plain property.
-/
import Derived.Test.YtcehjengeaafpaaGreatQ2
set_option linter.unusedVariables false
set_option linter.unusedSimpArgs false
set_option linter.constructorNameAsVariable false
namespace Go.Av
structure TabV (p:Prg) (k:Nat) (tb:Tbl) (l:List Rw) (nx:Int) (d:Xb):Prop where
 size:(l.length:Int)<=tb.size
 pos:∀r∈l,0<r.id
 lt:∀r∈l,r.id<nx
 inc:l.Pairwise (fun a b=>a.id<b.id)
 nx0:0<nx
 nx1:nx<=1073741824
 ent:∀r∈l,entE p k r.entry=0
 uniq:l.Pairwise (fun a b=>sk a.entry b.entry=false)
 Yb:iX p k d=0
theorem qtr (nx:Int):∀(l:List Rw) (a:Int),(∃b,ordL l a=some b/\b<nx)↔a<nx/\(∀r∈l,a<r.id/\r.id<nx)/\l.Pairwise (fun a b=>a.id<b.id)
 | [],a=>by simp [ordL]
 | r::l,a=>by
  have ih:=qtr nx l r.id;simp only [ordL];by_cases h:r.id<=a
  ·rw [a9 h];constructor
   ·rintro ⟨b,hb,_⟩;cases hb
   ·rintro ⟨_,h2,_⟩;have:=(h2 r (by simp)).1;omega
  ·rw [QA h,ih,U5];constructor
   ·rintro ⟨h1,h2,h3⟩;refine ⟨by omega,?_,fun x hx=>(h2 x hx).1,h3⟩;intro x hx;rcases iW.1 hx with rfl | hx
    ·exact ⟨by omega,h1⟩
    ·have:=h2 x hx;exact ⟨by omega,this.2⟩
   ·rintro ⟨h1,h2,h3,h4⟩;exact ⟨(h2 r (by simp)).2,fun x hx=>⟨h3 x hx,(h2 x (by simp [hx])).2⟩,h4⟩
theorem XT (p:Prg) (t:Int) (l:List Rw):(∀i,i<l.length->rowG p t l i=none)↔(∀r∈l,entE p t r.entry=0)/\l.Pairwise (fun a b=>sk a.entry b.entry=false):=by
 have key:∀i (hi:i<l.length),rowG p t l i=none↔entE p t l[i].entry=0/\∀j (hj:j<i),sk l[j].entry l[i].entry=false:=by
  intro i hi;simp only [rowG,Qa hi,eM];by_cases h:entE p t l[i].entry=0
  ·rw [QA (by simpa using h)];have:((l.take i).any fun y=>sk y.entry l[i].entry)=true↔¬∀j (hj:j<i),sk l[j].entry l[i].entry=false:=by
    rw [GI];constructor
    ·rintro ⟨y,hy,hs⟩ hc;obtain ⟨j,hj,rfl⟩:=Qn.1 hy;simp at hj;have:=hc j (by omega);simp only [lG] at hs;rw [this] at hs;cases hs
    ·intro hc;simp only [Classical.not_forall] at hc;obtain ⟨j,hj,hs⟩:=hc;refine ⟨l[j],?_,by simpa using hs⟩;rw [List.mem_take_iff_getElem];exact ⟨j,by omega,rfl⟩
   by_cases hu:∀j (hj:j<i),sk l[j].entry l[i].entry=false
   ·rw [QA (by rw [this];exact fun hc=>hc hu)];simp [h];exact hu
   ·rw [a9 (this.2 hu)];simp [h];simpa using hu
  ·rw [a9 h];simp [h]
 constructor
 ·intro h;refine ⟨?_,?_⟩
  ·intro r hr;obtain ⟨i,hi,rfl⟩:=Qn.1 hr;exact ((key i hi).1 (h i hi)).1
  ·rw [X6];intro i j hi hj hij;exact ((key j hj).1 (h j hj)).2 i hij
 ·rintro ⟨h1,h2⟩ i hi;rw [key i hi];refine ⟨h1 _ (Qd hi),?_⟩;intro j hj;exact X6.1 h2 j i (by omega) hi hj
theorem Ha (p:Prg) (t:Int) (l:List Rw) {i:Nat} {x:Int} (h:rowG p t l i=some x):x≠0:=by
 simp only [rowG,Qt] at h;obtain ⟨r,_,hr⟩:=h;split at hr
 ·cases hr;assumption
 ·split at hr
  ·cases hr;decide
  ·cases hr
theorem Zg (p:Prg) (k:Nat) (tb:Tbl) (l:List Rw) (nx:Int) (d:Xb):rowE p k tb l nx (iX p k d)=0↔TabV p k tb l nx d:=by
 have hI:=qtr nx l 0;have hG:=XT p k l;rw [<- fe_all] at hG;unfold rowE;by_cases h:tb.size<(l.length:Int)
 ·rw [a9 h];constructor
  ·intro hc;cases hc
  ·intro hv;have:=hv.size;omega
 rw [QA h];cases ho:ordL l 0 with
 | none=>
  rw [ho] at hI;simp only [tabK];constructor
  ·intro hc;cases hc
  ·intro hv;obtain ⟨b,hb,_⟩:=hI.2 ⟨hv.nx0,fun r hr=>⟨hv.pos r hr,hv.lt r hr⟩,hv.inc⟩;cases hb
 | some a=>
  rw [ho] at hI;simp only [tabK];by_cases h1:nx<=a
  ·rw [a9 h1];constructor
   ·intro hc;cases hc
   ·intro hv;obtain ⟨b,hb,h2⟩:=hI.2 ⟨hv.nx0,fun r hr=>⟨hv.pos r hr,hv.lt r hr⟩,hv.inc⟩;cases hb;omega
  rw [QA h1];have hJ:=hI.1 ⟨a,rfl,by omega⟩;by_cases h2:1073741824<nx
  ·rw [a9 h2];constructor
   ·intro hc;cases hc
   ·intro hv;have:=hv.nx1;omega
  rw [QA h2];cases hf:fe (rowG p k l) l.length 0 with
  | some x=>
   have hx:x≠0:=by
    obtain ⟨i,_,hx⟩:=E8 hf;exact Ha p k l hx
   rw [hf] at hG;simp only [jO];constructor
   ·intro hc;exact absurd hc hx
   ·intro hv;have:=hG.2 ⟨hv.ent,hv.uniq⟩;cases this
  | none=>
   have hq:=hG.1 hf;simp only [QD];constructor
   ·intro hc;exact ⟨by omega,fun r hr=>(hJ.2.1 r hr).1,fun r hr=>(hJ.2.1 r hr).2,hJ.2.2,hJ.1,by omega,hq.1,hq.2,hc⟩
   ·intro hv;exact hv.Yb
structure CfgV (p:Prg) (c:Xe):Prop where
 prg:(prgD p).1=0
 rl:c.rows.length=p.Xm.length
 nl:c.Xq.length=p.Xm.length
 dl:c.Xp.length=p.Xm.length
 tab:∀k tb l nx d,p.Xm[k]? =some tb->c.rows[k]? =some l->c.Xq[k]? =some nx->c.Xp[k]? =some d->TabV p k tb l nx d
 con:conE p c.Xl=0
theorem Nn (p:Prg) (c:Xe) {k:Nat} {x:Int} (h:stG p c k=some x):x≠0:=by
 unfold stG at h;split at h
 ·split at h
  ·cases h
  ·cases h;assumption
 ·cases h
theorem qze (p:Prg) (c:Xe):cfgE p c=0↔CfgV p c:=by
 unfold cfgE;by_cases h:(prgD p).1=0
 rotate_left
 ·rw [a9 h];exact ⟨fun hc=>absurd hc h,fun hv=>absurd hv.prg h⟩
 rw [QA (by simpa using h)];by_cases hl:c.rows.length≠p.Xm.length\/c.Xq.length≠p.Xm.length\/c.Xp.length≠p.Xm.length
 ·rw [a9 hl];constructor
  ·intro hc;cases hc
  ·intro hv;have:=hv.rl;have:=hv.nl;have:=hv.dl;omega
 rw [QA hl];have l1:c.rows.length=p.Xm.length:=by omega
 have l2:c.Xq.length=p.Xm.length:=by omega
 have l3:c.Xp.length=p.Xm.length:=by omega
 cases hf:fe (stG p c) p.Xm.length 0 with
 | some x=>
  obtain ⟨k,hk,hx⟩:=E8 hf;simp only [jO];constructor
  ·intro hc;exact absurd hc (Nn p c hx)
  ·intro hv;have hq:stG p c k=none:=by
    unfold stG;split
    ·rename_i tb l nx d e1 e2 e3 e4;rw [a9 ((Zg p k tb l nx d).2 (hv.tab k tb l nx d e1 e2 e3 e4))]
    ·rfl
   rw [hq] at hx;cases hx
 | none=>
  simp only [QD];have ha:=fe_all.1 hf;constructor
  ·intro hc;refine ⟨h,l1,l2,l3,?_,hc⟩;intro k tb l nx d e1 e2 e3 e4;have hk:=(Qm.1 e1).1;have hq:=ha k hk;simp only [stG,e1,e2,e3,e4] at hq;split at hq
   ·rename_i hz;exact (Zg p k tb l nx d).1 hz
   ·cases hq
  ·intro hv;exact hv.con
section
variable {p:Prg} {c:Xe} {k:Nat}
theorem CfgV.at (v:CfgV p c) (h:k<p.Xm.length):TabV p k p.Xm[k] (c.rows[k]'(by rw [v.rl];exact h)) (c.Xq[k]'(by rw [v.nl];exact h)) (c.Xp[k]'(by rw [v.dl];exact h)):=
 v.tab k _ _ _ _ (Qa h) (Qa (by rw [v.rl];exact h)) (Qa (by rw [v.nl];exact h)) (Qa (by rw [v.dl];exact h))
theorem CfgV.upd (v:CfgV p c) (h:k<p.Xm.length) {l:List Rw} {nx:Int} {d:Xb} {R:List (List Rw)} {N:List Int} {D:List Xb}
  (hR:R=c.rows.set k l) (hN:N=c.Xq.set k nx) (hD:D=c.Xp.set k d) (t:TabV p k p.Xm[k] l nx d):CfgV p ⟨R,N,D,c.Xl⟩:=by
 subst hR hN hD;refine ⟨v.prg,by simp [v.rl],by simp [v.nl],by simp [v.dl],?_,v.con⟩;intro j tb l' nx' d' h1 h2 h3 h4;have hl1:=v.rl;have hl2:=v.nl;have hl3:=v.dl;by_cases hj:k=j
 ·subst hj;rw [List.getElem?_set_self (by omega)] at h2 h3 h4;rw [Qa h] at h1;cases h1;cases h2;cases h3;cases h4;exact t
 ·simp only [List.getElem?_set_ne hj] at h2 h3 h4;exact v.tab j _ _ _ _ h1 h2 h3 h4
end
theorem qwj {Z:Type} {f:Z->Option Z}:∀{l:List Z},(∀x∈l,f x=some x)->mapO f l=some l
 | [],_=>rfl
 | a::l,h=>by
  have h1:=h a (by simp);have h2:=qwj (f:=f) (l:=l) fun x hx=>h x (by simp [hx])
  simp only [mapO,h1,h2]
theorem r9 {Z:Type} {g:Z->List AV} {n:Nat} {H:AH} (h:∀x,mapO (snap n H) (g x)=some (g x)) (l:List Z):mapO (mapO (snap n H)) (l.map g)=some (l.map g):=by
 refine qwj fun x hx=>?_
 obtain ⟨y,_,rfl⟩:=lH.1 hx;exact h y
theorem Nk {n:Nat} {H:AH} (r:Rw):mapO (snap (n+1) H) (Rw.c r)=some (Rw.c r):=by simp [Rw.c]
structure CfgM (O:List (Nat×AO)) (v1 v2 v3 v4:AV) (V:List AV) (c:Xe):Prop where
 r:Mu O 1 v1 (V.map fun v=>[v])
 rl:V.length=c.rows.length
 rv:∀(k:Nat) (v:AV) (l:List Rw),V[k]? =some v->c.rows[k]? =some l->Mu O 5 v (l.map Rw.c)
 n:Mu O 1 v2 (c.Xq.map cI)
 d:Mu O 2 v3 (c.Xp.map Xb.c)
 g:v4= .Xt 1 (c.Xl.map (cS 1 c32))\/∃t,v4= .app 1 (c.Xl.map (cS 1 c32)) t
 rn:∀i,vid v1=some i->vid v2=some i->False
 vi:∀(k k':Nat) (v v':AV) (i:Nat),V[k]? =some v->V[k']? =some v'->vid v=some i->vid v'=some i->k=k'
 va:∀v∈V,∀z es t,v≠ .app z es t
def CfgM.own (v1 v2 v3:AV) (V:List AV) (j:Nat):Prop:=vid v1=some j\/vid v2=some j\/vid v3=some j\/∃v∈V,vid v=some j
theorem CfgM.fr {O O':List (Nat×AO)} {v1 v2 v3 v4:AV} {V:List AV} {c:Xe} (h:CfgM O v1 v2 v3 v4 V c) (hf:∀j,CfgM.own v1 v2 v3 V j->look j O'=look j O):CfgM O' v1 v2 v3 v4 V c:=by
 refine ⟨h.r.fr fun j hj=>hf j (.inl hj),h.rl,?_,h.n.fr fun j hj=>hf j (.inr (.inl hj)),h.d.fr fun j hj=>hf j (.inr (.inr (.inl hj))),h.g,h.rn,h.vi,h.va⟩;intro k v l hv hl;exact (h.rv k v l hv hl).fr fun j hj=>hf j (.inr (.inr (.inr ⟨v,Qe hv,hj⟩)))
@[simp] theorem a0s (b x:Bool) (H:AH):E7 b H (some (.val (.bool x)))=some (.val (.bool x),H):=by cases b<;>simp
@[simp] theorem a0x (b:Bool) (k:IntKind) (x:Int) (H:AH):E7 b H (some (.val (.int k x)))=some (.val (.int k x),H):=by cases b<;>simp
set_option maxRecDepth 4000
def regN (r:Xg):Nat:=if r.size<1\/64<r.size then 0 else r.size.toNat
theorem Yo {Ψ:FuncId->Option AFun} {f z bytes:Nat} (hf:Ψ f=some (.rule (E9 z bytes .app))) (es:List (List AV)) (hz:kX z es=true) (hb:es.length*bytes<=70368744177664):a8 Ψ f [.slice z es]=some (.val (.slice z es)):=by
 unfold a8;rw [Vn Ψ hf];cases es with
 | nil=>simp [E9,lenOf,jM,evR,rA,H0,AH.put]
 | cons x es=>
  simp only [EW] at hb;simp [E9,lenOf,evR,rA,H0,AH.put,hz,hb]
theorem Tf (l:List Int) (h:l.length<2^40):a8 Φ oY [.slice 1 (l.map c32)]=some (.val (.slice 1 (l.map c32))):=
 Yo (bytes:=4) rfl _ (K1 1 c32 l fun x=>by simp [c32]) (by rw [qN];omega)
theorem qzh (l:List Xh) (h:l.length<2^40):a8 Φ FC [.slice 2 (l.map Xh.c)]=some (.val (.slice 2 (l.map Xh.c))):=
 Yo (bytes:=8) rfl _ (K1 2 Xh.c l fun x=>by simp [Xh.c]) (by rw [qN];omega)
theorem qwi (H:AH):∀l:List Int,mapO (mapO (snap 39 H)) (l.map cI)=some (l.map cI)
 | []=>by simp [mapO]
 | x::l=>by
  have ih:=qwi H l;simp only [nV,mapO,ih];simp [cI,mapO]
theorem Kb (l:List Int) (h:l.length<2^40):a8 Φ CP [.slice 1 (l.map cI)]=some (.val (.slice 1 (l.map cI))):=by
 unfold a8;rw [Vn Φ (g:=E9 1 8 .row) rfl];cases l with
 | nil=>simp [E9,lenOf,jM,evR,rA,H0,AH.put]
 | cons x l=>
  have hb:(l.length+1)*8<=70368744177664:=by simp at h;omega
  have hm:=qwi ⟨[(0,.row 1 ((x::l).map cI))],1⟩ (x::l);simp [cI] at hm;simp [E9,lenOf,evR,rA,H0,AH.put,hb,cI,hm]
def RegV (T:List (Nat×AO)) (x:AV) (r:Xg):Prop:=(x= .Xt 1 []/\regN r=0)\/∃id,1<=id/\x= .row id 1 0 (regN r)/\look id T=some (.row 1 (List.replicate (regN r) [.int .u32 0]))
inductive RegL (T:List (Nat×AO)):List AV->List Xg->Prop
 | nil:RegL T [] []
 | snoc {A rs x r} (h:RegL T A rs) (hx:RegV T x r):RegL T (A++[x]) (rs++[r])
theorem RegV.app {T:List (Nat×AO)} {x:AV} {r:Xg} (h:RegV T x r) (U:List (Nat×AO)):RegV (T++U) x r:=by
 rcases h with h | ⟨id,h1,h2,h3⟩
 ·exact .inl h
 ·exact .inr ⟨id,h1,h2,by rw [OI,h3];simp⟩
theorem RegL.app {T:List (Nat×AO)} {A:List AV} {rs:List Xg} (h:RegL T A rs) (U:List (Nat×AO)):RegL (T++U) A rs:=by
 induction h with
 | nil=>exact .nil
 | snoc h hx ih=>exact .snoc ih (hx.app U)
theorem RegL.len {T:List (Nat×AO)} {A:List AV} {rs:List Xg} (h:RegL T A rs):A.length=rs.length:=by
 induction h with
 | nil=>rfl
 | snoc h hx ih=>simp [ih]
theorem qtk (H:AH) (k:Nat):∀m,mapO (mapO (snap 38 H)) (List.replicate m [AV.int .u32 k])=some (List.replicate m [AV.int .u32 k])
 | 0=>by simp [mapO]
 | m+1=>by
  have ih:=qtk H k m;simp only [U2,mapO,ih];simp
theorem Yg {Z I:Type} (f:Z->Option I):∀(l:List Z) (x:Z) (l':List I) (y:I),mapO f l=some l'->f x=some y->mapO f (l++[x])=some (l'++[y])
 | [],x,l',y,h,hy=>by
  simp [mapO] at h;subst h;simp [mapO,hy]
 | a::l,x,l',y,h,hy=>by
  simp only [mapO] at h;cases hb:f a with
  | none=>rw [hb] at h;cases h
  | some b=>
   rw [hb] at h;cases hm:mapO f l with
   | none=>rw [hm] at h;cases h
   | some m=>
    rw [hm] at h;cases h;have ih:=Yg f l x m y hm hy;simp only [n9,mapO,hb,ih]
theorem RegL.snp {T:List (Nat×AO)} {A:List AV} {rs:List Xg} (h:RegL T A rs) (o:AO) (n:Nat):
  mapO (mapO (snap 39 ⟨(0,o)::T,n⟩)) (A.map fun x=>[x])=some (rs.map fun r=>[AV.slice 1 (List.replicate (regN r) [.int .u32 0])]):=by
 induction h with
 | nil=>simp [mapO]
 | snoc h hx ih=>
  rw [EX,EX];refine Yg _ _ _ _ _ ih ?_;rcases hx with ⟨rfl,h0⟩ | ⟨id,h1,rfl,h3⟩
  ·simp [mapO,h0]
  ·have hi:¬(0=id):=by omega
   have hr:=qtk ⟨(0,o)::T,n⟩ 0;simp at hr;simp [mapO,look,hi,h3,hr]
theorem qz8 {l:List Rw} {i:Nat} {es0:List (List AV)} (hi:i<l.length) (ht:es0.take (l.map Rw.c).length=l.map Rw.c):es0[i]? =some (Rw.c l[i]):=by
 have h:(es0.take (l.map Rw.c).length)[i]? =(l.map Rw.c)[i]? :=by rw [ht]
 rw [List.getElem?_take_of_lt (by simpa using hi)] at h;rw [h];simp [hi]
section
variable {I:Type} {fin:Option (Ex×St)->Option I}
end
section
variable {O O':List (Nat×AO)} {N N' n id:Nat} {X:Nat->Prop} {o y:AO}
theorem Kp.app (h:Kp X N O O') (hn:N<=n):Kp X N O (O'++[(n,o)]):=by
 intro j hj hx;have:¬n=j:=by omega
 rw [aH,h j hj hx];simp [this]
theorem Kp.drop (h:Kp X N O O') (hn:N<=id\/X id):Kp X N O (dropl id O'):=by
 intro j hj hx;rw [E6 (by rintro rfl;rcases hn with hn | hn;omega;exact hx hn),h j hj hx]
theorem Kp.setl (h:Kp X N O O') (hn:N<=id\/X id):Kp X N O (setl id y O'):=by
 intro j hj hx;rw [aC,QA (by rintro rfl;rcases hn with hn | hn;omega;exact hx hn),h j hj hx]
theorem Tail.app1 (h:Tail O' N') (hn:N'<=n):Tail (O'++[(n,o)]) (n+1):=by
 rw [Tail_append_iff,Tail_cons_iff];exact ⟨h.mono (by omega),by omega,Tail.nil _⟩
theorem Kp.lk (h:Kp X N O O') (hT:Tail O N) {j:Nat} {x:AO} (hl:look j O=some x) (hx:¬X j):look j O'=some x:=by
 rw [h j (hT.lt hl) hx,hl]
theorem cW {j:Nat} {x y:AO} (h1:look id O=some x) (h2:look j O=some y) (h:x≠y):id≠j:=by
 rintro rfl;rw [h1] at h2;cases h2;exact h rfl
theorem eX {j:Nat} {x:AO} (hT:Tail O N) (h1:look j O=some x) (hn:N<=n):¬j=n/\¬n=j:=by
 have:=hT.lt h1;omega
end
theorem Re.src {O:List (Nat×AO)} {z N:Nat} {v:AV} {es:List (List AV)} (h:Re O z v es):jM ⟨O,N⟩ v=some es:=by
 cases h with
 | sl=>rfl
 | fs=>rfl
 | ap=>rfl
 | row id _ es0 n hn hl hle ht=>
  subst hn;simp [hl,hle,ht]
set_option maxRecDepth 6000
theorem pU (a b:List (Nat×AO)):f9 (a++b)=f9 a++f9 b:=by
 induction a with
 | nil=>simp
 | cons x a ih=>
  obtain ⟨u,w⟩:=x;cases w<;>simp [ih]
def NR (O:List (Nat×AO)):Prop:=f9 O=O
theorem NR.app {a b:List (Nat×AO)} (h:NR a) (h2:NR b):NR (a++b):=by
 unfold NR at*;rw [pU,h,h2]
theorem KL:NR []:=rfl
theorem dU {u:Nat} {x:AO} {r:List (Nat×AO)} (hx:x≠ .res) (h:NR r):NR ((u,x)::r):=by
 unfold NR at*;cases x<;>simp_all
theorem NR.one {u:Nat} {x:AO} (hx:x≠ .res):NR [(u,x)]:=dU hx KL
theorem qy2 {u:Nat} {x:AO} {r:List (Nat×AO)} (h:NR ((u,x)::r)):x≠ .res/\NR r:=by
 have hl:∀l:List (Nat×AO),(f9 l).length<=l.length:=by
  intro l
  induction l with
  | nil=>simp
  | cons a l ih=>
   obtain ⟨v,y⟩:=a;cases y<;>simp<;>omega
 unfold NR at*;cases x with
 | res=>
  have:=hl r;rw [qyx] at h;rw [h] at this;simp at this;omega
 | _=>simp at h;exact ⟨by simp,h⟩
theorem NR.setl {t:Nat} {y:AO} (hy:y≠ .res):∀{O:List (Nat×AO)},NR O->NR (setl t y O)
 | [],h=>h
 | (u,x)::r,h=>by
  obtain ⟨h1,h2⟩:=qy2 h;by_cases q:u=t
  ·subst q;rw [Cj];exact dU hy h2
  ·rw [YR _ _ _ _ _ q];exact dU h1 (NR.setl hy h2)
theorem NR.sw {O:List (Nat×AO)} (h:NR O) (t z:Nat) (es:List (List AV)):f9 (Go.Av.setl t (.row z es) O)=Go.Av.setl t (.row z es) O:=h.setl (by simp)
theorem NR.eq {O:List (Nat×AO)} (h:NR O):f9 O=O:=h
theorem NR.dropl {t:Nat}:∀{O:List (Nat×AO)},NR O->NR (dropl t O)
 | [],h=>h
 | (u,x)::r,h=>by
  obtain ⟨h1,h2⟩:=qy2 h;by_cases q:u=t
  ·subst q;rw [qzo];exact h2
  ·rw [qxv _ _ _ _ q];exact dU h1 (NR.dropl h2)
def EvP (p:Prg) (ps:List Fld) (e:Envt) (args:List Int) (l:List Xd) (id N:Nat) (O:List (Nat×AO)) (v w:Int) (j:Nat) (r:Option (Rt×AH)):Prop:=
 ∃O' N',r=some (.val (.agg [.int .u32 v,a7 w]),⟨O',N'⟩)/\look id O'=some (.row 17 [mchC p ps e args l j])/\Kp (fun j=>j=id) N O O'/\Tail O' N'/\N<=N'/\NR O'
def evlA:Xu:=match eC.body with | .seq a _=>a | c=>c
def evlB:Xu:=match eC.body with | .seq _ (.seq a _)=>a | c=>c
def evlC:Xu:=match eC.body with | .seq _ (.seq _ (.seq a _))=>a | c=>c
def evlR:Xu:=match eC.body with | .seq _ (.seq _ (.seq _ a))=>a | c=>c
theorem Fi:eC.body= .seq evlA (.seq evlB (.seq evlC evlR)):=rfl
section
variable (p:Prg) (ps:List Fld) (e:Envt) (args:List Int) (l:List Xd)
theorem B' {O:List (Nat×AO)} {N id i:Nat} (hl:l.length<2^40) (hT:Tail O N) (hN:NR O) (hm:look id O=some (.row 17 [mchC p ps e args l i])) (hi:i<l.length) {Q:Option (Rt×AH)->Prop}
  (h:∀E O1,look 0 E=some (.ptr id 17 0 0)->look 2 E=some (.ptr N 2 0 0)->look 3 E=some (.iptr 3 [Xd.c l[i]] 0 0)->look N O1=some (.row 2 [[.int .u32 0,a7 0]])->look id O1=some (.row 17 [mchC p ps e args l (i+1:Nat)])->
   Kp (fun j=>j=id) N O O1->Tail O1 (N+5)->NR O1->Q (go Φ (finC eC.results) [.c evlR] .normal ⟨E,⟨O1,N+5⟩⟩)):
  Q (aQ Φ fJ [.ptr id 17 0 0] ⟨O,N⟩):=by
 rw [eI rfl rfl,Fi];rw [D6] at hm;have t0:=hT N (Qb _);have t1:=hT (N+1) (by omega);have t4:=hT (N+1+3) (by omega);have n4:¬N=N+1+3/\¬N+1+3=N:=by omega
 have n5:¬N+1+3+1=N+1+3/\¬N+1+3=N+1+3+1:=by omega
 have f0:=eX hT hm (Qb N);have f4:=eX (n:=N+1+3) hT hm (by omega);have hw:=aM i (by omega);have hb:(id == N+1+3)=false:=by simp;omega
 have hx:l[i]=⟨l[i].op,l[i].n,l[i].w⟩:=rfl;simp [evlA,evlB,evlC,eC,t0,t1,t4,n4,n5,aH,aC,pU,show f9 O=O from hN,hm,hi,Xd.e,f0,f4,hw,hb];refine h _ _ ?_ ?_ ?_ ?_ ?_ ?_ ?_ ?_
 ·simp
 ·simp
 ·simp [Xd.e]
 ·simp [aC,aH,t0,f0]
 ·simp [aC,aH,hm,D6]
 ·exact (Kp.app Kp.refl (Qb _)).setl (.inr rfl)
 ·exact d6 ((hT.app1 (Qb _)).mono (by omega))
 ·exact (hN.app (.one (by simp))).setl (by simp)
variable (hg:∀h f,ok32 0 (eGet e h f)) (ha:∀v∈args,ok32 0 v) (hl:l.length<2^40)
include hg ha hl
theorem ev_ok:∀(n i:Nat) (w:Int) (j:Nat),chk p ps l n i= .ok (w,j)->∀(O:List (Nat×AO)) (N id:Nat),Tail O N->NR O->look id O=some (.row 17 [mchC p ps e args l i])->
  EvP p ps e args l id N O (evx p ps l e args n i).1 w j (aQ Φ fJ [.ptr id 17 0 0] ⟨O,N⟩)
 | 0,i,w,j,h,O,N,id,hT,hN,hm=>by cases h
 | n+1,i,w,j,h,O,N,id,hT,hN,hm=>by
  have ih:=ev_ok n;simp only [chk] at h;simp only [evx];cases hx:l[i]? with
  | none=>rw [hx] at h;cases h
  | some x=>
  rw [hx] at h;simp only at h ⊢;obtain ⟨hi,hxe⟩:=Qm.1 hx;refine B' p ps e args l (Q:=EvP p ps e args l id N O _ w j) hl hT hN hm hi fun E O1 h0 h2 h3 hO hm1 hk1 hT1 hN1=>?_
  rw [hxe,Xd.e] at h3;have hidN:id<N:=hT.lt hm;have nid:¬id=N/\¬N=id:=by omega
  have hA:=Qx x.op;split at h
  ·cases h
  rename_i a0;split at h
  ·rename_i k0;split at h
   ·rename_i k1;cases h;rw [k0] at hA;have hld:=ld_ok p ps e args l (i+1:Nat) x k0 k1 hg ha;rw [D6] at hld hm1;rw [Xd.e] at hld;rw [a9 k0];simp at hld hm1;simp [evlR,eC,h0,h2,h3,hA,hm1,hld,hO,aC];refine ⟨_,_,rfl,?_,hk1.setl (.inl (Qb _)),d6 hT1,by omega,hN1.setl (by simp)⟩;rw [aC,QA nid.1,hm1,D6];simp
   ·cases h
  rename_i k0;rw [QA k0];split at h
  ·cases h
  rename_i a i1 h1;obtain ⟨e1,f1⟩:=MZ p ps l e args n (i+1) a i1 h1;rw [e1];split at h
  ·rename_i k1;rw [a9 k1];split at h
   ·rename_i k2;cases h;rw [k1] at hA;obtain ⟨O2,N2,r2,m2,kp2,T2,l2,nr2⟩:=ih (i+1) a j h1 O1 (N+5+1) id (hT1.mono (by omega)) hN1 hm1;have hu:=un_ok x k1 _ a f1 k2;rw [Xd.e] at hu;have hO2:look N O2=some (.row 2 [[.int .u32 0,a7 0]]):=by rw [kp2 N (by omega) (by omega),hO]
    simp [evlR,eC,h0,h2,h3,hA,r2,hu,hO2,aC,nr2.eq,nr2.sw];refine ⟨_,_,rfl,?_,(hk1.trans kp2 (by omega)).setl (.inl (Qb _)),d6 T2,by omega,nr2.setl (by simp)⟩;rw [aC,QA nid.1,m2]
   ·cases h
  rename_i k1;rw [QA k1];split at h
  ·cases h
  rename_i b i2 h2';obtain ⟨e2,f2⟩:=MZ p ps l e args n i1 b i2 h2';rw [e2];split at h
  ·rename_i k2;rw [a9 k2];split at h
   ·rename_i k3;cases h;rw [k2] at hA;obtain ⟨O2,N2,r2,m2,kp2,T2,l2,nr2⟩:=ih (i+1) a i1 h1 O1 (N+5) id hT1 hN1 hm1;obtain ⟨O3,N3,r3,m3,kp3,T3,l3,nr3⟩:=ih i1 b j h2' O2 (N2+1) id (T2.mono (by omega)) nr2 m2;have hu:=Jt x k2 _ _ a b f1 f2 k3;have hO3:look N O3=some (.row 2 [[.int .u32 0,a7 0]]):=by rw [kp3 N (by omega) (by omega),kp2 N (by omega) (by omega),hO]
    have u2:=T2 N2 (Qb _);have u3:=T3 N3 (Qb _);simp [evlR,eC,h0,h2,h3,hA,r2,r3,hu,hO3,aC,u2,u3];refine ⟨_,_,rfl,?_,((hk1.trans kp2 (by omega)).trans kp3 (by omega)).setl (.inl (Qb _)),d6 (T3.mono (by omega)),by omega,nr3.setl (by simp)⟩;rw [aC,QA nid.1,m3]
   ·cases h
  rename_i k2;rw [QA k2];split at h
  ·cases h
  rename_i c i3 h3';obtain ⟨e3,f3⟩:=MZ p ps l e args n i2 c i3 h3';rw [e3];split at h
  rotate_left
  ·cases h
  rename_i k3;cases h;have o17:=qvy a0 k0 k1 k2;rw [o17] at hA;have hA3:ari 17=3:=by decide
  rw [hA3] at hA;rw [o17] at h3;obtain ⟨O2,N2,r2,m2,kp2,T2,l2,nr2⟩:=ih (i+1) a i1 h1 O1 (N+5) id hT1 hN1 hm1;obtain ⟨O3,N3,r3,m3,kp3,T3,l3,nr3⟩:=ih i1 b i2 h2' O2 (N2+1) id (T2.mono (by omega)) nr2 m2;obtain ⟨O4,N4,r4,m4,kp4,T4,l4,nr4⟩:=ih i2 c j h3' O3 (N3+1) id (T3.mono (by omega)) nr3 m3;have hO4:look N O4=some (.row 2 [[.int .u32 0,a7 0]]):=by rw [kp4 N (by omega) (by omega),kp3 N (by omega) (by omega),kp2 N (by omega) (by omega),hO]
  have u2:=T2 N2 (Qb _);have u3:=T3 N3 (Qb _);have u4:=T4 N4 (Qb _);have hcw:(comb x a b c).1=b/\b=c:=by
   unfold comb at*;rw [QA (by omega),QA (by omega),QA (by omega),a9 o17] at k3 ⊢;split
   ·rename_i q;rw [a9 q] at k3;cases k3
   ·exact ⟨rfl,by omega⟩
  rw [hcw.1];have fin:∀y:List AV,y=[.int .u32 (if (evx p ps l e args n (i+1)).1=1 then (evx p ps l e args n i1).1 else (evx p ps l e args n i2).1),a7 b]->EvP p ps e args l id N O (if (evx p ps l e args n (i+1)).1=1 then (evx p ps l e args n i1).1 else (evx p ps l e args n i2).1) b j
    (some (.val (.agg y),⟨setl N (.row 2 [y]) O4,N4+1⟩)):=fun y hy=>by
   rw [hy];refine ⟨_,_,rfl,?_,(((hk1.trans kp2 (by omega)).trans kp3 (by omega)).trans kp4 (by omega)).setl (.inl (Qb _)),d6 (T4.mono (by omega)),by omega,nr4.setl (by simp)⟩;rw [aC,QA nid.1,m4]
  by_cases z:(evx p ps l e args n (i+1)).1=1
  ·rw [z] at r2;have:=fin [.int .u32 (evx p ps l e args n i1).1,a7 b] (by rw [a9 z]);simp [evlR,eC,h0,h2,h3,hA,r2,r3,r4,hO4,aC,u2,u3,u4];exact this
  ·have:=fin [.int .u32 (evx p ps l e args n i2).1,a7 c] (by rw [QA z,hcw.2]);simp [evlR,eC,h0,h2,h3,hA,r2,r3,r4,hO4,aC,u2,u3,u4,z];rw [QA z] at this;exact this
end
theorem qzx (p:Prg) (ps:List Fld) (e:Envt) (args:List Int) (l:List Xd) (hg:∀h f,ok32 0 (eGet e h f)) (ha:∀v∈args,ok32 0 v):
  a8 Φ sQ [.slice 3 (l.map Xd.c),.agg (scC p ps),.agg e.c,.slice 1 (args.map c32)]=some (.val (.int .u32 (evl p ps l e args))):=by
 rw [aA rfl rfl];have hE:=WA p ps l;unfold evl;simp only [scC,Prg.e,n9,wE] at hE;by_cases z:(exE p ps l).2=0
 ·rw [z] at hE;rw [a9 z];obtain ⟨w,j,hl,hc⟩:∃w j,l.length<=24/\chk p ps l (l.length+1) 0= .ok (w,j):=by
   unfold exE at z;split at z
   ·cases z
   split at z
   ·rename_i x q;exact absurd z (SE p ps l _ _ _ q)
   ·rename_i w i q;exact ⟨w,i,by omega,q⟩
  obtain ⟨O',N',hr,_,_,_,_⟩:=ev_ok p ps e args l hg ha (by omega) (l.length+1) 0 w j hc [(0,.row 17 [mchC p ps e args l (0:Nat)])] 1 0 (Tail_cons_iff.2 ⟨by omega,Tail.nil _⟩) (.one (by simp)) (by simp);rw [D6] at hr;simp at hr;simp [yF,scC,Prg.e,Envt.ce,hE,hr]
 ·rw [QA z];have z':¬(exE p ps l).2=0:=z;simp [yF,scC,Prg.e,Envt.ce,hE,z']
structure RL (O:List (Nat×AO)) (B:Nat) (A:List AV) (L:List (List Int)):Prop where
 len:A.length=L.length
 row:∀(k:Nat) (x:AV) (l:List Int),A[k]? =some x->L[k]? =some l->(l=[]/\x= .Xt 1 [])\/∃id,x= .row id 1 0 l.length/\look id O=some (.row 1 (l.map c32))/\B<=id
 inj:∀(k k' id:Nat) (n n':Nat),A[k]? =some (.row id 1 0 n)->A[k']? =some (.row id 1 0 n')->k=k'
theorem RL.nil {O:List (Nat×AO)} {B:Nat}:RL O B [] []:=⟨rfl,by simp,by simp⟩
theorem RL.fr {O O':List (Nat×AO)} {B:Nat} {A:List AV} {L:List (List Int)} (h:RL O B A L) (hf:∀(j:Nat) (l:List Int),B<=j->look j O=some (.row 1 (l.map c32))->look j O'=some (.row 1 (l.map c32))):RL O' B A L:=by
 refine ⟨h.len,fun k x l hx hl=>?_,h.inj⟩;rcases h.row k x l hx hl with h | ⟨id,h1,h2,h3⟩
 ·exact .inl h
 ·exact .inr ⟨id,h1,hf id _ h3 h2,h3⟩
theorem RL.lt {O:List (Nat×AO)} {B n:Nat} (hT:Tail O n) {A:List AV} {L:List (List Int)} (h:RL O B A L) {k id m:Nat} (hx:A[k]? =some (.row id 1 0 m)):id<n:=by
 have hk:k<A.length:=(Qm.1 hx).1;have hk2:k<L.length:=by rw [<- h.len];exact hk
 rcases h.row k _ _ hx (Qa hk2) with ⟨_,h2⟩ | ⟨id',h1,h2,_⟩
 ·cases h2
 ·cases h1;exact hT.lt h2
theorem RL.snoc {O O':List (Nat×AO)} {B n:Nat} {A:List AV} {L:List (List Int)} (h:RL O B A L) (hT:Tail O n) (hf:∀(j:Nat) (l:List Int),B<=j->look j O=some (.row 1 (l.map c32))->look j O'=some (.row 1 (l.map c32))) {id:Nat} {l:List Int} (hid:n<=id) (hB:B<=id)
  (hl:look id O'=some (.row 1 (l.map c32))):RL O' B (A++[.row id 1 0 l.length]) (L++[l]):=by
 have h':=h.fr hf;refine ⟨by simp [h.len],fun k x y hx hy=>?_,fun k k' i m m' hx hx'=>?_⟩
 ·rw [List.getElem?_append] at hx hy;rw [h.len] at hx;split at hx
  ·rename_i q;rw [a9 q] at hy;exact h'.row k x y hx hy
  ·rename_i q;rw [QA q] at hy;cases hk:k - L.length with
   | zero=>simp [hk] at hx hy;subst hx hy;exact .inr ⟨id,rfl,hl,hB⟩
   | succ j=>simp [hk] at hx
 ·have key:∀j m,(A++[.row id 1 0 l.length])[j]? =some (.row i 1 0 m)->(j<A.length/\i<n)\/(j=A.length/\i=id):=fun j m hj=>by
   rw [List.getElem?_append] at hj;split at hj
   ·rename_i q;exact .inl ⟨q,h.lt hT hj⟩
   ·rename_i q;cases hk:j - A.length with
    | zero=>simp [hk] at hj;exact .inr ⟨by omega,hj.1.symm⟩
    | succ j=>simp [hk] at hj
  rcases key k m hx with ⟨a1,a2⟩ | ⟨a1,a2⟩<;>rcases key k' m' hx' with ⟨b1,b2⟩ | ⟨b1,b2⟩
  ·rw [Ql a1] at hx;rw [Ql b1] at hx';exact h.inj k k' i m m' hx hx'
  ·omega
  ·omega
  ·omega
theorem RL.snoc0 {O O':List (Nat×AO)} {B:Nat} {A:List AV} {L:List (List Int)} (h:RL O B A L) (hf:∀(j:Nat) (l:List Int),B<=j->look j O=some (.row 1 (l.map c32))->look j O'=some (.row 1 (l.map c32))):RL O' B (A++[.Xt 1 []]) (L++[[]]):=by
 have h':=h.fr hf;refine ⟨by simp [h.len],fun k x y hx hy=>?_,fun k k' i m m' hx hx'=>?_⟩
 ·rw [List.getElem?_append] at hx hy;rw [h.len] at hx;split at hx
  ·rename_i q;rw [a9 q] at hy;exact h'.row k x y hx hy
  ·rename_i q;rw [QA q] at hy;cases hk:k - L.length with
   | zero=>simp [hk] at hx hy;subst hx hy;exact .inl ⟨rfl,rfl⟩
   | succ j=>simp [hk] at hx
 ·have key:∀j m,(A++[.Xt 1 []])[j]? =some (.row i 1 0 m)->j<A.length:=fun j m hj=>by
   rw [List.getElem?_append] at hj;split at hj
   ·assumption
   ·rename_i q;cases hk:j - A.length with
    | zero=>simp [hk] at hj
    | succ j=>simp [hk] at hj
  have k1:=key k m hx;have k2:=key k' m' hx';rw [Ql k1] at hx;rw [Ql k2] at hx';exact h.inj k k' i m m' hx hx'
theorem RL.set {O:List (Nat×AO)} {B:Nat} {A:List AV} {L:List (List Int)} (h:RL O B A L) {k id m:Nat} (hx:A[k]? =some (.row id 1 0 m)) (l':List Int) (hl':l'.length=m):RL (setl id (.row 1 (l'.map c32)) O) B A (L.set k l'):=by
 have hk:k<A.length:=(Qm.1 hx).1;have hk2:k<L.length:=by rw [<- h.len];exact hk
 refine ⟨by simp [h.len],fun j x l hj hl=>?_,h.inj⟩;rcases h.row k _ _ hx (Qa hk2) with ⟨_,h2⟩ | ⟨id',h1,h2,h3⟩
 ·cases h2
 cases h1;rw [List.getElem?_set] at hl;split at hl
 ·rename_i q;subst q;cases hl;rw [hx] at hj;cases hj;exact .inr ⟨id,by rw [hl'],by rw [aC,a9 rfl,h2];rfl,h3⟩
 ·rename_i q;rcases h.row j x l hj hl with h | ⟨id2,g1,g2,g3⟩
  ·exact .inl h
  ·refine .inr ⟨id2,g1,?_,g3⟩;have:¬id2=id:=fun e=>q (by subst e;subst g1;exact (h.inj j k id2 _ _ hj hx).symm)
   rw [aC,QA this,g2]
theorem RL.snp {O:List (Nat×AO)} {B N:Nat} (n:Nat) {A:List AV} {L:List (List Int)} (h:RL O B A L):mapO (mapO (snap (n+2) ⟨O,N⟩)) (A.map fun x=>[x])=some (L.map (cS 1 c32)):=by
 have key:∀(A:List AV) (L:List (List Int)),A.length=L.length->(∀(k:Nat) (x:AV) (l:List Int),A[k]? =some x->L[k]? =some l->(l=[]/\x= .Xt 1 [])\/∃id,x= .row id 1 0 l.length/\look id O=some (.row 1 (l.map c32))/\B<=id)->
   mapO (mapO (snap (n+2) ⟨O,N⟩)) (A.map fun x=>[x])=some (L.map (cS 1 c32)):=by
  intro A
  induction A with
  | nil=>
   intro L hl _;cases L with
   | nil=>rfl
   | cons=>cases hl
  | cons x A ih=>
   intro L hl hr;cases L with
   | nil=>cases hl
   | cons l L=>
    have ih:=ih L (by simpa using hl) fun k y z hy hz=>hr (k+1) y z (by simpa using hy) (by simpa using hz)
    have h0:=hr 0 x l rfl rfl;have e:mapO (snap (n+2) ⟨O,N⟩) [x]=some (cS 1 c32 l):=by
     rcases h0 with ⟨rfl,rfl⟩ | ⟨id,rfl,h2,_⟩
     ·simp [mapO,cS]
     ·have:=r9 (g:=c32) (n:=n+1) (H:=⟨O,N⟩) (fun x=>by simp [c32]) l;have ht:(l.map c32).take l.length=l.map c32:=Qo (by simp);simp [mapO,cS,h2,this,ht]
    rw [nV,nV,mapO,e];simp only [ih]
 exact key A L h.len h.row
def DupP (N:Nat) (O:List (Nat×AO)) (L:List (List Int)) (r:Option (Rt×AH)):Prop:=
 ∃O' N' A,r=some (.val (.row N 1 0 L.length),⟨O',N'⟩)/\look N O'=some (.row 1 (A.map fun x=>[x]))/\RL O' (N+1) A L/\Kp (fun _=>False) N O O'/\Tail O' N'/\N<N'/\NR O'
theorem Ia {O:List (Nat×AO)} {N:Nat} (hT:Tail O N) (hN:NR O) (L:List (List Int)) (hL:L.length<2^40) (hl:∀l∈L,l.length<2^40):
  DupP N O L (aQ Φ uI [.slice 1 (L.map (cS 1 c32))] ⟨O,N⟩):=by
 rw [eI rfl rfl];have t0:=hT N (Qb _);have b1:(L.length:Int)<4611686018427387904:=by omega
 have b2:(L.length:Int)*24<=140737488355328:=by omega
 simp [JI,t0,b1,b2];refine gL L.length (fun i e h=>∃O' N' A,h=⟨O',N'⟩/\A.length=i/\look N O'=some (.row 1 ((A++List.replicate (L.length - i) (.Xt 1 [])).map fun x=>[x]))/\RL O' (N+1) A (L.take i)/\Kp (fun _=>False) N O O'/\Tail O' N'/\N<N'/\NR O'/\
  look 3 e=some (.row N 1 0 L.length)/\look 9 e=some (.slice 1 (L.map (cS 1 c32)))/\look 10 e=some (a7 L.length)/\look 11 e=some (a7 i)) (DupP N O L) ?_ ?_ 0 _ _ (Qc _) ?_
 ·rintro i e _ K hi hK ⟨O',N',A,rfl,hA,hl0,hr,hk,hT',hlt,hN',h3,h9,h10,h11⟩ ih;have hw:=aM i (by omega);have t0:=hT' N' (Qb _);have hll:=hl _ (Qd hi);generalize hx:L[i]=x at hll;have b1:(x.length:Int)<4611686018427387904:=by omega
  have b2:(x.length:Int)*4<=140737488355328:=by omega
  have n1:¬N=N'/\¬N'=N:=by omega
  have al:kX 1 (x.map c32)=true:=K1 1 c32 x fun x=>by simp
  have hd:L.length - i=(L.length - (i+1))+1:=by omega
  have hAi:i<A.length+(L.length - i):=by omega
  have hAl:A.length+(L.length - i)=L.length:=by omega
  rw [hd] at hl0;have hcs:(L.map (cS 1 c32))[i]? =some (cS 1 c32 x):=by rw [List.getElem?_map,Qa hi,hx];rfl
  simp [c_387_l0,h3,h9,h10,h11,hi,hx,cS,b1,b2,t0,n1,aH,aC,hl0,hA,al,hw];have hlo:∀j y,N+1<=j->look j O'=some y->look j (Go.Av.setl N' (.row 1 (x.map c32)) (Go.Av.setl N (.row 1 (List.map (fun x=>[x]) A++(List.replicate (L.length - (i+1)+1) [AV.Xt 1 []]).set 0 [AV.row N' 1 0 x.length])) (O'++[(N',.row 1 (List.replicate x.length [.int .u32 0]))])))=some y:=fun j y hj hy=>by
   have f:=eX hT' hy (Qb N');have:¬j=N:=by omega
   simp [aC,aH,f,this,hy]
  refine ih _ _ ⟨_,_,A++[.row N' 1 0 x.length],rfl,by simp [hA],?_,?_,?_,?_,by omega,?_,by simp [h3],by simp [h9],by simp [h10],by simp⟩
  ·simp [aC,aH,n1,hl0,U2]
  ·rw [Qh hi,hx];refine hr.snoc hT' (fun j l hj h=>hlo j _ hj h) (Qb _) (by omega) ?_;simp [aC,aH,t0,n1]
  ·refine Kp.setl (Kp.setl (Kp.app hk (by omega)) (.inl (Qb _))) (.inl (by omega))
  ·exact d6 (d6 (hT'.app1 (Qb _)))
  ·exact ((hN'.app (.one (by simp))).setl (by simp)).setl (by simp)
 ·rintro e _ K hK ⟨O',N',A,rfl,hA,hl0,hr,hk,hT',hlt,hN',h3,h9,h10,h11⟩;simp [c_387_l0,c_387_k1,h3,h10,h11,hK];refine ⟨O',N',A,rfl,?_,?_,hk,hT',hlt,hN'⟩
  ·simpa using hl0
  ·simpa using hr
 ·refine ⟨_,_,[],rfl,rfl,?_,by simpa using RL.nil,Kp.app Kp.refl (Qb _),hT.app1 (Qb _),by omega,hN.app (.one (by simp)),by simp,by simp,by simp,by simp⟩;simp [aH,t0]
theorem YE {O:List (Nat×AO)} {N:Nat} (hT:Tail O N) (hN:NR O) (L:List (List Int)) (hL:L.length<2^40) (hl:∀l∈L,l.length<2^40):
  DupP N O L (aQ Φ tL [.slice 1 (L.map (cS 1 c32))] ⟨O,N⟩):=by
 rw [eI rfl rfl];have t0:=hT N (Qb _);have b1:(L.length:Int)<4611686018427387904:=by omega
 have b2:(L.length:Int)*24<=140737488355328:=by omega
 simp [IF,t0,b1,b2];refine gL L.length (fun i e h=>∃O' N' A,h=⟨O',N'⟩/\A.length=i/\look N O'=some (.row 1 ((A++List.replicate (L.length - i) (.Xt 1 [])).map fun x=>[x]))/\RL O' (N+1) A (L.take i)/\Kp (fun _=>False) N O O'/\Tail O' N'/\N<N'/\NR O'/\
  look 3 e=some (.row N 1 0 L.length)/\look 9 e=some (.slice 1 (L.map (cS 1 c32)))/\look 10 e=some (a7 L.length)/\look 11 e=some (a7 i)) (DupP N O L) ?_ ?_ 0 _ _ (Qc _) ?_
 ·rintro i e _ K hi hK ⟨O',N',A,rfl,hA,hl0,hr,hk,hT',hlt,hN',h3,h9,h10,h11⟩ ih;have hw:=aM i (by omega);have t0:=hT' N' (Qb _);have hll:=hl _ (Qd hi);generalize hx:L[i]=x at hll;have b1:(x.length:Int)<4611686018427387904:=by omega
  have b2:(x.length:Int)*4<=140737488355328:=by omega
  have n1:¬N=N'/\¬N'=N:=by omega
  have al:kX 1 (x.map c32)=true:=K1 1 c32 x fun x=>by simp
  have hd:L.length - i=(L.length - (i+1))+1:=by omega
  have hAi:i<A.length+(L.length - i):=by omega
  have hAl:A.length+(L.length - i)=L.length:=by omega
  rw [hd] at hl0;have hcs:(L.map (cS 1 c32))[i]? =some (cS 1 c32 x):=by rw [List.getElem?_map,Qa hi,hx];rfl
  simp [c_287_l0,h3,h9,h10,h11,hi,hx,cS,b1,b2,t0,n1,aH,aC,hl0,hA,al,hw];have hlo:∀j y,N+1<=j->look j O'=some y->look j (Go.Av.setl N' (.row 1 (x.map c32)) (Go.Av.setl N (.row 1 (List.map (fun x=>[x]) A++(List.replicate (L.length - (i+1)+1) [AV.Xt 1 []]).set 0 [AV.row N' 1 0 x.length])) (O'++[(N',.row 1 (List.replicate x.length [.int .u32 0]))])))=some y:=fun j y hj hy=>by
   have f:=eX hT' hy (Qb N');have:¬j=N:=by omega
   simp [aC,aH,f,this,hy]
  refine ih _ _ ⟨_,_,A++[.row N' 1 0 x.length],rfl,by simp [hA],?_,?_,?_,?_,by omega,?_,by simp [h3],by simp [h9],by simp [h10],by simp⟩
  ·simp [aC,aH,n1,hl0,U2]
  ·rw [Qh hi,hx];refine hr.snoc hT' (fun j l hj h=>hlo j _ hj h) (Qb _) (by omega) ?_;simp [aC,aH,t0,n1]
  ·refine Kp.setl (Kp.setl (Kp.app hk (by omega)) (.inl (Qb _))) (.inl (by omega))
  ·exact d6 (d6 (hT'.app1 (Qb _)))
  ·exact ((hN'.app (.one (by simp))).setl (by simp)).setl (by simp)
 ·rintro e _ K hK ⟨O',N',A,rfl,hA,hl0,hr,hk,hT',hlt,hN',h3,h9,h10,h11⟩;simp [c_287_l0,c_287_k1,h3,h10,h11,hK];refine ⟨O',N',A,rfl,?_,?_,hk,hT',hlt,hN'⟩
  ·simpa using hl0
  ·simpa using hr
 ·refine ⟨_,_,[],rfl,rfl,?_,by simpa using RL.nil,Kp.app Kp.refl (Qb _),hT.app1 (Qb _),by omega,hN.app (.one (by simp)),by simp,by simp,by simp,by simp⟩;simp [aH,t0]
theorem Du (L:List (List Int)) (hL:L.length<2^40) (hl:∀l∈L,l.length<2^40):a8 Φ tL [.slice 1 (L.map (cS 1 c32))]=some (.val (.slice 1 (L.map (cS 1 c32)))):=by
 obtain ⟨O',N',A,hr,hl0,hA,_⟩:=YE (O:=[]) (N:=0) (Tail.nil 0) KL L hL hl;have hn:=hA.len;have hs:=hA.snp (N:=N') 37;unfold a8;rw [show H0=⟨[],0⟩ from rfl,hr];have ht:(A.map fun x=>[x]).take L.length=A.map fun x=>[x]:=Qo (by simp [hn])
 simp at hs;simp [rA,hl0,hn,ht,hs]
def hasR (p:Prg) (rs:List (List Int)) (r i:Int):Bool:=match at? p.Xl r,at? rs r with
 | some g,some l=>decide (i<g.size)&&decide (i<l.length)
 | _,_=>false
theorem RB (p:Prg) (rs:List (List Int)) (r i:Int) (hi:ok32 0 i):a8 Φ uH [.agg (Prg.c p++[.slice 1 (rs.map (cS 1 c32))]),a7 r,.int .u32 i]=some (.val (.bool (hasR p rs r i))):=by
 rw [aA rfl rfl];have hw:IntKind.wrap .i64 i=i:=cN (by have:=hi.1;omega) (by have:=hi.2;omega);unfold hasR;by_cases h0:r<0
 ·simp [lZ,Prg.e,h0,eP h0]
 by_cases h1:(p.Xl.length:Int)<=r
 ·simp [lZ,Prg.e,h0,h1,eZ h1]
 by_cases h2:(rs.length:Int)<=r
 ·obtain ⟨m,rfl⟩:=nU (show 0<=r by omega);have hm:m<p.Xl.length:=by omega
  have hm2:¬p.Xl.length<=m:=by omega
  have hm3:rs.length<=m:=by omega
  simp [lZ,Prg.e,hm,hm2,hm3]
 obtain ⟨m,rfl⟩:=nU (show 0<=r by omega);have hm:m<p.Xl.length:=by omega
 have hm2:¬p.Xl.length<=m:=by omega
 have hm3:m<rs.length:=by omega
 have hm4:¬rs.length<=m:=by omega
 by_cases z:i<p.Xl[m].size
 ·simp [lZ,Prg.e,Xg.e,hm,hm2,hm3,hm4,hw,z,cS]
 ·simp [lZ,Prg.e,Xg.e,hm,hm2,hm3,hm4,hw,z,cS]
theorem Zt {p:Prg} {rs:List (List Int)} {r i:Int} (hi:0<=i) (h:hasR p rs r i=true):∃(m k:Nat) (h1:m<p.Xl.length) (h2:m<rs.length) (h3:k<rs[m].length),r=m/\i=k/\i<p.Xl[m].size:=by
 unfold hasR at h;split at h
 ·rename_i g l hg hl;simp only [dJ,decide_eq_true_eq] at h;obtain ⟨m,rfl,hm,rfl⟩:=kO hg;obtain ⟨m',e,hm',rfl⟩:=kO hl;have:m=m':=by omega
  subst this;exact ⟨m,i.toNat,hm,hm',by omega,rfl,by omega,h.1⟩
 ·cases h
theorem Bz (p:Prg) (rs:List (List Int)) (r i:Int) (hi:ok32 0 i):a8 Φ BO [.agg (Prg.c p),.slice 1 (rs.map (cS 1 c32)),a7 r,.int .u32 i]=some (.val (.int .u32 (rGet p rs r i))):=by
 rw [aA rfl rfl];have hh:=RB p rs r i hi;simp only [Prg.e,n9,wE] at hh;cases q:hasR p rs r i with
 | false=>
  have:rGet p rs r i=0:=by
   unfold rGet hasR at*;split
   ·rename_i g l hg hl;rw [hg,hl] at q;simp only [Bool.and_eq_false_iff,decide_eq_false_iff_not] at q;split
    ·rw [eZ (by omega)];rfl
    ·rfl
   ·rfl
  rw [q] at hh;simp [yZ,Prg.e,hh,this]
 | true=>
  obtain ⟨m,k,h1,h2,h3,rfl,rfl,h4⟩:=Zt hi.1 q;rw [q] at hh;have:rGet p rs m k=rs[m][k]:=by simp [rGet,h1,h2,h3,h4]
  simp [yZ,Prg.e,hh,this,h2,h3,cS,c32]
theorem YQ (p:Prg) (rs:List (List Int)) (hL:rs.length<2^40) (hl:∀l∈rs,l.length<2^40) (r i v:Int) (hi:ok32 0 i) (hv:ok32 0 v):a8 Φ u9 [.agg (Prg.c p),.slice 1 (rs.map (cS 1 c32)),a7 r,.int .u32 i,.int .u32 v]=some (.val (.slice 1 ((rSet p rs r i v).map (cS 1 c32)))):=by
 rw [aA rfl rfl];have hh:=RB p rs r i hi;simp only [Prg.e,n9,wE] at hh;obtain ⟨O',N',A,hr,hl0,hA,_,hT,hlt,_⟩:=Ia (O:=[]) (N:=0) (Tail.nil 0) KL rs hL hl;have hn:=hA.len;have ht:(A.map fun x=>[x]).take rs.length=A.map fun x=>[x]:=Qo (by simp [hn])
 cases q:hasR p rs r i with
 | false=>
  have e:rSet p rs r i v=rs:=by
   unfold rSet hasR at*;split
   ·rename_i g l hg hl;rw [hg,hl] at q;simp only [Bool.and_eq_false_iff,decide_eq_false_iff_not] at q;split
    ·rename_i z;obtain ⟨m,rfl,hm,rfl⟩:=kO hl;have:rs[m].length<=i.toNat:=by omega
     rw [List.set_eq_of_length_le this];simp
    ·rfl
   ·rfl
  rw [q] at hh;have hs:=hA.snp (N:=N') 37;simp at hs;rw [e];simp [sD,Prg.e,hr,hh,hl0,hn,ht,hs]
 | true=>
  obtain ⟨m,k,h1,h2,h3,rfl,rfl,h4⟩:=Zt hi.1 q;rw [q] at hh;have hmA:m<A.length:=by omega
  rcases hA.row m _ _ (Qa hmA) (Qa h2) with ⟨z,_⟩ | ⟨id,hx,hlk,hB⟩
  ·rw [z] at h3;simp at h3
  have hxA:A[m]? =some (.row id 1 0 rs[m].length):=by rw [Qa hmA,hx]
  have hid:¬id=0/\¬0=id:=by omega
  have hmk:=j6 p.Xl[m].Yc;cases z:wBad p.Xl[m].Yc with
  | true=>
   have e:rSet p rs m k v=rs:=by simp [rSet,h1,h2,z]
   have hm0:cD p.Xl[m].Yc=0:=by simp [cD,z]
   have hs:=hA.snp (N:=N') 37;simp at hs;rw [hm0] at hmk;rw [e];simp [sD,Prg.e,Xg.e,hr,hh,h1,hmk,hl0,hn,ht,hs]
  | false=>
   have e:rSet p rs m k v=rs.set m (rs[m].set k (v % 2^p.Xl[m].Yc.toNat)):=by simp [rSet,h1,h2,z,h4]
   have hw:=KR z;have hp:=Ub (show p.Xl[m].Yc.toNat<=32 by omega);have hm0:0<cD p.Xl[m].Yc:=by
    rw [VW hw.1 hw.2];have:(2:Int)^1<=2^p.Xl[m].Yc.toNat:=by
     rw [<- qS,<- qS];exact Int.ofNat_le.2 (DV (by decide) (by omega))
    omega
   have hi2:=qO hv hw.1 hw.2;have hs':=(hA.set hxA (rs[m].set k (v % 2^p.Xl[m].Yc.toNat)) (by simp)).snp (N:=N') 37;have hst:(rs[m].map c32).set k [AV.int .u32 (v % 2^p.Xl[m].Yc.toNat)]=(rs[m].set k (v % 2^p.Xl[m].Yc.toNat)).map c32:=by rw [DY];simp [c32]
   simp only [Nat.reduceAdd] at hs';have hAm:A[m]? =some (.row id 1 0 rs[m].length):=hxA;rw [e];simp [sD,Prg.e,Xg.e,hr,hh,h1,hmk,hm0,hl0,hn,hx,h2,h3,hlk,aC,hid,hi2];rw [show (c32 rs[m][k]).tail=[] from rfl,hst,ht,hs'];simp
end Go.Av
