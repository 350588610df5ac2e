/-
 program.Clone copies a program.
-/
import Derived.Test.YtjdbnnnakpacjaaGreatE1K
set_option linter.unusedVariables false
set_option linter.unusedSimpArgs false
set_option linter.constructorNameAsVariable false
namespace Go.Av
set_option maxRecDepth 4000
theorem qrt (p:Prg) (op:p.Ok qaz):qad Φ f_53 [.agg (Prg.c p)]=some (.val (.agg (Prg.c p))):=by
 have f:=qfh op;obtain ⟨_,o1,o2,o3,o4,o5,o6,o7,o8⟩:=op;have e:=qd6;have k1:=qsg p.Xp (by have:=o1.1;omega) fun x hx=>qxw x (f.hl x hx)
 have k2:=qtc p.Xo f.m;have k3:=qai9 p.Xm f.r;have k4:=qsf p.actions (by have:=o4.1;omega) fun x hx=>qxu x (f.ap x hx) (by
  have h:=o4.2 x hx;simp only [Action.Ok] at h;have:=h.2.2.1;omega) fun s hs=>⟨f.ai x hx s hs,f.av x hx s hs⟩
 have k5:=qts p.Xn (by have:=o5.1;omega) fun x hx=>qz3 x (f.tk x hx) (f.ta x hx) (f.tg x hx)
 have k6:=ql2 p.states (by have:=o6.1;omega) fun x hx=>qz2 x (f.se x hx) (f.sc x hx)
 have k7:=qfc p.control (by have:=o7.1;omega) fun x hx=>qn0 _ x (Qb _) (o7.2 x hx)
 have k8:=qtd p.Xs f.d;rw [qaa (fn:=c_53) rfl rfl];simp [c_53,Prg.e,k1,k2,k3,k4,k5,k6,k7,k8]
def RegV (T:List (Nat×AO)) (x:AV) (r:Xh):Prop:=(x= .Xu 1 []/\regN r=0)\/∃id,1<=id/\x= .row id 1 0 (regN r)/\look id T=some (.row 1 (List.replicate (regN r) [.int .u32 0]))
inductive RegL (T:List (Nat×AO)):List AV->List Xh->Prop
 | nil:RegL T [] []
 | snoc {A rs x r} (h:RegL T A rs) (hx:RegV T x r):RegL T (A++[x]) (rs++[r])
theorem RegV.app {T:List (Nat×AO)} {x:AV} {r:Xh} (h:RegV T x r) (U:List (Nat×AO)):RegV (T++U) x r:=by
 rcases h with h | ⟨id,h1,h2,h3⟩
 ·exact .inl h
 ·exact .inr ⟨id,h1,h2,by rw [qa2,h3];simp⟩
theorem RegL.app {T:List (Nat×AO)} {A:List AV} {rs:List Xh} (h:RegL T A rs) (U:List (Nat×AO)):RegL (T++U) A rs:=by
 induction h with
 | nil=>exact .nil
 | snoc h hx ih=>exact .snoc ih (hx.app U)
theorem RegL.len {T:List (Nat×AO)} {A:List AV} {rs:List Xh} (h:RegL T A rs):A.length=rs.length:=by
 induction h with
 | nil=>rfl
 | snoc h hx ih=>simp [ih]
theorem qub (H:AH) (k:Nat):∀m,mapO (mapO (snap 38 H)) (List.replicate m [AV.int .u32 k])=some (List.replicate m [AV.int .u32 k])
 | 0=>by simp [mapO]
 | m+1=>by
  have ih:=qub H k m;simp only [QCl,mapO,ih];simp
theorem qrp {α β:Type} (f:α->Option β):∀(l:List α) (x:α) (l':List β) (y:β),mapO f l=some l'->f x=some y->mapO f (l++[x])=some (l'++[y])
 | [],x,l',y,h,hy=>by
  simp [mapO] at h;subst h;simp [mapO,hy]
 | a::l,x,l',y,h,hy=>by
  simp only [mapO] at h;cases hb:f a with
  | none=>rw [hb] at h;cases h
  | some b=>
   rw [hb] at h;cases hm:mapO f l with
   | none=>rw [hm] at h;cases h
   | some m=>
    rw [hm] at h;cases h;have ih:=qrp f l x m y hm hy;simp only [QAh,mapO,hb,ih]
theorem RegL.snp {T:List (Nat×AO)} {A:List AV} {rs:List Xh} (h:RegL T A rs) (o:AO) (n:Nat):
  mapO (mapO (snap 39 ⟨(0,o)::T,n⟩)) (A.map fun x=>[x])=some (rs.map fun r=>[AV.slice 1 (List.replicate (regN r) [.int .u32 0])]):=by
 induction h with
 | nil=>simp [mapO]
 | snoc h hx ih=>
  rw [QBb,QBb];refine qrp _ _ _ _ _ ih ?_;rcases hx with ⟨rfl,h0⟩ | ⟨id,h1,rfl,h3⟩
  ·simp [mapO,h0]
  ·have hi:¬(0=id):=by omega
   have hr:=qub ⟨(0,o)::T,n⟩ 0;simp at hr;simp [mapO,look,hi,h3,hr]
theorem qabe {T:List (Nat×AO)} {n:Nat} (h:∀m,n<=m->look m T=none) (o:AO):∀m,n+1+1<=m->look m (T++[(n+1,o)])=none:=by
 intro m hm;have:¬(n+1=m):=by omega
 rw [qa2,h m (by omega)];simp [look,this]
theorem qakb (p:Prg) (f:PrgS p):qad Φ f_84 [.agg (Prg.c p)]=some (.val (.slice 1 ((newR p).map (cS 1 c32)))):=by
 rw [qaa (fn:=c_84) rfl rfl];have hr:=f.r;have e0:(newR p).map (cS 1 c32)=p.Xm.map fun r=>[AV.slice 1 (List.replicate (regN r) [AV.int .u32 0])]:=by
  simp [newR,cSe,c32]
 rw [e0];have b0:(p.Xm.length:Int)*24<=140737488355328:=by omega
 have b3:p.Xm.length<4611686018427387904:=by omega
 simp [c_84,Prg.e,b0,b3];refine qdt p.Xm.length (fun i e h=>∃(A:List AV) (T:List (Nat×AO)) (n:Nat),h=⟨(0,.row 1 (A.map (fun x=>[x])++List.replicate (p.Xm.length - i) [AV.Xu 1 []]))::T,n⟩/\1<=n/\(∀m,n<=m->look m T=none)/\RegL T A (p.Xm.take i)/\
   look 3 e=some (.row 0 1 0 p.Xm.length)/\look 11 e=some (.slice 3 (p.Xm.map Xh.c))/\look 12 e=some (.int .i64 p.Xm.length)/\look 13 e=some (.int .i64 i))
  (fun _=>some (Rt.val (.slice 1 (p.Xm.map fun r=>[AV.slice 1 (List.replicate (regN r) [AV.int .u32 0])])))) ?_ ?_ 0 _ _ (Qc _) ?_
 ·rintro i e _ L hi hL ⟨A,T,n,rfl,hn,hT,hR,h3,h11,h12,h13⟩ ih;have hw:=qal i (by omega);have hA:A.length=i:=by rw [hR.len];simp;omega
  have hs:=qu6 p.Xm[i];have hN:p.Xm.length - i=(p.Xm.length - (i+1))+1:=by omega
  rw [hN,QCl];have hn0:¬(0=n):=by omega
  have hn1:¬(n=0):=by omega
  have hTn:=hT n (Qb _);have hTn1:=hT (n+1) (by omega);have hsn:∀{U:List (Nat×AO)} {x:AV},RegL U A (p.Xm.take i)->RegV U x p.Xm[i]->RegL U (A++[x]) (p.Xm.take (i+1)):=by
   intro U x h1 h2;rw [Qh hi];exact .snoc h1 h2
  simp only [Xh.e] at hs;by_cases z:p.Xm[i].size<1\/64<p.Xm[i].size
  ·have hz:regN p.Xm[i]=0:=by simp [regN,z]
   rw [show (!(decide (p.Xm[i].size<1) || decide (64<p.Xm[i].size)))=false by rcases z with z | z<;>simp [z]] at hs;simp [c_84_l0,Xh.e,h11,h12,h13,hi,hs,hw,hn0,hTn];exact ih _ _ ⟨A++[.Xu 1 []],T,_,by simp;rfl,by omega,fun m hm=>hT m (by omega),hsn hR (.inl ⟨rfl,hz⟩),by simp [h3],by simp [h11],by simp [h12],by simp⟩
  ·obtain ⟨k,hk⟩:∃k:Nat,p.Xm[i].size=k:=⟨p.Xm[i].size.toNat,by omega⟩;have hz:regN p.Xm[i]=k:=by simp [regN,z];omega
   rw [show (!(decide (p.Xm[i].size<1) || decide (64<p.Xm[i].size)))=true by simp;omega] at hs;have b1:(k:Int)*4<=140737488355328:=by omega
   have b2:k<4611686018427387904:=by omega
   rw [hk] at hs;simp [c_84_l0,Xh.e,h3,h11,h12,h13,hi,hs,hk,hw,hn0,hn1,hTn,hTn1,b1,b2,hA];refine ih _ _ ⟨A++[.row (n+1) 1 0 k],T++[(n+1,.row 1 (List.replicate k [.int .u32 0]))],n+1+1,by simp,by omega,qabe hT _,hsn (hR.app _) (.inr ⟨n+1,by omega,by rw [hz],by rw [qa2,hTn1,hz];simp⟩),by simp [h3],by simp [h11],by simp [h12],by simp⟩
 ·rintro e _ L hL ⟨A,T,n,rfl,hn,hT,hR,h3,h11,h12,h13⟩;have hS:=hR.snp (.row 1 (A.map (fun x=>[x])++List.replicate (p.Xm.length - p.Xm.length) [AV.Xu 1 []])) n;have hA:A.length=p.Xm.length:=by rw [hR.len];simp
  simp at hS;have hTk:(A.map fun x=>[x]).take p.Xm.length=A.map fun x=>[x]:=by
   rw [Qo];simp [hA]
  simp [c_84_l0,c_84_k1,h3,h12,h13,hL,hA,hTk,hS]
 ·exact ⟨[],[],1,by simp,by omega,fun _ _=>rfl,by simpa using RegL.nil,by simp,by simp,by simp,by simp⟩
structure TabV (p:Prg) (k:Nat) (tb:Tbl) (l:List Rw) (nx:Int) (d:Xb):Prop where
 size:(l.length:Int)<=tb.size
 pos:∀r∈l,0<r.id
 lt:∀r∈l,r.id<nx
 inc:l.Pairwise (fun a b=>a.id<b.id)
 nx0:0<nx
 nx1:nx<=1073741824
 ent:∀r∈l,entE p k r.entry=0
 uniq:l.Pairwise (fun a b=>sk a.entry b.entry=false)
 dflt:qbp p k d=0
theorem qum (nx:Int):∀(l:List Rw) (a:Int),(∃b,ordL l a=some b/\b<nx)↔a<nx/\(∀r∈l,a<r.id/\r.id<nx)/\l.Pairwise (fun a b=>a.id<b.id)
 | [],a=>by simp [ordL]
 | r::l,a=>by
  have ih:=qum nx l r.id;simp only [ordL];by_cases h:r.id<=a
  ·rw [QAa h];constructor
   ·rintro ⟨b,hb,_⟩;cases hb
   ·rintro ⟨_,h2,_⟩;have:=(h2 r (by simp)).1;omega
  ·rw [QA h,ih,QCp];constructor
   ·rintro ⟨h1,h2,h3⟩;refine ⟨by omega,?_,fun x hx=>(h2 x hx).1,h3⟩;intro x hx;rcases QAe.1 hx with rfl | hx
    ·exact ⟨by omega,h1⟩
    ·have:=h2 x hx;exact ⟨by omega,this.2⟩
   ·rintro ⟨h1,h2,h3,h4⟩;exact ⟨(h2 r (by simp)).2,fun x hx=>⟨h3 x hx,(h2 x (by simp [hx])).2⟩,h4⟩
theorem qabv (p:Prg) (t:Int) (l:List Rw):(∀i,i<l.length->rowG p t l i=none)↔(∀r∈l,entE p t r.entry=0)/\l.Pairwise (fun a b=>sk a.entry b.entry=false):=by
 have key:∀i (hi:i<l.length),rowG p t l i=none↔entE p t l[i].entry=0/\∀j (hj:j<i),sk l[j].entry l[i].entry=false:=by
  intro i hi;simp only [rowG,Qa hi,QAs];by_cases h:entE p t l[i].entry=0
  ·rw [QA (by simpa using h)];have:((l.take i).any fun y=>sk y.entry l[i].entry)=true↔¬∀j (hj:j<i),sk l[j].entry l[i].entry=false:=by
    rw [QCh];constructor
    ·rintro ⟨y,hy,hs⟩ hc;obtain ⟨j,hj,rfl⟩:=Qn.1 hy;simp at hj;have:=hc j (by omega);simp only [List.getElem_take] at hs;rw [this] at hs;cases hs
    ·intro hc;simp only [Classical.not_forall] at hc;obtain ⟨j,hj,hs⟩:=hc;refine ⟨l[j],?_,by simpa using hs⟩;rw [List.mem_take_iff_getElem];exact ⟨j,by omega,rfl⟩
   by_cases hu:∀j (hj:j<i),sk l[j].entry l[i].entry=false
   ·rw [QA (by rw [this];exact fun hc=>hc hu)];simp [h];exact hu
   ·rw [QAa (this.2 hu)];simp [h];simpa using hu
  ·rw [QAa h];simp [h]
 constructor
 ·intro h;refine ⟨?_,?_⟩
  ·intro r hr;obtain ⟨i,hi,rfl⟩:=Qn.1 hr;exact ((key i hi).1 (h i hi)).1
  ·rw [QB];intro i j hi hj hij;exact ((key j hj).1 (h j hj)).2 i hij
 ·rintro ⟨h1,h2⟩ i hi;rw [key i hi];refine ⟨h1 _ (Qd hi),?_⟩;intro j hj;exact QB.1 h2 j i (by omega) hi hj
theorem qah0 (p:Prg) (t:Int) (l:List Rw) {i:Nat} {x:Int} (h:rowG p t l i=some x):x≠0:=by
 simp only [rowG,Qt] at h;obtain ⟨r,_,hr⟩:=h;split at hr
 ·cases hr;assumption
 ·split at hr
  ·cases hr;decide
  ·cases hr
theorem qr0 (p:Prg) (k:Nat) (tb:Tbl) (l:List Rw) (nx:Int) (d:Xb):rowE p k tb l nx (qbp p k d)=0↔TabV p k tb l nx d:=by
 have hI:=qum nx l 0;have hG:=qabv p k l;rw [<- fe_all] at hG;unfold rowE;by_cases h:tb.size<(l.length:Int)
 ·rw [QAa h];constructor
  ·intro hc;cases hc
  ·intro hv;have:=hv.size;omega
 rw [QA h];cases ho:ordL l 0 with
 | none=>
  rw [ho] at hI;simp only [tabK];constructor
  ·intro hc;cases hc
  ·intro hv;obtain ⟨b,hb,_⟩:=hI.2 ⟨hv.nx0,fun r hr=>⟨hv.pos r hr,hv.lt r hr⟩,hv.inc⟩;cases hb
 | some a=>
  rw [ho] at hI;simp only [tabK];by_cases h1:nx<=a
  ·rw [QAa h1];constructor
   ·intro hc;cases hc
   ·intro hv;obtain ⟨b,hb,h2⟩:=hI.2 ⟨hv.nx0,fun r hr=>⟨hv.pos r hr,hv.lt r hr⟩,hv.inc⟩;cases hb;omega
  rw [QA h1];have hJ:=hI.1 ⟨a,rfl,by omega⟩;by_cases h2:1073741824<nx
  ·rw [QAa h2];constructor
   ·intro hc;cases hc
   ·intro hv;have:=hv.nx1;omega
  rw [QA h2];cases hf:fe (rowG p k l) l.length 0 with
  | some x=>
   have hx:x≠0:=by
    obtain ⟨i,_,hx⟩:=qii hf;exact qah0 p k l hx
   rw [hf] at hG;simp only [QAx];constructor
   ·intro hc;exact absurd hc hx
   ·intro hv;have:=hG.2 ⟨hv.ent,hv.uniq⟩;cases this
  | none=>
   have hq:=hG.1 hf;simp only [QCg];constructor
   ·intro hc;exact ⟨by omega,fun r hr=>(hJ.2.1 r hr).1,fun r hr=>(hJ.2.1 r hr).2,hJ.2.2,hJ.1,by omega,hq.1,hq.2,hc⟩
   ·intro hv;exact hv.dflt
structure CfgV (p:Prg) (c:Xf):Prop where
 prg:(prgD p).1=0
 rl:c.rows.length=p.Xn.length
 nl:c.Xr.length=p.Xn.length
 dl:c.Xq.length=p.Xn.length
 tab:∀k tb l nx d,p.Xn[k]? =some tb->c.rows[k]? =some l->c.Xr[k]? =some nx->c.Xq[k]? =some d->TabV p k tb l nx d
 con:conE p c.Xm=0
theorem qalm (p:Prg) (c:Xf) {k:Nat} {x:Int} (h:stG p c k=some x):x≠0:=by
 unfold stG at h;split at h
 ·split at h
  ·cases h
  ·cases h;assumption
 ·cases h
theorem qf7 (p:Prg) (c:Xf):cfgE p c=0↔CfgV p c:=by
 unfold cfgE;by_cases h:(prgD p).1=0
 rotate_left
 ·rw [QAa h];exact ⟨fun hc=>absurd hc h,fun hv=>absurd hv.prg h⟩
 rw [QA (by simpa using h)];by_cases hl:c.rows.length≠p.Xn.length\/c.Xr.length≠p.Xn.length\/c.Xq.length≠p.Xn.length
 ·rw [QAa hl];constructor
  ·intro hc;cases hc
  ·intro hv;have:=hv.rl;have:=hv.nl;have:=hv.dl;omega
 rw [QA hl];have l1:c.rows.length=p.Xn.length:=by omega
 have l2:c.Xr.length=p.Xn.length:=by omega
 have l3:c.Xq.length=p.Xn.length:=by omega
 cases hf:fe (stG p c) p.Xn.length 0 with
 | some x=>
  obtain ⟨k,hk,hx⟩:=qii hf;simp only [QAx];constructor
  ·intro hc;exact absurd hc (qalm p c hx)
  ·intro hv;have hq:stG p c k=none:=by
    unfold stG;split
    ·rename_i tb l nx d e1 e2 e3 e4;rw [QAa ((qr0 p k tb l nx d).2 (hv.tab k tb l nx d e1 e2 e3 e4))]
    ·rfl
   rw [hq] at hx;cases hx
 | none=>
  simp only [QCg];have ha:=fe_all.1 hf;constructor
  ·intro hc;refine ⟨h,l1,l2,l3,?_,hc⟩;intro k tb l nx d e1 e2 e3 e4;have hk:=(Qm.1 e1).1;have hq:=ha k hk;simp only [stG,e1,e2,e3,e4] at hq;split at hq
   ·rename_i hz;exact (qr0 p k tb l nx d).1 hz
   ·cases hq
  ·intro hv;exact hv.con
def qcm (c:Xf) (t:Int):List Rw:=(at? c.rows t).getD []
def qe0 (c:Xf) (t:Int):Int:=(at? c.Xr t).getD 0
def qpt (p:Prg) (t:Int):Int:=((at? p.Xn t).map Tbl.size).getD 0
def inT (p:Prg) (t:Int):Bool:=decide (0<=t)&&decide (t<p.Xn.length)
def rIdx (l:List Rw) (id:Int):Option Nat:=l.findIdx? fun r=>decide (r.id=id)
def insE (p:Prg) (c:Xf) (t:Int) (x:Entry):Int:=
 if inT p t=false then 8 else if entE p t x≠0 then entE p t x else if (qcm c t).any (fun y=>sk y.entry x)=true then 7
 else if qpt p t<=(qcm c t).length\/1073741824<=qe0 c t then 13 else 0
def insC (c:Xf) (t:Int) (x:Entry):Xf:=⟨c.rows.set t.toNat (qcm c t++[⟨qe0 c t,x⟩]),c.Xr.set t.toNat (qe0 c t+1),c.Xq,c.Xm⟩
def modE (p:Prg) (c:Xf) (t id:Int) (x:Xb):Int:=
 if inT p t=false then 8 else if rIdx (qcm c t) id=none then 8 else qbp p t x
def qdj (x:Xb) (r:Rw):Rw:=⟨r.id,⟨r.entry.keys,r.entry.Xt,x⟩⟩
def modC (c:Xf) (t id:Int) (x:Xb):Xf:=match rIdx (qcm c t) id with
 | some i=>⟨c.rows.set t.toNat ((qcm c t).modify i (qdj x)),c.Xr,c.Xq,c.Xm⟩
 | none=>c
def delE (p:Prg) (c:Xf) (t id:Int):Int:=
 if inT p t=false then 8 else if rIdx (qcm c t) id=none then 8 else 0
def delC (c:Xf) (t id:Int):Xf:=match rIdx (qcm c t) id with
 | some i=>⟨c.rows.set t.toNat ((qcm c t).eraseIdx i),c.Xr,c.Xq,c.Xm⟩
 | none=>c
def defE (p:Prg) (t:Int) (x:Xb):Int:=if inT p t=false then 8 else qbp p t x
def defC (c:Xf) (t:Int) (x:Xb):Xf:=⟨c.rows,c.Xr,c.Xq.set t.toNat x,c.Xm⟩
theorem qep {p:Prg} {t:Int} (h:inT p t=true):∃k:Nat,t=k/\k<p.Xn.length:=by
 unfold inT at h;simp at h;exact ⟨t.toNat,by omega,by omega⟩
section
variable {p:Prg} {c:Xf} {k:Nat}
theorem qdy (h:k<c.rows.length):qcm c (k:Int)=c.rows[k]:=by
 unfold qcm;rw [qfo,Qa h];rfl
theorem qk8 (h:k<c.Xr.length):qe0 c (k:Int)=c.Xr[k]:=by
 unfold qe0;rw [qfo,Qa h];rfl
theorem qpu (h:k<p.Xn.length):qpt p (k:Int)=p.Xn[k].size:=by
 unfold qpt;rw [qfo,Qa h];rfl
theorem CfgV.at (v:CfgV p c) (h:k<p.Xn.length):TabV p k p.Xn[k] (c.rows[k]'(by rw [v.rl];exact h)) (c.Xr[k]'(by rw [v.nl];exact h)) (c.Xq[k]'(by rw [v.dl];exact h)):=
 v.tab k _ _ _ _ (Qa h) (Qa (by rw [v.rl];exact h)) (Qa (by rw [v.nl];exact h)) (Qa (by rw [v.dl];exact h))
theorem CfgV.upd (v:CfgV p c) (h:k<p.Xn.length) {l:List Rw} {nx:Int} {d:Xb} {R:List (List Rw)} {N:List Int} {D:List Xb}
  (hR:R=c.rows.set k l) (hN:N=c.Xr.set k nx) (hD:D=c.Xq.set k d) (t:TabV p k p.Xn[k] l nx d):CfgV p ⟨R,N,D,c.Xm⟩:=by
 subst hR hN hD;refine ⟨v.prg,by simp [v.rl],by simp [v.nl],by simp [v.dl],?_,v.con⟩;intro j tb l' nx' d' h1 h2 h3 h4;have hl1:=v.rl;have hl2:=v.nl;have hl3:=v.dl;by_cases hj:k=j
 ·subst hj;rw [List.getElem?_set_self (by omega)] at h2 h3 h4;rw [Qa h] at h1;cases h1;cases h2;cases h3;cases h4;exact t
 ·simp only [List.getElem?_set_ne hj] at h2 h3 h4;exact v.tab j _ _ _ _ h1 h2 h3 h4
end
theorem qagd {p:Prg} {c:Xf} {t:Int} {x:Entry} (v:CfgV p c) (h:insE p c t x=0):CfgV p (insC c t x):=by
 unfold insE at h;cases hi:inT p t with
 | false=>rw [QAa hi] at h;cases h
 | true=>
 obtain ⟨k,rfl,hk⟩:=qep hi;rw [QA (by rw [hi];decide)] at h;have l1:k<c.rows.length:=by rw [v.rl];exact hk
 have l2:k<c.Xr.length:=by rw [v.nl];exact hk
 have l3:k<c.Xq.length:=by rw [v.dl];exact hk
 have hv:=v.at hk;rw [qdy l1,qk8 l2,qpu hk] at h;split at h
 ·rename_i h1;exact absurd h h1
 rename_i h1;split at h
 ·cases h
 rename_i h2;split at h
 ·cases h
 rename_i h3;unfold insC;rw [qdy l1,qk8 l2];refine v.upd hk (l:=c.rows[k]++[⟨c.Xr[k],x⟩]) (nx:=c.Xr[k]+1) (d:=c.Xq[k]) (by simp) (by simp) (by simp) ?_;have n0:=hv.nx0;refine ⟨by simp;omega,?_,?_,?_,by omega,by omega,?_,?_,hv.dflt⟩
 ·intro r hr;rcases QAf.1 hr with hr | hr
  ·exact hv.pos r hr
  ·simp at hr;subst hr;exact n0
 ·intro r hr;rcases QAf.1 hr with hr | hr
  ·have:=hv.lt r hr;omega
  ·simp at hr;subst hr;simp;omega
 ·rw [QCk];exact ⟨hv.inc,by simp,fun a ha b hb=>by simp at hb;subst hb;exact hv.lt a ha⟩
 ·intro r hr;rcases QAf.1 hr with hr | hr
  ·exact hv.ent r hr
  ·simp at hr;subst hr;simpa using h1
 ·rw [QCk];refine ⟨hv.uniq,by simp,fun a ha b hb=>?_⟩;simp at hb;subst hb;simp only [QCh,not_exists,not_and,Bool.not_eq_true] at h2;exact h2 a ha
theorem qaak (p:Prg) (t:Int) (x:Entry) (y:Xb) (h:entE p t x=0) (hc:qbp p t y=0):entE p t ⟨x.keys,x.Xt,y⟩=0:=by
 unfold entE at h ⊢;split at h
 ·exact absurd h (by assumption)
 rename_i h1;rw [QA h1];cases ht:at? p.Xn t with
 | none=>rfl
 | some tb=>
  rw [ht] at h;simp only at h ⊢;split at h
  ·cases h
  rename_i h2;rw [QA h2];have he:entG p tb ⟨x.keys,x.Xt,y⟩=entG p tb x:=rfl;rw [he];cases hf:fe (entG p tb x) tb.keys.length 0 with
  | some e=>rw [hf] at h;simpa using h
  | none=>
   rw [hf] at h;simp only [QCg] at h ⊢;unfold entF at h ⊢;unfold qbp at hc;simp only;split at h
   ·cases h
   rename_i a1;rw [QA a1];split at h
   ·cases h
   rename_i a2;rw [QA a2];split at h
   ·cases h
   rename_i a3;rw [QA a3];exact hc
theorem qjk {l:List Rw} {id:Int} {i:Nat} (h:rIdx l id=some i):∃hi:i<l.length,l[i].id=id:=by
 unfold rIdx at h;rw [List.findIdx?_eq_some_iff_getElem] at h;obtain ⟨hi,h1,_⟩:=h;exact ⟨hi,by simpa using h1⟩
theorem qagq {p:Prg} {c:Xf} {t id:Int} {x:Xb} (v:CfgV p c) (h:modE p c t id x=0):CfgV p (modC c t id x):=by
 unfold modE at h;cases hi:inT p t with
 | false=>rw [QAa hi] at h;cases h
 | true=>
 obtain ⟨k,rfl,hk⟩:=qep hi;rw [QA (by rw [hi];decide)] at h;have l1:k<c.rows.length:=by rw [v.rl];exact hk
 have l2:k<c.Xr.length:=by rw [v.nl];exact hk
 have l3:k<c.Xq.length:=by rw [v.dl];exact hk
 have hv:=v.at hk;unfold modC;rw [qdy l1] at h ⊢;cases hx:rIdx c.rows[k] id with
 | none=>simp only;exact v
 | some i=>
  rw [hx,QA (by simp)] at h;simp only;obtain ⟨hil,hid⟩:=qjk hx;have hm:c.rows[k].modify i (qdj x)=c.rows[k].set i (qdj x c.rows[k][i]):=by
   refine List.ext_getElem (by simp) fun j h1 h2=>?_
   rw [QBy,List.getElem_set];split
   ·rename_i e;subst e;rfl
   ·rfl
  refine v.upd hk (l:=c.rows[k].modify i (qdj x)) (nx:=c.Xr[k]) (d:=c.Xq[k]) (by simp) (by simp) (by simp) ?_;have mem:∀r∈c.rows[k].modify i (qdj x),∃r'∈c.rows[k],r.id=r'.id/\entE p k r.entry=0:=by
   intro r hr;rw [hm] at hr;rcases Qq hr with hr | rfl
   ·exact ⟨r,hr,rfl,hv.ent r hr⟩
   ·exact ⟨_,Qd hil,rfl,qaak p k _ x (hv.ent _ (Qd hil)) h⟩
  have get:∀j (hj:j<(c.rows[k].modify i (qdj x)).length),(c.rows[k].modify i (qdj x))[j].id=(c.rows[k][j]'(by simpa using hj)).id/\(c.rows[k].modify i (qdj x))[j].entry.keys=(c.rows[k][j]'(by simpa using hj)).entry.keys/\(c.rows[k].modify i (qdj x))[j].entry.Xt=(c.rows[k][j]'(by simpa using hj)).entry.Xt:=by
   intro j hj;rw [QBy];split<;>simp [qdj]
  refine ⟨by simpa using hv.size,?_,?_,?_,hv.nx0,hv.nx1,?_,?_,hv.dflt⟩
  ·intro r hr;obtain ⟨r',hr',e,_⟩:=mem r hr;rw [e];exact hv.pos r' hr'
  ·intro r hr;obtain ⟨r',hr',e,_⟩:=mem r hr;rw [e];exact hv.lt r' hr'
  ·rw [QB];intro a b ha hb hab;rw [(get a ha).1,(get b hb).1];exact QB.1 hv.inc a b _ _ hab
  ·intro r hr;obtain ⟨_,_,_,e⟩:=mem r hr;exact e
  ·rw [QB];intro a b ha hb hab;have:=QB.1 hv.uniq a b (by simpa using ha) (by simpa using hb) hab;unfold sk at this ⊢;rw [(get a ha).2.1,(get a ha).2.2,(get b hb).2.1,(get b hb).2.2];exact this
theorem qafp {p:Prg} {c:Xf} {t id:Int} (v:CfgV p c) (h:delE p c t id=0):CfgV p (delC c t id):=by
 unfold delE at h;cases hi:inT p t with
 | false=>rw [QAa hi] at h;cases h
 | true=>
 obtain ⟨k,rfl,hk⟩:=qep hi;have l1:k<c.rows.length:=by rw [v.rl];exact hk
 have l2:k<c.Xr.length:=by rw [v.nl];exact hk
 have l3:k<c.Xq.length:=by rw [v.dl];exact hk
 have hv:=v.at hk;unfold delC;rw [qdy l1];cases hx:rIdx c.rows[k] id with
 | none=>simp only;exact v
 | some i=>
  simp only;refine v.upd hk (l:=c.rows[k].eraseIdx i) (nx:=c.Xr[k]) (d:=c.Xq[k]) (by simp) (by simp) (by simp) ?_;have hs:=List.eraseIdx_sublist c.rows[k] i;have hsz:=hv.size;have hle:=hs.length_le;exact ⟨by omega,fun r hr=>hv.pos r (hs.subset hr),fun r hr=>hv.lt r (hs.subset hr),hv.inc.sublist hs,hv.nx0,hv.nx1,fun r hr=>hv.ent r (hs.subset hr),hv.uniq.sublist hs,hv.dflt⟩
theorem qafo {p:Prg} {c:Xf} {t:Int} {x:Xb} (v:CfgV p c) (h:defE p t x=0):CfgV p (defC c t x):=by
 unfold defE at h;cases hi:inT p t with
 | false=>rw [QAa hi] at h;cases h
 | true=>
 obtain ⟨k,rfl,hk⟩:=qep hi;rw [QA (by rw [hi];decide)] at h;have l1:k<c.rows.length:=by rw [v.rl];exact hk
 have l2:k<c.Xr.length:=by rw [v.nl];exact hk
 have l3:k<c.Xq.length:=by rw [v.dl];exact hk
 have hv:=v.at hk;unfold defC;exact v.upd hk (l:=c.rows[k]) (nx:=c.Xr[k]) (d:=x) (by simp) (by simp) (by simp) ⟨hv.size,hv.pos,hv.lt,hv.inc,hv.nx0,hv.nx1,hv.ent,hv.uniq,h⟩
theorem qag (t:Nat) (a b:List (Nat×AO)):look t (a++b)=(look t a).or (look t b):=qa2 t a b
theorem qab (j t:Nat) (y:AO):∀O:List (Nat×AO),look j (setl t y O)=if j=t then (look t O).map (fun _=>y) else look j O
 | []=>by simp
 | (u,w)::r=>by
  have ih:=qab j t y r;by_cases hu:u=t
  ·subst hu;by_cases hj:j=u
   ·subst hj;simp
   ·have:¬u=j:=fun h=>hj h.symm
    simp [hj,this]
  ·by_cases hj:j=t
   ·subst hj;simp [hu];simpa using ih
   ·by_cases hv:u=j
    ·subst hv;simp [hu]
    ·simp [hu,hv,hj];simpa [hj] using ih
theorem qb5 {j t:Nat} (h:j≠t):∀O:List (Nat×AO),look j (qbg t O)=look j O
 | []=>by simp
 | (u,w)::r=>by
  have ih:=qb5 h r;by_cases hu:u=t
  ·subst hu;have:¬u=j:=fun e=>h e.symm
   simp [this]
  ·by_cases hv:u=j
   ·subst hv;simp [hu]
   ·simp [hu,hv,ih]
theorem qcy {j t:Nat}:∀O:List (Nat×AO),look j O=none->look j (qbg t O)=none
 | [],_=>by simp
 | (u,w)::r,h=>by
  by_cases hv:u=j
  ·subst hv;simp at h
  ·simp [hv] at h;have ih:=qcy (t:=t) r h;by_cases hu:u=t
   ·subst hu;simpa using h
   ·simp [hu,hv,ih]
theorem qaw {j:Nat}:∀{O:List (Nat×AO)},look j O≠some .res->look j (qao O)=look j O
 | [],_=>by simp
 | (u,w)::r,h=>by
  by_cases hv:u=j
  ·subst hv;simp at h;cases w<;>simp at h ⊢
  ·simp [hv] at h;have ih:=qaw h;cases w<;>simp [hv,ih]
section
variable (z t i o n:Nat) (es:List (List AV))
@[simp] theorem qape:lenOf (.slice z es)=some es.length:=rfl
@[simp] theorem qapc:lenOf (.Xu z es)=some es.length:=rfl
@[simp] theorem qapb:lenOf (.app z es t)=some es.length:=rfl
@[simp] theorem qapd:lenOf (.row t z o n)=some n:=rfl
@[simp] theorem qanp (cs:List AV):AV.cells (.agg cs)=some cs:=rfl
@[simp] theorem qanq (k:IntKind) (x:Int):AV.cells (.int k x)=some [.int k x]:=rfl
@[simp] theorem qamm (b:Bool):AV.cells (.bool b)=some [.bool b]:=rfl
@[simp] theorem qant (b:List UInt8):AV.cells (.str b)=some [.str b]:=rfl
@[simp] theorem qai6:AV.cells .nilptr=some [.nilptr]:=rfl
@[simp] theorem qai5:AV.cells .nilmap=some [.nilmap]:=rfl
@[simp] theorem qaow:AV.cells (.slice z es)=some [.slice z es]:=rfl
@[simp] theorem qaou:AV.cells (.Xu z es)=some [.Xu z es]:=rfl
@[simp] theorem qaot:AV.cells (.app z es t)=some [.app z es t]:=rfl
@[simp] theorem qaov:AV.cells (.row t z o n)=some [.row t z o n]:=rfl
@[simp] theorem qans:AV.cells (.ptr t z o n)=some [.ptr t z o n]:=rfl
@[simp] theorem qamo:AV.cells (.iptr z es o n)=some [.iptr z es o n]:=rfl
@[simp] theorem qanr:AV.cells (.map t)=some [.map t]:=rfl
@[simp] theorem qamn (f:Fn) (a b:List AV):AV.cells (.func f a b)=some [.func f a b]:=rfl
end
theorem Tail_append_iff {a b:List (Nat×AO)} {n:Nat}:Tail (a++b) n↔Tail a n/\Tail b n:=by
 constructor
 ·intro h;refine ⟨fun j hj=>?_,fun j hj=>?_⟩
  ·have:=h j hj;rw [qag] at this;cases hl:look j a with
   | none=>rfl
   | some x=>rw [hl] at this;cases this
  ·have:=h j hj;rw [qag] at this;cases hl:look j a with
   | none=>rw [hl] at this;simpa using this
   | some x=>rw [hl] at this;cases this
 ·rintro ⟨h1,h2⟩ j hj;rw [qag,h1 j hj,h2 j hj];rfl
theorem qa1 {u n:Nat} {x:AO} {r:List (Nat×AO)}:Tail ((u,x)::r) n↔u<n/\Tail r n:=by
 constructor
 ·intro h;have hu:u<n:=by
   refine Decidable.byContradiction fun hc=>?_
   have:=h u (by omega);simp at this
  refine ⟨hu,fun j hj=>?_⟩;have:=h j hj;have hne:¬u=j:=by omega
  simpa [hne] using this
 ·rintro ⟨h1,h2⟩ j hj;have hne:¬u=j:=by omega
  simp [hne,h2 j hj]
theorem qcg {n:Nat}:Tail [] n↔True:=⟨fun _=>trivial,fun _=>Tail.nil n⟩
theorem qai {t n:Nat} {y:AO} {O:List (Nat×AO)} (h:Tail O n):Tail (setl t y O) n:=by
 intro j hj;rw [qab];split
 ·rename_i e;rw [<- e,h j hj];rfl
 ·exact h j hj
theorem qdz {t n:Nat} {O:List (Nat×AO)} (h:Tail O n):Tail (qbg t O) n:=fun j hj=>qcy _ (h j hj)
theorem qdn {n:Nat} {O:List (Nat×AO)} (h:Tail O n):Tail (qao O) n:=by
 intro j hj;rw [qaw (by rw [h j hj];simp),h j hj]
theorem Tail.lt {O:List (Nat×AO)} {n j:Nat} {x:AO} (h:Tail O n) (hl:look j O=some x):j<n:=by
 refine Decidable.byContradiction fun hc=>?_
 rw [h j (by omega)] at hl;cases hl
def Kp (X:Nat->Prop) (N:Nat) (O O':List (Nat×AO)):Prop:=∀j,j<N->¬X j->look j O'=look j O
theorem Kp.refl {X:Nat->Prop} {N:Nat} {O:List (Nat×AO)}:Kp X N O O:=fun _ _ _=>rfl
theorem Kp.trans {X:Nat->Prop} {N N':Nat} {O O' O'':List (Nat×AO)} (h:Kp X N O O') (h2:Kp X N' O' O'') (hn:N<=N'):Kp X N O O'':=
 fun j hj hx=>(h2 j (by omega) hx).trans (h j hj hx)
theorem Kp.mono {X Y:Nat->Prop} {N:Nat} {O O':List (Nat×AO)} (h:Kp X N O O') (hx:∀j,j<N->X j->Y j):Kp Y N O O':=
 fun j hj hy=>h j hj fun hc=>hy (hx j hj hc)
section
variable {Φ:FuncId->Option AFun} {β:Type} {fin:Option (Ex×St)->Option β}
theorem loopQ {σ:Type} (m:σ->Nat) (Inv:σ->Env->AH->Prop) (R:σ->Option β->Prop) {b:Xv} {K:List Go.Av.Fr}
  (step:∀x e h L,(∀j s,go Φ fin L (.exit j) s=go Φ fin K (.exit j) s)->Inv x e h->(∀y e' h',m y<m x->Inv y e' h'->R y (go Φ fin L .normal ⟨e',h'⟩))->R x (go Φ fin (.c b::L) .normal ⟨e,h⟩)):
  ∀x e h,Inv x e h->R x (go Φ fin (.c (.loop b)::K) .normal ⟨e,h⟩):=by
 have key:∀n x e h,m x<=n->Inv x e h->R x (go Φ fin (.c (.loop b)::K) .normal ⟨e,h⟩):=by
  intro n
  induction n with
  | zero=>
   intro x e h hn hi;rw [qar];exact step x e h _ (fun j s=>by simp) hi fun y e' h' hlt=>by omega
  | succ n ih=>
   intro x e h hn hi;rw [qar];exact step x e h _ (fun j s=>by simp) hi fun y e' h' hlt hy=>ih y e' h' (by omega) hy
 intro x e h hi;exact key (m x) x e h (Qb _) hi
theorem qhv (N:Nat) (Inv:Nat->Env->AH->Prop) (Q:Option β->Prop) {b:Xv} {K:List Go.Av.Fr}
  (step:∀i e h L,i<N->(∀j s,go Φ fin L (.exit j) s=go Φ fin K (.exit j) s)->Inv i e h->(∀e' h',Inv (i+1) e' h'->Q (go Φ fin L .normal ⟨e',h'⟩))->Q (go Φ fin (.c b::L) .normal ⟨e,h⟩))
  (last:∀e h L,(∀j s,go Φ fin L (.exit j) s=go Φ fin K (.exit j) s)->Inv N e h->Q (go Φ fin (.c b::L) .normal ⟨e,h⟩)):
  ∀i e h,i<=N->Inv i e h->Q (go Φ fin (.c (.loop b)::K) .normal ⟨e,h⟩):=by
 intro i e h hi hinv;refine loopQ (σ:={ i:Nat // i<=N }) (fun x=>N - x.1) (fun x=>Inv x.1) (fun _=>Q) ?_ ⟨i,hi⟩ e h hinv;intro ⟨i,hi⟩ e h L hL hinv ih;rcases Nat.lt_or_eq_of_le hi with hlt | heq
 ·exact step i e h L hlt hL hinv fun e' h' hi'=>ih ⟨i+1,hlt⟩ e' h' (by simp;omega) hi'
 ·subst heq;exact last e h L hL hinv
end
def vid:AV->Option Nat
 | .row id _ _ _=>some id
 | _=>none
inductive Mu (O:List (Nat×AO)) (z:Nat):AV->List (List AV)->Prop
 | nilF:Mu O z (.Xu z []) []
 | nilA (t:Nat):Mu O z (.app z [] t) []
 | row (id:Nat) (es es0:List (List AV)) (n:Nat) (hn:n=es.length) (hl:look id O=some (.row z es0)) (hle:es.length<=es0.length) (ht:es0.take es.length=es):Mu O z (.row id z 0 n) es
theorem Mu.len {O:List (Nat×AO)} {z:Nat} {v:AV} {es:List (List AV)} (h:Mu O z v es):lenOf v=some es.length:=by
 cases h with
 | nilF=>rfl
 | nilA=>rfl
 | row id _ es0 n hn=>subst hn;rfl
theorem Mu.fr {O O':List (Nat×AO)} {z:Nat} {v:AV} {es:List (List AV)} (h:Mu O z v es) (hf:∀j,vid v=some j->look j O'=look j O):Mu O' z v es:=by
 cases h with
 | nilF=>exact .nilF
 | nilA=>exact .nilA _
 | row id _ es0 n hn hl hle ht=>exact .row id es es0 n hn (by rw [hf id rfl,hl]) hle ht
theorem Mu.nonempty {O:List (Nat×AO)} {z:Nat} {v:AV} {es:List (List AV)} (h:Mu O z v es) (hp:0<es.length):∃id es0,v= .row id z 0 es.length/\look id O=some (.row z es0)/\es.length<=es0.length/\es0.take es.length=es:=by
 cases h with
 | nilF=>simp at hp
 | nilA=>simp at hp
 | row id _ es0 n hn hl hle ht=>subst hn;exact ⟨id,es0,rfl,hl,hle,ht⟩
theorem Mu.snp {O:List (Nat×AO)} {z N n:Nat} {v:AV} {es:List (List AV)} (h:Mu O z v es):snap (n+1) ⟨O,N⟩ v=(mapO (mapO (snap n ⟨O,N⟩)) es).map (.slice z):=by
 cases h with
 | nilF=>simp
 | nilA=>simp
 | row id _ es0 k hn hl hle ht=>
  subst hn;simp [hl,hle,ht]
inductive Re (O:List (Nat×AO)) (z:Nat):AV->List (List AV)->Prop
 | sl (es:List (List AV)):Re O z (.slice z es) es
 | fs (es:List (List AV)):Re O z (.Xu z es) es
 | ap (es:List (List AV)) (t:Nat):Re O z (.app z es t) es
 | row (id:Nat) (es es0:List (List AV)) (n:Nat) (hn:n=es.length) (hl:look id O=some (.row z es0)) (hle:es.length<=es0.length) (ht:es0.take es.length=es):Re O z (.row id z 0 n) es
theorem Mu.re {O:List (Nat×AO)} {z:Nat} {v:AV} {es:List (List AV)} (h:Mu O z v es):Re O z v es:=by
 cases h with
 | nilF=>exact .fs []
 | nilA=>exact .ap [] _
 | row id _ es0 n hn hl hle ht=>exact .row id es es0 n hn hl hle ht
theorem Re.fr {O O':List (Nat×AO)} {z:Nat} {v:AV} {es:List (List AV)} (h:Re O z v es) (hf:∀j,vid v=some j->look j O'=look j O):Re O' z v es:=by
 cases h with
 | sl=>exact .sl es
 | fs=>exact .fs es
 | ap=>exact .ap es _
 | row id _ es0 n hn hl hle ht=>exact .row id es es0 n hn (by rw [hf id rfl,hl]) hle ht
theorem Re.len {O:List (Nat×AO)} {z:Nat} {v:AV} {es:List (List AV)} (h:Re O z v es):lenOf v=some es.length:=by
 cases h with
 | sl=>rfl
 | fs=>rfl
 | ap=>rfl
 | row id _ es0 n hn=>subst hn;rfl
theorem Re.snp {O:List (Nat×AO)} {z N n:Nat} {v:AV} {es:List (List AV)} (h:Re O z v es) (he:mapO (mapO (snap n ⟨O,N⟩)) es=some es):snap (n+1) ⟨O,N⟩ v=some (.slice z es):=by
 cases h with
 | sl=>simp
 | fs=>simp
 | ap=>simp
 | row id _ es0 k hn hl hle ht=>
  subst hn;simp [hl,hle,ht,he]
theorem Re.cells {O:List (Nat×AO)} {z:Nat} {v:AV} {es:List (List AV)} (h:Re O z v es):v.cells=some [v]:=by
 cases h<;>rfl
theorem Mu.cells {O:List (Nat×AO)} {z:Nat} {v:AV} {es:List (List AV)} (h:Mu O z v es):v.cells=some [v]:=h.re.cells
theorem qw1 {α:Type} {f:α->Option α}:∀{l:List α},(∀x∈l,f x=some x)->mapO f l=some l
 | [],_=>rfl
 | a::l,h=>by
  have h1:=h a (by simp);have h2:=qw1 (f:=f) (l:=l) fun x hx=>h x (by simp [hx])
  simp only [mapO,h1,h2]
theorem qfl {α:Type} {g:α->List AV} {n:Nat} {H:AH} (h:∀x,mapO (snap n H) (g x)=some (g x)) (l:List α):mapO (mapO (snap n H)) (l.map g)=some (l.map g):=by
 refine qw1 fun x hx=>?_
 obtain ⟨y,_,rfl⟩:=QAv.1 hx;exact h y
theorem qab1 {n:Nat} {H:AH} (r:Rw):mapO (snap (n+1) H) (Rw.c r)=some (Rw.c r):=by simp [Rw.c]
theorem qali {n:Nat} {H:AH} (x:Int):mapO (snap (n+1) H) (cI x)=some (cI x):=by simp [cI]
theorem qaeh {n:Nat} {H:AH} (x:Xb):mapO (snap (n+1) H) (Xb.c x)=some (Xb.c x):=by simp [Xb.c]
structure CfgM (O:List (Nat×AO)) (v1 v2 v3 v4:AV) (V:List AV) (c:Xf):Prop where
 r:Mu O 1 v1 (V.map fun v=>[v])
 rl:V.length=c.rows.length
 rv:∀(k:Nat) (v:AV) (l:List Rw),V[k]? =some v->c.rows[k]? =some l->Mu O 5 v (l.map Rw.c)
 n:Mu O 1 v2 (c.Xr.map cI)
 d:Mu O 2 v3 (c.Xq.map Xb.c)
 g:v4= .Xu 1 (c.Xm.map (cS 1 c32))\/∃t,v4= .app 1 (c.Xm.map (cS 1 c32)) t
 rn:∀i,vid v1=some i->vid v2=some i->False
 vi:∀(k k':Nat) (v v':AV) (i:Nat),V[k]? =some v->V[k']? =some v'->vid v=some i->vid v'=some i->k=k'
 va:∀v∈V,∀z es t,v≠ .app z es t
def CfgM.own (v1 v2 v3:AV) (V:List AV) (j:Nat):Prop:=vid v1=some j\/vid v2=some j\/vid v3=some j\/∃v∈V,vid v=some j
theorem CfgM.fr {O O':List (Nat×AO)} {v1 v2 v3 v4:AV} {V:List AV} {c:Xf} (h:CfgM O v1 v2 v3 v4 V c) (hf:∀j,CfgM.own v1 v2 v3 V j->look j O'=look j O):CfgM O' v1 v2 v3 v4 V c:=by
 refine ⟨h.r.fr fun j hj=>hf j (.inl hj),h.rl,?_,h.n.fr fun j hj=>hf j (.inr (.inl hj)),h.d.fr fun j hj=>hf j (.inr (.inr (.inl hj))),h.g,h.rn,h.vi,h.va⟩;intro k v l hv hl;exact (h.rv k v l hv hl).fr fun j hj=>hf j (.inr (.inr (.inr ⟨v,Qe hv,hj⟩)))
theorem qro {α β:Type} {f:α->Option β}:∀{l:List α} {m:List β},l.length=m.length->(∀(k:Nat) (x:α) (y:β),l[k]? =some x->m[k]? =some y->f x=some y)->mapO f l=some m
 | [],[],_,_=>rfl
 | [],_::_,h,_=>by simp at h
 | _::_,[],h,_=>by simp at h
 | a::l,b::m,h,hf=>by
  have h1:=hf 0 a b (by simp) (by simp);have h2:=qro (f:=f) (l:=l) (m:=m) (by simpa using h) fun k x y hx hy=>hf (k+1) x y (by simpa using hx) (by simpa using hy)
  simp only [mapO,h1,h2]
theorem CfgM.snpR {O:List (Nat×AO)} {v1 v2 v3 v4:AV} {V:List AV} {c:Xf} {n N:Nat} (h:CfgM O v1 v2 v3 v4 V c):snap (n+4) ⟨O,N⟩ v1=some (.slice 1 (c.rows.map (cS 5 Rw.c))):=by
 have e1:mapO (mapO (snap (n+3) ⟨O,N⟩)) (V.map fun v=>[v])=some (c.rows.map (cS 5 Rw.c)):=by
  refine qro (by simp [h.rl]) ?_;intro k x y hx hy;rw [List.getElem?_map] at hx hy;cases hv:V[k]? with
  | none=>rw [hv] at hx;cases hx
  | some v=>
   cases hl:c.rows[k]? with
   | none=>rw [hl] at hy;cases hy
   | some l=>
    rw [hv] at hx;rw [hl] at hy;cases hx;cases hy;have:=(h.rv k v l hv hl).snp (N:=N) (n:=n+2);simp only [mapO,this,qfl (n:=n+2) (H:=⟨O,N⟩) (fun x=>qab1 x) l,QBg,cS]
 have k1:=h.r.snp (N:=N) (n:=n+3);rw [e1] at k1;exact k1
theorem CfgM.snpN {O:List (Nat×AO)} {v1 v2 v3 v4:AV} {V:List AV} {c:Xf} {n N:Nat} (h:CfgM O v1 v2 v3 v4 V c):snap (n+4) ⟨O,N⟩ v2=some (.slice 1 (c.Xr.map cI)):=by
 have k2:=h.n.snp (N:=N) (n:=n+3);rw [qfl (n:=n+3) (H:=⟨O,N⟩) (fun x=>qali x)] at k2;exact k2
theorem CfgM.snpD {O:List (Nat×AO)} {v1 v2 v3 v4:AV} {V:List AV} {c:Xf} {n N:Nat} (h:CfgM O v1 v2 v3 v4 V c):snap (n+4) ⟨O,N⟩ v3=some (.slice 2 (c.Xq.map Xb.c)):=by
 have k3:=h.d.snp (N:=N) (n:=n+3);rw [qfl (n:=n+3) (H:=⟨O,N⟩) (fun x=>qaeh x)] at k3;exact k3
theorem CfgM.snpG {O:List (Nat×AO)} {v1 v2 v3 v4:AV} {V:List AV} {c:Xf} {n N:Nat} (h:CfgM O v1 v2 v3 v4 V c):snap (n+4) ⟨O,N⟩ v4=some (.slice 1 (c.Xm.map (cS 1 c32))):=by
 rcases h.g with hg | ⟨t,hg⟩<;>subst hg<;>simp
@[simp] theorem qaix (b x:Bool) (H:AH):qeh b H (some (.val (.bool x)))=some (.val (.bool x),H):=by cases b<;>simp
@[simp] theorem qakr (b:Bool) (k:IntKind) (x:Int) (H:AH):qeh b H (some (.val (.int k x)))=some (.val (.int k x),H):=by cases b<;>simp
theorem qaa1 {O O':List (Nat×AO)} {N N' k:Nat} {X:Nat->Prop} (hK:Kp X N O O') (hT:Tail O' N') (hN:N<=N') (o:AO):Kp X N O (O'++[(N'+k,o)])/\Tail (O'++[(N'+k,o)]) (N'+k+1)/\look (N'+k) (O'++[(N'+k,o)])=some o:=by
 refine ⟨?_,?_,?_⟩
 ·intro j hj hx;have:¬N'+k=j:=by omega
  rw [qag,hK j hj hx];simp [this]
 ·rw [Tail_append_iff,qa1];exact ⟨hT.mono (by omega),by omega,Tail.nil _⟩
 ·rw [qag,hT _ (by omega)];simp
theorem hp_mv {O O':List (Nat×AO)} {N N' k id:Nat} {X:Nat->Prop} (hK:Kp X N O O') (hT:Tail O' N') (hN:N<=N') (hid:N<=id) (o:AO):Kp X N O (qbg id O'++[(N'+k,o)])/\Tail (qbg id O'++[(N'+k,o)]) (N'+k+1)/\look (N'+k) (qbg id O'++[(N'+k,o)])=some o:=by
 have h1:Kp X N O (qbg id O'):=by
  intro j hj hx;rw [qb5 (by omega),hK j hj hx]
 exact qaa1 h1 (qdz hT) hN o
theorem qaay {l:List Rw} {i:Nat} {es0:List (List AV)} (hi:i<l.length) (ht:es0.take (l.map Rw.c).length=l.map Rw.c):es0[i]? =some (Rw.c l[i]):=by
 have h:(es0.take (l.map Rw.c).length)[i]? =(l.map Rw.c)[i]? :=by rw [ht]
 rw [List.getElem?_take_of_lt (by simpa using hi)] at h;rw [h];simp [hi]
section
variable {β:Type} {fin:Option (Ex×St)->Option β}
theorem qwo (l:List Rw) (hs:∀r∈l,rowS r) (hl:l.length<2^39) (v:AV) (K:List Fr) (Q:Option β->Prop) (e:Env) (O:List (Nat×AO)) (N:Nat) (hT:Tail O N) (hv:Re O 5 v (l.map Rw.c))
  (h6:look 6 e=some (.Xu 5 [])) (h24:look 24 e=some v) (h25:look 25 e=some (.int .i64 l.length)) (h26:look 26 e=some (.int .i64 0))
  (hK:∀e' O' N' w,Mu O' 5 w (l.map Rw.c)->(∀j,vid w=some j->N<=j)->(∀z es t,w≠ .app z es t)->Kp (fun _=>False) N O O'->Tail O' N'->N<=N'->look 6 e'=some w->
   look 1 e'=look 1 e->look 2 e'=look 2 e->look 3 e'=look 3 e->look 18 e'=look 18 e->look 19 e'=look 19 e->look 20 e'=look 20 e->Q (go Φ fin K .normal ⟨e',⟨O',N'⟩⟩)):
  Q (go Φ fin (.c (.loop c_92_l0):: .b 2::K) .normal ⟨e,⟨O,N⟩⟩):=by
 refine qhv l.length (fun i e' h=>∃O' N' w,h=⟨O',N'⟩/\((i=0/\w= .Xu 5 [])\/∃id,w= .row id 5 0 i/\look id O'=some (.row 5 ((l.take i).map Rw.c))/\N<=id)/\Kp (fun _=>False) N O O'/\Tail O' N'/\N<=N'/\look 6 e'=some w/\look 24 e'=some v/\look 25 e'=some (.int .i64 l.length)/\look 26 e'=some (.int .i64 i)/\
   look 1 e'=look 1 e/\look 2 e'=look 2 e/\look 3 e'=look 3 e/\look 18 e'=look 18 e/\look 19 e'=look 19 e/\look 20 e'=look 20 e) Q ?_ ?_ 0 _ _ (Qc _) ?_
 ·rintro i e' _ L hi hL ⟨O',N',w,rfl,hw,hk,hT',hN,h6,h24,h25,h26,g1,g2,g3,g18,g19,g20⟩ ih;have hw1:=qal i (by omega);have hc:=qafl l[i] (hs _ (Qd hi));have hT0:=hT' N' (Qb _);have hT1:=hT' (N'+1) (by omega);have hm:min i l.length=i:=by omega
  have hd1:∀id,look (N'+1) (qbg id O')=none:=fun id=>qcy _ hT1
  have htk:(l.map Rw.c).take (i+1)=(l.map Rw.c).take i++[Rw.c l[i]]:=qa5 hi;rw [Rw.ce] at htk;have hb:(i+1)*72<=70368744177664:=by omega
  simp only [Rw.ce] at hc;have hv':Re O' 5 v (l.map Rw.c):=by
   refine hv.fr fun j hj=>?_
   cases hv with
   | row id _ es0 n hn hl hle ht=>cases hj;exact hk j (hT.lt hl) (by simp)
   | sl=>cases hj
   | fs=>cases hj
   | ap=>cases hj
  have hw0:min i (l.map Rw.c).length=i:=by simp;omega
  rcases hw with ⟨rfl,rfl⟩ | ⟨id,rfl,hlk,hid⟩
  ·obtain ⟨a1,a2,a3⟩:=qaa1 (k:=1) hk hT' hN (.row 5 ((l.take (0+1)).map Rw.c));cases hv' with
   | row id' _ es0 n hn hl' hle ht=>
    have h0:=qaay hi ht;simp [c_92_l0,Rw.ce,h6,h24,h25,h26,hi,hc,hT0,hT1,hn,hl',h0,wr1];refine ih _ _ ⟨_,N'+1+1,.row (N'+1) 5 0 (0+1),by simp at htk;simp [htk],.inr ⟨N'+1,rfl,a3,by omega⟩,a1,a2,by omega,?_,?_,?_,?_,?_,?_,?_,?_,?_,?_⟩<;>simp [*]
   | _=>
    simp [c_92_l0,Rw.ce,h6,h24,h25,h26,hi,hc,hT0,hT1,wr1];refine ih _ _ ⟨_,N'+1+1,.row (N'+1) 5 0 (0+1),by simp at htk;simp [htk],.inr ⟨N'+1,rfl,a3,by omega⟩,a1,a2,by omega,?_,?_,?_,?_,?_,?_,?_,?_,?_,?_⟩<;>simp [*]
  ·obtain ⟨a1,a2,a3⟩:=hp_mv (k:=1) hk hT' hN hid (.row 5 ((l.take (i+1)).map Rw.c));cases hv' with
   | row id' _ es0 n hn hl' hle ht=>
    have h0:=qaay hi ht;simp [c_92_l0,Rw.ce,h6,h24,h25,h26,hi,hc,hT0,hn,hl',h0,hw1,hlk,hb,hm,hd1];refine ih _ _ ⟨_,N'+1+1,.row (N'+1) 5 0 (i+1),by simp [htk],.inr ⟨N'+1,rfl,a3,by omega⟩,a1,a2,by omega,?_,?_,?_,?_,?_,?_,?_,?_,?_,?_⟩<;>simp [*]
   | _=>
    simp [c_92_l0,Rw.ce,h6,h24,h25,h26,hi,hc,hT0,hw1,hlk,hb,hm,hd1];refine ih _ _ ⟨_,N'+1+1,.row (N'+1) 5 0 (i+1),by simp [htk],.inr ⟨N'+1,rfl,a3,by omega⟩,a1,a2,by omega,?_,?_,?_,?_,?_,?_,?_,?_,?_,?_⟩<;>simp [*]
 ·rintro e' _ L hL ⟨O',N',w,rfl,hw,hk,hT',hN,h6,h24,h25,h26,g1,g2,g3,g18,g19,g20⟩;simp [c_92_l0,h25,h26,hL];refine hK _ O' N' w ?_ ?_ ?_ hk hT' hN ?_ ?_ ?_ ?_ ?_ ?_ ?_<;>try simp [h6,g1,g2,g3,g18,g19,g20]
  ·rcases hw with ⟨hz,rfl⟩ | ⟨id,rfl,hlk,hid⟩
   ·have:l=[]:=Qg hz;subst this;exact .nilF
   ·rw [QAk] at hlk;exact .row id _ _ _ (by simp) hlk (Qb _) (by rw [QAk])
  ·rcases hw with ⟨hz,rfl⟩ | ⟨id,rfl,hlk,hid⟩
   ·intro j hj;cases hj
   ·intro j hj;cases hj;exact hid
  ·rcases hw with ⟨hz,rfl⟩ | ⟨id,rfl,hlk,hid⟩<;>intro z es t ht<;>cases ht
 ·exact ⟨O,N,.Xu 5 [],rfl,.inl ⟨rfl,rfl⟩,fun _ _ _=>rfl,hT,Qb _,h6,h24,h25,h26,rfl,rfl,rfl,rfl,rfl,rfl⟩
end
section
variable {O O':List (Nat×AO)} {N N' n id:Nat} {X:Nat->Prop} {o y:AO}
theorem Kp.app (h:Kp X N O O') (hn:N<=n):Kp X N O (O'++[(n,o)]):=by
 intro j hj hx;have:¬n=j:=by omega
 rw [qag,h j hj hx];simp [this]
theorem Kp.drop (h:Kp X N O O') (hn:N<=id\/X id):Kp X N O (qbg id O'):=by
 intro j hj hx;rw [qb5 (by rintro rfl;rcases hn with hn | hn;omega;exact hx hn),h j hj hx]
theorem Kp.setl (h:Kp X N O O') (hn:N<=id\/X id):Kp X N O (setl id y O'):=by
 intro j hj hx;rw [qab,QA (by rintro rfl;rcases hn with hn | hn;omega;exact hx hn),h j hj hx]
theorem Tail.app1 (h:Tail O' N') (hn:N'<=n):Tail (O'++[(n,o)]) (n+1):=by
 rw [Tail_append_iff,qa1];exact ⟨h.mono (by omega),by omega,Tail.nil _⟩
theorem Kp.lk (h:Kp X N O O') (hT:Tail O N) {j:Nat} {x:AO} (hl:look j O=some x) (hx:¬X j):look j O'=some x:=by
 rw [h j (hT.lt hl) hx,hl]
theorem qan {j:Nat} {x y:AO} (h1:look id O=some x) (h2:look j O=some y) (h:x≠y):id≠j:=by
 rintro rfl;rw [h1] at h2;cases h2;exact h rfl
theorem qb6 {j:Nat} {x:AO} (hT:Tail O N) (h1:look j O=some x) (hn:N<=n):¬j=n/\¬n=j:=by
 have:=hT.lt h1;omega
end
theorem Re.src {O:List (Nat×AO)} {z N:Nat} {v:AV} {es:List (List AV)} (h:Re O z v es):qc0 ⟨O,N⟩ v=some es:=by
 cases h with
 | sl=>rfl
 | fs=>rfl
 | ap=>rfl
 | row id _ es0 n hn hl hle ht=>
  subst hn;simp [hl,hle,ht]
theorem qafe {O:List (Nat×AO)} {N:Nat} (hT:Tail O N) {v:AV} {l:List Int} (h:Re O 1 v (l.map cI)) (hl:l.length<2^40):
  ∃w o,qah Φ f_116 [v] ⟨O,N⟩=some (.val w,⟨O++[(N,o)],N+1⟩)/\Mu (O++[(N,o)]) 1 w (l.map cI)/\∀j,vid w=some j->N<=j:=by
 have hr:Φ f_116=some (.rule (qen 1 8 .row)):=rfl;rw [qkp Φ hr];have hN:=hT N (Qb _);have hs:=h.src (N:=N);have hlen:=h.len;cases l with
 | nil=>
  refine ⟨.app 1 [] N,.tok 1 0,?_,.nilA _,fun j hj=>by cases hj⟩;simp only [qen,hlen,QBl,QAq];simp only [QBl] at hs;simp only [hs,evR];simp [hN]
 | cons x l=>
  have ha:qc7 1 ((x::l).map cI)=true:=qc8 1 cI (x::l) fun x=>by simp
  refine ⟨.row N 1 0 ((x::l).map cI).length,.row 1 ((x::l).map cI),?_,?_,fun j hj=>by cases hj;omega⟩
  ·have hb:((x::l).map cI).length*8<=2^46:=by rw [QAb];omega
   have hne:(x::l).map cI≠[]:=by simp
   simp only [qen,hlen,QAb,QAn,evR];have e0:evOp [(5,.Xu 1 []),(6,v)] N ⟨O,N⟩ (.append .row 1 8 (.t 5) (.t 6))=some (.row N 1 0 ((x::l).map cI).length,(AH.mk O N).put N (.row 1 ((x::l).map cI))):=by
    simp only [evOp,evX,look];simp only [show ¬(5:Nat)=6 by decide,if_true,if_false,hs,ha];simp only [QAq,QBw,QAj,true_or,true_and];rw [QAa ⟨hne,hb⟩]
   rw [e0];simp [hN]
  ·exact .row N _ _ _ rfl (by rw [qag,hN];simp) (Qb _) (by rw [QAk])
theorem Kp.appL {O O':List (Nat×AO)} {N:Nat} {X:Nat->Prop} (h:Kp X N O O') {r:List (Nat×AO)} (hr:∀p∈r,N<=p.1):Kp X N O (O'++r):=by
 intro j hj hx;have:look j r=none:=by
  induction r with
  | nil=>rfl
  | cons p r ih=>
   have h1:=hr p (by simp);have:¬p.1=j:=by omega
   simp only [look,QA this];exact ih fun q hq=>hr q (by simp [hq])
 rw [qag,h j hj hx,this];simp
structure RowsR (O:List (Nat×AO)) (v:AV) (A:List AV) (R:List (List Rw)):Prop where
 v:Re O 1 v (A.map fun x=>[x])
 len:A.length=R.length
 at_:∀(k:Nat) (x:AV) (l:List Rw),A[k]? =some x->R[k]? =some l->Re O 5 x (l.map Rw.c)
theorem Re.own {O:List (Nat×AO)} {z j:Nat} {v:AV} {es:List (List AV)} (h:Re O z v es) (hj:vid v=some j):∃x,look j O=some x:=by
 cases h with
 | sl=>cases hj
 | fs=>cases hj
 | ap=>cases hj
 | row id _ es0 n hn hl hle ht=>cases hj;exact ⟨_,hl⟩
theorem Re.kp {O O':List (Nat×AO)} {z N:Nat} {v:AV} {es:List (List AV)} {X:Nat->Prop} (h:Re O z v es) (hT:Tail O N) (hk:Kp X N O O') (hx:∀j,X j->look j O=none\/N<=j):Re O' z v es:=by
 refine h.fr fun j hj=>?_
 obtain ⟨x,hl⟩:=h.own hj;refine hk j (hT.lt hl) fun hc=>?_
 rcases hx j hc with h1 | h1
 ·rw [hl] at h1;cases h1
 ·have:=hT.lt hl;omega
theorem Mu.own {O:List (Nat×AO)} {z j:Nat} {v:AV} {es:List (List AV)} (h:Mu O z v es) (hj:vid v=some j):∃es0,look j O=some (.row z es0):=by
 cases h with
 | nilF=>cases hj
 | nilA=>cases hj
 | row id _ es0 n hn hl hle ht=>cases hj;exact ⟨_,hl⟩
structure RowsW (O:List (Nat×AO)) (N:Nat) (V:List AV) (R:List (List Rw)):Prop where
 len:V.length=R.length
 mu:∀(k:Nat) (v:AV) (l:List Rw),V[k]? =some v->R[k]? =some l->Mu O 5 v (l.map Rw.c)
 fresh:∀v∈V,∀j,vid v=some j->N<=j
 inj:∀(k k':Nat) (v v':AV) (i:Nat),V[k]? =some v->V[k']? =some v'->vid v=some i->vid v'=some i->k=k'
 na:∀v∈V,∀z es t,v≠ .app z es t
theorem RowsW.nil {O:List (Nat×AO)} {N:Nat}:RowsW O N [] []:=⟨rfl,by simp,by simp,by simp,by simp⟩
theorem RowsW.own {O:List (Nat×AO)} {N:Nat} {V:List AV} {R:List (List Rw)} (h:RowsW O N V R) {v:AV} {j:Nat} (hv:v∈V) (hj:vid v=some j):∃es0,look j O=some (.row 5 es0):=by
 obtain ⟨k,hk,rfl⟩:=Qn.1 hv;have hk2:k<R.length:=by rw [<- h.len];exact hk
 exact (h.mu k _ _ (Qa hk) (Qa hk2)).own hj
theorem RowsW.fr {O O':List (Nat×AO)} {N:Nat} {V:List AV} {R:List (List Rw)} (h:RowsW O N V R) (hf:∀j es0,look j O=some (.row 5 es0)->look j O'=look j O):RowsW O' N V R:=by
 refine ⟨h.len,?_,h.fresh,h.inj,h.na⟩;intro k v l hv hl;have hm:=h.mu k v l hv hl;refine hm.fr fun j hj=>?_
 obtain ⟨es0,h0⟩:=hm.own hj;exact hf j es0 h0
theorem RowsW.snoc {O O':List (Nat×AO)} {N N':Nat} {V:List AV} {R:List (List Rw)} {w:AV} {l:List Rw} (h:RowsW O N V R) (hT:Tail O N') (hN:N<=N') (hf:∀j es0,look j O=some (.row 5 es0)->look j O'=look j O) (hw:Mu O' 5 w (l.map Rw.c)) (hn:∀j,vid w=some j->N'<=j) (ha:∀z es t,w≠ .app z es t):RowsW O' N (V++[w]) (R++[l]):=by
 have h':=h.fr hf;have hlt:∀v∈V,∀j,vid v=some j->j<N':=by
  intro v hv j hj;obtain ⟨es0,h0⟩:=h.own hv hj;exact hT.lt h0
 have hlen:=h.len;refine ⟨by simp [hlen],?_,?_,?_,fun v hv=>by rcases QAf.1 hv with hv | hv;exact h.na v hv;simp at hv;subst hv;exact ha⟩
 ·intro k v l' hv hl;by_cases hk:k<V.length
  ·rw [Ql hk] at hv;rw [Ql (by omega)] at hl;exact h'.mu k v l' hv hl
  ·have hk':k=V.length:=by
    have:=(Qm.1 hv).1;simp at this;omega
   subst hk';rw [Qp (by omega)] at hv;rw [Qp (by omega),hlen] at hl;simp at hv hl;subst hv hl;exact hw
 ·intro v hv j hj;rcases QAf.1 hv with hv | hv
  ·exact h.fresh v hv j hj
  ·simp at hv;subst hv;have:=hn j hj;omega
 ·intro k k' v v' i hv hv' hi hi';have hb:=(Qm.1 hv).1;have hb':=(Qm.1 hv').1;simp at hb hb';by_cases hk:k<V.length
  ·by_cases hk':k'<V.length
   ·rw [Ql hk] at hv;rw [Ql hk'] at hv';exact h.inj k k' v v' i hv hv' hi hi'
   ·rw [Ql hk] at hv;rw [Qp (by omega)] at hv';have:k' - V.length=0:=by omega
    rw [this] at hv';simp at hv';subst hv';have h1:=hlt v (Qe hv) i hi;have h2:=hn i hi';omega
  ·by_cases hk':k'<V.length
   ·rw [Ql hk'] at hv';rw [Qp (by omega)] at hv;have:k - V.length=0:=by omega
    rw [this] at hv;simp at hv;subst hv;have h1:=hlt v' (Qe hv') i hi';have h2:=hn i hi;omega
   ·omega
section
variable {β:Type} {fin:Option (Ex×St)->Option β}
theorem qafb (R:List (List Rw)) (hR:R.length<2^40) (hs:∀l∈R,l.length<2^39/\∀r∈l,rowS r) (v w2:AV) (A:List AV) (b:Nat) (K:List Fr) (Q:Option β->Prop) (e:Env) (O:List (Nat×AO)) (N:Nat) (hT:Tail O N) (hv:RowsR O v A R)
  (hb:look b O=some (.row 4 [[.Xu 1 [],w2,.Xu 2 [],.Xu 1 []]])) (h3:look 3 e=some (.ptr b 4 0 0)) (h18:look 18 e=some v) (h19:look 19 e=some (.int .i64 R.length)) (h20:look 20 e=some (.int .i64 0))
  (hK:∀e' O' N' w V,Mu O' 1 w (V.map fun x=>[x])->(∀j,vid w=some j->N<=j)->RowsW O' N V R->Kp (fun j=>j=b) N O O'->Tail O' N'->N<=N'->look b O'=some (.row 4 [[w,w2,.Xu 2 [],.Xu 1 []]])->
   look 1 e'=look 1 e->look 2 e'=look 2 e->look 3 e'=look 3 e->Q (go Φ fin K .normal ⟨e',⟨O',N'⟩⟩)):
  Q (go Φ fin (.c (.loop c_92_l3):: .b 0::K) .normal ⟨e,⟨O,N⟩⟩):=by
 have hAb:∀(k:Nat) (x:AV) j,A[k]? =some x->vid x=some j->j≠b:=by
  intro k x j hx hj;have hk:k<R.length:=by
   have:=(Qm.1 hx).1;rw [hv.len] at this;exact this
  have:=hv.at_ k x _ hx (Qa hk);cases this with
  | sl=>cases hj
  | fs=>cases hj
  | ap=>cases hj
  | row id _ es0 n hn hl hle ht=>cases hj;exact qan hl hb (by simp)
 have hvb:∀j,vid v=some j->j≠b:=by
  intro j hj;cases hv.v with
  | sl=>cases hj
  | fs=>cases hj
  | ap=>cases hj
  | row id _ es0 n hn hl hle ht=>cases hj;exact qan hl hb (by simp)
 refine qhv R.length (fun i e' h=>∃O' N' w V,h=⟨O',N'⟩/\((i=0/\w= .Xu 1 []/\V=[])\/∃id,w= .row id 1 0 i/\look id O'=some (.row 1 (V.map fun x=>[x]))/\N<=id)/\RowsW O' N V (R.take i)/\Kp (fun j=>j=b) N O O'/\Tail O' N'/\N<=N'/\
   look b O'=some (.row 4 [[w,w2,.Xu 2 [],.Xu 1 []]])/\look 3 e'=some (.ptr b 4 0 0)/\look 18 e'=some v/\look 19 e'=some (.int .i64 R.length)/\look 20 e'=some (.int .i64 i)/\
   look 1 e'=look 1 e/\look 2 e'=look 2 e) Q ?_ ?_ 0 _ _ (Qc _) ?_
 ·rintro i e' _ L hi hL ⟨O',N',w,V,rfl,hw,hV,hk,hT',hN,hb',h3,h18,h19,h20,g1,g2⟩ ih;have hw1:=qal i (by omega);have hA:i<A.length:=by rw [hv.len];exact hi
  have hlen:=hV.len;have hVl:V.length=i:=by rw [hlen];simp;omega
  have hri:=hs _ (Qd hi);have hbN:b<N:=hT.lt hb;have hx:Re O' 5 A[i] (R[i].map Rw.c):=by
   have h0:=hv.at_ i _ _ (Qa hA) (Qa hi);refine h0.fr fun j hj=>?_
   obtain ⟨x,hl⟩:=h0.own hj;exact hk j (hT.lt hl) (hAb i _ j (Qa hA) hj)
  have hxl:=hx.len;have hxc:=hx.cells;have hv':Re O' 1 v (A.map fun x=>[x]):=by
   refine hv.v.fr fun j hj=>?_
   obtain ⟨x,hl⟩:=hv.v.own hj;exact hk j (hT.lt hl) (hvb j hj)
  have after:∀e1,look 1 e1=look 1 e->look 2 e1=look 2 e->look 3 e1=some (.ptr b 4 0 0)->look 18 e1=some v->look 19 e1=some (.int .i64 R.length)->look 20 e1=some (.int .i64 i)->
    ∀e2 O2 N2 w',Mu O2 5 w' (R[i].map Rw.c)->(∀j,vid w'=some j->N'<=j)->(∀z es t,w'≠ .app z es t)->Kp (fun _=>False) N' O' O2->Tail O2 N2->N'<=N2->look 6 e2=some w'->look 1 e2=look 1 e1->look 2 e2=look 2 e1->look 3 e2=look 3 e1->look 18 e2=look 18 e1->look 19 e2=look 19 e1->look 20 e2=look 20 e1->
    Q (go Φ fin (.c c_92_k1:: .b 1:: .c c_92_k2::L) .normal ⟨e2,⟨O2,N2⟩⟩):=by
   intro e1 f1 f2 f3 f18 f19 f20 e2 O2 N2 w' hmu hnew hna hk2 hT2 hN2 d6 d1 d2 d3 d18 d19 d20;rw [f1] at d1;rw [f2] at d2;rw [f3] at d3;rw [f18] at d18;rw [f19] at d19;rw [f20] at d20;have hb2:look b O2=some (.row 4 [[w,w2,.Xu 2 [],.Xu 1 []]]):=hk2.lk hT' hb' (by simp);have hmc:=hmu.cells;have t0:=hT2 N2 (Qb _);have t1:=hT2 (N2+1) (by omega);have hbN2:b<N2:=by omega
   have q0:¬N2=b:=by omega
   have q1:¬N2+1=b:=by omega
   have q2:¬b=N2:=by omega
   have q3:¬b=N2+1:=by omega
   have hkk:Kp (fun j=>j=b) N O O2:=hk.trans (hk2.mono fun _ _ h=>h.elim) hN;have h5:∀(j:Nat) (es0:List (List AV)),look j O'=some (.row 5 es0)->look j O2=some (.row 5 es0):=fun j es0 hj=>hk2.lk hT' hj (by simp)
   rcases hw with ⟨rfl,rfl,rfl⟩ | ⟨id,rfl,hlk,hid⟩
   ·simp [c_92_k1,c_92_k2,d3,d6,d20,t0,t1,qag,hb2,wr1,hmc,-AV.cells];refine ih _ _ ⟨_,_,.row (N2+1) 1 0 1,[w'],rfl,.inr ⟨N2+1,rfl,?_,by omega⟩,?_,?_,?_,by omega,?_,?_,?_,?_,?_,?_,?_⟩
    ·simp [qab,q1,t1]
    ·rw [Qh hi];refine RowsW.snoc (V:=[]) hV hT' hN ?_ (hmu.fr ?_) hnew hna
     ·intro j es0 hj;have hj2:=h5 j es0 hj;have:=qan hj2 hb2 (by simp);simp [qab,qag,this,hj2,hj]
     ·intro j hj;obtain ⟨es0,hj2⟩:=hmu.own hj;have:=qan hj2 hb2 (by simp);simp [qab,qag,this,hj2]
    ·exact Kp.setl (Kp.appL hkk (by simp;omega)) (.inr rfl)
    ·exact qai (by simp [Tail_append_iff,qa1,qcg];exact ⟨hT2.mono (by omega),by omega⟩)
    ·simp [qab,qag,hb2]
    all_goals simp [*]
   ·have hl2:look id O2=some (.row 1 (V.map fun x=>[x])):=hk2.lk hT' hlk (by simp);have hbi:=qan hb2 hl2 (by simp);have hd1:look (N2+1) (qbg id (O2++[(N2,.row 1 [[w']])]))=none:=qcy _ (by simp [t1]);have hd2:look b (qbg id (O2++[(N2,.row 1 [[w']])]))=some (.row 4 [[.row id 1 0 i,w2,.Xu 2 [],.Xu 1 []]]):=by rw [qb5 hbi,qag,hb2];rfl
    have hc:(i+1)*24<=70368744177664:=by omega
    simp [c_92_k1,c_92_k2,d3,d6,d20,t0,qag,hb2,hw1,hl2,hVl,hd1,hd2,hc,hmc,-AV.cells];refine ih _ _ ⟨_,_,.row (N2+1) 1 0 (i+1),V++[w'],rfl,.inr ⟨N2+1,rfl,?_,by omega⟩,?_,?_,?_,by omega,?_,?_,?_,?_,?_,?_,?_⟩
    ·simp [qab,q1,hd1]
    ·rw [Qh hi];refine RowsW.snoc hV hT' hN ?_ (hmu.fr ?_) hnew hna
     ·intro j es0 hj;have hj2:=h5 j es0 hj;have n1:=qan hj2 hb2 (by simp);have n2:=qan hj2 hl2 (by simp);simp [qab,qag,qb5 n2,n1,hj2,hj]
     ·intro j hj;obtain ⟨es0,hj2⟩:=hmu.own hj;have n1:=qan hj2 hb2 (by simp);have n2:=qan hj2 hl2 (by simp);simp [qab,qag,qb5 n2,n1,hj2]
    ·exact Kp.setl (Kp.appL (Kp.drop (Kp.appL hkk (by simp;omega)) (.inl hid)) (by simp;omega)) (.inr rfl)
    ·refine qai ?_;rw [Tail_append_iff];exact ⟨qdz (by simp [Tail_append_iff,qa1,qcg];exact ⟨hT2.mono (by omega),by omega⟩),by simp [qa1,qcg]⟩
    ·simp [qab,qag,hd2]
    all_goals simp [*]
  cases hv' with
  | row id' _ es0 n hn hl' hle ht=>
   have h0:es0[i]? =some [A[i]]:=by
    have h:(es0.take (A.map fun x=>[x]).length)[i]? =(A.map fun x=>[x])[i]? :=by rw [ht]
    rw [List.getElem?_take_of_lt (by simpa using hA)] at h;rw [h];simp [hA]
   simp [c_92_l3,h18,h19,h20,hi,hA,hn,hl',h0,hxl,-lenOf];refine qwo R[i] hri.2 hri.1 A[i] _ _ _ O' N' hT' hx ?_ ?_ ?_ ?_ (after _ ?_ ?_ ?_ ?_ ?_ ?_)<;>simp [*]
  | _=>
   simp [c_92_l3,h18,h19,h20,hi,hA,hxl,-lenOf];refine qwo R[i] hri.2 hri.1 A[i] _ _ _ O' N' hT' hx ?_ ?_ ?_ ?_ (after _ ?_ ?_ ?_ ?_ ?_ ?_)<;>simp [*]
 ·rintro e' _ L hL ⟨O',N',w,V,rfl,hw,hV,hk,hT',hN,hb',h3,h18,h19,h20,g1,g2⟩;simp [c_92_l3,h19,h20,hL];rw [QAk] at hV;refine hK _ O' N' w V ?_ ?_ hV hk hT' hN hb' ?_ ?_ ?_
  ·rcases hw with ⟨hz,rfl,rfl⟩ | ⟨id,rfl,hlk,hid⟩
   ·exact .nilF
   ·exact .row id _ _ _ (by simp [hV.len]) hlk (Qb _) (by rw [QAk])
  ·rcases hw with ⟨hz,rfl,rfl⟩ | ⟨id,rfl,hlk,hid⟩
   ·intro j hj;cases hj
   ·intro j hj;cases hj;exact hid
  ·simp [g1]
  ·simp [g2]
  ·simp [*]
 ·exact ⟨O,N,.Xu 1 [],[],rfl,.inl ⟨rfl,rfl,rfl⟩,by simpa using RowsW.nil,fun _ _ _=>rfl,hT,Qb _,hb,h3,h18,h19,h20,rfl,rfl⟩
end
end Go.Av
