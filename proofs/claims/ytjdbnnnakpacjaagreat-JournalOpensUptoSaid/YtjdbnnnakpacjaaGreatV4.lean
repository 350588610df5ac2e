/-
 Operations and transactions on configurations, as plain functions.
-/
import Derived.Test.YtjdbnnnakpacjaaGreatH2
set_option linter.unusedVariables false
set_option linter.unusedSimpArgs false
namespace Go.Av
def xoE (p:Prg) (c:Xf) (o:Xc):Int:=if o.kind=1 then insE p c o.table o.entry else if o.kind=2 then modE p c o.table o.id o.call else if o.kind=3 then delE p c o.table o.id else if o.kind=4 then defE p o.table o.call else 11
def xoD (c:Xf) (o:Xc):Xf:=if o.kind=1 then insC c o.table o.entry else if o.kind=2 then modC c o.table o.id o.call else if o.kind=3 then delC c o.table o.id else defC c o.table o.call
def xoC (p:Prg) (c:Xf) (o:Xc):Xf:=if xoE p c o=0 then xoD c o else c
def xoI (p:Prg) (c:Xf) (o:Xc):Int:=if xoE p c o=0/\o.kind=1 then wR c o.table else 0
structure CallS (x:Xb):Prop where
 al:x.args.length<2^40
 ar:∀v∈x.args,ok32 0 v
structure OpS (o:Xc):Prop where
 e:EntS o.entry
 c:CallS o.call
variable {c:Xf} {p:Prg}
theorem TM (v:CfgV p c) (o:Xc):CfgV p (xoC p c o):=by
 unfold xoC;split
 ·rename_i h;unfold xoE at h;unfold xoD;split
  ·rename_i h1;rw [aB h1] at h;exact Js v h
  rename_i h1;rw [QA h1] at h;split
  ·rename_i h2;rw [aB h2] at h;exact Kj v h
  rename_i h2;rw [QA h2] at h;split
  ·rename_i h3;rw [aB h3] at h;exact Ix v h
  rename_i h3;rw [QA h3] at h;by_cases h4:o.kind=4
  ·rw [aB h4] at h;exact Iw v h
  ·rw [QA h4] at h;cases h
 ·exact v
theorem CfgT.mk_rows {p:Prg} {c c':Xf} (s:CfgT c) (v':CfgV p c') (hp:p.Xn.length<2^40) (hr:∀l∈c'.rows,∀r∈l,rowS r) (hd:∀d∈c'.Xq,d.args.length<2^40/\∀v∈d.args,ok32 0 v) (hg:c'.Xm=c.Xm):CfgT c':=by
 refine ⟨by rw [v'.rl];exact hp,fun l hl=>⟨by have:=v'.small l hl;omega,hr l hl⟩,by rw [v'.nl];exact hp,by rw [v'.dl];exact hp,hd,by rw [hg];exact s.gl,by rw [hg];exact s.gs⟩
theorem ZU {t:Int} {r:Rw} (h:r∈kT c t):∃l∈c.rows,r∈l:=by
 unfold kT at h;cases ha:at? c.rows t with
 | none=>rw [ha] at h;cases h
 | some l=>
  rw [ha] at h;refine ⟨l,?_,h⟩;unfold at? at ha;split at ha
  ·cases ha
  ·exact Qe ha
theorem xoC_t (v:CfgV p c) (s:CfgT c) (hp:p.Xn.length<2^40) (o:Xc) (ho:OpS o):CfgT (xoC p c o):=by
 have v':=TM v o;unfold xoC at v' ⊢;split
 rotate_left
 ·exact s
 rename_i h;rw [aB h] at v';have old:∀l∈c.rows,∀r∈l,rowS r:=fun l hl=>(s.rs l hl).2
 have oldA:∀r∈kT c o.table,rowS r:=fun r hr=>by
  obtain ⟨l,hl,hr⟩:=ZU hr;exact old l hl r hr
 unfold xoD at v' ⊢;split
 ·rename_i h1;rw [aB h1] at v';refine s.mk_rows v' hp ?_ s.ds rfl;intro l hl r hr;simp only [insC] at hl;rcases Qq hl with hl | rfl
  ·exact old l hl r hr
  ·rcases gP.1 hr with hr | hr
   ·exact oldA r hr
   ·simp at hr;subst hr;exact ho.e
 rename_i h1;rw [QA h1] at v';split
 ·rename_i h2;rw [aB h2] at v';unfold modC at v' ⊢;split
  ·rename_i i hi;rw [hi] at v';refine s.mk_rows v' hp ?_ s.ds rfl;intro l hl r hr;rcases Qq hl with hl | rfl
   ·exact old l hl r hr
   ·obtain ⟨j,hj,rfl⟩:=Qn.1 hr;rw [Q7];have hj':j<(kT c o.table).length:=by simpa using hj
    have h0:=oldA _ (Qd hj');split
    ·exact ⟨h0.kl,h0.ks,ho.c.al,ho.c.ar⟩
    ·exact h0
  ·exact s
 rename_i h2;rw [QA h2] at v';split
 ·rename_i h3;rw [aB h3] at v';unfold delC at v' ⊢;split
  ·rename_i i hi;rw [hi] at v';refine s.mk_rows v' hp ?_ s.ds rfl;intro l hl r hr;rcases Qq hl with hl | rfl
   ·exact old l hl r hr
   ·exact oldA r ((List.eraseIdx_sublist _ _).subset hr)
  ·exact s
 ·rename_i h3;rw [QA h3] at v';refine s.mk_rows v' hp old ?_ rfl;intro d hd;simp only [defC] at hd;rcases Qq hd with hd | rfl
  ·exact s.ds d hd
  ·exact ⟨ho.c.al,ho.c.ar⟩
inductive RunR where
 | ok (c:Xf) (ids:List Int)
 | err (i:Nat) (e:Int)
def xoF (p:Prg) (c:Xf) (l:List Xc):Xf:=l.foldl (xoC p) c
set_option maxRecDepth 4000
theorem qx8 {α:Type} {p:α->Bool} {l:List α}:∀n i,n+i=l.length->ix p l i=(((l.drop i).findIdx? p).map fun j=>((i+j:Nat):Int)).getD (-1)
 | 0,i,h=>by
  have:i=l.length:=by omega
  subst this;rw [HX];simp
 | n+1,i,h=>by
  have hi:i<l.length:=by omega
  rw [Qi hi,List.findIdx?_cons];cases hp:p l[i] with
  | true=>rw [HY hi hp];simp
  | false=>
   rw [HT hi hp,qx8 n (i+1) (by omega)];cases (l.drop (i+1)).findIdx? p with
   | none=>rfl
   | some j=>simp;omega
def rIx (l:List Rw) (id:Int):Int:=((rIdx l id).map fun (j:Nat)=>(j:Int)).getD (-1)
theorem Ol (l:List Rw) (id:Int):ix (fun r=>decide (r.id=id)) l 0=rIx l id:=by
 rw [qx8 l.length 0 (by omega)];simp [rIx,rIdx]
theorem qqt (l:List Rw) (id:Int) (hl:l.length<2^40):a9 Φ nT [.slice 5 (l.map Rw.c),a8 id]=some (.val (a8 (rIx l id))):=by
 rw [aA rfl rfl,<- Ol];simp [LC];refine fJ l.length (fun i e=>look 0 e=some (.slice 5 (l.map Rw.c))/\look 1 e=some (a8 id)/\look 5 e=some (a8 i))
  (fun i=>some (Rt.val (a8 (ix (fun r=>decide (r.id=id)) l i)))) ?_ ?_ 0 _ (Qc _) ?_
 ·rintro i e L hi hL ⟨h0,h1,h5⟩ ih;have hw:=aL i (by omega);by_cases z:l[i].id=id
  ·rw [HY hi (by simpa using z)];simp [c_296_l0,Rw.ce,h0,h1,h5,hi,z]
  ·rw [HT hi (by simpa using z)];simp [c_296_l0,Rw.ce,h0,h1,h5,hi,z,hw];exact ih _ ⟨by simp [h0],by simp [h1],by simp⟩
 ·rintro e L hL ⟨h0,h1,h5⟩;rw [HX];simp [c_296_l0,c_296_k1,h0,h5,hL]
 ·simp
theorem Sj (c:Xf) (k:Nat) (l:List Rw) (nx:Int) (hk:k<c.rows.length) (hn:c.Xr.length=c.rows.length) (hl:c.rows.length<2^40):
  a9 Φ rV [.agg (Xf.c c),a8 k,.slice 5 (l.map Rw.c),a8 nx]=some (.val (.agg (Xf.c ⟨c.rows.set k l,c.Xr.set k nx,c.Xq,c.Xm⟩))):=by
 rw [aA rfl rfl];generalize hR:c.rows.set k l=R;generalize hNn:c.Xr.set k nx=M;have hRl:R.length=c.rows.length:=by rw [<- hR];simp
 have hMl:M.length=c.rows.length:=by rw [<- hNn];simp [hn]
 generalize hQ:(fun r:Option Rt=>r=some (Rt.val (.agg (Xf.c ⟨R,M,c.Xq,c.Xm⟩))))=Q;have hq:∀r,Q r=(r=some (Rt.val (.agg (Xf.c ⟨R,M,c.Xq,c.Xm⟩)))):=fun r=>by rw [<- hQ]
 rw [<- hq];clear hQ;simp [LB,Xf.ce];refine I4 c.rows.length (fun i e h=>∃(O':List (Nat×AO)) (N':Nat) (w1 w2:AV),h=⟨O',N'⟩/\Tail O' N'/\look 0 O'=some (.row 4 [[.Xu 1 [],.Xu 1 [],.Xu 2 [],.Xu 1 []]])/\look 1 O'=some (.row 4 [[w1,w2,.slice 2 (c.Xq.map Xb.c),.slice 1 (c.Xm.map (cS 1 c32))]])/\
   ((i=0/\w1= .Xu 1 []/\w2= .Xu 1 [])\/∃a b,w1= .app 1 ((R.map (cS 5 Rw.c)).take i) a/\look a O'=some (.tok 1 i)/\w2= .app 1 ((M.map cI).take i) b/\look b O'=some (.tok 1 i)/\a≠b)/\
   look 1 e=some (a8 k)/\look 2 e=some (.slice 5 (l.map Rw.c))/\look 3 e=some (a8 nx)/\look 4 e=some (.iptr 4 [Xf.c c] 0 0)/\look 8 e=some (.ptr 0 4 0 0)/\look 9 e=some (.ptr 1 4 0 0)/\look 10 e=some (a8 i)) Q ?_ ?_ 0 _ _ (Qc _) ?_
 ·rintro i e _ L hi hL ⟨O',N',w1,w2,rfl,hT',l0,l1,hw,e1,e2,e3,e4,e8,e9,e10⟩ ih;have hw1:=aL i (by omega);have i2:i<c.Xr.length:=by omega
  have iR:i<R.length:=by omega
  have iM:i<M.length:=by omega
  have t0:=hT' N' (Qb _);have t1:=hT' (N'+1) (by omega);have nz:¬N'=0:=by have:=hT'.lt l1;omega
  have n1:1<N':=hT'.lt l1;have n2:¬N'=1:=by omega
  have n3:¬1=N':=by omega
  have n4:¬0=N':=by omega
  have hTm:Tail O' (N'+1+1):=hT'.mono (by omega);have sR:(R.map (cS 5 Rw.c)).take (i+1)=(R.map (cS 5 Rw.c)).take i++[cS 5 Rw.c R[i]]:=jS iR;have sM:(M.map cI).take (i+1)=(M.map cI).take i++[cI M[i]]:=jS iM;rw [cSe] at sR;rw [cIe] at sM;rw [Xf.ce] at e4;have mR:min i R.length=i:=by omega
  have mM:min i M.length=i:=by omega
  have c1:(i+1)*24<=70368744177664:=by omega
  have c2:(i+1)*8<=70368744177664:=by omega
  by_cases hik:i=k
  ·have vR:R[i]=l:=by simp [<- hR,hik]
   have vM:M[i]=nx:=by simp [<- hNn,hik]
   rw [vR] at sR;rw [vM] at sM;have d0:(i=k)=True:=eq_true hik;rcases hw with ⟨rfl,rfl,rfl⟩ | ⟨a,b,rfl,la,rfl,lb,hab⟩
   ·have hk0:k=0:=hik.symm;simp [c_295_l0,e1,e2,e3,e4,e9,e10,hi,hk0,t0,t1,wr1,aV,aG,l1,n2,nz];refine ih _ _ ⟨_,_,_,_,rfl,?_,?_,?_,.inr ⟨N',N'+1,by rw [sR],?_,by rw [sM],?_,by omega⟩,?_,?_,?_,?_,?_,?_,?_⟩
    ·repeat' first | exact hTm | apply cY | apply OL | omega
    ·simp [aV,aG,l0]
    ·simp [aV,aG,l1]
    ·simp [aV,aG,n2,t0]
    ·simp [aG,t1,nz]
    all_goals simp [e1,e2,e3,e4,e8,e9,Xf.ce,hk0]
   ·have i0:0≠a:=b8 l0 la (by simp);have i1:1≠a:=b8 l1 la (by simp);have i2:0≠b:=b8 l0 lb (by simp);have i3:1≠b:=b8 l1 lb (by simp);have j0:=i0.symm;have j1:=i1.symm;have j2:=i2.symm;have j3:=i3.symm;have hba:=hab.symm;simp [c_295_l0,e1,e2,e3,e4,e9,e10,hi,d0,hw1,aG,l1,la,lb,i1,i3,j3,hba,mR,mM,c1,c2];refine ih _ _ ⟨_,_,_,_,rfl,?_,?_,?_,.inr ⟨a,b,by rw [sR],?_,by rw [sM],?_,hab⟩,?_,?_,?_,?_,?_,?_,?_⟩
    ·repeat' first | exact hT' | apply cY
    ·simp [aG,l0,i0,i2]
    ·simp [aG,l1,i1,i3]
    ·simp [aG,la,j1,hab]
    ·simp [aG,lb,j3,hba]
    all_goals simp [e1,e2,e3,e4,e8,e9,Xf.ce]
  ·have vR:R[i]=c.rows[i]:=by simp [<- hR,show ¬k=i by omega]
   have vM:M[i]=c.Xr[i]:=by simp [<- hNn,show ¬k=i by omega]
   rw [vR] at sR;rw [vM] at sM;have d0:¬(i:Int)=(k:Int):=by omega
   rcases hw with ⟨rfl,rfl,rfl⟩ | ⟨a,b,rfl,la,rfl,lb,hab⟩
   ·have hk0:¬k=0:=fun h=>hik h.symm
    have hk1:¬0=k:=fun h=>hik h
    simp [c_295_l0,cSe,cIe,e1,e4,e9,e10,hi,i2,hk1,t0,t1,wr1,aV,aG,l1,n2,nz];refine ih _ _ ⟨_,_,_,_,rfl,?_,?_,?_,.inr ⟨N',N'+1,by rw [sR],?_,by rw [sM],?_,by omega⟩,?_,?_,?_,?_,?_,?_,?_⟩
    ·repeat' first | exact hTm | apply cY | apply OL | omega
    ·simp [aV,aG,l0]
    ·simp [aV,aG,l1]
    ·simp [aV,aG,n2,t0]
    ·simp [aG,t1,nz]
    all_goals simp [e1,e2,e3,e4,e8,e9,Xf.ce]
   ·have i0:0≠a:=b8 l0 la (by simp);have i1:1≠a:=b8 l1 la (by simp);have i2':0≠b:=b8 l0 lb (by simp);have i3:1≠b:=b8 l1 lb (by simp);have j0:=i0.symm;have j1:=i1.symm;have j2:=i2'.symm;have j3:=i3.symm;have hba:=hab.symm;simp [c_295_l0,cSe,cIe,e1,e4,e9,e10,hi,i2,d0,hw1,aG,l1,la,lb,i1,i3,j3,hba,mR,mM,c1,c2];refine ih _ _ ⟨_,_,_,_,rfl,?_,?_,?_,.inr ⟨a,b,by rw [sR],?_,by rw [sM],?_,hab⟩,?_,?_,?_,?_,?_,?_,?_⟩
    ·repeat' first | exact hT' | apply cY
    ·simp [aG,l0,i0,i2']
    ·simp [aG,l1,i1,i3]
    ·simp [aG,la,j1,hab]
    ·simp [aG,lb,j3,hba]
    all_goals simp [e1,e2,e3,e4,e8,e9,Xf.ce]
 ·rintro e _ L hL ⟨O',N',w1,w2,rfl,hT',l0,l1,hw,e1,e2,e3,e4,e8,e9,e10⟩;rw [Xf.ce] at e4;simp [c_295_l0,c_295_k1,e4,e8,e9,e10,hL,l0,l1,aG];rw [hq];have tR:(R.map (cS 5 Rw.c)).take c.rows.length=R.map (cS 5 Rw.c):=Qo (by simp;omega);have tM:(M.map cI).take c.rows.length=M.map cI:=Qo (by simp;omega);rcases hw with ⟨hz,rfl,rfl⟩ | ⟨a,b,rfl,la,rfl,lb,hab⟩
  ·omega
  ·rw [tR,tM];simp [Xf.ce]
 ·refine ⟨_,_,.Xu 1 [],.Xu 1 [],rfl,?_,?_,?_,.inl ⟨rfl,rfl,rfl⟩,?_,?_,?_,?_,?_,?_,?_⟩
  all_goals simp [s5,LK,Xf.ce]
variable {id:Int}
theorem qvq {l:List Rw} (h:rIdx l id=none):rIx l id= -1:=by simp [rIx,h]
variable {i:Nat}
theorem qvr {l:List Rw} (h:rIdx l id=some i):rIx l id=i:=by simp [rIx,h]
section
variable {p:Prg} (f:PrgS p) (hv:∀t∈p.Xn,∀v∈t.Yc.args,ok32 0 v) {c:Xf} (v:CfgV p c) (s:CfgT c) (t:Int)
include f hv v s
theorem qz7 (x:Entry) (hx:EntS x):a9 Φ vX [.agg (Prg.c p),.agg (Xf.c c),a8 t,.agg (Entry.c x)]=
  some (.val (.tup [.agg (Xf.c (if insE p c t x=0 then insC c t x else c)),a8 (if insE p c t x=0 then wR c t else 0),a8 (insE p c t x)])):=by
 rw [aA rfl rfl];have he:=qv1 p f hv t x hx;simp only [Prg.e,Entry.ce] at he;by_cases z0:t<0
 ·have hE:insE p c t x=8:=by simp [insE,inT];omega
  simp [jO,Prg.e,Xf.ce,Entry.ce,hE,z0]
 by_cases z1:(p.Xn.length:Int)<=t
 ·have hE:insE p c t x=8:=by simp [insE,inT];omega
  simp [jO,Prg.e,Xf.ce,Entry.ce,hE,z0,z1]
 obtain ⟨k,rfl⟩:∃k:Nat,t=k:=⟨t.toNat,by omega⟩;have hk:k<p.Xn.length:=by omega
 have hk1:k<c.rows.length:=by rw [v.rl];exact hk
 have hk2:k<c.Xr.length:=by rw [v.nl];exact hk
 have hi:=RG hk;have hkn:¬p.Xn.length<=k:=by omega
 have hrow:kT c (k:Int)=c.rows[k]:=EM hk1;have hnx:wR c (k:Int)=c.Xr[k]:=X9 hk2;have hsz:US p (k:Int)=p.Xn[k].size:=Tl hk;have hE:insE p c k x=if entE p k x≠0 then entE p k x else if (c.rows[k].any fun y=>sk y.entry x)=true then 7 else if p.Xn[k].size<=c.rows[k].length\/1073741824<=c.Xr[k] then 13 else 0:=by
  unfold insE;rw [hi,hrow,hnx,hsz];simp
 by_cases y:entE p k x=0
 rotate_left
 ·rw [aB y] at hE;simp [jO,Prg.e,Xf.ce,Entry.ce,hE,hkn,he,y]
 rw [QA (by simpa using y)] at hE;rw [y] at he;have hsl:=s.rs _ (Qd hk1);have htk:=qwo c.rows[k] x hsl.1 fun r hr=>(hsl.2 r hr).kl
 simp only [Entry.ce] at htk;cases w:c.rows[k].any fun y=>sk y.entry x with
 | true=>
  rw [aB w] at hE;rw [w] at htk;simp [jO,Prg.e,Xf.ce,cSe,Entry.ce,hE,hkn,hk1,he,htk]
 | false=>
 rw [QA (by rw [w];decide)] at hE;rw [w] at htk;by_cases u:p.Xn[k].size<=c.rows[k].length
 ·rw [aB (.inl u)] at hE;simp [jO,Prg.e,Xf.ce,cSe,Tbl.e,Entry.ce,hE,hk,hkn,hk1,he,htk,u]
 by_cases q:1073741824<=c.Xr[k]
 ·rw [aB (.inr q)] at hE;simp [jO,Prg.e,Xf.ce,cSe,cIe,Tbl.e,Entry.ce,hE,hk,hkn,hk1,hk2,he,htk,u,q]
 rw [QA (by omega)] at hE;have hvt:=v.at hk;have hrp:=Sj c k (c.rows[k]++[⟨c.Xr[k],x⟩]) (c.Xr[k]+1) hk1 (by rw [v.nl,v.rl]) (by have:=s.rl;omega);have hw:IntKind.wrap .i64 (c.Xr[k]+1)=c.Xr[k]+1:=bJ (by have:=hvt.nx0;omega) (by omega);have hci:insC c (k:Int) x=⟨c.rows.set k (c.rows[k]++[⟨c.Xr[k],x⟩]),c.Xr.set k (c.Xr[k]+1),c.Xq,c.Xm⟩:=by
  unfold insC;rw [hrow,hnx];simp
 rw [hE,aB rfl,aB rfl,hci,hnx];generalize hR:Xf.c ⟨c.rows.set k (c.rows[k]++[⟨c.Xr[k],x⟩]),c.Xr.set k (c.Xr[k]+1),c.Xq,c.Xm⟩=R at hrp ⊢;have hRl:R.length=4:=by rw [<- hR];simp
 obtain ⟨r0,r1,r2,r3,rfl⟩:∃r0 r1 r2 r3,R=[r0,r1,r2,r3]:=by
  match R,hRl with
  | [r0,r1,r2,r3],_=>exact ⟨_,_,_,_,rfl⟩
 have hs0:∀H:AH,snap 38 H r0=some r0/\snap 38 H r1=some r1/\snap 38 H r2=some r2/\snap 38 H r3=some r3:=by
  intro H;rw [Xf.ce] at hR;cases hR;simp
 have hal:kS 5 (c.rows[k].map Rw.c)=true:=sK 5 Rw.c _ fun x=>by simp
 have hls:=v.small _ (Qd hk1);have b1:c.rows[k].length*72<=70368744177664:=by omega
 have b2:(c.rows[k].length+1)*72<=70368744177664:=by omega
 simp only [Xf.ce,u7,u9,QB,Rw.ce] at hrp;simp [jO,Prg.e,Xf.ce,cSe,cIe,Tbl.e,Entry.ce,hk,hkn,hk1,hk2,he,htk,u,q,hal,b1,b2,hw,hrp,hs0]
end
section
variable {p:Prg} (f:PrgS p) (hv:∀t∈p.Xn,∀v∈t.Yc.args,ok32 0 v) {c:Xf} (v:CfgV p c) (s:CfgT c) (t:Int)
include f hv v s
theorem qrz (x:Xb) (hx:x.args.length<2^40) (hr:∀v∈x.args,ok32 0 v):a9 Φ vZ [.agg (Prg.c p),.agg (Xf.c c),a8 t,.agg (Xb.c x)]=
  some (.val (.tup [.agg (Xf.c (if defE p t x=0 then defC c t x else c)),a8 (defE p t x)])):=by
 rw [aA rfl rfl];have hc:=Uy p f hv t x hx hr;simp only [Prg.e,Xb.ce] at hc;by_cases z0:t<0
 ·have hE:defE p t x=8:=by simp [defE,inT];omega
  simp [q9,Prg.e,Xf.ce,Xb.ce,hE,z0]
 by_cases z1:(p.Xn.length:Int)<=t
 ·have hE:defE p t x=8:=by simp [defE,inT];omega
  simp [q9,Prg.e,Xf.ce,Xb.ce,hE,z0,z1]
 obtain ⟨k,rfl⟩:∃k:Nat,t=k:=⟨t.toNat,by omega⟩;have hk:k<p.Xn.length:=by omega
 have hkn:¬p.Xn.length<=k:=by omega
 have hk1:k<c.Xq.length:=by rw [v.dl];exact hk
 have hE:defE p k x=fD p k x:=by simp [defE,RG hk]
 by_cases q:fD p k x=0
 rotate_left
 ·simp [q9,Prg.e,Xf.ce,Xb.ce,hE,hkn,hc,q]
 have hal:kS 2 (c.Xq.map Xb.c)=true:=sK 2 Xb.c _ fun x=>by simp
 have hne:¬c.Xq=[]:=by intro e;rw [e] at hk1;simp at hk1
 have hdl:=s.dl;have b1:c.Xq.length*32<=70368744177664:=by omega
 have hci:defC c (k:Int) x=⟨c.rows,c.Xr,c.Xq.set k x,c.Xm⟩:=by simp [defC]
 rw [q] at hc;rw [hE,q,aB rfl,hci];have hset:∀H,mapO (mapO (snap 37 H)) (((c.Xq.map Xb.c).set k [a8 x.Xz,.slice 1 (x.args.map c32)]).take c.Xq.length)=some ((c.Xq.map Xb.c).set k [a8 x.Xz,.slice 1 (x.args.map c32)]):=by
  intro H;rw [Qo (by simp),<- Xb.ce,<- QG];exact HI (n:=37) (H:=H) (fun x=>qwh x) _
 simp [q9,Prg.e,Xf.ce,Xb.ce,hkn,hc,hal,hne,b1,hk1,hset]
theorem qz6 (id:Int):a9 Φ vY [.agg (Prg.c p),.agg (Xf.c c),a8 t,a8 id]=
  some (.val (.tup [.agg (Xf.c (if delE p c t id=0 then delC c t id else c)),a8 (delE p c t id)])):=by
 have _:=f;have _:=hv;rw [aA rfl rfl];by_cases z0:t<0
 ·have hE:delE p c t id=8:=by simp [delE,inT];omega
  simp [q8,Prg.e,Xf.ce,hE,z0]
 by_cases z1:(p.Xn.length:Int)<=t
 ·have hE:delE p c t id=8:=by simp [delE,inT];omega
  simp [q8,Prg.e,Xf.ce,hE,z0,z1]
 obtain ⟨k,rfl⟩:∃k:Nat,t=k:=⟨t.toNat,by omega⟩;have hk:k<p.Xn.length:=by omega
 have hkn:¬p.Xn.length<=k:=by omega
 have hk1:k<c.rows.length:=by rw [v.rl];exact hk
 have hk2:k<c.Xr.length:=by rw [v.nl];exact hk
 have hrow:kT c (k:Int)=c.rows[k]:=EM hk1;have hls:=v.small _ (Qd hk1);have hix:=qqt c.rows[k] id (by omega);cases hx:rIdx c.rows[k] id with
 | none=>
  have hE:delE p c k id=8:=by simp [delE,RG hk,hrow,hx]
  rw [qvq hx] at hix;simp [q8,Prg.e,Xf.ce,cSe,hE,hkn,hk1,hix]
 | some i=>
  obtain ⟨hi,hid⟩:=U1 hx;have hE:delE p c k id=0:=by simp [delE,RG hk,hrow,hx]
  rw [qvr hx] at hix;have hci:delC c (k:Int) id=⟨c.rows.set k (c.rows[k].eraseIdx i),c.Xr.set k c.Xr[k],c.Xq,c.Xm⟩:=by
   unfold delC;rw [hrow,hx];simp
  have hrp:=Sj c k (c.rows[k].eraseIdx i) c.Xr[k] hk1 (by rw [v.nl,v.rl]) (by have:=s.rl;omega);rw [hE,aB rfl,hci];generalize hR:Xf.c ⟨c.rows.set k (c.rows[k].eraseIdx i),c.Xr.set k c.Xr[k],c.Xq,c.Xm⟩=R at hrp ⊢;have hRl:R.length=4:=by rw [<- hR];simp
  obtain ⟨r0,r1,r2,r3,rfl⟩:∃r0 r1 r2 r3,R=[r0,r1,r2,r3]:=by
   match R,hRl with
   | [r0,r1,r2,r3],_=>exact ⟨_,_,_,_,rfl⟩
  have hs0:∀H:AH,snap 38 H r0=some r0/\snap 38 H r1=some r1/\snap 38 H r2=some r2/\snap 38 H r3=some r3:=by
   intro H;rw [Xf.ce] at hR;cases hR;simp
  have a1:i<=c.rows[k].length:=by omega
  have a2:(i:Int)+1<=(c.rows[k].length:Int):=by omega
  have a3:(0:Int)<=(i:Int)+1:=by omega
  have a4:i+1<=c.rows[k].length:=by omega
  have a5:min i c.rows[k].length=i:=by omega
  have hw:IntKind.wrap .i64 ((i:Int)+1)=(i:Int)+1:=bJ (by omega) (by omega);have hneg:¬(i:Int)<0:=by omega
  have t1:kS 5 ((c.rows[k].map Rw.c).take i)=true:=by rw [<- pK];exact sK 5 Rw.c _ fun x=>by simp
  have t2:kS 5 ((c.rows[k].map Rw.c).drop (i+1))=true:=by rw [<- GG];exact sK 5 Rw.c _ fun x=>by simp
  have htk:((c.rows[k].map Rw.c).drop (i+1)).take (c.rows[k].length - (i+1))=(c.rows[k].map Rw.c).drop (i+1):=Qo (by simp);have b1:i*72<=70368744177664:=by omega
  have b2:(i+(c.rows[k].length - (i+1)))*72<=70368744177664:=by omega
  have b3:(c.rows[k].length - (i+1))+(i+1)=c.rows[k].length:=by omega
  rw [List.eraseIdx_eq_take_drop_succ,u7,pK,GG] at hrp;simp only [Xf.ce] at hrp;simp [q8,Prg.e,Xf.ce,cSe,cIe,hkn,hk1,hk2,hix,hneg,a1,a2,a3,a5,hw,htk,t1,t2,b1,b2,hrp,hs0]
end
theorem qz8 (f:PrgS p) (hv:∀t∈p.Xn,∀v∈t.Yc.args,ok32 0 v) (v:CfgV p c) (s:CfgT c) (t id:Int) (x:Xb) (hxl:x.args.length<2^40) (hr:∀v∈x.args,ok32 0 v):
  a9 Φ rJ [.agg (Prg.c p),.agg (Xf.c c),a8 t,a8 id,.agg (Xb.c x)]=
  some (.val (.tup [.agg (Xf.c (if modE p c t id x=0 then modC c t id x else c)),a8 (modE p c t id x)])):=by
 rw [aA rfl rfl];have hc:=Uy p f hv t x hxl hr;simp only [Prg.e,Xb.ce] at hc;by_cases z0:t<0
 ·have hE:modE p c t id x=8:=by simp [modE,inT];omega
  simp [n9,Prg.e,Xf.ce,Xb.ce,hE,z0]
 by_cases z1:(p.Xn.length:Int)<=t
 ·have hE:modE p c t id x=8:=by simp [modE,inT];omega
  simp [n9,Prg.e,Xf.ce,Xb.ce,hE,z0,z1]
 obtain ⟨k,rfl⟩:∃k:Nat,t=k:=⟨t.toNat,by omega⟩;have hk:k<p.Xn.length:=by omega
 have hkn:¬p.Xn.length<=k:=by omega
 have hk1:k<c.rows.length:=by rw [v.rl];exact hk
 have hk2:k<c.Xr.length:=by rw [v.nl];exact hk
 have hrow:kT c (k:Int)=c.rows[k]:=EM hk1;have hls:=v.small _ (Qd hk1);have hix:=qqt c.rows[k] id (by omega);cases hx:rIdx c.rows[k] id with
 | none=>
  have hE:modE p c k id x=8:=by simp [modE,RG hk,hrow,hx]
  rw [qvq hx] at hix;simp [n9,Prg.e,Xf.ce,cSe,Xb.ce,hE,hkn,hk1,hix]
 | some i=>
  obtain ⟨hi,hid⟩:=U1 hx;have hE:modE p c k id x=fD p k x:=by simp [modE,RG hk,hrow,hx]
  rw [qvr hx] at hix;have hneg:¬(i:Int)<0:=by omega
  by_cases q:fD p k x=0
  rotate_left
  ·simp [n9,Prg.e,Xf.ce,cSe,Xb.ce,hE,hkn,hk1,hix,hneg,hc,q]
  have hci:modC c (k:Int) id x=⟨c.rows.set k (c.rows[k].modify i (jU x)),c.Xr.set k c.Xr[k],c.Xq,c.Xm⟩:=by
   unfold modC;rw [hrow,hx];simp
  have hrp:=Sj c k (c.rows[k].modify i (jU x)) c.Xr[k] hk1 (by rw [v.nl,v.rl]) (by have:=s.rl;omega);rw [hE,q,aB rfl,hci];rw [q] at hc;generalize hR:Xf.c ⟨c.rows.set k (c.rows[k].modify i (jU x)),c.Xr.set k c.Xr[k],c.Xq,c.Xm⟩=R at hrp ⊢;have hRl:R.length=4:=by rw [<- hR];simp
  obtain ⟨r0,r1,r2,r3,rfl⟩:∃r0 r1 r2 r3,R=[r0,r1,r2,r3]:=by
   match R,hRl with
   | [r0,r1,r2,r3],_=>exact ⟨_,_,_,_,rfl⟩
  have hs0:∀H:AH,snap 38 H r0=some r0/\snap 38 H r1=some r1/\snap 38 H r2=some r2/\snap 38 H r3=some r3:=by
   intro H;rw [Xf.ce] at hR;cases hR;simp
  have hal:kS 5 (c.rows[k].map Rw.c)=true:=sK 5 Rw.c _ fun x=>by simp
  have hne:¬c.rows[k]=[]:=by intro e;rw [e] at hi;simp at hi
  have b1:c.rows[k].length*72<=70368744177664:=by omega
  have hlist:(c.rows[k].map Rw.c).set i [a8 c.rows[k][i].id,.slice 2 (c.rows[k][i].entry.keys.map Xi.c),a8 c.rows[k][i].entry.Xt,a8 x.Xz,.slice 1 (x.args.map c32)]=(c.rows[k].modify i (jU x)).map Rw.c:=by
   refine List.ext_getElem (by simp) fun j h1 h2=>?_
   rw [List.getElem_set,WY,WY,Q7];split
   ·rename_i e;subst e;simp [Rw.ce,jU]
   ·simp
  have t1:∀H,mapO (mapO (snap 39 H)) (c.rows[k].map Rw.c)=some (c.rows[k].map Rw.c):=fun H=>HI (n:=39) (H:=H) (fun x=>YS x) _
  have hns:anyL (bor 40) ((c.rows[k].modify i (jU x)).map Rw.c).flatten=false:=by
   have:∀l:List Rw,anyL (bor 40) (l.map Rw.c).flatten=false:=by
    intro l
    induction l with
    | nil=>rfl
    | cons a l ih=>
     have ha:∀(xs ys:List AV),anyL (bor 40) xs=false->anyL (bor 40) ys=false->anyL (bor 40) (xs++ys)=false:=by
      intro xs ys
      induction xs with
      | nil=>intro _ h;exact h
      | cons b xs ih2=>
       intro h1 h2;simp only [jM,anyL,GE] at h1 ⊢;exact ⟨h1.1,ih2 h1.2 h2⟩
     simp only [u9,WU];exact ha _ _ (by simp [Rw.ce]) ih
   exact this _
  have t2:∀H,mapO (mapO (snap 40 H)) ((c.rows[k].modify i (jU x)).map Rw.c)=some ((c.rows[k].modify i (jU x)).map Rw.c):=fun H=>HI (n:=40) (H:=H) (fun x=>YS x) _
  have t3:((c.rows[k].modify i (jU x)).map Rw.c).take c.rows[k].length=(c.rows[k].modify i (jU x)).map Rw.c:=Qo (by simp);have t4:(c.rows[k].map Rw.c).take c.rows[k].length=c.rows[k].map Rw.c:=Qo (by simp);simp only [Xf.ce] at hrp;generalize hml:(c.rows[k].modify i (jU x)).map Rw.c=ml at hlist hrp hns t2 t3;have hmll:ml.length=c.rows[k].length:=by rw [<- hml];simp
  simp [n9,Prg.e,Xf.ce,cSe,cIe,Xb.ce,hkn,hk1,hk2,hix,hneg,hc,hal,hne,b1,hi,Rw.ce,hlist,EP,zR,hns,t1,t2,t3,t4,hmll,hrp,hs0]
theorem Xc.ce2 (x:Xc):Xc.c x=[a8 x.kind,a8 x.table,a8 x.id,.slice 2 (x.entry.keys.map Xi.c),a8 x.entry.Xt,a8 x.entry.call.Xz,.slice 1 (x.entry.call.args.map c32),a8 x.call.Xz,.slice 1 (x.call.args.map c32)]:=by simp [Xc.c]
theorem cfg4 (c:Xf):∃r0 r1 r2 r3,Xf.c c=[r0,r1,r2,r3]/\(∀(H:AH),(snap 37 H r0=some r0/\snap 37 H r1=some r1/\snap 37 H r2=some r2/\snap 37 H r3=some r3)/\(snap 38 H r0=some r0/\snap 38 H r1=some r1/\snap 38 H r2=some r2/\snap 38 H r3=some r3)/\(snap 39 H r0=some r0/\snap 39 H r1=some r1/\snap 39 H r2=some r2/\snap 39 H r3=some r3)/\(snap 40 H r0=some r0/\snap 40 H r1=some r1/\snap 40 H r2=some r2/\snap 40 H r3=some r3))/\(bor 37 r0=false/\bor 37 r1=false/\bor 37 r2=false/\bor 37 r3=false)/\(bor 38 r0=false/\bor 38 r1=false/\bor 38 r2=false/\bor 38 r3=false)/\(bor 39 r0=false/\bor 39 r1=false/\bor 39 r2=false/\bor 39 r3=false)/\(bor 40 r0=false/\bor 40 r1=false/\bor 40 r2=false/\bor 40 r3=false):=by
 refine ⟨_,_,_,_,Xf.ce c,fun H=>⟨?_,?_,?_,?_⟩,?_,?_,?_,?_⟩<;>simp
theorem Fw (f:PrgS p) (hv:∀t∈p.Xn,∀v∈t.Yc.args,ok32 0 v) (v:CfgV p c) (s:CfgT c) (o:Xc) (ho:OpS o):
  a9 Φ CW [.agg (Prg.c p),.agg (Xf.c c),.agg (Xc.c o)]=some (.val (.tup [.agg (Xf.c (xoC p c o)),a8 (xoI p c o),a8 (xoE p c o)])):=by
 rw [aA rfl rfl];obtain ⟨r0,r1,r2,r3,hR,hs,hs2⟩:=cfg4 (xoC p c o);obtain ⟨q0,q1,q2,q3,hC,hq,hq2⟩:=cfg4 c;by_cases z1:o.kind=1
 ·have h:=qz7 f hv v s o.table o.entry ho.e;have e1:xoE p c o=insE p c o.table o.entry:=by simp [xoE,z1]
  have e2:(if insE p c o.table o.entry=0 then insC c o.table o.entry else c)=xoC p c o:=by simp [xoC,e1,xoD,z1]
  have e3:(if insE p c o.table o.entry=0 then wR c o.table else 0)=xoI p c o:=by simp [xoI,e1,z1]
  rw [e2,e3,<- e1] at h;rw [hR,hC] at h ⊢;simp only [Prg.e,Entry.ce] at h;simp [n7,Prg.e,Xc.ce2,z1,h,hs,hq,hq2]
 by_cases z2:o.kind=2
 ·have h:=qz8 f hv v s o.table o.id o.call ho.c.al ho.c.ar;have e1:xoE p c o=modE p c o.table o.id o.call:=by simp [xoE,z2]
  have e2:(if modE p c o.table o.id o.call=0 then modC c o.table o.id o.call else c)=xoC p c o:=by simp [xoC,e1,xoD,z2]
  have e3:xoI p c o=0:=by simp [xoI,z1]
  rw [e2,<- e1] at h;rw [e3,hR,hC] at*;simp only [Prg.e,Xb.ce] at h;simp [n7,Prg.e,Xc.ce2,z2,h,hs,hs2,hq,hq2]
 by_cases z3:o.kind=3
 ·have h:=qz6 f hv v s o.table o.id;have e1:xoE p c o=delE p c o.table o.id:=by simp [xoE,z3]
  have e2:(if delE p c o.table o.id=0 then delC c o.table o.id else c)=xoC p c o:=by simp [xoC,e1,xoD,z3]
  have e3:xoI p c o=0:=by simp [xoI,z1]
  rw [e2,<- e1] at h;rw [e3,hR,hC] at*;simp only [Prg.e] at h;simp [n7,Prg.e,Xc.ce2,z3,h,hs,hs2,hq,hq2]
 by_cases z4:o.kind=4
 ·have h:=qrz f hv v s o.table o.call ho.c.al ho.c.ar;have e1:xoE p c o=defE p o.table o.call:=by simp [xoE,z4]
  have e2:(if defE p o.table o.call=0 then defC c o.table o.call else c)=xoC p c o:=by simp [xoC,e1,xoD,z4]
  have e3:xoI p c o=0:=by simp [xoI,z1]
  rw [e2,<- e1] at h;rw [e3,hR,hC] at*;simp only [Prg.e,Xb.ce] at h;simp [n7,Prg.e,Xc.ce2,z4,h,hs,hs2,hq,hq2]
 ·have e1:xoE p c o=11:=by simp [xoE,z1,z2,z3,z4]
  have e2:xoC p c o=c:=by simp [xoC,e1]
  have e3:xoI p c o=0:=by simp [xoI,z1]
  rw [e1,e2,e3,hC];simp [n7,Prg.e,Xc.ce2,z1,z2,z3,z4,hq,hq2]
def cfgN (p:Prg) (c:Xf) (l:List Xc) (i:Nat):Xf:=xoF p c (l.take i)
def idN (p:Prg) (c:Xf) (l:List Xc) (i:Nat):Int:=match l[i]? with
 | some o=>xoI p (cfgN p c l i) o
 | none=>0
def badF (p:Prg):Xf->List Xc->Nat->Option (Nat×Int)
 | _,[],_=>none
 | c,o::l,i=>if xoE p c o=0 then badF p (xoC p c o) l (i+1) else some (i,xoE p c o)
theorem U7 (p:Prg) (c:Xf) (l:List Xc):cfgN p c l 0=c:=by simp [cfgN,xoF]
theorem U6 (p:Prg) (c:Xf) (l:List Xc) (h:i<l.length):cfgN p c l (i+1)=xoC p (cfgN p c l i) l[i]:=by
 simp only [cfgN,xoF,Qh h,List.foldl_append,List.foldl_cons,List.foldl_nil]
theorem UK {p:Prg} {c:Xf} (v:CfgV p c) (s:CfgT c) (hp:p.Xn.length<2^40) (l:List Xc) (hl:∀o∈l,OpS o):∀i,CfgV p (cfgN p c l i)/\CfgT (cfgN p c l i)
 | 0=>by rw [U7];exact ⟨v,s⟩
 | i+1=>by
  have ih:=UK v s hp l hl i;by_cases h:i<l.length
  ·rw [U6 p c l h];exact ⟨TM ih.1 _,xoC_t ih.1 ih.2 hp _ (hl _ (Qd h))⟩
  ·have:cfgN p c l (i+1)=cfgN p c l i:=by
    unfold cfgN;rw [Qo (by omega),Qo (by omega)]
   rw [this];exact ih
def RW (p:Prg) (c:Xf) (l:List Xc) (i:Nat):List AV:=[.slice 4 ((List.range (i+1)).map fun j=>Xf.c (cfgN p c l j)),.slice 1 ((List.range i).map fun j=>cI (idN p c l j))]
def noH:List AV:=[.slice 4 [],.slice 1 []]
def RX (p:Prg) (c:Xf) (l:List Xc) (i:Nat):List AV:=[.Xu 4 ((List.range (i+1)).map fun j=>Xf.c (cfgN p c l j)),.Xu 1 ((List.range i).map fun j=>cI (idN p c l j))]
def runA (p:Prg) (c:Xf) (l:List Xc):Rt:=
 if cfgE p c≠0 then .val (.tup [.agg noH,a8 (-1),a8 (cfgE p c)])
 else if 64<l.length then .val (.tup [.agg noH,a8 (-1),a8 12])
 else match badF p c l 0 with
  | some (k,e)=> .val (.tup [.agg noH,.int .i64 k,.int .i64 e])
  | none=> .val (.tup [.agg (RW p c l l.length),.int .i64 0,.int .i64 0])
theorem Mg (p:Prg) (f:PrgS p) (hv:∀t∈p.Xn,∀v∈t.Yc.args,ok32 0 v) (hc:(pre p.Yb).length<2^40 - 1) (hp:p.Xn.length<2^40) (s:CfgT c) (l:List Xc) (hll:l.length<2^40) (hl:∀o∈l,OpS o):
  a9 Φ C4 [.agg (Prg.c p),.agg (Xf.c c),.slice 9 (l.map Xc.c)]=some (runA p c l):=by
 rw [aA rfl rfl];have hk:=Fm p f hv hc c s;obtain ⟨q0,q1,q2,q3,hC,hq,hq2⟩:=cfg4 c;by_cases z:cfgE p c=0
 case neg=>
  have hR:runA p c l= .val (.tup [.agg noH,a8 (-1),a8 (cfgE p c)]):=by simp [runA,z]
  rw [hR];rw [hC] at hk ⊢;simp only [Prg.e] at hk;simp [uB,Prg.e,hk,hq,hq2,z,noH]
 have v:=(QV p c).1 z;by_cases z2:64<l.length
 ·have hR:runA p c l= .val (.tup [.agg noH,a8 (-1),a8 12]):=by simp [runA,z,z2]
  rw [hR];rw [hC] at hk ⊢;have z3:(64:Int)<(l.length:Int):=by omega
  simp only [Prg.e] at hk;simp [uB,Prg.e,hk,hq,hq2,z,z3,noH]
 generalize hR:runA p c l=R;have z3:¬(64:Int)<(l.length:Int):=by omega
 rw [hC] at hk ⊢;simp only [Prg.e] at hk;simp [uB,Prg.e,hk,hq,hq2,z,z3];have h0:RX p c l 0=[.Xu 4 [[q0,q1,q2,q3]],.Xu 1 []]:=by simp [RX,U7,hC]
 rw [<- h0];refine tC l.length (fun i e h=>(∃n,2<=n/\((h=⟨[(0,.row 2 [[.Xu 4 [],.Xu 1 []]]),(1,.row 2 [RX p c l i])],n⟩)\/∃A B,2<=A/\A<B/\B<n/\h=⟨[(0,.row 2 [[.Xu 4 [],.Xu 1 []]]),(1,.row 2 [[.app 4 ((List.range (i+1)).map fun j=>Xf.c (cfgN p c l j)) A,.app 1 ((List.range i).map fun j=>cI (idN p c l j)) B]]),(A,.tok 4 (i+1)),(B,.tok 1 i)],n⟩))/\badF p c l 0=badF p (cfgN p c l i) (l.drop i) i/\look 2 e=some (.slice 9 (l.map Xc.c))/\look 3 e=some (.iptr 9 [Prg.c p] 0 0)/\look 6 e=some (.ptr 0 2 0 0)/\look 10 e=some (.ptr 1 2 0 0)/\look 11 e=some (a8 i)) (fun _=>some R) ?_ ?_ 0 _ _ (Qc _) ?_
 ·rintro i e h L hi hL ⟨⟨n,hn,hh⟩,hb,e2,e3,e6,e10,e11⟩ ih;obtain ⟨vi,si⟩:=UK v s hp l hl i;have hx:=Fw f hv vi si l[i] (hl _ (Qd hi));obtain ⟨r0,r1,r2,r3,hD,hr,hr2⟩:=cfg4 (cfgN p c l i);obtain ⟨s0,s1,s2,s3,hE,hs,hs2⟩:=cfg4 (xoC p (cfgN p c l i) l[i]);rw [hD,hE] at hx;have h1:(i:Int)<(i:Int)+1:=by omega
  have hw:=aL i (by omega);have hm:(List.map (fun j=>Xf.c (cfgN p c l j)) (List.range (i+1)))[i]? =some [r0,r1,r2,r3]:=by simp [hD]
  have t0:∀k,¬(n+k=0):=fun k=>by omega
  have t1:∀k,¬(n+k=1):=fun k=>by omega
  have t2:¬n=0:=by omega
  have t3:¬n=1:=by omega
  have hb2:badF p (cfgN p c l i) (l.drop i) i=if xoE p (cfgN p c l i) l[i]=0 then badF p (xoC p (cfgN p c l i) l[i]) (l.drop (i+1)) (i+1) else some (i,xoE p (cfgN p c l i) l[i]):=by
   rw [Qi hi,badF]
  rw [hb2] at hb;generalize hml:List.map (fun j=>Xf.c (cfgN p c l j)) (List.range (i+1))=ml at hm;have hmi:i<ml.length:=by rw [<- hml];simp
  have hlen:ml.length=i+1:=by rw [<- hml];simp
  have h96:(i+1+1)*96<=70368744177664:=by omega
  have h8:(i+1)*8<=70368744177664:=by omega
  generalize hil:List.map (fun j=>cI (idN p c l j)) (List.range i)=il;have hill:il.length=i:=by rw [<- hil];simp
  have hm':ml[i]=[r0,r1,r2,r3]:=by rw [Qa hmi] at hm;exact Option.some.inj hm
  simp only [Prg.e,Xc.ce2] at hx;by_cases zi:xoE p (cfgN p c l i) l[i]=0
  ·rw [aB zi,<- U6 p c l hi] at hb;rw [zi] at hx;have hr1:List.map (fun j=>Xf.c (cfgN p c l j)) (List.range (i+1+1))=ml++[[s0,s1,s2,s3]]:=by
    rw [List.range_succ,u7,hml,QD,U6 p c l hi,hE]
   have hr2':List.map (fun j=>cI (idN p c l j)) (List.range (i+1))=il++[[a8 (xoI p (cfgN p c l i) l[i])]]:=by
    rw [List.range_succ,u7,hil,QD];simp [idN,hi,cI]
   rcases hh with rfl | ⟨A,B,hA,hAB,hBn,rfl⟩
   ·simp [c_139_l0,e2,e3,e10,e11,hi,RX,hml,hil,hill,hlen,h1,hm',Prg.e,hx,hr,hr2,hs,hs2,Xc.ce2,t2,hw,h96,h8];refine ih _ _ ⟨⟨n+12+1+1+1,by omega,.inr ⟨n+12+1,n+12+1+1,by omega,by omega,by omega,by rw [hr1,hr2']⟩⟩,hb,?_⟩;simp [e2,e3,e6,e10]
   ·have g0:¬A=0:=by omega
    have g1:¬A=1:=by omega
    have g2:¬B=0:=by omega
    have g3:¬B=1:=by omega
    have g4:¬B=A:=by omega
    have g5:∀k,¬(n+k=A):=fun k=>by omega
    have g6:∀k,¬(n+k=B):=fun k=>by omega
    have g7:¬n=A:=by omega
    have g8:¬n=B:=by omega
    have i0:¬0=A:=by omega
    have i1:¬1=A:=by omega
    have i2:¬0=B:=by omega
    have i3:¬1=B:=by omega
    have i4:¬A=B:=by omega
    have g9:∀k,¬(A=n+k):=fun k=>by omega
    have g10:∀k,¬(B=n+k):=fun k=>by omega
    simp [c_139_l0,e2,e3,e10,e11,hi,hml,hil,hill,hlen,h1,hm',Prg.e,hx,hr,hr2,hs,hs2,Xc.ce2,t2,hw,h96,h8,g9,g10,i0,i1,i2,i3,i4];refine ih _ _ ⟨⟨n+12+1,by omega,.inr ⟨A,B,hA,hAB,by omega,by rw [hr1,hr2']⟩⟩,hb,?_⟩;simp [e2,e3,e6,e10]
  ·rw [QA zi] at hb;have hR':R= .val (.tup [.agg noH,a8 i,a8 (xoE p (cfgN p c l i) l[i])]):=by
    rw [<- hR];simp [runA,z,z2,hb]
   rw [hR'];rcases hh with rfl | ⟨A,B,hA,hAB,hBn,rfl⟩
   ·simp [c_139_l0,e2,e3,e6,e10,e11,hi,RX,hml,hil,hlen,h1,hm',Prg.e,hx,hr,hr2,hs,hs2,Xc.ce2,zi,t2,noH]
   ·have g0:¬A=0:=by omega
    have g1:¬A=1:=by omega
    have g2:¬B=0:=by omega
    have g3:¬B=1:=by omega
    have g4:¬B=A:=by omega
    have g5:∀k,¬(n+k=A):=fun k=>by omega
    have g6:∀k,¬(n+k=B):=fun k=>by omega
    have g7:¬n=A:=by omega
    have g8:¬n=B:=by omega
    have i0:¬0=A:=by omega
    have i1:¬1=A:=by omega
    have i2:¬0=B:=by omega
    have i3:¬1=B:=by omega
    have i4:¬A=B:=by omega
    have g9:∀k,¬(A=n+k):=fun k=>by omega
    have g10:∀k,¬(B=n+k):=fun k=>by omega
    simp [c_139_l0,e2,e3,e6,e10,e11,hi,hml,hil,hlen,h1,hm',Prg.e,hx,hr,hr2,hs,hs2,Xc.ce2,zi,t2,noH,g9,g10]
 ·rintro e h L hL ⟨⟨n,hn,hh⟩,hb,e2,e3,e6,e10,e11⟩;have hR':R= .val (.tup [.agg (RW p c l l.length),a8 0,a8 0]):=by
   rw [<- hR];simp [runA,z,z2,hb,badF]
  rw [hR'];rcases hh with rfl | ⟨A,B,hA,hAB,hBn,rfl⟩
  ·simp [c_139_l0,c_139_k1,e2,e6,e10,e11,hL,RX,RW]
  ·simp [c_139_l0,c_139_k1,e2,e6,e10,e11,hL,RW]
 ·refine ⟨⟨2,Qb _,.inl rfl⟩,?_⟩;simp [U7,Prg.e]
def noC:List AV:=[.slice 1 [],.slice 1 [],.slice 2 [],.slice 1 []]
def badA (p:Prg) (c:Xf) (l:List Xc):Option (Int×Int):=
 if cfgE p c≠0 then some (-1,cfgE p c) else if 64<l.length then some (-1,12) else (badF p c l 0).map fun x=>((x.1:Int),x.2)
def appA (p:Prg) (c:Xf) (l:List Xc):AV:=match badA p c l with
 | some (k,e)=> .tup [.agg noC,.slice 1 [],.int .i64 k,.int .i64 e]
 | none=> .tup [.agg (Xf.c (cfgN p c l l.length)),.slice 1 ((List.range l.length).map fun j=>cI (idN p c l j)),.int .i64 0,.int .i64 0]
variable {l:List Xc} {k:Int}
theorem Gn {e:Int} (h:badA p c l=some (k,e)):runA p c l= .val (.tup [.agg noH,a8 k,a8 e]):=by
 unfold badA at h;unfold runA;by_cases z:cfgE p c=0
 case neg=>simp only [ne_eq,z,not_false_eq_true,if_true,Option.some.injEq,Prod.mk.injEq] at h ⊢;rw [<- h.1,<- h.2]
 by_cases z2:64<l.length
 ·simp only [ne_eq,z,not_true,if_false,z2,if_true,Option.some.injEq,Prod.mk.injEq] at h ⊢;rw [<- h.1,<- h.2]
 ·simp only [ne_eq,z,not_true,if_false,z2] at h ⊢;cases hb:badF p c l 0 with
  | none=>simp [hb] at h
  | some x=>simp only [hb,A6,Option.some.injEq,Prod.mk.injEq] at h;obtain ⟨h1,h2⟩:=h;subst h1;subst h2;rfl
theorem Cq (h:badA p c l=none):runA p c l= .val (.tup [.agg (RW p c l l.length),a8 0,a8 0]):=by
 unfold badA at h;unfold runA;by_cases z:cfgE p c=0
 case neg=>simp [z] at h
 by_cases z2:64<l.length
 ·simp [z,z2] at h
 ·simp only [ne_eq,z,not_true,if_false,z2] at h ⊢;cases hb:badF p c l 0 with
  | none=>rfl
  | some x=>simp [hb] at h
theorem Vt {p:Prg} {k:Nat} {e:Int}:∀{l:List Xc} {c:Xf} {i:Nat},badF p c l i=some (k,e)->e≠0
 | [],_,_,h=>by simp [badF] at h
 | o::l,c,i,h=>by
  unfold badF at h;by_cases z:xoE p c o=0
  ·rw [aB z] at h;exact Vt h
  ·rw [QA z] at h;simp only [Option.some.injEq,Prod.mk.injEq] at h;rw [<- h.2];exact z
theorem LX {e:Int} (h:badA p c l=some (k,e)):e≠0:=by
 unfold badA at h;by_cases z:cfgE p c=0
 case neg=>simp only [ne_eq,z,not_false_eq_true,if_true,Option.some.injEq,Prod.mk.injEq] at h;rw [<- h.2];exact z
 by_cases z2:64<l.length
 ·simp only [ne_eq,z,not_true,if_false,z2,if_true,Option.some.injEq,Prod.mk.injEq] at h;rw [<- h.2];decide
 ·simp only [ne_eq,z,not_true,if_false,z2] at h;cases hb:badF p c l 0 with
  | none=>simp [hb] at h
  | some x=>simp only [hb,A6,Option.some.injEq,Prod.mk.injEq] at h;rw [<- h.2];exact Vt (k:=x.1) (e:=x.2) hb
theorem Bf (p:Prg) (f:PrgS p) (hv:∀t∈p.Xn,∀v∈t.Yc.args,ok32 0 v) (hc:(pre p.Yb).length<2^40 - 1) (hp:p.Xn.length<2^40) (s:CfgT c) (l:List Xc) (hll:l.length<2^40) (hl:∀o∈l,OpS o):
  a9 Φ NU [.agg (Prg.c p),.agg (Xf.c c),.slice 9 (l.map Xc.c)]=some (.val (appA p c l)):=by
 rw [aA rfl rfl];have hr:=Mg p f hv hc hp s l hll hl;obtain ⟨q0,q1,q2,q3,hC,hq,hq2⟩:=cfg4 c;cases hb:badA p c l with
 | some x=>
  obtain ⟨k,e⟩:=x;have he:=LX hb;rw [Gn hb] at hr;rw [show appA p c l= .tup [.agg noC,.slice 1 [],a8 k,a8 e] by simp only [appA,hb]];rw [hC] at hr ⊢;simp only [Prg.e,noH] at hr;simp [MZ,Prg.e,hr,hq,hq2,he,noC]
 | none=>
  rw [Cq hb] at hr;rw [show appA p c l= .tup [.agg (Xf.c (cfgN p c l l.length)),.slice 1 ((List.range l.length).map fun j=>cI (idN p c l j)),a8 0,a8 0] by simp only [appA,hb]];obtain ⟨r0,r1,r2,r3,hD,hs,hs2⟩:=cfg4 (cfgN p c l l.length);rw [hC] at hr ⊢;rw [hD];have hm:(List.map (fun j=>Xf.c (cfgN p c l j)) (List.range (l.length+1)))[l.length]? =some [r0,r1,r2,r3]:=by simp [hD]
  simp only [RW] at hr;generalize hml:List.map (fun j=>Xf.c (cfgN p c l j)) (List.range (l.length+1))=ml at hm hr;have hmi:l.length<ml.length:=by rw [<- hml];simp
  have hm':ml[l.length]=[r0,r1,r2,r3]:=by rw [Qa hmi] at hm;exact Option.some.inj hm
  simp only [Prg.e] at hr;simp [MZ,Prg.e,hr,hq,hq2,hmi,hm',hs]
theorem MDpost.pre {N N1:Nat} {O O1:List (Nat×AO)} {S:SV} {p:Prg} {c:Xf} {v:AV} {r:Option (Rt×AH)} (hk:Kp (fun _=>False) N O O1) (hN:N<=N1) (h:MDpost N1 O1 S p c v r):MDpost N O S p c v r:=by
 obtain ⟨S',O',N',e,h1,h2,h3,h4,h5,h6⟩:=h;refine ⟨S',O',N',e,h1,h2,fun j hj=>(h3 j hj).imp id fun h=>by omega,?_,h5,by omega⟩;intro j hj hx;rw [h4 j (by omega) fun hc=>hx (hc.imp id fun hc=>?_)]
 ·exact hk j hj (by simp)
 ·show look j O=some .res;rw [<- hk j hj (by simp)];exact hc
variable {O:List (Nat×AO)} {N:Nat} {S:SV}
theorem qzj (m:StoreM O S p c) (f:PrgS p) (v:CfgV p c) (s:CfgT c) (hT:Tail O N) (o:Xc) (ho:OpS o):
  MDpost N O S p (xoC p c o) (.tup [a8 (xoI p c o),a8 (xoE p c o)]) (aN Φ GS [.ptr S.s 15 0 0,.agg (Xc.c o)] ⟨O,N⟩):=by
 rw [dW rfl rfl];have t0:=hT N (Qb _);have hk1:Kp (fun _=>False) N O (O++[(N,AO.row 9 [Xc.c o])]):=Kp.app (fun _ _ _=>rfl) (Qb _);have hT1:=hT.app1 (o:=AO.row 9 [Xc.c o]) (Qb N);have m1:StoreM (O++[(N,AO.row 9 [Xc.c o])]) S p c:=m.kp (X:=fun _=>False) hT (Kp.app (fun _ _ _=>rfl) (Qb _)) (by simp);have b1:look N (O++[(N,AO.row 9 [Xc.c o])])=some (.row 9 [Xc.c o]):=by rw [aV,t0];simp
 simp only [Xc.ce2] at b1 hk1 hT1 m1;by_cases z1:o.kind=1
 ·simp only [z1] at b1 hk1 hT1 m1;refine MDpost.pre hk1 (xT N) ?_;obtain ⟨S',O',N',e,h1,h2,h3,h4,h5,h6⟩:=ZK m1 f v s hT1 o.table o.entry ho.e;have e1:xoE p c o=insE p c o.table o.entry:=by simp [xoE,z1]
  have e2:(if insE p c o.table o.entry=0 then insC c o.table o.entry else c)=xoC p c o:=by simp [xoC,e1,xoD,z1]
  have e3:(if insE p c o.table o.entry=0 then wR c o.table else 0)=xoI p c o:=by simp [xoI,e1,z1]
  rw [e2] at h1;rw [e3,<- e1] at e;simp only [Entry.ce] at e;simp [xU,Xc.ce2,z1,b1,t0,e];exact ⟨S',O',N',rfl,h1,h2,h3,h4,h5,h6⟩
 by_cases z2:o.kind=2
 ·simp only [z2] at b1 hk1 hT1 m1;refine MDpost.pre hk1 (xT N) ?_;obtain ⟨S',O',N',e,h1,h2,h3,h4,h5,h6⟩:=ZL m1 f v.rl hT1 o.table o.id o.call ho.c.al;have e1:xoE p c o=modE p c o.table o.id o.call:=by simp [xoE,z2]
  have e2:(if modE p c o.table o.id o.call=0 then modC c o.table o.id o.call else c)=xoC p c o:=by simp [xoC,e1,xoD,z2]
  have e3:xoI p c o=0:=by simp [xoI,z2]
  rw [e2] at h1;rw [<- e1] at e;rw [e3];simp only [Xb.ce] at e;simp [xU,Xc.ce2,z2,b1,t0,e];exact ⟨S',O',N',rfl,h1,h2,h3,h4,h5,h6⟩
 by_cases z3:o.kind=3
 ·simp only [z3] at b1 hk1 hT1 m1;refine MDpost.pre hk1 (xT N) ?_;obtain ⟨S',O',N',e,h1,h2,h3,h4,h5,h6⟩:=ZJ m1 v hT1 o.table o.id;have e1:xoE p c o=delE p c o.table o.id:=by simp [xoE,z3]
  have e2:(if delE p c o.table o.id=0 then delC c o.table o.id else c)=xoC p c o:=by simp [xoC,e1,xoD,z3]
  have e3:xoI p c o=0:=by simp [xoI,z3]
  rw [e2] at h1;rw [<- e1] at e;rw [e3];simp [xU,Xc.ce2,z3,b1,t0,e];exact ⟨S',O',N',rfl,h1,h2,h3,h4,h5,h6⟩
 by_cases z4:o.kind=4
 ·simp only [z4] at b1 hk1 hT1 m1;refine MDpost.pre hk1 (xT N) ?_;obtain ⟨S',O',N',e,h1,h2,h3,h4,h5,h6⟩:=qti m1 f v.rl v.dl hT1 o.table o.call ho.c.al;have e1:xoE p c o=defE p o.table o.call:=by simp [xoE,z4]
  have e2:(if defE p o.table o.call=0 then defC c o.table o.call else c)=xoC p c o:=by simp [xoC,e1,xoD,z4]
  have e3:xoI p c o=0:=by simp [xoI,z4]
  rw [e2] at h1;rw [<- e1] at e;rw [e3];simp only [Xb.ce] at e;simp [xU,Xc.ce2,z4,b1,t0,e];exact ⟨S',O',N',rfl,h1,h2,h3,h4,h5,h6⟩
 ·have e1:xoE p c o=11:=by simp [xoE,z1,z2,z3,z4]
  have e2:xoC p c o=c:=by simp [xoC,e1]
  have e3:xoI p c o=0:=by simp [xoI,z1]
  rw [e1,e2,e3];refine MDpost.pre hk1 (xT N) ?_;simp [xU,Xc.ce2,z1,z2,z3,z4,b1,t0];exact ⟨S,_,_,rfl,m1,rfl,fun j hj=> .inl hj,Kp.refl,hT1,Qb _⟩
def Nd (N:Nat) (O:List (Nat×AO)) (p:Prg) (c:Xf) (r:Option (Rt×AH)):Prop:=
 ∃S O' N',r=some (.val (.ptr S.s 15 0 0),⟨O',N'⟩)/\StoreM O' S p c/\(∀j,S.own j->N<=j)/\Kp (Rs O) N O O'/\Tail O' N'/\N<=N'
theorem Bz (op:p.Ok fL) (m:StoreM O S p c) (v:CfgV p c) (s:CfgT c) (hT:Tail O N):
  Nd N O p c (aN Φ EI [.ptr S.s 15 0 0] ⟨O,N⟩):=by
 rw [dW rfl rfl];obtain ⟨S',O',N',e,h1,h2,h3,h4,h5⟩:=qyb p op c (v.u s) v.incs hT m.cm.re;have hs:=m.s;simp only [Prg.e] at e;simp [SU,SV.cells,Prg.e,hs,e];exact ⟨S',O',N',rfl,h1,h2,h3,h4,h5⟩
theorem Iz (m:StoreM O S p c) (hl:c.rows.length=p.Xn.length) (hT:Tail O N):
  aN Φ yF [.ptr S.s 15 0 0,a8 (-1),a8 0,.agg [a8 0,.Xu 1 []]] ⟨O,N⟩=some (.val (a8 8),⟨O++[(N,.row 2 [[a8 0,.Xu 1 []]])],N+1⟩):=by
 rw [dW rfl rfl];have t0:=hT N (Qb _);have m1:StoreM (O++[(N,.row 2 [[a8 0,.Xu 1 []]])]) S p c:=m.kp (X:=fun _=>False) hT (Kp.app (fun _ _ _=>rfl) (Qb _)) (by simp);have hr:=Wz (N:=N+1) m1 hl (-1) 0;have hE:rowX p c (-1) 0=8:=by simp [rowX,inT]
 rw [hE] at hr;simp [BL,t0,hr]
structure CmF (O:List (Nat×AO)) (M:Nat) (S:SV) (l:List Xc) (b2 b6 w T:Nat):Prop where
 fb2:look b2 O=some (.row 1 [[.ptr S.s 15 0 0]])
 fb6:look b6 O=some (.row 1 [[a8 0]])
 fw:look w O=some (.row 9 (l.map Xc.c))
 ft:look T O=some (.tok 1 0)
 n2:¬S.own b2
 n6:¬S.own b6
 nw:¬S.own w
 nt:¬S.own T
 tl:Tail O M
structure CmI (O0:List (Nat×AO)) (M:Nat) (S:SV) (p:Prg) (c:Xf) (l:List Xc) (b2 b6 w T:Nat) (i:Nat) (e:Env) (O:List (Nat×AO)) (N:Nat):Prop where
 tl:Tail O N
 hM:M<=N
 st:∃S',StoreM O S' p (cfgN p c l i)/\S'.s=S.s/\∀j,S'.own j->S.own j\/M<=j
 kp:Kp (fun j=>S.own j\/Rs O0 j\/j=T\/j=b6) M O0 O
 tk:look T O=some (.tok 1 i)
 k6:look b6 O=some (.row 1 [[a8 0]])
 bad:badF p c l 0=badF p (cfgN p c l i) (l.drop i) i
 e2:look 2 e=some (.ptr b2 1 0 0)
 e6:look 6 e=some (.ptr b6 1 0 0)
 e7:look 34 e=some (.row w 9 0 l.length)
 e35:look 35 e=some (a8 l.length)
 e36:look 36 e=some (a8 i)
 e9:look 9 e=some (.app 1 ((List.range i).map fun j=>cI (idN p c l j)) T)
def CmQ (O0:List (Nat×AO)) (M:Nat) (S:SV) (p:Prg) (c:Xf) (l:List Xc) (b6 T:Nat) (r:Option (Ex×St)):Prop:=
 ∃e' S' O' N',r=some (.ret,⟨e',⟨O',N'⟩⟩)/\Tail O' N'/\M<=N'/\S'.s=S.s/\(∀j,S'.own j->S.own j\/M<=j)/\Kp (fun j=>S.own j\/Rs O0 j\/j=T\/j=b6) M O0 O'/\look 6 e'=some (.ptr b6 1 0 0)/\
  match badF p c l 0 with
  | some (k,x)=>look 4 e'=some (.Xu 1 [])/\look 5 e'=some (.int .i64 k)/\look b6 O'=some (.row 1 [[.int .i64 x]])/\∃d,StoreM O' S' p d
  | none=>look 4 e'=some (.app 1 ((List.range l.length).map fun j=>cI (idN p c l j)) T)/\look T O'=some (.tok 1 l.length)/\look 5 e'=some (.int .i64 0)/\look b6 O'=some (.row 1 [[.int .i64 0]])/\StoreM O' S' p (cfgN p c l l.length)
variable {b6 b2:Nat}
theorem Nq (p:Prg) (f:PrgS p) (hp:p.Xn.length<2^40) (v:CfgV p c) (s:CfgT c) (l:List Xc) (hl64:l.length<=64) (hl:∀o∈l,OpS o) {O0:List (Nat×AO)} {M:Nat} {w T:Nat} (F:CmF O0 M S l b2 b6 w T)
  (e:Env) (O:List (Nat×AO)) (N:Nat) (h0:CmI O0 M S p c l b2 b6 w T 0 e O N):
  CmQ O0 M S p c l b6 T (go Φ (fun o=>o) [.c (.loop c_42_l0),.b 0,.c c_42_k1] .normal ⟨e,⟨O,N⟩⟩):=by
 refine I4 l.length (fun i e h=>∃O N,h=⟨O,N⟩/\CmI O0 M S p c l b2 b6 w T i e O N) _ ?_ ?_ 0 e _ (Qc _) ⟨O,N,rfl,h0⟩
 ·rintro i e _ L hi hL ⟨O,N,rfl,I⟩ ih;obtain ⟨S1,m1,es,ho⟩:=I.st;obtain ⟨vi,si⟩:=UK v s hp l hl i;have t0:=I.tl N (Qb _);have hnx:∀j x,look j O0=some x->x≠ .res->x≠ .tok 1 0->x≠ .row 1 [[a8 0]]->¬S.own j->look j O=some x:=by
   intro j x hx h1 h2 h3 hn;refine I.kp.lk F.tl hx ?_;rintro (h | h | h | h)
   ·exact hn h
   ·have h:look j O0=some .res:=h;rw [hx] at h;exact h1 (Option.some.inj h)
   ·subst h;rw [F.ft] at hx;exact h2 (Option.some.inj hx).symm
   ·subst h;rw [F.fb6] at hx;exact h3 (Option.some.inj hx).symm
  have bw:=hnx w _ F.fw (by simp) (by simp) (by simp) F.nw;have bb:=hnx b2 _ F.fb2 (by simp) (by simp) (by simp) F.n2;have hk1:Kp (fun _=>False) N O (O++[(N,AO.row 9 [Xc.c l[i]])]):=Kp.app (fun _ _ _=>rfl) (Qb _);have m1':StoreM (O++[(N,AO.row 9 [Xc.c l[i]])]) S1 p (cfgN p c l i):=m1.kp (X:=fun _=>False) I.tl (Kp.app (fun _ _ _=>rfl) (Qb _)) (by simp);obtain ⟨S2,O2,N2,e2,x1,x2,x3,x4,x5,x6⟩:=qzj m1' f vi si (I.tl.app1 (o:=AO.row 9 [Xc.c l[i]]) (Qb N)) l[i] (hl _ (Qd hi));have hw:=aL i (by omega);rw [es] at e2 x2;have hM:=I.hM;have ho2:∀j,S2.own j->S.own j\/M<=j:=fun j hj=>by
   rcases x3 j hj with h | h
   ·exact ho j h
   ·exact .inr (by omega)
  have hkp:Kp (fun j=>S.own j\/Rs O0 j\/j=T\/j=b6) M O0 O2:=by
   intro j hj hx;have h0:look j O=look j O0:=I.kp j hj hx;rw [x4 j (by omega),hk1 j (by omega) (by simp),h0];rintro (h | h)
   ·rcases ho j h with h | h
    ·exact hx (.inl h)
    ·omega
   ·have h':look j (O++[(N,AO.row 9 [Xc.c l[i]])])=look j O:=hk1 j (by omega) (by simp);exact hx (.inr (.inl (by show look j O0=_;rw [<- h0,<- h'];exact h)))
  have kpj:∀j x,look j O=some x->x≠ .res->j<M->¬S.own j->look j O2=some x:=by
   intro j x hx hr hj hn;rw [x4 j (by omega),hk1 j (by omega) (by simp),hx];rintro (h | h)
   ·rcases ho j h with h | h
    ·exact hn h
    ·omega
   ·have h':look j (O++[(N,AO.row 9 [Xc.c l[i]])])=look j O:=hk1 j (by omega) (by simp);have:look j (O++[(N,AO.row 9 [Xc.c l[i]])])=some .res:=h;rw [h',hx] at this;exact hr (Option.some.inj this)
  have tM:=F.tl.lt F.ft;have wt:=kpj T _ I.tk (by simp) tM F.nt;have h6:look b6 O2=some (.row 1 [[a8 0]]):=kpj b6 _ I.k6 (by simp) (F.tl.lt F.fb6) F.n6;have hfr:∀t y,t<M->¬S.own t->StoreM (setl t y O2) S2 p (xoC p (cfgN p c l i) l[i]):=fun t y ht hn=>x1.fr fun j hj=>by
   rw [aG,QA];rintro rfl;rcases ho2 _ hj with h | h
   ·exact hn h
   ·omega
  have hb2:badF p (cfgN p c l i) (l.drop i) i=if xoE p (cfgN p c l i) l[i]=0 then badF p (xoC p (cfgN p c l i) l[i]) (l.drop (i+1)) (i+1) else some (i,xoE p (cfgN p c l i) l[i]):=by
   rw [Qi hi,badF]
  have hb:=I.bad;rw [hb2] at hb;simp only [Xc.ce2] at e2;by_cases zi:xoE p (cfgN p c l i) l[i]=0
  ·rw [aB zi,<- U6 p c l hi] at hb;rw [zi] at e2;have hr2':List.map (fun j=>cI (idN p c l j)) (List.range (i+1))=List.map (fun j=>cI (idN p c l j)) (List.range i)++[[a8 (xoI p (cfgN p c l i) l[i])]]:=by
    rw [List.range_succ,u7,QD];simp [idN,hi,cI]
   generalize hil:List.map (fun j=>cI (idN p c l j)) (List.range i)=il at hr2';have hill:il.length=i:=by rw [<- hil];simp
   have e9:=I.e9;rw [hil] at e9;have h8:(i+1)*8<=70368744177664:=by omega
   simp [c_42_l0,I.e2,I.e7,I.e35,I.e36,e9,hi,bw,bb,t0,aV,Xc.ce2,e2,wt,hill,h8,hw];have hbT:¬b6=T:=by
    intro h;have h1:=F.fb6;rw [h,F.ft] at h1;cases h1
   have hcs:cfgN p c l (i+1)=xoC p (cfgN p c l i) l[i]:=U6 p c l hi;refine ih _ _ ⟨_,_,rfl,⟨cY x5,by omega,⟨S2,?_,x2,ho2⟩,?_,?_,?_,hb,?_,?_,?_,?_,?_,?_⟩⟩
   ·rw [hcs];exact hfr T _ tM F.nt
   ·exact hkp.setl (.inr (.inr (.inr (.inl rfl))))
   ·simp [aG,wt]
   ·rw [aG,QA hbT];exact h6
   ·simp [I.e2]
   ·simp [I.e6]
   ·simp [I.e7]
   ·simp [I.e35]
   ·simp
   ·simp [hr2']
  ·rw [QA zi] at hb;simp [c_42_l0,I.e2,I.e6,I.e7,I.e35,I.e36,hi,bw,bb,t0,aV,Xc.ce2,e2,zi,h6];refine ⟨_,S2,_,_,rfl,cY x5,by omega,x2,ho2,hkp.setl (.inr (.inr (.inr (.inr rfl)))),by simp [I.e6],?_⟩;rw [hb];exact ⟨by simp,by simp,by simp [aG,h6],_,hfr b6 _ (F.tl.lt F.fb6) F.n6⟩
 ·rintro e _ L hL ⟨O,N,rfl,I⟩;obtain ⟨S1,m1,es,ho⟩:=I.st;have hb:=I.bad;rw [QC,badF] at hb;have k6:=I.k6;simp [c_42_l0,c_42_k1,I.e6,I.e35,I.e36,I.e9,hL,k6];have hbT:¬T=b6:=by
   intro h;have h1:=F.fb6;rw [<- h,F.ft] at h1;cases h1
  have hM:=I.hM;refine ⟨_,S1,_,_,rfl,cY I.tl,I.hM,es,ho,I.kp.setl (.inr (.inr (.inr (.inr rfl)))),by simp [I.e6],?_⟩;rw [hb];refine ⟨by simp,by rw [aG,QA hbT];exact I.tk,by simp,by simp [aG,k6],m1.fr fun j hj=>?_⟩;rw [aG,QA];rintro rfl;rcases ho _ hj with h | h
  ·exact F.n6 h
  ·have:=F.tl.lt F.fb6;omega
def cmA1:Xv:=match dS.code with | .seq a _=>a | _=> .skip
def cmA2:Xv:=match dS.code with | .seq _ (.seq a _)=>a | _=> .skip
def cmA3:Xv:=match dS.code with | .seq _ (.seq _ (.seq a _))=>a | _=> .skip
def cmA4:Xv:=match dS.code with | .seq _ (.seq _ (.seq _ (.seq a _)))=>a | _=> .skip
def cmB:Xv:=match dS.code with | .seq _ (.seq _ (.seq _ (.seq _ (.dfr _ _ b))))=>b | _=> .skip
def cmO:List Xw:=[⟨some 27,none,.mkfunc (.func rZ) [] [.t 6,.t 7,.t 2]⟩]
theorem Ip:dS.code= .seq cmA1 (.seq cmA2 (.seq cmA3 (.seq cmA4 (.dfr cmO 27 cmB)))):=rfl
theorem cm1 {s:Nat} (hT:Tail O N) (w:AV):∃e,dN Φ cmA1 ⟨fW 0 [.ptr s 15 0 0,w],⟨O,N⟩⟩=some (.normal,⟨e,⟨O++[(N,.row 1 [[.ptr s 15 0 0]])]++[(N+1,.row 1 [[a8 0]])],N+2⟩⟩)/\look 1 e=some w/\look 2 e=some (.ptr N 1 0 0)/\look 6 e=some (.ptr (N+1) 1 0 0):=by
 have t0:=hT N (Qb _);have t1:=hT (N+1) (by omega);rw [oM];simp [cmA1,dS,t0,t1]
variable {e:Env} {s2 b:Nat} {x6 w:AV}
theorem cm2 {N' s:Nat} {O':List (Nat×AO)} (hT':Tail O' N') (h:aN Φ EI [.ptr s 15 0 0] ⟨O,N⟩=some (.val (.ptr s2 15 0 0),⟨O',N'⟩)) (h2:look 2 e=some (.ptr b 1 0 0)) (hb:look b O=some (.row 1 [[.ptr s 15 0 0]])) (h1:look 1 e=some w) (h6:look 6 e=some x6):
  ∃e',dN Φ cmA2 ⟨e,⟨O,N⟩⟩=some (.normal,⟨e',⟨O'++[(N',.row 1 [[.ptr s2 15 0 0]])],N'+1⟩⟩)/\look 1 e'=some w/\look 2 e'=some (.ptr b 1 0 0)/\look 6 e'=some x6/\look 7 e'=some (.ptr N' 1 0 0):=by
 have t0:=hT' N' (Qb _);rw [oM];simp [cmA2,dS,t0,h,h2,hb,h1,h6]
variable {b7:Nat}
theorem cm3 (m:StoreM O S p c) (hl:c.rows.length=p.Xn.length) (hT:Tail O N) (h2:look 2 e=some (.ptr b 1 0 0)) (h7:look 7 e=some (.ptr b7 1 0 0)) (hb:look b O=some (.row 1 [[.ptr S.s 15 0 0]])) (hb7:look b7 O=some (.row 1 [[.ptr s2 15 0 0]])) (h1:look 1 e=some w) (h6:look 6 e=some x6):
  ∃e',dN Φ cmA3 ⟨e,⟨O,N⟩⟩=some (.normal,⟨e',⟨O++[(N,.row 2 [[a8 0,.Xu 1 []]])],N+1⟩⟩)/\look 1 e'=some w/\look 2 e'=some (.ptr b 1 0 0)/\look 6 e'=some x6/\look 7 e'=some (.ptr b7 1 0 0):=by
 have t0:=hT N (Qb _);have hm:=Iz m hl hT;rw [oM];simp [cmA3,dS,aV,hm,h2,h7,hb,hb7,h1,h6]
section
variable (h1:look 1 e=some (.slice 9 (l.map Xc.c)))
include h1
theorem cm4 {x2 x7:AV} (h2:look 2 e=some x2) (h6:look 6 e=some x6) (h7:look 7 e=some x7) (hl:¬64<l.length):
  ∃e',dN Φ cmA4 ⟨e,⟨O,N⟩⟩=some (.normal,⟨e',⟨O,N⟩⟩)/\look 1 e'=some (.slice 9 (l.map Xc.c))/\look 2 e'=some x2/\look 6 e'=some x6/\look 7 e'=some x7:=by
 have hl':¬(64:Int)<(l.length:Int):=by omega
 rw [oM];simp [cmA4,dS,h1,h2,h6,h7,hl']
theorem cm4b (h6:look 6 e=some (.ptr b6 1 0 0)) (hb6:look b6 O=some (.row 1 [[a8 0]])) (hl:64<l.length):
  ∃e',dN Φ cmA4 ⟨e,⟨O,N⟩⟩=some (.ret,⟨e',⟨setl b6 (.row 1 [[a8 12]]) O,N⟩⟩)/\look 4 e'=some (.Xu 1 [])/\look 5 e'=some (a8 (-1))/\look 6 e'=some (.ptr b6 1 0 0):=by
 have hl':(64:Int)<(l.length:Int):=by omega
 rw [oM];simp [cmA4,dS,h1,h6,hl',hb6]
end
theorem Nn {a7 a2:AV} (hb6:look b6 O=some (.row 1 [[a8 0]])):cloI Φ dS .niliface [.ptr b6 1 0 0,a7,a2] ⟨O,N⟩=some ⟨O,N⟩:=by
 unfold cloI;rw [oM];simp [dS,recE,hb6]
theorem Np {s:Nat} {x:Int} {cs cs0:List AV} (hx:x≠0) (hb6:look b6 O=some (.row 1 [[a8 x]])) (hb7:look b7 O=some (.row 1 [[.ptr s2 15 0 0]])) (hb2:look b2 O=some (.row 1 [[.ptr s 15 0 0]])) (hs2:look s2 O=some (.row 15 [cs])) (hs:look s O=some (.row 15 [cs0])) (hc:cs.length=15) (hc0:cs0.length=15):
  cloI Φ dS .niliface [.ptr b6 1 0 0,.ptr b7 1 0 0,.ptr b2 1 0 0] ⟨O,N⟩=some ⟨setl s (.row 15 [cs]) O,N⟩:=by
 unfold cloI;rw [oM];have t:cs.take 15=cs:=Qo (by omega);have t2:cs0.drop 15=[]:=List.drop_eq_nil_of_le (by omega);simp [dS,recE,hb6,hx,hb7,hb2,hs2,hs,hc,hc0,t,t2]
theorem cm5 (p:Prg) (f:PrgS p) (hp:p.Xn.length<2^40) (v:CfgV p c) (s:CfgT c) (l:List Xc) (hl64:l.length<=64) (hl:∀o∈l,OpS o) (hT:Tail O N) (m:StoreM O S p c) (h1:look 1 e=some (.slice 9 (l.map Xc.c))) (h2:look 2 e=some (.ptr b2 1 0 0)) (h6:look 6 e=some (.ptr b6 1 0 0)) (hb2:look b2 O=some (.row 1 [[.ptr S.s 15 0 0]])) (hb6:look b6 O=some (.row 1 [[a8 0]])) (n2:¬S.own b2) (n6:¬S.own b6):
  CmQ (O++[(N,.row 9 (l.map Xc.c))]++[(N+1,.tok 1 0)]) (N+2) S p c l b6 (N+1) (dN Φ cmB ⟨e,⟨O,N⟩⟩):=by
 have t0:=hT N (Qb _);have t1:=hT (N+1) (by omega);rw [oM];have k1:l.length<4611686018427387904/\(l.length:Int)*120<=140737488355328:=by omega
 simp [cmB,dS,h1,t0,t1,k1];have own:∀j,S.own j->j<N:=fun j hj=>by
  obtain ⟨x,hx,_⟩:=m.own_lk hj;exact hT.lt hx
 have hT1:Tail (O++[(N,AO.row 9 (List.map Xc.c l)),(N+1,AO.tok 1 0)]) (N+2):=by
  have:=(hT.app1 (o:=AO.row 9 (List.map Xc.c l)) (Qb N)).app1 (o:=AO.tok 1 0) (Qb (N+1));simpa using this
 have m1:StoreM (O++[(N,AO.row 9 (List.map Xc.c l)),(N+1,AO.tok 1 0)]) S p c:=m.kp (X:=fun _=>False) hT (Kp.appL (fun _ _ _=>rfl) (by intro q hq;simp at hq;rcases hq with rfl | rfl<;>simp)) (by simp);refine Nq p f hp v s l hl64 hl (b2:=b2) (w:=N) ⟨by simp [aV,hb2],by simp [aV,hb6],by simp [t0],by simp [t1],n2,n6,fun h=>by have:=own _ h;omega,fun h=>by have:=own _ h;omega,hT1⟩ _ _ _ ?_;refine ⟨hT1,Qb _,⟨S,by rw [U7];exact m1,rfl,fun j hj=> .inl hj⟩,Kp.refl,by simp [t1],by simp [aV,hb6],by simp [U7],?_,?_,?_,?_,?_,?_⟩<;>simp [h2,h6]
def idsA (p:Prg) (c:Xf) (l:List Xc):List (List AV):=(List.range l.length).map fun j=>cI (idN p c l j)
def Nf (N:Nat) (O:List (Nat×AO)) (S:SV) (p:Prg) (c:Xf) (l:List Xc) (r:Option (Rt×AH)):Prop:=
 ∃S' O' N',S'.s=S.s/\(∀j,S'.own j->S.own j\/N<=j)/\Kp (fun j=>S.own j\/Rs O j) N O O'/\Tail O' N'/\N<=N'/\
  match badA p c l with
  | some (k,x)=>r=some (.val (.tup [.Xu 1 [],.int .i64 k,.int .i64 x]),⟨O',N'⟩)/\StoreM O' S' p c
  | none=>∃T,r=some (.val (.tup [.app 1 (idsA p c l) T,.int .i64 0,.int .i64 0]),⟨O',N'⟩)/\StoreM O' S' p (cfgN p c l l.length)/\look T O'=some (.tok 1 l.length)/\N<=T/\¬S'.own T
theorem ZI (p:Prg) (op:p.Ok fL) (hp:p.Xn.length<2^40) (v:CfgV p c) (s:CfgT c) (l:List Xc) (hl:∀o∈l,OpS o) (hT:Tail O N) (m:StoreM O S p c):
  Nf N O S p c l (aN Φ EF [.ptr S.s 15 0 0,.slice 9 (l.map Xc.c)] ⟨O,N⟩):=by
 have f:=HL op;have own:∀j,S.own j->j<N:=fun j hj=>by
  obtain ⟨x,hx,_⟩:=m.own_lk hj;exact hT.lt hx
 rw [Ta Φ (d:=dS) rfl rfl,Ip];obtain ⟨e1,a1,g1,g2,g6⟩:=cm1 (s:=S.s) hT (.slice 9 (l.map Xc.c));have t0:=hT N (Qb _);have t1:=hT (N+1) (by omega);have hT1:Tail (O++[(N,.row 1 [[.ptr S.s 15 0 0]])]++[(N+1,.row 1 [[a8 0]])]) (N+2):=(hT.app1 (Qb N)).app1 (Qb (N+1));have hk1:Kp (fun _=>False) N O (O++[(N,.row 1 [[.ptr S.s 15 0 0]])]++[(N+1,.row 1 [[a8 0]])]):=(Kp.app Kp.refl (Qb _)).app (xT _);have m1:=m.kp hT hk1 (by simp);have q2:look N (O++[(N,.row 1 [[.ptr S.s 15 0 0]])]++[(N+1,.row 1 [[a8 0]])])=some (.row 1 [[.ptr S.s 15 0 0]]):=by simp [t0]
 have q6:look (N+1) (O++[(N,.row 1 [[.ptr S.s 15 0 0]])]++[(N+1,.row 1 [[a8 0]])])=some (.row 1 [[a8 0]]):=by simp [t1]
 have rs1:∀j,j<N->Rs (O++[(N,.row 1 [[.ptr S.s 15 0 0]])]++[(N+1,.row 1 [[a8 0]])]) j->Rs O j:=fun j hj h=>by
  have:=hk1 j hj (by simp);show look j O=_;rw [<- this];exact h
 generalize O++[(N,.row 1 [[.ptr S.s 15 0 0]])]++[(N+1,.row 1 [[a8 0]])]=H1 at*;obtain ⟨S2,O2,N2,a2,m2,w2,k2,hT2,n2⟩:=Bz op m1 v s hT1;obtain ⟨e2,a2',h1,h2,h6,h7⟩:=cm2 hT2 a2 g2 q2 g1 g6;have t2:=hT2 N2 (Qb _);have hk3:Kp (Rs H1) (N+2) H1 (O2++[(N2,.row 1 [[.ptr S2.s 15 0 0]])]):=k2.app (by omega);have hT3:Tail (O2++[(N2,.row 1 [[.ptr S2.s 15 0 0]])]) (N2+1):=hT2.app1 (Qb N2);have m3:=m1.kp hT1 hk3 fun j hj hr=>by
  obtain ⟨x,hx,hne⟩:=m1.own_lk hj;have hr:look j H1=some .res:=hr;rw [hx] at hr;exact hne (Option.some.inj hr)
 have m23:=m2.kp (X:=fun _=>False) hT2 (Kp.app Kp.refl (Qb N2) (o:= .row 1 [[.ptr S2.s 15 0 0]])) (by simp);have q7:look N2 (O2++[(N2,.row 1 [[.ptr S2.s 15 0 0]])])=some (.row 1 [[.ptr S2.s 15 0 0]]):=by simp [t2]
 have r2:=hk3.lk hT1 q2 (by intro h;have h:look N H1=some .res:=h;rw [q2] at h;cases h);have r6:=hk3.lk hT1 q6 (by intro h;have h:look (N+1) H1=some .res:=h;rw [q6] at h;cases h);have own2:∀j,S2.own j->j<N2:=fun j hj=>by
  obtain ⟨x,hx,_⟩:=m2.own_lk hj;exact hT2.lt hx
 generalize O2++[(N2,.row 1 [[.ptr S2.s 15 0 0]])]=H3 at*;obtain ⟨e3,a3,h1,h2,h6,h7⟩:=cm3 m3 v.rl hT3 h2 h7 r2 q7 h1 h6;have hk4:Kp (fun _=>False) (N2+1) H3 (H3++[(N2+1,.row 2 [[a8 0,.Xu 1 []]])]):=Kp.app Kp.refl (Qb _);have hT4:Tail (H3++[(N2+1,.row 2 [[a8 0,.Xu 1 []]])]) (N2+2):=hT3.app1 (Qb _);have m4:=m3.kp hT3 hk4 (by simp);have m24:=m23.kp hT3 hk4 (by simp);have q7:=hk4.lk hT3 q7 (by simp);have r2:=hk4.lk hT3 r2 (by simp);have r6:=hk4.lk hT3 r6 (by simp);have hkO:Kp (Rs O) N O (H3++[(N2+1,.row 2 [[a8 0,.Xu 1 []]])]):=by
  intro j hj hx;rw [hk4 j (by omega) (by simp),hk3 j (by omega) (fun h=>hx (rs1 j hj h)),hk1 j hj (by simp)]
 generalize H3++[(N2+1,.row 2 [[a8 0,.Xu 1 []]])]=H4 at*;by_cases z:64<l.length
 ·obtain ⟨e4,a4,i4,i5,i6⟩:=cm4b (N:=N2+2) h1 h6 r6 z;have hb:badA p c l=some (-1,12):=by simp [badA,(QV p c).2 v,z]
  simp only [sN,a1,a2',a3,a4];refine ⟨S,setl (N+1) (.row 1 [[a8 12]]) H4,N2+2,rfl,fun j hj=> .inl hj,(hkO.mono fun j _ h=> .inr h).setl (.inl (xT N)),cY hT4,by omega,?_⟩;rw [hb];refine ⟨?_,m4.fr fun j hj=>?_⟩
  ·simp [sS,dS,i4,i5,i6,aG,r6]
  ·have:=own j hj;rw [aG,QA (by omega)]
 ·obtain ⟨e4,a4,h1,h2,h6,h7⟩:=cm4 (O:=H4) (N:=N2+2) h1 h2 h6 h7 z;have a5:bQ (aN Φ) none cmO ⟨e4,⟨H4,N2+2⟩⟩=some (.normal,⟨(27,.func (.func rZ) [] [.ptr (N+1) 1 0 0,.ptr N2 1 0 0,.ptr N 1 0 0])::e4,⟨H4,N2+2⟩⟩):=by
   simp [cmO,bQ,gV,h2,h6,h7]
  have B:=cm5 p f hp v s l (by omega) hl (e:=(27,.func (.func rZ) [] [.ptr (N+1) 1 0 0,.ptr N2 1 0 0,.ptr N 1 0 0])::e4) (b2:=N) (b6:=N+1) hT4 m4 (by simp [h1]) (by simp [h2]) (by simp [h6]) r2 r6 (fun h=>by have:=own _ h;omega) (fun h=>by have:=own _ h;omega);have hk5:Kp (fun _=>False) (N2+2) H4 (H4++[(N2+2,.row 9 (l.map Xc.c))]++[(N2+2+1,.tok 1 0)]):=(Kp.app Kp.refl (Qb _)).app (xT _);have m25:=m24.kp hT4 hk5 (by simp);have q75:=hk5.lk hT4 q7 (by simp);have r25:=hk5.lk hT4 r2 (by simp);have hT5:Tail (H4++[(N2+2,.row 9 (l.map Xc.c))]++[(N2+2+1,.tok 1 0)]) (N2+4):=(hT4.app1 (Qb _)).app1 (Qb _);have hkO5:Kp (Rs O) N O (H4++[(N2+2,.row 9 (l.map Xc.c))]++[(N2+2+1,.tok 1 0)]):=by
   intro j hj hx;rw [hk5 j (by omega) (by simp),hkO j hj hx]
  generalize H4++[(N2+2,.row 9 (l.map Xc.c))]++[(N2+2+1,.tok 1 0)]=H5 at*;obtain ⟨e',S',O',N',hr,hT',hN',es,ho,hk,h6',hm⟩:=B;simp only [sN,a1,a2',a3,a4,a5];rw [hr];have hcl:(look 27 ((27,AV.func (.func rZ) [] [.ptr (N+1) 1 0 0,.ptr N2 1 0 0,.ptr N 1 0 0])::e4)).bind tgt=some (rZ,[.ptr (N+1) 1 0 0,.ptr N2 1 0 0,.ptr N 1 0 0]):=by simp
  rw [hcl];simp only [show dS.clo=rZ from rfl,show dS.ncaps=3 from rfl,mH,mI,and_self,if_true,G6];have hbA:badA p c l=(badF p c l 0).map fun x=>((x.1:Int),x.2):=by simp [badA,(QV p c).2 v,z]
  have hkN:Kp (fun j=>S.own j\/Rs O j) N O O':=by
   intro j hj hx;rw [hk j (by omega) ?_,hkO5 j hj fun h=>hx (.inr h)];rintro (h | h | h | h)
   ·exact hx (.inl h)
   ·have h:look j H5=some .res:=h;rw [hkO5 j hj fun h=>hx (.inr h)] at h;exact hx (.inr h)
   ·omega
   ·omega
  cases hb:badF p c l 0 with
  | some x=>
   obtain ⟨k,x⟩:=x;rw [hb] at hm hbA;obtain ⟨j4,j5,j6,d,md⟩:=hm;have hx:=Vt hb;have kp2:∀j y,look j H5=some y->y≠ .res->N+1<j->j<N2+3->look j O'=some y:=fun j y hy hr h1 h2=>by
    refine hk.lk hT5 hy ?_;rintro (h | h | h | h)
    ·have:=own j h;omega
    ·have h:look j H5=some .res:=h;rw [hy] at h;exact hr (Option.some.inj h)
    ·omega
    ·omega
   have y7:=kp2 N2 _ q75 (by simp) (by omega) (by omega);have y2:look N O'=some (.row 1 [[.ptr S.s 15 0 0]]):=hk.lk hT5 r25 (by
    rintro (h | h | h | h)
    ·have:=own _ h;omega
    ·have h:look N H5=some .res:=h;rw [r25] at h;cases h
    ·omega
    ·omega)
   have m26:StoreM O' S2 p c:=m25.fr fun j hj=>by
    obtain ⟨y,hy,hne⟩:=m25.own_lk hj;have:=w2 j hj;have:=own2 j hj;rw [kp2 j y hy hne (by omega) (by omega),hy]
   have ys:=md.s;rw [es] at ys;have hcl:∀S:SV,(S.cells p).length=15:=fun S=>by simp [SV.cells,Prg.e]
   have cl:=Np (O:=O') (N:=N') hx j6 y7 y2 m26.s ys (hcl _) (hcl _);rw [cl];refine ⟨{ S2 with s:=S.s },setl S.s (.row 15 [S2.cells p]) O',N',rfl,?_,?_,cY hT',by omega,?_⟩
   ·rintro j (rfl | hj)
    ·exact .inl (.inl rfl)
    ·have:=w2 j (.inr hj);exact .inr (by omega)
   ·exact hkN.setl (.inr (.inl (.inl rfl)))
   ·rw [hbA];refine ⟨?_,?_⟩
    ·have n1:¬N+1=S.s:=by have:=own _ (.inl rfl);omega
     simp [sS,dS,j4,j5,j6,h6',aG,n1]
    ·have n1:=own _ (Or.inl (rfl:S.s=S.s));refine ⟨by simp only [aG,if_true,ys,A6];rfl,m26.cm.fr fun j hj=>?_,m26.x.fr fun j hj=>?_,m26.ri,m26.ni⟩
     ·have:=w2 j (.inr (.inl hj));rw [aG,QA (by omega)]
     ·have:=w2 j (.inr (.inr hj));rw [aG,QA (by omega)]
  | none=>
   rw [hb] at hm hbA;obtain ⟨j4,jT,j5,j6,md⟩:=hm;rw [Nn j6];refine ⟨S',O',N',es,fun j hj=>(ho j hj).imp id fun h=>by omega,hkN,hT',by omega,?_⟩;rw [hbA];refine ⟨N2+3,?_,md,jT,by omega,fun h=>?_⟩
   ·simp [sS,dS,j4,j5,j6,h6',idsA]
   ·rcases ho _ h with h | h
    ·have:=own _ h;omega
    ·omega
theorem quc (p:Prg) (op:p.Ok fL) (hc:(pre p.Yb).length<2^40 - 1) (hp:p.Xn.length<2^40) (s:CfgT c) (l:List Xc) (hl:∀o∈l,OpS o):
  a9 Φ NG [.agg (Prg.c p),.agg (Xf.c c),.slice 9 (l.map Xc.c)]=some (.val (appA p c l)):=by
 rw [aA rfl rfl];obtain ⟨q0,q1,q2,q3,hC,hq,hq2⟩:=cfg4 c;have hT0:Tail [(0,AO.row 4 [[.Xu 1 [],.Xu 1 [],.Xu 2 [],.Xu 1 []]])] 1:=(Tail.nil 0).app1 (Qb 0);rcases qxy p op hc c s hT0 with ⟨z,e⟩ | ⟨z,S,O1,N1,e,m1,w1,hk1,hT1,hN1⟩
 ·have hb:badA p c l=some (-1,cfgE p c):=by simp [badA,z]
  rw [show appA p c l= .tup [.agg noC,.slice 1 [],a8 (-1),a8 (cfgE p c)] by simp only [appA,hb]];rw [hC] at e ⊢;simp only [Prg.e] at e;simp [GI,Prg.e,e,hq,hq2,z,noC]
 ·have v:=(QV p c).1 z;have r0:look 0 O1=some (.row 4 [[.Xu 1 [],.Xu 1 [],.Xu 2 [],.Xu 1 []]]):=hk1.lk hT0 rfl (by intro h;cases h);have n0:¬S.own 0:=fun h=>by have:=w1 0 h;omega
  obtain ⟨S2,O2,N2,es,ho,hk2,hT2,hN2,hm⟩:=ZI p op hp v s l hl hT1 m1;have r02:look 0 O2=some (.row 4 [[.Xu 1 [],.Xu 1 [],.Xu 2 [],.Xu 1 []]]):=hk2.lk hT1 r0 (by
   rintro (h | h)
   ·exact n0 h
   ·have h:look 0 O1=some .res:=h;rw [r0] at h;cases h)
  cases hb:badA p c l with
  | some x=>
   obtain ⟨k,x⟩:=x;rw [hb] at hm;obtain ⟨e2,-⟩:=hm;have hx:=LX hb;rw [show appA p c l= .tup [.agg noC,.slice 1 [],a8 k,a8 x] by simp only [appA,hb]];rw [hC] at e ⊢;simp only [Prg.e] at e;simp [GI,Prg.e,e,e2,hq,hq2,hx,noC,r02,aG]
  | none=>
   rw [hb] at hm;obtain ⟨T,e2,m2,hTk,hTN,hTo⟩:=hm;obtain ⟨v',s'⟩:=UK v s hp l hl l.length;obtain ⟨u1,u2,u3,u4,U,O3,N3,e3,n3,w3,hk3,hT3,hN3⟩:=qsa (v'.u s') hT2 m2;rw [es] at e3;have r03:=hk3.lk hT2 r02 (by simp);have hT3k:=hk3.lk hT2 hTk (by simp);rw [show appA p c l= .tup [.agg (Xf.c (cfgN p c l l.length)),.slice 1 (idsA p c l),a8 0,a8 0] by simp only [appA,hb];rfl];have hil:(idsA p c l).length=l.length:=by simp [idsA]
   have T0:¬T=0:=by omega
   simp only [Prg.e,Xf.ce c] at e;generalize idsA p c l=il at*;have n3':CfgM (setl 0 (AO.row 4 [[u1,u2,u3,u4]]) O3) u1 u2 u3 u4 U (cfgN p c l l.length):=n3.fr fun j hj=>by
    have:=w3 j hj;rw [aG,QA (by omega)]
   have a1:=n3'.snpR (n:=34) (N:=N3);have a2:=n3'.snpN (n:=34) (N:=N3);have a3:=n3'.snpD (n:=34) (N:=N3);have a4:=n3'.snpG (n:=34) (N:=N3);simp [GI,Prg.e,e,e2,e3,r03,aG,a1,a2,a3,a4,Xf.ce]
end Go.Av
