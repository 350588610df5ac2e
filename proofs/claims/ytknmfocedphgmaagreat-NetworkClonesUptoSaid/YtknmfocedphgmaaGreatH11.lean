/-
 store.Load, store.New, Config: a store holds the configuration that it was given.
-/
import Derived.Test.YtknmfocedphgmaaGreatQ7
set_option linter.unusedVariables false
set_option linter.unusedSimpArgs false
set_option linter.constructorNameAsVariable false
namespace Go.Av
set_option maxRecDepth 4000
theorem UN {p:Prg} {t:Int} {tb:Tbl} (h:(tblE p t).2=0) (ht:at? p.Xn t=some tb):tb.size<=256:=by
 unfold tblE at h;rw [ht] at h;simp only at h;split at h
 ·cases h
 split at h
 ·cases h
 split at h
 ·cases h
 ·omega
theorem VB {p:Prg} {t:Int} {x:Entry} (h:entE p t x=0):(tblE p t).2=0:=by
 unfold entE at h;refine Decidable.byContradiction fun hc=>?_
 rw [aE hc] at h;exact hc h
theorem CfgV.small {p:Prg} {c:Xf} (v:CfgV p c):∀l∈c.rows,l.length<=256:=by
 intro l hl;obtain ⟨k,hk,rfl⟩:=Qn.1 hl;have hkt:k<p.Xn.length:=by rw [<- v.rl];exact hk
 have hv:=v.at hkt;by_cases h0:c.rows[k].length=0
 ·omega
 have he:=hv.ent _ (Qd (show 0<c.rows[k].length by omega));have hs:=UN (VB he) (by rw [L5];exact Qa hkt);have:=hv.size;omega
theorem CfgV.u {p:Prg} {c:Xf} (v:CfgV p c) (s:CfgT c):CfgU c:=⟨s,fun l hl=>by have:=v.small l hl;omega⟩
theorem CfgV.incs {p:Prg} {c:Xf} (v:CfgV p c):∀l∈c.rows,l.Pairwise fun a b=>a.id<b.id:=by
 intro l hl;obtain ⟨k,hk,rfl⟩:=Qn.1 hl;have hkt:k<p.Xn.length:=by rw [<- v.rl];exact hk
 exact (v.at hkt).inc
def UV (N:Nat) (O:List (Nat×AO)) (p:Prg) (c:Xf) (r:Option (Rt×AH)):Prop:=
 (cfgE p c≠0/\r=some (.val (.tup [.nilptr,a8 (cfgE p c)]),⟨O,N⟩))\/
 (cfgE p c=0/\∃S O' N',r=some (.val (.tup [.ptr S.s 15 0 0,a8 0]),⟨O',N'⟩)/\StoreM O' S p c/\(∀j,S.own j->N<=j)/\Kp (Rs O) N O O'/\Tail O' N'/\N<=N')
theorem XK (p:Prg) (op:p.Ok dO) (hc:PC p) (c:Xf) (s:CfgT c) {O:List (Nat×AO)} {N:Nat} (hT:Tail O N):
  UV N O p c (aI Φ kS [.agg (Prg.c p),.agg (Xf.c c)] ⟨O,N⟩):=by
 rw [dA rfl rfl];have f:=GE op;have hk:=Oc p f hc c s;simp only [Prg.e,Xf.ce] at hk;by_cases z:cfgE p c=0
 ·have v:=(ID p c).1 z;obtain ⟨S,O',N',e,h1,h2,h3,h4,h5⟩:=Pc p op c (v.u s) v.incs hT (CfgR.imm (O:=O) c);rw [z] at hk;simp only [Prg.e] at e;simp [wL,Prg.e,Xf.ce,hk,e];exact .inr ⟨z,S,O',N',rfl,h1,h2,h3,h4,h5⟩
 ·simp [wL,Prg.e,Xf.ce,hk,z];exact .inl ⟨z,rfl⟩
theorem qy6 {p:Prg} {c:Xf} (u:CfgU c) {S:SV} {O:List (Nat×AO)} {N:Nat} (hT:Tail O N) (m:StoreM O S p c):Pt N O c (aI Φ rP [.ptr S.s 15 0 0] ⟨O,N⟩):=by
 rw [dA rfl rfl];have t0:=hT N (Qb _);have hs:=m.s;simp only [SV.cells,Prg.e,qI,DW] at hs;have fs:=BC hT hs (Qb N);have hk1:Kp (fun _=>False) N O (O++[(N,AO.row 4 [[.Xu 1 [],.Xu 1 [],.Xu 2 [],.Xu 1 []]])]):=Kp.app (fun _ _ _=>rfl) (Qb _);have hT1:=hT.app1 (o:=AO.row 4 [[.Xu 1 [],.Xu 1 [],.Xu 2 [],.Xu 1 []]]) (Qb N);obtain ⟨w1,w2,w3,w4,V,O',N',e,h1,h2,h3,h4,h5⟩:=Ie c u hT1 (m.cm.re.kp hT hk1 (by simp));have ln:look N O'=some (.row 4 [[.Xu 1 [],.Xu 1 [],.Xu 2 [],.Xu 1 []]]):=h3.lk hT1 (by rw [aC,t0];simp) (by simp);simp [E9,t0,aC,hs,e,ln,aB];refine ⟨w1,w2,w3,w4,V,_,N',rfl,?_,fun j hj=>by have:=h2 j hj;omega,?_,bV h4,by omega⟩
 ·refine h1.fr fun j hj=>?_
  have:=h2 j hj;rw [aB,QA (by omega)]
 ·intro j hj hx;rw [aB,QA (by omega),h3 j (by omega) hx,aC,show look j [(N,AO.row 4 [[.Xu 1 [],.Xu 1 [],.Xu 2 [],.Xu 1 []]])]=none by simp [look];omega];simp
theorem Oz {α:Type} {p:α->Bool} {l:List α}:∀n i,n+i=l.length->ix p l i=(((l.drop i).findIdx? p).map fun j=>((i+j:Nat):Int)).getD (-1)
 | 0,i,h=>by
  have:i=l.length:=by omega
  subst this;rw [L8];simp
 | n+1,i,h=>by
  have hi:i<l.length:=by omega
  rw [Qi hi,List.findIdx?_cons];cases hp:p l[i] with
  | true=>rw [L9 hi hp];simp
  | false=>
   rw [KO hi hp,Oz n (i+1) (by omega)];cases (l.drop (i+1)).findIdx? p with
   | none=>rfl
   | some j=>simp;omega
def rIx (l:List Rw) (id:Int):Int:=((rIdx l id).map fun (j:Nat)=>(j:Int)).getD (-1)
theorem Aw (l:List Rw) (id:Int):ix (fun r=>decide (r.id=id)) l 0=rIx l id:=by
 rw [Oz l.length 0 (by omega)];simp [rIx,rIdx]
theorem Kr (l:List Rw) (id:Int) (hl:l.length<2^40):aA Φ lE [.slice 5 (l.map Rw.c),a8 id]=some (.val (a8 (rIx l id))):=by
 rw [aD rfl rfl,<- Aw];simp [FW];refine iJ l.length (fun i e=>look 0 e=some (.slice 5 (l.map Rw.c))/\look 1 e=some (a8 id)/\look 5 e=some (a8 i))
  (fun i=>some (Rt.val (a8 (ix (fun r=>decide (r.id=id)) l i)))) ?_ ?_ 0 _ (Qc _) ?_
 ·rintro i e L hi hL ⟨h0,h1,h5⟩ ih;have hw:=aL i (by omega);by_cases z:l[i].id=id
  ·rw [L9 hi (by simpa using z)];simp [c_354_l0,Rw.ce,h0,h1,h5,hi,z]
  ·rw [KO hi (by simpa using z)];simp [c_354_l0,Rw.ce,h0,h1,h5,hi,z,hw];exact ih _ ⟨by simp [h0],by simp [h1],by simp⟩
 ·rintro e L hL ⟨h0,h1,h5⟩;rw [L8];simp [c_354_l0,c_354_k1,h0,h5,hL]
 ·simp
theorem Cx (c:Xf) (k:Nat) (l:List Rw) (nx:Int) (hk:k<c.rows.length) (hn:c.Xr.length=c.rows.length) (hl:c.rows.length<2^40):
  aA Φ oC [.agg (Xf.c c),a8 k,.slice 5 (l.map Rw.c),a8 nx]=some (.val (.agg (Xf.c ⟨c.rows.set k l,c.Xr.set k nx,c.Xq,c.Xm⟩))):=by
 rw [aD rfl rfl];generalize hR:c.rows.set k l=R;generalize hNn:c.Xr.set k nx=M;have hRl:R.length=c.rows.length:=by rw [<- hR];simp
 have hMl:M.length=c.rows.length:=by rw [<- hNn];simp [hn]
 generalize hQ:(fun r:Option Rt=>r=some (Rt.val (.agg (Xf.c ⟨R,M,c.Xq,c.Xm⟩))))=Q;have hq:∀r,Q r=(r=some (Rt.val (.agg (Xf.c ⟨R,M,c.Xq,c.Xm⟩)))):=fun r=>by rw [<- hQ]
 rw [<- hq];clear hQ;simp [FV,Xf.ce];refine fF c.rows.length (fun i e h=>∃(O':List (Nat×AO)) (N':Nat) (w1 w2:AV),h=⟨O',N'⟩/\Tail O' N'/\look 0 O'=some (.row 4 [[.Xu 1 [],.Xu 1 [],.Xu 2 [],.Xu 1 []]])/\look 1 O'=some (.row 4 [[w1,w2,.slice 2 (c.Xq.map Xb.c),.slice 1 (c.Xm.map (cS 1 c32))]])/\
   ((i=0/\w1= .Xu 1 []/\w2= .Xu 1 [])\/∃a b,w1= .app 1 ((R.map (cS 5 Rw.c)).take i) a/\look a O'=some (.tok 1 i)/\w2= .app 1 ((M.map cI).take i) b/\look b O'=some (.tok 1 i)/\a≠b)/\
   look 1 e=some (a8 k)/\look 2 e=some (.slice 5 (l.map Rw.c))/\look 3 e=some (a8 nx)/\look 4 e=some (.iptr 4 [Xf.c c] 0 0)/\look 8 e=some (.ptr 0 4 0 0)/\look 9 e=some (.ptr 1 4 0 0)/\look 10 e=some (a8 i)) Q ?_ ?_ 0 _ _ (Qc _) ?_
 ·rintro i e _ L hi hL ⟨O',N',w1,w2,rfl,hT',l0,l1,hw,e1,e2,e3,e4,e8,e9,e10⟩ ih;have hw1:=aL i (by omega);have i2:i<c.Xr.length:=by omega
  have iR:i<R.length:=by omega
  have iM:i<M.length:=by omega
  have t0:=hT' N' (Qb _);have t1:=hT' (N'+1) (by omega);have nz:¬N'=0:=by have:=hT'.lt l1;omega
  have n1:1<N':=hT'.lt l1;have n2:¬N'=1:=by omega
  have n3:¬1=N':=by omega
  have n4:¬0=N':=by omega
  have hTm:Tail O' (N'+1+1):=hT'.mono (by omega);have sR:(R.map (cS 5 Rw.c)).take (i+1)=(R.map (cS 5 Rw.c)).take i++[cS 5 Rw.c R[i]]:=mJ iR;have sM:(M.map cI).take (i+1)=(M.map cI).take i++[cI M[i]]:=mJ iM;rw [cSe] at sR;rw [cIe] at sM;rw [Xf.ce] at e4;have mR:min i R.length=i:=by omega
  have mM:min i M.length=i:=by omega
  have c1:(i+1)*24<=70368744177664:=by omega
  have c2:(i+1)*8<=70368744177664:=by omega
  by_cases hik:i=k
  ·have vR:R[i]=l:=by simp [<- hR,hik]
   have vM:M[i]=nx:=by simp [<- hNn,hik]
   rw [vR] at sR;rw [vM] at sM;have d0:(i=k)=True:=eq_true hik;rcases hw with ⟨rfl,rfl,rfl⟩ | ⟨a,b,rfl,la,rfl,lb,hab⟩
   ·have hk0:k=0:=hik.symm;simp [c_353_l0,e1,e2,e3,e4,e9,e10,hi,hk0,t0,t1,wr1,aC,aB,l1,n2,nz];refine ih _ _ ⟨_,_,_,_,rfl,?_,?_,?_,.inr ⟨N',N'+1,by rw [sR],?_,by rw [sM],?_,by omega⟩,?_,?_,?_,?_,?_,?_,?_⟩
    ·repeat' first | exact hTm | apply bV | apply NM | omega
    ·simp [aC,aB,l0]
    ·simp [aC,aB,l1]
    ·simp [aC,aB,n2,t0]
    ·simp [aB,t1,nz]
    all_goals simp [e1,e2,e3,e4,e8,e9,Xf.ce,hk0]
   ·have i0:0≠a:=aP l0 la (by simp);have i1:1≠a:=aP l1 la (by simp);have i2:0≠b:=aP l0 lb (by simp);have i3:1≠b:=aP l1 lb (by simp);have j0:=i0.symm;have j1:=i1.symm;have j2:=i2.symm;have j3:=i3.symm;have hba:=hab.symm;simp [c_353_l0,e1,e2,e3,e4,e9,e10,hi,d0,hw1,aB,l1,la,lb,i1,i3,j3,hba,mR,mM,c1,c2];refine ih _ _ ⟨_,_,_,_,rfl,?_,?_,?_,.inr ⟨a,b,by rw [sR],?_,by rw [sM],?_,hab⟩,?_,?_,?_,?_,?_,?_,?_⟩
    ·repeat' first | exact hT' | apply bV
    ·simp [aB,l0,i0,i2]
    ·simp [aB,l1,i1,i3]
    ·simp [aB,la,j1,hab]
    ·simp [aB,lb,j3,hba]
    all_goals simp [e1,e2,e3,e4,e8,e9,Xf.ce]
  ·have vR:R[i]=c.rows[i]:=by simp [<- hR,show ¬k=i by omega]
   have vM:M[i]=c.Xr[i]:=by simp [<- hNn,show ¬k=i by omega]
   rw [vR] at sR;rw [vM] at sM;have d0:¬(i:Int)=(k:Int):=by omega
   rcases hw with ⟨rfl,rfl,rfl⟩ | ⟨a,b,rfl,la,rfl,lb,hab⟩
   ·have hk0:¬k=0:=fun h=>hik h.symm
    have hk1:¬0=k:=fun h=>hik h
    simp [c_353_l0,cSe,cIe,e1,e4,e9,e10,hi,i2,hk1,t0,t1,wr1,aC,aB,l1,n2,nz];refine ih _ _ ⟨_,_,_,_,rfl,?_,?_,?_,.inr ⟨N',N'+1,by rw [sR],?_,by rw [sM],?_,by omega⟩,?_,?_,?_,?_,?_,?_,?_⟩
    ·repeat' first | exact hTm | apply bV | apply NM | omega
    ·simp [aC,aB,l0]
    ·simp [aC,aB,l1]
    ·simp [aC,aB,n2,t0]
    ·simp [aB,t1,nz]
    all_goals simp [e1,e2,e3,e4,e8,e9,Xf.ce]
   ·have i0:0≠a:=aP l0 la (by simp);have i1:1≠a:=aP l1 la (by simp);have i2':0≠b:=aP l0 lb (by simp);have i3:1≠b:=aP l1 lb (by simp);have j0:=i0.symm;have j1:=i1.symm;have j2:=i2'.symm;have j3:=i3.symm;have hba:=hab.symm;simp [c_353_l0,cSe,cIe,e1,e4,e9,e10,hi,i2,d0,hw1,aB,l1,la,lb,i1,i3,j3,hba,mR,mM,c1,c2];refine ih _ _ ⟨_,_,_,_,rfl,?_,?_,?_,.inr ⟨a,b,by rw [sR],?_,by rw [sM],?_,hab⟩,?_,?_,?_,?_,?_,?_,?_⟩
    ·repeat' first | exact hT' | apply bV
    ·simp [aB,l0,i0,i2']
    ·simp [aB,l1,i1,i3]
    ·simp [aB,la,j1,hab]
    ·simp [aB,lb,j3,hba]
    all_goals simp [e1,e2,e3,e4,e8,e9,Xf.ce]
 ·rintro e _ L hL ⟨O',N',w1,w2,rfl,hT',l0,l1,hw,e1,e2,e3,e4,e8,e9,e10⟩;rw [Xf.ce] at e4;simp [c_353_l0,c_353_k1,e4,e8,e9,e10,hL,l0,l1,aB];rw [hq];have tR:(R.map (cS 5 Rw.c)).take c.rows.length=R.map (cS 5 Rw.c):=Qo (by simp;omega);have tM:(M.map cI).take c.rows.length=M.map cI:=Qo (by simp;omega);rcases hw with ⟨hz,rfl,rfl⟩ | ⟨a,b,rfl,la,rfl,lb,hab⟩
  ·omega
  ·rw [tR,tM];simp [Xf.ce]
 ·refine ⟨_,_,.Xu 1 [],.Xu 1 [],rfl,?_,?_,?_,.inl ⟨rfl,rfl,rfl⟩,?_,?_,?_,?_,?_,?_,?_⟩
  all_goals simp [Tail_cons_iff,pS,Xf.ce]
end Go.Av
