/-
 The parser runs.
-/
import Derived.Test.YtcehjengeaafpaaGreatVP2
set_option linter.unusedVariables false
set_option linter.unusedSimpArgs false
set_option linter.constructorNameAsVariable false
namespace Go.Av
set_option maxRecDepth 6000
def PEo (p:Prg) (O:List (Nat×AO)) (B:Nat) (V F M:AV) (e:Envt):Prop:=∃iv jf im A,V= .row iv 1 0 p.Xo.length/\F= .row jf 1 0 p.Xo.length/\M= .row im 1 0 p.Xn.length/\PE O B iv jf im A e/\e.valid.length=p.Xo.length/\e.Xz.length=p.Xo.length/\e.metaF.length=p.Xn.length
theorem PEo.snp {p:Prg} {O:List (Nat×AO)} {B:Nat} {V F M:AV} {e:Envt} (h:PEo p O B V F M e) (N m:Nat):snap (m+3) ⟨O,N⟩ V=some (.slice 1 (e.valid.map cB))/\snap (m+3) ⟨O,N⟩ F=some (.slice 1 (e.Xz.map (cS 1 c32)))/\snap (m+3) ⟨O,N⟩ M=some (.slice 1 (e.metaF.map c32)):=by
 obtain ⟨iv,jf,im,A,rfl,rfl,rfl,pe,h1,h2,h3⟩:=h;have:=pe.snp (N:=N) m;rw [h1,h2,h3] at this;cases q1:snap (m+3) ⟨O,N⟩ (.row iv 1 0 p.Xo.length)<;>cases q2:snap (m+3) ⟨O,N⟩ (.row jf 1 0 p.Xo.length)<;>cases q3:snap (m+3) ⟨O,N⟩ (.row im 1 0 p.Xn.length)<;>simp only [mapO,q1,q2,q3] at this
 all_goals first | cases this | skip
 exact ⟨rfl,rfl,rfl⟩
def Sn3 (O:List (Nat×AO)) (V F M:AV) (e:Envt):Prop:=∀N,(snap 39 ⟨O,N⟩ V=some (.slice 1 (e.valid.map cB))/\snap 39 ⟨O,N⟩ F=some (.slice 1 (e.Xz.map (cS 1 c32)))/\snap 39 ⟨O,N⟩ M=some (.slice 1 (e.metaF.map c32)))/\
 (snap 38 ⟨O,N⟩ V=some (.slice 1 (e.valid.map cB))/\snap 38 ⟨O,N⟩ F=some (.slice 1 (e.Xz.map (cS 1 c32)))/\snap 38 ⟨O,N⟩ M=some (.slice 1 (e.metaF.map c32)))
theorem PEo.sn3 {p:Prg} {O:List (Nat×AO)} {B:Nat} {V F M:AV} {e:Envt} (h:PEo p O B V F M e):Sn3 O V F M e:=fun N=>⟨h.snp N 36,h.snp N 35⟩
theorem PEo.fr {p:Prg} {O O':List (Nat×AO)} {B:Nat} {V F M:AV} {e:Envt} (h:PEo p O B V F M e) (hf:∀j es,B<=j->look j O=some (.row 1 es)->look j O'=some (.row 1 es)):PEo p O' B V F M e:=by
 obtain ⟨iv,jf,im,A,rfl,rfl,rfl,pe,h1,h2,h3⟩:=h;exact ⟨iv,jf,im,A,rfl,rfl,rfl,pe.fr hf,h1,h2,h3⟩
theorem Kk {p:Prg} {d:List Int}:∀(l:List Int) {x y:Envt×Nat},exHs p d l x=some y->y.1.valid.length=x.1.valid.length/\y.1.Xz.length=x.1.Xz.length/\y.1.metaF=x.1.metaF/\y.1.payload=x.1.payload
 | [],x,y,h=>by cases h;exact ⟨rfl,rfl,rfl,rfl⟩
 | a::l,x,y,h=>by
  obtain ⟨u,h1,h2⟩:=Qt.1 h;have ih:=Kk l h2;unfold exH at h1;split at h1
  ·cases h1
  split at h1
  ·cases h1
  ·cases h1;simpa using ih
theorem Oa {p:Prg} (hd:∀h∈p.Xo,hdrE h=0) {d:List Int}:∀(l:List Int) {x y:Envt×Nat},x.2 % 8=0->exHs p d l x=some y->y.2 % 8=0
 | [],x,y,q,h=>by cases h;exact q
 | a::l,x,y,q,h=>by
  obtain ⟨u,h1,h2⟩:=Qt.1 h;refine Oa hd l ?_ h2;unfold exH at h1;split at h1
  ·cases h1
  rename_i g hg;split at h1
  ·cases h1
  ·cases h1;obtain ⟨m,rfl,hm,rfl⟩:=iG hg;have v:=vhdr (hd _ (Qd hm));have:=v.s;simp only;omega
def RunP (p:Prg) (R:Option Envt) (r:Option Rt):Prop:=match R with
 | some e=>∃l,r=some (.val (.tup [.agg e.c,.slice 1 l,.int .i64 0]))
 | none=>∃l c,c≠0/\r=some (.val (.tup [.agg (eNew p).c,.slice 1 l,.int .i64 c]))
structure RI (p:Prg) (d:List Int) (R:Option Envt) (c id t tk n:Nat) (E:Env) (O:List (Nat×AO)) (N:Nat) (V F M:AV) (L:List Int) (s:Int) (x:Envt×Nat):Prop where
 e1:look 2 E=some (.iptr 9 [p.c] 0 0)
 e4:look 4 E=some (.ptr 0 4 0 0)
 e7:look 7 E=some (.ptr c 4 0 0)
 e9:look 9 E=some (.ptr id 3 0 0)
 e10:look 10 E=some (.app 1 (L.map cI) tk)
 e11:look 11 E=some (a7 s)
 l0:look 0 O=some (.row 4 [z4])
 lc:look c O=some (.row 4 [[V,F,M,.Xt 1 []]])
 li:look id O=some (rdr d t x.2)
 lt:look tk O=some (.tok 1 L.length)
 pe:PEo p O 1 V F M x.1
 q:x.2<=8*d.length/\x.2 % 8=0
 pl:x.1.payload=[]
 hT:Tail O N
 hN:NR O
 hL:L.length+n<=p.Xw.length+1
 hR:R=prF p d n s x
 hs:s= -1\/s= -2\/∃k:Nat,s=k/\k<p.Xw.length/\p.Xw.length+1<=n+k
 n0:0<n
 ev:EV p x.1
 c0:¬c=0/\¬0=c
theorem Ez {p:Prg} (w:PWd p) {O:List (Nat×AO)} {N:Nat} (hT:Tail O N) (hN:NR O) (l0:look 0 O=some (.row 4 [z4])):
  ∃O' N' V F M,aH Φ g7 [.agg p.c] ⟨O,N⟩=some (.val (.agg [V,F,M,.Xt 1 []]),⟨O',N'⟩)/\look 0 O'=some (.row 4 [z4])/\PEo p O' N V F M (eNew p)/\Kp (fun _=>False) N O O'/\Tail O' N'/\NR O'/\N<=N'/\
   Sn3 (setl 0 (.row 4 [[V,F,M,.Xt 1 []]]) O') V F M (eNew p):=by
 obtain ⟨O',N',iv,jf,im,A,hr,pe,kp,T,R,hn⟩:=V6 hT hN w;have l0':look 0 O'=some (.row 4 [z4]):=by rw [kp 0 (hT.lt l0) (by simp),l0]
 have po:PEo p O' N (.row iv 1 0 p.Xo.length) (.row jf 1 0 p.Xo.length) (.row im 1 0 p.Xn.length) (eNew p):=⟨iv,jf,im,A,rfl,rfl,rfl,pe,by simp [eNew],by simp [eNew],by simp [eNew]⟩;exact ⟨O',N',_,_,_,hr,l0',po,kp,T,R,hn,(po.fr fun j es _ hj=>by rw [aA,QA (bO hj l0' (by simp)),hj]).sn3⟩
theorem qzh {p:Prg} {k:Nat} {s:Xc} (v:VSt p k s) (e:Envt):nJ p k (nxS s e)=true:=by
 unfold nxS;split
 ·cases q:s.cases.find? fun c=>decide (iand .u32 (eGet e s.on.header s.on.field) c.Yd=c.value) with
  | none=>exact v.df
  | some c=>exact v.cs c (PL q)
 ·exact v.df
theorem SW {p:Prg} (fs:PrgS p) (w:PWd p) (hd:∀h∈p.Xo,hdrE h=0) (vp:VPar p) {d:List Int} (hb:bOk d) (hl:d.length<=512) {R:Option Envt} {c id t tk n:Nat} {E:Env} {O:List (Nat×AO)} {N:Nat} {V F M:AV} {L:List Int} {s:Int} {x:Envt×Nat} (h:RI p d R c id t tk n E O N V F M L s x):
  RunP p R (go Φ (finP gW.results) [.c (.loop c_170_l0),.b 0,.c c_170_k1] .normal ⟨E,⟨O,N⟩⟩):=by
 refine loopQ (U:=Nat) (fun n=>n) (fun n E h=>∃O N V F M L s x,h=⟨O,N⟩/\RI p d R c id t tk n E O N V F M L s x) (fun _ r=>RunP p R r) ?_ n E _ ⟨_,_,_,_,_,_,_,_,rfl,h⟩;rintro n E _ K hK ⟨O,N,V,F,M,L,s,x,rfl,h⟩ ih;obtain ⟨e1,e4,e7,e9,e10,e11,l0,lc,li,lt,pe,q,pl,hT,hN,hL,hR,hs,n0,ev,c0⟩:=h;rcases hs with rfl | rfl | ⟨k,rfl,hk,hkn⟩
 ·have hRR:R=some { x.1 with payload:=d.drop (x.2 / 8) }:=by
   obtain ⟨m,rfl⟩:∃m,n=m+1:=⟨n - 1,by omega⟩;rw [hR,prF,a8 rfl]
  have hr:=Ko hT hN li hl q.1;rw [rstV,rstE,rstL,a8 q.2,a8 q.2,a8 q.2,a8 q.2] at hr;rw [z4] at l0;have sn:=(pe.fr (O':=setl 0 (AO.row 4 [[V,F,M,.app 1 ((d.drop (x.2 / 8)).map c8) N]]) (setl c (AO.row 4 [[V,F,M,.app 1 ((d.drop (x.2 / 8)).map c8) N]]) (O++[(N,.tok 1 (d.length - x.2 / 8))]))) fun j es _ hj=>by rw [aA,QA (bO hj l0 (by simp)),aA,QA (bO hj lc (by simp)),bK hj]).sn3;unfold Sn3 at sn;generalize hQ:(d.drop (x.2 / 8))=rs at*;simp [gW,c_170_l0,c_170_k1,e11] at hK ⊢;simp [c_170_k1,hK,e4,e7,e10,e11,e9,hr,aE,l0,lc,aA,c0,sn];rw [hRR];exact ⟨_,rfl⟩
 ·have hRR:R=none:=by
   obtain ⟨m,rfl⟩:∃m,n=m+1:=⟨n - 1,by omega⟩;rw [hR,prF,QA (by decide),gC (by decide)]
  obtain ⟨O1,N1,V1,F1,M1,hr,l1,-,-,-,-,-,sn⟩:=Ez w hT hN l0;rw [Prg.c] at hr e1;rw [z4] at l1;unfold Sn3 at sn;simp [gW,c_170_l0,c_170_k1,e11] at hK ⊢;simp [c_170_k1,hK,e1,e4,e10,e11,e9,hr,l1,aA,sn];rw [hRR];exact ⟨_,15,by decide,rfl⟩
 ·have ck0:¬(k:Int)<0:=by omega
  have lL:(L.length+1)*8<=70368744177664:=by have:=vp.n;omega
  have ctk:¬c=tk/\¬tk=c:=by
   have:=bO lc lt (by simp);exact ⟨this,fun e=>this e.symm⟩
  have ztk:¬0=tk/\¬tk=0:=by
   have:=bO l0 lt (by simp);exact ⟨this,fun e=>this e.symm⟩
  have itk:¬id=tk:=bO li lt (by simp [rdr]);obtain ⟨O1,hO1⟩:∃O1,setl tk (.tok 1 (L.length+1)) O=O1:=⟨_,rfl⟩;have fr1:∀{j:Nat} {y:AO},j≠tk->look j O=some y->look j O1=some y:=fun {j y} h1 h2=>by rw [<- hO1,aA,QA h1,h2]
  have lc1:=fr1 ctk.1 lc;have l01:=fr1 ztk.1 l0;have li1:=fr1 itk li;have lt1:look tk O1=some (.tok 1 (L.length+1)):=by rw [<- hO1,aA,a8 rfl,lt];rfl
  have T1:Tail O1 N:=by rw [<- hO1];exact bW hT
  have R1:NR O1:=by rw [<- hO1];exact NR.setl (by simp) hN
  have pe1:PEo p O1 1 V F M x.1:=pe.fr fun j es _ hj=>fr1 (bO hj lt (by simp)) hj
  have vs:=vp.s k hk;have hmem:=Qd hk;have hle:=fun e=>qzh vs e
  obtain ⟨m,rfl⟩:∃m,n=m+1:=⟨n - 1,by omega⟩;rw [prF,QA (by omega),nK,Qa hk] at hR;simp only at hR;obtain ⟨iv,jf,im,A,hV,hF,hM,pe2,p1,p2,p3⟩:=pe1;have hex:=Y8 fs hd (s:=p.Xw[k]) vs.ex (fs.se _ hmem) hb hl (P:= .Xt 1 []) (x:=x) T1 R1 li1 q.1 pe2 p1 p2;rw [<- hV,<- hF,<- hM] at hex;have hcs:=fs.sv _ hmem;have hcl:=fs.sc _ hmem;have hcm:=vs.cm;generalize hst:p.Xw[k]=st at*;obtain ⟨O2,N2,kp,T2,R2,n2,hex⟩:=hex;have nF:∀{j z:Nat} {es:List (List AV)},z≠1->z≠3->look j O1=some (.row z es)->¬Fx id iv jf j:=fun {j z es} h1 h3 hj hf=>by
   rcases hf with hf | hf | hf
   ·exact bO hj li1 (by simp [rdr,h3]) hf
   ·exact bO hj pe2.lv (by simp [h1]) hf
   ·exact bO hj pe2.lf (by simp [h1]) hf
  have l02:look 0 O2=some (.row 4 [z4]):=by rw [kp 0 (T1.lt l01) (nF (by decide) (by decide) l01),l01]
  have lc2:look c O2=_:=(kp c (T1.lt lc1) (nF (by decide) (by decide) lc1)).trans lc1;have lt2:look tk O2=some (.tok 1 (L.length+1)):=by
   rw [kp tk (T1.lt lt1) (fun hf=>?_),lt1];rcases hf with hf | hf | hf
   ·exact bO lt1 li1 (by simp [rdr]) hf
   ·exact bO lt1 pe2.lv (by simp) hf
   ·exact bO lt1 pe2.lf (by simp) hf
  cases hy:exHs p d st.extract x with
  | none=>
   rw [hy] at hex hR;simp only at hex;obtain ⟨O3,N3,V3,F3,M3,hr,l3,-,-,-,-,-,sn⟩:=Ez w T2 R2 l02;rw [Prg.c] at hr hex e1;rw [Xc.c] at hex;rw [z4] at l3;unfold Sn3 at sn;simp [gW,c_170_l0,Xc.c,e11,ck0,hk,hst,e10,lt,e1,e4,e7,e9,lc1,lL,hO1,hex,hr,l3,aA,sn];rw [hR];exact ⟨_,3,by decide,rfl⟩
  | some y=>
   rw [hy] at hex hR;obtain ⟨hex,A2,pe3,li2,qy⟩:=hex;obtain ⟨g1,g2,g3,g4⟩:=Kk _ hy;have g5:=Oa hd _ q.2 hy;have ev2:EV p y.1:=ev.exHs (fun g hg f hf=>(vhdr (hd g hg)).w f hf) _ hy;have nx:=W1 (s:=st) (e:=y.1) (Mj ev2 (fun h f=>(OV p h f).2) _ _) hcl hcs hcm;have po:PEo p O2 1 V F M y.1:=⟨iv,jf,im,A2,hV,hF,hM,pe3,by rw [g1,p1],by rw [g2,p2],by rw [g3,p3]⟩;have sn:=po.sn3;unfold Sn3 at sn;have pl2:=g4.trans pl;rw [gI] at hR;rw [Prg.c] at hex e1;rw [Xc.c] at hex nx;rw [Envt.ce,pl2] at nx;simp only [yF] at nx;simp [c_170_l0,Xc.c,e11,ck0,hk,hst,e10,lt,e1,e4,e7,e9,lc1,lc2,lL,hO1,hex,sn,nx];have hl2:=qzb (hle y.1);refine ih m _ _ (by omega) ⟨O2,N2,V,F,M,L++[(k:Int)],nxS st y.1,y,rfl,?_⟩;refine ⟨by simp [e1,Prg.c],by simp [e4],by simp [e7],by simp [e9],by simp [cI],by simp,l02,lc2,li2,by simpa using lt2,po,⟨qy,g5⟩,pl2,T2,R2,by simp;omega,hR,?_,by omega,ev2,c0⟩;rcases hl2 with h | h | ⟨j,h1,h2,h3⟩
   ·exact .inl h
   ·exact .inr (.inl h)
   ·exact .inr (.inr ⟨j,h1,h3,by omega⟩)
theorem ZR {p:Prg} (fs:PrgS p) (w:PWd p) (hd:∀h∈p.Xo,hdrE h=0) (hp:(parE p).2.2=0) {d:List Int} (hb:bOk d):RunP p (prs p d) (aB Φ lY [.agg p.c,.slice 1 (d.map c8)]):=by
 rw [aD rfl rfl];have vp:=vpar hp;have T1:Tail [(0,AO.row 4 [z4])] 1:=Tail_cons_iff.2 ⟨by omega,Tail.nil _⟩;obtain ⟨O1,N1,V,F,M,hr,l0,po,kp,T,R,n1,-⟩:=Ez w T1 (.one (by simp)) rfl;have rf:=qzt fs hd hp d;have tt:=T N1 (Qb _);have n0:¬0=N1/\¬N1=0:=by omega
 rw [Prg.c] at hr rf;rw [z4] at hr l0;by_cases hl:512<d.length
 ·rw [a8 hl] at rf;rw [prs,a8 hl];have sn:=(po.fr (O':=setl 0 (AO.row 4 [[V,F,M,.Xt 1 []]]) (O1++[(N1,.row 4 [[V,F,M,.Xt 1 []]])])) fun j es _ hj=>by rw [aA,QA (bO hj l0 (by simp)),bK hj]).sn3;unfold Sn3 at sn;simp [gW,Prg.c,hr,rf,tt,aE,aA,n0,l0,sn];exact ⟨_,4,by decide,rfl⟩
 ·rw [QA hl] at rf;rw [prs,QA hl];have nr:=W0 (O:=O1++[(N1,.row 4 [[V,F,M,.Xt 1 []]])]) (N:=N1+1) (d:=d) (Tail_append_iff.2 ⟨T.mono (by omega),Tail_cons_iff.2 ⟨by omega,Tail.nil _⟩⟩) (by omega);have tk:∀k,look (N1+k) O1=none:=fun k=>T _ (by omega)
  simp [gW,Prg.c,hr,rf,tt,tk,aE,aA,n0,l0,nr,eC];have n1p:1<=p.Xw.length:=vp.n.1;refine SW fs w hd vp hb (by omega) (c:=N1) (id:=N1+2) (t:=N1+1) (tk:=N1+3) (n:=p.Xw.length+1) (V:=V) (F:=F) (M:=M) (L:=[]) (s:=0) (x:=(eNew p,0)) ?_;have lt4:∀k,k<4->N1+k<N1+4:=fun k h=>by omega
  refine ⟨by simp [Prg.c],by simp,by simp,by simp,by simp,by simp,?_,?_,?_,?_,?_,by simp,by simp [eNew],?_,?_,by simp,rfl,.inr (.inr ⟨0,rfl,by omega,by omega⟩),by omega,EV.new p,by omega⟩
  ·rw [aE,l0];rfl
  ·simp [aE,tt]
  ·simp [aE,tk]
  ·simp [aE,tk]
  ·exact po.fr fun j es _ hj=>bK hj
  ·simp only [Tail_append_iff,Tail_cons_iff];exact ⟨T.mono (by omega),lt4 0 (by decide),lt4 1 (by decide),lt4 2 (by decide),lt4 3 (by decide),Tail.nil _⟩
  ·exact R.app (cK (by simp) (cK (by simp) (cK (by simp [rdr]) (.one (by simp)))))
def ParP (p:Prg) (R:Option Envt) (r:Option Rt):Prop:=match R with
 | some e=>r=some (.val (.tup [.agg e.c,.int .i64 0]))
 | none=>∃c,c≠0/\r=some (.val (.tup [.agg (eNew p).c,.int .i64 c]))
theorem SJ {p:Prg} (fs:PrgS p) (w:PWd p) (hd:∀h∈p.Xo,hdrE h=0) (hp:(parE p).2.2=0) {d:List Int} (hb:bOk d):ParP p (prs p d) (aB Φ tN [.agg p.c,.slice 1 (d.map c8)]):=by
 rw [aD rfl rfl];have h:=ZR fs w hd hp hb;rw [Prg.c] at h;cases q:prs p d with
 | some e=>
  rw [q] at h;obtain ⟨l,h⟩:=h;rw [Envt.ce] at h;simp only [ParP];simp [sF,Prg.c,h,Envt.ce]
 | none=>
  rw [q] at h;obtain ⟨l,c,hc,h⟩:=h;rw [Envt.ce] at h;refine ⟨c,hc,?_⟩;simp [sF,Prg.c,h,Envt.ce]
theorem S1 {p:Prg} {h f v:Int} (h0:0<=v/\v<2^(wid p h f).toNat):v<=cP (wid p h f):=by
 have hw:=OV p h f;by_cases z:wid p h f=0
 ·rw [z] at h0 ⊢;simp at h0;have:cP 0=0:=by decide
  omega
 ·rw [KT (by omega) (by omega)];omega
theorem Ln {p:Prg} {h:Int} {l:List Int} (hl:l.length<2^40) (hv:∀(i:Nat) (v:Int),l[i]? =some v->0<=v/\v<2^(wid p h i).toNat):aB Φ qN [.agg p.c,a7 h,.slice 1 (l.map c32)]=some (.val (.bool true)):=by
 rw [aD rfl rfl];simp [DP,Prg.c];refine eF l.length (fun i E H=>look 9 E=some (.slice 1 (l.map c32))/\look 10 E=some (a7 l.length)/\look 11 E=some (a7 i)/\look 1 E=some (a7 h)/\look 3 E=some (.iptr 9 [p.c] 0 0)/\H.objs=[]) (fun (r:Option Rt)=>r=some (.val (.bool true))) ?_ ?_ 0 _ _ (Qc _) ?_
 rotate_left 2
 ·exact ⟨by simp,by simp,by simp,by simp,by simp [Prg.c],rfl⟩
 ·rintro i E ⟨objs,n⟩ K hi hK ⟨e9,e10,e11,e1,e3,hH⟩ ih;cases hH;have hw:=aP i (by omega);have hwd:=IP p h i;have hm:=gH (wid p h i);have hle:¬cP (wid p h i)<l[i]:=by
   have:=S1 (hv i l[i] (Qa hi));omega
  rw [Prg.c] at hwd e3;generalize hx:l[i]=x at*;simp [c_399_l0,c32,e9,e10,e11,e1,e3,hi,hx,hw,hwd,hm,hle];refine ih _ _ ?_;exact ⟨by simp [e9],by simp [e10],by simp,by simp [e1],by simp [e3,Prg.c],rfl⟩
 ·rintro E ⟨objs,n⟩ K hK ⟨e9,e10,e11,e1,e3,hH⟩;cases hH;simp [c_399_l0,e10,e11] at hK ⊢;simp [c_399_k1,hK]
theorem RJ {l:List Int} (hl:l.length<2^40) (hz:∀v∈l,v=0):aB Φ vR [.slice 1 (l.map c32)]=some (.val (.bool true)):=by
 rw [aD rfl rfl];have h1:aB Φ jY [.int .u32 0]=some (.val (.bool false)):=by
  rw [aD rfl rfl];simp [DU]
 have h2:aB Φ vY [.slice 1 (l.map c32),.func (.func jY) [] []]=some (.val (a7 (-1))):=by
  rw [aD rfl rfl];simp [DV];refine eF l.length (fun i E H=>look 0 E=some (.slice 1 (l.map c32))/\look 1 E=some (.func (.func jY) [] [])/\look 7 E=some (a7 l.length)/\look 8 E=some (a7 i)/\H.objs=[]) (fun (r:Option Rt)=>r=some (.val (a7 (-1)))) ?_ ?_ 0 _ _ (Qc _) ?_
  rotate_left 2
  ·exact ⟨by simp,by simp,by simp,by simp,rfl⟩
  ·rintro i E ⟨objs,n⟩ K hi hK ⟨e0,e1,e7,e8,hH⟩ ih;cases hH;have hw:=aP i (by omega);have hx:=hz _ (Qd hi);simp [c_410_l0,c32,e0,e1,e7,e8,hi,hx,hw,h1];refine ih _ _ ?_;exact ⟨by simp [e0],by simp [e1],by simp [e7],by simp,rfl⟩
  ·rintro E ⟨objs,n⟩ K hK ⟨e0,e1,e7,e8,hH⟩;cases hH;simp [c_410_l0,e7,e8] at hK ⊢;simp [c_410_k1,hK]
 have h3:aB Φ vX [.slice 1 (l.map c32),.func (.func jY) [] []]=some (.val (.bool false)):=by
  rw [aD rfl rfl];simp [DT,h2]
 simp [DQ,h3]
theorem qwt {p:Prg} (w:PWd p) {e:Envt} (ev:EV p e):aB Φ vQ [.agg p.c,.agg e.c]=some (.val (.bool true)):=by
 rw [aD rfl rfl];simp [DO,Prg.c,Envt.ce,ev.v,ev.f,ev.m];refine eF e.Xz.length (fun i E H=>look 2 E=some (.iptr 9 [p.c] 0 0)/\look 33 E=some (.slice 1 (e.Xz.map (cS 1 c32)))/\look 34 E=some (a7 e.Xz.length)/\look 35 E=some (a7 i)/\H.objs=[]) (fun (r:Option Rt)=>r=some (.val (.bool true))) ?_ ?_ 0 _ _ (Qc _) ?_
 rotate_left 2
 ·exact ⟨by simp [Prg.c],by simp,by simp [ev.f],by simp,rfl⟩
 ·rintro i E ⟨objs,n⟩ K hi hK ⟨e2,e33,e34,e35,hH⟩ ih;cases hH;have hi2:i<p.Xo.length:=by rw [<- ev.f];exact hi
  have hw:IntKind.wrap .i64 ((i:Int)+1)=((i+1:Nat):Int):=cM (by omega) (by have:=w.hl;omega);have hg:=ev.g i hi hi2;rw [Prg.c] at e2;simp [c_398_l0,cS,Xi.c,e2,e33,e34,e35,hi,hi2,hw,hg];refine ih _ _ ?_;exact ⟨by simp [e2,Prg.c],by simp [e33],by simp [e34],by simp,rfl⟩
 ·rintro E ⟨objs,n⟩ K hK ⟨e2,e33,e34,e35,hH⟩;cases hH;simp [c_398_l0,e34,e35] at hK ⊢;simp [c_398_k1,hK]
theorem Q9 {p:Prg} (w:PWd p) {e:Envt} (ev:EV p e) (pl:e.payload.length<2^40):aB Φ vA [.agg p.c,.agg e.c]=some (.val (a7 0)):=by
 rw [aD rfl rfl];have h1:=qwt w ev;have h2:=Ln (p:=p) (h:= -1) (l:=e.metaF) (by rw [ev.m];exact w.ml) ev.fm;have hfl:e.Xz.length<2^40:=by rw [ev.f];exact w.hl
 have hgl:∀(i:Nat) (h:i<e.Xz.length),e.Xz[i].length<2^40:=fun i h=>by
  rw [ev.g i h (by rw [<- ev.f];exact h)];exact w.hf _ (Qd _)
 rw [Envt.ce,Prg.c] at h1;rw [Prg.c] at h2;simp [D4,Prg.c,Envt.ce,h1,h2];refine eF e.Xz.length (fun i E H=>look 2 E=some (.iptr 9 [p.c] 0 0)/\look 3 E=some (.iptr 4 [e.c] 0 0)/\look 19 E=some (.slice 1 (e.Xz.map (cS 1 c32)))/\look 20 E=some (a7 e.Xz.length)/\look 21 E=some (a7 i)/\H.objs=[]) (fun (r:Option Rt)=>r=some (.val (a7 0))) ?_ ?_ 0 _ _ (Qc _) ?_
 rotate_left 2
 ·exact ⟨by simp [Prg.c],by simp [Envt.ce],by simp,by simp,by simp,rfl⟩
 ·rintro i E ⟨objs,n⟩ K hi hK ⟨e2,e3,e19,e20,e21,hH⟩ ih;cases hH;have hw:=aP i (by omega);have hf:=Ln (p:=p) (h:=i) (l:=e.Xz[i]) (hgl i hi) (fun k v hk=>ev.ff i k _ v (Qa hi) hk);rw [Prg.c] at e2 hf;simp [c_362_l0,cS,e2,e3,e19,e20,e21,hi,hw,hf];refine ih _ _ ?_;exact ⟨by simp [e2,Prg.c],by simp [e3],by simp [e19],by simp [e20],by simp,rfl⟩
 ·rintro E ⟨objs,n⟩ K hK ⟨e2,e3,e19,e20,e21,hH⟩;cases hH;rw [Envt.ce] at e3;simp [c_362_l0,e20,e21] at hK ⊢;simp [c_362_k3,hK,e3];refine eF e.Xz.length (fun i E H=>look 3 E=some (.iptr 4 [e.c] 0 0)/\look 33 E=some (.slice 1 (e.Xz.map (cS 1 c32)))/\look 34 E=some (a7 e.Xz.length)/\look 35 E=some (a7 i)/\H.objs=[]) (fun (r:Option Rt)=>r=some (.val (a7 0))) ?_ ?_ 0 _ _ (Qc _) ?_
  rotate_left 2
  ·exact ⟨by simp [e3,Envt.ce],by simp,by simp,by simp,rfl⟩
  ·rintro i E ⟨objs,n⟩ K hi hK ⟨e3,e33,e34,e35,hH⟩ ih;cases hH;have hw:=aP i (by omega);have hiv:i<e.valid.length:=by rw [ev.v,<- ev.f];exact hi
   rw [Envt.ce] at e3;have next:∀{E2:Env} {m:Nat},(∀j,j=3\/j=33\/j=34->look j E2=look j E)->look 35 E2=some (a7 (i+1:Nat))->_:=fun {E2 m} hE h35=>ih E2 ⟨[],m⟩ ⟨by rw [hE 3 (by simp),e3,Envt.ce],by rw [hE 33 (by simp),e33],by rw [hE 34 (by simp),e34],h35,rfl⟩
   cases q:e.valid[i] with
   | true=>
    simp [c_362_l1,cS,cB,e3,e33,e34,e35,hi,hw,hiv,q];exact next (by rintro j (rfl | rfl | rfl)<;>simp) (by simp)
   | false=>
    have hz:=RJ (hgl i hi) (ev.z i _ (by rw [Qa hiv,q]) (Qa hi));simp [c_362_l1,cS,cB,e3,e33,e34,e35,hi,hw,hiv,q,hz];exact next (by rintro j (rfl | rfl | rfl)<;>simp) (by simp)
  ·rintro E ⟨objs,n⟩ K hK ⟨e3,e33,e34,e35,hH⟩;cases hH;simp [c_362_l1,e34,e35] at hK ⊢;simp [c_362_k2,hK]
theorem qv2 {p:Prg} (fs:PrgS p) (w:PWd p) (hd:∀h∈p.Xo,hdrE h=0) (hp:(depE p).2=0) {e:Envt} (ev:EV p e) (pl:e.payload.length<2^40):aB Φ uN [.agg p.c,.agg e.c]=some (.val (.bool true)):=by
 rw [aD rfl rfl];have hc:=Mi p fs;have he:=Q9 w ev pl;rw [hp] at hc;rw [Prg.c] at hc he;simp [CM,Prg.c,Envt.ce,hc];refine eF p.Xo.length (fun i E h=>look 17 E=some (.slice 2 (p.Xo.map Xi.c))/\look 18 E=some (a7 p.Xo.length)/\look 19 E=some (a7 i)/\look 2 E=some (.iptr 9 [p.c] 0 0)/\look 3 E=some (.iptr 4 [e.c] 0 0)/\h.objs=[]) (fun (r:Option Rt)=>r=some (.val (.bool true))) ?_ ?_ 0 _ _ (Qc _) ?_
 rotate_left 2
 ·exact ⟨by simp,by simp,by simp,by simp [Prg.c],by simp [Envt.ce],rfl⟩
 ·rintro i E ⟨objs,n⟩ K hi hK ⟨e17,e18,e19,e2,e3,h⟩ ih;cases h;have hw:IntKind.wrap .i64 ((i:Int)+1)=((i+1:Nat):Int):=cM (by omega) (by have:=fs.h;omega);have hg:=Qd hi;generalize hx:p.Xo[i]=g at*;have hh:=ID g (fs.hn _ hg) (fs.hf _ hg);rw [hd _ hg,Xi.c] at hh;simp [c_295_l0,Xi.c,e17,e18,e19,hi,hx,hw,hh];refine ih _ _ ?_;exact ⟨by simp [e17],by simp [e18],by simp,by simp [e2],by simp [e3],rfl⟩
 ·rintro E ⟨objs,n⟩ K hK ⟨e17,e18,e19,e2,e3,h⟩;cases h;rw [Envt.ce] at he e3;rw [Prg.c] at e2;simp [c_295_l0,e18,e19] at hK ⊢;simp [c_295_k1,hK,e2,e3,he]
def wdat (bs:List Bool):List Int:=byts (bs.length / 8) bs++(if bs.length % 8=0 then [] else [byt (bs.drop (8*(bs.length / 8)))*2^(8 - bs.length % 8)])
theorem HY:∀(m:Nat) (l:List Bool),(byts m l).length=m
 | 0,_=>rfl
 | m+1,l=>by simp [byts,HY m]
theorem Ke:∀(m:Nat) (a b:List Bool),8*m<=a.length->byts m (a++b)=byts m a
 | 0,_,_,_=>rfl
 | m+1,a,b,h=>by
  simp only [byts];rw [List.take_append_of_le_length (by omega),List.drop_append_of_le_length (by omega),Ke m _ _ (by rw [HG];omega)]
theorem Iy:∀(m:Nat) (l:List Bool),byts (m+1) l=byts m l++[byt ((l.drop (8*m)).take 8)]
 | 0,l=>by simp [byts]
 | m+1,l=>by
  rw [byts,Iy m,byts];simp only [iU,BA];rw [show 8+8*m=8*(m+1) by omega]
theorem QT (l:List Bool) (b:Bool):byt (l++[b])=2*byt l+b2i b:=by simp [byt,List.foldl_append]
theorem Np (b:Bool):0<=b2i b/\b2i b<=1:=by cases b<;>simp [b2i]
theorem Md:∀(l:List Bool) (a:Int),0<=a->0<=l.foldl (fun n b=>2*n+b2i b) a/\l.foldl (fun n b=>2*n+b2i b) a<(a+1)*2^l.length
 | [],a,h=>by simp;omega
 | b::l,a,h=>by
  have hb:=Np b;have ih:=Md l (2*a+b2i b) (by omega);refine ⟨ih.1,Int.lt_of_lt_of_le ih.2 ?_⟩;rw [zE,Int.pow_succ,show (a+1)*(2^l.length*2)=(2*a+2)*2^l.length by rw [Int.mul_comm (2^l.length) 2,<- Int.mul_assoc];congr 1;omega];exact Int.mul_le_mul_of_nonneg_right (by omega) (BB (I7 _))
theorem UP (l:List Bool):0<=byt l/\byt l<2^l.length:=by
 have:=Md l 0 (by omega);simpa [byt] using this
theorem QU:∀k:Fin 8,∀v:Fin 128,∀b:Fin 2,v.1<2^k.1->ior .u8 (((v.1*2^(8 - k.1):Nat):Int)) (ishl .u8 ((b.1:Nat):Int) (7 - ((k.1:Nat):Int)))=(((2*v.1+b.1)*2^(7 - k.1):Nat):Int):=by decide+kernel
theorem UQ {k:Nat} (hk:k<8) {v b:Int} (hv:0<=v/\v<2^k) (hb:0<=b/\b<=1):ior .u8 (v*2^(8 - k)) (ishl .u8 b (7 - (k:Int)))=(2*v+b)*2^(7 - k):=by
 obtain ⟨n,rfl⟩:=l9 hv.1;obtain ⟨c,rfl⟩:=l9 hb.1;have h1:n<2^k:=by have:=hv.2;rw [<- nE] at this;omega
 have h2:2^k<=2^7:=B6 (by decide) (by omega);have:=QU ⟨k,hk⟩ ⟨n,by omega⟩ ⟨c,by omega⟩ h1;simp only [Int.natCast_mul,Int.natCast_add,nE] at this;exact this
theorem E8 (bs:List Bool):(wdat bs).length=(bs.length+7) / 8:=by
 unfold wdat;rw [n8,HY];split<;>simp<;>omega
theorem Lm:wdat []=[]:=by simp [wdat,byts]
def wJ (bs:List Bool):Int:=byt (bs.drop (8*(bs.length / 8)))
theorem QH (bs:List Bool):0<=wJ bs/\wJ bs<2^(bs.length % 8):=by
 have:=UP (bs.drop (8*(bs.length / 8)));rw [HG,show bs.length - 8*(bs.length / 8)=bs.length % 8 by omega] at this;exact this
theorem Js (bs:List Bool) (b:Bool):wdat (bs++[b])=byts (bs.length / 8) bs++[(2*wJ bs+b2i b)*2^(7 - bs.length % 8)]:=by
 have e1:=Ke (bs.length / 8) bs [b] (by omega);have e2:byt ((bs++[b]).drop (8*(bs.length / 8)))=2*wJ bs+b2i b:=by
  rw [List.drop_append_of_le_length (by omega),QT];rfl
 unfold wdat;rw [n8,List.length_singleton];by_cases z:(bs.length+1) % 8=0
 ·rw [a8 z,J5,show (bs.length+1) / 8=bs.length / 8+1 by omega,Iy,e1,Qo (by rw [HG,n8,List.length_singleton];omega),e2,show 7 - bs.length % 8=0 by omega];simp
 ·rw [QA z,show (bs.length+1) / 8=bs.length / 8 by omega,e1,e2,show 8 - (bs.length+1) % 8=7 - bs.length % 8 by omega]
def wpre (bs:List Bool):List Int:=byts (bs.length / 8) bs++[wJ bs*2^(8 - bs.length % 8)]
theorem Y4 (bs:List Bool):wpre bs=if bs.length % 8=0 then wdat bs++[0] else wdat bs:=by
 unfold wpre wdat;split
 ·rename_i z;have:bs.drop (8*(bs.length / 8))=[]:=List.drop_eq_nil_of_le (by omega);simp [wJ,this,byt]
 ·rfl
theorem TT (bs:List Bool):(wpre bs).length=bs.length / 8+1:=by simp [wpre,HY]
theorem TS (bs:List Bool) (h:bs.length / 8<(wpre bs).length):(wpre bs)[bs.length / 8]=wJ bs*2^(8 - bs.length % 8):=by
 simp [wpre,HY]
theorem TU (bs:List Bool) (b:Bool):(wpre bs).set (bs.length / 8) ((2*wJ bs+b2i b)*2^(7 - bs.length % 8))=wdat (bs++[b]):=by
 rw [Js,wpre,List.set_append_right _ _ (by rw [HY];exact Qb _),HY,Nat.sub_self];rfl
theorem HQ (v:Int):∀w,(gN v w).length=w
 | 0=>rfl
 | w+1=>by simp [gN,HQ v w]
theorem Ix (v:Int):∀(w i:Nat) (h:i<(gN v w).length),(gN v w)[i]=decide (v / 2^(w - 1 - i) % 2=1)
 | 0,i,h=>by simp [gN] at h
 | w+1,0,_=>rfl
 | w+1,i+1,h=>by
  simp only [gN,List.getElem_cons_succ];rw [Ix v w i,show w+1 - 1 - (i+1)=w - 1 - i by omega]
structure WM (O:List (Nat×AO)) (id:Nat) (D:AV) (bs:List Bool):Prop where
 l:look id O=some (.row 3 [[D,a7 bs.length,.bool true]])
 d:NRw O 0 D ((wdat bs).map c8)
def NB (z:Nat) (es:List (List AV)):Prop:=∀l:List Int,AO.row z es≠AO.row 1 (l.map c8)
def Fr1 (id:Nat) (O O':List (Nat×AO)):Prop:=∀j z es,NB z es->j≠id->look j O=some (.row z es)->look j O'=some (.row z es)
def WrP (id N:Nat) (O:List (Nat×AO)) (bs:List Bool) (r:Option (Rt×AH)):Prop:=
 ∃O' N' D,r=some (.val (a7 0),⟨O',N'⟩)/\WM O' id D bs/\Fr1 id O O'/\Tail O' N'/\NR O'/\N<=N'
structure WBI (id N:Nat) (O:List (Nat×AO)) (v:Int) (w:Nat) (bs:List Bool) (i:Nat) (E:Env) (O':List (Nat×AO)) (N':Nat) (D:AV):Prop where
 e0:look 0 E=some (.ptr id 3 0 0)
 e1:look 1 E=some (.int .u32 v)
 e2:look 2 E=some (a7 w)
 e31:look 31 E=some (a7 w)
 e32:look 32 E=some (a7 i)
 m:WM O' id D (bs++(gN v w).take i)
 f:Fr1 id O O'
 t:Tail O' N'
 r:NR O'
 n:N<=N'
theorem XP {v:Int} {w i:Nat} (hv:0<=v/\v<2^w) (hw:w<=32) (hi:i<w):IntKind.wrap .u8 (iand .u32 (ishr .u32 v ((w - 1 - i:Nat):Int)) 1)=b2i ((gN v w)[i]'(by rw [HQ];exact hi)):=by
 rw [Ds hv.1 (by omega) (by omega),Ix];have h2:=iY (Ea hv (w - 1 - i)) hw;rw [show ((w - 1 - i:Nat):Int).toNat=w - 1 - i by omega];have h3:=Im h2 (k:=1) (by decide);rw [show ((2:Int)^1 - 1)=1 by decide,show ((2:Int)^1)=2 by decide] at h3;rw [h3];generalize v / 2^(w - 1 - i)=x;by_cases z:x % 2=1
 ·rw [z];decide
 ·rw [show x % 2=0 by omega];decide
theorem Y2 {id N:Nat} {O:List (Nat×AO)} {v:Int} {w:Nat} {bs:List Bool} (hv:0<=v/\v<2^w) (hw:w<=32) (hb:bs.length+w<2^40) {E:Env} {O':List (Nat×AO)} {N':Nat} {D:AV} (h:WBI id N O v w bs 0 E O' N' D):
  WrP id N O (bs++gN v w) (go Φ (finC lR.results) [.c (.loop c_364_l0),.b 1,.c c_364_k1] .normal ⟨E,⟨O',N'⟩⟩):=by
 refine eF w (fun i E h=>∃O' N' D,h=⟨O',N'⟩/\WBI id N O v w bs i E O' N' D) _ ?_ ?_ 0 _ _ (Qc _) ⟨_,_,_,rfl,h⟩
 ·rintro i E _ K hi hK ⟨O',N',D,rfl,h⟩ ih;obtain ⟨e0,e1,e2,e31,e32,m,f,t,r,n⟩:=h;have hil:i<(gN v w).length:=by rw [HQ];exact hi
  have hbe:=XP hv hw hi;have htk:(gN v w).take (i+1)=(gN v w).take i++[(gN v w)[i]]:=Qh hil;have hlen:(bs++(gN v w).take i).length=bs.length+i:=by simp [HQ];omega
  have hap:bs++(gN v w).take (i+1)=(bs++(gN v w).take i)++[(gN v w)[i]]:=by rw [htk,yB]
  generalize (gN v w)[i]=b at hbe htk hap;generalize hcs:bs++(gN v w).take i=cs at*;have hw1:=aP i (by omega);have hw2:IntKind.wrap .i64 (((cs.length:Nat):Int)+1)=((cs.length+1:Nat):Int):=cM (by omega) (by omega);have hw3:IntKind.wrap .i64 ((w:Int) - 1)=((w - 1:Nat):Int):=by rw [cM (by omega) (by omega)];omega
  have hw4:IntKind.wrap .i64 (((w - 1:Nat):Int) - i)=((w - 1 - i:Nat):Int):=by rw [cM (by omega) (by omega)];omega
  have d1:IntKind.wrap .i64 ((cs.length:Int) / 8)=((cs.length / 8:Nat):Int):=by
   have:(cs.length:Int) / 8=((cs.length / 8:Nat):Int):=rfl;rw [this,cM (by omega) (by omega)]
  have d2:IntKind.wrap .i64 (7 - ((cs.length % 8:Nat):Int))=7 - ((cs.length % 8:Nat):Int):=cM (by omega) (by omega);have d0:(cs.length:Int).tmod 8=((cs.length % 8:Nat):Int):=rfl;have hor:=UQ (k:=cs.length % 8) (Nat.mod_lt _ (by decide)) (QH cs) (Np b);have ps:=TU cs b;have pl:=TT cs;have pg:=TS cs;have pe:=Y4 cs;obtain ⟨li,ld⟩:=m;have tt:∀k,look (N'+k) O'=none:=fun k=>t _ (by omega)
  have t0:=t N' (Qb _);have fin:∀{E2:Env} {H2:List (Nat×AO)} {N2:Nat} {D2:AV},(∀j,j=0\/j=1\/j=2\/j=31->look j E2=look j E)->look 32 E2=some (a7 (i+1:Nat))->WM H2 id D2 (cs++[b])->Fr1 id O' H2->Tail H2 N2->NR H2->N'<=N2->
    WrP id N O (bs++gN v w) (go Φ (finC lR.results) K .normal ⟨E2,⟨H2,N2⟩⟩):=fun {E2 H2 N2 D2} hE h32 hm hf ht hr hn=>
   ih _ _ ⟨_,_,D2,rfl,by rw [hE 0 (by simp),e0],by rw [hE 1 (by simp),e1],by rw [hE 2 (by simp),e2],by rw [hE 31 (by simp),e31],h32,by rw [hap];exact hm,fun j z es h1 h2 h3=>hf j z es h1 h2 (f j z es h1 h2 h3),ht,hr,by omega⟩
  have wd:∀{H2:List (Nat×AO)} {dd n:Nat},n=(wdat (cs++[b])).length->look id H2=some (.row 3 [[.row dd 1 0 n,a7 (cs.length+1),.bool true]])->look dd H2=some (.row 1 ((wdat (cs++[b])).map c8))->WM H2 id (.row dd 1 0 n) (cs++[b]):=fun {H2 dd n} hn h1 h2=>
   ⟨by rw [h1];simp,.inr ⟨dd,by rw [hn];simp,h2,Qc _,fun h=>by
    have:=congrArg List.length h;rw [n9,E8] at this;simp at this;omega⟩⟩
  have wl:(wdat (cs++[b])).length=cs.length / 8+1:=by rw [<- ps,List.length_set,pl]
  by_cases z:cs.length % 8=0
  ·rw [a8 z] at pe;have lt2:∀k,k<2->N'+k<N'+2:=fun k h=>by omega
   rcases ld with ⟨hz,rfl⟩ | ⟨dd,rfl,ld,_,hne⟩
   ·have hc0:cs=[]:=by
     have:=congrArg List.length hz;rw [n9,E8] at this;simp at this;exact Qg (by omega)
    subst hc0;have hor0:ior .u8 0 (ishl .u8 (b2i b) 7)=b2i b*128:=by cases b<;>decide
    have hwb:wdat ([]++[b])=[b2i b*128]:=by rw [Js];simp [byts,wJ,byt]
    have fi:=fun k=>dI (n:=N'+k) t li (by omega)
    simp only [J3] at li hw2 d1 d2;have w0:IntKind.wrap .i64 0=0:=rfl;have w1:IntKind.wrap .i64 1=1:=rfl;have w7:IntKind.wrap .i64 7=7:=rfl;have iq:∀k,(id == N'+k)=false:=fun k=>by simp [fi k]
    simp [c_364_l0,e0,e1,e2,e31,e32,hi,li,aA,aE,hw1,hw3,hw4,hbe,t0,tt,eC,fi,iq,w0,w1,w7,mR,r.eq,r.sw,A4 li,eL,hor0];refine fin (by rintro j (rfl | rfl | rfl | rfl)<;>simp) (by simp) (wd (dd:=N'+1) (n:=1) (by rw [hwb];rfl) ?_ ?_) ?_ ?_ ?_ (F5 _ _)
    ·rw [aA,a8 rfl,aE,aA,a8 rfl,li];rfl
    ·rw [aA,QA (fi 1).2,aE,aA,QA (fi 1).2,tt,hwb];simp [c8]
    ·intro j z es h1 h2 h3;rw [aA,QA h2,aE,aA,QA h2,h3];rfl
    ·exact bW (Tail_append_iff.2 ⟨bW (t.mono (by omega)),Tail_cons_iff.2 ⟨lt2 0 (by decide),Tail_cons_iff.2 ⟨lt2 1 (by decide),Tail.nil _⟩⟩⟩)
    ·exact NR.setl (by simp) ((NR.setl (by simp) r).app (cK (by simp) (.one (by simp))))
   ·have idd:¬id=dd/\¬dd=id:=by
     have:=bO li ld (by simp);exact ⟨this,fun e=>this e.symm⟩
    have fi:=fun k=>dI (n:=N'+k) t li (by omega)
    have fd:=fun k=>dI (n:=N'+k) t ld (by omega)
    have li1:look id (dropl dd O')=_:=(yJ idd.1 O').trans li;have hcat:(wdat cs).map c8++[[AV.int .u8 0]]=(wpre cs).map c8:=by rw [pe,zG];rfl
    have hlt:cs.length / 8<(wpre cs).length:=by omega
    have iq:∀k,(id == N'+k)=false:=fun k=>by simp [fi k]
    have hbd:(wdat cs).length+1<=70368744177664:=by rw [E8];omega
    have hlt3:((cs.length / 8:Nat):Int)<((wdat cs).length:Int)+1:=by rw [E8];omega
    have w7:IntKind.wrap .i64 7=7:=rfl;have wl8:(wdat cs).length=cs.length / 8:=by rw [E8];omega
    generalize hm8:cs.length / 8=m8 at*;rw [z] at hor d2 d0 ps pg;simp only [Int.ofNat_zero,Nat.sub_zero,Int.sub_zero] at hor ps pg;simp [c_364_l0,c8,e0,e1,e2,e31,e32,hi,li,ld,aA,aE,yJ,d0,hw1,hw2,hw3,hw4,d1,d2,hbe,idd,iq,hlt,pg,hor,eL,r.eq,t0,tt,eC,fi,fd,hcat,hbd,hlt3,w7,mR,NT ld,A4 li1];rw [show (2:Int)^8=256 by decide] at hor;have es:((wpre cs).map c8).set m8 [.int .u8 (ior .u8 (wJ cs*256) (ishl .u8 (b2i b) 7))]=(wdat (cs++[b])).map c8:=by rw [<- ps,yE,hor];rfl
    rw [es];refine fin (by rintro j (rfl | rfl | rfl | rfl)<;>simp) (by simp) (wd (dd:=N'+1) (n:=(wdat cs).length+1) (by rw [wl,wl8]) ?_ ?_) ?_ ?_ ?_ (F5 _ _)
    ·rw [aA,a8 rfl,aE,aA,a8 rfl,li1];rfl
    ·rw [aA,QA (fi 1).2,aE,aA,QA (fi 1).2,Bb _ (tt 1)];simp
    ·intro j z es h1 h2 h3;rw [aA,QA h2,aE,aA,QA h2,yJ (bO h3 ld (h1 _)),h3];rfl
    ·exact bW (Tail_append_iff.2 ⟨bW (Gt (t.mono (by omega))),Tail_cons_iff.2 ⟨lt2 0 (by decide),Tail_cons_iff.2 ⟨lt2 1 (by decide),Tail.nil _⟩⟩⟩)
    ·exact NR.setl (by simp) ((NR.setl (by simp) (NR.dropl r)).app (cK (by simp) (.one (by simp))))
  ·rw [QA z] at pe;rcases ld with ⟨hz,_⟩ | ⟨dd,rfl,ld,_,hne⟩
   ·exfalso;have:=congrArg List.length hz;rw [n9,E8] at this;simp at this;omega
   have zi:¬((cs.length % 8:Nat):Int)=0:=by omega
   have idd:¬id=dd/\¬dd=id:=by
    have:=bO li ld (by simp);exact ⟨this,fun e=>this e.symm⟩
   rw [pe] at ps pl pg;have hlt:cs.length / 8<(wdat cs).length:=by omega
   have iq:(id == dd)=false:=by simp [idd]
   have q7:(cs.length % 8:Nat)<=7:=by omega
   have q7':((cs.length % 8:Nat):Int)<=7:=by omega
   generalize hm8:cs.length / 8=m8 at*;generalize hk8:cs.length % 8=k8 at*;simp [c_364_l0,c8,e0,e1,e2,e31,e32,hi,li,ld,aA,d0,z,hw1,hw2,hw3,hw4,d1,d2,hbe,idd,iq,hlt,pg,q7,q7',hor,eL,r.eq,r.sw];have es:((wdat cs).map c8).set m8 [.int .u8 ((2*wJ cs+b2i b)*2^(7 - k8))]=(wdat (cs++[b])).map c8:=by rw [<- ps,yE];rfl
   rw [es];refine fin (by rintro j (rfl | rfl | rfl | rfl)<;>simp) (by simp) (wd (dd:=dd) (n:=(wdat cs).length) (by rw [wl,pl]) ?_ ?_) ?_ (bW (bW t)) (NR.setl (by simp) (NR.setl (by simp) r)) (Qb _)
   ·rw [aA,a8 rfl,aA,QA idd.1,li];rfl
   ·rw [aA,QA idd.2,aA,a8 rfl,ld];rfl
   ·intro j z es h1 h2 h3;rw [aA,QA h2,aA,QA (bO h3 ld (h1 _)),h3]
 ·rintro E _ K hK ⟨O',N',D,rfl,h⟩;obtain ⟨e0,e1,e2,e31,e32,m,f,t,r,n⟩:=h;rw [Qo (by rw [HQ];exact Qb _)] at m;simp [lR,c_364_l0,c_364_k1,e31,e32] at hK ⊢;simp [c_364_k1,hK];exact ⟨O',N',D,rfl,m,f,t,r,n⟩
theorem Ll {id N:Nat} {O:List (Nat×AO)} {v:Int} {w:Nat} {bs:List Bool} (h1:1<=w) (hw:w<=32) (hv:0<=v/\v<2^w) (hb:bs.length+w<2^40) {D:AV} (m:WM O id D bs) (t:Tail O N) (r:NR O):
  WrP id N O (bs++gN v w) (aH Φ iD [.ptr id 3 0 0,.int .u32 v,a7 w] ⟨O,N⟩):=by
 rw [d6 rfl rfl];have hf:=IC v w;have hfit:fits v w=true:=by
  have wb:wBad (w:Int)=false:=by simp [wBad];omega
  have:=hv.2;simp [fits,cP,wb];omega
 rw [hfit] at hf;have a1:¬(w:Int)<1:=by omega
 have a2:¬32<w:=by omega
 have a3:¬w=0:=by omega
 have li:=m.l;simp [lR,li,a1,a2,a3,hf];refine Y2 hv hw hb (D:=D) ?_;exact ⟨by simp,by simp,by simp,by simp,by simp,by simpa using m,fun j z es _ _ h=>h,t,r,Qb _⟩
theorem Mt {O:List (Nat×AO)} {N:Nat} (hT:Tail O N):aH Φ mJ [] ⟨O,N⟩=some (.val (.ptr N 3 0 0),⟨O++[(N,.row 3 [[.Xt 1 [],a7 0,.bool true]])],N+1⟩):=by
 rw [d6 rfl rfl];have t0:=hT N (Qb _);simp [CN,t0]
theorem At {O:List (Nat×AO)} {N:Nat} (hT:Tail O N):WM (O++[(N,.row 3 [[.Xt 1 [],a7 0,.bool true]])]) N (.Xt 1 []) []:=
 ⟨by rw [aE,hT N (Qb _)];simp,.inl ⟨by rw [Lm];rfl,rfl⟩⟩
def BtP (N:Nat) (O:List (Nat×AO)) (bs:List Bool) (r:Option (Rt×AH)):Prop:=
 ∃L N',r=some (.val (.tup [.app 1 ((wdat bs).map c8) N,a7 0]),⟨O++L,N'⟩)/\Tail (O++L) N'/\NR (O++L)/\N<=N'/\look N (O++L)=some (.tok 1 (wdat bs).length)
theorem Da {id N:Nat} {O:List (Nat×AO)} {bs:List Bool} {D:AV} (m:WM O id D bs) (t:Tail O N) (r:NR O) (z:bs.length % 8=0) (hb:bs.length<2^40):BtP N O bs (aH Φ jR [.ptr id 3 0 0] ⟨O,N⟩):=by
 rw [d6 rfl rfl];have t0:=t N (Qb _);have d0:(bs.length:Int).tmod 8=0:=by
  have:(bs.length:Int).tmod 8=((bs.length % 8:Nat):Int):=rfl;rw [this,z];rfl
 have hl:(wdat bs).length<=70368744177664:=by rw [E8];omega
 obtain ⟨li,ld⟩:=m;have fin:BtP N O bs (some (.val (.tup [.app 1 ((wdat bs).map c8) N,a7 0]),⟨O++[(N,.tok 1 (wdat bs).length)],N+1⟩)):=
  ⟨_,_,rfl,Tail_append_iff.2 ⟨t.mono (by omega),Tail_cons_iff.2 ⟨by omega,Tail.nil _⟩⟩,r.app (.one (by simp)),by omega,by rw [aE,t0];simp⟩
 rcases ld with ⟨hz,rfl⟩ | ⟨dd,rfl,ld,_,hne⟩
 ·have hw:wdat bs=[]:=by simpa using hz
  rw [hw] at fin;simp [t9,li,d0,t0];simpa using fin
 ·have hb2:∀l:List Int,anyL (bor 40) (l.map c8).flatten=false:=by
   intro l
   induction l with
   | nil=>simp
   | cons x l ih=>simp [c8];exact ih
  have hs:mapO (nC ⟨O,N⟩) ((wdat bs).map c8)=some ((wdat bs).map c8):=nU (g:=c8) (n:=40) (H:=⟨O,N⟩) (fun x=>by simp [c8]) (wdat bs);have al:iQ 1 ((wdat bs).map c8)=true:=E1 1 c8 _ fun x=>by simp
  simp [t9,li,d0,t0,ld,hl,hb2,hs,al];exact fin
theorem Bl:∀(l:List Fld) (v:List Int) (i:Nat) (h1:i<l.length) (h2:i<v.length),nH (l.take (i+1)) (v.take (i+1))=nH (l.take i) (v.take i)++gN v[i] l[i].Yc.toNat
 | f::l,x::v,0,_,_=>by simp [nH]
 | f::l,x::v,i+1,h1,h2=>by
  simp only [List.take_succ_cons,nH,List.getElem_cons_succ,yB];rw [Bl l v i (by simpa using h1) (by simpa using h2)]
theorem KI:∀(l:List Fld) (v:List Int),v.length=l.length->(nH l v).length=wN l
 | [],[],_=>rfl
 | f::l,x::v,h=>by
  simp only [nH,n8,HQ,wN,nA,J7];rw [KI l v (by simpa using h)];rfl
def fitF (l:List Fld) (v:List Int):Prop:=v.length=l.length/\∀(i:Nat) (h1:i<l.length) (h2:i<v.length),0<=v[i]/\v[i]<2^l[i].Yc.toNat
theorem Y9:aB Φ vS [.slice 1 [[a7 0],[a7 0]]]=some (.val (a7 0)):=by
 rw [aD rfl rfl];have w1:IntKind.wrap .i64 1=1:=rfl;have w2:IntKind.wrap .i64 2=2:=rfl;simp [DR];rw [cL];simp [c_401_l0,w1];rw [cL];simp [c_401_l0,w1,w2];rw [cL];simp [c_401_l0,c_401_k1]
structure PKI (l:List Fld) (v:List Int) (id i:Nat) (E:Env) (O:List (Nat×AO)) (N:Nat) (D:AV):Prop where
 e1:look 1 E=some (.slice 1 (l.map fun f=>[a7 f.Yc]))
 e6:look 6 E=some (.ptr id 3 0 0)
 e7:look 7 E=some (a7 0)
 e16:look 16 E=some (.slice 1 (v.map c32))
 e17:look 17 E=some (a7 l.length)
 e18:look 18 E=some (a7 i)
 m:WM O id D (nH (l.take i) (v.take i))
 t:Tail O N
 r:NR O
theorem WC {l:List Fld} {v:List Int} (hl:l.length<=12) (hw:∀f∈l,1<=f.Yc/\f.Yc<=32) (hs:wN l % 8=0) (fv:fitF l v):∃b,aB Φ vB [.slice 1 (v.map c32),.slice 1 (l.map fun f=>[a7 f.Yc])]=some (.val (.tup [b,a7 0])):=by
 rw [aD rfl rfl];have nw:=Mt (O:=[]) (N:=0) (Tail.nil _);obtain ⟨fl,fv⟩:=fv;have hwN:∀i,wN (l.take i)<=384:=by
  have aux:∀l:List Fld,(∀f∈l,1<=f.Yc/\f.Yc<=32)->wN l<=32*l.length:=by
   intro l
   induction l with
   | nil=>intro _;simp [wN]
   | cons f l ih=>
    intro h;have h1:=ih fun g hg=>h g (by simp [hg])
    have h2:=h f (by simp);simp only [wN,nA,J7,zE] at h1 ⊢;omega
  intro i;have:=aux (l.take i) fun f hf=>hw f (Qu hf)
  have h2:(l.take i).length<=l.length:=by rw [yD];omega
  omega
 simp [tE,fl,nw];refine eF l.length (fun i E h=>∃O N D id,h=⟨O,N⟩/\PKI l v id i E O N D) (fun (r:Option Rt)=>∃b,r=some (.val (.tup [b,a7 0]))) ?_ ?_ 0 _ _ (Qc _) ?_
 rotate_left 2
 ·refine ⟨_,_,.Xt 1 [],0,rfl,?_⟩;exact ⟨by simp,by simp,by simp,by simp,by simp,by simp,by simpa [nH] using At (O:=[]) (N:=0) (Tail.nil _),Tail_cons_iff.2 ⟨by omega,Tail.nil _⟩,.one (by simp)⟩
 ·rintro i E _ K hi hK ⟨O,N,D,id,rfl,h⟩ ih;obtain ⟨e1,e6,e7,e16,e17,e18,m,t,r⟩:=h;have hiv:i<v.length:=by omega
  have hw1:=aP i (by omega);have hf:=hw l[i] (Qd hi);have st:=Bl l v i hi hiv;have ln:=KI (l.take i) (v.take i) (by simp [fl]);have hN:=hwN i;obtain ⟨O2,N2,D2,hr,m2,_,t2,r2,_⟩:=Ll (w:=l[i].Yc.toNat) (v:=v[i]) (by omega) (by omega) (fv i hi hiv) (by omega) m t r;rw [show ((l[i].Yc.toNat:Nat):Int)=l[i].Yc by omega] at hr;rw [<- st] at m2;have f0:=Y9;generalize hx:l[i]=x at*;generalize hy:v[i]=y at*;simp [c_363_l0,c32,e1,e6,e7,e16,e17,e18,hi,hiv,hx,hy,hw1,hr,f0];refine ih _ _ ⟨O2,N2,D2,id,rfl,?_⟩;exact ⟨by simp [e1],by simp [e6],by simp,by simp [e16],by simp [e17],by simp,m2,t2,r2⟩
 ·rintro E _ K hK ⟨O,N,D,id,rfl,h⟩;obtain ⟨e1,e6,e7,e16,e17,e18,m,t,r⟩:=h;rw [kW,Qo (by omega)] at m;have ln:=KI l v fl;have hN:=hwN l.length;rw [kW] at hN;obtain ⟨L,N2,hr,-,-,-,-⟩:=Da m t r (by omega) (by omega);simp [tE,c_363_l0,e17,e18] at hK ⊢;simp [c_363_k1,hK,e6,hr]
structure HWI (l:List Fld) (v:List Int) (id N:Nat) (O:List (Nat×AO)) (bs:List Bool) (i:Nat) (E:Env) (O':List (Nat×AO)) (N':Nat) (D:AV):Prop where
 e1:look 1 E=some (.slice 1 (v.map c32))
 e2:look 2 E=some (.ptr id 3 0 0)
 e44:look 44 E=some (.slice 2 (l.map Fld.c))
 e45:look 45 E=some (a7 l.length)
 e46:look 46 E=some (a7 i)
 m:WM O' id D (bs++nH (l.take i) (v.take i))
 f:Fr1 id O O'
 t:Tail O' N'
 r:NR O'
 n:N<=N'
theorem wN_12 {l:List Fld} (hl:l.length<=12) (hw:∀f∈l,1<=f.Yc/\f.Yc<=32) (i:Nat):wN (l.take i)<=384:=by
 have aux:∀l:List Fld,(∀f∈l,1<=f.Yc/\f.Yc<=32)->wN l<=32*l.length:=by
  intro l
  induction l with
  | nil=>intro _;simp [wN]
  | cons f l ih=>
   intro h;have h1:=ih fun g hg=>h g (by simp [hg])
   have h2:=h f (by simp);simp only [wN,nA,J7,zE] at h1 ⊢;omega
 have:=aux (l.take i) fun f hf=>hw f (Qu hf)
 have h2:(l.take i).length<=l.length:=by rw [yD];omega
 omega
theorem UN {l:List Fld} {v:List Int} (hl:l.length<=12) (hw:∀f∈l,1<=f.Yc/\f.Yc<=32) (fv:fitF l v) {id N:Nat} {O:List (Nat×AO)} {bs:List Bool} (hb:bs.length<2^39) {E:Env} {O':List (Nat×AO)} {N':Nat} {D:AV} (h:HWI l v id N O bs 0 E O' N' D):
  WrP id N O (bs++nH l v) (go Φ (finC oS.results) [.c (.loop c_298_l0),.b 0,.c c_298_k1] .normal ⟨E,⟨O',N'⟩⟩):=by
 obtain ⟨fl,fv⟩:=fv;refine eF l.length (fun i E h=>∃O' N' D,h=⟨O',N'⟩/\HWI l v id N O bs i E O' N' D) _ ?_ ?_ 0 _ _ (Qc _) ⟨_,_,_,rfl,h⟩
 ·rintro i E _ K hi hK ⟨O',N',D,rfl,h⟩ ih;obtain ⟨e1,e2,e44,e45,e46,m,f,t,r,n⟩:=h;have hiv:i<v.length:=by omega
  have hw1:=aP i (by omega);have hf:=hw l[i] (Qd hi);have st:=Bl l v i hi hiv;have ln:=KI (l.take i) (v.take i) (by simp [fl]);have hN:=wN_12 hl hw i;have t0:=t N' (Qb _);obtain ⟨O2,N2,D2,hr,m2,f2,t2,r2,n2⟩:=Ll (N:=N'+1) (w:=l[i].Yc.toNat) (v:=v[i]) (by omega) (by omega) (fv i hi hiv) (by rw [n8];omega) m (t.mono (by omega)) r;rw [show ((l[i].Yc.toNat:Nat):Int)=l[i].Yc by omega] at hr;rw [yB,<- st] at m2;generalize hx:l[i]=x at*;generalize hy:v[i]=y at*;simp [c_298_l0,Fld.c,c32,e1,e2,e44,e45,e46,hi,hiv,hx,hy,hw1,t0,hr];refine ih _ _ ⟨O2,N2,D2,rfl,?_⟩;exact ⟨by simp [e1],by simp [e2],by simp [e44],by simp [e45],by simp,m2,fun j z es h1 h2 h3=>f2 j z es h1 h2 (f j z es h1 h2 h3),t2,r2,by omega⟩
 ·rintro E _ K hK ⟨O',N',D,rfl,h⟩;obtain ⟨e1,e2,e44,e45,e46,m,f,t,r,n⟩:=h;rw [kW,Qo (by omega)] at m;simp [oS,c_298_l0,e45,e46] at hK ⊢;simp [c_298_k1,hK];exact ⟨O',N',D,rfl,m,f,t,r,n⟩
theorem qy5 {h:Xi} (hn:h.name.length<2^40) (hf:∀f∈h.Xz,f.name.length<2^40) (e:hdrE h=0) {v:List Int} (fv:fitF h.Xz v) {id N:Nat} {O:List (Nat×AO)} {bs:List Bool} (hb:bs.length<2^39) (hz:bs.length % 8=0) {D:AV} (m:WM O id D bs) (t:Tail O N) (r:NR O):
  WrP id N O (bs++nH h.Xz v) (aH Φ pZ [.agg h.c,.slice 1 (v.map c32),.ptr id 3 0 0] ⟨O,N⟩):=by
 rw [d6 rfl rfl];have vh:=vhdr e;have hc:=ID h hn hf;rw [e] at hc;have hwd:=Cn h (by have:=vh.n;omega);have hs:wN h.Xz % 8=0:=by have:=vh.s;rw [LG vh.w] at this;omega
 obtain ⟨b,hp⟩:=WC vh.n.2 vh.w hs fv;have t0:=t N (Qb _);have t1:Tail (O++[(N,.row 2 [h.c])]) (N+1):=Tail_append_iff.2 ⟨t.mono (by omega),Tail_cons_iff.2 ⟨by omega,Tail.nil _⟩⟩;have r1:NR (O++[(N,.row 2 [h.c])]):=r.app (.one (by simp));have m1:WM (O++[(N,.row 2 [h.c])]) id D bs:=⟨bK m.l,m.d.fr fun j _ hj=>bK hj⟩;obtain ⟨L,N2,hr,t2,r2,n2,-⟩:=Da m1 t1 r1 hz (by omega);have l2:look N ((O++[(N,.row 2 [h.c])])++L)=some (.row 2 [h.c]):=bK (by rw [aE,t0];simp);have m2:WM ((O++[(N,.row 2 [h.c])])++L) id D bs:=⟨bK m1.l,m1.d.fr fun j _ hj=>bK hj⟩;have f2:Fr1 id O ((O++[(N,.row 2 [h.c])])++L):=fun j z es _ _ hj=>bK (bK hj)
 generalize (O++[(N,.row 2 [h.c])])++L=O2 at*;have fl:=fv.1;rw [Xi.c] at hc hwd hr l2;simp [oS,Xi.c,t0,hc,hr,l2,fl,hwd,hp];refine UN vh.n.2 vh.w fv hb (D:=D) ?_;exact ⟨by simp,by simp,by simp,by simp,by simp,by simpa [nH] using m2,f2,t2,r2,by omega⟩
def bH (p:Prg) (e:Envt) (h:Int):List Bool:=if (at? e.valid h).getD false then nH (((at? p.Xo h).map (·.Xz)).getD []) ((at? e.Xz h).getD []) else []
theorem Lt {p:Prg} (hd:∀h∈p.Xo,hdrE h=0) {e:Envt} (ev:EV p e) {m:Nat} (h1:m<p.Xo.length) (h2:m<e.Xz.length):fitF p.Xo[m].Xz e.Xz[m]:=by
 refine ⟨ev.g m h2 h1,fun i k1 k2=>?_⟩;have vh:=vhdr (hd _ (Qd h1));have:=ev.ff m i _ _ (Qa h2) (Qa k2);rw [Mk (Qa h1) (Qa k1) (vh.w _ (Qd k1))] at this;exact this
theorem XN {p:Prg} (hd:∀h∈p.Xo,hdrE h=0) {e:Envt} (ev:EV p e) {h:Int} (h0:0<=h/\h<p.Xo.length):(bH p e h).length<=384/\(bH p e h).length % 8=0:=by
 obtain ⟨m,rfl⟩:=l9 h0.1;have h1:m<p.Xo.length:=by omega
 have h2:m<e.Xz.length:=by rw [ev.f];exact h1
 have vh:=vhdr (hd _ (Qd h1));have hs:wN p.Xo[m].Xz % 8=0:=by have:=vh.s;rw [LG vh.w] at this;omega
 have hN:=wN_12 vh.n.2 vh.w p.Xo[m].Xz.length;rw [kW] at hN;unfold bH;split
 ·rw [nK,nK,Qa h1,Qa h2];simp only [F6,jC];rw [KI _ _ (Lt hd ev h1 h2).1];exact ⟨hN,hs⟩
 ·simp
def EmP (id N:Nat) (O:List (Nat×AO)) (bs:List Bool) (r:Option (Rt×AH)):Prop:=
 ∃O' N' D,r=some (.val (.tup []),⟨O',N'⟩)/\WM O' id D bs/\Fr1 id O O'/\Tail O' N'/\NR O'/\N<=N'
theorem Q5 {p:Prg} (fs:PrgS p) (hd:∀h∈p.Xo,hdrE h=0) {e:Envt} (ev:EV p e) {h:Int} (h0:0<=h/\h<p.Xo.length) {id c N:Nat} {O:List (Nat×AO)} {bs:List Bool} (hb:bs.length<2^39) (hz:bs.length % 8=0) {D:AV} (m:WM O id D bs) (lc:look c O=some (.row 1 [[.ptr id 3 0 0]])) (t:Tail O N) (r:NR O):
  EmP id N O (bs++bH p e h) (aH Φ pY [a7 h,.iptr 4 [e.c] 0 0,.iptr 9 [p.c] 0 0,.ptr c 1 0 0] ⟨O,N⟩):=by
 rw [d6 rfl rfl];obtain ⟨k,rfl⟩:=l9 h0.1;have h1:k<p.Xo.length:=by omega
 have h2:k<e.Xz.length:=by rw [ev.f];exact h1
 have h3:k<e.valid.length:=by rw [ev.v];exact h1
 have hm:=Qd h1;cases q:e.valid[k] with
 | false=>
  have hbH:bH p e k=[]:=by
   unfold bH;rw [nK,Qa h3,q];rfl
  rw [hbH,J5];simp [t8,Envt.ce,Prg.c,cB,h3,q];exact ⟨O,N,D,rfl,m,fun j z es _ _ h=>h,t,r,Qb _⟩
 | true=>
  have hbH:bH p e k=nH p.Xo[k].Xz e.Xz[k]:=by
   unfold bH;rw [nK,nK,nK,Qa h3,Qa h1,Qa h2,q];rfl
  rw [hbH];obtain ⟨O2,N2,D2,hr,m2,f2,t2,r2,n2⟩:=qy5 (fs.hn _ hm) (fs.hf _ hm) (hd _ hm) (Lt hd ev h1 h2) hb hz m t r;generalize hx:p.Xo[k]=x at*;generalize hy:e.Xz[k]=y at*;rw [Xi.c] at hr;simp [t8,Envt.ce,Prg.c,Xi.c,cB,cS,h1,h2,h3,q,hx,hy,lc,hr];exact ⟨O2,N2,D2,rfl,m2,f2,t2,r2,n2⟩
def bD (p:Prg) (e:Envt) (i:Nat):List Bool:=((p.Xr.take i).map (bH p e)).flatten
theorem Mc (p:Prg) (e:Envt) {i:Nat} (hi:i<p.Xr.length):bD p e (i+1)=bD p e i++bH p e p.Xr[i]:=by
 unfold bD;rw [Qh hi,zG,List.flatten_append];simp
theorem Et {p:Prg} (hd:∀h∈p.Xo,hdrE h=0) {e:Envt} (ev:EV p e) (hdp:∀h∈p.Xr,0<=h/\h<p.Xo.length):∀i,i<=p.Xr.length->(bD p e i).length<=384*i/\(bD p e i).length % 8=0
 | 0,_=>by simp [bD]
 | i+1,h=>by
  have ih:=Et hd ev hdp i (by omega);have hb:=XN hd ev (hdp _ (Qd (show i<p.Xr.length by omega)));rw [Mc p e (by omega),n8];omega
structure EI2 (p:Prg) (e:Envt) (i:Nat) (E:Env) (O:List (Nat×AO)) (N:Nat) (D:AV):Prop where
 e3:look 3 E=some (.iptr 4 [e.c] 0 0)
 e5:look 5 E=some (.ptr 1 1 0 0)
 e6:look 6 E=some (.func (.func pY) [] [.iptr 4 [e.c] 0 0,.iptr 9 [p.c] 0 0,.ptr 1 1 0 0])
 e18:look 18 E=some (.slice 1 (p.Xr.map cI))
 e19:look 19 E=some (a7 p.Xr.length)
 e20:look 20 E=some (a7 i)
 m:WM O 0 D (bD p e i)
 l:look 1 O=some (.row 1 [[.ptr 0 3 0 0]])
 t:Tail O N
 r:NR O
theorem Lo {p:Prg} (fs:PrgS p) (w:PWd p) (hd:∀h∈p.Xo,hdrE h=0) (hp:(depE p).2=0) {e:Envt} (ev:EV p e) (pl:e.payload.length<2^40):
  aB Φ mA [.agg p.c,.agg e.c]=some (.val (.slice 1 ((emi p e).map c8))):=by
 rw [aD rfl rfl];have ha:=qv2 fs w hd hp ev pl;have nw:=Mt (O:=[]) (N:=0) (Tail.nil _);rw [Prg.c,Envt.ce] at ha;simp [sQ,Prg.c,Envt.ce,ha,nw,rC];have vd:=vdep hp;have hdp:=vd.2;have hdl:p.Xr.length<=8:=vd.1;refine eF p.Xr.length (fun i E h=>∃O N D,h=⟨O,N⟩/\EI2 p e i E O N D) (fun (r:Option Rt)=>r=some (.val (.slice 1 ((emi p e).map c8)))) ?_ ?_ 0 _ _ (Qc _) ?_
 rotate_left 2
 ·refine ⟨_,_,.Xt 1 [],rfl,?_⟩;refine ⟨by simp [Envt.ce],by simp,by simp [Envt.ce,Prg.c],by simp,by simp,by simp,?_,by simp,?_,?_⟩
  ·exact ⟨by simp [bD],.inl ⟨by simp [bD,Lm],rfl⟩⟩
  ·exact Tail_cons_iff.2 ⟨by omega,Tail_cons_iff.2 ⟨by omega,Tail.nil _⟩⟩
  ·exact cK (by simp) (.one (by simp))
 ·rintro i E _ K hi hK ⟨O,N,D,rfl,h⟩ ih;obtain ⟨e3,e5,e6,e18,e19,e20,m,l,t,r⟩:=h;have hw1:=aP i (by omega);have ln:=Et hd ev hdp i (by omega);obtain ⟨O2,N2,D2,hr,m2,f2,t2,r2,n2⟩:=Q5 fs hd ev (hdp _ (Qd hi)) (by omega) ln.2 m l t r;rw [<- Mc p e hi] at m2;have l2:=f2 1 1 _ (fun l h=>by cases l<;>simp [c8] at h) (by decide) l;generalize hx:p.Xr[i]=x at*;simp [c_183_l0,cI,e3,e5,e6,e18,e19,e20,hi,hx,hw1,hr];refine ih _ _ ⟨O2,N2,D2,rfl,?_⟩;exact ⟨by simp [e3],by simp [e5],by simp [e6],by simp [e18],by simp [e19],by simp,m2,l2,t2,r2⟩
 ·rintro E _ K hK ⟨O,N,D,rfl,h⟩;obtain ⟨e3,e5,e6,e18,e19,e20,m,l,t,r⟩:=h;have ln:=Et hd ev hdp p.Xr.length (Qb _);have hE:bD p e p.Xr.length=AD p e:=by
   unfold bD AD;rw [kW];rfl
  rw [hE] at m ln;have hw:wdat (AD p e)=byts ((AD p e).length / 8) (AD p e):=by unfold wdat;rw [a8 ln.2,J5]
  obtain ⟨L,N2,hr,t2,r2,n2,lk2⟩:=Da m t r ln.2 (by omega);have hem:emi p e=wdat (AD p e)++e.payload:=by rw [hw];rfl
  have hbd:(wdat (AD p e)).length+e.payload.length<=70368744177664:=by rw [E8];omega
  rw [hem];rw [Envt.ce] at e3;simp [sQ,c_183_l0,e19,e20] at hK ⊢;simp [c_183_k1,hK,e3,e5,l,hr,lk2,hbd]
theorem XG {p:Prg} (fs:PrgS p) (w:PWd p) (hd:∀h∈p.Xo,hdrE h=0) (hp:(depE p).2=0) {e:Envt} (ev:EV p e) (pl:e.payload.length<2^40):
  aB Φ tZ [.agg p.c,.agg e.c]=some (.val (a7 (emi p e).length)):=by
 rw [aD rfl rfl];have h:=Lo fs w hd hp ev pl;rw [Prg.c,Envt.ce] at h;simp [BM,Prg.c,Envt.ce,h]
theorem XX {p:Prg} (fs:PrgS p) {t:Nat} (ht:t<p.Xm.length) (q:tOk p t=true) (e:Envt):aB Φ p8 [.agg p.c,a7 t,.agg e.c]=some (.val (.slice 1 ((keyX p t e).map c32))):=by
 rw [aD rfl rfl];have hwd:=Ie p fs t ht q;have kl:p.Xm[t].keys.length<2^40:=fs.tk _ (Qd ht);have hk:keyX p t e=p.Xm[t].keys.map fun k=>iand .u32 (eGet e k.field.header k.field.field) (cP (wid p k.field.header k.field.field)):=by
  unfold keyX;rw [nK,Qa ht]
 have hkw:kWid p p.Xm[t]=p.Xm[t].keys.map fun k=>wid p k.field.header k.field.field:=rfl
 rw [Prg.c,hkw] at hwd;rw [hk];generalize hx:p.Xm[t]=x at*;generalize hK:(x.keys.map fun k=>iand .u32 (eGet e k.field.header k.field.field) (cP (wid p k.field.header k.field.field)))=ks at*;simp [sL,Prg.c,Envt.ce,hwd];have ksl:ks.length=x.keys.length:=by rw [<- hK];simp
 refine eF x.keys.length (fun i E h=>∃O N,h=⟨O,N⟩/\look 3 E=some (.iptr 9 [p.c] 0 0)/\look 5 E=some (.iptr 4 [e.c] 0 0)/\look 1 E=some (a7 t)/\look 12 E=some (.slice 1 (x.keys.map (cI ∘ fun k=>wid p k.field.header k.field.field)))/\look 13 E=some (a7 x.keys.length)/\look 14 E=some (a7 i)/\look 7 E=some (.app 1 ((ks.take i).map c32) 0)/\look 0 O=some (.tok 1 i)) (fun (r:Option Rt)=>r=some (.val (.slice 1 (ks.map c32)))) ?_ ?_ 0 _ _ (Qc _) ?_
 rotate_left 2
 ·exact ⟨_,_,rfl,by simp [Prg.c],by simp [Envt.ce],by simp,by simp,by simp,by simp,by simp,by simp⟩
 ·rintro i E _ K hi hKK ⟨O,N,rfl,e3,e5,e1,e12,e13,e14,e7,l0⟩ ih;have hw1:=aP i (by omega);have hg:=ON e x.keys[i].field.header x.keys[i].field.field;have hm:=gH (wid p x.keys[i].field.header x.keys[i].field.field);have htw:ks.take (i+1)=ks.take i++[iand .u32 (eGet e x.keys[i].field.header x.keys[i].field.field) (cP (wid p x.keys[i].field.header x.keys[i].field.field))]:=by
   rw [Qh (by omega)];subst hK;simp
  have hmin:min i ks.length=i:=by omega
  have bd:(i+1)*4<=70368744177664:=by omega
  rw [Prg.c] at e3;rw [Envt.ce] at e5 hg;generalize hy:x.keys[i]=y at*;simp [c_177_l0,Tbl.c,Xk.c,FieldRef.c,cI,e3,e5,e1,e12,e13,e14,e7,hi,ht,hx,hy,hw1,hg,hm,l0,hmin,bd];refine ih _ _ ⟨_,_,rfl,?_⟩;exact ⟨by simp [e3,Prg.c],by simp [e5,Envt.ce],by simp [e1],by simp [e12],by simp [e13],by simp,by simp [htw,c32],by rw [aA,a8 rfl,l0];rfl⟩
 ·rintro E _ K hKK ⟨O,N,rfl,e3,e5,e1,e12,e13,e14,e7,l0⟩;rw [Qo (by omega)] at e7;simp [sL,c_177_l0,e13,e14] at hKK ⊢;simp [c_177_k1,hKK,e7]
theorem qx3 {p:Prg} (fs:PrgS p) {t:Nat} (ht:t<p.Xm.length) (key:List Int) {l:List Rw} (hll:l.length<2^40) (hl:∀x∈l,EntS x.entry) (hp:l.Pairwise fun a b=>a.id<b.id):
  aB Φ lZ [.agg p.c,a7 t,.slice 5 (l.map Rw.c),.slice 1 (key.map c32)]=some (.val (.tup [.agg (rowV (oB p t key l)),.bool (oB p t key l).isSome])):=by
 obtain ⟨O',N',hr,-⟩:=TL p fs t ht key (O:=[]) (N:=0) (Tail.nil _) (Re.sl (l.map Rw.c)) hll hl;have hb:bstP p t l key=oB p t key l:=YM p t l hp key;rw [hb] at hr;unfold aB;rw [show H0=(⟨[],0⟩:AH) from rfl,hr];cases oB p t key l with
 | none=>simp [nW,rowV,Rw.ce]
 | some r=>simp [nW,rowV,Rw.ce]
end Go.Av
