/-
 The parser runs.
-/
import Derived.Test.YtcehjengeaafpaaGreatPX10
set_option linter.all false
namespace Go.Av
set_option maxRecDepth 6000
def PEo (p:Prg) (O:List (Nat×AO)) (B:Nat) (V F M:AV) (e:Envt):Prop:=∃iv jf im A,V= .row iv 1 0 p.Xo.length/\F= .row jf 1 0 p.Xo.length/\M= .row im 1 0 p.Xn.length/\PE O B iv jf im A e/\e.valid.length=p.Xo.length/\e.Xz.length=p.Xo.length/\e.metaF.length=p.Xn.length
theorem PEo.snp {p:Prg} {O:List (Nat×AO)} {B:Nat} {V F M:AV} {e:Envt} (h:PEo p O B V F M e) (N m:Nat):snap (m+3) ⟨O,N⟩ V=some (.slice 1 (e.valid.map cB))/\snap (m+3) ⟨O,N⟩ F=some (.slice 1 (e.Xz.map (cS 1 c32)))/\snap (m+3) ⟨O,N⟩ M=some (.slice 1 (e.metaF.map c32)):=by
 obtain ⟨iv,jf,im,A,rfl,rfl,rfl,pe,h1,h2,h3⟩:=h;have:=pe.snp (N:=N) m;rw [h1,h2,h3] at this;cases q1:snap (m+3) ⟨O,N⟩ (.row iv 1 0 p.Xo.length)<;>cases q2:snap (m+3) ⟨O,N⟩ (.row jf 1 0 p.Xo.length)<;>cases q3:snap (m+3) ⟨O,N⟩ (.row im 1 0 p.Xn.length)<;>simp only [mapO,q1,q2,q3] at this
 all_goals first | cases this | skip
 exact ⟨rfl,rfl,rfl⟩
def Sn3 (O:List (Nat×AO)) (V F M:AV) (e:Envt):Prop:=∀N,(snap 39 ⟨O,N⟩ V=some (.slice 1 (e.valid.map cB))/\snap 39 ⟨O,N⟩ F=some (.slice 1 (e.Xz.map (cS 1 c32)))/\snap 39 ⟨O,N⟩ M=some (.slice 1 (e.metaF.map c32)))/\
 (snap 38 ⟨O,N⟩ V=some (.slice 1 (e.valid.map cB))/\snap 38 ⟨O,N⟩ F=some (.slice 1 (e.Xz.map (cS 1 c32)))/\snap 38 ⟨O,N⟩ M=some (.slice 1 (e.metaF.map c32)))
theorem PEo.sn3 {p:Prg} {O:List (Nat×AO)} {B:Nat} {V F M:AV} {e:Envt} (h:PEo p O B V F M e):Sn3 O V F M e:=fun N=>⟨h.snp N 36,h.snp N 35⟩
theorem PEo.fr {p:Prg} {O O':List (Nat×AO)} {B:Nat} {V F M:AV} {e:Envt} (h:PEo p O B V F M e) (hf:∀j es,B<=j->look j O=some (.row 1 es)->look j O'=some (.row 1 es)):PEo p O' B V F M e:=by
 obtain ⟨iv,jf,im,A,rfl,rfl,rfl,pe,h1,h2,h3⟩:=h;exact ⟨iv,jf,im,A,rfl,rfl,rfl,pe.fr hf,h1,h2,h3⟩
theorem Jq {p:Prg} {d:List Int}:∀(l:List Int) {x y:Envt×Nat},exHs p d l x=some y->y.1.valid.length=x.1.valid.length/\y.1.Xz.length=x.1.Xz.length/\y.1.metaF=x.1.metaF/\y.1.payload=x.1.payload
 | [],x,y,h=>by cases h;exact ⟨rfl,rfl,rfl,rfl⟩
 | a::l,x,y,h=>by
  obtain ⟨u,h1,h2⟩:=Qt.1 h;have ih:=Jq l h2;unfold exH at h1;split at h1
  ·cases h1
  split at h1
  ·cases h1
  ·cases h1;simpa using ih
theorem F0 {p:Prg} (hd:∀h∈p.Xo,hdrE h=0) {d:List Int}:∀(l:List Int) {x y:Envt×Nat},x.2 % 8=0->exHs p d l x=some y->y.2 % 8=0
 | [],x,y,q,h=>by cases h;exact q
 | a::l,x,y,q,h=>by
  obtain ⟨u,h1,h2⟩:=Qt.1 h;refine F0 hd l ?_ h2;unfold exH at h1;split at h1
  ·cases h1
  rename_i g hg;split at h1
  ·cases h1
  ·cases h1;obtain ⟨m,rfl,hm,rfl⟩:=lS hg;have v:=vhdr (hd _ (Qd hm));have:=v.s;simp only;omega
def RunP (p:Prg) (R:Option Envt) (r:Option Rt):Prop:=match R with
 | some e=>∃l,r=some (.val (.tup [.agg e.c,.slice 1 l,.int .i64 0]))
 | none=>∃l c,c≠0/\r=some (.val (.tup [.agg (eNew p).c,.slice 1 l,.int .i64 c]))
structure RI (p:Prg) (d:List Int) (R:Option Envt) (c id t tk n:Nat) (E:Env) (O:List (Nat×AO)) (N:Nat) (V F M:AV) (L:List Int) (s:Int) (x:Envt×Nat):Prop where
 e1:look 2 E=some (.iptr 9 [p.c] 0 0)
 e4:look 4 E=some (.ptr 0 4 0 0)
 e7:look 7 E=some (.ptr c 4 0 0)
 e9:look 9 E=some (.ptr id 3 0 0)
 e10:look 10 E=some (.app 1 (L.map cI) tk)
 e11:look 11 E=some (.int .i64 s)
 l0:look 0 O=some (.row 4 [z4])
 lc:look c O=some (.row 4 [[V,F,M,.Xt 1 []]])
 li:look id O=some (rdr d t x.2)
 lt:look tk O=some (.tok 1 L.length)
 pe:PEo p O 1 V F M x.1
 q:x.2<=8*d.length/\x.2 % 8=0
 pl:x.1.payload=[]
 hT:Tail O N
 hN:NR O
 hL:L.length+n<=p.Xw.length+1
 hR:R=prF p d n s x
 hs:s= -1\/s= -2\/∃k:Nat,s=k/\k<p.Xw.length/\p.Xw.length+1<=n+k
 n0:0<n
 ev:EV p x.1
 c0:¬c=0/\¬0=c
theorem Dx {p:Prg} (w:PWd p) {O:List (Nat×AO)} {N:Nat} (hT:Tail O N) (hN:NR O) (l0:look 0 O=some (.row 4 [z4])):
  ∃O' N' V F M,aD Φ 264 [.agg p.c] ⟨O,N⟩=some (.val (.agg [V,F,M,.Xt 1 []]),⟨O',N'⟩)/\look 0 O'=some (.row 4 [z4])/\PEo p O' N V F M (eNew p)/\Kp (fun _=>False) N O O'/\Tail O' N'/\NR O'/\N<=N'/\
   Sn3 (setl 0 (.row 4 [[V,F,M,.Xt 1 []]]) O') V F M (eNew p):=by
 obtain ⟨O',N',iv,jf,im,A,hr,pe,kp,T,R,hn⟩:=TF hT hN w;have l0':look 0 O'=some (.row 4 [z4]):=by rw [kp 0 (hT.lt l0) (by simp),l0]
 have po:PEo p O' N (.row iv 1 0 p.Xo.length) (.row jf 1 0 p.Xo.length) (.row im 1 0 p.Xn.length) (eNew p):=⟨iv,jf,im,A,rfl,rfl,rfl,pe,by simp [eNew],by simp [eNew],by simp [eNew]⟩;exact ⟨O',N',_,_,_,hr,l0',po,kp,T,R,hn,(po.fr fun j es _ hj=>by rw [a7,QA (aF hj l0' (by simp)),hj]).sn3⟩
theorem N8 {p:Prg} {k:Nat} {s:Xc} (v:VSt p k s) (e:Envt):oS p k (nxS s e)=true:=by
 unfold nxS;split
 ·cases q:s.cases.find? fun c=>decide (iand .u32 (eGet e s.on.header s.on.field) c.Yd=c.value) with
  | none=>exact v.df
  | some c=>exact v.cs c (KB q)
 ·exact v.df
theorem R0 {p:Prg} (fs:PrgS p) (w:PWd p) (hd:∀h∈p.Xo,hdrE h=0) (vp:VPar p) {d:List Int} (hb:bOk d) (hl:d.length<=512) {R:Option Envt} {c id t tk n:Nat} {E:Env} {O:List (Nat×AO)} {N:Nat} {V F M:AV} {L:List Int} {s:Int} {x:Envt×Nat} (h:RI p d R c id t tk n E O N V F M L s x):
  RunP p R (go Φ (finP kA.results) [.c (.loop bK),.b 0,.c bJ] .normal ⟨E,⟨O,N⟩⟩):=by
 refine loopQ (C:=Nat) (fun n=>n) (fun n E h=>∃O N V F M L s x,h=⟨O,N⟩/\RI p d R c id t tk n E O N V F M L s x) (fun _ r=>RunP p R r) ?_ n E _ ⟨_,_,_,_,_,_,_,_,rfl,h⟩;rintro n E _ K hK ⟨O,N,V,F,M,L,s,x,rfl,h⟩ ih;obtain ⟨e1,e4,e7,e9,e10,e11,l0,lc,li,lt,pe,q,pl,hT,hN,hL,hR,hs,n0,ev,c0⟩:=h;rcases hs with rfl | rfl | ⟨k,rfl,hk,hkn⟩
 ·have hRR:R=some { x.1 with payload:=d.drop (x.2 / 8) }:=by
   obtain ⟨m,rfl⟩:∃m,n=m+1:=⟨n - 1,by omega⟩;rw [hR,prF,a8 rfl]
  have hr:=Lb hT hN li hl q.1;rw [rstV,rstE,rstL,a8 q.2,a8 q.2,a8 q.2,a8 q.2] at hr;rw [z4] at l0;have sn:=(pe.fr (O':=setl 0 (AO.row 4 [[V,F,M,.app 1 ((d.drop (x.2 / 8)).map c8) N]]) (setl c (AO.row 4 [[V,F,M,.app 1 ((d.drop (x.2 / 8)).map c8) N]]) (O++[(N,.tok 1 (d.length - x.2 / 8))]))) fun j es _ hj=>by rw [a7,QA (aF hj l0 (by simp)),a7,QA (aF hj lc (by simp)),aW hj]).sn3;unfold Sn3 at sn;generalize hQ:(d.drop (x.2 / 8))=rs at*;simp [kA,bK,bJ,e11] at hK ⊢;simp [bJ,hK,e4,e7,e10,e11,e9,hr,aA,l0,lc,a7,c0,sn];rw [hRR];exact ⟨_,rfl⟩
 ·have hRR:R=none:=by
   obtain ⟨m,rfl⟩:∃m,n=m+1:=⟨n - 1,by omega⟩;rw [hR,prF,QA (by decide),iC (by decide)]
  obtain ⟨O1,N1,V1,F1,M1,hr,l1,-,-,-,-,-,sn⟩:=Dx w hT hN l0;rw [Prg.c] at hr e1;rw [z4] at l1;unfold Sn3 at sn;simp [kA,bK,bJ,e11] at hK ⊢;simp [bJ,hK,e1,e4,e10,e11,e9,hr,l1,a7,sn];rw [hRR];exact ⟨_,15,by decide,rfl⟩
 ·have ck0:¬(k:Int)<0:=by omega
  have lL:(L.length+1)*8<=70368744177664:=by have:=vp.n;omega
  have ctk:¬c=tk/\¬tk=c:=by
   have:=aF lc lt (by simp);exact ⟨this,fun e=>this e.symm⟩
  have ztk:¬0=tk/\¬tk=0:=by
   have:=aF l0 lt (by simp);exact ⟨this,fun e=>this e.symm⟩
  have itk:¬id=tk:=aF li lt (by simp [rdr]);obtain ⟨O1,hO1⟩:∃O1,setl tk (.tok 1 (L.length+1)) O=O1:=⟨_,rfl⟩;have fr1:∀{j:Nat} {y:AO},j≠tk->look j O=some y->look j O1=some y:=fun {j y} h1 h2=>by rw [<- hO1,a7,QA h1,h2]
  have lc1:=fr1 ctk.1 lc;have l01:=fr1 ztk.1 l0;have li1:=fr1 itk li;have lt1:look tk O1=some (.tok 1 (L.length+1)):=by rw [<- hO1,a7,a8 rfl,lt];rfl
  have T1:Tail O1 N:=by rw [<- hO1];exact aK hT
  have R1:NR O1:=by rw [<- hO1];exact NR.setl (by simp) hN
  have pe1:PEo p O1 1 V F M x.1:=pe.fr fun j es _ hj=>fr1 (aF hj lt (by simp)) hj
  have vs:=vp.s k hk;have hmem:=Qd hk;have hle:=fun e=>N8 vs e
  obtain ⟨m,rfl⟩:∃m,n=m+1:=⟨n - 1,by omega⟩;rw [prF,QA (by omega),mM,Qa hk] at hR;simp only at hR;obtain ⟨iv,jf,im,A,hV,hF,hM,pe2,p1,p2,p3⟩:=pe1;have hex:=WO fs hd (s:=p.Xw[k]) vs.ex (fs.se _ hmem) hb hl (P:= .Xt 1 []) (x:=x) T1 R1 li1 q.1 pe2 p1 p2;rw [<- hV,<- hF,<- hM] at hex;have hcs:=fs.sv _ hmem;have hcl:=fs.sc _ hmem;have hcm:=vs.cm;generalize hst:p.Xw[k]=st at*;obtain ⟨O2,N2,kp,T2,R2,n2,hex⟩:=hex;have nF:∀{j z:Nat} {es:List (List AV)},z≠1->z≠3->look j O1=some (.row z es)->¬Fx id iv jf j:=fun {j z es} h1 h3 hj hf=>by
   rcases hf with hf | hf | hf
   ·exact aF hj li1 (by simp [rdr,h3]) hf
   ·exact aF hj pe2.lv (by simp [h1]) hf
   ·exact aF hj pe2.lf (by simp [h1]) hf
  have l02:look 0 O2=some (.row 4 [z4]):=by rw [kp 0 (T1.lt l01) (nF (by decide) (by decide) l01),l01]
  have lc2:look c O2=_:=(kp c (T1.lt lc1) (nF (by decide) (by decide) lc1)).trans lc1;have lt2:look tk O2=some (.tok 1 (L.length+1)):=by
   rw [kp tk (T1.lt lt1) (fun hf=>?_),lt1];rcases hf with hf | hf | hf
   ·exact aF lt1 li1 (by simp [rdr]) hf
   ·exact aF lt1 pe2.lv (by simp) hf
   ·exact aF lt1 pe2.lf (by simp) hf
  cases hy:exHs p d st.extract x with
  | none=>
   rw [hy] at hex hR;simp only at hex;obtain ⟨O3,N3,V3,F3,M3,hr,l3,-,-,-,-,-,sn⟩:=Dx w T2 R2 l02;rw [Prg.c] at hr hex e1;rw [Xc.c] at hex;rw [z4] at l3;unfold Sn3 at sn;simp [kA,bK,Xc.c,e11,ck0,hk,hst,e10,lt,e1,e4,e7,e9,lc1,lL,hO1,hex,hr,l3,a7,sn];rw [hR];exact ⟨_,3,by decide,rfl⟩
  | some y=>
   rw [hy] at hex hR;obtain ⟨hex,A2,pe3,li2,qy⟩:=hex;obtain ⟨g1,g2,g3,g4⟩:=Jq _ hy;have g5:=F0 hd _ q.2 hy;have ev2:EV p y.1:=ev.exHs (fun g hg f hf=>(vhdr (hd g hg)).w f hf) _ hy;have nx:=UB (s:=st) (e:=y.1) (Lw ev2 (fun h f=>(JP p h f).2) _ _) hcl hcs hcm;have po:PEo p O2 1 V F M y.1:=⟨iv,jf,im,A2,hV,hF,hM,pe3,by rw [g1,p1],by rw [g2,p2],by rw [g3,p3]⟩;have sn:=po.sn3;unfold Sn3 at sn;have pl2:=g4.trans pl;rw [fB] at hR;rw [Prg.c] at hex e1;rw [Xc.c] at hex nx;rw [Envt.ce,pl2] at nx;simp only [oJ] at nx;simp [bK,Xc.c,e11,ck0,hk,hst,e10,lt,e1,e4,e7,e9,lc1,lc2,lL,hO1,hex,sn,nx];have hl2:=M9 (hle y.1);refine ih m _ _ (by omega) ⟨O2,N2,V,F,M,L++[(k:Int)],nxS st y.1,y,rfl,?_⟩;refine ⟨by simp [e1,Prg.c],by simp [e4],by simp [e7],by simp [e9],by simp [cI],by simp,l02,lc2,li2,by simpa using lt2,po,⟨qy,g5⟩,pl2,T2,R2,by simp;omega,hR,?_,by omega,ev2,c0⟩;rcases hl2 with h | h | ⟨j,h1,h2,h3⟩
   ·exact .inl h
   ·exact .inr (.inl h)
   ·exact .inr (.inr ⟨j,h1,h3,by omega⟩)
theorem X4 {p:Prg} (fs:PrgS p) (w:PWd p) (hd:∀h∈p.Xo,hdrE h=0) (hp:(parE p).2.2=0) {d:List Int} (hb:bOk d):RunP p (prs p d) (a9 Φ 170 [.agg p.c,.slice 1 (d.map c8)]):=by
 rw [aC rfl rfl];have vp:=vpar hp;have T1:Tail [(0,AO.row 4 [z4])] 1:=Tail_cons_iff.2 ⟨by omega,Tail.nil _⟩;obtain ⟨O1,N1,V,F,M,hr,l0,po,kp,T,R,n1,-⟩:=Dx w T1 (.one (by simp)) rfl;have rf:=NF fs hd hp d;have tt:=T N1 (Qb _);have n0:¬0=N1/\¬N1=0:=by omega
 rw [Prg.c] at hr rf;rw [z4] at hr l0;by_cases hl:512<d.length
 ·rw [a8 hl] at rf;rw [prs,a8 hl];have sn:=(po.fr (O':=setl 0 (AO.row 4 [[V,F,M,.Xt 1 []]]) (O1++[(N1,.row 4 [[V,F,M,.Xt 1 []]])])) fun j es _ hj=>by rw [a7,QA (aF hj l0 (by simp)),aW hj]).sn3;unfold Sn3 at sn;simp [kA,Prg.c,hr,rf,tt,aA,a7,n0,l0,sn];exact ⟨_,4,by decide,rfl⟩
 ·rw [QA hl] at rf;rw [prs,QA hl];have nr:=UA (O:=O1++[(N1,.row 4 [[V,F,M,.Xt 1 []]])]) (N:=N1+1) (d:=d) (Tail_append_iff.2 ⟨T.mono (by omega),Tail_cons_iff.2 ⟨by omega,Tail.nil _⟩⟩) (by omega);have tk:∀k,look (N1+k) O1=none:=fun k=>T _ (by omega)
  simp [kA,Prg.c,hr,rf,tt,tk,aA,a7,n0,l0,nr,d7];have n1p:1<=p.Xw.length:=vp.n.1;refine R0 fs w hd vp hb (by omega) (c:=N1) (id:=N1+2) (t:=N1+1) (tk:=N1+3) (n:=p.Xw.length+1) (V:=V) (F:=F) (M:=M) (L:=[]) (s:=0) (x:=(eNew p,0)) ?_;have lt4:∀k,k<4->N1+k<N1+4:=fun k h=>by omega
  refine ⟨by simp [Prg.c],by simp,by simp,by simp,by simp,by simp,?_,?_,?_,?_,?_,by simp,by simp [eNew],?_,?_,by simp,rfl,.inr (.inr ⟨0,rfl,by omega,by omega⟩),by omega,EV.new p,by omega⟩
  ·rw [aA,l0];rfl
  ·simp [aA,tt]
  ·simp [aA,tk]
  ·simp [aA,tk]
  ·exact po.fr fun j es _ hj=>aW hj
  ·simp only [Tail_append_iff,Tail_cons_iff];exact ⟨T.mono (by omega),lt4 0 (by decide),lt4 1 (by decide),lt4 2 (by decide),lt4 3 (by decide),Tail.nil _⟩
  ·exact R.app (bV (by simp) (bV (by simp) (bV (by simp [rdr]) (.one (by simp)))))
def ParP (p:Prg) (R:Option Envt) (r:Option Rt):Prop:=match R with
 | some e=>r=some (.val (.tup [.agg e.c,.int .i64 0]))
 | none=>∃c,c≠0/\r=some (.val (.tup [.agg (eNew p).c,.int .i64 c]))
theorem QK {p:Prg} (fs:PrgS p) (w:PWd p) (hd:∀h∈p.Xo,hdrE h=0) (hp:(parE p).2.2=0) {d:List Int} (hb:bOk d):ParP p (prs p d) (a9 Φ 102 [.agg p.c,.slice 1 (d.map c8)]):=by
 rw [aC rfl rfl];have h:=X4 fs w hd hp hb;rw [Prg.c] at h;cases q:prs p d with
 | some e=>
  rw [q] at h;obtain ⟨l,h⟩:=h;rw [Envt.ce] at h;simp only [ParP];simp [rN,Prg.c,h,Envt.ce]
 | none=>
  rw [q] at h;obtain ⟨l,c,hc,h⟩:=h;rw [Envt.ce] at h;refine ⟨c,hc,?_⟩;simp [rN,Prg.c,h,Envt.ce]
theorem OZ {p:Prg} {h f v:Int} (h0:0<=v/\v<2^(wid p h f).toNat):v<=bF (wid p h f):=by
 have hw:=JP p h f;by_cases z:wid p h f=0
 ·rw [z] at h0 ⊢;simp at h0;have:bF 0=0:=by decide
  omega
 ·rw [GC (by omega) (by omega)];omega
theorem Lx {p:Prg} {h:Int} {l:List Int} (hl:l.length<2^40) (hv:∀(i:Nat) (v:Int),l[i]? =some v->0<=v/\v<2^(wid p h i).toNat):a9 Φ 399 [.agg p.c,.int .i64 h,.slice 1 (l.map c32)]=some (.val (.bool true)):=by
 rw [aC rfl rfl];simp [z5,Prg.c];refine eQ l.length (fun i E H=>look 9 E=some (.slice 1 (l.map c32))/\look 10 E=some (.int .i64 l.length)/\look 11 E=some (.int .i64 i)/\look 1 E=some (.int .i64 h)/\look 3 E=some (.iptr 9 [p.c] 0 0)/\H.objs=[]) (fun (r:Option Rt)=>r=some (.val (.bool true))) ?_ ?_ 0 _ _ (Qc _) ?_
 rotate_left 2
 ·exact ⟨by simp,by simp,by simp,by simp,by simp [Prg.c],rfl⟩
 ·rintro i E ⟨objs,n⟩ K hi hK ⟨e9,e10,e11,e1,e3,hH⟩ ih;cases hH;have hw:=aH i (by omega);have hwd:=DI p h i;have hm:=jI (wid p h i);have hle:¬bF (wid p h i)<l[i]:=by
   have:=OZ (hv i l[i] (Qa hi));omega
  rw [Prg.c] at hwd e3;generalize hx:l[i]=x at*;simp [gR,c32,e9,e10,e11,e1,e3,hi,hx,hw,hwd,hm,hle];refine ih _ _ ?_;exact ⟨by simp [e9],by simp [e10],by simp,by simp [e1],by simp [e3,Prg.c],rfl⟩
 ·rintro E ⟨objs,n⟩ K hK ⟨e9,e10,e11,e1,e3,hH⟩;cases hH;simp [gR,e10,e11] at hK ⊢;simp [lK,hK]
theorem PD {l:List Int} (hl:l.length<2^40) (hz:∀v∈l,v=0):a9 Φ 400 [.slice 1 (l.map c32)]=some (.val (.bool true)):=by
 rw [aC rfl rfl];have h1:a9 Φ 409 [.int .u32 0]=some (.val (.bool false)):=by
  rw [aC rfl rfl];simp [zA]
 have h2:a9 Φ 410 [.slice 1 (l.map c32),.func (.func 409) [] []]=some (.val (.int .i64 (-1))):=by
  rw [aC rfl rfl];simp [zB];refine eQ l.length (fun i E H=>look 0 E=some (.slice 1 (l.map c32))/\look 1 E=some (.func (.func 409) [] [])/\look 7 E=some (.int .i64 l.length)/\look 8 E=some (.int .i64 i)/\H.objs=[]) (fun (r:Option Rt)=>r=some (.val (.int .i64 (-1)))) ?_ ?_ 0 _ _ (Qc _) ?_
  rotate_left 2
  ·exact ⟨by simp,by simp,by simp,by simp,rfl⟩
  ·rintro i E ⟨objs,n⟩ K hi hK ⟨e0,e1,e7,e8,hH⟩ ih;cases hH;have hw:=aH i (by omega);have hx:=hz _ (Qd hi);simp [gT,c32,e0,e1,e7,e8,hi,hx,hw,h1];refine ih _ _ ?_;exact ⟨by simp [e0],by simp [e1],by simp [e7],by simp,rfl⟩
  ·rintro E ⟨objs,n⟩ K hK ⟨e0,e1,e7,e8,hH⟩;cases hH;simp [gT,e7,e8] at hK ⊢;simp [lQ,hK]
 have h3:a9 Φ 408 [.slice 1 (l.map c32),.func (.func 409) [] []]=some (.val (.bool false)):=by
  rw [aC rfl rfl];simp [z9,h2]
 simp [z6,h3]
theorem KT {p:Prg} (w:PWd p) {e:Envt} (ev:EV p e):a9 Φ 398 [.agg p.c,.agg e.c]=some (.val (.bool true)):=by
 rw [aC rfl rfl];simp [yZ,Prg.c,Envt.ce,ev.v,ev.f,ev.m];refine eQ e.Xz.length (fun i E H=>look 2 E=some (.iptr 9 [p.c] 0 0)/\look 33 E=some (.slice 1 (e.Xz.map (cS 1 c32)))/\look 34 E=some (.int .i64 e.Xz.length)/\look 35 E=some (.int .i64 i)/\H.objs=[]) (fun (r:Option Rt)=>r=some (.val (.bool true))) ?_ ?_ 0 _ _ (Qc _) ?_
 rotate_left 2
 ·exact ⟨by simp [Prg.c],by simp,by simp [ev.f],by simp,rfl⟩
 ·rintro i E ⟨objs,n⟩ K hi hK ⟨e2,e33,e34,e35,hH⟩ ih;cases hH;have hi2:i<p.Xo.length:=by rw [<- ev.f];exact hi
  have hw:IntKind.wrap .i64 ((i:Int)+1)=((i+1:Nat):Int):=cU (by omega) (by have:=w.hl;omega);have hg:=ev.g i hi hi2;rw [Prg.c] at e2;simp [gQ,cS,Xi.c,e2,e33,e34,e35,hi,hi2,hw,hg];refine ih _ _ ?_;exact ⟨by simp [e2,Prg.c],by simp [e33],by simp [e34],by simp,rfl⟩
 ·rintro E ⟨objs,n⟩ K hK ⟨e2,e33,e34,e35,hH⟩;cases hH;simp [gQ,e34,e35] at hK ⊢;simp [lJ,hK]
theorem P9 {p:Prg} (w:PWd p) {e:Envt} (ev:EV p e) (pl:e.payload.length<2^40):a9 Φ 362 [.agg p.c,.agg e.c]=some (.val (.int .i64 0)):=by
 rw [aC rfl rfl];have h1:=KT w ev;have h2:=Lx (p:=p) (h:= -1) (l:=e.metaF) (by rw [ev.m];exact w.ml) ev.fm;have hfl:e.Xz.length<2^40:=by rw [ev.f];exact w.hl
 have hgl:∀(i:Nat) (h:i<e.Xz.length),e.Xz[i].length<2^40:=fun i h=>by
  rw [ev.g i h (by rw [<- ev.f];exact h)];exact w.hf _ (Qd _)
 rw [Envt.ce,Prg.c] at h1;rw [Prg.c] at h2;simp [yH,Prg.c,Envt.ce,h1,h2];refine eQ e.Xz.length (fun i E H=>look 2 E=some (.iptr 9 [p.c] 0 0)/\look 3 E=some (.iptr 4 [e.c] 0 0)/\look 19 E=some (.slice 1 (e.Xz.map (cS 1 c32)))/\look 20 E=some (.int .i64 e.Xz.length)/\look 21 E=some (.int .i64 i)/\H.objs=[]) (fun (r:Option Rt)=>r=some (.val (.int .i64 0))) ?_ ?_ 0 _ _ (Qc _) ?_
 rotate_left 2
 ·exact ⟨by simp [Prg.c],by simp [Envt.ce],by simp,by simp,by simp,rfl⟩
 ·rintro i E ⟨objs,n⟩ K hi hK ⟨e2,e3,e19,e20,e21,hH⟩ ih;cases hH;have hw:=aH i (by omega);have hf:=Lx (p:=p) (h:=i) (l:=e.Xz[i]) (hgl i hi) (fun k v hk=>ev.ff i k _ v (Qa hi) hk);rw [Prg.c] at e2 hf;simp [gK,cS,e2,e3,e19,e20,e21,hi,hw,hf];refine ih _ _ ?_;exact ⟨by simp [e2,Prg.c],by simp [e3],by simp [e19],by simp [e20],by simp,rfl⟩
 ·rintro E ⟨objs,n⟩ K hK ⟨e2,e3,e19,e20,e21,hH⟩;cases hH;rw [Envt.ce] at e3;simp [gK,e20,e21] at hK ⊢;simp [lC,hK,e3];refine eQ e.Xz.length (fun i E H=>look 3 E=some (.iptr 4 [e.c] 0 0)/\look 33 E=some (.slice 1 (e.Xz.map (cS 1 c32)))/\look 34 E=some (.int .i64 e.Xz.length)/\look 35 E=some (.int .i64 i)/\H.objs=[]) (fun (r:Option Rt)=>r=some (.val (.int .i64 0))) ?_ ?_ 0 _ _ (Qc _) ?_
  rotate_left 2
  ·exact ⟨by simp [e3,Envt.ce],by simp,by simp,by simp,rfl⟩
  ·rintro i E ⟨objs,n⟩ K hi hK ⟨e3,e33,e34,e35,hH⟩ ih;cases hH;have hw:=aH i (by omega);have hiv:i<e.valid.length:=by rw [ev.v,<- ev.f];exact hi
   rw [Envt.ce] at e3;have next:∀{E2:Env} {m:Nat},(∀j,j=3\/j=33\/j=34->look j E2=look j E)->look 35 E2=some (.int .i64 (i+1:Nat))->_:=fun {E2 m} hE h35=>ih E2 ⟨[],m⟩ ⟨by rw [hE 3 (by simp),e3,Envt.ce],by rw [hE 33 (by simp),e33],by rw [hE 34 (by simp),e34],h35,rfl⟩
   cases q:e.valid[i] with
   | true=>
    simp [eA,cS,cB,e3,e33,e34,e35,hi,hw,hiv,q];exact next (by rintro j (rfl | rfl | rfl)<;>simp) (by simp)
   | false=>
    have hz:=PD (hgl i hi) (ev.z i _ (by rw [Qa hiv,q]) (Qa hi));simp [eA,cS,cB,e3,e33,e34,e35,hi,hw,hiv,q,hz];exact next (by rintro j (rfl | rfl | rfl)<;>simp) (by simp)
  ·rintro E ⟨objs,n⟩ K hK ⟨e3,e33,e34,e35,hH⟩;cases hH;simp [eA,e34,e35] at hK ⊢;simp [lB,hK]
theorem ae {p:Prg} (fs:PrgS p) (w:PWd p) (hd:∀h∈p.Xo,hdrE h=0) (hp:(depE p).2=0) {e:Envt} (ev:EV p e) (pl:e.payload.length<2^40):a9 Φ 295 [.agg p.c,.agg e.c]=some (.val (.bool true)):=by
 rw [aC rfl rfl];have hc:=TC p fs;have he:=P9 w ev pl;rw [hp] at hc;rw [Prg.c] at hc he;simp [wW,Prg.c,Envt.ce,hc];refine eQ p.Xo.length (fun i E h=>look 17 E=some (.slice 2 (p.Xo.map Xi.c))/\look 18 E=some (.int .i64 p.Xo.length)/\look 19 E=some (.int .i64 i)/\look 2 E=some (.iptr 9 [p.c] 0 0)/\look 3 E=some (.iptr 4 [e.c] 0 0)/\h.objs=[]) (fun (r:Option Rt)=>r=some (.val (.bool true))) ?_ ?_ 0 _ _ (Qc _) ?_
 rotate_left 2
 ·exact ⟨by simp,by simp,by simp,by simp [Prg.c],by simp [Envt.ce],rfl⟩
 ·rintro i E ⟨objs,n⟩ K hi hK ⟨e17,e18,e19,e2,e3,h⟩ ih;cases h;have hw:IntKind.wrap .i64 ((i:Int)+1)=((i+1:Nat):Int):=cU (by omega) (by have:=fs.h;omega);have hg:=Qd hi;generalize hx:p.Xo[i]=g at*;have hh:=GH g (fs.hn _ hg) (fs.hf _ hg);rw [hd _ hg,Xi.c] at hh;simp [gC,Xi.c,e17,e18,e19,hi,hx,hw,hh];refine ih _ _ ?_;exact ⟨by simp [e17],by simp [e18],by simp,by simp [e2],by simp [e3],rfl⟩
 ·rintro E ⟨objs,n⟩ K hK ⟨e17,e18,e19,e2,e3,h⟩;cases h;rw [Envt.ce] at he e3;rw [Prg.c] at e2;simp [gC,e18,e19] at hK ⊢;simp [kX,hK,e2,e3,he]
def wdat (bs:List Bool):List Int:=byts (bs.length / 8) bs++(if bs.length % 8=0 then [] else [byt (bs.drop (8*(bs.length / 8)))*2^(8 - bs.length % 8)])
theorem D0:∀(m:Nat) (l:List Bool),(byts m l).length=m
 | 0,_=>rfl
 | m+1,l=>by simp [byts,D0 m]
theorem Jx:∀(m:Nat) (a b:List Bool),8*m<=a.length->byts m (a++b)=byts m a
 | 0,_,_,_=>rfl
 | m+1,a,b,h=>by
  simp only [byts];rw [List.take_append_of_le_length (by omega),List.drop_append_of_le_length (by omega),Jx m _ _ (by rw [HH];omega)]
theorem Ik:∀(m:Nat) (l:List Bool),byts (m+1) l=byts m l++[byt ((l.drop (8*m)).take 8)]
 | 0,l=>by simp [byts]
 | m+1,l=>by
  rw [byts,Ik m,byts];simp only [mD,vA];rw [show 8+8*m=8*(m+1) by omega]
theorem OP (l:List Bool) (b:Bool):byt (l++[b])=2*byt l+b2i b:=by simp [byt,List.foldl_append]
theorem EO (b:Bool):0<=b2i b/\b2i b<=1:=by cases b<;>simp [b2i]
theorem Lq:∀(l:List Bool) (a:Int),0<=a->0<=l.foldl (fun n b=>2*n+b2i b) a/\l.foldl (fun n b=>2*n+b2i b) a<(a+1)*2^l.length
 | [],a,h=>by simp;omega
 | b::l,a,h=>by
  have hb:=EO b;have ih:=Lq l (2*a+b2i b) (by omega);refine ⟨ih.1,Int.lt_of_lt_of_le ih.2 ?_⟩;rw [tK,Int.pow_succ,show (a+1)*(2^l.length*2)=(2*a+2)*2^l.length by rw [Int.mul_comm (2^l.length) 2,<- Int.mul_assoc];congr 1;omega];exact Int.mul_le_mul_of_nonneg_right (by omega) (uI (CY _))
theorem SQ (l:List Bool):0<=byt l/\byt l<2^l.length:=by
 have:=Lq l 0 (by omega);simpa [byt] using this
theorem OQ:∀k:Fin 8,∀v:Fin 128,∀b:Fin 2,v.1<2^k.1->ior .u8 (((v.1*2^(8 - k.1):Nat):Int)) (ishl .u8 ((b.1:Nat):Int) (7 - ((k.1:Nat):Int)))=(((2*v.1+b.1)*2^(7 - k.1):Nat):Int):=by decide+kernel
theorem SR {k:Nat} (hk:k<8) {v b:Int} (hv:0<=v/\v<2^k) (hb:0<=b/\b<=1):ior .u8 (v*2^(8 - k)) (ishl .u8 b (7 - (k:Int)))=(2*v+b)*2^(7 - k):=by
 obtain ⟨n,rfl⟩:=mP hv.1;obtain ⟨c,rfl⟩:=mP hb.1;have h1:n<2^k:=by have:=hv.2;rw [<- oG] at this;omega
 have h2:2^k<=2^7:=uD (by decide) (by omega);have:=OQ ⟨k,hk⟩ ⟨n,by omega⟩ ⟨c,by omega⟩ h1;simp only [Int.natCast_mul,Int.natCast_add,oG] at this;exact this
theorem zQ (bs:List Bool):(wdat bs).length=(bs.length+7) / 8:=by
 unfold wdat;rw [nJ,D0];split<;>simp<;>omega
theorem Ky:wdat []=[]:=by simp [wdat,byts]
def tC (bs:List Bool):Int:=byt (bs.drop (8*(bs.length / 8)))
theorem OD (bs:List Bool):0<=tC bs/\tC bs<2^(bs.length % 8):=by
 have:=SQ (bs.drop (8*(bs.length / 8)));rw [HH,show bs.length - 8*(bs.length / 8)=bs.length % 8 by omega] at this;exact this
theorem Jn (bs:List Bool) (b:Bool):wdat (bs++[b])=byts (bs.length / 8) bs++[(2*tC bs+b2i b)*2^(7 - bs.length % 8)]:=by
 have e1:=Jx (bs.length / 8) bs [b] (by omega);have e2:byt ((bs++[b]).drop (8*(bs.length / 8)))=2*tC bs+b2i b:=by
  rw [List.drop_append_of_le_length (by omega),OP];rfl
 unfold wdat;rw [nJ,List.length_singleton];by_cases z:(bs.length+1) % 8=0
 ·rw [a8 z,v8,show (bs.length+1) / 8=bs.length / 8+1 by omega,Ik,e1,Qo (by rw [HH,nJ,List.length_singleton];omega),e2,show 7 - bs.length % 8=0 by omega];simp
 ·rw [QA z,show (bs.length+1) / 8=bs.length / 8 by omega,e1,e2,show 8 - (bs.length+1) % 8=7 - bs.length % 8 by omega]
def wpre (bs:List Bool):List Int:=byts (bs.length / 8) bs++[tC bs*2^(8 - bs.length % 8)]
theorem VU (bs:List Bool):wpre bs=if bs.length % 8=0 then wdat bs++[0] else wdat bs:=by
 unfold wpre wdat;split
 ·rename_i z;have:bs.drop (8*(bs.length / 8))=[]:=List.drop_eq_nil_of_le (by omega);simp [tC,this,byt]
 ·rfl
theorem S1 (bs:List Bool):(wpre bs).length=bs.length / 8+1:=by simp [wpre,D0]
theorem S0 (bs:List Bool) (h:bs.length / 8<(wpre bs).length):(wpre bs)[bs.length / 8]=tC bs*2^(8 - bs.length % 8):=by
 simp [wpre,D0]
theorem S3 (bs:List Bool) (b:Bool):(wpre bs).set (bs.length / 8) ((2*tC bs+b2i b)*2^(7 - bs.length % 8))=wdat (bs++[b]):=by
 rw [Jn,wpre,List.set_append_right _ _ (by rw [D0];exact Qb _),D0,Nat.sub_self];rfl
theorem CT (v:Int):∀w,(eX v w).length=w
 | 0=>rfl
 | w+1=>by simp [eX,CT v w]
theorem Ij (v:Int):∀(w i:Nat) (h:i<(eX v w).length),(eX v w)[i]=decide (v / 2^(w - 1 - i) % 2=1)
 | 0,i,h=>by simp [eX] at h
 | w+1,0,_=>rfl
 | w+1,i+1,h=>by
  simp only [eX,List.getElem_cons_succ];rw [Ij v w i,show w+1 - 1 - (i+1)=w - 1 - i by omega]
structure WM (O:List (Nat×AO)) (id:Nat) (D:AV) (bs:List Bool):Prop where
 l:look id O=some (.row 3 [[D,.int .i64 bs.length,.bool true]])
 d:NRw O 0 D ((wdat bs).map c8)
def NB (z:Nat) (es:List (List AV)):Prop:=∀l:List Int,AO.row z es≠AO.row 1 (l.map c8)
def Fr1 (id:Nat) (O O':List (Nat×AO)):Prop:=∀j z es,NB z es->j≠id->look j O=some (.row z es)->look j O'=some (.row z es)
def WrP (id N:Nat) (O:List (Nat×AO)) (bs:List Bool) (r:Option (Rt×AH)):Prop:=
 ∃O' N' D,r=some (.val (.int .i64 0),⟨O',N'⟩)/\WM O' id D bs/\Fr1 id O O'/\Tail O' N'/\NR O'/\N<=N'
structure WBI (id N:Nat) (O:List (Nat×AO)) (v:Int) (w:Nat) (bs:List Bool) (i:Nat) (E:Env) (O':List (Nat×AO)) (N':Nat) (D:AV):Prop where
 e0:look 0 E=some (.ptr id 3 0 0)
 e1:look 1 E=some (.int .u32 v)
 e2:look 2 E=some (.int .i64 w)
 e31:look 31 E=some (.int .i64 w)
 e32:look 32 E=some (.int .i64 i)
 m:WM O' id D (bs++(eX v w).take i)
 f:Fr1 id O O'
 t:Tail O' N'
 r:NR O'
 n:N<=N'
theorem VM {v:Int} {w i:Nat} (hv:0<=v/\v<2^w) (hw:w<=32) (hi:i<w):IntKind.wrap .u8 (iand .u32 (ishr .u32 v ((w - 1 - i:Nat):Int)) 1)=b2i ((eX v w)[i]'(by rw [CT];exact hi)):=by
 rw [Df hv.1 (by omega) (by omega),Ij];have h2:=mB (Do hv (w - 1 - i)) hw;rw [show ((w - 1 - i:Nat):Int).toNat=w - 1 - i by omega];have h3:=IE h2 (k:=1) (by decide);rw [show ((2:Int)^1 - 1)=1 by decide,show ((2:Int)^1)=2 by decide] at h3;rw [h3];generalize v / 2^(w - 1 - i)=x;by_cases z:x % 2=1
 ·rw [z];decide
 ·rw [show x % 2=0 by omega];decide
theorem UR {id N:Nat} {O:List (Nat×AO)} {v:Int} {w:Nat} {bs:List Bool} (hv:0<=v/\v<2^w) (hw:w<=32) (hb:bs.length+w<2^40) {E:Env} {O':List (Nat×AO)} {N':Nat} {D:AV} (h:WBI id N O v w bs 0 E O' N' D):
  WrP id N O (bs++eX v w) (go Φ (finC o9.results) [.c (.loop bS),.b 1,.c eB] .normal ⟨E,⟨O',N'⟩⟩):=by
 refine eQ w (fun i E h=>∃O' N' D,h=⟨O',N'⟩/\WBI id N O v w bs i E O' N' D) _ ?_ ?_ 0 _ _ (Qc _) ⟨_,_,_,rfl,h⟩
 ·rintro i E _ K hi hK ⟨O',N',D,rfl,h⟩ ih;obtain ⟨e0,e1,e2,e31,e32,m,f,t,r,n⟩:=h;have hil:i<(eX v w).length:=by rw [CT];exact hi
  have hbe:=VM hv hw hi;have htk:(eX v w).take (i+1)=(eX v w).take i++[(eX v w)[i]]:=Qh hil;have hlen:(bs++(eX v w).take i).length=bs.length+i:=by simp [CT];omega
  have hap:bs++(eX v w).take (i+1)=(bs++(eX v w).take i)++[(eX v w)[i]]:=by rw [htk,tI]
  generalize (eX v w)[i]=b at hbe htk hap;generalize hcs:bs++(eX v w).take i=cs at*;have hw1:=aH i (by omega);have hw2:IntKind.wrap .i64 (((cs.length:Nat):Int)+1)=((cs.length+1:Nat):Int):=cU;have hw3:IntKind.wrap .i64 ((w:Int) - 1)=((w - 1:Nat):Int):=by rw [cU];omega
  have hw4:IntKind.wrap .i64 (((w - 1:Nat):Int) - i)=((w - 1 - i:Nat):Int):=by rw [cU];omega
  have d1:IntKind.wrap .i64 ((cs.length:Int) / 8)=((cs.length / 8:Nat):Int):=by
   have:(cs.length:Int) / 8=((cs.length / 8:Nat):Int):=rfl;rw [this,cU]
  have d2:IntKind.wrap .i64 (7 - ((cs.length % 8:Nat):Int))=7 - ((cs.length % 8:Nat):Int):=cU;have d0:(cs.length:Int).tmod 8=((cs.length % 8:Nat):Int):=rfl;have hor:=SR (k:=cs.length % 8) (Nat.mod_lt _ (by decide)) (OD cs) (EO b);have ps:=S3 cs b;have pl:=S1 cs;have pg:=S0 cs;have pe:=VU cs;obtain ⟨li,ld⟩:=m;have tt:∀k,look (N'+k) O'=none:=fun k=>t _ (by omega)
  have t0:=t N' (Qb _);have fin:∀{E2:Env} {H2:List (Nat×AO)} {N2:Nat} {D2:AV},(∀j,j=0\/j=1\/j=2\/j=31->look j E2=look j E)->look 32 E2=some (.int .i64 (i+1:Nat))->WM H2 id D2 (cs++[b])->Fr1 id O' H2->Tail H2 N2->NR H2->N'<=N2->
    WrP id N O (bs++eX v w) (go Φ (finC o9.results) K .normal ⟨E2,⟨H2,N2⟩⟩):=fun {E2 H2 N2 D2} hE h32 hm hf ht hr hn=>
   ih _ _ ⟨_,_,D2,rfl,by rw [hE 0 (by simp),e0],by rw [hE 1 (by simp),e1],by rw [hE 2 (by simp),e2],by rw [hE 31 (by simp),e31],h32,by rw [hap];exact hm,fun j z es h1 h2 h3=>hf j z es h1 h2 (f j z es h1 h2 h3),ht,hr,by omega⟩
  have wd:∀{H2:List (Nat×AO)} {dd n:Nat},n=(wdat (cs++[b])).length->look id H2=some (.row 3 [[.row dd 1 0 n,.int .i64 (cs.length+1),.bool true]])->look dd H2=some (.row 1 ((wdat (cs++[b])).map c8))->WM H2 id (.row dd 1 0 n) (cs++[b]):=fun {H2 dd n} hn h1 h2=>
   ⟨by rw [h1];simp,.inr ⟨dd,by rw [hn];simp,h2,Qc _,fun h=>by
    have:=congrArg List.length h;rw [cQ,zQ] at this;simp at this;omega⟩⟩
  have wl:(wdat (cs++[b])).length=cs.length / 8+1:=by rw [<- ps,List.length_set,pl]
  by_cases z:cs.length % 8=0
  ·rw [a8 z] at pe;have lt2:∀k,k<2->N'+k<N'+2:=fun k h=>by omega
   rcases ld with ⟨hz,rfl⟩ | ⟨dd,rfl,ld,_,hne⟩
   ·have hc0:cs=[]:=by
     have:=congrArg List.length hz;rw [cQ,zQ] at this;simp at this;exact Qg (by omega)
    subst hc0;have hor0:ior .u8 0 (ishl .u8 (b2i b) 7)=b2i b*128:=by cases b<;>decide
    have hwb:wdat ([]++[b])=[b2i b*128]:=by rw [Jn];simp [byts,tC,byt]
    have fi:=fun k=>aY (n:=N'+k) t li (by omega)
    simp only [CE] at li hw2 d1 d2;have w0:IntKind.wrap .i64 0=0:=rfl;have w1:IntKind.wrap .i64 1=1:=rfl;have w7:IntKind.wrap .i64 7=7:=rfl;have iq:∀k,(id == N'+k)=false:=fun k=>by simp [fi k]
    simp [bS,e0,e1,e2,e31,e32,hi,li,a7,aA,hw1,hw3,hw4,hbe,t0,tt,d7,fi,iq,w0,w1,w7,oE,r.eq,r.sw,uT li,eZ,hor0];refine fin (by rintro j (rfl | rfl | rfl | rfl)<;>simp) (by simp) (wd (dd:=N'+1) (n:=1) (by rw [hwb];rfl) ?_ ?_) ?_ ?_ ?_ (AK _ _)
    ·rw [a7,a8 rfl,aA,a7,a8 rfl,li];rfl
    ·rw [a7,QA (fi 1).2,aA,a7,QA (fi 1).2,tt,hwb];simp [c8]
    ·intro j z es h1 h2 h3;rw [a7,QA h2,aA,a7,QA h2,h3];rfl
    ·exact aK (Tail_append_iff.2 ⟨aK (t.mono (by omega)),Tail_cons_iff.2 ⟨lt2 0 (by decide),Tail_cons_iff.2 ⟨lt2 1 (by decide),Tail.nil _⟩⟩⟩)
    ·exact NR.setl (by simp) ((NR.setl (by simp) r).app (bV (by simp) (.one (by simp))))
   ·have idd:¬id=dd/\¬dd=id:=by
     have:=aF li ld (by simp);exact ⟨this,fun e=>this e.symm⟩
    have fi:=fun k=>aY (n:=N'+k) t li (by omega)
    have fd:=fun k=>aY (n:=N'+k) t ld (by omega)
    have li1:look id (dropl dd O')=_:=(iR idd.1 O').trans li;have hcat:(wdat cs).map c8++[[AV.int .u8 0]]=(wpre cs).map c8:=by rw [pe,tN];rfl
    have hlt:cs.length / 8<(wpre cs).length:=by omega
    have iq:∀k,(id == N'+k)=false:=fun k=>by simp [fi k]
    have hbd:(wdat cs).length+1<=70368744177664:=by rw [zQ];omega
    have hlt3:((cs.length / 8:Nat):Int)<((wdat cs).length:Int)+1:=by rw [zQ];omega
    have w7:IntKind.wrap .i64 7=7:=rfl;have wl8:(wdat cs).length=cs.length / 8:=by rw [zQ];omega
    generalize hm8:cs.length / 8=m8 at*;rw [z] at hor d2 d0 ps pg;simp only [Int.ofNat_zero,Nat.sub_zero,Int.sub_zero] at hor ps pg;simp [bS,c8,e0,e1,e2,e31,e32,hi,li,ld,a7,aA,iR,d0,hw1,hw2,hw3,hw4,d1,d2,hbe,idd,iq,hlt,pg,hor,eZ,r.eq,t0,tt,d7,fi,fd,hcat,hbd,hlt3,w7,oE,IO ld,uT li1];rw [show (2:Int)^8=256 by decide] at hor;have es:((wpre cs).map c8).set m8 [.int .u8 (ior .u8 (tC cs*256) (ishl .u8 (b2i b) 7))]=(wdat (cs++[b])).map c8:=by rw [<- ps,qZ,hor];rfl
    rw [es];refine fin (by rintro j (rfl | rfl | rfl | rfl)<;>simp) (by simp) (wd (dd:=N'+1) (n:=(wdat cs).length+1) (by rw [wl,wl8]) ?_ ?_) ?_ ?_ ?_ (AK _ _)
    ·rw [a7,a8 rfl,aA,a7,a8 rfl,li1];rfl
    ·rw [a7,QA (fi 1).2,aA,a7,QA (fi 1).2,uL _ (tt 1)];simp
    ·intro j z es h1 h2 h3;rw [a7,QA h2,aA,a7,QA h2,iR (aF h3 ld (h1 _)),h3];rfl
    ·exact aK (Tail_append_iff.2 ⟨aK (uN (t.mono (by omega))),Tail_cons_iff.2 ⟨lt2 0 (by decide),Tail_cons_iff.2 ⟨lt2 1 (by decide),Tail.nil _⟩⟩⟩)
    ·exact NR.setl (by simp) ((NR.setl (by simp) (NR.dropl r)).app (bV (by simp) (.one (by simp))))
  ·rw [QA z] at pe;rcases ld with ⟨hz,_⟩ | ⟨dd,rfl,ld,_,hne⟩
   ·exfalso;have:=congrArg List.length hz;rw [cQ,zQ] at this;simp at this;omega
   have zi:¬((cs.length % 8:Nat):Int)=0:=by omega
   have idd:¬id=dd/\¬dd=id:=by
    have:=aF li ld (by simp);exact ⟨this,fun e=>this e.symm⟩
   rw [pe] at ps pl pg;have hlt:cs.length / 8<(wdat cs).length:=by omega
   have iq:(id == dd)=false:=by simp [idd]
   have q7:(cs.length % 8:Nat)<=7:=by omega
   have q7':((cs.length % 8:Nat):Int)<=7:=by omega
   generalize hm8:cs.length / 8=m8 at*;generalize hk8:cs.length % 8=k8 at*;simp [bS,c8,e0,e1,e2,e31,e32,hi,li,ld,a7,d0,z,hw1,hw2,hw3,hw4,d1,d2,hbe,idd,iq,hlt,pg,q7,q7',hor,eZ,r.eq,r.sw];have es:((wdat cs).map c8).set m8 [.int .u8 ((2*tC cs+b2i b)*2^(7 - k8))]=(wdat (cs++[b])).map c8:=by rw [<- ps,qZ];rfl
   rw [es];refine fin (by rintro j (rfl | rfl | rfl | rfl)<;>simp) (by simp) (wd (dd:=dd) (n:=(wdat cs).length) (by rw [wl,pl]) ?_ ?_) ?_ (aK (aK t)) (NR.setl (by simp) (NR.setl (by simp) r)) (Qb _)
   ·rw [a7,a8 rfl,a7,QA idd.1,li];rfl
   ·rw [a7,QA idd.2,a7,a8 rfl,ld];rfl
   ·intro j z es h1 h2 h3;rw [a7,QA h2,a7,QA (aF h3 ld (h1 _)),h3]
 ·rintro E _ K hK ⟨O',N',D,rfl,h⟩;obtain ⟨e0,e1,e2,e31,e32,m,f,t,r,n⟩:=h;rw [Qo (by rw [CT];exact Qb _)] at m;simp [o9,bS,eB,e31,e32] at hK ⊢;simp [eB,hK];exact ⟨O',N',D,rfl,m,f,t,r,n⟩
theorem Ln {id N:Nat} {O:List (Nat×AO)} {v:Int} {w:Nat} {bs:List Bool} (h1:1<=w) (hw:w<=32) (hv:0<=v/\v<2^w) (hb:bs.length+w<2^40) {D:AV} (m:WM O id D bs) (t:Tail O N) (r:NR O):
  WrP id N O (bs++eX v w) (aD Φ 364 [.ptr id 3 0 0,.int .u32 v,.int .i64 w] ⟨O,N⟩):=by
 rw [cP rfl rfl];have hf:=D6 v w;have hfit:fits v w=true:=by
  have wb:wBad (w:Int)=false:=by simp [wBad];omega
  have:=hv.2;simp [fits,bF,wb];omega
 rw [hfit] at hf;have a1:¬(w:Int)<1:=by omega
 have a2:¬32<w:=by omega
 have a3:¬w=0:=by omega
 have li:=m.l;simp [o9,li,a1,a2,a3,hf];refine UR hv hw hb (D:=D) ?_;exact ⟨by simp,by simp,by simp,by simp,by simp,by simpa using m,fun j z es _ _ h=>h,t,r,Qb _⟩
theorem Nj {O:List (Nat×AO)} {N:Nat} (hT:Tail O N):aD Φ 296 [] ⟨O,N⟩=some (.val (.ptr N 3 0 0),⟨O++[(N,.row 3 [[.Xt 1 [],.int .i64 0,.bool true]])],N+1⟩):=by
 rw [cP rfl rfl];have t0:=hT N (Qb _);simp [wX,t0]
theorem Y8 {O:List (Nat×AO)} {N:Nat} (hT:Tail O N):WM (O++[(N,.row 3 [[.Xt 1 [],.int .i64 0,.bool true]])]) N (.Xt 1 []) []:=
 ⟨by rw [aA,hT N (Qb _)];simp,.inl ⟨by rw [Ky];rfl,rfl⟩⟩
def BtP (N:Nat) (O:List (Nat×AO)) (bs:List Bool) (r:Option (Rt×AH)):Prop:=
 ∃L N',r=some (.val (.tup [.app 1 ((wdat bs).map c8) N,.int .i64 0]),⟨O++L,N'⟩)/\Tail (O++L) N'/\NR (O++L)/\N<=N'/\look N (O++L)=some (.tok 1 (wdat bs).length)
theorem Cg {id N:Nat} {O:List (Nat×AO)} {bs:List Bool} {D:AV} (m:WM O id D bs) (t:Tail O N) (r:NR O) (z:bs.length % 8=0) (hb:bs.length<2^40):BtP N O bs (aD Φ 299 [.ptr id 3 0 0] ⟨O,N⟩):=by
 rw [cP rfl rfl];have t0:=t N (Qb _);have d0:(bs.length:Int).tmod 8=0:=by
  have:(bs.length:Int).tmod 8=((bs.length % 8:Nat):Int):=rfl;rw [this,z];rfl
 have hl:(wdat bs).length<=70368744177664:=by rw [zQ];omega
 obtain ⟨li,ld⟩:=m;have fin:BtP N O bs (some (.val (.tup [.app 1 ((wdat bs).map c8) N,.int .i64 0]),⟨O++[(N,.tok 1 (wdat bs).length)],N+1⟩)):=
  ⟨_,_,rfl,Tail_append_iff.2 ⟨t.mono (by omega),Tail_cons_iff.2 ⟨by omega,Tail.nil _⟩⟩,r.app (.one (by simp)),by omega,by rw [aA,t0];simp⟩
 rcases ld with ⟨hz,rfl⟩ | ⟨dd,rfl,ld,_,hne⟩
 ·have hw:wdat bs=[]:=by simpa using hz
  rw [hw] at fin;simp [sH,li,d0,t0];simpa using fin
 ·have hb2:∀l:List Int,anyL (bor 40) (l.map c8).flatten=false:=by
   intro l
   induction l with
   | nil=>simp
   | cons x l ih=>simp [c8];exact ih
  have hs:mapO (oM ⟨O,N⟩) ((wdat bs).map c8)=some ((wdat bs).map c8):=mL (g:=c8) (n:=40) (H:=⟨O,N⟩) (fun x=>by simp [c8]) (wdat bs);have al:jK 1 ((wdat bs).map c8)=true:=p6 1 c8 _ fun x=>by simp
  simp [sH,li,d0,t0,ld,hl,hb2,hs,al];exact fin
theorem Aq:∀(l:List Fld) (v:List Int) (i:Nat) (h1:i<l.length) (h2:i<v.length),oQ (l.take (i+1)) (v.take (i+1))=oQ (l.take i) (v.take i)++eX v[i] l[i].Yc.toNat
 | f::l,x::v,0,_,_=>by simp [oQ]
 | f::l,x::v,i+1,h1,h2=>by
  simp only [List.take_succ_cons,oQ,List.getElem_cons_succ,tI];rw [Aq l v i (by simpa using h1) (by simpa using h2)]
theorem G2:∀(l:List Fld) (v:List Int),v.length=l.length->(oQ l v).length=wN l
 | [],[],_=>rfl
 | f::l,x::v,h=>by
  simp only [oQ,nJ,CT,wN,jL,E6];rw [G2 l v (by simpa using h)];rfl
def fitF (l:List Fld) (v:List Int):Prop:=v.length=l.length/\∀(i:Nat) (h1:i<l.length) (h2:i<v.length),0<=v[i]/\v[i]<2^l[i].Yc.toNat
theorem WP:a9 Φ 401 [.slice 1 [[.int .i64 0],[.int .i64 0]]]=some (.val (.int .i64 0)):=by
 rw [aC rfl rfl];have w1:IntKind.wrap .i64 1=1:=rfl;have w2:IntKind.wrap .i64 2=2:=rfl;simp [z7];rw [cW];simp [eD,w1];rw [cW];simp [eD,w1,w2];rw [cW];simp [eD,lO]
structure PKI (l:List Fld) (v:List Int) (id i:Nat) (E:Env) (O:List (Nat×AO)) (N:Nat) (D:AV):Prop where
 e1:look 1 E=some (.slice 1 (l.map fun f=>[.int .i64 f.Yc]))
 e6:look 6 E=some (.ptr id 3 0 0)
 e7:look 7 E=some (.int .i64 0)
 e16:look 16 E=some (.slice 1 (v.map c32))
 e17:look 17 E=some (.int .i64 l.length)
 e18:look 18 E=some (.int .i64 i)
 m:WM O id D (oQ (l.take i) (v.take i))
 t:Tail O N
 r:NR O
theorem TI {l:List Fld} {v:List Int} (hl:l.length<=12) (hw:∀f∈l,1<=f.Yc/\f.Yc<=32) (hs:wN l % 8=0) (fv:fitF l v):∃b,a9 Φ 363 [.slice 1 (v.map c32),.slice 1 (l.map fun f=>[.int .i64 f.Yc])]=some (.val (.tup [b,.int .i64 0])):=by
 rw [aC rfl rfl];have nw:=Nj (O:=[]) (N:=0) (Tail.nil _);obtain ⟨fl,fv⟩:=fv;have hwN:∀i,wN (l.take i)<=384:=by
  have aux:∀l:List Fld,(∀f∈l,1<=f.Yc/\f.Yc<=32)->wN l<=32*l.length:=by
   intro l
   induction l with
   | nil=>intro _;simp [wN]
   | cons f l ih=>
    intro h;have h1:=ih fun g hg=>h g (by simp [hg])
    have h2:=h f (by simp);simp only [wN,jL,E6,tK] at h1 ⊢;omega
  intro i;have:=aux (l.take i) fun f hf=>hw f (Qu hf)
  have h2:(l.take i).length<=l.length:=by rw [uE];omega
  omega
 simp [sN,fl,nw];refine eQ l.length (fun i E h=>∃O N D id,h=⟨O,N⟩/\PKI l v id i E O N D) (fun (r:Option Rt)=>∃b,r=some (.val (.tup [b,.int .i64 0]))) ?_ ?_ 0 _ _ (Qc _) ?_
 rotate_left 2
 ·refine ⟨_,_,.Xt 1 [],0,rfl,?_⟩;exact ⟨by simp,by simp,by simp,by simp,by simp,by simp,by simpa [oQ] using Y8 (O:=[]) (N:=0) (Tail.nil _),Tail_cons_iff.2 ⟨by omega,Tail.nil _⟩,.one (by simp)⟩
 ·rintro i E _ K hi hK ⟨O,N,D,id,rfl,h⟩ ih;obtain ⟨e1,e6,e7,e16,e17,e18,m,t,r⟩:=h;have hiv:i<v.length:=by omega
  have hw1:=aH i (by omega);have hf:=hw l[i] (Qd hi);have st:=Aq l v i hi hiv;have ln:=G2 (l.take i) (v.take i) (by simp [fl]);have hN:=hwN i;obtain ⟨O2,N2,D2,hr,m2,_,t2,r2,_⟩:=Ln (w:=l[i].Yc.toNat) (v:=v[i]) (by omega) (by omega) (fv i hi hiv) (by omega) m t r;rw [show ((l[i].Yc.toNat:Nat):Int)=l[i].Yc by omega] at hr;rw [<- st] at m2;have f0:=WP;generalize hx:l[i]=x at*;generalize hy:v[i]=y at*;simp [gL,c32,e1,e6,e7,e16,e17,e18,hi,hiv,hx,hy,hw1,hr,f0];refine ih _ _ ⟨O2,N2,D2,id,rfl,?_⟩;exact ⟨by simp [e1],by simp [e6],by simp,by simp [e16],by simp [e17],by simp,m2,t2,r2⟩
 ·rintro E _ K hK ⟨O,N,D,id,rfl,h⟩;obtain ⟨e1,e6,e7,e16,e17,e18,m,t,r⟩:=h;rw [iS,Qo (by omega)] at m;have ln:=G2 l v fl;have hN:=hwN l.length;rw [iS] at hN;obtain ⟨L,N2,hr,-,-,-,-⟩:=Cg m t r (by omega) (by omega);simp [sN,gL,e17,e18] at hK ⊢;simp [lD,hK,e6,hr]
structure HWI (l:List Fld) (v:List Int) (id N:Nat) (O:List (Nat×AO)) (bs:List Bool) (i:Nat) (E:Env) (O':List (Nat×AO)) (N':Nat) (D:AV):Prop where
 e1:look 1 E=some (.slice 1 (v.map c32))
 e2:look 2 E=some (.ptr id 3 0 0)
 e44:look 44 E=some (.slice 2 (l.map Fld.c))
 e45:look 45 E=some (.int .i64 l.length)
 e46:look 46 E=some (.int .i64 i)
 m:WM O' id D (bs++oQ (l.take i) (v.take i))
 f:Fr1 id O O'
 t:Tail O' N'
 r:NR O'
 n:N<=N'
theorem wN_12 {l:List Fld} (hl:l.length<=12) (hw:∀f∈l,1<=f.Yc/\f.Yc<=32) (i:Nat):wN (l.take i)<=384:=by
 have aux:∀l:List Fld,(∀f∈l,1<=f.Yc/\f.Yc<=32)->wN l<=32*l.length:=by
  intro l
  induction l with
  | nil=>intro _;simp [wN]
  | cons f l ih=>
   intro h;have h1:=ih fun g hg=>h g (by simp [hg])
   have h2:=h f (by simp);simp only [wN,jL,E6,tK] at h1 ⊢;omega
 have:=aux (l.take i) fun f hf=>hw f (Qu hf)
 have h2:(l.take i).length<=l.length:=by rw [uE];omega
 omega
theorem TY {l:List Fld} {v:List Int} (hl:l.length<=12) (hw:∀f∈l,1<=f.Yc/\f.Yc<=32) (fv:fitF l v) {id N:Nat} {O:List (Nat×AO)} {bs:List Bool} (hb:bs.length<2^39) {E:Env} {O':List (Nat×AO)} {N':Nat} {D:AV} (h:HWI l v id N O bs 0 E O' N' D):
  WrP id N O (bs++oQ l v) (go Φ (finC pR.results) [.c (.loop dU),.b 0,.c gD] .normal ⟨E,⟨O',N'⟩⟩):=by
 obtain ⟨fl,fv⟩:=fv;refine eQ l.length (fun i E h=>∃O' N' D,h=⟨O',N'⟩/\HWI l v id N O bs i E O' N' D) _ ?_ ?_ 0 _ _ (Qc _) ⟨_,_,_,rfl,h⟩
 ·rintro i E _ K hi hK ⟨O',N',D,rfl,h⟩ ih;obtain ⟨e1,e2,e44,e45,e46,m,f,t,r,n⟩:=h;have hiv:i<v.length:=by omega
  have hw1:=aH i (by omega);have hf:=hw l[i] (Qd hi);have st:=Aq l v i hi hiv;have ln:=G2 (l.take i) (v.take i) (by simp [fl]);have hN:=wN_12 hl hw i;have t0:=t N' (Qb _);obtain ⟨O2,N2,D2,hr,m2,f2,t2,r2,n2⟩:=Ln (N:=N'+1) (w:=l[i].Yc.toNat) (v:=v[i]) (by omega) (by omega) (fv i hi hiv) (by rw [nJ];omega) m (t.mono (by omega)) r;rw [show ((l[i].Yc.toNat:Nat):Int)=l[i].Yc by omega] at hr;rw [tI,<- st] at m2;generalize hx:l[i]=x at*;generalize hy:v[i]=y at*;simp [dU,Fld.c,c32,e1,e2,e44,e45,e46,hi,hiv,hx,hy,hw1,t0,hr];refine ih _ _ ⟨O2,N2,D2,rfl,?_⟩;exact ⟨by simp [e1],by simp [e2],by simp [e44],by simp [e45],by simp,m2,fun j z es h1 h2 h3=>f2 j z es h1 h2 (f j z es h1 h2 h3),t2,r2,by omega⟩
 ·rintro E _ K hK ⟨O',N',D,rfl,h⟩;obtain ⟨e1,e2,e44,e45,e46,m,f,t,r,n⟩:=h;rw [iS,Qo (by omega)] at m;simp [pR,dU,e45,e46] at hK ⊢;simp [gD,hK];exact ⟨O',N',D,rfl,m,f,t,r,n⟩
theorem M5 {h:Xi} (hn:h.name.length<2^40) (hf:∀f∈h.Xz,f.name.length<2^40) (e:hdrE h=0) {v:List Int} (fv:fitF h.Xz v) {id N:Nat} {O:List (Nat×AO)} {bs:List Bool} (hb:bs.length<2^39) (hz:bs.length % 8=0) {D:AV} (m:WM O id D bs) (t:Tail O N) (r:NR O):
  WrP id N O (bs++oQ h.Xz v) (aD Φ 298 [.agg h.c,.slice 1 (v.map c32),.ptr id 3 0 0] ⟨O,N⟩):=by
 rw [cP rfl rfl];have vh:=vhdr e;have hc:=GH h hn hf;rw [e] at hc;have hwd:=Bt h (by have:=vh.n;omega);have hs:wN h.Xz % 8=0:=by have:=vh.s;rw [GX vh.w] at this;omega
 obtain ⟨b,hp⟩:=TI vh.n.2 vh.w hs fv;have t0:=t N (Qb _);have t1:Tail (O++[(N,.row 2 [h.c])]) (N+1):=Tail_append_iff.2 ⟨t.mono (by omega),Tail_cons_iff.2 ⟨by omega,Tail.nil _⟩⟩;have r1:NR (O++[(N,.row 2 [h.c])]):=r.app (.one (by simp));have m1:WM (O++[(N,.row 2 [h.c])]) id D bs:=⟨aW m.l,m.d.fr fun j _ hj=>aW hj⟩;obtain ⟨L,N2,hr,t2,r2,n2,-⟩:=Cg m1 t1 r1 hz (by omega);have l2:look N ((O++[(N,.row 2 [h.c])])++L)=some (.row 2 [h.c]):=aW (by rw [aA,t0];simp);have m2:WM ((O++[(N,.row 2 [h.c])])++L) id D bs:=⟨aW m1.l,m1.d.fr fun j _ hj=>aW hj⟩;have f2:Fr1 id O ((O++[(N,.row 2 [h.c])])++L):=fun j z es _ _ hj=>aW (aW hj)
 generalize (O++[(N,.row 2 [h.c])])++L=O2 at*;have fl:=fv.1;rw [Xi.c] at hc hwd hr l2;simp [pR,Xi.c,t0,hc,hr,l2,fl,hwd,hp];refine TY vh.n.2 vh.w fv hb (D:=D) ?_;exact ⟨by simp,by simp,by simp,by simp,by simp,by simpa [oQ] using m2,f2,t2,r2,by omega⟩
def bH (p:Prg) (e:Envt) (h:Int):List Bool:=if (at? e.valid h).getD false then oQ (((at? p.Xo h).map (·.Xz)).getD []) ((at? e.Xz h).getD []) else []
theorem Mr {p:Prg} (hd:∀h∈p.Xo,hdrE h=0) {e:Envt} (ev:EV p e) {m:Nat} (h1:m<p.Xo.length) (h2:m<e.Xz.length):fitF p.Xo[m].Xz e.Xz[m]:=by
 refine ⟨ev.g m h2 h1,fun i k1 k2=>?_⟩;have vh:=vhdr (hd _ (Qd h1));have:=ev.ff m i _ _ (Qa h2) (Qa k2);rw [Nz (Qa h1) (Qa k1) (vh.w _ (Qd k1))] at this;exact this
theorem W3 {p:Prg} (hd:∀h∈p.Xo,hdrE h=0) {e:Envt} (ev:EV p e) {h:Int} (h0:0<=h/\h<p.Xo.length):(bH p e h).length<=384/\(bH p e h).length % 8=0:=by
 obtain ⟨m,rfl⟩:=mP h0.1;have h1:m<p.Xo.length:=by omega
 have h2:m<e.Xz.length:=by rw [ev.f];exact h1
 have vh:=vhdr (hd _ (Qd h1));have hs:wN p.Xo[m].Xz % 8=0:=by have:=vh.s;rw [GX vh.w] at this;omega
 have hN:=wN_12 vh.n.2 vh.w p.Xo[m].Xz.length;rw [iS] at hN;unfold bH;split
 ·rw [mM,mM,Qa h1,Qa h2];simp only [uF,lY];rw [G2 _ _ (Mr hd ev h1 h2).1];exact ⟨hN,hs⟩
 ·simp
def EmP (id N:Nat) (O:List (Nat×AO)) (bs:List Bool) (r:Option (Rt×AH)):Prop:=
 ∃O' N' D,r=some (.val (.tup []),⟨O',N'⟩)/\WM O' id D bs/\Fr1 id O O'/\Tail O' N'/\NR O'/\N<=N'
theorem NZ {p:Prg} (fs:PrgS p) (hd:∀h∈p.Xo,hdrE h=0) {e:Envt} (ev:EV p e) {h:Int} (h0:0<=h/\h<p.Xo.length) {id c N:Nat} {O:List (Nat×AO)} {bs:List Bool} (hb:bs.length<2^39) (hz:bs.length % 8=0) {D:AV} (m:WM O id D bs) (lc:look c O=some (.row 1 [[.ptr id 3 0 0]])) (t:Tail O N) (r:NR O):
  EmP id N O (bs++bH p e h) (aD Φ 297 [.int .i64 h,.iptr 4 [e.c] 0 0,.iptr 9 [p.c] 0 0,.ptr c 1 0 0] ⟨O,N⟩):=by
 rw [cP rfl rfl];obtain ⟨k,rfl⟩:=mP h0.1;have h1:k<p.Xo.length:=by omega
 have h2:k<e.Xz.length:=by rw [ev.f];exact h1
 have h3:k<e.valid.length:=by rw [ev.v];exact h1
 have hm:=Qd h1;cases q:e.valid[k] with
 | false=>
  have hbH:bH p e k=[]:=by
   unfold bH;rw [mM,Qa h3,q];rfl
  rw [hbH,v8];simp [sG,Envt.ce,Prg.c,cB,h3,q];exact ⟨O,N,D,rfl,m,fun j z es _ _ h=>h,t,r,Qb _⟩
 | true=>
  have hbH:bH p e k=oQ p.Xo[k].Xz e.Xz[k]:=by
   unfold bH;rw [mM,mM,mM,Qa h3,Qa h1,Qa h2,q];rfl
  rw [hbH];obtain ⟨O2,N2,D2,hr,m2,f2,t2,r2,n2⟩:=M5 (fs.hn _ hm) (fs.hf _ hm) (hd _ hm) (Mr hd ev h1 h2) hb hz m t r;generalize hx:p.Xo[k]=x at*;generalize hy:e.Xz[k]=y at*;rw [Xi.c] at hr;simp [sG,Envt.ce,Prg.c,Xi.c,cB,cS,h1,h2,h3,q,hx,hy,lc,hr];exact ⟨O2,N2,D2,rfl,m2,f2,t2,r2,n2⟩
def bD (p:Prg) (e:Envt) (i:Nat):List Bool:=((p.Xr.take i).map (bH p e)).flatten
theorem Lp (p:Prg) (e:Envt) {i:Nat} (hi:i<p.Xr.length):bD p e (i+1)=bD p e i++bH p e p.Xr[i]:=by
 unfold bD;rw [Qh hi,tN,List.flatten_append];simp
theorem Ea {p:Prg} (hd:∀h∈p.Xo,hdrE h=0) {e:Envt} (ev:EV p e) (hdp:∀h∈p.Xr,0<=h/\h<p.Xo.length):∀i,i<=p.Xr.length->(bD p e i).length<=384*i/\(bD p e i).length % 8=0
 | 0,_=>by simp [bD]
 | i+1,h=>by
  have ih:=Ea hd ev hdp i (by omega);have hb:=W3 hd ev (hdp _ (Qd (show i<p.Xr.length by omega)));rw [Lp p e (by omega),nJ];omega
structure EI2 (p:Prg) (e:Envt) (i:Nat) (E:Env) (O:List (Nat×AO)) (N:Nat) (D:AV):Prop where
 e3:look 3 E=some (.iptr 4 [e.c] 0 0)
 e5:look 5 E=some (.ptr 1 1 0 0)
 e6:look 6 E=some (.func (.func 297) [] [.iptr 4 [e.c] 0 0,.iptr 9 [p.c] 0 0,.ptr 1 1 0 0])
 e18:look 18 E=some (.slice 1 (p.Xr.map cI))
 e19:look 19 E=some (.int .i64 p.Xr.length)
 e20:look 20 E=some (.int .i64 i)
 m:WM O 0 D (bD p e i)
 l:look 1 O=some (.row 1 [[.ptr 0 3 0 0]])
 t:Tail O N
 r:NR O
theorem Ml {p:Prg} (fs:PrgS p) (w:PWd p) (hd:∀h∈p.Xo,hdrE h=0) (hp:(depE p).2=0) {e:Envt} (ev:EV p e) (pl:e.payload.length<2^40):
  a9 Φ 183 [.agg p.c,.agg e.c]=some (.val (.slice 1 ((emi p e).map c8))):=by
 rw [aC rfl rfl];have ha:=ae fs w hd hp ev pl;have nw:=Nj (O:=[]) (N:=0) (Tail.nil _);rw [Prg.c,Envt.ce] at ha;simp [rY,Prg.c,Envt.ce,ha,nw,qP];have vd:=vdep hp;have hdp:=vd.2;have hdl:p.Xr.length<=8:=vd.1;refine eQ p.Xr.length (fun i E h=>∃O N D,h=⟨O,N⟩/\EI2 p e i E O N D) (fun (r:Option Rt)=>r=some (.val (.slice 1 ((emi p e).map c8)))) ?_ ?_ 0 _ _ (Qc _) ?_
 rotate_left 2
 ·refine ⟨_,_,.Xt 1 [],rfl,?_⟩;refine ⟨by simp [Envt.ce],by simp,by simp [Envt.ce,Prg.c],by simp,by simp,by simp,?_,by simp,?_,?_⟩
  ·exact ⟨by simp [bD],.inl ⟨by simp [bD,Ky],rfl⟩⟩
  ·exact Tail_cons_iff.2 ⟨by omega,Tail_cons_iff.2 ⟨by omega,Tail.nil _⟩⟩
  ·exact bV (by simp) (.one (by simp))
 ·rintro i E _ K hi hK ⟨O,N,D,rfl,h⟩ ih;obtain ⟨e3,e5,e6,e18,e19,e20,m,l,t,r⟩:=h;have hw1:=aH i (by omega);have ln:=Ea hd ev hdp i (by omega);obtain ⟨O2,N2,D2,hr,m2,f2,t2,r2,n2⟩:=NZ fs hd ev (hdp _ (Qd hi)) (by omega) ln.2 m l t r;rw [<- Lp p e hi] at m2;have l2:=f2 1 1 _ (fun l h=>by cases l<;>simp [c8] at h) (by decide) l;generalize hx:p.Xr[i]=x at*;simp [fL,cI,e3,e5,e6,e18,e19,e20,hi,hx,hw1,hr];refine ih _ _ ⟨O2,N2,D2,rfl,?_⟩;exact ⟨by simp [e3],by simp [e5],by simp [e6],by simp [e18],by simp [e19],by simp,m2,l2,t2,r2⟩
 ·rintro E _ K hK ⟨O,N,D,rfl,h⟩;obtain ⟨e3,e5,e6,e18,e19,e20,m,l,t,r⟩:=h;have ln:=Ea hd ev hdp p.Xr.length (Qb _);have hE:bD p e p.Xr.length=v5 p e:=by
   unfold bD v5;rw [iS];rfl
  rw [hE] at m ln;have hw:wdat (v5 p e)=byts ((v5 p e).length / 8) (v5 p e):=by unfold wdat;rw [a8 ln.2,v8]
  obtain ⟨L,N2,hr,t2,r2,n2,lk2⟩:=Cg m t r ln.2 (by omega);have hem:emi p e=wdat (v5 p e)++e.payload:=by rw [hw];rfl
  have hbd:(wdat (v5 p e)).length+e.payload.length<=70368744177664:=by rw [zQ];omega
  rw [hem];rw [Envt.ce] at e3;simp [rY,fL,e19,e20] at hK ⊢;simp [kD,hK,e3,e5,l,hr,lk2,hbd]
theorem V9 {p:Prg} (fs:PrgS p) (w:PWd p) (hd:∀h∈p.Xo,hdrE h=0) (hp:(depE p).2=0) {e:Envt} (ev:EV p e) (pl:e.payload.length<2^40):
  a9 Φ 182 [.agg p.c,.agg e.c]=some (.val (.int .i64 (emi p e).length)):=by
 rw [aC rfl rfl];have h:=Ml fs w hd hp ev pl;rw [Prg.c,Envt.ce] at h;simp [vP,Prg.c,Envt.ce,h]
theorem UN {p:Prg} (fs:PrgS p) {t:Nat} (ht:t<p.Xm.length) (q:tOk p t=true) (e:Envt):a9 Φ 177 [.agg p.c,.int .i64 t,.agg e.c]=some (.val (.slice 1 ((keyX p t e).map c32))):=by
 rw [aC rfl rfl];have hwd:=Hs p fs t ht q;have kl:p.Xm[t].keys.length<2^40:=fs.tk _ (Qd ht);have hk:keyX p t e=p.Xm[t].keys.map fun k=>iand .u32 (eGet e k.field.header k.field.field) (bF (wid p k.field.header k.field.field)):=by
  unfold keyX;rw [mM,Qa ht]
 have hkw:kWid p p.Xm[t]=p.Xm[t].keys.map fun k=>wid p k.field.header k.field.field:=rfl
 rw [Prg.c,hkw] at hwd;rw [hk];generalize hx:p.Xm[t]=x at*;generalize hK:(x.keys.map fun k=>iand .u32 (eGet e k.field.header k.field.field) (bF (wid p k.field.header k.field.field)))=ks at*;simp [rU,Prg.c,Envt.ce,hwd];have ksl:ks.length=x.keys.length:=by rw [<- hK];simp
 refine eQ x.keys.length (fun i E h=>∃O N,h=⟨O,N⟩/\look 3 E=some (.iptr 9 [p.c] 0 0)/\look 5 E=some (.iptr 4 [e.c] 0 0)/\look 1 E=some (.int .i64 t)/\look 12 E=some (.slice 1 (x.keys.map (cI ∘ fun k=>wid p k.field.header k.field.field)))/\look 13 E=some (.int .i64 x.keys.length)/\look 14 E=some (.int .i64 i)/\look 7 E=some (.app 1 ((ks.take i).map c32) 0)/\look 0 O=some (.tok 1 i)) (fun (r:Option Rt)=>r=some (.val (.slice 1 (ks.map c32)))) ?_ ?_ 0 _ _ (Qc _) ?_
 rotate_left 2
 ·exact ⟨_,_,rfl,by simp [Prg.c],by simp [Envt.ce],by simp,by simp,by simp,by simp,by simp,by simp⟩
 ·rintro i E _ K hi hKK ⟨O,N,rfl,e3,e5,e1,e12,e13,e14,e7,l0⟩ ih;have hw1:=aH i (by omega);have hg:=JH e x.keys[i].field.header x.keys[i].field.field;have hm:=jI (wid p x.keys[i].field.header x.keys[i].field.field);have htw:ks.take (i+1)=ks.take i++[iand .u32 (eGet e x.keys[i].field.header x.keys[i].field.field) (bF (wid p x.keys[i].field.header x.keys[i].field.field))]:=by
   rw [Qh (by omega)];subst hK;simp
  have hmin:min i ks.length=i:=by omega
  have bd:(i+1)*4<=70368744177664:=by omega
  rw [Prg.c] at e3;rw [Envt.ce] at e5 hg;generalize hy:x.keys[i]=y at*;simp [fJ,Tbl.c,Xk.c,FieldRef.c,cI,e3,e5,e1,e12,e13,e14,e7,hi,ht,hx,hy,hw1,hg,hm,l0,hmin,bd];refine ih _ _ ⟨_,_,rfl,?_⟩;exact ⟨by simp [e3,Prg.c],by simp [e5,Envt.ce],by simp [e1],by simp [e12],by simp [e13],by simp,by simp [htw,c32],by rw [a7,a8 rfl,l0];rfl⟩
 ·rintro E _ K hKK ⟨O,N,rfl,e3,e5,e1,e12,e13,e14,e7,l0⟩;rw [Qo (by omega)] at e7;simp [rU,fJ,e13,e14] at hKK ⊢;simp [kC,hKK,e7]
theorem M4 {p:Prg} (fs:PrgS p) {t:Nat} (ht:t<p.Xm.length) (key:List Int) {l:List Rw} (hll:l.length<2^40) (hl:∀x∈l,EntS x.entry) (hp:l.Pairwise fun a b=>a.id<b.id):
  a9 Φ 178 [.agg p.c,.int .i64 t,.slice 5 (l.map Rw.c),.slice 1 (key.map c32)]=some (.val (.tup [.agg (rowV (oB p t key l)),.bool (oB p t key l).isSome])):=by
 obtain ⟨O',N',hr,-⟩:=SL p fs t ht key (O:=[]) (N:=0) (Tail.nil _) (Re.sl (l.map Rw.c)) hll hl;have hb:bstP p t l key=oB p t key l:=VS p t l hp key;rw [hb] at hr;unfold a9;rw [show H0=(⟨[],0⟩:AH) from rfl,hr];cases oB p t key l with
 | none=>simp [oP,rowV,Rw.ce]
 | some r=>simp [oP,rowV,Rw.ce]
set_option maxRecDepth 8000
theorem XV.exe {p:Prg} (c:Xb) {e:Envt} {rs:List (List Int)} (h:XV p e rs):XV p (exeX p c e rs).1 (exeX p c e rs).2:=by
 unfold exeX;split
 ·exact h
 ·rename_i a _;have aux:∀(l:List Xf) (x:Envt×List (List Int)),XV p x.1 x.2->XV p (l.foldl (stmX p a.params c.args) x).1 (l.foldl (stmX p a.params c.args) x).2:=by
   intro l
   induction l with
   | nil=>intro x h;exact h
   | cons s l ih=>intro x h;exact ih _ (h.stm s)
  exact aux _ (e,rs) h
structure CallV (p:Prg) (k:Xb):Prop where
 a:(actE p k.Xy).2=0
 c:iL p k=0
 v:∀v∈k.args,ok32 0 v
 l:k.args.length<2^40
structure CF (p:Prg) (c:Xe):Prop where
 rl:c.rows.length=p.Xm.length
 dl:c.Xp.length=p.Xm.length
 rs:∀l∈c.rows,l.length<2^40/\(∀x∈l,EntS x.entry/\CallV p x.entry.call)/\l.Pairwise fun a b=>a.id<b.id
 dc:∀d∈c.Xp,CallV p d
structure PKp (p:Prg):Prop where
 fs:PrgS p
 w:PWd p
 hd:∀h∈p.Xo,hdrE h=0
 tb:∀t:Nat,t<p.Xm.length->tOk p t=true
 dp:(depE p).2=0
 pa:(parE p).2.2=0
def mC (p:Prg) (c:Xe) (e:Envt) (rs:List (List Int)) (hv:AV):List AV:=
  ((.slice 1 (e.valid.map cB))::(.slice 1 (e.Xz.map (cS 1 c32)))::(.slice 1 (e.metaF.map c32))::(.slice 1 (e.payload.map c8))::(.slice 1 (rs.map (cS 1 c32)))::hv::nC p [.slice 1 (c.rows.map (cS 5 Rw.c)),.slice 1 (c.Xq.map cI),.slice 2 (c.Xp.map Xb.c),.slice 1 (c.Xl.map (cS 1 c32))])
def HV (O:List (Nat×AO)) (h:List Hit) (hv:AV):Prop:=(h=[]/\hv= .Xt 3 [])\/∃tk,hv= .app 3 (h.map Hit.c) tk/\look tk O=some (.tok 3 h.length)
structure MM (p:Prg) (c:Xe) (id:Nat) (O:List (Nat×AO)) (s:MS) (hv:AV):Prop where
 l:look id O=some (.row 19 [mC p c s.e s.rs hv])
 h:HV O s.hits hv
def FrM (id:Nat) (O O':List (Nat×AO)):Prop:=∀j z es,j≠id->look j O=some (.row z es)->look j O'=some (.row z es)
theorem FrM.trans {id:Nat} {O O' O'':List (Nat×AO)} (h:FrM id O O') (h2:FrM id O' O''):FrM id O O'':=fun j z es h1 h3=>h2 j z es h1 (h j z es h1 h3)
def ApP (p:Prg) (c:Xe) (id N:Nat) (O:List (Nat×AO)) (s':MS) (v:AV) (r:Option (Rt×AH)):Prop:=
 ∃O' N' hv,r=some (.val v,⟨O',N'⟩)/\MM p c id O' s' hv/\FrM id O O'/\Tail O' N'/\NR O'/\N<=N'
theorem TX {O:List (Nat×AO)} {N n:Nat} {h:List Hit} {hv:AV} (x:HV O h hv):snap (n+1) ⟨O,N⟩ hv=some (.slice 3 (h.map Hit.c)):=by
 rcases x with ⟨rfl,rfl⟩ | ⟨tk,rfl,_⟩<;>simp
theorem apA {id N M k1 k2:Nat} {O:List (Nat×AO)} {x:AO} {z1 z2 z3 z4:Nat} {e1 e2 e3 e4:List (List AV)} {f:Nat} (li:look id O=some x) (T:Tail O N) (R:NR O) (h1:N+k1<M) (h2:N+k2<M) (h3:k1≠k2):
  let O':=setl id (.row z3 e3) (setl id (.row z2 e2) (setl id (.row z1 e1) (O++[(N+k1,.row z4 e4)]))++[(N+k2,.tok 3 f)])
  look id O'=some (.row z3 e3)/\look (N+k2) O'=some (.tok 3 f)/\FrM id O O'/\Tail O' M/\NR O':=by
 have hi:=T.lt li;have tt:∀k,look (N+k) O=none:=fun k=>T _ (by omega)
 refine ⟨?_,?_,?_,?_,?_⟩
 ·rw [a7,a8 rfl,aA,a7,a8 rfl,a7,a8 rfl,aW li];rfl
 ·rw [a7,QA (by omega),aA,a7,QA (by omega),a7,QA (by omega),aA,tt,jG _ _ _ _ (by omega)];simp
 ·intro j z es hj hl;rw [a7,QA hj,aA,a7,QA hj,a7,QA hj,aW hl];rfl
 ·exact aK (Tail_append_iff.2 ⟨aK (aK (Tail_append_iff.2 ⟨T.mono (by omega),Tail_cons_iff.2 ⟨h1,Tail.nil _⟩⟩)),Tail_cons_iff.2 ⟨h2,Tail.nil _⟩⟩)
 ·exact NR.setl (by simp) ((NR.setl (by simp) (NR.setl (by simp) (R.app (.one (by simp))))).app (.one (by simp)))
theorem apB {id N M k1 tk:Nat} {O:List (Nat×AO)} {x:AO} {y z1 z2 z3 z4:Nat} {e1 e2 e3 e4:List (List AV)} {f:Nat} (li:look id O=some x) (lt:look tk O=some (.tok 3 y)) (hne:tk≠id) (T:Tail O N) (R:NR O) (h1:N+k1<M):
  let O':=setl id (.row z3 e3) (setl tk (.tok 3 f) (setl id (.row z2 e2) (setl id (.row z1 e1) (O++[(N+k1,.row z4 e4)]))))
  look id O'=some (.row z3 e3)/\look tk O'=some (.tok 3 f)/\FrM id O O'/\Tail O' M/\NR O':=by
 refine ⟨?_,?_,?_,?_,?_⟩
 ·rw [a7,a8 rfl,a7,QA hne.symm,a7,a8 rfl,a7,a8 rfl,aW li];rfl
 ·rw [a7,QA hne,a7,a8 rfl,a7,QA hne,a7,QA hne,aW lt];rfl
 ·intro j z es hj hl;rw [a7,QA hj,a7,QA (aF hl lt (by simp)),a7,QA hj,a7,QA hj,aW hl]
 ·exact aK (aK (aK (aK (Tail_append_iff.2 ⟨T.mono (by omega),Tail_cons_iff.2 ⟨h1,Tail.nil _⟩⟩))))
 ·exact NR.setl (by simp) (NR.setl (by simp) (NR.setl (by simp) (NR.setl (by simp) (R.app (.one (by simp))))))
theorem Jv {p:Prg} (k:PKp p) {c:Xe} (cf:CF p c) {t:Nat} (ht:t<p.Xm.length) {id N:Nat} {O:List (Nat×AO)} {s:MS} {hv:AV} (m:MM p c id O s hv) (xv:XV p s.e s.rs) (hl:s.hits.length<2^30) (T:Tail O N) (R:NR O):
  ApP p c id N O (apX p c t s).1 (.bool (apX p c t s).2) (aD Φ 105 [.ptr id 19 0 0,.int .i64 t] ⟨O,N⟩):=by
 rw [cP rfl rfl];obtain ⟨e,rs,hits⟩:=s;obtain ⟨li,lh⟩:=m;simp only at li lh xv hl;have hk:=UN k.fs ht (k.tb t ht) e;have htr:t<c.rows.length:=by rw [cf.rl];exact ht
 have htd:t<c.Xp.length:=by rw [cf.dl];exact ht
 obtain ⟨r1,r2,r3⟩:=cf.rs _ (Qd htr);have hb:=M4 k.fs ht (keyX p t e) r1 (fun x hx=>(r2 x hx).1) r3;have hsel:selX p c t e=oB p t (keyX p t e) c.rows[t]:=by simp [selX,htr]
 have hcal:CallV p (calX c t (selX p c t e)):=by
  unfold calX;split
  ·rename_i x hx;rw [hsel] at hx;rcases Kj _ _ _ _ _ hx with h | h
   ·exact (r2 x h).2
   ·cases h
  ·rw [mM,Qa htd];exact cf.dc _ (Qd htd)
 have hex:=WN k.fs k.w (calX c t (selX p c t e)) hcal.a hcal.c hcal.v hcal.l xv;have hap:apX p c t ⟨e,rs,hits⟩=(⟨(exeX p (calX c t (selX p c t e)) e rs).1,(exeX p (calX c t (selX p c t e)) e rs).2,hits++[⟨t,((selX p c t e).map (·.id)).getD 0,(calX c t (selX p c t e)).Xy⟩]⟩,(selX p c t e).isSome):=rfl;rw [hap];generalize exeX p (calX c t (selX p c t e)) e rs=y at*;obtain ⟨e2,rs2⟩:=y;rw [<- hsel] at hb;have hdef:selX p c t e=none->calX c t (selX p c t e)=c.Xp[t]:=fun h=>by
  rw [h];simp [calX,htd]
 have hrow:∀x,selX p c t e=some x->calX c t (selX p c t e)=x.entry.call:=fun x h=>by rw [h];rfl
 generalize selX p c t e=o at*;generalize hcl:calX c t o=cl at*;generalize keyX p t e=ks at*;generalize hrw:c.rows[t]=rw at*;generalize hdf:c.Xp[t]=df at*;have t0:∀k,look (N+k) O=none:=fun k=>T _ (by omega)
 have t00:=T N (Qb _);have fi:=fun k=>aY (n:=N+k) T li (by omega)
 have fi0:=aY (n:=N) T li (by omega);have iq:∀k,(id == N+k)=false/\(N+k == id)=false:=fun k=>by simp [fi k]
 have iq0:(id == N)=false/\(N == id)=false:=by simp [fi0]
 rw [mC] at li;rw [Prg.c] at hk hex hb;simp only [Envt.ce] at hk hex;have lt8:N+7<N+8:=by omega
 have lt9:∀k,k<9->N+k<N+9:=fun k h=>by omega
 have ft:∀{tk y:Nat},look tk O=some (.tok 3 y)->∀k,¬tk=N+k/\¬N+k=tk:=fun h k=>aY T h (by omega)
 have idt:∀{tk y:Nat},look tk O=some (.tok 3 y)->¬id=tk/\¬tk=id:=fun h=>by
  have:=aF li h (by simp);exact ⟨this,fun e=>this e.symm⟩
 have bd:(hits.length+1)*24<=70368744177664:=by omega
 cases o with
 | none=>
  have hcd:=hdef rfl;subst hcd;simp only [rowV,Option.isSome_none,Rw.ce,noE] at hb;rw [Xb.c] at hex;rcases lh with ⟨rfl,rfl⟩ | ⟨tk,rfl,lt⟩
  ·simp [nL,li,hk,cS,htr,htd,hrw,hdf,hb,hex,Xb.c,t0,t00,d7,aA,a7,fi,fi0,iq,iq0,eZ,oE,R.eq];obtain ⟨a1,a2,a3,a4,a5⟩:=apA li T R (lt9 7 (by decide)) (lt9 8 (by decide)) (by decide);exact ⟨_,_,_,rfl,⟨a1,.inr ⟨_,rfl,a2⟩⟩,a3,a4,a5,AK _ _⟩
  ·have ft:=ft lt;have idt:=idt lt;simp [nL,li,hk,cS,htr,htd,hrw,hdf,hb,hex,Xb.c,t0,t00,d7,aA,a7,fi,fi0,iq,iq0,eZ,oE,R.eq,lt,ft,idt,bd];obtain ⟨a1,a2,a3,a4,a5⟩:=apB li lt idt.2 T R lt8;exact ⟨_,_,_,rfl,⟨a1,.inr ⟨tk,by simp [Hit.c],by simpa using a2⟩⟩,a3,a4,a5,AK _ _⟩
 | some x=>
  have hcd:=hrow x rfl;subst hcd;simp only [rowV,Option.isSome_some,Rw.ce] at hb;rw [Xb.c] at hex;rcases lh with ⟨rfl,rfl⟩ | ⟨tk,rfl,lt⟩
  ·simp [nL,li,hk,cS,htr,htd,hrw,hdf,hb,hex,Xb.c,t0,t00,d7,aA,a7,fi,fi0,iq,iq0,eZ,oE,R.eq];obtain ⟨a1,a2,a3,a4,a5⟩:=apA li T R (lt9 7 (by decide)) (lt9 8 (by decide)) (by decide);exact ⟨_,_,_,rfl,⟨a1,.inr ⟨_,rfl,a2⟩⟩,a3,a4,a5,AK _ _⟩
  ·have ft:=ft lt;have idt:=idt lt;simp [nL,li,hk,cS,htr,htd,hrw,hdf,hb,hex,Xb.c,t0,t00,d7,aA,a7,fi,fi0,iq,iq0,eZ,oE,R.eq,lt,ft,idt,bd];obtain ⟨a1,a2,a3,a4,a5⟩:=apB li lt idt.2 T R lt8;exact ⟨_,_,_,rfl,⟨a1,.inr ⟨tk,by simp [Hit.c],by simpa using a2⟩⟩,a3,a4,a5,AK _ _⟩
def mS (p:Prg) (c:Xe) (s:MS):List AV:=mC p c s.e s.rs (.slice 3 (s.hits.map Hit.c))
theorem MM.snp {p:Prg} {c:Xe} {id N:Nat} {O:List (Nat×AO)} {s:MS} {hv:AV} (m:MM p c id O s hv):snap 40 ⟨O,N⟩ (.ptr id 19 0 0)=some (.iptr 19 [mS p c s] 0 0):=by
 have h1:=m.l;have h2:=TX (N:=N) (n:=38) m.h;rw [mC] at h1;simp [h1,h2,mS,mC]
theorem Nf {p:Prg} {c:Xe} (s:MS) (f:Int):a9 Φ 181 [.iptr 19 [mS p c s] 0 0,.int .i64 f]=some (.val (.int .u32 (eGet s.e (-1) f))):=by
 rw [aC rfl rfl];have h:=JH s.e (-1) f;rw [Envt.ce] at h;simp [vO,mS,mC,h]
theorem UM {p:Prg} {c:Xe} {s:MS} (xv:XV p s.e s.rs) (cond:List Xd):a9 Φ 106 [.iptr 19 [mS p c s] 0 0,.slice 3 (cond.map Xd.c)]=some (.val (.bool (decide (evl p [] cond s.e []=1)))):=by
 rw [aC rfl rfl];have he:=EZ p [] s.e [] cond xv.g (by simp);rw [Envt.ce] at he;simp [scC,Prg.c] at he;simp [vC,mS,mC,he]
def RsP (y:Rslt) (N:Nat) (O:List (Nat×AO)) (r:Option (Rt×AH)):Prop:=
 ∃L N' v1 v2 v3 v4,r=some (.val (.agg [v1,v2,v3,v4]),⟨O++L,N'⟩)/\Tail (O++L) N'/\NR (O++L)/\N<=N'/\∀(O2:List (Nat×AO)) (n n2:Nat),snap (n+1) ⟨O2,n2⟩ v1=some (.bool y.drop)/\snap (n+1) ⟨O2,n2⟩ v2=some (.int .i64 y.port)/\snap (n+1) ⟨O2,n2⟩ v3=some (.slice 1 (y.data.map c8))/\snap (n+1) ⟨O2,n2⟩ v4=some (.slice 3 (y.hits.map Hit.c))
theorem NG {p:Prg} (k:PKp p) {c:Xe} {id N:Nat} {O:List (Nat×AO)} {s:MS} {hv:AV} (m:MM p c id O s hv) (xv:XV p s.e s.rs) (T:Tail O N) (R:NR O):
  RsP (resX p s) N O (aD Φ 107 [.ptr id 19 0 0] ⟨O,N⟩):=by
 rw [cP rfl rfl];have t0:=T N (Qb _);have sn:=fun L n=>MM.snp (N:=n) (⟨aW (L:=L) m.l,by
  rcases m.h with h | ⟨tk,h1,h2⟩
  ·exact .inl h
  ·exact .inr ⟨tk,h1,aW h2⟩⟩:MM p c id (O++L) s hv)
 have m1:=Nf (p:=p) (c:=c) s 1;have m2:=Nf (p:=p) (c:=c) s 2;have em:=Ml k.fs k.w k.hd k.dp xv.ev xv.pl;have sz:=V9 k.fs k.w k.hd k.dp xv.ev xv.pl;have li:=m.l;have fi:=aY (n:=N) T li (Qb _);rw [mC] at li;rw [Prg.c,Envt.ce] at em sz;have w1:IntKind.wrap .i64 (eGet s.e (-1) 1)=eGet s.e (-1) 1:=by
  have:=xv.g (-1) 1;exact cU (by have:=this.1;omega) (by have:=this.2;omega)
 have g1:(at? s.e.metaF 1).getD 0=eGet s.e (-1) 1:=by simp [eGet]
 have g2:(at? s.e.metaF 2).getD 0=eGet s.e (-1) 2:=by simp [eGet]
 have fin:∀{x:AO} {v1 v2 v3 v4:AV},x≠ .res->(∀(O2:List (Nat×AO)) (n n2:Nat),snap (n+1) ⟨O2,n2⟩ v1=some (.bool (resX p s).drop)/\snap (n+1) ⟨O2,n2⟩ v2=some (.int .i64 (resX p s).port)/\snap (n+1) ⟨O2,n2⟩ v3=some (.slice 1 ((resX p s).data.map c8))/\snap (n+1) ⟨O2,n2⟩ v4=some (.slice 3 ((resX p s).hits.map Hit.c)))->RsP (resX p s) N O (some (Rt.val (.agg [v1,v2,v3,v4]),(⟨O++[(N,x)],N+1⟩:AH))):=fun {x v1 v2 v3 v4} hx h=>
  ⟨_,_,_,_,_,_,rfl,Tail_append_iff.2 ⟨T.mono (by omega),Tail_cons_iff.2 ⟨by omega,Tail.nil _⟩⟩,R.app (.one hx),by omega,h⟩
 unfold resX at*;rw [g1,g2] at*;rcases m.h with ⟨h0,rfl⟩ | ⟨tk,rfl,_⟩
 ·by_cases z:eGet s.e (-1) 2=1
  ·rw [a8 (.inl z)] at*;simp [jO,t0,sn,m2,z,aA,a7,li,fi,eZ];exact fin (by simp) (by intro O2 n n2;simp [h0])
  ·by_cases z2:512<(emi p s.e).length
   ·rw [a8 (.inr z2)] at*;simp [jO,t0,sn,m2,z,z2,sz,aA,a7,li,fi,eZ];exact fin (by simp) (by intro O2 n n2;simp [h0])
   ·rw [QA (by simp [z,z2])] at*;simp [jO,t0,sn,m1,m2,z,z2,sz,em,w1,aA,a7,li,fi,eZ];exact fin (by simp) (by intro O2 n n2;simp [h0])
 ·by_cases z:eGet s.e (-1) 2=1
  ·rw [a8 (.inl z)] at*;simp [jO,t0,sn,m2,z,aA,a7,li,fi,eZ];exact fin (by simp) (by intro O2 n n2;simp)
  ·by_cases z2:512<(emi p s.e).length
   ·rw [a8 (.inr z2)] at*;simp [jO,t0,sn,m2,z,z2,sz,aA,a7,li,fi,eZ];exact fin (by simp) (by intro O2 n n2;simp)
   ·rw [QA (by simp [z,z2])] at*;simp [jO,t0,sn,m1,m2,z,z2,sz,em,w1,aA,a7,li,fi,eZ];exact fin (by simp) (by intro O2 n n2;simp)
def fA (id:Nat):AV:= .func (.func 105) [.ptr id 19 0 0] []
def fT (id:Nat):AV:= .func (.func 106) [.ptr id 19 0 0] []
def NdV (p:Prg) (x:Xa):Prop:=x.kind=2\/((x.kind=3\/x.kind=1/\x.thn=[]/\x.els=[])/\∃t:Nat,x.table=t/\t<p.Xm.length)
def lst (X:AV) (l:List Xa):Prop:=(l=[]/\X= .Xt 5 [])\/X= .slice 5 (l.map Xa.c)
def BrP (p:Prg) (c:Xe) (id N:Nat) (O:List (Nat×AO)) (s':MS) (l:List Xa) (r:Option (Rt×AH)):Prop:=
 ∃O' N' hv X,r=some (.val X,⟨O',N'⟩)/\lst X l/\MM p c id O' s' hv/\FrM id O O'/\Tail O' N'/\NR O'/\N<=N'
theorem MM.app {p:Prg} {c:Xe} {id:Nat} {O:List (Nat×AO)} {s:MS} {hv:AV} (m:MM p c id O s hv) (L:List (Nat×AO)):MM p c id (O++L) s hv:=⟨aW m.l,by
 rcases m.h with h | ⟨tk,h1,h2⟩
 ·exact .inl h
 ·exact .inr ⟨tk,h1,aW h2⟩⟩
section
variable {p:Prg} (pk:PKp p) {c:Xe} (cf:CF p c) {id N:Nat} {O:List (Nat×AO)} {s:MS} {hv:AV} (m:MM p c id O s hv) (xv:XV p s.e s.rs) (hl:s.hits.length<2^30) (T:Tail O N) (R:NR O)
include pk cf m xv hl T R
theorem VO (k:Int) {t:Nat} (ht:t<p.Xm.length) (cd:List Xd) (a b:List Xa):
  BrP p c id N O (apX p c t s).1 [] (aD Φ 428 [.agg (Xa.c (.mk k t cd a b)),.agg [fA id,fT id]] ⟨O,N⟩):=by
 rw [cP rfl rfl];have t0:∀k,look (N+k) O=none:=fun k=>T _ (by omega)
 have t00:=T N (Qb _);have l2:N+1<N+1+1:=by omega
 have T1:∀(x y:AO),Tail (O++[(N,x),(N+1,y)]) (N+1+1):=fun x y=>Tail_append_iff.2 ⟨T.mono (by omega),Tail_cons_iff.2 ⟨by omega,Tail_cons_iff.2 ⟨l2,Tail.nil _⟩⟩⟩
 have R1:∀(z z2:Nat) (x y:List (List AV)),NR (O++[(N,.row z x),(N+1,.row z2 y)]):=fun z z2 x y=>R.app (bV (by simp) (.one (by simp)))
 obtain ⟨O2,N2,hv2,hr,m2,f2,t2,r2,n2⟩:=Jv pk cf ht (m.app [(N,.row 5 [Xa.c (.mk k t cd a b)]),(N+1,.row 2 [[fA id,fT id]])]) xv hl (T1 _ _) (R1 _ _ _ _);rw [Xa.e,fA,fT] at hr;simp [zD,Xa.e,fA,fT,t0,t00,aA,hr];exact ⟨O2,N2,hv2,_,rfl,.inl ⟨rfl,rfl⟩,m2,fun j z es h1 h2=>f2 j z es h1 (aW h2),t2,r2,by omega⟩
theorem VQ (k:Int) {t:Nat} (ht:t<p.Xm.length) (cd:List Xd) (a b:List Xa):
  BrP p c id N O (apX p c t s).1 (if (apX p c t s).2 then a else b) (aD Φ 429 [.agg (Xa.c (.mk k t cd a b)),.agg [fA id,fT id]] ⟨O,N⟩):=by
 rw [cP rfl rfl];have t0:∀k,look (N+k) O=none:=fun k=>T _ (by omega)
 have t00:=T N (Qb _);have l2:N+1<N+1+1:=by omega
 have T1:∀(x y:AO),Tail (O++[(N,x),(N+1,y)]) (N+1+1):=fun x y=>Tail_append_iff.2 ⟨T.mono (by omega),Tail_cons_iff.2 ⟨by omega,Tail_cons_iff.2 ⟨l2,Tail.nil _⟩⟩⟩
 have R1:∀(z z2:Nat) (x y:List (List AV)),NR (O++[(N,.row z x),(N+1,.row z2 y)]):=fun z z2 x y=>R.app (bV (by simp) (.one (by simp)))
 obtain ⟨O2,N2,hv2,hr,m2,f2,t2,r2,n2⟩:=Jv pk cf ht (m.app [(N,.row 5 [Xa.c (.mk k t cd a b)]),(N+1,.row 2 [[fA id,fT id]])]) xv hl (T1 _ _) (R1 _ _ _ _);have hN:=T.lt m.l;have lN:=f2 N 5 [Xa.c (.mk k t cd a b)] (by omega) (by rw [aA,t00];simp);rw [Xa.e,fA,fT] at hr;rw [Xa.e] at lN;cases q:(apX p c t s).2 with
 | true=>
  rw [q] at hr;simp [sQ,Xa.e,fA,fT,t0,t00,aA,hr,lN];exact ⟨O2,N2,hv2,_,rfl,.inr rfl,m2,fun j z es h1 h2=>f2 j z es h1 (aW h2),t2,r2,by omega⟩
 | false=>
  rw [q] at hr;simp [sQ,Xa.e,fA,fT,t0,t00,aA,hr,lN];exact ⟨O2,N2,hv2,_,rfl,.inr rfl,m2,fun j z es h1 h2=>f2 j z es h1 (aW h2),t2,r2,by omega⟩
omit pk cf hl in
theorem VP (k t:Int) (cd:List Xd) (hcd:cd.length<2^40) (a b:List Xa):
  BrP p c id N O s (if evl p [] cd s.e []=1 then a else b) (aD Φ 430 [.agg (Xa.c (.mk k t cd a b)),.agg [fA id,fT id]] ⟨O,N⟩):=by
 rw [cP rfl rfl];have t0:∀k,look (N+k) O=none:=fun k=>T _ (by omega)
 have t00:=T N (Qb _);have hN:=T.lt m.l;have bd:cd.length*24<=70368744177664:=by omega
 have iq:∀k,(id == N+k)=false/\(N+k == id)=false:=fun k=>by simp;omega
 have iq0:(id == N)=false/\(N == id)=false:=by simp;omega
 have te:=UM (c:=c) xv cd;have sn:=fun L n=>(m.app L).snp (N:=n)
 have bq:∀k,0<k->(N == N+k)=false/\(N+k == N)=false:=fun k hk=>by simp;omega
 have lt13:∀k,k<13->N+k<N+13:=fun k h=>by omega
 have fin:∀{X:AV} {l:List Xa} {z z2 f:Nat} {x y:List (List AV)},lst X l->BrP p c id N O s l (some (.val X,⟨O++[(N,.row z x),(N+1,.row z2 y),(N+12,.tok 3 f)],N+13⟩)):=fun {X l z z2 f x y} h=>
  ⟨_,_,hv,X,rfl,h,m.app _,fun j z es _ hj=>aW hj,Tail_append_iff.2 ⟨T.mono (by omega),Tail_cons_iff.2 ⟨lt13 0 (by decide),Tail_cons_iff.2 ⟨lt13 1 (by decide),Tail_cons_iff.2 ⟨lt13 12 (by decide),Tail.nil _⟩⟩⟩⟩,R.app (bV (by simp) (bV (by simp) (.one (by simp)))),by omega⟩
 by_cases q:evl p [] cd s.e []=1
 ·simp [sR,Xa.e,fA,fT,t0,t00,d7,aA,a7,oE,R.eq,eZ,bd,iq,iq0,sn,te,bq,q];exact fin (.inr rfl)
 ·simp [sR,Xa.e,fA,fT,t0,t00,d7,aA,a7,oE,R.eq,eZ,bd,iq,iq0,sn,te,bq,q];exact fin (.inr rfl)
end
theorem Lv (p:Prg) (c:Xe):∀(n:Nat) (s:MS),ctX p c n [] s=s
 | 0,_=>rfl
 | _+1,_=>rfl
theorem NU (k t:Int) (cd:List Xd) (a b:List Xa):a9 Φ 278 [.agg (Xa.c (.mk k t cd a b))]=some (.val (if k=1 then .iface 413 (.agg (Xa.c (.mk k t cd a b))) else if k=3 then .iface 414 (.agg (Xa.c (.mk k t cd a b))) else if k=2 then .iface 415 (.agg (Xa.c (.mk k t cd a b))) else .iface 417 (.agg []))):=by
 rw [aC rfl rfl];by_cases h1:k=1
 ·simp [nW,Xa.e,h1]
 by_cases h3:k=3
 ·simp [nW,Xa.e,h3]
 by_cases h2:k=2
 ·simp [nW,Xa.e,h2]
 ·simp [nW,Xa.e,h1,h2,h3]
def XS (p:Prg) (s:MS):Prop:=XV p s.e s.rs
theorem XS.ap {p:Prg} {c:Xe} {t:Int} {s:MS} (h:XS p s):XS p (apX p c t s).1:=XV.exe _ h
theorem XS.nd {p:Prg} {c:Xe} {f:List Xa->MS->MS} (hf:∀l s,XS p s->XS p (f l s)) {s:MS} (h:XS p s) (x:Xa):XS p (ndX p c f s x):=by
 unfold ndX;split
 ·exact hf _ _ h
 ·exact hf _ _ h.ap
theorem XS.ct {p:Prg} {c:Xe}:∀(n:Nat) (l:List Xa) (s:MS),XS p s->XS p (ctX p c n l s)
 | 0,_,_,h=>h
 | n+1,l,s,h=>Bq (P:=XS p) (fun _ x hb=>XS.nd (XS.ct n) hb x) l s h
theorem Cw {x y:Xa} (hy:y∈pre1 x):∀{l:List Xa},x∈l->y∈pre l
 | [],h=>by cases h
 | z::l,h=>by
  simp only [pre,eI];rcases iW.1 h with h | h
  ·subst h;exact .inl hy
  ·exact .inr (Cw hy h)
theorem I7 {x:Xa}:∀{l:List Xa},x∈l->1+JV x<=nest l
 | [],h=>by cases h
 | z::l,h=>by
  simp only [nest];rcases iW.1 h with h | h
  ·subst h;exact Nat.le_max_left _ _
  ·exact oW (I7 h) (Nat.le_max_right _ _)
theorem SD:∀(l:List Xa),(apl l).length<=(pre l).length:=fun l=>by
 unfold apl;rw [cQ];exact List.length_filter_le _ _
theorem TV {p:Prg} {c:Xe} (n:Nat) (l:List Xa) (s:MS) (h:∀x∈pre l,x.kind=2\/appl x=true):(ctX p c n l s).hits.length<=s.hits.length+(pre l).length:=by
 obtain ⟨hs,h1,h2⟩:=B5 (p:=p) (c:=c) n l s h;have:=h2.length_le;have h3:=SD l;rw [h1,nJ];rw [cQ] at this;omega
theorem Kx:∀l:List Xa,l.length<=(pre l).length
 | []=>by simp
 | x::l=>by
  have ih:=Kx l;obtain ⟨k,t,c,a,b⟩:=x;simp only [pre,pre1,nJ,tK];omega
theorem aoW (id:Nat):aoEq (some (AO.row 2 [[.func (.func 105) [.ptr id 19 0 0] [],.func (.func 106) [.ptr id 19 0 0] []]])) (some (AO.row 2 [[.func (.func 105) [.ptr id 19 0 0] [],.func (.func 106) [.ptr id 19 0 0] []]]))=true:=by
 simp [aoEq,eqL,avEq,aE]
def WkP (p:Prg) (c:Xe) (id N:Nat) (O:List (Nat×AO)) (s':MS) (r:Option (Rt×AH)):Prop:=
 ∃O' N' hv,r=some (.val (.tup []),⟨O',N'⟩)/\MM p c id O' s' hv/\FrM id O O'/\Tail O' N'/\NR O'/\N<=N'
theorem Ny {p:Prg} (pk:PKp p) {c:Xe} (cf:CF p c) {id:Nat}:∀(n:Nat) (l:List Xa) (X:AV) (O:List (Nat×AO)) (N:Nat) (s:MS) (hv:AV),nest l<=n->(∀x∈pre l,NdV p x/\x.cond.length<2^40)->lst X l->MM p c id O s hv->XS p s->s.hits.length+(pre l).length<2^30->Tail O N->NR O->
  WkP p c id N O (ctX p c n l s) (aD Φ 176 [.agg [fA id,fT id],X] ⟨O,N⟩)
 | n,[],X,O,N,s,hv,hn,hv2,hX,m,xs,hh,T,R=>by
  rw [Lv,cP rfl rfl];have t00:=T N (Qb _);have fin:∀{x:List (List AV)} {z:Nat},WkP p c id N O s (some (.val (.tup []),⟨O++[(N,.row z x)],N+1⟩)):=fun {x z}=>
   ⟨_,_,hv,rfl,m.app _,fun j z es _ hj=>aW hj,Tail_append_iff.2 ⟨T.mono (by omega),Tail_cons_iff.2 ⟨by omega,Tail.nil _⟩⟩,R.app (.one (by simp)),by omega⟩
  rcases hX with ⟨_,rfl⟩ | rfl
  ·simp [pG,fA,fT,t00,aA];rw [cW];simp [b6];exact fin
  ·simp [pG,fA,fT,t00,aA];rw [cW];simp [b6];exact fin
 | 0,x::l,X,O,N,s,hv,hn,hv2,hX,m,xs,hh,T,R=>by
  simp only [nest] at hn;omega
 | n+1,x0::l0,X,O,N,s,hv,hn,hv2,hX,m,xs,hh,T,R=>by
  have hX':X= .slice 5 ((x0::l0).map Xa.c):=by
   rcases hX with ⟨h,_⟩ | h
   ·cases h
   ·exact h
  subst hX';generalize hll:x0::l0=l at*;have hlp:l.length<=(pre l).length:=Kx l;have hkd:∀x∈pre l,x.kind=2\/appl x=true:=fun x hx=>by
   rcases (hv2 x hx).1 with h | ⟨h | h,_⟩
   ·exact .inl h
   ·right;simp [appl,h]
   ·right;simp [appl,h.1]
  rw [cP rfl rfl];have t00:=T N (Qb _);simp [pG,fA,fT,t00,aA];refine eQ l.length (fun i E h=>∃O' N' hv',h=⟨O',N'⟩/\look 2 E=some (.ptr N 2 0 0)/\look 6 E=some (.slice 5 (l.map Xa.c))/\look 7 E=some (.int .i64 l.length)/\look 8 E=some (.int .i64 i)/\look N O'=some (.row 2 [[fA id,fT id]])/\MM p c id O' (ctX p c (n+1) (l.take i) s) hv'/\FrM id O O'/\Tail O' N'/\NR O'/\N<N') (fun r=>WkP p c id N O (ctX p c (n+1) l s) r) ?_ ?_ 0 _ _ (Qc _) ?_
  rotate_left 2
  ·refine ⟨_,_,hv,rfl,by simp,by simp,by simp,by simp,by rw [aA,t00];simp [fA,fT],?_,fun j z es _ hj=>aW hj,Tail_append_iff.2 ⟨T.mono (by omega),Tail_cons_iff.2 ⟨by omega,Tail.nil _⟩⟩,R.app (.one (by simp)),by omega⟩;rw [List.take_zero,Lv];exact m.app _
  ·rintro i E _ K hi hK ⟨O',N',hv',rfl,e2,e6,e7,e8,lN,m',f',T',R',n'⟩ ih;have hmem:=Qd hi;have hsplit:pre l=pre (l.take i)++(pre1 l[i]++pre (l.drop (i+1))):=by
    rw [show pre1 l[i]++pre (l.drop (i+1))=pre (l[i]::l.drop (i+1)) by simp [pre],<- Qi hi,<- Gu,DU]
   have hl1:=congrArg List.length hsplit;rw [nJ,nJ] at hl1;have hhi:=TV (p:=p) (c:=c) (n+1) (l.take i) s fun x hx=>hkd x (by rw [hsplit];exact List.mem_append_left _ hx)
   have xi:XS p (ctX p c (n+1) (l.take i) s):=XS.ct _ _ _ xs;have hstep:ctX p c (n+1) (l.take (i+1)) s=ndX p c (ctX p c n) (ctX p c (n+1) (l.take i) s) l[i]:=by
    simp only [ctX];rw [Qh hi,List.foldl_append];rfl
   have hw1:=aH i (by omega);have hne:=I7 hmem;have hself:l[i]∈pre1 l[i]:=by
    generalize l[i]=x;obtain ⟨k,t,cd,a,b⟩:=x;simp [pre1]
   obtain ⟨hnv,hcd⟩:=hv2 _ (Cw hself hmem);have hsub:∀y∈pre1 l[i],NdV p y/\y.cond.length<2^40:=fun y hy=>hv2 y (Cw hy hmem)
   generalize hx:l[i]=x at*;obtain ⟨k,t,cd,a,b⟩:=x;simp only [Xa.cond] at hcd;simp only [JV] at hne;simp only [pre1,tK,nJ] at hl1;generalize ctX p c (n+1) (l.take i) s=si at*;have t0:=T' N' (Qb _);have hwr:=NU k t cd a b;have next:∀{E2:Env} {s2:MS} {O3:List (Nat×AO)} {N3:Nat} {hv3:AV},(∀j,j=2\/j=6\/j=7->look j E2=look j E)->look 8 E2=some (.int .i64 (i+1:Nat))->ndX p c (ctX p c n) si (.mk k t cd a b)=s2->MM p c id O3 s2 hv3->FrM id O' O3->Tail O3 N3->NR O3->N'<=N3->WkP p c id N O (ctX p c (n+1) l s) (go Φ (finC []) K .normal ⟨E2,⟨O3,N3⟩⟩):=fun {E2 s2 O3 N3 hv3} hE h8 hs hm hf ht hr hn3=>
    ih _ _ ⟨O3,N3,hv3,rfl,by rw [hE 2 (by simp),e2],by rw [hE 6 (by simp),e6],by rw [hE 7 (by simp),e7],h8,hf N 2 _ (by have:=T.lt m.l;omega) lN,by rw [hstep,hs];exact hm,FrM.trans f' hf,ht,hr,by omega⟩
   have T1:Tail O' (N'+1+1):=T'.mono (by omega);have below:∀{O2:List (Nat×AO)} {N2:Nat} {s2:MS} {hv2' X2:AV} {l2:List Xa},lst X2 l2->nest l2<=n->(∀x∈pre l2,NdV p x/\x.cond.length<2^40)->MM p c id O2 s2 hv2'->XS p s2->s2.hits.length+(pre l2).length<2^30->Tail O2 N2->NR O2->WkP p c id N2 O2 (ctX p c n l2 s2) (aD Φ 176 [.agg [fA id,fT id],X2] ⟨O2,N2⟩):=fun {O2 N2 s2 hv2' X2 l2} h1 h2 h3 h4 h5 h6 h7 h8=>Ny pk cf n l2 X2 O2 N2 s2 hv2' h2 h3 h1 h4 h5 h6 h7 h8
   have ha:nest a<=n:=by omega
   have hb:nest b<=n:=by omega
   have hpa:∀x∈pre a,NdV p x/\x.cond.length<2^40:=fun y hy=>hsub y (by simp [pre1,hy])
   have hpb:∀x∈pre b,NdV p x/\x.cond.length<2^40:=fun y hy=>hsub y (by simp [pre1,hy])
   have hap1:∀t':Int,(apX p c t' si).1.hits.length=si.hits.length+1:=fun t'=>by simp [apX]
   have lN1:=lN;rw [fA,fT] at lN1;simp only [NdV,Xa.kind,Xa.thn,Xa.els,Xa.table] at hnv;rcases hnv with rfl | ⟨rfl | ⟨rfl,rfl,rfl⟩,t',rfl,ht'⟩
   ·obtain ⟨O2,N2,hv2',X2,hr,hX2,m2,f2,t2,r2,n2⟩:=VP m' xi T1 R' 2 t cd hcd a b;obtain ⟨O3,N3,hv3,hr3,m3,f3,t3,r3,n3⟩:=below hX2 (by split<;>assumption) (by split<;>assumption) m2 xi (by split<;>omega) t2 r2;rw [fA,fT] at hr hr3;rw [QA (by decide),QA (by decide),a8 rfl] at hwr;rw [Xa.e] at hr hwr;have lN2:=f2 N 2 _ (by have:=T.lt m.l;omega) lN1;simp [b6,Xa.e,e2,e6,e7,e8,hi,hx,hw1,lN1,t0,hwr,hr,hr3,eZ,R'.eq,r2.eq,r3.eq,lN2,aoW];refine next (by rintro j (rfl | rfl | rfl)<;>simp) (by simp) ?_ m3 (FrM.trans f2 f3) t3 r3 (by omega)
    rfl
   ·obtain ⟨O2,N2,hv2',X2,hr,hX2,m2,f2,t2,r2,n2⟩:=VQ pk cf m' xi (by omega) T1 R' 3 ht' cd a b;obtain ⟨O3,N3,hv3,hr3,m3,f3,t3,r3,n3⟩:=below hX2 (by split<;>assumption) (by split<;>assumption) m2 (XS.ap xi) (by rw [hap1];split<;>omega) t2 r2;rw [fA,fT] at hr hr3;rw [QA (by decide),a8 rfl] at hwr;rw [Xa.e] at hr hwr;have lN2:=f2 N 2 _ (by have:=T.lt m.l;omega) lN1;simp [b6,Xa.e,e2,e6,e7,e8,hi,hx,hw1,lN1,t0,hwr,hr,hr3,eZ,R'.eq,r2.eq,r3.eq,lN2,aoW];refine next (by rintro j (rfl | rfl | rfl)<;>simp) (by simp) ?_ m3 (FrM.trans f2 f3) t3 r3 (by omega)
    rfl
   ·obtain ⟨O2,N2,hv2',X2,hr,hX2,m2,f2,t2,r2,n2⟩:=VO pk cf m' xi (by omega) T1 R' 1 ht' cd [] [];obtain ⟨O3,N3,hv3,hr3,m3,f3,t3,r3,n3⟩:=below hX2 (by simp [nest]) (by simp [pre]) m2 (XS.ap xi) (by rw [hap1];simp [pre];omega) t2 r2;rw [fA,fT] at hr hr3;rw [a8 rfl] at hwr;rw [Xa.e] at hr hwr;simp only [oJ] at hr hwr;have lN2:=f2 N 2 _ (by have:=T.lt m.l;omega) lN1;simp [b6,Xa.e,e2,e6,e7,e8,hi,hx,hw1,lN1,t0,hwr,hr,hr3,eZ,R'.eq,r2.eq,r3.eq,lN2,aoW];refine next (by rintro j (rfl | rfl | rfl)<;>simp) (by simp) ?_ m3 (FrM.trans f2 f3) t3 r3 (by omega)
    show ctX p c n (if (apX p c t' si).2=true then [] else []) (apX p c t' si).1=_;split<;>rfl
  ·rintro E _ K hK ⟨O',N',hv',rfl,e2,e6,e7,e8,lN,m',f',T',R',n'⟩;rw [iS] at m';simp [b6,e7,e8] at hK ⊢;simp [hK];exact ⟨O',N',hv',rfl,m',f',T',R',by omega⟩
theorem NT {p:Prg} (pk:PKp p) {c:Xe} (cf:CF p c) {id:Nat} (l:List Xa) {O:List (Nat×AO)} {N:Nat} {s:MS} {hv:AV} (hk:∀x∈pre l,NdV p x/\x.cond.length<2^40) (m:MM p c id O s hv) (xs:XS p s) (hh:s.hits.length+(pre l).length<2^30) (T:Tail O N) (R:NR O):
  WkP p c id N O (ctX p c (nest l) l s) (aD Φ 104 [.slice 5 (l.map Xa.c),fA id,fT id] ⟨O,N⟩):=by
 rw [cP rfl rfl];obtain ⟨O2,N2,hv2,hr,m2,f2,t2,r2,n2⟩:=Ny pk cf (nest l) l (.slice 5 (l.map Xa.c)) O N s hv (Qb _) hk (.inr rfl) m xs hh T R;rw [fA,fT] at hr;simp [vB,fA,fT,hr];exact ⟨O2,N2,hv2,rfl,m2,f2,t2,r2,n2⟩
theorem Iz (rs:List (List Int)) (h:rs.length<2^40) (h2:∀l∈rs,l.length<2^40):a9 Φ 99 [.slice 1 (rs.map (cS 1 c32))]=some (.val (.slice 1 (rs.map (cS 1 c32)))):=by
 rw [aC rfl rfl];simp [B1];refine eQ rs.length (fun i E h=>∃O N,h=⟨O,N⟩/\look 6 E=some (.slice 1 (rs.map (cS 1 c32)))/\look 7 E=some (.int .i64 rs.length)/\look 8 E=some (.int .i64 i)/\look 3 E=some (.app 1 ((rs.take i).map (cS 1 c32)) 0)/\look 0 O=some (.tok 1 i)) (fun (r:Option Rt)=>r=some (.val (.slice 1 (rs.map (cS 1 c32))))) ?_ ?_ 0 _ _ (Qc _) ?_
 rotate_left 2
 ·exact ⟨_,_,rfl,by simp,by simp,by simp,by simp,by simp⟩
 ·rintro i E _ K hi hK ⟨O,N,rfl,e6,e7,e8,e3,l0⟩ ih;have hw1:=aH i (by omega);have hc:=DM rs[i] (h2 _ (Qd hi));have htw:rs.take (i+1)=rs.take i++[rs[i]]:=Qh hi;have hmin:min i rs.length=i:=by omega
  have bd:(i+1)*24<=70368744177664:=by omega
  generalize hx:rs[i]=x at*;simp [jF,cS,e6,e7,e8,e3,hi,hx,hw1,hc,l0,hmin,bd];refine ih _ _ ⟨_,_,rfl,?_⟩;exact ⟨by simp [e6],by simp [e7],by simp,by simp [htw,cS],by rw [a7,a8 rfl,l0];rfl⟩
 ·rintro E _ K hK ⟨O,N,rfl,e6,e7,e8,e3,l0⟩;rw [iS] at e3;simp [B1,jF,e7,e8] at hK ⊢;simp [n7,hK,e3]
set_option maxRecDepth 4000
def Rf (n:Nat) (a:AV):Prop:=avEq n a a=true
def RfL (n:Nat) (l:List AV):Prop:=∀a∈l,Rf n a
theorem BI {α:Type} {f:α->α->Bool}:∀{l:List α},(∀a∈l,f a a=true)->eqL f l l=true
 | [],_=>rfl
 | a::l,h=>by
  simp only [eqL,bE];exact ⟨h a (by simp),BI fun b hb=>h b (by simp [hb])⟩
theorem mN (n:Nat) (k:IntKind) (x:Int):Rf (n+1) (.int k x):=by simp [Rf,avEq]
theorem Mj (n:Nat) (x:Bool):Rf (n+1) (.bool x):=by simp [Rf,avEq]
theorem BW (n:Nat) (x:List UInt8):Rf (n+1) (.str x):=by simp [Rf,avEq]
theorem eT {α:Type} {n z:Nat} {l:List α} {f:α->List AV} (h:∀x∈l,RfL n (f x)):Rf (n+1) (.slice z (l.map f)):=by
 simp only [Rf,avEq,bE];refine ⟨by simp,BI fun x hx=>BI fun a ha=>?_⟩;obtain ⟨y,hy,rfl⟩:=iN.1 hx;exact h y hy a ha
theorem XM {α:Type} {n z t:Nat} {l:List α} {f:α->List AV} (h:∀x∈l,RfL n (f x)):Rf (n+1) (.app z (l.map f) t):=by
 simp only [Rf,avEq,bE];refine ⟨by simp,BI fun x hx=>BI fun a ha=>?_⟩;obtain ⟨y,hy,rfl⟩:=iN.1 hx;exact h y hy a ha
theorem XN (n z:Nat):Rf (n+1) (.Xt z []):=by simp [Rf,avEq,eqL]
theorem mA (n:Nat):RfL n []:=fun _ h=>by cases h
theorem aR {n:Nat} {a:AV} {l:List AV} (h:Rf n a) (h2:RfL n l):RfL n (a::l):=fun b hb=>by
 rcases iW.1 hb with rfl | hb
 ·exact h
 ·exact h2 b hb
theorem BV (n:Nat) (x:Int):RfL (n+1) (c32 x):=aR (mN ..) (mA _)
theorem rf_c8 (n:Nat) (x:Int):RfL (n+1) (c8 x):=aR (mN ..) (mA _)
theorem K6 (n:Nat) (x:Int):RfL (n+1) (cI x):=aR (mN ..) (mA _)
theorem rf_cB (n:Nat) (x:Bool):RfL (n+1) (cB x):=aR (Mj ..) (mA _)
theorem K7 {α:Type} {n z:Nat} {f:α->List AV} (h:∀x,RfL n (f x)) (l:List α):RfL (n+1) (cS z f l):=aR (eT fun x _=>h x) (mA _)
theorem Et (n:Nat) (x:Fld):RfL (n+1) (Fld.c x):=by
 simp only [Fld.c];exact aR (BW ..) (aR (mN ..) (mA _))
theorem XO (n:Nat) (x:Xi):RfL (n+2) (Xi.c x):=by
 simp only [Xi.c];exact aR (BW ..) (aR (eT fun y _=>Et n y) (mA _))
theorem XR (n:Nat) (x:Xg):RfL (n+1) (Xg.c x):=by
 simp only [Xg.c];exact aR (BW ..) (aR (mN ..) (aR (mN ..) (mA _)))
theorem FG (n:Nat) (x:Xd):RfL (n+1) (Xd.c x):=by
 simp only [Xd.c];exact aR (mN ..) (aR (mN ..) (aR (mN ..) (mA _)))
theorem XU (n:Nat) (x:Xf):RfL (n+2) (Xf.c x):=by
 rw [Xf.e]
 repeat first | exact mA _ | refine aR (mN ..) ?_ | refine aR (eT fun y _=>FG n y) ?_
theorem XL (n:Nat) (x:Action):RfL (n+3) (Action.c x):=by
 rw [Action.e];exact aR (BW ..) (aR (eT fun y _=>Et (n+1) y) (aR (eT fun y _=>XU n y) (mA _)))
theorem WW (n:Nat) (x:Xk):RfL (n+1) (Xk.c x):=by
 simp only [Xk.c,FieldRef.c,mD,pA]
 repeat first | exact mA _ | refine aR (mN ..) ?_
theorem WV (n:Nat) (x:Tbl):RfL (n+2) (Tbl.c x):=by
 simp only [Tbl.c,Xb.c,mD,pA]
 repeat first | exact mA _ | refine aR (mN ..) ?_ | refine aR (BW ..) ?_ | refine aR (eT fun y _=>WW n y) ?_ | refine aR (eT fun y _=>K6 n y) ?_ | refine aR (eT fun y _=>BV n y) ?_
theorem XT (n:Nat) (x:Xj):RfL (n+1) (Xj.c x):=by
 simp only [Xj.c]
 repeat first | exact mA _ | refine aR (mN ..) ?_
theorem XQ (n:Nat) (x:Xc):RfL (n+2) (Xc.c x):=by
 simp only [Xc.c]
 repeat first | exact mA _ | refine aR (mN ..) ?_ | refine aR (Mj ..) ?_ | refine aR (BW ..) ?_ | refine aR (eT fun y _=>XT n y) ?_ | refine aR (eT fun y _=>K6 n y) ?_
theorem Es (n:Nat):∀(d:Nat) (l:List Xa),nest l<=d->∀x∈l,RfL (n+d+2) (Xa.c x)
 | 0,l,h,x,hx=>by
  have:=I7 hx;omega
 | d+1,l,h,.mk k t c a b,hx=>by
  have h1:=I7 hx;simp only [JV] at h1;rw [Xa.e];have e:n+(d+1)+2=(n+d+2)+1:=by omega
  have e2:n+(d+1)+2=(n+d+1)+1+1:=by omega
  refine aR (mN ..) (aR (mN ..) (aR ?_ (aR ?_ (aR ?_ (mA _)))))
  ·rw [e2];exact eT fun y _=>FG _ y
  ·rw [e];exact eT fun y hy=>Es n d a (by omega) y hy
  ·rw [e];exact eT fun y hy=>Es n d b (by omega) y hy
theorem rf_km (n:Nat) (x:Xh):RfL (n+1) (Xh.c x):=by
 simp only [Xh.c]
 repeat first | exact mA _ | refine aR (mN ..) ?_
theorem rf_rw (n:Nat) (x:Rw):RfL (n+2) (Rw.c x):=by
 rw [Rw.ce]
 repeat first | exact mA _ | refine aR (mN ..) ?_ | refine aR (eT fun y _=>rf_km n y) ?_ | refine aR (eT fun y _=>BV n y) ?_
theorem UZ (n:Nat) (x:Xb):RfL (n+2) (Xb.c x):=by
 simp only [Xb.c];exact aR (mN ..) (aR (eT fun y _=>BV n y) (mA _))
theorem XP (n:Nat) (x:Hit):RfL (n+1) (Hit.c x):=by
 simp only [Hit.c]
 repeat first | exact mA _ | refine aR (mN ..) ?_
theorem rf_mC {p:Prg} (c:Xe) (e:Envt) (rs:List (List Int)) {O:List (Nat×AO)} {h:List Hit} {hv:AV} (hh:HV O h hv) (hd:nest p.Ya<=30):RfL 40 (mC p c e rs hv):=by
 have hvr:Rf 40 hv:=by
  rcases hh with ⟨_,rfl⟩ | ⟨tk,rfl,_⟩
  ·exact XN ..
  ·exact XM fun y _=>XP _ y
 simp only [mC];refine aR (eT fun y _=>rf_cB _ y) (aR (eT fun y _=>K7 (BV 37) y) (aR (eT fun y _=>BV _ y) (aR (eT fun y _=>rf_c8 _ y) (aR (eT fun y _=>K7 (BV 37) y) (aR hvr ?_)))));refine aR (BW ..) (aR (eT fun y _=>XO _ y) (aR (eT fun y _=>Et _ y) (aR (eT fun y _=>XR _ y) (aR (eT fun y _=>XL _ y) (aR (eT fun y _=>WV _ y) (aR (eT fun y _=>XQ _ y) ?_))))));refine aR (eT fun y hy=>Es 7 30 p.Ya hd y hy) (aR (eT fun y _=>K6 _ y) ?_);exact aR (eT fun y _=>K7 (rf_rw 36) y) (aR (eT fun y _=>K6 _ y) (aR (eT fun y _=>UZ _ y) (aR (eT fun y _=>K7 (BV 37) y) (mA _))))
theorem ao_mC {p:Prg} (c:Xe) (e:Envt) (rs:List (List Int)) {O:List (Nat×AO)} {h:List Hit} {hv:AV} (hh:HV O h hv) (hd:nest p.Ya<=30):aoEq (some (.row 19 [mC p c e rs hv])) (some (.row 19 [mC p c e rs hv]))=true:=by
 simp only [aoEq,bE];refine ⟨by simp,BI fun x hx=>?_⟩;rw [List.mem_singleton] at hx;subst hx;exact BI fun a ha=>rf_mC c e rs hh hd a ha
end Go.Av
