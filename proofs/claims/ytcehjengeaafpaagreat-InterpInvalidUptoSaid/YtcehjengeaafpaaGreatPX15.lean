/-
 A header is read.
-/
import Derived.Test.YtcehjengeaafpaaGreatLK5
set_option linter.unusedVariables false
set_option linter.unusedSimpArgs false
set_option linter.constructorNameAsVariable false
namespace Go.Av
set_option maxRecDepth 6000
def wN (l:List Fld):Nat:=(l.map fun f=>f.Yc.toNat).sum
theorem SO:∀{l:List Fld},(∀f∈l,1<=f.Yc/\f.Yc<=32)->wSum l=(wN l:Nat)
 | [],_=>rfl
 | f::r,h=>by
  have ih:=SO (l:=r) fun g hg=>h g (by simp [hg])
  have:=(h f (by simp)).1;simp only [wSum,wN,nV,PX] at ih ⊢;omega
theorem RO (a b:List Fld):wN (a++b)=wN a+wN b:=by simp [wN]
theorem qwu (d:List Int):∀(a b:List Fld) (i:Nat),rdF d i (a++b)=rdF d i a++rdF d (i+wN a) b
 | [],b,i=>by simp [rdF,wN]
 | f::a,b,i=>by
  simp only [n9,rdF,qwu d a b,wN,nV,PX,fW]
theorem wN_le {l:List Fld} (k:Nat):wN (l.take k)<=wN l:=by
 have:=RO (l.take k) (l.drop k);rw [ER] at this;omega
theorem Jl {l:List Fld} {k:Nat} (hk:k<l.length):wN (l.take (k+1))=wN (l.take k)+l[k].Yc.toNat:=by
 rw [Qh hk,RO];simp [wN]
theorem Dc {h:Xi} (hn:h.name.length<2^40) (hf:∀f∈h.Xz,f.name.length<2^40) (e:hdrE h=0):a8 Φ C2 [.agg (Xi.c h)]=some (.val (a7 (wN h.Xz:Nat))):=by
 have v:=vhdr e;have hc:=P3 h hn hf;have h1:=Pv h (by have:=v.n;omega);have h2:=RN (h.Xz.map (·.Yc)) (by simp;have:=v.n;omega) (fun x hx=>by obtain ⟨f,hf,rfl⟩:=lH.1 hx;exact v.w f hf);rw [List.map_map] at h2;have h3:(h.Xz.map (·.Yc)).sum=wSum h.Xz:=rfl;rw [h3,SO v.w] at h2;have h4:((fun x=>[AV.int IntKind.i64 x]) ∘ fun x:Fld=>x.Yc)=fun f:Fld=>[AV.int IntKind.i64 f.Yc]:=rfl
 rw [h4] at h2;rw [e] at hc;rw [Xi.c] at hc h1;rw [Xi.c,aA rfl rfl];simp [JF,hc,h1,h2]
def HRP (id t q:Nat) (d:List Int) (l:List Fld) (N:Nat) (O:List (Nat×AO)) (r:Option (Rt×AH)):Prop:=
 ∃O' N' tk,r=some (.val (.tup [.app 1 ((rdF d q l).map c32) tk,a7 0]),⟨O',N'⟩)/\look id O'=some (rdr d t (q+wN l))/\look tk O'=some (.tok 1 l.length)/\N<=tk/\Kp (fun j=>j=id) N O O'/\Tail O' N'/\NR O'/\N<=N'
def HRS (N:Nat) (O:List (Nat×AO)) (r:Option (Rt×AH)):Prop:=
 ∃L N',r=some (.val (.tup [.Xt 1 [],a7 3]),⟨O++L,N'⟩)/\Kp (fun _=>False) N O (O++L)/\Tail (O++L) N'/\NR (O++L)/\N<=N'
structure HRI (id t q tk:Nat) (d:List Int) (l:List Fld) (N:Nat) (O:List (Nat×AO)) (k:Nat) (e:Env) (O':List (Nat×AO)) (N':Nat):Prop where
 e1:look 1 e=some (.ptr id 3 0 0)
 e9:look 9 e=some (.app 1 ((rdF d q (l.take k)).map c32) tk)
 e32:look 32 e=some (.slice 2 (l.map Fld.c))
 e33:look 33 e=some (a7 l.length)
 e34:look 34 e=some (a7 k)
 li:look id O'=some (rdr d t (q+wN (l.take k)))
 lt:look tk O'=some (.tok 1 k)
 hk:Kp (fun j=>j=id) N O O'
 hT:Tail O' N'
 hN:NR O'
 hn:N<=N'
 tn:N<=tk
theorem qya {id t q tk N:Nat} {d:List Int} {l:List Fld} {O:List (Nat×AO)} (hd:bOk d) (hl:d.length<=512) (hw:∀f∈l,1<=f.Yc/\f.Yc<=32) (hln:l.length<2^40) (hs:q+wN l<=8*d.length) {e:Env} {O':List (Nat×AO)} {N':Nat} (h:HRI id t q tk d l N O 0 e O' N'):
  HRP id t q d l N O (go Φ (finC lX.results) [.c (.loop c_348_l0),.b 0,.c c_348_k1] .normal ⟨e,⟨O',N'⟩⟩):=by
 refine gL l.length (fun k e h=>∃O' N',h=⟨O',N'⟩/\HRI id t q tk d l N O k e O' N') _ ?_ ?_ 0 _ _ (Qc _) ⟨_,_,rfl,h⟩
 ·rintro k e _ K hk hK ⟨O',N',rfl,h⟩ ih;obtain ⟨e1,e9,e32,e33,e34,li,lt,kp,hT,hN,hn,tn⟩:=h;have hw1:=aM k (by omega);have hf:=hw l[k] (Qd hk);have st:=Jl hk;have le:=wN_le (l:=l) (k+1);have t0:=hT N' (Qb _);have hrb:=U' (O:=O') (N:=N'+1) (id:=id) (w:=l[k].Yc.toNat) li hd hl (by omega) (by omega) (by omega);have hwd:((l[k].Yc.toNat:Nat):Int)=l[k].Yc:=by omega
  rw [hwd] at hrb;have tid:tk≠id:=cW lt li (by simp [rdr]);have lt2:look tk (setl id (rdr d t (q+wN (l.take k)+l[k].Yc.toNat)) O')=some (.tok 1 k):=by
   rw [aC,QA tid];exact lt
  have rf:rdF d q (l.take (k+1))=rdF d q (l.take k)++[rdN d (q+wN (l.take k)) l[k].Yc.toNat]:=by
   rw [Qh hk,qwu];rfl
  have hln2:(rdF d q (l.take k)).length=k:=by rw [Sc];simp;omega
  have hbd:(k+1)*4<=70368744177664:=by omega
  have fin:∀{E2:Env},(∀j,j=1\/j=32\/j=33->look j E2=look j e)->look 9 E2=some (.app 1 ((rdF d q (l.take k)).map c32++[c32 (rdN d (q+wN (l.take k)) l[k].Yc.toNat)]) tk)->look 34 E2=some (a7 (k+1:Nat))->
    HRP id t q d l N O (go Φ (finC lX.results) K .normal ⟨E2,⟨setl tk (.tok 1 (k+1)) (setl id (rdr d t (q+wN (l.take k)+l[k].Yc.toNat)) O'),N'+1⟩⟩):=fun {E2} hE h9 h34=>by
   refine ih _ _ ⟨_,_,rfl,by rw [hE 1 (by simp),e1],?_,by rw [hE 32 (by simp),e32],by rw [hE 33 (by simp),e33],h34,?_,?_,?_,?_,?_,by omega,tn⟩
   ·rw [h9,rf,EX];rfl
   ·rw [aC,QA tid.symm,aC,a9 rfl,li,st,fW];rfl
   ·rw [aC,a9 rfl,lt2];rfl
   ·exact (kp.setl (.inr rfl)).setl (.inl tn)
   ·exact d6 (d6 (hT.mono (by omega)))
   ·exact (hN.setl (by simp [rdr])).setl (by simp)
  have hg:(l.map Fld.c)[k]? =some (Fld.c l[k]):=by simp [hk]
  generalize hx:l[k]=x at*;simp only [Fld.c] at*;simp [c_348_l0,e1,e9,e32,e33,e34,hk,hK,t0,hw1,hx,Fld.c,hrb,lt2,hln2,hbd];exact fin (by rintro j (rfl | rfl | rfl)<;>simp) (by simp [c32]) (by simp)
 ·rintro e _ K hK ⟨O',N',rfl,h⟩;obtain ⟨e1,e9,e32,e33,e34,li,lt,kp,hT,hN,hn,tn⟩:=h;rw [jQ] at e9 li;simp [lX,c_348_l0,c_348_k1,e1,e9,e32,e33,e34] at hK ⊢;simp [c_348_k1,hK,e9];exact ⟨O',N',tk,rfl,li,lt,tn,kp,hT,hN,hn⟩
theorem He {N j:Nat} {d:List Int} {q:Nat} (h:j<N):look j (rstL d q N)=none:=by
 unfold rstL;split
 ·rw [jI _ _ _ _ (by omega)];rfl
 ·rfl
theorem Z9 {O:List (Nat×AO)} {N id t q:Nat} {d:List Int} (hT:Tail O N) (hN:NR O) (hi:look id O=some (rdr d t q)) (hd:bOk d) (hl:d.length<=512) (hq:q<=8*d.length) {h:Xi} (hn:h.name.length<2^40) (hf:∀f∈h.Xz,f.name.length<2^40) (e:hdrE h=0):
  if 8*d.length<q+wN h.Xz then HRS N O (aQ Φ mO [.agg (Xi.c h),.ptr id 3 0 0] ⟨O,N⟩) else HRP id t q d h.Xz N O (aQ Φ mO [.agg (Xi.c h),.ptr id 3 0 0] ⟨O,N⟩):=by
 rw [eI rfl rfl];have v:=vhdr e;have hc:=P3 h hn hf;have hb:=Dc hn hf e;rw [e] at hc;have t0:=hT N (Qb _);have hi1:look id (O++[(N,.row 2 [Xi.c h])])=some (rdr d t q):=cH hi;have hT1:Tail (O++[(N,.row 2 [Xi.c h])]) (N+1):=Tail_append_iff.2 ⟨hT.mono (by omega),Tail_cons_iff.2 ⟨by omega,Tail.nil _⟩⟩;have hN1:NR (O++[(N,.row 2 [Xi.c h])]):=hN.app (.one (by simp));have hr:=qub hT1 hN1 hi1 hl hq;have hT2:=Nf (d:=d) (q:=q) hT1;have hN2:=Nd (N:=N+1) (d:=d) (q:=q) hN1;have hi2:look id ((O++[(N,.row 2 [Xi.c h])])++rstL d q (N+1))=some (rdr d t q):=cH hi1;have l0:look N ((O++[(N,.row 2 [Xi.c h])])++rstL d q (N+1))=some (.row 2 [Xi.c h]):=cH (by rw [aH,t0];simp);have hE:∀(x:AV),rstE q≠1:=fun _=>by unfold rstE;split<;>decide
 have hrem:=qwx d q hl hq;generalize hM:(if q % 8=0 then N+1+1 else N+1)=M at hr hT2;have hMN:N+1<=M:=by rw [<- hM];split<;>omega
 generalize hO:(O++[(N,.row 2 [Xi.c h])])++rstL d q (N+1)=O2 at hr hT2 hN2 hi2 l0;have hkp:∀j,j<N->look j O2=look j O:=fun j hj=>by
  rw [<- hO,aH,aH,He (by omega),jI _ _ _ _ (by omega)];cases look j O<;>rfl
 have hO2:∃L,O2=O++L:=⟨_,by rw [<- hO,DW]⟩;generalize rstE q=E0 at hr hE;generalize rstV d q (N+1)=V0 at hr;have hE1:¬E0=1:=hE .nilptr;have hi3:=hi2;unfold rdr at hi3;have tM:=hT2 M (Qb _);rw [Xi.c] at hc hb hr l0;have cmp:((8*d.length - q:Nat):Int)<(wN h.Xz:Int)↔8*d.length<q+wN h.Xz:=by omega
 by_cases z:8*d.length<q+wN h.Xz
 ·rw [a9 z];have z1:8*d.length - q<wN h.Xz:=by omega
  simp [lX,Xi.c,t0,hc,hb,hr,hE1,hi3,hrem,l0,z1];obtain ⟨L,rfl⟩:=hO2;exact ⟨L,M,rfl,fun j hj _=>hkp j hj,hT2,hN2,by omega⟩
 ·rw [QA z];have z1:¬8*d.length - q<wN h.Xz:=by omega
  simp [lX,Xi.c,t0,hc,hb,hr,hE1,hi3,hrem,l0,aH,z1,tM];refine qya (tk:=M) (l:=h.Xz) (q:=q) hd hl v.w (by have:=v.n;omega) (Nat.le_of_not_lt z) ?_;refine ⟨by simp,by simp [rdF],by simp,by simp,by simp,by simpa [wN] using cH hi2,by rw [aH,tM];simp,?_,Tail_append_iff.2 ⟨hT2.mono (by omega),Tail_cons_iff.2 ⟨by omega,Tail.nil _⟩⟩,hN2.app (.one (by simp)),by omega,by omega⟩;intro j hj hx;rw [aH,hkp j hj,jI _ _ _ _ (by omega)];cases look j O<;>rfl
def RE (O:List (Nat×AO)) (B iv jf:Nat) (a:AV) (l:List Int):Prop:=
 (l=[]/\a= .Xt 1 [])\/(∃id,a= .row id 1 0 l.length/\look id O=some (.row 1 (l.map c32))/\B<=id/\id≠iv/\id≠jf)\/∃tk,a= .app 1 (l.map c32) tk
structure PE (O:List (Nat×AO)) (B iv jf im:Nat) (A:List AV) (e:Envt):Prop where
 lv:look iv O=some (.row 1 (e.valid.map cB))
 lf:look jf O=some (.row 1 (A.map fun x=>[x]))
 lm:look im O=some (.row 1 (e.metaF.map c32))
 d:iv≠jf/\im≠iv/\im≠jf
 b:B<=iv/\B<=jf/\B<=im
 len:A.length=e.Xz.length
 r:∀(k:Nat) (a:AV) (l:List Int),A[k]? =some a->e.Xz[k]? =some l->RE O B iv jf a l
theorem RE.fr {O O':List (Nat×AO)} {B iv jf:Nat} {a:AV} {l:List Int} (h:RE O B iv jf a l) (hf:∀j es,B<=j->j≠iv->j≠jf->look j O=some (.row 1 es)->look j O'=some (.row 1 es)):RE O' B iv jf a l:=by
 rcases h with h | ⟨id,h1,h2,h3,h4,h5⟩ | h
 ·exact .inl h
 ·exact .inr (.inl ⟨id,h1,hf id _ h3 h4 h5 h2,h3,h4,h5⟩)
 ·exact .inr (.inr h)
theorem PE.fr {O O':List (Nat×AO)} {B iv jf im:Nat} {A:List AV} {e:Envt} (h:PE O B iv jf im A e) (hf:∀j es,B<=j->look j O=some (.row 1 es)->look j O'=some (.row 1 es)):PE O' B iv jf im A e:=
 ⟨hf _ _ h.b.1 h.lv,hf _ _ h.b.2.1 h.lf,hf _ _ h.b.2.2 h.lm,h.d,h.b,h.len,fun k a l h1 h2=>(h.r k a l h1 h2).fr fun j es h3 _ _ h4=>hf j es h3 h4⟩
theorem PE.app {O:List (Nat×AO)} {B iv jf im:Nat} {A:List AV} {e:Envt} (h:PE O B iv jf im A e) (L:List (Nat×AO)):PE (O++L) B iv jf im A e:=h.fr fun _ _ _ h=>cH h
theorem PE.setV {O:List (Nat×AO)} {B iv jf im:Nat} {A:List AV} {e:Envt} (h:PE O B iv jf im A e) (v:List Bool):PE (setl iv (.row 1 (v.map cB)) O) B iv jf im A { e with valid:=v }:=by
 refine ⟨by rw [aC,a9 rfl,h.lv];rfl,by rw [aC,QA h.d.1.symm,h.lf],by rw [aC,QA h.d.2.1,h.lm],h.d,h.b,h.len,fun k a l h1 h2=>(h.r k a l h1 h2).fr fun j es _ h3 _ h4=>?_⟩;rw [aC,QA h3,h4]
theorem PE.setF {O:List (Nat×AO)} {B iv jf im:Nat} {A:List AV} {e:Envt} (h:PE O B iv jf im A e) {k:Nat} (hk:k<A.length) {a:AV} {l:List Int} (ha:RE O B iv jf a l):PE (setl jf (.row 1 ((A.set k a).map fun x=>[x])) O) B iv jf im (A.set k a) { e with Xz:=e.Xz.set k l }:=by
 have fr:∀j es,B<=j->j≠iv->j≠jf->look j O=some (.row 1 es)->look j (setl jf (.row 1 ((A.set k a).map fun x=>[x])) O)=some (.row 1 es):=fun j es _ _ h3 h4=>by rw [aC,QA h3,h4]
 refine ⟨by rw [aC,QA h.d.1,h.lv],by rw [aC,a9 rfl,h.lf];rfl,by rw [aC,QA h.d.2.2,h.lm],h.d,h.b,by simp [h.len],fun i x y h1 h2=>?_⟩;simp only [List.getElem?_set] at h1 h2;by_cases q:k=i
 ·subst q;rw [a9 rfl,a9 hk] at h1;rw [a9 rfl,a9 (by rw [<- h.len];exact hk)] at h2;cases h1;cases h2;exact ha.fr fr
 ·rw [QA q] at h1 h2;exact (h.r i x y h1 h2).fr fr
theorem RE.snp {O:List (Nat×AO)} {B iv jf N:Nat} {a:AV} {l:List Int} (h:RE O B iv jf a l) (n:Nat):snap (n+2) ⟨O,N⟩ a=some (.slice 1 (l.map c32)):=by
 have hm:=r9 (g:=c32) (n:=n+1) (H:=⟨O,N⟩) (fun x=>by simp [c32]) l;rcases h with ⟨rfl,rfl⟩ | ⟨id,rfl,h2,_⟩ | ⟨tk,rfl⟩
 ·simp
 ·simp [h2,hm]
 ·simp
theorem PE.snpF {O:List (Nat×AO)} {B iv jf im N:Nat} {A:List AV} {e:Envt} (h:PE O B iv jf im A e) (n:Nat):mapO (mapO (snap (n+2) ⟨O,N⟩)) (A.map fun x=>[x])=some (e.Xz.map (cS 1 c32)):=by
 have aux:∀(A:List AV) (L:List (List Int)),A.length=L.length->(∀(k:Nat) (a:AV) (l:List Int),A[k]? =some a->L[k]? =some l->RE O B iv jf a l)->mapO (mapO (snap (n+2) ⟨O,N⟩)) (A.map fun x=>[x])=some (L.map (cS 1 c32)):=by
  intro A
  induction A with
  | nil=>intro L hl _;cases L with | nil=>rfl | cons _ _=>simp at hl
  | cons a A ih=>
   intro L hl h;cases L with
   | nil=>simp at hl
   | cons l L=>
    have h1:=(h 0 a l rfl rfl).snp (N:=N) n;have h2:=ih L (by simpa using hl) fun k a l h3 h4=>h (k+1) a l h3 h4
    simp only [nV,mapO,h1,h2,cS]
 exact aux A e.Xz h.len h.r
theorem PE.snp {O:List (Nat×AO)} {B iv jf im N:Nat} {A:List AV} {e:Envt} (h:PE O B iv jf im A e) (m:Nat):mapO (snap (m+3) ⟨O,N⟩) [.row iv 1 0 e.valid.length,.row jf 1 0 e.Xz.length,.row im 1 0 e.metaF.length]=some [.slice 1 (e.valid.map cB),.slice 1 (e.Xz.map (cS 1 c32)),.slice 1 (e.metaF.map c32)]:=by
 have h1:=r9 (g:=cB) (n:=m+2) (H:=⟨O,N⟩) (fun x=>by simp [cB]) e.valid;have h2:=r9 (g:=c32) (n:=m+2) (H:=⟨O,N⟩) (fun x=>by simp [c32]) e.metaF;have h3:=h.snpF (N:=N) m;have h4:(A.map fun x=>[x]).take e.Xz.length=A.map fun x=>[x]:=Qo (by simp [h.len])
 have h5:(e.valid.map cB).take e.valid.length=e.valid.map cB:=Qo (by simp);have h6:(e.metaF.map c32).take e.metaF.length=e.metaF.map c32:=Qo (by simp);have h7:e.Xz.length<=A.length:=by rw [h.len];exact Qb _
 simp [mapO,h.lv,h.lf,h.lm,h1,h2,h3,h4,h5,h6,h7]
def NewP (p:Prg) (N:Nat) (O:List (Nat×AO)) (r:Option (Rt×AH)):Prop:=
 ∃O' N' iv jf im A,r=some (.val (.agg [.row iv 1 0 p.Xo.length,.row jf 1 0 p.Xo.length,.row im 1 0 p.Xn.length,.Xt 1 []]),⟨O',N'⟩)/\PE O' N iv jf im A (eNew p)/\Kp (fun _=>False) N O O'/\Tail O' N'/\NR O'/\N<=N'
def vQ (p:Prg) (i:Nat):Envt:=⟨p.Xo.map fun _=>false,(p.Xo.take i).map (fun h=>h.Xz.map fun _=>0)++(p.Xo.drop i).map (fun _=>[]),p.Xn.map fun _=>0,[]⟩
theorem qzp (p:Prg):vQ p p.Xo.length=eNew p:=by simp [vQ,eNew]
theorem qxw (p:Prg) {i:Nat} (hi:i<p.Xo.length):{ vQ p i with Xz:=(vQ p i).Xz.set i (p.Xo[i].Xz.map fun _=>0) }=vQ p (i+1):=by
 have h1:(p.Xo.take i).length=i:=by simp;omega
 simp only [vQ,Envt.mk.injEq,true_and,and_true];rw [Qi hi,Qh hi,nV,List.set_append_right _ _ (by rw [qN,h1];exact Qb _),qN,h1,Nat.sub_self,List.set_cons_zero,EX,DW];rfl
structure NI (p:Prg) (N:Nat) (O:List (Nat×AO)) (a b c iv jf im i:Nat) (E:Env) (O':List (Nat×AO)) (N':Nat) (A:List AV):Prop where
 e1:look 1 E=some (.ptr a 9 0 0)
 e2:look 2 E=some (.ptr b 4 0 0)
 e3:look 3 E=some (.ptr c 4 0 0)
 e20:look 20 E=some (a7 p.Xo.length)
 e21:look 21 E=some (a7 i)
 la:look a O'=some (.row 9 [p.c])
 lb:look b O'=some (.row 4 [z4])
 lc:look c O'=some (.row 4 [[.row iv 1 0 p.Xo.length,.row jf 1 0 p.Xo.length,.row im 1 0 p.Xn.length,.Xt 1 []]])
 pe:PE O' N iv jf im A (vQ p i)
 kp:Kp (fun _=>False) N O O'
 hT:Tail O' N'
 hN:NR O'
 hn:N<=N'
 bn:N<=b
theorem qzq {p:Prg} (w:PWd p) {N:Nat} {O:List (Nat×AO)} {a b c iv jf im:Nat} {E:Env} {O':List (Nat×AO)} {N':Nat} {A:List AV} (h:NI p N O a b c iv jf im 0 E O' N' A):
  NewP p N O (go Φ (finC rR.results) [.c (.loop c_264_l0),.b 0,.c c_264_k1] .normal ⟨E,⟨O',N'⟩⟩):=by
 refine gL p.Xo.length (fun i E h=>∃O' N' A,h=⟨O',N'⟩/\NI p N O a b c iv jf im i E O' N' A) _ ?_ ?_ 0 _ _ (Qc _) ⟨_,_,_,rfl,h⟩
 ·rintro i E _ K hi hK ⟨O',N',A,rfl,h⟩ ih;obtain ⟨e1,e2,e3,e20,e21,la,lb,lc,pe,kp,hT,hN,hn,bn⟩:=h;have hw:IntKind.wrap .i64 ((i:Int)+1)=((i+1:Nat):Int):=cN (by omega) (by have:=w.hl;omega);have t:∀k,look (N'+k) O'=none:=fun k=>hT _ (by omega)
  have t0:=hT N' (Qb _);generalize hx:p.Xo[i]=x;have hf:x.Xz.length<2^40:=by rw [<- hx];exact w.hf _ (Qd hi)
  have b1:(x.Xz.length:Int)*4<=140737488355328/\(x.Xz.length:Int)<4611686018427387904:=by omega
  have lf:=pe.lf;have fj:=fun k=>eX (n:=N'+k) hT lf (by omega)
  have fa:=fun k=>eX (n:=N'+k) hT la (by omega)
  have fc:=fun k=>eX (n:=N'+k) hT lc (by omega)
  have jq:∀k,(jf == N'+k)=false/\(N'+k == jf)=false:=fun k=>by have:=fj k;simp;omega
  have aq:∀k,(a == N'+k)=false/\(N'+k == a)=false:=fun k=>by have:=fa k;simp;omega
  have cq:∀k,(c == N'+k)=false/\(N'+k == c)=false:=fun k=>by have:=fc k;simp;omega
  have hA:A.length=p.Xo.length:=by rw [pe.len];simp [vQ];omega
  have hrep:List.replicate x.Xz.length [AV.int .u32 0]=(x.Xz.map fun _=>(0:Int)).map c32:=by
   rw [List.map_map];exact (List.map_const' ..).symm
  rw [Prg.c] at la;simp [c_264_l0,Xi.c,e1,e2,e3,e20,e21,hi,hx,hw,t0,t,fW,la,lc,lf,aH,aC,pU,hN.eq,gB,b1,fj,fa,fc,jq,aq,cq,hA,FP lf,hN.sw];have hk:i<A.length:=by rw [hA];exact hi
  have lo:∀j y,look j O'=some y->j≠jf->look j (setl jf (.row 1 ((A.set i (.row (N'+34) 1 0 x.Xz.length)).map fun x=>[x])) O'++[(N'+34,.row 1 ((x.Xz.map fun _=>(0:Int)).map c32))])=some y:=fun j y h1 h2=>by
   rw [aH,aC,QA h2,h1];rfl
  have lv:=pe.lv;have fv:=eX (n:=N'+34) hT lv (by omega);have pe2:=(pe.app [(N'+34,.row 1 ((x.Xz.map fun _=>(0:Int)).map c32))]).setF hk (a:= .row (N'+34) 1 0 x.Xz.length) (l:=x.Xz.map fun _=>0) (.inr (.inl ⟨N'+34,by simp,by rw [aH,t];simp,by omega,fv.2,(fj 34).2⟩));have ne3:∀k j,j<N->N'+k≠j:=fun k j h=>by omega
  have lt3:N'+34<N'+35:=by omega
  subst hx;rw [qxw p hi,FP lf] at pe2;refine ih _ _ ⟨_,_,A.set i (.row (N'+34) 1 0 p.Xo[i].Xz.length),rfl,by simp [e1],by simp [e2],by simp [e3],by simp [e20],by simp,?_,?_,?_,?_,?_,?_,?_,by omega,bn⟩
  rotate_left 3
  ·rw [hrep,<- DY];exact pe2
  ·intro j hj _;rw [aH,aC,QA (by have:=pe.b;omega),kp j hj (by simp),jI _ _ _ _ (ne3 _ _ hj)];cases look j O<;>rfl
  ·exact Tail_append_iff.2 ⟨d6 (hT.mono (by omega)),Tail_cons_iff.2 ⟨lt3,Tail.nil _⟩⟩
  ·exact (hN.setl (by simp)).app (.one (by simp))
  all_goals
   rw [hrep,<- DY]
  ·exact lo _ _ la (cW la lf (by simp))
  ·exact lo _ _ lb (cW lb lf (by simp))
  ·exact lo _ _ lc (cW lc lf (by simp))
 ·rintro E _ K hK ⟨O',N',A,rfl,h⟩;obtain ⟨e1,e2,e3,e20,e21,la,lb,lc,pe,kp,hT,hN,hn,bn⟩:=h;rw [qzp] at pe;have cb:¬c=b/\¬b=c:=by
   have:=cW lc lb (by simp [z4]);exact ⟨this,fun e=>this e.symm⟩
  rw [z4] at lb;simp [rR,c_264_l0,c_264_k1,e1,e2,e3,e20,e21,lb,lc,aC] at hK ⊢;simp [c_264_k1,hK,e2,e3,lb,lc,aC];refine ⟨_,_,iv,jf,im,A,rfl,pe.fr fun j es _ hj=>?_,kp.setl (.inl bn),d6 hT,hN.setl (by simp),hn⟩;rw [aC,QA (cW hj lb (by simp)),hj]
theorem Fe {O:List (Nat×AO)} {N:Nat} (hT:Tail O N) (hN:NR O) {p:Prg} (w:PWd p):NewP p N O (aQ Φ iU [.agg p.c] ⟨O,N⟩):=by
 rw [eI rfl rfl];have t:∀k,look (N+k) O=none:=fun k=>hT _ (by omega)
 have t0:=hT N (Qb _);have b1:p.Xo.length<=140737488355328:=by have:=w.hl;omega
 have b2:(p.Xo.length:Int)*24<=140737488355328/\(p.Xo.length:Int)<4611686018427387904:=by have:=w.hl;omega
 have b3:(p.Xn.length:Int)*4<=140737488355328/\(p.Xn.length:Int)<4611686018427387904:=by have:=w.ml;omega
 have bq:∀k,0<k->(N == N+k)=false/\(N+k == N)=false:=fun k hk=>by simp;omega
 simp [rR,Prg.c,t0,t,fW,aH,aC,pU,hN.eq,gB,b1,b2,b3,bq,vM];have lt1:∀{u j:Nat} {y:AO} {r:List (Nat×AO)},j<u->look j r=none->look j ((u,y)::r)=none:=fun {u j y r} h1 h2=>by rw [jI _ _ _ _ (by omega),h2]
 refine qzq w (a:=N) (b:=N+1) (c:=N+5) (iv:=N+10) (jf:=N+14) (im:=N+18) (A:=p.Xo.map fun _=> .Xt 1 []) ⟨by simp,by simp,by simp,by simp,by simp,?_,?_,?_,?_,?_,?_,?_,by omega,by omega⟩
 ·simp [aH,t0,Prg.c]
 ·simp [aH,t,z4]
 ·simp [aH,t]
 ·have r1:∀{Z:Type} (l:List Z) (x:List AV),List.replicate l.length x=l.map fun _=>x:=fun l x=>(List.map_const' ..).symm
  refine ⟨?_,?_,?_,by omega,by omega,by simp [vQ],?_⟩
  ·simp [aH,t,vQ,r1,cB]
  ·simp [aH,t,vQ,r1]
  ·simp [aH,t,vQ,r1,c32]
  ·intro k a l h1 h2;refine .inl ?_;simp only [vQ,List.take_zero,nW,wE,List.drop_zero,List.getElem?_map] at h1 h2;obtain ⟨_,_,rfl⟩:=Qs.1 h1;obtain ⟨_,_,rfl⟩:=Qs.1 h2;exact ⟨rfl,rfl⟩
 ·intro j hj _;rw [aH];have ne1:∀k,N+k≠j:=fun k=>by omega
  rw [show ∀(x:AO) r,look j ((N,x)::r)=look j r from fun x r=>jI _ _ _ _ (ne1 0)]
  repeat rw [jI _ _ _ _ (ne1 _)]
  cases look j O<;>rfl
 ·have lt6:∀k,k<19->N+k<N+19:=fun k h=>by omega
  simp only [Tail_append_iff,Tail_cons_iff];exact ⟨hT.mono (by omega),lt6 0 (by decide),lt6 _ (by decide),lt6 _ (by decide),lt6 _ (by decide),lt6 _ (by decide),lt6 _ (by decide),Tail.nil _⟩
 ·exact hN.app (dU (by simp) (dU (by simp) (dU (by simp) (dU (by simp) (dU (by simp) (.one (by simp)))))))
def Fx (id iv jf:Nat) (j:Nat):Prop:=j=id\/j=iv\/j=jf
def ExtP (id t:Nat) (d:List Int) (B iv jf im N:Nat) (O:List (Nat×AO)) (y:Option (Envt×Nat)) (r:Option (Rt×AH)):Prop:=
 ∃O' N',Kp (Fx id iv jf) N O O'/\Tail O' N'/\NR O'/\N<=N'/\match y with
 | none=>r=some (.val (.int .i64 3),⟨O',N'⟩)
 | some x=>r=some (.val (.int .i64 0),⟨O',N'⟩)/\∃A,PE O' B iv jf im A x.1/\look id O'=some (rdr d t x.2)/\x.2<=8*d.length
structure XI (p:Prg) (s:Xc) (id t:Nat) (d:List Int) (B iv jf im:Nat) (P:AV) (N:Nat) (O:List (Nat×AO)) (a b c:Nat) (y:Option (Envt×Nat)) (i:Nat) (E:Env) (O':List (Nat×AO)) (N':Nat) (A:List AV) (x:Envt×Nat):Prop where
 e3:look 3 E=some (.ptr id 3 0 0)
 e4:look 4 E=some (.ptr a 9 0 0)
 e5:look 5 E=some (.ptr b 7 0 0)
 e6:look 6 E=some (.ptr c 4 0 0)
 e14:look 14 E=some (.slice 1 (s.extract.map cI))
 e15:look 15 E=some (a7 s.extract.length)
 e16:look 16 E=some (a7 i)
 la:look a O'=some (.row 9 [p.c])
 lc:look c O'=some (.row 4 [[.row iv 1 0 p.Xo.length,.row jf 1 0 p.Xo.length,.row im 1 0 p.Xn.length,P]])
 li:look id O'=some (rdr d t x.2)
 q:x.2<=8*d.length
 pe:PE O' B iv jf im A x.1
 v:x.1.valid.length=p.Xo.length
 f:x.1.Xz.length=p.Xo.length
 hy:y=exHs p d (s.extract.drop i) x
 kp:Kp (Fx id iv jf) N O O'
 hT:Tail O' N'
 hN:NR O'
 hn:N<=N'
theorem C' {p:Prg} (fs:PrgS p) (hd:∀h∈p.Xo,hdrE h=0) {s:Xc} (hs:∀h∈s.extract,0<=h/\h<p.Xo.length) (hsl:s.extract.length<2^40) {id t:Nat} {d:List Int} (hb:bOk d) (hl:d.length<=512) {B iv jf im:Nat} {P:AV} {N:Nat} {O:List (Nat×AO)} {a b c:Nat} {y:Option (Envt×Nat)} {E:Env} {O':List (Nat×AO)} {N':Nat} {A:List AV} {x:Envt×Nat}
  (h:XI p s id t d B iv jf im P N O a b c y 0 E O' N' A x):ExtP id t d B iv jf im N O y (go Φ (finC rS.results) [.c (.loop c_267_l0),.b 0,.c c_267_k1] .normal ⟨E,⟨O',N'⟩⟩):=by
 refine gL s.extract.length (fun i E h=>∃O' N' A x,h=⟨O',N'⟩/\XI p s id t d B iv jf im P N O a b c y i E O' N' A x) _ ?_ ?_ 0 _ _ (Qc _) ⟨_,_,_,_,rfl,h⟩
 ·rintro i E _ K hi hK ⟨O',N',A,x,rfl,h⟩ ih;obtain ⟨e3,e4,e5,e6,e14,e15,e16,la,lc,li,q,pe,v,f,hy,kp,hT,hN,hn⟩:=h;have hw:=aM i (by omega);obtain ⟨h0,h1⟩:=hs _ (Qd hi);rw [Qi hi,exHs] at hy;generalize hx:s.extract[i]=z at*;obtain ⟨m,rfl⟩:=nU h0;have hm:m<p.Xo.length:=by omega
  have hg:p.Xo[m]∈p.Xo:=Qd hm;have vh:=vhdr (hd _ hg);have wn:(wSum p.Xo[m].Xz).toNat=wN p.Xo[m].Xz:=by rw [SO vh.w];rfl
  rw [exH,qT,Qa hm] at hy;simp only [wn] at hy;have rd:=Z9 hT hN li hb hl q (fs.hn _ hg) (fs.hf _ hg) (hd _ hg);generalize hgx:p.Xo[m]=g at*;rw [Prg.c] at la;by_cases z:8*d.length<x.2+wN g.Xz
  ·rw [a9 z] at rd hy;obtain ⟨L,N1,hr,kp1,T1,R1,n1⟩:=rd;rw [hy];rw [Xi.c] at hr;simp [c_267_l0,Xi.c,cI,e3,e4,e5,e6,e14,e15,e16,hi,hx,hm,hgx,hw,la,lc,hr];exact ⟨_,_,fun j hj hf=>(kp1 j (by omega) (by simp)).trans (kp j hj hf),T1,R1,by omega,rfl⟩
  ·rw [QA z] at rd hy;obtain ⟨O1,N1,tk,hr,li1,lt1,tn,kp1,T1,R1,n1⟩:=rd;rw [eM] at hy;have hfr:∀j es,B<=j->look j O'=some (.row 1 es)->look j O1=some (.row 1 es):=fun j es _ hj=>by
    rw [kp1 j (hT.lt hj) (cW hj li (by simp [rdr])),hj]
   have pe1:=pe.fr hfr;have la1:look a O1=_:=(kp1 a (hT.lt la) (cW la li (by simp [rdr]))).trans la;have lc1:look c O1=_:=(kp1 c (hT.lt lc) (cW lc li (by simp [rdr]))).trans lc;rw [Xi.c] at hr;have lv:=pe1.lv;have lf:=pe1.lf;have cv:¬c=iv/\¬iv=c:=by
    have:=cW lc1 lv (by simp);exact ⟨this,fun e=>this e.symm⟩
   have cf:¬c=jf/\¬jf=c:=by
    have:=cW lc1 lf (by simp);exact ⟨this,fun e=>this e.symm⟩
   have hcb:∀b:Bool,(cB b).tail=[]:=fun b=>rfl
   have sw2:∀x y,f9 (setl jf (.row 1 x) (setl iv (.row 1 y) O1))=setl jf (.row 1 x) (setl iv (.row 1 y) O1):=fun x y=>NR.setl (by simp) (NR.setl (by simp) R1)
   have cvb:(c == iv)=false:=by simp [cv]
   have d1:=pe.d.1;have d2:=pe.d.1.symm;have hA:A.length=p.Xo.length:=by rw [pe.len,f]
   simp [c_267_l0,Xi.c,cI,e3,e4,e5,e6,e14,e15,e16,hi,hx,hm,hgx,hw,la,lc,la1,lc1,hr,lv,lf,aC,cv,cf,d1,d2,hA,v,gB,R1.eq,cvb,hcb,sw2];have pe2:=(pe1.setV (x.1.valid.set m true)).setF (k:=m) (a:= .app 1 ((rdF d x.2 g.Xz).map c32) tk) (l:=rdF d x.2 g.Xz) (by rw [hA];exact hm) (.inr (.inr ⟨tk,rfl⟩));have hne:∀{j:Nat} {z:Nat} {es:List (List AV)},z≠1->look j O1=some (.row z es)->look j (setl jf (.row 1 ((A.set m (.app 1 ((rdF d x.2 g.Xz).map c32) tk)).map fun x=>[x])) (setl iv (.row 1 ((x.1.valid.set m true).map cB)) O1))=some (.row z es):=fun {j z es} hz hj=>by
    rw [aC,QA (cW hj lf (by simp [hz])),aC,QA (cW hj lv (by simp [hz])),hj]
   have es1:(x.1.valid.map cB).set m [AV.bool true]=(x.1.valid.set m true).map cB:=by rw [DY];rfl
   have es2:(A.map fun x=>[x]).set m [AV.app 1 ((rdF d x.2 g.Xz).map c32) tk]=(A.set m (AV.app 1 ((rdF d x.2 g.Xz).map c32) tk)).map fun x=>[x]:=by rw [DY]
   refine ih _ _ ⟨_,_,A.set m (.app 1 ((rdF d x.2 g.Xz).map c32) tk),_,rfl,by simp [e3],by simp [e4],by simp [e5],by simp [e6],by simp [e14],by simp [e15],by simp,?_,?_,?_,?_,?_,?_,?_,hy,?_,?_,?_,by omega⟩
   all_goals try rw [es1,es2]
   ·exact hne (by decide) la1
   ·exact hne (by decide) lc1
   ·exact hne (by decide) li1
   ·simp only;omega
   ·exact pe2
   ·simp [v]
   ·simp [f]
   ·intro j hj hf;have h3:¬j=jf/\¬j=iv/\¬j=id:=⟨fun e=>hf (.inr (.inr e)),fun e=>hf (.inr (.inl e)),fun e=>hf (.inl e)⟩;rw [aC,QA h3.1,aC,QA h3.2.1,kp1 j (by omega) h3.2.2,kp j hj hf]
   ·exact d6 (d6 (T1.mono (by omega)))
   ·exact NR.setl (by simp) (NR.setl (by simp) R1)
 ·rintro E _ K hK ⟨O',N',A,x,rfl,h⟩;obtain ⟨e3,e4,e5,e6,e14,e15,e16,la,lc,li,q,pe,v,f,hy,kp,hT,hN,hn⟩:=h;rw [wW,exHs] at hy;simp [rS,c_267_l0,c_267_k1,e15,e16] at hK ⊢;simp [c_267_k1,hK];subst hy;exact ⟨O',N',kp,hT,hN,hn,rfl,A,pe,li,q⟩
theorem Kr {p:Prg} (fs:PrgS p) (hd:∀h∈p.Xo,hdrE h=0) {s:Xc} (hs:∀h∈s.extract,0<=h/\h<p.Xo.length) (hsl:s.extract.length<2^40) {id t:Nat} {d:List Int} (hb:bOk d) (hl:d.length<=512) {B iv jf im:Nat} {P:AV} {N:Nat} {O:List (Nat×AO)} {A:List AV} {x:Envt×Nat}
  (hT:Tail O N) (hN:NR O) (li:look id O=some (rdr d t x.2)) (q:x.2<=8*d.length) (pe:PE O B iv jf im A x.1) (v:x.1.valid.length=p.Xo.length) (f:x.1.Xz.length=p.Xo.length):
  ExtP id t d B iv jf im N O (exHs p d s.extract x) (aQ Φ tG [.agg p.c,.agg s.c,.agg [.row iv 1 0 p.Xo.length,.row jf 1 0 p.Xo.length,.row im 1 0 p.Xn.length,P],.ptr id 3 0 0] ⟨O,N⟩):=by
 rw [eI rfl rfl];have tt:∀k,look (N+k) O=none:=fun k=>hT _ (by omega)
 have t0:=hT N (Qb _);have lt3:∀k,k<3->N+k<N+3:=fun k h=>by omega
 simp [rS,Xc.c,t0,tt,fW,aH];refine C' fs hd (s:=s) (P:=P) (a:=N) (b:=N+1) (c:=N+2) hs hsl hb hl (A:=A) (x:=x) ⟨by simp,by simp,by simp,by simp,by simp,by simp,by simp,?_,?_,cH li,q,pe.app _,v,f,rfl,?_,?_,?_,by omega⟩
 ·simp [aH,t0]
 ·simp [aH,tt]
 ·intro j hj _;have ne1:∀k,N+k≠j:=fun k=>by omega
  rw [aH,show ∀(x:AO) r,look j ((N,x)::r)=look j r from fun x r=>jI _ _ _ _ (ne1 0),jI _ _ _ _ (ne1 _),jI _ _ _ _ (ne1 _)];cases look j O<;>rfl
 ·simp only [Tail_append_iff,Tail_cons_iff];exact ⟨hT.mono (by omega),lt3 0 (by decide),lt3 1 (by decide),lt3 2 (by decide),Tail.nil _⟩
 ·exact hN.app (dU (by simp) (dU (by simp) (.one (by simp))))
theorem Do {v c m:Nat} (h:c&&& m=c):(v^^^c)&&& m=0↔v&&& m=c:=by
 rw [Nat.and_xor_distrib_right,h];constructor
 ·intro e;have:((v&&& m)^^^c)^^^c=0^^^c:=by rw [e]
  rwa [Nat.xor_assoc,Nat.xor_self,Nat.xor_zero,Nat.zero_xor] at this
 ·intro e;rw [e,Nat.xor_self]
theorem Hh {v c m:Int} (hv:ok32 0 v) (hc:ok32 0 c) (hm:ok32 0 m) (h:c.toNat&&& m.toNat=c.toNat):iand .u32 (ixor .u32 v c) m=0↔iand .u32 v m=c:=by
 have hx:ok32 0 (ixor .u32 v c):=by
  have:=qtd (k:=32) (by decide) (a:=v) (b:=c) ⟨hv.1,by have:=hv.2;omega⟩ ⟨hc.1,by have:=hc.2;omega⟩;exact mY this (by decide)
 rw [VF hx hm,VF hv hm,qte hv hc];have:=Do (v:=v.toNat) h;have h0:=hc.1;simp only [GH];omega
def nxF (s:Xc) (v:Int) (l:List Xj):Int:=((l.find? fun c=>decide (iand .u32 v c.Yd=c.value)).map (·.next)).getD s.Yb
structure NxI (s:Xc) (v R:Int) (i:Nat) (E:Env) (h:AH):Prop where
 e2:look 2 E=some (.iptr 7 [s.c] 0 0)
 e5:look 5 E=some (.int .u32 v)
 e15:look 15 E=some (.slice 3 (s.cases.map Xj.c))
 e16:look 16 E=some (a7 s.cases.length)
 e17:look 17 E=some (a7 i)
 r:R=nxF s v (s.cases.drop i)
 h:h.objs=[]
theorem Gr {s:Xc} {e:Envt} (hv:ok32 0 (eGet e s.on.header s.on.field)) (hl:s.cases.length<2^40) (hc:∀c∈s.cases,ok32 0 c.value/\ok32 0 c.Yd) (hm:∀c∈s.cases,c.value.toNat&&& c.Yd.toNat=c.value.toNat):
  a8 Φ AY [.agg s.c,.agg e.c]=some (.val (a7 (nxS s e))):=by
 rw [aA rfl rfl];have hg:=WC e s.on.header s.on.field;rw [Envt.ce] at hg;unfold nxS;generalize eGet e s.on.header s.on.field=v at hg hv;cases q:s.select with
 | false=>simp [yO,c_268_k1,Xc.c,Envt.ce,q]
 | true=>
  rw [a9 rfl];simp [yO,Xc.c,Envt.ce,q,hg];refine gL s.cases.length (fun i E h=>NxI s v (nxF s v s.cases) i E h) (fun (r:Option Rt)=>r=some (.val (a7 (nxF s v s.cases)))) ?_ ?_ 0 _ _ (Qc _) ?_
  rotate_left 2
  ·exact ⟨by simp [Xc.c,q],by simp,by simp,by simp,by simp,rfl,rfl⟩
  ·rintro i E ⟨objs,n⟩ K hi hK h ih;obtain ⟨e2,e5,e15,e16,e17,r,h⟩:=h;cases h;have hw:=aM i (by omega);have hci:=hc _ (Qd hi);have hmi:=hm _ (Qd hi);rw [Qi hi] at r;generalize hx:s.cases[i]=x at*;have hs:=Hh hv hci.1 hci.2 hmi;rw [Xc.c] at e2;by_cases z:iand .u32 v x.Yd=x.value
   ·have z1:=hs.2 z;have:nxF s v s.cases=x.next:=by rw [r];simp [nxF,z]
    simp [c_268_l0,Xj.c,e2,e5,e15,e16,e17,hi,hx,hw,z1,this]
   ·have z1:¬iand .u32 (ixor .u32 v x.value) x.Yd=0:=fun h=>z (hs.1 h)
    have:nxF s v s.cases=nxF s v (s.cases.drop (i+1)):=by rw [r];simp [nxF,z]
    simp [c_268_l0,Xj.c,e2,e5,e15,e16,e17,hi,hx,hw,z1];refine ih _ _ ?_;exact ⟨by simp [e2,Xc.c],by simp [e5],by simp [e15],by simp [e16],by simp,this,rfl⟩
  ·rintro E ⟨objs,n⟩ K hK h;obtain ⟨e2,e5,e15,e16,e17,r,h⟩:=h;cases h;rw [wW] at r;rw [Xc.c] at e2;simp [c_268_l0,e16,e17] at hK ⊢;simp [c_268_k1,hK,e2,r];rfl
theorem XN {p:Prg} (fs:PrgS p) (hd:∀h∈p.Xo,hdrE h=0) (hp:(parE p).2.2=0) (d:List Int):
  a8 Φ AW [.agg p.c,.slice 1 (d.map c8)]=some (.val (a7 (if 512<d.length then 4 else 0))):=by
 rw [aA rfl rfl];have hc:=qwr p fs;rw [Prg.c] at hc;simp [I8,Prg.c,hc,tup3,hp];refine gL p.Xo.length (fun i E h=>look 19 E=some (.slice 2 (p.Xo.map Xi.c))/\look 20 E=some (a7 p.Xo.length)/\look 21 E=some (a7 i)/\look 1 E=some (.slice 1 (d.map c8))/\h.objs=[]) (fun (r:Option Rt)=>r=some (.val (a7 (if 512<d.length then 4 else 0)))) ?_ ?_ 0 _ _ (Qc _) ?_
 rotate_left 2
 ·exact ⟨by simp,by simp,by simp,by simp,rfl⟩
 ·rintro i E ⟨objs,n⟩ K hi hK ⟨e19,e20,e21,e1,h⟩ ih;cases h;have hw:IntKind.wrap .i64 ((i:Int)+1)=((i+1:Nat):Int):=cN (by omega) (by have:=fs.h;omega);have hg:=Qd hi;generalize hx:p.Xo[i]=g at*;have hh:=P3 g (fs.hn _ hg) (fs.hf _ hg);rw [hd _ hg,Xi.c] at hh;simp [c_265_l0,Xi.c,e19,e20,e21,hi,hx,hw,hh];refine ih _ _ ?_;exact ⟨by simp [e19],by simp [e20],by simp,by simp [e1],rfl⟩
 ·rintro E ⟨objs,n⟩ K hK ⟨e19,e20,e21,e1,h⟩;cases h;simp [c_265_l0,e20,e21] at hK ⊢;by_cases z:512<d.length<;>simp [c_265_k1,hK,e1,z]
def PEo (p:Prg) (O:List (Nat×AO)) (B:Nat) (V F M:AV) (e:Envt):Prop:=∃iv jf im A,V= .row iv 1 0 p.Xo.length/\F= .row jf 1 0 p.Xo.length/\M= .row im 1 0 p.Xn.length/\PE O B iv jf im A e/\e.valid.length=p.Xo.length/\e.Xz.length=p.Xo.length/\e.metaF.length=p.Xn.length
theorem PEo.snp {p:Prg} {O:List (Nat×AO)} {B:Nat} {V F M:AV} {e:Envt} (h:PEo p O B V F M e) (N m:Nat):snap (m+3) ⟨O,N⟩ V=some (.slice 1 (e.valid.map cB))/\snap (m+3) ⟨O,N⟩ F=some (.slice 1 (e.Xz.map (cS 1 c32)))/\snap (m+3) ⟨O,N⟩ M=some (.slice 1 (e.metaF.map c32)):=by
 obtain ⟨iv,jf,im,A,rfl,rfl,rfl,pe,h1,h2,h3⟩:=h;have:=pe.snp (N:=N) m;rw [h1,h2,h3] at this;cases q1:snap (m+3) ⟨O,N⟩ (.row iv 1 0 p.Xo.length)<;>cases q2:snap (m+3) ⟨O,N⟩ (.row jf 1 0 p.Xo.length)<;>cases q3:snap (m+3) ⟨O,N⟩ (.row im 1 0 p.Xn.length)<;>simp only [mapO,q1,q2,q3] at this
 all_goals first | cases this | skip
 exact ⟨rfl,rfl,rfl⟩
def Sn3 (O:List (Nat×AO)) (V F M:AV) (e:Envt):Prop:=∀N,(snap 39 ⟨O,N⟩ V=some (.slice 1 (e.valid.map cB))/\snap 39 ⟨O,N⟩ F=some (.slice 1 (e.Xz.map (cS 1 c32)))/\snap 39 ⟨O,N⟩ M=some (.slice 1 (e.metaF.map c32)))/\
 (snap 38 ⟨O,N⟩ V=some (.slice 1 (e.valid.map cB))/\snap 38 ⟨O,N⟩ F=some (.slice 1 (e.Xz.map (cS 1 c32)))/\snap 38 ⟨O,N⟩ M=some (.slice 1 (e.metaF.map c32)))
theorem PEo.sn3 {p:Prg} {O:List (Nat×AO)} {B:Nat} {V F M:AV} {e:Envt} (h:PEo p O B V F M e):Sn3 O V F M e:=fun N=>⟨h.snp N 36,h.snp N 35⟩
theorem PEo.fr {p:Prg} {O O':List (Nat×AO)} {B:Nat} {V F M:AV} {e:Envt} (h:PEo p O B V F M e) (hf:∀j es,B<=j->look j O=some (.row 1 es)->look j O'=some (.row 1 es)):PEo p O' B V F M e:=by
 obtain ⟨iv,jf,im,A,rfl,rfl,rfl,pe,h1,h2,h3⟩:=h;exact ⟨iv,jf,im,A,rfl,rfl,rfl,pe.fr hf,h1,h2,h3⟩
theorem qsx {p:Prg} {d:List Int}:∀(l:List Int) {x y:Envt×Nat},exHs p d l x=some y->y.1.valid.length=x.1.valid.length/\y.1.Xz.length=x.1.Xz.length/\y.1.metaF=x.1.metaF/\y.1.payload=x.1.payload
 | [],x,y,h=>by cases h;exact ⟨rfl,rfl,rfl,rfl⟩
 | a::l,x,y,h=>by
  obtain ⟨u,h1,h2⟩:=Qt.1 h;have ih:=qsx l h2;unfold exH at h1;split at h1
  ·cases h1
  split at h1
  ·cases h1
  ·cases h1;simpa using ih
theorem qzy {p:Prg} (hd:∀h∈p.Xo,hdrE h=0) {d:List Int}:∀(l:List Int) {x y:Envt×Nat},x.2 % 8=0->exHs p d l x=some y->y.2 % 8=0
 | [],x,y,q,h=>by cases h;exact q
 | a::l,x,y,q,h=>by
  obtain ⟨u,h1,h2⟩:=Qt.1 h;refine qzy hd l ?_ h2;unfold exH at h1;split at h1
  ·cases h1
  rename_i g hg;split at h1
  ·cases h1
  ·cases h1;obtain ⟨m,rfl,hm,rfl⟩:=kO hg;have v:=vhdr (hd _ (Qd hm));have:=v.s;simp only;omega
def RunP (p:Prg) (R:Option Envt) (r:Option Rt):Prop:=match R with
 | some e=>∃l,r=some (.val (.tup [.agg e.c,.slice 1 l,.int .i64 0]))
 | none=>∃l c,c≠0/\r=some (.val (.tup [.agg (eNew p).c,.slice 1 l,.int .i64 c]))
structure RI (p:Prg) (d:List Int) (R:Option Envt) (c id t tk n:Nat) (E:Env) (O:List (Nat×AO)) (N:Nat) (V F M:AV) (L:List Int) (s:Int) (x:Envt×Nat):Prop where
 e1:look 2 E=some (.iptr 9 [p.c] 0 0)
 e4:look 4 E=some (.ptr 0 4 0 0)
 e7:look 7 E=some (.ptr c 4 0 0)
 e9:look 9 E=some (.ptr id 3 0 0)
 e10:look 10 E=some (.app 1 (L.map cI) tk)
 e11:look 11 E=some (a7 s)
 l0:look 0 O=some (.row 4 [z4])
 lc:look c O=some (.row 4 [[V,F,M,.Xt 1 []]])
 li:look id O=some (rdr d t x.2)
 lt:look tk O=some (.tok 1 L.length)
 pe:PEo p O 1 V F M x.1
 q:x.2<=8*d.length/\x.2 % 8=0
 pl:x.1.payload=[]
 hT:Tail O N
 hN:NR O
 hL:L.length+n<=p.Xw.length+1
 hR:R=prF p d n s x
 hs:s= -1\/s= -2\/∃k:Nat,s=k/\k<p.Xw.length/\p.Xw.length+1<=n+k
 n0:0<n
 ev:EV p x.1
 c0:¬c=0/\¬0=c
theorem Ti {p:Prg} (w:PWd p) {O:List (Nat×AO)} {N:Nat} (hT:Tail O N) (hN:NR O) (l0:look 0 O=some (.row 4 [z4])):
  ∃O' N' V F M,aQ Φ iU [.agg p.c] ⟨O,N⟩=some (.val (.agg [V,F,M,.Xt 1 []]),⟨O',N'⟩)/\look 0 O'=some (.row 4 [z4])/\PEo p O' N V F M (eNew p)/\Kp (fun _=>False) N O O'/\Tail O' N'/\NR O'/\N<=N'/\
   Sn3 (setl 0 (.row 4 [[V,F,M,.Xt 1 []]]) O') V F M (eNew p):=by
 obtain ⟨O',N',iv,jf,im,A,hr,pe,kp,T,R,hn⟩:=Fe hT hN w;have l0':look 0 O'=some (.row 4 [z4]):=by rw [kp 0 (hT.lt l0) (by simp),l0]
 have po:PEo p O' N (.row iv 1 0 p.Xo.length) (.row jf 1 0 p.Xo.length) (.row im 1 0 p.Xn.length) (eNew p):=⟨iv,jf,im,A,rfl,rfl,rfl,pe,by simp [eNew],by simp [eNew],by simp [eNew]⟩;exact ⟨O',N',_,_,_,hr,l0',po,kp,T,R,hn,(po.fr fun j es _ hj=>by rw [aC,QA (cW hj l0' (by simp)),hj]).sn3⟩
theorem Y3 {p:Prg} {k:Nat} {s:Xc} (v:VSt p k s) (e:Envt):jL p k (nxS s e)=true:=by
 unfold nxS;split
 ·cases q:s.cases.find? fun c=>decide (iand .u32 (eGet e s.on.header s.on.field) c.Yd=c.value) with
  | none=>exact v.df
  | some c=>exact v.cs c (X7 q)
 ·exact v.df
theorem Cf {p:Prg} (fs:PrgS p) (w:PWd p) (hd:∀h∈p.Xo,hdrE h=0) (vp:VPar p) {d:List Int} (hb:bOk d) (hl:d.length<=512) {R:Option Envt} {c id t tk n:Nat} {E:Env} {O:List (Nat×AO)} {N:Nat} {V F M:AV} {L:List Int} {s:Int} {x:Envt×Nat} (h:RI p d R c id t tk n E O N V F M L s x):
  RunP p R (go Φ (finP jV.results) [.c (.loop c_170_l0),.b 0,.c c_170_k1] .normal ⟨E,⟨O,N⟩⟩):=by
 refine loopQ (U:=Nat) (fun n=>n) (fun n E h=>∃O N V F M L s x,h=⟨O,N⟩/\RI p d R c id t tk n E O N V F M L s x) (fun _ r=>RunP p R r) ?_ n E _ ⟨_,_,_,_,_,_,_,_,rfl,h⟩;rintro n E _ K hK ⟨O,N,V,F,M,L,s,x,rfl,h⟩ ih;obtain ⟨e1,e4,e7,e9,e10,e11,l0,lc,li,lt,pe,q,pl,hT,hN,hL,hR,hs,n0,ev,c0⟩:=h;rcases hs with rfl | rfl | ⟨k,rfl,hk,hkn⟩
 ·have hRR:R=some { x.1 with payload:=d.drop (x.2 / 8) }:=by
   obtain ⟨m,rfl⟩:∃m,n=m+1:=⟨n - 1,by omega⟩;rw [hR,prF,a9 rfl]
  have hr:=qub hT hN li hl q.1;rw [rstV,rstE,rstL,a9 q.2,a9 q.2,a9 q.2,a9 q.2] at hr;rw [z4] at l0;have sn:=(pe.fr (O':=setl 0 (AO.row 4 [[V,F,M,.app 1 ((d.drop (x.2 / 8)).map c8) N]]) (setl c (AO.row 4 [[V,F,M,.app 1 ((d.drop (x.2 / 8)).map c8) N]]) (O++[(N,.tok 1 (d.length - x.2 / 8))]))) fun j es _ hj=>by rw [aC,QA (cW hj l0 (by simp)),aC,QA (cW hj lc (by simp)),cH hj]).sn3;unfold Sn3 at sn;generalize hQ:(d.drop (x.2 / 8))=rs at*;simp [jV,c_170_l0,c_170_k1,e11] at hK ⊢;simp [c_170_k1,hK,e4,e7,e10,e11,e9,hr,aH,l0,lc,aC,c0,sn];rw [hRR];exact ⟨_,rfl⟩
 ·have hRR:R=none:=by
   obtain ⟨m,rfl⟩:∃m,n=m+1:=⟨n - 1,by omega⟩;rw [hR,prF,QA (by decide),eP (by decide)]
  obtain ⟨O1,N1,V1,F1,M1,hr,l1,-,-,-,-,-,sn⟩:=Ti w hT hN l0;rw [Prg.c] at hr e1;rw [z4] at l1;unfold Sn3 at sn;simp [jV,c_170_l0,c_170_k1,e11] at hK ⊢;simp [c_170_k1,hK,e1,e4,e10,e11,e9,hr,l1,aC,sn];rw [hRR];exact ⟨_,15,by decide,rfl⟩
 ·have ck0:¬(k:Int)<0:=by omega
  have lL:(L.length+1)*8<=70368744177664:=by have:=vp.n;omega
  have ctk:¬c=tk/\¬tk=c:=by
   have:=cW lc lt (by simp);exact ⟨this,fun e=>this e.symm⟩
  have ztk:¬0=tk/\¬tk=0:=by
   have:=cW l0 lt (by simp);exact ⟨this,fun e=>this e.symm⟩
  have itk:¬id=tk:=cW li lt (by simp [rdr]);obtain ⟨O1,hO1⟩:∃O1,setl tk (.tok 1 (L.length+1)) O=O1:=⟨_,rfl⟩;have fr1:∀{j:Nat} {y:AO},j≠tk->look j O=some y->look j O1=some y:=fun {j y} h1 h2=>by rw [<- hO1,aC,QA h1,h2]
  have lc1:=fr1 ctk.1 lc;have l01:=fr1 ztk.1 l0;have li1:=fr1 itk li;have lt1:look tk O1=some (.tok 1 (L.length+1)):=by rw [<- hO1,aC,a9 rfl,lt];rfl
  have T1:Tail O1 N:=by rw [<- hO1];exact d6 hT
  have R1:NR O1:=by rw [<- hO1];exact NR.setl (by simp) hN
  have pe1:PEo p O1 1 V F M x.1:=pe.fr fun j es _ hj=>fr1 (cW hj lt (by simp)) hj
  have vs:=vp.s k hk;have hmem:=Qd hk;have hle:=fun e=>Y3 vs e
  obtain ⟨m,rfl⟩:∃m,n=m+1:=⟨n - 1,by omega⟩;rw [prF,QA (by omega),qT,Qa hk] at hR;simp only at hR;obtain ⟨iv,jf,im,A,hV,hF,hM,pe2,p1,p2,p3⟩:=pe1;have hex:=Kr fs hd (s:=p.Xw[k]) vs.ex (fs.se _ hmem) hb hl (P:= .Xt 1 []) (x:=x) T1 R1 li1 q.1 pe2 p1 p2;rw [<- hV,<- hF,<- hM] at hex;have hcs:=fs.sv _ hmem;have hcl:=fs.sc _ hmem;have hcm:=vs.cm;generalize hst:p.Xw[k]=st at*;obtain ⟨O2,N2,kp,T2,R2,n2,hex⟩:=hex;have nF:∀{j z:Nat} {es:List (List AV)},z≠1->z≠3->look j O1=some (.row z es)->¬Fx id iv jf j:=fun {j z es} h1 h3 hj hf=>by
   rcases hf with hf | hf | hf
   ·exact cW hj li1 (by simp [rdr,h3]) hf
   ·exact cW hj pe2.lv (by simp [h1]) hf
   ·exact cW hj pe2.lf (by simp [h1]) hf
  have l02:look 0 O2=some (.row 4 [z4]):=by rw [kp 0 (T1.lt l01) (nF (by decide) (by decide) l01),l01]
  have lc2:look c O2=_:=(kp c (T1.lt lc1) (nF (by decide) (by decide) lc1)).trans lc1;have lt2:look tk O2=some (.tok 1 (L.length+1)):=by
   rw [kp tk (T1.lt lt1) (fun hf=>?_),lt1];rcases hf with hf | hf | hf
   ·exact cW lt1 li1 (by simp [rdr]) hf
   ·exact cW lt1 pe2.lv (by simp) hf
   ·exact cW lt1 pe2.lf (by simp) hf
  cases hy:exHs p d st.extract x with
  | none=>
   rw [hy] at hex hR;simp only at hex;obtain ⟨O3,N3,V3,F3,M3,hr,l3,-,-,-,-,-,sn⟩:=Ti w T2 R2 l02;rw [Prg.c] at hr hex e1;rw [Xc.c] at hex;rw [z4] at l3;unfold Sn3 at sn;simp [jV,c_170_l0,Xc.c,e11,ck0,hk,hst,e10,lt,e1,e4,e7,e9,lc1,lL,hO1,hex,hr,l3,aC,sn];rw [hR];exact ⟨_,3,by decide,rfl⟩
  | some y=>
   rw [hy] at hex hR;obtain ⟨hex,A2,pe3,li2,qy⟩:=hex;obtain ⟨g1,g2,g3,g4⟩:=qsx _ hy;have g5:=qzy hd _ q.2 hy;have ev2:EV p y.1:=ev.exHs (fun g hg f hf=>(vhdr (hd g hg)).w f hf) _ hy;have nx:=Gr (s:=st) (e:=y.1) (qv6 ev2 (fun h f=>(WI p h f).2) _ _) hcl hcs hcm;have po:PEo p O2 1 V F M y.1:=⟨iv,jf,im,A2,hV,hF,hM,pe3,by rw [g1,p1],by rw [g2,p2],by rw [g3,p3]⟩;have sn:=po.sn3;unfold Sn3 at sn;have pl2:=g4.trans pl;rw [eM] at hR;rw [Prg.c] at hex e1;rw [Xc.c] at hex nx;rw [Envt.ce,pl2] at nx;simp only [nW] at nx;simp [c_170_l0,Xc.c,e11,ck0,hk,hst,e10,lt,e1,e4,e7,e9,lc1,lc2,lL,hO1,hex,sn,nx];have hl2:=XZ (hle y.1);refine ih m _ _ (by omega) ⟨O2,N2,V,F,M,L++[(k:Int)],nxS st y.1,y,rfl,?_⟩;refine ⟨by simp [e1,Prg.c],by simp [e4],by simp [e7],by simp [e9],by simp [cI],by simp,l02,lc2,li2,by simpa using lt2,po,⟨qy,g5⟩,pl2,T2,R2,by simp;omega,hR,?_,by omega,ev2,c0⟩;rcases hl2 with h | h | ⟨j,h1,h2,h3⟩
   ·exact .inl h
   ·exact .inr (.inl h)
   ·exact .inr (.inr ⟨j,h1,h3,by omega⟩)
theorem Ng {p:Prg} (fs:PrgS p) (w:PWd p) (hd:∀h∈p.Xo,hdrE h=0) (hp:(parE p).2.2=0) {d:List Int} (hb:bOk d):RunP p (prs p d) (a8 Φ p5 [.agg p.c,.slice 1 (d.map c8)]):=by
 rw [aA rfl rfl];have vp:=vpar hp;have T1:Tail [(0,AO.row 4 [z4])] 1:=Tail_cons_iff.2 ⟨by omega,Tail.nil _⟩;obtain ⟨O1,N1,V,F,M,hr,l0,po,kp,T,R,n1,-⟩:=Ti w T1 (.one (by simp)) rfl;have rf:=XN fs hd hp d;have tt:=T N1 (Qb _);have n0:¬0=N1/\¬N1=0:=by omega
 rw [Prg.c] at hr rf;rw [z4] at hr l0;by_cases hl:512<d.length
 ·rw [a9 hl] at rf;rw [prs,a9 hl];have sn:=(po.fr (O':=setl 0 (AO.row 4 [[V,F,M,.Xt 1 []]]) (O1++[(N1,.row 4 [[V,F,M,.Xt 1 []]])])) fun j es _ hj=>by rw [aC,QA (cW hj l0 (by simp)),cH hj]).sn3;unfold Sn3 at sn;simp [jV,Prg.c,hr,rf,tt,aH,aC,n0,l0,sn];exact ⟨_,4,by decide,rfl⟩
 ·rw [QA hl] at rf;rw [prs,QA hl];have nr:=Gq (O:=O1++[(N1,.row 4 [[V,F,M,.Xt 1 []]])]) (N:=N1+1) (d:=d) (Tail_append_iff.2 ⟨T.mono (by omega),Tail_cons_iff.2 ⟨by omega,Tail.nil _⟩⟩) (by omega);have tk:∀k,look (N1+k) O1=none:=fun k=>T _ (by omega)
  simp [jV,Prg.c,hr,rf,tt,tk,aH,aC,n0,l0,nr,fW];have n1p:1<=p.Xw.length:=vp.n.1;refine Cf fs w hd vp hb (by omega) (c:=N1) (id:=N1+2) (t:=N1+1) (tk:=N1+3) (n:=p.Xw.length+1) (V:=V) (F:=F) (M:=M) (L:=[]) (s:=0) (x:=(eNew p,0)) ?_;have lt4:∀k,k<4->N1+k<N1+4:=fun k h=>by omega
  refine ⟨by simp [Prg.c],by simp,by simp,by simp,by simp,by simp,?_,?_,?_,?_,?_,by simp,by simp [eNew],?_,?_,by simp,rfl,.inr (.inr ⟨0,rfl,by omega,by omega⟩),by omega,EV.new p,by omega⟩
  ·rw [aH,l0];rfl
  ·simp [aH,tt]
  ·simp [aH,tk]
  ·simp [aH,tk]
  ·exact po.fr fun j es _ hj=>cH hj
  ·simp only [Tail_append_iff,Tail_cons_iff];exact ⟨T.mono (by omega),lt4 0 (by decide),lt4 1 (by decide),lt4 2 (by decide),lt4 3 (by decide),Tail.nil _⟩
  ·exact R.app (dU (by simp) (dU (by simp) (dU (by simp [rdr]) (.one (by simp)))))
def ParP (p:Prg) (R:Option Envt) (r:Option Rt):Prop:=match R with
 | some e=>r=some (.val (.tup [.agg e.c,.int .i64 0]))
 | none=>∃c,c≠0/\r=some (.val (.tup [.agg (eNew p).c,.int .i64 c]))
theorem Az {p:Prg} (fs:PrgS p) (w:PWd p) (hd:∀h∈p.Xo,hdrE h=0) (hp:(parE p).2.2=0) {d:List Int} (hb:bOk d):ParP p (prs p d) (a8 Φ zI [.agg p.c,.slice 1 (d.map c8)]):=by
 rw [aA rfl rfl];have h:=Ng fs w hd hp hb;rw [Prg.c] at h;cases q:prs p d with
 | some e=>
  rw [q] at h;obtain ⟨l,h⟩:=h;rw [Envt.ce] at h;simp only [ParP];simp [xH,Prg.c,h,Envt.ce]
 | none=>
  rw [q] at h;obtain ⟨l,c,hc,h⟩:=h;rw [Envt.ce] at h;refine ⟨c,hc,?_⟩;simp [xH,Prg.c,h,Envt.ce]
theorem Ag {p:Prg} {h f v:Int} (h0:0<=v/\v<2^(wid p h f).toNat):v<=cD (wid p h f):=by
 have hw:=WI p h f;by_cases z:wid p h f=0
 ·rw [z] at h0 ⊢;simp at h0;have:cD 0=0:=by decide
  omega
 ·rw [VW (by omega) (by omega)];omega
theorem qv7 {p:Prg} {h:Int} {l:List Int} (hl:l.length<2^40) (hv:∀(i:Nat) (v:Int),l[i]? =some v->0<=v/\v<2^(wid p h i).toNat):a8 Φ uL [.agg p.c,a7 h,.slice 1 (l.map c32)]=some (.val (.bool true)):=by
 rw [aA rfl rfl];simp [JS,Prg.c];refine gL l.length (fun i E H=>look 9 E=some (.slice 1 (l.map c32))/\look 10 E=some (a7 l.length)/\look 11 E=some (a7 i)/\look 1 E=some (a7 h)/\look 3 E=some (.iptr 9 [p.c] 0 0)/\H.objs=[]) (fun (r:Option Rt)=>r=some (.val (.bool true))) ?_ ?_ 0 _ _ (Qc _) ?_
 rotate_left 2
 ·exact ⟨by simp,by simp,by simp,by simp,by simp [Prg.c],rfl⟩
 ·rintro i E ⟨objs,n⟩ K hi hK ⟨e9,e10,e11,e1,e3,hH⟩ ih;cases hH;have hw:=aM i (by omega);have hwd:=PG p h i;have hm:=j6 (wid p h i);have hle:¬cD (wid p h i)<l[i]:=by
   have:=Ag (hv i l[i] (Qa hi));omega
  rw [Prg.c] at hwd e3;generalize hx:l[i]=x at*;simp [c_399_l0,c32,e9,e10,e11,e1,e3,hi,hx,hw,hwd,hm,hle];refine ih _ _ ?_;exact ⟨by simp [e9],by simp [e10],by simp,by simp [e1],by simp [e3,Prg.c],rfl⟩
 ·rintro E ⟨objs,n⟩ K hK ⟨e9,e10,e11,e1,e3,hH⟩;cases hH;simp [c_399_l0,e10,e11] at hK ⊢;simp [c_399_k1,hK]
theorem D' {l:List Int} (hl:l.length<2^40) (hz:∀v∈l,v=0):a8 Φ CC [.slice 1 (l.map c32)]=some (.val (.bool true)):=by
 rw [aA rfl rfl];have h1:a8 Φ mU [.int .u32 0]=some (.val (.bool false)):=by
  rw [aA rfl rfl];simp [JX]
 have h2:a8 Φ CL [.slice 1 (l.map c32),.func (.func mU) [] []]=some (.val (a7 (-1))):=by
  rw [aA rfl rfl];simp [JY];refine gL l.length (fun i E H=>look 0 E=some (.slice 1 (l.map c32))/\look 1 E=some (.func (.func mU) [] [])/\look 7 E=some (a7 l.length)/\look 8 E=some (a7 i)/\H.objs=[]) (fun (r:Option Rt)=>r=some (.val (a7 (-1)))) ?_ ?_ 0 _ _ (Qc _) ?_
  rotate_left 2
  ·exact ⟨by simp,by simp,by simp,by simp,rfl⟩
  ·rintro i E ⟨objs,n⟩ K hi hK ⟨e0,e1,e7,e8,hH⟩ ih;cases hH;have hw:=aM i (by omega);have hx:=hz _ (Qd hi);simp [c_410_l0,c32,e0,e1,e7,e8,hi,hx,hw,h1];refine ih _ _ ?_;exact ⟨by simp [e0],by simp [e1],by simp [e7],by simp,rfl⟩
  ·rintro E ⟨objs,n⟩ K hK ⟨e0,e1,e7,e8,hH⟩;cases hH;simp [c_410_l0,e7,e8] at hK ⊢;simp [c_410_k1,hK]
 have h3:a8 Φ CK [.slice 1 (l.map c32),.func (.func mU) [] []]=some (.val (.bool false)):=by
  rw [aA rfl rfl];simp [JW,h2]
 simp [JT,h3]
theorem qxz {p:Prg} (w:PWd p) {e:Envt} (ev:EV p e):a8 Φ CB [.agg p.c,.agg e.c]=some (.val (.bool true)):=by
 rw [aA rfl rfl];simp [JR,Prg.c,Envt.ce,ev.v,ev.f,ev.m];refine gL e.Xz.length (fun i E H=>look 2 E=some (.iptr 9 [p.c] 0 0)/\look 33 E=some (.slice 1 (e.Xz.map (cS 1 c32)))/\look 34 E=some (a7 e.Xz.length)/\look 35 E=some (a7 i)/\H.objs=[]) (fun (r:Option Rt)=>r=some (.val (.bool true))) ?_ ?_ 0 _ _ (Qc _) ?_
 rotate_left 2
 ·exact ⟨by simp [Prg.c],by simp,by simp [ev.f],by simp,rfl⟩
 ·rintro i E ⟨objs,n⟩ K hi hK ⟨e2,e33,e34,e35,hH⟩ ih;cases hH;have hi2:i<p.Xo.length:=by rw [<- ev.f];exact hi
  have hw:IntKind.wrap .i64 ((i:Int)+1)=((i+1:Nat):Int):=cN (by omega) (by have:=w.hl;omega);have hg:=ev.g i hi hi2;rw [Prg.c] at e2;simp [c_398_l0,cS,Xi.c,e2,e33,e34,e35,hi,hi2,hw,hg];refine ih _ _ ?_;exact ⟨by simp [e2,Prg.c],by simp [e33],by simp [e34],by simp,rfl⟩
 ·rintro E ⟨objs,n⟩ K hK ⟨e2,e33,e34,e35,hH⟩;cases hH;simp [c_398_l0,e34,e35] at hK ⊢;simp [c_398_k1,hK]
theorem ZZ {p:Prg} (w:PWd p) {e:Envt} (ev:EV p e) (pl:e.payload.length<2^40):a8 Φ BS [.agg p.c,.agg e.c]=some (.val (a7 0)):=by
 rw [aA rfl rfl];have h1:=qxz w ev;have h2:=qv7 (p:=p) (h:= -1) (l:=e.metaF) (by rw [ev.m];exact w.ml) ev.fm;have hfl:e.Xz.length<2^40:=by rw [ev.f];exact w.hl
 have hgl:∀(i:Nat) (h:i<e.Xz.length),e.Xz[i].length<2^40:=fun i h=>by
  rw [ev.g i h (by rw [<- ev.f];exact h)];exact w.hf _ (Qd _)
 rw [Envt.ce,Prg.c] at h1;rw [Prg.c] at h2;simp [J7,Prg.c,Envt.ce,h1,h2];refine gL e.Xz.length (fun i E H=>look 2 E=some (.iptr 9 [p.c] 0 0)/\look 3 E=some (.iptr 4 [e.c] 0 0)/\look 19 E=some (.slice 1 (e.Xz.map (cS 1 c32)))/\look 20 E=some (a7 e.Xz.length)/\look 21 E=some (a7 i)/\H.objs=[]) (fun (r:Option Rt)=>r=some (.val (a7 0))) ?_ ?_ 0 _ _ (Qc _) ?_
 rotate_left 2
 ·exact ⟨by simp [Prg.c],by simp [Envt.ce],by simp,by simp,by simp,rfl⟩
 ·rintro i E ⟨objs,n⟩ K hi hK ⟨e2,e3,e19,e20,e21,hH⟩ ih;cases hH;have hw:=aM i (by omega);have hf:=qv7 (p:=p) (h:=i) (l:=e.Xz[i]) (hgl i hi) (fun k v hk=>ev.ff i k _ v (Qa hi) hk);rw [Prg.c] at e2 hf;simp [c_362_l0,cS,e2,e3,e19,e20,e21,hi,hw,hf];refine ih _ _ ?_;exact ⟨by simp [e2,Prg.c],by simp [e3],by simp [e19],by simp [e20],by simp,rfl⟩
 ·rintro E ⟨objs,n⟩ K hK ⟨e2,e3,e19,e20,e21,hH⟩;cases hH;rw [Envt.ce] at e3;simp [c_362_l0,e20,e21] at hK ⊢;simp [c_362_k3,hK,e3];refine gL e.Xz.length (fun i E H=>look 3 E=some (.iptr 4 [e.c] 0 0)/\look 33 E=some (.slice 1 (e.Xz.map (cS 1 c32)))/\look 34 E=some (a7 e.Xz.length)/\look 35 E=some (a7 i)/\H.objs=[]) (fun (r:Option Rt)=>r=some (.val (a7 0))) ?_ ?_ 0 _ _ (Qc _) ?_
  rotate_left 2
  ·exact ⟨by simp [e3,Envt.ce],by simp,by simp,by simp,rfl⟩
  ·rintro i E ⟨objs,n⟩ K hi hK ⟨e3,e33,e34,e35,hH⟩ ih;cases hH;have hw:=aM i (by omega);have hiv:i<e.valid.length:=by rw [ev.v,<- ev.f];exact hi
   rw [Envt.ce] at e3;have next:∀{E2:Env} {m:Nat},(∀j,j=3\/j=33\/j=34->look j E2=look j E)->look 35 E2=some (a7 (i+1:Nat))->_:=fun {E2 m} hE h35=>ih E2 ⟨[],m⟩ ⟨by rw [hE 3 (by simp),e3,Envt.ce],by rw [hE 33 (by simp),e33],by rw [hE 34 (by simp),e34],h35,rfl⟩
   cases q:e.valid[i] with
   | true=>
    simp [c_362_l1,cS,cB,e3,e33,e34,e35,hi,hw,hiv,q];exact next (by rintro j (rfl | rfl | rfl)<;>simp) (by simp)
   | false=>
    have hz:=D' (hgl i hi) (ev.z i _ (by rw [Qa hiv,q]) (Qa hi));simp [c_362_l1,cS,cB,e3,e33,e34,e35,hi,hw,hiv,q,hz];exact next (by rintro j (rfl | rfl | rfl)<;>simp) (by simp)
  ·rintro E ⟨objs,n⟩ K hK ⟨e3,e33,e34,e35,hH⟩;cases hH;simp [c_362_l1,e34,e35] at hK ⊢;simp [c_362_k2,hK]
theorem qw8 {p:Prg} (fs:PrgS p) (w:PWd p) (hd:∀h∈p.Xo,hdrE h=0) (hp:(depE p).2=0) {e:Envt} (ev:EV p e) (pl:e.payload.length<2^40):a8 Φ B7 [.agg p.c,.agg e.c]=some (.val (.bool true)):=by
 rw [aA rfl rfl];have hc:=qv5 p fs;have he:=ZZ w ev pl;rw [hp] at hc;rw [Prg.c] at hc he;simp [IL,Prg.c,Envt.ce,hc];refine gL p.Xo.length (fun i E h=>look 17 E=some (.slice 2 (p.Xo.map Xi.c))/\look 18 E=some (a7 p.Xo.length)/\look 19 E=some (a7 i)/\look 2 E=some (.iptr 9 [p.c] 0 0)/\look 3 E=some (.iptr 4 [e.c] 0 0)/\h.objs=[]) (fun (r:Option Rt)=>r=some (.val (.bool true))) ?_ ?_ 0 _ _ (Qc _) ?_
 rotate_left 2
 ·exact ⟨by simp,by simp,by simp,by simp [Prg.c],by simp [Envt.ce],rfl⟩
 ·rintro i E ⟨objs,n⟩ K hi hK ⟨e17,e18,e19,e2,e3,h⟩ ih;cases h;have hw:IntKind.wrap .i64 ((i:Int)+1)=((i+1:Nat):Int):=cN (by omega) (by have:=fs.h;omega);have hg:=Qd hi;generalize hx:p.Xo[i]=g at*;have hh:=P3 g (fs.hn _ hg) (fs.hf _ hg);rw [hd _ hg,Xi.c] at hh;simp [c_295_l0,Xi.c,e17,e18,e19,hi,hx,hw,hh];refine ih _ _ ?_;exact ⟨by simp [e17],by simp [e18],by simp,by simp [e2],by simp [e3],rfl⟩
 ·rintro E ⟨objs,n⟩ K hK ⟨e17,e18,e19,e2,e3,h⟩;cases h;rw [Envt.ce] at he e3;rw [Prg.c] at e2;simp [c_295_l0,e18,e19] at hK ⊢;simp [c_295_k1,hK,e2,e3,he]
def wdat (bs:List Bool):List Int:=byts (bs.length / 8) bs++(if bs.length % 8=0 then [] else [byt (bs.drop (8*(bs.length / 8)))*2^(8 - bs.length % 8)])
theorem OX:∀(m:Nat) (l:List Bool),(byts m l).length=m
 | 0,_=>rfl
 | m+1,l=>by simp [byts,OX m]
theorem Zw:∀(m:Nat) (a b:List Bool),8*m<=a.length->byts m (a++b)=byts m a
 | 0,_,_,_=>rfl
 | m+1,a,b,h=>by
  simp only [byts];rw [List.take_append_of_le_length (by omega),List.drop_append_of_le_length (by omega),Zw m _ _ (by rw [U9];omega)]
theorem Ym:∀(m:Nat) (l:List Bool),byts (m+1) l=byts m l++[byt ((l.drop (8*m)).take 8)]
 | 0,l=>by simp [byts]
 | m+1,l=>by
  rw [byts,Ym m,byts];simp only [n9,GK];rw [show 8+8*m=8*(m+1) by omega]
theorem YL (l:List Bool) (b:Bool):byt (l++[b])=2*byt l+b2i b:=by simp [byt,List.foldl_append]
theorem qy5 (b:Bool):0<=b2i b/\b2i b<=1:=by cases b<;>simp [b2i]
theorem qv0:∀(l:List Bool) (a:Int),0<=a->0<=l.foldl (fun n b=>2*n+b2i b) a/\l.foldl (fun n b=>2*n+b2i b) a<(a+1)*2^l.length
 | [],a,h=>by simp;omega
 | b::l,a,h=>by
  have hb:=qy5 b;have ih:=qv0 l (2*a+b2i b) (by omega);refine ⟨ih.1,Int.lt_of_lt_of_le ih.2 ?_⟩;rw [EW,Int.pow_succ,show (a+1)*(2^l.length*2)=(2*a+2)*2^l.length by rw [Int.mul_comm (2^l.length) 2,<- Int.mul_assoc];congr 1;omega];exact Int.mul_le_mul_of_nonneg_right (by omega) (GL (OR _))
theorem Eo (l:List Bool):0<=byt l/\byt l<2^l.length:=by
 have:=qv0 l 0 (by omega);simpa [byt] using this
theorem YM:∀k:Fin 8,∀v:Fin 128,∀b:Fin 2,v.1<2^k.1->ior .u8 (((v.1*2^(8 - k.1):Nat):Int)) (ishl .u8 ((b.1:Nat):Int) (7 - ((k.1:Nat):Int)))=(((2*v.1+b.1)*2^(7 - k.1):Nat):Int):=by decide+kernel
theorem Ep {k:Nat} (hk:k<8) {v b:Int} (hv:0<=v/\v<2^k) (hb:0<=b/\b<=1):ior .u8 (v*2^(8 - k)) (ishl .u8 b (7 - (k:Int)))=(2*v+b)*2^(7 - k):=by
 obtain ⟨n,rfl⟩:=nU hv.1;obtain ⟨c,rfl⟩:=nU hb.1;have h1:n<2^k:=by have:=hv.2;rw [<- qS] at this;omega
 have h2:2^k<=2^7:=DV (by decide) (by omega);have:=YM ⟨k,hk⟩ ⟨n,by omega⟩ ⟨c,by omega⟩ h1;simp only [Int.natCast_mul,Int.natCast_add,qS] at this;exact this
theorem KE (bs:List Bool):(wdat bs).length=(bs.length+7) / 8:=by
 unfold wdat;rw [qM,OX];split<;>simp<;>omega
theorem qut:wdat []=[]:=by simp [wdat,byts]
def D9 (bs:List Bool):Int:=byt (bs.drop (8*(bs.length / 8)))
theorem Z3 (bs:List Bool):0<=D9 bs/\D9 bs<2^(bs.length % 8):=by
 have:=Eo (bs.drop (8*(bs.length / 8)));rw [U9,show bs.length - 8*(bs.length / 8)=bs.length % 8 by omega] at this;exact this
theorem Zm (bs:List Bool) (b:Bool):wdat (bs++[b])=byts (bs.length / 8) bs++[(2*D9 bs+b2i b)*2^(7 - bs.length % 8)]:=by
 have e1:=Zw (bs.length / 8) bs [b] (by omega);have e2:byt ((bs++[b]).drop (8*(bs.length / 8)))=2*D9 bs+b2i b:=by
  rw [List.drop_append_of_le_length (by omega),YL];rfl
 unfold wdat;rw [qM,List.length_singleton];by_cases z:(bs.length+1) % 8=0
 ·rw [a9 z,PV,show (bs.length+1) / 8=bs.length / 8+1 by omega,Ym,e1,Qo (by rw [U9,qM,List.length_singleton];omega),e2,show 7 - bs.length % 8=0 by omega];simp
 ·rw [QA z,show (bs.length+1) / 8=bs.length / 8 by omega,e1,e2,show 8 - (bs.length+1) % 8=7 - bs.length % 8 by omega]
def wpre (bs:List Bool):List Int:=byts (bs.length / 8) bs++[D9 bs*2^(8 - bs.length % 8)]
theorem Jo (bs:List Bool):wpre bs=if bs.length % 8=0 then wdat bs++[0] else wdat bs:=by
 unfold wpre wdat;split
 ·rename_i z;have:bs.drop (8*(bs.length / 8))=[]:=List.drop_eq_nil_of_le (by omega);simp [D9,this,byt]
 ·rfl
theorem Dk (bs:List Bool):(wpre bs).length=bs.length / 8+1:=by simp [wpre,OX]
theorem Dj (bs:List Bool) (h:bs.length / 8<(wpre bs).length):(wpre bs)[bs.length / 8]=D9 bs*2^(8 - bs.length % 8):=by
 simp [wpre,OX]
theorem Dl (bs:List Bool) (b:Bool):(wpre bs).set (bs.length / 8) ((2*D9 bs+b2i b)*2^(7 - bs.length % 8))=wdat (bs++[b]):=by
 rw [Zm,wpre,List.set_append_right _ _ (by rw [OX];exact Qb _),OX,Nat.sub_self];rfl
theorem OK (v:Int):∀w,(jK v w).length=w
 | 0=>rfl
 | w+1=>by simp [jK,OK v w]
theorem Yl (v:Int):∀(w i:Nat) (h:i<(jK v w).length),(jK v w)[i]=decide (v / 2^(w - 1 - i) % 2=1)
 | 0,i,h=>by simp [jK] at h
 | w+1,0,_=>rfl
 | w+1,i+1,h=>by
  simp only [jK,List.getElem_cons_succ];rw [Yl v w i,show w+1 - 1 - (i+1)=w - 1 - i by omega]
end Go.Av
