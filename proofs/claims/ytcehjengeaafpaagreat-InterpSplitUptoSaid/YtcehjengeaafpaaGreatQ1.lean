/-
 Tables: kinds, widths and the actions that they allow, on both sides.
-/
import Derived.Test.YtcehjengeaafpaaGreatK16
set_option linter.unusedVariables false
set_option linter.unusedSimpArgs false
set_option linter.constructorNameAsVariable false
namespace Go.Av
set_option maxRecDepth 4000
def tOk (p:Prg) (t:Int):Bool:=decide ((tblE p t).2=0)
theorem keyV {p:Prg} {x:Tbl} (h:keyE p x=none):∀k∈x.keys,k.kind=1\/k.kind=2\/k.kind=3:=by
 intro k hk;obtain ⟨i,hi,rfl⟩:=List.getElem_of_mem hk;have:=(fe_all.1 h) i hi;simp [hi] at this;split at this
 ·cases this
 ·split at this
  ·assumption
  ·cases this
structure TOk (p:Prg) (k:Nat) (hk:k<p.Xm.length):Prop where
 keys:p.Xm[k].keys.length<=6
 acts:p.Xm[k].Xx.length<=16
 kinds:∀x∈p.Xm[k].keys,x.kind=1\/x.kind=2\/x.kind=3
 size:1<=p.Xm[k].size/\p.Xm[k].size<=256
theorem OS {p:Prg} {t:Int} (h:tOk p t=true):∃(k:Nat) (hk:k<p.Xm.length),t=k/\TOk p k hk:=by
 simp only [tOk,decide_eq_true_eq] at h;by_cases i0:t<0
 ·simp [tblE,gC i0] at h
 by_cases i1:(p.Xm.length:Int)<=t
 ·simp [tblE,iJ i1] at h
 obtain ⟨k,rfl⟩:∃k:Nat,t=k:=⟨t.toNat,by omega⟩;have hk:k<p.Xm.length:=by omega
 refine ⟨k,hk,rfl,?_⟩;unfold tblE at h;rw [nK,Qa hk] at h;dsimp only at h;by_cases z0:idS p.Xm[k].name=false
 ·rw [a8 z0] at h;cases h
 rw [QA z0] at h;by_cases z1:6<p.Xm[k].keys.length\/16<p.Xm[k].Xx.length
 ·rw [a8 z1] at h;cases h
 rw [QA z1] at h;by_cases z2:p.Xm[k].size<1\/256<p.Xm[k].size
 ·rw [a8 z2] at h;cases h
 rw [QA z2] at h;by_cases z3:(AF p p.Xm[k]).2≠0
 ·rw [a8 z3] at h;exact absurd h z3
 refine ⟨by omega,by omega,?_,by omega⟩;unfold AF at z3;cases q:keyE p p.Xm[k] with
 | none=>exact keyV q
 | some e=>
  exfalso;rw [q] at z3;dsimp only at z3;obtain ⟨i,hi,hx⟩:=Eb q;simp only [Qt] at hx;obtain ⟨y,_,hy⟩:=hx;split at hy
  ·cases hy;exact z3 (by simp)
  ·split at hy
   ·cases hy
   ·cases hy;exact z3 (by simp)
theorem Cm (p:Prg) (f:PrgS p) (t:Int):aB Φ pL [.agg (Prg.c p),a7 t]=some (.val (.bool (tOk p t))):=by
 rw [aD rfl rfl];have h:=Ep p f t;simp only [Prg.e] at h;simp [C6,Prg.e,h,tOk]
def kMax:List Xk->Int->Int
 | [],a=>a
 | k::r,a=>kMax r (max a k.kind)
def IR (p:Prg) (t:Int):Int:=if tOk p t then (match at? p.Xm t with
 | some x=>kMax x.keys 1
 | none=>0) else 0
theorem Oe:∀(l:List Xk) (a:Int),a=3->(∀x∈l,x.kind=1\/x.kind=2\/x.kind=3)->kMax l a=3
 | [],a,h,_=>h
 | k::r,a,h,hk=>by
  subst h;have:=hk k (by simp);simp only [kMax];exact Oe r _ (by omega) fun x hx=>hk x (by simp [hx])
theorem SI (p:Prg) (f:PrgS p) (t:Int):aB Φ tU [.agg (Prg.c p),a7 t]=some (.val (a7 (IR p t))):=by
 rw [aD rfl rfl];have h:=Cm p f t;simp only [Prg.e] at h;cases q:tOk p t with
 | false=>
  rw [q] at h;simp [sH,Prg.e,h,IR,q]
 | true=>
 rw [q] at h;obtain ⟨k,hk,rfl,o⟩:=OS q;have hK:IR p (k:Int)=kMax p.Xm[k].keys 1:=by simp [IR,q,hk]
 rw [hK];have hb:=o.keys;simp [sH,Prg.e,h,hk,Tbl.e];refine eS p.Xm[k].keys.length (fun _=>[]) 0 (fun i e=>look 17 e=some (.slice 3 (p.Xm[k].keys.map Xk.c))/\look 18 e=some (a7 p.Xm[k].keys.length)/\look 19 e=some (a7 i)/\∃a:Int,look 5 e=some (a7 a)/\(a=1\/a=2)/\kMax (p.Xm[k].keys.drop i) a=kMax p.Xm[k].keys 1)
  (fun _=>some (Rt.val (a7 (kMax p.Xm[k].keys 1)))) ?_ ?_ 0 _ 0 (Qc _) (Qb _) ?_
 ·rintro i e n L hi hL _ ⟨h17,h18,h19,a,h5,ha,hm⟩ ih;have hw:=aP i (by omega);rw [Qi hi] at hm;simp only [kMax] at hm;have hkk:=o.kinds _ (Qd hi);by_cases k3:p.Xm[k].keys[i].kind=3
  ·have:kMax p.Xm[k].keys 1=3:=by
    rw [<- hm];exact Oe _ _ (by omega) fun x hx=>o.kinds x (yA hx)
   rw [this];simp [c_142_l0,Xk.e,h17,h18,h19,hi,k3]
  by_cases k2:p.Xm[k].keys[i].kind=2
  ·simp [c_142_l0,Xk.e,h17,h18,h19,hi,k2,hw];exact ih _ _ (Qc _) ⟨by simp [h17],by simp [h18],by simp,2,by simp,.inr rfl,by rw [<- hm];congr 1;omega⟩
  ·simp [c_142_l0,Xk.e,h17,h18,h19,hi,k3,k2,hw];exact ih _ _ (Qc _) ⟨by simp [h17],by simp [h18],by simp,a,by simp [h5],ha,by rw [<- hm];congr 1;omega⟩
 ·rintro e n L hL _ ⟨h17,h18,h19,a,h5,ha,hm⟩;rw [B8] at hm;simp only [kMax] at hm;rw [<- hm];simp [c_142_l0,c_142_k1,h5,h18,h19,hL]
 ·simp
theorem Ie (p:Prg) (f:PrgS p) (k:Nat) (hk:k<p.Xm.length) (q:tOk p k=true):aB Φ lW [.agg (Prg.c p),a7 k]=some (.val (.slice 1 ((kWid p p.Xm[k]).map cI))):=by
 rw [aD rfl rfl];have h:=Cm p f k;rw [q] at h;simp only [Prg.e] at h;obtain ⟨k',hk',e,o⟩:=OS q;obtain rfl:k=k':=by omega
 have hb:=o.keys;have e0:(kWid p p.Xm[k]).map cI=p.Xm[k].keys.map fun y=>[a7 (wid p y.field.header y.field.field)]:=by simp [kWid,cI]
 rw [e0];simp [BH,Prg.e,h,hk,Tbl.e];refine (eS p.Xm[k].keys.length (fun i=>[(0,.tok 1 i)]) 1 (fun i e=>look 2 e=some (.iptr 9 [Prg.c p] 0 0)/\look 5 e=some (.app 1 ((p.Xm[k].keys.map fun y=>[a7 (wid p y.field.header y.field.field)]).take i) 0)/\look 17 e=some (.slice 3 (p.Xm[k].keys.map Xk.c))/\look 18 e=some (a7 p.Xm[k].keys.length)/\look 19 e=some (a7 i))
  (fun _=>some (Rt.val (.slice 1 (p.Xm[k].keys.map fun y=>[a7 (wid p y.field.header y.field.field)])))) ?_ ?_ 0 _ 1 (Qc _) (Qb _) ?_).trans (by simp)
 ·rintro i e n L hi hL hn ⟨h2,h5,h17,h18,h19⟩ ih;have hw:=aP i (by omega);have hv:=IP p p.Xm[k].keys[i].field.header p.Xm[k].keys[i].field.field;simp only [Prg.e] at hv;rw [Prg.e] at h2;have hn0:¬(0=n):=by omega
  have hn1:¬(n=0):=by omega
  have hm:min i p.Xm[k].keys.length=i:=by omega
  have hb:(i+1)*8<=70368744177664:=by omega
  simp [c_140_l0,Xk.e,h2,h5,h17,h18,h19,hi,hw,hn0,hm,hb,hv];exact ih _ _ (by omega) ⟨by simp [h2,Prg.e],by simp [DX hi],by simp [h17],by simp [h18],by simp⟩
 ·rintro e n L hL hn ⟨h2,h5,h17,h18,h19⟩;simp [c_140_l0,c_140_k1,h5,h18,h19,hL]
 ·simp [Prg.e]
def tAl (p:Prg) (t a:Int):Bool:=tOk p t&&(match at? p.Xm t with
 | some x=>x.Xx.any fun s=>decide (s=a)
 | none=>false)
theorem Ib (p:Prg) (f:PrgS p) (t a:Int):aB Φ p7 [.agg (Prg.c p),a7 t,a7 a]=some (.val (.bool (tAl p t a))):=by
 rw [aD rfl rfl];have h:=Cm p f t;simp only [Prg.e] at h;cases q:tOk p t with
 | false=>
  rw [q] at h;simp [sI,Prg.e,h,tAl,q]
 | true=>
 rw [q] at h;obtain ⟨k,hk,rfl,o⟩:=OS q;have hK:tAl p (k:Int) a=p.Xm[k].Xx.any fun s=>decide (s=a):=by simp [tAl,q,hk]
 rw [hK];have hb:=o.acts;simp [sI,Prg.e,h,hk,Tbl.e];refine (eS p.Xm[k].Xx.length (fun _=>[]) 0 (fun i e=>look 2 e=some (a7 a)/\look 18 e=some (.slice 1 (p.Xm[k].Xx.map cI))/\look 19 e=some (a7 p.Xm[k].Xx.length)/\look 20 e=some (a7 i))
  (fun i=>some (Rt.val (.bool ((p.Xm[k].Xx.drop i).any fun s=>decide (s=a))))) ?_ ?_ 0 _ 0 (Qc _) (Qb _) ?_).trans (by simp)
 ·rintro i e n L hi hL _ ⟨h2,h18,h19,h20⟩ ih;have hw:=aP i (by omega);rw [Qi hi,F7];by_cases z:p.Xm[k].Xx[i]=a
  ·generalize hX:some (Rt.val (AV.bool (decide (p.Xm[k].Xx[i]=a) || (p.Xm[k].Xx.drop (i+1)).any fun s=>decide (s=a))))=X;simp [c_143_l0,cI,h2,h18,h19,h20,hi,z];rw [<- hX];simp [z]
  ·rw [show (decide (p.Xm[k].Xx[i]=a) || (p.Xm[k].Xx.drop (i+1)).any fun s=>decide (s=a))=(p.Xm[k].Xx.drop (i+1)).any fun s=>decide (s=a) by simp [z]];generalize hX:some (Rt.val (AV.bool ((p.Xm[k].Xx.drop (i+1)).any fun s=>decide (s=a))))=X;simp [c_143_l0,cI,h2,h18,h19,h20,hi,z,hw];rw [<- hX];exact ih _ _ (Qc _) ⟨by simp [h2],by simp [h18],by simp [h19],by simp⟩
 ·rintro e n L hL _ ⟨h2,h18,h19,h20⟩;simp [c_143_l0,c_143_k1,h19,h20,hL]
 ·simp
def pmI (n k:Nat):Int:=2^k - 2^(k - n)
theorem ZK:∀k:Nat,k<33->∀n:Nat,n<33->n<=k->GC .u32 (2^k - 1) (ishr .u32 (2^k - 1) (n:Int))=pmI n k:=by decide+kernel
theorem SL (n k:Nat) (h:n<=k) (h1:1<=k) (h2:k<=32):aB Φ uX [a7 n,a7 k]=some (.val (.int .u32 (pmI n k))):=by
 rw [aD rfl rfl];have hv:=NG k;have hm:=gH k;have hw:wBad (k:Int)=false:=wBad_false.2 ⟨by omega,by omega⟩;have hM:cP (k:Int)=2^k - 1:=by simp [cP,hw]
 rw [hw] at hv;rw [hM] at hm;have hp:=ZK k (by omega) n (by omega) h;have n1:¬((n:Int)<0):=by omega
 have n2:¬((k:Int)<n):=by omega
 simp [CY,hv,hm,n1,n2];exact hp
def plG (m:Int) (k:Nat) (n:Nat):Option Int:=if pmI n k=m then some (n:Int) else none
def plE (m w:Int):Option Int:=if wBad w then none else fe (plG m w.toNat) (w.toNat+1) 0
def plV (o:Option Int):Rt:= .val (.tup [a7 (o.getD 0),.bool o.isSome])
theorem VE (m w:Int):aB Φ uD [.int .u32 m,a7 w]=some (plV (plE m w)):=by
 rw [aD rfl rfl];have hv:=NG w;cases q:wBad w with
 | true=>
  rw [q] at hv;simp [sW,hv,plE,q,plV]
 | false=>
 rw [q] at hv;obtain ⟨w1,w2⟩:=wBad_false.1 q;obtain ⟨k,rfl⟩:∃k:Nat,w=k:=⟨w.toNat,by omega⟩;have hw1:=aP k (by omega);have hE:plE m (k:Int)=fe (plG m k) (k+1) 0:=by simp [plE,q]
 rw [hE];simp [sW,hv,hw1];refine eS (k+1) (fun _=>[]) 0 (fun i e=>look 0 e=some (.int .u32 m)/\look 1 e=some (a7 k)/\look 12 e=some (a7 ((k:Int)+1))/\look 13 e=some (a7 i))
  (fun i=>some (plV (fe (plG m k) (k+1) i))) ?_ ?_ 0 _ 0 (Qc _) (Qb _) ?_
 ·rintro i e n L hi hL _ ⟨h0,h1,h12,h13⟩ ih;have hw:=aP i (by omega);have hp:=SL i k (by omega) (by omega) (by omega);have hlt:(i:Int)<(k:Int)+1:=by omega
  by_cases z:pmI i k=m
  ·rw [bS (x:=(i:Int)) hi (by simp [plG,z])];subst z;simp [c_242_l0,h0,h1,h12,h13,hp,hlt,plV]
  ·rw [fI hi (by simp [plG,z])];generalize hX:some (plV (fe (plG m k) (k+1) (i+1)))=X;simp [c_242_l0,h0,h1,h12,h13,hp,hlt,z,hw];rw [<- hX];exact ih _ _ (Qc _) ⟨by simp [h0],by simp [h1],by simp [h12],by simp⟩
 ·rintro e n L hL _ ⟨h0,h1,h12,h13⟩;rw [gM];simp [c_242_l0,c_242_k1,h12,h13,hL,plV]
 ·simp
theorem Xh.ce (m:Xh):Xh.c m=[.int .u32 m.value,.int .u32 m.Yd]:=by simp [Xh.c]
def keyK (m:Xh) (kind w:Int):Int:=
 if fits m.value w=false\/fits m.Yd w=false then 9
 else if m.value.toNat&&& m.Yd.toNat≠m.value.toNat then 5
 else if kind=1/\m.Yd≠cP w then 11
 else if kind=2/\(plE m.Yd w).isSome=false then 11 else 0
theorem V4 (m:Xh) (kind w:Int) (h1:ok32 0 m.value) (h2:ok32 0 m.Yd):aB Φ tT [.agg (Xh.c m),a7 kind,a7 w]=some (.val (a7 (keyK m kind w))):=by
 rw [aD rfl rfl];have f1:=IC m.value w;have f2:=IC m.Yd w;have hm:=gH w;have hp:=VE m.Yd w;have ha:=Gh h1 h2;unfold keyK;cases q1:fits m.value w with
 | false=>rw [q1] at f1;simp [eT,Xh.ce,f1]
 | true=>
 rw [q1] at f1;cases q2:fits m.Yd w with
 | false=>rw [q2] at f2;simp [eT,Xh.ce,f1,f2]
 | true=>
 rw [q2] at f2;by_cases z:GC .u32 m.value m.Yd=0
 rotate_left
 ·have z':¬(m.value.toNat&&& m.Yd.toNat=m.value.toNat):=fun h=>z (ha.2 h)
  simp [eT,Xh.ce,f1,f2,z,z']
 have z':=ha.1 z;by_cases k1:kind=1
 ·subst k1;by_cases y:m.Yd=cP w
  ·rw [y] at f2 z z';simp [eT,Xh.ce,f1,f2,z,z',hm,y]
  ·simp [eT,Xh.ce,f1,f2,z,z',hm,y]
 by_cases k2:kind=2
 ·subst k2;cases y:plE m.Yd w with
  | none=>rw [y] at hp;simp [plV] at hp;simp [eT,Xh.ce,f1,f2,z,z',hp]
  | some x=>rw [y] at hp;simp [plV] at hp;simp [eT,Xh.ce,f1,f2,z,z',hp]
 simp [eT,Xh.ce,f1,f2,z,z',k1,k2]
structure EntS (x:Entry):Prop where
 kl:x.keys.length<2^40
 ks:∀m∈x.keys,ok32 0 m.value/\ok32 0 m.Yd
 al:x.call.args.length<2^40
 ar:∀v∈x.call.args,ok32 0 v
def entF (p:Prg) (t:Int) (x:Entry):Int:=if x.Xs<0 then 9 else if 255<x.Xs then 9 else if x.Xs≠0/\IR p t≠3 then 11 else if tAl p t x.call.Xy=false then 8 else kZ p x.call
def entG (p:Prg) (tb:Tbl) (x:Entry) (i:Nat):Option Int:=match x.keys[i]?,tb.keys[i]? with
 | some m,some k=>if keyK m k.kind (wid p k.field.header k.field.field)=0 then none else some (keyK m k.kind (wid p k.field.header k.field.field))
 | _,_=>none
def entE (p:Prg) (t:Int) (x:Entry):Int:=if (tblE p t).2≠0 then (tblE p t).2 else match at? p.Xm t with
 | some tb=>if x.keys.length≠tb.keys.length then 2 else (fe (entG p tb x) tb.keys.length 0).getD (entF p t x)
 | none=>0
theorem V8 (p:Prg) (f:PrgS p) (t:Int) (x:Entry) (s:EntS x) (e:Env) (n:Nat) (h1:look 1 e=some (a7 t)) (h3:look 3 e=some (.iptr 9 [Prg.c p] 0 0)) (h5:look 5 e=some (.iptr 4 [Entry.c x] 0 0)):
  go Φ (finP [.tmp 6]) [.c c_74_k1] .normal ⟨e,⟨[],n⟩⟩=some (.val (a7 (entF p t x))):=by
 have hk:=SI p f t;have ha:=Ib p f t x.call.Xy;have hc:=NQ p f x.call s.al;simp only [Prg.e,Xb.ce] at hk ha hc;rw [Prg.e] at h3;rw [Entry.ce] at h5;unfold entF;by_cases p0:x.Xs<0
 ·simp [c_74_k1,h5,p0]
 by_cases p1:255<x.Xs
 ·simp [c_74_k1,h5,p0,p1]
 by_cases p2:x.Xs=0
 ·cases q:tAl p t x.call.Xy with
  | false=>rw [q] at ha;simp [c_74_k1,h1,h3,h5,p2,ha]
  | true=>rw [q] at ha;simp [c_74_k1,h1,h3,h5,p2,ha,hc]
 by_cases p3:IR p t=3
 ·cases q:tAl p t x.call.Xy with
  | false=>rw [q] at ha;simp [c_74_k1,h1,h3,h5,p0,p1,p2,p3,hk,ha]
  | true=>rw [q] at ha;simp [c_74_k1,h1,h3,h5,p0,p1,p2,p3,hk,ha,hc]
 ·simp [c_74_k1,h1,h3,h5,p0,p1,p2,p3,hk]
theorem V7 (p:Prg) (f:PrgS p) (t:Int) (x:Entry) (s:EntS x):aB Φ FU [.agg (Prg.c p),a7 t,.agg (Entry.c x)]=some (.val (a7 (entE p t x))):=by
 rw [aD rfl rfl];have h:=Ep p f t;simp only [Prg.e] at h;by_cases z:(tblE p t).2=0
 rotate_left
 ·simp [zL,Prg.e,Entry.ce,h,z,entE]
 have q:tOk p t=true:=by simp [tOk,z]
 obtain ⟨k,hk,rfl,o⟩:=OS q;have hw:=Ie p f k hk q;simp only [Prg.e] at hw;have hb:=o.keys;by_cases y:x.keys.length=p.Xm[k].keys.length
 rotate_left
 ·simp [zL,Prg.e,Entry.ce,Tbl.e,hk,h,z,hw,y,entE]
 have hE:entE p (k:Int) x=(fe (entG p p.Xm[k] x) p.Xm[k].keys.length 0).getD (entF p k x):=by simp [entE,z,hk,y]
 rw [hE];simp [zL,Prg.e,Entry.ce,Tbl.e,hk,h,z,hw,y];refine eS p.Xm[k].keys.length (fun _=>[]) 0 (fun i e=>look 1 e=some (a7 k)/\look 3 e=some (.iptr 9 [Prg.c p] 0 0)/\look 5 e=some (.iptr 4 [Entry.c x] 0 0)/\look 9 e=some (.slice 3 (p.Xm[k].keys.map Xk.c))/\look 10 e=some (.slice 1 ((kWid p p.Xm[k]).map cI))/\look 39 e=some (.slice 2 (x.keys.map Xh.c))/\look 40 e=some (a7 p.Xm[k].keys.length)/\look 41 e=some (a7 i))
  (fun i=>some (Rt.val (a7 ((fe (entG p p.Xm[k] x) p.Xm[k].keys.length i).getD (entF p k x))))) ?_ ?_ 0 _ 0 (Qc _) (Qb _) ?_
 ·rintro i e n L hi hL _ ⟨h1,h3,h5,h9,h10,h39,h40,h41⟩ ih;have hi2:i<x.keys.length:=by omega
  have hi3:i<(kWid p p.Xm[k]).length:=by simp [kWid];exact hi
  have hkw:(kWid p p.Xm[k])[i]=wid p p.Xm[k].keys[i].field.header p.Xm[k].keys[i].field.field:=by simp [kWid]
  have hw:=aP i (by omega);have hm:=s.ks _ (Qd hi2);have hc:=V4 x.keys[i] p.Xm[k].keys[i].kind (wid p p.Xm[k].keys[i].field.header p.Xm[k].keys[i].field.field) hm.1 hm.2;simp only [Xh.ce] at hc;by_cases v:keyK x.keys[i] p.Xm[k].keys[i].kind (wid p p.Xm[k].keys[i].field.header p.Xm[k].keys[i].field.field)=0
  ·rw [fI hi (by simp [entG,hi,hi2,v])];rw [v] at hc;generalize hX:some (Rt.val (a7 ((fe (entG p p.Xm[k] x) p.Xm[k].keys.length (i+1)).getD (entF p k x))))=X;simp [c_74_l0,Xk.e,Xh.ce,cI,h9,h10,h39,h40,h41,hi,hi2,hi3,hkw,hc,hw];rw [<- hX];exact ih _ _ (Qc _) ⟨by simp [h1],by simp [h3],by simp [h5],by simp [h9],by simp [h10],by simp [h39],by simp [h40],by simp⟩
  ·rw [bS (x:=keyK x.keys[i] p.Xm[k].keys[i].kind (wid p p.Xm[k].keys[i].field.header p.Xm[k].keys[i].field.field)) hi (by simp [entG,hi,hi2,v])];simp [c_74_l0,Xk.e,Xh.ce,cI,h9,h10,h39,h40,h41,hi,hi2,hi3,hkw,hc,v]
 ·rintro e n L hL _ ⟨h1,h3,h5,h9,h10,h39,h40,h41⟩;rw [gM];simp [c_74_l0,h40,h41,hL];exact V8 p f k x s _ _ (by simp [h1]) (by simp [h3]) (by simp [h5])
 ·simp [Prg.e,Entry.ce]
def kK (p:Prg) (t:Int) (c:Xb):Int:=if tAl p t c.Xy=false then 8 else kZ p c
theorem SX (p:Prg) (f:PrgS p) (t:Int) (c:Xb) (hc:c.args.length<2^40):aB Φ tX [.agg (Prg.c p),a7 t,.agg (Xb.c c)]=some (.val (a7 (kK p t c))):=by
 rw [aD rfl rfl];have ha:=Ib p f t c.Xy;have hk:=NQ p f c hc;simp only [Prg.e,Xb.ce] at ha hk;cases q:tAl p t c.Xy with
 | false=>rw [q] at ha;simp [sJ,Prg.e,Xb.ce,ha,kK,q]
 | true=>rw [q] at ha;simp [sJ,Prg.e,Xb.ce,ha,hk,kK,q]
def sk (x y:Entry):Bool:=decide (x.keys=y.keys/\x.Xs=y.Xs)
theorem YS (x y:Entry) (hb:x.keys.length<2^40):aB Φ zR [.agg [.slice 2 (x.keys.map Xh.c),a7 x.Xs,a7 x.call.Xy,.slice 1 (x.call.args.map c32)],.agg [.slice 2 (y.keys.map Xh.c),a7 y.Xs,a7 y.call.Xy,.slice 1 (y.call.args.map c32)]]=some (.val (.bool (sk x y))):=qty _ _ _ _ _ _ hb
theorem YP (x r:Rw) (hb:x.entry.keys.length<2^40):aB Φ i8 [.agg (Rw.c x),.iptr 5 [Rw.c r] 0 0]=some (.val (.bool (sk x.entry r.entry))):=by
 rw [aD rfl rfl];have h:=YS x.entry r.entry hb;simp [BJ,Rw.ce,h]
theorem qy6 (l:List Rw) (r:Rw) (hl:l.length<2^40) (hs:∀x∈l,x.entry.keys.length<2^40):aB Φ tV [.slice 5 (l.map Rw.c),.func (.func i8) [] [.iptr 5 [Rw.c r] 0 0]]=some (.val (a7 (ix (fun x=>sk x.entry r.entry) l 0))):=by
 rw [aD rfl rfl];simp [BI];refine (mQ l.length (fun i e=>look 0 e=some (.slice 5 (l.map Rw.c))/\look 1 e=some (.func (.func i8) [] [.iptr 5 [Rw.c r] 0 0])/\look 7 e=some (a7 l.length)/\look 8 e=some (a7 i))
  (fun i=>some (.val (a7 (ix (fun x=>sk x.entry r.entry) l i)))) ?_ ?_ 0 _ (Qc _) ?_).trans (by simp)
 ·rintro i e L hi hL ⟨h0,h1,h7,h8⟩ ih;have hw:=aP i (by omega);have hd:=YP l[i] r (hs _ (Qd hi));simp only [Rw.ce] at hd h1;cases z:sk l[i].entry r.entry with
  | true=>
   rw [KZ hi (by simpa using z)];rw [z] at hd;simp [c_145_l0,Rw.ce,h0,h1,h7,h8,hi,hd]
  | false=>
   rw [KS hi (by simpa using z)];rw [z] at hd;simp [c_145_l0,Rw.ce,h0,h1,h7,h8,hi,hd,hw];exact ih _ ⟨by simp [h0],by simp [h1,Rw.ce],by simp [h7],by simp⟩
 ·rintro e L hL ⟨h0,h1,h7,h8⟩;rw [KY];simp [c_145_l0,c_145_k1,h7,h8,hL]
 ·simp
theorem qye (l:List Rw) (r:Rw) (hl:l.length<2^40) (hs:∀x∈l,x.entry.keys.length<2^40):aB Φ zQ [.slice 5 (l.map Rw.c),.func (.func i8) [] [.iptr 5 [Rw.c r] 0 0]]=some (.val (.bool (l.any fun x=>sk x.entry r.entry))):=by
 rw [aD rfl rfl];have h:=qy6 l r hl hs;rw [<- OQ];simp [JA,h]
def ordL:List Rw->Int->Option Int
 | [],a=>some a
 | r::l,a=>if r.id<=a then none else ordL l r.id
def rowG (p:Prg) (t:Int) (l:List Rw) (i:Nat):Option Int:=(l[i]?).bind fun r=>if entE p t r.entry≠0 then some (entE p t r.entry) else if (l.take i).any (fun y=>sk y.entry r.entry)=true then some 7 else none
def tabK (p:Prg) (t:Int) (l:List Rw) (next:Int) (z:Int):Option Int->Int
 | none=>14
 | some a=>if next<=a then 14 else if 1073741824<next then 14 else (fe (rowG p t l) l.length 0).getD z
def rowS (r:Rw):Prop:=EntS r.entry
theorem ct_b (p:Prg) (f:PrgS p) (t:Int) (l:List Rw) (next:Int) (d:Xb) (hl:l.length<2^40) (hs:∀r∈l,rowS r) (hd:d.args.length<2^40) (a:Int) (ha:0<=a) (e:Env) (n:Nat)
  (h1:look 1 e=some (a7 t)) (h2:look 2 e=some (.slice 5 (l.map Rw.c))) (h3:look 3 e=some (a7 next)) (h5:look 5 e=some (.iptr 9 [Prg.c p] 0 0)) (h9:look 9 e=some (.iptr 2 [Xb.c d] 0 0)) (h11:look 11 e=some (a7 a)):
  go Φ (finP [.tmp 10]) [.c c_100_k3] .normal ⟨e,⟨[],n⟩⟩=some (.val (a7 (tabK p t l next (kK p t d) (some a)))):=by
 unfold tabK;dsimp only;by_cases z0:next<=a
 ·simp [c_100_k3,h3,h11,z0]
 have z1:¬next<1:=by omega
 by_cases z2:1073741824<next
 ·simp [c_100_k3,h3,h11,z0,z1,z2]
 rw [QA z0,QA z2];simp [c_100_k3,h2,h3,h11,z0,z1,z2];refine eS l.length (fun _=>[]) 0 (fun i e=>look 1 e=some (a7 t)/\look 2 e=some (.slice 5 (l.map Rw.c))/\look 5 e=some (.iptr 9 [Prg.c p] 0 0)/\look 9 e=some (.iptr 2 [Xb.c d] 0 0)/\look 50 e=some (.slice 5 (l.map Rw.c))/\look 51 e=some (a7 l.length)/\look 52 e=some (a7 i))
  (fun i=>some (Rt.val (a7 ((fe (rowG p t l) l.length i).getD (kK p t d))))) ?_ ?_ 0 _ n (Qc _) (Qc _) ?_
 ·rintro i e n L hi hL _ ⟨h1,h2,h5,h9,h50,h51,h52⟩ ih;have hw:=aP i (by omega);have hm:=hs _ (Qd hi);have hc:=V7 p f t l[i].entry hm;have hi':i<=l.length:=by omega
  have hx:aB Φ zQ [.slice 5 ((l.map Rw.c).take i),.func (.func i8) [] [.iptr 5 [Rw.c l[i]] 0 0]]=some (.val (.bool ((l.take i).any fun x=>sk x.entry l[i].entry))):=by
   rw [<- zI];exact qye (l.take i) l[i] (by simp;omega) fun x hx=>(hs x (Qu hx)).kl
  simp only [Prg.e,Entry.ce] at hc;rw [Rw.ce] at hx;rw [Prg.e] at h5;by_cases v:entE p t l[i].entry=0
  ·rw [v] at hc;cases w:(l.take i).any fun x=>sk x.entry l[i].entry with
   | true=>
    rw [w] at hx;rw [bS (x:=(7:Int)) hi (by simp only [rowG,Qa hi,gI];rw [QA (by simp [v]),a8 w])];simp [c_100_l1,Rw.ce,h1,h2,h5,h50,h51,h52,hi,hi',hc,hx]
   | false=>
    rw [w] at hx;rw [fI hi (by simp only [rowG,Qa hi,gI];rw [QA (by simp [v]),QA (by rw [w];decide)])];generalize hX:some (Rt.val (a7 ((fe (rowG p t l) l.length (i+1)).getD (kK p t d))))=X;simp [c_100_l1,Rw.ce,h1,h2,h5,h50,h51,h52,hi,hi',hc,hx,hw];rw [<- hX];exact ih _ _ (Qc _) ⟨by simp [h1],by simp [h2],by simp [h5,Prg.e],by simp [h9],by simp [h50],by simp [h51],by simp⟩
  ·rw [bS (x:=entE p t l[i].entry) hi (by simp only [rowG,Qa hi,gI];rw [a8 v])];simp [c_100_l1,Rw.ce,h1,h5,h50,h51,h52,hi,hc,v]
 ·rintro e n L hL _ ⟨h1,h2,h5,h9,h50,h51,h52⟩;have hk:=SX p f t d hd;simp only [Prg.e,Xb.ce] at hk;rw [Prg.e] at h5;rw [Xb.ce] at h9;rw [gM];simp [c_100_l1,c_100_k2,h1,h5,h9,h51,h52,hL,hk]
 ·simp [h1,h2,h5,h9]
theorem UZ (p:Prg) (f:PrgS p) (k:Nat) (hk:k<p.Xm.length) (l:List Rw) (next:Int) (d:Xb) (hl:l.length<2^40) (hs:∀r∈l,rowS r) (hd:d.args.length<2^40):
  aB Φ tK [.agg (Prg.c p),a7 k,.slice 5 (l.map Rw.c),a7 next,.agg (Xb.c d)]=some (.val (a7 (if p.Xm[k].size<l.length then 12 else tabK p k l next (kK p k d) (ordL l 0)))):=by
 rw [aD rfl rfl];by_cases z:p.Xm[k].size<(l.length:Int)
 ·simp [sD,Prg.e,Xb.ce,Tbl.e,hk,z]
 rw [QA z];simp [sD,Prg.e,Xb.ce,Tbl.e,hk,z];refine eS l.length (fun _=>[]) 0 (fun i e=>look 1 e=some (a7 k)/\look 2 e=some (.slice 5 (l.map Rw.c))/\look 3 e=some (a7 next)/\look 5 e=some (.iptr 9 [Prg.c p] 0 0)/\look 9 e=some (.iptr 2 [Xb.c d] 0 0)/\look 26 e=some (.slice 5 (l.map Rw.c))/\look 27 e=some (a7 l.length)/\look 28 e=some (a7 i)/\∃a:Int,look 11 e=some (a7 a)/\0<=a/\ordL (l.drop i) a=ordL l 0)
  (fun _=>some (Rt.val (a7 (tabK p k l next (kK p k d) (ordL l 0))))) ?_ ?_ 0 _ 0 (Qc _) (Qc _) ?_
 ·rintro i e n L hi hL _ ⟨h1,h2,h3,h5,h9,h26,h27,h28,a,h11,ha,ho⟩ ih;have hw:=aP i (by omega);rw [Qi hi] at ho;simp only [ordL] at ho;by_cases y:l[i].id<=a
  ·rw [a8 y] at ho;rw [<- ho];simp [c_100_l0,Rw.ce,h26,h27,h28,h11,hi,y,tabK]
  ·rw [QA y] at ho;generalize hX:some (Rt.val (a7 (tabK p k l next (kK p k d) (ordL l 0))))=X;simp [c_100_l0,Rw.ce,h26,h27,h28,h11,hi,y,hw];rw [<- hX];exact ih _ _ (Qc _) ⟨by simp [h1],by simp [h2],by simp [h3],by simp [h5],by simp [h9],by simp [h26],by simp [h27],by simp,l[i].id,by simp,by omega,ho⟩
 ·rintro e n L hL _ ⟨h1,h2,h3,h5,h9,h26,h27,h28,a,h11,ha,ho⟩;rw [B8] at ho;simp only [ordL] at ho;rw [<- ho];generalize hX:some (Rt.val (a7 (tabK p k l next (kK p k d) (some a))))=X;simp [c_100_l0,h27,h28,hL];rw [<- hX];exact ct_b p f k l next d hl hs hd a ha _ _ (by simp [h1]) (by simp [h2]) (by simp [h3]) (by simp [h5]) (by simp [h9]) (by simp [h11])
 ·simp [Prg.e,Xb.ce]
def mxF:List Int->Int->Int
 | [],a=>a
 | x::r,a=>mxF r (max a x)
theorem Of (M:Int):∀(l:List Int) (a:Int),M<mxF l a↔M<a\/∃x∈l,M<x
 | [],a=>by simp [mxF]
 | x::r,a=>by
  have ih:=Of M r (max a x);simp only [mxF,ih,fV,exists_eq_or_imp];constructor
  ·rintro (h | h)
   ·by_cases q:M<a
    ·exact .inl q
    ·exact .inr (.inl (by omega))
   ·exact .inr (.inr h)
  ·rintro (h | h | h)
   ·exact .inl (by omega)
   ·exact .inl (by omega)
   ·exact .inr h
theorem Z6 (l:List Int) (h0:0<l.length) (hl:l.length<2^40):aB Φ tY [.slice 1 (l.map c32)]=some (.val (.int .u32 (mxF l.tail l[0]))):=by
 rw [aD rfl rfl];have h1:¬(l.length:Int)<1:=by omega
 simp [BK,h0,h1,c32];refine eS l.length (fun _=>[]) 0 (fun i e=>look 0 e=some (.slice 1 (l.map c32))/\look 4 e=some (a7 i)/\∃a:Int,look 3 e=some (.int .u32 a)/\mxF (l.drop i) a=mxF l.tail l[0])
  (fun _=>some (Rt.val (.int .u32 (mxF l.tail l[0])))) ?_ ?_ 1 _ 0 (by omega) (Qc _) ?_
 ·rintro i e n L hi hL _ ⟨h0,h4,a,h3,hm⟩ ih;have hw:=aP i (by omega);rw [Qi hi] at hm;simp only [mxF] at hm;generalize hX:some (Rt.val (AV.int .u32 (mxF l.tail l[0])))=X;simp [c_168_l0,c32,h0,h4,h3,hi,hw];rw [<- hX];exact ih _ _ (Qc _) ⟨by simp [h0],by simp,max a l[i],by simp;split<;>omega,hm⟩
 ·rintro e n L hL _ ⟨h0,h4,a,h3,hm⟩;rw [B8] at hm;simp only [mxF] at hm;rw [<- hm];simp [c_168_l0,c_168_k1,h0,h4,h3,hL]
 ·simp
def szG (p:Prg) (rs:List (List Int)) (i:Nat):Option Int:=match rs[i]?,p.Xl[i]? with
 | some l,some r=>if (l.length:Int)=r.size then none else some 2
 | _,_=>none
def vlG (p:Prg) (rs:List (List Int)) (i:Nat):Option Int:=match rs[i]?,p.Xl[i]? with
 | some l,some r=>if l.any (fun v=>decide (cP r.Yc<v))=true then some 9 else none
 | _,_=>none
def conE (p:Prg) (rs:List (List Int)):Int:=if rs.length≠p.Xl.length then 2 else (fe (szG p rs) rs.length 0).getD ((fe (vlG p rs) rs.length 0).getD 0)
theorem con_b (p:Prg) (f:PrgS p) (rs:List (List Int)) (hl:rs.length<2^40) (hs:∀l∈rs,l.length<2^40) (hz:rs.length=p.Xl.length) (e:Env) (n:Nat)
  (h1:look 1 e=some (.slice 1 (rs.map (cS 1 c32)))) (h2:look 2 e=some (.iptr 9 [Prg.c p] 0 0)):
  go Φ (finP [.tmp 4]) [.c c_101_k3] .normal ⟨e,⟨[],n⟩⟩=some (.val (a7 ((fe (vlG p rs) rs.length 0).getD 0))):=by
 simp [c_101_k3,h1];refine eS rs.length (fun _=>[]) 0 (fun i e=>look 2 e=some (.iptr 9 [Prg.c p] 0 0)/\look 32 e=some (.slice 1 (rs.map (cS 1 c32)))/\look 33 e=some (a7 rs.length)/\look 34 e=some (a7 i))
  (fun i=>some (Rt.val (a7 ((fe (vlG p rs) rs.length i).getD 0)))) ?_ ?_ 0 _ n (Qc _) (Qc _) ?_
 ·rintro i e n L hi hL _ ⟨h2,h32,h33,h34⟩ ih;have hw:=aP i (by omega);have hi2:i<p.Xl.length:=by omega
  have hm:=gH p.Xl[i].Yc;rw [Prg.e] at h2;by_cases e0:rs[i].length=0
  ·have e1:rs[i]=[]:=Qg e0;rw [fI hi (by simp [vlG,hi,hi2,e1])];generalize hX:some (Rt.val (a7 ((fe (vlG p rs) rs.length (i+1)).getD 0)))=X;simp [c_101_l1,cSe,h32,h33,h34,hi,hw,e1];rw [<- hX];exact ih _ _ (Qc _) ⟨by simp [h2,Prg.e],by simp [h32],by simp [h33],by simp⟩
  have e1:0<rs[i].length:=by omega
  have hx:=Z6 rs[i] e1 (hs _ (Qd hi));have hy:rs[i].any (fun v=>decide (cP p.Xl[i].Yc<v))=decide (cP p.Xl[i].Yc<mxF rs[i].tail rs[i][0]):=by
   rw [Bool.eq_iff_iff,decide_eq_true_eq,Of,zF];have hd:rs[i]=rs[i][0]::rs[i].tail:=by
    have:=Qi e1;simpa using this
   constructor
   ·rintro ⟨x,hx,hv⟩;rw [hd] at hx;rcases fV.1 hx with rfl | hx
    ·exact .inl (of_decide_eq_true hv)
    ·exact .inr ⟨x,hx,of_decide_eq_true hv⟩
   ·rintro (h | ⟨x,hx,hv⟩)
    ·exact ⟨_,Qd e1,decide_eq_true h⟩
    ·exact ⟨x,List.mem_of_mem_tail hx,decide_eq_true hv⟩
  by_cases v:cP p.Xl[i].Yc<mxF rs[i].tail rs[i][0]
  ·rw [bS (x:=(9:Int)) hi (by simp only [vlG,Qa hi,Qa hi2];rw [hy,a8 (decide_eq_true v)])];simp [c_101_l1,cSe,Xg.e,h2,h32,h33,h34,hi,hi2,e1,hx,hm,v]
  ·rw [fI hi (by simp only [vlG,Qa hi,Qa hi2];rw [hy,QA (by simpa using v)])];generalize hX:some (Rt.val (a7 ((fe (vlG p rs) rs.length (i+1)).getD 0)))=X;simp [c_101_l1,cSe,Xg.e,h2,h32,h33,h34,hi,hi2,e1,hx,hm,v,hw];rw [<- hX];exact ih _ _ (Qc _) ⟨by simp [h2,Prg.e],by simp [h32],by simp [h33],by simp⟩
 ·rintro e n L hL _ ⟨h2,h32,h33,h34⟩;rw [gM];simp [c_101_l1,c_101_k2,h33,h34,hL]
 ·simp [h2]
theorem UX (p:Prg) (f:PrgS p) (rs:List (List Int)) (hl:rs.length<2^40) (hs:∀l∈rs,l.length<2^40):aB Φ tL [.agg (Prg.c p),.slice 1 (rs.map (cS 1 c32))]=some (.val (a7 (conE p rs))):=by
 rw [aD rfl rfl];unfold conE;by_cases z:rs.length=p.Xl.length
 rotate_left
 ·simp [sE,Prg.e,z]
 rw [QA (by simpa using z)];generalize hY:some (Rt.val (a7 ((fe (szG p rs) rs.length 0).getD ((fe (vlG p rs) rs.length 0).getD 0))))=Y;simp [sE,Prg.e,z];rw [<- hY];refine eS rs.length (fun _=>[]) 0 (fun i e=>look 1 e=some (.slice 1 (rs.map (cS 1 c32)))/\look 2 e=some (.iptr 9 [Prg.c p] 0 0)/\look 15 e=some (.slice 1 (rs.map (cS 1 c32)))/\look 16 e=some (a7 rs.length)/\look 17 e=some (a7 i))
  (fun i=>some (Rt.val (a7 ((fe (szG p rs) rs.length i).getD ((fe (vlG p rs) rs.length 0).getD 0))))) ?_ ?_ 0 _ 0 (Qc _) (Qc _) ?_
 ·rintro i e n L hi hL _ ⟨h1,h2,h15,h16,h17⟩ ih;have hw:=aP i (by omega);have hi2:i<p.Xl.length:=by omega
  rw [Prg.e] at h2;by_cases v:(rs[i].length:Int)=p.Xl[i].size
  ·rw [fI hi (by simp [szG,hi,hi2,v])];generalize hX:some (Rt.val (a7 ((fe (szG p rs) rs.length (i+1)).getD ((fe (vlG p rs) rs.length 0).getD 0))))=X;simp [c_101_l0,cSe,Xg.e,h2,h15,h16,h17,hi,hi2,v,hw];rw [<- hX];exact ih _ _ (Qc _) ⟨by simp [h1],by simp [h2,Prg.e],by simp [h15],by simp [h16],by simp⟩
  ·rw [bS (x:=(2:Int)) hi (by simp [szG,hi,hi2,v])];simp [c_101_l0,cSe,Xg.e,h2,h15,h16,h17,hi,hi2,v]
 ·rintro e n L hL _ ⟨h1,h2,h15,h16,h17⟩;rw [gM];generalize hX:some (Rt.val (a7 ((none:Option Int).getD ((fe (vlG p rs) rs.length 0).getD 0))))=X;simp [c_101_l0,h16,h17,hL];rw [<- hX];exact con_b p f rs hl hs z _ _ (by simp [h1]) (by simp [h2])
 ·simp [Prg.e,z]
def wd (w:Int):Nat:=if wBad w then 0 else w.toNat
structure CfgT (a:Xe):Prop where
 rl:a.rows.length<2^40
 rs:∀l∈a.rows,l.length<2^40/\∀r∈l,rowS r
 nl:a.Xq.length<2^40
 dl:a.Xp.length<2^40
 ds:∀d∈a.Xp,d.args.length<2^40/\∀v∈d.args,ok32 0 v
 gl:a.Xl.length<2^40
 gs:∀l∈a.Xl,l.length<2^40/\∀v∈l,ok32 0 v
theorem XB {B:Nat} (hB:B<2^40) {r:Rw} (o:r.Ok B):rowS r:=by
 simp only [Rw.Ok,Entry.Ok,Xb.Ok] at o;obtain ⟨_,o1,_,_,o2⟩:=o;exact ⟨by have:=o1.1;omega,fun m hm=>o1.2 m hm,by have:=o2.1;omega,fun v hv=>o2.2 v hv⟩
theorem TZ {a:Xe} (o:a.Ok gG):CfgT a:=by
 obtain ⟨o0,o1,o2,o3⟩:=o;have e:=zX;refine ⟨by have:=o0.1;omega,?_,by have:=o1.1;omega,by have:=o2.1;omega,?_,by have:=o3.1;omega,?_⟩
 ·intro l hl;have:=o0.2 l hl;exact ⟨by have:=this.1;omega,fun r hr=>XB (by omega) (this.2 r hr)⟩
 ·intro d hd;have:=o2.2 d hd;simp only [Xb.Ok] at this;exact ⟨by have:=this.2.1;omega,fun v hv=>this.2.2 v hv⟩
 ·intro l hl;have:=o3.2 l hl;exact ⟨by have:=this.1;omega,fun v hv=>this.2 v hv⟩
def rowE (p:Prg) (k:Nat) (tb:Tbl) (l:List Rw) (nx:Int) (z:Int):Int:=if tb.size<l.length then 12 else tabK p k l nx z (ordL l 0)
def stG (p:Prg) (c:Xe) (k:Nat):Option Int:=match p.Xm[k]?,c.rows[k]?,c.Xq[k]?,c.Xp[k]? with
 | some tb,some l,some nx,some d=>if rowE p k tb l nx (kK p k d)=0 then none else some (rowE p k tb l nx (kK p k d))
 | _,_,_,_=>none
def cfgE (p:Prg) (c:Xe):Int:=if (prgD p).1≠0 then (prgD p).1 else if c.rows.length≠p.Xm.length\/c.Xq.length≠p.Xm.length\/c.Xp.length≠p.Xm.length then 2
 else (fe (stG p c) p.Xm.length 0).getD (conE p c.Xl)
theorem UT (p:Prg) (f:PrgS p) (hc:(pre p.Ya).length<2^40 - 1) (c:Xe) (s:CfgT c):aB Φ FQ [.agg (Prg.c p),.agg (Xe.c c)]=some (.val (a7 (cfgE p c))):=by
 rw [aD rfl rfl];have h:=Za p f hc;simp only [Prg.e,dgC] at h;have ht:=f.t;by_cases z:(prgD p).1=0
 rotate_left
 ·simp [r5,Prg.e,Xe.ce,h,z,cfgE]
 by_cases z1:c.rows.length=p.Xm.length
 rotate_left
 ·simp [r5,Prg.e,Xe.ce,h,z,z1,cfgE]
 by_cases z2:c.Xq.length=p.Xm.length
 rotate_left
 ·simp [r5,Prg.e,Xe.ce,h,z,z1,z2,cfgE]
 by_cases z3:c.Xp.length=p.Xm.length
 rotate_left
 ·simp [r5,Prg.e,Xe.ce,h,z,z1,z2,z3,cfgE]
 rw [show cfgE p c=(fe (stG p c) p.Xm.length 0).getD (conE p c.Xl) by simp [cfgE,z,z1,z2,z3]];simp [r5,Prg.e,Xe.ce,h,z,z1,z2,z3];refine eS p.Xm.length (fun _=>[]) 0 (fun i e=>look 2 e=some (.iptr 9 [Prg.c p] 0 0)/\look 3 e=some (.iptr 4 [Xe.c c] 0 0)/\look 38 e=some (a7 p.Xm.length)/\look 39 e=some (a7 i))
  (fun i=>some (Rt.val (a7 ((fe (stG p c) p.Xm.length i).getD (conE p c.Xl))))) ?_ ?_ 0 _ _ (Qc _) (Qc _) ?_
 ·rintro i e n L hi hL _ ⟨h2,h3,h38,h39⟩ ih;have hw:=aP i (by omega);have i1:i<c.rows.length:=by omega
  have i2:i<c.Xq.length:=by omega
  have i3:i<c.Xp.length:=by omega
  have hr:=s.rs _ (Qd i1);have hd:=s.ds _ (Qd i3);have hk:=UZ p f i hi c.rows[i] c.Xq[i] c.Xp[i] hr.1 hr.2 hd.1;rw [show (if p.Xm[i].size<(c.rows[i].length:Int) then (12:Int) else tabK p i c.rows[i] c.Xq[i] (kK p i c.Xp[i]) (ordL c.rows[i] 0))=rowE p i p.Xm[i] c.rows[i] c.Xq[i] (kK p i c.Xp[i]) from rfl] at hk;simp only [Prg.e,Xb.ce] at hk;rw [Prg.e] at h2;rw [Xe.ce] at h3;by_cases v:rowE p i p.Xm[i] c.rows[i] c.Xq[i] (kK p i c.Xp[i])=0
  ·rw [fI hi (by simp [stG,hi,i1,i2,i3,v])];rw [v] at hk;generalize hX:some (Rt.val (a7 ((fe (stG p c) p.Xm.length (i+1)).getD (conE p c.Xl))))=X;simp [c_46_l0,cSe,cI,Xb.ce,h2,h3,h38,h39,hi,i1,i2,i3,hk,hw];rw [<- hX];exact ih _ _ (Qc _) ⟨by simp [h2,Prg.e],by simp [h3,Xe.ce],by simp [h38],by simp⟩
  ·rw [bS (x:=rowE p i p.Xm[i] c.rows[i] c.Xq[i] (kK p i c.Xp[i])) hi (by simp [stG,hi,i1,i2,i3,v])];simp [c_46_l0,cSe,cI,Xb.ce,h2,h3,h38,h39,hi,i1,i2,i3,hk,v]
 ·rintro e n L hL _ ⟨h2,h3,h38,h39⟩;have hk:=UX p f c.Xl s.gl fun l hl=>(s.gs l hl).1
  simp only [Prg.e] at hk;rw [Prg.e] at h2;rw [Xe.ce] at h3;rw [gM];simp [c_46_l0,c_46_k1,h2,h3,h38,h39,hL,hk]
 ·simp [Prg.e,Xe.ce]
structure TabV (p:Prg) (k:Nat) (tb:Tbl) (l:List Rw) (nx:Int) (d:Xb):Prop where
 size:(l.length:Int)<=tb.size
 pos:∀r∈l,0<r.id
 lt:∀r∈l,r.id<nx
 inc:l.Pairwise (fun a b=>a.id<b.id)
 nx0:0<nx
 nx1:nx<=1073741824
 ent:∀r∈l,entE p k r.entry=0
 uniq:l.Pairwise (fun a b=>sk a.entry b.entry=false)
 Yb:kK p k d=0
theorem La (nx:Int):∀(l:List Rw) (a:Int),(∃b,ordL l a=some b/\b<nx)↔a<nx/\(∀r∈l,a<r.id/\r.id<nx)/\l.Pairwise (fun a b=>a.id<b.id)
 | [],a=>by simp [ordL]
 | r::l,a=>by
  have ih:=La nx l r.id;simp only [ordL];by_cases h:r.id<=a
  ·rw [a8 h];constructor
   ·rintro ⟨b,hb,_⟩;cases hb
   ·rintro ⟨_,h2,_⟩;have:=(h2 r (by simp)).1;omega
  ·rw [QA h,ih,ME];constructor
   ·rintro ⟨h1,h2,h3⟩;refine ⟨by omega,?_,fun x hx=>(h2 x hx).1,h3⟩;intro x hx;rcases fV.1 hx with rfl | hx
    ·exact ⟨by omega,h1⟩
    ·have:=h2 x hx;exact ⟨by omega,this.2⟩
   ·rintro ⟨h1,h2,h3,h4⟩;exact ⟨(h2 r (by simp)).2,fun x hx=>⟨h3 x hx,(h2 x (by simp [hx])).2⟩,h4⟩
theorem qzw (p:Prg) (t:Int) (l:List Rw):(∀i,i<l.length->rowG p t l i=none)↔(∀r∈l,entE p t r.entry=0)/\l.Pairwise (fun a b=>sk a.entry b.entry=false):=by
 have key:∀i (hi:i<l.length),rowG p t l i=none↔entE p t l[i].entry=0/\∀j (hj:j<i),sk l[j].entry l[i].entry=false:=by
  intro i hi;simp only [rowG,Qa hi,gI];by_cases h:entE p t l[i].entry=0
  ·rw [QA (by simpa using h)];have:((l.take i).any fun y=>sk y.entry l[i].entry)=true↔¬∀j (hj:j<i),sk l[j].entry l[i].entry=false:=by
    rw [zF];constructor
    ·rintro ⟨y,hy,hs⟩ hc;obtain ⟨j,hj,rfl⟩:=Qn.1 hy;simp at hj;have:=hc j (by omega);simp only [List.getElem_take] at hs;rw [this] at hs;cases hs
    ·intro hc;simp only [Classical.not_forall] at hc;obtain ⟨j,hj,hs⟩:=hc;refine ⟨l[j],?_,by simpa using hs⟩;rw [List.mem_take_iff_getElem];exact ⟨j,by omega,rfl⟩
   by_cases hu:∀j (hj:j<i),sk l[j].entry l[i].entry=false
   ·rw [QA (by rw [this];exact fun hc=>hc hu)];simp [h];exact hu
   ·rw [a8 (this.2 hu)];simp [h];simpa using hu
  ·rw [a8 h];simp [h]
 constructor
 ·intro h;refine ⟨?_,?_⟩
  ·intro r hr;obtain ⟨i,hi,rfl⟩:=Qn.1 hr;exact ((key i hi).1 (h i hi)).1
  ·rw [PJ];intro i j hi hj hij;exact ((key j hj).1 (h j hj)).2 i hij
 ·rintro ⟨h1,h2⟩ i hi;rw [key i hi];refine ⟨h1 _ (Qd hi),?_⟩;intro j hj;exact PJ.1 h2 j i (by omega) hi hj
theorem XA (p:Prg) (t:Int) (l:List Rw) {i:Nat} {x:Int} (h:rowG p t l i=some x):x≠0:=by
 simp only [rowG,Qt] at h;obtain ⟨r,_,hr⟩:=h;split at hr
 ·cases hr;assumption
 ·split at hr
  ·cases hr;decide
  ·cases hr
theorem Jm (p:Prg) (k:Nat) (tb:Tbl) (l:List Rw) (nx:Int) (d:Xb):rowE p k tb l nx (kK p k d)=0↔TabV p k tb l nx d:=by
 have hI:=La nx l 0;have hG:=qzw p k l;rw [<- fe_all] at hG;unfold rowE;by_cases h:tb.size<(l.length:Int)
 ·rw [a8 h];constructor
  ·intro hc;cases hc
  ·intro hv;have:=hv.size;omega
 rw [QA h];cases ho:ordL l 0 with
 | none=>
  rw [ho] at hI;simp only [tabK];constructor
  ·intro hc;cases hc
  ·intro hv;obtain ⟨b,hb,_⟩:=hI.2 ⟨hv.nx0,fun r hr=>⟨hv.pos r hr,hv.lt r hr⟩,hv.inc⟩;cases hb
 | some a=>
  rw [ho] at hI;simp only [tabK];by_cases h1:nx<=a
  ·rw [a8 h1];constructor
   ·intro hc;cases hc
   ·intro hv;obtain ⟨b,hb,h2⟩:=hI.2 ⟨hv.nx0,fun r hr=>⟨hv.pos r hr,hv.lt r hr⟩,hv.inc⟩;cases hb;omega
  rw [QA h1];have hJ:=hI.1 ⟨a,rfl,by omega⟩;by_cases h2:1073741824<nx
  ·rw [a8 h2];constructor
   ·intro hc;cases hc
   ·intro hv;have:=hv.nx1;omega
  rw [QA h2];cases hf:fe (rowG p k l) l.length 0 with
  | some x=>
   have hx:x≠0:=by
    obtain ⟨i,_,hx⟩:=Eb hf;exact XA p k l hx
   rw [hf] at hG;simp only [jC];constructor
   ·intro hc;exact absurd hc hx
   ·intro hv;have:=hG.2 ⟨hv.ent,hv.uniq⟩;cases this
  | none=>
   have hq:=hG.1 hf;simp only [MK];constructor
   ·intro hc;exact ⟨by omega,fun r hr=>(hJ.2.1 r hr).1,fun r hr=>(hJ.2.1 r hr).2,hJ.2.2,hJ.1,by omega,hq.1,hq.2,hc⟩
   ·intro hv;exact hv.Yb
structure CfgV (p:Prg) (c:Xe):Prop where
 prg:(prgD p).1=0
 rl:c.rows.length=p.Xm.length
 nl:c.Xq.length=p.Xm.length
 dl:c.Xp.length=p.Xm.length
 tab:∀k tb l nx d,p.Xm[k]? =some tb->c.rows[k]? =some l->c.Xq[k]? =some nx->c.Xp[k]? =some d->TabV p k tb l nx d
 con:conE p c.Xl=0
theorem ZZ (p:Prg) (c:Xe) {k:Nat} {x:Int} (h:stG p c k=some x):x≠0:=by
 unfold stG at h;split at h
 ·split at h
  ·cases h
  ·cases h;assumption
 ·cases h
theorem Cd (p:Prg) (c:Xe):cfgE p c=0↔CfgV p c:=by
 unfold cfgE;by_cases h:(prgD p).1=0
 rotate_left
 ·rw [a8 h];exact ⟨fun hc=>absurd hc h,fun hv=>absurd hv.prg h⟩
 rw [QA (by simpa using h)];by_cases hl:c.rows.length≠p.Xm.length\/c.Xq.length≠p.Xm.length\/c.Xp.length≠p.Xm.length
 ·rw [a8 hl];constructor
  ·intro hc;cases hc
  ·intro hv;have:=hv.rl;have:=hv.nl;have:=hv.dl;omega
 rw [QA hl];have l1:c.rows.length=p.Xm.length:=by omega
 have l2:c.Xq.length=p.Xm.length:=by omega
 have l3:c.Xp.length=p.Xm.length:=by omega
 cases hf:fe (stG p c) p.Xm.length 0 with
 | some x=>
  obtain ⟨k,hk,hx⟩:=Eb hf;simp only [jC];constructor
  ·intro hc;exact absurd hc (ZZ p c hx)
  ·intro hv;have hq:stG p c k=none:=by
    unfold stG;split
    ·rename_i tb l nx d e1 e2 e3 e4;rw [a8 ((Jm p k tb l nx d).2 (hv.tab k tb l nx d e1 e2 e3 e4))]
    ·rfl
   rw [hq] at hx;cases hx
 | none=>
  simp only [MK];have ha:=fe_all.1 hf;constructor
  ·intro hc;refine ⟨h,l1,l2,l3,?_,hc⟩;intro k tb l nx d e1 e2 e3 e4;have hk:=(Qm.1 e1).1;have hq:=ha k hk;simp only [stG,e1,e2,e3,e4] at hq;split at hq
   ·rename_i hz;exact (Jm p k tb l nx d).1 hz
   ·cases hq
  ·intro hv;exact hv.con
section
variable {p:Prg} {c:Xe} {k:Nat}
theorem CfgV.at (v:CfgV p c) (h:k<p.Xm.length):TabV p k p.Xm[k] (c.rows[k]'(by rw [v.rl];exact h)) (c.Xq[k]'(by rw [v.nl];exact h)) (c.Xp[k]'(by rw [v.dl];exact h)):=
 v.tab k _ _ _ _ (Qa h) (Qa (by rw [v.rl];exact h)) (Qa (by rw [v.nl];exact h)) (Qa (by rw [v.dl];exact h))
theorem CfgV.upd (v:CfgV p c) (h:k<p.Xm.length) {l:List Rw} {nx:Int} {d:Xb} {R:List (List Rw)} {N:List Int} {D:List Xb}
  (hR:R=c.rows.set k l) (hN:N=c.Xq.set k nx) (hD:D=c.Xp.set k d) (t:TabV p k p.Xm[k] l nx d):CfgV p ⟨R,N,D,c.Xl⟩:=by
 subst hR hN hD;refine ⟨v.prg,by simp [v.rl],by simp [v.nl],by simp [v.dl],?_,v.con⟩;intro j tb l' nx' d' h1 h2 h3 h4;have hl1:=v.rl;have hl2:=v.nl;have hl3:=v.dl;by_cases hj:k=j
 ·subst hj;rw [List.getElem?_set_self (by omega)] at h2 h3 h4;rw [Qa h] at h1;cases h1;cases h2;cases h3;cases h4;exact t
 ·simp only [List.getElem?_set_ne hj] at h2 h3 h4;exact v.tab j _ _ _ _ h1 h2 h3 h4
end
theorem Mo {Z:Type} {f:Z->Option Z}:∀{l:List Z},(∀x∈l,f x=some x)->mapO f l=some l
 | [],_=>rfl
 | a::l,h=>by
  have h1:=h a (by simp);have h2:=Mo (f:=f) (l:=l) fun x hx=>h x (by simp [hx])
  simp only [mapO,h1,h2]
theorem nU {Z:Type} {g:Z->List AV} {n:Nat} {H:AH} (h:∀x,mapO (snap n H) (g x)=some (g x)) (l:List Z):mapO (mapO (snap n H)) (l.map g)=some (l.map g):=by
 refine Mo fun x hx=>?_
 obtain ⟨y,_,rfl⟩:=iO.1 hx;exact h y
theorem ZV {n:Nat} {H:AH} (r:Rw):mapO (snap (n+1) H) (Rw.c r)=some (Rw.c r):=by simp [Rw.c]
structure CfgM (O:List (Nat×AO)) (v1 v2 v3 v4:AV) (V:List AV) (c:Xe):Prop where
 r:Mu O 1 v1 (V.map fun v=>[v])
 rl:V.length=c.rows.length
 rv:∀(k:Nat) (v:AV) (l:List Rw),V[k]? =some v->c.rows[k]? =some l->Mu O 5 v (l.map Rw.c)
 n:Mu O 1 v2 (c.Xq.map cI)
 d:Mu O 2 v3 (c.Xp.map Xb.c)
 g:v4= .Xt 1 (c.Xl.map (cS 1 c32))\/∃t,v4= .app 1 (c.Xl.map (cS 1 c32)) t
 rn:∀i,vid v1=some i->vid v2=some i->False
 vi:∀(k k':Nat) (v v':AV) (i:Nat),V[k]? =some v->V[k']? =some v'->vid v=some i->vid v'=some i->k=k'
 va:∀v∈V,∀z es t,v≠ .app z es t
def CfgM.own (v1 v2 v3:AV) (V:List AV) (j:Nat):Prop:=vid v1=some j\/vid v2=some j\/vid v3=some j\/∃v∈V,vid v=some j
theorem CfgM.fr {O O':List (Nat×AO)} {v1 v2 v3 v4:AV} {V:List AV} {c:Xe} (h:CfgM O v1 v2 v3 v4 V c) (hf:∀j,CfgM.own v1 v2 v3 V j->look j O'=look j O):CfgM O' v1 v2 v3 v4 V c:=by
 refine ⟨h.r.fr fun j hj=>hf j (.inl hj),h.rl,?_,h.n.fr fun j hj=>hf j (.inr (.inl hj)),h.d.fr fun j hj=>hf j (.inr (.inr (.inl hj))),h.g,h.rn,h.vi,h.va⟩;intro k v l hv hl;exact (h.rv k v l hv hl).fr fun j hj=>hf j (.inr (.inr (.inr ⟨v,Qe hv,hj⟩)))
@[simp] theorem Pg (b x:Bool) (H:AH):yK b H (some (.val (.bool x)))=some (.val (.bool x),H):=by cases b<;>simp
@[simp] theorem Rh (b:Bool) (k:IntKind) (x:Int) (H:AH):yK b H (some (.val (.int k x)))=some (.val (.int k x),H):=by cases b<;>simp
def regN (r:Xg):Nat:=if r.size<1\/64<r.size then 0 else r.size.toNat
theorem Ja {Ψ:FuncId->Option AFun} {f z bytes:Nat} (hf:Ψ f=some (.rule (yM z bytes .app))) (es:List (List AV)) (hz:iQ z es=true) (hb:es.length*bytes<=70368744177664):aB Ψ f [.slice z es]=some (.val (.slice z es)):=by
 unfold aB;rw [Hn Ψ hf];cases es with
 | nil=>simp [yM,lenOf,gO,evR,nW,H0,AH.put]
 | cons x es=>
  simp only [zE] at hb;simp [yM,lenOf,evR,nW,H0,AH.put,hz,hb]
theorem Ev (l:List Int) (h:l.length<2^40):aB Φ lX [.slice 1 (l.map c32)]=some (.val (.slice 1 (l.map c32))):=
 Ja (bytes:=4) rfl _ (E1 1 c32 l fun x=>by simp [c32]) (by rw [n9];omega)
theorem Nw (l:List Xh) (h:l.length<2^40):aB Φ zT [.slice 2 (l.map Xh.c)]=some (.val (.slice 2 (l.map Xh.c))):=
 Ja (bytes:=8) rfl _ (E1 2 Xh.c l fun x=>by simp [Xh.c]) (by rw [n9];omega)
theorem Mn (H:AH):∀l:List Int,mapO (mapO (snap 39 H)) (l.map cI)=some (l.map cI)
 | []=>by simp [mapO]
 | x::l=>by
  have ih:=Mn H l;simp only [nA,mapO,ih];simp [cI,mapO]
theorem YN (l:List Int) (h:l.length<2^40):aB Φ w5 [.slice 1 (l.map cI)]=some (.val (.slice 1 (l.map cI))):=by
 unfold aB;rw [Hn Φ (g:=yM 1 8 .row) rfl];cases l with
 | nil=>simp [yM,lenOf,gO,evR,nW,H0,AH.put]
 | cons x l=>
  have hb:(l.length+1)*8<=70368744177664:=by simp at h;omega
  have hm:=Mn ⟨[(0,.row 1 ((x::l).map cI))],1⟩ (x::l);simp [cI] at hm;simp [yM,lenOf,evR,nW,H0,AH.put,hb,cI,hm]
def RegV (T:List (Nat×AO)) (x:AV) (r:Xg):Prop:=(x= .Xt 1 []/\regN r=0)\/∃id,1<=id/\x= .row id 1 0 (regN r)/\look id T=some (.row 1 (List.replicate (regN r) [.int .u32 0]))
inductive RegL (T:List (Nat×AO)):List AV->List Xg->Prop
 | nil:RegL T [] []
 | snoc {A rs x r} (h:RegL T A rs) (hx:RegV T x r):RegL T (A++[x]) (rs++[r])
theorem RegV.app {T:List (Nat×AO)} {x:AV} {r:Xg} (h:RegV T x r) (U:List (Nat×AO)):RegV (T++U) x r:=by
 rcases h with h | ⟨id,h1,h2,h3⟩
 ·exact .inl h
 ·exact .inr ⟨id,h1,h2,by rw [HM,h3];simp⟩
theorem RegL.app {T:List (Nat×AO)} {A:List AV} {rs:List Xg} (h:RegL T A rs) (U:List (Nat×AO)):RegL (T++U) A rs:=by
 induction h with
 | nil=>exact .nil
 | snoc h hx ih=>exact .snoc ih (hx.app U)
theorem RegL.len {T:List (Nat×AO)} {A:List AV} {rs:List Xg} (h:RegL T A rs):A.length=rs.length:=by
 induction h with
 | nil=>rfl
 | snoc h hx ih=>simp [ih]
theorem Kx (H:AH) (k:Nat):∀m,mapO (mapO (snap 38 H)) (List.replicate m [AV.int .u32 k])=some (List.replicate m [AV.int .u32 k])
 | 0=>by simp [mapO]
 | m+1=>by
  have ih:=Kx H k m;simp only [MA,mapO,ih];simp
theorem Je {Z I:Type} (f:Z->Option I):∀(l:List Z) (x:Z) (l':List I) (y:I),mapO f l=some l'->f x=some y->mapO f (l++[x])=some (l'++[y])
 | [],x,l',y,h,hy=>by
  simp [mapO] at h;subst h;simp [mapO,hy]
 | a::l,x,l',y,h,hy=>by
  simp only [mapO] at h;cases hb:f a with
  | none=>rw [hb] at h;cases h
  | some b=>
   rw [hb] at h;cases hm:mapO f l with
   | none=>rw [hm] at h;cases h
   | some m=>
    rw [hm] at h;cases h;have ih:=Je f l x m y hm hy;simp only [iU,mapO,hb,ih]
theorem RegL.snp {T:List (Nat×AO)} {A:List AV} {rs:List Xg} (h:RegL T A rs) (o:AO) (n:Nat):
  mapO (mapO (snap 39 ⟨(0,o)::T,n⟩)) (A.map fun x=>[x])=some (rs.map fun r=>[AV.slice 1 (List.replicate (regN r) [.int .u32 0])]):=by
 induction h with
 | nil=>simp [mapO]
 | snoc h hx ih=>
  rw [zG,zG];refine Je _ _ _ _ _ ih ?_;rcases hx with ⟨rfl,h0⟩ | ⟨id,h1,rfl,h3⟩
  ·simp [mapO,h0]
  ·have hi:¬(0=id):=by omega
   have hr:=Kx ⟨(0,o)::T,n⟩ 0;simp at hr;simp [mapO,look,hi,h3,hr]
theorem Ns {l:List Rw} {i:Nat} {es0:List (List AV)} (hi:i<l.length) (ht:es0.take (l.map Rw.c).length=l.map Rw.c):es0[i]? =some (Rw.c l[i]):=by
 have h:(es0.take (l.map Rw.c).length)[i]? =(l.map Rw.c)[i]? :=by rw [ht]
 rw [List.getElem?_take_of_lt (by simpa using hi)] at h;rw [h];simp [hi]
section
variable {I:Type} {fin:Option (Ex×St)->Option I}
end
section
variable {O O':List (Nat×AO)} {N N' n id:Nat} {X:Nat->Prop} {o y:AO}
theorem Kp.app (h:Kp X N O O') (hn:N<=n):Kp X N O (O'++[(n,o)]):=by
 intro j hj hx;have:¬n=j:=by omega
 rw [aE,h j hj hx];simp [this]
theorem Kp.drop (h:Kp X N O O') (hn:N<=id\/X id):Kp X N O (dropl id O'):=by
 intro j hj hx;rw [yJ (by rintro rfl;rcases hn with hn | hn;omega;exact hx hn),h j hj hx]
theorem Kp.setl (h:Kp X N O O') (hn:N<=id\/X id):Kp X N O (setl id y O'):=by
 intro j hj hx;rw [aA,QA (by rintro rfl;rcases hn with hn | hn;omega;exact hx hn),h j hj hx]
theorem Tail.app1 (h:Tail O' N') (hn:N'<=n):Tail (O'++[(n,o)]) (n+1):=by
 rw [Tail_append_iff,Tail_cons_iff];exact ⟨h.mono (by omega),by omega,Tail.nil _⟩
theorem Kp.lk (h:Kp X N O O') (hT:Tail O N) {j:Nat} {x:AO} (hl:look j O=some x) (hx:¬X j):look j O'=some x:=by
 rw [h j (hT.lt hl) hx,hl]
theorem bO {j:Nat} {x y:AO} (h1:look id O=some x) (h2:look j O=some y) (h:x≠y):id≠j:=by
 rintro rfl;rw [h1] at h2;cases h2;exact h rfl
theorem dI {j:Nat} {x:AO} (hT:Tail O N) (h1:look j O=some x) (hn:N<=n):¬j=n/\¬n=j:=by
 have:=hT.lt h1;omega
end
theorem Re.src {O:List (Nat×AO)} {z N:Nat} {v:AV} {es:List (List AV)} (h:Re O z v es):gO ⟨O,N⟩ v=some es:=by
 cases h with
 | sl=>rfl
 | fs=>rfl
 | ap=>rfl
 | row id _ es0 n hn hl hle ht=>
  subst hn;simp [hl,hle,ht]
set_option maxRecDepth 6000
theorem mR (a b:List (Nat×AO)):dK (a++b)=dK a++dK b:=by
 induction a with
 | nil=>simp
 | cons x a ih=>
  obtain ⟨u,w⟩:=x;cases w<;>simp [ih]
def NR (O:List (Nat×AO)):Prop:=dK O=O
theorem NR.app {a b:List (Nat×AO)} (h:NR a) (h2:NR b):NR (a++b):=by
 unfold NR at*;rw [mR,h,h2]
theorem EG:NR []:=rfl
theorem cK {u:Nat} {x:AO} {r:List (Nat×AO)} (hx:x≠ .res) (h:NR r):NR ((u,x)::r):=by
 unfold NR at*;cases x<;>simp_all
theorem NR.one {u:Nat} {x:AO} (hx:x≠ .res):NR [(u,x)]:=cK hx EG
theorem Nq {u:Nat} {x:AO} {r:List (Nat×AO)} (h:NR ((u,x)::r)):x≠ .res/\NR r:=by
 have hl:∀l:List (Nat×AO),(dK l).length<=l.length:=by
  intro l
  induction l with
  | nil=>simp
  | cons a l ih=>
   obtain ⟨v,y⟩:=a;cases y<;>simp<;>omega
 unfold NR at*;cases x with
 | res=>
  have:=hl r;rw [qxr] at h;rw [h] at this;simp at this;omega
 | _=>simp at h;exact ⟨by simp,h⟩
theorem NR.setl {t:Nat} {y:AO} (hy:y≠ .res):∀{O:List (Nat×AO)},NR O->NR (setl t y O)
 | [],h=>h
 | (u,x)::r,h=>by
  obtain ⟨h1,h2⟩:=Nq h;by_cases q:u=t
  ·subst q;rw [SY];exact cK hy h2
  ·rw [qzz _ _ _ _ _ q];exact cK h1 (NR.setl hy h2)
theorem NR.sw {O:List (Nat×AO)} (h:NR O) (t z:Nat) (es:List (List AV)):dK (Go.Av.setl t (.row z es) O)=Go.Av.setl t (.row z es) O:=h.setl (by simp)
theorem NR.eq {O:List (Nat×AO)} (h:NR O):dK O=O:=h
theorem NR.dropl {t:Nat}:∀{O:List (Nat×AO)},NR O->NR (dropl t O)
 | [],h=>h
 | (u,x)::r,h=>by
  obtain ⟨h1,h2⟩:=Nq h;by_cases q:u=t
  ·subst q;rw [qyh];exact h2
  ·rw [qwp _ _ _ _ q];exact cK h1 (NR.dropl h2)
def EvP (p:Prg) (ps:List Fld) (e:Envt) (args:List Int) (l:List Xd) (id N:Nat) (O:List (Nat×AO)) (v w:Int) (j:Nat) (r:Option (Rt×AH)):Prop:=
 ∃O' N',r=some (.val (.agg [.int .u32 v,a7 w]),⟨O',N'⟩)/\look id O'=some (.row 17 [mchC p ps e args l j])/\Kp (fun j=>j=id) N O O'/\Tail O' N'/\N<=N'/\NR O'
def evlA:Xu:=match cT.body with | .seq a _=>a | c=>c
def evlB:Xu:=match cT.body with | .seq _ (.seq a _)=>a | c=>c
def evlC:Xu:=match cT.body with | .seq _ (.seq _ (.seq a _))=>a | c=>c
def evlR:Xu:=match cT.body with | .seq _ (.seq _ (.seq _ a))=>a | c=>c
theorem VA:cT.body= .seq evlA (.seq evlB (.seq evlC evlR)):=rfl
section
variable (p:Prg) (ps:List Fld) (e:Envt) (args:List Int) (l:List Xd)
theorem RG {O:List (Nat×AO)} {N id i:Nat} (hl:l.length<2^40) (hT:Tail O N) (hN:NR O) (hm:look id O=some (.row 17 [mchC p ps e args l i])) (hi:i<l.length) {Q:Option (Rt×AH)->Prop}
  (h:∀E O1,look 0 E=some (.ptr id 17 0 0)->look 2 E=some (.ptr N 2 0 0)->look 3 E=some (.iptr 3 [Xd.c l[i]] 0 0)->look N O1=some (.row 2 [[.int .u32 0,a7 0]])->look id O1=some (.row 17 [mchC p ps e args l (i+1:Nat)])->
   Kp (fun j=>j=id) N O O1->Tail O1 (N+5)->NR O1->Q (go Φ (finC cT.results) [.c evlR] .normal ⟨E,⟨O1,N+5⟩⟩)):
  Q (aH Φ dR [.ptr id 17 0 0] ⟨O,N⟩):=by
 rw [d6 rfl rfl,VA];rw [wH] at hm;have t0:=hT N (Qb _);have t1:=hT (N+1) (by omega);have t4:=hT (N+1+3) (by omega);have n4:¬N=N+1+3/\¬N+1+3=N:=by omega
 have n5:¬N+1+3+1=N+1+3/\¬N+1+3=N+1+3+1:=by omega
 have f0:=dI hT hm (Qb N);have f4:=dI (n:=N+1+3) hT hm (by omega);have hw:=aP i (by omega);have hb:(id == N+1+3)=false:=by simp;omega
 have hx:l[i]=⟨l[i].op,l[i].n,l[i].w⟩:=rfl;simp [evlA,evlB,evlC,cT,t0,t1,t4,n4,n5,aE,aA,mR,show dK O=O from hN,hm,hi,Xd.e,f0,f4,hw,hb];refine h _ _ ?_ ?_ ?_ ?_ ?_ ?_ ?_ ?_
 ·simp
 ·simp
 ·simp [Xd.e]
 ·simp [aA,aE,t0,f0]
 ·simp [aA,aE,hm,wH]
 ·exact (Kp.app Kp.refl (Qb _)).setl (.inr rfl)
 ·exact bW ((hT.app1 (Qb _)).mono (by omega))
 ·exact (hN.app (.one (by simp))).setl (by simp)
variable (hg:∀h f,ok32 0 (eGet e h f)) (ha:∀v∈args,ok32 0 v) (hl:l.length<2^40)
include hg ha hl
theorem ev_ok:∀(n i:Nat) (w:Int) (j:Nat),chk p ps l n i= .ok (w,j)->∀(O:List (Nat×AO)) (N id:Nat),Tail O N->NR O->look id O=some (.row 17 [mchC p ps e args l i])->
  EvP p ps e args l id N O (evx p ps l e args n i).1 w j (aH Φ dR [.ptr id 17 0 0] ⟨O,N⟩)
 | 0,i,w,j,h,O,N,id,hT,hN,hm=>by cases h
 | n+1,i,w,j,h,O,N,id,hT,hN,hm=>by
  have ih:=ev_ok n;simp only [chk] at h;simp only [evx];cases hx:l[i]? with
  | none=>rw [hx] at h;cases h
  | some x=>
  rw [hx] at h;simp only at h ⊢;obtain ⟨hi,hxe⟩:=Qm.1 hx;refine RG p ps e args l (Q:=EvP p ps e args l id N O _ w j) hl hT hN hm hi fun E O1 h0 h2 h3 hO hm1 hk1 hT1 hN1=>?_
  rw [hxe,Xd.e] at h3;have hidN:id<N:=hT.lt hm;have nid:¬id=N/\¬N=id:=by omega
  have hA:=Cz x.op;split at h
  ·cases h
  rename_i a0;split at h
  ·rename_i k0;split at h
   ·rename_i k1;cases h;rw [k0] at hA;have hld:=ld_ok p ps e args l (i+1:Nat) x k0 k1 hg ha;rw [wH] at hld hm1;rw [Xd.e] at hld;rw [a8 k0];simp at hld hm1;simp [evlR,cT,h0,h2,h3,hA,hm1,hld,hO,aA];refine ⟨_,_,rfl,?_,hk1.setl (.inl (Qb _)),bW hT1,by omega,hN1.setl (by simp)⟩;rw [aA,QA nid.1,hm1,wH];simp
   ·cases h
  rename_i k0;rw [QA k0];split at h
  ·cases h
  rename_i a i1 h1;obtain ⟨e1,f1⟩:=GK p ps l e args n (i+1) a i1 h1;rw [e1];split at h
  ·rename_i k1;rw [a8 k1];split at h
   ·rename_i k2;cases h;rw [k1] at hA;obtain ⟨O2,N2,r2,m2,kp2,T2,l2,nr2⟩:=ih (i+1) a j h1 O1 (N+5+1) id (hT1.mono (by omega)) hN1 hm1;have hu:=un_ok x k1 _ a f1 k2;rw [Xd.e] at hu;have hO2:look N O2=some (.row 2 [[.int .u32 0,a7 0]]):=by rw [kp2 N (by omega) (by omega),hO]
    simp [evlR,cT,h0,h2,h3,hA,r2,hu,hO2,aA,nr2.eq,nr2.sw];refine ⟨_,_,rfl,?_,(hk1.trans kp2 (by omega)).setl (.inl (Qb _)),bW T2,by omega,nr2.setl (by simp)⟩;rw [aA,QA nid.1,m2]
   ·cases h
  rename_i k1;rw [QA k1];split at h
  ·cases h
  rename_i b i2 h2';obtain ⟨e2,f2⟩:=GK p ps l e args n i1 b i2 h2';rw [e2];split at h
  ·rename_i k2;rw [a8 k2];split at h
   ·rename_i k3;cases h;rw [k2] at hA;obtain ⟨O2,N2,r2,m2,kp2,T2,l2,nr2⟩:=ih (i+1) a i1 h1 O1 (N+5) id hT1 hN1 hm1;obtain ⟨O3,N3,r3,m3,kp3,T3,l3,nr3⟩:=ih i1 b j h2' O2 (N2+1) id (T2.mono (by omega)) nr2 m2;have hu:=XO x k2 _ _ a b f1 f2 k3;have hO3:look N O3=some (.row 2 [[.int .u32 0,a7 0]]):=by rw [kp3 N (by omega) (by omega),kp2 N (by omega) (by omega),hO]
    have u2:=T2 N2 (Qb _);have u3:=T3 N3 (Qb _);simp [evlR,cT,h0,h2,h3,hA,r2,r3,hu,hO3,aA,u2,u3];refine ⟨_,_,rfl,?_,((hk1.trans kp2 (by omega)).trans kp3 (by omega)).setl (.inl (Qb _)),bW (T3.mono (by omega)),by omega,nr3.setl (by simp)⟩;rw [aA,QA nid.1,m3]
   ·cases h
  rename_i k2;rw [QA k2];split at h
  ·cases h
  rename_i c i3 h3';obtain ⟨e3,f3⟩:=GK p ps l e args n i2 c i3 h3';rw [e3];split at h
  rotate_left
  ·cases h
  rename_i k3;cases h;have o17:=Mb a0 k0 k1 k2;rw [o17] at hA;have hA3:ari 17=3:=by decide
  rw [hA3] at hA;rw [o17] at h3;obtain ⟨O2,N2,r2,m2,kp2,T2,l2,nr2⟩:=ih (i+1) a i1 h1 O1 (N+5) id hT1 hN1 hm1;obtain ⟨O3,N3,r3,m3,kp3,T3,l3,nr3⟩:=ih i1 b i2 h2' O2 (N2+1) id (T2.mono (by omega)) nr2 m2;obtain ⟨O4,N4,r4,m4,kp4,T4,l4,nr4⟩:=ih i2 c j h3' O3 (N3+1) id (T3.mono (by omega)) nr3 m3;have hO4:look N O4=some (.row 2 [[.int .u32 0,a7 0]]):=by rw [kp4 N (by omega) (by omega),kp3 N (by omega) (by omega),kp2 N (by omega) (by omega),hO]
  have u2:=T2 N2 (Qb _);have u3:=T3 N3 (Qb _);have u4:=T4 N4 (Qb _);have hcw:(comb x a b c).1=b/\b=c:=by
   unfold comb at*;rw [QA (by omega),QA (by omega),QA (by omega),a8 o17] at k3 ⊢;split
   ·rename_i q;rw [a8 q] at k3;cases k3
   ·exact ⟨rfl,by omega⟩
  rw [hcw.1];have fin:∀y:List AV,y=[.int .u32 (if (evx p ps l e args n (i+1)).1=1 then (evx p ps l e args n i1).1 else (evx p ps l e args n i2).1),a7 b]->EvP p ps e args l id N O (if (evx p ps l e args n (i+1)).1=1 then (evx p ps l e args n i1).1 else (evx p ps l e args n i2).1) b j
    (some (.val (.agg y),⟨setl N (.row 2 [y]) O4,N4+1⟩)):=fun y hy=>by
   rw [hy];refine ⟨_,_,rfl,?_,(((hk1.trans kp2 (by omega)).trans kp3 (by omega)).trans kp4 (by omega)).setl (.inl (Qb _)),bW (T4.mono (by omega)),by omega,nr4.setl (by simp)⟩;rw [aA,QA nid.1,m4]
  by_cases z:(evx p ps l e args n (i+1)).1=1
  ·rw [z] at r2;have:=fin [.int .u32 (evx p ps l e args n i1).1,a7 b] (by rw [a8 z]);simp [evlR,cT,h0,h2,h3,hA,r2,r3,r4,hO4,aA,u2,u3,u4];exact this
  ·have:=fin [.int .u32 (evx p ps l e args n i2).1,a7 c] (by rw [QA z,hcw.2]);simp [evlR,cT,h0,h2,h3,hA,r2,r3,r4,hO4,aA,u2,u3,u4,z];rw [QA z] at this;exact this
end
theorem Nz (p:Prg) (ps:List Fld) (e:Envt) (args:List Int) (l:List Xd) (hg:∀h f,ok32 0 (eGet e h f)) (ha:∀v∈args,ok32 0 v):
  aB Φ pA [.slice 3 (l.map Xd.c),.agg (scC p ps),.agg e.c,.slice 1 (args.map c32)]=some (.val (.int .u32 (evl p ps l e args))):=by
 rw [aD rfl rfl];have hE:=OL p ps l;unfold evl;simp only [scC,Prg.e,iU,rT] at hE;by_cases z:(exE p ps l).2=0
 ·rw [z] at hE;rw [a8 z];obtain ⟨w,j,hl,hc⟩:∃w j,l.length<=24/\chk p ps l (l.length+1) 0= .ok (w,j):=by
   unfold exE at z;split at z
   ·cases z
   split at z
   ·rename_i x q;exact absurd z (L4 p ps l _ _ _ q)
   ·rename_i w i q;exact ⟨w,i,by omega,q⟩
  obtain ⟨O',N',hr,_,_,_,_⟩:=ev_ok p ps e args l hg ha (by omega) (l.length+1) 0 w j hc [(0,.row 17 [mchC p ps e args l (0:Nat)])] 1 0 (Tail_cons_iff.2 ⟨by omega,Tail.nil _⟩) (.one (by simp)) (by simp);rw [wH] at hr;simp at hr;simp [sP,scC,Prg.e,Envt.ce,hE,hr]
 ·rw [QA z];have z':¬(exE p ps l).2=0:=z;simp [sP,scC,Prg.e,Envt.ce,hE,z']
end Go.Av
