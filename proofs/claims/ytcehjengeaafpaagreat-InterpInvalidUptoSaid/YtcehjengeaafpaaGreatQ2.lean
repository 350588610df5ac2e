/-
 Tables: widths and allowed actions, on both sides.
-/
import Derived.Test.YtcehjengeaafpaaGreatL9
set_option linter.unusedVariables false
set_option linter.unusedSimpArgs false
set_option linter.constructorNameAsVariable false
namespace Go.Av
set_option maxRecDepth 4000
theorem Wp (p:Prg) (f:PrgS p) (k:Nat) (hk:k<p.Xm.length) (q:tOk p k=true):a8 Φ oW [.agg (Prg.c p),a7 k]=some (.val (.slice 1 ((kWid p p.Xm[k]).map cI))):=by
 rw [aA rfl rfl];have h:=Pt p f k;rw [q] at h;simp only [Prg.e] at h;obtain ⟨k',hk',e,o⟩:=KQ q;obtain rfl:k=k':=by omega
 have hb:=o.keys;have e0:(kWid p p.Xm[k]).map cI=p.Xm[k].keys.map fun y=>[a7 (wid p y.field.header y.field.field)]:=by simp [kWid,cI]
 rw [e0];simp [GT,Prg.e,h,hk,Tbl.e];refine (dV p.Xm[k].keys.length (fun i=>[(0,.tok 1 i)]) 1 (fun i e=>look 2 e=some (.iptr 9 [Prg.c p] 0 0)/\look 5 e=some (.app 1 ((p.Xm[k].keys.map fun y=>[a7 (wid p y.field.header y.field.field)]).take i) 0)/\look 17 e=some (.slice 3 (p.Xm[k].keys.map Xk.c))/\look 18 e=some (a7 p.Xm[k].keys.length)/\look 19 e=some (a7 i))
  (fun _=>some (Rt.val (.slice 1 (p.Xm[k].keys.map fun y=>[a7 (wid p y.field.header y.field.field)])))) ?_ ?_ 0 _ 1 (Qc _) (Qb _) ?_).trans (by simp)
 ·rintro i e n L hi hL hn ⟨h2,h5,h17,h18,h19⟩ ih;have hw:=aM i (by omega);have hv:=PG p p.Xm[k].keys[i].field.header p.Xm[k].keys[i].field.field;simp only [Prg.e] at hv;rw [Prg.e] at h2;have hn0:¬(0=n):=by omega
  have hn1:¬(n=0):=by omega
  have hm:min i p.Xm[k].keys.length=i:=by omega
  have hb:(i+1)*8<=70368744177664:=by omega
  simp [c_140_l0,Xk.e,h2,h5,h17,h18,h19,hi,hw,hn0,hm,hb,hv];exact ih _ _ (by omega) ⟨by simp [h2,Prg.e],by simp [FF hi],by simp [h17],by simp [h18],by simp⟩
 ·rintro e n L hL hn ⟨h2,h5,h17,h18,h19⟩;simp [c_140_l0,c_140_k1,h5,h18,h19,hL]
 ·simp [Prg.e]
theorem qyo (p:Prg) (f:PrgS p) (hv:∀t∈p.Xm,∀v∈t.Yb.args,ok32 0 v) (k:Nat) (hk:k<p.Xm.length) (q:tOk p k=true):a8 Φ sW [.agg (Prg.c p),a7 k]=some (.val (.slice 1 ((kWid p p.Xm[k]).map cI))):=by
 rw [aA rfl rfl];have h:=Oq p f hv k;rw [q] at h;simp only [Prg.e] at h;obtain ⟨k',hk',e,o⟩:=KQ q;obtain rfl:k=k':=by omega
 have hb:=o.keys;have e0:(kWid p p.Xm[k]).map cI=p.Xm[k].keys.map fun y=>[a7 (wid p y.field.header y.field.field)]:=by simp [kWid,cI]
 rw [e0];simp [HE,Prg.e,h];refine (dV p.Xm[k].keys.length (fun i=>[(0,.tok 1 i)]) 1 (fun i e=>look 2 e=some (.iptr 9 [Prg.c p] 0 0)/\look 1 e=some (a7 k)/\look 5 e=some (.app 1 ((p.Xm[k].keys.map fun y=>[a7 (wid p y.field.header y.field.field)]).take i) 0)/\look 6 e=some (a7 i))
  (fun _=>some (Rt.val (.slice 1 (p.Xm[k].keys.map fun y=>[a7 (wid p y.field.header y.field.field)])))) ?_ ?_ 0 _ 1 (Qc _) (Qb _) ?_).trans (by simp)
 ·rintro i e n L hi hL hn ⟨h2,h1,h5,h6⟩ ih;have hw:=aM i (by omega);have hv:=Zc p p.Xm[k].keys[i].field.header p.Xm[k].keys[i].field.field;simp only [Prg.e] at hv;rw [Prg.e] at h2;have hn0:¬(0=n):=by omega
  have hn1:¬(n=0):=by omega
  have hm:min i p.Xm[k].keys.length=i:=by omega
  have hb:(i+1)*8<=70368744177664:=by omega
  simp [c_197_l0,Xk.e,Tbl.e,h1,h2,h5,h6,hk,hi,hw,hm,hb,hv];exact ih _ _ (by omega) ⟨by simp [h2,Prg.e],by simp [h1],by simp [FF hi],by simp⟩
 ·rintro e n L hL hn ⟨h2,h1,h5,h6⟩;rw [Prg.e] at h2;simp [c_197_l0,c_197_k1,Tbl.e,h1,h2,h5,h6,hk,hL]
 ·simp [Prg.e]
def tAl (p:Prg) (t a:Int):Bool:=tOk p t&&(match at? p.Xm t with
 | some x=>x.Xx.any fun s=>decide (s=a)
 | none=>false)
theorem Vy (p:Prg) (f:PrgS p) (t a:Int):a8 Φ sL [.agg (Prg.c p),a7 t,a7 a]=some (.val (.bool (tAl p t a))):=by
 rw [aA rfl rfl];have h:=Pt p f t;simp only [Prg.e] at h;cases q:tOk p t with
 | false=>
  rw [q] at h;simp [xZ,Prg.e,h,tAl,q]
 | true=>
 rw [q] at h;obtain ⟨k,hk,rfl,o⟩:=KQ q;have hK:tAl p (k:Int) a=p.Xm[k].Xx.any fun s=>decide (s=a):=by simp [tAl,q,hk]
 rw [hK];have hb:=o.acts;simp [xZ,Prg.e,h,hk,Tbl.e];refine (dV p.Xm[k].Xx.length (fun _=>[]) 0 (fun i e=>look 2 e=some (a7 a)/\look 18 e=some (.slice 1 (p.Xm[k].Xx.map cI))/\look 19 e=some (a7 p.Xm[k].Xx.length)/\look 20 e=some (a7 i))
  (fun i=>some (Rt.val (.bool ((p.Xm[k].Xx.drop i).any fun s=>decide (s=a))))) ?_ ?_ 0 _ 0 (Qc _) (Qb _) ?_).trans (by simp)
 ·rintro i e n L hi hL _ ⟨h2,h18,h19,h20⟩ ih;have hw:=aM i (by omega);rw [Qi hi,EZ];by_cases z:p.Xm[k].Xx[i]=a
  ·generalize hX:some (Rt.val (AV.bool (decide (p.Xm[k].Xx[i]=a) || (p.Xm[k].Xx.drop (i+1)).any fun s=>decide (s=a))))=X;simp [c_143_l0,cI,h2,h18,h19,h20,hi,z];rw [<- hX];simp [z]
  ·rw [show (decide (p.Xm[k].Xx[i]=a) || (p.Xm[k].Xx.drop (i+1)).any fun s=>decide (s=a))=(p.Xm[k].Xx.drop (i+1)).any fun s=>decide (s=a) by simp [z]];generalize hX:some (Rt.val (AV.bool ((p.Xm[k].Xx.drop (i+1)).any fun s=>decide (s=a))))=X;simp [c_143_l0,cI,h2,h18,h19,h20,hi,z,hw];rw [<- hX];exact ih _ _ (Qc _) ⟨by simp [h2],by simp [h18],by simp [h19],by simp⟩
 ·rintro e n L hL _ ⟨h2,h18,h19,h20⟩;simp [c_143_l0,c_143_k1,h19,h20,hL]
 ·simp
theorem Wm (p:Prg) (f:PrgS p) (hv:∀t∈p.Xm,∀v∈t.Yb.args,ok32 0 v) (t a:Int):a8 Φ sK [.agg (Prg.c p),a7 t,a7 a]=some (.val (.bool (tAl p t a))):=by
 rw [aA rfl rfl];have h:=Oq p f hv t;simp only [Prg.e] at h;cases q:tOk p t with
 | false=>
  rw [q] at h;simp [xT,Prg.e,h,tAl,q]
 | true=>
 rw [q] at h;obtain ⟨k,hk,rfl,o⟩:=KQ q;have hK:tAl p (k:Int) a=p.Xm[k].Xx.any fun s=>decide (s=a):=by simp [tAl,q,hk]
 have hb:=o.acts;have hx:=Pk p.Xm[k].Xx a (by omega);rw [hK,<- PC];simp [xT,Prg.e,Tbl.e,h,hk,hx]
def pmI (n k:Nat):Int:=2^k - 2^(k - n)
theorem Ki:∀k:Nat,k<33->∀n:Nat,n<33->n<=k->MV .u32 (2^k - 1) (ishr .u32 (2^k - 1) (n:Int))=pmI n k:=by decide+kernel
theorem Bb (n k:Nat) (h:n<=k) (h1:1<=k) (h2:k<=32):a8 Φ BJ [a7 n,a7 k]=some (.val (.int .u32 (pmI n k))):=by
 rw [aA rfl rfl];have hv:=V4 k;have hm:=j6 k;have hw:wBad (k:Int)=false:=wBad_false.2 ⟨by omega,by omega⟩;have hM:cD (k:Int)=2^k - 1:=by simp [cD,hw]
 rw [hw] at hv;rw [hM] at hm;have hp:=Ki k (by omega) n (by omega) h;have n1:¬((n:Int)<0):=by omega
 have n2:¬((k:Int)<n):=by omega
 simp [J2,hv,hm,n1,n2];exact hp
theorem Nb:∀k:Nat,k<33->∀n:Nat,n<33->n<=k->IntKind.wrap .u32 (IntKind.wrap .u64 (2^k - 2^(k - n)))=pmI n k:=by decide+kernel
theorem YN (n k:Nat) (h:n<=k) (h1:1<=k) (h2:k<=32):a8 Φ BV [a7 n,a7 k]=some (.val (.int .u32 (pmI n k))):=by
 rw [aA rfl rfl];have hv:=V2 k;have hw:wBad (k:Int)=false:=wBad_false.2 ⟨by omega,by omega⟩;rw [hw] at hv;have p1:=VK k (by omega);have p2:=VK (k - n) (by omega);have hs:IntKind.wrap .i64 ((k:Int) - n)=((k - n:Nat):Int):=by
  rw [show (k:Int) - n=((k - n:Nat):Int) by omega];exact cN (by omega) (by omega)
 have n1:¬((n:Int)<0):=by omega
 have n2:¬((k:Int)<n):=by omega
 simp [J8,hv,p1,p2,n1,n2,hs];exact Nb k (by omega) n (by omega) h
def plG (m:Int) (k:Nat) (n:Nat):Option Int:=if pmI n k=m then some (n:Int) else none
def plE (m w:Int):Option Int:=if wBad w then none else fe (plG m w.toNat) (w.toNat+1) 0
def plV (o:Option Int):Rt:= .val (.tup [a7 (o.getD 0),.bool o.isSome])
theorem Fs (m w:Int):a8 Φ AR [.int .u32 m,a7 w]=some (plV (plE m w)):=by
 rw [aA rfl rfl];have hv:=V4 w;cases q:wBad w with
 | true=>
  rw [q] at hv;simp [yN,hv,plE,q,plV]
 | false=>
 rw [q] at hv;obtain ⟨w1,w2⟩:=wBad_false.1 q;obtain ⟨k,rfl⟩:∃k:Nat,w=k:=⟨w.toNat,by omega⟩;have hw1:=aM k (by omega);have hE:plE m (k:Int)=fe (plG m k) (k+1) 0:=by simp [plE,q]
 rw [hE];simp [yN,hv,hw1];refine dV (k+1) (fun _=>[]) 0 (fun i e=>look 0 e=some (.int .u32 m)/\look 1 e=some (a7 k)/\look 12 e=some (a7 ((k:Int)+1))/\look 13 e=some (a7 i))
  (fun i=>some (plV (fe (plG m k) (k+1) i))) ?_ ?_ 0 _ 0 (Qc _) (Qb _) ?_
 ·rintro i e n L hi hL _ ⟨h0,h1,h12,h13⟩ ih;have hw:=aM i (by omega);have hp:=Bb i k (by omega) (by omega) (by omega);have hlt:(i:Int)<(k:Int)+1:=by omega
  by_cases z:pmI i k=m
  ·rw [aU (x:=(i:Int)) hi (by simp [plG,z])];subst z;simp [c_242_l0,h0,h1,h12,h13,hp,hlt,plV]
  ·rw [cM hi (by simp [plG,z])];generalize hX:some (plV (fe (plG m k) (k+1) (i+1)))=X;simp [c_242_l0,h0,h1,h12,h13,hp,hlt,z,hw];rw [<- hX];exact ih _ _ (Qc _) ⟨by simp [h0],by simp [h1],by simp [h12],by simp⟩
 ·rintro e n L hL _ ⟨h0,h1,h12,h13⟩;rw [dI];simp [c_242_l0,c_242_k1,h12,h13,hL,plV]
 ·simp
theorem Bx (m w:Int):a8 Φ B9 [.int .u32 m,a7 w]=some (plV (plE m w)):=by
 rw [aA rfl rfl];have hv:=V2 w;cases q:wBad w with
 | true=>
  rw [q] at hv;simp [yV];rw [bY];by_cases z:0<=w
  ·simp [c_306_l0,c_306_k1,hv,z,plE,q,plV]
  ·simp [c_306_l0,c_306_k1,z,plE,q,plV]
 | false=>
 rw [q] at hv;obtain ⟨w1,w2⟩:=wBad_false.1 q;obtain ⟨k,rfl⟩:∃k:Nat,w=k:=⟨w.toNat,by omega⟩;have hE:plE m (k:Int)=fe (plG m k) (k+1) 0:=by simp [plE,q]
 rw [hE];simp [yV];refine dV (k+1) (fun _=>[]) 0 (fun i e=>look 0 e=some (.int .u32 m)/\look 1 e=some (a7 k)/\look 6 e=some (a7 i))
  (fun i=>some (plV (fe (plG m k) (k+1) i))) ?_ ?_ 0 _ 0 (Qc _) (Qb _) ?_
 ·rintro i e n L hi hL _ ⟨h0,h1,h6⟩ ih;have hw:=aM i (by omega);have hp:=YN i k (by omega) (by omega) (by omega);have hle:i<=k:=by omega
  by_cases z:pmI i k=m
  ·rw [aU (x:=(i:Int)) hi (by simp [plG,z])];subst z;simp [c_306_l0,h0,h1,h6,hv,hp,hle,plV]
  ·rw [cM hi (by simp [plG,z])];generalize hX:some (plV (fe (plG m k) (k+1) (i+1)))=X;simp [c_306_l0,h0,h1,h6,hv,hp,hle,z,hw];rw [<- hX];exact ih _ _ (Qc _) ⟨by simp [h0],by simp [h1],by simp⟩
 ·rintro e n L hL _ ⟨h0,h1,h6⟩;rw [dI];have hgt:¬((k:Int)+1<=(k:Int)):=by omega
  simp [c_306_l0,c_306_k1,h1,h6,hL,hgt,plV]
 ·simp
theorem Xh.ce (m:Xh):Xh.c m=[.int .u32 m.value,.int .u32 m.Yd]:=by simp [Xh.c]
def keyK (m:Xh) (kind w:Int):Int:=
 if fits m.value w=false\/fits m.Yd w=false then 9
 else if m.value.toNat&&& m.Yd.toNat≠m.value.toNat then 5
 else if kind=1/\m.Yd≠cD w then 11
 else if kind=2/\(plE m.Yd w).isSome=false then 11 else 0
theorem Fc (m:Xh) (kind w:Int) (h1:ok32 0 m.value) (h2:ok32 0 m.Yd):a8 Φ zX [.agg (Xh.c m),a7 kind,a7 w]=some (.val (a7 (keyK m kind w))):=by
 rw [aA rfl rfl];have f1:=P2 m.value w;have f2:=P2 m.Yd w;have hm:=j6 w;have hp:=Fs m.Yd w;have ha:=Uz h1 h2;unfold keyK;cases q1:fits m.value w with
 | false=>rw [q1] at f1;simp [gP,Xh.ce,f1]
 | true=>
 rw [q1] at f1;cases q2:fits m.Yd w with
 | false=>rw [q2] at f2;simp [gP,Xh.ce,f1,f2]
 | true=>
 rw [q2] at f2;by_cases z:MV .u32 m.value m.Yd=0
 rotate_left
 ·have z':¬(m.value.toNat&&& m.Yd.toNat=m.value.toNat):=fun h=>z (ha.2 h)
  simp [gP,Xh.ce,f1,f2,z,z']
 have z':=ha.1 z;by_cases k1:kind=1
 ·subst k1;by_cases y:m.Yd=cD w
  ·rw [y] at f2 z z';simp [gP,Xh.ce,f1,f2,z,z',hm,y]
  ·simp [gP,Xh.ce,f1,f2,z,z',hm,y]
 by_cases k2:kind=2
 ·subst k2;cases y:plE m.Yd w with
  | none=>rw [y] at hp;simp [plV] at hp;simp [gP,Xh.ce,f1,f2,z,z',hp]
  | some x=>rw [y] at hp;simp [plV] at hp;simp [gP,Xh.ce,f1,f2,z,z',hp]
 simp [gP,Xh.ce,f1,f2,z,z',k1,k2]
theorem Ij (m:Xh) (kind w:Int) (h1:ok32 0 m.value) (h2:ok32 0 m.Yd):a8 Φ AE [.agg (Xh.c m),a7 w,a7 kind]=some (.val (a7 (keyK m kind w))):=by
 rw [aA rfl rfl];have f1:=Rl m.value w h1;have f2:=Rl m.Yd w h2;have hm:=qt9 w;have hp:=Bx m.Yd w;have ha:=Wu h1 h2;simp [plV] at hp;unfold keyK;cases q1:fits m.value w with
 | false=>rw [q1] at f1;simp [gQ,Xh.ce,hp,f1]
 | true=>
 rw [q1] at f1;cases q2:fits m.Yd w with
 | false=>rw [q2] at f2;simp [gQ,Xh.ce,hp,f1,f2]
 | true=>
 rw [q2] at f2;by_cases z:iand .u32 m.value m.Yd=m.value
 rotate_left
 ·have z':¬(m.value.toNat&&& m.Yd.toNat=m.value.toNat):=fun h=>z (ha.2 h)
  simp [gQ,Xh.ce,hp,f1,f2,z,z']
 have z':=ha.1 z;by_cases k1:kind=1
 ·subst k1;by_cases y:m.Yd=cD w
  ·rw [y] at hp f2 z z';simp [gQ,Xh.ce,hp,f1,f2,z,z',hm,y]
  ·simp [gQ,Xh.ce,hp,f1,f2,z,z',hm,y]
 by_cases k2:kind=2
 ·subst k2;cases y:plE m.Yd w with
  | none=>rw [y] at hp;simp [gQ,Xh.ce,f1,f2,z,z',hp]
  | some x=>rw [y] at hp;simp [gQ,Xh.ce,f1,f2,z,z',hp]
 simp [gQ,Xh.ce,hp,f1,f2,z,z',k1,k2]
structure EntS (x:Entry):Prop where
 kl:x.keys.length<2^40
 ks:∀m∈x.keys,ok32 0 m.value/\ok32 0 m.Yd
 al:x.call.args.length<2^40
 ar:∀v∈x.call.args,ok32 0 v
def entF (p:Prg) (t:Int) (x:Entry):Int:=if x.Xs<0 then 9 else if 255<x.Xs then 9 else if x.Xs≠0/\D8 p t≠3 then 11 else if tAl p t x.call.Xy=false then 8 else j9 p x.call
def entG (p:Prg) (tb:Tbl) (x:Entry) (i:Nat):Option Int:=match x.keys[i]?,tb.keys[i]? with
 | some m,some k=>if keyK m k.kind (wid p k.field.header k.field.field)=0 then none else some (keyK m k.kind (wid p k.field.header k.field.field))
 | _,_=>none
def entE (p:Prg) (t:Int) (x:Entry):Int:=if (tblE p t).2≠0 then (tblE p t).2 else match at? p.Xm t with
 | some tb=>if x.keys.length≠tb.keys.length then 2 else (fe (entG p tb x) tb.keys.length 0).getD (entF p t x)
 | none=>0
theorem Fg (p:Prg) (f:PrgS p) (t:Int) (x:Entry) (s:EntS x) (e:Env) (n:Nat) (h1:look 1 e=some (a7 t)) (h3:look 3 e=some (.iptr 9 [Prg.c p] 0 0)) (h5:look 5 e=some (.iptr 4 [Entry.c x] 0 0)):
  go Φ (finP [.tmp 6]) [.c c_74_k1] .normal ⟨e,⟨[],n⟩⟩=some (.val (a7 (entF p t x))):=by
 have hk:=De p f t;have ha:=Vy p f t x.call.Xy;have hc:=VA p f x.call s.al;simp only [Prg.e,Xb.ce] at hk ha hc;rw [Prg.e] at h3;rw [Entry.ce] at h5;unfold entF;by_cases p0:x.Xs<0
 ·simp [c_74_k1,h5,p0]
 by_cases p1:255<x.Xs
 ·simp [c_74_k1,h5,p0,p1]
 by_cases p2:x.Xs=0
 ·cases q:tAl p t x.call.Xy with
  | false=>rw [q] at ha;simp [c_74_k1,h1,h3,h5,p2,ha]
  | true=>rw [q] at ha;simp [c_74_k1,h1,h3,h5,p2,ha,hc]
 by_cases p3:D8 p t=3
 ·cases q:tAl p t x.call.Xy with
  | false=>rw [q] at ha;simp [c_74_k1,h1,h3,h5,p0,p1,p2,p3,hk,ha]
  | true=>rw [q] at ha;simp [c_74_k1,h1,h3,h5,p0,p1,p2,p3,hk,ha,hc]
 ·simp [c_74_k1,h1,h3,h5,p0,p1,p2,p3,hk]
theorem Ff (p:Prg) (f:PrgS p) (t:Int) (x:Entry) (s:EntS x):a8 Φ MC [.agg (Prg.c p),a7 t,.agg (Entry.c x)]=some (.val (a7 (entE p t x))):=by
 rw [aA rfl rfl];have h:=Sz p f t;simp only [Prg.e] at h;by_cases z:(tblE p t).2=0
 rotate_left
 ·simp [F2,Prg.e,Entry.ce,h,z,entE]
 have q:tOk p t=true:=by simp [tOk,z]
 obtain ⟨k,hk,rfl,o⟩:=KQ q;have hw:=Wp p f k hk q;simp only [Prg.e] at hw;have hb:=o.keys;by_cases y:x.keys.length=p.Xm[k].keys.length
 rotate_left
 ·simp [F2,Prg.e,Entry.ce,Tbl.e,hk,h,z,hw,y,entE]
 have hE:entE p (k:Int) x=(fe (entG p p.Xm[k] x) p.Xm[k].keys.length 0).getD (entF p k x):=by simp [entE,z,hk,y]
 rw [hE];simp [F2,Prg.e,Entry.ce,Tbl.e,hk,h,z,hw,y];refine dV p.Xm[k].keys.length (fun _=>[]) 0 (fun i e=>look 1 e=some (a7 k)/\look 3 e=some (.iptr 9 [Prg.c p] 0 0)/\look 5 e=some (.iptr 4 [Entry.c x] 0 0)/\look 9 e=some (.slice 3 (p.Xm[k].keys.map Xk.c))/\look 10 e=some (.slice 1 ((kWid p p.Xm[k]).map cI))/\look 39 e=some (.slice 2 (x.keys.map Xh.c))/\look 40 e=some (a7 p.Xm[k].keys.length)/\look 41 e=some (a7 i))
  (fun i=>some (Rt.val (a7 ((fe (entG p p.Xm[k] x) p.Xm[k].keys.length i).getD (entF p k x))))) ?_ ?_ 0 _ 0 (Qc _) (Qb _) ?_
 ·rintro i e n L hi hL _ ⟨h1,h3,h5,h9,h10,h39,h40,h41⟩ ih;have hi2:i<x.keys.length:=by omega
  have hi3:i<(kWid p p.Xm[k]).length:=by simp [kWid];exact hi
  have hkw:(kWid p p.Xm[k])[i]=wid p p.Xm[k].keys[i].field.header p.Xm[k].keys[i].field.field:=by simp [kWid]
  have hw:=aM i (by omega);have hm:=s.ks _ (Qd hi2);have hc:=Fc x.keys[i] p.Xm[k].keys[i].kind (wid p p.Xm[k].keys[i].field.header p.Xm[k].keys[i].field.field) hm.1 hm.2;simp only [Xh.ce] at hc;by_cases v:keyK x.keys[i] p.Xm[k].keys[i].kind (wid p p.Xm[k].keys[i].field.header p.Xm[k].keys[i].field.field)=0
  ·rw [cM hi (by simp [entG,hi,hi2,v])];rw [v] at hc;generalize hX:some (Rt.val (a7 ((fe (entG p p.Xm[k] x) p.Xm[k].keys.length (i+1)).getD (entF p k x))))=X;simp [c_74_l0,Xk.e,Xh.ce,cI,h9,h10,h39,h40,h41,hi,hi2,hi3,hkw,hc,hw];rw [<- hX];exact ih _ _ (Qc _) ⟨by simp [h1],by simp [h3],by simp [h5],by simp [h9],by simp [h10],by simp [h39],by simp [h40],by simp⟩
  ·rw [aU (x:=keyK x.keys[i] p.Xm[k].keys[i].kind (wid p p.Xm[k].keys[i].field.header p.Xm[k].keys[i].field.field)) hi (by simp [entG,hi,hi2,v])];simp [c_74_l0,Xk.e,Xh.ce,cI,h9,h10,h39,h40,h41,hi,hi2,hi3,hkw,hc,v]
 ·rintro e n L hL _ ⟨h1,h3,h5,h9,h10,h39,h40,h41⟩;rw [dI];simp [c_74_l0,h40,h41,hL];exact Fg p f k x s _ _ (by simp [h1]) (by simp [h3]) (by simp [h5])
 ·simp [Prg.e,Entry.ce]
theorem Ac (p:Prg) (f:PrgS p) (hv:∀t∈p.Xm,∀v∈t.Yb.args,ok32 0 v) (t:Int) (x:Entry) (s:EntS x) (e:Env) (n:Nat) (h1:look 1 e=some (a7 t)) (h3:look 3 e=some (.iptr 9 [Prg.c p] 0 0)) (h5:look 5 e=some (.iptr 4 [Entry.c x] 0 0)):
  go Φ (finP [.tmp 6]) [.c c_118_k1] .normal ⟨e,⟨[],n⟩⟩=some (.val (a7 (entF p t x))):=by
 have hk:=Bt p f hv t;have ha:=Wm p f hv t x.call.Xy;have hc:=Ph p f x.call s.al s.ar;simp only [Prg.e,Xb.ce] at hk ha hc;rw [Prg.e] at h3;rw [Entry.ce] at h5;unfold entF;by_cases p0:x.Xs<0
 ·simp [c_118_k1,h5,p0]
 by_cases p1:255<x.Xs
 ·simp [c_118_k1,h5,p0,p1]
 by_cases p2:x.Xs=0
 ·cases q:tAl p t x.call.Xy with
  | false=>rw [q] at ha;simp [c_118_k1,h1,h3,h5,p2,ha]
  | true=>rw [q] at ha;simp [c_118_k1,h1,h3,h5,p2,ha,hc]
 have p4:0<x.Xs:=by omega
 by_cases p3:D8 p t=3
 ·cases q:tAl p t x.call.Xy with
  | false=>rw [q] at ha;simp [c_118_k1,h1,h3,h5,p0,p1,p2,p3,p4,hk,ha]
  | true=>rw [q] at ha;simp [c_118_k1,h1,h3,h5,p0,p1,p2,p3,p4,hk,ha,hc]
 ·simp [c_118_k1,h1,h3,h5,p0,p1,p2,p3,p4,hk]
theorem Ab (p:Prg) (f:PrgS p) (hv:∀t∈p.Xm,∀v∈t.Yb.args,ok32 0 v) (t:Int) (x:Entry) (s:EntS x):a8 Φ zQ [.agg (Prg.c p),a7 t,.agg (Entry.c x)]=some (.val (a7 (entE p t x))):=by
 rw [aA rfl rfl];have h:=Rn p f hv t;simp only [Prg.e] at h;by_cases z:(tblE p t).2=0
 rotate_left
 ·simp [rL,Prg.e,Entry.ce,h,z,entE]
 have q:tOk p t=true:=by simp [tOk,z]
 obtain ⟨k,hk,rfl,o⟩:=KQ q;have hw:=qyo p f hv k hk q;simp only [Prg.e] at hw;have hb:=o.keys;have hkl:(kWid p p.Xm[k]).length=p.Xm[k].keys.length:=by simp [kWid]
 by_cases y:x.keys.length=p.Xm[k].keys.length
 rotate_left
 ·simp [rL,Prg.e,Entry.ce,hk,h,z,hw,y,hkl,entE]
 have hE:entE p (k:Int) x=(fe (entG p p.Xm[k] x) p.Xm[k].keys.length 0).getD (entF p k x):=by simp [entE,z,hk,y]
 rw [hE];simp [rL,Prg.e,Entry.ce,h,z,hw,y,hkl];refine dV p.Xm[k].keys.length (fun _=>[]) 0 (fun i e=>look 1 e=some (a7 k)/\look 3 e=some (.iptr 9 [Prg.c p] 0 0)/\look 5 e=some (.iptr 4 [Entry.c x] 0 0)/\look 9 e=some (.slice 1 ((kWid p p.Xm[k]).map cI))/\look 10 e=some (a7 i))
  (fun i=>some (Rt.val (a7 ((fe (entG p p.Xm[k] x) p.Xm[k].keys.length i).getD (entF p k x))))) ?_ ?_ 0 _ 0 (Qc _) (Qb _) ?_
 ·rintro i e n L hi hL _ ⟨h1,h3,h5,h9,h10⟩ ih;have hi2:i<x.keys.length:=by omega
  have hi3:i<(kWid p p.Xm[k]).length:=by omega
  have hkw:(kWid p p.Xm[k])[i]=wid p p.Xm[k].keys[i].field.header p.Xm[k].keys[i].field.field:=by simp [kWid]
  have hw:=aM i (by omega);have hm:=s.ks _ (Qd hi2);have hc:=Ij x.keys[i] p.Xm[k].keys[i].kind (wid p p.Xm[k].keys[i].field.header p.Xm[k].keys[i].field.field) hm.1 hm.2;simp only [Xh.ce] at hc;rw [Prg.e] at h3;rw [Entry.ce] at h5;by_cases v:keyK x.keys[i] p.Xm[k].keys[i].kind (wid p p.Xm[k].keys[i].field.header p.Xm[k].keys[i].field.field)=0
  ·rw [cM hi (by simp [entG,hi,hi2,v])];rw [v] at hc;generalize hX:some (Rt.val (a7 ((fe (entG p p.Xm[k] x) p.Xm[k].keys.length (i+1)).getD (entF p k x))))=X;simp [c_118_l0,Xk.e,Tbl.e,Xh.ce,cI,h1,h3,h5,h9,h10,hk,hkl,hi,hi2,hkw,hc,hw];rw [<- hX];exact ih _ _ (Qc _) ⟨by simp [h1],by simp [h3,Prg.e],by simp [h5,Entry.ce],by simp [h9],by simp⟩
  ·rw [aU (x:=keyK x.keys[i] p.Xm[k].keys[i].kind (wid p p.Xm[k].keys[i].field.header p.Xm[k].keys[i].field.field)) hi (by simp [entG,hi,hi2,v])];simp [c_118_l0,Xk.e,Tbl.e,Xh.ce,cI,h1,h3,h5,h9,h10,hk,hkl,hi,hi2,hkw,hc,v]
 ·rintro e n L hL _ ⟨h1,h3,h5,h9,h10⟩;rw [dI];simp [c_118_l0,h9,h10,hkl,hL];exact Ac p f hv k x s _ _ (by simp [h1]) (by simp [h3]) (by simp [h5])
 ·simp [Prg.e,Entry.ce]
def iX (p:Prg) (t:Int) (c:Xb):Int:=if tAl p t c.Xy=false then 8 else j9 p c
theorem Ch (p:Prg) (f:PrgS p) (t:Int) (c:Xb) (hc:c.args.length<2^40):a8 Φ A1 [.agg (Prg.c p),a7 t,.agg (Xb.c c)]=some (.val (a7 (iX p t c))):=by
 rw [aA rfl rfl];have ha:=Vy p f t c.Xy;have hk:=VA p f c hc;simp only [Prg.e,Xb.ce] at ha hk;cases q:tAl p t c.Xy with
 | false=>rw [q] at ha;simp [yA,Prg.e,Xb.ce,ha,iX,q]
 | true=>rw [q] at ha;simp [yA,Prg.e,Xb.ce,ha,hk,iX,q]
theorem V' (p:Prg) (f:PrgS p) (hv:∀t∈p.Xm,∀v∈t.Yb.args,ok32 0 v) (t:Int) (c:Xb) (hc:c.args.length<2^40) (hr:∀v∈c.args,ok32 0 v):a8 Φ M8 [.agg (Prg.c p),a7 t,.agg (Xb.c c)]=some (.val (a7 (iX p t c))):=by
 rw [aA rfl rfl];have ha:=Wm p f hv t c.Xy;have hk:=Ph p f c hc hr;simp only [Prg.e,Xb.ce] at ha hk;cases q:tAl p t c.Xy with
 | false=>rw [q] at ha;simp [LI,Prg.e,Xb.ce,ha,iX,q]
 | true=>rw [q] at ha;simp [LI,Prg.e,Xb.ce,ha,hk,iX,q]
def sk (x y:Entry):Bool:=decide (x.keys=y.keys/\x.Xs=y.Xs)
theorem Kg (x y:Entry) (hb:x.keys.length<2^40):a8 Φ FA [.agg [.slice 2 (x.keys.map Xh.c),a7 x.Xs,a7 x.call.Xy,.slice 1 (x.call.args.map c32)],.agg [.slice 2 (y.keys.map Xh.c),a7 y.Xs,a7 y.call.Xy,.slice 1 (y.call.args.map c32)]]=some (.val (.bool (sk x y))):=qu6 _ _ _ _ _ _ hb
theorem Nc (x y:Entry) (hb:x.keys.length<2^40):a8 Φ oZ [.agg [.slice 2 (x.keys.map Xh.c),a7 x.Xs,a7 x.call.Xy,.slice 1 (x.call.args.map c32)],.agg [.slice 2 (y.keys.map Xh.c),a7 y.Xs,a7 y.call.Xy,.slice 1 (y.call.args.map c32)]]=some (.val (.bool (sk x y))):=UG _ _ _ _ _ _ hb
theorem Kc (x r:Rw) (hb:x.entry.keys.length<2^40):a8 Φ kF [.agg (Rw.c x),.iptr 5 [Rw.c r] 0 0]=some (.val (.bool (sk x.entry r.entry))):=by
 rw [aA rfl rfl];have h:=Kg x.entry r.entry hb;simp [GV,Rw.ce,h]
theorem XW (l:List Rw) (r:Rw) (hl:l.length<2^40) (hs:∀x∈l,x.entry.keys.length<2^40):a8 Φ zZ [.slice 5 (l.map Rw.c),.func (.func kF) [] [.iptr 5 [Rw.c r] 0 0]]=some (.val (a7 (ix (fun x=>sk x.entry r.entry) l 0))):=by
 rw [aA rfl rfl];simp [GU];refine (eY l.length (fun i e=>look 0 e=some (.slice 5 (l.map Rw.c))/\look 1 e=some (.func (.func kF) [] [.iptr 5 [Rw.c r] 0 0])/\look 7 e=some (a7 l.length)/\look 8 e=some (a7 i))
  (fun i=>some (.val (a7 (ix (fun x=>sk x.entry r.entry) l i)))) ?_ ?_ 0 _ (Qc _) ?_).trans (by simp)
 ·rintro i e L hi hL ⟨h0,h1,h7,h8⟩ ih;have hw:=aM i (by omega);have hd:=Kc l[i] r (hs _ (Qd hi));simp only [Rw.ce] at hd h1;cases z:sk l[i].entry r.entry with
  | true=>
   rw [PF hi (by simpa using z)];rw [z] at hd;simp [c_145_l0,Rw.ce,h0,h1,h7,h8,hi,hd]
  | false=>
   rw [P4 hi (by simpa using z)];rw [z] at hd;simp [c_145_l0,Rw.ce,h0,h1,h7,h8,hi,hd,hw];exact ih _ ⟨by simp [h0],by simp [h1,Rw.ce],by simp [h7],by simp⟩
 ·rintro e L hL ⟨h0,h1,h7,h8⟩;rw [PD];simp [c_145_l0,c_145_k1,h7,h8,hL]
 ·simp
theorem qzl (l:List Rw) (r:Rw) (hl:l.length<2^40) (hs:∀x∈l,x.entry.keys.length<2^40):a8 Φ F9 [.slice 5 (l.map Rw.c),.func (.func kF) [] [.iptr 5 [Rw.c r] 0 0]]=some (.val (.bool (l.any fun x=>sk x.entry r.entry))):=by
 rw [aA rfl rfl];have h:=XW l r hl hs;rw [<- PC];simp [Q5,h]
theorem Br (l:List Rw) (x:Entry) (hl:l.length<2^40) (hs:∀x∈l,x.entry.keys.length<2^40):a8 Φ sJ [.slice 5 (l.map Rw.c),.agg (Entry.c x)]=some (.val (.bool (l.any fun y=>sk y.entry x))):=by
 rw [aA rfl rfl];generalize hY:some (Rt.val (AV.bool (l.any fun y=>sk y.entry x)))=Y;simp [GP,Entry.ce];rw [show Y=some (Rt.val (AV.bool ((l.drop 0).any fun y=>sk y.entry x))) by rw [<- hY];simp];refine eY l.length (fun i e=>look 0 e=some (.slice 5 (l.map Rw.c))/\look 3 e=some (.iptr 4 [Entry.c x] 0 0)/\look 5 e=some (a7 i))
  (fun i=>some (Rt.val (.bool ((l.drop i).any fun y=>sk y.entry x)))) ?_ ?_ 0 _ (Qc _) ?_
 ·rintro i e L hi hL ⟨h0,h3,h5⟩ ih;have hw:=aM i (by omega);have hd:=Nc l[i].entry x (hs _ (Qd hi));rw [Entry.ce] at h3;rw [Qi hi,EZ];cases z:sk l[i].entry x with
  | true=>
   rw [z] at hd;rw [OE];simp [c_119_l0,Rw.ce,h0,h3,h5,hi,hd]
  | false=>
   rw [z] at hd;rw [LA];generalize hX:some (Rt.val (AV.bool ((l.drop (i+1)).any fun y=>sk y.entry x)))=X;simp [c_119_l0,Rw.ce,h0,h3,h5,hi,hd,hw];rw [<- hX];exact ih _ ⟨by simp [h0],by simp [h3,Entry.ce],by simp⟩
 ·rintro e L hL ⟨h0,h3,h5⟩;simp [c_119_l0,c_119_k1,h0,h5,hL]
 ·simp [Entry.ce]
def ordL:List Rw->Int->Option Int
 | [],a=>some a
 | r::l,a=>if r.id<=a then none else ordL l r.id
def rowG (p:Prg) (t:Int) (l:List Rw) (i:Nat):Option Int:=(l[i]?).bind fun r=>if entE p t r.entry≠0 then some (entE p t r.entry) else if (l.take i).any (fun y=>sk y.entry r.entry)=true then some 7 else none
def tabK (p:Prg) (t:Int) (l:List Rw) (next:Int) (z:Int):Option Int->Int
 | none=>14
 | some a=>if next<=a then 14 else if 1073741824<next then 14 else (fe (rowG p t l) l.length 0).getD z
def rowS (r:Rw):Prop:=EntS r.entry
theorem ct_b (p:Prg) (f:PrgS p) (t:Int) (l:List Rw) (next:Int) (d:Xb) (hl:l.length<2^40) (hs:∀r∈l,rowS r) (hd:d.args.length<2^40) (a:Int) (ha:0<=a) (e:Env) (n:Nat)
  (h1:look 1 e=some (a7 t)) (h2:look 2 e=some (.slice 5 (l.map Rw.c))) (h3:look 3 e=some (a7 next)) (h5:look 5 e=some (.iptr 9 [Prg.c p] 0 0)) (h9:look 9 e=some (.iptr 2 [Xb.c d] 0 0)) (h11:look 11 e=some (a7 a)):
  go Φ (finP [.tmp 10]) [.c c_100_k3] .normal ⟨e,⟨[],n⟩⟩=some (.val (a7 (tabK p t l next (iX p t d) (some a)))):=by
 unfold tabK;dsimp only;by_cases z0:next<=a
 ·simp [c_100_k3,h3,h11,z0]
 have z1:¬next<1:=by omega
 by_cases z2:1073741824<next
 ·simp [c_100_k3,h3,h11,z0,z1,z2]
 rw [QA z0,QA z2];simp [c_100_k3,h2,h3,h11,z0,z1,z2];refine dV l.length (fun _=>[]) 0 (fun i e=>look 1 e=some (a7 t)/\look 2 e=some (.slice 5 (l.map Rw.c))/\look 5 e=some (.iptr 9 [Prg.c p] 0 0)/\look 9 e=some (.iptr 2 [Xb.c d] 0 0)/\look 50 e=some (.slice 5 (l.map Rw.c))/\look 51 e=some (a7 l.length)/\look 52 e=some (a7 i))
  (fun i=>some (Rt.val (a7 ((fe (rowG p t l) l.length i).getD (iX p t d))))) ?_ ?_ 0 _ n (Qc _) (Qc _) ?_
 ·rintro i e n L hi hL _ ⟨h1,h2,h5,h9,h50,h51,h52⟩ ih;have hw:=aM i (by omega);have hm:=hs _ (Qd hi);have hc:=Ff p f t l[i].entry hm;have hi':i<=l.length:=by omega
  have hx:a8 Φ F9 [.slice 5 ((l.map Rw.c).take i),.func (.func kF) [] [.iptr 5 [Rw.c l[i]] 0 0]]=some (.val (.bool ((l.take i).any fun x=>sk x.entry l[i].entry))):=by
   rw [<- EY];exact qzl (l.take i) l[i] (by simp;omega) fun x hx=>(hs x (Qu hx)).kl
  simp only [Prg.e,Entry.ce] at hc;rw [Rw.ce] at hx;rw [Prg.e] at h5;by_cases v:entE p t l[i].entry=0
  ·rw [v] at hc;cases w:(l.take i).any fun x=>sk x.entry l[i].entry with
   | true=>
    rw [w] at hx;rw [aU (x:=(7:Int)) hi (by simp only [rowG,Qa hi,eM];rw [QA (by simp [v]),a9 w])];simp [c_100_l1,Rw.ce,h1,h2,h5,h50,h51,h52,hi,hi',hc,hx]
   | false=>
    rw [w] at hx;rw [cM hi (by simp only [rowG,Qa hi,eM];rw [QA (by simp [v]),QA (by rw [w];decide)])];generalize hX:some (Rt.val (a7 ((fe (rowG p t l) l.length (i+1)).getD (iX p t d))))=X;simp [c_100_l1,Rw.ce,h1,h2,h5,h50,h51,h52,hi,hi',hc,hx,hw];rw [<- hX];exact ih _ _ (Qc _) ⟨by simp [h1],by simp [h2],by simp [h5,Prg.e],by simp [h9],by simp [h50],by simp [h51],by simp⟩
  ·rw [aU (x:=entE p t l[i].entry) hi (by simp only [rowG,Qa hi,eM];rw [a9 v])];simp [c_100_l1,Rw.ce,h1,h5,h50,h51,h52,hi,hc,v]
 ·rintro e n L hL _ ⟨h1,h2,h5,h9,h50,h51,h52⟩;have hk:=Ch p f t d hd;simp only [Prg.e,Xb.ce] at hk;rw [Prg.e] at h5;rw [Xb.ce] at h9;rw [dI];simp [c_100_l1,c_100_k2,h1,h5,h9,h51,h52,hL,hk]
 ·simp [h1,h2,h5,h9]
theorem Fa (p:Prg) (f:PrgS p) (k:Nat) (hk:k<p.Xm.length) (l:List Rw) (next:Int) (d:Xb) (hl:l.length<2^40) (hs:∀r∈l,rowS r) (hd:d.args.length<2^40):
  a8 Φ zG [.agg (Prg.c p),a7 k,.slice 5 (l.map Rw.c),a7 next,.agg (Xb.c d)]=some (.val (a7 (if p.Xm[k].size<l.length then 12 else tabK p k l next (iX p k d) (ordL l 0)))):=by
 rw [aA rfl rfl];by_cases z:p.Xm[k].size<(l.length:Int)
 ·simp [wY,Prg.e,Xb.ce,Tbl.e,hk,z]
 rw [QA z];simp [wY,Prg.e,Xb.ce,Tbl.e,hk,z];refine dV l.length (fun _=>[]) 0 (fun i e=>look 1 e=some (a7 k)/\look 2 e=some (.slice 5 (l.map Rw.c))/\look 3 e=some (a7 next)/\look 5 e=some (.iptr 9 [Prg.c p] 0 0)/\look 9 e=some (.iptr 2 [Xb.c d] 0 0)/\look 26 e=some (.slice 5 (l.map Rw.c))/\look 27 e=some (a7 l.length)/\look 28 e=some (a7 i)/\∃a:Int,look 11 e=some (a7 a)/\0<=a/\ordL (l.drop i) a=ordL l 0)
  (fun _=>some (Rt.val (a7 (tabK p k l next (iX p k d) (ordL l 0))))) ?_ ?_ 0 _ 0 (Qc _) (Qc _) ?_
 ·rintro i e n L hi hL _ ⟨h1,h2,h3,h5,h9,h26,h27,h28,a,h11,ha,ho⟩ ih;have hw:=aM i (by omega);rw [Qi hi] at ho;simp only [ordL] at ho;by_cases y:l[i].id<=a
  ·rw [a9 y] at ho;rw [<- ho];simp [c_100_l0,Rw.ce,h26,h27,h28,h11,hi,y,tabK]
  ·rw [QA y] at ho;generalize hX:some (Rt.val (a7 (tabK p k l next (iX p k d) (ordL l 0))))=X;simp [c_100_l0,Rw.ce,h26,h27,h28,h11,hi,y,hw];rw [<- hX];exact ih _ _ (Qc _) ⟨by simp [h1],by simp [h2],by simp [h3],by simp [h5],by simp [h9],by simp [h26],by simp [h27],by simp,l[i].id,by simp,by omega,ho⟩
 ·rintro e n L hL _ ⟨h1,h2,h3,h5,h9,h26,h27,h28,a,h11,ha,ho⟩;rw [wW] at ho;simp only [ordL] at ho;rw [<- ho];generalize hX:some (Rt.val (a7 (tabK p k l next (iX p k d) (some a))))=X;simp [c_100_l0,h27,h28,hL];rw [<- hX];exact ct_b p f k l next d hl hs hd a ha _ _ (by simp [h1]) (by simp [h2]) (by simp [h3]) (by simp [h5]) (by simp [h9]) (by simp [h11])
 ·simp [Prg.e,Xb.ce]
theorem rt_b (p:Prg) (f:PrgS p) (hv:∀t∈p.Xm,∀v∈t.Yb.args,ok32 0 v) (t:Int) (l:List Rw) (next:Int) (hl:l.length<2^40) (hs:∀r∈l,rowS r) (a:Int) (e:Env) (n:Nat)
  (h1:look 1 e=some (a7 t)) (h2:look 2 e=some (.slice 5 (l.map Rw.c))) (h3:look 3 e=some (a7 next)) (h4:look 4 e=some (.iptr 9 [Prg.c p] 0 0)) (h9:look 9 e=some (a7 a)):
  go Φ (finP [.tmp 8]) [.c c_55_k3] .normal ⟨e,⟨[],n⟩⟩=some (.val (a7 (tabK p t l next 0 (some a)))):=by
 unfold tabK;dsimp only;by_cases z0:next<=a
 ·simp [c_55_k3,h3,h9,z0]
 by_cases z2:1073741824<next
 ·simp [c_55_k3,h3,h9,z0,z2]
 rw [QA z0,QA z2];simp [c_55_k3,h3,h9,z0,z2];refine dV l.length (fun _=>[]) 0 (fun i e=>look 1 e=some (a7 t)/\look 2 e=some (.slice 5 (l.map Rw.c))/\look 4 e=some (.iptr 9 [Prg.c p] 0 0)/\look 11 e=some (a7 i))
  (fun i=>some (Rt.val (a7 ((fe (rowG p t l) l.length i).getD 0)))) ?_ ?_ 0 _ n (Qc _) (Qc _) ?_
 ·rintro i e n L hi hL _ ⟨h1,h2,h4,h11⟩ ih;have hw:=aM i (by omega);have hm:=hs _ (Qd hi);have hc:=Ab p f hv t l[i].entry hm;have hi':i<=l.length:=by omega
  have hx:a8 Φ sJ [.slice 5 ((l.map Rw.c).take i),.agg (Entry.c l[i].entry)]=some (.val (.bool ((l.take i).any fun x=>sk x.entry l[i].entry))):=by
   rw [<- EY];exact Br (l.take i) l[i].entry (by simp;omega) fun x hx=>(hs x (Qu hx)).kl
  simp only [Prg.e,Entry.ce] at hc;rw [Entry.ce] at hx;rw [Prg.e] at h4;by_cases v:entE p t l[i].entry=0
  ·rw [v] at hc;cases w:(l.take i).any fun x=>sk x.entry l[i].entry with
   | true=>
    rw [w] at hx;rw [aU (x:=(7:Int)) hi (by simp only [rowG,Qa hi,eM];rw [QA (by simp [v]),a9 w])];simp [c_55_l1,Rw.ce,h1,h2,h4,h11,hi,hi',hc,hx]
   | false=>
    rw [w] at hx;rw [cM hi (by simp only [rowG,Qa hi,eM];rw [QA (by simp [v]),QA (by rw [w];decide)])];generalize hX:some (Rt.val (a7 ((fe (rowG p t l) l.length (i+1)).getD 0)))=X;simp [c_55_l1,Rw.ce,h1,h2,h4,h11,hi,hi',hc,hx,hw];rw [<- hX];exact ih _ _ (Qc _) ⟨by simp [h1],by simp [h2],by simp [h4,Prg.e],by simp⟩
  ·rw [aU (x:=entE p t l[i].entry) hi (by simp only [rowG,Qa hi,eM];rw [a9 v])];simp [c_55_l1,Rw.ce,h1,h2,h4,h11,hi,hc,v]
 ·rintro e n L hL _ ⟨h1,h2,h4,h11⟩;rw [dI];simp [c_55_l1,c_55_k2,h2,h11,hL]
 ·simp [h1,h2,h4]
theorem Cc (p:Prg) (f:PrgS p) (hv:∀t∈p.Xm,∀v∈t.Yb.args,ok32 0 v) (k:Nat) (hk:k<p.Xm.length) (l:List Rw) (next:Int) (hl:l.length<2^40) (hs:∀r∈l,rowS r):
  a8 Φ M7 [.agg (Prg.c p),a7 k,.slice 5 (l.map Rw.c),a7 next]=some (.val (a7 (if p.Xm[k].size<l.length then 12 else tabK p k l next 0 (ordL l 0)))):=by
 rw [aA rfl rfl];by_cases z:p.Xm[k].size<(l.length:Int)
 ·simp [LH,Prg.e,Tbl.e,hk,z]
 rw [QA z];simp [LH,Prg.e,Tbl.e,hk,z];refine dV l.length (fun _=>[]) 0 (fun i e=>look 1 e=some (a7 k)/\look 2 e=some (.slice 5 (l.map Rw.c))/\look 3 e=some (a7 next)/\look 4 e=some (.iptr 9 [Prg.c p] 0 0)/\look 10 e=some (a7 i)/\∃a:Int,look 9 e=some (a7 a)/\ordL (l.drop i) a=ordL l 0)
  (fun _=>some (Rt.val (a7 (tabK p k l next 0 (ordL l 0))))) ?_ ?_ 0 _ 0 (Qc _) (Qc _) ?_
 ·rintro i e n L hi hL _ ⟨h1,h2,h3,h4,h10,a,h9,ho⟩ ih;have hw:=aM i (by omega);rw [Qi hi] at ho;simp only [ordL] at ho;by_cases y:l[i].id<=a
  ·rw [a9 y] at ho;rw [<- ho];simp [c_55_l0,Rw.ce,h2,h10,h9,hi,y,tabK]
  ·rw [QA y] at ho;generalize hX:some (Rt.val (a7 (tabK p k l next 0 (ordL l 0))))=X;simp [c_55_l0,Rw.ce,h2,h10,h9,hi,y,hw];rw [<- hX];exact ih _ _ (Qc _) ⟨by simp [h1],by simp [h2],by simp [h3],by simp [h4],by simp,l[i].id,by simp,ho⟩
 ·rintro e n L hL _ ⟨h1,h2,h3,h4,h10,a,h9,ho⟩;rw [wW] at ho;simp only [ordL] at ho;rw [<- ho];generalize hX:some (Rt.val (a7 (tabK p k l next 0 (some a))))=X;simp [c_55_l0,h2,h10,hL];rw [<- hX];exact rt_b p f hv k l next hl hs a _ _ (by simp [h1]) (by simp [h2]) (by simp [h3]) (by simp [h4]) (by simp [h9])
 ·simp [Prg.e]
def mxF:List Int->Int->Int
 | [],a=>a
 | x::r,a=>mxF r (max a x)
theorem RF (M:Int):∀(l:List Int) (a:Int),M<mxF l a↔M<a\/∃x∈l,M<x
 | [],a=>by simp [mxF]
 | x::r,a=>by
  have ih:=RF M r (max a x);simp only [mxF,ih,iW,exists_eq_or_imp];constructor
  ·rintro (h | h)
   ·by_cases q:M<a
    ·exact .inl q
    ·exact .inr (.inl (by omega))
   ·exact .inr (.inr h)
  ·rintro (h | h | h)
   ·exact .inl (by omega)
   ·exact .inl (by omega)
   ·exact .inr h
theorem Lc (l:List Int) (h0:0<l.length) (hl:l.length<2^40):a8 Φ A4 [.slice 1 (l.map c32)]=some (.val (.int .u32 (mxF l.tail l[0]))):=by
 rw [aA rfl rfl];have h1:¬(l.length:Int)<1:=by omega
 simp [GW,h0,h1,c32];refine dV l.length (fun _=>[]) 0 (fun i e=>look 0 e=some (.slice 1 (l.map c32))/\look 4 e=some (a7 i)/\∃a:Int,look 3 e=some (.int .u32 a)/\mxF (l.drop i) a=mxF l.tail l[0])
  (fun _=>some (Rt.val (.int .u32 (mxF l.tail l[0])))) ?_ ?_ 1 _ 0 (by omega) (Qc _) ?_
 ·rintro i e n L hi hL _ ⟨h0,h4,a,h3,hm⟩ ih;have hw:=aM i (by omega);rw [Qi hi] at hm;simp only [mxF] at hm;generalize hX:some (Rt.val (AV.int .u32 (mxF l.tail l[0])))=X;simp [c_168_l0,c32,h0,h4,h3,hi,hw];rw [<- hX];exact ih _ _ (Qc _) ⟨by simp [h0],by simp,max a l[i],by simp;split<;>omega,hm⟩
 ·rintro e n L hL _ ⟨h0,h4,a,h3,hm⟩;rw [wW] at hm;simp only [mxF] at hm;rw [<- hm];simp [c_168_l0,c_168_k1,h0,h4,h3,hL]
 ·simp
def szG (p:Prg) (rs:List (List Int)) (i:Nat):Option Int:=match rs[i]?,p.Xl[i]? with
 | some l,some r=>if (l.length:Int)=r.size then none else some 2
 | _,_=>none
def vlG (p:Prg) (rs:List (List Int)) (i:Nat):Option Int:=match rs[i]?,p.Xl[i]? with
 | some l,some r=>if l.any (fun v=>decide (cD r.Yc<v))=true then some 9 else none
 | _,_=>none
def conE (p:Prg) (rs:List (List Int)):Int:=if rs.length≠p.Xl.length then 2 else (fe (szG p rs) rs.length 0).getD ((fe (vlG p rs) rs.length 0).getD 0)
theorem con_b (p:Prg) (f:PrgS p) (rs:List (List Int)) (hl:rs.length<2^40) (hs:∀l∈rs,l.length<2^40) (hz:rs.length=p.Xl.length) (e:Env) (n:Nat)
  (h1:look 1 e=some (.slice 1 (rs.map (cS 1 c32)))) (h2:look 2 e=some (.iptr 9 [Prg.c p] 0 0)):
  go Φ (finP [.tmp 4]) [.c c_101_k3] .normal ⟨e,⟨[],n⟩⟩=some (.val (a7 ((fe (vlG p rs) rs.length 0).getD 0))):=by
 simp [c_101_k3,h1];refine dV rs.length (fun _=>[]) 0 (fun i e=>look 2 e=some (.iptr 9 [Prg.c p] 0 0)/\look 32 e=some (.slice 1 (rs.map (cS 1 c32)))/\look 33 e=some (a7 rs.length)/\look 34 e=some (a7 i))
  (fun i=>some (Rt.val (a7 ((fe (vlG p rs) rs.length i).getD 0)))) ?_ ?_ 0 _ n (Qc _) (Qc _) ?_
 ·rintro i e n L hi hL _ ⟨h2,h32,h33,h34⟩ ih;have hw:=aM i (by omega);have hi2:i<p.Xl.length:=by omega
  have hm:=j6 p.Xl[i].Yc;rw [Prg.e] at h2;by_cases e0:rs[i].length=0
  ·have e1:rs[i]=[]:=Qg e0;rw [cM hi (by simp [vlG,hi,hi2,e1])];generalize hX:some (Rt.val (a7 ((fe (vlG p rs) rs.length (i+1)).getD 0)))=X;simp [c_101_l1,cSe,h32,h33,h34,hi,hw,e1];rw [<- hX];exact ih _ _ (Qc _) ⟨by simp [h2,Prg.e],by simp [h32],by simp [h33],by simp⟩
  have e1:0<rs[i].length:=by omega
  have hx:=Lc rs[i] e1 (hs _ (Qd hi));have hy:rs[i].any (fun v=>decide (cD p.Xl[i].Yc<v))=decide (cD p.Xl[i].Yc<mxF rs[i].tail rs[i][0]):=by
   rw [Bool.eq_iff_iff,decide_eq_true_eq,RF,GI];have hd:rs[i]=rs[i][0]::rs[i].tail:=by
    have:=Qi e1;simpa using this
   constructor
   ·rintro ⟨x,hx,hv⟩;rw [hd] at hx;rcases iW.1 hx with rfl | hx
    ·exact .inl (of_decide_eq_true hv)
    ·exact .inr ⟨x,hx,of_decide_eq_true hv⟩
   ·rintro (h | ⟨x,hx,hv⟩)
    ·exact ⟨_,Qd e1,decide_eq_true h⟩
    ·exact ⟨x,List.mem_of_mem_tail hx,decide_eq_true hv⟩
  by_cases v:cD p.Xl[i].Yc<mxF rs[i].tail rs[i][0]
  ·rw [aU (x:=(9:Int)) hi (by simp only [vlG,Qa hi,Qa hi2];rw [hy,a9 (decide_eq_true v)])];simp [c_101_l1,cSe,Xg.e,h2,h32,h33,h34,hi,hi2,e1,hx,hm,v]
  ·rw [cM hi (by simp only [vlG,Qa hi,Qa hi2];rw [hy,QA (by simpa using v)])];generalize hX:some (Rt.val (a7 ((fe (vlG p rs) rs.length (i+1)).getD 0)))=X;simp [c_101_l1,cSe,Xg.e,h2,h32,h33,h34,hi,hi2,e1,hx,hm,v,hw];rw [<- hX];exact ih _ _ (Qc _) ⟨by simp [h2,Prg.e],by simp [h32],by simp [h33],by simp⟩
 ·rintro e n L hL _ ⟨h2,h32,h33,h34⟩;rw [dI];simp [c_101_l1,c_101_k2,h33,h34,hL]
 ·simp [h2]
theorem Ey (p:Prg) (f:PrgS p) (rs:List (List Int)) (hl:rs.length<2^40) (hs:∀l∈rs,l.length<2^40):a8 Φ zH [.agg (Prg.c p),.slice 1 (rs.map (cS 1 c32))]=some (.val (a7 (conE p rs))):=by
 rw [aA rfl rfl];unfold conE;by_cases z:rs.length=p.Xl.length
 rotate_left
 ·simp [wZ,Prg.e,z]
 rw [QA (by simpa using z)];generalize hY:some (Rt.val (a7 ((fe (szG p rs) rs.length 0).getD ((fe (vlG p rs) rs.length 0).getD 0))))=Y;simp [wZ,Prg.e,z];rw [<- hY];refine dV rs.length (fun _=>[]) 0 (fun i e=>look 1 e=some (.slice 1 (rs.map (cS 1 c32)))/\look 2 e=some (.iptr 9 [Prg.c p] 0 0)/\look 15 e=some (.slice 1 (rs.map (cS 1 c32)))/\look 16 e=some (a7 rs.length)/\look 17 e=some (a7 i))
  (fun i=>some (Rt.val (a7 ((fe (szG p rs) rs.length i).getD ((fe (vlG p rs) rs.length 0).getD 0))))) ?_ ?_ 0 _ 0 (Qc _) (Qc _) ?_
 ·rintro i e n L hi hL _ ⟨h1,h2,h15,h16,h17⟩ ih;have hw:=aM i (by omega);have hi2:i<p.Xl.length:=by omega
  rw [Prg.e] at h2;by_cases v:(rs[i].length:Int)=p.Xl[i].size
  ·rw [cM hi (by simp [szG,hi,hi2,v])];generalize hX:some (Rt.val (a7 ((fe (szG p rs) rs.length (i+1)).getD ((fe (vlG p rs) rs.length 0).getD 0))))=X;simp [c_101_l0,cSe,Xg.e,h2,h15,h16,h17,hi,hi2,v,hw];rw [<- hX];exact ih _ _ (Qc _) ⟨by simp [h1],by simp [h2,Prg.e],by simp [h15],by simp [h16],by simp⟩
  ·rw [aU (x:=(2:Int)) hi (by simp [szG,hi,hi2,v])];simp [c_101_l0,cSe,Xg.e,h2,h15,h16,h17,hi,hi2,v]
 ·rintro e n L hL _ ⟨h1,h2,h15,h16,h17⟩;rw [dI];generalize hX:some (Rt.val (a7 ((none:Option Int).getD ((fe (vlG p rs) rs.length 0).getD 0))))=X;simp [c_101_l0,h16,h17,hL];rw [<- hX];exact con_b p f rs hl hs z _ _ (by simp [h1]) (by simp [h2])
 ·simp [Prg.e,z]
def wd (w:Int):Nat:=if wBad w then 0 else w.toNat
theorem wd_le (w:Int):wd w<=32:=by
 unfold wd;cases q:wBad w with
 | true=>simp
 | false=>
  obtain ⟨w1,w2⟩:=wBad_false.1 q;simp;omega
theorem qtl (w v:Int):cD w<v↔¬v<2^wd w:=by
 unfold cD wd;cases q:wBad w with
 | true=>simp;omega
 | false=>simp;omega
theorem Nh (r:Xg):a8 Φ zR [.agg (Xg.c r)]=some (.val (a7 (wd r.Yc))):=by
 rw [aA rfl rfl];by_cases h1:r.Yc<1
 ·simp [rM,Xg.e,h1,wd,wBad]
 by_cases h2:32<r.Yc
 ·simp [rM,Xg.e,h1,h2,wd,wBad]
 simp [rM,Xg.e,h1,h2,wd,wBad];omega
theorem Kn (p:Prg) (rs:List (List Int)) (hl:rs.length<2^40) (hs:∀l∈rs,l.length<2^40/\∀v∈l,ok32 0 v) (hz:rs.length=p.Xl.length) (e:Env) (n:Nat)
  (h1:look 1 e=some (.slice 1 (rs.map (cS 1 c32)))) (h2:look 2 e=some (.iptr 9 [Prg.c p] 0 0)):
  go Φ (finP [.tmp 4]) [.c c_57_k5] .normal ⟨e,⟨[],n⟩⟩=some (.val (a7 ((fe (vlG p rs) rs.length 0).getD 0))):=by
 simp [c_57_k5];refine dV rs.length (fun _=>[]) 0 (fun i e=>look 1 e=some (.slice 1 (rs.map (cS 1 c32)))/\look 2 e=some (.iptr 9 [Prg.c p] 0 0)/\look 6 e=some (a7 i))
  (fun i=>some (Rt.val (a7 ((fe (vlG p rs) rs.length i).getD 0)))) ?_ ?_ 0 _ n (Qc _) (Qc _) ?_
 ·rintro i e n L hi hL _ ⟨h1,h2,h6⟩ ih;have hw:=aM i (by omega);have hi2:i<p.Xl.length:=by omega
  have hm:=hs _ (Qd hi);have hwd:=Nh p.Xl[i];simp only [Xg.e] at hwd;have hV:fe (vlG p rs) rs.length i=if rs[i].any (fun v=>decide (cD p.Xl[i].Yc<v))=true then some 9 else fe (vlG p rs) rs.length (i+1):=by
   by_cases y:rs[i].any (fun v=>decide (cD p.Xl[i].Yc<v))=true
   ·rw [a9 y];exact aU hi (by simp only [vlG,Qa hi,Qa hi2];rw [a9 y])
   ·rw [QA y];exact cM hi (by simp only [vlG,Qa hi,Qa hi2];rw [QA y])
  generalize hX:some (Rt.val (a7 ((fe (vlG p rs) rs.length (i+1)).getD 0)))=X at ih;generalize hY:some (Rt.val (a7 ((fe (vlG p rs) rs.length i).getD 0)))=Y;have hYX:Y=if rs[i].any (fun v=>decide (cD p.Xl[i].Yc<v))=true then some (Rt.val (a7 9)) else X:=by
   rw [<- hY,<- hX,hV];split<;>rfl
  simp [c_57_l3,h1,h6,hi];refine (dV rs[i].length (fun _=>[]) 0 (fun j e=>look 1 e=some (.slice 1 (rs.map (cS 1 c32)))/\look 2 e=some (.iptr 9 [Prg.c p] 0 0)/\look 6 e=some (a7 i)/\look 7 e=some (a7 j))
   (fun j=>if (rs[i].drop j).any (fun v=>decide (cD p.Xl[i].Yc<v))=true then some (Rt.val (a7 9)) else X) ?_ ?_ 0 _ n (Qc _) (Qc _) ?_).trans (by rw [hYX,List.drop_zero])
  ·rintro j e n L' hj hL' _ ⟨h1,h2,h6,h7⟩ ih';have hw':=aM j (by omega);have hf:=On rs[i][j] (hm.2 _ (Qd hj)) (wd p.Xl[i].Yc) (wd_le _);rw [Prg.e] at h2;rw [Qi hj,EZ];by_cases v:rs[i][j]<2^wd p.Xl[i].Yc
   ·rw [decide_eq_true v] at hf;rw [show decide (cD p.Xl[i].Yc<rs[i][j])=false from decide_eq_false fun h=>(qtl _ _).1 h v,LA];generalize hZ:(if (rs[i].drop (j+1)).any (fun v=>decide (cD p.Xl[i].Yc<v))=true then some (Rt.val (a7 9)) else X)=Z;simp [c_57_l1,cSe,c32,Xg.e,h1,h2,h6,h7,hi,hi2,hj,hwd,hf,hw'];rw [<- hZ];exact ih' _ _ (Qc _) ⟨by simp [h1],by simp [h2,Prg.e],by simp [h6],by simp⟩
   ·rw [decide_eq_false v] at hf;rw [show decide (cD p.Xl[i].Yc<rs[i][j])=true from decide_eq_true ((qtl _ _).2 v),OE,a9 rfl];simp [c_57_l1,cSe,c32,Xg.e,h1,h2,h6,h7,hi,hi2,hj,hwd,hf]
  ·rintro e n L' hL' _ ⟨h1,h2,h6,h7⟩;rw [wW,List.any_nil,QA (by decide)];simp [c_57_l1,cSe,h1,h6,h7,hi,hL',c_57_k2,hw];exact ih _ _ (Qc _) ⟨by simp [h1],by simp [h2],by simp⟩
  ·simp [h1,h2,h6]
 ·rintro e n L hL _ ⟨h1,h2,h6⟩;rw [dI];simp [c_57_l3,c_57_k4,h1,h6,hL]
 ·simp [h1,h2]
theorem Y' (p:Prg) (rs:List (List Int)) (hl:rs.length<2^40) (hs:∀l∈rs,l.length<2^40/\∀v∈l,ok32 0 v):a8 Φ M9 [.agg (Prg.c p),.slice 1 (rs.map (cS 1 c32))]=some (.val (a7 (conE p rs))):=by
 rw [aA rfl rfl];unfold conE;by_cases z:rs.length=p.Xl.length
 rotate_left
 ·simp [LJ,Prg.e,z]
 rw [QA (by simpa using z)];generalize hY:some (Rt.val (a7 ((fe (szG p rs) rs.length 0).getD ((fe (vlG p rs) rs.length 0).getD 0))))=Y;simp [LJ,Prg.e,z];rw [<- hY];refine dV rs.length (fun _=>[]) 0 (fun i e=>look 1 e=some (.slice 1 (rs.map (cS 1 c32)))/\look 2 e=some (.iptr 9 [Prg.c p] 0 0)/\look 5 e=some (a7 i))
  (fun i=>some (Rt.val (a7 ((fe (szG p rs) rs.length i).getD ((fe (vlG p rs) rs.length 0).getD 0))))) ?_ ?_ 0 _ 0 (Qc _) (Qc _) ?_
 ·rintro i e n L hi hL _ ⟨h1,h2,h5⟩ ih;have hw:=aM i (by omega);have hi2:i<p.Xl.length:=by omega
  rw [Prg.e] at h2;by_cases v:(rs[i].length:Int)=p.Xl[i].size
  ·rw [cM hi (by simp [szG,hi,hi2,v])];generalize hX:some (Rt.val (a7 ((fe (szG p rs) rs.length (i+1)).getD ((fe (vlG p rs) rs.length 0).getD 0))))=X;simp [c_57_l0,cSe,Xg.e,h1,h2,h5,hi,hi2,v,hw];rw [<- hX];exact ih _ _ (Qc _) ⟨by simp [h1],by simp [h2,Prg.e],by simp⟩
  ·rw [aU (x:=(2:Int)) hi (by simp [szG,hi,hi2,v])];simp [c_57_l0,cSe,Xg.e,h1,h2,h5,hi,hi2,v]
 ·rintro e n L hL _ ⟨h1,h2,h5⟩;rw [dI];generalize hX:some (Rt.val (a7 ((none:Option Int).getD ((fe (vlG p rs) rs.length 0).getD 0))))=X;simp [c_57_l0,h1,h5,hL];rw [<- hX];exact Kn p rs hl hs z _ _ (by simp [h1]) (by simp [h2])
 ·simp [Prg.e]
structure CfgT (a:Xe):Prop where
 rl:a.rows.length<2^40
 rs:∀l∈a.rows,l.length<2^40/\∀r∈l,rowS r
 nl:a.Xq.length<2^40
 dl:a.Xp.length<2^40
 ds:∀d∈a.Xp,d.args.length<2^40/\∀v∈d.args,ok32 0 v
 gl:a.Xl.length<2^40
 gs:∀l∈a.Xl,l.length<2^40/\∀v∈l,ok32 0 v
theorem Hb {B:Nat} (hB:B<2^40) {r:Rw} (o:r.Ok B):rowS r:=by
 simp only [Rw.Ok,Entry.Ok,Xb.Ok] at o;obtain ⟨_,o1,_,_,o2⟩:=o;exact ⟨by have:=o1.1;omega,fun m hm=>o1.2 m hm,by have:=o2.1;omega,fun v hv=>o2.2 v hv⟩
theorem Dq {a:Xe} (o:a.Ok lK):CfgT a:=by
 obtain ⟨o0,o1,o2,o3⟩:=o;have e:=K3;refine ⟨by have:=o0.1;omega,?_,by have:=o1.1;omega,by have:=o2.1;omega,?_,by have:=o3.1;omega,?_⟩
 ·intro l hl;have:=o0.2 l hl;exact ⟨by have:=this.1;omega,fun r hr=>Hb (by omega) (this.2 r hr)⟩
 ·intro d hd;have:=o2.2 d hd;simp only [Xb.Ok] at this;exact ⟨by have:=this.2.1;omega,fun v hv=>this.2.2 v hv⟩
 ·intro l hl;have:=o3.2 l hl;exact ⟨by have:=this.1;omega,fun v hv=>this.2 v hv⟩
def rowE (p:Prg) (k:Nat) (tb:Tbl) (l:List Rw) (nx:Int) (z:Int):Int:=if tb.size<l.length then 12 else tabK p k l nx z (ordL l 0)
theorem Nq (p:Prg) (t:Int) (l:List Rw) (nx z:Int) (o:Option Int):tabK p t l nx z o=if tabK p t l nx 0 o≠0 then tabK p t l nx 0 o else z:=by
 cases o with
 | none=>simp [tabK]
 | some a=>
  simp only [tabK];by_cases z0:nx<=a
  ·simp [z0]
  by_cases z1:1073741824<nx
  ·simp [z0,z1]
  simp only [QA z0,QA z1];cases q:fe (rowG p t l) l.length 0 with
  | none=>simp
  | some x=>
   have hx:x≠0:=by
    obtain ⟨k,hk,hx⟩:=E8 q;simp only [rowG,Qt] at hx;obtain ⟨r,_,hr⟩:=hx;split at hr
    ·cases hr;assumption
    ·split at hr
     ·cases hr;decide
     ·cases hr
   simp [hx]
theorem Ly (p:Prg) (k:Nat) (tb:Tbl) (l:List Rw) (nx z:Int):rowE p k tb l nx z=if rowE p k tb l nx 0≠0 then rowE p k tb l nx 0 else z:=by
 unfold rowE;split
 ·simp
 ·exact Nq _ _ _ _ _ _
def stG (p:Prg) (c:Xe) (k:Nat):Option Int:=match p.Xm[k]?,c.rows[k]?,c.Xq[k]?,c.Xp[k]? with
 | some tb,some l,some nx,some d=>if rowE p k tb l nx (iX p k d)=0 then none else some (rowE p k tb l nx (iX p k d))
 | _,_,_,_=>none
def cfgE (p:Prg) (c:Xe):Int:=if (prgD p).1≠0 then (prgD p).1 else if c.rows.length≠p.Xm.length\/c.Xq.length≠p.Xm.length\/c.Xp.length≠p.Xm.length then 2
 else (fe (stG p c) p.Xm.length 0).getD (conE p c.Xl)
theorem Et (p:Prg) (f:PrgS p) (hc:(pre p.Ya).length<2^40 - 1) (c:Xe) (s:CfgT c):a8 Φ LW [.agg (Prg.c p),.agg (Xe.c c)]=some (.val (a7 (cfgE p c))):=by
 rw [aA rfl rfl];have h:=qtv p f hc;simp only [Prg.e,dgC] at h;have ht:=f.t;by_cases z:(prgD p).1=0
 rotate_left
 ·simp [vF,Prg.e,Xe.ce,h,z,cfgE]
 by_cases z1:c.rows.length=p.Xm.length
 rotate_left
 ·simp [vF,Prg.e,Xe.ce,h,z,z1,cfgE]
 by_cases z2:c.Xq.length=p.Xm.length
 rotate_left
 ·simp [vF,Prg.e,Xe.ce,h,z,z1,z2,cfgE]
 by_cases z3:c.Xp.length=p.Xm.length
 rotate_left
 ·simp [vF,Prg.e,Xe.ce,h,z,z1,z2,z3,cfgE]
 rw [show cfgE p c=(fe (stG p c) p.Xm.length 0).getD (conE p c.Xl) by simp [cfgE,z,z1,z2,z3]];simp [vF,Prg.e,Xe.ce,h,z,z1,z2,z3];refine dV p.Xm.length (fun _=>[]) 0 (fun i e=>look 2 e=some (.iptr 9 [Prg.c p] 0 0)/\look 3 e=some (.iptr 4 [Xe.c c] 0 0)/\look 38 e=some (a7 p.Xm.length)/\look 39 e=some (a7 i))
  (fun i=>some (Rt.val (a7 ((fe (stG p c) p.Xm.length i).getD (conE p c.Xl))))) ?_ ?_ 0 _ _ (Qc _) (Qc _) ?_
 ·rintro i e n L hi hL _ ⟨h2,h3,h38,h39⟩ ih;have hw:=aM i (by omega);have i1:i<c.rows.length:=by omega
  have i2:i<c.Xq.length:=by omega
  have i3:i<c.Xp.length:=by omega
  have hr:=s.rs _ (Qd i1);have hd:=s.ds _ (Qd i3);have hk:=Fa p f i hi c.rows[i] c.Xq[i] c.Xp[i] hr.1 hr.2 hd.1;rw [show (if p.Xm[i].size<(c.rows[i].length:Int) then (12:Int) else tabK p i c.rows[i] c.Xq[i] (iX p i c.Xp[i]) (ordL c.rows[i] 0))=rowE p i p.Xm[i] c.rows[i] c.Xq[i] (iX p i c.Xp[i]) from rfl] at hk;simp only [Prg.e,Xb.ce] at hk;rw [Prg.e] at h2;rw [Xe.ce] at h3;by_cases v:rowE p i p.Xm[i] c.rows[i] c.Xq[i] (iX p i c.Xp[i])=0
  ·rw [cM hi (by simp [stG,hi,i1,i2,i3,v])];rw [v] at hk;generalize hX:some (Rt.val (a7 ((fe (stG p c) p.Xm.length (i+1)).getD (conE p c.Xl))))=X;simp [c_46_l0,cSe,cI,Xb.ce,h2,h3,h38,h39,hi,i1,i2,i3,hk,hw];rw [<- hX];exact ih _ _ (Qc _) ⟨by simp [h2,Prg.e],by simp [h3,Xe.ce],by simp [h38],by simp⟩
  ·rw [aU (x:=rowE p i p.Xm[i] c.rows[i] c.Xq[i] (iX p i c.Xp[i])) hi (by simp [stG,hi,i1,i2,i3,v])];simp [c_46_l0,cSe,cI,Xb.ce,h2,h3,h38,h39,hi,i1,i2,i3,hk,v]
 ·rintro e n L hL _ ⟨h2,h3,h38,h39⟩;have hk:=Ey p f c.Xl s.gl fun l hl=>(s.gs l hl).1
  simp only [Prg.e] at hk;rw [Prg.e] at h2;rw [Xe.ce] at h3;rw [dI];simp [c_46_l0,c_46_k1,h2,h3,h38,h39,hL,hk]
 ·simp [Prg.e,Xe.ce]
theorem X' (p:Prg) (f:PrgS p) (hv:∀t∈p.Xm,∀v∈t.Yb.args,ok32 0 v) (hc:(pre p.Ya).length<2^40 - 1) (c:Xe) (s:CfgT c):a8 Φ LQ [.agg (Prg.c p),.agg (Xe.c c)]=some (.val (a7 (cfgE p c))):=by
 rw [aA rfl rfl];have h:=Ur p f hv hc;simp only [Prg.e,dgC] at h;have ht:=f.t;by_cases z:(prgD p).1=0
 rotate_left
 ·simp [vE,Prg.e,Xe.ce,h,z,cfgE]
 by_cases z1:c.rows.length=p.Xm.length
 rotate_left
 ·simp [vE,Prg.e,Xe.ce,h,z,z1,cfgE]
 by_cases z2:c.Xq.length=p.Xm.length
 rotate_left
 ·simp [vE,Prg.e,Xe.ce,h,z,z1,z2,cfgE]
 by_cases z3:c.Xp.length=p.Xm.length
 rotate_left
 ·simp [vE,Prg.e,Xe.ce,h,z,z1,z2,z3,cfgE]
 rw [show cfgE p c=(fe (stG p c) p.Xm.length 0).getD (conE p c.Xl) by simp [cfgE,z,z1,z2,z3]];simp [vE,Prg.e,Xe.ce,h,z,z1,z2,z3];refine dV p.Xm.length (fun _=>[]) 0 (fun i e=>look 2 e=some (.iptr 9 [Prg.c p] 0 0)/\look 3 e=some (.iptr 4 [Xe.c c] 0 0)/\look 5 e=some (a7 p.Xm.length)/\look 6 e=some (a7 i))
  (fun i=>some (Rt.val (a7 ((fe (stG p c) p.Xm.length i).getD (conE p c.Xl))))) ?_ ?_ 0 _ _ (Qc _) (Qc _) ?_
 ·rintro i e n L hi hL _ ⟨h2,h3,h5,h6⟩ ih;have hw:=aM i (by omega);have i1:i<c.rows.length:=by omega
  have i2:i<c.Xq.length:=by omega
  have i3:i<c.Xp.length:=by omega
  have hr:=s.rs _ (Qd i1);have hd:=s.ds _ (Qd i3);have hk:=Cc p f hv i hi c.rows[i] c.Xq[i] hr.1 hr.2;have hq:=V' p f hv i c.Xp[i] hd.1 hd.2;rw [show (if p.Xm[i].size<(c.rows[i].length:Int) then (12:Int) else tabK p i c.rows[i] c.Xq[i] 0 (ordL c.rows[i] 0))=rowE p i p.Xm[i] c.rows[i] c.Xq[i] 0 from rfl] at hk;simp only [Prg.e,Xb.ce] at hk hq;rw [Prg.e] at h2;rw [Xe.ce] at h3;have hz:=Ly p i p.Xm[i] c.rows[i] c.Xq[i] (iX p i c.Xp[i]);by_cases v:rowE p i p.Xm[i] c.rows[i] c.Xq[i] 0=0
  ·rw [QA (by simpa using v)] at hz;rw [v] at hk;by_cases w:iX p i c.Xp[i]=0
   ·rw [cM hi (by simp [stG,hi,i1,i2,i3,w,v])];rw [w] at hq;generalize hX:some (Rt.val (a7 ((fe (stG p c) p.Xm.length (i+1)).getD (conE p c.Xl))))=X;simp [c_22_l0,cSe,cI,Xb.ce,h2,h3,h5,h6,hi,i1,i2,i3,hk,hq,hw];rw [<- hX];exact ih _ _ (Qc _) ⟨by simp [h2,Prg.e],by simp [h3,Xe.ce],by simp [h5],by simp⟩
   ·rw [aU (x:=iX p i c.Xp[i]) hi (by simp [stG,hi,i1,i2,i3,hz,w])];simp [c_22_l0,cSe,cI,Xb.ce,h2,h3,h5,h6,hi,i1,i2,i3,hk,hq,w]
  ·rw [a9 v] at hz;rw [aU (x:=rowE p i p.Xm[i] c.rows[i] c.Xq[i] 0) hi (by simp [stG,hi,i1,i2,i3,hz,v])];simp [c_22_l0,cSe,cI,h2,h3,h5,h6,hi,i1,i2,hk,v]
 ·rintro e n L hL _ ⟨h2,h3,h5,h6⟩;have hk:=Y' p c.Xl s.gl s.gs;simp only [Prg.e] at hk;rw [Prg.e] at h2;rw [Xe.ce] at h3;rw [dI];simp [c_22_l0,c_22_k1,h2,h3,h5,h6,hL,hk]
 ·simp [Prg.e,Xe.ce]
end Go.Av
