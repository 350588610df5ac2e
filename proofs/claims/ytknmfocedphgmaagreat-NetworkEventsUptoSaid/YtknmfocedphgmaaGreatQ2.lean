/-
 Tables: widths and allowed actions, on both sides.
-/
import Derived.Test.YtknmfocedphgmaaGreatNT1
set_option linter.unusedVariables false
set_option linter.unusedSimpArgs false
set_option linter.constructorNameAsVariable false
namespace Go.Av
set_option maxRecDepth 4000
theorem qvj (p:Prg) (f:PrgS p) (k:Nat) (hk:k<p.Xn.length) (q:tOk p k=true):qac Φ f_183 [.agg (Prg.c p),.int .i64 k]=some (.val (.slice 1 ((kWid p p.Xn[k]).map cI))):=by
 rw [qad (fn:=c_183) rfl rfl];have h:=qky p f k;rw [q] at h;simp only [Prg.e] at h;obtain ⟨k',hk',e,o⟩:=qgr q;obtain rfl:k=k':=by omega
 have hb:=o.keys;have e0:(kWid p p.Xn[k]).map cI=p.Xn[k].keys.map fun y=>[AV.int .i64 (wid p y.field.header y.field.field)]:=by simp [kWid,cI]
 rw [e0];simp [c_183,Prg.e,h,hk,Tbl.e];refine (qay p.Xn[k].keys.length (fun i=>[(0,.tok 1 i)]) 1 (fun i e=>look 2 e=some (.iptr 9 [Prg.c p] 0 0)/\look 5 e=some (.app 1 ((p.Xn[k].keys.map fun y=>[AV.int .i64 (wid p y.field.header y.field.field)]).take i) 0)/\look 17 e=some (.slice 3 (p.Xn[k].keys.map Xl.c))/\look 18 e=some (.int .i64 p.Xn[k].keys.length)/\look 19 e=some (.int .i64 i))
  (fun _=>some (Rt.val (.slice 1 (p.Xn[k].keys.map fun y=>[AV.int .i64 (wid p y.field.header y.field.field)])))) ?_ ?_ 0 _ 1 (Qc _) (Qb _) ?_).trans (by simp)
 ·rintro i e n L hi hL hn ⟨h2,h5,h17,h18,h19⟩ ih;have hw:=qao i (by omega);have hv:=qx9 p p.Xn[k].keys[i].field.header p.Xn[k].keys[i].field.field;simp only [Prg.e] at hv;rw [Prg.e] at h2;have hn0:¬(0=n):=by omega
  have hn1:¬(n=0):=by omega
  have hm:min i p.Xn[k].keys.length=i:=by omega
  have hb:(i+1)*8<=70368744177664:=by omega
  simp [c_183_l0,Xl.e,h2,h5,h17,h18,h19,hi,hw,hn0,hm,hb,hv];exact ih _ _ (by omega) ⟨by simp [h2,Prg.e],by simp [qa7 hi],by simp [h17],by simp [h18],by simp⟩
 ·rintro e n L hL hn ⟨h2,h5,h17,h18,h19⟩;simp [c_183_l0,c_183_k1,h5,h18,h19,hL]
 ·simp [Prg.e]
theorem qu4 (p:Prg) (f:PrgS p) (hv:∀t∈p.Xn,∀v∈t.dflt.args,ok32 0 v) (k:Nat) (hk:k<p.Xn.length) (q:tOk p k=true):qac Φ f_214 [.agg (Prg.c p),.int .i64 k]=some (.val (.slice 1 ((kWid p p.Xn[k]).map cI))):=by
 rw [qad (fn:=c_214) rfl rfl];have h:=qjn p f hv k;rw [q] at h;simp only [Prg.e] at h;obtain ⟨k',hk',e,o⟩:=qgr q;obtain rfl:k=k':=by omega
 have hb:=o.keys;have e0:(kWid p p.Xn[k]).map cI=p.Xn[k].keys.map fun y=>[AV.int .i64 (wid p y.field.header y.field.field)]:=by simp [kWid,cI]
 rw [e0];simp [c_214,Prg.e,h];refine (qay p.Xn[k].keys.length (fun i=>[(0,.tok 1 i)]) 1 (fun i e=>look 2 e=some (.iptr 9 [Prg.c p] 0 0)/\look 1 e=some (.int .i64 k)/\look 5 e=some (.app 1 ((p.Xn[k].keys.map fun y=>[AV.int .i64 (wid p y.field.header y.field.field)]).take i) 0)/\look 6 e=some (.int .i64 i))
  (fun _=>some (Rt.val (.slice 1 (p.Xn[k].keys.map fun y=>[AV.int .i64 (wid p y.field.header y.field.field)])))) ?_ ?_ 0 _ 1 (Qc _) (Qb _) ?_).trans (by simp)
 ·rintro i e n L hi hL hn ⟨h2,h1,h5,h6⟩ ih;have hw:=qao i (by omega);have hv:=qo8 p p.Xn[k].keys[i].field.header p.Xn[k].keys[i].field.field;simp only [Prg.e] at hv;rw [Prg.e] at h2;have hn0:¬(0=n):=by omega
  have hn1:¬(n=0):=by omega
  have hm:min i p.Xn[k].keys.length=i:=by omega
  have hb:(i+1)*8<=70368744177664:=by omega
  simp [c_214_l0,Xl.e,Tbl.e,h1,h2,h5,h6,hk,hi,hw,hm,hb,hv];exact ih _ _ (by omega) ⟨by simp [h2,Prg.e],by simp [h1],by simp [qa7 hi],by simp⟩
 ·rintro e n L hL hn ⟨h2,h1,h5,h6⟩;rw [Prg.e] at h2;simp [c_214_l0,c_214_k1,Tbl.e,h1,h2,h5,h6,hk,hL]
 ·simp [Prg.e]
def tAl (p:Prg) (t a:Int):Bool:=tOk p t&&(match at? p.Xn t with
 | some x=>x.actions.any fun s=>decide (s=a)
 | none=>false)
theorem qnt (p:Prg) (f:PrgS p) (t a:Int):qac Φ f_186 [.agg (Prg.c p),.int .i64 t,.int .i64 a]=some (.val (.bool (tAl p t a))):=by
 rw [qad (fn:=c_186) rfl rfl];have h:=qky p f t;simp only [Prg.e] at h;cases q:tOk p t with
 | false=>
  rw [q] at h;simp [c_186,Prg.e,h,tAl,q]
 | true=>
 rw [q] at h;obtain ⟨k,hk,rfl,o⟩:=qgr q;have hK:tAl p (k:Int) a=p.Xn[k].actions.any fun s=>decide (s=a):=by simp [tAl,q,hk]
 rw [hK];have hb:=o.acts;simp [c_186,Prg.e,h,hk,Tbl.e];refine (qay p.Xn[k].actions.length (fun _=>[]) 0 (fun i e=>look 2 e=some (.int .i64 a)/\look 18 e=some (.slice 1 (p.Xn[k].actions.map cI))/\look 19 e=some (.int .i64 p.Xn[k].actions.length)/\look 20 e=some (.int .i64 i))
  (fun i=>some (Rt.val (.bool ((p.Xn[k].actions.drop i).any fun s=>decide (s=a))))) ?_ ?_ 0 _ 0 (Qc _) (Qb _) ?_).trans (by simp)
 ·rintro i e n L hi hL _ ⟨h2,h18,h19,h20⟩ ih;have hw:=qao i (by omega);rw [Qi hi,QBb];by_cases z:p.Xn[k].actions[i]=a
  ·generalize hX:some (Rt.val (AV.bool (decide (p.Xn[k].actions[i]=a) || (p.Xn[k].actions.drop (i+1)).any fun s=>decide (s=a))))=X;simp [c_186_l0,cI,h2,h18,h19,h20,hi,z];rw [<- hX];simp [z]
  ·rw [show (decide (p.Xn[k].actions[i]=a) || (p.Xn[k].actions.drop (i+1)).any fun s=>decide (s=a))=(p.Xn[k].actions.drop (i+1)).any fun s=>decide (s=a) by simp [z]];generalize hX:some (Rt.val (AV.bool ((p.Xn[k].actions.drop (i+1)).any fun s=>decide (s=a))))=X;simp [c_186_l0,cI,h2,h18,h19,h20,hi,z,hw];rw [<- hX];exact ih _ _ (Qc _) ⟨by simp [h2],by simp [h18],by simp [h19],by simp⟩
 ·rintro e n L hL _ ⟨h2,h18,h19,h20⟩;simp [c_186_l0,c_186_k1,h19,h20,hL]
 ·simp
theorem qnj (p:Prg) (f:PrgS p) (hv:∀t∈p.Xn,∀v∈t.dflt.args,ok32 0 v) (t a:Int):qac Φ f_148 [.agg (Prg.c p),.int .i64 t,.int .i64 a]=some (.val (.bool (tAl p t a))):=by
 rw [qad (fn:=c_148) rfl rfl];have h:=qjn p f hv t;simp only [Prg.e] at h;cases q:tOk p t with
 | false=>
  rw [q] at h;simp [c_148,Prg.e,h,tAl,q]
 | true=>
 rw [q] at h;obtain ⟨k,hk,rfl,o⟩:=qgr q;have hK:tAl p (k:Int) a=p.Xn[k].actions.any fun s=>decide (s=a):=by simp [tAl,q,hk]
 have hb:=o.acts;have hx:=qkt p.Xn[k].actions a (by omega);rw [hK,<- qm9];simp [c_148,Prg.e,Tbl.e,h,hk,hx]
def pmI (n k:Nat):Int:=2^k - 2^(k - n)
theorem qagb:∀k:Nat,k<33->∀n:Nat,n<33->n<=k->qg9 .u32 (2^k - 1) (ishr .u32 (2^k - 1) (n:Int))=pmI n k:=by decide+kernel
theorem qzz (n k:Nat) (h:n<=k) (h1:1<=k) (h2:k<=32):qac Φ f_315 [.int .i64 n,.int .i64 k]=some (.val (.int .u32 (pmI n k))):=by
 rw [qad (fn:=c_315) rfl rfl];have hv:=qh8 k;have hm:=qha k;have hw:wBad (k:Int)=false:=wBad_false.2 ⟨by omega,by omega⟩;have hM:qbt (k:Int)=2^k - 1:=by simp [qbt,hw]
 rw [hw] at hv;rw [hM] at hm;have hp:=qagb k (by omega) n (by omega) h;have n1:¬((n:Int)<0):=by omega
 have n2:¬((k:Int)<n):=by omega
 simp [c_315,hv,hm,n1,n2];exact hp
theorem qag1:∀k:Nat,k<33->∀n:Nat,n<33->n<=k->IntKind.wrap .u32 (IntKind.wrap .u64 (2^k - 2^(k - n)))=pmI n k:=by decide+kernel
theorem qxs (n k:Nat) (h:n<=k) (h1:1<=k) (h2:k<=32):qac Φ f_336 [.int .i64 n,.int .i64 k]=some (.val (.int .u32 (pmI n k))):=by
 rw [qad (fn:=c_336) rfl rfl];have hv:=qh5 k;have hw:wBad (k:Int)=false:=wBad_false.2 ⟨by omega,by omega⟩;rw [hw] at hv;have p1:=qjj k (by omega);have p2:=qjj (k - n) (by omega);have hs:IntKind.wrap .i64 ((k:Int) - n)=((k - n:Nat):Int):=by
  rw [show (k:Int) - n=((k - n:Nat):Int) by omega];exact qbr (by omega) (by omega)
 have n1:¬((n:Int)<0):=by omega
 have n2:¬((k:Int)<n):=by omega
 simp [c_336,hv,p1,p2,n1,n2,hs];exact qag1 k (by omega) n (by omega) h
def plG (m:Int) (k:Nat) (n:Nat):Option Int:=if pmI n k=m then some (n:Int) else none
def plE (m w:Int):Option Int:=if wBad w then none else fe (plG m w.toNat) (w.toNat+1) 0
def plV (o:Option Int):Rt:= .val (.tup [.int .i64 (o.getD 0),.bool o.isSome])
theorem qadb (m w:Int):qac Φ f_248 [.int .u32 m,.int .i64 w]=some (plV (plE m w)):=by
 rw [qad (fn:=c_248) rfl rfl];have hv:=qh8 w;cases q:wBad w with
 | true=>
  rw [q] at hv;simp [c_248,hv,plE,q,plV]
 | false=>
 rw [q] at hv;obtain ⟨w1,w2⟩:=wBad_false.1 q;obtain ⟨k,rfl⟩:∃k:Nat,w=k:=⟨w.toNat,by omega⟩;have hw1:=qao k (by omega);have hE:plE m (k:Int)=fe (plG m k) (k+1) 0:=by simp [plE,q]
 rw [hE];simp [c_248,hv,hw1];refine qay (k+1) (fun _=>[]) 0 (fun i e=>look 0 e=some (.int .u32 m)/\look 1 e=some (.int .i64 k)/\look 12 e=some (.int .i64 ((k:Int)+1))/\look 13 e=some (.int .i64 i))
  (fun i=>some (plV (fe (plG m k) (k+1) i))) ?_ ?_ 0 _ 0 (Qc _) (Qb _) ?_
 ·rintro i e n L hi hL _ ⟨h0,h1,h12,h13⟩ ih;have hw:=qao i (by omega);have hp:=qzz i k (by omega) (by omega) (by omega);have hlt:(i:Int)<(k:Int)+1:=by omega
  by_cases z:pmI i k=m
  ·rw [qbj (x:=(i:Int)) hi (by simp [plG,z])];subst z;simp [c_248_l0,h0,h1,h12,h13,hp,hlt,plV]
  ·rw [qbf hi (by simp [plG,z])];generalize hX:some (plV (fe (plG m k) (k+1) (i+1)))=X;simp [c_248_l0,h0,h1,h12,h13,hp,hlt,z,hw];rw [<- hX];exact ih _ _ (Qc _) ⟨by simp [h0],by simp [h1],by simp [h12],by simp⟩
 ·rintro e n L hL _ ⟨h0,h1,h12,h13⟩;rw [qb7];simp [c_248_l0,c_248_k1,h12,h13,hL,plV]
 ·simp
theorem qaac (m w:Int):qac Φ f_283 [.int .u32 m,.int .i64 w]=some (plV (plE m w)):=by
 rw [qad (fn:=c_283) rfl rfl];have hv:=qh5 w;cases q:wBad w with
 | true=>
  rw [q] at hv;simp [c_283];rw [qa3];by_cases z:0<=w
  ·simp [c_283_l0,c_283_k1,hv,z,plE,q,plV]
  ·simp [c_283_l0,c_283_k1,z,plE,q,plV]
 | false=>
 rw [q] at hv;obtain ⟨w1,w2⟩:=wBad_false.1 q;obtain ⟨k,rfl⟩:∃k:Nat,w=k:=⟨w.toNat,by omega⟩;have hE:plE m (k:Int)=fe (plG m k) (k+1) 0:=by simp [plE,q]
 rw [hE];simp [c_283];refine qay (k+1) (fun _=>[]) 0 (fun i e=>look 0 e=some (.int .u32 m)/\look 1 e=some (.int .i64 k)/\look 6 e=some (.int .i64 i))
  (fun i=>some (plV (fe (plG m k) (k+1) i))) ?_ ?_ 0 _ 0 (Qc _) (Qb _) ?_
 ·rintro i e n L hi hL _ ⟨h0,h1,h6⟩ ih;have hw:=qao i (by omega);have hp:=qxs i k (by omega) (by omega) (by omega);have hle:i<=k:=by omega
  by_cases z:pmI i k=m
  ·rw [qbj (x:=(i:Int)) hi (by simp [plG,z])];subst z;simp [c_283_l0,h0,h1,h6,hv,hp,hle,plV]
  ·rw [qbf hi (by simp [plG,z])];generalize hX:some (plV (fe (plG m k) (k+1) (i+1)))=X;simp [c_283_l0,h0,h1,h6,hv,hp,hle,z,hw];rw [<- hX];exact ih _ _ (Qc _) ⟨by simp [h0],by simp [h1],by simp⟩
 ·rintro e n L hL _ ⟨h0,h1,h6⟩;rw [qb7];have hgt:¬((k:Int)+1<=(k:Int)):=by omega
  simp [c_283_l0,c_283_k1,h1,h6,hL,hgt,plV]
 ·simp
theorem Xi.ce (m:Xi):Xi.c m=[.int .u32 m.value,.int .u32 m.mask]:=by simp [Xi.c]
def keyK (m:Xi) (kind w:Int):Int:=
 if fits m.value w=false\/fits m.mask w=false then 9
 else if m.value.toNat&&& m.mask.toNat≠m.value.toNat then 5
 else if kind=1/\m.mask≠qbt w then 11
 else if kind=2/\(plE m.mask w).isSome=false then 11 else 0
theorem qab2 (m:Xi) (kind w:Int) (h1:ok32 0 m.value) (h2:ok32 0 m.mask):qac Φ f_184 [.agg (Xi.c m),.int .i64 kind,.int .i64 w]=some (.val (.int .i64 (keyK m kind w))):=by
 rw [qad (fn:=c_184) rfl rfl];have f1:=qn5 m.value w;have f2:=qn5 m.mask w;have hm:=qha w;have hp:=qadb m.mask w;have ha:=qqu h1 h2;unfold keyK;cases q1:fits m.value w with
 | false=>rw [q1] at f1;simp [c_184,Xi.ce,f1]
 | true=>
 rw [q1] at f1;cases q2:fits m.mask w with
 | false=>rw [q2] at f2;simp [c_184,Xi.ce,f1,f2]
 | true=>
 rw [q2] at f2;by_cases z:qg9 .u32 m.value m.mask=0
 rotate_left
 ·have z':¬(m.value.toNat&&& m.mask.toNat=m.value.toNat):=fun h=>z (ha.2 h)
  simp [c_184,Xi.ce,f1,f2,z,z']
 have z':=ha.1 z;by_cases k1:kind=1
 ·subst k1;by_cases y:m.mask=qbt w
  ·rw [y] at f2 z z';simp [c_184,Xi.ce,f1,f2,z,z',hm,y]
  ·simp [c_184,Xi.ce,f1,f2,z,z',hm,y]
 by_cases k2:kind=2
 ·subst k2;cases y:plE m.mask w with
  | none=>rw [y] at hp;simp [plV] at hp;simp [c_184,Xi.ce,f1,f2,z,z',hp]
  | some x=>rw [y] at hp;simp [plV] at hp;simp [c_184,Xi.ce,f1,f2,z,z',hp]
 simp [c_184,Xi.ce,f1,f2,z,z',k1,k2]
theorem qadt (m:Xi) (kind w:Int) (h1:ok32 0 m.value) (h2:ok32 0 m.mask):qac Φ f_215 [.agg (Xi.c m),.int .i64 w,.int .i64 kind]=some (.val (.int .i64 (keyK m kind w))):=by
 rw [qad (fn:=c_215) rfl rfl];have f1:=qjl m.value w h1;have f2:=qjl m.mask w h2;have hm:=qz9 w;have hp:=qaac m.mask w;have ha:=qwu h1 h2;simp [plV] at hp;unfold keyK;cases q1:fits m.value w with
 | false=>rw [q1] at f1;simp [c_215,Xi.ce,hp,f1]
 | true=>
 rw [q1] at f1;cases q2:fits m.mask w with
 | false=>rw [q2] at f2;simp [c_215,Xi.ce,hp,f1,f2]
 | true=>
 rw [q2] at f2;by_cases z:iand .u32 m.value m.mask=m.value
 rotate_left
 ·have z':¬(m.value.toNat&&& m.mask.toNat=m.value.toNat):=fun h=>z (ha.2 h)
  simp [c_215,Xi.ce,hp,f1,f2,z,z']
 have z':=ha.1 z;by_cases k1:kind=1
 ·subst k1;by_cases y:m.mask=qbt w
  ·rw [y] at hp f2 z z';simp [c_215,Xi.ce,hp,f1,f2,z,z',hm,y]
  ·simp [c_215,Xi.ce,hp,f1,f2,z,z',hm,y]
 by_cases k2:kind=2
 ·subst k2;cases y:plE m.mask w with
  | none=>rw [y] at hp;simp [c_215,Xi.ce,f1,f2,z,z',hp]
  | some x=>rw [y] at hp;simp [c_215,Xi.ce,f1,f2,z,z',hp]
 simp [c_215,Xi.ce,hp,f1,f2,z,z',k1,k2]
structure EntS (x:Entry):Prop where
 kl:x.keys.length<2^40
 ks:∀m∈x.keys,ok32 0 m.value/\ok32 0 m.mask
 al:x.call.args.length<2^40
 ar:∀v∈x.call.args,ok32 0 v
def entF (p:Prg) (t:Int) (x:Entry):Int:=if x.Xt<0 then 9 else if 255<x.Xt then 9 else if x.Xt≠0/\qfu p t≠3 then 11 else if tAl p t x.call.action=false then 8 else qcf p x.call
def entG (p:Prg) (tb:Tbl) (x:Entry) (i:Nat):Option Int:=match x.keys[i]?,tb.keys[i]? with
 | some m,some k=>if keyK m k.kind (wid p k.field.header k.field.field)=0 then none else some (keyK m k.kind (wid p k.field.header k.field.field))
 | _,_=>none
def entE (p:Prg) (t:Int) (x:Entry):Int:=if (tblE p t).2≠0 then (tblE p t).2 else match at? p.Xn t with
 | some tb=>if x.keys.length≠tb.keys.length then 2 else (fe (entG p tb x) tb.keys.length 0).getD (entF p t x)
 | none=>0
theorem qab4 (p:Prg) (f:PrgS p) (t:Int) (x:Entry) (s:EntS x) (e:Env) (n:Nat) (h1:look 1 e=some (.int .i64 t)) (h3:look 3 e=some (.iptr 9 [Prg.c p] 0 0)) (h5:look 5 e=some (.iptr 4 [Entry.c x] 0 0)):
  go Φ (finP [.tmp 6]) [.c c_127_k1] .normal ⟨e,⟨[],n⟩⟩=some (.val (.int .i64 (entF p t x))):=by
 have hk:=qaa0 p f t;have ha:=qnt p f t x.call.action;have hc:=ql5 p f x.call s.al;simp only [Prg.e,Xb.ce] at hk ha hc;rw [Prg.e] at h3;rw [Entry.ce] at h5;unfold entF;by_cases p0:x.Xt<0
 ·simp [c_127_k1,h5,p0]
 by_cases p1:255<x.Xt
 ·simp [c_127_k1,h5,p0,p1]
 by_cases p2:x.Xt=0
 ·cases q:tAl p t x.call.action with
  | false=>rw [q] at ha;simp [c_127_k1,h1,h3,h5,p2,ha]
  | true=>rw [q] at ha;simp [c_127_k1,h1,h3,h5,p2,ha,hc]
 by_cases p3:qfu p t=3
 ·cases q:tAl p t x.call.action with
  | false=>rw [q] at ha;simp [c_127_k1,h1,h3,h5,p0,p1,p2,p3,hk,ha]
  | true=>rw [q] at ha;simp [c_127_k1,h1,h3,h5,p0,p1,p2,p3,hk,ha,hc]
 ·simp [c_127_k1,h1,h3,h5,p0,p1,p2,p3,hk]
theorem qs1 (p:Prg) (f:PrgS p) (t:Int) (x:Entry) (s:EntS x):qac Φ f_127 [.agg (Prg.c p),.int .i64 t,.agg (Entry.c x)]=some (.val (.int .i64 (entE p t x))):=by
 rw [qad (fn:=c_127) rfl rfl];have h:=qtq p f t;simp only [Prg.e] at h;by_cases z:(tblE p t).2=0
 rotate_left
 ·simp [c_127,Prg.e,Entry.ce,h,z,entE]
 have q:tOk p t=true:=by simp [tOk,z]
 obtain ⟨k,hk,rfl,o⟩:=qgr q;have hw:=qvj p f k hk q;simp only [Prg.e] at hw;have hb:=o.keys;by_cases y:x.keys.length=p.Xn[k].keys.length
 rotate_left
 ·simp [c_127,Prg.e,Entry.ce,Tbl.e,hk,h,z,hw,y,entE]
 have hE:entE p (k:Int) x=(fe (entG p p.Xn[k] x) p.Xn[k].keys.length 0).getD (entF p k x):=by simp [entE,z,hk,y]
 rw [hE];simp [c_127,Prg.e,Entry.ce,Tbl.e,hk,h,z,hw,y];refine qay p.Xn[k].keys.length (fun _=>[]) 0 (fun i e=>look 1 e=some (.int .i64 k)/\look 3 e=some (.iptr 9 [Prg.c p] 0 0)/\look 5 e=some (.iptr 4 [Entry.c x] 0 0)/\look 9 e=some (.slice 3 (p.Xn[k].keys.map Xl.c))/\look 10 e=some (.slice 1 ((kWid p p.Xn[k]).map cI))/\look 39 e=some (.slice 2 (x.keys.map Xi.c))/\look 40 e=some (.int .i64 p.Xn[k].keys.length)/\look 41 e=some (.int .i64 i))
  (fun i=>some (Rt.val (.int .i64 ((fe (entG p p.Xn[k] x) p.Xn[k].keys.length i).getD (entF p k x))))) ?_ ?_ 0 _ 0 (Qc _) (Qb _) ?_
 ·rintro i e n L hi hL _ ⟨h1,h3,h5,h9,h10,h39,h40,h41⟩ ih;have hi2:i<x.keys.length:=by omega
  have hi3:i<(kWid p p.Xn[k]).length:=by simp [kWid];exact hi
  have hkw:(kWid p p.Xn[k])[i]=wid p p.Xn[k].keys[i].field.header p.Xn[k].keys[i].field.field:=by simp [kWid]
  have hw:=qao i (by omega);have hm:=s.ks _ (Qd hi2);have hc:=qab2 x.keys[i] p.Xn[k].keys[i].kind (wid p p.Xn[k].keys[i].field.header p.Xn[k].keys[i].field.field) hm.1 hm.2;simp only [Xi.ce] at hc;by_cases v:keyK x.keys[i] p.Xn[k].keys[i].kind (wid p p.Xn[k].keys[i].field.header p.Xn[k].keys[i].field.field)=0
  ·rw [qbf hi (by simp [entG,hi,hi2,v])];rw [v] at hc;generalize hX:some (Rt.val (AV.int .i64 ((fe (entG p p.Xn[k] x) p.Xn[k].keys.length (i+1)).getD (entF p k x))))=X;simp [c_127_l0,Xl.e,Xi.ce,cI,h9,h10,h39,h40,h41,hi,hi2,hi3,hkw,hc,hw];rw [<- hX];exact ih _ _ (Qc _) ⟨by simp [h1],by simp [h3],by simp [h5],by simp [h9],by simp [h10],by simp [h39],by simp [h40],by simp⟩
  ·rw [qbj (x:=keyK x.keys[i] p.Xn[k].keys[i].kind (wid p p.Xn[k].keys[i].field.header p.Xn[k].keys[i].field.field)) hi (by simp [entG,hi,hi2,v])];simp [c_127_l0,Xl.e,Xi.ce,cI,h9,h10,h39,h40,h41,hi,hi2,hi3,hkw,hc,v]
 ·rintro e n L hL _ ⟨h1,h3,h5,h9,h10,h39,h40,h41⟩;rw [qb7];simp [c_127_l0,h40,h41,hL];exact qab4 p f k x s _ _ (by simp [h1]) (by simp [h3]) (by simp [h5])
 ·simp [Prg.e,Entry.ce]
theorem qz6 (p:Prg) (f:PrgS p) (hv:∀t∈p.Xn,∀v∈t.dflt.args,ok32 0 v) (t:Int) (x:Entry) (s:EntS x) (e:Env) (n:Nat) (h1:look 1 e=some (.int .i64 t)) (h3:look 3 e=some (.iptr 9 [Prg.c p] 0 0)) (h5:look 5 e=some (.iptr 4 [Entry.c x] 0 0)):
  go Φ (finP [.tmp 6]) [.c c_146_k1] .normal ⟨e,⟨[],n⟩⟩=some (.val (.int .i64 (entF p t x))):=by
 have hk:=qz8 p f hv t;have ha:=qnj p f hv t x.call.action;have hc:=qh4 p f x.call s.al s.ar;simp only [Prg.e,Xb.ce] at hk ha hc;rw [Prg.e] at h3;rw [Entry.ce] at h5;unfold entF;by_cases p0:x.Xt<0
 ·simp [c_146_k1,h5,p0]
 by_cases p1:255<x.Xt
 ·simp [c_146_k1,h5,p0,p1]
 by_cases p2:x.Xt=0
 ·cases q:tAl p t x.call.action with
  | false=>rw [q] at ha;simp [c_146_k1,h1,h3,h5,p2,ha]
  | true=>rw [q] at ha;simp [c_146_k1,h1,h3,h5,p2,ha,hc]
 have p4:0<x.Xt:=by omega
 by_cases p3:qfu p t=3
 ·cases q:tAl p t x.call.action with
  | false=>rw [q] at ha;simp [c_146_k1,h1,h3,h5,p0,p1,p2,p3,p4,hk,ha]
  | true=>rw [q] at ha;simp [c_146_k1,h1,h3,h5,p0,p1,p2,p3,p4,hk,ha,hc]
 ·simp [c_146_k1,h1,h3,h5,p0,p1,p2,p3,p4,hk]
theorem qz5 (p:Prg) (f:PrgS p) (hv:∀t∈p.Xn,∀v∈t.dflt.args,ok32 0 v) (t:Int) (x:Entry) (s:EntS x):qac Φ f_146 [.agg (Prg.c p),.int .i64 t,.agg (Entry.c x)]=some (.val (.int .i64 (entE p t x))):=by
 rw [qad (fn:=c_146) rfl rfl];have h:=qri p f hv t;simp only [Prg.e] at h;by_cases z:(tblE p t).2=0
 rotate_left
 ·simp [c_146,Prg.e,Entry.ce,h,z,entE]
 have q:tOk p t=true:=by simp [tOk,z]
 obtain ⟨k,hk,rfl,o⟩:=qgr q;have hw:=qu4 p f hv k hk q;simp only [Prg.e] at hw;have hb:=o.keys;have hkl:(kWid p p.Xn[k]).length=p.Xn[k].keys.length:=by simp [kWid]
 by_cases y:x.keys.length=p.Xn[k].keys.length
 rotate_left
 ·simp [c_146,Prg.e,Entry.ce,hk,h,z,hw,y,hkl,entE]
 have hE:entE p (k:Int) x=(fe (entG p p.Xn[k] x) p.Xn[k].keys.length 0).getD (entF p k x):=by simp [entE,z,hk,y]
 rw [hE];simp [c_146,Prg.e,Entry.ce,h,z,hw,y,hkl];refine qay p.Xn[k].keys.length (fun _=>[]) 0 (fun i e=>look 1 e=some (.int .i64 k)/\look 3 e=some (.iptr 9 [Prg.c p] 0 0)/\look 5 e=some (.iptr 4 [Entry.c x] 0 0)/\look 9 e=some (.slice 1 ((kWid p p.Xn[k]).map cI))/\look 10 e=some (.int .i64 i))
  (fun i=>some (Rt.val (.int .i64 ((fe (entG p p.Xn[k] x) p.Xn[k].keys.length i).getD (entF p k x))))) ?_ ?_ 0 _ 0 (Qc _) (Qb _) ?_
 ·rintro i e n L hi hL _ ⟨h1,h3,h5,h9,h10⟩ ih;have hi2:i<x.keys.length:=by omega
  have hi3:i<(kWid p p.Xn[k]).length:=by omega
  have hkw:(kWid p p.Xn[k])[i]=wid p p.Xn[k].keys[i].field.header p.Xn[k].keys[i].field.field:=by simp [kWid]
  have hw:=qao i (by omega);have hm:=s.ks _ (Qd hi2);have hc:=qadt x.keys[i] p.Xn[k].keys[i].kind (wid p p.Xn[k].keys[i].field.header p.Xn[k].keys[i].field.field) hm.1 hm.2;simp only [Xi.ce] at hc;rw [Prg.e] at h3;rw [Entry.ce] at h5;by_cases v:keyK x.keys[i] p.Xn[k].keys[i].kind (wid p p.Xn[k].keys[i].field.header p.Xn[k].keys[i].field.field)=0
  ·rw [qbf hi (by simp [entG,hi,hi2,v])];rw [v] at hc;generalize hX:some (Rt.val (AV.int .i64 ((fe (entG p p.Xn[k] x) p.Xn[k].keys.length (i+1)).getD (entF p k x))))=X;simp [c_146_l0,Xl.e,Tbl.e,Xi.ce,cI,h1,h3,h5,h9,h10,hk,hkl,hi,hi2,hkw,hc,hw];rw [<- hX];exact ih _ _ (Qc _) ⟨by simp [h1],by simp [h3,Prg.e],by simp [h5,Entry.ce],by simp [h9],by simp⟩
  ·rw [qbj (x:=keyK x.keys[i] p.Xn[k].keys[i].kind (wid p p.Xn[k].keys[i].field.header p.Xn[k].keys[i].field.field)) hi (by simp [entG,hi,hi2,v])];simp [c_146_l0,Xl.e,Tbl.e,Xi.ce,cI,h1,h3,h5,h9,h10,hk,hkl,hi,hi2,hkw,hc,v]
 ·rintro e n L hL _ ⟨h1,h3,h5,h9,h10⟩;rw [qb7];simp [c_146_l0,h9,h10,hkl,hL];exact qz6 p f hv k x s _ _ (by simp [h1]) (by simp [h3]) (by simp [h5])
 ·simp [Prg.e,Entry.ce]
def qbb (p:Prg) (t:Int) (c:Xb):Int:=if tAl p t c.action=false then 8 else qcf p c
theorem qme (p:Prg) (f:PrgS p) (t:Int) (c:Xb) (hc:c.args.length<2^40):qac Φ f_131 [.agg (Prg.c p),.int .i64 t,.agg (Xb.c c)]=some (.val (.int .i64 (qbb p t c))):=by
 rw [qad (fn:=c_131) rfl rfl];have ha:=qnt p f t c.action;have hk:=ql5 p f c hc;simp only [Prg.e,Xb.ce] at ha hk;cases q:tAl p t c.action with
 | false=>rw [q] at ha;simp [c_131,Prg.e,Xb.ce,ha,qbb,q]
 | true=>rw [q] at ha;simp [c_131,Prg.e,Xb.ce,ha,hk,qbb,q]
theorem qz1 (p:Prg) (f:PrgS p) (hv:∀t∈p.Xn,∀v∈t.dflt.args,ok32 0 v) (t:Int) (c:Xb) (hc:c.args.length<2^40) (hr:∀v∈c.args,ok32 0 v):qac Φ f_90 [.agg (Prg.c p),.int .i64 t,.agg (Xb.c c)]=some (.val (.int .i64 (qbb p t c))):=by
 rw [qad (fn:=c_90) rfl rfl];have ha:=qnj p f hv t c.action;have hk:=qh4 p f c hc hr;simp only [Prg.e,Xb.ce] at ha hk;cases q:tAl p t c.action with
 | false=>rw [q] at ha;simp [c_90,Prg.e,Xb.ce,ha,qbb,q]
 | true=>rw [q] at ha;simp [c_90,Prg.e,Xb.ce,ha,hk,qbb,q]
def sk (x y:Entry):Bool:=decide (x.keys=y.keys/\x.Xt=y.Xt)
theorem qwd (x y:Entry) (hb:x.keys.length<2^40):qac Φ f_130 [.agg [.slice 2 (x.keys.map Xi.c),.int .i64 x.Xt,.int .i64 x.call.action,.slice 1 (x.call.args.map c32)],.agg [.slice 2 (y.keys.map Xi.c),.int .i64 y.Xt,.int .i64 y.call.action,.slice 1 (y.call.args.map c32)]]=some (.val (.bool (sk x y))):=qr8 _ _ _ _ _ _ hb
theorem qag2 (x y:Entry) (hb:x.keys.length<2^40):qac Φ f_217 [.agg [.slice 2 (x.keys.map Xi.c),.int .i64 x.Xt,.int .i64 x.call.action,.slice 1 (x.call.args.map c32)],.agg [.slice 2 (y.keys.map Xi.c),.int .i64 y.Xt,.int .i64 y.call.action,.slice 1 (y.call.args.map c32)]]=some (.val (.bool (sk x y))):=qtv _ _ _ _ _ _ hb
theorem qafb (x r:Rw) (hb:x.entry.keys.length<2^40):qac Φ f_129 [.agg (Rw.c x),.iptr 5 [Rw.c r] 0 0]=some (.val (.bool (sk x.entry r.entry))):=by
 rw [qad (fn:=c_129) rfl rfl];have h:=qwd x.entry r.entry hb;simp [c_129,Rw.ce,h]
theorem qwv (l:List Rw) (r:Rw) (hl:l.length<2^40) (hs:∀x∈l,x.entry.keys.length<2^40):qac Φ f_188 [.slice 5 (l.map Rw.c),.func (.func f_129) [] [.iptr 5 [Rw.c r] 0 0]]=some (.val (.int .i64 (ix (fun x=>sk x.entry r.entry) l 0))):=by
 rw [qad (fn:=c_188) rfl rfl];simp [c_188];refine (qby l.length (fun i e=>look 0 e=some (.slice 5 (l.map Rw.c))/\look 1 e=some (.func (.func f_129) [] [.iptr 5 [Rw.c r] 0 0])/\look 7 e=some (.int .i64 l.length)/\look 8 e=some (.int .i64 i))
  (fun i=>some (.val (.int .i64 (ix (fun x=>sk x.entry r.entry) l i)))) ?_ ?_ 0 _ (Qc _) ?_).trans (by simp)
 ·rintro i e L hi hL ⟨h0,h1,h7,h8⟩ ih;have hw:=qao i (by omega);have hd:=qafb l[i] r (hs _ (Qd hi));simp only [Rw.ce] at hd h1;cases z:sk l[i].entry r.entry with
  | true=>
   rw [qnb hi (by simpa using z)];rw [z] at hd;simp [c_188_l0,Rw.ce,h0,h1,h7,h8,hi,hd]
  | false=>
   rw [qle hi (by simpa using z)];rw [z] at hd;simp [c_188_l0,Rw.ce,h0,h1,h7,h8,hi,hd,hw];exact ih _ ⟨by simp [h0],by simp [h1,Rw.ce],by simp [h7],by simp⟩
 ·rintro e L hL ⟨h0,h1,h7,h8⟩;rw [qna];simp [c_188_l0,c_188_k1,h7,h8,hL]
 ·simp
theorem qv7 (l:List Rw) (r:Rw) (hl:l.length<2^40) (hs:∀x∈l,x.entry.keys.length<2^40):qac Φ f_128 [.slice 5 (l.map Rw.c),.func (.func f_129) [] [.iptr 5 [Rw.c r] 0 0]]=some (.val (.bool (l.any fun x=>sk x.entry r.entry))):=by
 rw [qad (fn:=c_128) rfl rfl];have h:=qwv l r hl hs;rw [<- qm9];simp [c_128,h]
theorem qaay (l:List Rw) (x:Entry) (hl:l.length<2^40) (hs:∀x∈l,x.entry.keys.length<2^40):qac Φ f_147 [.slice 5 (l.map Rw.c),.agg (Entry.c x)]=some (.val (.bool (l.any fun y=>sk y.entry x))):=by
 rw [qad (fn:=c_147) rfl rfl];generalize hY:some (Rt.val (AV.bool (l.any fun y=>sk y.entry x)))=Y;simp [c_147,Entry.ce];rw [show Y=some (Rt.val (AV.bool ((l.drop 0).any fun y=>sk y.entry x))) by rw [<- hY];simp];refine qby l.length (fun i e=>look 0 e=some (.slice 5 (l.map Rw.c))/\look 3 e=some (.iptr 4 [Entry.c x] 0 0)/\look 5 e=some (.int .i64 i))
  (fun i=>some (Rt.val (.bool ((l.drop i).any fun y=>sk y.entry x)))) ?_ ?_ 0 _ (Qc _) ?_
 ·rintro i e L hi hL ⟨h0,h3,h5⟩ ih;have hw:=qao i (by omega);have hd:=qag2 l[i].entry x (hs _ (Qd hi));rw [Entry.ce] at h3;rw [Qi hi,QBb];cases z:sk l[i].entry x with
  | true=>
   rw [z] at hd;rw [QCi];simp [c_147_l0,Rw.ce,h0,h3,h5,hi,hd]
  | false=>
   rw [z] at hd;rw [QBc];generalize hX:some (Rt.val (AV.bool ((l.drop (i+1)).any fun y=>sk y.entry x)))=X;simp [c_147_l0,Rw.ce,h0,h3,h5,hi,hd,hw];rw [<- hX];exact ih _ ⟨by simp [h0],by simp [h3,Entry.ce],by simp⟩
 ·rintro e L hL ⟨h0,h3,h5⟩;simp [c_147_l0,c_147_k1,h0,h5,hL]
 ·simp [Entry.ce]
def ordL:List Rw->Int->Option Int
 | [],a=>some a
 | r::l,a=>if r.id<=a then none else ordL l r.id
def rowG (p:Prg) (t:Int) (l:List Rw) (i:Nat):Option Int:=(l[i]?).bind fun r=>if entE p t r.entry≠0 then some (entE p t r.entry) else if (l.take i).any (fun y=>sk y.entry r.entry)=true then some 7 else none
def tabK (p:Prg) (t:Int) (l:List Rw) (next:Int) (z:Int):Option Int->Int
 | none=>14
 | some a=>if next<=a then 14 else if 1073741824<next then 14 else (fe (rowG p t l) l.length 0).getD z
def rowS (r:Rw):Prop:=EntS r.entry
theorem ct_b (p:Prg) (f:PrgS p) (t:Int) (l:List Rw) (next:Int) (d:Xb) (hl:l.length<2^40) (hs:∀r∈l,rowS r) (hd:d.args.length<2^40) (a:Int) (ha:0<=a) (e:Env) (n:Nat)
  (h1:look 1 e=some (.int .i64 t)) (h2:look 2 e=some (.slice 5 (l.map Rw.c))) (h3:look 3 e=some (.int .i64 next)) (h5:look 5 e=some (.iptr 9 [Prg.c p] 0 0)) (h9:look 9 e=some (.iptr 2 [Xb.c d] 0 0)) (h11:look 11 e=some (.int .i64 a)):
  go Φ (finP [.tmp 10]) [.c c_81_k3] .normal ⟨e,⟨[],n⟩⟩=some (.val (.int .i64 (tabK p t l next (qbb p t d) (some a)))):=by
 unfold tabK;dsimp only;by_cases z0:next<=a
 ·simp [c_81_k3,h3,h11,z0]
 have z1:¬next<1:=by omega
 by_cases z2:1073741824<next
 ·simp [c_81_k3,h3,h11,z0,z1,z2]
 rw [QA z0,QA z2];simp [c_81_k3,h2,h3,h11,z0,z1,z2];refine qay l.length (fun _=>[]) 0 (fun i e=>look 1 e=some (.int .i64 t)/\look 2 e=some (.slice 5 (l.map Rw.c))/\look 5 e=some (.iptr 9 [Prg.c p] 0 0)/\look 9 e=some (.iptr 2 [Xb.c d] 0 0)/\look 50 e=some (.slice 5 (l.map Rw.c))/\look 51 e=some (.int .i64 l.length)/\look 52 e=some (.int .i64 i))
  (fun i=>some (Rt.val (.int .i64 ((fe (rowG p t l) l.length i).getD (qbb p t d))))) ?_ ?_ 0 _ n (Qc _) (Qc _) ?_
 ·rintro i e n L hi hL _ ⟨h1,h2,h5,h9,h50,h51,h52⟩ ih;have hw:=qao i (by omega);have hm:=hs _ (Qd hi);have hc:=qs1 p f t l[i].entry hm;have hi':i<=l.length:=by omega
  have hx:qac Φ f_128 [.slice 5 ((l.map Rw.c).take i),.func (.func f_129) [] [.iptr 5 [Rw.c l[i]] 0 0]]=some (.val (.bool ((l.take i).any fun x=>sk x.entry l[i].entry))):=by
   rw [<- List.map_take];exact qv7 (l.take i) l[i] (by simp;omega) fun x hx=>(hs x (Qu hx)).kl
  simp only [Prg.e,Entry.ce] at hc;rw [Rw.ce] at hx;rw [Prg.e] at h5;by_cases v:entE p t l[i].entry=0
  ·rw [v] at hc;cases w:(l.take i).any fun x=>sk x.entry l[i].entry with
   | true=>
    rw [w] at hx;rw [qbj (x:=(7:Int)) hi (by simp only [rowG,Qa hi,QAl];rw [QA (by simp [v]),QAa w])];simp [c_81_l1,Rw.ce,h1,h2,h5,h50,h51,h52,hi,hi',hc,hx]
   | false=>
    rw [w] at hx;rw [qbf hi (by simp only [rowG,Qa hi,QAl];rw [QA (by simp [v]),QA (by rw [w];decide)])];generalize hX:some (Rt.val (AV.int .i64 ((fe (rowG p t l) l.length (i+1)).getD (qbb p t d))))=X;simp [c_81_l1,Rw.ce,h1,h2,h5,h50,h51,h52,hi,hi',hc,hx,hw];rw [<- hX];exact ih _ _ (Qc _) ⟨by simp [h1],by simp [h2],by simp [h5,Prg.e],by simp [h9],by simp [h50],by simp [h51],by simp⟩
  ·rw [qbj (x:=entE p t l[i].entry) hi (by simp only [rowG,Qa hi,QAl];rw [QAa v])];simp [c_81_l1,Rw.ce,h1,h5,h50,h51,h52,hi,hc,v]
 ·rintro e n L hL _ ⟨h1,h2,h5,h9,h50,h51,h52⟩;have hk:=qme p f t d hd;simp only [Prg.e,Xb.ce] at hk;rw [Prg.e] at h5;rw [Xb.ce] at h9;rw [qb7];simp [c_81_l1,c_81_k2,h1,h5,h9,h51,h52,hL,hk]
 ·simp [h1,h2,h5,h9]
theorem qabz (p:Prg) (f:PrgS p) (k:Nat) (hk:k<p.Xn.length) (l:List Rw) (next:Int) (d:Xb) (hl:l.length<2^40) (hs:∀r∈l,rowS r) (hd:d.args.length<2^40):
  qac Φ f_81 [.agg (Prg.c p),.int .i64 k,.slice 5 (l.map Rw.c),.int .i64 next,.agg (Xb.c d)]=some (.val (.int .i64 (if p.Xn[k].size<l.length then 12 else tabK p k l next (qbb p k d) (ordL l 0)))):=by
 rw [qad (fn:=c_81) rfl rfl];by_cases z:p.Xn[k].size<(l.length:Int)
 ·simp [c_81,Prg.e,Xb.ce,Tbl.e,hk,z]
 rw [QA z];simp [c_81,Prg.e,Xb.ce,Tbl.e,hk,z];refine qay l.length (fun _=>[]) 0 (fun i e=>look 1 e=some (.int .i64 k)/\look 2 e=some (.slice 5 (l.map Rw.c))/\look 3 e=some (.int .i64 next)/\look 5 e=some (.iptr 9 [Prg.c p] 0 0)/\look 9 e=some (.iptr 2 [Xb.c d] 0 0)/\look 26 e=some (.slice 5 (l.map Rw.c))/\look 27 e=some (.int .i64 l.length)/\look 28 e=some (.int .i64 i)/\∃a:Int,look 11 e=some (.int .i64 a)/\0<=a/\ordL (l.drop i) a=ordL l 0)
  (fun _=>some (Rt.val (.int .i64 (tabK p k l next (qbb p k d) (ordL l 0))))) ?_ ?_ 0 _ 0 (Qc _) (Qc _) ?_
 ·rintro i e n L hi hL _ ⟨h1,h2,h3,h5,h9,h26,h27,h28,a,h11,ha,ho⟩ ih;have hw:=qao i (by omega);rw [Qi hi] at ho;simp only [ordL] at ho;by_cases y:l[i].id<=a
  ·rw [QAa y] at ho;rw [<- ho];simp [c_81_l0,Rw.ce,h26,h27,h28,h11,hi,y,tabK]
  ·rw [QA y] at ho;generalize hX:some (Rt.val (AV.int .i64 (tabK p k l next (qbb p k d) (ordL l 0))))=X;simp [c_81_l0,Rw.ce,h26,h27,h28,h11,hi,y,hw];rw [<- hX];exact ih _ _ (Qc _) ⟨by simp [h1],by simp [h2],by simp [h3],by simp [h5],by simp [h9],by simp [h26],by simp [h27],by simp,l[i].id,by simp,by omega,ho⟩
 ·rintro e n L hL _ ⟨h1,h2,h3,h5,h9,h26,h27,h28,a,h11,ha,ho⟩;rw [QBd] at ho;simp only [ordL] at ho;rw [<- ho];generalize hX:some (Rt.val (AV.int .i64 (tabK p k l next (qbb p k d) (some a))))=X;simp [c_81_l0,h27,h28,hL];rw [<- hX];exact ct_b p f k l next d hl hs hd a ha _ _ (by simp [h1]) (by simp [h2]) (by simp [h3]) (by simp [h5]) (by simp [h9]) (by simp [h11])
 ·simp [Prg.e,Xb.ce]
theorem rt_b (p:Prg) (f:PrgS p) (hv:∀t∈p.Xn,∀v∈t.dflt.args,ok32 0 v) (t:Int) (l:List Rw) (next:Int) (hl:l.length<2^40) (hs:∀r∈l,rowS r) (a:Int) (e:Env) (n:Nat)
  (h1:look 1 e=some (.int .i64 t)) (h2:look 2 e=some (.slice 5 (l.map Rw.c))) (h3:look 3 e=some (.int .i64 next)) (h4:look 4 e=some (.iptr 9 [Prg.c p] 0 0)) (h9:look 9 e=some (.int .i64 a)):
  go Φ (finP [.tmp 8]) [.c c_89_k3] .normal ⟨e,⟨[],n⟩⟩=some (.val (.int .i64 (tabK p t l next 0 (some a)))):=by
 unfold tabK;dsimp only;by_cases z0:next<=a
 ·simp [c_89_k3,h3,h9,z0]
 by_cases z2:1073741824<next
 ·simp [c_89_k3,h3,h9,z0,z2]
 rw [QA z0,QA z2];simp [c_89_k3,h3,h9,z0,z2];refine qay l.length (fun _=>[]) 0 (fun i e=>look 1 e=some (.int .i64 t)/\look 2 e=some (.slice 5 (l.map Rw.c))/\look 4 e=some (.iptr 9 [Prg.c p] 0 0)/\look 11 e=some (.int .i64 i))
  (fun i=>some (Rt.val (.int .i64 ((fe (rowG p t l) l.length i).getD 0)))) ?_ ?_ 0 _ n (Qc _) (Qc _) ?_
 ·rintro i e n L hi hL _ ⟨h1,h2,h4,h11⟩ ih;have hw:=qao i (by omega);have hm:=hs _ (Qd hi);have hc:=qz5 p f hv t l[i].entry hm;have hi':i<=l.length:=by omega
  have hx:qac Φ f_147 [.slice 5 ((l.map Rw.c).take i),.agg (Entry.c l[i].entry)]=some (.val (.bool ((l.take i).any fun x=>sk x.entry l[i].entry))):=by
   rw [<- List.map_take];exact qaay (l.take i) l[i].entry (by simp;omega) fun x hx=>(hs x (Qu hx)).kl
  simp only [Prg.e,Entry.ce] at hc;rw [Entry.ce] at hx;rw [Prg.e] at h4;by_cases v:entE p t l[i].entry=0
  ·rw [v] at hc;cases w:(l.take i).any fun x=>sk x.entry l[i].entry with
   | true=>
    rw [w] at hx;rw [qbj (x:=(7:Int)) hi (by simp only [rowG,Qa hi,QAl];rw [QA (by simp [v]),QAa w])];simp [c_89_l1,Rw.ce,h1,h2,h4,h11,hi,hi',hc,hx]
   | false=>
    rw [w] at hx;rw [qbf hi (by simp only [rowG,Qa hi,QAl];rw [QA (by simp [v]),QA (by rw [w];decide)])];generalize hX:some (Rt.val (AV.int .i64 ((fe (rowG p t l) l.length (i+1)).getD 0)))=X;simp [c_89_l1,Rw.ce,h1,h2,h4,h11,hi,hi',hc,hx,hw];rw [<- hX];exact ih _ _ (Qc _) ⟨by simp [h1],by simp [h2],by simp [h4,Prg.e],by simp⟩
  ·rw [qbj (x:=entE p t l[i].entry) hi (by simp only [rowG,Qa hi,QAl];rw [QAa v])];simp [c_89_l1,Rw.ce,h1,h2,h4,h11,hi,hc,v]
 ·rintro e n L hL _ ⟨h1,h2,h4,h11⟩;rw [qb7];simp [c_89_l1,c_89_k2,h2,h11,hL]
 ·simp [h1,h2,h4]
theorem qaad (p:Prg) (f:PrgS p) (hv:∀t∈p.Xn,∀v∈t.dflt.args,ok32 0 v) (k:Nat) (hk:k<p.Xn.length) (l:List Rw) (next:Int) (hl:l.length<2^40) (hs:∀r∈l,rowS r):
  qac Φ f_89 [.agg (Prg.c p),.int .i64 k,.slice 5 (l.map Rw.c),.int .i64 next]=some (.val (.int .i64 (if p.Xn[k].size<l.length then 12 else tabK p k l next 0 (ordL l 0)))):=by
 rw [qad (fn:=c_89) rfl rfl];by_cases z:p.Xn[k].size<(l.length:Int)
 ·simp [c_89,Prg.e,Tbl.e,hk,z]
 rw [QA z];simp [c_89,Prg.e,Tbl.e,hk,z];refine qay l.length (fun _=>[]) 0 (fun i e=>look 1 e=some (.int .i64 k)/\look 2 e=some (.slice 5 (l.map Rw.c))/\look 3 e=some (.int .i64 next)/\look 4 e=some (.iptr 9 [Prg.c p] 0 0)/\look 10 e=some (.int .i64 i)/\∃a:Int,look 9 e=some (.int .i64 a)/\ordL (l.drop i) a=ordL l 0)
  (fun _=>some (Rt.val (.int .i64 (tabK p k l next 0 (ordL l 0))))) ?_ ?_ 0 _ 0 (Qc _) (Qc _) ?_
 ·rintro i e n L hi hL _ ⟨h1,h2,h3,h4,h10,a,h9,ho⟩ ih;have hw:=qao i (by omega);rw [Qi hi] at ho;simp only [ordL] at ho;by_cases y:l[i].id<=a
  ·rw [QAa y] at ho;rw [<- ho];simp [c_89_l0,Rw.ce,h2,h10,h9,hi,y,tabK]
  ·rw [QA y] at ho;generalize hX:some (Rt.val (AV.int .i64 (tabK p k l next 0 (ordL l 0))))=X;simp [c_89_l0,Rw.ce,h2,h10,h9,hi,y,hw];rw [<- hX];exact ih _ _ (Qc _) ⟨by simp [h1],by simp [h2],by simp [h3],by simp [h4],by simp,l[i].id,by simp,ho⟩
 ·rintro e n L hL _ ⟨h1,h2,h3,h4,h10,a,h9,ho⟩;rw [QBd] at ho;simp only [ordL] at ho;rw [<- ho];generalize hX:some (Rt.val (AV.int .i64 (tabK p k l next 0 (some a))))=X;simp [c_89_l0,h2,h10,hL];rw [<- hX];exact rt_b p f hv k l next hl hs a _ _ (by simp [h1]) (by simp [h2]) (by simp [h3]) (by simp [h4]) (by simp [h9])
 ·simp [Prg.e]
def mxF:List Int->Int->Int
 | [],a=>a
 | x::r,a=>mxF r (max a x)
theorem qw7 (M:Int):∀(l:List Int) (a:Int),M<mxF l a↔M<a\/∃x∈l,M<x
 | [],a=>by simp [mxF]
 | x::r,a=>by
  have ih:=qw7 M r (max a x);simp only [mxF,ih,QAg,exists_eq_or_imp];constructor
  ·rintro (h | h)
   ·by_cases q:M<a
    ·exact .inl q
    ·exact .inr (.inl (by omega))
   ·exact .inr (.inr h)
  ·rintro (h | h | h)
   ·exact .inl (by omega)
   ·exact .inl (by omega)
   ·exact .inr h
theorem qafz (l:List Int) (h0:0<l.length) (hl:l.length<2^40):qac Φ f_132 [.slice 1 (l.map c32)]=some (.val (.int .u32 (mxF l.tail l[0]))):=by
 rw [qad (fn:=c_132) rfl rfl];have h1:¬(l.length:Int)<1:=by omega
 simp [c_132,h0,h1,c32];refine qay l.length (fun _=>[]) 0 (fun i e=>look 0 e=some (.slice 1 (l.map c32))/\look 4 e=some (.int .i64 i)/\∃a:Int,look 3 e=some (.int .u32 a)/\mxF (l.drop i) a=mxF l.tail l[0])
  (fun _=>some (Rt.val (.int .u32 (mxF l.tail l[0])))) ?_ ?_ 1 _ 0 (by omega) (Qc _) ?_
 ·rintro i e n L hi hL _ ⟨h0,h4,a,h3,hm⟩ ih;have hw:=qao i (by omega);rw [Qi hi] at hm;simp only [mxF] at hm;generalize hX:some (Rt.val (AV.int .u32 (mxF l.tail l[0])))=X;simp [c_132_l0,c32,h0,h4,h3,hi,hw];rw [<- hX];exact ih _ _ (Qc _) ⟨by simp [h0],by simp,max a l[i],by simp;split<;>omega,hm⟩
 ·rintro e n L hL _ ⟨h0,h4,a,h3,hm⟩;rw [QBd] at hm;simp only [mxF] at hm;rw [<- hm];simp [c_132_l0,c_132_k1,h0,h4,h3,hL]
 ·simp
def szG (p:Prg) (rs:List (List Int)) (i:Nat):Option Int:=match rs[i]?,p.Xm[i]? with
 | some l,some r=>if (l.length:Int)=r.size then none else some 2
 | _,_=>none
def vlG (p:Prg) (rs:List (List Int)) (i:Nat):Option Int:=match rs[i]?,p.Xm[i]? with
 | some l,some r=>if l.any (fun v=>decide (qbt r.width<v))=true then some 9 else none
 | _,_=>none
def conE (p:Prg) (rs:List (List Int)):Int:=if rs.length≠p.Xm.length then 2 else (fe (szG p rs) rs.length 0).getD ((fe (vlG p rs) rs.length 0).getD 0)
theorem con_b (p:Prg) (f:PrgS p) (rs:List (List Int)) (hl:rs.length<2^40) (hs:∀l∈rs,l.length<2^40) (hz:rs.length=p.Xm.length) (e:Env) (n:Nat)
  (h1:look 1 e=some (.slice 1 (rs.map (cS 1 c32)))) (h2:look 2 e=some (.iptr 9 [Prg.c p] 0 0)):
  go Φ (finP [.tmp 4]) [.c c_82_k3] .normal ⟨e,⟨[],n⟩⟩=some (.val (.int .i64 ((fe (vlG p rs) rs.length 0).getD 0))):=by
 simp [c_82_k3,h1];refine qay rs.length (fun _=>[]) 0 (fun i e=>look 2 e=some (.iptr 9 [Prg.c p] 0 0)/\look 32 e=some (.slice 1 (rs.map (cS 1 c32)))/\look 33 e=some (.int .i64 rs.length)/\look 34 e=some (.int .i64 i))
  (fun i=>some (Rt.val (.int .i64 ((fe (vlG p rs) rs.length i).getD 0)))) ?_ ?_ 0 _ n (Qc _) (Qc _) ?_
 ·rintro i e n L hi hL _ ⟨h2,h32,h33,h34⟩ ih;have hw:=qao i (by omega);have hi2:i<p.Xm.length:=by omega
  have hm:=qha p.Xm[i].width;rw [Prg.e] at h2;by_cases e0:rs[i].length=0
  ·have e1:rs[i]=[]:=Qg e0;rw [qbf hi (by simp [vlG,hi,hi2,e1])];generalize hX:some (Rt.val (AV.int .i64 ((fe (vlG p rs) rs.length (i+1)).getD 0)))=X;simp [c_82_l1,cSe,h32,h33,h34,hi,hw,e1];rw [<- hX];exact ih _ _ (Qc _) ⟨by simp [h2,Prg.e],by simp [h32],by simp [h33],by simp⟩
  have e1:0<rs[i].length:=by omega
  have hx:=qafz rs[i] e1 (hs _ (Qd hi));have hy:rs[i].any (fun v=>decide (qbt p.Xm[i].width<v))=decide (qbt p.Xm[i].width<mxF rs[i].tail rs[i][0]):=by
   rw [Bool.eq_iff_iff,decide_eq_true_eq,qw7,QB];have hd:rs[i]=rs[i][0]::rs[i].tail:=by
    have:=Qi e1;simpa using this
   constructor
   ·rintro ⟨x,hx,hv⟩;rw [hd] at hx;rcases QAg.1 hx with rfl | hx
    ·exact .inl (of_decide_eq_true hv)
    ·exact .inr ⟨x,hx,of_decide_eq_true hv⟩
   ·rintro (h | ⟨x,hx,hv⟩)
    ·exact ⟨_,Qd e1,decide_eq_true h⟩
    ·exact ⟨x,List.mem_of_mem_tail hx,decide_eq_true hv⟩
  by_cases v:qbt p.Xm[i].width<mxF rs[i].tail rs[i][0]
  ·rw [qbj (x:=(9:Int)) hi (by simp only [vlG,Qa hi,Qa hi2];rw [hy,QAa (decide_eq_true v)])];simp [c_82_l1,cSe,Xh.e,h2,h32,h33,h34,hi,hi2,e1,hx,hm,v]
  ·rw [qbf hi (by simp only [vlG,Qa hi,Qa hi2];rw [hy,QA (by simpa using v)])];generalize hX:some (Rt.val (AV.int .i64 ((fe (vlG p rs) rs.length (i+1)).getD 0)))=X;simp [c_82_l1,cSe,Xh.e,h2,h32,h33,h34,hi,hi2,e1,hx,hm,v,hw];rw [<- hX];exact ih _ _ (Qc _) ⟨by simp [h2,Prg.e],by simp [h32],by simp [h33],by simp⟩
 ·rintro e n L hL _ ⟨h2,h32,h33,h34⟩;rw [qb7];simp [c_82_l1,c_82_k2,h33,h34,hL]
 ·simp [h2]
theorem qabw (p:Prg) (f:PrgS p) (rs:List (List Int)) (hl:rs.length<2^40) (hs:∀l∈rs,l.length<2^40):qac Φ f_82 [.agg (Prg.c p),.slice 1 (rs.map (cS 1 c32))]=some (.val (.int .i64 (conE p rs))):=by
 rw [qad (fn:=c_82) rfl rfl];unfold conE;by_cases z:rs.length=p.Xm.length
 rotate_left
 ·simp [c_82,Prg.e,z]
 rw [QA (by simpa using z)];generalize hY:some (Rt.val (AV.int .i64 ((fe (szG p rs) rs.length 0).getD ((fe (vlG p rs) rs.length 0).getD 0))))=Y;simp [c_82,Prg.e,z];rw [<- hY];refine qay rs.length (fun _=>[]) 0 (fun i e=>look 1 e=some (.slice 1 (rs.map (cS 1 c32)))/\look 2 e=some (.iptr 9 [Prg.c p] 0 0)/\look 15 e=some (.slice 1 (rs.map (cS 1 c32)))/\look 16 e=some (.int .i64 rs.length)/\look 17 e=some (.int .i64 i))
  (fun i=>some (Rt.val (.int .i64 ((fe (szG p rs) rs.length i).getD ((fe (vlG p rs) rs.length 0).getD 0))))) ?_ ?_ 0 _ 0 (Qc _) (Qc _) ?_
 ·rintro i e n L hi hL _ ⟨h1,h2,h15,h16,h17⟩ ih;have hw:=qao i (by omega);have hi2:i<p.Xm.length:=by omega
  rw [Prg.e] at h2;by_cases v:(rs[i].length:Int)=p.Xm[i].size
  ·rw [qbf hi (by simp [szG,hi,hi2,v])];generalize hX:some (Rt.val (AV.int .i64 ((fe (szG p rs) rs.length (i+1)).getD ((fe (vlG p rs) rs.length 0).getD 0))))=X;simp [c_82_l0,cSe,Xh.e,h2,h15,h16,h17,hi,hi2,v,hw];rw [<- hX];exact ih _ _ (Qc _) ⟨by simp [h1],by simp [h2,Prg.e],by simp [h15],by simp [h16],by simp⟩
  ·rw [qbj (x:=(2:Int)) hi (by simp [szG,hi,hi2,v])];simp [c_82_l0,cSe,Xh.e,h2,h15,h16,h17,hi,hi2,v]
 ·rintro e n L hL _ ⟨h1,h2,h15,h16,h17⟩;rw [qb7];generalize hX:some (Rt.val (AV.int .i64 ((none:Option Int).getD ((fe (vlG p rs) rs.length 0).getD 0))))=X;simp [c_82_l0,h16,h17,hL];rw [<- hX];exact con_b p f rs hl hs z _ _ (by simp [h1]) (by simp [h2])
 ·simp [Prg.e,z]
def wd (w:Int):Nat:=if wBad w then 0 else w.toNat
theorem wd_le (w:Int):wd w<=32:=by
 unfold wd;cases q:wBad w with
 | true=>simp
 | false=>
  obtain ⟨w1,w2⟩:=wBad_false.1 q;simp;omega
theorem qqy (w v:Int):qbt w<v↔¬v<2^wd w:=by
 unfold qbt wd;cases q:wBad w with
 | true=>simp;omega
 | false=>simp;omega
theorem qag3 (r:Xh):qac Φ f_151 [.agg (Xh.c r)]=some (.val (.int .i64 (wd r.width))):=by
 rw [qad (fn:=c_151) rfl rfl];by_cases h1:r.width<1
 ·simp [c_151,Xh.e,h1,wd,wBad]
 by_cases h2:32<r.width
 ·simp [c_151,Xh.e,h1,h2,wd,wBad]
 simp [c_151,Xh.e,h1,h2,wd,wBad];omega
theorem qagg (p:Prg) (rs:List (List Int)) (hl:rs.length<2^40) (hs:∀l∈rs,l.length<2^40/\∀v∈l,ok32 0 v) (hz:rs.length=p.Xm.length) (e:Env) (n:Nat)
  (h1:look 1 e=some (.slice 1 (rs.map (cS 1 c32)))) (h2:look 2 e=some (.iptr 9 [Prg.c p] 0 0)):
  go Φ (finP [.tmp 4]) [.c c_91_k5] .normal ⟨e,⟨[],n⟩⟩=some (.val (.int .i64 ((fe (vlG p rs) rs.length 0).getD 0))):=by
 simp [c_91_k5];refine qay rs.length (fun _=>[]) 0 (fun i e=>look 1 e=some (.slice 1 (rs.map (cS 1 c32)))/\look 2 e=some (.iptr 9 [Prg.c p] 0 0)/\look 6 e=some (.int .i64 i))
  (fun i=>some (Rt.val (.int .i64 ((fe (vlG p rs) rs.length i).getD 0)))) ?_ ?_ 0 _ n (Qc _) (Qc _) ?_
 ·rintro i e n L hi hL _ ⟨h1,h2,h6⟩ ih;have hw:=qao i (by omega);have hi2:i<p.Xm.length:=by omega
  have hm:=hs _ (Qd hi);have hwd:=qag3 p.Xm[i];simp only [Xh.e] at hwd;have hV:fe (vlG p rs) rs.length i=if rs[i].any (fun v=>decide (qbt p.Xm[i].width<v))=true then some 9 else fe (vlG p rs) rs.length (i+1):=by
   by_cases y:rs[i].any (fun v=>decide (qbt p.Xm[i].width<v))=true
   ·rw [QAa y];exact qbj hi (by simp only [vlG,Qa hi,Qa hi2];rw [QAa y])
   ·rw [QA y];exact qbf hi (by simp only [vlG,Qa hi,Qa hi2];rw [QA y])
  generalize hX:some (Rt.val (AV.int .i64 ((fe (vlG p rs) rs.length (i+1)).getD 0)))=X at ih;generalize hY:some (Rt.val (AV.int .i64 ((fe (vlG p rs) rs.length i).getD 0)))=Y;have hYX:Y=if rs[i].any (fun v=>decide (qbt p.Xm[i].width<v))=true then some (Rt.val (AV.int .i64 9)) else X:=by
   rw [<- hY,<- hX,hV];split<;>rfl
  simp [c_91_l3,h1,h6,hi];refine (qay rs[i].length (fun _=>[]) 0 (fun j e=>look 1 e=some (.slice 1 (rs.map (cS 1 c32)))/\look 2 e=some (.iptr 9 [Prg.c p] 0 0)/\look 6 e=some (.int .i64 i)/\look 7 e=some (.int .i64 j))
   (fun j=>if (rs[i].drop j).any (fun v=>decide (qbt p.Xm[i].width<v))=true then some (Rt.val (AV.int .i64 9)) else X) ?_ ?_ 0 _ n (Qc _) (Qc _) ?_).trans (by rw [hYX,List.drop_zero])
  ·rintro j e n L' hj hL' _ ⟨h1,h2,h6,h7⟩ ih';have hw':=qao j (by omega);have hf:=qjk rs[i][j] (hm.2 _ (Qd hj)) (wd p.Xm[i].width) (wd_le _);rw [Prg.e] at h2;rw [Qi hj,QBb];by_cases v:rs[i][j]<2^wd p.Xm[i].width
   ·rw [decide_eq_true v] at hf;rw [show decide (qbt p.Xm[i].width<rs[i][j])=false from decide_eq_false fun h=>(qqy _ _).1 h v,QBc];generalize hZ:(if (rs[i].drop (j+1)).any (fun v=>decide (qbt p.Xm[i].width<v))=true then some (Rt.val (AV.int .i64 9)) else X)=Z;simp [c_91_l1,cSe,c32,Xh.e,h1,h2,h6,h7,hi,hi2,hj,hwd,hf,hw'];rw [<- hZ];exact ih' _ _ (Qc _) ⟨by simp [h1],by simp [h2,Prg.e],by simp [h6],by simp⟩
   ·rw [decide_eq_false v] at hf;rw [show decide (qbt p.Xm[i].width<rs[i][j])=true from decide_eq_true ((qqy _ _).2 v),QCi,QAa rfl];simp [c_91_l1,cSe,c32,Xh.e,h1,h2,h6,h7,hi,hi2,hj,hwd,hf]
  ·rintro e n L' hL' _ ⟨h1,h2,h6,h7⟩;rw [QBd,List.any_nil,QA (by decide)];simp [c_91_l1,cSe,h1,h6,h7,hi,hL',c_91_k2,hw];exact ih _ _ (Qc _) ⟨by simp [h1],by simp [h2],by simp⟩
  ·simp [h1,h2,h6]
 ·rintro e n L hL _ ⟨h1,h2,h6⟩;rw [qb7];simp [c_91_l3,c_91_k4,h1,h6,hL]
 ·simp [h1,h2]
theorem qz3 (p:Prg) (rs:List (List Int)) (hl:rs.length<2^40) (hs:∀l∈rs,l.length<2^40/\∀v∈l,ok32 0 v):qac Φ f_91 [.agg (Prg.c p),.slice 1 (rs.map (cS 1 c32))]=some (.val (.int .i64 (conE p rs))):=by
 rw [qad (fn:=c_91) rfl rfl];unfold conE;by_cases z:rs.length=p.Xm.length
 rotate_left
 ·simp [c_91,Prg.e,z]
 rw [QA (by simpa using z)];generalize hY:some (Rt.val (AV.int .i64 ((fe (szG p rs) rs.length 0).getD ((fe (vlG p rs) rs.length 0).getD 0))))=Y;simp [c_91,Prg.e,z];rw [<- hY];refine qay rs.length (fun _=>[]) 0 (fun i e=>look 1 e=some (.slice 1 (rs.map (cS 1 c32)))/\look 2 e=some (.iptr 9 [Prg.c p] 0 0)/\look 5 e=some (.int .i64 i))
  (fun i=>some (Rt.val (.int .i64 ((fe (szG p rs) rs.length i).getD ((fe (vlG p rs) rs.length 0).getD 0))))) ?_ ?_ 0 _ 0 (Qc _) (Qc _) ?_
 ·rintro i e n L hi hL _ ⟨h1,h2,h5⟩ ih;have hw:=qao i (by omega);have hi2:i<p.Xm.length:=by omega
  rw [Prg.e] at h2;by_cases v:(rs[i].length:Int)=p.Xm[i].size
  ·rw [qbf hi (by simp [szG,hi,hi2,v])];generalize hX:some (Rt.val (AV.int .i64 ((fe (szG p rs) rs.length (i+1)).getD ((fe (vlG p rs) rs.length 0).getD 0))))=X;simp [c_91_l0,cSe,Xh.e,h1,h2,h5,hi,hi2,v,hw];rw [<- hX];exact ih _ _ (Qc _) ⟨by simp [h1],by simp [h2,Prg.e],by simp⟩
  ·rw [qbj (x:=(2:Int)) hi (by simp [szG,hi,hi2,v])];simp [c_91_l0,cSe,Xh.e,h1,h2,h5,hi,hi2,v]
 ·rintro e n L hL _ ⟨h1,h2,h5⟩;rw [qb7];generalize hX:some (Rt.val (AV.int .i64 ((none:Option Int).getD ((fe (vlG p rs) rs.length 0).getD 0))))=X;simp [c_91_l0,h1,h5,hL];rw [<- hX];exact qagg p rs hl hs z _ _ (by simp [h1]) (by simp [h2])
 ·simp [Prg.e]
def PC (p:Prg):Prop:=qac Φ f_80 [.agg (Prg.c p)]=some (.val (.agg (dgC (prgD p))))/\qac Φ f_88 [.agg (Prg.c p)]=some (.val (.agg (dgC (prgD p))))
structure CfgT (a:Xf):Prop where
 rl:a.rows.length<2^40
 rs:∀l∈a.rows,l.length<2^40/\∀r∈l,rowS r
 nl:a.Xr.length<2^40
 dl:a.Xq.length<2^40
 ds:∀d∈a.Xq,d.args.length<2^40/\∀v∈d.args,ok32 0 v
 gl:a.Xm.length<2^40
 gs:∀l∈a.Xm,l.length<2^40/\∀v∈l,ok32 0 v
theorem qadv {B:Nat} (hB:B<2^40) {r:Rw} (o:r.Ok B):rowS r:=by
 simp only [Rw.Ok,Entry.Ok,Xb.Ok] at o;obtain ⟨_,o1,_,_,o2⟩:=o;exact ⟨by have:=o1.1;omega,fun m hm=>o1.2 m hm,by have:=o2.1;omega,fun v hv=>o2.2 v hv⟩
theorem qaa8 {a:Xf} (o:a.Ok qba):CfgT a:=by
 obtain ⟨o0,o1,o2,o3⟩:=o;have e:=qdf;refine ⟨by have:=o0.1;omega,?_,by have:=o1.1;omega,by have:=o2.1;omega,?_,by have:=o3.1;omega,?_⟩
 ·intro l hl;have:=o0.2 l hl;exact ⟨by have:=this.1;omega,fun r hr=>qadv (by omega) (this.2 r hr)⟩
 ·intro d hd;have:=o2.2 d hd;simp only [Xb.Ok] at this;exact ⟨by have:=this.2.1;omega,fun v hv=>this.2.2 v hv⟩
 ·intro l hl;have:=o3.2 l hl;exact ⟨by have:=this.1;omega,fun v hv=>this.2 v hv⟩
def rowE (p:Prg) (k:Nat) (tb:Tbl) (l:List Rw) (nx:Int) (z:Int):Int:=if tb.size<l.length then 12 else tabK p k l nx z (ordL l 0)
theorem qahc (p:Prg) (t:Int) (l:List Rw) (nx z:Int) (o:Option Int):tabK p t l nx z o=if tabK p t l nx 0 o≠0 then tabK p t l nx 0 o else z:=by
 cases o with
 | none=>simp [tabK]
 | some a=>
  simp only [tabK];by_cases z0:nx<=a
  ·simp [z0]
  by_cases z1:1073741824<nx
  ·simp [z0,z1]
  simp only [QA z0,QA z1];cases q:fe (rowG p t l) l.length 0 with
  | none=>simp
  | some x=>
   have hx:x≠0:=by
    obtain ⟨k,hk,hx⟩:=qf3 q;simp only [rowG,Qt] at hx;obtain ⟨r,_,hr⟩:=hx;split at hr
    ·cases hr;assumption
    ·split at hr
     ·cases hr;decide
     ·cases hr
   simp [hx]
theorem qagz (p:Prg) (k:Nat) (tb:Tbl) (l:List Rw) (nx z:Int):rowE p k tb l nx z=if rowE p k tb l nx 0≠0 then rowE p k tb l nx 0 else z:=by
 unfold rowE;split
 ·simp
 ·exact qahc _ _ _ _ _ _
def stG (p:Prg) (c:Xf) (k:Nat):Option Int:=match p.Xn[k]?,c.rows[k]?,c.Xr[k]?,c.Xq[k]? with
 | some tb,some l,some nx,some d=>if rowE p k tb l nx (qbb p k d)=0 then none else some (rowE p k tb l nx (qbb p k d))
 | _,_,_,_=>none
def cfgE (p:Prg) (c:Xf):Int:=if (prgD p).1≠0 then (prgD p).1 else if c.rows.length≠p.Xn.length\/c.Xr.length≠p.Xn.length\/c.Xq.length≠p.Xn.length then 2
 else (fe (stG p c) p.Xn.length 0).getD (conE p c.Xm)
theorem qsz (p:Prg) (f:PrgS p) (hc:PC p) (c:Xf) (s:CfgT c):qac Φ f_35 [.agg (Prg.c p),.agg (Xf.c c)]=some (.val (.int .i64 (cfgE p c))):=by
 rw [qad (fn:=c_35) rfl rfl];have h:=hc.1;simp only [Prg.e,dgC] at h;have ht:=f.t;by_cases z:(prgD p).1=0
 rotate_left
 ·simp [c_35,Prg.e,Xf.ce,h,z,cfgE]
 by_cases z1:c.rows.length=p.Xn.length
 rotate_left
 ·simp [c_35,Prg.e,Xf.ce,h,z,z1,cfgE]
 by_cases z2:c.Xr.length=p.Xn.length
 rotate_left
 ·simp [c_35,Prg.e,Xf.ce,h,z,z1,z2,cfgE]
 by_cases z3:c.Xq.length=p.Xn.length
 rotate_left
 ·simp [c_35,Prg.e,Xf.ce,h,z,z1,z2,z3,cfgE]
 rw [show cfgE p c=(fe (stG p c) p.Xn.length 0).getD (conE p c.Xm) by simp [cfgE,z,z1,z2,z3]];simp [c_35,Prg.e,Xf.ce,h,z,z1,z2,z3];refine qay p.Xn.length (fun _=>[]) 0 (fun i e=>look 2 e=some (.iptr 9 [Prg.c p] 0 0)/\look 3 e=some (.iptr 4 [Xf.c c] 0 0)/\look 38 e=some (.int .i64 p.Xn.length)/\look 39 e=some (.int .i64 i))
  (fun i=>some (Rt.val (.int .i64 ((fe (stG p c) p.Xn.length i).getD (conE p c.Xm))))) ?_ ?_ 0 _ _ (Qc _) (Qc _) ?_
 ·rintro i e n L hi hL _ ⟨h2,h3,h38,h39⟩ ih;have hw:=qao i (by omega);have i1:i<c.rows.length:=by omega
  have i2:i<c.Xr.length:=by omega
  have i3:i<c.Xq.length:=by omega
  have hr:=s.rs _ (Qd i1);have hd:=s.ds _ (Qd i3);have hk:=qabz p f i hi c.rows[i] c.Xr[i] c.Xq[i] hr.1 hr.2 hd.1;rw [show (if p.Xn[i].size<(c.rows[i].length:Int) then (12:Int) else tabK p i c.rows[i] c.Xr[i] (qbb p i c.Xq[i]) (ordL c.rows[i] 0))=rowE p i p.Xn[i] c.rows[i] c.Xr[i] (qbb p i c.Xq[i]) from rfl] at hk;simp only [Prg.e,Xb.ce] at hk;rw [Prg.e] at h2;rw [Xf.ce] at h3;by_cases v:rowE p i p.Xn[i] c.rows[i] c.Xr[i] (qbb p i c.Xq[i])=0
  ·rw [qbf hi (by simp [stG,hi,i1,i2,i3,v])];rw [v] at hk;generalize hX:some (Rt.val (AV.int .i64 ((fe (stG p c) p.Xn.length (i+1)).getD (conE p c.Xm))))=X;simp [c_35_l0,cSe,cI,Xb.ce,h2,h3,h38,h39,hi,i1,i2,i3,hk,hw];rw [<- hX];exact ih _ _ (Qc _) ⟨by simp [h2,Prg.e],by simp [h3,Xf.ce],by simp [h38],by simp⟩
  ·rw [qbj (x:=rowE p i p.Xn[i] c.rows[i] c.Xr[i] (qbb p i c.Xq[i])) hi (by simp [stG,hi,i1,i2,i3,v])];simp [c_35_l0,cSe,cI,Xb.ce,h2,h3,h38,h39,hi,i1,i2,i3,hk,v]
 ·rintro e n L hL _ ⟨h2,h3,h38,h39⟩;have hk:=qabw p f c.Xm s.gl fun l hl=>(s.gs l hl).1
  simp only [Prg.e] at hk;rw [Prg.e] at h2;rw [Xf.ce] at h3;rw [qb7];simp [c_35_l0,c_35_k1,h2,h3,h38,h39,hL,hk]
 ·simp [Prg.e,Xf.ce]
theorem qz2 (p:Prg) (f:PrgS p) (hv:∀t∈p.Xn,∀v∈t.dflt.args,ok32 0 v) (hc:PC p) (c:Xf) (s:CfgT c):qac Φ f_40 [.agg (Prg.c p),.agg (Xf.c c)]=some (.val (.int .i64 (cfgE p c))):=by
 rw [qad (fn:=c_40) rfl rfl];have h:=hc.2;simp only [Prg.e,dgC] at h;have ht:=f.t;by_cases z:(prgD p).1=0
 rotate_left
 ·simp [c_40,Prg.e,Xf.ce,h,z,cfgE]
 by_cases z1:c.rows.length=p.Xn.length
 rotate_left
 ·simp [c_40,Prg.e,Xf.ce,h,z,z1,cfgE]
 by_cases z2:c.Xr.length=p.Xn.length
 rotate_left
 ·simp [c_40,Prg.e,Xf.ce,h,z,z1,z2,cfgE]
 by_cases z3:c.Xq.length=p.Xn.length
 rotate_left
 ·simp [c_40,Prg.e,Xf.ce,h,z,z1,z2,z3,cfgE]
 rw [show cfgE p c=(fe (stG p c) p.Xn.length 0).getD (conE p c.Xm) by simp [cfgE,z,z1,z2,z3]];simp [c_40,Prg.e,Xf.ce,h,z,z1,z2,z3];refine qay p.Xn.length (fun _=>[]) 0 (fun i e=>look 2 e=some (.iptr 9 [Prg.c p] 0 0)/\look 3 e=some (.iptr 4 [Xf.c c] 0 0)/\look 5 e=some (.int .i64 p.Xn.length)/\look 6 e=some (.int .i64 i))
  (fun i=>some (Rt.val (.int .i64 ((fe (stG p c) p.Xn.length i).getD (conE p c.Xm))))) ?_ ?_ 0 _ _ (Qc _) (Qc _) ?_
 ·rintro i e n L hi hL _ ⟨h2,h3,h5,h6⟩ ih;have hw:=qao i (by omega);have i1:i<c.rows.length:=by omega
  have i2:i<c.Xr.length:=by omega
  have i3:i<c.Xq.length:=by omega
  have hr:=s.rs _ (Qd i1);have hd:=s.ds _ (Qd i3);have hk:=qaad p f hv i hi c.rows[i] c.Xr[i] hr.1 hr.2;have hq:=qz1 p f hv i c.Xq[i] hd.1 hd.2;rw [show (if p.Xn[i].size<(c.rows[i].length:Int) then (12:Int) else tabK p i c.rows[i] c.Xr[i] 0 (ordL c.rows[i] 0))=rowE p i p.Xn[i] c.rows[i] c.Xr[i] 0 from rfl] at hk;simp only [Prg.e,Xb.ce] at hk hq;rw [Prg.e] at h2;rw [Xf.ce] at h3;have hz:=qagz p i p.Xn[i] c.rows[i] c.Xr[i] (qbb p i c.Xq[i]);by_cases v:rowE p i p.Xn[i] c.rows[i] c.Xr[i] 0=0
  ·rw [QA (by simpa using v)] at hz;rw [v] at hk;by_cases w:qbb p i c.Xq[i]=0
   ·rw [qbf hi (by simp [stG,hi,i1,i2,i3,w,v])];rw [w] at hq;generalize hX:some (Rt.val (AV.int .i64 ((fe (stG p c) p.Xn.length (i+1)).getD (conE p c.Xm))))=X;simp [c_40_l0,cSe,cI,Xb.ce,h2,h3,h5,h6,hi,i1,i2,i3,hk,hq,hw];rw [<- hX];exact ih _ _ (Qc _) ⟨by simp [h2,Prg.e],by simp [h3,Xf.ce],by simp [h5],by simp⟩
   ·rw [qbj (x:=qbb p i c.Xq[i]) hi (by simp [stG,hi,i1,i2,i3,hz,w])];simp [c_40_l0,cSe,cI,Xb.ce,h2,h3,h5,h6,hi,i1,i2,i3,hk,hq,w]
  ·rw [QAa v] at hz;rw [qbj (x:=rowE p i p.Xn[i] c.rows[i] c.Xr[i] 0) hi (by simp [stG,hi,i1,i2,i3,hz,v])];simp [c_40_l0,cSe,cI,h2,h3,h5,h6,hi,i1,i2,hk,v]
 ·rintro e n L hL _ ⟨h2,h3,h5,h6⟩;have hk:=qz3 p c.Xm s.gl s.gs;simp only [Prg.e] at hk;rw [Prg.e] at h2;rw [Xf.ce] at h3;rw [qb7];simp [c_40_l0,c_40_k1,h2,h3,h5,h6,hL,hk]
 ·simp [Prg.e,Xf.ce]
structure TabV (p:Prg) (k:Nat) (tb:Tbl) (l:List Rw) (nx:Int) (d:Xb):Prop where
 size:(l.length:Int)<=tb.size
 pos:∀r∈l,0<r.id
 lt:∀r∈l,r.id<nx
 inc:l.Pairwise (fun a b=>a.id<b.id)
 nx0:0<nx
 nx1:nx<=1073741824
 ent:∀r∈l,entE p k r.entry=0
 uniq:l.Pairwise (fun a b=>sk a.entry b.entry=false)
 dflt:qbb p k d=0
theorem qq3 (nx:Int):∀(l:List Rw) (a:Int),(∃b,ordL l a=some b/\b<nx)↔a<nx/\(∀r∈l,a<r.id/\r.id<nx)/\l.Pairwise (fun a b=>a.id<b.id)
 | [],a=>by simp [ordL]
 | r::l,a=>by
  have ih:=qq3 nx l r.id;simp only [ordL];by_cases h:r.id<=a
  ·rw [QAa h];constructor
   ·rintro ⟨b,hb,_⟩;cases hb
   ·rintro ⟨_,h2,_⟩;have:=(h2 r (by simp)).1;omega
  ·rw [QA h,ih,QCp];constructor
   ·rintro ⟨h1,h2,h3⟩;refine ⟨by omega,?_,fun x hx=>(h2 x hx).1,h3⟩;intro x hx;rcases QAg.1 hx with rfl | hx
    ·exact ⟨by omega,h1⟩
    ·have:=h2 x hx;exact ⟨by omega,this.2⟩
   ·rintro ⟨h1,h2,h3,h4⟩;exact ⟨(h2 r (by simp)).2,fun x hx=>⟨h3 x hx,(h2 x (by simp [hx])).2⟩,h4⟩
theorem qxq (p:Prg) (t:Int) (l:List Rw):(∀i,i<l.length->rowG p t l i=none)↔(∀r∈l,entE p t r.entry=0)/\l.Pairwise (fun a b=>sk a.entry b.entry=false):=by
 have key:∀i (hi:i<l.length),rowG p t l i=none↔entE p t l[i].entry=0/\∀j (hj:j<i),sk l[j].entry l[i].entry=false:=by
  intro i hi;simp only [rowG,Qa hi,QAl];by_cases h:entE p t l[i].entry=0
  ·rw [QA (by simpa using h)];have:((l.take i).any fun y=>sk y.entry l[i].entry)=true↔¬∀j (hj:j<i),sk l[j].entry l[i].entry=false:=by
    rw [QB];constructor
    ·rintro ⟨y,hy,hs⟩ hc;obtain ⟨j,hj,rfl⟩:=Qn.1 hy;simp at hj;have:=hc j (by omega);simp only [QCs] at hs;rw [this] at hs;cases hs
    ·intro hc;simp only [Classical.not_forall] at hc;obtain ⟨j,hj,hs⟩:=hc;refine ⟨l[j],?_,by simpa using hs⟩;rw [List.mem_take_iff_getElem];exact ⟨j,by omega,rfl⟩
   by_cases hu:∀j (hj:j<i),sk l[j].entry l[i].entry=false
   ·rw [QA (by rw [this];exact fun hc=>hc hu)];simp [h];exact hu
   ·rw [QAa (this.2 hu)];simp [h];simpa using hu
  ·rw [QAa h];simp [h]
 constructor
 ·intro h;refine ⟨?_,?_⟩
  ·intro r hr;obtain ⟨i,hi,rfl⟩:=Qn.1 hr;exact ((key i hi).1 (h i hi)).1
  ·rw [QAw];intro i j hi hj hij;exact ((key j hj).1 (h j hj)).2 i hij
 ·rintro ⟨h1,h2⟩ i hi;rw [key i hi];refine ⟨h1 _ (Qd hi),?_⟩;intro j hj;exact QAw.1 h2 j i (by omega) hi hj
theorem qadu (p:Prg) (t:Int) (l:List Rw) {i:Nat} {x:Int} (h:rowG p t l i=some x):x≠0:=by
 simp only [rowG,Qt] at h;obtain ⟨r,_,hr⟩:=h;split at hr
 ·cases hr;assumption
 ·split at hr
  ·cases hr;decide
  ·cases hr
theorem qpa (p:Prg) (k:Nat) (tb:Tbl) (l:List Rw) (nx:Int) (d:Xb):rowE p k tb l nx (qbb p k d)=0↔TabV p k tb l nx d:=by
 have hI:=qq3 nx l 0;have hG:=qxq p k l;rw [<- fe_all] at hG;unfold rowE;by_cases h:tb.size<(l.length:Int)
 ·rw [QAa h];constructor
  ·intro hc;cases hc
  ·intro hv;have:=hv.size;omega
 rw [QA h];cases ho:ordL l 0 with
 | none=>
  rw [ho] at hI;simp only [tabK];constructor
  ·intro hc;cases hc
  ·intro hv;obtain ⟨b,hb,_⟩:=hI.2 ⟨hv.nx0,fun r hr=>⟨hv.pos r hr,hv.lt r hr⟩,hv.inc⟩;cases hb
 | some a=>
  rw [ho] at hI;simp only [tabK];by_cases h1:nx<=a
  ·rw [QAa h1];constructor
   ·intro hc;cases hc
   ·intro hv;obtain ⟨b,hb,h2⟩:=hI.2 ⟨hv.nx0,fun r hr=>⟨hv.pos r hr,hv.lt r hr⟩,hv.inc⟩;cases hb;omega
  rw [QA h1];have hJ:=hI.1 ⟨a,rfl,by omega⟩;by_cases h2:1073741824<nx
  ·rw [QAa h2];constructor
   ·intro hc;cases hc
   ·intro hv;have:=hv.nx1;omega
  rw [QA h2];cases hf:fe (rowG p k l) l.length 0 with
  | some x=>
   have hx:x≠0:=by
    obtain ⟨i,_,hx⟩:=qf3 hf;exact qadu p k l hx
   rw [hf] at hG;simp only [QAn];constructor
   ·intro hc;exact absurd hc hx
   ·intro hv;have:=hG.2 ⟨hv.ent,hv.uniq⟩;cases this
  | none=>
   have hq:=hG.1 hf;simp only [QCk];constructor
   ·intro hc;exact ⟨by omega,fun r hr=>(hJ.2.1 r hr).1,fun r hr=>(hJ.2.1 r hr).2,hJ.2.2,hJ.1,by omega,hq.1,hq.2,hc⟩
   ·intro hv;exact hv.dflt
structure CfgV (p:Prg) (c:Xf):Prop where
 prg:(prgD p).1=0
 rl:c.rows.length=p.Xn.length
 nl:c.Xr.length=p.Xn.length
 dl:c.Xq.length=p.Xn.length
 tab:∀k tb l nx d,p.Xn[k]? =some tb->c.rows[k]? =some l->c.Xr[k]? =some nx->c.Xq[k]? =some d->TabV p k tb l nx d
 con:conE p c.Xm=0
theorem qahb (p:Prg) (c:Xf) {k:Nat} {x:Int} (h:stG p c k=some x):x≠0:=by
 unfold stG at h;split at h
 ·split at h
  ·cases h
  ·cases h;assumption
 ·cases h
theorem qe9 (p:Prg) (c:Xf):cfgE p c=0↔CfgV p c:=by
 unfold cfgE;by_cases h:(prgD p).1=0
 rotate_left
 ·rw [QAa h];exact ⟨fun hc=>absurd hc h,fun hv=>absurd hv.prg h⟩
 rw [QA (by simpa using h)];by_cases hl:c.rows.length≠p.Xn.length\/c.Xr.length≠p.Xn.length\/c.Xq.length≠p.Xn.length
 ·rw [QAa hl];constructor
  ·intro hc;cases hc
  ·intro hv;have:=hv.rl;have:=hv.nl;have:=hv.dl;omega
 rw [QA hl];have l1:c.rows.length=p.Xn.length:=by omega
 have l2:c.Xr.length=p.Xn.length:=by omega
 have l3:c.Xq.length=p.Xn.length:=by omega
 cases hf:fe (stG p c) p.Xn.length 0 with
 | some x=>
  obtain ⟨k,hk,hx⟩:=qf3 hf;simp only [QAn];constructor
  ·intro hc;exact absurd hc (qahb p c hx)
  ·intro hv;have hq:stG p c k=none:=by
    unfold stG;split
    ·rename_i tb l nx d e1 e2 e3 e4;rw [QAa ((qpa p k tb l nx d).2 (hv.tab k tb l nx d e1 e2 e3 e4))]
    ·rfl
   rw [hq] at hx;cases hx
 | none=>
  simp only [QCk];have ha:=fe_all.1 hf;constructor
  ·intro hc;refine ⟨h,l1,l2,l3,?_,hc⟩;intro k tb l nx d e1 e2 e3 e4;have hk:=(Qm.1 e1).1;have hq:=ha k hk;simp only [stG,e1,e2,e3,e4] at hq;split at hq
   ·rename_i hz;exact (qpa p k tb l nx d).1 hz
   ·cases hq
  ·intro hv;exact hv.con
def qce (c:Xf) (t:Int):List Rw:=(at? c.rows t).getD []
def qef (c:Xf) (t:Int):Int:=(at? c.Xr t).getD 0
def qnn (p:Prg) (t:Int):Int:=((at? p.Xn t).map Tbl.size).getD 0
def inT (p:Prg) (t:Int):Bool:=decide (0<=t)&&decide (t<p.Xn.length)
def rIdx (l:List Rw) (id:Int):Option Nat:=l.findIdx? fun r=>decide (r.id=id)
def insE (p:Prg) (c:Xf) (t:Int) (x:Entry):Int:=
 if inT p t=false then 8 else if entE p t x≠0 then entE p t x else if (qce c t).any (fun y=>sk y.entry x)=true then 7
 else if qnn p t<=(qce c t).length\/1073741824<=qef c t then 13 else 0
def insC (c:Xf) (t:Int) (x:Entry):Xf:=⟨c.rows.set t.toNat (qce c t++[⟨qef c t,x⟩]),c.Xr.set t.toNat (qef c t+1),c.Xq,c.Xm⟩
def modE (p:Prg) (c:Xf) (t id:Int) (x:Xb):Int:=
 if inT p t=false then 8 else if rIdx (qce c t) id=none then 8 else qbb p t x
def qcr (x:Xb) (r:Rw):Rw:=⟨r.id,⟨r.entry.keys,r.entry.Xt,x⟩⟩
def modC (c:Xf) (t id:Int) (x:Xb):Xf:=match rIdx (qce c t) id with
 | some i=>⟨c.rows.set t.toNat ((qce c t).modify i (qcr x)),c.Xr,c.Xq,c.Xm⟩
 | none=>c
def delE (p:Prg) (c:Xf) (t id:Int):Int:=
 if inT p t=false then 8 else if rIdx (qce c t) id=none then 8 else 0
def delC (c:Xf) (t id:Int):Xf:=match rIdx (qce c t) id with
 | some i=>⟨c.rows.set t.toNat ((qce c t).eraseIdx i),c.Xr,c.Xq,c.Xm⟩
 | none=>c
def defE (p:Prg) (t:Int) (x:Xb):Int:=if inT p t=false then 8 else qbb p t x
def defC (c:Xf) (t:Int) (x:Xb):Xf:=⟨c.rows,c.Xr,c.Xq.set t.toNat x,c.Xm⟩
theorem qek {p:Prg} {t:Int} (h:inT p t=true):∃k:Nat,t=k/\k<p.Xn.length:=by
 unfold inT at h;simp at h;exact ⟨t.toNat,by omega,by omega⟩
section
variable {p:Prg} {c:Xf} {k:Nat}
theorem qdj (h:k<c.rows.length):qce c (k:Int)=c.rows[k]:=by
 unfold qce;rw [qim,Qa h];rfl
theorem qjg (h:k<c.Xr.length):qef c (k:Int)=c.Xr[k]:=by
 unfold qef;rw [qim,Qa h];rfl
theorem qno (h:k<p.Xn.length):qnn p (k:Int)=p.Xn[k].size:=by
 unfold qnn;rw [qim,Qa h];rfl
theorem CfgV.at (v:CfgV p c) (h:k<p.Xn.length):TabV p k p.Xn[k] (c.rows[k]'(by rw [v.rl];exact h)) (c.Xr[k]'(by rw [v.nl];exact h)) (c.Xq[k]'(by rw [v.dl];exact h)):=
 v.tab k _ _ _ _ (Qa h) (Qa (by rw [v.rl];exact h)) (Qa (by rw [v.nl];exact h)) (Qa (by rw [v.dl];exact h))
theorem CfgV.upd (v:CfgV p c) (h:k<p.Xn.length) {l:List Rw} {nx:Int} {d:Xb} {R:List (List Rw)} {N:List Int} {D:List Xb}
  (hR:R=c.rows.set k l) (hN:N=c.Xr.set k nx) (hD:D=c.Xq.set k d) (t:TabV p k p.Xn[k] l nx d):CfgV p ⟨R,N,D,c.Xm⟩:=by
 subst hR hN hD;refine ⟨v.prg,by simp [v.rl],by simp [v.nl],by simp [v.dl],?_,v.con⟩;intro j tb l' nx' d' h1 h2 h3 h4;have hl1:=v.rl;have hl2:=v.nl;have hl3:=v.dl;by_cases hj:k=j
 ·subst hj;rw [List.getElem?_set_self (by omega)] at h2 h3 h4;rw [Qa h] at h1;cases h1;cases h2;cases h3;cases h4;exact t
 ·simp only [List.getElem?_set_ne hj] at h2 h3 h4;exact v.tab j _ _ _ _ h1 h2 h3 h4
end
theorem qacl {p:Prg} {c:Xf} {t:Int} {x:Entry} (v:CfgV p c) (h:insE p c t x=0):CfgV p (insC c t x):=by
 unfold insE at h;cases hi:inT p t with
 | false=>rw [QAa hi] at h;cases h
 | true=>
 obtain ⟨k,rfl,hk⟩:=qek hi;rw [QA (by rw [hi];decide)] at h;have l1:k<c.rows.length:=by rw [v.rl];exact hk
 have l2:k<c.Xr.length:=by rw [v.nl];exact hk
 have l3:k<c.Xq.length:=by rw [v.dl];exact hk
 have hv:=v.at hk;rw [qdj l1,qjg l2,qno hk] at h;split at h
 ·rename_i h1;exact absurd h h1
 rename_i h1;split at h
 ·cases h
 rename_i h2;split at h
 ·cases h
 rename_i h3;unfold insC;rw [qdj l1,qjg l2];refine v.upd hk (l:=c.rows[k]++[⟨c.Xr[k],x⟩]) (nx:=c.Xr[k]+1) (d:=c.Xq[k]) (by simp) (by simp) (by simp) ?_;have n0:=hv.nx0;refine ⟨by simp;omega,?_,?_,?_,by omega,by omega,?_,?_,hv.dflt⟩
 ·intro r hr;rcases QAd.1 hr with hr | hr
  ·exact hv.pos r hr
  ·simp at hr;subst hr;exact n0
 ·intro r hr;rcases QAd.1 hr with hr | hr
  ·have:=hv.lt r hr;omega
  ·simp at hr;subst hr;simp;omega
 ·rw [QCl];exact ⟨hv.inc,by simp,fun a ha b hb=>by simp at hb;subst hb;exact hv.lt a ha⟩
 ·intro r hr;rcases QAd.1 hr with hr | hr
  ·exact hv.ent r hr
  ·simp at hr;subst hr;simpa using h1
 ·rw [QCl];refine ⟨hv.uniq,by simp,fun a ha b hb=>?_⟩;simp at hb;subst hb;simp only [QB,not_exists,not_and,Bool.not_eq_true] at h2;exact h2 a ha
theorem qwb (p:Prg) (t:Int) (x:Entry) (y:Xb) (h:entE p t x=0) (hc:qbb p t y=0):entE p t ⟨x.keys,x.Xt,y⟩=0:=by
 unfold entE at h ⊢;split at h
 ·exact absurd h (by assumption)
 rename_i h1;rw [QA h1];cases ht:at? p.Xn t with
 | none=>rfl
 | some tb=>
  rw [ht] at h;simp only at h ⊢;split at h
  ·cases h
  rename_i h2;rw [QA h2];have he:entG p tb ⟨x.keys,x.Xt,y⟩=entG p tb x:=rfl;rw [he];cases hf:fe (entG p tb x) tb.keys.length 0 with
  | some e=>rw [hf] at h;simpa using h
  | none=>
   rw [hf] at h;simp only [QCk] at h ⊢;unfold entF at h ⊢;unfold qbb at hc;simp only;split at h
   ·cases h
   rename_i a1;rw [QA a1];split at h
   ·cases h
   rename_i a2;rw [QA a2];split at h
   ·cases h
   rename_i a3;rw [QA a3];exact hc
theorem qko {l:List Rw} {id:Int} {i:Nat} (h:rIdx l id=some i):∃hi:i<l.length,l[i].id=id:=by
 unfold rIdx at h;rw [List.findIdx?_eq_some_iff_getElem] at h;obtain ⟨hi,h1,_⟩:=h;exact ⟨hi,by simpa using h1⟩
theorem qacq {p:Prg} {c:Xf} {t id:Int} {x:Xb} (v:CfgV p c) (h:modE p c t id x=0):CfgV p (modC c t id x):=by
 unfold modE at h;cases hi:inT p t with
 | false=>rw [QAa hi] at h;cases h
 | true=>
 obtain ⟨k,rfl,hk⟩:=qek hi;rw [QA (by rw [hi];decide)] at h;have l1:k<c.rows.length:=by rw [v.rl];exact hk
 have l2:k<c.Xr.length:=by rw [v.nl];exact hk
 have l3:k<c.Xq.length:=by rw [v.dl];exact hk
 have hv:=v.at hk;unfold modC;rw [qdj l1] at h ⊢;cases hx:rIdx c.rows[k] id with
 | none=>simp only;exact v
 | some i=>
  rw [hx,QA (by simp)] at h;simp only;obtain ⟨hil,hid⟩:=qko hx;have hm:c.rows[k].modify i (qcr x)=c.rows[k].set i (qcr x c.rows[k][i]):=by
   refine List.ext_getElem (by simp) fun j h1 h2=>?_
   rw [QBy,List.getElem_set];split
   ·rename_i e;subst e;rfl
   ·rfl
  refine v.upd hk (l:=c.rows[k].modify i (qcr x)) (nx:=c.Xr[k]) (d:=c.Xq[k]) (by simp) (by simp) (by simp) ?_;have mem:∀r∈c.rows[k].modify i (qcr x),∃r'∈c.rows[k],r.id=r'.id/\entE p k r.entry=0:=by
   intro r hr;rw [hm] at hr;rcases Qq hr with hr | rfl
   ·exact ⟨r,hr,rfl,hv.ent r hr⟩
   ·exact ⟨_,Qd hil,rfl,qwb p k _ x (hv.ent _ (Qd hil)) h⟩
  have get:∀j (hj:j<(c.rows[k].modify i (qcr x)).length),(c.rows[k].modify i (qcr x))[j].id=(c.rows[k][j]'(by simpa using hj)).id/\(c.rows[k].modify i (qcr x))[j].entry.keys=(c.rows[k][j]'(by simpa using hj)).entry.keys/\(c.rows[k].modify i (qcr x))[j].entry.Xt=(c.rows[k][j]'(by simpa using hj)).entry.Xt:=by
   intro j hj;rw [QBy];split<;>simp [qcr]
  refine ⟨by simpa using hv.size,?_,?_,?_,hv.nx0,hv.nx1,?_,?_,hv.dflt⟩
  ·intro r hr;obtain ⟨r',hr',e,_⟩:=mem r hr;rw [e];exact hv.pos r' hr'
  ·intro r hr;obtain ⟨r',hr',e,_⟩:=mem r hr;rw [e];exact hv.lt r' hr'
  ·rw [QAw];intro a b ha hb hab;rw [(get a ha).1,(get b hb).1];exact QAw.1 hv.inc a b _ _ hab
  ·intro r hr;obtain ⟨_,_,_,e⟩:=mem r hr;exact e
  ·rw [QAw];intro a b ha hb hab;have:=QAw.1 hv.uniq a b (by simpa using ha) (by simpa using hb) hab;unfold sk at this ⊢;rw [(get a ha).2.1,(get a ha).2.2,(get b hb).2.1,(get b hb).2.2];exact this
theorem qab1 {p:Prg} {c:Xf} {t id:Int} (v:CfgV p c) (h:delE p c t id=0):CfgV p (delC c t id):=by
 unfold delE at h;cases hi:inT p t with
 | false=>rw [QAa hi] at h;cases h
 | true=>
 obtain ⟨k,rfl,hk⟩:=qek hi;have l1:k<c.rows.length:=by rw [v.rl];exact hk
 have l2:k<c.Xr.length:=by rw [v.nl];exact hk
 have l3:k<c.Xq.length:=by rw [v.dl];exact hk
 have hv:=v.at hk;unfold delC;rw [qdj l1];cases hx:rIdx c.rows[k] id with
 | none=>simp only;exact v
 | some i=>
  simp only;refine v.upd hk (l:=c.rows[k].eraseIdx i) (nx:=c.Xr[k]) (d:=c.Xq[k]) (by simp) (by simp) (by simp) ?_;have hs:=List.eraseIdx_sublist c.rows[k] i;have hsz:=hv.size;have hle:=hs.length_le;exact ⟨by omega,fun r hr=>hv.pos r (hs.subset hr),fun r hr=>hv.lt r (hs.subset hr),hv.inc.sublist hs,hv.nx0,hv.nx1,fun r hr=>hv.ent r (hs.subset hr),hv.uniq.sublist hs,hv.dflt⟩
theorem qab0 {p:Prg} {c:Xf} {t:Int} {x:Xb} (v:CfgV p c) (h:defE p t x=0):CfgV p (defC c t x):=by
 unfold defE at h;cases hi:inT p t with
 | false=>rw [QAa hi] at h;cases h
 | true=>
 obtain ⟨k,rfl,hk⟩:=qek hi;rw [QA (by rw [hi];decide)] at h;have l1:k<c.rows.length:=by rw [v.rl];exact hk
 have l2:k<c.Xr.length:=by rw [v.nl];exact hk
 have l3:k<c.Xq.length:=by rw [v.dl];exact hk
 have hv:=v.at hk;unfold defC;exact v.upd hk (l:=c.rows[k]) (nx:=c.Xr[k]) (d:=x) (by simp) (by simp) (by simp) ⟨hv.size,hv.pos,hv.lt,hv.inc,hv.nx0,hv.nx1,hv.ent,hv.uniq,h⟩
theorem qtc {α:Type} {f:α->Option α}:∀{l:List α},(∀x∈l,f x=some x)->mapO f l=some l
 | [],_=>rfl
 | a::l,h=>by
  have h1:=h a (by simp);have h2:=qtc (f:=f) (l:=l) fun x hx=>h x (by simp [hx])
  simp only [mapO,h1,h2]
theorem qen {α:Type} {g:α->List AV} {n:Nat} {H:AH} (h:∀x,mapO (snap n H) (g x)=some (g x)) (l:List α):mapO (mapO (snap n H)) (l.map g)=some (l.map g):=by
 refine qtc fun x hx=>?_
 obtain ⟨y,_,rfl⟩:=QAt.1 hx;exact h y
theorem qx2 {n:Nat} {H:AH} (r:Rw):mapO (snap (n+1) H) (Rw.c r)=some (Rw.c r):=by simp [Rw.c]
theorem qag9 {n:Nat} {H:AH} (x:Int):mapO (snap (n+1) H) (cI x)=some (cI x):=by simp [cI]
theorem qaas {n:Nat} {H:AH} (x:Xb):mapO (snap (n+1) H) (Xb.c x)=some (Xb.c x):=by simp [Xb.c]
structure CfgM (O:List (Nat×AO)) (v1 v2 v3 v4:AV) (V:List AV) (c:Xf):Prop where
 r:Mu O 1 v1 (V.map fun v=>[v])
 rl:V.length=c.rows.length
 rv:∀(k:Nat) (v:AV) (l:List Rw),V[k]? =some v->c.rows[k]? =some l->Mu O 5 v (l.map Rw.c)
 n:Mu O 1 v2 (c.Xr.map cI)
 d:Mu O 2 v3 (c.Xq.map Xb.c)
 g:v4= .Xu 1 (c.Xm.map (cS 1 c32))\/∃t,v4= .app 1 (c.Xm.map (cS 1 c32)) t
 rn:∀i,vid v1=some i->vid v2=some i->False
 vi:∀(k k':Nat) (v v':AV) (i:Nat),V[k]? =some v->V[k']? =some v'->vid v=some i->vid v'=some i->k=k'
 va:∀v∈V,∀z es t,v≠ .app z es t
def CfgM.own (v1 v2 v3:AV) (V:List AV) (j:Nat):Prop:=vid v1=some j\/vid v2=some j\/vid v3=some j\/∃v∈V,vid v=some j
theorem CfgM.fr {O O':List (Nat×AO)} {v1 v2 v3 v4:AV} {V:List AV} {c:Xf} (h:CfgM O v1 v2 v3 v4 V c) (hf:∀j,CfgM.own v1 v2 v3 V j->look j O'=look j O):CfgM O' v1 v2 v3 v4 V c:=by
 refine ⟨h.r.fr fun j hj=>hf j (.inl hj),h.rl,?_,h.n.fr fun j hj=>hf j (.inr (.inl hj)),h.d.fr fun j hj=>hf j (.inr (.inr (.inl hj))),h.g,h.rn,h.vi,h.va⟩;intro k v l hv hl;exact (h.rv k v l hv hl).fr fun j hj=>hf j (.inr (.inr (.inr ⟨v,Qe hv,hj⟩)))
theorem qkh {α β:Type} {f:α->Option β}:∀{l:List α} {m:List β},l.length=m.length->(∀(k:Nat) (x:α) (y:β),l[k]? =some x->m[k]? =some y->f x=some y)->mapO f l=some m
 | [],[],_,_=>rfl
 | [],_::_,h,_=>by simp at h
 | _::_,[],h,_=>by simp at h
 | a::l,b::m,h,hf=>by
  have h1:=hf 0 a b (by simp) (by simp);have h2:=qkh (f:=f) (l:=l) (m:=m) (by simpa using h) fun k x y hx hy=>hf (k+1) x y (by simpa using hx) (by simpa using hy)
  simp only [mapO,h1,h2]
theorem CfgM.snpR {O:List (Nat×AO)} {v1 v2 v3 v4:AV} {V:List AV} {c:Xf} {n N:Nat} (h:CfgM O v1 v2 v3 v4 V c):snap (n+4) ⟨O,N⟩ v1=some (.slice 1 (c.rows.map (cS 5 Rw.c))):=by
 have e1:mapO (mapO (snap (n+3) ⟨O,N⟩)) (V.map fun v=>[v])=some (c.rows.map (cS 5 Rw.c)):=by
  refine qkh (by simp [h.rl]) ?_;intro k x y hx hy;rw [List.getElem?_map] at hx hy;cases hv:V[k]? with
  | none=>rw [hv] at hx;cases hx
  | some v=>
   cases hl:c.rows[k]? with
   | none=>rw [hl] at hy;cases hy
   | some l=>
    rw [hv] at hx;rw [hl] at hy;cases hx;cases hy;have:=(h.rv k v l hv hl).snp (N:=N) (n:=n+2);simp only [mapO,this,qen (n:=n+2) (H:=⟨O,N⟩) (fun x=>qx2 x) l,QAy,cS]
 have k1:=h.r.snp (N:=N) (n:=n+3);rw [e1] at k1;exact k1
theorem CfgM.snpN {O:List (Nat×AO)} {v1 v2 v3 v4:AV} {V:List AV} {c:Xf} {n N:Nat} (h:CfgM O v1 v2 v3 v4 V c):snap (n+4) ⟨O,N⟩ v2=some (.slice 1 (c.Xr.map cI)):=by
 have k2:=h.n.snp (N:=N) (n:=n+3);rw [qen (n:=n+3) (H:=⟨O,N⟩) (fun x=>qag9 x)] at k2;exact k2
theorem CfgM.snpD {O:List (Nat×AO)} {v1 v2 v3 v4:AV} {V:List AV} {c:Xf} {n N:Nat} (h:CfgM O v1 v2 v3 v4 V c):snap (n+4) ⟨O,N⟩ v3=some (.slice 2 (c.Xq.map Xb.c)):=by
 have k3:=h.d.snp (N:=N) (n:=n+3);rw [qen (n:=n+3) (H:=⟨O,N⟩) (fun x=>qaas x)] at k3;exact k3
theorem CfgM.snpG {O:List (Nat×AO)} {v1 v2 v3 v4:AV} {V:List AV} {c:Xf} {n N:Nat} (h:CfgM O v1 v2 v3 v4 V c):snap (n+4) ⟨O,N⟩ v4=some (.slice 1 (c.Xm.map (cS 1 c32))):=by
 rcases h.g with hg | ⟨t,hg⟩<;>subst hg<;>simp
@[simp] theorem qaes (b x:Bool) (H:AH):qdq b H (some (.val (.bool x)))=some (.val (.bool x),H):=by cases b<;>simp
@[simp] theorem qagd (b:Bool) (k:IntKind) (x:Int) (H:AH):qdq b H (some (.val (.int k x)))=some (.val (.int k x),H):=by cases b<;>simp
def regN (r:Xh):Nat:=if r.size<1\/64<r.size then 0 else r.size.toNat
theorem qc8 {Ψ:FuncId->Option AFun} {f z bytes:Nat} (hf:Ψ f=some (.rule (qcz z bytes .app))) (es:List (List AV)) (hz:qa9 z es=true) (hb:es.length*bytes<=70368744177664):qac Ψ f [.slice z es]=some (.val (.slice z es)):=by
 unfold qac;rw [qgy Ψ hf];cases es with
 | nil=>simp [qcz,lenOf,qch,evR,qdx,H0,AH.put]
 | cons x es=>
  simp only [QBk] at hb;simp [qcz,lenOf,evR,qdx,H0,AH.put,hz,hb]
theorem qio (l:List Int) (h:l.length<2^40):qac Φ f_115 [.slice 1 (l.map c32)]=some (.val (.slice 1 (l.map c32))):=
 qc8 (bytes:=4) rfl _ (qa4 1 c32 l fun x=>by simp [c32]) (by rw [QAb];omega)
theorem qv3 (l:List Xi) (h:l.length<2^40):qac Φ f_114 [.slice 2 (l.map Xi.c)]=some (.val (.slice 2 (l.map Xi.c))):=
 qc8 (bytes:=8) rfl _ (qa4 2 Xi.c l fun x=>by simp [Xi.c]) (by rw [QAb];omega)
theorem qi1 (c:Xb) (h:c.args.length<2^40):qac Φ f_290 [.agg (Xb.c c)]=some (.val (.agg (Xb.c c))):=by
 rw [qad (fn:=c_290) rfl rfl];have k:=qio c.args h;simp [c_290,Xb.ce,k]
theorem qoo (x:Entry) (h:x.call.args.length<2^40) (h2:x.keys.length<2^40):qac Φ f_351 [.agg (Entry.c x)]=some (.val (.agg (Entry.c x))):=by
 rw [qad (fn:=c_351) rfl rfl];have k:=qv3 x.keys h2;have k2:=qi1 x.call h;simp only [Xb.ce] at k2;simp [c_351,Entry.ce,k,k2]
theorem qaby (x:Rw) (h:rowS x):qac Φ f_294 [.agg (Rw.c x)]=some (.val (.agg (Rw.c x))):=by
 rw [qad (fn:=c_294) rfl rfl];have k:=qoo x.entry h.al h.kl;simp only [Entry.ce] at k;simp [c_294,Rw.ce,k]
theorem qpo (l:List Xj) (hl:l.length<2^39) (hf:∀x∈l,qac Φ f_338 [.agg (Xj.c x)]=some (.val (.agg (Xj.c x)))):qac Φ f_337 [.slice 2 (l.map Xj.c),.func (.func f_338) [] []]=some (.val (.slice 2 (l.map Xj.c))):=by
 rw [qad (fn:=c_337) rfl rfl];simp [c_337];refine (qay l.length (fun i=>[(0,.tok 2 i)]) 1 (fun i e=>look 1 e=some (.func (.func f_338) [] [])/\look 5 e=some (.app 2 ((l.map Xj.c).take i) 0)/\look 8 e=some (.slice 2 (l.map Xj.c))/\look 9 e=some (.int .i64 l.length)/\look 10 e=some (.int .i64 i))
  (fun _=>some (Rt.val (.slice 2 (l.map Xj.c)))) ?_ ?_ 0 _ 1 (Qc _) (Qb _) ?_).trans (by simp)
 ·rintro i e n L hi hL hn ⟨h1,h5,h8,h9,h10⟩ ih;have hw:=qao i (by omega);have hn0:¬(0=n):=by omega
  have hn1:¬(n=0):=by omega
  have hm:min i l.length=i:=by omega
  have hb:∀k,k<=128->(i+1)*k<=70368744177664:=fun k hk=>by
   have:(i+1)*k<=(i+1)*128:=QBi _ hk;omega
  have hN:=hf _ (Qd hi);simp only [Xj.e] at hN;simp [c_337_l0,Xj.e,h1,h5,h8,h9,h10,hi,hw,hn0,hm,hb,hN];exact ih _ _ (by omega) ⟨by simp [h1],by simp [qa7 hi,Xj.e],by simp [h8],by simp [h9],by simp⟩
 ·rintro e n L hL hn ⟨h1,h5,h8,h9,h10⟩;simp [c_337_l0,c_337_k1,h5,h9,h10,hL]
 ·simp
theorem ql6 (l:List Xg) (hl:l.length<2^39) (hf:∀x∈l,qac Φ f_365 [.agg (Xg.c x)]=some (.val (.agg (Xg.c x)))):qac Φ f_364 [.slice 7 (l.map Xg.c),.func (.func f_365) [] []]=some (.val (.slice 7 (l.map Xg.c))):=by
 rw [qad (fn:=c_364) rfl rfl];simp [c_364];refine (qay l.length (fun i=>[(0,.tok 7 i)]) 1 (fun i e=>look 1 e=some (.func (.func f_365) [] [])/\look 5 e=some (.app 7 ((l.map Xg.c).take i) 0)/\look 8 e=some (.slice 7 (l.map Xg.c))/\look 9 e=some (.int .i64 l.length)/\look 10 e=some (.int .i64 i))
  (fun _=>some (Rt.val (.slice 7 (l.map Xg.c)))) ?_ ?_ 0 _ 1 (Qc _) (Qb _) ?_).trans (by simp)
 ·rintro i e n L hi hL hn ⟨h1,h5,h8,h9,h10⟩ ih;have hw:=qao i (by omega);have hn0:¬(0=n):=by omega
  have hn1:¬(n=0):=by omega
  have hm:min i l.length=i:=by omega
  have hb:∀k,k<=128->(i+1)*k<=70368744177664:=fun k hk=>by
   have:(i+1)*k<=(i+1)*128:=QBi _ hk;omega
  have hN:=hf _ (Qd hi);simp only [Xg.e] at hN;simp [c_364_l0,Xg.e,h1,h5,h8,h9,h10,hi,hw,hn0,hm,hb,hN];exact ih _ _ (by omega) ⟨by simp [h1],by simp [qa7 hi,Xg.e],by simp [h8],by simp [h9],by simp⟩
 ·rintro e n L hL hn ⟨h1,h5,h8,h9,h10⟩;simp [c_364_l0,c_364_k1,h5,h9,h10,hL]
 ·simp
theorem qpn (l:List Action) (hl:l.length<2^39) (hf:∀x∈l,qac Φ f_342 [.agg (Action.c x)]=some (.val (.agg (Action.c x)))):qac Φ f_341 [.slice 3 (l.map Action.c),.func (.func f_342) [] []]=some (.val (.slice 3 (l.map Action.c))):=by
 rw [qad (fn:=c_341) rfl rfl];simp [c_341];refine (qay l.length (fun i=>[(0,.tok 3 i)]) 1 (fun i e=>look 1 e=some (.func (.func f_342) [] [])/\look 5 e=some (.app 3 ((l.map Action.c).take i) 0)/\look 8 e=some (.slice 3 (l.map Action.c))/\look 9 e=some (.int .i64 l.length)/\look 10 e=some (.int .i64 i))
  (fun _=>some (Rt.val (.slice 3 (l.map Action.c)))) ?_ ?_ 0 _ 1 (Qc _) (Qb _) ?_).trans (by simp)
 ·rintro i e n L hi hL hn ⟨h1,h5,h8,h9,h10⟩ ih;have hw:=qao i (by omega);have hn0:¬(0=n):=by omega
  have hn1:¬(n=0):=by omega
  have hm:min i l.length=i:=by omega
  have hb:∀k,k<=128->(i+1)*k<=70368744177664:=fun k hk=>by
   have:(i+1)*k<=(i+1)*128:=QBi _ hk;omega
  have hN:=hf _ (Qd hi);simp only [Action.e] at hN;simp [c_341_l0,Action.e,h1,h5,h8,h9,h10,hi,hw,hn0,hm,hb,hN];exact ih _ _ (by omega) ⟨by simp [h1],by simp [qa7 hi,Action.e],by simp [h8],by simp [h9],by simp⟩
 ·rintro e n L hL hn ⟨h1,h5,h8,h9,h10⟩;simp [c_341_l0,c_341_k1,h5,h9,h10,hL]
 ·simp
theorem qqk (l:List Tbl) (hl:l.length<2^39) (hf:∀x∈l,qac Φ f_344 [.agg (Tbl.c x)]=some (.val (.agg (Tbl.c x)))):qac Φ f_343 [.slice 6 (l.map Tbl.c),.func (.func f_344) [] []]=some (.val (.slice 6 (l.map Tbl.c))):=by
 rw [qad (fn:=c_343) rfl rfl];simp [c_343];refine (qay l.length (fun i=>[(0,.tok 6 i)]) 1 (fun i e=>look 1 e=some (.func (.func f_344) [] [])/\look 5 e=some (.app 6 ((l.map Tbl.c).take i) 0)/\look 8 e=some (.slice 6 (l.map Tbl.c))/\look 9 e=some (.int .i64 l.length)/\look 10 e=some (.int .i64 i))
  (fun _=>some (Rt.val (.slice 6 (l.map Tbl.c)))) ?_ ?_ 0 _ 1 (Qc _) (Qb _) ?_).trans (by simp)
 ·rintro i e n L hi hL hn ⟨h1,h5,h8,h9,h10⟩ ih;have hw:=qao i (by omega);have hn0:¬(0=n):=by omega
  have hn1:¬(n=0):=by omega
  have hm:min i l.length=i:=by omega
  have hb:∀k,k<=128->(i+1)*k<=70368744177664:=fun k hk=>by
   have:(i+1)*k<=(i+1)*128:=QBi _ hk;omega
  have hN:=hf _ (Qd hi);simp only [Tbl.e] at hN;simp [c_343_l0,Tbl.e,h1,h5,h8,h9,h10,hi,hw,hn0,hm,hb,hN];exact ih _ _ (by omega) ⟨by simp [h1],by simp [qa7 hi,Tbl.e],by simp [h8],by simp [h9],by simp⟩
 ·rintro e n L hL hn ⟨h1,h5,h8,h9,h10⟩;simp [c_343_l0,c_343_k1,h5,h9,h10,hL]
 ·simp
theorem qj8 (l:List Xd) (hl:l.length<2^39) (hf:∀x∈l,qac Φ f_346 [.agg (Xd.c x)]=some (.val (.agg (Xd.c x)))):qac Φ f_345 [.slice 7 (l.map Xd.c),.func (.func f_346) [] []]=some (.val (.slice 7 (l.map Xd.c))):=by
 rw [qad (fn:=c_345) rfl rfl];simp [c_345];refine (qay l.length (fun i=>[(0,.tok 7 i)]) 1 (fun i e=>look 1 e=some (.func (.func f_346) [] [])/\look 5 e=some (.app 7 ((l.map Xd.c).take i) 0)/\look 8 e=some (.slice 7 (l.map Xd.c))/\look 9 e=some (.int .i64 l.length)/\look 10 e=some (.int .i64 i))
  (fun _=>some (Rt.val (.slice 7 (l.map Xd.c)))) ?_ ?_ 0 _ 1 (Qc _) (Qb _) ?_).trans (by simp)
 ·rintro i e n L hi hL hn ⟨h1,h5,h8,h9,h10⟩ ih;have hw:=qao i (by omega);have hn0:¬(0=n):=by omega
  have hn1:¬(n=0):=by omega
  have hm:min i l.length=i:=by omega
  have hb:∀k,k<=128->(i+1)*k<=70368744177664:=fun k hk=>by
   have:(i+1)*k<=(i+1)*128:=QBi _ hk;omega
  have hN:=hf _ (Qd hi);simp only [Xd.e] at hN;simp [c_345_l0,Xd.e,h1,h5,h8,h9,h10,hi,hw,hn0,hm,hb,hN];exact ih _ _ (by omega) ⟨by simp [h1],by simp [qa7 hi,Xd.e],by simp [h8],by simp [h9],by simp⟩
 ·rintro e n L hL hn ⟨h1,h5,h8,h9,h10⟩;simp [c_345_l0,c_345_k1,h5,h9,h10,hL]
 ·simp
theorem qec (l:List Xa) (hl:l.length<2^39) (hf:∀x∈l,qac Φ f_348 [.agg (Xa.c x)]=some (.val (.agg (Xa.c x)))):qac Φ f_347 [.slice 5 (l.map Xa.c),.func (.func f_348) [] []]=some (.val (.slice 5 (l.map Xa.c))):=by
 rw [qad (fn:=c_347) rfl rfl];simp [c_347];refine (qay l.length (fun i=>[(0,.tok 5 i)]) 1 (fun i e=>look 1 e=some (.func (.func f_348) [] [])/\look 5 e=some (.app 5 ((l.map Xa.c).take i) 0)/\look 8 e=some (.slice 5 (l.map Xa.c))/\look 9 e=some (.int .i64 l.length)/\look 10 e=some (.int .i64 i))
  (fun _=>some (Rt.val (.slice 5 (l.map Xa.c)))) ?_ ?_ 0 _ 1 (Qc _) (Qb _) ?_).trans (by simp)
 ·rintro i e n L hi hL hn ⟨h1,h5,h8,h9,h10⟩ ih;have hw:=qao i (by omega);have hn0:¬(0=n):=by omega
  have hn1:¬(n=0):=by omega
  have hm:min i l.length=i:=by omega
  have hb:∀k,k<=128->(i+1)*k<=70368744177664:=fun k hk=>by
   have:(i+1)*k<=(i+1)*128:=QBi _ hk;omega
  have hN:=hf _ (Qd hi);obtain ⟨kk,tt,cc,aa,bb,hx⟩:=qtf l[i];rw [hx,Xa.ce] at hN;simp [c_347_l0,hx,Xa.ce,h1,h5,h8,h9,h10,hi,hw,hn0,hm,hb,hN];exact ih _ _ (by omega) ⟨by simp [h1],by simp [qa7 hi,hx,Xa.ce],by simp [h8],by simp [h9],by simp⟩
 ·rintro e n L hL hn ⟨h1,h5,h8,h9,h10⟩;simp [c_347_l0,c_347_k1,h5,h9,h10,hL]
 ·simp
theorem qtb (H:AH):∀l:List Int,mapO (mapO (snap 39 H)) (l.map cI)=some (l.map cI)
 | []=>by simp [mapO]
 | x::l=>by
  have ih:=qtb H l;simp only [QBp,mapO,ih];simp [cI,mapO]
theorem qms (l:List Int) (h:l.length<2^40):qac Φ f_113 [.slice 1 (l.map cI)]=some (.val (.slice 1 (l.map cI))):=by
 unfold qac;rw [qgy Φ (g:=qcz 1 8 .row) rfl];cases l with
 | nil=>simp [qcz,lenOf,qch,evR,qdx,H0,AH.put]
 | cons x l=>
  have hb:(l.length+1)*8<=70368744177664:=by simp at h;omega
  have hm:=qtb ⟨[(0,.row 1 ((x::l).map cI))],1⟩ (x::l);simp [cI] at hm;simp [qcz,lenOf,evR,qdx,H0,AH.put,hb,cI,hm]
theorem qqc (l:List Fld) (h:l.length<2^40):qac Φ f_339 [.slice 2 (l.map Fld.c)]=some (.val (.slice 2 (l.map Fld.c))):=
 qc8 (bytes:=24) rfl _ (qa4 2 Fld.c l fun x=>by simp [Fld.e]) (by rw [QAb];omega)
theorem qae6 (l:List Xh) (h:l.length<2^40):qac Φ f_340 [.slice 3 (l.map Xh.c)]=some (.val (.slice 3 (l.map Xh.c))):=
 qc8 (bytes:=32) rfl _ (qa4 3 Xh.c l fun x=>by simp [Xh.e]) (by rw [QAb];omega)
theorem qae7 (l:List Xl) (h:l.length<2^40):qac Φ f_366 [.slice 3 (l.map Xl.c)]=some (.val (.slice 3 (l.map Xl.c))):=
 qc8 (bytes:=24) rfl _ (qa4 3 Xl.c l fun x=>by simp [Xl.e]) (by rw [QAb];omega)
theorem qae5 (l:List Xk) (h:l.length<2^40):qac Φ f_367 [.slice 3 (l.map Xk.c)]=some (.val (.slice 3 (l.map Xk.c))):=
 qc8 (bytes:=16) rfl _ (qa4 3 Xk.c l fun x=>by simp [Xk.e]) (by rw [QAb];omega)
theorem qqb (l:List Xe) (h:l.length<2^40):qac Φ f_368 [.slice 3 (l.map Xe.c)]=some (.val (.slice 3 (l.map Xe.c))):=
 qc8 (bytes:=24) rfl _ (qa4 3 Xe.c l fun x=>by simp [Xe.c]) (by rw [QAb];omega)
theorem qt1 (x:Xj) (h:x.fields.length<2^40):qac Φ f_338 [.agg (Xj.c x)]=some (.val (.agg (Xj.c x))):=by
 rw [qad (fn:=c_338) rfl rfl];have k:=qqc x.fields h;simp [c_338,Xj.e,k]
theorem qpj (x:Xg) (h:x.index.length<2^40) (h2:x.value.length<2^40):qac Φ f_365 [.agg (Xg.c x)]=some (.val (.agg (Xg.c x))):=by
 rw [qad (fn:=c_365) rfl rfl];have k:=qqb x.index h;have k2:=qqb x.value h2;simp [c_365,Xg.e,k,k2]
theorem qvz (x:Tbl) (h:x.keys.length<2^40) (h2:x.actions.length<2^40) (h3:x.dflt.args.length<2^40):qac Φ f_344 [.agg (Tbl.c x)]=some (.val (.agg (Tbl.c x))):=by
 rw [qad (fn:=c_344) rfl rfl];have k:=qae7 x.keys h;have k2:=qms x.actions h2;have k3:=qio x.dflt.args h3;simp [c_344,Tbl.e,k,k2,k3]
theorem qvy (x:Xd) (h:x.extract.length<2^40) (h2:x.cases.length<2^40):qac Φ f_346 [.agg (Xd.c x)]=some (.val (.agg (Xd.c x))):=by
 rw [qad (fn:=c_346) rfl rfl];have k:=qms x.extract h;have k2:=qae5 x.cases h2;simp [c_346,Xd.e,k,k2]
theorem qtz (x:Action) (h:x.params.length<2^40) (h2:x.body.length<2^39) (h3:∀s∈x.body,s.index.length<2^40/\s.value.length<2^40):qac Φ f_342 [.agg (Action.c x)]=some (.val (.agg (Action.c x))):=by
 rw [qad (fn:=c_342) rfl rfl];have k:=qqc x.params h;have k2:=ql6 x.body h2 fun s hs=>qpj s (h3 s hs).1 (h3 s hs).2
 simp [c_342,Action.e,k,k2]
theorem ql3:∀(n:Nat) (x:Xa),SizeOf.sizeOf x<=n->Xa.Ok qba x->qac Φ f_348 [.agg (Xa.c x)]=some (.val (.agg (Xa.c x)))
 | 0,x,h,_=>by cases x;simp at h
 | n+1,x,h,ho=>by
  obtain ⟨k,t,c,a,b,rfl⟩:=qtf x;simp only [Xa.Ok] at ho;obtain ⟨_,_,hc,⟨ha1,ha2⟩,hb1,hb2⟩:=ho;rw [Xa.oks_eq] at ha2 hb2;have e:=qdf;simp at h;have hc1:=hc.1;have k1:=qqb c (by omega);have k2:=qec a (by omega) fun y hy=>ql3 n y (by have:=List.sizeOf_lt_of_mem hy;omega) (ha2 y hy)
  have k3:=qec b (by omega) fun y hy=>ql3 n y (by have:=List.sizeOf_lt_of_mem hy;omega) (hb2 y hy)
  rw [qad (fn:=c_348) rfl rfl];simp [c_348,Xa.ce,k1,k2,k3]
theorem qxf (p:Prg) (op:p.Ok qba):qac Φ f_287 [.agg (Prg.c p)]=some (.val (.agg (Prg.c p))):=by
 have f:=qfy op;obtain ⟨_,o1,o2,o3,o4,o5,o6,o7,o8⟩:=op;have e:=qdf;have k1:=qpo p.Xp (by have:=o1.1;omega) fun x hx=>qt1 x (f.hl x hx)
 have k2:=qqc p.Xo f.m;have k3:=qae6 p.Xm f.r;have k4:=qpn p.actions (by have:=o4.1;omega) fun x hx=>qtz x (f.ap x hx) (by
  have h:=o4.2 x hx;simp only [Action.Ok] at h;have:=h.2.2.1;omega) fun s hs=>⟨f.ai x hx s hs,f.av x hx s hs⟩
 have k5:=qqk p.Xn (by have:=o5.1;omega) fun x hx=>qvz x (f.tk x hx) (f.ta x hx) (f.tg x hx)
 have k6:=qj8 p.states (by have:=o6.1;omega) fun x hx=>qvy x (f.se x hx) (f.sc x hx)
 have k7:=qec p.control (by have:=o7.1;omega) fun x hx=>ql3 _ x (Qb _) (o7.2 x hx)
 have k8:=qms p.Xs f.d;rw [qad (fn:=c_287) rfl rfl];simp [c_287,Prg.e,k1,k2,k3,k4,k5,k6,k7,k8]
def RegV (T:List (Nat×AO)) (x:AV) (r:Xh):Prop:=(x= .Xu 1 []/\regN r=0)\/∃id,1<=id/\x= .row id 1 0 (regN r)/\look id T=some (.row 1 (List.replicate (regN r) [.int .u32 0]))
inductive RegL (T:List (Nat×AO)):List AV->List Xh->Prop
 | nil:RegL T [] []
 | snoc {A rs x r} (h:RegL T A rs) (hx:RegV T x r):RegL T (A++[x]) (rs++[r])
theorem RegV.app {T:List (Nat×AO)} {x:AV} {r:Xh} (h:RegV T x r) (U:List (Nat×AO)):RegV (T++U) x r:=by
 rcases h with h | ⟨id,h1,h2,h3⟩
 ·exact .inl h
 ·exact .inr ⟨id,h1,h2,by rw [qdw,h3];simp⟩
theorem RegL.app {T:List (Nat×AO)} {A:List AV} {rs:List Xh} (h:RegL T A rs) (U:List (Nat×AO)):RegL (T++U) A rs:=by
 induction h with
 | nil=>exact .nil
 | snoc h hx ih=>exact .snoc ih (hx.app U)
theorem RegL.len {T:List (Nat×AO)} {A:List AV} {rs:List Xh} (h:RegL T A rs):A.length=rs.length:=by
 induction h with
 | nil=>rfl
 | snoc h hx ih=>simp [ih]
theorem qqx (H:AH) (k:Nat):∀m,mapO (mapO (snap 38 H)) (List.replicate m [AV.int .u32 k])=some (List.replicate m [AV.int .u32 k])
 | 0=>by simp [mapO]
 | m+1=>by
  have ih:=qqx H k m;simp only [List.replicate_succ,mapO,ih];simp
theorem qo3 {α β:Type} (f:α->Option β):∀(l:List α) (x:α) (l':List β) (y:β),mapO f l=some l'->f x=some y->mapO f (l++[x])=some (l'++[y])
 | [],x,l',y,h,hy=>by
  simp [mapO] at h;subst h;simp [mapO,hy]
 | a::l,x,l',y,h,hy=>by
  simp only [mapO] at h;cases hb:f a with
  | none=>rw [hb] at h;cases h
  | some b=>
   rw [hb] at h;cases hm:mapO f l with
   | none=>rw [hm] at h;cases h
   | some m=>
    rw [hm] at h;cases h;have ih:=qo3 f l x m y hm hy;simp only [QAp,mapO,hb,ih]
theorem RegL.snp {T:List (Nat×AO)} {A:List AV} {rs:List Xh} (h:RegL T A rs) (o:AO) (n:Nat):
  mapO (mapO (snap 39 ⟨(0,o)::T,n⟩)) (A.map fun x=>[x])=some (rs.map fun r=>[AV.slice 1 (List.replicate (regN r) [.int .u32 0])]):=by
 induction h with
 | nil=>simp [mapO]
 | snoc h hx ih=>
  rw [QCa,QCa];refine qo3 _ _ _ _ _ ih ?_;rcases hx with ⟨rfl,h0⟩ | ⟨id,h1,rfl,h3⟩
  ·simp [mapO,h0]
  ·have hi:¬(0=id):=by omega
   have hr:=qqx ⟨(0,o)::T,n⟩ 0;simp at hr;simp [mapO,look,hi,h3,hr]
theorem qws {O O':List (Nat×AO)} {N N' k:Nat} {X:Nat->Prop} (hK:Kp X N O O') (hT:Tail O' N') (hN:N<=N') (o:AO):Kp X N O (O'++[(N'+k,o)])/\Tail (O'++[(N'+k,o)]) (N'+k+1)/\look (N'+k) (O'++[(N'+k,o)])=some o:=by
 refine ⟨?_,?_,?_⟩
 ·intro j hj hx;have:¬N'+k=j:=by omega
  rw [qab,hK j hj hx];simp [this]
 ·rw [Tail_append_iff,Tail_cons_iff];exact ⟨hT.mono (by omega),by omega,Tail.nil _⟩
 ·rw [qab,hT _ (by omega)];simp
theorem hp_mv {O O':List (Nat×AO)} {N N' k id:Nat} {X:Nat->Prop} (hK:Kp X N O O') (hT:Tail O' N') (hN:N<=N') (hid:N<=id) (o:AO):Kp X N O (qaw id O'++[(N'+k,o)])/\Tail (qaw id O'++[(N'+k,o)]) (N'+k+1)/\look (N'+k) (qaw id O'++[(N'+k,o)])=some o:=by
 have h1:Kp X N O (qaw id O'):=by
  intro j hj hx;rw [qak (by omega),hK j hj hx]
 exact qws h1 (qc7 hT) hN o
theorem qwp {l:List Rw} {i:Nat} {es0:List (List AV)} (hi:i<l.length) (ht:es0.take (l.map Rw.c).length=l.map Rw.c):es0[i]? =some (Rw.c l[i]):=by
 have h:(es0.take (l.map Rw.c).length)[i]? =(l.map Rw.c)[i]? :=by rw [ht]
 rw [List.getElem?_take_of_lt (by simpa using hi)] at h;rw [h];simp [hi]
section
variable {β:Type} {fin:Option (Ex×St)->Option β}
theorem qsx (l:List Rw) (hs:∀r∈l,rowS r) (hl:l.length<2^39) (v:AV) (K:List Fr) (Q:Option β->Prop) (e:Env) (O:List (Nat×AO)) (N:Nat) (hT:Tail O N) (hv:Re O 5 v (l.map Rw.c))
  (h6:look 6 e=some (.Xu 5 [])) (h24:look 24 e=some v) (h25:look 25 e=some (.int .i64 l.length)) (h26:look 26 e=some (.int .i64 0))
  (hK:∀e' O' N' w,Mu O' 5 w (l.map Rw.c)->(∀j,vid w=some j->N<=j)->(∀z es t,w≠ .app z es t)->Kp (fun _=>False) N O O'->Tail O' N'->N<=N'->look 6 e'=some w->
   look 1 e'=look 1 e->look 2 e'=look 2 e->look 3 e'=look 3 e->look 18 e'=look 18 e->look 19 e'=look 19 e->look 20 e'=look 20 e->Q (go Φ fin K .normal ⟨e',⟨O',N'⟩⟩)):
  Q (go Φ fin (.c (.loop c_226_l0):: .b 2::K) .normal ⟨e,⟨O,N⟩⟩):=by
 refine qbk l.length (fun i e' h=>∃O' N' w,h=⟨O',N'⟩/\((i=0/\w= .Xu 5 [])\/∃id,w= .row id 5 0 i/\look id O'=some (.row 5 ((l.take i).map Rw.c))/\N<=id)/\Kp (fun _=>False) N O O'/\Tail O' N'/\N<=N'/\look 6 e'=some w/\look 24 e'=some v/\look 25 e'=some (.int .i64 l.length)/\look 26 e'=some (.int .i64 i)/\
   look 1 e'=look 1 e/\look 2 e'=look 2 e/\look 3 e'=look 3 e/\look 18 e'=look 18 e/\look 19 e'=look 19 e/\look 20 e'=look 20 e) Q ?_ ?_ 0 _ _ (Qc _) ?_
 ·rintro i e' _ L hi hL ⟨O',N',w,rfl,hw,hk,hT',hN,h6,h24,h25,h26,g1,g2,g3,g18,g19,g20⟩ ih;have hw1:=qao i (by omega);have hc:=qaby l[i] (hs _ (Qd hi));have hT0:=hT' N' (Qb _);have hT1:=hT' (N'+1) (by omega);have hm:min i l.length=i:=by omega
  have hd1:∀id,look (N'+1) (qaw id O')=none:=fun id=>qdd _ hT1
  have htk:(l.map Rw.c).take (i+1)=(l.map Rw.c).take i++[Rw.c l[i]]:=qa7 hi;rw [Rw.ce] at htk;have hb:(i+1)*72<=70368744177664:=by omega
  simp only [Rw.ce] at hc;have hv':Re O' 5 v (l.map Rw.c):=by
   refine hv.fr fun j hj=>?_
   cases hv with
   | row id _ es0 n hn hl hle ht=>cases hj;exact hk j (hT.lt hl) (by simp)
   | sl=>cases hj
   | fs=>cases hj
   | ap=>cases hj
  have hw0:min i (l.map Rw.c).length=i:=by simp;omega
  rcases hw with ⟨rfl,rfl⟩ | ⟨id,rfl,hlk,hid⟩
  ·obtain ⟨a1,a2,a3⟩:=qws (k:=1) hk hT' hN (.row 5 ((l.take (0+1)).map Rw.c));cases hv' with
   | row id' _ es0 n hn hl' hle ht=>
    have h0:=qwp hi ht;simp [c_226_l0,Rw.ce,h6,h24,h25,h26,hi,hc,hT0,hT1,hn,hl',h0,wr1];refine ih _ _ ⟨_,N'+1+1,.row (N'+1) 5 0 (0+1),by simp at htk;simp [htk],.inr ⟨N'+1,rfl,a3,by omega⟩,a1,a2,by omega,?_,?_,?_,?_,?_,?_,?_,?_,?_,?_⟩<;>simp [*]
   | _=>
    simp [c_226_l0,Rw.ce,h6,h24,h25,h26,hi,hc,hT0,hT1,wr1];refine ih _ _ ⟨_,N'+1+1,.row (N'+1) 5 0 (0+1),by simp at htk;simp [htk],.inr ⟨N'+1,rfl,a3,by omega⟩,a1,a2,by omega,?_,?_,?_,?_,?_,?_,?_,?_,?_,?_⟩<;>simp [*]
  ·obtain ⟨a1,a2,a3⟩:=hp_mv (k:=1) hk hT' hN hid (.row 5 ((l.take (i+1)).map Rw.c));cases hv' with
   | row id' _ es0 n hn hl' hle ht=>
    have h0:=qwp hi ht;simp [c_226_l0,Rw.ce,h6,h24,h25,h26,hi,hc,hT0,hn,hl',h0,hw1,hlk,hb,hm,hd1];refine ih _ _ ⟨_,N'+1+1,.row (N'+1) 5 0 (i+1),by simp [htk],.inr ⟨N'+1,rfl,a3,by omega⟩,a1,a2,by omega,?_,?_,?_,?_,?_,?_,?_,?_,?_,?_⟩<;>simp [*]
   | _=>
    simp [c_226_l0,Rw.ce,h6,h24,h25,h26,hi,hc,hT0,hw1,hlk,hb,hm,hd1];refine ih _ _ ⟨_,N'+1+1,.row (N'+1) 5 0 (i+1),by simp [htk],.inr ⟨N'+1,rfl,a3,by omega⟩,a1,a2,by omega,?_,?_,?_,?_,?_,?_,?_,?_,?_,?_⟩<;>simp [*]
 ·rintro e' _ L hL ⟨O',N',w,rfl,hw,hk,hT',hN,h6,h24,h25,h26,g1,g2,g3,g18,g19,g20⟩;simp [c_226_l0,h25,h26,hL];refine hK _ O' N' w ?_ ?_ ?_ hk hT' hN ?_ ?_ ?_ ?_ ?_ ?_ ?_<;>try simp [h6,g1,g2,g3,g18,g19,g20]
  ·rcases hw with ⟨hz,rfl⟩ | ⟨id,rfl,hlk,hid⟩
   ·have:l=[]:=Qg hz;subst this;exact .nilF
   ·rw [QAf] at hlk;exact .row id _ _ _ (by simp) hlk (Qb _) (by rw [QAf])
  ·rcases hw with ⟨hz,rfl⟩ | ⟨id,rfl,hlk,hid⟩
   ·intro j hj;cases hj
   ·intro j hj;cases hj;exact hid
  ·rcases hw with ⟨hz,rfl⟩ | ⟨id,rfl,hlk,hid⟩<;>intro z es t ht<;>cases ht
 ·exact ⟨O,N,.Xu 5 [],rfl,.inl ⟨rfl,rfl⟩,fun _ _ _=>rfl,hT,Qb _,h6,h24,h25,h26,rfl,rfl,rfl,rfl,rfl,rfl⟩
end
section
variable {O O':List (Nat×AO)} {N N' n id:Nat} {X:Nat->Prop} {o y:AO}
theorem Kp.app (h:Kp X N O O') (hn:N<=n):Kp X N O (O'++[(n,o)]):=by
 intro j hj hx;have:¬n=j:=by omega
 rw [qab,h j hj hx];simp [this]
theorem Kp.drop (h:Kp X N O O') (hn:N<=id\/X id):Kp X N O (qaw id O'):=by
 intro j hj hx;rw [qak (by rintro rfl;rcases hn with hn | hn;omega;exact hx hn),h j hj hx]
theorem Kp.setl (h:Kp X N O O') (hn:N<=id\/X id):Kp X N O (setl id y O'):=by
 intro j hj hx;rw [qaa,QA (by rintro rfl;rcases hn with hn | hn;omega;exact hx hn),h j hj hx]
theorem Tail.app1 (h:Tail O' N') (hn:N'<=n):Tail (O'++[(n,o)]) (n+1):=by
 rw [Tail_append_iff,Tail_cons_iff];exact ⟨h.mono (by omega),by omega,Tail.nil _⟩
theorem Kp.lk (h:Kp X N O O') (hT:Tail O N) {j:Nat} {x:AO} (hl:look j O=some x) (hx:¬X j):look j O'=some x:=by
 rw [h j (hT.lt hl) hx,hl]
theorem qan {j:Nat} {x y:AO} (h1:look id O=some x) (h2:look j O=some y) (h:x≠y):id≠j:=by
 rintro rfl;rw [h1] at h2;cases h2;exact h rfl
theorem qdp {j:Nat} {x:AO} (hT:Tail O N) (h1:look j O=some x) (hn:N<=n):¬j=n/\¬n=j:=by
 have:=hT.lt h1;omega
end
theorem Re.src {O:List (Nat×AO)} {z N:Nat} {v:AV} {es:List (List AV)} (h:Re O z v es):qch ⟨O,N⟩ v=some es:=by
 cases h with
 | sl=>rfl
 | fs=>rfl
 | ap=>rfl
 | row id _ es0 n hn hl hle ht=>
  subst hn;simp [hl,hle,ht]
theorem qabu {O:List (Nat×AO)} {N:Nat} (hT:Tail O N) {v:AV} {l:List Int} (h:Re O 1 v (l.map cI)) (hl:l.length<2^40):
  ∃w o,qai Φ f_113 [v] ⟨O,N⟩=some (.val w,⟨O++[(N,o)],N+1⟩)/\Mu (O++[(N,o)]) 1 w (l.map cI)/\∀j,vid w=some j->N<=j:=by
 have hr:Φ f_113=some (.rule (qcz 1 8 .row)):=rfl;rw [qgy Φ hr];have hN:=hT N (Qb _);have hs:=h.src (N:=N);have hlen:=h.len;cases l with
 | nil=>
  refine ⟨.app 1 [] N,.tok 1 0,?_,.nilA _,fun j hj=>by cases hj⟩;simp only [qcz,hlen,QCh,QBa];simp only [QCh] at hs;simp only [hs,evR];simp [hN]
 | cons x l=>
  have ha:qa9 1 ((x::l).map cI)=true:=qa4 1 cI (x::l) fun x=>by simp
  refine ⟨.row N 1 0 ((x::l).map cI).length,.row 1 ((x::l).map cI),?_,?_,fun j hj=>by cases hj;omega⟩
  ·have hb:((x::l).map cI).length*8<=2^46:=by rw [QAb];omega
   have hne:(x::l).map cI≠[]:=by simp
   simp only [qcz,hlen,QAb,QBk,evR];have e0:evOp [(5,.Xu 1 []),(6,v)] N ⟨O,N⟩ (.append .row 1 8 (.t 5) (.t 6))=some (.row N 1 0 ((x::l).map cI).length,(AH.mk O N).put N (.row 1 ((x::l).map cI))):=by
    simp only [evOp,evX,look];simp only [show ¬(5:Nat)=6 by decide,if_true,if_false,hs,ha];simp only [QBa,QBm,QBg,true_or,true_and];rw [QAa ⟨hne,hb⟩]
   rw [e0];simp [hN]
  ·exact .row N _ _ _ rfl (by rw [qab,hN];simp) (Qb _) (by rw [QAf])
theorem Kp.appL {O O':List (Nat×AO)} {N:Nat} {X:Nat->Prop} (h:Kp X N O O') {r:List (Nat×AO)} (hr:∀p∈r,N<=p.1):Kp X N O (O'++r):=by
 intro j hj hx;have:look j r=none:=by
  induction r with
  | nil=>rfl
  | cons p r ih=>
   have h1:=hr p (by simp);have:¬p.1=j:=by omega
   simp only [look,QA this];exact ih fun q hq=>hr q (by simp [hq])
 rw [qab,h j hj hx,this];simp
structure RowsR (O:List (Nat×AO)) (v:AV) (A:List AV) (R:List (List Rw)):Prop where
 v:Re O 1 v (A.map fun x=>[x])
 len:A.length=R.length
 at_:∀(k:Nat) (x:AV) (l:List Rw),A[k]? =some x->R[k]? =some l->Re O 5 x (l.map Rw.c)
theorem Re.own {O:List (Nat×AO)} {z j:Nat} {v:AV} {es:List (List AV)} (h:Re O z v es) (hj:vid v=some j):∃x,look j O=some x:=by
 cases h with
 | sl=>cases hj
 | fs=>cases hj
 | ap=>cases hj
 | row id _ es0 n hn hl hle ht=>cases hj;exact ⟨_,hl⟩
theorem Re.kp {O O':List (Nat×AO)} {z N:Nat} {v:AV} {es:List (List AV)} {X:Nat->Prop} (h:Re O z v es) (hT:Tail O N) (hk:Kp X N O O') (hx:∀j,X j->look j O=none\/N<=j):Re O' z v es:=by
 refine h.fr fun j hj=>?_
 obtain ⟨x,hl⟩:=h.own hj;refine hk j (hT.lt hl) fun hc=>?_
 rcases hx j hc with h1 | h1
 ·rw [hl] at h1;cases h1
 ·have:=hT.lt hl;omega
theorem Mu.own {O:List (Nat×AO)} {z j:Nat} {v:AV} {es:List (List AV)} (h:Mu O z v es) (hj:vid v=some j):∃es0,look j O=some (.row z es0):=by
 cases h with
 | nilF=>cases hj
 | nilA=>cases hj
 | row id _ es0 n hn hl hle ht=>cases hj;exact ⟨_,hl⟩
structure RowsW (O:List (Nat×AO)) (N:Nat) (V:List AV) (R:List (List Rw)):Prop where
 len:V.length=R.length
 mu:∀(k:Nat) (v:AV) (l:List Rw),V[k]? =some v->R[k]? =some l->Mu O 5 v (l.map Rw.c)
 fresh:∀v∈V,∀j,vid v=some j->N<=j
 inj:∀(k k':Nat) (v v':AV) (i:Nat),V[k]? =some v->V[k']? =some v'->vid v=some i->vid v'=some i->k=k'
 na:∀v∈V,∀z es t,v≠ .app z es t
theorem RowsW.nil {O:List (Nat×AO)} {N:Nat}:RowsW O N [] []:=⟨rfl,by simp,by simp,by simp,by simp⟩
theorem RowsW.own {O:List (Nat×AO)} {N:Nat} {V:List AV} {R:List (List Rw)} (h:RowsW O N V R) {v:AV} {j:Nat} (hv:v∈V) (hj:vid v=some j):∃es0,look j O=some (.row 5 es0):=by
 obtain ⟨k,hk,rfl⟩:=Qn.1 hv;have hk2:k<R.length:=by rw [<- h.len];exact hk
 exact (h.mu k _ _ (Qa hk) (Qa hk2)).own hj
theorem RowsW.fr {O O':List (Nat×AO)} {N:Nat} {V:List AV} {R:List (List Rw)} (h:RowsW O N V R) (hf:∀j es0,look j O=some (.row 5 es0)->look j O'=look j O):RowsW O' N V R:=by
 refine ⟨h.len,?_,h.fresh,h.inj,h.na⟩;intro k v l hv hl;have hm:=h.mu k v l hv hl;refine hm.fr fun j hj=>?_
 obtain ⟨es0,h0⟩:=hm.own hj;exact hf j es0 h0
theorem RowsW.snoc {O O':List (Nat×AO)} {N N':Nat} {V:List AV} {R:List (List Rw)} {w:AV} {l:List Rw} (h:RowsW O N V R) (hT:Tail O N') (hN:N<=N') (hf:∀j es0,look j O=some (.row 5 es0)->look j O'=look j O) (hw:Mu O' 5 w (l.map Rw.c)) (hn:∀j,vid w=some j->N'<=j) (ha:∀z es t,w≠ .app z es t):RowsW O' N (V++[w]) (R++[l]):=by
 have h':=h.fr hf;have hlt:∀v∈V,∀j,vid v=some j->j<N':=by
  intro v hv j hj;obtain ⟨es0,h0⟩:=h.own hv hj;exact hT.lt h0
 have hlen:=h.len;refine ⟨by simp [hlen],?_,?_,?_,fun v hv=>by rcases QAd.1 hv with hv | hv;exact h.na v hv;simp at hv;subst hv;exact ha⟩
 ·intro k v l' hv hl;by_cases hk:k<V.length
  ·rw [Ql hk] at hv;rw [Ql (by omega)] at hl;exact h'.mu k v l' hv hl
  ·have hk':k=V.length:=by
    have:=(Qm.1 hv).1;simp at this;omega
   subst hk';rw [Qp (by omega)] at hv;rw [Qp (by omega),hlen] at hl;simp at hv hl;subst hv hl;exact hw
 ·intro v hv j hj;rcases QAd.1 hv with hv | hv
  ·exact h.fresh v hv j hj
  ·simp at hv;subst hv;have:=hn j hj;omega
 ·intro k k' v v' i hv hv' hi hi';have hb:=(Qm.1 hv).1;have hb':=(Qm.1 hv').1;simp at hb hb';by_cases hk:k<V.length
  ·by_cases hk':k'<V.length
   ·rw [Ql hk] at hv;rw [Ql hk'] at hv';exact h.inj k k' v v' i hv hv' hi hi'
   ·rw [Ql hk] at hv;rw [Qp (by omega)] at hv';have:k' - V.length=0:=by omega
    rw [this] at hv';simp at hv';subst hv';have h1:=hlt v (Qe hv) i hi;have h2:=hn i hi';omega
  ·by_cases hk':k'<V.length
   ·rw [Ql hk'] at hv';rw [Qp (by omega)] at hv;have:k - V.length=0:=by omega
    rw [this] at hv;simp at hv;subst hv;have h1:=hlt v' (Qe hv') i hi';have h2:=hn i hi;omega
   ·omega
section
variable {β:Type} {fin:Option (Ex×St)->Option β}
theorem qabp (R:List (List Rw)) (hR:R.length<2^40) (hs:∀l∈R,l.length<2^39/\∀r∈l,rowS r) (v w2:AV) (A:List AV) (b:Nat) (K:List Fr) (Q:Option β->Prop) (e:Env) (O:List (Nat×AO)) (N:Nat) (hT:Tail O N) (hv:RowsR O v A R)
  (hb:look b O=some (.row 4 [[.Xu 1 [],w2,.Xu 2 [],.Xu 1 []]])) (h3:look 3 e=some (.ptr b 4 0 0)) (h18:look 18 e=some v) (h19:look 19 e=some (.int .i64 R.length)) (h20:look 20 e=some (.int .i64 0))
  (hK:∀e' O' N' w V,Mu O' 1 w (V.map fun x=>[x])->(∀j,vid w=some j->N<=j)->RowsW O' N V R->Kp (fun j=>j=b) N O O'->Tail O' N'->N<=N'->look b O'=some (.row 4 [[w,w2,.Xu 2 [],.Xu 1 []]])->
   look 1 e'=look 1 e->look 2 e'=look 2 e->look 3 e'=look 3 e->Q (go Φ fin K .normal ⟨e',⟨O',N'⟩⟩)):
  Q (go Φ fin (.c (.loop c_226_l3):: .b 0::K) .normal ⟨e,⟨O,N⟩⟩):=by
 have hAb:∀(k:Nat) (x:AV) j,A[k]? =some x->vid x=some j->j≠b:=by
  intro k x j hx hj;have hk:k<R.length:=by
   have:=(Qm.1 hx).1;rw [hv.len] at this;exact this
  have:=hv.at_ k x _ hx (Qa hk);cases this with
  | sl=>cases hj
  | fs=>cases hj
  | ap=>cases hj
  | row id _ es0 n hn hl hle ht=>cases hj;exact qan hl hb (by simp)
 have hvb:∀j,vid v=some j->j≠b:=by
  intro j hj;cases hv.v with
  | sl=>cases hj
  | fs=>cases hj
  | ap=>cases hj
  | row id _ es0 n hn hl hle ht=>cases hj;exact qan hl hb (by simp)
 refine qbk R.length (fun i e' h=>∃O' N' w V,h=⟨O',N'⟩/\((i=0/\w= .Xu 1 []/\V=[])\/∃id,w= .row id 1 0 i/\look id O'=some (.row 1 (V.map fun x=>[x]))/\N<=id)/\RowsW O' N V (R.take i)/\Kp (fun j=>j=b) N O O'/\Tail O' N'/\N<=N'/\
   look b O'=some (.row 4 [[w,w2,.Xu 2 [],.Xu 1 []]])/\look 3 e'=some (.ptr b 4 0 0)/\look 18 e'=some v/\look 19 e'=some (.int .i64 R.length)/\look 20 e'=some (.int .i64 i)/\
   look 1 e'=look 1 e/\look 2 e'=look 2 e) Q ?_ ?_ 0 _ _ (Qc _) ?_
 ·rintro i e' _ L hi hL ⟨O',N',w,V,rfl,hw,hV,hk,hT',hN,hb',h3,h18,h19,h20,g1,g2⟩ ih;have hw1:=qao i (by omega);have hA:i<A.length:=by rw [hv.len];exact hi
  have hlen:=hV.len;have hVl:V.length=i:=by rw [hlen];simp;omega
  have hri:=hs _ (Qd hi);have hbN:b<N:=hT.lt hb;have hx:Re O' 5 A[i] (R[i].map Rw.c):=by
   have h0:=hv.at_ i _ _ (Qa hA) (Qa hi);refine h0.fr fun j hj=>?_
   obtain ⟨x,hl⟩:=h0.own hj;exact hk j (hT.lt hl) (hAb i _ j (Qa hA) hj)
  have hxl:=hx.len;have hxc:=hx.cells;have hv':Re O' 1 v (A.map fun x=>[x]):=by
   refine hv.v.fr fun j hj=>?_
   obtain ⟨x,hl⟩:=hv.v.own hj;exact hk j (hT.lt hl) (hvb j hj)
  have after:∀e1,look 1 e1=look 1 e->look 2 e1=look 2 e->look 3 e1=some (.ptr b 4 0 0)->look 18 e1=some v->look 19 e1=some (.int .i64 R.length)->look 20 e1=some (.int .i64 i)->
    ∀e2 O2 N2 w',Mu O2 5 w' (R[i].map Rw.c)->(∀j,vid w'=some j->N'<=j)->(∀z es t,w'≠ .app z es t)->Kp (fun _=>False) N' O' O2->Tail O2 N2->N'<=N2->look 6 e2=some w'->look 1 e2=look 1 e1->look 2 e2=look 2 e1->look 3 e2=look 3 e1->look 18 e2=look 18 e1->look 19 e2=look 19 e1->look 20 e2=look 20 e1->
    Q (go Φ fin (.c c_226_k1:: .b 1:: .c c_226_k2::L) .normal ⟨e2,⟨O2,N2⟩⟩):=by
   intro e1 f1 f2 f3 f18 f19 f20 e2 O2 N2 w' hmu hnew hna hk2 hT2 hN2 d6 d1 d2 d3 d18 d19 d20;rw [f1] at d1;rw [f2] at d2;rw [f3] at d3;rw [f18] at d18;rw [f19] at d19;rw [f20] at d20;have hb2:look b O2=some (.row 4 [[w,w2,.Xu 2 [],.Xu 1 []]]):=hk2.lk hT' hb' (by simp);have hmc:=hmu.cells;have t0:=hT2 N2 (Qb _);have t1:=hT2 (N2+1) (by omega);have hbN2:b<N2:=by omega
   have q0:¬N2=b:=by omega
   have q1:¬N2+1=b:=by omega
   have q2:¬b=N2:=by omega
   have q3:¬b=N2+1:=by omega
   have hkk:Kp (fun j=>j=b) N O O2:=hk.trans (hk2.mono fun _ _ h=>h.elim) hN;have h5:∀(j:Nat) (es0:List (List AV)),look j O'=some (.row 5 es0)->look j O2=some (.row 5 es0):=fun j es0 hj=>hk2.lk hT' hj (by simp)
   rcases hw with ⟨rfl,rfl,rfl⟩ | ⟨id,rfl,hlk,hid⟩
   ·simp [c_226_k1,c_226_k2,d3,d6,d20,t0,t1,qab,hb2,wr1,hmc,-AV.cells];refine ih _ _ ⟨_,_,.row (N2+1) 1 0 1,[w'],rfl,.inr ⟨N2+1,rfl,?_,by omega⟩,?_,?_,?_,by omega,?_,?_,?_,?_,?_,?_,?_⟩
    ·simp [qaa,q1,t1]
    ·rw [Qh hi];refine RowsW.snoc (V:=[]) hV hT' hN ?_ (hmu.fr ?_) hnew hna
     ·intro j es0 hj;have hj2:=h5 j es0 hj;have:=qan hj2 hb2 (by simp);simp [qaa,qab,this,hj2,hj]
     ·intro j hj;obtain ⟨es0,hj2⟩:=hmu.own hj;have:=qan hj2 hb2 (by simp);simp [qaa,qab,this,hj2]
    ·exact Kp.setl (Kp.appL hkk (by simp;omega)) (.inr rfl)
    ·exact qaj (by simp [Tail_append_iff,Tail_cons_iff,qbu];exact ⟨hT2.mono (by omega),by omega⟩)
    ·simp [qaa,qab,hb2]
    all_goals simp [*]
   ·have hl2:look id O2=some (.row 1 (V.map fun x=>[x])):=hk2.lk hT' hlk (by simp);have hbi:=qan hb2 hl2 (by simp);have hd1:look (N2+1) (qaw id (O2++[(N2,.row 1 [[w']])]))=none:=qdd _ (by simp [t1]);have hd2:look b (qaw id (O2++[(N2,.row 1 [[w']])]))=some (.row 4 [[.row id 1 0 i,w2,.Xu 2 [],.Xu 1 []]]):=by rw [qak hbi,qab,hb2];rfl
    have hc:(i+1)*24<=70368744177664:=by omega
    simp [c_226_k1,c_226_k2,d3,d6,d20,t0,qab,hb2,hw1,hl2,hVl,hd1,hd2,hc,hmc,-AV.cells];refine ih _ _ ⟨_,_,.row (N2+1) 1 0 (i+1),V++[w'],rfl,.inr ⟨N2+1,rfl,?_,by omega⟩,?_,?_,?_,by omega,?_,?_,?_,?_,?_,?_,?_⟩
    ·simp [qaa,q1,hd1]
    ·rw [Qh hi];refine RowsW.snoc hV hT' hN ?_ (hmu.fr ?_) hnew hna
     ·intro j es0 hj;have hj2:=h5 j es0 hj;have n1:=qan hj2 hb2 (by simp);have n2:=qan hj2 hl2 (by simp);simp [qaa,qab,qak n2,n1,hj2,hj]
     ·intro j hj;obtain ⟨es0,hj2⟩:=hmu.own hj;have n1:=qan hj2 hb2 (by simp);have n2:=qan hj2 hl2 (by simp);simp [qaa,qab,qak n2,n1,hj2]
    ·exact Kp.setl (Kp.appL (Kp.drop (Kp.appL hkk (by simp;omega)) (.inl hid)) (by simp;omega)) (.inr rfl)
    ·refine qaj ?_;rw [Tail_append_iff];exact ⟨qc7 (by simp [Tail_append_iff,Tail_cons_iff,qbu];exact ⟨hT2.mono (by omega),by omega⟩),by simp [Tail_cons_iff,qbu]⟩
    ·simp [qaa,qab,hd2]
    all_goals simp [*]
  cases hv' with
  | row id' _ es0 n hn hl' hle ht=>
   have h0:es0[i]? =some [A[i]]:=by
    have h:(es0.take (A.map fun x=>[x]).length)[i]? =(A.map fun x=>[x])[i]? :=by rw [ht]
    rw [List.getElem?_take_of_lt (by simpa using hA)] at h;rw [h];simp [hA]
   simp [c_226_l3,h18,h19,h20,hi,hA,hn,hl',h0,hxl,-lenOf];refine qsx R[i] hri.2 hri.1 A[i] _ _ _ O' N' hT' hx ?_ ?_ ?_ ?_ (after _ ?_ ?_ ?_ ?_ ?_ ?_)<;>simp [*]
  | _=>
   simp [c_226_l3,h18,h19,h20,hi,hA,hxl,-lenOf];refine qsx R[i] hri.2 hri.1 A[i] _ _ _ O' N' hT' hx ?_ ?_ ?_ ?_ (after _ ?_ ?_ ?_ ?_ ?_ ?_)<;>simp [*]
 ·rintro e' _ L hL ⟨O',N',w,V,rfl,hw,hV,hk,hT',hN,hb',h3,h18,h19,h20,g1,g2⟩;simp [c_226_l3,h19,h20,hL];rw [QAf] at hV;refine hK _ O' N' w V ?_ ?_ hV hk hT' hN hb' ?_ ?_ ?_
  ·rcases hw with ⟨hz,rfl,rfl⟩ | ⟨id,rfl,hlk,hid⟩
   ·exact .nilF
   ·exact .row id _ _ _ (by simp [hV.len]) hlk (Qb _) (by rw [QAf])
  ·rcases hw with ⟨hz,rfl,rfl⟩ | ⟨id,rfl,hlk,hid⟩
   ·intro j hj;cases hj
   ·intro j hj;cases hj;exact hid
  ·simp [g1]
  ·simp [g2]
  ·simp [*]
 ·exact ⟨O,N,.Xu 1 [],[],rfl,.inl ⟨rfl,rfl,rfl⟩,by simpa using RowsW.nil,fun _ _ _=>rfl,hT,Qb _,hb,h3,h18,h19,h20,rfl,rfl⟩
end
theorem qej {α:Type} {f:α->List AV} {l:List α} {i:Nat} {es0:List (List AV)} (hi:i<l.length) (ht:es0.take (l.map f).length=l.map f):es0[i]? =some (f l[i]):=by
 have h:(es0.take (l.map f).length)[i]? =(l.map f)[i]? :=by rw [ht]
 rw [List.getElem?_take_of_lt (by simpa using hi)] at h;rw [h];simp [hi]
def Im (z:Nat) (v:AV) (es:List (List AV)):Prop:=v= .slice z es\/v= .Xu z es\/∃t,v= .app z es t
theorem Im.len {z:Nat} {v:AV} {es:List (List AV)} (h:Im z v es):lenOf v=some es.length:=by
 rcases h with rfl | rfl | ⟨t,rfl⟩<;>rfl
section
variable {β:Type} {fin:Option (Ex×St)->Option β}
theorem qabn (D:List Xb) (hD:D.length<2^40) (hs:∀d∈D,d.args.length<2^40) (v w1 w2:AV) (b:Nat) (K:List Fr) (Q:Option β->Prop) (e:Env) (O:List (Nat×AO)) (N:Nat) (hT:Tail O N) (hv:Re O 2 v (D.map Xb.c))
  (hb:look b O=some (.row 4 [[w1,w2,.Xu 2 [],.Xu 1 []]])) (h3:look 3 e=some (.ptr b 4 0 0)) (h44:look 44 e=some v) (h45:look 45 e=some (.int .i64 D.length)) (h46:look 46 e=some (.int .i64 0))
  (hK:∀e' O' N' w,Mu O' 2 w (D.map Xb.c)->(∀j,vid w=some j->N<=j)->Kp (fun j=>j=b) N O O'->Tail O' N'->N<=N'->look b O'=some (.row 4 [[w1,w2,w,.Xu 1 []]])->
   look 1 e'=look 1 e->look 2 e'=look 2 e->look 3 e'=look 3 e->Q (go Φ fin K .normal ⟨e',⟨O',N'⟩⟩)):
  Q (go Φ fin (.c (.loop c_226_l4):: .b 4::K) .normal ⟨e,⟨O,N⟩⟩):=by
 have hvb:∀j,vid v=some j->j≠b:=by
  intro j hj;cases hv with
  | sl=>cases hj
  | fs=>cases hj
  | ap=>cases hj
  | row id _ es0 n hn hl hle ht=>cases hj;exact qan hl hb (by simp)
 refine qbk D.length (fun i e' h=>∃O' N' w,h=⟨O',N'⟩/\((i=0/\w= .Xu 2 [])\/∃id,w= .row id 2 0 i/\look id O'=some (.row 2 ((D.map Xb.c).take i))/\N<=id)/\Kp (fun j=>j=b) N O O'/\Tail O' N'/\N<=N'/\
   look b O'=some (.row 4 [[w1,w2,w,.Xu 1 []]])/\look 3 e'=some (.ptr b 4 0 0)/\look 44 e'=some v/\look 45 e'=some (.int .i64 D.length)/\look 46 e'=some (.int .i64 i)/\
   look 1 e'=look 1 e/\look 2 e'=look 2 e) Q ?_ ?_ 0 _ _ (Qc _) ?_
 ·rintro i e' _ L hi hL ⟨O',N',w,rfl,hw,hk,hT',hN,hb',h3,h44,h45,h46,g1,g2⟩ ih;have hw1:=qao i (by omega);have hbN:b<N:=hT.lt hb;have hc:=qi1 D[i] (hs _ (Qd hi));simp only [Xb.ce] at hc;have t0:=hT' N' (Qb _);have t1:=hT' (N'+1) (by omega);have q1:¬N'+1=b:=by omega
  have hm:min i D.length=i:=by omega
  have hbd:(i+1)*32<=70368744177664:=by omega
  have htk:(D.map Xb.c).take (i+1)=(D.map Xb.c).take i++[Xb.c D[i]]:=qa7 hi;rw [Xb.ce] at htk;have hv':Re O' 2 v (D.map Xb.c):=by
   refine hv.fr fun j hj=>?_
   obtain ⟨x,hl⟩:=hv.own hj;exact hk j (hT.lt hl) (hvb j hj)
  rcases hw with ⟨rfl,rfl⟩ | ⟨id,rfl,hlk,hid⟩
  ·have htk1:(D.map Xb.c).take 1=[[.int .i64 D[0].action,.slice 1 (D[0].args.map c32)]]:=by simpa using htk
   cases hv' with
   | row id' _ es0 n hn hl' hle ht=>
    have h0:=qej hi ht;simp [c_226_l4,Xb.ce,h3,h44,h45,h46,hi,hc,t0,t1,hn,hl',h0,wr1,qab,hb'];refine ih _ _ ⟨_,_,.row (N'+1) 2 0 (0+1),rfl,.inr ⟨N'+1,rfl,?_,by omega⟩,Kp.setl (Kp.app hk (by omega)) (.inr rfl),qaj (hT'.app1 (by omega)),by omega,?_,?_,?_,?_,?_,?_,?_⟩
    ·simp [qaa,q1,t1,htk1]
    ·simp [qaa,qab,hb']
    all_goals simp [*]
   | _=>
    simp [c_226_l4,Xb.ce,h3,h44,h45,h46,hi,hc,t0,t1,wr1,qab,hb'];refine ih _ _ ⟨_,_,.row (N'+1) 2 0 (0+1),rfl,.inr ⟨N'+1,rfl,?_,by omega⟩,Kp.setl (Kp.app hk (by omega)) (.inr rfl),qaj (hT'.app1 (by omega)),by omega,?_,?_,?_,?_,?_,?_,?_⟩
    ·simp [qaa,q1,t1,htk1]
    ·simp [qaa,qab,hb']
    all_goals simp [*]
  ·have hbi:=qan hb' hlk (by simp);have hd1:look (N'+1) (qaw id O')=none:=qdd _ t1;have hd2:look b (qaw id O')=some (.row 4 [[w1,w2,.row id 2 0 i,.Xu 1 []]]):=by rw [qak hbi,hb']
   cases hv' with
   | row id' _ es0 n hn hl' hle ht=>
    have h0:=qej hi ht;simp [c_226_l4,Xb.ce,h3,h44,h45,h46,hi,hc,t0,hn,hl',h0,hw1,qab,hb',hlk,hm,hbd,hd1,hd2];refine ih _ _ ⟨_,_,.row (N'+1) 2 0 (i+1),rfl,.inr ⟨N'+1,rfl,?_,by omega⟩,Kp.setl (Kp.app (Kp.drop hk (.inl hid)) (by omega)) (.inr rfl),qaj ((qc7 hT').app1 (by omega)),by omega,?_,?_,?_,?_,?_,?_,?_⟩
    ·simp [qaa,q1,hd1,htk]
    ·simp [qaa,qab,hd2]
    all_goals simp [*]
   | _=>
    simp [c_226_l4,Xb.ce,h3,h44,h45,h46,hi,hc,t0,hw1,qab,hb',hlk,hm,hbd,hd1,hd2];refine ih _ _ ⟨_,_,.row (N'+1) 2 0 (i+1),rfl,.inr ⟨N'+1,rfl,?_,by omega⟩,Kp.setl (Kp.app (Kp.drop hk (.inl hid)) (by omega)) (.inr rfl),qaj ((qc7 hT').app1 (by omega)),by omega,?_,?_,?_,?_,?_,?_,?_⟩
    ·simp [qaa,q1,hd1,htk]
    ·simp [qaa,qab,hd2]
    all_goals simp [*]
 ·rintro e' _ L hL ⟨O',N',w,rfl,hw,hk,hT',hN,hb',h3,h44,h45,h46,g1,g2⟩;simp [c_226_l4,h45,h46,hL];refine hK _ O' N' w ?_ ?_ hk hT' hN hb' ?_ ?_ ?_
  ·rcases hw with ⟨hz,rfl⟩ | ⟨id,rfl,hlk,hid⟩
   ·have:D=[]:=Qg hz;subst this;exact .nilF
   ·rw [Qo (by simp)] at hlk;exact .row id _ _ _ (by simp) hlk (Qb _) (by rw [QAf])
  ·rcases hw with ⟨hz,rfl⟩ | ⟨id,rfl,hlk,hid⟩
   ·intro j hj;cases hj
   ·intro j hj;cases hj;exact hid
  ·simp [g1]
  ·simp [g2]
  ·simp [*]
 ·exact ⟨O,N,.Xu 2 [],rfl,.inl ⟨rfl,rfl⟩,fun _ _ _=>rfl,hT,Qb _,hb,h3,h44,h45,h46,rfl,rfl⟩
theorem qabo (G:List (List Int)) (hG:G.length<2^40) (hs:∀l∈G,l.length<2^40) (v w1 w2 w3:AV) (b:Nat) (K:List Fr) (Q:Option β->Prop) (e:Env) (O:List (Nat×AO)) (N:Nat) (hT:Tail O N) (hv:Im 1 v (G.map (cS 1 c32)))
  (hb:look b O=some (.row 4 [[w1,w2,w3,.Xu 1 []]])) (h3:look 3 e=some (.ptr b 4 0 0)) (h59:look 59 e=some v) (h60:look 60 e=some (.int .i64 G.length)) (h61:look 61 e=some (.int .i64 0))
  (hK:∀e' O' N' w,(w= .Xu 1 (G.map (cS 1 c32))\/∃t,w= .app 1 (G.map (cS 1 c32)) t)->Kp (fun j=>j=b) N O O'->Tail O' N'->N<=N'->look b O'=some (.row 4 [[w1,w2,w3,w]])->
   look 1 e'=look 1 e->look 2 e'=look 2 e->look 3 e'=look 3 e->Q (go Φ fin K .normal ⟨e',⟨O',N'⟩⟩)):
  Q (go Φ fin (.c (.loop c_226_l5):: .b 6::K) .normal ⟨e,⟨O,N⟩⟩):=by
 refine qbk G.length (fun i e' h=>∃O' N' w,h=⟨O',N'⟩/\((i=0/\w= .Xu 1 [])\/∃id,w= .app 1 ((G.map (cS 1 c32)).take i) id/\look id O'=some (.tok 1 i)/\N<=id)/\Kp (fun j=>j=b) N O O'/\Tail O' N'/\N<=N'/\
   look b O'=some (.row 4 [[w1,w2,w3,w]])/\look 3 e'=some (.ptr b 4 0 0)/\look 59 e'=some v/\look 60 e'=some (.int .i64 G.length)/\look 61 e'=some (.int .i64 i)/\
   look 1 e'=look 1 e/\look 2 e'=look 2 e) Q ?_ ?_ 0 _ _ (Qc _) ?_
 ·rintro i e' _ L hi hL ⟨O',N',w,rfl,hw,hk,hT',hN,hb',h3,h59,h60,h61,g1,g2⟩ ih;have hw1:=qao i (by omega);have hbN:b<N:=hT.lt hb;have hc:=qio G[i] (hs _ (Qd hi));have t0:=hT' N' (Qb _);have q0:¬N'=b:=by omega
  have q1:¬b=N':=by omega
  have hm:min i G.length=i:=by omega
  have hbd:(i+1)*24<=70368744177664:=by omega
  have htk:(G.map (cS 1 c32)).take (i+1)=(G.map (cS 1 c32)).take i++[cS 1 c32 G[i]]:=qa7 hi;rw [cSe] at htk;rcases hw with ⟨rfl,rfl⟩ | ⟨id,rfl,hlk,hid⟩
  ·have htk1:(G.map (cS 1 c32)).take 1=[[.slice 1 (G[0].map c32)]]:=by simpa using htk
   rcases hv with rfl | rfl | ⟨t,rfl⟩
   all_goals
    simp [c_226_l5,cSe,h3,h59,h60,h61,hi,hc,t0,wr1,qab,hb'];refine ih _ _ ⟨_,_,.app 1 [[.slice 1 (G[0].map c32)]] N',rfl,.inr ⟨N',by rw [htk1],?_,by omega⟩,Kp.setl (Kp.app hk (by omega)) (.inr rfl),qaj (hT'.app1 (by omega)),by omega,?_,?_,?_,?_,?_,?_,?_⟩
    ·simp [qaa,q0,t0]
    ·simp [qaa,qab,hb']
    all_goals simp [*]
  ·have hbi:=qan hb' hlk (by simp);have hib:¬id=b:=fun h=>hbi h.symm
   rcases hv with rfl | rfl | ⟨t,rfl⟩
   all_goals
    simp [c_226_l5,cSe,h3,h59,h60,h61,hi,hc,hw1,qaa,hb',hbi,hlk,hm,hbd];refine ih _ _ ⟨_,_,.app 1 ((G.map (cS 1 c32)).take i++[[.slice 1 (G[i].map c32)]]) id,rfl,.inr ⟨id,by rw [htk],?_,hid⟩,Kp.setl (Kp.setl hk (.inl hid)) (.inr rfl),qaj (qaj hT'),by omega,?_,?_,?_,?_,?_,?_,?_⟩
    ·simp [qaa,hlk,hib]
    ·simp [qaa,hbi,hb']
    all_goals simp [*]
 ·rintro e' _ L hL ⟨O',N',w,rfl,hw,hk,hT',hN,hb',h3,h59,h60,h61,g1,g2⟩;simp [c_226_l5,h60,h61,hL];refine hK _ O' N' w ?_ hk hT' hN hb' ?_ ?_ ?_
  ·rcases hw with ⟨hz,rfl⟩ | ⟨id,rfl,hlk,hid⟩
   ·have:G=[]:=Qg hz;subst this;exact .inl rfl
   ·right;exact ⟨id,by rw [Qo (by simp)]⟩
  ·simp [g1]
  ·simp [g2]
  ·simp [*]
 ·exact ⟨O,N,.Xu 1 [],rfl,.inl ⟨rfl,rfl⟩,fun _ _ _=>rfl,hT,Qb _,hb,h3,h59,h60,h61,rfl,rfl⟩
end
end Go.Av
