/-
  Lemmas for the law.
-/
import Derived.Test.YtjdbnnnakpacjaaGreatL11
set_option linter.unusedVariables false
set_option linter.unusedSimpArgs false
namespace Go.Av
set_option maxRecDepth 4000
def kG {α:Type} [DecidableEq α] (l m:List α) (i:Nat):Bool:=decide (l.drop i=m.drop i)
variable {α:Type}
theorem HE [DecidableEq α] {l m:List α} {i:Nat} (h1:i<l.length) (h2:i<m.length) (h:l[i]=m[i]):kG l m i=kG l m (i+1):=by
 unfold kG;rw [decide_eq_decide,qoh h1 h2];simp [h]
theorem HH [DecidableEq α] {l m:List α} {i:Nat} (h1:i<l.length) (h2:i<m.length) (h:l[i]≠m[i]):kG l m i=false:=by
 unfold kG;rw [decide_eq_false_iff_not,qoh h1 h2];simp [h]
theorem HD [DecidableEq α] {l m:List α} (h:l.length=m.length):kG l m l.length=true:=by
 simp [kG,h]
theorem qyq (k1 k2:List Xi) (p1 p2:Int) (r1 r2:List AV) (hb:k1.length<2^40):
   a9 Φ vA [.agg (.slice 2 (k1.map Xi.c):: a8 p1::r1),.agg (.slice 2 (k2.map Xi.c):: a8 p2::r2)]=some (.val (.bool (decide (k1=k2/\p1=p2)))):=by
  rw [aA rfl rfl];by_cases q1:k1.length=k2.length
  rotate_left
  · have:k1≠k2:=fun h=>q1 (by rw [h])
    simp [uC,q1,this]
  by_cases q2:p1=p2
  rotate_left
  · simp [uC,q1,q2]
  subst q2;simp [uC,q1];refine (fJ k1.length (fun i e=>look 2 e=some (AV.ptr 0 (r1.length+1+1) 0 0)/\look 3 e=some (AV.ptr 1 (r2.length+1+1) 0 0)/\look 5 e=some (a8 i))
    (fun i=>some (Rt.val (AV.bool (kG k1 k2 i)))) ?_ ?_ 0 _ (Qc _) ?_).trans (by simp [kG])
  · rintro i e L hi hL ⟨h2,h3,h5⟩ ih
    have hi2:i<k2.length:=by omega
    have hw:=aL i (by omega);by_cases c:k1[i]=k2[i]
    · rw [HE hi hi2 c]
      simp [c_151_l0,Xi.c,hi,hi2,h2,h3,h5,hw,c];exact ih _ ⟨by simp [h2],by simp [h3],by simp⟩
    · rw [HH hi hi2 c]
      have c':(decide (k1[i].value=k2[i].value)&&decide (k1[i].Ye=k2[i].Ye))=false:=by
        simp [Xi.ext_iff] at c ⊢;exact c
      simp [c_151_l0,Xi.c,hi,hi2,h2,h3,h5,c']
  · rintro e L hL ⟨h2,h3,h5⟩
    rw [HD q1];simp [c_151_l0,c_151_k1, *]
  · simp
theorem Ed (l m:List Int) (hb:l.length<2^40):a9 Φ CC [.slice 1 (l.map c32),.slice 1 (m.map c32)]=some (.val (.bool (decide (l=m)))):=by
 rw [aA rfl rfl];by_cases q1:l.length=m.length
 rotate_left
 ·have:l≠m:=fun h=>q1 (by rw [h])
  simp [AN,q1,this]
 simp [AN,q1];refine (fJ l.length (fun i e=>look 1 e=some (.slice 1 (m.map c32))/\look 12 e=some (.slice 1 (l.map c32))/\look 13 e=some (a8 m.length)/\look 14 e=some (a8 i))
  (fun i=>some (Rt.val (AV.bool (kG l m i)))) ?_ ?_ 0 _ (Qc _) ?_).trans (by simp [kG])
 ·rintro i e L hi hL ⟨h1,h12,h13,h14⟩ ih;have hi2:i<m.length:=by omega
  have hw:=aL i (by omega);by_cases c:l[i]=m[i]
  ·rw [HE hi hi2 c];simp [c_165_l0,c32,hi,hi2,h1,h12,h13,h14,hw,c];exact ih _ ⟨by simp [h1],by simp [h12],by simp [h13],by simp⟩
  ·rw [HH hi hi2 c];simp [c_165_l0,c32,hi,hi2,h1,h12,h13,h14,c]
 ·rintro e L hL ⟨h1,h12,h13,h14⟩;rw [HD q1];simp [c_165_l0,c_165_k1, *]
 ·simp
theorem qoi (k1 k2:List Xi) (p1 p2:Int) (r1 r2:List AV) (hb:k1.length<2^40):
   a9 Φ nM [.agg (.slice 2 (k1.map Xi.c):: a8 p1::r1),.agg (.slice 2 (k2.map Xi.c):: a8 p2::r2)]=some (.val (.bool (decide (k1=k2/\p1=p2)))):=by
  rw [aA rfl rfl];by_cases q2:p1=p2
  rotate_left
  · simp [uF,q2]
  by_cases q1:k1.length=k2.length
  rotate_left
  · have:k1≠k2:=fun h=>q1 (by rw [h])
    simp [uF,q1,this,q2]
  subst q2;simp [uF,q1];refine (tC k1.length (fun i e h=>look 2 e=some (AV.ptr 0 (r1.length+1+1) 0 0)/\look 3 e=some (AV.ptr 1 (r2.length+1+1) 0 0)/\look 22 e=some (.slice 2 (k1.map Xi.c))/\look 23 e=some (a8 k2.length)/\look 24 e=some (a8 i)/\
      HP [(0,AO.row (r1.length+1+1) [.slice 2 (k1.map Xi.c):: a8 p1::r1]),(1,AO.row (r2.length+1+1) [.slice 2 (k2.map Xi.c):: a8 p1::r2])] 2 h)
    (fun i=>some (Rt.val (AV.bool (kG k1 k2 i)))) ?_ ?_ 0 _ _ (Qc _) ?_).trans (by simp [kG])
  · rintro i e _ L hi hL ⟨h2,h3,h22,h23,h24,T,n,hT,rfl⟩ ih
    have hi2:i<k2.length:=by omega
    have hw:=aL i (by omega);have hT':=hT (n+2) (Qb _);by_cases c:k1[i]=k2[i]
    · rw [HE hi hi2 c]
      simp [c_162_l0,Xi.c,hi,hi2,h3,h22,h23,h24,hw,c,hT'];exact ih _ _ ⟨by simp [h2],by simp [h3],by simp [h22],by simp [h23],by simp,HP.next hT⟩
    · rw [HH hi hi2 c]
      have c':(decide (k1[i].value=k2[i].value)&&decide (k1[i].Ye=k2[i].Ye))=false:=by
        simp [Xi.ext_iff] at c ⊢;exact c
      simp [c_162_l0,Xi.c,hi,hi2,h3,h22,h23,h24,c',hT']
  · rintro e _ L hL ⟨h2,h3,h22,h23,h24,T,n,hT,rfl⟩
    rw [HD q1];simp [c_162_l0,c_162_k1, *]
  · simp
    exact HP.mk
theorem Entry.eq_iff (x y:Entry):x=y↔x.keys=y.keys/\x.Xt=y.Xt/\x.call.Xz=y.call.Xz/\x.call.args=y.call.args:=by
 constructor
 ·rintro rfl;simp
 ·rintro ⟨a,b,c,d⟩;obtain ⟨k,p,u,v⟩:=x;obtain ⟨k',p',u',v'⟩:=y;simp only at a b c d;subst a b c d;rfl
def Entry.sm (x:Entry):Prop:=x.keys.length<2^40/\x.call.args.length<2^40
theorem Az (x y:Entry) (hb:x.sm):a9 Φ O8 [.agg (Entry.c x),.agg (Entry.c y)]=some (.val (.bool (decide (x=y)))):=by
 rw [aA rfl rfl];have hk:=qoi x.keys y.keys x.Xt y.Xt [a8 x.call.Xz,.slice 1 (x.call.args.map c32)] [a8 y.call.Xz,.slice 1 (y.call.args.map c32)] hb.1;have ha:=Ed x.call.args y.call.args hb.2;rw [decide_eq_decide.2 (Entry.eq_iff x y)];by_cases q1:x.keys=y.keys/\x.Xt=y.Xt
 ·rw [decide_eq_true q1] at hk;by_cases q3:x.call.Xz=y.call.Xz
  ·have e:decide (x.keys=y.keys/\x.Xt=y.Xt/\x.call.Xz=y.call.Xz/\x.call.args=y.call.args)=decide (x.call.args=y.call.args):=by simp [q1,q3]
   simp only [e];rw [q3] at hk;simp [GM,Entry.c,hk,ha,q3]
  ·have e:decide (x.keys=y.keys/\x.Xt=y.Xt/\x.call.Xz=y.call.Xz/\x.call.args=y.call.args)=false:=by simp [q1,q3]
   simp only [e];simp [GM,Entry.c,hk,q3]
 ·have q2:¬(x.keys=y.keys/\x.Xt=y.Xt/\x.call.Xz=y.call.Xz/\x.call.args=y.call.args):=fun h=>q1 ⟨h.1,h.2.1⟩
  have q1':decide (x.keys=y.keys/\x.Xt=y.Xt)=false:=decide_eq_false q1;rw [q1'] at hk;have e:decide (x.keys=y.keys/\x.Xt=y.Xt/\x.call.Xz=y.call.Xz/\x.call.args=y.call.args)=false:=decide_eq_false q2;rw [e];simp [GM,Entry.c,hk]
theorem Rw.ce (x:Rw):Rw.c x=[a8 x.id,.slice 2 (x.entry.keys.map Xi.c),a8 x.entry.Xt,a8 x.entry.call.Xz,.slice 1 (x.entry.call.args.map c32)]:=by simp [Rw.c]
theorem cSe (z:Nat) (f:α->List AV) (l:List α):cS z f l=[.slice z (l.map f)]:=by simp [cS]
theorem Xb.ce (x:Xb):Xb.c x=[a8 x.Xz,.slice 1 (x.args.map c32)]:=by simp [Xb.c]
theorem Entry.ce (x:Entry):Entry.c x=[.slice 2 (x.keys.map Xi.c),a8 x.Xt,a8 x.call.Xz,.slice 1 (x.call.args.map c32)]:=by simp [Entry.c]
theorem Xf.ce (x:Xf):Xf.c x=[.slice 1 (x.rows.map (cS 5 Rw.c)),.slice 1 (x.Xr.map cI),.slice 2 (x.Xq.map Xb.c),.slice 1 (x.Xm.map (cS 1 c32))]:=by simp [Xf.c]
theorem cIe (x:Int):cI x=[a8 x]:=by simp [cI]
theorem c32e (x:Int):c32 x=[.int .u32 x]:=by simp [c32]
theorem Rw.eq_iff (x y:Rw):x=y↔x.id=y.id/\x.entry=y.entry:=by
 constructor
 ·rintro rfl;simp
 ·rintro ⟨a,b⟩;obtain ⟨u,v⟩:=x;obtain ⟨u',v'⟩:=y;simp only at a b;subst a b;rfl
theorem Xb.eq_iff (x y:Xb):x=y↔x.Xz=y.Xz/\x.args=y.args:=by
 constructor
 ·rintro rfl;simp
 ·rintro ⟨a,b⟩;obtain ⟨u,v⟩:=x;obtain ⟨u',v'⟩:=y;simp only at a b;subst a b;rfl
structure CfgS (a:Xf):Prop where
 rl:a.rows.length<2^40
 rs:∀l∈a.rows,l.length<2^40/\∀r∈l,r.entry.sm
 nl:a.Xr.length<2^40
 dl:a.Xq.length<2^40
 ds:∀d∈a.Xq,d.args.length<2^40
 gl:a.Xm.length<2^40
 gs:∀l∈a.Xm,l.length<2^40
theorem Xf.eq_iff (a b:Xf):a=b↔a.rows=b.rows/\a.Xr=b.Xr/\a.Xq=b.Xq/\a.Xm=b.Xm:=by
 constructor
 ·rintro rfl;simp
 ·rintro ⟨h1,h2,h3,h4⟩;obtain ⟨x,y,z,u⟩:=a;obtain ⟨x',y',z',u'⟩:=b;simp only at h1 h2 h3 h4;subst h1 h2 h3 h4;rfl
theorem Action.ce (x:Action):Action.c x=[.str x.name,.slice 2 (x.params.map Fld.c),.slice 7 (x.body.map Xg.c)]:=by simp [Action.c]
theorem Xj.ce (x:Xj):Xj.c x=[.str x.name,.slice 2 (x.Ya.map Fld.c)]:=by simp [Xj.c]
theorem Xh.ce (x:Xh):Xh.c x=[.str x.name,a8 x.Yd,a8 x.size]:=by simp [Xh.c]
theorem Xg.ce (x:Xg):Xg.c x=[a8 x.kind,a8 x.dst.header,a8 x.dst.field,a8 x.Yf,a8 x.header,.slice 3 (x.index.map Xe.c),.slice 3 (x.value.map Xe.c)]:=by simp [Xg.c]
theorem Tbl.ce (x:Tbl):Tbl.c x=[.str x.name,.slice 3 (x.keys.map Xl.c),.slice 1 (x.Xy.map cI),a8 x.Yc.Xz,.slice 1 (x.Yc.args.map c32),a8 x.size]:=by simp [Tbl.c]
theorem Xd.ce (x:Xd):Xd.c x=[.str x.name,.slice 1 (x.extract.map cI),.bool x.select,a8 x.on.header,a8 x.on.field,.slice 3 (x.cases.map Xk.c),a8 x.Yc]:=by simp [Xd.c]
theorem Xa.ce (k t:Int) (c:List Xe) (a b:List Xa):Xa.c (.mk k t c a b)=[a8 k,a8 t,.slice 3 (c.map Xe.c),.slice 5 (a.map Xa.c),.slice 5 (b.map Xa.c)]:=by simp [Xa.c,Xa.cs_eq]
theorem Prg.ce (x:Prg):Prg.c x=[.str x.name,.slice 2 (x.Xp.map Xj.c),.slice 2 (x.Xo.map Fld.c),.slice 3 (x.Xm.map Xh.c),.slice 3 (x.Xy.map Action.c),.slice 6 (x.Xn.map Tbl.c),.slice 7 (x.Xx.map Xd.c),.slice 5 (x.Yb.map Xa.c),.slice 1 (x.Xs.map cI)]:=by simp [Prg.c]
def hp0 (p:Prg):AH:=⟨[(0,.row 9 [(mN p [])])],1⟩
structure PrgB (p:Prg):Prop where
 h:p.Xp.length<2^40
 r:p.Xm.length<2^40
 a:p.Xy.length<2^40
 b:∀x∈p.Xy,x.body.length<2^40
 t:p.Xn.length<2^40
 s:p.Xx.length<2^40
 c:p.Yb.length<2^40
 co:∀x∈p.Yb,Xa.Ok fL x
def hp1 (p:Prg) (c:Xf):AH:=⟨[(0,.row 9 [(mN p [])]),(1,.row 4 [[.slice 1 (c.rows.map (cS 5 Rw.c)),.slice 1 (c.Xr.map cI),.slice 2 (c.Xq.map Xb.c),.slice 1 (c.Xm.map (cS 1 c32))]])],2⟩
def tOk (p:Prg) (t:Int):Bool:=decide ((tblE p t).2=0)
theorem keyV {p:Prg} {x:Tbl} (h:keyE p x=none):∀k∈x.keys,k.kind=1\/k.kind=2\/k.kind=3:=by
 intro k hk;obtain ⟨i,hi,rfl⟩:=WP hk;have:=(fe_all.1 h) i hi;simp [hi] at this;split at this
 ·cases this
 ·split at this
  ·assumption
  ·cases this
structure TOk (p:Prg) (k:Nat) (hk:k<p.Xn.length):Prop where
 keys:p.Xn[k].keys.length<=6
 acts:p.Xn[k].Xy.length<=16
 kinds:∀x∈p.Xn[k].keys,x.kind=1\/x.kind=2\/x.kind=3
 size:1<=p.Xn[k].size/\p.Xn[k].size<=256
variable {t:Int}
theorem I5 {p:Prg} (h:tOk p t=true):∃(k:Nat) (hk:k<p.Xn.length),t=k/\TOk p k hk:=by
 simp only [tOk,decide_eq_true_eq] at h;by_cases i0:t<0
 ·simp [tblE,iI i0] at h
 by_cases i1:(p.Xn.length:Int)<=t
 ·simp [tblE,iH i1] at h
 obtain ⟨k,rfl⟩:∃k:Nat,t=k:=⟨t.toNat,by omega⟩;have hk:k<p.Xn.length:=by omega
 refine ⟨k,hk,rfl,?_⟩;unfold tblE at h;rw [P2,Qa hk] at h;dsimp only at h;by_cases z0:idS p.Xn[k].name=false
 ·rw [aB z0] at h;cases h
 rw [QA z0] at h;by_cases z1:6<p.Xn[k].keys.length\/16<p.Xn[k].Xy.length
 ·rw [aB z1] at h;cases h
 rw [QA z1] at h;by_cases z2:p.Xn[k].size<1\/256<p.Xn[k].size
 ·rw [aB z2] at h;cases h
 rw [QA z2] at h;by_cases z3:(wU p p.Xn[k]).2≠0
 ·rw [aB z3] at h;exact absurd h z3
 refine ⟨by omega,by omega,?_,by omega⟩;unfold wU at z3;cases q:keyE p p.Xn[k] with
 | none=>exact keyV q
 | some e=>
  exfalso;rw [q] at z3;dsimp only at z3;obtain ⟨i,hi,hx⟩:=zN q;simp only [Qt] at hx;obtain ⟨y,_,hy⟩:=hx;split at hy
  ·cases hy;exact z3 (by simp)
  ·split at hy
   ·cases hy
   ·cases hy;exact z3 (by simp)
variable (p:Prg)
theorem Ue (f:PrgS p) (t:Int):a9 Φ w6 [.agg (Prg.c p),a8 t]=some (.val (.bool (tOk p t))):=by
 rw [aA rfl rfl];have h:=Vq p f t;simp only [Prg.e] at h;simp [KU,Prg.e,h,tOk]
theorem Tj (f:PrgS p) (hv:∀t∈p.Xn,∀v∈t.Yc.args,ok32 0 v) (t:Int):a9 Φ wK [.agg (Prg.c p),a8 t]=some (.val (.bool (tOk p t))):=by
 rw [aA rfl rfl];have h:=Va p f hv t;simp only [Prg.e] at h;simp [LG,Prg.e,h,tOk]
def kMax:List Xl->Int->Int
 | [],a=>a
 | k::r,a=>kMax r (max a k.kind)
def EW (p:Prg) (t:Int):Int:=if tOk p t then (match at? p.Xn t with
 | some x=>kMax x.keys 1
 | none=>0) else 0
theorem TG:∀(l:List Xl) (a:Int),a=3->(∀x∈l,x.kind=1\/x.kind=2\/x.kind=3)->kMax l a=3
 | [],a,h,_=>h
 | k::r,a,h,hk=>by
  subst h;have:=hk k (by simp);simp only [kMax];exact TG r _ (by omega) fun x hx=>hk x (by simp [hx])
theorem Gd (f:PrgS p) (t:Int):a9 Φ D1 [.agg (Prg.c p),a8 t]=some (.val (a8 (EW p t))):=by
 rw [aA rfl rfl];have h:=Ue p f t;simp only [Prg.e] at h;cases q:tOk p t with
 | false=>
  rw [q] at h;simp [B1,Prg.e,h,EW,q]
 | true=>
 rw [q] at h;obtain ⟨k,hk,rfl,o⟩:=I5 q;have hK:EW p (k:Int)=kMax p.Xn[k].keys 1:=by simp [EW,q,hk]
 rw [hK];have hb:=o.keys;simp [B1,Prg.e,h,hk,Tbl.e];refine dK p.Xn[k].keys.length (fun _=>[]) 0 (fun i e=>look 17 e=some (.slice 3 (p.Xn[k].keys.map Xl.c))/\look 18 e=some (a8 p.Xn[k].keys.length)/\look 19 e=some (a8 i)/\∃a:Int,look 5 e=some (a8 a)/\(a=1\/a=2)/\kMax (p.Xn[k].keys.drop i) a=kMax p.Xn[k].keys 1)
  (fun _=>some (Rt.val (a8 (kMax p.Xn[k].keys 1)))) ?_ ?_ 0 _ 0 (Qc _) (Qb _) ?_
 ·rintro i e n L hi hL _ ⟨h17,h18,h19,a,h5,ha,hm⟩ ih;have hw:=aL i (by omega);rw [Qi hi] at hm;simp only [kMax] at hm;have hkk:=o.kinds _ (Qd hi);by_cases k3:p.Xn[k].keys[i].kind=3
  ·have:kMax p.Xn[k].keys 1=3:=by
    rw [<- hm];exact TG _ _ (by omega) fun x hx=>o.kinds x (A4 hx)
   rw [this];simp [c_222_l0,Xl.e,h17,h18,h19,hi,k3]
  by_cases k2:p.Xn[k].keys[i].kind=2
  ·simp [c_222_l0,Xl.e,h17,h18,h19,hi,k2,hw];exact ih _ _ (Qc _) ⟨by simp [h17],by simp [h18],by simp,2,by simp,.inr rfl,by rw [<- hm];congr 1;omega⟩
  ·simp [c_222_l0,Xl.e,h17,h18,h19,hi,k3,k2,hw];exact ih _ _ (Qc _) ⟨by simp [h17],by simp [h18],by simp,a,by simp [h5],ha,by rw [<- hm];congr 1;omega⟩
 ·rintro e n L hL _ ⟨h17,h18,h19,a,h5,ha,hm⟩;rw [QC] at hm;simp only [kMax] at hm;rw [<- hm];simp [c_222_l0,c_222_k1,h5,h18,h19,hL]
 ·simp
theorem Fz (f:PrgS p) (hv:∀t∈p.Xn,∀v∈t.Yc.args,ok32 0 v) (t:Int):a9 Φ E6 [.agg (Prg.c p),a8 t]=some (.val (a8 (EW p t))):=by
 rw [aA rfl rfl];have h:=Tj p f hv t;simp only [Prg.e] at h;cases q:tOk p t with
 | false=>
  rw [q] at h;simp [BF,Prg.e,h,EW,q]
 | true=>
 rw [q] at h;obtain ⟨k,hk,rfl,o⟩:=I5 q;have hK:EW p (k:Int)=kMax p.Xn[k].keys 1:=by simp [EW,q,hk]
 rw [hK];have hb:=o.keys;simp [BF,Prg.e,h];refine dK p.Xn[k].keys.length (fun _=>[]) 0 (fun i e=>look 2 e=some (.iptr 9 [Prg.c p] 0 0)/\look 1 e=some (a8 k)/\look 6 e=some (a8 i)/\∃a:Int,look 5 e=some (a8 a)/\kMax (p.Xn[k].keys.drop i) a=kMax p.Xn[k].keys 1)
  (fun _=>some (Rt.val (a8 (kMax p.Xn[k].keys 1)))) ?_ ?_ 0 _ 0 (Qc _) (Qb _) ?_
 ·rintro i e n L hi hL _ ⟨h2,h1,h6,a,h5,hm⟩ ih;have hw:=aL i (by omega);rw [Qi hi] at hm;simp only [kMax] at hm;rw [Prg.e] at h2;simp [c_307_l0,Xl.e,Tbl.e,h1,h2,h5,h6,hk,hi,hw];exact ih _ _ (Qc _) ⟨by simp [h2,Prg.e],by simp [h1],by simp,max a p.Xn[k].keys[i].kind,by simp;split<;>omega,hm⟩
 ·rintro e n L hL _ ⟨h2,h1,h6,a,h5,hm⟩;rw [QC] at hm;simp only [kMax] at hm;rw [Prg.e] at h2;rw [<- hm];simp [c_307_l0,c_307_k1,Tbl.e,h1,h2,h5,h6,hk,hL]
 ·simp [Prg.e]
theorem ZF (f:PrgS p) (k:Nat) (hk:k<p.Xn.length) (q:tOk p k=true):a9 Φ vO [.agg (Prg.c p),a8 k]=some (.val (.slice 1 ((kWid p p.Xn[k]).map cI))):=by
 rw [aA rfl rfl];have h:=Ue p f k;rw [q] at h;simp only [Prg.e] at h;obtain ⟨k',hk',e,o⟩:=I5 q;obtain rfl:k=k':=by omega
 have hb:=o.keys;have e0:(kWid p p.Xn[k]).map cI=p.Xn[k].keys.map fun y=>[a8 (wid p y.field.header y.field.field)]:=by simp [kWid,cI]
 rw [e0];simp [KB,Prg.e,h,hk,Tbl.e];refine (dK p.Xn[k].keys.length (fun i=>[(0,.tok 1 i)]) 1 (fun i e=>look 2 e=some (.iptr 9 [Prg.c p] 0 0)/\look 5 e=some (.app 1 ((p.Xn[k].keys.map fun y=>[a8 (wid p y.field.header y.field.field)]).take i) 0)/\look 17 e=some (.slice 3 (p.Xn[k].keys.map Xl.c))/\look 18 e=some (a8 p.Xn[k].keys.length)/\look 19 e=some (a8 i))
  (fun _=>some (Rt.val (.slice 1 (p.Xn[k].keys.map fun y=>[a8 (wid p y.field.header y.field.field)])))) ?_ ?_ 0 _ 1 (Qc _) (Qb _) ?_).trans (by simp)
 ·rintro i e n L hi hL hn ⟨h2,h5,h17,h18,h19⟩ ih;have hw:=aL i (by omega);have hv:=YO p p.Xn[k].keys[i].field.header p.Xn[k].keys[i].field.field;simp only [Prg.e] at hv;rw [Prg.e] at h2;have hn0:¬(0=n):=by omega
  have hn1:¬(n=0):=by omega
  have hm:min i p.Xn[k].keys.length=i:=by omega
  have hb:(i+1)*8<=70368744177664:=by omega
  simp [c_220_l0,Xl.e,h2,h5,h17,h18,h19,hi,hw,hn0,hm,hb,hv];exact ih _ _ (by omega) ⟨by simp [h2,Prg.e],by simp [jS hi],by simp [h17],by simp [h18],by simp⟩
 ·rintro e n L hL hn ⟨h2,h5,h17,h18,h19⟩;simp [c_220_l0,c_220_k1,h5,h18,h19,hL]
 ·simp [Prg.e]
theorem ZW (f:PrgS p) (hv:∀t∈p.Xn,∀v∈t.Yc.args,ok32 0 v) (k:Nat) (hk:k<p.Xn.length) (q:tOk p k=true):a9 Φ wJ [.agg (Prg.c p),a8 k]=some (.val (.slice 1 ((kWid p p.Xn[k]).map cI))):=by
 rw [aA rfl rfl];have h:=Tj p f hv k;rw [q] at h;simp only [Prg.e] at h;obtain ⟨k',hk',e,o⟩:=I5 q;obtain rfl:k=k':=by omega
 have hb:=o.keys;have e0:(kWid p p.Xn[k]).map cI=p.Xn[k].keys.map fun y=>[a8 (wid p y.field.header y.field.field)]:=by simp [kWid,cI]
 rw [e0];simp [LF,Prg.e,h];refine (dK p.Xn[k].keys.length (fun i=>[(0,.tok 1 i)]) 1 (fun i e=>look 2 e=some (.iptr 9 [Prg.c p] 0 0)/\look 1 e=some (a8 k)/\look 5 e=some (.app 1 ((p.Xn[k].keys.map fun y=>[a8 (wid p y.field.header y.field.field)]).take i) 0)/\look 6 e=some (a8 i))
  (fun _=>some (Rt.val (.slice 1 (p.Xn[k].keys.map fun y=>[a8 (wid p y.field.header y.field.field)])))) ?_ ?_ 0 _ 1 (Qc _) (Qb _) ?_).trans (by simp)
 ·rintro i e n L hi hL hn ⟨h2,h1,h5,h6⟩ ih;have hw:=aL i (by omega);have hv:=qs5 p p.Xn[k].keys[i].field.header p.Xn[k].keys[i].field.field;simp only [Prg.e] at hv;rw [Prg.e] at h2;have hn0:¬(0=n):=by omega
  have hn1:¬(n=0):=by omega
  have hm:min i p.Xn[k].keys.length=i:=by omega
  have hb:(i+1)*8<=70368744177664:=by omega
  simp [c_305_l0,Xl.e,Tbl.e,h1,h2,h5,h6,hk,hi,hw,hm,hb,hv];exact ih _ _ (by omega) ⟨by simp [h2,Prg.e],by simp [h1],by simp [jS hi],by simp⟩
 ·rintro e n L hL hn ⟨h2,h1,h5,h6⟩;rw [Prg.e] at h2;simp [c_305_l0,c_305_k1,Tbl.e,h1,h2,h5,h6,hk,hL]
 ·simp [Prg.e]
def tAl (p:Prg) (t a:Int):Bool:=tOk p t&&(match at? p.Xn t with
 | some x=>x.Xy.any fun s=>decide (s=a)
 | none=>false)
theorem qq1 (f:PrgS p) (t a:Int):a9 Φ vN [.agg (Prg.c p),a8 t,a8 a]=some (.val (.bool (tAl p t a))):=by
 rw [aA rfl rfl];have h:=Ue p f t;simp only [Prg.e] at h;cases q:tOk p t with
 | false=>
  rw [q] at h;simp [AZ,Prg.e,h,tAl,q]
 | true=>
 rw [q] at h;obtain ⟨k,hk,rfl,o⟩:=I5 q;have hK:tAl p (k:Int) a=p.Xn[k].Xy.any fun s=>decide (s=a):=by simp [tAl,q,hk]
 rw [hK];have hb:=o.acts;simp [AZ,Prg.e,h,hk,Tbl.e];refine (dK p.Xn[k].Xy.length (fun _=>[]) 0 (fun i e=>look 2 e=some (a8 a)/\look 18 e=some (.slice 1 (p.Xn[k].Xy.map cI))/\look 19 e=some (a8 p.Xn[k].Xy.length)/\look 20 e=some (a8 i))
  (fun i=>some (Rt.val (.bool ((p.Xn[k].Xy.drop i).any fun s=>decide (s=a))))) ?_ ?_ 0 _ 0 (Qc _) (Qb _) ?_).trans (by simp)
 ·rintro i e n L hi hL _ ⟨h2,h18,h19,h20⟩ ih;have hw:=aL i (by omega);rw [Qi hi,IP];by_cases z:p.Xn[k].Xy[i]=a
  ·generalize hX:some (Rt.val (AV.bool (decide (p.Xn[k].Xy[i]=a) || (p.Xn[k].Xy.drop (i+1)).any fun s=>decide (s=a))))=X;simp [c_218_l0,cI,h2,h18,h19,h20,hi,z];rw [<- hX];simp [z]
  ·rw [show (decide (p.Xn[k].Xy[i]=a) || (p.Xn[k].Xy.drop (i+1)).any fun s=>decide (s=a))=(p.Xn[k].Xy.drop (i+1)).any fun s=>decide (s=a) by simp [z]];generalize hX:some (Rt.val (AV.bool ((p.Xn[k].Xy.drop (i+1)).any fun s=>decide (s=a))))=X;simp [c_218_l0,cI,h2,h18,h19,h20,hi,z,hw];rw [<- hX];exact ih _ _ (Qc _) ⟨by simp [h2],by simp [h18],by simp [h19],by simp⟩
 ·rintro e n L hL _ ⟨h2,h18,h19,h20⟩;simp [c_218_l0,c_218_k1,h19,h20,hL]
 ·simp
theorem qqm (f:PrgS p) (hv:∀t∈p.Xn,∀v∈t.Yc.args,ok32 0 v) (t a:Int):a9 Φ wH [.agg (Prg.c p),a8 t,a8 a]=some (.val (.bool (tAl p t a))):=by
 rw [aA rfl rfl];have h:=Tj p f hv t;simp only [Prg.e] at h;cases q:tOk p t with
 | false=>
  rw [q] at h;simp [BC,Prg.e,h,tAl,q]
 | true=>
 rw [q] at h;obtain ⟨k,hk,rfl,o⟩:=I5 q;have hK:tAl p (k:Int) a=p.Xn[k].Xy.any fun s=>decide (s=a):=by simp [tAl,q,hk]
 have hb:=o.acts;have hx:=Ua p.Xn[k].Xy a (by omega);rw [hK,<- P0];simp [BC,Prg.e,Tbl.e,h,hk,hx]
def pmI (n k:Nat):Int:=2^k - 2^(k - n)
theorem Nz:∀k:Nat,k<33->∀n:Nat,n<33->n<=k->OR .u32 (2^k - 1) (ishr .u32 (2^k - 1) (n:Int))=pmI n k:=by decide+kernel
theorem Fi (n k:Nat) (h:n<=k) (h1:1<=k) (h2:k<=32):a9 Φ E2 [a8 n,a8 k]=some (.val (.int .u32 (pmI n k))):=by
 rw [aA rfl rfl];have hv:=XQ k;have hm:=LV k;have hw:wBad (k:Int)=false:=wBad_false.2 ⟨by omega,by omega⟩;have hM:eC (k:Int)=2^k - 1:=by simp [eC,hw]
 rw [hw] at hv;rw [hM] at hm;have hp:=Nz k (by omega) n (by omega) h;have n1:¬((n:Int)<0):=by omega
 have n2:¬((k:Int)<n):=by omega
 simp [LD,hv,hm,n1,n2];exact hp
theorem Ri:∀k:Nat,k<33->∀n:Nat,n<33->n<=k->IntKind.wrap .u32 (IntKind.wrap .u64 (2^k - 2^(k - n)))=pmI n k:=by decide+kernel
theorem Cn (n k:Nat) (h:n<=k) (h1:1<=k) (h2:k<=32):a9 Φ EE [a8 n,a8 k]=some (.val (.int .u32 (pmI n k))):=by
 rw [aA rfl rfl];have hv:=XP k;have hw:wBad (k:Int)=false:=wBad_false.2 ⟨by omega,by omega⟩;rw [hw] at hv;have p1:=XW k (by omega);have p2:=XW (k - n) (by omega);have hs:IntKind.wrap .i64 ((k:Int) - n)=((k - n:Nat):Int):=by
  rw [show (k:Int) - n=((k - n:Nat):Int) by omega];exact bJ (by omega) (by omega)
 have n1:¬((n:Int)<0):=by omega
 have n2:¬((k:Int)<n):=by omega
 simp [LI,hv,p1,p2,n1,n2,hs];exact Ri k (by omega) n (by omega) h
def plG (m:Int) (k:Nat) (n:Nat):Option Int:=if pmI n k=m then some (n:Int) else none
def plE (m w:Int):Option Int:=if wBad w then none else fe (plG m w.toNat) (w.toNat+1) 0
def plV (o:Option Int):Rt:= .val (.tup [a8 (o.getD 0),.bool o.isSome])
theorem Lb (m w:Int):a9 Φ DO [.int .u32 m,a8 w]=some (plV (plE m w)):=by
 rw [aA rfl rfl];have hv:=XQ w;cases q:wBad w with
 | true=>
  rw [q] at hv;simp [BB,hv,plE,q,plV]
 | false=>
 rw [q] at hv;obtain ⟨w1,w2⟩:=wBad_false.1 q;obtain ⟨k,rfl⟩:∃k:Nat,w=k:=⟨w.toNat,by omega⟩;have hw1:=aL k (by omega);have hE:plE m (k:Int)=fe (plG m k) (k+1) 0:=by simp [plE,q]
 rw [hE];simp [BB,hv,hw1];refine dK (k+1) (fun _=>[]) 0 (fun i e=>look 0 e=some (.int .u32 m)/\look 1 e=some (a8 k)/\look 12 e=some (a8 ((k:Int)+1))/\look 13 e=some (a8 i))
  (fun i=>some (plV (fe (plG m k) (k+1) i))) ?_ ?_ 0 _ 0 (Qc _) (Qb _) ?_
 ·rintro i e n L hi hL _ ⟨h0,h1,h12,h13⟩ ih;have hw:=aL i (by omega);have hp:=Fi i k (by omega) (by omega) (by omega);have hlt:(i:Int)<(k:Int)+1:=by omega
  by_cases z:pmI i k=m
  ·rw [aZ (x:=(i:Int)) hi (by simp [plG,z])];subst z;simp [c_265_l0,h0,h1,h12,h13,hp,hlt,plV]
  ·rw [cZ hi (by simp [plG,z])];generalize hX:some (plV (fe (plG m k) (k+1) (i+1)))=X;simp [c_265_l0,h0,h1,h12,h13,hp,hlt,z,hw];rw [<- hX];exact ih _ _ (Qc _) ⟨by simp [h0],by simp [h1],by simp [h12],by simp⟩
 ·rintro e n L hL _ ⟨h0,h1,h12,h13⟩;rw [dV];simp [c_265_l0,c_265_k1,h12,h13,hL,plV]
 ·simp
theorem Eu (m w:Int):a9 Φ EC [.int .u32 m,a8 w]=some (plV (plE m w)):=by
 rw [aA rfl rfl];have hv:=XP w;cases q:wBad w with
 | true=>
  rw [q] at hv;simp [BH];rw [bG];by_cases z:0<=w
  ·simp [c_318_l0,c_318_k1,hv,z,plE,q,plV]
  ·simp [c_318_l0,c_318_k1,z,plE,q,plV]
 | false=>
 rw [q] at hv;obtain ⟨w1,w2⟩:=wBad_false.1 q;obtain ⟨k,rfl⟩:∃k:Nat,w=k:=⟨w.toNat,by omega⟩;have hE:plE m (k:Int)=fe (plG m k) (k+1) 0:=by simp [plE,q]
 rw [hE];simp [BH];refine dK (k+1) (fun _=>[]) 0 (fun i e=>look 0 e=some (.int .u32 m)/\look 1 e=some (a8 k)/\look 6 e=some (a8 i))
  (fun i=>some (plV (fe (plG m k) (k+1) i))) ?_ ?_ 0 _ 0 (Qc _) (Qb _) ?_
 ·rintro i e n L hi hL _ ⟨h0,h1,h6⟩ ih;have hw:=aL i (by omega);have hp:=Cn i k (by omega) (by omega) (by omega);have hle:i<=k:=by omega
  by_cases z:pmI i k=m
  ·rw [aZ (x:=(i:Int)) hi (by simp [plG,z])];subst z;simp [c_318_l0,h0,h1,h6,hv,hp,hle,plV]
  ·rw [cZ hi (by simp [plG,z])];generalize hX:some (plV (fe (plG m k) (k+1) (i+1)))=X;simp [c_318_l0,h0,h1,h6,hv,hp,hle,z,hw];rw [<- hX];exact ih _ _ (Qc _) ⟨by simp [h0],by simp [h1],by simp⟩
 ·rintro e n L hL _ ⟨h0,h1,h6⟩;rw [dV];have hgt:¬((k:Int)+1<=(k:Int)):=by omega
  simp [c_318_l0,c_318_k1,h1,h6,hL,hgt,plV]
 ·simp
theorem Xi.ce (m:Xi):Xi.c m=[.int .u32 m.value,.int .u32 m.Ye]:=by simp [Xi.c]
def keyK (m:Xi) (kind w:Int):Int:=
 if fits m.value w=false\/fits m.Ye w=false then 9
 else if m.value.toNat&&& m.Ye.toNat≠m.value.toNat then 5
 else if kind=1/\m.Ye≠eC w then 11
 else if kind=2/\(plE m.Ye w).isSome=false then 11 else 0
section
variable (m:Xi) (kind w:Int) (h1:ok32 0 m.value) (h2:ok32 0 m.Ye)
include m kind w h1 h2
theorem Hp:a9 Φ D0 [.agg (Xi.c m),a8 kind,a8 w]=some (.val (a8 (keyK m kind w))):=by
 rw [aA rfl rfl];have f1:=UM m.value w;have f2:=UM m.Ye w;have hm:=LV w;have hp:=Lb m.Ye w;have ha:=Zw h1 h2;unfold keyK;cases q1:fits m.value w with
 | false=>rw [q1] at f1;simp [iA,Xi.ce,f1]
 | true=>
 rw [q1] at f1;cases q2:fits m.Ye w with
 | false=>rw [q2] at f2;simp [iA,Xi.ce,f1,f2]
 | true=>
 rw [q2] at f2;by_cases z:OR .u32 m.value m.Ye=0
 rotate_left
 ·have z':¬(m.value.toNat&&& m.Ye.toNat=m.value.toNat):=fun h=>z (ha.2 h)
  simp [iA,Xi.ce,f1,f2,z,z']
 have z':=ha.1 z;by_cases k1:kind=1
 ·subst k1;by_cases y:m.Ye=eC w
  ·rw [y] at f2 z z';simp [iA,Xi.ce,f1,f2,z,z',hm,y]
  ·simp [iA,Xi.ce,f1,f2,z,z',hm,y]
 by_cases k2:kind=2
 ·subst k2;cases y:plE m.Ye w with
  | none=>rw [y] at hp;simp [plV] at hp;simp [iA,Xi.ce,f1,f2,z,z',hp]
  | some x=>rw [y] at hp;simp [plV] at hp;simp [iA,Xi.ce,f1,f2,z,z',hp]
 simp [iA,Xi.ce,f1,f2,z,z',k1,k2]
theorem Lz:a9 Φ E5 [.agg (Xi.c m),a8 w,a8 kind]=some (.val (a8 (keyK m kind w))):=by
 rw [aA rfl rfl];have f1:=Ux m.value w h1;have f2:=Ux m.Ye w h2;have hm:=qv5 w;have hp:=Eu m.Ye w;have ha:=qsp h1 h2;simp [plV] at hp;unfold keyK;cases q1:fits m.value w with
 | false=>rw [q1] at f1;simp [iD,Xi.ce,hp,f1]
 | true=>
 rw [q1] at f1;cases q2:fits m.Ye w with
 | false=>rw [q2] at f2;simp [iD,Xi.ce,hp,f1,f2]
 | true=>
 rw [q2] at f2;by_cases z:iand .u32 m.value m.Ye=m.value
 rotate_left
 ·have z':¬(m.value.toNat&&& m.Ye.toNat=m.value.toNat):=fun h=>z (ha.2 h)
  simp [iD,Xi.ce,hp,f1,f2,z,z']
 have z':=ha.1 z;by_cases k1:kind=1
 ·subst k1;by_cases y:m.Ye=eC w
  ·rw [y] at hp f2 z z';simp [iD,Xi.ce,hp,f1,f2,z,z',hm,y]
  ·simp [iD,Xi.ce,hp,f1,f2,z,z',hm,y]
 by_cases k2:kind=2
 ·subst k2;cases y:plE m.Ye w with
  | none=>rw [y] at hp;simp [iD,Xi.ce,f1,f2,z,z',hp]
  | some x=>rw [y] at hp;simp [iD,Xi.ce,f1,f2,z,z',hp]
 simp [iD,Xi.ce,hp,f1,f2,z,z',k1,k2]
end
structure EntS (x:Entry):Prop where
 kl:x.keys.length<2^40
 ks:∀m∈x.keys,ok32 0 m.value/\ok32 0 m.Ye
 al:x.call.args.length<2^40
 ar:∀v∈x.call.args,ok32 0 v
def entF (p:Prg) (t:Int) (x:Entry):Int:=if x.Xt<0 then 9 else if 255<x.Xt then 9 else if x.Xt≠0/\EW p t≠3 then 11 else if tAl p t x.call.Xz=false then 8 else pA p x.call
def entG (p:Prg) (tb:Tbl) (x:Entry) (i:Nat):Option Int:=match x.keys[i]?,tb.keys[i]? with
 | some m,some k=>if keyK m k.kind (wid p k.field.header k.field.field)=0 then none else some (keyK m k.kind (wid p k.field.header k.field.field))
 | _,_=>none
def entE (p:Prg) (t:Int) (x:Entry):Int:=if (tblE p t).2≠0 then (tblE p t).2 else match at? p.Xn t with
 | some tb=>if x.keys.length≠tb.keys.length then 2 else (fe (entG p tb x) tb.keys.length 0).getD (entF p t x)
 | none=>0
theorem Hq (f:PrgS p) (t:Int) (x:Entry) (s:EntS x) (e:Env) (n:Nat) (h1:look 1 e=some (a8 t)) (h3:look 3 e=some (.iptr 9 [Prg.c p] 0 0)) (h5:look 5 e=some (.iptr 4 [Entry.c x] 0 0)):
  go Φ (finP [.tmp 6]) [.c c_159_k1] .normal ⟨e,⟨[],n⟩⟩=some (.val (a8 (entF p t x))):=by
 have hk:=Gd p f t;have ha:=qq1 p f t x.call.Xz;have hc:=Ug p f x.call s.al;simp only [Prg.e,Xb.ce] at hk ha hc;rw [Prg.e] at h3;rw [Entry.ce] at h5;unfold entF;by_cases p0:x.Xt<0
 ·simp [c_159_k1,h5,p0]
 by_cases p1:255<x.Xt
 ·simp [c_159_k1,h5,p0,p1]
 by_cases p2:x.Xt=0
 ·cases q:tAl p t x.call.Xz with
  | false=>rw [q] at ha;simp [c_159_k1,h1,h3,h5,p2,ha]
  | true=>rw [q] at ha;simp [c_159_k1,h1,h3,h5,p2,ha,hc]
 by_cases p3:EW p t=3
 ·cases q:tAl p t x.call.Xz with
  | false=>rw [q] at ha;simp [c_159_k1,h1,h3,h5,p0,p1,p2,p3,hk,ha]
  | true=>rw [q] at ha;simp [c_159_k1,h1,h3,h5,p0,p1,p2,p3,hk,ha,hc]
 ·simp [c_159_k1,h1,h3,h5,p0,p1,p2,p3,hk]
theorem qx3 (f:PrgS p) (t:Int) (x:Entry) (s:EntS x):a9 Φ vB [.agg (Prg.c p),a8 t,.agg (Entry.c x)]=some (.val (a8 (entE p t x))):=by
 rw [aA rfl rfl];have h:=Vq p f t;simp only [Prg.e] at h;by_cases z:(tblE p t).2=0
 rotate_left
 ·simp [uE,Prg.e,Entry.ce,h,z,entE]
 have q:tOk p t=true:=by simp [tOk,z]
 obtain ⟨k,hk,rfl,o⟩:=I5 q;have hw:=ZF p f k hk q;simp only [Prg.e] at hw;have hb:=o.keys;by_cases y:x.keys.length=p.Xn[k].keys.length
 rotate_left
 ·simp [uE,Prg.e,Entry.ce,Tbl.e,hk,h,z,hw,y,entE]
 have hE:entE p (k:Int) x=(fe (entG p p.Xn[k] x) p.Xn[k].keys.length 0).getD (entF p k x):=by simp [entE,z,hk,y]
 rw [hE];simp [uE,Prg.e,Entry.ce,Tbl.e,hk,h,z,hw,y];refine dK p.Xn[k].keys.length (fun _=>[]) 0 (fun i e=>look 1 e=some (a8 k)/\look 3 e=some (.iptr 9 [Prg.c p] 0 0)/\look 5 e=some (.iptr 4 [Entry.c x] 0 0)/\look 9 e=some (.slice 3 (p.Xn[k].keys.map Xl.c))/\look 10 e=some (.slice 1 ((kWid p p.Xn[k]).map cI))/\look 39 e=some (.slice 2 (x.keys.map Xi.c))/\look 40 e=some (a8 p.Xn[k].keys.length)/\look 41 e=some (a8 i))
  (fun i=>some (Rt.val (a8 ((fe (entG p p.Xn[k] x) p.Xn[k].keys.length i).getD (entF p k x))))) ?_ ?_ 0 _ 0 (Qc _) (Qb _) ?_
 ·rintro i e n L hi hL _ ⟨h1,h3,h5,h9,h10,h39,h40,h41⟩ ih;have hi2:i<x.keys.length:=by omega
  have hi3:i<(kWid p p.Xn[k]).length:=by simp [kWid];exact hi
  have hkw:(kWid p p.Xn[k])[i]=wid p p.Xn[k].keys[i].field.header p.Xn[k].keys[i].field.field:=by simp [kWid]
  have hw:=aL i (by omega);have hm:=s.ks _ (Qd hi2);have hc:=Hp x.keys[i] p.Xn[k].keys[i].kind (wid p p.Xn[k].keys[i].field.header p.Xn[k].keys[i].field.field) hm.1 hm.2;simp only [Xi.ce] at hc;by_cases v:keyK x.keys[i] p.Xn[k].keys[i].kind (wid p p.Xn[k].keys[i].field.header p.Xn[k].keys[i].field.field)=0
  ·rw [cZ hi (by simp [entG,hi,hi2,v])];rw [v] at hc;generalize hX:some (Rt.val (a8 ((fe (entG p p.Xn[k] x) p.Xn[k].keys.length (i+1)).getD (entF p k x))))=X;simp [c_159_l0,Xl.e,Xi.ce,cI,h9,h10,h39,h40,h41,hi,hi2,hi3,hkw,hc,hw];rw [<- hX];exact ih _ _ (Qc _) ⟨by simp [h1],by simp [h3],by simp [h5],by simp [h9],by simp [h10],by simp [h39],by simp [h40],by simp⟩
  ·rw [aZ (x:=keyK x.keys[i] p.Xn[k].keys[i].kind (wid p p.Xn[k].keys[i].field.header p.Xn[k].keys[i].field.field)) hi (by simp [entG,hi,hi2,v])];simp [c_159_l0,Xl.e,Xi.ce,cI,h9,h10,h39,h40,h41,hi,hi2,hi3,hkw,hc,v]
 ·rintro e n L hL _ ⟨h1,h3,h5,h9,h10,h39,h40,h41⟩;rw [dV];simp [c_159_l0,h40,h41,hL];exact Hq p f k x s _ _ (by simp [h1]) (by simp [h3]) (by simp [h5])
 ·simp [Prg.e,Entry.ce]
section
variable (f:PrgS p) (hv:∀t∈p.Xn,∀v∈t.Yc.args,ok32 0 v)
include f hv
theorem Fu (t:Int) (x:Entry) (s:EntS x) (e:Env) (n:Nat) (h1:look 1 e=some (a8 t)) (h3:look 3 e=some (.iptr 9 [Prg.c p] 0 0)) (h5:look 5 e=some (.iptr 4 [Entry.c x] 0 0)):
  go Φ (finP [.tmp 6]) [.c c_290_k1] .normal ⟨e,⟨[],n⟩⟩=some (.val (a8 (entF p t x))):=by
 have hk:=Fz p f hv t;have ha:=qqm p f hv t x.call.Xz;have hc:=Tx p f x.call s.al s.ar;simp only [Prg.e,Xb.ce] at hk ha hc;rw [Prg.e] at h3;rw [Entry.ce] at h5;unfold entF;by_cases p0:x.Xt<0
 ·simp [c_290_k1,h5,p0]
 by_cases p1:255<x.Xt
 ·simp [c_290_k1,h5,p0,p1]
 by_cases p2:x.Xt=0
 ·cases q:tAl p t x.call.Xz with
  | false=>rw [q] at ha;simp [c_290_k1,h1,h3,h5,p2,ha]
  | true=>rw [q] at ha;simp [c_290_k1,h1,h3,h5,p2,ha,hc]
 have p4:0<x.Xt:=by omega
 by_cases p3:EW p t=3
 ·cases q:tAl p t x.call.Xz with
  | false=>rw [q] at ha;simp [c_290_k1,h1,h3,h5,p0,p1,p2,p3,p4,hk,ha]
  | true=>rw [q] at ha;simp [c_290_k1,h1,h3,h5,p0,p1,p2,p3,p4,hk,ha,hc]
 ·simp [c_290_k1,h1,h3,h5,p0,p1,p2,p3,p4,hk]
theorem qv1 (t:Int) (x:Entry) (s:EntS x):a9 Φ wG [.agg (Prg.c p),a8 t,.agg (Entry.c x)]=some (.val (a8 (entE p t x))):=by
 rw [aA rfl rfl];have h:=Va p f hv t;simp only [Prg.e] at h;by_cases z:(tblE p t).2=0
 rotate_left
 ·simp [uP,Prg.e,Entry.ce,h,z,entE]
 have q:tOk p t=true:=by simp [tOk,z]
 obtain ⟨k,hk,rfl,o⟩:=I5 q;have hw:=ZW p f hv k hk q;simp only [Prg.e] at hw;have hb:=o.keys;have hkl:(kWid p p.Xn[k]).length=p.Xn[k].keys.length:=by simp [kWid]
 by_cases y:x.keys.length=p.Xn[k].keys.length
 rotate_left
 ·simp [uP,Prg.e,Entry.ce,hk,h,z,hw,y,hkl,entE]
 have hE:entE p (k:Int) x=(fe (entG p p.Xn[k] x) p.Xn[k].keys.length 0).getD (entF p k x):=by simp [entE,z,hk,y]
 rw [hE];simp [uP,Prg.e,Entry.ce,h,z,hw,y,hkl];refine dK p.Xn[k].keys.length (fun _=>[]) 0 (fun i e=>look 1 e=some (a8 k)/\look 3 e=some (.iptr 9 [Prg.c p] 0 0)/\look 5 e=some (.iptr 4 [Entry.c x] 0 0)/\look 9 e=some (.slice 1 ((kWid p p.Xn[k]).map cI))/\look 10 e=some (a8 i))
  (fun i=>some (Rt.val (a8 ((fe (entG p p.Xn[k] x) p.Xn[k].keys.length i).getD (entF p k x))))) ?_ ?_ 0 _ 0 (Qc _) (Qb _) ?_
 ·rintro i e n L hi hL _ ⟨h1,h3,h5,h9,h10⟩ ih;have hi2:i<x.keys.length:=by omega
  have hi3:i<(kWid p p.Xn[k]).length:=by omega
  have hkw:(kWid p p.Xn[k])[i]=wid p p.Xn[k].keys[i].field.header p.Xn[k].keys[i].field.field:=by simp [kWid]
  have hw:=aL i (by omega);have hm:=s.ks _ (Qd hi2);have hc:=Lz x.keys[i] p.Xn[k].keys[i].kind (wid p p.Xn[k].keys[i].field.header p.Xn[k].keys[i].field.field) hm.1 hm.2;simp only [Xi.ce] at hc;rw [Prg.e] at h3;rw [Entry.ce] at h5;by_cases v:keyK x.keys[i] p.Xn[k].keys[i].kind (wid p p.Xn[k].keys[i].field.header p.Xn[k].keys[i].field.field)=0
  ·rw [cZ hi (by simp [entG,hi,hi2,v])];rw [v] at hc;generalize hX:some (Rt.val (a8 ((fe (entG p p.Xn[k] x) p.Xn[k].keys.length (i+1)).getD (entF p k x))))=X;simp [c_290_l0,Xl.e,Tbl.e,Xi.ce,cI,h1,h3,h5,h9,h10,hk,hkl,hi,hi2,hkw,hc,hw];rw [<- hX];exact ih _ _ (Qc _) ⟨by simp [h1],by simp [h3,Prg.e],by simp [h5,Entry.ce],by simp [h9],by simp⟩
  ·rw [aZ (x:=keyK x.keys[i] p.Xn[k].keys[i].kind (wid p p.Xn[k].keys[i].field.header p.Xn[k].keys[i].field.field)) hi (by simp [entG,hi,hi2,v])];simp [c_290_l0,Xl.e,Tbl.e,Xi.ce,cI,h1,h3,h5,h9,h10,hk,hkl,hi,hi2,hkw,hc,v]
 ·rintro e n L hL _ ⟨h1,h3,h5,h9,h10⟩;rw [dV];simp [c_290_l0,h9,h10,hkl,hL];exact Fu p f hv k x s _ _ (by simp [h1]) (by simp [h3]) (by simp [h5])
 ·simp [Prg.e,Entry.ce]
end
def fD (p:Prg) (t:Int) (c:Xb):Int:=if tAl p t c.Xz=false then 8 else pA p c
theorem Vb (f:PrgS p) (t:Int) (c:Xb) (hc:c.args.length<2^40):a9 Φ qO [.agg (Prg.c p),a8 t,.agg (Xb.c c)]=some (.val (a8 (fD p t c))):=by
 rw [aA rfl rfl];have ha:=qq1 p f t c.Xz;have hk:=Ug p f c hc;simp only [Prg.e,Xb.ce] at ha hk;cases q:tAl p t c.Xz with
 | false=>rw [q] at ha;simp [AJ,Prg.e,Xb.ce,ha,fD,q]
 | true=>rw [q] at ha;simp [AJ,Prg.e,Xb.ce,ha,hk,fD,q]
theorem Uy (f:PrgS p) (hv:∀t∈p.Xn,∀v∈t.Yc.args,ok32 0 v) (t:Int) (c:Xb) (hc:c.args.length<2^40) (hr:∀v∈c.args,ok32 0 v):a9 Φ rI [.agg (Prg.c p),a8 t,.agg (Xb.c c)]=some (.val (a8 (fD p t c))):=by
 rw [aA rfl rfl];have ha:=qqm p f hv t c.Xz;have hk:=Tx p f c hc hr;simp only [Prg.e,Xb.ce] at ha hk;cases q:tAl p t c.Xz with
 | false=>rw [q] at ha;simp [B8,Prg.e,Xb.ce,ha,fD,q]
 | true=>rw [q] at ha;simp [B8,Prg.e,Xb.ce,ha,hk,fD,q]
def sk (x y:Entry):Bool:=decide (x.keys=y.keys/\x.Xt=y.Xt)
theorem T7 (x y:Entry) (hb:x.keys.length<2^40):a9 Φ nM [.agg [.slice 2 (x.keys.map Xi.c),a8 x.Xt,a8 x.call.Xz,.slice 1 (x.call.args.map c32)],.agg [.slice 2 (y.keys.map Xi.c),a8 y.Xt,a8 y.call.Xz,.slice 1 (y.call.args.map c32)]]=some (.val (.bool (sk x y))):=qoi _ _ _ _ _ _ hb
theorem Rj (x y:Entry) (hb:x.keys.length<2^40):a9 Φ vA [.agg [.slice 2 (x.keys.map Xi.c),a8 x.Xt,a8 x.call.Xz,.slice 1 (x.call.args.map c32)],.agg [.slice 2 (y.keys.map Xi.c),a8 y.Xt,a8 y.call.Xz,.slice 1 (y.call.args.map c32)]]=some (.val (.bool (sk x y))):=qyq _ _ _ _ _ _ hb
theorem Nr (x r:Rw) (hb:x.entry.keys.length<2^40):a9 Φ lG [.agg (Rw.c x),.iptr 5 [Rw.c r] 0 0]=some (.val (.bool (sk x.entry r.entry))):=by
 rw [aA rfl rfl];have h:=T7 x.entry r.entry hb;simp [K9,Rw.ce,h]
section
variable (l:List Rw) (r:Rw) (hl:l.length<2^40) (hs:∀x∈l,x.entry.keys.length<2^40)
include l r hl hs
theorem Bj:a9 Φ vP [.slice 5 (l.map Rw.c),.func (.func lG) [] [.iptr 5 [Rw.c r] 0 0]]=some (.val (a8 (ix (fun x=>sk x.entry r.entry) l 0))):=by
 rw [aA rfl rfl];simp [B2];refine (fJ l.length (fun i e=>look 0 e=some (.slice 5 (l.map Rw.c))/\look 1 e=some (.func (.func lG) [] [.iptr 5 [Rw.c r] 0 0])/\look 7 e=some (a8 l.length)/\look 8 e=some (a8 i))
  (fun i=>some (.val (a8 (ix (fun x=>sk x.entry r.entry) l i)))) ?_ ?_ 0 _ (Qc _) ?_).trans (by simp)
 ·rintro i e L hi hL ⟨h0,h1,h7,h8⟩ ih;have hw:=aL i (by omega);have hd:=Nr l[i] r (hs _ (Qd hi));simp only [Rw.ce] at hd h1;cases z:sk l[i].entry r.entry with
  | true=>
   rw [HY hi (by simpa using z)];rw [z] at hd;simp [c_223_l0,Rw.ce,h0,h1,h7,h8,hi,hd]
  | false=>
   rw [HT hi (by simpa using z)];rw [z] at hd;simp [c_223_l0,Rw.ce,h0,h1,h7,h8,hi,hd,hw];exact ih _ ⟨by simp [h0],by simp [h1,Rw.ce],by simp [h7],by simp⟩
 ·rintro e L hL ⟨h0,h1,h7,h8⟩;rw [HX];simp [c_223_l0,c_223_k1,h7,h8,hL]
 ·simp
theorem Au:a9 Φ nL [.slice 5 (l.map Rw.c),.func (.func lG) [] [.iptr 5 [Rw.c r] 0 0]]=some (.val (.bool (l.any fun x=>sk x.entry r.entry))):=by
 rw [aA rfl rfl];have h:=Bj l r hl hs;rw [<- P0];simp [AL,h]
end
theorem qwo (l:List Rw) (x:Entry) (hl:l.length<2^40) (hs:∀x∈l,x.entry.keys.length<2^40):a9 Φ rS [.slice 5 (l.map Rw.c),.agg (Entry.c x)]=some (.val (.bool (l.any fun y=>sk y.entry x))):=by
 rw [aA rfl rfl];generalize hY:some (Rt.val (AV.bool (l.any fun y=>sk y.entry x)))=Y;simp [L9,Entry.ce];rw [show Y=some (Rt.val (AV.bool ((l.drop 0).any fun y=>sk y.entry x))) by rw [<- hY];simp];refine fJ l.length (fun i e=>look 0 e=some (.slice 5 (l.map Rw.c))/\look 3 e=some (.iptr 4 [Entry.c x] 0 0)/\look 5 e=some (a8 i))
  (fun i=>some (Rt.val (.bool ((l.drop i).any fun y=>sk y.entry x)))) ?_ ?_ 0 _ (Qc _) ?_
 ·rintro i e L hi hL ⟨h0,h3,h5⟩ ih;have hw:=aL i (by omega);have hd:=Rj l[i].entry x (hs _ (Qd hi));rw [Entry.ce] at h3;rw [Qi hi,IP];cases z:sk l[i].entry x with
  | true=>
   rw [z] at hd;rw [QH];simp [c_291_l0,Rw.ce,h0,h3,h5,hi,hd]
  | false=>
   rw [z] at hd;rw [MQ];generalize hX:some (Rt.val (AV.bool ((l.drop (i+1)).any fun y=>sk y.entry x)))=X;simp [c_291_l0,Rw.ce,h0,h3,h5,hi,hd,hw];rw [<- hX];exact ih _ ⟨by simp [h0],by simp [h3,Entry.ce],by simp⟩
 ·rintro e L hL ⟨h0,h3,h5⟩;simp [c_291_l0,c_291_k1,h0,h5,hL]
 ·simp [Entry.ce]
def ordL:List Rw->Int->Option Int
 | [],a=>some a
 | r::l,a=>if r.id<=a then none else ordL l r.id
def rowG (p:Prg) (t:Int) (l:List Rw) (i:Nat):Option Int:=(l[i]?).bind fun r=>if entE p t r.entry≠0 then some (entE p t r.entry) else if (l.take i).any (fun y=>sk y.entry r.entry)=true then some 7 else none
def tabK (p:Prg) (t:Int) (l:List Rw) (next:Int) (z:Int):Option Int->Int
 | none=>14
 | some a=>if next<=a then 14 else if 1073741824<next then 14 else (fe (rowG p t l) l.length 0).getD z
def rowS (r:Rw):Prop:=EntS r.entry
theorem ct_b (f:PrgS p) (t:Int) (l:List Rw) (next:Int) (d:Xb) (hl:l.length<2^40) (hs:∀r∈l,rowS r) (hd:d.args.length<2^40) (a:Int) (ha:0<=a) (e:Env) (n:Nat)
  (h1:look 1 e=some (a8 t)) (h2:look 2 e=some (.slice 5 (l.map Rw.c))) (h3:look 3 e=some (a8 next)) (h5:look 5 e=some (.iptr 9 [Prg.c p] 0 0)) (h9:look 9 e=some (.iptr 2 [Xb.c d] 0 0)) (h11:look 11 e=some (a8 a)):
  go Φ (finP [.tmp 10]) [.c c_152_k3] .normal ⟨e,⟨[],n⟩⟩=some (.val (a8 (tabK p t l next (fD p t d) (some a)))):=by
 unfold tabK;dsimp only;by_cases z0:next<=a
 ·simp [c_152_k3,h3,h11,z0]
 have z1:¬next<1:=by omega
 by_cases z2:1073741824<next
 ·simp [c_152_k3,h3,h11,z0,z1,z2]
 rw [QA z0,QA z2];simp [c_152_k3,h2,h3,h11,z0,z1,z2];refine dK l.length (fun _=>[]) 0 (fun i e=>look 1 e=some (a8 t)/\look 2 e=some (.slice 5 (l.map Rw.c))/\look 5 e=some (.iptr 9 [Prg.c p] 0 0)/\look 9 e=some (.iptr 2 [Xb.c d] 0 0)/\look 50 e=some (.slice 5 (l.map Rw.c))/\look 51 e=some (a8 l.length)/\look 52 e=some (a8 i))
  (fun i=>some (Rt.val (a8 ((fe (rowG p t l) l.length i).getD (fD p t d))))) ?_ ?_ 0 _ n (Qc _) (Qc _) ?_
 ·rintro i e n L hi hL _ ⟨h1,h2,h5,h9,h50,h51,h52⟩ ih;have hw:=aL i (by omega);have hm:=hs _ (Qd hi);have hc:=qx3 p f t l[i].entry hm;have hi':i<=l.length:=by omega
  have hx:a9 Φ nL [.slice 5 ((l.map Rw.c).take i),.func (.func lG) [] [.iptr 5 [Rw.c l[i]] 0 0]]=some (.val (.bool ((l.take i).any fun x=>sk x.entry l[i].entry))):=by
   rw [<- pK];exact Au (l.take i) l[i] (by simp;omega) fun x hx=>(hs x (Qu hx)).kl
  simp only [Prg.e,Entry.ce] at hc;rw [Rw.ce] at hx;rw [Prg.e] at h5;by_cases v:entE p t l[i].entry=0
  ·rw [v] at hc;cases w:(l.take i).any fun x=>sk x.entry l[i].entry with
   | true=>
    rw [w] at hx;rw [aZ (x:=(7:Int)) hi (by simp only [rowG,Qa hi,iW];rw [QA (by simp [v]),aB w])];simp [c_152_l1,Rw.ce,h1,h2,h5,h50,h51,h52,hi,hi',hc,hx]
   | false=>
    rw [w] at hx;rw [cZ hi (by simp only [rowG,Qa hi,iW];rw [QA (by simp [v]),QA (by rw [w];decide)])];generalize hX:some (Rt.val (a8 ((fe (rowG p t l) l.length (i+1)).getD (fD p t d))))=X;simp [c_152_l1,Rw.ce,h1,h2,h5,h50,h51,h52,hi,hi',hc,hx,hw];rw [<- hX];exact ih _ _ (Qc _) ⟨by simp [h1],by simp [h2],by simp [h5,Prg.e],by simp [h9],by simp [h50],by simp [h51],by simp⟩
  ·rw [aZ (x:=entE p t l[i].entry) hi (by simp only [rowG,Qa hi,iW];rw [aB v])];simp [c_152_l1,Rw.ce,h1,h5,h50,h51,h52,hi,hc,v]
 ·rintro e n L hL _ ⟨h1,h2,h5,h9,h50,h51,h52⟩;have hk:=Vb p f t d hd;simp only [Prg.e,Xb.ce] at hk;rw [Prg.e] at h5;rw [Xb.ce] at h9;rw [dV];simp [c_152_l1,c_152_k2,h1,h5,h9,h51,h52,hL,hk]
 ·simp [h1,h2,h5,h9]
theorem Iu (f:PrgS p) (k:Nat) (hk:k<p.Xn.length) (l:List Rw) (next:Int) (d:Xb) (hl:l.length<2^40) (hs:∀r∈l,rowS r) (hd:d.args.length<2^40):
  a9 Φ C9 [.agg (Prg.c p),a8 k,.slice 5 (l.map Rw.c),a8 next,.agg (Xb.c d)]=some (.val (a8 (if p.Xn[k].size<l.length then 12 else tabK p k l next (fD p k d) (ordL l 0)))):=by
 rw [aA rfl rfl];by_cases z:p.Xn[k].size<(l.length:Int)
 ·simp [AF,Prg.e,Xb.ce,Tbl.e,hk,z]
 rw [QA z];simp [AF,Prg.e,Xb.ce,Tbl.e,hk,z];refine dK l.length (fun _=>[]) 0 (fun i e=>look 1 e=some (a8 k)/\look 2 e=some (.slice 5 (l.map Rw.c))/\look 3 e=some (a8 next)/\look 5 e=some (.iptr 9 [Prg.c p] 0 0)/\look 9 e=some (.iptr 2 [Xb.c d] 0 0)/\look 26 e=some (.slice 5 (l.map Rw.c))/\look 27 e=some (a8 l.length)/\look 28 e=some (a8 i)/\∃a:Int,look 11 e=some (a8 a)/\0<=a/\ordL (l.drop i) a=ordL l 0)
  (fun _=>some (Rt.val (a8 (tabK p k l next (fD p k d) (ordL l 0))))) ?_ ?_ 0 _ 0 (Qc _) (Qc _) ?_
 ·rintro i e n L hi hL _ ⟨h1,h2,h3,h5,h9,h26,h27,h28,a,h11,ha,ho⟩ ih;have hw:=aL i (by omega);rw [Qi hi] at ho;simp only [ordL] at ho;by_cases y:l[i].id<=a
  ·rw [aB y] at ho;rw [<- ho];simp [c_152_l0,Rw.ce,h26,h27,h28,h11,hi,y,tabK]
  ·rw [QA y] at ho;generalize hX:some (Rt.val (a8 (tabK p k l next (fD p k d) (ordL l 0))))=X;simp [c_152_l0,Rw.ce,h26,h27,h28,h11,hi,y,hw];rw [<- hX];exact ih _ _ (Qc _) ⟨by simp [h1],by simp [h2],by simp [h3],by simp [h5],by simp [h9],by simp [h26],by simp [h27],by simp,l[i].id,by simp,by omega,ho⟩
 ·rintro e n L hL _ ⟨h1,h2,h3,h5,h9,h26,h27,h28,a,h11,ha,ho⟩;rw [QC] at ho;simp only [ordL] at ho;rw [<- ho];generalize hX:some (Rt.val (a8 (tabK p k l next (fD p k d) (some a))))=X;simp [c_152_l0,h27,h28,hL];rw [<- hX];exact ct_b p f k l next d hl hs hd a ha _ _ (by simp [h1]) (by simp [h2]) (by simp [h3]) (by simp [h5]) (by simp [h9]) (by simp [h11])
 ·simp [Prg.e,Xb.ce]
section
variable (f:PrgS p) (hv:∀t∈p.Xn,∀v∈t.Yc.args,ok32 0 v)
include f hv
theorem rt_b (t:Int) (l:List Rw) (next:Int) (hl:l.length<2^40) (hs:∀r∈l,rowS r) (a:Int) (e:Env) (n:Nat)
  (h1:look 1 e=some (a8 t)) (h2:look 2 e=some (.slice 5 (l.map Rw.c))) (h3:look 3 e=some (a8 next)) (h4:look 4 e=some (.iptr 9 [Prg.c p] 0 0)) (h9:look 9 e=some (a8 a)):
  go Φ (finP [.tmp 8]) [.c c_254_k3] .normal ⟨e,⟨[],n⟩⟩=some (.val (a8 (tabK p t l next 0 (some a)))):=by
 unfold tabK;dsimp only;by_cases z0:next<=a
 ·simp [c_254_k3,h3,h9,z0]
 by_cases z2:1073741824<next
 ·simp [c_254_k3,h3,h9,z0,z2]
 rw [QA z0,QA z2];simp [c_254_k3,h3,h9,z0,z2];refine dK l.length (fun _=>[]) 0 (fun i e=>look 1 e=some (a8 t)/\look 2 e=some (.slice 5 (l.map Rw.c))/\look 4 e=some (.iptr 9 [Prg.c p] 0 0)/\look 11 e=some (a8 i))
  (fun i=>some (Rt.val (a8 ((fe (rowG p t l) l.length i).getD 0)))) ?_ ?_ 0 _ n (Qc _) (Qc _) ?_
 ·rintro i e n L hi hL _ ⟨h1,h2,h4,h11⟩ ih;have hw:=aL i (by omega);have hm:=hs _ (Qd hi);have hc:=qv1 p f hv t l[i].entry hm;have hi':i<=l.length:=by omega
  have hx:a9 Φ rS [.slice 5 ((l.map Rw.c).take i),.agg (Entry.c l[i].entry)]=some (.val (.bool ((l.take i).any fun x=>sk x.entry l[i].entry))):=by
   rw [<- pK];exact qwo (l.take i) l[i].entry (by simp;omega) fun x hx=>(hs x (Qu hx)).kl
  simp only [Prg.e,Entry.ce] at hc;rw [Entry.ce] at hx;rw [Prg.e] at h4;by_cases v:entE p t l[i].entry=0
  ·rw [v] at hc;cases w:(l.take i).any fun x=>sk x.entry l[i].entry with
   | true=>
    rw [w] at hx;rw [aZ (x:=(7:Int)) hi (by simp only [rowG,Qa hi,iW];rw [QA (by simp [v]),aB w])];simp [c_254_l1,Rw.ce,h1,h2,h4,h11,hi,hi',hc,hx]
   | false=>
    rw [w] at hx;rw [cZ hi (by simp only [rowG,Qa hi,iW];rw [QA (by simp [v]),QA (by rw [w];decide)])];generalize hX:some (Rt.val (a8 ((fe (rowG p t l) l.length (i+1)).getD 0)))=X;simp [c_254_l1,Rw.ce,h1,h2,h4,h11,hi,hi',hc,hx,hw];rw [<- hX];exact ih _ _ (Qc _) ⟨by simp [h1],by simp [h2],by simp [h4,Prg.e],by simp⟩
  ·rw [aZ (x:=entE p t l[i].entry) hi (by simp only [rowG,Qa hi,iW];rw [aB v])];simp [c_254_l1,Rw.ce,h1,h2,h4,h11,hi,hc,v]
 ·rintro e n L hL _ ⟨h1,h2,h4,h11⟩;rw [dV];simp [c_254_l1,c_254_k2,h2,h11,hL]
 ·simp [h1,h2,h4]
theorem Ey (k:Nat) (hk:k<p.Xn.length) (l:List Rw) (next:Int) (hl:l.length<2^40) (hs:∀r∈l,rowS r):
  a9 Φ DM [.agg (Prg.c p),a8 k,.slice 5 (l.map Rw.c),a8 next]=some (.val (a8 (if p.Xn[k].size<l.length then 12 else tabK p k l next 0 (ordL l 0)))):=by
 rw [aA rfl rfl];by_cases z:p.Xn[k].size<(l.length:Int)
 ·simp [B7,Prg.e,Tbl.e,hk,z]
 rw [QA z];simp [B7,Prg.e,Tbl.e,hk,z];refine dK l.length (fun _=>[]) 0 (fun i e=>look 1 e=some (a8 k)/\look 2 e=some (.slice 5 (l.map Rw.c))/\look 3 e=some (a8 next)/\look 4 e=some (.iptr 9 [Prg.c p] 0 0)/\look 10 e=some (a8 i)/\∃a:Int,look 9 e=some (a8 a)/\ordL (l.drop i) a=ordL l 0)
  (fun _=>some (Rt.val (a8 (tabK p k l next 0 (ordL l 0))))) ?_ ?_ 0 _ 0 (Qc _) (Qc _) ?_
 ·rintro i e n L hi hL _ ⟨h1,h2,h3,h4,h10,a,h9,ho⟩ ih;have hw:=aL i (by omega);rw [Qi hi] at ho;simp only [ordL] at ho;by_cases y:l[i].id<=a
  ·rw [aB y] at ho;rw [<- ho];simp [c_254_l0,Rw.ce,h2,h10,h9,hi,y,tabK]
  ·rw [QA y] at ho;generalize hX:some (Rt.val (a8 (tabK p k l next 0 (ordL l 0))))=X;simp [c_254_l0,Rw.ce,h2,h10,h9,hi,y,hw];rw [<- hX];exact ih _ _ (Qc _) ⟨by simp [h1],by simp [h2],by simp [h3],by simp [h4],by simp,l[i].id,by simp,ho⟩
 ·rintro e n L hL _ ⟨h1,h2,h3,h4,h10,a,h9,ho⟩;rw [QC] at ho;simp only [ordL] at ho;rw [<- ho];generalize hX:some (Rt.val (a8 (tabK p k l next 0 (some a))))=X;simp [c_254_l0,h2,h10,hL];rw [<- hX];exact rt_b p f hv k l next hl hs a _ _ (by simp [h1]) (by simp [h2]) (by simp [h3]) (by simp [h4]) (by simp [h9])
 ·simp [Prg.e]
end
def mxF:List Int->Int->Int
 | [],a=>a
 | x::r,a=>mxF r (max a x)
theorem TH (M:Int):∀(l:List Int) (a:Int),M<mxF l a↔M<a\/∃x∈l,M<x
 | [],a=>by simp [mxF]
 | x::r,a=>by
  have ih:=TH M r (max a x);simp only [mxF,ih,fI,exists_eq_or_imp];constructor
  ·rintro (h | h)
   ·by_cases q:M<a
    ·exact .inl q
    ·exact .inr (.inl (by omega))
   ·exact .inr (.inr h)
  ·rintro (h | h | h)
   ·exact .inl (by omega)
   ·exact .inl (by omega)
   ·exact .inr h
theorem Ov (l:List Int) (h0:0<l.length) (hl:l.length<2^40):a9 Φ CZ [.slice 1 (l.map c32)]=some (.val (.int .u32 (mxF l.tail l[0]))):=by
 rw [aA rfl rfl];have h1:¬(l.length:Int)<1:=by omega
 simp [KA,h0,h1,c32];refine dK l.length (fun _=>[]) 0 (fun i e=>look 0 e=some (.slice 1 (l.map c32))/\look 4 e=some (a8 i)/\∃a:Int,look 3 e=some (.int .u32 a)/\mxF (l.drop i) a=mxF l.tail l[0])
  (fun _=>some (Rt.val (.int .u32 (mxF l.tail l[0])))) ?_ ?_ 1 _ 0 (by omega) (Qc _) ?_
 ·rintro i e n L hi hL _ ⟨h0,h4,a,h3,hm⟩ ih;have hw:=aL i (by omega);rw [Qi hi] at hm;simp only [mxF] at hm;generalize hX:some (Rt.val (AV.int .u32 (mxF l.tail l[0])))=X;simp [c_216_l0,c32,h0,h4,h3,hi,hw];rw [<- hX];exact ih _ _ (Qc _) ⟨by simp [h0],by simp,max a l[i],by simp;split<;>omega,hm⟩
 ·rintro e n L hL _ ⟨h0,h4,a,h3,hm⟩;rw [QC] at hm;simp only [mxF] at hm;rw [<- hm];simp [c_216_l0,c_216_k1,h0,h4,h3,hL]
 ·simp
def szG (p:Prg) (rs:List (List Int)) (i:Nat):Option Int:=match rs[i]?,p.Xm[i]? with
 | some l,some r=>if (l.length:Int)=r.size then none else some 2
 | _,_=>none
def vlG (p:Prg) (rs:List (List Int)) (i:Nat):Option Int:=match rs[i]?,p.Xm[i]? with
 | some l,some r=>if l.any (fun v=>decide (eC r.Yd<v))=true then some 9 else none
 | _,_=>none
def conE (p:Prg) (rs:List (List Int)):Int:=if rs.length≠p.Xm.length then 2 else (fe (szG p rs) rs.length 0).getD ((fe (vlG p rs) rs.length 0).getD 0)
theorem con_b (f:PrgS p) (rs:List (List Int)) (hl:rs.length<2^40) (hs:∀l∈rs,l.length<2^40) (hz:rs.length=p.Xm.length) (e:Env) (n:Nat)
  (h1:look 1 e=some (.slice 1 (rs.map (cS 1 c32)))) (h2:look 2 e=some (.iptr 9 [Prg.c p] 0 0)):
  go Φ (finP [.tmp 4]) [.c c_153_k3] .normal ⟨e,⟨[],n⟩⟩=some (.val (a8 ((fe (vlG p rs) rs.length 0).getD 0))):=by
 simp [c_153_k3,h1];refine dK rs.length (fun _=>[]) 0 (fun i e=>look 2 e=some (.iptr 9 [Prg.c p] 0 0)/\look 32 e=some (.slice 1 (rs.map (cS 1 c32)))/\look 33 e=some (a8 rs.length)/\look 34 e=some (a8 i))
  (fun i=>some (Rt.val (a8 ((fe (vlG p rs) rs.length i).getD 0)))) ?_ ?_ 0 _ n (Qc _) (Qc _) ?_
 ·rintro i e n L hi hL _ ⟨h2,h32,h33,h34⟩ ih;have hw:=aL i (by omega);have hi2:i<p.Xm.length:=by omega
  have hm:=LV p.Xm[i].Yd;rw [Prg.e] at h2;by_cases e0:rs[i].length=0
  ·have e1:rs[i]=[]:=Qg e0;rw [cZ hi (by simp [vlG,hi,hi2,e1])];generalize hX:some (Rt.val (a8 ((fe (vlG p rs) rs.length (i+1)).getD 0)))=X;simp [c_153_l1,cSe,h32,h33,h34,hi,hw,e1];rw [<- hX];exact ih _ _ (Qc _) ⟨by simp [h2,Prg.e],by simp [h32],by simp [h33],by simp⟩
  have e1:0<rs[i].length:=by omega
  have hx:=Ov rs[i] e1 (hs _ (Qd hi));have hy:rs[i].any (fun v=>decide (eC p.Xm[i].Yd<v))=decide (eC p.Xm[i].Yd<mxF rs[i].tail rs[i][0]):=by
   rw [Bool.eq_iff_iff,decide_eq_true_eq,TH,SA];have hd:rs[i]=rs[i][0]::rs[i].tail:=by
    have:=Qi e1;simpa using this
   constructor
   ·rintro ⟨x,hx,hv⟩;rw [hd] at hx;rcases fI.1 hx with rfl | hx
    ·exact .inl (of_decide_eq_true hv)
    ·exact .inr ⟨x,hx,of_decide_eq_true hv⟩
   ·rintro (h | ⟨x,hx,hv⟩)
    ·exact ⟨_,Qd e1,decide_eq_true h⟩
    ·exact ⟨x,List.mem_of_mem_tail hx,decide_eq_true hv⟩
  by_cases v:eC p.Xm[i].Yd<mxF rs[i].tail rs[i][0]
  ·rw [aZ (x:=(9:Int)) hi (by simp only [vlG,Qa hi,Qa hi2];rw [hy,aB (decide_eq_true v)])];simp [c_153_l1,cSe,Xh.e,h2,h32,h33,h34,hi,hi2,e1,hx,hm,v]
  ·rw [cZ hi (by simp only [vlG,Qa hi,Qa hi2];rw [hy,QA (by simpa using v)])];generalize hX:some (Rt.val (a8 ((fe (vlG p rs) rs.length (i+1)).getD 0)))=X;simp [c_153_l1,cSe,Xh.e,h2,h32,h33,h34,hi,hi2,e1,hx,hm,v,hw];rw [<- hX];exact ih _ _ (Qc _) ⟨by simp [h2,Prg.e],by simp [h32],by simp [h33],by simp⟩
 ·rintro e n L hL _ ⟨h2,h32,h33,h34⟩;rw [dV];simp [c_153_l1,c_153_k2,h33,h34,hL]
 ·simp [h2]
theorem Iq (f:PrgS p) (rs:List (List Int)) (hl:rs.length<2^40) (hs:∀l∈rs,l.length<2^40):a9 Φ CA [.agg (Prg.c p),.slice 1 (rs.map (cS 1 c32))]=some (.val (a8 (conE p rs))):=by
 rw [aA rfl rfl];unfold conE;by_cases z:rs.length=p.Xm.length
 rotate_left
 ·simp [AG,Prg.e,z]
 rw [QA (by simpa using z)];generalize hY:some (Rt.val (a8 ((fe (szG p rs) rs.length 0).getD ((fe (vlG p rs) rs.length 0).getD 0))))=Y;simp [AG,Prg.e,z];rw [<- hY];refine dK rs.length (fun _=>[]) 0 (fun i e=>look 1 e=some (.slice 1 (rs.map (cS 1 c32)))/\look 2 e=some (.iptr 9 [Prg.c p] 0 0)/\look 15 e=some (.slice 1 (rs.map (cS 1 c32)))/\look 16 e=some (a8 rs.length)/\look 17 e=some (a8 i))
  (fun i=>some (Rt.val (a8 ((fe (szG p rs) rs.length i).getD ((fe (vlG p rs) rs.length 0).getD 0))))) ?_ ?_ 0 _ 0 (Qc _) (Qc _) ?_
 ·rintro i e n L hi hL _ ⟨h1,h2,h15,h16,h17⟩ ih;have hw:=aL i (by omega);have hi2:i<p.Xm.length:=by omega
  rw [Prg.e] at h2;by_cases v:(rs[i].length:Int)=p.Xm[i].size
  ·rw [cZ hi (by simp [szG,hi,hi2,v])];generalize hX:some (Rt.val (a8 ((fe (szG p rs) rs.length (i+1)).getD ((fe (vlG p rs) rs.length 0).getD 0))))=X;simp [c_153_l0,cSe,Xh.e,h2,h15,h16,h17,hi,hi2,v,hw];rw [<- hX];exact ih _ _ (Qc _) ⟨by simp [h1],by simp [h2,Prg.e],by simp [h15],by simp [h16],by simp⟩
  ·rw [aZ (x:=(2:Int)) hi (by simp [szG,hi,hi2,v])];simp [c_153_l0,cSe,Xh.e,h2,h15,h16,h17,hi,hi2,v]
 ·rintro e n L hL _ ⟨h1,h2,h15,h16,h17⟩;rw [dV];generalize hX:some (Rt.val (a8 ((none:Option Int).getD ((fe (vlG p rs) rs.length 0).getD 0))))=X;simp [c_153_l0,h16,h17,hL];rw [<- hX];exact con_b p f rs hl hs z _ _ (by simp [h1]) (by simp [h2])
 ·simp [Prg.e,z]
def wd (w:Int):Nat:=if wBad w then 0 else w.toNat
theorem wd_le (w:Int):wd w<=32:=by
 unfold wd;cases q:wBad w with
 | true=>simp
 | false=>
  obtain ⟨w1,w2⟩:=wBad_false.1 q;simp;omega
theorem qvh (w v:Int):eC w<v↔¬v<2^wd w:=by
 unfold eC wd;cases q:wBad w with
 | true=>simp;omega
 | false=>simp;omega
theorem Rk (r:Xh):a9 Φ DY [.agg (Xh.c r)]=some (.val (a8 (wd r.Yd))):=by
 rw [aA rfl rfl];by_cases h1:r.Yd<1
 ·simp [uQ,Xh.e,h1,wd,wBad]
 by_cases h2:32<r.Yd
 ·simp [uQ,Xh.e,h1,h2,wd,wBad]
 simp [uQ,Xh.e,h1,h2,wd,wBad];omega
section
variable (rs:List (List Int)) (hl:rs.length<2^40) (hs:∀l∈rs,l.length<2^40/\∀v∈l,ok32 0 v)
include rs hl hs
theorem Pl (hz:rs.length=p.Xm.length) (e:Env) (n:Nat)
  (h1:look 1 e=some (.slice 1 (rs.map (cS 1 c32)))) (h2:look 2 e=some (.iptr 9 [Prg.c p] 0 0)):
  go Φ (finP [.tmp 4]) [.c c_256_k5] .normal ⟨e,⟨[],n⟩⟩=some (.val (a8 ((fe (vlG p rs) rs.length 0).getD 0))):=by
 simp [c_256_k5];refine dK rs.length (fun _=>[]) 0 (fun i e=>look 1 e=some (.slice 1 (rs.map (cS 1 c32)))/\look 2 e=some (.iptr 9 [Prg.c p] 0 0)/\look 6 e=some (a8 i))
  (fun i=>some (Rt.val (a8 ((fe (vlG p rs) rs.length i).getD 0)))) ?_ ?_ 0 _ n (Qc _) (Qc _) ?_
 ·rintro i e n L hi hL _ ⟨h1,h2,h6⟩ ih;have hw:=aL i (by omega);have hi2:i<p.Xm.length:=by omega
  have hm:=hs _ (Qd hi);have hwd:=Rk p.Xm[i];simp only [Xh.e] at hwd;have hV:fe (vlG p rs) rs.length i=if rs[i].any (fun v=>decide (eC p.Xm[i].Yd<v))=true then some 9 else fe (vlG p rs) rs.length (i+1):=by
   by_cases y:rs[i].any (fun v=>decide (eC p.Xm[i].Yd<v))=true
   ·rw [aB y];exact aZ hi (by simp only [vlG,Qa hi,Qa hi2];rw [aB y])
   ·rw [QA y];exact cZ hi (by simp only [vlG,Qa hi,Qa hi2];rw [QA y])
  generalize hX:some (Rt.val (a8 ((fe (vlG p rs) rs.length (i+1)).getD 0)))=X at ih;generalize hY:some (Rt.val (a8 ((fe (vlG p rs) rs.length i).getD 0)))=Y;have hYX:Y=if rs[i].any (fun v=>decide (eC p.Xm[i].Yd<v))=true then some (Rt.val (a8 9)) else X:=by
   rw [<- hY,<- hX,hV];split<;>rfl
  simp [c_256_l3,h1,h6,hi];refine (dK rs[i].length (fun _=>[]) 0 (fun j e=>look 1 e=some (.slice 1 (rs.map (cS 1 c32)))/\look 2 e=some (.iptr 9 [Prg.c p] 0 0)/\look 6 e=some (a8 i)/\look 7 e=some (a8 j))
   (fun j=>if (rs[i].drop j).any (fun v=>decide (eC p.Xm[i].Yd<v))=true then some (Rt.val (a8 9)) else X) ?_ ?_ 0 _ n (Qc _) (Qc _) ?_).trans (by rw [hYX,List.drop_zero])
  ·rintro j e n L' hj hL' _ ⟨h1,h2,h6,h7⟩ ih';have hw':=aL j (by omega);have hf:=Td rs[i][j] (hm.2 _ (Qd hj)) (wd p.Xm[i].Yd) (wd_le _);rw [Prg.e] at h2;rw [Qi hj,IP];by_cases v:rs[i][j]<2^wd p.Xm[i].Yd
   ·rw [decide_eq_true v] at hf;rw [show decide (eC p.Xm[i].Yd<rs[i][j])=false from decide_eq_false fun h=>(qvh _ _).1 h v,MQ];generalize hZ:(if (rs[i].drop (j+1)).any (fun v=>decide (eC p.Xm[i].Yd<v))=true then some (Rt.val (a8 9)) else X)=Z;simp [c_256_l1,cSe,c32,Xh.e,h1,h2,h6,h7,hi,hi2,hj,hwd,hf,hw'];rw [<- hZ];exact ih' _ _ (Qc _) ⟨by simp [h1],by simp [h2,Prg.e],by simp [h6],by simp⟩
   ·rw [decide_eq_false v] at hf;rw [show decide (eC p.Xm[i].Yd<rs[i][j])=true from decide_eq_true ((qvh _ _).2 v),QH,aB rfl];simp [c_256_l1,cSe,c32,Xh.e,h1,h2,h6,h7,hi,hi2,hj,hwd,hf]
  ·rintro e n L' hL' _ ⟨h1,h2,h6,h7⟩;rw [QC,List.any_nil,QA (by decide)];simp [c_256_l1,cSe,h1,h6,h7,hi,hL',c_256_k2,hw];exact ih _ _ (Qc _) ⟨by simp [h1],by simp [h2],by simp⟩
  ·simp [h1,h2,h6]
 ·rintro e n L hL _ ⟨h1,h2,h6⟩;rw [dV];simp [c_256_l3,c_256_k4,h1,h6,hL]
 ·simp [h1,h2]
theorem Fo:a9 Φ DN [.agg (Prg.c p),.slice 1 (rs.map (cS 1 c32))]=some (.val (a8 (conE p rs))):=by
 rw [aA rfl rfl];unfold conE;by_cases z:rs.length=p.Xm.length
 rotate_left
 ·simp [B9,Prg.e,z]
 rw [QA (by simpa using z)];generalize hY:some (Rt.val (a8 ((fe (szG p rs) rs.length 0).getD ((fe (vlG p rs) rs.length 0).getD 0))))=Y;simp [B9,Prg.e,z];rw [<- hY];refine dK rs.length (fun _=>[]) 0 (fun i e=>look 1 e=some (.slice 1 (rs.map (cS 1 c32)))/\look 2 e=some (.iptr 9 [Prg.c p] 0 0)/\look 5 e=some (a8 i))
  (fun i=>some (Rt.val (a8 ((fe (szG p rs) rs.length i).getD ((fe (vlG p rs) rs.length 0).getD 0))))) ?_ ?_ 0 _ 0 (Qc _) (Qc _) ?_
 ·rintro i e n L hi hL _ ⟨h1,h2,h5⟩ ih;have hw:=aL i (by omega);have hi2:i<p.Xm.length:=by omega
  rw [Prg.e] at h2;by_cases v:(rs[i].length:Int)=p.Xm[i].size
  ·rw [cZ hi (by simp [szG,hi,hi2,v])];generalize hX:some (Rt.val (a8 ((fe (szG p rs) rs.length (i+1)).getD ((fe (vlG p rs) rs.length 0).getD 0))))=X;simp [c_256_l0,cSe,Xh.e,h1,h2,h5,hi,hi2,v,hw];rw [<- hX];exact ih _ _ (Qc _) ⟨by simp [h1],by simp [h2,Prg.e],by simp⟩
  ·rw [aZ (x:=(2:Int)) hi (by simp [szG,hi,hi2,v])];simp [c_256_l0,cSe,Xh.e,h1,h2,h5,hi,hi2,v]
 ·rintro e n L hL _ ⟨h1,h2,h5⟩;rw [dV];generalize hX:some (Rt.val (a8 ((none:Option Int).getD ((fe (vlG p rs) rs.length 0).getD 0))))=X;simp [c_256_l0,h1,h5,hL];rw [<- hX];exact Pl p rs hl hs z _ _ (by simp [h1]) (by simp [h2])
 ·simp [Prg.e]
end
structure CfgT (a:Xf):Prop where
 rl:a.rows.length<2^40
 rs:∀l∈a.rows,l.length<2^40/\∀r∈l,rowS r
 nl:a.Xr.length<2^40
 dl:a.Xq.length<2^40
 ds:∀d∈a.Xq,d.args.length<2^40/\∀v∈d.args,ok32 0 v
 gl:a.Xm.length<2^40
 gs:∀l∈a.Xm,l.length<2^40/\∀v∈l,ok32 0 v
def rowE (p:Prg) (k:Nat) (tb:Tbl) (l:List Rw) (nx:Int) (z:Int):Int:=if tb.size<l.length then 12 else tabK p k l nx z (ordL l 0)
theorem Pj (t:Int) (l:List Rw) (nx z:Int) (o:Option Int):tabK p t l nx z o=if tabK p t l nx 0 o≠0 then tabK p t l nx 0 o else z:=by
 cases o with
 | none=>simp [tabK]
 | some a=>
  simp only [tabK];by_cases z0:nx<=a
  ·simp [z0]
  by_cases z1:1073741824<nx
  ·simp [z0,z1]
  simp only [QA z0,QA z1];cases q:fe (rowG p t l) l.length 0 with
  | none=>simp
  | some x=>
   have hx:x≠0:=by
    obtain ⟨k,hk,hx⟩:=zN q;simp only [rowG,Qt] at hx;obtain ⟨r,_,hr⟩:=hx;split at hr
    ·cases hr;assumption
    ·split at hr
     ·cases hr;decide
     ·cases hr
   simp [hx]
theorem Rg (k:Nat) (tb:Tbl) (l:List Rw) (nx z:Int):rowE p k tb l nx z=if rowE p k tb l nx 0≠0 then rowE p k tb l nx 0 else z:=by
 unfold rowE;split
 ·simp
 ·exact Pj _ _ _ _ _ _
def stG (p:Prg) (c:Xf) (k:Nat):Option Int:=match p.Xn[k]?,c.rows[k]?,c.Xr[k]?,c.Xq[k]? with
 | some tb,some l,some nx,some d=>if rowE p k tb l nx (fD p k d)=0 then none else some (rowE p k tb l nx (fD p k d))
 | _,_,_,_=>none
def cfgE (p:Prg) (c:Xf):Int:=if (prgD p).1≠0 then (prgD p).1 else if c.rows.length≠p.Xn.length\/c.Xr.length≠p.Xn.length\/c.Xq.length≠p.Xn.length then 2
 else (fe (stG p c) p.Xn.length 0).getD (conE p c.Xm)
theorem Ii (f:PrgS p) (hc:(pre p.Yb).length<2^40 - 1) (c:Xf) (s:CfgT c):a9 Φ O7 [.agg (Prg.c p),.agg (Xf.c c)]=some (.val (a8 (cfgE p c))):=by
 rw [aA rfl rfl];have h:=Sg p f hc;simp only [Prg.e,dgC] at h;have ht:=f.t;by_cases z:(prgD p).1=0
 rotate_left
 ·simp [xZ,Prg.e,Xf.ce,h,z,cfgE]
 by_cases z1:c.rows.length=p.Xn.length
 rotate_left
 ·simp [xZ,Prg.e,Xf.ce,h,z,z1,cfgE]
 by_cases z2:c.Xr.length=p.Xn.length
 rotate_left
 ·simp [xZ,Prg.e,Xf.ce,h,z,z1,z2,cfgE]
 by_cases z3:c.Xq.length=p.Xn.length
 rotate_left
 ·simp [xZ,Prg.e,Xf.ce,h,z,z1,z2,z3,cfgE]
 rw [show cfgE p c=(fe (stG p c) p.Xn.length 0).getD (conE p c.Xm) by simp [cfgE,z,z1,z2,z3]];simp [xZ,Prg.e,Xf.ce,h,z,z1,z2,z3];refine dK p.Xn.length (fun _=>[]) 0 (fun i e=>look 2 e=some (.iptr 9 [Prg.c p] 0 0)/\look 3 e=some (.iptr 4 [Xf.c c] 0 0)/\look 38 e=some (a8 p.Xn.length)/\look 39 e=some (a8 i))
  (fun i=>some (Rt.val (a8 ((fe (stG p c) p.Xn.length i).getD (conE p c.Xm))))) ?_ ?_ 0 _ _ (Qc _) (Qc _) ?_
 ·rintro i e n L hi hL _ ⟨h2,h3,h38,h39⟩ ih;have hw:=aL i (by omega);have i1:i<c.rows.length:=by omega
  have i2:i<c.Xr.length:=by omega
  have i3:i<c.Xq.length:=by omega
  have hr:=s.rs _ (Qd i1);have hd:=s.ds _ (Qd i3);have hk:=Iu p f i hi c.rows[i] c.Xr[i] c.Xq[i] hr.1 hr.2 hd.1;rw [show (if p.Xn[i].size<(c.rows[i].length:Int) then (12:Int) else tabK p i c.rows[i] c.Xr[i] (fD p i c.Xq[i]) (ordL c.rows[i] 0))=rowE p i p.Xn[i] c.rows[i] c.Xr[i] (fD p i c.Xq[i]) from rfl] at hk;simp only [Prg.e,Xb.ce] at hk;rw [Prg.e] at h2;rw [Xf.ce] at h3;by_cases v:rowE p i p.Xn[i] c.rows[i] c.Xr[i] (fD p i c.Xq[i])=0
  ·rw [cZ hi (by simp [stG,hi,i1,i2,i3,v])];rw [v] at hk;generalize hX:some (Rt.val (a8 ((fe (stG p c) p.Xn.length (i+1)).getD (conE p c.Xm))))=X;simp [c_87_l0,cSe,cI,Xb.ce,h2,h3,h38,h39,hi,i1,i2,i3,hk,hw];rw [<- hX];exact ih _ _ (Qc _) ⟨by simp [h2,Prg.e],by simp [h3,Xf.ce],by simp [h38],by simp⟩
  ·rw [aZ (x:=rowE p i p.Xn[i] c.rows[i] c.Xr[i] (fD p i c.Xq[i])) hi (by simp [stG,hi,i1,i2,i3,v])];simp [c_87_l0,cSe,cI,Xb.ce,h2,h3,h38,h39,hi,i1,i2,i3,hk,v]
 ·rintro e n L hL _ ⟨h2,h3,h38,h39⟩;have hk:=Iq p f c.Xm s.gl fun l hl=>(s.gs l hl).1
  simp only [Prg.e] at hk;rw [Prg.e] at h2;rw [Xf.ce] at h3;rw [dV];simp [c_87_l0,c_87_k1,h2,h3,h38,h39,hL,hk]
 ·simp [Prg.e,Xf.ce]
theorem Fm (f:PrgS p) (hv:∀t∈p.Xn,∀v∈t.Yc.args,ok32 0 v) (hc:(pre p.Yb).length<2^40 - 1) (c:Xf) (s:CfgT c):a9 Φ CV [.agg (Prg.c p),.agg (Xf.c c)]=some (.val (a8 (cfgE p c))):=by
 rw [aA rfl rfl];have h:=Zt p f hv hc;simp only [Prg.e,dgC] at h;have ht:=f.t;by_cases z:(prgD p).1=0
 rotate_left
 ·simp [mZ,Prg.e,Xf.ce,h,z,cfgE]
 by_cases z1:c.rows.length=p.Xn.length
 rotate_left
 ·simp [mZ,Prg.e,Xf.ce,h,z,z1,cfgE]
 by_cases z2:c.Xr.length=p.Xn.length
 rotate_left
 ·simp [mZ,Prg.e,Xf.ce,h,z,z1,z2,cfgE]
 by_cases z3:c.Xq.length=p.Xn.length
 rotate_left
 ·simp [mZ,Prg.e,Xf.ce,h,z,z1,z2,z3,cfgE]
 rw [show cfgE p c=(fe (stG p c) p.Xn.length 0).getD (conE p c.Xm) by simp [cfgE,z,z1,z2,z3]];simp [mZ,Prg.e,Xf.ce,h,z,z1,z2,z3];refine dK p.Xn.length (fun _=>[]) 0 (fun i e=>look 2 e=some (.iptr 9 [Prg.c p] 0 0)/\look 3 e=some (.iptr 4 [Xf.c c] 0 0)/\look 5 e=some (a8 p.Xn.length)/\look 6 e=some (a8 i))
  (fun i=>some (Rt.val (a8 ((fe (stG p c) p.Xn.length i).getD (conE p c.Xm))))) ?_ ?_ 0 _ _ (Qc _) (Qc _) ?_
 ·rintro i e n L hi hL _ ⟨h2,h3,h5,h6⟩ ih;have hw:=aL i (by omega);have i1:i<c.rows.length:=by omega
  have i2:i<c.Xr.length:=by omega
  have i3:i<c.Xq.length:=by omega
  have hr:=s.rs _ (Qd i1);have hd:=s.ds _ (Qd i3);have hk:=Ey p f hv i hi c.rows[i] c.Xr[i] hr.1 hr.2;have hq:=Uy p f hv i c.Xq[i] hd.1 hd.2;rw [show (if p.Xn[i].size<(c.rows[i].length:Int) then (12:Int) else tabK p i c.rows[i] c.Xr[i] 0 (ordL c.rows[i] 0))=rowE p i p.Xn[i] c.rows[i] c.Xr[i] 0 from rfl] at hk;simp only [Prg.e,Xb.ce] at hk hq;rw [Prg.e] at h2;rw [Xf.ce] at h3;have hz:=Rg p i p.Xn[i] c.rows[i] c.Xr[i] (fD p i c.Xq[i]);by_cases v:rowE p i p.Xn[i] c.rows[i] c.Xr[i] 0=0
  ·rw [QA (by simpa using v)] at hz;rw [v] at hk;by_cases w:fD p i c.Xq[i]=0
   ·rw [cZ hi (by simp [stG,hi,i1,i2,i3,w,v])];rw [w] at hq;generalize hX:some (Rt.val (a8 ((fe (stG p c) p.Xn.length (i+1)).getD (conE p c.Xm))))=X;simp [c_206_l0,cSe,cI,Xb.ce,h2,h3,h5,h6,hi,i1,i2,i3,hk,hq,hw];rw [<- hX];exact ih _ _ (Qc _) ⟨by simp [h2,Prg.e],by simp [h3,Xf.ce],by simp [h5],by simp⟩
   ·rw [aZ (x:=fD p i c.Xq[i]) hi (by simp [stG,hi,i1,i2,i3,hz,w])];simp [c_206_l0,cSe,cI,Xb.ce,h2,h3,h5,h6,hi,i1,i2,i3,hk,hq,w]
  ·rw [aB v] at hz;rw [aZ (x:=rowE p i p.Xn[i] c.rows[i] c.Xr[i] 0) hi (by simp [stG,hi,i1,i2,i3,hz,v])];simp [c_206_l0,cSe,cI,h2,h3,h5,h6,hi,i1,i2,hk,v]
 ·rintro e n L hL _ ⟨h2,h3,h5,h6⟩;have hk:=Fo p c.Xm s.gl s.gs;simp only [Prg.e] at hk;rw [Prg.e] at h2;rw [Xf.ce] at h3;rw [dV];simp [c_206_l0,c_206_k1,h2,h3,h5,h6,hL,hk]
 ·simp [Prg.e,Xf.ce]
def regN (r:Xh):Nat:=if r.size<1\/64<r.size then 0 else r.size.toNat
theorem Ks (r:Xh):regN r<=64:=by
 unfold regN;split<;>omega
def newR (p:Prg):List (List Int):=p.Xm.map fun r=>List.replicate (regN r) 0
theorem Mb (f:PrgS p):a9 Φ qJ [.agg (Prg.c p)]=some (.val (.slice 1 ((newR p).map (cS 1 c32)))):=by
 rw [aA rfl rfl];have hr:=f.r;have e0:(newR p).map (cS 1 c32)=p.Xm.map fun r=>[AV.slice 1 (List.replicate (regN r) [AV.int .u32 0])]:=by
  simp [newR,cSe,c32]
 rw [e0];simp [JC,Prg.e];refine (dK p.Xm.length (fun i=>[(0,.tok 1 i)]) 1 (fun i e=>look 1 e=some (.iptr 9 [Prg.c p] 0 0)/\look 3 e=some (.app 1 ((p.Xm.map fun r=>[AV.slice 1 (List.replicate (regN r) [AV.int .u32 0])]).take i) 0)/\look 4 e=some (a8 i))
  (fun _=>some (Rt.val (.slice 1 (p.Xm.map fun r=>[AV.slice 1 (List.replicate (regN r) [AV.int .u32 0])])))) ?_ ?_ 0 _ 1 (Qc _) (Qb _) ?_).trans (by simp)
 ·rintro i e n L hi hL hn ⟨h1,h3,h4⟩ ih;have hw:=aL i (by omega);rw [Prg.e] at h1;have hn0:¬(0=n):=by omega
  have hn1:¬(n=0):=by omega
  have hm:min i p.Xm.length=i:=by omega
  have hb:(i+1)*24<=70368744177664:=by omega
  by_cases z:p.Xm[i].size<1
  ·have hz:regN p.Xm[i]=0:=by simp [regN,z]
   simp [c_138_l0,Xh.e,h1,h3,h4,hi,z,hw,hm,hb];exact ih _ _ (by omega) ⟨by simp [h1,Prg.e],by simp [jS hi,hz],by simp⟩
  by_cases z1:64<p.Xm[i].size
  ·have hz:regN p.Xm[i]=0:=by simp [regN,z1]
   simp [c_138_l0,Xh.e,h1,h3,h4,hi,z,z1,hw,hm,hb];exact ih _ _ (by omega) ⟨by simp [h1,Prg.e],by simp [jS hi,hz],by simp⟩
  obtain ⟨k,hk⟩:∃k:Nat,p.Xm[i].size=k:=⟨p.Xm[i].size.toNat,by omega⟩;have hz:regN p.Xm[i]=k:=by simp [regN,z,z1];omega
  have k1:(k:Int)*4<=140737488355328:=by omega
  have k3:k<4611686018427387904:=by omega
  have k0:¬(k:Int)<1:=by omega
  have k2:¬(64:Int)<k:=by omega
  simp [c_138_l0,Xh.e,h1,h3,h4,hi,hk,k0,k2,k1,k3,hw,hm,hb];exact ih _ _ (by omega) ⟨by simp [h1,Prg.e],by simp [jS hi,hz],by simp⟩
 ·rintro e n L hL hn ⟨h1,h3,h4⟩;rw [Prg.e] at h1;simp [c_138_l0,c_138_k1,h1,h3,h4,hL]
 ·simp [Prg.e]
def gA (p:Prg):Xf:=⟨p.Xn.map fun _=>[],p.Xn.map fun _=>1,p.Xn.map fun t=>t.Yc,newR p⟩
theorem qux:Xf.c (gA p)=[.slice 1 (p.Xn.map fun _=>[.slice 5 []]),.slice 1 (p.Xn.map fun _=>[a8 1]),.slice 2 (p.Xn.map fun t=>[a8 t.Yc.Xz,.slice 1 (t.Yc.args.map c32)]),.slice 1 ((newR p).map (cS 1 c32))]:=by
 simp [gA,Xf.ce,cSe,cI,Xb.ce]
theorem Ch (f:PrgS p):a9 Φ NT [.agg (Prg.c p)]=some (.val (.agg (Xf.c (gA p)))):=by
 rw [aA rfl rfl,qux];have ht:=f.t;have h:=Mb p f;simp only [Prg.e] at h;generalize (newR p).map (cS 1 c32)=W at h ⊢;simp [SN,Prg.e,h];by_cases z:p.Xn.length=0
 ·have e0:p.Xn=[]:=Qg z;rw [bG];simp [c_66_l0,c_66_k1,e0]
 have hp:0<p.Xn.length:=by omega
 rw [bG];simp [c_66_l0,Tbl.e,hp];have t1:∀{I:Type} (g:Tbl->I),(p.Xn.map g).take 1=[g p.Xn[0]]:=by
  intro I g;have:=jS (f:=g) hp;simpa using this
 refine tC p.Xn.length (fun i e h=>∃n,5<=n/\h=⟨[(0,AO.row 4 [[.Xu 1 [],.Xu 1 [],.Xu 2 [],.Xu 1 []]]),(1,AO.row 4 [[.app 1 ((p.Xn.map fun _=>[AV.slice 5 []]).take i) 2,.app 1 ((p.Xn.map fun _=>[a8 1]).take i) 3,
   .app 2 ((p.Xn.map fun t=>[a8 t.Yc.Xz,.slice 1 (t.Yc.args.map c32)]).take i) 4,.slice 1 W]]),(2,.tok 1 i),(3,.tok 1 i),(4,.tok 2 i)],n⟩/\look 1 e=some (.iptr 9 [Prg.c p] 0 0)/\look 2 e=some (.ptr 0 4 0 0)/\look 3 e=some (.ptr 1 4 0 0)/\look 4 e=some (a8 i))
  (fun _=>some (Rt.val (.agg [.slice 1 (p.Xn.map fun _=>[.slice 5 []]),.slice 1 (p.Xn.map fun _=>[a8 1]),.slice 2 (p.Xn.map fun t=>[a8 t.Yc.Xz,.slice 1 (t.Yc.args.map c32)]),.slice 1 W]))) ?_ ?_ 1 _ _ (by omega) ?_
 ·rintro i e _ L hi hL ⟨n,hn,rfl,h1,h2,h3,h4⟩ ih;have hw:=aL i (by omega);rw [Prg.e] at h1;have n0:¬(0=n):=by omega
  have n1:¬(1=n):=by omega
  have n2:¬(2=n):=by omega
  have n3:¬(3=n):=by omega
  have n4:¬(4=n):=by omega
  have m0:¬(n=0):=by omega
  have m1:¬(n=1):=by omega
  have m2:¬(n=2):=by omega
  have m3:¬(n=3):=by omega
  have m4:¬(n=4):=by omega
  have hm:min i p.Xn.length=i:=by omega
  have hb:(i+1)*24<=70368744177664:=by omega
  have hb2:(i+1)*8<=70368744177664:=by omega
  have hb3:(i+1)*32<=70368744177664:=by omega
  simp [Tbl.e,h1,h3,h4,hi,hw,hm,hb,hb2,hb3];exact ih _ _ ⟨_,by omega,by simp [jS hi],by simp [h1,Prg.e],by simp [h2],by simp [h3],by simp⟩
 ·rintro e _ L hL ⟨n,hn,rfl,h1,h2,h3,h4⟩;rw [Prg.e] at h1;simp [c_66_k1,h1,h2,h3,h4,hL]
 ·exact ⟨5,by omega,by simp [t1],by simp [Prg.e],by simp,by simp,by simp [wr1]⟩
theorem LO {Ψ:FuncId->Option AFun} {f z bytes:Nat} (hf:Ψ f=some (.rule (yM z bytes .app))) (es:List (List AV)) (hz:kS z es=true) (hb:es.length*bytes<=70368744177664):a9 Ψ f [.slice z es]=some (.val (.slice z es)):=by
 unfold a9;rw [Su Ψ hf];cases es with
 | nil=>simp [yM,lenOf,kF,evR,wS,H0,AH.put]
 | cons x es=>
  simp only [mH] at hb;simp [yM,lenOf,evR,wS,H0,AH.put,hz,hb]
theorem Wt (l:List Int) (h:l.length<2^40):a9 Φ qL [.slice 1 (l.map c32)]=some (.val (.slice 1 (l.map c32))):=
 LO (bytes:=4) rfl _ (sK 1 c32 l fun x=>by simp [c32]) (by rw [dQ];omega)
theorem Nl (l:List Xi) (h:l.length<2^40):a9 Φ D2 [.slice 2 (l.map Xi.c)]=some (.val (.slice 2 (l.map Xi.c))):=
 LO (bytes:=8) rfl _ (sK 2 Xi.c l fun x=>by simp [Xi.c]) (by rw [dQ];omega)
theorem UD (c:Xb) (h:c.args.length<2^40):a9 Φ tA [.agg (Xb.c c)]=some (.val (.agg (Xb.c c))):=by
 rw [aA rfl rfl];have k:=Wt c.args h;simp [SS,Xb.ce,k]
theorem qsc (x:Entry) (h:x.call.args.length<2^40) (h2:x.keys.length<2^40):a9 Φ vC [.agg (Entry.c x)]=some (.val (.agg (Entry.c x))):=by
 rw [aA rfl rfl];have k:=Nl x.keys h2;have k2:=UD x.call h;simp only [Xb.ce] at k2;simp [JK,Entry.ce,k,k2]
theorem It (x:Rw) (h:rowS x):a9 Φ CB [.agg (Rw.c x)]=some (.val (.agg (Rw.c x))):=by
 rw [aA rfl rfl];have k:=qsc x.entry h.al h.kl;simp only [Entry.ce] at k;simp [JI,Rw.ce,k]
theorem qtq (l:List Xj) (hl:l.length<2^39) (hf:∀x∈l,a9 Φ nB [.agg (Xj.c x)]=some (.val (.agg (Xj.c x)))):a9 Φ uX [.slice 2 (l.map Xj.c),.func (.func nB) [] []]=some (.val (.slice 2 (l.map Xj.c))):=by
 rw [aA rfl rfl];simp [IU];refine (dK l.length (fun i=>[(0,.tok 2 i)]) 1 (fun i e=>look 1 e=some (.func (.func nB) [] [])/\look 5 e=some (.app 2 ((l.map Xj.c).take i) 0)/\look 8 e=some (.slice 2 (l.map Xj.c))/\look 9 e=some (a8 l.length)/\look 10 e=some (a8 i))
  (fun _=>some (Rt.val (.slice 2 (l.map Xj.c)))) ?_ ?_ 0 _ 1 (Qc _) (Qb _) ?_).trans (by simp)
 ·rintro i e n L hi hL hn ⟨h1,h5,h8,h9,h10⟩ ih;have hw:=aL i (by omega);have hn0:¬(0=n):=by omega
  have hn1:¬(n=0):=by omega
  have hm:min i l.length=i:=by omega
  have hb:∀k,k<=128->(i+1)*k<=70368744177664:=fun k hk=>by
   have:(i+1)*k<=(i+1)*128:=Q6 _ hk;omega
  have hN:=hf _ (Qd hi);simp only [Xj.e] at hN;simp [c_104_l0,Xj.e,h1,h5,h8,h9,h10,hi,hw,hn0,hm,hb,hN];exact ih _ _ (by omega) ⟨by simp [h1],by simp [jS hi,Xj.e],by simp [h8],by simp [h9],by simp⟩
 ·rintro e n L hL hn ⟨h1,h5,h8,h9,h10⟩;simp [c_104_l0,c_104_k1,h5,h9,h10,hL]
 ·simp
theorem qo4 (l:List Xg) (hl:l.length<2^39) (hf:∀x∈l,a9 Φ nN [.agg (Xg.c x)]=some (.val (.agg (Xg.c x)))):a9 Φ vK [.slice 7 (l.map Xg.c),.func (.func nN) [] []]=some (.val (.slice 7 (l.map Xg.c))):=by
 rw [aA rfl rfl];simp [JZ];refine (dK l.length (fun i=>[(0,.tok 7 i)]) 1 (fun i e=>look 1 e=some (.func (.func nN) [] [])/\look 5 e=some (.app 7 ((l.map Xg.c).take i) 0)/\look 8 e=some (.slice 7 (l.map Xg.c))/\look 9 e=some (a8 l.length)/\look 10 e=some (a8 i))
  (fun _=>some (Rt.val (.slice 7 (l.map Xg.c)))) ?_ ?_ 0 _ 1 (Qc _) (Qb _) ?_).trans (by simp)
 ·rintro i e n L hi hL hn ⟨h1,h5,h8,h9,h10⟩ ih;have hw:=aL i (by omega);have hn0:¬(0=n):=by omega
  have hn1:¬(n=0):=by omega
  have hm:min i l.length=i:=by omega
  have hb:∀k,k<=128->(i+1)*k<=70368744177664:=fun k hk=>by
   have:(i+1)*k<=(i+1)*128:=Q6 _ hk;omega
  have hN:=hf _ (Qd hi);simp only [Xg.e] at hN;simp [c_188_l0,Xg.e,h1,h5,h8,h9,h10,hi,hw,hn0,hm,hb,hN];exact ih _ _ (by omega) ⟨by simp [h1],by simp [jS hi,Xg.e],by simp [h8],by simp [h9],by simp⟩
 ·rintro e n L hL hn ⟨h1,h5,h8,h9,h10⟩;simp [c_188_l0,c_188_k1,h5,h9,h10,hL]
 ·simp
theorem qtp (l:List Action) (hl:l.length<2^39) (hf:∀x∈l,a9 Φ nC [.agg (Action.c x)]=some (.val (.agg (Action.c x)))):a9 Φ uY [.slice 3 (l.map Action.c),.func (.func nC) [] []]=some (.val (.slice 3 (l.map Action.c))):=by
 rw [aA rfl rfl];simp [IW];refine (dK l.length (fun i=>[(0,.tok 3 i)]) 1 (fun i e=>look 1 e=some (.func (.func nC) [] [])/\look 5 e=some (.app 3 ((l.map Action.c).take i) 0)/\look 8 e=some (.slice 3 (l.map Action.c))/\look 9 e=some (a8 l.length)/\look 10 e=some (a8 i))
  (fun _=>some (Rt.val (.slice 3 (l.map Action.c)))) ?_ ?_ 0 _ 1 (Qc _) (Qb _) ?_).trans (by simp)
 ·rintro i e n L hi hL hn ⟨h1,h5,h8,h9,h10⟩ ih;have hw:=aL i (by omega);have hn0:¬(0=n):=by omega
  have hn1:¬(n=0):=by omega
  have hm:min i l.length=i:=by omega
  have hb:∀k,k<=128->(i+1)*k<=70368744177664:=fun k hk=>by
   have:(i+1)*k<=(i+1)*128:=Q6 _ hk;omega
  have hN:=hf _ (Qd hi);simp only [Action.e] at hN;simp [c_108_l0,Action.e,h1,h5,h8,h9,h10,hi,hw,hn0,hm,hb,hN];exact ih _ _ (by omega) ⟨by simp [h1],by simp [jS hi,Action.e],by simp [h8],by simp [h9],by simp⟩
 ·rintro e n L hL hn ⟨h1,h5,h8,h9,h10⟩;simp [c_108_l0,c_108_k1,h5,h9,h10,hL]
 ·simp
theorem quw (l:List Tbl) (hl:l.length<2^39) (hf:∀x∈l,a9 Φ nD [.agg (Tbl.c x)]=some (.val (.agg (Tbl.c x)))):a9 Φ uZ [.slice 6 (l.map Tbl.c),.func (.func nD) [] []]=some (.val (.slice 6 (l.map Tbl.c))):=by
 rw [aA rfl rfl];simp [IY];refine (dK l.length (fun i=>[(0,.tok 6 i)]) 1 (fun i e=>look 1 e=some (.func (.func nD) [] [])/\look 5 e=some (.app 6 ((l.map Tbl.c).take i) 0)/\look 8 e=some (.slice 6 (l.map Tbl.c))/\look 9 e=some (a8 l.length)/\look 10 e=some (a8 i))
  (fun _=>some (Rt.val (.slice 6 (l.map Tbl.c)))) ?_ ?_ 0 _ 1 (Qc _) (Qb _) ?_).trans (by simp)
 ·rintro i e n L hi hL hn ⟨h1,h5,h8,h9,h10⟩ ih;have hw:=aL i (by omega);have hn0:¬(0=n):=by omega
  have hn1:¬(n=0):=by omega
  have hm:min i l.length=i:=by omega
  have hb:∀k,k<=128->(i+1)*k<=70368744177664:=fun k hk=>by
   have:(i+1)*k<=(i+1)*128:=Q6 _ hk;omega
  have hN:=hf _ (Qd hi);simp only [Tbl.e] at hN;simp [c_110_l0,Tbl.e,h1,h5,h8,h9,h10,hi,hw,hn0,hm,hb,hN];exact ih _ _ (by omega) ⟨by simp [h1],by simp [jS hi,Tbl.e],by simp [h8],by simp [h9],by simp⟩
 ·rintro e n L hL hn ⟨h1,h5,h8,h9,h10⟩;simp [c_110_l0,c_110_k1,h5,h9,h10,hL]
 ·simp
theorem qm3 (l:List Xd) (hl:l.length<2^39) (hf:∀x∈l,a9 Φ nE [.agg (Xd.c x)]=some (.val (.agg (Xd.c x)))):a9 Φ v5 [.slice 7 (l.map Xd.c),.func (.func nE) [] []]=some (.val (.slice 7 (l.map Xd.c))):=by
 rw [aA rfl rfl];simp [J0];refine (dK l.length (fun i=>[(0,.tok 7 i)]) 1 (fun i e=>look 1 e=some (.func (.func nE) [] [])/\look 5 e=some (.app 7 ((l.map Xd.c).take i) 0)/\look 8 e=some (.slice 7 (l.map Xd.c))/\look 9 e=some (a8 l.length)/\look 10 e=some (a8 i))
  (fun _=>some (Rt.val (.slice 7 (l.map Xd.c)))) ?_ ?_ 0 _ 1 (Qc _) (Qb _) ?_).trans (by simp)
 ·rintro i e n L hi hL hn ⟨h1,h5,h8,h9,h10⟩ ih;have hw:=aL i (by omega);have hn0:¬(0=n):=by omega
  have hn1:¬(n=0):=by omega
  have hm:min i l.length=i:=by omega
  have hb:∀k,k<=128->(i+1)*k<=70368744177664:=fun k hk=>by
   have:(i+1)*k<=(i+1)*128:=Q6 _ hk;omega
  have hN:=hf _ (Qd hi);simp only [Xd.e] at hN;simp [c_112_l0,Xd.e,h1,h5,h8,h9,h10,hi,hw,hn0,hm,hb,hN];exact ih _ _ (by omega) ⟨by simp [h1],by simp [jS hi,Xd.e],by simp [h8],by simp [h9],by simp⟩
 ·rintro e n L hL hn ⟨h1,h5,h8,h9,h10⟩;simp [c_112_l0,c_112_k1,h5,h9,h10,hL]
 ·simp
theorem Ry (l:List Xa) (hl:l.length<2^39) (hf:∀x∈l,a9 Φ nH [.agg (Xa.c x)]=some (.val (.agg (Xa.c x)))):a9 Φ nG [.slice 5 (l.map Xa.c),.func (.func nH) [] []]=some (.val (.slice 5 (l.map Xa.c))):=by
 rw [aA rfl rfl];simp [J2];refine (dK l.length (fun i=>[(0,.tok 5 i)]) 1 (fun i e=>look 1 e=some (.func (.func nH) [] [])/\look 5 e=some (.app 5 ((l.map Xa.c).take i) 0)/\look 8 e=some (.slice 5 (l.map Xa.c))/\look 9 e=some (a8 l.length)/\look 10 e=some (a8 i))
  (fun _=>some (Rt.val (.slice 5 (l.map Xa.c)))) ?_ ?_ 0 _ 1 (Qc _) (Qb _) ?_).trans (by simp)
 ·rintro i e n L hi hL hn ⟨h1,h5,h8,h9,h10⟩ ih;have hw:=aL i (by omega);have hn0:¬(0=n):=by omega
  have hn1:¬(n=0):=by omega
  have hm:min i l.length=i:=by omega
  have hb:∀k,k<=128->(i+1)*k<=70368744177664:=fun k hk=>by
   have:(i+1)*k<=(i+1)*128:=Q6 _ hk;omega
  have hN:=hf _ (Qd hi);obtain ⟨kk,tt,cc,aa,bb,hx⟩:=wQ l[i];rw [hx,Xa.ce] at hN;simp [c_114_l0,hx,Xa.ce,h1,h5,h8,h9,h10,hi,hw,hn0,hm,hb,hN];exact ih _ _ (by omega) ⟨by simp [h1],by simp [jS hi,hx,Xa.ce],by simp [h8],by simp [h9],by simp⟩
 ·rintro e n L hL hn ⟨h1,h5,h8,h9,h10⟩;simp [c_114_l0,c_114_k1,h5,h9,h10,hL]
 ·simp
theorem qyd (H:AH):∀l:List Int,mapO (mapO (snap 39 H)) (l.map cI)=some (l.map cI)
 | []=>by simp [mapO]
 | x::l=>by
  have ih:=qyd H l;simp only [u9,mapO,ih];simp [cI,mapO]
theorem Ws (l:List Int) (h:l.length<2^40):a9 Φ gJ [.slice 1 (l.map cI)]=some (.val (.slice 1 (l.map cI))):=by
 unfold a9;rw [Su Φ (g:=yM 1 8 .row) rfl];cases l with
 | nil=>simp [yM,lenOf,kF,evR,wS,H0,AH.put]
 | cons x l=>
  have hb:(l.length+1)*8<=70368744177664:=by simp at h;omega
  have hm:=qyd ⟨[(0,.row 1 ((x::l).map cI))],1⟩ (x::l);simp [cI] at hm;simp [yM,lenOf,evR,wS,H0,AH.put,hb,cI,hm]
theorem Wq (l:List Fld) (h:l.length<2^40):a9 Φ qF [.slice 2 (l.map Fld.c)]=some (.val (.slice 2 (l.map Fld.c))):=
 LO (bytes:=24) rfl _ (sK 2 Fld.c l fun x=>by simp [Fld.e]) (by rw [dQ];omega)
theorem Nk (l:List Xh) (h:l.length<2^40):a9 Φ BQ [.slice 3 (l.map Xh.c)]=some (.val (.slice 3 (l.map Xh.c))):=
 LO (bytes:=32) rfl _ (sK 3 Xh.c l fun x=>by simp [Xh.e]) (by rw [dQ];omega)
theorem Nm (l:List Xl) (h:l.length<2^40):a9 Φ CM [.slice 3 (l.map Xl.c)]=some (.val (.slice 3 (l.map Xl.c))):=
 LO (bytes:=24) rfl _ (sK 3 Xl.c l fun x=>by simp [Xl.e]) (by rw [dQ];omega)
theorem Nj (l:List Xk) (h:l.length<2^40):a9 Φ CN [.slice 3 (l.map Xk.c)]=some (.val (.slice 3 (l.map Xk.c))):=
 LO (bytes:=16) rfl _ (sK 3 Xk.c l fun x=>by simp [Xk.e]) (by rw [dQ];omega)
theorem Wp (l:List Xe) (h:l.length<2^40):a9 Φ qY [.slice 3 (l.map Xe.c)]=some (.val (.slice 3 (l.map Xe.c))):=
 LO (bytes:=24) rfl _ (sK 3 Xe.c l fun x=>by simp [Xe.c]) (by rw [dQ];omega)
theorem qy2 (x:Xj) (h:x.Ya.length<2^40):a9 Φ nB [.agg (Xj.c x)]=some (.val (.agg (Xj.c x))):=by
 rw [aA rfl rfl];have k:=Wq x.Ya h;simp [IV,Xj.e,k]
theorem qtl (x:Xg) (h:x.index.length<2^40) (h2:x.value.length<2^40):a9 Φ nN [.agg (Xg.c x)]=some (.val (.agg (Xg.c x))):=by
 rw [aA rfl rfl];have k:=Wp x.index h;have k2:=Wp x.value h2;simp [K0,Xg.e,k,k2]
theorem Ak (x:Tbl) (h:x.keys.length<2^40) (h2:x.Xy.length<2^40) (h3:x.Yc.args.length<2^40):a9 Φ nD [.agg (Tbl.c x)]=some (.val (.agg (Tbl.c x))):=by
 rw [aA rfl rfl];have k:=Nm x.keys h;have k2:=Ws x.Xy h2;have k3:=Wt x.Yc.args h3;simp [IZ,Tbl.e,k,k2,k3]
theorem Aj (x:Xd) (h:x.extract.length<2^40) (h2:x.cases.length<2^40):a9 Φ nE [.agg (Xd.c x)]=some (.val (.agg (Xd.c x))):=by
 rw [aA rfl rfl];have k:=Ws x.extract h;have k2:=Nj x.cases h2;simp [J1,Xd.e,k,k2]
theorem qy0 (x:Action) (h:x.params.length<2^40) (h2:x.body.length<2^39) (h3:∀s∈x.body,s.index.length<2^40/\s.value.length<2^40):a9 Φ nC [.agg (Action.c x)]=some (.val (.agg (Action.c x))):=by
 rw [aA rfl rfl];have k:=Wq x.params h;have k2:=qo4 x.body h2 fun s hs=>qtl s (h3 s hs).1 (h3 s hs).2
 simp [IX,Action.e,k,k2]
theorem Uq:∀(n:Nat) (x:Xa),SizeOf.sizeOf x<=n->Xa.Ok fL x->a9 Φ nH [.agg (Xa.c x)]=some (.val (.agg (Xa.c x)))
 | 0,x,h,_=>by cases x;simp at h
 | n+1,x,h,ho=>by
  obtain ⟨k,t,c,a,b,rfl⟩:=wQ x;simp only [Xa.Ok] at ho;obtain ⟨_,_,hc,⟨ha1,ha2⟩,hb1,hb2⟩:=ho;rw [Xa.oks_eq] at ha2 hb2;have e:=TZ;simp at h;have hc1:=hc.1;have k1:=Wp c (by omega);have k2:=Ry a (by omega) fun y hy=>Uq n y (by have:=IK hy;omega) (ha2 y hy)
  have k3:=Ry b (by omega) fun y hy=>Uq n y (by have:=IK hy;omega) (hb2 y hy)
  rw [aA rfl rfl];simp [J3,Xa.ce,k1,k2,k3]
theorem qs1 (op:p.Ok fL):a9 Φ GU [.agg (Prg.c p)]=some (.val (.agg (Prg.c p))):=by
 have f:=HL op;obtain ⟨_,o1,o2,o3,o4,o5,o6,o7,o8⟩:=op;have e:=TZ;have k1:=qtq p.Xp (by have:=o1.1;omega) fun x hx=>qy2 x (f.hl x hx)
 have k2:=Wq p.Xo f.m;have k3:=Nk p.Xm f.r;have k4:=qtp p.Xy (by have:=o4.1;omega) fun x hx=>qy0 x (f.ap x hx) (by
  have h:=o4.2 x hx;simp only [Action.Ok] at h;have:=h.2.2.1;omega) fun s hs=>⟨f.ai x hx s hs,f.av x hx s hs⟩
 have k5:=quw p.Xn (by have:=o5.1;omega) fun x hx=>Ak x (f.tk x hx) (f.ta x hx) (f.tg x hx)
 have k6:=qm3 p.Xx (by have:=o6.1;omega) fun x hx=>Aj x (f.se x hx) (f.sc x hx)
 have k7:=Ry p.Yb (by have:=o7.1;omega) fun x hx=>Uq _ x (Qb _) (o7.2 x hx)
 have k8:=Ws p.Xs f.d;rw [aA rfl rfl];simp [SH,Prg.e,k1,k2,k3,k4,k5,k6,k7,k8]
def RegV (T:List (Nat×AO)) (x:AV) (r:Xh):Prop:=(x= .Xu 1 []/\regN r=0)\/∃id,1<=id/\x= .row id 1 0 (regN r)/\look id T=some (.row 1 (List.replicate (regN r) [.int .u32 0]))
inductive RegL (T:List (Nat×AO)):List AV->List Xh->Prop
 | nil:RegL T [] []
 | snoc {A rs x r} (h:RegL T A rs) (hx:RegV T x r):RegL T (A++[x]) (rs++[r])
theorem RegV.app {T:List (Nat×AO)} {x:AV} {r:Xh} (h:RegV T x r) (U:List (Nat×AO)):RegV (T++U) x r:=by
 rcases h with h | ⟨id,h1,h2,h3⟩
 ·exact .inl h
 ·exact .inr ⟨id,h1,h2,by rw [lK,h3];simp⟩
theorem RegL.app {T:List (Nat×AO)} {A:List AV} {rs:List Xh} (h:RegL T A rs) (U:List (Nat×AO)):RegL (T++U) A rs:=by
 induction h with
 | nil=>exact .nil
 | snoc h hx ih=>exact .snoc ih (hx.app U)
theorem RegL.len {T:List (Nat×AO)} {A:List AV} {rs:List Xh} (h:RegL T A rs):A.length=rs.length:=by
 induction h with
 | nil=>rfl
 | snoc h hx ih=>simp [ih]
theorem qvg (H:AH) (k:Nat):∀m,mapO (mapO (snap 38 H)) (List.replicate m [AV.int .u32 k])=some (List.replicate m [AV.int .u32 k])
 | 0=>by simp [mapO]
 | m+1=>by
  have ih:=qvg H k m;simp only [WO,mapO,ih];simp
theorem qsx {α I:Type} (f:α->Option I):∀(l:List α) (x:α) (l':List I) (y:I),mapO f l=some l'->f x=some y->mapO f (l++[x])=some (l'++[y])
 | [],x,l',y,h,hy=>by
  simp [mapO] at h;subst h;simp [mapO,hy]
 | a::l,x,l',y,h,hy=>by
  simp only [mapO] at h;cases hb:f a with
  | none=>rw [hb] at h;cases h
  | some b=>
   rw [hb] at h;cases hm:mapO f l with
   | none=>rw [hm] at h;cases h
   | some m=>
    rw [hm] at h;cases h;have ih:=qsx f l x m y hm hy;simp only [jM,mapO,hb,ih]
theorem RegL.snp {T:List (Nat×AO)} {A:List AV} {rs:List Xh} (h:RegL T A rs) (o:AO) (n:Nat):
  mapO (mapO (snap 39 ⟨(0,o)::T,n⟩)) (A.map fun x=>[x])=some (rs.map fun r=>[AV.slice 1 (List.replicate (regN r) [.int .u32 0])]):=by
 induction h with
 | nil=>simp [mapO]
 | snoc h hx ih=>
  rw [u7,u7];refine qsx _ _ _ _ _ ih ?_;rcases hx with ⟨rfl,h0⟩ | ⟨id,h1,rfl,h3⟩
  ·simp [mapO,h0]
  ·have hi:¬(0=id):=by omega
   have hr:=qvg ⟨(0,o)::T,n⟩ 0;simp at hr;simp [mapO,look,hi,h3,hr]
variable {n:Nat}
theorem Bq {T:List (Nat×AO)} (h:∀m,n<=m->look m T=none) (o:AO):∀m,n+1+1<=m->look m (T++[(n+1,o)])=none:=by
 intro m hm;have:¬(n+1=m):=by omega
 rw [lK,h m (by omega)];simp [look,this]
theorem Ow (f:PrgS p):a9 Φ O6 [.agg (Prg.c p)]=some (.val (.slice 1 ((newR p).map (cS 1 c32)))):=by
 rw [aA rfl rfl];have hr:=f.r;have e0:(newR p).map (cS 1 c32)=p.Xm.map fun r=>[AV.slice 1 (List.replicate (regN r) [AV.int .u32 0])]:=by
  simp [newR,cSe,c32]
 rw [e0];have b0:(p.Xm.length:Int)*24<=140737488355328:=by omega
 have b3:p.Xm.length<4611686018427387904:=by omega
 simp [SR,Prg.e,b0,b3];refine tC p.Xm.length (fun i e h=>∃(A:List AV) (T:List (Nat×AO)) (n:Nat),h=⟨(0,.row 1 (A.map (fun x=>[x])++List.replicate (p.Xm.length - i) [AV.Xu 1 []]))::T,n⟩/\1<=n/\(∀m,n<=m->look m T=none)/\RegL T A (p.Xm.take i)/\
   look 3 e=some (.row 0 1 0 p.Xm.length)/\look 11 e=some (.slice 3 (p.Xm.map Xh.c))/\look 12 e=some (a8 p.Xm.length)/\look 13 e=some (a8 i))
  (fun _=>some (Rt.val (.slice 1 (p.Xm.map fun r=>[AV.slice 1 (List.replicate (regN r) [AV.int .u32 0])])))) ?_ ?_ 0 _ _ (Qc _) ?_
 ·rintro i e _ L hi hL ⟨A,T,n,rfl,hn,hT,hR,h3,h11,h12,h13⟩ ih;have hw:=aL i (by omega);have hA:A.length=i:=by rw [hR.len];simp;omega
  have hs:=qwe p.Xm[i];have hN:p.Xm.length - i=(p.Xm.length - (i+1))+1:=by omega
  rw [hN,WO];have hn0:¬(0=n):=by omega
  have hn1:¬(n=0):=by omega
  have hTn:=hT n (Qb _);have hTn1:=hT (n+1) (by omega);have hsn:∀{U:List (Nat×AO)} {x:AV},RegL U A (p.Xm.take i)->RegV U x p.Xm[i]->RegL U (A++[x]) (p.Xm.take (i+1)):=by
   intro U x h1 h2;rw [Qh hi];exact .snoc h1 h2
  simp only [Xh.e] at hs;by_cases z:p.Xm[i].size<1\/64<p.Xm[i].size
  ·have hz:regN p.Xm[i]=0:=by simp [regN,z]
   rw [show (!(decide (p.Xm[i].size<1) || decide (64<p.Xm[i].size)))=false by rcases z with z | z<;>simp [z]] at hs;simp [c_84_l0,Xh.e,h11,h12,h13,hi,hs,hw,hn0,hTn];exact ih _ _ ⟨A++[.Xu 1 []],T,_,by simp;rfl,by omega,fun m hm=>hT m (by omega),hsn hR (.inl ⟨rfl,hz⟩),by simp [h3],by simp [h11],by simp [h12],by simp⟩
  ·obtain ⟨k,hk⟩:∃k:Nat,p.Xm[i].size=k:=⟨p.Xm[i].size.toNat,by omega⟩;have hz:regN p.Xm[i]=k:=by simp [regN,z];omega
   rw [show (!(decide (p.Xm[i].size<1) || decide (64<p.Xm[i].size)))=true by simp;omega] at hs;have b1:(k:Int)*4<=140737488355328:=by omega
   have b2:k<4611686018427387904:=by omega
   rw [hk] at hs;simp [c_84_l0,Xh.e,h3,h11,h12,h13,hi,hs,hk,hw,hn0,hn1,hTn,hTn1,b1,b2,hA];refine ih _ _ ⟨A++[.row (n+1) 1 0 k],T++[(n+1,.row 1 (List.replicate k [.int .u32 0]))],n+1+1,by simp,by omega,Bq hT _,hsn (hR.app _) (.inr ⟨n+1,by omega,by rw [hz],by rw [lK,hTn1,hz];simp⟩),by simp [h3],by simp [h11],by simp [h12],by simp⟩
 ·rintro e _ L hL ⟨A,T,n,rfl,hn,hT,hR,h3,h11,h12,h13⟩;have hS:=hR.snp (.row 1 (A.map (fun x=>[x])++List.replicate (p.Xm.length - p.Xm.length) [AV.Xu 1 []])) n;have hA:A.length=p.Xm.length:=by rw [hR.len];simp
  simp at hS;have hTk:(A.map fun x=>[x]).take p.Xm.length=A.map fun x=>[x]:=by
   rw [Qo];simp [hA]
  simp [c_84_l0,c_84_k1,h3,h12,h13,hL,hA,hTk,hS]
 ·exact ⟨[],[],1,by simp,by omega,fun _ _=>rfl,by simpa using RegL.nil,by simp,by simp,by simp,by simp⟩
structure TabV (p:Prg) (k:Nat) (tb:Tbl) (l:List Rw) (nx:Int) (d:Xb):Prop where
 size:(l.length:Int)<=tb.size
 pos:∀r∈l,0<r.id
 lt:∀r∈l,r.id<nx
 inc:l.Pairwise (fun a b=>a.id<b.id)
 nx0:0<nx
 nx1:nx<=1073741824
 ent:∀r∈l,entE p k r.entry=0
 uniq:l.Pairwise (fun a b=>sk a.entry b.entry=false)
 Yc:fD p k d=0
theorem qvp (nx:Int):∀(l:List Rw) (a:Int),(∃b,ordL l a=some b/\b<nx)↔a<nx/\(∀r∈l,a<r.id/\r.id<nx)/\l.Pairwise (fun a b=>a.id<b.id)
 | [],a=>by simp [ordL]
 | r::l,a=>by
  have ih:=qvp nx l r.id;simp only [ordL];by_cases h:r.id<=a
  ·rw [aB h];constructor
   ·rintro ⟨b,hb,_⟩;cases hb
   ·rintro ⟨_,h2,_⟩;have:=(h2 r (by simp)).1;omega
  ·rw [QA h,ih,WR];constructor
   ·rintro ⟨h1,h2,h3⟩;refine ⟨by omega,?_,fun x hx=>(h2 x hx).1,h3⟩;intro x hx;rcases fI.1 hx with rfl | hx
    ·exact ⟨by omega,h1⟩
    ·have:=h2 x hx;exact ⟨by omega,this.2⟩
   ·rintro ⟨h1,h2,h3,h4⟩;exact ⟨(h2 r (by simp)).2,fun x hx=>⟨h3 x hx,(h2 x (by simp [hx])).2⟩,h4⟩
theorem Cl (t:Int) (l:List Rw):(∀i,i<l.length->rowG p t l i=none)↔(∀r∈l,entE p t r.entry=0)/\l.Pairwise (fun a b=>sk a.entry b.entry=false):=by
 have key:∀i (hi:i<l.length),rowG p t l i=none↔entE p t l[i].entry=0/\∀j (hj:j<i),sk l[j].entry l[i].entry=false:=by
  intro i hi;simp only [rowG,Qa hi,iW];by_cases h:entE p t l[i].entry=0
  ·rw [QA (by simpa using h)];have:((l.take i).any fun y=>sk y.entry l[i].entry)=true↔¬∀j (hj:j<i),sk l[j].entry l[i].entry=false:=by
    rw [SA];constructor
    ·rintro ⟨y,hy,hs⟩ hc;obtain ⟨j,hj,rfl⟩:=Qn.1 hy;simp at hj;have:=hc j (by omega);simp only [mG] at hs;rw [this] at hs;cases hs
    ·intro hc;simp only [Classical.not_forall] at hc;obtain ⟨j,hj,hs⟩:=hc;refine ⟨l[j],?_,by simpa using hs⟩;rw [List.mem_take_iff_getElem];exact ⟨j,by omega,rfl⟩
   by_cases hu:∀j (hj:j<i),sk l[j].entry l[i].entry=false
   ·rw [QA (by rw [this];exact fun hc=>hc hu)];simp [h];exact hu
   ·rw [aB (this.2 hu)];simp [h];simpa using hu
  ·rw [aB h];simp [h]
 constructor
 ·intro h;refine ⟨?_,?_⟩
  ·intro r hr;obtain ⟨i,hi,rfl⟩:=Qn.1 hr;exact ((key i hi).1 (h i hi)).1
  ·rw [MK];intro i j hi hj hij;exact ((key j hj).1 (h j hj)).2 i hij
 ·rintro ⟨h1,h2⟩ i hi;rw [key i hi];refine ⟨h1 _ (Qd hi),?_⟩;intro j hj;exact MK.1 h2 j i (by omega) hi hj
variable {i:Nat} {x:Int}
theorem Md (t:Int) (l:List Rw) (h:rowG p t l i=some x):x≠0:=by
 simp only [rowG,Qt] at h;obtain ⟨r,_,hr⟩:=h;split at hr
 ·cases hr;assumption
 ·split at hr
  ·cases hr;decide
  ·cases hr
theorem qs9 (k:Nat) (tb:Tbl) (l:List Rw) (nx:Int) (d:Xb):rowE p k tb l nx (fD p k d)=0↔TabV p k tb l nx d:=by
 have hI:=qvp nx l 0;have hG:=Cl p k l;rw [<- fe_all] at hG;unfold rowE;by_cases h:tb.size<(l.length:Int)
 ·rw [aB h];constructor
  ·intro hc;cases hc
  ·intro hv;have:=hv.size;omega
 rw [QA h];cases ho:ordL l 0 with
 | none=>
  rw [ho] at hI;simp only [tabK];constructor
  ·intro hc;cases hc
  ·intro hv;obtain ⟨b,hb,_⟩:=hI.2 ⟨hv.nx0,fun r hr=>⟨hv.pos r hr,hv.lt r hr⟩,hv.inc⟩;cases hb
 | some a=>
  rw [ho] at hI;simp only [tabK];by_cases h1:nx<=a
  ·rw [aB h1];constructor
   ·intro hc;cases hc
   ·intro hv;obtain ⟨b,hb,h2⟩:=hI.2 ⟨hv.nx0,fun r hr=>⟨hv.pos r hr,hv.lt r hr⟩,hv.inc⟩;cases hb;omega
  rw [QA h1];have hJ:=hI.1 ⟨a,rfl,by omega⟩;by_cases h2:1073741824<nx
  ·rw [aB h2];constructor
   ·intro hc;cases hc
   ·intro hv;have:=hv.nx1;omega
  rw [QA h2];cases hf:fe (rowG p k l) l.length 0 with
  | some x=>
   have hx:x≠0:=by
    obtain ⟨i,_,hx⟩:=zN hf;exact Md p k l hx
   rw [hf] at hG;simp only [sY];constructor
   ·intro hc;exact absurd hc hx
   ·intro hv;have:=hG.2 ⟨hv.ent,hv.uniq⟩;cases this
  | none=>
   have hq:=hG.1 hf;simp only [WV];constructor
   ·intro hc;exact ⟨by omega,fun r hr=>(hJ.2.1 r hr).1,fun r hr=>(hJ.2.1 r hr).2,hJ.2.2,hJ.1,by omega,hq.1,hq.2,hc⟩
   ·intro hv;exact hv.Yc
structure CfgV (p:Prg) (c:Xf):Prop where
 prg:(prgD p).1=0
 rl:c.rows.length=p.Xn.length
 nl:c.Xr.length=p.Xn.length
 dl:c.Xq.length=p.Xn.length
 tab:∀k tb l nx d,p.Xn[k]? =some tb->c.rows[k]? =some l->c.Xr[k]? =some nx->c.Xq[k]? =some d->TabV p k tb l nx d
 con:conE p c.Xm=0
variable {k:Nat}
theorem Pg (c:Xf) (h:stG p c k=some x):x≠0:=by
 unfold stG at h;split at h
 ·split at h
  ·cases h
  ·cases h;assumption
 ·cases h
theorem QV (c:Xf):cfgE p c=0↔CfgV p c:=by
 unfold cfgE;by_cases h:(prgD p).1=0
 rotate_left
 ·rw [aB h];exact ⟨fun hc=>absurd hc h,fun hv=>absurd hv.prg h⟩
 rw [QA (by simpa using h)];by_cases hl:c.rows.length≠p.Xn.length\/c.Xr.length≠p.Xn.length\/c.Xq.length≠p.Xn.length
 ·rw [aB hl];constructor
  ·intro hc;cases hc
  ·intro hv;have:=hv.rl;have:=hv.nl;have:=hv.dl;omega
 rw [QA hl];have l1:c.rows.length=p.Xn.length:=by omega
 have l2:c.Xr.length=p.Xn.length:=by omega
 have l3:c.Xq.length=p.Xn.length:=by omega
 cases hf:fe (stG p c) p.Xn.length 0 with
 | some x=>
  obtain ⟨k,hk,hx⟩:=zN hf;simp only [sY];constructor
  ·intro hc;exact absurd hc (Pg p c hx)
  ·intro hv;have hq:stG p c k=none:=by
    unfold stG;split
    ·rename_i tb l nx d e1 e2 e3 e4;rw [aB ((qs9 p k tb l nx d).2 (hv.tab k tb l nx d e1 e2 e3 e4))]
    ·rfl
   rw [hq] at hx;cases hx
 | none=>
  simp only [WV];have ha:=fe_all.1 hf;constructor
  ·intro hc;refine ⟨h,l1,l2,l3,?_,hc⟩;intro k tb l nx d e1 e2 e3 e4;have hk:=(Qm.1 e1).1;have hq:=ha k hk;simp only [stG,e1,e2,e3,e4] at hq;split at hq
   ·rename_i hz;exact (qs9 p k tb l nx d).1 hz
   ·cases hq
  ·intro hv;exact hv.con
def kT (c:Xf) (t:Int):List Rw:=(at? c.rows t).getD []
def wR (c:Xf) (t:Int):Int:=(at? c.Xr t).getD 0
def US (p:Prg) (t:Int):Int:=((at? p.Xn t).map Tbl.size).getD 0
def inT (p:Prg) (t:Int):Bool:=decide (0<=t)&&decide (t<p.Xn.length)
def rIdx (l:List Rw) (id:Int):Option Nat:=l.findIdx? fun r=>decide (r.id=id)
def insE (p:Prg) (c:Xf) (t:Int) (x:Entry):Int:=
 if inT p t=false then 8 else if entE p t x≠0 then entE p t x else if (kT c t).any (fun y=>sk y.entry x)=true then 7
 else if US p t<=(kT c t).length\/1073741824<=wR c t then 13 else 0
def insC (c:Xf) (t:Int) (x:Entry):Xf:=⟨c.rows.set t.toNat (kT c t++[⟨wR c t,x⟩]),c.Xr.set t.toNat (wR c t+1),c.Xq,c.Xm⟩
def modE (p:Prg) (c:Xf) (t id:Int) (x:Xb):Int:=
 if inT p t=false then 8 else if rIdx (kT c t) id=none then 8 else fD p t x
def jU (x:Xb) (r:Rw):Rw:=⟨r.id,⟨r.entry.keys,r.entry.Xt,x⟩⟩
def modC (c:Xf) (t id:Int) (x:Xb):Xf:=match rIdx (kT c t) id with
 | some i=>⟨c.rows.set t.toNat ((kT c t).modify i (jU x)),c.Xr,c.Xq,c.Xm⟩
 | none=>c
def delE (p:Prg) (c:Xf) (t id:Int):Int:=
 if inT p t=false then 8 else if rIdx (kT c t) id=none then 8 else 0
def delC (c:Xf) (t id:Int):Xf:=match rIdx (kT c t) id with
 | some i=>⟨c.rows.set t.toNat ((kT c t).eraseIdx i),c.Xr,c.Xq,c.Xm⟩
 | none=>c
def defE (p:Prg) (t:Int) (x:Xb):Int:=if inT p t=false then 8 else fD p t x
def defC (c:Xf) (t:Int) (x:Xb):Xf:=⟨c.rows,c.Xr,c.Xq.set t.toNat x,c.Xm⟩
theorem HS {p:Prg} (h:inT p t=true):∃k:Nat,t=k/\k<p.Xn.length:=by
 unfold inT at h;simp at h;exact ⟨t.toNat,by omega,by omega⟩
theorem RG {p:Prg} (h:k<p.Xn.length):inT p (k:Int)=true:=by
 unfold inT;simp;omega
section
variable {p:Prg} {c:Xf} {k:Nat}
theorem EM (h:k<c.rows.length):kT c (k:Int)=c.rows[k]:=by
 unfold kT;rw [P2,Qa h];rfl
theorem X9 (h:k<c.Xr.length):wR c (k:Int)=c.Xr[k]:=by
 unfold wR;rw [P2,Qa h];rfl
theorem Tl (h:k<p.Xn.length):US p (k:Int)=p.Xn[k].size:=by
 unfold US;rw [P2,Qa h];rfl
theorem CfgV.at (v:CfgV p c) (h:k<p.Xn.length):TabV p k p.Xn[k] (c.rows[k]'(by rw [v.rl];exact h)) (c.Xr[k]'(by rw [v.nl];exact h)) (c.Xq[k]'(by rw [v.dl];exact h)):=
 v.tab k _ _ _ _ (Qa h) (Qa (by rw [v.rl];exact h)) (Qa (by rw [v.nl];exact h)) (Qa (by rw [v.dl];exact h))
theorem CfgV.upd (v:CfgV p c) (h:k<p.Xn.length) {l:List Rw} {nx:Int} {d:Xb} {R:List (List Rw)} {N:List Int} {D:List Xb}
  (hR:R=c.rows.set k l) (hN:N=c.Xr.set k nx) (hD:D=c.Xq.set k d) (t:TabV p k p.Xn[k] l nx d):CfgV p ⟨R,N,D,c.Xm⟩:=by
 subst hR hN hD;refine ⟨v.prg,by simp [v.rl],by simp [v.nl],by simp [v.dl],?_,v.con⟩;intro j tb l' nx' d' h1 h2 h3 h4;have hl1:=v.rl;have hl2:=v.nl;have hl3:=v.dl;by_cases hj:k=j
 ·subst hj;rw [List.getElem?_set_self (by omega)] at h2 h3 h4;rw [Qa h] at h1;cases h1;cases h2;cases h3;cases h4;exact t
 ·simp only [List.getElem?_set_ne hj] at h2 h3 h4;exact v.tab j _ _ _ _ h1 h2 h3 h4
end
variable {c:Xf}
theorem Js {p:Prg} {x:Entry} (v:CfgV p c) (h:insE p c t x=0):CfgV p (insC c t x):=by
 unfold insE at h;cases hi:inT p t with
 | false=>rw [aB hi] at h;cases h
 | true=>
 obtain ⟨k,rfl,hk⟩:=HS hi;rw [QA (by rw [hi];decide)] at h;have l1:k<c.rows.length:=by rw [v.rl];exact hk
 have l2:k<c.Xr.length:=by rw [v.nl];exact hk
 have l3:k<c.Xq.length:=by rw [v.dl];exact hk
 have hv:=v.at hk;rw [EM l1,X9 l2,Tl hk] at h;split at h
 ·rename_i h1;exact absurd h h1
 rename_i h1;split at h
 ·cases h
 rename_i h2;split at h
 ·cases h
 rename_i h3;unfold insC;rw [EM l1,X9 l2];refine v.upd hk (l:=c.rows[k]++[⟨c.Xr[k],x⟩]) (nx:=c.Xr[k]+1) (d:=c.Xq[k]) (by simp) (by simp) (by simp) ?_;have n0:=hv.nx0;refine ⟨by simp;omega,?_,?_,?_,by omega,by omega,?_,?_,hv.Yc⟩
 ·intro r hr;rcases gP.1 hr with hr | hr
  ·exact hv.pos r hr
  ·simp at hr;subst hr;exact n0
 ·intro r hr;rcases gP.1 hr with hr | hr
  ·have:=hv.lt r hr;omega
  ·simp at hr;subst hr;simp;omega
 ·rw [WN];exact ⟨hv.inc,by simp,fun a ha b hb=>by simp at hb;subst hb;exact hv.lt a ha⟩
 ·intro r hr;rcases gP.1 hr with hr | hr
  ·exact hv.ent r hr
  ·simp at hr;subst hr;simpa using h1
 ·rw [WN];refine ⟨hv.uniq,by simp,fun a ha b hb=>?_⟩;simp at hb;subst hb;simp only [SA,not_exists,not_and,Bool.not_eq_true] at h2;exact h2 a ha
theorem Ba (t:Int) (x:Entry) (y:Xb) (h:entE p t x=0) (hc:fD p t y=0):entE p t ⟨x.keys,x.Xt,y⟩=0:=by
 unfold entE at h ⊢;split at h
 ·exact absurd h (by assumption)
 rename_i h1;rw [QA h1];cases ht:at? p.Xn t with
 | none=>rfl
 | some tb=>
  rw [ht] at h;simp only at h ⊢;split at h
  ·cases h
  rename_i h2;rw [QA h2];have he:entG p tb ⟨x.keys,x.Xt,y⟩=entG p tb x:=rfl;rw [he];cases hf:fe (entG p tb x) tb.keys.length 0 with
  | some e=>rw [hf] at h;simpa using h
  | none=>
   rw [hf] at h;simp only [WV] at h ⊢;unfold entF at h ⊢;unfold fD at hc;simp only;split at h
   ·cases h
   rename_i a1;rw [QA a1];split at h
   ·cases h
   rename_i a2;rw [QA a2];split at h
   ·cases h
   rename_i a3;rw [QA a3];exact hc
variable {id:Int}
theorem U1 {l:List Rw} (h:rIdx l id=some i):∃hi:i<l.length,l[i].id=id:=by
 unfold rIdx at h;rw [List.findIdx?_eq_some_iff_getElem] at h;obtain ⟨hi,h1,_⟩:=h;exact ⟨hi,by simpa using h1⟩
theorem Kj {p:Prg} {x:Xb} (v:CfgV p c) (h:modE p c t id x=0):CfgV p (modC c t id x):=by
 unfold modE at h;cases hi:inT p t with
 | false=>rw [aB hi] at h;cases h
 | true=>
 obtain ⟨k,rfl,hk⟩:=HS hi;rw [QA (by rw [hi];decide)] at h;have l1:k<c.rows.length:=by rw [v.rl];exact hk
 have l2:k<c.Xr.length:=by rw [v.nl];exact hk
 have l3:k<c.Xq.length:=by rw [v.dl];exact hk
 have hv:=v.at hk;unfold modC;rw [EM l1] at h ⊢;cases hx:rIdx c.rows[k] id with
 | none=>simp only;exact v
 | some i=>
  rw [hx,QA (by simp)] at h;simp only;obtain ⟨hil,hid⟩:=U1 hx;have hm:c.rows[k].modify i (jU x)=c.rows[k].set i (jU x c.rows[k][i]):=by
   refine List.ext_getElem (by simp) fun j h1 h2=>?_
   rw [Q7,List.getElem_set];split
   ·rename_i e;subst e;rfl
   ·rfl
  refine v.upd hk (l:=c.rows[k].modify i (jU x)) (nx:=c.Xr[k]) (d:=c.Xq[k]) (by simp) (by simp) (by simp) ?_;have mem:∀r∈c.rows[k].modify i (jU x),∃r'∈c.rows[k],r.id=r'.id/\entE p k r.entry=0:=by
   intro r hr;rw [hm] at hr;rcases Qq hr with hr | rfl
   ·exact ⟨r,hr,rfl,hv.ent r hr⟩
   ·exact ⟨_,Qd hil,rfl,Ba p k _ x (hv.ent _ (Qd hil)) h⟩
  have get:∀j (hj:j<(c.rows[k].modify i (jU x)).length),(c.rows[k].modify i (jU x))[j].id=(c.rows[k][j]'(by simpa using hj)).id/\(c.rows[k].modify i (jU x))[j].entry.keys=(c.rows[k][j]'(by simpa using hj)).entry.keys/\(c.rows[k].modify i (jU x))[j].entry.Xt=(c.rows[k][j]'(by simpa using hj)).entry.Xt:=by
   intro j hj;rw [Q7];split<;>simp [jU]
  refine ⟨by simpa using hv.size,?_,?_,?_,hv.nx0,hv.nx1,?_,?_,hv.Yc⟩
  ·intro r hr;obtain ⟨r',hr',e,_⟩:=mem r hr;rw [e];exact hv.pos r' hr'
  ·intro r hr;obtain ⟨r',hr',e,_⟩:=mem r hr;rw [e];exact hv.lt r' hr'
  ·rw [MK];intro a b ha hb hab;rw [(get a ha).1,(get b hb).1];exact MK.1 hv.inc a b _ _ hab
  ·intro r hr;obtain ⟨_,_,_,e⟩:=mem r hr;exact e
  ·rw [MK];intro a b ha hb hab;have:=MK.1 hv.uniq a b (by simpa using ha) (by simpa using hb) hab;unfold sk at this ⊢;rw [(get a ha).2.1,(get a ha).2.2,(get b hb).2.1,(get b hb).2.2];exact this
theorem Ix {p:Prg} (v:CfgV p c) (h:delE p c t id=0):CfgV p (delC c t id):=by
 unfold delE at h;cases hi:inT p t with
 | false=>rw [aB hi] at h;cases h
 | true=>
 obtain ⟨k,rfl,hk⟩:=HS hi;have l1:k<c.rows.length:=by rw [v.rl];exact hk
 have l2:k<c.Xr.length:=by rw [v.nl];exact hk
 have l3:k<c.Xq.length:=by rw [v.dl];exact hk
 have hv:=v.at hk;unfold delC;rw [EM l1];cases hx:rIdx c.rows[k] id with
 | none=>simp only;exact v
 | some i=>
  simp only;refine v.upd hk (l:=c.rows[k].eraseIdx i) (nx:=c.Xr[k]) (d:=c.Xq[k]) (by simp) (by simp) (by simp) ?_;have hs:=List.eraseIdx_sublist c.rows[k] i;have hsz:=hv.size;have hle:=hs.length_le;exact ⟨by omega,fun r hr=>hv.pos r (hs.subset hr),fun r hr=>hv.lt r (hs.subset hr),hv.inc.sublist hs,hv.nx0,hv.nx1,fun r hr=>hv.ent r (hs.subset hr),hv.uniq.sublist hs,hv.Yc⟩
theorem Iw {p:Prg} {x:Xb} (v:CfgV p c) (h:defE p t x=0):CfgV p (defC c t x):=by
 unfold defE at h;cases hi:inT p t with
 | false=>rw [aB hi] at h;cases h
 | true=>
 obtain ⟨k,rfl,hk⟩:=HS hi;rw [QA (by rw [hi];decide)] at h;have l1:k<c.rows.length:=by rw [v.rl];exact hk
 have l2:k<c.Xr.length:=by rw [v.nl];exact hk
 have l3:k<c.Xq.length:=by rw [v.dl];exact hk
 have hv:=v.at hk;unfold defC;exact v.upd hk (l:=c.rows[k]) (nx:=c.Xr[k]) (d:=x) (by simp) (by simp) (by simp) ⟨hv.size,hv.pos,hv.lt,hv.inc,hv.nx0,hv.nx1,hv.ent,hv.uniq,h⟩
theorem aV (t:Nat) (a b:List (Nat×AO)):look t (a++b)=(look t a).or (look t b):=lK t a b
theorem aG (j t:Nat) (y:AO):∀O:List (Nat×AO),look j (setl t y O)=if j=t then (look t O).map (fun _=>y) else look j O
 | []=>by simp
 | (u,w)::r=>by
  have ih:=aG j t y r;by_cases hu:u=t
  ·subst hu;by_cases hj:j=u
   ·subst hj;simp
   ·have:¬u=j:=fun h=>hj h.symm
    simp [hj,this]
  ·by_cases hj:j=t
   ·subst hj;simp [hu];simpa using ih
   ·by_cases hv:u=j
    ·subst hv;simp [hu]
    ·simp [hu,hv,hj];simpa [hj] using ih
theorem mD {j t:Nat} (h:j≠t):∀O:List (Nat×AO),look j (eG t O)=look j O
 | []=>by simp
 | (u,w)::r=>by
  have ih:=mD h r;by_cases hu:u=t
  ·subst hu;have:¬u=j:=fun e=>h e.symm
   simp [this]
  ·by_cases hv:u=j
   ·subst hv;simp [hu]
   ·simp [hu,hv,ih]
theorem LJ {j t:Nat}:∀O:List (Nat×AO),look j O=none->look j (eG t O)=none
 | [],_=>by simp
 | (u,w)::r,h=>by
  by_cases hv:u=j
  ·subst hv;simp at h
  ·simp [hv] at h;have ih:=LJ (t:=t) r h;by_cases hu:u=t
   ·subst hu;simpa using h
   ·simp [hu,hv,ih]
theorem fK {j:Nat}:∀{O:List (Nat×AO)},look j O≠some .res->look j (bX O)=look j O
 | [],_=>by simp
 | (u,w)::r,h=>by
  by_cases hv:u=j
  ·subst hv;simp at h;cases w<;>simp at h ⊢
  ·simp [hv] at h;have ih:=fK h;cases w<;>simp [hv,ih]
section
variable (z t i o n:Nat) (es:List (List AV))
@[simp] theorem a2J:lenOf (.slice z es)=some es.length:=rfl
@[simp] theorem a2H:lenOf (.Xu z es)=some es.length:=rfl
@[simp] theorem a2G:lenOf (.app z es t)=some es.length:=rfl
@[simp] theorem a2I:lenOf (.row t z o n)=some n:=rfl
@[simp] theorem a19 (cs:List AV):AV.cells (.agg cs)=some cs:=rfl
@[simp] theorem a1a (k:IntKind) (x:Int):AV.cells (.int k x)=some [.int k x]:=rfl
@[simp] theorem a0F (b:Bool):AV.cells (.bool b)=some [.bool b]:=rfl
@[simp] theorem a1N (b:List UInt8):AV.cells (.str b)=some [.str b]:=rfl
@[simp] theorem a0r:AV.cells .nilptr=some [.nilptr]:=rfl
@[simp] theorem a0q:AV.cells .nilmap=some [.nilmap]:=rfl
@[simp] theorem a2q:AV.cells (.slice z es)=some [.slice z es]:=rfl
@[simp] theorem a2o:AV.cells (.Xu z es)=some [.Xu z es]:=rfl
@[simp] theorem a2n:AV.cells (.app z es t)=some [.app z es t]:=rfl
@[simp] theorem a2p:AV.cells (.row t z o n)=some [.row t z o n]:=rfl
@[simp] theorem a1M:AV.cells (.ptr t z o n)=some [.ptr t z o n]:=rfl
@[simp] theorem a0H:AV.cells (.iptr z es o n)=some [.iptr z es o n]:=rfl
@[simp] theorem a1L:AV.cells (.map t)=some [.map t]:=rfl
@[simp] theorem a0G (f:Fn) (a b:List AV):AV.cells (.func f a b)=some [.func f a b]:=rfl
end
theorem Tail_append_iff {a b:List (Nat×AO)}:Tail (a++b) n↔Tail a n/\Tail b n:=by
 constructor
 ·intro h;refine ⟨fun j hj=>?_,fun j hj=>?_⟩
  ·have:=h j hj;rw [aV] at this;cases hl:look j a with
   | none=>rfl
   | some x=>rw [hl] at this;cases this
  ·have:=h j hj;rw [aV] at this;cases hl:look j a with
   | none=>rw [hl] at this;simpa using this
   | some x=>rw [hl] at this;cases this
 ·rintro ⟨h1,h2⟩ j hj;rw [aV,h1 j hj,h2 j hj];rfl
theorem s5 {u:Nat} {x:AO} {r:List (Nat×AO)}:Tail ((u,x)::r) n↔u<n/\Tail r n:=by
 constructor
 ·intro h;have hu:u<n:=by
   refine Decidable.byContradiction fun hc=>?_
   have:=h u (by omega);simp at this
  refine ⟨hu,fun j hj=>?_⟩;have:=h j hj;have hne:¬u=j:=by omega
  simpa [hne] using this
 ·rintro ⟨h1,h2⟩ j hj;have hne:¬u=j:=by omega
  simp [hne,h2 j hj]
theorem LK:Tail [] n↔True:=⟨fun _=>trivial,fun _=>Tail.nil n⟩
variable {O:List (Nat×AO)}
theorem cY {t:Nat} {y:AO} (h:Tail O n):Tail (setl t y O) n:=by
 intro j hj;rw [aG];split
 ·rename_i e;rw [<- e,h j hj];rfl
 ·exact h j hj
theorem OG {t:Nat} (h:Tail O n):Tail (eG t O) n:=fun j hj=>LJ _ (h j hj)
theorem OH (h:Tail O n):Tail (bX O) n:=by
 intro j hj;rw [fK (by rw [h j hj];simp),h j hj]
theorem Tail.lt {O:List (Nat×AO)} {n j:Nat} {x:AO} (h:Tail O n) (hl:look j O=some x):j<n:=by
 refine Decidable.byContradiction fun hc=>?_
 rw [h j (by omega)] at hl;cases hl
def Kp (X:Nat->Prop) (N:Nat) (O O':List (Nat×AO)):Prop:=∀j,j<N->¬X j->look j O'=look j O
theorem Kp.refl {X:Nat->Prop} {N:Nat} {O:List (Nat×AO)}:Kp X N O O:=fun _ _ _=>rfl
theorem Kp.trans {X:Nat->Prop} {N N':Nat} {O O' O'':List (Nat×AO)} (h:Kp X N O O') (h2:Kp X N' O' O'') (hn:N<=N'):Kp X N O O'':=
 fun j hj hx=>(h2 j (by omega) hx).trans (h j hj hx)
variable {b:Xv} {K:List Go.Av.Fr}
theorem Kp.mono {X Y:Nat->Prop} {N:Nat} {O O':List (Nat×AO)} (h:Kp X N O O') (hx:∀j,j<N->X j->Y j):Kp Y N O O':=
 fun j hj hy=>h j hj fun hc=>hy (hx j hj hc)
section
variable {Φ:FuncId->Option AFun} {I:Type} {fin:Option (Ex×St)->Option I}
theorem Yy {C:Type} (m:C->Nat) (Inv:C->Env->AH->Prop) (R:C->Option I->Prop)
  (step:∀x e h L,(∀j s,go Φ fin L (.exit j) s=go Φ fin K (.exit j) s)->Inv x e h->(∀y e' h',m y<m x->Inv y e' h'->R y (go Φ fin L .normal ⟨e',h'⟩))->R x (go Φ fin (.c b::L) .normal ⟨e,h⟩)):
  ∀x e h,Inv x e h->R x (go Φ fin (.c (.loop b)::K) .normal ⟨e,h⟩):=by
 have key:∀n x e h,m x<=n->Inv x e h->R x (go Φ fin (.c (.loop b)::K) .normal ⟨e,h⟩):=by
  intro n
  induction n with
  | zero=>
   intro x e h hn hi;rw [bG];exact step x e h _ (fun j s=>by simp) hi fun y e' h' hlt=>by omega
  | succ n ih=>
   intro x e h hn hi;rw [bG];exact step x e h _ (fun j s=>by simp) hi fun y e' h' hlt hy=>ih y e' h' (by omega) hy
 intro x e h hi;exact key (m x) x e h (Qb _) hi
theorem I4 (N:Nat) (Inv:Nat->Env->AH->Prop) (Q:Option I->Prop)
  (step:∀i e h L,i<N->(∀j s,go Φ fin L (.exit j) s=go Φ fin K (.exit j) s)->Inv i e h->(∀e' h',Inv (i+1) e' h'->Q (go Φ fin L .normal ⟨e',h'⟩))->Q (go Φ fin (.c b::L) .normal ⟨e,h⟩))
  (last:∀e h L,(∀j s,go Φ fin L (.exit j) s=go Φ fin K (.exit j) s)->Inv N e h->Q (go Φ fin (.c b::L) .normal ⟨e,h⟩)):
  ∀i e h,i<=N->Inv i e h->Q (go Φ fin (.c (.loop b)::K) .normal ⟨e,h⟩):=by
 intro i e h hi hinv;refine Yy (C:={ i:Nat // i<=N }) (fun x=>N - x.1) (fun x=>Inv x.1) (fun _=>Q) ?_ ⟨i,hi⟩ e h hinv;intro ⟨i,hi⟩ e h L hL hinv ih;rcases Nat.lt_or_eq_of_le hi with hlt | heq
 ·exact step i e h L hlt hL hinv fun e' h' hi'=>ih ⟨i+1,hlt⟩ e' h' (by simp;omega) hi'
 ·subst heq;exact last e h L hL hinv
end
def vid:AV->Option Nat
 | .row id _ _ _=>some id
 | _=>none
inductive Mu (O:List (Nat×AO)) (z:Nat):AV->List (List AV)->Prop
 | nilF:Mu O z (.Xu z []) []
 | nilA (t:Nat):Mu O z (.app z [] t) []
 | row (id:Nat) (es es0:List (List AV)) (n:Nat) (hn:n=es.length) (hl:look id O=some (.row z es0)) (hle:es.length<=es0.length) (ht:es0.take es.length=es):Mu O z (.row id z 0 n) es
theorem Mu.len {O:List (Nat×AO)} {z:Nat} {v:AV} {es:List (List AV)} (h:Mu O z v es):lenOf v=some es.length:=by
 cases h with
 | nilF=>rfl
 | nilA=>rfl
 | row id _ es0 n hn=>subst hn;rfl
theorem Mu.fr {O O':List (Nat×AO)} {z:Nat} {v:AV} {es:List (List AV)} (h:Mu O z v es) (hf:∀j,vid v=some j->look j O'=look j O):Mu O' z v es:=by
 cases h with
 | nilF=>exact .nilF
 | nilA=>exact .nilA _
 | row id _ es0 n hn hl hle ht=>exact .row id es es0 n hn (by rw [hf id rfl,hl]) hle ht
theorem Mu.nonempty {O:List (Nat×AO)} {z:Nat} {v:AV} {es:List (List AV)} (h:Mu O z v es) (hp:0<es.length):∃id es0,v= .row id z 0 es.length/\look id O=some (.row z es0)/\es.length<=es0.length/\es0.take es.length=es:=by
 cases h with
 | nilF=>simp at hp
 | nilA=>simp at hp
 | row id _ es0 n hn hl hle ht=>subst hn;exact ⟨id,es0,rfl,hl,hle,ht⟩
theorem Mu.snp {O:List (Nat×AO)} {z N n:Nat} {v:AV} {es:List (List AV)} (h:Mu O z v es):snap (n+1) ⟨O,N⟩ v=(mapO (mapO (snap n ⟨O,N⟩)) es).map (.slice z):=by
 cases h with
 | nilF=>simp
 | nilA=>simp
 | row id _ es0 k hn hl hle ht=>
  subst hn;simp [hl,hle,ht]
inductive Re (O:List (Nat×AO)) (z:Nat):AV->List (List AV)->Prop
 | sl (es:List (List AV)):Re O z (.slice z es) es
 | fs (es:List (List AV)):Re O z (.Xu z es) es
 | ap (es:List (List AV)) (t:Nat):Re O z (.app z es t) es
 | row (id:Nat) (es es0:List (List AV)) (n:Nat) (hn:n=es.length) (hl:look id O=some (.row z es0)) (hle:es.length<=es0.length) (ht:es0.take es.length=es):Re O z (.row id z 0 n) es
theorem Mu.re {O:List (Nat×AO)} {z:Nat} {v:AV} {es:List (List AV)} (h:Mu O z v es):Re O z v es:=by
 cases h with
 | nilF=>exact .fs []
 | nilA=>exact .ap [] _
 | row id _ es0 n hn hl hle ht=>exact .row id es es0 n hn hl hle ht
theorem Re.fr {O O':List (Nat×AO)} {z:Nat} {v:AV} {es:List (List AV)} (h:Re O z v es) (hf:∀j,vid v=some j->look j O'=look j O):Re O' z v es:=by
 cases h with
 | sl=>exact .sl es
 | fs=>exact .fs es
 | ap=>exact .ap es _
 | row id _ es0 n hn hl hle ht=>exact .row id es es0 n hn (by rw [hf id rfl,hl]) hle ht
theorem Re.len {O:List (Nat×AO)} {z:Nat} {v:AV} {es:List (List AV)} (h:Re O z v es):lenOf v=some es.length:=by
 cases h with
 | sl=>rfl
 | fs=>rfl
 | ap=>rfl
 | row id _ es0 n hn=>subst hn;rfl
theorem Re.snp {O:List (Nat×AO)} {z N n:Nat} {v:AV} {es:List (List AV)} (h:Re O z v es) (he:mapO (mapO (snap n ⟨O,N⟩)) es=some es):snap (n+1) ⟨O,N⟩ v=some (.slice z es):=by
 cases h with
 | sl=>simp
 | fs=>simp
 | ap=>simp
 | row id _ es0 k hn hl hle ht=>
  subst hn;simp [hl,hle,ht,he]
theorem Re.cells {O:List (Nat×AO)} {z:Nat} {v:AV} {es:List (List AV)} (h:Re O z v es):v.cells=some [v]:=by
 cases h<;>rfl
theorem Mu.cells {O:List (Nat×AO)} {z:Nat} {v:AV} {es:List (List AV)} (h:Mu O z v es):v.cells=some [v]:=h.re.cells
end Go.Av
