/-
  Lemmas for the law.
-/
import Derived.Test.YtjdbnnnakpacjaaGreatL9
set_option linter.unusedVariables false
set_option linter.unusedSimpArgs false
set_option linter.constructorNameAsVariable false
namespace Go.Av
set_option maxRecDepth 4000
def qbx {α:Type} [DecidableEq α] (l m:List α) (i:Nat):Bool:=decide (l.drop i=m.drop i)
theorem qdn {α:Type} [DecidableEq α] {l m:List α} {i:Nat} (h1:i<l.length) (h2:i<m.length) (h:l[i]=m[i]):qbx l m i=qbx l m (i+1):=by
 unfold qbx;rw [decide_eq_decide,qnc h1 h2];simp [h]
theorem qc5 {α:Type} [DecidableEq α] {l m:List α} {i:Nat} (h1:i<l.length) (h2:i<m.length) (h:l[i]≠m[i]):qbx l m i=false:=by
 unfold qbx;rw [decide_eq_false_iff_not,qnc h1 h2];simp [h]
theorem qdm {α:Type} [DecidableEq α] {l m:List α} (h:l.length=m.length):qbx l m l.length=true:=by
 simp [qbx,h]
theorem qvi {α:Type} [DecidableEq α] {l m:List α}:qbx l m 0=decide (l=m):=by simp [qbx]
theorem qwx (k1 k2:List Xi) (p1 p2:Int) (r1 r2:List AV) (hb:k1.length<2^40):
   qab Φ f_151 [.agg (.slice 2 (k1.map Xi.c):: .int .i64 p1::r1),.agg (.slice 2 (k2.map Xi.c):: .int .i64 p2::r2)]=some (.val (.bool (decide (k1=k2/\p1=p2)))):=by
  rw [qaa (fn:=c_151) rfl rfl];by_cases q1:k1.length=k2.length
  rotate_left
  · have:k1≠k2:=fun h=>q1 (by rw [h])
    simp [c_151,q1,this]
  by_cases q2:p1=p2
  rotate_left
  · simp [c_151,q1,q2]
  subst q2;simp [c_151,q1];refine (qay k1.length (fun i e=>look 2 e=some (AV.ptr 0 (r1.length+1+1) 0 0)/\look 3 e=some (AV.ptr 1 (r2.length+1+1) 0 0)/\look 5 e=some (.int .i64 i))
    (fun i=>some (Rt.val (AV.bool (qbx k1 k2 i)))) ?_ ?_ 0 _ (Qc _) ?_).trans (by simp [qbx])
  · rintro i e L hi hL ⟨h2,h3,h5⟩ ih
    have hi2:i<k2.length:=by omega
    have hw:=qaf i (by omega);by_cases c:k1[i]=k2[i]
    · rw [qdn hi hi2 c]
      simp [c_151_l0,Xi.c,hi,hi2,h2,h3,h5,hw,c];exact ih _ ⟨by simp [h2],by simp [h3],by simp⟩
    · rw [qc5 hi hi2 c]
      have c':(decide (k1[i].value=k2[i].value)&&decide (k1[i].mask=k2[i].mask))=false:=by
        simp [Xi.ext_iff] at c ⊢;exact c
      simp [c_151_l0,Xi.c,hi,hi2,h2,h3,h5,c']
  · rintro e L hL ⟨h2,h3,h5⟩
    rw [qdm q1];simp [c_151_l0,c_151_k1, *]
  · simp
theorem qab8 (l m:List Int) (hb:l.length<2^40):qab Φ f_165 [.slice 1 (l.map c32),.slice 1 (m.map c32)]=some (.val (.bool (decide (l=m)))):=by
 rw [qaa (fn:=c_165) rfl rfl];by_cases q1:l.length=m.length
 rotate_left
 ·have:l≠m:=fun h=>q1 (by rw [h])
  simp [c_165,q1,this]
 simp [c_165,q1];refine (qay l.length (fun i e=>look 1 e=some (.slice 1 (m.map c32))/\look 12 e=some (.slice 1 (l.map c32))/\look 13 e=some (.int .i64 m.length)/\look 14 e=some (.int .i64 i))
  (fun i=>some (Rt.val (AV.bool (qbx l m i)))) ?_ ?_ 0 _ (Qc _) ?_).trans (by simp [qbx])
 ·rintro i e L hi hL ⟨h1,h12,h13,h14⟩ ih;have hi2:i<m.length:=by omega
  have hw:=qaf i (by omega);by_cases c:l[i]=m[i]
  ·rw [qdn hi hi2 c];simp [c_165_l0,c32,hi,hi2,h1,h12,h13,h14,hw,c];exact ih _ ⟨by simp [h1],by simp [h12],by simp [h13],by simp⟩
  ·rw [qc5 hi hi2 c];simp [c_165_l0,c32,hi,hi2,h1,h12,h13,h14,c]
 ·rintro e L hL ⟨h1,h12,h13,h14⟩;rw [qdm q1];simp [c_165_l0,c_165_k1, *]
 ·simp
theorem qnd (k1 k2:List Xi) (p1 p2:Int) (r1 r2:List AV) (hb:k1.length<2^40):
   qab Φ f_162 [.agg (.slice 2 (k1.map Xi.c):: .int .i64 p1::r1),.agg (.slice 2 (k2.map Xi.c):: .int .i64 p2::r2)]=some (.val (.bool (decide (k1=k2/\p1=p2)))):=by
  rw [qaa (fn:=c_162) rfl rfl];by_cases q2:p1=p2
  rotate_left
  · simp [c_162,q2]
  by_cases q1:k1.length=k2.length
  rotate_left
  · have:k1≠k2:=fun h=>q1 (by rw [h])
    simp [c_162,q1,this,q2]
  subst q2;simp [c_162,q1];refine (qcr k1.length (fun i e h=>look 2 e=some (AV.ptr 0 (r1.length+1+1) 0 0)/\look 3 e=some (AV.ptr 1 (r2.length+1+1) 0 0)/\look 22 e=some (.slice 2 (k1.map Xi.c))/\look 23 e=some (.int .i64 k2.length)/\look 24 e=some (.int .i64 i)/\
      HP [(0,AO.row (r1.length+1+1) [.slice 2 (k1.map Xi.c):: .int .i64 p1::r1]),(1,AO.row (r2.length+1+1) [.slice 2 (k2.map Xi.c):: .int .i64 p1::r2])] 2 h)
    (fun i=>some (Rt.val (AV.bool (qbx k1 k2 i)))) ?_ ?_ 0 _ _ (Qc _) ?_).trans (by simp [qbx])
  · rintro i e _ L hi hL ⟨h2,h3,h22,h23,h24,T,n,hT,rfl⟩ ih
    have hi2:i<k2.length:=by omega
    have hw:=qaf i (by omega);have hT':=hT (n+2) (Qb _);by_cases c:k1[i]=k2[i]
    · rw [qdn hi hi2 c]
      simp [c_162_l0,Xi.c,hi,hi2,h3,h22,h23,h24,hw,c,hT'];exact ih _ _ ⟨by simp [h2],by simp [h3],by simp [h22],by simp [h23],by simp,HP.next hT⟩
    · rw [qc5 hi hi2 c]
      have c':(decide (k1[i].value=k2[i].value)&&decide (k1[i].mask=k2[i].mask))=false:=by
        simp [Xi.ext_iff] at c ⊢;exact c
      simp [c_162_l0,Xi.c,hi,hi2,h3,h22,h23,h24,c',hT']
  · rintro e _ L hL ⟨h2,h3,h22,h23,h24,T,n,hT,rfl⟩
    rw [qdm q1];simp [c_162_l0,c_162_k1, *]
  · simp
    exact HP.mk
theorem Entry.eq_iff (x y:Entry):x=y↔x.keys=y.keys/\x.Xt=y.Xt/\x.call.action=y.call.action/\x.call.args=y.call.args:=by
 constructor
 ·rintro rfl;simp
 ·rintro ⟨a,b,c,d⟩;obtain ⟨k,p,u,v⟩:=x;obtain ⟨k',p',u',v'⟩:=y;simp only at a b c d;subst a b c d;rfl
def Entry.sm (x:Entry):Prop:=x.keys.length<2^40/\x.call.args.length<2^40
theorem qzm (x y:Entry) (hb:x.sm):qab Φ f_96 [.agg (Entry.c x),.agg (Entry.c y)]=some (.val (.bool (decide (x=y)))):=by
 rw [qaa (fn:=c_96) rfl rfl];have hk:=qnd x.keys y.keys x.Xt y.Xt [.int .i64 x.call.action,.slice 1 (x.call.args.map c32)] [.int .i64 y.call.action,.slice 1 (y.call.args.map c32)] hb.1;have ha:=qab8 x.call.args y.call.args hb.2;rw [decide_eq_decide.2 (Entry.eq_iff x y)];by_cases q1:x.keys=y.keys/\x.Xt=y.Xt
 ·rw [decide_eq_true q1] at hk;by_cases q3:x.call.action=y.call.action
  ·have e:decide (x.keys=y.keys/\x.Xt=y.Xt/\x.call.action=y.call.action/\x.call.args=y.call.args)=decide (x.call.args=y.call.args):=by simp [q1,q3]
   simp only [e];rw [q3] at hk;simp [c_96,Entry.c,hk,ha,q3]
  ·have e:decide (x.keys=y.keys/\x.Xt=y.Xt/\x.call.action=y.call.action/\x.call.args=y.call.args)=false:=by simp [q1,q3]
   simp only [e];simp [c_96,Entry.c,hk,q3]
 ·have q2:¬(x.keys=y.keys/\x.Xt=y.Xt/\x.call.action=y.call.action/\x.call.args=y.call.args):=fun h=>q1 ⟨h.1,h.2.1⟩
  have q1':decide (x.keys=y.keys/\x.Xt=y.Xt)=false:=decide_eq_false q1;rw [q1'] at hk;have e:decide (x.keys=y.keys/\x.Xt=y.Xt/\x.call.action=y.call.action/\x.call.args=y.call.args)=false:=decide_eq_false q2;rw [e];simp [c_96,Entry.c,hk]
theorem Rw.ce (x:Rw):Rw.c x=[.int .i64 x.id,.slice 2 (x.entry.keys.map Xi.c),.int .i64 x.entry.Xt,.int .i64 x.entry.call.action,.slice 1 (x.entry.call.args.map c32)]:=by simp [Rw.c]
theorem cSe {α:Type} (z:Nat) (f:α->List AV) (l:List α):cS z f l=[.slice z (l.map f)]:=by simp [cS]
theorem Xb.ce (x:Xb):Xb.c x=[.int .i64 x.action,.slice 1 (x.args.map c32)]:=by simp [Xb.c]
theorem Entry.ce (x:Entry):Entry.c x=[.slice 2 (x.keys.map Xi.c),.int .i64 x.Xt,.int .i64 x.call.action,.slice 1 (x.call.args.map c32)]:=by simp [Entry.c]
theorem Xf.ce (x:Xf):Xf.c x=[.slice 1 (x.rows.map (cS 5 Rw.c)),.slice 1 (x.Xr.map cI),.slice 2 (x.Xq.map Xb.c),.slice 1 (x.Xm.map (cS 1 c32))]:=by simp [Xf.c]
theorem cIe (x:Int):cI x=[.int .i64 x]:=by simp [cI]
theorem c32e (x:Int):c32 x=[.int .u32 x]:=by simp [c32]
theorem Rw.eq_iff (x y:Rw):x=y↔x.id=y.id/\x.entry=y.entry:=by
 constructor
 ·rintro rfl;simp
 ·rintro ⟨a,b⟩;obtain ⟨u,v⟩:=x;obtain ⟨u',v'⟩:=y;simp only at a b;subst a b;rfl
theorem Xb.eq_iff (x y:Xb):x=y↔x.action=y.action/\x.args=y.args:=by
 constructor
 ·rintro rfl;simp
 ·rintro ⟨a,b⟩;obtain ⟨u,v⟩:=x;obtain ⟨u',v'⟩:=y;simp only at a b;subst a b;rfl
structure CfgS (a:Xf):Prop where
 rl:a.rows.length<2^40
 rs:∀l∈a.rows,l.length<2^40/\∀r∈l,r.entry.sm
 nl:a.Xr.length<2^40
 dl:a.Xq.length<2^40
 ds:∀d∈a.Xq,d.args.length<2^40
 gl:a.Xm.length<2^40
 gs:∀l∈a.Xm,l.length<2^40
theorem Xf.eq_iff (a b:Xf):a=b↔a.rows=b.rows/\a.Xr=b.Xr/\a.Xq=b.Xq/\a.Xm=b.Xm:=by
 constructor
 ·rintro rfl;simp
 ·rintro ⟨h1,h2,h3,h4⟩;obtain ⟨x,y,z,u⟩:=a;obtain ⟨x',y',z',u'⟩:=b;simp only at h1 h2 h3 h4;subst h1 h2 h3 h4;rfl
theorem Action.ce (x:Action):Action.c x=[.str x.name,.slice 2 (x.params.map Fld.c),.slice 7 (x.body.map Xg.c)]:=by simp [Action.c]
theorem Xj.ce (x:Xj):Xj.c x=[.str x.name,.slice 2 (x.fields.map Fld.c)]:=by simp [Xj.c]
theorem Xh.ce (x:Xh):Xh.c x=[.str x.name,.int .i64 x.width,.int .i64 x.size]:=by simp [Xh.c]
theorem Xg.ce (x:Xg):Xg.c x=[.int .i64 x.kind,.int .i64 x.dst.header,.int .i64 x.dst.field,.int .i64 x.register,.int .i64 x.header,.slice 3 (x.index.map Xe.c),.slice 3 (x.value.map Xe.c)]:=by simp [Xg.c]
theorem Tbl.ce (x:Tbl):Tbl.c x=[.str x.name,.slice 3 (x.keys.map Xl.c),.slice 1 (x.actions.map cI),.int .i64 x.dflt.action,.slice 1 (x.dflt.args.map c32),.int .i64 x.size]:=by simp [Tbl.c]
theorem Xd.ce (x:Xd):Xd.c x=[.str x.name,.slice 1 (x.extract.map cI),.bool x.select,.int .i64 x.on.header,.int .i64 x.on.field,.slice 3 (x.cases.map Xk.c),.int .i64 x.dflt]:=by simp [Xd.c]
theorem Xa.ce (k t:Int) (c:List Xe) (a b:List Xa):Xa.c (.mk k t c a b)=[.int .i64 k,.int .i64 t,.slice 3 (c.map Xe.c),.slice 5 (a.map Xa.c),.slice 5 (b.map Xa.c)]:=by simp [Xa.c,Xa.cs_eq]
theorem Prg.ce (x:Prg):Prg.c x=[.str x.name,.slice 2 (x.Xp.map Xj.c),.slice 2 (x.Xo.map Fld.c),.slice 3 (x.Xm.map Xh.c),.slice 3 (x.actions.map Action.c),.slice 6 (x.Xn.map Tbl.c),.slice 7 (x.states.map Xd.c),.slice 5 (x.control.map Xa.c),.slice 1 (x.Xs.map cI)]:=by simp [Prg.c]
def hp0 (p:Prg):AH:=⟨[(0,.row 9 [[.str p.name,.slice 2 (p.Xp.map Xj.c),.slice 2 (p.Xo.map Fld.c),.slice 3 (p.Xm.map Xh.c),.slice 3 (p.actions.map Action.c),.slice 6 (p.Xn.map Tbl.c),.slice 7 (p.states.map Xd.c),.slice 5 (p.control.map Xa.c),.slice 1 (p.Xs.map cI)]])],1⟩
structure PrgB (p:Prg):Prop where
 h:p.Xp.length<2^40
 r:p.Xm.length<2^40
 a:p.actions.length<2^40
 b:∀x∈p.actions,x.body.length<2^40
 t:p.Xn.length<2^40
 s:p.states.length<2^40
 c:p.control.length<2^40
 co:∀x∈p.control,Xa.Ok qbe x
def hp1 (p:Prg) (c:Xf):AH:=⟨[(0,.row 9 [[.str p.name,.slice 2 (p.Xp.map Xj.c),.slice 2 (p.Xo.map Fld.c),.slice 3 (p.Xm.map Xh.c),.slice 3 (p.actions.map Action.c),.slice 6 (p.Xn.map Tbl.c),.slice 7 (p.states.map Xd.c),.slice 5 (p.control.map Xa.c),.slice 1 (p.Xs.map cI)]]),(1,.row 4 [[.slice 1 (c.rows.map (cS 5 Rw.c)),.slice 1 (c.Xr.map cI),.slice 2 (c.Xq.map Xb.c),.slice 1 (c.Xm.map (cS 1 c32))]])],2⟩
def tOk (p:Prg) (t:Int):Bool:=decide ((tblE p t).2=0)
theorem keyV {p:Prg} {x:Tbl} (h:keyE p x=none):∀k∈x.keys,k.kind=1\/k.kind=2\/k.kind=3:=by
 intro k hk;obtain ⟨i,hi,rfl⟩:=QCq hk;have:=(fe_all.1 h) i hi;simp [hi] at this;split at this
 ·cases this
 ·split at this
  ·assumption
  ·cases this
structure TOk (p:Prg) (k:Nat) (hk:k<p.Xn.length):Prop where
 keys:p.Xn[k].keys.length<=6
 acts:p.Xn[k].actions.length<=16
 kinds:∀x∈p.Xn[k].keys,x.kind=1\/x.kind=2\/x.kind=3
 size:1<=p.Xn[k].size/\p.Xn[k].size<=256
theorem qg1 {p:Prg} {t:Int} (h:tOk p t=true):∃(k:Nat) (hk:k<p.Xn.length),t=k/\TOk p k hk:=by
 simp only [tOk,decide_eq_true_eq] at h;by_cases i0:t<0
 ·simp [tblE,qbu i0] at h
 by_cases i1:(p.Xn.length:Int)<=t
 ·simp [tblE,qbt i1] at h
 obtain ⟨k,rfl⟩:∃k:Nat,t=k:=⟨t.toNat,by omega⟩;have hk:k<p.Xn.length:=by omega
 refine ⟨k,hk,rfl,?_⟩;unfold tblE at h;rw [qiz,Qa hk] at h;dsimp only at h;by_cases z0:idS p.Xn[k].name=false
 ·rw [QAa z0] at h;cases h
 rw [QA z0] at h;by_cases z1:6<p.Xn[k].keys.length\/16<p.Xn[k].actions.length
 ·rw [QAa z1] at h;cases h
 rw [QA z1] at h;by_cases z2:p.Xn[k].size<1\/256<p.Xn[k].size
 ·rw [QAa z2] at h;cases h
 rw [QA z2] at h;by_cases z3:(qfa p p.Xn[k]).2≠0
 ·rw [QAa z3] at h;exact absurd h z3
 refine ⟨by omega,by omega,?_,by omega⟩;unfold qfa at z3;cases q:keyE p p.Xn[k] with
 | none=>exact keyV q
 | some e=>
  exfalso;rw [q] at z3;dsimp only at z3;obtain ⟨i,hi,hx⟩:=qd7 q;simp only [Qt] at hx;obtain ⟨y,_,hy⟩:=hx;split at hy
  ·cases hy;exact z3 (by simp)
  ·split at hy
   ·cases hy
   ·cases hy;exact z3 (by simp)
theorem qmj (p:Prg) (f:PrgS p) (t:Int):qab Φ f_262 [.agg (Prg.c p),.int .i64 t]=some (.val (.bool (tOk p t))):=by
 rw [qaa (fn:=c_262) rfl rfl];have h:=qqs p f t;simp only [Prg.e] at h;simp [c_262,Prg.e,h,tOk]
theorem qk6 (p:Prg) (f:PrgS p) (hv:∀t∈p.Xn,∀v∈t.dflt.args,ok32 0 v) (t:Int):qab Φ f_308 [.agg (Prg.c p),.int .i64 t]=some (.val (.bool (tOk p t))):=by
 rw [qaa (fn:=c_308) rfl rfl];have h:=qn9 p f hv t;simp only [Prg.e] at h;simp [c_308,Prg.e,h,tOk]
def kMax:List Xl->Int->Int
 | [],a=>a
 | k::r,a=>kMax r (max a k.kind)
def qg0 (p:Prg) (t:Int):Int:=if tOk p t then (match at? p.Xn t with
 | some x=>kMax x.keys 1
 | none=>0) else 0
theorem qz9:∀(l:List Xl) (a:Int),a=3->(∀x∈l,x.kind=1\/x.kind=2\/x.kind=3)->kMax l a=3
 | [],a,h,_=>h
 | k::r,a,h,hk=>by
  subst h;have:=hk k (by simp);simp only [kMax];exact qz9 r _ (by omega) fun x hx=>hk x (by simp [hx])
theorem qaeh (p:Prg) (f:PrgS p) (t:Int):qab Φ f_222 [.agg (Prg.c p),.int .i64 t]=some (.val (.int .i64 (qg0 p t))):=by
 rw [qaa (fn:=c_222) rfl rfl];have h:=qmj p f t;simp only [Prg.e] at h;cases q:tOk p t with
 | false=>
  rw [q] at h;simp [c_222,Prg.e,h,qg0,q]
 | true=>
 rw [q] at h;obtain ⟨k,hk,rfl,o⟩:=qg1 q;have hK:qg0 p (k:Int)=kMax p.Xn[k].keys 1:=by simp [qg0,q,hk]
 rw [hK];have hb:=o.keys;simp [c_222,Prg.e,h,hk,Tbl.e];refine qau p.Xn[k].keys.length (fun _=>[]) 0 (fun i e=>look 17 e=some (.slice 3 (p.Xn[k].keys.map Xl.c))/\look 18 e=some (.int .i64 p.Xn[k].keys.length)/\look 19 e=some (.int .i64 i)/\∃a:Int,look 5 e=some (.int .i64 a)/\(a=1\/a=2)/\kMax (p.Xn[k].keys.drop i) a=kMax p.Xn[k].keys 1)
  (fun _=>some (Rt.val (.int .i64 (kMax p.Xn[k].keys 1)))) ?_ ?_ 0 _ 0 (Qc _) (Qb _) ?_
 ·rintro i e n L hi hL _ ⟨h17,h18,h19,a,h5,ha,hm⟩ ih;have hw:=qaf i (by omega);rw [Qi hi] at hm;simp only [kMax] at hm;have hkk:=o.kinds _ (Qd hi);by_cases k3:p.Xn[k].keys[i].kind=3
  ·have:kMax p.Xn[k].keys 1=3:=by
    rw [<- hm];exact qz9 _ _ (by omega) fun x hx=>o.kinds x (QAz hx)
   rw [this];simp [c_222_l0,Xl.e,h17,h18,h19,hi,k3]
  by_cases k2:p.Xn[k].keys[i].kind=2
  ·simp [c_222_l0,Xl.e,h17,h18,h19,hi,k2,hw];exact ih _ _ (Qc _) ⟨by simp [h17],by simp [h18],by simp,2,by simp,.inr rfl,by rw [<- hm];congr 1;omega⟩
  ·simp [c_222_l0,Xl.e,h17,h18,h19,hi,k3,k2,hw];exact ih _ _ (Qc _) ⟨by simp [h17],by simp [h18],by simp,a,by simp [h5],ha,by rw [<- hm];congr 1;omega⟩
 ·rintro e n L hL _ ⟨h17,h18,h19,a,h5,ha,hm⟩;rw [QBx] at hm;simp only [kMax] at hm;rw [<- hm];simp [c_222_l0,c_222_k1,h5,h18,h19,hL]
 ·simp
theorem qadf (p:Prg) (f:PrgS p) (hv:∀t∈p.Xn,∀v∈t.dflt.args,ok32 0 v) (t:Int):qab Φ f_307 [.agg (Prg.c p),.int .i64 t]=some (.val (.int .i64 (qg0 p t))):=by
 rw [qaa (fn:=c_307) rfl rfl];have h:=qk6 p f hv t;simp only [Prg.e] at h;cases q:tOk p t with
 | false=>
  rw [q] at h;simp [c_307,Prg.e,h,qg0,q]
 | true=>
 rw [q] at h;obtain ⟨k,hk,rfl,o⟩:=qg1 q;have hK:qg0 p (k:Int)=kMax p.Xn[k].keys 1:=by simp [qg0,q,hk]
 rw [hK];have hb:=o.keys;simp [c_307,Prg.e,h];refine qau p.Xn[k].keys.length (fun _=>[]) 0 (fun i e=>look 2 e=some (.iptr 9 [Prg.c p] 0 0)/\look 1 e=some (.int .i64 k)/\look 6 e=some (.int .i64 i)/\∃a:Int,look 5 e=some (.int .i64 a)/\kMax (p.Xn[k].keys.drop i) a=kMax p.Xn[k].keys 1)
  (fun _=>some (Rt.val (.int .i64 (kMax p.Xn[k].keys 1)))) ?_ ?_ 0 _ 0 (Qc _) (Qb _) ?_
 ·rintro i e n L hi hL _ ⟨h2,h1,h6,a,h5,hm⟩ ih;have hw:=qaf i (by omega);rw [Qi hi] at hm;simp only [kMax] at hm;rw [Prg.e] at h2;simp [c_307_l0,Xl.e,Tbl.e,h1,h2,h5,h6,hk,hi,hw];exact ih _ _ (Qc _) ⟨by simp [h2,Prg.e],by simp [h1],by simp,max a p.Xn[k].keys[i].kind,by simp;split<;>omega,hm⟩
 ·rintro e n L hL _ ⟨h2,h1,h6,a,h5,hm⟩;rw [QBx] at hm;simp only [kMax] at hm;rw [Prg.e] at h2;rw [<- hm];simp [c_307_l0,c_307_k1,Tbl.e,h1,h2,h5,h6,hk,hL]
 ·simp [Prg.e]
theorem qyv (p:Prg) (f:PrgS p) (k:Nat) (hk:k<p.Xn.length) (q:tOk p k=true):qab Φ f_220 [.agg (Prg.c p),.int .i64 k]=some (.val (.slice 1 ((kWid p p.Xn[k]).map cI))):=by
 rw [qaa (fn:=c_220) rfl rfl];have h:=qmj p f k;rw [q] at h;simp only [Prg.e] at h;obtain ⟨k',hk',e,o⟩:=qg1 q;obtain rfl:k=k':=by omega
 have hb:=o.keys;have e0:(kWid p p.Xn[k]).map cI=p.Xn[k].keys.map fun y=>[AV.int .i64 (wid p y.field.header y.field.field)]:=by simp [kWid,cI]
 rw [e0];simp [c_220,Prg.e,h,hk,Tbl.e];refine (qau p.Xn[k].keys.length (fun i=>[(0,.tok 1 i)]) 1 (fun i e=>look 2 e=some (.iptr 9 [Prg.c p] 0 0)/\look 5 e=some (.app 1 ((p.Xn[k].keys.map fun y=>[AV.int .i64 (wid p y.field.header y.field.field)]).take i) 0)/\look 17 e=some (.slice 3 (p.Xn[k].keys.map Xl.c))/\look 18 e=some (.int .i64 p.Xn[k].keys.length)/\look 19 e=some (.int .i64 i))
  (fun _=>some (Rt.val (.slice 1 (p.Xn[k].keys.map fun y=>[AV.int .i64 (wid p y.field.header y.field.field)])))) ?_ ?_ 0 _ 1 (Qc _) (Qb _) ?_).trans (by simp)
 ·rintro i e n L hi hL hn ⟨h2,h5,h17,h18,h19⟩ ih;have hw:=qaf i (by omega);have hv:=qpq p p.Xn[k].keys[i].field.header p.Xn[k].keys[i].field.field;simp only [Prg.e] at hv;rw [Prg.e] at h2;have hn0:¬(0=n):=by omega
  have hn1:¬(n=0):=by omega
  have hm:min i p.Xn[k].keys.length=i:=by omega
  have hb:(i+1)*8<=70368744177664:=by omega
  simp [c_220_l0,Xl.e,h2,h5,h17,h18,h19,hi,hw,hn0,hm,hb,hv];exact ih _ _ (by omega) ⟨by simp [h2,Prg.e],by simp [qaw hi],by simp [h17],by simp [h18],by simp⟩
 ·rintro e n L hL hn ⟨h2,h5,h17,h18,h19⟩;simp [c_220_l0,c_220_k1,h5,h18,h19,hL]
 ·simp [Prg.e]
theorem qyh (p:Prg) (f:PrgS p) (hv:∀t∈p.Xn,∀v∈t.dflt.args,ok32 0 v) (k:Nat) (hk:k<p.Xn.length) (q:tOk p k=true):qab Φ f_305 [.agg (Prg.c p),.int .i64 k]=some (.val (.slice 1 ((kWid p p.Xn[k]).map cI))):=by
 rw [qaa (fn:=c_305) rfl rfl];have h:=qk6 p f hv k;rw [q] at h;simp only [Prg.e] at h;obtain ⟨k',hk',e,o⟩:=qg1 q;obtain rfl:k=k':=by omega
 have hb:=o.keys;have e0:(kWid p p.Xn[k]).map cI=p.Xn[k].keys.map fun y=>[AV.int .i64 (wid p y.field.header y.field.field)]:=by simp [kWid,cI]
 rw [e0];simp [c_305,Prg.e,h];refine (qau p.Xn[k].keys.length (fun i=>[(0,.tok 1 i)]) 1 (fun i e=>look 2 e=some (.iptr 9 [Prg.c p] 0 0)/\look 1 e=some (.int .i64 k)/\look 5 e=some (.app 1 ((p.Xn[k].keys.map fun y=>[AV.int .i64 (wid p y.field.header y.field.field)]).take i) 0)/\look 6 e=some (.int .i64 i))
  (fun _=>some (Rt.val (.slice 1 (p.Xn[k].keys.map fun y=>[AV.int .i64 (wid p y.field.header y.field.field)])))) ?_ ?_ 0 _ 1 (Qc _) (Qb _) ?_).trans (by simp)
 ·rintro i e n L hi hL hn ⟨h2,h1,h5,h6⟩ ih;have hw:=qaf i (by omega);have hv:=qrq p p.Xn[k].keys[i].field.header p.Xn[k].keys[i].field.field;simp only [Prg.e] at hv;rw [Prg.e] at h2;have hn0:¬(0=n):=by omega
  have hn1:¬(n=0):=by omega
  have hm:min i p.Xn[k].keys.length=i:=by omega
  have hb:(i+1)*8<=70368744177664:=by omega
  simp [c_305_l0,Xl.e,Tbl.e,h1,h2,h5,h6,hk,hi,hw,hm,hb,hv];exact ih _ _ (by omega) ⟨by simp [h2,Prg.e],by simp [h1],by simp [qaw hi],by simp⟩
 ·rintro e n L hL hn ⟨h2,h1,h5,h6⟩;rw [Prg.e] at h2;simp [c_305_l0,c_305_k1,Tbl.e,h1,h2,h5,h6,hk,hL]
 ·simp [Prg.e]
def tAl (p:Prg) (t a:Int):Bool:=tOk p t&&(match at? p.Xn t with
 | some x=>x.actions.any fun s=>decide (s=a)
 | none=>false)
theorem qpm (p:Prg) (f:PrgS p) (t a:Int):qab Φ f_218 [.agg (Prg.c p),.int .i64 t,.int .i64 a]=some (.val (.bool (tAl p t a))):=by
 rw [qaa (fn:=c_218) rfl rfl];have h:=qmj p f t;simp only [Prg.e] at h;cases q:tOk p t with
 | false=>
  rw [q] at h;simp [c_218,Prg.e,h,tAl,q]
 | true=>
 rw [q] at h;obtain ⟨k,hk,rfl,o⟩:=qg1 q;have hK:tAl p (k:Int) a=p.Xn[k].actions.any fun s=>decide (s=a):=by simp [tAl,q,hk]
 rw [hK];have hb:=o.acts;simp [c_218,Prg.e,h,hk,Tbl.e];refine (qau p.Xn[k].actions.length (fun _=>[]) 0 (fun i e=>look 2 e=some (.int .i64 a)/\look 18 e=some (.slice 1 (p.Xn[k].actions.map cI))/\look 19 e=some (.int .i64 p.Xn[k].actions.length)/\look 20 e=some (.int .i64 i))
  (fun i=>some (Rt.val (.bool ((p.Xn[k].actions.drop i).any fun s=>decide (s=a))))) ?_ ?_ 0 _ 0 (Qc _) (Qb _) ?_).trans (by simp)
 ·rintro i e n L hi hL _ ⟨h2,h18,h19,h20⟩ ih;have hw:=qaf i (by omega);rw [Qi hi,QCb];by_cases z:p.Xn[k].actions[i]=a
  ·generalize hX:some (Rt.val (AV.bool (decide (p.Xn[k].actions[i]=a) || (p.Xn[k].actions.drop (i+1)).any fun s=>decide (s=a))))=X;simp [c_218_l0,cI,h2,h18,h19,h20,hi,z];rw [<- hX];simp [z]
  ·rw [show (decide (p.Xn[k].actions[i]=a) || (p.Xn[k].actions.drop (i+1)).any fun s=>decide (s=a))=(p.Xn[k].actions.drop (i+1)).any fun s=>decide (s=a) by simp [z]];generalize hX:some (Rt.val (AV.bool ((p.Xn[k].actions.drop (i+1)).any fun s=>decide (s=a))))=X;simp [c_218_l0,cI,h2,h18,h19,h20,hi,z,hw];rw [<- hX];exact ih _ _ (Qc _) ⟨by simp [h2],by simp [h18],by simp [h19],by simp⟩
 ·rintro e n L hL _ ⟨h2,h18,h19,h20⟩;simp [c_218_l0,c_218_k1,h19,h20,hL]
 ·simp
theorem qpb (p:Prg) (f:PrgS p) (hv:∀t∈p.Xn,∀v∈t.dflt.args,ok32 0 v) (t a:Int):qab Φ f_292 [.agg (Prg.c p),.int .i64 t,.int .i64 a]=some (.val (.bool (tAl p t a))):=by
 rw [qaa (fn:=c_292) rfl rfl];have h:=qk6 p f hv t;simp only [Prg.e] at h;cases q:tOk p t with
 | false=>
  rw [q] at h;simp [c_292,Prg.e,h,tAl,q]
 | true=>
 rw [q] at h;obtain ⟨k,hk,rfl,o⟩:=qg1 q;have hK:tAl p (k:Int) a=p.Xn[k].actions.any fun s=>decide (s=a):=by simp [tAl,q,hk]
 have hb:=o.acts;have hx:=qmd p.Xn[k].actions a (by omega);rw [hK,<- qi3];simp [c_292,Prg.e,Tbl.e,h,hk,hx]
def pmI (n k:Nat):Int:=2^k - 2^(k - n)
theorem qaka:∀k:Nat,k<33->∀n:Nat,n<33->n<=k->qhe .u32 (2^k - 1) (ishr .u32 (2^k - 1) (n:Int))=pmI n k:=by decide+kernel
theorem qac1 (n k:Nat) (h:n<=k) (h1:1<=k) (h2:k<=32):qab Φ f_299 [.int .i64 n,.int .i64 k]=some (.val (.int .u32 (pmI n k))):=by
 rw [qaa (fn:=c_299) rfl rfl];have hv:=qjo k;have hm:=qgj k;have hw:wBad (k:Int)=false:=wBad_false.2 ⟨by omega,by omega⟩;have hM:qbh (k:Int)=2^k - 1:=by simp [qbh,hw]
 rw [hw] at hv;rw [hM] at hm;have hp:=qaka k (by omega) n (by omega) h;have n1:¬((n:Int)<0):=by omega
 have n2:¬((k:Int)<n):=by omega
 simp [c_299,hv,hm,n1,n2];exact hp
theorem qak2:∀k:Nat,k<33->∀n:Nat,n<33->n<=k->IntKind.wrap .u32 (IntKind.wrap .u64 (2^k - 2^(k - n)))=pmI n k:=by decide+kernel
theorem qaa4 (n k:Nat) (h:n<=k) (h1:1<=k) (h2:k<=32):qab Φ f_323 [.int .i64 n,.int .i64 k]=some (.val (.int .u32 (pmI n k))):=by
 rw [qaa (fn:=c_323) rfl rfl];have hv:=qjn k;have hw:wBad (k:Int)=false:=wBad_false.2 ⟨by omega,by omega⟩;rw [hw] at hv;have p1:=qk1 k (by omega);have p2:=qk1 (k - n) (by omega);have hs:IntKind.wrap .i64 ((k:Int) - n)=((k - n:Nat):Int):=by
  rw [show (k:Int) - n=((k - n:Nat):Int) by omega];exact qa6 (by omega) (by omega)
 have n1:¬((n:Int)<0):=by omega
 have n2:¬((k:Int)<n):=by omega
 simp [c_323,hv,p1,p2,n1,n2,hs];exact qak2 k (by omega) n (by omega) h
def plG (m:Int) (k:Nat) (n:Nat):Option Int:=if pmI n k=m then some (n:Int) else none
def plE (m w:Int):Option Int:=if wBad w then none else fe (plG m w.toNat) (w.toNat+1) 0
def plV (o:Option Int):Rt:= .val (.tup [.int .i64 (o.getD 0),.bool o.isSome])
theorem qags (m w:Int):qab Φ f_265 [.int .u32 m,.int .i64 w]=some (plV (plE m w)):=by
 rw [qaa (fn:=c_265) rfl rfl];have hv:=qjo w;cases q:wBad w with
 | true=>
  rw [q] at hv;simp [c_265,hv,plE,q,plV]
 | false=>
 rw [q] at hv;obtain ⟨w1,w2⟩:=wBad_false.1 q;obtain ⟨k,rfl⟩:∃k:Nat,w=k:=⟨w.toNat,by omega⟩;have hw1:=qaf k (by omega);have hE:plE m (k:Int)=fe (plG m k) (k+1) 0:=by simp [plE,q]
 rw [hE];simp [c_265,hv,hw1];refine qau (k+1) (fun _=>[]) 0 (fun i e=>look 0 e=some (.int .u32 m)/\look 1 e=some (.int .i64 k)/\look 12 e=some (.int .i64 ((k:Int)+1))/\look 13 e=some (.int .i64 i))
  (fun i=>some (plV (fe (plG m k) (k+1) i))) ?_ ?_ 0 _ 0 (Qc _) (Qb _) ?_
 ·rintro i e n L hi hL _ ⟨h0,h1,h12,h13⟩ ih;have hw:=qaf i (by omega);have hp:=qac1 i k (by omega) (by omega) (by omega);have hlt:(i:Int)<(k:Int)+1:=by omega
  by_cases z:pmI i k=m
  ·rw [qal (x:=(i:Int)) hi (by simp [plG,z])];subst z;simp [c_265_l0,h0,h1,h12,h13,hp,hlt,plV]
  ·rw [qar hi (by simp [plG,z])];generalize hX:some (plV (fe (plG m k) (k+1) (i+1)))=X;simp [c_265_l0,h0,h1,h12,h13,hp,hlt,z,hw];rw [<- hX];exact ih _ _ (Qc _) ⟨by simp [h0],by simp [h1],by simp [h12],by simp⟩
 ·rintro e n L hL _ ⟨h0,h1,h12,h13⟩;rw [qa4];simp [c_265_l0,c_265_k1,h12,h13,hL,plV]
 ·simp
theorem qadm (m w:Int):qab Φ f_318 [.int .u32 m,.int .i64 w]=some (plV (plE m w)):=by
 rw [qaa (fn:=c_318) rfl rfl];have hv:=qjn w;cases q:wBad w with
 | true=>
  rw [q] at hv;simp [c_318];rw [qap];by_cases z:0<=w
  ·simp [c_318_l0,c_318_k1,hv,z,plE,q,plV]
  ·simp [c_318_l0,c_318_k1,z,plE,q,plV]
 | false=>
 rw [q] at hv;obtain ⟨w1,w2⟩:=wBad_false.1 q;obtain ⟨k,rfl⟩:∃k:Nat,w=k:=⟨w.toNat,by omega⟩;have hE:plE m (k:Int)=fe (plG m k) (k+1) 0:=by simp [plE,q]
 rw [hE];simp [c_318];refine qau (k+1) (fun _=>[]) 0 (fun i e=>look 0 e=some (.int .u32 m)/\look 1 e=some (.int .i64 k)/\look 6 e=some (.int .i64 i))
  (fun i=>some (plV (fe (plG m k) (k+1) i))) ?_ ?_ 0 _ 0 (Qc _) (Qb _) ?_
 ·rintro i e n L hi hL _ ⟨h0,h1,h6⟩ ih;have hw:=qaf i (by omega);have hp:=qaa4 i k (by omega) (by omega) (by omega);have hle:i<=k:=by omega
  by_cases z:pmI i k=m
  ·rw [qal (x:=(i:Int)) hi (by simp [plG,z])];subst z;simp [c_318_l0,h0,h1,h6,hv,hp,hle,plV]
  ·rw [qar hi (by simp [plG,z])];generalize hX:some (plV (fe (plG m k) (k+1) (i+1)))=X;simp [c_318_l0,h0,h1,h6,hv,hp,hle,z,hw];rw [<- hX];exact ih _ _ (Qc _) ⟨by simp [h0],by simp [h1],by simp⟩
 ·rintro e n L hL _ ⟨h0,h1,h6⟩;rw [qa4];have hgt:¬((k:Int)+1<=(k:Int)):=by omega
  simp [c_318_l0,c_318_k1,h1,h6,hL,hgt,plV]
 ·simp
theorem Xi.ce (m:Xi):Xi.c m=[.int .u32 m.value,.int .u32 m.mask]:=by simp [Xi.c]
def keyK (m:Xi) (kind w:Int):Int:=
 if fits m.value w=false\/fits m.mask w=false then 9
 else if m.value.toNat&&& m.mask.toNat≠m.value.toNat then 5
 else if kind=1/\m.mask≠qbh w then 11
 else if kind=2/\(plE m.mask w).isSome=false then 11 else 0
theorem qafh (m:Xi) (kind w:Int) (h1:ok32 0 m.value) (h2:ok32 0 m.mask):qab Φ f_221 [.agg (Xi.c m),.int .i64 kind,.int .i64 w]=some (.val (.int .i64 (keyK m kind w))):=by
 rw [qaa (fn:=c_221) rfl rfl];have f1:=qkb m.value w;have f2:=qkb m.mask w;have hm:=qgj w;have hp:=qags m.mask w;have ha:=ql0 h1 h2;unfold keyK;cases q1:fits m.value w with
 | false=>rw [q1] at f1;simp [c_221,Xi.ce,f1]
 | true=>
 rw [q1] at f1;cases q2:fits m.mask w with
 | false=>rw [q2] at f2;simp [c_221,Xi.ce,f1,f2]
 | true=>
 rw [q2] at f2;by_cases z:qhe .u32 m.value m.mask=0
 rotate_left
 ·have z':¬(m.value.toNat&&& m.mask.toNat=m.value.toNat):=fun h=>z (ha.2 h)
  simp [c_221,Xi.ce,f1,f2,z,z']
 have z':=ha.1 z;by_cases k1:kind=1
 ·subst k1;by_cases y:m.mask=qbh w
  ·rw [y] at f2 z z';simp [c_221,Xi.ce,f1,f2,z,z',hm,y]
  ·simp [c_221,Xi.ce,f1,f2,z,z',hm,y]
 by_cases k2:kind=2
 ·subst k2;cases y:plE m.mask w with
  | none=>rw [y] at hp;simp [plV] at hp;simp [c_221,Xi.ce,f1,f2,z,z',hp]
  | some x=>rw [y] at hp;simp [plV] at hp;simp [c_221,Xi.ce,f1,f2,z,z',hp]
 simp [c_221,Xi.ce,f1,f2,z,z',k1,k2]
theorem qahj (m:Xi) (kind w:Int) (h1:ok32 0 m.value) (h2:ok32 0 m.mask):qab Φ f_306 [.agg (Xi.c m),.int .i64 w,.int .i64 kind]=some (.val (.int .i64 (keyK m kind w))):=by
 rw [qaa (fn:=c_306) rfl rfl];have f1:=qn6 m.value w h1;have f2:=qn6 m.mask w h2;have hm:=qul w;have hp:=qadm m.mask w;have ha:=qrb h1 h2;simp [plV] at hp;unfold keyK;cases q1:fits m.value w with
 | false=>rw [q1] at f1;simp [c_306,Xi.ce,hp,f1]
 | true=>
 rw [q1] at f1;cases q2:fits m.mask w with
 | false=>rw [q2] at f2;simp [c_306,Xi.ce,hp,f1,f2]
 | true=>
 rw [q2] at f2;by_cases z:iand .u32 m.value m.mask=m.value
 rotate_left
 ·have z':¬(m.value.toNat&&& m.mask.toNat=m.value.toNat):=fun h=>z (ha.2 h)
  simp [c_306,Xi.ce,hp,f1,f2,z,z']
 have z':=ha.1 z;by_cases k1:kind=1
 ·subst k1;by_cases y:m.mask=qbh w
  ·rw [y] at hp f2 z z';simp [c_306,Xi.ce,hp,f1,f2,z,z',hm,y]
  ·simp [c_306,Xi.ce,hp,f1,f2,z,z',hm,y]
 by_cases k2:kind=2
 ·subst k2;cases y:plE m.mask w with
  | none=>rw [y] at hp;simp [c_306,Xi.ce,f1,f2,z,z',hp]
  | some x=>rw [y] at hp;simp [c_306,Xi.ce,f1,f2,z,z',hp]
 simp [c_306,Xi.ce,hp,f1,f2,z,z',k1,k2]
structure EntS (x:Entry):Prop where
 kl:x.keys.length<2^40
 ks:∀m∈x.keys,ok32 0 m.value/\ok32 0 m.mask
 al:x.call.args.length<2^40
 ar:∀v∈x.call.args,ok32 0 v
def entF (p:Prg) (t:Int) (x:Entry):Int:=if x.Xt<0 then 9 else if 255<x.Xt then 9 else if x.Xt≠0/\qg0 p t≠3 then 11 else if tAl p t x.call.action=false then 8 else qd5 p x.call
def entG (p:Prg) (tb:Tbl) (x:Entry) (i:Nat):Option Int:=match x.keys[i]?,tb.keys[i]? with
 | some m,some k=>if keyK m k.kind (wid p k.field.header k.field.field)=0 then none else some (keyK m k.kind (wid p k.field.header k.field.field))
 | _,_=>none
def entE (p:Prg) (t:Int) (x:Entry):Int:=if (tblE p t).2≠0 then (tblE p t).2 else match at? p.Xn t with
 | some tb=>if x.keys.length≠tb.keys.length then 2 else (fe (entG p tb x) tb.keys.length 0).getD (entF p t x)
 | none=>0
theorem qafi (p:Prg) (f:PrgS p) (t:Int) (x:Entry) (s:EntS x) (e:Env) (n:Nat) (h1:look 1 e=some (.int .i64 t)) (h3:look 3 e=some (.iptr 9 [Prg.c p] 0 0)) (h5:look 5 e=some (.iptr 4 [Entry.c x] 0 0)):
  go Φ (finP [.tmp 6]) [.c c_159_k1] .normal ⟨e,⟨[],n⟩⟩=some (.val (.int .i64 (entF p t x))):=by
 have hk:=qaeh p f t;have ha:=qpm p f t x.call.action;have hc:=qnt p f x.call s.al;simp only [Prg.e,Xb.ce] at hk ha hc;rw [Prg.e] at h3;rw [Entry.ce] at h5;unfold entF;by_cases p0:x.Xt<0
 ·simp [c_159_k1,h5,p0]
 by_cases p1:255<x.Xt
 ·simp [c_159_k1,h5,p0,p1]
 by_cases p2:x.Xt=0
 ·cases q:tAl p t x.call.action with
  | false=>rw [q] at ha;simp [c_159_k1,h1,h3,h5,p2,ha]
  | true=>rw [q] at ha;simp [c_159_k1,h1,h3,h5,p2,ha,hc]
 by_cases p3:qg0 p t=3
 ·cases q:tAl p t x.call.action with
  | false=>rw [q] at ha;simp [c_159_k1,h1,h3,h5,p0,p1,p2,p3,hk,ha]
  | true=>rw [q] at ha;simp [c_159_k1,h1,h3,h5,p0,p1,p2,p3,hk,ha,hc]
 ·simp [c_159_k1,h1,h3,h5,p0,p1,p2,p3,hk]
theorem qwb (p:Prg) (f:PrgS p) (t:Int) (x:Entry) (s:EntS x):qab Φ f_159 [.agg (Prg.c p),.int .i64 t,.agg (Entry.c x)]=some (.val (.int .i64 (entE p t x))):=by
 rw [qaa (fn:=c_159) rfl rfl];have h:=qqs p f t;simp only [Prg.e] at h;by_cases z:(tblE p t).2=0
 rotate_left
 ·simp [c_159,Prg.e,Entry.ce,h,z,entE]
 have q:tOk p t=true:=by simp [tOk,z]
 obtain ⟨k,hk,rfl,o⟩:=qg1 q;have hw:=qyv p f k hk q;simp only [Prg.e] at hw;have hb:=o.keys;by_cases y:x.keys.length=p.Xn[k].keys.length
 rotate_left
 ·simp [c_159,Prg.e,Entry.ce,Tbl.e,hk,h,z,hw,y,entE]
 have hE:entE p (k:Int) x=(fe (entG p p.Xn[k] x) p.Xn[k].keys.length 0).getD (entF p k x):=by simp [entE,z,hk,y]
 rw [hE];simp [c_159,Prg.e,Entry.ce,Tbl.e,hk,h,z,hw,y];refine qau p.Xn[k].keys.length (fun _=>[]) 0 (fun i e=>look 1 e=some (.int .i64 k)/\look 3 e=some (.iptr 9 [Prg.c p] 0 0)/\look 5 e=some (.iptr 4 [Entry.c x] 0 0)/\look 9 e=some (.slice 3 (p.Xn[k].keys.map Xl.c))/\look 10 e=some (.slice 1 ((kWid p p.Xn[k]).map cI))/\look 39 e=some (.slice 2 (x.keys.map Xi.c))/\look 40 e=some (.int .i64 p.Xn[k].keys.length)/\look 41 e=some (.int .i64 i))
  (fun i=>some (Rt.val (.int .i64 ((fe (entG p p.Xn[k] x) p.Xn[k].keys.length i).getD (entF p k x))))) ?_ ?_ 0 _ 0 (Qc _) (Qb _) ?_
 ·rintro i e n L hi hL _ ⟨h1,h3,h5,h9,h10,h39,h40,h41⟩ ih;have hi2:i<x.keys.length:=by omega
  have hi3:i<(kWid p p.Xn[k]).length:=by simp [kWid];exact hi
  have hkw:(kWid p p.Xn[k])[i]=wid p p.Xn[k].keys[i].field.header p.Xn[k].keys[i].field.field:=by simp [kWid]
  have hw:=qaf i (by omega);have hm:=s.ks _ (Qd hi2);have hc:=qafh x.keys[i] p.Xn[k].keys[i].kind (wid p p.Xn[k].keys[i].field.header p.Xn[k].keys[i].field.field) hm.1 hm.2;simp only [Xi.ce] at hc;by_cases v:keyK x.keys[i] p.Xn[k].keys[i].kind (wid p p.Xn[k].keys[i].field.header p.Xn[k].keys[i].field.field)=0
  ·rw [qar hi (by simp [entG,hi,hi2,v])];rw [v] at hc;generalize hX:some (Rt.val (AV.int .i64 ((fe (entG p p.Xn[k] x) p.Xn[k].keys.length (i+1)).getD (entF p k x))))=X;simp [c_159_l0,Xl.e,Xi.ce,cI,h9,h10,h39,h40,h41,hi,hi2,hi3,hkw,hc,hw];rw [<- hX];exact ih _ _ (Qc _) ⟨by simp [h1],by simp [h3],by simp [h5],by simp [h9],by simp [h10],by simp [h39],by simp [h40],by simp⟩
  ·rw [qal (x:=keyK x.keys[i] p.Xn[k].keys[i].kind (wid p p.Xn[k].keys[i].field.header p.Xn[k].keys[i].field.field)) hi (by simp [entG,hi,hi2,v])];simp [c_159_l0,Xl.e,Xi.ce,cI,h9,h10,h39,h40,h41,hi,hi2,hi3,hkw,hc,v]
 ·rintro e n L hL _ ⟨h1,h3,h5,h9,h10,h39,h40,h41⟩;rw [qa4];simp [c_159_l0,h40,h41,hL];exact qafi p f k x s _ _ (by simp [h1]) (by simp [h3]) (by simp [h5])
 ·simp [Prg.e,Entry.ce]
theorem qada (p:Prg) (f:PrgS p) (hv:∀t∈p.Xn,∀v∈t.dflt.args,ok32 0 v) (t:Int) (x:Entry) (s:EntS x) (e:Env) (n:Nat) (h1:look 1 e=some (.int .i64 t)) (h3:look 3 e=some (.iptr 9 [Prg.c p] 0 0)) (h5:look 5 e=some (.iptr 4 [Entry.c x] 0 0)):
  go Φ (finP [.tmp 6]) [.c c_290_k1] .normal ⟨e,⟨[],n⟩⟩=some (.val (.int .i64 (entF p t x))):=by
 have hk:=qadf p f hv t;have ha:=qpb p f hv t x.call.action;have hc:=ql7 p f x.call s.al s.ar;simp only [Prg.e,Xb.ce] at hk ha hc;rw [Prg.e] at h3;rw [Entry.ce] at h5;unfold entF;by_cases p0:x.Xt<0
 ·simp [c_290_k1,h5,p0]
 by_cases p1:255<x.Xt
 ·simp [c_290_k1,h5,p0,p1]
 by_cases p2:x.Xt=0
 ·cases q:tAl p t x.call.action with
  | false=>rw [q] at ha;simp [c_290_k1,h1,h3,h5,p2,ha]
  | true=>rw [q] at ha;simp [c_290_k1,h1,h3,h5,p2,ha,hc]
 have p4:0<x.Xt:=by omega
 by_cases p3:qg0 p t=3
 ·cases q:tAl p t x.call.action with
  | false=>rw [q] at ha;simp [c_290_k1,h1,h3,h5,p0,p1,p2,p3,p4,hk,ha]
  | true=>rw [q] at ha;simp [c_290_k1,h1,h3,h5,p0,p1,p2,p3,p4,hk,ha,hc]
 ·simp [c_290_k1,h1,h3,h5,p0,p1,p2,p3,p4,hk]
theorem quh (p:Prg) (f:PrgS p) (hv:∀t∈p.Xn,∀v∈t.dflt.args,ok32 0 v) (t:Int) (x:Entry) (s:EntS x):qab Φ f_290 [.agg (Prg.c p),.int .i64 t,.agg (Entry.c x)]=some (.val (.int .i64 (entE p t x))):=by
 rw [qaa (fn:=c_290) rfl rfl];have h:=qn9 p f hv t;simp only [Prg.e] at h;by_cases z:(tblE p t).2=0
 rotate_left
 ·simp [c_290,Prg.e,Entry.ce,h,z,entE]
 have q:tOk p t=true:=by simp [tOk,z]
 obtain ⟨k,hk,rfl,o⟩:=qg1 q;have hw:=qyh p f hv k hk q;simp only [Prg.e] at hw;have hb:=o.keys;have hkl:(kWid p p.Xn[k]).length=p.Xn[k].keys.length:=by simp [kWid]
 by_cases y:x.keys.length=p.Xn[k].keys.length
 rotate_left
 ·simp [c_290,Prg.e,Entry.ce,hk,h,z,hw,y,hkl,entE]
 have hE:entE p (k:Int) x=(fe (entG p p.Xn[k] x) p.Xn[k].keys.length 0).getD (entF p k x):=by simp [entE,z,hk,y]
 rw [hE];simp [c_290,Prg.e,Entry.ce,h,z,hw,y,hkl];refine qau p.Xn[k].keys.length (fun _=>[]) 0 (fun i e=>look 1 e=some (.int .i64 k)/\look 3 e=some (.iptr 9 [Prg.c p] 0 0)/\look 5 e=some (.iptr 4 [Entry.c x] 0 0)/\look 9 e=some (.slice 1 ((kWid p p.Xn[k]).map cI))/\look 10 e=some (.int .i64 i))
  (fun i=>some (Rt.val (.int .i64 ((fe (entG p p.Xn[k] x) p.Xn[k].keys.length i).getD (entF p k x))))) ?_ ?_ 0 _ 0 (Qc _) (Qb _) ?_
 ·rintro i e n L hi hL _ ⟨h1,h3,h5,h9,h10⟩ ih;have hi2:i<x.keys.length:=by omega
  have hi3:i<(kWid p p.Xn[k]).length:=by omega
  have hkw:(kWid p p.Xn[k])[i]=wid p p.Xn[k].keys[i].field.header p.Xn[k].keys[i].field.field:=by simp [kWid]
  have hw:=qaf i (by omega);have hm:=s.ks _ (Qd hi2);have hc:=qahj x.keys[i] p.Xn[k].keys[i].kind (wid p p.Xn[k].keys[i].field.header p.Xn[k].keys[i].field.field) hm.1 hm.2;simp only [Xi.ce] at hc;rw [Prg.e] at h3;rw [Entry.ce] at h5;by_cases v:keyK x.keys[i] p.Xn[k].keys[i].kind (wid p p.Xn[k].keys[i].field.header p.Xn[k].keys[i].field.field)=0
  ·rw [qar hi (by simp [entG,hi,hi2,v])];rw [v] at hc;generalize hX:some (Rt.val (AV.int .i64 ((fe (entG p p.Xn[k] x) p.Xn[k].keys.length (i+1)).getD (entF p k x))))=X;simp [c_290_l0,Xl.e,Tbl.e,Xi.ce,cI,h1,h3,h5,h9,h10,hk,hkl,hi,hi2,hkw,hc,hw];rw [<- hX];exact ih _ _ (Qc _) ⟨by simp [h1],by simp [h3,Prg.e],by simp [h5,Entry.ce],by simp [h9],by simp⟩
  ·rw [qal (x:=keyK x.keys[i] p.Xn[k].keys[i].kind (wid p p.Xn[k].keys[i].field.header p.Xn[k].keys[i].field.field)) hi (by simp [entG,hi,hi2,v])];simp [c_290_l0,Xl.e,Tbl.e,Xi.ce,cI,h1,h3,h5,h9,h10,hk,hkl,hi,hi2,hkw,hc,v]
 ·rintro e n L hL _ ⟨h1,h3,h5,h9,h10⟩;rw [qa4];simp [c_290_l0,h9,h10,hkl,hL];exact qada p f hv k x s _ _ (by simp [h1]) (by simp [h3]) (by simp [h5])
 ·simp [Prg.e,Entry.ce]
def qbg (p:Prg) (t:Int) (c:Xb):Int:=if tAl p t c.action=false then 8 else qd5 p c
theorem qoa (p:Prg) (f:PrgS p) (t:Int) (c:Xb) (hc:c.args.length<2^40):qab Φ f_156 [.agg (Prg.c p),.int .i64 t,.agg (Xb.c c)]=some (.val (.int .i64 (qbg p t c))):=by
 rw [qaa (fn:=c_156) rfl rfl];have ha:=qpm p f t c.action;have hk:=qnt p f c hc;simp only [Prg.e,Xb.ce] at ha hk;cases q:tAl p t c.action with
 | false=>rw [q] at ha;simp [c_156,Prg.e,Xb.ce,ha,qbg,q]
 | true=>rw [q] at ha;simp [c_156,Prg.e,Xb.ce,ha,hk,qbg,q]
theorem qn7 (p:Prg) (f:PrgS p) (hv:∀t∈p.Xn,∀v∈t.dflt.args,ok32 0 v) (t:Int) (c:Xb) (hc:c.args.length<2^40) (hr:∀v∈c.args,ok32 0 v):qab Φ f_255 [.agg (Prg.c p),.int .i64 t,.agg (Xb.c c)]=some (.val (.int .i64 (qbg p t c))):=by
 rw [qaa (fn:=c_255) rfl rfl];have ha:=qpb p f hv t c.action;have hk:=ql7 p f c hc hr;simp only [Prg.e,Xb.ce] at ha hk;cases q:tAl p t c.action with
 | false=>rw [q] at ha;simp [c_255,Prg.e,Xb.ce,ha,qbg,q]
 | true=>rw [q] at ha;simp [c_255,Prg.e,Xb.ce,ha,hk,qbg,q]
def sk (x y:Entry):Bool:=decide (x.keys=y.keys/\x.Xt=y.Xt)
theorem qzq (x y:Entry) (hb:x.keys.length<2^40):qab Φ f_162 [.agg [.slice 2 (x.keys.map Xi.c),.int .i64 x.Xt,.int .i64 x.call.action,.slice 1 (x.call.args.map c32)],.agg [.slice 2 (y.keys.map Xi.c),.int .i64 y.Xt,.int .i64 y.call.action,.slice 1 (y.call.args.map c32)]]=some (.val (.bool (sk x y))):=qnd _ _ _ _ _ _ hb
theorem qak3 (x y:Entry) (hb:x.keys.length<2^40):qab Φ f_151 [.agg [.slice 2 (x.keys.map Xi.c),.int .i64 x.Xt,.int .i64 x.call.action,.slice 1 (x.call.args.map c32)],.agg [.slice 2 (y.keys.map Xi.c),.int .i64 y.Xt,.int .i64 y.call.action,.slice 1 (y.call.args.map c32)]]=some (.val (.bool (sk x y))):=qwx _ _ _ _ _ _ hb
theorem qai0 (x r:Rw) (hb:x.entry.keys.length<2^40):qab Φ f_215 [.agg (Rw.c x),.iptr 5 [Rw.c r] 0 0]=some (.val (.bool (sk x.entry r.entry))):=by
 rw [qaa (fn:=c_215) rfl rfl];have h:=qzq x.entry r.entry hb;simp [c_215,Rw.ce,h]
theorem qz4 (l:List Rw) (r:Rw) (hl:l.length<2^40) (hs:∀x∈l,x.entry.keys.length<2^40):qab Φ f_223 [.slice 5 (l.map Rw.c),.func (.func f_215) [] [.iptr 5 [Rw.c r] 0 0]]=some (.val (.int .i64 (ix (fun x=>sk x.entry r.entry) l 0))):=by
 rw [qaa (fn:=c_223) rfl rfl];simp [c_223];refine (qay l.length (fun i e=>look 0 e=some (.slice 5 (l.map Rw.c))/\look 1 e=some (.func (.func f_215) [] [.iptr 5 [Rw.c r] 0 0])/\look 7 e=some (.int .i64 l.length)/\look 8 e=some (.int .i64 i))
  (fun i=>some (.val (.int .i64 (ix (fun x=>sk x.entry r.entry) l i)))) ?_ ?_ 0 _ (Qc _) ?_).trans (by simp)
 ·rintro i e L hi hL ⟨h0,h1,h7,h8⟩ ih;have hw:=qaf i (by omega);have hd:=qai0 l[i] r (hs _ (Qd hi));simp only [Rw.ce] at hd h1;cases z:sk l[i].entry r.entry with
  | true=>
   rw [qgv hi (by simpa using z)];rw [z] at hd;simp [c_223_l0,Rw.ce,h0,h1,h7,h8,hi,hd]
  | false=>
   rw [qfu hi (by simpa using z)];rw [z] at hd;simp [c_223_l0,Rw.ce,h0,h1,h7,h8,hi,hd,hw];exact ih _ ⟨by simp [h0],by simp [h1,Rw.ce],by simp [h7],by simp⟩
 ·rintro e L hL ⟨h0,h1,h7,h8⟩;rw [qgu];simp [c_223_l0,c_223_k1,h7,h8,hL]
 ·simp
theorem qzj (l:List Rw) (r:Rw) (hl:l.length<2^40) (hs:∀x∈l,x.entry.keys.length<2^40):qab Φ f_160 [.slice 5 (l.map Rw.c),.func (.func f_215) [] [.iptr 5 [Rw.c r] 0 0]]=some (.val (.bool (l.any fun x=>sk x.entry r.entry))):=by
 rw [qaa (fn:=c_160) rfl rfl];have h:=qz4 l r hl hs;rw [<- qi3];simp [c_160,h]
theorem qu3 (l:List Rw) (x:Entry) (hl:l.length<2^40) (hs:∀x∈l,x.entry.keys.length<2^40):qab Φ f_291 [.slice 5 (l.map Rw.c),.agg (Entry.c x)]=some (.val (.bool (l.any fun y=>sk y.entry x))):=by
 rw [qaa (fn:=c_291) rfl rfl];generalize hY:some (Rt.val (AV.bool (l.any fun y=>sk y.entry x)))=Y;simp [c_291,Entry.ce];rw [show Y=some (Rt.val (AV.bool ((l.drop 0).any fun y=>sk y.entry x))) by rw [<- hY];simp];refine qay l.length (fun i e=>look 0 e=some (.slice 5 (l.map Rw.c))/\look 3 e=some (.iptr 4 [Entry.c x] 0 0)/\look 5 e=some (.int .i64 i))
  (fun i=>some (Rt.val (.bool ((l.drop i).any fun y=>sk y.entry x)))) ?_ ?_ 0 _ (Qc _) ?_
 ·rintro i e L hi hL ⟨h0,h3,h5⟩ ih;have hw:=qaf i (by omega);have hd:=qak3 l[i].entry x (hs _ (Qd hi));rw [Entry.ce] at h3;rw [Qi hi,QCb];cases z:sk l[i].entry x with
  | true=>
   rw [z] at hd;rw [QCs];simp [c_291_l0,Rw.ce,h0,h3,h5,hi,hd]
  | false=>
   rw [z] at hd;rw [QCh];generalize hX:some (Rt.val (AV.bool ((l.drop (i+1)).any fun y=>sk y.entry x)))=X;simp [c_291_l0,Rw.ce,h0,h3,h5,hi,hd,hw];rw [<- hX];exact ih _ ⟨by simp [h0],by simp [h3,Entry.ce],by simp⟩
 ·rintro e L hL ⟨h0,h3,h5⟩;simp [c_291_l0,c_291_k1,h0,h5,hL]
 ·simp [Entry.ce]
def ordL:List Rw->Int->Option Int
 | [],a=>some a
 | r::l,a=>if r.id<=a then none else ordL l r.id
def rowG (p:Prg) (t:Int) (l:List Rw) (i:Nat):Option Int:=(l[i]?).bind fun r=>if entE p t r.entry≠0 then some (entE p t r.entry) else if (l.take i).any (fun y=>sk y.entry r.entry)=true then some 7 else none
def tabK (p:Prg) (t:Int) (l:List Rw) (next:Int) (z:Int):Option Int->Int
 | none=>14
 | some a=>if next<=a then 14 else if 1073741824<next then 14 else (fe (rowG p t l) l.length 0).getD z
def rowS (r:Rw):Prop:=EntS r.entry
theorem ct_b (p:Prg) (f:PrgS p) (t:Int) (l:List Rw) (next:Int) (d:Xb) (hl:l.length<2^40) (hs:∀r∈l,rowS r) (hd:d.args.length<2^40) (a:Int) (ha:0<=a) (e:Env) (n:Nat)
  (h1:look 1 e=some (.int .i64 t)) (h2:look 2 e=some (.slice 5 (l.map Rw.c))) (h3:look 3 e=some (.int .i64 next)) (h5:look 5 e=some (.iptr 9 [Prg.c p] 0 0)) (h9:look 9 e=some (.iptr 2 [Xb.c d] 0 0)) (h11:look 11 e=some (.int .i64 a)):
  go Φ (finP [.tmp 10]) [.c c_152_k3] .normal ⟨e,⟨[],n⟩⟩=some (.val (.int .i64 (tabK p t l next (qbg p t d) (some a)))):=by
 unfold tabK;dsimp only;by_cases z0:next<=a
 ·simp [c_152_k3,h3,h11,z0]
 have z1:¬next<1:=by omega
 by_cases z2:1073741824<next
 ·simp [c_152_k3,h3,h11,z0,z1,z2]
 rw [QA z0,QA z2];simp [c_152_k3,h2,h3,h11,z0,z1,z2];refine qau l.length (fun _=>[]) 0 (fun i e=>look 1 e=some (.int .i64 t)/\look 2 e=some (.slice 5 (l.map Rw.c))/\look 5 e=some (.iptr 9 [Prg.c p] 0 0)/\look 9 e=some (.iptr 2 [Xb.c d] 0 0)/\look 50 e=some (.slice 5 (l.map Rw.c))/\look 51 e=some (.int .i64 l.length)/\look 52 e=some (.int .i64 i))
  (fun i=>some (Rt.val (.int .i64 ((fe (rowG p t l) l.length i).getD (qbg p t d))))) ?_ ?_ 0 _ n (Qc _) (Qc _) ?_
 ·rintro i e n L hi hL _ ⟨h1,h2,h5,h9,h50,h51,h52⟩ ih;have hw:=qaf i (by omega);have hm:=hs _ (Qd hi);have hc:=qwb p f t l[i].entry hm;have hi':i<=l.length:=by omega
  have hx:qab Φ f_160 [.slice 5 ((l.map Rw.c).take i),.func (.func f_215) [] [.iptr 5 [Rw.c l[i]] 0 0]]=some (.val (.bool ((l.take i).any fun x=>sk x.entry l[i].entry))):=by
   rw [<- QBh];exact qzj (l.take i) l[i] (by simp;omega) fun x hx=>(hs x (Qu hx)).kl
  simp only [Prg.e,Entry.ce] at hc;rw [Rw.ce] at hx;rw [Prg.e] at h5;by_cases v:entE p t l[i].entry=0
  ·rw [v] at hc;cases w:(l.take i).any fun x=>sk x.entry l[i].entry with
   | true=>
    rw [w] at hx;rw [qal (x:=(7:Int)) hi (by simp only [rowG,Qa hi,QAi];rw [QA (by simp [v]),QAa w])];simp [c_152_l1,Rw.ce,h1,h2,h5,h50,h51,h52,hi,hi',hc,hx]
   | false=>
    rw [w] at hx;rw [qar hi (by simp only [rowG,Qa hi,QAi];rw [QA (by simp [v]),QA (by rw [w];decide)])];generalize hX:some (Rt.val (AV.int .i64 ((fe (rowG p t l) l.length (i+1)).getD (qbg p t d))))=X;simp [c_152_l1,Rw.ce,h1,h2,h5,h50,h51,h52,hi,hi',hc,hx,hw];rw [<- hX];exact ih _ _ (Qc _) ⟨by simp [h1],by simp [h2],by simp [h5,Prg.e],by simp [h9],by simp [h50],by simp [h51],by simp⟩
  ·rw [qal (x:=entE p t l[i].entry) hi (by simp only [rowG,Qa hi,QAi];rw [QAa v])];simp [c_152_l1,Rw.ce,h1,h5,h50,h51,h52,hi,hc,v]
 ·rintro e n L hL _ ⟨h1,h2,h5,h9,h50,h51,h52⟩;have hk:=qoa p f t d hd;simp only [Prg.e,Xb.ce] at hk;rw [Prg.e] at h5;rw [Xb.ce] at h9;rw [qa4];simp [c_152_l1,c_152_k2,h1,h5,h9,h51,h52,hL,hk]
 ·simp [h1,h2,h5,h9]
theorem qafb (p:Prg) (f:PrgS p) (k:Nat) (hk:k<p.Xn.length) (l:List Rw) (next:Int) (d:Xb) (hl:l.length<2^40) (hs:∀r∈l,rowS r) (hd:d.args.length<2^40):
  qab Φ f_152 [.agg (Prg.c p),.int .i64 k,.slice 5 (l.map Rw.c),.int .i64 next,.agg (Xb.c d)]=some (.val (.int .i64 (if p.Xn[k].size<l.length then 12 else tabK p k l next (qbg p k d) (ordL l 0)))):=by
 rw [qaa (fn:=c_152) rfl rfl];by_cases z:p.Xn[k].size<(l.length:Int)
 ·simp [c_152,Prg.e,Xb.ce,Tbl.e,hk,z]
 rw [QA z];simp [c_152,Prg.e,Xb.ce,Tbl.e,hk,z];refine qau l.length (fun _=>[]) 0 (fun i e=>look 1 e=some (.int .i64 k)/\look 2 e=some (.slice 5 (l.map Rw.c))/\look 3 e=some (.int .i64 next)/\look 5 e=some (.iptr 9 [Prg.c p] 0 0)/\look 9 e=some (.iptr 2 [Xb.c d] 0 0)/\look 26 e=some (.slice 5 (l.map Rw.c))/\look 27 e=some (.int .i64 l.length)/\look 28 e=some (.int .i64 i)/\∃a:Int,look 11 e=some (.int .i64 a)/\0<=a/\ordL (l.drop i) a=ordL l 0)
  (fun _=>some (Rt.val (.int .i64 (tabK p k l next (qbg p k d) (ordL l 0))))) ?_ ?_ 0 _ 0 (Qc _) (Qc _) ?_
 ·rintro i e n L hi hL _ ⟨h1,h2,h3,h5,h9,h26,h27,h28,a,h11,ha,ho⟩ ih;have hw:=qaf i (by omega);rw [Qi hi] at ho;simp only [ordL] at ho;by_cases y:l[i].id<=a
  ·rw [QAa y] at ho;rw [<- ho];simp [c_152_l0,Rw.ce,h26,h27,h28,h11,hi,y,tabK]
  ·rw [QA y] at ho;generalize hX:some (Rt.val (AV.int .i64 (tabK p k l next (qbg p k d) (ordL l 0))))=X;simp [c_152_l0,Rw.ce,h26,h27,h28,h11,hi,y,hw];rw [<- hX];exact ih _ _ (Qc _) ⟨by simp [h1],by simp [h2],by simp [h3],by simp [h5],by simp [h9],by simp [h26],by simp [h27],by simp,l[i].id,by simp,by omega,ho⟩
 ·rintro e n L hL _ ⟨h1,h2,h3,h5,h9,h26,h27,h28,a,h11,ha,ho⟩;rw [QBx] at ho;simp only [ordL] at ho;rw [<- ho];generalize hX:some (Rt.val (AV.int .i64 (tabK p k l next (qbg p k d) (some a))))=X;simp [c_152_l0,h27,h28,hL];rw [<- hX];exact ct_b p f k l next d hl hs hd a ha _ _ (by simp [h1]) (by simp [h2]) (by simp [h3]) (by simp [h5]) (by simp [h9]) (by simp [h11])
 ·simp [Prg.e,Xb.ce]
theorem rt_b (p:Prg) (f:PrgS p) (hv:∀t∈p.Xn,∀v∈t.dflt.args,ok32 0 v) (t:Int) (l:List Rw) (next:Int) (hl:l.length<2^40) (hs:∀r∈l,rowS r) (a:Int) (e:Env) (n:Nat)
  (h1:look 1 e=some (.int .i64 t)) (h2:look 2 e=some (.slice 5 (l.map Rw.c))) (h3:look 3 e=some (.int .i64 next)) (h4:look 4 e=some (.iptr 9 [Prg.c p] 0 0)) (h9:look 9 e=some (.int .i64 a)):
  go Φ (finP [.tmp 8]) [.c c_254_k3] .normal ⟨e,⟨[],n⟩⟩=some (.val (.int .i64 (tabK p t l next 0 (some a)))):=by
 unfold tabK;dsimp only;by_cases z0:next<=a
 ·simp [c_254_k3,h3,h9,z0]
 by_cases z2:1073741824<next
 ·simp [c_254_k3,h3,h9,z0,z2]
 rw [QA z0,QA z2];simp [c_254_k3,h3,h9,z0,z2];refine qau l.length (fun _=>[]) 0 (fun i e=>look 1 e=some (.int .i64 t)/\look 2 e=some (.slice 5 (l.map Rw.c))/\look 4 e=some (.iptr 9 [Prg.c p] 0 0)/\look 11 e=some (.int .i64 i))
  (fun i=>some (Rt.val (.int .i64 ((fe (rowG p t l) l.length i).getD 0)))) ?_ ?_ 0 _ n (Qc _) (Qc _) ?_
 ·rintro i e n L hi hL _ ⟨h1,h2,h4,h11⟩ ih;have hw:=qaf i (by omega);have hm:=hs _ (Qd hi);have hc:=quh p f hv t l[i].entry hm;have hi':i<=l.length:=by omega
  have hx:qab Φ f_291 [.slice 5 ((l.map Rw.c).take i),.agg (Entry.c l[i].entry)]=some (.val (.bool ((l.take i).any fun x=>sk x.entry l[i].entry))):=by
   rw [<- QBh];exact qu3 (l.take i) l[i].entry (by simp;omega) fun x hx=>(hs x (Qu hx)).kl
  simp only [Prg.e,Entry.ce] at hc;rw [Entry.ce] at hx;rw [Prg.e] at h4;by_cases v:entE p t l[i].entry=0
  ·rw [v] at hc;cases w:(l.take i).any fun x=>sk x.entry l[i].entry with
   | true=>
    rw [w] at hx;rw [qal (x:=(7:Int)) hi (by simp only [rowG,Qa hi,QAi];rw [QA (by simp [v]),QAa w])];simp [c_254_l1,Rw.ce,h1,h2,h4,h11,hi,hi',hc,hx]
   | false=>
    rw [w] at hx;rw [qar hi (by simp only [rowG,Qa hi,QAi];rw [QA (by simp [v]),QA (by rw [w];decide)])];generalize hX:some (Rt.val (AV.int .i64 ((fe (rowG p t l) l.length (i+1)).getD 0)))=X;simp [c_254_l1,Rw.ce,h1,h2,h4,h11,hi,hi',hc,hx,hw];rw [<- hX];exact ih _ _ (Qc _) ⟨by simp [h1],by simp [h2],by simp [h4,Prg.e],by simp⟩
  ·rw [qal (x:=entE p t l[i].entry) hi (by simp only [rowG,Qa hi,QAi];rw [QAa v])];simp [c_254_l1,Rw.ce,h1,h2,h4,h11,hi,hc,v]
 ·rintro e n L hL _ ⟨h1,h2,h4,h11⟩;rw [qa4];simp [c_254_l1,c_254_k2,h2,h11,hL]
 ·simp [h1,h2,h4]
theorem qadp (p:Prg) (f:PrgS p) (hv:∀t∈p.Xn,∀v∈t.dflt.args,ok32 0 v) (k:Nat) (hk:k<p.Xn.length) (l:List Rw) (next:Int) (hl:l.length<2^40) (hs:∀r∈l,rowS r):
  qab Φ f_254 [.agg (Prg.c p),.int .i64 k,.slice 5 (l.map Rw.c),.int .i64 next]=some (.val (.int .i64 (if p.Xn[k].size<l.length then 12 else tabK p k l next 0 (ordL l 0)))):=by
 rw [qaa (fn:=c_254) rfl rfl];by_cases z:p.Xn[k].size<(l.length:Int)
 ·simp [c_254,Prg.e,Tbl.e,hk,z]
 rw [QA z];simp [c_254,Prg.e,Tbl.e,hk,z];refine qau l.length (fun _=>[]) 0 (fun i e=>look 1 e=some (.int .i64 k)/\look 2 e=some (.slice 5 (l.map Rw.c))/\look 3 e=some (.int .i64 next)/\look 4 e=some (.iptr 9 [Prg.c p] 0 0)/\look 10 e=some (.int .i64 i)/\∃a:Int,look 9 e=some (.int .i64 a)/\ordL (l.drop i) a=ordL l 0)
  (fun _=>some (Rt.val (.int .i64 (tabK p k l next 0 (ordL l 0))))) ?_ ?_ 0 _ 0 (Qc _) (Qc _) ?_
 ·rintro i e n L hi hL _ ⟨h1,h2,h3,h4,h10,a,h9,ho⟩ ih;have hw:=qaf i (by omega);rw [Qi hi] at ho;simp only [ordL] at ho;by_cases y:l[i].id<=a
  ·rw [QAa y] at ho;rw [<- ho];simp [c_254_l0,Rw.ce,h2,h10,h9,hi,y,tabK]
  ·rw [QA y] at ho;generalize hX:some (Rt.val (AV.int .i64 (tabK p k l next 0 (ordL l 0))))=X;simp [c_254_l0,Rw.ce,h2,h10,h9,hi,y,hw];rw [<- hX];exact ih _ _ (Qc _) ⟨by simp [h1],by simp [h2],by simp [h3],by simp [h4],by simp,l[i].id,by simp,ho⟩
 ·rintro e n L hL _ ⟨h1,h2,h3,h4,h10,a,h9,ho⟩;rw [QBx] at ho;simp only [ordL] at ho;rw [<- ho];generalize hX:some (Rt.val (AV.int .i64 (tabK p k l next 0 (some a))))=X;simp [c_254_l0,h2,h10,hL];rw [<- hX];exact rt_b p f hv k l next hl hs a _ _ (by simp [h1]) (by simp [h2]) (by simp [h3]) (by simp [h4]) (by simp [h9])
 ·simp [Prg.e]
def mxF:List Int->Int->Int
 | [],a=>a
 | x::r,a=>mxF r (max a x)
theorem qaaf (M:Int):∀(l:List Int) (a:Int),M<mxF l a↔M<a\/∃x∈l,M<x
 | [],a=>by simp [mxF]
 | x::r,a=>by
  have ih:=qaaf M r (max a x);simp only [mxF,ih,QAj,exists_eq_or_imp];constructor
  ·rintro (h | h)
   ·by_cases q:M<a
    ·exact .inl q
    ·exact .inr (.inl (by omega))
   ·exact .inr (.inr h)
  ·rintro (h | h | h)
   ·exact .inl (by omega)
   ·exact .inl (by omega)
   ·exact .inr h
theorem qajy (l:List Int) (h0:0<l.length) (hl:l.length<2^40):qab Φ f_216 [.slice 1 (l.map c32)]=some (.val (.int .u32 (mxF l.tail l[0]))):=by
 rw [qaa (fn:=c_216) rfl rfl];have h1:¬(l.length:Int)<1:=by omega
 simp [c_216,h0,h1,c32];refine qau l.length (fun _=>[]) 0 (fun i e=>look 0 e=some (.slice 1 (l.map c32))/\look 4 e=some (.int .i64 i)/\∃a:Int,look 3 e=some (.int .u32 a)/\mxF (l.drop i) a=mxF l.tail l[0])
  (fun _=>some (Rt.val (.int .u32 (mxF l.tail l[0])))) ?_ ?_ 1 _ 0 (by omega) (Qc _) ?_
 ·rintro i e n L hi hL _ ⟨h0,h4,a,h3,hm⟩ ih;have hw:=qaf i (by omega);rw [Qi hi] at hm;simp only [mxF] at hm;generalize hX:some (Rt.val (AV.int .u32 (mxF l.tail l[0])))=X;simp [c_216_l0,c32,h0,h4,h3,hi,hw];rw [<- hX];exact ih _ _ (Qc _) ⟨by simp [h0],by simp,max a l[i],by simp;split<;>omega,hm⟩
 ·rintro e n L hL _ ⟨h0,h4,a,h3,hm⟩;rw [QBx] at hm;simp only [mxF] at hm;rw [<- hm];simp [c_216_l0,c_216_k1,h0,h4,h3,hL]
 ·simp
def szG (p:Prg) (rs:List (List Int)) (i:Nat):Option Int:=match rs[i]?,p.Xm[i]? with
 | some l,some r=>if (l.length:Int)=r.size then none else some 2
 | _,_=>none
def vlG (p:Prg) (rs:List (List Int)) (i:Nat):Option Int:=match rs[i]?,p.Xm[i]? with
 | some l,some r=>if l.any (fun v=>decide (qbh r.width<v))=true then some 9 else none
 | _,_=>none
def conE (p:Prg) (rs:List (List Int)):Int:=if rs.length≠p.Xm.length then 2 else (fe (szG p rs) rs.length 0).getD ((fe (vlG p rs) rs.length 0).getD 0)
theorem con_b (p:Prg) (f:PrgS p) (rs:List (List Int)) (hl:rs.length<2^40) (hs:∀l∈rs,l.length<2^40) (hz:rs.length=p.Xm.length) (e:Env) (n:Nat)
  (h1:look 1 e=some (.slice 1 (rs.map (cS 1 c32)))) (h2:look 2 e=some (.iptr 9 [Prg.c p] 0 0)):
  go Φ (finP [.tmp 4]) [.c c_153_k3] .normal ⟨e,⟨[],n⟩⟩=some (.val (.int .i64 ((fe (vlG p rs) rs.length 0).getD 0))):=by
 simp [c_153_k3,h1];refine qau rs.length (fun _=>[]) 0 (fun i e=>look 2 e=some (.iptr 9 [Prg.c p] 0 0)/\look 32 e=some (.slice 1 (rs.map (cS 1 c32)))/\look 33 e=some (.int .i64 rs.length)/\look 34 e=some (.int .i64 i))
  (fun i=>some (Rt.val (.int .i64 ((fe (vlG p rs) rs.length i).getD 0)))) ?_ ?_ 0 _ n (Qc _) (Qc _) ?_
 ·rintro i e n L hi hL _ ⟨h2,h32,h33,h34⟩ ih;have hw:=qaf i (by omega);have hi2:i<p.Xm.length:=by omega
  have hm:=qgj p.Xm[i].width;rw [Prg.e] at h2;by_cases e0:rs[i].length=0
  ·have e1:rs[i]=[]:=Qg e0;rw [qar hi (by simp [vlG,hi,hi2,e1])];generalize hX:some (Rt.val (AV.int .i64 ((fe (vlG p rs) rs.length (i+1)).getD 0)))=X;simp [c_153_l1,cSe,h32,h33,h34,hi,hw,e1];rw [<- hX];exact ih _ _ (Qc _) ⟨by simp [h2,Prg.e],by simp [h32],by simp [h33],by simp⟩
  have e1:0<rs[i].length:=by omega
  have hx:=qajy rs[i] e1 (hs _ (Qd hi));have hy:rs[i].any (fun v=>decide (qbh p.Xm[i].width<v))=decide (qbh p.Xm[i].width<mxF rs[i].tail rs[i][0]):=by
   rw [Bool.eq_iff_iff,decide_eq_true_eq,qaaf,QCn];have hd:rs[i]=rs[i][0]::rs[i].tail:=by
    have:=Qi e1;simpa using this
   constructor
   ·rintro ⟨x,hx,hv⟩;rw [hd] at hx;rcases QAj.1 hx with rfl | hx
    ·exact .inl (of_decide_eq_true hv)
    ·exact .inr ⟨x,hx,of_decide_eq_true hv⟩
   ·rintro (h | ⟨x,hx,hv⟩)
    ·exact ⟨_,Qd e1,decide_eq_true h⟩
    ·exact ⟨x,List.mem_of_mem_tail hx,decide_eq_true hv⟩
  by_cases v:qbh p.Xm[i].width<mxF rs[i].tail rs[i][0]
  ·rw [qal (x:=(9:Int)) hi (by simp only [vlG,Qa hi,Qa hi2];rw [hy,QAa (decide_eq_true v)])];simp [c_153_l1,cSe,Xh.e,h2,h32,h33,h34,hi,hi2,e1,hx,hm,v]
  ·rw [qar hi (by simp only [vlG,Qa hi,Qa hi2];rw [hy,QA (by simpa using v)])];generalize hX:some (Rt.val (AV.int .i64 ((fe (vlG p rs) rs.length (i+1)).getD 0)))=X;simp [c_153_l1,cSe,Xh.e,h2,h32,h33,h34,hi,hi2,e1,hx,hm,v,hw];rw [<- hX];exact ih _ _ (Qc _) ⟨by simp [h2,Prg.e],by simp [h32],by simp [h33],by simp⟩
 ·rintro e n L hL _ ⟨h2,h32,h33,h34⟩;rw [qa4];simp [c_153_l1,c_153_k2,h33,h34,hL]
 ·simp [h2]
theorem qae8 (p:Prg) (f:PrgS p) (rs:List (List Int)) (hl:rs.length<2^40) (hs:∀l∈rs,l.length<2^40):qab Φ f_153 [.agg (Prg.c p),.slice 1 (rs.map (cS 1 c32))]=some (.val (.int .i64 (conE p rs))):=by
 rw [qaa (fn:=c_153) rfl rfl];unfold conE;by_cases z:rs.length=p.Xm.length
 rotate_left
 ·simp [c_153,Prg.e,z]
 rw [QA (by simpa using z)];generalize hY:some (Rt.val (AV.int .i64 ((fe (szG p rs) rs.length 0).getD ((fe (vlG p rs) rs.length 0).getD 0))))=Y;simp [c_153,Prg.e,z];rw [<- hY];refine qau rs.length (fun _=>[]) 0 (fun i e=>look 1 e=some (.slice 1 (rs.map (cS 1 c32)))/\look 2 e=some (.iptr 9 [Prg.c p] 0 0)/\look 15 e=some (.slice 1 (rs.map (cS 1 c32)))/\look 16 e=some (.int .i64 rs.length)/\look 17 e=some (.int .i64 i))
  (fun i=>some (Rt.val (.int .i64 ((fe (szG p rs) rs.length i).getD ((fe (vlG p rs) rs.length 0).getD 0))))) ?_ ?_ 0 _ 0 (Qc _) (Qc _) ?_
 ·rintro i e n L hi hL _ ⟨h1,h2,h15,h16,h17⟩ ih;have hw:=qaf i (by omega);have hi2:i<p.Xm.length:=by omega
  rw [Prg.e] at h2;by_cases v:(rs[i].length:Int)=p.Xm[i].size
  ·rw [qar hi (by simp [szG,hi,hi2,v])];generalize hX:some (Rt.val (AV.int .i64 ((fe (szG p rs) rs.length (i+1)).getD ((fe (vlG p rs) rs.length 0).getD 0))))=X;simp [c_153_l0,cSe,Xh.e,h2,h15,h16,h17,hi,hi2,v,hw];rw [<- hX];exact ih _ _ (Qc _) ⟨by simp [h1],by simp [h2,Prg.e],by simp [h15],by simp [h16],by simp⟩
  ·rw [qal (x:=(2:Int)) hi (by simp [szG,hi,hi2,v])];simp [c_153_l0,cSe,Xh.e,h2,h15,h16,h17,hi,hi2,v]
 ·rintro e n L hL _ ⟨h1,h2,h15,h16,h17⟩;rw [qa4];generalize hX:some (Rt.val (AV.int .i64 ((none:Option Int).getD ((fe (vlG p rs) rs.length 0).getD 0))))=X;simp [c_153_l0,h16,h17,hL];rw [<- hX];exact con_b p f rs hl hs z _ _ (by simp [h1]) (by simp [h2])
 ·simp [Prg.e,z]
end Go.Av
