/-
  Lemmas for the law.
-/
import Derived.Test.YtjdbnnnakpacjaaGreatK16
set_option linter.unusedVariables false
set_option linter.unusedSimpArgs false
set_option linter.constructorNameAsVariable false
namespace Go.Av
set_option maxRecDepth 4000
def qch {α:Type} [DecidableEq α] (l m:List α) (i:Nat):Bool:=decide (l.drop i=m.drop i)
theorem qd8 {α:Type} [DecidableEq α] {l m:List α} {i:Nat} (h1:i<l.length) (h2:i<m.length) (h:l[i]=m[i]):qch l m i=qch l m (i+1):=by
 unfold qch;rw [decide_eq_decide,qnl h1 h2];simp [h]
theorem qd0 {α:Type} [DecidableEq α] {l m:List α} {i:Nat} (h1:i<l.length) (h2:i<m.length) (h:l[i]≠m[i]):qch l m i=false:=by
 unfold qch;rw [decide_eq_false_iff_not,qnl h1 h2];simp [h]
theorem qd7 {α:Type} [DecidableEq α] {l m:List α} (h:l.length=m.length):qch l m l.length=true:=by
 simp [qch,h]
theorem qac2 (l m:List Int) (hb:l.length<2^40):qad Φ f_165 [.slice 1 (l.map c32),.slice 1 (m.map c32)]=some (.val (.bool (decide (l=m)))):=by
 rw [qaa (fn:=c_165) rfl rfl];by_cases q1:l.length=m.length
 rotate_left
 ·have:l≠m:=fun h=>q1 (by rw [h])
  simp [c_165,q1,this]
 simp [c_165,q1];refine (qcj l.length (fun i e=>look 1 e=some (.slice 1 (m.map c32))/\look 12 e=some (.slice 1 (l.map c32))/\look 13 e=some (.int .i64 m.length)/\look 14 e=some (.int .i64 i))
  (fun i=>some (Rt.val (AV.bool (qch l m i)))) ?_ ?_ 0 _ (Qc _) ?_).trans (by simp [qch])
 ·rintro i e L hi hL ⟨h1,h12,h13,h14⟩ ih;have hi2:i<m.length:=by omega
  have hw:=qal i (by omega);by_cases c:l[i]=m[i]
  ·rw [qd8 hi hi2 c];simp [c_165_l0,c32,hi,hi2,h1,h12,h13,h14,hw,c];exact ih _ ⟨by simp [h1],by simp [h12],by simp [h13],by simp⟩
  ·rw [qd0 hi hi2 c];simp [c_165_l0,c32,hi,hi2,h1,h12,h13,h14,c]
 ·rintro e L hL ⟨h1,h12,h13,h14⟩;rw [qd7 q1];simp [c_165_l0,c_165_k1, *]
 ·simp
theorem qnm (k1 k2:List Xi) (p1 p2:Int) (r1 r2:List AV) (hb:k1.length<2^40):
   qad Φ f_162 [.agg (.slice 2 (k1.map Xi.c):: .int .i64 p1::r1),.agg (.slice 2 (k2.map Xi.c):: .int .i64 p2::r2)]=some (.val (.bool (decide (k1=k2/\p1=p2)))):=by
  rw [qaa (fn:=c_162) rfl rfl];by_cases q2:p1=p2
  rotate_left
  · simp [c_162,q2]
  by_cases q1:k1.length=k2.length
  rotate_left
  · have:k1≠k2:=fun h=>q1 (by rw [h])
    simp [c_162,q1,this,q2]
  subst q2;simp [c_162,q1];refine (qdt k1.length (fun i e h=>look 2 e=some (AV.ptr 0 (r1.length+1+1) 0 0)/\look 3 e=some (AV.ptr 1 (r2.length+1+1) 0 0)/\look 22 e=some (.slice 2 (k1.map Xi.c))/\look 23 e=some (.int .i64 k2.length)/\look 24 e=some (.int .i64 i)/\
      HP [(0,AO.row (r1.length+1+1) [.slice 2 (k1.map Xi.c):: .int .i64 p1::r1]),(1,AO.row (r2.length+1+1) [.slice 2 (k2.map Xi.c):: .int .i64 p1::r2])] 2 h)
    (fun i=>some (Rt.val (AV.bool (qch k1 k2 i)))) ?_ ?_ 0 _ _ (Qc _) ?_).trans (by simp [qch])
  · rintro i e _ L hi hL ⟨h2,h3,h22,h23,h24,T,n,hT,rfl⟩ ih
    have hi2:i<k2.length:=by omega
    have hw:=qal i (by omega);have hT':=hT (n+2) (Qb _);by_cases c:k1[i]=k2[i]
    · rw [qd8 hi hi2 c]
      simp [c_162_l0,Xi.c,hi,hi2,h3,h22,h23,h24,hw,c,hT'];exact ih _ _ ⟨by simp [h2],by simp [h3],by simp [h22],by simp [h23],by simp,HP.next hT⟩
    · rw [qd0 hi hi2 c]
      have c':(decide (k1[i].value=k2[i].value)&&decide (k1[i].mask=k2[i].mask))=false:=by
        simp [Xi.ext_iff] at c ⊢;exact c
      simp [c_162_l0,Xi.c,hi,hi2,h3,h22,h23,h24,c',hT']
  · rintro e _ L hL ⟨h2,h3,h22,h23,h24,T,n,hT,rfl⟩
    rw [qd7 q1];simp [c_162_l0,c_162_k1, *]
  · simp
    exact HP.mk
theorem Entry.eq_iff (x y:Entry):x=y↔x.keys=y.keys/\x.Xt=y.Xt/\x.call.action=y.call.action/\x.call.args=y.call.args:=by
 constructor
 ·rintro rfl;simp
 ·rintro ⟨a,b,c,d⟩;obtain ⟨k,p,u,v⟩:=x;obtain ⟨k',p',u',v'⟩:=y;simp only at a b c d;subst a b c d;rfl
def Entry.sm (x:Entry):Prop:=x.keys.length<2^40/\x.call.args.length<2^40
theorem qaah (x y:Entry) (hb:x.sm):qad Φ f_96 [.agg (Entry.c x),.agg (Entry.c y)]=some (.val (.bool (decide (x=y)))):=by
 rw [qaa (fn:=c_96) rfl rfl];have hk:=qnm x.keys y.keys x.Xt y.Xt [.int .i64 x.call.action,.slice 1 (x.call.args.map c32)] [.int .i64 y.call.action,.slice 1 (y.call.args.map c32)] hb.1;have ha:=qac2 x.call.args y.call.args hb.2;rw [decide_eq_decide.2 (Entry.eq_iff x y)];by_cases q1:x.keys=y.keys/\x.Xt=y.Xt
 ·rw [decide_eq_true q1] at hk;by_cases q3:x.call.action=y.call.action
  ·have e:decide (x.keys=y.keys/\x.Xt=y.Xt/\x.call.action=y.call.action/\x.call.args=y.call.args)=decide (x.call.args=y.call.args):=by simp [q1,q3]
   simp only [e];rw [q3] at hk;simp [c_96,Entry.c,hk,ha,q3]
  ·have e:decide (x.keys=y.keys/\x.Xt=y.Xt/\x.call.action=y.call.action/\x.call.args=y.call.args)=false:=by simp [q1,q3]
   simp only [e];simp [c_96,Entry.c,hk,q3]
 ·have q2:¬(x.keys=y.keys/\x.Xt=y.Xt/\x.call.action=y.call.action/\x.call.args=y.call.args):=fun h=>q1 ⟨h.1,h.2.1⟩
  have q1':decide (x.keys=y.keys/\x.Xt=y.Xt)=false:=decide_eq_false q1;rw [q1'] at hk;have e:decide (x.keys=y.keys/\x.Xt=y.Xt/\x.call.action=y.call.action/\x.call.args=y.call.args)=false:=decide_eq_false q2;rw [e];simp [c_96,Entry.c,hk]
theorem Rw.ce (x:Rw):Rw.c x=[.int .i64 x.id,.slice 2 (x.entry.keys.map Xi.c),.int .i64 x.entry.Xt,.int .i64 x.entry.call.action,.slice 1 (x.entry.call.args.map c32)]:=by simp [Rw.c]
theorem cSe {α:Type} (z:Nat) (f:α->List AV) (l:List α):cS z f l=[.slice z (l.map f)]:=by simp [cS]
theorem Xb.ce (x:Xb):Xb.c x=[.int .i64 x.action,.slice 1 (x.args.map c32)]:=by simp [Xb.c]
theorem Entry.ce (x:Entry):Entry.c x=[.slice 2 (x.keys.map Xi.c),.int .i64 x.Xt,.int .i64 x.call.action,.slice 1 (x.call.args.map c32)]:=by simp [Entry.c]
theorem Xf.ce (x:Xf):Xf.c x=[.slice 1 (x.rows.map (cS 5 Rw.c)),.slice 1 (x.Xr.map cI),.slice 2 (x.Xq.map Xb.c),.slice 1 (x.Xm.map (cS 1 c32))]:=by simp [Xf.c]
theorem cIe (x:Int):cI x=[.int .i64 x]:=by simp [cI]
theorem c32e (x:Int):c32 x=[.int .u32 x]:=by simp [c32]
theorem Rw.eq_iff (x y:Rw):x=y↔x.id=y.id/\x.entry=y.entry:=by
 constructor
 ·rintro rfl;simp
 ·rintro ⟨a,b⟩;obtain ⟨u,v⟩:=x;obtain ⟨u',v'⟩:=y;simp only at a b;subst a b;rfl
theorem Xb.eq_iff (x y:Xb):x=y↔x.action=y.action/\x.args=y.args:=by
 constructor
 ·rintro rfl;simp
 ·rintro ⟨a,b⟩;obtain ⟨u,v⟩:=x;obtain ⟨u',v'⟩:=y;simp only at a b;subst a b;rfl
structure CfgS (a:Xf):Prop where
 rl:a.rows.length<2^40
 rs:∀l∈a.rows,l.length<2^40/\∀r∈l,r.entry.sm
 nl:a.Xr.length<2^40
 dl:a.Xq.length<2^40
 ds:∀d∈a.Xq,d.args.length<2^40
 gl:a.Xm.length<2^40
 gs:∀l∈a.Xm,l.length<2^40
theorem Xf.eq_iff (a b:Xf):a=b↔a.rows=b.rows/\a.Xr=b.Xr/\a.Xq=b.Xq/\a.Xm=b.Xm:=by
 constructor
 ·rintro rfl;simp
 ·rintro ⟨h1,h2,h3,h4⟩;obtain ⟨x,y,z,u⟩:=a;obtain ⟨x',y',z',u'⟩:=b;simp only at h1 h2 h3 h4;subst h1 h2 h3 h4;rfl
theorem Action.ce (x:Action):Action.c x=[.str x.name,.slice 2 (x.params.map Fld.c),.slice 7 (x.body.map Xg.c)]:=by simp [Action.c]
theorem Xj.ce (x:Xj):Xj.c x=[.str x.name,.slice 2 (x.fields.map Fld.c)]:=by simp [Xj.c]
theorem Xh.ce (x:Xh):Xh.c x=[.str x.name,.int .i64 x.width,.int .i64 x.size]:=by simp [Xh.c]
theorem Xg.ce (x:Xg):Xg.c x=[.int .i64 x.kind,.int .i64 x.dst.header,.int .i64 x.dst.field,.int .i64 x.register,.int .i64 x.header,.slice 3 (x.index.map Xe.c),.slice 3 (x.value.map Xe.c)]:=by simp [Xg.c]
theorem Tbl.ce (x:Tbl):Tbl.c x=[.str x.name,.slice 3 (x.keys.map Xl.c),.slice 1 (x.actions.map cI),.int .i64 x.dflt.action,.slice 1 (x.dflt.args.map c32),.int .i64 x.size]:=by simp [Tbl.c]
theorem Xd.ce (x:Xd):Xd.c x=[.str x.name,.slice 1 (x.extract.map cI),.bool x.select,.int .i64 x.on.header,.int .i64 x.on.field,.slice 3 (x.cases.map Xk.c),.int .i64 x.dflt]:=by simp [Xd.c]
theorem Xa.ce (k t:Int) (c:List Xe) (a b:List Xa):Xa.c (.mk k t c a b)=[.int .i64 k,.int .i64 t,.slice 3 (c.map Xe.c),.slice 5 (a.map Xa.c),.slice 5 (b.map Xa.c)]:=by simp [Xa.c,Xa.cs_eq]
theorem Prg.ce (x:Prg):Prg.c x=[.str x.name,.slice 2 (x.Xp.map Xj.c),.slice 2 (x.Xo.map Fld.c),.slice 3 (x.Xm.map Xh.c),.slice 3 (x.actions.map Action.c),.slice 6 (x.Xn.map Tbl.c),.slice 7 (x.states.map Xd.c),.slice 5 (x.control.map Xa.c),.slice 1 (x.Xs.map cI)]:=by simp [Prg.c]
def hp0 (p:Prg):AH:=⟨[(0,.row 9 [[.str p.name,.slice 2 (p.Xp.map Xj.c),.slice 2 (p.Xo.map Fld.c),.slice 3 (p.Xm.map Xh.c),.slice 3 (p.actions.map Action.c),.slice 6 (p.Xn.map Tbl.c),.slice 7 (p.states.map Xd.c),.slice 5 (p.control.map Xa.c),.slice 1 (p.Xs.map cI)]])],1⟩
structure PrgB (p:Prg):Prop where
 h:p.Xp.length<2^40
 r:p.Xm.length<2^40
 a:p.actions.length<2^40
 b:∀x∈p.actions,x.body.length<2^40
 t:p.Xn.length<2^40
 s:p.states.length<2^40
 c:p.control.length<2^40
 co:∀x∈p.control,Xa.Ok qaz x
def hp1 (p:Prg) (c:Xf):AH:=⟨[(0,.row 9 [[.str p.name,.slice 2 (p.Xp.map Xj.c),.slice 2 (p.Xo.map Fld.c),.slice 3 (p.Xm.map Xh.c),.slice 3 (p.actions.map Action.c),.slice 6 (p.Xn.map Tbl.c),.slice 7 (p.states.map Xd.c),.slice 5 (p.control.map Xa.c),.slice 1 (p.Xs.map cI)]]),(1,.row 4 [[.slice 1 (c.rows.map (cS 5 Rw.c)),.slice 1 (c.Xr.map cI),.slice 2 (c.Xq.map Xb.c),.slice 1 (c.Xm.map (cS 1 c32))]])],2⟩
def tOk (p:Prg) (t:Int):Bool:=decide ((tblE p t).2=0)
theorem keyV {p:Prg} {x:Tbl} (h:keyE p x=none):∀k∈x.keys,k.kind=1\/k.kind=2\/k.kind=3:=by
 intro k hk;obtain ⟨i,hi,rfl⟩:=List.getElem_of_mem hk;have:=(fe_all.1 h) i hi;simp [hi] at this;split at this
 ·cases this
 ·split at this
  ·assumption
  ·cases this
structure TOk (p:Prg) (k:Nat) (hk:k<p.Xn.length):Prop where
 keys:p.Xn[k].keys.length<=6
 acts:p.Xn[k].actions.length<=16
 kinds:∀x∈p.Xn[k].keys,x.kind=1\/x.kind=2\/x.kind=3
 size:1<=p.Xn[k].size/\p.Xn[k].size<=256
theorem qkj {p:Prg} {t:Int} (h:tOk p t=true):∃(k:Nat) (hk:k<p.Xn.length),t=k/\TOk p k hk:=by
 simp only [tOk,decide_eq_true_eq] at h;by_cases i0:t<0
 ·simp [tblE,qdq i0] at h
 by_cases i1:(p.Xn.length:Int)<=t
 ·simp [tblE,qdp i1] at h
 obtain ⟨k,rfl⟩:∃k:Nat,t=k:=⟨t.toNat,by omega⟩;have hk:k<p.Xn.length:=by omega
 refine ⟨k,hk,rfl,?_⟩;unfold tblE at h;rw [qfo,Qa hk] at h;dsimp only at h;by_cases z0:idS p.Xn[k].name=false
 ·rw [QAa z0] at h;cases h
 rw [QA z0] at h;by_cases z1:6<p.Xn[k].keys.length\/16<p.Xn[k].actions.length
 ·rw [QAa z1] at h;cases h
 rw [QA z1] at h;by_cases z2:p.Xn[k].size<1\/256<p.Xn[k].size
 ·rw [QAa z2] at h;cases h
 rw [QA z2] at h;by_cases z3:(qh5 p p.Xn[k]).2≠0
 ·rw [QAa z3] at h;exact absurd h z3
 refine ⟨by omega,by omega,?_,by omega⟩;unfold qh5 at z3;cases q:keyE p p.Xn[k] with
 | none=>exact keyV q
 | some e=>
  exfalso;rw [q] at z3;dsimp only at z3;obtain ⟨i,hi,hx⟩:=qii q;simp only [Qt] at hx;obtain ⟨y,_,hy⟩:=hx;split at hy
  ·cases hy;exact z3 (by simp)
  ·split at hy
   ·cases hy
   ·cases hy;exact z3 (by simp)
theorem qmq (p:Prg) (f:PrgS p) (t:Int):qad Φ f_262 [.agg (Prg.c p),.int .i64 t]=some (.val (.bool (tOk p t))):=by
 rw [qaa (fn:=c_262) rfl rfl];have h:=qq5 p f t;simp only [Prg.e] at h;simp [c_262,Prg.e,h,tOk]
def kMax:List Xl->Int->Int
 | [],a=>a
 | k::r,a=>kMax r (max a k.kind)
def qne (p:Prg) (t:Int):Int:=if tOk p t then (match at? p.Xn t with
 | some x=>kMax x.keys 1
 | none=>0) else 0
theorem qaa7:∀(l:List Xl) (a:Int),a=3->(∀x∈l,x.kind=1\/x.kind=2\/x.kind=3)->kMax l a=3
 | [],a,h,_=>h
 | k::r,a,h,hk=>by
  subst h;have:=hk k (by simp);simp only [kMax];exact qaa7 r _ (by omega) fun x hx=>hk x (by simp [hx])
theorem qaer (p:Prg) (f:PrgS p) (t:Int):qad Φ f_222 [.agg (Prg.c p),.int .i64 t]=some (.val (.int .i64 (qne p t))):=by
 rw [qaa (fn:=c_222) rfl rfl];have h:=qmq p f t;simp only [Prg.e] at h;cases q:tOk p t with
 | false=>
  rw [q] at h;simp [c_222,Prg.e,h,qne,q]
 | true=>
 rw [q] at h;obtain ⟨k,hk,rfl,o⟩:=qkj q;have hK:qne p (k:Int)=kMax p.Xn[k].keys 1:=by simp [qne,q,hk]
 rw [hK];have hb:=o.keys;simp [c_222,Prg.e,h,hk,Tbl.e];refine qa4 p.Xn[k].keys.length (fun _=>[]) 0 (fun i e=>look 17 e=some (.slice 3 (p.Xn[k].keys.map Xl.c))/\look 18 e=some (.int .i64 p.Xn[k].keys.length)/\look 19 e=some (.int .i64 i)/\∃a:Int,look 5 e=some (.int .i64 a)/\(a=1\/a=2)/\kMax (p.Xn[k].keys.drop i) a=kMax p.Xn[k].keys 1)
  (fun _=>some (Rt.val (.int .i64 (kMax p.Xn[k].keys 1)))) ?_ ?_ 0 _ 0 (Qc _) (Qb _) ?_
 ·rintro i e n L hi hL _ ⟨h17,h18,h19,a,h5,ha,hm⟩ ih;have hw:=qal i (by omega);rw [Qi hi] at hm;simp only [kMax] at hm;have hkk:=o.kinds _ (Qd hi);by_cases k3:p.Xn[k].keys[i].kind=3
  ·have:kMax p.Xn[k].keys 1=3:=by
    rw [<- hm];exact qaa7 _ _ (by omega) fun x hx=>o.kinds x (QAu hx)
   rw [this];simp [c_222_l0,Xl.e,h17,h18,h19,hi,k3]
  by_cases k2:p.Xn[k].keys[i].kind=2
  ·simp [c_222_l0,Xl.e,h17,h18,h19,hi,k2,hw];exact ih _ _ (Qc _) ⟨by simp [h17],by simp [h18],by simp,2,by simp,.inr rfl,by rw [<- hm];congr 1;omega⟩
  ·simp [c_222_l0,Xl.e,h17,h18,h19,hi,k3,k2,hw];exact ih _ _ (Qc _) ⟨by simp [h17],by simp [h18],by simp,a,by simp [h5],ha,by rw [<- hm];congr 1;omega⟩
 ·rintro e n L hL _ ⟨h17,h18,h19,a,h5,ha,hm⟩;rw [QCs] at hm;simp only [kMax] at hm;rw [<- hm];simp [c_222_l0,c_222_k1,h5,h18,h19,hL]
 ·simp
theorem qzl (p:Prg) (f:PrgS p) (k:Nat) (hk:k<p.Xn.length) (q:tOk p k=true):qad Φ f_220 [.agg (Prg.c p),.int .i64 k]=some (.val (.slice 1 ((kWid p p.Xn[k]).map cI))):=by
 rw [qaa (fn:=c_220) rfl rfl];have h:=qmq p f k;rw [q] at h;simp only [Prg.e] at h;obtain ⟨k',hk',e,o⟩:=qkj q;obtain rfl:k=k':=by omega
 have hb:=o.keys;have e0:(kWid p p.Xn[k]).map cI=p.Xn[k].keys.map fun y=>[AV.int .i64 (wid p y.field.header y.field.field)]:=by simp [kWid,cI]
 rw [e0];simp [c_220,Prg.e,h,hk,Tbl.e];refine (qa4 p.Xn[k].keys.length (fun i=>[(0,.tok 1 i)]) 1 (fun i e=>look 2 e=some (.iptr 9 [Prg.c p] 0 0)/\look 5 e=some (.app 1 ((p.Xn[k].keys.map fun y=>[AV.int .i64 (wid p y.field.header y.field.field)]).take i) 0)/\look 17 e=some (.slice 3 (p.Xn[k].keys.map Xl.c))/\look 18 e=some (.int .i64 p.Xn[k].keys.length)/\look 19 e=some (.int .i64 i))
  (fun _=>some (Rt.val (.slice 1 (p.Xn[k].keys.map fun y=>[AV.int .i64 (wid p y.field.header y.field.field)])))) ?_ ?_ 0 _ 1 (Qc _) (Qb _) ?_).trans (by simp)
 ·rintro i e n L hi hL hn ⟨h2,h5,h17,h18,h19⟩ ih;have hw:=qal i (by omega);have hv:=qp4 p p.Xn[k].keys[i].field.header p.Xn[k].keys[i].field.field;simp only [Prg.e] at hv;rw [Prg.e] at h2;have hn0:¬(0=n):=by omega
  have hn1:¬(n=0):=by omega
  have hm:min i p.Xn[k].keys.length=i:=by omega
  have hb:(i+1)*8<=70368744177664:=by omega
  simp [c_220_l0,Xl.e,h2,h5,h17,h18,h19,hi,hw,hn0,hm,hb,hv];exact ih _ _ (by omega) ⟨by simp [h2,Prg.e],by simp [qa5 hi],by simp [h17],by simp [h18],by simp⟩
 ·rintro e n L hL hn ⟨h2,h5,h17,h18,h19⟩;simp [c_220_l0,c_220_k1,h5,h18,h19,hL]
 ·simp [Prg.e]
def tAl (p:Prg) (t a:Int):Bool:=tOk p t&&(match at? p.Xn t with
 | some x=>x.actions.any fun s=>decide (s=a)
 | none=>false)
theorem qp0 (p:Prg) (f:PrgS p) (t a:Int):qad Φ f_218 [.agg (Prg.c p),.int .i64 t,.int .i64 a]=some (.val (.bool (tAl p t a))):=by
 rw [qaa (fn:=c_218) rfl rfl];have h:=qmq p f t;simp only [Prg.e] at h;cases q:tOk p t with
 | false=>
  rw [q] at h;simp [c_218,Prg.e,h,tAl,q]
 | true=>
 rw [q] at h;obtain ⟨k,hk,rfl,o⟩:=qkj q;have hK:tAl p (k:Int) a=p.Xn[k].actions.any fun s=>decide (s=a):=by simp [tAl,q,hk]
 rw [hK];have hb:=o.acts;simp [c_218,Prg.e,h,hk,Tbl.e];refine (qa4 p.Xn[k].actions.length (fun _=>[]) 0 (fun i e=>look 2 e=some (.int .i64 a)/\look 18 e=some (.slice 1 (p.Xn[k].actions.map cI))/\look 19 e=some (.int .i64 p.Xn[k].actions.length)/\look 20 e=some (.int .i64 i))
  (fun i=>some (Rt.val (.bool ((p.Xn[k].actions.drop i).any fun s=>decide (s=a))))) ?_ ?_ 0 _ 0 (Qc _) (Qb _) ?_).trans (by simp)
 ·rintro i e n L hi hL _ ⟨h2,h18,h19,h20⟩ ih;have hw:=qal i (by omega);rw [Qi hi,QCj];by_cases z:p.Xn[k].actions[i]=a
  ·generalize hX:some (Rt.val (AV.bool (decide (p.Xn[k].actions[i]=a) || (p.Xn[k].actions.drop (i+1)).any fun s=>decide (s=a))))=X;simp [c_218_l0,cI,h2,h18,h19,h20,hi,z];rw [<- hX];simp [z]
  ·rw [show (decide (p.Xn[k].actions[i]=a) || (p.Xn[k].actions.drop (i+1)).any fun s=>decide (s=a))=(p.Xn[k].actions.drop (i+1)).any fun s=>decide (s=a) by simp [z]];generalize hX:some (Rt.val (AV.bool ((p.Xn[k].actions.drop (i+1)).any fun s=>decide (s=a))))=X;simp [c_218_l0,cI,h2,h18,h19,h20,hi,z,hw];rw [<- hX];exact ih _ _ (Qc _) ⟨by simp [h2],by simp [h18],by simp [h19],by simp⟩
 ·rintro e n L hL _ ⟨h2,h18,h19,h20⟩;simp [c_218_l0,c_218_k1,h19,h20,hL]
 ·simp
def pmI (n k:Nat):Int:=2^k - 2^(k - n)
theorem qako:∀k:Nat,k<33->∀n:Nat,n<33->n<=k->qg5 .u32 (2^k - 1) (ishr .u32 (2^k - 1) (n:Int))=pmI n k:=by decide+kernel
theorem qadx (n k:Nat) (h:n<=k) (h1:1<=k) (h2:k<=32):qad Φ f_299 [.int .i64 n,.int .i64 k]=some (.val (.int .u32 (pmI n k))):=by
 rw [qaa (fn:=c_299) rfl rfl];have hv:=qjr k;have hm:=qge k;have hw:wBad (k:Int)=false:=wBad_false.2 ⟨by omega,by omega⟩;have hM:qce (k:Int)=2^k - 1:=by simp [qce,hw]
 rw [hw] at hv;rw [hM] at hm;have hp:=qako k (by omega) n (by omega) h;have n1:¬((n:Int)<0):=by omega
 have n2:¬((k:Int)<n):=by omega
 simp [c_299,hv,hm,n1,n2];exact hp
def plG (m:Int) (k:Nat) (n:Nat):Option Int:=if pmI n k=m then some (n:Int) else none
def plE (m w:Int):Option Int:=if wBad w then none else fe (plG m w.toNat) (w.toNat+1) 0
def plV (o:Option Int):Rt:= .val (.tup [.int .i64 (o.getD 0),.bool o.isSome])
theorem qag6 (m w:Int):qad Φ f_265 [.int .u32 m,.int .i64 w]=some (plV (plE m w)):=by
 rw [qaa (fn:=c_265) rfl rfl];have hv:=qjr w;cases q:wBad w with
 | true=>
  rw [q] at hv;simp [c_265,hv,plE,q,plV]
 | false=>
 rw [q] at hv;obtain ⟨w1,w2⟩:=wBad_false.1 q;obtain ⟨k,rfl⟩:∃k:Nat,w=k:=⟨w.toNat,by omega⟩;have hw1:=qal k (by omega);have hE:plE m (k:Int)=fe (plG m k) (k+1) 0:=by simp [plE,q]
 rw [hE];simp [c_265,hv,hw1];refine qa4 (k+1) (fun _=>[]) 0 (fun i e=>look 0 e=some (.int .u32 m)/\look 1 e=some (.int .i64 k)/\look 12 e=some (.int .i64 ((k:Int)+1))/\look 13 e=some (.int .i64 i))
  (fun i=>some (plV (fe (plG m k) (k+1) i))) ?_ ?_ 0 _ 0 (Qc _) (Qb _) ?_
 ·rintro i e n L hi hL _ ⟨h0,h1,h12,h13⟩ ih;have hw:=qal i (by omega);have hp:=qadx i k (by omega) (by omega) (by omega);have hlt:(i:Int)<(k:Int)+1:=by omega
  by_cases z:pmI i k=m
  ·rw [qax (x:=(i:Int)) hi (by simp [plG,z])];subst z;simp [c_265_l0,h0,h1,h12,h13,hp,hlt,plV]
  ·rw [qbm hi (by simp [plG,z])];generalize hX:some (plV (fe (plG m k) (k+1) (i+1)))=X;simp [c_265_l0,h0,h1,h12,h13,hp,hlt,z,hw];rw [<- hX];exact ih _ _ (Qc _) ⟨by simp [h0],by simp [h1],by simp [h12],by simp⟩
 ·rintro e n L hL _ ⟨h0,h1,h12,h13⟩;rw [qcc];simp [c_265_l0,c_265_k1,h12,h13,hL,plV]
 ·simp
theorem Xi.ce (m:Xi):Xi.c m=[.int .u32 m.value,.int .u32 m.mask]:=by simp [Xi.c]
def keyK (m:Xi) (kind w:Int):Int:=
 if fits m.value w=false\/fits m.mask w=false then 9
 else if m.value.toNat&&& m.mask.toNat≠m.value.toNat then 5
 else if kind=1/\m.mask≠qce w then 11
 else if kind=2/\(plE m.mask w).isSome=false then 11 else 0
theorem qaft (m:Xi) (kind w:Int) (h1:ok32 0 m.value) (h2:ok32 0 m.mask):qad Φ f_221 [.agg (Xi.c m),.int .i64 kind,.int .i64 w]=some (.val (.int .i64 (keyK m kind w))):=by
 rw [qaa (fn:=c_221) rfl rfl];have f1:=qka m.value w;have f2:=qka m.mask w;have hm:=qge w;have hp:=qag6 m.mask w;have ha:=ql9 h1 h2;unfold keyK;cases q1:fits m.value w with
 | false=>rw [q1] at f1;simp [c_221,Xi.ce,f1]
 | true=>
 rw [q1] at f1;cases q2:fits m.mask w with
 | false=>rw [q2] at f2;simp [c_221,Xi.ce,f1,f2]
 | true=>
 rw [q2] at f2;by_cases z:qg5 .u32 m.value m.mask=0
 rotate_left
 ·have z':¬(m.value.toNat&&& m.mask.toNat=m.value.toNat):=fun h=>z (ha.2 h)
  simp [c_221,Xi.ce,f1,f2,z,z']
 have z':=ha.1 z;by_cases k1:kind=1
 ·subst k1;by_cases y:m.mask=qce w
  ·rw [y] at f2 z z';simp [c_221,Xi.ce,f1,f2,z,z',hm,y]
  ·simp [c_221,Xi.ce,f1,f2,z,z',hm,y]
 by_cases k2:kind=2
 ·subst k2;cases y:plE m.mask w with
  | none=>rw [y] at hp;simp [plV] at hp;simp [c_221,Xi.ce,f1,f2,z,z',hp]
  | some x=>rw [y] at hp;simp [plV] at hp;simp [c_221,Xi.ce,f1,f2,z,z',hp]
 simp [c_221,Xi.ce,f1,f2,z,z',k1,k2]
structure EntS (x:Entry):Prop where
 kl:x.keys.length<2^40
 ks:∀m∈x.keys,ok32 0 m.value/\ok32 0 m.mask
 al:x.call.args.length<2^40
 ar:∀v∈x.call.args,ok32 0 v
def entF (p:Prg) (t:Int) (x:Entry):Int:=if x.Xt<0 then 9 else if 255<x.Xt then 9 else if x.Xt≠0/\qne p t≠3 then 11 else if tAl p t x.call.action=false then 8 else qfz p x.call
def entG (p:Prg) (tb:Tbl) (x:Entry) (i:Nat):Option Int:=match x.keys[i]?,tb.keys[i]? with
 | some m,some k=>if keyK m k.kind (wid p k.field.header k.field.field)=0 then none else some (keyK m k.kind (wid p k.field.header k.field.field))
 | _,_=>none
def entE (p:Prg) (t:Int) (x:Entry):Int:=if (tblE p t).2≠0 then (tblE p t).2 else match at? p.Xn t with
 | some tb=>if x.keys.length≠tb.keys.length then 2 else (fe (entG p tb x) tb.keys.length 0).getD (entF p t x)
 | none=>0
theorem qafv (p:Prg) (f:PrgS p) (t:Int) (x:Entry) (s:EntS x) (e:Env) (n:Nat) (h1:look 1 e=some (.int .i64 t)) (h3:look 3 e=some (.iptr 9 [Prg.c p] 0 0)) (h5:look 5 e=some (.iptr 4 [Entry.c x] 0 0)):
  go Φ (finP [.tmp 6]) [.c c_159_k1] .normal ⟨e,⟨[],n⟩⟩=some (.val (.int .i64 (entF p t x))):=by
 have hk:=qaer p f t;have ha:=qp0 p f t x.call.action;have hc:=qn2 p f x.call s.al;simp only [Prg.e,Xb.ce] at hk ha hc;rw [Prg.e] at h3;rw [Entry.ce] at h5;unfold entF;by_cases p0:x.Xt<0
 ·simp [c_159_k1,h5,p0]
 by_cases p1:255<x.Xt
 ·simp [c_159_k1,h5,p0,p1]
 by_cases p2:x.Xt=0
 ·cases q:tAl p t x.call.action with
  | false=>rw [q] at ha;simp [c_159_k1,h1,h3,h5,p2,ha]
  | true=>rw [q] at ha;simp [c_159_k1,h1,h3,h5,p2,ha,hc]
 by_cases p3:qne p t=3
 ·cases q:tAl p t x.call.action with
  | false=>rw [q] at ha;simp [c_159_k1,h1,h3,h5,p0,p1,p2,p3,hk,ha]
  | true=>rw [q] at ha;simp [c_159_k1,h1,h3,h5,p0,p1,p2,p3,hk,ha,hc]
 ·simp [c_159_k1,h1,h3,h5,p0,p1,p2,p3,hk]
theorem qwp (p:Prg) (f:PrgS p) (t:Int) (x:Entry) (s:EntS x):qad Φ f_159 [.agg (Prg.c p),.int .i64 t,.agg (Entry.c x)]=some (.val (.int .i64 (entE p t x))):=by
 rw [qaa (fn:=c_159) rfl rfl];have h:=qq5 p f t;simp only [Prg.e] at h;by_cases z:(tblE p t).2=0
 rotate_left
 ·simp [c_159,Prg.e,Entry.ce,h,z,entE]
 have q:tOk p t=true:=by simp [tOk,z]
 obtain ⟨k,hk,rfl,o⟩:=qkj q;have hw:=qzl p f k hk q;simp only [Prg.e] at hw;have hb:=o.keys;by_cases y:x.keys.length=p.Xn[k].keys.length
 rotate_left
 ·simp [c_159,Prg.e,Entry.ce,Tbl.e,hk,h,z,hw,y,entE]
 have hE:entE p (k:Int) x=(fe (entG p p.Xn[k] x) p.Xn[k].keys.length 0).getD (entF p k x):=by simp [entE,z,hk,y]
 rw [hE];simp [c_159,Prg.e,Entry.ce,Tbl.e,hk,h,z,hw,y];refine qa4 p.Xn[k].keys.length (fun _=>[]) 0 (fun i e=>look 1 e=some (.int .i64 k)/\look 3 e=some (.iptr 9 [Prg.c p] 0 0)/\look 5 e=some (.iptr 4 [Entry.c x] 0 0)/\look 9 e=some (.slice 3 (p.Xn[k].keys.map Xl.c))/\look 10 e=some (.slice 1 ((kWid p p.Xn[k]).map cI))/\look 39 e=some (.slice 2 (x.keys.map Xi.c))/\look 40 e=some (.int .i64 p.Xn[k].keys.length)/\look 41 e=some (.int .i64 i))
  (fun i=>some (Rt.val (.int .i64 ((fe (entG p p.Xn[k] x) p.Xn[k].keys.length i).getD (entF p k x))))) ?_ ?_ 0 _ 0 (Qc _) (Qb _) ?_
 ·rintro i e n L hi hL _ ⟨h1,h3,h5,h9,h10,h39,h40,h41⟩ ih;have hi2:i<x.keys.length:=by omega
  have hi3:i<(kWid p p.Xn[k]).length:=by simp [kWid];exact hi
  have hkw:(kWid p p.Xn[k])[i]=wid p p.Xn[k].keys[i].field.header p.Xn[k].keys[i].field.field:=by simp [kWid]
  have hw:=qal i (by omega);have hm:=s.ks _ (Qd hi2);have hc:=qaft x.keys[i] p.Xn[k].keys[i].kind (wid p p.Xn[k].keys[i].field.header p.Xn[k].keys[i].field.field) hm.1 hm.2;simp only [Xi.ce] at hc;by_cases v:keyK x.keys[i] p.Xn[k].keys[i].kind (wid p p.Xn[k].keys[i].field.header p.Xn[k].keys[i].field.field)=0
  ·rw [qbm hi (by simp [entG,hi,hi2,v])];rw [v] at hc;generalize hX:some (Rt.val (AV.int .i64 ((fe (entG p p.Xn[k] x) p.Xn[k].keys.length (i+1)).getD (entF p k x))))=X;simp [c_159_l0,Xl.e,Xi.ce,cI,h9,h10,h39,h40,h41,hi,hi2,hi3,hkw,hc,hw];rw [<- hX];exact ih _ _ (Qc _) ⟨by simp [h1],by simp [h3],by simp [h5],by simp [h9],by simp [h10],by simp [h39],by simp [h40],by simp⟩
  ·rw [qax (x:=keyK x.keys[i] p.Xn[k].keys[i].kind (wid p p.Xn[k].keys[i].field.header p.Xn[k].keys[i].field.field)) hi (by simp [entG,hi,hi2,v])];simp [c_159_l0,Xl.e,Xi.ce,cI,h9,h10,h39,h40,h41,hi,hi2,hi3,hkw,hc,v]
 ·rintro e n L hL _ ⟨h1,h3,h5,h9,h10,h39,h40,h41⟩;rw [qcc];simp [c_159_l0,h40,h41,hL];exact qafv p f k x s _ _ (by simp [h1]) (by simp [h3]) (by simp [h5])
 ·simp [Prg.e,Entry.ce]
def qbp (p:Prg) (t:Int) (c:Xb):Int:=if tAl p t c.action=false then 8 else qfz p c
theorem qog (p:Prg) (f:PrgS p) (t:Int) (c:Xb) (hc:c.args.length<2^40):qad Φ f_156 [.agg (Prg.c p),.int .i64 t,.agg (Xb.c c)]=some (.val (.int .i64 (qbp p t c))):=by
 rw [qaa (fn:=c_156) rfl rfl];have ha:=qp0 p f t c.action;have hk:=qn2 p f c hc;simp only [Prg.e,Xb.ce] at ha hk;cases q:tAl p t c.action with
 | false=>rw [q] at ha;simp [c_156,Prg.e,Xb.ce,ha,qbp,q]
 | true=>rw [q] at ha;simp [c_156,Prg.e,Xb.ce,ha,hk,qbp,q]
def sk (x y:Entry):Bool:=decide (x.keys=y.keys/\x.Xt=y.Xt)
theorem qaan (x y:Entry) (hb:x.keys.length<2^40):qad Φ f_162 [.agg [.slice 2 (x.keys.map Xi.c),.int .i64 x.Xt,.int .i64 x.call.action,.slice 1 (x.call.args.map c32)],.agg [.slice 2 (y.keys.map Xi.c),.int .i64 y.Xt,.int .i64 y.call.action,.slice 1 (y.call.args.map c32)]]=some (.val (.bool (sk x y))):=qnm _ _ _ _ _ _ hb
theorem qajf (x r:Rw) (hb:x.entry.keys.length<2^40):qad Φ f_215 [.agg (Rw.c x),.iptr 5 [Rw.c r] 0 0]=some (.val (.bool (sk x.entry r.entry))):=by
 rw [qaa (fn:=c_215) rfl rfl];have h:=qaan x.entry r.entry hb;simp [c_215,Rw.ce,h]
theorem qaa2 (l:List Rw) (r:Rw) (hl:l.length<2^40) (hs:∀x∈l,x.entry.keys.length<2^40):qad Φ f_223 [.slice 5 (l.map Rw.c),.func (.func f_215) [] [.iptr 5 [Rw.c r] 0 0]]=some (.val (.int .i64 (ix (fun x=>sk x.entry r.entry) l 0))):=by
 rw [qaa (fn:=c_223) rfl rfl];simp [c_223];refine (qcj l.length (fun i e=>look 0 e=some (.slice 5 (l.map Rw.c))/\look 1 e=some (.func (.func f_215) [] [.iptr 5 [Rw.c r] 0 0])/\look 7 e=some (.int .i64 l.length)/\look 8 e=some (.int .i64 i))
  (fun i=>some (.val (.int .i64 (ix (fun x=>sk x.entry r.entry) l i)))) ?_ ?_ 0 _ (Qc _) ?_).trans (by simp)
 ·rintro i e L hi hL ⟨h0,h1,h7,h8⟩ ih;have hw:=qal i (by omega);have hd:=qajf l[i] r (hs _ (Qd hi));simp only [Rw.ce] at hd h1;cases z:sk l[i].entry r.entry with
  | true=>
   rw [qke hi (by simpa using z)];rw [z] at hd;simp [c_223_l0,Rw.ce,h0,h1,h7,h8,hi,hd]
  | false=>
   rw [qik hi (by simpa using z)];rw [z] at hd;simp [c_223_l0,Rw.ce,h0,h1,h7,h8,hi,hd,hw];exact ih _ ⟨by simp [h0],by simp [h1,Rw.ce],by simp [h7],by simp⟩
 ·rintro e L hL ⟨h0,h1,h7,h8⟩;rw [qkd];simp [c_223_l0,c_223_k1,h7,h8,hL]
 ·simp
theorem qaad (l:List Rw) (r:Rw) (hl:l.length<2^40) (hs:∀x∈l,x.entry.keys.length<2^40):qad Φ f_160 [.slice 5 (l.map Rw.c),.func (.func f_215) [] [.iptr 5 [Rw.c r] 0 0]]=some (.val (.bool (l.any fun x=>sk x.entry r.entry))):=by
 rw [qaa (fn:=c_160) rfl rfl];have h:=qaa2 l r hl hs;rw [<- qma];simp [c_160,h]
def ordL:List Rw->Int->Option Int
 | [],a=>some a
 | r::l,a=>if r.id<=a then none else ordL l r.id
def rowG (p:Prg) (t:Int) (l:List Rw) (i:Nat):Option Int:=(l[i]?).bind fun r=>if entE p t r.entry≠0 then some (entE p t r.entry) else if (l.take i).any (fun y=>sk y.entry r.entry)=true then some 7 else none
def tabK (p:Prg) (t:Int) (l:List Rw) (next:Int) (z:Int):Option Int->Int
 | none=>14
 | some a=>if next<=a then 14 else if 1073741824<next then 14 else (fe (rowG p t l) l.length 0).getD z
def rowS (r:Rw):Prop:=EntS r.entry
theorem ct_b (p:Prg) (f:PrgS p) (t:Int) (l:List Rw) (next:Int) (d:Xb) (hl:l.length<2^40) (hs:∀r∈l,rowS r) (hd:d.args.length<2^40) (a:Int) (ha:0<=a) (e:Env) (n:Nat)
  (h1:look 1 e=some (.int .i64 t)) (h2:look 2 e=some (.slice 5 (l.map Rw.c))) (h3:look 3 e=some (.int .i64 next)) (h5:look 5 e=some (.iptr 9 [Prg.c p] 0 0)) (h9:look 9 e=some (.iptr 2 [Xb.c d] 0 0)) (h11:look 11 e=some (.int .i64 a)):
  go Φ (finP [.tmp 10]) [.c c_152_k3] .normal ⟨e,⟨[],n⟩⟩=some (.val (.int .i64 (tabK p t l next (qbp p t d) (some a)))):=by
 unfold tabK;dsimp only;by_cases z0:next<=a
 ·simp [c_152_k3,h3,h11,z0]
 have z1:¬next<1:=by omega
 by_cases z2:1073741824<next
 ·simp [c_152_k3,h3,h11,z0,z1,z2]
 rw [QA z0,QA z2];simp [c_152_k3,h2,h3,h11,z0,z1,z2];refine qa4 l.length (fun _=>[]) 0 (fun i e=>look 1 e=some (.int .i64 t)/\look 2 e=some (.slice 5 (l.map Rw.c))/\look 5 e=some (.iptr 9 [Prg.c p] 0 0)/\look 9 e=some (.iptr 2 [Xb.c d] 0 0)/\look 50 e=some (.slice 5 (l.map Rw.c))/\look 51 e=some (.int .i64 l.length)/\look 52 e=some (.int .i64 i))
  (fun i=>some (Rt.val (.int .i64 ((fe (rowG p t l) l.length i).getD (qbp p t d))))) ?_ ?_ 0 _ n (Qc _) (Qc _) ?_
 ·rintro i e n L hi hL _ ⟨h1,h2,h5,h9,h50,h51,h52⟩ ih;have hw:=qal i (by omega);have hm:=hs _ (Qd hi);have hc:=qwp p f t l[i].entry hm;have hi':i<=l.length:=by omega
  have hx:qad Φ f_160 [.slice 5 ((l.map Rw.c).take i),.func (.func f_215) [] [.iptr 5 [Rw.c l[i]] 0 0]]=some (.val (.bool ((l.take i).any fun x=>sk x.entry l[i].entry))):=by
   rw [<- QBa];exact qaad (l.take i) l[i] (by simp;omega) fun x hx=>(hs x (Qu hx)).kl
  simp only [Prg.e,Entry.ce] at hc;rw [Rw.ce] at hx;rw [Prg.e] at h5;by_cases v:entE p t l[i].entry=0
  ·rw [v] at hc;cases w:(l.take i).any fun x=>sk x.entry l[i].entry with
   | true=>
    rw [w] at hx;rw [qax (x:=(7:Int)) hi (by simp only [rowG,Qa hi,QAs];rw [QA (by simp [v]),QAa w])];simp [c_152_l1,Rw.ce,h1,h2,h5,h50,h51,h52,hi,hi',hc,hx]
   | false=>
    rw [w] at hx;rw [qbm hi (by simp only [rowG,Qa hi,QAs];rw [QA (by simp [v]),QA (by rw [w];decide)])];generalize hX:some (Rt.val (AV.int .i64 ((fe (rowG p t l) l.length (i+1)).getD (qbp p t d))))=X;simp [c_152_l1,Rw.ce,h1,h2,h5,h50,h51,h52,hi,hi',hc,hx,hw];rw [<- hX];exact ih _ _ (Qc _) ⟨by simp [h1],by simp [h2],by simp [h5,Prg.e],by simp [h9],by simp [h50],by simp [h51],by simp⟩
  ·rw [qax (x:=entE p t l[i].entry) hi (by simp only [rowG,Qa hi,QAs];rw [QAa v])];simp [c_152_l1,Rw.ce,h1,h5,h50,h51,h52,hi,hc,v]
 ·rintro e n L hL _ ⟨h1,h2,h5,h9,h50,h51,h52⟩;have hk:=qog p f t d hd;simp only [Prg.e,Xb.ce] at hk;rw [Prg.e] at h5;rw [Xb.ce] at h9;rw [qcc];simp [c_152_l1,c_152_k2,h1,h5,h9,h51,h52,hL,hk]
 ·simp [h1,h2,h5,h9]
theorem qafm (p:Prg) (f:PrgS p) (k:Nat) (hk:k<p.Xn.length) (l:List Rw) (next:Int) (d:Xb) (hl:l.length<2^40) (hs:∀r∈l,rowS r) (hd:d.args.length<2^40):
  qad Φ f_152 [.agg (Prg.c p),.int .i64 k,.slice 5 (l.map Rw.c),.int .i64 next,.agg (Xb.c d)]=some (.val (.int .i64 (if p.Xn[k].size<l.length then 12 else tabK p k l next (qbp p k d) (ordL l 0)))):=by
 rw [qaa (fn:=c_152) rfl rfl];by_cases z:p.Xn[k].size<(l.length:Int)
 ·simp [c_152,Prg.e,Xb.ce,Tbl.e,hk,z]
 rw [QA z];simp [c_152,Prg.e,Xb.ce,Tbl.e,hk,z];refine qa4 l.length (fun _=>[]) 0 (fun i e=>look 1 e=some (.int .i64 k)/\look 2 e=some (.slice 5 (l.map Rw.c))/\look 3 e=some (.int .i64 next)/\look 5 e=some (.iptr 9 [Prg.c p] 0 0)/\look 9 e=some (.iptr 2 [Xb.c d] 0 0)/\look 26 e=some (.slice 5 (l.map Rw.c))/\look 27 e=some (.int .i64 l.length)/\look 28 e=some (.int .i64 i)/\∃a:Int,look 11 e=some (.int .i64 a)/\0<=a/\ordL (l.drop i) a=ordL l 0)
  (fun _=>some (Rt.val (.int .i64 (tabK p k l next (qbp p k d) (ordL l 0))))) ?_ ?_ 0 _ 0 (Qc _) (Qc _) ?_
 ·rintro i e n L hi hL _ ⟨h1,h2,h3,h5,h9,h26,h27,h28,a,h11,ha,ho⟩ ih;have hw:=qal i (by omega);rw [Qi hi] at ho;simp only [ordL] at ho;by_cases y:l[i].id<=a
  ·rw [QAa y] at ho;rw [<- ho];simp [c_152_l0,Rw.ce,h26,h27,h28,h11,hi,y,tabK]
  ·rw [QA y] at ho;generalize hX:some (Rt.val (AV.int .i64 (tabK p k l next (qbp p k d) (ordL l 0))))=X;simp [c_152_l0,Rw.ce,h26,h27,h28,h11,hi,y,hw];rw [<- hX];exact ih _ _ (Qc _) ⟨by simp [h1],by simp [h2],by simp [h3],by simp [h5],by simp [h9],by simp [h26],by simp [h27],by simp,l[i].id,by simp,by omega,ho⟩
 ·rintro e n L hL _ ⟨h1,h2,h3,h5,h9,h26,h27,h28,a,h11,ha,ho⟩;rw [QCs] at ho;simp only [ordL] at ho;rw [<- ho];generalize hX:some (Rt.val (AV.int .i64 (tabK p k l next (qbp p k d) (some a))))=X;simp [c_152_l0,h27,h28,hL];rw [<- hX];exact ct_b p f k l next d hl hs hd a ha _ _ (by simp [h1]) (by simp [h2]) (by simp [h3]) (by simp [h5]) (by simp [h9]) (by simp [h11])
 ·simp [Prg.e,Xb.ce]
def mxF:List Int->Int->Int
 | [],a=>a
 | x::r,a=>mxF r (max a x)
theorem qabf (M:Int):∀(l:List Int) (a:Int),M<mxF l a↔M<a\/∃x∈l,M<x
 | [],a=>by simp [mxF]
 | x::r,a=>by
  have ih:=qabf M r (max a x);simp only [mxF,ih,QAe,exists_eq_or_imp];constructor
  ·rintro (h | h)
   ·by_cases q:M<a
    ·exact .inl q
    ·exact .inr (.inl (by omega))
   ·exact .inr (.inr h)
  ·rintro (h | h | h)
   ·exact .inl (by omega)
   ·exact .inl (by omega)
   ·exact .inr h
theorem qaka (l:List Int) (h0:0<l.length) (hl:l.length<2^40):qad Φ f_216 [.slice 1 (l.map c32)]=some (.val (.int .u32 (mxF l.tail l[0]))):=by
 rw [qaa (fn:=c_216) rfl rfl];have h1:¬(l.length:Int)<1:=by omega
 simp [c_216,h0,h1,c32];refine qa4 l.length (fun _=>[]) 0 (fun i e=>look 0 e=some (.slice 1 (l.map c32))/\look 4 e=some (.int .i64 i)/\∃a:Int,look 3 e=some (.int .u32 a)/\mxF (l.drop i) a=mxF l.tail l[0])
  (fun _=>some (Rt.val (.int .u32 (mxF l.tail l[0])))) ?_ ?_ 1 _ 0 (by omega) (Qc _) ?_
 ·rintro i e n L hi hL _ ⟨h0,h4,a,h3,hm⟩ ih;have hw:=qal i (by omega);rw [Qi hi] at hm;simp only [mxF] at hm;generalize hX:some (Rt.val (AV.int .u32 (mxF l.tail l[0])))=X;simp [c_216_l0,c32,h0,h4,h3,hi,hw];rw [<- hX];exact ih _ _ (Qc _) ⟨by simp [h0],by simp,max a l[i],by simp;split<;>omega,hm⟩
 ·rintro e n L hL _ ⟨h0,h4,a,h3,hm⟩;rw [QCs] at hm;simp only [mxF] at hm;rw [<- hm];simp [c_216_l0,c_216_k1,h0,h4,h3,hL]
 ·simp
def szG (p:Prg) (rs:List (List Int)) (i:Nat):Option Int:=match rs[i]?,p.Xm[i]? with
 | some l,some r=>if (l.length:Int)=r.size then none else some 2
 | _,_=>none
def vlG (p:Prg) (rs:List (List Int)) (i:Nat):Option Int:=match rs[i]?,p.Xm[i]? with
 | some l,some r=>if l.any (fun v=>decide (qce r.width<v))=true then some 9 else none
 | _,_=>none
def conE (p:Prg) (rs:List (List Int)):Int:=if rs.length≠p.Xm.length then 2 else (fe (szG p rs) rs.length 0).getD ((fe (vlG p rs) rs.length 0).getD 0)
theorem con_b (p:Prg) (f:PrgS p) (rs:List (List Int)) (hl:rs.length<2^40) (hs:∀l∈rs,l.length<2^40) (hz:rs.length=p.Xm.length) (e:Env) (n:Nat)
  (h1:look 1 e=some (.slice 1 (rs.map (cS 1 c32)))) (h2:look 2 e=some (.iptr 9 [Prg.c p] 0 0)):
  go Φ (finP [.tmp 4]) [.c c_153_k3] .normal ⟨e,⟨[],n⟩⟩=some (.val (.int .i64 ((fe (vlG p rs) rs.length 0).getD 0))):=by
 simp [c_153_k3,h1];refine qa4 rs.length (fun _=>[]) 0 (fun i e=>look 2 e=some (.iptr 9 [Prg.c p] 0 0)/\look 32 e=some (.slice 1 (rs.map (cS 1 c32)))/\look 33 e=some (.int .i64 rs.length)/\look 34 e=some (.int .i64 i))
  (fun i=>some (Rt.val (.int .i64 ((fe (vlG p rs) rs.length i).getD 0)))) ?_ ?_ 0 _ n (Qc _) (Qc _) ?_
 ·rintro i e n L hi hL _ ⟨h2,h32,h33,h34⟩ ih;have hw:=qal i (by omega);have hi2:i<p.Xm.length:=by omega
  have hm:=qge p.Xm[i].width;rw [Prg.e] at h2;by_cases e0:rs[i].length=0
  ·have e1:rs[i]=[]:=Qg e0;rw [qbm hi (by simp [vlG,hi,hi2,e1])];generalize hX:some (Rt.val (AV.int .i64 ((fe (vlG p rs) rs.length (i+1)).getD 0)))=X;simp [c_153_l1,cSe,h32,h33,h34,hi,hw,e1];rw [<- hX];exact ih _ _ (Qc _) ⟨by simp [h2,Prg.e],by simp [h32],by simp [h33],by simp⟩
  have e1:0<rs[i].length:=by omega
  have hx:=qaka rs[i] e1 (hs _ (Qd hi));have hy:rs[i].any (fun v=>decide (qce p.Xm[i].width<v))=decide (qce p.Xm[i].width<mxF rs[i].tail rs[i][0]):=by
   rw [Bool.eq_iff_iff,decide_eq_true_eq,qabf,QCh];have hd:rs[i]=rs[i][0]::rs[i].tail:=by
    have:=Qi e1;simpa using this
   constructor
   ·rintro ⟨x,hx,hv⟩;rw [hd] at hx;rcases QAe.1 hx with rfl | hx
    ·exact .inl (of_decide_eq_true hv)
    ·exact .inr ⟨x,hx,of_decide_eq_true hv⟩
   ·rintro (h | ⟨x,hx,hv⟩)
    ·exact ⟨_,Qd e1,decide_eq_true h⟩
    ·exact ⟨x,List.mem_of_mem_tail hx,decide_eq_true hv⟩
  by_cases v:qce p.Xm[i].width<mxF rs[i].tail rs[i][0]
  ·rw [qax (x:=(9:Int)) hi (by simp only [vlG,Qa hi,Qa hi2];rw [hy,QAa (decide_eq_true v)])];simp [c_153_l1,cSe,Xh.e,h2,h32,h33,h34,hi,hi2,e1,hx,hm,v]
  ·rw [qbm hi (by simp only [vlG,Qa hi,Qa hi2];rw [hy,QA (by simpa using v)])];generalize hX:some (Rt.val (AV.int .i64 ((fe (vlG p rs) rs.length (i+1)).getD 0)))=X;simp [c_153_l1,cSe,Xh.e,h2,h32,h33,h34,hi,hi2,e1,hx,hm,v,hw];rw [<- hX];exact ih _ _ (Qc _) ⟨by simp [h2,Prg.e],by simp [h32],by simp [h33],by simp⟩
 ·rintro e n L hL _ ⟨h2,h32,h33,h34⟩;rw [qcc];simp [c_153_l1,c_153_k2,h33,h34,hL]
 ·simp [h2]
theorem qafj (p:Prg) (f:PrgS p) (rs:List (List Int)) (hl:rs.length<2^40) (hs:∀l∈rs,l.length<2^40):qad Φ f_153 [.agg (Prg.c p),.slice 1 (rs.map (cS 1 c32))]=some (.val (.int .i64 (conE p rs))):=by
 rw [qaa (fn:=c_153) rfl rfl];unfold conE;by_cases z:rs.length=p.Xm.length
 rotate_left
 ·simp [c_153,Prg.e,z]
 rw [QA (by simpa using z)];generalize hY:some (Rt.val (AV.int .i64 ((fe (szG p rs) rs.length 0).getD ((fe (vlG p rs) rs.length 0).getD 0))))=Y;simp [c_153,Prg.e,z];rw [<- hY];refine qa4 rs.length (fun _=>[]) 0 (fun i e=>look 1 e=some (.slice 1 (rs.map (cS 1 c32)))/\look 2 e=some (.iptr 9 [Prg.c p] 0 0)/\look 15 e=some (.slice 1 (rs.map (cS 1 c32)))/\look 16 e=some (.int .i64 rs.length)/\look 17 e=some (.int .i64 i))
  (fun i=>some (Rt.val (.int .i64 ((fe (szG p rs) rs.length i).getD ((fe (vlG p rs) rs.length 0).getD 0))))) ?_ ?_ 0 _ 0 (Qc _) (Qc _) ?_
 ·rintro i e n L hi hL _ ⟨h1,h2,h15,h16,h17⟩ ih;have hw:=qal i (by omega);have hi2:i<p.Xm.length:=by omega
  rw [Prg.e] at h2;by_cases v:(rs[i].length:Int)=p.Xm[i].size
  ·rw [qbm hi (by simp [szG,hi,hi2,v])];generalize hX:some (Rt.val (AV.int .i64 ((fe (szG p rs) rs.length (i+1)).getD ((fe (vlG p rs) rs.length 0).getD 0))))=X;simp [c_153_l0,cSe,Xh.e,h2,h15,h16,h17,hi,hi2,v,hw];rw [<- hX];exact ih _ _ (Qc _) ⟨by simp [h1],by simp [h2,Prg.e],by simp [h15],by simp [h16],by simp⟩
  ·rw [qax (x:=(2:Int)) hi (by simp [szG,hi,hi2,v])];simp [c_153_l0,cSe,Xh.e,h2,h15,h16,h17,hi,hi2,v]
 ·rintro e n L hL _ ⟨h1,h2,h15,h16,h17⟩;rw [qcc];generalize hX:some (Rt.val (AV.int .i64 ((none:Option Int).getD ((fe (vlG p rs) rs.length 0).getD 0))))=X;simp [c_153_l0,h16,h17,hL];rw [<- hX];exact con_b p f rs hl hs z _ _ (by simp [h1]) (by simp [h2])
 ·simp [Prg.e,z]
structure CfgT (a:Xf):Prop where
 rl:a.rows.length<2^40
 rs:∀l∈a.rows,l.length<2^40/\∀r∈l,rowS r
 nl:a.Xr.length<2^40
 dl:a.Xq.length<2^40
 ds:∀d∈a.Xq,d.args.length<2^40/\∀v∈d.args,ok32 0 v
 gl:a.Xm.length<2^40
 gs:∀l∈a.Xm,l.length<2^40/\∀v∈l,ok32 0 v
def rowE (p:Prg) (k:Nat) (tb:Tbl) (l:List Rw) (nx:Int) (z:Int):Int:=if tb.size<l.length then 12 else tabK p k l nx z (ordL l 0)
def stG (p:Prg) (c:Xf) (k:Nat):Option Int:=match p.Xn[k]?,c.rows[k]?,c.Xr[k]?,c.Xq[k]? with
 | some tb,some l,some nx,some d=>if rowE p k tb l nx (qbp p k d)=0 then none else some (rowE p k tb l nx (qbp p k d))
 | _,_,_,_=>none
def cfgE (p:Prg) (c:Xf):Int:=if (prgD p).1≠0 then (prgD p).1 else if c.rows.length≠p.Xn.length\/c.Xr.length≠p.Xn.length\/c.Xq.length≠p.Xn.length then 2
 else (fe (stG p c) p.Xn.length 0).getD (conE p c.Xm)
theorem qafd (p:Prg) (f:PrgS p) (hc:(pre p.control).length<2^40 - 1) (c:Xf) (s:CfgT c):qad Φ f_87 [.agg (Prg.c p),.agg (Xf.c c)]=some (.val (.int .i64 (cfgE p c))):=by
 rw [qaa (fn:=c_87) rfl rfl];have h:=qi3 p f hc;simp only [Prg.e,dgC] at h;have ht:=f.t;by_cases z:(prgD p).1=0
 rotate_left
 ·simp [c_87,Prg.e,Xf.ce,h,z,cfgE]
 by_cases z1:c.rows.length=p.Xn.length
 rotate_left
 ·simp [c_87,Prg.e,Xf.ce,h,z,z1,cfgE]
 by_cases z2:c.Xr.length=p.Xn.length
 rotate_left
 ·simp [c_87,Prg.e,Xf.ce,h,z,z1,z2,cfgE]
 by_cases z3:c.Xq.length=p.Xn.length
 rotate_left
 ·simp [c_87,Prg.e,Xf.ce,h,z,z1,z2,z3,cfgE]
 rw [show cfgE p c=(fe (stG p c) p.Xn.length 0).getD (conE p c.Xm) by simp [cfgE,z,z1,z2,z3]];simp [c_87,Prg.e,Xf.ce,h,z,z1,z2,z3];refine qa4 p.Xn.length (fun _=>[]) 0 (fun i e=>look 2 e=some (.iptr 9 [Prg.c p] 0 0)/\look 3 e=some (.iptr 4 [Xf.c c] 0 0)/\look 38 e=some (.int .i64 p.Xn.length)/\look 39 e=some (.int .i64 i))
  (fun i=>some (Rt.val (.int .i64 ((fe (stG p c) p.Xn.length i).getD (conE p c.Xm))))) ?_ ?_ 0 _ _ (Qc _) (Qc _) ?_
 ·rintro i e n L hi hL _ ⟨h2,h3,h38,h39⟩ ih;have hw:=qal i (by omega);have i1:i<c.rows.length:=by omega
  have i2:i<c.Xr.length:=by omega
  have i3:i<c.Xq.length:=by omega
  have hr:=s.rs _ (Qd i1);have hd:=s.ds _ (Qd i3);have hk:=qafm p f i hi c.rows[i] c.Xr[i] c.Xq[i] hr.1 hr.2 hd.1;rw [show (if p.Xn[i].size<(c.rows[i].length:Int) then (12:Int) else tabK p i c.rows[i] c.Xr[i] (qbp p i c.Xq[i]) (ordL c.rows[i] 0))=rowE p i p.Xn[i] c.rows[i] c.Xr[i] (qbp p i c.Xq[i]) from rfl] at hk;simp only [Prg.e,Xb.ce] at hk;rw [Prg.e] at h2;rw [Xf.ce] at h3;by_cases v:rowE p i p.Xn[i] c.rows[i] c.Xr[i] (qbp p i c.Xq[i])=0
  ·rw [qbm hi (by simp [stG,hi,i1,i2,i3,v])];rw [v] at hk;generalize hX:some (Rt.val (AV.int .i64 ((fe (stG p c) p.Xn.length (i+1)).getD (conE p c.Xm))))=X;simp [c_87_l0,cSe,cI,Xb.ce,h2,h3,h38,h39,hi,i1,i2,i3,hk,hw];rw [<- hX];exact ih _ _ (Qc _) ⟨by simp [h2,Prg.e],by simp [h3,Xf.ce],by simp [h38],by simp⟩
  ·rw [qax (x:=rowE p i p.Xn[i] c.rows[i] c.Xr[i] (qbp p i c.Xq[i])) hi (by simp [stG,hi,i1,i2,i3,v])];simp [c_87_l0,cSe,cI,Xb.ce,h2,h3,h38,h39,hi,i1,i2,i3,hk,v]
 ·rintro e n L hL _ ⟨h2,h3,h38,h39⟩;have hk:=qafj p f c.Xm s.gl fun l hl=>(s.gs l hl).1
  simp only [Prg.e] at hk;rw [Prg.e] at h2;rw [Xf.ce] at h3;rw [qcc];simp [c_87_l0,c_87_k1,h2,h3,h38,h39,hL,hk]
 ·simp [Prg.e,Xf.ce]
def regN (r:Xh):Nat:=if r.size<1\/64<r.size then 0 else r.size.toNat
theorem qahy (r:Xh):regN r<=64:=by
 unfold regN;split<;>omega
def newR (p:Prg):List (List Int):=p.Xm.map fun r=>List.replicate (regN r) 0
def qbl (p:Prg):Xf:=⟨p.Xn.map fun _=>[],p.Xn.map fun _=>1,p.Xn.map fun t=>t.dflt,newR p⟩
theorem qacx (p:Prg):Xf.c (qbl p)=[.slice 1 (p.Xn.map fun _=>[.slice 5 []]),.slice 1 (p.Xn.map fun _=>[.int .i64 1]),.slice 2 (p.Xn.map fun t=>[.int .i64 t.dflt.action,.slice 1 (t.dflt.args.map c32)]),.slice 1 ((newR p).map (cS 1 c32))]:=by
 simp [qbl,Xf.ce,cSe,cI,Xb.ce]
theorem qes {Ψ:FuncId->Option AFun} {f z bytes:Nat} (hf:Ψ f=some (.rule (qen z bytes .app))) (es:List (List AV)) (hz:qc7 z es=true) (hb:es.length*bytes<=70368744177664):qad Ψ f [.slice z es]=some (.val (.slice z es)):=by
 unfold qad;rw [qkp Ψ hf];cases es with
 | nil=>simp [qen,lenOf,qc0,evR,qe1,H0,AH.put]
 | cons x es=>
  simp only [QAn] at hb;simp [qen,lenOf,evR,qe1,H0,AH.put,hz,hb]
theorem qte (l:List Int) (h:l.length<2^40):qad Φ f_150 [.slice 1 (l.map c32)]=some (.val (.slice 1 (l.map c32))):=
 qes (bytes:=4) rfl _ (qc8 1 c32 l fun x=>by simp [c32]) (by rw [QAb];omega)
theorem qaja (l:List Xi) (h:l.length<2^40):qad Φ f_224 [.slice 2 (l.map Xi.c)]=some (.val (.slice 2 (l.map Xi.c))):=
 qes (bytes:=8) rfl _ (qc8 2 Xi.c l fun x=>by simp [Xi.c]) (by rw [QAb];omega)
theorem qix (c:Xb) (h:c.args.length<2^40):qad Φ f_85 [.agg (Xb.c c)]=some (.val (.agg (Xb.c c))):=by
 rw [qaa (fn:=c_85) rfl rfl];have k:=qte c.args h;simp [c_85,Xb.ce,k]
theorem qq9 (x:Entry) (h:x.call.args.length<2^40) (h2:x.keys.length<2^40):qad Φ f_163 [.agg (Entry.c x)]=some (.val (.agg (Entry.c x))):=by
 rw [qaa (fn:=c_163) rfl rfl];have k:=qaja x.keys h2;have k2:=qix x.call h;simp only [Xb.ce] at k2;simp [c_163,Entry.ce,k,k2]
theorem qafl (x:Rw) (h:rowS x):qad Φ f_157 [.agg (Rw.c x)]=some (.val (.agg (Rw.c x))):=by
 rw [qaa (fn:=c_157) rfl rfl];have k:=qq9 x.entry h.al h.kl;simp only [Entry.ce] at k;simp [c_157,Rw.ce,k]
theorem qsg (l:List Xj) (hl:l.length<2^39) (hf:∀x∈l,qad Φ f_105 [.agg (Xj.c x)]=some (.val (.agg (Xj.c x)))):qad Φ f_104 [.slice 2 (l.map Xj.c),.func (.func f_105) [] []]=some (.val (.slice 2 (l.map Xj.c))):=by
 rw [qaa (fn:=c_104) rfl rfl];simp [c_104];refine (qa4 l.length (fun i=>[(0,.tok 2 i)]) 1 (fun i e=>look 1 e=some (.func (.func f_105) [] [])/\look 5 e=some (.app 2 ((l.map Xj.c).take i) 0)/\look 8 e=some (.slice 2 (l.map Xj.c))/\look 9 e=some (.int .i64 l.length)/\look 10 e=some (.int .i64 i))
  (fun _=>some (Rt.val (.slice 2 (l.map Xj.c)))) ?_ ?_ 0 _ 1 (Qc _) (Qb _) ?_).trans (by simp)
 ·rintro i e n L hi hL hn ⟨h1,h5,h8,h9,h10⟩ ih;have hw:=qal i (by omega);have hn0:¬(0=n):=by omega
  have hn1:¬(n=0):=by omega
  have hm:min i l.length=i:=by omega
  have hb:∀k,k<=128->(i+1)*k<=70368744177664:=fun k hk=>by
   have:(i+1)*k<=(i+1)*128:=QBo _ hk;omega
  have hN:=hf _ (Qd hi);simp only [Xj.e] at hN;simp [c_104_l0,Xj.e,h1,h5,h8,h9,h10,hi,hw,hn0,hm,hb,hN];exact ih _ _ (by omega) ⟨by simp [h1],by simp [qa5 hi,Xj.e],by simp [h8],by simp [h9],by simp⟩
 ·rintro e n L hL hn ⟨h1,h5,h8,h9,h10⟩;simp [c_104_l0,c_104_k1,h5,h9,h10,hL]
 ·simp
theorem qn4 (l:List Xg) (hl:l.length<2^39) (hf:∀x∈l,qad Φ f_189 [.agg (Xg.c x)]=some (.val (.agg (Xg.c x)))):qad Φ f_188 [.slice 7 (l.map Xg.c),.func (.func f_189) [] []]=some (.val (.slice 7 (l.map Xg.c))):=by
 rw [qaa (fn:=c_188) rfl rfl];simp [c_188];refine (qa4 l.length (fun i=>[(0,.tok 7 i)]) 1 (fun i e=>look 1 e=some (.func (.func f_189) [] [])/\look 5 e=some (.app 7 ((l.map Xg.c).take i) 0)/\look 8 e=some (.slice 7 (l.map Xg.c))/\look 9 e=some (.int .i64 l.length)/\look 10 e=some (.int .i64 i))
  (fun _=>some (Rt.val (.slice 7 (l.map Xg.c)))) ?_ ?_ 0 _ 1 (Qc _) (Qb _) ?_).trans (by simp)
 ·rintro i e n L hi hL hn ⟨h1,h5,h8,h9,h10⟩ ih;have hw:=qal i (by omega);have hn0:¬(0=n):=by omega
  have hn1:¬(n=0):=by omega
  have hm:min i l.length=i:=by omega
  have hb:∀k,k<=128->(i+1)*k<=70368744177664:=fun k hk=>by
   have:(i+1)*k<=(i+1)*128:=QBo _ hk;omega
  have hN:=hf _ (Qd hi);simp only [Xg.e] at hN;simp [c_188_l0,Xg.e,h1,h5,h8,h9,h10,hi,hw,hn0,hm,hb,hN];exact ih _ _ (by omega) ⟨by simp [h1],by simp [qa5 hi,Xg.e],by simp [h8],by simp [h9],by simp⟩
 ·rintro e n L hL hn ⟨h1,h5,h8,h9,h10⟩;simp [c_188_l0,c_188_k1,h5,h9,h10,hL]
 ·simp
theorem qsf (l:List Action) (hl:l.length<2^39) (hf:∀x∈l,qad Φ f_109 [.agg (Action.c x)]=some (.val (.agg (Action.c x)))):qad Φ f_108 [.slice 3 (l.map Action.c),.func (.func f_109) [] []]=some (.val (.slice 3 (l.map Action.c))):=by
 rw [qaa (fn:=c_108) rfl rfl];simp [c_108];refine (qa4 l.length (fun i=>[(0,.tok 3 i)]) 1 (fun i e=>look 1 e=some (.func (.func f_109) [] [])/\look 5 e=some (.app 3 ((l.map Action.c).take i) 0)/\look 8 e=some (.slice 3 (l.map Action.c))/\look 9 e=some (.int .i64 l.length)/\look 10 e=some (.int .i64 i))
  (fun _=>some (Rt.val (.slice 3 (l.map Action.c)))) ?_ ?_ 0 _ 1 (Qc _) (Qb _) ?_).trans (by simp)
 ·rintro i e n L hi hL hn ⟨h1,h5,h8,h9,h10⟩ ih;have hw:=qal i (by omega);have hn0:¬(0=n):=by omega
  have hn1:¬(n=0):=by omega
  have hm:min i l.length=i:=by omega
  have hb:∀k,k<=128->(i+1)*k<=70368744177664:=fun k hk=>by
   have:(i+1)*k<=(i+1)*128:=QBo _ hk;omega
  have hN:=hf _ (Qd hi);simp only [Action.e] at hN;simp [c_108_l0,Action.e,h1,h5,h8,h9,h10,hi,hw,hn0,hm,hb,hN];exact ih _ _ (by omega) ⟨by simp [h1],by simp [qa5 hi,Action.e],by simp [h8],by simp [h9],by simp⟩
 ·rintro e n L hL hn ⟨h1,h5,h8,h9,h10⟩;simp [c_108_l0,c_108_k1,h5,h9,h10,hL]
 ·simp
theorem qts (l:List Tbl) (hl:l.length<2^39) (hf:∀x∈l,qad Φ f_111 [.agg (Tbl.c x)]=some (.val (.agg (Tbl.c x)))):qad Φ f_110 [.slice 6 (l.map Tbl.c),.func (.func f_111) [] []]=some (.val (.slice 6 (l.map Tbl.c))):=by
 rw [qaa (fn:=c_110) rfl rfl];simp [c_110];refine (qa4 l.length (fun i=>[(0,.tok 6 i)]) 1 (fun i e=>look 1 e=some (.func (.func f_111) [] [])/\look 5 e=some (.app 6 ((l.map Tbl.c).take i) 0)/\look 8 e=some (.slice 6 (l.map Tbl.c))/\look 9 e=some (.int .i64 l.length)/\look 10 e=some (.int .i64 i))
  (fun _=>some (Rt.val (.slice 6 (l.map Tbl.c)))) ?_ ?_ 0 _ 1 (Qc _) (Qb _) ?_).trans (by simp)
 ·rintro i e n L hi hL hn ⟨h1,h5,h8,h9,h10⟩ ih;have hw:=qal i (by omega);have hn0:¬(0=n):=by omega
  have hn1:¬(n=0):=by omega
  have hm:min i l.length=i:=by omega
  have hb:∀k,k<=128->(i+1)*k<=70368744177664:=fun k hk=>by
   have:(i+1)*k<=(i+1)*128:=QBo _ hk;omega
  have hN:=hf _ (Qd hi);simp only [Tbl.e] at hN;simp [c_110_l0,Tbl.e,h1,h5,h8,h9,h10,hi,hw,hn0,hm,hb,hN];exact ih _ _ (by omega) ⟨by simp [h1],by simp [qa5 hi,Tbl.e],by simp [h8],by simp [h9],by simp⟩
 ·rintro e n L hL hn ⟨h1,h5,h8,h9,h10⟩;simp [c_110_l0,c_110_k1,h5,h9,h10,hL]
 ·simp
theorem ql2 (l:List Xd) (hl:l.length<2^39) (hf:∀x∈l,qad Φ f_113 [.agg (Xd.c x)]=some (.val (.agg (Xd.c x)))):qad Φ f_112 [.slice 7 (l.map Xd.c),.func (.func f_113) [] []]=some (.val (.slice 7 (l.map Xd.c))):=by
 rw [qaa (fn:=c_112) rfl rfl];simp [c_112];refine (qa4 l.length (fun i=>[(0,.tok 7 i)]) 1 (fun i e=>look 1 e=some (.func (.func f_113) [] [])/\look 5 e=some (.app 7 ((l.map Xd.c).take i) 0)/\look 8 e=some (.slice 7 (l.map Xd.c))/\look 9 e=some (.int .i64 l.length)/\look 10 e=some (.int .i64 i))
  (fun _=>some (Rt.val (.slice 7 (l.map Xd.c)))) ?_ ?_ 0 _ 1 (Qc _) (Qb _) ?_).trans (by simp)
 ·rintro i e n L hi hL hn ⟨h1,h5,h8,h9,h10⟩ ih;have hw:=qal i (by omega);have hn0:¬(0=n):=by omega
  have hn1:¬(n=0):=by omega
  have hm:min i l.length=i:=by omega
  have hb:∀k,k<=128->(i+1)*k<=70368744177664:=fun k hk=>by
   have:(i+1)*k<=(i+1)*128:=QBo _ hk;omega
  have hN:=hf _ (Qd hi);simp only [Xd.e] at hN;simp [c_112_l0,Xd.e,h1,h5,h8,h9,h10,hi,hw,hn0,hm,hb,hN];exact ih _ _ (by omega) ⟨by simp [h1],by simp [qa5 hi,Xd.e],by simp [h8],by simp [h9],by simp⟩
 ·rintro e n L hL hn ⟨h1,h5,h8,h9,h10⟩;simp [c_112_l0,c_112_k1,h5,h9,h10,hL]
 ·simp
theorem qfc (l:List Xa) (hl:l.length<2^39) (hf:∀x∈l,qad Φ f_115 [.agg (Xa.c x)]=some (.val (.agg (Xa.c x)))):qad Φ f_114 [.slice 5 (l.map Xa.c),.func (.func f_115) [] []]=some (.val (.slice 5 (l.map Xa.c))):=by
 rw [qaa (fn:=c_114) rfl rfl];simp [c_114];refine (qa4 l.length (fun i=>[(0,.tok 5 i)]) 1 (fun i e=>look 1 e=some (.func (.func f_115) [] [])/\look 5 e=some (.app 5 ((l.map Xa.c).take i) 0)/\look 8 e=some (.slice 5 (l.map Xa.c))/\look 9 e=some (.int .i64 l.length)/\look 10 e=some (.int .i64 i))
  (fun _=>some (Rt.val (.slice 5 (l.map Xa.c)))) ?_ ?_ 0 _ 1 (Qc _) (Qb _) ?_).trans (by simp)
 ·rintro i e n L hi hL hn ⟨h1,h5,h8,h9,h10⟩ ih;have hw:=qal i (by omega);have hn0:¬(0=n):=by omega
  have hn1:¬(n=0):=by omega
  have hm:min i l.length=i:=by omega
  have hb:∀k,k<=128->(i+1)*k<=70368744177664:=fun k hk=>by
   have:(i+1)*k<=(i+1)*128:=QBo _ hk;omega
  have hN:=hf _ (Qd hi);obtain ⟨kk,tt,cc,aa,bb,hx⟩:=qil l[i];rw [hx,Xa.ce] at hN;simp [c_114_l0,hx,Xa.ce,h1,h5,h8,h9,h10,hi,hw,hn0,hm,hb,hN];exact ih _ _ (by omega) ⟨by simp [h1],by simp [qa5 hi,hx,Xa.ce],by simp [h8],by simp [h9],by simp⟩
 ·rintro e n L hL hn ⟨h1,h5,h8,h9,h10⟩;simp [c_114_l0,c_114_k1,h5,h9,h10,hL]
 ·simp
theorem qw0 (H:AH):∀l:List Int,mapO (mapO (snap 39 H)) (l.map cI)=some (l.map cI)
 | []=>by simp [mapO]
 | x::l=>by
  have ih:=qw0 H l;simp only [QBj,mapO,ih];simp [cI,mapO]
theorem qtd (l:List Int) (h:l.length<2^40):qad Φ f_116 [.slice 1 (l.map cI)]=some (.val (.slice 1 (l.map cI))):=by
 unfold qad;rw [qkp Φ (g:=qen 1 8 .row) rfl];cases l with
 | nil=>simp [qen,lenOf,qc0,evR,qe1,H0,AH.put]
 | cons x l=>
  have hb:(l.length+1)*8<=70368744177664:=by simp at h;omega
  have hm:=qw0 ⟨[(0,.row 1 ((x::l).map cI))],1⟩ (x::l);simp [cI] at hm;simp [qen,lenOf,evR,qe1,H0,AH.put,hb,cI,hm]
theorem qtc (l:List Fld) (h:l.length<2^40):qad Φ f_106 [.slice 2 (l.map Fld.c)]=some (.val (.slice 2 (l.map Fld.c))):=
 qes (bytes:=24) rfl _ (qc8 2 Fld.c l fun x=>by simp [Fld.e]) (by rw [QAb];omega)
theorem qai9 (l:List Xh) (h:l.length<2^40):qad Φ f_107 [.slice 3 (l.map Xh.c)]=some (.val (.slice 3 (l.map Xh.c))):=
 qes (bytes:=32) rfl _ (qc8 3 Xh.c l fun x=>by simp [Xh.e]) (by rw [QAb];omega)
theorem qajb (l:List Xl) (h:l.length<2^40):qad Φ f_190 [.slice 3 (l.map Xl.c)]=some (.val (.slice 3 (l.map Xl.c))):=
 qes (bytes:=24) rfl _ (qc8 3 Xl.c l fun x=>by simp [Xl.e]) (by rw [QAb];omega)
theorem qai8 (l:List Xk) (h:l.length<2^40):qad Φ f_191 [.slice 3 (l.map Xk.c)]=some (.val (.slice 3 (l.map Xk.c))):=
 qes (bytes:=16) rfl _ (qc8 3 Xk.c l fun x=>by simp [Xk.e]) (by rw [QAb];omega)
theorem qtb (l:List Xe) (h:l.length<2^40):qad Φ f_192 [.slice 3 (l.map Xe.c)]=some (.val (.slice 3 (l.map Xe.c))):=
 qes (bytes:=24) rfl _ (qc8 3 Xe.c l fun x=>by simp [Xe.c]) (by rw [QAb];omega)
theorem qxw (x:Xj) (h:x.fields.length<2^40):qad Φ f_105 [.agg (Xj.c x)]=some (.val (.agg (Xj.c x))):=by
 rw [qaa (fn:=c_105) rfl rfl];have k:=qtc x.fields h;simp [c_105,Xj.e,k]
theorem qsb (x:Xg) (h:x.index.length<2^40) (h2:x.value.length<2^40):qad Φ f_189 [.agg (Xg.c x)]=some (.val (.agg (Xg.c x))):=by
 rw [qaa (fn:=c_189) rfl rfl];have k:=qtb x.index h;have k2:=qtb x.value h2;simp [c_189,Xg.e,k,k2]
theorem qz3 (x:Tbl) (h:x.keys.length<2^40) (h2:x.actions.length<2^40) (h3:x.dflt.args.length<2^40):qad Φ f_111 [.agg (Tbl.c x)]=some (.val (.agg (Tbl.c x))):=by
 rw [qaa (fn:=c_111) rfl rfl];have k:=qajb x.keys h;have k2:=qtd x.actions h2;have k3:=qte x.dflt.args h3;simp [c_111,Tbl.e,k,k2,k3]
theorem qz2 (x:Xd) (h:x.extract.length<2^40) (h2:x.cases.length<2^40):qad Φ f_113 [.agg (Xd.c x)]=some (.val (.agg (Xd.c x))):=by
 rw [qaa (fn:=c_113) rfl rfl];have k:=qtd x.extract h;have k2:=qai8 x.cases h2;simp [c_113,Xd.e,k,k2]
theorem qxu (x:Action) (h:x.params.length<2^40) (h2:x.body.length<2^39) (h3:∀s∈x.body,s.index.length<2^40/\s.value.length<2^40):qad Φ f_109 [.agg (Action.c x)]=some (.val (.agg (Action.c x))):=by
 rw [qaa (fn:=c_109) rfl rfl];have k:=qtc x.params h;have k2:=qn4 x.body h2 fun s hs=>qsb s (h3 s hs).1 (h3 s hs).2
 simp [c_109,Action.e,k,k2]
theorem qn0:∀(n:Nat) (x:Xa),SizeOf.sizeOf x<=n->Xa.Ok qaz x->qad Φ f_115 [.agg (Xa.c x)]=some (.val (.agg (Xa.c x)))
 | 0,x,h,_=>by cases x;simp at h
 | n+1,x,h,ho=>by
  obtain ⟨k,t,c,a,b,rfl⟩:=qil x;simp only [Xa.Ok] at ho;obtain ⟨_,_,hc,⟨ha1,ha2⟩,hb1,hb2⟩:=ho;rw [Xa.oks_eq] at ha2 hb2;have e:=qd6;simp at h;have hc1:=hc.1;have k1:=qtb c (by omega);have k2:=qfc a (by omega) fun y hy=>qn0 n y (by have:=QBs hy;omega) (ha2 y hy)
  have k3:=qfc b (by omega) fun y hy=>qn0 n y (by have:=QBs hy;omega) (hb2 y hy)
  rw [qaa (fn:=c_115) rfl rfl];simp [c_115,Xa.ce,k1,k2,k3]
end Go.Av
