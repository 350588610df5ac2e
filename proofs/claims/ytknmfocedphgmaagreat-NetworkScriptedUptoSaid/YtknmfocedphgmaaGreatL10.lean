/-
 The check of a program: the reference's answers for the parts.
-/
import Derived.Test.YtknmfocedphgmaaGreatNT1
set_option linter.unusedVariables false
set_option linter.unusedSimpArgs false
set_option linter.constructorNameAsVariable false
namespace Go.Av
set_option maxRecDepth 4000
theorem qni {α:Type} {f:Nat->Option α} {N:Nat} {x:α}:∀{i},fe f N i=some x->∃k,k<N/\f k=some x:=by
 have key:∀n i,feF f n i=some x->∃k,k<i+n/\f k=some x:=by
  intro n
  induction n with
  | zero=>intro i h;simp [feF] at h
  | succ n ih=>
   intro i h;simp only [feF] at h;cases q:f i with
   | some y=>rw [q] at h;cases h;exact ⟨i,by omega,q⟩
   | none=>
    rw [q] at h;obtain ⟨k,h1,h2⟩:=ih _ h;exact ⟨k,by omega,h2⟩
 intro i h;unfold fe at h;obtain ⟨k,h1,h2⟩:=key _ _ h;by_cases hi:i<=N
 ·exact ⟨k,by omega,h2⟩
 ·rw [show N - i=0 by omega] at h;simp [feF] at h
theorem qnp {Φ:FuncId->Option AFun} {β:Type} {fin:Option (Ex×St)->Option β} {h:AH} (N:Nat) (Inv:Nat->Env->Prop) (Q:Option β->Prop) {b:Xv} {K:List Fr}
  (step:∀i e L,i<N->(∀j s,go Φ fin L (.exit j) s=go Φ fin K (.exit j) s)->Inv i e->(∀e',Inv (i+1) e'->Q (go Φ fin L .normal ⟨e',h⟩))->Q (go Φ fin (.c b::L) .normal ⟨e,h⟩))
  (last:∀e L,(∀j s,go Φ fin L (.exit j) s=go Φ fin K (.exit j) s)->Inv N e->Q (go Φ fin (.c b::L) .normal ⟨e,h⟩)):
  ∀i e,i<=N->Inv i e->Q (go Φ fin (.c (.loop b)::K) .normal ⟨e,h⟩):=by
 intro i e hi hv;refine qws N (fun i e H=>H=h/\Inv i e) Q ?_ ?_ i e h hi ⟨rfl,hv⟩
 ·rintro i e _ L hi hL ⟨rfl,hv⟩ ih;exact step i e L hi hL hv fun e' hv'=>ih e' _ ⟨rfl,hv'⟩
 ·rintro e _ L hL ⟨rfl,hv⟩;exact last e L hL hv
def qbp {α:Type} [DecidableEq α] (l m:List α) (i:Nat):Bool:=decide (l.drop i=m.drop i)
theorem qcx {α:Type} [DecidableEq α] {l m:List α} {i:Nat} (h1:i<l.length) (h2:i<m.length) (h:l[i]=m[i]):qbp l m i=qbp l m (i+1):=by
 unfold qbp;rw [decide_eq_decide,qlg h1 h2];simp [h]
theorem qb7 {α:Type} [DecidableEq α] {l m:List α} {i:Nat} (h1:i<l.length) (h2:i<m.length) (h:l[i]≠m[i]):qbp l m i=false:=by
 unfold qbp;rw [decide_eq_false_iff_not,qlg h1 h2];simp [h]
theorem qcw {α:Type} [DecidableEq α] {l m:List α} (h:l.length=m.length):qbp l m l.length=true:=by
 simp [qbp,h]
theorem qgq (k1 k2:List Xi) (p1 p2:Int) (r1 r2:List AV) (hb:k1.length<2^40):
   qac Φ f_217 [.agg (.slice 2 (k1.map Xi.c):: .int .i64 p1::r1),.agg (.slice 2 (k2.map Xi.c):: .int .i64 p2::r2)]=some (.val (.bool (decide (k1=k2/\p1=p2)))):=by
  rw [qaa (fn:=c_217) rfl rfl];by_cases q1:k1.length=k2.length
  rotate_left
  · have:k1≠k2:=fun h=>q1 (by rw [h])
    simp [c_217,q1,this]
  by_cases q2:p1=p2
  rotate_left
  · simp [c_217,q1,q2]
  subst q2;simp [c_217,q1];refine (qbh k1.length (fun i e=>look 2 e=some (AV.ptr 0 (r1.length+1+1) 0 0)/\look 3 e=some (AV.ptr 1 (r2.length+1+1) 0 0)/\look 5 e=some (.int .i64 i))
    (fun i=>some (Rt.val (AV.bool (qbp k1 k2 i)))) ?_ ?_ 0 _ (Qc _) ?_).trans (by simp [qbp])
  · rintro i e L hi hL ⟨h2,h3,h5⟩ ih
    have hi2:i<k2.length:=by omega
    have hw:=qal i (by omega);by_cases c:k1[i]=k2[i]
    · rw [qcx hi hi2 c]
      simp [c_217_l0,Xi.c,hi,hi2,h2,h3,h5,hw,c];exact ih _ ⟨by simp [h2],by simp [h3],by simp⟩
    · rw [qb7 hi hi2 c]
      have c':(decide (k1[i].value=k2[i].value)&&decide (k1[i].mask=k2[i].mask))=false:=by
        simp [Xi.ext_iff] at c ⊢;exact c
      simp [c_217_l0,Xi.c,hi,hi2,h2,h3,h5,c']
  · rintro e L hL ⟨h2,h3,h5⟩
    rw [qcw q1];simp [c_217_l0,c_217_k1, *]
  · simp
theorem qjl (a1 a2:Int) (l1 l2:List Int) (hb:l1.length<2^40):
   qac Φ f_104 [.agg [.int .i64 a1,.slice 1 (l1.map c32)],.agg [.int .i64 a2,.slice 1 (l2.map c32)]]=some (.val (.bool (decide (a1=a2/\l1=l2)))):=by
  rw [qaa (fn:=c_104) rfl rfl];by_cases q2:a1=a2
  rotate_left
  · simp [c_104,q2]
  subst q2;by_cases q1:l1.length=l2.length
  rotate_left
  · have:l1≠l2:=fun h=>q1 (by rw [h])
    simp [c_104,q1,this]
  simp [c_104,q1];refine (qbh l1.length (fun i e=>look 2 e=some (AV.ptr 0 2 0 0)/\look 3 e=some (AV.ptr 1 2 0 0)/\look 5 e=some (.int .i64 i))
    (fun i=>some (Rt.val (AV.bool (qbp l1 l2 i)))) ?_ ?_ 0 _ (Qc _) ?_).trans (by simp [qbp])
  · rintro i e L hi hL ⟨h2,h3,h5⟩ ih
    have hi2:i<l2.length:=by omega
    have hw:=qal i (by omega);by_cases c:l1[i]=l2[i]
    · rw [qcx hi hi2 c]
      simp [c_104_l0,c32,hi,hi2,h2,h3,h5,hw,c];exact ih _ ⟨by simp [h2],by simp [h3],by simp⟩
    · rw [qb7 hi hi2 c]
      simp [c_104_l0,c32,hi,hi2,h2,h3,h5,c]
  · rintro e L hL ⟨h2,h3,h5⟩
    rw [qcw q1];simp [c_104_l0,c_104_k1, *]
  · simp
theorem qv9 (k1 k2:List Xi) (p1 p2:Int) (a1 a2:Int) (l1 l2:List Int) (hb:k1.length<2^40) (hb':l1.length<2^40):
   qac Φ f_159 [.agg [.slice 2 (k1.map Xi.c),.int .i64 p1,.int .i64 a1,.slice 1 (l1.map c32)],.agg [.slice 2 (k2.map Xi.c),.int .i64 p2,.int .i64 a2,.slice 1 (l2.map c32)]]=some (.val (.bool (decide (k1=k2/\p1=p2/\a1=a2/\l1=l2)))):=by
  rw [qaa (fn:=c_159) rfl rfl];by_cases q1:k1=k2
  · by_cases q2:p1=p2
    · subst q1
      simp [c_159,qgq,qjl,hb,hb',q2]
    · subst q1
      simp [c_159,qgq,hb,q2]
  · simp [c_159,qgq,hb,q1]
theorem qrj (k1 k2:List Xi) (p1 p2:Int) (r1 r2:List AV) (hb:k1.length<2^40):
   qac Φ f_130 [.agg (.slice 2 (k1.map Xi.c):: .int .i64 p1::r1),.agg (.slice 2 (k2.map Xi.c):: .int .i64 p2::r2)]=some (.val (.bool (decide (k1=k2/\p1=p2)))):=by
  rw [qaa (fn:=c_130) rfl rfl];by_cases q2:p1=p2
  rotate_left
  · simp [c_130,q2]
  by_cases q1:k1.length=k2.length
  rotate_left
  · have:k1≠k2:=fun h=>q1 (by rw [h])
    simp [c_130,q1,this,q2]
  subst q2;simp [c_130,q1];refine (qer k1.length (fun i e h=>look 2 e=some (AV.ptr 0 (r1.length+1+1) 0 0)/\look 3 e=some (AV.ptr 1 (r2.length+1+1) 0 0)/\look 22 e=some (.slice 2 (k1.map Xi.c))/\look 23 e=some (.int .i64 k2.length)/\look 24 e=some (.int .i64 i)/\
      HP [(0,AO.row (r1.length+1+1) [.slice 2 (k1.map Xi.c):: .int .i64 p1::r1]),(1,AO.row (r2.length+1+1) [.slice 2 (k2.map Xi.c):: .int .i64 p1::r2])] 2 h)
    (fun i=>some (Rt.val (AV.bool (qbp k1 k2 i)))) ?_ ?_ 0 _ _ (Qc _) ?_).trans (by simp [qbp])
  · rintro i e _ L hi hL ⟨h2,h3,h22,h23,h24,T,n,hT,rfl⟩ ih
    have hi2:i<k2.length:=by omega
    have hw:=qal i (by omega);have hT':=hT (n+2) (Qb _);by_cases c:k1[i]=k2[i]
    · rw [qcx hi hi2 c]
      simp [c_130_l0,Xi.c,hi,hi2,h3,h22,h23,h24,hw,c,hT'];exact ih _ _ ⟨by simp [h2],by simp [h3],by simp [h22],by simp [h23],by simp,HP.next hT⟩
    · rw [qb7 hi hi2 c]
      have c':(decide (k1[i].value=k2[i].value)&&decide (k1[i].mask=k2[i].mask))=false:=by
        simp [Xi.ext_iff] at c ⊢;exact c
      simp [c_130_l0,Xi.c,hi,hi2,h3,h22,h23,h24,c',hT']
  · rintro e _ L hL ⟨h2,h3,h22,h23,h24,T,n,hT,rfl⟩
    rw [qcw q1];simp [c_130_l0,c_130_k1, *]
  · simp
    exact HP.mk
theorem Entry.eq_iff (x y:Entry):x=y↔x.keys=y.keys/\x.Xt=y.Xt/\x.call.action=y.call.action/\x.call.args=y.call.args:=by
 constructor
 ·rintro rfl;simp
 ·rintro ⟨a,b,c,d⟩;obtain ⟨k,p,u,v⟩:=x;obtain ⟨k',p',u',v'⟩:=y;simp only at a b c d;subst a b c d;rfl
def Entry.sm (x:Entry):Prop:=x.keys.length<2^40/\x.call.args.length<2^40
theorem qvj (x y:Entry) (hb:x.sm):qac Φ f_159 [.agg (Entry.c x),.agg (Entry.c y)]=some (.val (.bool (decide (x=y)))):=by
 rw [decide_eq_decide.2 (Entry.eq_iff x y)];exact qv9 x.keys y.keys x.Xt y.Xt x.call.action y.call.action x.call.args y.call.args hb.1 hb.2
theorem Rw.ce (x:Rw):Rw.c x=[.int .i64 x.id,.slice 2 (x.entry.keys.map Xi.c),.int .i64 x.entry.Xt,.int .i64 x.entry.call.action,.slice 1 (x.entry.call.args.map c32)]:=by simp [Rw.c]
theorem cSe {α:Type} (z:Nat) (f:α->List AV) (l:List α):cS z f l=[.slice z (l.map f)]:=by simp [cS]
theorem Xb.ce (x:Xb):Xb.c x=[.int .i64 x.action,.slice 1 (x.args.map c32)]:=by simp [Xb.c]
theorem Entry.ce (x:Entry):Entry.c x=[.slice 2 (x.keys.map Xi.c),.int .i64 x.Xt,.int .i64 x.call.action,.slice 1 (x.call.args.map c32)]:=by simp [Entry.c]
theorem Xf.ce (x:Xf):Xf.c x=[.slice 1 (x.rows.map (cS 5 Rw.c)),.slice 1 (x.Xr.map cI),.slice 2 (x.Xq.map Xb.c),.slice 1 (x.Xm.map (cS 1 c32))]:=by simp [Xf.c]
theorem cIe (x:Int):cI x=[.int .i64 x]:=by simp [cI]
theorem c32e (x:Int):c32 x=[.int .u32 x]:=by simp [c32]
theorem Rw.eq_iff (x y:Rw):x=y↔x.id=y.id/\x.entry=y.entry:=by
 constructor
 ·rintro rfl;simp
 ·rintro ⟨a,b⟩;obtain ⟨u,v⟩:=x;obtain ⟨u',v'⟩:=y;simp only at a b;subst a b;rfl
theorem Xb.eq_iff (x y:Xb):x=y↔x.action=y.action/\x.args=y.args:=by
 constructor
 ·rintro rfl;simp
 ·rintro ⟨a,b⟩;obtain ⟨u,v⟩:=x;obtain ⟨u',v'⟩:=y;simp only at a b;subst a b;rfl
structure CfgS (a:Xf):Prop where
 rl:a.rows.length<2^40
 rs:∀l∈a.rows,l.length<2^40/\∀r∈l,r.entry.sm
 nl:a.Xr.length<2^40
 dl:a.Xq.length<2^40
 ds:∀d∈a.Xq,d.args.length<2^40
 gl:a.Xm.length<2^40
 gs:∀l∈a.Xm,l.length<2^40
theorem Xf.eq_iff (a b:Xf):a=b↔a.rows=b.rows/\a.Xr=b.Xr/\a.Xq=b.Xq/\a.Xm=b.Xm:=by
 constructor
 ·rintro rfl;simp
 ·rintro ⟨h1,h2,h3,h4⟩;obtain ⟨x,y,z,u⟩:=a;obtain ⟨x',y',z',u'⟩:=b;simp only at h1 h2 h3 h4;subst h1 h2 h3 h4;rfl
theorem qw6 (l m:List Int) (hb:l.length<2^40):qac Φ f_101 [.slice 1 (l.map cI),.slice 1 (m.map cI)]=some (.val (.bool (decide (l=m)))):=by
 rw [qaa (fn:=c_101) rfl rfl];by_cases q1:l.length=m.length
 rotate_left
 ·have:l≠m:=fun h=>q1 (by rw [h])
  simp [c_101,q1,this]
 simp [c_101,q1];refine (qbh l.length (fun i e=>look 0 e=some (.slice 1 (l.map cI))/\look 1 e=some (.slice 1 (m.map cI))/\look 5 e=some (.int .i64 i))
  (fun i=>some (Rt.val (AV.bool (qbp l m i)))) ?_ ?_ 0 _ (Qc _) ?_).trans (by simp [qbp])
 ·rintro i e L hi hL ⟨h0,h1,h5⟩ ih;have hi2:i<m.length:=by omega
  have hw:=qal i (by omega);by_cases c:l[i]=m[i]
  ·rw [qcx hi hi2 c];simp [c_101_l0,cIe,hi,hi2,h0,h1,h5,hw,c];exact ih _ ⟨by simp [h0],by simp [h1],by simp⟩
  ·rw [qb7 hi hi2 c];simp [c_101_l0,cIe,hi,hi2,h0,h1,h5,c]
 ·rintro e L hL ⟨h0,h1,h5⟩;rw [qcw q1];simp [c_101_l0,c_101_k1, *]
 ·simp
theorem qw9 (l m:List Int) (hb:l.length<2^40):qac Φ f_158 [.slice 1 (l.map c32),.slice 1 (m.map c32)]=some (.val (.bool (decide (l=m)))):=by
 rw [qaa (fn:=c_158) rfl rfl];by_cases q1:l.length=m.length
 rotate_left
 ·have:l≠m:=fun h=>q1 (by rw [h])
  simp [c_158,q1,this]
 simp [c_158,q1];refine (qbh l.length (fun i e=>look 0 e=some (.slice 1 (l.map c32))/\look 1 e=some (.slice 1 (m.map c32))/\look 5 e=some (.int .i64 i))
  (fun i=>some (Rt.val (AV.bool (qbp l m i)))) ?_ ?_ 0 _ (Qc _) ?_).trans (by simp [qbp])
 ·rintro i e L hi hL ⟨h0,h1,h5⟩ ih;have hi2:i<m.length:=by omega
  have hw:=qal i (by omega);by_cases c:l[i]=m[i]
  ·rw [qcx hi hi2 c];simp [c_158_l0,c32e,hi,hi2,h0,h1,h5,hw,c];exact ih _ ⟨by simp [h0],by simp [h1],by simp⟩
  ·rw [qb7 hi hi2 c];simp [c_158_l0,c32e,hi,hi2,h0,h1,h5,c]
 ·rintro e L hL ⟨h0,h1,h5⟩;rw [qcw q1];simp [c_158_l0,c_158_k1, *]
 ·simp
theorem qw7 (l m:List (List Int)) (hb:l.length<2^40) (hf:∀x∈l,x.length<2^40):qac Φ f_102 [.slice 1 (l.map (cS 1 c32)),.slice 1 (m.map (cS 1 c32))]=some (.val (.bool (decide (l=m)))):=by
 rw [qaa (fn:=c_102) rfl rfl];by_cases q1:l.length=m.length
 rotate_left
 ·have:l≠m:=fun h=>q1 (by rw [h])
  simp [c_102,q1,this]
 simp [c_102,q1];refine (qbh l.length (fun i e=>look 0 e=some (.slice 1 (l.map (cS 1 c32)))/\look 1 e=some (.slice 1 (m.map (cS 1 c32)))/\look 5 e=some (.int .i64 i))
  (fun i=>some (Rt.val (AV.bool (qbp l m i)))) ?_ ?_ 0 _ (Qc _) ?_).trans (by simp [qbp])
 ·rintro i e L hi hL ⟨h0,h1,h5⟩ ih;have hi2:i<m.length:=by omega
  have hw:=qal i (by omega);have hee:=qw9 l[i] m[i] (hf _ (Qd hi));by_cases c:l[i]=m[i]
  ·rw [decide_eq_true c] at hee;rw [qcx hi hi2 c];simp [c_102_l0,cSe,hi,hi2,h0,h1,h5,hw,hee];refine (ih _ ⟨by simp [h0],by simp [h1],by simp⟩).trans (by simp)
  ·rw [decide_eq_false c] at hee;rw [qb7 hi hi2 c];simp [c_102_l0,cSe,hi,hi2,h0,h1,h5,hee]
 ·rintro e L hL ⟨h0,h1,h5⟩;rw [qcw q1];simp [c_102_l0,c_102_k1, *]
 ·simp
theorem qw8 (l m:List Rw) (hb:l.length<2^40) (hs:∀r∈l,r.entry.sm):qac Φ f_103 [.slice 5 (l.map Rw.c),.slice 5 (m.map Rw.c)]=some (.val (.bool (decide (l=m)))):=by
 rw [qaa (fn:=c_103) rfl rfl];by_cases q1:l.length=m.length
 rotate_left
 ·have:l≠m:=fun h=>q1 (by rw [h])
  simp [c_103,q1,this]
 simp [c_103,q1];refine (qbh l.length (fun i e=>look 0 e=some (.slice 5 (l.map Rw.c))/\look 1 e=some (.slice 5 (m.map Rw.c))/\look 5 e=some (.int .i64 i))
  (fun i=>some (Rt.val (AV.bool (qbp l m i)))) ?_ ?_ 0 _ (Qc _) ?_).trans (by simp [qbp])
 ·rintro i e L hi hL ⟨h0,h1,h5⟩ ih;have hi2:i<m.length:=by omega
  have hw:=qal i (by omega);have hee:=qvj l[i].entry m[i].entry (hs _ (Qd hi));simp only [Entry.ce] at hee;by_cases c1:l[i].id=m[i].id
  rotate_left
  ·rw [qb7 hi hi2 (fun h=>c1 (by rw [h]))];simp [c_103_l0,Rw.ce,hi,hi2,h0,h1,h5,c1]
  by_cases c2:l[i].entry.Xt=m[i].entry.Xt
  rotate_left
  ·rw [qb7 hi hi2 (fun h=>c2 (by rw [h]))];simp [c_103_l0,Rw.ce,hi,hi2,h0,h1,h5,c1,c2]
  by_cases c:l[i].entry=m[i].entry
  ·rw [decide_eq_true c,c2] at hee;rw [qcx hi hi2 ((Rw.eq_iff _ _).2 ⟨c1,c⟩)];simp [c_103_l0,Rw.ce,hi,hi2,h0,h1,h5,hw,c1,c2,hee];refine (ih _ ⟨by simp [h0],by simp [h1],by simp⟩).trans (by simp)
  ·rw [decide_eq_false c,c2] at hee;rw [qb7 hi hi2 (fun h=>c (by rw [h]))];simp [c_103_l0,Rw.ce,hi,hi2,h0,h1,h5,c1,c2,hee]
 ·rintro e L hL ⟨h0,h1,h5⟩;rw [qcw q1];simp [c_103_l0,c_103_k1, *]
 ·simp
theorem qvi (x y:Xb) (h:x.args.length<2^40):qac Φ f_104 [.agg (Xb.c x),.agg (Xb.c y)]=some (.val (.bool (decide (x=y)))):=by
 rw [decide_eq_decide.2 (Xb.eq_iff x y)];exact qjl x.action y.action x.args y.args h
theorem qtq (a b:Xf) (f:CfgS a):qac Φ f_56 [.agg (Xf.c a),.agg (Xf.c b)]=some (.val (.bool (decide (a=b)))):=by
 have ee:decide (a=b)=decide (a.rows=b.rows/\a.Xr=b.Xr/\a.Xq=b.Xq/\a.Xm=b.Xm):=decide_eq_decide.2 (Xf.eq_iff a b);rw [ee,qaa (fn:=c_56) rfl rfl];have g2:=qw6 a.Xr b.Xr f.nl;have g4:=qw7 a.Xm b.Xm f.gl f.gs;by_cases q1:a.rows.length=b.rows.length
 rotate_left
 ·have:a.rows≠b.rows:=fun h=>q1 (by rw [h])
  simp [c_56,Xf.ce,q1,this]
 by_cases q2:a.Xr=b.Xr
 rotate_left
 ·simp [c_56,Xf.ce,q1,q2,g2]
 by_cases q3:a.Xq.length=b.Xq.length
 rotate_left
 ·have:a.Xq≠b.Xq:=fun h=>q3 (by rw [h])
  rw [q2] at g2;simp [c_56,Xf.ce,q1,q2,g2,q3,this]
 by_cases q4:a.Xm=b.Xm
 rotate_left
 ·rw [q2] at g2;simp [c_56,Xf.ce,q1,q2,q3,g2,g4,q4]
 rw [q2] at g2;rw [q4] at g4;simp [c_56,Xf.ce,q1,q2,q3,q4,g2,g4];refine (qbh a.rows.length (fun i e=>look 2 e=some (.ptr 0 4 0 0)/\look 3 e=some (.ptr 1 4 0 0)/\look 5 e=some (.int .i64 i))
  (fun i=>some (Rt.val (AV.bool (qbp a.rows b.rows i&&decide (a.Xq=b.Xq))))) ?_ ?_ 0 _ (Qc _) ?_).trans (by simp [qbp])
 ·rintro i e L hi hL ⟨h2,h3,h5⟩ ih;have hi2:i<b.rows.length:=by omega
  have hw:IntKind.wrap .i64 ((i:Int)+1)=((i+1:Nat):Int):=qej (by omega) (by have:=f.rl;omega);obtain ⟨u1,u2⟩:=f.rs _ (Qd hi);have hee:=qw8 a.rows[i] b.rows[i] u1 u2;by_cases c:a.rows[i]=b.rows[i]
  ·rw [decide_eq_true c] at hee;rw [qcx hi hi2 c];simp [c_56_l0,cSe,hi,hi2,h2,h3,h5,hee,hw];refine (ih _ ⟨by simp [h2],by simp [h3],by simp⟩).trans (by simp)
  ·rw [decide_eq_false c] at hee;rw [qb7 hi hi2 c];simp [c_56_l0,cSe,hi,hi2,h2,h3,h5,hee]
 ·rintro e L hL ⟨h2,h3,h5⟩;rw [qcw q1];simp [c_56_l0,c_56_k3,h2,h5,hL];refine (qbh a.Xq.length (fun i e=>look 2 e=some (.ptr 0 4 0 0)/\look 3 e=some (.ptr 1 4 0 0)/\look 6 e=some (.int .i64 i))
   (fun i=>some (Rt.val (AV.bool (qbp a.Xq b.Xq i)))) ?_ ?_ 0 _ (Qc _) ?_).trans (by simp [qbp])
  ·rintro i e L' hi hL' ⟨h2,h3,h6⟩ ih;have hi2:i<b.Xq.length:=by omega
   have hw:IntKind.wrap .i64 ((i:Int)+1)=((i+1:Nat):Int):=qej (by omega) (by have:=f.dl;omega);have hee:=qvi a.Xq[i] b.Xq[i] (f.ds _ (Qd hi));simp only [Xb.ce] at hee;by_cases c:a.Xq[i]=b.Xq[i]
   ·rw [decide_eq_true c] at hee;rw [qcx hi hi2 c];simp [c_56_l1,Xb.ce,hi,hi2,h2,h3,h6,hee,hw];refine (ih _ ⟨by simp [h2],by simp [h3],by simp⟩).trans (by simp)
   ·rw [decide_eq_false c] at hee;rw [qb7 hi hi2 c];simp [c_56_l1,Xb.ce,hi,hi2,h2,h3,h6,hee]
  ·rintro e L' hL' ⟨h2,h3,h6⟩;rw [qcw q3];simp [c_56_l1,c_56_k2,h2,h6,hL']
  ·simp [h2,h3]
 ·simp
theorem Action.ce (x:Action):Action.c x=[.str x.name,.slice 2 (x.params.map Fld.c),.slice 7 (x.body.map Xg.c)]:=by simp [Action.c]
theorem Xj.ce (x:Xj):Xj.c x=[.str x.name,.slice 2 (x.fields.map Fld.c)]:=by simp [Xj.c]
theorem Xh.ce (x:Xh):Xh.c x=[.str x.name,.int .i64 x.width,.int .i64 x.size]:=by simp [Xh.c]
theorem Xg.ce (x:Xg):Xg.c x=[.int .i64 x.kind,.int .i64 x.dst.header,.int .i64 x.dst.field,.int .i64 x.register,.int .i64 x.header,.slice 3 (x.index.map Xe.c),.slice 3 (x.value.map Xe.c)]:=by simp [Xg.c]
theorem Tbl.ce (x:Tbl):Tbl.c x=[.str x.name,.slice 3 (x.keys.map Xl.c),.slice 1 (x.actions.map cI),.int .i64 x.dflt.action,.slice 1 (x.dflt.args.map c32),.int .i64 x.size]:=by simp [Tbl.c]
theorem Xd.ce (x:Xd):Xd.c x=[.str x.name,.slice 1 (x.extract.map cI),.bool x.select,.int .i64 x.on.header,.int .i64 x.on.field,.slice 3 (x.cases.map Xk.c),.int .i64 x.dflt]:=by simp [Xd.c]
theorem Xa.ce (k t:Int) (c:List Xe) (a b:List Xa):Xa.c (.mk k t c a b)=[.int .i64 k,.int .i64 t,.slice 3 (c.map Xe.c),.slice 5 (a.map Xa.c),.slice 5 (b.map Xa.c)]:=by simp [Xa.c,Xa.cs_eq]
theorem Prg.ce (x:Prg):Prg.c x=[.str x.name,.slice 2 (x.Xp.map Xj.c),.slice 2 (x.Xo.map Fld.c),.slice 3 (x.Xm.map Xh.c),.slice 3 (x.actions.map Action.c),.slice 6 (x.Xn.map Tbl.c),.slice 7 (x.states.map Xd.c),.slice 5 (x.control.map Xa.c),.slice 1 (x.Xs.map cI)]:=by simp [Prg.c]
def hp0 (p:Prg):AH:=⟨[(0,.row 9 [[.str p.name,.slice 2 (p.Xp.map Xj.c),.slice 2 (p.Xo.map Fld.c),.slice 3 (p.Xm.map Xh.c),.slice 3 (p.actions.map Action.c),.slice 6 (p.Xn.map Tbl.c),.slice 7 (p.states.map Xd.c),.slice 5 (p.control.map Xa.c),.slice 1 (p.Xs.map cI)]])],1⟩
structure PrgB (p:Prg):Prop where
 h:p.Xp.length<2^40
 r:p.Xm.length<2^40
 a:p.actions.length<2^40
 b:∀x∈p.actions,x.body.length<2^40
 t:p.Xn.length<2^40
 s:p.states.length<2^40
 c:p.control.length<2^40
 co:∀x∈p.control,Xa.Ok qbw x
def hp1 (p:Prg) (c:Xf):AH:=⟨[(0,.row 9 [[.str p.name,.slice 2 (p.Xp.map Xj.c),.slice 2 (p.Xo.map Fld.c),.slice 3 (p.Xm.map Xh.c),.slice 3 (p.actions.map Action.c),.slice 6 (p.Xn.map Tbl.c),.slice 7 (p.states.map Xd.c),.slice 5 (p.control.map Xa.c),.slice 1 (p.Xs.map cI)]]),(1,.row 4 [[.slice 1 (c.rows.map (cS 5 Rw.c)),.slice 1 (c.Xr.map cI),.slice 2 (c.Xq.map Xb.c),.slice 1 (c.Xm.map (cS 1 c32))]])],2⟩
def tOk (p:Prg) (t:Int):Bool:=decide ((tblE p t).2=0)
theorem keyV {p:Prg} {x:Tbl} (h:keyE p x=none):∀k∈x.keys,k.kind=1\/k.kind=2\/k.kind=3:=by
 intro k hk;obtain ⟨i,hi,rfl⟩:=QBz hk;have:=(fe_all.1 h) i hi;simp [hi] at this;split at this
 ·cases this
 ·split at this
  ·assumption
  ·cases this
structure TOk (p:Prg) (k:Nat) (hk:k<p.Xn.length):Prop where
 keys:p.Xn[k].keys.length<=6
 acts:p.Xn[k].actions.length<=16
 kinds:∀x∈p.Xn[k].keys,x.kind=1\/x.kind=2\/x.kind=3
 size:1<=p.Xn[k].size/\p.Xn[k].size<=256
theorem qgh {p:Prg} {t:Int} (h:tOk p t=true):∃(k:Nat) (hk:k<p.Xn.length),t=k/\TOk p k hk:=by
 simp only [tOk,decide_eq_true_eq] at h;by_cases i0:t<0
 ·simp [tblE,qe4 i0] at h
 by_cases i1:(p.Xn.length:Int)<=t
 ·simp [tblE,qe3 i1] at h
 obtain ⟨k,rfl⟩:∃k:Nat,t=k:=⟨t.toNat,by omega⟩;have hk:k<p.Xn.length:=by omega
 refine ⟨k,hk,rfl,?_⟩;unfold tblE at h;rw [quh,Qa hk] at h;dsimp only at h;by_cases z0:idS p.Xn[k].name=false
 ·rw [QAb z0] at h;cases h
 rw [QA z0] at h;by_cases z1:6<p.Xn[k].keys.length\/16<p.Xn[k].actions.length
 ·rw [QAb z1] at h;cases h
 rw [QA z1] at h;by_cases z2:p.Xn[k].size<1\/256<p.Xn[k].size
 ·rw [QAb z2] at h;cases h
 rw [QA z2] at h;by_cases z3:(qdz p p.Xn[k]).2≠0
 ·rw [QAb z3] at h;exact absurd h z3
 refine ⟨by omega,by omega,?_,by omega⟩;unfold qdz at z3;cases q:keyE p p.Xn[k] with
 | none=>exact keyV q
 | some e=>
  exfalso;rw [q] at z3;dsimp only at z3;obtain ⟨i,hi,hx⟩:=qni q;simp only [Qt] at hx;obtain ⟨y,_,hy⟩:=hx;split at hy
  ·cases hy;exact z3 (by simp)
  ·split at hy
   ·cases hy
   ·cases hy;exact z3 (by simp)
theorem qko (p:Prg) (f:PrgS p) (t:Int):qac Φ f_245 [.agg (Prg.c p),.int .i64 t]=some (.val (.bool (tOk p t))):=by
 rw [qaa (fn:=c_245) rfl rfl];have h:=qsr p f t;simp only [Prg.e] at h;simp [c_245,Prg.e,h,tOk]
theorem qjd (p:Prg) (f:PrgS p) (hv:∀t∈p.Xn,∀v∈t.dflt.args,ok32 0 v) (t:Int):qac Φ f_218 [.agg (Prg.c p),.int .i64 t]=some (.val (.bool (tOk p t))):=by
 rw [qaa (fn:=c_218) rfl rfl];have h:=qqr p f hv t;simp only [Prg.e] at h;simp [c_218,Prg.e,h,tOk]
def kMax:List Xl->Int->Int
 | [],a=>a
 | k::r,a=>kMax r (max a k.kind)
def qff (p:Prg) (t:Int):Int:=if tOk p t then (match at? p.Xn t with
 | some x=>kMax x.keys 1
 | none=>0) else 0
theorem qu7:∀(l:List Xl) (a:Int),a=3->(∀x∈l,x.kind=1\/x.kind=2\/x.kind=3)->kMax l a=3
 | [],a,h,_=>h
 | k::r,a,h,hk=>by
  subst h;have:=hk k (by simp);simp only [kMax];exact qu7 r _ (by omega) fun x hx=>hk x (by simp [hx])
theorem qx7 (p:Prg) (f:PrgS p) (t:Int):qac Φ f_185 [.agg (Prg.c p),.int .i64 t]=some (.val (.int .i64 (qff p t))):=by
 rw [qaa (fn:=c_185) rfl rfl];have h:=qko p f t;simp only [Prg.e] at h;cases q:tOk p t with
 | false=>
  rw [q] at h;simp [c_185,Prg.e,h,qff,q]
 | true=>
 rw [q] at h;obtain ⟨k,hk,rfl,o⟩:=qgh q;have hK:qff p (k:Int)=kMax p.Xn[k].keys 1:=by simp [qff,q,hk]
 rw [hK];have hb:=o.keys;simp [c_185,Prg.e,h,hk,Tbl.e];refine qar p.Xn[k].keys.length (fun _=>[]) 0 (fun i e=>look 17 e=some (.slice 3 (p.Xn[k].keys.map Xl.c))/\look 18 e=some (.int .i64 p.Xn[k].keys.length)/\look 19 e=some (.int .i64 i)/\∃a:Int,look 5 e=some (.int .i64 a)/\(a=1\/a=2)/\kMax (p.Xn[k].keys.drop i) a=kMax p.Xn[k].keys 1)
  (fun _=>some (Rt.val (.int .i64 (kMax p.Xn[k].keys 1)))) ?_ ?_ 0 _ 0 (Qc _) (Qb _) ?_
 ·rintro i e n L hi hL _ ⟨h17,h18,h19,a,h5,ha,hm⟩ ih;have hw:=qal i (by omega);rw [Qi hi] at hm;simp only [kMax] at hm;have hkk:=o.kinds _ (Qd hi);by_cases k3:p.Xn[k].keys[i].kind=3
  ·have:kMax p.Xn[k].keys 1=3:=by
    rw [<- hm];exact qu7 _ _ (by omega) fun x hx=>o.kinds x (QAo hx)
   rw [this];simp [c_185_l0,Xl.e,h17,h18,h19,hi,k3]
  by_cases k2:p.Xn[k].keys[i].kind=2
  ·simp [c_185_l0,Xl.e,h17,h18,h19,hi,k2,hw];exact ih _ _ (Qc _) ⟨by simp [h17],by simp [h18],by simp,2,by simp,.inr rfl,by rw [<- hm];congr 1;omega⟩
  ·simp [c_185_l0,Xl.e,h17,h18,h19,hi,k3,k2,hw];exact ih _ _ (Qc _) ⟨by simp [h17],by simp [h18],by simp,a,by simp [h5],ha,by rw [<- hm];congr 1;omega⟩
 ·rintro e n L hL _ ⟨h17,h18,h19,a,h5,ha,hm⟩;rw [QBo] at hm;simp only [kMax] at hm;rw [<- hm];simp [c_185_l0,c_185_k1,h5,h18,h19,hL]
 ·simp
theorem qxf (p:Prg) (f:PrgS p) (hv:∀t∈p.Xn,∀v∈t.dflt.args,ok32 0 v) (t:Int):qac Φ f_216 [.agg (Prg.c p),.int .i64 t]=some (.val (.int .i64 (qff p t))):=by
 rw [qaa (fn:=c_216) rfl rfl];have h:=qjd p f hv t;simp only [Prg.e] at h;cases q:tOk p t with
 | false=>
  rw [q] at h;simp [c_216,Prg.e,h,qff,q]
 | true=>
 rw [q] at h;obtain ⟨k,hk,rfl,o⟩:=qgh q;have hK:qff p (k:Int)=kMax p.Xn[k].keys 1:=by simp [qff,q,hk]
 rw [hK];have hb:=o.keys;simp [c_216,Prg.e,h];refine qar p.Xn[k].keys.length (fun _=>[]) 0 (fun i e=>look 2 e=some (.iptr 9 [Prg.c p] 0 0)/\look 1 e=some (.int .i64 k)/\look 6 e=some (.int .i64 i)/\∃a:Int,look 5 e=some (.int .i64 a)/\kMax (p.Xn[k].keys.drop i) a=kMax p.Xn[k].keys 1)
  (fun _=>some (Rt.val (.int .i64 (kMax p.Xn[k].keys 1)))) ?_ ?_ 0 _ 0 (Qc _) (Qb _) ?_
 ·rintro i e n L hi hL _ ⟨h2,h1,h6,a,h5,hm⟩ ih;have hw:=qal i (by omega);rw [Qi hi] at hm;simp only [kMax] at hm;rw [Prg.e] at h2;simp [c_216_l0,Xl.e,Tbl.e,h1,h2,h5,h6,hk,hi,hw];exact ih _ _ (Qc _) ⟨by simp [h2,Prg.e],by simp [h1],by simp,max a p.Xn[k].keys[i].kind,by simp;split<;>omega,hm⟩
 ·rintro e n L hL _ ⟨h2,h1,h6,a,h5,hm⟩;rw [QBo] at hm;simp only [kMax] at hm;rw [Prg.e] at h2;rw [<- hm];simp [c_216_l0,c_216_k1,Tbl.e,h1,h2,h5,h6,hk,hL]
 ·simp [Prg.e]
theorem qud (p:Prg) (f:PrgS p) (k:Nat) (hk:k<p.Xn.length) (q:tOk p k=true):qac Φ f_183 [.agg (Prg.c p),.int .i64 k]=some (.val (.slice 1 ((kWid p p.Xn[k]).map cI))):=by
 rw [qaa (fn:=c_183) rfl rfl];have h:=qko p f k;rw [q] at h;simp only [Prg.e] at h;obtain ⟨k',hk',e,o⟩:=qgh q;obtain rfl:k=k':=by omega
 have hb:=o.keys;have e0:(kWid p p.Xn[k]).map cI=p.Xn[k].keys.map fun y=>[AV.int .i64 (wid p y.field.header y.field.field)]:=by simp [kWid,cI]
 rw [e0];simp [c_183,Prg.e,h,hk,Tbl.e];refine (qar p.Xn[k].keys.length (fun i=>[(0,.tok 1 i)]) 1 (fun i e=>look 2 e=some (.iptr 9 [Prg.c p] 0 0)/\look 5 e=some (.app 1 ((p.Xn[k].keys.map fun y=>[AV.int .i64 (wid p y.field.header y.field.field)]).take i) 0)/\look 17 e=some (.slice 3 (p.Xn[k].keys.map Xl.c))/\look 18 e=some (.int .i64 p.Xn[k].keys.length)/\look 19 e=some (.int .i64 i))
  (fun _=>some (Rt.val (.slice 1 (p.Xn[k].keys.map fun y=>[AV.int .i64 (wid p y.field.header y.field.field)])))) ?_ ?_ 0 _ 1 (Qc _) (Qb _) ?_).trans (by simp)
 ·rintro i e n L hi hL hn ⟨h2,h5,h17,h18,h19⟩ ih;have hw:=qal i (by omega);have hv:=qv5 p p.Xn[k].keys[i].field.header p.Xn[k].keys[i].field.field;simp only [Prg.e] at hv;rw [Prg.e] at h2;have hn0:¬(0=n):=by omega
  have hn1:¬(n=0):=by omega
  have hm:min i p.Xn[k].keys.length=i:=by omega
  have hb:(i+1)*8<=70368744177664:=by omega
  simp [c_183_l0,Xl.e,h2,h5,h17,h18,h19,hi,hw,hn0,hm,hb,hv];exact ih _ _ (by omega) ⟨by simp [h2,Prg.e],by simp [qcu hi],by simp [h17],by simp [h18],by simp⟩
 ·rintro e n L hL hn ⟨h2,h5,h17,h18,h19⟩;simp [c_183_l0,c_183_k1,h5,h18,h19,hL]
 ·simp [Prg.e]
theorem qtx (p:Prg) (f:PrgS p) (hv:∀t∈p.Xn,∀v∈t.dflt.args,ok32 0 v) (k:Nat) (hk:k<p.Xn.length) (q:tOk p k=true):qac Φ f_214 [.agg (Prg.c p),.int .i64 k]=some (.val (.slice 1 ((kWid p p.Xn[k]).map cI))):=by
 rw [qaa (fn:=c_214) rfl rfl];have h:=qjd p f hv k;rw [q] at h;simp only [Prg.e] at h;obtain ⟨k',hk',e,o⟩:=qgh q;obtain rfl:k=k':=by omega
 have hb:=o.keys;have e0:(kWid p p.Xn[k]).map cI=p.Xn[k].keys.map fun y=>[AV.int .i64 (wid p y.field.header y.field.field)]:=by simp [kWid,cI]
 rw [e0];simp [c_214,Prg.e,h];refine (qar p.Xn[k].keys.length (fun i=>[(0,.tok 1 i)]) 1 (fun i e=>look 2 e=some (.iptr 9 [Prg.c p] 0 0)/\look 1 e=some (.int .i64 k)/\look 5 e=some (.app 1 ((p.Xn[k].keys.map fun y=>[AV.int .i64 (wid p y.field.header y.field.field)]).take i) 0)/\look 6 e=some (.int .i64 i))
  (fun _=>some (Rt.val (.slice 1 (p.Xn[k].keys.map fun y=>[AV.int .i64 (wid p y.field.header y.field.field)])))) ?_ ?_ 0 _ 1 (Qc _) (Qb _) ?_).trans (by simp)
 ·rintro i e n L hi hL hn ⟨h2,h1,h5,h6⟩ ih;have hw:=qal i (by omega);have hv:=qoj p p.Xn[k].keys[i].field.header p.Xn[k].keys[i].field.field;simp only [Prg.e] at hv;rw [Prg.e] at h2;have hn0:¬(0=n):=by omega
  have hn1:¬(n=0):=by omega
  have hm:min i p.Xn[k].keys.length=i:=by omega
  have hb:(i+1)*8<=70368744177664:=by omega
  simp [c_214_l0,Xl.e,Tbl.e,h1,h2,h5,h6,hk,hi,hw,hm,hb,hv];exact ih _ _ (by omega) ⟨by simp [h2,Prg.e],by simp [h1],by simp [qcu hi],by simp⟩
 ·rintro e n L hL hn ⟨h2,h1,h5,h6⟩;rw [Prg.e] at h2;simp [c_214_l0,c_214_k1,Tbl.e,h1,h2,h5,h6,hk,hL]
 ·simp [Prg.e]
def tAl (p:Prg) (t a:Int):Bool:=tOk p t&&(match at? p.Xn t with
 | some x=>x.actions.any fun s=>decide (s=a)
 | none=>false)
theorem qm8 (p:Prg) (f:PrgS p) (t a:Int):qac Φ f_186 [.agg (Prg.c p),.int .i64 t,.int .i64 a]=some (.val (.bool (tAl p t a))):=by
 rw [qaa (fn:=c_186) rfl rfl];have h:=qko p f t;simp only [Prg.e] at h;cases q:tOk p t with
 | false=>
  rw [q] at h;simp [c_186,Prg.e,h,tAl,q]
 | true=>
 rw [q] at h;obtain ⟨k,hk,rfl,o⟩:=qgh q;have hK:tAl p (k:Int) a=p.Xn[k].actions.any fun s=>decide (s=a):=by simp [tAl,q,hk]
 rw [hK];have hb:=o.acts;simp [c_186,Prg.e,h,hk,Tbl.e];refine (qar p.Xn[k].actions.length (fun _=>[]) 0 (fun i e=>look 2 e=some (.int .i64 a)/\look 18 e=some (.slice 1 (p.Xn[k].actions.map cI))/\look 19 e=some (.int .i64 p.Xn[k].actions.length)/\look 20 e=some (.int .i64 i))
  (fun i=>some (Rt.val (.bool ((p.Xn[k].actions.drop i).any fun s=>decide (s=a))))) ?_ ?_ 0 _ 0 (Qc _) (Qb _) ?_).trans (by simp)
 ·rintro i e n L hi hL _ ⟨h2,h18,h19,h20⟩ ih;have hw:=qal i (by omega);rw [Qi hi,QB];by_cases z:p.Xn[k].actions[i]=a
  ·generalize hX:some (Rt.val (AV.bool (decide (p.Xn[k].actions[i]=a) || (p.Xn[k].actions.drop (i+1)).any fun s=>decide (s=a))))=X;simp [c_186_l0,cI,h2,h18,h19,h20,hi,z];rw [<- hX];simp [z]
  ·rw [show (decide (p.Xn[k].actions[i]=a) || (p.Xn[k].actions.drop (i+1)).any fun s=>decide (s=a))=(p.Xn[k].actions.drop (i+1)).any fun s=>decide (s=a) by simp [z]];generalize hX:some (Rt.val (AV.bool ((p.Xn[k].actions.drop (i+1)).any fun s=>decide (s=a))))=X;simp [c_186_l0,cI,h2,h18,h19,h20,hi,z,hw];rw [<- hX];exact ih _ _ (Qc _) ⟨by simp [h2],by simp [h18],by simp [h19],by simp⟩
 ·rintro e n L hL _ ⟨h2,h18,h19,h20⟩;simp [c_186_l0,c_186_k1,h19,h20,hL]
 ·simp
theorem qmw (p:Prg) (f:PrgS p) (hv:∀t∈p.Xn,∀v∈t.dflt.args,ok32 0 v) (t a:Int):qac Φ f_148 [.agg (Prg.c p),.int .i64 t,.int .i64 a]=some (.val (.bool (tAl p t a))):=by
 rw [qaa (fn:=c_148) rfl rfl];have h:=qjd p f hv t;simp only [Prg.e] at h;cases q:tOk p t with
 | false=>
  rw [q] at h;simp [c_148,Prg.e,h,tAl,q]
 | true=>
 rw [q] at h;obtain ⟨k,hk,rfl,o⟩:=qgh q;have hK:tAl p (k:Int) a=p.Xn[k].actions.any fun s=>decide (s=a):=by simp [tAl,q,hk]
 have hb:=o.acts;have hx:=qkj p.Xn[k].actions a (by omega);rw [hK,<- qp6];simp [c_148,Prg.e,Tbl.e,h,hk,hx]
def pmI (n k:Nat):Int:=2^k - 2^(k - n)
theorem qabw:∀k:Nat,k<33->∀n:Nat,n<33->n<=k->qg4 .u32 (2^k - 1) (ishr .u32 (2^k - 1) (n:Int))=pmI n k:=by decide+kernel
theorem qw5 (n k:Nat) (h:n<=k) (h1:1<=k) (h2:k<=32):qac Φ f_315 [.int .i64 n,.int .i64 k]=some (.val (.int .u32 (pmI n k))):=by
 rw [qaa (fn:=c_315) rfl rfl];have hv:=qh3 k;have hm:=qg5 k;have hw:wBad (k:Int)=false:=wBad_false.2 ⟨by omega,by omega⟩;have hM:qbn (k:Int)=2^k - 1:=by simp [qbn,hw]
 rw [hw] at hv;rw [hM] at hm;have hp:=qabw k (by omega) n (by omega) h;have n1:¬((n:Int)<0):=by omega
 have n2:¬((k:Int)<n):=by omega
 simp [c_315,hv,hm,n1,n2];exact hp
theorem qacl:∀k:Nat,k<33->∀n:Nat,n<33->n<=k->IntKind.wrap .u32 (IntKind.wrap .u64 (2^k - 2^(k - n)))=pmI n k:=by decide+kernel
theorem qvr (n k:Nat) (h:n<=k) (h1:1<=k) (h2:k<=32):qac Φ f_336 [.int .i64 n,.int .i64 k]=some (.val (.int .u32 (pmI n k))):=by
 rw [qaa (fn:=c_336) rfl rfl];have hv:=qh1 k;have hw:wBad (k:Int)=false:=wBad_false.2 ⟨by omega,by omega⟩;rw [hw] at hv;have p1:=qjb k (by omega);have p2:=qjb (k - n) (by omega);have hs:IntKind.wrap .i64 ((k:Int) - n)=((k - n:Nat):Int):=by
  rw [show (k:Int) - n=((k - n:Nat):Int) by omega];exact qej (by omega) (by omega)
 have n1:¬((n:Int)<0):=by omega
 have n2:¬((k:Int)<n):=by omega
 simp [c_336,hv,p1,p2,n1,n2,hs];exact qacl k (by omega) n (by omega) h
def plG (m:Int) (k:Nat) (n:Nat):Option Int:=if pmI n k=m then some (n:Int) else none
def plE (m w:Int):Option Int:=if wBad w then none else fe (plG m w.toNat) (w.toNat+1) 0
def plV (o:Option Int):Rt:= .val (.tup [.int .i64 (o.getD 0),.bool o.isSome])
theorem qzj (m w:Int):qac Φ f_248 [.int .u32 m,.int .i64 w]=some (plV (plE m w)):=by
 rw [qaa (fn:=c_248) rfl rfl];have hv:=qh3 w;cases q:wBad w with
 | true=>
  rw [q] at hv;simp [c_248,hv,plE,q,plV]
 | false=>
 rw [q] at hv;obtain ⟨w1,w2⟩:=wBad_false.1 q;obtain ⟨k,rfl⟩:∃k:Nat,w=k:=⟨w.toNat,by omega⟩;have hw1:=qal k (by omega);have hE:plE m (k:Int)=fe (plG m k) (k+1) 0:=by simp [plE,q]
 rw [hE];simp [c_248,hv,hw1];refine qar (k+1) (fun _=>[]) 0 (fun i e=>look 0 e=some (.int .u32 m)/\look 1 e=some (.int .i64 k)/\look 12 e=some (.int .i64 ((k:Int)+1))/\look 13 e=some (.int .i64 i))
  (fun i=>some (plV (fe (plG m k) (k+1) i))) ?_ ?_ 0 _ 0 (Qc _) (Qb _) ?_
 ·rintro i e n L hi hL _ ⟨h0,h1,h12,h13⟩ ih;have hw:=qal i (by omega);have hp:=qw5 i k (by omega) (by omega) (by omega);have hlt:(i:Int)<(k:Int)+1:=by omega
  by_cases z:pmI i k=m
  ·rw [qba (x:=(i:Int)) hi (by simp [plG,z])];subst z;simp [c_248_l0,h0,h1,h12,h13,hp,hlt,plV]
  ·rw [qa8 hi (by simp [plG,z])];generalize hX:some (plV (fe (plG m k) (k+1) (i+1)))=X;simp [c_248_l0,h0,h1,h12,h13,hp,hlt,z,hw];rw [<- hX];exact ih _ _ (Qc _) ⟨by simp [h0],by simp [h1],by simp [h12],by simp⟩
 ·rintro e n L hL _ ⟨h0,h1,h12,h13⟩;rw [qb9];simp [c_248_l0,c_248_k1,h12,h13,hL,plV]
 ·simp
theorem qxh (m w:Int):qac Φ f_283 [.int .u32 m,.int .i64 w]=some (plV (plE m w)):=by
 rw [qaa (fn:=c_283) rfl rfl];have hv:=qh1 w;cases q:wBad w with
 | true=>
  rw [q] at hv;simp [c_283];rw [qc4];by_cases z:0<=w
  ·simp [c_283_l0,c_283_k1,hv,z,plE,q,plV]
  ·simp [c_283_l0,c_283_k1,z,plE,q,plV]
 | false=>
 rw [q] at hv;obtain ⟨w1,w2⟩:=wBad_false.1 q;obtain ⟨k,rfl⟩:∃k:Nat,w=k:=⟨w.toNat,by omega⟩;have hE:plE m (k:Int)=fe (plG m k) (k+1) 0:=by simp [plE,q]
 rw [hE];simp [c_283];refine qar (k+1) (fun _=>[]) 0 (fun i e=>look 0 e=some (.int .u32 m)/\look 1 e=some (.int .i64 k)/\look 6 e=some (.int .i64 i))
  (fun i=>some (plV (fe (plG m k) (k+1) i))) ?_ ?_ 0 _ 0 (Qc _) (Qb _) ?_
 ·rintro i e n L hi hL _ ⟨h0,h1,h6⟩ ih;have hw:=qal i (by omega);have hp:=qvr i k (by omega) (by omega) (by omega);have hle:i<=k:=by omega
  by_cases z:pmI i k=m
  ·rw [qba (x:=(i:Int)) hi (by simp [plG,z])];subst z;simp [c_283_l0,h0,h1,h6,hv,hp,hle,plV]
  ·rw [qa8 hi (by simp [plG,z])];generalize hX:some (plV (fe (plG m k) (k+1) (i+1)))=X;simp [c_283_l0,h0,h1,h6,hv,hp,hle,z,hw];rw [<- hX];exact ih _ _ (Qc _) ⟨by simp [h0],by simp [h1],by simp⟩
 ·rintro e n L hL _ ⟨h0,h1,h6⟩;rw [qb9];have hgt:¬((k:Int)+1<=(k:Int)):=by omega
  simp [c_283_l0,c_283_k1,h1,h6,hL,hgt,plV]
 ·simp
theorem Xi.ce (m:Xi):Xi.c m=[.int .u32 m.value,.int .u32 m.mask]:=by simp [Xi.c]
def keyK (m:Xi) (kind w:Int):Int:=
 if fits m.value w=false\/fits m.mask w=false then 9
 else if m.value.toNat&&& m.mask.toNat≠m.value.toNat then 5
 else if kind=1/\m.mask≠qbn w then 11
 else if kind=2/\(plE m.mask w).isSome=false then 11 else 0
theorem qyu (m:Xi) (kind w:Int) (h1:ok32 0 m.value) (h2:ok32 0 m.mask):qac Φ f_184 [.agg (Xi.c m),.int .i64 kind,.int .i64 w]=some (.val (.int .i64 (keyK m kind w))):=by
 rw [qaa (fn:=c_184) rfl rfl];have f1:=qnk m.value w;have f2:=qnk m.mask w;have hm:=qg5 w;have hp:=qzj m.mask w;have ha:=qp5 h1 h2;unfold keyK;cases q1:fits m.value w with
 | false=>rw [q1] at f1;simp [c_184,Xi.ce,f1]
 | true=>
 rw [q1] at f1;cases q2:fits m.mask w with
 | false=>rw [q2] at f2;simp [c_184,Xi.ce,f1,f2]
 | true=>
 rw [q2] at f2;by_cases z:qg4 .u32 m.value m.mask=0
 rotate_left
 ·have z':¬(m.value.toNat&&& m.mask.toNat=m.value.toNat):=fun h=>z (ha.2 h)
  simp [c_184,Xi.ce,f1,f2,z,z']
 have z':=ha.1 z;by_cases k1:kind=1
 ·subst k1;by_cases y:m.mask=qbn w
  ·rw [y] at f2 z z';simp [c_184,Xi.ce,f1,f2,z,z',hm,y]
  ·simp [c_184,Xi.ce,f1,f2,z,z',hm,y]
 by_cases k2:kind=2
 ·subst k2;cases y:plE m.mask w with
  | none=>rw [y] at hp;simp [plV] at hp;simp [c_184,Xi.ce,f1,f2,z,z',hp]
  | some x=>rw [y] at hp;simp [plV] at hp;simp [c_184,Xi.ce,f1,f2,z,z',hp]
 simp [c_184,Xi.ce,f1,f2,z,z',k1,k2]
theorem qzv (m:Xi) (kind w:Int) (h1:ok32 0 m.value) (h2:ok32 0 m.mask):qac Φ f_215 [.agg (Xi.c m),.int .i64 w,.int .i64 kind]=some (.val (.int .i64 (keyK m kind w))):=by
 rw [qaa (fn:=c_215) rfl rfl];have f1:=qlw m.value w h1;have f2:=qlw m.mask w h2;have hm:=qxg w;have hp:=qxh m.mask w;have ha:=qu4 h1 h2;simp [plV] at hp;unfold keyK;cases q1:fits m.value w with
 | false=>rw [q1] at f1;simp [c_215,Xi.ce,hp,f1]
 | true=>
 rw [q1] at f1;cases q2:fits m.mask w with
 | false=>rw [q2] at f2;simp [c_215,Xi.ce,hp,f1,f2]
 | true=>
 rw [q2] at f2;by_cases z:iand .u32 m.value m.mask=m.value
 rotate_left
 ·have z':¬(m.value.toNat&&& m.mask.toNat=m.value.toNat):=fun h=>z (ha.2 h)
  simp [c_215,Xi.ce,hp,f1,f2,z,z']
 have z':=ha.1 z;by_cases k1:kind=1
 ·subst k1;by_cases y:m.mask=qbn w
  ·rw [y] at hp f2 z z';simp [c_215,Xi.ce,hp,f1,f2,z,z',hm,y]
  ·simp [c_215,Xi.ce,hp,f1,f2,z,z',hm,y]
 by_cases k2:kind=2
 ·subst k2;cases y:plE m.mask w with
  | none=>rw [y] at hp;simp [c_215,Xi.ce,f1,f2,z,z',hp]
  | some x=>rw [y] at hp;simp [c_215,Xi.ce,f1,f2,z,z',hp]
 simp [c_215,Xi.ce,hp,f1,f2,z,z',k1,k2]
structure EntS (x:Entry):Prop where
 kl:x.keys.length<2^40
 ks:∀m∈x.keys,ok32 0 m.value/\ok32 0 m.mask
 al:x.call.args.length<2^40
 ar:∀v∈x.call.args,ok32 0 v
def entF (p:Prg) (t:Int) (x:Entry):Int:=if x.Xt<0 then 9 else if 255<x.Xt then 9 else if x.Xt≠0/\qff p t≠3 then 11 else if tAl p t x.call.action=false then 8 else qc2 p x.call
def entG (p:Prg) (tb:Tbl) (x:Entry) (i:Nat):Option Int:=match x.keys[i]?,tb.keys[i]? with
 | some m,some k=>if keyK m k.kind (wid p k.field.header k.field.field)=0 then none else some (keyK m k.kind (wid p k.field.header k.field.field))
 | _,_=>none
def entE (p:Prg) (t:Int) (x:Entry):Int:=if (tblE p t).2≠0 then (tblE p t).2 else match at? p.Xn t with
 | some tb=>if x.keys.length≠tb.keys.length then 2 else (fe (entG p tb x) tb.keys.length 0).getD (entF p t x)
 | none=>0
theorem qyw (p:Prg) (f:PrgS p) (t:Int) (x:Entry) (s:EntS x) (e:Env) (n:Nat) (h1:look 1 e=some (.int .i64 t)) (h3:look 3 e=some (.iptr 9 [Prg.c p] 0 0)) (h5:look 5 e=some (.iptr 4 [Entry.c x] 0 0)):
  go Φ (finP [.tmp 6]) [.c c_127_k1] .normal ⟨e,⟨[],n⟩⟩=some (.val (.int .i64 (entF p t x))):=by
 have hk:=qx7 p f t;have ha:=qm8 p f t x.call.action;have hc:=qlr p f x.call s.al;simp only [Prg.e,Xb.ce] at hk ha hc;rw [Prg.e] at h3;rw [Entry.ce] at h5;unfold entF;by_cases p0:x.Xt<0
 ·simp [c_127_k1,h5,p0]
 by_cases p1:255<x.Xt
 ·simp [c_127_k1,h5,p0,p1]
 by_cases p2:x.Xt=0
 ·cases q:tAl p t x.call.action with
  | false=>rw [q] at ha;simp [c_127_k1,h1,h3,h5,p2,ha]
  | true=>rw [q] at ha;simp [c_127_k1,h1,h3,h5,p2,ha,hc]
 by_cases p3:qff p t=3
 ·cases q:tAl p t x.call.action with
  | false=>rw [q] at ha;simp [c_127_k1,h1,h3,h5,p0,p1,p2,p3,hk,ha]
  | true=>rw [q] at ha;simp [c_127_k1,h1,h3,h5,p0,p1,p2,p3,hk,ha,hc]
 ·simp [c_127_k1,h1,h3,h5,p0,p1,p2,p3,hk]
theorem qyv (p:Prg) (f:PrgS p) (t:Int) (x:Entry) (s:EntS x):qac Φ f_127 [.agg (Prg.c p),.int .i64 t,.agg (Entry.c x)]=some (.val (.int .i64 (entE p t x))):=by
 rw [qaa (fn:=c_127) rfl rfl];have h:=qsr p f t;simp only [Prg.e] at h;by_cases z:(tblE p t).2=0
 rotate_left
 ·simp [c_127,Prg.e,Entry.ce,h,z,entE]
 have q:tOk p t=true:=by simp [tOk,z]
 obtain ⟨k,hk,rfl,o⟩:=qgh q;have hw:=qud p f k hk q;simp only [Prg.e] at hw;have hb:=o.keys;by_cases y:x.keys.length=p.Xn[k].keys.length
 rotate_left
 ·simp [c_127,Prg.e,Entry.ce,Tbl.e,hk,h,z,hw,y,entE]
 have hE:entE p (k:Int) x=(fe (entG p p.Xn[k] x) p.Xn[k].keys.length 0).getD (entF p k x):=by simp [entE,z,hk,y]
 rw [hE];simp [c_127,Prg.e,Entry.ce,Tbl.e,hk,h,z,hw,y];refine qar p.Xn[k].keys.length (fun _=>[]) 0 (fun i e=>look 1 e=some (.int .i64 k)/\look 3 e=some (.iptr 9 [Prg.c p] 0 0)/\look 5 e=some (.iptr 4 [Entry.c x] 0 0)/\look 9 e=some (.slice 3 (p.Xn[k].keys.map Xl.c))/\look 10 e=some (.slice 1 ((kWid p p.Xn[k]).map cI))/\look 39 e=some (.slice 2 (x.keys.map Xi.c))/\look 40 e=some (.int .i64 p.Xn[k].keys.length)/\look 41 e=some (.int .i64 i))
  (fun i=>some (Rt.val (.int .i64 ((fe (entG p p.Xn[k] x) p.Xn[k].keys.length i).getD (entF p k x))))) ?_ ?_ 0 _ 0 (Qc _) (Qb _) ?_
 ·rintro i e n L hi hL _ ⟨h1,h3,h5,h9,h10,h39,h40,h41⟩ ih;have hi2:i<x.keys.length:=by omega
  have hi3:i<(kWid p p.Xn[k]).length:=by simp [kWid];exact hi
  have hkw:(kWid p p.Xn[k])[i]=wid p p.Xn[k].keys[i].field.header p.Xn[k].keys[i].field.field:=by simp [kWid]
  have hw:=qal i (by omega);have hm:=s.ks _ (Qd hi2);have hc:=qyu x.keys[i] p.Xn[k].keys[i].kind (wid p p.Xn[k].keys[i].field.header p.Xn[k].keys[i].field.field) hm.1 hm.2;simp only [Xi.ce] at hc;by_cases v:keyK x.keys[i] p.Xn[k].keys[i].kind (wid p p.Xn[k].keys[i].field.header p.Xn[k].keys[i].field.field)=0
  ·rw [qa8 hi (by simp [entG,hi,hi2,v])];rw [v] at hc;generalize hX:some (Rt.val (AV.int .i64 ((fe (entG p p.Xn[k] x) p.Xn[k].keys.length (i+1)).getD (entF p k x))))=X;simp [c_127_l0,Xl.e,Xi.ce,cI,h9,h10,h39,h40,h41,hi,hi2,hi3,hkw,hc,hw];rw [<- hX];exact ih _ _ (Qc _) ⟨by simp [h1],by simp [h3],by simp [h5],by simp [h9],by simp [h10],by simp [h39],by simp [h40],by simp⟩
  ·rw [qba (x:=keyK x.keys[i] p.Xn[k].keys[i].kind (wid p p.Xn[k].keys[i].field.header p.Xn[k].keys[i].field.field)) hi (by simp [entG,hi,hi2,v])];simp [c_127_l0,Xl.e,Xi.ce,cI,h9,h10,h39,h40,h41,hi,hi2,hi3,hkw,hc,v]
 ·rintro e n L hL _ ⟨h1,h3,h5,h9,h10,h39,h40,h41⟩;rw [qb9];simp [c_127_l0,h40,h41,hL];exact qyw p f k x s _ _ (by simp [h1]) (by simp [h3]) (by simp [h5])
 ·simp [Prg.e,Entry.ce]
theorem qxd (p:Prg) (f:PrgS p) (hv:∀t∈p.Xn,∀v∈t.dflt.args,ok32 0 v) (t:Int) (x:Entry) (s:EntS x) (e:Env) (n:Nat) (h1:look 1 e=some (.int .i64 t)) (h3:look 3 e=some (.iptr 9 [Prg.c p] 0 0)) (h5:look 5 e=some (.iptr 4 [Entry.c x] 0 0)):
  go Φ (finP [.tmp 6]) [.c c_146_k1] .normal ⟨e,⟨[],n⟩⟩=some (.val (.int .i64 (entF p t x))):=by
 have hk:=qxf p f hv t;have ha:=qmw p f hv t x.call.action;have hc:=qkg p f x.call s.al s.ar;simp only [Prg.e,Xb.ce] at hk ha hc;rw [Prg.e] at h3;rw [Entry.ce] at h5;unfold entF;by_cases p0:x.Xt<0
 ·simp [c_146_k1,h5,p0]
 by_cases p1:255<x.Xt
 ·simp [c_146_k1,h5,p0,p1]
 by_cases p2:x.Xt=0
 ·cases q:tAl p t x.call.action with
  | false=>rw [q] at ha;simp [c_146_k1,h1,h3,h5,p2,ha]
  | true=>rw [q] at ha;simp [c_146_k1,h1,h3,h5,p2,ha,hc]
 have p4:0<x.Xt:=by omega
 by_cases p3:qff p t=3
 ·cases q:tAl p t x.call.action with
  | false=>rw [q] at ha;simp [c_146_k1,h1,h3,h5,p0,p1,p2,p3,p4,hk,ha]
  | true=>rw [q] at ha;simp [c_146_k1,h1,h3,h5,p0,p1,p2,p3,p4,hk,ha,hc]
 ·simp [c_146_k1,h1,h3,h5,p0,p1,p2,p3,p4,hk]
theorem qxc (p:Prg) (f:PrgS p) (hv:∀t∈p.Xn,∀v∈t.dflt.args,ok32 0 v) (t:Int) (x:Entry) (s:EntS x):qac Φ f_146 [.agg (Prg.c p),.int .i64 t,.agg (Entry.c x)]=some (.val (.int .i64 (entE p t x))):=by
 rw [qaa (fn:=c_146) rfl rfl];have h:=qqr p f hv t;simp only [Prg.e] at h;by_cases z:(tblE p t).2=0
 rotate_left
 ·simp [c_146,Prg.e,Entry.ce,h,z,entE]
 have q:tOk p t=true:=by simp [tOk,z]
 obtain ⟨k,hk,rfl,o⟩:=qgh q;have hw:=qtx p f hv k hk q;simp only [Prg.e] at hw;have hb:=o.keys;have hkl:(kWid p p.Xn[k]).length=p.Xn[k].keys.length:=by simp [kWid]
 by_cases y:x.keys.length=p.Xn[k].keys.length
 rotate_left
 ·simp [c_146,Prg.e,Entry.ce,hk,h,z,hw,y,hkl,entE]
 have hE:entE p (k:Int) x=(fe (entG p p.Xn[k] x) p.Xn[k].keys.length 0).getD (entF p k x):=by simp [entE,z,hk,y]
 rw [hE];simp [c_146,Prg.e,Entry.ce,h,z,hw,y,hkl];refine qar p.Xn[k].keys.length (fun _=>[]) 0 (fun i e=>look 1 e=some (.int .i64 k)/\look 3 e=some (.iptr 9 [Prg.c p] 0 0)/\look 5 e=some (.iptr 4 [Entry.c x] 0 0)/\look 9 e=some (.slice 1 ((kWid p p.Xn[k]).map cI))/\look 10 e=some (.int .i64 i))
  (fun i=>some (Rt.val (.int .i64 ((fe (entG p p.Xn[k] x) p.Xn[k].keys.length i).getD (entF p k x))))) ?_ ?_ 0 _ 0 (Qc _) (Qb _) ?_
 ·rintro i e n L hi hL _ ⟨h1,h3,h5,h9,h10⟩ ih;have hi2:i<x.keys.length:=by omega
  have hi3:i<(kWid p p.Xn[k]).length:=by omega
  have hkw:(kWid p p.Xn[k])[i]=wid p p.Xn[k].keys[i].field.header p.Xn[k].keys[i].field.field:=by simp [kWid]
  have hw:=qal i (by omega);have hm:=s.ks _ (Qd hi2);have hc:=qzv x.keys[i] p.Xn[k].keys[i].kind (wid p p.Xn[k].keys[i].field.header p.Xn[k].keys[i].field.field) hm.1 hm.2;simp only [Xi.ce] at hc;rw [Prg.e] at h3;rw [Entry.ce] at h5;by_cases v:keyK x.keys[i] p.Xn[k].keys[i].kind (wid p p.Xn[k].keys[i].field.header p.Xn[k].keys[i].field.field)=0
  ·rw [qa8 hi (by simp [entG,hi,hi2,v])];rw [v] at hc;generalize hX:some (Rt.val (AV.int .i64 ((fe (entG p p.Xn[k] x) p.Xn[k].keys.length (i+1)).getD (entF p k x))))=X;simp [c_146_l0,Xl.e,Tbl.e,Xi.ce,cI,h1,h3,h5,h9,h10,hk,hkl,hi,hi2,hkw,hc,hw];rw [<- hX];exact ih _ _ (Qc _) ⟨by simp [h1],by simp [h3,Prg.e],by simp [h5,Entry.ce],by simp [h9],by simp⟩
  ·rw [qba (x:=keyK x.keys[i] p.Xn[k].keys[i].kind (wid p p.Xn[k].keys[i].field.header p.Xn[k].keys[i].field.field)) hi (by simp [entG,hi,hi2,v])];simp [c_146_l0,Xl.e,Tbl.e,Xi.ce,cI,h1,h3,h5,h9,h10,hk,hkl,hi,hi2,hkw,hc,v]
 ·rintro e n L hL _ ⟨h1,h3,h5,h9,h10⟩;rw [qb9];simp [c_146_l0,h9,h10,hkl,hL];exact qxd p f hv k x s _ _ (by simp [h1]) (by simp [h3]) (by simp [h5])
 ·simp [Prg.e,Entry.ce]
def qbz (p:Prg) (t:Int) (c:Xb):Int:=if tAl p t c.action=false then 8 else qc2 p c
theorem qxj (p:Prg) (f:PrgS p) (t:Int) (c:Xb) (hc:c.args.length<2^40):qac Φ f_131 [.agg (Prg.c p),.int .i64 t,.agg (Xb.c c)]=some (.val (.int .i64 (qbz p t c))):=by
 rw [qaa (fn:=c_131) rfl rfl];have ha:=qm8 p f t c.action;have hk:=qlr p f c hc;simp only [Prg.e,Xb.ce] at ha hk;cases q:tAl p t c.action with
 | false=>rw [q] at ha;simp [c_131,Prg.e,Xb.ce,ha,qbz,q]
 | true=>rw [q] at ha;simp [c_131,Prg.e,Xb.ce,ha,hk,qbz,q]
theorem qxa (p:Prg) (f:PrgS p) (hv:∀t∈p.Xn,∀v∈t.dflt.args,ok32 0 v) (t:Int) (c:Xb) (hc:c.args.length<2^40) (hr:∀v∈c.args,ok32 0 v):qac Φ f_90 [.agg (Prg.c p),.int .i64 t,.agg (Xb.c c)]=some (.val (.int .i64 (qbz p t c))):=by
 rw [qaa (fn:=c_90) rfl rfl];have ha:=qmw p f hv t c.action;have hk:=qkg p f c hc hr;simp only [Prg.e,Xb.ce] at ha hk;cases q:tAl p t c.action with
 | false=>rw [q] at ha;simp [c_90,Prg.e,Xb.ce,ha,qbz,q]
 | true=>rw [q] at ha;simp [c_90,Prg.e,Xb.ce,ha,hk,qbz,q]
def sk (x y:Entry):Bool:=decide (x.keys=y.keys/\x.Xt=y.Xt)
theorem qaa6 (x y:Entry) (hb:x.keys.length<2^40):qac Φ f_130 [.agg [.slice 2 (x.keys.map Xi.c),.int .i64 x.Xt,.int .i64 x.call.action,.slice 1 (x.call.args.map c32)],.agg [.slice 2 (y.keys.map Xi.c),.int .i64 y.Xt,.int .i64 y.call.action,.slice 1 (y.call.args.map c32)]]=some (.val (.bool (sk x y))):=qrj _ _ _ _ _ _ hb
theorem qacm (x y:Entry) (hb:x.keys.length<2^40):qac Φ f_217 [.agg [.slice 2 (x.keys.map Xi.c),.int .i64 x.Xt,.int .i64 x.call.action,.slice 1 (x.call.args.map c32)],.agg [.slice 2 (y.keys.map Xi.c),.int .i64 y.Xt,.int .i64 y.call.action,.slice 1 (y.call.args.map c32)]]=some (.val (.bool (sk x y))):=qgq _ _ _ _ _ _ hb
theorem qaa2 (x r:Rw) (hb:x.entry.keys.length<2^40):qac Φ f_129 [.agg (Rw.c x),.iptr 5 [Rw.c r] 0 0]=some (.val (.bool (sk x.entry r.entry))):=by
 rw [qaa (fn:=c_129) rfl rfl];have h:=qaa6 x.entry r.entry hb;simp [c_129,Rw.ce,h]
theorem qu5 (l:List Rw) (r:Rw) (hl:l.length<2^40) (hs:∀x∈l,x.entry.keys.length<2^40):qac Φ f_188 [.slice 5 (l.map Rw.c),.func (.func f_129) [] [.iptr 5 [Rw.c r] 0 0]]=some (.val (.int .i64 (ix (fun x=>sk x.entry r.entry) l 0))):=by
 rw [qaa (fn:=c_188) rfl rfl];simp [c_188];refine (qbh l.length (fun i e=>look 0 e=some (.slice 5 (l.map Rw.c))/\look 1 e=some (.func (.func f_129) [] [.iptr 5 [Rw.c r] 0 0])/\look 7 e=some (.int .i64 l.length)/\look 8 e=some (.int .i64 i))
  (fun i=>some (.val (.int .i64 (ix (fun x=>sk x.entry r.entry) l i)))) ?_ ?_ 0 _ (Qc _) ?_).trans (by simp)
 ·rintro i e L hi hL ⟨h0,h1,h7,h8⟩ ih;have hw:=qal i (by omega);have hd:=qaa2 l[i] r (hs _ (Qd hi));simp only [Rw.ce] at hd h1;cases z:sk l[i].entry r.entry with
  | true=>
   rw [qp8 hi (by simpa using z)];rw [z] at hd;simp [c_188_l0,Rw.ce,h0,h1,h7,h8,hi,hd]
  | false=>
   rw [qnn hi (by simpa using z)];rw [z] at hd;simp [c_188_l0,Rw.ce,h0,h1,h7,h8,hi,hd,hw];exact ih _ ⟨by simp [h0],by simp [h1,Rw.ce],by simp [h7],by simp⟩
 ·rintro e L hL ⟨h0,h1,h7,h8⟩;rw [qp7];simp [c_188_l0,c_188_k1,h7,h8,hL]
 ·simp
theorem quq (l:List Rw) (r:Rw) (hl:l.length<2^40) (hs:∀x∈l,x.entry.keys.length<2^40):qac Φ f_128 [.slice 5 (l.map Rw.c),.func (.func f_129) [] [.iptr 5 [Rw.c r] 0 0]]=some (.val (.bool (l.any fun x=>sk x.entry r.entry))):=by
 rw [qaa (fn:=c_128) rfl rfl];have h:=qu5 l r hl hs;rw [<- qp6];simp [c_128,h]
theorem qx5 (l:List Rw) (x:Entry) (hl:l.length<2^40) (hs:∀x∈l,x.entry.keys.length<2^40):qac Φ f_147 [.slice 5 (l.map Rw.c),.agg (Entry.c x)]=some (.val (.bool (l.any fun y=>sk y.entry x))):=by
 rw [qaa (fn:=c_147) rfl rfl];generalize hY:some (Rt.val (AV.bool (l.any fun y=>sk y.entry x)))=Y;simp [c_147,Entry.ce];rw [show Y=some (Rt.val (AV.bool ((l.drop 0).any fun y=>sk y.entry x))) by rw [<- hY];simp];refine qbh l.length (fun i e=>look 0 e=some (.slice 5 (l.map Rw.c))/\look 3 e=some (.iptr 4 [Entry.c x] 0 0)/\look 5 e=some (.int .i64 i))
  (fun i=>some (Rt.val (.bool ((l.drop i).any fun y=>sk y.entry x)))) ?_ ?_ 0 _ (Qc _) ?_
 ·rintro i e L hi hL ⟨h0,h3,h5⟩ ih;have hw:=qal i (by omega);have hd:=qacm l[i].entry x (hs _ (Qd hi));rw [Entry.ce] at h3;rw [Qi hi,QB];cases z:sk l[i].entry x with
  | true=>
   rw [z] at hd;rw [QCb];simp [c_147_l0,Rw.ce,h0,h3,h5,hi,hd]
  | false=>
   rw [z] at hd;rw [QAw];generalize hX:some (Rt.val (AV.bool ((l.drop (i+1)).any fun y=>sk y.entry x)))=X;simp [c_147_l0,Rw.ce,h0,h3,h5,hi,hd,hw];rw [<- hX];exact ih _ ⟨by simp [h0],by simp [h3,Entry.ce],by simp⟩
 ·rintro e L hL ⟨h0,h3,h5⟩;simp [c_147_l0,c_147_k1,h0,h5,hL]
 ·simp [Entry.ce]
def ordL:List Rw->Int->Option Int
 | [],a=>some a
 | r::l,a=>if r.id<=a then none else ordL l r.id
def rowG (p:Prg) (t:Int) (l:List Rw) (i:Nat):Option Int:=(l[i]?).bind fun r=>if entE p t r.entry≠0 then some (entE p t r.entry) else if (l.take i).any (fun y=>sk y.entry r.entry)=true then some 7 else none
def tabK (p:Prg) (t:Int) (l:List Rw) (next:Int) (z:Int):Option Int->Int
 | none=>14
 | some a=>if next<=a then 14 else if 1073741824<next then 14 else (fe (rowG p t l) l.length 0).getD z
def rowS (r:Rw):Prop:=EntS r.entry
theorem ct_b (p:Prg) (f:PrgS p) (t:Int) (l:List Rw) (next:Int) (d:Xb) (hl:l.length<2^40) (hs:∀r∈l,rowS r) (hd:d.args.length<2^40) (a:Int) (ha:0<=a) (e:Env) (n:Nat)
  (h1:look 1 e=some (.int .i64 t)) (h2:look 2 e=some (.slice 5 (l.map Rw.c))) (h3:look 3 e=some (.int .i64 next)) (h5:look 5 e=some (.iptr 9 [Prg.c p] 0 0)) (h9:look 9 e=some (.iptr 2 [Xb.c d] 0 0)) (h11:look 11 e=some (.int .i64 a)):
  go Φ (finP [.tmp 10]) [.c c_81_k3] .normal ⟨e,⟨[],n⟩⟩=some (.val (.int .i64 (tabK p t l next (qbz p t d) (some a)))):=by
 unfold tabK;dsimp only;by_cases z0:next<=a
 ·simp [c_81_k3,h3,h11,z0]
 have z1:¬next<1:=by omega
 by_cases z2:1073741824<next
 ·simp [c_81_k3,h3,h11,z0,z1,z2]
 rw [QA z0,QA z2];simp [c_81_k3,h2,h3,h11,z0,z1,z2];refine qar l.length (fun _=>[]) 0 (fun i e=>look 1 e=some (.int .i64 t)/\look 2 e=some (.slice 5 (l.map Rw.c))/\look 5 e=some (.iptr 9 [Prg.c p] 0 0)/\look 9 e=some (.iptr 2 [Xb.c d] 0 0)/\look 50 e=some (.slice 5 (l.map Rw.c))/\look 51 e=some (.int .i64 l.length)/\look 52 e=some (.int .i64 i))
  (fun i=>some (Rt.val (.int .i64 ((fe (rowG p t l) l.length i).getD (qbz p t d))))) ?_ ?_ 0 _ n (Qc _) (Qc _) ?_
 ·rintro i e n L hi hL _ ⟨h1,h2,h5,h9,h50,h51,h52⟩ ih;have hw:=qal i (by omega);have hm:=hs _ (Qd hi);have hc:=qyv p f t l[i].entry hm;have hi':i<=l.length:=by omega
  have hx:qac Φ f_128 [.slice 5 ((l.map Rw.c).take i),.func (.func f_129) [] [.iptr 5 [Rw.c l[i]] 0 0]]=some (.val (.bool ((l.take i).any fun x=>sk x.entry l[i].entry))):=by
   rw [<- List.map_take];exact quq (l.take i) l[i] (by simp;omega) fun x hx=>(hs x (Qu hx)).kl
  simp only [Prg.e,Entry.ce] at hc;rw [Rw.ce] at hx;rw [Prg.e] at h5;by_cases v:entE p t l[i].entry=0
  ·rw [v] at hc;cases w:(l.take i).any fun x=>sk x.entry l[i].entry with
   | true=>
    rw [w] at hx;rw [qba (x:=(7:Int)) hi (by simp only [rowG,Qa hi,QAn];rw [QA (by simp [v]),QAb w])];simp [c_81_l1,Rw.ce,h1,h2,h5,h50,h51,h52,hi,hi',hc,hx]
   | false=>
    rw [w] at hx;rw [qa8 hi (by simp only [rowG,Qa hi,QAn];rw [QA (by simp [v]),QA (by rw [w];decide)])];generalize hX:some (Rt.val (AV.int .i64 ((fe (rowG p t l) l.length (i+1)).getD (qbz p t d))))=X;simp [c_81_l1,Rw.ce,h1,h2,h5,h50,h51,h52,hi,hi',hc,hx,hw];rw [<- hX];exact ih _ _ (Qc _) ⟨by simp [h1],by simp [h2],by simp [h5,Prg.e],by simp [h9],by simp [h50],by simp [h51],by simp⟩
  ·rw [qba (x:=entE p t l[i].entry) hi (by simp only [rowG,Qa hi,QAn];rw [QAb v])];simp [c_81_l1,Rw.ce,h1,h5,h50,h51,h52,hi,hc,v]
 ·rintro e n L hL _ ⟨h1,h2,h5,h9,h50,h51,h52⟩;have hk:=qxj p f t d hd;simp only [Prg.e,Xb.ce] at hk;rw [Prg.e] at h5;rw [Xb.ce] at h9;rw [qb9];simp [c_81_l1,c_81_k2,h1,h5,h9,h51,h52,hL,hk]
 ·simp [h1,h2,h5,h9]
theorem qyt (p:Prg) (f:PrgS p) (k:Nat) (hk:k<p.Xn.length) (l:List Rw) (next:Int) (d:Xb) (hl:l.length<2^40) (hs:∀r∈l,rowS r) (hd:d.args.length<2^40):
  qac Φ f_81 [.agg (Prg.c p),.int .i64 k,.slice 5 (l.map Rw.c),.int .i64 next,.agg (Xb.c d)]=some (.val (.int .i64 (if p.Xn[k].size<l.length then 12 else tabK p k l next (qbz p k d) (ordL l 0)))):=by
 rw [qaa (fn:=c_81) rfl rfl];by_cases z:p.Xn[k].size<(l.length:Int)
 ·simp [c_81,Prg.e,Xb.ce,Tbl.e,hk,z]
 rw [QA z];simp [c_81,Prg.e,Xb.ce,Tbl.e,hk,z];refine qar l.length (fun _=>[]) 0 (fun i e=>look 1 e=some (.int .i64 k)/\look 2 e=some (.slice 5 (l.map Rw.c))/\look 3 e=some (.int .i64 next)/\look 5 e=some (.iptr 9 [Prg.c p] 0 0)/\look 9 e=some (.iptr 2 [Xb.c d] 0 0)/\look 26 e=some (.slice 5 (l.map Rw.c))/\look 27 e=some (.int .i64 l.length)/\look 28 e=some (.int .i64 i)/\∃a:Int,look 11 e=some (.int .i64 a)/\0<=a/\ordL (l.drop i) a=ordL l 0)
  (fun _=>some (Rt.val (.int .i64 (tabK p k l next (qbz p k d) (ordL l 0))))) ?_ ?_ 0 _ 0 (Qc _) (Qc _) ?_
 ·rintro i e n L hi hL _ ⟨h1,h2,h3,h5,h9,h26,h27,h28,a,h11,ha,ho⟩ ih;have hw:=qal i (by omega);rw [Qi hi] at ho;simp only [ordL] at ho;by_cases y:l[i].id<=a
  ·rw [QAb y] at ho;rw [<- ho];simp [c_81_l0,Rw.ce,h26,h27,h28,h11,hi,y,tabK]
  ·rw [QA y] at ho;generalize hX:some (Rt.val (AV.int .i64 (tabK p k l next (qbz p k d) (ordL l 0))))=X;simp [c_81_l0,Rw.ce,h26,h27,h28,h11,hi,y,hw];rw [<- hX];exact ih _ _ (Qc _) ⟨by simp [h1],by simp [h2],by simp [h3],by simp [h5],by simp [h9],by simp [h26],by simp [h27],by simp,l[i].id,by simp,by omega,ho⟩
 ·rintro e n L hL _ ⟨h1,h2,h3,h5,h9,h26,h27,h28,a,h11,ha,ho⟩;rw [QBo] at ho;simp only [ordL] at ho;rw [<- ho];generalize hX:some (Rt.val (AV.int .i64 (tabK p k l next (qbz p k d) (some a))))=X;simp [c_81_l0,h27,h28,hL];rw [<- hX];exact ct_b p f k l next d hl hs hd a ha _ _ (by simp [h1]) (by simp [h2]) (by simp [h3]) (by simp [h5]) (by simp [h9]) (by simp [h11])
 ·simp [Prg.e,Xb.ce]
theorem rt_b (p:Prg) (f:PrgS p) (hv:∀t∈p.Xn,∀v∈t.dflt.args,ok32 0 v) (t:Int) (l:List Rw) (next:Int) (hl:l.length<2^40) (hs:∀r∈l,rowS r) (a:Int) (e:Env) (n:Nat)
  (h1:look 1 e=some (.int .i64 t)) (h2:look 2 e=some (.slice 5 (l.map Rw.c))) (h3:look 3 e=some (.int .i64 next)) (h4:look 4 e=some (.iptr 9 [Prg.c p] 0 0)) (h9:look 9 e=some (.int .i64 a)):
  go Φ (finP [.tmp 8]) [.c c_89_k3] .normal ⟨e,⟨[],n⟩⟩=some (.val (.int .i64 (tabK p t l next 0 (some a)))):=by
 unfold tabK;dsimp only;by_cases z0:next<=a
 ·simp [c_89_k3,h3,h9,z0]
 by_cases z2:1073741824<next
 ·simp [c_89_k3,h3,h9,z0,z2]
 rw [QA z0,QA z2];simp [c_89_k3,h3,h9,z0,z2];refine qar l.length (fun _=>[]) 0 (fun i e=>look 1 e=some (.int .i64 t)/\look 2 e=some (.slice 5 (l.map Rw.c))/\look 4 e=some (.iptr 9 [Prg.c p] 0 0)/\look 11 e=some (.int .i64 i))
  (fun i=>some (Rt.val (.int .i64 ((fe (rowG p t l) l.length i).getD 0)))) ?_ ?_ 0 _ n (Qc _) (Qc _) ?_
 ·rintro i e n L hi hL _ ⟨h1,h2,h4,h11⟩ ih;have hw:=qal i (by omega);have hm:=hs _ (Qd hi);have hc:=qxc p f hv t l[i].entry hm;have hi':i<=l.length:=by omega
  have hx:qac Φ f_147 [.slice 5 ((l.map Rw.c).take i),.agg (Entry.c l[i].entry)]=some (.val (.bool ((l.take i).any fun x=>sk x.entry l[i].entry))):=by
   rw [<- List.map_take];exact qx5 (l.take i) l[i].entry (by simp;omega) fun x hx=>(hs x (Qu hx)).kl
  simp only [Prg.e,Entry.ce] at hc;rw [Entry.ce] at hx;rw [Prg.e] at h4;by_cases v:entE p t l[i].entry=0
  ·rw [v] at hc;cases w:(l.take i).any fun x=>sk x.entry l[i].entry with
   | true=>
    rw [w] at hx;rw [qba (x:=(7:Int)) hi (by simp only [rowG,Qa hi,QAn];rw [QA (by simp [v]),QAb w])];simp [c_89_l1,Rw.ce,h1,h2,h4,h11,hi,hi',hc,hx]
   | false=>
    rw [w] at hx;rw [qa8 hi (by simp only [rowG,Qa hi,QAn];rw [QA (by simp [v]),QA (by rw [w];decide)])];generalize hX:some (Rt.val (AV.int .i64 ((fe (rowG p t l) l.length (i+1)).getD 0)))=X;simp [c_89_l1,Rw.ce,h1,h2,h4,h11,hi,hi',hc,hx,hw];rw [<- hX];exact ih _ _ (Qc _) ⟨by simp [h1],by simp [h2],by simp [h4,Prg.e],by simp⟩
  ·rw [qba (x:=entE p t l[i].entry) hi (by simp only [rowG,Qa hi,QAn];rw [QAb v])];simp [c_89_l1,Rw.ce,h1,h2,h4,h11,hi,hc,v]
 ·rintro e n L hL _ ⟨h1,h2,h4,h11⟩;rw [qb9];simp [c_89_l1,c_89_k2,h2,h11,hL]
 ·simp [h1,h2,h4]
theorem qxi (p:Prg) (f:PrgS p) (hv:∀t∈p.Xn,∀v∈t.dflt.args,ok32 0 v) (k:Nat) (hk:k<p.Xn.length) (l:List Rw) (next:Int) (hl:l.length<2^40) (hs:∀r∈l,rowS r):
  qac Φ f_89 [.agg (Prg.c p),.int .i64 k,.slice 5 (l.map Rw.c),.int .i64 next]=some (.val (.int .i64 (if p.Xn[k].size<l.length then 12 else tabK p k l next 0 (ordL l 0)))):=by
 rw [qaa (fn:=c_89) rfl rfl];by_cases z:p.Xn[k].size<(l.length:Int)
 ·simp [c_89,Prg.e,Tbl.e,hk,z]
 rw [QA z];simp [c_89,Prg.e,Tbl.e,hk,z];refine qar l.length (fun _=>[]) 0 (fun i e=>look 1 e=some (.int .i64 k)/\look 2 e=some (.slice 5 (l.map Rw.c))/\look 3 e=some (.int .i64 next)/\look 4 e=some (.iptr 9 [Prg.c p] 0 0)/\look 10 e=some (.int .i64 i)/\∃a:Int,look 9 e=some (.int .i64 a)/\ordL (l.drop i) a=ordL l 0)
  (fun _=>some (Rt.val (.int .i64 (tabK p k l next 0 (ordL l 0))))) ?_ ?_ 0 _ 0 (Qc _) (Qc _) ?_
 ·rintro i e n L hi hL _ ⟨h1,h2,h3,h4,h10,a,h9,ho⟩ ih;have hw:=qal i (by omega);rw [Qi hi] at ho;simp only [ordL] at ho;by_cases y:l[i].id<=a
  ·rw [QAb y] at ho;rw [<- ho];simp [c_89_l0,Rw.ce,h2,h10,h9,hi,y,tabK]
  ·rw [QA y] at ho;generalize hX:some (Rt.val (AV.int .i64 (tabK p k l next 0 (ordL l 0))))=X;simp [c_89_l0,Rw.ce,h2,h10,h9,hi,y,hw];rw [<- hX];exact ih _ _ (Qc _) ⟨by simp [h1],by simp [h2],by simp [h3],by simp [h4],by simp,l[i].id,by simp,ho⟩
 ·rintro e n L hL _ ⟨h1,h2,h3,h4,h10,a,h9,ho⟩;rw [QBo] at ho;simp only [ordL] at ho;rw [<- ho];generalize hX:some (Rt.val (AV.int .i64 (tabK p k l next 0 (some a))))=X;simp [c_89_l0,h2,h10,hL];rw [<- hX];exact rt_b p f hv k l next hl hs a _ _ (by simp [h1]) (by simp [h2]) (by simp [h3]) (by simp [h4]) (by simp [h9])
 ·simp [Prg.e]
def mxF:List Int->Int->Int
 | [],a=>a
 | x::r,a=>mxF r (max a x)
theorem qvb (M:Int):∀(l:List Int) (a:Int),M<mxF l a↔M<a\/∃x∈l,M<x
 | [],a=>by simp [mxF]
 | x::r,a=>by
  have ih:=qvb M r (max a x);simp only [mxF,ih,QAm,exists_eq_or_imp];constructor
  ·rintro (h | h)
   ·by_cases q:M<a
    ·exact .inl q
    ·exact .inr (.inl (by omega))
   ·exact .inr (.inr h)
  ·rintro (h | h | h)
   ·exact .inl (by omega)
   ·exact .inl (by omega)
   ·exact .inr h
theorem qabl (l:List Int) (h0:0<l.length) (hl:l.length<2^40):qac Φ f_132 [.slice 1 (l.map c32)]=some (.val (.int .u32 (mxF l.tail l[0]))):=by
 rw [qaa (fn:=c_132) rfl rfl];have h1:¬(l.length:Int)<1:=by omega
 simp [c_132,h0,h1,c32];refine qar l.length (fun _=>[]) 0 (fun i e=>look 0 e=some (.slice 1 (l.map c32))/\look 4 e=some (.int .i64 i)/\∃a:Int,look 3 e=some (.int .u32 a)/\mxF (l.drop i) a=mxF l.tail l[0])
  (fun _=>some (Rt.val (.int .u32 (mxF l.tail l[0])))) ?_ ?_ 1 _ 0 (by omega) (Qc _) ?_
 ·rintro i e n L hi hL _ ⟨h0,h4,a,h3,hm⟩ ih;have hw:=qal i (by omega);rw [Qi hi] at hm;simp only [mxF] at hm;generalize hX:some (Rt.val (AV.int .u32 (mxF l.tail l[0])))=X;simp [c_132_l0,c32,h0,h4,h3,hi,hw];rw [<- hX];exact ih _ _ (Qc _) ⟨by simp [h0],by simp,max a l[i],by simp;split<;>omega,hm⟩
 ·rintro e n L hL _ ⟨h0,h4,a,h3,hm⟩;rw [QBo] at hm;simp only [mxF] at hm;rw [<- hm];simp [c_132_l0,c_132_k1,h0,h4,h3,hL]
 ·simp
def szG (p:Prg) (rs:List (List Int)) (i:Nat):Option Int:=match rs[i]?,p.Xm[i]? with
 | some l,some r=>if (l.length:Int)=r.size then none else some 2
 | _,_=>none
def vlG (p:Prg) (rs:List (List Int)) (i:Nat):Option Int:=match rs[i]?,p.Xm[i]? with
 | some l,some r=>if l.any (fun v=>decide (qbn r.width<v))=true then some 9 else none
 | _,_=>none
def conE (p:Prg) (rs:List (List Int)):Int:=if rs.length≠p.Xm.length then 2 else (fe (szG p rs) rs.length 0).getD ((fe (vlG p rs) rs.length 0).getD 0)
theorem con_b (p:Prg) (f:PrgS p) (rs:List (List Int)) (hl:rs.length<2^40) (hs:∀l∈rs,l.length<2^40) (hz:rs.length=p.Xm.length) (e:Env) (n:Nat)
  (h1:look 1 e=some (.slice 1 (rs.map (cS 1 c32)))) (h2:look 2 e=some (.iptr 9 [Prg.c p] 0 0)):
  go Φ (finP [.tmp 4]) [.c c_82_k3] .normal ⟨e,⟨[],n⟩⟩=some (.val (.int .i64 ((fe (vlG p rs) rs.length 0).getD 0))):=by
 simp [c_82_k3,h1];refine qar rs.length (fun _=>[]) 0 (fun i e=>look 2 e=some (.iptr 9 [Prg.c p] 0 0)/\look 32 e=some (.slice 1 (rs.map (cS 1 c32)))/\look 33 e=some (.int .i64 rs.length)/\look 34 e=some (.int .i64 i))
  (fun i=>some (Rt.val (.int .i64 ((fe (vlG p rs) rs.length i).getD 0)))) ?_ ?_ 0 _ n (Qc _) (Qc _) ?_
 ·rintro i e n L hi hL _ ⟨h2,h32,h33,h34⟩ ih;have hw:=qal i (by omega);have hi2:i<p.Xm.length:=by omega
  have hm:=qg5 p.Xm[i].width;rw [Prg.e] at h2;by_cases e0:rs[i].length=0
  ·have e1:rs[i]=[]:=Qg e0;rw [qa8 hi (by simp [vlG,hi,hi2,e1])];generalize hX:some (Rt.val (AV.int .i64 ((fe (vlG p rs) rs.length (i+1)).getD 0)))=X;simp [c_82_l1,cSe,h32,h33,h34,hi,hw,e1];rw [<- hX];exact ih _ _ (Qc _) ⟨by simp [h2,Prg.e],by simp [h32],by simp [h33],by simp⟩
  have e1:0<rs[i].length:=by omega
  have hx:=qabl rs[i] e1 (hs _ (Qd hi));have hy:rs[i].any (fun v=>decide (qbn p.Xm[i].width<v))=decide (qbn p.Xm[i].width<mxF rs[i].tail rs[i][0]):=by
   rw [Bool.eq_iff_iff,decide_eq_true_eq,qvb,QCh];have hd:rs[i]=rs[i][0]::rs[i].tail:=by
    have:=Qi e1;simpa using this
   constructor
   ·rintro ⟨x,hx,hv⟩;rw [hd] at hx;rcases QAm.1 hx with rfl | hx
    ·exact .inl (of_decide_eq_true hv)
    ·exact .inr ⟨x,hx,of_decide_eq_true hv⟩
   ·rintro (h | ⟨x,hx,hv⟩)
    ·exact ⟨_,Qd e1,decide_eq_true h⟩
    ·exact ⟨x,List.mem_of_mem_tail hx,decide_eq_true hv⟩
  by_cases v:qbn p.Xm[i].width<mxF rs[i].tail rs[i][0]
  ·rw [qba (x:=(9:Int)) hi (by simp only [vlG,Qa hi,Qa hi2];rw [hy,QAb (decide_eq_true v)])];simp [c_82_l1,cSe,Xh.e,h2,h32,h33,h34,hi,hi2,e1,hx,hm,v]
  ·rw [qa8 hi (by simp only [vlG,Qa hi,Qa hi2];rw [hy,QA (by simpa using v)])];generalize hX:some (Rt.val (AV.int .i64 ((fe (vlG p rs) rs.length (i+1)).getD 0)))=X;simp [c_82_l1,cSe,Xh.e,h2,h32,h33,h34,hi,hi2,e1,hx,hm,v,hw];rw [<- hX];exact ih _ _ (Qc _) ⟨by simp [h2,Prg.e],by simp [h32],by simp [h33],by simp⟩
 ·rintro e n L hL _ ⟨h2,h32,h33,h34⟩;rw [qb9];simp [c_82_l1,c_82_k2,h33,h34,hL]
 ·simp [h2]
theorem qyr (p:Prg) (f:PrgS p) (rs:List (List Int)) (hl:rs.length<2^40) (hs:∀l∈rs,l.length<2^40):qac Φ f_82 [.agg (Prg.c p),.slice 1 (rs.map (cS 1 c32))]=some (.val (.int .i64 (conE p rs))):=by
 rw [qaa (fn:=c_82) rfl rfl];unfold conE;by_cases z:rs.length=p.Xm.length
 rotate_left
 ·simp [c_82,Prg.e,z]
 rw [QA (by simpa using z)];generalize hY:some (Rt.val (AV.int .i64 ((fe (szG p rs) rs.length 0).getD ((fe (vlG p rs) rs.length 0).getD 0))))=Y;simp [c_82,Prg.e,z];rw [<- hY];refine qar rs.length (fun _=>[]) 0 (fun i e=>look 1 e=some (.slice 1 (rs.map (cS 1 c32)))/\look 2 e=some (.iptr 9 [Prg.c p] 0 0)/\look 15 e=some (.slice 1 (rs.map (cS 1 c32)))/\look 16 e=some (.int .i64 rs.length)/\look 17 e=some (.int .i64 i))
  (fun i=>some (Rt.val (.int .i64 ((fe (szG p rs) rs.length i).getD ((fe (vlG p rs) rs.length 0).getD 0))))) ?_ ?_ 0 _ 0 (Qc _) (Qc _) ?_
 ·rintro i e n L hi hL _ ⟨h1,h2,h15,h16,h17⟩ ih;have hw:=qal i (by omega);have hi2:i<p.Xm.length:=by omega
  rw [Prg.e] at h2;by_cases v:(rs[i].length:Int)=p.Xm[i].size
  ·rw [qa8 hi (by simp [szG,hi,hi2,v])];generalize hX:some (Rt.val (AV.int .i64 ((fe (szG p rs) rs.length (i+1)).getD ((fe (vlG p rs) rs.length 0).getD 0))))=X;simp [c_82_l0,cSe,Xh.e,h2,h15,h16,h17,hi,hi2,v,hw];rw [<- hX];exact ih _ _ (Qc _) ⟨by simp [h1],by simp [h2,Prg.e],by simp [h15],by simp [h16],by simp⟩
  ·rw [qba (x:=(2:Int)) hi (by simp [szG,hi,hi2,v])];simp [c_82_l0,cSe,Xh.e,h2,h15,h16,h17,hi,hi2,v]
 ·rintro e n L hL _ ⟨h1,h2,h15,h16,h17⟩;rw [qb9];generalize hX:some (Rt.val (AV.int .i64 ((none:Option Int).getD ((fe (vlG p rs) rs.length 0).getD 0))))=X;simp [c_82_l0,h16,h17,hL];rw [<- hX];exact con_b p f rs hl hs z _ _ (by simp [h1]) (by simp [h2])
 ·simp [Prg.e,z]
def wd (w:Int):Nat:=if wBad w then 0 else w.toNat
theorem wd_le (w:Int):wd w<=32:=by
 unfold wd;cases q:wBad w with
 | true=>simp
 | false=>
  obtain ⟨w1,w2⟩:=wBad_false.1 q;simp;omega
theorem qqd (w v:Int):qbn w<v↔¬v<2^wd w:=by
 unfold qbn wd;cases q:wBad w with
 | true=>simp;omega
 | false=>simp;omega
theorem qacn (r:Xh):qac Φ f_151 [.agg (Xh.c r)]=some (.val (.int .i64 (wd r.width))):=by
 rw [qaa (fn:=c_151) rfl rfl];by_cases h1:r.width<1
 ·simp [c_151,Xh.e,h1,wd,wBad]
 by_cases h2:32<r.width
 ·simp [c_151,Xh.e,h1,h2,wd,wBad]
 simp [c_151,Xh.e,h1,h2,wd,wBad];omega
theorem qab1 (p:Prg) (rs:List (List Int)) (hl:rs.length<2^40) (hs:∀l∈rs,l.length<2^40/\∀v∈l,ok32 0 v) (hz:rs.length=p.Xm.length) (e:Env) (n:Nat)
  (h1:look 1 e=some (.slice 1 (rs.map (cS 1 c32)))) (h2:look 2 e=some (.iptr 9 [Prg.c p] 0 0)):
  go Φ (finP [.tmp 4]) [.c c_91_k5] .normal ⟨e,⟨[],n⟩⟩=some (.val (.int .i64 ((fe (vlG p rs) rs.length 0).getD 0))):=by
 simp [c_91_k5];refine qar rs.length (fun _=>[]) 0 (fun i e=>look 1 e=some (.slice 1 (rs.map (cS 1 c32)))/\look 2 e=some (.iptr 9 [Prg.c p] 0 0)/\look 6 e=some (.int .i64 i))
  (fun i=>some (Rt.val (.int .i64 ((fe (vlG p rs) rs.length i).getD 0)))) ?_ ?_ 0 _ n (Qc _) (Qc _) ?_
 ·rintro i e n L hi hL _ ⟨h1,h2,h6⟩ ih;have hw:=qal i (by omega);have hi2:i<p.Xm.length:=by omega
  have hm:=hs _ (Qd hi);have hwd:=qacn p.Xm[i];simp only [Xh.e] at hwd;have hV:fe (vlG p rs) rs.length i=if rs[i].any (fun v=>decide (qbn p.Xm[i].width<v))=true then some 9 else fe (vlG p rs) rs.length (i+1):=by
   by_cases y:rs[i].any (fun v=>decide (qbn p.Xm[i].width<v))=true
   ·rw [QAb y];exact qba hi (by simp only [vlG,Qa hi,Qa hi2];rw [QAb y])
   ·rw [QA y];exact qa8 hi (by simp only [vlG,Qa hi,Qa hi2];rw [QA y])
  generalize hX:some (Rt.val (AV.int .i64 ((fe (vlG p rs) rs.length (i+1)).getD 0)))=X at ih;generalize hY:some (Rt.val (AV.int .i64 ((fe (vlG p rs) rs.length i).getD 0)))=Y;have hYX:Y=if rs[i].any (fun v=>decide (qbn p.Xm[i].width<v))=true then some (Rt.val (AV.int .i64 9)) else X:=by
   rw [<- hY,<- hX,hV];split<;>rfl
  simp [c_91_l3,h1,h6,hi];refine (qar rs[i].length (fun _=>[]) 0 (fun j e=>look 1 e=some (.slice 1 (rs.map (cS 1 c32)))/\look 2 e=some (.iptr 9 [Prg.c p] 0 0)/\look 6 e=some (.int .i64 i)/\look 7 e=some (.int .i64 j))
   (fun j=>if (rs[i].drop j).any (fun v=>decide (qbn p.Xm[i].width<v))=true then some (Rt.val (AV.int .i64 9)) else X) ?_ ?_ 0 _ n (Qc _) (Qc _) ?_).trans (by rw [hYX,List.drop_zero])
  ·rintro j e n L' hj hL' _ ⟨h1,h2,h6,h7⟩ ih';have hw':=qal j (by omega);have hf:=qtr rs[i][j] (hm.2 _ (Qd hj)) (wd p.Xm[i].width) (wd_le _);rw [Prg.e] at h2;rw [Qi hj,QB];by_cases v:rs[i][j]<2^wd p.Xm[i].width
   ·rw [decide_eq_true v] at hf;rw [show decide (qbn p.Xm[i].width<rs[i][j])=false from decide_eq_false fun h=>(qqd _ _).1 h v,QAw];generalize hZ:(if (rs[i].drop (j+1)).any (fun v=>decide (qbn p.Xm[i].width<v))=true then some (Rt.val (AV.int .i64 9)) else X)=Z;simp [c_91_l1,cSe,c32,Xh.e,h1,h2,h6,h7,hi,hi2,hj,hwd,hf,hw'];rw [<- hZ];exact ih' _ _ (Qc _) ⟨by simp [h1],by simp [h2,Prg.e],by simp [h6],by simp⟩
   ·rw [decide_eq_false v] at hf;rw [show decide (qbn p.Xm[i].width<rs[i][j])=true from decide_eq_true ((qqd _ _).2 v),QCb,QAb rfl];simp [c_91_l1,cSe,c32,Xh.e,h1,h2,h6,h7,hi,hi2,hj,hwd,hf]
  ·rintro e n L' hL' _ ⟨h1,h2,h6,h7⟩;rw [QBo,List.any_nil,QA (by decide)];simp [c_91_l1,cSe,h1,h6,h7,hi,hL',c_91_k2,hw];exact ih _ _ (Qc _) ⟨by simp [h1],by simp [h2],by simp⟩
  ·simp [h1,h2,h6]
 ·rintro e n L hL _ ⟨h1,h2,h6⟩;rw [qb9];simp [c_91_l3,c_91_k4,h1,h6,hL]
 ·simp [h1,h2]
theorem qxb (p:Prg) (rs:List (List Int)) (hl:rs.length<2^40) (hs:∀l∈rs,l.length<2^40/\∀v∈l,ok32 0 v):qac Φ f_91 [.agg (Prg.c p),.slice 1 (rs.map (cS 1 c32))]=some (.val (.int .i64 (conE p rs))):=by
 rw [qaa (fn:=c_91) rfl rfl];unfold conE;by_cases z:rs.length=p.Xm.length
 rotate_left
 ·simp [c_91,Prg.e,z]
 rw [QA (by simpa using z)];generalize hY:some (Rt.val (AV.int .i64 ((fe (szG p rs) rs.length 0).getD ((fe (vlG p rs) rs.length 0).getD 0))))=Y;simp [c_91,Prg.e,z];rw [<- hY];refine qar rs.length (fun _=>[]) 0 (fun i e=>look 1 e=some (.slice 1 (rs.map (cS 1 c32)))/\look 2 e=some (.iptr 9 [Prg.c p] 0 0)/\look 5 e=some (.int .i64 i))
  (fun i=>some (Rt.val (.int .i64 ((fe (szG p rs) rs.length i).getD ((fe (vlG p rs) rs.length 0).getD 0))))) ?_ ?_ 0 _ 0 (Qc _) (Qc _) ?_
 ·rintro i e n L hi hL _ ⟨h1,h2,h5⟩ ih;have hw:=qal i (by omega);have hi2:i<p.Xm.length:=by omega
  rw [Prg.e] at h2;by_cases v:(rs[i].length:Int)=p.Xm[i].size
  ·rw [qa8 hi (by simp [szG,hi,hi2,v])];generalize hX:some (Rt.val (AV.int .i64 ((fe (szG p rs) rs.length (i+1)).getD ((fe (vlG p rs) rs.length 0).getD 0))))=X;simp [c_91_l0,cSe,Xh.e,h1,h2,h5,hi,hi2,v,hw];rw [<- hX];exact ih _ _ (Qc _) ⟨by simp [h1],by simp [h2,Prg.e],by simp⟩
  ·rw [qba (x:=(2:Int)) hi (by simp [szG,hi,hi2,v])];simp [c_91_l0,cSe,Xh.e,h1,h2,h5,hi,hi2,v]
 ·rintro e n L hL _ ⟨h1,h2,h5⟩;rw [qb9];generalize hX:some (Rt.val (AV.int .i64 ((none:Option Int).getD ((fe (vlG p rs) rs.length 0).getD 0))))=X;simp [c_91_l0,h1,h5,hL];rw [<- hX];exact qab1 p rs hl hs z _ _ (by simp [h1]) (by simp [h2])
 ·simp [Prg.e]
def PC (p:Prg):Prop:=qac Φ f_80 [.agg (Prg.c p)]=some (.val (.agg (dgC (prgD p))))/\qac Φ f_88 [.agg (Prg.c p)]=some (.val (.agg (dgC (prgD p))))
structure CfgT (a:Xf):Prop where
 rl:a.rows.length<2^40
 rs:∀l∈a.rows,l.length<2^40/\∀r∈l,rowS r
 nl:a.Xr.length<2^40
 dl:a.Xq.length<2^40
 ds:∀d∈a.Xq,d.args.length<2^40/\∀v∈d.args,ok32 0 v
 gl:a.Xm.length<2^40
 gs:∀l∈a.Xm,l.length<2^40/\∀v∈l,ok32 0 v
theorem qzw {B:Nat} (hB:B<2^40) {r:Rw} (o:r.Ok B):rowS r:=by
 simp only [Rw.Ok,Entry.Ok,Xb.Ok] at o;obtain ⟨_,o1,_,_,o2⟩:=o;exact ⟨by have:=o1.1;omega,fun m hm=>o1.2 m hm,by have:=o2.1;omega,fun v hv=>o2.2 v hv⟩
theorem qyd {a:Xf} (o:a.Ok qbw):CfgT a:=by
 obtain ⟨o0,o1,o2,o3⟩:=o;have e:=qe6;refine ⟨by have:=o0.1;omega,?_,by have:=o1.1;omega,by have:=o2.1;omega,?_,by have:=o3.1;omega,?_⟩
 ·intro l hl;have:=o0.2 l hl;exact ⟨by have:=this.1;omega,fun r hr=>qzw (by omega) (this.2 r hr)⟩
 ·intro d hd;have:=o2.2 d hd;simp only [Xb.Ok] at this;exact ⟨by have:=this.2.1;omega,fun v hv=>this.2.2 v hv⟩
 ·intro l hl;have:=o3.2 l hl;exact ⟨by have:=this.1;omega,fun v hv=>this.2 v hv⟩
def rowE (p:Prg) (k:Nat) (tb:Tbl) (l:List Rw) (nx:Int) (z:Int):Int:=if tb.size<l.length then 12 else tabK p k l nx z (ordL l 0)
theorem qacr (p:Prg) (t:Int) (l:List Rw) (nx z:Int) (o:Option Int):tabK p t l nx z o=if tabK p t l nx 0 o≠0 then tabK p t l nx 0 o else z:=by
 cases o with
 | none=>simp [tabK]
 | some a=>
  simp only [tabK];by_cases z0:nx<=a
  ·simp [z0]
  by_cases z1:1073741824<nx
  ·simp [z0,z1]
  simp only [QA z0,QA z1];cases q:fe (rowG p t l) l.length 0 with
  | none=>simp
  | some x=>
   have hx:x≠0:=by
    obtain ⟨k,hk,hx⟩:=qni q;simp only [rowG,Qt] at hx;obtain ⟨r,_,hr⟩:=hx;split at hr
    ·cases hr;assumption
    ·split at hr
     ·cases hr;decide
     ·cases hr
   simp [hx]
theorem qacj (p:Prg) (k:Nat) (tb:Tbl) (l:List Rw) (nx z:Int):rowE p k tb l nx z=if rowE p k tb l nx 0≠0 then rowE p k tb l nx 0 else z:=by
 unfold rowE;split
 ·simp
 ·exact qacr _ _ _ _ _ _
def stG (p:Prg) (c:Xf) (k:Nat):Option Int:=match p.Xn[k]?,c.rows[k]?,c.Xr[k]?,c.Xq[k]? with
 | some tb,some l,some nx,some d=>if rowE p k tb l nx (qbz p k d)=0 then none else some (rowE p k tb l nx (qbz p k d))
 | _,_,_,_=>none
def cfgE (p:Prg) (c:Xf):Int:=if (prgD p).1≠0 then (prgD p).1 else if c.rows.length≠p.Xn.length\/c.Xr.length≠p.Xn.length\/c.Xq.length≠p.Xn.length then 2
 else (fe (stG p c) p.Xn.length 0).getD (conE p c.Xm)
theorem qyo (p:Prg) (f:PrgS p) (hc:PC p) (c:Xf) (s:CfgT c):qac Φ f_35 [.agg (Prg.c p),.agg (Xf.c c)]=some (.val (.int .i64 (cfgE p c))):=by
 rw [qaa (fn:=c_35) rfl rfl];have h:=hc.1;simp only [Prg.e,dgC] at h;have ht:=f.t;by_cases z:(prgD p).1=0
 rotate_left
 ·simp [c_35,Prg.e,Xf.ce,h,z,cfgE]
 by_cases z1:c.rows.length=p.Xn.length
 rotate_left
 ·simp [c_35,Prg.e,Xf.ce,h,z,z1,cfgE]
 by_cases z2:c.Xr.length=p.Xn.length
 rotate_left
 ·simp [c_35,Prg.e,Xf.ce,h,z,z1,z2,cfgE]
 by_cases z3:c.Xq.length=p.Xn.length
 rotate_left
 ·simp [c_35,Prg.e,Xf.ce,h,z,z1,z2,z3,cfgE]
 rw [show cfgE p c=(fe (stG p c) p.Xn.length 0).getD (conE p c.Xm) by simp [cfgE,z,z1,z2,z3]];simp [c_35,Prg.e,Xf.ce,h,z,z1,z2,z3];refine qar p.Xn.length (fun _=>[]) 0 (fun i e=>look 2 e=some (.iptr 9 [Prg.c p] 0 0)/\look 3 e=some (.iptr 4 [Xf.c c] 0 0)/\look 38 e=some (.int .i64 p.Xn.length)/\look 39 e=some (.int .i64 i))
  (fun i=>some (Rt.val (.int .i64 ((fe (stG p c) p.Xn.length i).getD (conE p c.Xm))))) ?_ ?_ 0 _ _ (Qc _) (Qc _) ?_
 ·rintro i e n L hi hL _ ⟨h2,h3,h38,h39⟩ ih;have hw:=qal i (by omega);have i1:i<c.rows.length:=by omega
  have i2:i<c.Xr.length:=by omega
  have i3:i<c.Xq.length:=by omega
  have hr:=s.rs _ (Qd i1);have hd:=s.ds _ (Qd i3);have hk:=qyt p f i hi c.rows[i] c.Xr[i] c.Xq[i] hr.1 hr.2 hd.1;rw [show (if p.Xn[i].size<(c.rows[i].length:Int) then (12:Int) else tabK p i c.rows[i] c.Xr[i] (qbz p i c.Xq[i]) (ordL c.rows[i] 0))=rowE p i p.Xn[i] c.rows[i] c.Xr[i] (qbz p i c.Xq[i]) from rfl] at hk;simp only [Prg.e,Xb.ce] at hk;rw [Prg.e] at h2;rw [Xf.ce] at h3;by_cases v:rowE p i p.Xn[i] c.rows[i] c.Xr[i] (qbz p i c.Xq[i])=0
  ·rw [qa8 hi (by simp [stG,hi,i1,i2,i3,v])];rw [v] at hk;generalize hX:some (Rt.val (AV.int .i64 ((fe (stG p c) p.Xn.length (i+1)).getD (conE p c.Xm))))=X;simp [c_35_l0,cSe,cI,Xb.ce,h2,h3,h38,h39,hi,i1,i2,i3,hk,hw];rw [<- hX];exact ih _ _ (Qc _) ⟨by simp [h2,Prg.e],by simp [h3,Xf.ce],by simp [h38],by simp⟩
  ·rw [qba (x:=rowE p i p.Xn[i] c.rows[i] c.Xr[i] (qbz p i c.Xq[i])) hi (by simp [stG,hi,i1,i2,i3,v])];simp [c_35_l0,cSe,cI,Xb.ce,h2,h3,h38,h39,hi,i1,i2,i3,hk,v]
 ·rintro e n L hL _ ⟨h2,h3,h38,h39⟩;have hk:=qyr p f c.Xm s.gl fun l hl=>(s.gs l hl).1
  simp only [Prg.e] at hk;rw [Prg.e] at h2;rw [Xf.ce] at h3;rw [qb9];simp [c_35_l0,c_35_k1,h2,h3,h38,h39,hL,hk]
 ·simp [Prg.e,Xf.ce]
theorem qqk (p:Prg) (f:PrgS p) (hv:∀t∈p.Xn,∀v∈t.dflt.args,ok32 0 v) (hc:PC p) (c:Xf) (s:CfgT c):qac Φ f_40 [.agg (Prg.c p),.agg (Xf.c c)]=some (.val (.int .i64 (cfgE p c))):=by
 rw [qaa (fn:=c_40) rfl rfl];have h:=hc.2;simp only [Prg.e,dgC] at h;have ht:=f.t;by_cases z:(prgD p).1=0
 rotate_left
 ·simp [c_40,Prg.e,Xf.ce,h,z,cfgE]
 by_cases z1:c.rows.length=p.Xn.length
 rotate_left
 ·simp [c_40,Prg.e,Xf.ce,h,z,z1,cfgE]
 by_cases z2:c.Xr.length=p.Xn.length
 rotate_left
 ·simp [c_40,Prg.e,Xf.ce,h,z,z1,z2,cfgE]
 by_cases z3:c.Xq.length=p.Xn.length
 rotate_left
 ·simp [c_40,Prg.e,Xf.ce,h,z,z1,z2,z3,cfgE]
 rw [show cfgE p c=(fe (stG p c) p.Xn.length 0).getD (conE p c.Xm) by simp [cfgE,z,z1,z2,z3]];simp [c_40,Prg.e,Xf.ce,h,z,z1,z2,z3];refine qar p.Xn.length (fun _=>[]) 0 (fun i e=>look 2 e=some (.iptr 9 [Prg.c p] 0 0)/\look 3 e=some (.iptr 4 [Xf.c c] 0 0)/\look 5 e=some (.int .i64 p.Xn.length)/\look 6 e=some (.int .i64 i))
  (fun i=>some (Rt.val (.int .i64 ((fe (stG p c) p.Xn.length i).getD (conE p c.Xm))))) ?_ ?_ 0 _ _ (Qc _) (Qc _) ?_
 ·rintro i e n L hi hL _ ⟨h2,h3,h5,h6⟩ ih;have hw:=qal i (by omega);have i1:i<c.rows.length:=by omega
  have i2:i<c.Xr.length:=by omega
  have i3:i<c.Xq.length:=by omega
  have hr:=s.rs _ (Qd i1);have hd:=s.ds _ (Qd i3);have hk:=qxi p f hv i hi c.rows[i] c.Xr[i] hr.1 hr.2;have hq:=qxa p f hv i c.Xq[i] hd.1 hd.2;rw [show (if p.Xn[i].size<(c.rows[i].length:Int) then (12:Int) else tabK p i c.rows[i] c.Xr[i] 0 (ordL c.rows[i] 0))=rowE p i p.Xn[i] c.rows[i] c.Xr[i] 0 from rfl] at hk;simp only [Prg.e,Xb.ce] at hk hq;rw [Prg.e] at h2;rw [Xf.ce] at h3;have hz:=qacj p i p.Xn[i] c.rows[i] c.Xr[i] (qbz p i c.Xq[i]);by_cases v:rowE p i p.Xn[i] c.rows[i] c.Xr[i] 0=0
  ·rw [QA (by simpa using v)] at hz;rw [v] at hk;by_cases w:qbz p i c.Xq[i]=0
   ·rw [qa8 hi (by simp [stG,hi,i1,i2,i3,w,v])];rw [w] at hq;generalize hX:some (Rt.val (AV.int .i64 ((fe (stG p c) p.Xn.length (i+1)).getD (conE p c.Xm))))=X;simp [c_40_l0,cSe,cI,Xb.ce,h2,h3,h5,h6,hi,i1,i2,i3,hk,hq,hw];rw [<- hX];exact ih _ _ (Qc _) ⟨by simp [h2,Prg.e],by simp [h3,Xf.ce],by simp [h5],by simp⟩
   ·rw [qba (x:=qbz p i c.Xq[i]) hi (by simp [stG,hi,i1,i2,i3,hz,w])];simp [c_40_l0,cSe,cI,Xb.ce,h2,h3,h5,h6,hi,i1,i2,i3,hk,hq,w]
  ·rw [QAb v] at hz;rw [qba (x:=rowE p i p.Xn[i] c.rows[i] c.Xr[i] 0) hi (by simp [stG,hi,i1,i2,i3,hz,v])];simp [c_40_l0,cSe,cI,h2,h3,h5,h6,hi,i1,i2,hk,v]
 ·rintro e n L hL _ ⟨h2,h3,h5,h6⟩;have hk:=qxb p c.Xm s.gl s.gs;simp only [Prg.e] at hk;rw [Prg.e] at h2;rw [Xf.ce] at h3;rw [qb9];simp [c_40_l0,c_40_k1,h2,h3,h5,h6,hL,hk]
 ·simp [Prg.e,Xf.ce]
structure TabV (p:Prg) (k:Nat) (tb:Tbl) (l:List Rw) (nx:Int) (d:Xb):Prop where
 size:(l.length:Int)<=tb.size
 pos:∀r∈l,0<r.id
 lt:∀r∈l,r.id<nx
 inc:l.Pairwise (fun a b=>a.id<b.id)
 nx0:0<nx
 nx1:nx<=1073741824
 ent:∀r∈l,entE p k r.entry=0
 uniq:l.Pairwise (fun a b=>sk a.entry b.entry=false)
 dflt:qbz p k d=0
structure CfgV (p:Prg) (c:Xf):Prop where
 prg:(prgD p).1=0
 rl:c.rows.length=p.Xn.length
 nl:c.Xr.length=p.Xn.length
 dl:c.Xq.length=p.Xn.length
 tab:∀k tb l nx d,p.Xn[k]? =some tb->c.rows[k]? =some l->c.Xr[k]? =some nx->c.Xq[k]? =some d->TabV p k tb l nx d
 con:conE p c.Xm=0
section
variable {p:Prg} {c:Xf} {k:Nat}
theorem CfgV.at (v:CfgV p c) (h:k<p.Xn.length):TabV p k p.Xn[k] (c.rows[k]'(by rw [v.rl];exact h)) (c.Xr[k]'(by rw [v.nl];exact h)) (c.Xq[k]'(by rw [v.dl];exact h)):=
 v.tab k _ _ _ _ (Qa h) (Qa (by rw [v.rl];exact h)) (Qa (by rw [v.nl];exact h)) (Qa (by rw [v.dl];exact h))
theorem CfgV.upd (v:CfgV p c) (h:k<p.Xn.length) {l:List Rw} {nx:Int} {d:Xb} {R:List (List Rw)} {N:List Int} {D:List Xb}
  (hR:R=c.rows.set k l) (hN:N=c.Xr.set k nx) (hD:D=c.Xq.set k d) (t:TabV p k p.Xn[k] l nx d):CfgV p ⟨R,N,D,c.Xm⟩:=by
 subst hR hN hD;refine ⟨v.prg,by simp [v.rl],by simp [v.nl],by simp [v.dl],?_,v.con⟩;intro j tb l' nx' d' h1 h2 h3 h4;have hl1:=v.rl;have hl2:=v.nl;have hl3:=v.dl;by_cases hj:k=j
 ·subst hj;rw [List.getElem?_set_self (by omega)] at h2 h3 h4;rw [Qa h] at h1;cases h1;cases h2;cases h3;cases h4;exact t
 ·simp only [List.getElem?_set_ne hj] at h2 h3 h4;exact v.tab j _ _ _ _ h1 h2 h3 h4
end
structure CfgM (O:List (Nat×AO)) (v1 v2 v3 v4:AV) (V:List AV) (c:Xf):Prop where
 r:Mu O 1 v1 (V.map fun v=>[v])
 rl:V.length=c.rows.length
 rv:∀(k:Nat) (v:AV) (l:List Rw),V[k]? =some v->c.rows[k]? =some l->Mu O 5 v (l.map Rw.c)
 n:Mu O 1 v2 (c.Xr.map cI)
 d:Mu O 2 v3 (c.Xq.map Xb.c)
 g:v4= .Xu 1 (c.Xm.map (cS 1 c32))\/∃t,v4= .app 1 (c.Xm.map (cS 1 c32)) t
 rn:∀i,vid v1=some i->vid v2=some i->False
 vi:∀(k k':Nat) (v v':AV) (i:Nat),V[k]? =some v->V[k']? =some v'->vid v=some i->vid v'=some i->k=k'
 va:∀v∈V,∀z es t,v≠ .app z es t
def CfgM.own (v1 v2 v3:AV) (V:List AV) (j:Nat):Prop:=vid v1=some j\/vid v2=some j\/vid v3=some j\/∃v∈V,vid v=some j
theorem CfgM.fr {O O':List (Nat×AO)} {v1 v2 v3 v4:AV} {V:List AV} {c:Xf} (h:CfgM O v1 v2 v3 v4 V c) (hf:∀j,CfgM.own v1 v2 v3 V j->look j O'=look j O):CfgM O' v1 v2 v3 v4 V c:=by
 refine ⟨h.r.fr fun j hj=>hf j (.inl hj),h.rl,?_,h.n.fr fun j hj=>hf j (.inr (.inl hj)),h.d.fr fun j hj=>hf j (.inr (.inr (.inl hj))),h.g,h.rn,h.vi,h.va⟩;intro k v l hv hl;exact (h.rv k v l hv hl).fr fun j hj=>hf j (.inr (.inr (.inr ⟨v,Qe hv,hj⟩)))
theorem qod {α β:Type} {f:α->Option β}:∀{l:List α} {m:List β},l.length=m.length->(∀(k:Nat) (x:α) (y:β),l[k]? =some x->m[k]? =some y->f x=some y)->mapO f l=some m
 | [],[],_,_=>rfl
 | [],_::_,h,_=>by simp at h
 | _::_,[],h,_=>by simp at h
 | a::l,b::m,h,hf=>by
  have h1:=hf 0 a b (by simp) (by simp);have h2:=qod (f:=f) (l:=l) (m:=m) (by simpa using h) fun k x y hx hy=>hf (k+1) x y (by simpa using hx) (by simpa using hy)
  simp only [mapO,h1,h2]
@[simp] theorem qaas (b x:Bool) (H:AH):qde b H (some (.val (.bool x)))=some (.val (.bool x),H):=by cases b<;>simp
@[simp] theorem qaby (b:Bool) (k:IntKind) (x:Int) (H:AH):qde b H (some (.val (.int k x)))=some (.val (.int k x),H):=by cases b<;>simp
def regN (r:Xh):Nat:=if r.size<1\/64<r.size then 0 else r.size.toNat
theorem qf8 {Ψ:FuncId->Option AFun} {f z bytes:Nat} (hf:Ψ f=some (.rule (qc6 z bytes .app))) (es:List (List AV)) (hz:qa7 z es=true) (hb:es.length*bytes<=70368744177664):qac Ψ f [.slice z es]=some (.val (.slice z es)):=by
 unfold qac;rw [qiu Ψ hf];cases es with
 | nil=>simp [qc6,lenOf,qb5,evR,qdl,H0,AH.put]
 | cons x es=>
  simp only [QBn] at hb;simp [qc6,lenOf,evR,qdl,H0,AH.put,hz,hb]
theorem qpq (l:List Int) (h:l.length<2^40):qac Φ f_115 [.slice 1 (l.map c32)]=some (.val (.slice 1 (l.map c32))):=
 qf8 (bytes:=4) rfl _ (qce 1 c32 l fun x=>by simp [c32]) (by rw [QAi];omega)
theorem qaa1 (l:List Xi) (h:l.length<2^40):qac Φ f_114 [.slice 2 (l.map Xi.c)]=some (.val (.slice 2 (l.map Xi.c))):=
 qf8 (bytes:=8) rfl _ (qce 2 Xi.c l fun x=>by simp [Xi.c]) (by rw [QAi];omega)
theorem qse (H:AH):∀l:List Int,mapO (mapO (snap 39 H)) (l.map cI)=some (l.map cI)
 | []=>by simp [mapO]
 | x::l=>by
  have ih:=qse H l;simp only [QAz,mapO,ih];simp [cI,mapO]
theorem qaa0 (l:List Int) (h:l.length<2^40):qac Φ f_113 [.slice 1 (l.map cI)]=some (.val (.slice 1 (l.map cI))):=by
 unfold qac;rw [qiu Φ (g:=qc6 1 8 .row) rfl];cases l with
 | nil=>simp [qc6,lenOf,qb5,evR,qdl,H0,AH.put]
 | cons x l=>
  have hb:(l.length+1)*8<=70368744177664:=by simp at h;omega
  have hm:=qse ⟨[(0,.row 1 ((x::l).map cI))],1⟩ (x::l);simp [cI] at hm;simp [qc6,lenOf,evR,qdl,H0,AH.put,hb,cI,hm]
def RegV (T:List (Nat×AO)) (x:AV) (r:Xh):Prop:=(x= .Xu 1 []/\regN r=0)\/∃id,1<=id/\x= .row id 1 0 (regN r)/\look id T=some (.row 1 (List.replicate (regN r) [.int .u32 0]))
inductive RegL (T:List (Nat×AO)):List AV->List Xh->Prop
 | nil:RegL T [] []
 | snoc {A rs x r} (h:RegL T A rs) (hx:RegV T x r):RegL T (A++[x]) (rs++[r])
theorem RegV.app {T:List (Nat×AO)} {x:AV} {r:Xh} (h:RegV T x r) (U:List (Nat×AO)):RegV (T++U) x r:=by
 rcases h with h | ⟨id,h1,h2,h3⟩
 ·exact .inl h
 ·exact .inr ⟨id,h1,h2,by rw [qdk,h3];simp⟩
theorem RegL.app {T:List (Nat×AO)} {A:List AV} {rs:List Xh} (h:RegL T A rs) (U:List (Nat×AO)):RegL (T++U) A rs:=by
 induction h with
 | nil=>exact .nil
 | snoc h hx ih=>exact .snoc ih (hx.app U)
theorem RegL.len {T:List (Nat×AO)} {A:List AV} {rs:List Xh} (h:RegL T A rs):A.length=rs.length:=by
 induction h with
 | nil=>rfl
 | snoc h hx ih=>simp [ih]
theorem qqc (H:AH) (k:Nat):∀m,mapO (mapO (snap 38 H)) (List.replicate m [AV.int .u32 k])=some (List.replicate m [AV.int .u32 k])
 | 0=>by simp [mapO]
 | m+1=>by
  have ih:=qqc H k m;simp only [List.replicate_succ,mapO,ih];simp
theorem qoe {α β:Type} (f:α->Option β):∀(l:List α) (x:α) (l':List β) (y:β),mapO f l=some l'->f x=some y->mapO f (l++[x])=some (l'++[y])
 | [],x,l',y,h,hy=>by
  simp [mapO] at h;subst h;simp [mapO,hy]
 | a::l,x,l',y,h,hy=>by
  simp only [mapO] at h;cases hb:f a with
  | none=>rw [hb] at h;cases h
  | some b=>
   rw [hb] at h;cases hm:mapO f l with
   | none=>rw [hm] at h;cases h
   | some m=>
    rw [hm] at h;cases h;have ih:=qoe f l x m y hm hy;simp only [QBc,mapO,hb,ih]
theorem RegL.snp {T:List (Nat×AO)} {A:List AV} {rs:List Xh} (h:RegL T A rs) (o:AO) (n:Nat):
  mapO (mapO (snap 39 ⟨(0,o)::T,n⟩)) (A.map fun x=>[x])=some (rs.map fun r=>[AV.slice 1 (List.replicate (regN r) [.int .u32 0])]):=by
 induction h with
 | nil=>simp [mapO]
 | snoc h hx ih=>
  rw [List.map_append,List.map_append];refine qoe _ _ _ _ _ ih ?_;rcases hx with ⟨rfl,h0⟩ | ⟨id,h1,rfl,h3⟩
  ·simp [mapO,h0]
  ·have hi:¬(0=id):=by omega
   have hr:=qqc ⟨(0,o)::T,n⟩ 0;simp at hr;simp [mapO,look,hi,h3,hr]
section
variable {β:Type} {fin:Option (Ex×St)->Option β}
end
section
variable {O O':List (Nat×AO)} {N N' n id:Nat} {X:Nat->Prop} {o y:AO}
theorem Kp.app (h:Kp X N O O') (hn:N<=n):Kp X N O (O'++[(n,o)]):=by
 intro j hj hx;have:¬n=j:=by omega
 rw [qaf,h j hj hx];simp [this]
theorem Kp.drop (h:Kp X N O O') (hn:N<=id\/X id):Kp X N O (qay id O'):=by
 intro j hj hx;rw [qbd (by rintro rfl;rcases hn with hn | hn;omega;exact hx hn),h j hj hx]
theorem Kp.setl (h:Kp X N O O') (hn:N<=id\/X id):Kp X N O (setl id y O'):=by
 intro j hj hx;rw [qad,QA (by rintro rfl;rcases hn with hn | hn;omega;exact hx hn),h j hj hx]
theorem Tail.app1 (h:Tail O' N') (hn:N'<=n):Tail (O'++[(n,o)]) (n+1):=by
 rw [Tail_append_iff,Tail_cons_iff];exact ⟨h.mono (by omega),by omega,Tail.nil _⟩
theorem qas {j:Nat} {x y:AO} (h1:look id O=some x) (h2:look j O=some y) (h:x≠y):id≠j:=by
 rintro rfl;rw [h1] at h2;cases h2;exact h rfl
end
theorem Re.src {O:List (Nat×AO)} {z N:Nat} {v:AV} {es:List (List AV)} (h:Re O z v es):qb5 ⟨O,N⟩ v=some es:=by
 cases h with
 | sl=>rfl
 | fs=>rfl
 | ap=>rfl
 | row id _ es0 n hn hl hle ht=>
  subst hn;simp [hl,hle,ht]
theorem Kp.appL {O O':List (Nat×AO)} {N:Nat} {X:Nat->Prop} (h:Kp X N O O') {r:List (Nat×AO)} (hr:∀p∈r,N<=p.1):Kp X N O (O'++r):=by
 intro j hj hx;have:look j r=none:=by
  induction r with
  | nil=>rfl
  | cons p r ih=>
   have h1:=hr p (by simp);have:¬p.1=j:=by omega
   simp only [look,QA this];exact ih fun q hq=>hr q (by simp [hq])
 rw [qaf,h j hj hx,this];simp
structure RowsR (O:List (Nat×AO)) (v:AV) (A:List AV) (R:List (List Rw)):Prop where
 v:Re O 1 v (A.map fun x=>[x])
 len:A.length=R.length
 at_:∀(k:Nat) (x:AV) (l:List Rw),A[k]? =some x->R[k]? =some l->Re O 5 x (l.map Rw.c)
theorem Re.own {O:List (Nat×AO)} {z j:Nat} {v:AV} {es:List (List AV)} (h:Re O z v es) (hj:vid v=some j):∃x,look j O=some x:=by
 cases h with
 | sl=>cases hj
 | fs=>cases hj
 | ap=>cases hj
 | row id _ es0 n hn hl hle ht=>cases hj;exact ⟨_,hl⟩
theorem Re.kp {O O':List (Nat×AO)} {z N:Nat} {v:AV} {es:List (List AV)} {X:Nat->Prop} (h:Re O z v es) (hT:Tail O N) (hk:Kp X N O O') (hx:∀j,X j->look j O=none\/N<=j):Re O' z v es:=by
 refine h.fr fun j hj=>?_
 obtain ⟨x,hl⟩:=h.own hj;refine hk j (hT.lt hl) fun hc=>?_
 rcases hx j hc with h1 | h1
 ·rw [hl] at h1;cases h1
 ·have:=hT.lt hl;omega
theorem Mu.own {O:List (Nat×AO)} {z j:Nat} {v:AV} {es:List (List AV)} (h:Mu O z v es) (hj:vid v=some j):∃es0,look j O=some (.row z es0):=by
 cases h with
 | nilF=>cases hj
 | nilA=>cases hj
 | row id _ es0 n hn hl hle ht=>cases hj;exact ⟨_,hl⟩
structure RowsW (O:List (Nat×AO)) (N:Nat) (V:List AV) (R:List (List Rw)):Prop where
 len:V.length=R.length
 mu:∀(k:Nat) (v:AV) (l:List Rw),V[k]? =some v->R[k]? =some l->Mu O 5 v (l.map Rw.c)
 fresh:∀v∈V,∀j,vid v=some j->N<=j
 inj:∀(k k':Nat) (v v':AV) (i:Nat),V[k]? =some v->V[k']? =some v'->vid v=some i->vid v'=some i->k=k'
 na:∀v∈V,∀z es t,v≠ .app z es t
theorem RowsW.nil {O:List (Nat×AO)} {N:Nat}:RowsW O N [] []:=⟨rfl,by simp,by simp,by simp,by simp⟩
theorem RowsW.own {O:List (Nat×AO)} {N:Nat} {V:List AV} {R:List (List Rw)} (h:RowsW O N V R) {v:AV} {j:Nat} (hv:v∈V) (hj:vid v=some j):∃es0,look j O=some (.row 5 es0):=by
 obtain ⟨k,hk,rfl⟩:=Qn.1 hv;have hk2:k<R.length:=by rw [<- h.len];exact hk
 exact (h.mu k _ _ (Qa hk) (Qa hk2)).own hj
theorem RowsW.fr {O O':List (Nat×AO)} {N:Nat} {V:List AV} {R:List (List Rw)} (h:RowsW O N V R) (hf:∀j es0,look j O=some (.row 5 es0)->look j O'=look j O):RowsW O' N V R:=by
 refine ⟨h.len,?_,h.fresh,h.inj,h.na⟩;intro k v l hv hl;have hm:=h.mu k v l hv hl;refine hm.fr fun j hj=>?_
 obtain ⟨es0,h0⟩:=hm.own hj;exact hf j es0 h0
theorem RowsW.snoc {O O':List (Nat×AO)} {N N':Nat} {V:List AV} {R:List (List Rw)} {w:AV} {l:List Rw} (h:RowsW O N V R) (hT:Tail O N') (hN:N<=N') (hf:∀j es0,look j O=some (.row 5 es0)->look j O'=look j O) (hw:Mu O' 5 w (l.map Rw.c)) (hn:∀j,vid w=some j->N'<=j) (ha:∀z es t,w≠ .app z es t):RowsW O' N (V++[w]) (R++[l]):=by
 have h':=h.fr hf;have hlt:∀v∈V,∀j,vid v=some j->j<N':=by
  intro v hv j hj;obtain ⟨es0,h0⟩:=h.own hv hj;exact hT.lt h0
 have hlen:=h.len;refine ⟨by simp [hlen],?_,?_,?_,fun v hv=>by rcases QAd.1 hv with hv | hv;exact h.na v hv;simp at hv;subst hv;exact ha⟩
 ·intro k v l' hv hl;by_cases hk:k<V.length
  ·rw [Ql hk] at hv;rw [Ql (by omega)] at hl;exact h'.mu k v l' hv hl
  ·have hk':k=V.length:=by
    have:=(Qm.1 hv).1;simp at this;omega
   subst hk';rw [Qp (by omega)] at hv;rw [Qp (by omega),hlen] at hl;simp at hv hl;subst hv hl;exact hw
 ·intro v hv j hj;rcases QAd.1 hv with hv | hv
  ·exact h.fresh v hv j hj
  ·simp at hv;subst hv;have:=hn j hj;omega
 ·intro k k' v v' i hv hv' hi hi';have hb:=(Qm.1 hv).1;have hb':=(Qm.1 hv').1;simp at hb hb';by_cases hk:k<V.length
  ·by_cases hk':k'<V.length
   ·rw [Ql hk] at hv;rw [Ql hk'] at hv';exact h.inj k k' v v' i hv hv' hi hi'
   ·rw [Ql hk] at hv;rw [Qp (by omega)] at hv';have:k' - V.length=0:=by omega
    rw [this] at hv';simp at hv';subst hv';have h1:=hlt v (Qe hv) i hi;have h2:=hn i hi';omega
  ·by_cases hk':k'<V.length
   ·rw [Ql hk'] at hv';rw [Qp (by omega)] at hv;have:k - V.length=0:=by omega
    rw [this] at hv;simp at hv;subst hv;have h1:=hlt v' (Qe hv') i hi';have h2:=hn i hi;omega
   ·omega
section
variable {β:Type} {fin:Option (Ex×St)->Option β}
end
theorem qsa {α:Type} {f:α->List AV} {l:List α} {i:Nat} {es0:List (List AV)} (hi:i<l.length) (ht:es0.take (l.map f).length=l.map f):es0[i]? =some (f l[i]):=by
 have h:(es0.take (l.map f).length)[i]? =(l.map f)[i]? :=by rw [ht]
 rw [List.getElem?_take_of_lt (by simpa using hi)] at h;rw [h];simp [hi]
def Im (z:Nat) (v:AV) (es:List (List AV)):Prop:=v= .slice z es\/v= .Xu z es\/∃t,v= .app z es t
theorem Im.len {z:Nat} {v:AV} {es:List (List AV)} (h:Im z v es):lenOf v=some es.length:=by
 rcases h with rfl | rfl | ⟨t,rfl⟩<;>rfl
section
variable {β:Type} {fin:Option (Ex×St)->Option β}
end
structure CfgR (O:List (Nat×AO)) (v1 v2 v3 v4:AV) (A:List AV) (c:Xf):Prop where
 r:RowsR O v1 A c.rows
 n:Re O 1 v2 (c.Xr.map cI)
 d:Re O 2 v3 (c.Xq.map Xb.c)
 g:Im 1 v4 (c.Xm.map (cS 1 c32))
structure CfgU (c:Xf):Prop where
 t:CfgT c
 u:∀l∈c.rows,l.length<2^39
theorem CfgR.kp {O O':List (Nat×AO)} {v1 v2 v3 v4:AV} {A:List AV} {c:Xf} {N:Nat} {X:Nat->Prop} (h:CfgR O v1 v2 v3 v4 A c) (hT:Tail O N) (hk:Kp X N O O') (hx:∀j,X j->look j O=none\/N<=j):CfgR O' v1 v2 v3 v4 A c:=
 ⟨⟨h.r.v.kp hT hk hx,h.r.len,fun k x l ha hl=>(h.r.at_ k x l ha hl).kp hT hk hx⟩,h.n.kp hT hk hx,h.d.kp hT hk hx,h.g⟩
def entsF:List Rw->Nat->List (AV×AV)
 | [],_=>[]
 | r::l,n=>(.int .i64 r.id,.int .i64 n)::entsF l (n+1)
def ents (l:List Rw):List (AV×AV):=entsF l 0
structure SV where
 s:Nat
 v1:AV
 v2:AV
 v3:AV
 v4:AV
 vi:AV
 V:List AV
 M:List Nat
def SV.cells (S:SV) (p:Prg):List AV:=S.v1::S.v2::S.v3::S.v4::(Prg.c p++[S.vi,.bool true])
structure IdxM (O:List (Nat×AO)) (vi:AV) (M:List Nat) (R:List (List Rw)):Prop where
 i:Mu O 1 vi (M.map fun m=>[.map m])
 len:M.length=R.length
 m:∀(k m:Nat) (l:List Rw),M[k]? =some m->R[k]? =some l->look m O=some (.map (ents l))
 nd:∀(k k' m:Nat),M[k]? =some m->M[k']? =some m->k=k'
structure StoreM (O:List (Nat×AO)) (S:SV) (p:Prg) (c:Xf):Prop where
 s:look S.s O=some (.row 15 [S.cells p])
 cm:CfgM O S.v1 S.v2 S.v3 S.v4 S.V c
 x:IdxM O S.vi S.M c.rows
 ri:∀i,vid S.v1=some i->vid S.vi=some i->False
 ni:∀i,vid S.v2=some i->vid S.vi=some i->False
def SV.own (S:SV) (j:Nat):Prop:=j=S.s\/CfgM.own S.v1 S.v2 S.v3 S.V j\/vid S.vi=some j\/j∈S.M
theorem IdxM.fr {O O':List (Nat×AO)} {vi:AV} {M:List Nat} {R:List (List Rw)} (h:IdxM O vi M R) (hf:∀j,vid vi=some j\/j∈M->look j O'=look j O):IdxM O' vi M R:=
 ⟨h.i.fr fun j hj=>hf j (.inl hj),h.len,fun k m l hm hl=>by rw [hf m (.inr (Qe hm))];exact h.m k m l hm hl,h.nd⟩
theorem StoreM.fr {O O':List (Nat×AO)} {S:SV} {p:Prg} {c:Xf} (h:StoreM O S p c) (hf:∀j,S.own j->look j O'=look j O):StoreM O' S p c:=
 ⟨by rw [hf _ (.inl rfl)];exact h.s,h.cm.fr fun j hj=>hf j (.inr (.inl hj)),h.x.fr fun j hj=>hf j (.inr (.inr hj)),h.ri,h.ni⟩
theorem CfgM.own_lk {O:List (Nat×AO)} {v1 v2 v3 v4:AV} {V:List AV} {c:Xf} (h:CfgM O v1 v2 v3 v4 V c) {j:Nat} (hj:CfgM.own v1 v2 v3 V j):∃z es,look j O=some (.row z es)/\(z=1\/z=2\/z=5):=by
 rcases hj with hj | hj | hj | ⟨v,hv,hj⟩
 ·obtain ⟨es,hl⟩:=h.r.own hj;exact ⟨1,es,hl,.inl rfl⟩
 ·obtain ⟨es,hl⟩:=h.n.own hj;exact ⟨1,es,hl,.inl rfl⟩
 ·obtain ⟨es,hl⟩:=h.d.own hj;exact ⟨2,es,hl,.inr (.inl rfl)⟩
 ·obtain ⟨k,hk,rfl⟩:=Qn.1 hv;have hk2:k<c.rows.length:=by rw [<- h.rl];exact hk
  obtain ⟨es,hl⟩:=(h.rv k _ _ (Qa hk) (Qa hk2)).own hj;exact ⟨5,es,hl,.inr (.inr rfl)⟩
theorem IdxM.own_lk {O:List (Nat×AO)} {vi:AV} {M:List Nat} {R:List (List Rw)} (h:IdxM O vi M R) {j:Nat} (hj:j∈M):∃es,look j O=some (.map es):=by
 obtain ⟨k,hk,rfl⟩:=Qn.1 hj;have hk2:k<R.length:=by rw [<- h.len];exact hk
 exact ⟨_,h.m k _ _ (Qa hk) (Qa hk2)⟩
theorem StoreM.own_lk {O:List (Nat×AO)} {S:SV} {p:Prg} {c:Xf} (h:StoreM O S p c) {j:Nat} (hj:S.own j):∃x,look j O=some x/\x≠ .res:=by
 rcases hj with rfl | hj | hj | hj
 ·exact ⟨_,h.s,by simp⟩
 ·obtain ⟨z,es,hl,_⟩:=h.cm.own_lk hj;exact ⟨_,hl,by simp⟩
 ·obtain ⟨es,hl⟩:=h.x.i.own hj;exact ⟨_,hl,by simp⟩
 ·obtain ⟨es,hl⟩:=h.x.own_lk hj;exact ⟨_,hl,by simp⟩
theorem StoreM.kp {O O':List (Nat×AO)} {N:Nat} {X:Nat->Prop} {S:SV} {p:Prg} {c:Xf} (h:StoreM O S p c) (hT:Tail O N) (hk:Kp X N O O') (hx:∀j,S.own j->¬X j):StoreM O' S p c:=by
 refine h.fr fun j hj=>?_
 obtain ⟨x,hl,_⟩:=h.own_lk hj;exact hk j (hT.lt hl) (hx j hj)
theorem CfgM.re {O:List (Nat×AO)} {v1 v2 v3 v4:AV} {V:List AV} {c:Xf} (h:CfgM O v1 v2 v3 v4 V c):CfgR O v1 v2 v3 v4 V c:=
 ⟨⟨h.r.re,h.rl,fun k x l hx hl=>(h.rv k x l hx hl).re⟩,h.n.re,h.d.re,by rcases h.g with e | ⟨t,e⟩;exact .inr (.inl e);exact .inr (.inr ⟨t,e⟩)⟩
theorem CfgR.imm {O:List (Nat×AO)} (c:Xf):CfgR O (.slice 1 (c.rows.map (cS 5 Rw.c))) (.slice 1 (c.Xr.map cI)) (.slice 2 (c.Xq.map Xb.c)) (.slice 1 (c.Xm.map (cS 1 c32))) (c.rows.map fun l=> .slice 5 (l.map Rw.c)) c:=by
 refine ⟨⟨?_,by simp,?_⟩,.sl _,.sl _,.inl rfl⟩
 ·have:(c.rows.map fun l=>AV.slice 5 (l.map Rw.c)).map (fun x=>[x])=c.rows.map (cS 5 Rw.c):=by
   rw [List.map_map];rfl
  rw [this];exact .sl _
 ·intro k x l hx hl;rw [List.getElem?_map,hl] at hx;cases hx;exact .sl _
def Rs (O:List (Nat×AO)) (j:Nat):Prop:=look j O=some .res
set_option maxRecDepth 8000
def tkn:AV->Option Nat
 | .app _ _ t=>some t
 | _=>none
def Ap (O:List (Nat×AO)) (z:Nat) (v:AV) (es:List (List AV)):Prop:=(es=[]/\v= .Xu z [])\/∃t,v= .app z es t/\look t O=some (.tok z es.length)
def Ex1 (O:List (Nat×AO)) (z:Nat) (v:AV) (es:List (List AV)):Prop:=(es=[]/\v= .Xu z [])\/∃i,v= .row i z 0 es.length/\look i O=some (.row z es)
def PkN (x:Pk) (h:AV):List AV:=[.int .i64 x.pos.switch,.int .i64 x.pos.port,.slice 1 (x.data.map c8),h,.bool x.done,.int .i64 x.kind,.int .i64 x.index,.Xu 3 [],.Xu 2 []]
def pkN (l:List Pk) (H:List AV):List (List AV):=List.zipWith PkN l H
def nwR (V:NetV) (cv pv lv f:AV):List AV:=[.slice 1 (V.ports.map cI),.slice 5 (V.links.map Link.c),.slice 2 (V.hosts.map PortID.c),cv,pv,lv,f]
theorem qcl (V:NetV) (cv pv lv f:AV):nwR V cv pv lv f=[.slice 1 (V.ports.map cI),.slice 5 (V.links.map Link.c),.slice 2 (V.hosts.map PortID.c),cv,pv,lv,f]:=rfl
structure NetM (O:List (Nat×AO)) (n:Nat) (V:NetV) (f:AV) (C:Nat) (pv lv:AV) (H:List AV):Prop where
 row:look n O=some (.row 7 [nwR V (.row C 4 0 V.cs.length) pv lv f])
 cf:look C O=some (.row 4 (V.cs.map Xf.c))
 pk:Ex1 O 9 pv (pkN V.pk H)
 hl:H.length=V.pk.length
 hp:∀(k:Nat) (x:Pk) (h:AV),V.pk[k]? =some x->H[k]? =some h->Ap O 3 h (x.hops.map Hop.c)
 lg:Ap O 4 lv (V.log.map Event.c)
 hi:∀(k k':Nat) (h h':AV) (t:Nat),H[k]? =some h->H[k']? =some h'->tkn h=some t->tkn h'=some t->k=k'
 hg:∀(k:Nat) (h:AV) (t:Nat),H[k]? =some h->tkn h=some t->tkn lv≠some t
def NetM.own (n C:Nat) (pv lv:AV) (H:List AV) (j:Nat):Prop:=j=n\/j=C\/vid pv=some j\/tkn lv=some j\/∃h∈H,tkn h=some j
theorem Ap.fr {O O':List (Nat×AO)} {z:Nat} {v:AV} {es:List (List AV)} (h:Ap O z v es) (hf:∀t,tkn v=some t->look t O'=look t O):Ap O' z v es:=by
 rcases h with h | ⟨t,rfl,ht⟩
 ·exact .inl h
 ·exact .inr ⟨t,rfl,by rw [hf t rfl,ht]⟩
theorem Ap.tk {O:List (Nat×AO)} {z t:Nat} {v:AV} {es:List (List AV)} (h:Ap O z v es) (ht:tkn v=some t):look t O=some (.tok z es.length):=by
 rcases h with ⟨_,rfl⟩ | ⟨u,rfl,hu⟩
 ·cases ht
 ·cases ht;exact hu
theorem Ex1.fr {O O':List (Nat×AO)} {z:Nat} {v:AV} {es:List (List AV)} (h:Ex1 O z v es) (hf:∀t,vid v=some t->look t O'=look t O):Ex1 O' z v es:=by
 rcases h with h | ⟨t,rfl,ht⟩
 ·exact .inl h
 ·exact .inr ⟨t,rfl,by rw [hf t rfl,ht]⟩
theorem Ex1.id {O:List (Nat×AO)} {z t:Nat} {v:AV} {es:List (List AV)} (h:Ex1 O z v es) (ht:vid v=some t):look t O=some (.row z es):=by
 rcases h with ⟨_,rfl⟩ | ⟨u,rfl,hu⟩
 ·cases ht
 ·cases ht;exact hu
theorem NetM.fr {O O':List (Nat×AO)} {n:Nat} {V:NetV} {f:AV} {C:Nat} {pv lv:AV} {H:List AV} (m:NetM O n V f C pv lv H) (hf:∀j,NetM.own n C pv lv H j->look j O'=look j O):NetM O' n V f C pv lv H:=by
 refine ⟨by rw [hf n (.inl rfl)];exact m.row,by rw [hf C (.inr (.inl rfl))];exact m.cf,m.pk.fr fun t ht=>hf t (.inr (.inr (.inl ht))),m.hl,?_,m.lg.fr fun t ht=>hf t (.inr (.inr (.inr (.inl ht)))),m.hi,m.hg⟩;intro k x h hx hh;exact (m.hp k x h hx hh).fr fun t ht=>hf t (.inr (.inr (.inr (.inr ⟨h,Qe hh,ht⟩))))
theorem NetM.hk {O:List (Nat×AO)} {n:Nat} {V:NetV} {f:AV} {C:Nat} {pv lv:AV} {H:List AV} (m:NetM O n V f C pv lv H) {k t:Nat} {h:AV} (hh:H[k]? =some h) (ht:tkn h=some t):∃l,look t O=some (.tok 3 l):=by
 have hk:k<V.pk.length:=by
  have:=(Qm.1 hh).1;rw [m.hl] at this;exact this
 exact ⟨_,(m.hp k _ h (Qa hk) hh).tk ht⟩
theorem NetM.nr {O:List (Nat×AO)} {n:Nat} {V:NetV} {f:AV} {C:Nat} {pv lv:AV} {H:List AV} (m:NetM O n V f C pv lv H) {j:Nat} (hj:NetM.own n C pv lv H j):∃y,look j O=some y/\y≠ .res:=by
 rcases hj with rfl | rfl | hj | hj | ⟨h,hh,hj⟩
 ·exact ⟨_,m.row,by simp⟩
 ·exact ⟨_,m.cf,by simp⟩
 ·exact ⟨_,m.pk.id hj,by simp⟩
 ·exact ⟨_,m.lg.tk hj,by simp⟩
 ·obtain ⟨k,hk,rfl⟩:=Qn.1 hh;obtain ⟨l,hl⟩:=m.hk (Qa hk) hj;exact ⟨_,hl,by simp⟩
def Mn (O O':List (Nat×AO)):Prop:=∀j y,look j O=some y->y≠ .res->look j O'=some y
theorem Mn.refl {O:List (Nat×AO)}:Mn O O:=fun _ _ h _=>h
theorem Mn.trans {O O' O'':List (Nat×AO)} (h:Mn O O') (h':Mn O' O''):Mn O O'':=fun j y hl hy=>h' j y (h j y hl hy) hy
theorem Mn.app {O:List (Nat×AO)} {r:List (Nat×AO)}:Mn O (O++r):=fun j y hl _=>by rw [qaf,hl];rfl
theorem Mn.sweep {O:List (Nat×AO)}:Mn O (qau O):=fun j y hl hy=>by rw [qan (by rw [hl];simpa using hy),hl]
theorem Mn.set {O:List (Nat×AO)} {t:Nat} {y:AO} (h:look t O=none\/look t O=some .res):Mn O (setl t y O):=fun j x hl hx=>by
 rw [qad,QA (by rintro rfl;rcases h with h | h<;>rw [h] at hl<;>cases hl;exact hx rfl),hl]
theorem Mn.drop {O:List (Nat×AO)} {t:Nat} (h:look t O=none\/look t O=some .res):Mn O (qay t O):=fun j x hl hx=>by
 rw [qbd (by rintro rfl;rcases h with h | h<;>rw [h] at hl<;>cases hl;exact hx rfl),hl]
theorem NetM.mn {O O':List (Nat×AO)} {n:Nat} {V:NetV} {f:AV} {C:Nat} {pv lv:AV} {H:List AV} (m:NetM O n V f C pv lv H) (h:Mn O O'):NetM O' n V f C pv lv H:=
 m.fr fun j hj=>by
  obtain ⟨y,hy,hn⟩:=m.nr hj;rw [h j y hy hn,hy]
theorem Kp.mn {X:Nat->Prop} {N:Nat} {O O' O'':List (Nat×AO)} (h:Kp X N O O') (hx:∀j,Rs O j->X j) (hm:Mn O' O'') (hn:∀j,j<N->look j O'=none->look j O''=none):Kp X N O O'':=by
 intro j hj hxj;have h1:=h j hj hxj;cases hl:look j O' with
 | none=>rw [hn j hj hl,<- h1,hl]
 | some y=>
  by_cases hy:y= .res
  ·subst hy;exact absurd (hx j (by unfold Rs;rw [<- h1,hl])) hxj
  ·rw [hm j y hl hy,<- h1,hl]
theorem qio {O:List (Nat×AO)} {n N g:Nat} {V:NetV} {cv pv lv:AV} (h:look n O=some (.row 7 [nwR V cv pv lv (.func (.func g) [] [])])):qah Φ f_43 [.ptr n 7 0 0] ⟨O,N⟩=some (.val (.bool true),⟨O,N⟩):=by
 rw [qaz (fn:=c_43) rfl rfl];rw [qcl] at h;simp [c_43,h]
section
variable {O:List (Nat×AO)} {n N:Nat} {V:NetV} {f:AV} {C:Nat} {pv lv:AV} {H:List AV}
theorem NetM.evs {O':List (Nat×AO)} {lv':AV} {x:Event} (m:NetM O n V f C pv lv H) (hr:look n O'=some (.row 7 [nwR V (.row C 4 0 V.cs.length) pv lv' f])) (hl:Ap O' 4 lv' ((V.ev x).log.map Event.c)) (hn:∀t:Nat,tkn lv'=some t->tkn lv=some t\/look t O=none\/look t O=some .res)
  (hk:∀(j:Nat) (y:AO),look j O=some y->y≠ .res->j≠n->tkn lv≠some j->look j O'=some y):NetM O' n (V.ev x) f C pv lv' H:=by
 have ho:∀j,NetM.own n C pv lv H j->j≠n->tkn lv≠some j->look j O'=look j O:=by
  intro j hj h1 h2;obtain ⟨y,hy,hny⟩:=m.nr hj;rw [hk j y hy hny h1 h2,hy]
 have hCn:C≠n:=qas m.cf m.row (by simp);have hCl:tkn lv≠some C:=fun h=>by have:=m.lg.tk h;rw [m.cf] at this;cases this
 have hHn:∀(k:Nat) (h:AV) (t:Nat),H[k]? =some h->tkn h=some t->look t O'=look t O:=by
  intro k h t hh ht;refine ho t (.inr (.inr (.inr (.inr ⟨h,Qe hh,ht⟩)))) ?_ (m.hg k h t hh ht);obtain ⟨l,hl⟩:=m.hk hh ht;exact qas hl m.row (by simp)
 refine ⟨hr,by rw [ho C (.inr (.inl rfl)) hCn hCl];exact m.cf,m.pk.fr fun t ht=>?_,m.hl,fun k x h hx hh=>(m.hp k x h hx hh).fr fun t ht=>hHn k h t hh ht,hl,m.hi,?_⟩
 ·refine ho t (.inr (.inr (.inl ht))) (qas (m.pk.id ht) m.row (by simp)) fun h=>?_
  have:=m.lg.tk h;rw [m.pk.id ht] at this;cases this
 ·intro k h t hh ht hc;obtain ⟨l,hl⟩:=m.hk hh ht;rcases hn t hc with h1 | h1 | h1
  ·exact m.hg k h t hh ht h1
  ·rw [h1] at hl;cases hl
  ·rw [h1] at hl;cases hl
theorem qvo (m:NetM O n V f C pv lv H) (hT:Tail O N) (hb:V.log.length<=10000) (k a b c:Int):
  ∃O' N' lv',qah Φ f_64 [.ptr n 7 0 0,.int .i64 k,.int .i64 a,.int .i64 b,.int .i64 c] ⟨O,N⟩=some (.val (.agg [.int .i64 k,.int .i64 a,.int .i64 b,.int .i64 c]),⟨O',N'⟩)/\NetM O' n (V.ev ⟨k,a,b,c⟩) f C pv lv' H/\(∀t,tkn lv'=some t->tkn lv=some t\/N<=t)/\Kp (fun j=>j=n\/tkn lv=some j\/Rs O j) N O O'/\Tail O' N'/\N<=N':=by
 rw [qaz (fn:=c_64) rfl rfl];have h:=m.row;rw [qcl] at h;have t0:=hT N (Qb _);have t1:=hT (N+1) (by omega);have t2:=hT (N+1+1) (by omega);have hn:=hT.lt h;have q0:¬N=n/\¬n=N/\¬N+1=n/\¬n=N+1/\¬N+1+1=n/\¬n=N+1+1/\¬N=N+1+1/\¬N+1+1=N:=by omega
 obtain ⟨q1,q2,q3,q4,q5,q6,q7,q8⟩:=q0;have b2:(V.log.length+1)*32<=70368744177664:=by omega
 rcases m.lg with ⟨hz,rfl⟩ | ⟨T,rfl,hz⟩
 ·have hz':V.log=[]:=by simpa using hz
  simp [c_64,h,t0,t1,t2,q1,q2,q3,q4,q5,q6,q7,q8,qaf,qad];refine ⟨_,_,⟨rfl,rfl⟩,.app 4 [[.int .i64 k,.int .i64 a,.int .i64 b,.int .i64 c]] (N+1+1),m.evs ?_ (.inr ⟨N+1+1,?_,?_⟩) ?_ ?_,?_,?_,?_,by omega⟩
  ·simp [qad,qaf,h,q1,q2,qcl,NetV.ev]
  ·simp [NetV.ev,hz',Event.c]
  ·simp [NetV.ev,hz',qad,qaf,t2,q5,q7,q8]
  ·intro t ht;cases ht;exact .inr (.inl t2)
  ·intro j y hj hy h1 h2;have:j≠N:=by rintro rfl;rw [t0] at hj;cases hj
   simp [qad,qaf,hj,h1,this]
  ·intro t ht;simp only [tkn,Option.some.injEq] at ht;right;omega
  ·intro j hj hx;have j1:¬j=n:=fun e=>hx (.inl e)
   have j2:¬j=N:=by omega
   have j3:¬N=j:=by omega
   have j4:¬N+1+1=j:=by omega
   simp [qad,qaf,j1,j2,j3,j4]
  ·refine qa4 (qa4 ?_);simp [Tail_append_iff,Tail_cons_iff,qby];exact ⟨hT.mono (by omega),by omega⟩
 ·have u1:T≠n:=qas hz h (by simp);have u2:=u1.symm;have hTl:=hT.lt hz;have r0:¬N=T/\¬T=N/\¬N+1=T/\¬T=N+1:=by omega
  obtain ⟨r1,r2,r3,r4⟩:=r0;simp at hz;simp [c_64,h,t0,t1,t2,q1,q2,q3,q4,q5,q6,q7,q8,r1,r2,r3,r4,u1,u2,hz,qaf,qad,b2];refine ⟨_,_,⟨rfl,rfl⟩,.app 4 (V.log.map Event.c++[[.int .i64 k,.int .i64 a,.int .i64 b,.int .i64 c]]) T,m.evs ?_ (.inr ⟨T,?_,?_⟩) ?_ ?_,?_,?_,?_,by omega⟩
  ·simp [qad,qaf,h,q1,q2,u1,u2,qcl,NetV.ev]
  ·simp [NetV.ev,Event.c]
  ·simp [NetV.ev,qad,qaf,hz,u1,r1,r2]
  ·intro t ht;cases ht;exact .inl rfl
  ·intro j y hj hy h1 h2;have h3:¬j=N:=by rintro rfl;rw [t0] at hj;cases hj
   have h4:¬j=T:=fun e=>h2 (by rw [e];rfl)
   simp [qad,qaf,hj,h1,h3,h4]
  ·intro t ht;cases ht;left;rfl
  ·intro j hj hx;have j1:¬j=n:=fun e=>hx (.inl e)
   have j2:¬j=N:=by omega
   have j3:¬N=j:=by omega
   have j4:¬j=T:=fun e=>hx (.inr (.inl (by rw [e];rfl)))
   simp [qad,qaf,j1,j2,j3,j4]
  ·refine qa4 (qa4 (qa4 ?_));simp [Tail_append_iff,Tail_cons_iff,qby];exact ⟨hT.mono (by omega),by omega⟩
end
structure Fw (X:Nat->Prop) (N:Nat) (O O1:List (Nat×AO)) (N1:Nat):Prop where
 kp:Kp (fun j=>X j\/Rs O j) N O O1
 tl:Tail O1 N1
 le:N<=N1
section
variable {X:Nat->Prop} {N N1 N2 t:Nat} {O O1 O2:List (Nat×AO)} {y:AO}
theorem Fw.init (hT:Tail O N):Fw X N O O N:=⟨fun _ _ _=>rfl,hT,Qb _⟩
theorem Fw.then {Y:Nat->Prop} (h:Fw X N O O1 N1) (hk:Kp Y N1 O1 O2) (hy:∀j,j<N->Y j->X j\/Rs O1 j) (hT:Tail O2 N2) (hn:N1<=N2):Fw X N O O2 N2:=by
 refine ⟨?_,hT,QAh h.le hn⟩;intro j hj hx;have h1:=h.kp j hj hx;rw [<- h1];refine hk j (QBr hj h.le) fun hc=>?_
 rcases hy j hj hc with h2 | h2
 ·exact hx (.inl h2)
 ·exact hx (.inr (by unfold Rs at*;rw [<- h1,h2]))
theorem Fw.set (h:Fw X N O O1 N1) (ht:X t\/N<=t):Fw X N O (setl t y O1) N1:=
 ⟨fun j hj hx=>by rw [qad,QA (by rintro rfl;rcases ht with ht | ht;exact hx (.inl ht);omega),h.kp j hj hx],qa4 h.tl,h.le⟩
theorem Fw.drop (h:Fw X N O O1 N1) (ht:X t\/N<=t):Fw X N O (qay t O1) N1:=
 ⟨fun j hj hx=>by rw [qbd (by rintro rfl;rcases ht with ht | ht;exact hx (.inl ht);omega),h.kp j hj hx],qh6 h.tl,h.le⟩
theorem Fw.app (h:Fw X N O O1 N1) (ht:N<=t) (h2:t<N2) (hn:N1<=N2):Fw X N O (O1++[(t,y)]) N2:=
 ⟨fun j hj hx=>by rw [qaf,h.kp j hj hx,show look j [(t,y)]=none by rw [look,QA (by omega)];rfl];simp,by rw [Tail_append_iff,Tail_cons_iff];exact ⟨h.tl.mono hn,h2,Tail.nil _⟩,QAh h.le hn⟩
theorem Fw.sweep (h:Fw X N O O1 N1):Fw X N O (qau O1) N1:=
 ⟨fun j hj hx=>by
  have h1:=h.kp j hj hx;rw [qan (by rw [h1];exact fun hc=>hx (.inr hc)),h1],qfy h.tl,h.le⟩
theorem Fw.up (h:Fw X N O O1 N1) (hn:N1<=N2):Fw X N O O1 N2:=⟨h.kp,h.tl.mono hn,QAh h.le hn⟩
end
def NetW (O:List (Nat×AO)) (n:Nat) (V:NetV) (f:AV) (X:Nat->Prop):Prop:=∃C pv lv H,NetM O n V f C pv lv H/\∀j,NetM.own n C pv lv H j->X j
def NP (X:Nat->Prop) (N:Nat) (O:List (Nat×AO)) (n:Nat) (f:AV) (V:NetV) (v:AV) (r:Option (Rt×AH)):Prop:=
 ∃O' N',r=some (.val v,⟨O',N'⟩)/\NetW O' n V f (fun j=>X j\/N<=j)/\Fw X N O O' N'
section
variable {β:Type} {fin:Option (Ex×St)->Option β}
theorem qhl {O:List (Nat×AO)} {n N:Nat} {V:NetV} {f:AV} {C:Nat} {pv lv:AV} {H:List AV} {d:Bool} {dst:Option Nat} {r:List Xw} {K:List Go.Av.Fr} {e:Env} {Q:Option β->Prop} {k a b c:Int}
  (m:NetM O n V f C pv lv H) (hT:Tail O N) (hb:V.log.length<=10000)
  (hk:∀O' N' lv',NetM O' n (V.ev ⟨k,a,b,c⟩) f C pv lv' H->(∀t,tkn lv'=some t->tkn lv=some t\/N<=t)->Kp (fun j=>j=n\/tkn lv=some j\/Rs O j) N O O'->Tail O' N'->N<=N'->Q (Go.Av.stepV Φ fin d dst r K e (some (.val (.agg [.int .i64 k,.int .i64 a,.int .i64 b,.int .i64 c]),⟨O',N'⟩)))):
  Q (Go.Av.stepV Φ fin d dst r K e (qah Φ f_64 [.ptr n 7 0 0,.int .i64 k,.int .i64 a,.int .i64 b,.int .i64 c] ⟨O,N⟩)):=by
 obtain ⟨O',N',lv',e1,h1,h2,h3,h4,h5⟩:=qvo m hT hb k a b c;rw [e1];exact hk O' N' lv' h1 h2 h3 h4 h5
end
section
variable {O:List (Nat×AO)} {n N g:Nat} {V:NetV} {C:Nat} {pv lv:AV} {H:List AV} {X:Nat->Prop}
theorem NetM.top {O':List (Nat×AO)} {f:AV} {L:List Link} (m:NetM O n V f C pv lv H) (hr:look n O'=some (.row 7 [nwR { V with links:=L } (.row C 4 0 V.cs.length) pv lv f])) (hk:∀(j:Nat) (y:AO),look j O=some y->y≠ .res->j≠n->look j O'=some y):NetM O' n { V with links:=L } f C pv lv H:=by
 have ho:∀j,NetM.own n C pv lv H j->j≠n->look j O'=look j O:=by
  intro j hj h1;obtain ⟨y,hy,hny⟩:=m.nr hj;rw [hk j y hy hny h1,hy]
 refine ⟨hr,by rw [ho C (.inr (.inl rfl)) (qas m.cf m.row (by simp))];exact m.cf,m.pk.fr fun t ht=>ho t (.inr (.inr (.inl ht))) (qas (m.pk.id ht) m.row (by simp)),m.hl,?_,m.lg.fr fun t ht=>ho t (.inr (.inr (.inr (.inl ht)))) (qas (m.lg.tk ht) m.row (by simp)),m.hi,m.hg⟩;intro k x h hx hh;refine (m.hp k x h hx hh).fr fun t ht=>?_
 obtain ⟨l,hl⟩:=m.hk hh ht;exact ho t (.inr (.inr (.inr (.inr ⟨h,Qe hh,ht⟩)))) (qas hl m.row (by simp))
theorem qmu {lv':AV} {N1:Nat} (hX:∀j,NetM.own n C pv lv H j->X j) (hl:∀t,tkn lv'=some t->tkn lv=some t\/N1<=t) (hn:N<=N1):∀j,NetM.own n C pv lv' H j->X j\/N<=j:=by
 intro j hj;rcases hj with hj | hj | hj | hj | hj
 ·exact .inl (hX j (.inl hj))
 ·exact .inl (hX j (.inr (.inl hj)))
 ·exact .inl (hX j (.inr (.inr (.inl hj))))
 ·rcases hl j hj with h | h
  ·exact .inl (hX j (.inr (.inr (.inr (.inl h)))))
  ·right;omega
 ·exact .inl (hX j (.inr (.inr (.inr (.inr hj)))))
theorem qmv {O1:List (Nat×AO)} (hX:∀j,NetM.own n C pv lv H j->X j):∀j,j<N->(j=n\/tkn lv=some j\/Rs O1 j)->X j\/Rs O1 j:=by
 intro j _ hj;rcases hj with hj | hj | hj
 ·exact .inl (hX j (.inl hj))
 ·exact .inl (hX j (.inr (.inr (.inr (.inl hj)))))
 ·exact .inr hj
theorem qrq (m:NetM O n V (.func (.func g) [] []) C pv lv H) (hX:∀j,NetM.own n C pv lv H j->X j) (hT:Tail O N) (s:NetS V) (k:Int) (d:Bool):
  NP X N O n (.func (.func g) [] []) (qd6 V k d).1 (.int .i64 (qd6 V k d).2) (qah Φ f_42 [.ptr n 7 0 0,.int .i64 k,.bool d] ⟨O,N⟩):=by
 rw [qaz (fn:=c_42) rfl rfl];have h:=m.row;have hm:=fun O N=>qio (O:=O) (N:=N) (n:=n) (V:=V) (cv:= .row C 4 0 V.cs.length) (pv:=pv) (lv:=lv) (g:=g)
 rw [qcl] at h hm;have h1:=qjx V.ports V.links V.hosts k d s.p s.l s.h;have t0:=hT N (Qb _);have hn:=hT.lt h;have q0:¬N=n/\¬n=N:=by omega
 obtain ⟨q1,q2⟩:=q0;by_cases z:k<0\/(V.links.length:Int)<=k
 ·rw [qg7 _ _ _ _ _ z] at h1;simp [c_42,hm,h,h1,qd6,z,t0,q1,q2,qaf,qad];exact ⟨_,_,rfl,⟨C,pv,lv,H,m,fun j hj=> .inl (hX j hj)⟩,(Fw.init hT).up (by omega)⟩
 obtain ⟨j,rfl⟩:=QAe (show 0<=k by omega);rw [qm3 _ _ _ _ (show j<V.links.length by omega)] at h1;have z1:¬V.links.length<=j:=by omega
 cases d with
 | false=>
  simp [c_42,hm,h,h1,qd6,z,z1,t0,q1,q2,qaf,qad];refine qhl (m.top (L:=setD V.links j false) ?_ ?_) (qa4 (hT.mono (by omega))) s.g ?_
  ·simp [qad,h,qcl]
  ·intro i y hi _ hne;rw [qad,QA hne,hi]
  ·intro O' N' lv' m' hl hk hT' hN;simp;exact ⟨_,_,rfl,⟨C,pv,lv',H,m',qmu hX hl (by omega)⟩,(((Fw.init hT).set (.inl (hX n (.inl rfl)))).up (by omega)).then hk (qmv hX) hT' hN⟩
 | true=>
  simp [c_42,hm,h,h1,qd6,z,z1,t0,q1,q2,qaf,qad];refine qhl (m.top (L:=setD V.links j true) ?_ ?_) (qa4 (hT.mono (by omega))) s.g ?_
  ·simp [qad,h,qcl]
  ·intro i y hi _ hne;rw [qad,QA hne,hi]
  ·intro O' N' lv' m' hl hk hT' hN;simp;exact ⟨_,_,rfl,⟨C,pv,lv',H,m',qmu hX hl (by omega)⟩,(((Fw.init hT).set (.inl (hX n (.inl rfl)))).up (by omega)).then hk (qmv hX) hT' hN⟩
end
theorem clBy (l:List Int) (h:l.length<2^40):qac Φ f_47 [.slice 1 (l.map c8)]=some (.val (.slice 1 (l.map c8))):=
 qf8 (bytes:=1) rfl _ (qce 1 c8 l fun x=>by simp [c8]) (by rw [QAi];omega)
theorem qsi {l:List Pk} {H:List AV} (h:H.length=l.length) (x:Pk) (v:AV):pkN (l++[x]) (H++[v])=pkN l H++[PkN x v]:=by
 unfold pkN;rw [List.zipWith_append h.symm];rfl
theorem qbr {l:List Pk} {H:List AV} (h:H.length=l.length):(pkN l H).length=l.length:=by simp [pkN,h]
theorem qvh {l:List Pk} {H:List AV}:qa7 9 (pkN l H)=true:=by
 induction l generalizing H with
 | nil=>rfl
 | cons x l ih=>cases H with
  | nil=>rfl
  | cons v H=>
   have:=ih (H:=H);simp only [pkN,List.zipWith_cons_cons,qa7,anyL] at this ⊢;simp [PkN,this]
theorem qgf {l:List Pk} {H:List AV} {k:Nat} {x:Pk} {h:AV} (hx:l[k]? =some x) (hh:H[k]? =some h):(pkN l H)[k]? =some (PkN x h):=by
 unfold pkN;rw [List.getElem?_zipWith,hx,hh]
theorem Fw.app2 {X:Nat->Prop} {N N1 N2 t u:Nat} {O O1:List (Nat×AO)} {y z:AO} (h:Fw X N O O1 N1) (ht:N<=t) (h1:N1<=t+1) (hu:t<u) (hn:u+1<=N2) (hh:N1<=N2:=by omega):Fw X N O (O1++[(t,y),(u,z)]) N2:=by
 have:=((h.app (y:=y) ht (N2:=u) hu (by omega)).app (t:=u) (y:=z) (N2:=N2) (by omega) (by omega) (by omega))
 rwa [QBw] at this
section
variable {O:List (Nat×AO)} {n N g:Nat} {V:NetV} {C:Nat} {pv lv:AV} {H:List AV} {X:Nat->Prop}
theorem NetM.push {O':List (Nat×AO)} {f pv':AV} {x:Pk} (m:NetM O n V f C pv lv H) (hr:look n O'=some (.row 7 [nwR V (.row C 4 0 V.cs.length) pv' lv f])) (hp:Ex1 O' 9 pv' (pkN V.pk H++[PkN x (.Xu 3 [])])) (hx:x.hops=[])
  (hk:∀(j:Nat) (y:AO),look j O=some y->y≠ .res->j≠n->vid pv≠some j->look j O'=some y):NetM O' n { V with pk:=V.pk++[x] } f C pv' lv (H++[.Xu 3 []]):=by
 have ho:∀j,NetM.own n C pv lv H j->j≠n->vid pv≠some j->look j O'=look j O:=by
  intro j hj h1 h2;obtain ⟨y,hy,hny⟩:=m.nr hj;rw [hk j y hy hny h1 h2,hy]
 have hpv:∀j y,look j O=some y->(∀es,y≠ .row 9 es)->vid pv≠some j:=by
  intro j y hj hy hc;have:=m.pk.id hc;rw [hj] at this;cases this;exact hy _ rfl
 refine ⟨hr,by rw [ho C (.inr (.inl rfl)) (qas m.cf m.row (by simp)) (hpv C _ m.cf (by simp))];exact m.cf,by rw [qsi m.hl];exact hp,by simp [m.hl],?_,m.lg.fr fun t ht=>ho t (.inr (.inr (.inr (.inl ht)))) (qas (m.lg.tk ht) m.row (by simp)) (hpv t _ (m.lg.tk ht) (by simp)),?_,?_⟩
 ·intro k y h hy hh;by_cases hk':k<V.pk.length
  ·rw [Ql hk'] at hy;rw [Ql (by rw [m.hl];exact hk')] at hh;refine (m.hp k y h hy hh).fr fun t ht=>?_
   obtain ⟨l,hl⟩:=m.hk hh ht;exact ho t (.inr (.inr (.inr (.inr ⟨h,Qe hh,ht⟩)))) (qas hl m.row (by simp)) (hpv t _ hl (by simp))
  ·rw [Qp (by omega)] at hy;rw [Qp (by rw [m.hl];omega),m.hl] at hh;cases hd:k - V.pk.length with
   | zero=>
    rw [hd] at hy hh;simp at hy hh;subst hy hh;exact .inl ⟨by rw [hx];rfl,rfl⟩
   | succ q=>rw [hd] at hy;simp at hy
 ·intro k k' h h' t hh hh' ht ht';have key:∀(k:Nat) (h:AV),(H++[AV.Xu 3 []])[k]? =some h->tkn h=some t->H[k]? =some h:=by
   intro k h hh ht;by_cases hk':k<H.length
   ·rwa [Ql hk'] at hh
   ·rw [Qp (by omega)] at hh;cases hd:k - H.length with
    | zero=>rw [hd] at hh;simp at hh;subst hh;cases ht
    | succ q=>rw [hd] at hh;simp at hh
  exact m.hi k k' h h' t (key k h hh ht) (key k' h' hh' ht') ht ht'
 ·intro k h t hh ht;by_cases hk':k<H.length
  ·rw [Ql hk'] at hh;exact m.hg k h t hh ht
  ·rw [Qp (by omega)] at hh;cases hd:k - H.length with
   | zero=>rw [hd] at hh;simp at hh;subst hh;cases ht
   | succ q=>rw [hd] at hh;simp at hh
theorem qqg {pv':AV} {N1:Nat} (hX:∀j,NetM.own n C pv lv H j->X j) (hl:∀t,vid pv'=some t->N1<=t) (hn:N<=N1):∀j,NetM.own n C pv' lv (H++[.Xu 3 []]) j->X j\/N<=j:=by
 intro j hj;rcases hj with hj | hj | hj | hj | ⟨h,hh,hj⟩
 ·exact .inl (hX j (.inl hj))
 ·exact .inl (hX j (.inr (.inl hj)))
 ·have:=hl j hj;right;omega
 ·exact .inl (hX j (.inr (.inr (.inr (.inl hj)))))
 ·rcases QAd.1 hh with hh | hh
  ·exact .inl (hX j (.inr (.inr (.inr (.inr ⟨h,hh,hj⟩)))))
  ·simp at hh;subst hh;cases hj
theorem qwv (m:NetM O n V (.func (.func g) [] []) C pv lv H) (hX:∀j,NetM.own n C pv lv H j->X j) (hT:Tail O N) (s:NetS V) (h:Int) (b:List Int) (hb:b.length<2^40):
  NP X N O n (.func (.func g) [] []) (qd8 V h b).1 (.tup [.int .i64 (qd8 V h b).2.1,.int .i64 (qd8 V h b).2.2]) (qah Φ f_28 [.ptr n 7 0 0,.int .i64 h,.slice 1 (b.map c8)] ⟨O,N⟩):=by
 rw [qaz (fn:=c_28) rfl rfl];have hr:=m.row;have hm:=fun O N=>qio (O:=O) (N:=N) (n:=n) (V:=V) (cv:= .row C 4 0 V.cs.length) (pv:=pv) (lv:=lv) (g:=g)
 rw [qcl] at hr hm;unfold qd8;have hB:=clBy b hb;have fin:NP X N O n (.func (.func g) [] []) V (.tup [.int .i64 0,.int .i64 8]) (some (.val (.tup [.int .i64 0,.int .i64 8]),⟨O,N⟩)):=⟨_,_,rfl,⟨C,pv,lv,H,m,fun j hj=> .inl (hX j hj)⟩,Fw.init hT⟩;by_cases z1:h<0
 ·simp [c_28,hm,hr,z1];exact fin
 obtain ⟨k,rfl⟩:=QAe (show 0<=h by omega);by_cases z2:V.hosts.length<=k
 ·have z2':(V.hosts.length:Int)<=k:=by omega
  simp [c_28,hm,hr,z2];exact fin
 have hn:k<V.hosts.length:=by omega
 by_cases z3:512<b.length
 ·simp [c_28,hm,hr,z2,z3];exact ⟨_,_,rfl,⟨C,pv,lv,H,m,fun j hj=> .inl (hX j hj)⟩,Fw.init hT⟩
 have hk:=s.k;have z4:¬4096<=V.pk.length:=by omega
 have b2:(V.pk.length+1)*136<=70368744177664:=by omega
 have hnN:=hT.lt hr;have hal:qa7 9 (pkN V.pk H)=true:=qvh;have hlen:=qbr m.hl;have hT':∀k,look (N+k) O=none:=fun k=>hT (N+k) (by omega)
 have q1:∀k,¬N+k=n:=fun k=>by omega
 have q2:∀k,¬n=N+k:=fun k=>by omega
 have q3:∀k,(n == N+k)=false:=fun k=>by simp;omega
 have t65:=hT' (64+1);rcases m.pk with ⟨hz,rfl⟩ | ⟨P,rfl,hz⟩
 ·have hz':V.pk=[]:=Qg (by rw [<- hlen,hz];rfl);simp [c_28,hm,hr,z2,z3,z4,hn,hB,hz',hT',q1,q2,q3,qaf,qad,qan,PortID.c];have hfw:∀x y z,Fw X N O (qau (setl n x (O++[(N+63,y),(N+64,z)]))) (N+64+1):=fun x y z=>Fw.sweep (Fw.set (Fw.app2 (N2:=N+64+1) (Fw.init hT) (by omega) (by omega) (by omega) (Qb _)) (.inl (hX n (.inl rfl))))
  refine qhl (m.push (pv':= .row (N+64) 9 0 1) (x:=⟨V.hosts[k],b,[],false,0,0⟩) ?_ (.inr ⟨N+64,?_,?_⟩) rfl ?_) ?_ s.g ?_
  ·simp [qan,qad,qaf,hr,q1,q2,qcl]
  ·simp [hz]
  ·simp [hz,qan,qad,qaf,hT',q1,PkN]
  ·intro i y hi hy h1 _;simp [qan,qad,qaf,hi,h1,hy]
  ·exact (hfw _ _ _).tl
  ·intro O' N' lv' m' hl hk hTn hN;rw [hz'] at m';simp;refine ⟨_,_,rfl,⟨C,_,lv',_,m',?_⟩,Fw.then (hfw _ _ _) hk (qmv hX) hTn hN⟩;exact fun j hj=>(qmu (X:=fun j=>X j\/N<=j) (qqg hX (N1:=N) (pv':= .row (N+64) 9 0 1) (fun t ht=>by simp only [vid,Option.some.injEq] at ht;omega) (Qb _)) hl (show N<=N+64+1 by omega) j hj).elim id .inr
 ·have u1:P≠n:=qas hz hr (by simp);have u2:=u1.symm;have hPl:=hT.lt hz;have q4:∀k,¬N+k=P:=fun k=>by omega
  have q5:∀k,¬P=N+k:=fun k=>by omega
  have q6:∀k,(P == N+k)=false:=fun k=>by simp;omega
  have u3:(P == n)=false:=by simpa using u1
  have u4:(n == P)=false:=by simpa using u2
  have hd1:∀x,look (N+64) (qay P (O++[(N+63,x),(N+64,.res)]))=some .res:=fun x=>by rw [qbd (q4 64)];simp [qaf,hT']
  have hd2:∀r,look n (qay P (O++r))=look n (O++r):=fun r=>qbd u2 _
  simp [c_28,hm,hr,z2,z3,z4,hn,hB,hlen,hz,b2,hal,hT',hd1,hd2,q1,q2,q3,q4,q5,q6,u1,u2,u3,u4,qaf,qad,qan,PortID.c];have hn64:∀x,look (N+64) (setl (N+64) x (qay P (O++[(N+63,.row 9 [PkN ⟨V.hosts[k],b,[],false,0,0⟩ (.Xu 3 [])]),(N+64,.res)])))=some x:=fun x=>by rw [qad,hd1];simp
  have hfw:∀x y z,Fw X N O (qau (setl n x (setl (N+64) y (qay P (O++[(N+63,z),(N+64,.res)]))))) (N+64+1):=fun x y z=>Fw.sweep (Fw.set (Fw.set (Fw.drop (Fw.app2 (N2:=N+64+1) (Fw.init hT) (by omega) (by omega) (by omega) (Qb _)) (.inl (hX P (.inr (.inr (.inl rfl)))))) (.inr (by omega))) (.inl (hX n (.inl rfl))))
  refine qhl (m.push (pv':= .row (N+64) 9 0 (V.pk.length+1)) (x:=⟨V.hosts[k],b,[],false,0,0⟩) ?_ (.inr ⟨N+64,?_,?_⟩) rfl ?_) (hfw _ _ _).tl s.g ?_
  ·simp [qan,qad,hd2,qaf,hr,q2,qcl]
  ·simp [hlen]
  ·simp [qan,qad,hd1,q1,PkN]
  ·intro i y hi hy h1 h2;have h3:¬i=P:=fun e=>h2 (by rw [e];rfl)
   have h4:¬i=N+64:=by rintro rfl;rw [hT'] at hi;cases hi
   simp [qan,qad,qbd h3,qaf,hi,h1,h4,hy]
  ·intro O' N' lv' m' hl hk hTn hN;simp;refine ⟨_,_,rfl,⟨C,_,lv',_,m',?_⟩,Fw.then (hfw _ _ _) hk (qmv hX) hTn hN⟩;exact fun j hj=>(qmu (X:=fun j=>X j\/N<=j) (qqg hX (N1:=N) (pv':= .row (N+64) 9 0 (V.pk.length+1)) (fun t ht=>by simp only [vid,Option.some.injEq] at ht;omega) (Qb _)) hl (show N<=N+64+1 by omega) j hj).elim id .inr
end
end Go.Av
