/-
  Lemmas for the law.
-/
import Derived.Test.YtjdbnnnakpacjaaGreatK16
set_option linter.unusedVariables false
set_option linter.unusedSimpArgs false
set_option linter.constructorNameAsVariable false
namespace Go.Av
set_option maxRecDepth 4000
def qa5 {α:Type} [DecidableEq α] (l m:List α) (i:Nat):Bool:=decide (l.drop i=m.drop i)
theorem qb3 {α:Type} [DecidableEq α] {l m:List α} {i:Nat} (h1:i<l.length) (h2:i<m.length) (h:l[i]=m[i]):qa5 l m i=qa5 l m (i+1):=by
 unfold qa5;rw [decide_eq_decide,qme h1 h2];simp [h]
theorem qbg {α:Type} [DecidableEq α] {l m:List α} {i:Nat} (h1:i<l.length) (h2:i<m.length) (h:l[i]≠m[i]):qa5 l m i=false:=by
 unfold qa5;rw [decide_eq_false_iff_not,qme h1 h2];simp [h]
theorem qb2 {α:Type} [DecidableEq α] {l m:List α} (h:l.length=m.length):qa5 l m l.length=true:=by
 simp [qa5,h]
theorem qmh {α:Type} [DecidableEq α] {l m:List α}:qa5 l m 0=decide (l=m):=by simp [qa5]
theorem qjn (k1 k2:List KeyMatch) (p1 p2:Int) (r1 r2:List AV) (hb:k1.length<2^40):
   qac Φ f_151 [.agg (.slice 2 (k1.map KeyMatch.c):: .int .i64 p1::r1),.agg (.slice 2 (k2.map KeyMatch.c):: .int .i64 p2::r2)]=some (.val (.bool (decide (k1=k2/\p1=p2)))):=by
  rw [qaa (fn:=c_151) rfl rfl];by_cases q1:k1.length=k2.length
  rotate_left
  · have:k1≠k2:=fun h=>q1 (by rw [h])
    simp [c_151,q1,this]
  by_cases q2:p1=p2
  rotate_left
  · simp [c_151,q1,q2]
  subst q2;simp [c_151,q1];refine (qa3 k1.length (fun i e=>look 2 e=some (AV.ptr 0 (r1.length+1+1) 0 0)/\look 3 e=some (AV.ptr 1 (r2.length+1+1) 0 0)/\look 5 e=some (.int .i64 i))
    (fun i=>some (Rt.val (AV.bool (qa5 k1 k2 i)))) ?_ ?_ 0 _ (Qc _) ?_).trans (by simp [qa5])
  · rintro i e L hi hL ⟨h2,h3,h5⟩ ih
    have hi2:i<k2.length:=by omega
    have hw:=qal i (by omega);by_cases c:k1[i]=k2[i]
    · rw [qb3 hi hi2 c]
      simp [c_151_l0,KeyMatch.c,hi,hi2,h2,h3,h5,hw,c];exact ih _ ⟨by simp [h2],by simp [h3],by simp⟩
    · rw [qbg hi hi2 c]
      have c':(decide (k1[i].value=k2[i].value)&&decide (k1[i].mask=k2[i].mask))=false:=by
        simp [KeyMatch.ext_iff] at c ⊢;exact c
      simp [c_151_l0,KeyMatch.c,hi,hi2,h2,h3,h5,c']
  · rintro e L hL ⟨h2,h3,h5⟩
    rw [qb2 q1];simp [c_151_l0,c_151_k1, *]
  · simp
theorem qkm (a1 a2:Int) (l1 l2:List Int) (hb:l1.length<2^40):
   qac Φ f_51 [.agg [.int .i64 a1,.slice 1 (l1.map c32)],.agg [.int .i64 a2,.slice 1 (l2.map c32)]]=some (.val (.bool (decide (a1=a2/\l1=l2)))):=by
  rw [qaa (fn:=c_51) rfl rfl];by_cases q2:a1=a2
  rotate_left
  · simp [c_51,q2]
  subst q2;by_cases q1:l1.length=l2.length
  rotate_left
  · have:l1≠l2:=fun h=>q1 (by rw [h])
    simp [c_51,q1,this]
  simp [c_51,q1];refine (qa3 l1.length (fun i e=>look 2 e=some (AV.ptr 0 2 0 0)/\look 3 e=some (AV.ptr 1 2 0 0)/\look 5 e=some (.int .i64 i))
    (fun i=>some (Rt.val (AV.bool (qa5 l1 l2 i)))) ?_ ?_ 0 _ (Qc _) ?_).trans (by simp [qa5])
  · rintro i e L hi hL ⟨h2,h3,h5⟩ ih
    have hi2:i<l2.length:=by omega
    have hw:=qal i (by omega);by_cases c:l1[i]=l2[i]
    · rw [qb3 hi hi2 c]
      simp [c_51_l0,c32,hi,hi2,h2,h3,h5,hw,c];exact ih _ ⟨by simp [h2],by simp [h3],by simp⟩
    · rw [qbg hi hi2 c]
      simp [c_51_l0,c32,hi,hi2,h2,h3,h5,c]
  · rintro e L hL ⟨h2,h3,h5⟩
    rw [qb2 q1];simp [c_51_l0,c_51_k1, *]
  · simp
theorem qz7 (k1 k2:List KeyMatch) (p1 p2:Int) (a1 a2:Int) (l1 l2:List Int) (hb:k1.length<2^40) (hb':l1.length<2^40):
   qac Φ f_86 [.agg [.slice 2 (k1.map KeyMatch.c),.int .i64 p1,.int .i64 a1,.slice 1 (l1.map c32)],.agg [.slice 2 (k2.map KeyMatch.c),.int .i64 p2,.int .i64 a2,.slice 1 (l2.map c32)]]=some (.val (.bool (decide (k1=k2/\p1=p2/\a1=a2/\l1=l2)))):=by
  rw [qaa (fn:=c_86) rfl rfl];by_cases q1:k1=k2
  · by_cases q2:p1=p2
    · subst q1
      simp [c_86,qjn,qkm,hb,hb',q2]
    · subst q1
      simp [c_86,qjn,hb,q2]
  · simp [c_86,qjn,hb,q1]
theorem qaao (l m:List Int) (hb:l.length<2^40):qac Φ f_165 [.slice 1 (l.map c32),.slice 1 (m.map c32)]=some (.val (.bool (decide (l=m)))):=by
 rw [qaa (fn:=c_165) rfl rfl];by_cases q1:l.length=m.length
 rotate_left
 ·have:l≠m:=fun h=>q1 (by rw [h])
  simp [c_165,q1,this]
 simp [c_165,q1];refine (qa3 l.length (fun i e=>look 1 e=some (.slice 1 (m.map c32))/\look 12 e=some (.slice 1 (l.map c32))/\look 13 e=some (.int .i64 m.length)/\look 14 e=some (.int .i64 i))
  (fun i=>some (Rt.val (AV.bool (qa5 l m i)))) ?_ ?_ 0 _ (Qc _) ?_).trans (by simp [qa5])
 ·rintro i e L hi hL ⟨h1,h12,h13,h14⟩ ih;have hi2:i<m.length:=by omega
  have hw:=qal i (by omega);by_cases c:l[i]=m[i]
  ·rw [qb3 hi hi2 c];simp [c_165_l0,c32,hi,hi2,h1,h12,h13,h14,hw,c];exact ih _ ⟨by simp [h1],by simp [h12],by simp [h13],by simp⟩
  ·rw [qbg hi hi2 c];simp [c_165_l0,c32,hi,hi2,h1,h12,h13,h14,c]
 ·rintro e L hL ⟨h1,h12,h13,h14⟩;rw [qb2 q1];simp [c_165_l0,c_165_k1, *]
 ·simp
theorem qmf (k1 k2:List KeyMatch) (p1 p2:Int) (r1 r2:List AV) (hb:k1.length<2^40):
   qac Φ f_162 [.agg (.slice 2 (k1.map KeyMatch.c):: .int .i64 p1::r1),.agg (.slice 2 (k2.map KeyMatch.c):: .int .i64 p2::r2)]=some (.val (.bool (decide (k1=k2/\p1=p2)))):=by
  rw [qaa (fn:=c_162) rfl rfl];by_cases q2:p1=p2
  rotate_left
  · simp [c_162,q2]
  by_cases q1:k1.length=k2.length
  rotate_left
  · have:k1≠k2:=fun h=>q1 (by rw [h])
    simp [c_162,q1,this,q2]
  subst q2;simp [c_162,q1];refine (qdy k1.length (fun i e h=>look 2 e=some (AV.ptr 0 (r1.length+1+1) 0 0)/\look 3 e=some (AV.ptr 1 (r2.length+1+1) 0 0)/\look 22 e=some (.slice 2 (k1.map KeyMatch.c))/\look 23 e=some (.int .i64 k2.length)/\look 24 e=some (.int .i64 i)/\
      HP [(0,AO.row (r1.length+1+1) [.slice 2 (k1.map KeyMatch.c):: .int .i64 p1::r1]),(1,AO.row (r2.length+1+1) [.slice 2 (k2.map KeyMatch.c):: .int .i64 p1::r2])] 2 h)
    (fun i=>some (Rt.val (AV.bool (qa5 k1 k2 i)))) ?_ ?_ 0 _ _ (Qc _) ?_).trans (by simp [qa5])
  · rintro i e _ L hi hL ⟨h2,h3,h22,h23,h24,T,n,hT,rfl⟩ ih
    have hi2:i<k2.length:=by omega
    have hw:=qal i (by omega);have hT':=hT (n+2) (Qb _);by_cases c:k1[i]=k2[i]
    · rw [qb3 hi hi2 c]
      simp [c_162_l0,KeyMatch.c,hi,hi2,h3,h22,h23,h24,hw,c,hT'];exact ih _ _ ⟨by simp [h2],by simp [h3],by simp [h22],by simp [h23],by simp,HP.next hT⟩
    · rw [qbg hi hi2 c]
      have c':(decide (k1[i].value=k2[i].value)&&decide (k1[i].mask=k2[i].mask))=false:=by
        simp [KeyMatch.ext_iff] at c ⊢;exact c
      simp [c_162_l0,KeyMatch.c,hi,hi2,h3,h22,h23,h24,c',hT']
  · rintro e _ L hL ⟨h2,h3,h22,h23,h24,T,n,hT,rfl⟩
    rw [qb2 q1];simp [c_162_l0,c_162_k1, *]
  · simp
    exact HP.mk
theorem Entry.eq_iff (x y:Entry):x=y↔x.keys=y.keys/\x.priority=y.priority/\x.call.action=y.call.action/\x.call.args=y.call.args:=by
 constructor
 ·rintro rfl;simp
 ·rintro ⟨a,b,c,d⟩;obtain ⟨k,p,u,v⟩:=x;obtain ⟨k',p',u',v'⟩:=y;simp only at a b c d;subst a b c d;rfl
def Entry.sm (x:Entry):Prop:=x.keys.length<2^40/\x.call.args.length<2^40
theorem qqc (x y:Entry) (hb:x.sm):qac Φ f_96 [.agg (Entry.c x),.agg (Entry.c y)]=some (.val (.bool (decide (x=y)))):=by
 rw [qaa (fn:=c_96) rfl rfl];have hk:=qmf x.keys y.keys x.priority y.priority [.int .i64 x.call.action,.slice 1 (x.call.args.map c32)] [.int .i64 y.call.action,.slice 1 (y.call.args.map c32)] hb.1;have ha:=qaao x.call.args y.call.args hb.2;rw [decide_eq_decide.2 (Entry.eq_iff x y)];by_cases q1:x.keys=y.keys/\x.priority=y.priority
 ·rw [decide_eq_true q1] at hk;by_cases q3:x.call.action=y.call.action
  ·have e:decide (x.keys=y.keys/\x.priority=y.priority/\x.call.action=y.call.action/\x.call.args=y.call.args)=decide (x.call.args=y.call.args):=by simp [q1,q3]
   simp only [e];rw [q3] at hk;simp [c_96,Entry.c,hk,ha,q3]
  ·have e:decide (x.keys=y.keys/\x.priority=y.priority/\x.call.action=y.call.action/\x.call.args=y.call.args)=false:=by simp [q1,q3]
   simp only [e];simp [c_96,Entry.c,hk,q3]
 ·have q2:¬(x.keys=y.keys/\x.priority=y.priority/\x.call.action=y.call.action/\x.call.args=y.call.args):=fun h=>q1 ⟨h.1,h.2.1⟩
  have q1':decide (x.keys=y.keys/\x.priority=y.priority)=false:=decide_eq_false q1;rw [q1'] at hk;have e:decide (x.keys=y.keys/\x.priority=y.priority/\x.call.action=y.call.action/\x.call.args=y.call.args)=false:=decide_eq_false q2;rw [e];simp [c_96,Entry.c,hk]
theorem qzh (x y:Entry) (hb:x.sm):qac Φ f_86 [.agg (Entry.c x),.agg (Entry.c y)]=some (.val (.bool (decide (x=y)))):=by
 rw [decide_eq_decide.2 (Entry.eq_iff x y)];exact qz7 x.keys y.keys x.priority y.priority x.call.action y.call.action x.call.args y.call.args hb.1 hb.2
theorem Rw.ce (x:Rw):Rw.c x=[.int .i64 x.id,.slice 2 (x.entry.keys.map KeyMatch.c),.int .i64 x.entry.priority,.int .i64 x.entry.call.action,.slice 1 (x.entry.call.args.map c32)]:=by simp [Rw.c]
theorem cSe {α:Type} (z:Nat) (f:α->List AV) (l:List α):cS z f l=[.slice z (l.map f)]:=by simp [cS]
theorem ActionCall.ce (x:ActionCall):ActionCall.c x=[.int .i64 x.action,.slice 1 (x.args.map c32)]:=by simp [ActionCall.c]
theorem Entry.ce (x:Entry):Entry.c x=[.slice 2 (x.keys.map KeyMatch.c),.int .i64 x.priority,.int .i64 x.call.action,.slice 1 (x.call.args.map c32)]:=by simp [Entry.c]
theorem Config.ce (x:Config):Config.c x=[.slice 1 (x.rows.map (cS 5 Rw.c)),.slice 1 (x.nextID.map cI),.slice 2 (x.defaults.map ActionCall.c),.slice 1 (x.registers.map (cS 1 c32))]:=by simp [Config.c]
theorem cIe (x:Int):cI x=[.int .i64 x]:=by simp [cI]
theorem c32e (x:Int):c32 x=[.int .u32 x]:=by simp [c32]
theorem Rw.eq_iff (x y:Rw):x=y↔x.id=y.id/\x.entry=y.entry:=by
 constructor
 ·rintro rfl;simp
 ·rintro ⟨a,b⟩;obtain ⟨u,v⟩:=x;obtain ⟨u',v'⟩:=y;simp only at a b;subst a b;rfl
theorem ActionCall.eq_iff (x y:ActionCall):x=y↔x.action=y.action/\x.args=y.args:=by
 constructor
 ·rintro rfl;simp
 ·rintro ⟨a,b⟩;obtain ⟨u,v⟩:=x;obtain ⟨u',v'⟩:=y;simp only at a b;subst a b;rfl
structure CfgS (a:Config):Prop where
 rl:a.rows.length<2^40
 rs:∀l∈a.rows,l.length<2^40/\∀r∈l,r.entry.sm
 nl:a.nextID.length<2^40
 dl:a.defaults.length<2^40
 ds:∀d∈a.defaults,d.args.length<2^40
 gl:a.registers.length<2^40
 gs:∀l∈a.registers,l.length<2^40
theorem Config.eq_iff (a b:Config):a=b↔a.rows=b.rows/\a.nextID=b.nextID/\a.defaults=b.defaults/\a.registers=b.registers:=by
 constructor
 ·rintro rfl;simp
 ·rintro ⟨h1,h2,h3,h4⟩;obtain ⟨x,y,z,u⟩:=a;obtain ⟨x',y',z',u'⟩:=b;simp only at h1 h2 h3 h4;subst h1 h2 h3 h4;rfl
theorem qs6 (l m:List Int) (hb:l.length<2^40):qac Φ f_16 [.slice 1 (l.map cI),.slice 1 (m.map cI)]=some (.val (.bool (decide (l=m)))):=by
 rw [qaa (fn:=c_16) rfl rfl];by_cases q1:l.length=m.length
 rotate_left
 ·have:l≠m:=fun h=>q1 (by rw [h])
  simp [c_16,q1,this]
 simp [c_16,q1];refine (qa3 l.length (fun i e=>look 0 e=some (.slice 1 (l.map cI))/\look 1 e=some (.slice 1 (m.map cI))/\look 5 e=some (.int .i64 i))
  (fun i=>some (Rt.val (AV.bool (qa5 l m i)))) ?_ ?_ 0 _ (Qc _) ?_).trans (by simp [qa5])
 ·rintro i e L hi hL ⟨h0,h1,h5⟩ ih;have hi2:i<m.length:=by omega
  have hw:=qal i (by omega);by_cases c:l[i]=m[i]
  ·rw [qb3 hi hi2 c];simp [c_16_l0,cIe,hi,hi2,h0,h1,h5,hw,c];exact ih _ ⟨by simp [h0],by simp [h1],by simp⟩
  ·rw [qbg hi hi2 c];simp [c_16_l0,cIe,hi,hi2,h0,h1,h5,c]
 ·rintro e L hL ⟨h0,h1,h5⟩;rw [qb2 q1];simp [c_16_l0,c_16_k1, *]
 ·simp
theorem qabk (l m:List Int) (hb:l.length<2^40):qac Φ f_97 [.slice 1 (l.map c32),.slice 1 (m.map c32)]=some (.val (.bool (decide (l=m)))):=by
 rw [qaa (fn:=c_97) rfl rfl];by_cases q1:l.length=m.length
 rotate_left
 ·have:l≠m:=fun h=>q1 (by rw [h])
  simp [c_97,q1,this]
 simp [c_97,q1];refine (qa3 l.length (fun i e=>look 0 e=some (.slice 1 (l.map c32))/\look 1 e=some (.slice 1 (m.map c32))/\look 5 e=some (.int .i64 i))
  (fun i=>some (Rt.val (AV.bool (qa5 l m i)))) ?_ ?_ 0 _ (Qc _) ?_).trans (by simp [qa5])
 ·rintro i e L hi hL ⟨h0,h1,h5⟩ ih;have hi2:i<m.length:=by omega
  have hw:=qal i (by omega);by_cases c:l[i]=m[i]
  ·rw [qb3 hi hi2 c];simp [c_97_l0,c32e,hi,hi2,h0,h1,h5,hw,c];exact ih _ ⟨by simp [h0],by simp [h1],by simp⟩
  ·rw [qbg hi hi2 c];simp [c_97_l0,c32e,hi,hi2,h0,h1,h5,c]
 ·rintro e L hL ⟨h0,h1,h5⟩;rw [qb2 q1];simp [c_97_l0,c_97_k1, *]
 ·simp
theorem qabi (l m:List (List Int)) (hb:l.length<2^40) (hf:∀x∈l,x.length<2^40):qac Φ f_49 [.slice 1 (l.map (cS 1 c32)),.slice 1 (m.map (cS 1 c32))]=some (.val (.bool (decide (l=m)))):=by
 rw [qaa (fn:=c_49) rfl rfl];by_cases q1:l.length=m.length
 rotate_left
 ·have:l≠m:=fun h=>q1 (by rw [h])
  simp [c_49,q1,this]
 simp [c_49,q1];refine (qa3 l.length (fun i e=>look 0 e=some (.slice 1 (l.map (cS 1 c32)))/\look 1 e=some (.slice 1 (m.map (cS 1 c32)))/\look 5 e=some (.int .i64 i))
  (fun i=>some (Rt.val (AV.bool (qa5 l m i)))) ?_ ?_ 0 _ (Qc _) ?_).trans (by simp [qa5])
 ·rintro i e L hi hL ⟨h0,h1,h5⟩ ih;have hi2:i<m.length:=by omega
  have hw:=qal i (by omega);have hee:=qabk l[i] m[i] (hf _ (Qd hi));by_cases c:l[i]=m[i]
  ·rw [decide_eq_true c] at hee;rw [qb3 hi hi2 c];simp [c_49_l0,cSe,hi,hi2,h0,h1,h5,hw,hee];refine (ih _ ⟨by simp [h0],by simp [h1],by simp⟩).trans (by simp)
  ·rw [decide_eq_false c] at hee;rw [qbg hi hi2 c];simp [c_49_l0,cSe,hi,hi2,h0,h1,h5,hee]
 ·rintro e L hL ⟨h0,h1,h5⟩;rw [qb2 q1];simp [c_49_l0,c_49_k1, *]
 ·simp
theorem qabj (l m:List Rw) (hb:l.length<2^40) (hs:∀r∈l,r.entry.sm):qac Φ f_50 [.slice 5 (l.map Rw.c),.slice 5 (m.map Rw.c)]=some (.val (.bool (decide (l=m)))):=by
 rw [qaa (fn:=c_50) rfl rfl];by_cases q1:l.length=m.length
 rotate_left
 ·have:l≠m:=fun h=>q1 (by rw [h])
  simp [c_50,q1,this]
 simp [c_50,q1];refine (qa3 l.length (fun i e=>look 0 e=some (.slice 5 (l.map Rw.c))/\look 1 e=some (.slice 5 (m.map Rw.c))/\look 5 e=some (.int .i64 i))
  (fun i=>some (Rt.val (AV.bool (qa5 l m i)))) ?_ ?_ 0 _ (Qc _) ?_).trans (by simp [qa5])
 ·rintro i e L hi hL ⟨h0,h1,h5⟩ ih;have hi2:i<m.length:=by omega
  have hw:=qal i (by omega);have hee:=qzh l[i].entry m[i].entry (hs _ (Qd hi));simp only [Entry.ce] at hee;by_cases c1:l[i].id=m[i].id
  rotate_left
  ·rw [qbg hi hi2 (fun h=>c1 (by rw [h]))];simp [c_50_l0,Rw.ce,hi,hi2,h0,h1,h5,c1]
  by_cases c2:l[i].entry.priority=m[i].entry.priority
  rotate_left
  ·rw [qbg hi hi2 (fun h=>c2 (by rw [h]))];simp [c_50_l0,Rw.ce,hi,hi2,h0,h1,h5,c1,c2]
  by_cases c:l[i].entry=m[i].entry
  ·rw [decide_eq_true c,c2] at hee;rw [qb3 hi hi2 ((Rw.eq_iff _ _).2 ⟨c1,c⟩)];simp [c_50_l0,Rw.ce,hi,hi2,h0,h1,h5,hw,c1,c2,hee];refine (ih _ ⟨by simp [h0],by simp [h1],by simp⟩).trans (by simp)
  ·rw [decide_eq_false c,c2] at hee;rw [qbg hi hi2 (fun h=>c (by rw [h]))];simp [c_50_l0,Rw.ce,hi,hi2,h0,h1,h5,c1,c2,hee]
 ·rintro e L hL ⟨h0,h1,h5⟩;rw [qb2 q1];simp [c_50_l0,c_50_k1, *]
 ·simp
theorem qzg (x y:ActionCall) (h:x.args.length<2^40):qac Φ f_51 [.agg (ActionCall.c x),.agg (ActionCall.c y)]=some (.val (.bool (decide (x=y)))):=by
 rw [decide_eq_decide.2 (ActionCall.eq_iff x y)];exact qkm x.action y.action x.args y.args h
theorem qxa (a b:Config) (f:CfgS a):qac Φ f_15 [.agg (Config.c a),.agg (Config.c b)]=some (.val (.bool (decide (a=b)))):=by
 have ee:decide (a=b)=decide (a.rows=b.rows/\a.nextID=b.nextID/\a.defaults=b.defaults/\a.registers=b.registers):=decide_eq_decide.2 (Config.eq_iff a b);rw [ee,qaa (fn:=c_15) rfl rfl];have g2:=qs6 a.nextID b.nextID f.nl;have g4:=qabi a.registers b.registers f.gl f.gs;by_cases q1:a.rows.length=b.rows.length
 rotate_left
 ·have:a.rows≠b.rows:=fun h=>q1 (by rw [h])
  simp [c_15,Config.ce,q1,this]
 by_cases q2:a.nextID=b.nextID
 rotate_left
 ·simp [c_15,Config.ce,q1,q2,g2]
 by_cases q3:a.defaults.length=b.defaults.length
 rotate_left
 ·have:a.defaults≠b.defaults:=fun h=>q3 (by rw [h])
  rw [q2] at g2;simp [c_15,Config.ce,q1,q2,g2,q3,this]
 by_cases q4:a.registers=b.registers
 rotate_left
 ·rw [q2] at g2;simp [c_15,Config.ce,q1,q2,q3,g2,g4,q4]
 rw [q2] at g2;rw [q4] at g4;simp [c_15,Config.ce,q1,q2,q3,q4,g2,g4];refine (qa3 a.rows.length (fun i e=>look 2 e=some (.ptr 0 4 0 0)/\look 3 e=some (.ptr 1 4 0 0)/\look 5 e=some (.int .i64 i))
  (fun i=>some (Rt.val (AV.bool (qa5 a.rows b.rows i&&decide (a.defaults=b.defaults))))) ?_ ?_ 0 _ (Qc _) ?_).trans (by simp [qa5])
 ·rintro i e L hi hL ⟨h2,h3,h5⟩ ih;have hi2:i<b.rows.length:=by omega
  have hw:IntKind.wrap .i64 ((i:Int)+1)=((i+1:Nat):Int):=qbs (by omega) (by have:=f.rl;omega);obtain ⟨u1,u2⟩:=f.rs _ (Qd hi);have hee:=qabj a.rows[i] b.rows[i] u1 u2;by_cases c:a.rows[i]=b.rows[i]
  ·rw [decide_eq_true c] at hee;rw [qb3 hi hi2 c];simp [c_15_l0,cSe,hi,hi2,h2,h3,h5,hee,hw];refine (ih _ ⟨by simp [h2],by simp [h3],by simp⟩).trans (by simp)
  ·rw [decide_eq_false c] at hee;rw [qbg hi hi2 c];simp [c_15_l0,cSe,hi,hi2,h2,h3,h5,hee]
 ·rintro e L hL ⟨h2,h3,h5⟩;rw [qb2 q1];simp [c_15_l0,c_15_k3,h2,h5,hL];refine (qa3 a.defaults.length (fun i e=>look 2 e=some (.ptr 0 4 0 0)/\look 3 e=some (.ptr 1 4 0 0)/\look 6 e=some (.int .i64 i))
   (fun i=>some (Rt.val (AV.bool (qa5 a.defaults b.defaults i)))) ?_ ?_ 0 _ (Qc _) ?_).trans (by simp [qa5])
  ·rintro i e L' hi hL' ⟨h2,h3,h6⟩ ih;have hi2:i<b.defaults.length:=by omega
   have hw:IntKind.wrap .i64 ((i:Int)+1)=((i+1:Nat):Int):=qbs (by omega) (by have:=f.dl;omega);have hee:=qzg a.defaults[i] b.defaults[i] (f.ds _ (Qd hi));simp only [ActionCall.ce] at hee;by_cases c:a.defaults[i]=b.defaults[i]
   ·rw [decide_eq_true c] at hee;rw [qb3 hi hi2 c];simp [c_15_l1,ActionCall.ce,hi,hi2,h2,h3,h6,hee,hw];refine (ih _ ⟨by simp [h2],by simp [h3],by simp⟩).trans (by simp)
   ·rw [decide_eq_false c] at hee;rw [qbg hi hi2 c];simp [c_15_l1,ActionCall.ce,hi,hi2,h2,h3,h6,hee]
  ·rintro e L' hL' ⟨h2,h3,h6⟩;rw [qb2 q3];simp [c_15_l1,c_15_k2,h2,h6,hL']
  ·simp [h2,h3]
 ·simp
theorem Action.ce (x:Action):Action.c x=[.str x.name,.slice 2 (x.params.map Fld.c),.slice 7 (x.body.map Statement.c)]:=by simp [Action.c]
theorem Header.ce (x:Header):Header.c x=[.str x.name,.slice 2 (x.fields.map Fld.c)]:=by simp [Header.c]
theorem Register.ce (x:Register):Register.c x=[.str x.name,.int .i64 x.width,.int .i64 x.size]:=by simp [Register.c]
theorem Statement.ce (x:Statement):Statement.c x=[.int .i64 x.kind,.int .i64 x.dst.header,.int .i64 x.dst.field,.int .i64 x.register,.int .i64 x.header,.slice 3 (x.index.map ExprNode.c),.slice 3 (x.value.map ExprNode.c)]:=by simp [Statement.c]
theorem Tbl.ce (x:Tbl):Tbl.c x=[.str x.name,.slice 3 (x.keys.map TableKey.c),.slice 1 (x.actions.map cI),.int .i64 x.dflt.action,.slice 1 (x.dflt.args.map c32),.int .i64 x.size]:=by simp [Tbl.c]
theorem ParserState.ce (x:ParserState):ParserState.c x=[.str x.name,.slice 1 (x.extract.map cI),.bool x.select,.int .i64 x.on.header,.int .i64 x.on.field,.slice 3 (x.cases.map SelectCase.c),.int .i64 x.dflt]:=by simp [ParserState.c]
theorem ControlNode.ce (k t:Int) (c:List ExprNode) (a b:List ControlNode):ControlNode.c (.mk k t c a b)=[.int .i64 k,.int .i64 t,.slice 3 (c.map ExprNode.c),.slice 5 (a.map ControlNode.c),.slice 5 (b.map ControlNode.c)]:=by simp [ControlNode.c,ControlNode.cs_eq]
theorem Prg.ce (x:Prg):Prg.c x=[.str x.name,.slice 2 (x.headers.map Header.c),.slice 2 (x.metadata.map Fld.c),.slice 3 (x.registers.map Register.c),.slice 3 (x.actions.map Action.c),.slice 6 (x.tables.map Tbl.c),.slice 7 (x.states.map ParserState.c),.slice 5 (x.control.map ControlNode.c),.slice 1 (x.deparser.map cI)]:=by simp [Prg.c]
def hp0 (p:Prg):AH:=⟨[(0,.row 9 [[.str p.name,.slice 2 (p.headers.map Header.c),.slice 2 (p.metadata.map Fld.c),.slice 3 (p.registers.map Register.c),.slice 3 (p.actions.map Action.c),.slice 6 (p.tables.map Tbl.c),.slice 7 (p.states.map ParserState.c),.slice 5 (p.control.map ControlNode.c),.slice 1 (p.deparser.map cI)]])],1⟩
structure PrgB (p:Prg):Prop where
 h:p.headers.length<2^40
 r:p.registers.length<2^40
 a:p.actions.length<2^40
 b:∀x∈p.actions,x.body.length<2^40
 t:p.tables.length<2^40
 s:p.states.length<2^40
 c:p.control.length<2^40
 co:∀x∈p.control,ControlNode.Ok qau x
theorem qacg {p:Prg} (o:p.Ok qau):PrgB p:=by
 obtain ⟨_,o1,o2,o3,o4,o5,o6,o7,o8⟩:=o;have e:=qdq;refine ⟨by have:=o1.1;omega,by have:=o3.1;omega,by have:=o4.1;omega,?_,by have:=o5.1;omega,by have:=o6.1;omega,by have:=o7.1;omega,o7.2⟩;intro x hx;have h:=o4.2 x hx;simp only [Action.Ok] at h;have:=h.2.2.1;omega
def hp1 (p:Prg) (c:Config):AH:=⟨[(0,.row 9 [[.str p.name,.slice 2 (p.headers.map Header.c),.slice 2 (p.metadata.map Fld.c),.slice 3 (p.registers.map Register.c),.slice 3 (p.actions.map Action.c),.slice 6 (p.tables.map Tbl.c),.slice 7 (p.states.map ParserState.c),.slice 5 (p.control.map ControlNode.c),.slice 1 (p.deparser.map cI)]]),(1,.row 4 [[.slice 1 (c.rows.map (cS 5 Rw.c)),.slice 1 (c.nextID.map cI),.slice 2 (c.defaults.map ActionCall.c),.slice 1 (c.registers.map (cS 1 c32))]])],2⟩
def tOk (p:Prg) (t:Int):Bool:=decide ((tblE p t).2=0)
theorem keyV {p:Prg} {x:Tbl} (h:keyE p x=none):∀k∈x.keys,k.kind=1\/k.kind=2\/k.kind=3:=by
 intro k hk;obtain ⟨i,hi,rfl⟩:=List.getElem_of_mem hk;have:=(fe_all.1 h) i hi;simp [hi] at this;split at this
 ·cases this
 ·split at this
  ·assumption
  ·cases this
structure TOk (p:Prg) (k:Nat) (hk:k<p.tables.length):Prop where
 keys:p.tables[k].keys.length<=6
 acts:p.tables[k].actions.length<=16
 kinds:∀x∈p.tables[k].keys,x.kind=1\/x.kind=2\/x.kind=3
 size:1<=p.tables[k].size/\p.tables[k].size<=256
theorem qoh {p:Prg} {t:Int} (h:tOk p t=true):∃(k:Nat) (hk:k<p.tables.length),t=k/\TOk p k hk:=by
 simp only [tOk,decide_eq_true_eq] at h;by_cases i0:t<0
 ·simp [tblE,qdb i0] at h
 by_cases i1:(p.tables.length:Int)<=t
 ·simp [tblE,qda i1] at h
 obtain ⟨k,rfl⟩:∃k:Nat,t=k:=⟨t.toNat,by omega⟩;have hk:k<p.tables.length:=by omega
 refine ⟨k,hk,rfl,?_⟩;unfold tblE at h;rw [qfv,Qa hk] at h;dsimp only at h;by_cases z0:idS p.tables[k].name=false
 ·rw [if_pos z0] at h;cases h
 rw [if_neg z0] at h;by_cases z1:6<p.tables[k].keys.length\/16<p.tables[k].actions.length
 ·rw [if_pos z1] at h;cases h
 rw [if_neg z1] at h;by_cases z2:p.tables[k].size<1\/256<p.tables[k].size
 ·rw [if_pos z2] at h;cases h
 rw [if_neg z2] at h;by_cases z3:(qhi p p.tables[k]).2≠0
 ·rw [if_pos z3] at h;exact absurd h z3
 refine ⟨by omega,by omega,?_,by omega⟩;unfold qhi at z3;cases q:keyE p p.tables[k] with
 | none=>exact keyV q
 | some e=>
  exfalso;rw [q] at z3;dsimp only at z3;obtain ⟨i,hi,hx⟩:=qjb q;simp only [Qt] at hx;obtain ⟨y,_,hy⟩:=hx;split at hy
  ·cases hy;exact z3 (by simp)
  ·split at hy
   ·cases hy
   ·cases hy;exact z3 (by simp)
theorem qlq (p:Prg) (f:PrgS p) (t:Int):qac Φ f_262 [.agg (Prg.c p),.int .i64 t]=some (.val (.bool (tOk p t))):=by
 rw [qaa (fn:=c_262) rfl rfl];have h:=qp0 p f t;simp only [Prg.e] at h;simp [c_262,Prg.e,h,tOk]
def kMax:List TableKey->Int->Int
 | [],a=>a
 | k::r,a=>kMax r (max a k.kind)
def ql9 (p:Prg) (t:Int):Int:=if tOk p t then (match at? p.tables t with
 | some x=>kMax x.keys 1
 | none=>0) else 0
theorem qy6:∀(l:List TableKey) (a:Int),a=3->(∀x∈l,x.kind=1\/x.kind=2\/x.kind=3)->kMax l a=3
 | [],a,h,_=>h
 | k::r,a,h,hk=>by
  subst h;have:=hk k (by simp);simp only [kMax];exact qy6 r _ (by omega) fun x hx=>hk x (by simp [hx])
theorem qab7 (p:Prg) (f:PrgS p) (t:Int):qac Φ f_222 [.agg (Prg.c p),.int .i64 t]=some (.val (.int .i64 (ql9 p t))):=by
 rw [qaa (fn:=c_222) rfl rfl];have h:=qlq p f t;simp only [Prg.e] at h;cases q:tOk p t with
 | false=>
  rw [q] at h;simp [c_222,Prg.e,h,ql9,q]
 | true=>
 rw [q] at h;obtain ⟨k,hk,rfl,o⟩:=qoh q;have hK:ql9 p (k:Int)=kMax p.tables[k].keys 1:=by simp [ql9,q,hk]
 rw [hK];have hb:=o.keys;simp [c_222,Prg.e,h,hk,Tbl.e];refine qa0 p.tables[k].keys.length (fun _=>[]) 0 (fun i e=>look 17 e=some (.slice 3 (p.tables[k].keys.map TableKey.c))/\look 18 e=some (.int .i64 p.tables[k].keys.length)/\look 19 e=some (.int .i64 i)/\∃a:Int,look 5 e=some (.int .i64 a)/\(a=1\/a=2)/\kMax (p.tables[k].keys.drop i) a=kMax p.tables[k].keys 1)
  (fun _=>some (Rt.val (.int .i64 (kMax p.tables[k].keys 1)))) ?_ ?_ 0 _ 0 (Qc _) (Qb _) ?_
 ·rintro i e n L hi hL _ ⟨h17,h18,h19,a,h5,ha,hm⟩ ih;have hw:=qal i (by omega);rw [Qi hi] at hm;simp only [kMax] at hm;have hkk:=o.kinds _ (Qd hi);by_cases k3:p.tables[k].keys[i].kind=3
  ·have:kMax p.tables[k].keys 1=3:=by
    rw [<- hm];exact qy6 _ _ (by omega) fun x hx=>o.kinds x (List.mem_of_mem_drop hx)
   rw [this];simp [c_222_l0,TableKey.e,h17,h18,h19,hi,k3]
  by_cases k2:p.tables[k].keys[i].kind=2
  ·simp [c_222_l0,TableKey.e,h17,h18,h19,hi,k2,hw];exact ih _ _ (Qc _) ⟨by simp [h17],by simp [h18],by simp,2,by simp,.inr rfl,by rw [<- hm];congr 1;omega⟩
  ·simp [c_222_l0,TableKey.e,h17,h18,h19,hi,k3,k2,hw];exact ih _ _ (Qc _) ⟨by simp [h17],by simp [h18],by simp,a,by simp [h5],ha,by rw [<- hm];congr 1;omega⟩
 ·rintro e n L hL _ ⟨h17,h18,h19,a,h5,ha,hm⟩;rw [List.drop_length] at hm;simp only [kMax] at hm;rw [<- hm];simp [c_222_l0,c_222_k1,h5,h18,h19,hL]
 ·simp
theorem qxs (p:Prg) (f:PrgS p) (k:Nat) (hk:k<p.tables.length) (q:tOk p k=true):qac Φ f_220 [.agg (Prg.c p),.int .i64 k]=some (.val (.slice 1 ((kWid p p.tables[k]).map cI))):=by
 rw [qaa (fn:=c_220) rfl rfl];have h:=qlq p f k;rw [q] at h;simp only [Prg.e] at h;obtain ⟨k',hk',e,o⟩:=qoh q;obtain rfl:k=k':=by omega
 have hb:=o.keys;have e0:(kWid p p.tables[k]).map cI=p.tables[k].keys.map fun y=>[AV.int .i64 (wid p y.field.header y.field.field)]:=by simp [kWid,cI]
 rw [e0];simp [c_220,Prg.e,h,hk,Tbl.e];refine (qa0 p.tables[k].keys.length (fun i=>[(0,.tok 1 i)]) 1 (fun i e=>look 2 e=some (.iptr 9 [Prg.c p] 0 0)/\look 5 e=some (.app 1 ((p.tables[k].keys.map fun y=>[AV.int .i64 (wid p y.field.header y.field.field)]).take i) 0)/\look 17 e=some (.slice 3 (p.tables[k].keys.map TableKey.c))/\look 18 e=some (.int .i64 p.tables[k].keys.length)/\look 19 e=some (.int .i64 i))
  (fun _=>some (Rt.val (.slice 1 (p.tables[k].keys.map fun y=>[AV.int .i64 (wid p y.field.header y.field.field)])))) ?_ ?_ 0 _ 1 (Qc _) (Qb _) ?_).trans (by simp)
 ·rintro i e n L hi hL hn ⟨h2,h5,h17,h18,h19⟩ ih;have hw:=qal i (by omega);have hv:=qop p p.tables[k].keys[i].field.header p.tables[k].keys[i].field.field;simp only [Prg.e] at hv;rw [Prg.e] at h2;have hn0:¬(0=n):=by omega
  have hn1:¬(n=0):=by omega
  have hm:min i p.tables[k].keys.length=i:=by omega
  have hb:(i+1)*8<=70368744177664:=by omega
  simp [c_220_l0,TableKey.e,h2,h5,h17,h18,h19,hi,hw,hn0,hm,hb,hv];exact ih _ _ (by omega) ⟨by simp [h2,Prg.e],by simp [qa8 hi],by simp [h17],by simp [h18],by simp⟩
 ·rintro e n L hL hn ⟨h2,h5,h17,h18,h19⟩;simp [c_220_l0,c_220_k1,h5,h18,h19,hL]
 ·simp [Prg.e]
def tAl (p:Prg) (t a:Int):Bool:=tOk p t&&(match at? p.tables t with
 | some x=>x.actions.any fun s=>decide (s=a)
 | none=>false)
theorem qok (p:Prg) (f:PrgS p) (t a:Int):qac Φ f_218 [.agg (Prg.c p),.int .i64 t,.int .i64 a]=some (.val (.bool (tAl p t a))):=by
 rw [qaa (fn:=c_218) rfl rfl];have h:=qlq p f t;simp only [Prg.e] at h;cases q:tOk p t with
 | false=>
  rw [q] at h;simp [c_218,Prg.e,h,tAl,q]
 | true=>
 rw [q] at h;obtain ⟨k,hk,rfl,o⟩:=qoh q;have hK:tAl p (k:Int) a=p.tables[k].actions.any fun s=>decide (s=a):=by simp [tAl,q,hk]
 rw [hK];have hb:=o.acts;simp [c_218,Prg.e,h,hk,Tbl.e];refine (qa0 p.tables[k].actions.length (fun _=>[]) 0 (fun i e=>look 2 e=some (.int .i64 a)/\look 18 e=some (.slice 1 (p.tables[k].actions.map cI))/\look 19 e=some (.int .i64 p.tables[k].actions.length)/\look 20 e=some (.int .i64 i))
  (fun i=>some (Rt.val (.bool ((p.tables[k].actions.drop i).any fun s=>decide (s=a))))) ?_ ?_ 0 _ 0 (Qc _) (Qb _) ?_).trans (by simp)
 ·rintro i e n L hi hL _ ⟨h2,h18,h19,h20⟩ ih;have hw:=qal i (by omega);rw [Qi hi,List.any_cons];by_cases z:p.tables[k].actions[i]=a
  ·generalize hX:some (Rt.val (AV.bool (decide (p.tables[k].actions[i]=a) || (p.tables[k].actions.drop (i+1)).any fun s=>decide (s=a))))=X;simp [c_218_l0,cI,h2,h18,h19,h20,hi,z];rw [<- hX];simp [z]
  ·rw [show (decide (p.tables[k].actions[i]=a) || (p.tables[k].actions.drop (i+1)).any fun s=>decide (s=a))=(p.tables[k].actions.drop (i+1)).any fun s=>decide (s=a) by simp [z]];generalize hX:some (Rt.val (AV.bool ((p.tables[k].actions.drop (i+1)).any fun s=>decide (s=a))))=X;simp [c_218_l0,cI,h2,h18,h19,h20,hi,z,hw];rw [<- hX];exact ih _ _ (Qc _) ⟨by simp [h2],by simp [h18],by simp [h19],by simp⟩
 ·rintro e n L hL _ ⟨h2,h18,h19,h20⟩;simp [c_218_l0,c_218_k1,h19,h20,hL]
 ·simp
def pmI (n k:Nat):Int:=2^k - 2^(k - n)
theorem qagj:∀k:Nat,k<33->∀n:Nat,n<33->n<=k->qgj .u32 (2^k - 1) (ishr .u32 (2^k - 1) (n:Int))=pmI n k:=by decide+kernel
theorem qabg (n k:Nat) (h:n<=k) (h1:1<=k) (h2:k<=32):qac Φ f_299 [.int .i64 n,.int .i64 k]=some (.val (.int .u32 (pmI n k))):=by
 rw [qaa (fn:=c_299) rfl rfl];have hv:=qis k;have hm:=qfq k;have hw:wBad (k:Int)=false:=wBad_false.2 ⟨by omega,by omega⟩;have hM:qce (k:Int)=2^k - 1:=by simp [qce,hw]
 rw [hw] at hv;rw [hM] at hm;have hp:=qagj k (by omega) n (by omega) h;have n1:¬((n:Int)<0):=by omega
 have n2:¬((k:Int)<n):=by omega
 simp [c_299,hv,hm,n1,n2];exact hp
def plG (m:Int) (k:Nat) (n:Nat):Option Int:=if pmI n k=m then some (n:Int) else none
def plE (m w:Int):Option Int:=if wBad w then none else fe (plG m w.toNat) (w.toNat+1) 0
def plV (o:Option Int):Rt:= .val (.tup [.int .i64 (o.getD 0),.bool o.isSome])
theorem qaec (m w:Int):qac Φ f_265 [.int .u32 m,.int .i64 w]=some (plV (plE m w)):=by
 rw [qaa (fn:=c_265) rfl rfl];have hv:=qis w;cases q:wBad w with
 | true=>
  rw [q] at hv;simp [c_265,hv,plE,q,plV]
 | false=>
 rw [q] at hv;obtain ⟨w1,w2⟩:=wBad_false.1 q;obtain ⟨k,rfl⟩:∃k:Nat,w=k:=⟨w.toNat,by omega⟩;have hw1:=qal k (by omega);have hE:plE m (k:Int)=fe (plG m k) (k+1) 0:=by simp [plE,q]
 rw [hE];simp [c_265,hv,hw1];refine qa0 (k+1) (fun _=>[]) 0 (fun i e=>look 0 e=some (.int .u32 m)/\look 1 e=some (.int .i64 k)/\look 12 e=some (.int .i64 ((k:Int)+1))/\look 13 e=some (.int .i64 i))
  (fun i=>some (plV (fe (plG m k) (k+1) i))) ?_ ?_ 0 _ 0 (Qc _) (Qb _) ?_
 ·rintro i e n L hi hL _ ⟨h0,h1,h12,h13⟩ ih;have hw:=qal i (by omega);have hp:=qabg i k (by omega) (by omega) (by omega);have hlt:(i:Int)<(k:Int)+1:=by omega
  by_cases z:pmI i k=m
  ·rw [qav (x:=(i:Int)) hi (by simp [plG,z])];subst z;simp [c_265_l0,h0,h1,h12,h13,hp,hlt,plV]
  ·rw [qbj hi (by simp [plG,z])];generalize hX:some (plV (fe (plG m k) (k+1) (i+1)))=X;simp [c_265_l0,h0,h1,h12,h13,hp,hlt,z,hw];rw [<- hX];exact ih _ _ (Qc _) ⟨by simp [h0],by simp [h1],by simp [h12],by simp⟩
 ·rintro e n L hL _ ⟨h0,h1,h12,h13⟩;rw [qb9];simp [c_265_l0,c_265_k1,h12,h13,hL,plV]
 ·simp
theorem KeyMatch.ce (m:KeyMatch):KeyMatch.c m=[.int .u32 m.value,.int .u32 m.mask]:=by simp [KeyMatch.c]
def keyK (m:KeyMatch) (kind w:Int):Int:=
 if fits m.value w=false\/fits m.mask w=false then 9
 else if m.value.toNat&&& m.mask.toNat≠m.value.toNat then 5
 else if kind=1/\m.mask≠qce w then 11
 else if kind=2/\(plE m.mask w).isSome=false then 11 else 0
theorem qac9 (m:KeyMatch) (kind w:Int) (h1:ok32 0 m.value) (h2:ok32 0 m.mask):qac Φ f_221 [.agg (KeyMatch.c m),.int .i64 kind,.int .i64 w]=some (.val (.int .i64 (keyK m kind w))):=by
 rw [qaa (fn:=c_221) rfl rfl];have f1:=qjd m.value w;have f2:=qjd m.mask w;have hm:=qfq w;have hp:=qaec m.mask w;have ha:=qk9 h1 h2;unfold keyK;cases q1:fits m.value w with
 | false=>rw [q1] at f1;simp [c_221,KeyMatch.ce,f1]
 | true=>
 rw [q1] at f1;cases q2:fits m.mask w with
 | false=>rw [q2] at f2;simp [c_221,KeyMatch.ce,f1,f2]
 | true=>
 rw [q2] at f2;by_cases z:qgj .u32 m.value m.mask=0
 rotate_left
 ·have z':¬(m.value.toNat&&& m.mask.toNat=m.value.toNat):=fun h=>z (ha.2 h)
  simp [c_221,KeyMatch.ce,f1,f2,z,z']
 have z':=ha.1 z;by_cases k1:kind=1
 ·subst k1;by_cases y:m.mask=qce w
  ·rw [y] at f2 z z';simp [c_221,KeyMatch.ce,f1,f2,z,z',hm,y]
  ·simp [c_221,KeyMatch.ce,f1,f2,z,z',hm,y]
 by_cases k2:kind=2
 ·subst k2;cases y:plE m.mask w with
  | none=>rw [y] at hp;simp [plV] at hp;simp [c_221,KeyMatch.ce,f1,f2,z,z',hp]
  | some x=>rw [y] at hp;simp [plV] at hp;simp [c_221,KeyMatch.ce,f1,f2,z,z',hp]
 simp [c_221,KeyMatch.ce,f1,f2,z,z',k1,k2]
structure EntS (x:Entry):Prop where
 kl:x.keys.length<2^40
 ks:∀m∈x.keys,ok32 0 m.value/\ok32 0 m.mask
 al:x.call.args.length<2^40
 ar:∀v∈x.call.args,ok32 0 v
def entF (p:Prg) (t:Int) (x:Entry):Int:=if x.priority<0 then 9 else if 255<x.priority then 9 else if x.priority≠0/\ql9 p t≠3 then 11 else if tAl p t x.call.action=false then 8 else qfx p x.call
def entG (p:Prg) (tb:Tbl) (x:Entry) (i:Nat):Option Int:=match x.keys[i]?,tb.keys[i]? with
 | some m,some k=>if keyK m k.kind (wid p k.field.header k.field.field)=0 then none else some (keyK m k.kind (wid p k.field.header k.field.field))
 | _,_=>none
def entE (p:Prg) (t:Int) (x:Entry):Int:=if (tblE p t).2≠0 then (tblE p t).2 else match at? p.tables t with
 | some tb=>if x.keys.length≠tb.keys.length then 2 else (fe (entG p tb x) tb.keys.length 0).getD (entF p t x)
 | none=>0
theorem qadb (p:Prg) (f:PrgS p) (t:Int) (x:Entry) (s:EntS x) (e:Env) (n:Nat) (h1:look 1 e=some (.int .i64 t)) (h3:look 3 e=some (.iptr 9 [Prg.c p] 0 0)) (h5:look 5 e=some (.iptr 4 [Entry.c x] 0 0)):
  go Φ (finP [.tmp 6]) [.c c_159_k1] .normal ⟨e,⟨[],n⟩⟩=some (.val (.int .i64 (entF p t x))):=by
 have hk:=qab7 p f t;have ha:=qok p f t x.call.action;have hc:=qmw p f x.call s.al;simp only [Prg.e,ActionCall.ce] at hk ha hc;rw [Prg.e] at h3;rw [Entry.ce] at h5;unfold entF;by_cases p0:x.priority<0
 ·simp [c_159_k1,h5,p0]
 by_cases p1:255<x.priority
 ·simp [c_159_k1,h5,p0,p1]
 by_cases p2:x.priority=0
 ·cases q:tAl p t x.call.action with
  | false=>rw [q] at ha;simp [c_159_k1,h1,h3,h5,p2,ha]
  | true=>rw [q] at ha;simp [c_159_k1,h1,h3,h5,p2,ha,hc]
 by_cases p3:ql9 p t=3
 ·cases q:tAl p t x.call.action with
  | false=>rw [q] at ha;simp [c_159_k1,h1,h3,h5,p0,p1,p2,p3,hk,ha]
  | true=>rw [q] at ha;simp [c_159_k1,h1,h3,h5,p0,p1,p2,p3,hk,ha,hc]
 ·simp [c_159_k1,h1,h3,h5,p0,p1,p2,p3,hk]
theorem qvh (p:Prg) (f:PrgS p) (t:Int) (x:Entry) (s:EntS x):qac Φ f_159 [.agg (Prg.c p),.int .i64 t,.agg (Entry.c x)]=some (.val (.int .i64 (entE p t x))):=by
 rw [qaa (fn:=c_159) rfl rfl];have h:=qp0 p f t;simp only [Prg.e] at h;by_cases z:(tblE p t).2=0
 rotate_left
 ·simp [c_159,Prg.e,Entry.ce,h,z,entE]
 have q:tOk p t=true:=by simp [tOk,z]
 obtain ⟨k,hk,rfl,o⟩:=qoh q;have hw:=qxs p f k hk q;simp only [Prg.e] at hw;have hb:=o.keys;by_cases y:x.keys.length=p.tables[k].keys.length
 rotate_left
 ·simp [c_159,Prg.e,Entry.ce,Tbl.e,hk,h,z,hw,y,entE]
 have hE:entE p (k:Int) x=(fe (entG p p.tables[k] x) p.tables[k].keys.length 0).getD (entF p k x):=by simp [entE,z,hk,y]
 rw [hE];simp [c_159,Prg.e,Entry.ce,Tbl.e,hk,h,z,hw,y];refine qa0 p.tables[k].keys.length (fun _=>[]) 0 (fun i e=>look 1 e=some (.int .i64 k)/\look 3 e=some (.iptr 9 [Prg.c p] 0 0)/\look 5 e=some (.iptr 4 [Entry.c x] 0 0)/\look 9 e=some (.slice 3 (p.tables[k].keys.map TableKey.c))/\look 10 e=some (.slice 1 ((kWid p p.tables[k]).map cI))/\look 39 e=some (.slice 2 (x.keys.map KeyMatch.c))/\look 40 e=some (.int .i64 p.tables[k].keys.length)/\look 41 e=some (.int .i64 i))
  (fun i=>some (Rt.val (.int .i64 ((fe (entG p p.tables[k] x) p.tables[k].keys.length i).getD (entF p k x))))) ?_ ?_ 0 _ 0 (Qc _) (Qb _) ?_
 ·rintro i e n L hi hL _ ⟨h1,h3,h5,h9,h10,h39,h40,h41⟩ ih;have hi2:i<x.keys.length:=by omega
  have hi3:i<(kWid p p.tables[k]).length:=by simp [kWid];exact hi
  have hkw:(kWid p p.tables[k])[i]=wid p p.tables[k].keys[i].field.header p.tables[k].keys[i].field.field:=by simp [kWid]
  have hw:=qal i (by omega);have hm:=s.ks _ (Qd hi2);have hc:=qac9 x.keys[i] p.tables[k].keys[i].kind (wid p p.tables[k].keys[i].field.header p.tables[k].keys[i].field.field) hm.1 hm.2;simp only [KeyMatch.ce] at hc;by_cases v:keyK x.keys[i] p.tables[k].keys[i].kind (wid p p.tables[k].keys[i].field.header p.tables[k].keys[i].field.field)=0
  ·rw [qbj hi (by simp [entG,hi,hi2,v])];rw [v] at hc;generalize hX:some (Rt.val (AV.int .i64 ((fe (entG p p.tables[k] x) p.tables[k].keys.length (i+1)).getD (entF p k x))))=X;simp [c_159_l0,TableKey.e,KeyMatch.ce,cI,h9,h10,h39,h40,h41,hi,hi2,hi3,hkw,hc,hw];rw [<- hX];exact ih _ _ (Qc _) ⟨by simp [h1],by simp [h3],by simp [h5],by simp [h9],by simp [h10],by simp [h39],by simp [h40],by simp⟩
  ·rw [qav (x:=keyK x.keys[i] p.tables[k].keys[i].kind (wid p p.tables[k].keys[i].field.header p.tables[k].keys[i].field.field)) hi (by simp [entG,hi,hi2,v])];simp [c_159_l0,TableKey.e,KeyMatch.ce,cI,h9,h10,h39,h40,h41,hi,hi2,hi3,hkw,hc,v]
 ·rintro e n L hL _ ⟨h1,h3,h5,h9,h10,h39,h40,h41⟩;rw [qb9];simp [c_159_l0,h40,h41,hL];exact qadb p f k x s _ _ (by simp [h1]) (by simp [h3]) (by simp [h5])
 ·simp [Prg.e,Entry.ce]
def qbn (p:Prg) (t:Int) (c:ActionCall):Int:=if tAl p t c.action=false then 8 else qfx p c
theorem qm9 (p:Prg) (f:PrgS p) (t:Int) (c:ActionCall) (hc:c.args.length<2^40):qac Φ f_156 [.agg (Prg.c p),.int .i64 t,.agg (ActionCall.c c)]=some (.val (.int .i64 (qbn p t c))):=by
 rw [qaa (fn:=c_156) rfl rfl];have ha:=qok p f t c.action;have hk:=qmw p f c hc;simp only [Prg.e,ActionCall.ce] at ha hk;cases q:tAl p t c.action with
 | false=>rw [q] at ha;simp [c_156,Prg.e,ActionCall.ce,ha,qbn,q]
 | true=>rw [q] at ha;simp [c_156,Prg.e,ActionCall.ce,ha,hk,qbn,q]
def sk (x y:Entry):Bool:=decide (x.keys=y.keys/\x.priority=y.priority)
theorem qym (x y:Entry) (hb:x.keys.length<2^40):qac Φ f_162 [.agg [.slice 2 (x.keys.map KeyMatch.c),.int .i64 x.priority,.int .i64 x.call.action,.slice 1 (x.call.args.map c32)],.agg [.slice 2 (y.keys.map KeyMatch.c),.int .i64 y.priority,.int .i64 y.call.action,.slice 1 (y.call.args.map c32)]]=some (.val (.bool (sk x y))):=qmf _ _ _ _ _ _ hb
theorem qafq (x r:Rw) (hb:x.entry.keys.length<2^40):qac Φ f_215 [.agg (Rw.c x),.iptr 5 [Rw.c r] 0 0]=some (.val (.bool (sk x.entry r.entry))):=by
 rw [qaa (fn:=c_215) rfl rfl];have h:=qym x.entry r.entry hb;simp [c_215,Rw.ce,h]
theorem qy2 (l:List Rw) (r:Rw) (hl:l.length<2^40) (hs:∀x∈l,x.entry.keys.length<2^40):qac Φ f_223 [.slice 5 (l.map Rw.c),.func (.func f_215) [] [.iptr 5 [Rw.c r] 0 0]]=some (.val (.int .i64 (ix (fun x=>sk x.entry r.entry) l 0))):=by
 rw [qaa (fn:=c_223) rfl rfl];simp [c_223];refine (qa3 l.length (fun i e=>look 0 e=some (.slice 5 (l.map Rw.c))/\look 1 e=some (.func (.func f_215) [] [.iptr 5 [Rw.c r] 0 0])/\look 7 e=some (.int .i64 l.length)/\look 8 e=some (.int .i64 i))
  (fun i=>some (.val (.int .i64 (ix (fun x=>sk x.entry r.entry) l i)))) ?_ ?_ 0 _ (Qc _) ?_).trans (by simp)
 ·rintro i e L hi hL ⟨h0,h1,h7,h8⟩ ih;have hw:=qal i (by omega);have hd:=qafq l[i] r (hs _ (Qd hi));simp only [Rw.ce] at hd h1;cases z:sk l[i].entry r.entry with
  | true=>
   rw [qjh hi (by simpa using z)];rw [z] at hd;simp [c_223_l0,Rw.ce,h0,h1,h7,h8,hi,hd]
  | false=>
   rw [qhw hi (by simpa using z)];rw [z] at hd;simp [c_223_l0,Rw.ce,h0,h1,h7,h8,hi,hd,hw];exact ih _ ⟨by simp [h0],by simp [h1,Rw.ce],by simp [h7],by simp⟩
 ·rintro e L hL ⟨h0,h1,h7,h8⟩;rw [qjg];simp [c_223_l0,c_223_k1,h7,h8,hL]
 ·simp
theorem qyh (l:List Rw) (r:Rw) (hl:l.length<2^40) (hs:∀x∈l,x.entry.keys.length<2^40):qac Φ f_160 [.slice 5 (l.map Rw.c),.func (.func f_215) [] [.iptr 5 [Rw.c r] 0 0]]=some (.val (.bool (l.any fun x=>sk x.entry r.entry))):=by
 rw [qaa (fn:=c_160) rfl rfl];have h:=qy2 l r hl hs;rw [<- qla];simp [c_160,h]
def ordL:List Rw->Int->Option Int
 | [],a=>some a
 | r::l,a=>if r.id<=a then none else ordL l r.id
def rowG (p:Prg) (t:Int) (l:List Rw) (i:Nat):Option Int:=(l[i]?).bind fun r=>if entE p t r.entry≠0 then some (entE p t r.entry) else if (l.take i).any (fun y=>sk y.entry r.entry)=true then some 7 else none
def tabK (p:Prg) (t:Int) (l:List Rw) (next:Int) (z:Int):Option Int->Int
 | none=>14
 | some a=>if next<=a then 14 else if 1073741824<next then 14 else (fe (rowG p t l) l.length 0).getD z
def rowS (r:Rw):Prop:=EntS r.entry
theorem ct_b (p:Prg) (f:PrgS p) (t:Int) (l:List Rw) (next:Int) (d:ActionCall) (hl:l.length<2^40) (hs:∀r∈l,rowS r) (hd:d.args.length<2^40) (a:Int) (ha:0<=a) (e:Env) (n:Nat)
  (h1:look 1 e=some (.int .i64 t)) (h2:look 2 e=some (.slice 5 (l.map Rw.c))) (h3:look 3 e=some (.int .i64 next)) (h5:look 5 e=some (.iptr 9 [Prg.c p] 0 0)) (h9:look 9 e=some (.iptr 2 [ActionCall.c d] 0 0)) (h11:look 11 e=some (.int .i64 a)):
  go Φ (finP [.tmp 10]) [.c c_152_k3] .normal ⟨e,⟨[],n⟩⟩=some (.val (.int .i64 (tabK p t l next (qbn p t d) (some a)))):=by
 unfold tabK;dsimp only;by_cases z0:next<=a
 ·simp [c_152_k3,h3,h11,z0]
 have z1:¬next<1:=by omega
 by_cases z2:1073741824<next
 ·simp [c_152_k3,h3,h11,z0,z1,z2]
 rw [if_neg z0,if_neg z2];simp [c_152_k3,h2,h3,h11,z0,z1,z2];refine qa0 l.length (fun _=>[]) 0 (fun i e=>look 1 e=some (.int .i64 t)/\look 2 e=some (.slice 5 (l.map Rw.c))/\look 5 e=some (.iptr 9 [Prg.c p] 0 0)/\look 9 e=some (.iptr 2 [ActionCall.c d] 0 0)/\look 50 e=some (.slice 5 (l.map Rw.c))/\look 51 e=some (.int .i64 l.length)/\look 52 e=some (.int .i64 i))
  (fun i=>some (Rt.val (.int .i64 ((fe (rowG p t l) l.length i).getD (qbn p t d))))) ?_ ?_ 0 _ n (Qc _) (Qc _) ?_
 ·rintro i e n L hi hL _ ⟨h1,h2,h5,h9,h50,h51,h52⟩ ih;have hw:=qal i (by omega);have hm:=hs _ (Qd hi);have hc:=qvh p f t l[i].entry hm;have hi':i<=l.length:=by omega
  have hx:qac Φ f_160 [.slice 5 ((l.map Rw.c).take i),.func (.func f_215) [] [.iptr 5 [Rw.c l[i]] 0 0]]=some (.val (.bool ((l.take i).any fun x=>sk x.entry l[i].entry))):=by
   rw [<- List.map_take];exact qyh (l.take i) l[i] (by simp;omega) fun x hx=>(hs x (Qu hx)).kl
  simp only [Prg.e,Entry.ce] at hc;rw [Rw.ce] at hx;rw [Prg.e] at h5;by_cases v:entE p t l[i].entry=0
  ·rw [v] at hc;cases w:(l.take i).any fun x=>sk x.entry l[i].entry with
   | true=>
    rw [w] at hx;rw [qav (x:=(7:Int)) hi (by simp only [rowG,Qa hi,Option.bind_some];rw [if_neg (by simp [v]),if_pos w])];simp [c_152_l1,Rw.ce,h1,h2,h5,h50,h51,h52,hi,hi',hc,hx]
   | false=>
    rw [w] at hx;rw [qbj hi (by simp only [rowG,Qa hi,Option.bind_some];rw [if_neg (by simp [v]),if_neg (by rw [w];decide)])];generalize hX:some (Rt.val (AV.int .i64 ((fe (rowG p t l) l.length (i+1)).getD (qbn p t d))))=X;simp [c_152_l1,Rw.ce,h1,h2,h5,h50,h51,h52,hi,hi',hc,hx,hw];rw [<- hX];exact ih _ _ (Qc _) ⟨by simp [h1],by simp [h2],by simp [h5,Prg.e],by simp [h9],by simp [h50],by simp [h51],by simp⟩
  ·rw [qav (x:=entE p t l[i].entry) hi (by simp only [rowG,Qa hi,Option.bind_some];rw [if_pos v])];simp [c_152_l1,Rw.ce,h1,h5,h50,h51,h52,hi,hc,v]
 ·rintro e n L hL _ ⟨h1,h2,h5,h9,h50,h51,h52⟩;have hk:=qm9 p f t d hd;simp only [Prg.e,ActionCall.ce] at hk;rw [Prg.e] at h5;rw [ActionCall.ce] at h9;rw [qb9];simp [c_152_l1,c_152_k2,h1,h5,h9,h51,h52,hL,hk]
 ·simp [h1,h2,h5,h9]
theorem qac3 (p:Prg) (f:PrgS p) (k:Nat) (hk:k<p.tables.length) (l:List Rw) (next:Int) (d:ActionCall) (hl:l.length<2^40) (hs:∀r∈l,rowS r) (hd:d.args.length<2^40):
  qac Φ f_152 [.agg (Prg.c p),.int .i64 k,.slice 5 (l.map Rw.c),.int .i64 next,.agg (ActionCall.c d)]=some (.val (.int .i64 (if p.tables[k].size<l.length then 12 else tabK p k l next (qbn p k d) (ordL l 0)))):=by
 rw [qaa (fn:=c_152) rfl rfl];by_cases z:p.tables[k].size<(l.length:Int)
 ·simp [c_152,Prg.e,ActionCall.ce,Tbl.e,hk,z]
 rw [if_neg z];simp [c_152,Prg.e,ActionCall.ce,Tbl.e,hk,z];refine qa0 l.length (fun _=>[]) 0 (fun i e=>look 1 e=some (.int .i64 k)/\look 2 e=some (.slice 5 (l.map Rw.c))/\look 3 e=some (.int .i64 next)/\look 5 e=some (.iptr 9 [Prg.c p] 0 0)/\look 9 e=some (.iptr 2 [ActionCall.c d] 0 0)/\look 26 e=some (.slice 5 (l.map Rw.c))/\look 27 e=some (.int .i64 l.length)/\look 28 e=some (.int .i64 i)/\∃a:Int,look 11 e=some (.int .i64 a)/\0<=a/\ordL (l.drop i) a=ordL l 0)
  (fun _=>some (Rt.val (.int .i64 (tabK p k l next (qbn p k d) (ordL l 0))))) ?_ ?_ 0 _ 0 (Qc _) (Qc _) ?_
 ·rintro i e n L hi hL _ ⟨h1,h2,h3,h5,h9,h26,h27,h28,a,h11,ha,ho⟩ ih;have hw:=qal i (by omega);rw [Qi hi] at ho;simp only [ordL] at ho;by_cases y:l[i].id<=a
  ·rw [if_pos y] at ho;rw [<- ho];simp [c_152_l0,Rw.ce,h26,h27,h28,h11,hi,y,tabK]
  ·rw [if_neg y] at ho;generalize hX:some (Rt.val (AV.int .i64 (tabK p k l next (qbn p k d) (ordL l 0))))=X;simp [c_152_l0,Rw.ce,h26,h27,h28,h11,hi,y,hw];rw [<- hX];exact ih _ _ (Qc _) ⟨by simp [h1],by simp [h2],by simp [h3],by simp [h5],by simp [h9],by simp [h26],by simp [h27],by simp,l[i].id,by simp,by omega,ho⟩
 ·rintro e n L hL _ ⟨h1,h2,h3,h5,h9,h26,h27,h28,a,h11,ha,ho⟩;rw [List.drop_length] at ho;simp only [ordL] at ho;rw [<- ho];generalize hX:some (Rt.val (AV.int .i64 (tabK p k l next (qbn p k d) (some a))))=X;simp [c_152_l0,h27,h28,hL];rw [<- hX];exact ct_b p f k l next d hl hs hd a ha _ _ (by simp [h1]) (by simp [h2]) (by simp [h3]) (by simp [h5]) (by simp [h9]) (by simp [h11])
 ·simp [Prg.e,ActionCall.ce]
def mxF:List Int->Int->Int
 | [],a=>a
 | x::r,a=>mxF r (max a x)
theorem qza (M:Int):∀(l:List Int) (a:Int),M<mxF l a↔M<a\/∃x∈l,M<x
 | [],a=>by simp [mxF]
 | x::r,a=>by
  have ih:=qza M r (max a x);simp only [mxF,ih,List.mem_cons,exists_eq_or_imp];constructor
  ·rintro (h | h)
   ·by_cases q:M<a
    ·exact .inl q
    ·exact .inr (.inl (by omega))
   ·exact .inr (.inr h)
  ·rintro (h | h | h)
   ·exact .inl (by omega)
   ·exact .inl (by omega)
   ·exact .inr h
theorem qaf9 (l:List Int) (h0:0<l.length) (hl:l.length<2^40):qac Φ f_216 [.slice 1 (l.map c32)]=some (.val (.int .u32 (mxF l.tail l[0]))):=by
 rw [qaa (fn:=c_216) rfl rfl];have h1:¬(l.length:Int)<1:=by omega
 simp [c_216,h0,h1,c32];refine qa0 l.length (fun _=>[]) 0 (fun i e=>look 0 e=some (.slice 1 (l.map c32))/\look 4 e=some (.int .i64 i)/\∃a:Int,look 3 e=some (.int .u32 a)/\mxF (l.drop i) a=mxF l.tail l[0])
  (fun _=>some (Rt.val (.int .u32 (mxF l.tail l[0])))) ?_ ?_ 1 _ 0 (by omega) (Qc _) ?_
 ·rintro i e n L hi hL _ ⟨h0,h4,a,h3,hm⟩ ih;have hw:=qal i (by omega);rw [Qi hi] at hm;simp only [mxF] at hm;generalize hX:some (Rt.val (AV.int .u32 (mxF l.tail l[0])))=X;simp [c_216_l0,c32,h0,h4,h3,hi,hw];rw [<- hX];exact ih _ _ (Qc _) ⟨by simp [h0],by simp,max a l[i],by simp;split<;>omega,hm⟩
 ·rintro e n L hL _ ⟨h0,h4,a,h3,hm⟩;rw [List.drop_length] at hm;simp only [mxF] at hm;rw [<- hm];simp [c_216_l0,c_216_k1,h0,h4,h3,hL]
 ·simp
def szG (p:Prg) (rs:List (List Int)) (i:Nat):Option Int:=match rs[i]?,p.registers[i]? with
 | some l,some r=>if (l.length:Int)=r.size then none else some 2
 | _,_=>none
def vlG (p:Prg) (rs:List (List Int)) (i:Nat):Option Int:=match rs[i]?,p.registers[i]? with
 | some l,some r=>if l.any (fun v=>decide (qce r.width<v))=true then some 9 else none
 | _,_=>none
def conE (p:Prg) (rs:List (List Int)):Int:=if rs.length≠p.registers.length then 2 else (fe (szG p rs) rs.length 0).getD ((fe (vlG p rs) rs.length 0).getD 0)
theorem con_b (p:Prg) (f:PrgS p) (rs:List (List Int)) (hl:rs.length<2^40) (hs:∀l∈rs,l.length<2^40) (hz:rs.length=p.registers.length) (e:Env) (n:Nat)
  (h1:look 1 e=some (.slice 1 (rs.map (cS 1 c32)))) (h2:look 2 e=some (.iptr 9 [Prg.c p] 0 0)):
  go Φ (finP [.tmp 4]) [.c c_153_k3] .normal ⟨e,⟨[],n⟩⟩=some (.val (.int .i64 ((fe (vlG p rs) rs.length 0).getD 0))):=by
 simp [c_153_k3,h1];refine qa0 rs.length (fun _=>[]) 0 (fun i e=>look 2 e=some (.iptr 9 [Prg.c p] 0 0)/\look 32 e=some (.slice 1 (rs.map (cS 1 c32)))/\look 33 e=some (.int .i64 rs.length)/\look 34 e=some (.int .i64 i))
  (fun i=>some (Rt.val (.int .i64 ((fe (vlG p rs) rs.length i).getD 0)))) ?_ ?_ 0 _ n (Qc _) (Qc _) ?_
 ·rintro i e n L hi hL _ ⟨h2,h32,h33,h34⟩ ih;have hw:=qal i (by omega);have hi2:i<p.registers.length:=by omega
  have hm:=qfq p.registers[i].width;rw [Prg.e] at h2;by_cases e0:rs[i].length=0
  ·have e1:rs[i]=[]:=Qg e0;rw [qbj hi (by simp [vlG,hi,hi2,e1])];generalize hX:some (Rt.val (AV.int .i64 ((fe (vlG p rs) rs.length (i+1)).getD 0)))=X;simp [c_153_l1,cSe,h32,h33,h34,hi,hw,e1];rw [<- hX];exact ih _ _ (Qc _) ⟨by simp [h2,Prg.e],by simp [h32],by simp [h33],by simp⟩
  have e1:0<rs[i].length:=by omega
  have hx:=qaf9 rs[i] e1 (hs _ (Qd hi));have hy:rs[i].any (fun v=>decide (qce p.registers[i].width<v))=decide (qce p.registers[i].width<mxF rs[i].tail rs[i][0]):=by
   rw [Bool.eq_iff_iff,decide_eq_true_eq,qza,List.any_eq_true];have hd:rs[i]=rs[i][0]::rs[i].tail:=by
    have:=Qi e1;simpa using this
   constructor
   ·rintro ⟨x,hx,hv⟩;rw [hd] at hx;rcases List.mem_cons.1 hx with rfl | hx
    ·exact .inl (of_decide_eq_true hv)
    ·exact .inr ⟨x,hx,of_decide_eq_true hv⟩
   ·rintro (h | ⟨x,hx,hv⟩)
    ·exact ⟨_,Qd e1,decide_eq_true h⟩
    ·exact ⟨x,List.mem_of_mem_tail hx,decide_eq_true hv⟩
  by_cases v:qce p.registers[i].width<mxF rs[i].tail rs[i][0]
  ·rw [qav (x:=(9:Int)) hi (by simp only [vlG,Qa hi,Qa hi2];rw [hy,if_pos (decide_eq_true v)])];simp [c_153_l1,cSe,Register.e,h2,h32,h33,h34,hi,hi2,e1,hx,hm,v]
  ·rw [qbj hi (by simp only [vlG,Qa hi,Qa hi2];rw [hy,if_neg (by simpa using v)])];generalize hX:some (Rt.val (AV.int .i64 ((fe (vlG p rs) rs.length (i+1)).getD 0)))=X;simp [c_153_l1,cSe,Register.e,h2,h32,h33,h34,hi,hi2,e1,hx,hm,v,hw];rw [<- hX];exact ih _ _ (Qc _) ⟨by simp [h2,Prg.e],by simp [h32],by simp [h33],by simp⟩
 ·rintro e n L hL _ ⟨h2,h32,h33,h34⟩;rw [qb9];simp [c_153_l1,c_153_k2,h33,h34,hL]
 ·simp [h2]
theorem qac0 (p:Prg) (f:PrgS p) (rs:List (List Int)) (hl:rs.length<2^40) (hs:∀l∈rs,l.length<2^40):qac Φ f_153 [.agg (Prg.c p),.slice 1 (rs.map (cS 1 c32))]=some (.val (.int .i64 (conE p rs))):=by
 rw [qaa (fn:=c_153) rfl rfl];unfold conE;by_cases z:rs.length=p.registers.length
 rotate_left
 ·simp [c_153,Prg.e,z]
 rw [if_neg (by simpa using z)];generalize hY:some (Rt.val (AV.int .i64 ((fe (szG p rs) rs.length 0).getD ((fe (vlG p rs) rs.length 0).getD 0))))=Y;simp [c_153,Prg.e,z];rw [<- hY];refine qa0 rs.length (fun _=>[]) 0 (fun i e=>look 1 e=some (.slice 1 (rs.map (cS 1 c32)))/\look 2 e=some (.iptr 9 [Prg.c p] 0 0)/\look 15 e=some (.slice 1 (rs.map (cS 1 c32)))/\look 16 e=some (.int .i64 rs.length)/\look 17 e=some (.int .i64 i))
  (fun i=>some (Rt.val (.int .i64 ((fe (szG p rs) rs.length i).getD ((fe (vlG p rs) rs.length 0).getD 0))))) ?_ ?_ 0 _ 0 (Qc _) (Qc _) ?_
 ·rintro i e n L hi hL _ ⟨h1,h2,h15,h16,h17⟩ ih;have hw:=qal i (by omega);have hi2:i<p.registers.length:=by omega
  rw [Prg.e] at h2;by_cases v:(rs[i].length:Int)=p.registers[i].size
  ·rw [qbj hi (by simp [szG,hi,hi2,v])];generalize hX:some (Rt.val (AV.int .i64 ((fe (szG p rs) rs.length (i+1)).getD ((fe (vlG p rs) rs.length 0).getD 0))))=X;simp [c_153_l0,cSe,Register.e,h2,h15,h16,h17,hi,hi2,v,hw];rw [<- hX];exact ih _ _ (Qc _) ⟨by simp [h1],by simp [h2,Prg.e],by simp [h15],by simp [h16],by simp⟩
  ·rw [qav (x:=(2:Int)) hi (by simp [szG,hi,hi2,v])];simp [c_153_l0,cSe,Register.e,h2,h15,h16,h17,hi,hi2,v]
 ·rintro e n L hL _ ⟨h1,h2,h15,h16,h17⟩;rw [qb9];generalize hX:some (Rt.val (AV.int .i64 ((none:Option Int).getD ((fe (vlG p rs) rs.length 0).getD 0))))=X;simp [c_153_l0,h16,h17,hL];rw [<- hX];exact con_b p f rs hl hs z _ _ (by simp [h1]) (by simp [h2])
 ·simp [Prg.e,z]
structure CfgT (a:Config):Prop where
 rl:a.rows.length<2^40
 rs:∀l∈a.rows,l.length<2^40/\∀r∈l,rowS r
 nl:a.nextID.length<2^40
 dl:a.defaults.length<2^40
 ds:∀d∈a.defaults,d.args.length<2^40/\∀v∈d.args,ok32 0 v
 gl:a.registers.length<2^40
 gs:∀l∈a.registers,l.length<2^40/\∀v∈l,ok32 0 v
theorem qaek {B:Nat} (hB:B<2^40) {r:Rw} (o:r.Ok B):rowS r:=by
 simp only [Rw.Ok,Entry.Ok,ActionCall.Ok] at o;obtain ⟨_,o1,_,_,o2⟩:=o;exact ⟨by have:=o1.1;omega,fun m hm=>o1.2 m hm,by have:=o2.1;omega,fun v hv=>o2.2 v hv⟩
theorem qvb {a:Config} (o:a.Ok qau):CfgT a:=by
 obtain ⟨o0,o1,o2,o3⟩:=o;have e:=qdq;refine ⟨by have:=o0.1;omega,?_,by have:=o1.1;omega,by have:=o2.1;omega,?_,by have:=o3.1;omega,?_⟩
 ·intro l hl;have:=o0.2 l hl;exact ⟨by have:=this.1;omega,fun r hr=>qaek (by omega) (this.2 r hr)⟩
 ·intro d hd;have:=o2.2 d hd;simp only [ActionCall.Ok] at this;exact ⟨by have:=this.2.1;omega,fun v hv=>this.2.2 v hv⟩
 ·intro l hl;have:=o3.2 l hl;exact ⟨by have:=this.1;omega,fun v hv=>this.2 v hv⟩
def rowE (p:Prg) (k:Nat) (tb:Tbl) (l:List Rw) (nx:Int) (z:Int):Int:=if tb.size<l.length then 12 else tabK p k l nx z (ordL l 0)
def stG (p:Prg) (c:Config) (k:Nat):Option Int:=match p.tables[k]?,c.rows[k]?,c.nextID[k]?,c.defaults[k]? with
 | some tb,some l,some nx,some d=>if rowE p k tb l nx (qbn p k d)=0 then none else some (rowE p k tb l nx (qbn p k d))
 | _,_,_,_=>none
def cfgE (p:Prg) (c:Config):Int:=if (prgD p).1≠0 then (prgD p).1 else if c.rows.length≠p.tables.length\/c.nextID.length≠p.tables.length\/c.defaults.length≠p.tables.length then 2
 else (fe (stG p c) p.tables.length 0).getD (conE p c.registers)
theorem qacv (p:Prg) (f:PrgS p) (hc:(pre p.control).length<2^40 - 1) (c:Config) (s:CfgT c):qac Φ f_87 [.agg (Prg.c p),.agg (Config.c c)]=some (.val (.int .i64 (cfgE p c))):=by
 rw [qaa (fn:=c_87) rfl rfl];have h:=qs5 p f hc;simp only [Prg.e,dgC] at h;have ht:=f.t;by_cases z:(prgD p).1=0
 rotate_left
 ·simp [c_87,Prg.e,Config.ce,h,z,cfgE]
 by_cases z1:c.rows.length=p.tables.length
 rotate_left
 ·simp [c_87,Prg.e,Config.ce,h,z,z1,cfgE]
 by_cases z2:c.nextID.length=p.tables.length
 rotate_left
 ·simp [c_87,Prg.e,Config.ce,h,z,z1,z2,cfgE]
 by_cases z3:c.defaults.length=p.tables.length
 rotate_left
 ·simp [c_87,Prg.e,Config.ce,h,z,z1,z2,z3,cfgE]
 rw [show cfgE p c=(fe (stG p c) p.tables.length 0).getD (conE p c.registers) by simp [cfgE,z,z1,z2,z3]];simp [c_87,Prg.e,Config.ce,h,z,z1,z2,z3];refine qa0 p.tables.length (fun _=>[]) 0 (fun i e=>look 2 e=some (.iptr 9 [Prg.c p] 0 0)/\look 3 e=some (.iptr 4 [Config.c c] 0 0)/\look 38 e=some (.int .i64 p.tables.length)/\look 39 e=some (.int .i64 i))
  (fun i=>some (Rt.val (.int .i64 ((fe (stG p c) p.tables.length i).getD (conE p c.registers))))) ?_ ?_ 0 _ _ (Qc _) (Qc _) ?_
 ·rintro i e n L hi hL _ ⟨h2,h3,h38,h39⟩ ih;have hw:=qal i (by omega);have i1:i<c.rows.length:=by omega
  have i2:i<c.nextID.length:=by omega
  have i3:i<c.defaults.length:=by omega
  have hr:=s.rs _ (Qd i1);have hd:=s.ds _ (Qd i3);have hk:=qac3 p f i hi c.rows[i] c.nextID[i] c.defaults[i] hr.1 hr.2 hd.1;rw [show (if p.tables[i].size<(c.rows[i].length:Int) then (12:Int) else tabK p i c.rows[i] c.nextID[i] (qbn p i c.defaults[i]) (ordL c.rows[i] 0))=rowE p i p.tables[i] c.rows[i] c.nextID[i] (qbn p i c.defaults[i]) from rfl] at hk;simp only [Prg.e,ActionCall.ce] at hk;rw [Prg.e] at h2;rw [Config.ce] at h3;by_cases v:rowE p i p.tables[i] c.rows[i] c.nextID[i] (qbn p i c.defaults[i])=0
  ·rw [qbj hi (by simp [stG,hi,i1,i2,i3,v])];rw [v] at hk;generalize hX:some (Rt.val (AV.int .i64 ((fe (stG p c) p.tables.length (i+1)).getD (conE p c.registers))))=X;simp [c_87_l0,cSe,cI,ActionCall.ce,h2,h3,h38,h39,hi,i1,i2,i3,hk,hw];rw [<- hX];exact ih _ _ (Qc _) ⟨by simp [h2,Prg.e],by simp [h3,Config.ce],by simp [h38],by simp⟩
  ·rw [qav (x:=rowE p i p.tables[i] c.rows[i] c.nextID[i] (qbn p i c.defaults[i])) hi (by simp [stG,hi,i1,i2,i3,v])];simp [c_87_l0,cSe,cI,ActionCall.ce,h2,h3,h38,h39,hi,i1,i2,i3,hk,v]
 ·rintro e n L hL _ ⟨h2,h3,h38,h39⟩;have hk:=qac0 p f c.registers s.gl fun l hl=>(s.gs l hl).1
  simp only [Prg.e] at hk;rw [Prg.e] at h2;rw [Config.ce] at h3;rw [qb9];simp [c_87_l0,c_87_k1,h2,h3,h38,h39,hL,hk]
 ·simp [Prg.e,Config.ce]
def regN (r:Register):Nat:=if r.size<1\/64<r.size then 0 else r.size.toNat
theorem qeo {Ψ:FuncId->Option AFun} {f z bytes:Nat} (hf:Ψ f=some (.rule (qd3 z bytes .app))) (es:List (List AV)) (hz:qcw z es=true) (hb:es.length*bytes<=70368744177664):qac Ψ f [.slice z es]=some (.val (.slice z es)):=by
 unfold qac;rw [qjq Ψ hf];cases es with
 | nil=>simp [qd3,lenOf,qcr,evR,qec,H0,AH.put]
 | cons x es=>
  simp only [List.length_cons] at hb;simp [qd3,lenOf,evR,qec,H0,AH.put,hz,hb]
theorem qr7 (l:List Int) (h:l.length<2^40):qac Φ f_150 [.slice 1 (l.map c32)]=some (.val (.slice 1 (l.map c32))):=
 qeo (bytes:=4) rfl _ (qde 1 c32 l fun x=>by simp [c32]) (by rw [List.length_map];omega)
theorem qafl (l:List KeyMatch) (h:l.length<2^40):qac Φ f_224 [.slice 2 (l.map KeyMatch.c)]=some (.val (.slice 2 (l.map KeyMatch.c))):=
 qeo (bytes:=8) rfl _ (qde 2 KeyMatch.c l fun x=>by simp [KeyMatch.c]) (by rw [List.length_map];omega)
theorem qjr (c:ActionCall) (h:c.args.length<2^40):qac Φ f_85 [.agg (ActionCall.c c)]=some (.val (.agg (ActionCall.c c))):=by
 rw [qaa (fn:=c_85) rfl rfl];have k:=qr7 c.args h;simp [c_85,ActionCall.ce,k]
theorem qp7 (x:Entry) (h:x.call.args.length<2^40) (h2:x.keys.length<2^40):qac Φ f_163 [.agg (Entry.c x)]=some (.val (.agg (Entry.c x))):=by
 rw [qaa (fn:=c_163) rfl rfl];have k:=qafl x.keys h2;have k2:=qjr x.call h;simp only [ActionCall.ce] at k2;simp [c_163,Entry.ce,k,k2]
theorem qac2 (x:Rw) (h:rowS x):qac Φ f_157 [.agg (Rw.c x)]=some (.val (.agg (Rw.c x))):=by
 rw [qaa (fn:=c_157) rfl rfl];have k:=qp7 x.entry h.al h.kl;simp only [Entry.ce] at k;simp [c_157,Rw.ce,k]
end Go.Av
