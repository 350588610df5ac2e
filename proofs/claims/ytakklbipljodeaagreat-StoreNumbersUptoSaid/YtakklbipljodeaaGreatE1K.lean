/-
  Lemmas for the law.
-/
import Derived.Test.YtakklbipljodeaaGreatL9
set_option linter.unusedVariables false
set_option linter.unusedSimpArgs false
set_option linter.constructorNameAsVariable false
namespace Go.Av
set_option maxRecDepth 4000
def qb5 {α:Type} [DecidableEq α] (l m:List α) (i:Nat):Bool:=decide (l.drop i=m.drop i)
theorem qdk {α:Type} [DecidableEq α] {l m:List α} {i:Nat} (h1:i<l.length) (h2:i<m.length) (h:l[i]=m[i]):qb5 l m i=qb5 l m (i+1):=by
 unfold qb5;rw [decide_eq_decide,qnv h1 h2];simp [h]
theorem qcl {α:Type} [DecidableEq α] {l m:List α} {i:Nat} (h1:i<l.length) (h2:i<m.length) (h:l[i]≠m[i]):qb5 l m i=false:=by
 unfold qb5;rw [decide_eq_false_iff_not,qnv h1 h2];simp [h]
theorem qdj {α:Type} [DecidableEq α] {l m:List α} (h:l.length=m.length):qb5 l m l.length=true:=by
 simp [qb5,h]
theorem qh3 (k1 k2:List KeyMatch) (p1 p2:Int) (r1 r2:List AV) (hb:k1.length<2^40):
   qab Φ f_85 [.agg (.slice 2 (k1.map KeyMatch.c):: .int .i64 p1::r1),.agg (.slice 2 (k2.map KeyMatch.c):: .int .i64 p2::r2)]=some (.val (.bool (decide (k1=k2/\p1=p2)))):=by
  rw [qaa (fn:=c_85) rfl rfl];by_cases q1:k1.length=k2.length
  rotate_left
  · have:k1≠k2:=fun h=>q1 (by rw [h])
    simp [c_85,q1,this]
  by_cases q2:p1=p2
  rotate_left
  · simp [c_85,q1,q2]
  subst q2;simp [c_85,q1];refine (qau k1.length (fun i e=>look 2 e=some (AV.ptr 0 (r1.length+1+1) 0 0)/\look 3 e=some (AV.ptr 1 (r2.length+1+1) 0 0)/\look 5 e=some (.int .i64 i))
    (fun i=>some (Rt.val (AV.bool (qb5 k1 k2 i)))) ?_ ?_ 0 _ (Qc _) ?_).trans (by simp [qb5])
  · rintro i e L hi hL ⟨h2,h3,h5⟩ ih
    have hi2:i<k2.length:=by omega
    have hw:=qag i (by omega);by_cases c:k1[i]=k2[i]
    · rw [qdk hi hi2 c]
      simp [c_85_l0,KeyMatch.c,hi,hi2,h2,h3,h5,hw,c];exact ih _ ⟨by simp [h2],by simp [h3],by simp⟩
    · rw [qcl hi hi2 c]
      have c':(decide (k1[i].value=k2[i].value)&&decide (k1[i].mask=k2[i].mask))=false:=by
        simp [KeyMatch.ext_iff] at c ⊢;exact c
      simp [c_85_l0,KeyMatch.c,hi,hi2,h2,h3,h5,c']
  · rintro e L hL ⟨h2,h3,h5⟩
    rw [qdj q1];simp [c_85_l0,c_85_k1, *]
  · simp
theorem qlq (a1 a2:Int) (l1 l2:List Int) (hb:l1.length<2^40):
   qab Φ f_72 [.agg [.int .i64 a1,.slice 1 (l1.map c32)],.agg [.int .i64 a2,.slice 1 (l2.map c32)]]=some (.val (.bool (decide (a1=a2/\l1=l2)))):=by
  rw [qaa (fn:=c_72) rfl rfl];by_cases q2:a1=a2
  rotate_left
  · simp [c_72,q2]
  subst q2;by_cases q1:l1.length=l2.length
  rotate_left
  · have:l1≠l2:=fun h=>q1 (by rw [h])
    simp [c_72,q1,this]
  simp [c_72,q1];refine (qau l1.length (fun i e=>look 2 e=some (AV.ptr 0 2 0 0)/\look 3 e=some (AV.ptr 1 2 0 0)/\look 5 e=some (.int .i64 i))
    (fun i=>some (Rt.val (AV.bool (qb5 l1 l2 i)))) ?_ ?_ 0 _ (Qc _) ?_).trans (by simp [qb5])
  · rintro i e L hi hL ⟨h2,h3,h5⟩ ih
    have hi2:i<l2.length:=by omega
    have hw:=qag i (by omega);by_cases c:l1[i]=l2[i]
    · rw [qdk hi hi2 c]
      simp [c_72_l0,c32,hi,hi2,h2,h3,h5,hw,c];exact ih _ ⟨by simp [h2],by simp [h3],by simp⟩
    · rw [qcl hi hi2 c]
      simp [c_72_l0,c32,hi,hi2,h2,h3,h5,c]
  · rintro e L hL ⟨h2,h3,h5⟩
    rw [qdj q1];simp [c_72_l0,c_72_k1, *]
  · simp
theorem qabb (k1 k2:List KeyMatch) (p1 p2:Int) (a1 a2:Int) (l1 l2:List Int) (hb:k1.length<2^40) (hb':l1.length<2^40):
   qab Φ f_31 [.agg [.slice 2 (k1.map KeyMatch.c),.int .i64 p1,.int .i64 a1,.slice 1 (l1.map c32)],.agg [.slice 2 (k2.map KeyMatch.c),.int .i64 p2,.int .i64 a2,.slice 1 (l2.map c32)]]=some (.val (.bool (decide (k1=k2/\p1=p2/\a1=a2/\l1=l2)))):=by
  rw [qaa (fn:=c_31) rfl rfl];by_cases q1:k1=k2
  · by_cases q2:p1=p2
    · subst q1
      simp [c_31,qh3,qlq,hb,hb',q2]
    · subst q1
      simp [c_31,qh3,hb,q2]
  · simp [c_31,qh3,hb,q1]
theorem qvu (k1 k2:List KeyMatch) (p1 p2:Int) (r1 r2:List AV) (hb:k1.length<2^40):
   qab Φ f_89 [.agg (.slice 2 (k1.map KeyMatch.c):: .int .i64 p1::r1),.agg (.slice 2 (k2.map KeyMatch.c):: .int .i64 p2::r2)]=some (.val (.bool (decide (k1=k2/\p1=p2)))):=by
  rw [qaa (fn:=c_89) rfl rfl];by_cases q2:p1=p2
  rotate_left
  · simp [c_89,q2]
  by_cases q1:k1.length=k2.length
  rotate_left
  · have:k1≠k2:=fun h=>q1 (by rw [h])
    simp [c_89,q1,this,q2]
  subst q2;simp [c_89,q1];refine (qds k1.length (fun i e h=>look 2 e=some (AV.ptr 0 (r1.length+1+1) 0 0)/\look 3 e=some (AV.ptr 1 (r2.length+1+1) 0 0)/\look 22 e=some (.slice 2 (k1.map KeyMatch.c))/\look 23 e=some (.int .i64 k2.length)/\look 24 e=some (.int .i64 i)/\
      HP [(0,AO.row (r1.length+1+1) [.slice 2 (k1.map KeyMatch.c):: .int .i64 p1::r1]),(1,AO.row (r2.length+1+1) [.slice 2 (k2.map KeyMatch.c):: .int .i64 p1::r2])] 2 h)
    (fun i=>some (Rt.val (AV.bool (qb5 k1 k2 i)))) ?_ ?_ 0 _ _ (Qc _) ?_).trans (by simp [qb5])
  · rintro i e _ L hi hL ⟨h2,h3,h22,h23,h24,T,n,hT,rfl⟩ ih
    have hi2:i<k2.length:=by omega
    have hw:=qag i (by omega);have hT':=hT (n+2) (Qb _);by_cases c:k1[i]=k2[i]
    · rw [qdk hi hi2 c]
      simp [c_89_l0,KeyMatch.c,hi,hi2,h3,h22,h23,h24,hw,c,hT'];exact ih _ _ ⟨by simp [h2],by simp [h3],by simp [h22],by simp [h23],by simp,HP.next hT⟩
    · rw [qcl hi hi2 c]
      have c':(decide (k1[i].value=k2[i].value)&&decide (k1[i].mask=k2[i].mask))=false:=by
        simp [KeyMatch.ext_iff] at c ⊢;exact c
      simp [c_89_l0,KeyMatch.c,hi,hi2,h3,h22,h23,h24,c',hT']
  · rintro e _ L hL ⟨h2,h3,h22,h23,h24,T,n,hT,rfl⟩
    rw [qdj q1];simp [c_89_l0,c_89_k1, *]
  · simp
    exact HP.mk
theorem Entry.eq_iff (x y:Entry):x=y↔x.keys=y.keys/\x.priority=y.priority/\x.call.action=y.call.action/\x.call.args=y.call.args:=by
 constructor
 ·rintro rfl;simp
 ·rintro ⟨a,b,c,d⟩;obtain ⟨k,p,u,v⟩:=x;obtain ⟨k',p',u',v'⟩:=y;simp only at a b c d;subst a b c d;rfl
def Entry.sm (x:Entry):Prop:=x.keys.length<2^40/\x.call.args.length<2^40
theorem qhu (x y:Entry) (hb:x.sm):qab Φ f_31 [.agg (Entry.c x),.agg (Entry.c y)]=some (.val (.bool (decide (x=y)))):=by
 rw [decide_eq_decide.2 (Entry.eq_iff x y)];exact qabb x.keys y.keys x.priority y.priority x.call.action y.call.action x.call.args y.call.args hb.1 hb.2
theorem Rw.ce (x:Rw):Rw.c x=[.int .i64 x.id,.slice 2 (x.entry.keys.map KeyMatch.c),.int .i64 x.entry.priority,.int .i64 x.entry.call.action,.slice 1 (x.entry.call.args.map c32)]:=by simp [Rw.c]
theorem cSe {α:Type} (z:Nat) (f:α->List AV) (l:List α):cS z f l=[.slice z (l.map f)]:=by simp [cS]
theorem ActionCall.ce (x:ActionCall):ActionCall.c x=[.int .i64 x.action,.slice 1 (x.args.map c32)]:=by simp [ActionCall.c]
theorem Entry.ce (x:Entry):Entry.c x=[.slice 2 (x.keys.map KeyMatch.c),.int .i64 x.priority,.int .i64 x.call.action,.slice 1 (x.call.args.map c32)]:=by simp [Entry.c]
theorem Config.ce (x:Config):Config.c x=[.slice 1 (x.rows.map (cS 5 Rw.c)),.slice 1 (x.nextID.map cI),.slice 2 (x.defaults.map ActionCall.c),.slice 1 (x.registers.map (cS 1 c32))]:=by simp [Config.c]
theorem cIe (x:Int):cI x=[.int .i64 x]:=by simp [cI]
theorem c32e (x:Int):c32 x=[.int .u32 x]:=by simp [c32]
theorem Rw.eq_iff (x y:Rw):x=y↔x.id=y.id/\x.entry=y.entry:=by
 constructor
 ·rintro rfl;simp
 ·rintro ⟨a,b⟩;obtain ⟨u,v⟩:=x;obtain ⟨u',v'⟩:=y;simp only at a b;subst a b;rfl
theorem ActionCall.eq_iff (x y:ActionCall):x=y↔x.action=y.action/\x.args=y.args:=by
 constructor
 ·rintro rfl;simp
 ·rintro ⟨a,b⟩;obtain ⟨u,v⟩:=x;obtain ⟨u',v'⟩:=y;simp only at a b;subst a b;rfl
structure CfgS (a:Config):Prop where
 rl:a.rows.length<2^40
 rs:∀l∈a.rows,l.length<2^40/\∀r∈l,r.entry.sm
 nl:a.nextID.length<2^40
 dl:a.defaults.length<2^40
 ds:∀d∈a.defaults,d.args.length<2^40
 gl:a.registers.length<2^40
 gs:∀l∈a.registers,l.length<2^40
theorem Config.eq_iff (a b:Config):a=b↔a.rows=b.rows/\a.nextID=b.nextID/\a.defaults=b.defaults/\a.registers=b.registers:=by
 constructor
 ·rintro rfl;simp
 ·rintro ⟨h1,h2,h3,h4⟩;obtain ⟨x,y,z,u⟩:=a;obtain ⟨x',y',z',u'⟩:=b;simp only at h1 h2 h3 h4;subst h1 h2 h3 h4;rfl
theorem qack (l m:List Int) (hb:l.length<2^40):qab Φ f_50 [.slice 1 (l.map cI),.slice 1 (m.map cI)]=some (.val (.bool (decide (l=m)))):=by
 rw [qaa (fn:=c_50) rfl rfl];by_cases q1:l.length=m.length
 rotate_left
 ·have:l≠m:=fun h=>q1 (by rw [h])
  simp [c_50,q1,this]
 simp [c_50,q1];refine (qau l.length (fun i e=>look 0 e=some (.slice 1 (l.map cI))/\look 1 e=some (.slice 1 (m.map cI))/\look 5 e=some (.int .i64 i))
  (fun i=>some (Rt.val (AV.bool (qb5 l m i)))) ?_ ?_ 0 _ (Qc _) ?_).trans (by simp [qb5])
 ·rintro i e L hi hL ⟨h0,h1,h5⟩ ih;have hi2:i<m.length:=by omega
  have hw:=qag i (by omega);by_cases c:l[i]=m[i]
  ·rw [qdk hi hi2 c];simp [c_50_l0,cIe,hi,hi2,h0,h1,h5,hw,c];exact ih _ ⟨by simp [h0],by simp [h1],by simp⟩
  ·rw [qcl hi hi2 c];simp [c_50_l0,cIe,hi,hi2,h0,h1,h5,c]
 ·rintro e L hL ⟨h0,h1,h5⟩;rw [qdj q1];simp [c_50_l0,c_50_k1, *]
 ·simp
theorem qacn (l m:List Int) (hb:l.length<2^40):qab Φ f_159 [.slice 1 (l.map c32),.slice 1 (m.map c32)]=some (.val (.bool (decide (l=m)))):=by
 rw [qaa (fn:=c_159) rfl rfl];by_cases q1:l.length=m.length
 rotate_left
 ·have:l≠m:=fun h=>q1 (by rw [h])
  simp [c_159,q1,this]
 simp [c_159,q1];refine (qau l.length (fun i e=>look 0 e=some (.slice 1 (l.map c32))/\look 1 e=some (.slice 1 (m.map c32))/\look 5 e=some (.int .i64 i))
  (fun i=>some (Rt.val (AV.bool (qb5 l m i)))) ?_ ?_ 0 _ (Qc _) ?_).trans (by simp [qb5])
 ·rintro i e L hi hL ⟨h0,h1,h5⟩ ih;have hi2:i<m.length:=by omega
  have hw:=qag i (by omega);by_cases c:l[i]=m[i]
  ·rw [qdk hi hi2 c];simp [c_159_l0,c32e,hi,hi2,h0,h1,h5,hw,c];exact ih _ ⟨by simp [h0],by simp [h1],by simp⟩
  ·rw [qcl hi hi2 c];simp [c_159_l0,c32e,hi,hi2,h0,h1,h5,c]
 ·rintro e L hL ⟨h0,h1,h5⟩;rw [qdj q1];simp [c_159_l0,c_159_k1, *]
 ·simp
theorem qacl (l m:List (List Int)) (hb:l.length<2^40) (hf:∀x∈l,x.length<2^40):qab Φ f_70 [.slice 1 (l.map (cS 1 c32)),.slice 1 (m.map (cS 1 c32))]=some (.val (.bool (decide (l=m)))):=by
 rw [qaa (fn:=c_70) rfl rfl];by_cases q1:l.length=m.length
 rotate_left
 ·have:l≠m:=fun h=>q1 (by rw [h])
  simp [c_70,q1,this]
 simp [c_70,q1];refine (qau l.length (fun i e=>look 0 e=some (.slice 1 (l.map (cS 1 c32)))/\look 1 e=some (.slice 1 (m.map (cS 1 c32)))/\look 5 e=some (.int .i64 i))
  (fun i=>some (Rt.val (AV.bool (qb5 l m i)))) ?_ ?_ 0 _ (Qc _) ?_).trans (by simp [qb5])
 ·rintro i e L hi hL ⟨h0,h1,h5⟩ ih;have hi2:i<m.length:=by omega
  have hw:=qag i (by omega);have hee:=qacn l[i] m[i] (hf _ (Qd hi));by_cases c:l[i]=m[i]
  ·rw [decide_eq_true c] at hee;rw [qdk hi hi2 c];simp [c_70_l0,cSe,hi,hi2,h0,h1,h5,hw,hee];refine (ih _ ⟨by simp [h0],by simp [h1],by simp⟩).trans (by simp)
  ·rw [decide_eq_false c] at hee;rw [qcl hi hi2 c];simp [c_70_l0,cSe,hi,hi2,h0,h1,h5,hee]
 ·rintro e L hL ⟨h0,h1,h5⟩;rw [qdj q1];simp [c_70_l0,c_70_k1, *]
 ·simp
theorem qacm (l m:List Rw) (hb:l.length<2^40) (hs:∀r∈l,r.entry.sm):qab Φ f_71 [.slice 5 (l.map Rw.c),.slice 5 (m.map Rw.c)]=some (.val (.bool (decide (l=m)))):=by
 rw [qaa (fn:=c_71) rfl rfl];by_cases q1:l.length=m.length
 rotate_left
 ·have:l≠m:=fun h=>q1 (by rw [h])
  simp [c_71,q1,this]
 simp [c_71,q1];refine (qau l.length (fun i e=>look 0 e=some (.slice 5 (l.map Rw.c))/\look 1 e=some (.slice 5 (m.map Rw.c))/\look 5 e=some (.int .i64 i))
  (fun i=>some (Rt.val (AV.bool (qb5 l m i)))) ?_ ?_ 0 _ (Qc _) ?_).trans (by simp [qb5])
 ·rintro i e L hi hL ⟨h0,h1,h5⟩ ih;have hi2:i<m.length:=by omega
  have hw:=qag i (by omega);have hee:=qhu l[i].entry m[i].entry (hs _ (Qd hi));simp only [Entry.ce] at hee;by_cases c1:l[i].id=m[i].id
  rotate_left
  ·rw [qcl hi hi2 (fun h=>c1 (by rw [h]))];simp [c_71_l0,Rw.ce,hi,hi2,h0,h1,h5,c1]
  by_cases c2:l[i].entry.priority=m[i].entry.priority
  rotate_left
  ·rw [qcl hi hi2 (fun h=>c2 (by rw [h]))];simp [c_71_l0,Rw.ce,hi,hi2,h0,h1,h5,c1,c2]
  by_cases c:l[i].entry=m[i].entry
  ·rw [decide_eq_true c,c2] at hee;rw [qdk hi hi2 ((Rw.eq_iff _ _).2 ⟨c1,c⟩)];simp [c_71_l0,Rw.ce,hi,hi2,h0,h1,h5,hw,c1,c2,hee];refine (ih _ ⟨by simp [h0],by simp [h1],by simp⟩).trans (by simp)
  ·rw [decide_eq_false c,c2] at hee;rw [qcl hi hi2 (fun h=>c (by rw [h]))];simp [c_71_l0,Rw.ce,hi,hi2,h0,h1,h5,c1,c2,hee]
 ·rintro e L hL ⟨h0,h1,h5⟩;rw [qdj q1];simp [c_71_l0,c_71_k1, *]
 ·simp
theorem qaad (x y:ActionCall) (h:x.args.length<2^40):qab Φ f_72 [.agg (ActionCall.c x),.agg (ActionCall.c y)]=some (.val (.bool (decide (x=y)))):=by
 rw [decide_eq_decide.2 (ActionCall.eq_iff x y)];exact qlq x.action y.action x.args y.args h
theorem qgq (a b:Config) (f:CfgS a):qab Φ f_20 [.agg (Config.c a),.agg (Config.c b)]=some (.val (.bool (decide (a=b)))):=by
 have ee:decide (a=b)=decide (a.rows=b.rows/\a.nextID=b.nextID/\a.defaults=b.defaults/\a.registers=b.registers):=decide_eq_decide.2 (Config.eq_iff a b);rw [ee,qaa (fn:=c_20) rfl rfl];have g2:=qack a.nextID b.nextID f.nl;have g4:=qacl a.registers b.registers f.gl f.gs;by_cases q1:a.rows.length=b.rows.length
 rotate_left
 ·have:a.rows≠b.rows:=fun h=>q1 (by rw [h])
  simp [c_20,Config.ce,q1,this]
 by_cases q2:a.nextID=b.nextID
 rotate_left
 ·simp [c_20,Config.ce,q1,q2,g2]
 by_cases q3:a.defaults.length=b.defaults.length
 rotate_left
 ·have:a.defaults≠b.defaults:=fun h=>q3 (by rw [h])
  rw [q2] at g2;simp [c_20,Config.ce,q1,q2,g2,q3,this]
 by_cases q4:a.registers=b.registers
 rotate_left
 ·rw [q2] at g2;simp [c_20,Config.ce,q1,q2,q3,g2,g4,q4]
 rw [q2] at g2;rw [q4] at g4;simp [c_20,Config.ce,q1,q2,q3,q4,g2,g4];refine (qau a.rows.length (fun i e=>look 2 e=some (.ptr 0 4 0 0)/\look 3 e=some (.ptr 1 4 0 0)/\look 5 e=some (.int .i64 i))
  (fun i=>some (Rt.val (AV.bool (qb5 a.rows b.rows i&&decide (a.defaults=b.defaults))))) ?_ ?_ 0 _ (Qc _) ?_).trans (by simp [qb5])
 ·rintro i e L hi hL ⟨h2,h3,h5⟩ ih;have hi2:i<b.rows.length:=by omega
  have hw:IntKind.wrap .i64 ((i:Int)+1)=((i+1:Nat):Int):=qa6 (by omega) (by have:=f.rl;omega);obtain ⟨u1,u2⟩:=f.rs _ (Qd hi);have hee:=qacm a.rows[i] b.rows[i] u1 u2;by_cases c:a.rows[i]=b.rows[i]
  ·rw [decide_eq_true c] at hee;rw [qdk hi hi2 c];simp [c_20_l0,cSe,hi,hi2,h2,h3,h5,hee,hw];refine (ih _ ⟨by simp [h2],by simp [h3],by simp⟩).trans (by simp)
  ·rw [decide_eq_false c] at hee;rw [qcl hi hi2 c];simp [c_20_l0,cSe,hi,hi2,h2,h3,h5,hee]
 ·rintro e L hL ⟨h2,h3,h5⟩;rw [qdj q1];simp [c_20_l0,c_20_k3,h2,h5,hL];refine (qau a.defaults.length (fun i e=>look 2 e=some (.ptr 0 4 0 0)/\look 3 e=some (.ptr 1 4 0 0)/\look 6 e=some (.int .i64 i))
   (fun i=>some (Rt.val (AV.bool (qb5 a.defaults b.defaults i)))) ?_ ?_ 0 _ (Qc _) ?_).trans (by simp [qb5])
  ·rintro i e L' hi hL' ⟨h2,h3,h6⟩ ih;have hi2:i<b.defaults.length:=by omega
   have hw:IntKind.wrap .i64 ((i:Int)+1)=((i+1:Nat):Int):=qa6 (by omega) (by have:=f.dl;omega);have hee:=qaad a.defaults[i] b.defaults[i] (f.ds _ (Qd hi));simp only [ActionCall.ce] at hee;by_cases c:a.defaults[i]=b.defaults[i]
   ·rw [decide_eq_true c] at hee;rw [qdk hi hi2 c];simp [c_20_l1,ActionCall.ce,hi,hi2,h2,h3,h6,hee,hw];refine (ih _ ⟨by simp [h2],by simp [h3],by simp⟩).trans (by simp)
   ·rw [decide_eq_false c] at hee;rw [qcl hi hi2 c];simp [c_20_l1,ActionCall.ce,hi,hi2,h2,h3,h6,hee]
  ·rintro e L' hL' ⟨h2,h3,h6⟩;rw [qdj q3];simp [c_20_l1,c_20_k2,h2,h6,hL']
  ·simp [h2,h3]
 ·simp
theorem Action.ce (x:Action):Action.c x=[.str x.name,.slice 2 (x.params.map Fld.c),.slice 7 (x.body.map Statement.c)]:=by simp [Action.c]
theorem Header.ce (x:Header):Header.c x=[.str x.name,.slice 2 (x.fields.map Fld.c)]:=by simp [Header.c]
theorem Register.ce (x:Register):Register.c x=[.str x.name,.int .i64 x.width,.int .i64 x.size]:=by simp [Register.c]
theorem Statement.ce (x:Statement):Statement.c x=[.int .i64 x.kind,.int .i64 x.dst.header,.int .i64 x.dst.field,.int .i64 x.register,.int .i64 x.header,.slice 3 (x.index.map ExprNode.c),.slice 3 (x.value.map ExprNode.c)]:=by simp [Statement.c]
theorem Tbl.ce (x:Tbl):Tbl.c x=[.str x.name,.slice 3 (x.keys.map TableKey.c),.slice 1 (x.actions.map cI),.int .i64 x.dflt.action,.slice 1 (x.dflt.args.map c32),.int .i64 x.size]:=by simp [Tbl.c]
theorem ParserState.ce (x:ParserState):ParserState.c x=[.str x.name,.slice 1 (x.extract.map cI),.bool x.select,.int .i64 x.on.header,.int .i64 x.on.field,.slice 3 (x.cases.map SelectCase.c),.int .i64 x.dflt]:=by simp [ParserState.c]
theorem ControlNode.ce (k t:Int) (c:List ExprNode) (a b:List ControlNode):ControlNode.c (.mk k t c a b)=[.int .i64 k,.int .i64 t,.slice 3 (c.map ExprNode.c),.slice 5 (a.map ControlNode.c),.slice 5 (b.map ControlNode.c)]:=by simp [ControlNode.c,ControlNode.cs_eq]
theorem Prg.ce (x:Prg):Prg.c x=[.str x.name,.slice 2 (x.headers.map Header.c),.slice 2 (x.metadata.map Fld.c),.slice 3 (x.registers.map Register.c),.slice 3 (x.actions.map Action.c),.slice 6 (x.tables.map Tbl.c),.slice 7 (x.states.map ParserState.c),.slice 5 (x.control.map ControlNode.c),.slice 1 (x.deparser.map cI)]:=by simp [Prg.c]
def BlkQ (l:List ControlNode) (k:Nat) (x:Option Rt):Prop:=∃r:Int,x=some (.val (.int .i64 r))/\0<=r/\r<=(2^(k+1) - 1)*274877906944/\(r<=60->((pre l).length:Int)<=r)
theorem qaib (k:Nat):(1:Int)<=2^k:=by
 have h:0<2^k:=Nat.two_pow_pos k;rw [show (2:Int)^k=((2^k:Nat):Int) from by rw [Int.natCast_pow];rfl];omega
theorem p2_le (k:Nat) (hk:k<=22):(2:Int)^k<=4194304:=by
 have:=Nat.pow_le_pow_right (n:=2) (by omega) hk;have e:(2:Nat)^22=4194304:=by decide
 rw [e] at this;rw [show (2:Int)^k=((2^k:Nat):Int) from by rw [Int.natCast_pow];rfl];omega
theorem qrg:∀(k d:Nat) (l:List ControlNode),k+d=21->l.length<2^40->(∀x∈l,ControlNode.Ok qa5 x)->BlkQ l k (qab Φ f_143 [.slice 5 (l.map ControlNode.c),.int .i64 d,.int .i64 60]):=by
 intro k
 induction k with
 | zero=>
  intro d l hd hl ho;have:d=21:=by omega
  subst this;rw [qaa (fn:=c_143) rfl rfl];by_cases z0:60<l.length
  ·simp [c_143,z0];exact ⟨61,rfl,by omega,by decide,by omega⟩
  ·simp [c_143,z0];exact ⟨61,rfl,by omega,by decide,by omega⟩
 | succ k ihk=>
  intro d l hd hl ho;rw [qaa (fn:=c_143) rfl rfl];have hd0:¬(20<d):=by omega
  have p1:=qaib (k+1);have p2:=p2_le (k+1) (by omega);have p3:(2:Int)^(k+1+1)=2*2^(k+1):=by rw [Int.pow_succ];omega
  have p4:=p2_le (k+1+1) (by omega);by_cases z0:60<l.length
  ·simp [c_143,z0];refine ⟨61,rfl,by omega,?_,by omega⟩;rw [p3];omega
  simp [c_143,z0,hd0];refine qe0 l.length (fun i e=>look 0 e=some (.slice 5 (l.map ControlNode.c))/\look 1 e=some (.int .i64 d)/\look 2 e=some (.int .i64 60)/\look 8 e=some (.int .i64 i)/\∃q:Int,look 7 e=some (.int .i64 q)/\0<=q/\q<=(2^(k+1+1) - 1)*274877906944/\(q<=60->((pre (l.take i)).length:Int)+(l.length - i)<=q))
   (BlkQ l (k+1)) ?_ ?_ 0 _ (Qc _) ?_
  ·rintro i e L hi hL ⟨h0,h1,h2,h8,q,h7,q0,q1,q2⟩ ih;have hw:=qag i (by omega);by_cases z:q<=60
   rotate_left
   ·simp [c_143_l0,c_143_k1,h0,h2,h7,h8,hi,hL,z];exact ⟨q,rfl,q0,q1,fun h=>absurd h z⟩
   obtain ⟨kk,t,c,a,b,hx⟩:=qdd l[i];have ho':=ho _ (Qd hi);rw [hx] at ho';simp only [ControlNode.Ok] at ho';obtain ⟨_,_,hc,⟨ha1,ha2⟩,hb1,hb2⟩:=ho';rw [ControlNode.oks_eq] at ha2 hb2;rw [qdz] at ha1 hb1;have hcl:c.length<=1048576:=by have:=hc.1;rw [qdz] at this;exact this
   have hdn:IntKind.wrap .i64 ((d:Int)+1)=((d:Int)+1):=qa6 (by omega) (by omega);obtain ⟨u,hu,u0,u1,u2⟩:=ihk (d+1) a (by omega) (by omega) ha2;obtain ⟨v,hv,v0,v1,v2⟩:=ihk (d+1) b (by omega) (by omega) hb2;rw [show (((d+1:Nat)):Int)=(d:Int)+1 by omega] at hu hv;have wu:IntKind.wrap .i64 (u+v)=u+v:=qa6 (by omega) (by omega);obtain ⟨g,hg,g0,g1⟩:∃g:Int,(c.length:Int) / 20=g/\0<=g/\g<=1048576:=⟨_,rfl,by omega,by omega⟩;have wc:IntKind.wrap .i64 g=g:=qa6 (by omega) (by omega);have wv:IntKind.wrap .i64 (u+v+g)=u+v+g:=qa6 (by omega) (by omega);have ww:IntKind.wrap .i64 (q+(u+v+g))=q+(u+v+g):=qa6 (by omega) (by omega);simp [c_143_l0,h0,h1,h2,h7,h8,hi,z,hdn,hx,ControlNode.ce,hu,hv,hg,wc,wu,wv,ww,hw];refine ih _ ⟨by simp [h0],by simp [h1],by simp [h2],by simp,q+(u+v+g),by simp,by omega,by omega,?_⟩;intro hlt;have ht:=congrArg List.length (qis hi);rw [hx,qe1] at ht;simp at ht;have:=q2 z;have:=u2 (by omega);have:=v2 (by omega);rw [ht];simp;omega
  ·rintro e L hL ⟨h0,h1,h2,h8,q,h7,q0,q1,q2⟩;simp [c_143_l0,c_143_k1,h0,h7,h8,hL];refine ⟨q,rfl,q0,q1,fun h=>?_⟩;have:=q2 h;rw [List.take_length] at this;omega
  ·simp [pre];omega
def hp0 (p:Prg):AH:=⟨[(0,.row 9 [[.str p.name,.slice 2 (p.headers.map Header.c),.slice 2 (p.metadata.map Fld.c),.slice 3 (p.registers.map Register.c),.slice 3 (p.actions.map Action.c),.slice 6 (p.tables.map Tbl.c),.slice 7 (p.states.map ParserState.c),.slice 5 (p.control.map ControlNode.c),.slice 1 (p.deparser.map cI)]])],1⟩
structure PrgB (p:Prg):Prop where
 h:p.headers.length<2^40
 r:p.registers.length<2^40
 a:p.actions.length<2^40
 b:∀x∈p.actions,x.body.length<2^40
 t:p.tables.length<2^40
 s:p.states.length<2^40
 c:p.control.length<2^40
 co:∀x∈p.control,ControlNode.Ok qa5 x
theorem qid {p:Prg} (o:p.Ok qa5):PrgB p:=by
 obtain ⟨_,o1,o2,o3,o4,o5,o6,o7,o8⟩:=o;have e:=qdz;refine ⟨by have:=o1.1;omega,by have:=o3.1;omega,by have:=o4.1;omega,?_,by have:=o5.1;omega,by have:=o6.1;omega,by have:=o7.1;omega,o7.2⟩;intro x hx;have h:=o4.2 x hx;simp only [Action.Ok] at h;have:=h.2.2.1;omega
theorem s16_c (p:Prg) (f:PrgB p) (e:Env) (h1:look 1 e=some (.ptr 0 9 0 0)):IsB (go Φ (finP [.tmp 2]) [.c c_142_k6] .normal ⟨e,hp0 p⟩):=by
 simp [c_142_k6];refine qe0 p.registers.length (fun i e=>look 1 e=some (.ptr 0 9 0 0)/\look 6 e=some (.int .i64 i)) IsB ?_ ?_ 0 _ (Qc _) ?_
 ·rintro i e L hi hL ⟨h1,h6⟩ ih;have hr:=f.r;have hw:=qag i (by omega);by_cases z:200<p.registers[i].size
  ·simp [c_142_l4,hp0,Register.ce,h1,h6,hi,z]
  simp [c_142_l4,hp0,Register.ce,h1,h6,hi,z,hw];exact ih _ ⟨by simp [h1],by simp⟩
 ·rintro e L hL ⟨h1,h6⟩;simp [c_142_l4,hp0,h1,h6,hL,c_142_k5]
 ·simp [h1]
theorem s16_b (p:Prg) (f:PrgB p) (e:Env) (h1:look 1 e=some (.ptr 0 9 0 0)):IsB (go Φ (finP [.tmp 2]) [.c c_142_k7] .normal ⟨e,hp0 p⟩):=by
 simp [c_142_k7];refine qe0 p.headers.length (fun i e=>look 1 e=some (.ptr 0 9 0 0)/\look 5 e=some (.int .i64 i)) IsB ?_ ?_ 0 _ (Qc _) ?_
 ·rintro i e L hi hL ⟨h1,h5⟩ ih;have hr:=f.h;have hw:=qag i (by omega);by_cases z:40<p.headers[i].fields.length
  ·simp [c_142_l3,hp0,Header.ce,h1,h5,hi,z]
  simp [c_142_l3,hp0,Header.ce,h1,h5,hi,z,hw];exact ih _ ⟨by simp [h1],by simp⟩
 ·rintro e L hL ⟨h1,h5⟩;simp [c_142_l3,hp0,h1,h5,hL];have:=s16_c p f;simp only [hp0] at this;apply this;simp [h1]
 ·simp [h1]
theorem qaat (p:Prg) (f:PrgB p):IsB (qab Φ f_142 [.agg (Prg.c p)]):=by
 rw [qaa (fn:=c_142) rfl rfl];by_cases z0:20<p.headers.length
 ·simp [c_142,Prg.ce,z0]
 by_cases z1:30<p.metadata.length
 ·simp [c_142,Prg.ce,z0,z1]
 by_cases z2:20<p.registers.length
 ·simp [c_142,Prg.ce,z0,z1,z2]
 by_cases z3:40<p.actions.length
 ·simp [c_142,Prg.ce,z0,z1,z2,z3]
 simp [c_142,Prg.ce,z0,z1,z2,z3];refine qe0 p.actions.length (fun i e=>look 1 e=some (.ptr 0 9 0 0)/\look 3 e=some (.int .i64 i)) IsB ?_ ?_ 0 _ (Qc _) ?_
 ·rintro i e L hi hL ⟨h1,h3⟩ ih;have hr:=f.a;have hw:=qag i (by omega);by_cases y0:20<p.actions[i].params.length
  ·simp [c_142_l2,Action.ce,h1,h3,hi,y0]
  by_cases y1:30<p.actions[i].body.length
  ·simp [c_142_l2,Action.ce,h1,h3,hi,y0,y1]
  simp [c_142_l2,Action.ce,h1,h3,hi,y0,y1];refine qe0 p.actions[i].body.length (fun k e=>look 1 e=some (.ptr 0 9 0 0)/\look 3 e=some (.int .i64 i)/\look 4 e=some (.int .i64 k)) IsB ?_ ?_ 0 _ (Qc _) ?_
  ·rintro k e L' hk hL' ⟨h1,h3,h4⟩ ih';have hw:=qag k (by omega);by_cases x0:60<p.actions[i].body[k].index.length
   ·simp [c_142_l0,Action.ce,Statement.ce,h1,h3,h4,hi,hk,x0]
   by_cases x1:60<p.actions[i].body[k].value.length
   ·simp [c_142_l0,Action.ce,Statement.ce,h1,h3,h4,hi,hk,x0,x1]
   simp [c_142_l0,Action.ce,Statement.ce,h1,h3,h4,hi,hk,x0,x1,hw];exact ih' _ ⟨by simp [h1],by simp [h3],by simp⟩
  ·rintro e L' hL' ⟨h1,h3,h4⟩;simp [c_142_l0,Action.ce,h1,h3,h4,hi,hL',c_142_k1,hw];exact ih _ ⟨by simp [h1],by simp⟩
  ·simp [h1,h3]
 ·rintro e L hL ⟨h1,h3⟩;simp [c_142_l2,h1,h3,hL];have:=s16_b p f;simp only [hp0] at this;apply this;simp [h1]
 ·simp
theorem s22_b (p:Prg) (f:PrgB p) (e:Env) (h1:look 1 e=some (.ptr 0 9 0 0)):IsB (go Φ (finP [.tmp 2]) [.c c_60_k3] .normal ⟨e,hp0 p⟩):=by
 simp [c_60_k3];refine qe0 p.states.length (fun i e=>look 1 e=some (.ptr 0 9 0 0)/\look 4 e=some (.int .i64 i)) IsB ?_ ?_ 0 _ (Qc _) ?_
 ·rintro i e L hi hL ⟨h1,h4⟩ ih;have hr:=f.s;have hw:=qag i (by omega);by_cases z:20<p.states[i].extract.length
  ·simp [c_60_l1,hp0,ParserState.ce,h1,h4,hi,z]
  by_cases z1:20<p.states[i].cases.length
  ·simp [c_60_l1,hp0,ParserState.ce,h1,h4,hi,z,z1]
  simp [c_60_l1,hp0,ParserState.ce,h1,h4,hi,z,z1,hw];exact ih _ ⟨by simp [h1],by simp⟩
 ·rintro e L hL ⟨h1,h4⟩;simp [c_60_l1,hp0,h1,h4,hL,c_60_k2]
 ·simp [h1]
theorem qaau (p:Prg) (f:PrgB p):IsB (qab Φ f_60 [.agg (Prg.c p)]):=by
 obtain ⟨b,hb⟩:=qaat p f;obtain ⟨n,hn,_⟩:=qrg 21 0 p.control rfl f.c f.co;simp only [Int.natCast_zero] at hn;simp only [Prg.ce] at hb;rw [qaa (fn:=c_60) rfl rfl];cases b with
 | false=>simp [c_60,Prg.ce,hb]
 | true=>
 by_cases z0:30<p.tables.length
 ·simp [c_60,Prg.ce,hb,z0]
 by_cases z1:30<p.states.length
 ·simp [c_60,Prg.ce,hb,z0,z1]
 by_cases z2:30<p.deparser.length
 ·simp [c_60,Prg.ce,hb,z0,z1,z2]
 by_cases z3:60<n
 ·simp [c_60,Prg.ce,hb,hn,z0,z1,z2,z3]
 simp [c_60,Prg.ce,hb,hn,z0,z1,z2,z3];refine qe0 p.tables.length (fun i e=>look 1 e=some (.ptr 0 9 0 0)/\look 3 e=some (.int .i64 i)) IsB ?_ ?_ 0 _ (Qc _) ?_
 ·rintro i e L hi hL ⟨h1,h3⟩ ih;have hr:=f.t;have hw:=qag i (by omega);by_cases y0:20<p.tables[i].keys.length
  ·simp [c_60_l0,Tbl.ce,h1,h3,hi,y0]
  by_cases y1:40<p.tables[i].actions.length
  ·simp [c_60_l0,Tbl.ce,h1,h3,hi,y0,y1]
  by_cases y2:40<p.tables[i].dflt.args.length
  ·simp [c_60_l0,Tbl.ce,h1,h3,hi,y0,y1,y2]
  simp [c_60_l0,Tbl.ce,h1,h3,hi,y0,y1,y2,hw];exact ih _ ⟨by simp [h1],by simp⟩
 ·rintro e L hL ⟨h1,h3⟩;simp [c_60_l0,h1,h3,hL];have:=s22_b p f;simp only [hp0] at this;apply this;simp [h1]
 ·simp
theorem qaga (p:Prg) (f:PrgB p) (h:qab Φ f_60 [.agg (Prg.c p)]=some (.val (.bool true))):(pre p.control).length<=60:=by
 obtain ⟨b,hb⟩:=qaat p f;obtain ⟨n,hn,_,_,n2⟩:=qrg 21 0 p.control rfl f.c f.co;simp only [Int.natCast_zero] at hn;simp only [Prg.ce] at hb;refine Decidable.byContradiction fun hc=>?_
 have z3:60<n:=by
  refine Decidable.byContradiction fun hz=>?_
  have:=n2 (by omega);omega
 rw [qaa (fn:=c_60) rfl rfl] at h;cases b with
 | false=>simp [c_60,Prg.ce,hb] at h
 | true=>
 by_cases z0:30<p.tables.length
 ·simp [c_60,Prg.ce,hb,z0] at h
 by_cases z1:30<p.states.length
 ·simp [c_60,Prg.ce,hb,z0,z1] at h
 by_cases z2:30<p.deparser.length
 ·simp [c_60,Prg.ce,hb,z0,z1,z2] at h
 simp [c_60,Prg.ce,hb,hn,z0,z1,z2,z3] at h
def hp1 (p:Prg) (c:Config):AH:=⟨[(0,.row 9 [[.str p.name,.slice 2 (p.headers.map Header.c),.slice 2 (p.metadata.map Fld.c),.slice 3 (p.registers.map Register.c),.slice 3 (p.actions.map Action.c),.slice 6 (p.tables.map Tbl.c),.slice 7 (p.states.map ParserState.c),.slice 5 (p.control.map ControlNode.c),.slice 1 (p.deparser.map cI)]]),(1,.row 4 [[.slice 1 (c.rows.map (cS 5 Rw.c)),.slice 1 (c.nextID.map cI),.slice 2 (c.defaults.map ActionCall.c),.slice 1 (c.registers.map (cS 1 c32))]])],2⟩
theorem s25_b (p:Prg) (c:Config) (f:CfgS c) (q:Int) (e:Env) (h3:look 3 e=some (.ptr 1 4 0 0)) (h5:look 5 e=some (.int .i64 q)):IsB (go Φ (finP [.tmp 4]) [.c c_15_k5] .normal ⟨e,hp1 p c⟩):=by
 simp [c_15_k5];refine qe0 c.registers.length (fun i e=>look 3 e=some (.ptr 1 4 0 0)/\look 5 e=some (.int .i64 q)/\look 8 e=some (.int .i64 i)) IsB ?_ ?_ 0 _ (Qc _) ?_
 ·rintro i e L hi hL ⟨h3,h5,h8⟩ ih;have hr:=f.gl;have hw:=qag i (by omega);by_cases z:300<c.registers[i].length
  ·simp [c_15_l3,hp1,cSe,h3,h8,hi,z]
  simp [c_15_l3,hp1,cSe,h3,h8,hi,z,hw];exact ih _ ⟨by simp [h3],by simp [h5],by simp⟩
 ·rintro e L hL ⟨h3,h5,h8⟩;simp [c_15_l3,hp1,h3,h5,h8,hL,c_15_k4]
 ·simp [h3,h5]
theorem qu3 (p:Prg) (c:Config) (f:PrgB p) (g:CfgS c):IsB (qab Φ f_15 [.agg (Prg.c p),.agg (Config.c c)]):=by
 obtain ⟨b,hb⟩:=qaau p f;simp only [Prg.ce] at hb;rw [qaa (fn:=c_15) rfl rfl];cases b with
 | false=>simp [c_15,Prg.ce,Config.ce,hb]
 | true=>
 by_cases z0:30<c.rows.length
 ·simp [c_15,Prg.ce,Config.ce,hb,z0]
 by_cases z1:30<c.registers.length
 ·simp [c_15,Prg.ce,Config.ce,hb,z0,z1]
 by_cases z2:30<c.defaults.length
 ·simp [c_15,Prg.ce,Config.ce,hb,z0,z1,z2]
 by_cases z3:60<c.nextID.length
 ·simp [c_15,Prg.ce,Config.ce,hb,z0,z1,z2,z3]
 simp [c_15,Prg.ce,Config.ce,hb,z0,z1,z2,z3];refine qe0 c.rows.length (fun i e=>look 3 e=some (.ptr 1 4 0 0)/\look 6 e=some (.int .i64 i)/\∃q,look 5 e=some (.int .i64 q)) IsB ?_ ?_ 0 _ (Qc _) ?_
 ·rintro i e L hi hL ⟨h3,h6,q,h5⟩ ih;have hr:=g.rl;have hw:=qag i (by omega);have hri:=(g.rs _ (Qd hi)).1;simp [c_15_l2,cSe,h3,h5,h6,hi];refine qe0 c.rows[i].length (fun k e=>look 3 e=some (.ptr 1 4 0 0)/\look 6 e=some (.int .i64 i)/\look 7 e=some (.int .i64 k)/\∃q,look 5 e=some (.int .i64 q)) IsB ?_ ?_ 0 _ (Qc _) ?_
  ·rintro k e L' hk hL' ⟨h3,h6,h7,q,h5⟩ ih';have hw':=qag k (by omega);by_cases x:(k:Int)<300
   rotate_left
   ·simp [c_15_l0,cSe,h3,h6,h7,hi,hk,hL',x,c_15_k1,hw];exact ih _ ⟨by simp [h3],by simp,q,by simp [h5]⟩
   by_cases x0:30<c.rows[i][k].entry.keys.length
   ·simp [c_15_l0,cSe,Rw.ce,h3,h6,h7,hi,hk,x,x0]
   by_cases x1:30<c.rows[i][k].entry.call.args.length
   ·simp [c_15_l0,cSe,Rw.ce,h3,h6,h7,hi,hk,x,x0,x1]
   simp [c_15_l0,cSe,Rw.ce,h3,h6,h7,hi,hk,x,x0,x1,hw'];exact ih' _ ⟨by simp [h3],by simp [h6],by simp,q,by simp [h5]⟩
  ·rintro e L' hL' ⟨h3,h6,h7,q,h5⟩;simp [c_15_l0,cSe,h3,h6,h7,hi,hL',c_15_k1,hw];exact ih _ ⟨by simp [h3],by simp,q,by simp [h5]⟩
  ·simp [h3,h6]
 ·rintro e L hL ⟨h3,h6,q,h5⟩;simp [c_15_l2,h3,h6,hL];have:=s25_b p c g q;simp only [hp1] at this;apply this
  ·simp [h3]
  ·simp [h5]
 ·simp
theorem qq3 (p:Prg) (c:Config) (f:PrgB p) (h:qab Φ f_15 [.agg (Prg.c p),.agg (Config.c c)]=some (.val (.bool true))):(pre p.control).length<=60:=by
 obtain ⟨b,hb⟩:=qaau p f;cases b with
 | true=>exact qaga p f hb
 | false=>
  simp only [Prg.ce] at hb;rw [qaa (fn:=c_15) rfl rfl] at h;simp [c_15,Prg.ce,Config.ce,hb] at h
def tOk (p:Prg) (t:Int):Bool:=decide ((tblE p t).2=0)
theorem keyV {p:Prg} {x:Tbl} (h:keyE p x=none):∀k∈x.keys,k.kind=1\/k.kind=2\/k.kind=3:=by
 intro k hk;obtain ⟨i,hi,rfl⟩:=List.getElem_of_mem hk;have:=(fe_all.1 h) i hi;simp [hi] at this;split at this
 ·cases this
 ·split at this
  ·assumption
  ·cases this
structure TOk (p:Prg) (k:Nat) (hk:k<p.tables.length):Prop where
 keys:p.tables[k].keys.length<=6
 acts:p.tables[k].actions.length<=16
 kinds:∀x∈p.tables[k].keys,x.kind=1\/x.kind=2\/x.kind=3
 size:1<=p.tables[k].size/\p.tables[k].size<=256
theorem qhx {p:Prg} {t:Int} (h:tOk p t=true):∃(k:Nat) (hk:k<p.tables.length),t=k/\TOk p k hk:=by
 simp only [tOk,decide_eq_true_eq] at h;by_cases i0:t<0
 ·simp [tblE,qbp i0] at h
 by_cases i1:(p.tables.length:Int)<=t
 ·simp [tblE,qbo i1] at h
 obtain ⟨k,rfl⟩:∃k:Nat,t=k:=⟨t.toNat,by omega⟩;have hk:k<p.tables.length:=by omega
 refine ⟨k,hk,rfl,?_⟩;unfold tblE at h;rw [qhl,Qa hk] at h;dsimp only at h;by_cases z0:idS p.tables[k].name=false
 ·rw [if_pos z0] at h;cases h
 rw [if_neg z0] at h;by_cases z1:6<p.tables[k].keys.length\/16<p.tables[k].actions.length
 ·rw [if_pos z1] at h;cases h
 rw [if_neg z1] at h;by_cases z2:p.tables[k].size<1\/256<p.tables[k].size
 ·rw [if_pos z2] at h;cases h
 rw [if_neg z2] at h;by_cases z3:(qe3 p p.tables[k]).2≠0
 ·rw [if_pos z3] at h;exact absurd h z3
 refine ⟨by omega,by omega,?_,by omega⟩;unfold qe3 at z3;cases q:keyE p p.tables[k] with
 | none=>exact keyV q
 | some e=>
  exfalso;rw [q] at z3;dsimp only at z3;obtain ⟨i,hi,hx⟩:=qdw q;simp only [Qt] at hx;obtain ⟨y,_,hy⟩:=hx;split at hy
  ·cases hy;exact z3 (by simp)
  ·split at hy
   ·cases hy
   ·cases hy;exact z3 (by simp)
theorem qm7 (p:Prg) (f:PrgS p) (t:Int):qab Φ f_260 [.agg (Prg.c p),.int .i64 t]=some (.val (.bool (tOk p t))):=by
 rw [qaa (fn:=c_260) rfl rfl];have h:=qq8 p f t;simp only [Prg.e] at h;simp [c_260,Prg.e,h,tOk]
theorem qlf (p:Prg) (f:PrgS p) (hv:∀t∈p.tables,∀v∈t.dflt.args,ok32 0 v) (t:Int):qab Φ f_252 [.agg (Prg.c p),.int .i64 t]=some (.val (.bool (tOk p t))):=by
 rw [qaa (fn:=c_252) rfl rfl];have h:=qop p f hv t;simp only [Prg.e] at h;simp [c_252,Prg.e,h,tOk]
def kMax:List TableKey->Int->Int
 | [],a=>a
 | k::r,a=>kMax r (max a k.kind)
def qgt (p:Prg) (t:Int):Int:=if tOk p t then (match at? p.tables t with
 | some x=>kMax x.keys 1
 | none=>0) else 0
theorem qz2:∀(l:List TableKey) (a:Int),a=3->(∀x∈l,x.kind=1\/x.kind=2\/x.kind=3)->kMax l a=3
 | [],a,h,_=>h
 | k::r,a,h,hk=>by
  subst h;have:=hk k (by simp);simp only [kMax];exact qz2 r _ (by omega) fun x hx=>hk x (by simp [hx])
theorem qads (p:Prg) (f:PrgS p) (t:Int):qab Φ f_178 [.agg (Prg.c p),.int .i64 t]=some (.val (.int .i64 (qgt p t))):=by
 rw [qaa (fn:=c_178) rfl rfl];have h:=qm7 p f t;simp only [Prg.e] at h;cases q:tOk p t with
 | false=>
  rw [q] at h;simp [c_178,Prg.e,h,qgt,q]
 | true=>
 rw [q] at h;obtain ⟨k,hk,rfl,o⟩:=qhx q;have hK:qgt p (k:Int)=kMax p.tables[k].keys 1:=by simp [qgt,q,hk]
 rw [hK];have hb:=o.keys;simp [c_178,Prg.e,h,hk,Tbl.e];refine qat p.tables[k].keys.length (fun _=>[]) 0 (fun i e=>look 17 e=some (.slice 3 (p.tables[k].keys.map TableKey.c))/\look 18 e=some (.int .i64 p.tables[k].keys.length)/\look 19 e=some (.int .i64 i)/\∃a:Int,look 5 e=some (.int .i64 a)/\(a=1\/a=2)/\kMax (p.tables[k].keys.drop i) a=kMax p.tables[k].keys 1)
  (fun _=>some (Rt.val (.int .i64 (kMax p.tables[k].keys 1)))) ?_ ?_ 0 _ 0 (Qc _) (Qb _) ?_
 ·rintro i e n L hi hL _ ⟨h17,h18,h19,a,h5,ha,hm⟩ ih;have hw:=qag i (by omega);rw [Qi hi] at hm;simp only [kMax] at hm;have hkk:=o.kinds _ (Qd hi);by_cases k3:p.tables[k].keys[i].kind=3
  ·have:kMax p.tables[k].keys 1=3:=by
    rw [<- hm];exact qz2 _ _ (by omega) fun x hx=>o.kinds x (List.mem_of_mem_drop hx)
   rw [this];simp [c_178_l0,TableKey.e,h17,h18,h19,hi,k3]
  by_cases k2:p.tables[k].keys[i].kind=2
  ·simp [c_178_l0,TableKey.e,h17,h18,h19,hi,k2,hw];exact ih _ _ (Qc _) ⟨by simp [h17],by simp [h18],by simp,2,by simp,.inr rfl,by rw [<- hm];congr 1;omega⟩
  ·simp [c_178_l0,TableKey.e,h17,h18,h19,hi,k3,k2,hw];exact ih _ _ (Qc _) ⟨by simp [h17],by simp [h18],by simp,a,by simp [h5],ha,by rw [<- hm];congr 1;omega⟩
 ·rintro e n L hL _ ⟨h17,h18,h19,a,h5,ha,hm⟩;rw [List.drop_length] at hm;simp only [kMax] at hm;rw [<- hm];simp [c_178_l0,c_178_k1,h5,h18,h19,hL]
 ·simp
theorem qacx (p:Prg) (f:PrgS p) (hv:∀t∈p.tables,∀v∈t.dflt.args,ok32 0 v) (t:Int):qab Φ f_251 [.agg (Prg.c p),.int .i64 t]=some (.val (.int .i64 (qgt p t))):=by
 rw [qaa (fn:=c_251) rfl rfl];have h:=qlf p f hv t;simp only [Prg.e] at h;cases q:tOk p t with
 | false=>
  rw [q] at h;simp [c_251,Prg.e,h,qgt,q]
 | true=>
 rw [q] at h;obtain ⟨k,hk,rfl,o⟩:=qhx q;have hK:qgt p (k:Int)=kMax p.tables[k].keys 1:=by simp [qgt,q,hk]
 rw [hK];have hb:=o.keys;simp [c_251,Prg.e,h];refine qat p.tables[k].keys.length (fun _=>[]) 0 (fun i e=>look 2 e=some (.iptr 9 [Prg.c p] 0 0)/\look 1 e=some (.int .i64 k)/\look 6 e=some (.int .i64 i)/\∃a:Int,look 5 e=some (.int .i64 a)/\kMax (p.tables[k].keys.drop i) a=kMax p.tables[k].keys 1)
  (fun _=>some (Rt.val (.int .i64 (kMax p.tables[k].keys 1)))) ?_ ?_ 0 _ 0 (Qc _) (Qb _) ?_
 ·rintro i e n L hi hL _ ⟨h2,h1,h6,a,h5,hm⟩ ih;have hw:=qag i (by omega);rw [Qi hi] at hm;simp only [kMax] at hm;rw [Prg.e] at h2;simp [c_251_l0,TableKey.e,Tbl.e,h1,h2,h5,h6,hk,hi,hw];exact ih _ _ (Qc _) ⟨by simp [h2,Prg.e],by simp [h1],by simp,max a p.tables[k].keys[i].kind,by simp;split<;>omega,hm⟩
 ·rintro e n L hL _ ⟨h2,h1,h6,a,h5,hm⟩;rw [List.drop_length] at hm;simp only [kMax] at hm;rw [Prg.e] at h2;rw [<- hm];simp [c_251_l0,c_251_k1,Tbl.e,h1,h2,h5,h6,hk,hL]
 ·simp [Prg.e]
theorem qys (p:Prg) (f:PrgS p) (k:Nat) (hk:k<p.tables.length) (q:tOk p k=true):qab Φ f_176 [.agg (Prg.c p),.int .i64 k]=some (.val (.slice 1 ((kWid p p.tables[k]).map cI))):=by
 rw [qaa (fn:=c_176) rfl rfl];have h:=qm7 p f k;rw [q] at h;simp only [Prg.e] at h;obtain ⟨k',hk',e,o⟩:=qhx q;obtain rfl:k=k':=by omega
 have hb:=o.keys;have e0:(kWid p p.tables[k]).map cI=p.tables[k].keys.map fun y=>[AV.int .i64 (wid p y.field.header y.field.field)]:=by simp [kWid,cI]
 rw [e0];simp [c_176,Prg.e,h,hk,Tbl.e];refine (qat p.tables[k].keys.length (fun i=>[(0,.tok 1 i)]) 1 (fun i e=>look 2 e=some (.iptr 9 [Prg.c p] 0 0)/\look 5 e=some (.app 1 ((p.tables[k].keys.map fun y=>[AV.int .i64 (wid p y.field.header y.field.field)]).take i) 0)/\look 17 e=some (.slice 3 (p.tables[k].keys.map TableKey.c))/\look 18 e=some (.int .i64 p.tables[k].keys.length)/\look 19 e=some (.int .i64 i))
  (fun _=>some (Rt.val (.slice 1 (p.tables[k].keys.map fun y=>[AV.int .i64 (wid p y.field.header y.field.field)])))) ?_ ?_ 0 _ 1 (Qc _) (Qb _) ?_).trans (by simp)
 ·rintro i e n L hi hL hn ⟨h2,h5,h17,h18,h19⟩ ih;have hw:=qag i (by omega);have hv:=qp6 p p.tables[k].keys[i].field.header p.tables[k].keys[i].field.field;simp only [Prg.e] at hv;rw [Prg.e] at h2;have hn0:¬(0=n):=by omega
  have hn1:¬(n=0):=by omega
  have hm:min i p.tables[k].keys.length=i:=by omega
  have hb:(i+1)*8<=70368744177664:=by omega
  simp [c_176_l0,TableKey.e,h2,h5,h17,h18,h19,hi,hw,hn0,hm,hb,hv];exact ih _ _ (by omega) ⟨by simp [h2,Prg.e],by simp [qa2 hi],by simp [h17],by simp [h18],by simp⟩
 ·rintro e n L hL hn ⟨h2,h5,h17,h18,h19⟩;simp [c_176_l0,c_176_k1,h5,h18,h19,hL]
 ·simp [Prg.e]
theorem qyi (p:Prg) (f:PrgS p) (hv:∀t∈p.tables,∀v∈t.dflt.args,ok32 0 v) (k:Nat) (hk:k<p.tables.length) (q:tOk p k=true):qab Φ f_249 [.agg (Prg.c p),.int .i64 k]=some (.val (.slice 1 ((kWid p p.tables[k]).map cI))):=by
 rw [qaa (fn:=c_249) rfl rfl];have h:=qlf p f hv k;rw [q] at h;simp only [Prg.e] at h;obtain ⟨k',hk',e,o⟩:=qhx q;obtain rfl:k=k':=by omega
 have hb:=o.keys;have e0:(kWid p p.tables[k]).map cI=p.tables[k].keys.map fun y=>[AV.int .i64 (wid p y.field.header y.field.field)]:=by simp [kWid,cI]
 rw [e0];simp [c_249,Prg.e,h];refine (qat p.tables[k].keys.length (fun i=>[(0,.tok 1 i)]) 1 (fun i e=>look 2 e=some (.iptr 9 [Prg.c p] 0 0)/\look 1 e=some (.int .i64 k)/\look 5 e=some (.app 1 ((p.tables[k].keys.map fun y=>[AV.int .i64 (wid p y.field.header y.field.field)]).take i) 0)/\look 6 e=some (.int .i64 i))
  (fun _=>some (Rt.val (.slice 1 (p.tables[k].keys.map fun y=>[AV.int .i64 (wid p y.field.header y.field.field)])))) ?_ ?_ 0 _ 1 (Qc _) (Qb _) ?_).trans (by simp)
 ·rintro i e n L hi hL hn ⟨h2,h1,h5,h6⟩ ih;have hw:=qag i (by omega);have hv:=qr7 p p.tables[k].keys[i].field.header p.tables[k].keys[i].field.field;simp only [Prg.e] at hv;rw [Prg.e] at h2;have hn0:¬(0=n):=by omega
  have hn1:¬(n=0):=by omega
  have hm:min i p.tables[k].keys.length=i:=by omega
  have hb:(i+1)*8<=70368744177664:=by omega
  simp [c_249_l0,TableKey.e,Tbl.e,h1,h2,h5,h6,hk,hi,hw,hm,hb,hv];exact ih _ _ (by omega) ⟨by simp [h2,Prg.e],by simp [h1],by simp [qa2 hi],by simp⟩
 ·rintro e n L hL hn ⟨h2,h1,h5,h6⟩;rw [Prg.e] at h2;simp [c_249_l0,c_249_k1,Tbl.e,h1,h2,h5,h6,hk,hL]
 ·simp [Prg.e]
def tAl (p:Prg) (t a:Int):Bool:=tOk p t&&(match at? p.tables t with
 | some x=>x.actions.any fun s=>decide (s=a)
 | none=>false)
theorem qp2 (p:Prg) (f:PrgS p) (t a:Int):qab Φ f_179 [.agg (Prg.c p),.int .i64 t,.int .i64 a]=some (.val (.bool (tAl p t a))):=by
 rw [qaa (fn:=c_179) rfl rfl];have h:=qm7 p f t;simp only [Prg.e] at h;cases q:tOk p t with
 | false=>
  rw [q] at h;simp [c_179,Prg.e,h,tAl,q]
 | true=>
 rw [q] at h;obtain ⟨k,hk,rfl,o⟩:=qhx q;have hK:tAl p (k:Int) a=p.tables[k].actions.any fun s=>decide (s=a):=by simp [tAl,q,hk]
 rw [hK];have hb:=o.acts;simp [c_179,Prg.e,h,hk,Tbl.e];refine (qat p.tables[k].actions.length (fun _=>[]) 0 (fun i e=>look 2 e=some (.int .i64 a)/\look 18 e=some (.slice 1 (p.tables[k].actions.map cI))/\look 19 e=some (.int .i64 p.tables[k].actions.length)/\look 20 e=some (.int .i64 i))
  (fun i=>some (Rt.val (.bool ((p.tables[k].actions.drop i).any fun s=>decide (s=a))))) ?_ ?_ 0 _ 0 (Qc _) (Qb _) ?_).trans (by simp)
 ·rintro i e n L hi hL _ ⟨h2,h18,h19,h20⟩ ih;have hw:=qag i (by omega);rw [Qi hi,List.any_cons];by_cases z:p.tables[k].actions[i]=a
  ·generalize hX:some (Rt.val (AV.bool (decide (p.tables[k].actions[i]=a) || (p.tables[k].actions.drop (i+1)).any fun s=>decide (s=a))))=X;simp [c_179_l0,cI,h2,h18,h19,h20,hi,z];rw [<- hX];simp [z]
  ·rw [show (decide (p.tables[k].actions[i]=a) || (p.tables[k].actions.drop (i+1)).any fun s=>decide (s=a))=(p.tables[k].actions.drop (i+1)).any fun s=>decide (s=a) by simp [z]];generalize hX:some (Rt.val (AV.bool ((p.tables[k].actions.drop (i+1)).any fun s=>decide (s=a))))=X;simp [c_179_l0,cI,h2,h18,h19,h20,hi,z,hw];rw [<- hX];exact ih _ _ (Qc _) ⟨by simp [h2],by simp [h18],by simp [h19],by simp⟩
 ·rintro e n L hL _ ⟨h2,h18,h19,h20⟩;simp [c_179_l0,c_179_k1,h19,h20,hL]
 ·simp
theorem qpq (p:Prg) (f:PrgS p) (hv:∀t∈p.tables,∀v∈t.dflt.args,ok32 0 v) (t a:Int):qab Φ f_155 [.agg (Prg.c p),.int .i64 t,.int .i64 a]=some (.val (.bool (tAl p t a))):=by
 rw [qaa (fn:=c_155) rfl rfl];have h:=qlf p f hv t;simp only [Prg.e] at h;cases q:tOk p t with
 | false=>
  rw [q] at h;simp [c_155,Prg.e,h,tAl,q]
 | true=>
 rw [q] at h;obtain ⟨k,hk,rfl,o⟩:=qhx q;have hK:tAl p (k:Int) a=p.tables[k].actions.any fun s=>decide (s=a):=by simp [tAl,q,hk]
 have hb:=o.acts;have hx:=qm1 p.tables[k].actions a (by omega);rw [hK,<- qiq];simp [c_155,Prg.e,Tbl.e,h,hk,hx]
def pmI (n k:Nat):Int:=2^k - 2^(k - n)
theorem qaic:∀k:Nat,k<33->∀n:Nat,n<33->n<=k->qg3 .u32 (2^k - 1) (ishr .u32 (2^k - 1) (n:Int))=pmI n k:=by decide+kernel
theorem qaci (n k:Nat) (h:n<=k) (h1:1<=k) (h2:k<=32):qab Φ f_319 [.int .i64 n,.int .i64 k]=some (.val (.int .u32 (pmI n k))):=by
 rw [qaa (fn:=c_319) rfl rfl];have hv:=qjb k;have hm:=qga k;have hw:wBad (k:Int)=false:=wBad_false.2 ⟨by omega,by omega⟩;have hM:qbe (k:Int)=2^k - 1:=by simp [qbe,hw]
 rw [hw] at hv;rw [hM] at hm;have hp:=qaic k (by omega) n (by omega) h;have n1:¬((n:Int)<0):=by omega
 have n2:¬((k:Int)<n):=by omega
 simp [c_319,hv,hm,n1,n2];exact hp
theorem qaim:∀k:Nat,k<33->∀n:Nat,n<33->n<=k->IntKind.wrap .u32 (IntKind.wrap .u64 (2^k - 2^(k - n)))=pmI n k:=by decide+kernel
theorem qaaq (n k:Nat) (h:n<=k) (h1:1<=k) (h2:k<=32):qab Φ f_338 [.int .i64 n,.int .i64 k]=some (.val (.int .u32 (pmI n k))):=by
 rw [qaa (fn:=c_338) rfl rfl];have hv:=qi9 k;have hw:wBad (k:Int)=false:=wBad_false.2 ⟨by omega,by omega⟩;rw [hw] at hv;have p1:=qk7 k (by omega);have p2:=qk7 (k - n) (by omega);have hs:IntKind.wrap .i64 ((k:Int) - n)=((k - n:Nat):Int):=by
  rw [show (k:Int) - n=((k - n:Nat):Int) by omega];exact qa6 (by omega) (by omega)
 have n1:¬((n:Int)<0):=by omega
 have n2:¬((k:Int)<n):=by omega
 simp [c_338,hv,p1,p2,n1,n2,hs];exact qaim k (by omega) n (by omega) h
def plG (m:Int) (k:Nat) (n:Nat):Option Int:=if pmI n k=m then some (n:Int) else none
def plE (m w:Int):Option Int:=if wBad w then none else fe (plG m w.toNat) (w.toNat+1) 0
def plV (o:Option Int):Rt:= .val (.tup [.int .i64 (o.getD 0),.bool o.isSome])
theorem qafu (m w:Int):qab Φ f_263 [.int .u32 m,.int .i64 w]=some (plV (plE m w)):=by
 rw [qaa (fn:=c_263) rfl rfl];have hv:=qjb w;cases q:wBad w with
 | true=>
  rw [q] at hv;simp [c_263,hv,plE,q,plV]
 | false=>
 rw [q] at hv;obtain ⟨w1,w2⟩:=wBad_false.1 q;obtain ⟨k,rfl⟩:∃k:Nat,w=k:=⟨w.toNat,by omega⟩;have hw1:=qag k (by omega);have hE:plE m (k:Int)=fe (plG m k) (k+1) 0:=by simp [plE,q]
 rw [hE];simp [c_263,hv,hw1];refine qat (k+1) (fun _=>[]) 0 (fun i e=>look 0 e=some (.int .u32 m)/\look 1 e=some (.int .i64 k)/\look 12 e=some (.int .i64 ((k:Int)+1))/\look 13 e=some (.int .i64 i))
  (fun i=>some (plV (fe (plG m k) (k+1) i))) ?_ ?_ 0 _ 0 (Qc _) (Qb _) ?_
 ·rintro i e n L hi hL _ ⟨h0,h1,h12,h13⟩ ih;have hw:=qag i (by omega);have hp:=qaci i k (by omega) (by omega) (by omega);have hlt:(i:Int)<(k:Int)+1:=by omega
  by_cases z:pmI i k=m
  ·rw [qaj (x:=(i:Int)) hi (by simp [plG,z])];subst z;simp [c_263_l0,h0,h1,h12,h13,hp,hlt,plV]
  ·rw [qaq hi (by simp [plG,z])];generalize hX:some (plV (fe (plG m k) (k+1) (i+1)))=X;simp [c_263_l0,h0,h1,h12,h13,hp,hlt,z,hw];rw [<- hX];exact ih _ _ (Qc _) ⟨by simp [h0],by simp [h1],by simp [h12],by simp⟩
 ·rintro e n L hL _ ⟨h0,h1,h12,h13⟩;rw [qa1];simp [c_263_l0,c_263_k1,h12,h13,hL,plV]
 ·simp
theorem qac3 (m w:Int):qab Φ f_307 [.int .u32 m,.int .i64 w]=some (plV (plE m w)):=by
 rw [qaa (fn:=c_307) rfl rfl];have hv:=qi9 w;cases q:wBad w with
 | true=>
  rw [q] at hv;simp [c_307];rw [qaz];by_cases z:0<=w
  ·simp [c_307_l0,c_307_k1,hv,z,plE,q,plV]
  ·simp [c_307_l0,c_307_k1,z,plE,q,plV]
 | false=>
 rw [q] at hv;obtain ⟨w1,w2⟩:=wBad_false.1 q;obtain ⟨k,rfl⟩:∃k:Nat,w=k:=⟨w.toNat,by omega⟩;have hE:plE m (k:Int)=fe (plG m k) (k+1) 0:=by simp [plE,q]
 rw [hE];simp [c_307];refine qat (k+1) (fun _=>[]) 0 (fun i e=>look 0 e=some (.int .u32 m)/\look 1 e=some (.int .i64 k)/\look 6 e=some (.int .i64 i))
  (fun i=>some (plV (fe (plG m k) (k+1) i))) ?_ ?_ 0 _ 0 (Qc _) (Qb _) ?_
 ·rintro i e n L hi hL _ ⟨h0,h1,h6⟩ ih;have hw:=qag i (by omega);have hp:=qaaq i k (by omega) (by omega) (by omega);have hle:i<=k:=by omega
  by_cases z:pmI i k=m
  ·rw [qaj (x:=(i:Int)) hi (by simp [plG,z])];subst z;simp [c_307_l0,h0,h1,h6,hv,hp,hle,plV]
  ·rw [qaq hi (by simp [plG,z])];generalize hX:some (plV (fe (plG m k) (k+1) (i+1)))=X;simp [c_307_l0,h0,h1,h6,hv,hp,hle,z,hw];rw [<- hX];exact ih _ _ (Qc _) ⟨by simp [h0],by simp [h1],by simp⟩
 ·rintro e n L hL _ ⟨h0,h1,h6⟩;rw [qa1];have hgt:¬((k:Int)+1<=(k:Int)):=by omega
  simp [c_307_l0,c_307_k1,h1,h6,hL,hgt,plV]
 ·simp
theorem KeyMatch.ce (m:KeyMatch):KeyMatch.c m=[.int .u32 m.value,.int .u32 m.mask]:=by simp [KeyMatch.c]
def keyK (m:KeyMatch) (kind w:Int):Int:=
 if fits m.value w=false\/fits m.mask w=false then 9
 else if m.value.toNat&&& m.mask.toNat≠m.value.toNat then 5
 else if kind=1/\m.mask≠qbe w then 11
 else if kind=2/\(plE m.mask w).isSome=false then 11 else 0
theorem qaer (m:KeyMatch) (kind w:Int) (h1:ok32 0 m.value) (h2:ok32 0 m.mask):qab Φ f_177 [.agg (KeyMatch.c m),.int .i64 kind,.int .i64 w]=some (.val (.int .i64 (keyK m kind w))):=by
 rw [qaa (fn:=c_177) rfl rfl];have f1:=qjx m.value w;have f2:=qjx m.mask w;have hm:=qga w;have hp:=qafu m.mask w;have ha:=ql7 h1 h2;unfold keyK;cases q1:fits m.value w with
 | false=>rw [q1] at f1;simp [c_177,KeyMatch.ce,f1]
 | true=>
 rw [q1] at f1;cases q2:fits m.mask w with
 | false=>rw [q2] at f2;simp [c_177,KeyMatch.ce,f1,f2]
 | true=>
 rw [q2] at f2;by_cases z:qg3 .u32 m.value m.mask=0
 rotate_left
 ·have z':¬(m.value.toNat&&& m.mask.toNat=m.value.toNat):=fun h=>z (ha.2 h)
  simp [c_177,KeyMatch.ce,f1,f2,z,z']
 have z':=ha.1 z;by_cases k1:kind=1
 ·subst k1;by_cases y:m.mask=qbe w
  ·rw [y] at f2 z z';simp [c_177,KeyMatch.ce,f1,f2,z,z',hm,y]
  ·simp [c_177,KeyMatch.ce,f1,f2,z,z',hm,y]
 by_cases k2:kind=2
 ·subst k2;cases y:plE m.mask w with
  | none=>rw [y] at hp;simp [plV] at hp;simp [c_177,KeyMatch.ce,f1,f2,z,z',hp]
  | some x=>rw [y] at hp;simp [plV] at hp;simp [c_177,KeyMatch.ce,f1,f2,z,z',hp]
 simp [c_177,KeyMatch.ce,f1,f2,z,z',k1,k2]
theorem qaf4 (m:KeyMatch) (kind w:Int) (h1:ok32 0 m.value) (h2:ok32 0 m.mask):qab Φ f_250 [.agg (KeyMatch.c m),.int .i64 w,.int .i64 kind]=some (.val (.int .i64 (keyK m kind w))):=by
 rw [qaa (fn:=c_250) rfl rfl];have f1:=qom m.value w h1;have f2:=qom m.mask w h2;have hm:=quz w;have hp:=qac3 m.mask w;have ha:=qrs h1 h2;simp [plV] at hp;unfold keyK;cases q1:fits m.value w with
 | false=>rw [q1] at f1;simp [c_250,KeyMatch.ce,hp,f1]
 | true=>
 rw [q1] at f1;cases q2:fits m.mask w with
 | false=>rw [q2] at f2;simp [c_250,KeyMatch.ce,hp,f1,f2]
 | true=>
 rw [q2] at f2;by_cases z:iand .u32 m.value m.mask=m.value
 rotate_left
 ·have z':¬(m.value.toNat&&& m.mask.toNat=m.value.toNat):=fun h=>z (ha.2 h)
  simp [c_250,KeyMatch.ce,hp,f1,f2,z,z']
 have z':=ha.1 z;by_cases k1:kind=1
 ·subst k1;by_cases y:m.mask=qbe w
  ·rw [y] at hp f2 z z';simp [c_250,KeyMatch.ce,hp,f1,f2,z,z',hm,y]
  ·simp [c_250,KeyMatch.ce,hp,f1,f2,z,z',hm,y]
 by_cases k2:kind=2
 ·subst k2;cases y:plE m.mask w with
  | none=>rw [y] at hp;simp [c_250,KeyMatch.ce,f1,f2,z,z',hp]
  | some x=>rw [y] at hp;simp [c_250,KeyMatch.ce,f1,f2,z,z',hp]
 simp [c_250,KeyMatch.ce,hp,f1,f2,z,z',k1,k2]
structure EntS (x:Entry):Prop where
 kl:x.keys.length<2^40
 ks:∀m∈x.keys,ok32 0 m.value/\ok32 0 m.mask
 al:x.call.args.length<2^40
 ar:∀v∈x.call.args,ok32 0 v
def entF (p:Prg) (t:Int) (x:Entry):Int:=if x.priority<0 then 9 else if 255<x.priority then 9 else if x.priority≠0/\qgt p t≠3 then 11 else if tAl p t x.call.action=false then 8 else qdu p x.call
def entG (p:Prg) (tb:Tbl) (x:Entry) (i:Nat):Option Int:=match x.keys[i]?,tb.keys[i]? with
 | some m,some k=>if keyK m k.kind (wid p k.field.header k.field.field)=0 then none else some (keyK m k.kind (wid p k.field.header k.field.field))
 | _,_=>none
def entE (p:Prg) (t:Int) (x:Entry):Int:=if (tblE p t).2≠0 then (tblE p t).2 else match at? p.tables t with
 | some tb=>if x.keys.length≠tb.keys.length then 2 else (fe (entG p tb x) tb.keys.length 0).getD (entF p t x)
 | none=>0
theorem qaet (p:Prg) (f:PrgS p) (t:Int) (x:Entry) (s:EntS x) (e:Env) (n:Nat) (h1:look 1 e=some (.int .i64 t)) (h3:look 3 e=some (.iptr 9 [Prg.c p] 0 0)) (h5:look 5 e=some (.iptr 4 [Entry.c x] 0 0)):
  go Φ (finP [.tmp 6]) [.c c_86_k1] .normal ⟨e,⟨[],n⟩⟩=some (.val (.int .i64 (entF p t x))):=by
 have hk:=qads p f t;have ha:=qp2 p f t x.call.action;have hc:=qob p f x.call s.al;simp only [Prg.e,ActionCall.ce] at hk ha hc;rw [Prg.e] at h3;rw [Entry.ce] at h5;unfold entF;by_cases p0:x.priority<0
 ·simp [c_86_k1,h5,p0]
 by_cases p1:255<x.priority
 ·simp [c_86_k1,h5,p0,p1]
 by_cases p2:x.priority=0
 ·cases q:tAl p t x.call.action with
  | false=>rw [q] at ha;simp [c_86_k1,h1,h3,h5,p2,ha]
  | true=>rw [q] at ha;simp [c_86_k1,h1,h3,h5,p2,ha,hc]
 by_cases p3:qgt p t=3
 ·cases q:tAl p t x.call.action with
  | false=>rw [q] at ha;simp [c_86_k1,h1,h3,h5,p0,p1,p2,p3,hk,ha]
  | true=>rw [q] at ha;simp [c_86_k1,h1,h3,h5,p0,p1,p2,p3,hk,ha,hc]
 ·simp [c_86_k1,h1,h3,h5,p0,p1,p2,p3,hk]
theorem qwm (p:Prg) (f:PrgS p) (t:Int) (x:Entry) (s:EntS x):qab Φ f_86 [.agg (Prg.c p),.int .i64 t,.agg (Entry.c x)]=some (.val (.int .i64 (entE p t x))):=by
 rw [qaa (fn:=c_86) rfl rfl];have h:=qq8 p f t;simp only [Prg.e] at h;by_cases z:(tblE p t).2=0
 rotate_left
 ·simp [c_86,Prg.e,Entry.ce,h,z,entE]
 have q:tOk p t=true:=by simp [tOk,z]
 obtain ⟨k,hk,rfl,o⟩:=qhx q;have hw:=qys p f k hk q;simp only [Prg.e] at hw;have hb:=o.keys;by_cases y:x.keys.length=p.tables[k].keys.length
 rotate_left
 ·simp [c_86,Prg.e,Entry.ce,Tbl.e,hk,h,z,hw,y,entE]
 have hE:entE p (k:Int) x=(fe (entG p p.tables[k] x) p.tables[k].keys.length 0).getD (entF p k x):=by simp [entE,z,hk,y]
 rw [hE];simp [c_86,Prg.e,Entry.ce,Tbl.e,hk,h,z,hw,y];refine qat p.tables[k].keys.length (fun _=>[]) 0 (fun i e=>look 1 e=some (.int .i64 k)/\look 3 e=some (.iptr 9 [Prg.c p] 0 0)/\look 5 e=some (.iptr 4 [Entry.c x] 0 0)/\look 9 e=some (.slice 3 (p.tables[k].keys.map TableKey.c))/\look 10 e=some (.slice 1 ((kWid p p.tables[k]).map cI))/\look 39 e=some (.slice 2 (x.keys.map KeyMatch.c))/\look 40 e=some (.int .i64 p.tables[k].keys.length)/\look 41 e=some (.int .i64 i))
  (fun i=>some (Rt.val (.int .i64 ((fe (entG p p.tables[k] x) p.tables[k].keys.length i).getD (entF p k x))))) ?_ ?_ 0 _ 0 (Qc _) (Qb _) ?_
 ·rintro i e n L hi hL _ ⟨h1,h3,h5,h9,h10,h39,h40,h41⟩ ih;have hi2:i<x.keys.length:=by omega
  have hi3:i<(kWid p p.tables[k]).length:=by simp [kWid];exact hi
  have hkw:(kWid p p.tables[k])[i]=wid p p.tables[k].keys[i].field.header p.tables[k].keys[i].field.field:=by simp [kWid]
  have hw:=qag i (by omega);have hm:=s.ks _ (Qd hi2);have hc:=qaer x.keys[i] p.tables[k].keys[i].kind (wid p p.tables[k].keys[i].field.header p.tables[k].keys[i].field.field) hm.1 hm.2;simp only [KeyMatch.ce] at hc;by_cases v:keyK x.keys[i] p.tables[k].keys[i].kind (wid p p.tables[k].keys[i].field.header p.tables[k].keys[i].field.field)=0
  ·rw [qaq hi (by simp [entG,hi,hi2,v])];rw [v] at hc;generalize hX:some (Rt.val (AV.int .i64 ((fe (entG p p.tables[k] x) p.tables[k].keys.length (i+1)).getD (entF p k x))))=X;simp [c_86_l0,TableKey.e,KeyMatch.ce,cI,h9,h10,h39,h40,h41,hi,hi2,hi3,hkw,hc,hw];rw [<- hX];exact ih _ _ (Qc _) ⟨by simp [h1],by simp [h3],by simp [h5],by simp [h9],by simp [h10],by simp [h39],by simp [h40],by simp⟩
  ·rw [qaj (x:=keyK x.keys[i] p.tables[k].keys[i].kind (wid p p.tables[k].keys[i].field.header p.tables[k].keys[i].field.field)) hi (by simp [entG,hi,hi2,v])];simp [c_86_l0,TableKey.e,KeyMatch.ce,cI,h9,h10,h39,h40,h41,hi,hi2,hi3,hkw,hc,v]
 ·rintro e n L hL _ ⟨h1,h3,h5,h9,h10,h39,h40,h41⟩;rw [qa1];simp [c_86_l0,h40,h41,hL];exact qaet p f k x s _ _ (by simp [h1]) (by simp [h3]) (by simp [h5])
 ·simp [Prg.e,Entry.ce]
theorem qact (p:Prg) (f:PrgS p) (hv:∀t∈p.tables,∀v∈t.dflt.args,ok32 0 v) (t:Int) (x:Entry) (s:EntS x) (e:Env) (n:Nat) (h1:look 1 e=some (.int .i64 t)) (h3:look 3 e=some (.iptr 9 [Prg.c p] 0 0)) (h5:look 5 e=some (.iptr 4 [Entry.c x] 0 0)):
  go Φ (finP [.tmp 6]) [.c c_153_k1] .normal ⟨e,⟨[],n⟩⟩=some (.val (.int .i64 (entF p t x))):=by
 have hk:=qacx p f hv t;have ha:=qpq p f hv t x.call.action;have hc:=qmg p f x.call s.al s.ar;simp only [Prg.e,ActionCall.ce] at hk ha hc;rw [Prg.e] at h3;rw [Entry.ce] at h5;unfold entF;by_cases p0:x.priority<0
 ·simp [c_153_k1,h5,p0]
 by_cases p1:255<x.priority
 ·simp [c_153_k1,h5,p0,p1]
 by_cases p2:x.priority=0
 ·cases q:tAl p t x.call.action with
  | false=>rw [q] at ha;simp [c_153_k1,h1,h3,h5,p2,ha]
  | true=>rw [q] at ha;simp [c_153_k1,h1,h3,h5,p2,ha,hc]
 have p4:0<x.priority:=by omega
 by_cases p3:qgt p t=3
 ·cases q:tAl p t x.call.action with
  | false=>rw [q] at ha;simp [c_153_k1,h1,h3,h5,p0,p1,p2,p3,p4,hk,ha]
  | true=>rw [q] at ha;simp [c_153_k1,h1,h3,h5,p0,p1,p2,p3,p4,hk,ha,hc]
 ·simp [c_153_k1,h1,h3,h5,p0,p1,p2,p3,p4,hk]
theorem quv (p:Prg) (f:PrgS p) (hv:∀t∈p.tables,∀v∈t.dflt.args,ok32 0 v) (t:Int) (x:Entry) (s:EntS x):qab Φ f_153 [.agg (Prg.c p),.int .i64 t,.agg (Entry.c x)]=some (.val (.int .i64 (entE p t x))):=by
 rw [qaa (fn:=c_153) rfl rfl];have h:=qop p f hv t;simp only [Prg.e] at h;by_cases z:(tblE p t).2=0
 rotate_left
 ·simp [c_153,Prg.e,Entry.ce,h,z,entE]
 have q:tOk p t=true:=by simp [tOk,z]
 obtain ⟨k,hk,rfl,o⟩:=qhx q;have hw:=qyi p f hv k hk q;simp only [Prg.e] at hw;have hb:=o.keys;have hkl:(kWid p p.tables[k]).length=p.tables[k].keys.length:=by simp [kWid]
 by_cases y:x.keys.length=p.tables[k].keys.length
 rotate_left
 ·simp [c_153,Prg.e,Entry.ce,hk,h,z,hw,y,hkl,entE]
 have hE:entE p (k:Int) x=(fe (entG p p.tables[k] x) p.tables[k].keys.length 0).getD (entF p k x):=by simp [entE,z,hk,y]
 rw [hE];simp [c_153,Prg.e,Entry.ce,h,z,hw,y,hkl];refine qat p.tables[k].keys.length (fun _=>[]) 0 (fun i e=>look 1 e=some (.int .i64 k)/\look 3 e=some (.iptr 9 [Prg.c p] 0 0)/\look 5 e=some (.iptr 4 [Entry.c x] 0 0)/\look 9 e=some (.slice 1 ((kWid p p.tables[k]).map cI))/\look 10 e=some (.int .i64 i))
  (fun i=>some (Rt.val (.int .i64 ((fe (entG p p.tables[k] x) p.tables[k].keys.length i).getD (entF p k x))))) ?_ ?_ 0 _ 0 (Qc _) (Qb _) ?_
 ·rintro i e n L hi hL _ ⟨h1,h3,h5,h9,h10⟩ ih;have hi2:i<x.keys.length:=by omega
  have hi3:i<(kWid p p.tables[k]).length:=by omega
  have hkw:(kWid p p.tables[k])[i]=wid p p.tables[k].keys[i].field.header p.tables[k].keys[i].field.field:=by simp [kWid]
  have hw:=qag i (by omega);have hm:=s.ks _ (Qd hi2);have hc:=qaf4 x.keys[i] p.tables[k].keys[i].kind (wid p p.tables[k].keys[i].field.header p.tables[k].keys[i].field.field) hm.1 hm.2;simp only [KeyMatch.ce] at hc;rw [Prg.e] at h3;rw [Entry.ce] at h5;by_cases v:keyK x.keys[i] p.tables[k].keys[i].kind (wid p p.tables[k].keys[i].field.header p.tables[k].keys[i].field.field)=0
  ·rw [qaq hi (by simp [entG,hi,hi2,v])];rw [v] at hc;generalize hX:some (Rt.val (AV.int .i64 ((fe (entG p p.tables[k] x) p.tables[k].keys.length (i+1)).getD (entF p k x))))=X;simp [c_153_l0,TableKey.e,Tbl.e,KeyMatch.ce,cI,h1,h3,h5,h9,h10,hk,hkl,hi,hi2,hkw,hc,hw];rw [<- hX];exact ih _ _ (Qc _) ⟨by simp [h1],by simp [h3,Prg.e],by simp [h5,Entry.ce],by simp [h9],by simp⟩
  ·rw [qaj (x:=keyK x.keys[i] p.tables[k].keys[i].kind (wid p p.tables[k].keys[i].field.header p.tables[k].keys[i].field.field)) hi (by simp [entG,hi,hi2,v])];simp [c_153_l0,TableKey.e,Tbl.e,KeyMatch.ce,cI,h1,h3,h5,h9,h10,hk,hkl,hi,hi2,hkw,hc,v]
 ·rintro e n L hL _ ⟨h1,h3,h5,h9,h10⟩;rw [qa1];simp [c_153_l0,h9,h10,hkl,hL];exact qact p f hv k x s _ _ (by simp [h1]) (by simp [h3]) (by simp [h5])
 ·simp [Prg.e,Entry.ce]
end Go.Av
