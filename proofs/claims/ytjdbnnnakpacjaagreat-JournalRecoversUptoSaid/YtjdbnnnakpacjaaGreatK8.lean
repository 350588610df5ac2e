/-
 The check of an expression: the program's answer.
-/
import Derived.Test.YtjdbnnnakpacjaaGreatK1
set_option linter.unusedVariables false
set_option linter.unusedSimpArgs false
set_option linter.constructorNameAsVariable false
namespace Go.Av
set_option maxRecDepth 4000
def chkR (r:Except Int (Int×Nat)) (x:Option Rt):Prop:=match r with
 | .error e=>e≠0/\∃a b,x=some (.val (.tup [.int .i64 a,.int .i64 b,.int .i64 e]))
 | .ok (w,j)=>x=some (.val (.tup [.int .i64 w,.int .i64 j,.int .i64 0]))
theorem qlm {w:Int} (h:(wide w).2=0):1<=(wide w).1/\(wide w).1<=32:=by
 unfold wide at h ⊢;cases q:wBad w with
 | true=>rw [q] at h;simp at h
 | false=>simp;exact wBad_false.1 q
theorem qyy {p:Prg} {ps:List Fld} {x:Xe} (h:(prim p ps x).2=0):1<=(prim p ps x).1/\(prim p ps x).1<=32:=by
 unfold prim at h ⊢;by_cases o1:x.op=1
 ·simp only [o1,if_true] at h ⊢;cases q:wBad x.w with
  | true=>rw [q] at h;simp at h
  | false=>
   rw [q] at h;by_cases r:x.n<0\/2^x.w.toNat - 1<x.n
   ·simp [r] at h
   ·simp [r];exact wBad_false.1 q
 by_cases o2:x.op=2
 ·simp only [o2,if_true] at h ⊢;cases q:decl p x.n x.w with
  | none=>rw [q] at h;simp at h
  | some w=>rw [q] at h;exact qlm h
 by_cases o3:x.op=3
 ·simp only [o3,if_true] at h ⊢;cases q:at? ps x.n with
  | none=>rw [q] at h;simp at h
  | some f=>rw [q] at h;exact qlm h
 simp only [o1,o2,o3,if_false] at h ⊢;cases q:(at? p.Xp x.n).isSome with
 | true=>simp
 | false=>rw [q] at h;simp at h
theorem qks {x:Xe} {a b c:Int} (ha:1<=a/\a<=32) (hb:ari x.op=3\/x.op=14->1<=b/\b<=32) (h:(comb x a b c).2=0):1<=(comb x a b c).1/\(comb x a b c).1<=32:=by
 unfold comb at h ⊢;by_cases o6:x.op=6\/x.op=7
 ·simp only [QAa o6] at h ⊢;by_cases r:x.n<0\/31<x.n
  ·simp [r] at h
  ·simpa [r] using ha
 simp only [QA o6] at h ⊢;by_cases o8:x.op=8
 ·simp only [QAa o8] at h ⊢;by_cases r:x.n<0
  ·simp [r] at h
  simp only [QA r] at h ⊢;by_cases r2:wBad x.w\/a - x.w<x.n
  ·simp [r2] at h
  ·simp only [QA r2];have:wBad x.w=false:=by
    cases q:wBad x.w with
    | true=>exact absurd (.inl q) r2
    | false=>rfl
   exact wBad_false.1 this
 simp only [QA o8] at h ⊢;by_cases o14:x.op=14
 ·simp only [QAa o14] at h ⊢;exact qlm h
 simp only [QA o14] at h ⊢;by_cases o17:x.op=17
 ·simp only [QAa o17] at h ⊢;by_cases r:a≠1\/b≠c
  ·simp [r] at h
  ·simp only [QA r];exact hb (.inl (by simp [o17,ari]))
 simp only [QA o17] at h ⊢;by_cases r:ari x.op=2/\a≠b
 ·rw [QAa r] at h;simp at h
 simp only [QA r] at h ⊢;by_cases r2:x.op=15\/x.op=16
 ·simp [r2]
 ·simpa [r2] using ha
theorem qer {p:Prg} {ps:List Fld} {l:List Xe}:∀{n i w j},chk p ps l n i= .ok (w,j)->(1<=w/\w<=32)/\i<j/\j<=l.length
 | 0,i,w,j,h=>by simp [chk] at h
 | n+1,i,w,j,h=>by
  simp only [chk] at h;cases hx:l[i]? with
  | none=>rw [hx] at h;simp at h
  | some x=>
   have hi:i<l.length:=by
    obtain ⟨hi,_⟩:=Qm.1 hx;exact hi
   rw [hx] at h;simp only at h;split at h
   ·cases h
   split at h
   ·split at h
    ·rename_i hp;cases h;exact ⟨qyy hp,by omega,by omega⟩
    ·cases h
   split at h
   ·cases h
   ·rename_i a i1 h1;obtain ⟨ra,r1,r2⟩:=qer h1;split at h
    ·rename_i hk;split at h
     ·rename_i hc;cases h;refine ⟨qks ra ?_ hc,by omega,r2⟩;intro hh;rcases hh with hh | hh
      ·omega
      ·rw [hh] at hk;simp [ari] at hk
     ·cases h
    split at h
    ·cases h
    ·rename_i b i2 h2;obtain ⟨rb,s1,s2⟩:=qer h2;split at h
     ·split at h
      ·rename_i hc;cases h;exact ⟨qks ra (fun _=>rb) hc,by omega,s2⟩
      ·cases h
     split at h
     ·cases h
     ·rename_i c i3 h3;obtain ⟨_,t1,t2⟩:=qer h3;split at h
      ·rename_i hc;cases h;exact ⟨qks ra (fun _=>rb) hc,by omega,t2⟩
      ·cases h
theorem qn3 (w e:Int) (j:Nat):chkR (if e=0 then .ok (w,j) else .error e) (some (.val (.tup [.int .i64 w,.int .i64 j,.int .i64 e]))):=by
 by_cases z:e=0
 ·subst z;simp [chkR]
 ·simp [chkR,z]
theorem qzz (op:Int):ari op= -1\/ari op=0\/ari op=1\/ari op=2\/ari op=3:=by
 unfold ari;split
 ·exact .inr (.inl rfl)
 split
 ·exact .inr (.inr (.inl rfl))
 split
 ·exact .inr (.inr (.inr (.inl rfl)))
 split
 ·exact .inr (.inr (.inr (.inr rfl)))
 ·exact .inl rfl
theorem qhr (p:Prg) (ps:List Fld) (l:List Xe) (hl:l.length<2^40):∀n i,l.length - i<n->i<=l.length->chkR (chk p ps l n i) (qad Φ f_301 [.agg (scC p ps),.slice 3 (l.map Xe.c),.int .i64 (i:Nat)])
 | 0,i,h,hle=>by omega
 | n+1,i,h,hle=>by
  rw [qaa (fn:=c_301) rfl rfl];by_cases hi:i<l.length
  rotate_left
  ·have:i=l.length:=by omega
   subst this;simp [chk,chkR,c_301,qas]
  have ih1:=qhr p ps l hl n (i+1) (by omega) (by omega);have hA:=qs3 l[i].op;have hP:=qyz p ps l[i];have hw:IntKind.wrap .i64 ((i:Int)+1)=(i:Int)+1:=qbb (by omega) (by omega);have e1:((i+1:Nat):Int)=(i:Int)+1:=by omega
  rw [e1] at ih1;simp only [qas,Xe.e] at ih1 hP;simp only [chk,Qa hi];rcases qzz l[i].op with k | k | k | k | k
  ·rw [k] at hA;simp [chkR,c_301,qas,Xe.e,hi,Qf.2 hi,hA,k]
  ·rw [k] at hA;by_cases z:(prim p ps l[i]).2=0
   ·rw [z] at hP;simp [chkR,c_301,qas,Xe.e,hi,Qf.2 hi,hA,k,hP,z,hw]
   ·simp [chkR,c_301,qas,Xe.e,hi,Qf.2 hi,hA,k,hP,z,hw]
  ·rw [k] at hA;simp [c_301,qas,Xe.e,hi,Qf.2 hi,hA,k,hw];rw [qar];cases h1:chk p ps l n (i+1) with
   | error e=>
    rw [h1] at ih1;obtain ⟨he,a,b,hc⟩:=ih1;simp [c_301_l0,chkR,hc,he]
   | ok q=>
    obtain ⟨a,i1⟩:=q;rw [h1] at ih1;obtain ⟨ra,r1,r2⟩:=qer h1;have hC:=qkt l[i] a 0 0 (by omega) (by omega);simp only [Xe.e] at hC;simp only [chkR] at ih1;simp [c_301_l0,ih1];rw [qar];simp [wr1,c_301_k1,hi,Xe.e,hC];exact qn3 _ _ _
  ·rw [k] at hA;simp [c_301,qas,Xe.e,hi,Qf.2 hi,hA,k,hw];rw [qar];cases h1:chk p ps l n (i+1) with
   | error e=>
    rw [h1] at ih1;obtain ⟨he,a,b,hc⟩:=ih1;simp [c_301_l0,chkR,hc,he]
   | ok q=>
    obtain ⟨a,i1⟩:=q;rw [h1] at ih1;obtain ⟨ra,r1,r2⟩:=qer h1;simp only [chkR] at ih1;simp [c_301_l0,ih1];rw [qar];have ih2:=qhr p ps l hl n i1 (by omega) (by omega);simp only [qas] at ih2;cases h2:chk p ps l n i1 with
    | error e=>
     rw [h2] at ih2;obtain ⟨he,x,y,hc⟩:=ih2;simp [chkR,hc,he,wr1]
    | ok q=>
     obtain ⟨b,i2⟩:=q;rw [h2] at ih2;obtain ⟨rb,s1,s2⟩:=qer h2;simp only [chkR] at ih2;have hC:=qkt l[i] a b 0 (by omega) (by omega);simp only [Xe.e] at hC;simp [ih2,wr1];rw [qar];simp [wr2,c_301_k1,hi,Xe.e,hC];exact qn3 _ _ _
  ·rw [k] at hA;simp [c_301,qas,Xe.e,hi,Qf.2 hi,hA,k,hw];rw [qar];cases h1:chk p ps l n (i+1) with
   | error e=>
    rw [h1] at ih1;obtain ⟨he,a,b,hc⟩:=ih1;simp [c_301_l0,chkR,hc,he]
   | ok q=>
    obtain ⟨a,i1⟩:=q;rw [h1] at ih1;obtain ⟨ra,r1,r2⟩:=qer h1;simp only [chkR] at ih1;simp [c_301_l0,ih1];rw [qar];have ih2:=qhr p ps l hl n i1 (by omega) (by omega);simp only [qas] at ih2;cases h2:chk p ps l n i1 with
    | error e=>
     rw [h2] at ih2;obtain ⟨he,x,y,hc⟩:=ih2;simp [chkR,hc,he,wr1]
    | ok q=>
     obtain ⟨b,i2⟩:=q;rw [h2] at ih2;obtain ⟨rb,s1,s2⟩:=qer h2;simp only [chkR] at ih2;simp [ih2,wr1];rw [qar];have ih3:=qhr p ps l hl n i2 (by omega) (by omega);simp only [qas] at ih3;cases h3:chk p ps l n i2 with
     | error e=>
      rw [h3] at ih3;obtain ⟨he,x,y,hc⟩:=ih3;simp [chkR,hc,he,wr2]
     | ok q=>
      obtain ⟨c,i3⟩:=q;rw [h3] at ih3;simp only [chkR] at ih3;have hC:=qkt l[i] a b c (by omega) (by omega);simp only [Xe.e] at hC;simp [ih3,wr2];rw [qar];simp [wr3,c_301_k1,hi,Xe.e,hC];exact qn3 _ _ _
theorem qty (p:Prg) (ps:List Fld) (l:List Xe):qad Φ f_275 [.slice 3 (l.map Xe.c),.agg (scC p ps)]=some (.val (.tup [.int .i64 (exE p ps l).1,.int .i64 (exE p ps l).2])):=by
 rw [qaa (fn:=c_275) rfl rfl];by_cases h:24<l.length
 ·simp [c_275,qas,h,exE]
 have hc:=qhr p ps l (by omega) (l.length+1) 0 (by omega) (by omega);simp only [qas,Int.ofNat_zero] at hc;cases q:chk p ps l (l.length+1) 0 with
 | error e=>
  rw [q] at hc;obtain ⟨he,a,b,hc⟩:=hc;simp [c_275,qas,h,exE,q,hc,he]
 | ok r=>
  obtain ⟨w,j⟩:=r;rw [q] at hc;simp only [chkR] at hc;by_cases hj:j<l.length
  ·simp [c_275,qas,h,exE,q,hc,hj]
  ·simp [c_275,qas,h,exE,q,hc,hj]
theorem FieldRef.e (x:FieldRef):FieldRef.c x=[.int .i64 x.header,.int .i64 x.field]:=by simp [FieldRef.c]
theorem qaeu (p:Prg) (h i:Int):qad Φ f_273 [.agg (Prg.c p),.agg [.int .i64 h,.int .i64 i]]=some (.val (match decl p h i with
  | some w=> .tup [.int .i64 w,.bool true]
  | none=> .tup [.int .i64 0,.bool false])):=by
 rw [qaa (fn:=c_273) rfl rfl,qqg];by_cases hm:h= -1
 ·subst hm;by_cases i0:i<0
  ·rw [show qbe p (-1) i=none by simp [qbe,qdq i0]];simp [c_273,Prg.e,i0]
  by_cases i1:(p.Xo.length:Int)<=i
  ·rw [show qbe p (-1) i=none by simp [qbe,qdp i1]];simp [c_273,Prg.e,i0,i1]
  obtain ⟨k,rfl⟩:∃k:Nat,i=k:=⟨i.toNat,by omega⟩;have hk:k<p.Xo.length:=by omega
  rw [show qbe p (-1) k=some p.Xo[k] by simp [qbe,hk]];simp [c_273,Prg.e,i0,i1,hk,Fld.e]
 by_cases h0:h<0
 ·rw [show qbe p h i=none by simp [qbe,hm,qdq h0]];simp [c_273,Prg.e,hm,h0]
 by_cases h1:(p.Xp.length:Int)<=h
 ·rw [show qbe p h i=none by simp [qbe,hm,qdp h1]];simp [c_273,Prg.e,hm,h0,h1]
 obtain ⟨m,rfl⟩:∃k:Nat,h=k:=⟨h.toNat,by omega⟩;have hk:m<p.Xp.length:=by omega
 by_cases i0:i<0
 ·rw [show qbe p m i=none by simp [qbe,hm,hk,qdq i0]];simp [c_273,Prg.e,hm,hk,Qf.2 hk,i0,Xj.e]
 by_cases i1:(p.Xp[m].fields.length:Int)<=i
 ·rw [show qbe p m i=none by simp [qbe,hm,hk,qdp i1]];simp [c_273,Prg.e,hm,hk,Qf.2 hk,i0,i1,Xj.e]
 obtain ⟨k,rfl⟩:∃k:Nat,i=k:=⟨i.toNat,by omega⟩;have hk2:k<p.Xp[m].fields.length:=by omega
 rw [show qbe p m k=some p.Xp[m].fields[k] by simp [qbe,hm,hk,hk2]];simp [c_273,Prg.e,hm,hk,Qf.2 hk,hk2,Qf.2 hk2,Xj.e,Fld.e]
theorem qaii (p:Prg) (ps:List Fld) (l:List Xe) (w:Int):qad Φ f_274 [.agg (scC p ps),.slice 3 (l.map Xe.c),.int .i64 w]=some (.val (.int .i64 (valE p ps l w))):=by
 rw [qaa (fn:=c_274) rfl rfl];have h:=qty p ps l;simp only [qas] at h;by_cases z:(exE p ps l).2=0
 ·rw [z] at h;by_cases y:(exE p ps l).1=w
  ·simp [c_274,qas,h,valE,z,y]
  ·simp [c_274,qas,h,valE,z,y]
 ·simp [c_274,qas,h,valE,z]
theorem qq8 {α:Type} {l:List α} {i:Int}:(at? l i).isSome=(!(decide (i<0) || decide ((l.length:Int)<=i))):=by
 by_cases h0:i<0
 ·simp [qdq h0,h0]
 by_cases h1:(l.length:Int)<=i
 ·simp [qdp h1,h1]
 obtain ⟨k,rfl⟩:∃k:Nat,i=k:=⟨i.toNat,by omega⟩;have:k<l.length:=by omega
 simp [this,h0]
theorem qaib (p:Prg) (ps:List Fld) (s:Xg):qad Φ f_230 [.agg (scC p ps),.agg (Xg.c s)]=some (.val (.int .i64 (stmE p ps s))):=by
 rw [qaa (fn:=c_230) rfl rfl];have hd:=qaeu p s.dst.header s.dst.field;have hi:=qty p ps s.index;simp only [Prg.e] at hd;simp only [qas] at hi;have hr:(s.register<0/\at? p.Xm s.register=none)\/(¬s.register<0/\(p.Xm.length:Int)<=s.register/\at? p.Xm s.register=none)\/∃k:Nat,∃h:k<p.Xm.length,s.register=k/\at? p.Xm s.register=some p.Xm[k]:=by
  by_cases h0:s.register<0
  ·exact .inl ⟨h0,qdq h0⟩
  by_cases h1:(p.Xm.length:Int)<=s.register
  ·exact .inr (.inl ⟨h0,h1,qdp h1⟩)
  obtain ⟨k,hk⟩:∃k:Nat,s.register=k:=⟨s.register.toNat,by omega⟩;exact .inr (.inr ⟨k,by omega,hk,by rw [hk];simp⟩)
 have hx:∀w,qad Φ f_274 [.agg (scC p ps),.slice 3 (s.value.map Xe.c),.int .i64 w]=some (.val (.int .i64 (valE p ps s.value w))):=qaii p ps s.value;simp only [qas] at hx;have hd':qad Φ f_273 [.agg [.str p.name,.slice 2 (p.Xp.map Xj.c),.slice 2 (p.Xo.map Fld.c),.slice 3 (p.Xm.map Xh.c),.slice 3 (p.actions.map Action.c),.slice 6 (p.Xn.map Tbl.c),.slice 7 (p.states.map Xd.c),.slice 5 (p.control.map Xa.c),.slice 1 (p.Xs.map cI)],.agg [.int .i64 s.dst.header,.int .i64 s.dst.field]]=
   some (.val (.tup [.int .i64 ((decl p s.dst.header s.dst.field).getD 0),.bool (decl p s.dst.header s.dst.field).isSome])):=by
  rw [hd];cases decl p s.dst.header s.dst.field<;>rfl
 clear hd;by_cases k1:s.kind=1
 ·rcases hr with ⟨r0,rn⟩ | ⟨r0,r1,rn⟩ | ⟨m,hm,rk,rn⟩<;>cases qd:decl p s.dst.header s.dst.field<;>rw [qd] at hd'
  ·simp [c_230,qas,Xg.e,hd',stmE,qd,k1,QCi.2 r0]
  ·simp [c_230,qas,Xg.e,hd',stmE,qd,k1,QCi.2 r0,hx]
  ·simp [c_230,qas,Xg.e,hd',stmE,qd,k1,QBi.1 r0,QBi.2 r1]
  ·simp [c_230,qas,Xg.e,hd',stmE,qd,k1,QBi.1 r0,QBi.2 r1,hx]
  ·simp [c_230,qas,Xg.e,hd',stmE,qd,k1,rk,hm]
  ·simp [c_230,qas,Xg.e,hd',stmE,qd,k1,rk,hm,hx]
 by_cases k2:s.kind=2
 ·have e:stmE p ps s=if (at? p.Xp s.header).isSome then 0 else 8:=by simp [stmE,k2]
  rw [e,qq8];by_cases h0:s.header<0<;>by_cases h1:(p.Xp.length:Int)<=s.header<;>rcases hr with ⟨r0,rn⟩ | ⟨r0,r1,rn⟩ | ⟨m,hm,rk,rn⟩
  all_goals first
   | simp [c_230,qas,Xg.e,hd',k2,QCi.2 r0,h0,h1]
   | simp [c_230,qas,Xg.e,hd',k2,QBi.1 r0,QBi.2 r1,h0,h1]
   | simp [c_230,qas,Xg.e,hd',k2,rk,hm,h0,h1]
 by_cases k3:s.kind=3
 ·have e:stmE p ps s=if (at? p.Xp s.header).isSome then 0 else 8:=by simp [stmE,k3]
  rw [e,qq8];by_cases h0:s.header<0<;>by_cases h1:(p.Xp.length:Int)<=s.header<;>rcases hr with ⟨r0,rn⟩ | ⟨r0,r1,rn⟩ | ⟨m,hm,rk,rn⟩
  all_goals first
   | simp [c_230,qas,Xg.e,hd',k3,QCi.2 r0,h0,h1]
   | simp [c_230,qas,Xg.e,hd',k3,QBi.1 r0,QBi.2 r1,h0,h1]
   | simp [c_230,qas,Xg.e,hd',k3,rk,hm,h0,h1]
 by_cases k4:s.kind=4
 ·rcases hr with ⟨r0,rn⟩ | ⟨r0,r1,rn⟩ | ⟨m,hm,rk,rn⟩
  ·simp [c_230,qas,Xg.e,hd',stmE,k4,QCi.2 r0,rn]
  ·simp [c_230,qas,Xg.e,hd',stmE,k4,QBi.1 r0,QBi.2 r1,rn]
  ·rw [rk] at rn;cases qd:decl p s.dst.header s.dst.field with
   | none=>rw [qd] at hd';simp [c_230,qas,Xg.e,hd',stmE,k4,rk,hm,rn,qd]
   | some w=>
    rw [qd] at hd';by_cases z:(exE p ps s.index).2=0
    ·rw [z] at hi;by_cases y:w=p.Xm[m].width
     ·simp [c_230,qas,Xg.e,Xh.e,hd',stmE,k4,rk,hm,rn,qd,hi,z,y]
     ·simp [c_230,qas,Xg.e,Xh.e,hd',stmE,k4,rk,hm,rn,qd,hi,z,y]
    ·simp [c_230,qas,Xg.e,hd',stmE,k4,rk,hm,rn,qd,hi,z]
 by_cases k5:s.kind=5
 ·rcases hr with ⟨r0,rn⟩ | ⟨r0,r1,rn⟩ | ⟨m,hm,rk,rn⟩
  ·simp [c_230,qas,Xg.e,hd',stmE,k5,QCi.2 r0,rn]
  ·simp [c_230,qas,Xg.e,hd',stmE,k5,QBi.1 r0,QBi.2 r1,rn]
  ·rw [rk] at rn;by_cases z:(exE p ps s.index).2=0
   ·rw [z] at hi;simp [c_230,qas,Xg.e,Xh.e,hd',stmE,k5,rk,hm,rn,hi,z,hx]
   ·simp [c_230,qas,Xg.e,hd',stmE,k5,rk,hm,rn,hi,z]
 rcases hr with ⟨r0,rn⟩ | ⟨r0,r1,rn⟩ | ⟨m,hm,rk,rn⟩
 ·simp [c_230,qas,Xg.e,hd',stmE,k1,k2,k3,k4,k5,QCi.2 r0]
 ·simp [c_230,qas,Xg.e,hd',stmE,k1,k2,k3,k4,k5,QBi.1 r0,QBi.2 r1]
 ·simp [c_230,qas,Xg.e,hd',stmE,k1,k2,k3,k4,k5,rk,hm]
theorem qacw (g:Fld) (s:List UInt8) (w:Int):qad Φ f_272 [.agg (Fld.c g),.iptr 2 [[.str s,.int .i64 w]] 0 0]=some (.val (.bool (decide (g.name=s)))):=by
 rw [qaa (fn:=c_272) rfl rfl];simp [c_272,Fld.e]
theorem qvw (l:List Fld) (s:List UInt8) (w:Int) (hl:l.length<2^40):qad Φ f_300 [.slice 2 (l.map Fld.c),.func (.func f_272) [] [.iptr 2 [[.str s,.int .i64 w]] 0 0]]=some (.val (.int .i64 (ix (fun g=>decide (g.name=s)) l 0))):=by
 rw [qaa (fn:=c_300) rfl rfl];simp [c_300];refine (qcj l.length (fun i e=>look 0 e=some (.slice 2 (l.map Fld.c))/\look 1 e=some (.func (.func f_272) [] [.iptr 2 [[.str s,.int .i64 w]] 0 0])/\look 7 e=some (.int .i64 l.length)/\look 8 e=some (.int .i64 i))
  (fun i=>some (.val (.int .i64 (ix (fun g=>decide (g.name=s)) l i)))) ?_ ?_ 0 _ (Qc _) ?_).trans (by simp)
 ·rintro i e L hi hL ⟨h0,h1,h7,h8⟩ ih;have hw:=qal i (by omega);have hd:=qacw l[i] s w;simp only [Fld.e] at hd;by_cases z:l[i].name=s
  ·rw [qke hi (by simpa using z)];rw [decide_eq_true z] at hd;simp [c_300_l0,Fld.e,h0,h1,h7,h8,hi,hd]
  ·rw [qik hi (by simpa using z)];simp [c_300_l0,Fld.e,h0,h1,h7,h8,hi,hd,z,hw];exact ih _ ⟨by simp [h0],by simp [h1],by simp [h7],by simp⟩
 ·rintro e L hL ⟨h0,h1,h7,h8⟩;rw [qkd];simp [c_300_l0,c_300_k1,h7,h8,hL]
 ·simp
theorem qqf (l:List Fld) (s:List UInt8) (w:Int) (hl:l.length<2^40):qad Φ f_271 [.slice 2 (l.map Fld.c),.func (.func f_272) [] [.iptr 2 [[.str s,.int .i64 w]] 0 0]]=some (.val (.bool (l.any fun g=>decide (g.name=s)))):=by
 rw [qaa (fn:=c_271) rfl rfl];have h:=qvw l s w hl;have e:=qma (p:=fun g:Fld=>decide (g.name=s)) (l:=l);simp [c_271,h];rw [<- e]
def actG (l:List Fld) (i:Nat):Option Int:=(l[i]?).bind fun f=>er (fldE l i f)
theorem qaey (a:Action) (hn:a.name.length<2^40) (hl:a.params.length<2^40) (hf:∀f∈a.params,f.name.length<2^40):qad Φ f_229 [.agg (Action.c a)]=some (.val (.int .i64 (actD a))):=by
 rw [qaa (fn:=c_229) rfl rfl];have n1:=qec a.name hn;cases q1:idS a.name with
 | false=>rw [q1] at n1;simp [c_229,Action.e,n1,actD,q1]
 | true=>
 rw [q1] at n1;by_cases z0:4<a.params.length
 ·simp [c_229,Action.e,n1,actD,q1,z0]
 by_cases z1:12<a.body.length
 ·simp [c_229,Action.e,n1,actD,q1,z0,z1]
 have hE:actD a=errO (fe (actG a.params) a.params.length 0):=by simp [actD,q1,z0,z1]<;>rfl
 rw [hE];simp [c_229,Action.e,n1,z0,z1];refine qa4 a.params.length (fun _=>[]) 0 (fun i e=>look 1 e=some (.iptr 3 [[.str a.name,.slice 2 (a.params.map Fld.c),.slice 7 (a.body.map Xg.c)]] 0 0)/\look 22 e=some (.slice 2 (a.params.map Fld.c))/\look 23 e=some (.int .i64 a.params.length)/\look 24 e=some (.int .i64 i))
  (fun i=>some (Rt.val (.int .i64 (errO (fe (actG a.params) a.params.length i))))) ?_ ?_ 0 _ 0 (Qc _) (Qb _) ?_
 ·rintro i e n L hi hL _ ⟨h1,h22,h23,h24⟩ ih;have hw:=qal i (by omega);have nf:=qec a.params[i].name (hf _ (Qd hi));have hi':i<=a.params.length:=by omega
  have hc:=qqf (a.params.take i) a.params[i].name a.params[i].width (by simp;omega);rw [show (a.params.take i).any (fun g=>decide (g.name=a.params[i].name))=dupN Fld.name a.params i a.params[i] from rfl,QBa] at hc;cases p1:idS a.params[i].name with
  | false=>
   rw [p1] at nf;rw [qax (x:=6) hi (by simp [actG,hi,fldE,p1,er])];simp [c_229_l0,Fld.e,h22,h23,h24,hi,nf]
  | true=>
  rw [p1] at nf;by_cases w1:a.params[i].width<1
  ·rw [qax (x:=10) hi (by simp [actG,hi,fldE,p1,wBad,w1,er])];simp [c_229_l0,Fld.e,h22,h23,h24,hi,nf,w1]
  by_cases w2:32<a.params[i].width
  ·rw [qax (x:=10) hi (by simp [actG,hi,fldE,p1,wBad,w2,er])];simp [c_229_l0,Fld.e,h22,h23,h24,hi,nf,w1,w2]
  cases p3:dupN Fld.name a.params i a.params[i] with
  | true=>
   rw [p3] at hc;rw [qax (x:=7) hi (by simp [actG,hi,fldE,p1,wBad,w1,w2,p3,er])];simp [c_229_l0,Fld.e,h1,h22,h23,h24,hi,nf,w1,w2,hi',hc]
  | false=>
   rw [p3] at hc;rw [qbm hi (by simp [actG,hi,fldE,p1,wBad,w1,w2,p3])];simp [c_229_l0,Fld.e,h1,h22,h23,h24,hi,nf,w1,w2,hi',hc,hw];exact ih _ _ (Qc _) ⟨by simp [h1],by simp [h22],by simp [h23],by simp⟩
 ·rintro e n L hL _ ⟨h1,h22,h23,h24⟩;rw [qcc];simp [c_229_l0,c_229_k1,h23,h24,hL]
 ·simp
def qou (p:Prg) (a:Action) (k:Nat):Option (Int×Int):=(a.body[k]?).bind fun s=>if stmE p a.params s=0 then none else some ((k:Int),stmE p a.params s)
theorem qaez (p:Prg) (f:PrgS p) (i:Int):qad Φ f_181 [.agg (Prg.c p),.int .i64 i]=some (.val (.tup [.int .i64 (actE p i).1,.int .i64 (actE p i).2])):=by
 rw [qaa (fn:=c_181) rfl rfl];by_cases i0:i<0
 ·simp [c_181,Prg.e,i0,actE,qdq i0]
 by_cases i1:(p.actions.length:Int)<=i
 ·simp [c_181,Prg.e,i0,i1,actE,qdp i1]
 obtain ⟨k,rfl⟩:∃k:Nat,i=k:=⟨i.toNat,by omega⟩;have hk:k<p.actions.length:=by omega
 have hm:=Qd hk;have hd:=qaey p.actions[k] (f.an _ hm) (f.ap _ hm) (f.apn _ hm);simp only [Action.e] at hd;by_cases z:actD p.actions[k]=0
 rotate_left
 ·simp [c_181,Prg.e,Action.e,hk,Qf.2 hk,hd,z,actE]
 rw [z] at hd;have hE:actE p k=(fe (qou p p.actions[k]) p.actions[k].body.length 0).getD (0,0):=by simp [actE,hk,z]<;>rfl
 rw [hE];simp [c_181,Prg.e,Action.e,hk,Qf.2 hk,hd];have hb:=f.ab _ hm;refine qa4 p.actions[k].body.length (fun _=>[]) 0 (fun i e=>look 7 e=some (.iptr 10 [scC p p.actions[k].params] 0 0)/\look 35 e=some (.slice 7 (p.actions[k].body.map Xg.c))/\look 36 e=some (.int .i64 p.actions[k].body.length)/\look 37 e=some (.int .i64 i))
  (fun i=>some (Rt.val (.tup [.int .i64 ((fe (qou p p.actions[k]) p.actions[k].body.length i).getD (0,0)).1,.int .i64 ((fe (qou p p.actions[k]) p.actions[k].body.length i).getD (0,0)).2]))) ?_ ?_ 0 _ _ (Qc _) (Qc _) ?_
 ·rintro i e n L hi hL _ ⟨h7,h35,h36,h37⟩ ih;have hw:=qal i (by omega);have hs:=qaib p p.actions[k].params p.actions[k].body[i];simp only [Xg.e,qas] at hs;rw [qas] at h7;by_cases y:stmE p p.actions[k].params p.actions[k].body[i]=0
  ·rw [y] at hs;rw [qbm hi (by simp [qou,hi,y])];simp [c_181_l0,Xg.e,h7,h35,h36,h37,hi,hs,hw];exact ih _ _ (Qc _) ⟨by simp [h7,qas],by simp [h35],by simp [h36],by simp⟩
  ·rw [qax (x:=((i:Int),stmE p p.actions[k].params p.actions[k].body[i])) hi (by simp [qou,hi,y])];simp [c_181_l0,Xg.e,h7,h35,h36,h37,hi,hs,y]
 ·rintro e n L hL _ ⟨h7,h35,h36,h37⟩;rw [qcc];simp [c_181_l0,c_181_k1,h36,h37,hL]
 ·simp [qas]
def qso (ar:List Int) (ps:List Fld) (i:Nat):Option Int:=match ar[i]?,ps[i]? with
  | some v,some f=>if fits v f.width then none else some 9
  | _,_=>none
theorem qn2 (p:Prg) (f:PrgS p) (c:Xb) (hc:c.args.length<2^40):qad Φ f_219 [.agg (Prg.c p),.agg (Xb.c c)]=some (.val (.int .i64 (qfz p c))):=by
 rw [qaa (fn:=c_219) rfl rfl];by_cases i0:c.action<0
 ·simp [c_219,Prg.e,Xb.e,i0,qfz,qdq i0]
 by_cases i1:(p.actions.length:Int)<=c.action
 ·simp [c_219,Prg.e,Xb.e,i0,i1,qfz,qdp i1]
 obtain ⟨k,hk0⟩:∃k:Nat,c.action=k:=⟨c.action.toNat,by omega⟩;have hk:k<p.actions.length:=by omega
 by_cases z:c.args.length=p.actions[k].params.length
 rotate_left
 ·simp [c_219,Prg.e,Xb.e,Action.e,hk0,hk,Qf.2 hk,qfz,z]
 have hE:qfz p c=errO (fe (qso c.args p.actions[k].params) c.args.length 0):=by simp [qfz,hk0,hk,z]<;>rfl
 rw [hE];simp [c_219,Prg.e,Xb.e,Action.e,hk0,hk,Qf.2 hk,z];rw [<- z];refine qcj c.args.length (fun i e=>look 5 e=some (.slice 2 (p.actions[k].params.map Fld.c))/\look 33 e=some (.slice 1 (c.args.map c32))/\look 34 e=some (.int .i64 c.args.length)/\look 35 e=some (.int .i64 i))
  (fun i=>some (Rt.val (.int .i64 (errO (fe (qso c.args p.actions[k].params) c.args.length i))))) ?_ ?_ 0 _ (Qc _) ?_
 ·rintro i e L hi hL ⟨h5,h33,h34,h35⟩ ih;have hw:=qal i (by omega);have hi2:i<p.actions[k].params.length:=by omega
  have hf:=qka c.args[i] p.actions[k].params[i].width;cases y:fits c.args[i] p.actions[k].params[i].width with
  | true=>
   rw [y] at hf;rw [qbm hi (by simp [qso,hi,hi2,y])];simp [c_219_l0,Fld.e,c32,h5,h33,h34,h35,hi,hi2,hf,hw];exact ih _ ⟨by simp [h5],by simp [h33],by simp [h34],by simp⟩
  | false=>
   rw [y] at hf;rw [qax (x:=9) hi (by simp [qso,hi,hi2,y])];simp [c_219_l0,Fld.e,c32,h5,h33,h34,h35,hi,hi2,hf]
 ·rintro e L hL ⟨h5,h33,h34,h35⟩;rw [qcc];simp [c_219_l0,c_219_k1,h34,h35,hL]
 ·simp [z]
@[simp] theorem qamt (O:List (Nat×AO)) (n id:Nat):qj6 ⟨O,n⟩ (.map id)=match look id O with
  | some (.map es)=>some es
  | _=>none:=by simp only [qj6,AH.get]<;>rfl
@[simp] theorem kdOk_i (k:IntKind) (x:Int):kdOk .i (.int k x)=true:=by simp [kdOk]
@[simp] theorem kdOk_s (x:List UInt8):kdOk .s (.str x)=true:=by simp [kdOk]
def setM (l:List Int):List (AV×AV):=l.map fun a=>(.int .i64 a,.bool true)
def setS (l:List (List UInt8)):List (AV×AV):=l.map fun a=>(.str a,.bool true)
theorem qmp (k:Int):∀l:List Int,qb9 .i (.int .i64 k) (setM l)=some (if l.contains k then some (.bool true) else none)
 | []=>by simp [setM,qb9]
 | a::l=>by
  have ih:=qmp k l;unfold setM at ih ⊢;by_cases h:k=a
  ·subst h;simp [qb9]
  ·simp [qb9,h,ih]
theorem qu4 (k:Int):∀l:List Int,l.contains k=false->putA .i (.int .i64 k) (.bool true) (setM l)=some (setM (l++[k]))
 | [],_=>by simp [setM,putA]
 | a::l,h=>by
  simp only [List.contains_cons,QBk,beq_eq_false_iff_ne,ne_eq] at h;have ih:=qu4 k l h.2;unfold setM at ih ⊢;simp [putA,h.1,ih]
theorem qr1 (k:List UInt8):∀l:List (List UInt8),qb9 .s (.str k) (setS l)=some (if l.contains k then some (.bool true) else none)
 | []=>by simp [setS,qb9]
 | a::l=>by
  have ih:=qr1 k l;unfold setS at ih ⊢;by_cases h:k=a
  ·subst h;simp [qb9]
  ·simp [qb9,h,ih]
theorem qu5 (k:List UInt8):∀l:List (List UInt8),l.contains k=false->putA .s (.str k) (.bool true) (setS l)=some (setS (l++[k]))
 | [],_=>by simp [setS,putA]
 | a::l,h=>by
  simp only [List.contains_cons,QBk,beq_eq_false_iff_ne,ne_eq] at h;have ih:=qu5 k l h.2;unfold setS at ih ⊢;simp [putA,h.1,ih]
theorem qach (l:List Fld) (i:Int):qad Φ f_297 [.slice 2 (l.map Fld.c),.int .i64 i]=some (.val (.agg (match at? l i with | some f=>Fld.c f | none=>[.str [],.int .i64 0]))):=by
 rw [qaa (fn:=c_297) rfl rfl];by_cases i0:i<0
 ·simp [c_297,i0,qdq i0]
 by_cases i1:(l.length:Int)<=i
 ·simp [c_297,i0,i1,qdp i1]
 obtain ⟨k,rfl⟩:∃k:Nat,i=k:=⟨i.toNat,by omega⟩;have hk:k<l.length:=by omega
 simp [c_297,hk,Qf.2 hk,Fld.e]
theorem qaci (l:List Xj) (i:Int):qad Φ f_309 [.slice 2 (l.map Xj.c),.int .i64 i]=some (.val (.agg (match at? l i with | some f=>Xj.c f | none=>[.str [],.slice 2 []]))):=by
 rw [qaa (fn:=c_309) rfl rfl];by_cases i0:i<0
 ·simp [c_309,i0,qdq i0]
 by_cases i1:(l.length:Int)<=i
 ·simp [c_309,i0,i1,qdp i1]
 obtain ⟨k,rfl⟩:∃k:Nat,i=k:=⟨i.toNat,by omega⟩;have hk:k<l.length:=by omega
 simp [c_309,hk,Qf.2 hk,Xj.e]
def qjc (p:Prg) (h:Int):List Fld:=((if h= -1 then some p.Xo else (at? p.Xp h).map (·.fields))).getD []
theorem qaat (p:Prg) (h:Int):qad Φ f_298 [.agg (Prg.c p),.int .i64 h]=some (.val (.slice 2 ((qjc p h).map Fld.c))):=by
 rw [qaa (fn:=c_298) rfl rfl];by_cases hm:h= -1
 ·simp [c_298,Prg.e,hm,qjc]
 have ha:=qaci p.Xp h;cases q:at? p.Xp h with
 | none=>
  rw [q] at ha;simp [c_298,Prg.e,hm,qjc,ha,q]
 | some x=>
  rw [q] at ha;simp only [Xj.e] at ha;simp [c_298,Prg.e,hm,qjc,ha,q]
theorem qaag (p:Prg) (h i:Int):decl p h i=(at? (qjc p h) i).map (·.width):=by
 unfold decl qjc;cases (if h= -1 then some p.Xo else (at? p.Xp h).map (·.fields)) with
 | some l=>rfl
 | none=>
  have:at? ([]:List Fld) i=none:=by unfold at?;split<;>simp
  simp [this]
theorem qp4 (p:Prg) (h i:Int):qad Φ f_264 [.agg (Prg.c p),.agg [.int .i64 h,.int .i64 i]]=some (.val (.int .i64 (wid p h i))):=by
 rw [qaa (fn:=c_264) rfl rfl];have hf:=qaat p h;have ha:=qach (qjc p h) i;have hd:=qaag p h i;simp only [Prg.e] at hf;cases q:at? (qjc p h) i with
 | none=>
  rw [q] at ha hd;have hm:=qge 0;rw [show qce 0=0 from rfl] at hm;simp [c_264,Prg.e,hf,ha,hm,wid,hd]
 | some f=>
  rw [q] at ha hd;simp only [Fld.e] at ha;have hm:=qge f.width;cases w:wBad f.width with
  | true=>
   rw [show qce f.width=0 by simp [qce,w]] at hm;simp [c_264,Prg.e,hf,ha,hm,wid,hd,w]
  | false=>
   have:¬qce f.width=0:=by
    obtain ⟨w1,w2⟩:=wBad_false.1 w;have:(2:Int)^1<=2^f.width.toNat:=by
     have:=QBu (n:=2) (by omega) (show 1<=f.width.toNat by omega)
     exact_mod_cast this
    simp only [qce,w];simp;omega
   simp [c_264,Prg.e,hf,ha,hm,wid,hd,w,this]
theorem qab8 (p:Prg) (h i:Int):0<=wid p h i/\wid p h i<=32:=by
 unfold wid;split
 ·rename_i w _;cases q:wBad w with
  | true=>simp
  | false=>have:=wBad_false.1 q;simp;omega
 ·simp
def keyG (p:Prg) (x:Tbl) (i:Nat):Option (Int×Int):=(x.keys[i]?).bind fun k=>
 if wid p k.field.header k.field.field=0 then some ((i:Int),8) else if k.kind=1\/k.kind=2\/k.kind=3 then none else some ((i:Int),11)
def qk3 (p:Prg) (x:Tbl):Int×Int:=if 1<x.keys.countP (fun k=>decide (k.kind=2)) then (-2,7) else if 64<(kWid p x).sum then (-2,10) else (0,0)
theorem qpb (p:Prg) (x:Tbl):∀i,i<=x.keys.length->0<=((kWid p x).take i).sum/\((kWid p x).take i).sum<=32*i:=by
 intro i
 induction i with
 | zero=>intro _;simp
 | succ i ih=>
  intro hi;have:=ih (by omega);have hl:i<(kWid p x).length:=by simp [kWid];omega
  rw [Qh hl,List.sum_append,QCo];have hr:=qab8 p x.keys[i].field.header x.keys[i].field.field;have he:(kWid p x)[i]=wid p x.keys[i].field.header x.keys[i].field.field:=by simp [kWid]
  rw [he];omega
theorem qade (p:Prg) (x:Tbl) (hl:x.keys.length<2^40):qad Φ f_231 [.agg (Prg.c p),.agg (Tbl.c x)]=some (.val (.tup [.int .i64 (qh5 p x).1,.int .i64 (qh5 p x).2])):=by
 rw [qaa (fn:=c_231) rfl rfl];have hE:qh5 p x=(fe (keyG p x) x.keys.length 0).getD (qk3 p x):=by
  unfold qh5 keyE;show (match fe (keyG p x) x.keys.length 0 with | some e=>e | none=>qk3 p x)=_;cases fe (keyG p x) x.keys.length 0<;>rfl
 rw [hE];simp [c_231,Prg.e,Tbl.e];refine qa4 x.keys.length (fun _=>[]) 0 (fun i e=>look 2 e=some (.iptr 9 [Prg.c p] 0 0)/\look 6 e=some (.int .i64 ((x.keys.take i).countP fun k=>decide (k.kind=2):Nat))/\look 7 e=some (.int .i64 ((kWid p x).take i).sum)/\look 12 e=some (.slice 3 (x.keys.map Xl.c))/\look 13 e=some (.int .i64 x.keys.length)/\look 14 e=some (.int .i64 i))
  (fun i=>some (Rt.val (.tup [.int .i64 ((fe (keyG p x) x.keys.length i).getD (qk3 p x)).1,.int .i64 ((fe (keyG p x) x.keys.length i).getD (qk3 p x)).2]))) ?_ ?_ 0 _ 0 (Qc _) (Qb _) ?_
 ·rintro i e n L hi hL _ ⟨h2,h6,h7,h12,h13,h14⟩ ih;have hw:=qal i (by omega);have hv:=qp4 p x.keys[i].field.header x.keys[i].field.field;simp only [Prg.e] at hv;rw [Prg.e] at h2;by_cases z:wid p x.keys[i].field.header x.keys[i].field.field=0
  ·rw [z] at hv;rw [qax (x:=((i:Int),8)) hi (by simp [keyG,hi,z])];simp [c_231_l0,Xl.e,h2,h12,h13,h14,hi,hv]
  have hs:=qpb p x (i+1) (by omega);have hs0:=qpb p x i (by omega);have he:((kWid p x).take (i+1)).sum=((kWid p x).take i).sum+wid p x.keys[i].field.header x.keys[i].field.field:=by
   have hl:i<(kWid p x).length:=by simp [kWid];omega
   rw [Qh hl,List.sum_append,QCo];congr 1;simp [kWid]
  have hw7:IntKind.wrap .i64 (((kWid p x).take i).sum+wid p x.keys[i].field.header x.keys[i].field.field)=((kWid p x).take (i+1)).sum:=by rw [<- he];exact qbb (by omega) (by omega)
  have hc:(x.keys.take (i+1)).countP (fun k=>decide (k.kind=2))=(x.keys.take i).countP (fun k=>decide (k.kind=2))+if x.keys[i].kind=2 then 1 else 0:=by
   rw [Qh hi,List.countP_append];congr 1;simp [List.countP_cons]
  have hcl:(x.keys.take i).countP (fun k=>decide (k.kind=2))<=i:=by
   have:=List.countP_le_length (l:=x.keys.take i) (p:=fun k=>decide (k.kind=2));simp at this;omega
  have hw6:IntKind.wrap .i64 (((x.keys.take i).countP (fun k=>decide (k.kind=2)):Nat)+1:Int)=(((x.keys.take i).countP (fun k=>decide (k.kind=2))+1:Nat):Int):=qbb (by omega) (by omega);by_cases k2:x.keys[i].kind=2
  ·rw [qbm hi (by simp [keyG,hi,z,k2])];rw [QAa k2] at hc;simp [c_231_l0,Xl.e,h2,h6,h7,h12,h13,h14,hi,hv,z,k2,hw7,hw6,hw];exact ih _ _ (Qc _) ⟨by simp [h2,Prg.e],by simp [hc],by simp,by simp [h12],by simp [h13],by simp⟩
  rw [QA k2] at hc;by_cases k1:x.keys[i].kind=1
  ·rw [qbm hi (by simp [keyG,hi,z,k1])];simp [c_231_l0,Xl.e,h2,h7,h12,h13,h14,hi,hv,z,k1,hw7,hw];exact ih _ _ (Qc _) ⟨by simp [h2,Prg.e],by simp [hc,h6],by simp,by simp [h12],by simp [h13],by simp⟩
  by_cases k3:x.keys[i].kind=3
  ·rw [qbm hi (by simp [keyG,hi,z,k3])];simp [c_231_l0,Xl.e,h2,h7,h12,h13,h14,hi,hv,z,k3,hw7,hw];exact ih _ _ (Qc _) ⟨by simp [h2,Prg.e],by simp [hc,h6],by simp,by simp [h12],by simp [h13],by simp⟩
  ·rw [qax (x:=((i:Int),11)) hi (by simp [keyG,hi,z,k1,k2,k3])];simp [c_231_l0,Xl.e,h2,h12,h13,h14,hi,hv,z,k1,k2,k3]
 ·rintro e n L hL _ ⟨h2,h6,h7,h12,h13,h14⟩;rw [qcc];have ht:(kWid p x).take x.keys.length=kWid p x:=by rw [Qo];simp [kWid]
  rw [ht] at h7;rw [QAk] at h6;by_cases y1:1<x.keys.countP (fun k=>decide (k.kind=2))
  ·simp [c_231_l0,c_231_k1,h6,h13,h14,hL,qk3,y1]
  by_cases y2:64<(kWid p x).sum
  ·simp [c_231_l0,c_231_k1,h6,h7,h13,h14,hL,qk3,y1,y2]
  ·simp [c_231_l0,c_231_k1,h6,h7,h13,h14,hL,qk3,y1,y2]
 ·simp [Prg.e]
def qjq (p:Prg) (x:Tbl) (i:Nat):Option Int:=(x.actions[i]?).bind fun a=>if a<0\/(p.actions.length:Int)<=a then some (8:Int) else if (x.actions.take i).contains a then some 7 else none
def qlj (p:Prg) (x:Tbl):Int:=if x.actions.contains x.dflt.action then qfz p x.dflt else 8
theorem qaen (p:Prg) (x:Tbl):qjp p x=(fe (qjq p x) x.actions.length 0).getD (qlj p x):=by
 unfold qjp;show (match fe (qjq p x) x.actions.length 0 with | some e=>e | none=>qlj p x)=_;cases fe (qjq p x) x.actions.length 0<;>rfl
theorem qaeo (p:Prg) (f:PrgS p) (x:Tbl) (hl:x.actions.length<2^40) (hg:x.dflt.args.length<2^40):qad Φ f_232 [.agg (Prg.c p),.agg (Tbl.c x)]=some (.val (.int .i64 (qjp p x))):=by
 rw [qaa (fn:=c_232) rfl rfl,qaen];simp [c_232,Prg.e,Tbl.e];refine qdt x.actions.length (fun i e H=>look 2 e=some (.iptr 9 [Prg.c p] 0 0)/\look 3 e=some (.iptr 6 [Tbl.c x] 0 0)/\look 5 e=some (.map 0)/\look 10 e=some (.slice 1 (x.actions.map cI))/\look 11 e=some (.int .i64 x.actions.length)/\look 12 e=some (.int .i64 i)/\
   H=⟨[(0,.map (setM (x.actions.take i)))],1⟩)
  (fun i=>some (Rt.val (.int .i64 ((fe (qjq p x) x.actions.length i).getD (qlj p x))))) ?_ ?_ 0 _ _ (Qc _) ?_
 ·rintro i e _ L hi hL ⟨h2,h3,h5,h10,h11,h12,rfl⟩ ih;have hw:=qal i (by omega);rw [Prg.e] at h2;by_cases z0:x.actions[i]<0
  ·rw [qax (x:=8) hi (by simp [qjq,hi,z0])];simp [c_232_l0,cI,h10,h11,h12,hi,z0]
  by_cases z1:(p.actions.length:Int)<=x.actions[i]
  ·rw [qax (x:=8) hi (by simp [qjq,hi,z0,z1])];simp [c_232_l0,cI,h2,h10,h11,h12,hi,z0,z1]
  have hfnd:=qmp x.actions[i] (x.actions.take i);cases q:(x.actions.take i).contains x.actions[i] with
  | true=>
   rw [q] at hfnd;rw [qax (x:=7) hi (by simp only [qjq,Qa hi,QAs];rw [QA (by omega),q];rfl)];simp [c_232_l0,cI,h2,h5,h10,h11,h12,hi,z0,z1,hfnd]
  | false=>
   rw [q] at hfnd;have hput:=qu4 x.actions[i] (x.actions.take i) q;rw [<- Qh hi] at hput;rw [qbm hi (by simp only [qjq,Qa hi,QAs];rw [QA (by omega),q];rfl)];simp [c_232_l0,cI,h2,h5,h10,h11,h12,hi,z0,z1,hfnd,hput,hw];exact ih _ _ ⟨by simp [h2,Prg.e],by simp [h3],by simp [h5],by simp [h10],by simp [h11],by simp,rfl⟩
 ·rintro e _ L hL ⟨h2,h3,h5,h10,h11,h12,rfl⟩;rw [qcc,QAk];have hfnd:=qmp x.dflt.action x.actions;have hc:=qn2 p f x.dflt hg;simp only [Prg.e,Xb.e] at hc;rw [Prg.e] at h2;rw [Tbl.e] at h3;cases q:x.actions.contains x.dflt.action with
  | true=>
   rw [q] at hfnd;rw [show qlj p x=qfz p x.dflt by simp only [qlj,q];rfl];simp [c_232_l0,c_232_k1,h2,h3,h5,h11,h12,hL,hfnd,hc]
  | false=>
   rw [q] at hfnd;rw [show qlj p x=8 by simp only [qlj,q];rfl];simp [c_232_l0,c_232_k1,h3,h5,h11,h12,hL,hfnd]
 ·simp [Prg.e,Tbl.e,setM]
theorem qq5 (p:Prg) (f:PrgS p) (t:Int):qad Φ f_184 [.agg (Prg.c p),.int .i64 t]=some (.val (.tup [.int .i64 (tblE p t).1,.int .i64 (tblE p t).2])):=by
 rw [qaa (fn:=c_184) rfl rfl];by_cases i0:t<0
 ·simp [c_184,Prg.e,i0,tblE,qdq i0]
 by_cases i1:(p.Xn.length:Int)<=t
 ·simp [c_184,Prg.e,i0,i1,tblE,qdp i1]
 obtain ⟨k,rfl⟩:∃k:Nat,t=k:=⟨t.toNat,by omega⟩;have hk:k<p.Xn.length:=by omega
 have hm:=Qd hk;have n1:=qec p.Xn[k].name (f.tn _ hm);have h1:=qade p p.Xn[k] (f.tk _ hm);have h2:=qaeo p f p.Xn[k] (f.ta _ hm) (f.tg _ hm);simp only [Prg.e,Tbl.e] at h1 h2;cases q1:idS p.Xn[k].name with
 | false=>rw [q1] at n1;simp [c_184,Prg.e,Tbl.e,hk,Qf.2 hk,n1,tblE,q1]
 | true=>
 rw [q1] at n1;by_cases z0:6<p.Xn[k].keys.length
 ·simp [c_184,Prg.e,Tbl.e,hk,Qf.2 hk,n1,tblE,q1,z0]
 by_cases z1:16<p.Xn[k].actions.length
 ·simp [c_184,Prg.e,Tbl.e,hk,Qf.2 hk,n1,tblE,q1,z0,z1]
 by_cases z2:p.Xn[k].size<1
 ·simp [c_184,Prg.e,Tbl.e,hk,Qf.2 hk,n1,tblE,q1,z0,z1,z2]
 by_cases z3:256<p.Xn[k].size
 ·simp [c_184,Prg.e,Tbl.e,hk,Qf.2 hk,n1,tblE,q1,z0,z1,z2,z3]
 by_cases y1:(qh5 p p.Xn[k]).2=0
 rotate_left
 ·simp [c_184,Prg.e,Tbl.e,hk,Qf.2 hk,n1,tblE,q1,z0,z1,z2,z3,h1,y1]
 rw [y1] at h1;by_cases y2:qjp p p.Xn[k]=0
 ·rw [y2] at h2;simp [c_184,Prg.e,Tbl.e,hk,Qf.2 hk,n1,tblE,q1,z0,z1,z2,z3,h1,y1,h2,y2]
 ·simp [c_184,Prg.e,Tbl.e,hk,Qf.2 hk,n1,tblE,q1,z0,z1,z2,z3,h1,y1,h2,y2]
theorem qz1 (x y:BitVec 32):x&&& ~~~y=0#32↔x&&& y=x:=by
 constructor
 ·intro h;apply BitVec.eq_of_getLsbD_eq;intro i hi;have:=congrArg (·.getLsbD i) h;simp [hi] at this ⊢;exact this
 ·intro h;apply BitVec.eq_of_getLsbD_eq;intro i hi;have:=congrArg (·.getLsbD i) h;simp [hi] at this ⊢;exact this
theorem qalz {n:Int} (h1:0<=n) (h2:n<4294967296):IntKind.wrap .u32 n=n:=by
 have e1:(2:Int)^32=4294967296:=rfl;simp only [IntKind.wrap,IntKind.bits,IntKind.signed,Bool.false_and,e1];rw [QA (by simp)];omega
theorem qw4 {v:Int} (h:ok32 0 v):BitVec.ofInt 32 v=BitVec.ofNat 32 v.toNat:=by
 obtain ⟨h1,h2⟩:=h;apply BitVec.eq_of_toNat_eq;simp;omega
theorem ql9 {v m:Int} (hv:ok32 0 v) (hm:ok32 0 m):qg5 .u32 v m=0↔v.toNat&&& m.toNat=v.toNat:=by
 have hv2:=hv.2;have hm2:=hm.2;unfold qg5;show IntKind.wrap .u32 ((BitVec.ofInt 32 v&&& ~~~BitVec.ofInt 32 m).toNat:Int)=0↔_;have hlt:=(BitVec.ofInt 32 v&&& ~~~BitVec.ofInt 32 m).isLt;rw [qalz (by omega) (by omega)];rw [show (((BitVec.ofInt 32 v&&& ~~~BitVec.ofInt 32 m).toNat:Int)=0)↔(BitVec.ofInt 32 v&&& ~~~BitVec.ofInt 32 m)=0#32 by
  rw [<- BitVec.toNat_inj];simp only [QCb];omega]
 rw [qz1,qw4 hv,qw4 hm,<- BitVec.toNat_inj,BitVec.toNat_and,QCb,QCb,QBx (by omega),QBx (by omega)]
theorem qn6 (p:Prg) (s:Nat) (n:Int):qad Φ f_277 [.agg (Prg.c p),.int .i64 s,.int .i64 n]=some (.val (.bool (qgq p s n))):=by
 rw [qaa (fn:=c_277) rfl rfl];by_cases n1:n= -1
 ·simp [c_277,Prg.e,qgq,n1]
 by_cases n2:n= -2
 ·simp [c_277,Prg.e,qgq,n2]
 by_cases n3:(s:Int)<n
 ·simp [c_277,Prg.e,qgq,n1,n2,n3]
 ·simp [c_277,Prg.e,qgq,n1,n2,n3]
theorem qacp (p:Prg) (s:Nat) (hs:s<p.states.length) (c:Xk) (h1:ok32 0 c.value) (h2:ok32 0 c.mask):qad Φ f_276 [.agg (Prg.c p),.int .i64 s,.agg (Xk.c c)]=some (.val (.int .i64 (qf0 p s p.states[s] c))):=by
 rw [qaa (fn:=c_276) rfl rfl];have hw:=qp4 p p.states[s].on.header p.states[s].on.field;have f1:=qka c.value (wid p p.states[s].on.header p.states[s].on.field);have f2:=qka c.mask (wid p p.states[s].on.header p.states[s].on.field);have hl:=qn6 p s c.next;have ha:=ql9 h1 h2;simp only [Prg.e] at hw hl;cases q1:fits c.value (wid p p.states[s].on.header p.states[s].on.field) with
 | false=>rw [q1] at f1;simp [c_276,Prg.e,Xk.e,Xd.e,hs,hw,f1,qf0,q1]
 | true=>
 rw [q1] at f1;cases q2:fits c.mask (wid p p.states[s].on.header p.states[s].on.field) with
 | false=>rw [q2] at f2;simp [c_276,Prg.e,Xk.e,Xd.e,hs,hw,f1,f2,qf0,q1,q2]
 | true=>
 rw [q2] at f2;by_cases z:qg5 .u32 c.value c.mask=0
 ·have z':=ha.1 z;cases q3:qgq p s c.next with
  | true=>rw [q3] at hl;simp [c_276,Prg.e,Xk.e,Xd.e,hs,hw,f1,f2,hl,qf0,q1,q2,q3,z,z']
  | false=>rw [q3] at hl;simp [c_276,Prg.e,Xk.e,Xd.e,hs,hw,f1,f2,hl,qf0,q1,q2,q3,z,z']
 ·have z':¬(c.value.toNat&&& c.mask.toNat=c.value.toNat):=fun h=>z (ha.2 h)
  simp [c_276,Prg.e,Xk.e,Xd.e,hs,hw,f1,f2,qf0,q1,q2,z,z']
def qi7 (p:Prg) (s:Nat) (x:Xd) (i:Nat):Option (Int×Int):=(x.cases[i]?).bind fun c=>if qf0 p s x c=0 then none else some ((i:Int),qf0 p s x c)
def stF (p:Prg) (s:Nat) (x:Xd):Int×Int:=if qgq p s x.dflt then (0,0) else (-1,14)
def stK (p:Prg) (s:Nat) (x:Xd):Int×Int:=
 if x.select=true/\wid p x.on.header x.on.field=0 then (-1,8)
 else if x.select=false/\0<x.cases.length then (-1,11)
 else (fe (qi7 p s x) x.cases.length 0).getD (stF p s x)
theorem qalk (p:Prg) (s:Nat) (x:Xd):stE p s x=if 4<x.extract.length\/8<x.cases.length then (-1,12)
  else if x.extract.any (fun h=>decide (h<0) || decide ((p.Xp.length:Int)<=h)) then (-1,8) else stK p s x:=by
 unfold stE stK;show (if _ then _ else if _ then _ else if _ then _ else if _ then _ else (match fe (qi7 p s x) x.cases.length 0 with | some e=>e | none=>stF p s x))=_;cases fe (qi7 p s x) x.cases.length 0<;>rfl
theorem qaln (p:Prg) (s:Nat) (hs:s<p.states.length) (hv:∀c∈p.states[s].cases,ok32 0 c.value/\ok32 0 c.mask) (hl:p.states[s].cases.length<2^40) (e:Env) (n:Nat)
  (h1:look 1 e=some (.int .i64 s)) (h2:look 2 e=some (.iptr 9 [Prg.c p] 0 0)) (h6:look 6 e=some (.iptr 7 [Xd.c p.states[s]] 0 0)):
  go Φ (finP [.tmp 4,.tmp 5]) [.c c_233_k3] .normal ⟨e,⟨[],n⟩⟩=some (.val (.tup [.int .i64 (stK p s p.states[s]).1,.int .i64 (stK p s p.states[s]).2])):=by
 have hw:=qp4 p p.states[s].on.header p.states[s].on.field;simp only [Prg.e] at hw;rw [Prg.e] at h2;rw [Xd.e] at h6;cases q:p.states[s].select with
 | true=>
  rw [q] at h6;by_cases z:wid p p.states[s].on.header p.states[s].on.field=0
  ·rw [z] at hw;simp [c_233_k3,h2,h6,hw,stK,q,z]
  rw [show stK p s p.states[s]=(fe (qi7 p s p.states[s]) p.states[s].cases.length 0).getD (stF p s p.states[s]) by simp [stK,q,z]];simp [c_233_k3,h2,h6,hw,z];refine qa4 p.states[s].cases.length (fun _=>[]) 0 (fun i e=>look 1 e=some (.int .i64 s)/\look 2 e=some (.iptr 9 [Prg.c p] 0 0)/\look 6 e=some (.iptr 7 [Xd.c p.states[s]] 0 0)/\look 65 e=some (.slice 3 (p.states[s].cases.map Xk.c))/\look 66 e=some (.int .i64 p.states[s].cases.length)/\look 67 e=some (.int .i64 i))
   (fun i=>some (Rt.val (.tup [.int .i64 ((fe (qi7 p s p.states[s]) p.states[s].cases.length i).getD (stF p s p.states[s])).1,.int .i64 ((fe (qi7 p s p.states[s]) p.states[s].cases.length i).getD (stF p s p.states[s])).2]))) ?_ ?_ 0 _ _ (Qc _) (Qc _) ?_
  ·rintro i e n L hi hL _ ⟨h1,h2,h6,h65,h66,h67⟩ ih;have hw:=qal i (by omega);have hc:=hv _ (Qd hi);have hE:=qacp p s hs p.states[s].cases[i] hc.1 hc.2;simp only [Prg.e,Xk.e] at hE;rw [Prg.e] at h2;by_cases y:qf0 p s p.states[s] p.states[s].cases[i]=0
   ·rw [y] at hE;rw [qbm hi (by simp [qi7,hi,y])];simp [c_233_l1,Xk.e,h1,h2,h65,h66,h67,hi,hE,hw];exact ih _ _ (Qc _) ⟨by simp [h1],by simp [h2,Prg.e],by simp [h6],by simp [h65],by simp [h66],by simp⟩
   ·rw [qax (x:=((i:Int),qf0 p s p.states[s] p.states[s].cases[i])) hi (by simp [qi7,hi,y])];simp [c_233_l1,Xk.e,h1,h2,h65,h66,h67,hi,hE,y]
  ·rintro e n L hL _ ⟨h1,h2,h6,h65,h66,h67⟩;rw [qcc];have hd:=qn6 p s p.states[s].dflt;simp only [Prg.e] at hd;rw [Prg.e] at h2;rw [Xd.e] at h6;cases y:qgq p s p.states[s].dflt with
   | true=>rw [y] at hd;simp [c_233_l1,c_233_k2,h1,h2,h6,h66,h67,hL,hd,stF,y]
   | false=>rw [y] at hd;simp [c_233_l1,c_233_k2,h1,h2,h6,h66,h67,hL,hd,stF,y]
  ·simp [h1,h2,h6,Prg.e,Xd.e,q]
 | false=>
  rw [q] at h6;by_cases z:0<p.states[s].cases.length
  ·simp [c_233_k3,h6,stK,q,z]
  have z0:p.states[s].cases.length=0:=by omega
  rw [show stK p s p.states[s]=stF p s p.states[s] by simp [stK,q,z0,qcc]];simp [c_233_k3,h6,z0];rw [qar];have hd:=qn6 p s p.states[s].dflt;simp only [Prg.e] at hd;cases y:qgq p s p.states[s].dflt with
  | true=>rw [y] at hd;simp [c_233_l1,c_233_k2,h1,h2,h6,hd,stF,y]
  | false=>rw [y] at hd;simp [c_233_l1,c_233_k2,h1,h2,h6,hd,stF,y]
theorem qall (p:Prg) (f:PrgS p) (s:Nat) (hs:s<p.states.length):qad Φ f_233 [.agg (Prg.c p),.int .i64 s]=some (.val (.tup [.int .i64 (stE p s p.states[s]).1,.int .i64 (stE p s p.states[s]).2])):=by
 rw [qaa (fn:=c_233) rfl rfl,qalk];by_cases z0:4<p.states[s].extract.length
 ·simp [c_233,Prg.e,Xd.e,hs,z0]
 by_cases z1:8<p.states[s].cases.length
 ·simp [c_233,Prg.e,Xd.e,hs,z0,z1]
 rw [QA (by omega)];generalize hX:(if p.states[s].extract.any (fun h=>decide (h<0) || decide ((p.Xp.length:Int)<=h))=true then ((-1:Int),(8:Int)) else stK p s p.states[s])=X;simp [c_233,Prg.e,Xd.e,hs,z0,z1];refine (qn9 p.states[s].extract (fun h=>decide (h<0) || decide ((p.Xp.length:Int)<=h)) (some (Rt.val (.tup [.int .i64 (-1),.int .i64 8]))) (some (Rt.val (.tup [.int .i64 (stK p s p.states[s]).1,.int .i64 (stK p s p.states[s]).2])))
  (fun i e H=>look 1 e=some (.int .i64 s)/\look 2 e=some (.iptr 9 [Prg.c p] 0 0)/\look 6 e=some (.iptr 7 [Xd.c p.states[s]] 0 0)/\look 28 e=some (.slice 1 (p.states[s].extract.map cI))/\look 29 e=some (.int .i64 p.states[s].extract.length)/\look 30 e=some (.int .i64 i)/\∃n,H=⟨[],n⟩) ?_ ?_ ?_ _ _ ?_).trans ?_
 ·rintro i e _ L hi hL ⟨h1,h2,h6,h28,h29,h30,n,rfl⟩ hb;rw [Prg.e] at h2;simp only [QBr,decide_eq_true_eq] at hb;by_cases y0:p.states[s].extract[i]<0
  ·simp [c_233_l0,cI,h28,h29,h30,hi,y0]
  ·have y1:(p.Xp.length:Int)<=p.states[s].extract[i]:=by omega
   simp [c_233_l0,cI,h2,h28,h29,h30,hi,y0,y1]
 ·rintro i e _ L X hi hL ⟨h1,h2,h6,h28,h29,h30,n,rfl⟩ hb ih;have hw:=qal i (by omega);rw [Prg.e] at h2;simp only [QBk,decide_eq_false_iff_not] at hb;simp [c_233_l0,cI,h2,h28,h29,h30,hi,hb,hw];exact ih _ _ ⟨by simp [h1],by simp [h2,Prg.e],by simp [h6],by simp [h28],by simp [h29],by simp,n,rfl⟩
 ·rintro e _ L hL ⟨h1,h2,h6,h28,h29,h30,n,rfl⟩;simp [c_233_l0,h29,h30,hL];refine qaln p s hs (fun c hc=>f.sv _ (Qd hs) c hc) (f.sc _ (Qd hs)) _ _ ?_ ?_ ?_
  ·simp [h1]
  ·simp [h2]
  ·simp [h6]
 ·simp [Prg.e,Xd.e]
 ·rw [<- hX];cases p.states[s].extract.any (fun h=>decide (h<0) || decide ((p.Xp.length:Int)<=h))<;>rfl
theorem qfb {α β:Type} [BEq β] [LawfulBEq β] [DecidableEq β] (f:α->β) (a:β):∀l:List α,(l.map f).contains a=l.any fun y=>decide (f y=a)
 | []=>by simp
 | x::l=>by
  have ih:=qfb f a l;simp only [QBj,List.contains_cons,QCj,ih];congr 1;by_cases h:a=f x
  ·subst h;simp
  ·have h2:¬f x=a:=fun e=>h e.symm
   simp [h,h2]
def parG (p:Prg) (s:Nat):Option (Int×Int×Int):=(p.states[s]?).bind fun x=>if idS x.name=false then some ((s:Int),(-1:Int),(6:Int)) else if dupN Xd.name p.states s x then some ((s:Int),-1,7)
  else if (stE p s x).2=0 then none else some ((s:Int),(stE p s x).1,(stE p s x).2)
def tup3 (x:Int×Int×Int):Rt:= .val (.tup [.int .i64 x.1,.int .i64 x.2.1,.int .i64 x.2.2])
theorem qag5 (p:Prg) (f:PrgS p):qad Φ f_185 [.agg (Prg.c p)]=some (tup3 (parE p)):=by
 rw [qaa (fn:=c_185) rfl rfl];by_cases z0:p.states.length=0
 ·simp [c_185,Prg.e,z0,parE,tup3]
 by_cases z1:12<p.states.length
 ·simp [c_185,Prg.e,z0,z1,parE,tup3]
 have hE:parE p=(fe (parG p) p.states.length 0).getD (0,0,0):=by unfold parE;rw [QA z0,QA z1];rfl
 rw [hE];simp [c_185,Prg.e,z0,z1];refine qa4 p.states.length (fun i=>[(0,.map (setS ((p.states.map (·.name)).take i)))]) 1 (fun i e=>look 1 e=some (.iptr 9 [Prg.c p] 0 0)/\look 5 e=some (.map 0)/\look 22 e=some (.slice 7 (p.states.map Xd.c))/\look 23 e=some (.int .i64 p.states.length)/\look 24 e=some (.int .i64 i))
  (fun i=>some (tup3 ((fe (parG p) p.states.length i).getD (0,0,0)))) ?_ ?_ 0 _ 1 (Qc _) (Qb _) ?_
 ·rintro i e n L hi hL hn ⟨h1,h5,h22,h23,h24⟩ ih;have hw:=qal i (by omega);have hn0:¬(0=n):=by omega
  have hn1:¬(n=0):=by omega
  have nf:=qec p.states[i].name (f.sn _ (Qd hi));have hs:=qall p f i hi;simp only [Prg.e] at hs;rw [Prg.e] at h1;cases q1:idS p.states[i].name with
  | false=>
   rw [q1] at nf;rw [qax (x:=((i:Int),-1,6)) hi (by simp [parG,hi,q1])];simp [c_185_l0,Xd.e,h22,h23,h24,hi,hn0,nf,tup3]
  | true=>
  rw [q1] at nf;have hd:((p.states.map (·.name)).take i).contains p.states[i].name=dupN Xd.name p.states i p.states[i]:=by
   rw [<- QBa,qfb];rfl
  have hfnd:=qr1 p.states[i].name ((p.states.map (·.name)).take i);rw [hd] at hfnd;cases q2:dupN Xd.name p.states i p.states[i] with
  | true=>
   rw [q2] at hfnd;rw [qax (x:=((i:Int),-1,7)) hi (by simp [parG,hi,q1,q2])];simp [c_185_l0,Xd.e,h5,h22,h23,h24,hi,hn0,nf,hfnd,tup3]
  | false=>
   rw [q2] at hfnd hd;have hput:=qu5 p.states[i].name ((p.states.map (·.name)).take i) hd;rw [show (p.states.map (·.name)).take i++[p.states[i].name]=(p.states.map (·.name)).take (i+1) from (qa5 hi).symm] at hput;by_cases y:(stE p i p.states[i]).2=0
   ·rw [y] at hs;rw [qbm hi (by simp [parG,hi,q1,q2,y])];simp [c_185_l0,Xd.e,h1,h5,h22,h23,h24,hi,hn0,nf,hfnd,hput,hs,hw];exact ih _ _ (by omega) ⟨by simp [h1,Prg.e],by simp [h5],by simp [h22],by simp [h23],by simp⟩
   ·rw [qax (x:=((i:Int),(stE p i p.states[i]).1,(stE p i p.states[i]).2)) hi (by simp [parG,hi,q1,q2,y])];simp [c_185_l0,Xd.e,h1,h5,h22,h23,h24,hi,hn0,nf,hfnd,hput,hs,y,tup3]
 ·rintro e n L hL hn ⟨h1,h5,h22,h23,h24⟩;rw [qcc];simp [c_185_l0,c_185_k1,h23,h24,hL,tup3]
 ·simp [Prg.e]
theorem qaa3 (l:List Int) (x:Int) (hl:l.length<2^40):qad Φ f_279 [.slice 1 (l.map cI),.int .i64 x]=some (.val (.int .i64 (ix (fun s=>decide (x=s)) l 0))):=by
 rw [qaa (fn:=c_279) rfl rfl];simp [c_279];refine (qcj l.length (fun i e=>look 0 e=some (.slice 1 (l.map cI))/\look 1 e=some (.int .i64 x)/\look 7 e=some (.int .i64 l.length)/\look 8 e=some (.int .i64 i))
  (fun i=>some (.val (.int .i64 (ix (fun s=>decide (x=s)) l i)))) ?_ ?_ 0 _ (Qc _) ?_).trans (by simp)
 ·rintro i e L hi hL ⟨h0,h1,h7,h8⟩ ih;have hw:=qal i (by omega);by_cases z:x=l[i]
  ·rw [qke hi (by simpa using z)];simp [c_279_l0,cI,h0,h1,h7,h8,hi,<- z]
  ·rw [qik hi (by simpa using z)];simp [c_279_l0,cI,h0,h1,h7,h8,hi,z,hw];exact ih _ ⟨by simp [h0],by simp [h1],by simp [h7],by simp⟩
 ·rintro e L hL ⟨h0,h1,h7,h8⟩;rw [qkd];simp [c_279_l0,c_279_k1,h7,h8,hL]
 ·simp
theorem qtk (l:List Int) (x:Int) (hl:l.length<2^40):qad Φ f_240 [.slice 1 (l.map cI),.int .i64 x]=some (.val (.bool (l.contains x))):=by
 rw [qaa (fn:=c_240) rfl rfl];have h:=qaa3 l x hl;have e:=qma (p:=fun s=>decide (x=s)) (l:=l);have e2:l.contains x=l.any fun s=>decide (x=s):=by
  have:=qfb (fun y:Int=>y) x l;rw [List.map_id'] at this;rw [this];congr 1;funext y;simp [eq_comm]
 simp [c_240,h];have e3:=e.trans e2.symm;simpa using e3
def depG (p:Prg) (i:Nat):Option (Int×Int):=(p.Xs[i]?).bind fun h=>if h<0\/(p.Xp.length:Int)<=h then some ((i:Int),(8:Int)) else if (p.Xs.take i).contains h then some ((i:Int),7) else none
theorem qafq (p:Prg) (f:PrgS p):qad Φ f_187 [.agg (Prg.c p)]=some (.val (.tup [.int .i64 (depE p).1,.int .i64 (depE p).2])):=by
 rw [qaa (fn:=c_187) rfl rfl];by_cases z1:8<p.Xs.length
 ·simp [c_187,Prg.e,z1,depE]
 have hE:depE p=(fe (depG p) p.Xs.length 0).getD (0,0):=by unfold depE;rw [QA z1];rfl
 rw [hE];simp [c_187,Prg.e,z1];refine qcj p.Xs.length (fun i e=>look 1 e=some (.iptr 9 [Prg.c p] 0 0)/\look 11 e=some (.slice 1 (p.Xs.map cI))/\look 12 e=some (.int .i64 p.Xs.length)/\look 13 e=some (.int .i64 i))
  (fun i=>some (Rt.val (.tup [.int .i64 ((fe (depG p) p.Xs.length i).getD (0,0)).1,.int .i64 ((fe (depG p) p.Xs.length i).getD (0,0)).2]))) ?_ ?_ 0 _ (Qc _) ?_
 ·rintro i e L hi hL ⟨h1,h11,h12,h13⟩ ih;have hw:=qal i (by omega);have hi':i<=p.Xs.length:=by omega
  rw [Prg.e] at h1;by_cases y0:p.Xs[i]<0
  ·rw [qax (x:=((i:Int),8)) hi (by simp [depG,hi,y0])];simp [c_187_l0,cI,h11,h12,h13,hi,y0]
  by_cases y1:(p.Xp.length:Int)<=p.Xs[i]
  ·rw [qax (x:=((i:Int),8)) hi (by simp [depG,hi,y0,y1])];simp [c_187_l0,cI,h1,h11,h12,h13,hi,y0,y1]
  have hc:=qtk (p.Xs.take i) p.Xs[i] (by simp;omega);rw [QBa] at hc;cases q:(p.Xs.take i).contains p.Xs[i] with
  | true=>
   rw [q] at hc;rw [qax (x:=((i:Int),7)) hi (by simp only [depG,Qa hi,QAs];rw [QA (by omega),q];rfl)];simp [c_187_l0,cI,h1,h11,h12,h13,hi,hi',y0,y1,hc]
  | false=>
   rw [q] at hc;rw [qbm hi (by simp only [depG,Qa hi,QAs];rw [QA (by omega),q];rfl)];simp [c_187_l0,cI,h1,h11,h12,h13,hi,hi',y0,y1,hc,hw];exact ih _ ⟨by simp [h1,Prg.e],by simp [h11],by simp [h12],by simp⟩
 ·rintro e L hL ⟨h1,h11,h12,h13⟩;rw [qcc];simp [c_187_l0,c_187_k1,h12,h13,hL]
 ·simp [Prg.e]
@[simp] theorem Xa.kind_mk (k t:Int) (c:List Xe) (a b:List Xa):(Xa.mk k t c a b).kind=k:=by simp [Xa.kind]
@[simp] theorem Xa.table_mk (k t:Int) (c:List Xe) (a b:List Xa):(Xa.mk k t c a b).table=t:=by simp [Xa.table]
@[simp] theorem Xa.cond_mk (k t:Int) (c:List Xe) (a b:List Xa):(Xa.mk k t c a b).cond=c:=by simp [Xa.cond]
@[simp] theorem Xa.thn_mk (k t:Int) (c:List Xe) (a b:List Xa):(Xa.mk k t c a b).thn=a:=by simp [Xa.thn]
@[simp] theorem Xa.els_mk (k t:Int) (c:List Xe) (a b:List Xa):(Xa.mk k t c a b).els=b:=by simp [Xa.els]
theorem qxq (k t:Int) (c:List Xe) (a b:List Xa):qad Φ f_239 [.agg (Xa.c (.mk k t c a b))]=some (.val (.bool (appl (.mk k t c a b)))):=by
 rw [qaa (fn:=c_239) rfl rfl];by_cases k1:k=1
 ·simp [c_239,Xa.e,appl,k1]
 ·simp [c_239,Xa.e,appl,k1]
def qda (p:Prg) (us:List Int) (x:Xa):Int:=
 if x.kind=2 then (if (exE p [] x.cond).2=0 then (if (exE p [] x.cond).1=1 then 0 else 10) else (exE p [] x.cond).2)
 else if x.kind=1\/x.kind=3 then (if x.table<0\/(p.Xn.length:Int)<=x.table then 8
  else if us.contains x.table then 7
  else if x.kind=1/\0<x.thn.length+x.els.length then 5 else 0)
 else 11
def qm8 (us:List Int) (x:Xa):Int:=if us.contains x.table then 7 else if x.kind=1/\0<x.thn.length+x.els.length then 5 else 0
theorem qadm {p:Prg} (k t:Int) (c:List Xe) (a b:List Xa) (us:List Int) (ha:a.length<2^40) (hb:b.length<2^40) (hu:us.length<2^40) (e:Env)
  (h4:look 4 e=some (.iptr 5 [Xa.c (.mk k t c a b)] 0 0)) (h27:look 27 e=some (.slice 1 (us.map cI))) (h28:look 28 e=some (.int .i64 us.length)) (h29:look 29 e=some (.int .i64 0)):
  go Φ (finP [.tmp 6]) [.c (.loop c_238_l0),.b 1,.c c_238_k1,.b 0,.c c_238_k2] .normal ⟨e,⟨[],0⟩⟩=some (.val (.int .i64 (qm8 us (.mk k t c a b)))):=by
 have hc:=qfb (fun y:Int=>y) t us;rw [List.map_id'] at hc;refine (qn9 us (fun y=>decide (y=t)) (some (Rt.val (.int .i64 7))) (some (Rt.val (.int .i64 (if k=1/\0<a.length+b.length then 5 else 0))))
  (fun i e H=>look 4 e=some (.iptr 5 [Xa.c (.mk k t c a b)] 0 0)/\look 27 e=some (.slice 1 (us.map cI))/\look 28 e=some (.int .i64 us.length)/\look 29 e=some (.int .i64 i)/\H=⟨[],0⟩) ?_ ?_ ?_ _ _ ⟨h4,h27,h28,h29,rfl⟩).trans ?_
 ·rintro i e _ L hi hL ⟨h4,h27,h28,h29,rfl⟩ hb;simp only [decide_eq_true_eq] at hb;rw [Xa.e] at h4;simp [c_238_l0,cI,h4,h27,h28,h29,hi,hb]
 ·rintro i e _ L X hi hL ⟨h4,h27,h28,h29,rfl⟩ hb ih;have hw:=qal i (by omega);simp only [decide_eq_false_iff_not] at hb;rw [Xa.e] at h4;simp [c_238_l0,cI,h4,h27,h28,h29,hi,hb,hw];exact ih _ _ ⟨by simp [h4,Xa.e],by simp [h27],by simp [h28],by simp,rfl⟩
 ·rintro e _ L hL ⟨h4,h27,h28,h29,rfl⟩;rw [Xa.e] at h4;have hw:IntKind.wrap .i64 ((a.length:Int)+b.length)=(a.length:Int)+b.length:=qbb (by omega) (by omega);by_cases k1:k=1
  ·by_cases z:0<a.length+b.length
   ·have z':(0:Int)<(a.length:Int)+b.length:=by omega
    simp [c_238_l0,c_238_k1,c_238_k2,h4,h28,h29,hL,hw,k1,z,z']
   ·have z':¬(0:Int)<(a.length:Int)+b.length:=by omega
    have za:a.length=0:=by omega
    have zb:b.length=0:=by omega
    simp [c_238_l0,c_238_k1,c_238_k2,h4,h28,h29,hL,k1,za,zb];rw [show IntKind.wrap .i64 0=0 by decide];simp [Qg za,Qg zb]
  ·simp [c_238_l0,c_238_k1,c_238_k2,h4,h28,h29,hL,k1]
 ·unfold qm8;simp only [Xa.table_mk,Xa.kind_mk,Xa.thn_mk,Xa.els_mk,hc];cases us.any (fun y=>decide (y=t))<;>rfl
theorem qadl (p:Prg) (k t:Int) (c:List Xe) (a b:List Xa) (us:List Int) (ha:a.length<2^40) (hb:b.length<2^40) (hu:us.length<2^40):
  qad Φ f_238 [.agg (Prg.c p),.agg (Xa.c (.mk k t c a b)),.slice 1 (us.map cI)]=some (.val (.int .i64 (qda p us (.mk k t c a b)))):=by
 rw [qaa (fn:=c_238) rfl rfl];have hV:=qadm (p:=p) k t c a b us ha hb hu;simp only [Xa.e] at hV;by_cases k1:k=1
 ·by_cases t0:t<0
  ·simp [c_238,c_238_k2,Xa.e,Prg.e,qda,k1,t0]
  by_cases t1:(p.Xn.length:Int)<=t
  ·simp [c_238,c_238_k2,Xa.e,Prg.e,qda,k1,t0,t1]
  have e:qda p us (.mk k t c a b)=qm8 us (.mk k t c a b):=by simp [qda,qm8,k1,t0,t1]
  rw [e];simp [c_238,Xa.e,Prg.e,k1,t0,t1];rw [hV]
  all_goals simp [k1]
 by_cases k3:k=3
 ·by_cases t0:t<0
  ·simp [c_238,c_238_k2,Xa.e,Prg.e,qda,k3,t0]
  by_cases t1:(p.Xn.length:Int)<=t
  ·simp [c_238,c_238_k2,Xa.e,Prg.e,qda,k3,t0,t1]
  have e:qda p us (.mk k t c a b)=qm8 us (.mk k t c a b):=by simp [qda,qm8,k3,t0,t1]
  rw [e];simp [c_238,Xa.e,Prg.e,k3,t0,t1];rw [hV]
  all_goals simp [k3]
 by_cases k2:k=2
 ·have hx:=qty p [] c;simp only [qas,QBl] at hx;by_cases z:(exE p [] c).2=0
  ·rw [z] at hx;by_cases y:(exE p [] c).1=1
   ·rw [y] at hx;simp [c_238,c_238_k2,Xa.e,Prg.e,qda,k2,hx,z,y]
   ·simp [c_238,c_238_k2,Xa.e,Prg.e,qda,k2,hx,z,y]
  ·simp [c_238,c_238_k2,Xa.e,Prg.e,qda,k2,hx,z]
 ·simp [c_238,c_238_k2,Xa.e,Prg.e,qda,k1,k2,k3]
end Go.Av
