/-
 Expressions: the reference's answers.
-/
import Derived.Test.YtjdbnnnakpacjaaGreatK16
set_option linter.unusedVariables false
set_option linter.unusedSimpArgs false
set_option linter.constructorNameAsVariable false
namespace Go.Av
set_option maxRecDepth 4000
theorem qnb (p:Prg) (h i:Int):qab Φ f_280 [.agg (Prg.c p),.agg [.int .i64 h,.int .i64 i]]=some (.val (match decl p h i with
  | some w=> .tup [.int .i64 w,.bool true]
  | none=> .tup [.int .i64 0,.bool false])):=by
 rw [qaa (fn:=c_280) rfl rfl,qmo];by_cases hm:h= -1
 ·subst hm;by_cases i0:i<0
  ·rw [show qa0 p (-1) i=none by simp [qa0,qbu i0]];simp [c_280,Prg.e,i0]
  by_cases i1:(p.Xo.length:Int)<=i
  ·rw [show qa0 p (-1) i=none by simp [qa0,qbt i1]];simp [c_280,Prg.e,i0,i1]
  obtain ⟨k,rfl⟩:∃k:Nat,i=k:=⟨i.toNat,by omega⟩;have hk:k<p.Xo.length:=by omega
  rw [show qa0 p (-1) k=some p.Xo[k] by simp [qa0,hk]];simp [c_280,Prg.e,i0,i1,hk,Fld.e]
 by_cases h0:h<0
 ·rw [show qa0 p h i=none by simp [qa0,hm,qbu h0]];simp [c_280,Prg.e,hm,h0]
 by_cases h1:(p.Xp.length:Int)<=h
 ·rw [show qa0 p h i=none by simp [qa0,hm,qbt h1]];simp [c_280,Prg.e,hm,h0,h1]
 obtain ⟨m,rfl⟩:∃k:Nat,h=k:=⟨h.toNat,by omega⟩;have hk:m<p.Xp.length:=by omega
 by_cases i0:i<0
 ·rw [show qa0 p m i=none by simp [qa0,hm,hk,qbu i0]];simp [c_280,Prg.e,hm,hk,Qf.2 hk,i0,Xj.e]
 by_cases i1:(p.Xp[m].fields.length:Int)<=i
 ·rw [show qa0 p m i=none by simp [qa0,hm,hk,qbt i1]];simp [c_280,Prg.e,hm,hk,Qf.2 hk,i0,i1,Xj.e]
 obtain ⟨k,rfl⟩:∃k:Nat,i=k:=⟨i.toNat,by omega⟩;have hk2:k<p.Xp[m].fields.length:=by omega
 rw [show qa0 p m k=some p.Xp[m].fields[k] by simp [qa0,hm,hk,hk2]];simp [c_280,Prg.e,hm,hk,Qf.2 hk,hk2,Qf.2 hk2,Xj.e,Fld.e]
theorem qk7 (w:Int):qab Φ f_322 [.int .i64 w]=some (.val (.tup [.int .i64 (wide w).1,.int .i64 (wide w).2])):=by
 rw [qaa (fn:=c_322) rfl rfl];by_cases h1:w<1
 ·simp [c_322,wide,wBad,h1]
 by_cases h2:32<w
 ·simp [c_322,wide,wBad,h1,h2]
 simp [c_322,wide,wBad,h1,h2]
theorem qul (w:Int):qab Φ f_319 [.int .i64 w]=some (.val (.int .u32 (qbh w))):=by
 rw [qaa (fn:=c_319) rfl rfl];have h1:=qjn w;cases q:wBad w with
 | true=>
  rw [q] at h1;simp [c_319,h1,qbh,q]
 | false=>
  rw [q] at h1;obtain ⟨w1,w2⟩:=wBad_false.1 q;obtain ⟨k,rfl⟩:∃k:Nat,w=k:=⟨w.toNat,by omega⟩;have h2:=qk1 k (by omega);have hb:(2:Int)^k<=2^32:=by
   have:=QBo (n:=2) (by omega) (show k<=32 by omega)
   exact_mod_cast this
  have h0:(0:Int)<2^k:=by
   have:=Nat.pow_pos (a:=2) (n:=k) (by omega)
   exact_mod_cast this
  have c1:IntKind.wrap .u64 ((2:Int)^k - 1)=2^k - 1:=qm7 (by omega) (by omega);have c2:IntKind.wrap .u32 ((2:Int)^k - 1)=2^k - 1:=qu7 (by omega) (by omega);simp [c_319,h1,h2,c1,c2,qbh,q]
theorem qaf7 (p:Prg) (ps:List Fld) (x:Xe):qab Φ f_314 [.agg (Xe.c x),.agg (scC p ps)]=some (.val (.tup [.int .i64 (prim p ps x).1,.int .i64 (prim p ps x).2])):=by
 rw [qaa (fn:=c_314) rfl rfl];by_cases o1:x.op=1
 ·have hw:=qk7 x.w;have hm:=qul x.w;have hmw:=qo8 x.w;cases q:wBad x.w with
  | true=>
   simp [wide,q] at hw;simp [c_314,qag,Xe.e,o1,prim,hw,q]
  | false=>
   simp [wide,q] at hw;by_cases n0:x.n<0
   ·simp [c_314,qag,Xe.e,o1,prim,hw,q,n0]
   have e:qbh x.w=2^x.w.toNat - 1:=by simp [qbh,q]
   rw [e] at hm hmw;by_cases n1:2^x.w.toNat - 1<x.n
   ·simp [c_314,qag,Xe.e,o1,prim,hw,hm,hmw,q,n0,n1]
   ·simp [c_314,qag,Xe.e,o1,prim,hw,hm,hmw,q,n0,n1]
 by_cases o2:x.op=2
 ·have hf:=qnb p x.n x.w;simp only [Prg.e] at hf;cases q:decl p x.n x.w with
  | none=>
   rw [q] at hf;simp [c_314,qag,Xe.e,o2,prim,hf,q]
  | some w=>
   rw [q] at hf;have hw:=qk7 w;simp [c_314,qag,Xe.e,o2,prim,hf,hw,q]
 by_cases o3:x.op=3
 ·by_cases n0:x.n<0
  ·simp [c_314,qag,Xe.e,o3,prim,n0,qbu n0]
  by_cases n1:(ps.length:Int)<=x.n
  ·simp [c_314,qag,Xe.e,o3,prim,n0,n1,qbt n1]
  obtain ⟨k,hk⟩:∃k:Nat,x.n=k:=⟨x.n.toNat,by omega⟩;have hk2:k<ps.length:=by omega
  have hw:=qk7 ps[k].width;simp [c_314,qag,Xe.e,Fld.e,o3,prim,hk,hk2,Qf.2 hk2,hw]
 by_cases n0:x.n<0
 ·simp [c_314,qag,Xe.e,o1,o2,o3,prim,n0,qbu n0]
 by_cases n1:(p.Xp.length:Int)<=x.n
 ·simp [c_314,qag,Xe.e,o1,o2,o3,prim,n0,n1,qbt n1]
 obtain ⟨k,hk⟩:∃k:Nat,x.n=k:=⟨x.n.toNat,by omega⟩;have hk2:k<p.Xp.length:=by omega
 simp [c_314,qag,Xe.e,o1,o2,o3,prim,hk,hk2,Qf.2 hk2]
theorem qaau (op:Int):qab Φ f_313 [.int .i64 op]=some (.val (.int .i64 (ari op))):=by
 rw [qaa (fn:=c_313) rfl rfl];rcases (show op<1\/(1<=op/\op<=4)\/(5<=op/\op<=8)\/(9<=op/\op<=16)\/op=17\/17<op by omega) with h | h | h | h | h | h
 ·have e:ari op= -1:=by unfold ari;rw [QA (by omega),QA (by omega),QA (by omega),QA (by omega)]
  rw [e];simp [c_313,show ¬1<=op by omega,show ¬5<=op by omega,show ¬9<=op by omega,show ¬op=17 by omega]
 ·simp [c_313,ari,h]
 ·simp [c_313,ari,h,show 1<=op by omega,show ¬op<=4 by omega]
 ·simp [c_313,ari,h,show 1<=op by omega,show ¬op<=4 by omega,show 5<=op by omega,show ¬op<=8 by omega]
 ·subst h;simp [c_313,ari]
 ·have e:ari op= -1:=by unfold ari;rw [QA (by omega),QA (by omega),QA (by omega),QA (by omega)]
  rw [e];simp [c_313,show 1<=op by omega,show ¬op<=4 by omega,show 5<=op by omega,show ¬op<=8 by omega,show 9<=op by omega,show ¬op<=16 by omega,show ¬op=17 by omega]
theorem ari_1 {op:Int} (h:ari op=1):op=5\/op=6\/op=7\/op=8:=by
 unfold ari at h;split at h
 ·omega
 split at h
 ·omega
 split at h
 ·omega
 split at h<;>omega
theorem ari_2 {op:Int} (h:ari op=2):9<=op/\op<=16:=by
 unfold ari at h;split at h
 ·omega
 split at h
 ·omega
 split at h
 ·omega
 split at h<;>omega
theorem ari_3 {op:Int} (h:ari op=3):op=17:=by
 unfold ari at h;split at h
 ·omega
 split at h
 ·omega
 split at h
 ·omega
 split at h<;>omega
theorem qt2 (x:Xe) (a:Int) (ha:0<=a/\a<=32) (hx:ari x.op=1):qab Φ f_315 [.agg (Xe.c x),.slice 1 [[.int .i64 a]]]=some (.val (.tup [.int .i64 (comb x a 0 0).1,.int .i64 (comb x a 0 0).2])):=by
 rw [qaa (fn:=c_315) rfl rfl];rcases ari_1 hx with o | o | o | o
 ·simp [c_315,Xe.e,o,comb,ari]
 ·by_cases n0:x.n<0
  ·simp [c_315,Xe.e,o,comb,n0]
  by_cases n1:31<x.n
  ·simp [c_315,Xe.e,o,comb,n0,n1]
  simp [c_315,Xe.e,o,comb,n0,n1]
 ·by_cases n0:x.n<0
  ·simp [c_315,Xe.e,o,comb,n0]
  by_cases n1:31<x.n
  ·simp [c_315,Xe.e,o,comb,n0,n1]
  simp [c_315,Xe.e,o,comb,n0,n1]
 ·by_cases n0:x.n<0
  ·simp [c_315,Xe.e,o,comb,n0]
  by_cases w1:x.w<1
  ·simp [c_315,Xe.e,o,comb,n0,wBad,w1]
  by_cases w2:32<x.w
  ·simp [c_315,Xe.e,o,comb,n0,wBad,w1,w2]
  have hs:IntKind.wrap .i64 (a - x.w)=a - x.w:=qa6 (by omega) (by omega);by_cases n1:a - x.w<x.n
  ·simp [c_315,Xe.e,o,comb,n0,wBad,w1,w2,hs,n1]
  ·simp [c_315,Xe.e,o,comb,n0,wBad,w1,w2,hs,n1]
theorem qt3 (x:Xe) (a b:Int) (ha:0<=a/\a<=32) (hb:0<=b/\b<=32) (hx:ari x.op=2):qab Φ f_315 [.agg (Xe.c x),.slice 1 [[.int .i64 a],[.int .i64 b]]]=some (.val (.tup [.int .i64 (comb x a b 0).1,.int .i64 (comb x a b 0).2])):=by
 rw [qaa (fn:=c_315) rfl rfl];have hr:=ari_2 hx;have o5:¬x.op=5:=by omega
 have o6:¬x.op=6:=by omega
 have o7:¬x.op=7:=by omega
 have o8:¬x.op=8:=by omega
 have o17:¬x.op=17:=by omega
 have hab:IntKind.wrap .i64 (a+b)=a+b:=qa6 (by omega) (by omega);have hw2:=qk7 (a+b);by_cases o14:x.op=14
 ·simp [c_315,Xe.e,o14,comb,hab,hw2]
 by_cases ab:a=b
 ·by_cases o15:x.op=15
  ·simp [c_315,Xe.e,o15,comb,ab]
  by_cases o16:x.op=16
  ·simp [c_315,Xe.e,o16,comb,ab]
  simp [c_315,Xe.e,o5,o6,o7,o8,o14,o15,o16,o17,comb,hx,ab]
 ·simp [c_315,Xe.e,o5,o6,o7,o8,o14,o17,comb,hx,ab]
theorem qt4 (x:Xe) (a b c:Int) (hx:ari x.op=3):qab Φ f_315 [.agg (Xe.c x),.slice 1 [[.int .i64 a],[.int .i64 b],[.int .i64 c]]]=some (.val (.tup [.int .i64 (comb x a b c).1,.int .i64 (comb x a b c).2])):=by
 rw [qaa (fn:=c_315) rfl rfl];have o:=ari_3 hx;by_cases a1:a=1
 ·by_cases bc:b=c
  ·simp [c_315,Xe.e,o,comb,a1,bc]
  ·simp [c_315,Xe.e,o,comb,a1,bc]
 ·simp [c_315,Xe.e,o,comb,a1]
theorem qia (p:Prg) (ps:List Fld) (l:List Xe) (hl:l.length<2^40):∀n i,l.length - i<n->i<=l.length->chkR (chk p ps l n i) (qab Φ f_302 [.slice 3 (l.map Xe.c),.int .i64 (i:Nat),.agg (scC p ps)])
 | 0,i,h,hle=>by omega
 | n+1,i,h,hle=>by
  rw [qaa (fn:=c_302) rfl rfl];by_cases hi:i<l.length
  rotate_left
  ·have:i=l.length:=by omega
   subst this;simp [chk,chkR,c_302,qag]
  have ih1:=qia p ps l hl n (i+1) (by omega) (by omega);have hA:=qaau l[i].op;have hP:=qaf7 p ps l[i];have hw:IntKind.wrap .i64 ((i:Int)+1)=(i:Int)+1:=qa6 (by omega) (by omega);have e1:((i+1:Nat):Int)=(i:Int)+1:=by omega
  rw [e1] at ih1;simp only [qag,Xe.e] at ih1 hP;simp only [chk,Qa hi];rcases qqx l[i].op with k | k | k | k | k
  ·rw [k] at hA;simp [chkR,c_302,qag,Xe.e,hi,Qf.2 hi,hA,k]
  ·rw [k] at hA;by_cases z:(prim p ps l[i]).2=0
   ·rw [z] at hP;simp [chkR,c_302,qag,Xe.e,hi,Qf.2 hi,hA,k,hP,z,hw]
   ·simp [chkR,c_302,qag,Xe.e,hi,Qf.2 hi,hA,k,hP,z,hw]
  ·rw [k] at hA;simp [c_302,qag,Xe.e,hi,Qf.2 hi,hA,k,hw];rw [qap];cases h1:chk p ps l n (i+1) with
   | error e=>
    rw [h1] at ih1;obtain ⟨he,a,b,hc⟩:=ih1;simp [c_302_l0,chkR,hc,he]
   | ok q=>
    obtain ⟨a,i1⟩:=q;rw [h1] at ih1;obtain ⟨ra,r1,r2⟩:=qc1 h1;have hC:=qt2 l[i] a (by omega) k;simp only [Xe.e] at hC;simp only [chkR] at ih1;simp [c_302_l0,ih1];rw [qap];simp [wr1,c_302_k1,hi,Xe.e,hC];exact qg8 _ _ _
  ·rw [k] at hA;simp [c_302,qag,Xe.e,hi,Qf.2 hi,hA,k,hw];rw [qap];cases h1:chk p ps l n (i+1) with
   | error e=>
    rw [h1] at ih1;obtain ⟨he,a,b,hc⟩:=ih1;simp [c_302_l0,chkR,hc,he]
   | ok q=>
    obtain ⟨a,i1⟩:=q;rw [h1] at ih1;obtain ⟨ra,r1,r2⟩:=qc1 h1;simp only [chkR] at ih1;simp [c_302_l0,ih1];rw [qap];have ih2:=qia p ps l hl n i1 (by omega) (by omega);simp only [qag] at ih2;cases h2:chk p ps l n i1 with
    | error e=>
     rw [h2] at ih2;obtain ⟨he,x,y,hc⟩:=ih2;simp [chkR,hc,he,wr1]
    | ok q=>
     obtain ⟨b,i2⟩:=q;rw [h2] at ih2;obtain ⟨rb,s1,s2⟩:=qc1 h2;simp only [chkR] at ih2;have hC:=qt3 l[i] a b (by omega) (by omega) k;simp only [Xe.e] at hC;simp [ih2,wr1];rw [qap];simp [wr2,c_302_k1,hi,Xe.e,hC];exact qg8 _ _ _
  ·rw [k] at hA;simp [c_302,qag,Xe.e,hi,Qf.2 hi,hA,k,hw];rw [qap];cases h1:chk p ps l n (i+1) with
   | error e=>
    rw [h1] at ih1;obtain ⟨he,a,b,hc⟩:=ih1;simp [c_302_l0,chkR,hc,he]
   | ok q=>
    obtain ⟨a,i1⟩:=q;rw [h1] at ih1;obtain ⟨ra,r1,r2⟩:=qc1 h1;simp only [chkR] at ih1;simp [c_302_l0,ih1];rw [qap];have ih2:=qia p ps l hl n i1 (by omega) (by omega);simp only [qag] at ih2;cases h2:chk p ps l n i1 with
    | error e=>
     rw [h2] at ih2;obtain ⟨he,x,y,hc⟩:=ih2;simp [chkR,hc,he,wr1]
    | ok q=>
     obtain ⟨b,i2⟩:=q;rw [h2] at ih2;obtain ⟨rb,s1,s2⟩:=qc1 h2;simp only [chkR] at ih2;simp [ih2,wr1];rw [qap];have ih3:=qia p ps l hl n i2 (by omega) (by omega);simp only [qag] at ih3;cases h3:chk p ps l n i2 with
     | error e=>
      rw [h3] at ih3;obtain ⟨he,x,y,hc⟩:=ih3;simp [chkR,hc,he,wr2]
     | ok q=>
      obtain ⟨c,i3⟩:=q;rw [h3] at ih3;simp only [chkR] at ih3;have hC:=qt4 l[i] a b c k;simp only [Xe.e] at hC;simp [ih3,wr2];rw [qap];simp [wr3,c_302_k1,hi,Xe.e,hC];exact qg8 _ _ _
theorem qqn (p:Prg) (ps:List Fld) (l:List Xe):qab Φ f_282 [.slice 3 (l.map Xe.c),.agg (scC p ps)]=some (.val (.tup [.int .i64 (exE p ps l).1,.int .i64 (exE p ps l).2])):=by
 rw [qaa (fn:=c_282) rfl rfl];by_cases h:24<l.length
 ·simp [c_282,qag,h,exE]
 have hc:=qia p ps l (by omega) (l.length+1) 0 (by omega) (by omega);simp only [qag,Int.ofNat_zero] at hc;cases q:chk p ps l (l.length+1) 0 with
 | error e=>
  rw [q] at hc;obtain ⟨he,a,b,hc⟩:=hc;simp [c_282,qag,h,exE,q,hc,he]
 | ok r=>
  obtain ⟨w,j⟩:=r;rw [q] at hc;simp only [chkR] at hc;by_cases hj:j<l.length
  ·simp [c_282,qag,h,exE,q,hc,hj]
  ·simp [c_282,qag,h,exE,q,hc,hj]
theorem qadt (p:Prg) (ps:List Fld) (l:List Xe) (w:Int):qab Φ f_281 [.slice 3 (l.map Xe.c),.agg (scC p ps),.int .i64 w]=some (.val (.int .i64 (valE p ps l w))):=by
 rw [qaa (fn:=c_281) rfl rfl];have h:=qqn p ps l;simp only [qag] at h;by_cases z:(exE p ps l).2=0
 ·rw [z] at h;by_cases y:(exE p ps l).1=w
  ·simp [c_281,qag,h,valE,z,y]
  ·simp [c_281,qag,h,valE,z,y]
 ·simp [c_281,qag,h,valE,z]
theorem qadq (p:Prg) (ps:List Fld) (s:Xg):qab Φ f_245 [.agg (Prg.c p),.agg (Xg.c s),.agg (scC p ps)]=some (.val (.int .i64 (stmE p ps s))):=by
 rw [qaa (fn:=c_245) rfl rfl];have hd:=qnb p s.dst.header s.dst.field;have hi:=qqn p ps s.index;simp only [Prg.e] at hd;simp only [qag] at hi;have hr:(s.register<0/\at? p.Xm s.register=none)\/(¬s.register<0/\(p.Xm.length:Int)<=s.register/\at? p.Xm s.register=none)\/∃k:Nat,∃h:k<p.Xm.length,s.register=k/\at? p.Xm s.register=some p.Xm[k]:=by
  by_cases h0:s.register<0
  ·exact .inl ⟨h0,qbu h0⟩
  by_cases h1:(p.Xm.length:Int)<=s.register
  ·exact .inr (.inl ⟨h0,h1,qbt h1⟩)
  obtain ⟨k,hk⟩:∃k:Nat,s.register=k:=⟨s.register.toNat,by omega⟩;exact .inr (.inr ⟨k,by omega,hk,by rw [hk];simp⟩)
 have hx:∀w,qab Φ f_281 [.slice 3 (s.value.map Xe.c),.agg (scC p ps),.int .i64 w]=some (.val (.int .i64 (valE p ps s.value w))):=qadt p ps s.value;simp only [qag] at hx;have hd':qab Φ f_280 [.agg [.str p.name,.slice 2 (p.Xp.map Xj.c),.slice 2 (p.Xo.map Fld.c),.slice 3 (p.Xm.map Xh.c),.slice 3 (p.actions.map Action.c),.slice 6 (p.Xn.map Tbl.c),.slice 7 (p.states.map Xd.c),.slice 5 (p.control.map Xa.c),.slice 1 (p.Xs.map cI)],.agg [.int .i64 s.dst.header,.int .i64 s.dst.field]]=
   some (.val (.tup [.int .i64 ((decl p s.dst.header s.dst.field).getD 0),.bool (decl p s.dst.header s.dst.field).isSome])):=by
  rw [hd];cases decl p s.dst.header s.dst.field<;>rfl
 clear hd;by_cases k1:s.kind=1
 ·rcases hr with ⟨r0,rn⟩ | ⟨r0,r1,rn⟩ | ⟨m,hm,rk,rn⟩<;>cases qd:decl p s.dst.header s.dst.field<;>rw [qd] at hd'
  ·simp [c_245,Prg.e,qag,Xg.e,hd',stmE,qd,k1,QBb.2 r0]
  ·simp [c_245,Prg.e,qag,Xg.e,hd',stmE,qd,k1,QBb.2 r0,hx]
  ·simp [c_245,Prg.e,qag,Xg.e,hd',stmE,qd,k1,QAo.1 r0,QAo.2 r1]
  ·simp [c_245,Prg.e,qag,Xg.e,hd',stmE,qd,k1,QAo.1 r0,QAo.2 r1,hx]
  ·simp [c_245,Prg.e,qag,Xg.e,hd',stmE,qd,k1,rk,hm]
  ·simp [c_245,Prg.e,qag,Xg.e,hd',stmE,qd,k1,rk,hm,hx]
 by_cases k2:s.kind=2
 ·have e:stmE p ps s=if (at? p.Xp s.header).isSome then 0 else 8:=by simp [stmE,k2]
  rw [e,qi9];by_cases h0:s.header<0<;>by_cases h1:(p.Xp.length:Int)<=s.header<;>rcases hr with ⟨r0,rn⟩ | ⟨r0,r1,rn⟩ | ⟨m,hm,rk,rn⟩
  all_goals first
   | simp [c_245,Prg.e,qag,Xg.e,hd',k2,QBb.2 r0,h0,h1]
   | simp [c_245,Prg.e,qag,Xg.e,hd',k2,QAo.1 r0,QAo.2 r1,h0,h1]
   | simp [c_245,Prg.e,qag,Xg.e,hd',k2,rk,hm,h0,h1]
 by_cases k3:s.kind=3
 ·have e:stmE p ps s=if (at? p.Xp s.header).isSome then 0 else 8:=by simp [stmE,k3]
  rw [e,qi9];by_cases h0:s.header<0<;>by_cases h1:(p.Xp.length:Int)<=s.header<;>rcases hr with ⟨r0,rn⟩ | ⟨r0,r1,rn⟩ | ⟨m,hm,rk,rn⟩
  all_goals first
   | simp [c_245,Prg.e,qag,Xg.e,hd',k3,QBb.2 r0,h0,h1]
   | simp [c_245,Prg.e,qag,Xg.e,hd',k3,QAo.1 r0,QAo.2 r1,h0,h1]
   | simp [c_245,Prg.e,qag,Xg.e,hd',k3,rk,hm,h0,h1]
 by_cases k4:s.kind=4
 ·cases qd:decl p s.dst.header s.dst.field with
  | none=>
   rw [qd] at hd';rcases hr with ⟨r0,rn⟩ | ⟨r0,r1,rn⟩ | ⟨m,hm,rk,rn⟩
   ·simp [c_245,Prg.e,qag,Xg.e,hd',stmE,k4,QBb.2 r0,rn,qd]
   ·simp [c_245,Prg.e,qag,Xg.e,hd',stmE,k4,QAo.1 r0,QAo.2 r1,rn,qd]
   ·rw [rk] at rn;simp [c_245,Prg.e,qag,Xg.e,hd',stmE,k4,rk,hm,rn,qd]
  | some w=>
   rw [qd] at hd';rcases hr with ⟨r0,rn⟩ | ⟨r0,r1,rn⟩ | ⟨m,hm,rk,rn⟩
   ·simp [c_245,Prg.e,qag,Xg.e,hd',stmE,k4,QBb.2 r0,rn,qd]
   ·simp [c_245,Prg.e,qag,Xg.e,hd',stmE,k4,QAo.1 r0,QAo.2 r1,rn,qd]
   ·rw [rk] at rn;by_cases z:(exE p ps s.index).2=0
    ·rw [z] at hi;by_cases y:w=p.Xm[m].width
     ·simp [c_245,Prg.e,qag,Xg.e,Xh.e,hd',stmE,k4,rk,hm,rn,qd,hi,z,y]
     ·simp [c_245,Prg.e,qag,Xg.e,Xh.e,hd',stmE,k4,rk,hm,rn,qd,hi,z,y]
    ·simp [c_245,Prg.e,qag,Xg.e,hd',stmE,k4,rk,hm,rn,qd,hi,z]
 by_cases k5:s.kind=5
 ·rcases hr with ⟨r0,rn⟩ | ⟨r0,r1,rn⟩ | ⟨m,hm,rk,rn⟩
  ·simp [c_245,Prg.e,qag,Xg.e,hd',stmE,k5,QBb.2 r0,rn]
  ·simp [c_245,Prg.e,qag,Xg.e,hd',stmE,k5,QAo.1 r0,QAo.2 r1,rn]
  ·rw [rk] at rn;by_cases z:(exE p ps s.index).2=0
   ·rw [z] at hi;simp [c_245,Prg.e,qag,Xg.e,Xh.e,hd',stmE,k5,rk,hm,rn,hi,z,hx]
   ·simp [c_245,Prg.e,qag,Xg.e,hd',stmE,k5,rk,hm,rn,hi,z]
 rcases hr with ⟨r0,rn⟩ | ⟨r0,r1,rn⟩ | ⟨m,hm,rk,rn⟩
 ·simp [c_245,Prg.e,qag,Xg.e,hd',stmE,k1,k2,k3,k4,k5,QBb.2 r0]
 ·simp [c_245,Prg.e,qag,Xg.e,hd',stmE,k1,k2,k3,k4,k5,QAo.1 r0,QAo.2 r1]
 ·simp [c_245,Prg.e,qag,Xg.e,hd',stmE,k1,k2,k3,k4,k5,rk,hm]
theorem qaam (l:List Fld) (hl:l.length<2^40) (hf:∀f∈l,f.name.length<2^40):qab Φ f_244 [.slice 2 (l.map Fld.c)]=some (.val (.int .i64 (errO (qkr l)))):=by
 rw [qaa (fn:=c_244) rfl rfl,show qkr l=fe (actG l) l.length 0 from rfl];simp [c_244];refine qay l.length (fun i e=>look 0 e=some (.slice 2 (l.map Fld.c))/\look 3 e=some (.int .i64 i))
  (fun i=>some (Rt.val (.int .i64 (errO (fe (actG l) l.length i))))) ?_ ?_ 0 _ (Qc _) ?_
 ·rintro i e L hi hL ⟨h0,h3⟩ ih;have hw:=qaf i (by omega);have nf:=qeh l[i].name (hf _ (Qd hi));cases p1:idS l[i].name with
  | false=>
   rw [p1] at nf;rw [qal (x:=6) hi (by simp [actG,hi,fldE,p1,er])];simp [c_244_l2,Fld.e,h0,h3,hi,nf]
  | true=>
  rw [p1] at nf;by_cases w1:l[i].width<1
  ·rw [qal (x:=10) hi (by simp [actG,hi,fldE,p1,wBad,w1,er])];simp [c_244_l2,Fld.e,h0,h3,hi,nf,w1]
  by_cases w2:32<l[i].width
  ·rw [qal (x:=10) hi (by simp [actG,hi,fldE,p1,wBad,w2,er])];simp [c_244_l2,Fld.e,h0,h3,hi,nf,w1,w2]
  generalize hX:some (Rt.val (AV.int .i64 (errO (fe (actG l) l.length i))))=X;simp [c_244_l2,Fld.e,h0,h3,hi,nf,w1,w2];refine (qdt (l.take i) (fun g=>decide (g.name=l[i].name)) (some (Rt.val (.int .i64 7))) (some (Rt.val (.int .i64 (errO (fe (actG l) l.length (i+1))))))
   (fun k e H=>look 0 e=some (.slice 2 (l.map Fld.c))/\look 3 e=some (.int .i64 i)/\look 4 e=some (.int .i64 k)/\H=⟨[],0⟩/\(0<k->qcg (l.take i) (fun g=>decide (g.name=l[i].name)) 0=qcg (l.take i) (fun g=>decide (g.name=l[i].name)) k)) ?_ ?_ ?_ _ _ ?_).trans ?_
  ·rintro k e _ L' hk hL' ⟨h0,h3,h4,rfl,_⟩ hb;simp only [QAd] at hk;have hk1:k<i:=by omega
   have hk2:k<l.length:=by omega
   simp only [QAk,decide_eq_true_eq] at hb;simp [c_244_l0,Fld.e,h0,h3,h4,hk1,hk2,hi,hb]
  ·rintro k e _ L' X hk hL' ⟨h0,h3,h4,rfl,hy⟩ hb ih';have hb':=hb;have hk0:=hk;simp only [QAd] at hk;have hk1:k<i:=by omega
   have hk2:k<l.length:=by omega
   simp only [QAk,decide_eq_false_iff_not] at hb;have hw':=qaf k (by omega);simp [c_244_l0,Fld.e,h0,h3,h4,hk1,hk2,hi,hb,hw'];refine ih' _ _ ⟨by simp [h0],by simp [h3],by simp,rfl,fun _=>?_⟩;rcases Qw k with rfl | hp
   ·exact qey hk0 hb'
   ·rw [hy hp];exact qey hk0 hb'
  ·rintro e _ L' hL' ⟨h0,h3,h4,rfl,hy⟩;have hm:min i l.length=i:=by omega
   simp [hm] at h4;simp [c_244_l0,c_244_k1,h3,h4,hL',hw];exact ih _ ⟨by simp [h0],by simp⟩
  ·simp [h0,h3]
  ·rw [<- hX];cases p3:dupN Fld.name l i l[i] with
   | true=>
    rw [qal (x:=7) hi (by simp [actG,hi,fldE,p1,wBad,w1,w2,p3,er])];unfold dupN at p3;rw [p3];rfl
   | false=>
    rw [qar hi (by simp [actG,hi,fldE,p1,wBad,w1,w2,p3])];unfold dupN at p3;rw [p3];rfl
 ·rintro e L hL ⟨h0,h3⟩;rw [qa4];simp [c_244_l2,c_244_k3,h0,h3,hL]
 ·simp
theorem qadu (p:Prg) (k:Nat) (hk:k<p.actions.length):qab Φ f_246 [.agg (Prg.c p),.int .i64 k]=some (.val (.agg (scC p p.actions[k].params))):=by
 rw [qaa (fn:=c_246) rfl rfl];simp [c_246,Prg.e,qag,Action.e,hk]
theorem qac4 (p:Prg) (f:PrgS p) (i:Int):qab Φ f_201 [.agg (Prg.c p),.int .i64 i]=some (.val (.tup [.int .i64 (actE p i).1,.int .i64 (actE p i).2])):=by
 rw [qaa (fn:=c_201) rfl rfl];by_cases i0:i<0
 ·simp [c_201,Prg.e,i0,actE,qbu i0]
 by_cases i1:(p.actions.length:Int)<=i
 ·simp [c_201,Prg.e,i0,i1,actE,qbt i1]
 obtain ⟨k,rfl⟩:∃k:Nat,i=k:=⟨i.toNat,by omega⟩;have hk:k<p.actions.length:=by omega
 have hm:=Qd hk;have n1:=qeh p.actions[k].name (f.an _ hm);have n2:=qaam p.actions[k].params (f.ap _ hm) (f.apn _ hm);cases q1:idS p.actions[k].name with
 | false=>rw [q1] at n1;simp [c_201,Prg.e,Action.e,hk,Qf.2 hk,n1,actE,actD,q1]
 | true=>
 rw [q1] at n1;by_cases z0:4<p.actions[k].params.length
 ·simp [c_201,Prg.e,Action.e,hk,Qf.2 hk,n1,actE,actD,q1,z0]
 by_cases z1:12<p.actions[k].body.length
 ·simp [c_201,Prg.e,Action.e,hk,Qf.2 hk,n1,actE,actD,q1,z0,z1]
 by_cases z2:errO (qkr p.actions[k].params)=0
 rotate_left
 ·simp [c_201,Prg.e,Action.e,hk,Qf.2 hk,n1,n2,actE,actD,q1,z0,z1,z2]
 rw [z2] at n2;have hE:actE p k=(fe (qho p p.actions[k]) p.actions[k].body.length 0).getD (0,0):=by simp [actE,actD,hk,q1,z0,z1,z2]<;>rfl
 rw [hE];simp [c_201,Prg.e,Action.e,hk,Qf.2 hk,n1,n2,z0,z1];have hb:=f.ab _ hm;refine qau p.actions[k].body.length (fun _=>[]) 0 (fun i e=>look 1 e=some (.int .i64 k)/\look 2 e=some (.iptr 9 [Prg.c p] 0 0)/\look 6 e=some (.iptr 3 [Action.c p.actions[k]] 0 0)/\look 7 e=some (.int .i64 i))
  (fun i=>some (Rt.val (.tup [.int .i64 ((fe (qho p p.actions[k]) p.actions[k].body.length i).getD (0,0)).1,.int .i64 ((fe (qho p p.actions[k]) p.actions[k].body.length i).getD (0,0)).2]))) ?_ ?_ 0 _ _ (Qc _) (Qc _) ?_
 ·rintro i e n L hi hL _ ⟨h1,h2,h6,h7⟩ ih;have hw:=qaf i (by omega);have hs:=qadq p p.actions[k].params p.actions[k].body[i];have hsc:=qadu p k hk;simp only [Xg.e,qag,Prg.e] at hs hsc;rw [Prg.e] at h2;rw [Action.e] at h6;by_cases y:stmE p p.actions[k].params p.actions[k].body[i]=0
  ·rw [y] at hs;rw [qar hi (by simp [qho,hi,y])];simp [c_201_l0,Xg.e,h1,h2,h6,h7,hi,hs,hsc,hw];exact ih _ _ (Qc _) ⟨by simp [h1],by simp [h2,Prg.e],by simp [h6,Action.e],by simp⟩
  ·rw [qal (x:=((i:Int),stmE p p.actions[k].params p.actions[k].body[i])) hi (by simp [qho,hi,y])];simp [c_201_l0,Xg.e,h1,h2,h6,h7,hi,hs,hsc,y]
 ·rintro e n L hL _ ⟨h1,h2,h6,h7⟩;rw [qa4];rw [Action.e] at h6;simp [c_201_l0,c_201_k1,h6,h7,hL]
 ·simp [Prg.e,Action.e]
theorem ql7 (p:Prg) (f:PrgS p) (c:Xb) (hc:c.args.length<2^40) (hv:∀v∈c.args,ok32 0 v):qab Φ f_285 [.agg (Prg.c p),.agg (Xb.c c)]=some (.val (.int .i64 (qd5 p c))):=by
 rw [qaa (fn:=c_285) rfl rfl];by_cases i0:c.action<0
 ·simp [c_285,Prg.e,Xb.e,i0,qd5,qbu i0]
 by_cases i1:(p.actions.length:Int)<=c.action
 ·simp [c_285,Prg.e,Xb.e,i0,i1,qd5,qbt i1]
 obtain ⟨k,hk0⟩:∃k:Nat,c.action=k:=⟨c.action.toNat,by omega⟩;have hk:k<p.actions.length:=by omega
 by_cases z:c.args.length=p.actions[k].params.length
 rotate_left
 ·simp [c_285,Prg.e,Xb.e,Action.e,hk0,hk,Qf.2 hk,qd5,z]
 have hE:qd5 p c=errO (fe (qjb c.args p.actions[k].params) c.args.length 0):=by simp [qd5,hk0,hk,z]<;>rfl
 rw [hE];simp [c_285,Prg.e,Xb.e,Action.e,hk0,hk,Qf.2 hk,z];rw [<- z];refine qay c.args.length (fun i e=>look 3 e=some (.iptr 2 [Xb.c c] 0 0)/\look 5 e=some (.slice 2 (p.actions[k].params.map Fld.c))/\look 6 e=some (.int .i64 i))
  (fun i=>some (Rt.val (.int .i64 (errO (fe (qjb c.args p.actions[k].params) c.args.length i))))) ?_ ?_ 0 _ (Qc _) ?_
 ·rintro i e L hi hL ⟨h3,h5,h6⟩ ih;have hw:=qaf i (by omega);have hi2:i<p.actions[k].params.length:=by omega
  have hf:=qn6 c.args[i] p.actions[k].params[i].width (hv _ (Qd hi));rw [Xb.e] at h3;cases y:fits c.args[i] p.actions[k].params[i].width with
  | true=>
   rw [y] at hf;rw [qar hi (by simp [qjb,hi,hi2,y])];simp [c_285_l0,Fld.e,c32,h3,h5,h6,hi,hi2,hf,hw];exact ih _ ⟨by simp [h3,Xb.e],by simp [h5],by simp⟩
  | false=>
   rw [y] at hf;rw [qal (x:=9) hi (by simp [qjb,hi,hi2,y])];simp [c_285_l0,Fld.e,c32,h3,h5,h6,hi,hi2,hf]
 ·rintro e L hL ⟨h3,h5,h6⟩;rw [qa4];simp [c_285_l0,c_285_k1,h5,h6,hL,<- z]
 ·simp [Xb.e,hk0]
theorem qmd (l:List Int) (x:Int) (hl:l.length<2^40):qab Φ f_284 [.slice 1 (l.map cI),.int .i64 x]=some (.val (.int .i64 (ix (fun s=>decide (s=x)) l 0))):=by
 rw [qaa (fn:=c_284) rfl rfl];simp [c_284];refine (qay l.length (fun i e=>look 0 e=some (.slice 1 (l.map cI))/\look 1 e=some (.int .i64 x)/\look 5 e=some (.int .i64 i))
  (fun i=>some (.val (.int .i64 (ix (fun s=>decide (s=x)) l i)))) ?_ ?_ 0 _ (Qc _) ?_).trans (by simp)
 ·rintro i e L hi hL ⟨h0,h1,h5⟩ ih;have hw:=qaf i (by omega);by_cases z:l[i]=x
  ·rw [qgv hi (by simpa using z)];simp [c_284_l0,cI,h0,h1,h5,hi,z]
  ·rw [qfu hi (by simpa using z)];simp [c_284_l0,cI,h0,h1,h5,hi,z,hw];exact ih _ ⟨by simp [h0],by simp [h1],by simp⟩
 ·rintro e L hL ⟨h0,h1,h5⟩;rw [qgu];simp [c_284_l0,c_284_k1,h0,h5,hL]
 ·simp
theorem qaa0 (p:Prg) (x:Tbl) (hl:x.keys.length<2^40):qab Φ f_247 [.agg (Prg.c p),.agg (Tbl.c x)]=some (.val (.tup [.int .i64 (qfa p x).1,.int .i64 (qfa p x).2])):=by
 rw [qaa (fn:=c_247) rfl rfl];have hE:qfa p x=(fe (keyG p x) x.keys.length 0).getD (qfb p x):=by
  unfold qfa keyE;show (match fe (keyG p x) x.keys.length 0 with | some e=>e | none=>qfb p x)=_;cases fe (keyG p x) x.keys.length 0<;>rfl
 rw [hE];simp [c_247,Prg.e,Tbl.e];refine qay x.keys.length (fun i e=>look 2 e=some (.iptr 9 [Prg.c p] 0 0)/\look 3 e=some (.iptr 6 [Tbl.c x] 0 0)/\look 7 e=some (.int .i64 ((x.keys.take i).countP fun k=>decide (k.kind=2):Nat))/\look 6 e=some (.int .i64 ((kWid p x).take i).sum)/\look 8 e=some (.int .i64 i))
  (fun i=>some (Rt.val (.tup [.int .i64 ((fe (keyG p x) x.keys.length i).getD (qfb p x)).1,.int .i64 ((fe (keyG p x) x.keys.length i).getD (qfb p x)).2]))) ?_ ?_ 0 _ (Qc _) ?_
 ·rintro i e L hi hL ⟨h2,h3,h7,h6,h8⟩ ih;have hw:=qaf i (by omega);have hv:=qrq p x.keys[i].field.header x.keys[i].field.field;simp only [Prg.e] at hv;rw [Prg.e] at h2;rw [Tbl.e] at h3;by_cases z:wid p x.keys[i].field.header x.keys[i].field.field=0
  ·rw [z] at hv;rw [qal (x:=((i:Int),8)) hi (by simp [keyG,hi,z])];simp [c_247_l0,Xl.e,h2,h3,h8,hi,hv]
  have hs:=qig p x (i+1) (by omega);have hs0:=qig p x i (by omega);have he:((kWid p x).take (i+1)).sum=((kWid p x).take i).sum+wid p x.keys[i].field.header x.keys[i].field.field:=by
   have hl:i<(kWid p x).length:=by simp [kWid];omega
   rw [Qh hl,QCi,QC];congr 1;simp [kWid]
  have hw7:IntKind.wrap .i64 (((kWid p x).take i).sum+wid p x.keys[i].field.header x.keys[i].field.field)=((kWid p x).take (i+1)).sum:=by rw [<- he];exact qa6 (by omega) (by omega)
  have hc:(x.keys.take (i+1)).countP (fun k=>decide (k.kind=2))=(x.keys.take i).countP (fun k=>decide (k.kind=2))+if x.keys[i].kind=2 then 1 else 0:=by
   rw [Qh hi,List.countP_append];congr 1;simp [List.countP_cons]
  have hcl:(x.keys.take i).countP (fun k=>decide (k.kind=2))<=i:=by
   have:=List.countP_le_length (l:=x.keys.take i) (p:=fun k=>decide (k.kind=2));simp at this;omega
  have hw6:IntKind.wrap .i64 (((x.keys.take i).countP (fun k=>decide (k.kind=2)):Nat)+1:Int)=(((x.keys.take i).countP (fun k=>decide (k.kind=2))+1:Nat):Int):=qa6 (by omega) (by omega);by_cases k2:x.keys[i].kind=2
  ·rw [qar hi (by simp [keyG,hi,z,k2])];rw [QAa k2] at hc;simp [c_247_l0,Xl.e,h2,h3,h6,h7,h8,hi,hv,z,k2,hw7,hw6,hw];exact ih _ ⟨by simp [h2,Prg.e],by simp [h3,Tbl.e],by simp [hc],by simp,by simp⟩
  rw [QA k2] at hc;by_cases k1:x.keys[i].kind=1
  ·rw [qar hi (by simp [keyG,hi,z,k1])];simp [c_247_l0,Xl.e,h2,h3,h6,h8,hi,hv,z,k1,hw7,hw];exact ih _ ⟨by simp [h2,Prg.e],by simp [h3,Tbl.e],by simp [hc,h7],by simp,by simp⟩
  by_cases k3:x.keys[i].kind=3
  ·rw [qar hi (by simp [keyG,hi,z,k3])];simp [c_247_l0,Xl.e,h2,h3,h6,h8,hi,hv,z,k3,hw7,hw];exact ih _ ⟨by simp [h2,Prg.e],by simp [h3,Tbl.e],by simp [hc,h7],by simp,by simp⟩
  ·rw [qal (x:=((i:Int),11)) hi (by simp [keyG,hi,z,k1,k2,k3])];simp [c_247_l0,Xl.e,h2,h3,h8,hi,hv,z,k1,k2,k3]
 ·rintro e L hL ⟨h2,h3,h7,h6,h8⟩;rw [qa4];have ht:(kWid p x).take x.keys.length=kWid p x:=by rw [Qo];simp [kWid]
  rw [ht] at h6;rw [QAf] at h7;rw [Tbl.e] at h3;by_cases y1:1<x.keys.countP (fun k=>decide (k.kind=2))
  ·simp [c_247_l0,c_247_k1,h3,h7,h8,hL,qfb,y1]
  by_cases y2:64<(kWid p x).sum
  ·simp [c_247_l0,c_247_k1,h3,h6,h7,h8,hL,qfb,y1,y2]
  ·simp [c_247_l0,c_247_k1,h3,h6,h7,h8,hL,qfb,y1,y2]
 ·simp [Prg.e,Tbl.e]
theorem qhq (x:Int) (l:List Int):l.contains x=l.any fun s=>decide (s=x):=by
 have:=qer (fun y:Int=>y) x l;rw [List.map_id'] at this;exact this
theorem qaa6 (p:Prg) (f:PrgS p) (x:Tbl) (hl:x.actions.length<2^40) (hg:x.dflt.args.length<2^40) (hv:∀v∈x.dflt.args,ok32 0 v):qab Φ f_248 [.agg (Prg.c p),.agg (Tbl.c x)]=some (.val (.int .i64 (qhx p x))):=by
 rw [qaa (fn:=c_248) rfl rfl,qu2];simp [c_248,Prg.e,Tbl.e];refine qay x.actions.length (fun i e=>look 2 e=some (.iptr 9 [Prg.c p] 0 0)/\look 3 e=some (.iptr 6 [Tbl.c x] 0 0)/\look 5 e=some (.int .i64 i))
  (fun i=>some (Rt.val (.int .i64 ((fe (qfy p x) x.actions.length i).getD (qf8 p x))))) ?_ ?_ 0 _ (Qc _) ?_
 ·rintro i e L hi hL ⟨h2,h3,h5⟩ ih;have hw:=qaf i (by omega);rw [Prg.e] at h2;rw [Tbl.e] at h3;by_cases z0:x.actions[i]<0
  ·rw [qal (x:=8) hi (by simp [qfy,hi,z0])];simp [c_248_l0,cI,h3,h5,hi,z0]
  by_cases z1:(p.actions.length:Int)<=x.actions[i]
  ·rw [qal (x:=8) hi (by simp [qfy,hi,z0,z1])];simp [c_248_l0,cI,h2,h3,h5,hi,z0,z1]
  have hx:=qmd x.actions x.actions[i] hl;obtain ⟨at',k1,k2⟩:=qtn (q:=fun s:Int=>decide (s=x.actions[i])) hi (by simp) i 0 (by omega);rw [show ix (fun s=>decide (s=x.actions[i])) x.actions 0=(fxO (fun s:Int=>decide (s=x.actions[i])) x.actions 0).getD (-1) from rfl,k1] at hx;rw [qg5,<- qhq] at k2;simp only [QAs] at hx;cases q:(x.actions.take i).contains x.actions[i] with
  | true=>
   rw [q] at k2;have k3:at'<i:=by simpa using k2
   rw [qal (x:=7) hi (by simp only [qfy,Qa hi,QAi];rw [QA (by omega),q];rfl)];simp [c_248_l0,cI,h2,h3,h5,hi,z0,z1,hx,k3]
  | false=>
   rw [q] at k2;have k3:¬at'<i:=by simpa using k2
   rw [qar hi (by simp only [qfy,Qa hi,QAi];rw [QA (by omega),q];rfl)];simp [c_248_l0,cI,h2,h3,h5,hi,z0,z1,hx,k3,hw];exact ih _ ⟨by simp [h2,Prg.e],by simp [h3,Tbl.e],by simp⟩
 ·rintro e L hL ⟨h2,h3,h5⟩;rw [qa4];have hx:=qmd x.actions x.dflt.action hl;have hc:=ql7 p f x.dflt hg hv;have ha:=qi3 (p:=fun s=>decide (s=x.dflt.action)) (l:=x.actions);rw [<- qhq] at ha;simp only [Prg.e,Xb.e] at hc;rw [Prg.e] at h2;rw [Tbl.e] at h3;cases q:x.actions.contains x.dflt.action with
  | true=>
   rw [q] at ha;have ha2:¬ix (fun s=>decide (s=x.dflt.action)) x.actions 0<0:=by simpa using ha
   rw [show qf8 p x=qd5 p x.dflt by simp only [qf8,q];rfl];simp [c_248_l0,c_248_k1,h2,h3,h5,hL,hx,ha2,hc]
  | false=>
   rw [q] at ha;have ha2:ix (fun s=>decide (s=x.dflt.action)) x.actions 0<0:=by simpa using ha
   rw [show qf8 p x=8 by simp only [qf8,q];rfl];simp [c_248_l0,c_248_k1,h3,h5,hL,hx,ha2]
 ·simp [Prg.e,Tbl.e]
theorem qn9 (p:Prg) (f:PrgS p) (hv:∀t∈p.Xn,∀v∈t.dflt.args,ok32 0 v) (t:Int):qab Φ f_202 [.agg (Prg.c p),.int .i64 t]=some (.val (.tup [.int .i64 (tblE p t).1,.int .i64 (tblE p t).2])):=by
 rw [qaa (fn:=c_202) rfl rfl];by_cases i0:t<0
 ·simp [c_202,Prg.e,i0,tblE,qbu i0]
 by_cases i1:(p.Xn.length:Int)<=t
 ·simp [c_202,Prg.e,i0,i1,tblE,qbt i1]
 obtain ⟨k,rfl⟩:∃k:Nat,t=k:=⟨t.toNat,by omega⟩;have hk:k<p.Xn.length:=by omega
 have hm:=Qd hk;have n1:=qeh p.Xn[k].name (f.tn _ hm);have h1:=qaa0 p p.Xn[k] (f.tk _ hm);have h2:=qaa6 p f p.Xn[k] (f.ta _ hm) (f.tg _ hm) (hv _ hm);simp only [Prg.e,Tbl.e] at h1 h2;cases q1:idS p.Xn[k].name with
 | false=>rw [q1] at n1;simp [c_202,Prg.e,Tbl.e,hk,Qf.2 hk,n1,tblE,q1]
 | true=>
 rw [q1] at n1;by_cases z0:6<p.Xn[k].keys.length
 ·simp [c_202,Prg.e,Tbl.e,hk,Qf.2 hk,n1,tblE,q1,z0]
 by_cases z1:16<p.Xn[k].actions.length
 ·simp [c_202,Prg.e,Tbl.e,hk,Qf.2 hk,n1,tblE,q1,z0,z1]
 by_cases z2:p.Xn[k].size<1
 ·simp [c_202,Prg.e,Tbl.e,hk,Qf.2 hk,n1,tblE,q1,z0,z1,z2]
 by_cases z3:256<p.Xn[k].size
 ·simp [c_202,Prg.e,Tbl.e,hk,Qf.2 hk,n1,tblE,q1,z0,z1,z2,z3]
 by_cases y1:(qfa p p.Xn[k]).2=0
 rotate_left
 ·simp [c_202,Prg.e,Tbl.e,hk,Qf.2 hk,n1,tblE,q1,z0,z1,z2,z3,h1,y1]
 rw [y1] at h1;by_cases y2:qhx p p.Xn[k]=0
 ·rw [y2] at h2;simp [c_202,Prg.e,Tbl.e,hk,Qf.2 hk,n1,tblE,q1,z0,z1,z2,z3,h1,y1,h2,y2]
 ·simp [c_202,Prg.e,Tbl.e,hk,Qf.2 hk,n1,tblE,q1,z0,z1,z2,z3,h1,y1,h2,y2]
theorem qrs (p:Prg) (s:Nat) (n:Int):qab Φ f_288 [.agg (Prg.c p),.int .i64 s,.int .i64 n]=some (.val (.bool (qdy p s n))):=by
 rw [qaa (fn:=c_288) rfl rfl];by_cases n1:n= -1
 ·simp [c_288,Prg.e,qdy,n1]
 by_cases n2:n= -2
 ·simp [c_288,Prg.e,qdy,n2]
 by_cases n3:(s:Int)<n
 ·simp [c_288,Prg.e,qdy,n1,n2,n3]
 ·simp [c_288,Prg.e,qdy,n1,n2,n3]
theorem qalm {p:Prg} {h i:Int} (z:wid p h i≠0):wBad (wid p h i)=false:=by
 unfold wid at z ⊢;cases q:decl p h i with
 | none=>rw [q] at z;simp at z
 | some w=>
  rw [q] at z;simp only at z ⊢;cases y:wBad w with
  | true=>rw [y] at z;simp at z
  | false=>simpa using y
theorem qaaw (p:Prg) (s:Nat) (hs:s<p.states.length) (hv:∀c∈p.states[s].cases,ok32 0 c.value/\ok32 0 c.mask) (hl:p.states[s].cases.length<2^40) (hz:p.states[s].cases.length=0\/wid p p.states[s].on.header p.states[s].on.field≠0):
  qab Φ f_287 [.agg (Prg.c p),.int .i64 s]=some (.val (.tup [.int .i64 ((fe (qc6 p s p.states[s]) p.states[s].cases.length 0).getD (-1,0)).1,.int .i64 ((fe (qc6 p s p.states[s]) p.states[s].cases.length 0).getD (-1,0)).2])):=by
 rw [qaa (fn:=c_287) rfl rfl];have hw:=qrp p p.states[s].on.header p.states[s].on.field;simp only [Prg.e] at hw;simp [c_287,Prg.e,Xd.e,hs,hw];refine qau p.states[s].cases.length (fun _=>[]) 0 (fun i e=>look 1 e=some (.int .i64 s)/\look 2 e=some (.iptr 9 [Prg.c p] 0 0)/\look 6 e=some (.iptr 7 [Xd.c p.states[s]] 0 0)/\look 7 e=some (.int .i64 (wid p p.states[s].on.header p.states[s].on.field))/\look 8 e=some (.int .i64 i))
  (fun i=>some (Rt.val (.tup [.int .i64 ((fe (qc6 p s p.states[s]) p.states[s].cases.length i).getD (-1,0)).1,.int .i64 ((fe (qc6 p s p.states[s]) p.states[s].cases.length i).getD (-1,0)).2]))) ?_ ?_ 0 _ _ (Qc _) (Qc _) ?_
 ·rintro i e n L hi hL _ ⟨h1,h2,h6,h7,h8⟩ ih;have hwi:=qaf i (by omega);have hc:=hv _ (Qd hi);have hz':wid p p.states[s].on.header p.states[s].on.field≠0:=by
   rcases hz with hz | hz
   ·omega
   ·exact hz
  have hb:=qalm hz';have hbr:=wBad_false.1 hb;obtain ⟨k,hk⟩:∃k:Nat,wid p p.states[s].on.header p.states[s].on.field=k:=⟨(wid p p.states[s].on.header p.states[s].on.field).toNat,by omega⟩;have f1:=qk3 p.states[s].cases[i].value hc.1 k (by omega);have f2:=qk3 p.states[s].cases[i].mask hc.2 k (by omega);have e1:∀v,fits v (wid p p.states[s].on.header p.states[s].on.field)=decide (v<2^k):=by
   intro v;unfold fits;rw [hb,hk];simp
  have hd:=qrs p s p.states[s].cases[i].next;have ha:=qrb hc.1 hc.2;simp only [Prg.e] at hd;rw [Prg.e] at h2;rw [Xd.e] at h6;rw [hk] at h7;have done:∀z:Int,z≠0->qd6 p s p.states[s] p.states[s].cases[i]=z->fe (qc6 p s p.states[s]) p.states[s].cases.length i=some ((i:Int),z):=by
   intro z z0 z1;exact qal hi (by simp [qc6,hi,z1,z0])
  by_cases y1:p.states[s].cases[i].value<2^k
  rotate_left
  ·rw [done 9 (by decide) (by simp [qd6,e1,y1])];simp [c_287_l0,Xk.e,h6,h7,h8,hi,f1,y1]
  by_cases y2:p.states[s].cases[i].mask<2^k
  rotate_left
  ·rw [done 9 (by decide) (by simp [qd6,e1,y2])];simp [c_287_l0,Xk.e,h6,h7,h8,hi,f1,f2,y1,y2]
  by_cases y3:iand .u32 p.states[s].cases[i].value p.states[s].cases[i].mask=p.states[s].cases[i].value
  rotate_left
  ·have y3':¬(p.states[s].cases[i].value.toNat&&& p.states[s].cases[i].mask.toNat=p.states[s].cases[i].value.toNat):=fun h=>y3 (ha.2 h)
   rw [done 5 (by decide) (by simp [qd6,e1,y1,y2,y3'])];simp [c_287_l0,Xk.e,h6,h7,h8,hi,f1,f2,y1,y2,y3]
  have y3':=ha.1 y3;cases y4:qdy p s p.states[s].cases[i].next with
  | false=>
   rw [y4] at hd;rw [done 14 (by decide) (by simp [qd6,e1,y1,y2,y3',y4])];simp [c_287_l0,Xk.e,h1,h2,h6,h7,h8,hi,f1,f2,y1,y2,y3,hd]
  | true=>
   rw [y4] at hd;rw [qar hi (by simp [qc6,hi,qd6,e1,y1,y2,y3',y4])];simp [c_287_l0,Xk.e,h1,h2,h6,h7,h8,hi,f1,f2,y1,y2,y3,hd,hwi];exact ih _ _ (Qc _) ⟨by simp [h1],by simp [h2,Prg.e],by simp [h6,Xd.e],by simp [h7,hk],by simp⟩
 ·rintro e n L hL _ ⟨h1,h2,h6,h7,h8⟩;rw [qa4];rw [Xd.e] at h6;simp [c_287_l0,c_287_k1,h6,h8,hL]
 ·simp [Prg.e,Xd.e]
theorem qahp (p:Prg) (s:Nat) (hs:s<p.states.length) (hv:∀c∈p.states[s].cases,ok32 0 c.value/\ok32 0 c.mask) (hl:p.states[s].cases.length<2^40) (e:Env) (n:Nat)
  (h1:look 1 e=some (.int .i64 s)) (h2:look 2 e=some (.iptr 9 [Prg.c p] 0 0)) (h6:look 6 e=some (.iptr 7 [Xd.c p.states[s]] 0 0)):
  go Φ (finP [.tmp 4,.tmp 5]) [.c c_249_k2] .normal ⟨e,⟨[],n⟩⟩=some (.val (.tup [.int .i64 (stK p s p.states[s]).1,.int .i64 (stK p s p.states[s]).2])):=by
 have hw:=qrp p p.states[s].on.header p.states[s].on.field;have hd:=qrs p s p.states[s].dflt;simp only [Prg.e] at hw hd;rw [Prg.e] at h2;rw [Xd.e] at h6;have fin:∀(hz:p.states[s].cases.length=0\/wid p p.states[s].on.header p.states[s].on.field≠0),∃a b,qab Φ f_287 [.agg (Prg.c p),.int .i64 s]=some (.val (.tup [.int .i64 a,.int .i64 b]))/\
   ((b=0/\(fe (qc6 p s p.states[s]) p.states[s].cases.length 0).getD (stF p s p.states[s])=stF p s p.states[s])\/(b≠0/\(fe (qc6 p s p.states[s]) p.states[s].cases.length 0).getD (stF p s p.states[s])=(a,b))):=by
  intro hz;have hc:=qaaw p s hs hv hl hz;refine ⟨_,_,hc,?_⟩;cases q:fe (qc6 p s p.states[s]) p.states[s].cases.length 0 with
  | none=>exact .inl ⟨rfl,rfl⟩
  | some x=>
   refine .inr ⟨?_,rfl⟩;intro h0;have:x.2=0:=h0;have key:∀m i x,feF (qc6 p s p.states[s]) m i=some x->x.2≠0:=by
    intro m
    induction m with
    | zero=>intro i x h;simp [feF] at h
    | succ m ih=>
     intro i x h;simp only [feF] at h;cases g:qc6 p s p.states[s] i with
     | none=>rw [g] at h;exact ih _ _ h
     | some y=>
      rw [g] at h;cases h;unfold qc6 at g;cases gi:p.states[s].cases[i]? with
      | none=>rw [gi] at g;simp at g
      | some c=>
       rw [gi] at g;simp only [QAi] at g;split at g
       ·cases g
       ·rename_i hne;cases g;exact hne
   exact key _ _ _ q this
 cases q:p.states[s].select with
 | true=>
  rw [q] at h6;by_cases z:wid p p.states[s].on.header p.states[s].on.field=0
  ·rw [z] at hw;simp [c_249_k2,h2,h6,hw,stK,q,z]
  obtain ⟨a,b,hc,hab⟩:=fin (.inr z);simp only [Prg.e] at hc;rw [show stK p s p.states[s]=(fe (qc6 p s p.states[s]) p.states[s].cases.length 0).getD (stF p s p.states[s]) by simp [stK,q,z]];rcases hab with ⟨b0,e1⟩ | ⟨b0,e1⟩
  ·rw [e1];rw [b0] at hc;cases y:qdy p s p.states[s].dflt with
   | true=>rw [y] at hd;simp [c_249_k2,h1,h2,h6,hw,z,hc,hd,stF,y]
   | false=>rw [y] at hd;simp [c_249_k2,h1,h2,h6,hw,z,hc,hd,stF,y]
  ·rw [e1];simp [c_249_k2,h1,h2,h6,hw,z,hc,b0]
 | false=>
  rw [q] at h6;by_cases z:0<p.states[s].cases.length
  ·simp [c_249_k2,h6,stK,q,z]
  have z0:p.states[s].cases.length=0:=by omega
  obtain ⟨a,b,hc,hab⟩:=fin (.inl z0);simp only [Prg.e] at hc;rw [show stK p s p.states[s]=(fe (qc6 p s p.states[s]) p.states[s].cases.length 0).getD (stF p s p.states[s]) by simp [stK,q,z0]];rcases hab with ⟨b0,e1⟩ | ⟨b0,e1⟩
  ·rw [e1];rw [b0] at hc;cases y:qdy p s p.states[s].dflt with
   | true=>rw [y] at hd;simp [c_249_k2,h1,h2,h6,z0,hc,hd,stF,y]
   | false=>rw [y] at hd;simp [c_249_k2,h1,h2,h6,z0,hc,hd,stF,y]
  ·rw [e1];simp [c_249_k2,h1,h2,h6,z0,hc,b0]
theorem qaho (p:Prg) (f:PrgS p) (s:Nat) (hs:s<p.states.length) (e:Env) (n:Nat)
  (h1:look 1 e=some (.int .i64 s)) (h2:look 2 e=some (.iptr 9 [Prg.c p] 0 0)) (h6:look 6 e=some (.iptr 7 [Xd.c p.states[s]] 0 0)):
  go Φ (finP [.tmp 4,.tmp 5]) [.c c_249_k3] .normal ⟨e,⟨[],n⟩⟩=some (.val (.tup [.int .i64 (stE p s p.states[s]).1,.int .i64 (stE p s p.states[s]).2])):=by
 rw [qabe];have hm:=Qd hs;have hse:=f.se _ hm;rw [Xd.e] at h6;by_cases z0:4<p.states[s].extract.length
 ·simp [c_249_k3,h6,z0]
 by_cases z1:8<p.states[s].cases.length
 ·simp [c_249_k3,h6,z0,z1]
 rw [QA (by omega)];generalize hX:(if p.states[s].extract.any (fun h=>decide (h<0) || decide ((p.Xp.length:Int)<=h))=true then ((-1:Int),(8:Int)) else stK p s p.states[s])=X;simp [c_249_k3,h6,z0,z1];refine (qdt p.states[s].extract (fun h=>decide (h<0) || decide ((p.Xp.length:Int)<=h)) (some (Rt.val (.tup [.int .i64 (-1),.int .i64 8]))) (some (Rt.val (.tup [.int .i64 (stK p s p.states[s]).1,.int .i64 (stK p s p.states[s]).2])))
  (fun i e H=>look 1 e=some (.int .i64 s)/\look 2 e=some (.iptr 9 [Prg.c p] 0 0)/\look 6 e=some (.iptr 7 [Xd.c p.states[s]] 0 0)/\look 8 e=some (.int .i64 i)/\H=⟨[],n⟩) ?_ ?_ ?_ _ _ ?_).trans ?_
 ·rintro i e _ L hi hL ⟨h1,h2,h6,h8,rfl⟩ hb;rw [Prg.e] at h2;rw [Xd.e] at h6;simp only [QBr,decide_eq_true_eq] at hb;by_cases y0:p.states[s].extract[i]<0
  ·simp [c_249_l1,cI,h6,h8,hi,y0]
  ·have y1:(p.Xp.length:Int)<=p.states[s].extract[i]:=by omega
   simp [c_249_l1,cI,h2,h6,h8,hi,y0,y1]
 ·rintro i e _ L X hi hL ⟨h1,h2,h6,h8,rfl⟩ hb ih;have hw:=qaf i (by omega);rw [Prg.e] at h2;rw [Xd.e] at h6;simp only [QB,decide_eq_false_iff_not] at hb;simp [c_249_l1,cI,h2,h6,h8,hi,hb,hw];exact ih _ _ ⟨by simp [h1],by simp [h2,Prg.e],by simp [h6,Xd.e],by simp,rfl⟩
 ·rintro e _ L hL ⟨h1,h2,h6,h8,rfl⟩;rw [Xd.e] at h6;simp [c_249_l1,h6,h8,hL];refine qahp p s hs (fun c hc=>f.sv _ hm c hc) (f.sc _ hm) _ _ ?_ ?_ ?_
  ·simp [h1]
  ·simp [h2]
  ·simp [h6,Xd.e]
 ·simp [h1,h2,h6,Xd.e]
 ·rw [<- hX];cases p.states[s].extract.any (fun h=>decide (h<0) || decide ((p.Xp.length:Int)<=h))<;>rfl
def stA (p:Prg) (s:Nat) (x:Xd):Int×Int:=if idS x.name=false then (-1,6) else if dupN Xd.name p.states s x then (-1,7) else stE p s x
theorem qaa5 (p:Prg) (f:PrgS p) (s:Nat) (hs:s<p.states.length):qab Φ f_249 [.agg (Prg.c p),.int .i64 s]=some (.val (.tup [.int .i64 (stA p s p.states[s]).1,.int .i64 (stA p s p.states[s]).2])):=by
 rw [qaa (fn:=c_249) rfl rfl];have hm:=Qd hs;have n1:=qeh p.states[s].name (f.sn _ hm);have hsl:=f.s;cases q1:idS p.states[s].name with
 | false=>rw [q1] at n1;simp [c_249,Prg.e,Xd.e,hs,n1,stA,q1]
 | true=>
 rw [q1] at n1;have hE:stA p s p.states[s]=if dupN Xd.name p.states s p.states[s]=true then (-1,7) else stE p s p.states[s]:=by simp [stA,q1]
 rw [hE];unfold dupN;generalize hX:(if (p.states.take s).any (fun y=>decide (y.name=p.states[s].name))=true then ((-1:Int),(7:Int)) else stE p s p.states[s])=X;simp [c_249,Prg.e,Xd.e,hs,n1];refine (qdt (p.states.take s) (fun y=>decide (y.name=p.states[s].name)) (some (Rt.val (.tup [.int .i64 (-1),.int .i64 7]))) (some (Rt.val (.tup [.int .i64 (stE p s p.states[s]).1,.int .i64 (stE p s p.states[s]).2])))
  (fun k e H=>look 1 e=some (.int .i64 s)/\look 2 e=some (.iptr 9 [Prg.c p] 0 0)/\look 6 e=some (.iptr 7 [Xd.c p.states[s]] 0 0)/\look 7 e=some (.int .i64 k)/\∃n,H=⟨[],n⟩) ?_ ?_ ?_ _ _ ?_).trans ?_
 ·rintro k e _ L hk hL ⟨h1,h2,h6,h7,n,rfl⟩ hb;simp only [QAd] at hk;have hk1:k<s:=by omega
  have hk2:k<p.states.length:=by omega
  simp only [QAk,decide_eq_true_eq] at hb;rw [Prg.e] at h2;rw [Xd.e] at h6;simp [c_249_l0,Xd.e,h1,h2,h6,h7,hk1,hk2,hb]
 ·rintro k e _ L X hk hL ⟨h1,h2,h6,h7,n,rfl⟩ hb ih;simp only [QAd] at hk;have hk1:k<s:=by omega
  have hk2:k<p.states.length:=by omega
  simp only [QAk,decide_eq_false_iff_not] at hb;have hw:=qaf k (by omega);rw [Prg.e] at h2;rw [Xd.e] at h6;simp [c_249_l0,Xd.e,h1,h2,h6,h7,hk1,hk2,hb,hw];exact ih _ _ ⟨by simp [h1],by simp [h2,Prg.e],by simp [h6,Xd.e],by simp,n,rfl⟩
 ·rintro e _ L hL ⟨h1,h2,h6,h7,n,rfl⟩;have hmn:min s p.states.length=s:=by omega
  simp [hmn] at h7;simp [c_249_l0,h1,h7,hL];refine qaho p f s hs _ _ ?_ ?_ ?_
  ·simp [h1]
  ·simp [h2]
  ·simp [h6]
 ·simp [Prg.e,Xd.e]
 ·rw [<- hX];cases (p.states.take s).any (fun y=>decide (y.name=p.states[s].name))<;>rfl
theorem qadl (p:Prg) (f:PrgS p):qab Φ f_203 [.agg (Prg.c p)]=some (tup3 (parE p)):=by
 rw [qaa (fn:=c_203) rfl rfl];by_cases z0:p.states.length=0
 ·simp [c_203,Prg.e,z0,parE,tup3]
 by_cases z1:12<p.states.length
 ·simp [c_203,Prg.e,z0,z1,parE,tup3]
 have hE:parE p=(fe (parG p) p.states.length 0).getD (0,0,0):=by unfold parE;rw [QA z0,QA z1];rfl
 rw [hE];simp [c_203,Prg.e,z0,z1];refine qay p.states.length (fun i e=>look 1 e=some (.iptr 9 [Prg.c p] 0 0)/\look 5 e=some (.int .i64 i))
  (fun i=>some (tup3 ((fe (parG p) p.states.length i).getD (0,0,0)))) ?_ ?_ 0 _ (Qc _) ?_
 ·rintro i e L hi hL ⟨h1,h5⟩ ih;have hw:=qaf i (by omega);have hs:=qaa5 p f i hi;simp only [Prg.e] at hs;rw [Prg.e] at h1;by_cases y:(stA p i p.states[i]).2=0
  ·rw [y] at hs;have e1:parG p i=none:=by
    unfold stA at y;unfold parG;rw [Qa hi,QAi];split at y
    ·simp at y
    ·rename_i a1;split at y
     ·simp at y
     ·rename_i a2;rw [QA a1,QA a2,QAa y]
   rw [qar hi e1];simp [c_203_l0,h1,h5,hi,hs,hw];exact ih _ ⟨by simp [h1,Prg.e],by simp⟩
  ·have e1:parG p i=some ((i:Int),(stA p i p.states[i]).1,(stA p i p.states[i]).2):=by
    unfold stA at y ⊢;unfold parG;rw [Qa hi,QAi];split
    ·rfl
    ·rename_i a1;rw [QA a1] at y;split
     ·rfl
     ·rename_i a2;rw [QA a2] at y;rw [QA y]
   rw [qal hi e1];simp [c_203_l0,h1,h5,hi,hs,y,tup3]
 ·rintro e L hL ⟨h1,h5⟩;rw [qa4];rw [Prg.e] at h1;simp [c_203_l0,c_203_k1,h1,h5,hL,tup3]
 ·simp [Prg.e]
theorem qac9 (p:Prg) (f:PrgS p):qab Φ f_205 [.agg (Prg.c p)]=some (.val (.tup [.int .i64 (depE p).1,.int .i64 (depE p).2])):=by
 rw [qaa (fn:=c_205) rfl rfl];by_cases z1:8<p.Xs.length
 ·simp [c_205,Prg.e,z1,depE]
 have hE:depE p=(fe (depG p) p.Xs.length 0).getD (0,0):=by unfold depE;rw [QA z1];rfl
 rw [hE];simp [c_205,Prg.e,z1];refine qay p.Xs.length (fun i e=>look 1 e=some (.iptr 9 [Prg.c p] 0 0)/\look 4 e=some (.int .i64 i))
  (fun i=>some (Rt.val (.tup [.int .i64 ((fe (depG p) p.Xs.length i).getD (0,0)).1,.int .i64 ((fe (depG p) p.Xs.length i).getD (0,0)).2]))) ?_ ?_ 0 _ (Qc _) ?_
 ·rintro i e L hi hL ⟨h1,h4⟩ ih;have hw:=qaf i (by omega);rw [Prg.e] at h1;by_cases y0:p.Xs[i]<0
  ·rw [qal (x:=((i:Int),8)) hi (by simp [depG,hi,y0])];simp [c_205_l2,cI,h1,h4,hi,y0]
  by_cases y1:(p.Xp.length:Int)<=p.Xs[i]
  ·rw [qal (x:=((i:Int),8)) hi (by simp [depG,hi,y0,y1])];simp [c_205_l2,cI,h1,h4,hi,y0,y1]
  generalize hX:some (Rt.val (.tup [AV.int .i64 ((fe (depG p) p.Xs.length i).getD (0,0)).1,.int .i64 ((fe (depG p) p.Xs.length i).getD (0,0)).2]))=X;simp [c_205_l2,cI,h1,h4,hi,y0,y1];refine (qdt (p.Xs.take i) (fun g=>decide (g=p.Xs[i])) (some (Rt.val (.tup [.int .i64 i,.int .i64 7]))) (some (Rt.val (.tup [.int .i64 ((fe (depG p) p.Xs.length (i+1)).getD (0,0)).1,.int .i64 ((fe (depG p) p.Xs.length (i+1)).getD (0,0)).2])))
   (fun k e H=>look 1 e=some (.iptr 9 [Prg.c p] 0 0)/\look 4 e=some (.int .i64 i)/\look 5 e=some (.int .i64 k)/\H=⟨[],0⟩) ?_ ?_ ?_ _ _ ?_).trans ?_
  ·rintro k e _ L' hk hL' ⟨h1,h4,h5,rfl⟩ hb;simp only [QAd] at hk;have hk1:k<i:=by omega
   have hk2:k<p.Xs.length:=by omega
   simp only [QAk,decide_eq_true_eq] at hb;rw [Prg.e] at h1;simp [c_205_l0,cI,h1,h4,h5,hk1,hk2,hi,hb]
  ·rintro k e _ L' X hk hL' ⟨h1,h4,h5,rfl⟩ hb ih';simp only [QAd] at hk;have hk1:k<i:=by omega
   have hk2:k<p.Xs.length:=by omega
   simp only [QAk,decide_eq_false_iff_not] at hb;have hw':=qaf k (by omega);rw [Prg.e] at h1;simp [c_205_l0,cI,h1,h4,h5,hk1,hk2,hi,hb,hw'];exact ih' _ _ ⟨by simp [h1,Prg.e],by simp [h4],by simp,rfl⟩
  ·rintro e _ L' hL' ⟨h1,h4,h5,rfl⟩;have hm:min i p.Xs.length=i:=by omega
   simp [hm] at h5;simp [c_205_l0,c_205_k1,h4,h5,hL',hw];exact ih _ ⟨by simp [h1],by simp⟩
  ·simp [h1,h4,Prg.e]
  ·rw [<- hX];cases q:(p.Xs.take i).contains p.Xs[i] with
   | true=>
    rw [qal (x:=((i:Int),7)) hi (by simp only [depG,Qa hi,QAi];rw [QA (by omega),q];rfl)];rw [qhq] at q;rw [q];rfl
   | false=>
    rw [qar hi (by simp only [depG,Qa hi,QAi];rw [QA (by omega),q];rfl)];rw [qhq] at q;rw [q];rfl
 ·rintro e L hL ⟨h1,h4⟩;rw [qa4];rw [Prg.e] at h1;simp [c_205_l2,c_205_k3,h1,h4,hL]
 ·simp [Prg.e]
theorem ql8:∀(n:Nat) (l:List Xa),SizeOf.sizeOf l<=n->(pre l).length<2^40->qab Φ f_250 [.slice 5 (l.map Xa.c)]=some (.val (.int .i64 ((pre l).length:Nat)))
 | 0,l,h,hb=>by cases l<;>simp at h
 | n+1,l,h,hb=>by
  rw [qaa (fn:=c_250) rfl rfl];have hll:=qeu l;generalize hX:some (Rt.val (AV.int .i64 ((pre l).length:Nat)))=X;simp [c_250];refine qay l.length (fun i e=>look 0 e=some (.slice 5 (l.map Xa.c))/\look 3 e=some (.int .i64 ((pre (l.take i)).length:Nat))/\look 4 e=some (.int .i64 i)) (fun i=>X) ?_ ?_ 0 _ (Qc _) ?_
  ·rintro i e L hi hL ⟨h0,h3,h4⟩ ih;have hw:=qaf i (by omega);obtain ⟨k,t,c,a,b,hx⟩:=qdr l[i];have hm:l[i]∈l:=Qd hi;have hs:SizeOf.sizeOf l[i]<SizeOf.sizeOf l:=QBd hm;have ht:=qi5 hi;have htl:(pre (l.take (i+1))).length<=(pre l).length:=by
    have:pre l=pre (l.take (i+1))++pre (l.drop (i+1)):=by rw [<- qe2,QBm]
    rw [this];simp
   rw [hx] at hs ht;rw [qe8] at ht;simp at hs;have htl2:=congrArg List.length ht;simp at htl2;have i1:=ql8 n a (by omega) (by omega);have i2:=ql8 n b (by omega) (by omega);have w1:IntKind.wrap .i64 (1+((pre a).length:Int))=1+((pre a).length:Int):=qa6 (by omega) (by omega);have w2:IntKind.wrap .i64 (1+((pre a).length:Int)+((pre b).length:Int))=1+((pre a).length:Int)+((pre b).length:Int):=qa6 (by omega) (by omega);have w3:IntKind.wrap .i64 (((pre (l.take i)).length:Int)+(1+((pre a).length:Int)+((pre b).length:Int)))=((pre (l.take i)).length:Int)+(1+((pre a).length:Int)+((pre b).length:Int)):=qa6 (by omega) (by omega);simp [c_250_l0,h0,h3,h4,hi,hw,hx,Xa.e,i1,i2,w1,w2,w3];refine ih _ ⟨by simp [h0],?_,by simp⟩;rw [htl2];simp;omega
  ·rintro e L hL ⟨h0,h3,h4⟩;rw [QAf] at h3;simp [c_250_l0,c_250_k1,h0,h3,h4,hL,<- hX]
  ·simp [pre]
theorem qnk:∀a b:List Xa,nest (a++b)=max (nest a) (nest b)
 | [],b=>by simp [nest]
 | x::a,b=>by rw [QAp,nest,qnk a b,nest];omega
theorem qn8:∀(n:Nat) (l:List Xa),SizeOf.sizeOf l<=n->(pre l).length<2^40->qab Φ f_251 [.slice 5 (l.map Xa.c)]=some (.val (.int .i64 (nest l:Nat)))
 | 0,l,h,hb=>by cases l<;>simp at h
 | n+1,l,h,hb=>by
  rw [qaa (fn:=c_251) rfl rfl];have hll:=qeu l;generalize hX:some (Rt.val (AV.int .i64 (nest l:Nat)))=X;simp [c_251];refine qay l.length (fun i e=>look 0 e=some (.slice 5 (l.map Xa.c))/\look 3 e=some (.int .i64 (nest (l.take i):Nat))/\look 4 e=some (.int .i64 i)) (fun i=>X) ?_ ?_ 0 _ (Qc _) ?_
  ·rintro i e L hi hL ⟨h0,h3,h4⟩ ih;have hw:=qaf i (by omega);obtain ⟨k,t,c,a,b,hx⟩:=qdr l[i];have hm:l[i]∈l:=Qd hi;have hs:SizeOf.sizeOf l[i]<SizeOf.sizeOf l:=QBd hm;have hp:=qqi hi;have hn:nest (l.take (i+1))=max (nest (l.take i)) (1+qhv l[i]):=by
    rw [Qh hi,qnk];simp [nest]
   rw [hx] at hs hp hn;rw [qe8] at hp;rw [qn2] at hn;simp at hs hp;have i1:=qn8 n a (by omega) (by omega);have i2:=qn8 n b (by omega) (by omega);have l1:=qit a;have l2:=qit b;have w1:IntKind.wrap .i64 (1+(nest a:Int))=1+(nest a:Int):=qa6 (by omega) (by omega);have w2:IntKind.wrap .i64 (1+(nest b:Int))=1+(nest b:Int):=qa6 (by omega) (by omega);simp [c_251_l0,h0,h3,h4,hi,hw,hx,Xa.e,i1,i2,w1,w2];refine ih _ ⟨by simp [h0],?_,by simp⟩;simp [hn];split<;>split<;>omega
  ·rintro e L hL ⟨h0,h3,h4⟩;rw [QAf] at h3;simp [c_251_l0,c_251_k1,h0,h3,h4,hL,<- hX]
  ·simp [nest]
theorem qjw:∀(n:Nat) (l:List Xa),SizeOf.sizeOf l<=n->(pre l).length<2^30->qab Φ f_252 [.slice 5 (l.map Xa.c)]=some (.val (.slice 5 ((pre l).map Xa.c)))
 | 0,l,h,hb=>by cases l<;>simp at h
 | n+1,l,h,hb=>by
  rw [qaa (fn:=c_252) rfl rfl];have hll:=qeu l;generalize hX:some (Rt.val (AV.slice 5 ((pre l).map Xa.c)))=X;simp [c_252];refine qcr l.length (fun i e H=>look 0 e=some (.slice 5 (l.map Xa.c))/\look 3 e=some (.app 5 ((pre (l.take i)).map Xa.c) 0)/\look 4 e=some (.int .i64 i)/\H=⟨[(0,.tok 5 (pre (l.take i)).length)],1⟩) (fun i=>X) ?_ ?_ 0 _ _ (Qc _) ?_
  ·rintro i e _ L hi hL ⟨h0,h3,h4,rfl⟩ ih;have hw:=qaf i (by omega);obtain ⟨k,t,c,a,b,hx⟩:=qdr l[i];have hm:l[i]∈l:=Qd hi;have hs:SizeOf.sizeOf l[i]<SizeOf.sizeOf l:=QBd hm;have ht:=qi5 hi;have htl:(pre (l.take (i+1))).length<=(pre l).length:=by
    have:pre l=pre (l.take (i+1))++pre (l.drop (i+1)):=by rw [<- qe2,QBm]
    rw [this];simp
   rw [hx] at hs ht;rw [qe8] at ht;simp at hs;have htl2:=congrArg List.length ht;simp at htl2;have i1:=qjw n a (by omega) (by omega);have i2:=qjw n b (by omega) (by omega);have b1:((pre (l.take i)).length+1)*88<=70368744177664:=by omega
   have b2:((pre (l.take i)).length+1+(pre a).length)*88<=70368744177664:=by omega
   have b3:((pre (l.take i)).length+(1+(pre a).length)+(pre b).length)*88<=70368744177664:=by omega
   have b4:((pre (l.take i)).length+1+(pre a).length+(pre b).length)*88<=70368744177664:=by omega
   have e6:(pre (l.take i)).length+((pre a).length+1)=(pre (l.take i)).length+1+(pre a).length:=by omega
   have b5:((pre (l.take i)).length+(1+(pre a).length))*88<=70368744177664:=by omega
   simp [c_252_l0,h0,h3,h4,hi,hw,hx,Xa.e,i1,i2,e6,b1,b2,b4];refine ih _ _ ⟨by simp [h0],?_,by simp,?_⟩
   ·simp [ht,Xa.e]
   ·simp [htl2];omega
  ·rintro e _ L hL ⟨h0,h3,h4,rfl⟩;rw [QAf] at h3;simp [c_252_l0,c_252_k1,h0,h3,h4,hL,<- hX]
  ·simp [pre]
end Go.Av
