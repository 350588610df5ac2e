/-
 Expressions: the reference's answers.
-/
import Derived.Test.YtcehjengeaafpaaGreatK16
set_option linter.unusedVariables false
set_option linter.unusedSimpArgs false
set_option linter.constructorNameAsVariable false
namespace Go.Av
set_option maxRecDepth 4000
theorem Ve (p:Prg) (h i:Int):a8 Φ pL [.agg (Prg.c p),.agg [a7 h,a7 i]]=some (.val (match decl p h i with
  | some w=> .tup [.int .i64 w,.bool true]
  | none=> .tup [.int .i64 0,.bool false])):=by
 rw [aA rfl rfl,VO];by_cases hm:h= -1
 ·subst hm;by_cases i0:i<0
  ·rw [show cR p (-1) i=none by simp [cR,eP i0]];simp [gR,Prg.e,i0]
  by_cases i1:(p.Xn.length:Int)<=i
  ·rw [show cR p (-1) i=none by simp [cR,eZ i1]];simp [gR,Prg.e,i0,i1]
  obtain ⟨k,rfl⟩:∃k:Nat,i=k:=⟨i.toNat,by omega⟩;have hk:k<p.Xn.length:=by omega
  rw [show cR p (-1) k=some p.Xn[k] by simp [cR,hk]];simp [gR,Prg.e,i0,i1,hk,Fld.e]
 by_cases h0:h<0
 ·rw [show cR p h i=none by simp [cR,hm,eP h0]];simp [gR,Prg.e,hm,h0]
 by_cases h1:(p.Xo.length:Int)<=h
 ·rw [show cR p h i=none by simp [cR,hm,eZ h1]];simp [gR,Prg.e,hm,h0,h1]
 obtain ⟨m,rfl⟩:∃k:Nat,h=k:=⟨h.toNat,by omega⟩;have hk:m<p.Xo.length:=by omega
 by_cases i0:i<0
 ·rw [show cR p m i=none by simp [cR,hm,hk,eP i0]];simp [gR,Prg.e,hm,hk,Qf.2 hk,i0,Xi.e]
 by_cases i1:(p.Xo[m].Xz.length:Int)<=i
 ·rw [show cR p m i=none by simp [cR,hm,hk,eZ i1]];simp [gR,Prg.e,hm,hk,Qf.2 hk,i0,i1,Xi.e]
 obtain ⟨k,rfl⟩:∃k:Nat,i=k:=⟨i.toNat,by omega⟩;have hk2:k<p.Xo[m].Xz.length:=by omega
 rw [show cR p m k=some p.Xo[m].Xz[k] by simp [cR,hm,hk,hk2]];simp [gR,Prg.e,hm,hk,Qf.2 hk,hk2,Qf.2 hk2,Xi.e,Fld.e]
theorem V7 (w:Int):a8 Φ mR [a7 w]=some (.val (.tup [a7 (wide w).1,a7 (wide w).2])):=by
 rw [aA rfl rfl];by_cases h1:w<1
 ·simp [sF,wide,wBad,h1]
 by_cases h2:32<w
 ·simp [sF,wide,wBad,h1,h2]
 simp [sF,wide,wBad,h1,h2]
theorem qt9 (w:Int):a8 Φ tX [a7 w]=some (.val (.int .u32 (cD w))):=by
 rw [aA rfl rfl];have h1:=V2 w;cases q:wBad w with
 | true=>
  rw [q] at h1;simp [yW,h1,cD,q]
 | false=>
  rw [q] at h1;obtain ⟨w1,w2⟩:=wBad_false.1 q;obtain ⟨k,rfl⟩:∃k:Nat,w=k:=⟨w.toNat,by omega⟩;have h2:=VK k (by omega);have hb:(2:Int)^k<=2^32:=by
   have:=DV (n:=2) (by omega) (show k<=32 by omega)
   exact_mod_cast this
  have h0:(0:Int)<2^k:=by
   have:=Nat.pow_pos (a:=2) (n:=k) (by omega)
   exact_mod_cast this
  have c1:IntKind.wrap .u64 ((2:Int)^k - 1)=2^k - 1:=W5 (by omega) (by omega);have c2:IntKind.wrap .u32 ((2:Int)^k - 1)=2^k - 1:=Tu (by omega) (by omega);simp [yW,h1,h2,c1,c2,cD,q]
theorem Gf (p:Prg) (ps:List Fld) (x:Xd):a8 Φ BK [.agg (Xd.c x),.agg (scC p ps)]=some (.val (.tup [a7 (prim p ps x).1,a7 (prim p ps x).2])):=by
 rw [aA rfl rfl];by_cases o1:x.op=1
 ·have hw:=V7 x.w;have hm:=qt9 x.w;have hmw:=Wi x.w;cases q:wBad x.w with
  | true=>
   simp [wide,q] at hw;simp [eE,aJ,Xd.e,o1,prim,hw,q]
  | false=>
   simp [wide,q] at hw;by_cases n0:x.n<0
   ·simp [eE,aJ,Xd.e,o1,prim,hw,q,n0]
   have e:cD x.w=2^x.w.toNat - 1:=by simp [cD,q]
   rw [e] at hm hmw;by_cases n1:2^x.w.toNat - 1<x.n
   ·simp [eE,aJ,Xd.e,o1,prim,hw,hm,hmw,q,n0,n1]
   ·simp [eE,aJ,Xd.e,o1,prim,hw,hm,hmw,q,n0,n1]
 by_cases o2:x.op=2
 ·have hf:=Ve p x.n x.w;simp only [Prg.e] at hf;cases q:decl p x.n x.w with
  | none=>
   rw [q] at hf;simp [eE,aJ,Xd.e,o2,prim,hf,q]
  | some w=>
   rw [q] at hf;have hw:=V7 w;simp [eE,aJ,Xd.e,o2,prim,hf,hw,q]
 by_cases o3:x.op=3
 ·by_cases n0:x.n<0
  ·simp [eE,aJ,Xd.e,o3,prim,n0,eP n0]
  by_cases n1:(ps.length:Int)<=x.n
  ·simp [eE,aJ,Xd.e,o3,prim,n0,n1,eZ n1]
  obtain ⟨k,hk⟩:∃k:Nat,x.n=k:=⟨x.n.toNat,by omega⟩;have hk2:k<ps.length:=by omega
  have hw:=V7 ps[k].Yc;simp [eE,aJ,Xd.e,Fld.e,o3,prim,hk,hk2,Qf.2 hk2,hw]
 by_cases n0:x.n<0
 ·simp [eE,aJ,Xd.e,o1,o2,o3,prim,n0,eP n0]
 by_cases n1:(p.Xo.length:Int)<=x.n
 ·simp [eE,aJ,Xd.e,o1,o2,o3,prim,n0,n1,eZ n1]
 obtain ⟨k,hk⟩:∃k:Nat,x.n=k:=⟨x.n.toNat,by omega⟩;have hk2:k<p.Xo.length:=by omega
 simp [eE,aJ,Xd.e,o1,o2,o3,prim,hk,hk2,Qf.2 hk2]
theorem XL (op:Int):a8 Φ AS [a7 op]=some (.val (a7 (ari op))):=by
 rw [aA rfl rfl];rcases (show op<1\/(1<=op/\op<=4)\/(5<=op/\op<=8)\/(9<=op/\op<=16)\/op=17\/17<op by omega) with h | h | h | h | h | h
 ·have e:ari op= -1:=by unfold ari;rw [QA (by omega),QA (by omega),QA (by omega),QA (by omega)]
  rw [e];simp [jY,show ¬1<=op by omega,show ¬5<=op by omega,show ¬9<=op by omega,show ¬op=17 by omega]
 ·simp [jY,ari,h]
 ·simp [jY,ari,h,show 1<=op by omega,show ¬op<=4 by omega]
 ·simp [jY,ari,h,show 1<=op by omega,show ¬op<=4 by omega,show 5<=op by omega,show ¬op<=8 by omega]
 ·subst h;simp [jY,ari]
 ·have e:ari op= -1:=by unfold ari;rw [QA (by omega),QA (by omega),QA (by omega),QA (by omega)]
  rw [e];simp [jY,show 1<=op by omega,show ¬op<=4 by omega,show 5<=op by omega,show ¬op<=8 by omega,show 9<=op by omega,show ¬op<=16 by omega,show ¬op=17 by omega]
theorem ari_1 {op:Int} (h:ari op=1):op=5\/op=6\/op=7\/op=8:=by
 unfold ari at h;split at h
 ·omega
 split at h
 ·omega
 split at h
 ·omega
 split at h<;>omega
theorem ari_2 {op:Int} (h:ari op=2):9<=op/\op<=16:=by
 unfold ari at h;split at h
 ·omega
 split at h
 ·omega
 split at h
 ·omega
 split at h<;>omega
theorem ari_3 {op:Int} (h:ari op=3):op=17:=by
 unfold ari at h;split at h
 ·omega
 split at h
 ·omega
 split at h
 ·omega
 split at h<;>omega
theorem qto (x:Xd) (a:Int) (ha:0<=a/\a<=32) (hx:ari x.op=1):a8 Φ pQ [.agg (Xd.c x),.slice 1 [[a7 a]]]=some (.val (.tup [a7 (comb x a 0 0).1,a7 (comb x a 0 0).2])):=by
 rw [aA rfl rfl];rcases ari_1 hx with o | o | o | o
 ·simp [bR,Xd.e,o,comb,ari]
 ·by_cases n0:x.n<0
  ·simp [bR,Xd.e,o,comb,n0]
  by_cases n1:31<x.n
  ·simp [bR,Xd.e,o,comb,n0,n1]
  simp [bR,Xd.e,o,comb,n0,n1]
 ·by_cases n0:x.n<0
  ·simp [bR,Xd.e,o,comb,n0]
  by_cases n1:31<x.n
  ·simp [bR,Xd.e,o,comb,n0,n1]
  simp [bR,Xd.e,o,comb,n0,n1]
 ·by_cases n0:x.n<0
  ·simp [bR,Xd.e,o,comb,n0]
  by_cases w1:x.w<1
  ·simp [bR,Xd.e,o,comb,n0,wBad,w1]
  by_cases w2:32<x.w
  ·simp [bR,Xd.e,o,comb,n0,wBad,w1,w2]
  have hs:IntKind.wrap .i64 (a - x.w)=a - x.w:=cN (by omega) (by omega);by_cases n1:a - x.w<x.n
  ·simp [bR,Xd.e,o,comb,n0,wBad,w1,w2,hs,n1]
  ·simp [bR,Xd.e,o,comb,n0,wBad,w1,w2,hs,n1]
theorem qtp (x:Xd) (a b:Int) (ha:0<=a/\a<=32) (hb:0<=b/\b<=32) (hx:ari x.op=2):a8 Φ pQ [.agg (Xd.c x),.slice 1 [[a7 a],[a7 b]]]=some (.val (.tup [a7 (comb x a b 0).1,a7 (comb x a b 0).2])):=by
 rw [aA rfl rfl];have hr:=ari_2 hx;have o5:¬x.op=5:=by omega
 have o6:¬x.op=6:=by omega
 have o7:¬x.op=7:=by omega
 have o8:¬x.op=8:=by omega
 have o17:¬x.op=17:=by omega
 have hab:IntKind.wrap .i64 (a+b)=a+b:=cN (by omega) (by omega);have hw2:=V7 (a+b);by_cases o14:x.op=14
 ·simp [bR,Xd.e,o14,comb,hab,hw2]
 by_cases ab:a=b
 ·by_cases o15:x.op=15
  ·simp [bR,Xd.e,o15,comb,ab]
  by_cases o16:x.op=16
  ·simp [bR,Xd.e,o16,comb,ab]
  simp [bR,Xd.e,o5,o6,o7,o8,o14,o15,o16,o17,comb,hx,ab]
 ·simp [bR,Xd.e,o5,o6,o7,o8,o14,o17,comb,hx,ab]
theorem qtq (x:Xd) (a b c:Int) (hx:ari x.op=3):a8 Φ pQ [.agg (Xd.c x),.slice 1 [[a7 a],[a7 b],[a7 c]]]=some (.val (.tup [a7 (comb x a b c).1,a7 (comb x a b c).2])):=by
 rw [aA rfl rfl];have o:=ari_3 hx;by_cases a1:a=1
 ·by_cases bc:b=c
  ·simp [bR,Xd.e,o,comb,a1,bc]
  ·simp [bR,Xd.e,o,comb,a1,bc]
 ·simp [bR,Xd.e,o,comb,a1]
theorem S2 (p:Prg) (ps:List Fld) (l:List Xd) (hl:l.length<2^40):∀n i,l.length - i<n->i<=l.length->chkR (chk p ps l n i) (a8 Φ pH [.slice 3 (l.map Xd.c),a7 (i:Nat),.agg (scC p ps)])
 | 0,i,h,hle=>by omega
 | n+1,i,h,hle=>by
  rw [aA rfl rfl];by_cases hi:i<l.length
  rotate_left
  ·have:i=l.length:=by omega
   subst this;simp [chk,chkR,iN,aJ]
  have ih1:=S2 p ps l hl n (i+1) (by omega) (by omega);have hA:=XL l[i].op;have hP:=Gf p ps l[i];have hw:IntKind.wrap .i64 ((i:Int)+1)=(i:Int)+1:=cN (by omega) (by omega);have e1:((i+1:Nat):Int)=(i:Int)+1:=by omega
  rw [e1] at ih1;simp only [aJ,Xd.e] at ih1 hP;simp only [chk,Qa hi];rcases Yj l[i].op with k | k | k | k | k
  ·rw [k] at hA;simp [chkR,iN,aJ,Xd.e,hi,Qf.2 hi,hA,k]
  ·rw [k] at hA;by_cases z:(prim p ps l[i]).2=0
   ·rw [z] at hP;simp [chkR,iN,aJ,Xd.e,hi,Qf.2 hi,hA,k,hP,z,hw]
   ·simp [chkR,iN,aJ,Xd.e,hi,Qf.2 hi,hA,k,hP,z,hw]
  ·rw [k] at hA;simp [iN,aJ,Xd.e,hi,Qf.2 hi,hA,k,hw];rw [bY];cases h1:chk p ps l n (i+1) with
   | error e=>
    rw [h1] at ih1;obtain ⟨he,a,b,hc⟩:=ih1;simp [c_251_l0,chkR,hc,he]
   | ok q=>
    obtain ⟨a,i1⟩:=q;rw [h1] at ih1;obtain ⟨ra,r1,r2⟩:=vI h1;have hC:=qto l[i] a (by omega) k;simp only [Xd.e] at hC;simp only [chkR] at ih1;simp [c_251_l0,ih1];rw [bY];simp [wr1,c_251_k1,hi,Xd.e,hC];exact OY _ _ _
  ·rw [k] at hA;simp [iN,aJ,Xd.e,hi,Qf.2 hi,hA,k,hw];rw [bY];cases h1:chk p ps l n (i+1) with
   | error e=>
    rw [h1] at ih1;obtain ⟨he,a,b,hc⟩:=ih1;simp [c_251_l0,chkR,hc,he]
   | ok q=>
    obtain ⟨a,i1⟩:=q;rw [h1] at ih1;obtain ⟨ra,r1,r2⟩:=vI h1;simp only [chkR] at ih1;simp [c_251_l0,ih1];rw [bY];have ih2:=S2 p ps l hl n i1 (by omega) (by omega);simp only [aJ] at ih2;cases h2:chk p ps l n i1 with
    | error e=>
     rw [h2] at ih2;obtain ⟨he,x,y,hc⟩:=ih2;simp [chkR,hc,he,wr1]
    | ok q=>
     obtain ⟨b,i2⟩:=q;rw [h2] at ih2;obtain ⟨rb,s1,s2⟩:=vI h2;simp only [chkR] at ih2;have hC:=qtp l[i] a b (by omega) (by omega) k;simp only [Xd.e] at hC;simp [ih2,wr1];rw [bY];simp [wr2,c_251_k1,hi,Xd.e,hC];exact OY _ _ _
  ·rw [k] at hA;simp [iN,aJ,Xd.e,hi,Qf.2 hi,hA,k,hw];rw [bY];cases h1:chk p ps l n (i+1) with
   | error e=>
    rw [h1] at ih1;obtain ⟨he,a,b,hc⟩:=ih1;simp [c_251_l0,chkR,hc,he]
   | ok q=>
    obtain ⟨a,i1⟩:=q;rw [h1] at ih1;obtain ⟨ra,r1,r2⟩:=vI h1;simp only [chkR] at ih1;simp [c_251_l0,ih1];rw [bY];have ih2:=S2 p ps l hl n i1 (by omega) (by omega);simp only [aJ] at ih2;cases h2:chk p ps l n i1 with
    | error e=>
     rw [h2] at ih2;obtain ⟨he,x,y,hc⟩:=ih2;simp [chkR,hc,he,wr1]
    | ok q=>
     obtain ⟨b,i2⟩:=q;rw [h2] at ih2;obtain ⟨rb,s1,s2⟩:=vI h2;simp only [chkR] at ih2;simp [ih2,wr1];rw [bY];have ih3:=S2 p ps l hl n i2 (by omega) (by omega);simp only [aJ] at ih3;cases h3:chk p ps l n i2 with
     | error e=>
      rw [h3] at ih3;obtain ⟨he,x,y,hc⟩:=ih3;simp [chkR,hc,he,wr2]
     | ok q=>
      obtain ⟨c,i3⟩:=q;rw [h3] at ih3;simp only [chkR] at ih3;have hC:=qtq l[i] a b c k;simp only [Xd.e] at hC;simp [ih3,wr2];rw [bY];simp [wr3,c_251_k1,hi,Xd.e,hC];exact OY _ _ _
theorem Su (p:Prg) (ps:List Fld) (l:List Xd):a8 Φ mD [.slice 3 (l.map Xd.c),.agg (scC p ps)]=some (.val (.tup [a7 (exE p ps l).1,a7 (exE p ps l).2])):=by
 rw [aA rfl rfl];by_cases h:24<l.length
 ·simp [oF,aJ,h,exE]
 have hc:=S2 p ps l (by omega) (l.length+1) 0 (by omega) (by omega);simp only [aJ,Int.ofNat_zero] at hc;cases q:chk p ps l (l.length+1) 0 with
 | error e=>
  rw [q] at hc;obtain ⟨he,a,b,hc⟩:=hc;simp [oF,aJ,h,exE,q,hc,he]
 | ok r=>
  obtain ⟨w,j⟩:=r;rw [q] at hc;simp only [chkR] at hc;by_cases hj:j<l.length
  ·simp [oF,aJ,h,exE,q,hc,hj]
  ·simp [oF,aJ,h,exE,q,hc,hj]
theorem Cg (p:Prg) (ps:List Fld) (l:List Xd) (w:Int):a8 Φ pM [.slice 3 (l.map Xd.c),.agg (scC p ps),a7 w]=some (.val (a7 (valE p ps l w))):=by
 rw [aA rfl rfl];have h:=Su p ps l;simp only [aJ] at h;by_cases z:(exE p ps l).2=0
 ·rw [z] at h;by_cases y:(exE p ps l).1=w
  ·simp [s6,aJ,h,valE,z,y]
  ·simp [s6,aJ,h,valE,z,y]
 ·simp [s6,aJ,h,valE,z]
theorem Cd (p:Prg) (ps:List Fld) (s:Xf):a8 Φ A8 [.agg (Prg.c p),.agg (Xf.c s),.agg (scC p ps)]=some (.val (a7 (stmE p ps s))):=by
 rw [aA rfl rfl];have hd:=Ve p s.dst.header s.dst.field;have hi:=Su p ps s.index;simp only [Prg.e] at hd;simp only [aJ] at hi;have hr:(s.Ye<0/\at? p.Xl s.Ye=none)\/(¬s.Ye<0/\(p.Xl.length:Int)<=s.Ye/\at? p.Xl s.Ye=none)\/∃k:Nat,∃h:k<p.Xl.length,s.Ye=k/\at? p.Xl s.Ye=some p.Xl[k]:=by
  by_cases h0:s.Ye<0
  ·exact .inl ⟨h0,eP h0⟩
  by_cases h1:(p.Xl.length:Int)<=s.Ye
  ·exact .inr (.inl ⟨h0,h1,eZ h1⟩)
  obtain ⟨k,hk⟩:∃k:Nat,s.Ye=k:=⟨s.Ye.toNat,by omega⟩;exact .inr (.inr ⟨k,by omega,hk,by rw [hk];simp⟩)
 have hx:∀w,a8 Φ pM [.slice 3 (s.value.map Xd.c),.agg (scC p ps),a7 w]=some (.val (a7 (valE p ps s.value w))):=Cg p ps s.value;simp only [aJ] at hx;have hd':a8 Φ pL [.agg (nI p []),.agg [a7 s.dst.header,a7 s.dst.field]]=
   some (.val (.tup [a7 ((decl p s.dst.header s.dst.field).getD 0),.bool (decl p s.dst.header s.dst.field).isSome])):=by
  rw [hd];cases decl p s.dst.header s.dst.field<;>rfl
 clear hd;by_cases k1:s.kind=1
 ·rcases hr with ⟨r0,rn⟩ | ⟨r0,r1,rn⟩ | ⟨m,hm,rk,rn⟩<;>cases qd:decl p s.dst.header s.dst.field<;>rw [qd] at hd'
  ·simp [aY,Prg.e,aJ,Xf.e,hd',stmE,qd,k1,nM.2 r0]
  ·simp [aY,Prg.e,aJ,Xf.e,hd',stmE,qd,k1,nM.2 r0,hx]
  ·simp [aY,Prg.e,aJ,Xf.e,hd',stmE,qd,k1,fK.1 r0,fK.2 r1]
  ·simp [aY,Prg.e,aJ,Xf.e,hd',stmE,qd,k1,fK.1 r0,fK.2 r1,hx]
  ·simp [aY,Prg.e,aJ,Xf.e,hd',stmE,qd,k1,rk,hm]
  ·simp [aY,Prg.e,aJ,Xf.e,hd',stmE,qd,k1,rk,hm,hx]
 by_cases k2:s.kind=2
 ·have e:stmE p ps s=if (at? p.Xo s.header).isSome then 0 else 8:=by simp [stmE,k2]
  rw [e,UW];by_cases h0:s.header<0<;>by_cases h1:(p.Xo.length:Int)<=s.header<;>rcases hr with ⟨r0,rn⟩ | ⟨r0,r1,rn⟩ | ⟨m,hm,rk,rn⟩
  all_goals first
   | simp [aY,Prg.e,aJ,Xf.e,hd',k2,nM.2 r0,h0,h1]
   | simp [aY,Prg.e,aJ,Xf.e,hd',k2,fK.1 r0,fK.2 r1,h0,h1]
   | simp [aY,Prg.e,aJ,Xf.e,hd',k2,rk,hm,h0,h1]
 by_cases k3:s.kind=3
 ·have e:stmE p ps s=if (at? p.Xo s.header).isSome then 0 else 8:=by simp [stmE,k3]
  rw [e,UW];by_cases h0:s.header<0<;>by_cases h1:(p.Xo.length:Int)<=s.header<;>rcases hr with ⟨r0,rn⟩ | ⟨r0,r1,rn⟩ | ⟨m,hm,rk,rn⟩
  all_goals first
   | simp [aY,Prg.e,aJ,Xf.e,hd',k3,nM.2 r0,h0,h1]
   | simp [aY,Prg.e,aJ,Xf.e,hd',k3,fK.1 r0,fK.2 r1,h0,h1]
   | simp [aY,Prg.e,aJ,Xf.e,hd',k3,rk,hm,h0,h1]
 by_cases k4:s.kind=4
 ·cases qd:decl p s.dst.header s.dst.field with
  | none=>
   rw [qd] at hd';rcases hr with ⟨r0,rn⟩ | ⟨r0,r1,rn⟩ | ⟨m,hm,rk,rn⟩
   ·simp [aY,Prg.e,aJ,Xf.e,hd',stmE,k4,nM.2 r0,rn,qd]
   ·simp [aY,Prg.e,aJ,Xf.e,hd',stmE,k4,fK.1 r0,fK.2 r1,rn,qd]
   ·rw [rk] at rn;simp [aY,Prg.e,aJ,Xf.e,hd',stmE,k4,rk,hm,rn,qd]
  | some w=>
   rw [qd] at hd';rcases hr with ⟨r0,rn⟩ | ⟨r0,r1,rn⟩ | ⟨m,hm,rk,rn⟩
   ·simp [aY,Prg.e,aJ,Xf.e,hd',stmE,k4,nM.2 r0,rn,qd]
   ·simp [aY,Prg.e,aJ,Xf.e,hd',stmE,k4,fK.1 r0,fK.2 r1,rn,qd]
   ·rw [rk] at rn;by_cases z:(exE p ps s.index).2=0
    ·rw [z] at hi;by_cases y:w=p.Xl[m].Yc
     ·simp [aY,Prg.e,aJ,Xf.e,Xg.e,hd',stmE,k4,rk,hm,rn,qd,hi,z,y]
     ·simp [aY,Prg.e,aJ,Xf.e,Xg.e,hd',stmE,k4,rk,hm,rn,qd,hi,z,y]
    ·simp [aY,Prg.e,aJ,Xf.e,hd',stmE,k4,rk,hm,rn,qd,hi,z]
 by_cases k5:s.kind=5
 ·rcases hr with ⟨r0,rn⟩ | ⟨r0,r1,rn⟩ | ⟨m,hm,rk,rn⟩
  ·simp [aY,Prg.e,aJ,Xf.e,hd',stmE,k5,nM.2 r0,rn]
  ·simp [aY,Prg.e,aJ,Xf.e,hd',stmE,k5,fK.1 r0,fK.2 r1,rn]
  ·rw [rk] at rn;by_cases z:(exE p ps s.index).2=0
   ·rw [z] at hi;simp [aY,Prg.e,aJ,Xf.e,Xg.e,hd',stmE,k5,rk,hm,rn,hi,z,hx]
   ·simp [aY,Prg.e,aJ,Xf.e,hd',stmE,k5,rk,hm,rn,hi,z]
 rcases hr with ⟨r0,rn⟩ | ⟨r0,r1,rn⟩ | ⟨m,hm,rk,rn⟩
 ·simp [aY,Prg.e,aJ,Xf.e,hd',stmE,k1,k2,k3,k4,k5,nM.2 r0]
 ·simp [aY,Prg.e,aJ,Xf.e,hd',stmE,k1,k2,k3,k4,k5,fK.1 r0,fK.2 r1]
 ·simp [aY,Prg.e,aJ,Xf.e,hd',stmE,k1,k2,k3,k4,k5,rk,hm]
theorem Y7 (l:List Fld) (hl:l.length<2^40) (hf:∀f∈l,f.name.length<2^40):a8 Φ sT [.slice 2 (l.map Fld.c)]=some (.val (a7 (errO (D5 l)))):=by
 rw [aA rfl rfl,show D5 l=fe (actG l) l.length 0 from rfl];simp [H7];refine eY l.length (fun i e=>look 0 e=some (.slice 2 (l.map Fld.c))/\look 3 e=some (a7 i))
  (fun i=>some (Rt.val (a7 (errO (fe (actG l) l.length i))))) ?_ ?_ 0 _ (Qc _) ?_
 ·rintro i e L hi hL ⟨h0,h3⟩ ih;have hw:=aM i (by omega);have nf:=FJ l[i].name (hf _ (Qd hi));cases p1:idS l[i].name with
  | false=>
   rw [p1] at nf;rw [aU (x:=6) hi (by simp [actG,hi,fldE,p1,er])];simp [c_187_l2,Fld.e,h0,h3,hi,nf]
  | true=>
  rw [p1] at nf;by_cases w1:l[i].Yc<1
  ·rw [aU (x:=10) hi (by simp [actG,hi,fldE,p1,wBad,w1,er])];simp [c_187_l2,Fld.e,h0,h3,hi,nf,w1]
  by_cases w2:32<l[i].Yc
  ·rw [aU (x:=10) hi (by simp [actG,hi,fldE,p1,wBad,w2,er])];simp [c_187_l2,Fld.e,h0,h3,hi,nf,w1,w2]
  generalize hX:some (Rt.val (a7 (errO (fe (actG l) l.length i))))=X;simp [c_187_l2,Fld.e,h0,h3,hi,nf,w1,w2];refine (wK (l.take i) (fun g=>decide (g.name=l[i].name)) (some (Rt.val (a7 7))) (some (Rt.val (a7 (errO (fe (actG l) l.length (i+1))))))
   (fun k e H=>look 0 e=some (.slice 2 (l.map Fld.c))/\look 3 e=some (a7 i)/\look 4 e=some (a7 k)/\H=⟨[],0⟩/\(0<k->pW (l.take i) (fun g=>decide (g.name=l[i].name)) 0=pW (l.take i) (fun g=>decide (g.name=l[i].name)) k)) ?_ ?_ ?_ _ _ ?_).trans ?_
  ·rintro k e _ L' hk hL' ⟨h0,h3,h4,rfl,_⟩ hb;simp only [iA] at hk;have hk1:k<i:=by omega
   have hk2:k<l.length:=by omega
   simp only [lG,decide_eq_true_eq] at hb;simp [c_187_l0,Fld.e,h0,h3,h4,hk1,hk2,hi,hb]
  ·rintro k e _ L' X hk hL' ⟨h0,h3,h4,rfl,hy⟩ hb ih';have hb':=hb;have hk0:=hk;simp only [iA] at hk;have hk1:k<i:=by omega
   have hk2:k<l.length:=by omega
   simp only [lG,decide_eq_false_iff_not] at hb;have hw':=aM k (by omega);simp [c_187_l0,Fld.e,h0,h3,h4,hk1,hk2,hi,hb,hw'];refine ih' _ _ ⟨by simp [h0],by simp [h3],by simp,rfl,fun _=>?_⟩;rcases Qw k with rfl | hp
   ·exact MK hk0 hb'
   ·rw [hy hp];exact MK hk0 hb'
  ·rintro e _ L' hL' ⟨h0,h3,h4,rfl,hy⟩;have hm:min i l.length=i:=by omega
   simp [hm] at h4;simp [c_187_l0,c_187_k1,h3,h4,hL',hw];exact ih _ ⟨by simp [h0],by simp⟩
  ·simp [h0,h3]
  ·rw [<- hX];cases p3:dupN Fld.name l i l[i] with
   | true=>
    rw [aU (x:=7) hi (by simp [actG,hi,fldE,p1,wBad,w1,w2,p3,er])];unfold dupN at p3;rw [p3];rfl
   | false=>
    rw [cM hi (by simp [actG,hi,fldE,p1,wBad,w1,w2,p3])];unfold dupN at p3;rw [p3];rfl
 ·rintro e L hL ⟨h0,h3⟩;rw [dI];simp [c_187_l2,c_187_k3,h0,h3,hL]
 ·simp
theorem Ci (p:Prg) (k:Nat) (hk:k<p.Xx.length):a8 Φ A9 [.agg (Prg.c p),a7 k]=some (.val (.agg (scC p p.Xx[k].params))):=by
 rw [aA rfl rfl];simp [H8,Prg.e,aJ,Action.e,hk]
theorem Bh (p:Prg) (f:PrgS p) (i:Int):a8 Φ zM [.agg (Prg.c p),a7 i]=some (.val (.tup [a7 (actE p i).1,a7 (actE p i).2])):=by
 rw [aA rfl rfl];by_cases i0:i<0
 ·simp [iM,Prg.e,i0,actE,eP i0]
 by_cases i1:(p.Xx.length:Int)<=i
 ·simp [iM,Prg.e,i0,i1,actE,eZ i1]
 obtain ⟨k,rfl⟩:∃k:Nat,i=k:=⟨i.toNat,by omega⟩;have hk:k<p.Xx.length:=by omega
 have hm:=Qd hk;have n1:=FJ p.Xx[k].name (f.an _ hm);have n2:=Y7 p.Xx[k].params (f.ap _ hm) (f.apn _ hm);cases q1:idS p.Xx[k].name with
 | false=>rw [q1] at n1;simp [iM,Prg.e,Action.e,hk,Qf.2 hk,n1,actE,actD,q1]
 | true=>
 rw [q1] at n1;by_cases z0:4<p.Xx[k].params.length
 ·simp [iM,Prg.e,Action.e,hk,Qf.2 hk,n1,actE,actD,q1,z0]
 by_cases z1:12<p.Xx[k].body.length
 ·simp [iM,Prg.e,Action.e,hk,Qf.2 hk,n1,actE,actD,q1,z0,z1]
 by_cases z2:errO (D5 p.Xx[k].params)=0
 rotate_left
 ·simp [iM,Prg.e,Action.e,hk,Qf.2 hk,n1,n2,actE,actD,q1,z0,z1,z2]
 rw [z2] at n2;have hE:actE p k=(fe (EF p p.Xx[k]) p.Xx[k].body.length 0).getD (0,0):=by simp [actE,actD,hk,q1,z0,z1,z2]<;>rfl
 rw [hE];simp [iM,Prg.e,Action.e,hk,Qf.2 hk,n1,n2,z0,z1];have hb:=f.ab _ hm;refine dV p.Xx[k].body.length (fun _=>[]) 0 (fun i e=>look 1 e=some (a7 k)/\look 2 e=some (.iptr 9 [Prg.c p] 0 0)/\look 6 e=some (.iptr 3 [Action.c p.Xx[k]] 0 0)/\look 7 e=some (a7 i))
  (fun i=>some (Rt.val (.tup [a7 ((fe (EF p p.Xx[k]) p.Xx[k].body.length i).getD (0,0)).1,a7 ((fe (EF p p.Xx[k]) p.Xx[k].body.length i).getD (0,0)).2]))) ?_ ?_ 0 _ _ (Qc _) (Qc _) ?_
 ·rintro i e n L hi hL _ ⟨h1,h2,h6,h7⟩ ih;have hw:=aM i (by omega);have hs:=Cd p p.Xx[k].params p.Xx[k].body[i];have hsc:=Ci p k hk;simp only [Xf.e,aJ,Prg.e] at hs hsc;rw [Prg.e] at h2;rw [Action.e] at h6;by_cases y:stmE p p.Xx[k].params p.Xx[k].body[i]=0
  ·rw [y] at hs;rw [cM hi (by simp [EF,hi,y])];simp [c_113_l0,Xf.e,h1,h2,h6,h7,hi,hs,hsc,hw];exact ih _ _ (Qc _) ⟨by simp [h1],by simp [h2,Prg.e],by simp [h6,Action.e],by simp⟩
  ·rw [aU (x:=((i:Int),stmE p p.Xx[k].params p.Xx[k].body[i])) hi (by simp [EF,hi,y])];simp [c_113_l0,Xf.e,h1,h2,h6,h7,hi,hs,hsc,y]
 ·rintro e n L hL _ ⟨h1,h2,h6,h7⟩;rw [dI];rw [Action.e] at h6;simp [c_113_l0,c_113_k1,h6,h7,hL]
 ·simp [Prg.e,Action.e]
theorem Ph (p:Prg) (f:PrgS p) (c:Xb) (hc:c.args.length<2^40) (hv:∀v∈c.args,ok32 0 v):a8 Φ oT [.agg (Prg.c p),.agg (Xb.c c)]=some (.val (a7 (j9 p c))):=by
 rw [aA rfl rfl];by_cases i0:c.Xy<0
 ·simp [oC,Prg.e,Xb.e,i0,j9,eP i0]
 by_cases i1:(p.Xx.length:Int)<=c.Xy
 ·simp [oC,Prg.e,Xb.e,i0,i1,j9,eZ i1]
 obtain ⟨k,hk0⟩:∃k:Nat,c.Xy=k:=⟨c.Xy.toNat,by omega⟩;have hk:k<p.Xx.length:=by omega
 by_cases z:c.args.length=p.Xx[k].params.length
 rotate_left
 ·simp [oC,Prg.e,Xb.e,Action.e,hk0,hk,Qf.2 hk,j9,z]
 have hE:j9 p c=errO (fe (KT c.args p.Xx[k].params) c.args.length 0):=by simp [j9,hk0,hk,z]<;>rfl
 rw [hE];simp [oC,Prg.e,Xb.e,Action.e,hk0,hk,Qf.2 hk,z];rw [<- z];refine eY c.args.length (fun i e=>look 3 e=some (.iptr 2 [Xb.c c] 0 0)/\look 5 e=some (.slice 2 (p.Xx[k].params.map Fld.c))/\look 6 e=some (a7 i))
  (fun i=>some (Rt.val (a7 (errO (fe (KT c.args p.Xx[k].params) c.args.length i))))) ?_ ?_ 0 _ (Qc _) ?_
 ·rintro i e L hi hL ⟨h3,h5,h6⟩ ih;have hw:=aM i (by omega);have hi2:i<p.Xx[k].params.length:=by omega
  have hf:=Rl c.args[i] p.Xx[k].params[i].Yc (hv _ (Qd hi));rw [Xb.e] at h3;cases y:fits c.args[i] p.Xx[k].params[i].Yc with
  | true=>
   rw [y] at hf;rw [cM hi (by simp [KT,hi,hi2,y])];simp [c_121_l0,Fld.e,c32,h3,h5,h6,hi,hi2,hf,hw];exact ih _ ⟨by simp [h3,Xb.e],by simp [h5],by simp⟩
  | false=>
   rw [y] at hf;rw [aU (x:=9) hi (by simp [KT,hi,hi2,y])];simp [c_121_l0,Fld.e,c32,h3,h5,h6,hi,hi2,hf]
 ·rintro e L hL ⟨h3,h5,h6⟩;rw [dI];simp [c_121_l0,c_121_k1,h5,h6,hL,<- z]
 ·simp [Xb.e,hk0]
theorem Pk (l:List Int) (x:Int) (hl:l.length<2^40):a8 Φ pA [.slice 1 (l.map cI),a7 x]=some (.val (a7 (ix (fun s=>decide (s=x)) l 0))):=by
 rw [aA rfl rfl];simp [HH];refine (eY l.length (fun i e=>look 0 e=some (.slice 1 (l.map cI))/\look 1 e=some (a7 x)/\look 5 e=some (a7 i))
  (fun i=>some (.val (a7 (ix (fun s=>decide (s=x)) l i)))) ?_ ?_ 0 _ (Qc _) ?_).trans (by simp)
 ·rintro i e L hi hL ⟨h0,h1,h5⟩ ih;have hw:=aM i (by omega);by_cases z:l[i]=x
  ·rw [PF hi (by simpa using z)];simp [c_201_l0,cI,h0,h1,h5,hi,z]
  ·rw [P4 hi (by simpa using z)];simp [c_201_l0,cI,h0,h1,h5,hi,z,hw];exact ih _ ⟨by simp [h0],by simp [h1],by simp⟩
 ·rintro e L hL ⟨h0,h1,h5⟩;rw [PD];simp [c_201_l0,c_201_k1,h0,h5,hL]
 ·simp
theorem XQ (p:Prg) (x:Tbl) (hl:x.keys.length<2^40):a8 Φ AA [.agg (Prg.c p),.agg (Tbl.c x)]=some (.val (.tup [a7 (uS p x).1,a7 (uS p x).2])):=by
 rw [aA rfl rfl];have hE:uS p x=(fe (keyG p x) x.keys.length 0).getD (uT p x):=by
  unfold uS keyE;show (match fe (keyG p x) x.keys.length 0 with | some e=>e | none=>uT p x)=_;cases fe (keyG p x) x.keys.length 0<;>rfl
 rw [hE];simp [H9,Prg.e,Tbl.e];refine eY x.keys.length (fun i e=>look 2 e=some (.iptr 9 [Prg.c p] 0 0)/\look 3 e=some (.iptr 6 [Tbl.c x] 0 0)/\look 7 e=some (a7 ((x.keys.take i).countP fun k=>decide (k.kind=2):Nat))/\look 6 e=some (a7 ((kWid p x).take i).sum)/\look 8 e=some (a7 i))
  (fun i=>some (Rt.val (.tup [a7 ((fe (keyG p x) x.keys.length i).getD (uT p x)).1,a7 ((fe (keyG p x) x.keys.length i).getD (uT p x)).2]))) ?_ ?_ 0 _ (Qc _) ?_
 ·rintro i e L hi hL ⟨h2,h3,h7,h6,h8⟩ ih;have hw:=aM i (by omega);have hv:=Zc p x.keys[i].field.header x.keys[i].field.field;simp only [Prg.e] at hv;rw [Prg.e] at h2;rw [Tbl.e] at h3;by_cases z:wid p x.keys[i].field.header x.keys[i].field.field=0
  ·rw [z] at hv;rw [aU (x:=((i:Int),8)) hi (by simp [keyG,hi,z])];simp [c_190_l0,Xk.e,h2,h3,h8,hi,hv]
  have hs:=UH p x (i+1) (by omega);have hs0:=UH p x i (by omega);have he:((kWid p x).take (i+1)).sum=((kWid p x).take i).sum+wid p x.keys[i].field.header x.keys[i].field.field:=by
   have hl:i<(kWid p x).length:=by simp [kWid];omega
   rw [Qh hl,OB,OA];congr 1;simp [kWid]
  have hw7:IntKind.wrap .i64 (((kWid p x).take i).sum+wid p x.keys[i].field.header x.keys[i].field.field)=((kWid p x).take (i+1)).sum:=by rw [<- he];exact cN (by omega) (by omega)
  have hc:(x.keys.take (i+1)).countP (fun k=>decide (k.kind=2))=(x.keys.take i).countP (fun k=>decide (k.kind=2))+if x.keys[i].kind=2 then 1 else 0:=by
   rw [Qh hi,List.countP_append];congr 1;simp [List.countP_cons]
  have hcl:(x.keys.take i).countP (fun k=>decide (k.kind=2))<=i:=by
   have:=List.countP_le_length (l:=x.keys.take i) (p:=fun k=>decide (k.kind=2));simp at this;omega
  have hw6:IntKind.wrap .i64 (((x.keys.take i).countP (fun k=>decide (k.kind=2)):Nat)+1:Int)=(((x.keys.take i).countP (fun k=>decide (k.kind=2))+1:Nat):Int):=cN (by omega) (by omega);by_cases k2:x.keys[i].kind=2
  ·rw [cM hi (by simp [keyG,hi,z,k2])];rw [a9 k2] at hc;simp [c_190_l0,Xk.e,h2,h3,h6,h7,h8,hi,hv,z,k2,hw7,hw6,hw];exact ih _ ⟨by simp [h2,Prg.e],by simp [h3,Tbl.e],by simp [hc],by simp,by simp⟩
  rw [QA k2] at hc;by_cases k1:x.keys[i].kind=1
  ·rw [cM hi (by simp [keyG,hi,z,k1])];simp [c_190_l0,Xk.e,h2,h3,h6,h8,hi,hv,z,k1,hw7,hw];exact ih _ ⟨by simp [h2,Prg.e],by simp [h3,Tbl.e],by simp [hc,h7],by simp,by simp⟩
  by_cases k3:x.keys[i].kind=3
  ·rw [cM hi (by simp [keyG,hi,z,k3])];simp [c_190_l0,Xk.e,h2,h3,h6,h8,hi,hv,z,k3,hw7,hw];exact ih _ ⟨by simp [h2,Prg.e],by simp [h3,Tbl.e],by simp [hc,h7],by simp,by simp⟩
  ·rw [aU (x:=((i:Int),11)) hi (by simp [keyG,hi,z,k1,k2,k3])];simp [c_190_l0,Xk.e,h2,h3,h8,hi,hv,z,k1,k2,k3]
 ·rintro e L hL ⟨h2,h3,h7,h6,h8⟩;rw [dI];have ht:(kWid p x).take x.keys.length=kWid p x:=by rw [Qo];simp [kWid]
  rw [ht] at h6;rw [jQ] at h7;rw [Tbl.e] at h3;by_cases y1:1<x.keys.countP (fun k=>decide (k.kind=2))
  ·simp [c_190_l0,c_190_k1,h3,h7,h8,hL,uT,y1]
  by_cases y2:64<(kWid p x).sum
  ·simp [c_190_l0,c_190_k1,h3,h6,h7,h8,hL,uT,y1,y2]
  ·simp [c_190_l0,c_190_k1,h3,h6,h7,h8,hL,uT,y1,y2]
 ·simp [Prg.e,Tbl.e]
theorem UO (x:Int) (l:List Int):l.contains x=l.any fun s=>decide (s=x):=by
 have:=OH (fun y:Int=>y) x l;rw [List.map_id'] at this;exact this
theorem YP (p:Prg) (f:PrgS p) (x:Tbl) (hl:x.Xx.length<2^40) (hg:x.Yb.args.length<2^40) (hv:∀v∈x.Yb.args,ok32 0 v):a8 Φ AB [.agg (Prg.c p),.agg (Tbl.c x)]=some (.val (a7 (KZ p x))):=by
 rw [aA rfl rfl,qum];simp [HA,Prg.e,Tbl.e];refine eY x.Xx.length (fun i e=>look 2 e=some (.iptr 9 [Prg.c p] 0 0)/\look 3 e=some (.iptr 6 [Tbl.c x] 0 0)/\look 5 e=some (a7 i))
  (fun i=>some (Rt.val (a7 ((fe (vS p x) x.Xx.length i).getD (wR p x))))) ?_ ?_ 0 _ (Qc _) ?_
 ·rintro i e L hi hL ⟨h2,h3,h5⟩ ih;have hw:=aM i (by omega);rw [Prg.e] at h2;rw [Tbl.e] at h3;by_cases z0:x.Xx[i]<0
  ·rw [aU (x:=8) hi (by simp [vS,hi,z0])];simp [c_191_l0,cI,h3,h5,hi,z0]
  by_cases z1:(p.Xx.length:Int)<=x.Xx[i]
  ·rw [aU (x:=8) hi (by simp [vS,hi,z0,z1])];simp [c_191_l0,cI,h2,h3,h5,hi,z0,z1]
  have hx:=Pk x.Xx x.Xx[i] hl;obtain ⟨at',k1,k2⟩:=Tb (q:=fun s:Int=>decide (s=x.Xx[i])) hi (by simp) i 0 (by omega);rw [show ix (fun s=>decide (s=x.Xx[i])) x.Xx 0=(fxO (fun s:Int=>decide (s=x.Xx[i])) x.Xx 0).getD (-1) from rfl,k1] at hx;rw [S5,<- UO] at k2;simp only [jO] at hx;cases q:(x.Xx.take i).contains x.Xx[i] with
  | true=>
   rw [q] at k2;have k3:at'<i:=by simpa using k2
   rw [aU (x:=7) hi (by simp only [vS,Qa hi,eM];rw [QA (by omega),q];rfl)];simp [c_191_l0,cI,h2,h3,h5,hi,z0,z1,hx,k3]
  | false=>
   rw [q] at k2;have k3:¬at'<i:=by simpa using k2
   rw [cM hi (by simp only [vS,Qa hi,eM];rw [QA (by omega),q];rfl)];simp [c_191_l0,cI,h2,h3,h5,hi,z0,z1,hx,k3,hw];exact ih _ ⟨by simp [h2,Prg.e],by simp [h3,Tbl.e],by simp⟩
 ·rintro e L hL ⟨h2,h3,h5⟩;rw [dI];have hx:=Pk x.Xx x.Yb.Xy hl;have hc:=Ph p f x.Yb hg hv;have ha:=PC (p:=fun s=>decide (s=x.Yb.Xy)) (l:=x.Xx);rw [<- UO] at ha;simp only [Prg.e,Xb.e] at hc;rw [Prg.e] at h2;rw [Tbl.e] at h3;cases q:x.Xx.contains x.Yb.Xy with
  | true=>
   rw [q] at ha;have ha2:¬ix (fun s=>decide (s=x.Yb.Xy)) x.Xx 0<0:=by simpa using ha
   rw [show wR p x=j9 p x.Yb by simp only [wR,q];rfl];simp [c_191_l0,c_191_k1,h2,h3,h5,hL,hx,ha2,hc]
  | false=>
   rw [q] at ha;have ha2:ix (fun s=>decide (s=x.Yb.Xy)) x.Xx 0<0:=by simpa using ha
   rw [show wR p x=8 by simp only [wR,q];rfl];simp [c_191_l0,c_191_k1,h3,h5,hL,hx,ha2]
 ·simp [Prg.e,Tbl.e]
theorem Rn (p:Prg) (f:PrgS p) (hv:∀t∈p.Xm,∀v∈t.Yb.args,ok32 0 v) (t:Int):a8 Φ oS [.agg (Prg.c p),a7 t]=some (.val (.tup [a7 (tblE p t).1,a7 (tblE p t).2])):=by
 rw [aA rfl rfl];by_cases i0:t<0
 ·simp [fF,Prg.e,i0,tblE,eP i0]
 by_cases i1:(p.Xm.length:Int)<=t
 ·simp [fF,Prg.e,i0,i1,tblE,eZ i1]
 obtain ⟨k,rfl⟩:∃k:Nat,t=k:=⟨t.toNat,by omega⟩;have hk:k<p.Xm.length:=by omega
 have hm:=Qd hk;have n1:=FJ p.Xm[k].name (f.tn _ hm);have h1:=XQ p p.Xm[k] (f.tk _ hm);have h2:=YP p f p.Xm[k] (f.ta _ hm) (f.tg _ hm) (hv _ hm);simp only [Prg.e,Tbl.e] at h1 h2;cases q1:idS p.Xm[k].name with
 | false=>rw [q1] at n1;simp [fF,Prg.e,Tbl.e,hk,Qf.2 hk,n1,tblE,q1]
 | true=>
 rw [q1] at n1;by_cases z0:6<p.Xm[k].keys.length
 ·simp [fF,Prg.e,Tbl.e,hk,Qf.2 hk,n1,tblE,q1,z0]
 by_cases z1:16<p.Xm[k].Xx.length
 ·simp [fF,Prg.e,Tbl.e,hk,Qf.2 hk,n1,tblE,q1,z0,z1]
 by_cases z2:p.Xm[k].size<1
 ·simp [fF,Prg.e,Tbl.e,hk,Qf.2 hk,n1,tblE,q1,z0,z1,z2]
 by_cases z3:256<p.Xm[k].size
 ·simp [fF,Prg.e,Tbl.e,hk,Qf.2 hk,n1,tblE,q1,z0,z1,z2,z3]
 by_cases y1:(uS p p.Xm[k]).2=0
 rotate_left
 ·simp [fF,Prg.e,Tbl.e,hk,Qf.2 hk,n1,tblE,q1,z0,z1,z2,z3,h1,y1]
 rw [y1] at h1;by_cases y2:KZ p p.Xm[k]=0
 ·rw [y2] at h2;simp [fF,Prg.e,Tbl.e,hk,Qf.2 hk,n1,tblE,q1,z0,z1,z2,z3,h1,y1,h2,y2]
 ·simp [fF,Prg.e,Tbl.e,hk,Qf.2 hk,n1,tblE,q1,z0,z1,z2,z3,h1,y1,h2,y2]
theorem Zf (p:Prg) (s:Nat) (n:Int):a8 Φ tW [.agg (Prg.c p),a7 s,a7 n]=some (.val (.bool (jL p s n))):=by
 rw [aA rfl rfl];by_cases n1:n= -1
 ·simp [oL,Prg.e,jL,n1]
 by_cases n2:n= -2
 ·simp [oL,Prg.e,jL,n2]
 by_cases n3:(s:Int)<n
 ·simp [oL,Prg.e,jL,n1,n2,n3]
 ·simp [oL,Prg.e,jL,n1,n2,n3]
theorem Nv {p:Prg} {h i:Int} (z:wid p h i≠0):wBad (wid p h i)=false:=by
 unfold wid at z ⊢;cases q:decl p h i with
 | none=>rw [q] at z;simp at z
 | some w=>
  rw [q] at z;simp only at z ⊢;cases y:wBad w with
  | true=>rw [y] at z;simp at z
  | false=>simpa using y
theorem XM (p:Prg) (s:Nat) (hs:s<p.Xw.length) (hv:∀c∈p.Xw[s].cases,ok32 0 c.value/\ok32 0 c.Yd) (hl:p.Xw[s].cases.length<2^40) (hz:p.Xw[s].cases.length=0\/wid p p.Xw[s].on.header p.Xw[s].on.field≠0):
  a8 Φ tV [.agg (Prg.c p),a7 s]=some (.val (.tup [a7 ((fe (kP p s p.Xw[s]) p.Xw[s].cases.length 0).getD (-1,0)).1,a7 ((fe (kP p s p.Xw[s]) p.Xw[s].cases.length 0).getD (-1,0)).2])):=by
 rw [aA rfl rfl];have hw:=Zb p p.Xw[s].on.header p.Xw[s].on.field;simp only [Prg.e] at hw;simp [IO,Prg.e,Xc.e,hs,hw];refine dV p.Xw[s].cases.length (fun _=>[]) 0 (fun i e=>look 1 e=some (a7 s)/\look 2 e=some (.iptr 9 [Prg.c p] 0 0)/\look 6 e=some (.iptr 7 [Xc.c p.Xw[s]] 0 0)/\look 7 e=some (a7 (wid p p.Xw[s].on.header p.Xw[s].on.field))/\look 8 e=some (a7 i))
  (fun i=>some (Rt.val (.tup [a7 ((fe (kP p s p.Xw[s]) p.Xw[s].cases.length i).getD (-1,0)).1,a7 ((fe (kP p s p.Xw[s]) p.Xw[s].cases.length i).getD (-1,0)).2]))) ?_ ?_ 0 _ _ (Qc _) (Qc _) ?_
 ·rintro i e n L hi hL _ ⟨h1,h2,h6,h7,h8⟩ ih;have hwi:=aM i (by omega);have hc:=hv _ (Qd hi);have hz':wid p p.Xw[s].on.header p.Xw[s].on.field≠0:=by
   rcases hz with hz | hz
   ·omega
   ·exact hz
  have hb:=Nv hz';have hbr:=wBad_false.1 hb;obtain ⟨k,hk⟩:∃k:Nat,wid p p.Xw[s].on.header p.Xw[s].on.field=k:=⟨(wid p p.Xw[s].on.header p.Xw[s].on.field).toNat,by omega⟩;have f1:=On p.Xw[s].cases[i].value hc.1 k (by omega);have f2:=On p.Xw[s].cases[i].Yd hc.2 k (by omega);have e1:∀v,fits v (wid p p.Xw[s].on.header p.Xw[s].on.field)=decide (v<2^k):=by
   intro v;unfold fits;rw [hb,hk];simp
  have hd:=Zf p s p.Xw[s].cases[i].next;have ha:=Wu hc.1 hc.2;simp only [Prg.e] at hd;rw [Prg.e] at h2;rw [Xc.e] at h6;rw [hk] at h7;have done:∀z:Int,z≠0->mZ p s p.Xw[s] p.Xw[s].cases[i]=z->fe (kP p s p.Xw[s]) p.Xw[s].cases.length i=some ((i:Int),z):=by
   intro z z0 z1;exact aU hi (by simp [kP,hi,z1,z0])
  by_cases y1:p.Xw[s].cases[i].value<2^k
  rotate_left
  ·rw [done 9 (by decide) (by simp [mZ,e1,y1])];simp [c_303_l0,Xj.e,h6,h7,h8,hi,f1,y1]
  by_cases y2:p.Xw[s].cases[i].Yd<2^k
  rotate_left
  ·rw [done 9 (by decide) (by simp [mZ,e1,y2])];simp [c_303_l0,Xj.e,h6,h7,h8,hi,f1,f2,y1,y2]
  by_cases y3:iand .u32 p.Xw[s].cases[i].value p.Xw[s].cases[i].Yd=p.Xw[s].cases[i].value
  rotate_left
  ·have y3':¬(p.Xw[s].cases[i].value.toNat&&& p.Xw[s].cases[i].Yd.toNat=p.Xw[s].cases[i].value.toNat):=fun h=>y3 (ha.2 h)
   rw [done 5 (by decide) (by simp [mZ,e1,y1,y2,y3'])];simp [c_303_l0,Xj.e,h6,h7,h8,hi,f1,f2,y1,y2,y3]
  have y3':=ha.1 y3;cases y4:jL p s p.Xw[s].cases[i].next with
  | false=>
   rw [y4] at hd;rw [done 14 (by decide) (by simp [mZ,e1,y1,y2,y3',y4])];simp [c_303_l0,Xj.e,h1,h2,h6,h7,h8,hi,f1,f2,y1,y2,y3,hd]
  | true=>
   rw [y4] at hd;rw [cM hi (by simp [kP,hi,mZ,e1,y1,y2,y3',y4])];simp [c_303_l0,Xj.e,h1,h2,h6,h7,h8,hi,f1,f2,y1,y2,y3,hd,hwi];exact ih _ _ (Qc _) ⟨by simp [h1],by simp [h2,Prg.e],by simp [h6,Xc.e],by simp [h7,hk],by simp⟩
 ·rintro e n L hL _ ⟨h1,h2,h6,h7,h8⟩;rw [dI];rw [Xc.e] at h6;simp [c_303_l0,c_303_k1,h6,h8,hL]
 ·simp [Prg.e,Xc.e]
theorem Hd (p:Prg) (s:Nat) (hs:s<p.Xw.length) (hv:∀c∈p.Xw[s].cases,ok32 0 c.value/\ok32 0 c.Yd) (hl:p.Xw[s].cases.length<2^40) (e:Env) (n:Nat)
  (h1:look 1 e=some (a7 s)) (h2:look 2 e=some (.iptr 9 [Prg.c p] 0 0)) (h6:look 6 e=some (.iptr 7 [Xc.c p.Xw[s]] 0 0)):
  go Φ (finP [.tmp 4,.tmp 5]) [.c c_192_k2] .normal ⟨e,⟨[],n⟩⟩=some (.val (.tup [a7 (stK p s p.Xw[s]).1,a7 (stK p s p.Xw[s]).2])):=by
 have hw:=Zb p p.Xw[s].on.header p.Xw[s].on.field;have hd:=Zf p s p.Xw[s].Yb;simp only [Prg.e] at hw hd;rw [Prg.e] at h2;rw [Xc.e] at h6;have fin:∀(hz:p.Xw[s].cases.length=0\/wid p p.Xw[s].on.header p.Xw[s].on.field≠0),∃a b,a8 Φ tV [.agg (Prg.c p),a7 s]=some (.val (.tup [a7 a,a7 b]))/\
   ((b=0/\(fe (kP p s p.Xw[s]) p.Xw[s].cases.length 0).getD (stF p s p.Xw[s])=stF p s p.Xw[s])\/(b≠0/\(fe (kP p s p.Xw[s]) p.Xw[s].cases.length 0).getD (stF p s p.Xw[s])=(a,b))):=by
  intro hz;have hc:=XM p s hs hv hl hz;refine ⟨_,_,hc,?_⟩;cases q:fe (kP p s p.Xw[s]) p.Xw[s].cases.length 0 with
  | none=>exact .inl ⟨rfl,rfl⟩
  | some x=>
   refine .inr ⟨?_,rfl⟩;intro h0;have:x.2=0:=h0;have key:∀m i x,feF (kP p s p.Xw[s]) m i=some x->x.2≠0:=by
    intro m
    induction m with
    | zero=>intro i x h;simp [feF] at h
    | succ m ih=>
     intro i x h;simp only [feF] at h;cases g:kP p s p.Xw[s] i with
     | none=>rw [g] at h;exact ih _ _ h
     | some y=>
      rw [g] at h;cases h;unfold kP at g;cases gi:p.Xw[s].cases[i]? with
      | none=>rw [gi] at g;simp at g
      | some c=>
       rw [gi] at g;simp only [eM] at g;split at g
       ·cases g
       ·rename_i hne;cases g;exact hne
   exact key _ _ _ q this
 cases q:p.Xw[s].select with
 | true=>
  rw [q] at h6;by_cases z:wid p p.Xw[s].on.header p.Xw[s].on.field=0
  ·rw [z] at hw;simp [c_192_k2,h2,h6,hw,stK,q,z]
  obtain ⟨a,b,hc,hab⟩:=fin (.inr z);simp only [Prg.e] at hc;rw [show stK p s p.Xw[s]=(fe (kP p s p.Xw[s]) p.Xw[s].cases.length 0).getD (stF p s p.Xw[s]) by simp [stK,q,z]];rcases hab with ⟨b0,e1⟩ | ⟨b0,e1⟩
  ·rw [e1];rw [b0] at hc;cases y:jL p s p.Xw[s].Yb with
   | true=>rw [y] at hd;simp [c_192_k2,h1,h2,h6,hw,z,hc,hd,stF,y]
   | false=>rw [y] at hd;simp [c_192_k2,h1,h2,h6,hw,z,hc,hd,stF,y]
  ·rw [e1];simp [c_192_k2,h1,h2,h6,hw,z,hc,b0]
 | false=>
  rw [q] at h6;by_cases z:0<p.Xw[s].cases.length
  ·simp [c_192_k2,h6,stK,q,z]
  have z0:p.Xw[s].cases.length=0:=by omega
  obtain ⟨a,b,hc,hab⟩:=fin (.inl z0);simp only [Prg.e] at hc;rw [show stK p s p.Xw[s]=(fe (kP p s p.Xw[s]) p.Xw[s].cases.length 0).getD (stF p s p.Xw[s]) by simp [stK,q,z0]];rcases hab with ⟨b0,e1⟩ | ⟨b0,e1⟩
  ·rw [e1];rw [b0] at hc;cases y:jL p s p.Xw[s].Yb with
   | true=>rw [y] at hd;simp [c_192_k2,h1,h2,h6,z0,hc,hd,stF,y]
   | false=>rw [y] at hd;simp [c_192_k2,h1,h2,h6,z0,hc,hd,stF,y]
  ·rw [e1];simp [c_192_k2,h1,h2,h6,z0,hc,b0]
theorem Hc (p:Prg) (f:PrgS p) (s:Nat) (hs:s<p.Xw.length) (e:Env) (n:Nat)
  (h1:look 1 e=some (a7 s)) (h2:look 2 e=some (.iptr 9 [Prg.c p] 0 0)) (h6:look 6 e=some (.iptr 7 [Xc.c p.Xw[s]] 0 0)):
  go Φ (finP [.tmp 4,.tmp 5]) [.c c_192_k3] .normal ⟨e,⟨[],n⟩⟩=some (.val (.tup [a7 (stE p s p.Xw[s]).1,a7 (stE p s p.Xw[s]).2])):=by
 rw [RM];have hm:=Qd hs;have hse:=f.se _ hm;rw [Xc.e] at h6;by_cases z0:4<p.Xw[s].extract.length
 ·simp [c_192_k3,h6,z0]
 by_cases z1:8<p.Xw[s].cases.length
 ·simp [c_192_k3,h6,z0,z1]
 rw [QA (by omega)];generalize hX:(if p.Xw[s].extract.any (fun h=>decide (h<0) || decide ((p.Xo.length:Int)<=h))=true then ((-1:Int),(8:Int)) else stK p s p.Xw[s])=X;simp [c_192_k3,h6,z0,z1];refine (wK p.Xw[s].extract (fun h=>decide (h<0) || decide ((p.Xo.length:Int)<=h)) (some (Rt.val (.tup [a7 (-1),a7 8]))) (some (Rt.val (.tup [a7 (stK p s p.Xw[s]).1,a7 (stK p s p.Xw[s]).2])))
  (fun i e H=>look 1 e=some (a7 s)/\look 2 e=some (.iptr 9 [Prg.c p] 0 0)/\look 6 e=some (.iptr 7 [Xc.c p.Xw[s]] 0 0)/\look 8 e=some (a7 i)/\H=⟨[],n⟩) ?_ ?_ ?_ _ _ ?_).trans ?_
 ·rintro i e _ L hi hL ⟨h1,h2,h6,h8,rfl⟩ hb;rw [Prg.e] at h2;rw [Xc.e] at h6;simp only [DX,decide_eq_true_eq] at hb;by_cases y0:p.Xw[s].extract[i]<0
  ·simp [c_192_l1,cI,h6,h8,hi,y0]
  ·have y1:(p.Xo.length:Int)<=p.Xw[s].extract[i]:=by omega
   simp [c_192_l1,cI,h2,h6,h8,hi,y0,y1]
 ·rintro i e _ L X hi hL ⟨h1,h2,h6,h8,rfl⟩ hb ih;have hw:=aM i (by omega);rw [Prg.e] at h2;rw [Xc.e] at h6;simp only [GG,decide_eq_false_iff_not] at hb;simp [c_192_l1,cI,h2,h6,h8,hi,hb,hw];exact ih _ _ ⟨by simp [h1],by simp [h2,Prg.e],by simp [h6,Xc.e],by simp,rfl⟩
 ·rintro e _ L hL ⟨h1,h2,h6,h8,rfl⟩;rw [Xc.e] at h6;simp [c_192_l1,h6,h8,hL];refine Hd p s hs (fun c hc=>f.sv _ hm c hc) (f.sc _ hm) _ _ ?_ ?_ ?_
  ·simp [h1]
  ·simp [h2]
  ·simp [h6,Xc.e]
 ·simp [h1,h2,h6,Xc.e]
 ·rw [<- hX];cases p.Xw[s].extract.any (fun h=>decide (h<0) || decide ((p.Xo.length:Int)<=h))<;>rfl
def stA (p:Prg) (s:Nat) (x:Xc):Int×Int:=if idS x.name=false then (-1,6) else if dupN Xc.name p.Xw s x then (-1,7) else stE p s x
theorem YO (p:Prg) (f:PrgS p) (s:Nat) (hs:s<p.Xw.length):a8 Φ AC [.agg (Prg.c p),a7 s]=some (.val (.tup [a7 (stA p s p.Xw[s]).1,a7 (stA p s p.Xw[s]).2])):=by
 rw [aA rfl rfl];have hm:=Qd hs;have n1:=FJ p.Xw[s].name (f.sn _ hm);have hsl:=f.s;cases q1:idS p.Xw[s].name with
 | false=>rw [q1] at n1;simp [yH,Prg.e,Xc.e,hs,n1,stA,q1]
 | true=>
 rw [q1] at n1;have hE:stA p s p.Xw[s]=if dupN Xc.name p.Xw s p.Xw[s]=true then (-1,7) else stE p s p.Xw[s]:=by simp [stA,q1]
 rw [hE];unfold dupN;generalize hX:(if (p.Xw.take s).any (fun y=>decide (y.name=p.Xw[s].name))=true then ((-1:Int),(7:Int)) else stE p s p.Xw[s])=X;simp [yH,Prg.e,Xc.e,hs,n1];refine (wK (p.Xw.take s) (fun y=>decide (y.name=p.Xw[s].name)) (some (Rt.val (.tup [a7 (-1),a7 7]))) (some (Rt.val (.tup [a7 (stE p s p.Xw[s]).1,a7 (stE p s p.Xw[s]).2])))
  (fun k e H=>look 1 e=some (a7 s)/\look 2 e=some (.iptr 9 [Prg.c p] 0 0)/\look 6 e=some (.iptr 7 [Xc.c p.Xw[s]] 0 0)/\look 7 e=some (a7 k)/\∃n,H=⟨[],n⟩) ?_ ?_ ?_ _ _ ?_).trans ?_
 ·rintro k e _ L hk hL ⟨h1,h2,h6,h7,n,rfl⟩ hb;simp only [iA] at hk;have hk1:k<s:=by omega
  have hk2:k<p.Xw.length:=by omega
  simp only [lG,decide_eq_true_eq] at hb;rw [Prg.e] at h2;rw [Xc.e] at h6;simp [c_192_l0,Xc.e,h1,h2,h6,h7,hk1,hk2,hb]
 ·rintro k e _ L X hk hL ⟨h1,h2,h6,h7,n,rfl⟩ hb ih;simp only [iA] at hk;have hk1:k<s:=by omega
  have hk2:k<p.Xw.length:=by omega
  simp only [lG,decide_eq_false_iff_not] at hb;have hw:=aM k (by omega);rw [Prg.e] at h2;rw [Xc.e] at h6;simp [c_192_l0,Xc.e,h1,h2,h6,h7,hk1,hk2,hb,hw];exact ih _ _ ⟨by simp [h1],by simp [h2,Prg.e],by simp [h6,Xc.e],by simp,n,rfl⟩
 ·rintro e _ L hL ⟨h1,h2,h6,h7,n,rfl⟩;have hmn:min s p.Xw.length=s:=by omega
  simp [hmn] at h7;simp [c_192_l0,h1,h7,hL];refine Hc p f s hs _ _ ?_ ?_ ?_
  ·simp [h1]
  ·simp [h2]
  ·simp [h6]
 ·simp [Prg.e,Xc.e]
 ·rw [<- hX];cases (p.Xw.take s).any (fun y=>decide (y.name=p.Xw[s].name))<;>rfl
theorem Bw (p:Prg) (f:PrgS p):a8 Φ zN [.agg (Prg.c p)]=some (tup3 (parE p)):=by
 rw [aA rfl rfl];by_cases z0:p.Xw.length=0
 ·simp [rJ,Prg.e,z0,parE,tup3]
 by_cases z1:12<p.Xw.length
 ·simp [rJ,Prg.e,z0,z1,parE,tup3]
 have hE:parE p=(fe (parG p) p.Xw.length 0).getD (0,0,0):=by unfold parE;rw [QA z0,QA z1];rfl
 rw [hE];simp [rJ,Prg.e,z0,z1];refine eY p.Xw.length (fun i e=>look 1 e=some (.iptr 9 [Prg.c p] 0 0)/\look 5 e=some (a7 i))
  (fun i=>some (tup3 ((fe (parG p) p.Xw.length i).getD (0,0,0)))) ?_ ?_ 0 _ (Qc _) ?_
 ·rintro i e L hi hL ⟨h1,h5⟩ ih;have hw:=aM i (by omega);have hs:=YO p f i hi;simp only [Prg.e] at hs;rw [Prg.e] at h1;by_cases y:(stA p i p.Xw[i]).2=0
  ·rw [y] at hs;have e1:parG p i=none:=by
    unfold stA at y;unfold parG;rw [Qa hi,eM];split at y
    ·simp at y
    ·rename_i a1;split at y
     ·simp at y
     ·rename_i a2;rw [QA a1,QA a2,a9 y]
   rw [cM hi e1];simp [c_115_l0,h1,h5,hi,hs,hw];exact ih _ ⟨by simp [h1,Prg.e],by simp⟩
  ·have e1:parG p i=some ((i:Int),(stA p i p.Xw[i]).1,(stA p i p.Xw[i]).2):=by
    unfold stA at y ⊢;unfold parG;rw [Qa hi,eM];split
    ·rfl
    ·rename_i a1;rw [QA a1] at y;split
     ·rfl
     ·rename_i a2;rw [QA a2] at y;rw [QA y]
   rw [aU hi e1];simp [c_115_l0,h1,h5,hi,hs,y,tup3]
 ·rintro e L hL ⟨h1,h5⟩;rw [dI];rw [Prg.e] at h1;simp [c_115_l0,c_115_k1,h1,h5,hL,tup3]
 ·simp [Prg.e]
theorem Aa (p:Prg) (f:PrgS p):a8 Φ zP [.agg (Prg.c p)]=some (.val (.tup [a7 (depE p).1,a7 (depE p).2])):=by
 rw [aA rfl rfl];by_cases z1:8<p.Xr.length
 ·simp [xP,Prg.e,z1,depE]
 have hE:depE p=(fe (depG p) p.Xr.length 0).getD (0,0):=by unfold depE;rw [QA z1];rfl
 rw [hE];simp [xP,Prg.e,z1];refine eY p.Xr.length (fun i e=>look 1 e=some (.iptr 9 [Prg.c p] 0 0)/\look 4 e=some (a7 i))
  (fun i=>some (Rt.val (.tup [a7 ((fe (depG p) p.Xr.length i).getD (0,0)).1,a7 ((fe (depG p) p.Xr.length i).getD (0,0)).2]))) ?_ ?_ 0 _ (Qc _) ?_
 ·rintro i e L hi hL ⟨h1,h4⟩ ih;have hw:=aM i (by omega);rw [Prg.e] at h1;by_cases y0:p.Xr[i]<0
  ·rw [aU (x:=((i:Int),8)) hi (by simp [depG,hi,y0])];simp [c_117_l2,cI,h1,h4,hi,y0]
  by_cases y1:(p.Xo.length:Int)<=p.Xr[i]
  ·rw [aU (x:=((i:Int),8)) hi (by simp [depG,hi,y0,y1])];simp [c_117_l2,cI,h1,h4,hi,y0,y1]
  generalize hX:some (Rt.val (.tup [a7 ((fe (depG p) p.Xr.length i).getD (0,0)).1,a7 ((fe (depG p) p.Xr.length i).getD (0,0)).2]))=X;simp [c_117_l2,cI,h1,h4,hi,y0,y1];refine (wK (p.Xr.take i) (fun g=>decide (g=p.Xr[i])) (some (Rt.val (.tup [a7 i,a7 7]))) (some (Rt.val (.tup [a7 ((fe (depG p) p.Xr.length (i+1)).getD (0,0)).1,a7 ((fe (depG p) p.Xr.length (i+1)).getD (0,0)).2])))
   (fun k e H=>look 1 e=some (.iptr 9 [Prg.c p] 0 0)/\look 4 e=some (a7 i)/\look 5 e=some (a7 k)/\H=⟨[],0⟩) ?_ ?_ ?_ _ _ ?_).trans ?_
  ·rintro k e _ L' hk hL' ⟨h1,h4,h5,rfl⟩ hb;simp only [iA] at hk;have hk1:k<i:=by omega
   have hk2:k<p.Xr.length:=by omega
   simp only [lG,decide_eq_true_eq] at hb;rw [Prg.e] at h1;simp [c_117_l0,cI,h1,h4,h5,hk1,hk2,hi,hb]
  ·rintro k e _ L' X hk hL' ⟨h1,h4,h5,rfl⟩ hb ih';simp only [iA] at hk;have hk1:k<i:=by omega
   have hk2:k<p.Xr.length:=by omega
   simp only [lG,decide_eq_false_iff_not] at hb;have hw':=aM k (by omega);rw [Prg.e] at h1;simp [c_117_l0,cI,h1,h4,h5,hk1,hk2,hi,hb,hw'];exact ih' _ _ ⟨by simp [h1,Prg.e],by simp [h4],by simp,rfl⟩
  ·rintro e _ L' hL' ⟨h1,h4,h5,rfl⟩;have hm:min i p.Xr.length=i:=by omega
   simp [hm] at h5;simp [c_117_l0,c_117_k1,h4,h5,hL',hw];exact ih _ ⟨by simp [h1],by simp⟩
  ·simp [h1,h4,Prg.e]
  ·rw [<- hX];cases q:(p.Xr.take i).contains p.Xr[i] with
   | true=>
    rw [aU (x:=((i:Int),7)) hi (by simp only [depG,Qa hi,eM];rw [QA (by omega),q];rfl)];rw [UO] at q;rw [q];rfl
   | false=>
    rw [cM hi (by simp only [depG,Qa hi,eM];rw [QA (by omega),q];rfl)];rw [UO] at q;rw [q];rfl
 ·rintro e L hL ⟨h1,h4⟩;rw [dI];rw [Prg.e] at h1;simp [c_117_l2,c_117_k3,h1,h4,hL]
 ·simp [Prg.e]
theorem Pi:∀(n:Nat) (l:List Xa),SizeOf.sizeOf l<=n->(pre l).length<2^40->a8 Φ p8 [.slice 5 (l.map Xa.c)]=some (.val (a7 ((pre l).length:Nat)))
 | 0,l,h,hb=>by cases l<;>simp at h
 | n+1,l,h,hb=>by
  rw [aA rfl rfl];have hll:=CZ l;generalize hX:some (Rt.val (a7 ((pre l).length:Nat)))=X;simp [HB];refine eY l.length (fun i e=>look 0 e=some (.slice 5 (l.map Xa.c))/\look 3 e=some (a7 ((pre (l.take i)).length:Nat))/\look 4 e=some (a7 i)) (fun i=>X) ?_ ?_ 0 _ (Qc _) ?_
  ·rintro i e L hi hL ⟨h0,h3,h4⟩ ih;have hw:=aM i (by omega);obtain ⟨k,t,c,a,b,hx⟩:=CY l[i];have hm:l[i]∈l:=Qd hi;have hs:SizeOf.sizeOf l[i]<SizeOf.sizeOf l:=O8 hm;have ht:=V6 hi;have htl:(pre (l.take (i+1))).length<=(pre l).length:=by
    have:pre l=pre (l.take (i+1))++pre (l.drop (i+1)):=by rw [<- K9,ER]
    rw [this];simp
   rw [hx] at hs ht;rw [FO] at ht;simp at hs;have htl2:=congrArg List.length ht;simp at htl2;have i1:=Pi n a (by omega) (by omega);have i2:=Pi n b (by omega) (by omega);have w1:IntKind.wrap .i64 (1+((pre a).length:Int))=1+((pre a).length:Int):=cN (by omega) (by omega);have w2:IntKind.wrap .i64 (1+((pre a).length:Int)+((pre b).length:Int))=1+((pre a).length:Int)+((pre b).length:Int):=cN (by omega) (by omega);have w3:IntKind.wrap .i64 (((pre (l.take i)).length:Int)+(1+((pre a).length:Int)+((pre b).length:Int)))=((pre (l.take i)).length:Int)+(1+((pre a).length:Int)+((pre b).length:Int)):=cN (by omega) (by omega);simp [c_193_l0,h0,h3,h4,hi,hw,hx,Xa.e,i1,i2,w1,w2,w3];refine ih _ ⟨by simp [h0],?_,by simp⟩;rw [htl2];simp;omega
  ·rintro e L hL ⟨h0,h3,h4⟩;rw [jQ] at h3;simp [c_193_l0,c_193_k1,h0,h3,h4,hL,<- hX]
  ·simp [pre]
theorem Vq:∀a b:List Xa,nest (a++b)=max (nest a) (nest b)
 | [],b=>by simp [nest]
 | x::a,b=>by rw [n9,nest,Vq a b,nest];omega
theorem Rm:∀(n:Nat) (l:List Xa),SizeOf.sizeOf l<=n->(pre l).length<2^40->a8 Φ p9 [.slice 5 (l.map Xa.c)]=some (.val (a7 (nest l:Nat)))
 | 0,l,h,hb=>by cases l<;>simp at h
 | n+1,l,h,hb=>by
  rw [aA rfl rfl];have hll:=CZ l;generalize hX:some (Rt.val (a7 (nest l:Nat)))=X;simp [HC];refine eY l.length (fun i e=>look 0 e=some (.slice 5 (l.map Xa.c))/\look 3 e=some (a7 (nest (l.take i):Nat))/\look 4 e=some (a7 i)) (fun i=>X) ?_ ?_ 0 _ (Qc _) ?_
  ·rintro i e L hi hL ⟨h0,h3,h4⟩ ih;have hw:=aM i (by omega);obtain ⟨k,t,c,a,b,hx⟩:=CY l[i];have hm:l[i]∈l:=Qd hi;have hs:SizeOf.sizeOf l[i]<SizeOf.sizeOf l:=O8 hm;have hp:=Sa hi;have hn:nest (l.take (i+1))=max (nest (l.take i)) (1+EH l[i]):=by
    rw [Qh hi,Vq];simp [nest]
   rw [hx] at hs hp hn;rw [FO] at hp;rw [Rj] at hn;simp at hs hp;have i1:=Rm n a (by omega) (by omega);have i2:=Rm n b (by omega) (by omega);have l1:=P5 a;have l2:=P5 b;have w1:IntKind.wrap .i64 (1+(nest a:Int))=1+(nest a:Int):=cN (by omega) (by omega);have w2:IntKind.wrap .i64 (1+(nest b:Int))=1+(nest b:Int):=cN (by omega) (by omega);simp [c_194_l0,h0,h3,h4,hi,hw,hx,Xa.e,i1,i2,w1,w2];refine ih _ ⟨by simp [h0],?_,by simp⟩;simp [hn];split<;>split<;>omega
  ·rintro e L hL ⟨h0,h3,h4⟩;rw [jQ] at h3;simp [c_194_l0,c_194_k1,h0,h3,h4,hL,<- hX]
  ·simp [nest]
theorem Ol:∀(n:Nat) (l:List Xa),SizeOf.sizeOf l<=n->(pre l).length<2^30->a8 Φ mE [.slice 5 (l.map Xa.c)]=some (.val (.slice 5 ((pre l).map Xa.c)))
 | 0,l,h,hb=>by cases l<;>simp at h
 | n+1,l,h,hb=>by
  rw [aA rfl rfl];have hll:=CZ l;generalize hX:some (Rt.val (AV.slice 5 ((pre l).map Xa.c)))=X;simp [HD];refine K8 l.length (fun i e H=>look 0 e=some (.slice 5 (l.map Xa.c))/\look 3 e=some (.app 5 ((pre (l.take i)).map Xa.c) 0)/\look 4 e=some (a7 i)/\H=⟨[(0,.tok 5 (pre (l.take i)).length)],1⟩) (fun i=>X) ?_ ?_ 0 _ _ (Qc _) ?_
  ·rintro i e _ L hi hL ⟨h0,h3,h4,rfl⟩ ih;have hw:=aM i (by omega);obtain ⟨k,t,c,a,b,hx⟩:=CY l[i];have hm:l[i]∈l:=Qd hi;have hs:SizeOf.sizeOf l[i]<SizeOf.sizeOf l:=O8 hm;have ht:=V6 hi;have htl:(pre (l.take (i+1))).length<=(pre l).length:=by
    have:pre l=pre (l.take (i+1))++pre (l.drop (i+1)):=by rw [<- K9,ER]
    rw [this];simp
   rw [hx] at hs ht;rw [FO] at ht;simp at hs;have htl2:=congrArg List.length ht;simp at htl2;have i1:=Ol n a (by omega) (by omega);have i2:=Ol n b (by omega) (by omega);have b1:((pre (l.take i)).length+1)*88<=70368744177664:=by omega
   have b2:((pre (l.take i)).length+1+(pre a).length)*88<=70368744177664:=by omega
   have b3:((pre (l.take i)).length+(1+(pre a).length)+(pre b).length)*88<=70368744177664:=by omega
   have b4:((pre (l.take i)).length+1+(pre a).length+(pre b).length)*88<=70368744177664:=by omega
   have e6:(pre (l.take i)).length+((pre a).length+1)=(pre (l.take i)).length+1+(pre a).length:=by omega
   have b5:((pre (l.take i)).length+(1+(pre a).length))*88<=70368744177664:=by omega
   simp [c_195_l0,h0,h3,h4,hi,hw,hx,Xa.e,i1,i2,e6,b1,b2,b4];refine ih _ _ ⟨by simp [h0],?_,by simp,?_⟩
   ·simp [ht,Xa.e]
   ·simp [htl2];omega
  ·rintro e _ L hL ⟨h0,h3,h4,rfl⟩;rw [jQ] at h3;simp [c_195_l0,c_195_k1,h0,h3,h4,hL,<- hX]
  ·simp [pre]
end Go.Av
