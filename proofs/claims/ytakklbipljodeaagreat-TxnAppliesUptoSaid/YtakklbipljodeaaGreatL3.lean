/-
 Expressions: the reference's answers.
-/
import Derived.Test.YtakklbipljodeaaGreatK21
set_option linter.unusedVariables false
set_option linter.unusedSimpArgs false
set_option linter.constructorNameAsVariable false
namespace Go.Av
set_option maxRecDepth 4000
theorem qmh (p:Prg) (h i:Int):qab Φ f_320 [.agg (Prg.c p),.agg [.int .i64 h,.int .i64 i]]=some (.val (match decl p h i with
  | some w=> .tup [.int .i64 w,.bool true]
  | none=> .tup [.int .i64 0,.bool false])):=by
 rw [qaa (fn:=c_320) rfl rfl,qlx];by_cases hm:h= -1
 ·subst hm;by_cases i0:i<0
  ·rw [show qax p (-1) i=none by simp [qax,qbq i0]];simp [c_320,Prg.e,i0]
  by_cases i1:(p.metadata.length:Int)≤i
  ·rw [show qax p (-1) i=none by simp [qax,qbp i1]];simp [c_320,Prg.e,i0,i1]
  obtain ⟨k,rfl⟩:∃k:Nat,i=k:=⟨i.toNat,by omega⟩;have hk:k<p.metadata.length:=by omega
  rw [show qax p (-1) k=some p.metadata[k] by simp [qax,hk]];simp [c_320,Prg.e,i0,i1,hk,Fld.e]
 by_cases h0:h<0
 ·rw [show qax p h i=none by simp [qax,hm,qbq h0]];simp [c_320,Prg.e,hm,h0]
 by_cases h1:(p.headers.length:Int)≤h
 ·rw [show qax p h i=none by simp [qax,hm,qbp h1]];simp [c_320,Prg.e,hm,h0,h1]
 obtain ⟨m,rfl⟩:∃k:Nat,h=k:=⟨h.toNat,by omega⟩;have hk:m<p.headers.length:=by omega
 by_cases i0:i<0
 ·rw [show qax p m i=none by simp [qax,hm,hk,qbq i0]];simp [c_320,Prg.e,hm,hk,Nat.not_le.2 hk,i0,Header.e]
 by_cases i1:(p.headers[m].fields.length:Int)≤i
 ·rw [show qax p m i=none by simp [qax,hm,hk,qbp i1]];simp [c_320,Prg.e,hm,hk,Nat.not_le.2 hk,i0,i1,Header.e]
 obtain ⟨k,rfl⟩:∃k:Nat,i=k:=⟨i.toNat,by omega⟩;have hk2:k<p.headers[m].fields.length:=by omega
 rw [show qax p m k=some p.headers[m].fields[k] by simp [qax,hm,hk,hk2]];simp [c_320,Prg.e,hm,hk,Nat.not_le.2 hk,hk2,Nat.not_le.2 hk2,Header.e,Fld.e]
theorem qki (w:Int):qab Φ f_350 [.int .i64 w]=some (.val (.tup [.int .i64 (wide w).1,.int .i64 (wide w).2])):=by
 rw [qaa (fn:=c_350) rfl rfl];by_cases h1:w<1
 ·simp [c_350,wide,wBad,h1]
 by_cases h2:32<w
 ·simp [c_350,wide,wBad,h1,h2]
 simp [c_350,wide,wBad,h1,h2]
theorem qsw (w:Int):qab Φ f_308 [.int .i64 w]=some (.val (.int .u32 (qbe w))):=by
 rw [qaa (fn:=c_308) rfl rfl];have h1:=qiw w;cases q:wBad w with
 | true=>
  rw [q] at h1;simp [c_308,h1,qbe,q]
 | false=>
  rw [q] at h1;obtain ⟨w1,w2⟩:=wBad_false.1 q;obtain ⟨k,rfl⟩:∃k:Nat,w=k:=⟨w.toNat,by omega⟩;have h2:=qkc k (by omega);have hb:(2:Int)^k≤2^32:=by
   have:=Nat.pow_le_pow_right (n:=2) (by omega) (show k≤32 by omega)
   exact_mod_cast this
  have h0:(0:Int)<2^k:=by
   have:=Nat.pow_pos (a:=2) (n:=k) (by omega)
   exact_mod_cast this
  have c1:IntKind.wrap .u64 ((2:Int)^k - 1)=2^k - 1:=qme (by omega) (by omega);have c2:IntKind.wrap .u32 ((2:Int)^k - 1)=2^k - 1:=qte (by omega) (by omega);simp [c_308,h1,h2,c1,c2,qbe,q]
theorem qade (p:Prg) (ps:List Fld) (x:ExprNode):qab Φ f_345 [.agg (ExprNode.c x),.agg (scC p ps)]=some (.val (.tup [.int .i64 (prim p ps x).1,.int .i64 (prim p ps x).2])):=by
 rw [qaa (fn:=c_345) rfl rfl];by_cases o1:x.op=1
 ·have hw:=qki x.w;have hm:=qsw x.w;have hmw:=qn4 x.w;cases q:wBad x.w with
  | true=>
   simp [wide,q] at hw;simp [c_345,qag,ExprNode.e,o1,prim,hw,q]
  | false=>
   simp [wide,q] at hw;by_cases n0:x.n<0
   ·simp [c_345,qag,ExprNode.e,o1,prim,hw,q,n0]
   have e:qbe x.w=2^x.w.toNat - 1:=by simp [qbe,q]
   rw [e] at hm hmw;by_cases n1:2^x.w.toNat - 1<x.n
   ·simp [c_345,qag,ExprNode.e,o1,prim,hw,hm,hmw,q,n0,n1]
   ·simp [c_345,qag,ExprNode.e,o1,prim,hw,hm,hmw,q,n0,n1]
 by_cases o2:x.op=2
 ·have hf:=qmh p x.n x.w;simp only [Prg.e] at hf;cases q:decl p x.n x.w with
  | none=>
   rw [q] at hf;simp [c_345,qag,ExprNode.e,o2,prim,hf,q]
  | some w=>
   rw [q] at hf;have hw:=qki w;simp [c_345,qag,ExprNode.e,o2,prim,hf,hw,q]
 by_cases o3:x.op=3
 ·by_cases n0:x.n<0
  ·simp [c_345,qag,ExprNode.e,o3,prim,n0,qbq n0]
  by_cases n1:(ps.length:Int)≤x.n
  ·simp [c_345,qag,ExprNode.e,o3,prim,n0,n1,qbp n1]
  obtain ⟨k,hk⟩:∃k:Nat,x.n=k:=⟨x.n.toNat,by omega⟩;have hk2:k<ps.length:=by omega
  have hw:=qki ps[k].width;simp [c_345,qag,ExprNode.e,Fld.e,o3,prim,hk,hk2,Nat.not_le.2 hk2,hw]
 by_cases n0:x.n<0
 ·simp [c_345,qag,ExprNode.e,o1,o2,o3,prim,n0,qbq n0]
 by_cases n1:(p.headers.length:Int)≤x.n
 ·simp [c_345,qag,ExprNode.e,o1,o2,o3,prim,n0,n1,qbp n1]
 obtain ⟨k,hk⟩:∃k:Nat,x.n=k:=⟨x.n.toNat,by omega⟩;have hk2:k<p.headers.length:=by omega
 simp [c_345,qag,ExprNode.e,o1,o2,o3,prim,hk,hk2,Nat.not_le.2 hk2]
theorem qyf (op:Int):qab Φ f_344 [.int .i64 op]=some (.val (.int .i64 (ari op))):=by
 rw [qaa (fn:=c_344) rfl rfl];rcases (show op<1∨(1≤op∧op≤4)∨(5≤op∧op≤8)∨(9≤op∧op≤16)∨op=17∨17<op by omega) with h | h | h | h | h | h
 ·have e:ari op= -1:=by unfold ari;rw [if_neg (by omega),if_neg (by omega),if_neg (by omega),if_neg (by omega)]
  rw [e];simp [c_344,show ¬1≤op by omega,show ¬5≤op by omega,show ¬9≤op by omega,show ¬op=17 by omega]
 ·simp [c_344,ari,h]
 ·simp [c_344,ari,h,show 1≤op by omega,show ¬op≤4 by omega]
 ·simp [c_344,ari,h,show 1≤op by omega,show ¬op≤4 by omega,show 5≤op by omega,show ¬op≤8 by omega]
 ·subst h;simp [c_344,ari]
 ·have e:ari op= -1:=by unfold ari;rw [if_neg (by omega),if_neg (by omega),if_neg (by omega),if_neg (by omega)]
  rw [e];simp [c_344,show 1≤op by omega,show ¬op≤4 by omega,show 5≤op by omega,show ¬op≤8 by omega,show 9≤op by omega,show ¬op≤16 by omega,show ¬op=17 by omega]
theorem ari_1 {op:Int} (h:ari op=1):op=5∨op=6∨op=7∨op=8:=by
 unfold ari at h;split at h
 ·omega
 split at h
 ·omega
 split at h
 ·omega
 split at h<;>omega
theorem ari_2 {op:Int} (h:ari op=2):9≤op∧op≤16:=by
 unfold ari at h;split at h
 ·omega
 split at h
 ·omega
 split at h
 ·omega
 split at h<;>omega
theorem ari_3 {op:Int} (h:ari op=3):op=17:=by
 unfold ari at h;split at h
 ·omega
 split at h
 ·omega
 split at h
 ·omega
 split at h<;>omega
theorem qsf (x:ExprNode) (a:Int) (ha:0≤a∧a≤32) (hx:ari x.op=1):qab Φ f_346 [.agg (ExprNode.c x),.slice 1 [[.int .i64 a]]]=some (.val (.tup [.int .i64 (comb x a 0 0).1,.int .i64 (comb x a 0 0).2])):=by
 rw [qaa (fn:=c_346) rfl rfl];rcases ari_1 hx with o | o | o | o
 ·simp [c_346,ExprNode.e,o,comb,ari]
 ·by_cases n0:x.n<0
  ·simp [c_346,ExprNode.e,o,comb,n0]
  by_cases n1:31<x.n
  ·simp [c_346,ExprNode.e,o,comb,n0,n1]
  simp [c_346,ExprNode.e,o,comb,n0,n1]
 ·by_cases n0:x.n<0
  ·simp [c_346,ExprNode.e,o,comb,n0]
  by_cases n1:31<x.n
  ·simp [c_346,ExprNode.e,o,comb,n0,n1]
  simp [c_346,ExprNode.e,o,comb,n0,n1]
 ·by_cases n0:x.n<0
  ·simp [c_346,ExprNode.e,o,comb,n0]
  by_cases w1:x.w<1
  ·simp [c_346,ExprNode.e,o,comb,n0,wBad,w1]
  by_cases w2:32<x.w
  ·simp [c_346,ExprNode.e,o,comb,n0,wBad,w1,w2]
  have hs:IntKind.wrap .i64 (a - x.w)=a - x.w:=qac (by omega) (by omega);by_cases n1:a - x.w<x.n
  ·simp [c_346,ExprNode.e,o,comb,n0,wBad,w1,w2,hs,n1]
  ·simp [c_346,ExprNode.e,o,comb,n0,wBad,w1,w2,hs,n1]
theorem qsg (x:ExprNode) (a b:Int) (ha:0≤a∧a≤32) (hb:0≤b∧b≤32) (hx:ari x.op=2):qab Φ f_346 [.agg (ExprNode.c x),.slice 1 [[.int .i64 a],[.int .i64 b]]]=some (.val (.tup [.int .i64 (comb x a b 0).1,.int .i64 (comb x a b 0).2])):=by
 rw [qaa (fn:=c_346) rfl rfl];have hr:=ari_2 hx;have o5:¬x.op=5:=by omega
 have o6:¬x.op=6:=by omega
 have o7:¬x.op=7:=by omega
 have o8:¬x.op=8:=by omega
 have o17:¬x.op=17:=by omega
 have hab:IntKind.wrap .i64 (a+b)=a+b:=qac (by omega) (by omega);have hw2:=qki (a+b);by_cases o14:x.op=14
 ·simp [c_346,ExprNode.e,o14,comb,hab,hw2]
 by_cases ab:a=b
 ·by_cases o15:x.op=15
  ·simp [c_346,ExprNode.e,o15,comb,ab]
  by_cases o16:x.op=16
  ·simp [c_346,ExprNode.e,o16,comb,ab]
  simp [c_346,ExprNode.e,o5,o6,o7,o8,o14,o15,o16,o17,comb,hx,ab]
 ·simp [c_346,ExprNode.e,o5,o6,o7,o8,o14,o17,comb,hx,ab]
theorem qsh (x:ExprNode) (a b c:Int) (hx:ari x.op=3):qab Φ f_346 [.agg (ExprNode.c x),.slice 1 [[.int .i64 a],[.int .i64 b],[.int .i64 c]]]=some (.val (.tup [.int .i64 (comb x a b c).1,.int .i64 (comb x a b c).2])):=by
 rw [qaa (fn:=c_346) rfl rfl];have o:=ari_3 hx;by_cases a1:a=1
 ·by_cases bc:b=c
  ·simp [c_346,ExprNode.e,o,comb,a1,bc]
  ·simp [c_346,ExprNode.e,o,comb,a1,bc]
 ·simp [c_346,ExprNode.e,o,comb,a1]
theorem qhk (p:Prg) (ps:List Fld) (l:List ExprNode) (hl:l.length<2^40):∀n i,l.length - i<n→i≤l.length→chkR (chk p ps l n i) (qab Φ f_340 [.slice 3 (l.map ExprNode.c),.int .i64 (i:Nat),.agg (scC p ps)])
 | 0,i,h,hle=>by omega
 | n+1,i,h,hle=>by
  rw [qaa (fn:=c_340) rfl rfl];by_cases hi:i<l.length
  rotate_left
  ·have:i=l.length:=by omega
   subst this;simp [chk,chkR,c_340,qag]
  have ih1:=qhk p ps l hl n (i+1) (by omega) (by omega);have hA:=qyf l[i].op;have hP:=qade p ps l[i];have hw:IntKind.wrap .i64 ((i:Int)+1)=(i:Int)+1:=qac (by omega) (by omega);have e1:((i+1:Nat):Int)=(i:Int)+1:=by omega
  rw [e1] at ih1;simp only [qag,ExprNode.e] at ih1 hP;simp only [chk,List.getElem?_eq_getElem hi];rcases qpp l[i].op with k | k | k | k | k
  ·rw [k] at hA;simp [chkR,c_340,qag,ExprNode.e,hi,Nat.not_le.2 hi,hA,k]
  ·rw [k] at hA;by_cases z:(prim p ps l[i]).2=0
   ·rw [z] at hP;simp [chkR,c_340,qag,ExprNode.e,hi,Nat.not_le.2 hi,hA,k,hP,z,hw]
   ·simp [chkR,c_340,qag,ExprNode.e,hi,Nat.not_le.2 hi,hA,k,hP,z,hw]
  ·rw [k] at hA;simp [c_340,qag,ExprNode.e,hi,Nat.not_le.2 hi,hA,k,hw];rw [qay];cases h1:chk p ps l n (i+1) with
   | error e=>
    rw [h1] at ih1;obtain ⟨he,a,b,hc⟩:=ih1;simp [c_340_l0,chkR,hc,he]
   | ok q=>
    obtain ⟨a,i1⟩:=q;rw [h1] at ih1;obtain ⟨ra,r1,r2⟩:=qcm h1;have hC:=qsf l[i] a (by omega) k;simp only [ExprNode.e] at hC;simp only [chkR] at ih1;simp [c_340_l0,ih1];rw [qay];simp [wr1,c_340_k1,hi,ExprNode.e,hC];exact qgi _ _ _
  ·rw [k] at hA;simp [c_340,qag,ExprNode.e,hi,Nat.not_le.2 hi,hA,k,hw];rw [qay];cases h1:chk p ps l n (i+1) with
   | error e=>
    rw [h1] at ih1;obtain ⟨he,a,b,hc⟩:=ih1;simp [c_340_l0,chkR,hc,he]
   | ok q=>
    obtain ⟨a,i1⟩:=q;rw [h1] at ih1;obtain ⟨ra,r1,r2⟩:=qcm h1;simp only [chkR] at ih1;simp [c_340_l0,ih1];rw [qay];have ih2:=qhk p ps l hl n i1 (by omega) (by omega);simp only [qag] at ih2;cases h2:chk p ps l n i1 with
    | error e=>
     rw [h2] at ih2;obtain ⟨he,x,y,hc⟩:=ih2;simp [chkR,hc,he,wr1]
    | ok q=>
     obtain ⟨b,i2⟩:=q;rw [h2] at ih2;obtain ⟨rb,s1,s2⟩:=qcm h2;simp only [chkR] at ih2;have hC:=qsg l[i] a b (by omega) (by omega) k;simp only [ExprNode.e] at hC;simp [ih2,wr1];rw [qay];simp [wr2,c_340_k1,hi,ExprNode.e,hC];exact qgi _ _ _
  ·rw [k] at hA;simp [c_340,qag,ExprNode.e,hi,Nat.not_le.2 hi,hA,k,hw];rw [qay];cases h1:chk p ps l n (i+1) with
   | error e=>
    rw [h1] at ih1;obtain ⟨he,a,b,hc⟩:=ih1;simp [c_340_l0,chkR,hc,he]
   | ok q=>
    obtain ⟨a,i1⟩:=q;rw [h1] at ih1;obtain ⟨ra,r1,r2⟩:=qcm h1;simp only [chkR] at ih1;simp [c_340_l0,ih1];rw [qay];have ih2:=qhk p ps l hl n i1 (by omega) (by omega);simp only [qag] at ih2;cases h2:chk p ps l n i1 with
    | error e=>
     rw [h2] at ih2;obtain ⟨he,x,y,hc⟩:=ih2;simp [chkR,hc,he,wr1]
    | ok q=>
     obtain ⟨b,i2⟩:=q;rw [h2] at ih2;obtain ⟨rb,s1,s2⟩:=qcm h2;simp only [chkR] at ih2;simp [ih2,wr1];rw [qay];have ih3:=qhk p ps l hl n i2 (by omega) (by omega);simp only [qag] at ih3;cases h3:chk p ps l n i2 with
     | error e=>
      rw [h3] at ih3;obtain ⟨he,x,y,hc⟩:=ih3;simp [chkR,hc,he,wr2]
     | ok q=>
      obtain ⟨c,i3⟩:=q;rw [h3] at ih3;simp only [chkR] at ih3;have hC:=qsh l[i] a b c k;simp only [ExprNode.e] at hC;simp [ih3,wr2];rw [qay];simp [wr3,c_340_k1,hi,ExprNode.e,hC];exact qgi _ _ _
theorem qpi (p:Prg) (ps:List Fld) (l:List ExprNode):qab Φ f_322 [.slice 3 (l.map ExprNode.c),.agg (scC p ps)]=some (.val (.tup [.int .i64 (exE p ps l).1,.int .i64 (exE p ps l).2])):=by
 rw [qaa (fn:=c_322) rfl rfl];by_cases h:24<l.length
 ·simp [c_322,qag,h,exE]
 have hc:=qhk p ps l (by omega) (l.length+1) 0 (by omega) (by omega);simp only [qag,Int.ofNat_zero] at hc;cases q:chk p ps l (l.length+1) 0 with
 | error e=>
  rw [q] at hc;obtain ⟨he,a,b,hc⟩:=hc;simp [c_322,qag,h,exE,q,hc,he]
 | ok r=>
  obtain ⟨w,j⟩:=r;rw [q] at hc;simp only [chkR] at hc;by_cases hj:j<l.length
  ·simp [c_322,qag,h,exE,q,hc,hj]
  ·simp [c_322,qag,h,exE,q,hc,hj]
theorem qaa7 (p:Prg) (ps:List Fld) (l:List ExprNode) (w:Int):qab Φ f_321 [.slice 3 (l.map ExprNode.c),.agg (scC p ps),.int .i64 w]=some (.val (.int .i64 (valE p ps l w))):=by
 rw [qaa (fn:=c_321) rfl rfl];have h:=qpi p ps l;simp only [qag] at h;by_cases z:(exE p ps l).2=0
 ·rw [z] at h;by_cases y:(exE p ps l).1=w
  ·simp [c_321,qag,h,valE,z,y]
  ·simp [c_321,qag,h,valE,z,y]
 ·simp [c_321,qag,h,valE,z]
theorem qaa4 (p:Prg) (ps:List Fld) (s:Statement):qab Φ f_271 [.agg (Prg.c p),.agg (Statement.c s),.agg (scC p ps)]=some (.val (.int .i64 (stmE p ps s))):=by
 rw [qaa (fn:=c_271) rfl rfl];have hd:=qmh p s.dst.header s.dst.field;have hi:=qpi p ps s.index;simp only [Prg.e] at hd;simp only [qag] at hi;have hr:(s.register<0∧at? p.registers s.register=none)∨(¬s.register<0∧(p.registers.length:Int)≤s.register∧at? p.registers s.register=none)∨∃k:Nat,∃h:k<p.registers.length,s.register=k∧at? p.registers s.register=some p.registers[k]:=by
  by_cases h0:s.register<0
  ·exact .inl ⟨h0,qbq h0⟩
  by_cases h1:(p.registers.length:Int)≤s.register
  ·exact .inr (.inl ⟨h0,h1,qbp h1⟩)
  obtain ⟨k,hk⟩:∃k:Nat,s.register=k:=⟨s.register.toNat,by omega⟩;exact .inr (.inr ⟨k,by omega,hk,by rw [hk];simp⟩)
 have hx:∀w,qab Φ f_321 [.slice 3 (s.value.map ExprNode.c),.agg (scC p ps),.int .i64 w]=some (.val (.int .i64 (valE p ps s.value w))):=qaa7 p ps s.value;simp only [qag] at hx;have hd':qab Φ f_320 [.agg [.str p.name,.slice 2 (p.headers.map Header.c),.slice 2 (p.metadata.map Fld.c),.slice 3 (p.registers.map Register.c),.slice 3 (p.actions.map Action.c),.slice 6 (p.tables.map Tbl.c),.slice 7 (p.states.map ParserState.c),.slice 5 (p.control.map ControlNode.c),.slice 1 (p.deparser.map cI)],.agg [.int .i64 s.dst.header,.int .i64 s.dst.field]]=
   some (.val (.tup [.int .i64 ((decl p s.dst.header s.dst.field).getD 0),.bool (decl p s.dst.header s.dst.field).isSome])):=by
  rw [hd];cases decl p s.dst.header s.dst.field<;>rfl
 clear hd;by_cases k1:s.kind=1
 ·rcases hr with ⟨r0,rn⟩ | ⟨r0,r1,rn⟩ | ⟨m,hm,rk,rn⟩<;>cases qd:decl p s.dst.header s.dst.field<;>rw [qd] at hd'
  ·simp [c_271,Prg.e,qag,Statement.e,hd',stmE,qd,k1,Int.not_le.2 r0]
  ·simp [c_271,Prg.e,qag,Statement.e,hd',stmE,qd,k1,Int.not_le.2 r0,hx]
  ·simp [c_271,Prg.e,qag,Statement.e,hd',stmE,qd,k1,Int.not_lt.1 r0,Int.not_lt.2 r1]
  ·simp [c_271,Prg.e,qag,Statement.e,hd',stmE,qd,k1,Int.not_lt.1 r0,Int.not_lt.2 r1,hx]
  ·simp [c_271,Prg.e,qag,Statement.e,hd',stmE,qd,k1,rk,hm]
  ·simp [c_271,Prg.e,qag,Statement.e,hd',stmE,qd,k1,rk,hm,hx]
 by_cases k2:s.kind=2
 ·have e:stmE p ps s=if (at? p.headers s.header).isSome then 0 else 8:=by simp [stmE,k2]
  rw [e,qii];by_cases h0:s.header<0<;>by_cases h1:(p.headers.length:Int)≤s.header<;>rcases hr with ⟨r0,rn⟩ | ⟨r0,r1,rn⟩ | ⟨m,hm,rk,rn⟩
  all_goals first
   | simp [c_271,Prg.e,qag,Statement.e,hd',k2,Int.not_le.2 r0,h0,h1]
   | simp [c_271,Prg.e,qag,Statement.e,hd',k2,Int.not_lt.1 r0,Int.not_lt.2 r1,h0,h1]
   | simp [c_271,Prg.e,qag,Statement.e,hd',k2,rk,hm,h0,h1]
 by_cases k3:s.kind=3
 ·have e:stmE p ps s=if (at? p.headers s.header).isSome then 0 else 8:=by simp [stmE,k3]
  rw [e,qii];by_cases h0:s.header<0<;>by_cases h1:(p.headers.length:Int)≤s.header<;>rcases hr with ⟨r0,rn⟩ | ⟨r0,r1,rn⟩ | ⟨m,hm,rk,rn⟩
  all_goals first
   | simp [c_271,Prg.e,qag,Statement.e,hd',k3,Int.not_le.2 r0,h0,h1]
   | simp [c_271,Prg.e,qag,Statement.e,hd',k3,Int.not_lt.1 r0,Int.not_lt.2 r1,h0,h1]
   | simp [c_271,Prg.e,qag,Statement.e,hd',k3,rk,hm,h0,h1]
 by_cases k4:s.kind=4
 ·cases qd:decl p s.dst.header s.dst.field with
  | none=>
   rw [qd] at hd';rcases hr with ⟨r0,rn⟩ | ⟨r0,r1,rn⟩ | ⟨m,hm,rk,rn⟩
   ·simp [c_271,Prg.e,qag,Statement.e,hd',stmE,k4,Int.not_le.2 r0,rn,qd]
   ·simp [c_271,Prg.e,qag,Statement.e,hd',stmE,k4,Int.not_lt.1 r0,Int.not_lt.2 r1,rn,qd]
   ·rw [rk] at rn;simp [c_271,Prg.e,qag,Statement.e,hd',stmE,k4,rk,hm,rn,qd]
  | some w=>
   rw [qd] at hd';rcases hr with ⟨r0,rn⟩ | ⟨r0,r1,rn⟩ | ⟨m,hm,rk,rn⟩
   ·simp [c_271,Prg.e,qag,Statement.e,hd',stmE,k4,Int.not_le.2 r0,rn,qd]
   ·simp [c_271,Prg.e,qag,Statement.e,hd',stmE,k4,Int.not_lt.1 r0,Int.not_lt.2 r1,rn,qd]
   ·rw [rk] at rn;by_cases z:(exE p ps s.index).2=0
    ·rw [z] at hi;by_cases y:w=p.registers[m].width
     ·simp [c_271,Prg.e,qag,Statement.e,Register.e,hd',stmE,k4,rk,hm,rn,qd,hi,z,y]
     ·simp [c_271,Prg.e,qag,Statement.e,Register.e,hd',stmE,k4,rk,hm,rn,qd,hi,z,y]
    ·simp [c_271,Prg.e,qag,Statement.e,hd',stmE,k4,rk,hm,rn,qd,hi,z]
 by_cases k5:s.kind=5
 ·rcases hr with ⟨r0,rn⟩ | ⟨r0,r1,rn⟩ | ⟨m,hm,rk,rn⟩
  ·simp [c_271,Prg.e,qag,Statement.e,hd',stmE,k5,Int.not_le.2 r0,rn]
  ·simp [c_271,Prg.e,qag,Statement.e,hd',stmE,k5,Int.not_lt.1 r0,Int.not_lt.2 r1,rn]
  ·rw [rk] at rn;by_cases z:(exE p ps s.index).2=0
   ·rw [z] at hi;simp [c_271,Prg.e,qag,Statement.e,Register.e,hd',stmE,k5,rk,hm,rn,hi,z,hx]
   ·simp [c_271,Prg.e,qag,Statement.e,hd',stmE,k5,rk,hm,rn,hi,z]
 rcases hr with ⟨r0,rn⟩ | ⟨r0,r1,rn⟩ | ⟨m,hm,rk,rn⟩
 ·simp [c_271,Prg.e,qag,Statement.e,hd',stmE,k1,k2,k3,k4,k5,Int.not_le.2 r0]
 ·simp [c_271,Prg.e,qag,Statement.e,hd',stmE,k1,k2,k3,k4,k5,Int.not_lt.1 r0,Int.not_lt.2 r1]
 ·simp [c_271,Prg.e,qag,Statement.e,hd',stmE,k1,k2,k3,k4,k5,rk,hm]
theorem qx6 (l:List Fld) (hl:l.length<2^40) (hf:∀f∈l,f.name.length<2^40):qab Φ f_270 [.slice 2 (l.map Fld.c)]=some (.val (.int .i64 (errO (qj3 l)))):=by
 rw [qaa (fn:=c_270) rfl rfl,show qj3 l=fe (actG l) l.length 0 from rfl];simp [c_270];refine qao l.length (fun i e=>look 0 e=some (.slice 2 (l.map Fld.c))∧look 3 e=some (.int .i64 i))
  (fun i=>some (Rt.val (.int .i64 (errO (fe (actG l) l.length i))))) ?_ ?_ 0 _ (Nat.zero_le _) ?_
 ·rintro i e L hi hL ⟨h0,h3⟩ ih;have hw:IntKind.wrap .i64 ((i:Int)+1)=((i+1:Nat):Int):=qac (by omega) (by omega);have nf:=qdy l[i].name (hf _ (List.getElem_mem hi));cases p1:idS l[i].name with
  | false=>
   rw [p1] at nf;rw [qai (x:=6) hi (by simp [actG,hi,fldE,p1,er])];simp [c_270_l2,Fld.e,h0,h3,hi,nf]
  | true=>
  rw [p1] at nf;by_cases w1:l[i].width<1
  ·rw [qai (x:=10) hi (by simp [actG,hi,fldE,p1,wBad,w1,er])];simp [c_270_l2,Fld.e,h0,h3,hi,nf,w1]
  by_cases w2:32<l[i].width
  ·rw [qai (x:=10) hi (by simp [actG,hi,fldE,p1,wBad,w2,er])];simp [c_270_l2,Fld.e,h0,h3,hi,nf,w1,w2]
  generalize hX:some (Rt.val (AV.int .i64 (errO (fe (actG l) l.length i))))=X;simp [c_270_l2,Fld.e,h0,h3,hi,nf,w1,w2];refine (qdb (l.take i) (fun g=>decide (g.name=l[i].name)) (some (Rt.val (.int .i64 7))) (some (Rt.val (.int .i64 (errO (fe (actG l) l.length (i+1))))))
   (fun k e H=>look 0 e=some (.slice 2 (l.map Fld.c))∧look 3 e=some (.int .i64 i)∧look 4 e=some (.int .i64 k)∧H=⟨[],0⟩∧(0<k→qa2 (l.take i) (fun g=>decide (g.name=l[i].name)) 0=qa2 (l.take i) (fun g=>decide (g.name=l[i].name)) k)) ?_ ?_ ?_ _ _ ?_).trans ?_
  ·rintro k e _ L' hk hL' ⟨h0,h3,h4,rfl,_⟩ hb;simp only [List.length_take] at hk;have hk1:k<i:=by omega
   have hk2:k<l.length:=by omega
   simp only [List.getElem_take,decide_eq_true_eq] at hb;simp [c_270_l0,Fld.e,h0,h3,h4,hk1,hk2,hi,hb]
  ·rintro k e _ L' X hk hL' ⟨h0,h3,h4,rfl,hy⟩ hb ih';have hb':=hb;have hk0:=hk;simp only [List.length_take] at hk;have hk1:k<i:=by omega
   have hk2:k<l.length:=by omega
   simp only [List.getElem_take,decide_eq_false_iff_not] at hb;have hw':IntKind.wrap .i64 ((k:Int)+1)=((k+1:Nat):Int):=qac (by omega) (by omega);simp [c_270_l0,Fld.e,h0,h3,h4,hk1,hk2,hi,hb,hw'];refine ih' _ _ ⟨by simp [h0],by simp [h3],by simp,rfl,fun _=>?_⟩;rcases Nat.eq_zero_or_pos k with rfl | hp
   ·exact qc8 hk0 hb'
   ·rw [hy hp];exact qc8 hk0 hb'
  ·rintro e _ L' hL' ⟨h0,h3,h4,rfl,hy⟩;have hm:min i l.length=i:=by omega
   simp [hm] at h4;simp [c_270_l0,c_270_k1,h3,h4,hL',hw];exact ih _ ⟨by simp [h0],by simp⟩
  ·simp [h0,h3]
  ·rw [← hX];cases p3:dupN Fld.name l i l[i] with
   | true=>
    rw [qai (x:=7) hi (by simp [actG,hi,fldE,p1,wBad,w1,w2,p3,er])];unfold dupN at p3;rw [p3];rfl
   | false=>
    rw [qap hi (by simp [actG,hi,fldE,p1,wBad,w1,w2,p3])];unfold dupN at p3;rw [p3];rfl
 ·rintro e L hL ⟨h0,h3⟩;rw [qa0];simp [c_270_l2,c_270_k3,h0,h3,hL]
 ·simp
theorem qaa8 (p:Prg) (k:Nat) (hk:k<p.actions.length):qab Φ f_272 [.agg (Prg.c p),.int .i64 k]=some (.val (.agg (scC p p.actions[k].params))):=by
 rw [qaa (fn:=c_272) rfl rfl];simp [c_272,Prg.e,qag,Action.e,hk]
theorem qaal (p:Prg) (f:PrgS p) (i:Int):qab Φ f_199 [.agg (Prg.c p),.int .i64 i]=some (.val (.tup [.int .i64 (actE p i).1,.int .i64 (actE p i).2])):=by
 rw [qaa (fn:=c_199) rfl rfl];by_cases i0:i<0
 ·simp [c_199,Prg.e,i0,actE,qbq i0]
 by_cases i1:(p.actions.length:Int)≤i
 ·simp [c_199,Prg.e,i0,i1,actE,qbp i1]
 obtain ⟨k,rfl⟩:∃k:Nat,i=k:=⟨i.toNat,by omega⟩;have hk:k<p.actions.length:=by omega
 have hm:=List.getElem_mem hk;have n1:=qdy p.actions[k].name (f.an _ hm);have n2:=qx6 p.actions[k].params (f.ap _ hm) (f.apn _ hm);cases q1:idS p.actions[k].name with
 | false=>rw [q1] at n1;simp [c_199,Prg.e,Action.e,hk,Nat.not_le.2 hk,n1,actE,actD,q1]
 | true=>
 rw [q1] at n1;by_cases z0:4<p.actions[k].params.length
 ·simp [c_199,Prg.e,Action.e,hk,Nat.not_le.2 hk,n1,actE,actD,q1,z0]
 by_cases z1:12<p.actions[k].body.length
 ·simp [c_199,Prg.e,Action.e,hk,Nat.not_le.2 hk,n1,actE,actD,q1,z0,z1]
 by_cases z2:errO (qj3 p.actions[k].params)=0
 rotate_left
 ·simp [c_199,Prg.e,Action.e,hk,Nat.not_le.2 hk,n1,n2,actE,actD,q1,z0,z1,z2]
 rw [z2] at n2;have hE:actE p k=(fe (qgy p p.actions[k]) p.actions[k].body.length 0).getD (0,0):=by simp [actE,actD,hk,q1,z0,z1,z2];rfl
 rw [hE];simp [c_199,Prg.e,Action.e,hk,Nat.not_le.2 hk,n1,n2,z0,z1];have hb:=f.ab _ hm;refine qaw p.actions[k].body.length (fun _=>[]) 0 (fun i e=>look 1 e=some (.int .i64 k)∧look 2 e=some (.iptr 9 [Prg.c p] 0 0)∧look 6 e=some (.iptr 3 [Action.c p.actions[k]] 0 0)∧look 7 e=some (.int .i64 i))
  (fun i=>some (Rt.val (.tup [.int .i64 ((fe (qgy p p.actions[k]) p.actions[k].body.length i).getD (0,0)).1,.int .i64 ((fe (qgy p p.actions[k]) p.actions[k].body.length i).getD (0,0)).2]))) ?_ ?_ 0 _ _ (Nat.zero_le _) (Nat.zero_le _) ?_
 ·rintro i e n L hi hL _ ⟨h1,h2,h6,h7⟩ ih;have hw:IntKind.wrap .i64 ((i:Int)+1)=((i+1:Nat):Int):=qac (by omega) (by omega);have hs:=qaa4 p p.actions[k].params p.actions[k].body[i];have hsc:=qaa8 p k hk;simp only [Statement.e,qag,Prg.e] at hs hsc;rw [Prg.e] at h2;rw [Action.e] at h6;by_cases y:stmE p p.actions[k].params p.actions[k].body[i]=0
  ·rw [y] at hs;rw [qap hi (by simp [qgy,hi,y])];simp [c_199_l0,Statement.e,h1,h2,h6,h7,hi,hs,hsc,hw];exact ih _ _ (Nat.zero_le _) ⟨by simp [h1],by simp [h2,Prg.e],by simp [h6,Action.e],by simp⟩
  ·rw [qai (x:=((i:Int),stmE p p.actions[k].params p.actions[k].body[i])) hi (by simp [qgy,hi,y])];simp [c_199_l0,Statement.e,h1,h2,h6,h7,hi,hs,hsc,y]
 ·rintro e n L hL _ ⟨h1,h2,h6,h7⟩;rw [qa0];rw [Action.e] at h6;simp [c_199_l0,c_199_k1,h6,h7,hL]
 ·simp [Prg.e,Action.e]
theorem qlh (p:Prg) (f:PrgS p) (c:ActionCall) (hc:c.args.length<2^40) (hv:∀v∈c.args,ok32 0 v):qab Φ f_156 [.agg (Prg.c p),.agg (ActionCall.c c)]=some (.val (.int .i64 (qdm p c))):=by
 rw [qaa (fn:=c_156) rfl rfl];by_cases i0:c.action<0
 ·simp [c_156,Prg.e,ActionCall.e,i0,qdm,qbq i0]
 by_cases i1:(p.actions.length:Int)≤c.action
 ·simp [c_156,Prg.e,ActionCall.e,i0,i1,qdm,qbp i1]
 obtain ⟨k,hk0⟩:∃k:Nat,c.action=k:=⟨c.action.toNat,by omega⟩;have hk:k<p.actions.length:=by omega
 by_cases z:c.args.length=p.actions[k].params.length
 rotate_left
 ·simp [c_156,Prg.e,ActionCall.e,Action.e,hk0,hk,Nat.not_le.2 hk,qdm,z]
 have hE:qdm p c=errO (fe (qik c.args p.actions[k].params) c.args.length 0):=by simp [qdm,hk0,hk,z];rfl
 rw [hE];simp [c_156,Prg.e,ActionCall.e,Action.e,hk0,hk,Nat.not_le.2 hk,z];rw [← z];refine qao c.args.length (fun i e=>look 3 e=some (.iptr 2 [ActionCall.c c] 0 0)∧look 5 e=some (.slice 2 (p.actions[k].params.map Fld.c))∧look 6 e=some (.int .i64 i))
  (fun i=>some (Rt.val (.int .i64 (errO (fe (qik c.args p.actions[k].params) c.args.length i))))) ?_ ?_ 0 _ (Nat.zero_le _) ?_
 ·rintro i e L hi hL ⟨h3,h5,h6⟩ ih;have hw:IntKind.wrap .i64 ((i:Int)+1)=((i+1:Nat):Int):=qac (by omega) (by omega);have hi2:i<p.actions[k].params.length:=by omega
  have hf:=qm8 c.args[i] p.actions[k].params[i].width (hv _ (List.getElem_mem hi));rw [ActionCall.e] at h3;cases y:fits c.args[i] p.actions[k].params[i].width with
  | true=>
   rw [y] at hf;rw [qap hi (by simp [qik,hi,hi2,y])];simp [c_156_l0,Fld.e,c32,h3,h5,h6,hi,hi2,hf,hw];exact ih _ ⟨by simp [h3,ActionCall.e],by simp [h5],by simp⟩
  | false=>
   rw [y] at hf;rw [qai (x:=9) hi (by simp [qik,hi,hi2,y])];simp [c_156_l0,Fld.e,c32,h3,h5,h6,hi,hi2,hf]
 ·rintro e L hL ⟨h3,h5,h6⟩;rw [qa0];simp [c_156_l0,c_156_k1,h5,h6,hL,← z]
 ·simp [ActionCall.e,hk0]
end Go.Av
