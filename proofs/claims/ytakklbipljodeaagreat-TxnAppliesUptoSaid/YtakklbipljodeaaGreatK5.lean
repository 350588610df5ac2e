/-
 The limits, the headers and the metadata of a program: the program's answers.
-/
import Derived.Test.YtakklbipljodeaaGreatK3
set_option linter.unusedVariables false
set_option linter.unusedSimpArgs false
set_option linter.constructorNameAsVariable false
namespace Go.Av
set_option maxRecDepth 4000
structure PrgS (p:Prg):Prop where
 n:p.name.length<2^40
 h:p.headers.length<2^40
 hn:∀h∈p.headers,h.name.length<2^40
 hf:∀h∈p.headers,∀f∈h.fields,f.name.length<2^40
 hl:∀h∈p.headers,h.fields.length<2^40
 m:p.metadata.length<2^40
 mn:∀f∈p.metadata,f.name.length<2^40
 r:p.registers.length<2^40
 rn:∀r∈p.registers,r.name.length<2^40
 a:p.actions.length<2^40
 an:∀a∈p.actions,a.name.length<2^40
 ap:∀a∈p.actions,a.params.length<2^40
 apn:∀a∈p.actions,∀f∈a.params,f.name.length<2^40
 ab:∀a∈p.actions,a.body.length<2^40
 ai:∀a∈p.actions,∀s∈a.body,s.index.length<2^40
 av:∀a∈p.actions,∀s∈a.body,s.value.length<2^40
 t:p.tables.length<2^40
 tn:∀t∈p.tables,t.name.length<2^40
 tk:∀t∈p.tables,t.keys.length<2^40
 ta:∀t∈p.tables,t.actions.length<2^40
 tg:∀t∈p.tables,t.dflt.args.length<2^40
 s:p.states.length<2^40
 sn:∀s∈p.states,s.name.length<2^40
 se:∀s∈p.states,s.extract.length<2^40
 sc:∀s∈p.states,s.cases.length<2^40
 sv:∀s∈p.states,∀c∈s.cases,ok32 qbd c.value∧ok32 qbd c.mask
 c:p.control.length<2^40
 co:∀x∈p.control,ControlNode.Ok qbd x
 d:p.deparser.length<2^40
theorem qlv {p:Prg} (o:p.Ok qbd):PrgS p:=by
 obtain ⟨o0,o1,o2,o3,o4,o5,o6,o7,o8⟩:=o;have e:=qdq;simp only [qdx,okL,Header.Ok,Fld.Ok,Register.Ok,Action.Ok,Statement.Ok,Tbl.Ok,ActionCall.Ok,ParserState.Ok,SelectCase.Ok] at o0 o1 o2 o3 o4 o5 o6 o7 o8;refine ⟨by omega,by omega,?_,?_,?_,by omega,?_,by omega,?_,by omega,?_,?_,?_,?_,?_,?_,by omega,?_,?_,?_,?_,by omega,?_,?_,?_,?_,by omega,o7.2,by omega⟩
 ·intro h hh;have:=(o1.2 h hh).1;omega
 ·intro h hh f hf;have:=((o1.2 h hh).2.2 f hf).1;omega
 ·intro h hh;have:=(o1.2 h hh).2.1;omega
 ·intro f hf;have:=(o2.2 f hf).1;omega
 ·intro r hr;have:=(o3.2 r hr).1;omega
 ·intro a ha;have:=(o4.2 a ha).1;omega
 ·intro a ha;have:=(o4.2 a ha).2.1.1;omega
 ·intro a ha f hf;have:=((o4.2 a ha).2.1.2 f hf).1;omega
 ·intro a ha;have:=(o4.2 a ha).2.2.1;omega
 ·intro a ha s hs;have:=((o4.2 a ha).2.2.2 s hs).2.2.2.2.1.1;omega
 ·intro a ha s hs;have:=((o4.2 a ha).2.2.2 s hs).2.2.2.2.2.1;omega
 ·intro t ht;have:=(o5.2 t ht).1;omega
 ·intro t ht;have:=(o5.2 t ht).2.1.1;omega
 ·intro t ht;have:=(o5.2 t ht).2.2.1.1;omega
 ·intro t ht;have:=(o5.2 t ht).2.2.2.1.2.1;omega
 ·intro s hs;have:=(o6.2 s hs).1;omega
 ·intro s hs;have:=(o6.2 s hs).2.1.1;omega
 ·intro s hs;have:=(o6.2 s hs).2.2.2.1.1;omega
 ·intro s hs c hc;have:=(o6.2 s hs).2.2.2.1.2 c hc;exact ⟨this.1,this.2.1⟩
theorem qx1 (p:Prg) (f:PrgS p):qab Φ f_145 [.agg (Prg.c p)]=some (rtD (limD p)):=by
 rw [qaa (fn:=c_145) rfl rfl];have n1:=qkw p.name f.n;cases q1:idS p.name with
 | false=>rw [q1] at n1;simp [c_145,Prg.e,n1,qa8,qav,limD,q1,rtD]
 | true=>
 rw [q1] at n1;by_cases z1:8<p.headers.length
 ·simp [c_145,Prg.e,n1,qa8,qaz,qav,limD,q1,rtD,z1]
 by_cases z2:4<p.registers.length
 ·simp [c_145,Prg.e,n1,qa8,qaz,qav,limD,q1,rtD,z1,z2]
 by_cases z3:16<p.actions.length
 ·simp [c_145,Prg.e,n1,qa8,qaz,qav,limD,q1,rtD,z1,z2,z3]
 by_cases z4:12<p.tables.length
 ·simp [c_145,Prg.e,n1,qa8,qaz,qav,limD,q1,rtD,z1,z2,z3,z4]
 simp [c_145,Prg.e,n1,qa8,qaz,limD,q1,rtD,z1,z2,z3,z4]
def hdrG (p:Prg) (i:Nat):Option Dg:=(p.headers[i]?).bind fun h=>if qe5 p i h=0 then none else some (qe5 p i h,1,(i:Int),0)
theorem qno (p:Prg) (f:PrgS p):qab Φ f_146 [.agg (Prg.c p)]=some (rtD (hdrD p)):=by
 rw [qaa (fn:=c_146) rfl rfl,show hdrD p=fe (hdrG p) p.headers.length 0 from rfl];have e1:=qo7 p.headers f.h;simp [c_146,Prg.e,e1];refine qaw p.headers.length (fun _=>[]) 0 (fun i e=>look 2 e=some (.slice 1 (p.headers.map fun x=>[.str x.name]))∧look 9 e=some (.slice 2 (p.headers.map Header.c))∧look 10 e=some (.int .i64 p.headers.length)∧look 11 e=some (.int .i64 i))
  (fun i=>some (rtD (fe (hdrG p) p.headers.length i))) ?_ ?_ 0 _ 0 (Nat.zero_le _) (Nat.le_refl _) ?_
 ·rintro i e n L hi hL _ ⟨h2,h9,h10,h11⟩ ih;have hlen:=f.h;have hw:IntKind.wrap .i64 ((i:Int)+1)=((i+1:Nat):Int):=qac (by omega) (by omega);have hm:=List.getElem_mem hi;have eh:=qada p.headers[i] (f.hn _ hm) (f.hf _ hm);simp only [Header.e] at eh;have er:=qfg Header.name p.headers i hi f.h;by_cases z1:hdrE p.headers[i]=0
  rotate_left
  ·rw [qai (x:=(hdrE p.headers[i],1,(i:Int),0)) hi (by simp [hdrG,hi,qe5,z1])];simp [c_146_l0,Header.e,h9,h10,h11,hi,eh,qav,z1,rtD]
  by_cases z2:p.headers[i].name=[109,101,116,97]
  ·rw [qai (x:=(6,1,(i:Int),0)) hi (by simp [hdrG,hi,qe5,z1,z2])];rw [z2] at eh;simp [c_146_l0,Header.e,h9,h10,h11,hi,eh,qav,qaz,qa8,z1,z2,rtD]
  cases z3:dupN Header.name p.headers i p.headers[i] with
  | true=>
   rw [z3] at er;rw [qai (x:=(7,1,(i:Int),0)) hi (by simp [hdrG,hi,qe5,z1,z2,z3])];simp [c_146_l0,Header.e,h2,h9,h10,h11,hi,eh,er,qav,qaz,qa8,z1,z2,rtD]
  | false=>
   rw [z3] at er;rw [qap hi (by simp [hdrG,hi,qe5,z1,z2,z3])];simp [c_146_l0,Header.e,h2,h9,h10,h11,hi,eh,er,qaz,qa8,z1,z2,hw];exact ih _ _ (Nat.zero_le _) ⟨by simp [h2],by simp [h9],by simp [h10],by simp⟩
 ·rintro e n L hL _ ⟨h2,h9,h10,h11⟩;rw [qa0];simp [c_146_l0,h10,h11,hL,rtD]
 ·simp
def scC (p:Prg) (ps:List Fld):List AV:=[.str p.name,.slice 2 (p.headers.map Header.c),.slice 2 (p.metadata.map Fld.c),.slice 3 (p.registers.map Register.c),.slice 3 (p.actions.map Action.c),.slice 6 (p.tables.map Tbl.c),.slice 7 (p.states.map ParserState.c),.slice 5 (p.control.map ControlNode.c),.slice 1 (p.deparser.map cI),.slice 2 (ps.map Fld.c)]
theorem qag (p:Prg) (ps:List Fld):scC p ps=[.str p.name,.slice 2 (p.headers.map Header.c),.slice 2 (p.metadata.map Fld.c),.slice 3 (p.registers.map Register.c),.slice 3 (p.actions.map Action.c),.slice 6 (p.tables.map Tbl.c),.slice 7 (p.states.map ParserState.c),.slice 5 (p.control.map ControlNode.c),.slice 1 (p.deparser.map cI),.slice 2 (ps.map Fld.c)]:=by simp [scC]
theorem qrg (op:Int):qab Φ f_347 [.int .i64 op]=some (.val (.int .i64 (ari op))):=by
 rw [qaa (fn:=c_347) rfl rfl];rcases (show op=1∨op=2∨op=3∨op=4∨op=5∨op=6∨op=7∨op=8∨op=9∨op=10∨op=11∨op=12∨op=13∨op=14∨op=15∨op=16∨op=17∨(op<1∨17<op) by omega) with rfl | rfl | rfl | rfl | rfl | rfl | rfl | rfl | rfl | rfl | rfl | rfl | rfl | rfl | rfl | rfl | rfl | h
 rotate_right
 ·have e:ari op= -1:=by
   unfold ari;rw [if_neg (by omega),if_neg (by omega),if_neg (by omega),if_neg (by omega)]
  rw [e];have h1:¬op=1:=by omega
  have h2:¬op=2:=by omega
  have h3:¬op=3:=by omega
  have h4:¬op=4:=by omega
  have h5:¬op=5:=by omega
  have h6:¬op=6:=by omega
  have h7:¬op=7:=by omega
  have h8:¬op=8:=by omega
  have h9:¬op=9:=by omega
  have h10:¬op=10:=by omega
  have h11:¬op=11:=by omega
  have h12:¬op=12:=by omega
  have h13:¬op=13:=by omega
  have h14:¬op=14:=by omega
  have h15:¬op=15:=by omega
  have h16:¬op=16:=by omega
  have h17:¬op=17:=by omega
  simp [c_347,h1,h2,h3,h4,h5,h6,h7,h8,h9,h10,h11,h12,h13,h14,h15,h16,h17]
 all_goals simp [c_347,ari]
theorem qjs (w:Int):qab Φ f_351 [.int .i64 w]=some (.val (.tup [.int .i64 (wide w).1,.int .i64 (wide w).2])):=by
 rw [qaa (fn:=c_351) rfl rfl];by_cases h1:w<1
 ·simp [c_351,wide,wBad,h1]
 by_cases h2:32<w
 ·simp [c_351,wide,wBad,h1,h2]
 simp [c_351,wide,wBad,h1,h2]
def qax (p:Prg) (h f:Int):Option Fld:=(if h= -1 then some p.metadata else (at? p.headers h).map (·.fields)).bind fun l=>at? l f
theorem qlx (p:Prg) (h f:Int):decl p h f=(qax p h f).map (·.width):=by
 unfold decl qax;cases (if h= -1 then some p.metadata else (at? p.headers h).map (·.fields))<;>rfl
theorem qzt (p:Prg) (ps:List Fld) (h i:Int):qab Φ f_352 [.agg (scC p ps),.int .i64 h,.int .i64 i]=some (.val (match qax p h i with
  | some f=> .tup [.agg (Fld.c f),.bool true]
  | none=> .tup [.agg [.str [],.int .i64 0],.bool false])):=by
 rw [qaa (fn:=c_352) rfl rfl];by_cases hm:h= -1
 ·subst hm;by_cases i0:i<0
  ·rw [show qax p (-1) i=none by simp [qax,qbq i0]];simp [c_352,qag,i0]
  by_cases i1:(p.metadata.length:Int)≤i
  ·rw [show qax p (-1) i=none by simp [qax,qbp i1]];simp [c_352,qag,i0,i1]
  obtain ⟨k,rfl⟩:∃k:Nat,i=k:=⟨i.toNat,by omega⟩;have hk:k<p.metadata.length:=by omega
  rw [show qax p (-1) k=some p.metadata[k] by simp [qax,hk]];simp [c_352,qag,i0,i1,hk,Fld.e]
 by_cases h0:h<0
 ·rw [show qax p h i=none by simp [qax,hm,qbq h0]];simp [c_352,qag,hm,h0]
 by_cases h1:(p.headers.length:Int)≤h
 ·rw [show qax p h i=none by simp [qax,hm,qbp h1]];simp [c_352,qag,hm,h0,h1]
 obtain ⟨m,rfl⟩:∃k:Nat,h=k:=⟨h.toNat,by omega⟩;have hk:m<p.headers.length:=by omega
 by_cases i0:i<0
 ·rw [show qax p m i=none by simp [qax,hm,hk,qbq i0]];simp [c_352,qag,hm,hk,Nat.not_le.2 hk,i0,Header.e]
 by_cases i1:(p.headers[m].fields.length:Int)≤i
 ·rw [show qax p m i=none by simp [qax,hm,hk,qbp i1]];simp [c_352,qag,hm,hk,Nat.not_le.2 hk,i0,i1,Header.e]
 obtain ⟨k,rfl⟩:∃k:Nat,i=k:=⟨i.toNat,by omega⟩;have hk2:k<p.headers[m].fields.length:=by omega
 rw [show qax p m k=some p.headers[m].fields[k] by simp [qax,hm,hk,hk2]];simp [c_352,qag,hm,hk,Nat.not_le.2 hk,hk2,Nat.not_le.2 hk2,Header.e,Fld.e]
theorem qn4 (w:Int):IntKind.wrap .i64 (qbe w)=qbe w:=by
 unfold qbe;cases h:wBad w with
 | true=>rw [if_pos rfl];decide
 | false=>
  obtain ⟨h1,h2⟩:=wBad_false.1 h;obtain ⟨k,rfl⟩:∃k:Nat,w=k:=⟨w.toNat,by omega⟩;have:(2:Int)^k≤2^32:=by
   have:=Nat.pow_le_pow_right (n:=2) (by omega) (show k≤32 by omega)
   exact_mod_cast this
  have h0:(0:Int)<2^k:=by
   have:=Nat.pow_pos (a:=2) (n:=k) (by omega)
   exact_mod_cast this
  simp;exact qac (by omega) (by omega)
theorem qvx (p:Prg) (ps:List Fld) (x:ExprNode):qab Φ f_348 [.agg (scC p ps),.agg (ExprNode.c x)]=some (.val (.tup [.int .i64 (prim p ps x).1,.int .i64 (prim p ps x).2])):=by
 rw [qaa (fn:=c_348) rfl rfl];by_cases o1:x.op=1
 ·have hw:=qjs x.w;have hm:=qf0 x.w;have hmw:=qn4 x.w;cases q:wBad x.w with
  | true=>
   simp [wide,q] at hw;simp [c_348,qag,ExprNode.e,o1,prim,hw,q]
  | false=>
   simp [wide,q] at hw;by_cases n0:x.n<0
   ·simp [c_348,qag,ExprNode.e,o1,prim,hw,q,n0]
   have e:qbe x.w=2^x.w.toNat - 1:=by simp [qbe,q]
   rw [e] at hm hmw;by_cases n1:2^x.w.toNat - 1<x.n
   ·simp [c_348,qag,ExprNode.e,o1,prim,hw,hm,hmw,q,n0,n1]
   ·simp [c_348,qag,ExprNode.e,o1,prim,hw,hm,hmw,q,n0,n1]
 by_cases o2:x.op=2
 ·have hf:=qzt p ps x.n x.w;simp only [qag] at hf;cases q:qax p x.n x.w with
  | none=>
   rw [q] at hf;simp [c_348,qag,ExprNode.e,o2,prim,hf,qlx,q]
  | some f=>
   rw [q] at hf;simp only [Fld.e] at hf;have hw:=qjs f.width;simp [c_348,qag,ExprNode.e,o2,prim,hf,hw,qlx,q]
 by_cases o3:x.op=3
 ·by_cases n0:x.n<0
  ·simp [c_348,qag,ExprNode.e,o3,prim,n0,qbq n0]
  by_cases n1:(ps.length:Int)≤x.n
  ·simp [c_348,qag,ExprNode.e,o3,prim,n0,n1,qbp n1]
  obtain ⟨k,hk⟩:∃k:Nat,x.n=k:=⟨x.n.toNat,by omega⟩;have hk2:k<ps.length:=by omega
  have hw:=qjs ps[k].width;simp [c_348,qag,ExprNode.e,Fld.e,o3,prim,hk,hk2,Nat.not_le.2 hk2,hw]
 by_cases n0:x.n<0
 ·simp [c_348,qag,ExprNode.e,o1,o2,o3,prim,n0,qbq n0]
 by_cases n1:(p.headers.length:Int)≤x.n
 ·simp [c_348,qag,ExprNode.e,o1,o2,o3,prim,n0,n1,qbp n1]
 obtain ⟨k,hk⟩:∃k:Nat,x.n=k:=⟨x.n.toNat,by omega⟩;have hk2:k<p.headers.length:=by omega
 simp [c_348,qag,ExprNode.e,o1,o2,o3,prim,hk,hk2,Nat.not_le.2 hk2]
theorem qjz (x:ExprNode) (a b c:Int) (ha:0≤a∧a≤32) (hb:0≤b∧b≤32):qab Φ f_349 [.agg (ExprNode.c x),.agg [.int .i64 a,.int .i64 b,.int .i64 c]]=some (.val (.tup [.int .i64 (comb x a b c).1,.int .i64 (comb x a b c).2])):=by
 rw [qaa (fn:=c_349) rfl rfl];have hA:=qrg x.op;have hw:=qjs x.w;have hab:IntKind.wrap .i64 (a+b)=a+b:=qac (by omega) (by omega);have hw2:=qjs (a+b);by_cases o6:x.op=6
 ·rw [show ari x.op=1 by simp [o6,ari]] at hA;rw [o6] at hA;by_cases n0:x.n<0
  ·simp [c_349,ExprNode.e,o6,comb,n0]
  by_cases n1:31<x.n
  ·simp [c_349,ExprNode.e,o6,comb,n0,n1]
  simp [c_349,ExprNode.e,o6,comb,n0,n1,hA]
 by_cases o7:x.op=7
 ·rw [show ari x.op=1 by simp [o7,ari]] at hA;rw [o7] at hA;by_cases n0:x.n<0
  ·simp [c_349,ExprNode.e,o7,comb,n0]
  by_cases n1:31<x.n
  ·simp [c_349,ExprNode.e,o7,comb,n0,n1]
  simp [c_349,ExprNode.e,o7,comb,n0,n1,hA]
 by_cases o8:x.op=8
 ·by_cases n0:x.n<0
  ·simp [c_349,ExprNode.e,o8,comb,n0]
  cases q:wBad x.w with
  | true=>
   simp [wide,q] at hw;simp [c_349,ExprNode.e,o8,comb,n0,q,hw]
  | false=>
   simp [wide,q] at hw;obtain ⟨w1,w2⟩:=wBad_false.1 q;have hs:IntKind.wrap .i64 (a - x.w)=a - x.w:=qac (by omega) (by omega);by_cases n1:a - x.w<x.n
   ·simp [c_349,ExprNode.e,o8,comb,n0,q,hw,hs,n1]
   ·simp [c_349,ExprNode.e,o8,comb,n0,q,hw,hs,n1]
 by_cases o14:x.op=14
 ·simp [c_349,ExprNode.e,o14,comb,hab,hw2]
 by_cases o17:x.op=17
 ·by_cases a1:a=1
  ·by_cases bc:b=c
   ·simp [c_349,ExprNode.e,o17,comb,a1,bc]
   ·simp [c_349,ExprNode.e,o17,comb,a1,bc]
  ·simp [c_349,ExprNode.e,o17,comb,a1]
 by_cases r2:ari x.op=2
 ·rw [r2] at hA;by_cases ab:a=b
  ·by_cases o15:x.op=15
   ·rw [o15] at hA;simp [c_349,ExprNode.e,o15,comb,ab,hA]
   by_cases o16:x.op=16
   ·rw [o16] at hA;simp [c_349,ExprNode.e,o16,comb,ab,hA]
   simp [c_349,ExprNode.e,o6,o7,o8,o14,o15,o16,o17,comb,r2,ab,hA]
  ·simp [c_349,ExprNode.e,o6,o7,o8,o14,o17,comb,r2,ab,hA]
 ·have o15:¬x.op=15:=by intro h;apply r2;simp [h,ari]
  have o16:¬x.op=16:=by intro h;apply r2;simp [h,ari]
  simp [c_349,ExprNode.e,o6,o7,o8,o14,o15,o16,o17,comb,r2,hA]
def chkR (r:Except Int (Int×Nat)) (x:Option Rt):Prop:=match r with
 | .error e=>e≠0∧∃a b,x=some (.val (.tup [.int .i64 a,.int .i64 b,.int .i64 e]))
 | .ok (w,j)=>x=some (.val (.tup [.int .i64 w,.int .i64 j,.int .i64 0]))
theorem qkq {w:Int} (h:(wide w).2=0):1≤(wide w).1∧(wide w).1≤32:=by
 unfold wide at h ⊢;cases q:wBad w with
 | true=>rw [q] at h;simp at h
 | false=>simp;exact wBad_false.1 q
theorem qvw {p:Prg} {ps:List Fld} {x:ExprNode} (h:(prim p ps x).2=0):1≤(prim p ps x).1∧(prim p ps x).1≤32:=by
 unfold prim at h ⊢;by_cases o1:x.op=1
 ·simp only [o1,if_true] at h ⊢;cases q:wBad x.w with
  | true=>rw [q] at h;simp at h
  | false=>
   rw [q] at h;by_cases r:x.n<0∨2^x.w.toNat - 1<x.n
   ·simp [r] at h
   ·simp [r];exact wBad_false.1 q
 by_cases o2:x.op=2
 ·simp only [o2,if_true] at h ⊢;cases q:decl p x.n x.w with
  | none=>rw [q] at h;simp at h
  | some w=>rw [q] at h;exact qkq h
 by_cases o3:x.op=3
 ·simp only [o3,if_true] at h ⊢;cases q:at? ps x.n with
  | none=>rw [q] at h;simp at h
  | some f=>rw [q] at h;exact qkq h
 simp only [o1,o2,o3,if_false] at h ⊢;cases q:(at? p.headers x.n).isSome with
 | true=>simp
 | false=>rw [q] at h;simp at h
theorem qjy {x:ExprNode} {a b c:Int} (ha:1≤a∧a≤32) (hb:ari x.op=3∨x.op=14→1≤b∧b≤32) (h:(comb x a b c).2=0):1≤(comb x a b c).1∧(comb x a b c).1≤32:=by
 unfold comb at h ⊢;by_cases o6:x.op=6∨x.op=7
 ·simp only [if_pos o6] at h ⊢;by_cases r:x.n<0∨31<x.n
  ·simp [r] at h
  ·simpa [r] using ha
 simp only [if_neg o6] at h ⊢;by_cases o8:x.op=8
 ·simp only [if_pos o8] at h ⊢;by_cases r:x.n<0
  ·simp [r] at h
  simp only [if_neg r] at h ⊢;by_cases r2:wBad x.w∨a - x.w<x.n
  ·simp [r2] at h
  ·simp only [if_neg r2];have:wBad x.w=false:=by
    cases q:wBad x.w with
    | true=>exact absurd (.inl q) r2
    | false=>rfl
   exact wBad_false.1 this
 simp only [if_neg o8] at h ⊢;by_cases o14:x.op=14
 ·simp only [if_pos o14] at h ⊢;exact qkq h
 simp only [if_neg o14] at h ⊢;by_cases o17:x.op=17
 ·simp only [if_pos o17] at h ⊢;by_cases r:a≠1∨b≠c
  ·simp [r] at h
  ·simp only [if_neg r];exact hb (.inl (by simp [o17,ari]))
 simp only [if_neg o17] at h ⊢;by_cases r:ari x.op=2∧a≠b
 ·rw [if_pos r] at h;simp at h
 simp only [if_neg r] at h ⊢;by_cases r2:x.op=15∨x.op=16
 ·simp [r2]
 ·simpa [r2] using ha
theorem qcm {p:Prg} {ps:List Fld} {l:List ExprNode}:∀{n i w j},chk p ps l n i= .ok (w,j)→(1≤w∧w≤32)∧i<j∧j≤l.length
 | 0,i,w,j,h=>by simp [chk] at h
 | n+1,i,w,j,h=>by
  simp only [chk] at h;cases hx:l[i]? with
  | none=>rw [hx] at h;simp at h
  | some x=>
   have hi:i<l.length:=by
    obtain ⟨hi,_⟩:=List.getElem?_eq_some_iff.1 hx;exact hi
   rw [hx] at h;simp only at h;split at h
   ·cases h
   split at h
   ·split at h
    ·rename_i hp;cases h;exact ⟨qvw hp,by omega,by omega⟩
    ·cases h
   split at h
   ·cases h
   ·rename_i a i1 h1;obtain ⟨ra,r1,r2⟩:=qcm h1;split at h
    ·rename_i hk;split at h
     ·rename_i hc;cases h;refine ⟨qjy ra ?_ hc,by omega,r2⟩;intro hh;rcases hh with hh | hh
      ·omega
      ·rw [hh] at hk;simp [ari] at hk
     ·cases h
    split at h
    ·cases h
    ·rename_i b i2 h2;obtain ⟨rb,s1,s2⟩:=qcm h2;split at h
     ·split at h
      ·rename_i hc;cases h;exact ⟨qjy ra (fun _=>rb) hc,by omega,s2⟩
      ·cases h
     split at h
     ·cases h
     ·rename_i c i3 h3;obtain ⟨_,t1,t2⟩:=qcm h3;split at h
      ·rename_i hc;cases h;exact ⟨qjy ra (fun _=>rb) hc,by omega,t2⟩
      ·cases h
theorem qgi (w e:Int) (j:Nat):chkR (if e=0 then .ok (w,j) else .error e) (some (.val (.tup [.int .i64 w,.int .i64 j,.int .i64 e]))):=by
 by_cases z:e=0
 ·subst z;simp [chkR]
 ·simp [chkR,z]
theorem qpp (op:Int):ari op= -1∨ari op=0∨ari op=1∨ari op=2∨ari op=3:=by
 unfold ari;split
 ·exact .inr (.inl rfl)
 split
 ·exact .inr (.inr (.inl rfl))
 split
 ·exact .inr (.inr (.inr (.inl rfl)))
 split
 ·exact .inr (.inr (.inr (.inr rfl)))
 ·exact .inl rfl
theorem qhb (p:Prg) (ps:List Fld) (l:List ExprNode) (hl:l.length<2^40):∀n i,l.length - i<n→i≤l.length→chkR (chk p ps l n i) (qab Φ f_343 [.agg (scC p ps),.slice 3 (l.map ExprNode.c),.int .i64 (i:Nat)])
 | 0,i,h,hle=>by omega
 | n+1,i,h,hle=>by
  rw [qaa (fn:=c_343) rfl rfl];by_cases hi:i<l.length
  rotate_left
  ·have:i=l.length:=by omega
   subst this;simp [chk,chkR,c_343,qag]
  have ih1:=qhb p ps l hl n (i+1) (by omega) (by omega);have hA:=qrg l[i].op;have hP:=qvx p ps l[i];have hw:IntKind.wrap .i64 ((i:Int)+1)=(i:Int)+1:=qac (by omega) (by omega);have e1:((i+1:Nat):Int)=(i:Int)+1:=by omega
  rw [e1] at ih1;simp only [qag,ExprNode.e] at ih1 hP;simp only [chk,List.getElem?_eq_getElem hi];rcases qpp l[i].op with k | k | k | k | k
  ·rw [k] at hA;simp [chkR,c_343,qag,ExprNode.e,hi,Nat.not_le.2 hi,hA,k]
  ·rw [k] at hA;by_cases z:(prim p ps l[i]).2=0
   ·rw [z] at hP;simp [chkR,c_343,qag,ExprNode.e,hi,Nat.not_le.2 hi,hA,k,hP,z,hw]
   ·simp [chkR,c_343,qag,ExprNode.e,hi,Nat.not_le.2 hi,hA,k,hP,z,hw]
  ·rw [k] at hA;simp [c_343,qag,ExprNode.e,hi,Nat.not_le.2 hi,hA,k,hw];rw [qay];cases h1:chk p ps l n (i+1) with
   | error e=>
    rw [h1] at ih1;obtain ⟨he,a,b,hc⟩:=ih1;simp [c_343_l0,chkR,hc,he]
   | ok q=>
    obtain ⟨a,i1⟩:=q;rw [h1] at ih1;obtain ⟨ra,r1,r2⟩:=qcm h1;have hC:=qjz l[i] a 0 0 (by omega) (by omega);simp only [ExprNode.e] at hC;simp only [chkR] at ih1;simp [c_343_l0,ih1];rw [qay];simp [wr1,c_343_k1,hi,ExprNode.e,hC];exact qgi _ _ _
  ·rw [k] at hA;simp [c_343,qag,ExprNode.e,hi,Nat.not_le.2 hi,hA,k,hw];rw [qay];cases h1:chk p ps l n (i+1) with
   | error e=>
    rw [h1] at ih1;obtain ⟨he,a,b,hc⟩:=ih1;simp [c_343_l0,chkR,hc,he]
   | ok q=>
    obtain ⟨a,i1⟩:=q;rw [h1] at ih1;obtain ⟨ra,r1,r2⟩:=qcm h1;simp only [chkR] at ih1;simp [c_343_l0,ih1];rw [qay];have ih2:=qhb p ps l hl n i1 (by omega) (by omega);simp only [qag] at ih2;cases h2:chk p ps l n i1 with
    | error e=>
     rw [h2] at ih2;obtain ⟨he,x,y,hc⟩:=ih2;simp [chkR,hc,he,wr1]
    | ok q=>
     obtain ⟨b,i2⟩:=q;rw [h2] at ih2;obtain ⟨rb,s1,s2⟩:=qcm h2;simp only [chkR] at ih2;have hC:=qjz l[i] a b 0 (by omega) (by omega);simp only [ExprNode.e] at hC;simp [ih2,wr1];rw [qay];simp [wr2,c_343_k1,hi,ExprNode.e,hC];exact qgi _ _ _
  ·rw [k] at hA;simp [c_343,qag,ExprNode.e,hi,Nat.not_le.2 hi,hA,k,hw];rw [qay];cases h1:chk p ps l n (i+1) with
   | error e=>
    rw [h1] at ih1;obtain ⟨he,a,b,hc⟩:=ih1;simp [c_343_l0,chkR,hc,he]
   | ok q=>
    obtain ⟨a,i1⟩:=q;rw [h1] at ih1;obtain ⟨ra,r1,r2⟩:=qcm h1;simp only [chkR] at ih1;simp [c_343_l0,ih1];rw [qay];have ih2:=qhb p ps l hl n i1 (by omega) (by omega);simp only [qag] at ih2;cases h2:chk p ps l n i1 with
    | error e=>
     rw [h2] at ih2;obtain ⟨he,x,y,hc⟩:=ih2;simp [chkR,hc,he,wr1]
    | ok q=>
     obtain ⟨b,i2⟩:=q;rw [h2] at ih2;obtain ⟨rb,s1,s2⟩:=qcm h2;simp only [chkR] at ih2;simp [ih2,wr1];rw [qay];have ih3:=qhb p ps l hl n i2 (by omega) (by omega);simp only [qag] at ih3;cases h3:chk p ps l n i2 with
     | error e=>
      rw [h3] at ih3;obtain ⟨he,x,y,hc⟩:=ih3;simp [chkR,hc,he,wr2]
     | ok q=>
      obtain ⟨c,i3⟩:=q;rw [h3] at ih3;simp only [chkR] at ih3;have hC:=qjz l[i] a b c (by omega) (by omega);simp only [ExprNode.e] at hC;simp [ih3,wr2];rw [qay];simp [wr3,c_343_k1,hi,ExprNode.e,hC];exact qgi _ _ _
theorem qry (p:Prg) (ps:List Fld) (l:List ExprNode):qab Φ f_333 [.slice 3 (l.map ExprNode.c),.agg (scC p ps)]=some (.val (.tup [.int .i64 (exE p ps l).1,.int .i64 (exE p ps l).2])):=by
 rw [qaa (fn:=c_333) rfl rfl];by_cases h:24<l.length
 ·simp [c_333,qag,h,exE]
 have hc:=qhb p ps l (by omega) (l.length+1) 0 (by omega) (by omega);simp only [qag,Int.ofNat_zero] at hc;cases q:chk p ps l (l.length+1) 0 with
 | error e=>
  rw [q] at hc;obtain ⟨he,a,b,hc⟩:=hc;simp [c_333,qag,h,exE,q,hc,he]
 | ok r=>
  obtain ⟨w,j⟩:=r;rw [q] at hc;simp only [chkR] at hc;by_cases hj:j<l.length
  ·simp [c_333,qag,h,exE,q,hc,hj]
  ·simp [c_333,qag,h,exE,q,hc,hj]
theorem FieldRef.e (x:FieldRef):FieldRef.c x=[.int .i64 x.header,.int .i64 x.field]:=by simp [FieldRef.c]
theorem qabw (p:Prg) (h i:Int):qab Φ f_331 [.agg (Prg.c p),.agg [.int .i64 h,.int .i64 i]]=some (.val (match decl p h i with
  | some w=> .tup [.int .i64 w,.bool true]
  | none=> .tup [.int .i64 0,.bool false])):=by
 rw [qaa (fn:=c_331) rfl rfl,qlx];by_cases hm:h= -1
 ·subst hm;by_cases i0:i<0
  ·rw [show qax p (-1) i=none by simp [qax,qbq i0]];simp [c_331,Prg.e,i0]
  by_cases i1:(p.metadata.length:Int)≤i
  ·rw [show qax p (-1) i=none by simp [qax,qbp i1]];simp [c_331,Prg.e,i0,i1]
  obtain ⟨k,rfl⟩:∃k:Nat,i=k:=⟨i.toNat,by omega⟩;have hk:k<p.metadata.length:=by omega
  rw [show qax p (-1) k=some p.metadata[k] by simp [qax,hk]];simp [c_331,Prg.e,i0,i1,hk,Fld.e]
 by_cases h0:h<0
 ·rw [show qax p h i=none by simp [qax,hm,qbq h0]];simp [c_331,Prg.e,hm,h0]
 by_cases h1:(p.headers.length:Int)≤h
 ·rw [show qax p h i=none by simp [qax,hm,qbp h1]];simp [c_331,Prg.e,hm,h0,h1]
 obtain ⟨m,rfl⟩:∃k:Nat,h=k:=⟨h.toNat,by omega⟩;have hk:m<p.headers.length:=by omega
 by_cases i0:i<0
 ·rw [show qax p m i=none by simp [qax,hm,hk,qbq i0]];simp [c_331,Prg.e,hm,hk,Nat.not_le.2 hk,i0,Header.e]
 by_cases i1:(p.headers[m].fields.length:Int)≤i
 ·rw [show qax p m i=none by simp [qax,hm,hk,qbp i1]];simp [c_331,Prg.e,hm,hk,Nat.not_le.2 hk,i0,i1,Header.e]
 obtain ⟨k,rfl⟩:∃k:Nat,i=k:=⟨i.toNat,by omega⟩;have hk2:k<p.headers[m].fields.length:=by omega
 rw [show qax p m k=some p.headers[m].fields[k] by simp [qax,hm,hk,hk2]];simp [c_331,Prg.e,hm,hk,Nat.not_le.2 hk,hk2,Nat.not_le.2 hk2,Header.e,Fld.e]
theorem qae7 (p:Prg) (ps:List Fld) (l:List ExprNode) (w:Int):qab Φ f_332 [.agg (scC p ps),.slice 3 (l.map ExprNode.c),.int .i64 w]=some (.val (.int .i64 (valE p ps l w))):=by
 rw [qaa (fn:=c_332) rfl rfl];have h:=qry p ps l;simp only [qag] at h;by_cases z:(exE p ps l).2=0
 ·rw [z] at h;by_cases y:(exE p ps l).1=w
  ·simp [c_332,qag,h,valE,z,y]
  ·simp [c_332,qag,h,valE,z,y]
 ·simp [c_332,qag,h,valE,z]
theorem qii {α:Type} {l:List α} {i:Int}:(at? l i).isSome=(!(decide (i<0) || decide ((l.length:Int)≤i))):=by
 by_cases h0:i<0
 ·simp [qbq h0,h0]
 by_cases h1:(l.length:Int)≤i
 ·simp [qbp h1,h1]
 obtain ⟨k,rfl⟩:∃k:Nat,i=k:=⟨i.toNat,by omega⟩;have:k<l.length:=by omega
 simp [this,h0]
theorem qae3 (p:Prg) (ps:List Fld) (s:Statement):qab Φ f_297 [.agg (scC p ps),.agg (Statement.c s)]=some (.val (.int .i64 (stmE p ps s))):=by
 rw [qaa (fn:=c_297) rfl rfl];have hd:=qabw p s.dst.header s.dst.field;have hi:=qry p ps s.index;simp only [Prg.e] at hd;simp only [qag] at hi;have hr:(s.register<0∧at? p.registers s.register=none)∨(¬s.register<0∧(p.registers.length:Int)≤s.register∧at? p.registers s.register=none)∨∃k:Nat,∃h:k<p.registers.length,s.register=k∧at? p.registers s.register=some p.registers[k]:=by
  by_cases h0:s.register<0
  ·exact .inl ⟨h0,qbq h0⟩
  by_cases h1:(p.registers.length:Int)≤s.register
  ·exact .inr (.inl ⟨h0,h1,qbp h1⟩)
  obtain ⟨k,hk⟩:∃k:Nat,s.register=k:=⟨s.register.toNat,by omega⟩;exact .inr (.inr ⟨k,by omega,hk,by rw [hk];simp⟩)
 have hx:∀w,qab Φ f_332 [.agg (scC p ps),.slice 3 (s.value.map ExprNode.c),.int .i64 w]=some (.val (.int .i64 (valE p ps s.value w))):=qae7 p ps s.value;simp only [qag] at hx;have hd':qab Φ f_331 [.agg [.str p.name,.slice 2 (p.headers.map Header.c),.slice 2 (p.metadata.map Fld.c),.slice 3 (p.registers.map Register.c),.slice 3 (p.actions.map Action.c),.slice 6 (p.tables.map Tbl.c),.slice 7 (p.states.map ParserState.c),.slice 5 (p.control.map ControlNode.c),.slice 1 (p.deparser.map cI)],.agg [.int .i64 s.dst.header,.int .i64 s.dst.field]]=
   some (.val (.tup [.int .i64 ((decl p s.dst.header s.dst.field).getD 0),.bool (decl p s.dst.header s.dst.field).isSome])):=by
  rw [hd];cases decl p s.dst.header s.dst.field<;>rfl
 clear hd;by_cases k1:s.kind=1
 ·rcases hr with ⟨r0,rn⟩ | ⟨r0,r1,rn⟩ | ⟨m,hm,rk,rn⟩<;>cases qd:decl p s.dst.header s.dst.field<;>rw [qd] at hd'
  ·simp [c_297,qag,Statement.e,hd',stmE,qd,k1,Int.not_le.2 r0]
  ·simp [c_297,qag,Statement.e,hd',stmE,qd,k1,Int.not_le.2 r0,hx]
  ·simp [c_297,qag,Statement.e,hd',stmE,qd,k1,Int.not_lt.1 r0,Int.not_lt.2 r1]
  ·simp [c_297,qag,Statement.e,hd',stmE,qd,k1,Int.not_lt.1 r0,Int.not_lt.2 r1,hx]
  ·simp [c_297,qag,Statement.e,hd',stmE,qd,k1,rk,hm]
  ·simp [c_297,qag,Statement.e,hd',stmE,qd,k1,rk,hm,hx]
 by_cases k2:s.kind=2
 ·have e:stmE p ps s=if (at? p.headers s.header).isSome then 0 else 8:=by simp [stmE,k2]
  rw [e,qii];by_cases h0:s.header<0<;>by_cases h1:(p.headers.length:Int)≤s.header<;>rcases hr with ⟨r0,rn⟩ | ⟨r0,r1,rn⟩ | ⟨m,hm,rk,rn⟩
  all_goals first
   | simp [c_297,qag,Statement.e,hd',k2,Int.not_le.2 r0,h0,h1]
   | simp [c_297,qag,Statement.e,hd',k2,Int.not_lt.1 r0,Int.not_lt.2 r1,h0,h1]
   | simp [c_297,qag,Statement.e,hd',k2,rk,hm,h0,h1]
 by_cases k3:s.kind=3
 ·have e:stmE p ps s=if (at? p.headers s.header).isSome then 0 else 8:=by simp [stmE,k3]
  rw [e,qii];by_cases h0:s.header<0<;>by_cases h1:(p.headers.length:Int)≤s.header<;>rcases hr with ⟨r0,rn⟩ | ⟨r0,r1,rn⟩ | ⟨m,hm,rk,rn⟩
  all_goals first
   | simp [c_297,qag,Statement.e,hd',k3,Int.not_le.2 r0,h0,h1]
   | simp [c_297,qag,Statement.e,hd',k3,Int.not_lt.1 r0,Int.not_lt.2 r1,h0,h1]
   | simp [c_297,qag,Statement.e,hd',k3,rk,hm,h0,h1]
 by_cases k4:s.kind=4
 ·rcases hr with ⟨r0,rn⟩ | ⟨r0,r1,rn⟩ | ⟨m,hm,rk,rn⟩
  ·simp [c_297,qag,Statement.e,hd',stmE,k4,Int.not_le.2 r0,rn]
  ·simp [c_297,qag,Statement.e,hd',stmE,k4,Int.not_lt.1 r0,Int.not_lt.2 r1,rn]
  ·rw [rk] at rn;cases qd:decl p s.dst.header s.dst.field with
   | none=>rw [qd] at hd';simp [c_297,qag,Statement.e,hd',stmE,k4,rk,hm,rn,qd]
   | some w=>
    rw [qd] at hd';by_cases z:(exE p ps s.index).2=0
    ·rw [z] at hi;by_cases y:w=p.registers[m].width
     ·simp [c_297,qag,Statement.e,Register.e,hd',stmE,k4,rk,hm,rn,qd,hi,z,y]
     ·simp [c_297,qag,Statement.e,Register.e,hd',stmE,k4,rk,hm,rn,qd,hi,z,y]
    ·simp [c_297,qag,Statement.e,hd',stmE,k4,rk,hm,rn,qd,hi,z]
 by_cases k5:s.kind=5
 ·rcases hr with ⟨r0,rn⟩ | ⟨r0,r1,rn⟩ | ⟨m,hm,rk,rn⟩
  ·simp [c_297,qag,Statement.e,hd',stmE,k5,Int.not_le.2 r0,rn]
  ·simp [c_297,qag,Statement.e,hd',stmE,k5,Int.not_lt.1 r0,Int.not_lt.2 r1,rn]
  ·rw [rk] at rn;by_cases z:(exE p ps s.index).2=0
   ·rw [z] at hi;simp [c_297,qag,Statement.e,Register.e,hd',stmE,k5,rk,hm,rn,hi,z,hx]
   ·simp [c_297,qag,Statement.e,hd',stmE,k5,rk,hm,rn,hi,z]
 rcases hr with ⟨r0,rn⟩ | ⟨r0,r1,rn⟩ | ⟨m,hm,rk,rn⟩
 ·simp [c_297,qag,Statement.e,hd',stmE,k1,k2,k3,k4,k5,Int.not_le.2 r0]
 ·simp [c_297,qag,Statement.e,hd',stmE,k1,k2,k3,k4,k5,Int.not_lt.1 r0,Int.not_lt.2 r1]
 ·simp [c_297,qag,Statement.e,hd',stmE,k1,k2,k3,k4,k5,rk,hm]
end Go.Av
