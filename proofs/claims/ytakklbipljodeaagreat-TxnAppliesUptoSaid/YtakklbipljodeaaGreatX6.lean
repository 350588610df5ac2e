/-
 txn.Apply.
-/
import Derived.Test.YtakklbipljodeaaGreatR7
set_option linter.unusedVariables false
set_option linter.unusedSimpArgs false
set_option linter.constructorNameAsVariable false
namespace Go.Av
set_option maxRecDepth 4000
theorem qzc (p:Prg) (op:p.Ok qbd) (hc:(pre p.control).length<2^40 - 1) (hp:p.tables.length<2^40) {c:Config} (s:CfgT c) (l:List TableOp) (hl:∀o∈l,OpS o):
  qab Φ f_48 [.agg (Prg.c p),.agg (Config.c c),.slice 9 (l.map TableOp.c)]=some (.val (appA p c l)):=by
 rw [qaa (fn:=c_48) rfl rfl];obtain ⟨q0,q1,q2,q3,hC,hq,hq2⟩:=cfg4 c;have hT0:Tail [(0,AO.row 4 [[.fslice 1 [],.fslice 1 [],.fslice 2 [],.fslice 1 []]])] 1:=(Tail.nil 0).app1 (Nat.le_refl 0);rcases qab0 p op hc c s hT0 with ⟨z,e⟩ | ⟨z,S,O1,N1,e,m1,w1,hk1,hT1,hN1⟩
 ·have hb:badA p c l=some (-1,cfgE p c):=by simp [badA,z]
  rw [show appA p c l= .tup [.agg noC,.slice 1 [],.int .i64 (-1),.int .i64 (cfgE p c)] by simp only [appA,hb]];rw [hC] at e ⊢;simp only [Prg.e] at e;simp [c_48,Prg.e,e,hq,hq2,z,noC]
 ·have v:=(qft p c).1 z;have r0:look 0 O1=some (.row 4 [[.fslice 1 [],.fslice 1 [],.fslice 2 [],.fslice 1 []]]):=hk1.lk hT0 rfl (by intro h;cases h);have n0:¬S.own 0:=fun h=>by have:=w1 0 h;omega
  obtain ⟨S2,O2,N2,es,ho,hk2,hT2,hN2,hm⟩:=qwq p op hp v s l hl hT1 m1;have r02:look 0 O2=some (.row 4 [[.fslice 1 [],.fslice 1 [],.fslice 2 [],.fslice 1 []]]):=hk2.lk hT1 r0 (by
   rintro (h | h)
   ·exact n0 h
   ·have h:look 0 O1=some .res:=h;rw [r0] at h;cases h)
  cases hb:badA p c l with
  | some x=>
   obtain ⟨k,x⟩:=x;rw [hb] at hm;obtain ⟨e2,-⟩:=hm;have hx:=quc hb;rw [show appA p c l= .tup [.agg noC,.slice 1 [],.int .i64 k,.int .i64 x] by simp only [appA,hb]];rw [hC] at e ⊢;simp only [Prg.e] at e;simp [c_48,Prg.e,e,e2,hq,hq2,hx,noC,r02,qae]
  | none=>
   rw [hb] at hm;obtain ⟨T,e2,m2,hTk,hTN,hTo⟩:=hm;obtain ⟨v',s'⟩:=qje v s hp l hl l.length;obtain ⟨u1,u2,u3,u4,U,O3,N3,e3,n3,w3,hk3,hT3,hN3⟩:=qwr (v'.u s') hT2 m2;rw [es] at e3;have r03:=hk3.lk hT2 r02 (by simp);have hT3k:=hk3.lk hT2 hTk (by simp);rw [show appA p c l= .tup [.agg (Config.c (cfgN p c l l.length)),.slice 1 (idsA p c l),.int .i64 0,.int .i64 0] by simp only [appA,hb];rfl];have hil:(idsA p c l).length=l.length:=by simp [idsA]
   have T0:¬T=0:=by omega
   simp only [Prg.e,Config.ce c] at e;generalize idsA p c l=il at*;have n3':CfgM (setl 0 (AO.row 4 [[u1,u2,u3,u4]]) O3) u1 u2 u3 u4 U (cfgN p c l l.length):=n3.fr fun j hj=>by
    have:=w3 j hj;rw [qae,if_neg (by omega)]
   have a1:=n3'.snpR (n:=34) (N:=N3);have a2:=n3'.snpN (n:=34) (N:=N3);have a3:=n3'.snpD (n:=34) (N:=N3);have a4:=n3'.snpG (n:=34) (N:=N3);simp [c_48,Prg.e,e,e2,e3,r03,qae,a1,a2,a3,a4,Config.ce]
def qlq (x:Entry):Bool:=decide (x.keys.length≤10)&&decide (x.call.args.length≤10)
theorem qnk (x:Entry):qab Φ f_97 [.agg (Entry.c x)]=some (.val (.bool (qlq x))):=by
 rw [qaa (fn:=c_97) rfl rfl];by_cases h:x.keys.length≤10<;>simp [c_97,Entry.c,qlq,h]
def bigO (x:TableOp):Bool:= !qlq x.entry || decide (10<x.call.args.length)
def qkl (l:List TableOp):Bool:=decide (l.length≤80)&& !qa2 l bigO 0
theorem qtg (l:List TableOp):qab Φ f_43 [.slice 9 (l.map TableOp.c)]=some (.val (.bool (qkl l))):=by
 rw [qaa (fn:=c_43) rfl rfl];by_cases q:l.length≤80
 rotate_left
 ·have:80<l.length:=by omega
  simp [c_43,qkl,q,this]
 have q':¬80<l.length:=by omega
 simp [c_43,qkl,q,q'];refine qao l.length (fun i e=>look 0 e=some (.slice 9 (l.map TableOp.c))∧look 3 e=some (.int .i64 i)) (fun i=>some (Rt.val (AV.bool (!qa2 l bigO i)))) ?_ ?_ 0 _ (Nat.zero_le _) ?_
 ·rintro i e L hi hL ⟨h0,h3⟩ ih;have hw:IntKind.wrap .i64 ((i:Int)+1)=((i+1:Nat):Int):=qac (by omega) (by omega);have hsm:=qnk l[i].entry;simp only [Entry.c] at hsm;cases hb:bigO l[i] with
  | true=>
   rw [qe2 hi hb];unfold bigO at hb;cases hq:qlq l[i].entry with
   | false=>
    rw [hq] at hsm;simp [c_43_l0,TableOp.c,h0,h3,hi,hsm]
   | true=>
    rw [hq] at hb hsm;simp at hb;simp [c_43_l0,TableOp.c,h0,h3,hi,hsm,hb]
  | false=>
   rw [qc8 hi hb];unfold bigO at hb;simp at hb;rw [hb.1] at hsm;have:¬10<l[i].call.args.length:=by omega
   simp [c_43_l0,TableOp.c,h0,h3,hi,hsm,hw,this];exact ih _ ⟨by simp [h0],by simp⟩
 ·rintro e L hL ⟨h0,h3⟩;rw [qe1];simp [c_43_l0,c_43_k1, *]
 ·simp
def qk0 (r:Rw):Bool:= !qlq r.entry
def qfs (l:List Rw):Bool:=decide (40<l.length) || qa2 l qk0 0
def qg7 (c:ActionCall):Bool:=decide (10<c.args.length)
def qfd (l:List Int):Bool:=decide (80<l.length)
def qhl (c:Config):Bool:=decide (c.rows.length≤16)&&decide (c.nextID.length≤16)&&decide (c.defaults.length≤16)&&decide (c.registers.length≤8)&& !qa2 c.rows qfs 0&& !qa2 c.defaults qg7 0&& !qa2 c.registers qfd 0
theorem qmw (R N D:List (List AV)) (c:List (List Int)) (hd:c.length≤8) (e:Env) (h1:look 1 e=some (.ptr 0 4 0 0)):
  go Φ (finP [.tmp 2]) [.c c_38_k6] .normal ⟨e,⟨[(0,.row 4 [[.slice 1 R,.slice 1 N,.slice 2 D,.slice 1 (c.map (cS 1 c32))]])],1⟩⟩=some (Rt.val (.bool (!qa2 c qfd 0))):=by
 simp [c_38_k6];refine qao c.length (fun i e=>look 1 e=some (.ptr 0 4 0 0)∧look 6 e=some (.int .i64 i)) (fun i=>some (Rt.val (.bool (!qa2 c qfd i)))) ?_ ?_ 0 _ (Nat.zero_le _) ?_
 ·rintro i e L hi hL ⟨h1,h6⟩ ih;have hw:IntKind.wrap .i64 ((i:Int)+1)=((i+1:Nat):Int):=qac (by omega) (by omega);cases hb:qfd c[i] with
  | true=>
   rw [qe2 hi hb];unfold qfd at hb;simp at hb;simp [c_38_l4,cS,hi,h1,h6,hb]
  | false=>
   rw [qc8 hi hb];unfold qfd at hb;have hb':¬80<c[i].length:=by simpa using hb
   simp [c_38_l4,cS,hi,h1,h6,hb',hw];exact ih _ ⟨by simp [h1],by simp⟩
 ·rintro e L hL ⟨h1,h6⟩;rw [qe1];simp [c_38_l4,c_38_k5, *]
 ·simp [h1]
theorem qmv (R N:List (List AV)) (d:List ActionCall) (c:List (List Int)) (hd:d.length≤16) (hc:c.length≤8) (e:Env) (h1:look 1 e=some (.ptr 0 4 0 0)):
  go Φ (finP [.tmp 2]) [.c c_38_k7] .normal ⟨e,⟨[(0,.row 4 [[.slice 1 R,.slice 1 N,.slice 2 (d.map ActionCall.c),.slice 1 (c.map (cS 1 c32))]])],1⟩⟩=some (Rt.val (.bool (!qa2 d qg7 0&& !qa2 c qfd 0))):=by
 simp [c_38_k7];refine qao d.length (fun i e=>look 1 e=some (.ptr 0 4 0 0)∧look 5 e=some (.int .i64 i)) (fun i=>some (Rt.val (.bool (!qa2 d qg7 i&& !qa2 c qfd 0)))) ?_ ?_ 0 _ (Nat.zero_le _) ?_
 ·rintro i e L hi hL ⟨h1,h6⟩ ih;have hw:IntKind.wrap .i64 ((i:Int)+1)=((i+1:Nat):Int):=qac (by omega) (by omega);cases hb:qg7 d[i] with
  | true=>
   rw [qe2 hi hb];unfold qg7 at hb;simp at hb;simp [c_38_l3,ActionCall.ce,hi,h1,h6,hb]
  | false=>
   rw [qc8 hi hb];unfold qg7 at hb;have hb':¬10<d[i].args.length:=by simpa using hb
   simp [c_38_l3,ActionCall.ce,hi,h1,h6,hb',hw];exact ih _ ⟨by simp [h1],by simp⟩
 ·rintro e L hL ⟨h1,h6⟩;rw [qe1];simp [c_38_l3,h1,h6,hL];have:=qmw R N (d.map ActionCall.c) c hc;refine (this _ ?_).trans (by simp);simp [h1]
 ·simp [h1]
theorem qwb (r:Rw):qab Φ f_97 [.agg [.slice 2 (r.entry.keys.map KeyMatch.c),.int .i64 r.entry.priority,.int .i64 r.entry.call.action,.slice 1 (r.entry.call.args.map c32)]]=some (.val (.bool (!qk0 r))):=by
 have:=qnk r.entry;simp only [Entry.c] at this;simpa [qk0] using this
theorem qos (c:Config):qab Φ f_38 [.agg (Config.c c)]=some (.val (.bool (qhl c))):=by
 rw [qaa (fn:=c_38) rfl rfl];by_cases q1:c.rows.length≤16
 rotate_left
 ·simp [c_38,Config.c,qhl,q1,Nat.lt_of_not_le q1]
 by_cases q2:c.nextID.length≤16
 rotate_left
 ·simp [c_38,Config.c,qhl,q1,q2,Nat.lt_of_not_le q2,Nat.not_lt.2 q1]
 by_cases q3:c.defaults.length≤16
 rotate_left
 ·simp [c_38,Config.c,qhl,q1,q2,q3,Nat.lt_of_not_le q3,Nat.not_lt.2 q1,Nat.not_lt.2 q2]
 by_cases q4:c.registers.length≤8
 rotate_left
 ·simp [c_38,Config.c,qhl,q1,q2,q3,q4,Nat.lt_of_not_le q4,Nat.not_lt.2 q1,Nat.not_lt.2 q2,Nat.not_lt.2 q3]
 simp [c_38,Config.c,qhl,q1,q2,q3,q4,Nat.not_lt.2 q1,Nat.not_lt.2 q2,Nat.not_lt.2 q3,Nat.not_lt.2 q4];refine qao c.rows.length (fun i e=>look 1 e=some (.ptr 0 4 0 0)∧look 3 e=some (.int .i64 i)) (fun i=>some (Rt.val (.bool (!qa2 c.rows qfs i&&(!qa2 c.defaults qg7 0&& !qa2 c.registers qfd 0))))) ?_ ?_ 0 _ (Nat.zero_le _) ?_|>.trans ?_
 ·rintro i e L hi hL ⟨h1,h6⟩ ih;have hw:IntKind.wrap .i64 ((i:Int)+1)=((i+1:Nat):Int):=qac (by omega) (by omega);by_cases q:40<c.rows[i].length
  ·rw [qe2 hi (show qfs c.rows[i]=true by simp [qfs,q])];simp [c_38_l2,cSe,hi,h1,h6,q]
  simp [c_38_l2,cSe,hi,h1,h6,q];refine (qao c.rows[i].length (fun k e=>look 1 e=some (.ptr 0 4 0 0)∧look 3 e=some (.int .i64 i)∧look 4 e=some (.int .i64 k)) (fun k=>some (Rt.val (.bool (if qa2 c.rows[i] qk0 k then false else (!qa2 c.rows qfs (i+1)&&(!qa2 c.defaults qg7 0&& !qa2 c.registers qfd 0)))))) ?_ ?_ 0 _ (Nat.zero_le _) ?_).trans ?_
  ·rintro k e L' hk hL' ⟨h1,h3,h4⟩ ih';have hw:IntKind.wrap .i64 ((k:Int)+1)=((k+1:Nat):Int):=qac (by omega) (by omega);have hsm:=qwb c.rows[i][k];cases hb:qk0 c.rows[i][k] with
   | true=>
    rw [qe2 hk hb];rw [hb] at hsm;simp [c_38_l0,cSe,Rw.ce,hi,hk,h1,h3,h4,hsm]
   | false=>
    rw [qc8 hk hb];rw [hb] at hsm;simp [c_38_l0,cSe,Rw.ce,hi,hk,h1,h3,h4,hsm,hw];refine (ih' _ ⟨by simp [h1],by simp [h3],by simp⟩).trans (by simp)
  ·rintro e L' hL' ⟨h1,h3,h4⟩;rw [qe1];simp [c_38_l0,c_38_k1,cSe,hi,hL',h1,h3,h4,hw];refine (ih _ ⟨by simp [h1],by simp⟩).trans (by simp)
  ·simp [h1,h6]
  ·cases hb:qfs c.rows[i] with
   | true=>
    rw [qe2 hi hb];simp [qfs,q] at hb;simp [hb]
   | false=>
    rw [qc8 hi hb];simp [qfs,q] at hb;simp [hb]
 ·rintro e L hL ⟨h1,h6⟩;rw [qe1];simp [c_38_l2,h1,h6,hL];have:=qmv (c.rows.map (cS 5 Rw.c)) (c.nextID.map cI) c.defaults c.registers q3 q4;refine (this _ ?_).trans (by simp);simp [h1]
 ·simp
 ·simp [Bool.and_assoc]
theorem Fld.ce' (x:Fld):Fld.c x=[.str x.name,.int .i64 x.width]:=by simp [Fld.c]
theorem qi2 (l:List Fld):IsB (qab Φ f_183 [.slice 2 (l.map Fld.c)]):=by
 rw [qaa (fn:=c_183) rfl rfl];by_cases q:16<l.length
 ·simp [c_183,q]
 simp [c_183,q];refine qgq l.length (fun i e=>look 0 e=some (.slice 2 (l.map Fld.c))∧look 3 e=some (.int .i64 i)) IsB ?_ ?_ 0 _ (Nat.zero_le _) ?_
 ·rintro i e L hi hL ⟨h0,h3⟩ ih;have hw:IntKind.wrap .i64 ((i:Int)+1)=((i+1:Nat):Int):=qac (by omega) (by omega);by_cases z:40<l[i].name.length
  ·simp [c_183_l0,Fld.ce',h0,h3,hi,z]
  simp [c_183_l0,Fld.ce',h0,h3,hi,z,hw];exact ih _ ⟨by simp [h0],by simp⟩
 ·rintro e L hL ⟨h0,h3⟩;simp [c_183_l0,c_183_k1,h0,h3,hL]
 ·simp
theorem qwy (a:Action):IsB (qab Φ f_184 [.agg (Action.c a)]):=by
 rw [qaa (fn:=c_184) rfl rfl];obtain ⟨b,hb⟩:=qi2 a.params;by_cases z0:40<a.name.length
 ·simp [c_184,Action.ce,z0]
 cases b with
 | false=>simp [c_184,Action.ce,z0,hb]
 | true=>
 by_cases z1:16<a.body.length
 ·simp [c_184,Action.ce,z0,hb,z1]
 simp [c_184,Action.ce,z0,hb,z1];refine qgq a.body.length (fun i e=>look 1 e=some (.iptr 3 [[.str a.name,.slice 2 (a.params.map Fld.c),.slice 7 (a.body.map Statement.c)]] 0 0)∧look 3 e=some (.int .i64 i)) IsB ?_ ?_ 0 _ (Nat.zero_le _) ?_
 ·rintro i e L hi hL ⟨h1,h3⟩ ih;have hw:IntKind.wrap .i64 ((i:Int)+1)=((i+1:Nat):Int):=qac (by omega) (by omega);by_cases z:40<a.body[i].index.length
  ·simp [c_184_l0,Statement.ce,h1,h3,hi,z]
  by_cases z':40<a.body[i].value.length
  ·simp [c_184_l0,Statement.ce,h1,h3,hi,z,z']
  simp [c_184_l0,Statement.ce,h1,h3,hi,z,z',hw];exact ih _ ⟨by simp [h1],by simp⟩
 ·rintro e L hL ⟨h1,h3⟩;simp [c_184_l0,c_184_k1,h1,h3,hL]
 ·simp
def qcj (p:Prg):AV:= .iptr 9 [Prg.c p] 0 0
theorem s17_d (p:Prg) (hs:p.states.length≤16) (e:Env) (n:Nat) (h1:look 1 e=some (qcj p)):IsB (go Φ (finP [.tmp 2]) [.c c_95_k6] .normal ⟨e,⟨[],n⟩⟩):=by
 simp [c_95_k6];refine qgq p.states.length (fun i e=>look 1 e=some (qcj p)∧look 8 e=some (.int .i64 i)) IsB ?_ ?_ 0 _ (Nat.zero_le _) ?_
 ·rintro i e L hi hL ⟨h1,h8⟩ ih;simp only [qcj,Prg.ce] at h1;have hw:IntKind.wrap .i64 ((i:Int)+1)=((i+1:Nat):Int):=qac (by omega) (by omega);by_cases z:40<p.states[i].name.length
  ·simp [c_95_l4,ParserState.ce,h1,h8,hi,z]
  by_cases z1:8<p.states[i].extract.length
  ·simp [c_95_l4,ParserState.ce,h1,h8,hi,z,z1]
  by_cases z2:16<p.states[i].cases.length
  ·simp [c_95_l4,ParserState.ce,h1,h8,hi,z,z1,z2]
  simp [c_95_l4,ParserState.ce,h1,h8,hi,z,z1,z2,hw];exact ih _ ⟨by simp [h1,qcj,Prg.ce],by simp⟩
 ·rintro e L hL ⟨h1,h8⟩;simp only [qcj,Prg.ce] at h1;simp [c_95_l4,c_95_k5,h1,h8,hL]
 ·simp [h1]
theorem s17_c (p:Prg) (ht:p.tables.length≤16) (hs:p.states.length≤16) (e:Env) (n:Nat) (h1:look 1 e=some (qcj p)):IsB (go Φ (finP [.tmp 2]) [.c c_95_k7] .normal ⟨e,⟨[],n⟩⟩):=by
 simp [c_95_k7];refine qj9 p.tables.length (fun i e h=>∃n,h=⟨[],n⟩∧look 1 e=some (qcj p)∧look 6 e=some (.int .i64 i)) IsB ?_ ?_ 0 _ _ (Nat.zero_le _) ?_
 ·rintro i e _ L hi hL ⟨n,rfl,h1,h8⟩ ih;simp only [qcj,Prg.ce] at h1;have hw:IntKind.wrap .i64 ((i:Int)+1)=((i+1:Nat):Int):=qac (by omega) (by omega);by_cases z:40<p.tables[i].name.length
  ·simp [c_95_l3,Tbl.ce,h1,h8,hi,z]
  by_cases z1:10<p.tables[i].keys.length
  ·simp [c_95_l3,Tbl.ce,h1,h8,hi,z,z1]
  by_cases z2:24<p.tables[i].actions.length
  ·simp [c_95_l3,Tbl.ce,h1,h8,hi,z,z1,z2]
  by_cases z3:10<p.tables[i].dflt.args.length
  ·simp [c_95_l3,Tbl.ce,h1,h8,hi,z,z1,z2,z3]
  simp [c_95_l3,Tbl.ce,h1,h8,hi,z,z1,z2,z3,hw];exact ih _ _ ⟨_,rfl,by simp [h1,qcj,Prg.ce],by simp⟩
 ·rintro e _ L hL ⟨n,rfl,h1,h8⟩;have h1':=h1;simp only [qcj,Prg.ce] at h1;simp [c_95_l3,h1,h8,hL];exact s17_d p hs _ _ (by simp [h1'])
 ·simp [h1]
theorem s17_b (p:Prg) (ha:p.actions.length≤20) (ht:p.tables.length≤16) (hs:p.states.length≤16) (e:Env) (n:Nat) (h1:look 1 e=some (qcj p)):IsB (go Φ (finP [.tmp 2]) [.c c_95_k8] .normal ⟨e,⟨[],n⟩⟩):=by
 simp [c_95_k8];refine qgq p.actions.length (fun i e=>look 1 e=some (qcj p)∧look 5 e=some (.int .i64 i)) IsB ?_ ?_ 0 _ (Nat.zero_le _) ?_
 ·rintro i e L hi hL ⟨h1,h8⟩ ih;simp only [qcj,Prg.ce] at h1;have hw:IntKind.wrap .i64 ((i:Int)+1)=((i+1:Nat):Int):=qac (by omega) (by omega);obtain ⟨b,hb⟩:=qwy p.actions[i];simp only [Action.ce] at hb;cases b with
  | false=>simp [c_95_l2,Action.ce,h1,h8,hi,hb]
  | true=>
  simp [c_95_l2,Action.ce,h1,h8,hi,hb,hw];exact ih _ ⟨by simp [h1,qcj,Prg.ce],by simp⟩
 ·rintro e L hL ⟨h1,h8⟩;have h1':=h1;simp only [qcj,Prg.ce] at h1;simp [c_95_l2,h1,h8,hL];exact s17_c p ht hs _ _ (by simp [h1'])
 ·simp [h1]
theorem s17_a (p:Prg) (hr:p.registers.length≤8) (ha:p.actions.length≤20) (ht:p.tables.length≤16) (hs:p.states.length≤16) (e:Env) (n:Nat) (h1:look 1 e=some (qcj p)):IsB (go Φ (finP [.tmp 2]) [.c c_95_k9] .normal ⟨e,⟨[],n⟩⟩):=by
 simp [c_95_k9];refine qgq p.registers.length (fun i e=>look 1 e=some (qcj p)∧look 4 e=some (.int .i64 i)) IsB ?_ ?_ 0 _ (Nat.zero_le _) ?_
 ·rintro i e L hi hL ⟨h1,h8⟩ ih;simp only [qcj,Prg.ce] at h1;have hw:IntKind.wrap .i64 ((i:Int)+1)=((i+1:Nat):Int):=qac (by omega) (by omega);by_cases z:40<p.registers[i].name.length
  ·simp [c_95_l1,Register.ce,h1,h8,hi,z]
  simp [c_95_l1,Register.ce,h1,h8,hi,z,hw];exact ih _ ⟨by simp [h1,qcj,Prg.ce],by simp⟩
 ·rintro e L hL ⟨h1,h8⟩;have h1':=h1;simp only [qcj,Prg.ce] at h1;simp [c_95_l1,h1,h8,hL];exact s17_b p ha ht hs _ _ (by simp [h1'])
 ·simp [h1]
theorem qahr (p:Prg):IsB (qab Φ f_95 [.agg (Prg.c p)]):=by
 rw [qaa (fn:=c_95) rfl rfl];obtain ⟨b,hb⟩:=qi2 p.metadata;by_cases z0:40<p.name.length
 ·simp [c_95,Prg.ce,z0]
 by_cases z1:12<p.headers.length
 ·simp [c_95,Prg.ce,z0,z1]
 cases b with
 | false=>simp [c_95,Prg.ce,z0,z1,hb]
 | true=>
 by_cases z2:8<p.registers.length
 ·simp [c_95,Prg.ce,z0,z1,hb,z2]
 by_cases z3:20<p.actions.length
 ·simp [c_95,Prg.ce,z0,z1,hb,z2,z3]
 by_cases z4:16<p.tables.length
 ·simp [c_95,Prg.ce,z0,z1,hb,z2,z3,z4]
 by_cases z5:16<p.states.length
 ·simp [c_95,Prg.ce,z0,z1,hb,z2,z3,z4,z5]
 by_cases z6:16<p.deparser.length
 ·simp [c_95,Prg.ce,z0,z1,hb,z2,z3,z4,z5,z6]
 simp [c_95,Prg.ce,z0,z1,hb,z2,z3,z4,z5,z6];refine qgq p.headers.length (fun i e=>look 1 e=some (qcj p)∧look 3 e=some (.int .i64 i)) IsB ?_ ?_ 0 _ (Nat.zero_le _) ?_
 ·rintro i e L hi hL ⟨h1,h8⟩ ih;simp only [qcj,Prg.ce] at h1;have hw:IntKind.wrap .i64 ((i:Int)+1)=((i+1:Nat):Int):=qac (by omega) (by omega);obtain ⟨b,hb⟩:=qi2 p.headers[i].fields;by_cases y:40<p.headers[i].name.length
  ·simp [c_95_l0,Header.ce,h1,h8,hi,y]
  cases b with
  | false=>simp [c_95_l0,Header.ce,h1,h8,hi,y,hb]
  | true=>
  simp [c_95_l0,Header.ce,h1,h8,hi,y,hb,hw];exact ih _ ⟨by simp [h1,qcj,Prg.ce],by simp⟩
 ·rintro e L hL ⟨h1,h8⟩;have h1':=h1;simp only [qcj,Prg.ce] at h1;simp [c_95_l0,h1,h8,hL];exact s17_a p (by omega) (by omega) (by omega) (by omega) _ _ (by simp [h1'])
 ·simp [qcj,Prg.ce]
def SizeQ (l:List ControlNode) (lim:Int) (x:Option Rt):Prop:=∃r:Int,x=some (.val (.int .i64 r))∧0≤r∧r≤lim+1∧(r≤lim→((pre l).length:Int)≤r)
theorem qaet:∀(d:Nat) (l:List ControlNode) (lim:Int),d≤12→-1≤lim→lim≤1000→l.length<2^40→(∀x∈l,ControlNode.Ok qbd x)→SizeQ l lim (qab Φ f_185 [.slice 5 (l.map ControlNode.c),.int .i64 lim,.int .i64 d]):=by
 intro d
 induction d with
 | zero=>
  intro l lim _ h1 h2 hl ho;rw [qaa (fn:=c_185) rfl rfl];have w1:IntKind.wrap .i64 (lim+1)=lim+1:=qac (by omega) (by omega);simp [c_185];rw [qay];by_cases z0:l.length=0
  ·have:l=[]:=List.eq_nil_of_length_eq_zero z0;subst this;simp [c_185_l0,c_185_k1];exact ⟨0,rfl,by omega,by omega,by simp [pre]⟩
  have hp:0<l.length:=by omega
  by_cases z:0≤lim
  ·obtain ⟨k,t,c,a,b,hx⟩:=qc3 l[0];by_cases y:40<c.length
   ·simp [c_185_l0,hp,z,hx,ControlNode.e,y,w1];exact ⟨lim+1,rfl,by omega,by omega,by omega⟩
   ·simp [c_185_l0,hp,z,hx,ControlNode.e,y,w1];exact ⟨lim+1,rfl,by omega,by omega,by omega⟩
  ·simp [c_185_l0,c_185_k1,hp,z];exact ⟨0,rfl,by omega,by omega,by omega⟩
 | succ d ihd=>
  intro l lim hd h1 h2 hl ho;rw [qaa (fn:=c_185) rfl rfl];have w1:IntKind.wrap .i64 (lim+1)=lim+1:=qac (by omega) (by omega);simp [c_185];refine qgq l.length (fun i e=>look 0 e=some (.slice 5 (l.map ControlNode.c))∧look 1 e=some (.int .i64 lim)∧look 2 e=some (.int .i64 ((d:Int)+1))∧look 8 e=some (.int .i64 i)∧∃q:Int,look 7 e=some (.int .i64 q)∧0≤q∧q≤lim+1∧(q≤lim→((pre (l.take i)).length:Int)≤q))
   (SizeQ l lim) ?_ ?_ 0 _ (Nat.zero_le _) ?_
  ·rintro i e L hi hL ⟨g0,g1,g2,g8,q,g7,q0,q1,q2⟩ ih;have hw:IntKind.wrap .i64 ((i:Int)+1)=((i+1:Nat):Int):=qac (by omega) (by omega);by_cases z:q≤lim
   rotate_left
   ·simp [c_185_l0,c_185_k1,g0,g1,g7,g8,hi,hL,z];exact ⟨q,rfl,q0,q1,fun h=>absurd h z⟩
   obtain ⟨k,t,c,a,b,hx⟩:=qc3 l[i];have ho':=ho _ (List.getElem_mem hi);rw [hx] at ho';simp only [ControlNode.Ok] at ho';obtain ⟨_,_,hc,⟨ha1,ha2⟩,hb1,hb2⟩:=ho';rw [ControlNode.oks_eq] at ha2 hb2;rw [qdq] at ha1 hb1;have hdn:¬((d:Int)+1=0):=by omega
   have hsub:IntKind.wrap .i64 (d:Int)=(d:Int):=qac (by omega) (by omega);have wq:IntKind.wrap .i64 (q+1)=q+1:=qac (by omega) (by omega);by_cases y:40<c.length
   ·simp [c_185_l0,g0,g1,g7,g8,hi,z,hx,ControlNode.e,y,w1,wq];exact ⟨lim+1,rfl,by omega,by omega,by omega⟩
   obtain ⟨u,hu,u0,u1,u2⟩:=ihd a (lim - (q+1)) (by omega) (by omega) (by omega) (by omega) ha2;have ws:IntKind.wrap .i64 (lim - (q+1))=lim - (q+1):=qac (by omega) (by omega);have wu:IntKind.wrap .i64 (q+1+u)=q+1+u:=qac (by omega) (by omega);have ht:=congrArg List.length (qif hi);rw [hx,qem] at ht;simp at ht;have hq:=q2 z;by_cases y2:q+1+u≤lim
   ·obtain ⟨v,hv,v0,v1,v2⟩:=ihd b (lim - (q+1+u)) (by omega) (by omega) (by omega) (by omega) hb2;have wt:IntKind.wrap .i64 (lim - (q+1+u))=lim - (q+1+u):=qac (by omega) (by omega);have wv:IntKind.wrap .i64 (q+1+u+v)=q+1+u+v:=qac (by omega) (by omega);simp [c_185_l0,g0,g1,g2,g7,g8,hi,z,hdn,hx,ControlNode.e,y,hsub,wq,ws,hu,wu,y2,wt,hv,wv,hw];refine ih _ ⟨by simp [g0],by simp [g1],by simp [g2],by simp,q+1+u+v,by simp,by omega,by omega,?_⟩;intro hlt;have:=u2 (by omega);have:=v2 (by omega);rw [ht];simp;omega
   ·simp [c_185_l0,g0,g1,g2,g7,g8,hi,z,hdn,hx,ControlNode.e,y,hsub,wq,ws,hu,wu,y2,hw];refine ih _ ⟨by simp [g0],by simp [g1],by simp [g2],by simp,q+1+u,by simp,by omega,by omega,?_⟩;intro hlt;omega
  ·rintro e L hL ⟨g0,g1,g2,g8,q,g7,q0,q1,q2⟩;simp [c_185_l0,c_185_k1,g0,g7,g8,hL];exact ⟨q,rfl,q0,q1,by simpa using q2⟩
  ·simp [pre];omega
theorem qwa (l:List ControlNode) (hl:l.length<2^40) (ho:∀x∈l,ControlNode.Ok qbd x):∃b,qab Φ f_96 [.slice 5 (l.map ControlNode.c),.int .i64 40]=some (.val (.bool b))∧(b=true→(pre l).length≤40):=by
 obtain ⟨r,hr,r0,r1,r2⟩:=qaet 12 l 40 (by omega) (by omega) (by omega) hl ho;rw [show ((12:Nat):Int)=12 from rfl] at hr;rw [qaa (fn:=c_96) rfl rfl];simp [c_96,hr];intro h;have:=r2 h;omega
theorem qys (p:Prg) (c:Config) (op:p.Ok qbd):∃b,qab Φ f_37 [.agg (Prg.c p),.agg (Config.c c)]=some (.val (.bool b))∧(b=true→(pre p.control).length≤40∧qhl c=true):=by
 have f:=qab1 op;obtain ⟨b1,h1⟩:=qahr p;obtain ⟨b2,h2,k2⟩:=qwa p.control f.c f.co;have h3:=qos c;rw [qaa (fn:=c_37) rfl rfl];simp only [Prg.e,Config.ce] at h1 h3;cases b1<;>cases b2<;>cases h:qhl c<;>rw [h] at h3<;>simp [c_37,Prg.e,Config.ce,h1,h2,h3];exact k2 rfl
end Go.Av
