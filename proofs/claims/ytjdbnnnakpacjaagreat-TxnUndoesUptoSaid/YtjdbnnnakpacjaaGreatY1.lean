/-
  Lemmas for the law.
-/
import Derived.Test.YtjdbnnnakpacjaaGreatX1
import Derived.Test.YtjdbnnnakpacjaaGreatW27K
set_option linter.unusedVariables false
set_option linter.unusedSimpArgs false
set_option linter.constructorNameAsVariable false
namespace Go.Av
set_option maxRecDepth 4000
def qlp (x:Entry):Bool:=decide (x.keys.length<=10)&&decide (x.call.args.length<=10)
theorem qng (x:Entry):qac Φ f_36 [.agg (Entry.c x)]=some (.val (.bool (qlp x))):=by
 rw [qaa (fn:=c_36) rfl rfl];by_cases h:x.keys.length<=10<;>simp [c_36,Entry.c,qlp,h]
def bigO (x:TableOp):Bool:= !qlp x.entry || decide (10<x.call.args.length)
def qgs (l:List TableOp):Bool:=decide (l.length<=80)&& !qa9 l bigO 0
theorem qiv (l:List TableOp):qac Φ f_10 [.slice 9 (l.map TableOp.c)]=some (.val (.bool (qgs l))):=by
 rw [qaa (fn:=c_10) rfl rfl];by_cases q:l.length<=80
 rotate_left
 ·have:80<l.length:=by omega
  simp [c_10,qgs,q,this]
 have q':¬80<l.length:=by omega
 simp [c_10,qgs,q,q'];refine qa3 l.length (fun i e=>look 0 e=some (.slice 9 (l.map TableOp.c))/\look 3 e=some (.int .i64 i)) (fun i=>some (Rt.val (AV.bool (!qa9 l bigO i)))) ?_ ?_ 0 _ (Qc _) ?_
 ·rintro i e L hi hL ⟨h0,h3⟩ ih;have hw:=qal i (by omega);have hsm:=qng l[i].entry;simp only [Entry.c] at hsm;cases hb:bigO l[i] with
  | true=>
   rw [qgd hi hb];unfold bigO at hb;cases hq:qlp l[i].entry with
   | false=>
    rw [hq] at hsm;simp [c_10_l0,TableOp.c,h0,h3,hi,hsm]
   | true=>
    rw [hq] at hb hsm;simp at hb;simp [c_10_l0,TableOp.c,h0,h3,hi,hsm,hb]
  | false=>
   rw [qem hi hb];unfold bigO at hb;simp at hb;rw [hb.1] at hsm;have:¬10<l[i].call.args.length:=by omega
   simp [c_10_l0,TableOp.c,h0,h3,hi,hsm,hw,this];exact ih _ ⟨by simp [h0],by simp⟩
 ·rintro e L hL ⟨h0,h3⟩;rw [qgc];simp [c_10_l0,c_10_k1, *]
 ·simp
def qky (r:Rw):Bool:= !qlp r.entry
def qfj (l:List Rw):Bool:=decide (40<l.length) || qa9 l qky 0
def qg2 (c:ActionCall):Bool:=decide (10<c.args.length)
def qe1 (l:List Int):Bool:=decide (80<l.length)
def qhb (c:Config):Bool:=decide (c.rows.length<=16)&&decide (c.nextID.length<=16)&&decide (c.defaults.length<=16)&&decide (c.registers.length<=8)&& !qa9 c.rows qfj 0&& !qa9 c.defaults qg2 0&& !qa9 c.registers qe1 0
theorem qms (R N D:List (List AV)) (c:List (List Int)) (hd:c.length<=8) (e:Env) (h1:look 1 e=some (.ptr 0 4 0 0)):
  go Φ (finP [.tmp 2]) [.c c_35_k6] .normal ⟨e,⟨[(0,.row 4 [[.slice 1 R,.slice 1 N,.slice 2 D,.slice 1 (c.map (cS 1 c32))]])],1⟩⟩=some (Rt.val (.bool (!qa9 c qe1 0))):=by
 simp [c_35_k6];refine qa3 c.length (fun i e=>look 1 e=some (.ptr 0 4 0 0)/\look 6 e=some (.int .i64 i)) (fun i=>some (Rt.val (.bool (!qa9 c qe1 i)))) ?_ ?_ 0 _ (Qc _) ?_
 ·rintro i e L hi hL ⟨h1,h6⟩ ih;have hw:=qal i (by omega);cases hb:qe1 c[i] with
  | true=>
   rw [qgd hi hb];unfold qe1 at hb;simp at hb;simp [c_35_l4,cS,hi,h1,h6,hb]
  | false=>
   rw [qem hi hb];unfold qe1 at hb;have hb':¬80<c[i].length:=by simpa using hb
   simp [c_35_l4,cS,hi,h1,h6,hb',hw];exact ih _ ⟨by simp [h1],by simp⟩
 ·rintro e L hL ⟨h1,h6⟩;rw [qgc];simp [c_35_l4,c_35_k5, *]
 ·simp [h1]
theorem qmr (R N:List (List AV)) (d:List ActionCall) (c:List (List Int)) (hd:d.length<=16) (hc:c.length<=8) (e:Env) (h1:look 1 e=some (.ptr 0 4 0 0)):
  go Φ (finP [.tmp 2]) [.c c_35_k7] .normal ⟨e,⟨[(0,.row 4 [[.slice 1 R,.slice 1 N,.slice 2 (d.map ActionCall.c),.slice 1 (c.map (cS 1 c32))]])],1⟩⟩=some (Rt.val (.bool (!qa9 d qg2 0&& !qa9 c qe1 0))):=by
 simp [c_35_k7];refine qa3 d.length (fun i e=>look 1 e=some (.ptr 0 4 0 0)/\look 5 e=some (.int .i64 i)) (fun i=>some (Rt.val (.bool (!qa9 d qg2 i&& !qa9 c qe1 0)))) ?_ ?_ 0 _ (Qc _) ?_
 ·rintro i e L hi hL ⟨h1,h6⟩ ih;have hw:=qal i (by omega);cases hb:qg2 d[i] with
  | true=>
   rw [qgd hi hb];unfold qg2 at hb;simp at hb;simp [c_35_l3,ActionCall.ce,hi,h1,h6,hb]
  | false=>
   rw [qem hi hb];unfold qg2 at hb;have hb':¬10<d[i].args.length:=by simpa using hb
   simp [c_35_l3,ActionCall.ce,hi,h1,h6,hb',hw];exact ih _ ⟨by simp [h1],by simp⟩
 ·rintro e L hL ⟨h1,h6⟩;rw [qgc];simp [c_35_l3,h1,h6,hL];have:=qms R N (d.map ActionCall.c) c hc;refine (this _ ?_).trans (by simp);simp [h1]
 ·simp [h1]
theorem qxi (r:Rw):qac Φ f_36 [.agg [.slice 2 (r.entry.keys.map KeyMatch.c),.int .i64 r.entry.priority,.int .i64 r.entry.call.action,.slice 1 (r.entry.call.args.map c32)]]=some (.val (.bool (!qky r))):=by
 have:=qng r.entry;simp only [Entry.c] at this;simpa [qky] using this
theorem qou (c:Config):qac Φ f_35 [.agg (Config.c c)]=some (.val (.bool (qhb c))):=by
 rw [qaa (fn:=c_35) rfl rfl];by_cases q1:c.rows.length<=16
 rotate_left
 ·simp [c_35,Config.c,qhb,q1,Nat.lt_of_not_le q1]
 by_cases q2:c.nextID.length<=16
 rotate_left
 ·simp [c_35,Config.c,qhb,q1,q2,Nat.lt_of_not_le q2,Nat.not_lt.2 q1]
 by_cases q3:c.defaults.length<=16
 rotate_left
 ·simp [c_35,Config.c,qhb,q1,q2,q3,Nat.lt_of_not_le q3,Nat.not_lt.2 q1,Nat.not_lt.2 q2]
 by_cases q4:c.registers.length<=8
 rotate_left
 ·simp [c_35,Config.c,qhb,q1,q2,q3,q4,Nat.lt_of_not_le q4,Nat.not_lt.2 q1,Nat.not_lt.2 q2,Nat.not_lt.2 q3]
 simp [c_35,Config.c,qhb,q1,q2,q3,q4,Nat.not_lt.2 q1,Nat.not_lt.2 q2,Nat.not_lt.2 q3,Nat.not_lt.2 q4];refine qa3 c.rows.length (fun i e=>look 1 e=some (.ptr 0 4 0 0)/\look 3 e=some (.int .i64 i)) (fun i=>some (Rt.val (.bool (!qa9 c.rows qfj i&&(!qa9 c.defaults qg2 0&& !qa9 c.registers qe1 0))))) ?_ ?_ 0 _ (Qc _) ?_|>.trans ?_
 ·rintro i e L hi hL ⟨h1,h6⟩ ih;have hw:=qal i (by omega);by_cases q:40<c.rows[i].length
  ·rw [qgd hi (show qfj c.rows[i]=true by simp [qfj,q])];simp [c_35_l2,cSe,hi,h1,h6,q]
  simp [c_35_l2,cSe,hi,h1,h6,q];refine (qa3 c.rows[i].length (fun k e=>look 1 e=some (.ptr 0 4 0 0)/\look 3 e=some (.int .i64 i)/\look 4 e=some (.int .i64 k)) (fun k=>some (Rt.val (.bool (if qa9 c.rows[i] qky k then false else (!qa9 c.rows qfj (i+1)&&(!qa9 c.defaults qg2 0&& !qa9 c.registers qe1 0)))))) ?_ ?_ 0 _ (Qc _) ?_).trans ?_
  ·rintro k e L' hk hL' ⟨h1,h3,h4⟩ ih';have hw:=qal k (by omega);have hsm:=qxi c.rows[i][k];cases hb:qky c.rows[i][k] with
   | true=>
    rw [qgd hk hb];rw [hb] at hsm;simp [c_35_l0,cSe,Rw.ce,hi,hk,h1,h3,h4,hsm]
   | false=>
    rw [qem hk hb];rw [hb] at hsm;simp [c_35_l0,cSe,Rw.ce,hi,hk,h1,h3,h4,hsm,hw];refine (ih' _ ⟨by simp [h1],by simp [h3],by simp⟩).trans (by simp)
  ·rintro e L' hL' ⟨h1,h3,h4⟩;rw [qgc];simp [c_35_l0,c_35_k1,cSe,hi,hL',h1,h3,h4,hw];refine (ih _ ⟨by simp [h1],by simp⟩).trans (by simp)
  ·simp [h1,h6]
  ·cases hb:qfj c.rows[i] with
   | true=>
    rw [qgd hi hb];simp [qfj,q] at hb;simp [hb]
   | false=>
    rw [qem hi hb];simp [qfj,q] at hb;simp [hb]
 ·rintro e L hL ⟨h1,h6⟩;rw [qgc];simp [c_35_l2,h1,h6,hL];have:=qmr (c.rows.map (cS 5 Rw.c)) (c.nextID.map cI) c.defaults c.registers q3 q4;refine (this _ ?_).trans (by simp);simp [h1]
 ·simp
 ·simp [Bool.and_assoc]
theorem Fld.ce' (x:Fld):Fld.c x=[.str x.name,.int .i64 x.width]:=by simp [Fld.c]
theorem qix (l:List Fld):IsB (qac Φ f_81 [.slice 2 (l.map Fld.c)]):=by
 rw [qaa (fn:=c_81) rfl rfl];by_cases q:16<l.length
 ·simp [c_81,q]
 simp [c_81,q];refine qgl l.length (fun i e=>look 0 e=some (.slice 2 (l.map Fld.c))/\look 3 e=some (.int .i64 i)) IsB ?_ ?_ 0 _ (Qc _) ?_
 ·rintro i e L hi hL ⟨h0,h3⟩ ih;have hw:=qal i (by omega);by_cases z:40<l[i].name.length
  ·simp [c_81_l0,Fld.ce',h0,h3,hi,z]
  simp [c_81_l0,Fld.ce',h0,h3,hi,z,hw];exact ih _ ⟨by simp [h0],by simp⟩
 ·rintro e L hL ⟨h0,h3⟩;simp [c_81_l0,c_81_k1,h0,h3,hL]
 ·simp
theorem qx6 (a:Action):IsB (qac Φ f_82 [.agg (Action.c a)]):=by
 rw [qaa (fn:=c_82) rfl rfl];obtain ⟨b,hb⟩:=qix a.params;by_cases z0:40<a.name.length
 ·simp [c_82,Action.ce,z0]
 cases b with
 | false=>simp [c_82,Action.ce,z0,hb]
 | true=>
 by_cases z1:16<a.body.length
 ·simp [c_82,Action.ce,z0,hb,z1]
 simp [c_82,Action.ce,z0,hb,z1];refine qgl a.body.length (fun i e=>look 1 e=some (.iptr 3 [[.str a.name,.slice 2 (a.params.map Fld.c),.slice 7 (a.body.map Statement.c)]] 0 0)/\look 3 e=some (.int .i64 i)) IsB ?_ ?_ 0 _ (Qc _) ?_
 ·rintro i e L hi hL ⟨h1,h3⟩ ih;have hw:=qal i (by omega);by_cases z:40<a.body[i].index.length
  ·simp [c_82_l0,Statement.ce,h1,h3,hi,z]
  by_cases z':40<a.body[i].value.length
  ·simp [c_82_l0,Statement.ce,h1,h3,hi,z,z']
  simp [c_82_l0,Statement.ce,h1,h3,hi,z,z',hw];exact ih _ ⟨by simp [h1],by simp⟩
 ·rintro e L hL ⟨h1,h3⟩;simp [c_82_l0,c_82_k1,h1,h3,hL]
 ·simp
def qcj (p:Prg):AV:= .iptr 9 [Prg.c p] 0 0
theorem s17_d (p:Prg) (hs:p.states.length<=16) (e:Env) (n:Nat) (h1:look 1 e=some (qcj p)):IsB (go Φ (finP [.tmp 2]) [.c c_33_k6] .normal ⟨e,⟨[],n⟩⟩):=by
 simp [c_33_k6];refine qgl p.states.length (fun i e=>look 1 e=some (qcj p)/\look 8 e=some (.int .i64 i)) IsB ?_ ?_ 0 _ (Qc _) ?_
 ·rintro i e L hi hL ⟨h1,h8⟩ ih;simp only [qcj,Prg.ce] at h1;have hw:=qal i (by omega);by_cases z:40<p.states[i].name.length
  ·simp [c_33_l4,ParserState.ce,h1,h8,hi,z]
  by_cases z1:8<p.states[i].extract.length
  ·simp [c_33_l4,ParserState.ce,h1,h8,hi,z,z1]
  by_cases z2:16<p.states[i].cases.length
  ·simp [c_33_l4,ParserState.ce,h1,h8,hi,z,z1,z2]
  simp [c_33_l4,ParserState.ce,h1,h8,hi,z,z1,z2,hw];exact ih _ ⟨by simp [h1,qcj,Prg.ce],by simp⟩
 ·rintro e L hL ⟨h1,h8⟩;simp only [qcj,Prg.ce] at h1;simp [c_33_l4,c_33_k5,h1,h8,hL]
 ·simp [h1]
theorem s17_c (p:Prg) (ht:p.tables.length<=16) (hs:p.states.length<=16) (e:Env) (n:Nat) (h1:look 1 e=some (qcj p)):IsB (go Φ (finP [.tmp 2]) [.c c_33_k7] .normal ⟨e,⟨[],n⟩⟩):=by
 simp [c_33_k7];refine qj8 p.tables.length (fun i e h=>∃n,h=⟨[],n⟩/\look 1 e=some (qcj p)/\look 6 e=some (.int .i64 i)) IsB ?_ ?_ 0 _ _ (Qc _) ?_
 ·rintro i e _ L hi hL ⟨n,rfl,h1,h8⟩ ih;simp only [qcj,Prg.ce] at h1;have hw:=qal i (by omega);by_cases z:40<p.tables[i].name.length
  ·simp [c_33_l3,Tbl.ce,h1,h8,hi,z]
  by_cases z1:10<p.tables[i].keys.length
  ·simp [c_33_l3,Tbl.ce,h1,h8,hi,z,z1]
  by_cases z2:24<p.tables[i].actions.length
  ·simp [c_33_l3,Tbl.ce,h1,h8,hi,z,z1,z2]
  by_cases z3:10<p.tables[i].dflt.args.length
  ·simp [c_33_l3,Tbl.ce,h1,h8,hi,z,z1,z2,z3]
  simp [c_33_l3,Tbl.ce,h1,h8,hi,z,z1,z2,z3,hw];exact ih _ _ ⟨_,rfl,by simp [h1,qcj,Prg.ce],by simp⟩
 ·rintro e _ L hL ⟨n,rfl,h1,h8⟩;have h1':=h1;simp only [qcj,Prg.ce] at h1;simp [c_33_l3,h1,h8,hL];exact s17_d p hs _ _ (by simp [h1'])
 ·simp [h1]
theorem s17_b (p:Prg) (ha:p.actions.length<=20) (ht:p.tables.length<=16) (hs:p.states.length<=16) (e:Env) (n:Nat) (h1:look 1 e=some (qcj p)):IsB (go Φ (finP [.tmp 2]) [.c c_33_k8] .normal ⟨e,⟨[],n⟩⟩):=by
 simp [c_33_k8];refine qgl p.actions.length (fun i e=>look 1 e=some (qcj p)/\look 5 e=some (.int .i64 i)) IsB ?_ ?_ 0 _ (Qc _) ?_
 ·rintro i e L hi hL ⟨h1,h8⟩ ih;simp only [qcj,Prg.ce] at h1;have hw:=qal i (by omega);obtain ⟨b,hb⟩:=qx6 p.actions[i];simp only [Action.ce] at hb;cases b with
  | false=>simp [c_33_l2,Action.ce,h1,h8,hi,hb]
  | true=>
  simp [c_33_l2,Action.ce,h1,h8,hi,hb,hw];exact ih _ ⟨by simp [h1,qcj,Prg.ce],by simp⟩
 ·rintro e L hL ⟨h1,h8⟩;have h1':=h1;simp only [qcj,Prg.ce] at h1;simp [c_33_l2,h1,h8,hL];exact s17_c p ht hs _ _ (by simp [h1'])
 ·simp [h1]
theorem s17_a (p:Prg) (hr:p.registers.length<=8) (ha:p.actions.length<=20) (ht:p.tables.length<=16) (hs:p.states.length<=16) (e:Env) (n:Nat) (h1:look 1 e=some (qcj p)):IsB (go Φ (finP [.tmp 2]) [.c c_33_k9] .normal ⟨e,⟨[],n⟩⟩):=by
 simp [c_33_k9];refine qgl p.registers.length (fun i e=>look 1 e=some (qcj p)/\look 4 e=some (.int .i64 i)) IsB ?_ ?_ 0 _ (Qc _) ?_
 ·rintro i e L hi hL ⟨h1,h8⟩ ih;simp only [qcj,Prg.ce] at h1;have hw:=qal i (by omega);by_cases z:40<p.registers[i].name.length
  ·simp [c_33_l1,Register.ce,h1,h8,hi,z]
  simp [c_33_l1,Register.ce,h1,h8,hi,z,hw];exact ih _ ⟨by simp [h1,qcj,Prg.ce],by simp⟩
 ·rintro e L hL ⟨h1,h8⟩;have h1':=h1;simp only [qcj,Prg.ce] at h1;simp [c_33_l1,h1,h8,hL];exact s17_b p ha ht hs _ _ (by simp [h1'])
 ·simp [h1]
theorem qagr (p:Prg):IsB (qac Φ f_33 [.agg (Prg.c p)]):=by
 rw [qaa (fn:=c_33) rfl rfl];obtain ⟨b,hb⟩:=qix p.metadata;by_cases z0:40<p.name.length
 ·simp [c_33,Prg.ce,z0]
 by_cases z1:12<p.headers.length
 ·simp [c_33,Prg.ce,z0,z1]
 cases b with
 | false=>simp [c_33,Prg.ce,z0,z1,hb]
 | true=>
 by_cases z2:8<p.registers.length
 ·simp [c_33,Prg.ce,z0,z1,hb,z2]
 by_cases z3:20<p.actions.length
 ·simp [c_33,Prg.ce,z0,z1,hb,z2,z3]
 by_cases z4:16<p.tables.length
 ·simp [c_33,Prg.ce,z0,z1,hb,z2,z3,z4]
 by_cases z5:16<p.states.length
 ·simp [c_33,Prg.ce,z0,z1,hb,z2,z3,z4,z5]
 by_cases z6:16<p.deparser.length
 ·simp [c_33,Prg.ce,z0,z1,hb,z2,z3,z4,z5,z6]
 simp [c_33,Prg.ce,z0,z1,hb,z2,z3,z4,z5,z6];refine qgl p.headers.length (fun i e=>look 1 e=some (qcj p)/\look 3 e=some (.int .i64 i)) IsB ?_ ?_ 0 _ (Qc _) ?_
 ·rintro i e L hi hL ⟨h1,h8⟩ ih;simp only [qcj,Prg.ce] at h1;have hw:=qal i (by omega);obtain ⟨b,hb⟩:=qix p.headers[i].fields;by_cases y:40<p.headers[i].name.length
  ·simp [c_33_l0,Header.ce,h1,h8,hi,y]
  cases b with
  | false=>simp [c_33_l0,Header.ce,h1,h8,hi,y,hb]
  | true=>
  simp [c_33_l0,Header.ce,h1,h8,hi,y,hb,hw];exact ih _ ⟨by simp [h1,qcj,Prg.ce],by simp⟩
 ·rintro e L hL ⟨h1,h8⟩;have h1':=h1;simp only [qcj,Prg.ce] at h1;simp [c_33_l0,h1,h8,hL];exact s17_a p (by omega) (by omega) (by omega) (by omega) _ _ (by simp [h1'])
 ·simp [qcj,Prg.ce]
def SizeQ (l:List ControlNode) (lim:Int) (x:Option Rt):Prop:=∃r:Int,x=some (.val (.int .i64 r))/\0<=r/\r<=lim+1/\(r<=lim->((pre l).length:Int)<=r)
theorem qaem:∀(d:Nat) (l:List ControlNode) (lim:Int),d<=12->-1<=lim->lim<=1000->l.length<2^40->(∀x∈l,ControlNode.Ok qau x)->SizeQ l lim (qac Φ f_83 [.slice 5 (l.map ControlNode.c),.int .i64 lim,.int .i64 d]):=by
 intro d
 induction d with
 | zero=>
  intro l lim _ h1 h2 hl ho;rw [qaa (fn:=c_83) rfl rfl];have w1:IntKind.wrap .i64 (lim+1)=lim+1:=qbs (by omega) (by omega);simp [c_83];rw [qbo];by_cases z0:l.length=0
  ·have:l=[]:=Qg z0;subst this;simp [c_83_l0,c_83_k1];exact ⟨0,rfl,by omega,by omega,by simp [pre]⟩
  have hp:0<l.length:=by omega
  by_cases z:0<=lim
  ·obtain ⟨k,t,c,a,b,hx⟩:=qgm l[0];by_cases y:40<c.length
   ·simp [c_83_l0,hp,z,hx,ControlNode.e,y,w1];exact ⟨lim+1,rfl,by omega,by omega,by omega⟩
   ·simp [c_83_l0,hp,z,hx,ControlNode.e,y,w1];exact ⟨lim+1,rfl,by omega,by omega,by omega⟩
  ·simp [c_83_l0,c_83_k1,hp,z];exact ⟨0,rfl,by omega,by omega,by omega⟩
 | succ d ihd=>
  intro l lim hd h1 h2 hl ho;rw [qaa (fn:=c_83) rfl rfl];have w1:IntKind.wrap .i64 (lim+1)=lim+1:=qbs (by omega) (by omega);simp [c_83];refine qgl l.length (fun i e=>look 0 e=some (.slice 5 (l.map ControlNode.c))/\look 1 e=some (.int .i64 lim)/\look 2 e=some (.int .i64 ((d:Int)+1))/\look 8 e=some (.int .i64 i)/\∃q:Int,look 7 e=some (.int .i64 q)/\0<=q/\q<=lim+1/\(q<=lim->((pre (l.take i)).length:Int)<=q))
   (SizeQ l lim) ?_ ?_ 0 _ (Qc _) ?_
  ·rintro i e L hi hL ⟨g0,g1,g2,g8,q,g7,q0,q1,q2⟩ ih;have hw:=qal i (by omega);by_cases z:q<=lim
   rotate_left
   ·simp [c_83_l0,c_83_k1,g0,g1,g7,g8,hi,hL,z];exact ⟨q,rfl,q0,q1,fun h=>absurd h z⟩
   obtain ⟨k,t,c,a,b,hx⟩:=qgm l[i];have ho':=ho _ (Qd hi);rw [hx] at ho';simp only [ControlNode.Ok] at ho';obtain ⟨_,_,hc,⟨ha1,ha2⟩,hb1,hb2⟩:=ho';rw [ControlNode.oks_eq] at ha2 hb2;rw [qdq] at ha1 hb1;have hdn:¬((d:Int)+1=0):=by omega
   have hsub:IntKind.wrap .i64 (d:Int)=(d:Int):=qbs (by omega) (by omega);have wq:IntKind.wrap .i64 (q+1)=q+1:=qbs (by omega) (by omega);by_cases y:40<c.length
   ·simp [c_83_l0,g0,g1,g7,g8,hi,z,hx,ControlNode.e,y,w1,wq];exact ⟨lim+1,rfl,by omega,by omega,by omega⟩
   obtain ⟨u,hu,u0,u1,u2⟩:=ihd a (lim - (q+1)) (by omega) (by omega) (by omega) (by omega) ha2;have ws:IntKind.wrap .i64 (lim - (q+1))=lim - (q+1):=qbs (by omega) (by omega);have wu:IntKind.wrap .i64 (q+1+u)=q+1+u:=qbs (by omega) (by omega);have ht:=congrArg List.length (qm7 hi);rw [hx,qhx] at ht;simp at ht;have hq:=q2 z;by_cases y2:q+1+u<=lim
   ·obtain ⟨v,hv,v0,v1,v2⟩:=ihd b (lim - (q+1+u)) (by omega) (by omega) (by omega) (by omega) hb2;have wt:IntKind.wrap .i64 (lim - (q+1+u))=lim - (q+1+u):=qbs (by omega) (by omega);have wv:IntKind.wrap .i64 (q+1+u+v)=q+1+u+v:=qbs (by omega) (by omega);simp [c_83_l0,g0,g1,g2,g7,g8,hi,z,hdn,hx,ControlNode.e,y,hsub,wq,ws,hu,wu,y2,wt,hv,wv,hw];refine ih _ ⟨by simp [g0],by simp [g1],by simp [g2],by simp,q+1+u+v,by simp,by omega,by omega,?_⟩;intro hlt;have:=u2 (by omega);have:=v2 (by omega);rw [ht];simp;omega
   ·simp [c_83_l0,g0,g1,g2,g7,g8,hi,z,hdn,hx,ControlNode.e,y,hsub,wq,ws,hu,wu,y2,hw];refine ih _ ⟨by simp [g0],by simp [g1],by simp [g2],by simp,q+1+u,by simp,by omega,by omega,?_⟩;intro hlt;omega
  ·rintro e L hL ⟨g0,g1,g2,g8,q,g7,q0,q1,q2⟩;simp [c_83_l0,c_83_k1,g0,g7,g8,hL];exact ⟨q,rfl,q0,q1,by simpa using q2⟩
  ·simp [pre];omega
theorem qxh (l:List ControlNode) (hl:l.length<2^40) (ho:∀x∈l,ControlNode.Ok qau x):∃b,qac Φ f_34 [.slice 5 (l.map ControlNode.c),.int .i64 40]=some (.val (.bool b))/\(b=true->(pre l).length<=40):=by
 obtain ⟨r,hr,r0,r1,r2⟩:=qaem 12 l 40 (by omega) (by omega) (by omega) hl ho;rw [show ((12:Nat):Int)=12 from rfl] at hr;rw [qaa (fn:=c_34) rfl rfl];simp [c_34,hr];intro h;have:=r2 h;omega
theorem qqu (p:Prg) (c:Config) (op:p.Ok qau):∃b,qac Φ f_9 [.agg (Prg.c p),.agg (Config.c c)]=some (.val (.bool b))/\(b=true->(pre p.control).length<=40/\qhb c=true):=by
 have f:=qacg op;obtain ⟨b1,h1⟩:=qagr p;obtain ⟨b2,h2,k2⟩:=qxh p.control f.c f.co;have h3:=qou c;rw [qaa (fn:=c_9) rfl rfl];simp only [Prg.e,Config.ce] at h1 h3;cases b1<;>cases b2<;>cases h:qhb c<;>rw [h] at h3<;>simp [c_9,Prg.e,Config.ce,h1,h2,h3];exact k2 rfl
theorem qmt {p:Prg} {c:Config} {l:List TableOp} (h:badA p c l=none):l.length<=64:=by
 unfold badA at h;by_cases z:cfgE p c=0
 case neg=>simp [z] at h
 by_cases z2:64<l.length
 ·simp [z,z2] at h
 ·omega
theorem qkw {p:Prg} {c:Config} {l:List TableOp} (h:badA p c l=none):cfgE p c=0:=by
 by_cases z:cfgE p c=0
 ·exact z
 ·simp [badA,z] at h
def noE:Entry:=⟨[],0,⟨0,[]⟩⟩
def etyF (l:List Rw) (id:Int):Entry:=match l.find? fun r=>decide (r.id=id) with
 | some r=>r.entry
 | none=>noE
structure Ren where
 t:Int
 old:Int
 new:Int
def Ren.c (x:Ren):List AV:=[.int .i64 x.t,.int .i64 x.old,.int .i64 x.new]
theorem TableOp.eq_iff (x y:TableOp):x=y↔x.kind=y.kind/\x.table=y.table/\x.id=y.id/\x.entry=y.entry/\x.call=y.call:=by
 cases x;cases y;simp
def enR (l:List Rw):List Entry:=l.map Rw.entry
@[simp] theorem qwo (l:List Rw):(enR l).length=l.length:=by simp [enR]
theorem qlu (l:List Rw) (i:Nat) (h:i<l.length) (h':i<(enR l).length):(enR l)[i]=l[i].entry:=by simp [enR]
theorem qsi (a b:List Rw) (ha:a.length<2^40) (hs:∀r∈a,r.entry.sm):qac Φ f_46 [.slice 5 (a.map Rw.c),.slice 5 (b.map Rw.c)]=some (.val (.bool (decide (enR a=enR b)))):=by
 rw [qaa (fn:=c_46) rfl rfl];by_cases q:a.length=b.length
 rotate_left
 ·have:enR a≠enR b:=fun h=>q (by simpa using congrArg List.length h)
  simp [c_46,q,this]
 simp [c_46,q];refine (qdy a.length (fun i e h=>look 1 e=some (.slice 5 (b.map Rw.c))/\look 12 e=some (.slice 5 (a.map Rw.c))/\look 13 e=some (.int .i64 a.length)/\look 14 e=some (.int .i64 i)/\∃objs N,Tail objs N/\h=⟨objs,N⟩) (fun i=>some (Rt.val (.bool (qa5 (enR a) (enR b) i)))) ?_ ?_ 0 _ _ (Qc _) ?_).trans (by simp [qa5])
 ·rintro i e _ L hi hL ⟨h1,h12,h13,h14,objs,N,hN,rfl⟩ ih;have hi2:i<b.length:=by omega
  have hw:=qal i (by omega);have hNN:=hN N (Qb _);have hee:=qqc a[i].entry b[i].entry (hs _ (Qd hi));by_cases c:a[i].entry=b[i].entry
  ·rw [decide_eq_true c] at hee;simp only [Entry.ce] at hee;rw [qb3 (by simpa using hi) (by simpa using hi2) (by rw [qlu _ _ hi,qlu _ _ hi2];exact c)];simp [c_46_l0,Rw.ce,hi,hi2,h1,h12,h13,h14,hNN,hee,hw];exact ih _ _ ⟨by simp [h1],by simp [h12],by simp [h13],by simp,_,_,hN.app _,rfl⟩
  ·rw [decide_eq_false c] at hee;simp only [Entry.ce] at hee;rw [qbg (by simpa using hi) (by simpa using hi2) (by rw [qlu _ _ hi,qlu _ _ hi2];exact c)];simp [c_46_l0,Rw.ce,hi,hi2,h1,h12,h13,h14,hNN,hee]
 ·rintro e _ L hL ⟨h1,h12,h13,h14,objs,N,hN,rfl⟩;have:=qb2 (l:=enR a) (m:=enR b) (by simpa using q);rw [qwo] at this;rw [this];simp [c_46_l0,c_46_k1, *]
 ·simp [q];exact Tail.nil 0
theorem qrb (x y:ActionCall) (h:x.args.length<2^40):qac Φ f_47 [.agg (ActionCall.c x),.agg (ActionCall.c y)]=some (.val (.bool (decide (x=y)))):=by
 rw [qaa (fn:=c_47) rfl rfl];have hee:=qqc ⟨[],0,x⟩ ⟨[],0,y⟩ ⟨by simp,h⟩;have e:decide ((⟨[],0,x⟩:Entry)=⟨[],0,y⟩)=decide (x=y):=by simp
 rw [e] at hee;simp only [Entry.ce,List.map_nil] at hee;simp [c_47,ActionCall.ce,hee]
theorem qsh (l m:List (List Int)) (hb:l.length<2^40) (hs:∀x∈l,x.length<2^40):qac Φ f_48 [.slice 1 (l.map (cS 1 c32)),.slice 1 (m.map (cS 1 c32))]=some (.val (.bool (decide (l=m)))):=by
 rw [qaa (fn:=c_48) rfl rfl];by_cases q1:l.length=m.length
 rotate_left
 ·have:l≠m:=fun h=>q1 (by rw [h])
  simp [c_48,q1,this]
 simp [c_48,q1];refine (qa3 l.length (fun i e=>look 1 e=some (.slice 1 (m.map (cS 1 c32)))/\look 14 e=some (.slice 1 (l.map (cS 1 c32)))/\look 15 e=some (.int .i64 l.length)/\look 16 e=some (.int .i64 i))
  (fun i=>some (Rt.val (AV.bool (qa5 l m i)))) ?_ ?_ 0 _ (Qc _) ?_).trans (by simp [qa5])
 ·rintro i e L hi hL ⟨h1,h14,h15,h16⟩ ih;have hi2:i<m.length:=by omega
  have hw:=qal i (by omega);have c3:∀x,c32 x=[.int .u32 x]:=fun x=>by simp [c32]
  have hsi:=hs _ (Qd hi);by_cases q:l[i].length=m[i].length
  rotate_left
  ·rw [qbg hi hi2 (fun h=>q (by rw [h]))];simp [c_48_l2,cSe,hi,hi2,h1,h14,h15,h16,q]
  simp [c_48_l2,cSe,hi,hi2,h1,h14,h15,h16,q];refine (qa3 l[i].length (fun k e=>look 1 e=some (.slice 1 (m.map (cS 1 c32)))/\look 5 e=some (.int .i64 i)/\look 14 e=some (.slice 1 (l.map (cS 1 c32)))/\look 15 e=some (.int .i64 l.length)/\look 16 e=some (.int .i64 i)/\
    look 29 e=some (.slice 1 (l[i].map c32))/\look 30 e=some (.int .i64 l[i].length)/\look 31 e=some (.int .i64 k)) (fun k=>some (Rt.val (AV.bool (if qa5 l[i] m[i] k then qa5 l m (i+1) else false)))) ?_ ?_ 0 _ (Qc _) ?_).trans ?_
  ·rintro k e L' hk hL' ⟨h1,h5,h14,h15,h16,h29,h30,h31⟩ ih';have hk2:k<m[i].length:=by omega
   have hw:=qal k (by omega);by_cases c:l[i][k]=m[i][k]
   ·rw [qb3 hk hk2 c];simp [c_48_l0,c3,cSe,hi2,hk,hk2,h1,h5,h29,h30,h31,c,hw];refine (ih' _ ⟨by simp [h1],by simp [h5],by simp [h14],by simp [h15],by simp [h16],by simp [h29],by simp [h30],by simp⟩).trans (by simp)
   ·rw [qbg hk hk2 c];simp [c_48_l0,c3,cSe,hi2,hk,hk2,h1,h5,h29,h30,h31,c]
  ·rintro e L' hL' ⟨h1,h5,h14,h15,h16,h29,h30,h31⟩;rw [qb2 q];simp [c_48_l0,c_48_k1,hL',h16,h30,h31,hw];exact ih _ ⟨by simp [h1],by simp [h14],by simp [h15],by simp⟩
  ·simp [*]
  ·by_cases c:l[i]=m[i]
   ·rw [qb3 hi hi2 c];simp [qmh,c]
   ·rw [qbg hi hi2 c];simp [qmh,c]
 ·rintro e L hL ⟨h1,h14,h15,h16⟩;rw [qb2 q1];simp [c_48_l2,c_48_k3, *]
 ·simp [q1]
def enRR (l:List (List Rw)):List (List Entry):=l.map enR
@[simp] theorem qun (l:List (List Rw)):(enRR l).length=l.length:=by simp [enRR]
theorem qjv (l:List (List Rw)) (i:Nat) (h:i<l.length) (h':i<(enRR l).length):(enRR l)[i]=enR l[i]:=by simp [enRR]
structure CfgF (c:Config):Prop where
 rl:c.rows.length<2^40
 rs:∀l∈c.rows,l.length<2^40/\∀r∈l,r.entry.sm
 dl:c.defaults.length<2^40
 ds:∀x∈c.defaults,x.args.length<2^40
 gl:c.registers.length<2^40
 gs:∀x∈c.registers,x.length<2^40
theorem qva {c:Config} (s:CfgT c):CfgF c:=
 ⟨s.rl,fun l hl=>⟨(s.rs l hl).1,fun r hr=>⟨((s.rs l hl).2 r hr).kl,((s.rs l hl).2 r hr).al⟩⟩,s.dl,fun d hd=>(s.ds d hd).1,s.gl,fun l hl=>(s.gs l hl).1⟩
def qfc (a b:Config):Bool:=decide (enRR a.rows=enRR b.rows)&&(decide (a.defaults=b.defaults)&&decide (a.registers=b.registers))
theorem qkn (a b:Config) (f:CfgF a):qac Φ f_14 [.agg (Config.c a),.agg (Config.c b)]=some (.val (.bool (qfc a b))):=by
 rw [qaa (fn:=c_14) rfl rfl];by_cases q1:a.rows.length=b.rows.length
 rotate_left
 ·have:enRR a.rows≠enRR b.rows:=fun h=>q1 (by simpa using congrArg List.length h)
  simp [c_14,Config.ce,qfc,q1,this]
 by_cases q2:a.defaults.length=b.defaults.length
 rotate_left
 ·have:a.defaults≠b.defaults:=fun h=>q2 (by rw [h])
  simp [c_14,Config.ce,qfc,q1,q2,this]
 simp [c_14,Config.ce,qfc,q1,q2];refine (qa3 a.rows.length (fun i e=>look 2 e=some (.ptr 0 4 0 0)/\look 3 e=some (.ptr 1 4 0 0)/\look 26 e=some (.slice 1 (a.rows.map (cS 5 Rw.c)))/\look 27 e=some (.int .i64 a.rows.length)/\look 28 e=some (.int .i64 i))
  (fun i=>some (Rt.val (AV.bool (qa5 (enRR a.rows) (enRR b.rows) i&&(decide (a.defaults=b.defaults)&&decide (a.registers=b.registers)))))) ?_ ?_ 0 _ (Qc _) ?_).trans (by simp [qa5])
 ·rintro i e L hi hL ⟨h2,h3,h26,h27,h28⟩ ih;have hi2:i<b.rows.length:=by omega
  have hw:IntKind.wrap .i64 ((i:Int)+1)=((i+1:Nat):Int):=qbs (by omega) (by have:=f.rl;omega);obtain ⟨u1,u2⟩:=f.rs _ (Qd hi);have hee:=qsi a.rows[i] b.rows[i] u1 u2;by_cases c:enR a.rows[i]=enR b.rows[i]
  ·rw [decide_eq_true c] at hee;rw [qb3 (by simpa using hi) (by simpa using hi2) (by rw [qjv _ _ hi,qjv _ _ hi2];exact c)];simp [c_14_l0,cSe,hi,hi2,h3,h26,h27,h28,hee,hw];refine (ih _ ⟨by simp [h2],by simp [h3],by simp [h26],by simp [h27],by simp⟩).trans (by simp)
  ·rw [decide_eq_false c] at hee;rw [qbg (by simpa using hi) (by simpa using hi2) (by rw [qjv _ _ hi,qjv _ _ hi2];exact c)];simp [c_14_l0,cSe,hi,hi2,h3,h26,h27,h28,hee]
 ·rintro e L hL ⟨h2,h3,h26,h27,h28⟩;have:=qb2 (l:=enRR a.rows) (m:=enRR b.rows) (by simpa using q1);rw [qun] at this;rw [this];simp [c_14_l0,c_14_k3,h2,h27,h28,hL];refine (qdy a.defaults.length (fun i e h=>look 2 e=some (.ptr 0 4 0 0)/\look 3 e=some (.ptr 1 4 0 0)/\look 43 e=some (.slice 2 (a.defaults.map ActionCall.c))/\look 44 e=some (.int .i64 a.defaults.length)/\look 45 e=some (.int .i64 i)/\
   ∃objs N,Tail objs N/\2<=N/\h=⟨(0,AO.row 4 [Config.c a])::(1,AO.row 4 [Config.c b])::objs,N⟩)
   (fun i=>some (Rt.val (AV.bool (qa5 a.defaults b.defaults i&&decide (a.registers=b.registers))))) ?_ ?_ 0 _ _ (Qc _) ?_).trans (by simp [qa5])
  ·rintro i e _ L' hi hL' ⟨h2,h3,h43,h44,h45,objs,N,hN,hN2,rfl⟩ ih;have hi2:i<b.defaults.length:=by omega
   have hw:IntKind.wrap .i64 ((i:Int)+1)=((i+1:Nat):Int):=qbs (by omega) (by have:=f.dl;omega);have hNN:=hN N (Qb _);have v0:¬0=N:=by omega
   have v1:¬1=N:=by omega
   have hee:=qrb a.defaults[i] b.defaults[i] (f.ds _ (Qd hi));by_cases c:a.defaults[i]=b.defaults[i]
   ·rw [decide_eq_true c] at hee;simp only [ActionCall.ce] at hee;rw [qb3 hi hi2 c];simp [c_14_l1,Config.ce,ActionCall.ce,hi,hi2,h3,h43,h44,h45,hNN,v0,v1,hee,hw];simp only [<- Config.ce];refine (ih _ _ ⟨by simp [h2],by simp [h3],by simp [h43],by simp [h44],by simp,_,_,hN.app _,by omega,rfl⟩).trans (by simp)
   ·rw [decide_eq_false c] at hee;simp only [ActionCall.ce] at hee;rw [qbg hi hi2 c];simp [c_14_l1,Config.ce,ActionCall.ce,hi,hi2,h3,h43,h44,h45,hNN,v0,v1,hee]
  ·rintro e _ L' hL' ⟨h2,h3,h43,h44,h45,objs,N,hN,hN2,rfl⟩;rw [qb2 q2];have hr:=qsh a.registers b.registers f.gl f.gs;simp [c_14_l1,c_14_k2,Config.ce,h2,h3,h44,h45,hL',hr]
  ·simp [h2,h3,q2];exact ⟨[],2,Tail.nil 2,by omega,by simp [Config.ce]⟩
 ·simp [q1]
def noO (t:Int):TableOp:=⟨0,t,0,⟨[],0,⟨0,[]⟩⟩,⟨0,[]⟩⟩
def qco (l:List Rw) (o:TableOp):Option Rw:=l.reverse.find? fun r=>decide (r.id=o.id)
theorem qon (l:List Rw) (r:Rw) (o:TableOp):qco (l++[r]) o=if r.id=o.id then some r else qco l o:=by
 unfold qco;rw [List.reverse_append,List.reverse_singleton,List.singleton_append,List.find?_cons];by_cases z:r.id=o.id<;>simp [z]
def qir (o:TableOp):Option Rw->List AV
 | none=>[.int .i64 0,.int .i64 o.table,.int .i64 0,.fslice 2 [],.int .i64 0,.int .i64 0,.fslice 1 [],.int .i64 0,.fslice 1 []]
 | some r=>[.int .i64 2,.int .i64 o.table,.int .i64 o.id,.fslice 2 [],.int .i64 0,.int .i64 0,.fslice 1 [],.int .i64 r.entry.call.action,.slice 1 (r.entry.call.args.map c32)]
def qhc (o:TableOp):Option Rw->List AV
 | none=>[.int .i64 0,.int .i64 o.table,.int .i64 0,.fslice 2 [],.int .i64 0,.int .i64 0,.fslice 1 [],.int .i64 0,.fslice 1 []]
 | some r=>[.int .i64 1,.int .i64 o.table,.int .i64 o.id,.slice 2 (r.entry.keys.map KeyMatch.c),.int .i64 r.entry.priority,.int .i64 r.entry.call.action,.slice 1 (r.entry.call.args.map c32),.int .i64 0,.fslice 1 []]
def noCl:ActionCall:=⟨0,[]⟩
def qie (c:Config) (t:Int):ActionCall:=(at? c.defaults t).getD noCl
def undF (c:Config) (o:TableOp) (id:Int):TableOp:=
 if o.kind=1 then ⟨3,o.table,id,noE,noCl⟩ else if o.kind=2 then ⟨2,o.table,o.id,noE,(etyF (qar c o.table) o.id).call⟩
 else if o.kind=3 then ⟨1,o.table,o.id,etyF (qar c o.table) o.id,noCl⟩ else ⟨4,o.table,0,noE,qie c o.table⟩
def getM (M:List Ren) (t id:Int):Option Int:=match M with
 | []=>none
 | r::M=>if r.t=t/\r.old=id then some r.new else getM M t id
def putM (M:List Ren) (t id n:Int):List Ren:=match M with
 | []=>[⟨t,id,n⟩]
 | r::M=>if r.t=t/\r.old=id then ⟨t,id,n⟩::M else r::putM M t id n
def bk1 (M:List Ren) (u:TableOp):TableOp:=⟨u.kind,u.table,if u.kind=1 then 0 else (getM M u.table u.id).getD u.id,u.entry,u.call⟩
def bkM (p:Prg) (M:List Ren) (d:Config) (u:TableOp):List Ren:=if u.kind=1 then putM M u.table u.id (xoI p d (bk1 M u)) else M
def bkP (p:Prg):List Ren->Config->List TableOp->List TableOp
 | _,_,[]=>[]
 | M,d,u::V=>bk1 M u::bkP p (bkM p M d u) (xoC p d (bk1 M u)) V
theorem qve (p:Prg):∀(V:List TableOp) (M:List Ren) (d:Config),(bkP p M d V).length=V.length
 | [],_,_=>rfl
 | u::V,M,d=>by simp [bkP,qve p V]
structure UndS (u:TableOp):Prop where
 op:OpS u
 pos:u.kind=1->0<u.id
 zero:u.kind=4->u.id=0
def qdo (p:Prg) (c:Config) (l:List TableOp) (i:Nat):List TableOp:=(List.range i).map fun j=>match l[j]? with
 | some o=>undF (cfgN p c l j) o (idN p c l j)
 | none=>noO 0
def invP (p:Prg) (c:Config) (l:List TableOp):List TableOp:=bkP p [] (cfgN p c l l.length) (qdo p c l l.length).reverse
def invT (p:Prg) (c:Config) (l out:List TableOp):AV:=match badA p (cfgN p c l l.length) out with
 | some _=> .tup [.slice 9 [],.int .i64 14]
 | none=>if qfc (cfgN p (cfgN p c l l.length) out out.length) c=true then .tup [.slice 9 (out.map TableOp.c),.int .i64 0] else .tup [.slice 9 [],.int .i64 14]
def invA (p:Prg) (c:Config) (l out:List TableOp):AV:=match badA p c l with
 | some (_,e)=> .tup [.slice 9 [],.int .i64 e]
 | none=>invT p c l out
theorem qkx {p:Prg}:∀{l:List TableOp} {c:Config} {i:Nat},badF p c l i=none->∀j (h:j<l.length),xoE p (cfgN p c l j) l[j]=0
 | [],_,_,_,j,h=>by simp at h
 | o::l,c,i,hb,0,_=>by
  unfold badF at hb;by_cases z:xoE p c o=0
  ·rw [qg4];exact z
  ·rw [if_neg z] at hb;cases hb
 | o::l,c,i,hb,j+1,h=>by
  unfold badF at hb;by_cases z:xoE p c o=0
  ·rw [if_pos z] at hb;have:=qkx hb j (by simpa using h);simpa [cfgN,xoF] using this
  ·rw [if_neg z] at hb;cases hb
theorem qg1 {p:Prg} {c:Config} {l:List TableOp} (h:badA p c l=none):CfgV p c/\l.length<=64/\badF p c l 0=none:=by
 have h64:=qmt h;unfold badA at h;by_cases z:cfgE p c=0
 case neg=>simp [z] at h
 refine ⟨(qdg p c).1 z,h64,?_⟩;rw [if_neg (by simpa using z),if_neg (by omega)] at h;simpa using h
theorem qm0 {l:List Rw} {id:Int} (h:rIdx l id≠none):∃r∈l,r.id=id/\etyF l id=r.entry:=by
 unfold etyF;cases hf:l.find? fun r=>decide (r.id=id) with
 | none=>
  exfalso;apply h;unfold rIdx;rw [List.findIdx?_eq_none_iff];intro r hr;simpa using List.find?_eq_none.1 hf r hr
 | some r=>exact ⟨r,List.mem_of_find?_eq_some hf,by simpa using List.find?_some hf,rfl⟩
theorem qw6:EntS noE:=⟨by simp [noE],by simp [noE],by simp [noE],by simp [noE]⟩
theorem qs0:CallS noCl:=⟨by simp [noCl],by simp [noCl]⟩
theorem qx5 {α:Type} {l:List α} {t:Int} {x:α} (h:at? l t=some x):x∈l:=by
 unfold at? at h;split at h
 ·cases h
 ·exact Qe h
theorem qac5 {c:Config} (s:CfgT c) (t:Int):CallS (qie c t):=by
 unfold qie;cases h:at? c.defaults t with
 | none=>exact qs0
 | some d=>exact ⟨(s.ds d (qx5 h)).1,(s.ds d (qx5 h)).2⟩
theorem qz4 {p:Prg} {c:Config} {o:TableOp} (hx:xoE p c o=0) (hk:o.kind=2\/o.kind=3):inT p o.table=true/\rIdx (qar c o.table) o.id≠none:=by
 unfold xoE at hx;rcases hk with z | z
 ·simp only [z,modE] at hx;cases hi:inT p o.table with
  | false=>simp [hi] at hx
  | true=>
   refine ⟨rfl,fun h=>?_⟩;simp [hi,h] at hx
 ·simp only [z,delE] at hx;cases hi:inT p o.table with
  | false=>simp [hi] at hx
  | true=>
   refine ⟨rfl,fun h=>?_⟩;simp [hi,h] at hx
theorem qag2 {p:Prg} {c:Config} (v:CfgV p c) (s:CfgT c) {o:TableOp} (hx:xoE p c o=0) (id:Int):UndS (undF c o id):=by
 have row:o.kind=2\/o.kind=3->∃r,rowS r/\0<r.id/\r.id=o.id/\etyF (qar c o.table) o.id=r.entry:=fun hk=>by
  obtain ⟨hi,hr⟩:=qz4 hx hk;obtain ⟨r,hr,h1,h2⟩:=qm0 hr;obtain ⟨k,hk,hl⟩:=qc1 hi;obtain ⟨l,hl2,hr2⟩:=qn9 hr;rw [hk,qcb (by rw [v.rl];exact hl)] at hr;exact ⟨r,(s.rs l hl2).2 r hr2,(v.at hl).pos r hr,h1,h2⟩
 unfold undF;by_cases z1:o.kind=1
 ·rw [if_pos z1];exact ⟨⟨qw6,qs0⟩,by simp,by simp⟩
 rw [if_neg z1];by_cases z2:o.kind=2
 ·rw [if_pos z2];obtain ⟨r,hr,_,_,he⟩:=row (.inl z2);exact ⟨⟨qw6,by rw [he];exact ⟨hr.al,hr.ar⟩⟩,by simp,by simp⟩
 rw [if_neg z2];by_cases z3:o.kind=3
 ·rw [if_pos z3];obtain ⟨r,hr,hp,hid,he⟩:=row (.inr z3);exact ⟨⟨by rw [he];exact hr,qs0⟩,by simp;omega,by simp⟩
 rw [if_neg z3];exact ⟨⟨qw6,qac5 s _⟩,by simp,by simp⟩
theorem qp1 {p:Prg} {c:Config} (v:CfgV p c) (s:CfgT c) (hp:p.tables.length<2^40) {l:List TableOp} (hl:∀o∈l,OpS o) (hb:badF p c l 0=none):∀u∈qdo p c l l.length,UndS u:=by
 intro u hu;simp only [qdo,List.mem_map,List.mem_range] at hu;obtain ⟨j,hj,rfl⟩:=hu;rw [Qa hj];obtain ⟨vj,sj⟩:=qd2 v s hp l hl j;exact qag2 vj sj (qkx hb j hj) _
theorem qom (o:TableOp):∀{l:List Rw},(l.Pairwise fun a b=>a.id<b.id)->qco l o=l.find? fun r=>decide (r.id=o.id)
 | [],_=>rfl
 | a::l,h=>by
  rw [List.pairwise_cons] at h;have ih:=qom o h.2;have e1:qco (a::l) o=(qco l o).or (if a.id=o.id then some a else none):=by
   unfold qco;rw [List.reverse_cons,List.find?_append];by_cases z:a.id=o.id<;>simp [z]
  rw [e1,ih,List.find?_cons];by_cases z:a.id=o.id
  ·have hn:(l.find? fun r=>decide (r.id=o.id))=none:=by
    rw [List.find?_eq_none];intro x hx;have:=h.1 x hx;simp only [decide_eq_true_eq];omega
   rw [hn];simp [z]
  ·simp [z]
def Fl (z:Nat) (v:AV) (es:List (List AV)):Prop:=v= .slice z es\/(v= .fslice z []/\es=[])
structure OpL (o:TableOp) (w:List AV):Prop where
 ex:∃k a ca,w=[.int .i64 o.kind,.int .i64 o.table,.int .i64 o.id,k,.int .i64 o.entry.priority,.int .i64 o.entry.call.action,a,.int .i64 o.call.action,ca]/\
  Fl 2 k (o.entry.keys.map KeyMatch.c)/\Fl 1 a (o.entry.call.args.map c32)/\Fl 1 ca (o.call.args.map c32)/\
  (o.kind=1->k= .slice 2 (o.entry.keys.map KeyMatch.c)/\a= .slice 1 (o.entry.call.args.map c32))/\(o.kind≠1->o.kind≠3->ca= .slice 1 (o.call.args.map c32))
theorem Fl.sl {z:Nat} {es:List (List AV)}:Fl z (.slice z es) es:= .inl rfl
theorem Fl.nil {z:Nat}:Fl z (.fslice z []) []:= .inr ⟨rfl,rfl⟩
def qkv (N:Nat) (O:List (Nat×AO)) (u:TableOp) (r:Option (Rt×AH)):Prop:=
 ∃w O' N',r=some (.val (.agg w),⟨O',N'⟩)/\OpL u w/\Kp (Rs O) N O O'/\Tail O' N'/\N<=N'
theorem Kp.sweep {X:Nat->Prop} {N:Nat} {O O':List (Nat×AO)} (h:Kp X N O O') (hx:∀j,look j O=some .res->X j):Kp X N O (qax O'):=fun j hj hn=>by
 have e:=h j hj hn;rw [qay,e];rw [e];exact fun hr=>hn (hx j hr)
theorem nbq (N:Nat):(N+1 == N)=false/\(N == N+1)=false/\(N+1+1 == N)=false/\(N == N+1+1)=false/\(N+1+1 == N+1)=false/\(N+1 == N+1+1)=false/\(N+1+1+1 == N)=false/\(N == N+1+1+1)=false/\(N+1+1+1 == N+1)=false/\(N+1 == N+1+1+1)=false/\(N+1+1+1 == N+1+1)=false/\(N+1+1 == N+1+1+1)=false:=by
 simp only [beq_eq_false_iff_ne];omega
theorem nne (N:Nat):¬N+1=N/\¬N=N+1/\¬N+1+1=N/\¬N=N+1+1/\¬N+1+1=N+1/\¬N+1=N+1+1/\¬N+1+1+1=N/\¬N=N+1+1+1/\¬N+1+1+1=N+1/\¬N+1=N+1+1+1/\¬N+1+1+1=N+1+1/\¬N+1+1=N+1+1+1:=by
 omega
theorem lk_ge {j:Nat}:∀{L:List (Nat×AO)},(∀x∈L,j<x.1)->look j L=none
 | [],_=>rfl
 | (u,w)::r,h=>by
  have:=h (u,w) (by simp);have hr:=lk_ge (L:=r) fun x hx=>h x (by simp [hx])
  have hu:¬u=j:=by simp only at this;omega
  simp [look,hu,hr]
theorem lk_lt {j:Nat}:∀{L:List (Nat×AO)},(∀x∈L,x.1<j)->look j L=none
 | [],_=>rfl
 | (u,w)::r,h=>by
  have:=h (u,w) (by simp);have hr:=lk_lt (L:=r) fun x hx=>h x (by simp [hx])
  have hu:¬u=j:=by simp only at this;omega
  simp [look,hu,hr]
theorem Kp.apps {X:Nat->Prop} {N:Nat} {O L:List (Nat×AO)} (h:∀x∈L,N<=x.1):Kp X N O (O++L):=fun j hj _=>by
 rw [qag,lk_ge (L:=L) fun x hx=>by have:=h x hx;omega];cases look j O<;>rfl
theorem Tail.apps {N M:Nat} {O L:List (Nat×AO)} (hT:Tail O N) (hn:N<=M) (h:∀x∈L,x.1<M):Tail (O++L) M:=fun j hj=>by
 rw [qag,hT j (by omega),lk_lt (L:=L) fun x hx=>by have:=h x hx;omega];rfl
theorem qag4 {O:List (Nat×AO)} {N:Nat} (hT:Tail O N) (w1 w2 w3 w4:AV) (o:TableOp) (id:Int) (h:o.kind=1):
  qkv N O ⟨3,o.table,id,noE,noCl⟩ (qai Φ f_44 [.agg [w1,w2,w3,w4],.agg (TableOp.c o),.int .i64 id] ⟨O,N⟩):=by
 rw [qbh (fn:=c_44) rfl rfl];have t0:=hT N (Qb _);have t1:=hT (N+1) (by omega);have t2:=hT (N+1+1) (by omega);have t3:=hT (N+1+1+1) (by omega);simp [c_44,c_44_k1,TableOp.ce2,h,t0,t1,t2,t3,nne N];refine ⟨_,_,_,rfl,⟨⟨_,_,_,rfl,.nil,.nil,.nil,by simp,by simp⟩⟩,Kp.apps ?_,hT.apps (by omega) ?_,by omega⟩
 ·simp only [List.mem_cons,List.not_mem_nil,or_false];rintro x (rfl | rfl | rfl | rfl)<;>simp<;>omega
 ·simp only [List.mem_cons,List.not_mem_nil,or_false];rintro x (rfl | rfl | rfl | rfl)<;>simp<;>omega
theorem qag7 {O:List (Nat×AO)} {N:Nat} (hT:Tail O N) {w1 w2 w3 w4:AV} {V:List AV} {c:Config} (m:CfgM O w1 w2 w3 w4 V c) (o:TableOp) (id:Int) (h:o.kind=4) {t:Nat} (ht:o.table=t) (hd:t<c.defaults.length):
  qkv N O ⟨4,o.table,0,noE,c.defaults[t]⟩ (qai Φ f_44 [.agg [w1,w2,w3,w4],.agg (TableOp.c o),.int .i64 id] ⟨O,N⟩):=by
 rw [qbh (fn:=c_44) rfl rfl];have t0:=hT N (Qb _);have t1:=hT (N+1) (by omega);have t2:=hT (N+1+1) (by omega);have t3:=hT (N+1+1+1) (by omega);obtain ⟨did,es0,e,hi,hle,htk⟩:=m.d.nonempty (by simp;omega);rw [List.length_map] at e hle;subst e;have hke:t<es0.length:=by omega
 have g1:=qc5 hd htk;rw [ActionCall.ce] at g1;have g2:es0[t]=[.int .i64 c.defaults[t].action,.slice 1 (c.defaults[t].args.map c32)]:=by rw [Qa hke] at g1;exact Option.some.inj g1
 have hlt:=hT.lt hi;have d0:¬N=did:=by omega
 have d1:¬N+1=did:=by omega
 have d2:¬N+1+1=did:=by omega
 have d3:¬N+1+1+1=did:=by omega
 have d0':¬did=N:=by omega
 have d1':¬did=N+1:=by omega
 have d2':¬did=N+1+1:=by omega
 have d3':¬did=N+1+1+1:=by omega
 have d4:(did == N+1+1+1)=false:=by simpa using d3'
 have l2:∀a b x y,look (N+1+1) (qax (O++[(N,a),(N+1,b),(N+1+1,.row 9 x),(N+1+1+1,.row 9 y)]))=some (.row 9 x):=fun a b x y=>by
  have:look (N+1+1) (O++[(N,a),(N+1,b),(N+1+1,.row 9 x),(N+1+1+1,.row 9 y)])=some (.row 9 x):=by simp [t2,nne N]
  rw [qay (by rw [this];simp),this]
 have l3:∀a b x y,look (N+1+1+1) (qax (O++[(N,a),(N+1,b),(N+1+1,.row 9 x),(N+1+1+1,.row 9 y)]))=some (.row 9 y):=fun a b x y=>by
  have:look (N+1+1+1) (O++[(N,a),(N+1,b),(N+1+1,.row 9 x),(N+1+1+1,.row 9 y)])=some (.row 9 y):=by simp [t3,nne N]
  rw [qay (by rw [this];simp),this]
 simp [c_44,c_44_k1,TableOp.ce2,h,ht,hd,d4,l2,l3,hi,g2,hke,t0,t1,t2,t3,qag,qad,nbq N,nne N,d0,d1,d2,d3];refine ⟨_,_,_,rfl,⟨⟨_,_,_,rfl,.nil,.nil,.sl,by simp,fun _ _=>rfl⟩⟩,Kp.setl (Kp.sweep (Kp.apps ?_) fun j h=>h) (.inl (by omega)),qaj (qc3 (hT.apps (by omega) ?_)),by omega⟩
 ·simp only [List.mem_cons,List.not_mem_nil,or_false];rintro x (rfl | rfl | rfl | rfl)<;>simp<;>omega
 ·simp only [List.mem_cons,List.not_mem_nil,or_false];rintro x (rfl | rfl | rfl | rfl)<;>simp<;>omega
theorem qag5 {O:List (Nat×AO)} {N:Nat} (hT:Tail O N) {w1 w2 w3 w4:AV} {V:List AV} {c:Config} (m:CfgM O w1 w2 w3 w4 V c) (o:TableOp) (id:Int) (h:o.kind=2) {t:Nat} (ht:o.table=t) (hd:t<c.rows.length) (hl:c.rows[t].length<2^40) {r:Rw} (hr:qco c.rows[t] o=some r):
  qkv N O ⟨2,o.table,o.id,noE,r.entry.call⟩ (qai Φ f_44 [.agg [w1,w2,w3,w4],.agg (TableOp.c o),.int .i64 id] ⟨O,N⟩):=by
 rw [qbh (fn:=c_44) rfl rfl];have t0:=hT N (Qb _);have t1:=hT (N+1) (by omega);have t2:=hT (N+1+1) (by omega);have t3:=hT (N+1+1+1) (by omega);have hV:t<V.length:=by rw [m.rl];exact hd
 obtain ⟨vid0,es0,e1,hi,hle,htk⟩:=m.r.nonempty (by simp;omega);rw [List.length_map] at e1 hle;have hke:t<es0.length:=by omega
 have g1:es0[t]? =some [V[t]]:=qc5 hV htk;have g2:es0[t]=[V[t]]:=by rw [Qa hke] at g1;exact Option.some.inj g1
 have hrv:=m.rv t V[t] c.rows[t] (Qa hV) (Qa hd);have hvl:=hrv.len;rw [List.length_map] at hvl;subst e1;have hlt:=hT.lt hi;have d0:¬vid0=N:=by omega
 have d1:¬vid0=N+1:=by omega
 have d2:¬vid0=N+1+1:=by omega
 have d3:¬vid0=N+1+1+1:=by omega
 simp [c_44,TableOp.ce2,h,ht,hV,hi,g2,hke,hvl,t0,t1,t2,t3,qag,nne N,-lenOf];refine qf2 c.rows[t].length (fun i e hp=>∃O' N',hp=⟨O',N'⟩/\Kp (Rs O) N O O'/\Tail O' N'/\N+4<=N'/\look (N+1) O'=some (.row 9 [TableOp.c o])/\look (N+1+1) O'=some (.row 9 [qir ⟨0,0,0,noE,noCl⟩ none])/\look (N+1+1+1) O'=some (.row 9 [qir o (qco (c.rows[t].take i) o)])/\
  look 4 e=some (.ptr (N+1) 9 0 0)/\look 6 e=some (.ptr (N+1+1) 9 0 0)/\look 7 e=some (.ptr (N+1+1+1) 9 0 0)/\look 20 e=some V[t]/\look 21 e=some (.int .i64 c.rows[t].length)/\look 22 e=some (.int .i64 i)) _ ?_ ?_ 0 _ _ (Qc _) ?_
 ·rintro i e _ L hi hL ⟨O',N',rfl,hk,hT',hN',k1,k2,k3,h4,h6,h7,h20,h21,h22⟩ ih;have hw:=qal i (by omega);have hs:qco (c.rows[t].take (i+1)) o=if c.rows[t][i].id=o.id then some c.rows[t][i] else qco (c.rows[t].take i) o:=by
   rw [Qh hi,qon]
  have h5:Mu O' 5 V[t] (c.rows[t].map Rw.c):=by
   refine hrv.fr fun j hj=>?_
   obtain ⟨es1,hl1⟩:=hrv.own hj;exact hk j (hT.lt hl1) (fun hc=>by have hc:look j O=some .res:=hc;rw [hl1] at hc;cases hc)
  obtain ⟨rid,es1,ev,hl1,hle1,ht1⟩:=h5.nonempty (by simp;omega);have g5:=qc5 hi ht1;rw [ev,List.length_map] at h20;have hr2:rid<N:=by
   have:=hrv.own (j:=rid) (by rw [ev];rfl);obtain ⟨es2,hl2⟩:=this;exact hT.lt hl2
  have d1:¬rid=N+1:=by omega
  have d2:¬rid=N+1+1:=by omega
  have d3:¬rid=N+1+1+1:=by omega
  have u0:=hT' N' (Qb _);have f1:¬N'=N+1:=by omega
  have f2:¬N'=N+1+1:=by omega
  have f3:¬N'=N+1+1+1:=by omega
  simp only [TableOp.ce2] at k1;by_cases z:c.rows[t][i].id=o.id
  ·rw [if_pos z] at hs;rw [show qir o (qco (c.rows[t].take i) o)=qir o (qco (c.rows[t].take i) o) from rfl] at k3;cases hu:qco (c.rows[t].take i) o<;>rw [hu] at k3<;>simp only [qir] at k3<;>
   ·simp [c_44_l0,Rw.ce,h4,h7,h20,h21,h22,hi,hl1,g5,z,h,k1,k3,qad,u0,hw];refine ih _ _ ⟨_,_,rfl,Kp.sweep (Kp.setl (Kp.setl (Kp.setl hk (.inl (by omega))) (.inl (by omega))) (.inl (by omega))) fun j h=>h,qc3 (qaj (qaj (qaj (hT'.mono (by omega))))),by omega,?_,?_,?_,by simp [h4],by simp [h6],by simp [h7],by simp [h20,ev],by simp [h21],by simp⟩
    ·rw [qay]<;>simp [qad,k1,TableOp.ce2,h]
    ·rw [qay]<;>simp [qad,k2]
    ·rw [qay]<;>simp [qad,k3,hs,qir]
  ·rw [if_neg z] at hs;simp [c_44_l0,Rw.ce,h4,h20,h21,h22,hi,hl1,g5,z,h,k1,u0,hw];refine ih _ _ ⟨_,_,rfl,hk,hT'.mono (by omega),by omega,by simp [k1,TableOp.ce2,h],k2,by rw [hs];exact k3,by simp [h4],by simp [h6],by simp [h7],by simp [h20,ev],by simp [h21],by simp⟩
 ·rintro e _ L hL ⟨O',N',rfl,hk,hT',hN',k1,k2,k3,h4,h6,h7,h20,h21,h22⟩;rw [List.take_length,hr] at k3;simp only [qir] at k2 k3;simp [c_44_l0,c_44_k1,h6,h7,h21,h22,hL,k2,k3,qad];rw [<- ht];exact ⟨_,_,_,rfl,⟨⟨_,_,_,rfl,.nil,.nil,.sl,by simp,fun _ _=>rfl⟩⟩,Kp.setl hk (.inl (by omega)),qaj hT',by omega⟩
 ·refine ⟨_,_,rfl,Kp.apps ?_,hT.apps (by omega) ?_,by omega,?_,?_,?_,by simp,by simp,by simp,by simp,by simp,by simp⟩
  ·simp only [List.mem_cons,List.not_mem_nil,or_false];rintro x (rfl | rfl | rfl | rfl)<;>simp<;>omega
  ·simp only [List.mem_cons,List.not_mem_nil,or_false];rintro x (rfl | rfl | rfl | rfl)<;>simp<;>omega
  all_goals simp [t1,t2,t3,nne N,TableOp.ce2,qir,qco,h,ht]
theorem qag6 {O:List (Nat×AO)} {N:Nat} (hT:Tail O N) {w1 w2 w3 w4:AV} {V:List AV} {c:Config} (m:CfgM O w1 w2 w3 w4 V c) (o:TableOp) (id:Int) (h:o.kind=3) {t:Nat} (ht:o.table=t) (hd:t<c.rows.length) (hl:c.rows[t].length<2^40) {r:Rw} (hr:qco c.rows[t] o=some r):
  qkv N O ⟨1,o.table,o.id,r.entry,noCl⟩ (qai Φ f_44 [.agg [w1,w2,w3,w4],.agg (TableOp.c o),.int .i64 id] ⟨O,N⟩):=by
 rw [qbh (fn:=c_44) rfl rfl];have t0:=hT N (Qb _);have t1:=hT (N+1) (by omega);have t2:=hT (N+1+1) (by omega);have t3:=hT (N+1+1+1) (by omega);have hV:t<V.length:=by rw [m.rl];exact hd
 obtain ⟨vid0,es0,e1,hi,hle,htk⟩:=m.r.nonempty (by simp;omega);rw [List.length_map] at e1 hle;have hke:t<es0.length:=by omega
 have g1:es0[t]? =some [V[t]]:=qc5 hV htk;have g2:es0[t]=[V[t]]:=by rw [Qa hke] at g1;exact Option.some.inj g1
 have hrv:=m.rv t V[t] c.rows[t] (Qa hV) (Qa hd);have hvl:=hrv.len;rw [List.length_map] at hvl;subst e1;have hlt:=hT.lt hi;have d0:¬vid0=N:=by omega
 have d1:¬vid0=N+1:=by omega
 have d2:¬vid0=N+1+1:=by omega
 have d3:¬vid0=N+1+1+1:=by omega
 simp [c_44,TableOp.ce2,h,ht,hV,hi,g2,hke,hvl,t0,t1,t2,t3,qag,nne N,-lenOf];refine qf2 c.rows[t].length (fun i e hp=>∃O' N',hp=⟨O',N'⟩/\Kp (Rs O) N O O'/\Tail O' N'/\N+4<=N'/\look (N+1) O'=some (.row 9 [TableOp.c o])/\look (N+1+1) O'=some (.row 9 [qhc ⟨0,0,0,noE,noCl⟩ none])/\look (N+1+1+1) O'=some (.row 9 [qhc o (qco (c.rows[t].take i) o)])/\
  look 4 e=some (.ptr (N+1) 9 0 0)/\look 6 e=some (.ptr (N+1+1) 9 0 0)/\look 7 e=some (.ptr (N+1+1+1) 9 0 0)/\look 20 e=some V[t]/\look 21 e=some (.int .i64 c.rows[t].length)/\look 22 e=some (.int .i64 i)) _ ?_ ?_ 0 _ _ (Qc _) ?_
 ·rintro i e _ L hi hL ⟨O',N',rfl,hk,hT',hN',k1,k2,k3,h4,h6,h7,h20,h21,h22⟩ ih;have hw:=qal i (by omega);have hs:qco (c.rows[t].take (i+1)) o=if c.rows[t][i].id=o.id then some c.rows[t][i] else qco (c.rows[t].take i) o:=by
   rw [Qh hi,qon]
  have h5:Mu O' 5 V[t] (c.rows[t].map Rw.c):=by
   refine hrv.fr fun j hj=>?_
   obtain ⟨es1,hl1⟩:=hrv.own hj;exact hk j (hT.lt hl1) (fun hc=>by have hc:look j O=some .res:=hc;rw [hl1] at hc;cases hc)
  obtain ⟨rid,es1,ev,hl1,hle1,ht1⟩:=h5.nonempty (by simp;omega);have g5:=qc5 hi ht1;rw [ev,List.length_map] at h20;have hr2:rid<N:=by
   have:=hrv.own (j:=rid) (by rw [ev];rfl);obtain ⟨es2,hl2⟩:=this;exact hT.lt hl2
  have d1:¬rid=N+1:=by omega
  have d2:¬rid=N+1+1:=by omega
  have d3:¬rid=N+1+1+1:=by omega
  have u0:=hT' N' (Qb _);have f1:¬N'=N+1:=by omega
  have f2:¬N'=N+1+1:=by omega
  have f3:¬N'=N+1+1+1:=by omega
  simp only [TableOp.ce2] at k1;by_cases z:c.rows[t][i].id=o.id
  ·rw [if_pos z] at hs;rw [show qhc o (qco (c.rows[t].take i) o)=qhc o (qco (c.rows[t].take i) o) from rfl] at k3;cases hu:qco (c.rows[t].take i) o<;>rw [hu] at k3<;>simp only [qhc] at k3<;>
   ·simp [c_44_l0,Rw.ce,h4,h7,h20,h21,h22,hi,hl1,g5,z,h,k1,k3,qad,u0,hw];refine ih _ _ ⟨_,_,rfl,Kp.sweep (Kp.setl (Kp.setl (Kp.setl hk (.inl (by omega))) (.inl (by omega))) (.inl (by omega))) fun j h=>h,qc3 (qaj (qaj (qaj (hT'.mono (by omega))))),by omega,?_,?_,?_,by simp [h4],by simp [h6],by simp [h7],by simp [h20,ev],by simp [h21],by simp⟩
    ·rw [qay]<;>simp [qad,k1,TableOp.ce2,h]
    ·rw [qay]<;>simp [qad,k2]
    ·rw [qay]<;>simp [qad,k3,hs,qhc]
  ·rw [if_neg z] at hs;simp [c_44_l0,Rw.ce,h4,h20,h21,h22,hi,hl1,g5,z,h,k1,u0,hw];refine ih _ _ ⟨_,_,rfl,hk,hT'.mono (by omega),by omega,by simp [k1,TableOp.ce2,h],k2,by rw [hs];exact k3,by simp [h4],by simp [h6],by simp [h7],by simp [h20,ev],by simp [h21],by simp⟩
 ·rintro e _ L hL ⟨O',N',rfl,hk,hT',hN',k1,k2,k3,h4,h6,h7,h20,h21,h22⟩;rw [List.take_length,hr] at k3;simp only [qhc] at k2 k3;simp [c_44_l0,c_44_k1,h6,h7,h21,h22,hL,k2,k3,qad];rw [<- ht];exact ⟨_,_,_,rfl,⟨⟨_,_,_,rfl,.sl,.sl,.nil,fun _=>⟨rfl,rfl⟩,by simp⟩⟩,Kp.setl hk (.inl (by omega)),qaj hT',by omega⟩
 ·refine ⟨_,_,rfl,Kp.apps ?_,hT.apps (by omega) ?_,by omega,?_,?_,?_,by simp,by simp,by simp,by simp,by simp,by simp⟩
  ·simp only [List.mem_cons,List.not_mem_nil,or_false];rintro x (rfl | rfl | rfl | rfl)<;>simp<;>omega
  ·simp only [List.mem_cons,List.not_mem_nil,or_false];rintro x (rfl | rfl | rfl | rfl)<;>simp<;>omega
  all_goals simp [t1,t2,t3,nne N,TableOp.ce2,qhc,qco,h,ht]
theorem Fl.snp {z n:Nat} {v:AV} {es:List (List AV)} {H:AH} (h:Fl z v es) (hs:snap (n+1) H (.slice z es)=some (.slice z es)):snap (n+1) H v=some (.slice z es):=by
 rcases h with rfl | ⟨rfl,rfl⟩
 ·exact hs
 ·simp
theorem OpL.snp {o:TableOp} {w:List AV} (h:OpL o w) {n:Nat} {H:AH}:mapO (snap (n+1) H) w=some (TableOp.c o):=by
 obtain ⟨k,a,ca,rfl,h1,h2,h3,-,-⟩:=h.ex;have e1:=h1.snp (n:=n) (H:=H) (by simp);have e2:=h2.snp (n:=n) (H:=H) (by simp);have e3:=h3.snp (n:=n) (H:=H) (by simp);simp [TableOp.ce2,e1,e2,e3]
theorem OpL.bor {o:TableOp} {w:List AV} (h:OpL o w) {n:Nat}:anyL (bor (n+1)) w=false:=by
 obtain ⟨k,a,ca,rfl,h1,h2,h3,-,-⟩:=h.ex;rcases h1 with rfl | ⟨rfl,-⟩<;>rcases h2 with rfl | ⟨rfl,-⟩<;>rcases h3 with rfl | ⟨rfl,-⟩<;>simp
def OpsL (l:List TableOp) (W:List (List AV)):Prop:=l.length=W.length/\∀(i:Nat) (o:TableOp) (w:List AV),l[i]? =some o->W[i]? =some w->OpL o w
theorem OpsL.nil:OpsL [] []:=⟨rfl,by simp⟩
theorem OpsL.snoc {l:List TableOp} {W:List (List AV)} (h:OpsL l W) {o:TableOp} {w:List AV} (hw:OpL o w):OpsL (l++[o]) (W++[w]):=by
 refine ⟨by simp [h.1],fun i o' w' h1 h2=>?_⟩;by_cases hi:i<l.length
 ·rw [Ql hi] at h1;rw [Ql (by rw [<- h.1];exact hi)] at h2;exact h.2 i o' w' h1 h2
 ·rw [Qp (by omega)] at h1;rw [Qp (by have:=h.1;omega)] at h2;rw [h.1] at h1;cases hk:i - W.length with
  | zero=>rw [hk] at h1 h2;simp at h1 h2;subst h1;subst h2;exact hw
  | succ k=>rw [hk] at h1;simp at h1
theorem OpsL.snp {l:List TableOp} {W:List (List AV)} (h:OpsL l W) {n:Nat} {H:AH}:mapO (mapO (snap (n+1) H)) W=some (l.map TableOp.c):=by
 refine qlc (by simp [h.1]) fun i w y hx hy=>?_
 rw [List.getElem?_map] at hy;cases ho:l[i]? with
 | none=>rw [ho] at hy;cases hy
 | some o=>rw [ho] at hy;cases hy;exact (h.2 i o w ho hx).snp
theorem qxu (p:Prg) (c:Config) (l:List TableOp) {i:Nat} (hi:i<l.length):qdo p c l (i+1)=qdo p c l i++[undF (cfgN p c l i) l[i] (idN p c l i)]:=by
 unfold qdo;rw [List.range_succ,List.map_append,List.map_singleton,Qa hi]
theorem qab9 {O:List (Nat×AO)} {N:Nat} (hT:Tail O N) {w1 w2 w3 w4:AV} {V:List AV} {p:Prg} {c:Config} (m:CfgM O w1 w2 w3 w4 V c) (v:CfgV p c) (s:CfgT c) {o:TableOp} (hx:xoE p c o=0) (id:Int):
  qkv N O (undF c o id) (qai Φ f_44 [.agg [w1,w2,w3,w4],.agg (TableOp.c o),.int .i64 id] ⟨O,N⟩):=by
 obtain ⟨hi,hk⟩:=qaha hx;obtain ⟨k,hk1,hl⟩:=qc1 hi;have hd:k<c.defaults.length:=by rw [v.dl];exact hl
 have hr:k<c.rows.length:=by rw [v.rl];exact hl
 have row:o.kind=2\/o.kind=3->∃r,qco c.rows[k] o=some r/\etyF (qar c o.table) o.id=r.entry:=fun hk=>by
  obtain ⟨_,hn⟩:=qz4 hx hk;rw [qom o (v.at hl).inc];rw [hk1,qcb hr] at hn;rw [hk1,qcb hr];obtain ⟨r,hr1,hr2,hr3⟩:=qm0 hn;cases hf:c.rows[k].find? fun r=>decide (r.id=o.id) with
  | none=>exact absurd (List.find?_eq_none.1 hf r hr1) (by simpa using hr2)
  | some r'=>exact ⟨r',rfl,by unfold etyF;rw [hf]⟩
 rcases hk with z | z | z | z
 ·have:=qag4 hT w1 w2 w3 w4 o id z;simpa [undF,z] using this
 ·obtain ⟨r,h1,h2⟩:=row (.inl z);have:=qag5 hT m o id z hk1 hr (s.rs c.rows[k] (Qd hr)).1 h1;simpa [undF,z,h2] using this
 ·obtain ⟨r,h1,h2⟩:=row (.inr z);have:=qag6 hT m o id z hk1 hr (s.rs c.rows[k] (Qd hr)).1 h1;simpa [undF,z,h2] using this
 ·have:=qag7 hT m o id z hk1 hd;simpa [undF,z,qie,hk1,qfv,Qa hd] using this
structure IvE (p:Prg) (c:Config) (l:List TableOp) (s:Nat) (e:Env):Prop where
 e3:look 3 e=some (.iptr 9 [Prg.c p] 0 0)
 e4:look 4 e=some (.iptr 4 [Config.c c] 0 0)
 e8:look 8 e=some (.iptr 4 [Config.c (cfgN p c l l.length)] 0 0)
 e12:look 12 e=some (.ptr s 15 0 0)
structure IvI (p:Prg) (c:Config) (l:List TableOp) (S:SV) (T B:Nat) (i:Nat) (e:Env) (O:List (Nat×AO)) (N:Nat):Prop where
 v:IvE p c l S.s e
 tl:Tail O N
 hB:B<=N
 hTB:T<B
 nT:¬S.own T
 st:∃S',StoreM O S' p (cfgN p c l i)/\S'.s=S.s/\∀j,S'.own j->S.own j\/B<=j
 tk:look T O=some (.tok 9 i)
 e13:look 13 e=some (.app 9 ((qdo p c l i).map TableOp.c) T)
 e9:look 9 e=some (.slice 1 (idsA p c l))
 e49:look 49 e=some (.slice 9 (l.map TableOp.c))
 e50:look 50 e=some (.int .i64 l.length)
 e51:look 51 e=some (.int .i64 i)
theorem iv0 (p:Prg) (f:PrgS p) (hp:p.tables.length<2^40) {c:Config} (v:CfgV p c) (s:CfgT c) (l:List TableOp) (hl64:l.length<=64) (hl:∀o∈l,OpS o) (hb:badF p c l 0=none) {S:SV} {T B:Nat} {R:Option Rt}
  (hk:∀e O N,IvI p c l S T B l.length e O N->go Φ (finP [.tmp 6,.tmp 7]) [.c c_13_k3] .normal ⟨e,⟨O,N⟩⟩=R):
  ∀e O N,IvI p c l S T B 0 e O N->go Φ (finP [.tmp 6,.tmp 7]) [.c (.loop c_13_l0),.b 0,.c c_13_k3] .normal ⟨e,⟨O,N⟩⟩=R:=by
 intro e O N I0;refine qdy l.length (fun i e h=>∃O N,h=⟨O,N⟩/\IvI p c l S T B i e O N) (fun _=>R) ?_ ?_ 0 e _ (Qc _) ⟨O,N,rfl,I0⟩
 ·rintro i e _ L hi hL ⟨O,N,rfl,I⟩ ih;obtain ⟨S1,m1,es,ho⟩:=I.st;obtain ⟨vi,si⟩:=qd2 v s hp l hl i;have hx:=qkx hb i hi;have hU:(qdo p c l i).length=i:=by simp [qdo]
  have hw:=qal i (by omega);have hid:(idsA p c l)[i]? =some [.int .i64 (idN p c l i)]:=by simp [idsA,hi,cI]
  have hil:(idsA p c l).length=l.length:=by simp [idsA]
  have hid2:(idsA p c l)[i]'(by rw [hil];exact hi)=[.int .i64 (idN p c l i)]:=by rw [Qa (by rw [hil];exact hi)] at hid;exact Option.some.inj hid
  have t0:=I.tl N (Qb _);have hM:=I.hB;have hTB:=I.hTB;have hT1:Tail (O++[(N+1+66,AO.res)]) (N+1+66+1):=I.tl.apps (by omega) (by simp);have hk1:Kp (fun _=>False) N O (O++[(N+1+66,AO.res)]):=Kp.apps (by simp;omega);have m1':StoreM (O++[(N+1+66,AO.res)]) S1 p (cfgN p c l i):=m1.kp I.tl hk1 (by simp);obtain ⟨w1,w2,w3,w4,V,O2,N2,e2,n2,f2,hk2,hT2,hN2⟩:=qp4 (vi.u si) hT1 m1';obtain ⟨w,O3,N3,e3,hO,hk3,hT3,hN3⟩:=qab9 (p:=p) hT2 n2 vi si hx (idN p c l i);have q2:=hk1.lk I.tl I.tk (by simp);have q3:=hk2.lk hT1 q2 (by simp);have q4:=hk3.lk hT2 q3 (by intro h;have h:look T O2=some .res:=h;rw [q3] at h;cases h);have h120:(i+1)*120<=70368744177664:=by omega
  have tT:¬N+1+66=T:=by omega
  have tT':¬T=N+1+66:=by omega
  rw [es] at e2;simp only [TableOp.ce2] at e3;have hb4:=hO.bor (n:=39);have hs4:=hO.snp (n:=39) (H:=⟨O3,N3⟩);obtain ⟨k,a,ca,hw9,-⟩:=hO.ex;have wl:w.length=9:=by rw [hw9];rfl
  have base:∀j,j<N->look j O≠some .res->look j O3=look j O:=fun j hj hn=>by
   have a1:=hk1 j hj (by simp);have a2:=hk2 j (by omega) (by simp);have a3:=hk3 j (by omega) (fun h=>hn (by rw [<- a1,<- a2];exact h));rw [a3,a2,a1]
  have tk4:look T (qax (setl T (.tok 9 (i+1)) O3))=some (.tok 9 (i+1)):=by
   have:look T (setl T (.tok 9 (i+1)) O3)=some (.tok 9 (i+1)):=by simp [qad,q4]
   rw [qay (by rw [this];simp),this]
  have nT1:∀j,S1.own j->j≠T:=fun j hj h=>by
   subst h;rcases ho j hj with h | h
   ·exact I.nT h
   ·omega
  have m4:StoreM (qax (setl T (.tok 9 (i+1)) O3)) S1 p (cfgN p c l i):=m1.fr fun j hj=>by
   obtain ⟨x,hx1,hx2⟩:=m1.own_lk hj;have hj':=I.tl.lt hx1;have h3:=base j hj' (by rw [hx1];exact fun h=>hx2 (Option.some.inj h));have hs:look j (setl T (.tok 9 (i+1)) O3)=look j O:=by rw [qad,if_neg (nT1 j hj),h3]
   rw [qay (by rw [hs,hx1];exact fun h=>hx2 (Option.some.inj h)),hs]
  have hT4:Tail (qax (setl T (.tok 9 (i+1)) O3)) N3:=qc3 (qaj hT3);obtain ⟨S2,O5,N5,e5,x1,x2,x3,x4,x5,x6⟩:=qjx m4 f vi si hT4 l[i] (hl _ (Qd hi));rw [es] at e5 x2;have hcs:cfgN p c l (i+1)=xoC p (cfgN p c l i) l[i]:=qic p c l hi;have tk5:look T O5=some (.tok 9 (i+1)):=by
   rw [x4 T (by omega),tk4];rintro (h | h)
   ·exact nT1 T h rfl
   ·have h:look T (qax (setl T (.tok 9 (i+1)) O3))=some .res:=h;rw [tk4] at h;cases h
  simp only [TableOp.ce2] at e5;simp [c_13_l0,TableOp.ce2,I.v.e12,I.e49,I.e50,I.e51,hi,hL,t0,I.e9,I.e13,e2,hid,hil,hid2,e3,q4,hU,h120,qag,qad,wl,hb4,hs4,e5,hw];refine ih _ _ ⟨_,_,rfl,⟨⟨by simp [I.v.e3],by simp [I.v.e4],by simp [I.v.e8],by simp [I.v.e12]⟩,x5,by omega,hTB,I.nT,⟨S2,by rw [hcs];exact x1,x2,fun j hj=>?_⟩,tk5,?_,by simp [I.e9],by simp [I.e49,TableOp.ce2],by simp [I.e50],by simp⟩⟩
  ·rcases x3 j hj with h | h
   ·exact ho j h
   ·exact .inr (by omega)
  ·simp [qxu p c l hi,TableOp.ce2]
 ·rintro e _ L hL ⟨O,N,rfl,I⟩;simp [c_13_l0,I.e50,I.e51,hL];exact hk _ _ _ ⟨⟨by simp [I.v.e3],by simp [I.v.e4],by simp [I.v.e8],by simp [I.v.e12]⟩,I.tl,I.hB,I.hTB,I.nT,I.st,I.tk,by simp [I.e13],by simp [I.e9],by simp [I.e49],by simp [I.e50],by simp [I.e51]⟩
end Go.Av
