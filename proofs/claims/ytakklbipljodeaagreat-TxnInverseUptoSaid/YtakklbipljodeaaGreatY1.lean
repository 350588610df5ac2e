/-
  Lemmas for the law.
-/
import Derived.Test.YtakklbipljodeaaGreatR7
import Derived.Test.YtakklbipljodeaaGreatW27K
set_option linter.unusedVariables false
set_option linter.unusedSimpArgs false
set_option linter.constructorNameAsVariable false
namespace Go.Av
set_option maxRecDepth 4000
def ql7 (x:Entry):Bool:=decide (x.keys.length<=10)&&decide (x.call.args.length<=10)
theorem qn1 (x:Entry):qab Φ f_97 [.agg (Entry.c x)]=some (.val (.bool (ql7 x))):=by
 rw [qaa (fn:=c_97) rfl rfl];by_cases h:x.keys.length<=10<;>simp [c_97,Entry.c,ql7,h]
def bigO (x:TableOp):Bool:= !ql7 x.entry || decide (10<x.call.args.length)
def qk2 (l:List TableOp):Bool:=decide (l.length<=80)&& !qa4 l bigO 0
theorem quq (l:List TableOp):qab Φ f_43 [.slice 9 (l.map TableOp.c)]=some (.val (.bool (qk2 l))):=by
 rw [qaa (fn:=c_43) rfl rfl];by_cases q:l.length<=80
 rotate_left
 ·have:80<l.length:=by omega
  simp [c_43,qk2,q,this]
 have q':¬80<l.length:=by omega
 simp [c_43,qk2,q,q'];refine qao l.length (fun i e=>look 0 e=some (.slice 9 (l.map TableOp.c))/\look 3 e=some (.int .i64 i)) (fun i=>some (Rt.val (AV.bool (!qa4 l bigO i)))) ?_ ?_ 0 _ (Qc _) ?_
 ·rintro i e L hi hL ⟨h0,h3⟩ ih;have hw:=qah i (by omega);have hsm:=qn1 l[i].entry;simp only [Entry.c] at hsm;cases hb:bigO l[i] with
  | true=>
   rw [qfd hi hb];unfold bigO at hb;cases hq:ql7 l[i].entry with
   | false=>
    rw [hq] at hsm;simp [c_43_l0,TableOp.c,h0,h3,hi,hsm]
   | true=>
    rw [hq] at hb hsm;simp at hb;simp [c_43_l0,TableOp.c,h0,h3,hi,hsm,hb]
  | false=>
   rw [qdg hi hb];unfold bigO at hb;simp at hb;rw [hb.1] at hsm;have:¬10<l[i].call.args.length:=by omega
   simp [c_43_l0,TableOp.c,h0,h3,hi,hsm,hw,this];exact ih _ ⟨by simp [h0],by simp⟩
 ·rintro e L hL ⟨h0,h3⟩;rw [qfc];simp [c_43_l0,c_43_k1, *]
 ·simp
def qlg (r:Rw):Bool:= !ql7 r.entry
def qf2 (l:List Rw):Bool:=decide (40<l.length) || qa4 l qlg 0
def qhj (c:ActionCall):Bool:=decide (10<c.args.length)
def qfl (l:List Int):Bool:=decide (80<l.length)
def qhv (c:Config):Bool:=decide (c.rows.length<=16)&&decide (c.nextID.length<=16)&&decide (c.defaults.length<=16)&&decide (c.registers.length<=8)&& !qa4 c.rows qf2 0&& !qa4 c.defaults qhj 0&& !qa4 c.registers qfl 0
theorem qnd (R N D:List (List AV)) (c:List (List Int)) (hd:c.length<=8) (e:Env) (h1:look 1 e=some (.ptr 0 4 0 0)):
  go Φ (finP [.tmp 2]) [.c c_38_k6] .normal ⟨e,⟨[(0,.row 4 [[.slice 1 R,.slice 1 N,.slice 2 D,.slice 1 (c.map (cS 1 c32))]])],1⟩⟩=some (Rt.val (.bool (!qa4 c qfl 0))):=by
 simp [c_38_k6];refine qao c.length (fun i e=>look 1 e=some (.ptr 0 4 0 0)/\look 6 e=some (.int .i64 i)) (fun i=>some (Rt.val (.bool (!qa4 c qfl i)))) ?_ ?_ 0 _ (Qc _) ?_
 ·rintro i e L hi hL ⟨h1,h6⟩ ih;have hw:=qah i (by omega);cases hb:qfl c[i] with
  | true=>
   rw [qfd hi hb];unfold qfl at hb;simp at hb;simp [c_38_l4,cS,hi,h1,h6,hb]
  | false=>
   rw [qdg hi hb];unfold qfl at hb;have hb':¬80<c[i].length:=by simpa using hb
   simp [c_38_l4,cS,hi,h1,h6,hb',hw];exact ih _ ⟨by simp [h1],by simp⟩
 ·rintro e L hL ⟨h1,h6⟩;rw [qfc];simp [c_38_l4,c_38_k5, *]
 ·simp [h1]
theorem qnc (R N:List (List AV)) (d:List ActionCall) (c:List (List Int)) (hd:d.length<=16) (hc:c.length<=8) (e:Env) (h1:look 1 e=some (.ptr 0 4 0 0)):
  go Φ (finP [.tmp 2]) [.c c_38_k7] .normal ⟨e,⟨[(0,.row 4 [[.slice 1 R,.slice 1 N,.slice 2 (d.map ActionCall.c),.slice 1 (c.map (cS 1 c32))]])],1⟩⟩=some (Rt.val (.bool (!qa4 d qhj 0&& !qa4 c qfl 0))):=by
 simp [c_38_k7];refine qao d.length (fun i e=>look 1 e=some (.ptr 0 4 0 0)/\look 5 e=some (.int .i64 i)) (fun i=>some (Rt.val (.bool (!qa4 d qhj i&& !qa4 c qfl 0)))) ?_ ?_ 0 _ (Qc _) ?_
 ·rintro i e L hi hL ⟨h1,h6⟩ ih;have hw:=qah i (by omega);cases hb:qhj d[i] with
  | true=>
   rw [qfd hi hb];unfold qhj at hb;simp at hb;simp [c_38_l3,ActionCall.ce,hi,h1,h6,hb]
  | false=>
   rw [qdg hi hb];unfold qhj at hb;have hb':¬10<d[i].args.length:=by simpa using hb
   simp [c_38_l3,ActionCall.ce,hi,h1,h6,hb',hw];exact ih _ ⟨by simp [h1],by simp⟩
 ·rintro e L hL ⟨h1,h6⟩;rw [qfc];simp [c_38_l3,h1,h6,hL];have:=qnd R N (d.map ActionCall.c) c hc;refine (this _ ?_).trans (by simp);simp [h1]
 ·simp [h1]
theorem qxr (r:Rw):qab Φ f_97 [.agg [.slice 2 (r.entry.keys.map KeyMatch.c),.int .i64 r.entry.priority,.int .i64 r.entry.call.action,.slice 1 (r.entry.call.args.map c32)]]=some (.val (.bool (!qlg r))):=by
 have:=qn1 r.entry;simp only [Entry.c] at this;simpa [qlg] using this
theorem qpe (c:Config):qab Φ f_38 [.agg (Config.c c)]=some (.val (.bool (qhv c))):=by
 rw [qaa (fn:=c_38) rfl rfl];by_cases q1:c.rows.length<=16
 rotate_left
 ·simp [c_38,Config.c,qhv,q1,Nat.lt_of_not_le q1]
 by_cases q2:c.nextID.length<=16
 rotate_left
 ·simp [c_38,Config.c,qhv,q1,q2,Nat.lt_of_not_le q2,Nat.not_lt.2 q1]
 by_cases q3:c.defaults.length<=16
 rotate_left
 ·simp [c_38,Config.c,qhv,q1,q2,q3,Nat.lt_of_not_le q3,Nat.not_lt.2 q1,Nat.not_lt.2 q2]
 by_cases q4:c.registers.length<=8
 rotate_left
 ·simp [c_38,Config.c,qhv,q1,q2,q3,q4,Nat.lt_of_not_le q4,Nat.not_lt.2 q1,Nat.not_lt.2 q2,Nat.not_lt.2 q3]
 simp [c_38,Config.c,qhv,q1,q2,q3,q4,Nat.not_lt.2 q1,Nat.not_lt.2 q2,Nat.not_lt.2 q3,Nat.not_lt.2 q4];refine qao c.rows.length (fun i e=>look 1 e=some (.ptr 0 4 0 0)/\look 3 e=some (.int .i64 i)) (fun i=>some (Rt.val (.bool (!qa4 c.rows qf2 i&&(!qa4 c.defaults qhj 0&& !qa4 c.registers qfl 0))))) ?_ ?_ 0 _ (Qc _) ?_|>.trans ?_
 ·rintro i e L hi hL ⟨h1,h6⟩ ih;have hw:=qah i (by omega);by_cases q:40<c.rows[i].length
  ·rw [qfd hi (show qf2 c.rows[i]=true by simp [qf2,q])];simp [c_38_l2,cSe,hi,h1,h6,q]
  simp [c_38_l2,cSe,hi,h1,h6,q];refine (qao c.rows[i].length (fun k e=>look 1 e=some (.ptr 0 4 0 0)/\look 3 e=some (.int .i64 i)/\look 4 e=some (.int .i64 k)) (fun k=>some (Rt.val (.bool (if qa4 c.rows[i] qlg k then false else (!qa4 c.rows qf2 (i+1)&&(!qa4 c.defaults qhj 0&& !qa4 c.registers qfl 0)))))) ?_ ?_ 0 _ (Qc _) ?_).trans ?_
  ·rintro k e L' hk hL' ⟨h1,h3,h4⟩ ih';have hw:=qah k (by omega);have hsm:=qxr c.rows[i][k];cases hb:qlg c.rows[i][k] with
   | true=>
    rw [qfd hk hb];rw [hb] at hsm;simp [c_38_l0,cSe,Rw.ce,hi,hk,h1,h3,h4,hsm]
   | false=>
    rw [qdg hk hb];rw [hb] at hsm;simp [c_38_l0,cSe,Rw.ce,hi,hk,h1,h3,h4,hsm,hw];refine (ih' _ ⟨by simp [h1],by simp [h3],by simp⟩).trans (by simp)
  ·rintro e L' hL' ⟨h1,h3,h4⟩;rw [qfc];simp [c_38_l0,c_38_k1,cSe,hi,hL',h1,h3,h4,hw];refine (ih _ ⟨by simp [h1],by simp⟩).trans (by simp)
  ·simp [h1,h6]
  ·cases hb:qf2 c.rows[i] with
   | true=>
    rw [qfd hi hb];simp [qf2,q] at hb;simp [hb]
   | false=>
    rw [qdg hi hb];simp [qf2,q] at hb;simp [hb]
 ·rintro e L hL ⟨h1,h6⟩;rw [qfc];simp [c_38_l2,h1,h6,hL];have:=qnc (c.rows.map (cS 5 Rw.c)) (c.nextID.map cI) c.defaults c.registers q3 q4;refine (this _ ?_).trans (by simp);simp [h1]
 ·simp
 ·simp [Bool.and_assoc]
theorem Fld.ce' (x:Fld):Fld.c x=[.str x.name,.int .i64 x.width]:=by simp [Fld.c]
theorem qjh (l:List Fld):IsB (qab Φ f_183 [.slice 2 (l.map Fld.c)]):=by
 rw [qaa (fn:=c_183) rfl rfl];by_cases q:16<l.length
 ·simp [c_183,q]
 simp [c_183,q];refine qg1 l.length (fun i e=>look 0 e=some (.slice 2 (l.map Fld.c))/\look 3 e=some (.int .i64 i)) IsB ?_ ?_ 0 _ (Qc _) ?_
 ·rintro i e L hi hL ⟨h0,h3⟩ ih;have hw:=qah i (by omega);by_cases z:40<l[i].name.length
  ·simp [c_183_l0,Fld.ce',h0,h3,hi,z]
  simp [c_183_l0,Fld.ce',h0,h3,hi,z,hw];exact ih _ ⟨by simp [h0],by simp⟩
 ·rintro e L hL ⟨h0,h3⟩;simp [c_183_l0,c_183_k1,h0,h3,hL]
 ·simp
theorem qyg (a:Action):IsB (qab Φ f_184 [.agg (Action.c a)]):=by
 rw [qaa (fn:=c_184) rfl rfl];obtain ⟨b,hb⟩:=qjh a.params;by_cases z0:40<a.name.length
 ·simp [c_184,Action.ce,z0]
 cases b with
 | false=>simp [c_184,Action.ce,z0,hb]
 | true=>
 by_cases z1:16<a.body.length
 ·simp [c_184,Action.ce,z0,hb,z1]
 simp [c_184,Action.ce,z0,hb,z1];refine qg1 a.body.length (fun i e=>look 1 e=some (.iptr 3 [[.str a.name,.slice 2 (a.params.map Fld.c),.slice 7 (a.body.map Statement.c)]] 0 0)/\look 3 e=some (.int .i64 i)) IsB ?_ ?_ 0 _ (Qc _) ?_
 ·rintro i e L hi hL ⟨h1,h3⟩ ih;have hw:=qah i (by omega);by_cases z:40<a.body[i].index.length
  ·simp [c_184_l0,Statement.ce,h1,h3,hi,z]
  by_cases z':40<a.body[i].value.length
  ·simp [c_184_l0,Statement.ce,h1,h3,hi,z,z']
  simp [c_184_l0,Statement.ce,h1,h3,hi,z,z',hw];exact ih _ ⟨by simp [h1],by simp⟩
 ·rintro e L hL ⟨h1,h3⟩;simp [c_184_l0,c_184_k1,h1,h3,hL]
 ·simp
def qco (p:Prg):AV:= .iptr 9 [Prg.c p] 0 0
theorem s17_d (p:Prg) (hs:p.states.length<=16) (e:Env) (n:Nat) (h1:look 1 e=some (qco p)):IsB (go Φ (finP [.tmp 2]) [.c c_95_k6] .normal ⟨e,⟨[],n⟩⟩):=by
 simp [c_95_k6];refine qg1 p.states.length (fun i e=>look 1 e=some (qco p)/\look 8 e=some (.int .i64 i)) IsB ?_ ?_ 0 _ (Qc _) ?_
 ·rintro i e L hi hL ⟨h1,h8⟩ ih;simp only [qco,Prg.ce] at h1;have hw:=qah i (by omega);by_cases z:40<p.states[i].name.length
  ·simp [c_95_l4,ParserState.ce,h1,h8,hi,z]
  by_cases z1:8<p.states[i].extract.length
  ·simp [c_95_l4,ParserState.ce,h1,h8,hi,z,z1]
  by_cases z2:16<p.states[i].cases.length
  ·simp [c_95_l4,ParserState.ce,h1,h8,hi,z,z1,z2]
  simp [c_95_l4,ParserState.ce,h1,h8,hi,z,z1,z2,hw];exact ih _ ⟨by simp [h1,qco,Prg.ce],by simp⟩
 ·rintro e L hL ⟨h1,h8⟩;simp only [qco,Prg.ce] at h1;simp [c_95_l4,c_95_k5,h1,h8,hL]
 ·simp [h1]
theorem s17_c (p:Prg) (ht:p.tables.length<=16) (hs:p.states.length<=16) (e:Env) (n:Nat) (h1:look 1 e=some (qco p)):IsB (go Φ (finP [.tmp 2]) [.c c_95_k7] .normal ⟨e,⟨[],n⟩⟩):=by
 simp [c_95_k7];refine qkq p.tables.length (fun i e h=>∃n,h=⟨[],n⟩/\look 1 e=some (qco p)/\look 6 e=some (.int .i64 i)) IsB ?_ ?_ 0 _ _ (Qc _) ?_
 ·rintro i e _ L hi hL ⟨n,rfl,h1,h8⟩ ih;simp only [qco,Prg.ce] at h1;have hw:=qah i (by omega);by_cases z:40<p.tables[i].name.length
  ·simp [c_95_l3,Tbl.ce,h1,h8,hi,z]
  by_cases z1:10<p.tables[i].keys.length
  ·simp [c_95_l3,Tbl.ce,h1,h8,hi,z,z1]
  by_cases z2:24<p.tables[i].actions.length
  ·simp [c_95_l3,Tbl.ce,h1,h8,hi,z,z1,z2]
  by_cases z3:10<p.tables[i].dflt.args.length
  ·simp [c_95_l3,Tbl.ce,h1,h8,hi,z,z1,z2,z3]
  simp [c_95_l3,Tbl.ce,h1,h8,hi,z,z1,z2,z3,hw];exact ih _ _ ⟨_,rfl,by simp [h1,qco,Prg.ce],by simp⟩
 ·rintro e _ L hL ⟨n,rfl,h1,h8⟩;have h1':=h1;simp only [qco,Prg.ce] at h1;simp [c_95_l3,h1,h8,hL];exact s17_d p hs _ _ (by simp [h1'])
 ·simp [h1]
theorem s17_b (p:Prg) (ha:p.actions.length<=20) (ht:p.tables.length<=16) (hs:p.states.length<=16) (e:Env) (n:Nat) (h1:look 1 e=some (qco p)):IsB (go Φ (finP [.tmp 2]) [.c c_95_k8] .normal ⟨e,⟨[],n⟩⟩):=by
 simp [c_95_k8];refine qg1 p.actions.length (fun i e=>look 1 e=some (qco p)/\look 5 e=some (.int .i64 i)) IsB ?_ ?_ 0 _ (Qc _) ?_
 ·rintro i e L hi hL ⟨h1,h8⟩ ih;simp only [qco,Prg.ce] at h1;have hw:=qah i (by omega);obtain ⟨b,hb⟩:=qyg p.actions[i];simp only [Action.ce] at hb;cases b with
  | false=>simp [c_95_l2,Action.ce,h1,h8,hi,hb]
  | true=>
  simp [c_95_l2,Action.ce,h1,h8,hi,hb,hw];exact ih _ ⟨by simp [h1,qco,Prg.ce],by simp⟩
 ·rintro e L hL ⟨h1,h8⟩;have h1':=h1;simp only [qco,Prg.ce] at h1;simp [c_95_l2,h1,h8,hL];exact s17_c p ht hs _ _ (by simp [h1'])
 ·simp [h1]
theorem s17_a (p:Prg) (hr:p.registers.length<=8) (ha:p.actions.length<=20) (ht:p.tables.length<=16) (hs:p.states.length<=16) (e:Env) (n:Nat) (h1:look 1 e=some (qco p)):IsB (go Φ (finP [.tmp 2]) [.c c_95_k9] .normal ⟨e,⟨[],n⟩⟩):=by
 simp [c_95_k9];refine qg1 p.registers.length (fun i e=>look 1 e=some (qco p)/\look 4 e=some (.int .i64 i)) IsB ?_ ?_ 0 _ (Qc _) ?_
 ·rintro i e L hi hL ⟨h1,h8⟩ ih;simp only [qco,Prg.ce] at h1;have hw:=qah i (by omega);by_cases z:40<p.registers[i].name.length
  ·simp [c_95_l1,Register.ce,h1,h8,hi,z]
  simp [c_95_l1,Register.ce,h1,h8,hi,z,hw];exact ih _ ⟨by simp [h1,qco,Prg.ce],by simp⟩
 ·rintro e L hL ⟨h1,h8⟩;have h1':=h1;simp only [qco,Prg.ce] at h1;simp [c_95_l1,h1,h8,hL];exact s17_b p ha ht hs _ _ (by simp [h1'])
 ·simp [h1]
theorem qai7 (p:Prg):IsB (qab Φ f_95 [.agg (Prg.c p)]):=by
 rw [qaa (fn:=c_95) rfl rfl];obtain ⟨b,hb⟩:=qjh p.metadata;by_cases z0:40<p.name.length
 ·simp [c_95,Prg.ce,z0]
 by_cases z1:12<p.headers.length
 ·simp [c_95,Prg.ce,z0,z1]
 cases b with
 | false=>simp [c_95,Prg.ce,z0,z1,hb]
 | true=>
 by_cases z2:8<p.registers.length
 ·simp [c_95,Prg.ce,z0,z1,hb,z2]
 by_cases z3:20<p.actions.length
 ·simp [c_95,Prg.ce,z0,z1,hb,z2,z3]
 by_cases z4:16<p.tables.length
 ·simp [c_95,Prg.ce,z0,z1,hb,z2,z3,z4]
 by_cases z5:16<p.states.length
 ·simp [c_95,Prg.ce,z0,z1,hb,z2,z3,z4,z5]
 by_cases z6:16<p.deparser.length
 ·simp [c_95,Prg.ce,z0,z1,hb,z2,z3,z4,z5,z6]
 simp [c_95,Prg.ce,z0,z1,hb,z2,z3,z4,z5,z6];refine qg1 p.headers.length (fun i e=>look 1 e=some (qco p)/\look 3 e=some (.int .i64 i)) IsB ?_ ?_ 0 _ (Qc _) ?_
 ·rintro i e L hi hL ⟨h1,h8⟩ ih;simp only [qco,Prg.ce] at h1;have hw:=qah i (by omega);obtain ⟨b,hb⟩:=qjh p.headers[i].fields;by_cases y:40<p.headers[i].name.length
  ·simp [c_95_l0,Header.ce,h1,h8,hi,y]
  cases b with
  | false=>simp [c_95_l0,Header.ce,h1,h8,hi,y,hb]
  | true=>
  simp [c_95_l0,Header.ce,h1,h8,hi,y,hb,hw];exact ih _ ⟨by simp [h1,qco,Prg.ce],by simp⟩
 ·rintro e L hL ⟨h1,h8⟩;have h1':=h1;simp only [qco,Prg.ce] at h1;simp [c_95_l0,h1,h8,hL];exact s17_a p (by omega) (by omega) (by omega) (by omega) _ _ (by simp [h1'])
 ·simp [qco,Prg.ce]
def SizeQ (l:List ControlNode) (lim:Int) (x:Option Rt):Prop:=∃r:Int,x=some (.val (.int .i64 r))/\0<=r/\r<=lim+1/\(r<=lim->((pre l).length:Int)<=r)
theorem qaga:∀(d:Nat) (l:List ControlNode) (lim:Int),d<=12->-1<=lim->lim<=1000->l.length<2^40->(∀x∈l,ControlNode.Ok qa9 x)->SizeQ l lim (qab Φ f_185 [.slice 5 (l.map ControlNode.c),.int .i64 lim,.int .i64 d]):=by
 intro d
 induction d with
 | zero=>
  intro l lim _ h1 h2 hl ho;rw [qaa (fn:=c_185) rfl rfl];have w1:IntKind.wrap .i64 (lim+1)=lim+1:=qay (by omega) (by omega);simp [c_185];rw [qax];by_cases z0:l.length=0
  ·have:l=[]:=Qg z0;subst this;simp [c_185_l0,c_185_k1];exact ⟨0,rfl,by omega,by omega,by simp [pre]⟩
  have hp:0<l.length:=by omega
  by_cases z:0<=lim
  ·obtain ⟨k,t,c,a,b,hx⟩:=qda l[0];by_cases y:40<c.length
   ·simp [c_185_l0,hp,z,hx,ControlNode.e,y,w1];exact ⟨lim+1,rfl,by omega,by omega,by omega⟩
   ·simp [c_185_l0,hp,z,hx,ControlNode.e,y,w1];exact ⟨lim+1,rfl,by omega,by omega,by omega⟩
  ·simp [c_185_l0,c_185_k1,hp,z];exact ⟨0,rfl,by omega,by omega,by omega⟩
 | succ d ihd=>
  intro l lim hd h1 h2 hl ho;rw [qaa (fn:=c_185) rfl rfl];have w1:IntKind.wrap .i64 (lim+1)=lim+1:=qay (by omega) (by omega);simp [c_185];refine qg1 l.length (fun i e=>look 0 e=some (.slice 5 (l.map ControlNode.c))/\look 1 e=some (.int .i64 lim)/\look 2 e=some (.int .i64 ((d:Int)+1))/\look 8 e=some (.int .i64 i)/\∃q:Int,look 7 e=some (.int .i64 q)/\0<=q/\q<=lim+1/\(q<=lim->((pre (l.take i)).length:Int)<=q))
   (SizeQ l lim) ?_ ?_ 0 _ (Qc _) ?_
  ·rintro i e L hi hL ⟨g0,g1,g2,g8,q,g7,q0,q1,q2⟩ ih;have hw:=qah i (by omega);by_cases z:q<=lim
   rotate_left
   ·simp [c_185_l0,c_185_k1,g0,g1,g7,g8,hi,hL,z];exact ⟨q,rfl,q0,q1,fun h=>absurd h z⟩
   obtain ⟨k,t,c,a,b,hx⟩:=qda l[i];have ho':=ho _ (Qd hi);rw [hx] at ho';simp only [ControlNode.Ok] at ho';obtain ⟨_,_,hc,⟨ha1,ha2⟩,hb1,hb2⟩:=ho';rw [ControlNode.oks_eq] at ha2 hb2;rw [qdz] at ha1 hb1;have hdn:¬((d:Int)+1=0):=by omega
   have hsub:IntKind.wrap .i64 (d:Int)=(d:Int):=qay (by omega) (by omega);have wq:IntKind.wrap .i64 (q+1)=q+1:=qay (by omega) (by omega);by_cases y:40<c.length
   ·simp [c_185_l0,g0,g1,g7,g8,hi,z,hx,ControlNode.e,y,w1,wq];exact ⟨lim+1,rfl,by omega,by omega,by omega⟩
   obtain ⟨u,hu,u0,u1,u2⟩:=ihd a (lim - (q+1)) (by omega) (by omega) (by omega) (by omega) ha2;have ws:IntKind.wrap .i64 (lim - (q+1))=lim - (q+1):=qay (by omega) (by omega);have wu:IntKind.wrap .i64 (q+1+u)=q+1+u:=qay (by omega) (by omega);have ht:=congrArg List.length (qit hi);rw [hx,qeu] at ht;simp at ht;have hq:=q2 z;by_cases y2:q+1+u<=lim
   ·obtain ⟨v,hv,v0,v1,v2⟩:=ihd b (lim - (q+1+u)) (by omega) (by omega) (by omega) (by omega) hb2;have wt:IntKind.wrap .i64 (lim - (q+1+u))=lim - (q+1+u):=qay (by omega) (by omega);have wv:IntKind.wrap .i64 (q+1+u+v)=q+1+u+v:=qay (by omega) (by omega);simp [c_185_l0,g0,g1,g2,g7,g8,hi,z,hdn,hx,ControlNode.e,y,hsub,wq,ws,hu,wu,y2,wt,hv,wv,hw];refine ih _ ⟨by simp [g0],by simp [g1],by simp [g2],by simp,q+1+u+v,by simp,by omega,by omega,?_⟩;intro hlt;have:=u2 (by omega);have:=v2 (by omega);rw [ht];simp;omega
   ·simp [c_185_l0,g0,g1,g2,g7,g8,hi,z,hdn,hx,ControlNode.e,y,hsub,wq,ws,hu,wu,y2,hw];refine ih _ ⟨by simp [g0],by simp [g1],by simp [g2],by simp,q+1+u,by simp,by omega,by omega,?_⟩;intro hlt;omega
  ·rintro e L hL ⟨g0,g1,g2,g8,q,g7,q0,q1,q2⟩;simp [c_185_l0,c_185_k1,g0,g7,g8,hL];exact ⟨q,rfl,q0,q1,by simpa using q2⟩
  ·simp [pre];omega
theorem qxq (l:List ControlNode) (hl:l.length<2^40) (ho:∀x∈l,ControlNode.Ok qa9 x):∃b,qab Φ f_96 [.slice 5 (l.map ControlNode.c),.int .i64 40]=some (.val (.bool b))/\(b=true->(pre l).length<=40):=by
 obtain ⟨r,hr,r0,r1,r2⟩:=qaga 12 l 40 (by omega) (by omega) (by omega) hl ho;rw [show ((12:Nat):Int)=12 from rfl] at hr;rw [qaa (fn:=c_96) rfl rfl];simp [c_96,hr];intro h;have:=r2 h;omega
theorem qaab (p:Prg) (c:Config) (op:p.Ok qa9):∃b,qab Φ f_37 [.agg (Prg.c p),.agg (Config.c c)]=some (.val (.bool b))/\(b=true->(pre p.control).length<=40/\qhv c=true):=by
 have f:=qadh op;obtain ⟨b1,h1⟩:=qai7 p;obtain ⟨b2,h2,k2⟩:=qxq p.control f.c f.co;have h3:=qpe c;rw [qaa (fn:=c_37) rfl rfl];simp only [Prg.e,Config.ce] at h1 h3;cases b1<;>cases b2<;>cases h:qhv c<;>rw [h] at h3<;>simp [c_37,Prg.e,Config.ce,h1,h2,h3];exact k2 rfl
theorem qaaw {p:Prg} {c:Config} {l:List TableOp} (h:badA p c l=none):l.length<=64:=by
 unfold badA at h;by_cases z:cfgE p c=0
 case neg=>simp [z] at h
 by_cases z2:64<l.length
 ·simp [z,z2] at h
 ·omega
def noE:Entry:=⟨[],0,⟨0,[]⟩⟩
def etyF (l:List Rw) (id:Int):Entry:=match l.find? fun r=>decide (r.id=id) with
 | some r=>r.entry
 | none=>noE
theorem qabc {l:List Rw} {i:Nat} (hi:i<l.length) {id:Int} (h:l[i].id=id):etyF (l.drop i) id=l[i].entry:=by
 unfold etyF;rw [Qi hi,List.find?_cons];simp only [h,decide_true]
theorem qyx {l:List Rw} {i:Nat} (hi:i<l.length) {id:Int} (h:¬l[i].id=id):etyF (l.drop i) id=etyF (l.drop (i+1)) id:=by
 unfold etyF;rw [Qi hi,List.find?_cons];simp only [h,decide_false]
theorem qvf {c:Config} (s:CfgT c) {t:Nat} (ht:t<c.rows.length) (id:Int):qab Φ f_120 [.agg (Config.c c),.int .i64 t,.int .i64 id]=some (.val (.agg (Entry.c (etyF c.rows[t] id)))):=by
 rw [qaa (fn:=c_120) rfl rfl];have hlen:=(s.rs c.rows[t] (Qd ht)).1;generalize hR:etyF c.rows[t] id=R;simp [c_120,Config.ce,cSe,ht];have e0:etyF (c.rows[t].drop 0) id=R:=by rw [List.drop_zero];exact hR
 refine qao c.rows[t].length (fun i e=>etyF (c.rows[t].drop i) id=R/\look 2 e=some (.int .i64 id)/\look 6 e=some (.ptr 0 4 0 0)/\look 7 e=some (.slice 5 (c.rows[t].map Rw.c))/\look 8 e=some (.int .i64 i)) (fun _=>some (Rt.val (.agg (Entry.c R)))) ?_ ?_ 0 _ (Qc _) ?_
 ·rintro i e L hi hL ⟨he,h2,h6,h7,h8⟩ ih;have hw:=qah i (by omega);by_cases z:c.rows[t][i].id=id
  ·rw [qabc hi z] at he;rw [<- he];simp [c_120_l0,Rw.ce,Entry.ce,h2,h6,h7,h8,hi,z]
  ·rw [qyx hi z] at he;simp [c_120_l0,Rw.ce,h2,h7,h8,hi,z,hw];exact ih _ ⟨he,by simp [h2],by simp [h6],by simp [h7],by simp⟩
 ·rintro e L hL ⟨he,h2,h6,h7,h8⟩;rw [show etyF (c.rows[t].drop c.rows[t].length) id=noE by simp [etyF]] at he;rw [<- he];simp [c_120_l0,c_120_k1,h6,h7,h8,hL,Entry.ce,noE]
 ·exact ⟨e0,by simp,by simp,by simp,by simp⟩
structure Ren where
 t:Int
 old:Int
 new:Int
def Ren.c (x:Ren):List AV:=[.int .i64 x.t,.int .i64 x.old,.int .i64 x.new]
def curF (l:List Ren) (t id:Int):Int:=match l.reverse.find? fun r=>decide (r.t=t)&&decide (r.old=id) with
 | some r=>r.new
 | none=>id
theorem qst (l:List Ren) (x:Ren) (t id:Int):curF (l++[x]) t id=if x.t=t/\x.old=id then x.new else curF l t id:=by
 unfold curF;rw [List.reverse_append,List.reverse_singleton,List.singleton_append,List.find?_cons];by_cases z:x.t=t<;>by_cases y:x.old=id<;>simp [z,y]
theorem qvd (l:List Ren) (hl:l.length<2^40) (t id:Int):qab Φ f_119 [.slice 3 (l.map Ren.c),.int .i64 t,.int .i64 id]=some (.val (.int .i64 (curF l t id))):=by
 rw [qaa (fn:=c_119) rfl rfl];generalize hR:curF l t id=R;have w0:IntKind.wrap .i64 ((l.length:Int) - 1)=(l.length:Int) - 1:=qay (by omega) (by omega);simp [c_119,w0];refine qao l.length (fun i e=>curF (l.take (l.length - i)) t id=R/\look 0 e=some (.slice 3 (l.map Ren.c))/\look 1 e=some (.int .i64 t)/\look 2 e=some (.int .i64 id)/\look 7 e=some (.int .i64 ((l.length:Int) - 1 - i))) (fun _=>some (Rt.val (.int .i64 R))) ?_ ?_ 0 _ (Qc _) ?_
 ·rintro i e L hi hL ⟨he,h0,h1,h2,h7⟩ ih;obtain ⟨k,hk⟩:∃k,l.length=i+1+k:=⟨l.length - (i+1),by omega⟩;have hkl:k<l.length:=by omega
  have e1:(l.length:Int) - 1 - i=(k:Int):=by omega
  have e2:l.length - i=k+1:=by omega
  have e3:l.length - (i+1)=k:=by omega
  have hw:IntKind.wrap .i64 ((k:Int) - 1)=(l.length:Int) - 1 - ((i+1:Nat):Int):=by rw [qay (by omega) (by omega)];omega
  rw [e1] at h7;rw [e2,Qh hkl,qst] at he;by_cases z:l[k].t=t
  ·by_cases y:l[k].old=id
   ·have:R=l[k].new:=by rw [<- he,if_pos ⟨z,y⟩]
    rw [this];simp [c_119_l0,Ren.c,h0,h1,h2,h7,hkl,z,y]
   ·have he':curF (l.take k) t id=R:=by rw [<- he,if_neg (fun h=>y h.2)]
    simp [c_119_l0,Ren.c,h0,h1,h2,h7,hkl,z,y,hw];exact ih _ ⟨by rw [e3];exact he',by simp [h0],by simp [h1],by simp [h2],by simp⟩
  ·have he':curF (l.take k) t id=R:=by rw [<- he,if_neg (fun h=>z h.1)]
   simp [c_119_l0,Ren.c,h0,h1,h7,hkl,z,hw];exact ih _ ⟨by rw [e3];exact he',by simp [h0],by simp [h1],by simp [h2],by simp⟩
 ·rintro e L hL ⟨he,h0,h1,h2,h7⟩;have e1:(l.length:Int) - 1 - l.length= -1:=by omega
  rw [e1] at h7;have:R=id:=by rw [<- he];simp [curF]
  rw [this];simp [c_119_l0,c_119_k1,h2,h7,hL]
 ·simp [hR]
theorem TableOp.eq_iff (x y:TableOp):x=y↔x.kind=y.kind/\x.table=y.table/\x.id=y.id/\x.entry=y.entry/\x.call=y.call:=by
 cases x;cases y;simp
theorem qtq (l m:List TableOp) (hl:l.length<2^40) (ho:∀o∈l,OpS o):qab Φ f_42 [.slice 9 (l.map TableOp.c),.slice 9 (m.map TableOp.c)]=some (.val (.bool (decide (l=m)))):=by
 rw [qaa (fn:=c_42) rfl rfl];by_cases q:l.length=m.length
 rotate_left
 ·have:l≠m:=fun h=>q (congrArg List.length h)
  simp [c_42,q,this]
 generalize hR:decide (l=m)=R;simp [c_42,q];refine qcz l.length (fun i e h=>(∃O N,h=⟨O,N⟩/\Tail O N)/\l.take i=m.take i/\look 0 e=some (.slice 9 (l.map TableOp.c))/\look 1 e=some (.slice 9 (m.map TableOp.c))/\look 5 e=some (.int .i64 i)) (fun _=>some (Rt.val (.bool R))) ?_ ?_ 0 _ _ (Qc _) ?_
 ·rintro i e _ L hi hL ⟨⟨O,N,rfl,hT⟩,he,h0,h1,h5⟩ ih;have hj:i<m.length:=by omega
  have hw:=qah i (by omega);have oi:=ho _ (Qd hi);have k1:=qq6 l[i].entry m[i].entry ⟨oi.e.kl,oi.e.al⟩;have k2:=qzu l[i].call m[i].call oi.c.al;simp only [Entry.ce] at k1;simp only [ActionCall.ce] at k2;have t0:∀k,look (N+k) O=none:=fun k=>hT (N+k) (by omega)
  have t1:=hT N (Qb _);have b1:(N+1 == N)=false:=by simp
  have b2:(N == N+1)=false:=by simp
  have l6:∀x y:List AV,look (N+6) (O++[(N+6,AO.row 9 [x]),(N+7,AO.row 9 [y])])=some (.row 9 [x]):=fun x y=>by simp [t0]
  have l7:∀x y:List AV,look (N+7) (O++[(N+6,AO.row 9 [x]),(N+7,AO.row 9 [y])])=some (.row 9 [y]):=fun x y=>by simp [t0]
  have s6:∀x y:List AV,look (N+6) (qa1 (O++[(N+6,AO.row 9 [x]),(N+7,AO.row 9 [y])]))=some (.row 9 [x]):=fun x y=>by rw [qa0 (by rw [l6];simp),l6]
  have s7:∀x y:List AV,look (N+7) (qa1 (O++[(N+6,AO.row 9 [x]),(N+7,AO.row 9 [y])]))=some (.row 9 [y]):=fun x y=>by rw [qa0 (by rw [l7];simp),l7]
  by_cases z:l[i]=m[i]
  ·obtain ⟨y1,y2,y3,y4,y5⟩:=(TableOp.eq_iff _ _).1 z;have he':l.take (i+1)=m.take (i+1):=by
    rw [Qh hi,Qh hj,he,z]
   rw [decide_eq_true y4] at k1;rw [decide_eq_true y5] at k2;simp [c_42_l0,TableOp.ce2,h0,h1,h5,hi,hj,t0,k1,k2,y1,y2,y3,b1,b2,s6,s7,hw];refine ih _ _ ⟨⟨_,_,rfl,?_⟩,he',by simp [h0],by simp [h1],by simp⟩;refine qcx fun j hj=>?_
   rw [qaf,hT j (by omega)];have hj':N+8<=j:=by first | exact hj | (simp at hj;omega)
   have n6:¬N+6=j:=by omega
   have n7:¬N+7=j:=by omega
   simp [look,n6,n7]
  ·have hf:R=false:=by
    rw [<- hR];simp only [decide_eq_false_iff_not];intro e;subst e;exact z rfl
   rw [hf];rw [TableOp.eq_iff] at z;by_cases y1:l[i].kind=m[i].kind
   rotate_left
   ·simp [c_42_l0,TableOp.ce2,h0,h1,h5,hi,hj,t0,y1,b1,b2,s6,s7]
   by_cases y2:l[i].table=m[i].table
   rotate_left
   ·simp [c_42_l0,TableOp.ce2,h0,h1,h5,hi,hj,t0,y1,y2,b1,b2,s6,s7]
   by_cases y3:l[i].id=m[i].id
   rotate_left
   ·simp [c_42_l0,TableOp.ce2,h0,h1,h5,hi,hj,t0,y1,y2,y3,b1,b2,s6,s7]
   by_cases y4:l[i].entry=m[i].entry
   rotate_left
   ·rw [decide_eq_false y4] at k1;simp [c_42_l0,TableOp.ce2,h0,h1,h5,hi,hj,t0,y1,y2,y3,k1,b1,b2,s6,s7]
   have y5:¬l[i].call=m[i].call:=fun h=>z ⟨y1,y2,y3,y4,h⟩
   rw [decide_eq_true y4] at k1;rw [decide_eq_false y5] at k2;simp [c_42_l0,TableOp.ce2,h0,h1,h5,hi,hj,t0,y1,y2,y3,k1,k2,b1,b2,s6,s7]
 ·rintro e _ L hL ⟨⟨O,N,rfl,hT⟩,he,h0,h1,h5⟩;have hf:R=true:=by
   rw [<- hR];simp only [decide_eq_true_eq];rw [List.take_length,q,List.take_length] at he;exact he
  rw [hf];simp [c_42_l0,c_42_k1,h0,h5,hL,q]
 ·exact ⟨⟨[],0,rfl,Tail.nil 0⟩,by simp,by simp,by simp,by simp⟩
def enR (l:List Rw):List Entry:=l.map Rw.entry
@[simp] theorem qn8 (l:List Rw):(enR l).length=l.length:=by simp [enR]
theorem qf7 (l:List Rw) (i:Nat) (h:i<l.length) (h':i<(enR l).length):(enR l)[i]=l[i].entry:=by simp [enR]
theorem qsz (a b:List Rw) (ha:a.length<2^40) (hs:∀r∈a,r.entry.sm):qab Φ f_191 [.slice 5 (a.map Rw.c),.slice 5 (b.map Rw.c)]=some (.val (.bool (decide (enR a=enR b)))):=by
 rw [qaa (fn:=c_191) rfl rfl];by_cases q:a.length=b.length
 rotate_left
 ·have:enR a≠enR b:=fun h=>q (by simpa using congrArg List.length h)
  simp [c_191,q,this]
 simp [c_191,q];refine (qcz a.length (fun i e h=>look 1 e=some (.slice 5 (b.map Rw.c))/\look 12 e=some (.slice 5 (a.map Rw.c))/\look 13 e=some (.int .i64 a.length)/\look 14 e=some (.int .i64 i)/\∃objs N,Tail objs N/\h=⟨objs,N⟩) (fun i=>some (Rt.val (.bool (qbb (enR a) (enR b) i)))) ?_ ?_ 0 _ _ (Qc _) ?_).trans (by simp [qbb])
 ·rintro i e _ L hi hL ⟨h1,h12,h13,h14,objs,N,hN,rfl⟩ ih;have hi2:i<b.length:=by omega
  have hw:=qah i (by omega);have hNN:=hN N (Qb _);have hee:=qqp a[i].entry b[i].entry (hs _ (Qd hi));by_cases c:a[i].entry=b[i].entry
  ·rw [decide_eq_true c] at hee;simp only [Entry.ce] at hee;rw [qce (by simpa using hi) (by simpa using hi2) (by rw [qf7 _ _ hi,qf7 _ _ hi2];exact c)];simp [c_191_l0,Rw.ce,hi,hi2,h1,h12,h13,h14,hNN,hee,hw];exact ih _ _ ⟨by simp [h1],by simp [h12],by simp [h13],by simp,_,_,hN.app _,rfl⟩
  ·rw [decide_eq_false c] at hee;simp only [Entry.ce] at hee;rw [qbv (by simpa using hi) (by simpa using hi2) (by rw [qf7 _ _ hi,qf7 _ _ hi2];exact c)];simp [c_191_l0,Rw.ce,hi,hi2,h1,h12,h13,h14,hNN,hee]
 ·rintro e _ L hL ⟨h1,h12,h13,h14,objs,N,hN,rfl⟩;have:=qcd (l:=enR a) (m:=enR b) (by simpa using q);rw [qn8] at this;rw [this];simp [c_191_l0,c_191_k1, *]
 ·simp [q];exact Tail.nil 0
theorem qrx (a b:List Rw) (ha:a.length<2^40) (hs:∀r∈a,r.entry.sm):qab Φ f_110 [.slice 5 (a.map Rw.c),.slice 5 (b.map Rw.c)]=some (.val (.bool (decide (enR a=enR b)))):=by
 rw [qaa (fn:=c_110) rfl rfl];by_cases q:a.length=b.length
 rotate_left
 ·have:enR a≠enR b:=fun h=>q (by simpa using congrArg List.length h)
  simp [c_110,q,this]
 simp [c_110,q];refine (qao a.length (fun i e=>look 0 e=some (.slice 5 (a.map Rw.c))/\look 1 e=some (.slice 5 (b.map Rw.c))/\look 5 e=some (.int .i64 i)) (fun i=>some (Rt.val (.bool (qbb (enR a) (enR b) i)))) ?_ ?_ 0 _ (Qc _) ?_).trans (by simp [qbb])
 ·rintro i e L hi hL ⟨h0,h1,h5⟩ ih;have hi2:i<b.length:=by omega
  have hw:=qah i (by omega);have hee:=qq6 a[i].entry b[i].entry (hs _ (Qd hi));by_cases c:a[i].entry=b[i].entry
  ·rw [decide_eq_true c] at hee;simp only [Entry.ce] at hee;rw [qce (by simpa using hi) (by simpa using hi2) (by rw [qf7 _ _ hi,qf7 _ _ hi2];exact c)];simp [c_110_l0,Rw.ce,hi,hi2,h0,h1,h5,hee,hw];exact ih _ ⟨by simp [h0],by simp [h1],by simp⟩
  ·rw [decide_eq_false c] at hee;simp only [Entry.ce] at hee;rw [qbv (by simpa using hi) (by simpa using hi2) (by rw [qf7 _ _ hi,qf7 _ _ hi2];exact c)];simp [c_110_l0,Rw.ce,hi,hi2,h0,h1,h5,hee]
 ·rintro e L hL ⟨h0,h1,h5⟩;have:=qcd (l:=enR a) (m:=enR b) (by simpa using q);rw [qn8] at this;rw [this];simp [c_110_l0,c_110_k1, *]
 ·simp
theorem qru (x y:ActionCall) (h:x.args.length<2^40):qab Φ f_192 [.agg (ActionCall.c x),.agg (ActionCall.c y)]=some (.val (.bool (decide (x=y)))):=by
 rw [qaa (fn:=c_192) rfl rfl];have hee:=qqp ⟨[],0,x⟩ ⟨[],0,y⟩ ⟨by simp,h⟩;have e:decide ((⟨[],0,x⟩:Entry)=⟨[],0,y⟩)=decide (x=y):=by simp
 rw [e] at hee;simp only [Entry.ce,List.map_nil] at hee;simp [c_192,ActionCall.ce,hee]
theorem qp3 (x y:ActionCall) (h:x.args.length<2^40):qab Φ f_72 [.agg (ActionCall.c x),.agg (ActionCall.c y)]=some (.val (.bool (decide (x=y)))):=by
 rw [decide_eq_decide.2 (ActionCall.eq_iff x y)];exact qh0 x.action y.action x.args y.args h
theorem qaba (l m:List Int) (hb:l.length<2^40):qab Φ f_111 [.slice 1 (l.map c32),.slice 1 (m.map c32)]=some (.val (.bool (decide (l=m)))):=by
 rw [qaa (fn:=c_111) rfl rfl];by_cases q1:l.length=m.length
 rotate_left
 ·have:l≠m:=fun h=>q1 (by rw [h])
  simp [c_111,q1,this]
 simp [c_111,q1];refine (qao l.length (fun i e=>look 0 e=some (.slice 1 (l.map c32))/\look 1 e=some (.slice 1 (m.map c32))/\look 5 e=some (.int .i64 i))
  (fun i=>some (Rt.val (AV.bool (qbb l m i)))) ?_ ?_ 0 _ (Qc _) ?_).trans (by simp [qbb])
 ·rintro i e L hi hL ⟨h0,h1,h5⟩ ih;have hi2:i<m.length:=by omega
  have hw:=qah i (by omega);have c3:∀x,c32 x=[.int .u32 x]:=fun x=>by simp [c32]
  by_cases c:l[i]=m[i]
  ·rw [qce hi hi2 c];simp [c_111_l0,c3,hi,hi2,h0,h1,h5,hw,c];exact ih _ ⟨by simp [h0],by simp [h1],by simp⟩
  ·rw [qbv hi hi2 c];simp [c_111_l0,c3,hi,hi2,h0,h1,h5,c]
 ·rintro e L hL ⟨h0,h1,h5⟩;rw [qcd q1];simp [c_111_l0,c_111_k1, *]
 ·simp
theorem qsy (l m:List (List Int)) (hb:l.length<2^40) (hs:∀x∈l,x.length<2^40):qab Φ f_193 [.slice 1 (l.map (cS 1 c32)),.slice 1 (m.map (cS 1 c32))]=some (.val (.bool (decide (l=m)))):=by
 rw [qaa (fn:=c_193) rfl rfl];by_cases q1:l.length=m.length
 rotate_left
 ·have:l≠m:=fun h=>q1 (by rw [h])
  simp [c_193,q1,this]
 simp [c_193,q1];refine (qao l.length (fun i e=>look 1 e=some (.slice 1 (m.map (cS 1 c32)))/\look 14 e=some (.slice 1 (l.map (cS 1 c32)))/\look 15 e=some (.int .i64 l.length)/\look 16 e=some (.int .i64 i))
  (fun i=>some (Rt.val (AV.bool (qbb l m i)))) ?_ ?_ 0 _ (Qc _) ?_).trans (by simp [qbb])
 ·rintro i e L hi hL ⟨h1,h14,h15,h16⟩ ih;have hi2:i<m.length:=by omega
  have hw:=qah i (by omega);have c3:∀x,c32 x=[.int .u32 x]:=fun x=>by simp [c32]
  have hsi:=hs _ (Qd hi);by_cases q:l[i].length=m[i].length
  rotate_left
  ·rw [qbv hi hi2 (fun h=>q (by rw [h]))];simp [c_193_l2,cSe,hi,hi2,h1,h14,h15,h16,q]
  simp [c_193_l2,cSe,hi,hi2,h1,h14,h15,h16,q];refine (qao l[i].length (fun k e=>look 1 e=some (.slice 1 (m.map (cS 1 c32)))/\look 5 e=some (.int .i64 i)/\look 14 e=some (.slice 1 (l.map (cS 1 c32)))/\look 15 e=some (.int .i64 l.length)/\look 16 e=some (.int .i64 i)/\
    look 29 e=some (.slice 1 (l[i].map c32))/\look 30 e=some (.int .i64 l[i].length)/\look 31 e=some (.int .i64 k)) (fun k=>some (Rt.val (AV.bool (if qbb l[i] m[i] k then qbb l m (i+1) else false)))) ?_ ?_ 0 _ (Qc _) ?_).trans ?_
  ·rintro k e L' hk hL' ⟨h1,h5,h14,h15,h16,h29,h30,h31⟩ ih';have hk2:k<m[i].length:=by omega
   have hw:=qah k (by omega);by_cases c:l[i][k]=m[i][k]
   ·rw [qce hk hk2 c];simp [c_193_l0,c3,cSe,hi2,hk,hk2,h1,h5,h29,h30,h31,c,hw];refine (ih' _ ⟨by simp [h1],by simp [h5],by simp [h14],by simp [h15],by simp [h16],by simp [h29],by simp [h30],by simp⟩).trans (by simp)
   ·rw [qbv hk hk2 c];simp [c_193_l0,c3,cSe,hi2,hk,hk2,h1,h5,h29,h30,h31,c]
  ·rintro e L' hL' ⟨h1,h5,h14,h15,h16,h29,h30,h31⟩;rw [qcd q];simp [c_193_l0,c_193_k1,hL',h16,h30,h31,hw];exact ih _ ⟨by simp [h1],by simp [h14],by simp [h15],by simp⟩
  ·simp [*]
  ·by_cases c:l[i]=m[i]
   ·rw [qce hi hi2 c];simp [qm0,c]
   ·rw [qbv hi hi2 c];simp [qm0,c]
 ·rintro e L hL ⟨h1,h14,h15,h16⟩;rw [qcd q1];simp [c_193_l2,c_193_k3, *]
 ·simp [q1]
def enRR (l:List (List Rw)):List (List Entry):=l.map enR
@[simp] theorem qmy (l:List (List Rw)):(enRR l).length=l.length:=by simp [enRR]
theorem qe7 (l:List (List Rw)) (i:Nat) (h:i<l.length) (h':i<(enRR l).length):(enRR l)[i]=enR l[i]:=by simp [enRR]
structure CfgF (c:Config):Prop where
 rl:c.rows.length<2^40
 rs:∀l∈c.rows,l.length<2^40/\∀r∈l,r.entry.sm
 dl:c.defaults.length<2^40
 ds:∀x∈c.defaults,x.args.length<2^40
 gl:c.registers.length<2^40
 gs:∀x∈c.registers,x.length<2^40
theorem qvn {c:Config} (s:CfgT c):CfgF c:=
 ⟨s.rl,fun l hl=>⟨(s.rs l hl).1,fun r hr=>⟨((s.rs l hl).2 r hr).kl,((s.rs l hl).2 r hr).al⟩⟩,s.dl,fun d hd=>(s.ds d hd).1,s.gl,fun l hl=>(s.gs l hl).1⟩
def qfv (a b:Config):Bool:=decide (enRR a.rows=enRR b.rows)&&(decide (a.defaults=b.defaults)&&decide (a.registers=b.registers))
theorem qrk (a b:Config) (f:CfgF a):qab Φ f_115 [.agg (Config.c a),.agg (Config.c b)]=some (.val (.bool (qfv a b))):=by
 rw [qaa (fn:=c_115) rfl rfl];by_cases q1:a.rows.length=b.rows.length
 rotate_left
 ·have:enRR a.rows≠enRR b.rows:=fun h=>q1 (by simpa using congrArg List.length h)
  simp [c_115,Config.ce,qfv,q1,this]
 by_cases q2:a.defaults.length=b.defaults.length
 rotate_left
 ·have:a.defaults≠b.defaults:=fun h=>q2 (by rw [h])
  simp [c_115,Config.ce,qfv,q1,q2,this]
 simp [c_115,Config.ce,qfv,q1,q2];refine (qao a.rows.length (fun i e=>look 2 e=some (.ptr 0 4 0 0)/\look 3 e=some (.ptr 1 4 0 0)/\look 26 e=some (.slice 1 (a.rows.map (cS 5 Rw.c)))/\look 27 e=some (.int .i64 a.rows.length)/\look 28 e=some (.int .i64 i))
  (fun i=>some (Rt.val (AV.bool (qbb (enRR a.rows) (enRR b.rows) i&&(decide (a.defaults=b.defaults)&&decide (a.registers=b.registers)))))) ?_ ?_ 0 _ (Qc _) ?_).trans (by simp [qbb])
 ·rintro i e L hi hL ⟨h2,h3,h26,h27,h28⟩ ih;have hi2:i<b.rows.length:=by omega
  have hw:IntKind.wrap .i64 ((i:Int)+1)=((i+1:Nat):Int):=qay (by omega) (by have:=f.rl;omega);obtain ⟨u1,u2⟩:=f.rs _ (Qd hi);have hee:=qsz a.rows[i] b.rows[i] u1 u2;by_cases c:enR a.rows[i]=enR b.rows[i]
  ·rw [decide_eq_true c] at hee;rw [qce (by simpa using hi) (by simpa using hi2) (by rw [qe7 _ _ hi,qe7 _ _ hi2];exact c)];simp [c_115_l0,cSe,hi,hi2,h3,h26,h27,h28,hee,hw];refine (ih _ ⟨by simp [h2],by simp [h3],by simp [h26],by simp [h27],by simp⟩).trans (by simp)
  ·rw [decide_eq_false c] at hee;rw [qbv (by simpa using hi) (by simpa using hi2) (by rw [qe7 _ _ hi,qe7 _ _ hi2];exact c)];simp [c_115_l0,cSe,hi,hi2,h3,h26,h27,h28,hee]
 ·rintro e L hL ⟨h2,h3,h26,h27,h28⟩;have:=qcd (l:=enRR a.rows) (m:=enRR b.rows) (by simpa using q1);rw [qmy] at this;rw [this];simp [c_115_l0,c_115_k3,h2,h27,h28,hL];refine (qcz a.defaults.length (fun i e h=>look 2 e=some (.ptr 0 4 0 0)/\look 3 e=some (.ptr 1 4 0 0)/\look 43 e=some (.slice 2 (a.defaults.map ActionCall.c))/\look 44 e=some (.int .i64 a.defaults.length)/\look 45 e=some (.int .i64 i)/\
   ∃objs N,Tail objs N/\2<=N/\h=⟨(0,AO.row 4 [Config.c a])::(1,AO.row 4 [Config.c b])::objs,N⟩)
   (fun i=>some (Rt.val (AV.bool (qbb a.defaults b.defaults i&&decide (a.registers=b.registers))))) ?_ ?_ 0 _ _ (Qc _) ?_).trans (by simp [qbb])
  ·rintro i e _ L' hi hL' ⟨h2,h3,h43,h44,h45,objs,N,hN,hN2,rfl⟩ ih;have hi2:i<b.defaults.length:=by omega
   have hw:IntKind.wrap .i64 ((i:Int)+1)=((i+1:Nat):Int):=qay (by omega) (by have:=f.dl;omega);have hNN:=hN N (Qb _);have v0:¬0=N:=by omega
   have v1:¬1=N:=by omega
   have hee:=qru a.defaults[i] b.defaults[i] (f.ds _ (Qd hi));by_cases c:a.defaults[i]=b.defaults[i]
   ·rw [decide_eq_true c] at hee;simp only [ActionCall.ce] at hee;rw [qce hi hi2 c];simp [c_115_l1,Config.ce,ActionCall.ce,hi,hi2,h3,h43,h44,h45,hNN,v0,v1,hee,hw];simp only [<- Config.ce];refine (ih _ _ ⟨by simp [h2],by simp [h3],by simp [h43],by simp [h44],by simp,_,_,hN.app _,by omega,rfl⟩).trans (by simp)
   ·rw [decide_eq_false c] at hee;simp only [ActionCall.ce] at hee;rw [qbv hi hi2 c];simp [c_115_l1,Config.ce,ActionCall.ce,hi,hi2,h3,h43,h44,h45,hNN,v0,v1,hee]
  ·rintro e _ L' hL' ⟨h2,h3,h43,h44,h45,objs,N,hN,hN2,rfl⟩;rw [qcd q2];have hr:=qsy a.registers b.registers f.gl f.gs;simp [c_115_l1,c_115_k2,Config.ce,h2,h3,h44,h45,hL',hr]
  ·simp [h2,h3,q2];exact ⟨[],2,Tail.nil 2,by omega,by simp [Config.ce]⟩
 ·simp [q1]
theorem qp4 (a b:Config) (f:CfgF a):qab Φ f_45 [.agg (Config.c a),.agg (Config.c b)]=some (.val (.bool (qfv a b))):=by
 rw [qaa (fn:=c_45) rfl rfl];by_cases q1:a.rows.length=b.rows.length
 rotate_left
 ·have:enRR a.rows≠enRR b.rows:=fun h=>q1 (by simpa using congrArg List.length h)
  simp [c_45,Config.ce,qfv,q1,this]
 by_cases q2:a.defaults.length=b.defaults.length
 rotate_left
 ·have:a.defaults≠b.defaults:=fun h=>q2 (by rw [h])
  simp [c_45,Config.ce,qfv,q1,q2,this]
 by_cases q3:a.registers.length=b.registers.length
 rotate_left
 ·have:a.registers≠b.registers:=fun h=>q3 (by rw [h])
  simp [c_45,Config.ce,qfv,q1,q2,q3,this]
 simp [c_45,Config.ce,qfv,q1,q2,q3];refine (qao a.rows.length (fun i e=>look 2 e=some (.ptr 0 4 0 0)/\look 3 e=some (.ptr 1 4 0 0)/\look 5 e=some (.int .i64 i))
  (fun i=>some (Rt.val (AV.bool (qbb (enRR a.rows) (enRR b.rows) i&&(decide (a.defaults=b.defaults)&&decide (a.registers=b.registers)))))) ?_ ?_ 0 _ (Qc _) ?_).trans (by simp [qbb])
 ·rintro i e L hi hL ⟨h2,h3,h5⟩ ih;have hi2:i<b.rows.length:=by omega
  have hw:IntKind.wrap .i64 ((i:Int)+1)=((i+1:Nat):Int):=qay (by omega) (by have:=f.rl;omega);obtain ⟨u1,u2⟩:=f.rs _ (Qd hi);have hee:=qrx a.rows[i] b.rows[i] u1 u2;by_cases c:enR a.rows[i]=enR b.rows[i]
  ·rw [decide_eq_true c] at hee;rw [qce (by simpa using hi) (by simpa using hi2) (by rw [qe7 _ _ hi,qe7 _ _ hi2];exact c)];simp [c_45_l0,cSe,hi,hi2,h2,h3,h5,hee,hw];refine (ih _ ⟨by simp [h2],by simp [h3],by simp⟩).trans (by simp)
  ·rw [decide_eq_false c] at hee;rw [qbv (by simpa using hi) (by simpa using hi2) (by rw [qe7 _ _ hi,qe7 _ _ hi2];exact c)];simp [c_45_l0,cSe,hi,hi2,h2,h3,h5,hee]
 ·rintro e L hL ⟨h2,h3,h5⟩;have:=qcd (l:=enRR a.rows) (m:=enRR b.rows) (by simpa using q1);rw [qmy] at this;rw [this];simp [c_45_l0,c_45_k5,h2,h5,hL];refine (qao a.defaults.length (fun i e=>look 2 e=some (.ptr 0 4 0 0)/\look 3 e=some (.ptr 1 4 0 0)/\look 6 e=some (.int .i64 i))
   (fun i=>some (Rt.val (AV.bool (qbb a.defaults b.defaults i&&decide (a.registers=b.registers))))) ?_ ?_ 0 _ (Qc _) ?_).trans (by simp [qbb])
  ·rintro i e L' hi hL' ⟨h2,h3,h6⟩ ih;have hi2:i<b.defaults.length:=by omega
   have hw:IntKind.wrap .i64 ((i:Int)+1)=((i+1:Nat):Int):=qay (by omega) (by have:=f.dl;omega);have hee:=qp3 a.defaults[i] b.defaults[i] (f.ds _ (Qd hi));by_cases c:a.defaults[i]=b.defaults[i]
   ·rw [decide_eq_true c] at hee;simp only [ActionCall.ce] at hee;rw [qce hi hi2 c];simp [c_45_l1,ActionCall.ce,hi,hi2,h2,h3,h6,hee,hw];refine (ih _ ⟨by simp [h2],by simp [h3],by simp⟩).trans (by simp)
   ·rw [decide_eq_false c] at hee;simp only [ActionCall.ce] at hee;rw [qbv hi hi2 c];simp [c_45_l1,ActionCall.ce,hi,hi2,h2,h3,h6,hee]
  ·rintro e L' hL' ⟨h2,h3,h6⟩;rw [qcd q2];simp [c_45_l1,c_45_k4,h2,h6,hL'];refine (qao a.registers.length (fun i e=>look 2 e=some (.ptr 0 4 0 0)/\look 3 e=some (.ptr 1 4 0 0)/\look 7 e=some (.int .i64 i))
    (fun i=>some (Rt.val (AV.bool (qbb a.registers b.registers i)))) ?_ ?_ 0 _ (Qc _) ?_).trans (by simp [qbb])
   ·rintro i e L2 hi hL2 ⟨h2,h3,h7⟩ ih;have hi2:i<b.registers.length:=by omega
    have hw:IntKind.wrap .i64 ((i:Int)+1)=((i+1:Nat):Int):=qay (by omega) (by have:=f.gl;omega);have hee:=qaba a.registers[i] b.registers[i] (by have:=f.gs _ (Qd hi);omega);by_cases c:a.registers[i]=b.registers[i]
    ·rw [decide_eq_true c] at hee;rw [qce hi hi2 c];simp [c_45_l2,cSe,hi,hi2,h2,h3,h7,hee,hw];refine (ih _ ⟨by simp [h2],by simp [h3],by simp⟩).trans (by simp)
    ·rw [decide_eq_false c] at hee;rw [qbv hi hi2 c];simp [c_45_l2,cSe,hi,hi2,h2,h3,h7,hee]
   ·rintro e L2 hL2 ⟨h2,h3,h7⟩;rw [qcd q3];simp [c_45_l2,c_45_k3,h2,h7,hL2]
   ·simp [h2,h3]
  ·simp [h2,h3]
 ·simp
def noO (t:Int):TableOp:=⟨0,t,0,⟨[],0,⟨0,[]⟩⟩,⟨0,[]⟩⟩
def qcw (l:List Rw) (o:TableOp):Option Rw:=l.reverse.find? fun r=>decide (r.id=o.id)
theorem qo6 (l:List Rw) (r:Rw) (o:TableOp):qcw (l++[r]) o=if r.id=o.id then some r else qcw l o:=by
 unfold qcw;rw [List.reverse_append,List.reverse_singleton,List.singleton_append,List.find?_cons];by_cases z:r.id=o.id<;>simp [z]
def qjc (o:TableOp):Option Rw->List AV
 | none=>[.int .i64 0,.int .i64 o.table,.int .i64 0,.fslice 2 [],.int .i64 0,.int .i64 0,.fslice 1 [],.int .i64 0,.fslice 1 []]
 | some r=>[.int .i64 2,.int .i64 o.table,.int .i64 o.id,.fslice 2 [],.int .i64 0,.int .i64 0,.fslice 1 [],.int .i64 r.entry.call.action,.slice 1 (r.entry.call.args.map c32)]
def qhx (o:TableOp):Option Rw->List AV
 | none=>[.int .i64 0,.int .i64 o.table,.int .i64 0,.fslice 2 [],.int .i64 0,.int .i64 0,.fslice 1 [],.int .i64 0,.fslice 1 []]
 | some r=>[.int .i64 1,.int .i64 o.table,.int .i64 o.id,.slice 2 (r.entry.keys.map KeyMatch.c),.int .i64 r.entry.priority,.int .i64 r.entry.call.action,.slice 1 (r.entry.call.args.map c32),.int .i64 0,.fslice 1 []]
def noCl:ActionCall:=⟨0,[]⟩
def qn7 (c:Config) (t:Int):ActionCall:=(at? c.defaults t).getD noCl
def undF (c:Config) (o:TableOp) (id:Int):TableOp:=
 if o.kind=1 then ⟨3,o.table,id,noE,noCl⟩ else if o.kind=2 then ⟨2,o.table,o.id,noE,(etyF (qbt c o.table) o.id).call⟩
 else if o.kind=3 then ⟨1,o.table,o.id,etyF (qbt c o.table) o.id,noCl⟩ else ⟨4,o.table,0,noE,qn7 c o.table⟩
def getM (M:List Ren) (t id:Int):Option Int:=match M with
 | []=>none
 | r::M=>if r.t=t/\r.old=id then some r.new else getM M t id
def putM (M:List Ren) (t id n:Int):List Ren:=match M with
 | []=>[⟨t,id,n⟩]
 | r::M=>if r.t=t/\r.old=id then ⟨t,id,n⟩::M else r::putM M t id n
theorem qni (t id n t' id':Int):∀M:List Ren,getM (putM M t id n) t' id'=if t=t'/\id=id' then some n else getM M t' id'
 | []=>by simp [putM,getM]
 | r::M=>by
  unfold putM;by_cases h:r.t=t/\r.old=id
  ·rw [if_pos h];simp only [getM];rw [h.1,h.2];split<;>simp [*]
  ·rw [if_neg h];simp only [getM,qni t id n t' id' M];by_cases h2:r.t=t'/\r.old=id'
   ·rw [if_pos h2,if_pos h2,if_neg];rintro ⟨rfl,rfl⟩;exact h h2
   ·rw [if_neg h2,if_neg h2]
def bk1 (M:List Ren) (u:TableOp):TableOp:=⟨u.kind,u.table,if u.kind=1 then 0 else (getM M u.table u.id).getD u.id,u.entry,u.call⟩
def bkM (p:Prg) (M:List Ren) (d:Config) (u:TableOp):List Ren:=if u.kind=1 then putM M u.table u.id (xoI p d (bk1 M u)) else M
def bkP (p:Prg):List Ren->Config->List TableOp->List TableOp
 | _,_,[]=>[]
 | M,d,u::V=>bk1 M u::bkP p (bkM p M d u) (xoC p d (bk1 M u)) V
def bkU (R:List Ren) (u:TableOp):TableOp:=⟨u.kind,u.table,if u.kind=1 then 0 else if u.kind=4 then 0 else curF R u.table u.id,u.entry,u.call⟩
def bkR1 (R:List Ren) (N:List Int) (u:TableOp):List Ren:=if u.kind=1 then R++[⟨u.table,u.id,(at? N u.table).getD 0⟩] else R
def bkN (N:List Int) (u:TableOp):List Int:=if u.kind=1 then N.set u.table.toNat ((at? N u.table).getD 0+1) else N
def bkR:List Ren->List Int->List TableOp->List TableOp
 | _,_,[]=>[]
 | R,N,u::V=>bkU R u::bkR (bkR1 R N u) (bkN N u) V
theorem qpj (p:Prg):∀(V:List TableOp) (M:List Ren) (d:Config),(bkP p M d V).length=V.length
 | [],_,_=>rfl
 | u::V,M,d=>by simp [bkP,qpj p V]
theorem qpl:∀(V:List TableOp) (R:List Ren) (N:List Int),(bkR R N V).length=V.length
 | [],_,_=>rfl
 | u::V,R,N=>by simp [bkR,qpl V]
structure UndS (u:TableOp):Prop where
 op:OpS u
 pos:u.kind=1->0<u.id
 zero:u.kind=4->u.id=0
theorem qsi (p:Prg) (hp:p.tables.length<2^40):∀(V:List TableOp),(∀u∈V,UndS u)->∀(d:Config) (R M:List Ren) (i:Nat),CfgV p d->CfgT d->
  (∀t id,curF R t id=(getM M t id).getD id)->(∀t,getM M t 0=none)->
  bkP p M d V=bkR R d.nextID V\/(badF p d (bkP p M d V) i≠none/\badF p d (bkR R d.nextID V) i≠none)
 | [],_,_,_,_,_,_,_,_,_=> .inl rfl
 | u::V,hV,d,R,M,i,v,s,hRM,hM0=>by
  have hu:=hV u (by simp);have e1:bkU R u=bk1 M u:=by
   unfold bkU bk1;by_cases z1:u.kind=1
   ·simp [z1]
   by_cases z4:u.kind=4
   ·simp [z4,hu.zero z4,hM0]
   ·simp [z1,z4,hRM]
  have ho:OpS (bk1 M u):=⟨hu.op.e,hu.op.c⟩;simp only [bkP,bkR,e1,badF];by_cases hx:xoE p d (bk1 M u)=0
  ·simp only [if_pos hx];have hn:=qadf hx;have hk:(bk1 M u).kind=u.kind:=rfl;have ht:(bk1 M u).table=u.table:=rfl;have hN:bkN d.nextID u=(xoC p d (bk1 M u)).nextID:=by
    rw [hn,hk,ht];rfl
   have hI:u.kind=1->xoI p d (bk1 M u)=(at? d.nextID u.table).getD 0:=fun z=>by
    simp [xoI,hx,hk,ht,z]<;>rfl
   have ih:=qsi p hp V (fun w hw=>hV w (by simp [hw])) (xoC p d (bk1 M u)) (bkR1 R d.nextID u) (bkM p M d u) (i+1) (qpc v _) (qx5 v s hp _ ho) ?_ ?_
   ·rw [hN];rcases ih with ih | ih
    ·exact .inl (by rw [ih])
    ·exact .inr ih
   ·intro t id;unfold bkR1 bkM;by_cases z:u.kind=1
    ·rw [if_pos z,if_pos z,qst,qni,hI z];by_cases y:u.table=t/\u.id=id
     ·rw [if_pos y,if_pos y];rfl
     ·rw [if_neg y,if_neg y];exact hRM t id
    ·rw [if_neg z,if_neg z];exact hRM t id
   ·intro t;unfold bkM;by_cases z:u.kind=1
    ·rw [if_pos z,qni,if_neg]
     ·exact hM0 t
     ·rintro ⟨_,h⟩;have:=hu.pos z;omega
    ·rw [if_neg z];exact hM0 t
  ·simp only [if_neg hx];exact .inr ⟨by simp,by simp⟩
def qch (p:Prg) (c:Config) (l:List TableOp) (i:Nat):List TableOp:=(List.range i).map fun j=>match l[j]? with
 | some o=>undF (cfgN p c l j) o (idN p c l j)
 | none=>noO 0
def invP (p:Prg) (c:Config) (l:List TableOp):List TableOp:=bkP p [] (cfgN p c l l.length) (qch p c l l.length).reverse
def invR (p:Prg) (c:Config) (l:List TableOp):List TableOp:=bkR [] (cfgN p c l l.length).nextID (qch p c l l.length).reverse
def invT (p:Prg) (c:Config) (l out:List TableOp):AV:=match badA p (cfgN p c l l.length) out with
 | some _=> .tup [.slice 9 [],.int .i64 14]
 | none=>if qfv (cfgN p (cfgN p c l l.length) out out.length) c=true then .tup [.slice 9 (out.map TableOp.c),.int .i64 0] else .tup [.slice 9 [],.int .i64 14]
def invA (p:Prg) (c:Config) (l out:List TableOp):AV:=match badA p c l with
 | some (_,e)=> .tup [.slice 9 [],.int .i64 e]
 | none=>invT p c l out
theorem qhk {p:Prg}:∀{l:List TableOp} {c:Config} {i:Nat},badF p c l i=none->∀j (h:j<l.length),xoE p (cfgN p c l j) l[j]=0
 | [],_,_,_,j,h=>by simp at h
 | o::l,c,i,hb,0,_=>by
  unfold badF at hb;by_cases z:xoE p c o=0
  ·rw [qe3];exact z
  ·rw [if_neg z] at hb;cases hb
 | o::l,c,i,hb,j+1,h=>by
  unfold badF at hb;by_cases z:xoE p c o=0
  ·rw [if_pos z] at hb;have:=qhk hb j (by simpa using h);simpa [cfgN,xoF] using this
  ·rw [if_neg z] at hb;cases hb
theorem qe0 {p:Prg} {c:Config} {l:List TableOp} (h:badA p c l=none):CfgV p c/\l.length<=64/\badF p c l 0=none:=by
 have h64:=qaaw h;unfold badA at h;by_cases z:cfgE p c=0
 case neg=>simp [z] at h
 refine ⟨(qe2 p c).1 z,h64,?_⟩;rw [if_neg (by simpa using z),if_neg (by omega)] at h;simpa using h
theorem qs0 {l:List Rw} {id:Int} (h:rIdx l id≠none):∃r∈l,r.id=id/\etyF l id=r.entry:=by
 unfold etyF;cases hf:l.find? fun r=>decide (r.id=id) with
 | none=>
  exfalso;apply h;unfold rIdx;rw [List.findIdx?_eq_none_iff];intro r hr;simpa using List.find?_eq_none.1 hf r hr
 | some r=>exact ⟨r,List.mem_of_find?_eq_some hf,by simpa using List.find?_some hf,rfl⟩
theorem qxc:EntS noE:=⟨by simp [noE],by simp [noE],by simp [noE],by simp [noE]⟩
theorem qti:CallS noCl:=⟨by simp [noCl],by simp [noCl]⟩
theorem qye {α:Type} {l:List α} {t:Int} {x:α} (h:at? l t=some x):x∈l:=by
 unfold at? at h;split at h
 ·cases h
 ·exact Qe h
theorem qad7 {c:Config} (s:CfgT c) (t:Int):CallS (qn7 c t):=by
 unfold qn7;cases h:at? c.defaults t with
 | none=>exact qti
 | some d=>exact ⟨(s.ds d (qye h)).1,(s.ds d (qye h)).2⟩
theorem qaap {p:Prg} {c:Config} {o:TableOp} (hx:xoE p c o=0) (hk:o.kind=2\/o.kind=3):inT p o.table=true/\rIdx (qbt c o.table) o.id≠none:=by
 unfold xoE at hx;rcases hk with z | z
 ·simp only [z,modE] at hx;cases hi:inT p o.table with
  | false=>simp [hi] at hx
  | true=>
   refine ⟨rfl,fun h=>?_⟩;simp [hi,h] at hx
 ·simp only [z,delE] at hx;cases hi:inT p o.table with
  | false=>simp [hi] at hx
  | true=>
   refine ⟨rfl,fun h=>?_⟩;simp [hi,h] at hx
theorem qajk {p:Prg} {c:Config} (v:CfgV p c) (s:CfgT c) {o:TableOp} (hx:xoE p c o=0) (id:Int):UndS (undF c o id):=by
 have row:o.kind=2\/o.kind=3->∃r,rowS r/\0<r.id/\r.id=o.id/\etyF (qbt c o.table) o.id=r.entry:=fun hk=>by
  obtain ⟨hi,hr⟩:=qaap hx hk;obtain ⟨r,hr,h1,h2⟩:=qs0 hr;obtain ⟨k,hk,hl⟩:=qdq hi;obtain ⟨l,hl2,hr2⟩:=qow hr;rw [hk,qby (by rw [v.rl];exact hl)] at hr;exact ⟨r,(s.rs l hl2).2 r hr2,(v.at hl).pos r hr,h1,h2⟩
 unfold undF;by_cases z1:o.kind=1
 ·rw [if_pos z1];exact ⟨⟨qxc,qti⟩,by simp,by simp⟩
 rw [if_neg z1];by_cases z2:o.kind=2
 ·rw [if_pos z2];obtain ⟨r,hr,_,_,he⟩:=row (.inl z2);exact ⟨⟨qxc,by rw [he];exact ⟨hr.al,hr.ar⟩⟩,by simp,by simp⟩
 rw [if_neg z2];by_cases z3:o.kind=3
 ·rw [if_pos z3];obtain ⟨r,hr,hp,hid,he⟩:=row (.inr z3);exact ⟨⟨by rw [he];exact hr,qti⟩,by simp;omega,by simp⟩
 rw [if_neg z3];exact ⟨⟨qxc,qad7 s _⟩,by simp,by simp⟩
theorem qj6 {p:Prg} {c:Config} (v:CfgV p c) (s:CfgT c) (hp:p.tables.length<2^40) {l:List TableOp} (hl:∀o∈l,OpS o) (hb:badF p c l 0=none):∀u∈qch p c l l.length,UndS u:=by
 intro u hu;simp only [qch,List.mem_map,List.mem_range] at hu;obtain ⟨j,hj,rfl⟩:=hu;rw [Qa hj];obtain ⟨vj,sj⟩:=qdw v s hp l hl j;exact qajk vj sj (qhk hb j hj) _
theorem qzg {p:Prg} {c:Config} (s:CfgT c) (hp:p.tables.length<2^40) {l:List TableOp} (hl:∀o∈l,OpS o):invA p c l (invP p c l)=invA p c l (invR p c l):=by
 unfold invA;cases hA:badA p c l with
 | some x=>rfl
 | none=>
  obtain ⟨v,h64,hb⟩:=qe0 hA;obtain ⟨v',s'⟩:=qdw v s hp l hl l.length;have hU:=qj6 v s hp hl hb;simp only;have hlen:(qch p c l l.length).length=l.length:=by simp [qch]
  rcases qsi p hp (qch p c l l.length).reverse (fun u hu=>hU u (by simpa using hu)) (cfgN p c l l.length) [] [] 0 v' s' (by simp [curF,getM]) (by simp [getM]) with h | ⟨h1,h2⟩
  ·unfold invP invR;rw [h]
  ·have b:∀out:List TableOp,out.length=l.length->badF p (cfgN p c l l.length) out 0≠none->invT p c l out= .tup [.slice 9 [],.int .i64 14]:=fun out ho hne=>by
    unfold invT;cases hq:badA p (cfgN p c l l.length) out with
    | some x=>rfl
    | none=>exact absurd (qe0 hq).2.2 hne
   have h1:badF p (cfgN p c l l.length) (invP p c l) 0≠none:=h1;have h2:badF p (cfgN p c l l.length) (invR p c l) 0≠none:=h2;rw [b _ (by unfold invP;rw [qpj];simp [hlen]) h1,b _ (by unfold invR;rw [qpl];simp [hlen]) h2]
theorem qo5 (o:TableOp):∀{l:List Rw},(l.Pairwise fun a b=>a.id<b.id)->qcw l o=l.find? fun r=>decide (r.id=o.id)
 | [],_=>rfl
 | a::l,h=>by
  rw [List.pairwise_cons] at h;have ih:=qo5 o h.2;have e1:qcw (a::l) o=(qcw l o).or (if a.id=o.id then some a else none):=by
   unfold qcw;rw [List.reverse_cons,List.find?_append];by_cases z:a.id=o.id<;>simp [z]
  rw [e1,ih,List.find?_cons];by_cases z:a.id=o.id
  ·have hn:(l.find? fun r=>decide (r.id=o.id))=none:=by
    rw [List.find?_eq_none];intro x hx;have:=h.1 x hx;simp only [decide_eq_true_eq];omega
   rw [hn];simp [z]
  ·simp [z]
end Go.Av
