/-
  Lemmas for the law.
-/
import Derived.Test.YtakklbipljodeaaGreatX1
import Derived.Test.YtakklbipljodeaaGreatW27K
set_option linter.unusedVariables false
set_option linter.unusedSimpArgs false
set_option linter.constructorNameAsVariable false
namespace Go.Av
set_option maxRecDepth 4000
def qmu (x:Entry):Bool:=decide (x.keys.length<=10)&&decide (x.call.args.length<=10)
theorem qo3 (x:Entry):qab Φ f_97 [.agg (Entry.c x)]=some (.val (.bool (qmu x))):=by
 rw [qaa (fn:=c_97) rfl rfl];by_cases h:x.keys.length<=10<;>simp [c_97,Entry.c,qmu,h]
def bigO (x:TableOp):Bool:= !qmu x.entry || decide (10<x.call.args.length)
def qlk (l:List TableOp):Bool:=decide (l.length<=80)&& !qa0 l bigO 0
def qlz (r:Rw):Bool:= !qmu r.entry
def qf6 (l:List Rw):Bool:=decide (40<l.length) || qa0 l qlz 0
def qhr (c:ActionCall):Bool:=decide (10<c.args.length)
def qfr (l:List Int):Bool:=decide (80<l.length)
def qgv (c:Config):Bool:=decide (c.rows.length<=16)&&decide (c.nextID.length<=16)&&decide (c.defaults.length<=16)&&decide (c.registers.length<=8)&& !qa0 c.rows qf6 0&& !qa0 c.defaults qhr 0&& !qa0 c.registers qfr 0
theorem qn9 (R N D:List (List AV)) (c:List (List Int)) (hd:c.length<=8) (e:Env) (h1:look 1 e=some (.ptr 0 4 0 0)):
  go Φ (finP [.tmp 2]) [.c c_38_k6] .normal ⟨e,⟨[(0,.row 4 [[.slice 1 R,.slice 1 N,.slice 2 D,.slice 1 (c.map (cS 1 c32))]])],1⟩⟩=some (Rt.val (.bool (!qa0 c qfr 0))):=by
 simp [c_38_k6];refine qao c.length (fun i e=>look 1 e=some (.ptr 0 4 0 0)/\look 6 e=some (.int .i64 i)) (fun i=>some (Rt.val (.bool (!qa0 c qfr i)))) ?_ ?_ 0 _ (Qc _) ?_
 ·rintro i e L hi hL ⟨h1,h6⟩ ih;have hw:=qaf i (by omega);cases hb:qfr c[i] with
  | true=>
   rw [qey hi hb];unfold qfr at hb;simp at hb;simp [c_38_l4,cS,hi,h1,h6,hb]
  | false=>
   rw [qc9 hi hb];unfold qfr at hb;have hb':¬80<c[i].length:=by simpa using hb
   simp [c_38_l4,cS,hi,h1,h6,hb',hw];exact ih _ ⟨by simp [h1],by simp⟩
 ·rintro e L hL ⟨h1,h6⟩;rw [qfh];simp [c_38_l4,c_38_k5, *]
 ·simp [h1]
theorem qn8 (R N:List (List AV)) (d:List ActionCall) (c:List (List Int)) (hd:d.length<=16) (hc:c.length<=8) (e:Env) (h1:look 1 e=some (.ptr 0 4 0 0)):
  go Φ (finP [.tmp 2]) [.c c_38_k7] .normal ⟨e,⟨[(0,.row 4 [[.slice 1 R,.slice 1 N,.slice 2 (d.map ActionCall.c),.slice 1 (c.map (cS 1 c32))]])],1⟩⟩=some (Rt.val (.bool (!qa0 d qhr 0&& !qa0 c qfr 0))):=by
 simp [c_38_k7];refine qao d.length (fun i e=>look 1 e=some (.ptr 0 4 0 0)/\look 5 e=some (.int .i64 i)) (fun i=>some (Rt.val (.bool (!qa0 d qhr i&& !qa0 c qfr 0)))) ?_ ?_ 0 _ (Qc _) ?_
 ·rintro i e L hi hL ⟨h1,h6⟩ ih;have hw:=qaf i (by omega);cases hb:qhr d[i] with
  | true=>
   rw [qey hi hb];unfold qhr at hb;simp at hb;simp [c_38_l3,ActionCall.ce,hi,h1,h6,hb]
  | false=>
   rw [qc9 hi hb];unfold qhr at hb;have hb':¬10<d[i].args.length:=by simpa using hb
   simp [c_38_l3,ActionCall.ce,hi,h1,h6,hb',hw];exact ih _ ⟨by simp [h1],by simp⟩
 ·rintro e L hL ⟨h1,h6⟩;rw [qfh];simp [c_38_l3,h1,h6,hL];have:=qn9 R N (d.map ActionCall.c) c hc;refine (this _ ?_).trans (by simp);simp [h1]
 ·simp [h1]
theorem qz1 (r:Rw):qab Φ f_97 [.agg [.slice 2 (r.entry.keys.map KeyMatch.c),.int .i64 r.entry.priority,.int .i64 r.entry.call.action,.slice 1 (r.entry.call.args.map c32)]]=some (.val (.bool (!qlz r))):=by
 have:=qo3 r.entry;simp only [Entry.c] at this;simpa [qlz] using this
theorem qj5 (c:Config):qab Φ f_38 [.agg (Config.c c)]=some (.val (.bool (qgv c))):=by
 rw [qaa (fn:=c_38) rfl rfl];by_cases q1:c.rows.length<=16
 rotate_left
 ·simp [c_38,Config.c,qgv,q1,Nat.lt_of_not_le q1]
 by_cases q2:c.nextID.length<=16
 rotate_left
 ·simp [c_38,Config.c,qgv,q1,q2,Nat.lt_of_not_le q2,Nat.not_lt.2 q1]
 by_cases q3:c.defaults.length<=16
 rotate_left
 ·simp [c_38,Config.c,qgv,q1,q2,q3,Nat.lt_of_not_le q3,Nat.not_lt.2 q1,Nat.not_lt.2 q2]
 by_cases q4:c.registers.length<=8
 rotate_left
 ·simp [c_38,Config.c,qgv,q1,q2,q3,q4,Nat.lt_of_not_le q4,Nat.not_lt.2 q1,Nat.not_lt.2 q2,Nat.not_lt.2 q3]
 simp [c_38,Config.c,qgv,q1,q2,q3,q4,Nat.not_lt.2 q1,Nat.not_lt.2 q2,Nat.not_lt.2 q3,Nat.not_lt.2 q4];refine qao c.rows.length (fun i e=>look 1 e=some (.ptr 0 4 0 0)/\look 3 e=some (.int .i64 i)) (fun i=>some (Rt.val (.bool (!qa0 c.rows qf6 i&&(!qa0 c.defaults qhr 0&& !qa0 c.registers qfr 0))))) ?_ ?_ 0 _ (Qc _) ?_|>.trans ?_
 ·rintro i e L hi hL ⟨h1,h6⟩ ih;have hw:=qaf i (by omega);by_cases q:40<c.rows[i].length
  ·rw [qey hi (show qf6 c.rows[i]=true by simp [qf6,q])];simp [c_38_l2,cSe,hi,h1,h6,q]
  simp [c_38_l2,cSe,hi,h1,h6,q];refine (qao c.rows[i].length (fun k e=>look 1 e=some (.ptr 0 4 0 0)/\look 3 e=some (.int .i64 i)/\look 4 e=some (.int .i64 k)) (fun k=>some (Rt.val (.bool (if qa0 c.rows[i] qlz k then false else (!qa0 c.rows qf6 (i+1)&&(!qa0 c.defaults qhr 0&& !qa0 c.registers qfr 0)))))) ?_ ?_ 0 _ (Qc _) ?_).trans ?_
  ·rintro k e L' hk hL' ⟨h1,h3,h4⟩ ih';have hw:=qaf k (by omega);have hsm:=qz1 c.rows[i][k];cases hb:qlz c.rows[i][k] with
   | true=>
    rw [qey hk hb];rw [hb] at hsm;simp [c_38_l0,cSe,Rw.ce,hi,hk,h1,h3,h4,hsm]
   | false=>
    rw [qc9 hk hb];rw [hb] at hsm;simp [c_38_l0,cSe,Rw.ce,hi,hk,h1,h3,h4,hsm,hw];refine (ih' _ ⟨by simp [h1],by simp [h3],by simp⟩).trans (by simp)
  ·rintro e L' hL' ⟨h1,h3,h4⟩;rw [qfh];simp [c_38_l0,c_38_k1,cSe,hi,hL',h1,h3,h4,hw];refine (ih _ ⟨by simp [h1],by simp⟩).trans (by simp)
  ·simp [h1,h6]
  ·cases hb:qf6 c.rows[i] with
   | true=>
    rw [qey hi hb];simp [qf6,q] at hb;simp [hb]
   | false=>
    rw [qc9 hi hb];simp [qf6,q] at hb;simp [hb]
 ·rintro e L hL ⟨h1,h6⟩;rw [qfh];simp [c_38_l2,h1,h6,hL];have:=qn8 (c.rows.map (cS 5 Rw.c)) (c.nextID.map cI) c.defaults c.registers q3 q4;refine (this _ ?_).trans (by simp);simp [h1]
 ·simp
 ·simp [Bool.and_assoc]
theorem Fld.ce' (x:Fld):Fld.c x=[.str x.name,.int .i64 x.width]:=by simp [Fld.c]
theorem qju (l:List Fld):IsB (qab Φ f_183 [.slice 2 (l.map Fld.c)]):=by
 rw [qaa (fn:=c_183) rfl rfl];by_cases q:16<l.length
 ·simp [c_183,q]
 simp [c_183,q];refine qg8 l.length (fun i e=>look 0 e=some (.slice 2 (l.map Fld.c))/\look 3 e=some (.int .i64 i)) IsB ?_ ?_ 0 _ (Qc _) ?_
 ·rintro i e L hi hL ⟨h0,h3⟩ ih;have hw:=qaf i (by omega);by_cases z:40<l[i].name.length
  ·simp [c_183_l0,Fld.ce',h0,h3,hi,z]
  simp [c_183_l0,Fld.ce',h0,h3,hi,z,hw];exact ih _ ⟨by simp [h0],by simp⟩
 ·rintro e L hL ⟨h0,h3⟩;simp [c_183_l0,c_183_k1,h0,h3,hL]
 ·simp
theorem qaao (a:Action):IsB (qab Φ f_184 [.agg (Action.c a)]):=by
 rw [qaa (fn:=c_184) rfl rfl];obtain ⟨b,hb⟩:=qju a.params;by_cases z0:40<a.name.length
 ·simp [c_184,Action.ce,z0]
 cases b with
 | false=>simp [c_184,Action.ce,z0,hb]
 | true=>
 by_cases z1:16<a.body.length
 ·simp [c_184,Action.ce,z0,hb,z1]
 simp [c_184,Action.ce,z0,hb,z1];refine qg8 a.body.length (fun i e=>look 1 e=some (.iptr 3 [[.str a.name,.slice 2 (a.params.map Fld.c),.slice 7 (a.body.map Statement.c)]] 0 0)/\look 3 e=some (.int .i64 i)) IsB ?_ ?_ 0 _ (Qc _) ?_
 ·rintro i e L hi hL ⟨h1,h3⟩ ih;have hw:=qaf i (by omega);by_cases z:40<a.body[i].index.length
  ·simp [c_184_l0,Statement.ce,h1,h3,hi,z]
  by_cases z':40<a.body[i].value.length
  ·simp [c_184_l0,Statement.ce,h1,h3,hi,z,z']
  simp [c_184_l0,Statement.ce,h1,h3,hi,z,z',hw];exact ih _ ⟨by simp [h1],by simp⟩
 ·rintro e L hL ⟨h1,h3⟩;simp [c_184_l0,c_184_k1,h1,h3,hL]
 ·simp
def qcs (p:Prg):AV:= .iptr 9 [Prg.c p] 0 0
theorem s17_d (p:Prg) (hs:p.states.length<=16) (e:Env) (n:Nat) (h1:look 1 e=some (qcs p)):IsB (go Φ (finP [.tmp 2]) [.c c_95_k6] .normal ⟨e,⟨[],n⟩⟩):=by
 simp [c_95_k6];refine qg8 p.states.length (fun i e=>look 1 e=some (qcs p)/\look 8 e=some (.int .i64 i)) IsB ?_ ?_ 0 _ (Qc _) ?_
 ·rintro i e L hi hL ⟨h1,h8⟩ ih;simp only [qcs,Prg.ce] at h1;have hw:=qaf i (by omega);by_cases z:40<p.states[i].name.length
  ·simp [c_95_l4,ParserState.ce,h1,h8,hi,z]
  by_cases z1:8<p.states[i].extract.length
  ·simp [c_95_l4,ParserState.ce,h1,h8,hi,z,z1]
  by_cases z2:16<p.states[i].cases.length
  ·simp [c_95_l4,ParserState.ce,h1,h8,hi,z,z1,z2]
  simp [c_95_l4,ParserState.ce,h1,h8,hi,z,z1,z2,hw];exact ih _ ⟨by simp [h1,qcs,Prg.ce],by simp⟩
 ·rintro e L hL ⟨h1,h8⟩;simp only [qcs,Prg.ce] at h1;simp [c_95_l4,c_95_k5,h1,h8,hL]
 ·simp [h1]
theorem s17_c (p:Prg) (ht:p.tables.length<=16) (hs:p.states.length<=16) (e:Env) (n:Nat) (h1:look 1 e=some (qcs p)):IsB (go Φ (finP [.tmp 2]) [.c c_95_k7] .normal ⟨e,⟨[],n⟩⟩):=by
 simp [c_95_k7];refine qk9 p.tables.length (fun i e h=>∃n,h=⟨[],n⟩/\look 1 e=some (qcs p)/\look 6 e=some (.int .i64 i)) IsB ?_ ?_ 0 _ _ (Qc _) ?_
 ·rintro i e _ L hi hL ⟨n,rfl,h1,h8⟩ ih;simp only [qcs,Prg.ce] at h1;have hw:=qaf i (by omega);by_cases z:40<p.tables[i].name.length
  ·simp [c_95_l3,Tbl.ce,h1,h8,hi,z]
  by_cases z1:10<p.tables[i].keys.length
  ·simp [c_95_l3,Tbl.ce,h1,h8,hi,z,z1]
  by_cases z2:24<p.tables[i].actions.length
  ·simp [c_95_l3,Tbl.ce,h1,h8,hi,z,z1,z2]
  by_cases z3:10<p.tables[i].dflt.args.length
  ·simp [c_95_l3,Tbl.ce,h1,h8,hi,z,z1,z2,z3]
  simp [c_95_l3,Tbl.ce,h1,h8,hi,z,z1,z2,z3,hw];exact ih _ _ ⟨_,rfl,by simp [h1,qcs,Prg.ce],by simp⟩
 ·rintro e _ L hL ⟨n,rfl,h1,h8⟩;have h1':=h1;simp only [qcs,Prg.ce] at h1;simp [c_95_l3,h1,h8,hL];exact s17_d p hs _ _ (by simp [h1'])
 ·simp [h1]
theorem s17_b (p:Prg) (ha:p.actions.length<=20) (ht:p.tables.length<=16) (hs:p.states.length<=16) (e:Env) (n:Nat) (h1:look 1 e=some (qcs p)):IsB (go Φ (finP [.tmp 2]) [.c c_95_k8] .normal ⟨e,⟨[],n⟩⟩):=by
 simp [c_95_k8];refine qg8 p.actions.length (fun i e=>look 1 e=some (qcs p)/\look 5 e=some (.int .i64 i)) IsB ?_ ?_ 0 _ (Qc _) ?_
 ·rintro i e L hi hL ⟨h1,h8⟩ ih;simp only [qcs,Prg.ce] at h1;have hw:=qaf i (by omega);obtain ⟨b,hb⟩:=qaao p.actions[i];simp only [Action.ce] at hb;cases b with
  | false=>simp [c_95_l2,Action.ce,h1,h8,hi,hb]
  | true=>
  simp [c_95_l2,Action.ce,h1,h8,hi,hb,hw];exact ih _ ⟨by simp [h1,qcs,Prg.ce],by simp⟩
 ·rintro e L hL ⟨h1,h8⟩;have h1':=h1;simp only [qcs,Prg.ce] at h1;simp [c_95_l2,h1,h8,hL];exact s17_c p ht hs _ _ (by simp [h1'])
 ·simp [h1]
theorem s17_a (p:Prg) (hr:p.registers.length<=8) (ha:p.actions.length<=20) (ht:p.tables.length<=16) (hs:p.states.length<=16) (e:Env) (n:Nat) (h1:look 1 e=some (qcs p)):IsB (go Φ (finP [.tmp 2]) [.c c_95_k9] .normal ⟨e,⟨[],n⟩⟩):=by
 simp [c_95_k9];refine qg8 p.registers.length (fun i e=>look 1 e=some (qcs p)/\look 4 e=some (.int .i64 i)) IsB ?_ ?_ 0 _ (Qc _) ?_
 ·rintro i e L hi hL ⟨h1,h8⟩ ih;simp only [qcs,Prg.ce] at h1;have hw:=qaf i (by omega);by_cases z:40<p.registers[i].name.length
  ·simp [c_95_l1,Register.ce,h1,h8,hi,z]
  simp [c_95_l1,Register.ce,h1,h8,hi,z,hw];exact ih _ ⟨by simp [h1,qcs,Prg.ce],by simp⟩
 ·rintro e L hL ⟨h1,h8⟩;have h1':=h1;simp only [qcs,Prg.ce] at h1;simp [c_95_l1,h1,h8,hL];exact s17_b p ha ht hs _ _ (by simp [h1'])
 ·simp [h1]
theorem qak9 (p:Prg):IsB (qab Φ f_95 [.agg (Prg.c p)]):=by
 rw [qaa (fn:=c_95) rfl rfl];obtain ⟨b,hb⟩:=qju p.metadata;by_cases z0:40<p.name.length
 ·simp [c_95,Prg.ce,z0]
 by_cases z1:12<p.headers.length
 ·simp [c_95,Prg.ce,z0,z1]
 cases b with
 | false=>simp [c_95,Prg.ce,z0,z1,hb]
 | true=>
 by_cases z2:8<p.registers.length
 ·simp [c_95,Prg.ce,z0,z1,hb,z2]
 by_cases z3:20<p.actions.length
 ·simp [c_95,Prg.ce,z0,z1,hb,z2,z3]
 by_cases z4:16<p.tables.length
 ·simp [c_95,Prg.ce,z0,z1,hb,z2,z3,z4]
 by_cases z5:16<p.states.length
 ·simp [c_95,Prg.ce,z0,z1,hb,z2,z3,z4,z5]
 by_cases z6:16<p.deparser.length
 ·simp [c_95,Prg.ce,z0,z1,hb,z2,z3,z4,z5,z6]
 simp [c_95,Prg.ce,z0,z1,hb,z2,z3,z4,z5,z6];refine qg8 p.headers.length (fun i e=>look 1 e=some (qcs p)/\look 3 e=some (.int .i64 i)) IsB ?_ ?_ 0 _ (Qc _) ?_
 ·rintro i e L hi hL ⟨h1,h8⟩ ih;simp only [qcs,Prg.ce] at h1;have hw:=qaf i (by omega);obtain ⟨b,hb⟩:=qju p.headers[i].fields;by_cases y:40<p.headers[i].name.length
  ·simp [c_95_l0,Header.ce,h1,h8,hi,y]
  cases b with
  | false=>simp [c_95_l0,Header.ce,h1,h8,hi,y,hb]
  | true=>
  simp [c_95_l0,Header.ce,h1,h8,hi,y,hb,hw];exact ih _ ⟨by simp [h1,qcs,Prg.ce],by simp⟩
 ·rintro e L hL ⟨h1,h8⟩;have h1':=h1;simp only [qcs,Prg.ce] at h1;simp [c_95_l0,h1,h8,hL];exact s17_a p (by omega) (by omega) (by omega) (by omega) _ _ (by simp [h1'])
 ·simp [qcs,Prg.ce]
def SizeQ (l:List ControlNode) (lim:Int) (x:Option Rt):Prop:=∃r:Int,x=some (.val (.int .i64 r))/\0<=r/\r<=lim+1/\(r<=lim->((pre l).length:Int)<=r)
theorem qair:∀(d:Nat) (l:List ControlNode) (lim:Int),d<=12->-1<=lim->lim<=1000->l.length<2^40->(∀x∈l,ControlNode.Ok qa6 x)->SizeQ l lim (qab Φ f_185 [.slice 5 (l.map ControlNode.c),.int .i64 lim,.int .i64 d]):=by
 intro d
 induction d with
 | zero=>
  intro l lim _ h1 h2 hl ho;rw [qaa (fn:=c_185) rfl rfl];have w1:IntKind.wrap .i64 (lim+1)=lim+1:=qa5 (by omega) (by omega);simp [c_185];rw [qay];by_cases z0:l.length=0
  ·have:l=[]:=Qg z0;subst this;simp [c_185_l0,c_185_k1];exact ⟨0,rfl,by omega,by omega,by simp [pre]⟩
  have hp:0<l.length:=by omega
  by_cases z:0<=lim
  ·obtain ⟨k,t,c,a,b,hx⟩:=qdc l[0];by_cases y:40<c.length
   ·simp [c_185_l0,hp,z,hx,ControlNode.e,y,w1];exact ⟨lim+1,rfl,by omega,by omega,by omega⟩
   ·simp [c_185_l0,hp,z,hx,ControlNode.e,y,w1];exact ⟨lim+1,rfl,by omega,by omega,by omega⟩
  ·simp [c_185_l0,c_185_k1,hp,z];exact ⟨0,rfl,by omega,by omega,by omega⟩
 | succ d ihd=>
  intro l lim hd h1 h2 hl ho;rw [qaa (fn:=c_185) rfl rfl];have w1:IntKind.wrap .i64 (lim+1)=lim+1:=qa5 (by omega) (by omega);simp [c_185];refine qg8 l.length (fun i e=>look 0 e=some (.slice 5 (l.map ControlNode.c))/\look 1 e=some (.int .i64 lim)/\look 2 e=some (.int .i64 ((d:Int)+1))/\look 8 e=some (.int .i64 i)/\∃q:Int,look 7 e=some (.int .i64 q)/\0<=q/\q<=lim+1/\(q<=lim->((pre (l.take i)).length:Int)<=q))
   (SizeQ l lim) ?_ ?_ 0 _ (Qc _) ?_
  ·rintro i e L hi hL ⟨g0,g1,g2,g8,q,g7,q0,q1,q2⟩ ih;have hw:=qaf i (by omega);by_cases z:q<=lim
   rotate_left
   ·simp [c_185_l0,c_185_k1,g0,g1,g7,g8,hi,hL,z];exact ⟨q,rfl,q0,q1,fun h=>absurd h z⟩
   obtain ⟨k,t,c,a,b,hx⟩:=qdc l[i];have ho':=ho _ (Qd hi);rw [hx] at ho';simp only [ControlNode.Ok] at ho';obtain ⟨_,_,hc,⟨ha1,ha2⟩,hb1,hb2⟩:=ho';rw [ControlNode.oks_eq] at ha2 hb2;rw [qdo] at ha1 hb1;have hdn:¬((d:Int)+1=0):=by omega
   have hsub:IntKind.wrap .i64 (d:Int)=(d:Int):=qa5 (by omega) (by omega);have wq:IntKind.wrap .i64 (q+1)=q+1:=qa5 (by omega) (by omega);by_cases y:40<c.length
   ·simp [c_185_l0,g0,g1,g7,g8,hi,z,hx,ControlNode.e,y,w1,wq];exact ⟨lim+1,rfl,by omega,by omega,by omega⟩
   obtain ⟨u,hu,u0,u1,u2⟩:=ihd a (lim - (q+1)) (by omega) (by omega) (by omega) (by omega) ha2;have ws:IntKind.wrap .i64 (lim - (q+1))=lim - (q+1):=qa5 (by omega) (by omega);have wu:IntKind.wrap .i64 (q+1+u)=q+1+u:=qa5 (by omega) (by omega);have ht:=congrArg List.length (qi4 hi);rw [hx,qe1] at ht;simp at ht;have hq:=q2 z;by_cases y2:q+1+u<=lim
   ·obtain ⟨v,hv,v0,v1,v2⟩:=ihd b (lim - (q+1+u)) (by omega) (by omega) (by omega) (by omega) hb2;have wt:IntKind.wrap .i64 (lim - (q+1+u))=lim - (q+1+u):=qa5 (by omega) (by omega);have wv:IntKind.wrap .i64 (q+1+u+v)=q+1+u+v:=qa5 (by omega) (by omega);simp [c_185_l0,g0,g1,g2,g7,g8,hi,z,hdn,hx,ControlNode.e,y,hsub,wq,ws,hu,wu,y2,wt,hv,wv,hw];refine ih _ ⟨by simp [g0],by simp [g1],by simp [g2],by simp,q+1+u+v,by simp,by omega,by omega,?_⟩;intro hlt;have:=u2 (by omega);have:=v2 (by omega);rw [ht];simp;omega
   ·simp [c_185_l0,g0,g1,g2,g7,g8,hi,z,hdn,hx,ControlNode.e,y,hsub,wq,ws,hu,wu,y2,hw];refine ih _ ⟨by simp [g0],by simp [g1],by simp [g2],by simp,q+1+u,by simp,by omega,by omega,?_⟩;intro hlt;omega
  ·rintro e L hL ⟨g0,g1,g2,g8,q,g7,q0,q1,q2⟩;simp [c_185_l0,c_185_k1,g0,g7,g8,hL];exact ⟨q,rfl,q0,q1,by simpa using q2⟩
  ·simp [pre];omega
theorem qz0 (l:List ControlNode) (hl:l.length<2^40) (ho:∀x∈l,ControlNode.Ok qa6 x):∃b,qab Φ f_96 [.slice 5 (l.map ControlNode.c),.int .i64 40]=some (.val (.bool b))/\(b=true->(pre l).length<=40):=by
 obtain ⟨r,hr,r0,r1,r2⟩:=qair 12 l 40 (by omega) (by omega) (by omega) hl ho;rw [show ((12:Nat):Int)=12 from rfl] at hr;rw [qaa (fn:=c_96) rfl rfl];simp [c_96,hr];intro h;have:=r2 h;omega
theorem qsy (p:Prg) (c:Config) (op:p.Ok qa6):∃b,qab Φ f_37 [.agg (Prg.c p),.agg (Config.c c)]=some (.val (.bool b))/\(b=true->(pre p.control).length<=40/\qgv c=true):=by
 have f:=qagc op;obtain ⟨b1,h1⟩:=qak9 p;obtain ⟨b2,h2,k2⟩:=qz0 p.control f.c f.co;have h3:=qj5 c;rw [qaa (fn:=c_37) rfl rfl];simp only [Prg.e,Config.ce] at h1 h3;cases b1<;>cases b2<;>cases h:qgv c<;>rw [h] at h3<;>simp [c_37,Prg.e,Config.ce,h1,h2,h3];exact k2 rfl
def noE:Entry:=⟨[],0,⟨0,[]⟩⟩
structure Ren where
 t:Int
 old:Int
 new:Int
def Ren.c (x:Ren):List AV:=[.int .i64 x.t,.int .i64 x.old,.int .i64 x.new]
theorem TableOp.eq_iff (x y:TableOp):x=y↔x.kind=y.kind/\x.table=y.table/\x.id=y.id/\x.entry=y.entry/\x.call=y.call:=by
 cases x;cases y;simp
def enR (l:List Rw):List Entry:=l.map Rw.entry
@[simp] theorem qy5 (l:List Rw):(enR l).length=l.length:=by simp [enR]
theorem qm2 (l:List Rw) (i:Nat) (h:i<l.length) (h':i<(enR l).length):(enR l)[i]=l[i].entry:=by simp [enR]
theorem qtf (a b:List Rw) (ha:a.length<2^40) (hs:∀r∈a,r.entry.sm):qab Φ f_110 [.slice 5 (a.map Rw.c),.slice 5 (b.map Rw.c)]=some (.val (.bool (decide (enR a=enR b)))):=by
 rw [qaa (fn:=c_110) rfl rfl];by_cases q:a.length=b.length
 rotate_left
 ·have:enR a≠enR b:=fun h=>q (by simpa using congrArg List.length h)
  simp [c_110,q,this]
 simp [c_110,q];refine (qao a.length (fun i e=>look 0 e=some (.slice 5 (a.map Rw.c))/\look 1 e=some (.slice 5 (b.map Rw.c))/\look 5 e=some (.int .i64 i)) (fun i=>some (Rt.val (.bool (qbh (enR a) (enR b) i)))) ?_ ?_ 0 _ (Qc _) ?_).trans (by simp [qbh])
 ·rintro i e L hi hL ⟨h0,h1,h5⟩ ih;have hi2:i<b.length:=by omega
  have hw:=qaf i (by omega);have hee:=qsp a[i].entry b[i].entry (hs _ (Qd hi));by_cases c:a[i].entry=b[i].entry
  ·rw [decide_eq_true c] at hee;simp only [Entry.ce] at hee;rw [qcb (by simpa using hi) (by simpa using hi2) (by rw [qm2 _ _ hi,qm2 _ _ hi2];exact c)];simp [c_110_l0,Rw.ce,hi,hi2,h0,h1,h5,hee,hw];exact ih _ ⟨by simp [h0],by simp [h1],by simp⟩
  ·rw [decide_eq_false c] at hee;simp only [Entry.ce] at hee;rw [qbw (by simpa using hi) (by simpa using hi2) (by rw [qm2 _ _ hi,qm2 _ _ hi2];exact c)];simp [c_110_l0,Rw.ce,hi,hi2,h0,h1,h5,hee]
 ·rintro e L hL ⟨h0,h1,h5⟩;have:=qca (l:=enR a) (m:=enR b) (by simpa using q);rw [qy5] at this;rw [this];simp [c_110_l0,c_110_k1, *]
 ·simp
theorem qq6 (x y:ActionCall) (h:x.args.length<2^40):qab Φ f_72 [.agg (ActionCall.c x),.agg (ActionCall.c y)]=some (.val (.bool (decide (x=y)))):=by
 rw [decide_eq_decide.2 (ActionCall.eq_iff x y)];exact qia x.action y.action x.args y.args h
theorem qadv (l m:List Int) (hb:l.length<2^40):qab Φ f_111 [.slice 1 (l.map c32),.slice 1 (m.map c32)]=some (.val (.bool (decide (l=m)))):=by
 rw [qaa (fn:=c_111) rfl rfl];by_cases q1:l.length=m.length
 rotate_left
 ·have:l≠m:=fun h=>q1 (by rw [h])
  simp [c_111,q1,this]
 simp [c_111,q1];refine (qao l.length (fun i e=>look 0 e=some (.slice 1 (l.map c32))/\look 1 e=some (.slice 1 (m.map c32))/\look 5 e=some (.int .i64 i))
  (fun i=>some (Rt.val (AV.bool (qbh l m i)))) ?_ ?_ 0 _ (Qc _) ?_).trans (by simp [qbh])
 ·rintro i e L hi hL ⟨h0,h1,h5⟩ ih;have hi2:i<m.length:=by omega
  have hw:=qaf i (by omega);have c3:∀x,c32 x=[.int .u32 x]:=fun x=>by simp [c32]
  by_cases c:l[i]=m[i]
  ·rw [qcb hi hi2 c];simp [c_111_l0,c3,hi,hi2,h0,h1,h5,hw,c];exact ih _ ⟨by simp [h0],by simp [h1],by simp⟩
  ·rw [qbw hi hi2 c];simp [c_111_l0,c3,hi,hi2,h0,h1,h5,c]
 ·rintro e L hL ⟨h0,h1,h5⟩;rw [qca q1];simp [c_111_l0,c_111_k1, *]
 ·simp
def enRR (l:List (List Rw)):List (List Entry):=l.map enR
@[simp] theorem qw4 (l:List (List Rw)):(enRR l).length=l.length:=by simp [enRR]
theorem qky (l:List (List Rw)) (i:Nat) (h:i<l.length) (h':i<(enRR l).length):(enRR l)[i]=enR l[i]:=by simp [enRR]
structure CfgF (c:Config):Prop where
 rl:c.rows.length<2^40
 rs:∀l∈c.rows,l.length<2^40/\∀r∈l,r.entry.sm
 dl:c.defaults.length<2^40
 ds:∀x∈c.defaults,x.args.length<2^40
 gl:c.registers.length<2^40
 gs:∀x∈c.registers,x.length<2^40
theorem qagb {c:Config} (s:CfgT c):CfgF c:=
 ⟨s.rl,fun l hl=>⟨(s.rs l hl).1,fun r hr=>⟨((s.rs l hl).2 r hr).kl,((s.rs l hl).2 r hr).al⟩⟩,s.dl,fun d hd=>(s.ds d hd).1,s.gl,fun l hl=>(s.gs l hl).1⟩
def qhl (a b:Config):Bool:=decide (enRR a.rows=enRR b.rows)&&(decide (a.defaults=b.defaults)&&decide (a.registers=b.registers))
theorem qq7 (a b:Config) (f:CfgF a):qab Φ f_45 [.agg (Config.c a),.agg (Config.c b)]=some (.val (.bool (qhl a b))):=by
 rw [qaa (fn:=c_45) rfl rfl];by_cases q1:a.rows.length=b.rows.length
 rotate_left
 ·have:enRR a.rows≠enRR b.rows:=fun h=>q1 (by simpa using congrArg List.length h)
  simp [c_45,Config.ce,qhl,q1,this]
 by_cases q2:a.defaults.length=b.defaults.length
 rotate_left
 ·have:a.defaults≠b.defaults:=fun h=>q2 (by rw [h])
  simp [c_45,Config.ce,qhl,q1,q2,this]
 by_cases q3:a.registers.length=b.registers.length
 rotate_left
 ·have:a.registers≠b.registers:=fun h=>q3 (by rw [h])
  simp [c_45,Config.ce,qhl,q1,q2,q3,this]
 simp [c_45,Config.ce,qhl,q1,q2,q3];refine (qao a.rows.length (fun i e=>look 2 e=some (.ptr 0 4 0 0)/\look 3 e=some (.ptr 1 4 0 0)/\look 5 e=some (.int .i64 i))
  (fun i=>some (Rt.val (AV.bool (qbh (enRR a.rows) (enRR b.rows) i&&(decide (a.defaults=b.defaults)&&decide (a.registers=b.registers)))))) ?_ ?_ 0 _ (Qc _) ?_).trans (by simp [qbh])
 ·rintro i e L hi hL ⟨h2,h3,h5⟩ ih;have hi2:i<b.rows.length:=by omega
  have hw:IntKind.wrap .i64 ((i:Int)+1)=((i+1:Nat):Int):=qa5 (by omega) (by have:=f.rl;omega);obtain ⟨u1,u2⟩:=f.rs _ (Qd hi);have hee:=qtf a.rows[i] b.rows[i] u1 u2;by_cases c:enR a.rows[i]=enR b.rows[i]
  ·rw [decide_eq_true c] at hee;rw [qcb (by simpa using hi) (by simpa using hi2) (by rw [qky _ _ hi,qky _ _ hi2];exact c)];simp [c_45_l0,cSe,hi,hi2,h2,h3,h5,hee,hw];refine (ih _ ⟨by simp [h2],by simp [h3],by simp⟩).trans (by simp)
  ·rw [decide_eq_false c] at hee;rw [qbw (by simpa using hi) (by simpa using hi2) (by rw [qky _ _ hi,qky _ _ hi2];exact c)];simp [c_45_l0,cSe,hi,hi2,h2,h3,h5,hee]
 ·rintro e L hL ⟨h2,h3,h5⟩;have:=qca (l:=enRR a.rows) (m:=enRR b.rows) (by simpa using q1);rw [qw4] at this;rw [this];simp [c_45_l0,c_45_k5,h2,h5,hL];refine (qao a.defaults.length (fun i e=>look 2 e=some (.ptr 0 4 0 0)/\look 3 e=some (.ptr 1 4 0 0)/\look 6 e=some (.int .i64 i))
   (fun i=>some (Rt.val (AV.bool (qbh a.defaults b.defaults i&&decide (a.registers=b.registers))))) ?_ ?_ 0 _ (Qc _) ?_).trans (by simp [qbh])
  ·rintro i e L' hi hL' ⟨h2,h3,h6⟩ ih;have hi2:i<b.defaults.length:=by omega
   have hw:IntKind.wrap .i64 ((i:Int)+1)=((i+1:Nat):Int):=qa5 (by omega) (by have:=f.dl;omega);have hee:=qq6 a.defaults[i] b.defaults[i] (f.ds _ (Qd hi));by_cases c:a.defaults[i]=b.defaults[i]
   ·rw [decide_eq_true c] at hee;simp only [ActionCall.ce] at hee;rw [qcb hi hi2 c];simp [c_45_l1,ActionCall.ce,hi,hi2,h2,h3,h6,hee,hw];refine (ih _ ⟨by simp [h2],by simp [h3],by simp⟩).trans (by simp)
   ·rw [decide_eq_false c] at hee;simp only [ActionCall.ce] at hee;rw [qbw hi hi2 c];simp [c_45_l1,ActionCall.ce,hi,hi2,h2,h3,h6,hee]
  ·rintro e L' hL' ⟨h2,h3,h6⟩;rw [qca q2];simp [c_45_l1,c_45_k4,h2,h6,hL'];refine (qao a.registers.length (fun i e=>look 2 e=some (.ptr 0 4 0 0)/\look 3 e=some (.ptr 1 4 0 0)/\look 7 e=some (.int .i64 i))
    (fun i=>some (Rt.val (AV.bool (qbh a.registers b.registers i)))) ?_ ?_ 0 _ (Qc _) ?_).trans (by simp [qbh])
   ·rintro i e L2 hi hL2 ⟨h2,h3,h7⟩ ih;have hi2:i<b.registers.length:=by omega
    have hw:IntKind.wrap .i64 ((i:Int)+1)=((i+1:Nat):Int):=qa5 (by omega) (by have:=f.gl;omega);have hee:=qadv a.registers[i] b.registers[i] (by have:=f.gs _ (Qd hi);omega);by_cases c:a.registers[i]=b.registers[i]
    ·rw [decide_eq_true c] at hee;rw [qcb hi hi2 c];simp [c_45_l2,cSe,hi,hi2,h2,h3,h7,hee,hw];refine (ih _ ⟨by simp [h2],by simp [h3],by simp⟩).trans (by simp)
    ·rw [decide_eq_false c] at hee;rw [qbw hi hi2 c];simp [c_45_l2,cSe,hi,hi2,h2,h3,h7,hee]
   ·rintro e L2 hL2 ⟨h2,h3,h7⟩;rw [qca q3];simp [c_45_l2,c_45_k3,h2,h7,hL2]
   ·simp [h2,h3]
  ·simp [h2,h3]
 ·simp
def noCl:ActionCall:=⟨0,[]⟩
def qa9 (c:Config) (t:Int):ActionCall:=(at? c.defaults t).getD noCl
structure UndS (u:TableOp):Prop where
 op:OpS u
 pos:u.kind=1->0<u.id
 zero:u.kind=4->u.id=0
theorem qtr:EntS noE:=⟨by simp [noE],by simp [noE],by simp [noE],by simp [noE]⟩
theorem qpq:CallS noCl:=⟨by simp [noCl],by simp [noCl]⟩
theorem qaal {α:Type} {l:List α} {t:Int} {x:α} (h:at? l t=some x):x∈l:=by
 unfold at? at h;split at h
 ·cases h
 ·exact Qe h
theorem qag0 {c:Config} (s:CfgT c) (t:Int):CallS (qa9 c t):=by
 unfold qa9;cases h:at? c.defaults t with
 | none=>exact qpq
 | some d=>exact ⟨(s.ds d (qaal h)).1,(s.ds d (qaal h)).2⟩
def Fl (z:Nat) (v:AV) (es:List (List AV)):Prop:=v= .slice z es\/(v= .fslice z []/\es=[])
structure OpL (o:TableOp) (w:List AV):Prop where
 ex:∃k a ca,w=[.int .i64 o.kind,.int .i64 o.table,.int .i64 o.id,k,.int .i64 o.entry.priority,.int .i64 o.entry.call.action,a,.int .i64 o.call.action,ca]/\
  Fl 2 k (o.entry.keys.map KeyMatch.c)/\Fl 1 a (o.entry.call.args.map c32)/\Fl 1 ca (o.call.args.map c32)/\
  (o.kind=1->k= .slice 2 (o.entry.keys.map KeyMatch.c)/\a= .slice 1 (o.entry.call.args.map c32))/\(o.kind≠1->o.kind≠3->ca= .slice 1 (o.call.args.map c32))
theorem Fl.sl {z:Nat} {es:List (List AV)}:Fl z (.slice z es) es:= .inl rfl
theorem Fl.nil {z:Nat}:Fl z (.fslice z []) []:= .inr ⟨rfl,rfl⟩
theorem Kp.sweep {X:Nat->Prop} {N:Nat} {O O':List (Nat×AO)} (h:Kp X N O O') (hx:∀j,look j O=some .res->X j):Kp X N O (qba O'):=fun j hj hn=>by
 have e:=h j hj hn;rw [qbt,e];rw [e];exact fun hr=>hn (hx j hr)
theorem nbq (N:Nat):(N+1 == N)=false/\(N == N+1)=false/\(N+1+1 == N)=false/\(N == N+1+1)=false/\(N+1+1 == N+1)=false/\(N+1 == N+1+1)=false/\(N+1+1+1 == N)=false/\(N == N+1+1+1)=false/\(N+1+1+1 == N+1)=false/\(N+1 == N+1+1+1)=false/\(N+1+1+1 == N+1+1)=false/\(N+1+1 == N+1+1+1)=false:=by
 simp only [beq_eq_false_iff_ne];omega
theorem nne (N:Nat):¬N+1=N/\¬N=N+1/\¬N+1+1=N/\¬N=N+1+1/\¬N+1+1=N+1/\¬N+1=N+1+1/\¬N+1+1+1=N/\¬N=N+1+1+1/\¬N+1+1+1=N+1/\¬N+1=N+1+1+1/\¬N+1+1+1=N+1+1/\¬N+1+1=N+1+1+1:=by
 omega
theorem lk_ge {j:Nat}:∀{L:List (Nat×AO)},(∀x∈L,j<x.1)->look j L=none
 | [],_=>rfl
 | (u,w)::r,h=>by
  have:=h (u,w) (by simp);have hr:=lk_ge (L:=r) fun x hx=>h x (by simp [hx])
  have hu:¬u=j:=by simp only at this;omega
  simp [look,hu,hr]
theorem qzi {j:Nat}:∀{L:List (Nat×AO)},(∀x∈L,x.1<j)->look j L=none
 | [],_=>rfl
 | (u,w)::r,h=>by
  have:=h (u,w) (by simp);have hr:=qzi (L:=r) fun x hx=>h x (by simp [hx])
  have hu:¬u=j:=by simp only at this;omega
  simp [look,hu,hr]
theorem Kp.apps {X:Nat->Prop} {N:Nat} {O L:List (Nat×AO)} (h:∀x∈L,N<=x.1):Kp X N O (O++L):=fun j hj _=>by
 rw [qai,lk_ge (L:=L) fun x hx=>by have:=h x hx;omega];cases look j O<;>rfl
theorem Tail.apps {N M:Nat} {O L:List (Nat×AO)} (hT:Tail O N) (hn:N<=M) (h:∀x∈L,x.1<M):Tail (O++L) M:=fun j hj=>by
 rw [qai,hT j (by omega),qzi (L:=L) fun x hx=>by have:=h x hx;omega];rfl
theorem Fl.snp {z n:Nat} {v:AV} {es:List (List AV)} {H:AH} (h:Fl z v es) (hs:snap (n+1) H (.slice z es)=some (.slice z es)):snap (n+1) H v=some (.slice z es):=by
 rcases h with rfl | ⟨rfl,rfl⟩
 ·exact hs
 ·simp
theorem OpL.snp {o:TableOp} {w:List AV} (h:OpL o w) {n:Nat} {H:AH}:mapO (snap (n+1) H) w=some (TableOp.c o):=by
 obtain ⟨k,a,ca,rfl,h1,h2,h3,-,-⟩:=h.ex;have e1:=h1.snp (n:=n) (H:=H) (by simp);have e2:=h2.snp (n:=n) (H:=H) (by simp);have e3:=h3.snp (n:=n) (H:=H) (by simp);simp [TableOp.ce2,e1,e2,e3]
theorem OpL.bor {o:TableOp} {w:List AV} (h:OpL o w) {n:Nat}:anyL (bor (n+1)) w=false:=by
 obtain ⟨k,a,ca,rfl,h1,h2,h3,-,-⟩:=h.ex;rcases h1 with rfl | ⟨rfl,-⟩<;>rcases h2 with rfl | ⟨rfl,-⟩<;>rcases h3 with rfl | ⟨rfl,-⟩<;>simp
def OpsL (l:List TableOp) (W:List (List AV)):Prop:=l.length=W.length/\∀(i:Nat) (o:TableOp) (w:List AV),l[i]? =some o->W[i]? =some w->OpL o w
theorem OpsL.nil:OpsL [] []:=⟨rfl,by simp⟩
theorem OpsL.snoc {l:List TableOp} {W:List (List AV)} (h:OpsL l W) {o:TableOp} {w:List AV} (hw:OpL o w):OpsL (l++[o]) (W++[w]):=by
 refine ⟨by simp [h.1],fun i o' w' h1 h2=>?_⟩;by_cases hi:i<l.length
 ·rw [Ql hi] at h1;rw [Ql (by rw [<- h.1];exact hi)] at h2;exact h.2 i o' w' h1 h2
 ·rw [Qp (by omega)] at h1;rw [Qp (by have:=h.1;omega)] at h2;rw [h.1] at h1;cases hk:i - W.length with
  | zero=>rw [hk] at h1 h2;simp at h1 h2;subst h1;subst h2;exact hw
  | succ k=>rw [hk] at h1;simp at h1
theorem OpsL.snp {l:List TableOp} {W:List (List AV)} (h:OpsL l W) {n:Nat} {H:AH}:mapO (mapO (snap (n+1) H)) W=some (l.map TableOp.c):=by
 refine qmf (by simp [h.1]) fun i w y hx hy=>?_
 rw [List.getElem?_map] at hy;cases ho:l[i]? with
 | none=>rw [ho] at hy;cases hy
 | some o=>rw [ho] at hy;cases hy;exact (h.2 i o w ho hx).snp
def b8 (v:Int) (i:Nat):List AV:=[.int .u8 (IntKind.wrap .u8 (ishr .u64 v (8*(i:Int))))]
def le8 (v:Int):List (List AV):=(List.range 8).map (b8 v)
@[simp] theorem qx5 (v:Int):(le8 v).length=8:=by simp [le8]
theorem qaeb (v:Int) {i:Nat} (h:i<8):(le8 v).take (i+1)=(le8 v).take i++[b8 v i]:=by
 unfold le8;rw [qa3 (by simpa using h)];simp
theorem qab3 (v:Int) (E:List (List AV)) (n:Nat) (hE:E.length<2^45) (K:List Fr) (i:Nat) (hi:i<=8) (e:Env) (R:Option (Rt×AH)) (h0:look 0 e=some (.int .u64 v)) (h1:look 1 e=some (.ptr 0 1 0 0)) (h4:look 4 e=some (.int .i64 i)) (h:AH) (hh:h=⟨[(0,.row 1 [[.app 1 (E++(le8 v).take i) 1]]),(1,.tok 1 (E.length+i))],n⟩)
  (hK:∀e,go Φ (finC []) K .normal ⟨e,⟨[(0,.row 1 [[.app 1 (E++le8 v) 1]]),(1,.tok 1 (E.length+8))],n⟩⟩=R):
  go Φ (finC []) (.c (.loop c_264_l0):: .b 0::K) .normal ⟨e,h⟩=R:=by
 subst hh;refine qcm 8 (fun i e h=>look 0 e=some (.int .u64 v)/\look 1 e=some (.ptr 0 1 0 0)/\look 4 e=some (.int .i64 i)/\h=⟨[(0,.row 1 [[.app 1 (E++(le8 v).take i) 1]]),(1,.tok 1 (E.length+i))],n⟩) (fun _=>R) ?_ ?_ i _ _ hi ?_
 ·rintro i e _ L hi hL ⟨h0,h1,h4,rfl⟩ ih;have hw:=qaf i (by omega);have hw2:IntKind.wrap .i64 (8*(i:Int))=8*(i:Int):=qa5 (by omega) (by omega);have hp:0<=8*(i:Int):=by omega
  have hm:min i 8=i:=by omega
  have hb:E.length+i+1<=70368744177664:=by omega
  simp [c_264_l0,h0,h1,h4,hi,hL,hw,hw2,hp,hm,hb];exact ih _ _ ⟨by simp [h0],by simp [h1],by simp,by rw [qaeb v hi];simp [b8,Nat.add_assoc]⟩
 ·rintro e _ L hL ⟨h0,h1,h4,rfl⟩;have:=hK;simp [c_264_l0,h0,h1,h4,hL];have ht:(le8 v).take 8=le8 v:=Qo (by simp);rw [ht];exact hK _
 ·exact ⟨h0,h1,h4,rfl⟩
theorem qakl (v:Int) (E:List (List AV)) (n:Nat) (hE:E.length<2^45):
  qam Φ f_264 [.int .u64 v,.ptr 0 1 0 0] ⟨[(0,.row 1 [[.app 1 E 1]]),(1,.tok 1 E.length)],n⟩=some (.val (.tup []),⟨[(0,.row 1 [[.app 1 (E++le8 v) 1]]),(1,.tok 1 (E.length+8))],n⟩):=by
 rw [qbs (fn:=c_264) rfl rfl];simp [c_264];have:=qab3 v E n hE [] 0 (by omega) ((4,.int .i64 0)::(0,.int .u64 v)::(1,.ptr 0 1 0 0)::[]) _ (by simp) (by simp) (by simp) _ rfl (fun e=>by simp;rfl);simpa using this
theorem qab2 (v:Int):
  qam Φ f_264 [.int .u64 v,.ptr 0 1 0 0] ⟨[(0,.row 1 [[.fslice 1 []]])],1⟩=some (.val (.tup []),⟨[(0,.row 1 [[.app 1 (le8 v) 1]]),(1,.tok 1 8)],2⟩):=by
 rw [qbs (fn:=c_264) rfl rfl];simp [c_264];have k0:IntKind.wrap .i64 0=0:=by decide
 rw [qay];simp [c_264_l0,wr1,k0];refine qab3 v [] 2 (by simp) [] 1 (by omega) _ _ ?_ ?_ ?_ _ ?_ (fun e=>by simp)
 ·simp
 ·simp
 ·simp
 ·simp [le8,List.range_succ,b8]
def kw (m:KeyMatch):Int:=ior .u64 (ishl .u64 (IntKind.wrap .u64 m.value) 32) (IntKind.wrap .u64 m.mask)
def kpr (x:Entry):Int:=IntKind.wrap .u64 x.priority
def kes (x:Entry):List (List AV):=le8 (kpr x)++(x.keys.map fun m=>le8 (kw m)).flatten
def by8 (v:Int) (i:Nat):UInt8:=UInt8.ofNat (IntKind.wrap .u8 (ishr .u64 v (8*(i:Int)))).toNat
def str8 (v:Int):List UInt8:=(List.range 8).map (by8 v)
def kstr (x:Entry):List UInt8:=str8 (kpr x)++(x.keys.map fun m=>str8 (kw m)).flatten
theorem qjy {α β:Type} {f:α->Option β}:∀{l m:List α} {l' m':List β},mapO f l=some l'->mapO f m=some m'->mapO f (l++m)=some (l'++m')
 | [],m,l',m',h,h2=>by simp [mapO] at h;subst h;simpa using h2
 | a::l,m,l',m',h,h2=>by
  simp only [mapO] at h;cases hb:f a with
  | none=>rw [hb] at h;cases h
  | some b=>
   rw [hb] at h;cases hm:mapO f l with
   | none=>rw [hm] at h;cases h
   | some k=>
    rw [hm] at h;cases h;have ih:=qjy hm h2;simp only [List.cons_append,mapO,hb,ih]
theorem qsk {α β γ:Type} {f:β->Option γ} {g:α->β} {k:α->γ} (h:∀x,f (g x)=some (k x)):∀l:List α,mapO f (l.map g)=some (l.map k)
 | []=>rfl
 | a::l=>by simp only [List.map_cons,mapO,h,qsk h l]
theorem qsj {α β γ:Type} {f:β->Option γ} {g:α->List β} {k:α->List γ} (h:∀x,mapO f (g x)=some (k x)):∀l:List α,mapO f ((l.map g).flatten)=some ((l.map k).flatten)
 | []=>rfl
 | a::l=>by
  simp only [List.map_cons,List.flatten_cons];exact qjy (h a) (qsj h l)
theorem qaam {f:List AV->Option UInt8} (hf:∀n,f [AV.int .u8 n]=some (UInt8.ofNat n.toNat)) (v:Int):mapO f (le8 v)=some (str8 v):=qsk (g:=b8 v) (k:=by8 v) (fun i=>hf _) _
theorem qajq {f:List AV->Option UInt8} (hf:∀n,f [AV.int .u8 n]=some (UInt8.ofNat n.toNat)) (x:Entry):mapO f (kes x)=some (kstr x):=qjy (qaam hf _) (qsj (fun m=>qaam hf (kw m)) _)
def b2sW (h:AH) (o:Option AV):Option (AV×AH):=match o with
 | some v=>evOp [(0,v)] 0 h (.b2s (.t 0))
 | none=>none
theorem qadx {call:qan} {e:Env} {nx:Nat} {h:AH} {n:Nat}:qac call e nx h (.b2s (.t n))=qbp (b2sW h (look n e)):=by
 rw [qpd];congr 1;cases hl:look n e with
 | none=>simp only [evOp,evX,hl,b2sW]
 | some v=>simp only [evOp,evX,hl,b2sW,look,if_true]
theorem qadh (h:AH) (x:Entry) (t:Nat):b2sW h (some (.app 1 (kes x) t))=some (.str (kstr x),h):=by
 simp only [b2sW,evOp,evX,look,if_true,qc3];rw [qajq (fun n=>rfl)]
theorem qabv (x:Entry) (hl:x.keys.length<2^40):qab Φ f_186 [.agg (Entry.c x)]=some (.val (.str (kstr x))):=by
 rw [qaa (fn:=c_186) rfl rfl];have hn:=qab2 (kpr x);have k32:IntKind.wrap .u64 32=32:=by decide
 rw [show kpr x=IntKind.wrap .u64 x.priority from rfl] at hn;simp [c_186,Entry.ce,hn];simp only [<- show kpr x=IntKind.wrap .u64 x.priority from rfl];refine qcm x.keys.length (fun i e h=>look 3 e=some (.ptr 0 1 0 0)/\look 4 e=some (.func (.func f_264) [] [.ptr 0 1 0 0])/\look 14 e=some (.slice 2 (x.keys.map KeyMatch.c))/\look 15 e=some (.int .i64 x.keys.length)/\look 16 e=some (.int .i64 i)/\
   ∃n,2<=n/\h=⟨[(0,.row 1 [[.app 1 (le8 (kpr x)++((x.keys.take i).map fun m=>le8 (kw m)).flatten) 1]]),(1,.tok 1 (8+8*i))],n⟩) (fun _=>some (Rt.val (.str (kstr x)))) ?_ ?_ 0 _ _ (Qc _) ?_
 ·rintro i e _ L hi hL ⟨h3,h4,h14,h15,h16,n,hn,rfl⟩ ih;have hw:=qaf i (by omega);have hlen:(le8 (kpr x)++((x.keys.take i).map fun m=>le8 (kw m)).flatten).length=8+8*i:=by
   have:∀l:List KeyMatch,((l.map fun m=>le8 (kw m)).flatten).length=8*l.length:=by
    intro l
    induction l with
    | nil=>rfl
    | cons a l ih=>simp only [List.map_cons,List.flatten_cons,List.length_append,ih,qx5,List.length_cons];omega
   rw [List.length_append,this,qx5];simp;omega
  have hk:=qakl (kw x.keys[i]) (le8 (kpr x)++((x.keys.take i).map fun m=>le8 (kw m)).flatten) (n+1) (by rw [hlen];omega);rw [hlen] at hk;rw [show kw x.keys[i]=ior .u64 (ishl .u64 (IntKind.wrap .u64 x.keys[i].value) 32) (IntKind.wrap .u64 x.keys[i].mask) from rfl] at hk;have n0:¬(0=n):=by omega
  have n1:¬(1=n):=by omega
  have m0:¬(n=0):=by omega
  have m1:¬(n=1):=by omega
  generalize hE:le8 (kpr x)++((x.keys.take i).map fun m=>le8 (kw m)).flatten=E at hk;simp [c_186_l0,KeyMatch.c,h3,h4,h14,h15,h16,hi,hL,n0,n1,m0,m1,hk,k32,hw];refine ih _ _ ⟨by simp [h3],by simp [h4],by simp [h14,KeyMatch.c],by simp [h15],by simp,n+1,by omega,?_⟩;simp only [AH.mk.injEq,List.cons.injEq,Prod.mk.injEq,AO.row.injEq,AO.tok.injEq,AV.app.injEq,true_and,and_true];refine ⟨?_,by omega⟩;rw [<- hE,Qh hi];simp only [kw,List.map_append,List.map_cons,List.map_nil,List.flatten_append,List.flatten_cons,List.flatten_nil,List.append_nil,List.append_assoc]
 ·rintro e _ L hL ⟨h3,h4,h14,h15,h16,n,hn,rfl⟩;have hb:=fun h=>qadh h x 1
  rw [List.take_length];rw [show le8 (kpr x)++(x.keys.map fun m=>le8 (kw m)).flatten=kes x from rfl];simp [-qpd,qadx,c_186_l0,c_186_k1,h3,h15,h16,hL,hb]
 ·refine ⟨by simp,by simp,by simp [KeyMatch.c],by simp,by simp,2,by omega,by simp⟩
theorem qaaq (n:Nat) (i:Nat) (hn:n<2^64) (hi:i<8):by8 (n:Int) i=UInt8.ofNat (n / 2^(8*i) % 256):=by
 unfold by8;congr 1;unfold ishr;have h1:min (8*(i:Int)).toNat (IntKind.bits .u64)=8*i:=by
  have:IntKind.bits .u64=64:=rfl;rw [this];omega
 rw [h1,show (2:Int)^(8*i)=((2^(8*i):Nat):Int) by simp,Int.fdiv_eq_ediv_of_nonneg _ (Int.natCast_nonneg _)];rw [show ((n:Int) / ((2^(8*i):Nat):Int))=((n / 2^(8*i):Nat):Int) by rw [Int.natCast_ediv]];have h2:∀m:Nat,IntKind.wrap .u8 (m:Int)=((m % 256:Nat):Int):=by
  intro m;simp [IntKind.wrap,IntKind.bits,IntKind.signed]
 rw [h2,Int.toNat_natCast]
theorem qzl {a b:Nat} (ha:a<256) (hb:b<256) (h:UInt8.ofNat a=UInt8.ofNat b):a=b:=by
 have:=congrArg UInt8.toNat h;simp only [UInt8.toNat_ofNat'] at this;omega
theorem qwe {n m:Nat} (hn:n<2^64) (hm:m<2^64) (h:str8 (n:Int)=str8 (m:Int)):n=m:=by
 have key:∀i,i<8->n / 2^(8*i) % 256=m / 2^(8*i) % 256:=by
  intro i hi;have h1:(str8 (n:Int))[i]? =(str8 (m:Int))[i]? :=by rw [h]
  simp only [str8,List.getElem?_map,List.getElem?_range hi,Option.map_some,Option.some.injEq] at h1;rw [qaaq n i hn hi,qaaq m i hm hi] at h1;exact qzl (Nat.mod_lt _ (by decide)) (Nat.mod_lt _ (by decide)) h1
 have k0:=key 0 (by decide);have k1:=key 1 (by decide);have k2:=key 2 (by decide);have k3:=key 3 (by decide);have k4:=key 4 (by decide);have k5:=key 5 (by decide);have k6:=key 6 (by decide);have k7:=key 7 (by decide);simp only [Nat.mul_zero,Nat.pow_zero,Nat.div_one,Nat.reduceMul,Nat.reducePow] at k0 k1 k2 k3 k4 k5 k6 k7;have hn':n<18446744073709551616:=hn;have hm':m<18446744073709551616:=hm;omega
@[simp] theorem qwf (v:Int):(str8 v).length=8:=by simp [str8]
theorem kw_eq {m:KeyMatch} (h:ok32 0 m.value/\ok32 0 m.mask):kw m=((m.value.toNat*2^32+m.mask.toNat:Nat):Int):=by
 obtain ⟨⟨a1,a2⟩,b1,b2⟩:=h;obtain ⟨v,hv⟩:∃v:Nat,m.value=v:=⟨m.value.toNat,by omega⟩;obtain ⟨w,hw⟩:∃w:Nat,m.mask=w:=⟨m.mask.toNat,by omega⟩;have hu:∀n:Nat,n<2^64->IntKind.wrap .u64 (n:Int)=(n:Int):=by
  intro n hn;have e1:(2:Int)^64=18446744073709551616:=rfl;simp only [IntKind.wrap,IntKind.bits,IntKind.signed,Bool.false_and,Bool.false_eq_true,if_false,e1];omega
 unfold kw;rw [hv,hw,hu v (by omega),hu w (by omega)];unfold ishl;have h32:(2:Int)^(min (32:Int).toNat (IntKind.bits .u64))=((4294967296:Nat):Int):=by decide
 rw [h32,<- Int.natCast_mul,hu (v*4294967296) (by omega)];unfold ior;have hb:IntKind.bits .u64=64:=rfl;have hor:(BitVec.ofInt (IntKind.bits .u64) ((v*4294967296:Nat):Int) ||| BitVec.ofInt (IntKind.bits .u64) (w:Int)).toNat=v*4294967296+w:=by
  rw [BitVec.toNat_or,BitVec.ofInt_natCast,BitVec.ofInt_natCast,BitVec.toNat_ofNat,BitVec.toNat_ofNat,hb,Nat.mod_eq_of_lt (by omega),Nat.mod_eq_of_lt (by omega)];have:=Nat.shiftLeft_add_eq_or_of_lt (b:=w) (i:=32) (by omega) v;rw [Nat.shiftLeft_eq] at this;rw [show v*4294967296=v*2^32 by rfl,<- this]
 rw [hor,hu _ (by omega)];simp
theorem qakj {a b:KeyMatch} (ha:ok32 0 a.value/\ok32 0 a.mask) (hb:ok32 0 b.value/\ok32 0 b.mask) (h:str8 (kw a)=str8 (kw b)):a=b:=by
 rw [kw_eq ha,kw_eq hb] at h;obtain ⟨⟨a1,a2⟩,a3,a4⟩:=ha;obtain ⟨⟨b1,b2⟩,b3,b4⟩:=hb;have:=qwe (by omega) (by omega) h
 ext<;>omega
theorem qsf:∀(x y:List KeyMatch),(∀m∈x,ok32 0 m.value/\ok32 0 m.mask)->(∀m∈y,ok32 0 m.value/\ok32 0 m.mask)->(x.map fun m=>str8 (kw m)).flatten=(y.map fun m=>str8 (kw m)).flatten->x=y
 | [],[],_,_,_=>rfl
 | [],b::y,_,_,h=>by
  have:=congrArg List.length h;simp only [List.map_nil,List.flatten_nil,List.length_nil,List.map_cons,List.flatten_cons,List.length_append,qwf] at this;omega
 | a::x,[],_,_,h=>by
  have:=congrArg List.length h;simp only [List.map_nil,List.flatten_nil,List.length_nil,List.map_cons,List.flatten_cons,List.length_append,qwf] at this;omega
 | a::x,b::y,hx,hy,h=>by
  simp only [List.map_cons,List.flatten_cons] at h;obtain ⟨h1,h2⟩:=List.append_inj h (by simp);rw [qakj (hx a (by simp)) (hy b (by simp)) h1,qsf x y (fun m hm=>hx m (by simp [hm])) (fun m hm=>hy m (by simp [hm])) h2]
structure KeyS (x:Entry):Prop where
 ks:∀m∈x.keys,ok32 0 m.value/\ok32 0 m.mask
 p0:0<=x.priority
 p1:x.priority<=255
theorem qx3 {x y:Entry} (hx:KeyS x) (hy:KeyS y):decide (kstr x=kstr y)=sk x y:=by
 unfold sk;refine decide_eq_decide.2 ⟨fun h=>?_,fun h=>?_⟩
 ·unfold kstr at h;obtain ⟨h1,h2⟩:=List.append_inj h (by simp);have x0:=hx.p0;have x1:=hx.p1;have y0:=hy.p0;have y1:=hy.p1;obtain ⟨a,ha⟩:∃a:Nat,x.priority=a:=⟨x.priority.toNat,by omega⟩;obtain ⟨b,hb⟩:∃b:Nat,y.priority=b:=⟨y.priority.toNat,by omega⟩;have hu:∀n:Nat,n<256->IntKind.wrap .u64 (n:Int)=(n:Int):=by
   intro n hn;have e1:(2:Int)^64=18446744073709551616:=rfl;simp only [IntKind.wrap,IntKind.bits,IntKind.signed,Bool.false_and,Bool.false_eq_true,if_false,e1];omega
  unfold kpr at h1;rw [ha,hb,hu a (by omega),hu b (by omega)] at h1;have:=qwe (by omega) (by omega) h1;exact ⟨qsf _ _ hx.ks hy.ks h2,by omega⟩
 ·unfold kstr kpr;rw [h.1,h.2]
def qdm:List Rw->Nat->List (AV×AV)
 | [],_=>[]
 | r::l,n=>(.str (kstr r.entry),.int .i64 n)::qdm l (n+1)
theorem qnx (r:Rw):∀(l:List Rw) (n:Nat),qdm (l++[r]) n=qdm l n++[(.str (kstr r.entry),.int .i64 ((n+l.length:Nat):Int))]
 | [],n=>by simp [qdm]
 | a::l,n=>by
  have ih:=qnx r l (n+1);simp only [List.cons_append,qdm,ih,List.length_cons];rw [show n+1+l.length=n+(l.length+1) by omega]
theorem qvd (x:List UInt8) (v:AV):∀(l:List Rw) (n:Nat),(∀r∈l,kstr r.entry≠x)->putA .s (.str x) v (qdm l n)=some (qdm l n++[(.str x,v)])
 | [],n,_=>rfl
 | r::l,n,h=>by
  have ih:=qvd x v l (n+1) fun r hr=>h r (by simp [hr])
  have h1:¬x=kstr r.entry:=fun e=>h r (by simp) e.symm
  simp only [qdm,putA,eqKd];have:(x == kstr r.entry)=false:=by simpa using h1
  rw [this];simp only [ih,Option.map_some,List.cons_append]
theorem findS (x:List UInt8):∀(l:List Rw) (n:Nat),qb4 .s (.str x) (qdm l n)=some ((l.findIdx? fun r=>decide (kstr r.entry=x)).map fun i=> .int .i64 ((i+n:Nat):Int))
 | [],n=>rfl
 | r::l,n=>by
  have ih:=findS x l (n+1);simp only [qdm,qb4,eqKd,List.findIdx?_cons];by_cases h:x=kstr r.entry
  ·subst h;simp
  ·have h':(x == kstr r.entry)=false:=by simpa using h
   have h'':¬kstr r.entry=x:=fun e=>h e.symm
   rw [h'];simp only [ih,h'',decide_false,Option.map_map,Bool.false_eq_true,if_false];congr 2;funext i;simp only [Function.comp_apply];rw [show i+(n+1)=i+1+n by omega]
theorem qls {α:Type} {p q:α->Bool}:∀{l:List α},(∀x∈l,p x=q x)->l.findIdx? p=l.findIdx? q
 | [],_=>rfl
 | a::l,h=>by
  rw [List.findIdx?_cons,List.findIdx?_cons,h a (by simp),qls fun x hx=>h x (by simp [hx])]
def atF (a:List Rw) (y:Entry):Option Nat:=a.findIdx? fun r=>sk r.entry y
def qbi (a:List Rw):Nat->List Rw->List Nat
 | _,[]=>[]
 | f,y::b=>match atF a y.entry with
  | some i=>if f<=i then i::qbi a (i+1) b else []
  | none=>[]
def cN (i:Nat):List AV:=[.int .i64 i]
theorem qahp (a b:List Rw) (ha:a.length<2^40) (hb:b.length<2^40) (sa:∀r∈a,KeyS r.entry/\r.entry.keys.length<2^40) (sb:∀r∈b,KeyS r.entry/\r.entry.keys.length<2^40) (hu:a.Pairwise fun x y=>sk x.entry y.entry=false):
  qab Φ f_101 [.slice 5 (a.map Rw.c),.slice 5 (b.map Rw.c)]=some (.val (.slice 1 ((qbi a 0 b).map cN))):=by
 rw [qaa (fn:=c_101) rfl rfl];have hfind:∀y,KeyS y->qb4 .s (.str (kstr y)) (qdm a 0)=some ((atF a y).map fun (i:Nat)=> .int .i64 (i:Int)):=by
  intro y hy;rw [findS,atF];congr 2;exact qls fun r hr=>qx3 (sa r hr).1 hy
 simp [c_101];refine qcm a.length (fun i e h=>∃O N,h=⟨O,N⟩/\Tail O N/\look 0 O=some (.map (qdm (a.take i) 0))/\look 1 e=some (.slice 5 (b.map Rw.c))/\look 5 e=some (.map 0)/\look 15 e=some (.slice 5 (a.map Rw.c))/\look 16 e=some (.int .i64 a.length)/\look 17 e=some (.int .i64 i)) (fun _=>some (Rt.val (.slice 1 ((qbi a 0 b).map cN)))) ?_ ?_ 0 _ _ (Qc _) ?_
 ·rintro i e _ L hi hL ⟨O,N,rfl,hT,l0,e1,e5,e15,e16,e17⟩ ih;have hw:=qaf i (by omega);have t0:=hT N (Qb _);have hk:=qabv a[i].entry (sa _ (Qd hi)).2;simp only [Entry.ce] at hk;have hne:∀r∈a.take i,kstr r.entry≠kstr a[i].entry:=by
   intro r hr he;rw [List.mem_take_iff_getElem] at hr;obtain ⟨m,hm,rfl⟩:=hr;have h1:=List.pairwise_iff_getElem.1 hu m i (by omega) hi (by omega);rw [<- qx3 (sa _ (Qd _)).1 (sa _ (Qd _)).1,decide_eq_false_iff_not] at h1;exact h1 he
  have hp:=qvd (kstr a[i].entry) (.int .i64 i) (a.take i) 0 hne;have hsn:qdm (a.take (i+1)) 0=qdm (a.take i) 0++[(.str (kstr a[i].entry),.int .i64 (i:Nat))]:=by
   rw [Qh hi,qnx,List.length_take,Nat.min_eq_left (by omega),Nat.zero_add]
  simp [c_101_l0,Rw.ce,e1,e5,e15,e16,e17,hi,hL,hw,hk,t0,qai,l0,hp];refine ih _ _ ⟨_,_,rfl,qap (hT.mono (by omega)),?_,?_,?_,?_,?_,?_⟩
  ·simp [qad,l0,hsn]
  all_goals simp [e1,e5,e15,e16,Rw.ce]
 ·rintro e _ L hL ⟨O,N,rfl,hT,l0,e1,e5,e15,e16,e17⟩;rw [List.take_length] at l0;have t0:=hT N (Qb _);have z0:=hT.lt l0;simp [c_101_l0,c_101_k3,e1,e5,e16,e17,hL,t0];refine qcm b.length (fun i e h=>∃(O:List (Nat×AO)) (N t f:Nat) (out:List Nat),h=⟨O,N⟩/\Tail O N/\look 0 O=some (.map (qdm a 0))/\look t O=some (.tok 1 out.length)/\out.length<=i/\qbi a 0 b=out++qbi a f (b.drop i)/\f<=2^40/\
    look 5 e=some (.map 0)/\look 8 e=some (.app 1 (out.map cN) t)/\look 9 e=some (.int .i64 ((f:Int) - 1))/\look 28 e=some (.slice 5 (b.map Rw.c))/\look 29 e=some (.int .i64 b.length)/\look 30 e=some (.int .i64 i)) (fun _=>some (Rt.val (.slice 1 ((qbi a 0 b).map cN)))) ?_ ?_ 0 _ _ (Qc _) ?_
  ·rintro i e _ L hi hL ⟨O,N,t,f,out,rfl,hT,l0,lt,ho,hg,hf,e5,e8,e9,e28,e29,e30⟩ ih;have hw:=qaf i (by omega);have t0:=hT N (Qb _);have hk:=qabv b[i].entry (sb _ (Qd hi)).2;have hfd:=hfind b[i].entry (sb _ (Qd hi)).1;simp only [Entry.ce] at hk;rw [Qi hi,qbi] at hg;have n0:0≠t:=qau l0 lt (by simp);have hbd:(out.length+1)*8<=70368744177664:=by omega
   cases hx:atF a b[i].entry with
   | none=>
    rw [hx] at hg hfd;simp only [List.append_nil] at hg;simp [c_101_l1,c_101_k2,Rw.ce,e5,e8,e9,e28,e29,e30,hi,hL,hk,t0,l0,hfd];simp [hg]
   | some j=>
    rw [hx] at hg hfd;simp only at hg;have hj:j<a.length:=by
     have:=(List.findIdx?_eq_some_iff_getElem.1 hx).1;exact this
    by_cases hfj:f<=j
    ·rw [if_pos hfj] at hg;have hc:¬(j:Int)<=(f:Int) - 1:=by omega
     simp [c_101_l1,Rw.ce,e5,e8,e9,e28,e29,e30,hi,hL,hk,t0,l0,hfd,hc,lt,hbd,hw];refine ih _ _ ⟨_,_,t,j+1,out++[j],rfl,qap (hT.mono (by omega)),?_,?_,?_,?_,by omega,?_,?_,?_,?_,?_,?_⟩
     ·simp [qad,n0,l0]
     ·simp [qad,lt]
     ·simp;omega
     ·rw [hg];simp
     ·simp [e5]
     ·simp [cN]
     ·simp
     ·simp [e28,Rw.ce]
     ·simp [e29]
     ·simp
    ·rw [if_neg hfj] at hg;simp only [List.append_nil] at hg;have hc:(j:Int)<=(f:Int) - 1:=by omega
     simp [c_101_l1,c_101_k2,Rw.ce,e5,e8,e9,e28,e29,e30,hi,hL,hk,t0,l0,hfd,hc];simp [hg]
  ·rintro e _ L hL ⟨O,N,t,f,out,rfl,hT,l0,lt,ho,hg,hf,e5,e8,e9,e28,e29,e30⟩;simp [qbi] at hg;simp [c_101_l1,c_101_k2,e8,e29,e30,hL];simp [hg]
  ·refine ⟨_,_,N,0,[],rfl,hT.app1 (Qb _),?_,?_,by simp,by simp,by omega,?_,?_,?_,?_,?_,?_⟩
   ·simp [qai,l0]
   ·simp [qai,t0]
   all_goals simp [e5,e1]
 ·refine ⟨_,_,rfl,?_,?_,?_,?_,?_,?_,?_⟩
  ·rw [qbx];exact ⟨by omega,Tail.nil _⟩
  all_goals simp [qdm]
end Go.Av
