/-
 Comparison of configurations: both ways answer whether they are equal.
-/
import Derived.Test.YtakklbipljodeaaGreatL11
set_option linter.unusedVariables false
set_option linter.unusedSimpArgs false
set_option linter.constructorNameAsVariable false
namespace Go.Av
set_option maxRecDepth 4000
structure CfgS (a:Config):Prop where
 rl:a.rows.length<2^40
 rs:∀l∈a.rows,l.length<2^40∧∀r∈l,r.entry.sm
 nl:a.nextID.length<2^40
 dl:a.defaults.length<2^40
 ds:∀d∈a.defaults,d.args.length<2^40
 gl:a.registers.length<2^40
 gs:∀l∈a.registers,l.length<2^40
theorem Config.eq_iff (a b:Config):a=b↔a.rows=b.rows∧a.nextID=b.nextID∧a.defaults=b.defaults∧a.registers=b.registers:=by
 constructor
 ·rintro rfl;simp
 ·rintro ⟨h1,h2,h3,h4⟩
  obtain ⟨x,y,z,u⟩:=a
  obtain ⟨x',y',z',u'⟩:=b
  simp only at h1 h2 h3 h4
  subst h1 h2 h3 h4;rfl
theorem qyh (l m:List Int) (hb:l.length<2^40):qab Φ f_50 [.slice 1 (l.map cI),.slice 1 (m.map cI)]=some (.val (.bool (decide (l=m)))):=by
 rw [qaa (fn:=c_50) rfl rfl]
 by_cases q1:l.length=m.length
 rotate_left
 ·have:l≠m:=fun h=>q1 (by rw [h])
  simp [c_50,q1,this]
 simp [c_50,q1]
 refine (qaw l.length (fun i e=>look 0 e=some (.slice 1 (l.map cI))∧look 1 e=some (.slice 1 (m.map cI))∧look 5 e=some (.int .i64 i))
  (fun i=>some (Rt.val (AV.bool (qbw l m i)))) ?_ ?_ 0 _ (Nat.zero_le _) ?_).trans (by simp [qbw])
 ·rintro i e L hi hL ⟨h0,h1,h5⟩ ih
  have hi2:i<m.length:=by omega
  have hw:IntKind.wrap .i64 ((i:Int)+1)=((i+1:Nat):Int):=qad (by omega) (by omega)
  by_cases c:l[i]=m[i]
  ·rw [qdc hi hi2 c]
   simp [c_50_l0,cIe,hi,hi2,hL,h0,h1,h5,hw,c]
   exact ih _ ⟨by simp [h0],by simp [h1],by simp⟩
  ·rw [qcb hi hi2 c]
   simp [c_50_l0,cIe,hi,hi2,hL,h0,h1,h5,c]
 ·rintro e L hL ⟨h0,h1,h5⟩
  rw [qdb q1]
  simp [c_50_l0,c_50_k1, *]
 ·simp
theorem qyk (l m:List Int) (hb:l.length<2^40):qab Φ f_159 [.slice 1 (l.map c32),.slice 1 (m.map c32)]=some (.val (.bool (decide (l=m)))):=by
 rw [qaa (fn:=c_159) rfl rfl]
 by_cases q1:l.length=m.length
 rotate_left
 ·have:l≠m:=fun h=>q1 (by rw [h])
  simp [c_159,q1,this]
 simp [c_159,q1]
 refine (qaw l.length (fun i e=>look 0 e=some (.slice 1 (l.map c32))∧look 1 e=some (.slice 1 (m.map c32))∧look 5 e=some (.int .i64 i))
  (fun i=>some (Rt.val (AV.bool (qbw l m i)))) ?_ ?_ 0 _ (Nat.zero_le _) ?_).trans (by simp [qbw])
 ·rintro i e L hi hL ⟨h0,h1,h5⟩ ih
  have hi2:i<m.length:=by omega
  have hw:IntKind.wrap .i64 ((i:Int)+1)=((i+1:Nat):Int):=qad (by omega) (by omega)
  by_cases c:l[i]=m[i]
  ·rw [qdc hi hi2 c]
   simp [c_159_l0,c32e,hi,hi2,hL,h0,h1,h5,hw,c]
   exact ih _ ⟨by simp [h0],by simp [h1],by simp⟩
  ·rw [qcb hi hi2 c]
   simp [c_159_l0,c32e,hi,hi2,hL,h0,h1,h5,c]
 ·rintro e L hL ⟨h0,h1,h5⟩
  rw [qdb q1]
  simp [c_159_l0,c_159_k1, *]
 ·simp
theorem qyi (l m:List (List Int)) (hb:l.length<2^40) (hf:∀x∈l,x.length<2^40):qab Φ f_70 [.slice 1 (l.map (cS 1 c32)),.slice 1 (m.map (cS 1 c32))]=some (.val (.bool (decide (l=m)))):=by
 rw [qaa (fn:=c_70) rfl rfl]
 by_cases q1:l.length=m.length
 rotate_left
 ·have:l≠m:=fun h=>q1 (by rw [h])
  simp [c_70,q1,this]
 simp [c_70,q1]
 refine (qaw l.length (fun i e=>look 0 e=some (.slice 1 (l.map (cS 1 c32)))∧look 1 e=some (.slice 1 (m.map (cS 1 c32)))∧look 5 e=some (.int .i64 i))
  (fun i=>some (Rt.val (AV.bool (qbw l m i)))) ?_ ?_ 0 _ (Nat.zero_le _) ?_).trans (by simp [qbw])
 ·rintro i e L hi hL ⟨h0,h1,h5⟩ ih
  have hi2:i<m.length:=by omega
  have hw:IntKind.wrap .i64 ((i:Int)+1)=((i+1:Nat):Int):=qad (by omega) (by omega)
  have hee:=qyk l[i] m[i] (hf _ (List.getElem_mem hi))
  by_cases c:l[i]=m[i]
  ·rw [decide_eq_true c] at hee
   rw [qdc hi hi2 c]
   simp [c_70_l0,cSe,hi,hi2,hL,h0,h1,h5,hw,hee]
   refine (ih _ ⟨by simp [h0],by simp [h1],by simp⟩).trans (by simp)
  ·rw [decide_eq_false c] at hee
   rw [qcb hi hi2 c]
   simp [c_70_l0,cSe,hi,hi2,hL,h0,h1,h5,hee]
 ·rintro e L hL ⟨h0,h1,h5⟩
  rw [qdb q1]
  simp [c_70_l0,c_70_k1, *]
 ·simp
theorem qyj (l m:List Rw) (hb:l.length<2^40) (hs:∀r∈l,r.entry.sm):qab Φ f_71 [.slice 5 (l.map Rw.c),.slice 5 (m.map Rw.c)]=some (.val (.bool (decide (l=m)))):=by
 rw [qaa (fn:=c_71) rfl rfl]
 by_cases q1:l.length=m.length
 rotate_left
 ·have:l≠m:=fun h=>q1 (by rw [h])
  simp [c_71,q1,this]
 simp [c_71,q1]
 refine (qaw l.length (fun i e=>look 0 e=some (.slice 5 (l.map Rw.c))∧look 1 e=some (.slice 5 (m.map Rw.c))∧look 5 e=some (.int .i64 i))
  (fun i=>some (Rt.val (AV.bool (qbw l m i)))) ?_ ?_ 0 _ (Nat.zero_le _) ?_).trans (by simp [qbw])
 ·rintro i e L hi hL ⟨h0,h1,h5⟩ ih
  have hi2:i<m.length:=by omega
  have hw:IntKind.wrap .i64 ((i:Int)+1)=((i+1:Nat):Int):=qad (by omega) (by omega)
  have hee:=qwk l[i].entry m[i].entry (hs _ (List.getElem_mem hi))
  simp only [Entry.ce] at hee
  by_cases c1:l[i].id=m[i].id
  rotate_left
  ·rw [qcb hi hi2 (fun h=>c1 (by rw [h]))]
   simp [c_71_l0,Rw.ce,hi,hi2,hL,h0,h1,h5,c1]
  by_cases c2:l[i].entry.priority=m[i].entry.priority
  rotate_left
  ·rw [qcb hi hi2 (fun h=>c2 (by rw [h]))]
   simp [c_71_l0,Rw.ce,hi,hi2,hL,h0,h1,h5,c1,c2]
  by_cases c:l[i].entry=m[i].entry
  ·rw [decide_eq_true c,c2] at hee
   rw [qdc hi hi2 ((Rw.eq_iff _ _).2 ⟨c1,c⟩)]
   simp [c_71_l0,Rw.ce,hi,hi2,hL,h0,h1,h5,hw,c1,c2,hee]
   refine (ih _ ⟨by simp [h0],by simp [h1],by simp⟩).trans (by simp)
  ·rw [decide_eq_false c,c2] at hee
   rw [qcb hi hi2 (fun h=>c (by rw [h]))]
   simp [c_71_l0,Rw.ce,hi,hi2,hL,h0,h1,h5,c1,c2,hee]
 ·rintro e L hL ⟨h0,h1,h5⟩
  rw [qdb q1]
  simp [c_71_l0,c_71_k1, *]
 ·simp
theorem qwj (x y:ActionCall) (h:x.args.length<2^40):qab Φ f_72 [.agg (ActionCall.c x),.agg (ActionCall.c y)]=some (.val (.bool (decide (x=y)))):=by
 rw [decide_eq_decide.2 (ActionCall.eq_iff x y)]
 exact qe6 x.action y.action x.args y.args h
theorem qm4 (a b:Config) (f:CfgS a):qab Φ f_20 [.agg (Config.c a),.agg (Config.c b)]=some (.val (.bool (decide (a=b)))):=by
 have ee:decide (a=b)=decide (a.rows=b.rows∧a.nextID=b.nextID∧a.defaults=b.defaults∧a.registers=b.registers):=decide_eq_decide.2 (Config.eq_iff a b)
 rw [ee,qaa (fn:=c_20) rfl rfl]
 have g2:=qyh a.nextID b.nextID f.nl
 have g4:=qyi a.registers b.registers f.gl f.gs
 by_cases q1:a.rows.length=b.rows.length
 rotate_left
 ·have:a.rows≠b.rows:=fun h=>q1 (by rw [h])
  simp [c_20,Config.ce,q1,this]
 by_cases q2:a.nextID=b.nextID
 rotate_left
 ·simp [c_20,Config.ce,q1,q2,g2]
 by_cases q3:a.defaults.length=b.defaults.length
 rotate_left
 ·have:a.defaults≠b.defaults:=fun h=>q3 (by rw [h])
  rw [q2] at g2
  simp [c_20,Config.ce,q1,q2,g2,q3,this]
 by_cases q4:a.registers=b.registers
 rotate_left
 ·rw [q2] at g2
  simp [c_20,Config.ce,q1,q2,q3,g2,g4,q4]
 rw [q2] at g2
 rw [q4] at g4
 simp [c_20,Config.ce,q1,q2,q3,q4,g2,g4]
 refine (qaw a.rows.length (fun i e=>look 2 e=some (.ptr 0 4 0 0)∧look 3 e=some (.ptr 1 4 0 0)∧look 5 e=some (.int .i64 i))
  (fun i=>some (Rt.val (AV.bool (qbw a.rows b.rows i&&decide (a.defaults=b.defaults))))) ?_ ?_ 0 _ (Nat.zero_le _) ?_).trans (by simp [qbw])
 ·rintro i e L hi hL ⟨h2,h3,h5⟩ ih
  have hi2:i<b.rows.length:=by omega
  have hw:IntKind.wrap .i64 ((i:Int)+1)=((i+1:Nat):Int):=qad (by omega) (by have:=f.rl;omega)
  obtain ⟨u1,u2⟩:=f.rs _ (List.getElem_mem hi)
  have hee:=qyj a.rows[i] b.rows[i] u1 u2
  by_cases c:a.rows[i]=b.rows[i]
  ·rw [decide_eq_true c] at hee
   rw [qdc hi hi2 c]
   simp [c_20_l0,cSe,hi,hi2,hL,h2,h3,h5,hee,hw]
   refine (ih _ ⟨by simp [h2],by simp [h3],by simp⟩).trans (by simp)
  ·rw [decide_eq_false c] at hee
   rw [qcb hi hi2 c]
   simp [c_20_l0,cSe,hi,hi2,hL,h2,h3,h5,hee]
 ·rintro e L hL ⟨h2,h3,h5⟩
  rw [qdb q1]
  simp [c_20_l0,c_20_k3,h2,h5,hL]
  refine (qaw a.defaults.length (fun i e=>look 2 e=some (.ptr 0 4 0 0)∧look 3 e=some (.ptr 1 4 0 0)∧look 6 e=some (.int .i64 i))
   (fun i=>some (Rt.val (AV.bool (qbw a.defaults b.defaults i)))) ?_ ?_ 0 _ (Nat.zero_le _) ?_).trans (by simp [qbw])
  ·rintro i e L' hi hL' ⟨h2,h3,h6⟩ ih
   have hi2:i<b.defaults.length:=by omega
   have hw:IntKind.wrap .i64 ((i:Int)+1)=((i+1:Nat):Int):=qad (by omega) (by have:=f.dl;omega)
   have hee:=qwj a.defaults[i] b.defaults[i] (f.ds _ (List.getElem_mem hi))
   simp only [ActionCall.ce] at hee
   by_cases c:a.defaults[i]=b.defaults[i]
   ·rw [decide_eq_true c] at hee
    rw [qdc hi hi2 c]
    simp [c_20_l1,ActionCall.ce,hi,hi2,hL',h2,h3,h6,hee,hw]
    refine (ih _ ⟨by simp [h2],by simp [h3],by simp⟩).trans (by simp)
   ·rw [decide_eq_false c] at hee
    rw [qcb hi hi2 c]
    simp [c_20_l1,ActionCall.ce,hi,hi2,hL',h2,h3,h6,hee]
  ·rintro e L' hL' ⟨h2,h3,h6⟩
   rw [qdb q3]
   simp [c_20_l1,c_20_k2,h2,h6,hL']
  ·simp [h2,h3]
 ·simp
end Go.Av
namespace Go.Av
set_option maxRecDepth 4000
theorem Action.ce (x:Action):Action.c x=[.str x.name,.slice 2 (x.params.map Fld.c),.slice 7 (x.body.map Statement.c)]:=by simp [Action.c]
theorem Header.ce (x:Header):Header.c x=[.str x.name,.slice 2 (x.fields.map Fld.c)]:=by simp [Header.c]
theorem Register.ce (x:Register):Register.c x=[.str x.name,.int .i64 x.width,.int .i64 x.size]:=by simp [Register.c]
theorem Statement.ce (x:Statement):Statement.c x=[.int .i64 x.kind,.int .i64 x.dst.header,.int .i64 x.dst.field,.int .i64 x.register,.int .i64 x.header,.slice 3 (x.index.map ExprNode.c),.slice 3 (x.value.map ExprNode.c)]:=by simp [Statement.c]
theorem Tbl.ce (x:Tbl):Tbl.c x=[.str x.name,.slice 3 (x.keys.map TableKey.c),.slice 1 (x.actions.map cI),.int .i64 x.dflt.action,.slice 1 (x.dflt.args.map c32),.int .i64 x.size]:=by simp [Tbl.c]
theorem ParserState.ce (x:ParserState):ParserState.c x=[.str x.name,.slice 1 (x.extract.map cI),.bool x.select,.int .i64 x.on.header,.int .i64 x.on.field,.slice 3 (x.cases.map SelectCase.c),.int .i64 x.dflt]:=by simp [ParserState.c]
theorem ControlNode.ce (k t:Int) (c:List ExprNode) (a b:List ControlNode):ControlNode.c (.mk k t c a b)=[.int .i64 k,.int .i64 t,.slice 3 (c.map ExprNode.c),.slice 5 (a.map ControlNode.c),.slice 5 (b.map ControlNode.c)]:=by simp [ControlNode.c,ControlNode.cs_eq]
theorem Prg.ce (x:Prg):Prg.c x=[.str x.name,.slice 2 (x.headers.map Header.c),.slice 2 (x.metadata.map Fld.c),.slice 3 (x.registers.map Register.c),.slice 3 (x.actions.map Action.c),.slice 6 (x.tables.map Tbl.c),.slice 7 (x.states.map ParserState.c),.slice 5 (x.control.map ControlNode.c),.slice 1 (x.deparser.map cI)]:=by simp [Prg.c]
def BlkQ (l:List ControlNode) (k:Nat) (x:Option Rt):Prop:=∃r:Int,x=some (.val (.int .i64 r))∧0≤r∧r≤(2^(k+1) - 1)*274877906944∧(r≤60→((pre l).length:Int)≤r)
theorem qaec (k:Nat):(1:Int)≤2^k:=by
 have h:0<2^k:=Nat.two_pow_pos k
 rw [show (2:Int)^k=((2^k:Nat):Int) from by rw [Int.natCast_pow];rfl]
 omega
theorem p2_le (k:Nat) (hk:k≤22):(2:Int)^k≤4194304:=by
 have:=Nat.pow_le_pow_right (n:=2) (by omega) hk
 have e:(2:Nat)^22=4194304:=by decide
 rw [e] at this
 rw [show (2:Int)^k=((2^k:Nat):Int) from by rw [Int.natCast_pow];rfl]
 omega
theorem qoi:∀(k d:Nat) (l:List ControlNode),k+d=21→l.length<2^40→(∀x∈l,ControlNode.Ok qbo x)→BlkQ l k (qab Φ f_143 [.slice 5 (l.map ControlNode.c),.int .i64 d,.int .i64 60]):=by
 intro k
 induction k with
 | zero=>
  intro d l hd hl ho
  have:d=21:=by omega
  subst this
  rw [qaa (fn:=c_143) rfl rfl]
  by_cases z0:60<l.length
  ·simp [c_143,z0]
   exact ⟨61,rfl,by omega,by decide,by omega⟩
  ·simp [c_143,z0]
   exact ⟨61,rfl,by omega,by decide,by omega⟩
 | succ k ihk=>
  intro d l hd hl ho
  rw [qaa (fn:=c_143) rfl rfl]
  have hd0:¬(20<d):=by omega
  have p1:=qaec (k+1)
  have p2:=p2_le (k+1) (by omega)
  have p3:(2:Int)^(k+1+1)=2*2^(k+1):=by rw [Int.pow_succ];omega
  have p4:=p2_le (k+1+1) (by omega)
  by_cases z0:60<l.length
  ·simp [c_143,z0]
   refine ⟨61,rfl,by omega,?_,by omega⟩
   rw [p3];omega
  simp [c_143,z0,hd0]
  refine qef l.length (fun i e=>look 0 e=some (.slice 5 (l.map ControlNode.c))∧look 1 e=some (.int .i64 d)∧look 2 e=some (.int .i64 60)∧look 8 e=some (.int .i64 i)∧∃q:Int,look 7 e=some (.int .i64 q)∧0≤q∧q≤(2^(k+1+1) - 1)*274877906944∧(q≤60→((pre (l.take i)).length:Int)+(l.length - i)≤q))
   (BlkQ l (k+1)) ?_ ?_ 0 _ (Nat.zero_le _) ?_
  ·rintro i e L hi hL ⟨h0,h1,h2,h8,q,h7,q0,q1,q2⟩ ih
   have hw:IntKind.wrap .i64 ((i:Int)+1)=((i+1:Nat):Int):=qad (by omega) (by omega)
   by_cases z:q≤60
   rotate_left
   ·simp [c_143_l0,c_143_k1,h0,h1,h2,h7,h8,hi,hL,z]
    exact ⟨q,rfl,q0,q1,fun h=>absurd h z⟩
   obtain ⟨kk,t,c,a,b,hx⟩:=qc5 l[i]
   have ho':=ho _ (List.getElem_mem hi)
   rw [hx] at ho'
   simp only [ControlNode.Ok] at ho'
   obtain ⟨_,_,hc,⟨ha1,ha2⟩,hb1,hb2⟩:=ho'
   rw [ControlNode.oks_eq] at ha2 hb2
   rw [qdm] at ha1 hb1
   have hcl:c.length≤1048576:=by have:=hc.1;rw [qdm] at this;exact this
   have hdn:IntKind.wrap .i64 ((d:Int)+1)=((d:Int)+1):=qad (by omega) (by omega)
   obtain ⟨u,hu,u0,u1,u2⟩:=ihk (d+1) a (by omega) (by omega) ha2
   obtain ⟨v,hv,v0,v1,v2⟩:=ihk (d+1) b (by omega) (by omega) hb2
   rw [show (((d+1:Nat)):Int)=(d:Int)+1 by omega] at hu hv
   have wu:IntKind.wrap .i64 (u+v)=u+v:=qad (by omega) (by omega)
   obtain ⟨g,hg,g0,g1⟩:∃g:Int,(c.length:Int) / 20=g∧0≤g∧g≤1048576:=⟨_,rfl,by omega,by omega⟩
   have wc:IntKind.wrap .i64 g=g:=qad (by omega) (by omega)
   have wv:IntKind.wrap .i64 (u+v+g)=u+v+g:=qad (by omega) (by omega)
   have ww:IntKind.wrap .i64 (q+(u+v+g))=q+(u+v+g):=qad (by omega) (by omega)
   simp [c_143_l0,h0,h1,h2,h7,h8,hi,hL,z,hdn,hx,ControlNode.ce,hu,hv,hg,wc,wu,wv,ww,hw]
   refine ih _ ⟨by simp [h0],by simp [h1],by simp [h2],by simp,q+(u+v+g),by simp,by omega,by omega,?_⟩
   intro hlt
   have ht:=congrArg List.length (qhr hi)
   rw [hx,qeg] at ht
   simp at ht
   have:=q2 z
   have:=u2 (by omega)
   have:=v2 (by omega)
   rw [ht]
   simp
   omega
  ·rintro e L hL ⟨h0,h1,h2,h8,q,h7,q0,q1,q2⟩
   simp [c_143_l0,c_143_k1,h0,h1,h2,h7,h8,hL]
   refine ⟨q,rfl,q0,q1,fun h=>?_⟩
   have:=q2 h
   rw [List.take_length] at this
   omega
  ·simp [pre]
   omega
end Go.Av
namespace Go.Av
set_option maxRecDepth 4000
def hp0 (p:Prg):AH:=⟨[(0,.row 9 [[.str p.name,.slice 2 (p.headers.map Header.c),.slice 2 (p.metadata.map Fld.c),.slice 3 (p.registers.map Register.c),.slice 3 (p.actions.map Action.c),.slice 6 (p.tables.map Tbl.c),.slice 7 (p.states.map ParserState.c),.slice 5 (p.control.map ControlNode.c),.slice 1 (p.deparser.map cI)]])],1⟩
structure PrgB (p:Prg):Prop where
 h:p.headers.length<2^40
 r:p.registers.length<2^40
 a:p.actions.length<2^40
 b:∀x∈p.actions,x.body.length<2^40
 t:p.tables.length<2^40
 s:p.states.length<2^40
 c:p.control.length<2^40
 co:∀x∈p.control,ControlNode.Ok qbo x
theorem qsy {p:Prg} (o:p.Ok qbo):PrgB p:=by
 obtain ⟨_,o1,o2,o3,o4,o5,o6,o7,o8⟩:=o
 have e:=qdm
 refine ⟨by have:=o1.1;omega,by have:=o3.1;omega,by have:=o4.1;omega,?_,by have:=o5.1;omega,by have:=o6.1;omega,by have:=o7.1;omega,o7.2⟩
 intro x hx
 have h:=o4.2 x hx
 simp only [Action.Ok] at h
 have:=h.2.2.1
 omega
theorem s16_c (p:Prg) (f:PrgB p) (e:Env) (h1:look 1 e=some (.ptr 0 9 0 0)):IsB (go Φ (finP [.tmp 2]) [.c c_142_k6] .normal ⟨e,hp0 p⟩):=by
 simp [c_142_k6]
 refine qef p.registers.length (fun i e=>look 1 e=some (.ptr 0 9 0 0)∧look 6 e=some (.int .i64 i)) IsB ?_ ?_ 0 _ (Nat.zero_le _) ?_
 ·rintro i e L hi hL ⟨h1,h6⟩ ih
  have hr:=f.r
  have hw:IntKind.wrap .i64 ((i:Int)+1)=((i+1:Nat):Int):=qad (by omega) (by omega)
  by_cases z:200<p.registers[i].size
  ·simp [c_142_l4,hp0,Register.ce,h1,h6,hi,hL,z]
  simp [c_142_l4,hp0,Register.ce,h1,h6,hi,hL,z,hw]
  exact ih _ ⟨by simp [h1],by simp⟩
 ·rintro e L hL ⟨h1,h6⟩
  simp [c_142_l4,hp0,h1,h6,hL,c_142_k5]
 ·simp [h1]
theorem s16_b (p:Prg) (f:PrgB p) (e:Env) (h1:look 1 e=some (.ptr 0 9 0 0)):IsB (go Φ (finP [.tmp 2]) [.c c_142_k7] .normal ⟨e,hp0 p⟩):=by
 simp [c_142_k7]
 refine qef p.headers.length (fun i e=>look 1 e=some (.ptr 0 9 0 0)∧look 5 e=some (.int .i64 i)) IsB ?_ ?_ 0 _ (Nat.zero_le _) ?_
 ·rintro i e L hi hL ⟨h1,h5⟩ ih
  have hr:=f.h
  have hw:IntKind.wrap .i64 ((i:Int)+1)=((i+1:Nat):Int):=qad (by omega) (by omega)
  by_cases z:40<p.headers[i].fields.length
  ·simp [c_142_l3,hp0,Header.ce,h1,h5,hi,hL,z]
  simp [c_142_l3,hp0,Header.ce,h1,h5,hi,hL,z,hw]
  exact ih _ ⟨by simp [h1],by simp⟩
 ·rintro e L hL ⟨h1,h5⟩
  simp [c_142_l3,hp0,h1,h5,hL]
  have:=s16_c p f
  simp only [hp0] at this
  apply this
  simp [h1]
 ·simp [h1]
theorem qw0 (p:Prg) (f:PrgB p):IsB (qab Φ f_142 [.agg (Prg.c p)]):=by
 rw [qaa (fn:=c_142) rfl rfl]
 by_cases z0:20<p.headers.length
 ·simp [c_142,Prg.ce,z0]
 by_cases z1:30<p.metadata.length
 ·simp [c_142,Prg.ce,z0,z1]
 by_cases z2:20<p.registers.length
 ·simp [c_142,Prg.ce,z0,z1,z2]
 by_cases z3:40<p.actions.length
 ·simp [c_142,Prg.ce,z0,z1,z2,z3]
 simp [c_142,Prg.ce,z0,z1,z2,z3]
 refine qef p.actions.length (fun i e=>look 1 e=some (.ptr 0 9 0 0)∧look 3 e=some (.int .i64 i)) IsB ?_ ?_ 0 _ (Nat.zero_le _) ?_
 ·rintro i e L hi hL ⟨h1,h3⟩ ih
  have hr:=f.a
  have hw:IntKind.wrap .i64 ((i:Int)+1)=((i+1:Nat):Int):=qad (by omega) (by omega)
  by_cases y0:20<p.actions[i].params.length
  ·simp [c_142_l2,Action.ce,h1,h3,hi,hL,y0]
  by_cases y1:30<p.actions[i].body.length
  ·simp [c_142_l2,Action.ce,h1,h3,hi,hL,y0,y1]
  simp [c_142_l2,Action.ce,h1,h3,hi,hL,y0,y1]
  refine qef p.actions[i].body.length (fun k e=>look 1 e=some (.ptr 0 9 0 0)∧look 3 e=some (.int .i64 i)∧look 4 e=some (.int .i64 k)) IsB ?_ ?_ 0 _ (Nat.zero_le _) ?_
  ·rintro k e L' hk hL' ⟨h1,h3,h4⟩ ih'
   have hw:IntKind.wrap .i64 ((k:Int)+1)=((k+1:Nat):Int):=qad (by omega) (by omega)
   by_cases x0:60<p.actions[i].body[k].index.length
   ·simp [c_142_l0,Action.ce,Statement.ce,h1,h3,h4,hi,hk,hL,hL',x0]
   by_cases x1:60<p.actions[i].body[k].value.length
   ·simp [c_142_l0,Action.ce,Statement.ce,h1,h3,h4,hi,hk,hL,hL',x0,x1]
   simp [c_142_l0,Action.ce,Statement.ce,h1,h3,h4,hi,hk,hL,hL',x0,x1,hw]
   exact ih' _ ⟨by simp [h1],by simp [h3],by simp⟩
  ·rintro e L' hL' ⟨h1,h3,h4⟩
   simp [c_142_l0,Action.ce,h1,h3,h4,hi,hL,hL',c_142_k1,hw]
   exact ih _ ⟨by simp [h1],by simp⟩
  ·simp [h1,h3]
 ·rintro e L hL ⟨h1,h3⟩
  simp [c_142_l2,h1,h3,hL]
  have:=s16_b p f
  simp only [hp0] at this
  apply this
  simp [h1]
 ·simp
theorem s22_b (p:Prg) (f:PrgB p) (e:Env) (h1:look 1 e=some (.ptr 0 9 0 0)):IsB (go Φ (finP [.tmp 2]) [.c c_60_k3] .normal ⟨e,hp0 p⟩):=by
 simp [c_60_k3]
 refine qef p.states.length (fun i e=>look 1 e=some (.ptr 0 9 0 0)∧look 4 e=some (.int .i64 i)) IsB ?_ ?_ 0 _ (Nat.zero_le _) ?_
 ·rintro i e L hi hL ⟨h1,h4⟩ ih
  have hr:=f.s
  have hw:IntKind.wrap .i64 ((i:Int)+1)=((i+1:Nat):Int):=qad (by omega) (by omega)
  by_cases z:20<p.states[i].extract.length
  ·simp [c_60_l1,hp0,ParserState.ce,h1,h4,hi,hL,z]
  by_cases z1:20<p.states[i].cases.length
  ·simp [c_60_l1,hp0,ParserState.ce,h1,h4,hi,hL,z,z1]
  simp [c_60_l1,hp0,ParserState.ce,h1,h4,hi,hL,z,z1,hw]
  exact ih _ ⟨by simp [h1],by simp⟩
 ·rintro e L hL ⟨h1,h4⟩
  simp [c_60_l1,hp0,h1,h4,hL,c_60_k2]
 ·simp [h1]
theorem qw1 (p:Prg) (f:PrgB p):IsB (qab Φ f_60 [.agg (Prg.c p)]):=by
 obtain ⟨b,hb⟩:=qw0 p f
 obtain ⟨n,hn,_⟩:=qoi 21 0 p.control rfl f.c f.co
 simp only [Int.natCast_zero] at hn
 simp only [Prg.ce] at hb
 rw [qaa (fn:=c_60) rfl rfl]
 cases b with
 | false=>simp [c_60,Prg.ce,hb]
 | true=>
 by_cases z0:30<p.tables.length
 ·simp [c_60,Prg.ce,hb,hn,z0]
 by_cases z1:30<p.states.length
 ·simp [c_60,Prg.ce,hb,hn,z0,z1]
 by_cases z2:30<p.deparser.length
 ·simp [c_60,Prg.ce,hb,hn,z0,z1,z2]
 by_cases z3:60<n
 ·simp [c_60,Prg.ce,hb,hn,z0,z1,z2,z3]
 simp [c_60,Prg.ce,hb,hn,z0,z1,z2,z3]
 refine qef p.tables.length (fun i e=>look 1 e=some (.ptr 0 9 0 0)∧look 3 e=some (.int .i64 i)) IsB ?_ ?_ 0 _ (Nat.zero_le _) ?_
 ·rintro i e L hi hL ⟨h1,h3⟩ ih
  have hr:=f.t
  have hw:IntKind.wrap .i64 ((i:Int)+1)=((i+1:Nat):Int):=qad (by omega) (by omega)
  by_cases y0:20<p.tables[i].keys.length
  ·simp [c_60_l0,Tbl.ce,h1,h3,hi,hL,y0]
  by_cases y1:40<p.tables[i].actions.length
  ·simp [c_60_l0,Tbl.ce,h1,h3,hi,hL,y0,y1]
  by_cases y2:40<p.tables[i].dflt.args.length
  ·simp [c_60_l0,Tbl.ce,h1,h3,hi,hL,y0,y1,y2]
  simp [c_60_l0,Tbl.ce,h1,h3,hi,hL,y0,y1,y2,hw]
  exact ih _ ⟨by simp [h1],by simp⟩
 ·rintro e L hL ⟨h1,h3⟩
  simp [c_60_l0,h1,h3,hL]
  have:=s22_b p f
  simp only [hp0] at this
  apply this
  simp [h1]
 ·simp
theorem qach (p:Prg) (f:PrgB p) (h:qab Φ f_60 [.agg (Prg.c p)]=some (.val (.bool true))):(pre p.control).length≤60:=by
 obtain ⟨b,hb⟩:=qw0 p f
 obtain ⟨n,hn,_,_,n2⟩:=qoi 21 0 p.control rfl f.c f.co
 simp only [Int.natCast_zero] at hn
 simp only [Prg.ce] at hb
 refine Decidable.byContradiction fun hc=>?_
 have z3:60<n:=by
  refine Decidable.byContradiction fun hz=>?_
  have:=n2 (by omega)
  omega
 rw [qaa (fn:=c_60) rfl rfl] at h
 cases b with
 | false=>simp [c_60,Prg.ce,hb] at h
 | true=>
 by_cases z0:30<p.tables.length
 ·simp [c_60,Prg.ce,hb,z0] at h
 by_cases z1:30<p.states.length
 ·simp [c_60,Prg.ce,hb,z0,z1] at h
 by_cases z2:30<p.deparser.length
 ·simp [c_60,Prg.ce,hb,z0,z1,z2] at h
 simp [c_60,Prg.ce,hb,hn,z0,z1,z2,z3] at h
def hp1 (p:Prg) (c:Config):AH:=⟨[(0,.row 9 [[.str p.name,.slice 2 (p.headers.map Header.c),.slice 2 (p.metadata.map Fld.c),.slice 3 (p.registers.map Register.c),.slice 3 (p.actions.map Action.c),.slice 6 (p.tables.map Tbl.c),.slice 7 (p.states.map ParserState.c),.slice 5 (p.control.map ControlNode.c),.slice 1 (p.deparser.map cI)]]),(1,.row 4 [[.slice 1 (c.rows.map (cS 5 Rw.c)),.slice 1 (c.nextID.map cI),.slice 2 (c.defaults.map ActionCall.c),.slice 1 (c.registers.map (cS 1 c32))]])],2⟩
theorem s25_b (p:Prg) (c:Config) (f:CfgS c) (q:Int) (e:Env) (h3:look 3 e=some (.ptr 1 4 0 0)) (h5:look 5 e=some (.int .i64 q)):IsB (go Φ (finP [.tmp 4]) [.c c_15_k5] .normal ⟨e,hp1 p c⟩):=by
 simp [c_15_k5]
 refine qef c.registers.length (fun i e=>look 3 e=some (.ptr 1 4 0 0)∧look 5 e=some (.int .i64 q)∧look 8 e=some (.int .i64 i)) IsB ?_ ?_ 0 _ (Nat.zero_le _) ?_
 ·rintro i e L hi hL ⟨h3,h5,h8⟩ ih
  have hr:=f.gl
  have hw:IntKind.wrap .i64 ((i:Int)+1)=((i+1:Nat):Int):=qad (by omega) (by omega)
  by_cases z:300<c.registers[i].length
  ·simp [c_15_l3,hp1,cSe,h3,h8,hi,hL,z]
  simp [c_15_l3,hp1,cSe,h3,h8,hi,hL,z,hw]
  exact ih _ ⟨by simp [h3],by simp [h5],by simp⟩
 ·rintro e L hL ⟨h3,h5,h8⟩
  simp [c_15_l3,hp1,h3,h5,h8,hL,c_15_k4]
 ·simp [h3,h5]
theorem qae6 (p:Prg) (c:Config) (f:PrgB p) (g:CfgS c):IsB (qab Φ f_15 [.agg (Prg.c p),.agg (Config.c c)]):=by
 obtain ⟨b,hb⟩:=qw1 p f
 simp only [Prg.ce] at hb
 rw [qaa (fn:=c_15) rfl rfl]
 cases b with
 | false=>simp [c_15,Prg.ce,Config.ce,hb]
 | true=>
 by_cases z0:30<c.rows.length
 ·simp [c_15,Prg.ce,Config.ce,hb,z0]
 by_cases z1:30<c.registers.length
 ·simp [c_15,Prg.ce,Config.ce,hb,z0,z1]
 by_cases z2:30<c.defaults.length
 ·simp [c_15,Prg.ce,Config.ce,hb,z0,z1,z2]
 by_cases z3:60<c.nextID.length
 ·simp [c_15,Prg.ce,Config.ce,hb,z0,z1,z2,z3]
 simp [c_15,Prg.ce,Config.ce,hb,z0,z1,z2,z3]
 refine qef c.rows.length (fun i e=>look 3 e=some (.ptr 1 4 0 0)∧look 6 e=some (.int .i64 i)∧∃q,look 5 e=some (.int .i64 q)) IsB ?_ ?_ 0 _ (Nat.zero_le _) ?_
 ·rintro i e L hi hL ⟨h3,h6,q,h5⟩ ih
  have hr:=g.rl
  have hw:IntKind.wrap .i64 ((i:Int)+1)=((i+1:Nat):Int):=qad (by omega) (by omega)
  have hri:=(g.rs _ (List.getElem_mem hi)).1
  simp [c_15_l2,cSe,h3,h5,h6,hi,hL]
  refine qef c.rows[i].length (fun k e=>look 3 e=some (.ptr 1 4 0 0)∧look 6 e=some (.int .i64 i)∧look 7 e=some (.int .i64 k)∧∃q,look 5 e=some (.int .i64 q)) IsB ?_ ?_ 0 _ (Nat.zero_le _) ?_
  ·rintro k e L' hk hL' ⟨h3,h6,h7,q,h5⟩ ih'
   have hw':IntKind.wrap .i64 ((k:Int)+1)=((k+1:Nat):Int):=qad (by omega) (by omega)
   by_cases x:(k:Int)<300
   rotate_left
   ·simp [c_15_l0,cSe,h3,h6,h7,hi,hk,hL,hL',x,c_15_k1,hw]
    exact ih _ ⟨by simp [h3],by simp,q,by simp [h5]⟩
   by_cases x0:30<c.rows[i][k].entry.keys.length
   ·simp [c_15_l0,cSe,Rw.ce,h3,h6,h7,hi,hk,hL,hL',x,x0]
   by_cases x1:30<c.rows[i][k].entry.call.args.length
   ·simp [c_15_l0,cSe,Rw.ce,h3,h6,h7,hi,hk,hL,hL',x,x0,x1]
   simp [c_15_l0,cSe,Rw.ce,h3,h6,h7,hi,hk,hL,hL',x,x0,x1,hw']
   exact ih' _ ⟨by simp [h3],by simp [h6],by simp,q,by simp [h5]⟩
  ·rintro e L' hL' ⟨h3,h6,h7,q,h5⟩
   simp [c_15_l0,cSe,h3,h6,h7,hi,hL,hL',c_15_k1,hw]
   exact ih _ ⟨by simp [h3],by simp,q,by simp [h5]⟩
  ·simp [h3,h6]
 ·rintro e L hL ⟨h3,h6,q,h5⟩
  simp [c_15_l2,h3,h6,hL]
  have:=s25_b p c g q
  simp only [hp1] at this
  apply this
  ·simp [h3]
  ·simp [h5]
 ·simp
theorem qaci (p:Prg) (c:Config) (f:PrgB p) (h:qab Φ f_15 [.agg (Prg.c p),.agg (Config.c c)]=some (.val (.bool true))):(pre p.control).length≤60:=by
 obtain ⟨b,hb⟩:=qw1 p f
 cases b with
 | true=>exact qach p f hb
 | false=>
  simp only [Prg.ce] at hb
  rw [qaa (fn:=c_15) rfl rfl] at h
  simp [c_15,Prg.ce,Config.ce,hb] at h
end Go.Av
