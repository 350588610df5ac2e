/-
 Comparison of configurations: both ways answer whether they are equal.
-/
import Derived.Test.YtakklbipljodeaaGreatL11
set_option linter.unusedVariables false
set_option linter.unusedSimpArgs false
set_option linter.constructorNameAsVariable false
namespace Go.Av
set_option maxRecDepth 4000
structure CfgS (a:Config):Prop where
 rl:a.rows.length<2^40
 rs:∀l∈a.rows,l.length<2^40∧∀r∈l,r.entry.sm
 nl:a.nextID.length<2^40
 dl:a.defaults.length<2^40
 ds:∀d∈a.defaults,d.args.length<2^40
 gl:a.registers.length<2^40
 gs:∀l∈a.registers,l.length<2^40
theorem Config.eq_iff (a b:Config):a=b↔a.rows=b.rows∧a.nextID=b.nextID∧a.defaults=b.defaults∧a.registers=b.registers:=by
 constructor
 ·rintro rfl;simp
 ·rintro ⟨h1,h2,h3,h4⟩;obtain ⟨x,y,z,u⟩:=a;obtain ⟨x',y',z',u'⟩:=b;simp only at h1 h2 h3 h4;subst h1 h2 h3 h4;rfl
theorem qm9 (l m:List Int) (hb:l.length<2^40):qab Φ f_50 [.slice 1 (l.map cI),.slice 1 (m.map cI)]=some (.val (.bool (decide (l=m)))):=by
 rw [qaa (fn:=c_50) rfl rfl];by_cases q1:l.length=m.length
 rotate_left
 ·have:l≠m:=fun h=>q1 (by rw [h])
  simp [c_50,q1,this]
 simp [c_50,q1];refine (qao l.length (fun i e=>look 0 e=some (.slice 1 (l.map cI))∧look 1 e=some (.slice 1 (m.map cI))∧look 5 e=some (.int .i64 i))
  (fun i=>some (Rt.val (AV.bool (qb1 l m i)))) ?_ ?_ 0 _ (Nat.zero_le _) ?_).trans (by simp [qb1])
 ·rintro i e L hi hL ⟨h0,h1,h5⟩ ih;have hi2:i<m.length:=by omega
  have hw:IntKind.wrap .i64 ((i:Int)+1)=((i+1:Nat):Int):=qac (by omega) (by omega);by_cases c:l[i]=m[i]
  ·rw [qdg hi hi2 c];simp [c_50_l0,cIe,hi,hi2,h0,h1,h5,hw,c];exact ih _ ⟨by simp [h0],by simp [h1],by simp⟩
  ·rw [qch hi hi2 c];simp [c_50_l0,cIe,hi,hi2,h0,h1,h5,c]
 ·rintro e L hL ⟨h0,h1,h5⟩;rw [qdf q1];simp [c_50_l0,c_50_k1, *]
 ·simp
theorem qaak (l m:List Int) (hb:l.length<2^40):qab Φ f_159 [.slice 1 (l.map c32),.slice 1 (m.map c32)]=some (.val (.bool (decide (l=m)))):=by
 rw [qaa (fn:=c_159) rfl rfl];by_cases q1:l.length=m.length
 rotate_left
 ·have:l≠m:=fun h=>q1 (by rw [h])
  simp [c_159,q1,this]
 simp [c_159,q1];refine (qao l.length (fun i e=>look 0 e=some (.slice 1 (l.map c32))∧look 1 e=some (.slice 1 (m.map c32))∧look 5 e=some (.int .i64 i))
  (fun i=>some (Rt.val (AV.bool (qb1 l m i)))) ?_ ?_ 0 _ (Nat.zero_le _) ?_).trans (by simp [qb1])
 ·rintro i e L hi hL ⟨h0,h1,h5⟩ ih;have hi2:i<m.length:=by omega
  have hw:IntKind.wrap .i64 ((i:Int)+1)=((i+1:Nat):Int):=qac (by omega) (by omega);by_cases c:l[i]=m[i]
  ·rw [qdg hi hi2 c];simp [c_159_l0,c32e,hi,hi2,h0,h1,h5,hw,c];exact ih _ ⟨by simp [h0],by simp [h1],by simp⟩
  ·rw [qch hi hi2 c];simp [c_159_l0,c32e,hi,hi2,h0,h1,h5,c]
 ·rintro e L hL ⟨h0,h1,h5⟩;rw [qdf q1];simp [c_159_l0,c_159_k1, *]
 ·simp
theorem qaai (l m:List (List Int)) (hb:l.length<2^40) (hf:∀x∈l,x.length<2^40):qab Φ f_70 [.slice 1 (l.map (cS 1 c32)),.slice 1 (m.map (cS 1 c32))]=some (.val (.bool (decide (l=m)))):=by
 rw [qaa (fn:=c_70) rfl rfl];by_cases q1:l.length=m.length
 rotate_left
 ·have:l≠m:=fun h=>q1 (by rw [h])
  simp [c_70,q1,this]
 simp [c_70,q1];refine (qao l.length (fun i e=>look 0 e=some (.slice 1 (l.map (cS 1 c32)))∧look 1 e=some (.slice 1 (m.map (cS 1 c32)))∧look 5 e=some (.int .i64 i))
  (fun i=>some (Rt.val (AV.bool (qb1 l m i)))) ?_ ?_ 0 _ (Nat.zero_le _) ?_).trans (by simp [qb1])
 ·rintro i e L hi hL ⟨h0,h1,h5⟩ ih;have hi2:i<m.length:=by omega
  have hw:IntKind.wrap .i64 ((i:Int)+1)=((i+1:Nat):Int):=qac (by omega) (by omega);have hee:=qaak l[i] m[i] (hf _ (List.getElem_mem hi));by_cases c:l[i]=m[i]
  ·rw [decide_eq_true c] at hee;rw [qdg hi hi2 c];simp [c_70_l0,cSe,hi,hi2,h0,h1,h5,hw,hee];refine (ih _ ⟨by simp [h0],by simp [h1],by simp⟩).trans (by simp)
  ·rw [decide_eq_false c] at hee;rw [qch hi hi2 c];simp [c_70_l0,cSe,hi,hi2,h0,h1,h5,hee]
 ·rintro e L hL ⟨h0,h1,h5⟩;rw [qdf q1];simp [c_70_l0,c_70_k1, *]
 ·simp
theorem qaaj (l m:List Rw) (hb:l.length<2^40) (hs:∀r∈l,r.entry.sm):qab Φ f_71 [.slice 5 (l.map Rw.c),.slice 5 (m.map Rw.c)]=some (.val (.bool (decide (l=m)))):=by
 rw [qaa (fn:=c_71) rfl rfl];by_cases q1:l.length=m.length
 rotate_left
 ·have:l≠m:=fun h=>q1 (by rw [h])
  simp [c_71,q1,this]
 simp [c_71,q1];refine (qao l.length (fun i e=>look 0 e=some (.slice 5 (l.map Rw.c))∧look 1 e=some (.slice 5 (m.map Rw.c))∧look 5 e=some (.int .i64 i))
  (fun i=>some (Rt.val (AV.bool (qb1 l m i)))) ?_ ?_ 0 _ (Nat.zero_le _) ?_).trans (by simp [qb1])
 ·rintro i e L hi hL ⟨h0,h1,h5⟩ ih;have hi2:i<m.length:=by omega
  have hw:IntKind.wrap .i64 ((i:Int)+1)=((i+1:Nat):Int):=qac (by omega) (by omega);have hee:=qya l[i].entry m[i].entry (hs _ (List.getElem_mem hi));simp only [Entry.ce] at hee;by_cases c1:l[i].id=m[i].id
  rotate_left
  ·rw [qch hi hi2 (fun h=>c1 (by rw [h]))];simp [c_71_l0,Rw.ce,hi,hi2,h0,h1,h5,c1]
  by_cases c2:l[i].entry.priority=m[i].entry.priority
  rotate_left
  ·rw [qch hi hi2 (fun h=>c2 (by rw [h]))];simp [c_71_l0,Rw.ce,hi,hi2,h0,h1,h5,c1,c2]
  by_cases c:l[i].entry=m[i].entry
  ·rw [decide_eq_true c,c2] at hee;rw [qdg hi hi2 ((Rw.eq_iff _ _).2 ⟨c1,c⟩)];simp [c_71_l0,Rw.ce,hi,hi2,h0,h1,h5,hw,c1,c2,hee];refine (ih _ ⟨by simp [h0],by simp [h1],by simp⟩).trans (by simp)
  ·rw [decide_eq_false c,c2] at hee;rw [qch hi hi2 (fun h=>c (by rw [h]))];simp [c_71_l0,Rw.ce,hi,hi2,h0,h1,h5,c1,c2,hee]
 ·rintro e L hL ⟨h0,h1,h5⟩;rw [qdf q1];simp [c_71_l0,c_71_k1, *]
 ·simp
theorem qx9 (x y:ActionCall) (h:x.args.length<2^40):qab Φ f_72 [.agg (ActionCall.c x),.agg (ActionCall.c y)]=some (.val (.bool (decide (x=y)))):=by
 rw [decide_eq_decide.2 (ActionCall.eq_iff x y)];exact qks x.action y.action x.args y.args h
theorem qn7 (a b:Config) (f:CfgS a):qab Φ f_20 [.agg (Config.c a),.agg (Config.c b)]=some (.val (.bool (decide (a=b)))):=by
 have ee:decide (a=b)=decide (a.rows=b.rows∧a.nextID=b.nextID∧a.defaults=b.defaults∧a.registers=b.registers):=decide_eq_decide.2 (Config.eq_iff a b);rw [ee,qaa (fn:=c_20) rfl rfl];have g2:=qm9 a.nextID b.nextID f.nl;have g4:=qaai a.registers b.registers f.gl f.gs;by_cases q1:a.rows.length=b.rows.length
 rotate_left
 ·have:a.rows≠b.rows:=fun h=>q1 (by rw [h])
  simp [c_20,Config.ce,q1,this]
 by_cases q2:a.nextID=b.nextID
 rotate_left
 ·simp [c_20,Config.ce,q1,q2,g2]
 by_cases q3:a.defaults.length=b.defaults.length
 rotate_left
 ·have:a.defaults≠b.defaults:=fun h=>q3 (by rw [h])
  rw [q2] at g2;simp [c_20,Config.ce,q1,q2,g2,q3,this]
 by_cases q4:a.registers=b.registers
 rotate_left
 ·rw [q2] at g2;simp [c_20,Config.ce,q1,q2,q3,g2,g4,q4]
 rw [q2] at g2;rw [q4] at g4;simp [c_20,Config.ce,q1,q2,q3,q4,g2,g4];refine (qao a.rows.length (fun i e=>look 2 e=some (.ptr 0 4 0 0)∧look 3 e=some (.ptr 1 4 0 0)∧look 5 e=some (.int .i64 i))
  (fun i=>some (Rt.val (AV.bool (qb1 a.rows b.rows i&&decide (a.defaults=b.defaults))))) ?_ ?_ 0 _ (Nat.zero_le _) ?_).trans (by simp [qb1])
 ·rintro i e L hi hL ⟨h2,h3,h5⟩ ih;have hi2:i<b.rows.length:=by omega
  have hw:IntKind.wrap .i64 ((i:Int)+1)=((i+1:Nat):Int):=qac (by omega) (by have:=f.rl;omega);obtain ⟨u1,u2⟩:=f.rs _ (List.getElem_mem hi);have hee:=qaaj a.rows[i] b.rows[i] u1 u2;by_cases c:a.rows[i]=b.rows[i]
  ·rw [decide_eq_true c] at hee;rw [qdg hi hi2 c];simp [c_20_l0,cSe,hi,hi2,h2,h3,h5,hee,hw];refine (ih _ ⟨by simp [h2],by simp [h3],by simp⟩).trans (by simp)
  ·rw [decide_eq_false c] at hee;rw [qch hi hi2 c];simp [c_20_l0,cSe,hi,hi2,h2,h3,h5,hee]
 ·rintro e L hL ⟨h2,h3,h5⟩;rw [qdf q1];simp [c_20_l0,c_20_k3,h2,h5,hL];refine (qao a.defaults.length (fun i e=>look 2 e=some (.ptr 0 4 0 0)∧look 3 e=some (.ptr 1 4 0 0)∧look 6 e=some (.int .i64 i))
   (fun i=>some (Rt.val (AV.bool (qb1 a.defaults b.defaults i)))) ?_ ?_ 0 _ (Nat.zero_le _) ?_).trans (by simp [qb1])
  ·rintro i e L' hi hL' ⟨h2,h3,h6⟩ ih;have hi2:i<b.defaults.length:=by omega
   have hw:IntKind.wrap .i64 ((i:Int)+1)=((i+1:Nat):Int):=qac (by omega) (by have:=f.dl;omega);have hee:=qx9 a.defaults[i] b.defaults[i] (f.ds _ (List.getElem_mem hi));simp only [ActionCall.ce] at hee;by_cases c:a.defaults[i]=b.defaults[i]
   ·rw [decide_eq_true c] at hee;rw [qdg hi hi2 c];simp [c_20_l1,ActionCall.ce,hi,hi2,h2,h3,h6,hee,hw];refine (ih _ ⟨by simp [h2],by simp [h3],by simp⟩).trans (by simp)
   ·rw [decide_eq_false c] at hee;rw [qch hi hi2 c];simp [c_20_l1,ActionCall.ce,hi,hi2,h2,h3,h6,hee]
  ·rintro e L' hL' ⟨h2,h3,h6⟩;rw [qdf q3];simp [c_20_l1,c_20_k2,h2,h6,hL']
  ·simp [h2,h3]
 ·simp
theorem Action.ce (x:Action):Action.c x=[.str x.name,.slice 2 (x.params.map Fld.c),.slice 7 (x.body.map Statement.c)]:=by simp [Action.c]
theorem Header.ce (x:Header):Header.c x=[.str x.name,.slice 2 (x.fields.map Fld.c)]:=by simp [Header.c]
theorem Register.ce (x:Register):Register.c x=[.str x.name,.int .i64 x.width,.int .i64 x.size]:=by simp [Register.c]
theorem Statement.ce (x:Statement):Statement.c x=[.int .i64 x.kind,.int .i64 x.dst.header,.int .i64 x.dst.field,.int .i64 x.register,.int .i64 x.header,.slice 3 (x.index.map ExprNode.c),.slice 3 (x.value.map ExprNode.c)]:=by simp [Statement.c]
theorem Tbl.ce (x:Tbl):Tbl.c x=[.str x.name,.slice 3 (x.keys.map TableKey.c),.slice 1 (x.actions.map cI),.int .i64 x.dflt.action,.slice 1 (x.dflt.args.map c32),.int .i64 x.size]:=by simp [Tbl.c]
theorem ParserState.ce (x:ParserState):ParserState.c x=[.str x.name,.slice 1 (x.extract.map cI),.bool x.select,.int .i64 x.on.header,.int .i64 x.on.field,.slice 3 (x.cases.map SelectCase.c),.int .i64 x.dflt]:=by simp [ParserState.c]
theorem ControlNode.ce (k t:Int) (c:List ExprNode) (a b:List ControlNode):ControlNode.c (.mk k t c a b)=[.int .i64 k,.int .i64 t,.slice 3 (c.map ExprNode.c),.slice 5 (a.map ControlNode.c),.slice 5 (b.map ControlNode.c)]:=by simp [ControlNode.c,ControlNode.cs_eq]
theorem Prg.ce (x:Prg):Prg.c x=[.str x.name,.slice 2 (x.headers.map Header.c),.slice 2 (x.metadata.map Fld.c),.slice 3 (x.registers.map Register.c),.slice 3 (x.actions.map Action.c),.slice 6 (x.tables.map Tbl.c),.slice 7 (x.states.map ParserState.c),.slice 5 (x.control.map ControlNode.c),.slice 1 (x.deparser.map cI)]:=by simp [Prg.c]
def hp0 (p:Prg):AH:=⟨[(0,.row 9 [[.str p.name,.slice 2 (p.headers.map Header.c),.slice 2 (p.metadata.map Fld.c),.slice 3 (p.registers.map Register.c),.slice 3 (p.actions.map Action.c),.slice 6 (p.tables.map Tbl.c),.slice 7 (p.states.map ParserState.c),.slice 5 (p.control.map ControlNode.c),.slice 1 (p.deparser.map cI)]])],1⟩
structure PrgB (p:Prg):Prop where
 h:p.headers.length<2^40
 r:p.registers.length<2^40
 a:p.actions.length<2^40
 b:∀x∈p.actions,x.body.length<2^40
 t:p.tables.length<2^40
 s:p.states.length<2^40
 c:p.control.length<2^40
 co:∀x∈p.control,ControlNode.Ok qbd x
theorem qab1 {p:Prg} (o:p.Ok qbd):PrgB p:=by
 obtain ⟨_,o1,o2,o3,o4,o5,o6,o7,o8⟩:=o;have e:=qdq;refine ⟨by have:=o1.1;omega,by have:=o3.1;omega,by have:=o4.1;omega,?_,by have:=o5.1;omega,by have:=o6.1;omega,by have:=o7.1;omega,o7.2⟩;intro x hx;have h:=o4.2 x hx;simp only [Action.Ok] at h;have:=h.2.2.1;omega
def hp1 (p:Prg) (c:Config):AH:=⟨[(0,.row 9 [[.str p.name,.slice 2 (p.headers.map Header.c),.slice 2 (p.metadata.map Fld.c),.slice 3 (p.registers.map Register.c),.slice 3 (p.actions.map Action.c),.slice 6 (p.tables.map Tbl.c),.slice 7 (p.states.map ParserState.c),.slice 5 (p.control.map ControlNode.c),.slice 1 (p.deparser.map cI)]]),(1,.row 4 [[.slice 1 (c.rows.map (cS 5 Rw.c)),.slice 1 (c.nextID.map cI),.slice 2 (c.defaults.map ActionCall.c),.slice 1 (c.registers.map (cS 1 c32))]])],2⟩
def tOk (p:Prg) (t:Int):Bool:=decide ((tblE p t).2=0)
theorem keyV {p:Prg} {x:Tbl} (h:keyE p x=none):∀k∈x.keys,k.kind=1∨k.kind=2∨k.kind=3:=by
 intro k hk;obtain ⟨i,hi,rfl⟩:=List.getElem_of_mem hk;have:=(fe_all.1 h) i hi;simp [hi] at this;split at this
 ·cases this
 ·split at this
  ·assumption
  ·cases this
structure TOk (p:Prg) (k:Nat) (hk:k<p.tables.length):Prop where
 keys:p.tables[k].keys.length≤6
 acts:p.tables[k].actions.length≤16
 kinds:∀x∈p.tables[k].keys,x.kind=1∨x.kind=2∨x.kind=3
 size:1≤p.tables[k].size∧p.tables[k].size≤256
theorem qhm {p:Prg} {t:Int} (h:tOk p t=true):∃(k:Nat) (hk:k<p.tables.length),t=k∧TOk p k hk:=by
 simp only [tOk,decide_eq_true_eq] at h;by_cases i0:t<0
 ·simp [tblE,qbq i0] at h
 by_cases i1:(p.tables.length:Int)≤t
 ·simp [tblE,qbp i1] at h
 obtain ⟨k,rfl⟩:∃k:Nat,t=k:=⟨t.toNat,by omega⟩;have hk:k<p.tables.length:=by omega
 refine ⟨k,hk,rfl,?_⟩;unfold tblE at h;rw [qkz,List.getElem?_eq_getElem hk] at h;dsimp only at h;by_cases z0:idS p.tables[k].name=false
 ·rw [if_pos z0] at h;cases h
 rw [if_neg z0] at h;by_cases z1:6<p.tables[k].keys.length∨16<p.tables[k].actions.length
 ·rw [if_pos z1] at h;cases h
 rw [if_neg z1] at h;by_cases z2:p.tables[k].size<1∨256<p.tables[k].size
 ·rw [if_pos z2] at h;cases h
 rw [if_neg z2] at h;by_cases z3:(qep p p.tables[k]).2≠0
 ·rw [if_pos z3] at h;exact absurd h z3
 refine ⟨by omega,by omega,?_,by omega⟩;unfold qep at z3;cases q:keyE p p.tables[k] with
 | none=>exact keyV q
 | some e=>
  exfalso;rw [q] at z3;dsimp only at z3;obtain ⟨i,hi,hx⟩:=qd7 q;simp only [Option.bind_eq_some_iff] at hx;obtain ⟨y,_,hy⟩:=hx;split at hy
  ·cases hy;exact z3 (by simp)
  ·split at hy
   ·cases hy
   ·cases hy;exact z3 (by simp)
theorem qlr (p:Prg) (f:PrgS p) (t:Int):qab Φ f_260 [.agg (Prg.c p),.int .i64 t]=some (.val (.bool (tOk p t))):=by
 rw [qaa (fn:=c_260) rfl rfl];have h:=qpn p f t;simp only [Prg.e] at h;simp [c_260,Prg.e,h,tOk]
theorem qkh (p:Prg) (f:PrgS p) (hv:∀t∈p.tables,∀v∈t.dflt.args,ok32 0 v) (t:Int):qab Φ f_252 [.agg (Prg.c p),.int .i64 t]=some (.val (.bool (tOk p t))):=by
 rw [qaa (fn:=c_252) rfl rfl];have h:=qnc p f hv t;simp only [Prg.e] at h;simp [c_252,Prg.e,h,tOk]
def kMax:List TableKey→Int→Int
 | [],a=>a
 | k::r,a=>kMax r (max a k.kind)
def qgf (p:Prg) (t:Int):Int:=if tOk p t then (match at? p.tables t with
 | some x=>kMax x.keys 1
 | none=>0) else 0
theorem qxy:∀(l:List TableKey) (a:Int),a=3→(∀x∈l,x.kind=1∨x.kind=2∨x.kind=3)→kMax l a=3
 | [],a,h,_=>h
 | k::r,a,h,hk=>by
  subst h;have:=hk k (by simp);simp only [kMax];exact qxy r _ (by omega) fun x hx=>hk x (by simp [hx])
theorem qabs (p:Prg) (f:PrgS p) (t:Int):qab Φ f_178 [.agg (Prg.c p),.int .i64 t]=some (.val (.int .i64 (qgf p t))):=by
 rw [qaa (fn:=c_178) rfl rfl];have h:=qlr p f t;simp only [Prg.e] at h;cases q:tOk p t with
 | false=>
  rw [q] at h;simp [c_178,Prg.e,h,qgf,q]
 | true=>
 rw [q] at h;obtain ⟨k,hk,rfl,o⟩:=qhm q;have hK:qgf p (k:Int)=kMax p.tables[k].keys 1:=by simp [qgf,q,hk]
 rw [hK];have hb:=o.keys;simp [c_178,Prg.e,h,hk,Tbl.e];refine qaw p.tables[k].keys.length (fun _=>[]) 0 (fun i e=>look 17 e=some (.slice 3 (p.tables[k].keys.map TableKey.c))∧look 18 e=some (.int .i64 p.tables[k].keys.length)∧look 19 e=some (.int .i64 i)∧∃a:Int,look 5 e=some (.int .i64 a)∧(a=1∨a=2)∧kMax (p.tables[k].keys.drop i) a=kMax p.tables[k].keys 1)
  (fun _=>some (Rt.val (.int .i64 (kMax p.tables[k].keys 1)))) ?_ ?_ 0 _ 0 (Nat.zero_le _) (Nat.le_refl _) ?_
 ·rintro i e n L hi hL _ ⟨h17,h18,h19,a,h5,ha,hm⟩ ih;have hw:IntKind.wrap .i64 ((i:Int)+1)=((i+1:Nat):Int):=qac (by omega) (by omega);rw [List.drop_eq_getElem_cons hi] at hm;simp only [kMax] at hm;have hkk:=o.kinds _ (List.getElem_mem hi);by_cases k3:p.tables[k].keys[i].kind=3
  ·have:kMax p.tables[k].keys 1=3:=by
    rw [← hm];exact qxy _ _ (by omega) fun x hx=>o.kinds x (List.mem_of_mem_drop hx)
   rw [this];simp [c_178_l0,TableKey.e,h17,h18,h19,hi,k3]
  by_cases k2:p.tables[k].keys[i].kind=2
  ·simp [c_178_l0,TableKey.e,h17,h18,h19,hi,k2,hw];exact ih _ _ (Nat.zero_le _) ⟨by simp [h17],by simp [h18],by simp,2,by simp,.inr rfl,by rw [← hm];congr 1;omega⟩
  ·simp [c_178_l0,TableKey.e,h17,h18,h19,hi,k3,k2,hw];exact ih _ _ (Nat.zero_le _) ⟨by simp [h17],by simp [h18],by simp,a,by simp [h5],ha,by rw [← hm];congr 1;omega⟩
 ·rintro e n L hL _ ⟨h17,h18,h19,a,h5,ha,hm⟩;rw [List.drop_length] at hm;simp only [kMax] at hm;rw [← hm];simp [c_178_l0,c_178_k1,h5,h18,h19,hL]
 ·simp
theorem qaav (p:Prg) (f:PrgS p) (hv:∀t∈p.tables,∀v∈t.dflt.args,ok32 0 v) (t:Int):qab Φ f_251 [.agg (Prg.c p),.int .i64 t]=some (.val (.int .i64 (qgf p t))):=by
 rw [qaa (fn:=c_251) rfl rfl];have h:=qkh p f hv t;simp only [Prg.e] at h;cases q:tOk p t with
 | false=>
  rw [q] at h;simp [c_251,Prg.e,h,qgf,q]
 | true=>
 rw [q] at h;obtain ⟨k,hk,rfl,o⟩:=qhm q;have hK:qgf p (k:Int)=kMax p.tables[k].keys 1:=by simp [qgf,q,hk]
 rw [hK];have hb:=o.keys;simp [c_251,Prg.e,h];refine qaw p.tables[k].keys.length (fun _=>[]) 0 (fun i e=>look 2 e=some (.iptr 9 [Prg.c p] 0 0)∧look 1 e=some (.int .i64 k)∧look 6 e=some (.int .i64 i)∧∃a:Int,look 5 e=some (.int .i64 a)∧kMax (p.tables[k].keys.drop i) a=kMax p.tables[k].keys 1)
  (fun _=>some (Rt.val (.int .i64 (kMax p.tables[k].keys 1)))) ?_ ?_ 0 _ 0 (Nat.zero_le _) (Nat.le_refl _) ?_
 ·rintro i e n L hi hL _ ⟨h2,h1,h6,a,h5,hm⟩ ih;have hw:IntKind.wrap .i64 ((i:Int)+1)=((i+1:Nat):Int):=qac (by omega) (by omega);rw [List.drop_eq_getElem_cons hi] at hm;simp only [kMax] at hm;rw [Prg.e] at h2;simp [c_251_l0,TableKey.e,Tbl.e,h1,h2,h5,h6,hk,hi,hw];exact ih _ _ (Nat.zero_le _) ⟨by simp [h2,Prg.e],by simp [h1],by simp,max a p.tables[k].keys[i].kind,by simp;split<;>omega,hm⟩
 ·rintro e n L hL _ ⟨h2,h1,h6,a,h5,hm⟩;rw [List.drop_length] at hm;simp only [kMax] at hm;rw [Prg.e] at h2;rw [← hm];simp [c_251_l0,c_251_k1,Tbl.e,h1,h2,h5,h6,hk,hL]
 ·simp [Prg.e]
theorem qwm (p:Prg) (f:PrgS p) (k:Nat) (hk:k<p.tables.length) (q:tOk p k=true):qab Φ f_176 [.agg (Prg.c p),.int .i64 k]=some (.val (.slice 1 ((kWid p p.tables[k]).map cI))):=by
 rw [qaa (fn:=c_176) rfl rfl];have h:=qlr p f k;rw [q] at h;simp only [Prg.e] at h;obtain ⟨k',hk',e,o⟩:=qhm q;obtain rfl:k=k':=by omega
 have hb:=o.keys;have e0:(kWid p p.tables[k]).map cI=p.tables[k].keys.map fun y=>[AV.int .i64 (wid p y.field.header y.field.field)]:=by simp [kWid,cI]
 rw [e0];simp [c_176,Prg.e,h,hk,Tbl.e];refine (qaw p.tables[k].keys.length (fun i=>[(0,.tok 1 i)]) 1 (fun i e=>look 2 e=some (.iptr 9 [Prg.c p] 0 0)∧look 5 e=some (.app 1 ((p.tables[k].keys.map fun y=>[AV.int .i64 (wid p y.field.header y.field.field)]).take i) 0)∧look 17 e=some (.slice 3 (p.tables[k].keys.map TableKey.c))∧look 18 e=some (.int .i64 p.tables[k].keys.length)∧look 19 e=some (.int .i64 i))
  (fun _=>some (Rt.val (.slice 1 (p.tables[k].keys.map fun y=>[AV.int .i64 (wid p y.field.header y.field.field)])))) ?_ ?_ 0 _ 1 (Nat.zero_le _) (Nat.le_refl _) ?_).trans (by simp)
 ·rintro i e n L hi hL hn ⟨h2,h5,h17,h18,h19⟩ ih;have hw:IntKind.wrap .i64 ((i:Int)+1)=((i+1:Nat):Int):=qac (by omega) (by omega);have hv:=qoo p p.tables[k].keys[i].field.header p.tables[k].keys[i].field.field;simp only [Prg.e] at hv;rw [Prg.e] at h2;have hn0:¬(0=n):=by omega
  have hn1:¬(n=0):=by omega
  have hm:min i p.tables[k].keys.length=i:=by omega
  have hb:(i+1)*8≤70368744177664:=by omega
  simp [c_176_l0,TableKey.e,h2,h5,h17,h18,h19,hi,hw,hn0,hm,hb,hv];exact ih _ _ (by omega) ⟨by simp [h2,Prg.e],by simp [qa1 hi],by simp [h17],by simp [h18],by simp⟩
 ·rintro e n L hL hn ⟨h2,h5,h17,h18,h19⟩;simp [c_176_l0,c_176_k1,h5,h18,h19,hL]
 ·simp [Prg.e]
theorem qv9 (p:Prg) (f:PrgS p) (hv:∀t∈p.tables,∀v∈t.dflt.args,ok32 0 v) (k:Nat) (hk:k<p.tables.length) (q:tOk p k=true):qab Φ f_249 [.agg (Prg.c p),.int .i64 k]=some (.val (.slice 1 ((kWid p p.tables[k]).map cI))):=by
 rw [qaa (fn:=c_249) rfl rfl];have h:=qkh p f hv k;rw [q] at h;simp only [Prg.e] at h;obtain ⟨k',hk',e,o⟩:=qhm q;obtain rfl:k=k':=by omega
 have hb:=o.keys;have e0:(kWid p p.tables[k]).map cI=p.tables[k].keys.map fun y=>[AV.int .i64 (wid p y.field.header y.field.field)]:=by simp [kWid,cI]
 rw [e0];simp [c_249,Prg.e,h];refine (qaw p.tables[k].keys.length (fun i=>[(0,.tok 1 i)]) 1 (fun i e=>look 2 e=some (.iptr 9 [Prg.c p] 0 0)∧look 1 e=some (.int .i64 k)∧look 5 e=some (.app 1 ((p.tables[k].keys.map fun y=>[AV.int .i64 (wid p y.field.header y.field.field)]).take i) 0)∧look 6 e=some (.int .i64 i))
  (fun _=>some (Rt.val (.slice 1 (p.tables[k].keys.map fun y=>[AV.int .i64 (wid p y.field.header y.field.field)])))) ?_ ?_ 0 _ 1 (Nat.zero_le _) (Nat.le_refl _) ?_).trans (by simp)
 ·rintro i e n L hi hL hn ⟨h2,h1,h5,h6⟩ ih;have hw:IntKind.wrap .i64 ((i:Int)+1)=((i+1:Nat):Int):=qac (by omega) (by omega);have hv:=qqf p p.tables[k].keys[i].field.header p.tables[k].keys[i].field.field;simp only [Prg.e] at hv;rw [Prg.e] at h2;have hn0:¬(0=n):=by omega
  have hn1:¬(n=0):=by omega
  have hm:min i p.tables[k].keys.length=i:=by omega
  have hb:(i+1)*8≤70368744177664:=by omega
  simp [c_249_l0,TableKey.e,Tbl.e,h1,h2,h5,h6,hk,hi,hw,hm,hb,hv];exact ih _ _ (by omega) ⟨by simp [h2,Prg.e],by simp [h1],by simp [qa1 hi],by simp⟩
 ·rintro e n L hL hn ⟨h2,h1,h5,h6⟩;rw [Prg.e] at h2;simp [c_249_l0,c_249_k1,Tbl.e,h1,h2,h5,h6,hk,hL]
 ·simp [Prg.e]
def tAl (p:Prg) (t a:Int):Bool:=tOk p t&&(match at? p.tables t with
 | some x=>x.actions.any fun s=>decide (s=a)
 | none=>false)
theorem qok (p:Prg) (f:PrgS p) (t a:Int):qab Φ f_179 [.agg (Prg.c p),.int .i64 t,.int .i64 a]=some (.val (.bool (tAl p t a))):=by
 rw [qaa (fn:=c_179) rfl rfl];have h:=qlr p f t;simp only [Prg.e] at h;cases q:tOk p t with
 | false=>
  rw [q] at h;simp [c_179,Prg.e,h,tAl,q]
 | true=>
 rw [q] at h;obtain ⟨k,hk,rfl,o⟩:=qhm q;have hK:tAl p (k:Int) a=p.tables[k].actions.any fun s=>decide (s=a):=by simp [tAl,q,hk]
 rw [hK];have hb:=o.acts;simp [c_179,Prg.e,h,hk,Tbl.e];refine (qaw p.tables[k].actions.length (fun _=>[]) 0 (fun i e=>look 2 e=some (.int .i64 a)∧look 18 e=some (.slice 1 (p.tables[k].actions.map cI))∧look 19 e=some (.int .i64 p.tables[k].actions.length)∧look 20 e=some (.int .i64 i))
  (fun i=>some (Rt.val (.bool ((p.tables[k].actions.drop i).any fun s=>decide (s=a))))) ?_ ?_ 0 _ 0 (Nat.zero_le _) (Nat.le_refl _) ?_).trans (by simp)
 ·rintro i e n L hi hL _ ⟨h2,h18,h19,h20⟩ ih;have hw:IntKind.wrap .i64 ((i:Int)+1)=((i+1:Nat):Int):=qac (by omega) (by omega);rw [List.drop_eq_getElem_cons hi,List.any_cons];by_cases z:p.tables[k].actions[i]=a
  ·generalize hX:some (Rt.val (AV.bool (decide (p.tables[k].actions[i]=a) || (p.tables[k].actions.drop (i+1)).any fun s=>decide (s=a))))=X;simp [c_179_l0,cI,h2,h18,h19,h20,hi,z];rw [← hX];simp [z]
  ·rw [show (decide (p.tables[k].actions[i]=a) || (p.tables[k].actions.drop (i+1)).any fun s=>decide (s=a))=(p.tables[k].actions.drop (i+1)).any fun s=>decide (s=a) by simp [z]];generalize hX:some (Rt.val (AV.bool ((p.tables[k].actions.drop (i+1)).any fun s=>decide (s=a))))=X;simp [c_179_l0,cI,h2,h18,h19,h20,hi,z,hw];rw [← hX];exact ih _ _ (Nat.zero_le _) ⟨by simp [h2],by simp [h18],by simp [h19],by simp⟩
 ·rintro e n L hL _ ⟨h2,h18,h19,h20⟩;simp [c_179_l0,c_179_k1,h19,h20,hL]
 ·simp
theorem qn8 (p:Prg) (f:PrgS p) (hv:∀t∈p.tables,∀v∈t.dflt.args,ok32 0 v) (t a:Int):qab Φ f_155 [.agg (Prg.c p),.int .i64 t,.int .i64 a]=some (.val (.bool (tAl p t a))):=by
 rw [qaa (fn:=c_155) rfl rfl];have h:=qkh p f hv t;simp only [Prg.e] at h;cases q:tOk p t with
 | false=>
  rw [q] at h;simp [c_155,Prg.e,h,tAl,q]
 | true=>
 rw [q] at h;obtain ⟨k,hk,rfl,o⟩:=qhm q;have hK:tAl p (k:Int) a=p.tables[k].actions.any fun s=>decide (s=a):=by simp [tAl,q,hk]
 have hb:=o.acts;have hx:=qll p.tables[k].actions a (by omega);rw [hK,← qid];simp [c_155,Prg.e,Tbl.e,h,hk,hx]
def pmI (n k:Nat):Int:=2^k - 2^(k - n)
theorem qagw:∀k:Nat,k<33→∀n:Nat,n<33→n≤k→qgo .u32 (2^k - 1) (ishr .u32 (2^k - 1) (n:Int))=pmI n k:=by decide+kernel
theorem qaag (n k:Nat) (h:n≤k) (h1:1≤k) (h2:k≤32):qab Φ f_319 [.int .i64 n,.int .i64 k]=some (.val (.int .u32 (pmI n k))):=by
 rw [qaa (fn:=c_319) rfl rfl];have hv:=qiy k;have hm:=qf0 k;have hw:wBad (k:Int)=false:=wBad_false.2 ⟨by omega,by omega⟩;have hM:qbe (k:Int)=2^k - 1:=by simp [qbe,hw]
 rw [hw] at hv;rw [hM] at hm;have hp:=qagw k (by omega) n (by omega) h;have n1:¬((n:Int)<0):=by omega
 have n2:¬((k:Int)<n):=by omega
 simp [c_319,hv,hm,n1,n2];exact hp
theorem qaho:∀k:Nat,k<33→∀n:Nat,n<33→n≤k→IntKind.wrap .u32 (IntKind.wrap .u64 (2^k - 2^(k - n)))=pmI n k:=by decide+kernel
theorem qyo (n k:Nat) (h:n≤k) (h1:1≤k) (h2:k≤32):qab Φ f_338 [.int .i64 n,.int .i64 k]=some (.val (.int .u32 (pmI n k))):=by
 rw [qaa (fn:=c_338) rfl rfl];have hv:=qiw k;have hw:wBad (k:Int)=false:=wBad_false.2 ⟨by omega,by omega⟩;rw [hw] at hv;have p1:=qkc k (by omega);have p2:=qkc (k - n) (by omega);have hs:IntKind.wrap .i64 ((k:Int) - n)=((k - n:Nat):Int):=by
  rw [show (k:Int) - n=((k - n:Nat):Int) by omega];exact qac (by omega) (by omega)
 have n1:¬((n:Int)<0):=by omega
 have n2:¬((k:Int)<n):=by omega
 simp [c_338,hv,p1,p2,n1,n2,hs];exact qaho k (by omega) n (by omega) h
def plG (m:Int) (k:Nat) (n:Nat):Option Int:=if pmI n k=m then some (n:Int) else none
def plE (m w:Int):Option Int:=if wBad w then none else fe (plG m w.toNat) (w.toNat+1) 0
def plV (o:Option Int):Rt:= .val (.tup [.int .i64 (o.getD 0),.bool o.isSome])
theorem qadx (m w:Int):qab Φ f_263 [.int .u32 m,.int .i64 w]=some (plV (plE m w)):=by
 rw [qaa (fn:=c_263) rfl rfl];have hv:=qiy w;cases q:wBad w with
 | true=>
  rw [q] at hv;simp [c_263,hv,plE,q,plV]
 | false=>
 rw [q] at hv;obtain ⟨w1,w2⟩:=wBad_false.1 q;obtain ⟨k,rfl⟩:∃k:Nat,w=k:=⟨w.toNat,by omega⟩;have hw1:IntKind.wrap .i64 ((k:Int)+1)=((k+1:Nat):Int):=qac (by omega) (by omega);have hE:plE m (k:Int)=fe (plG m k) (k+1) 0:=by simp [plE,q]
 rw [hE];simp [c_263,hv,hw1];refine qaw (k+1) (fun _=>[]) 0 (fun i e=>look 0 e=some (.int .u32 m)∧look 1 e=some (.int .i64 k)∧look 12 e=some (.int .i64 ((k:Int)+1))∧look 13 e=some (.int .i64 i))
  (fun i=>some (plV (fe (plG m k) (k+1) i))) ?_ ?_ 0 _ 0 (Nat.zero_le _) (Nat.le_refl _) ?_
 ·rintro i e n L hi hL _ ⟨h0,h1,h12,h13⟩ ih;have hw:IntKind.wrap .i64 ((i:Int)+1)=((i+1:Nat):Int):=qac (by omega) (by omega);have hp:=qaag i k (by omega) (by omega) (by omega);have hlt:(i:Int)<(k:Int)+1:=by omega
  by_cases z:pmI i k=m
  ·rw [qai (x:=(i:Int)) hi (by simp [plG,z])];subst z;simp [c_263_l0,h0,h1,h12,h13,hp,hlt,plV]
  ·rw [qap hi (by simp [plG,z])];generalize hX:some (plV (fe (plG m k) (k+1) (i+1)))=X;simp [c_263_l0,h0,h1,h12,h13,hp,hlt,z,hw];rw [← hX];exact ih _ _ (Nat.zero_le _) ⟨by simp [h0],by simp [h1],by simp [h12],by simp⟩
 ·rintro e n L hL _ ⟨h0,h1,h12,h13⟩;rw [qa0];simp [c_263_l0,c_263_k1,h12,h13,hL,plV]
 ·simp
theorem qaa0 (m w:Int):qab Φ f_307 [.int .u32 m,.int .i64 w]=some (plV (plE m w)):=by
 rw [qaa (fn:=c_307) rfl rfl];have hv:=qiw w;cases q:wBad w with
 | true=>
  rw [q] at hv;simp [c_307];rw [qay];by_cases z:0≤w
  ·simp [c_307_l0,c_307_k1,hv,z,plE,q,plV]
  ·simp [c_307_l0,c_307_k1,z,plE,q,plV]
 | false=>
 rw [q] at hv;obtain ⟨w1,w2⟩:=wBad_false.1 q;obtain ⟨k,rfl⟩:∃k:Nat,w=k:=⟨w.toNat,by omega⟩;have hE:plE m (k:Int)=fe (plG m k) (k+1) 0:=by simp [plE,q]
 rw [hE];simp [c_307];refine qaw (k+1) (fun _=>[]) 0 (fun i e=>look 0 e=some (.int .u32 m)∧look 1 e=some (.int .i64 k)∧look 6 e=some (.int .i64 i))
  (fun i=>some (plV (fe (plG m k) (k+1) i))) ?_ ?_ 0 _ 0 (Nat.zero_le _) (Nat.le_refl _) ?_
 ·rintro i e n L hi hL _ ⟨h0,h1,h6⟩ ih;have hw:IntKind.wrap .i64 ((i:Int)+1)=((i+1:Nat):Int):=qac (by omega) (by omega);have hp:=qyo i k (by omega) (by omega) (by omega);have hle:i≤k:=by omega
  by_cases z:pmI i k=m
  ·rw [qai (x:=(i:Int)) hi (by simp [plG,z])];subst z;simp [c_307_l0,h0,h1,h6,hv,hp,hle,plV]
  ·rw [qap hi (by simp [plG,z])];generalize hX:some (plV (fe (plG m k) (k+1) (i+1)))=X;simp [c_307_l0,h0,h1,h6,hv,hp,hle,z,hw];rw [← hX];exact ih _ _ (Nat.zero_le _) ⟨by simp [h0],by simp [h1],by simp⟩
 ·rintro e n L hL _ ⟨h0,h1,h6⟩;rw [qa0];have hgt:¬((k:Int)+1≤(k:Int)):=by omega
  simp [c_307_l0,c_307_k1,h1,h6,hL,hgt,plV]
 ·simp
end Go.Av
