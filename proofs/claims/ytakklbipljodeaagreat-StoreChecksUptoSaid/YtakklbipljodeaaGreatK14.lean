/-
 The parser and the deparser: the program's answers.
-/
import Derived.Test.YtakklbipljodeaaGreatK11
set_option linter.unusedVariables false
set_option linter.unusedSimpArgs false
set_option linter.constructorNameAsVariable false
namespace Go.Av
set_option maxRecDepth 4000
theorem qdx {α β:Type} [BEq β] [LawfulBEq β] [DecidableEq β] (f:α→β) (a:β):∀l:List α,(l.map f).contains a=l.any fun y=>decide (f y=a)
 | []=>by simp
 | x::l=>by
  have ih:=qdx f a l
  simp only [List.map_cons,List.contains_cons,List.any_cons,ih]
  congr 1
  by_cases h:a=f x
  ·subst h;simp
  ·have h2:¬f x=a:=fun e=>h e.symm
   simp [h,h2]
def parG (p:Prg) (s:Nat):Option (Int×Int×Int):=(p.states[s]?).bind fun x=>if idS x.name=false then some ((s:Int),(-1:Int),(6:Int)) else if dupN ParserState.name p.states s x then some ((s:Int),-1,7)
  else if (stE p s x).2=0 then none else some ((s:Int),(stE p s x).1,(stE p s x).2)
def tup3 (x:Int×Int×Int):Rt:= .val (.tup [.int .i64 x.1,.int .i64 x.2.1,.int .i64 x.2.2])
theorem qabl (p:Prg) (f:PrgS p):qab Φ f_245 [.agg (Prg.c p)]=some (tup3 (parE p)):=by
 rw [qaa (fn:=c_245) rfl rfl]
 by_cases z0:p.states.length=0
 ·simp [c_245,Prg.e,z0,parE,tup3]
 by_cases z1:12<p.states.length
 ·simp [c_245,Prg.e,z0,z1,parE,tup3]
 have hE:parE p=(fe (parG p) p.states.length 0).getD (0,0,0):=by unfold parE;rw [if_neg z0,if_neg z1];rfl
 rw [hE]
 simp [c_245,Prg.e,z0,z1]
 refine qau p.states.length (fun i=>[(0,.map (setS ((p.states.map (·.name)).take i)))]) 1 (fun i e=>look 1 e=some (.iptr 9 [Prg.c p] 0 0)∧look 5 e=some (.map 0)∧look 22 e=some (.slice 7 (p.states.map ParserState.c))∧look 23 e=some (.int .i64 p.states.length)∧look 24 e=some (.int .i64 i))
  (fun i=>some (tup3 ((fe (parG p) p.states.length i).getD (0,0,0)))) ?_ ?_ 0 _ 1 (Nat.zero_le _) (Nat.le_refl _) ?_
 ·rintro i e n L hi hL hn ⟨h1,h5,h22,h23,h24⟩ ih
  have hw:IntKind.wrap .i64 ((i:Int)+1)=((i+1:Nat):Int):=qad (by omega) (by omega)
  have hn0:¬(0=n):=by omega
  have hn1:¬(n=0):=by omega
  have nf:=qdp p.states[i].name (f.sn _ (List.getElem_mem hi))
  have hs:=qafd p f i hi
  simp only [Prg.e] at hs
  rw [Prg.e] at h1
  cases q1:idS p.states[i].name with
  | false=>
   rw [q1] at nf
   rw [qah (x:=((i:Int),-1,6)) hi (by simp [parG,hi,q1])]
   simp [c_245_l0,ParserState.e,h1,h5,h22,h23,h24,hi,hL,hn0,hn1,nf,tup3]
  | true=>
  rw [q1] at nf
  have hd:((p.states.map (·.name)).take i).contains p.states[i].name=dupN ParserState.name p.states i p.states[i]:=by
   rw [← List.map_take,qdx];rfl
  have hfnd:=qo9 p.states[i].name ((p.states.map (·.name)).take i)
  rw [hd] at hfnd
  cases q2:dupN ParserState.name p.states i p.states[i] with
  | true=>
   rw [q2] at hfnd
   rw [qah (x:=((i:Int),-1,7)) hi (by simp [parG,hi,q1,q2])]
   simp [c_245_l0,ParserState.e,h1,h5,h22,h23,h24,hi,hL,hn0,hn1,nf,hfnd,tup3]
  | false=>
   rw [q2] at hfnd hd
   have hput:=qrq p.states[i].name ((p.states.map (·.name)).take i) hd
   rw [show (p.states.map (·.name)).take i++[p.states[i].name]=(p.states.map (·.name)).take (i+1) from (qav hi).symm] at hput
   by_cases y:(stE p i p.states[i]).2=0
   ·rw [y] at hs
    rw [qap hi (by simp [parG,hi,q1,q2,y])]
    simp [c_245_l0,ParserState.e,h1,h5,h22,h23,h24,hi,hL,hn0,hn1,nf,hfnd,hput,hs,hw]
    exact ih _ _ (by omega) ⟨by simp [h1,Prg.e],by simp [h5],by simp [h22],by simp [h23],by simp⟩
   ·rw [qah (x:=((i:Int),(stE p i p.states[i]).1,(stE p i p.states[i]).2)) hi (by simp [parG,hi,q1,q2,y])]
    simp [c_245_l0,ParserState.e,h1,h5,h22,h23,h24,hi,hL,hn0,hn1,nf,hfnd,hput,hs,y,tup3]
 ·rintro e n L hL hn ⟨h1,h5,h22,h23,h24⟩
  rw [qaz]
  simp [c_245_l0,c_245_k1,h22,h23,h24,hL,tup3]
 ·simp [Prg.e,setS]
theorem qv4 (l:List Int) (x:Int) (hl:l.length<2^40):qab Φ f_337 [.slice 1 (l.map cI),.int .i64 x]=some (.val (.int .i64 (ix (fun s=>decide (x=s)) l 0))):=by
 rw [qaa (fn:=c_337) rfl rfl]
 simp [c_337]
 refine (qaw l.length (fun i e=>look 0 e=some (.slice 1 (l.map cI))∧look 1 e=some (.int .i64 x)∧look 7 e=some (.int .i64 l.length)∧look 8 e=some (.int .i64 i))
  (fun i=>some (.val (.int .i64 (ix (fun s=>decide (x=s)) l i)))) ?_ ?_ 0 _ (Nat.zero_le _) ?_).trans (by simp)
 ·rintro i e L hi hL ⟨h0,h1,h7,h8⟩ ih
  have hw:IntKind.wrap .i64 ((i:Int)+1)=((i+1:Nat):Int):=qad (by omega) (by omega)
  by_cases z:x=l[i]
  ·rw [qiy hi (by simpa using z)]
   simp [c_337_l0,cI,h0,h1,h7,h8,hi,hL,← z]
  ·rw [qhf hi (by simpa using z)]
   simp [c_337_l0,cI,h0,h1,h7,h8,hi,hL,z,hw]
   exact ih _ ⟨by simp [h0],by simp [h1],by simp [h7],by simp⟩
 ·rintro e L hL ⟨h0,h1,h7,h8⟩
  rw [qix]
  simp [c_337_l0,c_337_k1,h0,h1,h7,h8,hL]
 ·simp
theorem qqf (l:List Int) (x:Int) (hl:l.length<2^40):qab Φ f_305 [.slice 1 (l.map cI),.int .i64 x]=some (.val (.bool (l.contains x))):=by
 rw [qaa (fn:=c_305) rfl rfl]
 have h:=qv4 l x hl
 have e:=qiw (p:=fun s=>decide (x=s)) (l:=l)
 have e2:l.contains x=l.any fun s=>decide (x=s):=by
  have:=qdx (fun y:Int=>y) x l
  rw [List.map_id'] at this
  rw [this]
  congr 1
  funext y
  simp [eq_comm]
 simp [c_305,h]
 have e3:=e.trans e2.symm
 simpa using e3
def depG (p:Prg) (i:Nat):Option (Int×Int):=(p.deparser[i]?).bind fun h=>if h<0∨(p.headers.length:Int)≤h then some ((i:Int),(8:Int)) else if (p.deparser.take i).contains h then some ((i:Int),7) else none
theorem qaap (p:Prg) (f:PrgS p):qab Φ f_247 [.agg (Prg.c p)]=some (.val (.tup [.int .i64 (depE p).1,.int .i64 (depE p).2])):=by
 rw [qaa (fn:=c_247) rfl rfl]
 by_cases z1:8<p.deparser.length
 ·simp [c_247,Prg.e,z1,depE]
 have hE:depE p=(fe (depG p) p.deparser.length 0).getD (0,0):=by unfold depE;rw [if_neg z1];rfl
 rw [hE]
 simp [c_247,Prg.e,z1]
 refine qaw p.deparser.length (fun i e=>look 1 e=some (.iptr 9 [Prg.c p] 0 0)∧look 11 e=some (.slice 1 (p.deparser.map cI))∧look 12 e=some (.int .i64 p.deparser.length)∧look 13 e=some (.int .i64 i))
  (fun i=>some (Rt.val (.tup [.int .i64 ((fe (depG p) p.deparser.length i).getD (0,0)).1,.int .i64 ((fe (depG p) p.deparser.length i).getD (0,0)).2]))) ?_ ?_ 0 _ (Nat.zero_le _) ?_
 ·rintro i e L hi hL ⟨h1,h11,h12,h13⟩ ih
  have hw:IntKind.wrap .i64 ((i:Int)+1)=((i+1:Nat):Int):=qad (by omega) (by omega)
  have hi':i≤p.deparser.length:=by omega
  rw [Prg.e] at h1
  by_cases y0:p.deparser[i]<0
  ·rw [qah (x:=((i:Int),8)) hi (by simp [depG,hi,y0])]
   simp [c_247_l0,cI,h1,h11,h12,h13,hi,hL,y0]
  by_cases y1:(p.headers.length:Int)≤p.deparser[i]
  ·rw [qah (x:=((i:Int),8)) hi (by simp [depG,hi,y0,y1])]
   simp [c_247_l0,cI,h1,h11,h12,h13,hi,hL,y0,y1]
  have hc:=qqf (p.deparser.take i) p.deparser[i] (by simp;omega)
  rw [List.map_take] at hc
  cases q:(p.deparser.take i).contains p.deparser[i] with
  | true=>
   rw [q] at hc
   rw [qah (x:=((i:Int),7)) hi (by simp only [depG,List.getElem?_eq_getElem hi,Option.bind_some];rw [if_neg (by omega),q];rfl)]
   simp [c_247_l0,cI,h1,h11,h12,h13,hi,hi',hL,y0,y1,hc]
  | false=>
   rw [q] at hc
   rw [qap hi (by simp only [depG,List.getElem?_eq_getElem hi,Option.bind_some];rw [if_neg (by omega),q];rfl)]
   simp [c_247_l0,cI,h1,h11,h12,h13,hi,hi',hL,y0,y1,hc,hw]
   exact ih _ ⟨by simp [h1,Prg.e],by simp [h11],by simp [h12],by simp⟩
 ·rintro e L hL ⟨h1,h11,h12,h13⟩
  rw [qaz]
  simp [c_247_l0,c_247_k1,h11,h12,h13,hL]
 ·simp [Prg.e]
end Go.Av
namespace Go.Av
set_option maxRecDepth 4000
@[simp] theorem ControlNode.kind_mk (k t:Int) (c:List ExprNode) (a b:List ControlNode):(ControlNode.mk k t c a b).kind=k:=by simp [ControlNode.kind]
@[simp] theorem ControlNode.table_mk (k t:Int) (c:List ExprNode) (a b:List ControlNode):(ControlNode.mk k t c a b).table=t:=by simp [ControlNode.table]
@[simp] theorem ControlNode.cond_mk (k t:Int) (c:List ExprNode) (a b:List ControlNode):(ControlNode.mk k t c a b).cond=c:=by simp [ControlNode.cond]
@[simp] theorem ControlNode.thn_mk (k t:Int) (c:List ExprNode) (a b:List ControlNode):(ControlNode.mk k t c a b).thn=a:=by simp [ControlNode.thn]
@[simp] theorem ControlNode.els_mk (k t:Int) (c:List ExprNode) (a b:List ControlNode):(ControlNode.mk k t c a b).els=b:=by simp [ControlNode.els]
theorem qtk (k t:Int) (c:List ExprNode) (a b:List ControlNode):qab Φ f_304 [.agg (ControlNode.c (.mk k t c a b))]=some (.val (.bool (appl (.mk k t c a b)))):=by
 rw [qaa (fn:=c_304) rfl rfl]
 by_cases k1:k=1
 ·simp [c_304,ControlNode.e,appl,k1]
 ·simp [c_304,ControlNode.e,appl,k1]
def qcm (p:Prg) (us:List Int) (x:ControlNode):Int:=
 if x.kind=2 then (if (exE p [] x.cond).2=0 then (if (exE p [] x.cond).1=1 then 0 else 10) else (exE p [] x.cond).2)
 else if x.kind=1∨x.kind=3 then (if x.table<0∨(p.tables.length:Int)≤x.table then 8
  else if us.contains x.table then 7
  else if x.kind=1∧0<x.thn.length+x.els.length then 5 else 0)
 else 11
def qla (us:List Int) (x:ControlNode):Int:=if us.contains x.table then 7 else if x.kind=1∧0<x.thn.length+x.els.length then 5 else 0
theorem qx7 {p:Prg} (k t:Int) (c:List ExprNode) (a b:List ControlNode) (us:List Int) (ha:a.length<2^40) (hb:b.length<2^40) (hu:us.length<2^40) (e:Env)
  (h4:look 4 e=some (.iptr 5 [ControlNode.c (.mk k t c a b)] 0 0)) (h27:look 27 e=some (.slice 1 (us.map cI))) (h28:look 28 e=some (.int .i64 us.length)) (h29:look 29 e=some (.int .i64 0)):
  go Φ (finP [.tmp 6]) [.c (.loop c_303_l0),.b 1,.c c_303_k1,.b 0,.c c_303_k2] .normal ⟨e,⟨[],0⟩⟩=some (.val (.int .i64 (qla us (.mk k t c a b)))):=by
 have hc:=qdx (fun y:Int=>y) t us
 rw [List.map_id'] at hc
 refine (qc7 us (fun y=>decide (y=t)) (some (Rt.val (.int .i64 7))) (some (Rt.val (.int .i64 (if k=1∧0<a.length+b.length then 5 else 0))))
  (fun i e H=>look 4 e=some (.iptr 5 [ControlNode.c (.mk k t c a b)] 0 0)∧look 27 e=some (.slice 1 (us.map cI))∧look 28 e=some (.int .i64 us.length)∧look 29 e=some (.int .i64 i)∧H=⟨[],0⟩) ?_ ?_ ?_ _ _ ⟨h4,h27,h28,h29,rfl⟩).trans ?_
 ·rintro i e _ L hi hL ⟨h4,h27,h28,h29,rfl⟩ hb
  simp only [decide_eq_true_eq] at hb
  rw [ControlNode.e] at h4
  simp [c_303_l0,cI,h4,h27,h28,h29,hi,hL,hb]
 ·rintro i e _ L X hi hL ⟨h4,h27,h28,h29,rfl⟩ hb ih
  have hw:IntKind.wrap .i64 ((i:Int)+1)=((i+1:Nat):Int):=qad (by omega) (by omega)
  simp only [decide_eq_false_iff_not] at hb
  rw [ControlNode.e] at h4
  simp [c_303_l0,cI,h4,h27,h28,h29,hi,hL,hb,hw]
  exact ih _ _ ⟨by simp [h4,ControlNode.e],by simp [h27],by simp [h28],by simp,rfl⟩
 ·rintro e _ L hL ⟨h4,h27,h28,h29,rfl⟩
  rw [ControlNode.e] at h4
  have hw:IntKind.wrap .i64 ((a.length:Int)+b.length)=(a.length:Int)+b.length:=qad (by omega) (by omega)
  by_cases k1:k=1
  ·by_cases z:0<a.length+b.length
   ·have z':(0:Int)<(a.length:Int)+b.length:=by omega
    simp [c_303_l0,c_303_k1,c_303_k2,h4,h27,h28,h29,hL,hw,k1,z,z']
   ·have z':¬(0:Int)<(a.length:Int)+b.length:=by omega
    have za:a.length=0:=by omega
    have zb:b.length=0:=by omega
    simp [c_303_l0,c_303_k1,c_303_k2,h4,h27,h28,h29,hL,k1,za,zb]
    rw [show IntKind.wrap .i64 0=0 by decide]
    simp [List.eq_nil_of_length_eq_zero za,List.eq_nil_of_length_eq_zero zb]
  ·simp [c_303_l0,c_303_k1,c_303_k2,h4,h27,h28,h29,hL,k1]
 ·unfold qla
  simp only [ControlNode.table_mk,ControlNode.kind_mk,ControlNode.thn_mk,ControlNode.els_mk,hc]
  cases us.any (fun y=>decide (y=t))<;>rfl
theorem qx6 (p:Prg) (k t:Int) (c:List ExprNode) (a b:List ControlNode) (us:List Int) (ha:a.length<2^40) (hb:b.length<2^40) (hu:us.length<2^40):
  qab Φ f_303 [.agg (Prg.c p),.agg (ControlNode.c (.mk k t c a b)),.slice 1 (us.map cI)]=some (.val (.int .i64 (qcm p us (.mk k t c a b)))):=by
 rw [qaa (fn:=c_303) rfl rfl]
 have hV:=qx7 (p:=p) k t c a b us ha hb hu
 simp only [ControlNode.e] at hV
 by_cases k1:k=1
 ·by_cases t0:t<0
  ·simp [c_303,c_303_k2,ControlNode.e,Prg.e,qcm,k1,t0]
  by_cases t1:(p.tables.length:Int)≤t
  ·simp [c_303,c_303_k2,ControlNode.e,Prg.e,qcm,k1,t0,t1]
  have e:qcm p us (.mk k t c a b)=qla us (.mk k t c a b):=by simp [qcm,qla,k1,t0,t1]
  rw [e]
  simp [c_303,ControlNode.e,Prg.e,k1,t0,t1]
  rw [hV]
  all_goals simp [k1]
 by_cases k3:k=3
 ·by_cases t0:t<0
  ·simp [c_303,c_303_k2,ControlNode.e,Prg.e,qcm,k3,t0]
  by_cases t1:(p.tables.length:Int)≤t
  ·simp [c_303,c_303_k2,ControlNode.e,Prg.e,qcm,k3,t0,t1]
  have e:qcm p us (.mk k t c a b)=qla us (.mk k t c a b):=by simp [qcm,qla,k3,t0,t1]
  rw [e]
  simp [c_303,ControlNode.e,Prg.e,k3,t0,t1]
  rw [hV]
  all_goals simp [k3]
 by_cases k2:k=2
 ·have hx:=qqq p [] c
  simp only [qaf,List.map_nil] at hx
  by_cases z:(exE p [] c).2=0
  ·rw [z] at hx
   by_cases y:(exE p [] c).1=1
   ·rw [y] at hx
    simp [c_303,c_303_k2,ControlNode.e,Prg.e,qcm,k2,hx,z,y]
   ·simp [c_303,c_303_k2,ControlNode.e,Prg.e,qcm,k2,hx,z,y]
  ·simp [c_303,c_303_k2,ControlNode.e,Prg.e,qcm,k2,hx,z]
 ·simp [c_303,c_303_k2,ControlNode.e,Prg.e,qcm,k1,k2,k3]
end Go.Av
namespace Go.Av
set_option maxRecDepth 4000
theorem qd4:∀a b:List ControlNode,pre (a++b)=pre a++pre b
 | [],b=>by simp [pre]
 | x::a,b=>by simp [pre,qd4 a b]
theorem qhr {l:List ControlNode} {i:Nat} (hi:i<l.length):pre (l.take (i+1))=pre (l.take i)++pre1 l[i]:=by
 rw [List.take_succ_eq_append_getElem hi,qd4]
 simp [pre]
theorem qeg (k t:Int) (c:List ExprNode) (a b:List ControlNode):pre1 (.mk k t c a b)= .mk k t c a b::(pre a++pre b):=by simp [pre1]
theorem qyg (x:ControlNode):1≤(pre1 x).length:=by
 cases x;rw [qeg];simp
theorem qdy:∀l:List ControlNode,l.length≤(pre l).length
 | []=>by simp
 | x::r=>by
  have:=qdy r
  have:=qyg x
  simp [pre];omega
theorem qn5 {l:List ControlNode} {i:Nat} (hi:i<l.length):(pre1 l[i]).length≤(pre l).length:=by
 have h:pre l=pre (l.take i)++(pre1 l[i]++pre (l.drop (i+1))):=by
  conv=>lhs;rw [← List.take_append_drop i l,qd4,List.drop_eq_getElem_cons hi]
  simp [pre]
 rw [h];simp;omega
def qc4 (l:List ControlNode):Nat:=match l with
 | []=>0
 | x::r=>max (qjm x) (qc4 r)
theorem qn0:∀l:List ControlNode,l≠[]→nest l=qc4 l+1
 | [],h=>absurd rfl h
 | [x],_=>by simp [nest,qc4];omega
 | x::y::r,_=>by
  have:=qn0 (y::r) (by simp)
  rw [nest,qc4,this];omega
theorem qkj:∀a b:List ControlNode,qc4 (a++b)=max (qc4 a) (qc4 b)
 | [],b=>by simp [qc4]
 | x::a,b=>by rw [List.cons_append,qc4,qkj a b,qc4];omega
theorem qud {l:List ControlNode} {i:Nat} (hi:i<l.length):qc4 (l.take (i+1))=max (qc4 (l.take i)) (qjm l[i]):=by
 rw [List.take_succ_eq_append_getElem hi,qkj]
 simp [qc4]
theorem ql8 (k t:Int) (c:List ExprNode) (a b:List ControlNode):qjm (.mk k t c a b)=max (nest a) (nest b):=by simp [qjm]
mutual
theorem qx4:∀x:ControlNode,qjm x<(pre1 x).length
 | .mk k t c a b=>by
  have h1:=qhg a
  have h2:=qhg b
  rw [ql8,qeg];simp;omega
theorem qhg:∀l:List ControlNode,nest l≤(pre l).length
 | []=>by simp [nest]
 | x::r=>by
  have h1:=qx4 x
  have h2:=qhg r
  rw [nest,pre];simp;omega
end
theorem qx5 (l:List ControlNode):qc4 l≤(pre l).length:=by
 cases l with
 | nil=>simp [qc4]
 | cons x r=>have:=qn0 (x::r) (by simp);have:=qhg (x::r);omega
theorem qc5 (x:ControlNode):∃k t c a b,x= .mk k t c a b:=by
 cases x with
 | mk k t c a b=>exact ⟨k,t,c,a,b,rfl⟩
theorem qn1:∀(n:Nat) (l:List ControlNode),SizeOf.sizeOf l≤n→(pre l).length<2^40→qab Φ f_300 [.slice 5 (l.map ControlNode.c)]=some (.val (.int .i64 (nest l:Nat)))
 | 0,l,h,hb=>by cases l<;>simp at h
 | n+1,l,h,hb=>by
  rw [qaa (fn:=c_300) rfl rfl]
  have hll:=qdy l
  by_cases z:l.length=0
  ·have:l=[]:=List.eq_nil_of_length_eq_zero z
   subst this
   simp [c_300,nest]
  have hne:l≠[]:=by intro h;subst h;simp at z
  rw [qn0 l hne]
  simp [c_300,z]
  refine qau l.length (fun _=>[]) 0 (fun i e=>look 3 e=some (.int .i64 (qc4 (l.take i):Nat))∧look 9 e=some (.slice 5 (l.map ControlNode.c))∧look 10 e=some (.int .i64 l.length)∧look 11 e=some (.int .i64 i))
   (fun i=>some (Rt.val (.int .i64 ((qc4 l:Nat)+1)))) ?_ ?_ 0 _ 0 (Nat.zero_le _) (Nat.le_refl _) ?_
  ·rintro i e m L hi hL _ ⟨h3,h9,h10,h11⟩ ih
   have hw:IntKind.wrap .i64 ((i:Int)+1)=((i+1:Nat):Int):=qad (by omega) (by omega)
   obtain ⟨k,t,c,a,b,hx⟩:=qc5 l[i]
   have hm:l[i]∈l:=List.getElem_mem hi
   have hs:SizeOf.sizeOf l[i]<SizeOf.sizeOf l:=List.sizeOf_lt_of_mem hm
   have hp:=qn5 hi
   rw [hx] at hs hp
   rw [qeg] at hp
   simp at hs hp
   have i1:=qn1 n a (by omega) (by omega)
   have i2:=qn1 n b (by omega) (by omega)
   have hM:=qud hi
   rw [hx,ql8] at hM
   simp [c_300_l0,h3,h9,h10,h11,hi,hL,hw,hx,ControlNode.e,i1,i2]
   refine ih _ _ (Nat.zero_le _) ⟨?_,by simp [h9],by simp [h10],by simp⟩
   simp [hM]
   split<;>split<;>omega
  ·rintro e m L hL _ ⟨h3,h9,h10,h11⟩
   rw [List.take_length] at h3
   have:=qx5 l
   have hw:IntKind.wrap .i64 ((qc4 l:Int)+1)=(qc4 l:Int)+1:=qad (by omega) (by omega)
   simp [c_300_l0,c_300_k1,h3,h9,h10,h11,hL,hw]
  ·simp [qc4]
theorem ql6 {Φ:FuncId→Option AFun} {β:Type} {fin:Option (Ex×St)→Option β} (N:Nat) (Inv:Nat→Env→AH→Prop) (Q:Option β→Prop) {b:ACode} {K:List Fr}
  (step:∀i e h L,i<N→(∀j s,go Φ fin L (.exit j) s=go Φ fin K (.exit j) s)→Inv i e h→(∀e' h',Inv (i+1) e' h'→Q (go Φ fin L .normal ⟨e',h'⟩))→Q (go Φ fin (.c b::L) .normal ⟨e,h⟩))
  (last:∀e h L,(∀j s,go Φ fin L (.exit j) s=go Φ fin K (.exit j) s)→Inv N e h→Q (go Φ fin (.c b::L) .normal ⟨e,h⟩)):
  ∀i e h,i≤N→Inv i e h→Q (go Φ fin (.c (.loop b)::K) .normal ⟨e,h⟩):=by
 have key:∀n i e h,N - i≤n→i≤N→Inv i e h→Q (go Φ fin (.c (.loop b)::K) .normal ⟨e,h⟩):=by
  intro n
  induction n with
  | zero=>
   intro i e h hn hi hv
   have:i=N:=by omega
   subst this
   rw [qay]
   exact last e h _ (fun j s=>by simp) hv
  | succ n ih=>
   intro i e h hn hi hv
   rcases Nat.lt_or_ge i N with hlt | hge
   ·rw [qay]
    exact step i e h _ hlt (fun j s=>by simp) hv fun e' h' hv'=>ih (i+1) e' h' (by omega) (by omega) hv'
   ·have:i=N:=by omega
    subst this
    rw [qay]
    exact last e h _ (fun j s=>by simp) hv
 intro i e h hi hv
 exact key (N - i) i e h (Nat.le_refl _) hi hv
def cntF:AV:= .func (.func f_336) [] [.ptr 0 1 0 0]
def cntH (c:Int) (m:Nat):AH:=⟨[(0,.row 1 [[.int .i64 c]])],m⟩
theorem qvk (k t:Int) (cd:List ExprNode) (a b:List ControlNode) (c:Int) (m:Nat) (hc:0≤c∧c<2^60):qan Φ f_336 [.agg (ControlNode.c (.mk k t cd a b)),.ptr 0 1 0 0] (cntH c m)=some (.val (.bool true),cntH (c+1) m):=by
 rw [qc6 (fn:=c_336) rfl rfl]
 have hw:IntKind.wrap .i64 (c+1)=c+1:=qad (by omega) (by omega)
 simp [c_336,cntH,ControlNode.e,hw]
theorem qn3:∀(n:Nat) (l:List ControlNode) (c:Int) (m:Nat),1≤m→SizeOf.sizeOf l≤n→0≤c→c+(pre l).length<2^60→(pre l).length<2^40→
  ∃m',m≤m'∧qan Φ f_301 [.slice 5 (l.map ControlNode.c),cntF] (cntH c m)=some (.val (.bool true),cntH (c+(pre l).length) m')
 | 0,l,c,m,_,h,_,_,_=>by cases l<;>simp at h
 | n+1,l,c,m,h1m,h,hc0,hb,hl=>by
  rw [qc6 (fn:=c_301) rfl rfl]
  have hll:=qdy l
  simp [c_301,cntF]
  refine ql6 l.length (fun i e H=>look 1 e=some cntF∧look 7 e=some (.slice 5 (l.map ControlNode.c))∧look 8 e=some (.int .i64 l.length)∧look 9 e=some (.int .i64 i)∧∃m1,m≤m1∧H=cntH (c+(pre (l.take i)).length) m1)
   (fun r=>∃m',m≤m'∧r=some (Rt.val (.bool true),cntH (c+(pre l).length) m')) ?_ ?_ 0 _ _ (Nat.zero_le _) ?_
  ·rintro i e _ L hi hL ⟨h1,h7,h8,h9,m1,hm1,rfl⟩ ih
   have hw:IntKind.wrap .i64 ((i:Int)+1)=((i+1:Nat):Int):=qad (by omega) (by omega)
   obtain ⟨k,t,cd,a,b,hx⟩:=qc5 l[i]
   have hm:l[i]∈l:=List.getElem_mem hi
   have hs:SizeOf.sizeOf l[i]<SizeOf.sizeOf l:=List.sizeOf_lt_of_mem hm
   have hp:=qn5 hi
   have ht:=qhr hi
   have htl:(pre (l.take (i+1))).length≤(pre l).length:=by
    have:pre l=pre (l.take (i+1))++pre (l.drop (i+1)):=by rw [← qd4,List.take_append_drop]
    rw [this];simp
   rw [hx] at hs hp ht
   rw [qeg] at hp ht
   simp at hs hp
   have htl2:=htl
   rw [ht] at htl2
   simp at htl2
   obtain ⟨c',hc'⟩:∃c':Int,c'=c+(pre (l.take i)).length:=⟨_,rfl⟩
   rw [← hc']
   have e1:=qvk k t cd a b c' (m1+1) (by omega)
   obtain ⟨m2,hm2,e2⟩:=qn3 n a (c'+1) (m1+1) (by omega) (by omega) (by omega) (by omega) (by omega)
   obtain ⟨m3,hm3,e3⟩:=qn3 n b (c'+1+(pre a).length) m2 (by omega) (by omega) (by omega) (by omega) (by omega)
   simp only [cntH,cntF,ControlNode.e] at e1 e2 e3
   have hn0:¬(0=m1):=by omega
   have hn1:¬(m1=0):=by omega
   simp only [cntF] at h1
   simp [c_301_l0,h1,h7,h8,h9,hi,hL,hw,hx,ControlNode.e,cntH,hn0,hn1,e1,e2,e3]
   refine ih _ _ ⟨by simp [h1,cntF],by simp [h7],by simp [h8],by simp,m3,by omega,?_⟩
   rw [ht,hc']
   simp [cntH]
   omega
  ·rintro e _ L hL ⟨h1,h7,h8,h9,m1,hm1,rfl⟩
   rw [List.take_length]
   refine ⟨m1,hm1,?_⟩
   simp [c_301_l0,c_301_k1,h7,h8,h9,hL]
  ·simp [cntF,pre]
   exact ⟨m,Nat.le_refl _,rfl⟩
theorem qxr (l:List ControlNode) (hl:(pre l).length<2^40):qab Φ f_299 [.slice 5 (l.map ControlNode.c)]=some (.val (.int .i64 (pre l).length)):=by
 rw [qaa (fn:=c_299) rfl rfl]
 obtain ⟨m',hm,e⟩:=qn3 _ l 0 1 (Nat.le_refl _) (Nat.le_refl _) (by omega) (by omega) hl
 simp only [cntH,cntF] at e
 simp [c_299,e]
end Go.Av
namespace Go.Av
set_option maxRecDepth 4000
structure Wk where
 e:Int
 n:Int
 us:List Int
def wk1 (p:Prg) (w:Wk) (x:ControlNode):Wk:=if w.e≠0 then w else if qcm p w.us x≠0 then ⟨qcm p w.us x,w.n,w.us⟩ else ⟨0,w.n+1,if appl x then w.us++[x.table] else w.us⟩
def wk (p:Prg) (w:Wk) (l:List ControlNode):Wk:=l.foldl (wk1 p) w
theorem qgz (p:Prg) (w:Wk) (a b:List ControlNode):wk p w (a++b)=wk p (wk p w a) b:=by simp [wk]
theorem qfn (p:Prg) (w:Wk) (h:w.e≠0):∀l,wk p w l=w
 | []=>rfl
 | x::l=>by
  have:wk1 p w x=w:=by simp [wk1,h]
  show wk p (wk1 p w x) l=w
  rw [this];exact qfn p w h l
theorem wk_n (p:Prg):∀(l:List ControlNode) (w:Wk),w.n≤(wk p w l).n∧(wk p w l).n≤w.n+l.length∧(wk p w l).us.length≤w.us.length+l.length
 | [],w=>by simp [wk]
 | x::l,w=>by
  have h:=wk_n p l (wk1 p w x)
  show w.n≤(wk p (wk1 p w x) l).n∧(wk p (wk1 p w x) l).n≤w.n+(x::l).length∧(wk p (wk1 p w x) l).us.length≤w.us.length+(x::l).length
  have h1:w.n≤(wk1 p w x).n∧(wk1 p w x).n≤w.n+1∧(wk1 p w x).us.length≤w.us.length+1:=by
   unfold wk1
   split
   ·simp;omega
   split
   ·simp;omega
   ·refine ⟨by simp;omega,by simp,?_⟩
    simp only
    split<;>simp
  simp only [List.length_cons]
  omega
def chkF (p:Prg):AV:= .func (.func f_302) [] [.iptr 9 [Prg.c p] 0 0,.ptr 2 1 0 0,.ptr 0 1 0 0,.ptr 1 1 0 0]
def ChkH (w:Wk) (m:Nat) (H:AH):Prop:=3≤m∧((w.us=[]∧H=⟨[(0,.row 1 [[.int .i64 w.e]]),(1,.row 1 [[.int .i64 w.n]]),(2,.row 1 [[.fslice 1 []]])],m⟩)∨
 ∃q,3≤q∧q<m∧H=⟨[(0,.row 1 [[.int .i64 w.e]]),(1,.row 1 [[.int .i64 w.n]]),(2,.row 1 [[.app 1 (w.us.map cI) q]]),(q,.tok 1 w.us.length)],m⟩)
theorem qve (p:Prg) (k t:Int) (cd:List ExprNode) (a b:List ControlNode) (w:Wk) (m:Nat) (H:AH) (hH:ChkH w m H) (he:w.e=0) (hn:0≤w.n∧w.n<2^60) (hu:w.us.length<2^40 - 1) (ha:a.length<2^40) (hb:b.length<2^40):
  ∃m' H',m≤m'∧ChkH (wk1 p w (.mk k t cd a b)) m' H'∧qan Φ f_302 [.agg (ControlNode.c (.mk k t cd a b)),.iptr 9 [Prg.c p] 0 0,.ptr 2 1 0 0,.ptr 0 1 0 0,.ptr 1 1 0 0] H=some (.val (.bool (decide ((wk1 p w (.mk k t cd a b)).e=0))),H'):=by
 have hw:IntKind.wrap .i64 (w.n+1)=w.n+1:=qad (by omega) (by omega)
 have hU:=qx6 p k t cd a b w.us ha hb (by omega)
 have hA:=qtk k t cd a b
 simp only [Prg.e,ControlNode.e] at hU hA
 obtain ⟨h3,⟨hus,rfl⟩ | ⟨q,hq,hqm,rfl⟩⟩:=hH
 ·rw [qc6 (fn:=c_302) rfl rfl]
  rw [hus] at hU
  simp only [List.map_nil] at hU
  by_cases z:qcm p [] (.mk k t cd a b)=0
  ·rw [z] at hU
   cases qa:appl (.mk k t cd a b) with
   | true=>
    rw [qa] at hA
    have hn0:¬(0=m):=by omega
    have hn1:¬(1=m):=by omega
    have hn2:¬(2=m):=by omega
    have hn0':¬(m=0):=by omega
    have hn1':¬(m=1):=by omega
    have hn2':¬(m=2):=by omega
    refine ⟨m+1,⟨[(0,.row 1 [[.int .i64 0]]),(1,.row 1 [[.int .i64 (w.n+1)]]),(2,.row 1 [[.app 1 [[.int .i64 t]] m]]),(m,.tok 1 1)],m+1⟩,Nat.le_succ _,⟨by omega,.inr ⟨m,h3,by omega,by simp [wk1,he,hus,z,qa,cI]⟩⟩,?_⟩
    simp [c_302,ControlNode.e,Prg.e,hU,wk1,he,hus,z,qa,hA,hw,hn0,hn1,hn2,hn0',hn1',hn2']
   | false=>
    rw [qa] at hA
    refine ⟨m,⟨[(0,.row 1 [[.int .i64 0]]),(1,.row 1 [[.int .i64 (w.n+1)]]),(2,.row 1 [[.fslice 1 []]])],m⟩,Nat.le_refl _,⟨by omega,.inl ⟨by simp [wk1,he,hus,z,qa],by simp [wk1,he,hus,z,qa]⟩⟩,?_⟩
    simp [c_302,ControlNode.e,Prg.e,hU,wk1,he,hus,z,qa,hA,hw]
  ·refine ⟨m,⟨[(0,.row 1 [[.int .i64 (qcm p [] (.mk k t cd a b))]]),(1,.row 1 [[.int .i64 w.n]]),(2,.row 1 [[.fslice 1 []]])],m⟩,Nat.le_refl _,⟨by omega,.inl ⟨by simp [wk1,he,hus,z],by simp [wk1,he,hus,z]⟩⟩,?_⟩
   simp [c_302,ControlNode.e,Prg.e,hU,wk1,he,hus,z]
 ·rw [qc6 (fn:=c_302) rfl rfl]
  have q0:¬(0=q):=by omega
  have q1:¬(1=q):=by omega
  have q2:¬(2=q):=by omega
  have q0':¬(q=0):=by omega
  have q1':¬(q=1):=by omega
  have q2':¬(q=2):=by omega
  have hbb:(w.us.length+1)*8≤70368744177664:=by omega
  by_cases z:qcm p w.us (.mk k t cd a b)=0
  ·rw [z] at hU
   cases qa:appl (.mk k t cd a b) with
   | true=>
    rw [qa] at hA
    refine ⟨m,⟨[(0,.row 1 [[.int .i64 0]]),(1,.row 1 [[.int .i64 (w.n+1)]]),(2,.row 1 [[.app 1 ((w.us++[t]).map cI) q]]),(q,.tok 1 (w.us.length+1))],m⟩,Nat.le_refl _,⟨by omega,.inr ⟨q,hq,hqm,by simp [wk1,he,z,qa]⟩⟩,?_⟩
    simp [c_302,ControlNode.e,Prg.e,hU,wk1,he,z,qa,hA,hw,q0,q1,q2,q0',q1',q2',hbb,cI]
   | false=>
    rw [qa] at hA
    refine ⟨m,⟨[(0,.row 1 [[.int .i64 0]]),(1,.row 1 [[.int .i64 (w.n+1)]]),(2,.row 1 [[.app 1 (w.us.map cI) q]]),(q,.tok 1 w.us.length)],m⟩,Nat.le_refl _,⟨by omega,.inr ⟨q,hq,hqm,by simp [wk1,he,z,qa]⟩⟩,?_⟩
    simp [c_302,ControlNode.e,Prg.e,hU,wk1,he,z,qa,hA,hw,q0,q1,q2,q0',q1',q2']
  ·refine ⟨m,⟨[(0,.row 1 [[.int .i64 (qcm p w.us (.mk k t cd a b))]]),(1,.row 1 [[.int .i64 w.n]]),(2,.row 1 [[.app 1 (w.us.map cI) q]]),(q,.tok 1 w.us.length)],m⟩,Nat.le_refl _,⟨by omega,.inr ⟨q,hq,hqm,by simp [wk1,he,z]⟩⟩,?_⟩
   simp [c_302,ControlNode.e,Prg.e,hU,wk1,he,z,q0,q1,q2,q0',q1',q2']
end Go.Av
