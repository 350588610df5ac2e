/-
 Identifiers: the program's answer.
-/
import Derived.Test.YtjdbnnnakpacjaaGreatFunsAU
set_option linter.unusedVariables false
set_option linter.unusedSimpArgs false
set_option linter.constructorNameAsVariable false
namespace Go.Av
set_option maxRecDepth 4000
def letC (c:Int):Bool:=(decide (97<=c)&&decide (c<=122)) || (decide (65<=c)&&decide (c<=90))
def digI (c:Int):Bool:=decide (48<=c)&&decide (c<=57)
def idC (c:Int):Bool:=letC c || (digI c || decide (c=95))
theorem qnp (c:Int):qad Φ f_266 [.int .u8 c]=some (.val (.bool (letC c))):=by
 rw [qaa (fn:=c_266) rfl rfl];by_cases h1:97<=c<;>by_cases h2:c<=122<;>by_cases h3:65<=c<;>simp [c_266,letC,h1,h2,h3]
theorem qyp (c:Int):qad Φ f_269 [.int .u8 c]=some (.val (.bool (digI c))):=by
 rw [qaa (fn:=c_269) rfl rfl];by_cases h1:48<=c<;>simp [c_269,digI,h1]
theorem qajy (c:Int):qad Φ f_268 [.int .u8 c]=some (.val (.bool (idC c))):=by
 rw [qaa (fn:=c_268) rfl rfl];have h1:=qnp c;have h2:=qyp c;cases q1:letC c<;>cases q2:digI c<;>rw [q1] at h1<;>rw [q2] at h2<;>simp [c_268,idC,h1,h2,q1,q2]
theorem qaas (s:List UInt8) (hs:s.length<2^40):qad Φ f_267 [.str s,.func (.func f_268) [] []]=some (.val (.int .i64 (s.takeWhile fun b=>idC b.toNat).length)):=by
 rw [qaa (fn:=c_267) rfl rfl];simp [c_267];refine (qcj s.length (fun i e=>look 0 e=some (.str s)/\look 1 e=some (.func (.func f_268) [] [])/\look 5 e=some (.int .i64 i))
  (fun i=>some (Rt.val (.int .i64 (i+((s.drop i).takeWhile fun b=>idC b.toNat).length:Nat)))) ?_ ?_ 0 _ (Qc _) ?_).trans (by simp)
 ·rintro i e L hi hL ⟨h0,h1,h5⟩ ih;have hw:=qal i (by omega);have hc:=qajy (s[i].toNat:Int);rw [Qi hi];cases q:idC (s[i].toNat:Int) with
  | true=>
   rw [q] at hc;rw [show List.takeWhile (fun b:UInt8=>idC b.toNat) (s[i]::s.drop (i+1))=s[i]::List.takeWhile (fun b:UInt8=>idC b.toNat) (s.drop (i+1)) from List.takeWhile_cons_of_pos q];simp [c_267_l0,h0,h1,h5,hi,hc,hw];refine (ih _ ⟨by simp [h0],by simp [h1],by simp⟩).trans ?_;simp;omega
  | false=>
   rw [q] at hc;rw [show List.takeWhile (fun b:UInt8=>idC b.toNat) (s[i]::s.drop (i+1))=[] from List.takeWhile_cons_of_neg (by simp [q])];simp [c_267_l0,c_267_k1,h0,h1,h5,hi,hL,hc]
 ·rintro e L hL ⟨h0,h1,h5⟩;simp [c_267_l0,c_267_k1,h0,h5,hL]
 ·simp
def idS (s:List UInt8):Bool:=match s with
 | []=>false
 | c::_=>decide (s.length<=16)&&(letC c.toNat&&s.all fun b=>idC b.toNat)
theorem qls (p:UInt8->Bool):∀s:List UInt8,((s.takeWhile p).length=s.length)↔s.all p=true
 | []=>by simp
 | c::r=>by
  have:=qls p r;cases q:p c<;>simp [q];simpa using this
theorem qagc {s:List UInt8} (h:0<s.length):idS s=(decide (s.length<=16)&&(letC s[0].toNat&&s.all fun b=>idC b.toNat)):=by
 cases s with
 | nil=>simp at h
 | cons c r=>rfl
theorem qec (s:List UInt8) (hs:s.length<2^40):qad Φ f_225 [.str s]=some (.val (.bool (idS s))):=by
 rw [qaa (fn:=c_225) rfl rfl];by_cases h0:s.length=0
 ·have:s=[]:=Qg h0;subst this;simp [c_225,idS]
 have hp:0<s.length:=by omega
 rw [qagc hp];by_cases h16:16<s.length
 ·simp [c_225,h0,h16,Qf.2 h16]
 have hl:=qnp (s[0].toNat:Int);cases q:letC (s[0].toNat:Int) with
 | false=>
  rw [q] at hl;simp [c_225,h0,hp,h16,hl]
 | true=>
  rw [q] at hl;have he:=qaas s hs;have ht:=qls (fun b=>idC b.toNat) s;have e:(decide ((s.takeWhile fun b=>idC b.toNat).length=s.length))=(s.all fun b=>idC b.toNat):=by
   cases h:(s.all fun b=>idC b.toNat) with
   | true=>exact decide_eq_true (ht.2 h)
   | false=>exact decide_eq_false (fun h2=>by have:=ht.1 h2;rw [h] at this;cases this)
  simp [c_225,h0,hp,h16,Nat.le_of_not_lt h16,hl,he,e]
theorem Fld.e (x:Fld):Fld.c x=[.str x.name,.int .i64 x.width]:=by simp [Fld.c]
theorem Xe.e (x:Xe):Xe.c x=[.int .i64 x.op,.int .i64 x.n,.int .i64 x.w]:=by simp [Xe.c]
theorem Xl.e (x:Xl):Xl.c x=[.int .i64 x.field.header,.int .i64 x.field.field,.int .i64 x.kind]:=by simp [Xl.c]
theorem Xb.e (x:Xb):Xb.c x=[.int .i64 x.action,.slice 1 (x.args.map c32)]:=by simp [Xb.c]
theorem Xk.e (x:Xk):Xk.c x=[.int .u32 x.value,.int .u32 x.mask,.int .i64 x.next]:=by simp [Xk.c]
theorem Action.e (x:Action):Action.c x=[.str x.name,.slice 2 (x.params.map Fld.c),.slice 7 (x.body.map Xg.c)]:=by simp [Action.c]
theorem Xj.e (x:Xj):Xj.c x=[.str x.name,.slice 2 (x.fields.map Fld.c)]:=by simp [Xj.c]
theorem Xh.e (x:Xh):Xh.c x=[.str x.name,.int .i64 x.width,.int .i64 x.size]:=by simp [Xh.c]
theorem Xg.e (x:Xg):Xg.c x=[.int .i64 x.kind,.int .i64 x.dst.header,.int .i64 x.dst.field,.int .i64 x.register,.int .i64 x.header,.slice 3 (x.index.map Xe.c),.slice 3 (x.value.map Xe.c)]:=by simp [Xg.c]
theorem Tbl.e (x:Tbl):Tbl.c x=[.str x.name,.slice 3 (x.keys.map Xl.c),.slice 1 (x.actions.map cI),.int .i64 x.dflt.action,.slice 1 (x.dflt.args.map c32),.int .i64 x.size]:=by simp [Tbl.c]
theorem Xd.e (x:Xd):Xd.c x=[.str x.name,.slice 1 (x.extract.map cI),.bool x.select,.int .i64 x.on.header,.int .i64 x.on.field,.slice 3 (x.cases.map Xk.c),.int .i64 x.dflt]:=by simp [Xd.c]
theorem Xa.e (k t:Int) (c:List Xe) (a b:List Xa):Xa.c (.mk k t c a b)=[.int .i64 k,.int .i64 t,.slice 3 (c.map Xe.c),.slice 5 (a.map Xa.c),.slice 5 (b.map Xa.c)]:=by simp [Xa.c,Xa.cs_eq]
theorem Prg.e (x:Prg):Prg.c x=[.str x.name,.slice 2 (x.Xp.map Xj.c),.slice 2 (x.Xo.map Fld.c),.slice 3 (x.Xm.map Xh.c),.slice 3 (x.actions.map Action.c),.slice 6 (x.Xn.map Tbl.c),.slice 7 (x.states.map Xd.c),.slice 5 (x.control.map Xa.c),.slice 1 (x.Xs.map cI)]:=by simp [Prg.c]
def feF {α:Type} (f:Nat->Option α):Nat->Nat->Option α
 | 0,_=>none
 | n+1,i=>match f i with
  | some x=>some x
  | none=>feF f n (i+1)
def fe {α:Type} (f:Nat->Option α) (N i:Nat):Option α:=feF f (N - i) i
theorem qax {α:Type} {f:Nat->Option α} {N i:Nat} {x:α} (hi:i<N) (h:f i=some x):fe f N i=some x:=by
 unfold fe;rw [show N - i=(N - (i+1))+1 by omega];simp [feF,h]
theorem qbm {α:Type} {f:Nat->Option α} {N i:Nat} (hi:i<N) (h:f i=none):fe f N i=fe f N (i+1):=by
 unfold fe;rw [show N - i=(N - (i+1))+1 by omega];simp [feF,h]
theorem qcc {α:Type} {f:Nat->Option α} {N:Nat}:fe f N N=none:=by simp [fe,feF]
def er (e:Int):Option Int:=if e=0 then none else some e
@[simp] theorem er_zero:er 0=none:=by simp [er]
def errO:Option Int->Int
 | none=>0
 | some e=>e
@[simp] theorem qanx:errO none=0:=by simp [errO]
@[simp] theorem qany (e:Int):errO (some e)=e:=by simp [errO]
def at? {α:Type} (l:List α) (i:Int):Option α:=if i<0 then none else l[i.toNat]?
@[simp] theorem qfo {α:Type} (l:List α) (i:Nat):at? l (i:Int)=l[i]? :=by
 unfold at?;rw [QA (by omega)];simp
theorem qdq {α:Type} {l:List α} {i:Int} (h:i<0):at? l i=none:=by simp [at?,h]
theorem qdp {α:Type} {l:List α} {i:Int} (h:(l.length:Int)<=i):at? l i=none:=by
 unfold at?;split
 ·rfl
 ·simp;omega
def wBad (w:Int):Bool:=decide (w<1) || decide (32<w)
def dupN {α:Type} (nm:α->List UInt8) (l:List α) (i:Nat) (x:α):Bool:=(l.take i).any fun y=>decide (nm y=nm x)
def fldE (l:List Fld) (i:Nat) (f:Fld):Int:=if idS f.name=false then 6 else if wBad f.width then 10 else if dupN Fld.name l i f then 7 else 0
def qyf (l:List Fld):Option Int:=fe (fun i=>(l[i]?).bind fun f=>er (fldE l i f)) l.length 0
def wSum (l:List Fld):Int:=(l.map (·.width)).sum
def hdrE (h:Xj):Int:=if idS h.name=false then 6 else if h.fields.length=0 then 8 else if 12<h.fields.length then 12 else
 match qyf h.fields with
 | some e=>e
 | none=>if (wSum h.fields) % 8=0 then 0 else 10
def regE (r:Xh):Int:=if idS r.name=false then 6 else if wBad r.width then 10 else if r.size<1\/64<r.size then 9 else 0
def decl (p:Prg) (h f:Int):Option Int:=(if h= -1 then some p.Xo else (at? p.Xp h).map (·.fields)).bind fun l=>(at? l f).map (·.width)
def wid (p:Prg) (h f:Int):Int:=match decl p h f with
 | some w=>if wBad w then 0 else w
 | none=>0
def ari (op:Int):Int:=if 1<=op/\op<=4 then 0 else if 5<=op/\op<=8 then 1 else if 9<=op/\op<=16 then 2 else if op=17 then 3 else -1
def wide (w:Int):Int×Int:=if wBad w then (0,10) else (w,0)
def prim (p:Prg) (ps:List Fld) (x:Xe):Int×Int:=
 if x.op=1 then (if wBad x.w then (0,10) else if x.n<0\/2^x.w.toNat - 1<x.n then (0,9) else (x.w,0))
 else if x.op=2 then (match decl p x.n x.w with | some w=>wide w | none=>(0,8))
 else if x.op=3 then (match at? ps x.n with | some f=>wide f.width | none=>(0,8))
 else if (at? p.Xp x.n).isSome then (1,0) else (0,8)
def comb (x:Xe) (a b c:Int):Int×Int:=
 if x.op=6\/x.op=7 then (if x.n<0\/31<x.n then (0,9) else (a,0))
 else if x.op=8 then (if x.n<0 then (0,9) else if wBad x.w\/a - x.w<x.n then (0,10) else (x.w,0))
 else if x.op=14 then wide (a+b)
 else if x.op=17 then (if a≠1\/b≠c then (0,10) else (b,0))
 else if ari x.op=2/\a≠b then (0,10)
 else if x.op=15\/x.op=16 then (1,0) else (a,0)
def chk (p:Prg) (ps:List Fld) (l:List Xe):Nat->Nat->Except Int (Int×Nat)
 | 0,_=> .error 3
 | n+1,i=>match l[i]? with
  | none=> .error 3
  | some x=>
   if ari x.op<0 then .error 11
   else if ari x.op=0 then (if (prim p ps x).2=0 then .ok ((prim p ps x).1,i+1) else .error (prim p ps x).2)
   else match chk p ps l n (i+1) with
    | .error e=> .error e
    | .ok (a,i1)=>
     if ari x.op=1 then (if (comb x a 0 0).2=0 then .ok ((comb x a 0 0).1,i1) else .error (comb x a 0 0).2)
     else match chk p ps l n i1 with
      | .error e=> .error e
      | .ok (b,i2)=>
       if ari x.op=2 then (if (comb x a b 0).2=0 then .ok ((comb x a b 0).1,i2) else .error (comb x a b 0).2)
       else match chk p ps l n i2 with
        | .error e=> .error e
        | .ok (c,i3)=>if (comb x a b c).2=0 then .ok ((comb x a b c).1,i3) else .error (comb x a b c).2
def exE (p:Prg) (ps:List Fld) (l:List Xe):Int×Int:=
 if 24<l.length then (0,12) else match chk p ps l (l.length+1) 0 with
 | .error e=>(0,e)
 | .ok (w,i)=>if i<l.length then (0,4) else (w,0)
def valE (p:Prg) (ps:List Fld) (l:List Xe) (w:Int):Int:=if (exE p ps l).2=0 then (if (exE p ps l).1=w then 0 else 10) else (exE p ps l).2
def stmE (p:Prg) (ps:List Fld) (s:Xg):Int:=
 if s.kind=1 then (match decl p s.dst.header s.dst.field with
  | none=>8
  | some w=>valE p ps s.value w)
 else if s.kind=2\/s.kind=3 then (if (at? p.Xp s.header).isSome then 0 else 8)
 else if s.kind=4 then (match at? p.Xm s.register,decl p s.dst.header s.dst.field with
  | some r,some w=>if (exE p ps s.index).2=0 then (if w=r.width then 0 else 10) else (exE p ps s.index).2
  | _,_=>8)
 else if s.kind=5 then (match at? p.Xm s.register with
  | some r=>if (exE p ps s.index).2=0 then valE p ps s.value r.width else (exE p ps s.index).2
  | none=>8)
 else 11
def actD (a:Action):Int:=if idS a.name=false then 6 else if 4<a.params.length\/12<a.body.length then 12 else errO (qyf a.params)
def bodyE (p:Prg) (a:Action):Option (Int×Int):=fe (fun k=>(a.body[k]?).bind fun s=>if stmE p a.params s=0 then none else some ((k:Int),stmE p a.params s)) a.body.length 0
def actE (p:Prg) (i:Int):Int×Int:=match at? p.actions i with
 | none=>(-1,8)
 | some a=>if actD a≠0 then (-1,actD a) else (bodyE p a).getD (0,0)
def fits (v w:Int):Bool:= !wBad w&&decide (v<2^w.toNat)
def qfz (p:Prg) (c:Xb):Int:=match at? p.actions c.action with
 | none=>8
 | some a=>if c.args.length≠a.params.length then 2 else errO (fe (fun i=>match c.args[i]?,a.params[i]? with
  | some v,some f=>if fits v f.width then none else some 9
  | _,_=>none) c.args.length 0)
def keyE (p:Prg) (x:Tbl):Option (Int×Int):=fe (fun i=>(x.keys[i]?).bind fun k=>
 if wid p k.field.header k.field.field=0 then some ((i:Int),8) else if k.kind=1\/k.kind=2\/k.kind=3 then none else some ((i:Int),11)) x.keys.length 0
def kWid (p:Prg) (x:Tbl):List Int:=x.keys.map fun k=>wid p k.field.header k.field.field
def qh5 (p:Prg) (x:Tbl):Int×Int:=match keyE p x with
 | some e=>e
 | none=>if 1<x.keys.countP (fun k=>decide (k.kind=2)) then (-2,7) else if 64<(kWid p x).sum then (-2,10) else (0,0)
def qjp (p:Prg) (x:Tbl):Int:=match fe (fun i=>(x.actions[i]?).bind fun a=>if a<0\/(p.actions.length:Int)<=a then some (8:Int) else if (x.actions.take i).contains a then some 7 else none) x.actions.length 0 with
 | some e=>e
 | none=>if x.actions.contains x.dflt.action then qfz p x.dflt else 8
def tblE (p:Prg) (t:Int):Int×Int:=match at? p.Xn t with
 | none=>(-1,8)
 | some x=>if idS x.name=false then (-1,6) else if 6<x.keys.length\/16<x.actions.length then (-1,12) else if x.size<1\/256<x.size then (-1,9)
  else if (qh5 p x).2≠0 then qh5 p x else if qjp p x≠0 then (-3,qjp p x) else (0,0)
def qgq (p:Prg) (s:Nat) (n:Int):Bool:=decide (n= -1) || decide (n= -2) || (decide ((s:Int)<n)&&decide (n<p.states.length))
def qf0 (p:Prg) (s:Nat) (x:Xd) (c:Xk):Int:=
 if fits c.value (wid p x.on.header x.on.field)=false\/fits c.mask (wid p x.on.header x.on.field)=false then 9
 else if c.value.toNat&&& c.mask.toNat≠c.value.toNat then 5
 else if qgq p s c.next then 0 else 14
def stE (p:Prg) (s:Nat) (x:Xd):Int×Int:=
 if 4<x.extract.length\/8<x.cases.length then (-1,12)
 else if x.extract.any (fun h=>decide (h<0) || decide ((p.Xp.length:Int)<=h)) then (-1,8)
 else if x.select=true/\wid p x.on.header x.on.field=0 then (-1,8)
 else if x.select=false/\0<x.cases.length then (-1,11)
 else match fe (fun i=>(x.cases[i]?).bind fun c=>if qf0 p s x c=0 then none else some ((i:Int),qf0 p s x c)) x.cases.length 0 with
  | some e=>e
  | none=>if qgq p s x.dflt then (0,0) else (-1,14)
def parE (p:Prg):Int×Int×Int:=
 if p.states.length=0 then (-1,-1,8) else if 12<p.states.length then (-1,-1,12)
 else (fe (fun s=>(p.states[s]?).bind fun x=>if idS x.name=false then some ((s:Int),(-1:Int),(6:Int)) else if dupN Xd.name p.states s x then some ((s:Int),-1,7)
  else if (stE p s x).2=0 then none else some ((s:Int),(stE p s x).1,(stE p s x).2)) p.states.length 0).getD (0,0,0)
def depE (p:Prg):Int×Int:=if 8<p.Xs.length then (-1,12) else
 (fe (fun i=>(p.Xs[i]?).bind fun h=>if h<0\/(p.Xp.length:Int)<=h then some ((i:Int),(8:Int)) else if (p.Xs.take i).contains h then some ((i:Int),7) else none) p.Xs.length 0).getD (0,0)
def Xa.kind:Xa->Int | .mk k _ _ _ _=>k
def Xa.table:Xa->Int | .mk _ t _ _ _=>t
def Xa.cond:Xa->List Xe | .mk _ _ c _ _=>c
def Xa.thn:Xa->List Xa | .mk _ _ _ a _=>a
def Xa.els:Xa->List Xa | .mk _ _ _ _ b=>b
mutual
def pre1:Xa->List Xa
 | .mk k t c a b=> .mk k t c a b::(pre a++pre b)
def pre:List Xa->List Xa
 | []=>[]
 | x::r=>pre1 x++pre r
end
mutual
def qh8:Xa->Nat
 | .mk _ _ _ a b=>max (nest a) (nest b)
def nest:List Xa->Nat
 | []=>0
 | x::r=>max (1+qh8 x) (nest r)
end
def appl (x:Xa):Bool:=decide (x.kind=1) || decide (x.kind=3)
def qm7 (p:Prg) (l:List Xa) (x:Xa):Int:=
 if x.kind=2 then (if (exE p [] x.cond).2=0 then (if (exE p [] x.cond).1=1 then 0 else 10) else (exE p [] x.cond).2)
 else if x.kind=1\/x.kind=3 then (if x.table<0\/(p.Xn.length:Int)<=x.table then 8
  else if l.any (fun y=>appl y&&decide (y.table=x.table)) then 7
  else if x.kind=1/\0<x.thn.length+x.els.length then 5 else 0)
 else 11
def ctlE (p:Prg):Int×Int:=if 24<(pre p.control).length then (-1,12) else if 6<nest p.control then (-1,14)
 else (fe (fun i=>((pre p.control)[i]?).bind fun x=>if qm7 p ((pre p.control).take i) x=0 then none else some ((i:Int),qm7 p ((pre p.control).take i) x)) (pre p.control).length 0).getD (0,0)
abbrev Dg:=Int×Int×Int×Int
def limD (p:Prg):Option Dg:=if idS p.name=false then some (6,0,0,0) else if 8<p.Xp.length then some (12,0,1,0) else if 4<p.Xm.length then some (12,0,3,0)
 else if 16<p.actions.length then some (12,0,4,0) else if 12<p.Xn.length then some (12,0,5,0) else none
def qjd (p:Prg) (i:Nat) (h:Xj):Int:=if hdrE h≠0 then hdrE h else if h.name=[109,101,116,97] then 6 else if dupN Xj.name p.Xp i h then 7 else 0
def hdrD (p:Prg):Option Dg:=fe (fun i=>(p.Xp[i]?).bind fun h=>if qjd p i h=0 then none else some (qjd p i h,1,(i:Int),0)) p.Xp.length 0
def qgr (i:Nat):Fld:=if i=0 then ⟨[105,110],8⟩ else if i=1 then ⟨[111,117,116],8⟩ else ⟨[100,114,111,112],1⟩
def metD (p:Prg):Option Dg:=if 12<p.Xo.length then some (12,2,0,0)
 else match fe (fun i=>(p.Xo[i]?).bind fun f=>if fldE p.Xo i f=0 then none else some (fldE p.Xo i f,(2:Int),(i:Int),(0:Int))) p.Xo.length 0 with
  | some d=>some d
  | none=>fe (fun i=>if p.Xo[i]? =some (qgr i) then none else some (5,2,(i:Int),0)) 3 0
def qid (p:Prg) (i:Nat) (r:Xh):Int:=if regE r≠0 then regE r else if dupN Xh.name p.Xm i r then 7 else 0
def regD (p:Prg):Option Dg:=fe (fun i=>(p.Xm[i]?).bind fun r=>if qid p i r=0 then none else some (qid p i r,3,(i:Int),0)) p.Xm.length 0
def qe6 (p:Prg):Option Dg:=fe (fun i=>(p.actions[i]?).bind fun a=>if (actE p i).2≠0 then some ((actE p i).2,(4:Int),(i:Int),(actE p i).1) else if dupN Action.name p.actions i a then some (7,4,(i:Int),0) else none) p.actions.length 0
def tblD (p:Prg):Option Dg:=fe (fun i=>(p.Xn[i]?).bind fun a=>if (tblE p i).2≠0 then some ((tblE p i).2,(5:Int),(i:Int),(tblE p i).1) else if dupN Tbl.name p.Xn i a then some (7,5,(i:Int),0) else none) p.Xn.length 0
def floD (p:Prg):Option Dg:=if (parE p).2.2≠0 then some ((parE p).2.2,6,(parE p).1,(parE p).2.1) else if (ctlE p).2≠0 then some ((ctlE p).2,7,(ctlE p).1,0)
 else if (depE p).2≠0 then some ((depE p).2,8,(depE p).1,0) else none
def prgD (p:Prg):Dg:=((((((limD p).or (hdrD p)).or (metD p)).or (regD p)).or (qe6 p)).or (tblD p)).or (floD p)|>.getD (0,0,0,0)
def qce (w:Int):Int:=if wBad w then 0 else 2^w.toNat - 1
theorem wBad_false {w:Int}:wBad w=false↔1<=w/\w<=32:=by
 simp [wBad]
theorem wr1:IntKind.wrap .i64 1=1:=by decide
theorem wr2:IntKind.wrap .i64 2=2:=by decide
theorem wr3:IntKind.wrap .i64 3=3:=by decide
theorem qjr (w:Int):qad Φ f_261 [.slice 1 [[.int .i64 w]]]=some (.val (.bool (!wBad w))):=by
 rw [qaa (fn:=c_261) rfl rfl];by_cases h1:w<1
 ·simp [c_261];rw [qar];simp [c_261_l0,h1,wBad]
 by_cases h2:32<w
 ·simp [c_261];rw [qar];simp [c_261_l0,h1,h2,wBad]
 simp [c_261];rw [qar];simp [c_261_l0,h1,h2,wr1];rw [qar];simp [c_261_k1,h1,h2,wBad]
theorem qadi:∀k:Nat,k<33->1<=k->ishr .u32 4294967295 (IntKind.wrap .i64 (32 - (k:Int)))=2^k - 1/\0<=IntKind.wrap .i64 (32 - (k:Int)):=by decide
theorem qge (w:Int):qad Φ f_217 [.int .i64 w]=some (.val (.int .u32 (qce w))):=by
 rw [qaa (fn:=c_217) rfl rfl];have hv:=qjr w;cases h:wBad w with
 | true=>
  rw [h] at hv;simp [c_217,hv,qce,h]
 | false=>
  rw [h] at hv;obtain ⟨h1,h2⟩:=wBad_false.1 h;obtain ⟨k,rfl⟩:∃k:Nat,w=k:=⟨w.toNat,by omega⟩;obtain ⟨e1,e2⟩:=qadi k (by omega) (by omega);simp [c_217,hv,qce,h,e2];exact e1
theorem qka (v w:Int):qad Φ f_263 [.int .u32 v,.int .i64 w]=some (.val (.bool (fits v w))):=by
 rw [qaa (fn:=c_263) rfl rfl];have hv:=qjr w;have hm:=qge w;cases h:wBad w with
 | true=>
  rw [h] at hv;simp [c_263,hv,fits,h]
 | false=>
  rw [h] at hv;have e:(v<=qce w)↔v<2^w.toNat:=by
   simp only [qce,h];simp;omega
  simp [c_263,hv,hm,fits,h,e]
theorem qba (b:Bool) (c:Int):qad Φ f_167 [.bool b,.int .i64 c]=some (.val (.int .i64 (if b then c else 0))):=by
 rw [qaa (fn:=c_167) rfl rfl];cases b<;>simp [c_167]
theorem qu6 (r:Xh):qad Φ f_149 [.agg (Xh.c r)]=some (.val (.bool (!(decide (r.size<1) || decide (64<r.size))))):=by
 rw [qaa (fn:=c_149) rfl rfl];by_cases h1:r.size<1<;>by_cases h2:64<r.size<;>simp [c_149,Xh.e,h1,h2,QCi.2,QBi.1]
 all_goals omega
theorem qahx (r:Xh) (hs:r.name.length<2^40):qad Φ f_178 [.agg (Xh.c r)]=some (.val (.int .i64 (regE r))):=by
 rw [qaa (fn:=c_178) rfl rfl];have h1:=qec r.name hs;have h2:=qge r.width;have h3:=qu6 r;rw [Xh.e] at h3;cases q1:idS r.name with
 | false=>rw [q1] at h1;simp [c_178,Xh.e,h1,regE,q1]
 | true=>
  rw [q1] at h1;cases q2:wBad r.width with
  | true=>simp [c_178,Xh.e,h1,h2,regE,q1,q2,qce]
  | false=>
   obtain ⟨w1,w2⟩:=wBad_false.1 q2;have:¬(2:Int)^r.width.toNat - 1=0:=by
    have:(2:Int)^1<=2^r.width.toNat:=by
     have:=QBu (n:=2) (by omega) (show 1<=r.width.toNat by omega)
     exact_mod_cast this
    omega
   by_cases z1:r.size<1
   ·simp [z1] at h3;simp [c_178,Xh.e,h1,h2,h3,regE,q1,q2,qce,this,z1]
   by_cases z2:64<r.size
   ·simp [z1,z2] at h3;simp [c_178,Xh.e,h1,h2,h3,regE,q1,q2,qce,this,z1,z2]
   simp [z1,z2] at h3;simp [c_178,Xh.e,h1,h2,h3,regE,q1,q2,qce,this,z1,z2]
@[simp] theorem qalq {α β:Type} (f:α->β) (l:List α):(l.map f).take l.length=l.map f:=by
 rw [Qo];simp
theorem qab9 (h:Xj) (hl:h.fields.length<2^40):qad Φ f_227 [.agg (Xj.c h)]=some (.val (.slice 1 (h.fields.map fun f=>[.int .i64 f.width]))):=by
 rw [qaa (fn:=c_227) rfl rfl];simp [c_227,Xj.e];refine (qa4 h.fields.length (fun i=>[(0,.tok 1 i)]) 1 (fun i e=>look 3 e=some (.app 1 ((h.fields.map fun f=>[AV.int .i64 f.width]).take i) 0)/\look 7 e=some (.slice 2 (h.fields.map Fld.c))/\look 8 e=some (.int .i64 h.fields.length)/\look 9 e=some (.int .i64 i))
  (fun i=>some (.val (.slice 1 (h.fields.map fun f=>[.int .i64 f.width])))) ?_ ?_ 0 _ 1 (Qc _) (Qb _) ?_).trans (by simp)
 ·rintro i e n L hi hL hn ⟨h3,h7,h8,h9⟩ ih;have hw:=qal i (by omega);have hn0:¬(0=n):=by omega
  have hn1:¬(n=0):=by omega
  have hm:min i h.fields.length=i:=by omega
  have hb:(i+1)*8<=70368744177664:=by omega
  simp [c_227_l0,Fld.e,h3,h7,h8,h9,hi,hw,hn0,hm,hb];exact ih _ _ (by omega) ⟨by simp [qa5 hi],by simp [h7],by simp [h8],by simp⟩
 ·rintro e n L hL hn ⟨h3,h7,h8,h9⟩;simp [c_227_l0,c_227_k1,h3,h8,h9,hL]
 ·simp
theorem qalo (l:List Int) (hl:l.length<2^40) (hb:∀x∈l,1<=x/\x<=32):qad Φ f_226 [.slice 1 (l.map fun x=>[.int .i64 x])]=some (.val (.int .i64 l.sum)):=by
 rw [qaa (fn:=c_226) rfl rfl];simp [c_226];have key:∀i,i<=l.length->0<=(l.take i).sum/\(l.take i).sum<=32*i:=by
  intro i
  induction i with
  | zero=>intro _;simp
  | succ i ih=>
   intro hi;have:=ih (by omega);have hx:=hb _ (Qd (show i<l.length by omega));rw [Qh (by omega),List.sum_append,QCo];omega
 refine (qcj l.length (fun i e=>look 3 e=some (.int .i64 (l.take i).sum)/\look 6 e=some (.slice 1 (l.map fun x=>[.int .i64 x]))/\look 7 e=some (.int .i64 l.length)/\look 8 e=some (.int .i64 i))
  (fun i=>some (.val (.int .i64 l.sum))) ?_ ?_ 0 _ (Qc _) ?_).trans (by simp)
 ·rintro i e L hi hL ⟨h3,h6,h7,h8⟩ ih;have hw:=qal i (by omega);have k1:=key (i+1) (by omega);have e1:(l.take (i+1)).sum=(l.take i).sum+l[i]:=by rw [Qh hi,List.sum_append,QCo]
  have hw2:IntKind.wrap .i64 ((l.take i).sum+l[i])=(l.take (i+1)).sum:=by rw [<- e1];exact qbb (by omega) (by omega)
  simp [c_226_l0,h3,h6,h7,h8,hi,hw,hw2];exact ih _ ⟨by simp,by simp [h6],by simp [h7],by simp⟩
 ·rintro e L hL ⟨h3,h6,h7,h8⟩;simp [c_226_l0,c_226_k1,h3,h7,h8,hL]
 ·simp
def Any (h:AH):Prop:=Tail h.objs h.next
theorem Any.app {T:List (Nat×AO)} {n:Nat} {o:AO} (h:Any ⟨T,n⟩):Any ⟨T++[(n,o)],n+1⟩:=Tail.app h o
theorem Any.mk {T:List (Nat×AO)} {n:Nat} (h:Tail T n):Any ⟨T,n⟩:=h
def hdrR (l:List Fld) (i:Nat):Int:=match fe (fun i=>(l[i]?).bind fun f=>er (fldE l i f)) l.length i with
 | some e=>e
 | none=>if wSum l % 8=0 then 0 else 10
theorem qk0 {l:List Fld} {i:Nat} (hi:i<l.length) (h:fldE l i l[i]≠0):hdrR l i=fldE l i l[i]:=by
 unfold hdrR;rw [qax (x:=fldE l i l[i]) hi (by simp [hi,er,h])]
theorem qaa0 {l:List Fld} {i:Nat} (hi:i<l.length) (h:fldE l i l[i]=0):hdrR l i=hdrR l (i+1):=by
 unfold hdrR;rw [qbm hi (by simp [hi,h])]
theorem qada {l:List Fld}:hdrR l l.length=if wSum l % 8=0 then 0 else 10:=by
 unfold hdrR;rw [qcc]
theorem fe_all {α:Type} {f:Nat->Option α} {N:Nat}:fe f N 0=none↔∀i,i<N->f i=none:=by
 have key:∀n i,feF f n i=none↔∀k,i<=k->k<i+n->f k=none:=by
  intro n
  induction n with
  | zero=>intro i;simp [feF];omega
  | succ n ih=>
   intro i;simp only [feF];cases h:f i with
   | some x=>simp;exact ⟨i,Qb _,by omega,by simp [h]⟩
   | none=>
    simp only [ih];constructor
    ·intro hh k h1 h2;rcases QCa h1 with rfl | h3
     ·exact h
     ·exact hh k (by omega) (by omega)
    ·intro hh k h1 h2;exact hh k (by omega) (by omega)
 unfold fe;rw [key];simp
theorem wSum_eq (l:List Fld):wSum l=(l.map (·.width)).sum:=rfl
theorem qaga (h:Xj) (hn:h.name.length<2^40) (hf:∀f∈h.fields,f.name.length<2^40):qad Φ f_171 [.agg (Xj.c h)]=some (.val (.int .i64 (hdrE h))):=by
 rw [qaa (fn:=c_171) rfl rfl];have n1:=qec h.name hn;cases q1:idS h.name with
 | false=>rw [q1] at n1;simp [c_171,Xj.e,n1,hdrE,q1]
 | true=>
 rw [q1] at n1;by_cases z0:h.fields.length=0
 ·simp [c_171,Xj.e,n1,hdrE,q1,z0]
 by_cases z1:12<h.fields.length
 ·simp [c_171,Xj.e,n1,hdrE,q1,z0,z1]
 have hE:hdrE h=hdrR h.fields 0:=by simp [hdrE,q1,z0,z1,hdrR,qyf]<;>rfl
 rw [hE];simp [c_171,Xj.e,n1,z0,z1];refine qdt h.fields.length (fun i e H=>look 1 e=some (.iptr 2 [[.str h.name,.slice 2 (h.fields.map Fld.c)]] 0 0)/\look 23 e=some (.slice 2 (h.fields.map Fld.c))/\look 24 e=some (.int .i64 h.fields.length)/\look 25 e=some (.int .i64 i)/\Any H/\
   ∀k,k<i->fldE h.fields k (h.fields.getD k default)=0)
  (fun i=>some (Rt.val (.int .i64 (hdrR h.fields i)))) ?_ ?_ 0 _ _ (Qc _) ?_
 ·rintro i e ⟨T,n⟩ L hi hL ⟨h1,h23,h24,h25,hT,hz⟩ ih;have hT':look n T=none:=hT n (Qb _);have hw:=qal i (by omega);have nf:=qec h.fields[i].name (hf _ (Qd hi));cases p1:idS h.fields[i].name with
  | false=>
   rw [p1] at nf;rw [qk0 hi (by simp [fldE,p1])];simp [c_171_l2,Fld.e,h23,h24,h25,hi,hT',nf,fldE,p1]
  | true=>
  rw [p1] at nf;by_cases w1:h.fields[i].width<1
  ·rw [qk0 hi (by simp [fldE,p1,wBad,w1])];simp [c_171_l2,Fld.e,h23,h24,h25,hi,hT',nf,fldE,p1,wBad,w1]
  by_cases w2:32<h.fields[i].width
  ·rw [qk0 hi (by simp [fldE,p1,wBad,w2])];simp [c_171_l2,Fld.e,h23,h24,h25,hi,hT',nf,fldE,p1,wBad,w1,w2]
  have hi':i<=h.fields.length:=by omega
  have hmi:min i h.fields.length=i:=by omega
  simp [c_171_l2,Fld.e,h1,h23,h24,h25,hi,hT',nf,w1,w2,hi'];refine (qn9 (h.fields.take i) (fun g=>decide (g.name=h.fields[i].name)) (some (Rt.val (.int .i64 7))) (some (Rt.val (.int .i64 (hdrR h.fields (i+1)))))
   (fun k e H=>look 1 e=some (.iptr 2 [[.str h.name,.slice 2 (h.fields.map Fld.c)]] 0 0)/\look 23 e=some (.slice 2 (h.fields.map Fld.c))/\look 24 e=some (.int .i64 h.fields.length)/\look 25 e=some (.int .i64 i)/\
    look 4 e=some (.iptr 2 [[.str h.fields[i].name,.int .i64 h.fields[i].width]] 0 0)/\look 45 e=some (.slice 2 ((h.fields.map Fld.c).take i))/\look 46 e=some (.int .i64 i)/\look 47 e=some (.int .i64 k)/\Any H/\
    (0<k->qc1 (h.fields.take i) (fun g=>decide (g.name=h.fields[i].name)) 0=qc1 (h.fields.take i) (fun g=>decide (g.name=h.fields[i].name)) k)) ?_ ?_ ?_ _ _ ?_).trans ?_
  ·rintro k e ⟨T2,m⟩ L' hk hL' ⟨h1,h23,h24,h25,g4,g45,g46,g47,hT2,_⟩ hb;simp only [QAp] at hk;have hk1:k<i:=by omega
   have hk2:k<h.fields.length:=by omega
   simp only [List.getElem_take,decide_eq_true_eq] at hb;have hm:look m T2=none:=hT2 m (Qb _);simp [c_171_l0,Fld.e,g4,g45,g46,g47,hk1,hm,hb,hmi]
  ·rintro k e ⟨T2,m⟩ L' X hk hL' ⟨h1,h23,h24,h25,g4,g45,g46,g47,hT2,hy⟩ hb ih';have hb':=hb;have hk0:=hk;simp only [QAp] at hk;have hk1:k<i:=by omega
   have hk2:k<h.fields.length:=by omega
   simp only [List.getElem_take,decide_eq_false_iff_not] at hb;have hm:look m T2=none:=hT2 m (Qb _);have hw':=qal k (by omega);simp [c_171_l0,Fld.e,g4,g45,g46,g47,hk1,hm,hb,hmi,hw'];refine ih' _ _ ⟨by simp [h1],by simp [h23],by simp [h24],by simp [h25],by simp [g4],by simp [g45],by simp [g46],by simp,Any.app hT2,fun _=>?_⟩;rcases Qw k with rfl | hp
   ·exact qit hk0 hb'
   ·rw [hy hp];exact qit hk0 hb'
  ·rintro e ⟨T2,m⟩ L' hL' ⟨h1,h23,h24,h25,g4,g45,g46,g47,hT2,hy⟩;have hm:min i h.fields.length=i:=by omega
   simp [hm] at g47 hy;have hd:dupN Fld.name h.fields i h.fields[i]=false:=by
    unfold dupN;rw [<- qnz];rcases Qw i with hp | hp
    ·subst hp;simp [qc1]
    ·rw [hy hp];have:=qmu (l:=h.fields.take i) (p:=fun g=>decide (g.name=h.fields[i].name));simpa [hm] using this
   simp [c_171_l0,c_171_k1,g46,g47,h25,hL',hw];refine ih _ _ ⟨by simp [h1],by simp [h23],by simp [h24],by simp,hT2,?_⟩;intro k hk;rcases Nat.lt_succ_iff_lt_or_eq.1 hk with hlt | rfl
   ·exact hz k hlt
   ·rw [List.getD_eq_getElem?_getD,Qa hi,QAx];simp [fldE,p1,wBad,w1,w2,hd]
  ·simp [h1,h23,h24,h25,hT.mono (QBh _),Any]
  ·cases p3:dupN Fld.name h.fields i h.fields[i] with
   | true=>
    rw [qk0 hi (by simp [fldE,p1,wBad,w1,w2,p3])];unfold dupN at p3;simp only [p3,if_true];simp [fldE,p1,wBad,w1,w2,dupN,p3]
   | false=>
    rw [qaa0 hi (by simp [fldE,p1,wBad,w1,w2,p3])];unfold dupN at p3;simp [p3]
 ·rintro e ⟨T,n⟩ L hL ⟨h1,h23,h24,h25,hT,hz⟩;have hb:∀x∈h.fields.map (·.width),1<=x/\x<=32:=by
   intro x hx;obtain ⟨f,hf,rfl⟩:=QAv.1 hx;obtain ⟨k,hk,rfl⟩:=Qn.1 hf;have:=hz k hk;rw [List.getD_eq_getElem?_getD,Qa hk,QAx] at this;refine wBad_false.1 ?_;cases q:wBad h.fields[k].width with
   | false=>rfl
   | true=>
    simp only [fldE,q] at this;split at this
    ·omega
    ·simp at this
  have e1:=qab9 h (by omega);have e2:=qalo (h.fields.map (·.width)) (by simp;omega) hb;simp only [Xj.e] at e1;simp only [List.map_map] at e2;have hs:0<=wSum h.fields:=by
   unfold wSum;have:∀l:List Int,(∀x∈l,1<=x/\x<=32)->0<=l.sum:=by
    intro l
    induction l with
    | nil=>intro _;simp
    | cons a l ih=>intro hh;have:=ih fun x hx=>hh x (by simp [hx]);have:=hh a (by simp);simp;omega
   exact this _ hb
  have e3:wSum h.fields % 8=(wSum h.fields).tmod 8:=(Int.tmod_eq_emod_of_nonneg hs).symm;rw [qada,e3];have e4:qad Φ f_226 [.slice 1 (h.fields.map fun f=>[.int .i64 f.width])]=some (.val (.int .i64 (wSum h.fields))):=e2;by_cases z:(wSum h.fields).tmod 8=0
  ·simp [c_171_l2,c_171_k3,h1,h24,h25,hL,e1,e4,z]
  ·simp [c_171_l2,c_171_k3,h1,h24,h25,hL,e1,e4,z]
 ·simp [Any,Tail]
def tF:Nat:=172
def qf1 (c p i s:Int):AV:= .iface tF (.agg [.int .i64 c,.int .i64 p,.int .i64 i,.int .i64 s])
theorem qaoy (c p i s:Int):AV.iface 172 (.agg [.int .i64 c,.int .i64 p,.int .i64 i,.int .i64 s])=qf1 c p i s:=rfl
@[simp] theorem qam3 (c p i s:Int) (n:Nat):flat (n+3) (qf1 c p i s)=true:=by simp [qf1]
@[simp] theorem qam4 (c p i s:Int) (n:Nat) (H:AH):snap (n+3) H (qf1 c p i s)=some (qf1 c p i s):=by simp [qf1]
def rtD (o:Option Dg):Rt:=match o with
 | none=> .val (.tup [])
 | some d=> .pan (qf1 d.1 d.2.1 d.2.2.1 d.2.2.2)
theorem qay (p i s:Int):qad Φ f_166 [.int .i64 0,.int .i64 p,.int .i64 i,.int .i64 s]=some (.val (.tup [])):=by
 rw [qaa (fn:=c_166) rfl rfl];simp [c_166]
theorem qav {c:Int} (h:¬c=0) (p i s:Int):qad Φ f_166 [.int .i64 c,.int .i64 p,.int .i64 i,.int .i64 s]=some (.pan (qf1 c p i s)):=by
 rw [qaa (fn:=c_166) rfl rfl];simp [c_166,h,qf1,tF]
theorem qlr (s:List UInt8) (hs:s.length<2^40):qad Φ f_168 [.str s]=some (.val (.bool (!idS s))):=by
 rw [qaa (fn:=c_168) rfl rfl];simp [c_168,qec s hs]
theorem qp5 (w:Int):qad Φ f_175 [.int .i64 w]=some (.val (.bool (wBad w))):=by
 rw [qaa (fn:=c_175) rfl rfl];by_cases h1:w<1<;>simp [c_175,wBad,h1]
def ix {α:Type} (p:α->Bool) (l:List α) (i:Nat):Int:=(fe (fun k=>(l[k]?).bind fun a=>if p a then some (k:Int) else none) l.length i).getD (-1)
theorem qke {α:Type} {p:α->Bool} {l:List α} {i:Nat} (hi:i<l.length) (h:p l[i]=true):ix p l i=i:=by
 unfold ix;rw [qax (x:=(i:Int)) hi (by simp [hi,h])];rfl
theorem qik {α:Type} {p:α->Bool} {l:List α} {i:Nat} (hi:i<l.length) (h:p l[i]=false):ix p l i=ix p l (i+1):=by
 unfold ix;rw [qbm hi (by simp [hi,h])]
theorem qkd {α:Type} {p:α->Bool} {l:List α}:ix p l l.length= -1:=by
 unfold ix;rw [qcc];rfl
theorem qwu {α:Type} {p:α->Bool} {l:List α}:∀n i,n+i=l.length->decide (0<=ix p l i)=qc1 l p i
 | 0,i,h=>by
  have:i=l.length:=by omega
  subst this;rw [qkd,qmu];rfl
 | n+1,i,h=>by
  have hi:i<l.length:=by omega
  cases q:p l[i] with
  | true=>rw [qke hi q,qp9 hi q];simp
  | false=>rw [qik hi q,qit hi q];exact qwu n (i+1) (by omega)
theorem qma {α:Type} {p:α->Bool} {l:List α}:decide (0<=ix p l 0)=l.any p:=by
 rw [qwu l.length 0 (by omega),qnz]
theorem qaa4 (l:List (List UInt8)) (x:List UInt8) (hl:l.length<2^40):qad Φ f_270 [.slice 1 (l.map fun s=>[.str s]),.str x]=some (.val (.int .i64 (ix (fun s=>decide (x=s)) l 0))):=by
 rw [qaa (fn:=c_270) rfl rfl];simp [c_270];refine (qcj l.length (fun i e=>look 0 e=some (.slice 1 (l.map fun s=>[.str s]))/\look 1 e=some (.str x)/\look 6 e=some (.slice 1 (l.map fun s=>[.str s]))/\look 7 e=some (.int .i64 l.length)/\look 8 e=some (.int .i64 i))
  (fun i=>some (.val (.int .i64 (ix (fun s=>decide (x=s)) l i)))) ?_ ?_ 0 _ (Qc _) ?_).trans (by simp)
 ·rintro i e L hi hL ⟨h0,h1,h6,h7,h8⟩ ih;have hw:=qal i (by omega);by_cases z:x=l[i]
  ·rw [qke hi (by simpa using z)];simp [c_270_l0,h0,h1,h7,h8,hi,<- z]
  ·rw [qik hi (by simpa using z)];simp [c_270_l0,h0,h1,h7,h8,hi,z,hw];exact ih _ ⟨by simp [h0],by simp [h1],by simp [h6],by simp [h7],by simp⟩
 ·rintro e L hL ⟨h0,h1,h6,h7,h8⟩;rw [qkd];simp [c_270_l0,c_270_k1,h7,h8,hL]
 ·simp
theorem qtl (l:List (List UInt8)) (x:List UInt8) (hl:l.length<2^40):qad Φ f_228 [.slice 1 (l.map fun s=>[.str s]),.str x]=some (.val (.bool (l.any fun s=>decide (x=s)))):=by
 rw [qaa (fn:=c_228) rfl rfl];have h:=qaa4 l x hl;have e:=qma (p:=fun s=>decide (x=s)) (l:=l);simp [c_228,h];rw [<- e]
theorem qft {α:Type} (nm:α->List UInt8) (l:List α) (i:Nat) (hi:i<l.length) (hl:l.length<2^40):qad Φ f_172 [.slice 1 (l.map fun x=>[.str (nm x)]),.int .i64 i]=some (.val (.bool (dupN nm l i l[i]))):=by
 rw [qaa (fn:=c_172) rfl rfl];have h:=qtl ((l.map nm).take i) (nm l[i]) (by simp;omega);have e:(((l.map nm).take i).any fun s=>decide (nm l[i]=s))=dupN nm l i l[i]:=by
  unfold dupN;rw [<- QBa,List.any_map];congr 1;funext y;simp [eq_comm]
 rw [e] at h;rw [<- QBa,List.map_map,QBa] at h;have h':qad Φ f_228 [.slice 1 ((l.map fun x=>[AV.str (nm x)]).take i),.str (nm l[i])]=some (.val (.bool (dupN nm l i l[i]))):=h;have hi':i<=l.length:=by omega
 simp [c_172,hi,hi',h']
theorem qsh (x:Xj):qad Φ f_170 [.agg (Xj.c x)]=some (.val (.str x.name)):=by
 rw [qaa (fn:=c_170) rfl rfl];simp [c_170,Xj.e]
theorem qqp (l:List Xj) (hl:l.length<2^40):qad Φ f_169 [.slice 2 (l.map Xj.c),.func (.func f_170) [] []]=some (.val (.slice 1 (l.map fun x=>[.str x.name]))):=by
 rw [qaa (fn:=c_169) rfl rfl];simp [c_169];refine (qa4 l.length (fun i=>[(0,.tok 1 i)]) 1 (fun i e=>look 1 e=some (.func (.func f_170) [] [])/\look 5 e=some (.app 1 ((l.map fun x=>[AV.str x.name]).take i) 0)/\look 8 e=some (.slice 2 (l.map Xj.c))/\look 9 e=some (.int .i64 l.length)/\look 10 e=some (.int .i64 i))
  (fun i=>some (.val (.slice 1 (l.map fun x=>[.str x.name])))) ?_ ?_ 0 _ 1 (Qc _) (Qb _) ?_).trans (by simp)
 ·rintro i e n L hi hL hn ⟨h1,h5,h8,h9,h10⟩ ih;have hw:=qal i (by omega);have hn0:¬(0=n):=by omega
  have hn1:¬(n=0):=by omega
  have hm:min i l.length=i:=by omega
  have hb:(i+1)*16<=70368744177664:=by omega
  have hN:=qsh l[i];simp only [Xj.e] at hN;simp [c_169_l0,Xj.e,h1,h5,h8,h9,h10,hi,hw,hn0,hm,hb,hN];exact ih _ _ (by omega) ⟨by simp [h1],by simp [qa5 hi],by simp [h8],by simp [h9],by simp⟩
 ·rintro e n L hL hn ⟨h1,h5,h8,h9,h10⟩;simp [c_169_l0,c_169_k1,h5,h9,h10,hL]
 ·simp
theorem qtz (x:Fld):qad Φ f_174 [.agg (Fld.c x)]=some (.val (.str x.name)):=by
 rw [qaa (fn:=c_174) rfl rfl];simp [c_174,Fld.e]
theorem qvy (l:List Fld) (hl:l.length<2^40):qad Φ f_173 [.slice 2 (l.map Fld.c),.func (.func f_174) [] []]=some (.val (.slice 1 (l.map fun x=>[.str x.name]))):=by
 rw [qaa (fn:=c_173) rfl rfl];simp [c_173];refine (qa4 l.length (fun i=>[(0,.tok 1 i)]) 1 (fun i e=>look 1 e=some (.func (.func f_174) [] [])/\look 5 e=some (.app 1 ((l.map fun x=>[AV.str x.name]).take i) 0)/\look 8 e=some (.slice 2 (l.map Fld.c))/\look 9 e=some (.int .i64 l.length)/\look 10 e=some (.int .i64 i))
  (fun i=>some (.val (.slice 1 (l.map fun x=>[.str x.name])))) ?_ ?_ 0 _ 1 (Qc _) (Qb _) ?_).trans (by simp)
 ·rintro i e n L hi hL hn ⟨h1,h5,h8,h9,h10⟩ ih;have hw:=qal i (by omega);have hn0:¬(0=n):=by omega
  have hn1:¬(n=0):=by omega
  have hm:min i l.length=i:=by omega
  have hb:(i+1)*16<=70368744177664:=by omega
  have hN:=qtz l[i];simp only [Fld.e] at hN;simp [c_173_l0,Fld.e,h1,h5,h8,h9,h10,hi,hw,hn0,hm,hb,hN];exact ih _ _ (by omega) ⟨by simp [h1],by simp [qa5 hi],by simp [h8],by simp [h9],by simp⟩
 ·rintro e n L hL hn ⟨h1,h5,h8,h9,h10⟩;simp [c_173_l0,c_173_k1,h5,h9,h10,hL]
 ·simp
theorem qpq (x:Xh):qad Φ f_177 [.agg (Xh.c x)]=some (.val (.str x.name)):=by
 rw [qaa (fn:=c_177) rfl rfl];simp [c_177,Xh.e]
theorem qob (l:List Xh) (hl:l.length<2^40):qad Φ f_176 [.slice 3 (l.map Xh.c),.func (.func f_177) [] []]=some (.val (.slice 1 (l.map fun x=>[.str x.name]))):=by
 rw [qaa (fn:=c_176) rfl rfl];simp [c_176];refine (qa4 l.length (fun i=>[(0,.tok 1 i)]) 1 (fun i e=>look 1 e=some (.func (.func f_177) [] [])/\look 5 e=some (.app 1 ((l.map fun x=>[AV.str x.name]).take i) 0)/\look 8 e=some (.slice 3 (l.map Xh.c))/\look 9 e=some (.int .i64 l.length)/\look 10 e=some (.int .i64 i))
  (fun i=>some (.val (.slice 1 (l.map fun x=>[.str x.name])))) ?_ ?_ 0 _ 1 (Qc _) (Qb _) ?_).trans (by simp)
 ·rintro i e n L hi hL hn ⟨h1,h5,h8,h9,h10⟩ ih;have hw:=qal i (by omega);have hn0:¬(0=n):=by omega
  have hn1:¬(n=0):=by omega
  have hm:min i l.length=i:=by omega
  have hb:(i+1)*16<=70368744177664:=by omega
  have hN:=qpq l[i];simp only [Xh.e] at hN;simp [c_176_l0,Xh.e,h1,h5,h8,h9,h10,hi,hw,hn0,hm,hb,hN];exact ih _ _ (by omega) ⟨by simp [h1],by simp [qa5 hi],by simp [h8],by simp [h9],by simp⟩
 ·rintro e n L hL hn ⟨h1,h5,h8,h9,h10⟩;simp [c_176_l0,c_176_k1,h5,h9,h10,hL]
 ·simp
theorem qr9 (x:Action):qad Φ f_180 [.agg (Action.c x)]=some (.val (.str x.name)):=by
 rw [qaa (fn:=c_180) rfl rfl];simp [c_180,Action.e]
theorem qqo (l:List Action) (hl:l.length<2^40):qad Φ f_179 [.slice 3 (l.map Action.c),.func (.func f_180) [] []]=some (.val (.slice 1 (l.map fun x=>[.str x.name]))):=by
 rw [qaa (fn:=c_179) rfl rfl];simp [c_179];refine (qa4 l.length (fun i=>[(0,.tok 1 i)]) 1 (fun i e=>look 1 e=some (.func (.func f_180) [] [])/\look 5 e=some (.app 1 ((l.map fun x=>[AV.str x.name]).take i) 0)/\look 8 e=some (.slice 3 (l.map Action.c))/\look 9 e=some (.int .i64 l.length)/\look 10 e=some (.int .i64 i))
  (fun i=>some (.val (.slice 1 (l.map fun x=>[.str x.name])))) ?_ ?_ 0 _ 1 (Qc _) (Qb _) ?_).trans (by simp)
 ·rintro i e n L hi hL hn ⟨h1,h5,h8,h9,h10⟩ ih;have hw:=qal i (by omega);have hn0:¬(0=n):=by omega
  have hn1:¬(n=0):=by omega
  have hm:min i l.length=i:=by omega
  have hb:(i+1)*16<=70368744177664:=by omega
  have hN:=qr9 l[i];simp only [Action.e] at hN;simp [c_179_l0,Action.e,h1,h5,h8,h9,h10,hi,hw,hn0,hm,hb,hN];exact ih _ _ (by omega) ⟨by simp [h1],by simp [qa5 hi],by simp [h8],by simp [h9],by simp⟩
 ·rintro e n L hL hn ⟨h1,h5,h8,h9,h10⟩;simp [c_179_l0,c_179_k1,h5,h9,h10,hL]
 ·simp
theorem qvc (x:Tbl):qad Φ f_183 [.agg (Tbl.c x)]=some (.val (.str x.name)):=by
 rw [qaa (fn:=c_183) rfl rfl];simp [c_183,Tbl.e]
theorem qvz (l:List Tbl) (hl:l.length<2^40):qad Φ f_182 [.slice 6 (l.map Tbl.c),.func (.func f_183) [] []]=some (.val (.slice 1 (l.map fun x=>[.str x.name]))):=by
 rw [qaa (fn:=c_182) rfl rfl];simp [c_182];refine (qa4 l.length (fun i=>[(0,.tok 1 i)]) 1 (fun i e=>look 1 e=some (.func (.func f_183) [] [])/\look 5 e=some (.app 1 ((l.map fun x=>[AV.str x.name]).take i) 0)/\look 8 e=some (.slice 6 (l.map Tbl.c))/\look 9 e=some (.int .i64 l.length)/\look 10 e=some (.int .i64 i))
  (fun i=>some (.val (.slice 1 (l.map fun x=>[.str x.name])))) ?_ ?_ 0 _ 1 (Qc _) (Qb _) ?_).trans (by simp)
 ·rintro i e n L hi hL hn ⟨h1,h5,h8,h9,h10⟩ ih;have hw:=qal i (by omega);have hn0:¬(0=n):=by omega
  have hn1:¬(n=0):=by omega
  have hm:min i l.length=i:=by omega
  have hb:(i+1)*16<=70368744177664:=by omega
  have hN:=qvc l[i];simp only [Tbl.e] at hN;simp [c_182_l0,Tbl.e,h1,h5,h8,h9,h10,hi,hw,hn0,hm,hb,hN];exact ih _ _ (by omega) ⟨by simp [h1],by simp [qa5 hi],by simp [h8],by simp [h9],by simp⟩
 ·rintro e n L hL hn ⟨h1,h5,h8,h9,h10⟩;simp [c_182_l0,c_182_k1,h5,h9,h10,hL]
 ·simp
structure PrgS (p:Prg):Prop where
 n:p.name.length<2^40
 h:p.Xp.length<2^40
 hn:∀h∈p.Xp,h.name.length<2^40
 hf:∀h∈p.Xp,∀f∈h.fields,f.name.length<2^40
 hl:∀h∈p.Xp,h.fields.length<2^40
 m:p.Xo.length<2^40
 mn:∀f∈p.Xo,f.name.length<2^40
 r:p.Xm.length<2^40
 rn:∀r∈p.Xm,r.name.length<2^40
 a:p.actions.length<2^40
 an:∀a∈p.actions,a.name.length<2^40
 ap:∀a∈p.actions,a.params.length<2^40
 apn:∀a∈p.actions,∀f∈a.params,f.name.length<2^40
 ab:∀a∈p.actions,a.body.length<2^40
 ai:∀a∈p.actions,∀s∈a.body,s.index.length<2^40
 av:∀a∈p.actions,∀s∈a.body,s.value.length<2^40
 t:p.Xn.length<2^40
 tn:∀t∈p.Xn,t.name.length<2^40
 tk:∀t∈p.Xn,t.keys.length<2^40
 ta:∀t∈p.Xn,t.actions.length<2^40
 tg:∀t∈p.Xn,t.dflt.args.length<2^40
 s:p.states.length<2^40
 sn:∀s∈p.states,s.name.length<2^40
 se:∀s∈p.states,s.extract.length<2^40
 sc:∀s∈p.states,s.cases.length<2^40
 sv:∀s∈p.states,∀c∈s.cases,ok32 qaz c.value/\ok32 qaz c.mask
 c:p.control.length<2^40
 co:∀x∈p.control,Xa.Ok qaz x
 d:p.Xs.length<2^40
theorem qfh {p:Prg} (o:p.Ok qaz):PrgS p:=by
 obtain ⟨o0,o1,o2,o3,o4,o5,o6,o7,o8⟩:=o;have e:=qd6;simp only [qed,okL,Xj.Ok,Fld.Ok,Xh.Ok,Action.Ok,Xg.Ok,Tbl.Ok,Xb.Ok,Xd.Ok,Xk.Ok] at o0 o1 o2 o3 o4 o5 o6 o7 o8;refine ⟨by omega,by omega,?_,?_,?_,by omega,?_,by omega,?_,by omega,?_,?_,?_,?_,?_,?_,by omega,?_,?_,?_,?_,by omega,?_,?_,?_,?_,by omega,o7.2,by omega⟩
 ·intro h hh;have:=(o1.2 h hh).1;omega
 ·intro h hh f hf;have:=((o1.2 h hh).2.2 f hf).1;omega
 ·intro h hh;have:=(o1.2 h hh).2.1;omega
 ·intro f hf;have:=(o2.2 f hf).1;omega
 ·intro r hr;have:=(o3.2 r hr).1;omega
 ·intro a ha;have:=(o4.2 a ha).1;omega
 ·intro a ha;have:=(o4.2 a ha).2.1.1;omega
 ·intro a ha f hf;have:=((o4.2 a ha).2.1.2 f hf).1;omega
 ·intro a ha;have:=(o4.2 a ha).2.2.1;omega
 ·intro a ha s hs;have:=((o4.2 a ha).2.2.2 s hs).2.2.2.2.1.1;omega
 ·intro a ha s hs;have:=((o4.2 a ha).2.2.2 s hs).2.2.2.2.2.1;omega
 ·intro t ht;have:=(o5.2 t ht).1;omega
 ·intro t ht;have:=(o5.2 t ht).2.1.1;omega
 ·intro t ht;have:=(o5.2 t ht).2.2.1.1;omega
 ·intro t ht;have:=(o5.2 t ht).2.2.2.1.2.1;omega
 ·intro s hs;have:=(o6.2 s hs).1;omega
 ·intro s hs;have:=(o6.2 s hs).2.1.1;omega
 ·intro s hs;have:=(o6.2 s hs).2.2.2.1.1;omega
 ·intro s hs c hc;have:=(o6.2 s hs).2.2.2.1.2 c hc;exact ⟨this.1,this.2.1⟩
theorem qabd (p:Prg) (f:PrgS p):qad Φ f_99 [.agg (Prg.c p)]=some (rtD (limD p)):=by
 rw [qaa (fn:=c_99) rfl rfl];have n1:=qlr p.name f.n;cases q1:idS p.name with
 | false=>rw [q1] at n1;simp [c_99,Prg.e,n1,qba,qav,limD,q1,rtD]
 | true=>
 rw [q1] at n1;by_cases z1:8<p.Xp.length
 ·simp [c_99,Prg.e,n1,qba,qay,qav,limD,q1,rtD,z1]
 by_cases z2:4<p.Xm.length
 ·simp [c_99,Prg.e,n1,qba,qay,qav,limD,q1,rtD,z1,z2]
 by_cases z3:16<p.actions.length
 ·simp [c_99,Prg.e,n1,qba,qay,qav,limD,q1,rtD,z1,z2,z3]
 by_cases z4:12<p.Xn.length
 ·simp [c_99,Prg.e,n1,qba,qay,qav,limD,q1,rtD,z1,z2,z3,z4]
 simp [c_99,Prg.e,n1,qba,qay,limD,q1,rtD,z1,z2,z3,z4]
def hdrG (p:Prg) (i:Nat):Option Dg:=(p.Xp[i]?).bind fun h=>if qjd p i h=0 then none else some (qjd p i h,1,(i:Int),0)
theorem qow (p:Prg) (f:PrgS p):qad Φ f_100 [.agg (Prg.c p)]=some (rtD (hdrD p)):=by
 rw [qaa (fn:=c_100) rfl rfl,show hdrD p=fe (hdrG p) p.Xp.length 0 from rfl];have e1:=qqp p.Xp f.h;simp [c_100,Prg.e,e1];refine qa4 p.Xp.length (fun _=>[]) 0 (fun i e=>look 2 e=some (.slice 1 (p.Xp.map fun x=>[.str x.name]))/\look 9 e=some (.slice 2 (p.Xp.map Xj.c))/\look 10 e=some (.int .i64 p.Xp.length)/\look 11 e=some (.int .i64 i))
  (fun i=>some (rtD (fe (hdrG p) p.Xp.length i))) ?_ ?_ 0 _ 0 (Qc _) (Qb _) ?_
 ·rintro i e n L hi hL _ ⟨h2,h9,h10,h11⟩ ih;have hlen:=f.h;have hw:=qal i (by omega);have hm:=Qd hi;have eh:=qaga p.Xp[i] (f.hn _ hm) (f.hf _ hm);simp only [Xj.e] at eh;have er:=qft Xj.name p.Xp i hi f.h;by_cases z1:hdrE p.Xp[i]=0
  rotate_left
  ·rw [qax (x:=(hdrE p.Xp[i],1,(i:Int),0)) hi (by simp [hdrG,hi,qjd,z1])];simp [c_100_l0,Xj.e,h9,h10,h11,hi,eh,qav,z1,rtD]
  by_cases z2:p.Xp[i].name=[109,101,116,97]
  ·rw [qax (x:=(6,1,(i:Int),0)) hi (by simp [hdrG,hi,qjd,z1,z2])];rw [z2] at eh;simp [c_100_l0,Xj.e,h9,h10,h11,hi,eh,qav,qay,qba,z1,z2,rtD]
  cases z3:dupN Xj.name p.Xp i p.Xp[i] with
  | true=>
   rw [z3] at er;rw [qax (x:=(7,1,(i:Int),0)) hi (by simp [hdrG,hi,qjd,z1,z2,z3])];simp [c_100_l0,Xj.e,h2,h9,h10,h11,hi,eh,er,qav,qay,qba,z1,z2,rtD]
  | false=>
   rw [z3] at er;rw [qbm hi (by simp [hdrG,hi,qjd,z1,z2,z3])];simp [c_100_l0,Xj.e,h2,h9,h10,h11,hi,eh,er,qay,qba,z1,z2,hw];exact ih _ _ (Qc _) ⟨by simp [h2],by simp [h9],by simp [h10],by simp⟩
 ·rintro e n L hL _ ⟨h2,h9,h10,h11⟩;rw [qcc];simp [c_100_l0,h10,h11,hL,rtD]
 ·simp
def scC (p:Prg) (ps:List Fld):List AV:=[.str p.name,.slice 2 (p.Xp.map Xj.c),.slice 2 (p.Xo.map Fld.c),.slice 3 (p.Xm.map Xh.c),.slice 3 (p.actions.map Action.c),.slice 6 (p.Xn.map Tbl.c),.slice 7 (p.states.map Xd.c),.slice 5 (p.control.map Xa.c),.slice 1 (p.Xs.map cI),.slice 2 (ps.map Fld.c)]
theorem qas (p:Prg) (ps:List Fld):scC p ps=[.str p.name,.slice 2 (p.Xp.map Xj.c),.slice 2 (p.Xo.map Fld.c),.slice 3 (p.Xm.map Xh.c),.slice 3 (p.actions.map Action.c),.slice 6 (p.Xn.map Tbl.c),.slice 7 (p.states.map Xd.c),.slice 5 (p.control.map Xa.c),.slice 1 (p.Xs.map cI),.slice 2 (ps.map Fld.c)]:=by simp [scC]
theorem qs3 (op:Int):qad Φ f_310 [.int .i64 op]=some (.val (.int .i64 (ari op))):=by
 rw [qaa (fn:=c_310) rfl rfl];rcases (show op=1\/op=2\/op=3\/op=4\/op=5\/op=6\/op=7\/op=8\/op=9\/op=10\/op=11\/op=12\/op=13\/op=14\/op=15\/op=16\/op=17\/(op<1\/17<op) by omega) with rfl | rfl | rfl | rfl | rfl | rfl | rfl | rfl | rfl | rfl | rfl | rfl | rfl | rfl | rfl | rfl | rfl | h
 rotate_right
 ·have e:ari op= -1:=by
   unfold ari;rw [QA (by omega),QA (by omega),QA (by omega),QA (by omega)]
  rw [e];have h1:¬op=1:=by omega
  have h2:¬op=2:=by omega
  have h3:¬op=3:=by omega
  have h4:¬op=4:=by omega
  have h5:¬op=5:=by omega
  have h6:¬op=6:=by omega
  have h7:¬op=7:=by omega
  have h8:¬op=8:=by omega
  have h9:¬op=9:=by omega
  have h10:¬op=10:=by omega
  have h11:¬op=11:=by omega
  have h12:¬op=12:=by omega
  have h13:¬op=13:=by omega
  have h14:¬op=14:=by omega
  have h15:¬op=15:=by omega
  have h16:¬op=16:=by omega
  have h17:¬op=17:=by omega
  simp [c_310,h1,h2,h3,h4,h5,h6,h7,h8,h9,h10,h11,h12,h13,h14,h15,h16,h17]
 all_goals simp [c_310,ari]
theorem qkl (w:Int):qad Φ f_320 [.int .i64 w]=some (.val (.tup [.int .i64 (wide w).1,.int .i64 (wide w).2])):=by
 rw [qaa (fn:=c_320) rfl rfl];by_cases h1:w<1
 ·simp [c_320,wide,wBad,h1]
 by_cases h2:32<w
 ·simp [c_320,wide,wBad,h1,h2]
 simp [c_320,wide,wBad,h1,h2]
def qbe (p:Prg) (h f:Int):Option Fld:=(if h= -1 then some p.Xo else (at? p.Xp h).map (·.fields)).bind fun l=>at? l f
theorem qqg (p:Prg) (h f:Int):decl p h f=(qbe p h f).map (·.width):=by
 unfold decl qbe;cases (if h= -1 then some p.Xo else (at? p.Xp h).map (·.fields))<;>rfl
theorem qac3 (p:Prg) (ps:List Fld) (h i:Int):qad Φ f_321 [.agg (scC p ps),.int .i64 h,.int .i64 i]=some (.val (match qbe p h i with
  | some f=> .tup [.agg (Fld.c f),.bool true]
  | none=> .tup [.agg [.str [],.int .i64 0],.bool false])):=by
 rw [qaa (fn:=c_321) rfl rfl];by_cases hm:h= -1
 ·subst hm;by_cases i0:i<0
  ·rw [show qbe p (-1) i=none by simp [qbe,qdq i0]];simp [c_321,qas,i0]
  by_cases i1:(p.Xo.length:Int)<=i
  ·rw [show qbe p (-1) i=none by simp [qbe,qdp i1]];simp [c_321,qas,i0,i1]
  obtain ⟨k,rfl⟩:∃k:Nat,i=k:=⟨i.toNat,by omega⟩;have hk:k<p.Xo.length:=by omega
  rw [show qbe p (-1) k=some p.Xo[k] by simp [qbe,hk]];simp [c_321,qas,i0,i1,hk,Fld.e]
 by_cases h0:h<0
 ·rw [show qbe p h i=none by simp [qbe,hm,qdq h0]];simp [c_321,qas,hm,h0]
 by_cases h1:(p.Xp.length:Int)<=h
 ·rw [show qbe p h i=none by simp [qbe,hm,qdp h1]];simp [c_321,qas,hm,h0,h1]
 obtain ⟨m,rfl⟩:∃k:Nat,h=k:=⟨h.toNat,by omega⟩;have hk:m<p.Xp.length:=by omega
 by_cases i0:i<0
 ·rw [show qbe p m i=none by simp [qbe,hm,hk,qdq i0]];simp [c_321,qas,hm,hk,Qf.2 hk,i0,Xj.e]
 by_cases i1:(p.Xp[m].fields.length:Int)<=i
 ·rw [show qbe p m i=none by simp [qbe,hm,hk,qdp i1]];simp [c_321,qas,hm,hk,Qf.2 hk,i0,i1,Xj.e]
 obtain ⟨k,rfl⟩:∃k:Nat,i=k:=⟨i.toNat,by omega⟩;have hk2:k<p.Xp[m].fields.length:=by omega
 rw [show qbe p m k=some p.Xp[m].fields[k] by simp [qbe,hm,hk,hk2]];simp [c_321,qas,hm,hk,Qf.2 hk,hk2,Qf.2 hk2,Xj.e,Fld.e]
theorem qyw (w:Int):IntKind.wrap .i64 (qce w)=qce w:=by
 unfold qce;cases h:wBad w with
 | true=>rw [QAa rfl];decide
 | false=>
  obtain ⟨h1,h2⟩:=wBad_false.1 h;obtain ⟨k,rfl⟩:∃k:Nat,w=k:=⟨w.toNat,by omega⟩;have:(2:Int)^k<=2^32:=by
   have:=QBu (n:=2) (by omega) (show k<=32 by omega)
   exact_mod_cast this
  have h0:(0:Int)<2^k:=by
   have:=Nat.pow_pos (a:=2) (n:=k) (by omega)
   exact_mod_cast this
  simp;exact qbb (by omega) (by omega)
theorem qyz (p:Prg) (ps:List Fld) (x:Xe):qad Φ f_311 [.agg (scC p ps),.agg (Xe.c x)]=some (.val (.tup [.int .i64 (prim p ps x).1,.int .i64 (prim p ps x).2])):=by
 rw [qaa (fn:=c_311) rfl rfl];by_cases o1:x.op=1
 ·have hw:=qkl x.w;have hm:=qge x.w;have hmw:=qyw x.w;cases q:wBad x.w with
  | true=>
   simp [wide,q] at hw;simp [c_311,qas,Xe.e,o1,prim,hw,q]
  | false=>
   simp [wide,q] at hw;by_cases n0:x.n<0
   ·simp [c_311,qas,Xe.e,o1,prim,hw,q,n0]
   have e:qce x.w=2^x.w.toNat - 1:=by simp [qce,q]
   rw [e] at hm hmw;by_cases n1:2^x.w.toNat - 1<x.n
   ·simp [c_311,qas,Xe.e,o1,prim,hw,hm,hmw,q,n0,n1]
   ·simp [c_311,qas,Xe.e,o1,prim,hw,hm,hmw,q,n0,n1]
 by_cases o2:x.op=2
 ·have hf:=qac3 p ps x.n x.w;simp only [qas] at hf;cases q:qbe p x.n x.w with
  | none=>
   rw [q] at hf;simp [c_311,qas,Xe.e,o2,prim,hf,qqg,q]
  | some f=>
   rw [q] at hf;simp only [Fld.e] at hf;have hw:=qkl f.width;simp [c_311,qas,Xe.e,o2,prim,hf,hw,qqg,q]
 by_cases o3:x.op=3
 ·by_cases n0:x.n<0
  ·simp [c_311,qas,Xe.e,o3,prim,n0,qdq n0]
  by_cases n1:(ps.length:Int)<=x.n
  ·simp [c_311,qas,Xe.e,o3,prim,n0,n1,qdp n1]
  obtain ⟨k,hk⟩:∃k:Nat,x.n=k:=⟨x.n.toNat,by omega⟩;have hk2:k<ps.length:=by omega
  have hw:=qkl ps[k].width;simp [c_311,qas,Xe.e,Fld.e,o3,prim,hk,hk2,Qf.2 hk2,hw]
 by_cases n0:x.n<0
 ·simp [c_311,qas,Xe.e,o1,o2,o3,prim,n0,qdq n0]
 by_cases n1:(p.Xp.length:Int)<=x.n
 ·simp [c_311,qas,Xe.e,o1,o2,o3,prim,n0,n1,qdp n1]
 obtain ⟨k,hk⟩:∃k:Nat,x.n=k:=⟨x.n.toNat,by omega⟩;have hk2:k<p.Xp.length:=by omega
 simp [c_311,qas,Xe.e,o1,o2,o3,prim,hk,hk2,Qf.2 hk2]
theorem qkt (x:Xe) (a b c:Int) (ha:0<=a/\a<=32) (hb:0<=b/\b<=32):qad Φ f_312 [.agg (Xe.c x),.agg [.int .i64 a,.int .i64 b,.int .i64 c]]=some (.val (.tup [.int .i64 (comb x a b c).1,.int .i64 (comb x a b c).2])):=by
 rw [qaa (fn:=c_312) rfl rfl];have hA:=qs3 x.op;have hw:=qkl x.w;have hab:IntKind.wrap .i64 (a+b)=a+b:=qbb (by omega) (by omega);have hw2:=qkl (a+b);by_cases o6:x.op=6
 ·rw [show ari x.op=1 by simp [o6,ari]] at hA;rw [o6] at hA;by_cases n0:x.n<0
  ·simp [c_312,Xe.e,o6,comb,n0]
  by_cases n1:31<x.n
  ·simp [c_312,Xe.e,o6,comb,n0,n1]
  simp [c_312,Xe.e,o6,comb,n0,n1,hA]
 by_cases o7:x.op=7
 ·rw [show ari x.op=1 by simp [o7,ari]] at hA;rw [o7] at hA;by_cases n0:x.n<0
  ·simp [c_312,Xe.e,o7,comb,n0]
  by_cases n1:31<x.n
  ·simp [c_312,Xe.e,o7,comb,n0,n1]
  simp [c_312,Xe.e,o7,comb,n0,n1,hA]
 by_cases o8:x.op=8
 ·by_cases n0:x.n<0
  ·simp [c_312,Xe.e,o8,comb,n0]
  cases q:wBad x.w with
  | true=>
   simp [wide,q] at hw;simp [c_312,Xe.e,o8,comb,n0,q,hw]
  | false=>
   simp [wide,q] at hw;obtain ⟨w1,w2⟩:=wBad_false.1 q;have hs:IntKind.wrap .i64 (a - x.w)=a - x.w:=qbb (by omega) (by omega);by_cases n1:a - x.w<x.n
   ·simp [c_312,Xe.e,o8,comb,n0,q,hw,hs,n1]
   ·simp [c_312,Xe.e,o8,comb,n0,q,hw,hs,n1]
 by_cases o14:x.op=14
 ·simp [c_312,Xe.e,o14,comb,hab,hw2]
 by_cases o17:x.op=17
 ·by_cases a1:a=1
  ·by_cases bc:b=c
   ·simp [c_312,Xe.e,o17,comb,a1,bc]
   ·simp [c_312,Xe.e,o17,comb,a1,bc]
  ·simp [c_312,Xe.e,o17,comb,a1]
 by_cases r2:ari x.op=2
 ·rw [r2] at hA;by_cases ab:a=b
  ·by_cases o15:x.op=15
   ·rw [o15] at hA;simp [c_312,Xe.e,o15,comb,ab,hA]
   by_cases o16:x.op=16
   ·rw [o16] at hA;simp [c_312,Xe.e,o16,comb,ab,hA]
   simp [c_312,Xe.e,o6,o7,o8,o14,o15,o16,o17,comb,r2,ab,hA]
  ·simp [c_312,Xe.e,o6,o7,o8,o14,o17,comb,r2,ab,hA]
 ·have o15:¬x.op=15:=by intro h;apply r2;simp [h,ari]
  have o16:¬x.op=16:=by intro h;apply r2;simp [h,ari]
  simp [c_312,Xe.e,o6,o7,o8,o14,o15,o16,o17,comb,r2,hA]
end Go.Av
