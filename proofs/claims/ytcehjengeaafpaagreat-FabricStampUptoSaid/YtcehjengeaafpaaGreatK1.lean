/-
 Identifiers: the program's answer.
-/
import Derived.Test.YtcehjengeaafpaaGreatFunsAM
set_option linter.all false
namespace Go.Av
set_option maxRecDepth 4000
abbrev nC (p:Prg) (r:List AV):List AV:= .str p.name::.slice 2 (p.Xo.map Xi.c)::.slice 2 (p.Xn.map Fld.c)::.slice 3 (p.Xl.map Xg.c)::.slice 3 (p.Xx.map Action.c)::.slice 6 (p.Xm.map Tbl.c)::.slice 7 (p.Xw.map Xc.c)::.slice 5 (p.Ya.map Xa.c)::.slice 1 (p.Xr.map cI)::r
def letC (c:Int):Bool:=(decide (97<=c)&&decide (c<=122)) || (decide (65<=c)&&decide (c<=90))
def digI (c:Int):Bool:=decide (48<=c)&&decide (c<=57)
def idC (c:Int):Bool:=letC c || (digI c || decide (c=95))
theorem Gg (c:Int):a9 Φ 328 [.int .u8 c]=some (.val (.bool (letC c))):=by
 rw [aC rfl rfl];by_cases h1:97<=c<;>by_cases h2:c<=122<;>by_cases h3:65<=c<;>simp [xY,letC,h1,h2,h3]
theorem L7 (c:Int):a9 Φ 331 [.int .u8 c]=some (.val (.bool (digI c))):=by
 rw [aC rfl rfl];by_cases h1:48<=c<;>simp [yB,digI,h1]
theorem WS (c:Int):a9 Φ 330 [.int .u8 c]=some (.val (.bool (idC c))):=by
 rw [aC rfl rfl];have h1:=Gg c;have h2:=L7 c;cases q1:letC c<;>cases q2:digI c<;>rw [q1] at h1<;>rw [q2] at h2<;>simp [yA,idC,h1,h2,q1,q2]
theorem MI (s:List UInt8) (hs:s.length<2^40):a9 Φ 329 [.str s,.func (.func 330) [] []]=some (.val (.int .i64 (s.takeWhile fun b=>idC b.toNat).length)):=by
 rw [aC rfl rfl];simp [xZ];refine (oD s.length (fun i e=>look 0 e=some (.str s)/\look 1 e=some (.func (.func 330) [] [])/\look 5 e=some (.int .i64 i))
  (fun i=>some (Rt.val (.int .i64 (i+((s.drop i).takeWhile fun b=>idC b.toNat).length:Nat)))) ?_ ?_ 0 _ (Qc _) ?_).trans (by simp)
 ·rintro i e L hi hL ⟨h0,h1,h5⟩ ih;have hw:=aH i (by omega);have hc:=WS (s[i].toNat:Int);rw [Qi hi];cases q:idC (s[i].toNat:Int) with
  | true=>
   rw [q] at hc;rw [show List.takeWhile (fun b:UInt8=>idC b.toNat) (s[i]::s.drop (i+1))=s[i]::List.takeWhile (fun b:UInt8=>idC b.toNat) (s.drop (i+1)) from List.takeWhile_cons_of_pos q];simp [dW,h0,h1,h5,hi,hc,hw];refine (ih _ ⟨by simp [h0],by simp [h1],by simp⟩).trans ?_;simp;omega
  | false=>
   rw [q] at hc;rw [show List.takeWhile (fun b:UInt8=>idC b.toNat) (s[i]::s.drop (i+1))=[] from List.takeWhile_cons_of_neg (by simp [q])];simp [dW,gI,h0,h1,h5,hi,hL,hc]
 ·rintro e L hL ⟨h0,h1,h5⟩;simp [dW,gI,h0,h5,hL]
 ·simp
def idS (s:List UInt8):Bool:=match s with
 | []=>false
 | c::_=>decide (s.length<=16)&&(letC c.toNat&&s.all fun b=>idC b.toNat)
theorem Fq (p:UInt8->Bool):∀s:List UInt8,((s.takeWhile p).length=s.length)↔s.all p=true
 | []=>by simp
 | c::r=>by
  have:=Fq p r;cases q:p c<;>simp [q];simpa using this
theorem Mw {s:List UInt8} (h:0<s.length):idS s=(decide (s.length<=16)&&(letC s[0].toNat&&s.all fun b=>idC b.toNat)):=by
 cases s with
 | nil=>simp at h
 | cons c r=>rfl
theorem CO (s:List UInt8) (hs:s.length<2^40):a9 Φ 237 [.str s]=some (.val (.bool (idS s))):=by
 rw [aC rfl rfl];by_cases h0:s.length=0
 ·have:s=[]:=Qg h0;subst this;simp [nV,idS]
 have hp:0<s.length:=by omega
 rw [Mw hp];by_cases h16:16<s.length
 ·simp [nV,h0,h16,Qf.2 h16]
 have hl:=Gg (s[0].toNat:Int);cases q:letC (s[0].toNat:Int) with
 | false=>
  rw [q] at hl;simp [nV,h0,hp,h16,hl]
 | true=>
  rw [q] at hl;have he:=MI s hs;have ht:=Fq (fun b=>idC b.toNat) s;have e:(decide ((s.takeWhile fun b=>idC b.toNat).length=s.length))=(s.all fun b=>idC b.toNat):=by
   cases h:(s.all fun b=>idC b.toNat) with
   | true=>exact decide_eq_true (ht.2 h)
   | false=>exact decide_eq_false (fun h2=>by have:=ht.1 h2;rw [h] at this;cases this)
  simp [nV,h0,hp,h16,Nat.le_of_not_lt h16,hl,he,e]
theorem Fld.e (x:Fld):Fld.c x=[.str x.name,.int .i64 x.Yc]:=by simp [Fld.c]
theorem Xd.e (x:Xd):Xd.c x=[.int .i64 x.op,.int .i64 x.n,.int .i64 x.w]:=by simp [Xd.c]
theorem Xk.e (x:Xk):Xk.c x=[.int .i64 x.field.header,.int .i64 x.field.field,.int .i64 x.kind]:=by simp [Xk.c]
theorem Xb.e (x:Xb):Xb.c x=[.int .i64 x.Xy,.slice 1 (x.args.map c32)]:=by simp [Xb.c]
theorem Xj.e (x:Xj):Xj.c x=[.int .u32 x.value,.int .u32 x.Yd,.int .i64 x.next]:=by simp [Xj.c]
theorem Action.e (x:Action):Action.c x=[.str x.name,.slice 2 (x.params.map Fld.c),.slice 7 (x.body.map Xf.c)]:=by simp [Action.c]
theorem Xi.e (x:Xi):Xi.c x=[.str x.name,.slice 2 (x.Xz.map Fld.c)]:=by simp [Xi.c]
theorem Xg.e (x:Xg):Xg.c x=[.str x.name,.int .i64 x.Yc,.int .i64 x.size]:=by simp [Xg.c]
theorem Xf.e (x:Xf):Xf.c x=[.int .i64 x.kind,.int .i64 x.dst.header,.int .i64 x.dst.field,.int .i64 x.Ye,.int .i64 x.header,.slice 3 (x.index.map Xd.c),.slice 3 (x.value.map Xd.c)]:=by simp [Xf.c]
theorem Tbl.e (x:Tbl):Tbl.c x=[.str x.name,.slice 3 (x.keys.map Xk.c),.slice 1 (x.Xx.map cI),.int .i64 x.Yb.Xy,.slice 1 (x.Yb.args.map c32),.int .i64 x.size]:=by simp [Tbl.c]
theorem Xc.e (x:Xc):Xc.c x=[.str x.name,.slice 1 (x.extract.map cI),.bool x.select,.int .i64 x.on.header,.int .i64 x.on.field,.slice 3 (x.cases.map Xj.c),.int .i64 x.Yb]:=by simp [Xc.c]
theorem Xa.e (k t:Int) (c:List Xd) (a b:List Xa):Xa.c (.mk k t c a b)=[.int .i64 k,.int .i64 t,.slice 3 (c.map Xd.c),.slice 5 (a.map Xa.c),.slice 5 (b.map Xa.c)]:=by simp [Xa.c,Xa.cs_eq]
theorem Prg.e (x:Prg):Prg.c x=[.str x.name,.slice 2 (x.Xo.map Xi.c),.slice 2 (x.Xn.map Fld.c),.slice 3 (x.Xl.map Xg.c),.slice 3 (x.Xx.map Action.c),.slice 6 (x.Xm.map Tbl.c),.slice 7 (x.Xw.map Xc.c),.slice 5 (x.Ya.map Xa.c),.slice 1 (x.Xr.map cI)]:=by simp [Prg.c]
def feF {α:Type} (f:Nat->Option α):Nat->Nat->Option α
 | 0,_=>none
 | n+1,i=>match f i with
  | some x=>some x
  | none=>feF f n (i+1)
def fe {α:Type} (f:Nat->Option α) (N i:Nat):Option α:=feF f (N - i) i
theorem bX {α:Type} {f:Nat->Option α} {N i:Nat} {x:α} (hi:i<N) (h:f i=some x):fe f N i=some x:=by
 unfold fe;rw [show N - i=(N - (i+1))+1 by omega];simp [feF,h]
theorem eW {α:Type} {f:Nat->Option α} {N i:Nat} (hi:i<N) (h:f i=none):fe f N i=fe f N (i+1):=by
 unfold fe;rw [show N - i=(N - (i+1))+1 by omega];simp [feF,h]
theorem iQ {α:Type} {f:Nat->Option α} {N:Nat}:fe f N N=none:=by simp [fe,feF]
def er (e:Int):Option Int:=if e=0 then none else some e
@[simp] theorem er_zero:er 0=none:=by simp [er]
def errO:Option Int->Int
 | none=>0
 | some e=>e
@[simp] theorem Ts:errO none=0:=by simp [errO]
@[simp] theorem Tt (e:Int):errO (some e)=e:=by simp [errO]
def at? {α:Type} (l:List α) (i:Int):Option α:=if i<0 then none else l[i.toNat]?
@[simp] theorem mM {α:Type} (l:List α) (i:Nat):at? l (i:Int)=l[i]? :=by
 unfold at?;rw [QA (by omega)];simp
theorem iC {α:Type} {l:List α} {i:Int} (h:i<0):at? l i=none:=by simp [at?,h]
theorem iK {α:Type} {l:List α} {i:Int} (h:(l.length:Int)<=i):at? l i=none:=by
 unfold at?;split
 ·rfl
 ·simp;omega
def wBad (w:Int):Bool:=decide (w<1) || decide (32<w)
def dupN {α:Type} (nm:α->List UInt8) (l:List α) (i:Nat) (x:α):Bool:=(l.take i).any fun y=>decide (nm y=nm x)
def fldE (l:List Fld) (i:Nat) (f:Fld):Int:=if idS f.name=false then 6 else if wBad f.Yc then 10 else if dupN Fld.name l i f then 7 else 0
def C4 (l:List Fld):Option Int:=fe (fun i=>(l[i]?).bind fun f=>er (fldE l i f)) l.length 0
def wSum (l:List Fld):Int:=(l.map (·.Yc)).sum
def hdrE (h:Xi):Int:=if idS h.name=false then 6 else if h.Xz.length=0 then 8 else if 12<h.Xz.length then 12 else
 match C4 h.Xz with
 | some e=>e
 | none=>if (wSum h.Xz) % 8=0 then 0 else 10
def regE (r:Xg):Int:=if idS r.name=false then 6 else if wBad r.Yc then 10 else if r.size<1\/64<r.size then 9 else 0
def decl (p:Prg) (h f:Int):Option Int:=(if h= -1 then some p.Xn else (at? p.Xo h).map (·.Xz)).bind fun l=>(at? l f).map (·.Yc)
def wid (p:Prg) (h f:Int):Int:=match decl p h f with
 | some w=>if wBad w then 0 else w
 | none=>0
def ari (op:Int):Int:=if 1<=op/\op<=4 then 0 else if 5<=op/\op<=8 then 1 else if 9<=op/\op<=16 then 2 else if op=17 then 3 else -1
def wide (w:Int):Int×Int:=if wBad w then (0,10) else (w,0)
def prim (p:Prg) (ps:List Fld) (x:Xd):Int×Int:=
 if x.op=1 then (if wBad x.w then (0,10) else if x.n<0\/2^x.w.toNat - 1<x.n then (0,9) else (x.w,0))
 else if x.op=2 then (match decl p x.n x.w with | some w=>wide w | none=>(0,8))
 else if x.op=3 then (match at? ps x.n with | some f=>wide f.Yc | none=>(0,8))
 else if (at? p.Xo x.n).isSome then (1,0) else (0,8)
def comb (x:Xd) (a b c:Int):Int×Int:=
 if x.op=6\/x.op=7 then (if x.n<0\/31<x.n then (0,9) else (a,0))
 else if x.op=8 then (if x.n<0 then (0,9) else if wBad x.w\/a - x.w<x.n then (0,10) else (x.w,0))
 else if x.op=14 then wide (a+b)
 else if x.op=17 then (if a≠1\/b≠c then (0,10) else (b,0))
 else if ari x.op=2/\a≠b then (0,10)
 else if x.op=15\/x.op=16 then (1,0) else (a,0)
def chk (p:Prg) (ps:List Fld) (l:List Xd):Nat->Nat->Except Int (Int×Nat)
 | 0,_=> .error 3
 | n+1,i=>match l[i]? with
  | none=> .error 3
  | some x=>
   if ari x.op<0 then .error 11
   else if ari x.op=0 then (if (prim p ps x).2=0 then .ok ((prim p ps x).1,i+1) else .error (prim p ps x).2)
   else match chk p ps l n (i+1) with
    | .error e=> .error e
    | .ok (a,i1)=>
     if ari x.op=1 then (if (comb x a 0 0).2=0 then .ok ((comb x a 0 0).1,i1) else .error (comb x a 0 0).2)
     else match chk p ps l n i1 with
      | .error e=> .error e
      | .ok (b,i2)=>
       if ari x.op=2 then (if (comb x a b 0).2=0 then .ok ((comb x a b 0).1,i2) else .error (comb x a b 0).2)
       else match chk p ps l n i2 with
        | .error e=> .error e
        | .ok (c,i3)=>if (comb x a b c).2=0 then .ok ((comb x a b c).1,i3) else .error (comb x a b c).2
def exE (p:Prg) (ps:List Fld) (l:List Xd):Int×Int:=
 if 24<l.length then (0,12) else match chk p ps l (l.length+1) 0 with
 | .error e=>(0,e)
 | .ok (w,i)=>if i<l.length then (0,4) else (w,0)
def valE (p:Prg) (ps:List Fld) (l:List Xd) (w:Int):Int:=if (exE p ps l).2=0 then (if (exE p ps l).1=w then 0 else 10) else (exE p ps l).2
def stmE (p:Prg) (ps:List Fld) (s:Xf):Int:=
 if s.kind=1 then (match decl p s.dst.header s.dst.field with
  | none=>8
  | some w=>valE p ps s.value w)
 else if s.kind=2\/s.kind=3 then (if (at? p.Xo s.header).isSome then 0 else 8)
 else if s.kind=4 then (match at? p.Xl s.Ye,decl p s.dst.header s.dst.field with
  | some r,some w=>if (exE p ps s.index).2=0 then (if w=r.Yc then 0 else 10) else (exE p ps s.index).2
  | _,_=>8)
 else if s.kind=5 then (match at? p.Xl s.Ye with
  | some r=>if (exE p ps s.index).2=0 then valE p ps s.value r.Yc else (exE p ps s.index).2
  | none=>8)
 else 11
def actD (a:Action):Int:=if idS a.name=false then 6 else if 4<a.params.length\/12<a.body.length then 12 else errO (C4 a.params)
def bodyE (p:Prg) (a:Action):Option (Int×Int):=fe (fun k=>(a.body[k]?).bind fun s=>if stmE p a.params s=0 then none else some ((k:Int),stmE p a.params s)) a.body.length 0
def actE (p:Prg) (i:Int):Int×Int:=match at? p.Xx i with
 | none=>(-1,8)
 | some a=>if actD a≠0 then (-1,actD a) else (bodyE p a).getD (0,0)
def fits (v w:Int):Bool:= !wBad w&&decide (v<2^w.toNat)
def iL (p:Prg) (c:Xb):Int:=match at? p.Xx c.Xy with
 | none=>8
 | some a=>if c.args.length≠a.params.length then 2 else errO (fe (fun i=>match c.args[i]?,a.params[i]? with
  | some v,some f=>if fits v f.Yc then none else some 9
  | _,_=>none) c.args.length 0)
def keyE (p:Prg) (x:Tbl):Option (Int×Int):=fe (fun i=>(x.keys[i]?).bind fun k=>
 if wid p k.field.header k.field.field=0 then some ((i:Int),8) else if k.kind=1\/k.kind=2\/k.kind=3 then none else some ((i:Int),11)) x.keys.length 0
def kWid (p:Prg) (x:Tbl):List Int:=x.keys.map fun k=>wid p k.field.header k.field.field
def qH (p:Prg) (x:Tbl):Int×Int:=match keyE p x with
 | some e=>e
 | none=>if 1<x.keys.countP (fun k=>decide (k.kind=2)) then (-2,7) else if 64<(kWid p x).sum then (-2,10) else (0,0)
def A8 (p:Prg) (x:Tbl):Int:=match fe (fun i=>(x.Xx[i]?).bind fun a=>if a<0\/(p.Xx.length:Int)<=a then some (8:Int) else if (x.Xx.take i).contains a then some 7 else none) x.Xx.length 0 with
 | some e=>e
 | none=>if x.Xx.contains x.Yb.Xy then iL p x.Yb else 8
def tblE (p:Prg) (t:Int):Int×Int:=match at? p.Xm t with
 | none=>(-1,8)
 | some x=>if idS x.name=false then (-1,6) else if 6<x.keys.length\/16<x.Xx.length then (-1,12) else if x.size<1\/256<x.size then (-1,9)
  else if (qH p x).2≠0 then qH p x else if A8 p x≠0 then (-3,A8 p x) else (0,0)
def oS (p:Prg) (s:Nat) (n:Int):Bool:=decide (n= -1) || decide (n= -2) || (decide ((s:Int)<n)&&decide (n<p.Xw.length))
def qF (p:Prg) (s:Nat) (x:Xc) (c:Xj):Int:=
 if fits c.value (wid p x.on.header x.on.field)=false\/fits c.Yd (wid p x.on.header x.on.field)=false then 9
 else if c.value.toNat&&& c.Yd.toNat≠c.value.toNat then 5
 else if oS p s c.next then 0 else 14
def stE (p:Prg) (s:Nat) (x:Xc):Int×Int:=
 if 4<x.extract.length\/8<x.cases.length then (-1,12)
 else if x.extract.any (fun h=>decide (h<0) || decide ((p.Xo.length:Int)<=h)) then (-1,8)
 else if x.select=true/\wid p x.on.header x.on.field=0 then (-1,8)
 else if x.select=false/\0<x.cases.length then (-1,11)
 else match fe (fun i=>(x.cases[i]?).bind fun c=>if qF p s x c=0 then none else some ((i:Int),qF p s x c)) x.cases.length 0 with
  | some e=>e
  | none=>if oS p s x.Yb then (0,0) else (-1,14)
def parE (p:Prg):Int×Int×Int:=
 if p.Xw.length=0 then (-1,-1,8) else if 12<p.Xw.length then (-1,-1,12)
 else (fe (fun s=>(p.Xw[s]?).bind fun x=>if idS x.name=false then some ((s:Int),(-1:Int),(6:Int)) else if dupN Xc.name p.Xw s x then some ((s:Int),-1,7)
  else if (stE p s x).2=0 then none else some ((s:Int),(stE p s x).1,(stE p s x).2)) p.Xw.length 0).getD (0,0,0)
def depE (p:Prg):Int×Int:=if 8<p.Xr.length then (-1,12) else
 (fe (fun i=>(p.Xr[i]?).bind fun h=>if h<0\/(p.Xo.length:Int)<=h then some ((i:Int),(8:Int)) else if (p.Xr.take i).contains h then some ((i:Int),7) else none) p.Xr.length 0).getD (0,0)
def Xa.kind:Xa->Int | .mk k _ _ _ _=>k
def Xa.table:Xa->Int | .mk _ t _ _ _=>t
def Xa.cond:Xa->List Xd | .mk _ _ c _ _=>c
def Xa.thn:Xa->List Xa | .mk _ _ _ a _=>a
def Xa.els:Xa->List Xa | .mk _ _ _ _ b=>b
mutual
def pre1:Xa->List Xa
 | .mk k t c a b=> .mk k t c a b::(pre a++pre b)
def pre:List Xa->List Xa
 | []=>[]
 | x::r=>pre1 x++pre r
end
mutual
def JV:Xa->Nat
 | .mk _ _ _ a b=>max (nest a) (nest b)
def nest:List Xa->Nat
 | []=>0
 | x::r=>max (1+JV x) (nest r)
end
def appl (x:Xa):Bool:=decide (x.kind=1) || decide (x.kind=3)
def DQ (p:Prg) (l:List Xa) (x:Xa):Int:=
 if x.kind=2 then (if (exE p [] x.cond).2=0 then (if (exE p [] x.cond).1=1 then 0 else 10) else (exE p [] x.cond).2)
 else if x.kind=1\/x.kind=3 then (if x.table<0\/(p.Xm.length:Int)<=x.table then 8
  else if l.any (fun y=>appl y&&decide (y.table=x.table)) then 7
  else if x.kind=1/\0<x.thn.length+x.els.length then 5 else 0)
 else 11
def ctlE (p:Prg):Int×Int:=if 24<(pre p.Ya).length then (-1,12) else if 6<nest p.Ya then (-1,14)
 else (fe (fun i=>((pre p.Ya)[i]?).bind fun x=>if DQ p ((pre p.Ya).take i) x=0 then none else some ((i:Int),DQ p ((pre p.Ya).take i) x)) (pre p.Ya).length 0).getD (0,0)
abbrev Dg:=Int×Int×Int×Int
def limD (p:Prg):Option Dg:=if idS p.name=false then some (6,0,0,0) else if 8<p.Xo.length then some (12,0,1,0) else if 4<p.Xl.length then some (12,0,3,0)
 else if 16<p.Xx.length then some (12,0,4,0) else if 12<p.Xm.length then some (12,0,5,0) else none
def B7 (p:Prg) (i:Nat) (h:Xi):Int:=if hdrE h≠0 then hdrE h else if h.name=[109,101,116,97] then 6 else if dupN Xi.name p.Xo i h then 7 else 0
def hdrD (p:Prg):Option Dg:=fe (fun i=>(p.Xo[i]?).bind fun h=>if B7 p i h=0 then none else some (B7 p i h,1,(i:Int),0)) p.Xo.length 0
def B8 (i:Nat):Fld:=if i=0 then ⟨[105,110],8⟩ else if i=1 then ⟨[111,117,116],8⟩ else ⟨[100,114,111,112],1⟩
def metD (p:Prg):Option Dg:=if 12<p.Xn.length then some (12,2,0,0)
 else match fe (fun i=>(p.Xn[i]?).bind fun f=>if fldE p.Xn i f=0 then none else some (fldE p.Xn i f,(2:Int),(i:Int),(0:Int))) p.Xn.length 0 with
  | some d=>some d
  | none=>fe (fun i=>if p.Xn[i]? =some (B8 i) then none else some (5,2,(i:Int),0)) 3 0
def B4 (p:Prg) (i:Nat) (r:Xg):Int:=if regE r≠0 then regE r else if dupN Xg.name p.Xl i r then 7 else 0
def regD (p:Prg):Option Dg:=fe (fun i=>(p.Xl[i]?).bind fun r=>if B4 p i r=0 then none else some (B4 p i r,3,(i:Int),0)) p.Xl.length 0
def K1 (p:Prg):Option Dg:=fe (fun i=>(p.Xx[i]?).bind fun a=>if (actE p i).2≠0 then some ((actE p i).2,(4:Int),(i:Int),(actE p i).1) else if dupN Action.name p.Xx i a then some (7,4,(i:Int),0) else none) p.Xx.length 0
def tblD (p:Prg):Option Dg:=fe (fun i=>(p.Xm[i]?).bind fun a=>if (tblE p i).2≠0 then some ((tblE p i).2,(5:Int),(i:Int),(tblE p i).1) else if dupN Tbl.name p.Xm i a then some (7,5,(i:Int),0) else none) p.Xm.length 0
def floD (p:Prg):Option Dg:=if (parE p).2.2≠0 then some ((parE p).2.2,6,(parE p).1,(parE p).2.1) else if (ctlE p).2≠0 then some ((ctlE p).2,7,(ctlE p).1,0)
 else if (depE p).2≠0 then some ((depE p).2,8,(depE p).1,0) else none
def prgD (p:Prg):Dg:=((((((limD p).or (hdrD p)).or (metD p)).or (regD p)).or (K1 p)).or (tblD p)).or (floD p)|>.getD (0,0,0,0)
def eGet (e:Envt) (h f:Int):Int:=if h= -1 then (at? e.metaF f).getD 0 else if (at? e.valid h).getD false then ((at? e.Xz h).bind fun l=>at? l f).getD 0 else 0
def eHas (e:Envt) (h f:Int):Bool:=if h= -1 then (at? e.metaF f).isSome else (at? e.valid h).getD false&&((at? e.Xz h).bind fun l=>at? l f).isSome
def ePut (h f:Int) (v:Int) (e:Envt):Envt:=
 if h= -1 then { e with metaF:=e.metaF.set f.toNat v } else { e with Xz:=e.Xz.set h.toNat ((e.Xz.getD h.toNat []).set f.toNat v) }
def eSet (p:Prg) (e:Envt) (h f v:Int):Envt:=if wid p h f=0\/eHas e h f=false then e else ePut h f (v % 2^(wid p h f).toNat) e
def eSw (e:Envt) (h:Nat) (b:Bool):Envt:={ e with valid:=e.valid.set h b,Xz:=e.Xz.set h ((e.Xz.getD h []).map fun _=>0) }
def eAdd (p:Prg) (e:Envt) (h:Int):Envt:=if (at? p.Xo h).isSome/\at? e.valid h=some false then eSw e h.toNat true else e
def eRem (p:Prg) (e:Envt) (h:Int):Envt:=if (at? p.Xo h).isSome/\(at? e.valid h).isSome then eSw e h.toNat false else e
def eNew (p:Prg):Envt:=⟨p.Xo.map fun _=>false,p.Xo.map fun h=>h.Xz.map fun _=>0,p.Xn.map fun _=>0,[]⟩
structure Shp (p:Prg) (e:Envt):Prop where
 v:e.valid.length=p.Xo.length
 f:e.Xz.length=p.Xo.length
 m:e.metaF.length=p.Xn.length
 g:∀i (h1:i<e.Xz.length) (h2:i<p.Xo.length),e.Xz[i].length=p.Xo[i].Xz.length
def xLd (e:Envt) (args:List Int) (x:Xd) (w:Int):Int:=
 (if x.op=1 then x.n else if x.op=2 then eGet e x.n x.w else if x.op=3 then (at? args x.n).getD 0 else if (at? e.valid x.n).getD false then 1 else 0) % 2^w.toNat
def xUn (x:Xd) (a w:Int):Int:=
 if x.op=5 then 2^w.toNat - 1 - a else if x.op=6 then a*2^x.n.toNat % 2^w.toNat else if x.op=7 then a / 2^x.n.toNat else a / 2^x.n.toNat % 2^x.w.toNat
def xBin (op a b w u:Int):Int:=
 if op=9 then (a+b) % 2^w.toNat else if op=10 then (a - b) % 2^w.toNat else if op=11 then iand .u32 a b else if op=12 then ior .u32 a b else if op=13 then ixor .u32 a b
 else if op=14 then a*2^u.toNat+b else if op=15 then (if a=b then 1 else 0) else if a<b then 1 else 0
def evx (p:Prg) (ps:List Fld) (l:List Xd) (e:Envt) (args:List Int):Nat->Nat->Int×Int×Nat
 | 0,i=>(0,0,i)
 | n+1,i=>match l[i]? with
  | none=>(0,0,i)
  | some x=>
   if ari x.op=0 then (xLd e args x (prim p ps x).1,(prim p ps x).1,i+1)
   else
    let a:=evx p ps l e args n (i+1)
    if ari x.op=1 then (xUn x a.1 a.2.1,(comb x a.2.1 0 0).1,a.2.2)
    else
     let b:=evx p ps l e args n a.2.2
     if ari x.op=2 then (xBin x.op a.1 b.1 a.2.1 b.2.1,(comb x a.2.1 b.2.1 0).1,b.2.2)
     else
      let c:=evx p ps l e args n b.2.2
      (if a.1=1 then b.1 else c.1,(comb x a.2.1 b.2.1 c.2.1).1,c.2.2)
def evl (p:Prg) (ps:List Fld) (l:List Xd) (e:Envt) (args:List Int):Int:=if (exE p ps l).2=0 then (evx p ps l e args (l.length+1) 0).1 else 0
def rGet (p:Prg) (rs:List (List Int)) (r i:Int):Int:=match at? p.Xl r,at? rs r with
 | some g,some l=>if i<g.size then (at? l i).getD 0 else 0
 | _,_=>0
def rSet (p:Prg) (rs:List (List Int)) (r i v:Int):List (List Int):=match at? p.Xl r,at? rs r with
 | some g,some l=>if i<g.size/\wBad g.Yc=false then rs.set r.toNat (l.set i.toNat (v % 2^g.Yc.toNat)) else rs
 | _,_=>rs
def stmX (p:Prg) (ps:List Fld) (args:List Int) (x:Envt×List (List Int)) (s:Xf):Envt×List (List Int):=
 if s.kind=1 then (eSet p x.1 s.dst.header s.dst.field (evl p ps s.value x.1 args),x.2)
 else if s.kind=2 then (eAdd p x.1 s.header,x.2)
 else if s.kind=3 then (eRem p x.1 s.header,x.2)
 else if s.kind=4 then (eSet p x.1 s.dst.header s.dst.field (rGet p x.2 s.Ye (evl p ps s.index x.1 args)),x.2)
 else (x.1,rSet p x.2 s.Ye (evl p ps s.index x.1 args) (evl p ps s.value x.1 args))
def exeX (p:Prg) (c:Xb) (e:Envt) (rs:List (List Int)):Envt×List (List Int):=match at? p.Xx c.Xy with
 | none=>(e,rs)
 | some a=>a.body.foldl (stmX p a.params c.args) (e,rs)
def nI (d:List Int) (k:Nat):Int:=d.getD (k / 8) 0 / 2^(7 - k % 8) % 2
def rdN (d:List Int) (i:Nat):Nat->Int
 | 0=>0
 | w+1=>2*rdN d i w+nI d (i+w)
def rdF (d:List Int):Nat->List Fld->List Int
 | _,[]=>[]
 | i,f::r=>rdN d i f.Yc.toNat::rdF d (i+f.Yc.toNat) r
def exH (p:Prg) (d:List Int) (x:Envt×Nat) (h:Int):Option (Envt×Nat):=match at? p.Xo h with
 | none=>none
 | some g=>if 8*d.length<x.2+(wSum g.Xz).toNat then none else
  some ({ x.1 with valid:=x.1.valid.set h.toNat true,Xz:=x.1.Xz.set h.toNat (rdF d x.2 g.Xz) },x.2+(wSum g.Xz).toNat)
def exHs (p:Prg) (d:List Int):List Int->Envt×Nat->Option (Envt×Nat)
 | [],x=>some x
 | h::r,x=>(exH p d x h).bind (exHs p d r)
def nxS (s:Xc) (e:Envt):Int:=if s.select then ((s.cases.find? fun c=>decide (iand .u32 (eGet e s.on.header s.on.field) c.Yd=c.value)).map (·.next)).getD s.Yb else s.Yb
def prF (p:Prg) (d:List Int):Nat->Int->Envt×Nat->Option Envt
 | 0,_,_=>none
 | n+1,s,x=>if s= -1 then some { x.1 with payload:=d.drop (x.2 / 8) } else match at? p.Xw s with
  | none=>none
  | some t=>(exHs p d t.extract x).bind fun y=>prF p d n (nxS t y.1) y
def prs (p:Prg) (d:List Int):Option Envt:=if 512<d.length then none else prF p d (p.Xw.length+1) 0 (eNew p,0)
def eX (v:Int):Nat->List Bool
 | 0=>[]
 | w+1=>decide (v / 2^w % 2=1)::eX v w
def oQ:List Fld->List Int->List Bool
 | f::r,v::l=>eX v f.Yc.toNat++oQ r l
 | _,_=>[]
def v5 (p:Prg) (e:Envt):List Bool:=(p.Xr.map fun h=>if (at? e.valid h).getD false then oQ (((at? p.Xo h).map (·.Xz)).getD []) ((at? e.Xz h).getD []) else []).flatten
def b2i (b:Bool):Int:=if b then 1 else 0
def byt (l:List Bool):Int:=l.foldl (fun n b=>2*n+b2i b) 0
def byts:Nat->List Bool->List Int
 | 0,_=>[]
 | n+1,l=>byt (l.take 8)::byts n (l.drop 8)
def emi (p:Prg) (e:Envt):List Int:=byts ((v5 p e).length / 8) (v5 p e)++e.payload
def bF (w:Int):Int:=if wBad w then 0 else 2^w.toNat - 1
theorem wBad_false {w:Int}:wBad w=false↔1<=w/\w<=32:=by
 simp [wBad]
theorem wr1:IntKind.wrap .i64 1=1:=by decide
theorem wr2:IntKind.wrap .i64 2=2:=by decide
theorem wr3:IntKind.wrap .i64 3=3:=by decide
theorem IF (w:Int):a9 Φ 263 [.slice 1 [[.int .i64 w]]]=some (.val (.bool (!wBad w))):=by
 rw [aC rfl rfl];by_cases h1:w<1
 ·simp [mF];rw [cW];simp [aG,h1,wBad]
 by_cases h2:32<w
 ·simp [mF];rw [cW];simp [aG,h1,h2,wBad]
 simp [mF];rw [cW];simp [aG,h1,h2,wr1];rw [cW];simp [dO,h1,h2,wBad]
theorem P1:∀k:Nat,k<33->1<=k->ishr .u32 4294967295 (IntKind.wrap .i64 (32 - (k:Int)))=2^k - 1/\0<=IntKind.wrap .i64 (32 - (k:Int)):=by decide
theorem jI (w:Int):a9 Φ 169 [.int .i64 w]=some (.val (.int .u32 (bF w))):=by
 rw [aC rfl rfl];have hv:=IF w;cases h:wBad w with
 | true=>
  rw [h] at hv;simp [rT,hv,bF,h]
 | false=>
  rw [h] at hv;obtain ⟨h1,h2⟩:=wBad_false.1 h;obtain ⟨k,rfl⟩:∃k:Nat,w=k:=⟨w.toNat,by omega⟩;obtain ⟨e1,e2⟩:=P1 k (by omega) (by omega);simp [rT,hv,bF,h,e2];exact e1
theorem D6 (v w:Int):a9 Φ 241 [.int .u32 v,.int .i64 w]=some (.val (.bool (fits v w))):=by
 rw [aC rfl rfl];have hv:=IF w;have hm:=jI w;cases h:wBad w with
 | true=>
  rw [h] at hv;simp [s7,hv,fits,h]
 | false=>
  rw [h] at hv;have e:(v<=bF w)↔v<2^w.toNat:=by
   simp only [bF,h];simp;omega
  simp [s7,hv,hm,fits,h,e]
theorem R5 (r:Xg):a9 Φ 236 [.agg (Xg.c r)]=some (.val (.bool (!(decide (r.size<1) || decide (64<r.size))))):=by
 rw [aC rfl rfl];by_cases h1:r.size<1<;>by_cases h2:64<r.size<;>simp [wE,Xg.e,h1,h2,tO.2,nD.1]
 all_goals omega
@[simp] theorem Qy {α I:Type} (f:α->I) (l:List α):(l.map f).take l.length=l.map f:=by
 rw [Qo];simp
theorem Bt (h:Xi) (hl:h.Xz.length<2^40):a9 Φ 311 [.agg (Xi.c h)]=some (.val (.slice 1 (h.Xz.map fun f=>[.int .i64 f.Yc]))):=by
 rw [aC rfl rfl];simp [xH,Xi.e];refine (eF h.Xz.length (fun i=>[(0,.tok 1 i)]) 1 (fun i e=>look 3 e=some (.app 1 ((h.Xz.map fun f=>[AV.int .i64 f.Yc]).take i) 0)/\look 7 e=some (.slice 2 (h.Xz.map Fld.c))/\look 8 e=some (.int .i64 h.Xz.length)/\look 9 e=some (.int .i64 i))
  (fun i=>some (.val (.slice 1 (h.Xz.map fun f=>[.int .i64 f.Yc])))) ?_ ?_ 0 _ 1 (Qc _) (Qb _) ?_).trans (by simp)
 ·rintro i e n L hi hL hn ⟨h3,h7,h8,h9⟩ ih;have hw:=aH i (by omega);have hn0:¬(0=n):=by omega
  have hn1:¬(n=0):=by omega
  have hm:min i h.Xz.length=i:=by omega
  have hb:(i+1)*8<=70368744177664:=by omega
  simp [gG,Fld.e,h3,h7,h8,h9,hi,hw,hn0,hm,hb];exact ih _ _ (by omega) ⟨by simp [q6 hi],by simp [h7],by simp [h8],by simp⟩
 ·rintro e n L hL hn ⟨h3,h7,h8,h9⟩;simp [gG,l5,h3,h8,h9,hL]
 ·simp
theorem F8 (l:List Int) (hl:l.length<2^40) (hb:∀x∈l,1<=x/\x<=32):a9 Φ 310 [.slice 1 (l.map fun x=>[.int .i64 x])]=some (.val (.int .i64 l.sum)):=by
 rw [aC rfl rfl];simp [wZ];have key:∀i,i<=l.length->0<=(l.take i).sum/\(l.take i).sum<=32*i:=by
  intro i
  induction i with
  | zero=>intro _;simp
  | succ i ih=>
   intro hi;have:=ih (by omega);have hx:=hb _ (Qd (show i<l.length by omega));rw [Qh (by omega),E4,DX];omega
 refine (oD l.length (fun i e=>look 3 e=some (.int .i64 (l.take i).sum)/\look 6 e=some (.slice 1 (l.map fun x=>[.int .i64 x]))/\look 7 e=some (.int .i64 l.length)/\look 8 e=some (.int .i64 i))
  (fun i=>some (.val (.int .i64 l.sum))) ?_ ?_ 0 _ (Qc _) ?_).trans (by simp)
 ·rintro i e L hi hL ⟨h3,h6,h7,h8⟩ ih;have hw:=aH i (by omega);have k1:=key (i+1) (by omega);have e1:(l.take (i+1)).sum=(l.take i).sum+l[i]:=by rw [Qh hi,E4,DX]
  have hw2:IntKind.wrap .i64 ((l.take i).sum+l[i])=(l.take (i+1)).sum:=by rw [<- e1];exact cU
  simp [gF,h3,h6,h7,h8,hi,hw,hw2];exact ih _ ⟨by simp,by simp [h6],by simp [h7],by simp⟩
 ·rintro e L hL ⟨h3,h6,h7,h8⟩;simp [gF,kZ,h3,h7,h8,hL]
 ·simp
def Any (h:AH):Prop:=Tail h.objs h.next
theorem Any.app {T:List (Nat×AO)} {n:Nat} {o:AO} (h:Any ⟨T,n⟩):Any ⟨T++[(n,o)],n+1⟩:=Tail.app h o
theorem Any.mk {T:List (Nat×AO)} {n:Nat} (h:Tail T n):Any ⟨T,n⟩:=h
def hdrR (l:List Fld) (i:Nat):Int:=match fe (fun i=>(l[i]?).bind fun f=>er (fldE l i f)) l.length i with
 | some e=>e
 | none=>if wSum l % 8=0 then 0 else 10
theorem IR {l:List Fld} {i:Nat} (hi:i<l.length) (h:fldE l i l[i]≠0):hdrR l i=fldE l i l[i]:=by
 unfold hdrR;rw [bX (x:=fldE l i l[i]) hi (by simp [hi,er,h])]
theorem MP {l:List Fld} {i:Nat} (hi:i<l.length) (h:fldE l i l[i]=0):hdrR l i=hdrR l (i+1):=by
 unfold hdrR;rw [eW hi (by simp [hi,h])]
theorem PO {l:List Fld}:hdrR l l.length=if wSum l % 8=0 then 0 else 10:=by
 unfold hdrR;rw [iQ]
theorem fe_all {α:Type} {f:Nat->Option α} {N:Nat}:fe f N 0=none↔∀i,i<N->f i=none:=by
 have key:∀n i,feF f n i=none↔∀k,i<=k->k<i+n->f k=none:=by
  intro n
  induction n with
  | zero=>intro i;simp [feF];omega
  | succ n ih=>
   intro i;simp only [feF];cases h:f i with
   | some x=>simp;exact ⟨i,Qb _,by omega,by simp [h]⟩
   | none=>
    simp only [ih];constructor
    ·intro hh k h1 h2;rcases DW h1 with rfl | h3
     ·exact h
     ·exact hh k (by omega) (by omega)
    ·intro hh k h1 h2;exact hh k (by omega) (by omega)
 unfold fe;rw [key];simp
theorem wSum_eq (l:List Fld):wSum l=(l.map (·.Yc)).sum:=rfl
theorem GH (h:Xi) (hn:h.name.length<2^40) (hf:∀f∈h.Xz,f.name.length<2^40):a9 Φ 208 [.agg (Xi.c h)]=some (.val (.int .i64 (hdrE h))):=by
 rw [aC rfl rfl];have n1:=CO h.name hn;cases q1:idS h.name with
 | false=>rw [q1] at n1;simp [nS,Xi.e,n1,hdrE,q1]
 | true=>
 rw [q1] at n1;by_cases z0:h.Xz.length=0
 ·simp [nS,Xi.e,n1,hdrE,q1,z0]
 by_cases z1:12<h.Xz.length
 ·simp [nS,Xi.e,n1,hdrE,q1,z0,z1]
 have hE:hdrE h=hdrR h.Xz 0:=by simp [hdrE,q1,z0,z1,hdrR,C4]<;>rfl
 rw [hE];simp [nS,Xi.e,n1,z0,z1];refine zO h.Xz.length (fun i e H=>look 1 e=some (.iptr 2 [[.str h.name,.slice 2 (h.Xz.map Fld.c)]] 0 0)/\look 23 e=some (.slice 2 (h.Xz.map Fld.c))/\look 24 e=some (.int .i64 h.Xz.length)/\look 25 e=some (.int .i64 i)/\Any H/\
   ∀k,k<i->fldE h.Xz k (h.Xz.getD k default)=0)
  (fun i=>some (Rt.val (.int .i64 (hdrR h.Xz i)))) ?_ ?_ 0 _ _ (Qc _) ?_
 ·rintro i e ⟨T,n⟩ L hi hL ⟨h1,h23,h24,h25,hT,hz⟩ ih;have hT':look n T=none:=hT n (Qb _);have hw:=aH i (by omega);have nf:=CO h.Xz[i].name (hf _ (Qd hi));cases p1:idS h.Xz[i].name with
  | false=>
   rw [p1] at nf;rw [IR hi (by simp [fldE,p1])];simp [bL,Fld.e,h23,h24,h25,hi,hT',nf,fldE,p1]
  | true=>
  rw [p1] at nf;by_cases w1:h.Xz[i].Yc<1
  ·rw [IR hi (by simp [fldE,p1,wBad,w1])];simp [bL,Fld.e,h23,h24,h25,hi,hT',nf,fldE,p1,wBad,w1]
  by_cases w2:32<h.Xz[i].Yc
  ·rw [IR hi (by simp [fldE,p1,wBad,w2])];simp [bL,Fld.e,h23,h24,h25,hi,hT',nf,fldE,p1,wBad,w1,w2]
  have hi':i<=h.Xz.length:=by omega
  have hmi:min i h.Xz.length=i:=by omega
  simp [bL,Fld.e,h1,h23,h24,h25,hi,hT',nf,w1,w2,hi'];refine (Cv (h.Xz.take i) (fun g=>decide (g.name=h.Xz[i].name)) (some (Rt.val (.int .i64 7))) (some (Rt.val (.int .i64 (hdrR h.Xz (i+1)))))
   (fun k e H=>look 1 e=some (.iptr 2 [[.str h.name,.slice 2 (h.Xz.map Fld.c)]] 0 0)/\look 23 e=some (.slice 2 (h.Xz.map Fld.c))/\look 24 e=some (.int .i64 h.Xz.length)/\look 25 e=some (.int .i64 i)/\
    look 4 e=some (.iptr 2 [[.str h.Xz[i].name,.int .i64 h.Xz[i].Yc]] 0 0)/\look 45 e=some (.slice 2 ((h.Xz.map Fld.c).take i))/\look 46 e=some (.int .i64 i)/\look 47 e=some (.int .i64 k)/\Any H/\
    (0<k->qA (h.Xz.take i) (fun g=>decide (g.name=h.Xz[i].name)) 0=qA (h.Xz.take i) (fun g=>decide (g.name=h.Xz[i].name)) k)) ?_ ?_ ?_ _ _ ?_).trans ?_
  ·rintro k e ⟨T2,m⟩ L' hk hL' ⟨h1,h23,h24,h25,g4,g45,g46,g47,hT2,_⟩ hb;simp only [uE] at hk;have hk1:k<i:=by omega
   have hk2:k<h.Xz.length:=by omega
   simp only [List.getElem_take,decide_eq_true_eq] at hb;have hm:look m T2=none:=hT2 m (Qb _);simp [fR,Fld.e,g4,g45,g46,g47,hk1,hm,hb,hmi]
  ·rintro k e ⟨T2,m⟩ L' X hk hL' ⟨h1,h23,h24,h25,g4,g45,g46,g47,hT2,hy⟩ hb ih';have hb':=hb;have hk0:=hk;simp only [uE] at hk;have hk1:k<i:=by omega
   have hk2:k<h.Xz.length:=by omega
   simp only [List.getElem_take,decide_eq_false_iff_not] at hb;have hm:look m T2=none:=hT2 m (Qb _);have hw':=aH k (by omega);simp [fR,Fld.e,g4,g45,g46,g47,hk1,hm,hb,hmi,hw'];refine ih' _ _ ⟨by simp [h1],by simp [h23],by simp [h24],by simp [h25],by simp [g4],by simp [g45],by simp [g46],by simp,Any.app hT2,fun _=>?_⟩;rcases Qw k with rfl | hp
   ·exact IK hk0 hb'
   ·rw [hy hp];exact IK hk0 hb'
  ·rintro e ⟨T2,m⟩ L' hL' ⟨h1,h23,h24,h25,g4,g45,g46,g47,hT2,hy⟩;have hm:min i h.Xz.length=i:=by omega
   simp [hm] at g47 hy;have hd:dupN Fld.name h.Xz i h.Xz[i]=false:=by
    unfold dupN;rw [<- Ce];rcases Qw i with hp | hp
    ·subst hp;simp [qA]
    ·rw [hy hp];have:=Dl (l:=h.Xz.take i) (p:=fun g=>decide (g.name=h.Xz[i].name));simpa [hm] using this
   simp [fR,nT,g46,g47,h25,hL',hw];refine ih _ _ ⟨by simp [h1],by simp [h23],by simp [h24],by simp,hT2,?_⟩;intro k hk;rcases Nat.lt_succ_iff_lt_or_eq.1 hk with hlt | rfl
   ·exact hz k hlt
   ·rw [tE,Qa hi,lY];simp [fldE,p1,wBad,w1,w2,hd]
  ·simp [h1,h23,h24,h25,hT.mono (Nat.le_succ _),Any]
  ·cases p3:dupN Fld.name h.Xz i h.Xz[i] with
   | true=>
    rw [IR hi (by simp [fldE,p1,wBad,w1,w2,p3])];unfold dupN at p3;simp only [p3,if_true];simp [fldE,p1,wBad,w1,w2,dupN,p3]
   | false=>
    rw [MP hi (by simp [fldE,p1,wBad,w1,w2,p3])];unfold dupN at p3;simp [p3]
 ·rintro e ⟨T,n⟩ L hL ⟨h1,h23,h24,h25,hT,hz⟩;have hb:∀x∈h.Xz.map (·.Yc),1<=x/\x<=32:=by
   intro x hx;obtain ⟨f,hf,rfl⟩:=iN.1 hx;obtain ⟨k,hk,rfl⟩:=Qn.1 hf;have:=hz k hk;rw [tE,Qa hk,lY] at this;refine wBad_false.1 ?_;cases q:wBad h.Xz[k].Yc with
   | false=>rfl
   | true=>
    simp only [fldE,q] at this;split at this
    ·omega
    ·simp at this
  have e1:=Bt h (by omega);have e2:=F8 (h.Xz.map (·.Yc)) (by simp;omega) hb;simp only [Xi.e] at e1;simp only [List.map_map] at e2;have hs:0<=wSum h.Xz:=by
   unfold wSum;have:∀l:List Int,(∀x∈l,1<=x/\x<=32)->0<=l.sum:=by
    intro l
    induction l with
    | nil=>intro _;simp
    | cons a l ih=>intro hh;have:=ih fun x hx=>hh x (by simp [hx]);have:=hh a (by simp);simp;omega
   exact this _ hb
  have e3:wSum h.Xz % 8=(wSum h.Xz).tmod 8:=(Int.tmod_eq_emod_of_nonneg hs).symm;rw [PO,e3];have e4:a9 Φ 310 [.slice 1 (h.Xz.map fun f=>[.int .i64 f.Yc])]=some (.val (.int .i64 (wSum h.Xz))):=e2;by_cases z:(wSum h.Xz).tmod 8=0
  ·simp [bL,kH,h1,h24,h25,hL,e1,e4,z]
  ·simp [bL,kH,h1,h24,h25,hL,e1,e4,z]
 ·simp [Any,Tail]
def tF:Nat:=225
def failV (c p i s:Int):AV:= .iface tF (.agg [.int .i64 c,.int .i64 p,.int .i64 i,.int .i64 s])
theorem Tn (c p i s:Int):AV.iface 225 (.agg [.int .i64 c,.int .i64 p,.int .i64 i,.int .i64 s])=failV c p i s:=rfl
def ix {α:Type} (p:α->Bool) (l:List α) (i:Nat):Int:=(fe (fun k=>(l[k]?).bind fun a=>if p a then some (k:Int) else none) l.length i).getD (-1)
theorem DG {α:Type} {p:α->Bool} {l:List α} {i:Nat} (hi:i<l.length) (h:p l[i]=true):ix p l i=i:=by
 unfold ix;rw [bX (x:=(i:Int)) hi (by simp [hi,h])];rfl
theorem D7 {α:Type} {p:α->Bool} {l:List α} {i:Nat} (hi:i<l.length) (h:p l[i]=false):ix p l i=ix p l (i+1):=by
 unfold ix;rw [eW hi (by simp [hi,h])]
theorem DF {α:Type} {p:α->Bool} {l:List α}:ix p l l.length= -1:=by
 unfold ix;rw [iQ];rfl
theorem Mz {α:Type} {p:α->Bool} {l:List α}:∀n i,n+i=l.length->decide (0<=ix p l i)=qA l p i
 | 0,i,h=>by
  have:i=l.length:=by omega
  subst this;rw [DF,Dl];rfl
 | n+1,i,h=>by
  have hi:i<l.length:=by omega
  cases q:p l[i] with
  | true=>rw [DG hi q,Ly hi q];simp
  | false=>rw [D7 hi q,IK hi q];exact Mz n (i+1) (by omega)
theorem DE {α:Type} {p:α->Bool} {l:List α}:decide (0<=ix p l 0)=l.any p:=by
 rw [Mz l.length 0 (by omega),Ce]
structure PrgS (p:Prg):Prop where
 n:p.name.length<2^40
 h:p.Xo.length<2^40
 hn:∀h∈p.Xo,h.name.length<2^40
 hf:∀h∈p.Xo,∀f∈h.Xz,f.name.length<2^40
 hl:∀h∈p.Xo,h.Xz.length<2^40
 m:p.Xn.length<2^40
 mn:∀f∈p.Xn,f.name.length<2^40
 r:p.Xl.length<2^40
 rn:∀r∈p.Xl,r.name.length<2^40
 a:p.Xx.length<2^40
 an:∀a∈p.Xx,a.name.length<2^40
 ap:∀a∈p.Xx,a.params.length<2^40
 apn:∀a∈p.Xx,∀f∈a.params,f.name.length<2^40
 ab:∀a∈p.Xx,a.body.length<2^40
 ai:∀a∈p.Xx,∀s∈a.body,s.index.length<2^40
 av:∀a∈p.Xx,∀s∈a.body,s.value.length<2^40
 t:p.Xm.length<2^40
 tn:∀t∈p.Xm,t.name.length<2^40
 tk:∀t∈p.Xm,t.keys.length<2^40
 ta:∀t∈p.Xm,t.Xx.length<2^40
 tg:∀t∈p.Xm,t.Yb.args.length<2^40
 s:p.Xw.length<2^40
 sn:∀s∈p.Xw,s.name.length<2^40
 se:∀s∈p.Xw,s.extract.length<2^40
 sc:∀s∈p.Xw,s.cases.length<2^40
 sv:∀s∈p.Xw,∀c∈s.cases,ok32 iH c.value/\ok32 iH c.Yd
 c:p.Ya.length<2^40
 co:∀x∈p.Ya,Xa.Ok iH x
 d:p.Xr.length<2^40
theorem IX {p:Prg} (o:p.Ok iH):PrgS p:=by
 obtain ⟨o0,o1,o2,o3,o4,o5,o6,o7,o8⟩:=o;have e:=CN;simp only [oT,okL,Xi.Ok,Fld.Ok,Xg.Ok,Action.Ok,Xf.Ok,Tbl.Ok,Xb.Ok,Xc.Ok,Xj.Ok] at o0 o1 o2 o3 o4 o5 o6 o7 o8;refine ⟨by omega,by omega,?_,?_,?_,by omega,?_,by omega,?_,by omega,?_,?_,?_,?_,?_,?_,by omega,?_,?_,?_,?_,by omega,?_,?_,?_,?_,by omega,o7.2,by omega⟩
 ·intro h hh;have:=(o1.2 h hh).1;omega
 ·intro h hh f hf;have:=((o1.2 h hh).2.2 f hf).1;omega
 ·intro h hh;have:=(o1.2 h hh).2.1;omega
 ·intro f hf;have:=(o2.2 f hf).1;omega
 ·intro r hr;have:=(o3.2 r hr).1;omega
 ·intro a ha;have:=(o4.2 a ha).1;omega
 ·intro a ha;have:=(o4.2 a ha).2.1.1;omega
 ·intro a ha f hf;have:=((o4.2 a ha).2.1.2 f hf).1;omega
 ·intro a ha;have:=(o4.2 a ha).2.2.1;omega
 ·intro a ha s hs;have:=((o4.2 a ha).2.2.2 s hs).2.2.2.2.1.1;omega
 ·intro a ha s hs;have:=((o4.2 a ha).2.2.2 s hs).2.2.2.2.2.1;omega
 ·intro t ht;have:=(o5.2 t ht).1;omega
 ·intro t ht;have:=(o5.2 t ht).2.1.1;omega
 ·intro t ht;have:=(o5.2 t ht).2.2.1.1;omega
 ·intro t ht;have:=(o5.2 t ht).2.2.2.1.2.1;omega
 ·intro s hs;have:=(o6.2 s hs).1;omega
 ·intro s hs;have:=(o6.2 s hs).2.1.1;omega
 ·intro s hs;have:=(o6.2 s hs).2.2.2.1.1;omega
 ·intro s hs c hc;have:=(o6.2 s hs).2.2.2.1.2 c hc;exact ⟨this.1,this.2.1⟩
def scC (p:Prg) (ps:List Fld):List AV:=(nC p [.slice 2 (ps.map Fld.c)])
theorem aL (p:Prg) (ps:List Fld):scC p ps=(nC p [.slice 2 (ps.map Fld.c)]):=by simp [scC]
theorem Cf (op:Int):a9 Φ 358 [.int .i64 op]=some (.val (.int .i64 (ari op))):=by
 rw [aC rfl rfl];rcases (show op=1\/op=2\/op=3\/op=4\/op=5\/op=6\/op=7\/op=8\/op=9\/op=10\/op=11\/op=12\/op=13\/op=14\/op=15\/op=16\/op=17\/(op<1\/17<op) by omega) with rfl | rfl | rfl | rfl | rfl | rfl | rfl | rfl | rfl | rfl | rfl | rfl | rfl | rfl | rfl | rfl | rfl | h
 rotate_right
 ·have e:ari op= -1:=by
   unfold ari;rw [QA (by omega),QA (by omega),QA (by omega),QA (by omega)]
  rw [e];have h1:¬op=1:=by omega
  have h2:¬op=2:=by omega
  have h3:¬op=3:=by omega
  have h4:¬op=4:=by omega
  have h5:¬op=5:=by omega
  have h6:¬op=6:=by omega
  have h7:¬op=7:=by omega
  have h8:¬op=8:=by omega
  have h9:¬op=9:=by omega
  have h10:¬op=10:=by omega
  have h11:¬op=11:=by omega
  have h12:¬op=12:=by omega
  have h13:¬op=13:=by omega
  have h14:¬op=14:=by omega
  have h15:¬op=15:=by omega
  have h16:¬op=16:=by omega
  have h17:¬op=17:=by omega
  simp [sL,h1,h2,h3,h4,h5,h6,h7,h8,h9,h10,h11,h12,h13,h14,h15,h16,h17]
 all_goals simp [sL,ari]
theorem GF (w:Int):a9 Φ 406 [.int .i64 w]=some (.val (.tup [.int .i64 (wide w).1,.int .i64 (wide w).2])):=by
 rw [aC rfl rfl];by_cases h1:w<1
 ·simp [pY,wide,wBad,h1]
 by_cases h2:32<w
 ·simp [pY,wide,wBad,h1,h2]
 simp [pY,wide,wBad,h1,h2]
def cY (p:Prg) (h f:Int):Option Fld:=(if h= -1 then some p.Xn else (at? p.Xo h).map (·.Xz)).bind fun l=>at? l f
theorem Dn (p:Prg) (h f:Int):decl p h f=(cY p h f).map (·.Yc):=by
 unfold decl cY;cases (if h= -1 then some p.Xn else (at? p.Xo h).map (·.Xz))<;>rfl
theorem PF (p:Prg) (ps:List Fld) (h i:Int):a9 Φ 407 [.agg (scC p ps),.int .i64 h,.int .i64 i]=some (.val (match cY p h i with
  | some f=> .tup [.agg (Fld.c f),.bool true]
  | none=> .tup [.agg [.str [],.int .i64 0],.bool false])):=by
 rw [aC rfl rfl];by_cases hm:h= -1
 ·subst hm;by_cases i0:i<0
  ·rw [show cY p (-1) i=none by simp [cY,iC i0]];simp [gS,aL,i0]
  by_cases i1:(p.Xn.length:Int)<=i
  ·rw [show cY p (-1) i=none by simp [cY,iK i1]];simp [gS,aL,i0,i1]
  obtain ⟨k,rfl⟩:∃k:Nat,i=k:=⟨i.toNat,by omega⟩;have hk:k<p.Xn.length:=by omega
  rw [show cY p (-1) k=some p.Xn[k] by simp [cY,hk]];simp [gS,aL,i0,i1,hk,Fld.e]
 by_cases h0:h<0
 ·rw [show cY p h i=none by simp [cY,hm,iC h0]];simp [gS,aL,hm,h0]
 by_cases h1:(p.Xo.length:Int)<=h
 ·rw [show cY p h i=none by simp [cY,hm,iK h1]];simp [gS,aL,hm,h0,h1]
 obtain ⟨m,rfl⟩:∃k:Nat,h=k:=⟨h.toNat,by omega⟩;have hk:m<p.Xo.length:=by omega
 by_cases i0:i<0
 ·rw [show cY p m i=none by simp [cY,hm,hk,iC i0]];simp [gS,aL,hm,hk,Qf.2 hk,i0,Xi.e]
 by_cases i1:(p.Xo[m].Xz.length:Int)<=i
 ·rw [show cY p m i=none by simp [cY,hm,hk,iK i1]];simp [gS,aL,hm,hk,Qf.2 hk,i0,i1,Xi.e]
 obtain ⟨k,rfl⟩:∃k:Nat,i=k:=⟨i.toNat,by omega⟩;have hk2:k<p.Xo[m].Xz.length:=by omega
 rw [show cY p m k=some p.Xo[m].Xz[k] by simp [cY,hm,hk,hk2]];simp [gS,aL,hm,hk,Qf.2 hk,hk2,Qf.2 hk2,Xi.e,Fld.e]
theorem L8 (w:Int):IntKind.wrap .i64 (bF w)=bF w:=by
 unfold bF;cases h:wBad w with
 | true=>rw [a8 rfl];decide
 | false=>
  obtain ⟨h1,h2⟩:=wBad_false.1 h;obtain ⟨k,rfl⟩:∃k:Nat,w=k:=⟨w.toNat,by omega⟩;have:(2:Int)^k<=2^32:=by
   have:=uD (n:=2) (by omega) (show k<=32 by omega)
   exact_mod_cast this
  have h0:(0:Int)<2^k:=by
   have:=Nat.pow_pos (a:=2) (n:=k) (by omega)
   exact_mod_cast this
  simp;exact cU
theorem Gv (p:Prg) (ps:List Fld) (x:Xd):a9 Φ 388 [.agg (scC p ps),.agg (Xd.c x)]=some (.val (.tup [.int .i64 (prim p ps x).1,.int .i64 (prim p ps x).2])):=by
 rw [aC rfl rfl];by_cases o1:x.op=1
 ·have hw:=GF x.w;have hm:=jI x.w;have hmw:=L8 x.w;cases q:wBad x.w with
  | true=>
   simp [wide,q] at hw;simp [cN,aL,Xd.e,o1,prim,hw,q]
  | false=>
   simp [wide,q] at hw;by_cases n0:x.n<0
   ·simp [cN,aL,Xd.e,o1,prim,hw,q,n0]
   have e:bF x.w=2^x.w.toNat - 1:=by simp [bF,q]
   rw [e] at hm hmw;by_cases n1:2^x.w.toNat - 1<x.n
   ·simp [cN,aL,Xd.e,o1,prim,hw,hm,hmw,q,n0,n1]
   ·simp [cN,aL,Xd.e,o1,prim,hw,hm,hmw,q,n0,n1]
 by_cases o2:x.op=2
 ·have hf:=PF p ps x.n x.w;simp only [aL] at hf;cases q:cY p x.n x.w with
  | none=>
   rw [q] at hf;simp [cN,aL,Xd.e,o2,prim,hf,Dn,q]
  | some f=>
   rw [q] at hf;simp only [Fld.e] at hf;have hw:=GF f.Yc;simp [cN,aL,Xd.e,o2,prim,hf,hw,Dn,q]
 by_cases o3:x.op=3
 ·by_cases n0:x.n<0
  ·simp [cN,aL,Xd.e,o3,prim,n0,iC n0]
  by_cases n1:(ps.length:Int)<=x.n
  ·simp [cN,aL,Xd.e,o3,prim,n0,n1,iK n1]
  obtain ⟨k,hk⟩:∃k:Nat,x.n=k:=⟨x.n.toNat,by omega⟩;have hk2:k<ps.length:=by omega
  have hw:=GF ps[k].Yc;simp [cN,aL,Xd.e,Fld.e,o3,prim,hk,hk2,Qf.2 hk2,hw]
 by_cases n0:x.n<0
 ·simp [cN,aL,Xd.e,o1,o2,o3,prim,n0,iC n0]
 by_cases n1:(p.Xo.length:Int)<=x.n
 ·simp [cN,aL,Xd.e,o1,o2,o3,prim,n0,n1,iK n1]
 obtain ⟨k,hk⟩:∃k:Nat,x.n=k:=⟨x.n.toNat,by omega⟩;have hk2:k<p.Xo.length:=by omega
 simp [cN,aL,Xd.e,o1,o2,o3,prim,hk,hk2,Qf.2 hk2]
theorem Ax (x:Xd) (a b c:Int) (ha:0<=a/\a<=32) (hb:0<=b/\b<=32):a9 Φ 389 [.agg (Xd.c x),.agg [.int .i64 a,.int .i64 b,.int .i64 c]]=some (.val (.tup [.int .i64 (comb x a b c).1,.int .i64 (comb x a b c).2])):=by
 rw [aC rfl rfl];have hA:=Cf x.op;have hw:=GF x.w;have hab:IntKind.wrap .i64 (a+b)=a+b:=cU;have hw2:=GF (a+b);by_cases o6:x.op=6
 ·rw [show ari x.op=1 by simp [o6,ari]] at hA;rw [o6] at hA;by_cases n0:x.n<0
  ·simp [aS,Xd.e,o6,comb,n0]
  by_cases n1:31<x.n
  ·simp [aS,Xd.e,o6,comb,n0,n1]
  simp [aS,Xd.e,o6,comb,n0,n1,hA]
 by_cases o7:x.op=7
 ·rw [show ari x.op=1 by simp [o7,ari]] at hA;rw [o7] at hA;by_cases n0:x.n<0
  ·simp [aS,Xd.e,o7,comb,n0]
  by_cases n1:31<x.n
  ·simp [aS,Xd.e,o7,comb,n0,n1]
  simp [aS,Xd.e,o7,comb,n0,n1,hA]
 by_cases o8:x.op=8
 ·by_cases n0:x.n<0
  ·simp [aS,Xd.e,o8,comb,n0]
  cases q:wBad x.w with
  | true=>
   simp [wide,q] at hw;simp [aS,Xd.e,o8,comb,n0,q,hw]
  | false=>
   simp [wide,q] at hw;obtain ⟨w1,w2⟩:=wBad_false.1 q;have hs:IntKind.wrap .i64 (a - x.w)=a - x.w:=cU;by_cases n1:a - x.w<x.n
   ·simp [aS,Xd.e,o8,comb,n0,q,hw,hs,n1]
   ·simp [aS,Xd.e,o8,comb,n0,q,hw,hs,n1]
 by_cases o14:x.op=14
 ·simp [aS,Xd.e,o14,comb,hab,hw2]
 by_cases o17:x.op=17
 ·by_cases a1:a=1
  ·by_cases bc:b=c
   ·simp [aS,Xd.e,o17,comb,a1,bc]
   ·simp [aS,Xd.e,o17,comb,a1,bc]
  ·simp [aS,Xd.e,o17,comb,a1]
 by_cases r2:ari x.op=2
 ·rw [r2] at hA;by_cases ab:a=b
  ·by_cases o15:x.op=15
   ·rw [o15] at hA;simp [aS,Xd.e,o15,comb,ab,hA]
   by_cases o16:x.op=16
   ·rw [o16] at hA;simp [aS,Xd.e,o16,comb,ab,hA]
   simp [aS,Xd.e,o6,o7,o8,o14,o15,o16,o17,comb,r2,ab,hA]
  ·simp [aS,Xd.e,o6,o7,o8,o14,o17,comb,r2,ab,hA]
 ·have o15:¬x.op=15:=by intro h;apply r2;simp [h,ari]
  have o16:¬x.op=16:=by intro h;apply r2;simp [h,ari]
  simp [aS,Xd.e,o6,o7,o8,o14,o15,o16,o17,comb,r2,hA]
def chkR (r:Except Int (Int×Nat)) (x:Option Rt):Prop:=match r with
 | .error e=>e≠0/\∃a b,x=some (.val (.tup [.int .i64 a,.int .i64 b,.int .i64 e]))
 | .ok (w,j)=>x=some (.val (.tup [.int .i64 w,.int .i64 j,.int .i64 0]))
theorem Bm {w:Int} (h:(wide w).2=0):1<=(wide w).1/\(wide w).1<=32:=by
 unfold wide at h ⊢;cases q:wBad w with
 | true=>rw [q] at h;simp at h
 | false=>simp;exact wBad_false.1 q
theorem KE {p:Prg} {ps:List Fld} {x:Xd} (h:(prim p ps x).2=0):1<=(prim p ps x).1/\(prim p ps x).1<=32:=by
 unfold prim at h ⊢;by_cases o1:x.op=1
 ·simp only [o1,if_true] at h ⊢;cases q:wBad x.w with
  | true=>rw [q] at h;simp at h
  | false=>
   rw [q] at h;by_cases r:x.n<0\/2^x.w.toNat - 1<x.n
   ·simp [r] at h
   ·simp [r];exact wBad_false.1 q
 by_cases o2:x.op=2
 ·simp only [o2,if_true] at h ⊢;cases q:decl p x.n x.w with
  | none=>rw [q] at h;simp at h
  | some w=>rw [q] at h;exact Bm h
 by_cases o3:x.op=3
 ·simp only [o3,if_true] at h ⊢;cases q:at? ps x.n with
  | none=>rw [q] at h;simp at h
  | some f=>rw [q] at h;exact Bm h
 simp only [o1,o2,o3,if_false] at h ⊢;cases q:(at? p.Xo x.n).isSome with
 | true=>simp
 | false=>rw [q] at h;simp at h
theorem Aw {x:Xd} {a b c:Int} (ha:1<=a/\a<=32) (hb:ari x.op=3\/x.op=14->1<=b/\b<=32) (h:(comb x a b c).2=0):1<=(comb x a b c).1/\(comb x a b c).1<=32:=by
 unfold comb at h ⊢;by_cases o6:x.op=6\/x.op=7
 ·simp only [a8 o6] at h ⊢;by_cases r:x.n<0\/31<x.n
  ·simp [r] at h
  ·simpa [r] using ha
 simp only [QA o6] at h ⊢;by_cases o8:x.op=8
 ·simp only [a8 o8] at h ⊢;by_cases r:x.n<0
  ·simp [r] at h
  simp only [QA r] at h ⊢;by_cases r2:wBad x.w\/a - x.w<x.n
  ·simp [r2] at h
  ·simp only [QA r2];have:wBad x.w=false:=by
    cases q:wBad x.w with
    | true=>exact absurd (.inl q) r2
    | false=>rfl
   exact wBad_false.1 this
 simp only [QA o8] at h ⊢;by_cases o14:x.op=14
 ·simp only [a8 o14] at h ⊢;exact Bm h
 simp only [QA o14] at h ⊢;by_cases o17:x.op=17
 ·simp only [a8 o17] at h ⊢;by_cases r:a≠1\/b≠c
  ·simp [r] at h
  ·simp only [QA r];exact hb (.inl (by simp [o17,ari]))
 simp only [QA o17] at h ⊢;by_cases r:ari x.op=2/\a≠b
 ·rw [a8 r] at h;simp at h
 simp only [QA r] at h ⊢;by_cases r2:x.op=15\/x.op=16
 ·simp [r2]
 ·simpa [r2] using ha
theorem zL {p:Prg} {ps:List Fld} {l:List Xd}:∀{n i w j},chk p ps l n i= .ok (w,j)->(1<=w/\w<=32)/\i<j/\j<=l.length
 | 0,i,w,j,h=>by simp [chk] at h
 | n+1,i,w,j,h=>by
  simp only [chk] at h;cases hx:l[i]? with
  | none=>rw [hx] at h;simp at h
  | some x=>
   have hi:i<l.length:=by
    obtain ⟨hi,_⟩:=Qm.1 hx;exact hi
   rw [hx] at h;simp only at h;split at h
   ·cases h
   split at h
   ·split at h
    ·rename_i hp;cases h;exact ⟨KE hp,by omega,by omega⟩
    ·cases h
   split at h
   ·cases h
   ·rename_i a i1 h1;obtain ⟨ra,r1,r2⟩:=zL h1;split at h
    ·rename_i hk;split at h
     ·rename_i hc;cases h;refine ⟨Aw ra ?_ hc,by omega,r2⟩;intro hh;rcases hh with hh | hh
      ·omega
      ·rw [hh] at hk;simp [ari] at hk
     ·cases h
    split at h
    ·cases h
    ·rename_i b i2 h2;obtain ⟨rb,s1,s2⟩:=zL h2;split at h
     ·split at h
      ·rename_i hc;cases h;exact ⟨Aw ra (fun _=>rb) hc,by omega,s2⟩
      ·cases h
     split at h
     ·cases h
     ·rename_i c i3 h3;obtain ⟨_,t1,t2⟩:=zL h3;split at h
      ·rename_i hc;cases h;exact ⟨Aw ra (fun _=>rb) hc,by omega,t2⟩
      ·cases h
theorem Ck (w e:Int) (j:Nat):chkR (if e=0 then .ok (w,j) else .error e) (some (.val (.tup [.int .i64 w,.int .i64 j,.int .i64 e]))):=by
 by_cases z:e=0
 ·subst z;simp [chkR]
 ·simp [chkR,z]
theorem LY (op:Int):ari op= -1\/ari op=0\/ari op=1\/ari op=2\/ari op=3:=by
 unfold ari;split
 ·exact .inr (.inl rfl)
 split
 ·exact .inr (.inr (.inl rfl))
 split
 ·exact .inr (.inr (.inr (.inl rfl)))
 split
 ·exact .inr (.inr (.inr (.inr rfl)))
 ·exact .inl rfl
theorem G4 (p:Prg) (ps:List Fld) (l:List Xd) (hl:l.length<2^40):∀n i,l.length - i<n->i<=l.length->chkR (chk p ps l n i) (a9 Φ 357 [.agg (scC p ps),.slice 3 (l.map Xd.c),.int .i64 (i:Nat)])
 | 0,i,h,hle=>by omega
 | n+1,i,h,hle=>by
  rw [aC rfl rfl];by_cases hi:i<l.length
  rotate_left
  ·have:i=l.length:=by omega
   subst this;simp [chk,chkR,iO,aL]
  have ih1:=G4 p ps l hl n (i+1) (by omega) (by omega);have hA:=Cf l[i].op;have hP:=Gv p ps l[i];have hw:IntKind.wrap .i64 ((i:Int)+1)=(i:Int)+1:=cU;have e1:((i+1:Nat):Int)=(i:Int)+1:=by omega
  rw [e1] at ih1;simp only [aL,Xd.e] at ih1 hP;simp only [chk,Qa hi];rcases LY l[i].op with k | k | k | k | k
  ·rw [k] at hA;simp [chkR,iO,aL,Xd.e,hi,Qf.2 hi,hA,k]
  ·rw [k] at hA;by_cases z:(prim p ps l[i]).2=0
   ·rw [z] at hP;simp [chkR,iO,aL,Xd.e,hi,Qf.2 hi,hA,k,hP,z,hw]
   ·simp [chkR,iO,aL,Xd.e,hi,Qf.2 hi,hA,k,hP,z,hw]
  ·rw [k] at hA;simp [iO,aL,Xd.e,hi,Qf.2 hi,hA,k,hw];rw [cW];cases h1:chk p ps l n (i+1) with
   | error e=>
    rw [h1] at ih1;obtain ⟨he,a,b,hc⟩:=ih1;simp [bC,chkR,hc,he]
   | ok q=>
    obtain ⟨a,i1⟩:=q;rw [h1] at ih1;obtain ⟨ra,r1,r2⟩:=zL h1;have hC:=Ax l[i] a 0 0 (by omega) (by omega);simp only [Xd.e] at hC;simp only [chkR] at ih1;simp [bC,ih1];rw [cW];simp [wr1,dZ,hi,Xd.e,hC];exact Ck _ _ _
  ·rw [k] at hA;simp [iO,aL,Xd.e,hi,Qf.2 hi,hA,k,hw];rw [cW];cases h1:chk p ps l n (i+1) with
   | error e=>
    rw [h1] at ih1;obtain ⟨he,a,b,hc⟩:=ih1;simp [bC,chkR,hc,he]
   | ok q=>
    obtain ⟨a,i1⟩:=q;rw [h1] at ih1;obtain ⟨ra,r1,r2⟩:=zL h1;simp only [chkR] at ih1;simp [bC,ih1];rw [cW];have ih2:=G4 p ps l hl n i1 (by omega) (by omega);simp only [aL] at ih2;cases h2:chk p ps l n i1 with
    | error e=>
     rw [h2] at ih2;obtain ⟨he,x,y,hc⟩:=ih2;simp [chkR,hc,he,wr1]
    | ok q=>
     obtain ⟨b,i2⟩:=q;rw [h2] at ih2;obtain ⟨rb,s1,s2⟩:=zL h2;simp only [chkR] at ih2;have hC:=Ax l[i] a b 0 (by omega) (by omega);simp only [Xd.e] at hC;simp [ih2,wr1];rw [cW];simp [wr2,dZ,hi,Xd.e,hC];exact Ck _ _ _
  ·rw [k] at hA;simp [iO,aL,Xd.e,hi,Qf.2 hi,hA,k,hw];rw [cW];cases h1:chk p ps l n (i+1) with
   | error e=>
    rw [h1] at ih1;obtain ⟨he,a,b,hc⟩:=ih1;simp [bC,chkR,hc,he]
   | ok q=>
    obtain ⟨a,i1⟩:=q;rw [h1] at ih1;obtain ⟨ra,r1,r2⟩:=zL h1;simp only [chkR] at ih1;simp [bC,ih1];rw [cW];have ih2:=G4 p ps l hl n i1 (by omega) (by omega);simp only [aL] at ih2;cases h2:chk p ps l n i1 with
    | error e=>
     rw [h2] at ih2;obtain ⟨he,x,y,hc⟩:=ih2;simp [chkR,hc,he,wr1]
    | ok q=>
     obtain ⟨b,i2⟩:=q;rw [h2] at ih2;obtain ⟨rb,s1,s2⟩:=zL h2;simp only [chkR] at ih2;simp [ih2,wr1];rw [cW];have ih3:=G4 p ps l hl n i2 (by omega) (by omega);simp only [aL] at ih3;cases h3:chk p ps l n i2 with
     | error e=>
      rw [h3] at ih3;obtain ⟨he,x,y,hc⟩:=ih3;simp [chkR,hc,he,wr2]
     | ok q=>
      obtain ⟨c,i3⟩:=q;rw [h3] at ih3;simp only [chkR] at ih3;have hC:=Ax l[i] a b c (by omega) (by omega);simp only [Xd.e] at hC;simp [ih3,wr2];rw [cW];simp [wr3,dZ,hi,Xd.e,hC];exact Ck _ _ _
theorem Dy (p:Prg) (ps:List Fld) (l:List Xd):a9 Φ 293 [.slice 3 (l.map Xd.c),.agg (scC p ps)]=some (.val (.tup [.int .i64 (exE p ps l).1,.int .i64 (exE p ps l).2])):=by
 rw [aC rfl rfl];by_cases h:24<l.length
 ·simp [nX,aL,h,exE]
 have hc:=G4 p ps l (by omega) (l.length+1) 0 (by omega) (by omega);simp only [aL,Int.ofNat_zero] at hc;cases q:chk p ps l (l.length+1) 0 with
 | error e=>
  rw [q] at hc;obtain ⟨he,a,b,hc⟩:=hc;simp [nX,aL,h,exE,q,hc,he]
 | ok r=>
  obtain ⟨w,j⟩:=r;rw [q] at hc;simp only [chkR] at hc;by_cases hj:j<l.length
  ·simp [nX,aL,h,exE,q,hc,hj]
  ·simp [nX,aL,h,exE,q,hc,hj]
theorem FieldRef.e (x:FieldRef):FieldRef.c x=[.int .i64 x.header,.int .i64 x.field]:=by simp [FieldRef.c]
theorem RZ (p:Prg) (h i:Int):a9 Φ 370 [.agg (Prg.c p),.agg [.int .i64 h,.int .i64 i]]=some (.val (match decl p h i with
  | some w=> .tup [.int .i64 w,.bool true]
  | none=> .tup [.int .i64 0,.bool false])):=by
 rw [aC rfl rfl,Dn];by_cases hm:h= -1
 ·subst hm;by_cases i0:i<0
  ·rw [show cY p (-1) i=none by simp [cY,iC i0]];simp [gM,Prg.e,i0]
  by_cases i1:(p.Xn.length:Int)<=i
  ·rw [show cY p (-1) i=none by simp [cY,iK i1]];simp [gM,Prg.e,i0,i1]
  obtain ⟨k,rfl⟩:∃k:Nat,i=k:=⟨i.toNat,by omega⟩;have hk:k<p.Xn.length:=by omega
  rw [show cY p (-1) k=some p.Xn[k] by simp [cY,hk]];simp [gM,Prg.e,i0,i1,hk,Fld.e]
 by_cases h0:h<0
 ·rw [show cY p h i=none by simp [cY,hm,iC h0]];simp [gM,Prg.e,hm,h0]
 by_cases h1:(p.Xo.length:Int)<=h
 ·rw [show cY p h i=none by simp [cY,hm,iK h1]];simp [gM,Prg.e,hm,h0,h1]
 obtain ⟨m,rfl⟩:∃k:Nat,h=k:=⟨h.toNat,by omega⟩;have hk:m<p.Xo.length:=by omega
 by_cases i0:i<0
 ·rw [show cY p m i=none by simp [cY,hm,hk,iC i0]];simp [gM,Prg.e,hm,hk,Qf.2 hk,i0,Xi.e]
 by_cases i1:(p.Xo[m].Xz.length:Int)<=i
 ·rw [show cY p m i=none by simp [cY,hm,hk,iK i1]];simp [gM,Prg.e,hm,hk,Qf.2 hk,i0,i1,Xi.e]
 obtain ⟨k,rfl⟩:∃k:Nat,i=k:=⟨i.toNat,by omega⟩;have hk2:k<p.Xo[m].Xz.length:=by omega
 rw [show cY p m k=some p.Xo[m].Xz[k] by simp [cY,hm,hk,hk2]];simp [gM,Prg.e,hm,hk,Qf.2 hk,hk2,Qf.2 hk2,Xi.e,Fld.e]
theorem UO (p:Prg) (ps:List Fld) (l:List Xd) (w:Int):a9 Φ 371 [.agg (scC p ps),.slice 3 (l.map Xd.c),.int .i64 w]=some (.val (.int .i64 (valE p ps l w))):=by
 rw [aC rfl rfl];have h:=Dy p ps l;simp only [aL] at h;by_cases z:(exE p ps l).2=0
 ·rw [z] at h;by_cases y:(exE p ps l).1=w
  ·simp [pX,aL,h,valE,z,y]
  ·simp [pX,aL,h,valE,z,y]
 ·simp [pX,aL,h,valE,z]
theorem Ih {α:Type} {l:List α} {i:Int}:(at? l i).isSome=(!(decide (i<0) || decide ((l.length:Int)<=i))):=by
 by_cases h0:i<0
 ·simp [iC h0,h0]
 by_cases h1:(l.length:Int)<=i
 ·simp [iK h1,h1]
 obtain ⟨k,rfl⟩:∃k:Nat,i=k:=⟨i.toNat,by omega⟩;have:k<l.length:=by omega
 simp [this,h0]
theorem UI (p:Prg) (ps:List Fld) (s:Xf):a9 Φ 314 [.agg (scC p ps),.agg (Xf.c s)]=some (.val (.int .i64 (stmE p ps s))):=by
 rw [aC rfl rfl];have hd:=RZ p s.dst.header s.dst.field;have hi:=Dy p ps s.index;simp only [Prg.e] at hd;simp only [aL] at hi;have hr:(s.Ye<0/\at? p.Xl s.Ye=none)\/(¬s.Ye<0/\(p.Xl.length:Int)<=s.Ye/\at? p.Xl s.Ye=none)\/∃k:Nat,∃h:k<p.Xl.length,s.Ye=k/\at? p.Xl s.Ye=some p.Xl[k]:=by
  by_cases h0:s.Ye<0
  ·exact .inl ⟨h0,iC h0⟩
  by_cases h1:(p.Xl.length:Int)<=s.Ye
  ·exact .inr (.inl ⟨h0,h1,iK h1⟩)
  obtain ⟨k,hk⟩:∃k:Nat,s.Ye=k:=⟨s.Ye.toNat,by omega⟩;exact .inr (.inr ⟨k,by omega,hk,by rw [hk];simp⟩)
 have hx:∀w,a9 Φ 371 [.agg (scC p ps),.slice 3 (s.value.map Xd.c),.int .i64 w]=some (.val (.int .i64 (valE p ps s.value w))):=UO p ps s.value;simp only [aL] at hx;have hd':a9 Φ 370 [.agg (nC p []),.agg [.int .i64 s.dst.header,.int .i64 s.dst.field]]=
   some (.val (.tup [.int .i64 ((decl p s.dst.header s.dst.field).getD 0),.bool (decl p s.dst.header s.dst.field).isSome])):=by
  rw [hd];cases decl p s.dst.header s.dst.field<;>rfl
 clear hd;by_cases k1:s.kind=1
 ·rcases hr with ⟨r0,rn⟩ | ⟨r0,r1,rn⟩ | ⟨m,hm,rk,rn⟩<;>cases qd:decl p s.dst.header s.dst.field<;>rw [qd] at hd'
  ·simp [aI,aL,Xf.e,hd',stmE,qd,k1,tO.2 r0]
  ·simp [aI,aL,Xf.e,hd',stmE,qd,k1,tO.2 r0,hx]
  ·simp [aI,aL,Xf.e,hd',stmE,qd,k1,nD.1 r0,nD.2 r1]
  ·simp [aI,aL,Xf.e,hd',stmE,qd,k1,nD.1 r0,nD.2 r1,hx]
  ·simp [aI,aL,Xf.e,hd',stmE,qd,k1,rk,hm]
  ·simp [aI,aL,Xf.e,hd',stmE,qd,k1,rk,hm,hx]
 by_cases k2:s.kind=2
 ·have e:stmE p ps s=if (at? p.Xo s.header).isSome then 0 else 8:=by simp [stmE,k2]
  rw [e,Ih];by_cases h0:s.header<0<;>by_cases h1:(p.Xo.length:Int)<=s.header<;>rcases hr with ⟨r0,rn⟩ | ⟨r0,r1,rn⟩ | ⟨m,hm,rk,rn⟩
  all_goals first
   | simp [aI,aL,Xf.e,hd',k2,tO.2 r0,h0,h1]
   | simp [aI,aL,Xf.e,hd',k2,nD.1 r0,nD.2 r1,h0,h1]
   | simp [aI,aL,Xf.e,hd',k2,rk,hm,h0,h1]
 by_cases k3:s.kind=3
 ·have e:stmE p ps s=if (at? p.Xo s.header).isSome then 0 else 8:=by simp [stmE,k3]
  rw [e,Ih];by_cases h0:s.header<0<;>by_cases h1:(p.Xo.length:Int)<=s.header<;>rcases hr with ⟨r0,rn⟩ | ⟨r0,r1,rn⟩ | ⟨m,hm,rk,rn⟩
  all_goals first
   | simp [aI,aL,Xf.e,hd',k3,tO.2 r0,h0,h1]
   | simp [aI,aL,Xf.e,hd',k3,nD.1 r0,nD.2 r1,h0,h1]
   | simp [aI,aL,Xf.e,hd',k3,rk,hm,h0,h1]
 by_cases k4:s.kind=4
 ·rcases hr with ⟨r0,rn⟩ | ⟨r0,r1,rn⟩ | ⟨m,hm,rk,rn⟩
  ·simp [aI,aL,Xf.e,hd',stmE,k4,tO.2 r0,rn]
  ·simp [aI,aL,Xf.e,hd',stmE,k4,nD.1 r0,nD.2 r1,rn]
  ·rw [rk] at rn;cases qd:decl p s.dst.header s.dst.field with
   | none=>rw [qd] at hd';simp [aI,aL,Xf.e,hd',stmE,k4,rk,hm,rn,qd]
   | some w=>
    rw [qd] at hd';by_cases z:(exE p ps s.index).2=0
    ·rw [z] at hi;by_cases y:w=p.Xl[m].Yc
     ·simp [aI,aL,Xf.e,Xg.e,hd',stmE,k4,rk,hm,rn,qd,hi,z,y]
     ·simp [aI,aL,Xf.e,Xg.e,hd',stmE,k4,rk,hm,rn,qd,hi,z,y]
    ·simp [aI,aL,Xf.e,hd',stmE,k4,rk,hm,rn,qd,hi,z]
 by_cases k5:s.kind=5
 ·rcases hr with ⟨r0,rn⟩ | ⟨r0,r1,rn⟩ | ⟨m,hm,rk,rn⟩
  ·simp [aI,aL,Xf.e,hd',stmE,k5,tO.2 r0,rn]
  ·simp [aI,aL,Xf.e,hd',stmE,k5,nD.1 r0,nD.2 r1,rn]
  ·rw [rk] at rn;by_cases z:(exE p ps s.index).2=0
   ·rw [z] at hi;simp [aI,aL,Xf.e,Xg.e,hd',stmE,k5,rk,hm,rn,hi,z,hx]
   ·simp [aI,aL,Xf.e,hd',stmE,k5,rk,hm,rn,hi,z]
 rcases hr with ⟨r0,rn⟩ | ⟨r0,r1,rn⟩ | ⟨m,hm,rk,rn⟩
 ·simp [aI,aL,Xf.e,hd',stmE,k1,k2,k3,k4,k5,tO.2 r0]
 ·simp [aI,aL,Xf.e,hd',stmE,k1,k2,k3,k4,k5,nD.1 r0,nD.2 r1]
 ·simp [aI,aL,Xf.e,hd',stmE,k1,k2,k3,k4,k5,rk,hm]
theorem NV (g:Fld) (s:List UInt8) (w:Int):a9 Φ 369 [.agg (Fld.c g),.iptr 2 [[.str s,.int .i64 w]] 0 0]=some (.val (.bool (decide (g.name=s)))):=by
 rw [aC rfl rfl];simp [yK,Fld.e]
theorem Zb (l:List Fld) (s:List UInt8) (w:Int) (hl:l.length<2^40):a9 Φ 402 [.slice 2 (l.map Fld.c),.func (.func 369) [] [.iptr 2 [[.str s,.int .i64 w]] 0 0]]=some (.val (.int .i64 (ix (fun g=>decide (g.name=s)) l 0))):=by
 rw [aC rfl rfl];simp [z8];refine (oD l.length (fun i e=>look 0 e=some (.slice 2 (l.map Fld.c))/\look 1 e=some (.func (.func 369) [] [.iptr 2 [[.str s,.int .i64 w]] 0 0])/\look 7 e=some (.int .i64 l.length)/\look 8 e=some (.int .i64 i))
  (fun i=>some (.val (.int .i64 (ix (fun g=>decide (g.name=s)) l i)))) ?_ ?_ 0 _ (Qc _) ?_).trans (by simp)
 ·rintro i e L hi hL ⟨h0,h1,h7,h8⟩ ih;have hw:=aH i (by omega);have hd:=NV l[i] s w;simp only [Fld.e] at hd;by_cases z:l[i].name=s
  ·rw [DG hi (by simpa using z)];rw [decide_eq_true z] at hd;simp [eE,Fld.e,h0,h1,h7,h8,hi,hd]
  ·rw [D7 hi (by simpa using z)];simp [eE,Fld.e,h0,h1,h7,h8,hi,hd,z,hw];exact ih _ ⟨by simp [h0],by simp [h1],by simp [h7],by simp⟩
 ·rintro e L hL ⟨h0,h1,h7,h8⟩;rw [DF];simp [eE,lP,h7,h8,hL]
 ·simp
theorem Wb (l:List Fld) (s:List UInt8) (w:Int) (hl:l.length<2^40):a9 Φ 368 [.slice 2 (l.map Fld.c),.func (.func 369) [] [.iptr 2 [[.str s,.int .i64 w]] 0 0]]=some (.val (.bool (l.any fun g=>decide (g.name=s)))):=by
 rw [aC rfl rfl];have h:=Zb l s w hl;have e:=DE (p:=fun g:Fld=>decide (g.name=s)) (l:=l);simp [yJ,h];rw [<- e]
def actG (l:List Fld) (i:Nat):Option Int:=(l[i]?).bind fun f=>er (fldE l i f)
theorem S7 (a:Action) (hn:a.name.length<2^40) (hl:a.params.length<2^40) (hf:∀f∈a.params,f.name.length<2^40):a9 Φ 313 [.agg (Action.c a)]=some (.val (.int .i64 (actD a))):=by
 rw [aC rfl rfl];have n1:=CO a.name hn;cases q1:idS a.name with
 | false=>rw [q1] at n1;simp [nY,Action.e,n1,actD,q1]
 | true=>
 rw [q1] at n1;by_cases z0:4<a.params.length
 ·simp [nY,Action.e,n1,actD,q1,z0]
 by_cases z1:12<a.body.length
 ·simp [nY,Action.e,n1,actD,q1,z0,z1]
 have hE:actD a=errO (fe (actG a.params) a.params.length 0):=by simp [actD,q1,z0,z1]<;>rfl
 rw [hE];simp [nY,Action.e,n1,z0,z1];refine eF a.params.length (fun _=>[]) 0 (fun i e=>look 1 e=some (.iptr 3 [[.str a.name,.slice 2 (a.params.map Fld.c),.slice 7 (a.body.map Xf.c)]] 0 0)/\look 22 e=some (.slice 2 (a.params.map Fld.c))/\look 23 e=some (.int .i64 a.params.length)/\look 24 e=some (.int .i64 i))
  (fun i=>some (Rt.val (.int .i64 (errO (fe (actG a.params) a.params.length i))))) ?_ ?_ 0 _ 0 (Qc _) (Qb _) ?_
 ·rintro i e n L hi hL _ ⟨h1,h22,h23,h24⟩ ih;have hw:=aH i (by omega);have nf:=CO a.params[i].name (hf _ (Qd hi));have hi':i<=a.params.length:=by omega
  have hc:=Wb (a.params.take i) a.params[i].name a.params[i].Yc (by simp;omega);rw [show (a.params.take i).any (fun g=>decide (g.name=a.params[i].name))=dupN Fld.name a.params i a.params[i] from rfl,CG] at hc;cases p1:idS a.params[i].name with
  | false=>
   rw [p1] at nf;rw [bX (x:=6) hi (by simp [actG,hi,fldE,p1,er])];simp [bA,Fld.e,h22,h23,h24,hi,nf]
  | true=>
  rw [p1] at nf;by_cases w1:a.params[i].Yc<1
  ·rw [bX (x:=10) hi (by simp [actG,hi,fldE,p1,wBad,w1,er])];simp [bA,Fld.e,h22,h23,h24,hi,nf,w1]
  by_cases w2:32<a.params[i].Yc
  ·rw [bX (x:=10) hi (by simp [actG,hi,fldE,p1,wBad,w2,er])];simp [bA,Fld.e,h22,h23,h24,hi,nf,w1,w2]
  cases p3:dupN Fld.name a.params i a.params[i] with
  | true=>
   rw [p3] at hc;rw [bX (x:=7) hi (by simp [actG,hi,fldE,p1,wBad,w1,w2,p3,er])];simp [bA,Fld.e,h1,h22,h23,h24,hi,nf,w1,w2,hi',hc]
  | false=>
   rw [p3] at hc;rw [eW hi (by simp [actG,hi,fldE,p1,wBad,w1,w2,p3])];simp [bA,Fld.e,h1,h22,h23,h24,hi,nf,w1,w2,hi',hc,hw];exact ih _ _ (Qc _) ⟨by simp [h1],by simp [h22],by simp [h23],by simp⟩
 ·rintro e n L hL _ ⟨h1,h22,h23,h24⟩;rw [iQ];simp [bA,l6,h23,h24,hL]
 ·simp
def GQ (p:Prg) (a:Action) (k:Nat):Option (Int×Int):=(a.body[k]?).bind fun s=>if stmE p a.params s=0 then none else some ((k:Int),stmE p a.params s)
theorem S8 (p:Prg) (f:PrgS p) (i:Int):a9 Φ 218 [.agg (Prg.c p),.int .i64 i]=some (.val (.tup [.int .i64 (actE p i).1,.int .i64 (actE p i).2])):=by
 rw [aC rfl rfl];by_cases i0:i<0
 ·simp [nU,Prg.e,i0,actE,iC i0]
 by_cases i1:(p.Xx.length:Int)<=i
 ·simp [nU,Prg.e,i0,i1,actE,iK i1]
 obtain ⟨k,rfl⟩:∃k:Nat,i=k:=⟨i.toNat,by omega⟩;have hk:k<p.Xx.length:=by omega
 have hm:=Qd hk;have hd:=S7 p.Xx[k] (f.an _ hm) (f.ap _ hm) (f.apn _ hm);simp only [Action.e] at hd;by_cases z:actD p.Xx[k]=0
 rotate_left
 ·simp [nU,Prg.e,Action.e,hk,Qf.2 hk,hd,z,actE]
 rw [z] at hd;have hE:actE p k=(fe (GQ p p.Xx[k]) p.Xx[k].body.length 0).getD (0,0):=by simp [actE,hk,z]<;>rfl
 rw [hE];simp [nU,Prg.e,Action.e,hk,Qf.2 hk,hd];have hb:=f.ab _ hm;refine eF p.Xx[k].body.length (fun _=>[]) 0 (fun i e=>look 7 e=some (.iptr 10 [scC p p.Xx[k].params] 0 0)/\look 35 e=some (.slice 7 (p.Xx[k].body.map Xf.c))/\look 36 e=some (.int .i64 p.Xx[k].body.length)/\look 37 e=some (.int .i64 i))
  (fun i=>some (Rt.val (.tup [.int .i64 ((fe (GQ p p.Xx[k]) p.Xx[k].body.length i).getD (0,0)).1,.int .i64 ((fe (GQ p p.Xx[k]) p.Xx[k].body.length i).getD (0,0)).2]))) ?_ ?_ 0 _ _ (Qc _) (Qc _) ?_
 ·rintro i e n L hi hL _ ⟨h7,h35,h36,h37⟩ ih;have hw:=aH i (by omega);have hs:=UI p p.Xx[k].params p.Xx[k].body[i];simp only [Xf.e,aL] at hs;rw [aL] at h7;by_cases y:stmE p p.Xx[k].params p.Xx[k].body[i]=0
  ·rw [y] at hs;rw [eW hi (by simp [GQ,hi,y])];simp [dL,Xf.e,h7,h35,h36,h37,hi,hs,hw];exact ih _ _ (Qc _) ⟨by simp [h7,aL],by simp [h35],by simp [h36],by simp⟩
  ·rw [bX (x:=((i:Int),stmE p p.Xx[k].params p.Xx[k].body[i])) hi (by simp [GQ,hi,y])];simp [dL,Xf.e,h7,h35,h36,h37,hi,hs,y]
 ·rintro e n L hL _ ⟨h7,h35,h36,h37⟩;rw [iQ];simp [dL,kI,h36,h37,hL]
 ·simp [aL]
def AA (ar:List Int) (ps:List Fld) (i:Nat):Option Int:=match ar[i]?,ps[i]? with
  | some v,some f=>if fits v f.Yc then none else some 9
  | _,_=>none
theorem IM (p:Prg) (f:PrgS p) (c:Xb) (hc:c.args.length<2^40):a9 Φ 144 [.agg (Prg.c p),.agg (Xb.c c)]=some (.val (.int .i64 (iL p c))):=by
 rw [aC rfl rfl];by_cases i0:c.Xy<0
 ·simp [nP,Prg.e,Xb.e,i0,iL,iC i0]
 by_cases i1:(p.Xx.length:Int)<=c.Xy
 ·simp [nP,Prg.e,Xb.e,i0,i1,iL,iK i1]
 obtain ⟨k,hk0⟩:∃k:Nat,c.Xy=k:=⟨c.Xy.toNat,by omega⟩;have hk:k<p.Xx.length:=by omega
 by_cases z:c.args.length=p.Xx[k].params.length
 rotate_left
 ·simp [nP,Prg.e,Xb.e,Action.e,hk0,hk,Qf.2 hk,iL,z]
 have hE:iL p c=errO (fe (AA c.args p.Xx[k].params) c.args.length 0):=by simp [iL,hk0,hk,z]<;>rfl
 rw [hE];simp [nP,Prg.e,Xb.e,Action.e,hk0,hk,Qf.2 hk,z];rw [<- z];refine oD c.args.length (fun i e=>look 5 e=some (.slice 2 (p.Xx[k].params.map Fld.c))/\look 33 e=some (.slice 1 (c.args.map c32))/\look 34 e=some (.int .i64 c.args.length)/\look 35 e=some (.int .i64 i))
  (fun i=>some (Rt.val (.int .i64 (errO (fe (AA c.args p.Xx[k].params) c.args.length i))))) ?_ ?_ 0 _ (Qc _) ?_
 ·rintro i e L hi hL ⟨h5,h33,h34,h35⟩ ih;have hw:=aH i (by omega);have hi2:i<p.Xx[k].params.length:=by omega
  have hf:=D6 c.args[i] p.Xx[k].params[i].Yc;cases y:fits c.args[i] p.Xx[k].params[i].Yc with
  | true=>
   rw [y] at hf;rw [eW hi (by simp [AA,hi,hi2,y])];simp [dH,Fld.e,c32,h5,h33,h34,h35,hi,hi2,hf,hw];exact ih _ ⟨by simp [h5],by simp [h33],by simp [h34],by simp⟩
  | false=>
   rw [y] at hf;rw [bX (x:=9) hi (by simp [AA,hi,hi2,y])];simp [dH,Fld.e,c32,h5,h33,h34,h35,hi,hi2,hf]
 ·rintro e L hL ⟨h5,h33,h34,h35⟩;rw [iQ];simp [dH,jZ,h34,h35,hL]
 ·simp [z]
@[simp] theorem Sj (O:List (Nat×AO)) (n id:Nat):DN ⟨O,n⟩ (.map id)=match look id O with
  | some (.map es)=>some es
  | _=>none:=by simp only [DN,AH.get]<;>rfl
@[simp] theorem kdOk_i (k:IntKind) (x:Int):kdOk .i (.int k x)=true:=by simp [kdOk]
@[simp] theorem kdOk_s (x:List UInt8):kdOk .s (.str x)=true:=by simp [kdOk]
def setM (l:List Int):List (AV×AV):=l.map fun a=>(.int .i64 a,.bool true)
def setS (l:List (List UInt8)):List (AV×AV):=l.map fun a=>(.str a,.bool true)
theorem Bj (k:Int):∀l:List Int,iM .i (.int .i64 k) (setM l)=some (if l.contains k then some (.bool true) else none)
 | []=>by simp [setM,iM]
 | a::l=>by
  have ih:=Bj k l;unfold setM at ih ⊢;by_cases h:k=a
  ·subst h;simp [iM]
  ·simp [iM,h,ih]
theorem Ld (k:Int):∀l:List Int,l.contains k=false->putA .i (.int .i64 k) (.bool true) (setM l)=some (setM (l++[k]))
 | [],_=>by simp [setM,putA]
 | a::l,h=>by
  simp only [List.contains_cons,AG,beq_eq_false_iff_ne,ne_eq] at h;have ih:=Ld k l h.2;unfold setM at ih ⊢;simp [putA,h.1,ih]
theorem Jh (k:List UInt8):∀l:List (List UInt8),iM .s (.str k) (setS l)=some (if l.contains k then some (.bool true) else none)
 | []=>by simp [setS,iM]
 | a::l=>by
  have ih:=Jh k l;unfold setS at ih ⊢;by_cases h:k=a
  ·subst h;simp [iM]
  ·simp [iM,h,ih]
theorem Le (k:List UInt8):∀l:List (List UInt8),l.contains k=false->putA .s (.str k) (.bool true) (setS l)=some (setS (l++[k]))
 | [],_=>by simp [setS,putA]
 | a::l,h=>by
  simp only [List.contains_cons,AG,beq_eq_false_iff_ne,ne_eq] at h;have ih:=Le k l h.2;unfold setS at ih ⊢;simp [putA,h.1,ih]
theorem OK (l:List Fld) (i:Int):a9 Φ 273 [.slice 2 (l.map Fld.c),.int .i64 i]=some (.val (.agg (match at? l i with | some f=>Fld.c f | none=>[.str [],.int .i64 0]))):=by
 rw [aC rfl rfl];by_cases i0:i<0
 ·simp [pM,i0,iC i0]
 by_cases i1:(l.length:Int)<=i
 ·simp [pM,i0,i1,iK i1]
 obtain ⟨k,rfl⟩:∃k:Nat,i=k:=⟨i.toNat,by omega⟩;have hk:k<l.length:=by omega
 simp [pM,hk,Qf.2 hk,Fld.e]
theorem OL (l:List Xi) (i:Int):a9 Φ 350 [.slice 2 (l.map Xi.c),.int .i64 i]=some (.val (.agg (match at? l i with | some f=>Xi.c f | none=>[.str [],.slice 2 []]))):=by
 rw [aC rfl rfl];by_cases i0:i<0
 ·simp [pU,i0,iC i0]
 by_cases i1:(l.length:Int)<=i
 ·simp [pU,i0,i1,iK i1]
 obtain ⟨k,rfl⟩:∃k:Nat,i=k:=⟨i.toNat,by omega⟩;have hk:k<l.length:=by omega
 simp [pU,hk,Qf.2 hk,Xi.e]
def AD (p:Prg) (h:Int):List Fld:=((if h= -1 then some p.Xn else (at? p.Xo h).map (·.Xz))).getD []
theorem MJ (p:Prg) (h:Int):a9 Φ 274 [.agg (Prg.c p),.int .i64 h]=some (.val (.slice 2 ((AD p h).map Fld.c))):=by
 rw [aC rfl rfl];by_cases hm:h= -1
 ·simp [pN,Prg.e,hm,AD]
 have ha:=OL p.Xo h;cases q:at? p.Xo h with
 | none=>
  rw [q] at ha;simp [pN,Prg.e,hm,AD,ha,q]
 | some x=>
  rw [q] at ha;simp only [Xi.e] at ha;simp [pN,Prg.e,hm,AD,ha,q]
theorem MB (p:Prg) (h i:Int):decl p h i=(at? (AD p h) i).map (·.Yc):=by
 unfold decl AD;cases (if h= -1 then some p.Xn else (at? p.Xo h).map (·.Xz)) with
 | some l=>rfl
 | none=>
  have:at? ([]:List Fld) i=none:=by unfold at?;split<;>simp
  simp [this]
theorem DI (p:Prg) (h i:Int):a9 Φ 172 [.agg (Prg.c p),.agg [.int .i64 h,.int .i64 i]]=some (.val (.int .i64 (wid p h i))):=by
 rw [aC rfl rfl];have hf:=MJ p h;have ha:=OK (AD p h) i;have hd:=MB p h i;simp only [Prg.e] at hf;cases q:at? (AD p h) i with
 | none=>
  rw [q] at ha hd;have hm:=jI 0;rw [show bF 0=0 from rfl] at hm;simp [pE,Prg.e,hf,ha,hm,wid,hd]
 | some f=>
  rw [q] at ha hd;simp only [Fld.e] at ha;have hm:=jI f.Yc;cases w:wBad f.Yc with
  | true=>
   rw [show bF f.Yc=0 by simp [bF,w]] at hm;simp [pE,Prg.e,hf,ha,hm,wid,hd,w]
  | false=>
   have:¬bF f.Yc=0:=by
    obtain ⟨w1,w2⟩:=wBad_false.1 w;have:(2:Int)^1<=2^f.Yc.toNat:=by
     have:=uD (n:=2) (by omega) (show 1<=f.Yc.toNat by omega)
     exact_mod_cast this
    simp only [bF,w];simp;omega
   simp [pE,Prg.e,hf,ha,hm,wid,hd,w,this]
theorem OC (p:Prg) (h i:Int):0<=wid p h i/\wid p h i<=32:=by
 unfold wid;split
 ·rename_i w _;cases q:wBad w with
  | true=>simp
  | false=>have:=wBad_false.1 q;simp;omega
 ·simp
def keyG (p:Prg) (x:Tbl) (i:Nat):Option (Int×Int):=(x.keys[i]?).bind fun k=>
 if wid p k.field.header k.field.field=0 then some ((i:Int),8) else if k.kind=1\/k.kind=2\/k.kind=3 then none else some ((i:Int),11)
def qI (p:Prg) (x:Tbl):Int×Int:=if 1<x.keys.countP (fun k=>decide (k.kind=2)) then (-2,7) else if 64<(kWid p x).sum then (-2,10) else (0,0)
theorem HT (p:Prg) (x:Tbl):∀i,i<=x.keys.length->0<=((kWid p x).take i).sum/\((kWid p x).take i).sum<=32*i:=by
 intro i
 induction i with
 | zero=>intro _;simp
 | succ i ih=>
  intro hi;have:=ih (by omega);have hl:i<(kWid p x).length:=by simp [kWid];omega
  rw [Qh hl,E4,DX];have hr:=OC p x.keys[i].field.header x.keys[i].field.field;have he:(kWid p x)[i]=wid p x.keys[i].field.header x.keys[i].field.field:=by simp [kWid]
  rw [he];omega
theorem OY (p:Prg) (x:Tbl) (hl:x.keys.length<2^40):a9 Φ 238 [.agg (Prg.c p),.agg (Tbl.c x)]=some (.val (.tup [.int .i64 (qH p x).1,.int .i64 (qH p x).2])):=by
 rw [aC rfl rfl];have hE:qH p x=(fe (keyG p x) x.keys.length 0).getD (qI p x):=by
  unfold qH keyE;show (match fe (keyG p x) x.keys.length 0 with | some e=>e | none=>qI p x)=_;cases fe (keyG p x) x.keys.length 0<;>rfl
 rw [hE];simp [wF,Prg.e,Tbl.e];refine eF x.keys.length (fun _=>[]) 0 (fun i e=>look 2 e=some (.iptr 9 [Prg.c p] 0 0)/\look 6 e=some (.int .i64 ((x.keys.take i).countP fun k=>decide (k.kind=2):Nat))/\look 7 e=some (.int .i64 ((kWid p x).take i).sum)/\look 12 e=some (.slice 3 (x.keys.map Xk.c))/\look 13 e=some (.int .i64 x.keys.length)/\look 14 e=some (.int .i64 i))
  (fun i=>some (Rt.val (.tup [.int .i64 ((fe (keyG p x) x.keys.length i).getD (qI p x)).1,.int .i64 ((fe (keyG p x) x.keys.length i).getD (qI p x)).2]))) ?_ ?_ 0 _ 0 (Qc _) (Qb _) ?_
 ·rintro i e n L hi hL _ ⟨h2,h6,h7,h12,h13,h14⟩ ih;have hw:=aH i (by omega);have hv:=DI p x.keys[i].field.header x.keys[i].field.field;simp only [Prg.e] at hv;rw [Prg.e] at h2;by_cases z:wid p x.keys[i].field.header x.keys[i].field.field=0
  ·rw [z] at hv;rw [bX (x:=((i:Int),8)) hi (by simp [keyG,hi,z])];simp [aQ,Xk.e,h2,h12,h13,h14,hi,hv]
  have hs:=HT p x (i+1) (by omega);have hs0:=HT p x i (by omega);have he:((kWid p x).take (i+1)).sum=((kWid p x).take i).sum+wid p x.keys[i].field.header x.keys[i].field.field:=by
   have hl:i<(kWid p x).length:=by simp [kWid];omega
   rw [Qh hl,E4,DX];congr 1;simp [kWid]
  have hw7:IntKind.wrap .i64 (((kWid p x).take i).sum+wid p x.keys[i].field.header x.keys[i].field.field)=((kWid p x).take (i+1)).sum:=by rw [<- he];exact cU
  have hc:(x.keys.take (i+1)).countP (fun k=>decide (k.kind=2))=(x.keys.take i).countP (fun k=>decide (k.kind=2))+if x.keys[i].kind=2 then 1 else 0:=by
   rw [Qh hi,List.countP_append];congr 1;simp [List.countP_cons]
  have hcl:(x.keys.take i).countP (fun k=>decide (k.kind=2))<=i:=by
   have:=List.countP_le_length (l:=x.keys.take i) (p:=fun k=>decide (k.kind=2));simp at this;omega
  have hw6:IntKind.wrap .i64 (((x.keys.take i).countP (fun k=>decide (k.kind=2)):Nat)+1:Int)=(((x.keys.take i).countP (fun k=>decide (k.kind=2))+1:Nat):Int):=cU;by_cases k2:x.keys[i].kind=2
  ·rw [eW hi (by simp [keyG,hi,z,k2])];rw [a8 k2] at hc;simp [aQ,Xk.e,h2,h6,h7,h12,h13,h14,hi,hv,z,k2,hw7,hw6,hw];exact ih _ _ (Qc _) ⟨by simp [h2,Prg.e],by simp [hc],by simp,by simp [h12],by simp [h13],by simp⟩
  rw [QA k2] at hc;by_cases k1:x.keys[i].kind=1
  ·rw [eW hi (by simp [keyG,hi,z,k1])];simp [aQ,Xk.e,h2,h7,h12,h13,h14,hi,hv,z,k1,hw7,hw];exact ih _ _ (Qc _) ⟨by simp [h2,Prg.e],by simp [hc,h6],by simp,by simp [h12],by simp [h13],by simp⟩
  by_cases k3:x.keys[i].kind=3
  ·rw [eW hi (by simp [keyG,hi,z,k3])];simp [aQ,Xk.e,h2,h7,h12,h13,h14,hi,hv,z,k3,hw7,hw];exact ih _ _ (Qc _) ⟨by simp [h2,Prg.e],by simp [hc,h6],by simp,by simp [h12],by simp [h13],by simp⟩
  ·rw [bX (x:=((i:Int),11)) hi (by simp [keyG,hi,z,k1,k2,k3])];simp [aQ,Xk.e,h2,h12,h13,h14,hi,hv,z,k1,k2,k3]
 ·rintro e n L hL _ ⟨h2,h6,h7,h12,h13,h14⟩;rw [iQ];have ht:(kWid p x).take x.keys.length=kWid p x:=by rw [Qo];simp [kWid]
  rw [ht] at h7;rw [iS] at h6;by_cases y1:1<x.keys.countP (fun k=>decide (k.kind=2))
  ·simp [aQ,dM,h6,h13,h14,hL,qI,y1]
  by_cases y2:64<(kWid p x).sum
  ·simp [aQ,dM,h6,h7,h13,h14,hL,qI,y1,y2]
  ·simp [aQ,dM,h6,h7,h13,h14,hL,qI,y1,y2]
 ·simp [Prg.e]
def qW (p:Prg) (x:Tbl) (i:Nat):Option Int:=(x.Xx[i]?).bind fun a=>if a<0\/(p.Xx.length:Int)<=a then some (8:Int) else if (x.Xx.take i).contains a then some 7 else none
def rI (p:Prg) (x:Tbl):Int:=if x.Xx.contains x.Yb.Xy then iL p x.Yb else 8
theorem Lj (p:Prg) (x:Tbl):A8 p x=(fe (qW p x) x.Xx.length 0).getD (rI p x):=by
 unfold A8;show (match fe (qW p x) x.Xx.length 0 with | some e=>e | none=>rI p x)=_;cases fe (qW p x) x.Xx.length 0<;>rfl
theorem RQ (p:Prg) (f:PrgS p) (x:Tbl) (hl:x.Xx.length<2^40) (hg:x.Yb.args.length<2^40):a9 Φ 239 [.agg (Prg.c p),.agg (Tbl.c x)]=some (.val (.int .i64 (A8 p x))):=by
 rw [aC rfl rfl,Lj];simp [wG,Prg.e,Tbl.e];refine zO x.Xx.length (fun i e H=>look 2 e=some (.iptr 9 [Prg.c p] 0 0)/\look 3 e=some (.iptr 6 [Tbl.c x] 0 0)/\look 5 e=some (.map 0)/\look 10 e=some (.slice 1 (x.Xx.map cI))/\look 11 e=some (.int .i64 x.Xx.length)/\look 12 e=some (.int .i64 i)/\
   H=⟨[(0,.map (setM (x.Xx.take i)))],1⟩)
  (fun i=>some (Rt.val (.int .i64 ((fe (qW p x) x.Xx.length i).getD (rI p x))))) ?_ ?_ 0 _ _ (Qc _) ?_
 ·rintro i e _ L hi hL ⟨h2,h3,h5,h10,h11,h12,rfl⟩ ih;have hw:=aH i (by omega);rw [Prg.e] at h2;by_cases z0:x.Xx[i]<0
  ·rw [bX (x:=8) hi (by simp [qW,hi,z0])];simp [b9,cI,h10,h11,h12,hi,z0]
  by_cases z1:(p.Xx.length:Int)<=x.Xx[i]
  ·rw [bX (x:=8) hi (by simp [qW,hi,z0,z1])];simp [b9,cI,h2,h10,h11,h12,hi,z0,z1]
  have hfnd:=Bj x.Xx[i] (x.Xx.take i);cases q:(x.Xx.take i).contains x.Xx[i] with
  | true=>
   rw [q] at hfnd;rw [bX (x:=7) hi (by simp only [qW,Qa hi,fB];rw [QA (by omega),q];rfl)];simp [b9,cI,h2,h5,h10,h11,h12,hi,z0,z1,hfnd]
  | false=>
   rw [q] at hfnd;have hput:=Ld x.Xx[i] (x.Xx.take i) q;rw [<- Qh hi] at hput;rw [eW hi (by simp only [qW,Qa hi,fB];rw [QA (by omega),q];rfl)];simp [b9,cI,h2,h5,h10,h11,h12,hi,z0,z1,hfnd,hput,hw];exact ih _ _ ⟨by simp [h2,Prg.e],by simp [h3],by simp [h5],by simp [h10],by simp [h11],by simp,rfl⟩
 ·rintro e _ L hL ⟨h2,h3,h5,h10,h11,h12,rfl⟩;rw [iQ,iS];have hfnd:=Bj x.Yb.Xy x.Xx;have hc:=IM p f x.Yb hg;simp only [Prg.e,Xb.e] at hc;rw [Prg.e] at h2;rw [Tbl.e] at h3;cases q:x.Xx.contains x.Yb.Xy with
  | true=>
   rw [q] at hfnd;rw [show rI p x=iL p x.Yb by simp only [rI,q];rfl];simp [b9,fY,h2,h3,h5,h11,h12,hL,hfnd,hc]
  | false=>
   rw [q] at hfnd;rw [show rI p x=8 by simp only [rI,q];rfl];simp [b9,fY,h3,h5,h11,h12,hL,hfnd]
 ·simp [Prg.e,Tbl.e,setM]
theorem Nv (p:Prg) (f:PrgS p) (t:Int):a9 Φ 139 [.agg (Prg.c p),.int .i64 t]=some (.val (.tup [.int .i64 (tblE p t).1,.int .i64 (tblE p t).2])):=by
 rw [aC rfl rfl];by_cases i0:t<0
 ·simp [dF,Prg.e,i0,tblE,iC i0]
 by_cases i1:(p.Xm.length:Int)<=t
 ·simp [dF,Prg.e,i0,i1,tblE,iK i1]
 obtain ⟨k,rfl⟩:∃k:Nat,t=k:=⟨t.toNat,by omega⟩;have hk:k<p.Xm.length:=by omega
 have hm:=Qd hk;have n1:=CO p.Xm[k].name (f.tn _ hm);have h1:=OY p p.Xm[k] (f.tk _ hm);have h2:=RQ p f p.Xm[k] (f.ta _ hm) (f.tg _ hm);simp only [Prg.e,Tbl.e] at h1 h2;cases q1:idS p.Xm[k].name with
 | false=>rw [q1] at n1;simp [dF,Prg.e,Tbl.e,hk,Qf.2 hk,n1,tblE,q1]
 | true=>
 rw [q1] at n1;by_cases z0:6<p.Xm[k].keys.length
 ·simp [dF,Prg.e,Tbl.e,hk,Qf.2 hk,n1,tblE,q1,z0]
 by_cases z1:16<p.Xm[k].Xx.length
 ·simp [dF,Prg.e,Tbl.e,hk,Qf.2 hk,n1,tblE,q1,z0,z1]
 by_cases z2:p.Xm[k].size<1
 ·simp [dF,Prg.e,Tbl.e,hk,Qf.2 hk,n1,tblE,q1,z0,z1,z2]
 by_cases z3:256<p.Xm[k].size
 ·simp [dF,Prg.e,Tbl.e,hk,Qf.2 hk,n1,tblE,q1,z0,z1,z2,z3]
 by_cases y1:(qH p p.Xm[k]).2=0
 rotate_left
 ·simp [dF,Prg.e,Tbl.e,hk,Qf.2 hk,n1,tblE,q1,z0,z1,z2,z3,h1,y1]
 rw [y1] at h1;by_cases y2:A8 p p.Xm[k]=0
 ·rw [y2] at h2;simp [dF,Prg.e,Tbl.e,hk,Qf.2 hk,n1,tblE,q1,z0,z1,z2,z3,h1,y1,h2,y2]
 ·simp [dF,Prg.e,Tbl.e,hk,Qf.2 hk,n1,tblE,q1,z0,z1,z2,z3,h1,y1,h2,y2]
end Go.Av
