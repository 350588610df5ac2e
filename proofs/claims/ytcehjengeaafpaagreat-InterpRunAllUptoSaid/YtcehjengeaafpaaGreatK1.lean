/-
 Identifiers: the program's answer.
-/
import Derived.Test.YtcehjengeaafpaaGreatFunsAM
set_option linter.all false
namespace Go.Av
set_option maxRecDepth 4000
abbrev uO (p:Prg) (r:List AV):List AV:= .str p.name::.slice 2 (p.Xo.map Xi.c)::.slice 2 (p.Xn.map Fld.c)::.slice 3 (p.Xl.map Xg.c)::.slice 3 (p.Xx.map Action.c)::.slice 6 (p.Xm.map Tbl.c)::.slice 7 (p.Xw.map Xc.c)::.slice 5 (p.Ya.map Xa.c)::.slice 1 (p.Xr.map cI)::r
def letC (c:Int):Bool:=(decide (97<=c)&&decide (c<=122)) || (decide (65<=c)&&decide (c<=90))
def digI (c:Int):Bool:=decide (48<=c)&&decide (c<=57)
def idC (c:Int):Bool:=letC c || (digI c || decide (c=95))
theorem pn (c:Int):a8 Φ 328 [.int .u8 c]=some (.val (.bool (letC c))):=by
 rw [aB rfl rfl];by_cases h1:97<=c<;>by_cases h2:c<=122<;>by_cases h3:65<=c<;>simp [HM,letC,h1,h2,h3]
theorem Z4 (c:Int):a8 Φ 331 [.int .u8 c]=some (.val (.bool (digI c))):=by
 rw [aB rfl rfl];by_cases h1:48<=c<;>simp [HQ,digI,h1]
theorem Ps (c:Int):a8 Φ 330 [.int .u8 c]=some (.val (.bool (idC c))):=by
 rw [aB rfl rfl];have h1:=pn c;have h2:=Z4 c;cases q1:letC c<;>cases q2:digI c<;>rw [q1] at h1<;>rw [q2] at h2<;>simp [HO,idC,h1,h2,q1,q2]
theorem Ag (s:List UInt8) (hs:s.length<2^40):a8 Φ 329 [.str s,.func (.func 330) [] []]=some (.val (a7 (s.takeWhile fun b=>idC b.toNat).length)):=by
 rw [aB rfl rfl];simp [HN];refine (dC s.length (fun i e=>look 0 e=some (.str s)/\look 1 e=some (.func (.func 330) [] [])/\look 5 e=some (a7 i))
  (fun i=>some (Rt.val (a7 (i+((s.drop i).takeWhile fun b=>idC b.toNat).length:Nat)))) ?_ ?_ 0 _ (Qc _) ?_).trans (by simp)
 ·rintro i e L hi hL ⟨h0,h1,h5⟩ ih;have hw:=aF i (by omega);have hc:=Ps (s[i].toNat:Int);rw [Qi hi];cases q:idC (s[i].toNat:Int) with
  | true=>
   rw [q] at hc;rw [show List.takeWhile (fun b:UInt8=>idC b.toNat) (s[i]::s.drop (i+1))=s[i]::List.takeWhile (fun b:UInt8=>idC b.toNat) (s.drop (i+1)) from List.takeWhile_cons_of_pos q];simp [gY,h0,h1,h5,hi,hc,hw];refine (ih _ ⟨by simp [h0],by simp [h1],by simp⟩).trans ?_;simp;omega
  | false=>
   rw [q] at hc;rw [show List.takeWhile (fun b:UInt8=>idC b.toNat) (s[i]::s.drop (i+1))=[] from List.takeWhile_cons_of_neg (by simp [q])];simp [gY,lR,h0,h1,h5,hi,hL,hc]
 ·rintro e L hL ⟨h0,h1,h5⟩;simp [gY,lR,h0,h5,hL]
 ·simp
def idS (s:List UInt8):Bool:=match s with
 | []=>false
 | c::_=>decide (s.length<=16)&&(letC c.toNat&&s.all fun b=>idC b.toNat)
theorem nv (p:UInt8->Bool):∀s:List UInt8,((s.takeWhile p).length=s.length)↔s.all p=true
 | []=>by simp
 | c::r=>by
  have:=nv p r;cases q:p c<;>simp [q];simpa using this
theorem PO {s:List UInt8} (h:0<s.length):idS s=(decide (s.length<=16)&&(letC s[0].toNat&&s.all fun b=>idC b.toNat)):=by
 cases s with
 | nil=>simp at h
 | cons c r=>rfl
theorem JE (s:List UInt8) (hs:s.length<2^40):a8 Φ 237 [.str s]=some (.val (.bool (idS s))):=by
 rw [aB rfl rfl];by_cases h0:s.length=0
 ·have:s=[]:=Qg h0;subst this;simp [vI,idS]
 have hp:0<s.length:=by omega
 rw [PO hp];by_cases h16:16<s.length
 ·simp [vI,h0,h16,Qf.2 h16]
 have hl:=pn (s[0].toNat:Int);cases q:letC (s[0].toNat:Int) with
 | false=>
  rw [q] at hl;simp [vI,h0,hp,h16,hl]
 | true=>
  rw [q] at hl;have he:=Ag s hs;have ht:=nv (fun b=>idC b.toNat) s;have e:(decide ((s.takeWhile fun b=>idC b.toNat).length=s.length))=(s.all fun b=>idC b.toNat):=by
   cases h:(s.all fun b=>idC b.toNat) with
   | true=>exact decide_eq_true (ht.2 h)
   | false=>exact decide_eq_false (fun h2=>by have:=ht.1 h2;rw [h] at this;cases this)
  simp [vI,h0,hp,h16,Nat.le_of_not_lt h16,hl,he,e]
theorem Fld.e (x:Fld):Fld.c x=[.str x.name,a7 x.Yc]:=by simp [Fld.c]
theorem Xd.e (x:Xd):Xd.c x=[a7 x.op,a7 x.n,a7 x.w]:=by simp [Xd.c]
theorem Xk.e (x:Xk):Xk.c x=[a7 x.field.header,a7 x.field.field,a7 x.kind]:=by simp [Xk.c]
theorem Xb.e (x:Xb):Xb.c x=[a7 x.Xy,.slice 1 (x.args.map c32)]:=by simp [Xb.c]
theorem Xj.e (x:Xj):Xj.c x=[.int .u32 x.value,.int .u32 x.Yd,a7 x.next]:=by simp [Xj.c]
theorem Action.e (x:Action):Action.c x=[.str x.name,.slice 2 (x.params.map Fld.c),.slice 7 (x.body.map Xf.c)]:=by simp [Action.c]
theorem Xi.e (x:Xi):Xi.c x=[.str x.name,.slice 2 (x.Xz.map Fld.c)]:=by simp [Xi.c]
theorem Xg.e (x:Xg):Xg.c x=[.str x.name,a7 x.Yc,a7 x.size]:=by simp [Xg.c]
theorem Xf.e (x:Xf):Xf.c x=[a7 x.kind,a7 x.dst.header,a7 x.dst.field,a7 x.Ye,a7 x.header,.slice 3 (x.index.map Xd.c),.slice 3 (x.value.map Xd.c)]:=by simp [Xf.c]
theorem Tbl.e (x:Tbl):Tbl.c x=[.str x.name,.slice 3 (x.keys.map Xk.c),.slice 1 (x.Xx.map cI),a7 x.Yb.Xy,.slice 1 (x.Yb.args.map c32),a7 x.size]:=by simp [Tbl.c]
theorem Xc.e (x:Xc):Xc.c x=[.str x.name,.slice 1 (x.extract.map cI),.bool x.select,a7 x.on.header,a7 x.on.field,.slice 3 (x.cases.map Xj.c),a7 x.Yb]:=by simp [Xc.c]
theorem Xa.e (k t:Int) (c:List Xd) (a b:List Xa):Xa.c (.mk k t c a b)=[a7 k,a7 t,.slice 3 (c.map Xd.c),.slice 5 (a.map Xa.c),.slice 5 (b.map Xa.c)]:=by simp [Xa.c,Xa.cs_eq]
theorem Prg.e (x:Prg):Prg.c x=[.str x.name,.slice 2 (x.Xo.map Xi.c),.slice 2 (x.Xn.map Fld.c),.slice 3 (x.Xl.map Xg.c),.slice 3 (x.Xx.map Action.c),.slice 6 (x.Xm.map Tbl.c),.slice 7 (x.Xw.map Xc.c),.slice 5 (x.Ya.map Xa.c),.slice 1 (x.Xr.map cI)]:=by simp [Prg.c]
def feF {G:Type} (f:Nat->Option G):Nat->Nat->Option G
 | 0,_=>none
 | n+1,i=>match f i with
  | some x=>some x
  | none=>feF f n (i+1)
def fe {G:Type} (f:Nat->Option G) (N i:Nat):Option G:=feF f (N - i) i
theorem aJ {G:Type} {f:Nat->Option G} {N i:Nat} {x:G} (hi:i<N) (h:f i=some x):fe f N i=some x:=by
 unfold fe;rw [show N - i=(N - (i+1))+1 by omega];simp [feF,h]
theorem bP {G:Type} {f:Nat->Option G} {N i:Nat} (hi:i<N) (h:f i=none):fe f N i=fe f N (i+1):=by
 unfold fe;rw [show N - i=(N - (i+1))+1 by omega];simp [feF,h]
theorem d6 {G:Type} {f:Nat->Option G} {N:Nat}:fe f N N=none:=by simp [fe,feF]
def er (e:Int):Option Int:=if e=0 then none else some e
@[simp] theorem er_zero:er 0=none:=by simp [er]
def errO:Option Int->Int
 | none=>0
 | some e=>e
@[simp] theorem a10:errO none=0:=by simp [errO]
@[simp] theorem a11 (e:Int):errO (some e)=e:=by simp [errO]
def at? {G:Type} (l:List G) (i:Int):Option G:=if i<0 then none else l[i.toNat]?
@[simp] theorem oV {G:Type} (l:List G) (i:Nat):at? l (i:Int)=l[i]? :=by
 unfold at?;rw [QA (by omega)];simp
theorem cY {G:Type} {l:List G} {i:Int} (h:i<0):at? l i=none:=by simp [at?,h]
theorem cW {G:Type} {l:List G} {i:Int} (h:(l.length:Int)<=i):at? l i=none:=by
 unfold at?;split
 ·rfl
 ·simp;omega
def wBad (w:Int):Bool:=decide (w<1) || decide (32<w)
def dupN {G:Type} (nm:G->List UInt8) (l:List G) (i:Nat) (x:G):Bool:=(l.take i).any fun y=>decide (nm y=nm x)
def fldE (l:List Fld) (i:Nat) (f:Fld):Int:=if idS f.name=false then 6 else if wBad f.Yc then 10 else if dupN Fld.name l i f then 7 else 0
def CQ (l:List Fld):Option Int:=fe (fun i=>(l[i]?).bind fun f=>er (fldE l i f)) l.length 0
def wSum (l:List Fld):Int:=(l.map (·.Yc)).sum
def hdrE (h:Xi):Int:=if idS h.name=false then 6 else if h.Xz.length=0 then 8 else if 12<h.Xz.length then 12 else
 match CQ h.Xz with
 | some e=>e
 | none=>if (wSum h.Xz) % 8=0 then 0 else 10
def regE (r:Xg):Int:=if idS r.name=false then 6 else if wBad r.Yc then 10 else if r.size<1\/64<r.size then 9 else 0
def decl (p:Prg) (h f:Int):Option Int:=(if h= -1 then some p.Xn else (at? p.Xo h).map (·.Xz)).bind fun l=>(at? l f).map (·.Yc)
def wid (p:Prg) (h f:Int):Int:=match decl p h f with
 | some w=>if wBad w then 0 else w
 | none=>0
def ari (op:Int):Int:=if 1<=op/\op<=4 then 0 else if 5<=op/\op<=8 then 1 else if 9<=op/\op<=16 then 2 else if op=17 then 3 else -1
def wide (w:Int):Int×Int:=if wBad w then (0,10) else (w,0)
def prim (p:Prg) (ps:List Fld) (x:Xd):Int×Int:=
 if x.op=1 then (if wBad x.w then (0,10) else if x.n<0\/2^x.w.toNat - 1<x.n then (0,9) else (x.w,0))
 else if x.op=2 then (match decl p x.n x.w with | some w=>wide w | none=>(0,8))
 else if x.op=3 then (match at? ps x.n with | some f=>wide f.Yc | none=>(0,8))
 else if (at? p.Xo x.n).isSome then (1,0) else (0,8)
def comb (x:Xd) (a b c:Int):Int×Int:=
 if x.op=6\/x.op=7 then (if x.n<0\/31<x.n then (0,9) else (a,0))
 else if x.op=8 then (if x.n<0 then (0,9) else if wBad x.w\/a - x.w<x.n then (0,10) else (x.w,0))
 else if x.op=14 then wide (a+b)
 else if x.op=17 then (if a≠1\/b≠c then (0,10) else (b,0))
 else if ari x.op=2/\a≠b then (0,10)
 else if x.op=15\/x.op=16 then (1,0) else (a,0)
def chk (p:Prg) (ps:List Fld) (l:List Xd):Nat->Nat->Except Int (Int×Nat)
 | 0,_=> .error 3
 | n+1,i=>match l[i]? with
  | none=> .error 3
  | some x=>
   if ari x.op<0 then .error 11
   else if ari x.op=0 then (if (prim p ps x).2=0 then .ok ((prim p ps x).1,i+1) else .error (prim p ps x).2)
   else match chk p ps l n (i+1) with
    | .error e=> .error e
    | .ok (a,i1)=>
     if ari x.op=1 then (if (comb x a 0 0).2=0 then .ok ((comb x a 0 0).1,i1) else .error (comb x a 0 0).2)
     else match chk p ps l n i1 with
      | .error e=> .error e
      | .ok (b,i2)=>
       if ari x.op=2 then (if (comb x a b 0).2=0 then .ok ((comb x a b 0).1,i2) else .error (comb x a b 0).2)
       else match chk p ps l n i2 with
        | .error e=> .error e
        | .ok (c,i3)=>if (comb x a b c).2=0 then .ok ((comb x a b c).1,i3) else .error (comb x a b c).2
def exE (p:Prg) (ps:List Fld) (l:List Xd):Int×Int:=
 if 24<l.length then (0,12) else match chk p ps l (l.length+1) 0 with
 | .error e=>(0,e)
 | .ok (w,i)=>if i<l.length then (0,4) else (w,0)
def valE (p:Prg) (ps:List Fld) (l:List Xd) (w:Int):Int:=if (exE p ps l).2=0 then (if (exE p ps l).1=w then 0 else 10) else (exE p ps l).2
def stmE (p:Prg) (ps:List Fld) (s:Xf):Int:=
 if s.kind=1 then (match decl p s.dst.header s.dst.field with
  | none=>8
  | some w=>valE p ps s.value w)
 else if s.kind=2\/s.kind=3 then (if (at? p.Xo s.header).isSome then 0 else 8)
 else if s.kind=4 then (match at? p.Xl s.Ye,decl p s.dst.header s.dst.field with
  | some r,some w=>if (exE p ps s.index).2=0 then (if w=r.Yc then 0 else 10) else (exE p ps s.index).2
  | _,_=>8)
 else if s.kind=5 then (match at? p.Xl s.Ye with
  | some r=>if (exE p ps s.index).2=0 then valE p ps s.value r.Yc else (exE p ps s.index).2
  | none=>8)
 else 11
def actD (a:Action):Int:=if idS a.name=false then 6 else if 4<a.params.length\/12<a.body.length then 12 else errO (CQ a.params)
def bodyE (p:Prg) (a:Action):Option (Int×Int):=fe (fun k=>(a.body[k]?).bind fun s=>if stmE p a.params s=0 then none else some ((k:Int),stmE p a.params s)) a.body.length 0
def actE (p:Prg) (i:Int):Int×Int:=match at? p.Xx i with
 | none=>(-1,8)
 | some a=>if actD a≠0 then (-1,actD a) else (bodyE p a).getD (0,0)
def fits (v w:Int):Bool:= !wBad w&&decide (v<2^w.toNat)
def nV (p:Prg) (c:Xb):Int:=match at? p.Xx c.Xy with
 | none=>8
 | some a=>if c.args.length≠a.params.length then 2 else errO (fe (fun i=>match c.args[i]?,a.params[i]? with
  | some v,some f=>if fits v f.Yc then none else some 9
  | _,_=>none) c.args.length 0)
def keyE (p:Prg) (x:Tbl):Option (Int×Int):=fe (fun i=>(x.keys[i]?).bind fun k=>
 if wid p k.field.header k.field.field=0 then some ((i:Int),8) else if k.kind=1\/k.kind=2\/k.kind=3 then none else some ((i:Int),11)) x.keys.length 0
def kWid (p:Prg) (x:Tbl):List Int:=x.keys.map fun k=>wid p k.field.header k.field.field
def yU (p:Prg) (x:Tbl):Int×Int:=match keyE p x with
 | some e=>e
 | none=>if 1<x.keys.countP (fun k=>decide (k.kind=2)) then (-2,7) else if 64<(kWid p x).sum then (-2,10) else (0,0)
def K6 (p:Prg) (x:Tbl):Int:=match fe (fun i=>(x.Xx[i]?).bind fun a=>if a<0\/(p.Xx.length:Int)<=a then some (8:Int) else if (x.Xx.take i).contains a then some 7 else none) x.Xx.length 0 with
 | some e=>e
 | none=>if x.Xx.contains x.Yb.Xy then nV p x.Yb else 8
def tblE (p:Prg) (t:Int):Int×Int:=match at? p.Xm t with
 | none=>(-1,8)
 | some x=>if idS x.name=false then (-1,6) else if 6<x.keys.length\/16<x.Xx.length then (-1,12) else if x.size<1\/256<x.size then (-1,9)
  else if (yU p x).2≠0 then yU p x else if K6 p x≠0 then (-3,K6 p x) else (0,0)
def oW (p:Prg) (s:Nat) (n:Int):Bool:=decide (n= -1) || decide (n= -2) || (decide ((s:Int)<n)&&decide (n<p.Xw.length))
def tD (p:Prg) (s:Nat) (x:Xc) (c:Xj):Int:=
 if fits c.value (wid p x.on.header x.on.field)=false\/fits c.Yd (wid p x.on.header x.on.field)=false then 9
 else if c.value.toNat&&& c.Yd.toNat≠c.value.toNat then 5
 else if oW p s c.next then 0 else 14
def stE (p:Prg) (s:Nat) (x:Xc):Int×Int:=
 if 4<x.extract.length\/8<x.cases.length then (-1,12)
 else if x.extract.any (fun h=>decide (h<0) || decide ((p.Xo.length:Int)<=h)) then (-1,8)
 else if x.select=true/\wid p x.on.header x.on.field=0 then (-1,8)
 else if x.select=false/\0<x.cases.length then (-1,11)
 else match fe (fun i=>(x.cases[i]?).bind fun c=>if tD p s x c=0 then none else some ((i:Int),tD p s x c)) x.cases.length 0 with
  | some e=>e
  | none=>if oW p s x.Yb then (0,0) else (-1,14)
def parE (p:Prg):Int×Int×Int:=
 if p.Xw.length=0 then (-1,-1,8) else if 12<p.Xw.length then (-1,-1,12)
 else (fe (fun s=>(p.Xw[s]?).bind fun x=>if idS x.name=false then some ((s:Int),(-1:Int),(6:Int)) else if dupN Xc.name p.Xw s x then some ((s:Int),-1,7)
  else if (stE p s x).2=0 then none else some ((s:Int),(stE p s x).1,(stE p s x).2)) p.Xw.length 0).getD (0,0,0)
def depE (p:Prg):Int×Int:=if 8<p.Xr.length then (-1,12) else
 (fe (fun i=>(p.Xr[i]?).bind fun h=>if h<0\/(p.Xo.length:Int)<=h then some ((i:Int),(8:Int)) else if (p.Xr.take i).contains h then some ((i:Int),7) else none) p.Xr.length 0).getD (0,0)
def Xa.kind:Xa->Int | .mk k _ _ _ _=>k
def Xa.table:Xa->Int | .mk _ t _ _ _=>t
def Xa.cond:Xa->List Xd | .mk _ _ c _ _=>c
def Xa.thn:Xa->List Xa | .mk _ _ _ a _=>a
def Xa.els:Xa->List Xa | .mk _ _ _ _ b=>b
mutual
def pre1:Xa->List Xa
 | .mk k t c a b=> .mk k t c a b::(pre a++pre b)
def pre:List Xa->List Xa
 | []=>[]
 | x::r=>pre1 x++pre r
end
mutual
def CV:Xa->Nat
 | .mk _ _ _ a b=>max (nest a) (nest b)
def nest:List Xa->Nat
 | []=>0
 | x::r=>max (1+CV x) (nest r)
end
def appl (x:Xa):Bool:=decide (x.kind=1) || decide (x.kind=3)
def nJ (p:Prg) (l:List Xa) (x:Xa):Int:=
 if x.kind=2 then (if (exE p [] x.cond).2=0 then (if (exE p [] x.cond).1=1 then 0 else 10) else (exE p [] x.cond).2)
 else if x.kind=1\/x.kind=3 then (if x.table<0\/(p.Xm.length:Int)<=x.table then 8
  else if l.any (fun y=>appl y&&decide (y.table=x.table)) then 7
  else if x.kind=1/\0<x.thn.length+x.els.length then 5 else 0)
 else 11
def ctlE (p:Prg):Int×Int:=if 24<(pre p.Ya).length then (-1,12) else if 6<nest p.Ya then (-1,14)
 else (fe (fun i=>((pre p.Ya)[i]?).bind fun x=>if nJ p ((pre p.Ya).take i) x=0 then none else some ((i:Int),nJ p ((pre p.Ya).take i) x)) (pre p.Ya).length 0).getD (0,0)
abbrev Dg:=Int×Int×Int×Int
def limD (p:Prg):Option Dg:=if idS p.name=false then some (6,0,0,0) else if 8<p.Xo.length then some (12,0,1,0) else if 4<p.Xl.length then some (12,0,3,0)
 else if 16<p.Xx.length then some (12,0,4,0) else if 12<p.Xm.length then some (12,0,5,0) else none
def yT (p:Prg) (i:Nat) (h:Xi):Int:=if hdrE h≠0 then hdrE h else if h.name=[109,101,116,97] then 6 else if dupN Xi.name p.Xo i h then 7 else 0
def hdrD (p:Prg):Option Dg:=fe (fun i=>(p.Xo[i]?).bind fun h=>if yT p i h=0 then none else some (yT p i h,1,(i:Int),0)) p.Xo.length 0
def sJ (i:Nat):Fld:=if i=0 then ⟨[105,110],8⟩ else if i=1 then ⟨[111,117,116],8⟩ else ⟨[100,114,111,112],1⟩
def metD (p:Prg):Option Dg:=if 12<p.Xn.length then some (12,2,0,0)
 else match fe (fun i=>(p.Xn[i]?).bind fun f=>if fldE p.Xn i f=0 then none else some (fldE p.Xn i f,(2:Int),(i:Int),(0:Int))) p.Xn.length 0 with
  | some d=>some d
  | none=>fe (fun i=>if p.Xn[i]? =some (sJ i) then none else some (5,2,(i:Int),0)) 3 0
def AD (p:Prg) (i:Nat) (r:Xg):Int:=if regE r≠0 then regE r else if dupN Xg.name p.Xl i r then 7 else 0
def regD (p:Prg):Option Dg:=fe (fun i=>(p.Xl[i]?).bind fun r=>if AD p i r=0 then none else some (AD p i r,3,(i:Int),0)) p.Xl.length 0
def vX (p:Prg):Option Dg:=fe (fun i=>(p.Xx[i]?).bind fun a=>if (actE p i).2≠0 then some ((actE p i).2,(4:Int),(i:Int),(actE p i).1) else if dupN Action.name p.Xx i a then some (7,4,(i:Int),0) else none) p.Xx.length 0
def tblD (p:Prg):Option Dg:=fe (fun i=>(p.Xm[i]?).bind fun a=>if (tblE p i).2≠0 then some ((tblE p i).2,(5:Int),(i:Int),(tblE p i).1) else if dupN Tbl.name p.Xm i a then some (7,5,(i:Int),0) else none) p.Xm.length 0
def floD (p:Prg):Option Dg:=if (parE p).2.2≠0 then some ((parE p).2.2,6,(parE p).1,(parE p).2.1) else if (ctlE p).2≠0 then some ((ctlE p).2,7,(ctlE p).1,0)
 else if (depE p).2≠0 then some ((depE p).2,8,(depE p).1,0) else none
def prgD (p:Prg):Dg:=((((((limD p).or (hdrD p)).or (metD p)).or (regD p)).or (vX p)).or (tblD p)).or (floD p)|>.getD (0,0,0,0)
def bC (w:Int):Int:=if wBad w then 0 else 2^w.toNat - 1
theorem wBad_false {w:Int}:wBad w=false↔1<=w/\w<=32:=by
 simp [wBad]
theorem wr1:IntKind.wrap .i64 1=1:=by decide
theorem wr2:IntKind.wrap .i64 2=2:=by decide
theorem wr3:IntKind.wrap .i64 3=3:=by decide
theorem UG (w:Int):a8 Φ 263 [.slice 1 [[a7 w]]]=some (.val (.bool (!wBad w))):=by
 rw [aB rfl rfl];by_cases h1:w<1
 ·simp [sY];rw [aT];simp [aH,h1,wBad]
 by_cases h2:32<w
 ·simp [sY];rw [aT];simp [aH,h1,h2,wBad]
 simp [sY];rw [aT];simp [aH,h1,h2,wr1];rw [aT];simp [gP,h1,h2,wBad]
theorem Dl:∀k:Nat,k<33->1<=k->ishr .u32 4294967295 (IntKind.wrap .i64 (32 - (k:Int)))=2^k - 1/\0<=IntKind.wrap .i64 (32 - (k:Int)):=by decide
theorem nZ (w:Int):a8 Φ 169 [a7 w]=some (.val (.int .u32 (bC w))):=by
 rw [aB rfl rfl];have hv:=UG w;cases h:wBad w with
 | true=>
  rw [h] at hv;simp [B7,hv,bC,h]
 | false=>
  rw [h] at hv;obtain ⟨h1,h2⟩:=wBad_false.1 h;obtain ⟨k,rfl⟩:∃k:Nat,w=k:=⟨w.toNat,by omega⟩;obtain ⟨e1,e2⟩:=Dl k (by omega) (by omega);simp [B7,hv,bC,h,e2];exact e1
theorem NH (v w:Int):a8 Φ 241 [.int .u32 v,a7 w]=some (.val (.bool (fits v w))):=by
 rw [aB rfl rfl];have hv:=UG w;have hm:=nZ w;cases h:wBad w with
 | true=>
  rw [h] at hv;simp [BI,hv,fits,h]
 | false=>
  rw [h] at hv;have e:(v<=bC w)↔v<2^w.toNat:=by
   simp only [bC,h];simp;omega
  simp [BI,hv,hm,fits,h,e]
theorem iT (b:Bool) (c:Int):a8 Φ 204 [.bool b,a7 c]=some (.val (a7 (if b then c else 0))):=by
 rw [aB rfl rfl];cases b<;>simp [G1]
theorem Gw (r:Xg):a8 Φ 236 [.agg (Xg.c r)]=some (.val (.bool (!(decide (r.size<1) || decide (64<r.size))))):=by
 rw [aB rfl rfl];by_cases h1:r.size<1<;>by_cases h2:64<r.size<;>simp [GF,Xg.e,h1,h2,uQ.2,iG.1]
 all_goals omega
theorem Ms (r:Xg) (hs:r.name.length<2^40):a8 Φ 215 [.agg (Xg.c r)]=some (.val (a7 (regE r))):=by
 rw [aB rfl rfl];have h1:=JE r.name hs;have h2:=nZ r.Yc;have h3:=Gw r;rw [Xg.e] at h3;cases q1:idS r.name with
 | false=>rw [q1] at h1;simp [sT,Xg.e,h1,regE,q1]
 | true=>
  rw [q1] at h1;cases q2:wBad r.Yc with
  | true=>simp [sT,Xg.e,h1,h2,regE,q1,q2,bC]
  | false=>
   obtain ⟨w1,w2⟩:=wBad_false.1 q2;have:¬(2:Int)^r.Yc.toNat - 1=0:=by
    have:(2:Int)^1<=2^r.Yc.toNat:=by
     have:=AM (n:=2) (by omega) (show 1<=r.Yc.toNat by omega)
     exact_mod_cast this
    omega
   by_cases z1:r.size<1
   ·simp [z1] at h3;simp [sT,Xg.e,h1,h2,h3,regE,q1,q2,bC,this,z1]
   by_cases z2:64<r.size
   ·simp [z1,z2] at h3;simp [sT,Xg.e,h1,h2,h3,regE,q1,q2,bC,this,z1,z2]
   simp [z1,z2] at h3;simp [sT,Xg.e,h1,h2,h3,regE,q1,q2,bC,this,z1,z2]
theorem fq {l:List Fld} {i:Nat} (h:i<l.length):wSum (l.take (i+1))=wSum (l.take i)+l[i].Yc:=by
 unfold wSum;rw [Qh h,yZ,MA,List.map_singleton,M8]
@[simp] theorem zt {G I:Type} (f:G->I) (l:List G):(l.map f).take l.length=l.map f:=by
 rw [Qo];simp
theorem fu (h:Xi) (hl:h.Xz.length<2^40):a8 Φ 311 [.agg (Xi.c h)]=some (.val (.slice 1 (h.Xz.map fun f=>[a7 f.Yc]))):=by
 rw [aB rfl rfl];simp [HI,Xi.e];refine (cV h.Xz.length (fun i=>[(0,.tok 1 i)]) 1 (fun i e=>look 3 e=some (.app 1 ((h.Xz.map fun f=>[a7 f.Yc]).take i) 0)/\look 7 e=some (.slice 2 (h.Xz.map Fld.c))/\look 8 e=some (a7 h.Xz.length)/\look 9 e=some (a7 i))
  (fun i=>some (.val (.slice 1 (h.Xz.map fun f=>[a7 f.Yc])))) ?_ ?_ 0 _ 1 (Qc _) (Qb _) ?_).trans (by simp)
 ·rintro i e n L hi hL hn ⟨h3,h7,h8,h9⟩ ih;have hw:=aF i (by omega);have hn0:¬(0=n):=by omega
  have hn1:¬(n=0):=by omega
  have hm:min i h.Xz.length=i:=by omega
  have hb:(i+1)*8<=70368744177664:=by omega
  simp [lO,Fld.e,h3,h7,h8,h9,hi,hw,hn0,hm,hb];exact ih _ _ (by omega) ⟨by simp [EB hi],by simp [h7],by simp [h8],by simp⟩
 ·rintro e n L hL hn ⟨h3,h7,h8,h9⟩;simp [lO,rE,h3,h8,h9,hL]
 ·simp
theorem R3 (l:List Int) (hl:l.length<2^40) (hb:∀x∈l,1<=x/\x<=32):a8 Φ 310 [.slice 1 (l.map fun x=>[a7 x])]=some (.val (a7 l.sum)):=by
 rw [aB rfl rfl];simp [HH];have key:∀i,i<=l.length->0<=(l.take i).sum/\(l.take i).sum<=32*i:=by
  intro i
  induction i with
  | zero=>intro _;simp
  | succ i ih=>
   intro hi;have:=ih (by omega);have hx:=hb _ (Qd (show i<l.length by omega));rw [Qh (by omega),MA,M8];omega
 refine (dC l.length (fun i e=>look 3 e=some (a7 (l.take i).sum)/\look 6 e=some (.slice 1 (l.map fun x=>[a7 x]))/\look 7 e=some (a7 l.length)/\look 8 e=some (a7 i))
  (fun i=>some (.val (a7 l.sum))) ?_ ?_ 0 _ (Qc _) ?_).trans (by simp)
 ·rintro i e L hi hL ⟨h3,h6,h7,h8⟩ ih;have hw:=aF i (by omega);have k1:=key (i+1) (by omega);have e1:(l.take (i+1)).sum=(l.take i).sum+l[i]:=by rw [Qh hi,MA,M8]
  have hw2:IntKind.wrap .i64 ((l.take i).sum+l[i])=(l.take (i+1)).sum:=by rw [<- e1];exact aQ
  simp [lK,h3,h6,h7,h8,hi,hw,hw2];exact ih _ ⟨by simp,by simp [h6],by simp [h7],by simp⟩
 ·rintro e L hL ⟨h3,h6,h7,h8⟩;simp [lK,rD,h3,h7,h8,hL]
 ·simp
def Any (h:AH):Prop:=Tail h.objs h.next
theorem Any.app {T:List (Nat×AO)} {n:Nat} {o:AO} (h:Any ⟨T,n⟩):Any ⟨T++[(n,o)],n+1⟩:=Tail.app h o
theorem Any.mk {T:List (Nat×AO)} {n:Nat} (h:Tail T n):Any ⟨T,n⟩:=h
def hdrR (l:List Fld) (i:Nat):Int:=match fe (fun i=>(l[i]?).bind fun f=>er (fldE l i f)) l.length i with
 | some e=>e
 | none=>if wSum l % 8=0 then 0 else 10
theorem JJ {l:List Fld} {i:Nat} (hi:i<l.length) (h:fldE l i l[i]≠0):hdrR l i=fldE l i l[i]:=by
 unfold hdrR;rw [aJ (x:=fldE l i l[i]) hi (by simp [hi,er,h])]
theorem sb {l:List Fld} {i:Nat} (hi:i<l.length) (h:fldE l i l[i]=0):hdrR l i=hdrR l (i+1):=by
 unfold hdrR;rw [bP hi (by simp [hi,h])]
theorem vo {l:List Fld}:hdrR l l.length=if wSum l % 8=0 then 0 else 10:=by
 unfold hdrR;rw [d6]
theorem fe_all {G:Type} {f:Nat->Option G} {N:Nat}:fe f N 0=none↔∀i,i<N->f i=none:=by
 have key:∀n i,feF f n i=none↔∀k,i<=k->k<i+n->f k=none:=by
  intro n
  induction n with
  | zero=>intro i;simp [feF];omega
  | succ n ih=>
   intro i;simp only [feF];cases h:f i with
   | some x=>simp;exact ⟨i,Qb _,by omega,by simp [h]⟩
   | none=>
    simp only [ih];constructor
    ·intro hh k h1 h2;rcases Nat.eq_or_lt_of_le h1 with rfl | h3
     ·exact h
     ·exact hh k (by omega) (by omega)
    ·intro hh k h1 h2;exact hh k (by omega) (by omega)
 unfold fe;rw [key];simp
theorem wSum_eq (l:List Fld):wSum l=(l.map (·.Yc)).sum:=rfl
theorem NJ (h:Xi) (hn:h.name.length<2^40) (hf:∀f∈h.Xz,f.name.length<2^40):a8 Φ 208 [.agg (Xi.c h)]=some (.val (a7 (hdrE h))):=by
 rw [aB rfl rfl];have n1:=JE h.name hn;cases q1:idS h.name with
 | false=>rw [q1] at n1;simp [vE,Xi.e,n1,hdrE,q1]
 | true=>
 rw [q1] at n1;by_cases z0:h.Xz.length=0
 ·simp [vE,Xi.e,n1,hdrE,q1,z0]
 by_cases z1:12<h.Xz.length
 ·simp [vE,Xi.e,n1,hdrE,q1,z0,z1]
 have hE:hdrE h=hdrR h.Xz 0:=by simp [hdrE,q1,z0,z1,hdrR,CQ]<;>rfl
 rw [hE];simp [vE,Xi.e,n1,z0,z1];refine JK h.Xz.length (fun i e H=>look 1 e=some (.iptr 2 [[.str h.name,.slice 2 (h.Xz.map Fld.c)]] 0 0)/\look 23 e=some (.slice 2 (h.Xz.map Fld.c))/\look 24 e=some (a7 h.Xz.length)/\look 25 e=some (a7 i)/\Any H/\
   ∀k,k<i->fldE h.Xz k (h.Xz.getD k default)=0)
  (fun i=>some (Rt.val (a7 (hdrR h.Xz i)))) ?_ ?_ 0 _ _ (Qc _) ?_
 ·rintro i e ⟨T,n⟩ L hi hL ⟨h1,h23,h24,h25,hT,hz⟩ ih;have hT':look n T=none:=hT n (Qb _);have hw:=aF i (by omega);have nf:=JE h.Xz[i].name (hf _ (Qd hi));cases p1:idS h.Xz[i].name with
  | false=>
   rw [p1] at nf;rw [JJ hi (by simp [fldE,p1])];simp [cL,Fld.e,h23,h24,h25,hi,hT',nf,fldE,p1]
  | true=>
  rw [p1] at nf;by_cases w1:h.Xz[i].Yc<1
  ·rw [JJ hi (by simp [fldE,p1,wBad,w1])];simp [cL,Fld.e,h23,h24,h25,hi,hT',nf,fldE,p1,wBad,w1]
  by_cases w2:32<h.Xz[i].Yc
  ·rw [JJ hi (by simp [fldE,p1,wBad,w2])];simp [cL,Fld.e,h23,h24,h25,hi,hT',nf,fldE,p1,wBad,w1,w2]
  have hi':i<=h.Xz.length:=by omega
  have hmi:min i h.Xz.length=i:=by omega
  simp [cL,Fld.e,h1,h23,h24,h25,hi,hT',nf,w1,w2,hi'];refine (A4 (h.Xz.take i) (fun g=>decide (g.name=h.Xz[i].name)) (some (Rt.val (a7 7))) (some (Rt.val (a7 (hdrR h.Xz (i+1)))))
   (fun k e H=>look 1 e=some (.iptr 2 [[.str h.name,.slice 2 (h.Xz.map Fld.c)]] 0 0)/\look 23 e=some (.slice 2 (h.Xz.map Fld.c))/\look 24 e=some (a7 h.Xz.length)/\look 25 e=some (a7 i)/\
    look 4 e=some (.iptr 2 [[.str h.Xz[i].name,a7 h.Xz[i].Yc]] 0 0)/\look 45 e=some (.slice 2 ((h.Xz.map Fld.c).take i))/\look 46 e=some (a7 i)/\look 47 e=some (a7 k)/\Any H/\
    (0<k->vV (h.Xz.take i) (fun g=>decide (g.name=h.Xz[i].name)) 0=vV (h.Xz.take i) (fun g=>decide (g.name=h.Xz[i].name)) k)) ?_ ?_ ?_ _ _ ?_).trans ?_
  ·rintro k e ⟨T2,m⟩ L' hk hL' ⟨h1,h23,h24,h25,g4,g45,g46,g47,hT2,_⟩ hb;simp only [iF] at hk;have hk1:k<i:=by omega
   have hk2:k<h.Xz.length:=by omega
   simp only [sL,decide_eq_true_eq] at hb;have hm:look m T2=none:=hT2 m (Qb _);simp [kO,Fld.e,g4,g45,g46,g47,hk1,hm,hb,hmi]
  ·rintro k e ⟨T2,m⟩ L' X hk hL' ⟨h1,h23,h24,h25,g4,g45,g46,g47,hT2,hy⟩ hb ih';have hb':=hb;have hk0:=hk;simp only [iF] at hk;have hk1:k<i:=by omega
   have hk2:k<h.Xz.length:=by omega
   simp only [sL,decide_eq_false_iff_not] at hb;have hm:look m T2=none:=hT2 m (Qb _);have hw':=aF k (by omega);simp [kO,Fld.e,g4,g45,g46,g47,hk1,hm,hb,hmi,hw'];refine ih' _ _ ⟨by simp [h1],by simp [h23],by simp [h24],by simp [h25],by simp [g4],by simp [g45],by simp [g46],by simp,Any.app hT2,fun _=>?_⟩;rcases Qw k with rfl | hp
   ·exact LE hk0 hb'
   ·rw [hy hp];exact LE hk0 hb'
  ·rintro e ⟨T2,m⟩ L' hL' ⟨h1,h23,h24,h25,g4,g45,g46,g47,hT2,hy⟩;have hm:min i h.Xz.length=i:=by omega
   simp [hm] at g47 hy;have hd:dupN Fld.name h.Xz i h.Xz[i]=false:=by
    unfold dupN;rw [<- SE];rcases Qw i with hp | hp
    ·subst hp;simp [vV]
    ·rw [hy hp];have:=UZ (l:=h.Xz.take i) (p:=fun g=>decide (g.name=h.Xz[i].name));simpa [hm] using this
   simp [kO,vF,g46,g47,h25,hL',hw];refine ih _ _ ⟨by simp [h1],by simp [h23],by simp [h24],by simp,hT2,?_⟩;intro k hk;rcases Nat.lt_succ_iff_lt_or_eq.1 hk with hlt | rfl
   ·exact hz k hlt
   ·rw [vZ,Qa hi,nO];simp [fldE,p1,wBad,w1,w2,hd]
  ·simp [h1,h23,h24,h25,hT.mono (Nat.le_succ _),Any]
  ·cases p3:dupN Fld.name h.Xz i h.Xz[i] with
   | true=>
    rw [JJ hi (by simp [fldE,p1,wBad,w1,w2,p3])];unfold dupN at p3;simp only [p3,if_true];simp [fldE,p1,wBad,w1,w2,dupN,p3]
   | false=>
    rw [sb hi (by simp [fldE,p1,wBad,w1,w2,p3])];unfold dupN at p3;simp [p3]
 ·rintro e ⟨T,n⟩ L hL ⟨h1,h23,h24,h25,hT,hz⟩;have hb:∀x∈h.Xz.map (·.Yc),1<=x/\x<=32:=by
   intro x hx;obtain ⟨f,hf,rfl⟩:=iU.1 hx;obtain ⟨k,hk,rfl⟩:=Qn.1 hf;have:=hz k hk;rw [vZ,Qa hk,nO] at this;refine wBad_false.1 ?_;cases q:wBad h.Xz[k].Yc with
   | false=>rfl
   | true=>
    simp only [fldE,q] at this;split at this
    ·omega
    ·simp at this
  have e1:=fu h (by omega);have e2:=R3 (h.Xz.map (·.Yc)) (by simp;omega) hb;simp only [Xi.e] at e1;simp only [E1] at e2;have hs:0<=wSum h.Xz:=by
   unfold wSum;have:∀l:List Int,(∀x∈l,1<=x/\x<=32)->0<=l.sum:=by
    intro l
    induction l with
    | nil=>intro _;simp
    | cons a l ih=>intro hh;have:=ih fun x hx=>hh x (by simp [hx]);have:=hh a (by simp);simp;omega
   exact this _ hb
  have e3:wSum h.Xz % 8=(wSum h.Xz).tmod 8:=(AJ hs).symm;rw [vo,e3];have e4:a8 Φ 310 [.slice 1 (h.Xz.map fun f=>[a7 f.Yc])]=some (.val (a7 (wSum h.Xz))):=e2;by_cases z:(wSum h.Xz).tmod 8=0
  ·simp [cL,qK,h1,h24,h25,hL,e1,e4,z]
  ·simp [cL,qK,h1,h24,h25,hL,e1,e4,z]
 ·simp [Any,Tail]
def tF:Nat:=225
def AC (c p i s:Int):AV:= .iface tF (.agg [a7 c,a7 p,a7 i,a7 s])
theorem a1t (c p i s:Int):AV.iface 225 (.agg [a7 c,a7 p,a7 i,a7 s])=AC c p i s:=rfl
@[simp] theorem a0B (c p i s:Int) (n:Nat):flat (n+3) (AC c p i s)=true:=by simp [AC]
@[simp] theorem a0C (c p i s:Int) (n:Nat) (H:AH):snap (n+3) H (AC c p i s)=some (AC c p i s):=by simp [AC]
def rtD (o:Option Dg):Rt:=match o with
 | none=> .val (.tup [])
 | some d=> .pan (AC d.1 d.2.1 d.2.2.1 d.2.2.2)
theorem oT (p i s:Int):a8 Φ 203 [a7 0,a7 p,a7 i,a7 s]=some (.val (.tup [])):=by
 rw [aB rfl rfl];simp [BG]
theorem j6 {c:Int} (h:¬c=0) (p i s:Int):a8 Φ 203 [a7 c,a7 p,a7 i,a7 s]=some (.pan (AC c p i s)):=by
 rw [aB rfl rfl];simp [BG,h,AC,tF]
theorem ns (s:List UInt8) (hs:s.length<2^40):a8 Φ 205 [.str s]=some (.val (.bool (!idS s))):=by
 rw [aB rfl rfl];simp [G2,JE s hs]
theorem que (w:Int):a8 Φ 212 [a7 w]=some (.val (.bool (wBad w))):=by
 rw [aB rfl rfl];by_cases h1:w<1<;>simp [G8,wBad,h1]
def ix {G:Type} (p:G->Bool) (l:List G) (i:Nat):Int:=(fe (fun k=>(l[k]?).bind fun a=>if p a then some (k:Int) else none) l.length i).getD (-1)
theorem O6 {G:Type} {p:G->Bool} {l:List G} {i:Nat} (hi:i<l.length) (h:p l[i]=true):ix p l i=i:=by
 unfold ix;rw [aJ (x:=(i:Int)) hi (by simp [hi,h])];rfl
theorem NK {G:Type} {p:G->Bool} {l:List G} {i:Nat} (hi:i<l.length) (h:p l[i]=false):ix p l i=ix p l (i+1):=by
 unfold ix;rw [bP hi (by simp [hi,h])]
theorem O5 {G:Type} {p:G->Bool} {l:List G}:ix p l l.length= -1:=by
 unfold ix;rw [d6];rfl
theorem PP {G:Type} {p:G->Bool} {l:List G}:∀n i,n+i=l.length->decide (0<=ix p l i)=vV l p i
 | 0,i,h=>by
  have:i=l.length:=by omega
  subst this;rw [O5,UZ];rfl
 | n+1,i,h=>by
  have hi:i<l.length:=by omega
  cases q:p l[i] with
  | true=>rw [O6 hi q,jb hi q];simp
  | false=>rw [NK hi q,LE hi q];exact PP n (i+1) (by omega)
theorem NZ {G:Type} {p:G->Bool} {l:List G}:decide (0<=ix p l 0)=l.any p:=by
 rw [PP l.length 0 (by omega),SE]
theorem Ar (l:List (List UInt8)) (x:List UInt8) (hl:l.length<2^40):a8 Φ 367 [.slice 1 (l.map fun s=>[.str s]),.str x]=some (.val (a7 (ix (fun s=>decide (x=s)) l 0))):=by
 rw [aB rfl rfl];simp [IE];refine (dC l.length (fun i e=>look 0 e=some (.slice 1 (l.map fun s=>[.str s]))/\look 1 e=some (.str x)/\look 6 e=some (.slice 1 (l.map fun s=>[.str s]))/\look 7 e=some (a7 l.length)/\look 8 e=some (a7 i))
  (fun i=>some (.val (a7 (ix (fun s=>decide (x=s)) l i)))) ?_ ?_ 0 _ (Qc _) ?_).trans (by simp)
 ·rintro i e L hi hL ⟨h0,h1,h6,h7,h8⟩ ih;have hw:=aF i (by omega);by_cases z:x=l[i]
  ·rw [O6 hi (by simpa using z)];simp [iB,h0,h1,h7,h8,hi,<- z]
  ·rw [NK hi (by simpa using z)];simp [iB,h0,h1,h7,h8,hi,z,hw];exact ih _ ⟨by simp [h0],by simp [h1],by simp [h6],by simp [h7],by simp⟩
 ·rintro e L hL ⟨h0,h1,h6,h7,h8⟩;rw [O5];simp [iB,rR,h7,h8,hL]
 ·simp
theorem qx2 (l:List (List UInt8)) (x:List UInt8) (hl:l.length<2^40):a8 Φ 312 [.slice 1 (l.map fun s=>[.str s]),.str x]=some (.val (.bool (l.any fun s=>decide (x=s)))):=by
 rw [aB rfl rfl];have h:=Ar l x hl;have e:=NZ (p:=fun s=>decide (x=s)) (l:=l);simp [HJ,h];rw [<- e]
theorem S2 {G:Type} (nm:G->List UInt8) (l:List G) (i:Nat) (hi:i<l.length) (hl:l.length<2^40):a8 Φ 209 [.slice 1 (l.map fun x=>[.str (nm x)]),a7 i]=some (.val (.bool (dupN nm l i l[i]))):=by
 rw [aB rfl rfl];have h:=qx2 ((l.map nm).take i) (nm l[i]) (by simp;omega);have e:(((l.map nm).take i).any fun s=>decide (nm l[i]=s))=dupN nm l i l[i]:=by
  unfold dupN;rw [<- DY,List.any_map];congr 1;funext y;simp [eq_comm]
 rw [e] at h;rw [<- DY,E1,DY] at h;have h':a8 Φ 312 [.slice 1 ((l.map fun x=>[AV.str (nm x)]).take i),.str (nm l[i])]=some (.val (.bool (dupN nm l i l[i]))):=h;have hi':i<=l.length:=by omega
 simp [G5,hi,hi',h']
theorem qw7 (x:Xi):a8 Φ 207 [.agg (Xi.c x)]=some (.val (.str x.name)):=by
 rw [aB rfl rfl];simp [G4,Xi.e]
theorem qu7 (l:List Xi) (hl:l.length<2^40):a8 Φ 206 [.slice 2 (l.map Xi.c),.func (.func 207) [] []]=some (.val (.slice 1 (l.map fun x=>[.str x.name]))):=by
 rw [aB rfl rfl];simp [G3];refine (cV l.length (fun i=>[(0,.tok 1 i)]) 1 (fun i e=>look 1 e=some (.func (.func 207) [] [])/\look 5 e=some (.app 1 ((l.map fun x=>[AV.str x.name]).take i) 0)/\look 8 e=some (.slice 2 (l.map Xi.c))/\look 9 e=some (a7 l.length)/\look 10 e=some (a7 i))
  (fun i=>some (.val (.slice 1 (l.map fun x=>[.str x.name])))) ?_ ?_ 0 _ 1 (Qc _) (Qb _) ?_).trans (by simp)
 ·rintro i e n L hi hL hn ⟨h1,h5,h8,h9,h10⟩ ih;have hw:=aF i (by omega);have hn0:¬(0=n):=by omega
  have hn1:¬(n=0):=by omega
  have hm:min i l.length=i:=by omega
  have hb:(i+1)*16<=70368744177664:=by omega
  have hN:=qw7 l[i];simp only [Xi.e] at hN;simp [kN,Xi.e,h1,h5,h8,h9,h10,hi,hw,hn0,hm,hb,hN];exact ih _ _ (by omega) ⟨by simp [h1],by simp [EB hi],by simp [h8],by simp [h9],by simp⟩
 ·rintro e n L hL hn ⟨h1,h5,h8,h9,h10⟩;simp [kN,qJ,h5,h9,h10,hL]
 ·simp
theorem qyb (x:Fld):a8 Φ 211 [.agg (Fld.c x)]=some (.val (.str x.name)):=by
 rw [aB rfl rfl];simp [G7,Fld.e]
theorem XJ (l:List Fld) (hl:l.length<2^40):a8 Φ 210 [.slice 2 (l.map Fld.c),.func (.func 211) [] []]=some (.val (.slice 1 (l.map fun x=>[.str x.name]))):=by
 rw [aB rfl rfl];simp [G6];refine (cV l.length (fun i=>[(0,.tok 1 i)]) 1 (fun i e=>look 1 e=some (.func (.func 211) [] [])/\look 5 e=some (.app 1 ((l.map fun x=>[AV.str x.name]).take i) 0)/\look 8 e=some (.slice 2 (l.map Fld.c))/\look 9 e=some (a7 l.length)/\look 10 e=some (a7 i))
  (fun i=>some (.val (.slice 1 (l.map fun x=>[.str x.name])))) ?_ ?_ 0 _ 1 (Qc _) (Qb _) ?_).trans (by simp)
 ·rintro i e n L hi hL hn ⟨h1,h5,h8,h9,h10⟩ ih;have hw:=aF i (by omega);have hn0:¬(0=n):=by omega
  have hn1:¬(n=0):=by omega
  have hm:min i l.length=i:=by omega
  have hb:(i+1)*16<=70368744177664:=by omega
  have hN:=qyb l[i];simp only [Fld.e] at hN;simp [kP,Fld.e,h1,h5,h8,h9,h10,hi,hw,hn0,hm,hb,hN];exact ih _ _ (by omega) ⟨by simp [h1],by simp [EB hi],by simp [h8],by simp [h9],by simp⟩
 ·rintro e n L hL hn ⟨h1,h5,h8,h9,h10⟩;simp [kP,qL,h5,h9,h10,hL]
 ·simp
theorem qtu (x:Xg):a8 Φ 214 [.agg (Xg.c x)]=some (.val (.str x.name)):=by
 rw [aB rfl rfl];simp [GA,Xg.e]
theorem qsi (l:List Xg) (hl:l.length<2^40):a8 Φ 213 [.slice 3 (l.map Xg.c),.func (.func 214) [] []]=some (.val (.slice 1 (l.map fun x=>[.str x.name]))):=by
 rw [aB rfl rfl];simp [G9];refine (cV l.length (fun i=>[(0,.tok 1 i)]) 1 (fun i e=>look 1 e=some (.func (.func 214) [] [])/\look 5 e=some (.app 1 ((l.map fun x=>[AV.str x.name]).take i) 0)/\look 8 e=some (.slice 3 (l.map Xg.c))/\look 9 e=some (a7 l.length)/\look 10 e=some (a7 i))
  (fun i=>some (.val (.slice 1 (l.map fun x=>[.str x.name])))) ?_ ?_ 0 _ 1 (Qc _) (Qb _) ?_).trans (by simp)
 ·rintro i e n L hi hL hn ⟨h1,h5,h8,h9,h10⟩ ih;have hw:=aF i (by omega);have hn0:¬(0=n):=by omega
  have hn1:¬(n=0):=by omega
  have hm:min i l.length=i:=by omega
  have hb:(i+1)*16<=70368744177664:=by omega
  have hN:=qtu l[i];simp only [Xg.e] at hN;simp [kQ,Xg.e,h1,h5,h8,h9,h10,hi,hw,hn0,hm,hb,hN];exact ih _ _ (by omega) ⟨by simp [h1],by simp [EB hi],by simp [h8],by simp [h9],by simp⟩
 ·rintro e n L hL hn ⟨h1,h5,h8,h9,h10⟩;simp [kQ,qM,h5,h9,h10,hL]
 ·simp
theorem qw0 (x:Action):a8 Φ 217 [.agg (Action.c x)]=some (.val (.str x.name)):=by
 rw [aB rfl rfl];simp [GC,Action.e]
theorem qu6 (l:List Action) (hl:l.length<2^40):a8 Φ 216 [.slice 3 (l.map Action.c),.func (.func 217) [] []]=some (.val (.slice 1 (l.map fun x=>[.str x.name]))):=by
 rw [aB rfl rfl];simp [GB];refine (cV l.length (fun i=>[(0,.tok 1 i)]) 1 (fun i e=>look 1 e=some (.func (.func 217) [] [])/\look 5 e=some (.app 1 ((l.map fun x=>[AV.str x.name]).take i) 0)/\look 8 e=some (.slice 3 (l.map Action.c))/\look 9 e=some (a7 l.length)/\look 10 e=some (a7 i))
  (fun i=>some (.val (.slice 1 (l.map fun x=>[.str x.name])))) ?_ ?_ 0 _ 1 (Qc _) (Qb _) ?_).trans (by simp)
 ·rintro i e n L hi hL hn ⟨h1,h5,h8,h9,h10⟩ ih;have hw:=aF i (by omega);have hn0:¬(0=n):=by omega
  have hn1:¬(n=0):=by omega
  have hm:min i l.length=i:=by omega
  have hb:(i+1)*16<=70368744177664:=by omega
  have hN:=qw0 l[i];simp only [Action.e] at hN;simp [kR,Action.e,h1,h5,h8,h9,h10,hi,hw,hn0,hm,hb,hN];exact ih _ _ (by omega) ⟨by simp [h1],by simp [EB hi],by simp [h8],by simp [h9],by simp⟩
 ·rintro e n L hL hn ⟨h1,h5,h8,h9,h10⟩;simp [kR,qN,h5,h9,h10,hL]
 ·simp
theorem qzz (x:Tbl):a8 Φ 220 [.agg (Tbl.c x)]=some (.val (.str x.name)):=by
 rw [aB rfl rfl];simp [GE,Tbl.e]
theorem XK (l:List Tbl) (hl:l.length<2^40):a8 Φ 219 [.slice 6 (l.map Tbl.c),.func (.func 220) [] []]=some (.val (.slice 1 (l.map fun x=>[.str x.name]))):=by
 rw [aB rfl rfl];simp [GD];refine (cV l.length (fun i=>[(0,.tok 1 i)]) 1 (fun i e=>look 1 e=some (.func (.func 220) [] [])/\look 5 e=some (.app 1 ((l.map fun x=>[AV.str x.name]).take i) 0)/\look 8 e=some (.slice 6 (l.map Tbl.c))/\look 9 e=some (a7 l.length)/\look 10 e=some (a7 i))
  (fun i=>some (.val (.slice 1 (l.map fun x=>[.str x.name])))) ?_ ?_ 0 _ 1 (Qc _) (Qb _) ?_).trans (by simp)
 ·rintro i e n L hi hL hn ⟨h1,h5,h8,h9,h10⟩ ih;have hw:=aF i (by omega);have hn0:¬(0=n):=by omega
  have hn1:¬(n=0):=by omega
  have hm:min i l.length=i:=by omega
  have hb:(i+1)*16<=70368744177664:=by omega
  have hN:=qzz l[i];simp only [Tbl.e] at hN;simp [kS,Tbl.e,h1,h5,h8,h9,h10,hi,hw,hn0,hm,hb,hN];exact ih _ _ (by omega) ⟨by simp [h1],by simp [EB hi],by simp [h8],by simp [h9],by simp⟩
 ·rintro e n L hL hn ⟨h1,h5,h8,h9,h10⟩;simp [kS,qP,h5,h9,h10,hL]
 ·simp
structure PrgS (p:Prg):Prop where
 n:p.name.length<2^40
 h:p.Xo.length<2^40
 hn:∀h∈p.Xo,h.name.length<2^40
 hf:∀h∈p.Xo,∀f∈h.Xz,f.name.length<2^40
 hl:∀h∈p.Xo,h.Xz.length<2^40
 m:p.Xn.length<2^40
 mn:∀f∈p.Xn,f.name.length<2^40
 r:p.Xl.length<2^40
 rn:∀r∈p.Xl,r.name.length<2^40
 a:p.Xx.length<2^40
 an:∀a∈p.Xx,a.name.length<2^40
 ap:∀a∈p.Xx,a.params.length<2^40
 apn:∀a∈p.Xx,∀f∈a.params,f.name.length<2^40
 ab:∀a∈p.Xx,a.body.length<2^40
 ai:∀a∈p.Xx,∀s∈a.body,s.index.length<2^40
 av:∀a∈p.Xx,∀s∈a.body,s.value.length<2^40
 t:p.Xm.length<2^40
 tn:∀t∈p.Xm,t.name.length<2^40
 tk:∀t∈p.Xm,t.keys.length<2^40
 ta:∀t∈p.Xm,t.Xx.length<2^40
 tg:∀t∈p.Xm,t.Yb.args.length<2^40
 s:p.Xw.length<2^40
 sn:∀s∈p.Xw,s.name.length<2^40
 se:∀s∈p.Xw,s.extract.length<2^40
 sc:∀s∈p.Xw,s.cases.length<2^40
 sv:∀s∈p.Xw,∀c∈s.cases,ok32 oU c.value/\ok32 oU c.Yd
 c:p.Ya.length<2^40
 co:∀x∈p.Ya,Xa.Ok oU x
 d:p.Xr.length<2^40
theorem Il {p:Prg} (o:p.Ok oU):PrgS p:=by
 obtain ⟨o0,o1,o2,o3,o4,o5,o6,o7,o8⟩:=o;have e:=EI;simp only [vY,okL,Xi.Ok,Fld.Ok,Xg.Ok,Action.Ok,Xf.Ok,Tbl.Ok,Xb.Ok,Xc.Ok,Xj.Ok] at o0 o1 o2 o3 o4 o5 o6 o7 o8;refine ⟨by omega,by omega,?_,?_,?_,by omega,?_,by omega,?_,by omega,?_,?_,?_,?_,?_,?_,by omega,?_,?_,?_,?_,by omega,?_,?_,?_,?_,by omega,o7.2,by omega⟩
 ·intro h hh;have:=(o1.2 h hh).1;omega
 ·intro h hh f hf;have:=((o1.2 h hh).2.2 f hf).1;omega
 ·intro h hh;have:=(o1.2 h hh).2.1;omega
 ·intro f hf;have:=(o2.2 f hf).1;omega
 ·intro r hr;have:=(o3.2 r hr).1;omega
 ·intro a ha;have:=(o4.2 a ha).1;omega
 ·intro a ha;have:=(o4.2 a ha).2.1.1;omega
 ·intro a ha f hf;have:=((o4.2 a ha).2.1.2 f hf).1;omega
 ·intro a ha;have:=(o4.2 a ha).2.2.1;omega
 ·intro a ha s hs;have:=((o4.2 a ha).2.2.2 s hs).2.2.2.2.1.1;omega
 ·intro a ha s hs;have:=((o4.2 a ha).2.2.2 s hs).2.2.2.2.2.1;omega
 ·intro t ht;have:=(o5.2 t ht).1;omega
 ·intro t ht;have:=(o5.2 t ht).2.1.1;omega
 ·intro t ht;have:=(o5.2 t ht).2.2.1.1;omega
 ·intro t ht;have:=(o5.2 t ht).2.2.2.1.2.1;omega
 ·intro s hs;have:=(o6.2 s hs).1;omega
 ·intro s hs;have:=(o6.2 s hs).2.1.1;omega
 ·intro s hs;have:=(o6.2 s hs).2.2.2.1.1;omega
 ·intro s hs c hc;have:=(o6.2 s hs).2.2.2.1.2 c hc;exact ⟨this.1,this.2.1⟩
theorem X' (p:Prg) (f:PrgS p):a8 Φ 130 [.agg (Prg.c p)]=some (rtD (limD p)):=by
 rw [aB rfl rfl];have n1:=ns p.name f.n;cases q1:idS p.name with
 | false=>rw [q1] at n1;simp [pI,Prg.e,n1,iT,j6,limD,q1,rtD]
 | true=>
 rw [q1] at n1;by_cases z1:8<p.Xo.length
 ·simp [pI,Prg.e,n1,iT,oT,j6,limD,q1,rtD,z1]
 by_cases z2:4<p.Xl.length
 ·simp [pI,Prg.e,n1,iT,oT,j6,limD,q1,rtD,z1,z2]
 by_cases z3:16<p.Xx.length
 ·simp [pI,Prg.e,n1,iT,oT,j6,limD,q1,rtD,z1,z2,z3]
 by_cases z4:12<p.Xm.length
 ·simp [pI,Prg.e,n1,iT,oT,j6,limD,q1,rtD,z1,z2,z3,z4]
 simp [pI,Prg.e,n1,iT,oT,limD,q1,rtD,z1,z2,z3,z4]
def hdrG (p:Prg) (i:Nat):Option Dg:=(p.Xo[i]?).bind fun h=>if yT p i h=0 then none else some (yT p i h,1,(i:Int),0)
theorem qs3 (p:Prg) (f:PrgS p):a8 Φ 131 [.agg (Prg.c p)]=some (rtD (hdrD p)):=by
 rw [aB rfl rfl,show hdrD p=fe (hdrG p) p.Xo.length 0 from rfl];have e1:=qu7 p.Xo f.h;simp [FB,Prg.e,e1];refine cV p.Xo.length (fun _=>[]) 0 (fun i e=>look 2 e=some (.slice 1 (p.Xo.map fun x=>[.str x.name]))/\look 9 e=some (.slice 2 (p.Xo.map Xi.c))/\look 10 e=some (a7 p.Xo.length)/\look 11 e=some (a7 i))
  (fun i=>some (rtD (fe (hdrG p) p.Xo.length i))) ?_ ?_ 0 _ 0 (Qc _) (Qb _) ?_
 ·rintro i e n L hi hL _ ⟨h2,h9,h10,h11⟩ ih;have hlen:=f.h;have hw:=aF i (by omega);have hm:=Qd hi;have eh:=NJ p.Xo[i] (f.hn _ hm) (f.hf _ hm);simp only [Xi.e] at eh;have er:=S2 Xi.name p.Xo i hi f.h;by_cases z1:hdrE p.Xo[i]=0
  rotate_left
  ·rw [aJ (x:=(hdrE p.Xo[i],1,(i:Int),0)) hi (by simp [hdrG,hi,yT,z1])];simp [dO,Xi.e,h9,h10,h11,hi,eh,j6,z1,rtD]
  by_cases z2:p.Xo[i].name=[109,101,116,97]
  ·rw [aJ (x:=(6,1,(i:Int),0)) hi (by simp [hdrG,hi,yT,z1,z2])];rw [z2] at eh;simp [dO,Xi.e,h9,h10,h11,hi,eh,j6,oT,iT,z1,z2,rtD]
  cases z3:dupN Xi.name p.Xo i p.Xo[i] with
  | true=>
   rw [z3] at er;rw [aJ (x:=(7,1,(i:Int),0)) hi (by simp [hdrG,hi,yT,z1,z2,z3])];simp [dO,Xi.e,h2,h9,h10,h11,hi,eh,er,j6,oT,iT,z1,z2,rtD]
  | false=>
   rw [z3] at er;rw [bP hi (by simp [hdrG,hi,yT,z1,z2,z3])];simp [dO,Xi.e,h2,h9,h10,h11,hi,eh,er,oT,iT,z1,z2,hw];exact ih _ _ (Qc _) ⟨by simp [h2],by simp [h9],by simp [h10],by simp⟩
 ·rintro e n L hL _ ⟨h2,h9,h10,h11⟩;rw [d6];simp [dO,h10,h11,hL,rtD]
 ·simp
def scC (p:Prg) (ps:List Fld):List AV:=(uO p [.slice 2 (ps.map Fld.c)])
theorem aE (p:Prg) (ps:List Fld):scC p ps=(uO p [.slice 2 (ps.map Fld.c)]):=by simp [scC]
theorem gb (op:Int):a8 Φ 358 [a7 op]=some (.val (a7 (ari op))):=by
 rw [aB rfl rfl];rcases (show op=1\/op=2\/op=3\/op=4\/op=5\/op=6\/op=7\/op=8\/op=9\/op=10\/op=11\/op=12\/op=13\/op=14\/op=15\/op=16\/op=17\/(op<1\/17<op) by omega) with rfl | rfl | rfl | rfl | rfl | rfl | rfl | rfl | rfl | rfl | rfl | rfl | rfl | rfl | rfl | rfl | rfl | h
 rotate_right
 ·have e:ari op= -1:=by
   unfold ari;rw [QA (by omega),QA (by omega),QA (by omega),QA (by omega)]
  rw [e];have h1:¬op=1:=by omega
  have h2:¬op=2:=by omega
  have h3:¬op=3:=by omega
  have h4:¬op=4:=by omega
  have h5:¬op=5:=by omega
  have h6:¬op=6:=by omega
  have h7:¬op=7:=by omega
  have h8:¬op=8:=by omega
  have h9:¬op=9:=by omega
  have h10:¬op=10:=by omega
  have h11:¬op=11:=by omega
  have h12:¬op=12:=by omega
  have h13:¬op=13:=by omega
  have h14:¬op=14:=by omega
  have h15:¬op=15:=by omega
  have h16:¬op=16:=by omega
  have h17:¬op=17:=by omega
  simp [C1,h1,h2,h3,h4,h5,h6,h7,h8,h9,h10,h11,h12,h13,h14,h15,h16,h17]
 all_goals simp [C1,ari]
theorem SP (w:Int):a8 Φ 406 [a7 w]=some (.val (.tup [a7 (wide w).1,a7 (wide w).2])):=by
 rw [aB rfl rfl];by_cases h1:w<1
 ·simp [yJ,wide,wBad,h1]
 by_cases h2:32<w
 ·simp [yJ,wide,wBad,h1,h2]
 simp [yJ,wide,wBad,h1,h2]
def cA (p:Prg) (h f:Int):Option Fld:=(if h= -1 then some p.Xn else (at? p.Xo h).map (·.Xz)).bind fun l=>at? l f
theorem V5 (p:Prg) (h f:Int):decl p h f=(cA p h f).map (·.Yc):=by
 unfold decl cA;cases (if h= -1 then some p.Xn else (at? p.Xo h).map (·.Xz))<;>rfl
theorem Ee (p:Prg) (ps:List Fld) (h i:Int):a8 Φ 407 [.agg (scC p ps),a7 h,a7 i]=some (.val (match cA p h i with
  | some f=> .tup [.agg (Fld.c f),.bool true]
  | none=> .tup [.agg [.str [],.int .i64 0],.bool false])):=by
 rw [aB rfl rfl];by_cases hm:h= -1
 ·subst hm;by_cases i0:i<0
  ·rw [show cA p (-1) i=none by simp [cA,cY i0]];simp [mJ,aE,i0]
  by_cases i1:(p.Xn.length:Int)<=i
  ·rw [show cA p (-1) i=none by simp [cA,cW i1]];simp [mJ,aE,i0,i1]
  obtain ⟨k,rfl⟩:∃k:Nat,i=k:=⟨i.toNat,by omega⟩;have hk:k<p.Xn.length:=by omega
  rw [show cA p (-1) k=some p.Xn[k] by simp [cA,hk]];simp [mJ,aE,i0,i1,hk,Fld.e]
 by_cases h0:h<0
 ·rw [show cA p h i=none by simp [cA,hm,cY h0]];simp [mJ,aE,hm,h0]
 by_cases h1:(p.Xo.length:Int)<=h
 ·rw [show cA p h i=none by simp [cA,hm,cW h1]];simp [mJ,aE,hm,h0,h1]
 obtain ⟨m,rfl⟩:∃k:Nat,h=k:=⟨h.toNat,by omega⟩;have hk:m<p.Xo.length:=by omega
 by_cases i0:i<0
 ·rw [show cA p m i=none by simp [cA,hm,hk,cY i0]];simp [mJ,aE,hm,hk,Qf.2 hk,i0,Xi.e]
 by_cases i1:(p.Xo[m].Xz.length:Int)<=i
 ·rw [show cA p m i=none by simp [cA,hm,hk,cW i1]];simp [mJ,aE,hm,hk,Qf.2 hk,i0,i1,Xi.e]
 obtain ⟨k,rfl⟩:∃k:Nat,i=k:=⟨i.toNat,by omega⟩;have hk2:k<p.Xo[m].Xz.length:=by omega
 rw [show cA p m k=some p.Xo[m].Xz[k] by simp [cA,hm,hk,hk2]];simp [mJ,aE,hm,hk,Qf.2 hk,hk2,Qf.2 hk2,Xi.e,Fld.e]
theorem qr (w:Int):IntKind.wrap .i64 (bC w)=bC w:=by
 unfold bC;cases h:wBad w with
 | true=>rw [a9 rfl];decide
 | false=>
  obtain ⟨h1,h2⟩:=wBad_false.1 h;obtain ⟨k,rfl⟩:∃k:Nat,w=k:=⟨w.toNat,by omega⟩;have:(2:Int)^k<=2^32:=by
   have:=AM (n:=2) (by omega) (show k<=32 by omega)
   exact_mod_cast this
  have h0:(0:Int)<2^k:=by
   have:=Nat.pow_pos (a:=2) (n:=k) (by omega)
   exact_mod_cast this
  simp;exact aQ
theorem qt (p:Prg) (ps:List Fld) (x:Xd):a8 Φ 388 [.agg (scC p ps),.agg (Xd.c x)]=some (.val (.tup [a7 (prim p ps x).1,a7 (prim p ps x).2])):=by
 rw [aB rfl rfl];by_cases o1:x.op=1
 ·have hw:=SP x.w;have hm:=nZ x.w;have hmw:=qr x.w;cases q:wBad x.w with
  | true=>
   simp [wide,q] at hw;simp [eP,aE,Xd.e,o1,prim,hw,q]
  | false=>
   simp [wide,q] at hw;by_cases n0:x.n<0
   ·simp [eP,aE,Xd.e,o1,prim,hw,q,n0]
   have e:bC x.w=2^x.w.toNat - 1:=by simp [bC,q]
   rw [e] at hm hmw;by_cases n1:2^x.w.toNat - 1<x.n
   ·simp [eP,aE,Xd.e,o1,prim,hw,hm,hmw,q,n0,n1]
   ·simp [eP,aE,Xd.e,o1,prim,hw,hm,hmw,q,n0,n1]
 by_cases o2:x.op=2
 ·have hf:=Ee p ps x.n x.w;simp only [aE] at hf;cases q:cA p x.n x.w with
  | none=>
   rw [q] at hf;simp [eP,aE,Xd.e,o2,prim,hf,V5,q]
  | some f=>
   rw [q] at hf;simp only [Fld.e] at hf;have hw:=SP f.Yc;simp [eP,aE,Xd.e,o2,prim,hf,hw,V5,q]
 by_cases o3:x.op=3
 ·by_cases n0:x.n<0
  ·simp [eP,aE,Xd.e,o3,prim,n0,cY n0]
  by_cases n1:(ps.length:Int)<=x.n
  ·simp [eP,aE,Xd.e,o3,prim,n0,n1,cW n1]
  obtain ⟨k,hk⟩:∃k:Nat,x.n=k:=⟨x.n.toNat,by omega⟩;have hk2:k<ps.length:=by omega
  have hw:=SP ps[k].Yc;simp [eP,aE,Xd.e,Fld.e,o3,prim,hk,hk2,Qf.2 hk2,hw]
 by_cases n0:x.n<0
 ·simp [eP,aE,Xd.e,o1,o2,o3,prim,n0,cY n0]
 by_cases n1:(p.Xo.length:Int)<=x.n
 ·simp [eP,aE,Xd.e,o1,o2,o3,prim,n0,n1,cW n1]
 obtain ⟨k,hk⟩:∃k:Nat,x.n=k:=⟨x.n.toNat,by omega⟩;have hk2:k<p.Xo.length:=by omega
 simp [eP,aE,Xd.e,o1,o2,o3,prim,hk,hk2,Qf.2 hk2]
theorem dj (x:Xd) (a b c:Int) (ha:0<=a/\a<=32) (hb:0<=b/\b<=32):a8 Φ 389 [.agg (Xd.c x),.agg [a7 a,a7 b,a7 c]]=some (.val (.tup [a7 (comb x a b c).1,a7 (comb x a b c).2])):=by
 rw [aB rfl rfl];have hA:=gb x.op;have hw:=SP x.w;have hab:IntKind.wrap .i64 (a+b)=a+b:=aQ;have hw2:=SP (a+b);by_cases o6:x.op=6
 ·rw [show ari x.op=1 by simp [o6,ari]] at hA;rw [o6] at hA;by_cases n0:x.n<0
  ·simp [b8,Xd.e,o6,comb,n0]
  by_cases n1:31<x.n
  ·simp [b8,Xd.e,o6,comb,n0,n1]
  simp [b8,Xd.e,o6,comb,n0,n1,hA]
 by_cases o7:x.op=7
 ·rw [show ari x.op=1 by simp [o7,ari]] at hA;rw [o7] at hA;by_cases n0:x.n<0
  ·simp [b8,Xd.e,o7,comb,n0]
  by_cases n1:31<x.n
  ·simp [b8,Xd.e,o7,comb,n0,n1]
  simp [b8,Xd.e,o7,comb,n0,n1,hA]
 by_cases o8:x.op=8
 ·by_cases n0:x.n<0
  ·simp [b8,Xd.e,o8,comb,n0]
  cases q:wBad x.w with
  | true=>
   simp [wide,q] at hw;simp [b8,Xd.e,o8,comb,n0,q,hw]
  | false=>
   simp [wide,q] at hw;obtain ⟨w1,w2⟩:=wBad_false.1 q;have hs:IntKind.wrap .i64 (a - x.w)=a - x.w:=aQ;by_cases n1:a - x.w<x.n
   ·simp [b8,Xd.e,o8,comb,n0,q,hw,hs,n1]
   ·simp [b8,Xd.e,o8,comb,n0,q,hw,hs,n1]
 by_cases o14:x.op=14
 ·simp [b8,Xd.e,o14,comb,hab,hw2]
 by_cases o17:x.op=17
 ·by_cases a1:a=1
  ·by_cases bc:b=c
   ·simp [b8,Xd.e,o17,comb,a1,bc]
   ·simp [b8,Xd.e,o17,comb,a1,bc]
  ·simp [b8,Xd.e,o17,comb,a1]
 by_cases r2:ari x.op=2
 ·rw [r2] at hA;by_cases ab:a=b
  ·by_cases o15:x.op=15
   ·rw [o15] at hA;simp [b8,Xd.e,o15,comb,ab,hA]
   by_cases o16:x.op=16
   ·rw [o16] at hA;simp [b8,Xd.e,o16,comb,ab,hA]
   simp [b8,Xd.e,o6,o7,o8,o14,o15,o16,o17,comb,r2,ab,hA]
  ·simp [b8,Xd.e,o6,o7,o8,o14,o17,comb,r2,ab,hA]
 ·have o15:¬x.op=15:=by intro h;apply r2;simp [h,ari]
  have o16:¬x.op=16:=by intro h;apply r2;simp [h,ari]
  simp [b8,Xd.e,o6,o7,o8,o14,o15,o16,o17,comb,r2,hA]
def chkR (r:Except Int (Int×Nat)) (x:Option Rt):Prop:=match r with
 | .error e=>e≠0/\∃a b,x=some (.val (.tup [.int .i64 a,.int .i64 b,.int .i64 e]))
 | .ok (w,j)=>x=some (.val (.tup [.int .i64 w,.int .i64 j,.int .i64 0]))
theorem ed {w:Int} (h:(wide w).2=0):1<=(wide w).1/\(wide w).1<=32:=by
 unfold wide at h ⊢;cases q:wBad w with
 | true=>rw [q] at h;simp at h
 | false=>simp;exact wBad_false.1 q
theorem Z8 {p:Prg} {ps:List Fld} {x:Xd} (h:(prim p ps x).2=0):1<=(prim p ps x).1/\(prim p ps x).1<=32:=by
 unfold prim at h ⊢;by_cases o1:x.op=1
 ·simp only [o1,if_true] at h ⊢;cases q:wBad x.w with
  | true=>rw [q] at h;simp at h
  | false=>
   rw [q] at h;by_cases r:x.n<0\/2^x.w.toNat - 1<x.n
   ·simp [r] at h
   ·simp [r];exact wBad_false.1 q
 by_cases o2:x.op=2
 ·simp only [o2,if_true] at h ⊢;cases q:decl p x.n x.w with
  | none=>rw [q] at h;simp at h
  | some w=>rw [q] at h;exact ed h
 by_cases o3:x.op=3
 ·simp only [o3,if_true] at h ⊢;cases q:at? ps x.n with
  | none=>rw [q] at h;simp at h
  | some f=>rw [q] at h;exact ed h
 simp only [o1,o2,o3,if_false] at h ⊢;cases q:(at? p.Xo x.n).isSome with
 | true=>simp
 | false=>rw [q] at h;simp at h
theorem di {x:Xd} {a b c:Int} (ha:1<=a/\a<=32) (hb:ari x.op=3\/x.op=14->1<=b/\b<=32) (h:(comb x a b c).2=0):1<=(comb x a b c).1/\(comb x a b c).1<=32:=by
 unfold comb at h ⊢;by_cases o6:x.op=6\/x.op=7
 ·simp only [a9 o6] at h ⊢;by_cases r:x.n<0\/31<x.n
  ·simp [r] at h
  ·simpa [r] using ha
 simp only [QA o6] at h ⊢;by_cases o8:x.op=8
 ·simp only [a9 o8] at h ⊢;by_cases r:x.n<0
  ·simp [r] at h
  simp only [QA r] at h ⊢;by_cases r2:wBad x.w\/a - x.w<x.n
  ·simp [r2] at h
  ·simp only [QA r2];have:wBad x.w=false:=by
    cases q:wBad x.w with
    | true=>exact absurd (.inl q) r2
    | false=>rfl
   exact wBad_false.1 this
 simp only [QA o8] at h ⊢;by_cases o14:x.op=14
 ·simp only [a9 o14] at h ⊢;exact ed h
 simp only [QA o14] at h ⊢;by_cases o17:x.op=17
 ·simp only [a9 o17] at h ⊢;by_cases r:a≠1\/b≠c
  ·simp [r] at h
  ·simp only [QA r];exact hb (.inl (by simp [o17,ari]))
 simp only [QA o17] at h ⊢;by_cases r:ari x.op=2/\a≠b
 ·rw [a9 r] at h;simp at h
 simp only [QA r] at h ⊢;by_cases r2:x.op=15\/x.op=16
 ·simp [r2]
 ·simpa [r2] using ha
theorem wG {p:Prg} {ps:List Fld} {l:List Xd}:∀{n i w j},chk p ps l n i= .ok (w,j)->(1<=w/\w<=32)/\i<j/\j<=l.length
 | 0,i,w,j,h=>by simp [chk] at h
 | n+1,i,w,j,h=>by
  simp only [chk] at h;cases hx:l[i]? with
  | none=>rw [hx] at h;simp at h
  | some x=>
   have hi:i<l.length:=by
    obtain ⟨hi,_⟩:=Qm.1 hx;exact hi
   rw [hx] at h;simp only at h;split at h
   ·cases h
   split at h
   ·split at h
    ·rename_i hp;cases h;exact ⟨Z8 hp,by omega,by omega⟩
    ·cases h
   split at h
   ·cases h
   ·rename_i a i1 h1;obtain ⟨ra,r1,r2⟩:=wG h1;split at h
    ·rename_i hk;split at h
     ·rename_i hc;cases h;refine ⟨di ra ?_ hc,by omega,r2⟩;intro hh;rcases hh with hh | hh
      ·omega
      ·rw [hh] at hk;simp [ari] at hk
     ·cases h
    split at h
    ·cases h
    ·rename_i b i2 h2;obtain ⟨rb,s1,s2⟩:=wG h2;split at h
     ·split at h
      ·rename_i hc;cases h;exact ⟨di ra (fun _=>rb) hc,by omega,s2⟩
      ·cases h
     split at h
     ·cases h
     ·rename_i c i3 h3;obtain ⟨_,t1,t2⟩:=wG h3;split at h
      ·rename_i hc;cases h;exact ⟨di ra (fun _=>rb) hc,by omega,t2⟩
      ·cases h
theorem N8 (w e:Int) (j:Nat):chkR (if e=0 then .ok (w,j) else .error e) (some (.val (.tup [a7 w,a7 j,a7 e]))):=by
 by_cases z:e=0
 ·subst z;simp [chkR]
 ·simp [chkR,z]
theorem sg (op:Int):ari op= -1\/ari op=0\/ari op=1\/ari op=2\/ari op=3:=by
 unfold ari;split
 ·exact .inr (.inl rfl)
 split
 ·exact .inr (.inr (.inl rfl))
 split
 ·exact .inr (.inr (.inr (.inl rfl)))
 split
 ·exact .inr (.inr (.inr (.inr rfl)))
 ·exact .inl rfl
theorem S6 (p:Prg) (ps:List Fld) (l:List Xd) (hl:l.length<2^40):∀n i,l.length - i<n->i<=l.length->chkR (chk p ps l n i) (a8 Φ 357 [.agg (scC p ps),.slice 3 (l.map Xd.c),a7 (i:Nat)])
 | 0,i,h,hle=>by omega
 | n+1,i,h,hle=>by
  rw [aB rfl rfl];by_cases hi:i<l.length
  rotate_left
  ·have:i=l.length:=by omega
   subst this;simp [chk,chkR,nT,aE]
  have ih1:=S6 p ps l hl n (i+1) (by omega) (by omega);have hA:=gb l[i].op;have hP:=qt p ps l[i];have hw:IntKind.wrap .i64 ((i:Int)+1)=(i:Int)+1:=aQ;have e1:((i+1:Nat):Int)=(i:Int)+1:=by omega
  rw [e1] at ih1;simp only [aE,Xd.e] at ih1 hP;simp only [chk,Qa hi];rcases sg l[i].op with k | k | k | k | k
  ·rw [k] at hA;simp [chkR,nT,aE,Xd.e,hi,Qf.2 hi,hA,k]
  ·rw [k] at hA;by_cases z:(prim p ps l[i]).2=0
   ·rw [z] at hP;simp [chkR,nT,aE,Xd.e,hi,Qf.2 hi,hA,k,hP,z,hw]
   ·simp [chkR,nT,aE,Xd.e,hi,Qf.2 hi,hA,k,hP,z,hw]
  ·rw [k] at hA;simp [nT,aE,Xd.e,hi,Qf.2 hi,hA,k,hw];rw [aT];cases h1:chk p ps l n (i+1) with
   | error e=>
    rw [h1] at ih1;obtain ⟨he,a,b,hc⟩:=ih1;simp [c9,chkR,hc,he]
   | ok q=>
    obtain ⟨a,i1⟩:=q;rw [h1] at ih1;obtain ⟨ra,r1,r2⟩:=wG h1;have hC:=dj l[i] a 0 0 (by omega) (by omega);simp only [Xd.e] at hC;simp only [chkR] at ih1;simp [c9,ih1];rw [aT];simp [wr1,i8,hi,Xd.e,hC];exact N8 _ _ _
  ·rw [k] at hA;simp [nT,aE,Xd.e,hi,Qf.2 hi,hA,k,hw];rw [aT];cases h1:chk p ps l n (i+1) with
   | error e=>
    rw [h1] at ih1;obtain ⟨he,a,b,hc⟩:=ih1;simp [c9,chkR,hc,he]
   | ok q=>
    obtain ⟨a,i1⟩:=q;rw [h1] at ih1;obtain ⟨ra,r1,r2⟩:=wG h1;simp only [chkR] at ih1;simp [c9,ih1];rw [aT];have ih2:=S6 p ps l hl n i1 (by omega) (by omega);simp only [aE] at ih2;cases h2:chk p ps l n i1 with
    | error e=>
     rw [h2] at ih2;obtain ⟨he,x,y,hc⟩:=ih2;simp [chkR,hc,he,wr1]
    | ok q=>
     obtain ⟨b,i2⟩:=q;rw [h2] at ih2;obtain ⟨rb,s1,s2⟩:=wG h2;simp only [chkR] at ih2;have hC:=dj l[i] a b 0 (by omega) (by omega);simp only [Xd.e] at hC;simp [ih2,wr1];rw [aT];simp [wr2,i8,hi,Xd.e,hC];exact N8 _ _ _
  ·rw [k] at hA;simp [nT,aE,Xd.e,hi,Qf.2 hi,hA,k,hw];rw [aT];cases h1:chk p ps l n (i+1) with
   | error e=>
    rw [h1] at ih1;obtain ⟨he,a,b,hc⟩:=ih1;simp [c9,chkR,hc,he]
   | ok q=>
    obtain ⟨a,i1⟩:=q;rw [h1] at ih1;obtain ⟨ra,r1,r2⟩:=wG h1;simp only [chkR] at ih1;simp [c9,ih1];rw [aT];have ih2:=S6 p ps l hl n i1 (by omega) (by omega);simp only [aE] at ih2;cases h2:chk p ps l n i1 with
    | error e=>
     rw [h2] at ih2;obtain ⟨he,x,y,hc⟩:=ih2;simp [chkR,hc,he,wr1]
    | ok q=>
     obtain ⟨b,i2⟩:=q;rw [h2] at ih2;obtain ⟨rb,s1,s2⟩:=wG h2;simp only [chkR] at ih2;simp [ih2,wr1];rw [aT];have ih3:=S6 p ps l hl n i2 (by omega) (by omega);simp only [aE] at ih3;cases h3:chk p ps l n i2 with
     | error e=>
      rw [h3] at ih3;obtain ⟨he,x,y,hc⟩:=ih3;simp [chkR,hc,he,wr2]
     | ok q=>
      obtain ⟨c,i3⟩:=q;rw [h3] at ih3;simp only [chkR] at ih3;have hC:=dj l[i] a b c (by omega) (by omega);simp only [Xd.e] at hC;simp [ih3,wr2];rw [aT];simp [wr3,i8,hi,Xd.e,hC];exact N8 _ _ _
theorem VT (p:Prg) (ps:List Fld) (l:List Xd):a8 Φ 293 [.slice 3 (l.map Xd.c),.agg (scC p ps)]=some (.val (.tup [a7 (exE p ps l).1,a7 (exE p ps l).2])):=by
 rw [aB rfl rfl];by_cases h:24<l.length
 ·simp [vL,aE,h,exE]
 have hc:=S6 p ps l (by omega) (l.length+1) 0 (by omega) (by omega);simp only [aE,Int.ofNat_zero] at hc;cases q:chk p ps l (l.length+1) 0 with
 | error e=>
  rw [q] at hc;obtain ⟨he,a,b,hc⟩:=hc;simp [vL,aE,h,exE,q,hc,he]
 | ok r=>
  obtain ⟨w,j⟩:=r;rw [q] at hc;simp only [chkR] at hc;by_cases hj:j<l.length
  ·simp [vL,aE,h,exE,q,hc,hj]
  ·simp [vL,aE,h,exE,q,hc,hj]
def eGet (e:Envt) (h f:Int):Int:=if h= -1 then (at? e.metaF f).getD 0 else if (at? e.valid h).getD false then ((at? e.Xz h).bind fun l=>at? l f).getD 0 else 0
def eHas (e:Envt) (h f:Int):Bool:=if h= -1 then (at? e.metaF f).isSome else (at? e.valid h).getD false&&((at? e.Xz h).bind fun l=>at? l f).isSome
def ePut (h f:Int) (v:Int) (e:Envt):Envt:=
 if h= -1 then { e with metaF:=e.metaF.set f.toNat v } else { e with Xz:=e.Xz.set h.toNat ((e.Xz.getD h.toNat []).set f.toNat v) }
def eSet (p:Prg) (e:Envt) (h f v:Int):Envt:=if wid p h f=0\/eHas e h f=false then e else ePut h f (v % 2^(wid p h f).toNat) e
def eSw (e:Envt) (h:Nat) (b:Bool):Envt:={ e with valid:=e.valid.set h b,Xz:=e.Xz.set h ((e.Xz.getD h []).map fun _=>0) }
def eAdd (p:Prg) (e:Envt) (h:Int):Envt:=if (at? p.Xo h).isSome/\at? e.valid h=some false then eSw e h.toNat true else e
def eRem (p:Prg) (e:Envt) (h:Int):Envt:=if (at? p.Xo h).isSome/\(at? e.valid h).isSome then eSw e h.toNat false else e
def eNew (p:Prg):Envt:=⟨p.Xo.map fun _=>false,p.Xo.map fun h=>h.Xz.map fun _=>0,p.Xn.map fun _=>0,[]⟩
structure Shp (p:Prg) (e:Envt):Prop where
 v:e.valid.length=p.Xo.length
 f:e.Xz.length=p.Xo.length
 m:e.metaF.length=p.Xn.length
 g:∀i (h1:i<e.Xz.length) (h2:i<p.Xo.length),e.Xz[i].length=p.Xo[i].Xz.length
def xLd (e:Envt) (args:List Int) (x:Xd) (w:Int):Int:=
 (if x.op=1 then x.n else if x.op=2 then eGet e x.n x.w else if x.op=3 then (at? args x.n).getD 0 else if (at? e.valid x.n).getD false then 1 else 0) % 2^w.toNat
def xUn (x:Xd) (a w:Int):Int:=
 if x.op=5 then 2^w.toNat - 1 - a else if x.op=6 then a*2^x.n.toNat % 2^w.toNat else if x.op=7 then a / 2^x.n.toNat else a / 2^x.n.toNat % 2^x.w.toNat
def xBin (op a b w u:Int):Int:=
 if op=9 then (a+b) % 2^w.toNat else if op=10 then (a - b) % 2^w.toNat else if op=11 then iand .u32 a b else if op=12 then ior .u32 a b else if op=13 then ixor .u32 a b
 else if op=14 then a*2^u.toNat+b else if op=15 then (if a=b then 1 else 0) else if a<b then 1 else 0
def evx (p:Prg) (ps:List Fld) (l:List Xd) (e:Envt) (args:List Int):Nat->Nat->Int×Int×Nat
 | 0,i=>(0,0,i)
 | n+1,i=>match l[i]? with
  | none=>(0,0,i)
  | some x=>
   if ari x.op=0 then (xLd e args x (prim p ps x).1,(prim p ps x).1,i+1)
   else
    let a:=evx p ps l e args n (i+1)
    if ari x.op=1 then (xUn x a.1 a.2.1,(comb x a.2.1 0 0).1,a.2.2)
    else
     let b:=evx p ps l e args n a.2.2
     if ari x.op=2 then (xBin x.op a.1 b.1 a.2.1 b.2.1,(comb x a.2.1 b.2.1 0).1,b.2.2)
     else
      let c:=evx p ps l e args n b.2.2
      (if a.1=1 then b.1 else c.1,(comb x a.2.1 b.2.1 c.2.1).1,c.2.2)
def evl (p:Prg) (ps:List Fld) (l:List Xd) (e:Envt) (args:List Int):Int:=if (exE p ps l).2=0 then (evx p ps l e args (l.length+1) 0).1 else 0
def rGet (p:Prg) (rs:List (List Int)) (r i:Int):Int:=match at? p.Xl r,at? rs r with
 | some g,some l=>if i<g.size then (at? l i).getD 0 else 0
 | _,_=>0
def rSet (p:Prg) (rs:List (List Int)) (r i v:Int):List (List Int):=match at? p.Xl r,at? rs r with
 | some g,some l=>if i<g.size/\wBad g.Yc=false then rs.set r.toNat (l.set i.toNat (v % 2^g.Yc.toNat)) else rs
 | _,_=>rs
def stmX (p:Prg) (ps:List Fld) (args:List Int) (x:Envt×List (List Int)) (s:Xf):Envt×List (List Int):=
 if s.kind=1 then (eSet p x.1 s.dst.header s.dst.field (evl p ps s.value x.1 args),x.2)
 else if s.kind=2 then (eAdd p x.1 s.header,x.2)
 else if s.kind=3 then (eRem p x.1 s.header,x.2)
 else if s.kind=4 then (eSet p x.1 s.dst.header s.dst.field (rGet p x.2 s.Ye (evl p ps s.index x.1 args)),x.2)
 else (x.1,rSet p x.2 s.Ye (evl p ps s.index x.1 args) (evl p ps s.value x.1 args))
def exeX (p:Prg) (c:Xb) (e:Envt) (rs:List (List Int)):Envt×List (List Int):=match at? p.Xx c.Xy with
 | none=>(e,rs)
 | some a=>a.body.foldl (stmX p a.params c.args) (e,rs)
theorem sQ {n:Int} (h1:0<=n:=by omega) (h2:n<4294967296:=by omega):IntKind.wrap .u32 n=n:=by
 have e1:(2:Int)^32=4294967296:=rfl;simp only [IntKind.wrap,IntKind.bits,IntKind.signed,MC,e1];rw [QA (by simp)];omega
theorem Sd {v:Int} (h:ok32 0 v):BitVec.ofInt 32 v=BitVec.ofNat 32 v.toNat:=by
 obtain ⟨h1,h2⟩:=h;apply BitVec.eq_of_toNat_eq;simp;omega
theorem LV {v:Int} (h:ok32 0 v):(BitVec.ofInt 32 v).toNat=v.toNat:=by
 rw [Sd h,M9,QC (by have:=h.1;have:=h.2;omega)]
theorem UM {v m:Int} (hv:ok32 0 v) (hm:ok32 0 m):iand .u32 v m=((v.toNat&&& m.toNat:Nat):Int):=by
 unfold iand;show IntKind.wrap .u32 ((BitVec.ofInt 32 v&&& BitVec.ofInt 32 m).toNat:Int)=_;have hlt:=(BitVec.ofInt 32 v&&& BitVec.ofInt 32 m).isLt;rw [sQ,TQ,LV hv,LV hm]
theorem ir {v m:Int} (hv:ok32 0 v) (hm:ok32 0 m):ior .u32 v m=((v.toNat ||| m.toNat:Nat):Int):=by
 unfold ior;show IntKind.wrap .u32 ((BitVec.ofInt 32 v ||| BitVec.ofInt 32 m).toNat:Int)=_;have hlt:=(BitVec.ofInt 32 v ||| BitVec.ofInt 32 m).isLt;rw [sQ,BitVec.toNat_or,LV hv,LV hm]
theorem vu {v m:Int} (hv:ok32 0 v) (hm:ok32 0 m):ixor .u32 v m=((v.toNat^^^m.toNat:Nat):Int):=by
 unfold ixor;show IntKind.wrap .u32 ((BitVec.ofInt 32 v^^^BitVec.ofInt 32 m).toNat:Int)=_;have hlt:=(BitVec.ofInt 32 v^^^BitVec.ofInt 32 m).isLt;rw [sQ,BitVec.toNat_xor,LV hv,LV hm]
theorem uS (k:Nat):((2^k:Nat):Int)=2^k:=by rw [Int.natCast_pow];rfl
theorem CW {k:Nat} (h:k<=32):(2:Int)^k<=4294967296:=by
 have:=AM (n:=2) (by decide) h;rw [<- uS];have e:(2:Nat)^32=4294967296:=by decide
 omega
theorem sd {v:Int} (hv:ok32 0 v) {k:Nat} (hk:k<=32):iand .u32 v (2^k - 1)=v % 2^k:=by
 have h1:=CW hk;have h0:(0:Int)<2^k:=zY (by decide);have hm:ok32 0 ((2:Int)^k - 1):=⟨by omega,by omega⟩;have e:((2:Int)^k - 1).toNat=2^k - 1:=by have:=uS k;omega
 rw [UM hv hm,e,Nat.and_two_pow_sub_one_eq_mod,Int.natCast_emod,uS,TH hv.1]
theorem MZ {v:Int} {k:Nat} (h0:0<=v):v<2^k↔v.toNat<2^k:=by
 have:=uS k;omega
theorem nW {v:Int} {k:Nat} (h:0<=v/\v<2^k) (hk:k<=32):ok32 0 v:=⟨h.1,by have:=CW hk;omega⟩
theorem Ek {a b:Int} {k:Nat} (hk:k<=32) (ha:0<=a/\a<2^k) (hb:0<=b/\b<2^k):0<=iand .u32 a b/\iand .u32 a b<2^k:=by
 rw [UM (nW ha hk) (nW hb hk)];have:=Nat.and_lt_two_pow a.toNat ((MZ hb.1).1 hb.2);have e:=uS k;omega
theorem Jm {a b:Int} {k:Nat} (hk:k<=32) (ha:0<=a/\a<2^k) (hb:0<=b/\b<2^k):0<=ior .u32 a b/\ior .u32 a b<2^k:=by
 rw [ir (nW ha hk) (nW hb hk)];have:=Nat.or_lt_two_pow ((MZ ha.1).1 ha.2) ((MZ hb.1).1 hb.2);have e:=uS k;omega
theorem vt {a b:Int} {k:Nat} (hk:k<=32) (ha:0<=a/\a<2^k) (hb:0<=b/\b<2^k):0<=ixor .u32 a b/\ixor .u32 a b<2^k:=by
 rw [vu (nW ha hk) (nW hb hk)];have:=Nat.xor_lt_two_pow ((MZ ha.1).1 ha.2) ((MZ hb.1).1 hb.2);have e:=uS k;omega
theorem JL (v:Int) (n:Nat):0<=v % 2^n/\v % 2^n<2^n:=⟨Int.emod_nonneg _ (Int.ne_of_gt (zY (by decide))),TJ _ (zY (by decide))⟩
theorem V6 {a:Int} {k:Nat} (ha:0<=a/\a<2^k) (n:Nat):0<=a / 2^n/\a / 2^n<2^k:=by
 have h0:(0:Int)<2^n:=zY (by decide);refine ⟨Int.ediv_nonneg ha.1 (zB h0),?_⟩;have:=Int.ediv_le_self (2^n) ha.1;omega
theorem ji {a b:Int} {k n:Nat} (ha:0<=a/\a<2^k) (hb:0<=b/\b<2^n):0<=a*2^n+b/\a*2^n+b<2^(k+n):=by
 have h0:(0:Int)<2^n:=zY (by decide);have h1:=Int.mul_nonneg ha.1 (zB h0);have h2:(a+1)*2^n<=2^k*2^n:=Int.mul_le_mul_of_nonneg_right (by omega) (zB h0);rw [Int.add_mul,Int.one_mul] at h2;rw [Int.pow_add];omega
theorem CM {w:Int} (h:wBad w=false):1<=w/\w<=32:=by
 simp only [wBad,EY,decide_eq_false_iff_not] at h;omega
theorem EX {w:Int} (h:(wide w).2=0):(wide w).1=w/\1<=w/\w<=32:=by
 unfold wide at*;cases q:wBad w with
 | true=>rw [q] at h;simp at h
 | false=>simp;exact CM q
theorem VZ {p:Prg} {ps:List Fld} {x:Xd} (h:(prim p ps x).2=0):1<=(prim p ps x).1/\(prim p ps x).1<=32:=by
 unfold prim at*;split
 ·rename_i c;rw [a9 c] at h;split
  ·rename_i c2;rw [a9 c2] at h;cases h
  ·rename_i c2;rw [QA c2] at h;split
   ·rename_i c3;rw [a9 c3] at h;cases h
   ·exact CM (by simpa using c2)
 rename_i c;rw [QA c] at h;split
 ·rename_i c;rw [a9 c] at h;split
  ·rename_i w q;rw [q] at h;have:=EX h;omega
  ·rename_i q;rw [q] at h;cases h
 rename_i c;rw [QA c] at h;split
 ·rename_i c;rw [a9 c] at h;split
  ·rename_i w q;rw [q] at h;have:=EX h;omega
  ·rename_i q;rw [q] at h;cases h
 rename_i c;rw [QA c] at h;split
 ·simp
 ·rename_i q;rw [QA q] at h;cases h
def fitW (v w:Int):Prop:=1<=w/\w<=32/\0<=v/\v<2^w.toNat
theorem jc {o:Int} (h:ari o=1):o=5\/o=6\/o=7\/o=8:=by
 unfold ari at h;split at h
 ·cases h
 split at h
 ·omega
 split at h
 ·cases h
 split at h<;>cases h
theorem jd {o:Int} (h:ari o=2):9<=o/\o<=16:=by
 unfold ari at h;split at h
 ·cases h
 split at h
 ·cases h
 split at h
 ·assumption
 split at h<;>cases h
theorem je {o:Int} (h0:¬ari o<0) (h:¬ari o=0) (h1:¬ari o=1) (h2:¬ari o=2):o=17:=by
 unfold ari at h0 h h1 h2;split at h
 ·exact absurd rfl h
 rename_i q1;rw [QA q1] at h0 h1 h2;split at h1
 ·exact absurd rfl h1
 rename_i q2;rw [QA q2] at h0 h2;split at h2
 ·exact absurd rfl h2
 rename_i q3;rw [QA q3] at h0;split at h0
 ·assumption
 ·exact absurd (by decide) h0
theorem Uo {x:Xd} {a w:Int} (hx:ari x.op=1) (ha:fitW a w) (h:(comb x w 0 0).2=0):fitW (xUn x a w) (comb x w 0 0).1:=by
 obtain ⟨w1,w2,a1⟩:=ha;have hp:(0:Int)<2^w.toNat:=zY (by decide);rcases jc hx with o | o | o | o
 ·have e:comb x w 0 0=(w,0):=by simp [comb,o,ari]
  rw [e];simp only [xUn,o,if_true];exact ⟨w1,w2,by omega⟩
 ·have e:(comb x w 0 0).1=w:=by
   unfold comb at*;rw [a9 (by omega)] at h ⊢;split
   ·rename_i c;rw [a9 c] at h;cases h
   ·rfl
  rw [e];simp only [xUn,o,if_true];rw [QA (by decide)];exact ⟨w1,w2,JL _ _⟩
 ·have e:(comb x w 0 0).1=w:=by
   unfold comb at*;rw [a9 (by omega)] at h ⊢;split
   ·rename_i c;rw [a9 c] at h;cases h
   ·rfl
  rw [e];simp only [xUn,o,if_true];rw [QA (by decide),QA (by decide)];exact ⟨w1,w2,V6 a1 _⟩
 ·have e:(comb x w 0 0).1=x.w/\1<=x.w/\x.w<=32:=by
   unfold comb at*;rw [QA (by omega),a9 o] at h ⊢;split
   ·rename_i c;rw [a9 c] at h;cases h
   rename_i c;rw [QA c] at h;split
   ·rename_i c;rw [a9 c] at h;cases h
   ·rename_i c;simp only [not_or,OJ] at c;exact ⟨rfl,CM c.1⟩
  rw [e.1];simp only [xUn,o];rw [QA (by decide),QA (by decide),QA (by decide)];exact ⟨e.2.1,e.2.2,JL _ _⟩
theorem Ht {x:Xd} {a b w u:Int} (hx:ari x.op=2) (ha:fitW a w) (hb:fitW b u) (h:(comb x w u 0).2=0):fitW (xBin x.op a b w u) (comb x w u 0).1:=by
 obtain ⟨w1,w2,a1⟩:=ha;obtain ⟨u1,u2,b1⟩:=hb;have o:=jd hx;by_cases o14:x.op=14
 ·have e:(comb x w u 0).1=w+u/\1<=w+u/\w+u<=32:=by
   unfold comb at*;rw [QA (by omega),QA (by omega),a9 o14] at h ⊢;exact EX h
  rw [e.1];simp only [xBin,o14];refine ⟨e.2.1,e.2.2,?_⟩;have:=ji a1 b1;rw [show (w+u).toNat=w.toNat+u.toNat by omega];simpa using this
 have e:w=u/\(comb x w u 0).1=if x.op=15\/x.op=16 then 1 else w:=by
  unfold comb at*;rw [QA (by omega),QA (by omega),QA o14,QA (by omega)] at h ⊢;split
  ·rename_i c;rw [a9 c] at h;cases h
  ·rename_i c;refine ⟨Decidable.byContradiction fun q=>c ⟨hx,q⟩,?_⟩;split<;>rfl
 obtain ⟨rfl,e⟩:=e;rw [e];have k:w.toNat<=32:=by omega
 by_cases o15:x.op=15
 ·simp only [xBin,o15,true_or,if_true];refine ⟨by decide,by decide,?_⟩;simp;split<;>simp
 by_cases o16:x.op=16
 ·simp only [xBin,o16,or_true,if_true];refine ⟨by decide,by decide,?_⟩;simp;split<;>simp
 rw [QA (by omega)];refine ⟨w1,w2,?_⟩;unfold xBin;split
 ·exact JL _ _
 split
 ·exact JL _ _
 split
 ·exact Ek k a1 b1
 split
 ·exact Jm k a1 b1
 split
 ·exact vt k a1 b1
 ·omega
theorem Pu {x:Xd} {a b c w u v:Int} (hx:x.op=17) (hb:fitW b u) (hc:fitW c v) (h:(comb x w u v).2=0):fitW (if a=1 then b else c) (comb x w u v).1:=by
 have e:u=v/\(comb x w u v).1=u:=by
  unfold comb at*;rw [QA (by omega),QA (by omega),QA (by omega),a9 hx] at h ⊢;split
  ·rename_i q;rw [a9 q] at h;cases h
  ·rename_i q;exact ⟨by omega,rfl⟩
 obtain ⟨rfl,e⟩:=e;rw [e];split
 ·exact hb
 ·exact hc
theorem CK (p:Prg) (ps:List Fld) (l:List Xd) (e:Envt) (args:List Int):∀(n i:Nat) (w:Int) (j:Nat),chk p ps l n i= .ok (w,j)->(evx p ps l e args n i).2=(w,j)/\fitW (evx p ps l e args n i).1 w
 | 0,i,w,j,h=>by cases h
 | n+1,i,w,j,h=>by
  simp only [chk] at h;simp only [evx];cases hx:l[i]? with
  | none=>rw [hx] at h;cases h
  | some x=>
   rw [hx] at h;simp only at h ⊢;split at h
   ·cases h
   rename_i h0;split at h
   ·rename_i k0;rw [a9 k0];split at h
    ·rename_i k1;cases h;exact ⟨rfl,(VZ k1).1,(VZ k1).2,JL _ _⟩
    ·cases h
   rename_i k0;rw [QA k0];split at h
   ·cases h
   rename_i a i1 h1;obtain ⟨e1,f1⟩:=CK p ps l e args n (i+1) a i1 h1;rw [e1];split at h
   ·rename_i k1;rw [a9 k1];split at h
    ·rename_i k2;cases h;exact ⟨rfl,Uo k1 f1 k2⟩
    ·cases h
   rename_i k1;rw [QA k1];split at h
   ·cases h
   rename_i b i2 h2;obtain ⟨e2,f2⟩:=CK p ps l e args n i1 b i2 h2;rw [e2];split at h
   ·rename_i k2;rw [a9 k2];split at h
    ·rename_i k3;cases h;exact ⟨rfl,Ht k2 f1 f2 k3⟩
    ·cases h
   rename_i k2;rw [QA k2];split at h
   ·cases h
   rename_i c i3 h3;obtain ⟨e3,f3⟩:=CK p ps l e args n i2 c i3 h3;rw [e3];split at h
   ·rename_i k3;cases h;exact ⟨rfl,Pu (je h0 k0 k1 k2) f2 f3 k3⟩
   ·cases h
theorem NV (p:Prg) (ps:List Fld) (l:List Xd):∀(n i:Nat) (x:Int),chk p ps l n i= .error x->x≠0
 | 0,i,x,h=>by cases h;decide
 | n+1,i,x,h=>by
  simp only [chk] at h;split at h
  ·cases h;decide
  split at h
  ·cases h;decide
  split at h
  ·split at h
   ·cases h
   ·cases h;assumption
  split at h
  ·rename_i q;cases h;exact NV p ps l n _ _ q
  split at h
  ·split at h
   ·cases h
   ·cases h;assumption
  split at h
  ·rename_i q;cases h;exact NV p ps l n _ _ q
  split at h
  ·split at h
   ·cases h
   ·cases h;assumption
  split at h
  ·rename_i q;cases h;exact NV p ps l n _ _ q
  split at h
  ·cases h
  ·cases h;assumption
theorem Ke (p:Prg) (ps:List Fld) (l:List Xd) (e:Envt) (args:List Int) (h:(exE p ps l).2=0):fitW (evl p ps l e args) (exE p ps l).1:=by
 unfold evl;rw [a9 h];unfold exE at*;split at h
 ·cases h
 rename_i q;rw [QA q];split at h
 ·rename_i er q2;exact absurd h (NV p ps l _ _ _ q2)
 ·rename_i w i q2;split at h
  ·cases h
  ·rename_i q3;rw [QA q3];exact (CK p ps l e args _ _ _ _ q2).2
theorem NX (p:Prg) (ps:List Fld) (l:List Xd) (e:Envt) (args:List Int):ok32 0 (evl p ps l e args):=by
 by_cases h:(exE p ps l).2=0
 ·obtain ⟨h1,h2,h3⟩:=Ke p ps l e args h;exact nW h3 (by omega)
 ·unfold evl;rw [QA h];exact ⟨Int.le_refl _,by decide⟩
theorem wrapE (n:Int):IntKind.wrap .u32 n=n % 2^32:=by
 simp [IntKind.wrap,IntKind.bits,IntKind.signed]
theorem Sm {k n:Nat} (h:k<=n):(2:Int)^k∣2^n:=⟨2^(n - k),by rw [<- Int.pow_add];congr 1;omega⟩
theorem ij (n:Int) {k:Nat} (h:k<=32):IntKind.wrap .u32 n % 2^k=n % 2^k:=by
 rw [wrapE,Int.emod_emod_of_dvd _ (Sm h)]
theorem kn (n:Int):ok32 0 (IntKind.wrap .u32 n):=by
 rw [wrapE];exact ⟨Int.emod_nonneg _ (by decide),by have:=TJ n (show (0:Int)<2^32 by decide);omega⟩
theorem NL {w:Int} (h1:1<=w) (h2:w<=32):bC w=2^w.toNat - 1:=by
 have:wBad w=false:=by simp [wBad];omega
 simp [bC,this]
theorem w4 {v w:Int} (hv:ok32 0 v) (h1:1<=w) (h2:w<=32):iand .u32 v (bC w)=v % 2^w.toNat:=by
 rw [NL h1 h2,sd hv (by omega)]
theorem Jl {v:Int} (hv:ok32 0 v):inot .u32 v=4294967295 - v:=by
 have h1:=hv.1;have h2:=hv.2;unfold inot;show IntKind.wrap .u32 ((BitVec.ofInt 32 (if IntKind.signed .u32=true then -1 else IntKind.max .u32)^^^BitVec.ofInt 32 v).toNat:Int)=_;have e:BitVec.ofInt 32 (if IntKind.signed .u32=true then -1 else IntKind.max .u32)=BitVec.allOnes 32:=by decide
 rw [e,BitVec.allOnes_xor,BitVec.toNat_not,LV hv];rw [sQ];omega
theorem Ja {a b w:Int} (h1:1<=w) (h2:w<=32):a8 Φ 394 [.int .u32 a,.int .u32 b,a7 w]=some (.val (.int .u32 ((a+b) % 2^w.toNat))):=by
 rw [aB rfl rfl];have h:=w4 (kn (a+b)) h1 h2;rw [ij _ (by omega)] at h;simp [IY,nZ,h]
theorem Hq {a b w:Int} (h1:1<=w) (h2:w<=32):a8 Φ 395 [.int .u32 a,.int .u32 b,a7 w]=some (.val (.int .u32 ((a - b) % 2^w.toNat))):=by
 rw [aB rfl rfl];have h:=w4 (kn (a - b)) h1 h2;rw [ij _ (by omega)] at h;simp [IZ,nZ,h]
theorem Jc {a w:Int} (h:fitW a w):a8 Φ 390 [.int .u32 a,a7 w]=some (.val (.int .u32 (2^w.toNat - 1 - a))):=by
 rw [aB rfl rfl];obtain ⟨h1,h2,h3⟩:=h;have ho:=nW h3 (show w.toNat<=32 by omega);have hn:ok32 0 (4294967295 - a):=⟨by have:=ho.2;omega,by have:=ho.1;omega⟩;have h:=w4 hn h1 h2;have e:(4294967295 - a) % 2^w.toNat=2^w.toNat - 1 - a:=by
  have e1:(4294967296:Int)=2^w.toNat*2^(32 - w.toNat):=by
   rw [<- Int.pow_add,show w.toNat+(32 - w.toNat)=32 by omega];rfl
  have e2:4294967295 - a=(2^w.toNat - 1 - a)+2^w.toNat*(2^(32 - w.toNat) - 1):=by
   rw [Int.mul_sub,<- e1];omega
  rw [e2,Int.add_mul_emod_self_left];exact EZ (by omega) (by omega)
 rw [e] at h;simp [IU,nZ,Jl ho,h]
theorem Ho {a n w:Int} (h1:1<=w) (h2:w<=32) (h3:0<=n) (h4:n<=31):a8 Φ 391 [.int .u32 a,a7 n,a7 w]=some (.val (.int .u32 (a*2^n.toNat % 2^w.toNat))):=by
 rw [aB rfl rfl];have e:ishl .u32 a n=IntKind.wrap .u32 (a*2^n.toNat):=by
  unfold ishl;rw [show min n.toNat (IntKind.bits .u32)=n.toNat by simp [IntKind.bits];omega]
 have h:=w4 (kn (a*2^n.toNat)) h1 h2;rw [ij _ (by omega)] at h;have hn:¬n<0:=by omega
 simp [IV,nZ,hn,h3,e,h]
theorem SJ {a n:Int} (ha:0<=a) (h3:0<=n) (h4:n<=32):ishr .u32 a n=a / 2^n.toNat:=by
 unfold ishr;rw [show min n.toNat (IntKind.bits .u32)=n.toNat by simp [IntKind.bits];omega];exact Int.fdiv_eq_ediv_of_nonneg _ (zB (zY (by decide)))
theorem Hp {a n w:Int} (h:fitW a w) (h3:0<=n) (h4:n<=31):a8 Φ 392 [.int .u32 a,a7 n,a7 w]=some (.val (.int .u32 (a / 2^n.toNat))):=by
 rw [aB rfl rfl];obtain ⟨h1,h2,h5⟩:=h;have ho:=nW h5 (show w.toNat<=32 by omega);have h:=w4 ho h1 h2;rw [EZ h5.1 h5.2] at h;have hn:¬n<0:=by omega
 simp [IW,nZ,hn,h3,h,SJ h5.1 h3 (by omega)]
theorem Y8 (w:Int):a8 Φ 263 [.slice 1 [[a7 w]]]=some (.val (.bool (!wBad w))):=by
 rw [aB rfl rfl];simp [sY];rw [aT];by_cases h1:w<1
 ·simp [aH,h1,wBad]
 by_cases h2:32<w
 ·simp [aH,h1,h2,wBad]
 have w1:IntKind.wrap .i64 1=1:=rfl;simp [aH,h1,h2,wBad,w1];rw [aT];simp [aH,gP]
theorem Y9 (w u:Int):a8 Φ 263 [.slice 1 [[a7 w],[a7 u]]]=some (.val (.bool (!wBad w&& !wBad u))):=by
 rw [aB rfl rfl];have w1:IntKind.wrap .i64 1=1:=rfl;have w2:IntKind.wrap .i64 2=2:=rfl;simp [sY];rw [aT];by_cases h1:w<1
 ·simp [aH,h1,wBad]
 by_cases h2:32<w
 ·simp [aH,h1,h2,wBad]
 simp [aH,h1,h2,wBad,w1];rw [aT];by_cases h3:u<1
 ·simp [aH,h3,wBad]
 by_cases h4:32<u
 ·simp [aH,h3,h4,wBad]
 simp [aH,h3,h4,wBad,w2];rw [aT];simp [aH,gP]
theorem ZX {a n u:Int} (ha:ok32 0 a) (h1:1<=u) (h2:u<=32) (h3:0<=n) (h4:n+u<=32):a8 Φ 393 [.int .u32 a,a7 n,a7 u]=some (.val (.int .u32 (a / 2^n.toNat % 2^u.toNat))):=by
 rw [aB rfl rfl];have hb:wBad u=false:=by simp [wBad];omega
 have hv:=Y8 u;rw [hb] at hv;have hd:=V6 (k:=32) (a:=a) ⟨ha.1,by have:=ha.2;omega⟩ n.toNat;have h:=w4 (nW hd (Qb _)) h1 h2;have hn:¬n<0:=by omega
 have hw:IntKind.wrap .i64 (32 - u)=32 - u:=aQ;have hg:¬32 - u<n:=by omega
 simp [IX,nZ,hv,hn,h3,hw,hg,h,SJ ha.1 h3 (by omega)]
theorem Jb {a w b u:Int} (ha:fitW a w) (hb:fitW b u) (h:w+u<=32):a8 Φ 396 [.int .u32 a,a7 w,.int .u32 b,a7 u]=some (.val (.tup [.int .u32 (a*2^u.toNat+b),.bool true])):=by
 rw [aB rfl rfl];obtain ⟨w1,w2,a1⟩:=ha;obtain ⟨u1,u2,b1⟩:=hb;have q1:wBad w=false:=by simp [wBad];omega
 have q2:wBad u=false:=by simp [wBad];omega
 have hv:=Y9 w u;rw [q1,q2] at hv;have ha:=w4 (nW a1 (show w.toNat<=32 by omega)) w1 w2;have hb:=w4 (nW b1 (show u.toNat<=32 by omega)) u1 u2;rw [EZ a1.1 a1.2] at ha;rw [EZ b1.1 b1.2] at hb;have hc:=ji a1 b1;rw [<- show (w+u).toNat=w.toNat+u.toNat by omega] at hc;have hc2:=nW hc (show (w+u).toNat<=32 by omega);have hs:ishl .u32 a u=a*2^u.toNat:=by
  unfold ishl;rw [show min u.toNat (IntKind.bits .u32)=u.toNat by simp [IntKind.bits];omega];have:=Int.mul_nonneg a1.1 (zB ((zY (by decide):(0:Int)<2^u.toNat)));exact sQ this (by have:=hc2.2;omega)
 have ho:ior .u32 (a*2^u.toNat) b=a*2^u.toNat+b:=by
  have hm:=Int.mul_nonneg a1.1 (zB ((zY (by decide):(0:Int)<2^u.toNat)));rw [ir ⟨hm,by have:=hc2.2;omega⟩ (nW b1 (by omega))];have e1:(a*2^u.toNat).toNat=2^u.toNat*a.toNat:=by
   have e:a*2^u.toNat=((2^u.toNat*a.toNat:Nat):Int):=by
    rw [Int.natCast_mul,uS,TH a1.1,Int.mul_comm]
   rw [e,uW]
  rw [e1,<- Nat.two_pow_add_eq_or_of_lt ((MZ b1.1).1 b1.2)];rw [Int.natCast_add,Int.natCast_mul,uS,TH a1.1,TH b1.1,Int.mul_comm]
 have hw:IntKind.wrap .i64 (w+u)=w+u:=aQ;have hg:¬32<w+u:=by omega
 have hu:0<=u:=by omega
 simp [J0,nZ,hv,hw,hg,ha,hb,hs,ho,hu]
theorem FieldRef.e (x:FieldRef):FieldRef.c x=[a7 x.header,a7 x.field]:=by simp [FieldRef.c]
theorem Gg (p:Prg) (h i:Int):a8 Φ 370 [.agg (Prg.c p),.agg [a7 h,a7 i]]=some (.val (match decl p h i with
  | some w=> .tup [.int .i64 w,.bool true]
  | none=> .tup [.int .i64 0,.bool false])):=by
 rw [aB rfl rfl,V5];by_cases hm:h= -1
 ·subst hm;by_cases i0:i<0
  ·rw [show cA p (-1) i=none by simp [cA,cY i0]];simp [lZ,Prg.e,i0]
  by_cases i1:(p.Xn.length:Int)<=i
  ·rw [show cA p (-1) i=none by simp [cA,cW i1]];simp [lZ,Prg.e,i0,i1]
  obtain ⟨k,rfl⟩:∃k:Nat,i=k:=⟨i.toNat,by omega⟩;have hk:k<p.Xn.length:=by omega
  rw [show cA p (-1) k=some p.Xn[k] by simp [cA,hk]];simp [lZ,Prg.e,i0,i1,hk,Fld.e]
 by_cases h0:h<0
 ·rw [show cA p h i=none by simp [cA,hm,cY h0]];simp [lZ,Prg.e,hm,h0]
 by_cases h1:(p.Xo.length:Int)<=h
 ·rw [show cA p h i=none by simp [cA,hm,cW h1]];simp [lZ,Prg.e,hm,h0,h1]
 obtain ⟨m,rfl⟩:∃k:Nat,h=k:=⟨h.toNat,by omega⟩;have hk:m<p.Xo.length:=by omega
 by_cases i0:i<0
 ·rw [show cA p m i=none by simp [cA,hm,hk,cY i0]];simp [lZ,Prg.e,hm,hk,Qf.2 hk,i0,Xi.e]
 by_cases i1:(p.Xo[m].Xz.length:Int)<=i
 ·rw [show cA p m i=none by simp [cA,hm,hk,cW i1]];simp [lZ,Prg.e,hm,hk,Qf.2 hk,i0,i1,Xi.e]
 obtain ⟨k,rfl⟩:∃k:Nat,i=k:=⟨i.toNat,by omega⟩;have hk2:k<p.Xo[m].Xz.length:=by omega
 rw [show cA p m k=some p.Xo[m].Xz[k] by simp [cA,hm,hk,hk2]];simp [lZ,Prg.e,hm,hk,Qf.2 hk,hk2,Qf.2 hk2,Xi.e,Fld.e]
theorem Oe (p:Prg) (ps:List Fld) (l:List Xd) (w:Int):a8 Φ 371 [.agg (scC p ps),.slice 3 (l.map Xd.c),a7 w]=some (.val (a7 (valE p ps l w))):=by
 rw [aB rfl rfl];have h:=VT p ps l;simp only [aE] at h;by_cases z:(exE p ps l).2=0
 ·rw [z] at h;by_cases y:(exE p ps l).1=w
  ·simp [yG,aE,h,valE,z,y]
  ·simp [yG,aE,h,valE,z,y]
 ·simp [yG,aE,h,valE,z]
theorem U7 {G:Type} {l:List G} {i:Int}:(at? l i).isSome=(!(decide (i<0) || decide ((l.length:Int)<=i))):=by
 by_cases h0:i<0
 ·simp [cY h0,h0]
 by_cases h1:(l.length:Int)<=i
 ·simp [cW h1,h1]
 obtain ⟨k,rfl⟩:∃k:Nat,i=k:=⟨i.toNat,by omega⟩;have:k<l.length:=by omega
 simp [this,h0]
theorem Nu (p:Prg) (ps:List Fld) (s:Xf):a8 Φ 314 [.agg (scC p ps),.agg (Xf.c s)]=some (.val (a7 (stmE p ps s))):=by
 rw [aB rfl rfl];have hd:=Gg p s.dst.header s.dst.field;have hi:=VT p ps s.index;simp only [Prg.e] at hd;simp only [aE] at hi;have hr:(s.Ye<0/\at? p.Xl s.Ye=none)\/(¬s.Ye<0/\(p.Xl.length:Int)<=s.Ye/\at? p.Xl s.Ye=none)\/∃k:Nat,∃h:k<p.Xl.length,s.Ye=k/\at? p.Xl s.Ye=some p.Xl[k]:=by
  by_cases h0:s.Ye<0
  ·exact .inl ⟨h0,cY h0⟩
  by_cases h1:(p.Xl.length:Int)<=s.Ye
  ·exact .inr (.inl ⟨h0,h1,cW h1⟩)
  obtain ⟨k,hk⟩:∃k:Nat,s.Ye=k:=⟨s.Ye.toNat,by omega⟩;exact .inr (.inr ⟨k,by omega,hk,by rw [hk];simp⟩)
 have hx:∀w,a8 Φ 371 [.agg (scC p ps),.slice 3 (s.value.map Xd.c),a7 w]=some (.val (a7 (valE p ps s.value w))):=Oe p ps s.value;simp only [aE] at hx;have hd':a8 Φ 370 [.agg (uO p []),.agg [a7 s.dst.header,a7 s.dst.field]]=
   some (.val (.tup [a7 ((decl p s.dst.header s.dst.field).getD 0),.bool (decl p s.dst.header s.dst.field).isSome])):=by
  rw [hd];cases decl p s.dst.header s.dst.field<;>rfl
 clear hd;by_cases k1:s.kind=1
 ·rcases hr with ⟨r0,rn⟩ | ⟨r0,r1,rn⟩ | ⟨m,hm,rk,rn⟩<;>cases qd:decl p s.dst.header s.dst.field<;>rw [qd] at hd'
  ·simp [aO,aE,Xf.e,hd',stmE,qd,k1,uQ.2 r0]
  ·simp [aO,aE,Xf.e,hd',stmE,qd,k1,uQ.2 r0,hx]
  ·simp [aO,aE,Xf.e,hd',stmE,qd,k1,iG.1 r0,iG.2 r1]
  ·simp [aO,aE,Xf.e,hd',stmE,qd,k1,iG.1 r0,iG.2 r1,hx]
  ·simp [aO,aE,Xf.e,hd',stmE,qd,k1,rk,hm]
  ·simp [aO,aE,Xf.e,hd',stmE,qd,k1,rk,hm,hx]
 by_cases k2:s.kind=2
 ·have e:stmE p ps s=if (at? p.Xo s.header).isSome then 0 else 8:=by simp [stmE,k2]
  rw [e,U7];by_cases h0:s.header<0<;>by_cases h1:(p.Xo.length:Int)<=s.header<;>rcases hr with ⟨r0,rn⟩ | ⟨r0,r1,rn⟩ | ⟨m,hm,rk,rn⟩
  all_goals first
   | simp [aO,aE,Xf.e,hd',k2,uQ.2 r0,h0,h1]
   | simp [aO,aE,Xf.e,hd',k2,iG.1 r0,iG.2 r1,h0,h1]
   | simp [aO,aE,Xf.e,hd',k2,rk,hm,h0,h1]
 by_cases k3:s.kind=3
 ·have e:stmE p ps s=if (at? p.Xo s.header).isSome then 0 else 8:=by simp [stmE,k3]
  rw [e,U7];by_cases h0:s.header<0<;>by_cases h1:(p.Xo.length:Int)<=s.header<;>rcases hr with ⟨r0,rn⟩ | ⟨r0,r1,rn⟩ | ⟨m,hm,rk,rn⟩
  all_goals first
   | simp [aO,aE,Xf.e,hd',k3,uQ.2 r0,h0,h1]
   | simp [aO,aE,Xf.e,hd',k3,iG.1 r0,iG.2 r1,h0,h1]
   | simp [aO,aE,Xf.e,hd',k3,rk,hm,h0,h1]
 by_cases k4:s.kind=4
 ·rcases hr with ⟨r0,rn⟩ | ⟨r0,r1,rn⟩ | ⟨m,hm,rk,rn⟩
  ·simp [aO,aE,Xf.e,hd',stmE,k4,uQ.2 r0,rn]
  ·simp [aO,aE,Xf.e,hd',stmE,k4,iG.1 r0,iG.2 r1,rn]
  ·rw [rk] at rn;cases qd:decl p s.dst.header s.dst.field with
   | none=>rw [qd] at hd';simp [aO,aE,Xf.e,hd',stmE,k4,rk,hm,rn,qd]
   | some w=>
    rw [qd] at hd';by_cases z:(exE p ps s.index).2=0
    ·rw [z] at hi;by_cases y:w=p.Xl[m].Yc
     ·simp [aO,aE,Xf.e,Xg.e,hd',stmE,k4,rk,hm,rn,qd,hi,z,y]
     ·simp [aO,aE,Xf.e,Xg.e,hd',stmE,k4,rk,hm,rn,qd,hi,z,y]
    ·simp [aO,aE,Xf.e,hd',stmE,k4,rk,hm,rn,qd,hi,z]
 by_cases k5:s.kind=5
 ·rcases hr with ⟨r0,rn⟩ | ⟨r0,r1,rn⟩ | ⟨m,hm,rk,rn⟩
  ·simp [aO,aE,Xf.e,hd',stmE,k5,uQ.2 r0,rn]
  ·simp [aO,aE,Xf.e,hd',stmE,k5,iG.1 r0,iG.2 r1,rn]
  ·rw [rk] at rn;by_cases z:(exE p ps s.index).2=0
   ·rw [z] at hi;simp [aO,aE,Xf.e,Xg.e,hd',stmE,k5,rk,hm,rn,hi,z,hx]
   ·simp [aO,aE,Xf.e,hd',stmE,k5,rk,hm,rn,hi,z]
 rcases hr with ⟨r0,rn⟩ | ⟨r0,r1,rn⟩ | ⟨m,hm,rk,rn⟩
 ·simp [aO,aE,Xf.e,hd',stmE,k1,k2,k3,k4,k5,uQ.2 r0]
 ·simp [aO,aE,Xf.e,hd',stmE,k1,k2,k3,k4,k5,iG.1 r0,iG.2 r1]
 ·simp [aO,aE,Xf.e,hd',stmE,k1,k2,k3,k4,k5,rk,hm]
end Go.Av
