/-
 Identifiers: the program's answer.
-/
import Derived.Test.YtcehjengeaafpaaGreatFunsAM
set_option linter.unusedVariables false
set_option linter.unusedSimpArgs false
set_option linter.constructorNameAsVariable false
namespace Go.Av
set_option maxRecDepth 4000
abbrev mW (p:Prg) (r:List AV):List AV:= .str p.name::.slice 2 (p.Xo.map Xi.c)::.slice 2 (p.Xn.map Fld.c)::.slice 3 (p.Xl.map Xg.c)::.slice 3 (p.Xx.map Action.c)::.slice 6 (p.Xm.map Tbl.c)::.slice 7 (p.Xw.map Xc.c)::.slice 5 (p.Ya.map Xa.c)::.slice 1 (p.Xr.map cI)::r
def letC (c:Int):Bool:=(decide (97<=c)&&decide (c<=122)) || (decide (65<=c)&&decide (c<=90))
def digI (c:Int):Bool:=decide (48<=c)&&decide (c<=57)
def idC (c:Int):Bool:=letC c || (digI c || decide (c=95))
theorem Hb (c:Int):aB Φ q9 [.int .u8 c]=some (.val (.bool (letC c))):=by
 rw [aD rfl rfl];by_cases h1:97<=c<;>by_cases h2:c<=122<;>by_cases h3:65<=c<;>simp [CU,letC,h1,h2,h3]
theorem qw5 (c:Int):aB Φ uW [.int .u8 c]=some (.val (.bool (digI c))):=by
 rw [aD rfl rfl];by_cases h1:48<=c<;>simp [CX,digI,h1]
theorem YD (c:Int):aB Φ mM [.int .u8 c]=some (.val (.bool (idC c))):=by
 rw [aD rfl rfl];have h1:=Hb c;have h2:=qw5 c;cases q1:letC c<;>cases q2:digI c<;>rw [q1] at h1<;>rw [q2] at h2<;>simp [CW,idC,h1,h2,q1,q2]
theorem qyt (s:List UInt8) (hs:s.length<2^40):aB Φ uV [.str s,.func (.func mM) [] []]=some (.val (a7 (s.takeWhile fun b=>idC b.toNat).length)):=by
 rw [aD rfl rfl];simp [CV];refine (mQ s.length (fun i e=>look 0 e=some (.str s)/\look 1 e=some (.func (.func mM) [] [])/\look 5 e=some (a7 i))
  (fun i=>some (Rt.val (a7 (i+((s.drop i).takeWhile fun b=>idC b.toNat).length:Nat)))) ?_ ?_ 0 _ (Qc _) ?_).trans (by simp)
 ·rintro i e L hi hL ⟨h0,h1,h5⟩ ih;have hw:=aP i (by omega);have hc:=YD (s[i].toNat:Int);rw [Qi hi];cases q:idC (s[i].toNat:Int) with
  | true=>
   rw [q] at hc;rw [show List.takeWhile (fun b:UInt8=>idC b.toNat) (s[i]::s.drop (i+1))=s[i]::List.takeWhile (fun b:UInt8=>idC b.toNat) (s.drop (i+1)) from List.takeWhile_cons_of_pos q];simp [c_329_l0,h0,h1,h5,hi,hc,hw];refine (ih _ ⟨by simp [h0],by simp [h1],by simp⟩).trans ?_;simp;omega
  | false=>
   rw [q] at hc;rw [show List.takeWhile (fun b:UInt8=>idC b.toNat) (s[i]::s.drop (i+1))=[] from List.takeWhile_cons_of_neg (by simp [q])];simp [c_329_l0,c_329_k1,h0,h1,h5,hi,hL,hc]
 ·rintro e L hL ⟨h0,h1,h5⟩;simp [c_329_l0,c_329_k1,h0,h5,hL]
 ·simp
def idS (s:List UInt8):Bool:=match s with
 | []=>false
 | c::_=>decide (s.length<=16)&&(letC c.toNat&&s.all fun b=>idC b.toNat)
theorem Gp (p:UInt8->Bool):∀s:List UInt8,((s.takeWhile p).length=s.length)↔s.all p=true
 | []=>by simp
 | c::r=>by
  have:=Gp p r;cases q:p c<;>simp [q];simpa using this
theorem VM {s:List UInt8} (h:0<s.length):idS s=(decide (s.length<=16)&&(letC s[0].toNat&&s.all fun b=>idC b.toNat)):=by
 cases s with
 | nil=>simp at h
 | cons c r=>rfl
theorem DY (s:List UInt8) (hs:s.length<2^40):aB Φ eD [.str s]=some (.val (.bool (idS s))):=by
 rw [aD rfl rfl];by_cases h0:s.length=0
 ·have:s=[]:=Qg h0;subst this;simp [lI,idS]
 have hp:0<s.length:=by omega
 rw [VM hp];by_cases h16:16<s.length
 ·simp [lI,h0,h16,Qf.2 h16]
 have hl:=Hb (s[0].toNat:Int);cases q:letC (s[0].toNat:Int) with
 | false=>
  rw [q] at hl;simp [lI,h0,hp,h16,hl]
 | true=>
  rw [q] at hl;have he:=qyt s hs;have ht:=Gp (fun b=>idC b.toNat) s;have e:(decide ((s.takeWhile fun b=>idC b.toNat).length=s.length))=(s.all fun b=>idC b.toNat):=by
   cases h:(s.all fun b=>idC b.toNat) with
   | true=>exact decide_eq_true (ht.2 h)
   | false=>exact decide_eq_false (fun h2=>by have:=ht.1 h2;rw [h] at this;cases this)
  simp [lI,h0,hp,h16,Nat.le_of_not_lt h16,hl,he,e]
theorem Fld.e (x:Fld):Fld.c x=[.str x.name,a7 x.Yc]:=by simp [Fld.c]
theorem Xd.e (x:Xd):Xd.c x=[a7 x.op,a7 x.n,a7 x.w]:=by simp [Xd.c]
theorem Xk.e (x:Xk):Xk.c x=[a7 x.field.header,a7 x.field.field,a7 x.kind]:=by simp [Xk.c]
theorem Xb.e (x:Xb):Xb.c x=[a7 x.Xy,.slice 1 (x.args.map c32)]:=by simp [Xb.c]
theorem Xj.e (x:Xj):Xj.c x=[.int .u32 x.value,.int .u32 x.Yd,a7 x.next]:=by simp [Xj.c]
theorem Action.e (x:Action):Action.c x=[.str x.name,.slice 2 (x.params.map Fld.c),.slice 7 (x.body.map Xf.c)]:=by simp [Action.c]
theorem Xi.e (x:Xi):Xi.c x=[.str x.name,.slice 2 (x.Xz.map Fld.c)]:=by simp [Xi.c]
theorem Xg.e (x:Xg):Xg.c x=[.str x.name,a7 x.Yc,a7 x.size]:=by simp [Xg.c]
theorem Xf.e (x:Xf):Xf.c x=[a7 x.kind,a7 x.dst.header,a7 x.dst.field,a7 x.Ye,a7 x.header,.slice 3 (x.index.map Xd.c),.slice 3 (x.value.map Xd.c)]:=by simp [Xf.c]
theorem Tbl.e (x:Tbl):Tbl.c x=[.str x.name,.slice 3 (x.keys.map Xk.c),.slice 1 (x.Xx.map cI),a7 x.Yb.Xy,.slice 1 (x.Yb.args.map c32),a7 x.size]:=by simp [Tbl.c]
theorem Xc.e (x:Xc):Xc.c x=[.str x.name,.slice 1 (x.extract.map cI),.bool x.select,a7 x.on.header,a7 x.on.field,.slice 3 (x.cases.map Xj.c),a7 x.Yb]:=by simp [Xc.c]
theorem Xa.e (k t:Int) (c:List Xd) (a b:List Xa):Xa.c (.mk k t c a b)=[a7 k,a7 t,.slice 3 (c.map Xd.c),.slice 5 (a.map Xa.c),.slice 5 (b.map Xa.c)]:=by simp [Xa.c,Xa.cs_eq]
theorem Prg.e (x:Prg):Prg.c x=[.str x.name,.slice 2 (x.Xo.map Xi.c),.slice 2 (x.Xn.map Fld.c),.slice 3 (x.Xl.map Xg.c),.slice 3 (x.Xx.map Action.c),.slice 6 (x.Xm.map Tbl.c),.slice 7 (x.Xw.map Xc.c),.slice 5 (x.Ya.map Xa.c),.slice 1 (x.Xr.map cI)]:=by simp [Prg.c]
def feF {Z:Type} (f:Nat->Option Z):Nat->Nat->Option Z
 | 0,_=>none
 | n+1,i=>match f i with
  | some x=>some x
  | none=>feF f n (i+1)
def fe {Z:Type} (f:Nat->Option Z) (N i:Nat):Option Z:=feF f (N - i) i
theorem bS {Z:Type} {f:Nat->Option Z} {N i:Nat} {x:Z} (hi:i<N) (h:f i=some x):fe f N i=some x:=by
 unfold fe;rw [show N - i=(N - (i+1))+1 by omega];simp [feF,h]
theorem fI {Z:Type} {f:Nat->Option Z} {N i:Nat} (hi:i<N) (h:f i=none):fe f N i=fe f N (i+1):=by
 unfold fe;rw [show N - i=(N - (i+1))+1 by omega];simp [feF,h]
theorem gM {Z:Type} {f:Nat->Option Z} {N:Nat}:fe f N N=none:=by simp [fe,feF]
def er (e:Int):Option Int:=if e=0 then none else some e
@[simp] theorem er_zero:er 0=none:=by simp [er]
def errO:Option Int->Int
 | none=>0
 | some e=>e
@[simp] theorem Sz:errO none=0:=by simp [errO]
@[simp] theorem Ta (e:Int):errO (some e)=e:=by simp [errO]
def at? {Z:Type} (l:List Z) (i:Int):Option Z:=if i<0 then none else l[i.toNat]?
@[simp] theorem nK {Z:Type} (l:List Z) (i:Nat):at? l (i:Int)=l[i]? :=by
 unfold at?;rw [QA (by omega)];simp
theorem gC {Z:Type} {l:List Z} {i:Int} (h:i<0):at? l i=none:=by simp [at?,h]
theorem iJ {Z:Type} {l:List Z} {i:Int} (h:(l.length:Int)<=i):at? l i=none:=by
 unfold at?;split
 ·rfl
 ·simp;omega
def wBad (w:Int):Bool:=decide (w<1) || decide (32<w)
def dupN {Z:Type} (nm:Z->List UInt8) (l:List Z) (i:Nat) (x:Z):Bool:=(l.take i).any fun y=>decide (nm y=nm x)
def fldE (l:List Fld) (i:Nat) (f:Fld):Int:=if idS f.name=false then 6 else if wBad f.Yc then 10 else if dupN Fld.name l i f then 7 else 0
def GQ (l:List Fld):Option Int:=fe (fun i=>(l[i]?).bind fun f=>er (fldE l i f)) l.length 0
def wSum (l:List Fld):Int:=(l.map (·.Yc)).sum
def hdrE (h:Xi):Int:=if idS h.name=false then 6 else if h.Xz.length=0 then 8 else if 12<h.Xz.length then 12 else
 match GQ h.Xz with
 | some e=>e
 | none=>if (wSum h.Xz) % 8=0 then 0 else 10
def regE (r:Xg):Int:=if idS r.name=false then 6 else if wBad r.Yc then 10 else if r.size<1\/64<r.size then 9 else 0
def decl (p:Prg) (h f:Int):Option Int:=(if h= -1 then some p.Xn else (at? p.Xo h).map (·.Xz)).bind fun l=>(at? l f).map (·.Yc)
def wid (p:Prg) (h f:Int):Int:=match decl p h f with
 | some w=>if wBad w then 0 else w
 | none=>0
def ari (op:Int):Int:=if 1<=op/\op<=4 then 0 else if 5<=op/\op<=8 then 1 else if 9<=op/\op<=16 then 2 else if op=17 then 3 else -1
def wide (w:Int):Int×Int:=if wBad w then (0,10) else (w,0)
def prim (p:Prg) (ps:List Fld) (x:Xd):Int×Int:=
 if x.op=1 then (if wBad x.w then (0,10) else if x.n<0\/2^x.w.toNat - 1<x.n then (0,9) else (x.w,0))
 else if x.op=2 then (match decl p x.n x.w with | some w=>wide w | none=>(0,8))
 else if x.op=3 then (match at? ps x.n with | some f=>wide f.Yc | none=>(0,8))
 else if (at? p.Xo x.n).isSome then (1,0) else (0,8)
def comb (x:Xd) (a b c:Int):Int×Int:=
 if x.op=6\/x.op=7 then (if x.n<0\/31<x.n then (0,9) else (a,0))
 else if x.op=8 then (if x.n<0 then (0,9) else if wBad x.w\/a - x.w<x.n then (0,10) else (x.w,0))
 else if x.op=14 then wide (a+b)
 else if x.op=17 then (if a≠1\/b≠c then (0,10) else (b,0))
 else if ari x.op=2/\a≠b then (0,10)
 else if x.op=15\/x.op=16 then (1,0) else (a,0)
def chk (p:Prg) (ps:List Fld) (l:List Xd):Nat->Nat->Except Int (Int×Nat)
 | 0,_=> .error 3
 | n+1,i=>match l[i]? with
  | none=> .error 3
  | some x=>
   if ari x.op<0 then .error 11
   else if ari x.op=0 then (if (prim p ps x).2=0 then .ok ((prim p ps x).1,i+1) else .error (prim p ps x).2)
   else match chk p ps l n (i+1) with
    | .error e=> .error e
    | .ok (a,i1)=>
     if ari x.op=1 then (if (comb x a 0 0).2=0 then .ok ((comb x a 0 0).1,i1) else .error (comb x a 0 0).2)
     else match chk p ps l n i1 with
      | .error e=> .error e
      | .ok (b,i2)=>
       if ari x.op=2 then (if (comb x a b 0).2=0 then .ok ((comb x a b 0).1,i2) else .error (comb x a b 0).2)
       else match chk p ps l n i2 with
        | .error e=> .error e
        | .ok (c,i3)=>if (comb x a b c).2=0 then .ok ((comb x a b c).1,i3) else .error (comb x a b c).2
def exE (p:Prg) (ps:List Fld) (l:List Xd):Int×Int:=
 if 24<l.length then (0,12) else match chk p ps l (l.length+1) 0 with
 | .error e=>(0,e)
 | .ok (w,i)=>if i<l.length then (0,4) else (w,0)
def valE (p:Prg) (ps:List Fld) (l:List Xd) (w:Int):Int:=if (exE p ps l).2=0 then (if (exE p ps l).1=w then 0 else 10) else (exE p ps l).2
def stmE (p:Prg) (ps:List Fld) (s:Xf):Int:=
 if s.kind=1 then (match decl p s.dst.header s.dst.field with
  | none=>8
  | some w=>valE p ps s.value w)
 else if s.kind=2\/s.kind=3 then (if (at? p.Xo s.header).isSome then 0 else 8)
 else if s.kind=4 then (match at? p.Xl s.Ye,decl p s.dst.header s.dst.field with
  | some r,some w=>if (exE p ps s.index).2=0 then (if w=r.Yc then 0 else 10) else (exE p ps s.index).2
  | _,_=>8)
 else if s.kind=5 then (match at? p.Xl s.Ye with
  | some r=>if (exE p ps s.index).2=0 then valE p ps s.value r.Yc else (exE p ps s.index).2
  | none=>8)
 else 11
def actD (a:Action):Int:=if idS a.name=false then 6 else if 4<a.params.length\/12<a.body.length then 12 else errO (GQ a.params)
def bodyE (p:Prg) (a:Action):Option (Int×Int):=fe (fun k=>(a.body[k]?).bind fun s=>if stmE p a.params s=0 then none else some ((k:Int),stmE p a.params s)) a.body.length 0
def actE (p:Prg) (i:Int):Int×Int:=match at? p.Xx i with
 | none=>(-1,8)
 | some a=>if actD a≠0 then (-1,actD a) else (bodyE p a).getD (0,0)
def fits (v w:Int):Bool:= !wBad w&&decide (v<2^w.toNat)
def kZ (p:Prg) (c:Xb):Int:=match at? p.Xx c.Xy with
 | none=>8
 | some a=>if c.args.length≠a.params.length then 2 else errO (fe (fun i=>match c.args[i]?,a.params[i]? with
  | some v,some f=>if fits v f.Yc then none else some 9
  | _,_=>none) c.args.length 0)
def keyE (p:Prg) (x:Tbl):Option (Int×Int):=fe (fun i=>(x.keys[i]?).bind fun k=>
 if wid p k.field.header k.field.field=0 then some ((i:Int),8) else if k.kind=1\/k.kind=2\/k.kind=3 then none else some ((i:Int),11)) x.keys.length 0
def kWid (p:Prg) (x:Tbl):List Int:=x.keys.map fun k=>wid p k.field.header k.field.field
def AF (p:Prg) (x:Tbl):Int×Int:=match keyE p x with
 | some e=>e
 | none=>if 1<x.keys.countP (fun k=>decide (k.kind=2)) then (-2,7) else if 64<(kWid p x).sum then (-2,10) else (0,0)
def IU (p:Prg) (x:Tbl):Int:=match fe (fun i=>(x.Xx[i]?).bind fun a=>if a<0\/(p.Xx.length:Int)<=a then some (8:Int) else if (x.Xx.take i).contains a then some 7 else none) x.Xx.length 0 with
 | some e=>e
 | none=>if x.Xx.contains x.Yb.Xy then kZ p x.Yb else 8
def tblE (p:Prg) (t:Int):Int×Int:=match at? p.Xm t with
 | none=>(-1,8)
 | some x=>if idS x.name=false then (-1,6) else if 6<x.keys.length\/16<x.Xx.length then (-1,12) else if x.size<1\/256<x.size then (-1,9)
  else if (AF p x).2≠0 then AF p x else if IU p x≠0 then (-3,IU p x) else (0,0)
def nJ (p:Prg) (s:Nat) (n:Int):Bool:=decide (n= -1) || decide (n= -2) || (decide ((s:Int)<n)&&decide (n<p.Xw.length))
def qU (p:Prg) (s:Nat) (x:Xc) (c:Xj):Int:=
 if fits c.value (wid p x.on.header x.on.field)=false\/fits c.Yd (wid p x.on.header x.on.field)=false then 9
 else if c.value.toNat&&& c.Yd.toNat≠c.value.toNat then 5
 else if nJ p s c.next then 0 else 14
def stE (p:Prg) (s:Nat) (x:Xc):Int×Int:=
 if 4<x.extract.length\/8<x.cases.length then (-1,12)
 else if x.extract.any (fun h=>decide (h<0) || decide ((p.Xo.length:Int)<=h)) then (-1,8)
 else if x.select=true/\wid p x.on.header x.on.field=0 then (-1,8)
 else if x.select=false/\0<x.cases.length then (-1,11)
 else match fe (fun i=>(x.cases[i]?).bind fun c=>if qU p s x c=0 then none else some ((i:Int),qU p s x c)) x.cases.length 0 with
  | some e=>e
  | none=>if nJ p s x.Yb then (0,0) else (-1,14)
def parE (p:Prg):Int×Int×Int:=
 if p.Xw.length=0 then (-1,-1,8) else if 12<p.Xw.length then (-1,-1,12)
 else (fe (fun s=>(p.Xw[s]?).bind fun x=>if idS x.name=false then some ((s:Int),(-1:Int),(6:Int)) else if dupN Xc.name p.Xw s x then some ((s:Int),-1,7)
  else if (stE p s x).2=0 then none else some ((s:Int),(stE p s x).1,(stE p s x).2)) p.Xw.length 0).getD (0,0,0)
def depE (p:Prg):Int×Int:=if 8<p.Xr.length then (-1,12) else
 (fe (fun i=>(p.Xr[i]?).bind fun h=>if h<0\/(p.Xo.length:Int)<=h then some ((i:Int),(8:Int)) else if (p.Xr.take i).contains h then some ((i:Int),7) else none) p.Xr.length 0).getD (0,0)
def Xa.kind:Xa->Int | .mk k _ _ _ _=>k
def Xa.table:Xa->Int | .mk _ t _ _ _=>t
def Xa.cond:Xa->List Xd | .mk _ _ c _ _=>c
def Xa.thn:Xa->List Xa | .mk _ _ _ a _=>a
def Xa.els:Xa->List Xa | .mk _ _ _ _ b=>b
mutual
def pre1:Xa->List Xa
 | .mk k t c a b=> .mk k t c a b::(pre a++pre b)
def pre:List Xa->List Xa
 | []=>[]
 | x::r=>pre1 x++pre r
end
mutual
def AG:Xa->Nat
 | .mk _ _ _ a b=>max (nest a) (nest b)
def nest:List Xa->Nat
 | []=>0
 | x::r=>max (1+AG x) (nest r)
end
def appl (x:Xa):Bool:=decide (x.kind=1) || decide (x.kind=3)
def yU (p:Prg) (l:List Xa) (x:Xa):Int:=
 if x.kind=2 then (if (exE p [] x.cond).2=0 then (if (exE p [] x.cond).1=1 then 0 else 10) else (exE p [] x.cond).2)
 else if x.kind=1\/x.kind=3 then (if x.table<0\/(p.Xm.length:Int)<=x.table then 8
  else if l.any (fun y=>appl y&&decide (y.table=x.table)) then 7
  else if x.kind=1/\0<x.thn.length+x.els.length then 5 else 0)
 else 11
def ctlE (p:Prg):Int×Int:=if 24<(pre p.Ya).length then (-1,12) else if 6<nest p.Ya then (-1,14)
 else (fe (fun i=>((pre p.Ya)[i]?).bind fun x=>if yU p ((pre p.Ya).take i) x=0 then none else some ((i:Int),yU p ((pre p.Ya).take i) x)) (pre p.Ya).length 0).getD (0,0)
abbrev Dg:=Int×Int×Int×Int
def limD (p:Prg):Option Dg:=if idS p.name=false then some (6,0,0,0) else if 8<p.Xo.length then some (12,0,1,0) else if 4<p.Xl.length then some (12,0,3,0)
 else if 16<p.Xx.length then some (12,0,4,0) else if 12<p.Xm.length then some (12,0,5,0) else none
def AE (p:Prg) (i:Nat) (h:Xi):Int:=if hdrE h≠0 then hdrE h else if h.name=[109,101,116,97] then 6 else if dupN Xi.name p.Xo i h then 7 else 0
def hdrD (p:Prg):Option Dg:=fe (fun i=>(p.Xo[i]?).bind fun h=>if AE p i h=0 then none else some (AE p i h,1,(i:Int),0)) p.Xo.length 0
def rF (i:Nat):Fld:=if i=0 then ⟨[105,110],8⟩ else if i=1 then ⟨[111,117,116],8⟩ else ⟨[100,114,111,112],1⟩
def metD (p:Prg):Option Dg:=if 12<p.Xn.length then some (12,2,0,0)
 else match fe (fun i=>(p.Xn[i]?).bind fun f=>if fldE p.Xn i f=0 then none else some (fldE p.Xn i f,(2:Int),(i:Int),(0:Int))) p.Xn.length 0 with
  | some d=>some d
  | none=>fe (fun i=>if p.Xn[i]? =some (rF i) then none else some (5,2,(i:Int),0)) 3 0
def EU (p:Prg) (i:Nat) (r:Xg):Int:=if regE r≠0 then regE r else if dupN Xg.name p.Xl i r then 7 else 0
def regD (p:Prg):Option Dg:=fe (fun i=>(p.Xl[i]?).bind fun r=>if EU p i r=0 then none else some (EU p i r,3,(i:Int),0)) p.Xl.length 0
def rI (p:Prg):Option Dg:=fe (fun i=>(p.Xx[i]?).bind fun a=>if (actE p i).2≠0 then some ((actE p i).2,(4:Int),(i:Int),(actE p i).1) else if dupN Action.name p.Xx i a then some (7,4,(i:Int),0) else none) p.Xx.length 0
def tblD (p:Prg):Option Dg:=fe (fun i=>(p.Xm[i]?).bind fun a=>if (tblE p i).2≠0 then some ((tblE p i).2,(5:Int),(i:Int),(tblE p i).1) else if dupN Tbl.name p.Xm i a then some (7,5,(i:Int),0) else none) p.Xm.length 0
def floD (p:Prg):Option Dg:=if (parE p).2.2≠0 then some ((parE p).2.2,6,(parE p).1,(parE p).2.1) else if (ctlE p).2≠0 then some ((ctlE p).2,7,(ctlE p).1,0)
 else if (depE p).2≠0 then some ((depE p).2,8,(depE p).1,0) else none
def prgD (p:Prg):Dg:=((((((limD p).or (hdrD p)).or (metD p)).or (regD p)).or (rI p)).or (tblD p)).or (floD p)|>.getD (0,0,0,0)
def cP (w:Int):Int:=if wBad w then 0 else 2^w.toNat - 1
theorem wBad_false {w:Int}:wBad w=false↔1<=w/\w<=32:=by
 simp [wBad]
theorem wr1:IntKind.wrap .i64 1=1:=by decide
theorem wr2:IntKind.wrap .i64 2=2:=by decide
theorem wr3:IntKind.wrap .i64 3=3:=by decide
theorem NG (w:Int):aB Φ eE [.slice 1 [[a7 w]]]=some (.val (.bool (!wBad w))):=by
 rw [aD rfl rfl];by_cases h1:w<1
 ·simp [jF];rw [cL];simp [c_263_l0,h1,wBad]
 by_cases h2:32<w
 ·simp [jF];rw [cL];simp [c_263_l0,h1,h2,wBad]
 simp [jF];rw [cL];simp [c_263_l0,h1,h2,wr1];rw [cL];simp [c_263_k1,h1,h2,wBad]
theorem S5:∀k:Nat,k<33->1<=k->ishr .u32 4294967295 (IntKind.wrap .i64 (32 - (k:Int)))=2^k - 1/\0<=IntKind.wrap .i64 (32 - (k:Int)):=by decide
theorem gH (w:Int):aB Φ aU [a7 w]=some (.val (.int .u32 (cP w))):=by
 rw [aD rfl rfl];have hv:=NG w;cases h:wBad w with
 | true=>
  rw [h] at hv;simp [sK,hv,cP,h]
 | false=>
  rw [h] at hv;obtain ⟨h1,h2⟩:=wBad_false.1 h;obtain ⟨k,rfl⟩:∃k:Nat,w=k:=⟨w.toNat,by omega⟩;obtain ⟨e1,e2⟩:=S5 k (by omega) (by omega);simp [sK,hv,cP,h,e2];exact e1
theorem IC (v w:Int):aB Φ g6 [.int .u32 v,a7 w]=some (.val (.bool (fits v w))):=by
 rw [aD rfl rfl];have hv:=NG w;have hm:=gH w;cases h:wBad w with
 | true=>
  rw [h] at hv;simp [sT,hv,fits,h]
 | false=>
  rw [h] at hv;have e:(v<=cP w)↔v<2^w.toNat:=by
   simp only [cP,h];simp;omega
  simp [sT,hv,hm,fits,h,e]
theorem dZ (b:Bool) (c:Int):aB Φ bM [.bool b,a7 c]=some (.val (a7 (if b then c else 0))):=by
 rw [aD rfl rfl];cases b<;>simp [BN]
theorem SZ (r:Xg):aB Φ uA [.agg (Xg.c r)]=some (.val (.bool (!(decide (r.size<1) || decide (64<r.size))))):=by
 rw [aD rfl rfl];by_cases h1:r.size<1<;>by_cases h2:64<r.size<;>simp [C3,Xg.e,h1,h2,BC.2,nR.1]
 all_goals omega
theorem X7 (r:Xg) (hs:r.name.length<2^40):aB Φ u6 [.agg (Xg.c r)]=some (.val (a7 (regE r))):=by
 rw [aD rfl rfl];have h1:=DY r.name hs;have h2:=gH r.Yc;have h3:=SZ r;rw [Xg.e] at h3;cases q1:idS r.name with
 | false=>rw [q1] at h1;simp [jE,Xg.e,h1,regE,q1]
 | true=>
  rw [q1] at h1;cases q2:wBad r.Yc with
  | true=>simp [jE,Xg.e,h1,h2,regE,q1,q2,cP]
  | false=>
   obtain ⟨w1,w2⟩:=wBad_false.1 q2;have:¬(2:Int)^r.Yc.toNat - 1=0:=by
    have:(2:Int)^1<=2^r.Yc.toNat:=by
     have:=B6 (n:=2) (by omega) (show 1<=r.Yc.toNat by omega)
     exact_mod_cast this
    omega
   by_cases z1:r.size<1
   ·simp [z1] at h3;simp [jE,Xg.e,h1,h2,h3,regE,q1,q2,cP,this,z1]
   by_cases z2:64<r.size
   ·simp [z1,z2] at h3;simp [jE,Xg.e,h1,h2,h3,regE,q1,q2,cP,this,z1,z2]
   simp [z1,z2] at h3;simp [jE,Xg.e,h1,h2,h3,regE,q1,q2,cP,this,z1,z2]
@[simp] theorem Rv {Z I:Type} (f:Z->I) (l:List Z):(l.map f).take l.length=l.map f:=by
 rw [Qo];simp
theorem Cn (h:Xi) (hl:h.Xz.length<2^40):aB Φ jS [.agg (Xi.c h)]=some (.val (.slice 1 (h.Xz.map fun f=>[a7 f.Yc]))):=by
 rw [aD rfl rfl];simp [CP,Xi.e];refine (eS h.Xz.length (fun i=>[(0,.tok 1 i)]) 1 (fun i e=>look 3 e=some (.app 1 ((h.Xz.map fun f=>[a7 f.Yc]).take i) 0)/\look 7 e=some (.slice 2 (h.Xz.map Fld.c))/\look 8 e=some (a7 h.Xz.length)/\look 9 e=some (a7 i))
  (fun i=>some (.val (.slice 1 (h.Xz.map fun f=>[a7 f.Yc])))) ?_ ?_ 0 _ 1 (Qc _) (Qb _) ?_).trans (by simp)
 ·rintro i e n L hi hL hn ⟨h3,h7,h8,h9⟩ ih;have hw:=aP i (by omega);have hn0:¬(0=n):=by omega
  have hn1:¬(n=0):=by omega
  have hm:min i h.Xz.length=i:=by omega
  have hb:(i+1)*8<=70368744177664:=by omega
  simp [c_311_l0,Fld.e,h3,h7,h8,h9,hi,hw,hn0,hm,hb];exact ih _ _ (by omega) ⟨by simp [DX hi],by simp [h7],by simp [h8],by simp⟩
 ·rintro e n L hL hn ⟨h3,h7,h8,h9⟩;simp [c_311_l0,c_311_k1,h3,h8,h9,hL]
 ·simp
theorem Od (l:List Int) (hl:l.length<2^40) (hb:∀x∈l,1<=x/\x<=32):aB Φ mK [.slice 1 (l.map fun x=>[a7 x])]=some (.val (a7 l.sum)):=by
 rw [aD rfl rfl];simp [CO];have key:∀i,i<=l.length->0<=(l.take i).sum/\(l.take i).sum<=32*i:=by
  intro i
  induction i with
  | zero=>intro _;simp
  | succ i ih=>
   intro hi;have:=ih (by omega);have hx:=hb _ (Qd (show i<l.length by omega));rw [Qh (by omega),List.sum_append,MD];omega
 refine (mQ l.length (fun i e=>look 3 e=some (a7 (l.take i).sum)/\look 6 e=some (.slice 1 (l.map fun x=>[a7 x]))/\look 7 e=some (a7 l.length)/\look 8 e=some (a7 i))
  (fun i=>some (.val (a7 l.sum))) ?_ ?_ 0 _ (Qc _) ?_).trans (by simp)
 ·rintro i e L hi hL ⟨h3,h6,h7,h8⟩ ih;have hw:=aP i (by omega);have k1:=key (i+1) (by omega);have e1:(l.take (i+1)).sum=(l.take i).sum+l[i]:=by rw [Qh hi,List.sum_append,MD]
  have hw2:IntKind.wrap .i64 ((l.take i).sum+l[i])=(l.take (i+1)).sum:=by rw [<- e1];exact cM (by omega) (by omega)
  simp [c_310_l0,h3,h6,h7,h8,hi,hw,hw2];exact ih _ ⟨by simp,by simp [h6],by simp [h7],by simp⟩
 ·rintro e L hL ⟨h3,h6,h7,h8⟩;simp [c_310_l0,c_310_k1,h3,h7,h8,hL]
 ·simp
def Any (h:AH):Prop:=Tail h.objs h.next
theorem Any.app {T:List (Nat×AO)} {n:Nat} {o:AO} (h:Any ⟨T,n⟩):Any ⟨T++[(n,o)],n+1⟩:=Tail.app h o
theorem Any.mk {T:List (Nat×AO)} {n:Nat} (h:Tail T n):Any ⟨T,n⟩:=h
def hdrR (l:List Fld) (i:Nat):Int:=match fe (fun i=>(l[i]?).bind fun f=>er (fldE l i f)) l.length i with
 | some e=>e
 | none=>if wSum l % 8=0 then 0 else 10
theorem NK {l:List Fld} {i:Nat} (hi:i<l.length) (h:fldE l i l[i]≠0):hdrR l i=fldE l i l[i]:=by
 unfold hdrR;rw [bS (x:=fldE l i l[i]) hi (by simp [hi,er,h])]
theorem qy4 {l:List Fld} {i:Nat} (hi:i<l.length) (h:fldE l i l[i]=0):hdrR l i=hdrR l (i+1):=by
 unfold hdrR;rw [fI hi (by simp [hi,h])]
theorem RP {l:List Fld}:hdrR l l.length=if wSum l % 8=0 then 0 else 10:=by
 unfold hdrR;rw [gM]
theorem fe_all {Z:Type} {f:Nat->Option Z} {N:Nat}:fe f N 0=none↔∀i,i<N->f i=none:=by
 have key:∀n i,feF f n i=none↔∀k,i<=k->k<i+n->f k=none:=by
  intro n
  induction n with
  | zero=>intro i;simp [feF];omega
  | succ n ih=>
   intro i;simp only [feF];cases h:f i with
   | some x=>simp;exact ⟨i,Qb _,by omega,by simp [h]⟩
   | none=>
    simp only [ih];constructor
    ·intro hh k h1 h2;rcases J0 h1 with rfl | h3
     ·exact h
     ·exact hh k (by omega) (by omega)
    ·intro hh k h1 h2;exact hh k (by omega) (by omega)
 unfold fe;rw [key];simp
theorem wSum_eq (l:List Fld):wSum l=(l.map (·.Yc)).sum:=rfl
theorem ID (h:Xi) (hn:h.name.length<2^40) (hf:∀f∈h.Xz,f.name.length<2^40):aB Φ g0 [.agg (Xi.c h)]=some (.val (a7 (hdrE h))):=by
 rw [aD rfl rfl];have n1:=DY h.name hn;cases q1:idS h.name with
 | false=>rw [q1] at n1;simp [lG,Xi.e,n1,hdrE,q1]
 | true=>
 rw [q1] at n1;by_cases z0:h.Xz.length=0
 ·simp [lG,Xi.e,n1,hdrE,q1,z0]
 by_cases z1:12<h.Xz.length
 ·simp [lG,Xi.e,n1,hdrE,q1,z0,z1]
 have hE:hdrE h=hdrR h.Xz 0:=by simp [hdrE,q1,z0,z1,hdrR,GQ]<;>rfl
 rw [hE];simp [lG,Xi.e,n1,z0,z1];refine G7 h.Xz.length (fun i e H=>look 1 e=some (.iptr 2 [[.str h.name,.slice 2 (h.Xz.map Fld.c)]] 0 0)/\look 23 e=some (.slice 2 (h.Xz.map Fld.c))/\look 24 e=some (a7 h.Xz.length)/\look 25 e=some (a7 i)/\Any H/\
   ∀k,k<i->fldE h.Xz k (h.Xz.getD k default)=0)
  (fun i=>some (Rt.val (a7 (hdrR h.Xz i)))) ?_ ?_ 0 _ _ (Qc _) ?_
 ·rintro i e ⟨T,n⟩ L hi hL ⟨h1,h23,h24,h25,hT,hz⟩ ih;have hT':look n T=none:=hT n (Qb _);have hw:=aP i (by omega);have nf:=DY h.Xz[i].name (hf _ (Qd hi));cases p1:idS h.Xz[i].name with
  | false=>
   rw [p1] at nf;rw [NK hi (by simp [fldE,p1])];simp [c_208_l2,Fld.e,h23,h24,h25,hi,hT',nf,fldE,p1]
  | true=>
  rw [p1] at nf;by_cases w1:h.Xz[i].Yc<1
  ·rw [NK hi (by simp [fldE,p1,wBad,w1])];simp [c_208_l2,Fld.e,h23,h24,h25,hi,hT',nf,fldE,p1,wBad,w1]
  by_cases w2:32<h.Xz[i].Yc
  ·rw [NK hi (by simp [fldE,p1,wBad,w2])];simp [c_208_l2,Fld.e,h23,h24,h25,hi,hT',nf,fldE,p1,wBad,w1,w2]
  have hi':i<=h.Xz.length:=by omega
  have hmi:min i h.Xz.length=i:=by omega
  simp [c_208_l2,Fld.e,h1,h23,h24,h25,hi,hT',nf,w1,w2,hi'];refine (Dl (h.Xz.take i) (fun g=>decide (g.name=h.Xz[i].name)) (some (Rt.val (a7 7))) (some (Rt.val (a7 (hdrR h.Xz (i+1)))))
   (fun k e H=>look 1 e=some (.iptr 2 [[.str h.name,.slice 2 (h.Xz.map Fld.c)]] 0 0)/\look 23 e=some (.slice 2 (h.Xz.map Fld.c))/\look 24 e=some (a7 h.Xz.length)/\look 25 e=some (a7 i)/\
    look 4 e=some (.iptr 2 [[.str h.Xz[i].name,a7 h.Xz[i].Yc]] 0 0)/\look 45 e=some (.slice 2 ((h.Xz.map Fld.c).take i))/\look 46 e=some (a7 i)/\look 47 e=some (a7 k)/\Any H/\
    (0<k->rB (h.Xz.take i) (fun g=>decide (g.name=h.Xz[i].name)) 0=rB (h.Xz.take i) (fun g=>decide (g.name=h.Xz[i].name)) k)) ?_ ?_ ?_ _ _ ?_).trans ?_
  ·rintro k e ⟨T2,m⟩ L' hk hL' ⟨h1,h23,h24,h25,g4,g45,g46,g47,hT2,_⟩ hb;simp only [yD] at hk;have hk1:k<i:=by omega
   have hk2:k<h.Xz.length:=by omega
   simp only [List.getElem_take,decide_eq_true_eq] at hb;have hm:look m T2=none:=hT2 m (Qb _);simp [c_208_l0,Fld.e,g4,g45,g46,g47,hk1,hm,hb,hmi]
  ·rintro k e ⟨T2,m⟩ L' X hk hL' ⟨h1,h23,h24,h25,g4,g45,g46,g47,hT2,hy⟩ hb ih';have hb':=hb;have hk0:=hk;simp only [yD] at hk;have hk1:k<i:=by omega
   have hk2:k<h.Xz.length:=by omega
   simp only [List.getElem_take,decide_eq_false_iff_not] at hb;have hm:look m T2=none:=hT2 m (Qb _);have hw':=aP k (by omega);simp [c_208_l0,Fld.e,g4,g45,g46,g47,hk1,hm,hb,hmi,hw'];refine ih' _ _ ⟨by simp [h1],by simp [h23],by simp [h24],by simp [h25],by simp [g4],by simp [g45],by simp [g46],by simp,Any.app hT2,fun _=>?_⟩;rcases Qw k with rfl | hp
   ·exact Cy hk0 hb'
   ·rw [hy hp];exact Cy hk0 hb'
  ·rintro e ⟨T2,m⟩ L' hL' ⟨h1,h23,h24,h25,g4,g45,g46,g47,hT2,hy⟩;have hm:min i h.Xz.length=i:=by omega
   simp [hm] at g47 hy;have hd:dupN Fld.name h.Xz i h.Xz[i]=false:=by
    unfold dupN;rw [<- Ka];rcases Qw i with hp | hp
    ·subst hp;simp [rB]
    ·rw [hy hp];have:=Ly (l:=h.Xz.take i) (p:=fun g=>decide (g.name=h.Xz[i].name));simpa [hm] using this
   simp [c_208_l0,c_208_k1,g46,g47,h25,hL',hw];refine ih _ _ ⟨by simp [h1],by simp [h23],by simp [h24],by simp,hT2,?_⟩;intro k hk;rcases Nat.lt_succ_iff_lt_or_eq.1 hk with hlt | rfl
   ·exact hz k hlt
   ·rw [zA,Qa hi,jC];simp [fldE,p1,wBad,w1,w2,hd]
  ·simp [h1,h23,h24,h25,hT.mono (Nat.le_succ _),Any]
  ·cases p3:dupN Fld.name h.Xz i h.Xz[i] with
   | true=>
    rw [NK hi (by simp [fldE,p1,wBad,w1,w2,p3])];unfold dupN at p3;simp only [p3,if_true];simp [fldE,p1,wBad,w1,w2,dupN,p3]
   | false=>
    rw [qy4 hi (by simp [fldE,p1,wBad,w1,w2,p3])];unfold dupN at p3;simp [p3]
 ·rintro e ⟨T,n⟩ L hL ⟨h1,h23,h24,h25,hT,hz⟩;have hb:∀x∈h.Xz.map (·.Yc),1<=x/\x<=32:=by
   intro x hx;obtain ⟨f,hf,rfl⟩:=iO.1 hx;obtain ⟨k,hk,rfl⟩:=Qn.1 hf;have:=hz k hk;rw [zA,Qa hk,jC] at this;refine wBad_false.1 ?_;cases q:wBad h.Xz[k].Yc with
   | false=>rfl
   | true=>
    simp only [fldE,q] at this;split at this
    ·omega
    ·simp at this
  have e1:=Cn h (by omega);have e2:=Od (h.Xz.map (·.Yc)) (by simp;omega) hb;simp only [Xi.e] at e1;simp only [List.map_map] at e2;have hs:0<=wSum h.Xz:=by
   unfold wSum;have:∀l:List Int,(∀x∈l,1<=x/\x<=32)->0<=l.sum:=by
    intro l
    induction l with
    | nil=>intro _;simp
    | cons a l ih=>intro hh;have:=ih fun x hx=>hh x (by simp [hx]);have:=hh a (by simp);simp;omega
   exact this _ hb
  have e3:wSum h.Xz % 8=(wSum h.Xz).tmod 8:=(Int.tmod_eq_emod_of_nonneg hs).symm;rw [RP,e3];have e4:aB Φ mK [.slice 1 (h.Xz.map fun f=>[a7 f.Yc])]=some (.val (a7 (wSum h.Xz))):=e2;by_cases z:(wSum h.Xz).tmod 8=0
  ·simp [c_208_l2,c_208_k3,h1,h24,h25,hL,e1,e4,z]
  ·simp [c_208_l2,c_208_k3,h1,h24,h25,hL,e1,e4,z]
 ·simp [Any,Tail]
def tF:Nat:=225
def s7 (c p i s:Int):AV:= .iface tF (.agg [a7 c,a7 p,a7 i,a7 s])
theorem Ug (c p i s:Int):AV.iface 225 (.agg [a7 c,a7 p,a7 i,a7 s])=s7 c p i s:=rfl
@[simp] theorem Tk (c p i s:Int) (n:Nat):flat (n+3) (s7 c p i s)=true:=by simp [s7]
@[simp] theorem Tl (c p i s:Int) (n:Nat) (H:AH):snap (n+3) H (s7 c p i s)=some (s7 c p i s):=by simp [s7]
def rtD (o:Option Dg):Rt:=match o with
 | none=> .val (.tup [])
 | some d=> .pan (s7 d.1 d.2.1 d.2.2.1 d.2.2.2)
theorem gK (p i s:Int):aB Φ aR [a7 0,a7 p,a7 i,a7 s]=some (.val (.tup [])):=by
 rw [aD rfl rfl];simp [sR]
theorem eR {c:Int} (h:¬c=0) (p i s:Int):aB Φ aR [a7 c,a7 p,a7 i,a7 s]=some (.pan (s7 c p i s)):=by
 rw [aD rfl rfl];simp [sR,h,s7,tF]
theorem Gn (s:List UInt8) (hs:s.length<2^40):aB Φ pC [.str s]=some (.val (.bool (!idS s))):=by
 rw [aD rfl rfl];simp [BO,DY s hs]
theorem Wv (w:Int):aB Φ u5 [a7 w]=some (.val (.bool (wBad w))):=by
 rw [aD rfl rfl];by_cases h1:w<1<;>simp [BU,wBad,h1]
def ix {Z:Type} (p:Z->Bool) (l:List Z) (i:Nat):Int:=(fe (fun k=>(l[k]?).bind fun a=>if p a then some (k:Int) else none) l.length i).getD (-1)
theorem KZ {Z:Type} {p:Z->Bool} {l:List Z} {i:Nat} (hi:i<l.length) (h:p l[i]=true):ix p l i=i:=by
 unfold ix;rw [bS (x:=(i:Int)) hi (by simp [hi,h])];rfl
theorem KS {Z:Type} {p:Z->Bool} {l:List Z} {i:Nat} (hi:i<l.length) (h:p l[i]=false):ix p l i=ix p l (i+1):=by
 unfold ix;rw [fI hi (by simp [hi,h])]
theorem KY {Z:Type} {p:Z->Bool} {l:List Z}:ix p l l.length= -1:=by
 unfold ix;rw [gM];rfl
theorem Lw {Z:Type} {p:Z->Bool} {l:List Z}:∀n i,n+i=l.length->decide (0<=ix p l i)=rB l p i
 | 0,i,h=>by
  have:i=l.length:=by omega
  subst this;rw [KY,Ly];rfl
 | n+1,i,h=>by
  have hi:i<l.length:=by omega
  cases q:p l[i] with
  | true=>rw [KZ hi q,U7 hi q];simp
  | false=>rw [KS hi q,Cy hi q];exact Lw n (i+1) (by omega)
theorem OQ {Z:Type} {p:Z->Bool} {l:List Z}:decide (0<=ix p l 0)=l.any p:=by
 rw [Lw l.length 0 (by omega),Ka]
theorem qy8 (l:List (List UInt8)) (x:List UInt8) (hl:l.length<2^40):aB Φ vC [.slice 1 (l.map fun s=>[.str s]),.str x]=some (.val (a7 (ix (fun s=>decide (x=s)) l 0))):=by
 rw [aD rfl rfl];simp [D5];refine (mQ l.length (fun i e=>look 0 e=some (.slice 1 (l.map fun s=>[.str s]))/\look 1 e=some (.str x)/\look 6 e=some (.slice 1 (l.map fun s=>[.str s]))/\look 7 e=some (a7 l.length)/\look 8 e=some (a7 i))
  (fun i=>some (.val (a7 (ix (fun s=>decide (x=s)) l i)))) ?_ ?_ 0 _ (Qc _) ?_).trans (by simp)
 ·rintro i e L hi hL ⟨h0,h1,h6,h7,h8⟩ ih;have hw:=aP i (by omega);by_cases z:x=l[i]
  ·rw [KZ hi (by simpa using z)];simp [c_367_l0,h0,h1,h7,h8,hi,<- z]
  ·rw [KS hi (by simpa using z)];simp [c_367_l0,h0,h1,h7,h8,hi,z,hw];exact ih _ ⟨by simp [h0],by simp [h1],by simp [h6],by simp [h7],by simp⟩
 ·rintro e L hL ⟨h0,h1,h6,h7,h8⟩;rw [KY];simp [c_367_l0,c_367_k1,h7,h8,hL]
 ·simp
theorem Yu (l:List (List UInt8)) (x:List UInt8) (hl:l.length<2^40):aB Φ q6 [.slice 1 (l.map fun s=>[.str s]),.str x]=some (.val (.bool (l.any fun s=>decide (x=s)))):=by
 rw [aD rfl rfl];have h:=qy8 l x hl;have e:=OQ (p:=fun s=>decide (x=s)) (l:=l);simp [CQ,h];rw [<- e]
theorem KF {Z:Type} (nm:Z->List UInt8) (l:List Z) (i:Nat) (hi:i<l.length) (hl:l.length<2^40):aB Φ iB [.slice 1 (l.map fun x=>[.str (nm x)]),a7 i]=some (.val (.bool (dupN nm l i l[i]))):=by
 rw [aD rfl rfl];have h:=Yu ((l.map nm).take i) (nm l[i]) (by simp;omega);have e:(((l.map nm).take i).any fun s=>decide (nm l[i]=s))=dupN nm l i l[i]:=by
  unfold dupN;rw [<- zI,List.any_map];congr 1;funext y;simp [eq_comm]
 rw [e] at h;rw [<- zI,List.map_map,zI] at h;have h':aB Φ q6 [.slice 1 ((l.map fun x=>[AV.str (nm x)]).take i),.str (nm l[i])]=some (.val (.bool (dupN nm l i l[i]))):=h;have hi':i<=l.length:=by omega
 simp [BR,hi,hi',h']
theorem Yl (x:Xi):aB Φ mB [.agg (Xi.c x)]=some (.val (.str x.name)):=by
 rw [aD rfl rfl];simp [BQ,Xi.e]
theorem Wt (l:List Xi) (hl:l.length<2^40):aB Φ pD [.slice 2 (l.map Xi.c),.func (.func mB) [] []]=some (.val (.slice 1 (l.map fun x=>[.str x.name]))):=by
 rw [aD rfl rfl];simp [BP];refine (eS l.length (fun i=>[(0,.tok 1 i)]) 1 (fun i e=>look 1 e=some (.func (.func mB) [] [])/\look 5 e=some (.app 1 ((l.map fun x=>[AV.str x.name]).take i) 0)/\look 8 e=some (.slice 2 (l.map Xi.c))/\look 9 e=some (a7 l.length)/\look 10 e=some (a7 i))
  (fun i=>some (.val (.slice 1 (l.map fun x=>[.str x.name])))) ?_ ?_ 0 _ 1 (Qc _) (Qb _) ?_).trans (by simp)
 ·rintro i e n L hi hL hn ⟨h1,h5,h8,h9,h10⟩ ih;have hw:=aP i (by omega);have hn0:¬(0=n):=by omega
  have hn1:¬(n=0):=by omega
  have hm:min i l.length=i:=by omega
  have hb:(i+1)*16<=70368744177664:=by omega
  have hN:=Yl l[i];simp only [Xi.e] at hN;simp [c_206_l0,Xi.e,h1,h5,h8,h9,h10,hi,hw,hn0,hm,hb,hN];exact ih _ _ (by omega) ⟨by simp [h1],by simp [DX hi],by simp [h8],by simp [h9],by simp⟩
 ·rintro e n L hL hn ⟨h1,h5,h8,h9,h10⟩;simp [c_206_l0,c_206_k1,h5,h9,h10,hL]
 ·simp
theorem Yp (x:Fld):aB Φ mD [.agg (Fld.c x)]=some (.val (.str x.name)):=by
 rw [aD rfl rfl];simp [BT,Fld.e]
theorem Zj (l:List Fld) (hl:l.length<2^40):aB Φ pE [.slice 2 (l.map Fld.c),.func (.func mD) [] []]=some (.val (.slice 1 (l.map fun x=>[.str x.name]))):=by
 rw [aD rfl rfl];simp [BS];refine (eS l.length (fun i=>[(0,.tok 1 i)]) 1 (fun i e=>look 1 e=some (.func (.func mD) [] [])/\look 5 e=some (.app 1 ((l.map fun x=>[AV.str x.name]).take i) 0)/\look 8 e=some (.slice 2 (l.map Fld.c))/\look 9 e=some (a7 l.length)/\look 10 e=some (a7 i))
  (fun i=>some (.val (.slice 1 (l.map fun x=>[.str x.name])))) ?_ ?_ 0 _ 1 (Qc _) (Qb _) ?_).trans (by simp)
 ·rintro i e n L hi hL hn ⟨h1,h5,h8,h9,h10⟩ ih;have hw:=aP i (by omega);have hn0:¬(0=n):=by omega
  have hn1:¬(n=0):=by omega
  have hm:min i l.length=i:=by omega
  have hb:(i+1)*16<=70368744177664:=by omega
  have hN:=Yp l[i];simp only [Fld.e] at hN;simp [c_210_l0,Fld.e,h1,h5,h8,h9,h10,hi,hw,hn0,hm,hb,hN];exact ih _ _ (by omega) ⟨by simp [h1],by simp [DX hi],by simp [h8],by simp [h9],by simp⟩
 ·rintro e n L hL hn ⟨h1,h5,h8,h9,h10⟩;simp [c_210_l0,c_210_k1,h5,h9,h10,hL]
 ·simp
theorem Wn (x:Xg):aB Φ mE [.agg (Xg.c x)]=some (.val (.str x.name)):=by
 rw [aD rfl rfl];simp [BW,Xg.e]
theorem Wl (l:List Xg) (hl:l.length<2^40):aB Φ pF [.slice 3 (l.map Xg.c),.func (.func mE) [] []]=some (.val (.slice 1 (l.map fun x=>[.str x.name]))):=by
 rw [aD rfl rfl];simp [BV];refine (eS l.length (fun i=>[(0,.tok 1 i)]) 1 (fun i e=>look 1 e=some (.func (.func mE) [] [])/\look 5 e=some (.app 1 ((l.map fun x=>[AV.str x.name]).take i) 0)/\look 8 e=some (.slice 3 (l.map Xg.c))/\look 9 e=some (a7 l.length)/\look 10 e=some (a7 i))
  (fun i=>some (.val (.slice 1 (l.map fun x=>[.str x.name])))) ?_ ?_ 0 _ 1 (Qc _) (Qb _) ?_).trans (by simp)
 ·rintro i e n L hi hL hn ⟨h1,h5,h8,h9,h10⟩ ih;have hw:=aP i (by omega);have hn0:¬(0=n):=by omega
  have hn1:¬(n=0):=by omega
  have hm:min i l.length=i:=by omega
  have hb:(i+1)*16<=70368744177664:=by omega
  have hN:=Wn l[i];simp only [Xg.e] at hN;simp [c_213_l0,Xg.e,h1,h5,h8,h9,h10,hi,hw,hn0,hm,hb,hN];exact ih _ _ (by omega) ⟨by simp [h1],by simp [DX hi],by simp [h8],by simp [h9],by simp⟩
 ·rintro e n L hL hn ⟨h1,h5,h8,h9,h10⟩;simp [c_213_l0,c_213_k1,h5,h9,h10,hL]
 ·simp
theorem Yg (x:Action):aB Φ mF [.agg (Action.c x)]=some (.val (.str x.name)):=by
 rw [aD rfl rfl];simp [C0,Action.e]
theorem Ws (l:List Action) (hl:l.length<2^40):aB Φ pG [.slice 3 (l.map Action.c),.func (.func mF) [] []]=some (.val (.slice 1 (l.map fun x=>[.str x.name]))):=by
 rw [aD rfl rfl];simp [BZ];refine (eS l.length (fun i=>[(0,.tok 1 i)]) 1 (fun i e=>look 1 e=some (.func (.func mF) [] [])/\look 5 e=some (.app 1 ((l.map fun x=>[AV.str x.name]).take i) 0)/\look 8 e=some (.slice 3 (l.map Action.c))/\look 9 e=some (a7 l.length)/\look 10 e=some (a7 i))
  (fun i=>some (.val (.slice 1 (l.map fun x=>[.str x.name])))) ?_ ?_ 0 _ 1 (Qc _) (Qb _) ?_).trans (by simp)
 ·rintro i e n L hi hL hn ⟨h1,h5,h8,h9,h10⟩ ih;have hw:=aP i (by omega);have hn0:¬(0=n):=by omega
  have hn1:¬(n=0):=by omega
  have hm:min i l.length=i:=by omega
  have hb:(i+1)*16<=70368744177664:=by omega
  have hN:=Yg l[i];simp only [Action.e] at hN;simp [c_216_l0,Action.e,h1,h5,h8,h9,h10,hi,hw,hn0,hm,hb,hN];exact ih _ _ (by omega) ⟨by simp [h1],by simp [DX hi],by simp [h8],by simp [h9],by simp⟩
 ·rintro e n L hL hn ⟨h1,h5,h8,h9,h10⟩;simp [c_216_l0,c_216_k1,h5,h9,h10,hL]
 ·simp
theorem Zs (x:Tbl):aB Φ mG [.agg (Tbl.c x)]=some (.val (.str x.name)):=by
 rw [aD rfl rfl];simp [C2,Tbl.e]
theorem Zk (l:List Tbl) (hl:l.length<2^40):aB Φ pI [.slice 6 (l.map Tbl.c),.func (.func mG) [] []]=some (.val (.slice 1 (l.map fun x=>[.str x.name]))):=by
 rw [aD rfl rfl];simp [C1];refine (eS l.length (fun i=>[(0,.tok 1 i)]) 1 (fun i e=>look 1 e=some (.func (.func mG) [] [])/\look 5 e=some (.app 1 ((l.map fun x=>[AV.str x.name]).take i) 0)/\look 8 e=some (.slice 6 (l.map Tbl.c))/\look 9 e=some (a7 l.length)/\look 10 e=some (a7 i))
  (fun i=>some (.val (.slice 1 (l.map fun x=>[.str x.name])))) ?_ ?_ 0 _ 1 (Qc _) (Qb _) ?_).trans (by simp)
 ·rintro i e n L hi hL hn ⟨h1,h5,h8,h9,h10⟩ ih;have hw:=aP i (by omega);have hn0:¬(0=n):=by omega
  have hn1:¬(n=0):=by omega
  have hm:min i l.length=i:=by omega
  have hb:(i+1)*16<=70368744177664:=by omega
  have hN:=Zs l[i];simp only [Tbl.e] at hN;simp [c_219_l0,Tbl.e,h1,h5,h8,h9,h10,hi,hw,hn0,hm,hb,hN];exact ih _ _ (by omega) ⟨by simp [h1],by simp [DX hi],by simp [h8],by simp [h9],by simp⟩
 ·rintro e n L hL hn ⟨h1,h5,h8,h9,h10⟩;simp [c_219_l0,c_219_k1,h5,h9,h10,hL]
 ·simp
structure PrgS (p:Prg):Prop where
 n:p.name.length<2^40
 h:p.Xo.length<2^40
 hn:∀h∈p.Xo,h.name.length<2^40
 hf:∀h∈p.Xo,∀f∈h.Xz,f.name.length<2^40
 hl:∀h∈p.Xo,h.Xz.length<2^40
 m:p.Xn.length<2^40
 mn:∀f∈p.Xn,f.name.length<2^40
 r:p.Xl.length<2^40
 rn:∀r∈p.Xl,r.name.length<2^40
 a:p.Xx.length<2^40
 an:∀a∈p.Xx,a.name.length<2^40
 ap:∀a∈p.Xx,a.params.length<2^40
 apn:∀a∈p.Xx,∀f∈a.params,f.name.length<2^40
 ab:∀a∈p.Xx,a.body.length<2^40
 ai:∀a∈p.Xx,∀s∈a.body,s.index.length<2^40
 av:∀a∈p.Xx,∀s∈a.body,s.value.length<2^40
 t:p.Xm.length<2^40
 tn:∀t∈p.Xm,t.name.length<2^40
 tk:∀t∈p.Xm,t.keys.length<2^40
 ta:∀t∈p.Xm,t.Xx.length<2^40
 tg:∀t∈p.Xm,t.Yb.args.length<2^40
 s:p.Xw.length<2^40
 sn:∀s∈p.Xw,s.name.length<2^40
 se:∀s∈p.Xw,s.extract.length<2^40
 sc:∀s∈p.Xw,s.cases.length<2^40
 sv:∀s∈p.Xw,∀c∈s.cases,ok32 gG c.value/\ok32 gG c.Yd
 c:p.Ya.length<2^40
 co:∀x∈p.Ya,Xa.Ok gG x
 d:p.Xr.length<2^40
theorem U1 {p:Prg} (o:p.Ok gG):PrgS p:=by
 obtain ⟨o0,o1,o2,o3,o4,o5,o6,o7,o8⟩:=o;have e:=zX;simp only [mV,okL,Xi.Ok,Fld.Ok,Xg.Ok,Action.Ok,Xf.Ok,Tbl.Ok,Xb.Ok,Xc.Ok,Xj.Ok] at o0 o1 o2 o3 o4 o5 o6 o7 o8;refine ⟨by omega,by omega,?_,?_,?_,by omega,?_,by omega,?_,by omega,?_,?_,?_,?_,?_,?_,by omega,?_,?_,?_,?_,by omega,?_,?_,?_,?_,by omega,o7.2,by omega⟩
 ·intro h hh;have:=(o1.2 h hh).1;omega
 ·intro h hh f hf;have:=((o1.2 h hh).2.2 f hf).1;omega
 ·intro h hh;have:=(o1.2 h hh).2.1;omega
 ·intro f hf;have:=(o2.2 f hf).1;omega
 ·intro r hr;have:=(o3.2 r hr).1;omega
 ·intro a ha;have:=(o4.2 a ha).1;omega
 ·intro a ha;have:=(o4.2 a ha).2.1.1;omega
 ·intro a ha f hf;have:=((o4.2 a ha).2.1.2 f hf).1;omega
 ·intro a ha;have:=(o4.2 a ha).2.2.1;omega
 ·intro a ha s hs;have:=((o4.2 a ha).2.2.2 s hs).2.2.2.2.1.1;omega
 ·intro a ha s hs;have:=((o4.2 a ha).2.2.2 s hs).2.2.2.2.2.1;omega
 ·intro t ht;have:=(o5.2 t ht).1;omega
 ·intro t ht;have:=(o5.2 t ht).2.1.1;omega
 ·intro t ht;have:=(o5.2 t ht).2.2.1.1;omega
 ·intro t ht;have:=(o5.2 t ht).2.2.2.1.2.1;omega
 ·intro s hs;have:=(o6.2 s hs).1;omega
 ·intro s hs;have:=(o6.2 s hs).2.1.1;omega
 ·intro s hs;have:=(o6.2 s hs).2.2.2.1.1;omega
 ·intro s hs c hc;have:=(o6.2 s hs).2.2.2.1.2 c hc;exact ⟨this.1,this.2.1⟩
theorem qze (p:Prg) (f:PrgS p):aB Φ tO [.agg (Prg.c p)]=some (rtD (limD p)):=by
 rw [aD rfl rfl];have n1:=Gn p.name f.n;cases q1:idS p.name with
 | false=>rw [q1] at n1;simp [gV,Prg.e,n1,dZ,eR,limD,q1,rtD]
 | true=>
 rw [q1] at n1;by_cases z1:8<p.Xo.length
 ·simp [gV,Prg.e,n1,dZ,gK,eR,limD,q1,rtD,z1]
 by_cases z2:4<p.Xl.length
 ·simp [gV,Prg.e,n1,dZ,gK,eR,limD,q1,rtD,z1,z2]
 by_cases z3:16<p.Xx.length
 ·simp [gV,Prg.e,n1,dZ,gK,eR,limD,q1,rtD,z1,z2,z3]
 by_cases z4:12<p.Xm.length
 ·simp [gV,Prg.e,n1,dZ,gK,eR,limD,q1,rtD,z1,z2,z3,z4]
 simp [gV,Prg.e,n1,dZ,gK,limD,q1,rtD,z1,z2,z3,z4]
def hdrG (p:Prg) (i:Nat):Option Dg:=(p.Xo[i]?).bind fun h=>if AE p i h=0 then none else some (AE p i h,1,(i:Int),0)
theorem Wq (p:Prg) (f:PrgS p):aB Φ tP [.agg (Prg.c p)]=some (rtD (hdrD p)):=by
 rw [aD rfl rfl,show hdrD p=fe (hdrG p) p.Xo.length 0 from rfl];have e1:=Wt p.Xo f.h;simp [BF,Prg.e,e1];refine eS p.Xo.length (fun _=>[]) 0 (fun i e=>look 2 e=some (.slice 1 (p.Xo.map fun x=>[.str x.name]))/\look 9 e=some (.slice 2 (p.Xo.map Xi.c))/\look 10 e=some (a7 p.Xo.length)/\look 11 e=some (a7 i))
  (fun i=>some (rtD (fe (hdrG p) p.Xo.length i))) ?_ ?_ 0 _ 0 (Qc _) (Qb _) ?_
 ·rintro i e n L hi hL _ ⟨h2,h9,h10,h11⟩ ih;have hlen:=f.h;have hw:=aP i (by omega);have hm:=Qd hi;have eh:=ID p.Xo[i] (f.hn _ hm) (f.hf _ hm);simp only [Xi.e] at eh;have er:=KF Xi.name p.Xo i hi f.h;by_cases z1:hdrE p.Xo[i]=0
  rotate_left
  ·rw [bS (x:=(hdrE p.Xo[i],1,(i:Int),0)) hi (by simp [hdrG,hi,AE,z1])];simp [c_131_l0,Xi.e,h9,h10,h11,hi,eh,eR,z1,rtD]
  by_cases z2:p.Xo[i].name=[109,101,116,97]
  ·rw [bS (x:=(6,1,(i:Int),0)) hi (by simp [hdrG,hi,AE,z1,z2])];rw [z2] at eh;simp [c_131_l0,Xi.e,h9,h10,h11,hi,eh,eR,gK,dZ,z1,z2,rtD]
  cases z3:dupN Xi.name p.Xo i p.Xo[i] with
  | true=>
   rw [z3] at er;rw [bS (x:=(7,1,(i:Int),0)) hi (by simp [hdrG,hi,AE,z1,z2,z3])];simp [c_131_l0,Xi.e,h2,h9,h10,h11,hi,eh,er,eR,gK,dZ,z1,z2,rtD]
  | false=>
   rw [z3] at er;rw [fI hi (by simp [hdrG,hi,AE,z1,z2,z3])];simp [c_131_l0,Xi.e,h2,h9,h10,h11,hi,eh,er,gK,dZ,z1,z2,hw];exact ih _ _ (Qc _) ⟨by simp [h2],by simp [h9],by simp [h10],by simp⟩
 ·rintro e n L hL _ ⟨h2,h9,h10,h11⟩;rw [gM];simp [c_131_l0,h10,h11,hL,rtD]
 ·simp
def scC (p:Prg) (ps:List Fld):List AV:=(mW p [.slice 2 (ps.map Fld.c)])
theorem aV (p:Prg) (ps:List Fld):scC p ps=(mW p [.slice 2 (ps.map Fld.c)]):=by simp [scC]
theorem Cz (op:Int):aB Φ mO [a7 op]=some (.val (a7 (ari op))):=by
 rw [aD rfl rfl];rcases (show op=1\/op=2\/op=3\/op=4\/op=5\/op=6\/op=7\/op=8\/op=9\/op=10\/op=11\/op=12\/op=13\/op=14\/op=15\/op=16\/op=17\/(op<1\/17<op) by omega) with rfl | rfl | rfl | rfl | rfl | rfl | rfl | rfl | rfl | rfl | rfl | rfl | rfl | rfl | rfl | rfl | rfl | h
 rotate_right
 ·have e:ari op= -1:=by
   unfold ari;rw [QA (by omega),QA (by omega),QA (by omega),QA (by omega)]
  rw [e];have h1:¬op=1:=by omega
  have h2:¬op=2:=by omega
  have h3:¬op=3:=by omega
  have h4:¬op=4:=by omega
  have h5:¬op=5:=by omega
  have h6:¬op=6:=by omega
  have h7:¬op=7:=by omega
  have h8:¬op=8:=by omega
  have h9:¬op=9:=by omega
  have h10:¬op=10:=by omega
  have h11:¬op=11:=by omega
  have h12:¬op=12:=by omega
  have h13:¬op=13:=by omega
  have h14:¬op=14:=by omega
  have h15:¬op=15:=by omega
  have h16:¬op=16:=by omega
  have h17:¬op=17:=by omega
  simp [tD,h1,h2,h3,h4,h5,h6,h7,h8,h9,h10,h11,h12,h13,h14,h15,h16,h17]
 all_goals simp [tD,ari]
theorem KX (w:Int):aB Φ iE [a7 w]=some (.val (.tup [a7 (wide w).1,a7 (wide w).2])):=by
 rw [aD rfl rfl];by_cases h1:w<1
 ·simp [oZ,wide,wBad,h1]
 by_cases h2:32<w
 ·simp [oZ,wide,wBad,h1,h2]
 simp [oZ,wide,wBad,h1,h2]
def dJ (p:Prg) (h f:Int):Option Fld:=(if h= -1 then some p.Xn else (at? p.Xo h).map (·.Xz)).bind fun l=>at? l f
theorem Dz (p:Prg) (h f:Int):decl p h f=(dJ p h f).map (·.Yc):=by
 unfold decl dJ;cases (if h= -1 then some p.Xn else (at? p.Xo h).map (·.Xz))<;>rfl
theorem RK (p:Prg) (ps:List Fld) (h i:Int):aB Φ vW [.agg (scC p ps),a7 h,a7 i]=some (.val (match dJ p h i with
  | some f=> .tup [.agg (Fld.c f),.bool true]
  | none=> .tup [.agg [.str [],.int .i64 0],.bool false])):=by
 rw [aD rfl rfl];by_cases hm:h= -1
 ·subst hm;by_cases i0:i<0
  ·rw [show dJ p (-1) i=none by simp [dJ,gC i0]];simp [eW,aV,i0]
  by_cases i1:(p.Xn.length:Int)<=i
  ·rw [show dJ p (-1) i=none by simp [dJ,iJ i1]];simp [eW,aV,i0,i1]
  obtain ⟨k,rfl⟩:∃k:Nat,i=k:=⟨i.toNat,by omega⟩;have hk:k<p.Xn.length:=by omega
  rw [show dJ p (-1) k=some p.Xn[k] by simp [dJ,hk]];simp [eW,aV,i0,i1,hk,Fld.e]
 by_cases h0:h<0
 ·rw [show dJ p h i=none by simp [dJ,hm,gC h0]];simp [eW,aV,hm,h0]
 by_cases h1:(p.Xo.length:Int)<=h
 ·rw [show dJ p h i=none by simp [dJ,hm,iJ h1]];simp [eW,aV,hm,h0,h1]
 obtain ⟨m,rfl⟩:∃k:Nat,h=k:=⟨h.toNat,by omega⟩;have hk:m<p.Xo.length:=by omega
 by_cases i0:i<0
 ·rw [show dJ p m i=none by simp [dJ,hm,hk,gC i0]];simp [eW,aV,hm,hk,Qf.2 hk,i0,Xi.e]
 by_cases i1:(p.Xo[m].Xz.length:Int)<=i
 ·rw [show dJ p m i=none by simp [dJ,hm,hk,iJ i1]];simp [eW,aV,hm,hk,Qf.2 hk,i0,i1,Xi.e]
 obtain ⟨k,rfl⟩:∃k:Nat,i=k:=⟨i.toNat,by omega⟩;have hk2:k<p.Xo[m].Xz.length:=by omega
 rw [show dJ p m k=some p.Xo[m].Xz[k] by simp [dJ,hm,hk,hk2]];simp [eW,aV,hm,hk,Qf.2 hk,hk2,Qf.2 hk2,Xi.e,Fld.e]
theorem qw7 (w:Int):IntKind.wrap .i64 (cP w)=cP w:=by
 unfold cP;cases h:wBad w with
 | true=>rw [a8 rfl];decide
 | false=>
  obtain ⟨h1,h2⟩:=wBad_false.1 h;obtain ⟨k,rfl⟩:∃k:Nat,w=k:=⟨w.toNat,by omega⟩;have:(2:Int)^k<=2^32:=by
   have:=B6 (n:=2) (by omega) (show k<=32 by omega)
   exact_mod_cast this
  have h0:(0:Int)<2^k:=by
   have:=Nat.pow_pos (a:=2) (n:=k) (by omega)
   exact_mod_cast this
  simp;exact cM (by omega) (by omega)
theorem Hj (p:Prg) (ps:List Fld) (x:Xd):aB Φ qL [.agg (scC p ps),.agg (Xd.c x)]=some (.val (.tup [a7 (prim p ps x).1,a7 (prim p ps x).2])):=by
 rw [aD rfl rfl];by_cases o1:x.op=1
 ·have hw:=KX x.w;have hm:=gH x.w;have hmw:=qw7 x.w;cases q:wBad x.w with
  | true=>
   simp [wide,q] at hw;simp [cU,aV,Xd.e,o1,prim,hw,q]
  | false=>
   simp [wide,q] at hw;by_cases n0:x.n<0
   ·simp [cU,aV,Xd.e,o1,prim,hw,q,n0]
   have e:cP x.w=2^x.w.toNat - 1:=by simp [cP,q]
   rw [e] at hm hmw;by_cases n1:2^x.w.toNat - 1<x.n
   ·simp [cU,aV,Xd.e,o1,prim,hw,hm,hmw,q,n0,n1]
   ·simp [cU,aV,Xd.e,o1,prim,hw,hm,hmw,q,n0,n1]
 by_cases o2:x.op=2
 ·have hf:=RK p ps x.n x.w;simp only [aV] at hf;cases q:dJ p x.n x.w with
  | none=>
   rw [q] at hf;simp [cU,aV,Xd.e,o2,prim,hf,Dz,q]
  | some f=>
   rw [q] at hf;simp only [Fld.e] at hf;have hw:=KX f.Yc;simp [cU,aV,Xd.e,o2,prim,hf,hw,Dz,q]
 by_cases o3:x.op=3
 ·by_cases n0:x.n<0
  ·simp [cU,aV,Xd.e,o3,prim,n0,gC n0]
  by_cases n1:(ps.length:Int)<=x.n
  ·simp [cU,aV,Xd.e,o3,prim,n0,n1,iJ n1]
  obtain ⟨k,hk⟩:∃k:Nat,x.n=k:=⟨x.n.toNat,by omega⟩;have hk2:k<ps.length:=by omega
  have hw:=KX ps[k].Yc;simp [cU,aV,Xd.e,Fld.e,o3,prim,hk,hk2,Qf.2 hk2,hw]
 by_cases n0:x.n<0
 ·simp [cU,aV,Xd.e,o1,o2,o3,prim,n0,gC n0]
 by_cases n1:(p.Xo.length:Int)<=x.n
 ·simp [cU,aV,Xd.e,o1,o2,o3,prim,n0,n1,iJ n1]
 obtain ⟨k,hk⟩:∃k:Nat,x.n=k:=⟨x.n.toNat,by omega⟩;have hk2:k<p.Xo.length:=by omega
 simp [cU,aV,Xd.e,o1,o2,o3,prim,hk,hk2,Qf.2 hk2]
theorem Bp (x:Xd) (a b c:Int) (ha:0<=a/\a<=32) (hb:0<=b/\b<=32):aB Φ vI [.agg (Xd.c x),.agg [a7 a,a7 b,a7 c]]=some (.val (.tup [a7 (comb x a b c).1,a7 (comb x a b c).2])):=by
 rw [aD rfl rfl];have hA:=Cz x.op;have hw:=KX x.w;have hab:IntKind.wrap .i64 (a+b)=a+b:=cM (by omega) (by omega);have hw2:=KX (a+b);by_cases o6:x.op=6
 ·rw [show ari x.op=1 by simp [o6,ari]] at hA;rw [o6] at hA;by_cases n0:x.n<0
  ·simp [bA,Xd.e,o6,comb,n0]
  by_cases n1:31<x.n
  ·simp [bA,Xd.e,o6,comb,n0,n1]
  simp [bA,Xd.e,o6,comb,n0,n1,hA]
 by_cases o7:x.op=7
 ·rw [show ari x.op=1 by simp [o7,ari]] at hA;rw [o7] at hA;by_cases n0:x.n<0
  ·simp [bA,Xd.e,o7,comb,n0]
  by_cases n1:31<x.n
  ·simp [bA,Xd.e,o7,comb,n0,n1]
  simp [bA,Xd.e,o7,comb,n0,n1,hA]
 by_cases o8:x.op=8
 ·by_cases n0:x.n<0
  ·simp [bA,Xd.e,o8,comb,n0]
  cases q:wBad x.w with
  | true=>
   simp [wide,q] at hw;simp [bA,Xd.e,o8,comb,n0,q,hw]
  | false=>
   simp [wide,q] at hw;obtain ⟨w1,w2⟩:=wBad_false.1 q;have hs:IntKind.wrap .i64 (a - x.w)=a - x.w:=cM (by omega) (by omega);by_cases n1:a - x.w<x.n
   ·simp [bA,Xd.e,o8,comb,n0,q,hw,hs,n1]
   ·simp [bA,Xd.e,o8,comb,n0,q,hw,hs,n1]
 by_cases o14:x.op=14
 ·simp [bA,Xd.e,o14,comb,hab,hw2]
 by_cases o17:x.op=17
 ·by_cases a1:a=1
  ·by_cases bc:b=c
   ·simp [bA,Xd.e,o17,comb,a1,bc]
   ·simp [bA,Xd.e,o17,comb,a1,bc]
  ·simp [bA,Xd.e,o17,comb,a1]
 by_cases r2:ari x.op=2
 ·rw [r2] at hA;by_cases ab:a=b
  ·by_cases o15:x.op=15
   ·rw [o15] at hA;simp [bA,Xd.e,o15,comb,ab,hA]
   by_cases o16:x.op=16
   ·rw [o16] at hA;simp [bA,Xd.e,o16,comb,ab,hA]
   simp [bA,Xd.e,o6,o7,o8,o14,o15,o16,o17,comb,r2,ab,hA]
  ·simp [bA,Xd.e,o6,o7,o8,o14,o17,comb,r2,ab,hA]
 ·have o15:¬x.op=15:=by intro h;apply r2;simp [h,ari]
  have o16:¬x.op=16:=by intro h;apply r2;simp [h,ari]
  simp [bA,Xd.e,o6,o7,o8,o14,o15,o16,o17,comb,r2,hA]
end Go.Av
