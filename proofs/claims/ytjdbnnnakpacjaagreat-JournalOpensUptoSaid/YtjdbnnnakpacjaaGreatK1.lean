/-
 Identifiers: the program's answer.
-/
import Derived.Test.YtjdbnnnakpacjaaGreatFunsAU
set_option linter.unusedVariables false
set_option linter.unusedSimpArgs false
namespace Go.Av
set_option maxRecDepth 4000
abbrev mN (p:Prg) (r:List AV):List AV:= .str p.name::.slice 2 (p.Xp.map Xj.c)::.slice 2 (p.Xo.map Fld.c)::.slice 3 (p.Xm.map Xh.c)::.slice 3 (p.Xy.map Action.c)::.slice 6 (p.Xn.map Tbl.c)::.slice 7 (p.Xx.map Xd.c)::.slice 5 (p.Yb.map Xa.c)::.slice 1 (p.Xs.map cI)::r
def letC (c:Int):Bool:=(decide (97<=c)&&decide (c<=122)) || (decide (65<=c)&&decide (c<=90))
def digI (c:Int):Bool:=decide (48<=c)&&decide (c<=57)
def idC (c:Int):Bool:=letC c || (digI c || decide (c=95))
theorem qol (c:Int):a9 Φ w7 [.int .u8 c]=some (.val (.bool (letC c))):=by
 rw [aA rfl rfl];by_cases h1:97<=c<;>by_cases h2:c<=122<;>by_cases h3:65<=c<;>simp [KV,letC,h1,h2,h3]
theorem qzt (c:Int):a9 Φ DR [.int .u8 c]=some (.val (.bool (digI c))):=by
 rw [aA rfl rfl];by_cases h1:48<=c<;>simp [KZ,digI,h1]
theorem Oe (c:Int):a9 Φ rK [.int .u8 c]=some (.val (.bool (idC c))):=by
 rw [aA rfl rfl];have h1:=qol c;have h2:=qzt c;cases q1:letC c<;>cases q2:digI c<;>rw [q1] at h1<;>rw [q2] at h2<;>simp [KY,idC,h1,h2,q1,q2]
theorem V' (s:List UInt8) (hs:s.length<2^40):a9 Φ DP [.str s,.func (.func rK) [] []]=some (.val (a8 (s.takeWhile fun b=>idC b.toNat).length)):=by
 rw [aA rfl rfl];simp [KW];refine (fJ s.length (fun i e=>look 0 e=some (.str s)/\look 1 e=some (.func (.func rK) [] [])/\look 5 e=some (a8 i))
  (fun i=>some (Rt.val (a8 (i+((s.drop i).takeWhile fun b=>idC b.toNat).length:Nat)))) ?_ ?_ 0 _ (Qc _) ?_).trans (by simp)
 ·rintro i e L hi hL ⟨h0,h1,h5⟩ ih;have hw:=aL i (by omega);have hc:=Oe (s[i].toNat:Int);rw [Qi hi];cases q:idC (s[i].toNat:Int) with
  | true=>
   rw [q] at hc;rw [show List.takeWhile (fun b:UInt8=>idC b.toNat) (s[i]::s.drop (i+1))=s[i]::List.takeWhile (fun b:UInt8=>idC b.toNat) (s.drop (i+1)) from List.takeWhile_cons_of_pos q];simp [c_267_l0,h0,h1,h5,hi,hc,hw];refine (ih _ ⟨by simp [h0],by simp [h1],by simp⟩).trans ?_;simp;omega
  | false=>
   rw [q] at hc;rw [show List.takeWhile (fun b:UInt8=>idC b.toNat) (s[i]::s.drop (i+1))=[] from List.takeWhile_cons_of_neg (by simp [q])];simp [c_267_l0,c_267_k1,h0,h1,h5,hi,hL,hc]
 ·rintro e L hL ⟨h0,h1,h5⟩;simp [c_267_l0,c_267_k1,h0,h5,hL]
 ·simp
def idS (s:List UInt8):Bool:=match s with
 | []=>false
 | c::_=>decide (s.length<=16)&&(letC c.toNat&&s.all fun b=>idC b.toNat)
theorem Zu (p:UInt8->Bool):∀s:List UInt8,((s.takeWhile p).length=s.length)↔s.all p=true
 | []=>by simp
 | c::r=>by
  have:=Zu p r;cases q:p c<;>simp [q];simpa using this
theorem qx7 {s:List UInt8} (h:0<s.length):idS s=(decide (s.length<=16)&&(letC s[0].toNat&&s.all fun b=>idC b.toNat)):=by
 cases s with
 | nil=>simp at h
 | cons c r=>rfl
theorem LM (s:List UInt8) (hs:s.length<2^40):a9 Φ gM [.str s]=some (.val (.bool (idS s))):=by
 rw [aA rfl rfl];by_cases h0:s.length=0
 ·have:s=[]:=Qg h0;subst this;simp [pX,idS]
 have hp:0<s.length:=by omega
 rw [qx7 hp];by_cases h16:16<s.length
 ·simp [pX,h0,h16,Qf.2 h16]
 have hl:=qol (s[0].toNat:Int);cases q:letC (s[0].toNat:Int) with
 | false=>
  rw [q] at hl;simp [pX,h0,hp,h16,hl]
 | true=>
  rw [q] at hl;have he:=V' s hs;have ht:=Zu (fun b=>idC b.toNat) s;have e:(decide ((s.takeWhile fun b=>idC b.toNat).length=s.length))=(s.all fun b=>idC b.toNat):=by
   cases h:(s.all fun b=>idC b.toNat) with
   | true=>exact decide_eq_true (ht.2 h)
   | false=>exact decide_eq_false (fun h2=>by have:=ht.1 h2;rw [h] at this;cases this)
  simp [pX,h0,hp,h16,Nat.le_of_not_lt h16,hl,he,e]
theorem Fld.e (x:Fld):Fld.c x=[.str x.name,a8 x.Yd]:=by simp [Fld.c]
theorem Xe.e (x:Xe):Xe.c x=[a8 x.op,a8 x.n,a8 x.w]:=by simp [Xe.c]
theorem Xl.e (x:Xl):Xl.c x=[a8 x.field.header,a8 x.field.field,a8 x.kind]:=by simp [Xl.c]
theorem Xb.e (x:Xb):Xb.c x=[a8 x.Xz,.slice 1 (x.args.map c32)]:=by simp [Xb.c]
theorem Xk.e (x:Xk):Xk.c x=[.int .u32 x.value,.int .u32 x.Ye,a8 x.next]:=by simp [Xk.c]
theorem Action.e (x:Action):Action.c x=[.str x.name,.slice 2 (x.params.map Fld.c),.slice 7 (x.body.map Xg.c)]:=by simp [Action.c]
theorem Xj.e (x:Xj):Xj.c x=[.str x.name,.slice 2 (x.Ya.map Fld.c)]:=by simp [Xj.c]
theorem Xh.e (x:Xh):Xh.c x=[.str x.name,a8 x.Yd,a8 x.size]:=by simp [Xh.c]
theorem Xg.e (x:Xg):Xg.c x=[a8 x.kind,a8 x.dst.header,a8 x.dst.field,a8 x.Yf,a8 x.header,.slice 3 (x.index.map Xe.c),.slice 3 (x.value.map Xe.c)]:=by simp [Xg.c]
theorem Tbl.e (x:Tbl):Tbl.c x=[.str x.name,.slice 3 (x.keys.map Xl.c),.slice 1 (x.Xy.map cI),a8 x.Yc.Xz,.slice 1 (x.Yc.args.map c32),a8 x.size]:=by simp [Tbl.c]
theorem Xd.e (x:Xd):Xd.c x=[.str x.name,.slice 1 (x.extract.map cI),.bool x.select,a8 x.on.header,a8 x.on.field,.slice 3 (x.cases.map Xk.c),a8 x.Yc]:=by simp [Xd.c]
theorem Xa.e (k t:Int) (c:List Xe) (a b:List Xa):Xa.c (.mk k t c a b)=[a8 k,a8 t,.slice 3 (c.map Xe.c),.slice 5 (a.map Xa.c),.slice 5 (b.map Xa.c)]:=by simp [Xa.c,Xa.cs_eq]
theorem Prg.e (x:Prg):Prg.c x=[.str x.name,.slice 2 (x.Xp.map Xj.c),.slice 2 (x.Xo.map Fld.c),.slice 3 (x.Xm.map Xh.c),.slice 3 (x.Xy.map Action.c),.slice 6 (x.Xn.map Tbl.c),.slice 7 (x.Xx.map Xd.c),.slice 5 (x.Yb.map Xa.c),.slice 1 (x.Xs.map cI)]:=by simp [Prg.c]
def feF {α:Type} (f:Nat->Option α):Nat->Nat->Option α
 | 0,_=>none
 | n+1,i=>match f i with
  | some x=>some x
  | none=>feF f n (i+1)
def fe {α:Type} (f:Nat->Option α) (N i:Nat):Option α:=feF f (N - i) i
variable {α:Type} {i N:Nat}
theorem aZ {f:Nat->Option α} {x:α} (hi:i<N) (h:f i=some x):fe f N i=some x:=by
 unfold fe;rw [show N - i=(N - (i+1))+1 by omega];simp [feF,h]
theorem cZ {f:Nat->Option α} (hi:i<N) (h:f i=none):fe f N i=fe f N (i+1):=by
 unfold fe;rw [show N - i=(N - (i+1))+1 by omega];simp [feF,h]
theorem dV {f:Nat->Option α}:fe f N N=none:=by simp [fe,feF]
def er (e:Int):Option Int:=if e=0 then none else some e
@[simp] theorem er_zero:er 0=none:=by simp [er]
def errO:Option Int->Int
 | none=>0
 | some e=>e
@[simp] theorem a1R:errO none=0:=by simp [errO]
@[simp] theorem a1S (e:Int):errO (some e)=e:=by simp [errO]
def at? {α:Type} (l:List α) (i:Int):Option α:=if i<0 then none else l[i.toNat]?
@[simp] theorem P2 (l:List α) (i:Nat):at? l (i:Int)=l[i]? :=by
 unfold at?;rw [QA (by omega)];simp
theorem iI {l:List α} {i:Int} (h:i<0):at? l i=none:=by simp [at?,h]
theorem iH {l:List α} {i:Int} (h:(l.length:Int)<=i):at? l i=none:=by
 unfold at?;split
 ·rfl
 ·simp;omega
def wBad (w:Int):Bool:=decide (w<1) || decide (32<w)
def dupN {α:Type} (nm:α->List UInt8) (l:List α) (i:Nat) (x:α):Bool:=(l.take i).any fun y=>decide (nm y=nm x)
def fldE (l:List Fld) (i:Nat) (f:Fld):Int:=if idS f.name=false then 6 else if wBad f.Yd then 10 else if dupN Fld.name l i f then 7 else 0
def P9 (l:List Fld):Option Int:=fe (fun i=>(l[i]?).bind fun f=>er (fldE l i f)) l.length 0
def wSum (l:List Fld):Int:=(l.map (·.Yd)).sum
def hdrE (h:Xj):Int:=if idS h.name=false then 6 else if h.Ya.length=0 then 8 else if 12<h.Ya.length then 12 else
 match P9 h.Ya with
 | some e=>e
 | none=>if (wSum h.Ya) % 8=0 then 0 else 10
def regE (r:Xh):Int:=if idS r.name=false then 6 else if wBad r.Yd then 10 else if r.size<1\/64<r.size then 9 else 0
def decl (p:Prg) (h f:Int):Option Int:=(if h= -1 then some p.Xo else (at? p.Xp h).map (·.Ya)).bind fun l=>(at? l f).map (·.Yd)
def wid (p:Prg) (h f:Int):Int:=match decl p h f with
 | some w=>if wBad w then 0 else w
 | none=>0
def ari (op:Int):Int:=if 1<=op/\op<=4 then 0 else if 5<=op/\op<=8 then 1 else if 9<=op/\op<=16 then 2 else if op=17 then 3 else -1
def wide (w:Int):Int×Int:=if wBad w then (0,10) else (w,0)
def prim (p:Prg) (ps:List Fld) (x:Xe):Int×Int:=
 if x.op=1 then (if wBad x.w then (0,10) else if x.n<0\/2^x.w.toNat - 1<x.n then (0,9) else (x.w,0))
 else if x.op=2 then (match decl p x.n x.w with | some w=>wide w | none=>(0,8))
 else if x.op=3 then (match at? ps x.n with | some f=>wide f.Yd | none=>(0,8))
 else if (at? p.Xp x.n).isSome then (1,0) else (0,8)
def comb (x:Xe) (a b c:Int):Int×Int:=
 if x.op=6\/x.op=7 then (if x.n<0\/31<x.n then (0,9) else (a,0))
 else if x.op=8 then (if x.n<0 then (0,9) else if wBad x.w\/a - x.w<x.n then (0,10) else (x.w,0))
 else if x.op=14 then wide (a+b)
 else if x.op=17 then (if a≠1\/b≠c then (0,10) else (b,0))
 else if ari x.op=2/\a≠b then (0,10)
 else if x.op=15\/x.op=16 then (1,0) else (a,0)
def chk (p:Prg) (ps:List Fld) (l:List Xe):Nat->Nat->Except Int (Int×Nat)
 | 0,_=> .error 3
 | n+1,i=>match l[i]? with
  | none=> .error 3
  | some x=>
   if ari x.op<0 then .error 11
   else if ari x.op=0 then (if (prim p ps x).2=0 then .ok ((prim p ps x).1,i+1) else .error (prim p ps x).2)
   else match chk p ps l n (i+1) with
    | .error e=> .error e
    | .ok (a,i1)=>
     if ari x.op=1 then (if (comb x a 0 0).2=0 then .ok ((comb x a 0 0).1,i1) else .error (comb x a 0 0).2)
     else match chk p ps l n i1 with
      | .error e=> .error e
      | .ok (b,i2)=>
       if ari x.op=2 then (if (comb x a b 0).2=0 then .ok ((comb x a b 0).1,i2) else .error (comb x a b 0).2)
       else match chk p ps l n i2 with
        | .error e=> .error e
        | .ok (c,i3)=>if (comb x a b c).2=0 then .ok ((comb x a b c).1,i3) else .error (comb x a b c).2
def exE (p:Prg) (ps:List Fld) (l:List Xe):Int×Int:=
 if 24<l.length then (0,12) else match chk p ps l (l.length+1) 0 with
 | .error e=>(0,e)
 | .ok (w,i)=>if i<l.length then (0,4) else (w,0)
def valE (p:Prg) (ps:List Fld) (l:List Xe) (w:Int):Int:=if (exE p ps l).2=0 then (if (exE p ps l).1=w then 0 else 10) else (exE p ps l).2
def stmE (p:Prg) (ps:List Fld) (s:Xg):Int:=
 if s.kind=1 then (match decl p s.dst.header s.dst.field with
  | none=>8
  | some w=>valE p ps s.value w)
 else if s.kind=2\/s.kind=3 then (if (at? p.Xp s.header).isSome then 0 else 8)
 else if s.kind=4 then (match at? p.Xm s.Yf,decl p s.dst.header s.dst.field with
  | some r,some w=>if (exE p ps s.index).2=0 then (if w=r.Yd then 0 else 10) else (exE p ps s.index).2
  | _,_=>8)
 else if s.kind=5 then (match at? p.Xm s.Yf with
  | some r=>if (exE p ps s.index).2=0 then valE p ps s.value r.Yd else (exE p ps s.index).2
  | none=>8)
 else 11
def actD (a:Action):Int:=if idS a.name=false then 6 else if 4<a.params.length\/12<a.body.length then 12 else errO (P9 a.params)
def bodyE (p:Prg) (a:Action):Option (Int×Int):=fe (fun k=>(a.body[k]?).bind fun s=>if stmE p a.params s=0 then none else some ((k:Int),stmE p a.params s)) a.body.length 0
def actE (p:Prg) (i:Int):Int×Int:=match at? p.Xy i with
 | none=>(-1,8)
 | some a=>if actD a≠0 then (-1,actD a) else (bodyE p a).getD (0,0)
def fits (v w:Int):Bool:= !wBad w&&decide (v<2^w.toNat)
def pA (p:Prg) (c:Xb):Int:=match at? p.Xy c.Xz with
 | none=>8
 | some a=>if c.args.length≠a.params.length then 2 else errO (fe (fun i=>match c.args[i]?,a.params[i]? with
  | some v,some f=>if fits v f.Yd then none else some 9
  | _,_=>none) c.args.length 0)
def keyE (p:Prg) (x:Tbl):Option (Int×Int):=fe (fun i=>(x.keys[i]?).bind fun k=>
 if wid p k.field.header k.field.field=0 then some ((i:Int),8) else if k.kind=1\/k.kind=2\/k.kind=3 then none else some ((i:Int),11)) x.keys.length 0
def kWid (p:Prg) (x:Tbl):List Int:=x.keys.map fun k=>wid p k.field.header k.field.field
def wU (p:Prg) (x:Tbl):Int×Int:=match keyE p x with
 | some e=>e
 | none=>if 1<x.keys.countP (fun k=>decide (k.kind=2)) then (-2,7) else if 64<(kWid p x).sum then (-2,10) else (0,0)
def GA (p:Prg) (x:Tbl):Int:=match fe (fun i=>(x.Xy[i]?).bind fun a=>if a<0\/(p.Xy.length:Int)<=a then some (8:Int) else if (x.Xy.take i).contains a then some 7 else none) x.Xy.length 0 with
 | some e=>e
 | none=>if x.Xy.contains x.Yc.Xz then pA p x.Yc else 8
def tblE (p:Prg) (t:Int):Int×Int:=match at? p.Xn t with
 | none=>(-1,8)
 | some x=>if idS x.name=false then (-1,6) else if 6<x.keys.length\/16<x.Xy.length then (-1,12) else if x.size<1\/256<x.size then (-1,9)
  else if (wU p x).2≠0 then wU p x else if GA p x≠0 then (-3,GA p x) else (0,0)
def oQ (p:Prg) (s:Nat) (n:Int):Bool:=decide (n= -1) || decide (n= -2) || (decide ((s:Int)<n)&&decide (n<p.Xx.length))
def pB (p:Prg) (s:Nat) (x:Xd) (c:Xk):Int:=
 if fits c.value (wid p x.on.header x.on.field)=false\/fits c.Ye (wid p x.on.header x.on.field)=false then 9
 else if c.value.toNat&&& c.Ye.toNat≠c.value.toNat then 5
 else if oQ p s c.next then 0 else 14
def stE (p:Prg) (s:Nat) (x:Xd):Int×Int:=
 if 4<x.extract.length\/8<x.cases.length then (-1,12)
 else if x.extract.any (fun h=>decide (h<0) || decide ((p.Xp.length:Int)<=h)) then (-1,8)
 else if x.select=true/\wid p x.on.header x.on.field=0 then (-1,8)
 else if x.select=false/\0<x.cases.length then (-1,11)
 else match fe (fun i=>(x.cases[i]?).bind fun c=>if pB p s x c=0 then none else some ((i:Int),pB p s x c)) x.cases.length 0 with
  | some e=>e
  | none=>if oQ p s x.Yc then (0,0) else (-1,14)
def parE (p:Prg):Int×Int×Int:=
 if p.Xx.length=0 then (-1,-1,8) else if 12<p.Xx.length then (-1,-1,12)
 else (fe (fun s=>(p.Xx[s]?).bind fun x=>if idS x.name=false then some ((s:Int),(-1:Int),(6:Int)) else if dupN Xd.name p.Xx s x then some ((s:Int),-1,7)
  else if (stE p s x).2=0 then none else some ((s:Int),(stE p s x).1,(stE p s x).2)) p.Xx.length 0).getD (0,0,0)
def depE (p:Prg):Int×Int:=if 8<p.Xs.length then (-1,12) else
 (fe (fun i=>(p.Xs[i]?).bind fun h=>if h<0\/(p.Xp.length:Int)<=h then some ((i:Int),(8:Int)) else if (p.Xs.take i).contains h then some ((i:Int),7) else none) p.Xs.length 0).getD (0,0)
def Xa.kind:Xa->Int | .mk k _ _ _ _=>k
def Xa.table:Xa->Int | .mk _ t _ _ _=>t
def Xa.cond:Xa->List Xe | .mk _ _ c _ _=>c
def Xa.thn:Xa->List Xa | .mk _ _ _ a _=>a
def Xa.els:Xa->List Xa | .mk _ _ _ _ b=>b
mutual
def pre1:Xa->List Xa
 | .mk k t c a b=> .mk k t c a b::(pre a++pre b)
def pre:List Xa->List Xa
 | []=>[]
 | x::r=>pre1 x++pre r
end
mutual
def G8:Xa->Nat
 | .mk _ _ _ a b=>max (nest a) (nest b)
def nest:List Xa->Nat
 | []=>0
 | x::r=>max (1+G8 x) (nest r)
end
def appl (x:Xa):Bool:=decide (x.kind=1) || decide (x.kind=3)
def kU (p:Prg) (l:List Xa) (x:Xa):Int:=
 if x.kind=2 then (if (exE p [] x.cond).2=0 then (if (exE p [] x.cond).1=1 then 0 else 10) else (exE p [] x.cond).2)
 else if x.kind=1\/x.kind=3 then (if x.table<0\/(p.Xn.length:Int)<=x.table then 8
  else if l.any (fun y=>appl y&&decide (y.table=x.table)) then 7
  else if x.kind=1/\0<x.thn.length+x.els.length then 5 else 0)
 else 11
def ctlE (p:Prg):Int×Int:=if 24<(pre p.Yb).length then (-1,12) else if 6<nest p.Yb then (-1,14)
 else (fe (fun i=>((pre p.Yb)[i]?).bind fun x=>if kU p ((pre p.Yb).take i) x=0 then none else some ((i:Int),kU p ((pre p.Yb).take i) x)) (pre p.Yb).length 0).getD (0,0)
abbrev Dg:=Int×Int×Int×Int
def limD (p:Prg):Option Dg:=if idS p.name=false then some (6,0,0,0) else if 8<p.Xp.length then some (12,0,1,0) else if 4<p.Xm.length then some (12,0,3,0)
 else if 16<p.Xy.length then some (12,0,4,0) else if 12<p.Xn.length then some (12,0,5,0) else none
def yP (p:Prg) (i:Nat) (h:Xj):Int:=if hdrE h≠0 then hdrE h else if h.name=[109,101,116,97] then 6 else if dupN Xj.name p.Xp i h then 7 else 0
def hdrD (p:Prg):Option Dg:=fe (fun i=>(p.Xp[i]?).bind fun h=>if yP p i h=0 then none else some (yP p i h,1,(i:Int),0)) p.Xp.length 0
def o9 (i:Nat):Fld:=if i=0 then ⟨[105,110],8⟩ else if i=1 then ⟨[111,117,116],8⟩ else ⟨[100,114,111,112],1⟩
def metD (p:Prg):Option Dg:=if 12<p.Xo.length then some (12,2,0,0)
 else match fe (fun i=>(p.Xo[i]?).bind fun f=>if fldE p.Xo i f=0 then none else some (fldE p.Xo i f,(2:Int),(i:Int),(0:Int))) p.Xo.length 0 with
  | some d=>some d
  | none=>fe (fun i=>if p.Xo[i]? =some (o9 i) then none else some (5,2,(i:Int),0)) 3 0
def yQ (p:Prg) (i:Nat) (r:Xh):Int:=if regE r≠0 then regE r else if dupN Xh.name p.Xm i r then 7 else 0
def regD (p:Prg):Option Dg:=fe (fun i=>(p.Xm[i]?).bind fun r=>if yQ p i r=0 then none else some (yQ p i r,3,(i:Int),0)) p.Xm.length 0
def s8 (p:Prg):Option Dg:=fe (fun i=>(p.Xy[i]?).bind fun a=>if (actE p i).2≠0 then some ((actE p i).2,(4:Int),(i:Int),(actE p i).1) else if dupN Action.name p.Xy i a then some (7,4,(i:Int),0) else none) p.Xy.length 0
def tblD (p:Prg):Option Dg:=fe (fun i=>(p.Xn[i]?).bind fun a=>if (tblE p i).2≠0 then some ((tblE p i).2,(5:Int),(i:Int),(tblE p i).1) else if dupN Tbl.name p.Xn i a then some (7,5,(i:Int),0) else none) p.Xn.length 0
def floD (p:Prg):Option Dg:=if (parE p).2.2≠0 then some ((parE p).2.2,6,(parE p).1,(parE p).2.1) else if (ctlE p).2≠0 then some ((ctlE p).2,7,(ctlE p).1,0)
 else if (depE p).2≠0 then some ((depE p).2,8,(depE p).1,0) else none
def prgD (p:Prg):Dg:=((((((limD p).or (hdrD p)).or (metD p)).or (regD p)).or (s8 p)).or (tblD p)).or (floD p)|>.getD (0,0,0,0)
def eC (w:Int):Int:=if wBad w then 0 else 2^w.toNat - 1
variable {w:Int}
theorem wBad_false:wBad w=false↔1<=w/\w<=32:=by
 simp [wBad]
theorem wr1:IntKind.wrap .i64 1=1:=by decide
theorem wr2:IntKind.wrap .i64 2=2:=by decide
theorem wr3:IntKind.wrap .i64 3=3:=by decide
theorem XQ (w:Int):a9 Φ nP [.slice 1 [[a8 w]]]=some (.val (.bool (!wBad w))):=by
 rw [aA rfl rfl];by_cases h1:w<1
 ·simp [uL];rw [bG];simp [c_261_l0,h1,wBad]
 by_cases h2:32<w
 ·simp [uL];rw [bG];simp [c_261_l0,h1,h2,wBad]
 simp [uL];rw [bG];simp [c_261_l0,h1,h2,wr1];rw [bG];simp [c_261_k1,h1,h2,wBad]
theorem Di:∀k:Nat,k<33->1<=k->ishr .u32 4294967295 (IntKind.wrap .i64 (32 - (k:Int)))=2^k - 1/\0<=IntKind.wrap .i64 (32 - (k:Int)):=by decide
theorem LV (w:Int):a9 Φ gL [a8 w]=some (.val (.int .u32 (eC w))):=by
 rw [aA rfl rfl];have hv:=XQ w;cases h:wBad w with
 | true=>
  rw [h] at hv;simp [AY,hv,eC,h]
 | false=>
  rw [h] at hv;obtain ⟨h1,h2⟩:=wBad_false.1 h;obtain ⟨k,rfl⟩:∃k:Nat,w=k:=⟨w.toNat,by omega⟩;obtain ⟨e1,e2⟩:=Di k (by omega) (by omega);simp [AY,hv,eC,h,e2];exact e1
theorem UM (v w:Int):a9 Φ lH [.int .u32 v,a8 w]=some (.val (.bool (fits v w))):=by
 rw [aA rfl rfl];have hv:=XQ w;have hm:=LV w;cases h:wBad w with
 | true=>
  rw [h] at hv;simp [BA,hv,fits,h]
 | false=>
  rw [h] at hv;have e:(v<=eC w)↔v<2^w.toNat:=by
   simp only [eC,h];simp;omega
  simp [BA,hv,hm,fits,h,e]
theorem fZ (b:Bool) (c:Int):a9 Φ d8 [.bool b,a8 c]=some (.val (a8 (if b then c else 0))):=by
 rw [aA rfl rfl];cases b<;>simp [JL]
theorem qwe (r:Xh):a9 Φ v9 [.agg (Xh.c r)]=some (.val (.bool (!(decide (r.size<1) || decide (64<r.size))))):=by
 rw [aA rfl rfl];by_cases h1:r.size<1<;>by_cases h2:64<r.size<;>simp [JG,Xh.e,h1,h2,p9.2,fV.1]
 all_goals omega
theorem Kr (r:Xh) (hs:r.name.length<2^40):a9 Φ CG [.agg (Xh.c r)]=some (.val (a8 (regE r))):=by
 rw [aA rfl rfl];have h1:=LM r.name hs;have h2:=LV r.Yd;have h3:=qwe r;rw [Xh.e] at h3;cases q1:idS r.name with
 | false=>rw [q1] at h1;simp [mY,Xh.e,h1,regE,q1]
 | true=>
  rw [q1] at h1;cases q2:wBad r.Yd with
  | true=>simp [mY,Xh.e,h1,h2,regE,q1,q2,eC]
  | false=>
   obtain ⟨w1,w2⟩:=wBad_false.1 q2;have:¬(2:Int)^r.Yd.toNat - 1=0:=by
    have:(2:Int)^1<=2^r.Yd.toNat:=by
     have:=MN (n:=2) (by omega) (show 1<=r.Yd.toNat by omega)
     exact_mod_cast this
    omega
   by_cases z1:r.size<1
   ·simp [z1] at h3;simp [mY,Xh.e,h1,h2,h3,regE,q1,q2,eC,this,z1]
   by_cases z2:64<r.size
   ·simp [z1,z2] at h3;simp [mY,Xh.e,h1,h2,h3,regE,q1,q2,eC,this,z1,z2]
   simp [z1,z2] at h3;simp [mY,Xh.e,h1,h2,h3,regE,q1,q2,eC,this,z1,z2]
variable {l:List Fld}
theorem Uf (h:i<l.length):wSum (l.take (i+1))=wSum (l.take i)+l[i].Yd:=by
 unfold wSum;rw [Qh h,u7,QF,QD,Q9]
variable {I:Type}
@[simp] theorem a0z (f:α->I) (l:List α):(l.map f).take l.length=l.map f:=by
 rw [Qo];simp
theorem Dc (h:Xj) (hl:h.Ya.length<2^40):a9 Φ vS [.agg (Xj.c h)]=some (.val (.slice 1 (h.Ya.map fun f=>[a8 f.Yd]))):=by
 rw [aA rfl rfl];simp [KD,Xj.e];refine (dK h.Ya.length (fun i=>[(0,.tok 1 i)]) 1 (fun i e=>look 3 e=some (.app 1 ((h.Ya.map fun f=>[a8 f.Yd]).take i) 0)/\look 7 e=some (.slice 2 (h.Ya.map Fld.c))/\look 8 e=some (a8 h.Ya.length)/\look 9 e=some (a8 i))
  (fun i=>some (.val (.slice 1 (h.Ya.map fun f=>[a8 f.Yd])))) ?_ ?_ 0 _ 1 (Qc _) (Qb _) ?_).trans (by simp)
 ·rintro i e n L hi hL hn ⟨h3,h7,h8,h9⟩ ih;have hw:=aL i (by omega);have hn0:¬(0=n):=by omega
  have hn1:¬(n=0):=by omega
  have hm:min i h.Ya.length=i:=by omega
  have hb:(i+1)*8<=70368744177664:=by omega
  simp [c_227_l0,Fld.e,h3,h7,h8,h9,hi,hw,hn0,hm,hb];exact ih _ _ (by omega) ⟨by simp [jS hi],by simp [h7],by simp [h8],by simp⟩
 ·rintro e n L hL hn ⟨h3,h7,h8,h9⟩;simp [c_227_l0,c_227_k1,h3,h8,h9,hL]
 ·simp
theorem Pi (l:List Int) (hl:l.length<2^40) (hb:∀x∈l,1<=x/\x<=32):a9 Φ vQ [.slice 1 (l.map fun x=>[a8 x])]=some (.val (a8 l.sum)):=by
 rw [aA rfl rfl];simp [KC];have key:∀i,i<=l.length->0<=(l.take i).sum/\(l.take i).sum<=32*i:=by
  intro i
  induction i with
  | zero=>intro _;simp
  | succ i ih=>
   intro hi;have:=ih (by omega);have hx:=hb _ (Qd (show i<l.length by omega));rw [Qh (by omega),QF,Q9];omega
 refine (fJ l.length (fun i e=>look 3 e=some (a8 (l.take i).sum)/\look 6 e=some (.slice 1 (l.map fun x=>[a8 x]))/\look 7 e=some (a8 l.length)/\look 8 e=some (a8 i))
  (fun i=>some (.val (a8 l.sum))) ?_ ?_ 0 _ (Qc _) ?_).trans (by simp)
 ·rintro i e L hi hL ⟨h3,h6,h7,h8⟩ ih;have hw:=aL i (by omega);have k1:=key (i+1) (by omega);have e1:(l.take (i+1)).sum=(l.take i).sum+l[i]:=by rw [Qh hi,QF,Q9]
  have hw2:IntKind.wrap .i64 ((l.take i).sum+l[i])=(l.take (i+1)).sum:=by rw [<- e1];exact bJ (by omega) (by omega)
  simp [c_226_l0,h3,h6,h7,h8,hi,hw,hw2];exact ih _ ⟨by simp,by simp [h6],by simp [h7],by simp⟩
 ·rintro e L hL ⟨h3,h6,h7,h8⟩;simp [c_226_l0,c_226_k1,h3,h7,h8,hL]
 ·simp
def Any (h:AH):Prop:=Tail h.objs h.next
theorem Any.app {T:List (Nat×AO)} {n:Nat} {o:AO} (h:Any ⟨T,n⟩):Any ⟨T++[(n,o)],n+1⟩:=Tail.app h o
theorem Any.mk {T:List (Nat×AO)} {n:Nat} (h:Tail T n):Any ⟨T,n⟩:=h
def hdrR (l:List Fld) (i:Nat):Int:=match fe (fun i=>(l[i]?).bind fun f=>er (fldE l i f)) l.length i with
 | some e=>e
 | none=>if wSum l % 8=0 then 0 else 10
theorem LN (hi:i<l.length) (h:fldE l i l[i]≠0):hdrR l i=fldE l i l[i]:=by
 unfold hdrR;rw [aZ (x:=fldE l i l[i]) hi (by simp [hi,er,h])]
theorem qso (hi:i<l.length) (h:fldE l i l[i]=0):hdrR l i=hdrR l (i+1):=by
 unfold hdrR;rw [cZ hi (by simp [hi,h])]
theorem qvc:hdrR l l.length=if wSum l % 8=0 then 0 else 10:=by
 unfold hdrR;rw [dV]
theorem fe_all {f:Nat->Option α}:fe f N 0=none↔∀i,i<N->f i=none:=by
 have key:∀n i,feF f n i=none↔∀k,i<=k->k<i+n->f k=none:=by
  intro n
  induction n with
  | zero=>intro i;simp [feF];omega
  | succ n ih=>
   intro i;simp only [feF];cases h:f i with
   | some x=>simp;exact ⟨i,Qb _,by omega,by simp [h]⟩
   | none=>
    simp only [ih];constructor
    ·intro hh k h1 h2;rcases S7 h1 with rfl | h3
     ·exact h
     ·exact hh k (by omega) (by omega)
    ·intro hh k h1 h2;exact hh k (by omega) (by omega)
 unfold fe;rw [key];simp
theorem wSum_eq (l:List Fld):wSum l=(l.map (·.Yd)).sum:=rfl
theorem Jq (h:Xj) (hn:h.name.length<2^40) (hf:∀f∈h.Ya,f.name.length<2^40):a9 Φ CE [.agg (Xj.c h)]=some (.val (a8 (hdrE h))):=by
 rw [aA rfl rfl];have n1:=LM h.name hn;cases q1:idS h.name with
 | false=>rw [q1] at n1;simp [pQ,Xj.e,n1,hdrE,q1]
 | true=>
 rw [q1] at n1;by_cases z0:h.Ya.length=0
 ·simp [pQ,Xj.e,n1,hdrE,q1,z0]
 by_cases z1:12<h.Ya.length
 ·simp [pQ,Xj.e,n1,hdrE,q1,z0,z1]
 have hE:hdrE h=hdrR h.Ya 0:=by simp [hdrE,q1,z0,z1,hdrR,P9]<;>rfl
 rw [hE];simp [pQ,Xj.e,n1,z0,z1];refine tC h.Ya.length (fun i e H=>look 1 e=some (.iptr 2 [[.str h.name,.slice 2 (h.Ya.map Fld.c)]] 0 0)/\look 23 e=some (.slice 2 (h.Ya.map Fld.c))/\look 24 e=some (a8 h.Ya.length)/\look 25 e=some (a8 i)/\Any H/\
   ∀k,k<i->fldE h.Ya k (h.Ya.getD k default)=0)
  (fun i=>some (Rt.val (a8 (hdrR h.Ya i)))) ?_ ?_ 0 _ _ (Qc _) ?_
 ·rintro i e ⟨T,n⟩ L hi hL ⟨h1,h23,h24,h25,hT,hz⟩ ih;have hT':look n T=none:=hT n (Qb _);have hw:=aL i (by omega);have nf:=LM h.Ya[i].name (hf _ (Qd hi));cases p1:idS h.Ya[i].name with
  | false=>
   rw [p1] at nf;rw [LN hi (by simp [fldE,p1])];simp [c_171_l2,Fld.e,h23,h24,h25,hi,hT',nf,fldE,p1]
  | true=>
  rw [p1] at nf;by_cases w1:h.Ya[i].Yd<1
  ·rw [LN hi (by simp [fldE,p1,wBad,w1])];simp [c_171_l2,Fld.e,h23,h24,h25,hi,hT',nf,fldE,p1,wBad,w1]
  by_cases w2:32<h.Ya[i].Yd
  ·rw [LN hi (by simp [fldE,p1,wBad,w2])];simp [c_171_l2,Fld.e,h23,h24,h25,hi,hT',nf,fldE,p1,wBad,w1,w2]
  have hi':i<=h.Ya.length:=by omega
  have hmi:min i h.Ya.length=i:=by omega
  simp [c_171_l2,Fld.e,h1,h23,h24,h25,hi,hT',nf,w1,w2,hi'];refine (zJ (h.Ya.take i) (fun g=>decide (g.name=h.Ya[i].name)) (some (Rt.val (a8 7))) (some (Rt.val (a8 (hdrR h.Ya (i+1)))))
   (fun k e H=>look 1 e=some (.iptr 2 [[.str h.name,.slice 2 (h.Ya.map Fld.c)]] 0 0)/\look 23 e=some (.slice 2 (h.Ya.map Fld.c))/\look 24 e=some (a8 h.Ya.length)/\look 25 e=some (a8 i)/\
    look 4 e=some (.iptr 2 [[.str h.Ya[i].name,a8 h.Ya[i].Yd]] 0 0)/\look 45 e=some (.slice 2 ((h.Ya.map Fld.c).take i))/\look 46 e=some (a8 i)/\look 47 e=some (a8 k)/\Any H/\
    (0<k->mK (h.Ya.take i) (fun g=>decide (g.name=h.Ya[i].name)) 0=mK (h.Ya.take i) (fun g=>decide (g.name=h.Ya[i].name)) k)) ?_ ?_ ?_ _ _ ?_).trans ?_
  ·rintro k e ⟨T2,m⟩ L' hk hL' ⟨h1,h23,h24,h25,g4,g45,g46,g47,hT2,_⟩ hb;simp only [fU] at hk;have hk1:k<i:=by omega
   have hk2:k<h.Ya.length:=by omega
   simp only [mG,decide_eq_true_eq] at hb;have hm:look m T2=none:=hT2 m (Qb _);simp [c_171_l0,Fld.e,g4,g45,g46,g47,hk1,hm,hb,hmi]
  ·rintro k e ⟨T2,m⟩ L' X hk hL' ⟨h1,h23,h24,h25,g4,g45,g46,g47,hT2,hy⟩ hb ih';have hb':=hb;have hk0:=hk;simp only [fU] at hk;have hk1:k<i:=by omega
   have hk2:k<h.Ya.length:=by omega
   simp only [mG,decide_eq_false_iff_not] at hb;have hm:look m T2=none:=hT2 m (Qb _);have hw':=aL k (by omega);simp [c_171_l0,Fld.e,g4,g45,g46,g47,hk1,hm,hb,hmi,hw'];refine ih' _ _ ⟨by simp [h1],by simp [h23],by simp [h24],by simp [h25],by simp [g4],by simp [g45],by simp [g46],by simp,Any.app hT2,fun _=>?_⟩;rcases Qw k with rfl | hp
   ·exact HN hk0 hb'
   ·rw [hy hp];exact HN hk0 hb'
  ·rintro e ⟨T2,m⟩ L' hL' ⟨h1,h23,h24,h25,g4,g45,g46,g47,hT2,hy⟩;have hm:min i h.Ya.length=i:=by omega
   simp [hm] at g47 hy;have hd:dupN Fld.name h.Ya i h.Ya[i]=false:=by
    unfold dupN;rw [<- R5];rcases Qw i with hp | hp
    ·subst hp;simp [mK]
    ·rw [hy hp];have:=RA (l:=h.Ya.take i) (p:=fun g=>decide (g.name=h.Ya[i].name));simpa [hm] using this
   simp [c_171_l0,c_171_k1,g46,g47,h25,hL',hw];refine ih _ _ ⟨by simp [h1],by simp [h23],by simp [h24],by simp,hT2,?_⟩;intro k hk;rcases Nat.lt_succ_iff_lt_or_eq.1 hk with hlt | rfl
   ·exact hz k hlt
   ·rw [Q3,Qa hi,sY];simp [fldE,p1,wBad,w1,w2,hd]
  ·simp [h1,h23,h24,h25,hT.mono (xT _),Any]
  ·cases p3:dupN Fld.name h.Ya i h.Ya[i] with
   | true=>
    rw [LN hi (by simp [fldE,p1,wBad,w1,w2,p3])];unfold dupN at p3;simp only [p3,if_true];simp [fldE,p1,wBad,w1,w2,dupN,p3]
   | false=>
    rw [qso hi (by simp [fldE,p1,wBad,w1,w2,p3])];unfold dupN at p3;simp [p3]
 ·rintro e ⟨T,n⟩ L hL ⟨h1,h23,h24,h25,hT,hz⟩;have hb:∀x∈h.Ya.map (·.Yd),1<=x/\x<=32:=by
   intro x hx;obtain ⟨f,hf,rfl⟩:=kY.1 hx;obtain ⟨k,hk,rfl⟩:=Qn.1 hf;have:=hz k hk;rw [Q3,Qa hk,sY] at this;refine wBad_false.1 ?_;cases q:wBad h.Ya[k].Yd with
   | false=>rfl
   | true=>
    simp only [fldE,q] at this;split at this
    ·omega
    ·simp at this
  have e1:=Dc h (by omega);have e2:=Pi (h.Ya.map (·.Yd)) (by simp;omega) hb;simp only [Xj.e] at e1;simp only [List.map_map] at e2;have hs:0<=wSum h.Ya:=by
   unfold wSum;have:∀l:List Int,(∀x∈l,1<=x/\x<=32)->0<=l.sum:=by
    intro l
    induction l with
    | nil=>intro _;simp
    | cons a l ih=>intro hh;have:=ih fun x hx=>hh x (by simp [hx]);have:=hh a (by simp);simp;omega
   exact this _ hb
  have e3:wSum h.Ya % 8=(wSum h.Ya).tmod 8:=(WJ hs).symm;rw [qvc,e3];have e4:a9 Φ vQ [.slice 1 (h.Ya.map fun f=>[a8 f.Yd])]=some (.val (a8 (wSum h.Ya))):=e2;by_cases z:(wSum h.Ya).tmod 8=0
  ·simp [c_171_l2,c_171_k3,h1,h24,h25,hL,e1,e4,z]
  ·simp [c_171_l2,c_171_k3,h1,h24,h25,hL,e1,e4,z]
 ·simp [Any,Tail]
def tF:Nat:=172
def zU (c p i s:Int):AV:= .iface tF (.agg [a8 c,a8 p,a8 i,a8 s])
theorem a2s (c p i s:Int):AV.iface 172 (.agg [a8 c,a8 p,a8 i,a8 s])=zU c p i s:=rfl
@[simp] theorem a1n (c p i s:Int) (n:Nat):flat (n+3) (zU c p i s)=true:=by simp [zU]
@[simp] theorem a1o (c p i s:Int) (n:Nat) (H:AH):snap (n+3) H (zU c p i s)=some (zU c p i s):=by simp [zU]
def rtD (o:Option Dg):Rt:=match o with
 | none=> .val (.tup [])
 | some d=> .pan (zU d.1 d.2.1 d.2.2.1 d.2.2.2)
theorem kO (p i s:Int):a9 Φ bL [a8 0,a8 p,a8 i,a8 s]=some (.val (.tup [])):=by
 rw [aA rfl rfl];simp [AP]
variable {c:Int}
theorem gU (h:¬c=0) (p i s:Int):a9 Φ bL [a8 c,a8 p,a8 i,a8 s]=some (.pan (zU c p i s)):=by
 rw [aA rfl rfl];simp [AP,h,zU,tF]
theorem Zs (s:List UInt8) (hs:s.length<2^40):a9 Φ vD [.str s]=some (.val (.bool (!idS s))):=by
 rw [aA rfl rfl];simp [JM,LM s hs]
theorem qq6 (w:Int):a9 Φ CF [a8 w]=some (.val (.bool (wBad w))):=by
 rw [aA rfl rfl];by_cases h1:w<1<;>simp [JS,wBad,h1]
def ix {α:Type} (p:α->Bool) (l:List α) (i:Nat):Int:=(fe (fun k=>(l[k]?).bind fun a=>if p a then some (k:Int) else none) l.length i).getD (-1)
theorem HY {p:α->Bool} {l:List α} (hi:i<l.length) (h:p l[i]=true):ix p l i=i:=by
 unfold ix;rw [aZ (x:=(i:Int)) hi (by simp [hi,h])];rfl
theorem HT {p:α->Bool} {l:List α} (hi:i<l.length) (h:p l[i]=false):ix p l i=ix p l (i+1):=by
 unfold ix;rw [cZ hi (by simp [hi,h])]
theorem HX {p:α->Bool} {l:List α}:ix p l l.length= -1:=by
 unfold ix;rw [dV];rfl
theorem qx9 {α:Type} {p:α->Bool} {l:List α}:∀n i,n+i=l.length->decide (0<=ix p l i)=mK l p i
 | 0,i,h=>by
  have:i=l.length:=by omega
  subst this;rw [HX,RA];rfl
 | n+1,i,h=>by
  have hi:i<l.length:=by omega
  cases q:p l[i] with
  | true=>rw [HY hi q,UH hi q];simp
  | false=>rw [HT hi q,HN hi q];exact qx9 n (i+1) (by omega)
theorem P0 {p:α->Bool} {l:List α}:decide (0<=ix p l 0)=l.any p:=by
 rw [qx9 l.length 0 (by omega),R5]
theorem Bl (l:List (List UInt8)) (x:List UInt8) (hl:l.length<2^40):a9 Φ DS [.slice 1 (l.map fun s=>[.str s]),.str x]=some (.val (a8 (ix (fun s=>decide (x=s)) l 0))):=by
 rw [aA rfl rfl];simp [L0];refine (fJ l.length (fun i e=>look 0 e=some (.slice 1 (l.map fun s=>[.str s]))/\look 1 e=some (.str x)/\look 6 e=some (.slice 1 (l.map fun s=>[.str s]))/\look 7 e=some (a8 l.length)/\look 8 e=some (a8 i))
  (fun i=>some (.val (a8 (ix (fun s=>decide (x=s)) l i)))) ?_ ?_ 0 _ (Qc _) ?_).trans (by simp)
 ·rintro i e L hi hL ⟨h0,h1,h6,h7,h8⟩ ih;have hw:=aL i (by omega);by_cases z:x=l[i]
  ·rw [HY hi (by simpa using z)];simp [c_270_l0,h0,h1,h7,h8,hi,<- z]
  ·rw [HT hi (by simpa using z)];simp [c_270_l0,h0,h1,h7,h8,hi,z,hw];exact ih _ ⟨by simp [h0],by simp [h1],by simp [h6],by simp [h7],by simp⟩
 ·rintro e L hL ⟨h0,h1,h6,h7,h8⟩;rw [HX];simp [c_270_l0,c_270_k1,h7,h8,hL]
 ·simp
theorem quq (l:List (List UInt8)) (x:List UInt8) (hl:l.length<2^40):a9 Φ vT [.slice 1 (l.map fun s=>[.str s]),.str x]=some (.val (.bool (l.any fun s=>decide (x=s)))):=by
 rw [aA rfl rfl];have h:=Bl l x hl;have e:=P0 (p:=fun s=>decide (x=s)) (l:=l);simp [KE,h];rw [<- e]
theorem TV (nm:α->List UInt8) (l:List α) (i:Nat) (hi:i<l.length) (hl:l.length<2^40):a9 Φ lE [.slice 1 (l.map fun x=>[.str (nm x)]),a8 i]=some (.val (.bool (dupN nm l i l[i]))):=by
 rw [aA rfl rfl];have h:=quq ((l.map nm).take i) (nm l[i]) (by simp;omega);have e:(((l.map nm).take i).any fun s=>decide (nm l[i]=s))=dupN nm l i l[i]:=by
  unfold dupN;rw [<- pK,List.any_map];congr 1;funext y;simp [eq_comm]
 rw [e] at h;rw [<- pK,List.map_map,pK] at h;have h':a9 Φ vT [.slice 1 ((l.map fun x=>[AV.str (nm x)]).take i),.str (nm l[i])]=some (.val (.bool (dupN nm l i l[i]))):=h;have hi':i<=l.length:=by omega
 simp [JP,hi,hi',h']
theorem qts (x:Xj):a9 Φ qR [.agg (Xj.c x)]=some (.val (.str x.name)):=by
 rw [aA rfl rfl];simp [JO,Xj.e]
theorem qrr (l:List Xj) (hl:l.length<2^40):a9 Φ vE [.slice 2 (l.map Xj.c),.func (.func qR) [] []]=some (.val (.slice 1 (l.map fun x=>[.str x.name]))):=by
 rw [aA rfl rfl];simp [JN];refine (dK l.length (fun i=>[(0,.tok 1 i)]) 1 (fun i e=>look 1 e=some (.func (.func qR) [] [])/\look 5 e=some (.app 1 ((l.map fun x=>[AV.str x.name]).take i) 0)/\look 8 e=some (.slice 2 (l.map Xj.c))/\look 9 e=some (a8 l.length)/\look 10 e=some (a8 i))
  (fun i=>some (.val (.slice 1 (l.map fun x=>[.str x.name])))) ?_ ?_ 0 _ 1 (Qc _) (Qb _) ?_).trans (by simp)
 ·rintro i e n L hi hL hn ⟨h1,h5,h8,h9,h10⟩ ih;have hw:=aL i (by omega);have hn0:¬(0=n):=by omega
  have hn1:¬(n=0):=by omega
  have hm:min i l.length=i:=by omega
  have hb:(i+1)*16<=70368744177664:=by omega
  have hN:=qts l[i];simp only [Xj.e] at hN;simp [c_169_l0,Xj.e,h1,h5,h8,h9,h10,hi,hw,hn0,hm,hb,hN];exact ih _ _ (by omega) ⟨by simp [h1],by simp [jS hi],by simp [h8],by simp [h9],by simp⟩
 ·rintro e n L hL hn ⟨h1,h5,h8,h9,h10⟩;simp [c_169_l0,c_169_k1,h5,h9,h10,hL]
 ·simp
theorem qu3 (x:Fld):a9 Φ qS [.agg (Fld.c x)]=some (.val (.str x.name)):=by
 rw [aA rfl rfl];simp [JR,Fld.e]
theorem qxb (l:List Fld) (hl:l.length<2^40):a9 Φ vF [.slice 2 (l.map Fld.c),.func (.func qS) [] []]=some (.val (.slice 1 (l.map fun x=>[.str x.name]))):=by
 rw [aA rfl rfl];simp [JQ];refine (dK l.length (fun i=>[(0,.tok 1 i)]) 1 (fun i e=>look 1 e=some (.func (.func qS) [] [])/\look 5 e=some (.app 1 ((l.map fun x=>[AV.str x.name]).take i) 0)/\look 8 e=some (.slice 2 (l.map Fld.c))/\look 9 e=some (a8 l.length)/\look 10 e=some (a8 i))
  (fun i=>some (.val (.slice 1 (l.map fun x=>[.str x.name])))) ?_ ?_ 0 _ 1 (Qc _) (Qb _) ?_).trans (by simp)
 ·rintro i e n L hi hL hn ⟨h1,h5,h8,h9,h10⟩ ih;have hw:=aL i (by omega);have hn0:¬(0=n):=by omega
  have hn1:¬(n=0):=by omega
  have hm:min i l.length=i:=by omega
  have hb:(i+1)*16<=70368744177664:=by omega
  have hN:=qu3 l[i];simp only [Fld.e] at hN;simp [c_173_l0,Fld.e,h1,h5,h8,h9,h10,hi,hw,hn0,hm,hb,hN];exact ih _ _ (by omega) ⟨by simp [h1],by simp [jS hi],by simp [h8],by simp [h9],by simp⟩
 ·rintro e n L hL hn ⟨h1,h5,h8,h9,h10⟩;simp [c_173_l0,c_173_k1,h5,h9,h10,hL]
 ·simp
theorem qqr (x:Xh):a9 Φ qU [.agg (Xh.c x)]=some (.val (.str x.name)):=by
 rw [aA rfl rfl];simp [JU,Xh.e]
theorem qpa (l:List Xh) (hl:l.length<2^40):a9 Φ vG [.slice 3 (l.map Xh.c),.func (.func qU) [] []]=some (.val (.slice 1 (l.map fun x=>[.str x.name]))):=by
 rw [aA rfl rfl];simp [JT];refine (dK l.length (fun i=>[(0,.tok 1 i)]) 1 (fun i e=>look 1 e=some (.func (.func qU) [] [])/\look 5 e=some (.app 1 ((l.map fun x=>[AV.str x.name]).take i) 0)/\look 8 e=some (.slice 3 (l.map Xh.c))/\look 9 e=some (a8 l.length)/\look 10 e=some (a8 i))
  (fun i=>some (.val (.slice 1 (l.map fun x=>[.str x.name])))) ?_ ?_ 0 _ 1 (Qc _) (Qb _) ?_).trans (by simp)
 ·rintro i e n L hi hL hn ⟨h1,h5,h8,h9,h10⟩ ih;have hw:=aL i (by omega);have hn0:¬(0=n):=by omega
  have hn1:¬(n=0):=by omega
  have hm:min i l.length=i:=by omega
  have hb:(i+1)*16<=70368744177664:=by omega
  have hN:=qqr l[i];simp only [Xh.e] at hN;simp [c_176_l0,Xh.e,h1,h5,h8,h9,h10,hi,hw,hn0,hm,hb,hN];exact ih _ _ (by omega) ⟨by simp [h1],by simp [jS hi],by simp [h8],by simp [h9],by simp⟩
 ·rintro e n L hL hn ⟨h1,h5,h8,h9,h10⟩;simp [c_176_l0,c_176_k1,h5,h9,h10,hL]
 ·simp
theorem qtj (x:Action):a9 Φ qV [.agg (Action.c x)]=some (.val (.str x.name)):=by
 rw [aA rfl rfl];simp [JW,Action.e]
theorem qrq (l:List Action) (hl:l.length<2^40):a9 Φ vI [.slice 3 (l.map Action.c),.func (.func qV) [] []]=some (.val (.slice 1 (l.map fun x=>[.str x.name]))):=by
 rw [aA rfl rfl];simp [JV];refine (dK l.length (fun i=>[(0,.tok 1 i)]) 1 (fun i e=>look 1 e=some (.func (.func qV) [] [])/\look 5 e=some (.app 1 ((l.map fun x=>[AV.str x.name]).take i) 0)/\look 8 e=some (.slice 3 (l.map Action.c))/\look 9 e=some (a8 l.length)/\look 10 e=some (a8 i))
  (fun i=>some (.val (.slice 1 (l.map fun x=>[.str x.name])))) ?_ ?_ 0 _ 1 (Qc _) (Qb _) ?_).trans (by simp)
 ·rintro i e n L hi hL hn ⟨h1,h5,h8,h9,h10⟩ ih;have hw:=aL i (by omega);have hn0:¬(0=n):=by omega
  have hn1:¬(n=0):=by omega
  have hm:min i l.length=i:=by omega
  have hb:(i+1)*16<=70368744177664:=by omega
  have hN:=qtj l[i];simp only [Action.e] at hN;simp [c_179_l0,Action.e,h1,h5,h8,h9,h10,hi,hw,hn0,hm,hb,hN];exact ih _ _ (by omega) ⟨by simp [h1],by simp [jS hi],by simp [h8],by simp [h9],by simp⟩
 ·rintro e n L hL hn ⟨h1,h5,h8,h9,h10⟩;simp [c_179_l0,c_179_k1,h5,h9,h10,hL]
 ·simp
theorem qwm (x:Tbl):a9 Φ qW [.agg (Tbl.c x)]=some (.val (.str x.name)):=by
 rw [aA rfl rfl];simp [JY,Tbl.e]
theorem qxc (l:List Tbl) (hl:l.length<2^40):a9 Φ vJ [.slice 6 (l.map Tbl.c),.func (.func qW) [] []]=some (.val (.slice 1 (l.map fun x=>[.str x.name]))):=by
 rw [aA rfl rfl];simp [JX];refine (dK l.length (fun i=>[(0,.tok 1 i)]) 1 (fun i e=>look 1 e=some (.func (.func qW) [] [])/\look 5 e=some (.app 1 ((l.map fun x=>[AV.str x.name]).take i) 0)/\look 8 e=some (.slice 6 (l.map Tbl.c))/\look 9 e=some (a8 l.length)/\look 10 e=some (a8 i))
  (fun i=>some (.val (.slice 1 (l.map fun x=>[.str x.name])))) ?_ ?_ 0 _ 1 (Qc _) (Qb _) ?_).trans (by simp)
 ·rintro i e n L hi hL hn ⟨h1,h5,h8,h9,h10⟩ ih;have hw:=aL i (by omega);have hn0:¬(0=n):=by omega
  have hn1:¬(n=0):=by omega
  have hm:min i l.length=i:=by omega
  have hb:(i+1)*16<=70368744177664:=by omega
  have hN:=qwm l[i];simp only [Tbl.e] at hN;simp [c_182_l0,Tbl.e,h1,h5,h8,h9,h10,hi,hw,hn0,hm,hb,hN];exact ih _ _ (by omega) ⟨by simp [h1],by simp [jS hi],by simp [h8],by simp [h9],by simp⟩
 ·rintro e n L hL hn ⟨h1,h5,h8,h9,h10⟩;simp [c_182_l0,c_182_k1,h5,h9,h10,hL]
 ·simp
structure PrgS (p:Prg):Prop where
 n:p.name.length<2^40
 h:p.Xp.length<2^40
 hn:∀h∈p.Xp,h.name.length<2^40
 hf:∀h∈p.Xp,∀f∈h.Ya,f.name.length<2^40
 hl:∀h∈p.Xp,h.Ya.length<2^40
 m:p.Xo.length<2^40
 mn:∀f∈p.Xo,f.name.length<2^40
 r:p.Xm.length<2^40
 rn:∀r∈p.Xm,r.name.length<2^40
 a:p.Xy.length<2^40
 an:∀a∈p.Xy,a.name.length<2^40
 ap:∀a∈p.Xy,a.params.length<2^40
 apn:∀a∈p.Xy,∀f∈a.params,f.name.length<2^40
 ab:∀a∈p.Xy,a.body.length<2^40
 ai:∀a∈p.Xy,∀s∈a.body,s.index.length<2^40
 av:∀a∈p.Xy,∀s∈a.body,s.value.length<2^40
 t:p.Xn.length<2^40
 tn:∀t∈p.Xn,t.name.length<2^40
 tk:∀t∈p.Xn,t.keys.length<2^40
 ta:∀t∈p.Xn,t.Xy.length<2^40
 tg:∀t∈p.Xn,t.Yc.args.length<2^40
 s:p.Xx.length<2^40
 sn:∀s∈p.Xx,s.name.length<2^40
 se:∀s∈p.Xx,s.extract.length<2^40
 sc:∀s∈p.Xx,s.cases.length<2^40
 sv:∀s∈p.Xx,∀c∈s.cases,ok32 fL c.value/\ok32 fL c.Ye
 c:p.Yb.length<2^40
 co:∀x∈p.Yb,Xa.Ok fL x
 d:p.Xs.length<2^40
theorem HL {p:Prg} (o:p.Ok fL):PrgS p:=by
 obtain ⟨o0,o1,o2,o3,o4,o5,o6,o7,o8⟩:=o;have e:=TZ;simp only [sA,okL,Xj.Ok,Fld.Ok,Xh.Ok,Action.Ok,Xg.Ok,Tbl.Ok,Xb.Ok,Xd.Ok,Xk.Ok] at o0 o1 o2 o3 o4 o5 o6 o7 o8;refine ⟨by omega,by omega,?_,?_,?_,by omega,?_,by omega,?_,by omega,?_,?_,?_,?_,?_,?_,by omega,?_,?_,?_,?_,by omega,?_,?_,?_,?_,by omega,o7.2,by omega⟩
 ·intro h hh;have:=(o1.2 h hh).1;omega
 ·intro h hh f hf;have:=((o1.2 h hh).2.2 f hf).1;omega
 ·intro h hh;have:=(o1.2 h hh).2.1;omega
 ·intro f hf;have:=(o2.2 f hf).1;omega
 ·intro r hr;have:=(o3.2 r hr).1;omega
 ·intro a ha;have:=(o4.2 a ha).1;omega
 ·intro a ha;have:=(o4.2 a ha).2.1.1;omega
 ·intro a ha f hf;have:=((o4.2 a ha).2.1.2 f hf).1;omega
 ·intro a ha;have:=(o4.2 a ha).2.2.1;omega
 ·intro a ha s hs;have:=((o4.2 a ha).2.2.2 s hs).2.2.2.2.1.1;omega
 ·intro a ha s hs;have:=((o4.2 a ha).2.2.2 s hs).2.2.2.2.2.1;omega
 ·intro t ht;have:=(o5.2 t ht).1;omega
 ·intro t ht;have:=(o5.2 t ht).2.1.1;omega
 ·intro t ht;have:=(o5.2 t ht).2.2.1.1;omega
 ·intro t ht;have:=(o5.2 t ht).2.2.2.1.2.1;omega
 ·intro s hs;have:=(o6.2 s hs).1;omega
 ·intro s hs;have:=(o6.2 s hs).2.1.1;omega
 ·intro s hs;have:=(o6.2 s hs).2.2.2.1.1;omega
 ·intro s hs c hc;have:=(o6.2 s hs).2.2.2.1.2 c hc;exact ⟨this.1,this.2.1⟩
variable (p:Prg)
theorem Bp (f:PrgS p):a9 Φ O9 [.agg (Prg.c p)]=some (rtD (limD p)):=by
 rw [aA rfl rfl];have n1:=Zs p.name f.n;cases q1:idS p.name with
 | false=>rw [q1] at n1;simp [t7,Prg.e,n1,fZ,gU,limD,q1,rtD]
 | true=>
 rw [q1] at n1;by_cases z1:8<p.Xp.length
 ·simp [t7,Prg.e,n1,fZ,kO,gU,limD,q1,rtD,z1]
 by_cases z2:4<p.Xm.length
 ·simp [t7,Prg.e,n1,fZ,kO,gU,limD,q1,rtD,z1,z2]
 by_cases z3:16<p.Xy.length
 ·simp [t7,Prg.e,n1,fZ,kO,gU,limD,q1,rtD,z1,z2,z3]
 by_cases z4:12<p.Xn.length
 ·simp [t7,Prg.e,n1,fZ,kO,gU,limD,q1,rtD,z1,z2,z3,z4]
 simp [t7,Prg.e,n1,fZ,kO,limD,q1,rtD,z1,z2,z3,z4]
def hdrG (p:Prg) (i:Nat):Option Dg:=(p.Xp[i]?).bind fun h=>if yP p i h=0 then none else some (yP p i h,1,(i:Int),0)
theorem qpx (f:PrgS p):a9 Φ BM [.agg (Prg.c p)]=some (rtD (hdrD p)):=by
 rw [aA rfl rfl,show hdrD p=fe (hdrG p) p.Xp.length 0 from rfl];have e1:=qrr p.Xp f.h;simp [IQ,Prg.e,e1];refine dK p.Xp.length (fun _=>[]) 0 (fun i e=>look 2 e=some (.slice 1 (p.Xp.map fun x=>[.str x.name]))/\look 9 e=some (.slice 2 (p.Xp.map Xj.c))/\look 10 e=some (a8 p.Xp.length)/\look 11 e=some (a8 i))
  (fun i=>some (rtD (fe (hdrG p) p.Xp.length i))) ?_ ?_ 0 _ 0 (Qc _) (Qb _) ?_
 ·rintro i e n L hi hL _ ⟨h2,h9,h10,h11⟩ ih;have hlen:=f.h;have hw:=aL i (by omega);have hm:=Qd hi;have eh:=Jq p.Xp[i] (f.hn _ hm) (f.hf _ hm);simp only [Xj.e] at eh;have er:=TV Xj.name p.Xp i hi f.h;by_cases z1:hdrE p.Xp[i]=0
  rotate_left
  ·rw [aZ (x:=(hdrE p.Xp[i],1,(i:Int),0)) hi (by simp [hdrG,hi,yP,z1])];simp [c_100_l0,Xj.e,h9,h10,h11,hi,eh,gU,z1,rtD]
  by_cases z2:p.Xp[i].name=[109,101,116,97]
  ·rw [aZ (x:=(6,1,(i:Int),0)) hi (by simp [hdrG,hi,yP,z1,z2])];rw [z2] at eh;simp [c_100_l0,Xj.e,h9,h10,h11,hi,eh,gU,kO,fZ,z1,z2,rtD]
  cases z3:dupN Xj.name p.Xp i p.Xp[i] with
  | true=>
   rw [z3] at er;rw [aZ (x:=(7,1,(i:Int),0)) hi (by simp [hdrG,hi,yP,z1,z2,z3])];simp [c_100_l0,Xj.e,h2,h9,h10,h11,hi,eh,er,gU,kO,fZ,z1,z2,rtD]
  | false=>
   rw [z3] at er;rw [cZ hi (by simp [hdrG,hi,yP,z1,z2,z3])];simp [c_100_l0,Xj.e,h2,h9,h10,h11,hi,eh,er,kO,fZ,z1,z2,hw];exact ih _ _ (Qc _) ⟨by simp [h2],by simp [h9],by simp [h10],by simp⟩
 ·rintro e n L hL _ ⟨h2,h9,h10,h11⟩;rw [dV];simp [c_100_l0,h10,h11,hL,rtD]
 ·simp
def scC (p:Prg) (ps:List Fld):List AV:=(mN p [.slice 2 (ps.map Fld.c)])
theorem aK (ps:List Fld):scC p ps=(mN p [.slice 2 (ps.map Fld.c)]):=by simp [scC]
theorem qud (op:Int):a9 Φ wL [a8 op]=some (.val (a8 (ari op))):=by
 rw [aA rfl rfl];rcases (show op=1\/op=2\/op=3\/op=4\/op=5\/op=6\/op=7\/op=8\/op=9\/op=10\/op=11\/op=12\/op=13\/op=14\/op=15\/op=16\/op=17\/(op<1\/17<op) by omega) with rfl | rfl | rfl | rfl | rfl | rfl | rfl | rfl | rfl | rfl | rfl | rfl | rfl | rfl | rfl | rfl | rfl | h
 rotate_right
 ·have e:ari op= -1:=by
   unfold ari;rw [QA (by omega),QA (by omega),QA (by omega),QA (by omega)]
  rw [e];have h1:¬op=1:=by omega
  have h2:¬op=2:=by omega
  have h3:¬op=3:=by omega
  have h4:¬op=4:=by omega
  have h5:¬op=5:=by omega
  have h6:¬op=6:=by omega
  have h7:¬op=7:=by omega
  have h8:¬op=8:=by omega
  have h9:¬op=9:=by omega
  have h10:¬op=10:=by omega
  have h11:¬op=11:=by omega
  have h12:¬op=12:=by omega
  have h13:¬op=13:=by omega
  have h14:¬op=14:=by omega
  have h15:¬op=15:=by omega
  have h16:¬op=16:=by omega
  have h17:¬op=17:=by omega
  simp [BG,h1,h2,h3,h4,h5,h6,h7,h8,h9,h10,h11,h12,h13,h14,h15,h16,h17]
 all_goals simp [BG,ari]
theorem UP (w:Int):a9 Φ lI [a8 w]=some (.val (.tup [a8 (wide w).1,a8 (wide w).2])):=by
 rw [aA rfl rfl];by_cases h1:w<1
 ·simp [uV,wide,wBad,h1]
 by_cases h2:32<w
 ·simp [uV,wide,wBad,h1,h2]
 simp [uV,wide,wBad,h1,h2]
def dF (p:Prg) (h f:Int):Option Fld:=(if h= -1 then some p.Xo else (at? p.Xp h).map (·.Ya)).bind fun l=>at? l f
theorem YC (h f:Int):decl p h f=(dF p h f).map (·.Yd):=by
 unfold decl dF;cases (if h= -1 then some p.Xo else (at? p.Xp h).map (·.Ya))<;>rfl
theorem Ee (ps:List Fld) (h i:Int):a9 Φ ED [.agg (scC p ps),a8 h,a8 i]=some (.val (match dF p h i with
  | some f=> .tup [.agg (Fld.c f),.bool true]
  | none=> .tup [.agg [.str [],.int .i64 0],.bool false])):=by
 rw [aA rfl rfl];by_cases hm:h= -1
 ·subst hm;by_cases i0:i<0
  ·rw [show dF p (-1) i=none by simp [dF,iI i0]];simp [iE,aK,i0]
  by_cases i1:(p.Xo.length:Int)<=i
  ·rw [show dF p (-1) i=none by simp [dF,iH i1]];simp [iE,aK,i0,i1]
  obtain ⟨k,rfl⟩:∃k:Nat,i=k:=⟨i.toNat,by omega⟩;have hk:k<p.Xo.length:=by omega
  rw [show dF p (-1) k=some p.Xo[k] by simp [dF,hk]];simp [iE,aK,i0,i1,hk,Fld.e]
 by_cases h0:h<0
 ·rw [show dF p h i=none by simp [dF,hm,iI h0]];simp [iE,aK,hm,h0]
 by_cases h1:(p.Xp.length:Int)<=h
 ·rw [show dF p h i=none by simp [dF,hm,iH h1]];simp [iE,aK,hm,h0,h1]
 obtain ⟨m,rfl⟩:∃k:Nat,h=k:=⟨h.toNat,by omega⟩;have hk:m<p.Xp.length:=by omega
 by_cases i0:i<0
 ·rw [show dF p m i=none by simp [dF,hm,hk,iI i0]];simp [iE,aK,hm,hk,Qf.2 hk,i0,Xj.e]
 by_cases i1:(p.Xp[m].Ya.length:Int)<=i
 ·rw [show dF p m i=none by simp [dF,hm,hk,iH i1]];simp [iE,aK,hm,hk,Qf.2 hk,i0,i1,Xj.e]
 obtain ⟨k,rfl⟩:∃k:Nat,i=k:=⟨i.toNat,by omega⟩;have hk2:k<p.Xp[m].Ya.length:=by omega
 rw [show dF p m k=some p.Xp[m].Ya[k] by simp [dF,hm,hk,hk2]];simp [iE,aK,hm,hk,Qf.2 hk,hk2,Qf.2 hk2,Xj.e,Fld.e]
theorem qqj (w:Int):IntKind.wrap .i64 (eC w)=eC w:=by
 unfold eC;cases h:wBad w with
 | true=>rw [aB rfl];decide
 | false=>
  obtain ⟨h1,h2⟩:=wBad_false.1 h;obtain ⟨k,rfl⟩:∃k:Nat,w=k:=⟨w.toNat,by omega⟩;have:(2:Int)^k<=2^32:=by
   have:=MN (n:=2) (by omega) (show k<=32 by omega)
   exact_mod_cast this
  have h0:(0:Int)<2^k:=by
   have:=Nat.pow_pos (a:=2) (n:=k) (by omega)
   exact_mod_cast this
  simp;exact bJ (by omega) (by omega)
theorem qz3 (ps:List Fld) (x:Xe):a9 Φ E8 [.agg (scC p ps),.agg (Xe.c x)]=some (.val (.tup [a8 (prim p ps x).1,a8 (prim p ps x).2])):=by
 rw [aA rfl rfl];by_cases o1:x.op=1
 ·have hw:=UP x.w;have hm:=LV x.w;have hmw:=qqj x.w;cases q:wBad x.w with
  | true=>
   simp [wide,q] at hw;simp [eS,aK,Xe.e,o1,prim,hw,q]
  | false=>
   simp [wide,q] at hw;by_cases n0:x.n<0
   ·simp [eS,aK,Xe.e,o1,prim,hw,q,n0]
   have e:eC x.w=2^x.w.toNat - 1:=by simp [eC,q]
   rw [e] at hm hmw;by_cases n1:2^x.w.toNat - 1<x.n
   ·simp [eS,aK,Xe.e,o1,prim,hw,hm,hmw,q,n0,n1]
   ·simp [eS,aK,Xe.e,o1,prim,hw,hm,hmw,q,n0,n1]
 by_cases o2:x.op=2
 ·have hf:=Ee p ps x.n x.w;simp only [aK] at hf;cases q:dF p x.n x.w with
  | none=>
   rw [q] at hf;simp [eS,aK,Xe.e,o2,prim,hf,YC,q]
  | some f=>
   rw [q] at hf;simp only [Fld.e] at hf;have hw:=UP f.Yd;simp [eS,aK,Xe.e,o2,prim,hf,hw,YC,q]
 by_cases o3:x.op=3
 ·by_cases n0:x.n<0
  ·simp [eS,aK,Xe.e,o3,prim,n0,iI n0]
  by_cases n1:(ps.length:Int)<=x.n
  ·simp [eS,aK,Xe.e,o3,prim,n0,n1,iH n1]
  obtain ⟨k,hk⟩:∃k:Nat,x.n=k:=⟨x.n.toNat,by omega⟩;have hk2:k<ps.length:=by omega
  have hw:=UP ps[k].Yd;simp [eS,aK,Xe.e,Fld.e,o3,prim,hk,hk2,Qf.2 hk2,hw]
 by_cases n0:x.n<0
 ·simp [eS,aK,Xe.e,o1,o2,o3,prim,n0,iI n0]
 by_cases n1:(p.Xp.length:Int)<=x.n
 ·simp [eS,aK,Xe.e,o1,o2,o3,prim,n0,n1,iH n1]
 obtain ⟨k,hk⟩:∃k:Nat,x.n=k:=⟨x.n.toNat,by omega⟩;have hk2:k<p.Xp.length:=by omega
 simp [eS,aK,Xe.e,o1,o2,o3,prim,hk,hk2,Qf.2 hk2]
theorem Sx (x:Xe) (a b c:Int) (ha:0<=a/\a<=32) (hb:0<=b/\b<=32):a9 Φ E9 [.agg (Xe.c x),.agg [a8 a,a8 b,a8 c]]=some (.val (.tup [a8 (comb x a b c).1,a8 (comb x a b c).2])):=by
 rw [aA rfl rfl];have hA:=qud x.op;have hw:=UP x.w;have hab:IntKind.wrap .i64 (a+b)=a+b:=bJ (by omega) (by omega);have hw2:=UP (a+b);by_cases o6:x.op=6
 ·rw [show ari x.op=1 by simp [o6,ari]] at hA;rw [o6] at hA;by_cases n0:x.n<0
  ·simp [cF,Xe.e,o6,comb,n0]
  by_cases n1:31<x.n
  ·simp [cF,Xe.e,o6,comb,n0,n1]
  simp [cF,Xe.e,o6,comb,n0,n1,hA]
 by_cases o7:x.op=7
 ·rw [show ari x.op=1 by simp [o7,ari]] at hA;rw [o7] at hA;by_cases n0:x.n<0
  ·simp [cF,Xe.e,o7,comb,n0]
  by_cases n1:31<x.n
  ·simp [cF,Xe.e,o7,comb,n0,n1]
  simp [cF,Xe.e,o7,comb,n0,n1,hA]
 by_cases o8:x.op=8
 ·by_cases n0:x.n<0
  ·simp [cF,Xe.e,o8,comb,n0]
  cases q:wBad x.w with
  | true=>
   simp [wide,q] at hw;simp [cF,Xe.e,o8,comb,n0,q,hw]
  | false=>
   simp [wide,q] at hw;obtain ⟨w1,w2⟩:=wBad_false.1 q;have hs:IntKind.wrap .i64 (a - x.w)=a - x.w:=bJ (by omega) (by omega);by_cases n1:a - x.w<x.n
   ·simp [cF,Xe.e,o8,comb,n0,q,hw,hs,n1]
   ·simp [cF,Xe.e,o8,comb,n0,q,hw,hs,n1]
 by_cases o14:x.op=14
 ·simp [cF,Xe.e,o14,comb,hab,hw2]
 by_cases o17:x.op=17
 ·by_cases a1:a=1
  ·by_cases bc:b=c
   ·simp [cF,Xe.e,o17,comb,a1,bc]
   ·simp [cF,Xe.e,o17,comb,a1,bc]
  ·simp [cF,Xe.e,o17,comb,a1]
 by_cases r2:ari x.op=2
 ·rw [r2] at hA;by_cases ab:a=b
  ·by_cases o15:x.op=15
   ·rw [o15] at hA;simp [cF,Xe.e,o15,comb,ab,hA]
   by_cases o16:x.op=16
   ·rw [o16] at hA;simp [cF,Xe.e,o16,comb,ab,hA]
   simp [cF,Xe.e,o6,o7,o8,o14,o15,o16,o17,comb,r2,ab,hA]
  ·simp [cF,Xe.e,o6,o7,o8,o14,o17,comb,r2,ab,hA]
 ·have o15:¬x.op=15:=by intro h;apply r2;simp [h,ari]
  have o16:¬x.op=16:=by intro h;apply r2;simp [h,ari]
  simp [cF,Xe.e,o6,o7,o8,o14,o15,o16,o17,comb,r2,hA]
def chkR (r:Except Int (Int×Nat)) (x:Option Rt):Prop:=match r with
 | .error e=>e≠0/\∃a b,x=some (.val (.tup [.int .i64 a,.int .i64 b,.int .i64 e]))
 | .ok (w,j)=>x=some (.val (.tup [.int .i64 w,.int .i64 j,.int .i64 0]))
theorem Tp (h:(wide w).2=0):1<=(wide w).1/\(wide w).1<=32:=by
 unfold wide at h ⊢;cases q:wBad w with
 | true=>rw [q] at h;simp at h
 | false=>simp;exact wBad_false.1 q
variable {x:Xe}
theorem qz2 {p:Prg} {ps:List Fld} (h:(prim p ps x).2=0):1<=(prim p ps x).1/\(prim p ps x).1<=32:=by
 unfold prim at h ⊢;by_cases o1:x.op=1
 ·simp only [o1,if_true] at h ⊢;cases q:wBad x.w with
  | true=>rw [q] at h;simp at h
  | false=>
   rw [q] at h;by_cases r:x.n<0\/2^x.w.toNat - 1<x.n
   ·simp [r] at h
   ·simp [r];exact wBad_false.1 q
 by_cases o2:x.op=2
 ·simp only [o2,if_true] at h ⊢;cases q:decl p x.n x.w with
  | none=>rw [q] at h;simp at h
  | some w=>rw [q] at h;exact Tp h
 by_cases o3:x.op=3
 ·simp only [o3,if_true] at h ⊢;cases q:at? ps x.n with
  | none=>rw [q] at h;simp at h
  | some f=>rw [q] at h;exact Tp h
 simp only [o1,o2,o3,if_false] at h ⊢;cases q:(at? p.Xp x.n).isSome with
 | true=>simp
 | false=>rw [q] at h;simp at h
theorem Sw {a b:Int} (ha:1<=a/\a<=32) (hb:ari x.op=3\/x.op=14->1<=b/\b<=32) (h:(comb x a b c).2=0):1<=(comb x a b c).1/\(comb x a b c).1<=32:=by
 unfold comb at h ⊢;by_cases o6:x.op=6\/x.op=7
 ·simp only [aB o6] at h ⊢;by_cases r:x.n<0\/31<x.n
  ·simp [r] at h
  ·simpa [r] using ha
 simp only [QA o6] at h ⊢;by_cases o8:x.op=8
 ·simp only [aB o8] at h ⊢;by_cases r:x.n<0
  ·simp [r] at h
  simp only [QA r] at h ⊢;by_cases r2:wBad x.w\/a - x.w<x.n
  ·simp [r2] at h
  ·simp only [QA r2];have:wBad x.w=false:=by
    cases q:wBad x.w with
    | true=>exact absurd (.inl q) r2
    | false=>rfl
   exact wBad_false.1 this
 simp only [QA o8] at h ⊢;by_cases o14:x.op=14
 ·simp only [aB o14] at h ⊢;exact Tp h
 simp only [QA o14] at h ⊢;by_cases o17:x.op=17
 ·simp only [aB o17] at h ⊢;by_cases r:a≠1\/b≠c
  ·simp [r] at h
  ·simp only [QA r];exact hb (.inl (by simp [o17,ari]))
 simp only [QA o17] at h ⊢;by_cases r:ari x.op=2/\a≠b
 ·rw [aB r] at h;simp at h
 simp only [QA r] at h ⊢;by_cases r2:x.op=15\/x.op=16
 ·simp [r2]
 ·simpa [r2] using ha
theorem yH {p:Prg} {ps:List Fld} {l:List Xe}:∀{n i w j},chk p ps l n i= .ok (w,j)->(1<=w/\w<=32)/\i<j/\j<=l.length
 | 0,i,w,j,h=>by simp [chk] at h
 | n+1,i,w,j,h=>by
  simp only [chk] at h;cases hx:l[i]? with
  | none=>rw [hx] at h;simp at h
  | some x=>
   have hi:i<l.length:=by
    obtain ⟨hi,_⟩:=Qm.1 hx;exact hi
   rw [hx] at h;simp only at h;split at h
   ·cases h
   split at h
   ·split at h
    ·rename_i hp;cases h;exact ⟨qz2 hp,by omega,by omega⟩
    ·cases h
   split at h
   ·cases h
   ·rename_i a i1 h1;obtain ⟨ra,r1,r2⟩:=yH h1;split at h
    ·rename_i hk;split at h
     ·rename_i hc;cases h;refine ⟨Sw ra ?_ hc,by omega,r2⟩;intro hh;rcases hh with hh | hh
      ·omega
      ·rw [hh] at hk;simp [ari] at hk
     ·cases h
    split at h
    ·cases h
    ·rename_i b i2 h2;obtain ⟨rb,s1,s2⟩:=yH h2;split at h
     ·split at h
      ·rename_i hc;cases h;exact ⟨Sw ra (fun _=>rb) hc,by omega,s2⟩
      ·cases h
     split at h
     ·cases h
     ·rename_i c i3 h3;obtain ⟨_,t1,t2⟩:=yH h3;split at h
      ·rename_i hc;cases h;exact ⟨Sw ra (fun _=>rb) hc,by omega,t2⟩
      ·cases h
theorem R7 (w e:Int) (j:Nat):chkR (if e=0 then .ok (w,j) else .error e) (some (.val (.tup [a8 w,a8 j,a8 e]))):=by
 by_cases z:e=0
 ·subst z;simp [chkR]
 ·simp [chkR,z]
theorem qsb (op:Int):ari op= -1\/ari op=0\/ari op=1\/ari op=2\/ari op=3:=by
 unfold ari;split
 ·exact .inr (.inl rfl)
 split
 ·exact .inr (.inr (.inl rfl))
 split
 ·exact .inr (.inr (.inr (.inl rfl)))
 split
 ·exact .inr (.inr (.inr (.inr rfl)))
 ·exact .inl rfl
theorem U8 (p:Prg) (ps:List Fld) (l:List Xe) (hl:l.length<2^40):∀n i,l.length - i<n->i<=l.length->chkR (chk p ps l n i) (a9 Φ wI [.agg (scC p ps),.slice 3 (l.map Xe.c),a8 (i:Nat)])
 | 0,i,h,hle=>by omega
 | n+1,i,h,hle=>by
  rw [aA rfl rfl];by_cases hi:i<l.length
  rotate_left
  ·have:i=l.length:=by omega
   subst this;simp [chk,chkR,jP,aK]
  have ih1:=U8 p ps l hl n (i+1) (by omega) (by omega);have hA:=qud l[i].op;have hP:=qz3 p ps l[i];have hw:IntKind.wrap .i64 ((i:Int)+1)=(i:Int)+1:=bJ (by omega) (by omega);have e1:((i+1:Nat):Int)=(i:Int)+1:=by omega
  rw [e1] at ih1;simp only [aK,Xe.e] at ih1 hP;simp only [chk,Qa hi];rcases qsb l[i].op with k | k | k | k | k
  ·rw [k] at hA;simp [chkR,jP,aK,Xe.e,hi,Qf.2 hi,hA,k]
  ·rw [k] at hA;by_cases z:(prim p ps l[i]).2=0
   ·rw [z] at hP;simp [chkR,jP,aK,Xe.e,hi,Qf.2 hi,hA,k,hP,z,hw]
   ·simp [chkR,jP,aK,Xe.e,hi,Qf.2 hi,hA,k,hP,z,hw]
  ·rw [k] at hA;simp [jP,aK,Xe.e,hi,Qf.2 hi,hA,k,hw];rw [bG];cases h1:chk p ps l n (i+1) with
   | error e=>
    rw [h1] at ih1;obtain ⟨he,a,b,hc⟩:=ih1;simp [c_301_l0,chkR,hc,he]
   | ok q=>
    obtain ⟨a,i1⟩:=q;rw [h1] at ih1;obtain ⟨ra,r1,r2⟩:=yH h1;have hC:=Sx l[i] a 0 0 (by omega) (by omega);simp only [Xe.e] at hC;simp only [chkR] at ih1;simp [c_301_l0,ih1];rw [bG];simp [wr1,c_301_k1,hi,Xe.e,hC];exact R7 _ _ _
  ·rw [k] at hA;simp [jP,aK,Xe.e,hi,Qf.2 hi,hA,k,hw];rw [bG];cases h1:chk p ps l n (i+1) with
   | error e=>
    rw [h1] at ih1;obtain ⟨he,a,b,hc⟩:=ih1;simp [c_301_l0,chkR,hc,he]
   | ok q=>
    obtain ⟨a,i1⟩:=q;rw [h1] at ih1;obtain ⟨ra,r1,r2⟩:=yH h1;simp only [chkR] at ih1;simp [c_301_l0,ih1];rw [bG];have ih2:=U8 p ps l hl n i1 (by omega) (by omega);simp only [aK] at ih2;cases h2:chk p ps l n i1 with
    | error e=>
     rw [h2] at ih2;obtain ⟨he,x,y,hc⟩:=ih2;simp [chkR,hc,he,wr1]
    | ok q=>
     obtain ⟨b,i2⟩:=q;rw [h2] at ih2;obtain ⟨rb,s1,s2⟩:=yH h2;simp only [chkR] at ih2;have hC:=Sx l[i] a b 0 (by omega) (by omega);simp only [Xe.e] at hC;simp [ih2,wr1];rw [bG];simp [wr2,c_301_k1,hi,Xe.e,hC];exact R7 _ _ _
  ·rw [k] at hA;simp [jP,aK,Xe.e,hi,Qf.2 hi,hA,k,hw];rw [bG];cases h1:chk p ps l n (i+1) with
   | error e=>
    rw [h1] at ih1;obtain ⟨he,a,b,hc⟩:=ih1;simp [c_301_l0,chkR,hc,he]
   | ok q=>
    obtain ⟨a,i1⟩:=q;rw [h1] at ih1;obtain ⟨ra,r1,r2⟩:=yH h1;simp only [chkR] at ih1;simp [c_301_l0,ih1];rw [bG];have ih2:=U8 p ps l hl n i1 (by omega) (by omega);simp only [aK] at ih2;cases h2:chk p ps l n i1 with
    | error e=>
     rw [h2] at ih2;obtain ⟨he,x,y,hc⟩:=ih2;simp [chkR,hc,he,wr1]
    | ok q=>
     obtain ⟨b,i2⟩:=q;rw [h2] at ih2;obtain ⟨rb,s1,s2⟩:=yH h2;simp only [chkR] at ih2;simp [ih2,wr1];rw [bG];have ih3:=U8 p ps l hl n i2 (by omega) (by omega);simp only [aK] at ih3;cases h3:chk p ps l n i2 with
     | error e=>
      rw [h3] at ih3;obtain ⟨he,x,y,hc⟩:=ih3;simp [chkR,hc,he,wr2]
     | ok q=>
      obtain ⟨c,i3⟩:=q;rw [h3] at ih3;simp only [chkR] at ih3;have hC:=Sx l[i] a b c (by omega) (by omega);simp only [Xe.e] at hC;simp [ih3,wr2];rw [bG];simp [wr3,c_301_k1,hi,Xe.e,hC];exact R7 _ _ _
theorem Wj (ps:List Fld) (l:List Xe):a9 Φ rM [.slice 3 (l.map Xe.c),.agg (scC p ps)]=some (.val (.tup [a8 (exE p ps l).1,a8 (exE p ps l).2])):=by
 rw [aA rfl rfl];by_cases h:24<l.length
 ·simp [qA,aK,h,exE]
 have hc:=U8 p ps l (by omega) (l.length+1) 0 (by omega) (by omega);simp only [aK,Int.ofNat_zero] at hc;cases q:chk p ps l (l.length+1) 0 with
 | error e=>
  rw [q] at hc;obtain ⟨he,a,b,hc⟩:=hc;simp [qA,aK,h,exE,q,hc,he]
 | ok r=>
  obtain ⟨w,j⟩:=r;rw [q] at hc;simp only [chkR] at hc;by_cases hj:j<l.length
  ·simp [qA,aK,h,exE,q,hc,hj]
  ·simp [qA,aK,h,exE,q,hc,hj]
theorem FieldRef.e (x:FieldRef):FieldRef.c x=[a8 x.header,a8 x.field]:=by simp [FieldRef.c]
theorem Gh (h i:Int):a9 Φ w9 [.agg (Prg.c p),.agg [a8 h,a8 i]]=some (.val (match decl p h i with
  | some w=> .tup [.int .i64 w,.bool true]
  | none=> .tup [.int .i64 0,.bool false])):=by
 rw [aA rfl rfl,YC];by_cases hm:h= -1
 ·subst hm;by_cases i0:i<0
  ·rw [show dF p (-1) i=none by simp [dF,iI i0]];simp [iB,Prg.e,i0]
  by_cases i1:(p.Xo.length:Int)<=i
  ·rw [show dF p (-1) i=none by simp [dF,iH i1]];simp [iB,Prg.e,i0,i1]
  obtain ⟨k,rfl⟩:∃k:Nat,i=k:=⟨i.toNat,by omega⟩;have hk:k<p.Xo.length:=by omega
  rw [show dF p (-1) k=some p.Xo[k] by simp [dF,hk]];simp [iB,Prg.e,i0,i1,hk,Fld.e]
 by_cases h0:h<0
 ·rw [show dF p h i=none by simp [dF,hm,iI h0]];simp [iB,Prg.e,hm,h0]
 by_cases h1:(p.Xp.length:Int)<=h
 ·rw [show dF p h i=none by simp [dF,hm,iH h1]];simp [iB,Prg.e,hm,h0,h1]
 obtain ⟨m,rfl⟩:∃k:Nat,h=k:=⟨h.toNat,by omega⟩;have hk:m<p.Xp.length:=by omega
 by_cases i0:i<0
 ·rw [show dF p m i=none by simp [dF,hm,hk,iI i0]];simp [iB,Prg.e,hm,hk,Qf.2 hk,i0,Xj.e]
 by_cases i1:(p.Xp[m].Ya.length:Int)<=i
 ·rw [show dF p m i=none by simp [dF,hm,hk,iH i1]];simp [iB,Prg.e,hm,hk,Qf.2 hk,i0,i1,Xj.e]
 obtain ⟨k,rfl⟩:∃k:Nat,i=k:=⟨i.toNat,by omega⟩;have hk2:k<p.Xp[m].Ya.length:=by omega
 rw [show dF p m k=some p.Xp[m].Ya[k] by simp [dF,hm,hk,hk2]];simp [iB,Prg.e,hm,hk,Qf.2 hk,hk2,Qf.2 hk2,Xj.e,Fld.e]
theorem Lu (ps:List Fld) (l:List Xe) (w:Int):a9 Φ rL [.agg (scC p ps),.slice 3 (l.map Xe.c),a8 w]=some (.val (a8 (valE p ps l w))):=by
 rw [aA rfl rfl];have h:=Wj p ps l;simp only [aK] at h;by_cases z:(exE p ps l).2=0
 ·rw [z] at h;by_cases y:(exE p ps l).1=w
  ·simp [uN,aK,h,valE,z,y]
  ·simp [uN,aK,h,valE,z,y]
 ·simp [uN,aK,h,valE,z]
theorem XH {l:List α} {i:Int}:(at? l i).isSome=(!(decide (i<0) || decide ((l.length:Int)<=i))):=by
 by_cases h0:i<0
 ·simp [iI h0,h0]
 by_cases h1:(l.length:Int)<=i
 ·simp [iH h1,h1]
 obtain ⟨k,rfl⟩:∃k:Nat,i=k:=⟨i.toNat,by omega⟩;have:k<l.length:=by omega
 simp [this,h0]
theorem Mv (ps:List Fld) (s:Xg):a9 Φ D4 [.agg (scC p ps),.agg (Xg.c s)]=some (.val (a8 (stmE p ps s))):=by
 rw [aA rfl rfl];have hd:=Gh p s.dst.header s.dst.field;have hi:=Wj p ps s.index;simp only [Prg.e] at hd;simp only [aK] at hi;have hr:(s.Yf<0/\at? p.Xm s.Yf=none)\/(¬s.Yf<0/\(p.Xm.length:Int)<=s.Yf/\at? p.Xm s.Yf=none)\/∃k:Nat,∃h:k<p.Xm.length,s.Yf=k/\at? p.Xm s.Yf=some p.Xm[k]:=by
  by_cases h0:s.Yf<0
  ·exact .inl ⟨h0,iI h0⟩
  by_cases h1:(p.Xm.length:Int)<=s.Yf
  ·exact .inr (.inl ⟨h0,h1,iH h1⟩)
  obtain ⟨k,hk⟩:∃k:Nat,s.Yf=k:=⟨s.Yf.toNat,by omega⟩;exact .inr (.inr ⟨k,by omega,hk,by rw [hk];simp⟩)
 have hx:∀w,a9 Φ rL [.agg (scC p ps),.slice 3 (s.value.map Xe.c),a8 w]=some (.val (a8 (valE p ps s.value w))):=Lu p ps s.value;simp only [aK] at hx;have hd':a9 Φ w9 [.agg (mN p []),.agg [a8 s.dst.header,a8 s.dst.field]]=
   some (.val (.tup [a8 ((decl p s.dst.header s.dst.field).getD 0),.bool (decl p s.dst.header s.dst.field).isSome])):=by
  rw [hd];cases decl p s.dst.header s.dst.field<;>rfl
 clear hd;by_cases k1:s.kind=1
 ·rcases hr with ⟨r0,rn⟩ | ⟨r0,r1,rn⟩ | ⟨m,hm,rk,rn⟩<;>cases qd:decl p s.dst.header s.dst.field<;>rw [qd] at hd'
  ·simp [bI,aK,Xg.e,hd',stmE,qd,k1,p9.2 r0]
  ·simp [bI,aK,Xg.e,hd',stmE,qd,k1,p9.2 r0,hx]
  ·simp [bI,aK,Xg.e,hd',stmE,qd,k1,fV.1 r0,fV.2 r1]
  ·simp [bI,aK,Xg.e,hd',stmE,qd,k1,fV.1 r0,fV.2 r1,hx]
  ·simp [bI,aK,Xg.e,hd',stmE,qd,k1,rk,hm]
  ·simp [bI,aK,Xg.e,hd',stmE,qd,k1,rk,hm,hx]
 by_cases k2:s.kind=2
 ·have e:stmE p ps s=if (at? p.Xp s.header).isSome then 0 else 8:=by simp [stmE,k2]
  rw [e,XH];by_cases h0:s.header<0<;>by_cases h1:(p.Xp.length:Int)<=s.header<;>rcases hr with ⟨r0,rn⟩ | ⟨r0,r1,rn⟩ | ⟨m,hm,rk,rn⟩
  all_goals first
   | simp [bI,aK,Xg.e,hd',k2,p9.2 r0,h0,h1]
   | simp [bI,aK,Xg.e,hd',k2,fV.1 r0,fV.2 r1,h0,h1]
   | simp [bI,aK,Xg.e,hd',k2,rk,hm,h0,h1]
 by_cases k3:s.kind=3
 ·have e:stmE p ps s=if (at? p.Xp s.header).isSome then 0 else 8:=by simp [stmE,k3]
  rw [e,XH];by_cases h0:s.header<0<;>by_cases h1:(p.Xp.length:Int)<=s.header<;>rcases hr with ⟨r0,rn⟩ | ⟨r0,r1,rn⟩ | ⟨m,hm,rk,rn⟩
  all_goals first
   | simp [bI,aK,Xg.e,hd',k3,p9.2 r0,h0,h1]
   | simp [bI,aK,Xg.e,hd',k3,fV.1 r0,fV.2 r1,h0,h1]
   | simp [bI,aK,Xg.e,hd',k3,rk,hm,h0,h1]
 by_cases k4:s.kind=4
 ·rcases hr with ⟨r0,rn⟩ | ⟨r0,r1,rn⟩ | ⟨m,hm,rk,rn⟩
  ·simp [bI,aK,Xg.e,hd',stmE,k4,p9.2 r0,rn]
  ·simp [bI,aK,Xg.e,hd',stmE,k4,fV.1 r0,fV.2 r1,rn]
  ·rw [rk] at rn;cases qd:decl p s.dst.header s.dst.field with
   | none=>rw [qd] at hd';simp [bI,aK,Xg.e,hd',stmE,k4,rk,hm,rn,qd]
   | some w=>
    rw [qd] at hd';by_cases z:(exE p ps s.index).2=0
    ·rw [z] at hi;by_cases y:w=p.Xm[m].Yd
     ·simp [bI,aK,Xg.e,Xh.e,hd',stmE,k4,rk,hm,rn,qd,hi,z,y]
     ·simp [bI,aK,Xg.e,Xh.e,hd',stmE,k4,rk,hm,rn,qd,hi,z,y]
    ·simp [bI,aK,Xg.e,hd',stmE,k4,rk,hm,rn,qd,hi,z]
 by_cases k5:s.kind=5
 ·rcases hr with ⟨r0,rn⟩ | ⟨r0,r1,rn⟩ | ⟨m,hm,rk,rn⟩
  ·simp [bI,aK,Xg.e,hd',stmE,k5,p9.2 r0,rn]
  ·simp [bI,aK,Xg.e,hd',stmE,k5,fV.1 r0,fV.2 r1,rn]
  ·rw [rk] at rn;by_cases z:(exE p ps s.index).2=0
   ·rw [z] at hi;simp [bI,aK,Xg.e,Xh.e,hd',stmE,k5,rk,hm,rn,hi,z,hx]
   ·simp [bI,aK,Xg.e,hd',stmE,k5,rk,hm,rn,hi,z]
 rcases hr with ⟨r0,rn⟩ | ⟨r0,r1,rn⟩ | ⟨m,hm,rk,rn⟩
 ·simp [bI,aK,Xg.e,hd',stmE,k1,k2,k3,k4,k5,p9.2 r0]
 ·simp [bI,aK,Xg.e,hd',stmE,k1,k2,k3,k4,k5,fV.1 r0,fV.2 r1]
 ·simp [bI,aK,Xg.e,hd',stmE,k1,k2,k3,k4,k5,rk,hm]
theorem Dy (g:Fld) (s:List UInt8) (w:Int):a9 Φ nR [.agg (Fld.c g),.iptr 2 [[.str s,a8 w]] 0 0]=some (.val (.bool (decide (g.name=s)))):=by
 rw [aA rfl rfl];simp [L3,Fld.e]
theorem qw8 (l:List Fld) (s:List UInt8) (w:Int) (hl:l.length<2^40):a9 Φ E3 [.slice 2 (l.map Fld.c),.func (.func nR) [] [.iptr 2 [[.str s,a8 w]] 0 0]]=some (.val (a8 (ix (fun g=>decide (g.name=s)) l 0))):=by
 rw [aA rfl rfl];simp [LE];refine (fJ l.length (fun i e=>look 0 e=some (.slice 2 (l.map Fld.c))/\look 1 e=some (.func (.func nR) [] [.iptr 2 [[.str s,a8 w]] 0 0])/\look 7 e=some (a8 l.length)/\look 8 e=some (a8 i))
  (fun i=>some (.val (a8 (ix (fun g=>decide (g.name=s)) l i)))) ?_ ?_ 0 _ (Qc _) ?_).trans (by simp)
 ·rintro i e L hi hL ⟨h0,h1,h7,h8⟩ ih;have hw:=aL i (by omega);have hd:=Dy l[i] s w;simp only [Fld.e] at hd;by_cases z:l[i].name=s
  ·rw [HY hi (by simpa using z)];rw [decide_eq_true z] at hd;simp [c_300_l0,Fld.e,h0,h1,h7,h8,hi,hd]
  ·rw [HT hi (by simpa using z)];simp [c_300_l0,Fld.e,h0,h1,h7,h8,hi,hd,z,hw];exact ih _ ⟨by simp [h0],by simp [h1],by simp [h7],by simp⟩
 ·rintro e L hL ⟨h0,h1,h7,h8⟩;rw [HX];simp [c_300_l0,c_300_k1,h7,h8,hL]
 ·simp
theorem qrg (l:List Fld) (s:List UInt8) (w:Int) (hl:l.length<2^40):a9 Φ DT [.slice 2 (l.map Fld.c),.func (.func nR) [] [.iptr 2 [[.str s,a8 w]] 0 0]]=some (.val (.bool (l.any fun g=>decide (g.name=s)))):=by
 rw [aA rfl rfl];have h:=qw8 l s w hl;have e:=P0 (p:=fun g:Fld=>decide (g.name=s)) (l:=l);simp [L1,h];rw [<- e]
def actG (l:List Fld) (i:Nat):Option Int:=(l[i]?).bind fun f=>er (fldE l i f)
theorem Gl (a:Action) (hn:a.name.length<2^40) (hl:a.params.length<2^40) (hf:∀f∈a.params,f.name.length<2^40):a9 Φ D3 [.agg (Action.c a)]=some (.val (a8 (actD a))):=by
 rw [aA rfl rfl];have n1:=LM a.name hn;cases q1:idS a.name with
 | false=>rw [q1] at n1;simp [pY,Action.e,n1,actD,q1]
 | true=>
 rw [q1] at n1;by_cases z0:4<a.params.length
 ·simp [pY,Action.e,n1,actD,q1,z0]
 by_cases z1:12<a.body.length
 ·simp [pY,Action.e,n1,actD,q1,z0,z1]
 have hE:actD a=errO (fe (actG a.params) a.params.length 0):=by simp [actD,q1,z0,z1]<;>rfl
 rw [hE];simp [pY,Action.e,n1,z0,z1];refine dK a.params.length (fun _=>[]) 0 (fun i e=>look 1 e=some (.iptr 3 [[.str a.name,.slice 2 (a.params.map Fld.c),.slice 7 (a.body.map Xg.c)]] 0 0)/\look 22 e=some (.slice 2 (a.params.map Fld.c))/\look 23 e=some (a8 a.params.length)/\look 24 e=some (a8 i))
  (fun i=>some (Rt.val (a8 (errO (fe (actG a.params) a.params.length i))))) ?_ ?_ 0 _ 0 (Qc _) (Qb _) ?_
 ·rintro i e n L hi hL _ ⟨h1,h22,h23,h24⟩ ih;have hw:=aL i (by omega);have nf:=LM a.params[i].name (hf _ (Qd hi));have hi':i<=a.params.length:=by omega
  have hc:=qrg (a.params.take i) a.params[i].name a.params[i].Yd (by simp;omega);rw [show (a.params.take i).any (fun g=>decide (g.name=a.params[i].name))=dupN Fld.name a.params i a.params[i] from rfl,pK] at hc;cases p1:idS a.params[i].name with
  | false=>
   rw [p1] at nf;rw [aZ (x:=6) hi (by simp [actG,hi,fldE,p1,er])];simp [c_229_l0,Fld.e,h22,h23,h24,hi,nf]
  | true=>
  rw [p1] at nf;by_cases w1:a.params[i].Yd<1
  ·rw [aZ (x:=10) hi (by simp [actG,hi,fldE,p1,wBad,w1,er])];simp [c_229_l0,Fld.e,h22,h23,h24,hi,nf,w1]
  by_cases w2:32<a.params[i].Yd
  ·rw [aZ (x:=10) hi (by simp [actG,hi,fldE,p1,wBad,w2,er])];simp [c_229_l0,Fld.e,h22,h23,h24,hi,nf,w1,w2]
  cases p3:dupN Fld.name a.params i a.params[i] with
  | true=>
   rw [p3] at hc;rw [aZ (x:=7) hi (by simp [actG,hi,fldE,p1,wBad,w1,w2,p3,er])];simp [c_229_l0,Fld.e,h1,h22,h23,h24,hi,nf,w1,w2,hi',hc]
  | false=>
   rw [p3] at hc;rw [cZ hi (by simp [actG,hi,fldE,p1,wBad,w1,w2,p3])];simp [c_229_l0,Fld.e,h1,h22,h23,h24,hi,nf,w1,w2,hi',hc,hw];exact ih _ _ (Qc _) ⟨by simp [h1],by simp [h22],by simp [h23],by simp⟩
 ·rintro e n L hL _ ⟨h1,h22,h23,h24⟩;rw [dV];simp [c_229_l0,c_229_k1,h23,h24,hL]
 ·simp
def G5 (p:Prg) (a:Action) (k:Nat):Option (Int×Int):=(a.body[k]?).bind fun s=>if stmE p a.params s=0 then none else some ((k:Int),stmE p a.params s)
theorem Gm (f:PrgS p) (i:Int):a9 Φ CH [.agg (Prg.c p),a8 i]=some (.val (.tup [a8 (actE p i).1,a8 (actE p i).2])):=by
 rw [aA rfl rfl];by_cases i0:i<0
 ·simp [pR,Prg.e,i0,actE,iI i0]
 by_cases i1:(p.Xy.length:Int)<=i
 ·simp [pR,Prg.e,i0,i1,actE,iH i1]
 obtain ⟨k,rfl⟩:∃k:Nat,i=k:=⟨i.toNat,by omega⟩;have hk:k<p.Xy.length:=by omega
 have hm:=Qd hk;have hd:=Gl p.Xy[k] (f.an _ hm) (f.ap _ hm) (f.apn _ hm);simp only [Action.e] at hd;by_cases z:actD p.Xy[k]=0
 rotate_left
 ·simp [pR,Prg.e,Action.e,hk,Qf.2 hk,hd,z,actE]
 rw [z] at hd;have hE:actE p k=(fe (G5 p p.Xy[k]) p.Xy[k].body.length 0).getD (0,0):=by simp [actE,hk,z]<;>rfl
 rw [hE];simp [pR,Prg.e,Action.e,hk,Qf.2 hk,hd];have hb:=f.ab _ hm;refine dK p.Xy[k].body.length (fun _=>[]) 0 (fun i e=>look 7 e=some (.iptr 10 [scC p p.Xy[k].params] 0 0)/\look 35 e=some (.slice 7 (p.Xy[k].body.map Xg.c))/\look 36 e=some (a8 p.Xy[k].body.length)/\look 37 e=some (a8 i))
  (fun i=>some (Rt.val (.tup [a8 ((fe (G5 p p.Xy[k]) p.Xy[k].body.length i).getD (0,0)).1,a8 ((fe (G5 p p.Xy[k]) p.Xy[k].body.length i).getD (0,0)).2]))) ?_ ?_ 0 _ _ (Qc _) (Qc _) ?_
 ·rintro i e n L hi hL _ ⟨h7,h35,h36,h37⟩ ih;have hw:=aL i (by omega);have hs:=Mv p p.Xy[k].params p.Xy[k].body[i];simp only [Xg.e,aK] at hs;rw [aK] at h7;by_cases y:stmE p p.Xy[k].params p.Xy[k].body[i]=0
  ·rw [y] at hs;rw [cZ hi (by simp [G5,hi,y])];simp [c_181_l0,Xg.e,h7,h35,h36,h37,hi,hs,hw];exact ih _ _ (Qc _) ⟨by simp [h7,aK],by simp [h35],by simp [h36],by simp⟩
  ·rw [aZ (x:=((i:Int),stmE p p.Xy[k].params p.Xy[k].body[i])) hi (by simp [G5,hi,y])];simp [c_181_l0,Xg.e,h7,h35,h36,h37,hi,hs,y]
 ·rintro e n L hL _ ⟨h7,h35,h36,h37⟩;rw [dV];simp [c_181_l0,c_181_k1,h36,h37,hL]
 ·simp [aK]
def M8 (ar:List Int) (ps:List Fld) (i:Nat):Option Int:=match ar[i]?,ps[i]? with
  | some v,some f=>if fits v f.Yd then none else some 9
  | _,_=>none
theorem Ug (f:PrgS p) (c:Xb) (hc:c.args.length<2^40):a9 Φ rE [.agg (Prg.c p),.agg (Xb.c c)]=some (.val (a8 (pA p c))):=by
 rw [aA rfl rfl];by_cases i0:c.Xz<0
 ·simp [pW,Prg.e,Xb.e,i0,pA,iI i0]
 by_cases i1:(p.Xy.length:Int)<=c.Xz
 ·simp [pW,Prg.e,Xb.e,i0,i1,pA,iH i1]
 obtain ⟨k,hk0⟩:∃k:Nat,c.Xz=k:=⟨c.Xz.toNat,by omega⟩;have hk:k<p.Xy.length:=by omega
 by_cases z:c.args.length=p.Xy[k].params.length
 rotate_left
 ·simp [pW,Prg.e,Xb.e,Action.e,hk0,hk,Qf.2 hk,pA,z]
 have hE:pA p c=errO (fe (M8 c.args p.Xy[k].params) c.args.length 0):=by simp [pA,hk0,hk,z]<;>rfl
 rw [hE];simp [pW,Prg.e,Xb.e,Action.e,hk0,hk,Qf.2 hk,z];rw [<- z];refine fJ c.args.length (fun i e=>look 5 e=some (.slice 2 (p.Xy[k].params.map Fld.c))/\look 33 e=some (.slice 1 (c.args.map c32))/\look 34 e=some (a8 c.args.length)/\look 35 e=some (a8 i))
  (fun i=>some (Rt.val (a8 (errO (fe (M8 c.args p.Xy[k].params) c.args.length i))))) ?_ ?_ 0 _ (Qc _) ?_
 ·rintro i e L hi hL ⟨h5,h33,h34,h35⟩ ih;have hw:=aL i (by omega);have hi2:i<p.Xy[k].params.length:=by omega
  have hf:=UM c.args[i] p.Xy[k].params[i].Yd;cases y:fits c.args[i] p.Xy[k].params[i].Yd with
  | true=>
   rw [y] at hf;rw [cZ hi (by simp [M8,hi,hi2,y])];simp [c_219_l0,Fld.e,c32,h5,h33,h34,h35,hi,hi2,hf,hw];exact ih _ ⟨by simp [h5],by simp [h33],by simp [h34],by simp⟩
  | false=>
   rw [y] at hf;rw [aZ (x:=9) hi (by simp [M8,hi,hi2,y])];simp [c_219_l0,Fld.e,c32,h5,h33,h34,h35,hi,hi2,hf]
 ·rintro e L hL ⟨h5,h33,h34,h35⟩;rw [dV];simp [c_219_l0,c_219_k1,h34,h35,hL]
 ·simp [z]
@[simp] theorem a1d (O:List (Nat×AO)) (n id:Nat):RT ⟨O,n⟩ (.map id)=match look id O with
  | some (.map es)=>some es
  | _=>none:=by simp only [RT,AH.get]<;>rfl
@[simp] theorem kdOk_i (k:IntKind) (x:Int):kdOk .i (.int k x)=true:=by simp [kdOk]
@[simp] theorem kdOk_s (x:List UInt8):kdOk .s (.str x)=true:=by simp [kdOk]
def setM (l:List Int):List (AV×AV):=l.map fun a=>(a8 a,.bool true)
def setS (l:List (List UInt8)):List (AV×AV):=l.map fun a=>(.str a,.bool true)
theorem Ud (k:Int):∀l:List Int,gY .i (a8 k) (setM l)=some (if l.contains k then some (.bool true) else none)
 | []=>by simp [setM,gY]
 | a::l=>by
  have ih:=Ud k l;unfold setM at ih ⊢;by_cases h:k=a
  ·subst h;simp [gY]
  ·simp [gY,h,ih]
theorem qwc (k:Int):∀l:List Int,l.contains k=false->putA .i (a8 k) (.bool true) (setM l)=some (setM (l++[k]))
 | [],_=>by simp [setM,putA]
 | a::l,h=>by
  simp only [List.contains_cons,GE,beq_eq_false_iff_ne,ne_eq] at h;have ih:=qwc k l h.2;unfold setM at ih ⊢;simp [putA,h.1,ih]
theorem qta (k:List UInt8):∀l:List (List UInt8),gY .s (.str k) (setS l)=some (if l.contains k then some (.bool true) else none)
 | []=>by simp [setS,gY]
 | a::l=>by
  have ih:=qta k l;unfold setS at ih ⊢;by_cases h:k=a
  ·subst h;simp [gY]
  ·simp [gY,h,ih]
theorem qwd (k:List UInt8):∀l:List (List UInt8),l.contains k=false->putA .s (.str k) (.bool true) (setS l)=some (setS (l++[k]))
 | [],_=>by simp [setS,putA]
 | a::l,h=>by
  simp only [List.contains_cons,GE,beq_eq_false_iff_ne,ne_eq] at h;have ih:=qwd k l h.2;unfold setS at ih ⊢;simp [putA,h.1,ih]
theorem Ce (l:List Fld) (i:Int):a9 Φ DZ [.slice 2 (l.map Fld.c),a8 i]=some (.val (.agg (match at? l i with | some f=>Fld.c f | none=>[.str [],a8 0]))):=by
 rw [aA rfl rfl];by_cases i0:i<0
 ·simp [uR,i0,iI i0]
 by_cases i1:(l.length:Int)<=i
 ·simp [uR,i0,i1,iH i1]
 obtain ⟨k,rfl⟩:∃k:Nat,i=k:=⟨i.toNat,by omega⟩;have hk:k<l.length:=by omega
 simp [uR,hk,Qf.2 hk,Fld.e]
theorem Cf (l:List Xj) (i:Int):a9 Φ E7 [.slice 2 (l.map Xj.c),a8 i]=some (.val (.agg (match at? l i with | some f=>Xj.c f | none=>[.str [],.slice 2 []]))):=by
 rw [aA rfl rfl];by_cases i0:i<0
 ·simp [uT,i0,iI i0]
 by_cases i1:(l.length:Int)<=i
 ·simp [uT,i0,i1,iH i1]
 obtain ⟨k,rfl⟩:∃k:Nat,i=k:=⟨i.toNat,by omega⟩;have hk:k<l.length:=by omega
 simp [uT,hk,Qf.2 hk,Xj.e]
def M9 (p:Prg) (h:Int):List Fld:=((if h= -1 then some p.Xo else (at? p.Xp h).map (·.Ya))).getD []
theorem X' (h:Int):a9 Φ E0 [.agg (Prg.c p),a8 h]=some (.val (.slice 2 ((M9 p h).map Fld.c))):=by
 rw [aA rfl rfl];by_cases hm:h= -1
 ·simp [uS,Prg.e,hm,M9]
 have ha:=Cf p.Xp h;cases q:at? p.Xp h with
 | none=>
  rw [q] at ha;simp [uS,Prg.e,hm,M9,ha,q]
 | some x=>
  rw [q] at ha;simp only [Xj.e] at ha;simp [uS,Prg.e,hm,M9,ha,q]
theorem Ay (h i:Int):decl p h i=(at? (M9 p h) i).map (·.Yd):=by
 unfold decl M9;cases (if h= -1 then some p.Xo else (at? p.Xp h).map (·.Ya)) with
 | some l=>rfl
 | none=>
  have:at? ([]:List Fld) i=none:=by unfold at?;split<;>simp
  simp [this]
theorem YO (h i:Int):a9 Φ nQ [.agg (Prg.c p),.agg [a8 h,a8 i]]=some (.val (a8 (wid p h i))):=by
 rw [aA rfl rfl];have hf:=X' p h;have ha:=Ce (M9 p h) i;have hd:=Ay p h i;simp only [Prg.e] at hf;cases q:at? (M9 p h) i with
 | none=>
  rw [q] at ha hd;have hm:=LV 0;rw [show eC 0=0 from rfl] at hm;simp [uM,Prg.e,hf,ha,hm,wid,hd]
 | some f=>
  rw [q] at ha hd;simp only [Fld.e] at ha;have hm:=LV f.Yd;cases w:wBad f.Yd with
  | true=>
   rw [show eC f.Yd=0 by simp [eC,w]] at hm;simp [uM,Prg.e,hf,ha,hm,wid,hd,w]
  | false=>
   have:¬eC f.Yd=0:=by
    obtain ⟨w1,w2⟩:=wBad_false.1 w;have:(2:Int)^1<=2^f.Yd.toNat:=by
     have:=MN (n:=2) (by omega) (show 1<=f.Yd.toNat by omega)
     exact_mod_cast this
    simp only [eC,w];simp;omega
   simp [uM,Prg.e,hf,ha,hm,wid,hd,w,this]
theorem Db (h i:Int):0<=wid p h i/\wid p h i<=32:=by
 unfold wid;split
 ·rename_i w _;cases q:wBad w with
  | true=>simp
  | false=>have:=wBad_false.1 q;simp;omega
 ·simp
def keyG (p:Prg) (x:Tbl) (i:Nat):Option (Int×Int):=(x.keys[i]?).bind fun k=>
 if wid p k.field.header k.field.field=0 then some ((i:Int),8) else if k.kind=1\/k.kind=2\/k.kind=3 then none else some ((i:Int),11)
def wV (p:Prg) (x:Tbl):Int×Int:=if 1<x.keys.countP (fun k=>decide (k.kind=2)) then (-2,7) else if 64<(kWid p x).sum then (-2,10) else (0,0)
theorem X7 (x:Tbl):∀i,i<=x.keys.length->0<=((kWid p x).take i).sum/\((kWid p x).take i).sum<=32*i:=by
 intro i
 induction i with
 | zero=>intro _;simp
 | succ i ih=>
  intro hi;have:=ih (by omega);have hl:i<(kWid p x).length:=by simp [kWid];omega
  rw [Qh hl,QF,Q9];have hr:=Db p x.keys[i].field.header x.keys[i].field.field;have he:(kWid p x)[i]=wid p x.keys[i].field.header x.keys[i].field.field:=by simp [kWid]
  rw [he];omega
theorem Eo (x:Tbl) (hl:x.keys.length<2^40):a9 Φ D5 [.agg (Prg.c p),.agg (Tbl.c x)]=some (.val (.tup [a8 (wU p x).1,a8 (wU p x).2])):=by
 rw [aA rfl rfl];have hE:wU p x=(fe (keyG p x) x.keys.length 0).getD (wV p x):=by
  unfold wU keyE;show (match fe (keyG p x) x.keys.length 0 with | some e=>e | none=>wV p x)=_;cases fe (keyG p x) x.keys.length 0<;>rfl
 rw [hE];simp [KF,Prg.e,Tbl.e];refine dK x.keys.length (fun _=>[]) 0 (fun i e=>look 2 e=some (.iptr 9 [Prg.c p] 0 0)/\look 6 e=some (a8 ((x.keys.take i).countP fun k=>decide (k.kind=2):Nat))/\look 7 e=some (a8 ((kWid p x).take i).sum)/\look 12 e=some (.slice 3 (x.keys.map Xl.c))/\look 13 e=some (a8 x.keys.length)/\look 14 e=some (a8 i))
  (fun i=>some (Rt.val (.tup [a8 ((fe (keyG p x) x.keys.length i).getD (wV p x)).1,a8 ((fe (keyG p x) x.keys.length i).getD (wV p x)).2]))) ?_ ?_ 0 _ 0 (Qc _) (Qb _) ?_
 ·rintro i e n L hi hL _ ⟨h2,h6,h7,h12,h13,h14⟩ ih;have hw:=aL i (by omega);have hv:=YO p x.keys[i].field.header x.keys[i].field.field;simp only [Prg.e] at hv;rw [Prg.e] at h2;by_cases z:wid p x.keys[i].field.header x.keys[i].field.field=0
  ·rw [z] at hv;rw [aZ (x:=((i:Int),8)) hi (by simp [keyG,hi,z])];simp [c_231_l0,Xl.e,h2,h12,h13,h14,hi,hv]
  have hs:=X7 p x (i+1) (by omega);have hs0:=X7 p x i (by omega);have he:((kWid p x).take (i+1)).sum=((kWid p x).take i).sum+wid p x.keys[i].field.header x.keys[i].field.field:=by
   have hl:i<(kWid p x).length:=by simp [kWid];omega
   rw [Qh hl,QF,Q9];congr 1;simp [kWid]
  have hw7:IntKind.wrap .i64 (((kWid p x).take i).sum+wid p x.keys[i].field.header x.keys[i].field.field)=((kWid p x).take (i+1)).sum:=by rw [<- he];exact bJ (by omega) (by omega)
  have hc:(x.keys.take (i+1)).countP (fun k=>decide (k.kind=2))=(x.keys.take i).countP (fun k=>decide (k.kind=2))+if x.keys[i].kind=2 then 1 else 0:=by
   rw [Qh hi,List.countP_append];congr 1;simp [List.countP_cons]
  have hcl:(x.keys.take i).countP (fun k=>decide (k.kind=2))<=i:=by
   have:=List.countP_le_length (l:=x.keys.take i) (p:=fun k=>decide (k.kind=2));simp at this;omega
  have hw6:IntKind.wrap .i64 (((x.keys.take i).countP (fun k=>decide (k.kind=2)):Nat)+1:Int)=(((x.keys.take i).countP (fun k=>decide (k.kind=2))+1:Nat):Int):=bJ (by omega) (by omega);by_cases k2:x.keys[i].kind=2
  ·rw [cZ hi (by simp [keyG,hi,z,k2])];rw [aB k2] at hc;simp [c_231_l0,Xl.e,h2,h6,h7,h12,h13,h14,hi,hv,z,k2,hw7,hw6,hw];exact ih _ _ (Qc _) ⟨by simp [h2,Prg.e],by simp [hc],by simp,by simp [h12],by simp [h13],by simp⟩
  rw [QA k2] at hc;by_cases k1:x.keys[i].kind=1
  ·rw [cZ hi (by simp [keyG,hi,z,k1])];simp [c_231_l0,Xl.e,h2,h7,h12,h13,h14,hi,hv,z,k1,hw7,hw];exact ih _ _ (Qc _) ⟨by simp [h2,Prg.e],by simp [hc,h6],by simp,by simp [h12],by simp [h13],by simp⟩
  by_cases k3:x.keys[i].kind=3
  ·rw [cZ hi (by simp [keyG,hi,z,k3])];simp [c_231_l0,Xl.e,h2,h7,h12,h13,h14,hi,hv,z,k3,hw7,hw];exact ih _ _ (Qc _) ⟨by simp [h2,Prg.e],by simp [hc,h6],by simp,by simp [h12],by simp [h13],by simp⟩
  ·rw [aZ (x:=((i:Int),11)) hi (by simp [keyG,hi,z,k1,k2,k3])];simp [c_231_l0,Xl.e,h2,h12,h13,h14,hi,hv,z,k1,k2,k3]
 ·rintro e n L hL _ ⟨h2,h6,h7,h12,h13,h14⟩;rw [dV];have ht:(kWid p x).take x.keys.length=kWid p x:=by rw [Qo];simp [kWid]
  rw [ht] at h7;rw [i9] at h6;by_cases y1:1<x.keys.countP (fun k=>decide (k.kind=2))
  ·simp [c_231_l0,c_231_k1,h6,h13,h14,hL,wV,y1]
  by_cases y2:64<(kWid p x).sum
  ·simp [c_231_l0,c_231_k1,h6,h7,h13,h14,hL,wV,y1,y2]
  ·simp [c_231_l0,c_231_k1,h6,h7,h13,h14,hL,wV,y1,y2]
 ·simp [Prg.e]
def yR (p:Prg) (x:Tbl) (i:Nat):Option Int:=(x.Xy[i]?).bind fun a=>if a<0\/(p.Xy.length:Int)<=a then some (8:Int) else if (x.Xy.take i).contains a then some 7 else none
def zV (p:Prg) (x:Tbl):Int:=if x.Xy.contains x.Yc.Xz then pA p x.Yc else 8
theorem qwn (x:Tbl):GA p x=(fe (yR p x) x.Xy.length 0).getD (zV p x):=by
 unfold GA;show (match fe (yR p x) x.Xy.length 0 with | some e=>e | none=>zV p x)=_;cases fe (yR p x) x.Xy.length 0<;>rfl
theorem Hl (f:PrgS p) (x:Tbl) (hl:x.Xy.length<2^40) (hg:x.Yc.args.length<2^40):a9 Φ D6 [.agg (Prg.c p),.agg (Tbl.c x)]=some (.val (a8 (GA p x))):=by
 rw [aA rfl rfl,qwn];simp [KG,Prg.e,Tbl.e];refine tC x.Xy.length (fun i e H=>look 2 e=some (.iptr 9 [Prg.c p] 0 0)/\look 3 e=some (.iptr 6 [Tbl.c x] 0 0)/\look 5 e=some (.map 0)/\look 10 e=some (.slice 1 (x.Xy.map cI))/\look 11 e=some (a8 x.Xy.length)/\look 12 e=some (a8 i)/\
   H=⟨[(0,.map (setM (x.Xy.take i)))],1⟩)
  (fun i=>some (Rt.val (a8 ((fe (yR p x) x.Xy.length i).getD (zV p x))))) ?_ ?_ 0 _ _ (Qc _) ?_
 ·rintro i e _ L hi hL ⟨h2,h3,h5,h10,h11,h12,rfl⟩ ih;have hw:=aL i (by omega);rw [Prg.e] at h2;by_cases z0:x.Xy[i]<0
  ·rw [aZ (x:=8) hi (by simp [yR,hi,z0])];simp [c_232_l0,cI,h10,h11,h12,hi,z0]
  by_cases z1:(p.Xy.length:Int)<=x.Xy[i]
  ·rw [aZ (x:=8) hi (by simp [yR,hi,z0,z1])];simp [c_232_l0,cI,h2,h10,h11,h12,hi,z0,z1]
  have hfnd:=Ud x.Xy[i] (x.Xy.take i);cases q:(x.Xy.take i).contains x.Xy[i] with
  | true=>
   rw [q] at hfnd;rw [aZ (x:=7) hi (by simp only [yR,Qa hi,iW];rw [QA (by omega),q];rfl)];simp [c_232_l0,cI,h2,h5,h10,h11,h12,hi,z0,z1,hfnd]
  | false=>
   rw [q] at hfnd;have hput:=qwc x.Xy[i] (x.Xy.take i) q;rw [<- Qh hi] at hput;rw [cZ hi (by simp only [yR,Qa hi,iW];rw [QA (by omega),q];rfl)];simp [c_232_l0,cI,h2,h5,h10,h11,h12,hi,z0,z1,hfnd,hput,hw];exact ih _ _ ⟨by simp [h2,Prg.e],by simp [h3],by simp [h5],by simp [h10],by simp [h11],by simp,rfl⟩
 ·rintro e _ L hL ⟨h2,h3,h5,h10,h11,h12,rfl⟩;rw [dV,i9];have hfnd:=Ud x.Yc.Xz x.Xy;have hc:=Ug p f x.Yc hg;simp only [Prg.e,Xb.e] at hc;rw [Prg.e] at h2;rw [Tbl.e] at h3;cases q:x.Xy.contains x.Yc.Xz with
  | true=>
   rw [q] at hfnd;rw [show zV p x=pA p x.Yc by simp only [zV,q];rfl];simp [c_232_l0,c_232_k1,h2,h3,h5,h11,h12,hL,hfnd,hc]
  | false=>
   rw [q] at hfnd;rw [show zV p x=8 by simp only [zV,q];rfl];simp [c_232_l0,c_232_k1,h3,h5,h11,h12,hL,hfnd]
 ·simp [Prg.e,Tbl.e,setM]
theorem Vq (f:PrgS p) (t:Int):a9 Φ qX [.agg (Prg.c p),a8 t]=some (.val (.tup [a8 (tblE p t).1,a8 (tblE p t).2])):=by
 rw [aA rfl rfl];by_cases i0:t<0
 ·simp [fP,Prg.e,i0,tblE,iI i0]
 by_cases i1:(p.Xn.length:Int)<=t
 ·simp [fP,Prg.e,i0,i1,tblE,iH i1]
 obtain ⟨k,rfl⟩:∃k:Nat,t=k:=⟨t.toNat,by omega⟩;have hk:k<p.Xn.length:=by omega
 have hm:=Qd hk;have n1:=LM p.Xn[k].name (f.tn _ hm);have h1:=Eo p p.Xn[k] (f.tk _ hm);have h2:=Hl p f p.Xn[k] (f.ta _ hm) (f.tg _ hm);simp only [Prg.e,Tbl.e] at h1 h2;cases q1:idS p.Xn[k].name with
 | false=>rw [q1] at n1;simp [fP,Prg.e,Tbl.e,hk,Qf.2 hk,n1,tblE,q1]
 | true=>
 rw [q1] at n1;by_cases z0:6<p.Xn[k].keys.length
 ·simp [fP,Prg.e,Tbl.e,hk,Qf.2 hk,n1,tblE,q1,z0]
 by_cases z1:16<p.Xn[k].Xy.length
 ·simp [fP,Prg.e,Tbl.e,hk,Qf.2 hk,n1,tblE,q1,z0,z1]
 by_cases z2:p.Xn[k].size<1
 ·simp [fP,Prg.e,Tbl.e,hk,Qf.2 hk,n1,tblE,q1,z0,z1,z2]
 by_cases z3:256<p.Xn[k].size
 ·simp [fP,Prg.e,Tbl.e,hk,Qf.2 hk,n1,tblE,q1,z0,z1,z2,z3]
 by_cases y1:(wU p p.Xn[k]).2=0
 rotate_left
 ·simp [fP,Prg.e,Tbl.e,hk,Qf.2 hk,n1,tblE,q1,z0,z1,z2,z3,h1,y1]
 rw [y1] at h1;by_cases y2:GA p p.Xn[k]=0
 ·rw [y2] at h2;simp [fP,Prg.e,Tbl.e,hk,Qf.2 hk,n1,tblE,q1,z0,z1,z2,z3,h1,y1,h2,y2]
 ·simp [fP,Prg.e,Tbl.e,hk,Qf.2 hk,n1,tblE,q1,z0,z1,z2,z3,h1,y1,h2,y2]
theorem Ah (x y:BitVec 32):x&&& ~~~y=0#32↔x&&& y=x:=by
 constructor
 ·intro h;apply BitVec.eq_of_getLsbD_eq;intro i hi;have:=congrArg (·.getLsbD i) h;simp [hi] at this ⊢;exact this
 ·intro h;apply BitVec.eq_of_getLsbD_eq;intro i hi;have:=congrArg (·.getLsbD i) h;simp [hi] at this ⊢;exact this
theorem Yp {n:Int} (h1:0<=n) (h2:n<4294967296):IntKind.wrap .u32 n=n:=by
 have e1:(2:Int)^32=4294967296:=rfl;simp only [IntKind.wrap,IntKind.bits,IntKind.signed,Bool.false_and,e1];rw [QA (by simp)];omega
variable {v:Int}
theorem Y8 (h:ok32 0 v):BitVec.ofInt 32 v=BitVec.ofNat 32 v.toNat:=by
 obtain ⟨h1,h2⟩:=h;apply BitVec.eq_of_toNat_eq;simp;omega
variable {m:Int}
theorem Zw (hv:ok32 0 v) (hm:ok32 0 m):OR .u32 v m=0↔v.toNat&&& m.toNat=v.toNat:=by
 have hv2:=hv.2;have hm2:=hm.2;unfold OR;show IntKind.wrap .u32 ((BitVec.ofInt 32 v&&& ~~~BitVec.ofInt 32 m).toNat:Int)=0↔_;have hlt:=(BitVec.ofInt 32 v&&& ~~~BitVec.ofInt 32 m).isLt;rw [Yp (by omega) (by omega)];rw [show (((BitVec.ofInt 32 v&&& ~~~BitVec.ofInt 32 m).toNat:Int)=0)↔(BitVec.ofInt 32 v&&& ~~~BitVec.ofInt 32 m)=0#32 by
  rw [<- BitVec.toNat_inj];simp only [A5];omega]
 rw [Ah,Y8 hv,Y8 hm,<- BitVec.toNat_inj,BitVec.toNat_and,A5,A5,zG (by omega),zG (by omega)]
theorem qsp (hv:ok32 0 v) (hm:ok32 0 m):iand .u32 v m=v↔v.toNat&&& m.toNat=v.toNat:=by
 have hv1:=hv.1;have hv2:=hv.2;have hm2:=hm.2;unfold iand;show IntKind.wrap .u32 ((BitVec.ofInt 32 v&&& BitVec.ofInt 32 m).toNat:Int)=v↔_;have hlt:=(BitVec.ofInt 32 v&&& BitVec.ofInt 32 m).isLt;rw [Yp (by omega) (by omega),Y8 hv,Y8 hm,BitVec.toNat_and,A5,A5,zG (by omega),zG (by omega)];omega
theorem Ul (s:Nat) (n:Int):a9 Φ wA [.agg (Prg.c p),a8 s,a8 n]=some (.val (.bool (oQ p s n))):=by
 rw [aA rfl rfl];by_cases n1:n= -1
 ·simp [qB,Prg.e,oQ,n1]
 by_cases n2:n= -2
 ·simp [qB,Prg.e,oQ,n2]
 by_cases n3:(s:Int)<n
 ·simp [qB,Prg.e,oQ,n1,n2,n3]
 ·simp [qB,Prg.e,oQ,n1,n2,n3]
theorem Ds (s:Nat) (hs:s<p.Xx.length) (c:Xk) (h1:ok32 0 c.value) (h2:ok32 0 c.Ye):a9 Φ DU [.agg (Prg.c p),a8 s,.agg (Xk.c c)]=some (.val (a8 (pB p s p.Xx[s] c))):=by
 rw [aA rfl rfl];have hw:=YO p p.Xx[s].on.header p.Xx[s].on.field;have f1:=UM c.value (wid p p.Xx[s].on.header p.Xx[s].on.field);have f2:=UM c.Ye (wid p p.Xx[s].on.header p.Xx[s].on.field);have hl:=Ul p s c.next;have ha:=Zw h1 h2;simp only [Prg.e] at hw hl;cases q1:fits c.value (wid p p.Xx[s].on.header p.Xx[s].on.field) with
 | false=>rw [q1] at f1;simp [nA,Prg.e,Xk.e,Xd.e,hs,hw,f1,pB,q1]
 | true=>
 rw [q1] at f1;cases q2:fits c.Ye (wid p p.Xx[s].on.header p.Xx[s].on.field) with
 | false=>rw [q2] at f2;simp [nA,Prg.e,Xk.e,Xd.e,hs,hw,f1,f2,pB,q1,q2]
 | true=>
 rw [q2] at f2;by_cases z:OR .u32 c.value c.Ye=0
 ·have z':=ha.1 z;cases q3:oQ p s c.next with
  | true=>rw [q3] at hl;simp [nA,Prg.e,Xk.e,Xd.e,hs,hw,f1,f2,hl,pB,q1,q2,q3,z,z']
  | false=>rw [q3] at hl;simp [nA,Prg.e,Xk.e,Xd.e,hs,hw,f1,f2,hl,pB,q1,q2,q3,z,z']
 ·have z':¬(c.value.toNat&&& c.Ye.toNat=c.value.toNat):=fun h=>z (ha.2 h)
  simp [nA,Prg.e,Xk.e,Xd.e,hs,hw,f1,f2,pB,q1,q2,z,z']
def lO (p:Prg) (s:Nat) (x:Xd) (i:Nat):Option (Int×Int):=(x.cases[i]?).bind fun c=>if pB p s x c=0 then none else some ((i:Int),pB p s x c)
def stF (p:Prg) (s:Nat) (x:Xd):Int×Int:=if oQ p s x.Yc then (0,0) else (-1,14)
def stK (p:Prg) (s:Nat) (x:Xd):Int×Int:=
 if x.select=true/\wid p x.on.header x.on.field=0 then (-1,8)
 else if x.select=false/\0<x.cases.length then (-1,11)
 else (fe (lO p s x) x.cases.length 0).getD (stF p s x)
theorem TP (s:Nat) (x:Xd):stE p s x=if 4<x.extract.length\/8<x.cases.length then (-1,12)
  else if x.extract.any (fun h=>decide (h<0) || decide ((p.Xp.length:Int)<=h)) then (-1,8) else stK p s x:=by
 unfold stE stK;show (if _ then _ else if _ then _ else if _ then _ else if _ then _ else (match fe (lO p s x) x.cases.length 0 with | some e=>e | none=>stF p s x))=_;cases fe (lO p s x) x.cases.length 0<;>rfl
theorem Ph (s:Nat) (hs:s<p.Xx.length) (hv:∀c∈p.Xx[s].cases,ok32 0 c.value/\ok32 0 c.Ye) (hl:p.Xx[s].cases.length<2^40) (e:Env) (n:Nat)
  (h1:look 1 e=some (a8 s)) (h2:look 2 e=some (.iptr 9 [Prg.c p] 0 0)) (h6:look 6 e=some (.iptr 7 [Xd.c p.Xx[s]] 0 0)):
  go Φ (finP [.tmp 4,.tmp 5]) [.c c_233_k3] .normal ⟨e,⟨[],n⟩⟩=some (.val (.tup [a8 (stK p s p.Xx[s]).1,a8 (stK p s p.Xx[s]).2])):=by
 have hw:=YO p p.Xx[s].on.header p.Xx[s].on.field;simp only [Prg.e] at hw;rw [Prg.e] at h2;rw [Xd.e] at h6;cases q:p.Xx[s].select with
 | true=>
  rw [q] at h6;by_cases z:wid p p.Xx[s].on.header p.Xx[s].on.field=0
  ·rw [z] at hw;simp [c_233_k3,h2,h6,hw,stK,q,z]
  rw [show stK p s p.Xx[s]=(fe (lO p s p.Xx[s]) p.Xx[s].cases.length 0).getD (stF p s p.Xx[s]) by simp [stK,q,z]];simp [c_233_k3,h2,h6,hw,z];refine dK p.Xx[s].cases.length (fun _=>[]) 0 (fun i e=>look 1 e=some (a8 s)/\look 2 e=some (.iptr 9 [Prg.c p] 0 0)/\look 6 e=some (.iptr 7 [Xd.c p.Xx[s]] 0 0)/\look 65 e=some (.slice 3 (p.Xx[s].cases.map Xk.c))/\look 66 e=some (a8 p.Xx[s].cases.length)/\look 67 e=some (a8 i))
   (fun i=>some (Rt.val (.tup [a8 ((fe (lO p s p.Xx[s]) p.Xx[s].cases.length i).getD (stF p s p.Xx[s])).1,a8 ((fe (lO p s p.Xx[s]) p.Xx[s].cases.length i).getD (stF p s p.Xx[s])).2]))) ?_ ?_ 0 _ _ (Qc _) (Qc _) ?_
  ·rintro i e n L hi hL _ ⟨h1,h2,h6,h65,h66,h67⟩ ih;have hw:=aL i (by omega);have hc:=hv _ (Qd hi);have hE:=Ds p s hs p.Xx[s].cases[i] hc.1 hc.2;simp only [Prg.e,Xk.e] at hE;rw [Prg.e] at h2;by_cases y:pB p s p.Xx[s] p.Xx[s].cases[i]=0
   ·rw [y] at hE;rw [cZ hi (by simp [lO,hi,y])];simp [c_233_l1,Xk.e,h1,h2,h65,h66,h67,hi,hE,hw];exact ih _ _ (Qc _) ⟨by simp [h1],by simp [h2,Prg.e],by simp [h6],by simp [h65],by simp [h66],by simp⟩
   ·rw [aZ (x:=((i:Int),pB p s p.Xx[s] p.Xx[s].cases[i])) hi (by simp [lO,hi,y])];simp [c_233_l1,Xk.e,h1,h2,h65,h66,h67,hi,hE,y]
  ·rintro e n L hL _ ⟨h1,h2,h6,h65,h66,h67⟩;rw [dV];have hd:=Ul p s p.Xx[s].Yc;simp only [Prg.e] at hd;rw [Prg.e] at h2;rw [Xd.e] at h6;cases y:oQ p s p.Xx[s].Yc with
   | true=>rw [y] at hd;simp [c_233_l1,c_233_k2,h1,h2,h6,h66,h67,hL,hd,stF,y]
   | false=>rw [y] at hd;simp [c_233_l1,c_233_k2,h1,h2,h6,h66,h67,hL,hd,stF,y]
  ·simp [h1,h2,h6,Prg.e,Xd.e,q]
 | false=>
  rw [q] at h6;by_cases z:0<p.Xx[s].cases.length
  ·simp [c_233_k3,h6,stK,q,z]
  have z0:p.Xx[s].cases.length=0:=by omega
  rw [show stK p s p.Xx[s]=stF p s p.Xx[s] by simp [stK,q,z0,dV]];simp [c_233_k3,h6,z0];rw [bG];have hd:=Ul p s p.Xx[s].Yc;simp only [Prg.e] at hd;cases y:oQ p s p.Xx[s].Yc with
  | true=>rw [y] at hd;simp [c_233_l1,c_233_k2,h1,h2,h6,hd,stF,y]
  | false=>rw [y] at hd;simp [c_233_l1,c_233_k2,h1,h2,h6,hd,stF,y]
theorem Pf (f:PrgS p) (s:Nat) (hs:s<p.Xx.length):a9 Φ D7 [.agg (Prg.c p),a8 s]=some (.val (.tup [a8 (stE p s p.Xx[s]).1,a8 (stE p s p.Xx[s]).2])):=by
 rw [aA rfl rfl,TP];by_cases z0:4<p.Xx[s].extract.length
 ·simp [uK,Prg.e,Xd.e,hs,z0]
 by_cases z1:8<p.Xx[s].cases.length
 ·simp [uK,Prg.e,Xd.e,hs,z0,z1]
 rw [QA (by omega)];generalize hX:(if p.Xx[s].extract.any (fun h=>decide (h<0) || decide ((p.Xp.length:Int)<=h))=true then ((-1:Int),(8:Int)) else stK p s p.Xx[s])=X;simp [uK,Prg.e,Xd.e,hs,z0,z1];refine (zJ p.Xx[s].extract (fun h=>decide (h<0) || decide ((p.Xp.length:Int)<=h)) (some (Rt.val (.tup [a8 (-1),a8 8]))) (some (Rt.val (.tup [a8 (stK p s p.Xx[s]).1,a8 (stK p s p.Xx[s]).2])))
  (fun i e H=>look 1 e=some (a8 s)/\look 2 e=some (.iptr 9 [Prg.c p] 0 0)/\look 6 e=some (.iptr 7 [Xd.c p.Xx[s]] 0 0)/\look 28 e=some (.slice 1 (p.Xx[s].extract.map cI))/\look 29 e=some (a8 p.Xx[s].extract.length)/\look 30 e=some (a8 i)/\∃n,H=⟨[],n⟩) ?_ ?_ ?_ _ _ ?_).trans ?_
 ·rintro i e _ L hi hL ⟨h1,h2,h6,h28,h29,h30,n,rfl⟩ hb;rw [Prg.e] at h2;simp only [IL,decide_eq_true_eq] at hb;by_cases y0:p.Xx[s].extract[i]<0
  ·simp [c_233_l0,cI,h28,h29,h30,hi,y0]
  ·have y1:(p.Xp.length:Int)<=p.Xx[s].extract[i]:=by omega
   simp [c_233_l0,cI,h2,h28,h29,h30,hi,y0,y1]
 ·rintro i e _ L X hi hL ⟨h1,h2,h6,h28,h29,h30,n,rfl⟩ hb ih;have hw:=aL i (by omega);rw [Prg.e] at h2;simp only [GE,decide_eq_false_iff_not] at hb;simp [c_233_l0,cI,h2,h28,h29,h30,hi,hb,hw];exact ih _ _ ⟨by simp [h1],by simp [h2,Prg.e],by simp [h6],by simp [h28],by simp [h29],by simp,n,rfl⟩
 ·rintro e _ L hL ⟨h1,h2,h6,h28,h29,h30,n,rfl⟩;simp [c_233_l0,h29,h30,hL];refine Ph p s hs (fun c hc=>f.sv _ (Qd hs) c hc) (f.sc _ (Qd hs)) _ _ ?_ ?_ ?_
  ·simp [h1]
  ·simp [h2]
  ·simp [h6]
 ·simp [Prg.e,Xd.e]
 ·rw [<- hX];cases p.Xx[s].extract.any (fun h=>decide (h<0) || decide ((p.Xp.length:Int)<=h))<;>rfl
theorem QI {α I:Type} [BEq I] [LawfulBEq I] [DecidableEq I] (f:α->I) (a:I):∀l:List α,(l.map f).contains a=l.any fun y=>decide (f y=a)
 | []=>by simp
 | x::l=>by
  have ih:=QI f a l;simp only [u9,List.contains_cons,IP,ih];congr 1;by_cases h:a=f x
  ·subst h;simp
  ·have h2:¬f x=a:=fun e=>h e.symm
   simp [h,h2]
def parG (p:Prg) (s:Nat):Option (Int×Int×Int):=(p.Xx[s]?).bind fun x=>if idS x.name=false then some ((s:Int),(-1:Int),(6:Int)) else if dupN Xd.name p.Xx s x then some ((s:Int),-1,7)
  else if (stE p s x).2=0 then none else some ((s:Int),(stE p s x).1,(stE p s x).2)
def tup3 (x:Int×Int×Int):Rt:= .val (.tup [a8 x.1,a8 x.2.1,a8 x.2.2])
theorem La (f:PrgS p):a9 Φ CI [.agg (Prg.c p)]=some (tup3 (parE p)):=by
 rw [aA rfl rfl];by_cases z0:p.Xx.length=0
 ·simp [uG,Prg.e,z0,parE,tup3]
 by_cases z1:12<p.Xx.length
 ·simp [uG,Prg.e,z0,z1,parE,tup3]
 have hE:parE p=(fe (parG p) p.Xx.length 0).getD (0,0,0):=by unfold parE;rw [QA z0,QA z1];rfl
 rw [hE];simp [uG,Prg.e,z0,z1];refine dK p.Xx.length (fun i=>[(0,.map (setS ((p.Xx.map (·.name)).take i)))]) 1 (fun i e=>look 1 e=some (.iptr 9 [Prg.c p] 0 0)/\look 5 e=some (.map 0)/\look 22 e=some (.slice 7 (p.Xx.map Xd.c))/\look 23 e=some (a8 p.Xx.length)/\look 24 e=some (a8 i))
  (fun i=>some (tup3 ((fe (parG p) p.Xx.length i).getD (0,0,0)))) ?_ ?_ 0 _ 1 (Qc _) (Qb _) ?_
 ·rintro i e n L hi hL hn ⟨h1,h5,h22,h23,h24⟩ ih;have hw:=aL i (by omega);have hn0:¬(0=n):=by omega
  have hn1:¬(n=0):=by omega
  have nf:=LM p.Xx[i].name (f.sn _ (Qd hi));have hs:=Pf p f i hi;simp only [Prg.e] at hs;rw [Prg.e] at h1;cases q1:idS p.Xx[i].name with
  | false=>
   rw [q1] at nf;rw [aZ (x:=((i:Int),-1,6)) hi (by simp [parG,hi,q1])];simp [c_185_l0,Xd.e,h22,h23,h24,hi,hn0,nf,tup3]
  | true=>
  rw [q1] at nf;have hd:((p.Xx.map (·.name)).take i).contains p.Xx[i].name=dupN Xd.name p.Xx i p.Xx[i]:=by
   rw [<- pK,QI];rfl
  have hfnd:=qta p.Xx[i].name ((p.Xx.map (·.name)).take i);rw [hd] at hfnd;cases q2:dupN Xd.name p.Xx i p.Xx[i] with
  | true=>
   rw [q2] at hfnd;rw [aZ (x:=((i:Int),-1,7)) hi (by simp [parG,hi,q1,q2])];simp [c_185_l0,Xd.e,h5,h22,h23,h24,hi,hn0,nf,hfnd,tup3]
  | false=>
   rw [q2] at hfnd hd;have hput:=qwd p.Xx[i].name ((p.Xx.map (·.name)).take i) hd;rw [show (p.Xx.map (·.name)).take i++[p.Xx[i].name]=(p.Xx.map (·.name)).take (i+1) from (jS hi).symm] at hput;by_cases y:(stE p i p.Xx[i]).2=0
   ·rw [y] at hs;rw [cZ hi (by simp [parG,hi,q1,q2,y])];simp [c_185_l0,Xd.e,h1,h5,h22,h23,h24,hi,hn0,nf,hfnd,hput,hs,hw];exact ih _ _ (by omega) ⟨by simp [h1,Prg.e],by simp [h5],by simp [h22],by simp [h23],by simp⟩
   ·rw [aZ (x:=((i:Int),(stE p i p.Xx[i]).1,(stE p i p.Xx[i]).2)) hi (by simp [parG,hi,q1,q2,y])];simp [c_185_l0,Xd.e,h1,h5,h22,h23,h24,hi,hn0,nf,hfnd,hput,hs,y,tup3]
 ·rintro e n L hL hn ⟨h1,h5,h22,h23,h24⟩;rw [dV];simp [c_185_l0,c_185_k1,h23,h24,hL,tup3]
 ·simp [Prg.e]
theorem Bk (l:List Int) (x:Int) (hl:l.length<2^40):a9 Φ DV [.slice 1 (l.map cI),a8 x]=some (.val (a8 (ix (fun s=>decide (x=s)) l 0))):=by
 rw [aA rfl rfl];simp [L5];refine (fJ l.length (fun i e=>look 0 e=some (.slice 1 (l.map cI))/\look 1 e=some (a8 x)/\look 7 e=some (a8 l.length)/\look 8 e=some (a8 i))
  (fun i=>some (.val (a8 (ix (fun s=>decide (x=s)) l i)))) ?_ ?_ 0 _ (Qc _) ?_).trans (by simp)
 ·rintro i e L hi hL ⟨h0,h1,h7,h8⟩ ih;have hw:=aL i (by omega);by_cases z:x=l[i]
  ·rw [HY hi (by simpa using z)];simp [c_279_l0,cI,h0,h1,h7,h8,hi,<- z]
  ·rw [HT hi (by simpa using z)];simp [c_279_l0,cI,h0,h1,h7,h8,hi,z,hw];exact ih _ ⟨by simp [h0],by simp [h1],by simp [h7],by simp⟩
 ·rintro e L hL ⟨h0,h1,h7,h8⟩;rw [HX];simp [c_279_l0,c_279_k1,h7,h8,hL]
 ·simp
theorem qup (l:List Int) (x:Int) (hl:l.length<2^40):a9 Φ DB [.slice 1 (l.map cI),a8 x]=some (.val (.bool (l.contains x))):=by
 rw [aA rfl rfl];have h:=Bk l x hl;have e:=P0 (p:=fun s=>decide (x=s)) (l:=l);have e2:l.contains x=l.any fun s=>decide (x=s):=by
  have:=QI (fun y:Int=>y) x l;rw [List.map_id'] at this;rw [this];congr 1;funext y;simp [eq_comm]
 simp [KI,h];have e3:=e.trans e2.symm;simpa using e3
def depG (p:Prg) (i:Nat):Option (Int×Int):=(p.Xs[i]?).bind fun h=>if h<0\/(p.Xp.length:Int)<=h then some ((i:Int),(8:Int)) else if (p.Xs.take i).contains h then some ((i:Int),7) else none
theorem Iy (f:PrgS p):a9 Φ CL [.agg (Prg.c p)]=some (.val (.tup [a8 (depE p).1,a8 (depE p).2])):=by
 rw [aA rfl rfl];by_cases z1:8<p.Xs.length
 ·simp [AR,Prg.e,z1,depE]
 have hE:depE p=(fe (depG p) p.Xs.length 0).getD (0,0):=by unfold depE;rw [QA z1];rfl
 rw [hE];simp [AR,Prg.e,z1];refine fJ p.Xs.length (fun i e=>look 1 e=some (.iptr 9 [Prg.c p] 0 0)/\look 11 e=some (.slice 1 (p.Xs.map cI))/\look 12 e=some (a8 p.Xs.length)/\look 13 e=some (a8 i))
  (fun i=>some (Rt.val (.tup [a8 ((fe (depG p) p.Xs.length i).getD (0,0)).1,a8 ((fe (depG p) p.Xs.length i).getD (0,0)).2]))) ?_ ?_ 0 _ (Qc _) ?_
 ·rintro i e L hi hL ⟨h1,h11,h12,h13⟩ ih;have hw:=aL i (by omega);have hi':i<=p.Xs.length:=by omega
  rw [Prg.e] at h1;by_cases y0:p.Xs[i]<0
  ·rw [aZ (x:=((i:Int),8)) hi (by simp [depG,hi,y0])];simp [c_187_l0,cI,h11,h12,h13,hi,y0]
  by_cases y1:(p.Xp.length:Int)<=p.Xs[i]
  ·rw [aZ (x:=((i:Int),8)) hi (by simp [depG,hi,y0,y1])];simp [c_187_l0,cI,h1,h11,h12,h13,hi,y0,y1]
  have hc:=qup (p.Xs.take i) p.Xs[i] (by simp;omega);rw [pK] at hc;cases q:(p.Xs.take i).contains p.Xs[i] with
  | true=>
   rw [q] at hc;rw [aZ (x:=((i:Int),7)) hi (by simp only [depG,Qa hi,iW];rw [QA (by omega),q];rfl)];simp [c_187_l0,cI,h1,h11,h12,h13,hi,hi',y0,y1,hc]
  | false=>
   rw [q] at hc;rw [cZ hi (by simp only [depG,Qa hi,iW];rw [QA (by omega),q];rfl)];simp [c_187_l0,cI,h1,h11,h12,h13,hi,hi',y0,y1,hc,hw];exact ih _ ⟨by simp [h1,Prg.e],by simp [h11],by simp [h12],by simp⟩
 ·rintro e L hL ⟨h1,h11,h12,h13⟩;rw [dV];simp [c_187_l0,c_187_k1,h12,h13,hL]
 ·simp [Prg.e]
@[simp] theorem Xa.kind_mk (k t:Int) (c:List Xe) (a b:List Xa):(Xa.mk k t c a b).kind=k:=by simp [Xa.kind]
@[simp] theorem Xa.table_mk (k t:Int) (c:List Xe) (a b:List Xa):(Xa.mk k t c a b).table=t:=by simp [Xa.table]
@[simp] theorem Xa.cond_mk (k t:Int) (c:List Xe) (a b:List Xa):(Xa.mk k t c a b).cond=c:=by simp [Xa.cond]
@[simp] theorem Xa.thn_mk (k t:Int) (c:List Xe) (a b:List Xa):(Xa.mk k t c a b).thn=a:=by simp [Xa.thn]
@[simp] theorem Xa.els_mk (k t:Int) (c:List Xe) (a b:List Xa):(Xa.mk k t c a b).els=b:=by simp [Xa.els]
theorem qyx (k t:Int) (c:List Xe) (a b:List Xa):a9 Φ DA [.agg (Xa.c (.mk k t c a b))]=some (.val (.bool (appl (.mk k t c a b)))):=by
 rw [aA rfl rfl];by_cases k1:k=1
 ·simp [B5,Xa.e,appl,k1]
 ·simp [B5,Xa.e,appl,k1]
def lP (p:Prg) (us:List Int) (x:Xa):Int:=
 if x.kind=2 then (if (exE p [] x.cond).2=0 then (if (exE p [] x.cond).1=1 then 0 else 10) else (exE p [] x.cond).2)
 else if x.kind=1\/x.kind=3 then (if x.table<0\/(p.Xn.length:Int)<=x.table then 8
  else if us.contains x.table then 7
  else if x.kind=1/\0<x.thn.length+x.els.length then 5 else 0)
 else 11
def RY (us:List Int) (x:Xa):Int:=if us.contains x.table then 7 else if x.kind=1/\0<x.thn.length+x.els.length then 5 else 0
theorem Dn {p:Prg} (k t:Int) (c:List Xe) (a b:List Xa) (us:List Int) (ha:a.length<2^40) (hb:b.length<2^40) (hu:us.length<2^40) (e:Env)
  (h4:look 4 e=some (.iptr 5 [Xa.c (.mk k t c a b)] 0 0)) (h27:look 27 e=some (.slice 1 (us.map cI))) (h28:look 28 e=some (a8 us.length)) (h29:look 29 e=some (a8 0)):
  go Φ (finP [.tmp 6]) [.c (.loop c_238_l0),.b 1,.c c_238_k1,.b 0,.c c_238_k2] .normal ⟨e,⟨[],0⟩⟩=some (.val (a8 (RY us (.mk k t c a b)))):=by
 have hc:=QI (fun y:Int=>y) t us;rw [List.map_id'] at hc;refine (zJ us (fun y=>decide (y=t)) (some (Rt.val (a8 7))) (some (Rt.val (a8 (if k=1/\0<a.length+b.length then 5 else 0))))
  (fun i e H=>look 4 e=some (.iptr 5 [Xa.c (.mk k t c a b)] 0 0)/\look 27 e=some (.slice 1 (us.map cI))/\look 28 e=some (a8 us.length)/\look 29 e=some (a8 i)/\H=⟨[],0⟩) ?_ ?_ ?_ _ _ ⟨h4,h27,h28,h29,rfl⟩).trans ?_
 ·rintro i e _ L hi hL ⟨h4,h27,h28,h29,rfl⟩ hb;simp only [decide_eq_true_eq] at hb;rw [Xa.e] at h4;simp [c_238_l0,cI,h4,h27,h28,h29,hi,hb]
 ·rintro i e _ L X hi hL ⟨h4,h27,h28,h29,rfl⟩ hb ih;have hw:=aL i (by omega);simp only [decide_eq_false_iff_not] at hb;rw [Xa.e] at h4;simp [c_238_l0,cI,h4,h27,h28,h29,hi,hb,hw];exact ih _ _ ⟨by simp [h4,Xa.e],by simp [h27],by simp [h28],by simp,rfl⟩
 ·rintro e _ L hL ⟨h4,h27,h28,h29,rfl⟩;rw [Xa.e] at h4;have hw:IntKind.wrap .i64 ((a.length:Int)+b.length)=(a.length:Int)+b.length:=bJ (by omega) (by omega);by_cases k1:k=1
  ·by_cases z:0<a.length+b.length
   ·have z':(0:Int)<(a.length:Int)+b.length:=by omega
    simp [c_238_l0,c_238_k1,c_238_k2,h4,h28,h29,hL,hw,k1,z,z']
   ·have z':¬(0:Int)<(a.length:Int)+b.length:=by omega
    have za:a.length=0:=by omega
    have zb:b.length=0:=by omega
    simp [c_238_l0,c_238_k1,c_238_k2,h4,h28,h29,hL,k1,za,zb];rw [show IntKind.wrap .i64 0=0 by decide];simp [Qg za,Qg zb]
  ·simp [c_238_l0,c_238_k1,c_238_k2,h4,h28,h29,hL,k1]
 ·unfold RY;simp only [Xa.table_mk,Xa.kind_mk,Xa.thn_mk,Xa.els_mk,hc];cases us.any (fun y=>decide (y=t))<;>rfl
theorem Dm (k t:Int) (c:List Xe) (a b:List Xa) (us:List Int) (ha:a.length<2^40) (hb:b.length<2^40) (hu:us.length<2^40):
  a9 Φ D9 [.agg (Prg.c p),.agg (Xa.c (.mk k t c a b)),.slice 1 (us.map cI)]=some (.val (a8 (lP p us (.mk k t c a b)))):=by
 rw [aA rfl rfl];have hV:=Dn (p:=p) k t c a b us ha hb hu;simp only [Xa.e] at hV;by_cases k1:k=1
 ·by_cases t0:t<0
  ·simp [fR,c_238_k2,Xa.e,Prg.e,lP,k1,t0]
  by_cases t1:(p.Xn.length:Int)<=t
  ·simp [fR,c_238_k2,Xa.e,Prg.e,lP,k1,t0,t1]
  have e:lP p us (.mk k t c a b)=RY us (.mk k t c a b):=by simp [lP,RY,k1,t0,t1]
  rw [e];simp [fR,Xa.e,Prg.e,k1,t0,t1];rw [hV]
  all_goals simp [k1]
 by_cases k3:k=3
 ·by_cases t0:t<0
  ·simp [fR,c_238_k2,Xa.e,Prg.e,lP,k3,t0]
  by_cases t1:(p.Xn.length:Int)<=t
  ·simp [fR,c_238_k2,Xa.e,Prg.e,lP,k3,t0,t1]
  have e:lP p us (.mk k t c a b)=RY us (.mk k t c a b):=by simp [lP,RY,k3,t0,t1]
  rw [e];simp [fR,Xa.e,Prg.e,k3,t0,t1];rw [hV]
  all_goals simp [k3]
 by_cases k2:k=2
 ·have hx:=Wj p [] c;simp only [aK,QB] at hx;by_cases z:(exE p [] c).2=0
  ·rw [z] at hx;by_cases y:(exE p [] c).1=1
   ·rw [y] at hx;simp [fR,c_238_k2,Xa.e,Prg.e,lP,k2,hx,z,y]
   ·simp [fR,c_238_k2,Xa.e,Prg.e,lP,k2,hx,z,y]
  ·simp [fR,c_238_k2,Xa.e,Prg.e,lP,k2,hx,z]
 ·simp [fR,c_238_k2,Xa.e,Prg.e,lP,k1,k2,k3]
theorem OK:∀a b:List Xa,pre (a++b)=pre a++pre b
 | [],b=>by simp [pre]
 | x::a,b=>by simp [pre,OK a b]
theorem UF {l:List Xa} (hi:i<l.length):pre (l.take (i+1))=pre (l.take i)++pre1 l[i]:=by
 rw [Qh hi,OK];simp [pre]
theorem FX (k t:Int) (c:List Xe) (a b:List Xa):pre1 (.mk k t c a b)= .mk k t c a b::(pre a++pre b):=by simp [pre1]
theorem Fk (x:Xa):1<=(pre1 x).length:=by
 cases x;rw [FX];simp
theorem EO:∀l:List Xa,l.length<=(pre l).length
 | []=>by simp
 | x::r=>by
  have:=EO r;have:=Fk x;simp [pre];omega
theorem Wh {l:List Xa} (hi:i<l.length):(pre1 l[i]).length<=(pre l).length:=by
 have h:pre l=pre (l.take i)++(pre1 l[i]++pre (l.drop (i+1))):=by
  conv=>lhs;rw [<- ML i l,OK,Qi hi]
  simp [pre]
 rw [h];simp;omega
def oA (l:List Xa):Nat:=match l with
 | []=>0
 | x::r=>max (G8 x) (oA r)
theorem Wd:∀l:List Xa,l≠[]->nest l=oA l+1
 | [],h=>absurd rfl h
 | [x],_=>by simp [nest,oA];omega
 | x::y::r,_=>by
  have:=Wd (y::r) (by simp);rw [nest,oA,this];omega
theorem Zx:∀a b:List Xa,oA (a++b)=max (oA a) (oA b)
 | [],b=>by simp [oA]
 | x::a,b=>by rw [jM,oA,Zx a b,oA];omega
theorem qz0 {l:List Xa} (hi:i<l.length):oA (l.take (i+1))=max (oA (l.take i)) (G8 l[i]):=by
 rw [Qh hi,Zx];simp [oA]
theorem Us (k t:Int) (c:List Xe) (a b:List Xa):G8 (.mk k t c a b)=max (nest a) (nest b):=by simp [G8]
mutual
theorem Dj:∀x:Xa,G8 x<(pre1 x).length
 | .mk k t c a b=>by
  have h1:=RH a;have h2:=RH b;rw [Us,FX];simp;omega
theorem RH:∀l:List Xa,nest l<=(pre l).length
 | []=>by simp [nest]
 | x::r=>by
  have h1:=Dj x;have h2:=RH r;rw [nest,pre];simp;omega
end
theorem Dk (l:List Xa):oA l<=(pre l).length:=by
 cases l with
 | nil=>simp [oA]
 | cons x r=>have:=Wd (x::r) (by simp);have:=RH (x::r);omega
theorem wQ (x:Xa):∃k t c a b,x= .mk k t c a b:=by
 cases x with
 | mk k t c a b=>exact ⟨k,t,c,a,b,rfl⟩
theorem We:∀(n:Nat) (l:List Xa),SizeOf.sizeOf l<=n->(pre l).length<2^40->a9 Φ rF [.slice 5 (l.map Xa.c)]=some (.val (a8 (nest l:Nat)))
 | 0,l,h,hb=>by cases l<;>simp at h
 | n+1,l,h,hb=>by
  rw [aA rfl rfl];have hll:=EO l;by_cases z:l.length=0
  ·have:l=[]:=Qg z;subst this;simp [B4,nest]
  have hne:l≠[]:=by intro h;subst h;simp at z
  rw [Wd l hne];simp [B4,z];refine dK l.length (fun _=>[]) 0 (fun i e=>look 3 e=some (a8 (oA (l.take i):Nat))/\look 9 e=some (.slice 5 (l.map Xa.c))/\look 10 e=some (a8 l.length)/\look 11 e=some (a8 i))
   (fun i=>some (Rt.val (a8 ((oA l:Nat)+1)))) ?_ ?_ 0 _ 0 (Qc _) (Qb _) ?_
  ·rintro i e m L hi hL _ ⟨h3,h9,h10,h11⟩ ih;have hw:=aL i (by omega);obtain ⟨k,t,c,a,b,hx⟩:=wQ l[i];have hm:l[i]∈l:=Qd hi;have hs:SizeOf.sizeOf l[i]<SizeOf.sizeOf l:=IK hm;have hp:=Wh hi;rw [hx] at hs hp;rw [FX] at hp;simp at hs hp;have i1:=We n a (by omega) (by omega);have i2:=We n b (by omega) (by omega);have hM:=qz0 hi;rw [hx,Us] at hM;simp [c_235_l0,h3,h9,h10,h11,hi,hw,hx,Xa.e,i1,i2];refine ih _ _ (Qc _) ⟨?_,by simp [h9],by simp [h10],by simp⟩;simp [hM];split<;>split<;>omega
  ·rintro e m L hL _ ⟨h3,h9,h10,h11⟩;rw [i9] at h3;have:=Dk l;have hw:IntKind.wrap .i64 ((oA l:Int)+1)=(oA l:Int)+1:=bJ (by omega) (by omega);simp [c_235_l0,c_235_k1,h3,h10,h11,hL,hw]
  ·simp [oA]
theorem Uo {Φ:FuncId->Option AFun} {fin:Option (Ex×St)->Option I} (N:Nat) (Inv:Nat->Env->AH->Prop) (Q:Option I->Prop) {b:Xv} {K:List Fr}
  (step:∀i e h L,i<N->(∀j s,go Φ fin L (.exit j) s=go Φ fin K (.exit j) s)->Inv i e h->(∀e' h',Inv (i+1) e' h'->Q (go Φ fin L .normal ⟨e',h'⟩))->Q (go Φ fin (.c b::L) .normal ⟨e,h⟩))
  (last:∀e h L,(∀j s,go Φ fin L (.exit j) s=go Φ fin K (.exit j) s)->Inv N e h->Q (go Φ fin (.c b::L) .normal ⟨e,h⟩)):
  ∀i e h,i<=N->Inv i e h->Q (go Φ fin (.c (.loop b)::K) .normal ⟨e,h⟩):=by
 have key:∀n i e h,N - i<=n->i<=N->Inv i e h->Q (go Φ fin (.c (.loop b)::K) .normal ⟨e,h⟩):=by
  intro n
  induction n with
  | zero=>
   intro i e h hn hi hv;have:i=N:=by omega
   subst this;rw [bG];exact last e h _ (fun j s=>by simp) hv
  | succ n ih=>
   intro i e h hn hi hv;rcases Qv i N with hlt | hge
   ·rw [bG];exact step i e h _ hlt (fun j s=>by simp) hv fun e' h' hv'=>ih (i+1) e' h' (by omega) (by omega) hv'
   ·have:i=N:=by omega
    subst this;rw [bG];exact last e h _ (fun j s=>by simp) hv
 intro i e h hi hv;exact key (N - i) i e h (Qb _) hi hv
def cntF:AV:= .func (.func wB) [] [.ptr 0 1 0 0]
def cntH (c:Int) (m:Nat):AH:=⟨[(0,.row 1 [[a8 c]])],m⟩
theorem Aw (k t:Int) (cd:List Xe) (a b:List Xa) (c:Int) (m:Nat) (hc:0<=c/\c<2^60):aN Φ wB [.agg (Xa.c (.mk k t cd a b)),.ptr 0 1 0 0] (cntH c m)=some (.val (.bool true),cntH (c+1) m):=by
 rw [dW rfl rfl];have hw:IntKind.wrap .i64 (c+1)=c+1:=bJ (by omega) (by omega);simp [L4,cntH,Xa.e,hw]
theorem Wf:∀(n:Nat) (l:List Xa) (c:Int) (m:Nat),1<=m->SizeOf.sizeOf l<=n->0<=c->c+(pre l).length<2^60->(pre l).length<2^40->
  ∃m',m<=m'/\aN Φ iG [.slice 5 (l.map Xa.c),cntF] (cntH c m)=some (.val (.bool true),cntH (c+(pre l).length) m')
 | 0,l,c,m,_,h,_,_,_=>by cases l<;>simp at h
 | n+1,l,c,m,h1m,h,hc0,hb,hl=>by
  rw [dW rfl rfl];have hll:=EO l;simp [pZ,cntF];refine Uo l.length (fun i e H=>look 1 e=some cntF/\look 7 e=some (.slice 5 (l.map Xa.c))/\look 8 e=some (a8 l.length)/\look 9 e=some (a8 i)/\∃m1,m<=m1/\H=cntH (c+(pre (l.take i)).length) m1)
   (fun r=>∃m',m<=m'/\r=some (Rt.val (.bool true),cntH (c+(pre l).length) m')) ?_ ?_ 0 _ _ (Qc _) ?_
  ·rintro i e _ L hi hL ⟨h1,h7,h8,h9,m1,hm1,rfl⟩ ih;have hw:=aL i (by omega);obtain ⟨k,t,cd,a,b,hx⟩:=wQ l[i];have hm:l[i]∈l:=Qd hi;have hs:SizeOf.sizeOf l[i]<SizeOf.sizeOf l:=IK hm;have hp:=Wh hi;have ht:=UF hi;have htl:(pre (l.take (i+1))).length<=(pre l).length:=by
    have:pre l=pre (l.take (i+1))++pre (l.drop (i+1)):=by rw [<- OK,ML]
    rw [this];simp
   rw [hx] at hs hp ht;rw [FX] at hp ht;simp at hs hp;have htl2:=htl;rw [ht] at htl2;simp at htl2;obtain ⟨c',hc'⟩:∃c':Int,c'=c+(pre (l.take i)).length:=⟨_,rfl⟩;rw [<- hc'];have e1:=Aw k t cd a b c' (m1+1) (by omega);obtain ⟨m2,hm2,e2⟩:=Wf n a (c'+1) (m1+1) (by omega) (by omega) (by omega) (by omega) (by omega);obtain ⟨m3,hm3,e3⟩:=Wf n b (c'+1+(pre a).length) m2 (by omega) (by omega) (by omega) (by omega) (by omega);simp only [cntH,cntF,Xa.e] at e1 e2 e3;have hn0:¬(0=m1):=by omega
   have hn1:¬(m1=0):=by omega
   simp only [cntF] at h1;simp [c_236_l0,h1,h7,h8,h9,hi,hw,hx,Xa.e,cntH,hn0,e1,e2,e3];refine ih _ _ ⟨by simp [h1,cntF],by simp [h7],by simp [h8],by simp,m3,by omega,?_⟩;rw [ht,hc'];simp [cntH];omega
  ·rintro e _ L hL ⟨h1,h7,h8,h9,m1,hm1,rfl⟩;rw [i9];refine ⟨m1,hm1,?_⟩;simp [c_236_l0,c_236_k1,h8,h9,hL]
  ·simp [cntF,pre];exact ⟨m,Qb _,rfl⟩
theorem Dv (l:List Xa) (hl:(pre l).length<2^40):a9 Φ D8 [.slice 5 (l.map Xa.c)]=some (.val (a8 (pre l).length)):=by
 rw [aA rfl rfl];obtain ⟨m',hm,e⟩:=Wf _ l 0 1 (Qb _) (Qb _) (by omega) (by omega) hl;simp only [cntH,cntF] at e;simp [KH,e]
end Go.Av
