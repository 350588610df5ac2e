/-
  An abstract interpreter over the model, proved sound: part A.
-/
import Derived.Orders
import Derived.Laws.Append
import Derived.ChangeKeysEq
import Derived.Great.FillDense
import Derived.Laws.BytesArg
set_option linter.unusedVariables false
set_option linter.unusedSimpArgs false
set_option linter.constructorNameAsVariable false
namespace Go.Av
abbrev QA:=@Bool.and_eq_true
abbrev a8:=@if_neg
abbrev a9:=@if_pos
abbrev eM:=@Bool.false_eq_true
abbrev cG:=@Nat.add_mul
abbrev kC:=@List.filterMap_cons_some
abbrev nH:=@Array.getD_eq_getD_getElem?
abbrev fT:=@List.mem_append
abbrev jK:=@Bool.not_eq_true'
abbrev nI:=@List.mem_of_mem_drop
abbrev wI:=@List.mem_cons_of_mem
abbrev jL:=@Nat.le_trans
abbrev lW:=@List.mem_cons
abbrev A1:=@List.contains_eq_mem
abbrev wJ:=@List.mem_flatten
abbrev FI:=@Array.eq_empty_of_size_eq_zero
abbrev A2:=@Option.getD_some
abbrev A3:=@Option.map_some
abbrev A4:=@Bool.or_eq_true
abbrev vZ:=@List.mem_map
abbrev A5:=@List.mem_range
abbrev CT:=@List.isEmpty_nil
abbrev ER:=@Array.append_empty
abbrev A6:=@Nat.add_assoc
abbrev FJ:=@List.filterMap_append
abbrev FK:=@Nat.lt_of_lt_of_le
abbrev FL:=@List.mem_cons_self
abbrev QB:=@List.length_append
abbrev FM:=@Array.ext_getElem?
abbrev PR:=@BitVec.eq_of_getLsbD_eq
abbrev CU:=@Nat.zero_add
abbrev FN:=@List.map_inj_left
abbrev FO:=@List.flatten_cons
abbrev ES:=@List.drop_drop
abbrev PS:=@Bool.beq_eq_decide_eq
abbrev FP:=@List.cons_append
abbrev RQ:=@Option.ite_none_right_eq_some
abbrev PT:=@Nat.eq_or_lt_of_le
abbrev RS:=@List.eq_of_mem_replicate
abbrev PU:=@List.any_eq_true
abbrev PV:=@Bool.not_eq_true
abbrev Qa:=@List.getElem?_eq_getElem
abbrev Qb:=@Nat.le_refl
abbrev Qc:=@Nat.zero_le
abbrev Qd:=@List.getElem_mem
abbrev Qe:=@List.mem_of_getElem?
abbrev Qf:=@List.eq_nil_of_length_eq_zero
abbrev Qg:=@List.drop_eq_getElem_cons
abbrev Qh:=@Nat.mul_le_mul_right
abbrev Qi:=@List.getElem?_eq_none
abbrev Qj:=@List.getElem?_append_left
abbrev Qk:=@List.getElem?_eq_some_iff
abbrev Ql:=@List.mem_iff_getElem
abbrev Qm:=@List.take_of_length_le
abbrev Qn:=@List.getElem?_append_right
abbrev Qo:=@List.all_eq_true
abbrev Qp:=@Option.map_eq_some_iff
abbrev Qq:=@Option.bind_eq_some_iff
abbrev Qr:=@List.mem_of_mem_take
abbrev Qs:=@Nat.lt_or_ge
abbrev Qt:=@Nat.eq_zero_or_pos
inductive AV where
 | bool (b:Bool)
 | int (k:IntKind) (n:Int)
 | str (s:List UInt8)
 | nilptr
 | nilfunc
 | niliface
 | nilmap
 | agg (cs:List AV)
 | tup (vs:List AV)
 | iface (t:TypeId) (v:AV)
 | func (fn:Fn) (first caps:List AV)
 | slice (esz:Nat) (es:List (List AV))
 | Xa (esz:Nat) (es:List (List AV))
 | iptr (esz:Nat) (es:List (List AV)) (i off:Nat)
 | app (esz:Nat) (es:List (List AV)) (tok:Nat)
 | ptr (id esz i off:Nat)
 | row (id esz off len:Nat)
 | map (id:Nat)
 | junk
 deriving Inhabited
inductive AO where
 | row (esz:Nat) (es:List (List AV))
 | tok (esz f:Nat)
 | map (ents:List (AV×AV))
 | res
 deriving Inhabited
structure AH where
 objs:List (Nat×AO)
 next:Nat
 deriving Inhabited
def look {U:Type} (t:Nat):List (Nat×U)->Option U
 | []=>none
 | (u,x)::r=>if u=t then some x else look t r
def setl {U:Type} (t:Nat) (y:U):List (Nat×U)->List (Nat×U)
 | []=>[]
 | (u,x)::r=>if u=t then (u,y)::r else (u,x)::setl t y r
def fI {U:Type} (t:Nat):List (Nat×U)->List (Nat×U)
 | []=>[]
 | (u,x)::r=>if u=t then r else (u,x)::fI t r
def AH.get (H:AH) (id:Nat):Option AO:=look id H.objs
def AH.set (H:AH) (id:Nat) (o:AO):AH:=⟨setl id o H.objs,H.next⟩
def AH.kill (H:AH) (id:Nat):AH:=⟨fI id H.objs,H.next⟩
def AH.new (H:AH) (o:AO):AH:=⟨H.objs++[(H.next,o)],H.next+1⟩
def AH.put (H:AH) (n:Nat) (o:AO):AH:=match H.get n with
 | some .res=>H.set n o
 | _=>H.new o
def AH.cut (H:AH) (m:Nat):AH:=⟨H.objs.filter fun p=> !decide (p.1<m),H.next⟩
def AH.old (H:AH) (m:Nat):AH:=⟨H.objs.filter fun p=>decide (p.1<m),H.next⟩
def mapO {U Z:Type} (f:U->Option Z):List U->Option (List Z)
 | []=>some []
 | a::r=>match f a with
  | none=>none
  | some b=>match mapO f r with
   | none=>none
   | some bs=>some (b::bs)
def snap:Nat->AH->AV->Option AV
 | 0,_,_=>none
 | n+1,H,v=>match v with
  | .agg cs=>(mapO (snap n H) cs).map .agg
  | .tup cs=>(mapO (snap n H) cs).map .tup
  | .iface t v=>(snap n H v).map (.iface t)
  | .func fn a b=>match mapO (snap n H) a with
   | none=>none
   | some a'=>(mapO (snap n H) b).map (.func fn a')
  | .Xa e es=>some (.slice e es)
  | .app e es _=>some (.slice e es)
  | .ptr id esz i off=>match H.get id with
   | some (.row esz' es)=>if esz'=esz then (mapO (mapO (snap n H)) es).map fun es'=> .iptr esz es' i off else none
   | _=>none
  | .row id esz off len=>match H.get id with
   | some (.row esz' es)=>if esz'=esz/\off+len<=es.length then (mapO (mapO (snap n H)) ((es.drop off).take len)).map (.slice esz) else none
   | _=>none
  | .map _=>some .junk
  | v=>some v
def aA:Nat:=40
def anyL {U:Type} (f:U->Bool):List U->Bool
 | []=>false
 | a::r=>f a || anyL f r
def bor:Nat->AV->Bool
 | 0,_=>true
 | n+1,v=>match v with
  | .agg cs=>anyL (bor n) cs
  | .tup cs=>anyL (bor n) cs
  | .iface _ v=>bor n v
  | .func _ a b=>anyL (bor n) a || anyL (bor n) b
  | .ptr .. =>true
  | .row .. =>true
  | .map _=>true
  | _=>false
def flat:Nat->AV->Bool
 | 0,_=>false
 | n+1,v=>match v with
  | .agg cs=> !anyL (fun c=> !flat n c) cs
  | .tup cs=> !anyL (fun c=> !flat n c) cs
  | .bool _ | .int .. | .str _ | .nilptr | .nilfunc | .niliface | .nilmap=>true
  | .iface _ v=>flat n v
  | _=>false
inductive AX where
 | t (n:Nat)
 | c (v:AV)
 deriving Inhabited
inductive Kd where
 | b | i | s | p
 deriving Inhabited,DecidableEq
def fH (t:Nat):List Nat->Bool
 | []=>false
 | u::r=>u == t || fH t r
inductive SM where
 | imm | app | row
 deriving Inhabited,DecidableEq
inductive AOp where
 | mov (x:AX)
 | nilapp (esz:Nat)
 | pick (c a b:AX)
 | alloc (z:List AV)
 | alloca (n:Nat) (z:List AV)
 | sarr (z n:Nat) (x:AX) (lo hi mx:Option AX)
 | sarrF (z n:Nat) (x:AX) (lo hi mx:Option AX)
 | box (x:AX)
 | boxi (x:AX)
 | build (z:List AV) (parts:List (Nat×Nat×AX))
 | bslice (m:SM) (esz:Nat) (z:List (List AV)) (parts:List (Nat×AX))
 | load (agg:Bool) (n:Nat) (x:AX)
 | store (n:Nat) (x v:AX)
 | nilchk (x:AX)
 | bin (op:BinOp) (x y:AX)
 | eqs (neg agg:Bool) (ks:List Kd) (x y:AX)
 | eqn (neg:Bool) (x y:AX)
 | un (op:UnOp) (x:AX)
 | conv (k:IntKind) (x:AX)
 | same (x:AX)
 | b2s (x:AX)
 | mkiface (t:TypeId) (x:AX)
 | mkfunc (fn:Fn) (first caps:List AX)
 | mkslice (m:SM) (esz bytes:Nat) (z:List AV) (len cap:AX)
 | slc (esz:Nat) (x:AX) (lo hi mx:Option AX)
 | slcH (esz:Nat) (x:AX) (lo hi mx:Option AX)
 | sslc (x:AX) (lo hi:Option AX)
 | faddr (off:Nat) (x:AX)
 | fld (agg:Bool) (off n:Nat) (x:AX)
 | iaddr (esz:Nat) (arr:Option Nat) (x i:AX)
 | idxs (x i:AX)
 | idxa (agg:Bool) (len n:Nat) (x i:AX)
 | ext (i:Nat) (x:AX)
 | len (x:AX)
 | slen (x:AX)
 | cap (x:AX)
 | append (m:SM) (esz bytes:Nat) (x y:AX)
 | copy (esz:Nat) (x y:AX)
 | clear (z:List AV) (x:AX)
 | minmax (mx:Bool) (xs:List AX)
 | pcall (f:FuncId) (args:List AX)
 | pcallk (f:FuncId) (args:List AX)
 | pcallr (f:FuncId) (args:List AX)
 | pcallf (f:FuncId) (args:List AX)
 | pcallz (d:Nat) (f:FuncId) (args:List AX)
 | tcall (f:FuncId) (args:List AX)
 | pcallv (f:AX) (args:List AX)
 | tcallv (f:AX) (args:List AX)
 | pinvoke (ms:List (TypeId×FuncId)) (x:AX) (args:List AX)
 | tinvoke (ms:List (TypeId×FuncId)) (x:AX) (args:List AX)
 | mkmap
 | lookup (kd:Kd) (z:AV) (ok:Bool) (x k:AX)
 | update (kd:Kd) (x k v:AX)
 | delete (kd:Kd) (x k:AX)
 | mlen (x:AX)
 | tassert (t:TypeId) (ok:Bool) (z:AV) (x:AX)
 | panic (x:AX)
 deriving Inhabited
structure Xc where
 dst:Option Nat
 guard:Option (Nat×Bool)
 op:AOp
 deriving Inhabited
inductive Xb where
 | skip
 | region (draw:Bool) (pairs:List (Nat×Nat)) (ops:List Xc) (keep:Option (List Nat))
 | seq (a b:Xb)
 | cond (c:AX) (a b:Xb)
 | block (id:Nat) (b:Xb)
 | loop (b:Xb)
 | exit (id:Nat)
 | ret
 deriving Inhabited
inductive ARes where
 | tmp (t:Nat)
 | cell (t:Nat) (agg:Bool) (n:Nat)
 deriving Inhabited
structure AFn where
 nparams:Nat
 results:List ARes
 body:Xb
 deriving Inhabited
abbrev Env:=List (Nat×AV)
def evX (e:Env):AX->Option AV
 | .t n=>look n e
 | .c v=>some v
def eqKd:Kd->AV->AV->Option Bool
 | .b,.bool x,.bool y=>some (x == y)
 | .i,.int k x,.int k' y=>if k=k' then some (x == y) else none
 | .s,.str x,.str y=>some (x == y)
 | .p,.agg [.int k x,.int k' y],.agg [.int j u,.int j' v]=>if k=j/\k'=j' then some ((x == u)&&(y == v)) else none
 | _,_,_=>none
def eqLs:List Kd->List AV->List AV->Option Bool
 | [],[],[]=>some true
 | k::ks,x::xs,y::ys=>match eqKd k x y,eqLs ks xs ys with
  | some a,some b=>some (a&&b)
  | _,_=>none
 | _,_,_=>none
def eqK (agg:Bool) (ks:List Kd) (a b:AV):Option Bool:=
 match agg,ks,a,b with
 | true,ks,.agg xs,.agg ys=>eqLs ks xs ys
 | false,[k],a,b=>eqKd k a b
 | false,[],.niliface,.niliface=>some true
 | false,[],.iface _ _,.niliface=>some false
 | false,[],.nilfunc,.nilfunc=>some true
 | false,[],.func _ _ _,.nilfunc=>some false
 | _,_,_,_=>none
def NX:AV->AV->Option Bool
 | .nilptr,.nilptr=>some true
 | .nilptr,.ptr .. =>some false
 | .ptr ..,.nilptr=>some false
 | .nilptr,.iptr .. =>some false
 | .iptr ..,.nilptr=>some false
 | _,_=>none
def gN (op:BinOp) (a b:AV):Option AV:=
 match op,a,b with
 | .shl,.int k x,.int _ y=>if y<0 then none else some (.int k (k.wrap (x*2^(min y.toNat k.bits))))
 | .shr,.int k x,.int _ y=>if y<0 then none else some (.int k (x.fdiv (2^(min y.toNat k.bits))))
 | op,.int k x,.int k' y=>if k=k' then
   match op with
   | .add=>some (.int k (k.wrap (x+y)))
   | .sub=>some (.int k (k.wrap (x - y)))
   | .mul=>some (.int k (k.wrap (x*y)))
   | .quo=>if y=0 then none else some (.int k (k.wrap (x.tdiv y)))
   | .rem=>if y=0 then none else some (.int k (x.tmod y))
   | .and=>some (.int k (k.wrap (BitVec.ofInt k.bits x&&& BitVec.ofInt k.bits y).toNat))
   | .or=>some (.int k (k.wrap (BitVec.ofInt k.bits x ||| BitVec.ofInt k.bits y).toNat))
   | .xor=>some (.int k (k.wrap (BitVec.ofInt k.bits x^^^BitVec.ofInt k.bits y).toNat))
   | .andNot=>some (.int k (k.wrap (BitVec.ofInt k.bits x&&& ~~~BitVec.ofInt k.bits y).toNat))
   | .eql=>some (.bool (x == y))
   | .neq=>some (.bool (x != y))
   | .lss=>some (.bool (x<y))
   | .leq=>some (.bool (x<=y))
   | .gtr=>some (.bool (x>y))
   | .geq=>some (.bool (x>=y))
   | _=>none
  else none
 | .add,.str x,.str y=>if x.length+y.length<2^63 then some (.str (x++y)) else none
 | .eql,.str x,.str y=>some (.bool (x == y))
 | .neq,.str x,.str y=>some (.bool (!(x == y)))
 | .lss,.str x,.str y=>some (.bool (Op.bytesLess x y))
 | .leq,.str x,.str y=>some (.bool (Op.bytesLess x y || x == y))
 | .gtr,.str x,.str y=>some (.bool (!(Op.bytesLess x y || x == y)))
 | .geq,.str x,.str y=>some (.bool (!Op.bytesLess x y))
 | _,_,_=>none
def unAV (op:UnOp) (a:AV):Option AV:=
 match op,a with
 | .neg,.int k n=>some (.int k (k.wrap (0 - n)))
 | .xor,.int k n=>some (.int k (k.wrap (BitVec.ofInt k.bits (if k.signed then -1 else k.max)^^^BitVec.ofInt k.bits n).toNat))
 | .not,.bool b=>some (.bool !b)
 | _,_=>none
def AV.cells:AV->Option (List AV)
 | .agg cs=>some cs
 | .tup _=>none
 | v=>some [v]
def part (agg:Bool) (off n:Nat) (cs:List AV):Option AV:=
 if agg then (if off+n<=cs.length then some (.agg ((cs.drop off).take n)) else none) else cs[off]?
def F3 (off:Nat) (new cs:List AV):Option (List AV):=
 if off+new.length<=cs.length then some (cs.take off++new++cs.drop (off+new.length)) else none
def E4 (z:List AV):List (Nat×Nat×AV)->Option (List AV)
 | []=>some z
 | (off,n,v)::r=>match v.cells with
  | none=>none
  | some vs=>if vs.length=n then match F3 off vs z with
    | none=>none
    | some z'=>E4 z' r
   else none
def asInt:AV->Option Int
 | .int _ n=>some n
 | _=>none
def idx (v:AV) (len:Nat):Option Nat:=
 match v with
 | .int _ n=>if 0<=n/\n<len then some n.toNat else none
 | _=>none
def bnd (v:AV) (hi:Nat):Option Nat:=
 match v with
 | .int _ n=>if 0<=n/\n<=hi then some n.toNat else none
 | _=>none
def jP (H:AH) (cs:List AV):Option (List AV):=mapO (snap aA H) cs
def gC (H:AH) (v:AV):Option (List (List AV)):=
 match v with
 | .slice _ es=>some es
 | .Xa _ es=>some es
 | .app _ es _=>some es
 | .row id z off len=>match H.get id with
  | some (.row z' es)=>if z'=z/\off+len<=es.length then some ((es.drop off).take len) else none
  | _=>none
 | .str s=>some (s.map fun b=>[AV.int .u8 b.toNat])
 | _=>none
def frz (H:AH) (v:AV) (es:List (List AV)):Option (List (List AV)):=
 match v with
 | .row .. =>if anyL (bor aA) es.flatten then none else mapO (jP H) es
 | _=>some es
def lenOf:AV->Option Nat
 | .slice _ es=>some es.length
 | .Xa _ es=>some es.length
 | .app _ es _=>some es.length
 | .row _ _ _ len=>some len
 | _=>none
def vF (n:Nat) (es:List (List AV)):Bool:= !anyL (fun e=> !(e.length == n)) es
def eszOf:AV->Nat
 | .slice z _ | .Xa z _ | .app z _ _=>z
 | .row _ z _ _=>z
 | _=>1
def kdOk:Kd->AV->Bool
 | .b,.bool _=>true
 | .i,.int _ _=>true
 | .s,.str _=>true
 | .p,.agg [.int _ _,.int _ _]=>true
 | _,_=>false
def R6 (H:AH):AV->Option (List (AV×AV))
 | .nilmap=>some []
 | .map id=>match H.get id with
  | some (.map es)=>some es
  | _=>none
 | _=>none
def gO (kd:Kd) (k:AV):List (AV×AV)->Option (Option AV)
 | []=>if kd= .p/\kdOk kd k=false then none else some none
 | (k',v)::r=>match eqKd kd k k' with
  | none=>none
  | some true=>some (some v)
  | some false=>gO kd k r
def putA (kd:Kd) (k v:AV):List (AV×AV)->Option (List (AV×AV))
 | []=>some [(k,v)]
 | (k',v')::r=>match eqKd kd k k' with
  | none=>none
  | some true=>some ((k,v)::r)
  | some false=>(putA kd k v r).map ((k',v'):: ·)
def delA (kd:Kd) (k:AV):List (AV×AV)->Option (List (AV×AV))
 | []=>some []
 | (k',v')::r=>match eqKd kd k k' with
  | none=>none
  | some true=>some r
  | some false=>(delA kd k r).map ((k',v'):: ·)
def bndM (e:Env) (n:Nat):Option AX->Option (Option Nat)
 | none=>some none
 | some m=>match evX e m with
  | none=>none
  | some v=>(bnd v n).map some
def bndH (e:Env) (n:Nat):Option AX->Option Nat
 | none=>some n
 | some m=>match evX e m with
  | none=>none
  | some v=>bnd v n
def bndL (e:Env) (n:Nat):Option AX->Option Nat
 | none=>some 0
 | some m=>match evX e m with
  | none=>none
  | some v=>bnd v n
def f4 (e:Env) (n:Nat) (lo hi mx:Option AX):Option (Nat×Nat×Option Nat):=
 match bndM e n mx with
 | none=>none
 | some mo=>match bndH e (match mx,mo with | some _,some k=>k | _,_=>n) hi with
  | none=>none
  | some h=>match bndL e h lo with
   | none=>none
   | some l=>some (l,h,mo)
def evOp (e:Env) (nx:Nat) (H:AH):AOp->Option (AV×AH)
 | .mov x=>(evX e x).map (·,H)
 | .same x=>match evX e x with
  | some (.str s)=>some (.str s,H)
  | _=>none
 | .nilapp esz=>some (.app esz [] nx,H.put nx (.tok esz 0))
 | .pick c a b=>match evX e c with
  | some (.bool true)=>(evX e a).map (·,H)
  | some (.bool false)=>(evX e b).map (·,H)
  | _=>none
 | .alloc z=>some (.ptr nx z.length 0 0,H.put nx (.row z.length [z]))
 | .box x=>match evX e x with
  | some v=>match v.cells with
   | some vs=>some (.ptr nx vs.length 0 0,H.put nx (.row vs.length [vs]))
   | none=>none
  | none=>none
 | .boxi x=>match evX e x with
  | some v=>match v.cells with
   | some vs=>match jP H vs with
    | none=>none
    | some vs'=>if anyL (bor aA) vs then none else some (.iptr vs'.length [vs'] 0 0,H)
   | none=>none
  | none=>none
 | .build z parts=>match mapO (fun p=>(evX e p.2.2).map fun v=>(p.1,p.2.1,v)) parts with
  | none=>none
  | some ps=>match E4 z ps with
   | none=>none
   | some cs=>some (.agg cs,H)
 | .bslice m esz z parts=>match mapO (fun p=>match evX e p.2 with
    | some v=>match v.cells with
     | some vs=>if vs.length=esz then some (p.1,vs) else none
     | none=>none
    | none=>none) parts with
  | none=>none
  | some ps=>
   let es:=ps.foldl (fun es p=>es.set p.1 p.2) z
   match m with
   | .row=>some (.row nx esz 0 es.length,H.put nx (.row esz es))
   | .app=>match mapO (jP H) es with
    | none=>none
    | some es'=>if anyL (bor aA) es.flatten then none else some (.app esz es' nx,H.put nx (.tok esz es'.length))
   | .imm=>match mapO (jP H) es with
    | none=>none
    | some es'=>if anyL (bor aA) es.flatten then none else some (.Xa esz es',H)
 | .load agg n x=>match evX e x with
  | some (.ptr id esz i off)=>match H.get id with
   | some (.row esz' es)=>if esz=esz' then match es[i]? with
     | some cs=>(part agg off n cs).map (·,H)
     | none=>none
    else none
   | _=>none
  | some (.iptr _ es i off)=>match es[i]? with
   | some cs=>(part agg off n cs).map (·,H)
   | none=>none
  | _=>none
 | .store n x v=>match evX e x,evX e v with
  | some (.ptr id esz i off),some v=>match v.cells with
   | none=>none
   | some vs=>if vs.length=n then match H.get id with
     | some (.row esz' es)=>if esz=esz' then match es[i]? with
       | some cs=>match F3 off vs cs with
        | some cs'=>some (.tup [],H.set id (.row esz (es.set i cs')))
        | none=>none
       | none=>none
      else none
     | _=>none
    else none
  | _,_=>none
 | .nilchk x=>match evX e x with
  | some (.ptr a b c d)=>some (.ptr a b c d,H)
  | some (.iptr a b c d)=>some (.iptr a b c d,H)
  | some (.func (.func f) a b)=>some (.func (.func f) a b,H)
  | some (.iface t v)=>some (.iface t v,H)
  | _=>none
 | .bin op x y=>match evX e x,evX e y with
  | some a,some b=>(gN op a b).map (·,H)
  | _,_=>none
 | .eqs neg agg ks x y=>match evX e x,evX e y with
  | some a,some b=>match eqK agg ks a b with
   | some r=>some (.bool (if neg then !r else r),H)
   | none=>none
  | _,_=>none
 | .eqn neg x y=>match evX e x,evX e y with
  | some a,some b=>match NX a b with
   | some r=>some (.bool (if neg then !r else r),H)
   | none=>none
  | _,_=>none
 | .un op x=>match evX e x with
  | some a=>(unAV op a).map (·,H)
  | none=>none
 | .conv k x=>match evX e x with
  | some (.int _ n)=>some (.int k (k.wrap n),H)
  | _=>none
 | .b2s x=>match evX e x with
  | some (.str _)=>none
  | some v=>match gC H v with
   | some es=>match mapO (fun c=>match c with | [AV.int .u8 n]=>some (UInt8.ofNat n.toNat) | _=>none) es with
    | some bs=>some (.str bs,H)
    | none=>none
   | none=>none
  | none=>none
 | .mkiface t x=>match evX e x with
  | some v=>some (.iface t v,H)
  | none=>none
 | .mkfunc fn first caps=>match mapO (evX e) first,mapO (evX e) caps with
  | some a,some b=>some (.func fn a b,H)
  | _,_=>none
 | .mkslice m esz bytes z len cap=>match evX e len,evX e cap with
  | some (.int _ l),some (.int _ c)=>
   if 0<=l/\l<=c/\c<2^62/\c*bytes<=2^47 then
    match m with
    | .row=>if l=c then some (.row nx esz 0 l.toNat,H.put nx (.row esz (List.replicate l.toNat z))) else none
    | .app=>match jP H z with
     | some z'=>some (.app esz (List.replicate l.toNat z') nx,H.put nx (.tok esz l.toNat))
     | none=>none
    | .imm=>match jP H z with
     | some z'=>if l=c then some (.Xa esz (List.replicate l.toNat z'),H) else none
     | none=>none
   else none
  | _,_=>none
 | .slc esz x lo hi mx=>match evX e x with
  | none=>none
  | some v=>match lenOf v with
   | none=>none
   | some n=>match f4 e n lo hi mx with
    | none=>none
    | some (l,h,mo)=>match v with
       | .slice z es=>if z=esz then (if mo=some h then some (.Xa z ((es.drop l).take (h - l)),H) else some (.slice z ((es.drop l).take (h - l)),H)) else none
       | .app z es _=>if z=esz then (if mo=some h then some (.Xa z ((es.drop l).take (h - l)),H) else some (.slice z ((es.drop l).take (h - l)),H)) else none
       | .Xa z es=>if z=esz then (if h=n/\mo=none\/mo=some h then some (.Xa z ((es.drop l).take (h - l)),H) else some (.slice z ((es.drop l).take (h - l)),H)) else none
       | .row id z off _=>if z=esz/\mo=none then some (.row id z (off+l) (h - l),H) else none
       | _=>none
 | .slcH esz x lo hi mx=>match evX e x with
  | some (.row id z off _)=>match H.get id with
   | some (.row z' es)=>if z=esz/\z'=esz/\hi.isSome=true then
     match f4 e (es.length - off) lo hi mx with
     | none=>none
     | some (l,h,mo)=>if mo=none\/mo=some (es.length - off) then some (.row id z (off+l) (h - l),H)
      else some (.row H.next z 0 (h - l),⟨H.objs,H.next+1⟩)
    else none
   | _=>none
  | _=>none
 | .alloca n z=>some (.ptr nx z.length 0 0,H.put nx (.row z.length (List.replicate n z)))
 | .sarr z n x lo hi mx=>match evX e x with
  | some (.ptr id z' 0 0)=>match H.get id with
   | some (.row z2 es)=>if z'=z/\z2=z/\es.length=n then match f4 e n lo hi mx with
     | some (l,h,mo)=>if mo.getD n=n then some (.row id z l (h - l),H) else none
     | none=>none
    else none
   | _=>none
  | _=>none
 | .sarrF z n x lo hi mx=>match evX e x with
  | some (.ptr id z' 0 0)=>match H.get id with
   | some (.row z2 es)=>if z'=z/\z2=z/\es.length=n/\anyL (bor aA) es.flatten=false then match f4 e n lo hi mx with
     | some (l,h,_)=>(mapO (mapO (snap aA H)) ((es.drop l).take (h - l))).map fun es'=>(.slice z es',H.kill id)
     | none=>none
    else none
   | _=>none
  | _=>none
 | .faddr off x=>match evX e x with
  | some (.ptr id esz i o)=>some (.ptr id esz i (o+off),H)
  | some (.iptr esz es i o)=>some (.iptr esz es i (o+off),H)
  | _=>none
 | .fld agg off n x=>match evX e x with
  | some (.agg cs)=>(part agg off n cs).map (·,H)
  | _=>none
 | .iaddr esz arr x i=>match evX e x,evX e i with
  | some v,some iv=>match arr with
   | some len=>match idx iv len with
    | none=>none
    | some k=>match v with
     | .ptr id z j o=>some (if z=esz/\o=0 then .ptr id z (j+k) 0 else .ptr id z j (o+k*esz),H)
     | .iptr z es j o=>some (.iptr z es j (o+k*esz),H)
     | _=>none
   | none=>match v with
    | .slice z es=>if z=esz then (idx iv es.length).map fun k=>(.iptr z es k 0,H) else none
    | .Xa z es=>if z=esz then (idx iv es.length).map fun k=>(.iptr z es k 0,H) else none
    | .app z es _=>if z=esz then (idx iv es.length).map fun k=>(.iptr z es k 0,H) else none
    | .row id z off len=>if z=esz then (idx iv len).map fun k=>(.ptr id z (off+k) 0,H) else none
    | _=>none
  | _,_=>none
 | .idxs x i=>match evX e x,evX e i with
  | some (.str s),some iv=>match idx iv s.length with
   | some k=>match s[k]? with
    | some b=>some (.int .u8 b.toNat,H)
    | none=>none
   | none=>none
  | _,_=>none
 | .idxa agg len n x i=>match evX e x,evX e i with
  | some (.agg cs),some iv=>match idx iv len with
   | some k=>(part agg (k*n) n cs).map (·,H)
   | none=>none
  | _,_=>none
 | .ext i x=>match evX e x with
  | some (.tup vs)=>match vs[i]? with
   | some v=>some (v,H)
   | none=>none
  | _=>none
 | .len x=>match evX e x with
  | some v=>match lenOf v with
   | some n=>some (.int .i64 (n:Nat),H)
   | none=>none
  | none=>none
 | .slen x=>match evX e x with
  | some (.str s)=>some (.int .i64 s.length,H)
  | _=>none
 | .sslc x lo hi=>match evX e x with
  | some (.str s)=>
   match f4 e s.length lo hi none with
   | none=>none
   | some (l,h,_)=>some (.str ((s.drop l).take (h - l)),H)
  | _=>none
 | .cap x=>match evX e x with
  | some (.Xa _ es)=>some (.int .i64 es.length,H)
  | _=>none
 | .append m esz bytes x y=>match evX e x,evX e y with
  | some xv,some yv=>match gC H yv with
   | none=>none
   | some ys0=>
    match xv with
    | .row id z off len=>if z=esz then match H.get id with
      | some (.row z' es)=>if z'=esz/\off+len=es.length/\vF esz ys0=true/\(len+ys0.length)*bytes<=2^46 then
        some (.row nx esz 0 (len+ys0.length),(H.kill id).put nx (.row esz (es.drop off++ys0)))
       else if z'=esz/\off+len+ys0.length<=es.length/\vF esz ys0=true then
        some (.row id esz off (len+ys0.length),H.set id (.row esz (es.take (off+len)++ys0++es.drop (off+len+ys0.length))))
       else none
      | _=>none
     else none
    | .app z es t=>if z=esz then match H.get t,frz H yv ys0 with
      | some (.tok z' f),some ys=>if z'=esz/\f=es.length/\vF esz ys=true/\(es.length+ys.length)*bytes<=2^46 then
        some (.app esz (es++ys) t,H.set t (.tok esz (es.length+ys.length)))
       else none
      | _,_=>none
     else none
    | .Xa z es=>match m with
     | .row=>if (z=esz\/es=[])/\ys0≠[]/\vF esz ys0=true/\(es.length+ys0.length)*bytes<=2^46 then
       some (.row nx esz 0 (es.length+ys0.length),H.put nx (.row esz (es++ys0)))
      else if es=[]/\ys0=[] then some (.Xa esz [],H)
      else none
     | _=>match frz H yv ys0 with
      | none=>none
      | some ys=>if (z=esz\/es=[])/\vF esz ys=true/\(es.length+ys.length)*bytes<=2^46 then
        some (.app esz (es++ys) nx,H.put nx (.tok esz (es.length+ys.length)))
       else none
    | _=>none
  | _,_=>none
 | .copy esz x y=>match evX e x,evX e y with
  | some (.row id z off len),some yv=>match gC H yv with
   | none=>none
   | some ys=>if z=esz then match H.get id with
     | some (.row z' es)=>
      if z'=esz/\off+len<=es.length/\vF esz ys=true then
       let k:=min len ys.length
       some (.int .i64 k,H.set id (.row esz (es.take off++ys.take k++es.drop (off+k))))
      else none
     | _=>none
    else none
  | _,_=>none
 | .clear z x=>match evX e x with
  | some (.row id zz off len)=>match H.get id with
   | some (.row z' es)=>if z'=zz/\zz=z.length/\off+len<=es.length then
     some (.tup [],H.set id (.row z' (es.take off++List.replicate len z++es.drop (off+len))))
    else none
   | _=>none
  | some (.slice _ [])=>some (.tup [],H)
  | some (.Xa _ [])=>some (.tup [],H)
  | _=>none
 | .minmax mx xs=>match mapO (evX e) xs with
  | some (v::vs)=>(vs.foldl (fun acc w=>match acc,w with
    | some (.int k a),.int _ b=>some (.int k (if mx then (if b>a then b else a) else (if b<a then b else a)))
    | _,_=>none) (some v)).map (·,H)
  | _=>none
 | .mkmap=>some (.map nx,H.put nx (.map []))
 | .lookup kd z ok x k=>match evX e x,evX e k with
  | some xv,some kv=>match R6 H xv with
   | none=>none
   | some es=>match gO kd kv es with
    | none=>none
    | some r=>some (if ok then .tup [r.getD z,.bool r.isSome] else r.getD z,H)
  | _,_=>none
 | .update kd x k v=>match evX e x,evX e k,evX e v with
  | some (.map id),some kv,some vv=>match H.get id with
   | some (.map es)=>if kdOk kd kv then match putA kd kv vv es with
     | none=>none
     | some es'=>some (.tup [],H.set id (.map es'))
    else none
   | _=>none
  | _,_,_=>none
 | .delete kd x k=>match evX e x,evX e k with
  | some (.map id),some kv=>match H.get id with
   | some (.map es)=>match delA kd kv es with
    | none=>none
    | some es'=>some (.tup [],H.set id (.map es'))
   | _=>none
  | _,_=>none
 | .mlen x=>match evX e x with
  | some .nilmap=>some (.int .i64 0,H)
  | some (.map id)=>match H.get id with
   | some (.map es)=>some (.int .i64 es.length,H)
   | _=>none
  | _=>none
 | .tassert t ok z x=>match evX e x with
  | some (.iface u v)=>if u=t then some (if ok then .tup [v,.bool true] else v,H) else if ok then some (.tup [z,.bool false],H) else none
  | some .niliface=>if ok then some (.tup [z,.bool false],H) else none
  | _=>none
 | _=>none
inductive Rt where
 | val (v:AV)
 | pan (v:AV)
 deriving Inhabited
abbrev aW:=FuncId->List AV->AH->Option (Rt×AH)
def H0:AH:=⟨[],0⟩
def dL (call:aW) (f:FuncId) (args:List AV) (H:AH):Option (Rt×AH):=
 match mapO (snap aA H) args with
 | none=>none
 | some as=>match call f as H0 with
  | some (.val r,H')=>match snap aA H' r with
   | some r'=>if anyL (bor aA) args&& !flat aA r' then none else some (.val r',H)
   | none=>none
  | some (.pan r,H')=>match snap aA H' r with
   | some r'=>if flat aA r' then some (.pan r',H) else none
   | none=>none
  | none=>none
def tgt (v:AV):Option (FuncId×List AV):=
 match v with
 | .func (.func f) [] caps=>some (f,caps)
 | _=>none
def tgt2 (v:AV):Option (FuncId×List AV×List AV):=
 match v with
 | .func (.func f) first caps=>some (f,first,caps)
 | _=>none
def DY:List AV->Option Nat
 | []=>none
 | .row id _ _ _::_=>some id
 | _::r=>DY r
def yZ (H:AH) (id z off len:Nat):Option AV:=match H.get id with
 | some (.row z' es)=>if z'=z/\off+len<=es.length/\anyL (bor aA) es.flatten=false then (mapO (mapO (snap aA H)) ((es.drop off).take len)).map (.slice z) else none
 | _=>none
def w9 (H:AH) (id:Nat) (v:AV):Option AV:=match v with
 | .row i z off len=>if i=id then yZ H i z off len else none
 | v=>if bor aA v then none else snap aA H v
def jQ (call:aW) (f:FuncId) (args:List AV) (nx:Nat) (H:AH):Option (Rt×AH):=
 match mapO (snap aA H) args with
 | none=>none
 | some as=>match call f as H0 with
  | some (.val (.row id z off len),H')=>match H'.get id with
   | some (.row z' es)=>match mapO (mapO (snap aA H')) es with
    | some es'=>if anyL (fun c=> !flat aA c) es'.flatten then none else some (.val (.row nx z off len),H.put nx (.row z' es'))
    | none=>none
   | _=>none
  | some (.val (.Xa z []),_)=>some (.val (.Xa z []),H)
  | _=>none
def lQ (call:aW) (f:FuncId) (args:List AV) (H:AH):Option (Rt×AH):=
 match mapO (snap aA H) args with
 | none=>none
 | some as=>match call f as H0 with
  | some (.val (.row id z off len),H')=>match H'.get id with
   | some (.row z' es)=>if z'=z/\off+len<=es.length then
     match mapO (mapO (snap aA H')) ((es.drop off).take len) with
     | some es'=>if anyL (fun c=> !flat aA c) es'.flatten then none else some (.val (.slice z es'),H)
     | none=>none
    else none
   | _=>none
  | some (.val (.Xa z []),_)=>some (.val (.Xa z []),H)
  | _=>none
def a7 (call:aW) (e:Env) (nx:Nat) (H:AH):AOp->Option (Rt×AH)
 | .pcall f args=>match mapO (evX e) args with
  | some as=>dL call f as H
  | none=>none
 | .pcallk f args=>match mapO (evX e) args with
  | some as=>match DY as with
   | some id=>match mapO (w9 H id) as with
    | some as'=>if anyL (bor aA) as' then none else dL call f as' (H.kill id)
    | none=>none
   | none=>none
  | none=>none
 | .pcallr f args=>match mapO (evX e) args with
  | some as=>jQ call f as nx H
  | none=>none
 | .pcallf f args=>match mapO (evX e) args with
  | some as=>lQ call f as H
  | none=>none
 | .pcallz d f args=>match mapO (evX e) args with
  | some as=>match mapO (snap aA (H.old (nx - d))) as with
   | some as'=>if anyL (bor aA) as' then none else dL call f as' (H.cut (nx - d))
   | none=>none
  | none=>none
 | .tcall f args=>match mapO (evX e) args with
  | some as=>call f as H
  | none=>none
 | .pcallv f args=>match evX e f,mapO (evX e) args with
  | some fv,some as=>match tgt2 fv with
   | some (f,first,caps)=>dL call f (first++as++caps) H
   | none=>none
  | _,_=>none
 | .tcallv f args=>match evX e f,mapO (evX e) args with
  | some fv,some as=>match tgt2 fv with
   | some (f,first,caps)=>call f (first++as++caps) H
   | none=>none
  | _,_=>none
 | .pinvoke ms x args=>match evX e x,mapO (evX e) args with
  | some (.iface t v),some as=>match look t ms with
   | some f=>dL call f (v::as) H
   | none=>none
  | _,_=>none
 | .tinvoke ms x args=>match evX e x,mapO (evX e) args with
  | some (.iface t v),some as=>match look t ms with
   | some f=>call f (v::as) H
   | none=>none
  | _,_=>none
 | .panic x=>match evX e x with
  | some (.iface t v)=>some (.pan (.iface t v),H)
  | _=>none
 | op=>match evOp e nx H op with
  | some (v,H')=>some (.val v,H')
  | none=>none
def dT (e:Env):Option (Nat×Bool)->Option Bool
 | none=>some true
 | some (t,want)=>match look t e with
  | some (.bool b)=>some (b == want)
  | some (.tup [])=>some false
  | _=>none
def putE (e:Env) (d:Option Nat) (v:AV):Env:=
 match d with
 | none=>e
 | some t=>(t,v)::e
inductive Ex where
 | normal
 | exit (id:Nat)
 | ret
 | pan (v:AV)
 deriving Inhabited
structure St where
 e:Env
 h:AH
 deriving Inhabited
def bN (base:Option Nat) (dst:Option Nat) (H:AH):Nat:=
 match base,dst with
 | some n,some d=>match H.get (n+d) with
  | some .res=>n+d
  | _=>H.next
 | _,_=>H.next
def b7 (call:aW) (base:Option Nat):List Xc->St->Option (Ex×St)
 | [],s=>some (.normal,s)
 | o::r,s=>match dT s.e o.guard with
  | none=>none
  | some false=>b7 call base r ⟨putE s.e o.dst (.tup []),s.h⟩
  | some true=>match a7 call s.e (bN base o.dst s.h) s.h o.op with
   | none=>none
   | some (.val v,h)=>b7 call base r ⟨putE s.e o.dst v,h⟩
   | some (.pan v,h)=>some (.pan v,⟨s.e,h⟩)
def FD:List Nat->Bool
 | []=>true
 | a::r=> !fH a r&&FD r
def maxN:List Nat->Nat
 | []=>0
 | a::r=>max a (maxN r)
def AH.resv (H:AH) (ds:List Nat):AH:=⟨H.objs++ds.map fun d=>(H.next+d,.res),H.next+maxN ds+1⟩
def mJ:List (Nat×AO)->List (Nat×AO)
 | []=>[]
 | (_,.res)::r=>mJ r
 | p::r=>p::mJ r
def AH.sweep (H:AH):AH:=⟨mJ H.objs,H.next⟩
def eqL {U:Type} (f:U->U->Bool):List U->List U->Bool
 | [],[]=>true
 | a::r,b::s=>f a b&&eqL f r s
 | _,_=>false
def avEq:Nat->AV->AV->Bool
 | 0,_,_=>false
 | n+1,a,b=>match a,b with
  | .bool x,.bool y=>x == y
  | .int k x,.int k' y=>decide (k=k')&&decide (x=y)
  | .str s,.str t=>decide (s=t)
  | .nilptr,.nilptr=>true
  | .nilfunc,.nilfunc=>true
  | .niliface,.niliface=>true
  | .nilmap,.nilmap=>true
  | .agg cs,.agg ds=>eqL (avEq n) cs ds
  | .tup cs,.tup ds=>eqL (avEq n) cs ds
  | .iface t v,.iface t' v'=>t == t'&&avEq n v v'
  | .func (.func f) a b,.func (.func f') a' b'=>f == f'&&eqL (avEq n) a a'&&eqL (avEq n) b b'
  | .slice z es,.slice z' es'=>z == z'&&eqL (eqL (avEq n)) es es'
  | .Xa z es,.Xa z' es'=>z == z'&&eqL (eqL (avEq n)) es es'
  | .iptr z es i o,.iptr z' es' i' o'=>z == z'&&i == i'&&o == o'&&eqL (eqL (avEq n)) es es'
  | .app z es t,.app z' es' t'=>z == z'&&t == t'&&eqL (eqL (avEq n)) es es'
  | .ptr a b c d,.ptr a' b' c' d'=>a == a'&&b == b'&&c == c'&&d == d'
  | .row a b c d,.row a' b' c' d'=>a == a'&&b == b'&&c == c'&&d == d'
  | .map a,.map a'=>a == a'
  | _,_=>false
def aoEq:Option AO->Option AO->Bool
 | some (.row z es),some (.row z' es')=>z == z'&&eqL (eqL (avEq aA)) es es'
 | some (.tok z f),some (.tok z' f')=>z == z'&&f == f'
 | some (.map es),some (.map es')=>eqL (fun p q=>avEq aA p.1 q.1&&avEq aA p.2 q.2) es es'
 | some .res,some .res=>true
 | none,none=>true
 | _,_=>false
inductive Wr where
 | no
 | set (id:Nat)
 | mv (i n:Nat)
 | chg (h h':AH)
 | cut (m:Nat)
 | any
 deriving Inhabited
abbrev Foot:=Option (List Nat)×Wr
def E2:AV->Bool
 | .row .. =>true
 | _=>false
def z5 (vs:Option (List AV)):Foot:=
 match vs with
 | none=>(none,.no)
 | some vs=>if anyL (bor aA) vs then (none,.no) else (some [],.no)
def CD (n:Nat) (H:AH):Foot:=match H.get n with
 | some .res=>if n=H.next then (none,.any) else (some [n],.set n)
 | _=>(none,.any)
def V3 (H:AH) (n id z off len esz bytes:Nat):Option (List (List AV))->Foot
 | none=>(none,.any)
 | some ys=>match H.get id with
  | some (.row z' es)=>if z'=esz/\off+len=es.length/\vF esz ys=true/\(len+ys.length)*bytes<=2^46 then
    match H.get n with
    | some .res=>if n=H.next then (none,.any) else (some [id,n],.mv id n)
    | _=>(none,.any)
   else (some [id],.set id)
  | _=>(none,.any)
def NN:SM->Option (List (List AV))->Bool
 | .row,some []=>true
 | _,_=>false
def VJ (H:AH) (n:Nat):Option (List AV)->Foot
 | none=>(none,.any)
 | some as=>match DY as with
  | none=>(none,.any)
  | some id=>match H.get n with
   | some .res=>if n=H.next then (none,.any) else (some [id,n],.mv id n)
   | _=>(none,.any)
def footZ (d n:Nat) (H:AH):Foot:=match H.get n with
 | some .res=>if n=H.next then (none,.any) else (some [n],.cut (n - d))
 | _=>(none,.any)
def P' (n:Nat) (H:AH):Option (List AV)->Foot
 | none=>(none,.any)
 | some as=>if anyL (bor aA) as then (none,.any) else CD n H
def foot (e:Env) (n:Nat) (H:AH):AOp->Foot
 | .pcallr _ xs=>P' n H (mapO (evX e) xs)
 | .pcallk _ xs=>VJ H n (mapO (evX e) xs)
 | .pcallz d _ _=>footZ d n H
 | .load _ _ x=>match evX e x with
  | some (.ptr id _ _ _)=>(some [id],.no)
  | _=>(some [],.no)
 | .pcall _ xs=>z5 (mapO (evX e) xs)
 | .pcallf _ xs=>z5 (mapO (evX e) xs)
 | .pcallv f xs=>z5 (match evX e f,mapO (evX e) xs with
  | some fv,some vs=>match tgt2 fv with
   | some (_,first,caps)=>some (first++vs++caps)
   | none=>none
  | _,_=>none)
 | .bslice .imm _ _ _=>(some [],.no)
 | .mkslice .imm _ _ z _ _=>if anyL (bor aA) z then (none,.any) else (some [],.no)
 | .bslice .row _ _ _ | .bslice .app _ _ _ | .mkslice .row _ _ _ _ _=>CD n H
 | .b2s x=>match evX e x with
  | some (.row id _ _ _)=>(some [id],.no)
  | some _=>(some [],.no)
  | none=>(none,.no)
 | .lookup .. | .mlen _=>(none,.no)
 | .store _ x _=>match evX e x with
  | some (.ptr id _ _ _)=>(some [id],.set id)
  | _=>(none,.any)
 | .alloc _ | .alloca .. | .box _ | .nilapp _ | .mkmap=>CD n H
 | .sarr _ _ x _ _ _=>match evX e x with
  | some (.ptr id _ _ _)=>(some [id],.no)
  | _=>(some [],.no)
 | .append m esz bytes x y=>match evX e x,evX e y with
  | some (.app _ _ t),some yv=>if E2 yv then (none,.any) else (some [t],.set t)
  | some (.Xa _ _),some yv=>if E2 yv then (none,.any) else if NN m (gC H yv) then (none,.any) else CD n H
  | some (.row id z off len),some yv=>if E2 yv then (none,.any) else V3 H n id z off len esz bytes (gC H yv)
  | _,_=>(none,.any)
 | .mov _ | .boxi _ | .pick .. | .build .. | .nilchk _ | .bin .. | .eqs .. | .eqn .. | .un .. | .conv .. | .same _ | .mkiface .. | .mkfunc .. | .slc .. | .sslc .. | .faddr .. | .fld .. | .iaddr .. | .idxs .. | .idxa .. | .ext .. | .len _ | .slen _ | .cap _ | .minmax .. | .tassert .. =>(some [],.no)
 | _=>(none,.any)
def mZ (base:Option Nat) (s:St) (o:Xc):Foot:=
 match dT s.e o.guard with
 | some true=>foot s.e (bN base o.dst s.h) s.h o.op
 | _=>(some [],.no)
def Wr.off:Wr->Option (List Nat)->Bool
 | .no,_=>true
 | .set i,some l=> !fH i l
 | .mv i n,some l=> !fH i l&& !fH n l
 | .chg h h',some l=>l.all fun i=>aoEq (h.get i) (h'.get i)
 | .cut m,some l=>l.all fun i=>decide (m<=i)
 | _,_=>false
def Wr.isNo:Wr->Bool
 | .no=>true
 | _=>false
def Wr.above (m:Nat):Wr->Bool
 | .no=>true
 | .set i=>decide (m<=i)
 | _=>false
def Foot.compat (x y:Foot):Bool:=
 match x,y with
 | (some [],.no),_=>true
 | _,(some [],.no)=>true
 | (_,.mv ..),(_,.mv ..)=>false
 | (_,.chg a b),(q,u)=>u.isNo&&(Wr.chg a b).off q
 | (r,v),(_,.chg a b)=>v.isNo&&(Wr.chg a b).off r
 | (r,.cut m),(q,u)=>u.above m&&u.off r&&(Wr.cut m).off q
 | (r,v),(q,.cut m)=>v.above m&&v.off q&&(Wr.cut m).off r
 | (r,v),(q,u)=>v.off q&&u.off r
def n6 (f:Foot) (h h':AH):Foot:=match f with
 | (none,.any)=>(none,.chg h h')
 | f=>f
def feet (call:aW) (base:Option Nat):List Xc->St->List Foot
 | [],_=>[]
 | o::r,s=>match b7 call base [o] s with
  | some (_,s')=>n6 (mZ base s o) s.h s'.h::feet call base r s'
  | none=>[mZ base s o]
def NS (pairs:List (Nat×Nat)) (fs:List Foot):Bool:=
 pairs.all fun p=>match fs[p.1]?,fs[p.2]? with
  | some x,some y=>x.compat y
  | _,_=>false
def R7 (H:AH) (id z i off:Nat):Option AV:=match H.get id with
 | some (.row z' es)=>if z'=z/\anyL (bor aA) es.flatten=false then (mapO (mapO (snap aA H)) es).map (.iptr z · i off) else none
 | _=>none
def frzP (t:Nat) (s:St):St:=match look t s.e with
 | some (.ptr id z i off)=>match R7 s.h id z i off with
  | some y=>⟨(t,y)::s.e,s.h.kill id⟩
  | none=>s
 | some (.row id z off len)=>match yZ s.h id z off len with
  | some y=>⟨(t,y)::s.e,s.h.kill id⟩
  | none=>s
 | _=>s
def E3:List Nat->St->St
 | [],s=>s
 | t::ts,s=>E3 ts (frzP t s)
def kept (keep:Option (List Nat)) (s:St):St:=
 match keep with
 | none=>s
 | some ks=>E3 ks s
def AOp.makes:AOp->Bool
 | .alloc _ | .alloca .. | .box _ | .nilapp _ | .mkmap | .bslice .row _ _ _ | .bslice .app _ _ _ | .mkslice .row _ _ _ _ _ | .append .. | .pcallk .. | .pcallr .. | .pcallz .. =>true
 | _=>false
def FB:List Xc->List Nat
 | []=>[]
 | o::r=>match o.dst with
  | some d=>if o.op.makes then d::FB r else FB r
  | none=>FB r
def mY (body:St->Option (Ex×St)):Nat->St->Option (Ex×St)
 | 0,_=>none
 | n+1,s=>match body s with
  | some (.normal,s')=>mY body n s'
  | r=>r
def evC (call:aW) (n:Nat):Xb->St->Option (Ex×St)
 | .skip,s=>some (.normal,s)
 | .region draw pairs ops keep,s=>
  if pairs.isEmpty then match b7 call none ops s with
   | some (.normal,s')=>some (.normal,kept keep s')
   | r=>if draw then none else r
  else
   let ds:=FB ops
   let s0:St:=⟨s.e,s.h.resv ds⟩
   if FD ds&&NS pairs (feet call (some s.h.next) ops s0) then match b7 call (some s.h.next) ops s0 with
    | some (.normal,s')=>some (.normal,kept keep ⟨s'.e,s'.h.sweep⟩)
    | _=>none
   else none
 | .seq a b,s=>match evC call n a s with
  | some (.normal,s')=>evC call n b s'
  | r=>r
 | .cond c a b,s=>match evX s.e c with
  | some (.bool true)=>evC call n a s
  | some (.bool false)=>evC call n b s
  | _=>none
 | .block id b,s=>match evC call n b s with
  | some (.exit i,s')=>if i=id then some (.normal,s') else some (.exit i,s')
  | r=>r
 | .loop b,s=>mY (evC call n b) n s
 | .exit id,s=>some (.exit id,s)
 | .ret,s=>some (.ret,s)
def wB (s:St):ARes->Option AV
 | .tmp t=>look t s.e
 | .cell t agg n=>match look t s.e with
  | some (.ptr id esz i off)=>match s.h.get id with
   | some (.row esz' es)=>if esz=esz' then match es[i]? with
     | some cs=>part agg off n cs
     | none=>none
    else none
   | _=>none
  | _=>none
def cH:Nat->List AV->Env
 | _,[]=>[]
 | n,v::r=>(n,v)::cH (n+1) r
inductive RProg where
 | ret (o:Option (Rt×AH))
 | call (f:FuncId) (as:List AV) (H:AH) (k:Rt->AH->RProg)
def evR (call:aW):RProg->Option (Rt×AH)
 | .ret o=>o
 | .call f as H k=>match call f as H with
  | some (r,H')=>evR call (k r H')
  | none=>none
inductive DCode where
 | seq (a:Xb) (k:DCode)
 | dfr (ops:List Xc) (t:Nat) (body:Xb)
 deriving Inhabited
structure ADFn where
 nparams:Nat
 results:List ARes
 code:DCode
 clo:FuncId
 ncaps:Nat
 rcv:Option (Nat×Nat)
 cbody:Xb
 deriving Inhabited
def recE:Option (Nat×Nat)->AV->Env->Env
 | none,_,e=>e
 | some (a,b),v,e=>(b,v)::(a,v)::e
def vK (call:aW) (n:Nat) (d:ADFn) (v:AV) (caps:List AV) (h:AH):Option AH:=
 match evC call n d.cbody ⟨recE d.rcv v (cH 0 caps),h⟩ with
 | some (.normal,s)=>some s.h
 | some (.ret,s)=>some s.h
 | _=>none
def NR (call:aW) (n:Nat) (d:ADFn) (caps:List AV):Option (Ex×St)->Option (Ex×St)
 | some (.normal,s) | some (.ret,s)=>(vK call n d .niliface caps s.h).map fun h=>(.ret,⟨s.e,h⟩)
 | some (.pan v,s)=>if d.rcv.isSome then (vK call n d v caps s.h).map fun h=>(.ret,⟨s.e,h⟩) else none
 | _=>none
def evD (call:aW) (n:Nat) (d:ADFn):DCode->St->Option (Ex×St)
 | .seq a k,s=>match evC call n a s with
  | some (.normal,s')=>evD call n d k s'
  | r=>r
 | .dfr ops t body,s=>match b7 call none ops s with
  | some (.normal,s1)=>match (look t s1.e).bind tgt with
   | some (f,caps)=>if f=d.clo/\caps.length=d.ncaps then NR call n d caps (evC call n body s1) else none
   | none=>none
  | r=>r
inductive RgCode where
 | seqL (x:RgCode) (b:Xb)
 | seqR (a:Xb) (x:RgCode)
 | rng (id:Nat) (g:AX) (it:FuncId) (itn:AFn) (Y:List Nat) (ps:List Nat) (asg body:Xb)
 deriving Inhabited
structure ARFn where
 nparams:Nat
 results:List ARes
 code:RgCode
 deriving Inhabited
def YID:Nat:=1000000000
def YV:AV:= .func (.func YID) [] []
def CQ:List Nat->List AV->Env->Env
 | p::ps,a::as,e=>CQ ps as ((p,a)::e)
 | _,_,e=>e
def tok0 (H:AH) (pid:Nat):Bool:=match H.get pid with
 | some (.tok 1 0)=>true
 | _=>false
def hB (call:aW) (n pid id:Nat) (e0:Env) (ps:List Nat) (asg body:Xb):aW:=fun f args H=>
 if f=YID then
  if tok0 H pid&&args.length == ps.length then match evC call n asg ⟨CQ ps args e0,H⟩ with
   | some (.normal,s1)=>match evC call n body s1 with
    | some (.normal,s2)=>some (.val (.bool true),s2.h)
    | some (.exit i,s2)=>if i == id&&tok0 s2.h pid then some (.val (.bool false),s2.h.kill pid) else none
    | _=>none
   | _=>none
  else none
 else call f args H
def rgEnd (e0:Env) (pid:Nat):Option (Ex×St)->Option (Ex×St)
 | some (.normal,s) | some (.ret,s)=>some (.normal,⟨e0,s.h.kill pid⟩)
 | _=>none
def FC (call:aW) (n id:Nat) (g:AX) (it:FuncId) (itn:AFn) (Y ps:List Nat) (asg body:Xb) (s:St):Option (Ex×St):=
 match evX s.e g with
 | some (.func (.func f) a b)=>
  if f=it/\(a++YV::b).length=itn.nparams/\((Y.all fun t=>t == a.length || decide (itn.nparams<=t))&&Y.contains a.length)=true then
   rgEnd s.e s.h.next (evC (hB call n s.h.next id s.e ps asg body) n itn.body ⟨cH 0 (a++YV::b),s.h.new (.tok 1 0)⟩)
  else none
 | _=>none
def evRg (call:aW) (n:Nat):RgCode->St->Option (Ex×St)
 | .seqL x b,s=>match evRg call n x s with
  | some (.normal,s')=>evC call n b s'
  | r=>r
 | .seqR a x,s=>match evC call n a s with
  | some (.normal,s')=>evRg call n x s'
  | r=>r
 | .rng id g it itn Y ps asg body,s=>FC call n id g it itn Y ps asg body s
inductive AFun where
 | code (fn:AFn)
 | dfr (d:ADFn)
 | rng (r:ARFn)
 | rule (g:List AV->AH->RProg)
 deriving Inhabited
def zC:Option (Ex×St)->List ARes->Option (Rt×AH)
 | some (.pan v,s),_=>some (.pan v,s.h)
 | some (.exit _,_),_=>none
 | some (_,s),rs=>match mapO (wB s) rs with
  | none=>none
  | some [v]=>some (.val v,s.h)
  | some vs=>some (.val (.tup vs),s.h)
 | none,_=>none
def evF (Φ:FuncId->Option AFun):Nat->aW
 | 0,_,_,_=>none
 | n+1,f,args,H=>match Φ f with
  | none=>none
  | some (.rule g)=>evR (evF Φ n) (g args H)
  | some (.rng r)=>if args.length=r.nparams then zC (evRg (evF Φ n) n r.code ⟨cH 0 args,H⟩) r.results else none
  | some (.dfr d)=>if args.length=d.nparams then zC (evD (evF Φ n) n d d.code ⟨cH 0 args,H⟩) d.results else none
  | some (.code fn)=>
   if args.length=fn.nparams then zC (evC (evF Φ n) n fn.body ⟨cH 0 args,H⟩) fn.results
   else none
end Go.Av
namespace Go.Av
structure Ann where
 pure:FuncId->FuncId->Option Tmp->Bool
 purev:FuncId->Option Tmp->Bool
 bmode:FuncId->Option Tmp->SM
 smode:FuncId->Option Tmp->SM
 amode:FuncId->Option Tmp->SM
 nilapp:FuncId->Option Tmp->Bool
 boxi:FuncId->Option Tmp->Bool
 slch:FuncId->Option Tmp->Bool
 keep:FuncId->Nat->Option (List Tmp)
 split:FuncId->Nat->Bool
def szOf (P:Program) (t:TypeId):Option Nat:=(P.info? t).map (·.size)
def bY (P:Program) (t:TypeId):Option Bool:=
 match P.underlying t with
 | some (.struct _)=>some true
 | some (.array _ _)=>some true
 | some _=>some false
 | none=>none
def n7 (P:Program):Nat->TypeId->Option (List AV)
 | 0,_=>none
 | n+1,t=>match P.underlying t with
  | some .bool=>some [.bool false]
  | some (.int k)=>some [.int k 0]
  | some .string=>some [.str []]
  | some (.pointer _)=>some [.nilptr]
  | some (.slice e)=>(szOf P e).map fun z=>[.Xa z []]
  | some (.map _ _)=>some [.nilmap]
  | some (.func _ _ _)=>some [.nilfunc]
  | some (.interface _)=>some [.niliface]
  | some (.struct fs)=>(mapO (fun f=>n7 P n f.type) fs.toList).map List.flatten
  | some (.array k e)=>(n7 P n e).map fun z=>(List.replicate k z).flatten
  | _=>none
def NP:AV->Value->Bool
 | .bool a,.bool b=>a == b
 | .int k a,.int k' b=>decide (k=k')&&a == b
 | .str [],.string s=>s.size == 0
 | .nilptr,.pointer none=>true
 | .Xa _ [],.slice none 0 0=>true
 | .nilmap,.map none=>true
 | .nilfunc,.nilFunc=>true
 | .niliface,.nilIface=>true
 | _,_=>false
def mX:List AV->List Value->Bool
 | [],[]=>true
 | a::r,v::s=>NP a v&&mX r s
 | _,_=>false
def eP (P:Program) (t:TypeId):Option (List AV):=
 match n7 P 20 t,(P.info? t).bind (·.zero) with
 | some z,some v=>if mX z v.cells.toList then some z else none
 | _,_=>none
def Ao:Bool->Option Value->Bool
 | true,some (.agg _)=>true
 | false,some (.agg _)=>false
 | false,some (.tuple _)=>false
 | false,some _=>true
 | _,_=>false
def E5 (P:Program) (t:TypeId):Option AV:=
 match bY P t,eP P t with
 | some true,some z=>if Ao true ((P.info? t).bind (·.zero)) then some (.agg z) else none
 | some false,some [z]=>if Ao false ((P.info? t).bind (·.zero)) then some z else none
 | _,_=>none
def cVal (P:Program) (t:TypeId):Value->Option AV
 | .bool b=>some (.bool b)
 | .int k n=>some (.int k n)
 | .string s=>some (.str s.data.toList)
 | .pointer none=>some .nilptr
 | .slice none 0 0=>match P.underlying t with
  | some (.slice e)=>(szOf P e).map fun z=> .Xa z []
  | _=>none
 | .map none=>some .nilmap
 | .nilFunc=>some .nilfunc
 | .nilIface=>some .niliface
 | .agg cs=>match eP P t with
  | some z=>if mX z cs.toList then some (.agg z) else none
  | none=>none
 | .tuple _ | .float .. | .complex .. | .pointer (some _) | .slice .. | .map _ | .chan _ | .func .. | .iface .. =>none
def cX (P:Program) (t:TypeId):Operand->Option AX
 | .tmp n=>some (.t n)
 | .const v=>(cVal P t v).map .c
 | .func f=>some (.c (.func (.func f) [] []))
 | .global _=>none
def z6 (P:Program) (g:TypeId->Option (List Kd)):List Field->Nat->Option (List Kd)
 | [],_=>some []
 | f::r,off=>
  if f.name ≠ "_" ∧ f.offset = off then
   match g f.type with
   | none=>none
   | some k=>if szOf P f.type=some k.length then (z6 P g r (off+k.length)).map (k++ ·) else none
  else none
def f6 (P:Program):Nat->TypeId->Option (List Kd)
 | 0,_=>none
 | n+1,t=>match P.underlying t with
  | some .bool=>some [.b]
  | some (.int _)=>some [.i]
  | some .string=>some [.s]
  | some (.struct fs)=>if P.stoodInHeld t then none else z6 P (f6 P n) fs.toList 0
  | some (.array k e)=>match f6 P n e with
   | none=>none
   | some l=>if szOf P e=some l.length then some (List.replicate k l).flatten else none
  | _=>none
def wC (P:Program) (t:TypeId):Option Kd:=
 match P.underlying t with
 | some .bool=>some .b
 | some (.int _)=>some .i
 | some .string=>some .s
 | some (.struct fs)=>match fs.toList with
  | [f0,f1]=>match P.underlying f0.type,P.underlying f1.type with
   | some (.int _),some (.int _)=>if f0.offset=0/\f1.offset=1/\szOf P f0.type=some 1/\szOf P f1.type=some 1/\f6 P 20 t=some [.i,.i] then some .p else none
   | _,_=>none
  | _=>none
 | _=>none
def cXs (P:Program):List TypeId->List Operand->Option (List AX)
 | _,[]=>some []
 | [],_::_=>none
 | t::ts,x::xs=>match cX P t x,cXs P ts xs with
  | some a,some r=>some (a::r)
  | _,_=>none
def oX (P:Program) (t:TypeId):Option Operand->Option (Option AX)
 | none=>some none
 | some x=>(cX P t x).map some
def CJ (P:Program) (t:TypeId) (i:Nat):Option Field:=
 match P.underlying t with
 | some (.struct fs)=>fs[i]?
 | _=>none
def CH (P:Program) (t:TypeId):Option TypeId:=
 match P.underlying t with
 | some (.slice e)=>some e
 | _=>none
def intT (P:Program) (t:TypeId):Bool:=
 match P.underlying t with
 | some (.int _)=>true
 | _=>false
def strT (P:Program) (t:TypeId):Bool:=
 match P.underlying t with
 | some .string=>true
 | _=>false
def Ak:TypeDesc->Bool
 | .pointer _=>false
 | _=>true
def RK (P:Program) (nm:String) (t:TypeId):Option FuncId:=
 match P.info? t with
 | none=>none
 | some i=>match i.methods.find? (·.name == nm),P.underlying t with
  | some m,some d=>match m.func with
   | some (f,false)=>if m.path.isEmpty&&Ak d&&(P.funcs[f]?).any (·.body.isSome) then some f else none
   | _=>none
  | _,_=>none
def mthL (P:Program) (nm:String):List Nat->List (TypeId×FuncId)
 | []=>[]
 | t::r=>match RK P nm t with
  | some f=>(t,f)::mthL P nm r
  | none=>mthL P nm r
def zA (P:Program) (A:Ann) (fn:FuncId) (o:Oper) (c:Call):Option AOp:=
 match c.callee with
 | .invoke (.tmp t) nm=>
  match cXs P c.argTypes.toList c.args.toList with
  | some as=>some (if A.purev fn o.dst then .pinvoke (mthL P nm (List.range P.types.size)) (.t t) as else .tinvoke (mthL P nm (List.range P.types.size)) (.t t) as)
  | none=>none
 | .value (.func f)=>
  match cXs P c.argTypes.toList c.args.toList with
  | some as=>if (P.funcs[f]?).any (·.body.isSome) then some (if A.pure fn f o.dst then (if A.slch fn o.dst then (if A.nilapp fn o.dst then .pcallf f as else if A.boxi fn o.dst then .pcallz (o.dst.getD 0) f as else .pcallk f as) else if A.nilapp fn o.dst then .pcallr f as else .pcall f as) else .tcall f as) else none
  | none=>none
 | .value (.tmp t)=>
  match cXs P c.argTypes.toList c.args.toList with
  | some as=>some (if A.purev fn o.dst then .pcallv (.t t) as else .tcallv (.t t) as)
  | none=>none
 | .builtin .len=>match c.argTypes.toList,c.args.toList with
  | [t],[x]=>match P.underlying t,cX P t x with
   | some (.slice _),some a=>some (.len a)
   | some .string,some a=>some (.slen a)
   | some (.map _ _),some a=>some (.mlen a)
   | some (.array n _),_=>some (.mov (.c (.int .i64 n)))
   | _,_=>none
  | _,_=>none
 | .builtin .cap=>match c.argTypes.toList,c.args.toList with
  | [t],[x]=>match P.underlying t,cX P t x with
   | some (.slice _),some a=>some (.cap a)
   | _,_=>none
  | _,_=>none
 | .builtin .append=>match c.argTypes.toList,c.args.toList with
  | [t,u],[x,y]=>match CH P t,cX P t x,cX P u y with
   | some e,some a,some b=>match szOf P e with
    | some z=>if intT P u || z == 0 || P.bytesOf e == 0 || (P.underlying u).isNone || !decide ((eP P e).map List.length=some z) then none else some (.append (A.amode fn o.dst) z (P.bytesOf e) a b)
    | none=>none
   | _,_,_=>none
  | _,_=>none
 | .builtin .copy=>match c.argTypes.toList,c.args.toList with
  | [t,u],[x,y]=>match CH P t,cX P t x,cX P u y with
   | some e,some a,some b=>match szOf P e with
    | some z=>if z == 0 then none else some (.copy z a b)
    | none=>none
   | _,_,_=>none
  | _,_=>none
 | .builtin .clear=>match c.argTypes.toList,c.args.toList with
  | [t],[x]=>match CH P t,cX P t x with
   | some e,some a=>(eP P e).map fun z=> .clear z a
   | _,_=>none
  | _,_=>none
 | .builtin .min=>(cXs P c.argTypes.toList c.args.toList).map (.minmax false)
 | .builtin .max=>(cXs P c.argTypes.toList c.args.toList).map (.minmax true)
 | _=>none
def cOp (P:Program) (A:Ann) (fn:FuncId) (o:Oper):Option AOp:=
 match o.op with
 | .move x=>(cX P o.type x).map .mov
 | .assign x=>match x with
  | .const (.slice none 0 0)=>if A.nilapp fn o.dst then (match CH P o.type with
    | some e=>(szOf P e).map .nilapp
    | none=>none) else (cX P o.type x).map .mov
  | x=>(cX P o.type x).map .mov
 | .pick c a b=>match cX P o.type c,cX P o.type a,cX P o.type b with
  | some c,some a,some b=>some (.pick c a b)
  | _,_,_=>none
 | .alloc t=>if A.nilapp fn o.dst then (match P.underlying t,eP P t with
   | some (.array n e),some z=>(n7 P 19 e).bind fun c=>if z.length=n*c.length/\c.length≠0 then some (.alloca n c) else none
   | _,_=>none) else (eP P t).map .alloc
 | .box t x=>(cX P t x).map fun a=>if A.boxi fn o.dst then .boxi a else .box a
 | .build t parts=>match P.underlying t,eP P t with
  | some (.struct fs),some z=>(mapO (fun p=>match fs[p.1]? with
    | some f=>match szOf P f.type,cX P f.type p.2 with
     | some n,some a=>some (f.offset,n,a)
     | _,_=>none
    | none=>none) parts.toList).map (.build z)
  | some (.array _ e),some z=>match szOf P e with
   | some n=>(mapO (fun p=>(cX P e p.2).map fun a=>(p.1*n,n,a)) parts.toList).map (.build z)
   | none=>none
  | _,_=>none
 | .buildSlice t len parts=>match CH P t with
  | some e=>match szOf P e,eP P e with
   | some n,some z=>if z.length=n/\n≠0/\len*n<=2^24/\parts.toList.all (fun p=>p.1<len) then
     (mapO (fun p=>(cX P e p.2).map fun a=>(p.1,a)) parts.toList).map (.bslice (A.bmode fn o.dst) n (List.replicate len z)) else none
   | _,_=>none
  | none=>none
 | .load t x=>match bY P t,szOf P t,cX P t x with
  | some g,some n,some a=>some (.load g n a)
  | _,_,_=>none
 | .store t x v=>match szOf P t,cX P t x,cX P t v with
  | some n,some a,some b=>some (.store n a b)
  | _,_,_=>none
 | .nilCheck x=>(cX P o.type x).map .nilchk
 | .binOp op t x y u=>match cX P t x,cX P u y with
  | some a,some b=>
   if op == .eql || op == .neq then
    if intT P t || strT P t then some (.bin op a b)
    else match f6 P 20 t,bY P t with
     | some ks,some g=>some (.eqs (op == .neq) g ks a b)
     | _,_=>match P.underlying t with
      | some (.pointer _)=>some (.eqn (op == .neq) a b)
      | some (.interface _)=>(match y with
       | .const .nilIface=>some (.eqs (op == .neq) false [] a b)
       | _=>none)
      | some (.func _ _ _)=>(match y with
       | .const .nilFunc=>some (.eqs (op == .neq) false [] a b)
       | _=>none)
      | _=>none
   else if intT P t || strT P t then some (.bin op a b) else none
  | _,_=>none
 | .unOp op t x=>(cX P t x).map (.un op)
 | .convert s d x=>match P.underlying s,P.underlying d,cX P s x with
  | some (.int _),some (.int k),some a=>some (.conv k a)
  | some .string,some .string,some a=>some (.same a)
  | some (.slice e),some .string,some a=>match P.underlying e with
   | some (.int .u8)=>some (.b2s a)
   | _=>none
  | _,_,_=>none
 | .makeInterface t x=>match P.underlying t with
  | some (.interface _)=>none
  | some _=>(cX P t x).map (.mkiface t)
  | none=>none
 | .makeFunc f first caps=>match mapO (cX P o.type) first.toList,mapO (cX P o.type) caps.toList with
  | some a,some b=>some (.mkfunc f a b)
  | _,_=>none
 | .makeMap t r=>match P.underlying t with
  | some (.map _ _)=>match r with
   | none=>some .mkmap
   | some (.const (.int _ _))=>some .mkmap
   | _=>none
  | _=>none
 | .makeSlice t l c=>match CH P t with
  | some e=>match szOf P e,eP P e,cX P o.type l,cX P o.type c with
   | some n,some z,some a,some b=>if z.length=n/\n≠0 then some (.mkslice (A.smode fn o.dst) n (P.bytesOf e) z a b) else none
   | _,_,_,_=>none
  | none=>none
 | .slice t x lo hi mx=>match P.underlying t,cX P t x,oX P t lo,oX P t hi,oX P t mx with
  | some .string,some a,some l,some h,some none=>some (.sslc a l h)
  | some (.array n e),some a,some l,some h,some m=>match szOf P e with
   | some z=>if z=0\/(m.isSome=true/\h.isSome=false) then none else some (if A.slch fn o.dst then .sarrF z n a l h m else .sarr z n a l h m)
   | none=>none
  | some (.slice e),some a,some l,some h,some m=>match szOf P e with
   | some z=>if z=0\/(m.isSome=true/\h.isSome=false) then none else some (if A.slch fn o.dst then .slcH z a l h m else .slc z a l h m)
   | none=>none
  | _,_,_,_,_=>none
 | .fieldAddr t x i=>match CJ P t i,cX P t x with
  | some f,some a=>match szOf P f.type with
   | some n=>if n=0 then none else some (.faddr f.offset a)
   | none=>none
  | _,_=>none
 | .field t x i=>match CJ P t i,cX P t x with
  | some f,some a=>match bY P f.type,szOf P f.type with
   | some g,some n=>some (.fld g f.offset n a)
   | _,_=>none
  | _,_=>none
 | .indexAddr t x i=>match P.underlying t,cX P t x,cX P o.type i with
  | some (.slice e),some a,some b=>match szOf P e with
   | some z=>some (.iaddr z none a b)
   | none=>none
  | some (.array n e),some a,some b=>match szOf P e with
   | some z=>some (.iaddr z (some n) a b)
   | none=>none
  | _,_,_=>none
 | .index t x i=>match P.underlying t,cX P t x,cX P o.type i with
  | some .string,some a,some b=>some (.idxs a b)
  | some (.array n e),some a,some b=>match bY P e,szOf P e with
   | some g,some z=>some (.idxa g n z a b)
   | _,_=>none
  | _,_,_=>none
 | .lookup t x i ok=>match P.underlying t with
  | some (.map k e)=>match cX P t x,cX P k i,E5 P e,wC P k with
   | some a,some b,some z,some kd=>some (.lookup kd z ok a b)
   | _,_,_,_=>none
  | _=>none
 | .mapUpdate t m k v=>match P.underlying t with
  | some (.map kt e)=>match cX P t m,cX P kt k,cX P e v,wC P kt with
   | some a,some b,some c,some kd=>some (.update kd a b c)
   | _,_,_,_=>none
  | _=>none
 | .typeAssert x xt t ok=>match P.underlying t with
  | some (.interface _)=>none
  | some _=>match cX P xt x,E5 P t with
   | some a,some z=>some (.tassert t ok z a)
   | _,_=>none
  | none=>none
 | .extract x i=>(cX P o.type x).map (.ext i)
 | .call c=>zA P A fn o c
 | .panic x=>(cX P o.type x).map .panic
 | _=>none
def RH (nt:Nat):Option Nat->Bool
 | some d=>decide (d<nt)
 | none=>true
def jD (P:Program) (A:Ann) (fn nt:FuncId) (ops:Array Oper) (o:Oper):Option Xc:=
 match cOp P A fn o with
 | none=>none
 | some a=>
  if RH nt o.dst then
   match o.guard with
   | none=>some ⟨o.dst,none,a⟩
   | some (j,want)=>match (ops[j]?).bind (·.dst) with
    | some t=>some ⟨o.dst,some (t,want),a⟩
    | none=>none
  else none
def AX.rds:AX->List Nat
 | .t n=>[n]
 | .c _=>[]
def oRds:Option AX->List Nat
 | none=>[]
 | some x=>x.rds
def lRds:List AX->List Nat
 | []=>[]
 | x::r=>x.rds++lRds r
def AOp.rds:AOp->List Nat
 | .mov x | .box x | .boxi x | .load _ _ x | .nilchk x | .un _ x | .conv _ x | .same x | .b2s x | .mkiface _ x | .faddr _ x | .fld _ _ _ x | .ext _ x | .len x | .slen x | .cap x | .clear _ x | .mlen x | .tassert _ _ _ x | .panic x=>x.rds
 | .nilapp _ | .alloc _ | .alloca .. | .mkmap=>[]
 | .pick c a b=>c.rds++(a.rds++b.rds)
 | .build _ parts=>lRds (parts.map fun p=>p.2.2)
 | .bslice _ _ _ parts=>lRds (parts.map fun p=>p.2)
 | .store _ x v=>x.rds++v.rds
 | .bin _ x y | .eqs _ _ _ x y | .eqn _ x y | .mkslice _ _ _ _ x y | .iaddr _ _ x y | .idxs x y | .idxa _ _ _ x y | .append _ _ _ x y | .copy _ x y | .lookup _ _ _ x y | .delete _ x y=>x.rds++y.rds
 | .mkfunc _ a b=>lRds a++lRds b
 | .slc _ x lo hi mx | .slcH _ x lo hi mx | .sarr _ _ x lo hi mx | .sarrF _ _ x lo hi mx=>x.rds++(oRds lo++(oRds hi++oRds mx))
 | .sslc x lo hi=>x.rds++(oRds lo++oRds hi)
 | .minmax _ xs | .pcall _ xs | .pcallk _ xs | .pcallr _ xs | .pcallf _ xs | .pcallz _ _ xs | .tcall _ xs=>lRds xs
 | .pcallv f xs | .tcallv f xs | .pinvoke _ f xs | .tinvoke _ f xs=>f.rds++lRds xs
 | .update _ x k v=>x.rds++(k.rds++v.rds)
inductive Cls where
 | i | r | c
 deriving DecidableEq,Inhabited
def AOp.cls:AOp->Cls
 | .mov _ | .pick .. | .build .. | .nilchk _ | .bin .. | .eqs .. | .eqn .. | .un .. | .conv .. | .same _ | .mkiface .. | .mkfunc .. | .slc .. | .sslc .. | .faddr .. | .fld .. | .iaddr .. | .idxs .. | .idxa .. | .ext .. | .len _ | .slen _ | .cap _ | .minmax .. | .tassert .. => .i
 | .load .. | .sarr .. | .b2s _ | .lookup .. | .mlen _ | .pcall .. | .pcallv .. => .r
 | .bslice .imm _ _ _=> .i
 | .boxi _=> .i
 | _=> .c
def Xc.rds (o:Xc):List Nat:=
 match o.guard with
 | none=>o.op.rds
 | some (t,_)=>t::o.op.rds
def FA (x y:Xc):Bool:=
  (match x.dst with
   | some d=> !(fH d y.rds)&& !(y.dst == some d)
   | none=>true)&&
  (match y.dst with
   | some d=> !(fH d x.rds)
   | none=>true)
def F9 (x y:Xc):Bool:=
 x.op.cls == .i || y.op.cls == .i || (x.op.cls == .r&&y.op.cls == .r)
def ordB (ops:Array Oper):Nat->Nat->Nat->Bool
 | 0,_,_=>false
 | n+1,i,k=>match ops[i]? with
  | none=>false
  | some o=>o.after.toList.any fun e=>Region.binds .any e&&(e.on == k || (decide (k<e.on)&&ordB ops n e.on k))
def R5 (ops:Array Oper) (l:List Xc) (pairs:List (Nat×Nat)):Bool:=
 (List.range ops.size).all fun i=>match ops[i]?,l[i]? with
  | some o,some y=>o.after.toList.all (fun e=> !Region.binds .any e || decide (e.on<i))&&
    (List.range i).all fun k=>match l[k]? with
     | some x=>(FA x y&&(F9 x y || pairs.any (fun p=>p.1 == k&&p.2 == i))) || ordB ops ops.size i k
     | none=>false
  | _,_=>false
def yX (ops:Array Oper) (l:List Xc):List (Nat×Nat):=
 (List.range ops.size).flatMap fun i=>(List.range i).filterMap fun k=>match l[k]?,l[i]? with
  | some x,some y=>if F9 x y || ordB ops ops.size i k then none else some (k,i)
  | _,_=>none
def R2 (ops:Array Oper):Bool:=decide (0<ops.size)&&(List.range (ops.size - 1)).all fun k=>ordB ops ops.size (ops.size - 1) k
def F7 (P:Program) (A:Ann) (fn nt id:Nat) (ops:Array Oper) (draw:Bool):Option Xb:=
 match mapO (jD P A fn nt ops) ops.toList with
 | none=>none
 | some l=>if draw then (if R5 ops l (yX ops l) then (if A.split fn id&&(yX ops l).isEmpty&&R2 ops then some (.seq (.region true [] l.dropLast none) (.region false [] (l.drop (l.length - 1)) (A.keep fn id))) else some (.region true (yX ops l) l (A.keep fn id))) else none) else some (.region false [] l (A.keep fn id))
def bW (P:Program) (A:Ann) (fn nt:FuncId):Code->Option Xb
 | .skip=>some .skip
 | .region id ops draw=>F7 P A fn nt id ops draw
 | .seq a b=>match bW P A fn nt a,bW P A fn nt b with
  | some x,some y=>some (.seq x y)
  | _,_=>none
 | .cond c a b=>match cX P 0 c,bW P A fn nt a,bW P A fn nt b with
  | some c,some x,some y=>some (.cond c x y)
  | _,_,_=>none
 | .block id b=>(bW P A fn nt b).map (.block id)
 | .loop b=>(bW P A fn nt b).map .loop
 | .exit id=>some (.exit id)
 | .ret=>some .ret
 | .scope b=>bW P A fn nt b
 | .label _=>some .skip
 | .rangeFunc .. | .goto _ | .refuse _=>none
def cRes (P:Program):ResultVar->Option ARes
 | .tmp t=>some (.tmp t)
 | .cell a t=>match bY P t,szOf P t with
  | some g,some n=>some (.cell a g n)
  | _,_=>none
def cFn (P:Program) (A:Ann) (f:FuncId):Option AFn:=
 match P.funcs[f]? with
 | none=>none
 | some fn=>match fn.body with
  | none=>none
  | some c=>match bW P A f fn.ntmps c,mapO (cRes P) fn.results.toList with
   | some b,some rs=>if fn.params.size+fn.nfree<=fn.ntmps then some ⟨fn.params.size+fn.nfree,rs,b⟩ else none
   | _,_=>none
def RG (o:Oper):Option Nat:=match o.op with
 | .defer c=>match c.callee with
  | .value (.tmp t)=>if c.args.size=0/\o.dst=none/\o.guard=none then some t else none
  | _=>none
 | _=>none
def RL (o:Oper):Option Nat:=match o.op with
 | .call c=>match c.callee with
  | .builtin .recover=>if c.args.size=0/\o.guard=none then o.dst else none
  | _=>none
 | _=>none
def RF (o:Oper):Option (Nat×Nat):=match o.op with
 | .assign (.tmp a)=>if o.guard=none then o.dst.map (·,a) else none
 | _=>none
def VK (P:Program) (A:Ann) (fn nt:FuncId) (ops:Array Oper):Option (List Xc×Nat):=
 match ops.toList.getLast?.bind RG with
 | some t=>(mapO (jD P A fn nt ops) ops.toList.dropLast).map (·,t)
 | none=>none
def CK (P:Program) (A:Ann) (fn nt:FuncId):Code->Option DCode
 | .seq (.region id ops draw) y=>match VK P A fn nt ops with
  | some (l,t)=>if draw then none else (bW P A fn nt y).map (.dfr l t)
  | none=>match F7 P A fn nt id ops draw,CK P A fn nt y with
   | some x,some k=>some (.seq x k)
   | _,_=>none
 | .seq x y=>match bW P A fn nt x,CK P A fn nt y with
  | some x,some k=>some (.seq x k)
  | _,_=>none
 | _=>none
def VH (nt:Nat) (ops:List Oper) (draw:Bool):Option (Nat×Nat):=match ops with
 | [o1,o2]=>match RL o1,RF o2 with
  | some a,some (b,a')=>if draw=false/\a'=a/\a<nt/\b<nt then some (a,b) else none
  | _,_=>none
 | _=>none
def cClo (P:Program) (A:Ann) (fn nt:FuncId):Code->Option (Option (Nat×Nat)×Xb)
 | .seq (.region id ops draw) y=>match VH nt ops.toList draw with
  | some ab=>(bW P A fn nt y).map (some ab, ·)
  | none=>(bW P A fn nt (.seq (.region id ops draw) y)).map (none, ·)
 | c=>(bW P A fn nt c).map (none, ·)
def cDFn (P:Program) (A:Ann) (f g:FuncId):Option ADFn:=
 match P.funcs[f]?,P.funcs[g]? with
 | some fn,some gn=>match fn.body,gn.body with
  | some c,some k=>match CK P A f fn.ntmps c,cClo P A g gn.ntmps k,mapO (cRes P) fn.results.toList with
   | some b,some (rcv,cb),some rs=>if fn.params.size+fn.nfree<=fn.ntmps/\gn.params.size=0/\gn.nfree<=gn.ntmps/\gn.results.size=0 then
     some ⟨fn.params.size+fn.nfree,rs,b,g,gn.nfree,rcv,cb⟩ else none
   | _,_,_=>none
  | _,_=>none
 | _,_=>none
def tmpIn (Y:List Nat):Operand->Bool
 | .tmp t=>Y.contains t
 | _=>false
def axIn (Y:List Nat):AX->Bool
 | .t n=>Y.contains n
 | _=>false
def AOp.dyn:AOp->Bool
 | .pcallv .. | .tcallv .. | .pinvoke .. | .tinvoke .. =>true
 | .pcall f _ | .tcall f _ | .pcallk f _ | .pcallr f _ | .pcallf f _ | .pcallz _ f _=>f == YID
 | _=>false
def yMov (Y:List Nat) (o:Oper):Bool:=match o.op with
 | .move (.tmp t)=>Y.contains t&&(match o.dst with | some d=>Y.contains d | none=>false)
 | _=>false
def yYld (Y:List Nat) (o:Oper) (ao:Xc):Bool:=match o.op,ao.op with
 | .call c,.tcallv x xs=>(match c.callee with | .value (.tmp t)=>Y.contains t&&(match x with | .t u=>t == u | _=>false) | _=>false)&& !(xs.any (axIn Y))&&(match o.dst with | some d=> !Y.contains d | none=>true)
 | _,_=>false
def yElse (Y:List Nat) (o:Oper) (ao:Xc):Bool:= !ao.op.dyn&& !(ao.op.rds.any Y.contains)&&(match o.dst with | some d=> !Y.contains d | none=>true)
def yGd (Y:List Nat) (ao:Xc):Bool:=match ao.guard with | some (t,_)=> !Y.contains t | none=>true
def VM (Y:List Nat) (o:Oper) (ao:Xc):Bool:=yGd Y ao&&(yMov Y o || yYld Y o ao || yElse Y o ao)
def NO (Y:List Nat):List Oper->List Xc->Bool
 | o::os,a::as=>VM Y o a&&NO Y os as
 | [],[]=>true
 | _,_=>false
def mK (P:Program) (A:Ann) (fn nt:FuncId) (Y:List Nat):Code->Bool
 | .skip | .exit _ | .ret=>true
 | .region id ops draw=>match mapO (jD P A fn nt ops) ops.toList with
  | some l=>NO Y ops.toList l&&(!draw || (R5 ops l (yX ops l)&&(yX ops l).isEmpty&& !(A.split fn id&&R2 ops)))&&(A.keep fn id).isNone
  | none=>false
 | .seq a b=>mK P A fn nt Y a&&mK P A fn nt Y b
 | .cond c a b=> !tmpIn Y c&&mK P A fn nt Y a&&mK P A fn nt Y b
 | .block _ b=>mK P A fn nt Y b
 | .loop b=>mK P A fn nt Y b
 | _=>false
def cRg (P:Program) (A:Ann) (fn nt:FuncId) (it:FuncId) (Y:List Nat):Code->Option RgCode
 | .seq a b=>match bW P A fn nt a with
  | some x=>(cRg P A fn nt it Y b).map (.seqR x)
  | none=>match cRg P A fn nt it Y a,bW P A fn nt b with
   | some x,some y=>some (.seqL x y)
   | _,_=>none
 | .scope b=>cRg P A fn nt it Y b
 | .block id (.rangeFunc g ps asg body)=>match cX P 0 g,cFn P A it,bW P A fn nt asg,bW P A fn nt body,P.funcs[it]? with
  | some gx, some itn, some ax, some bx, some fi => if (match fi.body with | some c => mK P A it fi.ntmps Y c | none => false) && decide (fi.results.size = 0) && !(fi.name == "runtime.NumGoroutine") && ps.toList.all (fun t => decide (t < nt)) then some (.rng id gx it itn Y ps.toList ax bx) else none
  | _,_,_,_,_=>none
 | _=>none
def cRFn (P:Program) (A:Ann) (f it:FuncId) (Y:List Nat):Option ARFn:=
 match P.funcs[f]? with
 | none=>none
 | some fn=>match fn.body with
  | none=>none
  | some c=>match cRg P A f fn.ntmps it Y c,mapO (cRes P) fn.results.toList with
   | some b,some rs=>if fn.params.size+fn.nfree<=fn.ntmps then some ⟨fn.params.size+fn.nfree,rs,b⟩ else none
   | _,_=>none
end Go.Av
namespace Go.Av
inductive VRD (w:World) (imm:Nat->Nat->Prop):AV->Value->Prop where
 | bool (b:Bool):VRD w imm (.bool b) (.bool b)
 | int (k:IntKind) (n:Int):VRD w imm (.int k n) (.int k n)
 | str (s:List UInt8):VRD w imm (.str s) (.string ⟨s.toArray⟩)
 | nilptr:VRD w imm .nilptr (.pointer none)
 | nilfunc:VRD w imm .nilfunc .nilFunc
 | niliface:VRD w imm .niliface .nilIface
 | nilmap:VRD w imm .nilmap (.map none)
 | junk (v:Value) (h:v.oneCell'=true):VRD w imm .junk v
 | agg (cs:List AV) (vs:Array Value) (hl:cs.length=vs.size) (h1:∀v:Value,v∈vs->v.oneCell'=true)
   (h:∀(i:Nat) x v,cs[i]? =some x->vs[i]? =some v->VRD w imm x v):VRD w imm (.agg cs) (.agg vs)
 | tup (cs:List AV) (vs:Array Value) (hl:cs.length=vs.size)
   (h:∀(i:Nat) x v,cs[i]? =some x->vs[i]? =some v->VRD w imm x v):VRD w imm (.tup cs) (.tuple vs)
 | iface (t:TypeId) (x:AV) (v:Value) (h:VRD w imm x v):VRD w imm (.iface t x) (.iface t v)
 | func (fn:Fn) (a b:List AV) (va vb:Array Value) (ha:a.length=va.size) (hb:b.length=vb.size)
   (h:∀(i:Nat) x v,a[i]? =some x->va[i]? =some v->VRD w imm x v)
   (h':∀(i:Nat) x v,b[i]? =some x->vb[i]? =some v->VRD w imm x v):VRD w imm (.func fn a b) (.func fn va vb)
 | slice0 (esz:Nat) (a:Option Addr) (cap:Nat):VRD w imm (.slice esz []) (.slice a 0 cap)
 | slice (esz:Nat) (es:List (List AV)) (b o cap:Nat) (vs:Nat->Nat->Value) (hne:es≠[]) (hz:∀e∈es,e.length=esz) (hcap:es.length<=cap)
   (hc:∀(i j:Nat) e x,es[i]? =some e->e[j]? =some x->
    imm b (o+i*esz+j)/\w.cell? ⟨b,o+i*esz+j,none⟩=some (vs i j)/\(vs i j).oneCell'=true)
   (h:∀(i j:Nat) e x,es[i]? =some e->e[j]? =some x->VRD w imm x (vs i j)):
   VRD w imm (.slice esz es) (.slice (some ⟨b,o,none⟩) es.length cap)
 | iptr (esz:Nat) (es:List (List AV)) (i off b o:Nat) (vs:Nat->Nat->Value) (hz:∀e∈es,e.length=esz)
   (hc:∀(i j:Nat) e x,es[i]? =some e->e[j]? =some x->
    imm b (o+i*esz+j)/\w.cell? ⟨b,o+i*esz+j,none⟩=some (vs i j)/\(vs i j).oneCell'=true)
   (h:∀(i j:Nat) e x,es[i]? =some e->e[j]? =some x->VRD w imm x (vs i j)):
   VRD w imm (.iptr esz es i off) (.pointer (some ⟨b,o+i*esz+off,none⟩))
theorem VRD.mono {w w':World} {imm imm':Nat->Nat->Prop} {x:AV} {v:Value} (h:VRD w imm x v)
  (ht:∀b i u,imm b i->w.cell? ⟨b,i,none⟩=some u->imm' b i/\w'.cell? ⟨b,i,none⟩=some u):VRD w' imm' x v:=by
 induction h with
 | bool b=>exact .bool b
 | int k n=>exact .int k n
 | str s=>exact .str s
 | nilptr=>exact .nilptr
 | nilfunc=>exact .nilfunc
 | niliface=>exact .niliface
 | nilmap=>exact .nilmap
 | junk v h=>exact .junk v h
 | agg cs vs hl h1 _ ih=>exact .agg cs vs hl h1 ih
 | tup cs vs hl _ ih=>exact .tup cs vs hl ih
 | iface t x v _ ih=>exact .iface t x v ih
 | func fn a b va vb ha hb _ _ ih ih'=>exact .func fn a b va vb ha hb ih ih'
 | slice0 esz a cap=>exact .slice0 esz a cap
 | slice esz es b o cap vs hne hz hcap hc _ ih=>
  refine .slice esz es b o cap vs hne hz hcap ?_ ih;intro i j e x he hx;obtain ⟨h1,h2,h3⟩:=hc i j e x he hx;obtain ⟨h4,h5⟩:=ht _ _ _ h1 h2;exact ⟨h4,h5,h3⟩
 | iptr esz es i off b o vs hz hc _ ih=>
  refine .iptr esz es i off b o vs hz ?_ ih;intro i j e x he hx;obtain ⟨h1,h2,h3⟩:=hc i j e x he hx;obtain ⟨h4,h5⟩:=ht _ _ _ h1 h2;exact ⟨h4,h5,h3⟩
inductive VR (w:World) (imm:Nat->Nat->Prop) (L:AV->Value->Prop):AV->Value->Prop where
 | d {x:AV} {v:Value} (h:VRD w imm x v):VR w imm L x v
 | l {x:AV} {v:Value} (h:L x v):VR w imm L x v
 | agg (cs:List AV) (vs:Array Value) (hl:cs.length=vs.size) (h1:∀v:Value,v∈vs->v.oneCell'=true)
   (h:∀(i:Nat) x v,cs[i]? =some x->vs[i]? =some v->VR w imm L x v):VR w imm L (.agg cs) (.agg vs)
 | tup (cs:List AV) (vs:Array Value) (hl:cs.length=vs.size)
   (h:∀(i:Nat) x v,cs[i]? =some x->vs[i]? =some v->VR w imm L x v):VR w imm L (.tup cs) (.tuple vs)
 | iface (t:TypeId) (x:AV) (v:Value) (h:VR w imm L x v):VR w imm L (.iface t x) (.iface t v)
 | func (fn:Fn) (a b:List AV) (va vb:Array Value) (ha:a.length=va.size) (hb:b.length=vb.size)
   (h:∀(i:Nat) x v,a[i]? =some x->va[i]? =some v->VR w imm L x v)
   (h':∀(i:Nat) x v,b[i]? =some x->vb[i]? =some v->VR w imm L x v):VR w imm L (.func fn a b) (.func fn va vb)
abbrev Beta:=Nat->Option (Nat×Nat)
def AH.Known (H:AH) (id:Nat):Prop:=id<H.next/\H.get id≠some .res
def Past:AO->Nat->Nat->Prop
 | .tok z f,o,i=>o+f*z<=i
 | _,_,_=>True
def Mut (Z:Beta) (H:AH) (b i:Nat):Prop:=
 ∃id ob o,H.get id=some ob/\Z id=some (b,o)/\Past ob o i
def Imm (F:Nat->Nat->Prop) (Z:Beta) (H:AH) (b i:Nat):Prop:=¬Mut Z H b i/\¬F b i
def Blk (w:World) (b:Nat) (c:Array Value):Prop:=∃ty,w.heap[b]? =some (.cells c ty (0,0))
def Leaf (F:Nat->Nat->Prop) (w:World) (Z:Beta) (H:AH):AV->Value->Prop
 | .Xa esz es,v=>VRD w (Imm F Z H) (.slice esz es) v/\∃a len,v= .slice a len len
 | .app esz es t,v=>H.Known t/\VRD w (Imm F Z H) (.slice esz es) v/\∀z f,H.get t=some (.tok z f)->es.length<=f/\
   (f=es.length->match Z t with
    | none=>∃a len,v= .slice a len len
    | some (b,o)=>∃len cap c,v= .slice (some ⟨b,o,none⟩) len cap/\Blk w b c/\o+cap*z<=c.size)
 | .ptr id esz i off,v=>H.Known id/\(∃b k,v= .pointer (some ⟨b,k,none⟩))/\(∀z es,H.get id=some (.row z es)->∃b o,Z id=some (b,o)/\v= .pointer (some ⟨b,o+i*esz+off,none⟩))
 | .row id esz off len,v=>H.Known id/\(∃base cap,v= .slice base len cap/\len<=cap/\(len=0\/∃b k,base=some ⟨b,k,none⟩))/\(∀z es,H.get id=some (.row z es)->∃b o base cap c,Z id=some (b,o)/\v= .slice base len cap/\len<=cap/\
   (cap=0\/base=some ⟨b,o+off*esz,none⟩)/\Blk w b c/\o+(off+cap)*esz<=c.size/\es.length<=off+cap)
 | .map id,v=>H.Known id/\(∃b,v= .map (some b))/\(∀es,H.get id=some (.map es)->∃b o,Z id=some (b,o)/\v= .map (some b))
 | _,_=>False
abbrev VRH (F:Nat->Nat->Prop) (w:World) (Z:Beta) (H:AH):AV->Value->Prop:=VR w (Imm F Z H) (Leaf F w Z H)
def MapR (F:Nat->Nat->Prop) (w:World) (Z:Beta) (H:AH) (ents:List (AV×AV)) (es:List MapEntry):Prop:=
 ents.length=es.length/\∀(i:Nat) k x e,ents[i]? =some (k,x)->es[i]? =some e->VRD w (Imm F Z H) k e.key/\VRH F w Z H x e.val
def ObjR (F:Nat->Nat->Prop) (B0:Nat) (w:World) (Z:Beta) (H:AH) (id:Nat):AO->Prop
 | .row esz es=>∃b o c,Z id=some (b,o)/\B0<=b/\Blk w b c/\o+es.length*esz<=c.size/\(∀e∈es,e.length=esz)/\
   ∀(i j:Nat) e x,es[i]? =some e->e[j]? =some x->∃v,c[o+i*esz+j]? =some v/\v.oneCell'=true/\VRH F w Z H x v
 | .tok z f=>∀b o,Z id=some (b,o)->B0<=b/\∃c,Blk w b c/\o+f*z<=c.size
 | .res=>Z id=none
 | .map ents=>∃b o es ck,Z id=some (b,o)/\B0<=b/\w.heap[b]? =some (.map es ck)/\MapR F w Z H ents es.toList
def Uniq {U:Type}:List (Nat×U)->Prop
 | []=>True
 | (u,_)::r=>look u r=none/\Uniq r
structure HR (F:Nat->Nat->Prop) (B0:Nat) (w:World) (Z:Beta) (H:AH):Prop where
 base:B0<=w.heap.size
 far:∀b i,F b i->b<B0
 uniq:Uniq H.objs
 next:∀id,H.next<=id->H.get id=none
 inj:∀id id' ob ob' b o o',H.get id=some ob->H.get id'=some ob'->Z id=some (b,o)->Z id'=some (b,o')->id=id'
 obj:∀id ob,H.get id=some ob->ObjR F B0 w Z H id ob
structure Ext (M:Nat->Nat->Prop) (w w':World):Prop where
 os:w'.os=w.os
 tape:w'.tape=w.tape
 output:w'.output=w.output
 size:w.heap.size<=w'.heap.size
 block:∀b,b<w.heap.size->w'.heap[b]? =w.heap[b]? \/
  (∃c c' ty,w.heap[b]? =some (.cells c ty (0,0))/\w'.heap[b]? =some (.cells c' ty (0,0))/\c'.size=c.size/\∀i,¬M b i->c'[i]? =c[i]?)\/
  (M b 0/\∃es ck es' ck',w.heap[b]? =some (.map es ck)/\w'.heap[b]? =some (.map es' ck'))
theorem Ext.refl (M:Nat->Nat->Prop) (w:World):Ext M w w:=⟨rfl,rfl,rfl,Qb _,fun _ _=> .inl rfl⟩
theorem f5 {w:World} {b:Nat} {o:Obj} (h:w.heap[b]? =some o):b<w.heap.size:=by
 rcases Qs b w.heap.size with h' | h'
 ·exact h'
 ·simp [Array.getElem?_eq_none h'] at h
theorem Ext.trans {M M':Nat->Nat->Prop} {w w1 w2:World} (h:Ext M w w1) (h':Ext M' w1 w2)
  (hm:∀b i,M' b i->b<w.heap.size->M b i):Ext M w w2:=by
 refine ⟨h'.os.trans h.os,h'.tape.trans h.tape,h'.output.trans h.output,jL h.size h'.size,?_⟩;intro b hb;have hb1:b<w1.heap.size:=FK hb h.size;rcases h.block b hb with h1 | ⟨c,c',ty,h1,h2,h3,h4⟩ | ⟨hM,es,ck,es',ck',h1,h2⟩
 ·rcases h'.block b hb1 with k1 | ⟨d,d',ty',k1,k2,k3,k4⟩ | ⟨kM,fs,fk,fs',fk',k1,k2⟩
  ·exact .inl (k1.trans h1)
  ·exact .inr (.inl ⟨d,d',ty',h1 ▸ k1,k2,k3,fun i hi=>k4 i (fun hm'=>hi (hm b i hm' hb))⟩)
  ·exact .inr (.inr ⟨hm b 0 kM hb,fs,fk,fs',fk',h1 ▸ k1,k2⟩)
 ·rcases h'.block b hb1 with k1 | ⟨d,d',ty',k1,k2,k3,k4⟩ | ⟨kM,fs,fk,fs',fk',k1,k2⟩
  ·exact .inr (.inl ⟨c,c',ty,h1,k1.trans h2,h3,h4⟩)
  ·rw [h2] at k1;obtain ⟨rfl,rfl,_⟩:=(Obj.cells.injEq .. ▸ (Option.some.inj k1):_/\_/\_);exact .inr (.inl ⟨c,d',ty,h1,k2,k3.trans h3,fun i hi=>(k4 i (fun hm'=>hi (hm b i hm' hb))).trans (h4 i hi)⟩)
  ·rw [h2] at k1;cases k1
 ·rcases h'.block b hb1 with k1 | ⟨d,d',ty',k1,k2,k3,k4⟩ | ⟨kM,fs,fk,fs',fk',k1,k2⟩
  ·exact .inr (.inr ⟨hM,es,ck,es',ck',h1,k1.trans h2⟩)
  ·rw [h2] at k1;cases k1
  ·exact .inr (.inr ⟨hM,es,ck,fs',fk',h1,k2⟩)
theorem Ext.mono {M M':Nat->Nat->Prop} {w w':World} (h:Ext M w w') (hm:∀b i,M b i->M' b i):Ext M' w w':=by
 refine ⟨h.os,h.tape,h.output,h.size,fun b hb=>?_⟩;rcases h.block b hb with h1 | ⟨c,c',ty,h1,h2,h3,h4⟩ | ⟨hM,r⟩
 ·exact .inl h1
 ·exact .inr (.inl ⟨c,c',ty,h1,h2,h3,fun i hi=>h4 i (fun hh=>hi (hm _ _ hh))⟩)
 ·exact .inr (.inr ⟨hm _ _ hM,r⟩)
theorem Kc {w:World} {b i:Nat} {u:Value} (h:w.cell? ⟨b,i,none⟩=some u):b<w.heap.size:=World.block_lt_of_cell? _ _ h
theorem cell_iff {w:World} {b i:Nat} {u:Value}:w.cell? ⟨b,i,none⟩=some u↔∃c ty fz,w.heap[b]? =some (.cells c ty fz)/\c[i]? =some u:=by
 unfold World.cell?;cases h:w.heap[b]? with
 | none=>simp
 | some o=>cases o<;>simp
theorem Ext.cell {M:Nat->Nat->Prop} {w w':World} (h:Ext M w w') {b i:Nat} {u:Value} (hM:¬M b i) (hc:w.cell? ⟨b,i,none⟩=some u):
  w'.cell? ⟨b,i,none⟩=some u:=by
 obtain ⟨c,ty,fz,h1,h2⟩:=cell_iff.1 hc;rcases h.block b (f5 h1) with k | ⟨d,d',ty',k1,k2,_,k4⟩ | ⟨_,es,ck,es',ck',k1,k2⟩
 ·exact cell_iff.2 ⟨c,ty,fz,k.trans h1,h2⟩
 ·rw [k1] at h1;cases h1;exact cell_iff.2 ⟨d',ty,(0,0),k2,(k4 i hM).trans h2⟩
 ·rw [k1] at h1;cases h1
theorem Ext.blk {M:Nat->Nat->Prop} {w w':World} (h:Ext M w w') {b:Nat} {c:Array Value} (hb:Blk w b c):
  ∃c',Blk w' b c'/\c'.size=c.size:=by
 obtain ⟨ty,h1⟩:=hb;rcases h.block b (f5 h1) with k | ⟨d,d',ty',k1,k2,k3,_⟩ | ⟨_,es,ck,es',ck',k1,k2⟩
 ·exact ⟨c,⟨ty,k.trans h1⟩,rfl⟩
 ·rw [k1] at h1;cases h1;exact ⟨d',⟨ty,k2⟩,k3⟩
 ·rw [k1] at h1;cases h1
structure Tr (w:World) (Z:Beta) (H:AH) (w':World) (Z':Beta) (H':AH):Prop where
 ext:Ext (Mut Z H) w w'
 mutt:∀b i,Mut Z' H' b i->Mut Z H b i\/w.heap.size<=b
 known:∀id,H.Known id->H'.Known id
 row:∀id z es,H.Known id->H'.get id=some (.row z es)->(∃es0,H.get id=some (.row z es0)/\es0.length=es.length)/\Z' id=Z id
 map:∀id es,H.Known id->H'.get id=some (.map es)->(∃es0,H.get id=some (.map es0))/\Z' id=Z id
 tok:∀t z f',H.Known t->H'.get t=some (.tok z f')->∃f,H.get t=some (.tok z f)/\f<=f'/\(f=f'->Z' t=Z t)
theorem Tr.imm {F:Nat->Nat->Prop} {w w':World} {Z Z':Beta} {H H':AH} (h:Tr w Z H w' Z' H') {b i:Nat} {u:Value}
  (hi:Imm F Z H b i) (hc:w.cell? ⟨b,i,none⟩=some u):Imm F Z' H' b i/\w'.cell? ⟨b,i,none⟩=some u:=by
 refine ⟨⟨fun hm=>?_,hi.2⟩,h.ext.cell hi.1 hc⟩;rcases h.mutt b i hm with h1 | h1
 ·exact hi.1 h1
 ·have:=Kc hc;omega
theorem Tr.vrd {F:Nat->Nat->Prop} {w w':World} {Z Z':Beta} {H H':AH} (h:Tr w Z H w' Z' H') {x:AV} {v:Value}
  (hx:VRD w (Imm F Z H) x v):VRD w' (Imm F Z' H') x v:=hx.mono fun _ _ _ hi hc=>h.imm hi hc
theorem Tr.leaf {F:Nat->Nat->Prop} {w w':World} {Z Z':Beta} {H H':AH} (h:Tr w Z H w' Z' H') {x:AV} {v:Value}
  (hx:Leaf F w Z H x v):Leaf F w' Z' H' x v:=by
 cases x with
 | Xa esz es=>exact ⟨h.vrd hx.1,hx.2⟩
 | app esz es t=>
  obtain ⟨h1,h2,h3⟩:=hx;refine ⟨h.known _ h1,h.vrd h2,?_⟩;intro z f hf;obtain ⟨f0,k1,k2,k3⟩:=h.tok t z f h1 hf;obtain ⟨m1,m2⟩:=h3 z f0 k1;refine ⟨jL m1 k2,fun hfe=>?_⟩;have e:f0=f:=by omega
  have m3:=m2 (by omega);rw [k3 e];cases hb:Z t with
  | none=>rw [hb] at m3;exact m3
  | some p=>
   obtain ⟨b,o⟩:=p;rw [hb] at m3;obtain ⟨len,cap,c,e1,e2,e3⟩:=m3;obtain ⟨c',e4,e5⟩:=h.ext.blk e2;exact ⟨len,cap,c',e1,e4,by omega⟩
 | ptr id esz i off=>
  obtain ⟨h1,h0,h2⟩:=hx;refine ⟨h.known _ h1,h0,fun z es hl=>?_⟩;obtain ⟨⟨es0,k1,_⟩,k2⟩:=h.row id z es h1 hl;rw [k2];exact h2 z es0 k1
 | row id esz off len=>
  obtain ⟨h1,h0,h2⟩:=hx;refine ⟨h.known _ h1,h0,fun z es hl=>?_⟩;obtain ⟨⟨es0,k1,k3⟩,k2⟩:=h.row id z es h1 hl;obtain ⟨b,o,base,cap,c,e1,e2,e3,e4,e5,e6,e9⟩:=h2 z es0 k1;obtain ⟨c',e7,e8⟩:=h.ext.blk e5;exact ⟨b,o,base,cap,c',k2.trans e1,e2,e3,e4,e7,by omega,by omega⟩
 | map id=>
  obtain ⟨h1,h0,h2⟩:=hx;refine ⟨h.known _ h1,h0,fun es hl=>?_⟩;obtain ⟨⟨es0,k1⟩,k2⟩:=h.map id es h1 hl;rw [k2];exact h2 es0 k1
 | _=>exact hx.elim
theorem VR.mono {w w':World} {imm imm':Nat->Nat->Prop} {L L':AV->Value->Prop} {x:AV} {v:Value} (h:VR w imm L x v)
  (hd:∀x v,VRD w imm x v->VRD w' imm' x v) (hl:∀x v,L x v->L' x v):VR w' imm' L' x v:=by
 induction h with
 | d h=>exact .d (hd _ _ h)
 | l h=>exact .l (hl _ _ h)
 | agg cs vs hl h1 _ ih=>exact .agg cs vs hl h1 ih
 | tup cs vs hl _ ih=>exact .tup cs vs hl ih
 | iface t x v _ ih=>exact .iface t x v ih
 | func fn a b va vb ha hb _ _ ih ih'=>exact .func fn a b va vb ha hb ih ih'
theorem Tr.vr {F:Nat->Nat->Prop} {w w':World} {Z Z':Beta} {H H':AH} (h:Tr w Z H w' Z' H') {x:AV} {v:Value}
  (hx:VRH F w Z H x v):VRH F w' Z' H' x v:=hx.mono (fun _ _=>h.vrd) (fun _ _=>h.leaf)
theorem Tr.refl (w:World) (Z:Beta) (H:AH):Tr w Z H w Z H:=
 ⟨.refl _ _,fun _ _ h=> .inl h,fun _ h=>h,fun _ _ es _ h=>⟨⟨es,h,rfl⟩,rfl⟩,fun _ es _ h=>⟨⟨es,h⟩,rfl⟩,fun _ _ f _ h=>⟨f,h,Qb _,fun _=>rfl⟩⟩
theorem Tr.trans {w w1 w2:World} {Z Z1 Z2:Beta} {H H1 H2:AH} (h:Tr w Z H w1 Z1 H1) (k:Tr w1 Z1 H1 w2 Z2 H2):Tr w Z H w2 Z2 H2:=by
 refine ⟨h.ext.trans k.ext ?_,?_,fun id hid=>k.known id (h.known id hid),?_,?_,?_⟩
 ·intro b i hm hb;rcases h.mutt b i hm with h1 | h1
  ·exact h1
  ·omega
 ·intro b i hm;rcases k.mutt b i hm with h1 | h1
  ·exact h.mutt b i h1
  ·exact .inr (jL h.ext.size h1)
 ·intro id z es hid hh;obtain ⟨⟨es1,e1,e5⟩,e2⟩:=k.row id z es (h.known _ hid) hh;obtain ⟨⟨es2,e3,e6⟩,e4⟩:=h.row id z es1 hid e1;exact ⟨⟨es2,e3,e6.trans e5⟩,e2.trans e4⟩
 ·intro id es hid hh;obtain ⟨⟨es1,e1⟩,e2⟩:=k.map id es (h.known _ hid) hh;obtain ⟨e3,e4⟩:=h.map id es1 hid e1;exact ⟨e3,e2.trans e4⟩
 ·intro t z f hid hh;obtain ⟨f1,e1,e2,e3⟩:=k.tok t z f (h.known _ hid) hh;obtain ⟨f0,g1,g2,g3⟩:=h.tok t z f1 hid e1;refine ⟨f0,g1,jL g2 e2,fun he=>?_⟩;have:f0=f1:=by omega
  have h2:f1=f:=by omega
  rw [e3 h2,g3 this]
theorem Y4 {U:Type} (t:Nat) (l:List (Nat×U)) (u:Nat) (x:U):
  look t (l++[(u,x)])=match look t l with
   | some y=>some y
   | none=>if u=t then some x else none:=by
 induction l with
 | nil=>simp [look]
 | cons p l ih=>
  obtain ⟨a,b⟩:=p;by_cases h:a=t<;>simp [look,h,ih]
theorem ZH {U:Type} (t u:Nat) (y:U) (l:List (Nat×U)):
  look t (setl u y l)=if u=t then (look t l).map (fun _=>y) else look t l:=by
 induction l with
 | nil=>simp [setl,look]
 | cons p l ih=>
  obtain ⟨a,b⟩:=p;by_cases h:a=u
  ·subst h;by_cases h':a=t<;>simp [setl,look,h']
  ·by_cases h':a=t
   ·subst h';have:¬u=a:=fun e=>h e.symm
    simp [setl,look,h,this]
   ·simp [setl,look,h,h',ih]
theorem AH.get_new (H:AH) (o:AO) (id:Nat) (hn:∀id,H.next<=id->H.get id=none):
  (H.new o).get id=if id=H.next then some o else H.get id:=by
 simp only [AH.new,AH.get,Y4];by_cases h:id=H.next
 ·subst h;have:=hn H.next (Qb _);simp only [AH.get] at this;simp [this]
 ·have h':¬H.next=id:=fun e=>h e.symm
  simp only [h,h',if_false];cases look id H.objs<;>rfl
theorem AH.get_set (H:AH) (o:AO) (u id:Nat):(H.set u o).get id=if u=id then (H.get id).map (fun _=>o) else H.get id:=by
 simp only [AH.set,AH.get,ZH]
theorem AH.next_new (H:AH) (o:AO):(H.new o).next=H.next+1:=rfl
theorem AH.next_set (H:AH) (u:Nat) (o:AO):(H.set u o).next=H.next:=rfl
theorem AH.next_kill (H:AH) (u:Nat):(H.kill u).next=H.next:=rfl
theorem YO {U:Type} (t u:Nat) (l:List (Nat×U)) (hu:Uniq l):
  look t (fI u l)=if u=t then none else look t l:=by
 induction l with
 | nil=>simp [fI,look]
 | cons p l ih=>
  obtain ⟨a,b⟩:=p;obtain ⟨h1,h2⟩:=hu;by_cases h:a=u
  ·subst h;by_cases h':a=t
   ·subst h';simp [fI,h1]
   ·simp [fI,look,h']
  ·by_cases h':a=t
   ·subst h';have:¬u=a:=fun e=>h e.symm
    simp [fI,look,h,this]
   ·simp [fI,look,h,h',ih h2]
end Go.Av
namespace Go.Av
theorem vB (w:World) (o:Obj):(w.alloc o).heap[w.heap.size]? =some o:=by
 show (w.heap.push o)[w.heap.size]? =some o;simp
theorem DG (w:World) (o:Obj) {b:Nat} (h:b<w.heap.size):(w.alloc o).heap[b]? =w.heap[b]? :=by
 show (w.heap.push o)[b]? =_;rw [Array.getElem?_push,a8 (by omega)]
theorem Ext.alloc (M:Nat->Nat->Prop) (w:World) (o:Obj):Ext M w (w.alloc o):=
 ⟨rfl,rfl,rfl,by simp,fun b hb=> .inl (DG w o hb)⟩
theorem Ext.drew (M:Nat->Nat->Prop) (w:World):Ext M w w.drew:=⟨rfl,rfl,rfl,Qb _,fun _ _=> .inl rfl⟩
theorem ObjR.tr {F:Nat->Nat->Prop} {B0:Nat} {w w':World} {Z Z':Beta} {H H':AH} {id:Nat} {ob:AO} (h:Tr w Z H w' Z' H')
  (hβ:Z' id=Z id) (hb:∀b o,Z id=some (b,o)->w'.heap[b]? =w.heap[b]?) (ho:ObjR F B0 w Z H id ob):ObjR F B0 w' Z' H' id ob:=by
 cases ob with
 | row esz es=>
  obtain ⟨b,o,c,h1,h2,⟨ty,h3⟩,h4,h5,h6⟩:=ho;refine ⟨b,o,c,hβ.trans h1,h2,⟨ty,(hb b o h1).trans h3⟩,h4,h5,?_⟩;intro i j e x he hx;obtain ⟨v,k1,k2,k3⟩:=h6 i j e x he hx;exact ⟨v,k1,k2,h.vr k3⟩
 | tok z f=>
  intro b o hbo;rw [hβ] at hbo;obtain ⟨h1,c,⟨ty,h2⟩,h3⟩:=ho b o hbo;exact ⟨h1,c,⟨ty,(hb b o hbo).trans h2⟩,h3⟩
 | map ents=>
  obtain ⟨b,o,es,ck,h1,h2,h3,h4,h5⟩:=ho;refine ⟨b,o,es,ck,hβ.trans h1,h2,(hb b o h1).trans h3,h4,?_⟩;intro i k x e hk he;obtain ⟨k1,k2⟩:=h5 i k x e hk he;exact ⟨h.vrd k1,h.vr k2⟩
 | res=>exact hβ.trans ho
theorem ObjR.lt {F:Nat->Nat->Prop} {B0:Nat} {w:World} {Z:Beta} {H:AH} {id:Nat} {ob:AO} (ho:ObjR F B0 w Z H id ob) {b o:Nat}
  (hb:Z id=some (b,o)):b<w.heap.size/\B0<=b:=by
 cases ob with
 | row esz es=>
  obtain ⟨b',o',c,h1,h2,⟨ty,h3⟩,_⟩:=ho;rw [h1] at hb;cases hb;exact ⟨f5 h3,h2⟩
 | tok z f=>
  obtain ⟨h1,c,⟨ty,h2⟩,h3⟩:=ho b o hb;exact ⟨f5 h2,h1⟩
 | map ents=>
  obtain ⟨b',o',es,ck,h1,h2,h3,_⟩:=ho;rw [h1] at hb;cases hb;exact ⟨f5 h3,h2⟩
 | res=>
  have h1:Z id=none:=ho;rw [h1] at hb;cases hb
theorem HR.mut_lt {F:Nat->Nat->Prop} {B0:Nat} {w:World} {Z:Beta} {H:AH} (hr:HR F B0 w Z H) {b i:Nat} (hm:Mut Z H b i):
  b<w.heap.size/\B0<=b:=by
 obtain ⟨id,ob,o,h1,h2,_⟩:=hm;exact (hr.obj id ob h1).lt h2
theorem VB {F:Nat->Nat->Prop} {B0:Nat} {w:World} {Z:Beta} {H:AH} (hr:HR F B0 w Z H) {id:Nat} {ob:AO} (h:H.get id=some ob):id<H.next:=by
 rcases Qs id H.next with h' | h'
 ·exact h'
 ·rw [hr.next id h'] at h;cases h
def upd (Z:Beta) (id:Nat) (p:Option (Nat×Nat)):Beta:=fun k=>if k=id then p else Z k
theorem cU (Z:Beta) (id:Nat) (p:Option (Nat×Nat)):upd Z id p id=p:=by simp [upd]
theorem dU (Z:Beta) {id k:Nat} (p:Option (Nat×Nat)) (h:k≠id):upd Z id p k=Z k:=by simp [upd,h]
theorem NH {F:Nat->Nat->Prop} {B0:Nat} {w:World} {Z:Beta} {H:AH} (o:Obj):Tr w Z H (w.alloc o) Z H:=
 ⟨.alloc _ _ _,fun _ _ h=> .inl h,fun _ h=>h,fun _ _ es _ h=>⟨⟨es,h,rfl⟩,rfl⟩,fun _ es _ h=>⟨⟨es,h⟩,rfl⟩,fun _ _ f _ h=>⟨f,h,Qb _,fun _=>rfl⟩⟩
theorem tr_drew {w:World} {Z:Beta} {H:AH}:Tr w Z H w.drew Z H:=
 ⟨.drew _ _,fun _ _ h=> .inl h,fun _ h=>h,fun _ _ es _ h=>⟨⟨es,h,rfl⟩,rfl⟩,fun _ es _ h=>⟨⟨es,h⟩,rfl⟩,fun _ _ f _ h=>⟨f,h,Qb _,fun _=>rfl⟩⟩
theorem HR.same {F:Nat->Nat->Prop} {B0:Nat} {w w':World} {Z:Beta} {H:AH} (hr:HR F B0 w Z H) (ht:Tr w Z H w' Z H)
  (hb:∀b,b<w.heap.size->w'.heap[b]? =w.heap[b]?):HR F B0 w' Z H:=
 ⟨jL hr.base ht.ext.size,hr.far,hr.uniq,hr.next,hr.inj,
  fun id ob h=>(hr.obj id ob h).tr ht rfl (fun b o e=>hb b ((hr.obj id ob h).lt e).1)⟩
theorem HR.alloc {F:Nat->Nat->Prop} {B0:Nat} {w:World} {Z:Beta} {H:AH} (hr:HR F B0 w Z H) (o:Obj):HR F B0 (w.alloc o) Z H:=
 hr.same (NH (F:=F) (B0:=B0) o) (fun _ hb=>DG w o hb)
theorem HR.drew {F:Nat->Nat->Prop} {B0:Nat} {w:World} {Z:Beta} {H:AH} (hr:HR F B0 w Z H):HR F B0 w.drew Z H:=
 hr.same tr_drew (fun _ _=>rfl)
def Free (H:AH) (n:Nat):Prop:=n=H.next\/H.get n=some .res
theorem Free.next (H:AH):Free H H.next:= .inl rfl
theorem Free.not_known {F:Nat->Nat->Prop} {B0:Nat} {w:World} {Z:Beta} {H:AH} (hr:HR F B0 w Z H) {n:Nat} (hf:Free H n):¬H.Known n:=by
 rintro ⟨h1,h2⟩;rcases hf with rfl | hf
 ·omega
 ·exact h2 hf
theorem Free.le {F:Nat->Nat->Prop} {B0:Nat} {w:World} {Z:Beta} {H:AH} (hr:HR F B0 w Z H) {n:Nat} (hf:Free H n):n<=H.next:=by
 rcases hf with rfl | hf
 ·exact Qb _
 ·exact Nat.le_of_lt (VB hr hf)
theorem UR {F:Nat->Nat->Prop} {B0:Nat} {w:World} {Z:Beta} {H:AH} (hr:HR F B0 w Z H) {n:Nat} (hf:Free H n) (o:AO):
  (H.get n=some .res/\H.put n o=H.set n o)\/(n=H.next/\H.put n o=H.new o):=by
 unfold AH.put;rcases hf with h | h
 ·subst h;rw [hr.next H.next (Qb _)];exact .inr ⟨rfl,rfl⟩
 ·rw [h];exact .inl ⟨rfl,rfl⟩
theorem h9 {F:Nat->Nat->Prop} {B0:Nat} {w:World} {Z:Beta} {H:AH} (hr:HR F B0 w Z H) {n:Nat} (hf:Free H n) (o:AO) (id:Nat):
  (H.put n o).get id=if id=n then some o else H.get id:=by
 rcases UR hr hf o with ⟨h1,h2⟩ | ⟨h1,h2⟩
 ·rw [h2,AH.get_set];by_cases e:n=id
  ·subst e;simp [h1]
  ·rw [a8 e,a8 (Ne.symm e)]
 ·rw [h2];subst h1;exact AH.get_new H o id hr.next
theorem QL (H:AH) (n:Nat) (o:AO):H.next<=(H.put n o).next:=by
 unfold AH.put;split
 ·exact Qb _
 ·rw [AH.next_new];omega
theorem U6 {F:Nat->Nat->Prop} {B0:Nat} {w:World} {Z:Beta} {H:AH} (hr:HR F B0 w Z H) {n:Nat} (hf:Free H n) (o:AO):n<(H.put n o).next:=by
 rcases UR hr hf o with ⟨h1,h2⟩ | ⟨h1,h2⟩
 ·rw [h2,AH.next_set];exact VB hr h1
 ·rw [h2,AH.next_new];omega
theorem EW {H:AH} {id k:Nat} {ob:AO} (ho:ob≠ .res) (hk:H.Known k):(H.set id ob).Known k:=by
 refine ⟨hk.1,?_⟩;rw [AH.get_set];split
 ·cases hg:H.get k with
  | none=>simp
  | some o=>
   intro h;cases h;exact ho rfl
 ·exact hk.2
theorem vC {F:Nat->Nat->Prop} {B0:Nat} {w:World} {Z:Beta} {H:AH} (hr:HR F B0 w Z H) {n:Nat} (hf:Free H n) {o:AO} (ho:o≠ .res):(H.put n o).Known n:=by
 refine ⟨U6 hr hf o,?_⟩;rw [h9 hr hf,a9 rfl];intro h;cases h;exact ho rfl
theorem CO {F:Nat->Nat->Prop} {B0:Nat} {w w':World} {Z:Beta} {H:AH} {nx:Nat} (hfr:Free H nx) (hr:HR F B0 w Z H) (he:Ext (Mut Z H) w w') (ob:AO)
  (p:Option (Nat×Nat)) (hp:∀b o,p=some (b,o)->w.heap.size<=b):Tr w Z H w' (upd Z nx p) (H.put nx ob):=by
 have hne:∀id,H.Known id->id≠nx:=fun id hk e=>hfr.not_known hr (e ▸ hk)
 have hget:∀id,H.Known id->(H.put nx ob).get id=H.get id:=fun id h=>by rw [h9 hr hfr ob id,a8 (hne id h)]
 refine ⟨he,?_,?_,?_,?_,?_⟩
 ·rintro b i ⟨id,ob',o,h1,h2,h3⟩;by_cases hid:id=nx
  ·subst hid;rw [cU] at h2;exact .inr (hp b o h2)
  ·rw [h9 hr hfr ob id,a8 hid] at h1;rw [dU Z p hid] at h2;exact .inl ⟨id,ob',o,h1,h2,h3⟩
 ·intro id hid;exact ⟨FK hid.1 (QL _ _ _),by rw [hget id hid];exact hid.2⟩
 ·intro id z es hid h;rw [hget id hid] at h;exact ⟨⟨es,h,rfl⟩,dU Z p (hne id hid)⟩
 ·intro id es hid h;rw [hget id hid] at h;exact ⟨⟨es,h⟩,dU Z p (hne id hid)⟩
 ·intro id z f hid h;rw [hget id hid] at h;exact ⟨f,h,Qb _,fun _=>dU Z p (hne id hid)⟩
theorem Y7 {U:Type} (l:List (Nat×U)) (u:Nat) (x:U) (hl:Uniq l) (hu:look u l=none):Uniq (l++[(u,x)]):=by
 induction l with
 | nil=>exact ⟨rfl,trivial⟩
 | cons p l ih=>
  obtain ⟨a,b⟩:=p;have ha:¬a=u:=by intro e;simp [look,e] at hu
  simp only [look,ha,if_false] at hu;refine ⟨?_,ih hl.2 hu⟩;show look a (l++[(u,x)])=none;rw [Y4,hl.1];have:¬u=a:=fun e=>ha e.symm
  simp [this]
theorem NF {U:Type} (l:List (Nat×U)) (u:Nat) (x:U) (hl:Uniq l):Uniq (setl u x l):=by
 induction l with
 | nil=>trivial
 | cons p l ih=>
  obtain ⟨a,b⟩:=p;by_cases h:a=u
  ·simpa [setl,h,Uniq] using h ▸ hl
  ·simp only [setl,h,if_false];refine ⟨?_,ih hl.2⟩;rw [ZH,a8 (fun e=>h e.symm)];exact hl.1
theorem Gh {U:Type} (l:List (Nat×U)) (u:Nat) (hl:Uniq l):Uniq (fI u l):=by
 induction l with
 | nil=>trivial
 | cons p l ih=>
  obtain ⟨a,b⟩:=p;by_cases h:a=u
  ·simpa [fI,h] using hl.2
  ·simp only [fI,h,if_false];refine ⟨?_,ih hl.2⟩;rw [YO _ _ _ hl.2,a8 (fun e=>h e.symm)];exact hl.1
theorem Q1 {U:Type} (p:Nat->Bool) (id:Nat):∀l:List (Nat×U),look id (l.filter fun q=>p q.1)=if p id then look id l else none
 | []=>by simp [look]
 | (u,x)::r=>by
  have ih:=Q1 p id r;by_cases hu:p u=true
  ·simp only [List.filter,hu,look,ih];by_cases e:u=id
   ·subst e;simp [hu]
   ·simp [e]
  ·simp only [PV] at hu;simp only [List.filter,hu,look,ih];by_cases e:u=id
   ·subst e;simp [hu]
   ·simp [e]
theorem DV {h:AH} {m i:Nat}:(h.cut m).get i=if i<m then none else h.get i:=by
 unfold AH.cut AH.get;rw [Q1 (fun u=> !decide (u<m))];by_cases hi:i<m<;>simp [hi]
theorem V5 {h:AH} {m i:Nat}:(h.old m).get i=if i<m then h.get i else none:=by
 unfold AH.old AH.get;rw [Q1 (fun u=>decide (u<m))];by_cases hi:i<m<;>simp [hi]
theorem U8 {U:Type} (p:Nat->Bool):∀l:List (Nat×U),Uniq l->Uniq (l.filter fun q=>p q.1)
 | [],_=>trivial
 | (u,x)::r,hu=>by
  cases h:p u with
  | true=>
   simp only [List.filter,h];refine ⟨?_,U8 p r hu.2⟩;rw [Q1 p,hu.1];simp
  | false=>
   simp only [List.filter,h];exact U8 p r hu.2
theorem E1 {F:Nat->Nat->Prop} {B0:Nat} {w w':World} {Z:Beta} {H:AH} {nx:Nat} (hfr:Free H nx) (hr:HR F B0 w Z H) (he:Ext (Mut Z H) w w') (ob:AO)
  (p:Option (Nat×Nat)) (hp:∀b o,p=some (b,o)->w.heap.size<=b) (hsame:∀b,b<w.heap.size->w'.heap[b]? =w.heap[b]?)
  (hob:ObjR F B0 w' (upd Z nx p) (H.put nx ob) nx ob):HR F B0 w' (upd Z nx p) (H.put nx ob):=by
 have ht:=CO hfr hr he ob p hp;refine ⟨jL hr.base he.size,hr.far,?_,?_,?_,?_⟩
 ·rcases UR hr hfr ob with ⟨_,h2⟩ | ⟨_,h2⟩
  ·rw [h2];exact NF _ _ _ hr.uniq
  ·rw [h2];exact Y7 _ _ _ hr.uniq (hr.next H.next (Qb _))
 ·intro id hid;have h1:=U6 hr hfr ob;have h2:=QL H nx ob;rw [h9 hr hfr ob id,a8 (by omega)];exact hr.next id (by omega)
 ·intro id id' o1 o2 b o o' h1 h2 h3 h4;rw [h9 hr hfr ob id] at h1;rw [h9 hr hfr ob id'] at h2;by_cases e1:id=nx<;>by_cases e2:id'=nx
  ·omega
  ·rw [e1,cU] at h3;rw [a8 e2] at h2;rw [dU Z p e2] at h4;have:=(hr.obj id' o2 h2).lt h4;have:=hp b o h3;omega
  ·rw [e2,cU] at h4;rw [a8 e1] at h1;rw [dU Z p e1] at h3;have:=(hr.obj id o1 h1).lt h3;have:=hp b o' h4;omega
  ·rw [a8 e1] at h1;rw [a8 e2] at h2;rw [dU Z p e1] at h3;rw [dU Z p e2] at h4;exact hr.inj id id' o1 o2 b o o' h1 h2 h3 h4
 ·intro id ob' h;rw [h9 hr hfr ob id] at h;by_cases e:id=nx
  ·rw [a9 e] at h;cases h;rw [e];exact hob
  ·rw [a8 e] at h;exact (hr.obj id ob' h).tr ht (dU Z p e) (fun b o hb=>hsame b ((hr.obj id ob' h).lt hb).1)
theorem Ib {F:Nat->Nat->Prop} {B0:Nat} {w:World} {Z:Beta} {H:AH} (hr:HR F B0 w Z H) (n:Nat) (ob:AO):Uniq (H.put n ob).objs:=by
 unfold AH.put;split
 ·exact NF _ _ _ hr.uniq
 ·exact Y7 _ _ _ hr.uniq (hr.next H.next (Qb _))
def Good (F:Nat->Nat->Prop) (B0:Nat) (w:World) (Z:Beta) (H:AH) (x:AV) (H':AH) (v:Value) (w':World):Prop:=
 ∃Z',Tr w Z H w' Z' H'/\HR F B0 w' Z' H'/\VRH F w' Z' H' x v
theorem Good.same {F:Nat->Nat->Prop} {B0:Nat} {w:World} {Z:Beta} {H:AH} {x:AV} {v:Value} (hr:HR F B0 w Z H) (hx:VRH F w Z H x v):
  Good F B0 w Z H x H v w:=⟨Z,.refl _ _ _,hr,hx⟩
theorem NJ {F:Nat->Nat->Prop} {B0:Nat} {w:World} {Z:Beta} {H:AH} {nx:Nat} (hfr:Free H nx) (hr:HR F B0 w Z H) (c:Array Value) (ty:TypeId) (esz:Nat) (es:List (List AV))
  (hz:∀e∈es,e.length=esz) (hs:es.length*esz<=c.size)
  (hc:∀(i j:Nat) e x,es[i]? =some e->e[j]? =some x->∃v,c[i*esz+j]? =some v/\v.oneCell'=true/\VRH F w Z H x v):
  Tr w Z H (w.alloc (.cells c ty)) (upd Z nx (some (w.heap.size,0))) (H.put nx (.row esz es))/\
  HR F B0 (w.alloc (.cells c ty)) (upd Z nx (some (w.heap.size,0))) (H.put nx (.row esz es)):=by
 have hp:∀b o,(some (w.heap.size,0):Option (Nat×Nat))=some (b,o)->w.heap.size<=b:=by rintro b o ⟨⟩;exact Qb _
 have ht:=CO hfr hr (Ext.alloc _ w (.cells c ty)) (.row esz es) _ hp;refine ⟨ht,E1 hfr hr (Ext.alloc _ w _) _ _ hp (fun b hb=>DG w _ hb) ?_⟩;refine ⟨w.heap.size,0,c,cU _ _ _,hr.base,⟨ty,vB w _⟩,by omega,hz,?_⟩;intro i j e x he hx;obtain ⟨v,h1,h2,h3⟩:=hc i j e x he hx;exact ⟨v,by simpa using h1,h2,ht.vr h3⟩
theorem Ig {F:Nat->Nat->Prop} {B0:Nat} {w:World} {Z:Beta} {H:AH} {nx:Nat} (hfr:Free H nx) (hr:HR F B0 w Z H) (c:Array Value) (ty:TypeId) (esz n:Nat)
  (hs:n*esz<=c.size):
  Tr w Z H (w.alloc (.cells c ty)) (upd Z nx (some (w.heap.size,0))) (H.put nx (.tok esz n))/\
  HR F B0 (w.alloc (.cells c ty)) (upd Z nx (some (w.heap.size,0))) (H.put nx (.tok esz n)):=by
 have hp:∀b o,(some (w.heap.size,0):Option (Nat×Nat))=some (b,o)->w.heap.size<=b:=by rintro b o ⟨⟩;exact Qb _
 have ht:=CO hfr hr (Ext.alloc _ w (.cells c ty)) (.tok esz n) _ hp;refine ⟨ht,E1 hfr hr (Ext.alloc _ w _) _ _ hp (fun b hb=>DG w _ hb) ?_⟩;intro b o hb;rw [cU] at hb;cases hb;exact ⟨hr.base,c,⟨ty,vB w _⟩,by omega⟩
def dV (w:World) (b:Nat) (c:Array Value) (ty:TypeId):World:={ w with heap:=w.heap.setIfInBounds b (.cells c ty (0,0)) }
theorem mU (w:World) (b:Nat) (c:Array Value) (ty:TypeId) {k:Nat} (hb:b<w.heap.size):
  (dV w b c ty).heap[k]? =if k=b then some (.cells c ty (0,0)) else w.heap[k]? :=by
 simp only [dV,Array.getElem?_setIfInBounds];by_cases h:b=k
 ·subst h;simp [hb]
 ·have:¬k=b:=fun e=>h e.symm
  simp [h,this]
theorem Ca {w:World} {b:Nat} {c:Array Value} {ty:TypeId} (h:w.heap[b]? =some (.cells c ty (0,0))) (k:Nat) (v:Value):
  w.setCell ⟨b,k,none⟩ v=dV w b (c.setIfInBounds k v) ty:=by
 have hb:=f5 h;simp only [World.setCell,dV];congr 1;apply FM;intro i;rw [Array.getElem?_modify,Array.getElem?_setIfInBounds];by_cases hi:b=i
 ·subst hi;rw [h];simp [hb]
 ·simp [hi]
theorem Dk (w:World) (b:Nat) (c c':Array Value) (ty ty':TypeId):dV (dV w b c ty) b c' ty'=dV w b c' ty':=by
 simp [dV]
theorem TR (P:Program) (vs:List Value):∀(w:World) (b o i:Nat) (c:Array Value) (ty:TypeId),w.heap[b]? =some (.cells c ty (0,0))->
  o+i+vs.length<=c.size->(∀v:Value,v∈vs->v.oneCell'=true)->
  ∃c',(storeCells ⟨b,o,none⟩ vs i).run P w= .ok () (dV w b c' ty)/\c'.size=c.size/\
   ∀k,c'[k]? =if o+i<=k/\k<o+i+vs.length then vs[k - (o+i)]? else c[k]? :=by
 induction vs with
 | nil=>
  intro w b o i c ty h _ _;refine ⟨c,?_,rfl,?_⟩
  ·have e:dV w b c ty=w:=by
    have hb:=f5 h;have e2:w.heap.setIfInBounds b (.cells c ty (0,0))=w.heap:=by
     apply FM;intro k;rw [Array.getElem?_setIfInBounds];by_cases hk:b=k
     ·subst hk;rw [a9 rfl,a9 hb,h]
     ·rw [a8 hk]
    unfold dV;rw [e2]
   rw [e];rfl
  ·intro k;have:¬(o+i<=k/\k<o+i+([]:List Value).length):=by simp
   rw [a8 this]
 | cons v vs ih=>
  intro w b o i c ty h hs h1;have ha:(Addr.add ⟨b,o,none⟩ i:Addr)=⟨b,o+i,none⟩:=by
   unfold Addr.add;by_cases hi:i=0<;>simp [hi]
  have hlt:o+i<c.size:=by simp at hs;omega
  have hcell:w.cell? ⟨b,o+i,none⟩=some c[o+i]:=cell_iff.2 ⟨c,ty,(0,0),h,by simp [hlt]⟩;have hfz:w.frozen? ⟨b,o+i,none⟩=false:=by
   simp [World.frozen?,h]
  have hb:=f5 h;have h2:(dV w b (c.setIfInBounds (o+i) v) ty).heap[b]? =some (.cells (c.setIfInBounds (o+i) v) ty (0,0)):=by
   rw [mU _ _ _ _ hb,a9 rfl]
  obtain ⟨c',e1,e2,e3⟩:=ih (dV w b (c.setIfInBounds (o+i) v) ty) b o (i+1) (c.setIfInBounds (o+i) v) ty h2
   (by simp at hs ⊢;omega) (fun u hu=>h1 u (wI _ hu))
  refine ⟨c',?_,by simpa using e2,?_⟩
  ·simp only [storeCells,Sem.run_bind,ha];rw [run_store P w _ _ _ (h1 v FL),hcell];simp only [hfz,eM,if_false,Result.andThen_ok];rw [Ca h,e1,Dk]
  ·intro k;rw [e3 k];by_cases hk:o+(i+1)<=k/\k<o+(i+1)+vs.length
   ·rw [a9 hk,a9 (by simp;omega)];have:k - (o+i)=(k - (o+(i+1)))+1:=by omega
    rw [this,List.getElem?_cons_succ]
   ·rw [a8 hk];by_cases hk2:k=o+i
    ·subst hk2;rw [a9 (by simp)];simp [hlt]
    ·rw [a8 (by simp;omega)];rw [Array.getElem?_setIfInBounds,a8 (by omega)]
end Go.Av
namespace Go.Av
theorem lR (b o k:Nat):(Addr.add ⟨b,o,none⟩ k:Addr)=⟨b,o+k,none⟩:=by
 unfold Addr.add;by_cases h:k=0<;>simp [h]
section runs
variable {P:Program} (w:World)
theorem QF {t:TypeId} {i:TypeInfo} (h:P.info? t=some i):(typeInfo t).run P w= .ok i w:=by simp [typeInfo,h]
theorem aX {t:TypeId} {d:TypeDesc} (h:P.underlying t=some d):(underlying t).run P w= .ok d w:=by simp [underlying,h]
theorem EX {t:TypeId} {n:Nat} (h:szOf P t=some n):∃i,P.info? t=some i/\i.size=n:=by
 unfold szOf at h;cases hi:P.info? t with
 | none=>rw [hi] at h;cases h
 | some i=>rw [hi] at h;exact ⟨i,rfl,by simpa using h⟩
theorem gA {t:TypeId} {n:Nat} (h:szOf P t=some n):(sizeOf t).run P w= .ok n w:=by
 obtain ⟨i,h1,h2⟩:=EX h;simp [sizeOf,QF w h1,h2]
theorem R0 {t:TypeId} {g:Bool} (h:bY P t=some g):(isAgg t).run P w= .ok g w:=by
 unfold bY at h;cases hu:P.underlying t with
 | none=>simp [hu] at h
 | some d=>cases d<;>simp [hu] at h<;>subst h<;>simp [isAgg,aX w hu]
theorem CA (k:IntKind) (n:Int):(asIntOf (.int k n)).run P w= .ok (k,n) w:=rfl
theorem Dm (b o:Nat) (vs:List Value) (h:∀(j:Nat) v,vs[j]? =some v->w.cell? ⟨b,o+j,none⟩=some v):
  (loadCells ⟨b,o,none⟩ vs.length).run P w= .ok vs.toArray w:=
 run_loadCells_list w ⟨b,o,none⟩ vs (fun j v hj=>by rw [lR];exact h j v hj)
theorem He {t:TypeId} {g:Bool} {n:Nat} (hg:bY P t=some g) (hn:szOf P t=some n) (b o:Nat) (vs:List Value) (hl:vs.length=n)
  (h:∀(j:Nat) v,vs[j]? =some v->w.cell? ⟨b,o+j,none⟩=some v) (hgt:g=true):
  (loadVar t ⟨b,o,none⟩).run P w= .ok (.agg vs.toArray) w:=by
 subst hgt;simp only [loadVar,Sem.run_bind,R0 w hg,Result.andThen_ok,if_true,gA w hn];rw [<- hl,Dm w b o vs h];rfl
theorem Fp {t:TypeId} (hg:bY P t=some false) (b o:Nat) (v:Value) (h:w.cell? ⟨b,o,none⟩=some v):
  (loadVar t ⟨b,o,none⟩).run P w= .ok v w:=by
 simp [loadVar,R0 w hg,h]
end runs
def EnvR (F:Nat->Nat->Prop) (w:World) (Z:Beta) (H:AH) (e:Env) (tm:Array Value):Prop:=
 ∀t y,look t e=some y->∃v,tm[t]? =some v/\VRH F w Z H y v
theorem Tr.env {F:Nat->Nat->Prop} {w w':World} {Z Z':Beta} {H H':AH} (h:Tr w Z H w' Z' H') {e:Env} {tm:Array Value}
  (he:EnvR F w Z H e tm):EnvR F w' Z' H' e tm:=fun t y ht=>let ⟨v,h1,h2⟩:=he t y ht;⟨v,h1,h.vr h2⟩
section vals
variable {F:Nat->Nat->Prop} {w:World} {Z:Beta} {H:AH}
theorem Cj {a:AV} {v:Value} (h:NP a v=true):VRH F w Z H a v/\v.oneCell'=true:=by
 unfold NP at h;split at h
 ·simp at h;subst h;exact ⟨.d (.bool _),rfl⟩
 ·simp at h;obtain ⟨rfl,rfl⟩:=h;exact ⟨.d (.int _ _),rfl⟩
 ·rename_i s;have:s=⟨#[]⟩:=by
   have hs:s.size=0:=by simpa using h
   cases s with
   | mk d=>simp [ByteArray.size] at hs;subst hs;rfl
  subst this;exact ⟨.d (.str []),rfl⟩
 ·exact ⟨.d .nilptr,rfl⟩
 ·exact ⟨.l ⟨.slice0 _ _ _,_,0,rfl⟩,rfl⟩
 ·exact ⟨.d .nilmap,rfl⟩
 ·exact ⟨.d .nilfunc,rfl⟩
 ·exact ⟨.d .niliface,rfl⟩
 ·cases h
theorem N4:∀{cs:List AV} {vs:List Value},mX cs vs=true->cs.length=vs.length/\(∀v∈vs,v.oneCell'=true)/\
  ∀(i:Nat) x v,cs[i]? =some x->vs[i]? =some v->VRH F w Z H x v
 | [],[],_=>⟨rfl,by simp,by simp⟩
 | a::r,v::s,h=>by
  simp only [mX,QA] at h;obtain ⟨h1,h2⟩:=Cj (F:=F) (w:=w) (Z:=Z) (H:=H) h.1;obtain ⟨k1,k2,k3⟩:=N4 h.2;refine ⟨by simp [k1],?_,?_⟩
  ·intro u hu;rcases lW.1 hu with rfl | hu
   ·exact h2
   ·exact k2 u hu
  ·intro i x u hx hu;cases i with
   | zero=>simp at hx hu;subst hx;subst hu;exact h1
   | succ i=>simp at hx hu;exact k3 i x u hx hu
 | [],_::_,h=>by simp [mX] at h
 | _::_,[],h=>by simp [mX] at h
theorem N9 {P:Program} {t:TypeId} {z:List AV} (h:eP P t=some z):∃i v,P.info? t=some i/\i.zero=some v/\mX z v.cells.toList=true:=by
 unfold eP at h;split at h
 ·rename_i z' v h1 h2;split at h
  ·rename_i hm;cases h;cases hi:P.info? t with
   | none=>rw [hi] at h2;cases h2
   | some i=>rw [hi] at h2;exact ⟨i,v,rfl,h2,hm⟩
  ·cases h
 ·cases h
theorem U7 {P:Program} (w:World) {t:TypeId} {i:TypeInfo} {v:Value} (h:P.info? t=some i) (hz:i.zero=some v):
  (zeroValue t).run P w= .ok v w:=by simp [zeroValue,QF w h,hz]
theorem Ei {P:Program} {t:TypeId} {v:Value} {x:AV} (h:cVal P t v=some x):VRH F w Z H x v:=by
 unfold cVal at h;split at h
 ·cases h;exact .d (.bool _)
 ·cases h;exact .d (.int _ _)
 ·rename_i s;cases h;have:s=⟨s.data.toList.toArray⟩:=by cases s;simp
  exact .d (by rw [this];exact .str _)
 ·cases h;exact .d .nilptr
 ·split at h
  ·rename_i e _;cases hz:szOf P e with
   | none=>rw [hz] at h;cases h
   | some z=>rw [hz] at h;cases h;exact .l ⟨.slice0 _ _ _,_,0,rfl⟩
  ·cases h
 ·cases h;exact .d .nilmap
 ·cases h;exact .d .nilfunc
 ·cases h;exact .d .niliface
 ·rename_i cs;split at h
  ·rename_i z hz;split at h
   ·rename_i hm;cases h;obtain ⟨h1,h2,h3⟩:=N4 (F:=F) (w:=w) (Z:=Z) (H:=H) hm;exact .agg z cs (by simpa using h1) (fun v hv=>h2 v (by simpa using hv)) (fun i x v hx hv=>h3 i x v hx (by simpa using hv))
   ·cases h
  ·cases h
 all_goals cases h
theorem Gq {P:Program} {t:TypeId} {x:Operand} {ax:AX} {e:Env} {a:Act} {y:AV} (h:cX P t x=some ax) (hy:evX e ax=some y)
  (he:EnvR F w Z H e a.tmps):VRH F w Z H y (a.eval x):=by
 cases x with
 | tmp n=>
  cases h;obtain ⟨v,h1,h2⟩:=he n y hy;have:a.eval (.tmp n)=v:=by simp [Act.eval,nH,h1]
  rw [this];exact h2
 | const v=>
  simp only [cX] at h;cases hc:cVal P t v with
  | none=>rw [hc] at h;cases h
  | some c=>
   rw [hc] at h;cases h;cases hy;exact Ei hc
 | func f=>
  cases h;cases hy;exact .d (.func _ [] [] #[] #[] rfl rfl (by simp) (by simp))
 | global g=>cases h
end vals
theorem vD {U Z:Type} {f:U->Option Z}:∀{l:List U} {r:List Z},mapO f l=some r->l.length=r.length/\∀(i:Nat) a,l[i]? =some a->∃b,r[i]? =some b/\f a=some b
 | [],r,h=>by simp [mapO] at h;subst h;simp
 | a::l,r,h=>by
  simp only [mapO] at h;split at h
  ·cases h
  ·rename_i b hb;split at h
   ·cases h
   ·rename_i bs hbs;cases h;obtain ⟨h1,h2⟩:=vD hbs;refine ⟨by simp [h1],?_⟩;intro i x hx;cases i with
    | zero=>simp at hx;subst hx;exact ⟨b,by simp,hb⟩
    | succ i=>simp at hx;obtain ⟨c,h3,h4⟩:=h2 i x hx;exact ⟨c,by simpa using h3,h4⟩
theorem dC {U Z:Type} {f:U->Option Z} {l:List U} {r:List Z} (h:mapO f l=some r) {i:Nat} {b:Z} (hb:r[i]? =some b):
  ∃a,l[i]? =some a/\f a=some b:=by
 obtain ⟨h1,h2⟩:=vD h;have hi:i<r.length:=by
  rcases Qs i r.length with h' | h'
  ·exact h'
  ·simp [Qi h'] at hb
 have hl:i<l.length:=by omega
 obtain ⟨b',h3,h4⟩:=h2 i l[i] (by simp [hl]);rw [hb] at h3;cases h3;exact ⟨l[i],by simp [hl],h4⟩
end Go.Av
namespace Go.Av
section
variable {F:Nat->Nat->Prop} {B0:Nat} {w:World} {Z:Beta} {H:AH}
def PW (F:Nat->Nat->Prop) (w:World) (Z:Beta) (H:AH) (cs:List AV) (vs:List Value):Prop:=
 cs.length=vs.length/\(∀v∈vs,v.oneCell'=true)/\∀(i:Nat) x v,cs[i]? =some x->vs[i]? =some v->VRH F w Z H x v
theorem PW.agg {cs:List AV} {vs:List Value} (h:PW F w Z H cs vs):VRH F w Z H (.agg cs) (.agg vs.toArray):=
 .agg cs vs.toArray (by simpa using h.1) (fun v hv=>h.2.1 v (by simpa using hv)) (fun i x v hx hv=>h.2.2 i x v hx (by simpa using hv))
theorem PW.drop_take {cs:List AV} {vs:List Value} (h:PW F w Z H cs vs) (a n:Nat):PW F w Z H ((cs.drop a).take n) ((vs.drop a).take n):=by
 refine ⟨by simp [h.1],fun v hv=>h.2.1 v (nI (Qr hv)),?_⟩;intro i x v hx hv;rw [List.getElem?_take] at hx hv;by_cases hi:i<n
 ·rw [a9 hi,List.getElem?_drop] at hx hv;exact h.2.2 _ x v hx hv
 ·rw [a8 hi] at hx;cases hx
theorem PW.get {cs:List AV} {vs:List Value} (h:PW F w Z H cs vs) {i:Nat} {x:AV} (hx:cs[i]? =some x):∃v,vs[i]? =some v/\v.oneCell'=true/\VRH F w Z H x v:=by
 have hi:i<cs.length:=by
  rcases Qs i cs.length with h' | h'
  ·exact h'
  ·simp [Qi h'] at hx
 have hv:i<vs.length:=by rw [<- h.1];exact hi
 exact ⟨vs[i],by simp [hv],h.2.1 _ (Qd hv),h.2.2 i x _ hx (by simp [hv])⟩
theorem Gn {v:Value} (h:v.oneCell'=true):v.cells= #[v]:=by
 cases v<;>first | rfl | simp [Value.oneCell'] at h
theorem A' {x:AV} {v:Value} (h:Leaf F w Z H x v):v.oneCell'=true:=by
 cases x with
 | Xa esz es=>obtain ⟨_,a,len,rfl⟩:=h;rfl
 | app esz es t=>
  obtain ⟨_,h,_⟩:=h;cases h<;>rfl
 | ptr id e i o=>obtain ⟨_,⟨b,k,rfl⟩,_⟩:=h;rfl
 | row id e i o=>obtain ⟨_,⟨b,k,rfl,_⟩,_⟩:=h;rfl
 | map id=>obtain ⟨_,⟨b,rfl⟩,_⟩:=h;rfl
 | _=>exact h.elim
theorem EU {x:AV} {v:Value} {xs:List AV} (hc:x.cells=some xs) (h:VRH F w Z H x v):PW F w Z H xs v.cells.toList:=by
 have one:∀{x:AV} {v:Value},VRH F w Z H x v->v.oneCell'=true->PW F w Z H [x] v.cells.toList:=by
  intro x v h ho;rw [Gn ho];refine ⟨rfl,by simpa using ho,?_⟩;intro i y u hy hu;cases i with
  | zero=>simp at hy hu;subst hy;subst hu;exact h
  | succ i=>simp at hy
 have hh:=h;cases h with
 | agg cs vs hl h1 h=>
  cases hc;exact ⟨by simpa [Value.cells] using hl,fun v hv=>h1 v (by simpa [Value.cells] using hv),fun i x v hx hv=>h i x v hx (by simpa [Value.cells] using hv)⟩
 | tup=>cases hc
 | iface t y u hy=>cases hc;exact one hh rfl
 | func=>cases hc;exact one hh rfl
 | l hl=>
  have ho:=A' hl;cases x<;>first
   | (cases hc;exact one hh ho)
   | exact hl.elim
 | d hd=>
  cases hd<;>first
   | (cases hc;exact one hh rfl)
   | (cases hc;exact one hh (by assumption))
   | cases hc
  rename_i vs h1 hl h;exact ⟨by simpa [Value.cells] using hl,fun v hv=>h1 v (by simpa [Value.cells] using hv),fun i x v hx hv=> .d (h i x v hx (by simpa [Value.cells] using hv))⟩
theorem QE {P:Program} {t:TypeId} {g:Bool} {n off:Nat} {cs:List AV} {vs:List Value} {y:AV} (hg:bY P t=some g) (hn:szOf P t=some n)
  (hp:PW F w Z H cs vs) (hy:part g off n cs=some y) (W:World):
  ∃v,(Go.part t vs.toArray off).run P W= .ok v W/\VRH F w Z H y v:=by
 unfold part at hy;cases g with
 | true=>
  simp only [if_true] at hy;split at hy
  ·rename_i hle;cases hy;refine ⟨.agg ((vs.drop off).take n).toArray,?_,(hp.drop_take off n).agg⟩;simp only [Go.part,Sem.run_bind,R0 W hg,Result.andThen_ok,if_true,gA W hn,Sem.run_pure];congr 2;apply FM;intro k;have:off+n<=vs.length:=by rw [<- hp.1];exact hle
   simp only [Array.getElem?_extract,List.getElem?_toArray,List.getElem?_take,List.getElem?_drop,List.size_toArray];by_cases hk:k<n
   ·rw [a9 hk,a9 (by omega)]
   ·rw [a8 hk,a8 (by omega)]
  ·cases hy
 | false=>
  simp only [eM,if_false] at hy;obtain ⟨v,h1,_,h2⟩:=hp.get hy;refine ⟨v,?_,h2⟩;simp only [Go.part,Sem.run_bind,R0 W hg,Result.andThen_ok,eM,if_false,List.getElem?_toArray,h1,Sem.run_pure]
theorem YN {P:Program} {t:TypeId} {g:Bool} {n off b k:Nat} {cs:List AV} {vs:List Value} {y:AV} (hg:bY P t=some g) (hn:szOf P t=some n)
  (hp:PW F w Z H cs vs) (hc:∀(j:Nat) v,vs[j]? =some v->w.cell? ⟨b,k+j,none⟩=some v) (hy:part g off n cs=some y):
  ∃v,(loadVar t ⟨b,k+off,none⟩).run P w= .ok v w/\VRH F w Z H y v:=by
 unfold part at hy;cases g with
 | true=>
  simp only [if_true] at hy;split at hy
  ·rename_i hle;cases hy;refine ⟨.agg ((vs.drop off).take n).toArray,?_,(hp.drop_take off n).agg⟩;refine He w hg hn b (k+off) _ ?_ ?_ rfl
   ·have:=hp.1;simp;omega
   ·intro j v hj;rw [List.getElem?_take] at hj;split at hj
    ·rw [List.getElem?_drop] at hj;have:=hc _ v hj;rw [A6];exact this
    ·cases hj
  ·cases hy
 | false=>
  simp only [eM,if_false] at hy;obtain ⟨v,h1,_,h2⟩:=hp.get hy;exact ⟨v,Fp w hg b _ v (hc off v h1),h2⟩
theorem Lu {esz i b o:Nat} {es:List (List AV)} {cs:List AV} {c:Array Value} (hb:Blk w b c) (hs:o+es.length*esz<=c.size) (hz:∀e∈es,e.length=esz)
  (hc:∀(i j:Nat) e x,es[i]? =some e->e[j]? =some x->∃v,c[o+i*esz+j]? =some v/\v.oneCell'=true/\VRH F w Z H x v)
  (hi:es[i]? =some cs):∃vs,PW F w Z H cs vs/\(∀(j:Nat) v,vs[j]? =some v->w.cell? ⟨b,o+i*esz+j,none⟩=some v)/\
   vs=(c.toList.drop (o+i*esz)).take esz:=by
 have hlen:cs.length=esz:=hz cs (Qe hi);have hil:i<es.length:=by
  rcases Qs i es.length with h' | h'
  ·exact h'
  ·simp [Qi h'] at hi
 have hmul:i*esz+esz<=es.length*esz:=by
  have:(i+1)*esz<=es.length*esz:=Qh _ hil;rw [cG] at this;omega
 refine ⟨_,⟨by simp;omega,?_,?_⟩,?_,rfl⟩
 ·intro v hv;obtain ⟨j,hj,rfl⟩:=Ql.1 hv;have hj':j<esz:=by simp at hj;omega
  obtain ⟨u,h1,h2,h3⟩:=hc i j cs cs[j] hi (by simp [hlen,hj']);have:((c.toList.drop (o+i*esz)).take esz)[j]=u:=by
   have e1:((c.toList.drop (o+i*esz)).take esz)[j]? =some u:=by
    rw [List.getElem?_take,a9 hj',List.getElem?_drop,Array.getElem?_toList,h1]
   rw [Qa hj] at e1;exact Option.some.inj e1
  rw [this];exact h2
 ·intro j x v hx hv;obtain ⟨u,h1,h2,h3⟩:=hc i j cs x hi hx;rw [List.getElem?_take] at hv;split at hv
  ·rw [List.getElem?_drop,Array.getElem?_toList,h1] at hv;cases hv;exact h3
  ·cases hv
 ·intro j v hv;rw [List.getElem?_take] at hv;split at hv
  ·rw [List.getElem?_drop,Array.getElem?_toList] at hv;obtain ⟨ty,hb⟩:=hb;exact cell_iff.2 ⟨c,ty,(0,0),hb,hv⟩
  ·cases hv
end
end Go.Av
namespace Go.Av
variable {nx:Nat}
section
variable {F:Nat->Nat->Prop} {B0:Nat} {w:World} {Z:Beta} {H:AH}
theorem iR {b:Bool} {v:Value} (h:VRH F w Z H (.bool b) v):v= .bool b:=by
 cases h with
 | d h=>cases h;rfl
 | l h=>exact h.elim
theorem cM {k:IntKind} {n:Int} {v:Value} (h:VRH F w Z H (.int k n) v):v= .int k n:=by
 cases h with
 | d h=>cases h;rfl
 | l h=>exact h.elim
theorem gP {s:List UInt8} {v:Value} (h:VRH F w Z H (.str s) v):v= .string ⟨s.toArray⟩:=by
 cases h with
 | d h=>cases h;rfl
 | l h=>exact h.elim
theorem CC {v:Value} (h:VRH F w Z H .nilptr v):v= .pointer none:=by
 cases h with
 | d h=>cases h;rfl
 | l h=>exact h.elim
theorem QI {v:Value} (h:VRH F w Z H .nilfunc v):v= .nilFunc:=by
 cases h with
 | d h=>cases h;rfl
 | l h=>exact h.elim
theorem N8 {v:Value} (h:VRH F w Z H .niliface v):v= .nilIface:=by
 cases h with
 | d h=>cases h;rfl
 | l h=>exact h.elim
theorem Q7 {v:Value} (h:VRH F w Z H .nilmap v):v= .map none:=by
 cases h with
 | d h=>cases h;rfl
 | l h=>exact h.elim
theorem vL {cs:List AV} {v:Value} (h:VRH F w Z H (.agg cs) v):∃vs:Array Value,v= .agg vs/\PW F w Z H cs vs.toList:=by
 have:=EU (x:= .agg cs) rfl h;cases h with
 | d h=>cases h;exact ⟨_,rfl,this⟩
 | l h=>exact h.elim
 | agg=>exact ⟨_,rfl,this⟩
theorem RC {cs:List AV} {v:Value} (h:VRH F w Z H (.tup cs) v):∃vs:Array Value,v= .tuple vs/\cs.length=vs.size/\
  ∀(i:Nat) x u,cs[i]? =some x->vs[i]? =some u->VRH F w Z H x u:=by
 cases h with
 | d h=>cases h with
  | tup _ vs hl h=>exact ⟨vs,rfl,hl,fun i x u hx hu=> .d (h i x u hx hu)⟩
 | l h=>exact h.elim
 | tup _ vs hl h=>exact ⟨vs,rfl,hl,h⟩
theorem DT {t:TypeId} {x:AV} {v:Value} (h:VRH F w Z H (.iface t x) v):∃u,v= .iface t u/\VRH F w Z H x u:=by
 cases h with
 | d h=>cases h with
  | iface _ _ u h=>exact ⟨u,rfl,.d h⟩
 | l h=>exact h.elim
 | iface _ _ u h=>exact ⟨u,rfl,h⟩
theorem DW {fn:Fn} {a b:List AV} {v:Value} (h:VRH F w Z H (.func fn a b) v):∃va vb:Array Value,v= .func fn va vb/\a.length=va.size/\b.length=vb.size/\
  (∀(i:Nat) x u,a[i]? =some x->va[i]? =some u->VRH F w Z H x u)/\(∀(i:Nat) x u,b[i]? =some x->vb[i]? =some u->VRH F w Z H x u):=by
 cases h with
 | d h=>cases h with
  | func _ _ _ va vb h1 h2 h3 h4=>exact ⟨va,vb,rfl,h1,h2,fun i x u hx hu=> .d (h3 i x u hx hu),fun i x u hx hu=> .d (h4 i x u hx hu)⟩
 | l h=>exact h.elim
 | func _ _ _ va vb h1 h2 h3 h4=>exact ⟨va,vb,rfl,h1,h2,h3,h4⟩
theorem yY {z:Nat} {es:List (List AV)} {v:Value} (h:VRH F w Z H (.slice z es) v):VRD w (Imm F Z H) (.slice z es) v:=by
 cases h with
 | d h=>exact h
 | l h=>exact h.elim
theorem CE {z i o:Nat} {es:List (List AV)} {v:Value} (h:VRH F w Z H (.iptr z es i o) v):VRD w (Imm F Z H) (.iptr z es i o) v:=by
 cases h with
 | d h=>exact h
 | l h=>exact h.elim
theorem mF {z:Nat} {es:List (List AV)} {v:Value} (h:VRH F w Z H (.Xa z es) v):VRD w (Imm F Z H) (.slice z es) v/\∃a len,v= .slice a len len:=by
 cases h with
 | d h=>cases h
 | l h=>exact h
theorem z9 {z t:Nat} {es:List (List AV)} {v:Value} (h:VRH F w Z H (.app z es t) v):Leaf F w Z H (.app z es t) v:=by
 cases h with
 | d h=>cases h
 | l h=>exact h
theorem mW {a b c d:Nat} {v:Value} (h:VRH F w Z H (.ptr a b c d) v):Leaf F w Z H (.ptr a b c d) v:=by
 cases h with
 | d h=>cases h
 | l h=>exact h
theorem lT {a b c d:Nat} {v:Value} (h:VRH F w Z H (.row a b c d) v):Leaf F w Z H (.row a b c d) v:=by
 cases h with
 | d h=>cases h
 | l h=>exact h
theorem VF {a:Nat} {v:Value} (h:VRH F w Z H (.map a) v):Leaf F w Z H (.map a) v:=by
 cases h with
 | d h=>cases h
 | l h=>exact h
theorem fF {imm:Nat->Nat->Prop} {z:Nat} {es:List (List AV)} {v:Value} (h:VRD w imm (.slice z es) v):
  ∃a cap,v= .slice a es.length cap/\es.length<=cap/\(es=[]\/∃b o,a=some ⟨b,o,none⟩/\(∀e∈es,e.length=z)/\∃vs:Nat->Nat->Value,
   (∀(i j:Nat) e x,es[i]? =some e->e[j]? =some x->imm b (o+i*z+j)/\w.cell? ⟨b,o+i*z+j,none⟩=some (vs i j)/\(vs i j).oneCell'=true)/\
   (∀(i j:Nat) e x,es[i]? =some e->e[j]? =some x->VRD w imm x (vs i j))):=by
 cases h with
 | slice0 _ a cap=>exact ⟨a,cap,rfl,Qc _,.inl rfl⟩
 | slice _ _ b o cap vs hne hz hcap hc h=>exact ⟨_,cap,rfl,hcap,.inr ⟨b,o,rfl,hz,vs,hc,h⟩⟩
theorem Md {z i b o:Nat} {es:List (List AV)} {cs:List AV} {vs:Nat->Nat->Value} (hz:∀e∈es,e.length=z)
  (hc:∀(i j:Nat) e x,es[i]? =some e->e[j]? =some x->Imm F Z H b (o+i*z+j)/\w.cell? ⟨b,o+i*z+j,none⟩=some (vs i j)/\(vs i j).oneCell'=true)
  (h:∀(i j:Nat) e x,es[i]? =some e->e[j]? =some x->VRD w (Imm F Z H) x (vs i j)) (hi:es[i]? =some cs):
  PW F w Z H cs ((List.range z).map (vs i))/\∀(j:Nat) v,((List.range z).map (vs i))[j]? =some v->w.cell? ⟨b,o+i*z+j,none⟩=some v:=by
 have hlen:cs.length=z:=hz cs (Qe hi);have key:∀(j:Nat) v,((List.range z).map (vs i))[j]? =some v->j<z/\v=vs i j:=by
  intro j v hv;rw [List.getElem?_map] at hv;rcases Qs j z with hj | hj
  ·rw [List.getElem?_range hj] at hv;exact ⟨hj,(by simpa using hv.symm)⟩
  ·rw [Qi (by simpa using hj)] at hv;cases hv
 refine ⟨⟨by simp [hlen],?_,?_⟩,?_⟩
 ·intro v hv;obtain ⟨j,hj,rfl⟩:=vZ.1 hv;have hj':j<cs.length:=by rw [hlen];simpa using hj
  exact (hc i j cs cs[j] hi (by simp [hj'])).2.2
 ·intro j x v hx hv;obtain ⟨_,rfl⟩:=key j v hv;exact .d (h i j cs x hi hx)
 ·intro j v hv;obtain ⟨hj,rfl⟩:=key j v hv;have hj':j<cs.length:=by rw [hlen];exact hj
  exact (hc i j cs cs[j] hi (by simp [hj'])).2.1
theorem V' {P:Program} {t:TypeId} {g:Bool} {n:Nat} {e:Env} {ax:AX} {y px:AV} {H':AH} {v0:Value} (hr:HR F B0 w Z H)
  (hg:bY P t=some g) (hn:szOf P t=some n) (hpx:evX e ax=some px) (hv:VRH F w Z H px v0) (hev:evOp e nx H (.load g n ax)=some (y,H')):
  ∃v,(Instr.loadAt t v0).run P w= .ok v w/\VRH F w Z H y v/\H'=H:=by
 simp only [evOp,hpx] at hev;split at hev
 ·rename_i id esz i off heq;cases heq;obtain ⟨_,_,h3⟩:=mW hv;split at hev
  ·rename_i esz' es hget;split at hev
   ·rename_i hz;subst hz;split at hev
    ·rename_i cs hcs;cases hp:Av.part g off n cs with
     | none=>rw [hp] at hev;cases hev
     | some y'=>
      rw [hp] at hev;cases hev;obtain ⟨b,o,k1,k2⟩:=h3 _ _ hget;obtain ⟨b',o',c,m1,m2,m3,m4,m5,m6⟩:=hr.obj id _ hget;rw [k1] at m1;cases m1;obtain ⟨vs,p1,p2,_⟩:=Lu m3 m4 m5 m6 hcs;obtain ⟨v,q1,q2⟩:=YN (P:=P) hg hn p1 p2 hp;refine ⟨v,?_,q2,rfl⟩;subst k2;simpa [Instr.loadAt,Instr.sureAddr] using q1
    ·cases hev
   ·cases hev
  ·cases hev
 ·rename_i z es i off heq;cases heq;have h3:=CE hv;split at hev
  ·rename_i cs hcs;cases hp:Av.part g off n cs with
   | none=>rw [hp] at hev;cases hev
   | some y'=>
    rw [hp] at hev;cases hev;cases h3 with
    | iptr _ _ _ _ b o vs hz hc h=>
     obtain ⟨p1,p2⟩:=Md hz hc h hcs;obtain ⟨v,q1,q2⟩:=YN (P:=P) hg hn p1 p2 hp;exact ⟨v,by simpa [Instr.loadAt,Instr.sureAddr] using q1,q2,rfl⟩
  ·cases hev
 ·cases hev
theorem XV {P:Program} {t:TypeId} {i:Nat} {f:Field} (h:CJ P t i=some f):∃fs,P.underlying t=some (.struct fs)/\fs[i]? =some f:=by
 unfold CJ at h;split at h
 ·rename_i fs hu;exact ⟨fs,hu,h⟩
 ·cases h
theorem Cu {P:Program} (W:World) {f:Field} (h:szOf P f.type≠some 0) {n:Nat} (hn:szOf P f.type=some n) (b k:Nat):
  (fieldPlace ⟨b,k,none⟩ f).run P W= .ok ⟨b,k+f.offset,none⟩ W:=by
 have:n≠0:=by intro e;subst e;exact h hn
 simp [fieldPlace,gA W hn,this,lR]
theorem Im {P:Program} {t:TypeId} {i:Nat} {f:Field} {n:Nat} {e:Env} {ax:AX} {y px:AV} {H':AH} {v0:Value}
  (hf:CJ P t i=some f) (hn:szOf P f.type=some n) (h0:szOf P f.type≠some 0)
  (hpx:evX e ax=some px) (hv:VRH F w Z H px v0) (hev:evOp e nx H (.faddr f.offset ax)=some (y,H')):
  ∃v,(Instr.fieldAt t v0 i).run P w= .ok v w/\VRH F w Z H y v/\H'=H:=by
 obtain ⟨fs,hu,hfi⟩:=XV hf;simp only [evOp,hpx] at hev;have run:∀b k,v0= .pointer (some ⟨b,k,none⟩)->(Instr.fieldAt t v0 i).run P w= .ok (.pointer (some ⟨b,k+f.offset,none⟩)) w:=by
  intro b k e;subst e;simp [Instr.fieldAt,aX w hu,hfi,Instr.sureAddr,Cu w h0 hn]
 split at hev
 ·rename_i id esz j o heq;cases heq;cases hev;obtain ⟨h1,⟨b,k,h2⟩,h3⟩:=mW hv;refine ⟨_,run b k h2,.l ⟨h1,⟨b,_,rfl⟩,?_⟩,rfl⟩;intro z es hl;obtain ⟨b',o',k1,k2⟩:=h3 z es hl;rw [h2] at k2;cases k2;exact ⟨b,o',k1,by simp [A6]⟩
 ·rename_i z es j o heq;cases heq;cases hev;have h3:=CE hv;cases h3 with
  | iptr _ _ _ _ b o' vs hz hc h=>
   refine ⟨_,run b _ rfl,.d ?_,rfl⟩;have:=VRD.iptr (w:=w) (imm:=Imm F Z H) z es j (o+f.offset) b o' vs hz hc h;simpa [A6] using this
 ·cases hev
theorem Mn {P:Program} {t:TypeId} {i:Nat} {f:Field} {g:Bool} {n:Nat} {e:Env} {ax:AX} {y px:AV} {H':AH} {v0:Value}
  (hf:CJ P t i=some f) (hg:bY P f.type=some g) (hn:szOf P f.type=some n)
  (hpx:evX e ax=some px) (hv:VRH F w Z H px v0) (hev:evOp e nx H (.fld g f.offset n ax)=some (y,H')):
  ∃v,(Instr.field t v0 i).run P w= .ok v w/\VRH F w Z H y v/\H'=H:=by
 obtain ⟨fs,hu,hfi⟩:=XV hf;simp only [evOp,hpx] at hev;split at hev
 ·rename_i cs heq;cases heq;cases hp:Av.part g f.offset n cs with
  | none=>rw [hp] at hev;cases hev
  | some y'=>
   rw [hp] at hev;cases hev;obtain ⟨vs,rfl,h1⟩:=vL hv;obtain ⟨v,k1,k2⟩:=QE (P:=P) hg hn h1 hp w;refine ⟨v,?_,k2,rfl⟩;simp [Instr.field,aX w hu,hfi,asAgg];simpa using k1
 ·cases hev
theorem DR {v:AV} {len k:Nat} (h:idx v len=some k):∃q n,v= .int q n/\0<=n/\n<len/\n.toNat=k:=by
 unfold idx at h;split at h
 ·rename_i q n;split at h
  ·rename_i hh;cases h;exact ⟨q,n,rfl,hh.1,hh.2,rfl⟩
  ·cases h
 ·cases h
theorem QM {v:AV} {hi k:Nat} (h:bnd v hi=some k):∃q n,v= .int q n/\0<=n/\n<=hi/\n.toNat=k/\k<=hi:=by
 unfold bnd at h;split at h
 ·rename_i q n;split at h
  ·rename_i hh;cases h;exact ⟨q,n,rfl,hh.1,hh.2,rfl,by omega⟩
  ·cases h
 ·cases h
theorem Mm {P:Program} {i:Nat} {e:Env} {ax:AX} {y px:AV} {H':AH} {v0:Value}
  (hpx:evX e ax=some px) (hv:VRH F w Z H px v0) (hev:evOp e nx H (.ext i ax)=some (y,H')):
  ∃v,(Instr.extract v0 i).run P w= .ok v w/\VRH F w Z H y v/\H'=H:=by
 simp only [evOp,hpx] at hev;split at hev
 ·rename_i vs heq;cases heq;split at hev
  ·rename_i x hx;cases hev;obtain ⟨us,rfl,h1,h2⟩:=RC hv;have hi:i<us.size:=by
    rw [<- h1];rcases Qs i vs.length with h' | h'
    ·exact h'
    ·simp [Qi h'] at hx
   exact ⟨us[i],by simp [Instr.extract,hi],h2 i y _ hx (by simp [hi]),rfl⟩
  ·cases hev
 ·cases hev
theorem Jl {P:Program} {t:TypeId} {e:Env} {ax ai:AX} {y px pi:AV} {H':AH} {v0 vi:Value} (hu:P.underlying t=some .string)
  (hpx:evX e ax=some px) (hpi:evX e ai=some pi) (hv:VRH F w Z H px v0) (hvi:VRH F w Z H pi vi) (hev:evOp e nx H (.idxs ax ai)=some (y,H')):
  ∃v,(Instr.index t v0 vi).run P w= .ok v w/\VRH F w Z H y v/\H'=H:=by
 simp only [evOp,hpx,hpi] at hev;split at hev
 ·rename_i s iv heq1 heq2;cases heq1;cases heq2;split at hev
  ·rename_i k hk;split at hev
   ·rename_i b hb;cases hev;obtain ⟨q,n,rfl,h1,h2,rfl⟩:=DR hk;rw [gP hv,cM hvi];refine ⟨.int .u8 b.toNat,?_,.d (.int _ _),rfl⟩;have hb':(⟨s.toArray⟩:ByteArray)[n.toNat]? =some b:=by
     have hlt:n.toNat<s.length:=by omega
     have:n.toNat<(⟨s.toArray⟩:ByteArray).size:=by simpa [ByteArray.size] using hlt
     rw [getElem?_pos (⟨s.toArray⟩:ByteArray) n.toNat this];rw [Qa hlt] at hb;have:=Option.some.inj hb;rw [<- this];rfl
    simp [Instr.index,CA,aX w hu,h1,hb']
   ·cases hev
  ·cases hev
 ·cases hev
theorem Jk {P:Program} {t el:TypeId} {len n:Nat} {g:Bool} {e:Env} {ax ai:AX} {y px pi:AV} {H':AH} {v0 vi:Value}
  (hu:P.underlying t=some (.array len el)) (hg:bY P el=some g) (hn:szOf P el=some n)
  (hpx:evX e ax=some px) (hpi:evX e ai=some pi) (hv:VRH F w Z H px v0) (hvi:VRH F w Z H pi vi) (hev:evOp e nx H (.idxa g len n ax ai)=some (y,H')):
  ∃v,(Instr.index t v0 vi).run P w= .ok v w/\VRH F w Z H y v/\H'=H:=by
 simp only [evOp,hpx,hpi] at hev;split at hev
 ·rename_i cs iv heq1 heq2;cases heq1;cases heq2;split at hev
  ·rename_i k hk;cases hp:Av.part g (k*n) n cs with
   | none=>rw [hp] at hev;cases hev
   | some y'=>
    rw [hp] at hev;cases hev;obtain ⟨q,m,rfl,h1,h2,rfl⟩:=DR hk;obtain ⟨vs,rfl,h3⟩:=vL hv;obtain ⟨v,k1,k2⟩:=QE (P:=P) hg hn h3 hp w;refine ⟨v,?_,k2,rfl⟩;rw [cM hvi];simp [Instr.index,CA,aX w hu,h1,h2,gA w hn];simpa using k1
  ·cases hev
 ·cases hev
theorem Co {P:Program} {t el:TypeId} {len z:Nat} {e:Env} {ax ai:AX} {y px pi:AV} {H':AH} {v0 vi:Value}
  (hu:P.underlying t=some (.array len el)) (hn:szOf P el=some z)
  (hpx:evX e ax=some px) (hpi:evX e ai=some pi) (hv:VRH F w Z H px v0) (hvi:VRH F w Z H pi vi) (hev:evOp e nx H (.iaddr z (some len) ax ai)=some (y,H')):
  ∃v,(Instr.indexAt t v0 vi).run P w= .ok v w/\VRH F w Z H y v/\H'=H:=by
 simp only [evOp,hpx,hpi] at hev;split at hev
 ·cases hev
 ·rename_i k hk;obtain ⟨q,m,rfl,h1,h2,rfl⟩:=DR hk;rw [cM hvi];have run:∀b k,v0= .pointer (some ⟨b,k,none⟩)->(Instr.indexAt t v0 (.int q m)).run P w= .ok (.pointer (some ⟨b,k+m.toNat*z,none⟩)) w:=by
   intro b k e;subst e;simp [Instr.indexAt,CA,aX w hu,Instr.sureAddr,h1,h2,gA w hn,lR]
  split at hev
  ·rename_i id z' j o;cases hev;obtain ⟨h1,⟨b,k,h2⟩,h3⟩:=mW hv;by_cases hz0:z'=z/\o=0
   ·rw [a9 hz0];obtain ⟨rfl,rfl⟩:=hz0;refine ⟨_,run b k h2,.l ⟨h1,⟨b,_,rfl⟩,?_⟩,rfl⟩;intro z es hl;obtain ⟨b',o',k1,k2⟩:=h3 z es hl;rw [h2] at k2;cases k2;exact ⟨b,o',k1,by simp [A6,cG]⟩
   ·rw [a8 hz0];refine ⟨_,run b k h2,.l ⟨h1,⟨b,_,rfl⟩,?_⟩,rfl⟩;intro z es hl;obtain ⟨b',o',k1,k2⟩:=h3 z es hl;rw [h2] at k2;cases k2;exact ⟨b,o',k1,by simp [A6]⟩
  ·rename_i z' es j o;cases hev;have h3:=CE hv;cases h3 with
   | iptr _ _ _ _ b o' vs hz hc h=>
    refine ⟨_,run b _ rfl,.d ?_,rfl⟩;have:=VRD.iptr (w:=w) (imm:=Imm F Z H) z' es j (o+m.toNat*z) b o' vs hz hc h;simpa [A6] using this
  ·cases hev
theorem XK {P:Program} {t el:TypeId} {z:Nat} (W:World) (hu:P.underlying t=some (.slice el)) (hn:szOf P el=some z) (b o len cap:Nat) (q:IntKind) (m:Int)
  (h1:0<=m) (h2:m<len):
  (Instr.indexAt t (.slice (some ⟨b,o,none⟩) len cap) (.int q m)).run P W= .ok (.pointer (some ⟨b,o+m.toNat*z,none⟩)) W:=by
 simp [Instr.indexAt,CA,aX W hu,h1,h2,gA W hn,lR]
theorem TW {P:Program} {t el:TypeId} {z:Nat} {es:List (List AV)} {v0:Value} {q:IntKind} {m:Int} (hu:P.underlying t=some (.slice el)) (hn:szOf P el=some z)
  (h:VRD w (Imm F Z H) (.slice z es) v0) (h1:0<=m) (h2:m<es.length):
  ∃v,(Instr.indexAt t v0 (.int q m)).run P w= .ok v w/\VRH F w Z H (.iptr z es m.toNat 0) v:=by
 obtain ⟨a,cap,rfl,_,h3⟩:=fF h;rcases h3 with rfl | ⟨b,o,rfl,hz,vs,hc,hd⟩
 ·simp at h2;omega
 ·refine ⟨_,XK w hu hn b o _ cap q m h1 h2,.d ?_⟩;exact VRD.iptr z es m.toNat 0 b o vs hz hc hd
theorem Ip {P:Program} {t el:TypeId} {z:Nat} {e:Env} {ax ai:AX} {y px pi:AV} {H':AH} {v0 vi:Value} (hr:HR F B0 w Z H)
  (hu:P.underlying t=some (.slice el)) (hn:szOf P el=some z)
  (hpx:evX e ax=some px) (hpi:evX e ai=some pi) (hv:VRH F w Z H px v0) (hvi:VRH F w Z H pi vi) (hev:evOp e nx H (.iaddr z none ax ai)=some (y,H')):
  ∃v,(Instr.indexAt t v0 vi).run P w= .ok v w/\VRH F w Z H y v/\H'=H:=by
 simp only [evOp,hpx,hpi] at hev;split at hev
 ·rename_i z' es;split at hev
  ·rename_i hz;subst hz;cases hk:idx pi es.length with
   | none=>rw [hk] at hev;cases hev
   | some k=>
    rw [hk] at hev;cases hev;obtain ⟨q,m,rfl,h1,h2,rfl⟩:=DR hk;rw [cM hvi];obtain ⟨v,k1,k2⟩:=TW (q:=q) hu hn (yY hv) h1 h2;exact ⟨v,k1,k2,rfl⟩
  ·cases hev
 ·rename_i z' es;split at hev
  ·rename_i hz;subst hz;cases hk:idx pi es.length with
   | none=>rw [hk] at hev;cases hev
   | some k=>
    rw [hk] at hev;cases hev;obtain ⟨q,m,rfl,h1,h2,rfl⟩:=DR hk;rw [cM hvi];obtain ⟨v,k1,k2⟩:=TW (q:=q) hu hn (mF hv).1 h1 h2;exact ⟨v,k1,k2,rfl⟩
  ·cases hev
 ·rename_i z' es tk;split at hev
  ·rename_i hz;subst hz;cases hk:idx pi es.length with
   | none=>rw [hk] at hev;cases hev
   | some k=>
    rw [hk] at hev;cases hev;obtain ⟨q,m,rfl,h1,h2,rfl⟩:=DR hk;rw [cM hvi];obtain ⟨v,k1,k2⟩:=TW (q:=q) hu hn (z9 hv).2.1 h1 h2;exact ⟨v,k1,k2,rfl⟩
  ·cases hev
 ·rename_i id z' off len;split at hev
  ·rename_i hz;subst hz;cases hk:idx pi len with
   | none=>rw [hk] at hev;cases hev
   | some k=>
    rw [hk] at hev;cases hev;obtain ⟨q,m,rfl,h1,h2,rfl⟩:=DR hk;rw [cM hvi];obtain ⟨k1,⟨base,cap,rfl,k3,k4⟩,k5⟩:=lT hv;have hb:∃b k,base=some ⟨b,k,none⟩:=by
     rcases k4 with rfl | k4
     ·simp at h2;omega
     ·exact k4
    obtain ⟨b,k,rfl⟩:=hb;refine ⟨_,XK w hu hn b k len cap q m h1 h2,.l ⟨k1,⟨b,_,rfl⟩,?_⟩,rfl⟩;intro zz es hl;obtain ⟨b',o',base',cap',c,e1,e2,e3,e4,_⟩:=k5 zz es hl;cases e2;rcases e4 with e4 | e4
    ·omega
    ·cases e4;exact ⟨_,o',e1,by rw [cG];congr 3;omega⟩
  ·cases hev
 ·cases hev
end
end Go.Av
namespace Go.Av
section
variable {F:Nat->Nat->Prop} {w:World} {Z:Beta} {H:AH}
theorem F0:∀{ks:List Kd} {xs ys:List AV} {r:Bool},eqLs ks xs ys=some r->xs.length=ks.length/\ys.length=ks.length
 | [],[],[],_,_=>⟨rfl,rfl⟩
 | k::ks,x::xs,y::ys,r,h=>by
  simp only [eqLs] at h;cases h1:eqKd k x y with
  | none=>rw [h1] at h;cases h
  | some a=>
   cases h2:eqLs ks xs ys with
   | none=>rw [h1,h2] at h;cases h
   | some b=>have:=F0 h2;simp [this]
 | [],[],_::_,_,h=>by simp [eqLs] at h
 | [],_::_,_,_,h=>by simp [eqLs] at h
 | _::_,[],_,_,h=>by simp [eqLs] at h
 | _::_,_::_,[],_,h=>by simp [eqLs] at h
theorem UB:∀{k1 k2:List Kd} {xs ys:List AV} {r:Bool},eqLs (k1++k2) xs ys=some r->
  ∃r1 r2,eqLs k1 (xs.take k1.length) (ys.take k1.length)=some r1/\eqLs k2 (xs.drop k1.length) (ys.drop k1.length)=some r2/\r=(r1&&r2)
 | [],k2,xs,ys,r,h=>⟨true,r,by simp [eqLs],by simpa using h,by simp⟩
 | k::k1,k2,xs,ys,r,h=>by
  have hl:=F0 h;cases xs with
  | nil=>simp at hl
  | cons x xs=>
   cases ys with
   | nil=>simp at hl
   | cons y ys=>
    simp only [FP,eqLs] at h;cases h1:eqKd k x y with
    | none=>rw [h1] at h;cases h
    | some a=>
     cases h2:eqLs (k1++k2) xs ys with
     | none=>rw [h1,h2] at h;cases h
     | some b=>
      rw [h1,h2] at h;cases h;obtain ⟨r1,r2,e1,e2,e3⟩:=UB h2;refine ⟨a&&r1,r2,?_,by simpa using e2,by rw [e3,Bool.and_assoc]⟩;simp [eqLs,h1,e1]
theorem U2 {k:Kd} {x y:AV} {r:Bool} (h:eqLs [k] [x] [y]=some r):eqKd k x y=some r:=by
 simp only [eqLs] at h;cases h1:eqKd k x y with
 | none=>rw [h1] at h;cases h
 | some a=>rw [h1] at h;simpa using h
def Fits (P:Program) (F:Nat->Nat->Prop) (w:World) (Z:Beta) (H:AH) (t:TypeId) (v:Value) (xs:List AV):Prop:=
 (bY P t=some true/\∃cs:Array Value,v= .agg cs/\PW F w Z H xs cs.toList)\/(bY P t=some false/\∃x,xs=[x]/\VRH F w Z H x v)
theorem EZ {P:Program} {t:TypeId} {cs:Array Value} {xs:List AV} {n off:Nat} {g:Bool} (hg:bY P t=some g) (hn:szOf P t=some n)
  (hp:PW F w Z H xs cs.toList) (hlen:off+n<=xs.length) (h1:g=false->n=1) (W:World):
  ∃v,(Go.part t cs off).run P W= .ok v W/\Fits P F w Z H t v ((xs.drop off).take n):=by
 cases g with
 | true=>
  have hpart:Av.part true off n xs=some (.agg ((xs.drop off).take n)):=by simp [part,hlen]
  obtain ⟨v,k1,k2⟩:=QE (P:=P) hg hn hp hpart W;obtain ⟨vs,rfl,k3⟩:=vL k2;exact ⟨.agg vs,by simpa using k1,.inl ⟨hg,vs,rfl,k3⟩⟩
 | false=>
  have e:=h1 rfl;subst e;have hi:off<xs.length:=by omega
  have hpart:Av.part false off 1 xs=some xs[off]:=by simp [part,hi]
  obtain ⟨v,k1,k2⟩:=QE (P:=P) hg hn hp hpart W;refine ⟨v,by simpa using k1,.inr ⟨hg,xs[off],?_,k2⟩⟩;rw [Qg hi];rfl
theorem QC {P:Program} {n:Nat} {t:TypeId} {ks:List Kd} (h:f6 P n t=some ks) (hg:bY P t=some false):ks.length=1:=by
 cases n with
 | zero=>cases h
 | succ n=>
  unfold f6 at h;unfold bY at hg;cases hu:P.underlying t with
  | none=>simp [hu] at h
  | some d=>cases d<;>simp [hu] at h hg<;>(try (subst h;rfl))
theorem YM {P:Program} {n:Nat} {t:TypeId} {ks:List Kd} (h:f6 P n t=some ks):∃g,bY P t=some g:=by
 cases n with
 | zero=>cases h
 | succ n=>
  unfold f6 at h;unfold bY;cases hu:P.underlying t with
  | none=>simp [hu] at h
  | some d=>cases d<;>simp
def EqOk (P:Program) (F:Nat->Nat->Prop) (w:World) (Z:Beta) (H:AH) (d:Nat) (t:TypeId) (ks:List Kd):Prop:=
 ∀(W:World) (vx vy:Value) (xs ys:List AV) (r:Bool),Fits P F w Z H t vx xs->Fits P F w Z H t vy ys->eqLs ks xs ys=some r->
  (Op.equalIn d t vx vy).run P W= .ok r W
theorem Y2 {P:Program} {d n:Nat} {cx cy:Array Value} {xs ys:List AV} (hx:PW F w Z H xs cx.toList) (hy:PW F w Z H ys cy.toList)
  (ih:∀t ks,f6 P n t=some ks->EqOk P F w Z H d t ks):
  ∀(fs:List Field) (off:Nat) (ks:List Kd) (W:World) (r:Bool),z6 P (f6 P n) fs off=some ks->off<=xs.length->off<=ys.length->eqLs ks (xs.drop off) (ys.drop off)=some r->
   (Op.eqFields d cx cy fs).run P W= .ok r W
 | [],off,ks,W,r,h,_,_,hr=>by
  simp only [z6] at h;cases h;have hl:=F0 hr;cases hxd:xs.drop off with
  | nil=>cases hyd:ys.drop off with
   | nil=>rw [hxd,hyd] at hr;simp [eqLs] at hr;subst hr;rfl
   | cons=>rw [hyd] at hl;simp at hl
  | cons=>rw [hxd] at hl;simp at hl
 | f::fs,off,ks,W,r,h,ho,ho',hr=>by
  simp only [z6] at h;split at h
  ·rename_i hn;split at h
   ·cases h
   ·rename_i k hk;split at h
    ·rename_i hz;cases h2:z6 P (f6 P n) fs (off+k.length) with
     | none=>rw [h2] at h;cases h
     | some ks'=>
      rw [h2] at h;cases h;obtain ⟨r1,r2,e1,e2,e3⟩:=UB hr;have l1:=F0 e1;have lx:off+k.length<=xs.length:=by simp at l1;omega
      have ly:off+k.length<=ys.length:=by simp at l1;omega
      obtain ⟨g,hg⟩:=YM hk;obtain ⟨a,p1,f1⟩:=EZ (P:=P) hg hz hx lx (fun e=>QC hk (e ▸ hg)) W;obtain ⟨b,p2,f2⟩:=EZ (P:=P) hg hz hy ly (fun e=>QC hk (e ▸ hg)) W;have p3:=ih f.type k hk W a b _ _ r1 f1 f2 e1;rw [ES,ES] at e2;have p4:=Y2 hx hy ih fs (off+k.length) ks' W r2 h2 lx ly e2;rw [<- hn.2] at p1 p2;simp only [Op.eqFields,hn.1,ne_eq,not_false_eq_true,if_true,Sem.run_bind,p1,p2,p3,Result.andThen_ok];cases r1
      ·simp [e3]
      ·simpa [e3] using p4
    ·cases h
  ·cases h
theorem YJ {P:Program} {d:Nat} {e:TypeId} {k:List Kd} {cx cy:Array Value} {xs ys:List AV} (hx:PW F w Z H xs cx.toList) (hy:PW F w Z H ys cy.toList)
  (hk:∃n,f6 P n e=some k) (hz:szOf P e=some k.length) (ih:EqOk P F w Z H d e k):
  ∀(m i:Nat) (W:World) (r:Bool),i*k.length<=xs.length->i*k.length<=ys.length->eqLs (List.replicate m k).flatten (xs.drop (i*k.length)) (ys.drop (i*k.length))=some r->
   (Op.eqItems d e k.length cx cy (List.range' i m)).run P W= .ok r W
 | 0,i,W,r,_,_,hr=>by
  have hl:=F0 hr;cases hxd:xs.drop (i*k.length) with
  | nil=>cases hyd:ys.drop (i*k.length) with
   | nil=>rw [hxd,hyd] at hr;simp [eqLs] at hr;subst hr;rfl
   | cons=>rw [hyd] at hl;simp at hl
  | cons=>rw [hxd] at hl;simp at hl
 | m+1,i,W,r,ho,ho',hr=>by
  obtain ⟨n,hk'⟩:=hk;rw [List.replicate_succ,FO] at hr;obtain ⟨r1,r2,e1,e2,e3⟩:=UB hr;have l1:=F0 e1;have lx:i*k.length+k.length<=xs.length:=by simp at l1;omega
  have ly:i*k.length+k.length<=ys.length:=by simp at l1;omega
  obtain ⟨g,hg⟩:=YM hk';obtain ⟨a,p1,f1⟩:=EZ (P:=P) hg hz hx lx (fun e=>QC hk' (e ▸ hg)) W;obtain ⟨b,p2,f2⟩:=EZ (P:=P) hg hz hy ly (fun e=>QC hk' (e ▸ hg)) W;have p3:=ih W a b _ _ r1 f1 f2 e1;have hm:(i+1)*k.length=i*k.length+k.length:=by rw [cG];omega
  rw [ES,ES,<- hm] at e2;have p4:=YJ hx hy ⟨n,hk'⟩ hz ih m (i+1) W r2 (by omega) (by omega) e2;simp only [List.range'_succ,Op.eqItems,Sem.run_bind,p1,p2,p3,Result.andThen_ok];cases r1
  ·simp [e3]
  ·simpa [e3] using p4
theorem NA {P:Program}:∀(n:Nat) (d:Nat) (t:TypeId) (ks:List Kd),f6 P n t=some ks->EqOk P F w Z H (d+n) t ks
 | 0,_,_,_,h=>by cases h
 | n+1,d,t,ks,h=>by
  intro W vx vy xs ys r hx hy hr;unfold f6 at h;cases hu:P.underlying t with
  | none=>simp [hu] at h
  | some td=>
   have scal:bY P t=some false->∃x y,xs=[x]/\ys=[y]/\VRH F w Z H x vx/\VRH F w Z H y vy:=by
    intro hg;rcases hx with ⟨h1,_⟩ | ⟨_,x,h1,h2⟩
    ·rw [hg] at h1;cases h1
    ·rcases hy with ⟨h3,_⟩ | ⟨_,y,h3,h4⟩
     ·rw [hg] at h3;cases h3
     ·exact ⟨x,y,h1,h3,h2,h4⟩
   have aggr:bY P t=some true->∃cx cy:Array Value,vx= .agg cx/\vy= .agg cy/\PW F w Z H xs cx.toList/\PW F w Z H ys cy.toList:=by
    intro hg;rcases hx with ⟨_,cx,h1,h2⟩ | ⟨h1,_⟩
    ·rcases hy with ⟨_,cy,h3,h4⟩ | ⟨h3,_⟩
     ·exact ⟨cx,cy,h1,h3,h2,h4⟩
     ·rw [hg] at h3;cases h3
    ·rw [hg] at h1;cases h1
   cases td<;>simp [hu] at h
   case bool=>
    subst h;obtain ⟨x,y,rfl,rfl,h2,h4⟩:=scal (by simp [bY,hu])
    replace hr:=U2 hr
    cases x<;>cases y<;>simp [eqKd] at hr;rw [iR h2,iR h4,<- hr];exact run_equalIn_bool' W (d+n) t _ _ hu
   case int k=>
    subst h;obtain ⟨x,y,rfl,rfl,h2,h4⟩:=scal (by simp [bY,hu])
    replace hr:=U2 hr
    cases x<;>cases y<;>simp only [eqKd] at hr<;>first | (cases hr;done) | skip
    rename_i k1 a k2 b;split at hr
    ·rename_i hkk;subst hkk;cases hr;rw [cM h2,cM h4];exact run_equalIn_int W (d+n) t k1 k a b hu
    ·cases hr
   case string=>
    subst h;obtain ⟨x,y,rfl,rfl,h2,h4⟩:=scal (by simp [bY,hu])
    replace hr:=U2 hr
    cases x<;>cases y<;>simp [eqKd] at hr;rename_i a b;rw [gP h2,gP h4,<- hr];have:=run_equalIn_string W (d+n) t ⟨a.toArray⟩ ⟨b.toArray⟩ hu;rw [ByteArray.toList_eq,ByteArray.toList_eq] at this;simp at this;exact this
   case array k e=>
    split at h
    ·cases h
    ·rename_i l hl;split at h
     ·rename_i hz;cases h;obtain ⟨cx,cy,rfl,rfl,px,py⟩:=aggr (by simp [bY,hu]);obtain ⟨i,hi,hi2⟩:=EX hz;have hc:P.cellsOf e=l.length:=by simp [Program.cellsOf,hi,hi2]
      rw [show d+(n+1)=(d+n)+1 from rfl,run_equalIn_array W (d+n) cx cy hu hi,hc,List.range_eq_range'];exact YJ px py ⟨n,hl⟩ hz (NA n d e l hl) k 0 W r (by simp) (by simp) (by simpa using hr)
     ·cases h
   case struct fs=>
    obtain ⟨hst,h⟩:=h;obtain ⟨cx,cy,rfl,rfl,px,py⟩:=aggr (by simp [bY,hu]);have hfs:P.fieldsOf t=fs:=by simp [Program.fieldsOf,hu]
    rw [show d+(n+1)=(d+n)+1 from rfl,run_equalIn_struct W (d+n) t cx cy (by rw [hfs];exact hu) hst,hfs];exact Y2 px py (fun t ks h=>NA n d t ks h) fs.toList 0 ks W r h (Qc _) (Qc _) (by simpa using hr)
end
end Go.Av
namespace Go.Av
section
variable {F:Nat->Nat->Prop} {B0:Nat} {w:World} {Z:Beta} {H:AH} {P:Program}
theorem Dl (W:World) (op:BinOp) (t:TypeId) (x:Operand) (c a b:Value) (ha:∀xs,a≠ .agg xs) (hb:b= .nilIface\/b= .nilFunc):(eqGuard op t x (.const c) a b).run P W= .ok () W:=by
 rcases hb with rfl | rfl
 ·cases op<;>simp only [eqGuard]<;>(try rfl)
  all_goals
   cases a<;>first
    | rfl
    | exact absurd rfl (ha _)
    | (cases x<;>rfl)
 ·cases op<;>simp only [eqGuard]<;>(try rfl)
  all_goals
   cases a<;>first
    | rfl
    | exact absurd rfl (ha _)
    | (cases x<;>rfl)
theorem QZ (W:World) (op:BinOp) (t:TypeId) (x y:Operand) (a b:Value) (h:∀xs ys,a= .agg xs->b= .agg ys->P.eqGuardType P.depth t=false)
  (hn:a≠ .nilIface\/b≠ .nilIface):(eqGuard op t x y a b).run P W= .ok () W:=by
 by_cases hagg:∃xs ys,a= .agg xs/\b= .agg ys
 ·obtain ⟨xs,ys,rfl,rfl⟩:=hagg;exact run_eqGuard_agg W op t x y xs ys (h _ _ rfl rfl)
 ·cases op<;>simp only [eqGuard]<;>(try rfl)
  all_goals
   cases a<;>(try rfl)
   all_goals
    cases b<;>first
     | rfl
     | exact absurd ⟨_,_,rfl,rfl⟩ hagg
     | simp at hn
theorem XS {g:TypeId->Option (List Kd)}:∀{fs:List Field} {off:Nat} {ks:List Kd},z6 P g fs off=some ks->∀f∈fs,∃k,g f.type=some k
 | [],_,_,_,_,hf=>by cases hf
 | f::fs,off,ks,h,f',hf=>by
  simp only [z6] at h;split at h
  ·split at h
   ·cases h
   ·rename_i k hk;split at h
    ·cases h2:z6 P g fs (off+k.length) with
     | none=>rw [h2] at h;cases h
     | some ks'=>
      rcases lW.1 hf with rfl | hf
      ·exact ⟨k,hk⟩
      ·exact XS h2 f' hf
    ·cases h
  ·cases h
theorem TU:∀{n:Nat} {t:TypeId} {ks:List Kd},f6 P n t=some ks->∀d,n<=d->P.eqGuardType d t=false
 | 0,_,_,h,_,_=>by cases h
 | n+1,t,ks,h,d,hd=>by
  cases d with
  | zero=>omega
  | succ d=>
   unfold f6 at h;cases hu:P.underlying t with
   | none=>simp [hu] at h
   | some td=>
    cases td<;>simp [hu] at h<;>simp only [Program.eqGuardType,hu]
    case array k e=>
     split at h
     ·cases h
     ·rename_i l hl;exact TU hl d (by omega)
    case struct fs=>
     obtain ⟨_,h⟩:=h;rw [Array.any_eq_false];intro i hi;obtain ⟨k,hk⟩:=XS h fs[i] (by simp);have:=TU hk d (by omega);simp [this]
theorem Mg {op:BinOp} {t:TypeId} {x y:AV} {a b:Value} {r:AV} (ha:VRH F w Z H x a) (hb:VRH F w Z H y b) (h:gN op x y=some r):
    ∃v,(Go.binOp op t a b).run P w= .ok v w/\VRH F w Z H r v/\(∀xs,a≠ .agg xs)/\a≠ .nilIface:=by
  unfold gN at h;split at h
  · rename_i k m k' n
    rw [cM ha,cM hb];split at h
    · cases h
    · rename_i hn
      cases h;exact ⟨_,by simp [Go.binOp,Op.shift,hn],.d (.int _ _),by simp,by simp⟩
  · rename_i k m k' n
    rw [cM ha,cM hb];split at h
    · cases h
    · rename_i hn
      cases h;exact ⟨_,by simp [Go.binOp,Op.shift,hn],.d (.int _ _),by simp,by simp⟩
  · rename_i k m k' n hs1 hs2
    rw [cM ha,cM hb];split at h
    · rename_i hk
      subst hk;cases op<;>simp only [] at h<;>first
        | (cases h;refine ⟨_,?_,.d (.int _ _),by simp,by simp⟩;simp [Go.binOp,Op.intArith,Op.intBits,Op.intCmp];done)
        | (cases h;refine ⟨_,?_,.d (.bool _),by simp,by simp⟩;simp [Go.binOp,Op.intArith,Op.intBits,Op.intCmp];done)
        | (split at h
           · cases h
           · rename_i hz;cases h;refine ⟨_,?_,.d (.int _ _),by simp,by simp⟩;simp [Go.binOp,Op.intDiv,hz];done)
        | (exfalso;cases h;done)
    · cases h
  · rename_i s u
    rw [gP ha,gP hb];split at h
    · rename_i hl
      cases h;refine ⟨.string ⟨(s++u).toArray⟩,?_,.d (.str _),by simp,by simp⟩;have h2:¬(((⟨s.toArray⟩:ByteArray).size+(⟨u.toArray⟩:ByteArray).size:Nat):Int)>IntKind.i64.max:=by
        have e1:(⟨s.toArray⟩:ByteArray).size=s.length:=by simp [ByteArray.size]
        have e2:(⟨u.toArray⟩:ByteArray).size=u.length:=by simp [ByteArray.size]
        rw [e1,e2];have:IntKind.i64.max=9223372036854775807:=by decide
        rw [this];omega
      have h3:(⟨s.toArray⟩:ByteArray)++⟨u.toArray⟩=⟨(s++u).toArray⟩:=by
        apply ByteArray.ext;simp
      simp only [Go.binOp,Op.stringOp,h2,if_false,h3];rfl
    · cases h
  all_goals first
    | (rename_i s u
       rw [gP ha,gP hb];cases h;refine ⟨_,?_,.d (.bool _),by simp,by simp⟩;simp [Go.binOp,Op.stringOp,ByteArray.toList_eq]
       done)
    | cases h
end
end Go.Av
namespace Go.Av
section
variable {F:Nat->Nat->Prop} {B0:Nat} {w:World} {Z:Beta} {H:AH} {P:Program}
theorem Q4 {t:TypeId} (hg:bY P t=some false):f6 P 20 t≠some []:=by
 intro h;unfold f6 at h;unfold bY at hg;split at h
 ·cases h
 ·cases h
 ·cases h
 ·rename_i hu;rw [hu] at hg;cases hg
 ·rename_i hu;rw [hu] at hg;cases hg
 ·cases h
theorem Gz {t:TypeId} (hg:bY P t=some false):f6 P 20 t≠some [.p]:=by
 intro h;unfold f6 at h;unfold bY at hg;split at h
 ·cases h
 ·cases h
 ·cases h
 ·rename_i hu;rw [hu] at hg;cases hg
 ·rename_i hu;rw [hu] at hg;cases hg
 ·cases h
theorem Mi {t:TypeId} {d:TypeDesc} {x y:AV} {a b:Value} {r:Bool} (hu:P.underlying t=some d) (hd:((∃ms,d= .interface ms)/\y= .niliface)\/((∃ps rs v,d= .func ps rs v)/\y= .nilfunc))
  (ha:VRH F w Z H x a) (hb:VRH F w Z H y b) (h:eqK false [] x y=some r):
  (Go.binOp .eql t a b).run P w= .ok (.bool r) w/\(Go.binOp .neq t a b).run P w= .ok (.bool (!r)) w/\(b= .nilIface\/b= .nilFunc)/\(∀xs,a≠ .agg xs):=by
 have two:∀(u:Value),(∀dd,(Op.equalIn (dd+1) t a u).run P w= .ok r w)->(u= .nilIface\/u= .nilFunc)->(a= .nilIface\/a= .nilFunc\/(∃t' x,a= .iface t' x)\/∃f p q,a= .func f p q)->
   (Go.binOp .eql t a u).run P w= .ok (.bool r) w/\(Go.binOp .neq t a u).run P w= .ok (.bool (!r)) w:=by
  intro u e hu' ha';have e':=e 9999;rcases ha' with rfl | rfl | ⟨_,_,rfl⟩ | ⟨_,_,_,rfl⟩<;>rcases hu' with rfl | rfl<;>
   exact ⟨by simp only [Go.binOp];simp [Op.equal,Op.maxDepth,e'],by simp only [Go.binOp];simp [Op.equal,Op.maxDepth,e']⟩
 rcases hd with ⟨⟨ms,rfl⟩,rfl⟩ | ⟨⟨ps,rs,vv,rfl⟩,rfl⟩
 ·obtain rfl:=N8 hb;have hcase:(a= .nilIface/\r=true)\/(∃t' u,a= .iface t' u/\r=false):=by
   unfold eqK at h;split at h
   ·cases (by assumption:false=true)
   ·rename_i h0;cases h0
   ·cases h;exact .inl ⟨N8 ha,rfl⟩
   ·cases h;obtain ⟨u,rfl,_⟩:=DT ha;exact .inr ⟨_,u,rfl,rfl⟩
   ·rename_i hh;cases hh
   ·rename_i hh;cases hh
   ·cases h
  rcases hcase with ⟨rfl,rfl⟩ | ⟨t',u,rfl,rfl⟩
  ·obtain ⟨h1,h2⟩:=two .nilIface (by intro dd;simp [Op.equalIn,aX w hu]) (.inl rfl) (.inl rfl);exact ⟨h1,h2,.inl rfl,by simp⟩
  ·obtain ⟨h1,h2⟩:=two .nilIface (by intro dd;simp [Op.equalIn,aX w hu]) (.inl rfl) (.inr (.inr (.inl ⟨_,_,rfl⟩)));exact ⟨h1,h2,.inl rfl,by simp⟩
 ·obtain rfl:=QI hb;have hcase:(a= .nilFunc/\r=true)\/(∃f p q,a= .func f p q/\r=false):=by
   unfold eqK at h;split at h
   ·cases (by assumption:false=true)
   ·rename_i h0;cases h0
   ·rename_i hh;cases hh
   ·rename_i hh;cases hh
   ·cases h;exact .inl ⟨QI ha,rfl⟩
   ·cases h;obtain ⟨va,vb,rfl,_⟩:=DW ha;exact .inr ⟨_,va,vb,rfl,rfl⟩
   ·cases h
  rcases hcase with ⟨rfl,rfl⟩ | ⟨f,p,q,rfl,rfl⟩
  ·obtain ⟨h1,h2⟩:=two .nilFunc (by intro dd;simp [Op.equalIn,aX w hu]) (.inr rfl) (.inr (.inl rfl));exact ⟨h1,h2,.inr rfl,by simp⟩
  ·obtain ⟨h1,h2⟩:=two .nilFunc (by intro dd;simp [Op.equalIn,aX w hu]) (.inr rfl) (.inr (.inr (.inr ⟨_,_,_,rfl⟩)));exact ⟨h1,h2,.inr rfl,by simp⟩
theorem Ml {t:TypeId} {ks:List Kd} {g:Bool} {x y:AV} {a b:Value} {r:Bool} (hl:f6 P 20 t=some ks) (hg:bY P t=some g)
  (ha:VRH F w Z H x a) (hb:VRH F w Z H y b) (h:eqK g ks x y=some r):
  (Go.binOp .eql t a b).run P w= .ok (.bool r) w/\(Go.binOp .neq t a b).run P w= .ok (.bool (!r)) w/\(∀xs,a= .agg xs->P.eqGuardType P.depth t=false)/\a≠ .nilIface:=by
 have hgt:P.eqGuardType P.depth t=false:=TU hl P.depth (by unfold Program.depth Made.depth;omega);cases g with
 | true=>
  unfold eqK at h;split at h
  ·rename_i xs ys _;obtain ⟨cx,rfl,px⟩:=vL ha;obtain ⟨cy,rfl,py⟩:=vL hb;have:=NA (F:=F) (w:=w) (Z:=Z) (H:=H) 20 9980 t _ hl w _ _ xs ys r (.inl ⟨hg,cx,rfl,px⟩) (.inl ⟨hg,cy,rfl,py⟩) h;refine ⟨?_,?_,fun _ _=>hgt,by simp⟩
   ·rw [run_eql_struct,this];rfl
   ·rw [run_neq_struct,this];rfl
  all_goals first | (cases (by assumption:true=false);done) | (cases h;done)
 | false=>
  have hk:∃k,ks=[k]/\eqKd k x y=some r:=by
   unfold eqK at h;split at h
   ·cases (by assumption:false=true)
   ·exact ⟨_,rfl,h⟩
   ·exact absurd hl (Q4 hg)
   ·exact absurd hl (Q4 hg)
   ·exact absurd hl (Q4 hg)
   ·exact absurd hl (Q4 hg)
   ·cases h
  obtain ⟨k,rfl,hk⟩:=hk;have main:=NA (F:=F) (w:=w) (Z:=Z) (H:=H) 20 9980 t [k] hl w a b [x] [y] r (.inr ⟨hg,x,rfl,ha⟩) (.inr ⟨hg,y,rfl,hb⟩) (by simp [eqLs,hk]);unfold eqKd at hk;split at hk
  ·cases hk;rw [iR ha,iR hb] at main ⊢;refine ⟨?_,?_,by simp,by simp⟩
   ·simp only [Go.binOp];simp [Op.equal,Op.maxDepth,main]
   ·simp only [Go.binOp];simp [Op.equal,Op.maxDepth,main]
  ·split at hk
   ·rename_i hkk;subst hkk;cases hk;rw [cM ha,cM hb];exact ⟨by simp [Go.binOp,Op.intCmp],by simp [Go.binOp,Op.intCmp,bne],by simp,by simp⟩
   ·cases hk
  ·cases hk;rw [gP ha,gP hb];exact ⟨by simp [Go.binOp,Op.stringOp,ByteArray.toList_eq],by simp [Go.binOp,Op.stringOp,ByteArray.toList_eq],by simp,by simp⟩
  ·exact absurd hl (Gz hg)
  ·cases hk
theorem De {x y:AV} {a b:Value} {r:Bool} (ha:VRH F w Z H x a) (hb:VRH F w Z H y b) (h:NX x y=some r):
  ∃p q:Option Addr,a= .pointer p/\b= .pointer q/\((p=none/\r=q.isNone)\/(q=none/\p≠none/\r=false)):=by
 unfold NX at h;split at h
 ·cases h;exact ⟨none,none,CC ha,CC hb,.inl ⟨rfl,rfl⟩⟩
 ·cases h;obtain ⟨_,⟨b',k,rfl⟩,_⟩:=mW hb;exact ⟨none,_,CC ha,rfl,.inl ⟨rfl,rfl⟩⟩
 ·cases h;obtain ⟨_,⟨b',k,rfl⟩,_⟩:=mW ha;exact ⟨_,none,rfl,CC hb,.inr ⟨rfl,by simp,rfl⟩⟩
 ·cases h;have:=CE hb;cases this;exact ⟨none,_,CC ha,rfl,.inl ⟨rfl,rfl⟩⟩
 ·cases h;have:=CE ha;cases this;exact ⟨_,none,rfl,CC hb,.inr ⟨rfl,by simp,rfl⟩⟩
 ·cases h
theorem Mj {t el:TypeId} {x y:AV} {a b:Value} {r:Bool} (hu:P.underlying t=some (.pointer el))
  (ha:VRH F w Z H x a) (hb:VRH F w Z H y b) (h:NX x y=some r):
  (Go.binOp .eql t a b).run P w= .ok (.bool r) w/\(Go.binOp .neq t a b).run P w= .ok (.bool (!r)) w/\(∀xs,a≠ .agg xs)/\a≠ .nilIface:=by
 obtain ⟨p,q,rfl,rfl,h⟩:=De ha hb h;have key:(Op.equalIn 10000 t (.pointer p) (.pointer q)).run P w= .ok r w:=by
  have:∀d,(Op.equalIn (d+1) t (.pointer p) (.pointer q)).run P w= .ok r w:=by
   intro d;rcases h with ⟨rfl,rfl⟩ | ⟨rfl,hp,rfl⟩
   ·simp [Op.equalIn,aX w hu]
   ·cases p with
    | none=>exact absurd rfl hp
    | some p=>simp [Op.equalIn,aX w hu]
  exact this 9999
 refine ⟨?_,?_,by simp,by simp⟩
 ·simp only [Go.binOp];simp [Op.equal,Op.maxDepth,key]
 ·simp only [Go.binOp];simp [Op.equal,Op.maxDepth,key]
theorem op_un {op:UnOp} {x:AV} {a:Value} {r:AV} (ha:VRH F w Z H x a) (h:unAV op x=some r):
  ∃v,(Op.unary op a).run P w= .ok v w/\VRH F w Z H r v:=by
 unfold unAV at h;split at h
 ·cases h;rw [cM ha];exact ⟨_,by simp [Op.unary,Op.intArith],.d (.int _ _)⟩
 ·cases h;rw [cM ha];exact ⟨_,by simp [Op.unary,Op.intBits],.d (.int _ _)⟩
 ·cases h;rw [iR ha];exact ⟨_,by simp [Op.unary],.d (.bool _)⟩
 ·cases h
def SrcR (F:Nat->Nat->Prop) (w:World) (Z:Beta) (H:AH) (z:Nat) (ys:List (List AV)) (v:Value):Prop:=
 ∃base cap,v= .slice base ys.length cap/\ys.length<=cap/\(ys=[]\/∃b o,base=some ⟨b,o,none⟩/\
  ∀(i j:Nat) e x,ys[i]? =some e->e[j]? =some x->∃u,w.cell? ⟨b,o+i*z+j,none⟩=some u/\u.oneCell'=true/\VRH F w Z H x u)
theorem UZ {z:Nat} {es:List (List AV)} {v:Value} (h:VRD w (Imm F Z H) (.slice z es) v) {z':Nat} (hz:∀e∈es,e.length=z'):SrcR F w Z H z' es v:=by
 obtain ⟨a,cap,rfl,hc,h3⟩:=fF h;refine ⟨a,cap,rfl,hc,?_⟩;rcases h3 with rfl | ⟨b,o,rfl,hz',vs,h4,h5⟩
 ·exact .inl rfl
 ·cases es with
  | nil=>exact .inl rfl
  | cons e0 es=>
   have:z=z':=(hz' e0 (by simp)).symm.trans (hz e0 (by simp));subst this;refine .inr ⟨b,o,rfl,?_⟩;intro i j e x he hx;obtain ⟨_,k2,k3⟩:=h4 i j e x he hx;exact ⟨_,k2,k3,.d (h5 i j e x he hx)⟩
theorem gB {U:Type} {f:U->Bool}:∀{l:List U},anyL f l=false->∀a∈l,f a=false
 | [],_,_,h=>by cases h
 | a::l,h,b,hb=>by
  simp only [anyL,Bool.or_eq_false_iff] at h;rcases lW.1 hb with rfl | hb
  ·exact h.1
  ·exact gB h.2 b hb
theorem DJ {n:Nat} {es:List (List AV)} (h:vF n es=true):∀e∈es,e.length=n:=by
 intro e he;have h':anyL (fun e:List AV=> !(e.length == n)) es=false:=by
  unfold vF at h;cases hh:anyL (fun e:List AV=> !(e.length == n)) es with
  | false=>rfl
  | true=>rw [hh] at h;cases h
 have:=gB h' e he;simpa using this
theorem YX {z:Nat} {ys:List (List AV)} {yv:AV} {v:Value} (hr:HR F B0 w Z H) (hv:VRH F w Z H yv v) (h:gC H yv=some ys) (hz:∀e∈ys,e.length=z)
  (hns:∀s,yv≠ .str s):SrcR F w Z H z ys v:=by
 unfold gC at h;split at h
 ·cases h;exact UZ (yY hv) hz
 ·cases h;exact UZ (mF hv).1 hz
 ·cases h;exact UZ (z9 hv).2.1 hz
 ·rename_i id zz off len;split at h
  ·rename_i z' es hget;split at h
   ·rename_i hle;obtain ⟨hzz',hle⟩:=hle;cases h;obtain ⟨_,⟨base,cap,rfl,k3,k4⟩,k5⟩:=lT hv;obtain ⟨b,o,base',cap',c,e1,e2,e3,e4,e5,e6,_⟩:=k5 _ _ hget;cases e2;obtain ⟨b',o',c',m1,m2,m3,m4,m5,m6⟩:=hr.obj id _ hget;rw [e1] at m1;cases m1;have hlen:((es.drop off).take len).length=len:=by simp;omega
    refine ⟨base,cap,by rw [hlen],by rw [hlen];exact k3,?_⟩;rcases Qt len with hl0 | hlp
    ·subst hl0;exact .inl (by simp)
    ·have hb:base=some ⟨b,o+off*zz,none⟩:=by
      rcases e4 with e4 | e4
      ·omega
      ·exact e4
     refine .inr ⟨b,o+off*zz,hb,?_⟩;intro i j e x he hx;rw [List.getElem?_take] at he;split at he
     ·rename_i hil;rw [List.getElem?_drop] at he;have hzeq:z'=z:=by
       have h1:=m5 e (Qe he);have h2:=hz e (by
        refine Qe (i:=i) ?_;rw [List.getElem?_take,a9 hil,List.getElem?_drop];exact he)
       omega
      subst hzeq;subst hzz';obtain ⟨u,n1,n2,n3⟩:=m6 _ j e x he hx;refine ⟨u,?_,n2,n3⟩;obtain ⟨ty,hb2⟩:=m3;refine cell_iff.2 ⟨c',ty,(0,0),hb2,?_⟩;rw [<- n1,cG];congr 1;omega
     ·cases he
   ·cases h
  ·cases h
 ·rename_i s;exact absurd rfl (hns s)
 ·cases h
end
end Go.Av
namespace Go.Av
variable {nx:Nat}
section
variable {F:Nat->Nat->Prop} {B0:Nat} {w:World} {Z:Beta} {H:AH} {P:Program}
theorem yW (W:World) (q:IntKind) (n:Int) (y:Nat) (code:BoundsCode) (h0:0<=n) (h1:n<=y):
  (Instr.sliceBound (.int q n) y code).run P W= .ok n.toNat W:=by
 simp [Instr.sliceBound,CA,h0,h1]
def BX (F:Nat->Nat->Prop) (w:World) (Z:Beta) (H:AH) (e:Env) (ax:Option AX) (v:Option Value):Prop:=
 match ax,v with
 | none,none=>True
 | some a,some v=>∀y,evX e a=some y->VRH F w Z H y v
 | _,_=>False
theorem ET {e:Env} {n cap:Nat} {lo hi mx:Option AX} {vl vh vm:Option Value} {l h:Nat} {mo:Option Nat} (isS:Bool) (hb:f4 e n lo hi mx=some (l,h,mo)) (hn:n<=cap)
  (hl:BX F w Z H e lo vl) (hh:BX F w Z H e hi vh) (hm:BX F w Z H e mx vm) (hmh:mx.isSome=true->hi.isSome=true):
  (Instr.sliceBounds isS n cap vl vh vm).run P w= .ok (l,h,mo.getD cap) w/\l<=h/\h<=n/\(∀k,mo=some k->h<=k/\k<=n):=by
 unfold f4 at hb;split at hb
 ·cases hb
 ·rename_i mo' hmo;split at hb
  ·cases hb
  ·rename_i h' hh';split at hb
   ·cases hb
   ·rename_i l' hl';cases hb;have low:((vl=none/\l=0)\/∃q m,vl=some (.int q m)/\0<=m/\m<=(h:Int)/\m.toNat=l)/\l<=h:=by
     cases lo with
     | none=>
      cases vl with
      | none=>cases hl';exact ⟨.inl ⟨rfl,rfl⟩,Qc _⟩
      | some v=>exact hl.elim
     | some a=>
      cases vl with
      | none=>exact hl.elim
      | some v=>
       simp only [bndL] at hl';split at hl'
       ·cases hl'
       ·rename_i lv hlv;obtain ⟨q,m,rfl,k1,k2,k3,k4⟩:=QM hl';rw [cM (hl _ hlv)];exact ⟨.inr ⟨q,m,rfl,k1,k2,k3⟩,k4⟩
    obtain ⟨low,hlh⟩:=low;cases mx with
    | none=>
     cases vm with
     | some v=>exact hm.elim
     | none=>
      cases hmo;simp only [Option.getD_none] at hh' ⊢;cases hi with
      | none=>
       cases vh with
       | some v=>exact hh.elim
       | none=>
        cases hh';refine ⟨?_,hlh,Qb _,by simp⟩;rcases low with ⟨rfl,rfl⟩ | ⟨q,m,rfl,k1,k2,rfl⟩
        ·simp [Instr.sliceBounds]
        ·simp [Instr.sliceBounds,yW w q m _ _ k1 k2]
      | some a=>
       cases vh with
       | none=>exact hh.elim
       | some v=>
        simp only [bndH] at hh';split at hh'
        ·cases hh'
        ·rename_i hv hhv;obtain ⟨q,m,rfl,k1,k2,k3,k4⟩:=QM hh';have e2:=cM (hh _ hhv);subst e2;subst k3;have k5:m<=(cap:Int):=by omega
         refine ⟨?_,hlh,k4,by simp⟩;rcases low with ⟨rfl,rfl⟩ | ⟨q',m',rfl,k1',k2',rfl⟩
         ·simp [Instr.sliceBounds,yW w q m _ _ k1 k5]
         ·simp [Instr.sliceBounds,yW w q m _ _ k1 k5,yW w q' m' _ _ k1' k2']
    | some am=>
     cases vm with
     | none=>exact hm.elim
     | some v=>
      simp only [bndM] at hmo;split at hmo
      ·cases hmo
      ·rename_i mv hmv;cases hk:bnd mv n with
       | none=>rw [hk] at hmo;cases hmo
       | some k=>
        rw [hk] at hmo;cases hmo;obtain ⟨q,m,rfl,k1,k2,k3,k4⟩:=QM hk;have e1:=cM (hm _ hmv);subst e1;subst k3;have k5:m<=(cap:Int):=by omega
        cases hi with
        | none=>simp at hmh
        | some a=>
         cases vh with
         | none=>exact hh.elim
         | some v=>
          simp only [bndH] at hh';split at hh'
          ·cases hh'
          ·rename_i hv hhv;obtain ⟨q',m',rfl,n1,n2,n3,n4⟩:=QM hh';have e2:=cM (hh _ hhv);subst e2;subst n3;refine ⟨?_,hlh,by omega,?_⟩
           ·rcases low with ⟨rfl,rfl⟩ | ⟨q2,m2,rfl,k1',k2',rfl⟩
            ·simp [Instr.sliceBounds,yW w q m _ _ k1 k5,yW w q' m' _ _ n1 n2]
            ·simp [Instr.sliceBounds,yW w q m _ _ k1 k5,yW w q' m' _ _ n1 n2,yW w q2 m2 _ _ k1' k2']
           ·intro k' hk';cases hk';exact ⟨n4,k4⟩
theorem Lv {e:Env} {z:Nat} {ax:AX} {lo hi mx:Option AX} {v:AV} {y:AV} {H':AH} (hx:evX e ax=some v) (h:evOp e nx H (.slc z ax lo hi mx)=some (y,H')):
    ∃n l hh mo,lenOf v=some n/\f4 e n lo hi mx=some (l,hh,mo)/\H'=H/\
      ((∃es,v= .slice z es/\y=(if mo=some hh then .Xa z ((es.drop l).take (hh - l)) else .slice z ((es.drop l).take (hh - l))))\/
       (∃es t,v= .app z es t/\y=(if mo=some hh then .Xa z ((es.drop l).take (hh - l)) else .slice z ((es.drop l).take (hh - l))))\/
       (∃es,v= .Xa z es/\y=(if hh=n/\mo=none\/mo=some hh then .Xa z ((es.drop l).take (hh - l)) else .slice z ((es.drop l).take (hh - l))))\/
       (∃id off len,v= .row id z off len/\mo=none/\y= .row id z (off+l) (hh - l))):=by
  simp only [evOp,hx] at h;split at h
  · cases h
  · rename_i n hn
    split at h
    · cases h
    · rename_i l hh mo hb
      refine ⟨n,l,hh,mo,hn,hb,?_⟩;split at h
      · split at h
        · rename_i hz;subst hz
          split at h<;>rename_i hc<;>cases h
          · exact ⟨rfl,.inl ⟨_,rfl,by rw [a9 hc]⟩⟩
          · exact ⟨rfl,.inl ⟨_,rfl,by rw [a8 hc]⟩⟩
        · cases h
      · split at h
        · rename_i hz;subst hz
          split at h<;>rename_i hc<;>cases h
          · exact ⟨rfl,.inr (.inl ⟨_,_,rfl,by rw [a9 hc]⟩)⟩
          · exact ⟨rfl,.inr (.inl ⟨_,_,rfl,by rw [a8 hc]⟩)⟩
        · cases h
      · split at h
        · rename_i hz;subst hz
          split at h<;>rename_i hc<;>cases h
          · exact ⟨rfl,.inr (.inr (.inl ⟨_,rfl,by rw [a9 hc]⟩))⟩
          · exact ⟨rfl,.inr (.inr (.inl ⟨_,rfl,by rw [a8 hc]⟩))⟩
        · cases h
      · split at h
        · rename_i hz;obtain ⟨hz,hmo⟩:=hz;subst hz
          cases h;exact ⟨rfl,.inr (.inr (.inr ⟨_,_,_,rfl,hmo,rfl⟩))⟩
        · cases h
      · cases h
theorem Lm {imm:Nat->Nat->Prop} {z:Nat} {es:List (List AV)} {a:Option Addr} {cap l hh m:Nat} (h:VRD w imm (.slice z es) (.slice a es.length cap)) (h1:l<=hh) (h2:hh<=es.length) (h3:hh<=m):
  VRD w imm (.slice z ((es.drop l).take (hh - l))) (.slice (if m=l then a else a.map (·.add (l*z))) (hh - l) (m - l)):=by
 rcases PT h1 with rfl | hlt
 ·simp only [Nat.sub_self,List.take_zero];exact .slice0 _ _ _
 ·obtain ⟨a',cap',e1,hc,h4⟩:=fF h;cases e1;rcases h4 with rfl | ⟨b,o,rfl,hz,vs,k1,k2⟩
  ·simp at h2;omega
  ·have hml:¬m=l:=by omega
   rw [a8 hml];simp only [A3,lR];have hlen:((es.drop l).take (hh - l)).length=hh - l:=by simp;omega
   have:=VRD.slice (w:=w) (imm:=imm) z ((es.drop l).take (hh - l)) b (o+l*z) (m - l) (fun i j=>vs (l+i) j) (by intro e;rw [e] at hlen;simp at hlen;omega)
    (fun e he=>hz e (nI (Qr he))) (by omega) ?_ ?_
   ·rw [hlen] at this;exact this
   ·intro i j e x he hx;rw [List.getElem?_take] at he;split at he
    ·rw [List.getElem?_drop] at he;have:=k1 (l+i) j e x he hx;have e3:o+(l+i)*z+j=o+l*z+i*z+j:=by rw [cG];omega
     rwa [e3] at this
    ·cases he
   ·intro i j e x he hx;rw [List.getElem?_take] at he;split at he
    ·rw [List.getElem?_drop] at he;exact k2 (l+i) j e x he hx
    ·cases he
theorem R1 (W:World) {t el:TypeId} {z:Nat} (hu:P.underlying t=some (.slice el)) (hn:szOf P el=some z) {a:Option Addr} {len cap l h m:Nat} {vl vh vm:Option Value}
  (hb:(Instr.sliceBounds true len cap vl vh vm).run P W= .ok (l,h,m) W):
  (Instr.sliceAt t (.slice a len cap) vl vh vm).run P W= .ok (.slice (if m=l then a else a.map (·.add (l*z))) (h - l) (m - l)) W:=by
 simp [Instr.sliceAt,Instr.slice,aX W hu,hb,gA W hn]
theorem VC {x:Option Addr} {h l k:Nat} (e:k=h):∃a len,Value.slice x (h - l) (k - l)= .slice a len len:=⟨x,h - l,by rw [e]⟩
theorem Mo {t el:TypeId} {z:Nat} {e:Env} {ax:AX} {lo hi mx:Option AX} {vl vh vm:Option Value} {y px:AV} {H':AH} {v0:Value}
  (hu:P.underlying t=some (.slice el)) (hn:szOf P el=some z) (hpx:evX e ax=some px) (hv:VRH F w Z H px v0)
  (hl:BX F w Z H e lo vl) (hh:BX F w Z H e hi vh) (hm:BX F w Z H e mx vm) (hmh:mx.isSome=true->hi.isSome=true)
  (hev:evOp e nx H (.slc z ax lo hi mx)=some (y,H')):
  ∃v,(Instr.sliceAt t v0 vl vh vm).run P w= .ok v w/\VRH F w Z H y v/\H'=H:=by
 obtain ⟨n,l,h,mo,h1,h2,h3,h4⟩:=Lv hpx hev;have imm:∀es:List (List AV),VRD w (Imm F Z H) (.slice z es) v0->n=es.length->
   ∃a cap,v0= .slice a n cap/\(Instr.sliceAt t v0 vl vh vm).run P w= .ok (.slice (if mo.getD cap=l then a else a.map (·.add (l*z))) (h - l) (mo.getD cap - l)) w/\
    VRD w (Imm F Z H) (.slice z ((es.drop l).take (h - l))) (.slice (if mo.getD cap=l then a else a.map (·.add (l*z))) (h - l) (mo.getD cap - l)):=by
  intro es hd hne;obtain ⟨a,cap,e1,hc,_⟩:=fF hd;subst e1;subst hne;obtain ⟨k1,k2,k3,k4⟩:=ET (P:=P) true h2 hc hl hh hm hmh;refine ⟨a,cap,rfl,R1 w hu hn k1,Lm hd k2 k3 ?_⟩;cases mo with
  | none=>simp;omega
  | some k=>exact (k4 k rfl).1
 rcases h4 with ⟨es,rfl,rfl⟩ | ⟨es,tk,rfl,rfl⟩ | ⟨es,rfl,rfl⟩ | ⟨id,off,len,rfl,hmo,rfl⟩
 ·cases h1;obtain ⟨a,cap,e1,k1,k2⟩:=imm es (yY hv) rfl;refine ⟨_,k1,?_,h3⟩;split
  ·rename_i hmo;exact .l ⟨k2,VC (by rw [hmo];rfl)⟩
  ·exact .d k2
 ·cases h1;obtain ⟨a,cap,e1,k1,k2⟩:=imm es (z9 hv).2.1 rfl;refine ⟨_,k1,?_,h3⟩;split
  ·rename_i hmo;exact .l ⟨k2,VC (by rw [hmo];rfl)⟩
  ·exact .d k2
 ·cases h1;obtain ⟨k0,a',len',e0⟩:=mF hv;obtain ⟨a,cap,e1,k1,k2⟩:=imm es k0 rfl;refine ⟨_,k1,?_,h3⟩;split
  ·rename_i hmo;refine .l ⟨k2,VC ?_⟩;rcases hmo with ⟨rfl,rfl⟩ | rfl
   ·rw [e1] at e0;cases e0;rfl
   ·rfl
  ·exact .d k2
 ·cases h1;obtain ⟨q1,⟨base,cap,rfl,q3,q4⟩,q5⟩:=lT hv;obtain ⟨k1,k2,k3,k4⟩:=ET (P:=P) true h2 q3 hl hh hm hmh;have hhm:h<=mo.getD cap:=by
   cases mo with
   | none=>simp;omega
   | some k=>exact (k4 k rfl).1
  have hmc:mo.getD cap<=cap:=by
   cases mo with
   | none=>exact Qb _
   | some k=>have:=(k4 k rfl).2;simp;omega
  refine ⟨_,R1 w hu hn k1,.l ⟨q1,⟨_,_,rfl,by omega,?_⟩,?_⟩,h3⟩
  ·rcases PT k2 with rfl | hlt
   ·exact .inl (by omega)
   ·rcases q4 with rfl | ⟨b,k,rfl⟩
    ·omega
    ·refine .inr ⟨b,k+l*z,?_⟩;rw [a8 (by omega)];simp [lR]
  ·intro zz es hlive;obtain ⟨b,o,base',cap',c,e1,e2,e3,e4,e5,e6,e9⟩:=q5 zz es hlive;cases e2;refine ⟨b,o,_,_,c,e1,rfl,by omega,?_,e5,?_,by subst hmo;simp at hhm ⊢;omega⟩
   ·by_cases hml:mo.getD cap=l
    ·exact .inl (by omega)
    ·rcases e4 with e4 | e4
     ·omega
     ·right;rw [a8 hml,e4];simp [lR,cG,A6]
   ·have:(off+l+(mo.getD cap - l))*z<=(off+cap)*z:=Qh _ (by omega);omega
theorem Eg {len len' cap:Nat} {vl vh vm:Option Value} (h:vh.isSome=true):Instr.sliceBounds true len cap vl vh vm=Instr.sliceBounds true len' cap vl vh vm:=by
 cases vh with
 | none=>cases h
 | some v=>cases vm<;>simp [Instr.sliceBounds]
theorem Jm {t el:TypeId} {z:Nat} {e:Env} {ax:AX} {lo hi mx:Option AX} {vl vh vm:Option Value} {y px:AV} {H':AH} {v0:Value}
  (hu:P.underlying t=some (.slice el)) (hn:szOf P el=some z) (hpx:evX e ax=some px) (hv:VRH F w Z H px v0)
  (hl:BX F w Z H e lo vl) (hh:BX F w Z H e hi vh) (hm:BX F w Z H e mx vm) (hmh:mx.isSome=true->hi.isSome=true)
  (hev:evOp e nx H (.slcH z ax lo hi mx)=some (y,H')):
  ∃v,(Instr.sliceAt t v0 vl vh vm).run P w= .ok v w/\((VRH F w Z H y v/\H'=H)\/(H'=⟨H.objs,H.next+1⟩/\∃n base cap,y= .row H.next z 0 n/\v= .slice base n cap/\n<=cap/\(n=0\/∃b k,base=some ⟨b,k,none⟩))):=by
 simp only [evOp,hpx] at hev;split at hev
 ·rename_i id z1 off len heq;cases heq;split at hev
  ·rename_i z' es hget;split at hev
   ·rename_i hc;obtain ⟨hz1,hz2,hhi⟩:=hc;subst hz1;subst hz2;split at hev
    ·cases hev
    ·rename_i l h mo hb;obtain ⟨q1,⟨base,cap,rfl,q3,q4⟩,q5⟩:=lT hv;obtain ⟨b,o,base',cap',c,e1,e2,e3,e4,e5,e6,e9⟩:=q5 _ es hget;cases e2;have hN:es.length - off<=cap:=by omega
     obtain ⟨k1,k2,k3,k4⟩:=ET (P:=P) true hb hN hl hh hm hmh;have hvh:vh.isSome=true:=by
      cases hi with
      | none=>cases hhi
      | some _=>cases vh with
       | none=>exact hh.elim
       | some _=>rfl
     rw [Eg (len':=len) hvh] at k1;have hhm:h<=mo.getD cap:=by
      cases mo with
      | none=>simp;omega
      | some k=>exact (k4 k rfl).1
     have hmc:mo.getD cap<=cap:=by
      cases mo with
      | none=>exact Qb _
      | some k=>have:=(k4 k rfl).2;simp;omega
     split at hev
     ·rename_i hmo;have hmn:es.length - off<=mo.getD cap:=by
       rcases hmo with rfl | rfl
       ·exact hN
       ·exact Qb _
      cases hev;refine ⟨_,R1 w hu hn k1,.inl ⟨.l ⟨q1,⟨_,_,rfl,by omega,?_⟩,?_⟩,rfl⟩⟩
      ·rcases PT k2 with rfl | hlt
       ·exact .inl (by omega)
       ·rcases e4 with e4 | rfl
        ·omega
        ·refine .inr ⟨b,o+off*z'+l*z',?_⟩;rw [a8 (by omega)];simp [lR]
      ·intro zz es2 hlive;rw [hget] at hlive;cases hlive;refine ⟨b,o,_,_,c,e1,rfl,by omega,?_,e5,?_,by omega⟩
       ·by_cases hml:mo.getD cap=l
        ·exact .inl (by omega)
        ·rcases e4 with e4 | e4
         ·omega
         ·right;rw [a8 hml,e4];simp [lR,cG,A6]
       ·have:(off+l+(mo.getD cap - l))*z'<=(off+cap)*z':=Qh _ (by omega);omega
     ·cases hev;refine ⟨_,R1 w hu hn k1,.inr ⟨rfl,_,_,_,rfl,rfl,by omega,?_⟩⟩;rcases PT k2 with rfl | hlt
      ·exact .inl (by omega)
      ·rcases e4 with e4 | rfl
       ·omega
       ·refine .inr ⟨b,o+off*z'+l*z',?_⟩;rw [a8 (by omega)];simp [lR]
   ·cases hev
  ·cases hev
 ·cases hev
theorem Jn {t:TypeId} {e:Env} {ax:AX} {lo hi:Option AX} {vl vh:Option Value} {y px:AV} {H':AH} {v0:Value}
  (hu:P.underlying t=some .string) (hpx:evX e ax=some px) (hv:VRH F w Z H px v0)
  (hl:BX F w Z H e lo vl) (hh:BX F w Z H e hi vh)
  (hev:evOp e nx H (.sslc ax lo hi)=some (y,H')):
  ∃v,(Instr.sliceAt t v0 vl vh none).run P w= .ok v w/\VRH F w Z H y v/\H'=H:=by
 simp only [evOp,hpx] at hev;split at hev
 ·rename_i s heq;cases heq;split at hev
  ·cases hev
  ·rename_i l h mo hb;cases hev;have hmo:mo=none:=by
    simp only [f4,bndM] at hb;split at hb
    ·cases hb
    ·split at hb
     ·cases hb
     ·cases hb;rfl
   subst hmo;obtain ⟨k1,k2,k3,_⟩:=ET (P:=P) (F:=F) (w:=w) (Z:=Z) (H:=H) (vm:=none) false hb (Qb _) hl hh trivial (by simp);rw [gP hv];refine ⟨_,?_,.d (.str _),rfl⟩;have hs:(⟨s.toArray⟩:ByteArray).size=s.length:=by simp [ByteArray.size]
   simp only [Instr.sliceAt,Instr.slice,Sem.run_bind,aX w hu,Result.andThen_ok,hs,Option.isSome_none,eM,if_false,Sem.run_pure,k1];congr 2;apply ByteArray.ext;rw [ByteArray.data_extract];simp [List.extract]
 ·cases hev
end
end Go.Av
namespace Go.Av
section
variable {F:Nat->Nat->Prop} {B0:Nat} {w:World} {Z:Beta} {H:AH}
theorem PW.mk' {cs:List AV} {vs:List Value} (hl:cs.length=vs.length) (h:∀(i:Nat) x v,cs[i]? =some x->vs[i]? =some v->v.oneCell'=true/\VRH F w Z H x v):
  PW F w Z H cs vs:=by
 refine ⟨hl,?_,fun i x v hx hv=>(h i x v hx hv).2⟩;intro v hv;obtain ⟨i,hi,rfl⟩:=Ql.1 hv;have hi':i<cs.length:=by omega
 exact (h i cs[i] vs[i] (by simp [hi']) (by simp [hi])).1
theorem cN {U I:Type} {f:U->Option I} {l:List U} {r:List I} (h:mapO f l=some r):l.length=r.length:=(vD h).1
theorem Gi {id:Nat} {v:Value} (h:VRH F w Z H (.map id) v):v.oneCell'=true:=by
 cases h with
 | d h=>cases h
 | l hl=>exact A' hl
theorem Y8 {v:Value} (h:VRH F w Z H .junk v):v.oneCell'=true:=by
 cases h with
 | d h=>cases h;assumption
 | l hl=>exact hl.elim
theorem YU {n:Nat} {H2:AH} {J:Nat->Nat->Prop} {esz b o:Nat} {es es':List (List AV)} {c:Array Value} (hb:Blk w b c)
  (hJ:∀i,J b i)
  (ih:∀x y v,snap n H2 x=some y->VRH F w Z H x v->VRD w J y v)
  (hz:∀e∈es,e.length=esz)
  (hc:∀(i j:Nat) e x,es[i]? =some e->e[j]? =some x->∃v,c[o+i*esz+j]? =some v/\v.oneCell'=true/\VRH F w Z H x v)
  (hs:mapO (mapO (snap n H2)) es=some es'):
  es'.length=es.length/\(∀e∈es',e.length=esz)/\∃vs:Nat->Nat->Value,
   (∀(i j:Nat) e x,es'[i]? =some e->e[j]? =some x->J b (o+i*esz+j)/\w.cell? ⟨b,o+i*esz+j,none⟩=some (vs i j)/\(vs i j).oneCell'=true)/\
   (∀(i j:Nat) e x,es'[i]? =some e->e[j]? =some x->VRD w J x (vs i j)):=by
 have key:∀(i j:Nat) e x,es'[i]? =some e->e[j]? =some x->∃v,c[o+i*esz+j]? =some v/\v.oneCell'=true/\VRD w J x v:=by
  intro i j e x he hx;obtain ⟨e0,h1,h2⟩:=dC hs he;obtain ⟨x0,h3,h4⟩:=dC h2 hx;obtain ⟨v,k1,k2,k3⟩:=hc i j e0 x0 h1 h3;exact ⟨v,k1,k2,ih x0 x v h4 k3⟩
 refine ⟨(cN hs).symm,?_,fun i j=>(c[o+i*esz+j]?).getD default,?_,?_⟩
 ·intro e he;obtain ⟨i,hi,rfl⟩:=Ql.1 he;obtain ⟨e0,h1,h2⟩:=dC hs (i:=i) (b:=es'[i]) (by simp [hi]);rw [<- cN h2];exact hz e0 (Qe h1)
 ·intro i j e x he hx;obtain ⟨v,k1,k2,k3⟩:=key i j e x he hx;obtain ⟨ty,hb⟩:=hb;simp only [k1,A2];exact ⟨hJ _,cell_iff.2 ⟨c,ty,(0,0),hb,k1⟩,k2⟩
 ·intro i j e x he hx;obtain ⟨v,k1,k2,k3⟩:=key i j e x he hx;simp only [k1,A2];exact k3
theorem N' (hr:HR F B0 w Z H) {H2:AH} (hsub:∀id ob,H2.get id=some ob->H.get id=some ob) {J:Nat->Nat->Prop} (hi:∀b i,Imm F Z H b i->J b i) (hb:∀id ob b o,H2.get id=some ob->Z id=some (b,o)->∀i,J b i):
  ∀(n:Nat) (x y:AV) (v:Value),snap n H2 x=some y->VRH F w Z H x v->VRD w J y v:=by
 have hd:∀x v,VRD w (Imm F Z H) x v->VRD w J x v:=fun x v h=>h.mono fun b i u h1 h2=>⟨hi b i h1,h2⟩
 intro n
 induction n with
 | zero=>intro x y v h;cases h
 | succ n ih=>
  intro x y v h hv;have lst:∀{cs:List AV} {ys:List AV},mapO (snap n H2) cs=some ys->∀{vs:Array Value},cs.length=vs.size->
    (∀(i:Nat) x u,cs[i]? =some x->vs[i]? =some u->VRH F w Z H x u)->ys.length=vs.size/\∀(i:Nat) x u,ys[i]? =some x->vs[i]? =some u->VRD w J x u:=by
   intro cs ys hm vs hl hp;refine ⟨(cN hm).symm.trans hl,?_⟩;intro i x u hx hu;obtain ⟨x0,h1,h2⟩:=dC hm hx;exact ih x0 x u h2 (hp i x0 u h1 hu)
  cases x with
  | agg cs=>
   simp only [snap] at h;cases hm:mapO (snap n H2) cs with
   | none=>rw [hm] at h;cases h
   | some ys=>
    rw [hm] at h;cases h;obtain ⟨vs,rfl,hp⟩:=vL hv;obtain ⟨h1,h2⟩:=lst hm (by simpa using hp.1) (fun i x u hx hu=>hp.2.2 i x u hx (by simpa using hu));exact .agg ys vs h1 (fun u hu=>hp.2.1 u (by simpa using hu)) h2
  | tup cs=>
   simp only [snap] at h;cases hm:mapO (snap n H2) cs with
   | none=>rw [hm] at h;cases h
   | some ys=>
    rw [hm] at h;cases h;obtain ⟨vs,rfl,hp1,hp2⟩:=RC hv;obtain ⟨h1,h2⟩:=lst hm hp1 hp2;exact .tup ys vs h1 h2
  | iface t x=>
   simp only [snap] at h;cases hm:snap n H2 x with
   | none=>rw [hm] at h;cases h
   | some y'=>
    rw [hm] at h;cases h;obtain ⟨u,rfl,hp⟩:=DT hv;exact .iface t y' u (ih x y' u hm hp)
  | func fn a b=>
   simp only [snap] at h;split at h
   ·cases h
   ·rename_i a' ha;cases hm:mapO (snap n H2) b with
    | none=>rw [hm] at h;cases h
    | some b'=>
     rw [hm] at h;cases h;obtain ⟨va,vb,rfl,p1,p2,p3,p4⟩:=DW hv;obtain ⟨h1,h2⟩:=lst ha p1 p3;obtain ⟨h3,h4⟩:=lst hm p2 p4;exact .func fn a' b' va vb h1 h3 h2 h4
  | Xa z es=>cases h;exact hd _ _ (mF hv).1
  | app z es t=>cases h;exact hd _ _ (z9 hv).2.1
  | ptr id esz i off=>
   simp only [snap] at h;split at h
   ·rename_i esz' es hget;split at h
    ·rename_i hz;subst hz;cases hm:mapO (mapO (snap n H2)) es with
     | none=>rw [hm] at h;cases h
     | some es'=>
      rw [hm] at h;cases h;obtain ⟨_,_,h3⟩:=mW hv;obtain ⟨b,o,k1,rfl⟩:=h3 _ _ (hsub _ _ hget);obtain ⟨b',o',c,m1,m2,m3,m4,m5,m6⟩:=hr.obj id _ (hsub _ _ hget);rw [k1] at m1;cases m1;obtain ⟨_,q1,vs,q2,q3⟩:=YU m3 (hb id _ b o hget k1) ih m5 m6 hm;exact .iptr esz' es' i off b o vs q1 q2 q3
    ·cases h
   ·cases h
  | row id esz off len=>
   simp only [snap] at h;split at h
   ·rename_i esz' es hget;split at h
    ·rename_i hz;obtain ⟨hz,hle⟩:=hz;subst hz;cases hm:mapO (mapO (snap n H2)) ((es.drop off).take len) with
     | none=>rw [hm] at h;cases h
     | some es'=>
      rw [hm] at h;cases h;obtain ⟨_,⟨base,cap,rfl,k3,k4⟩,k5⟩:=lT hv;obtain ⟨b,o,base',cap',c,e1,e2,e3,e4,e5,e6,_⟩:=k5 _ _ (hsub _ _ hget);cases e2;obtain ⟨b',o',c',m1,m2,m3,m4,m5,m6⟩:=hr.obj id _ (hsub _ _ hget);rw [e1] at m1;cases m1;have hlen:((es.drop off).take len).length=len:=by simp;omega
      obtain ⟨q0,q1,vs,q2,q3⟩:=YU (o:=o+off*esz') m3 (hb id _ b o hget e1) ih
       (fun e he=>m5 e (nI (Qr he))) (by
        intro i j e x he hx;rw [List.getElem?_take] at he;split at he
        ·rw [List.getElem?_drop] at he;obtain ⟨u,n1,n2,n3⟩:=m6 _ j e x he hx;refine ⟨u,?_,n2,n3⟩;rw [<- n1,cG];congr 1;omega
        ·cases he) hm
      rw [hlen] at q0;rcases Qt len with hl0 | hlp
      ·subst hl0;have:es'=[]:=Qf q0;subst this;exact .slice0 _ _ _
      ·have hbase:base=some ⟨b,o+off*esz',none⟩:=by
        rcases e4 with e4 | e4
        ·omega
        ·exact e4
       rw [hbase,<- q0];exact .slice esz' es' b _ cap vs (by intro e;rw [e] at q0;simp at q0;omega) q1 (by omega) q2 q3
    ·cases h
   ·cases h
  | map id=>cases h;exact .junk _ (Gi hv)
  | junk=>cases h;exact .junk _ (Y8 hv)
  | bool b=>cases h;rw [iR hv];exact .bool b
  | int k m=>cases h;rw [cM hv];exact .int k m
  | str s=>cases h;rw [gP hv];exact .str s
  | nilptr=>cases h;rw [CC hv];exact .nilptr
  | nilfunc=>cases h;rw [QI hv];exact .nilfunc
  | niliface=>cases h;rw [N8 hv];exact .niliface
  | nilmap=>cases h;rw [Q7 hv];exact .nilmap
  | slice z es=>cases h;exact hd _ _ (yY hv)
  | iptr z es i o=>cases h;exact hd _ _ (CE hv)
theorem C9 (hr:HR F B0 w Z H) {J:Nat->Nat->Prop} (hi:∀b i,Imm F Z H b i->J b i) (hb:∀b i,B0<=b->J b i):
  ∀(n:Nat) (x y:AV) (v:Value),snap n H x=some y->VRH F w Z H x v->VRD w J y v:=
 N' hr (fun _ _ h=>h) hi fun id ob b o hg hβ i=>hb b i ((hr.obj id ob hg).lt hβ).2
theorem CF:∀(n:Nat) (x y:AV) (v:Value),snap n H x=some y->bor n x=false->VRH F w Z H x v->VRD w (Imm F Z H) y v:=by
 intro n
 induction n with
 | zero=>intro x y v h;cases h
 | succ n ih=>
  intro x y v h hbr hv;have lst:∀{cs:List AV} {ys:List AV},mapO (snap n H) cs=some ys->anyL (bor n) cs=false->∀{vs:Array Value},cs.length=vs.size->
    (∀(i:Nat) x u,cs[i]? =some x->vs[i]? =some u->VRH F w Z H x u)->ys.length=vs.size/\∀(i:Nat) x u,ys[i]? =some x->vs[i]? =some u->VRD w (Imm F Z H) x u:=by
   intro cs ys hm hbb vs hl hp;refine ⟨(cN hm).symm.trans hl,?_⟩;intro i x u hx hu;obtain ⟨x0,h1,h2⟩:=dC hm hx;exact ih x0 x u h2 (gB hbb x0 (Qe h1)) (hp i x0 u h1 hu)
  cases x with
  | agg cs=>
   simp only [snap] at h;simp only [bor] at hbr;cases hm:mapO (snap n H) cs with
   | none=>rw [hm] at h;cases h
   | some ys=>
    rw [hm] at h;cases h;obtain ⟨vs,rfl,hp⟩:=vL hv;obtain ⟨h1,h2⟩:=lst hm hbr (by simpa using hp.1) (fun i x u hx hu=>hp.2.2 i x u hx (by simpa using hu));exact .agg ys vs h1 (fun u hu=>hp.2.1 u (by simpa using hu)) h2
  | tup cs=>
   simp only [snap] at h;simp only [bor] at hbr;cases hm:mapO (snap n H) cs with
   | none=>rw [hm] at h;cases h
   | some ys=>
    rw [hm] at h;cases h;obtain ⟨vs,rfl,hp1,hp2⟩:=RC hv;obtain ⟨h1,h2⟩:=lst hm hbr hp1 hp2;exact .tup ys vs h1 h2
  | iface t x=>
   simp only [snap] at h;simp only [bor] at hbr;cases hm:snap n H x with
   | none=>rw [hm] at h;cases h
   | some y'=>
    rw [hm] at h;cases h;obtain ⟨u,rfl,hp⟩:=DT hv;exact .iface t y' u (ih x y' u hm hbr hp)
  | func fn a b=>
   simp only [snap] at h;simp only [bor,Bool.or_eq_false_iff] at hbr;split at h
   ·cases h
   ·rename_i a' ha;cases hm:mapO (snap n H) b with
    | none=>rw [hm] at h;cases h
    | some b'=>
     rw [hm] at h;cases h;obtain ⟨va,vb,rfl,p1,p2,p3,p4⟩:=DW hv;obtain ⟨h1,h2⟩:=lst ha hbr.1 p1 p3;obtain ⟨h3,h4⟩:=lst hm hbr.2 p2 p4;exact .func fn a' b' va vb h1 h3 h2 h4
  | Xa z es=>cases h;exact (mF hv).1
  | app z es t=>cases h;exact (z9 hv).2.1
  | ptr id esz i off=>cases hbr
  | row id esz off len=>cases hbr
  | map id=>cases hbr
  | junk=>cases h;exact .junk _ (Y8 hv)
  | bool b=>cases h;rw [iR hv];exact .bool b
  | int k m=>cases h;rw [cM hv];exact .int k m
  | str s=>cases h;rw [gP hv];exact .str s
  | nilptr=>cases h;rw [CC hv];exact .nilptr
  | nilfunc=>cases h;rw [QI hv];exact .nilfunc
  | niliface=>cases h;rw [N8 hv];exact .niliface
  | nilmap=>cases h;rw [Q7 hv];exact .nilmap
  | slice z es=>cases h;exact yY hv
  | iptr z es i o=>cases h;exact CE hv
theorem Q9 {imm imm':Nat->Nat->Prop} {w':World}:∀(n:Nat) (x:AV) (v:Value),flat n x=true->VRD w imm x v->VRD w' imm' x v:=by
 intro n
 induction n with
 | zero=>intro x v h;cases h
 | succ n ih=>
  intro x v h hv;have lst:∀{cs:List AV},(!anyL (fun c=> !flat n c) cs)=true->∀c∈cs,flat n c=true:=by
   intro cs hc c hcc;have h':anyL (fun c=> !flat n c) cs=false:=by
    cases hh:anyL (fun c=> !flat n c) cs with
    | false=>rfl
    | true=>rw [hh] at hc;cases hc
   have:=gB h' c hcc;simpa using this
  cases hv with
  | bool b=>exact .bool b
  | int k m=>exact .int k m
  | str s=>exact .str s
  | nilptr=>exact .nilptr
  | nilfunc=>exact .nilfunc
  | niliface=>exact .niliface
  | nilmap=>exact .nilmap
  | junk=>cases h
  | agg cs vs hl h1 hp=>exact .agg cs vs hl h1 fun i x u hx hu=>ih x u (lst h x (Qe hx)) (hp i x u hx hu)
  | tup cs vs hl hp=>exact .tup cs vs hl fun i x u hx hu=>ih x u (lst h x (Qe hx)) (hp i x u hx hu)
  | iface t x u hx=>exact .iface t x u (ih x u h hx)
  | func=>cases h
  | slice0=>cases h
  | slice=>cases h
  | iptr=>cases h
end
end Go.Av
