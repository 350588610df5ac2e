/-
  An abstract interpreter over the model, proved sound: part D.
-/
import Derived.Test.YtcehjengeaafpaaGreatAvC
import Derived.WalkKit
import Derived.ProofKit
import Derived.OpenShut
import Derived.JoinedCond
import Derived.Carry
set_option linter.all false
namespace Go.Av
@[simp] theorem evX_t (e:Env) (n:Nat):evX e (.t n)=look n e:=rfl
@[simp] theorem evX_c (e:Env) (v:AV):evX e (.c v)=some v:=rfl
@[simp] theorem a1M {G:Type} (t:Nat) (x:G) (r:List (Nat×G)):look t ((t,x)::r)=some x:=by simp [look]
@[simp] theorem j9 {G:Type} (t u:Nat) (x:G) (r:List (Nat×G)) (h:u≠t):look t ((u,x)::r)=look t r:=by simp [look,h]
@[simp] theorem a1e (e:Env) (t:Nat) (v:AV):putE e (some t) v=(t,v)::e:=rfl
@[simp] theorem a1d (e:Env) (v:AV):putE e none v=e:=rfl
attribute [simp] iP
theorem ML {G:Type} (t:Nat):∀(a b:List (Nat×G)),look t (a++b)=(look t a).or (look t b)
 | [],b=>by simp [look]
 | (u,x)::a,b=>by
  simp only [oY,look];split
  ·simp
  ·exact ML t a b
@[simp] theorem N6 {G:Type} (t:Nat):look t ([]:List (Nat×G))=none:=Eq.trans (Eq.refl none) (Eq.refl none)
@[simp] theorem a1N {G:Type} (t:Nat) (y:G):setl t y []=[]:=Eq.trans (Eq.refl []) (Eq.refl [])
@[simp] theorem Gv {G:Type} (t:Nat) (x y:G) (r:List (Nat×G)):setl t y ((t,x)::r)=(t,y)::r:=by simp [setl]
@[simp] theorem Bt {G:Type} (t u:Nat) (x y:G) (r:List (Nat×G)) (h:u≠t):setl t y ((u,x)::r)=(u,x)::setl t y r:=by simp [setl,h]
@[simp] theorem a0Z {G:Type} (t:Nat):dropl t ([]:List (Nat×G))=[]:=Eq.trans (Eq.refl []) (Eq.refl [])
@[simp] theorem ZJ {G:Type} (t:Nat) (x:G) (r:List (Nat×G)):dropl t ((t,x)::r)=r:=by simp [dropl]
@[simp] theorem qb {G:Type} (t u:Nat) (x:G) (r:List (Nat×G)) (h:u≠t):dropl t ((u,x)::r)=(u,x)::dropl t r:=by simp [dropl,h]
@[simp] theorem a0e:eT []=[]:=Eq.trans (Eq.refl []) (Eq.refl [])
@[simp] theorem ZP (u:Nat) (r:List (Nat×AO)):eT ((u,.res)::r)=eT r:=by simp [eT]
@[simp] theorem a0f (u z:Nat) (es:List (List AV)) (r:List (Nat×AO)):eT ((u,.row z es)::r)=(u,.row z es)::eT r:=by simp [eT]
@[simp] theorem a0g (u z f:Nat) (r:List (Nat×AO)):eT ((u,.tok z f)::r)=(u,.tok z f)::eT r:=by simp [eT]
@[simp] theorem a0d (u:Nat) (es:List (AV×AV)) (r:List (Nat×AO)):eT ((u,.map es)::r)=(u,.map es)::eT r:=by simp [eT]
@[simp] theorem get_mk (l:List (Nat×AO)) (n t:Nat):AH.get ⟨l,n⟩ t=look t l:=by simp [AH.get]
@[simp] theorem set_mk (l:List (Nat×AO)) (n t:Nat) (o:AO):AH.set ⟨l,n⟩ t o=⟨setl t o l,n⟩:=by simp [AH.set]
@[simp] theorem kill_mk (l:List (Nat×AO)) (n t:Nat):AH.kill ⟨l,n⟩ t=⟨dropl t l,n⟩:=by simp [AH.kill]
@[simp] theorem new_mk (l:List (Nat×AO)) (n:Nat) (o:AO):AH.new ⟨l,n⟩ o=⟨l++[(n,o)],n+1⟩:=by simp [AH.new]
@[simp] theorem resv_mk (l:List (Nat×AO)) (n:Nat) (ds:List Nat):AH.resv ⟨l,n⟩ ds=⟨l++ds.map fun d=>(n+d,.res),n+maxN ds+1⟩:=by simp [AH.resv]
@[simp] theorem a1n (l:List (Nat×AO)) (n:Nat):AH.sweep ⟨l,n⟩=⟨eT l,n⟩:=by simp [AH.sweep]
@[simp] theorem put_new {l:List (Nat×AO)} {n t:Nat} {o:AO} (h:look t l=none):AH.put ⟨l,n⟩ t o=⟨l++[(n,o)],n+1⟩:=by
 simp [AH.put,h]
@[simp] theorem put_res {l:List (Nat×AO)} {n t:Nat} {o:AO} (h:look t l=some .res):AH.put ⟨l,n⟩ t o=⟨setl t o l,n⟩:=by
 simp [AH.put,h]
@[simp] theorem H0_mk:H0=⟨[],0⟩:=Eq.trans (Eq.refl H0) (Eq.refl H0)
attribute [simp] maxN
def Tail (T:List (Nat×AO)) (n:Nat):Prop:=∀j,n<=j->look j T=none
theorem Tail.nil (n:Nat):Tail [] n:=fun _ _=>rfl
theorem Tail.app {T:List (Nat×AO)} {n:Nat} (h:Tail T n) (o:AO):Tail (T++[(n,o)]) (n+1):=by
 intro j hj;rw [ML,h j (by omega)];have:n≠j:=by omega
 simp [look,this]
theorem Tail.mono {T:List (Nat×AO)} {n m:Nat} (h:Tail T n) (hm:n<=m):Tail T m:=fun j hj=>h j (by omega)
@[simp] theorem a1c {T r:List (Nat×AO)} {t:Nat} (h:look t T=none):look t (T++r)=look t r:=by rw [ML,h];simp
@[simp] theorem a1g {T r:List (Nat×AO)} {t:Nat} {y:AO} (h:look t T=none):setl t y (T++r)=T++setl t y r:=by
 induction T with
 | nil=>rfl
 | cons p T ih=>
  obtain ⟨u,x⟩:=p;simp only [look] at h;split at h
  ·cases h
  ·rename_i hne;simp [setl,hne,ih h]
@[simp] theorem a0q {T r:List (Nat×AO)} {t:Nat} (h:look t T=none):dropl t (T++r)=T++dropl t r:=by
 induction T with
 | nil=>rfl
 | cons p T ih=>
  obtain ⟨u,x⟩:=p;simp only [look] at h;split at h
  ·cases h
  ·rename_i hne;simp [dropl,hne,ih h]
def vH (H:AH):Option AV->Option (Rt×AH)
 | some v=>some (.val v,H)
 | none=>none
@[simp] theorem vH_some (H:AH) (v:AV):vH H (some v)=some (.val v,H):=rfl
section
variable {Φ:FuncId->Option AFun} {e:Env} {nx:Nat} {h:AH}
def eU:Option (AV×AH)->Option (Rt×AH)
 | some (v,h)=>some (.val v,h)
 | none=>none
@[simp] theorem a0H (v:AV) (h:AH):eU (some (v,h))=some (.val v,h):=rfl
theorem fD {call:aP} {op:AOp} (hk:op.isCall=false):aD call e nx h op=eU (evOp e nx h op):=by
 rw [L7 hk];cases evOp e nx h op<;>rfl
@[simp] theorem a0z {call:aP}:∀y0,aD call e nx h (.mov y0)=eU (evOp e nx h (.mov y0)):=fun y0=>fD rfl
@[simp] theorem xz {call:aP}:∀y0,aD call e nx h (.nilapp y0)=eU (evOp e nx h (.nilapp y0)):=fun y0=>fD rfl
@[simp] theorem zg {call:aP}:∀y0 y1 y2,aD call e nx h (.pick y0 y1 y2)=eU (evOp e nx h (.pick y0 y1 y2)):=fun y0 y1 y2=>fD rfl
@[simp] theorem yl {call:aP}:∀y0,aD call e nx h (.alloc y0)=eU (evOp e nx h (.alloc y0)):=fun y0=>fD rfl
@[simp] theorem a0t {call:aP}:∀y0,aD call e nx h (.box y0)=eU (evOp e nx h (.box y0)):=fun y0=>fD rfl
@[simp] theorem a04 {call:aP}:∀y0,aD call e nx h (.boxi y0)=eU (evOp e nx h (.boxi y0)):=fun y0=>fD rfl
@[simp] theorem ym {call:aP}:∀y0 y1,aD call e nx h (.build y0 y1)=eU (evOp e nx h (.build y0 y1)):=fun y0 y1=>fD rfl
@[simp] theorem xu {call:aP}:∀y0 y1 y2 y3,aD call e nx h (.bslice y0 y1 y2 y3)=eU (evOp e nx h (.bslice y0 y1 y2 y3)):=fun y0 y1 y2 y3=>fD rfl
@[simp] theorem zf {call:aP}:∀y0 y1 y2,aD call e nx h (.load y0 y1 y2)=eU (evOp e nx h (.load y0 y1 y2)):=fun y0 y1 y2=>fD rfl
@[simp] theorem yw {call:aP}:∀y0 y1 y2,aD call e nx h (.store y0 y1 y2)=eU (evOp e nx h (.store y0 y1 y2)):=fun y0 y1 y2=>fD rfl
@[simp] theorem ya {call:aP}:∀y0,aD call e nx h (.nilchk y0)=eU (evOp e nx h (.nilchk y0)):=fun y0=>fD rfl
@[simp] theorem a0s {call:aP}:∀y0 y1 y2,aD call e nx h (.bin y0 y1 y2)=eU (evOp e nx h (.bin y0 y1 y2)):=fun y0 y1 y2=>fD rfl
@[simp] theorem a0v {call:aP}:∀y0 y1 y2 y3 y4,aD call e nx h (.eqs y0 y1 y2 y3 y4)=eU (evOp e nx h (.eqs y0 y1 y2 y3 y4)):=fun y0 y1 y2 y3 y4=>fD rfl
@[simp] theorem a0u {call:aP}:∀y0 y1 y2,aD call e nx h (.eqn y0 y1 y2)=eU (evOp e nx h (.eqn y0 y1 y2)):=fun y0 y1 y2=>fD rfl
@[simp] theorem a12 {call:aP}:∀y0 y1,aD call e nx h (.un y0 y1)=eU (evOp e nx h (.un y0 y1)):=fun y0 y1=>fD rfl
@[simp] theorem a05 {call:aP}:∀y0 y1,aD call e nx h (.conv y0 y1)=eU (evOp e nx h (.conv y0 y1)):=fun y0 y1=>fD rfl
@[simp] theorem qg {call:aP}:∀y0,aD call e nx h (.b2s y0)=eU (evOp e nx h (.b2s y0)):=fun y0=>fD rfl
@[simp] theorem xk {call:aP}:∀y0 y1,aD call e nx h (.mkiface y0 y1)=eU (evOp e nx h (.mkiface y0 y1)):=fun y0 y1=>fD rfl
@[simp] theorem xy {call:aP}:∀y0 y1 y2,aD call e nx h (.mkfunc y0 y1 y2)=eU (evOp e nx h (.mkfunc y0 y1 y2)):=fun y0 y1 y2=>fD rfl
@[simp] theorem xl {call:aP}:∀y0 y1 y2 y3 y4 y5,aD call e nx h (.mkslice y0 y1 y2 y3 y4 y5)=eU (evOp e nx h (.mkslice y0 y1 y2 y3 y4 y5)):=fun y0 y1 y2 y3 y4 y5=>fD rfl
@[simp] theorem a0A {call:aP}:∀y0 y1 y2 y3 y4,aD call e nx h (.slc y0 y1 y2 y3 y4)=eU (evOp e nx h (.slc y0 y1 y2 y3 y4)):=fun y0 y1 y2 y3 y4=>fD rfl
@[simp] theorem yo {call:aP}:∀y0 y1,aD call e nx h (.faddr y0 y1)=eU (evOp e nx h (.faddr y0 y1)):=fun y0 y1=>fD rfl
@[simp] theorem a0x {call:aP}:∀y0 y1 y2 y3,aD call e nx h (.fld y0 y1 y2 y3)=eU (evOp e nx h (.fld y0 y1 y2 y3)):=fun y0 y1 y2 y3=>fD rfl
@[simp] theorem yp {call:aP}:∀y0 y1 y2 y3,aD call e nx h (.iaddr y0 y1 y2 y3)=eU (evOp e nx h (.iaddr y0 y1 y2 y3)):=fun y0 y1 y2 y3=>fD rfl
@[simp] theorem ze {call:aP}:∀y0 y1,aD call e nx h (.idxs y0 y1)=eU (evOp e nx h (.idxs y0 y1)):=fun y0 y1=>fD rfl
@[simp] theorem a07 {call:aP}:∀y0 y1 y2 y3 y4,aD call e nx h (.idxa y0 y1 y2 y3 y4)=eU (evOp e nx h (.idxa y0 y1 y2 y3 y4)):=fun y0 y1 y2 y3 y4=>fD rfl
@[simp] theorem a0w {call:aP}:∀y0 y1,aD call e nx h (.ext y0 y1)=eU (evOp e nx h (.ext y0 y1)):=fun y0 y1=>fD rfl
@[simp] theorem a0y {call:aP}:∀y0,aD call e nx h (.len y0)=eU (evOp e nx h (.len y0)):=fun y0=>fD rfl
@[simp] theorem zh {call:aP}:∀y0,aD call e nx h (.slen y0)=eU (evOp e nx h (.slen y0)):=fun y0=>fD rfl
@[simp] theorem xr {call:aP}:∀y0 y1 y2 y3 y4,aD call e nx h (.append y0 y1 y2 y3 y4)=eU (evOp e nx h (.append y0 y1 y2 y3 y4)):=fun y0 y1 y2 y3 y4=>fD rfl
@[simp] theorem a06 {call:aP}:∀y0 y1 y2,aD call e nx h (.copy y0 y1 y2)=eU (evOp e nx h (.copy y0 y1 y2)):=fun y0 y1 y2=>fD rfl
@[simp] theorem yn {call:aP}:∀y0 y1,aD call e nx h (.clear y0 y1)=eU (evOp e nx h (.clear y0 y1)):=fun y0 y1=>fD rfl
@[simp] theorem xx {call:aP}:∀y0 y1,aD call e nx h (.minmax y0 y1)=eU (evOp e nx h (.minmax y0 y1)):=fun y0 y1=>fD rfl
@[simp] theorem yq {call:aP}:aD call e nx h .mkmap=eU (evOp e nx h .mkmap):=fD rfl
@[simp] theorem xw {call:aP}:∀y0 y1 y2 y3 y4,aD call e nx h (.lookup y0 y1 y2 y3 y4)=eU (evOp e nx h (.lookup y0 y1 y2 y3 y4)):=fun y0 y1 y2 y3 y4=>fD rfl
@[simp] theorem yg {call:aP}:∀y0 y1 y2 y3,aD call e nx h (.update y0 y1 y2 y3)=eU (evOp e nx h (.update y0 y1 y2 y3)):=fun y0 y1 y2 y3=>fD rfl
@[simp] theorem xn {call:aP}:∀y0 y1 y2 y3,aD call e nx h (.tassert y0 y1 y2 y3)=eU (evOp e nx h (.tassert y0 y1 y2 y3)):=fun y0 y1 y2 y3=>fD rfl
@[simp] theorem yu {f:FuncId} {xs:List AX}:aD (aG Φ) e nx h (.pcall f xs)=match mapO (evX e) xs with
  | some as=>nY (aG Φ) f as h
  | none=>none:=rfl
@[simp] theorem yb {f:FuncId} {xs:List AX}:aD (aG Φ) e nx h (.pcallk f xs)=match mapO (evX e) xs with
  | some as=>match LU as with
   | some id=>match mapO (DJ h id) as with
    | some as'=>if anyL (bor aI) as' then none else nY (aG Φ) f as' (h.kill id)
    | none=>none
   | none=>none
  | none=>none:=rfl
@[simp] theorem yc {f:FuncId} {xs:List AX}:aD (aG Φ) e nx h (.pcallr f xs)=match mapO (evX e) xs with
  | some as=>uT (aG Φ) f as nx h
  | none=>none:=rfl
@[simp] theorem yx {f:FuncId} {xs:List AX}:aD (aG Φ) e nx h (.tcall f xs)=match mapO (evX e) xs with
  | some as=>aG Φ f as h
  | none=>none:=rfl
@[simp] theorem yd {f:AX} {xs:List AX}:aD (aG Φ) e nx h (.pcallv f xs)=match evX e f,mapO (evX e) xs with
  | some fv,some as=>match tgt2 fv with
   | some (f,first,caps)=>nY (aG Φ) f (first++as++caps) h
   | none=>none
  | _,_=>none:=rfl
@[simp] theorem yf {f:AX} {xs:List AX}:aD (aG Φ) e nx h (.tcallv f xs)=match evX e f,mapO (evX e) xs with
  | some fv,some as=>match tgt2 fv with
   | some (f,first,caps)=>aG Φ f (first++as++caps) h
   | none=>none
  | _,_=>none:=rfl
@[simp] theorem xm {ms:List (TypeId×FuncId)} {x:AX} {xs:List AX}:aD (aG Φ) e nx h (.pinvoke ms x xs)=match evX e x,mapO (evX e) xs with
  | some (.iface t v),some as=>match look t ms with
   | some f=>nY (aG Φ) f (v::as) h
   | none=>none
  | _,_=>none:=rfl
@[simp] theorem xo {ms:List (TypeId×FuncId)} {x:AX} {xs:List AX}:aD (aG Φ) e nx h (.tinvoke ms x xs)=match evX e x,mapO (evX e) xs with
  | some (.iface t v),some as=>match look t ms with
   | some f=>aG Φ f (v::as) h
   | none=>none
  | _,_=>none:=rfl
@[simp] theorem yt {x:AX}:aD (aG Φ) e nx h (.panic x)=match evX e x with
  | some (.iface t v)=>some (.pan (.iface t v),h)
  | _=>none:=rfl
@[simp] theorem a0M (f:FuncId) (first caps:List AV):tgt2 (.func (.func f) first caps)=some (f,first,caps):=rfl
@[simp] theorem a1o (f:FuncId) (caps:List AV):tgt (.func (.func f) [] caps)=some (f,caps):=rfl
@[simp] theorem yi {f:FuncId} {as:List AV}:nY (aG Φ) f as h=
  match mapO (snap aI h) as with
  | some as'=>DA (anyL (bor aI) as) h (a8 Φ f as')
  | none=>none:=XN Φ f as h
@[simp] theorem zd (r:AV):DA false h (some (.val r))=some (.val r,h):=rfl
@[simp] theorem xp (r:AV):DA true h (some (.val r))=if flat aI r then some (.val r,h) else none:=by
 simp only [DA,KD];cases flat aI r<;>rfl
@[simp] theorem yz (b:Bool) (r:AV):DA b h (some (.pan r))=if flat aI r then some (.pan r,h) else none:=rfl
attribute [simp] evOp mapO AV.cells part NA LX idx bnd lenOf bndM bndH bndL DB eqK eqLs SZ
 dF frz w6 anyL aI mapO asInt eszOf
 retV DO retP wI
end
section
variable {n:Nat} {H:AH}
@[simp] theorem SH (cs:List AV):snap (n+1) H (.agg cs)=(mapO (snap n H) cs).map .agg:=by simp only [snap]
@[simp] theorem a1m (cs:List AV):snap (n+1) H (.tup cs)=(mapO (snap n H) cs).map .tup:=by simp only [snap]
@[simp] theorem a0a (t:TypeId) (v:AV):snap (n+1) H (.iface t v)=(snap n H v).map (.iface t):=by simp only [snap]
@[simp] theorem a0I (fn:Fn) (a b:List AV):snap (n+1) H (.func fn a b)=match mapO (snap n H) a with
  | none=>none
  | some a'=>(mapO (snap n H) b).map (.func fn a'):=by simp only [snap];rfl
@[simp] theorem zp (e:Nat) (es:List (List AV)):snap (n+1) H (.Xt e es)=some (.slice e es):=by simp only [snap]
@[simp] theorem a1O (e t:Nat) (es:List (List AV)):snap (n+1) H (.app e es t)=some (.slice e es):=by simp only [snap]
@[simp] theorem a0b (e:Nat) (es:List (List AV)):snap (n+1) H (.slice e es)=some (.slice e es):=by simp only [snap]
@[simp] theorem a0J (e i o:Nat) (es:List (List AV)):snap (n+1) H (.iptr e es i o)=some (.iptr e es i o):=by simp only [snap]
@[simp] theorem a1h (b:Bool):snap (n+1) H (.bool b)=some (.bool b):=by simp only [snap]
@[simp] theorem a1i (k:IntKind) (x:Int):snap (n+1) H (.int k x)=some (.int k x):=by simp only [snap]
@[simp] theorem a1l (x:List UInt8):snap (n+1) H (.str x)=some (.str x):=by simp only [snap]
@[simp] theorem a1j (id esz i off:Nat):snap (n+1) H (.ptr id esz i off)=match H.get id with
  | some (.row esz' es)=>if esz'=esz then (mapO (mapO (snap n H)) es).map fun es'=> .iptr esz es' i off else none
  | _=>none:=by simp only [snap];rfl
@[simp] theorem a1k (id esz off len:Nat):snap (n+1) H (.row id esz off len)=match H.get id with
  | some (.row esz' es)=>if esz'=esz/\off+len<=es.length then (mapO (mapO (snap n H)) ((es.drop off).take len)).map (.slice esz) else none
  | _=>none:=by simp only [snap];rfl
@[simp] theorem bor_agg (cs:List AV):bor (n+1) (.agg cs)=anyL (bor n) cs:=by simp only [bor]
@[simp] theorem a0P (fn:Fn) (a b:List AV):bor (n+1) (.func fn a b)=(anyL (bor n) a || anyL (bor n) b):=by simp only [bor]
@[simp] theorem bor_ptr (a b c d:Nat):bor (n+1) (.ptr a b c d)=true:=by simp only [bor]
@[simp] theorem bor_row (a b c d:Nat):bor (n+1) (.row a b c d)=true:=by simp only [bor]
@[simp] theorem a0i (e:Nat) (es:List (List AV)):bor (n+1) (.Xt e es)=false:=by simp only [bor]
@[simp] theorem bor_app (e t:Nat) (es:List (List AV)):bor (n+1) (.app e es t)=false:=by simp only [bor]
@[simp] theorem a0h (e:Nat) (es:List (List AV)):bor (n+1) (.slice e es)=false:=by simp only [bor]
@[simp] theorem a0Q (e i o:Nat) (es:List (List AV)):bor (n+1) (.iptr e es i o)=false:=by simp only [bor]
@[simp] theorem a0O (b:Bool):bor (n+1) (.bool b)=false:=by simp only [bor]
@[simp] theorem bor_int (k:IntKind) (x:Int):bor (n+1) (.int k x)=false:=by simp only [bor]
@[simp] theorem bor_str (x:List UInt8):bor (n+1) (.str x)=false:=by simp only [bor]
@[simp] theorem a1y (cs:List AV):flat (n+1) (.agg cs)= !anyL (fun c=> !flat n c) cs:=by simp only [flat]
@[simp] theorem a0D (t:TypeId) (v:AV):flat (n+1) (.iface t v)=flat n v:=by simp only [flat]
@[simp] theorem a13 (b:Bool):flat (n+1) (.bool b)=true:=by simp only [flat]
@[simp] theorem a1z (k:IntKind) (x:Int):flat (n+1) (.int k x)=true:=by simp only [flat]
end
section lits
variable {k n:Nat}
@[simp] theorem lit_lt:((no_index (@OfNat.ofNat Int k instOfNat))<(n:Int))↔@OfNat.ofNat Nat k (instOfNatNat k)<n:=Int.ofNat_lt
@[simp] theorem lit_le:((no_index (@OfNat.ofNat Int k instOfNat))<=(n:Int))↔@OfNat.ofNat Nat k (instOfNatNat k)<=n:=MF
@[simp] theorem lt_lit:((n:Int)<(no_index (@OfNat.ofNat Int k instOfNat)))↔n< @OfNat.ofNat Nat k (instOfNatNat k):=Int.ofNat_lt
@[simp] theorem le_lit:((n:Int)<=(no_index (@OfNat.ofNat Int k instOfNat)))↔n<=@OfNat.ofNat Nat k (instOfNatNat k):=MF
@[simp] theorem eq_lit:((n:Int)=(no_index (@OfNat.ofNat Int k instOfNat)))↔n= @OfNat.ofNat Nat k (instOfNatNat k):=Int.ofNat_inj
end lits
attribute [simp] Int.natCast_inj Int.ofNat_lt MF
@[simp] theorem bin_add (k:IntKind) (x y:Int):eZ .add (.int k x) (.int k y)=some (.int k (k.wrap (x+y))):=by simp [eZ]
@[simp] theorem bin_sub (k:IntKind) (x y:Int):eZ .sub (.int k x) (.int k y)=some (.int k (k.wrap (x - y))):=by simp [eZ]
@[simp] theorem bin_mul (k:IntKind) (x y:Int):eZ .mul (.int k x) (.int k y)=some (.int k (k.wrap (x*y))):=by simp [eZ]
@[simp] theorem bin_quo (k:IntKind) (x y:Int) (h:y≠0):eZ .quo (.int k x) (.int k y)=some (.int k (k.wrap (x.tdiv y))):=by simp [eZ,h]
@[simp] theorem bin_rem (k:IntKind) (x y:Int) (h:y≠0):eZ .rem (.int k x) (.int k y)=some (.int k (x.tmod y)):=by simp [eZ,h]
@[simp] theorem bin_eql (k:IntKind) (x y:Int):eZ .eql (.int k x) (.int k y)=some (.bool (decide (x=y))):=by
 simp [eZ,M7]
@[simp] theorem bin_neq (k:IntKind) (x y:Int):eZ .neq (.int k x) (.int k y)=some (.bool (!decide (x=y))):=by
 simp [eZ,M7,bne]
@[simp] theorem bin_lss (k:IntKind) (x y:Int):eZ .lss (.int k x) (.int k y)=some (.bool (decide (x<y))):=by simp [eZ]
@[simp] theorem bin_leq (k:IntKind) (x y:Int):eZ .leq (.int k x) (.int k y)=some (.bool (decide (x<=y))):=by simp [eZ]
@[simp] theorem bin_gtr (k:IntKind) (x y:Int):eZ .gtr (.int k x) (.int k y)=some (.bool (decide (x>y))):=by simp [eZ]
@[simp] theorem bin_geq (k:IntKind) (x y:Int):eZ .geq (.int k x) (.int k y)=some (.bool (decide (x>=y))):=by simp [eZ]
@[simp] theorem a0N (x y:List UInt8):eZ .eql (.str x) (.str y)=some (.bool (decide (x=y))):=by
 simp [eZ,M7]
def iand (k:IntKind) (x y:Int):Int:=k.wrap (BitVec.ofInt k.bits x&&& BitVec.ofInt k.bits y).toNat
def ior (k:IntKind) (x y:Int):Int:=k.wrap (BitVec.ofInt k.bits x ||| BitVec.ofInt k.bits y).toNat
def ixor (k:IntKind) (x y:Int):Int:=k.wrap (BitVec.ofInt k.bits x^^^BitVec.ofInt k.bits y).toNat
def LP (k:IntKind) (x y:Int):Int:=k.wrap (BitVec.ofInt k.bits x&&& ~~~BitVec.ofInt k.bits y).toNat
def ishl (k:IntKind) (x y:Int):Int:=k.wrap (x*2^(min y.toNat k.bits))
def ishr (k:IntKind) (x y:Int):Int:=x.fdiv (2^(min y.toNat k.bits))
def inot (k:IntKind) (n:Int):Int:=k.wrap (BitVec.ofInt k.bits (if k.signed then -1 else k.max)^^^BitVec.ofInt k.bits n).toNat
@[simp] theorem bin_and (k:IntKind) (x y:Int):eZ .and (.int k x) (.int k y)=some (.int k (iand k x y)):=by simp [eZ,iand]
@[simp] theorem bin_or (k:IntKind) (x y:Int):eZ .or (.int k x) (.int k y)=some (.int k (ior k x y)):=by simp [eZ,ior]
@[simp] theorem bin_xor (k:IntKind) (x y:Int):eZ .xor (.int k x) (.int k y)=some (.int k (ixor k x y)):=by simp [eZ,ixor]
@[simp] theorem zr (k:IntKind) (x y:Int):eZ .andNot (.int k x) (.int k y)=some (.int k (LP k x y)):=by simp [eZ,LP]
@[simp] theorem bin_shl (k k':IntKind) (x y:Int) (h:0<=y):eZ .shl (.int k x) (.int k' y)=some (.int k (ishl k x y)):=by
 have:¬y<0:=by omega
 simp [eZ,ishl,this]
@[simp] theorem bin_shr (k k':IntKind) (x y:Int) (h:0<=y):eZ .shr (.int k x) (.int k' y)=some (.int k (ishr k x y)):=by
 have:¬y<0:=by omega
 simp [eZ,ishr,this]
@[simp] theorem un_xor (k:IntKind) (n:Int):unAV .xor (.int k n)=some (.int k (inot k n)):=rfl
@[simp] theorem un_not (b:Bool):unAV .not (.bool b)=some (.bool !b):=rfl
@[simp] theorem un_neg (k:IntKind) (n:Int):unAV .neg (.int k n)=some (.int k (k.wrap (0 - n))):=rfl
theorem aQ {n:Int} (h1: -2^63<=n:=by omega) (h2:n<2^63:=by omega):IntKind.wrap .i64 n=n:=by
 have e1:(2:Int)^64=18446744073709551616:=rfl;have e2:(2:Int)^(64 - 1)=9223372036854775808:=rfl;simp only [IntKind.wrap,IntKind.bits,IntKind.signed,KD,decide_eq_true_eq,e1,e2];have e3:(2:Int)^63=9223372036854775808:=rfl;rw [e3] at h1 h2;split<;>omega
theorem aF (i:Nat) (h:i<2^62):IntKind.wrap .i64 ((i:Int)+1)=((i+1:Nat):Int):=aQ
@[simp] theorem zq (z:Nat):jD z []=true:=rfl
@[simp] theorem zu (z:Nat) (e:List AV) (es:List (List AV)):jD z (e::es)=(e.length == z&&jD z es):=by simp [jD]
@[simp] theorem vU {G:Type} (z:Nat) (f:G->List AV) (l:List G) (h:∀x,(f x).length=z):jD z (l.map f)=true:=by
 induction l with
 | nil=>rfl
 | cons a l ih=>simp [h,ih]
@[simp] theorem eqKd_b (x y:Bool):eqKd .b (.bool x) (.bool y)=some (decide (x=y)):=by simp [eqKd,M7]
@[simp] theorem eqKd_i (k:IntKind) (x y:Int):eqKd .i (.int k x) (.int k y)=some (decide (x=y)):=by simp [eqKd,M7]
@[simp] theorem eqKd_s (x y:List UInt8):eqKd .s (.str x) (.str y)=some (decide (x=y)):=by simp [eqKd,M7]
section
variable {Φ:FuncId->Option AFun} {I:Type} {fin:Option (Ex×St)->Option I}
variable (Φ fin) in
noncomputable def drG (base : Nat) (pairs : List (Nat × Nat)) (acc : List Foot) (ops : List Xv) (K : List Fr) (s : St) : Option I :=
 match aU (aG Φ) (some base) ops s with
 | some (.normal,s')=>if JV pairs (acc++feet (aG Φ) (some base) ops s) then go Φ fin K .normal ⟨s'.e,s'.h.sweep⟩ else fin none
 | _=>fin none
variable (Φ fin) in
noncomputable def DG (base : Nat) (pairs : List (Nat × Nat)) (acc : List Foot) (f : Foot) (h0 : AH) (dst : Option Nat) (r : List Xv) (K : List Fr) (e : Env) (o : Option (Rt × AH)) : Option I :=
 match o with
 | some (.val v,h)=>drG Φ fin base pairs (acc++[uN f h0 h]) r K ⟨putE e dst v,h⟩
 | _=>fin none
variable (Φ fin) in
noncomputable def NE (o : Option Bool) (base : Nat) (pairs : List (Nat × Nat)) (acc : List Foot) (dst : Option Nat) (op : AOp) (r : List Xv) (K : List Fr) (e : Env) (h : AH) : Option I :=
 match o with
 | some true=>DG Φ fin base pairs acc (foot e (cE (some base) dst h) h op) h dst r K e (aD (aG Φ) e (cE (some base) dst h) h op)
 | some false=>drG Φ fin base pairs (acc++[(some [],.no)]) r K ⟨putE e dst (.tup []),h⟩
 | none=>fin none
variable (Φ fin) in
noncomputable def WA (b : Bool) (K : List Fr) (e : Env) (h : AH) : Option I := if b then go Φ fin K .normal ⟨e, h.sweep⟩ else fin none
theorem qx4 {base:Nat} {pairs:List (Nat×Nat)} {acc acc':List Foot} {f f':Foot} {h0:AH} {dst:Option Nat} {r:List Xv} {K:List Fr} {e:Env} {o o':Option (Rt×AH)} (h1:acc=acc') (h2:f=f') (h3:o=o'):
  DG Φ fin base pairs acc f h0 dst r K e o=DG Φ fin base pairs acc' f' h0 dst r K e o':=by rw [h1,h2,h3]
theorem qw4 {ob ob':Option Bool} {base:Nat} {pairs:List (Nat×Nat)} {acc:List Foot} {dst:Option Nat} {op:AOp} {r:List Xv} {K:List Fr} {e:Env} {h:AH} (h1:ob=ob'):
  NE Φ fin ob base pairs acc dst op r K e h=NE Φ fin ob' base pairs acc dst op r K e h:=by rw [h1]
theorem XA {b b':Bool} {K:List Fr} {e:Env} {h:AH} (h1:b=b'):WA Φ fin b K e h=WA Φ fin b' K e h:=by rw [h1]
attribute [congr] qx4 qw4 XA
@[simp] theorem a0p {base:Nat} {pairs:List (Nat×Nat)} {acc:List Foot} {f:Foot} {t:Nat} {r:List Xv} {K:List Fr} {e:Env} {v:AV} {h h0:AH}:
  DG Φ fin base pairs acc f h0 (some t) r K e (some (.val v,h))=drG Φ fin base pairs (acc++[uN f h0 h]) r K ⟨(t,v)::e,h⟩:=rfl
@[simp] theorem a03 {base:Nat} {pairs:List (Nat×Nat)} {acc:List Foot} {f:Foot} {r:List Xv} {K:List Fr} {e:Env} {v:AV} {h h0:AH}:
  DG Φ fin base pairs acc f h0 none r K e (some (.val v,h))=drG Φ fin base pairs (acc++[uN f h0 h]) r K ⟨e,h⟩:=rfl
@[simp] theorem qx3 {base:Nat} {pairs:List (Nat×Nat)} {acc:List Foot} {dst:Option Nat} {op:AOp} {r:List Xv} {K:List Fr} {e:Env} {h:AH}:
  NE Φ fin (some true) base pairs acc dst op r K e h=DG Φ fin base pairs acc (foot e (cE (some base) dst h) h op) h dst r K e (aD (aG Φ) e (cE (some base) dst h) h op):=rfl
@[simp] theorem qw5 {base:Nat} {pairs:List (Nat×Nat)} {acc:List Foot} {dst:Option Nat} {op:AOp} {r:List Xv} {K:List Fr} {e:Env} {h:AH}:
  NE Φ fin (some false) base pairs acc dst op r K e h=drG Φ fin base pairs (acc++[(some [],.no)]) r K ⟨putE e dst (.tup []),h⟩:=rfl
@[simp] theorem a0o {K:List Fr} {e:Env} {h:AH}:WA Φ fin true K e h=go Φ fin K .normal ⟨e,h.sweep⟩:=rfl
@[simp] theorem drG_nil {base:Nat} {pairs:List (Nat×Nat)} {acc:List Foot} {K:List Fr} {e:Env} {h:AH}:drG Φ fin base pairs acc [] K ⟨e,h⟩=WA Φ fin (JV pairs acc) K e h:=by
 simp only [drG,aU,feet,KC];rfl
theorem Du {base:Nat} {pairs:List (Nat×Nat)} {acc:List Foot} {o:Xv} {r:List Xv} {K:List Fr} {e:Env} {h:AH}:drG Φ fin base pairs acc (o::r) K ⟨e,h⟩=NE Φ fin (nI e o.guard) base pairs acc o.dst o.op r K e h:=by
 obtain ⟨dst,g,op⟩:=o;have h0:uN (some [],.no) h h=(some [],.no):=rfl;cases hg:nI e g with
 | none=>
  unfold drG;simp only [aU,hg];rfl
 | some b=>cases b with
  | false=>
   simp only [drG,aU,feet,qw5,yS,hg,AN,TD,h0]
  | true=>
   unfold drG;simp only [qx3];cases hc:aD (aG Φ) e (cE (some base) dst h) h op with
   | none=>simp only [aU,feet,hg,hc];rfl
   | some p=>
    obtain ⟨x,h'⟩:=p;cases x with
    | pan v=>simp only [aU,feet,hg,hc];rfl
    | val v=>simp only [DG,drG,aU,feet,yS,hg,hc,AN,TD]
@[simp] theorem a1s {base:Nat} {pairs:List (Nat×Nat)} {acc:List Foot} {dst:Option Nat} {op:AOp} {r:List Xv} {K:List Fr} {e:Env} {h:AH}:
  drG Φ fin base pairs acc (⟨dst,none,op⟩::r) K ⟨e,h⟩=DG Φ fin base pairs acc (foot e (cE (some base) dst h) h op) h dst r K e (aD (aG Φ) e (cE (some base) dst h) h op):=Du
variable (Φ fin) in
noncomputable def LH (o : Option AV) (w : Bool) (base : Nat) (pairs : List (Nat × Nat)) (acc : List Foot) (dst : Option Nat) (op : AOp) (r : List Xv) (K : List Fr) (e : Env) (h : AH) : Option I :=
 NE Φ fin (match o with
  | some (.bool b)=>some (b == w)
  | some (.tup [])=>some false
  | _=>none) base pairs acc dst op r K e h
theorem quu {o o':Option AV} {w:Bool} {base:Nat} {pairs:List (Nat×Nat)} {acc:List Foot} {dst:Option Nat} {op:AOp} {r:List Xv} {K:List Fr} {e:Env} {h:AH} (h1:o=o'):
  LH Φ fin o w base pairs acc dst op r K e h=LH Φ fin o' w base pairs acc dst op r K e h:=by rw [h1]
attribute [congr] quu
section
variable {base:Nat} {pairs:List (Nat×Nat)} {acc:List Foot} {dst:Option Nat} {op:AOp} {r:List Xv} {K:List Fr} {e:Env} {h:AH}
@[simp] theorem a02:LH Φ fin (some (.bool true)) true base pairs acc dst op r K e h=DG Φ fin base pairs acc (foot e (cE (some base) dst h) h op) h dst r K e (aD (aG Φ) e (cE (some base) dst h) h op):=rfl
@[simp] theorem zy:LH Φ fin (some (.bool false)) false base pairs acc dst op r K e h=DG Φ fin base pairs acc (foot e (cE (some base) dst h) h op) h dst r K e (aD (aG Φ) e (cE (some base) dst h) h op):=rfl
@[simp] theorem a01:LH Φ fin (some (.bool true)) false base pairs acc dst op r K e h=drG Φ fin base pairs (acc++[(some [],.no)]) r K ⟨putE e dst (.tup []),h⟩:=rfl
@[simp] theorem a00:LH Φ fin (some (.bool false)) true base pairs acc dst op r K e h=drG Φ fin base pairs (acc++[(some [],.no)]) r K ⟨putE e dst (.tup []),h⟩:=rfl
@[simp] theorem yk (w:Bool):LH Φ fin (some (.tup [])) w base pairs acc dst op r K e h=drG Φ fin base pairs (acc++[(some [],.no)]) r K ⟨putE e dst (.tup []),h⟩:=rfl
end
@[simp] theorem a1H {d:Bool} {p:Nat×Nat} {ps:List (Nat×Nat)} {ops:List Xv} {o:Option (List Nat)} {K:List Fr} {e:Env} {h:AH} (hd:K5 (w9 ops)=true):
  go Φ fin (.c (.region d (p::ps) ops o)::K) .normal ⟨e,h⟩=drG Φ fin h.next (p::ps) [] ops (frK o K) ⟨e,h.resv (w9 ops)⟩:=by
 rw [go_c,X6];simp only [hd,KD];unfold drG;simp only [yY];by_cases hf:JV (p::ps) (feet (aG Φ) (some h.next) ops ⟨e,h.resv (w9 ops)⟩)=true
 ·simp only [hf,if_true];cases aU (aG Φ) (some h.next) ops ⟨e,h.resv (w9 ops)⟩ with
  | none=>rfl
  | some q=>
   obtain ⟨ex,s'⟩:=q;cases ex<;>simp [QW]
 ·simp only [hf];cases aU (aG Φ) (some h.next) ops ⟨e,h.resv (w9 ops)⟩ with
  | none=>rfl
  | some q=>
   obtain ⟨ex,s'⟩:=q;cases ex<;>simp
@[simp] theorem a08 {base:Option Nat} {h:AH}:cE base none h=h.next:=by cases base<;>rfl
@[simp] theorem a09 {base d:Nat} {h:AH}:cE (some base) (some d) h=match h.get (base+d) with
  | some .res=>base+d
  | _=>h.next:=rfl
@[simp] theorem a0E (l:List Nat) (w:Wr) (h h':AH):uN (some l,w) h h'=(some l,w):=by simp [uN]
@[simp] theorem a1A (h h':AH):uN (none,.no) h h'=(none,.no):=by simp [uN]
@[simp] theorem a14 (h h':AH):uN (none,.any) h h'=(none,.chg h h'):=by simp [uN]
attribute [simp] SK LU KY Wr.isNo w9 AOp.makes K5 oC foot JS jo LO CR JV Foot.compat Wr.off
variable (Φ fin) in
noncomputable def frzB (t : Nat) (ks : List Nat) (K : List Fr) (e : Env) (H : AH) (id z i off : Nat) (b : Bool) (o : Option (List (List AV))) : Option I := match b, o with
 | false,some es'=>go Φ fin (.f ks::K) .normal ⟨(t,.iptr z es' i off)::e,H.kill id⟩
 | _,_=>go Φ fin (.f ks::K) .normal ⟨e,H⟩
variable (Φ fin) in
noncomputable def frzR (t : Nat) (ks : List Nat) (K : List Fr) (e : Env) (H : AH) (id : Nat) (o : Option AV) : Option I := match o with
 | some y=>go Φ fin (.f ks::K) .normal ⟨(t,y)::e,H.kill id⟩
 | none=>go Φ fin (.f ks::K) .normal ⟨e,H⟩
variable (Φ fin) in
noncomputable def frzV (t : Nat) (ks : List Nat) (K : List Fr) (e : Env) (H : AH) (v : Option AV) : Option I := match v with
 | some (.ptr id z i off)=>frzG Φ fin t ks K e H id z i off (H.get id)
 | some (.row id z off len)=>frzR Φ fin t ks K e H id (ET H id z off len)
 | _=>go Φ fin (.f ks::K) .normal ⟨e,H⟩
theorem YX {t:Nat} {ks:List Nat} {K:List Fr} {e:Env} {H:AH} {id z i off:Nat} {b b':Bool} {o o':Option (List (List AV))} (h1:b=b') (h2:o=o'):frzB Φ fin t ks K e H id z i off b o=frzB Φ fin t ks K e H id z i off b' o':=by rw [h1,h2]
theorem Z0 {t:Nat} {ks:List Nat} {K:List Fr} {e:Env} {H:AH} {o o':Option AV} (h2:o=o'):frzV Φ fin t ks K e H o=frzV Φ fin t ks K e H o':=by rw [h2]
theorem YY {t:Nat} {ks:List Nat} {K:List Fr} {e:Env} {H:AH} {id z i off:Nat} {o o':Option AO} (h2:o=o'):frzG Φ fin t ks K e H id z i off o=frzG Φ fin t ks K e H id z i off o':=by rw [h2]
theorem YZ {t:Nat} {ks:List Nat} {K:List Fr} {e:Env} {H:AH} {id:Nat} {o o':Option AV} (h2:o=o'):frzR Φ fin t ks K e H id o=frzR Φ fin t ks K e H id o':=by rw [h2]
attribute [congr] YX Z0 YY YZ
@[simp] theorem go_frzV {t:Nat} {ks:List Nat} {K:List Fr} {e:Env} {H:AH}:go Φ fin (.f (t::ks)::K) .normal ⟨e,H⟩=frzV Φ fin t ks K e H (look t e):=by
 cases hl:look t e with
 | none=>rw [VW];simp only [frzP,hl,frzV]
 | some v=>
  cases v with
  | ptr id z i off=>rw [Ki hl];rfl
  | row id z off len=>
   rw [VW];simp only [frzP,hl,frzV];cases ET H id z off len<;>rfl
  | _=>rw [VW];simp only [frzP,hl,frzV]
@[simp] theorem a1E {t:Nat} {ks:List Nat} {K:List Fr} {e:Env} {H:AH} {id z i off:Nat}:frzV Φ fin t ks K e H (some (.ptr id z i off))=frzG Φ fin t ks K e H id z i off (H.get id):=rfl
@[simp] theorem a1F {t:Nat} {ks:List Nat} {K:List Fr} {e:Env} {H:AH} {id z off len:Nat}:frzV Φ fin t ks K e H (some (.row id z off len))=frzR Φ fin t ks K e H id (ET H id z off len):=rfl
@[simp] theorem a15 {t:Nat} {ks:List Nat} {K:List Fr} {e:Env} {H:AH} {id:Nat} {y:AV}:frzR Φ fin t ks K e H id (some y)=go Φ fin (.f ks::K) .normal ⟨(t,y)::e,H.kill id⟩:=rfl
@[simp] theorem a1D {t:Nat} {ks:List Nat} {K:List Fr} {e:Env} {H:AH} {id z i off:Nat} {es:List (List AV)}:frzG Φ fin t ks K e H id z i off (some (.row z es))=frzB Φ fin t ks K e H id z i off (anyL (bor aI) es.flatten) (mapO (mapO (snap aI H)) es):=by
 simp only [frzG,true_and];cases anyL (bor aI) es.flatten<;>cases mapO (mapO (snap aI H)) es<;>simp [frzB]
@[simp] theorem frzB_ok {t:Nat} {ks:List Nat} {K:List Fr} {e:Env} {H:AH} {id z i off:Nat} {es':List (List AV)}:frzB Φ fin t ks K e H id z i off false (some es')=go Φ fin (.f ks::K) .normal ⟨(t,.iptr z es' i off)::e,H.kill id⟩:=rfl
theorem we {Z:Type} (m:Z->Nat) (Inv:Z->Env->AH->Prop) (R:Z->Option I) {b:Xu} {K:List Fr}
  (step:∀x e h L,(∀j s,go Φ fin L (.exit j) s=go Φ fin K (.exit j) s)->Inv x e h->(∀y e' h',m y<m x->Inv y e' h'->go Φ fin L .normal ⟨e',h'⟩=R y)->go Φ fin (.c b::L) .normal ⟨e,h⟩=R x):
  ∀x e h,Inv x e h->go Φ fin (.c (.loop b)::K) .normal ⟨e,h⟩=R x:=by
 have key:∀n x e h,m x<=n->Inv x e h->go Φ fin (.c (.loop b)::K) .normal ⟨e,h⟩=R x:=by
  intro n
  induction n with
  | zero=>
   intro x e h hn hi;rw [aT];exact step x e h _ (fun j s=>by simp) hi fun y e' h' hlt=>by omega
  | succ n ih=>
   intro x e h hn hi;rw [aT];exact step x e h _ (fun j s=>by simp) hi fun y e' h' hlt hy=>ih y e' h' (by omega) hy
 intro x e h hi;exact key _ x e h (Qb _) hi
theorem JK (N:Nat) (Inv:Nat->Env->AH->Prop) (R:Nat->Option I) {b:Xu} {K:List Fr}
  (step:∀i e h L,i<N->(∀j s,go Φ fin L (.exit j) s=go Φ fin K (.exit j) s)->Inv i e h->(∀e' h',Inv (i+1) e' h'->go Φ fin L .normal ⟨e',h'⟩=R (i+1))->go Φ fin (.c b::L) .normal ⟨e,h⟩=R i)
  (last:∀e h L,(∀j s,go Φ fin L (.exit j) s=go Φ fin K (.exit j) s)->Inv N e h->go Φ fin (.c b::L) .normal ⟨e,h⟩=R N):
  ∀i e h,i<=N->Inv i e h->go Φ fin (.c (.loop b)::K) .normal ⟨e,h⟩=R i:=by
 intro i e h hi hinv;refine we (Z:={ i:Nat // i<=N }) (fun x=>N - x.1) (fun x=>Inv x.1) (fun x=>R x.1) ?_ ⟨i,hi⟩ e h hinv;intro ⟨i,hi⟩ e h L hL hinv ih;rcases Nat.lt_or_eq_of_le hi with hlt | heq
 ·exact step i e h L hlt hL hinv fun e' h' hi'=>ih ⟨i+1,hlt⟩ e' h' (by simp;omega) hi'
 ·subst heq;exact last e h L hL hinv
theorem dC {h:AH} (N:Nat) (Inv:Nat->Env->Prop) (R:Nat->Option I) {b:Xu} {K:List Fr}
  (step:∀i e L,i<N->(∀j s,go Φ fin L (.exit j) s=go Φ fin K (.exit j) s)->Inv i e->(∀e',Inv (i+1) e'->go Φ fin L .normal ⟨e',h⟩=R (i+1))->go Φ fin (.c b::L) .normal ⟨e,h⟩=R i)
  (last:∀e L,(∀j s,go Φ fin L (.exit j) s=go Φ fin K (.exit j) s)->Inv N e->go Φ fin (.c b::L) .normal ⟨e,h⟩=R N):
  ∀i e,i<=N->Inv i e->go Φ fin (.c (.loop b)::K) .normal ⟨e,h⟩=R i:=by
 intro i e hi hinv;refine JK N (fun i e h'=>h'=h/\Inv i e) R ?_ ?_ i e h hi ⟨rfl,hinv⟩
 ·rintro i e _ L hi hL ⟨rfl,hinv⟩ ih;exact step i e L hi hL hinv fun e' he'=>ih e' _ ⟨rfl,he'⟩
 ·rintro e _ L hL ⟨rfl,hinv⟩;exact last e L hL hinv
theorem cV (N:Nat) (O:Nat->List (Nat×AO)) (k:Nat) (Inv:Nat->Env->Prop) (R:Nat->Option I) {b:Xu} {K:List Fr}
  (step:∀i e n L,i<N->(∀j s,go Φ fin L (.exit j) s=go Φ fin K (.exit j) s)->k<=n->Inv i e->(∀e' n',k<=n'->Inv (i+1) e'->go Φ fin L .normal ⟨e',⟨O (i+1),n'⟩⟩=R (i+1))->go Φ fin (.c b::L) .normal ⟨e,⟨O i,n⟩⟩=R i)
  (last:∀e n L,(∀j s,go Φ fin L (.exit j) s=go Φ fin K (.exit j) s)->k<=n->Inv N e->go Φ fin (.c b::L) .normal ⟨e,⟨O N,n⟩⟩=R N):
  ∀i e n,i<=N->k<=n->Inv i e->go Φ fin (.c (.loop b)::K) .normal ⟨e,⟨O i,n⟩⟩=R i:=by
 intro i e n hi hn hinv;refine JK N (fun i e h=>∃n,k<=n/\h=⟨O i,n⟩/\Inv i e) R ?_ ?_ i e _ hi ⟨n,hn,rfl,hinv⟩
 ·rintro i e _ L hi hL ⟨n,hn,rfl,hinv⟩ ih;exact step i e n L hi hL hn hinv fun e' n' hn' he'=>ih e' _ ⟨n',hn',rfl,he'⟩
 ·rintro e _ L hL ⟨n,hn,rfl,hinv⟩;exact last e n L hL hn hinv
theorem A4 {G:Type} (l:List G) (bad:G->Bool) (Rb Re:Option I) (Inv:Nat->Env->AH->Prop) {b:Xu} {K:List Fr}
  (hit:∀i e h L (hi:i<l.length),(∀j s,go Φ fin L (.exit j) s=go Φ fin K (.exit j) s)->Inv i e h->bad l[i]=true->go Φ fin (.c b::L) .normal ⟨e,h⟩=Rb)
  (miss:∀i e h L X (hi:i<l.length),(∀j s,go Φ fin L (.exit j) s=go Φ fin K (.exit j) s)->Inv i e h->bad l[i]=false->(∀e' h',Inv (i+1) e' h'->go Φ fin L .normal ⟨e',h'⟩=X)->go Φ fin (.c b::L) .normal ⟨e,h⟩=X)
  (last:∀e h L,(∀j s,go Φ fin L (.exit j) s=go Φ fin K (.exit j) s)->Inv l.length e h->go Φ fin (.c b::L) .normal ⟨e,h⟩=Re):
  ∀e h,Inv 0 e h->go Φ fin (.c (.loop b)::K) .normal ⟨e,h⟩=if l.any bad then Rb else Re:=by
 intro e h h0;refine (JK l.length Inv (fun i=>if (l.drop i).any bad then Rb else Re) ?_ ?_ 0 e h (Qc _) h0).trans (by simp)
 ·intro i e h L hi hL hinv ih;cases hb:bad l[i] with
  | true=>
   rw [hit i e h L hi hL hinv hb,Qi hi,DZ,hb,MG,a9 rfl]
  | false=>
   refine miss i e h L _ hi hL hinv hb fun e' h' he'=>?_
   rw [ih e' h' he',Qi hi,DZ,hb,KE]
 ·intro e h L hL hinv;rw [last e h L hL hinv];simp
end
def HP (pre:List (Nat×AO)) (k:Nat) (h:AH):Prop:=∃T n,Tail T (n+k)/\h=⟨pre++T,n+k⟩
theorem HP.mk {pre:List (Nat×AO)} {k:Nat}:HP pre k ⟨pre,k⟩:=⟨[],0,fun _ _=>rfl,by simp⟩
theorem HP.next {pre T:List (Nat×AO)} {k n:Nat} {o:AO} (hT:Tail T (n+k)):HP pre k ⟨pre++(T++[(n+k,o)]),n+k+1⟩:=⟨T++[(n+k,o)],n+1,by
 have:=hT.app o
 rwa [show n+1+k=n+k+1 by omega],by rw [show n+1+k=n+k+1 by omega]⟩
theorem HP.same {pre T:List (Nat×AO)} {k n:Nat} (hT:Tail T (n+k)):HP pre k ⟨pre++T,n+k⟩:=⟨T,n,hT,rfl⟩
def HF (mk:List (Nat×AO)->List (Nat×AO)) (k:Nat) (h:AH):Prop:=∃T n,Tail T (n+k)/\h=⟨mk T,n+k⟩
theorem HF.mk {mk:List (Nat×AO)->List (Nat×AO)} {k:Nat}:HF mk k ⟨mk [],k⟩:=⟨[],0,fun _ _=>rfl,by simp⟩
theorem HF.next {mk:List (Nat×AO)->List (Nat×AO)} {T:List (Nat×AO)} {k n:Nat} {o:AO} (hT:Tail T (n+k)):HF mk k ⟨mk (T++[(n+k,o)]),n+k+1⟩:=⟨T++[(n+k,o)],n+1,by
 have:=hT.app o
 rwa [show n+1+k=n+k+1 by omega],by rw [show n+1+k=n+k+1 by omega]⟩
theorem HF.same {mk:List (Nat×AO)->List (Nat×AO)} {T:List (Nat×AO)} {k n:Nat} (hT:Tail T (n+k)):HF mk k ⟨mk T,n+k⟩:=⟨T,n,hT,rfl⟩
theorem Tail.two {T T2:List (Nat×AO)} {n m:Nat} {x:AO} (hT:Tail T n) (hT2:Tail T2 m) (h:n+1<=m):Tail (T++(n,x)::T2) m:=by
 intro j hj;rw [ML,hT j (by omega),Option.none_or];simp only [look];rw [QA (by omega)];exact hT2 j hj
def vV {G:Type} (l:List G) (p:G->Bool) (i:Nat):Bool:=(l.drop i).any p
theorem jb {G:Type} {l:List G} {p:G->Bool} {i:Nat} (hi:i<l.length) (h:p l[i]=true):vV l p i=true:=by
 unfold vV;rw [Qi hi,DZ,h,MG]
theorem LE {G:Type} {l:List G} {p:G->Bool} {i:Nat} (hi:i<l.length) (h:p l[i]=false):vV l p i=vV l p (i+1):=by
 unfold vV;rw [Qi hi,DZ,h,KE]
theorem UZ {G:Type} {l:List G} {p:G->Bool}:vV l p l.length=false:=by simp [vV]
theorem SE {G:Type} {l:List G} {p:G->Bool}:vV l p 0=l.any p:=by simp [vV]
theorem EB {G I:Type} {f:G->I} {l:List G} {i:Nat} (h:i<l.length):(l.map f).take (i+1)=(l.map f).take i++[f l[i]]:=by
 rw [Qh (by simpa using h)];simp
theorem ph {G:Type} {l m:List G} {i:Nat} (h1:i<l.length) (h2:i<m.length):l.drop i=m.drop i↔l[i]=m[i]/\l.drop (i+1)=m.drop (i+1):=by
 rw [Qi h1,Qi h2,List.cons.injEq]
end Go.Av
namespace Go.Av
open Go.ChangeShapes Go.WideShapes Go.ChangeAt Go.RowKit
structure BulkFn (H:Type) where
 one:DataW H->Nat
 all:List (DataW H)->Nat
 nil:all []=0
 cons:∀d r,all (d::r)=one d+all r
 slice:∀e s,one (.slice e s)=all e+all s+1
 agg:∀e,one (.agg e)=all e+1
 str:∀b,one (.lit (.string b))=b.length+1
 pos:∀d,1<=one d
theorem BulkFn.len {H:Type} (bk:BulkFn H):∀l,l.length<=bk.all l
 | []=>by simp
 | d::r=>by have:=bk.len r;have:=bk.pos d;rw [bk.cons];simp;omega
theorem BulkFn.mem {H:Type} (bk:BulkFn H):∀{l d},d∈l->bk.one d<=bk.all l
 | e::r,d,h=>by
  rw [bk.cons];rcases nK.1 h with rfl | h
  ·omega
  ·have:=bk.mem h;omega
def JW (P:Program):List Field->Nat->Nat->Bool
 | [],off,sz=>off == sz
 | f::r,off,sz=>f.offset == off&&JW P r (off+P.cellsOf f.type) sz
def JX (P:Program) (ts:List TypeId):Bool:=ts.all fun t=>match P.underlying t with
  | some .bool | some (.int _) | some .string=>true
  | some (.slice e)=>oC e ts&&P.cellsOf e != 0
  | some (.struct fs)=>fs.toList.all (fun f=>oC f.type ts)&&JW P fs.toList 0 (P.cellsOf t)
  | some (.array k e)=>oC e ts&&P.cellsOf t == k*P.cellsOf e
  | _=>false
inductive WT (P:Program) (B:Nat):TypeId->List AV->Prop where
 | bool {t:TypeId} (b:Bool) (h:P.underlying t=some .bool):WT P B t [.bool b]
 | int {t:TypeId} (k:IntKind) (v:Int) (h:P.underlying t=some (.int k)) (h1:k.min<=v) (h2:v<=k.max):WT P B t [.int k v]
 | str {t:TypeId} (s:List UInt8) (h:P.underlying t=some .string) (h1:s.length<=B):WT P B t [.str s]
 | slice {t e:TypeId} (es:List (List AV)) (h:P.underlying t=some (.slice e)) (h1:es.length<=B) (h2:∀x∈es,WT P B e x):WT P B t [.slice (P.cellsOf e) es]
 | struct {t:TypeId} (fs:Array Field) (xss:List (List AV)) (h:P.underlying t=some (.struct fs)) (h1:xss.length=fs.size)
   (h2:∀(i:Nat) f x,fs[i]? =some f->xss[i]? =some x->WT P B f.type x):WT P B t xss.flatten
 | array {t e:TypeId} (k:Nat) (xss:List (List AV)) (h:P.underlying t=some (.array k e)) (h1:xss.length=k) (h2:∀x∈xss,WT P B e x):WT P B t xss.flatten
def zO (P:Program) (t:TypeId):Bool:=match P.underlying t with
 | some (.struct _) | some (.array _ _)=>true
 | _=>false
def WTV (P:Program) (B:Nat) (t:TypeId) (v:AV):Prop:=
 if zO P t then ∃xs,v= .agg xs/\WT P B t xs else WT P B t [v]
section
variable {H:Type} {enc:TypeId×Value->H} {P:Program} {w:World} {base:Nat} {spare:Nat->Bool} {held:Bool} {imm:Nat->Nat->Prop} {B:Nat}
def Cells (w:World) (imm:Nat->Nat->Prop) (xs:List AV) (cs:List Value):Prop:=
 xs.length=cs.length/\∀(i:Nat) x v,xs[i]? =some x->cs[i]? =some v->VRD w imm x v/\v.oneCell'=true
theorem Cells.append {xs ys:List AV} {cs ds:List Value} (h:Cells w imm xs cs) (k:Cells w imm ys ds):Cells w imm (xs++ys) (cs++ds):=by
 refine ⟨by simp [h.1,k.1],?_⟩;intro i x v hx hv;by_cases hi:i<xs.length
 ·rw [Ql hi] at hx;rw [Ql (by rw [<- h.1];exact hi)] at hv;exact h.2 i x v hx hv
 ·rw [Qp (by omega)] at hx;rw [Qp (by rw [<- h.1];omega)] at hv;rw [<- h.1] at hv;exact k.2 _ x v hx hv
theorem Cells.one {x:AV} {v:Value} (h:VRD w imm x v) (h1:v.oneCell'=true):Cells w imm [x] [v]:=by
 refine ⟨rfl,?_⟩;intro i y u hy hu;cases i with
 | zero=>simp at hy hu;subst hy;subst hu;exact ⟨h,h1⟩
 | succ i=>simp at hy
theorem cj {G:Type} {n:Nat} {p:Nat->G->Prop} (h:∀i,i<n->∃a,p i a):∃l:List G,l.length=n/\∀i a,l[i]? =some a->p i a:=by
 induction n with
 | zero=>exact ⟨[],rfl,fun i a h=>by simp at h⟩
 | succ n ih=>
  obtain ⟨l,hl,hp⟩:=ih (fun i hi=>h i (by omega));obtain ⟨a,ha⟩:=h n (by omega);refine ⟨l++[a],by simp [hl],?_⟩;intro i b hb;by_cases hi:i<l.length
  ·rw [Ql hi] at hb;exact hp i b hb
  ·rw [Qp (by omega)] at hb;have:i - l.length=0:=by
    rcases Qw (i - l.length) with h0 | h0
    ·exact h0
    ·rw [Qk (by simp;omega)] at hb;cases hb
   rw [this] at hb;simp at hb;subst hb;have:i=n:=by omega
   subst this;exact ha
theorem dn {a:Addr} {n:Nat} {l:List Value} (h:w.cells? base a n=some l):l.length=n/\∀i v,l[i]? =some v->w.cell? (a.add i)=some v:=by
 unfold World.cells? at h;split at h
 ·have hl:=mapM_some_length h;refine ⟨by simpa using hl,?_⟩;intro i v hv;have hi:i<n:=by
   have:=(Qm.1 hv).1;rw [hl] at this;simpa using this
  have:=mapM_some_get h i i (by simp [hi]);rw [this,hv]
 ·cases h
theorem qzy {fs:List Field}:∀{off sz:Nat} {cs:List Value} {xss:List (List AV)},JW P fs off sz=true->cs.length=sz->
  xss.length=fs.length->(∀(i:Nat) f x,fs[i]? =some f->xss[i]? =some x->Cells w imm x ((cs.drop f.offset).take (P.cellsOf f.type))/\x.length=P.cellsOf f.type)->
  Cells w imm xss.flatten (cs.drop off):=by
 induction fs with
 | nil=>
  intro off sz cs xss ho hc hl h;have:xss=[]:=List.length_eq_zero_iff.1 (by simpa using hl);subst this;simp only [JW,beq_iff_eq] at ho;have:cs.drop off=[]:=by simp;omega
  rw [this];exact ⟨rfl,fun i x v hx=>by simp at hx⟩
 | cons f r ih=>
  intro off sz cs xss ho hc hl h;simp only [JW,d7,beq_iff_eq] at ho;obtain ⟨ho1,ho2⟩:=ho;cases xss with
  | nil=>simp at hl
  | cons x xss=>
   obtain ⟨h1,h2⟩:=h 0 f x rfl rfl;rw [ho1] at h1;have hr:=ih (cs:=cs) (xss:=xss) ho2 hc (by simpa using hl) (fun i g y hg hy=>h (i+1) g y (by simpa using hg) (by simpa using hy));rw [List.flatten_cons];have e:cs.drop off=(cs.drop off).take (P.cellsOf f.type)++cs.drop (off+P.cellsOf f.type):=by
    rw [<- F5,AK]
   rw [e];exact h1.append hr
theorem oy {z:Nat} {cs:List Value}:∀{xss:List (List AV)} {k:Nat},cs.length=(k+xss.length)*z->
  (∀(i:Nat) x,xss[i]? =some x->Cells w imm x ((cs.drop ((k+i)*z)).take z)/\x.length=z)->Cells w imm xss.flatten (cs.drop (k*z))
 | [],k,hc,h=>by
  have:cs.drop (k*z)=[]:=by simp at hc ⊢;omega
  rw [this];exact ⟨rfl,fun i x v hx=>by simp at hx⟩
 | x::xss,k,hc,h=>by
  obtain ⟨h1,h2⟩:=h 0 x rfl;have hr:=oy (cs:=cs) (xss:=xss) (k:=k+1) (by simp at hc ⊢;rw [hc];congr 1;omega) (fun i y hy=>by
   have:=h (i+1) y (by simpa using hy)
   rwa [show k+(i+1)=k+1+i by omega] at this)
  rw [List.flatten_cons];have e:cs.drop (k*z)=(cs.drop (k*z)).take z++cs.drop ((k+1)*z):=by
   rw [show (k+1)*z=k*z+z by rw [j5];omega,<- F5,AK]
  rw [e];exact Cells.append (by simpa using h1) hr
def WTVs (P:Program) (B:Nat):List TypeId->List AV->Prop
 | [],[]=>True
 | t::ts,a::as=>WTV P B t a/\WTVs P B ts as
 | _,_=>False
theorem qxq {M:Nat->Nat->Prop} {w w':World} (h:Ext M w w') (hM:∀b i,¬M b i):Below w.heap.size w w':=
 ⟨h.os,h.tape,h.output,h.size,fun k hk=>h.still hM k hk⟩
theorem mu {W W':World} (hl:laidOutB P=true) (hb:Below W.heap.size W W'):∀{ps:List TypeId} {vs:List Value} {ds:List (DataW H)} {pl:List MemPlace},
  (∀t∈ps,P.readableRec t=true/\t<P.types.size)->DataW.TrodAll enc P W 0 (fun _=>true) true ps vs ds pl->(∀x∈pl,x.block<W.heap.size)->∀sp:Nat->Bool,(∀x∈pl,sp x.block=true)->DataW.TrodAll enc P W' 0 sp true ps vs ds pl
 | [],_,_,_,_,h,_,_,_=>by
  obtain ⟨rfl,rfl,rfl⟩:=trodAll_nil h;exact trodAll_mk0
 | t::ps,_,_,_,hr,h,hlt,sp,hsp=>by
  obtain ⟨v,vs,d,ds,p,q,rfl,rfl,rfl,h1,h2⟩:=trodAll_cons h;obtain ⟨r1,r2⟩:=hr t (by simp);refine ⟨p,q,?_,mu hl hb (fun t' ht'=>hr t' (by simp [ht'])) h2 (fun x hx=>hlt x (by simp [hx])) sp (fun x hx=>hsp x (by simp [hx])),rfl⟩;exact WideElems.Trod_stays hl r1 r2 h1 (fun x hx=>hb.same (hlt x (by simp [hx]))) (fun x hx=>hsp x (by simp [hx]))
end
attribute [irreducible] WTV
end Go.Av
namespace Go.Av
def cI (x:Int):List AV:=[.int .i64 x]
def cB (x:Bool):List AV:=[.bool x]
def cStr (x:List UInt8):List AV:=[.str x]
def c8 (x:Int):List AV:=[.int .u8 x]
def c32 (x:Int):List AV:=[.int .u32 x]
def c64 (x:Int):List AV:=[.int .u64 x]
def cS {G:Type} (z:Nat) (f:G->List AV) (l:List G):List AV:=[.slice z (l.map f)]
@[simp] theorem a0T (x:Bool):(cB x).length=1:=by simp [cB]
@[simp] theorem a0S (x:Int):(c8 x).length=1:=by simp [c8]
@[simp] theorem a0k (x:Int):(c32 x).length=1:=by simp [c32]
def okI (_:Nat) (x:Int):Prop:= -9223372036854775808<=x/\x<=9223372036854775807
def ok8 (_:Nat) (x:Int):Prop:=0<=x/\x<=255
def ok32 (_:Nat) (x:Int):Prop:=0<=x/\x<=4294967295
def ok64 (_:Nat) (x:Int):Prop:=0<=x/\x<=18446744073709551615
def vY (B:Nat) (x:List UInt8):Prop:=x.length<=B
def okT {G:Type} (_:Nat) (_:G):Prop:=True
def okL {G:Type} (B:Nat) (ok:G->Prop) (l:List G):Prop:=l.length<=B/\∀x∈l,ok x
def Rd {G:Type} (P:Program) (B:Nat) (t:TypeId) (c:G->List AV) (ok:G->Prop):Prop:=∀xs,WT P B t xs->∃x,xs=c x/\ok x
def RdF {G:Type} (P:Program) (B:Nat) (fs:List Go.Field) (c:G->List AV) (ok:G->Prop):Prop:=
 ∀xss:List (List AV),xss.length=fs.length->(∀(i:Nat) f x,fs[i]? =some f->xss[i]? =some x->WT P B f.type x)->∃y,xss.flatten=c y/\ok y
theorem Rd.o {P:Program} {B:Nat} {f:Go.Field} {G:Type} {c:G->List AV} {ok:G->Prop} (h:Rd P B f.type c ok):RdF P B [f] c ok:=by
 intro xss hl hh
 match xss,hl,hh with
 | [a],_,hh=>
  obtain ⟨y,rfl,o⟩:=h a (hh 0 _ _ rfl rfl);exact ⟨y,by simp,o⟩
theorem Rd.q {P:Program} {B:Nat} {f:Go.Field} {fs:List Go.Field} {G I:Type} {c:G->List AV} {ok:G->Prop} {c':I->List AV} {ok':I->Prop} (h:Rd P B f.type c ok) (r:RdF P B fs c' ok'):
  RdF P B (f::fs) (fun y:G×I=>c y.1++c' y.2) (fun y=>ok y.1/\ok' y.2):=by
 intro xss hl hh
 match xss,hl,hh with
 | a::l,hl,hh=>
  obtain ⟨y,rfl,o⟩:=h a (hh 0 _ _ rfl rfl);obtain ⟨z,hz,o'⟩:=r l (by simpa using hl) fun i f x h1 h2=>hh (i+1) f x (by simpa using h1) (by simpa using h2)
  exact ⟨(y,z),by simp [hz],o,o'⟩
section
variable {P:Program} {B:Nat} {t:TypeId}
theorem Ck {fs:Array Go.Field} (hu:P.underlying t=some (.struct fs)) {xs:List AV} (h:WT P B t xs):
  ∃xss:List (List AV),xs=xss.flatten/\xss.length=fs.size/\∀(i:Nat) f x,fs[i]? =some f->xss[i]? =some x->WT P B f.type x:=by
 cases h with
 | struct fs' xss h h1 h2=>rw [hu] at h;cases h;exact ⟨xss,rfl,h1,h2⟩
 | _=>simp_all
theorem Rd.st {fs:List Go.Field} {G I:Type} {c:G->List AV} {ok:G->Prop} {c':I->List AV} {ok':I->Prop} (hu:P.underlying t=some (.struct fs.toArray)) (r:RdF P B fs c' ok') (h:∀y,ok' y->∃x,c' y=c x/\ok x):Rd P B t c ok:=by
 intro xs hx;obtain ⟨xss,rfl,hl,hh⟩:=Ck hu hx;obtain ⟨y,h1,h2⟩:=r xss (by simpa using hl) fun i f x k1 k2=>hh i f x (by simpa using k1) k2
 obtain ⟨x,h3,h4⟩:=h y h2;exact ⟨x,h1.trans h3,h4⟩
theorem Kq (hu:P.underlying t=some .bool):Rd P B t cB (okT B):=by
 intro xs h;cases h with
 | bool b h=>exact ⟨b,rfl,trivial⟩
 | _=>simp_all
theorem ma {k:IntKind} (hu:P.underlying t=some (.int k)) {xs:List AV} (h:WT P B t xs):∃v,xs=[.int k v]/\k.min<=v/\v<=k.max:=by
 cases h with
 | int k' v h h1 h2=>rw [hu] at h;cases h;exact ⟨v,rfl,h1,h2⟩
 | _=>simp_all
theorem Sw (hu:P.underlying t=some (.int .i64)):Rd P B t cI (okI B):=by
 intro xs h;obtain ⟨v,rfl,h1,h2⟩:=ma hu h;exact ⟨v,rfl,h1,h2⟩
theorem rd_u8 (hu:P.underlying t=some (.int .u8)):Rd P B t c8 (ok8 B):=by
 intro xs h;obtain ⟨v,rfl,h1,h2⟩:=ma hu h;exact ⟨v,rfl,h1,h2⟩
theorem Ts (hu:P.underlying t=some (.int .u32)):Rd P B t c32 (ok32 B):=by
 intro xs h;obtain ⟨v,rfl,h1,h2⟩:=ma hu h;exact ⟨v,rfl,h1,h2⟩
theorem Sx (hu:P.underlying t=some .string):Rd P B t cStr (vY B):=by
 intro xs h;cases h with
 | str s h h1=>exact ⟨s,rfl,h1⟩
 | _=>simp_all
theorem ej {G:Type} {c:G->List AV} {ok:G->Prop}:∀{es:List (List AV)},(∀x∈es,∃y,x=c y/\ok y)->∃l:List G,es=l.map c/\∀y∈l,ok y
 | [],_=>⟨[],rfl,by simp⟩
 | e::es,h=>by
  obtain ⟨y,rfl,h1⟩:=h e (by simp);obtain ⟨l,rfl,h2⟩:=ej (es:=es) (fun x hx=>h x (by simp [hx]));refine ⟨y::l,rfl,?_⟩;intro z hz;rcases nK.1 hz with rfl | hz
  ·exact h1
  ·exact h2 z hz
theorem Gk {e:TypeId} (hu:P.underlying t=some (.slice e)) {xs:List AV} (h:WT P B t xs):∃es,xs=[.slice (P.cellsOf e) es]/\es.length<=B/\∀x∈es,WT P B e x:=by
 cases h with
 | slice es h h1 h2=>rw [hu] at h;cases h;exact ⟨es,rfl,h1,h2⟩
 | _=>simp_all
theorem tB {G:Type} {e:TypeId} {c:G->List AV} {ok:G->Prop} {z:Nat} (hu:P.underlying t=some (.slice e)) (hz:P.cellsOf e=z) (he:Rd P B e c ok):Rd P B t (cS z c) (okL B ok):=by
 intro xs h;obtain ⟨es,rfl,h1,h2⟩:=Gk hu h;obtain ⟨l,rfl,h3⟩:=ej fun x hx=>he x (h2 x hx)
 exact ⟨l,by rw [hz];rfl,by simpa using h1,h3⟩
end
@[ext] structure Fld where
 name:List UInt8
 Yc:Int
 deriving DecidableEq,Inhabited
def Fld.c (x:Fld):List AV:=[.str x.name,.int .i64 x.Yc]
@[simp] theorem Fld.c_length (x:Fld):(Fld.c x).length=2:=by simp [Fld.c]
def Fld.Ok (B:Nat) (x:Fld):Prop:=vY B x.name/\okI B x.Yc
theorem Fld.rd {P:Go.Program} {B:Nat} {t:TypeId} {f0 f1:Go.Field} (hu:P.underlying t=some (.struct #[f0,f1])) (h0:Rd P B f0.type cStr (vY B)) (h1:Rd P B f1.type cI (okI B)):Rd P B t Fld.c (Fld.Ok B):=
 .st hu (h0.q h1.o) fun ⟨a,b⟩ h=>⟨⟨a,b⟩,by simp [Fld.c,cI,cStr],h⟩
@[ext] structure Xi where
 name:List UInt8
 Xz:List Fld
 deriving DecidableEq,Inhabited
def Xi.c (x:Xi):List AV:=[.str x.name,.slice 2 (x.Xz.map Fld.c)]
@[simp] theorem Xi.c_length (x:Xi):(Xi.c x).length=2:=by simp [Xi.c]
def Xi.Ok (B:Nat) (x:Xi):Prop:=vY B x.name/\okL B (Fld.Ok B) x.Xz
theorem Xi.rd {P:Go.Program} {B:Nat} {t:TypeId} {f0 f1:Go.Field} (hu:P.underlying t=some (.struct #[f0,f1])) (h0:Rd P B f0.type cStr (vY B)) (h1:Rd P B f1.type (cS 2 Fld.c) (okL B (Fld.Ok B))):Rd P B t Xi.c (Xi.Ok B):=
 .st hu (h0.q h1.o) fun ⟨a,b⟩ h=>⟨⟨a,b⟩,by simp [Xi.c,cS,cStr],h⟩
@[ext] structure Xg where
 name:List UInt8
 Yc:Int
 size:Int
 deriving DecidableEq,Inhabited
def Xg.c (x:Xg):List AV:=[.str x.name,.int .i64 x.Yc,.int .i64 x.size]
@[simp] theorem Xg.c_length (x:Xg):(Xg.c x).length=3:=by simp [Xg.c]
def Xg.Ok (B:Nat) (x:Xg):Prop:=vY B x.name/\okI B x.Yc/\okI B x.size
theorem Xg.rd {P:Go.Program} {B:Nat} {t:TypeId} {f0 f1 f2:Go.Field} (hu:P.underlying t=some (.struct #[f0,f1,f2])) (h0:Rd P B f0.type cStr (vY B)) (h1:Rd P B f1.type cI (okI B)) (h2:Rd P B f2.type cI (okI B)):Rd P B t Xg.c (Xg.Ok B):=
 .st hu (h0.q (h1.q h2.o)) fun ⟨a,b,c⟩ h=>⟨⟨a,b,c⟩,by simp [Xg.c,cI,cStr],h⟩
@[ext] structure FieldRef where
 header:Int
 field:Int
 deriving DecidableEq,Inhabited
def FieldRef.c (x:FieldRef):List AV:=[.int .i64 x.header,.int .i64 x.field]
@[simp] theorem FieldRef.c_length (x:FieldRef):(FieldRef.c x).length=2:=by simp [FieldRef.c]
def FieldRef.Ok (B:Nat) (x:FieldRef):Prop:=okI B x.header/\okI B x.field
theorem FieldRef.rd {P:Go.Program} {B:Nat} {t:TypeId} {f0 f1:Go.Field} (hu:P.underlying t=some (.struct #[f0,f1])) (h0:Rd P B f0.type cI (okI B)) (h1:Rd P B f1.type cI (okI B)):Rd P B t FieldRef.c (FieldRef.Ok B):=
 .st hu (h0.q h1.o) fun ⟨a,b⟩ h=>⟨⟨a,b⟩,by simp [FieldRef.c,cI],h⟩
@[ext] structure Xd where
 op:Int
 n:Int
 w:Int
 deriving DecidableEq,Inhabited
def Xd.c (x:Xd):List AV:=[.int .i64 x.op,.int .i64 x.n,.int .i64 x.w]
@[simp] theorem Xd.c_length (x:Xd):(Xd.c x).length=3:=by simp [Xd.c]
def Xd.Ok (B:Nat) (x:Xd):Prop:=okI B x.op/\okI B x.n/\okI B x.w
theorem Xd.rd {P:Go.Program} {B:Nat} {t:TypeId} {f0 f1 f2:Go.Field} (hu:P.underlying t=some (.struct #[f0,f1,f2])) (h0:Rd P B f0.type cI (okI B)) (h1:Rd P B f1.type cI (okI B)) (h2:Rd P B f2.type cI (okI B)):Rd P B t Xd.c (Xd.Ok B):=
 .st hu (h0.q (h1.q h2.o)) fun ⟨a,b,c⟩ h=>⟨⟨a,b,c⟩,by simp [Xd.c,cI],h⟩
@[ext] structure Xf where
 kind:Int
 dst:FieldRef
 Ye:Int
 header:Int
 index:List Xd
 value:List Xd
 deriving DecidableEq,Inhabited
def Xf.c (x:Xf):List AV:=[.int .i64 x.kind,.int .i64 x.dst.header,.int .i64 x.dst.field,.int .i64 x.Ye,.int .i64 x.header,.slice 3 (x.index.map Xd.c),.slice 3 (x.value.map Xd.c)]
@[simp] theorem Xf.c_length (x:Xf):(Xf.c x).length=7:=by simp [Xf.c]
def Xf.Ok (B:Nat) (x:Xf):Prop:=okI B x.kind/\FieldRef.Ok B x.dst/\okI B x.Ye/\okI B x.header/\okL B (Xd.Ok B) x.index/\okL B (Xd.Ok B) x.value
theorem Xf.rd {P:Go.Program} {B:Nat} {t:TypeId} {f0 f1 f2 f3 f4 f5:Go.Field} (hu:P.underlying t=some (.struct #[f0,f1,f2,f3,f4,f5])) (h0:Rd P B f0.type cI (okI B)) (h1:Rd P B f1.type FieldRef.c (FieldRef.Ok B)) (h2:Rd P B f2.type cI (okI B)) (h3:Rd P B f3.type cI (okI B)) (h4:Rd P B f4.type (cS 3 Xd.c) (okL B (Xd.Ok B))) (h5:Rd P B f5.type (cS 3 Xd.c) (okL B (Xd.Ok B))):Rd P B t Xf.c (Xf.Ok B):=
 .st hu (h0.q (h1.q (h2.q (h3.q (h4.q h5.o))))) fun ⟨a,b,c,d,e,f⟩ h=>⟨⟨a,b,c,d,e,f⟩,by simp [Xf.c,FieldRef.c,cI,cS],h⟩
@[ext] structure Action where
 name:List UInt8
 params:List Fld
 body:List Xf
 deriving DecidableEq,Inhabited
def Action.c (x:Action):List AV:=[.str x.name,.slice 2 (x.params.map Fld.c),.slice 7 (x.body.map Xf.c)]
@[simp] theorem Action.c_length (x:Action):(Action.c x).length=3:=by simp [Action.c]
def Action.Ok (B:Nat) (x:Action):Prop:=vY B x.name/\okL B (Fld.Ok B) x.params/\okL B (Xf.Ok B) x.body
theorem Action.rd {P:Go.Program} {B:Nat} {t:TypeId} {f0 f1 f2:Go.Field} (hu:P.underlying t=some (.struct #[f0,f1,f2])) (h0:Rd P B f0.type cStr (vY B)) (h1:Rd P B f1.type (cS 2 Fld.c) (okL B (Fld.Ok B))) (h2:Rd P B f2.type (cS 7 Xf.c) (okL B (Xf.Ok B))):Rd P B t Action.c (Action.Ok B):=
 .st hu (h0.q (h1.q h2.o)) fun ⟨a,b,c⟩ h=>⟨⟨a,b,c⟩,by simp [Action.c,cS,cStr],h⟩
@[ext] structure Xk where
 field:FieldRef
 kind:Int
 deriving DecidableEq,Inhabited
def Xk.c (x:Xk):List AV:=[.int .i64 x.field.header,.int .i64 x.field.field,.int .i64 x.kind]
@[simp] theorem Xk.c_length (x:Xk):(Xk.c x).length=3:=by simp [Xk.c]
def Xk.Ok (B:Nat) (x:Xk):Prop:=FieldRef.Ok B x.field/\okI B x.kind
theorem Xk.rd {P:Go.Program} {B:Nat} {t:TypeId} {f0 f1:Go.Field} (hu:P.underlying t=some (.struct #[f0,f1])) (h0:Rd P B f0.type FieldRef.c (FieldRef.Ok B)) (h1:Rd P B f1.type cI (okI B)):Rd P B t Xk.c (Xk.Ok B):=
 .st hu (h0.q h1.o) fun ⟨a,b⟩ h=>⟨⟨a,b⟩,by simp [Xk.c,FieldRef.c,cI],h⟩
@[ext] structure Xb where
 Xy:Int
 args:List Int
 deriving DecidableEq,Inhabited
def Xb.c (x:Xb):List AV:=[.int .i64 x.Xy,.slice 1 (x.args.map c32)]
@[simp] theorem Xb.c_length (x:Xb):(Xb.c x).length=2:=by simp [Xb.c]
def Xb.Ok (B:Nat) (x:Xb):Prop:=okI B x.Xy/\okL B (ok32 B) x.args
theorem Xb.rd {P:Go.Program} {B:Nat} {t:TypeId} {f0 f1:Go.Field} (hu:P.underlying t=some (.struct #[f0,f1])) (h0:Rd P B f0.type cI (okI B)) (h1:Rd P B f1.type (cS 1 c32) (okL B (ok32 B))):Rd P B t Xb.c (Xb.Ok B):=
 .st hu (h0.q h1.o) fun ⟨a,b⟩ h=>⟨⟨a,b⟩,by simp [Xb.c,cI,cS],h⟩
@[ext] structure Tbl where
 name:List UInt8
 keys:List Xk
 Xx:List Int
 Yb:Xb
 size:Int
 deriving DecidableEq,Inhabited
def Tbl.c (x:Tbl):List AV:=[.str x.name,.slice 3 (x.keys.map Xk.c),.slice 1 (x.Xx.map cI),.int .i64 x.Yb.Xy,.slice 1 (x.Yb.args.map c32),.int .i64 x.size]
@[simp] theorem Tbl.c_length (x:Tbl):(Tbl.c x).length=6:=by simp [Tbl.c]
def Tbl.Ok (B:Nat) (x:Tbl):Prop:=vY B x.name/\okL B (Xk.Ok B) x.keys/\okL B (okI B) x.Xx/\Xb.Ok B x.Yb/\okI B x.size
theorem Tbl.rd {P:Go.Program} {B:Nat} {t:TypeId} {f0 f1 f2 f3 f4:Go.Field} (hu:P.underlying t=some (.struct #[f0,f1,f2,f3,f4])) (h0:Rd P B f0.type cStr (vY B)) (h1:Rd P B f1.type (cS 3 Xk.c) (okL B (Xk.Ok B))) (h2:Rd P B f2.type (cS 1 cI) (okL B (okI B))) (h3:Rd P B f3.type Xb.c (Xb.Ok B)) (h4:Rd P B f4.type cI (okI B)):Rd P B t Tbl.c (Tbl.Ok B):=
 .st hu (h0.q (h1.q (h2.q (h3.q h4.o)))) fun ⟨a,b,c,d,e⟩ h=>⟨⟨a,b,c,d,e⟩,by simp [Tbl.c,Xb.c,cI,cS,cStr],h⟩
@[ext] structure Xj where
 value:Int
 Yd:Int
 next:Int
 deriving DecidableEq,Inhabited
def Xj.c (x:Xj):List AV:=[.int .u32 x.value,.int .u32 x.Yd,.int .i64 x.next]
@[simp] theorem Xj.c_length (x:Xj):(Xj.c x).length=3:=by simp [Xj.c]
def Xj.Ok (B:Nat) (x:Xj):Prop:=ok32 B x.value/\ok32 B x.Yd/\okI B x.next
theorem Xj.rd {P:Go.Program} {B:Nat} {t:TypeId} {f0 f1 f2:Go.Field} (hu:P.underlying t=some (.struct #[f0,f1,f2])) (h0:Rd P B f0.type c32 (ok32 B)) (h1:Rd P B f1.type c32 (ok32 B)) (h2:Rd P B f2.type cI (okI B)):Rd P B t Xj.c (Xj.Ok B):=
 .st hu (h0.q (h1.q h2.o)) fun ⟨a,b,c⟩ h=>⟨⟨a,b,c⟩,by simp [Xj.c,c32,cI],h⟩
@[ext] structure Xc where
 name:List UInt8
 extract:List Int
 select:Bool
 on:FieldRef
 cases:List Xj
 Yb:Int
 deriving DecidableEq,Inhabited
def Xc.c (x:Xc):List AV:=[.str x.name,.slice 1 (x.extract.map cI),.bool x.select,.int .i64 x.on.header,.int .i64 x.on.field,.slice 3 (x.cases.map Xj.c),.int .i64 x.Yb]
@[simp] theorem Xc.c_length (x:Xc):(Xc.c x).length=7:=by simp [Xc.c]
def Xc.Ok (B:Nat) (x:Xc):Prop:=vY B x.name/\okL B (okI B) x.extract/\FieldRef.Ok B x.on/\okL B (Xj.Ok B) x.cases/\okI B x.Yb
theorem Xc.rd {P:Go.Program} {B:Nat} {t:TypeId} {f0 f1 f2 f3 f4 f5:Go.Field} (hu:P.underlying t=some (.struct #[f0,f1,f2,f3,f4,f5])) (h0:Rd P B f0.type cStr (vY B)) (h1:Rd P B f1.type (cS 1 cI) (okL B (okI B))) (h2:Rd P B f2.type cB (okT B)) (h3:Rd P B f3.type FieldRef.c (FieldRef.Ok B)) (h4:Rd P B f4.type (cS 3 Xj.c) (okL B (Xj.Ok B))) (h5:Rd P B f5.type cI (okI B)):Rd P B t Xc.c (Xc.Ok B):=
 .st hu (h0.q (h1.q (h2.q (h3.q (h4.q h5.o))))) fun ⟨a,b,c,d,e,f⟩ ⟨o0,o1,_,o3,o4,o5⟩=>⟨⟨a,b,c,d,e,f⟩,by simp [Xc.c,FieldRef.c,cB,cI,cS,cStr],⟨o0,o1,o3,o4,o5⟩⟩
inductive Xa where
 | mk (kind table:Int) (cond:List Xd) (thn els:List Xa)
 deriving Inhabited
mutual
def Xa.c:Xa->List AV
 | .mk k t c a b=>[.int .i64 k,.int .i64 t,.slice 3 (c.map Xd.c),.slice 5 (Xa.cs a),.slice 5 (Xa.cs b)]
def Xa.cs:List Xa->List (List AV)
 | []=>[]
 | x::r=>Xa.c x::Xa.cs r
end
theorem Xa.cs_eq:∀l,Xa.cs l=l.map Xa.c
 | []=>by simp [Xa.cs]
 | x::r=>by simp [Xa.cs,Xa.cs_eq r]
@[simp] theorem Xa.c_length:∀x,(Xa.c x).length=5
 | .mk .. =>by simp [Xa.c]
mutual
def Xa.Ok (B:Nat):Xa->Prop
 | .mk k t c a b=>okI B k/\okI B t/\okL B (Xd.Ok B) c/\(a.length<=B/\Xa.Oks B a)/\(b.length<=B/\Xa.Oks B b)
def Xa.Oks (B:Nat):List Xa->Prop
 | []=>True
 | x::r=>Xa.Ok B x/\Xa.Oks B r
end
theorem Xa.oks_eq (B:Nat):∀l,Xa.Oks B l↔∀x∈l,Xa.Ok B x
 | []=>by simp [Xa.Oks]
 | x::r=>by simp [Xa.Oks,Xa.oks_eq B r]
theorem Xa.rd {P:Go.Program} {B:Nat} {t ts:TypeId} {f0 f1 f2 f3 f4:Go.Field} (hu:P.underlying t=some (.struct #[f0,f1,f2,f3,f4])) (h0:Rd P B f0.type cI (okI B)) (h1:Rd P B f1.type cI (okI B))
  (h2:Rd P B f2.type (cS 3 Xd.c) (okL B (Xd.Ok B))) (h3:f3.type=ts) (h4:f4.type=ts) (hs:P.underlying ts=some (.slice t)) (hz:P.cellsOf t=5):Rd P B t Xa.c (Xa.Ok B):=by
 have key:∀u xs,WT P B u xs->(u=t->∃x:Xa,xs=x.c/\x.Ok B)/\(u=ts->∃l:List Xa,xs=[.slice 5 (Xa.cs l)]/\l.length<=B/\Xa.Oks B l):=by
  intro u xs h
  induction h with
  | bool b h=>exact ⟨(fun e=>by subst e;rw [hu] at h;cases h),(fun e=>by subst e;rw [hs] at h;cases h)⟩
  | int k v h=>exact ⟨(fun e=>by subst e;rw [hu] at h;cases h),(fun e=>by subst e;rw [hs] at h;cases h)⟩
  | str s h=>exact ⟨(fun e=>by subst e;rw [hu] at h;cases h),(fun e=>by subst e;rw [hs] at h;cases h)⟩
  | array k xss h=>exact ⟨(fun e=>by subst e;rw [hu] at h;cases h),(fun e=>by subst e;rw [hs] at h;cases h)⟩
  | slice es h k1 k2 ih=>
   refine ⟨(fun e=>by subst e;rw [hu] at h;cases h),fun e=>?_⟩;subst e;rw [hs] at h;cases h;obtain ⟨l,rfl,hl⟩:=ej (c:=Xa.c) (ok:=Xa.Ok B) fun x hx=>(ih x hx).1 rfl
   exact ⟨l,by rw [hz,Xa.cs_eq],by simpa using k1,(Xa.oks_eq B l).2 hl⟩
  | struct fs xss h k1 k2 ih=>
   refine ⟨fun e=>?_,fun e=>by subst e;rw [hs] at h;cases h⟩;subst e;rw [hu] at h;cases h
   match xss,k1,k2,ih with
   | [a0,a1,a2,a3,a4],_,hh,ih=>
    obtain ⟨y0,rfl,o0⟩:=h0 a0 (hh 0 _ _ rfl rfl);obtain ⟨y1,rfl,o1⟩:=h1 a1 (hh 1 _ _ rfl rfl);obtain ⟨y2,rfl,o2⟩:=h2 a2 (hh 2 _ _ rfl rfl);obtain ⟨y3,rfl,o3⟩:=(ih 3 _ _ rfl rfl).2 h3;obtain ⟨y4,rfl,o4⟩:=(ih 4 _ _ rfl rfl).2 h4;exact ⟨.mk y0 y1 y2 y3 y4,by simp [Xa.c,cI,cS],by simp only [Xa.Ok];exact ⟨o0,o1,o2,o3,o4⟩⟩
 intro xs h;exact (key t xs h).1 rfl
@[ext] structure Prg where
 name:List UInt8
 Xo:List Xi
 Xn:List Fld
 Xl:List Xg
 Xx:List Action
 Xm:List Tbl
 Xw:List Xc
 Ya:List Xa
 Xr:List Int
 deriving Inhabited
def Prg.c (x:Prg):List AV:=[.str x.name,.slice 2 (x.Xo.map Xi.c),.slice 2 (x.Xn.map Fld.c),.slice 3 (x.Xl.map Xg.c),.slice 3 (x.Xx.map Action.c),.slice 6 (x.Xm.map Tbl.c),.slice 7 (x.Xw.map Xc.c),.slice 5 (x.Ya.map Xa.c),.slice 1 (x.Xr.map cI)]
@[simp] theorem Prg.c_length (x:Prg):(Prg.c x).length=9:=by simp [Prg.c]
def Prg.Ok (B:Nat) (x:Prg):Prop:=vY B x.name/\okL B (Xi.Ok B) x.Xo/\okL B (Fld.Ok B) x.Xn/\okL B (Xg.Ok B) x.Xl/\okL B (Action.Ok B) x.Xx/\okL B (Tbl.Ok B) x.Xm/\okL B (Xc.Ok B) x.Xw/\okL B (Xa.Ok B) x.Ya/\okL B (okI B) x.Xr
theorem Prg.rd {P:Go.Program} {B:Nat} {t:TypeId} {f0 f1 f2 f3 f4 f5 f6 f7 f8:Go.Field} (hu:P.underlying t=some (.struct #[f0,f1,f2,f3,f4,f5,f6,f7,f8])) (h0:Rd P B f0.type cStr (vY B)) (h1:Rd P B f1.type (cS 2 Xi.c) (okL B (Xi.Ok B))) (h2:Rd P B f2.type (cS 2 Fld.c) (okL B (Fld.Ok B))) (h3:Rd P B f3.type (cS 3 Xg.c) (okL B (Xg.Ok B))) (h4:Rd P B f4.type (cS 3 Action.c) (okL B (Action.Ok B))) (h5:Rd P B f5.type (cS 6 Tbl.c) (okL B (Tbl.Ok B))) (h6:Rd P B f6.type (cS 7 Xc.c) (okL B (Xc.Ok B))) (h7:Rd P B f7.type (cS 5 Xa.c) (okL B (Xa.Ok B))) (h8:Rd P B f8.type (cS 1 cI) (okL B (okI B))):Rd P B t Prg.c (Prg.Ok B):=
 .st hu (h0.q (h1.q (h2.q (h3.q (h4.q (h5.q (h6.q (h7.q h8.o)))))))) fun ⟨a,b,c,d,e,f,g,i,j⟩ h=>⟨⟨a,b,c,d,e,f,g,i,j⟩,by simp [Prg.c,cS,cStr],h⟩
@[ext] structure Envt where
 valid:List Bool
 Xz:List (List Int)
 metaF:List Int
 payload:List Int
 deriving DecidableEq,Inhabited
def Envt.c (x:Envt):List AV:=[.slice 1 (x.valid.map cB),.slice 1 (x.Xz.map (cS 1 c32)),.slice 1 (x.metaF.map c32),.slice 1 (x.payload.map c8)]
@[simp] theorem Envt.c_length (x:Envt):(Envt.c x).length=4:=by simp [Envt.c]
def Envt.Ok (B:Nat) (x:Envt):Prop:=okL B (okT B) x.valid/\okL B (okL B (ok32 B)) x.Xz/\okL B (ok32 B) x.metaF/\okL B (ok8 B) x.payload
theorem Envt.rd {P:Go.Program} {B:Nat} {t:TypeId} {f0 f1 f2 f3:Go.Field} (hu:P.underlying t=some (.struct #[f0,f1,f2,f3])) (h0:Rd P B f0.type (cS 1 cB) (okL B (okT B))) (h1:Rd P B f1.type (cS 1 (cS 1 c32)) (okL B (okL B (ok32 B)))) (h2:Rd P B f2.type (cS 1 c32) (okL B (ok32 B))) (h3:Rd P B f3.type (cS 1 c8) (okL B (ok8 B))):Rd P B t Envt.c (Envt.Ok B):=
 .st hu (h0.q (h1.q (h2.q h3.o))) fun ⟨a,b,c,d⟩ h=>⟨⟨a,b,c,d⟩,by simp [Envt.c,cS],h⟩
@[ext] structure Xh where
 value:Int
 Yd:Int
 deriving DecidableEq,Inhabited
def Xh.c (x:Xh):List AV:=[.int .u32 x.value,.int .u32 x.Yd]
@[simp] theorem Xh.c_length (x:Xh):(Xh.c x).length=2:=by simp [Xh.c]
def Xh.Ok (B:Nat) (x:Xh):Prop:=ok32 B x.value/\ok32 B x.Yd
theorem Xh.rd {P:Go.Program} {B:Nat} {t:TypeId} {f0 f1:Go.Field} (hu:P.underlying t=some (.struct #[f0,f1])) (h0:Rd P B f0.type c32 (ok32 B)) (h1:Rd P B f1.type c32 (ok32 B)):Rd P B t Xh.c (Xh.Ok B):=
 .st hu (h0.q h1.o) fun ⟨a,b⟩ h=>⟨⟨a,b⟩,by simp [Xh.c,c32],h⟩
@[ext] structure Entry where
 keys:List Xh
 Xs:Int
 call:Xb
 deriving DecidableEq,Inhabited
def Entry.c (x:Entry):List AV:=[.slice 2 (x.keys.map Xh.c),.int .i64 x.Xs,.int .i64 x.call.Xy,.slice 1 (x.call.args.map c32)]
@[simp] theorem Entry.c_length (x:Entry):(Entry.c x).length=4:=by simp [Entry.c]
def Entry.Ok (B:Nat) (x:Entry):Prop:=okL B (Xh.Ok B) x.keys/\okI B x.Xs/\Xb.Ok B x.call
theorem Entry.rd {P:Go.Program} {B:Nat} {t:TypeId} {f0 f1 f2:Go.Field} (hu:P.underlying t=some (.struct #[f0,f1,f2])) (h0:Rd P B f0.type (cS 2 Xh.c) (okL B (Xh.Ok B))) (h1:Rd P B f1.type cI (okI B)) (h2:Rd P B f2.type Xb.c (Xb.Ok B)):Rd P B t Entry.c (Entry.Ok B):=
 .st hu (h0.q (h1.q h2.o)) fun ⟨a,b,c⟩ h=>⟨⟨a,b,c⟩,by simp [Entry.c,Xb.c,cI,cS],h⟩
@[ext] structure Rw where
 id:Int
 entry:Entry
 deriving DecidableEq,Inhabited
def Rw.c (x:Rw):List AV:=[.int .i64 x.id,.slice 2 (x.entry.keys.map Xh.c),.int .i64 x.entry.Xs,.int .i64 x.entry.call.Xy,.slice 1 (x.entry.call.args.map c32)]
@[simp] theorem Rw.c_length (x:Rw):(Rw.c x).length=5:=by simp [Rw.c]
def Rw.Ok (B:Nat) (x:Rw):Prop:=okI B x.id/\Entry.Ok B x.entry
theorem Rw.rd {P:Go.Program} {B:Nat} {t:TypeId} {f0 f1:Go.Field} (hu:P.underlying t=some (.struct #[f0,f1])) (h0:Rd P B f0.type cI (okI B)) (h1:Rd P B f1.type Entry.c (Entry.Ok B)):Rd P B t Rw.c (Rw.Ok B):=
 .st hu (h0.q h1.o) fun ⟨a,b⟩ h=>⟨⟨a,b⟩,by simp [Rw.c,Entry.c,cI],h⟩
@[ext] structure Xe where
 rows:List (List Rw)
 Xq:List Int
 Xp:List Xb
 Xl:List (List Int)
 deriving DecidableEq,Inhabited
def Xe.c (x:Xe):List AV:=[.slice 1 (x.rows.map (cS 5 Rw.c)),.slice 1 (x.Xq.map cI),.slice 2 (x.Xp.map Xb.c),.slice 1 (x.Xl.map (cS 1 c32))]
@[simp] theorem Xe.c_length (x:Xe):(Xe.c x).length=4:=by simp [Xe.c]
def Xe.Ok (B:Nat) (x:Xe):Prop:=okL B (okL B (Rw.Ok B)) x.rows/\okL B (okI B) x.Xq/\okL B (Xb.Ok B) x.Xp/\okL B (okL B (ok32 B)) x.Xl
theorem Xe.rd {P:Go.Program} {B:Nat} {t:TypeId} {f0 f1 f2 f3:Go.Field} (hu:P.underlying t=some (.struct #[f0,f1,f2,f3])) (h0:Rd P B f0.type (cS 1 (cS 5 Rw.c)) (okL B (okL B (Rw.Ok B)))) (h1:Rd P B f1.type (cS 1 cI) (okL B (okI B))) (h2:Rd P B f2.type (cS 2 Xb.c) (okL B (Xb.Ok B))) (h3:Rd P B f3.type (cS 1 (cS 1 c32)) (okL B (okL B (ok32 B)))):Rd P B t Xe.c (Xe.Ok B):=
 .st hu (h0.q (h1.q (h2.q h3.o))) fun ⟨a,b,c,d⟩ h=>⟨⟨a,b,c,d⟩,by simp [Xe.c,cS],h⟩
@[ext] structure Packet where
 port:Int
 data:List Int
 deriving DecidableEq,Inhabited
def Packet.c (x:Packet):List AV:=[.int .i64 x.port,.slice 1 (x.data.map c8)]
@[simp] theorem Packet.c_length (x:Packet):(Packet.c x).length=2:=by simp [Packet.c]
def Packet.Ok (B:Nat) (x:Packet):Prop:=okI B x.port/\okL B (ok8 B) x.data
theorem Packet.rd {P:Go.Program} {B:Nat} {t:TypeId} {f0 f1:Go.Field} (hu:P.underlying t=some (.struct #[f0,f1])) (h0:Rd P B f0.type cI (okI B)) (h1:Rd P B f1.type (cS 1 c8) (okL B (ok8 B))):Rd P B t Packet.c (Packet.Ok B):=
 .st hu (h0.q h1.o) fun ⟨a,b⟩ h=>⟨⟨a,b⟩,by simp [Packet.c,cI,cS],h⟩
@[ext] structure Hit where
 table:Int
 row:Int
 Xy:Int
 deriving DecidableEq,Inhabited
def Hit.c (x:Hit):List AV:=[.int .i64 x.table,.int .i64 x.row,.int .i64 x.Xy]
@[simp] theorem Hit.c_length (x:Hit):(Hit.c x).length=3:=by simp [Hit.c]
def Hit.Ok (B:Nat) (x:Hit):Prop:=okI B x.table/\okI B x.row/\okI B x.Xy
theorem Hit.rd {P:Go.Program} {B:Nat} {t:TypeId} {f0 f1 f2:Go.Field} (hu:P.underlying t=some (.struct #[f0,f1,f2])) (h0:Rd P B f0.type cI (okI B)) (h1:Rd P B f1.type cI (okI B)) (h2:Rd P B f2.type cI (okI B)):Rd P B t Hit.c (Hit.Ok B):=
 .st hu (h0.q (h1.q h2.o)) fun ⟨a,b,c⟩ h=>⟨⟨a,b,c⟩,by simp [Hit.c,cI],h⟩
@[ext] structure Rslt where
 drop:Bool
 port:Int
 data:List Int
 hits:List Hit
 deriving DecidableEq,Inhabited
def Rslt.c (x:Rslt):List AV:=[.bool x.drop,.int .i64 x.port,.slice 1 (x.data.map c8),.slice 3 (x.hits.map Hit.c)]
@[simp] theorem Rslt.c_length (x:Rslt):(Rslt.c x).length=4:=by simp [Rslt.c]
def Rslt.Ok (B:Nat) (x:Rslt):Prop:=okI B x.port/\okL B (ok8 B) x.data/\okL B (Hit.Ok B) x.hits
theorem Rslt.rd {P:Go.Program} {B:Nat} {t:TypeId} {f0 f1 f2 f3:Go.Field} (hu:P.underlying t=some (.struct #[f0,f1,f2,f3])) (h0:Rd P B f0.type cB (okT B)) (h1:Rd P B f1.type cI (okI B)) (h2:Rd P B f2.type (cS 1 c8) (okL B (ok8 B))) (h3:Rd P B f3.type (cS 3 Hit.c) (okL B (Hit.Ok B))):Rd P B t Rslt.c (Rslt.Ok B):=
 .st hu (h0.q (h1.q (h2.q h3.o))) fun ⟨a,b,c,d⟩ ⟨_,o1,o2,o3⟩=>⟨⟨a,b,c,d⟩,by simp [Rslt.c,cB,cI,cS],⟨o1,o2,o3⟩⟩
end Go.Av
namespace Go.Av
open Go.ChangeShapes Go.WideShapes Go.ChangeAt Go.RowKit
def oU:Nat:=1048576
theorem EI:oU=1048576:=rfl
theorem Z5 {n:Nat} (h:n<=1048576):n<=oU:=h
theorem gq {G:Type} {t:Nat} {x:G}:∀{l:List (Nat×G)},look t l=some x->(t,x)∈l
 | [],h=>by cases h
 | (u,y)::r,h=>by
  simp only [look] at h;split at h
  ·rename_i hu;subst hu;cases h;simp
  ·exact D1 _ (gq h)
theorem Hk {P:Program} {A:Ann} {tab:List (Nat×AFn)} (h:tab.map (fun p=>cFn P A p.1)=tab.map (fun p=>some p.2)) {f:FuncId} {fn:AFn} (hf:(f,fn)∈tab):cFn P A f=some fn:=by
 have:=TL.1 h (f,fn) hf;exact this
def CO (P:Program) (f:FuncId):Bool:=match P.funcs[f]? with
 | some fn => !fn.body.isNone && !(fn.name == "runtime.NumGoroutine")
 | none=>false
def T6 (tab:List (Nat×AFn)) (tabD:List (Nat×ADFn)) (f:FuncId):Option AFun:=match look f tab with
 | some fn=>some (.code fn)
 | none=>(look f tabD).map .dfr
theorem SI {P:Program} {f:FuncId} (h:CO P f=true):EP P f:=by
 unfold CO at h;split at h
 ·rename_i fd hfd;simp only [d7,AP] at h;exact ⟨fd,hfd,h.1,h.2⟩
 ·cases h
theorem ZQ {P:Program} {A:Ann} {tab:List (Nat×AFn)} {tabD:List (Nat×ADFn)} (hm:P.follows .mixedOrders=true) (h:tab.map (fun p=>cFn P A p.1)=tab.map (fun p=>some p.2)) (hb:tab.all (fun p=>CO P p.1)=true)
  (hd:tabD.map (fun p=>cDFn P A p.1 p.2.clo)=tabD.map (fun p=>some p.2)) (hbd:tabD.all (fun p=>CO P p.1&&CO P p.2.clo)=true):TableOk P A (T6 tab tabD):=by
 have cases':∀f af,T6 tab tabD f=some af->(∃fn,af= .code fn/\(f,fn)∈tab)\/(∃d,af= .dfr d/\(f,d)∈tabD):=by
  intro f af hf;unfold T6 at hf;split at hf
  ·rename_i fn hl;cases hf;exact .inl ⟨fn,rfl,gq hl⟩
  ·rw [Qs] at hf;obtain ⟨d,hl,rfl⟩:=hf;exact .inr ⟨d,rfl,gq hl⟩
 refine ⟨hm,?_,?_,?_,?_⟩
 ·intro f af hf;rcases cases' f af hf with ⟨fn,rfl,hl⟩ | ⟨d,rfl,hl⟩
  ·exact SI (Qr.1 hb _ hl)
  ·have:=Qr.1 hbd _ hl;simp only [d7] at this;exact SI this.1
 ·intro f fn hf;rcases cases' f _ hf with ⟨fn,h1,hl⟩ | ⟨d,h1,hl⟩
  ·cases h1;exact Hk h hl
  ·cases h1
 ·intro f d hf;rcases cases' f _ hf with ⟨fn,h1,hl⟩ | ⟨d,h1,hl⟩
  ·cases h1
  ·cases h1;have h2:=TL.1 hd _ hl;have h3:=Qr.1 hbd _ hl;simp only [d7] at h3;exact ⟨h2,SI h3.2⟩
 ·intro f g hf;rcases cases' f _ hf with ⟨fn,h1,hl⟩ | ⟨d,h1,hl⟩<;>cases h1
structure CloneD where
 f:Nat
 z:Nat
 bytes:Nat
 m:SM
 deriving Inhabited
def WD (f:Nat):List CloneD->Option CloneD
 | []=>none
 | c::r=>if c.f=f then some c else WD f r
theorem tc {f:Nat} {c:CloneD}:∀{l:List CloneD},WD f l=some c->c∈l/\c.f=f
 | [],h=>by cases h
 | d::r,h=>by
  simp only [WD] at h;split at h
  ·rename_i hd;cases h;exact ⟨OG,hd⟩
  ·obtain ⟨h1,h2⟩:=tc h;exact ⟨D1 _ h1,h2⟩
def WJ (tab:List (Nat×AFn)) (tabD:List (Nat×ADFn)) (tabC:List CloneD) (f:FuncId):Option AFun:=match look f tab with
 | some fn=>some (.code fn)
 | none=>match look f tabD with
  | some d=>some (.dfr d)
  | none=>(WD f tabC).map fun c=> .rule (DF c.z c.bytes c.m)
theorem ZR {P:Program} {A:Ann} {tab:List (Nat×AFn)} {tabD:List (Nat×ADFn)} {tabC:List CloneD} (hm:P.follows .mixedOrders=true) (h:tab.map (fun p=>cFn P A p.1)=tab.map (fun p=>some p.2)) (hb:tab.all (fun p=>CO P p.1)=true)
  (hd:tabD.map (fun p=>cDFn P A p.1 p.2.clo)=tabD.map (fun p=>some p.2)) (hbd:tabD.all (fun p=>CO P p.1&&CO P p.2.clo)=true)
  (hc1:tabC.map (fun c=>JP P (annC c.m false) (annC c.m true) c.f)=tabC.map (fun c=>some (A6 c.z c.bytes c.m)))
  (hc2:tabC.map (fun c=>JP P (annC .app false) (annC .app true) c.f)=tabC.map (fun c=>some (A6 c.z c.bytes .app))) (hbc:tabC.all (fun c=>CO P c.f)=true):TableOk P A (WJ tab tabD tabC):=by
 have T:=ZQ hm h hb hd hbd;have cases':∀f af,WJ tab tabD tabC f=some af->T6 tab tabD f=some af\/∃c,c∈tabC/\c.f=f/\af= .rule (DF c.z c.bytes c.m):=by
  intro f af hf;unfold WJ at hf;unfold T6;cases h1:look f tab with
  | some fn=>rw [h1] at hf;exact .inl hf
  | none=>
   rw [h1] at hf;cases h2:look f tabD with
   | some d=>rw [h2] at hf;exact .inl hf
   | none=>
    rw [h2] at hf;simp only [Qs] at hf;obtain ⟨c,hc,rfl⟩:=hf;obtain ⟨k1,k2⟩:=tc hc;exact .inr ⟨c,k1,k2,rfl⟩
 refine ⟨hm,?_,?_,?_,?_⟩
 ·intro f af hf;rcases cases' f af hf with hf | ⟨c,hc,rfl,rfl⟩
  ·exact T.body f af hf
  ·exact SI (Qr.1 hbc _ hc)
 ·intro f fn hf;rcases cases' f _ hf with hf | ⟨c,hc,rfl,h⟩
  ·exact T.code f fn hf
  ·cases h
 ·intro f d hf;rcases cases' f _ hf with hf | ⟨c,hc,rfl,h⟩
  ·exact T.dfr f d hf
  ·cases h
 ·intro f g hf;rcases cases' f _ hf with hf | ⟨c,hc,rfl,h⟩
  ·exact T.rule f g hf
  ·cases h;intro call hcall as H r H' hev F B0 w I vs hr ha;exact X4 hm (TL.1 hc1 _ hc) (TL.1 hc2 _ hc) hcall hev hr ha
theorem qzv {n:Nat} {H:AH} {v:AV} {b:Bool} (h:snap n H v=some (.bool b)):v= .bool b:=by
 cases n with
 | zero=>cases h
 | succ n=>
  cases v with
  | bool b'=>cases h;rfl
  | agg cs=>simp only [snap,Qs] at h;obtain ⟨_,_,hh⟩:=h;cases hh
  | tup cs=>simp only [snap,Qs] at h;obtain ⟨_,_,hh⟩:=h;cases hh
  | iface t v=>simp only [snap,Qs] at h;obtain ⟨_,_,hh⟩:=h;cases hh
  | func fn a c=>
   simp only [snap] at h;split at h
   ·cases h
   ·simp only [Qs] at h;obtain ⟨_,_,hh⟩:=h;cases hh
  | ptr id z i off=>
   simp only [snap] at h;split at h
   ·split at h
    ·simp only [Qs] at h;obtain ⟨_,_,hh⟩:=h;cases hh
    ·cases h
   ·cases h
  | row id z off len=>
   simp only [snap] at h;split at h
   ·split at h
    ·simp only [Qs] at h;obtain ⟨_,_,hh⟩:=h;cases hh
    ·cases h
   ·cases h
  | _=>cases h
theorem qw3 {Φ:FuncId->Option AFun} {f:FuncId} {as:List AV} {b:Bool} (h:a8 Φ f as=some (.val (.bool b))):∃H',aG Φ f as H0=some (.val (.bool b),H'):=by
 unfold a8 at h;cases hc:aG Φ f as H0 with
 | none=>rw [hc] at h;cases h
 | some p=>
  obtain ⟨r,H'⟩:=p;rw [hc] at h;refine ⟨H',?_⟩;cases r with
  | pan r=>
   simp only [wI] at h;split at h<;>cases h
  | val r=>
   simp only [wI] at h;split at h
   ·rename_i r' hr;cases h;rw [qzv hr]
   ·cases h
theorem XO {Φ:FuncId->Option AFun} {f:FuncId} {as:List AV} {n:Nat} {b:Bool} (h:(evF Φ n f as H0).map (·.1)=some (.val (.bool b))):a8 Φ f as=some (.val (.bool b)):=by
 rw [Qs] at h;obtain ⟨⟨r,H'⟩,h1,h2⟩:=h;simp only at h2;subst h2;unfold a8;rw [Cf Φ h1];rfl
theorem Oj {G:Type} {P:Program} {B:Nat} {t:TypeId} {v:AV} {c:G->List AV} {ok:G->Prop} (h:WTV P B t v) (hu:zO P t=true) (hr:∀xs,WT P B t xs->∃x,xs=c x/\ok x):∃x,v= .agg (c x)/\ok x:=by
 unfold WTV at h;rw [a9 hu] at h;obtain ⟨xs,rfl,h⟩:=h;obtain ⟨x,rfl,ho⟩:=hr xs h;exact ⟨x,rfl,ho⟩
theorem Ol {G:Type} {P:Program} {B:Nat} {t:TypeId} {v:AV} {c:G->List AV} {ok:G->Prop} (h:WTV P B t v) (hu:zO P t=false) (hr:∀xs,WT P B t xs->∃x,xs=c x/\ok x):∃x,[v]=c x/\ok x:=by
 unfold WTV at h;rw [QA (by rw [hu];simp)] at h;exact hr _ h
theorem uk {P:Program} {B:Nat} {t:TypeId} {ts:List TypeId} {vs:List AV} (h:WTVs P B (t::ts) vs):∃a r,vs=a::r/\WTV P B t a/\WTVs P B ts r:=by
 cases vs with
 | nil=>exact h.elim
 | cons a r=>exact ⟨a,r,rfl,h.1,h.2⟩
theorem Gl {P:Program} {B:Nat} {vs:List AV} (h:WTVs P B [] vs):vs=[]:=by
 cases vs with
 | nil=>rfl
 | cons a r=>exact h.elim
section
variable {H:Type} {enc:TypeId×Value->H} {P:Program} {B:Nat}
end
end Go.Av
