/-
  An abstract interpreter over the model, proved sound: part D.
-/
import Derived.Test.YtknmfocedphgmaaGreatAvC
import Derived.WalkKit
import Derived.ProofKit
import Derived.OpenShut
import Derived.JoinedCond
import Derived.Carry
set_option linter.unusedVariables false
set_option linter.unusedSimpArgs false
set_option linter.constructorNameAsVariable false
/-
 Equations of the operations, for a simplifier.
-/
namespace Go.Av
@[simp] theorem evX_t (e:Env) (n:Nat):evX e (.t n)=look n e:=rfl
@[simp] theorem evX_c (e:Env) (v:AV):evX e (.c v)=some v:=rfl
@[simp] theorem qakq {α:Type} (t:Nat) (x:α) (r:List (Nat×α)):look t ((t,x)::r)=some x:=by simp [look]
@[simp] theorem qajm {α:Type} (t u:Nat) (x:α) (r:List (Nat×α)) (h:u≠t):look t ((u,x)::r)=look t r:=by simp [look,h]
@[simp] theorem qajp (e:Env) (t:Nat) (v:AV):putE e (some t) v=(t,v)::e:=rfl
@[simp] theorem qajo (e:Env) (v:AV):putE e none v=e:=rfl
attribute [simp] qb0
theorem qdw {α:Type} (t:Nat):∀(a b:List (Nat×α)),look t (a++b)=(look t a).or (look t b)
 | [],b=>by simp [look]
 | (u,x)::a,b=>by
  simp only [QAp,look];split
  ·simp
  ·exact qdw t a b
@[simp] theorem qakr {α:Type} (t:Nat):look t ([]:List (Nat×α))=none:=Eq.trans (Eq.refl none) (Eq.refl none)
@[simp] theorem qakt {α:Type} (t:Nat) (y:α):setl t y []=[]:=Eq.trans (Eq.refl []) (Eq.refl [])
@[simp] theorem qaks {α:Type} (t:Nat) (x y:α) (r:List (Nat×α)):setl t y ((t,x)::r)=(t,y)::r:=by simp [setl]
@[simp] theorem qajs {α:Type} (t u:Nat) (x y:α) (r:List (Nat×α)) (h:u≠t):setl t y ((u,x)::r)=(u,x)::setl t y r:=by simp [setl,h]
@[simp] theorem qai9 {α:Type} (t:Nat):qaw t ([]:List (Nat×α))=[]:=Eq.trans (Eq.refl []) (Eq.refl [])
@[simp] theorem qai8 {α:Type} (t:Nat) (x:α) (r:List (Nat×α)):qaw t ((t,x)::r)=r:=by simp [qaw]
@[simp] theorem qah9 {α:Type} (t u:Nat) (x:α) (r:List (Nat×α)) (h:u≠t):qaw t ((u,x)::r)=(u,x)::qaw t r:=by simp [qaw,h]
@[simp] theorem qaiu:qau []=[]:=Eq.trans (Eq.refl []) (Eq.refl [])
@[simp] theorem qaiv (u:Nat) (r:List (Nat×AO)):qau ((u,.res)::r)=qau r:=by simp [qau]
@[simp] theorem qaiw (u z:Nat) (es:List (List AV)) (r:List (Nat×AO)):qau ((u,.row z es)::r)=(u,.row z es)::qau r:=by simp [qau]
@[simp] theorem qaix (u z f:Nat) (r:List (Nat×AO)):qau ((u,.tok z f)::r)=(u,.tok z f)::qau r:=by simp [qau]
@[simp] theorem qait (u:Nat) (es:List (AV×AV)) (r:List (Nat×AO)):qau ((u,.map es)::r)=(u,.map es)::qau r:=by simp [qau]
@[simp] theorem get_mk (l:List (Nat×AO)) (n t:Nat):AH.get ⟨l,n⟩ t=look t l:=by simp [AH.get]
@[simp] theorem set_mk (l:List (Nat×AO)) (n t:Nat) (o:AO):AH.set ⟨l,n⟩ t o=⟨setl t o l,n⟩:=by simp [AH.set]
@[simp] theorem kill_mk (l:List (Nat×AO)) (n t:Nat):AH.kill ⟨l,n⟩ t=⟨qaw t l,n⟩:=by simp [AH.kill]
@[simp] theorem new_mk (l:List (Nat×AO)) (n:Nat) (o:AO):AH.new ⟨l,n⟩ o=⟨l++[(n,o)],n+1⟩:=by simp [AH.new]
@[simp] theorem resv_mk (l:List (Nat×AO)) (n:Nat) (ds:List Nat):AH.resv ⟨l,n⟩ ds=⟨l++ds.map fun d=>(n+d,.res),n+maxN ds+1⟩:=by simp [AH.resv]
@[simp] theorem qak1 (l:List (Nat×AO)) (n:Nat):AH.sweep ⟨l,n⟩=⟨qau l,n⟩:=by simp [AH.sweep]
@[simp] theorem put_new {l:List (Nat×AO)} {n t:Nat} {o:AO} (h:look t l=none):AH.put ⟨l,n⟩ t o=⟨l++[(n,o)],n+1⟩:=by
 simp [AH.put,h]
@[simp] theorem put_res {l:List (Nat×AO)} {n t:Nat} {o:AO} (h:look t l=some .res):AH.put ⟨l,n⟩ t o=⟨setl t o l,n⟩:=by
 simp [AH.put,h]
@[simp] theorem H0_mk:H0=⟨[],0⟩:=Eq.trans (Eq.refl H0) (Eq.refl H0)
attribute [simp] maxN
def Tail (T:List (Nat×AO)) (n:Nat):Prop:=∀j,n<=j->look j T=none
theorem Tail.nil (n:Nat):Tail [] n:=fun _ _=>rfl
theorem Tail.app {T:List (Nat×AO)} {n:Nat} (h:Tail T n) (o:AO):Tail (T++[(n,o)]) (n+1):=by
 intro j hj;rw [qdw,h j (by omega)];have:n≠j:=by omega
 simp [look,this]
theorem Tail.mono {T:List (Nat×AO)} {n m:Nat} (h:Tail T n) (hm:n<=m):Tail T m:=fun j hj=>h j (by omega)
@[simp] theorem qajn {T r:List (Nat×AO)} {t:Nat} (h:look t T=none):look t (T++r)=look t r:=by rw [qdw,h];simp
@[simp] theorem qajt {T r:List (Nat×AO)} {t:Nat} {y:AO} (h:look t T=none):setl t y (T++r)=T++setl t y r:=by
 induction T with
 | nil=>rfl
 | cons p T ih=>
  obtain ⟨u,x⟩:=p;simp only [look] at h;split at h
  ·cases h
  ·rename_i hne;simp [setl,hne,ih h]
@[simp] theorem qaia {T r:List (Nat×AO)} {t:Nat} (h:look t T=none):qaw t (T++r)=T++qaw t r:=by
 induction T with
 | nil=>rfl
 | cons p T ih=>
  obtain ⟨u,x⟩:=p;simp only [look] at h;split at h
  ·cases h
  ·rename_i hne;simp [qaw,hne,ih h]
def vH (H:AH):Option AV->Option (Rt×AH)
 | some v=>some (.val v,H)
 | none=>none
@[simp] theorem vH_some (H:AH) (v:AV):vH H (some v)=some (.val v,H):=rfl
section
variable {Φ:FuncId->Option AFun} {e:Env} {nx:Nat} {h:AH}
def qbn:Option (AV×AH)->Option (Rt×AH)
 | some (v,h)=>some (.val v,h)
 | none=>none
@[simp] theorem qaio (v:AV) (h:AH):qbn (some (v,h))=some (.val v,h):=rfl
theorem qaq {call:qap} {op:AOp} (hk:op.isCall=false):qae call e nx h op=qbn (evOp e nx h op):=by
 rw [qdb hk];cases evOp e nx h op<;>rfl
@[simp] theorem qaij {call:qap}:∀y0,qae call e nx h (.mov y0)=qbn (evOp e nx h (.mov y0)):=fun y0=>qaq rfl
@[simp] theorem qaem {call:qap}:∀y0,qae call e nx h (.nilapp y0)=qbn (evOp e nx h (.nilapp y0)):=fun y0=>qaq rfl
@[simp] theorem qahu {call:qap}:∀y0 y1 y2,qae call e nx h (.pick y0 y1 y2)=qbn (evOp e nx h (.pick y0 y1 y2)):=fun y0 y1 y2=>qaq rfl
@[simp] theorem qafh {call:qap}:∀y0,qae call e nx h (.alloc y0)=qbn (evOp e nx h (.alloc y0)):=fun y0=>qaq rfl
@[simp] theorem qaid {call:qap}:∀y0,qae call e nx h (.box y0)=qbn (evOp e nx h (.box y0)):=fun y0=>qaq rfl
@[simp] theorem qahp {call:qap}:∀y0,qae call e nx h (.boxi y0)=qbn (evOp e nx h (.boxi y0)):=fun y0=>qaq rfl
@[simp] theorem qafi {call:qap}:∀y0 y1,qae call e nx h (.build y0 y1)=qbn (evOp e nx h (.build y0 y1)):=fun y0 y1=>qaq rfl
@[simp] theorem qaei {call:qap}:∀y0 y1 y2 y3,qae call e nx h (.bslice y0 y1 y2 y3)=qbn (evOp e nx h (.bslice y0 y1 y2 y3)):=fun y0 y1 y2 y3=>qaq rfl
@[simp] theorem qaht {call:qap}:∀y0 y1 y2,qae call e nx h (.load y0 y1 y2)=qbn (evOp e nx h (.load y0 y1 y2)):=fun y0 y1 y2=>qaq rfl
@[simp] theorem qafp {call:qap}:∀y0 y1 y2,qae call e nx h (.store y0 y1 y2)=qbn (evOp e nx h (.store y0 y1 y2)):=fun y0 y1 y2=>qaq rfl
@[simp] theorem qaen {call:qap}:∀y0,qae call e nx h (.nilchk y0)=qbn (evOp e nx h (.nilchk y0)):=fun y0=>qaq rfl
@[simp] theorem qaic {call:qap}:∀y0 y1 y2,qae call e nx h (.bin y0 y1 y2)=qbn (evOp e nx h (.bin y0 y1 y2)):=fun y0 y1 y2=>qaq rfl
@[simp] theorem qaif {call:qap}:∀y0 y1 y2 y3 y4,qae call e nx h (.eqs y0 y1 y2 y3 y4)=qbn (evOp e nx h (.eqs y0 y1 y2 y3 y4)):=fun y0 y1 y2 y3 y4=>qaq rfl
@[simp] theorem qaie {call:qap}:∀y0 y1 y2,qae call e nx h (.eqn y0 y1 y2)=qbn (evOp e nx h (.eqn y0 y1 y2)):=fun y0 y1 y2=>qaq rfl
@[simp] theorem qajc {call:qap}:∀y0 y1,qae call e nx h (.un y0 y1)=qbn (evOp e nx h (.un y0 y1)):=fun y0 y1=>qaq rfl
@[simp] theorem qahq {call:qap}:∀y0 y1,qae call e nx h (.conv y0 y1)=qbn (evOp e nx h (.conv y0 y1)):=fun y0 y1=>qaq rfl
@[simp] theorem qael {call:qap}:∀y0 y1 y2,qae call e nx h (.mkfunc y0 y1 y2)=qbn (evOp e nx h (.mkfunc y0 y1 y2)):=fun y0 y1 y2=>qaq rfl
@[simp] theorem qab5 {call:qap}:∀y0 y1 y2 y3 y4 y5,qae call e nx h (.mkslice y0 y1 y2 y3 y4 y5)=qbn (evOp e nx h (.mkslice y0 y1 y2 y3 y4 y5)):=fun y0 y1 y2 y3 y4 y5=>qaq rfl
@[simp] theorem qaik {call:qap}:∀y0 y1 y2 y3 y4,qae call e nx h (.slc y0 y1 y2 y3 y4)=qbn (evOp e nx h (.slc y0 y1 y2 y3 y4)):=fun y0 y1 y2 y3 y4=>qaq rfl
@[simp] theorem qahv {call:qap}:∀y0 y1 y2 y3 y4,qae call e nx h (.slcH y0 y1 y2 y3 y4)=qbn (evOp e nx h (.slcH y0 y1 y2 y3 y4)):=fun y0 y1 y2 y3 y4=>qaq rfl
@[simp] theorem qafk {call:qap}:∀y0 y1,qae call e nx h (.faddr y0 y1)=qbn (evOp e nx h (.faddr y0 y1)):=fun y0 y1=>qaq rfl
@[simp] theorem qaih {call:qap}:∀y0 y1 y2 y3,qae call e nx h (.fld y0 y1 y2 y3)=qbn (evOp e nx h (.fld y0 y1 y2 y3)):=fun y0 y1 y2 y3=>qaq rfl
@[simp] theorem qafl {call:qap}:∀y0 y1 y2 y3,qae call e nx h (.iaddr y0 y1 y2 y3)=qbn (evOp e nx h (.iaddr y0 y1 y2 y3)):=fun y0 y1 y2 y3=>qaq rfl
@[simp] theorem qahs {call:qap}:∀y0 y1,qae call e nx h (.idxs y0 y1)=qbn (evOp e nx h (.idxs y0 y1)):=fun y0 y1=>qaq rfl
@[simp] theorem qaig {call:qap}:∀y0 y1,qae call e nx h (.ext y0 y1)=qbn (evOp e nx h (.ext y0 y1)):=fun y0 y1=>qaq rfl
@[simp] theorem qaii {call:qap}:∀y0,qae call e nx h (.len y0)=qbn (evOp e nx h (.len y0)):=fun y0=>qaq rfl
@[simp] theorem qahw {call:qap}:∀y0,qae call e nx h (.slen y0)=qbn (evOp e nx h (.slen y0)):=fun y0=>qaq rfl
@[simp] theorem qaeh {call:qap}:∀y0 y1 y2 y3 y4,qae call e nx h (.append y0 y1 y2 y3 y4)=qbn (evOp e nx h (.append y0 y1 y2 y3 y4)):=fun y0 y1 y2 y3 y4=>qaq rfl
@[simp] theorem qahr {call:qap}:∀y0 y1 y2,qae call e nx h (.copy y0 y1 y2)=qbn (evOp e nx h (.copy y0 y1 y2)):=fun y0 y1 y2=>qaq rfl
@[simp] theorem qafj {call:qap}:∀y0 y1,qae call e nx h (.clear y0 y1)=qbn (evOp e nx h (.clear y0 y1)):=fun y0 y1=>qaq rfl
@[simp] theorem qaek {call:qap}:∀y0 y1,qae call e nx h (.minmax y0 y1)=qbn (evOp e nx h (.minmax y0 y1)):=fun y0 y1=>qaq rfl
@[simp] theorem qafm {call:qap}:qae call e nx h .mkmap=qbn (evOp e nx h .mkmap):=qaq rfl
@[simp] theorem qaej {call:qap}:∀y0 y1 y2 y3 y4,qae call e nx h (.lookup y0 y1 y2 y3 y4)=qbn (evOp e nx h (.lookup y0 y1 y2 y3 y4)):=fun y0 y1 y2 y3 y4=>qaq rfl
@[simp] theorem qaer {call:qap}:∀y0 y1 y2 y3,qae call e nx h (.update y0 y1 y2 y3)=qbn (evOp e nx h (.update y0 y1 y2 y3)):=fun y0 y1 y2 y3=>qaq rfl
@[simp] theorem qafo {f:FuncId} {xs:List AX}:qae (qai Φ) e nx h (.pcall f xs)=match mapO (evX e) xs with
  | some as=>qbe (qai Φ) f as h
  | none=>none:=rfl
@[simp] theorem qaeo {f:FuncId} {xs:List AX}:qae (qai Φ) e nx h (.pcallk f xs)=match mapO (evX e) xs with
  | some as=>match qhp as with
   | some id=>match mapO (qet h id) as with
    | some as'=>if anyL (bor qah) as' then none else qbe (qai Φ) f as' (h.kill id)
    | none=>none
   | none=>none
  | none=>none:=rfl
@[simp] theorem qafq {f:FuncId} {xs:List AX}:qae (qai Φ) e nx h (.tcall f xs)=match mapO (evX e) xs with
  | some as=>qai Φ f as h
  | none=>none:=rfl
@[simp] theorem qaep {f:AX} {xs:List AX}:qae (qai Φ) e nx h (.pcallv f xs)=match evX e f,mapO (evX e) xs with
  | some fv,some as=>match tgt2 fv with
   | some (f,first,caps)=>qbe (qai Φ) f (first++as++caps) h
   | none=>none
  | _,_=>none:=rfl
@[simp] theorem qaeq {f:AX} {xs:List AX}:qae (qai Φ) e nx h (.tcallv f xs)=match evX e f,mapO (evX e) xs with
  | some fv,some as=>match tgt2 fv with
   | some (f,first,caps)=>qai Φ f (first++as++caps) h
   | none=>none
  | _,_=>none:=rfl
@[simp] theorem qab6 {ms:List (TypeId×FuncId)} {x:AX} {xs:List AX}:qae (qai Φ) e nx h (.pinvoke ms x xs)=match evX e x,mapO (evX e) xs with
  | some (.iface t v),some as=>match look t ms with
   | some f=>qbe (qai Φ) f (v::as) h
   | none=>none
  | _,_=>none:=rfl
@[simp] theorem qab7 {ms:List (TypeId×FuncId)} {x:AX} {xs:List AX}:qae (qai Φ) e nx h (.tinvoke ms x xs)=match evX e x,mapO (evX e) xs with
  | some (.iface t v),some as=>match look t ms with
   | some f=>qai Φ f (v::as) h
   | none=>none
  | _,_=>none:=rfl
@[simp] theorem qafn {x:AX}:qae (qai Φ) e nx h (.panic x)=match evX e x with
  | some (.iface t v)=>some (.pan (.iface t v),h)
  | _=>none:=rfl
@[simp] theorem qajz (f:FuncId) (first caps:List AV):tgt2 (.func (.func f) first caps)=some (f,first,caps):=rfl
@[simp] theorem qak2 (f:FuncId) (caps:List AV):tgt (.func (.func f) [] caps)=some (f,caps):=rfl
@[simp] theorem qaet {f:FuncId} {as:List AV}:qbe (qai Φ) f as h=
  match mapO (snap qah h) as with
  | some as'=>qdq (anyL (bor qah) as) h (qac Φ f as')
  | none=>none:=qsg Φ f as h
@[simp] theorem qagf (r:AV):qdq false h (some (.val r))=some (.val r,h):=rfl
@[simp] theorem qade (r:AV):qdq true h (some (.val r))=if flat qah r then some (.val r,h) else none:=by
 simp only [qdq,Bool.true_and];cases flat qah r<;>rfl
@[simp] theorem qage (b:Bool) (r:AV):qdq b h (some (.pan r))=if flat qah r then some (.pan r,h) else none:=rfl
attribute [simp] evOp mapO AV.cells part qf7 qi4 idx bnd lenOf bndM bndH bndL qci eqK eqLs qmy
 qch frz qcs anyL qah mapO asInt eszOf
 retV qgi retP qdx
end
section
variable {n:Nat} {H:AH}
@[simp] theorem qaku (cs:List AV):snap (n+1) H (.agg cs)=(mapO (snap n H) cs).map .agg:=by simp only [snap]
@[simp] theorem qak0 (cs:List AV):snap (n+1) H (.tup cs)=(mapO (snap n H) cs).map .tup:=by simp only [snap]
@[simp] theorem qajv (fn:Fn) (a b:List AV):snap (n+1) H (.func fn a b)=match mapO (snap n H) a with
  | none=>none
  | some a'=>(mapO (snap n H) b).map (.func fn a'):=by simp only [snap];rfl
@[simp] theorem qahz (e:Nat) (es:List (List AV)):snap (n+1) H (.Xu e es)=some (.slice e es):=by simp only [snap]
@[simp] theorem qakv (e t:Nat) (es:List (List AV)):snap (n+1) H (.app e es t)=some (.slice e es):=by simp only [snap]
@[simp] theorem qair (e:Nat) (es:List (List AV)):snap (n+1) H (.slice e es)=some (.slice e es):=by simp only [snap]
@[simp] theorem qajw (e i o:Nat) (es:List (List AV)):snap (n+1) H (.iptr e es i o)=some (.iptr e es i o):=by simp only [snap]
@[simp] theorem qaju (b:Bool):snap (n+1) H (.bool b)=some (.bool b):=by simp only [snap]
@[simp] theorem qakw (k:IntKind) (x:Int):snap (n+1) H (.int k x)=some (.int k x):=by simp only [snap]
@[simp] theorem qakz (x:List UInt8):snap (n+1) H (.str x)=some (.str x):=by simp only [snap]
@[simp] theorem qakx (id esz i off:Nat):snap (n+1) H (.ptr id esz i off)=match H.get id with
  | some (.row esz' es)=>if esz'=esz then (mapO (mapO (snap n H)) es).map fun es'=> .iptr esz es' i off else none
  | _=>none:=by simp only [snap];rfl
@[simp] theorem qaky (id esz off len:Nat):snap (n+1) H (.row id esz off len)=match H.get id with
  | some (.row esz' es)=>if esz'=esz/\off+len<=es.length then (mapO (mapO (snap n H)) ((es.drop off).take len)).map (.slice esz) else none
  | _=>none:=by simp only [snap];rfl
@[simp] theorem bor_agg (cs:List AV):bor (n+1) (.agg cs)=anyL (bor n) cs:=by simp only [bor]
@[simp] theorem qaj3 (fn:Fn) (a b:List AV):bor (n+1) (.func fn a b)=(anyL (bor n) a || anyL (bor n) b):=by simp only [bor]
@[simp] theorem bor_ptr (a b c d:Nat):bor (n+1) (.ptr a b c d)=true:=by simp only [bor]
@[simp] theorem bor_row (a b c d:Nat):bor (n+1) (.row a b c d)=true:=by simp only [bor]
@[simp] theorem qah2 (e:Nat) (es:List (List AV)):bor (n+1) (.Xu e es)=false:=by simp only [bor]
@[simp] theorem bor_app (e t:Nat) (es:List (List AV)):bor (n+1) (.app e es t)=false:=by simp only [bor]
@[simp] theorem qaiz (e:Nat) (es:List (List AV)):bor (n+1) (.slice e es)=false:=by simp only [bor]
@[simp] theorem qaj4 (e i o:Nat) (es:List (List AV)):bor (n+1) (.iptr e es i o)=false:=by simp only [bor]
@[simp] theorem qaj2 (b:Bool):bor (n+1) (.bool b)=false:=by simp only [bor]
@[simp] theorem bor_int (k:IntKind) (x:Int):bor (n+1) (.int k x)=false:=by simp only [bor]
@[simp] theorem bor_str (x:List UInt8):bor (n+1) (.str x)=false:=by simp only [bor]
@[simp] theorem qajd (b:Bool):flat (n+1) (.bool b)=true:=by simp only [flat]
@[simp] theorem qakf (k:IntKind) (x:Int):flat (n+1) (.int k x)=true:=by simp only [flat]
end
section lits
variable {k n:Nat}
@[simp] theorem lit_lt:((no_index (@OfNat.ofNat Int k instOfNat))<(n:Int))↔@OfNat.ofNat Nat k (instOfNatNat k)<n:=Int.ofNat_lt
@[simp] theorem lit_le:((no_index (@OfNat.ofNat Int k instOfNat))<=(n:Int))↔@OfNat.ofNat Nat k (instOfNatNat k)<=n:=Int.ofNat_le
@[simp] theorem lt_lit:((n:Int)<(no_index (@OfNat.ofNat Int k instOfNat)))↔n< @OfNat.ofNat Nat k (instOfNatNat k):=Int.ofNat_lt
@[simp] theorem le_lit:((n:Int)<=(no_index (@OfNat.ofNat Int k instOfNat)))↔n<=@OfNat.ofNat Nat k (instOfNatNat k):=Int.ofNat_le
@[simp] theorem eq_lit:((n:Int)=(no_index (@OfNat.ofNat Int k instOfNat)))↔n= @OfNat.ofNat Nat k (instOfNatNat k):=Int.ofNat_inj
end lits
attribute [simp] Int.natCast_inj Int.ofNat_lt Int.ofNat_le
@[simp] theorem bin_add (k:IntKind) (x y:Int):qbp .add (.int k x) (.int k y)=some (.int k (k.wrap (x+y))):=by simp [qbp]
@[simp] theorem bin_sub (k:IntKind) (x y:Int):qbp .sub (.int k x) (.int k y)=some (.int k (k.wrap (x - y))):=by simp [qbp]
@[simp] theorem bin_mul (k:IntKind) (x y:Int):qbp .mul (.int k x) (.int k y)=some (.int k (k.wrap (x*y))):=by simp [qbp]
@[simp] theorem bin_quo (k:IntKind) (x y:Int) (h:y≠0):qbp .quo (.int k x) (.int k y)=some (.int k (k.wrap (x.tdiv y))):=by simp [qbp,h]
@[simp] theorem bin_rem (k:IntKind) (x y:Int) (h:y≠0):qbp .rem (.int k x) (.int k y)=some (.int k (x.tmod y)):=by simp [qbp,h]
@[simp] theorem bin_eql (k:IntKind) (x y:Int):qbp .eql (.int k x) (.int k y)=some (.bool (decide (x=y))):=by
 simp [qbp,QBr]
@[simp] theorem bin_neq (k:IntKind) (x y:Int):qbp .neq (.int k x) (.int k y)=some (.bool (!decide (x=y))):=by
 simp [qbp,QBr,bne]
@[simp] theorem bin_lss (k:IntKind) (x y:Int):qbp .lss (.int k x) (.int k y)=some (.bool (decide (x<y))):=by simp [qbp]
@[simp] theorem bin_leq (k:IntKind) (x y:Int):qbp .leq (.int k x) (.int k y)=some (.bool (decide (x<=y))):=by simp [qbp]
@[simp] theorem bin_gtr (k:IntKind) (x y:Int):qbp .gtr (.int k x) (.int k y)=some (.bool (decide (x>y))):=by simp [qbp]
@[simp] theorem bin_geq (k:IntKind) (x y:Int):qbp .geq (.int k x) (.int k y)=some (.bool (decide (x>=y))):=by simp [qbp]
@[simp] theorem qaj1 (x y:List UInt8):qbp .eql (.str x) (.str y)=some (.bool (decide (x=y))):=by
 simp [qbp,QBr]
def iand (k:IntKind) (x y:Int):Int:=k.wrap (BitVec.ofInt k.bits x&&& BitVec.ofInt k.bits y).toNat
def ixor (k:IntKind) (x y:Int):Int:=k.wrap (BitVec.ofInt k.bits x^^^BitVec.ofInt k.bits y).toNat
def qg9 (k:IntKind) (x y:Int):Int:=k.wrap (BitVec.ofInt k.bits x&&& ~~~BitVec.ofInt k.bits y).toNat
def ishr (k:IntKind) (x y:Int):Int:=x.fdiv (2^(min y.toNat k.bits))
def inot (k:IntKind) (n:Int):Int:=k.wrap (BitVec.ofInt k.bits (if k.signed then -1 else k.max)^^^BitVec.ofInt k.bits n).toNat
@[simp] theorem bin_and (k:IntKind) (x y:Int):qbp .and (.int k x) (.int k y)=some (.int k (iand k x y)):=by simp [qbp,iand]
@[simp] theorem bin_xor (k:IntKind) (x y:Int):qbp .xor (.int k x) (.int k y)=some (.int k (ixor k x y)):=by simp [qbp,ixor]
@[simp] theorem qah1 (k:IntKind) (x y:Int):qbp .andNot (.int k x) (.int k y)=some (.int k (qg9 k x y)):=by simp [qbp,qg9]
@[simp] theorem bin_shr (k k':IntKind) (x y:Int) (h:0<=y):qbp .shr (.int k x) (.int k' y)=some (.int k (ishr k x y)):=by
 have:¬y<0:=by omega
 simp [qbp,ishr,this]
@[simp] theorem un_xor (k:IntKind) (n:Int):unAV .xor (.int k n)=some (.int k (inot k n)):=rfl
@[simp] theorem un_not (b:Bool):unAV .not (.bool b)=some (.bool !b):=rfl
@[simp] theorem un_neg (k:IntKind) (n:Int):unAV .neg (.int k n)=some (.int k (k.wrap (0 - n))):=rfl
theorem qbr {n:Int} (h1: -2^63<=n) (h2:n<2^63):IntKind.wrap .i64 n=n:=by
 have e1:(2:Int)^64=18446744073709551616:=rfl;have e2:(2:Int)^(64 - 1)=9223372036854775808:=rfl;simp only [IntKind.wrap,IntKind.bits,IntKind.signed,Bool.true_and,decide_eq_true_eq,e1,e2];have e3:(2:Int)^63=9223372036854775808:=rfl;rw [e3] at h1 h2;split<;>omega
theorem qao (i:Nat) (h:i<2^62):IntKind.wrap .i64 ((i:Int)+1)=((i+1:Nat):Int):=qbr (by omega) (by omega)
@[simp] theorem qah0 (z:Nat):qa9 z []=true:=rfl
@[simp] theorem qahj (z:Nat) (e:List AV) (es:List (List AV)):qa9 z (e::es)=(e.length == z&&qa9 z es):=by simp [qa9]
@[simp] theorem qa4 {α:Type} (z:Nat) (f:α->List AV) (l:List α) (h:∀x,(f x).length=z):qa9 z (l.map f)=true:=by
 induction l with
 | nil=>rfl
 | cons a l ih=>simp [h,ih]
@[simp] theorem eqKd_b (x y:Bool):eqKd .b (.bool x) (.bool y)=some (decide (x=y)):=by simp [eqKd,QBr]
@[simp] theorem eqKd_i (k:IntKind) (x y:Int):eqKd .i (.int k x) (.int k y)=some (decide (x=y)):=by simp [eqKd,QBr]
section
variable {Φ:FuncId->Option AFun} {β:Type} {fin:Option (Ex×St)->Option β}
variable (Φ fin) in
noncomputable def drG (base : Nat) (pairs : List (Nat × Nat)) (acc : List Foot) (ops : List Xw) (K : List Fr) (s : St) : Option β :=
 match qas (qai Φ) (some base) ops s with
 | some (.normal,s')=>if qgn pairs (acc++feet (qai Φ) (some base) ops s) then go Φ fin K .normal ⟨s'.e,s'.h.sweep⟩ else fin none
 | _=>fin none
variable (Φ fin) in
noncomputable def qer (base : Nat) (pairs : List (Nat × Nat)) (acc : List Foot) (f : Foot) (h0 : AH) (dst : Option Nat) (r : List Xw) (K : List Fr) (e : Env) (o : Option (Rt × AH)) : Option β :=
 match o with
 | some (.val v,h)=>drG Φ fin base pairs (acc++[qdh f h0 h]) r K ⟨putE e dst v,h⟩
 | _=>fin none
variable (Φ fin) in
noncomputable def qg7 (o : Option Bool) (base : Nat) (pairs : List (Nat × Nat)) (acc : List Foot) (dst : Option Nat) (op : AOp) (r : List Xw) (K : List Fr) (e : Env) (h : AH) : Option β :=
 match o with
 | some true=>qer Φ fin base pairs acc (foot e (qaz (some base) dst h) h op) h dst r K e (qae (qai Φ) e (qaz (some base) dst h) h op)
 | some false=>drG Φ fin base pairs (acc++[(some [],.no)]) r K ⟨putE e dst (.tup []),h⟩
 | none=>fin none
variable (Φ fin) in
noncomputable def qpv (b : Bool) (K : List Fr) (e : Env) (h : AH) : Option β := if b then go Φ fin K .normal ⟨e, h.sweep⟩ else fin none
theorem qqi {base:Nat} {pairs:List (Nat×Nat)} {acc acc':List Foot} {f f':Foot} {h0:AH} {dst:Option Nat} {r:List Xw} {K:List Fr} {e:Env} {o o':Option (Rt×AH)} (h1:acc=acc') (h2:f=f') (h3:o=o'):
  qer Φ fin base pairs acc f h0 dst r K e o=qer Φ fin base pairs acc' f' h0 dst r K e o':=by rw [h1,h2,h3]
theorem qpl {ob ob':Option Bool} {base:Nat} {pairs:List (Nat×Nat)} {acc:List Foot} {dst:Option Nat} {op:AOp} {r:List Xw} {K:List Fr} {e:Env} {h:AH} (h1:ob=ob'):
  qg7 Φ fin ob base pairs acc dst op r K e h=qg7 Φ fin ob' base pairs acc dst op r K e h:=by rw [h1]
theorem qr6 {b b':Bool} {K:List Fr} {e:Env} {h:AH} (h1:b=b'):qpv Φ fin b K e h=qpv Φ fin b' K e h:=by rw [h1]
attribute [congr] qqi qpl qr6
@[simp] theorem qah8 {base:Nat} {pairs:List (Nat×Nat)} {acc:List Foot} {f:Foot} {t:Nat} {r:List Xw} {K:List Fr} {e:Env} {v:AV} {h h0:AH}:
  qer Φ fin base pairs acc f h0 (some t) r K e (some (.val v,h))=drG Φ fin base pairs (acc++[qdh f h0 h]) r K ⟨(t,v)::e,h⟩:=rfl
@[simp] theorem qaho {base:Nat} {pairs:List (Nat×Nat)} {acc:List Foot} {f:Foot} {r:List Xw} {K:List Fr} {e:Env} {v:AV} {h h0:AH}:
  qer Φ fin base pairs acc f h0 none r K e (some (.val v,h))=drG Φ fin base pairs (acc++[qdh f h0 h]) r K ⟨e,h⟩:=rfl
@[simp] theorem qqh {base:Nat} {pairs:List (Nat×Nat)} {acc:List Foot} {dst:Option Nat} {op:AOp} {r:List Xw} {K:List Fr} {e:Env} {h:AH}:
  qg7 Φ fin (some true) base pairs acc dst op r K e h=qer Φ fin base pairs acc (foot e (qaz (some base) dst h) h op) h dst r K e (qae (qai Φ) e (qaz (some base) dst h) h op):=rfl
@[simp] theorem qpm {base:Nat} {pairs:List (Nat×Nat)} {acc:List Foot} {dst:Option Nat} {op:AOp} {r:List Xw} {K:List Fr} {e:Env} {h:AH}:
  qg7 Φ fin (some false) base pairs acc dst op r K e h=drG Φ fin base pairs (acc++[(some [],.no)]) r K ⟨putE e dst (.tup []),h⟩:=rfl
@[simp] theorem qah7 {K:List Fr} {e:Env} {h:AH}:qpv Φ fin true K e h=go Φ fin K .normal ⟨e,h.sweep⟩:=rfl
@[simp] theorem drG_nil {base:Nat} {pairs:List (Nat×Nat)} {acc:List Foot} {K:List Fr} {e:Env} {h:AH}:drG Φ fin base pairs acc [] K ⟨e,h⟩=qpv Φ fin (qgn pairs acc) K e h:=by
 simp only [drG,qas,feet,List.append_nil];rfl
theorem qyw {base:Nat} {pairs:List (Nat×Nat)} {acc:List Foot} {o:Xw} {r:List Xw} {K:List Fr} {e:Env} {h:AH}:drG Φ fin base pairs acc (o::r) K ⟨e,h⟩=qg7 Φ fin (qbg e o.guard) base pairs acc o.dst o.op r K e h:=by
 obtain ⟨dst,g,op⟩:=o;have h0:qdh (some [],.no) h h=(some [],.no):=rfl;cases hg:qbg e g with
 | none=>
  unfold drG;simp only [qas,hg];rfl
 | some b=>cases b with
  | false=>
   simp only [drG,qas,feet,qpm,qd6,hg,QBs,QCj,h0]
  | true=>
   unfold drG;simp only [qqh];cases hc:qae (qai Φ) e (qaz (some base) dst h) h op with
   | none=>simp only [qas,feet,hg,hc];rfl
   | some p=>
    obtain ⟨x,h'⟩:=p;cases x with
    | pan v=>simp only [qas,feet,hg,hc];rfl
    | val v=>simp only [qer,drG,qas,feet,qd6,hg,hc,QBs,QCj]
@[simp] theorem qaj9 {base:Nat} {pairs:List (Nat×Nat)} {acc:List Foot} {dst:Option Nat} {op:AOp} {r:List Xw} {K:List Fr} {e:Env} {h:AH}:
  drG Φ fin base pairs acc (⟨dst,none,op⟩::r) K ⟨e,h⟩=qer Φ fin base pairs acc (foot e (qaz (some base) dst h) h op) h dst r K e (qae (qai Φ) e (qaz (some base) dst h) h op):=qyw
variable (Φ fin) in
noncomputable def qe4 (o : Option AV) (w : Bool) (base : Nat) (pairs : List (Nat × Nat)) (acc : List Foot) (dst : Option Nat) (op : AOp) (r : List Xw) (K : List Fr) (e : Env) (h : AH) : Option β :=
 qg7 Φ fin (match o with
  | some (.bool b)=>some (b == w)
  | some (.tup [])=>some false
  | _=>none) base pairs acc dst op r K e h
theorem qn3 {o o':Option AV} {w:Bool} {base:Nat} {pairs:List (Nat×Nat)} {acc:List Foot} {dst:Option Nat} {op:AOp} {r:List Xw} {K:List Fr} {e:Env} {h:AH} (h1:o=o'):
  qe4 Φ fin o w base pairs acc dst op r K e h=qe4 Φ fin o' w base pairs acc dst op r K e h:=by rw [h1]
attribute [congr] qn3
section
variable {base:Nat} {pairs:List (Nat×Nat)} {acc:List Foot} {dst:Option Nat} {op:AOp} {r:List Xw} {K:List Fr} {e:Env} {h:AH}
@[simp] theorem qahn:qe4 Φ fin (some (.bool true)) true base pairs acc dst op r K e h=qer Φ fin base pairs acc (foot e (qaz (some base) dst h) h op) h dst r K e (qae (qai Φ) e (qaz (some base) dst h) h op):=rfl
@[simp] theorem qahk:qe4 Φ fin (some (.bool false)) false base pairs acc dst op r K e h=qer Φ fin base pairs acc (foot e (qaz (some base) dst h) h op) h dst r K e (qae (qai Φ) e (qaz (some base) dst h) h op):=rfl
@[simp] theorem qahm:qe4 Φ fin (some (.bool true)) false base pairs acc dst op r K e h=drG Φ fin base pairs (acc++[(some [],.no)]) r K ⟨putE e dst (.tup []),h⟩:=rfl
@[simp] theorem qahl:qe4 Φ fin (some (.bool false)) true base pairs acc dst op r K e h=drG Φ fin base pairs (acc++[(some [],.no)]) r K ⟨putE e dst (.tup []),h⟩:=rfl
@[simp] theorem qafd (w:Bool):qe4 Φ fin (some (.tup [])) w base pairs acc dst op r K e h=drG Φ fin base pairs (acc++[(some [],.no)]) r K ⟨putE e dst (.tup []),h⟩:=rfl
end
@[simp] theorem qy6 {d:Bool} {p:Nat×Nat} {ps:List (Nat×Nat)} {ops:List Xw} {o:Option (List Nat)} {K:List Fr} {e:Env} {h:AH} (hd:qhz (qc6 ops)=true):
  go Φ fin (.c (.region d (p::ps) ops o)::K) .normal ⟨e,h⟩=drG Φ fin h.next (p::ps) [] ops (frK o K) ⟨e,h.resv (qc6 ops)⟩:=by
 rw [go_c,qr2];simp only [hd,Bool.true_and];unfold drG;simp only [QBg];by_cases hf:qgn (p::ps) (feet (qai Φ) (some h.next) ops ⟨e,h.resv (qc6 ops)⟩)=true
 ·simp only [hf,if_true];cases qas (qai Φ) (some h.next) ops ⟨e,h.resv (qc6 ops)⟩ with
  | none=>rfl
  | some q=>
   obtain ⟨ex,s'⟩:=q;cases ex<;>simp [qwq]
 ·simp only [hf];cases qas (qai Φ) (some h.next) ops ⟨e,h.resv (qc6 ops)⟩ with
  | none=>rfl
  | some q=>
   obtain ⟨ex,s'⟩:=q;cases ex<;>simp
@[simp] theorem qaip {base:Option Nat} {h:AH}:qaz base none h=h.next:=by cases base<;>rfl
@[simp] theorem qaiq {base d:Nat} {h:AH}:qaz (some base) (some d) h=match h.get (base+d) with
  | some .res=>base+d
  | _=>h.next:=rfl
@[simp] theorem qail (l:List Nat) (w:Wr) (h h':AH):qdh (some l,w) h h'=(some l,w):=by simp [qdh]
@[simp] theorem qaje (h h':AH):qdh (none,.any) h h'=(none,.chg h h'):=by simp [qdh]
attribute [simp] qiw qhp quk Wr.isNo qc6 AOp.makes qhz qb2 foot qg8 qn6 qf4 qja qgn Foot.compat Wr.off
variable (Φ fin) in
noncomputable def frzB (t : Nat) (ks : List Nat) (K : List Fr) (e : Env) (H : AH) (id z i off : Nat) (b : Bool) (o : Option (List (List AV))) : Option β := match b, o with
 | false,some es'=>go Φ fin (.f ks::K) .normal ⟨(t,.iptr z es' i off)::e,H.kill id⟩
 | _,_=>go Φ fin (.f ks::K) .normal ⟨e,H⟩
variable (Φ fin) in
noncomputable def frzR (t : Nat) (ks : List Nat) (K : List Fr) (e : Env) (H : AH) (id : Nat) (o : Option AV) : Option β := match o with
 | some y=>go Φ fin (.f ks::K) .normal ⟨(t,y)::e,H.kill id⟩
 | none=>go Φ fin (.f ks::K) .normal ⟨e,H⟩
variable (Φ fin) in
noncomputable def frzV (t : Nat) (ks : List Nat) (K : List Fr) (e : Env) (H : AH) (v : Option AV) : Option β := match v with
 | some (.ptr id z i off)=>frzG Φ fin t ks K e H id z i off (H.get id)
 | some (.row id z off len)=>frzR Φ fin t ks K e H id (qfq H id z off len)
 | _=>go Φ fin (.f ks::K) .normal ⟨e,H⟩
theorem qul {t:Nat} {ks:List Nat} {K:List Fr} {e:Env} {H:AH} {id z i off:Nat} {b b':Bool} {o o':Option (List (List AV))} (h1:b=b') (h2:o=o'):frzB Φ fin t ks K e H id z i off b o=frzB Φ fin t ks K e H id z i off b' o':=by rw [h1,h2]
theorem qup {t:Nat} {ks:List Nat} {K:List Fr} {e:Env} {H:AH} {o o':Option AV} (h2:o=o'):frzV Φ fin t ks K e H o=frzV Φ fin t ks K e H o':=by rw [h2]
theorem qum {t:Nat} {ks:List Nat} {K:List Fr} {e:Env} {H:AH} {id z i off:Nat} {o o':Option AO} (h2:o=o'):frzG Φ fin t ks K e H id z i off o=frzG Φ fin t ks K e H id z i off o':=by rw [h2]
theorem qun {t:Nat} {ks:List Nat} {K:List Fr} {e:Env} {H:AH} {id:Nat} {o o':Option AV} (h2:o=o'):frzR Φ fin t ks K e H id o=frzR Φ fin t ks K e H id o':=by rw [h2]
attribute [congr] qul qup qum qun
@[simp] theorem go_frzV {t:Nat} {ks:List Nat} {K:List Fr} {e:Env} {H:AH}:go Φ fin (.f (t::ks)::K) .normal ⟨e,H⟩=frzV Φ fin t ks K e H (look t e):=by
 cases hl:look t e with
 | none=>rw [qm5];simp only [frzP,hl,frzV]
 | some v=>
  cases v with
  | ptr id z i off=>rw [qacg hl];rfl
  | row id z off len=>
   rw [qm5];simp only [frzP,hl,frzV];cases qfq H id z off len<;>rfl
  | _=>rw [qm5];simp only [frzP,hl,frzV]
@[simp] theorem qakj {t:Nat} {ks:List Nat} {K:List Fr} {e:Env} {H:AH} {id z i off:Nat}:frzV Φ fin t ks K e H (some (.ptr id z i off))=frzG Φ fin t ks K e H id z i off (H.get id):=rfl
@[simp] theorem qakk {t:Nat} {ks:List Nat} {K:List Fr} {e:Env} {H:AH} {id z off len:Nat}:frzV Φ fin t ks K e H (some (.row id z off len))=frzR Φ fin t ks K e H id (qfq H id z off len):=rfl
@[simp] theorem qajf {t:Nat} {ks:List Nat} {K:List Fr} {e:Env} {H:AH} {id:Nat} {y:AV}:frzR Φ fin t ks K e H id (some y)=go Φ fin (.f ks::K) .normal ⟨(t,y)::e,H.kill id⟩:=rfl
@[simp] theorem qaki {t:Nat} {ks:List Nat} {K:List Fr} {e:Env} {H:AH} {id z i off:Nat} {es:List (List AV)}:frzG Φ fin t ks K e H id z i off (some (.row z es))=frzB Φ fin t ks K e H id z i off (anyL (bor qah) es.flatten) (mapO (mapO (snap qah H)) es):=by
 simp only [frzG,true_and];cases anyL (bor qah) es.flatten<;>cases mapO (mapO (snap qah H)) es<;>simp [frzB]
@[simp] theorem frzB_ok {t:Nat} {ks:List Nat} {K:List Fr} {e:Env} {H:AH} {id z i off:Nat} {es':List (List AV)}:frzB Φ fin t ks K e H id z i off false (some es')=go Φ fin (.f ks::K) .normal ⟨(t,.iptr z es' i off)::e,H.kill id⟩:=rfl
theorem qzi {σ:Type} (m:σ->Nat) (Inv:σ->Env->AH->Prop) (R:σ->Option β) {b:Xv} {K:List Fr}
  (step:∀x e h L,(∀j s,go Φ fin L (.exit j) s=go Φ fin K (.exit j) s)->Inv x e h->(∀y e' h',m y<m x->Inv y e' h'->go Φ fin L .normal ⟨e',h'⟩=R y)->go Φ fin (.c b::L) .normal ⟨e,h⟩=R x):
  ∀x e h,Inv x e h->go Φ fin (.c (.loop b)::K) .normal ⟨e,h⟩=R x:=by
 have key:∀n x e h,m x<=n->Inv x e h->go Φ fin (.c (.loop b)::K) .normal ⟨e,h⟩=R x:=by
  intro n
  induction n with
  | zero=>
   intro x e h hn hi;rw [qa3];exact step x e h _ (fun j s=>by simp) hi fun y e' h' hlt=>by omega
  | succ n ih=>
   intro x e h hn hi;rw [qa3];exact step x e h _ (fun j s=>by simp) hi fun y e' h' hlt hy=>ih y e' h' (by omega) hy
 intro x e h hi;exact key _ x e h (Qb _) hi
theorem qe7 (N:Nat) (Inv:Nat->Env->AH->Prop) (R:Nat->Option β) {b:Xv} {K:List Fr}
  (step:∀i e h L,i<N->(∀j s,go Φ fin L (.exit j) s=go Φ fin K (.exit j) s)->Inv i e h->(∀e' h',Inv (i+1) e' h'->go Φ fin L .normal ⟨e',h'⟩=R (i+1))->go Φ fin (.c b::L) .normal ⟨e,h⟩=R i)
  (last:∀e h L,(∀j s,go Φ fin L (.exit j) s=go Φ fin K (.exit j) s)->Inv N e h->go Φ fin (.c b::L) .normal ⟨e,h⟩=R N):
  ∀i e h,i<=N->Inv i e h->go Φ fin (.c (.loop b)::K) .normal ⟨e,h⟩=R i:=by
 intro i e h hi hinv;refine qzi (σ:={ i:Nat // i<=N }) (fun x=>N - x.1) (fun x=>Inv x.1) (fun x=>R x.1) ?_ ⟨i,hi⟩ e h hinv;intro ⟨i,hi⟩ e h L hL hinv ih;rcases Nat.lt_or_eq_of_le hi with hlt | heq
 ·exact step i e h L hlt hL hinv fun e' h' hi'=>ih ⟨i+1,hlt⟩ e' h' (by simp;omega) hi'
 ·subst heq;exact last e h L hL hinv
theorem qby {h:AH} (N:Nat) (Inv:Nat->Env->Prop) (R:Nat->Option β) {b:Xv} {K:List Fr}
  (step:∀i e L,i<N->(∀j s,go Φ fin L (.exit j) s=go Φ fin K (.exit j) s)->Inv i e->(∀e',Inv (i+1) e'->go Φ fin L .normal ⟨e',h⟩=R (i+1))->go Φ fin (.c b::L) .normal ⟨e,h⟩=R i)
  (last:∀e L,(∀j s,go Φ fin L (.exit j) s=go Φ fin K (.exit j) s)->Inv N e->go Φ fin (.c b::L) .normal ⟨e,h⟩=R N):
  ∀i e,i<=N->Inv i e->go Φ fin (.c (.loop b)::K) .normal ⟨e,h⟩=R i:=by
 intro i e hi hinv;refine qe7 N (fun i e h'=>h'=h/\Inv i e) R ?_ ?_ i e h hi ⟨rfl,hinv⟩
 ·rintro i e _ L hi hL ⟨rfl,hinv⟩ ih;exact step i e L hi hL hinv fun e' he'=>ih e' _ ⟨rfl,he'⟩
 ·rintro e _ L hL ⟨rfl,hinv⟩;exact last e L hL hinv
theorem qay (N:Nat) (O:Nat->List (Nat×AO)) (k:Nat) (Inv:Nat->Env->Prop) (R:Nat->Option β) {b:Xv} {K:List Fr}
  (step:∀i e n L,i<N->(∀j s,go Φ fin L (.exit j) s=go Φ fin K (.exit j) s)->k<=n->Inv i e->(∀e' n',k<=n'->Inv (i+1) e'->go Φ fin L .normal ⟨e',⟨O (i+1),n'⟩⟩=R (i+1))->go Φ fin (.c b::L) .normal ⟨e,⟨O i,n⟩⟩=R i)
  (last:∀e n L,(∀j s,go Φ fin L (.exit j) s=go Φ fin K (.exit j) s)->k<=n->Inv N e->go Φ fin (.c b::L) .normal ⟨e,⟨O N,n⟩⟩=R N):
  ∀i e n,i<=N->k<=n->Inv i e->go Φ fin (.c (.loop b)::K) .normal ⟨e,⟨O i,n⟩⟩=R i:=by
 intro i e n hi hn hinv;refine qe7 N (fun i e h=>∃n,k<=n/\h=⟨O i,n⟩/\Inv i e) R ?_ ?_ i e _ hi ⟨n,hn,rfl,hinv⟩
 ·rintro i e _ L hi hL ⟨n,hn,rfl,hinv⟩ ih;exact step i e n L hi hL hn hinv fun e' n' hn' he'=>ih e' _ ⟨n',hn',rfl,he'⟩
 ·rintro e _ L hL ⟨n,hn,rfl,hinv⟩;exact last e n L hL hn hinv
theorem qhm {α:Type} (l:List α) (bad:α->Bool) (Rb Re:Option β) (Inv:Nat->Env->AH->Prop) {b:Xv} {K:List Fr}
  (hit:∀i e h L (hi:i<l.length),(∀j s,go Φ fin L (.exit j) s=go Φ fin K (.exit j) s)->Inv i e h->bad l[i]=true->go Φ fin (.c b::L) .normal ⟨e,h⟩=Rb)
  (miss:∀i e h L X (hi:i<l.length),(∀j s,go Φ fin L (.exit j) s=go Φ fin K (.exit j) s)->Inv i e h->bad l[i]=false->(∀e' h',Inv (i+1) e' h'->go Φ fin L .normal ⟨e',h'⟩=X)->go Φ fin (.c b::L) .normal ⟨e,h⟩=X)
  (last:∀e h L,(∀j s,go Φ fin L (.exit j) s=go Φ fin K (.exit j) s)->Inv l.length e h->go Φ fin (.c b::L) .normal ⟨e,h⟩=Re):
  ∀e h,Inv 0 e h->go Φ fin (.c (.loop b)::K) .normal ⟨e,h⟩=if l.any bad then Rb else Re:=by
 intro e h h0;refine (qe7 l.length Inv (fun i=>if (l.drop i).any bad then Rb else Re) ?_ ?_ 0 e h (Qc _) h0).trans (by simp)
 ·intro i e h L hi hL hinv ih;cases hb:bad l[i] with
  | true=>
   rw [hit i e h L hi hL hinv hb,Qi hi,QBb,hb,QCi,QAa rfl]
  | false=>
   refine miss i e h L _ hi hL hinv hb fun e' h' he'=>?_
   rw [ih e' h' he',Qi hi,QBb,hb,QBc]
 ·intro e h L hL hinv;rw [last e h L hL hinv];simp
theorem qzh {α:Type} (l:List α) (bad:α->Bool) (hany:l.any bad=true) (Rb:Option β) (Inv:Nat->Env->AH->Prop) {b:Xv} {K:List Fr}
  (hit:∀i e h L (hi:i<l.length),(∀j s,go Φ fin L (.exit j) s=go Φ fin K (.exit j) s)->Inv i e h->bad l[i]=true->go Φ fin (.c b::L) .normal ⟨e,h⟩=Rb)
  (miss:∀i e h L (hi:i<l.length),(∀j s,go Φ fin L (.exit j) s=go Φ fin K (.exit j) s)->Inv i e h->bad l[i]=false->(∀e' h',Inv (i+1) e' h'->go Φ fin L .normal ⟨e',h'⟩=Rb)->go Φ fin (.c b::L) .normal ⟨e,h⟩=Rb):
  ∀e h,Inv 0 e h->go Φ fin (.c (.loop b)::K) .normal ⟨e,h⟩=Rb:=by
 intro e h h0;refine qe7 l.length (fun i e h=>Inv i e h/\(l.drop i).any bad=true) (fun i=>Rb) ?_ ?_ 0 e h (Qc _) ⟨h0,by simpa using hany⟩
 ·rintro i e h L hi hL ⟨hinv,ha⟩ ih;cases hb:bad l[i] with
  | true=>exact hit i e h L hi hL hinv hb
  | false=>
   refine miss i e h L hi hL hinv hb fun e' h' he'=>ih e' h' ⟨he',?_⟩
   rw [Qi hi,QBb,hb,QBc] at ha;exact ha
 ·rintro e h L hL ⟨hinv,ha⟩;simp at ha
theorem qw3 {α:Type} (l:List α) (bad:α->Bool) (hany:l.any bad=false) (X:Option β) (Inv:Nat->Env->AH->Prop) {b:Xv} {K:List Fr}
  (miss:∀i e h L (hi:i<l.length),(∀j s,go Φ fin L (.exit j) s=go Φ fin K (.exit j) s)->Inv i e h->bad l[i]=false->(∀e' h',Inv (i+1) e' h'->go Φ fin L .normal ⟨e',h'⟩=X)->go Φ fin (.c b::L) .normal ⟨e,h⟩=X)
  (last:∀e h L,(∀j s,go Φ fin L (.exit j) s=go Φ fin K (.exit j) s)->Inv l.length e h->go Φ fin (.c b::L) .normal ⟨e,h⟩=X):
  ∀e h,Inv 0 e h->go Φ fin (.c (.loop b)::K) .normal ⟨e,h⟩=X:=by
 intro e h h0;refine qe7 l.length Inv (fun i=>X) ?_ last 0 e h (Qc _) h0;rintro i e h L hi hL hinv ih;refine miss i e h L hi hL hinv ?_ ih;have:=List.any_eq_false.1 hany l[i] (Qd hi);simpa using this
end
def HP (pre:List (Nat×AO)) (k:Nat) (h:AH):Prop:=∃T n,Tail T (n+k)/\h=⟨pre++T,n+k⟩
theorem HP.mk {pre:List (Nat×AO)} {k:Nat}:HP pre k ⟨pre,k⟩:=⟨[],0,fun _ _=>rfl,by simp⟩
theorem HP.next {pre T:List (Nat×AO)} {k n:Nat} {o:AO} (hT:Tail T (n+k)):HP pre k ⟨pre++(T++[(n+k,o)]),n+k+1⟩:=⟨T++[(n+k,o)],n+1,by
 have:=hT.app o
 rwa [show n+1+k=n+k+1 by omega],by rw [show n+1+k=n+k+1 by omega]⟩
theorem HP.same {pre T:List (Nat×AO)} {k n:Nat} (hT:Tail T (n+k)):HP pre k ⟨pre++T,n+k⟩:=⟨T,n,hT,rfl⟩
def HF (mk:List (Nat×AO)->List (Nat×AO)) (k:Nat) (h:AH):Prop:=∃T n,Tail T (n+k)/\h=⟨mk T,n+k⟩
theorem HF.mk {mk:List (Nat×AO)->List (Nat×AO)} {k:Nat}:HF mk k ⟨mk [],k⟩:=⟨[],0,fun _ _=>rfl,by simp⟩
theorem HF.next {mk:List (Nat×AO)->List (Nat×AO)} {T:List (Nat×AO)} {k n:Nat} {o:AO} (hT:Tail T (n+k)):HF mk k ⟨mk (T++[(n+k,o)]),n+k+1⟩:=⟨T++[(n+k,o)],n+1,by
 have:=hT.app o
 rwa [show n+1+k=n+k+1 by omega],by rw [show n+1+k=n+k+1 by omega]⟩
theorem HF.same {mk:List (Nat×AO)->List (Nat×AO)} {T:List (Nat×AO)} {k n:Nat} (hT:Tail T (n+k)):HF mk k ⟨mk T,n+k⟩:=⟨T,n,hT,rfl⟩
theorem Tail.two {T T2:List (Nat×AO)} {n m:Nat} {x:AO} (hT:Tail T n) (hT2:Tail T2 m) (h:n+1<=m):Tail (T++(n,x)::T2) m:=by
 intro j hj;rw [qdw,hT j (by omega),Option.none_or];simp only [look];rw [QA (by omega)];exact hT2 j hj
def qa8 {α:Type} (l:List α) (p:α->Bool) (i:Nat):Bool:=(l.drop i).any p
theorem qk1 {α:Type} {l:List α} {p:α->Bool} {i:Nat} (hi:i<l.length) (h:p l[i]=true):qa8 l p i=true:=by
 unfold qa8;rw [Qi hi,QBb,h,QCi]
theorem qhh {α:Type} {l:List α} {p:α->Bool} {i:Nat} (hi:i<l.length) (h:p l[i]=false):qa8 l p i=qa8 l p (i+1):=by
 unfold qa8;rw [Qi hi,QBb,h,QBc]
theorem qii {α:Type} {l:List α} {p:α->Bool}:qa8 l p l.length=false:=by simp [qa8]
theorem qp6 {α:Type} {l:List α} {p:α->Bool}:qa8 l p 0=l.any p:=by simp [qa8]
theorem qa7 {α β:Type} {f:α->β} {l:List α} {i:Nat} (h:i<l.length):(l.map f).take (i+1)=(l.map f).take i++[f l[i]]:=by
 rw [Qh (by simpa using h)];simp
theorem qls {α:Type} {l m:List α} {i:Nat} (h1:i<l.length) (h2:i<m.length):l.drop i=m.drop i↔l[i]=m[i]/\l.drop (i+1)=m.drop (i+1):=by
 rw [Qi h1,Qi h2,List.cons.injEq]
end Go.Av

/-
 From a row's reading of the arguments to abstract values, and back to the row's post.
-/
namespace Go.Av
open Go.ChangeShapes Go.WideShapes Go.ChangeAt Go.RowKit
structure BulkFn (H:Type) where
 one:DataW H->Nat
 all:List (DataW H)->Nat
 nil:all []=0
 cons:∀d r,all (d::r)=one d+all r
 slice:∀e s,one (.slice e s)=all e+all s+1
 agg:∀e,one (.agg e)=all e+1
 str:∀b,one (.lit (.string b))=b.length+1
 pos:∀d,1<=one d
theorem BulkFn.len {H:Type} (bk:BulkFn H):∀l,l.length<=bk.all l
 | []=>by simp
 | d::r=>by have:=bk.len r;have:=bk.pos d;rw [bk.cons];simp;omega
theorem BulkFn.mem {H:Type} (bk:BulkFn H):∀{l d},d∈l->bk.one d<=bk.all l
 | e::r,d,h=>by
  rw [bk.cons];rcases QAg.1 h with rfl | h
  ·omega
  ·have:=bk.mem h;omega
def qgp (P:Program):List Field->Nat->Nat->Bool
 | [],off,sz=>off == sz
 | f::r,off,sz=>f.offset == off&&qgp P r (off+P.cellsOf f.type) sz
def qgq (P:Program) (ts:List TypeId):Bool:=ts.all fun t=>match P.underlying t with
  | some .bool | some (.int _) | some .string=>true
  | some (.slice e)=>qb2 e ts&&P.cellsOf e != 0
  | some (.struct fs)=>fs.toList.all (fun f=>qb2 f.type ts)&&qgp P fs.toList 0 (P.cellsOf t)
  | some (.array k e)=>qb2 e ts&&P.cellsOf t == k*P.cellsOf e
  | _=>false
inductive WT (P:Program) (B:Nat):TypeId->List AV->Prop where
 | bool {t:TypeId} (b:Bool) (h:P.underlying t=some .bool):WT P B t [.bool b]
 | int {t:TypeId} (k:IntKind) (v:Int) (h:P.underlying t=some (.int k)) (h1:k.min<=v) (h2:v<=k.max):WT P B t [.int k v]
 | str {t:TypeId} (s:List UInt8) (h:P.underlying t=some .string) (h1:s.length<=B):WT P B t [.str s]
 | slice {t e:TypeId} (es:List (List AV)) (h:P.underlying t=some (.slice e)) (h1:es.length<=B) (h2:∀x∈es,WT P B e x):WT P B t [.slice (P.cellsOf e) es]
 | struct {t:TypeId} (fs:Array Field) (xss:List (List AV)) (h:P.underlying t=some (.struct fs)) (h1:xss.length=fs.size)
   (h2:∀(i:Nat) f x,fs[i]? =some f->xss[i]? =some x->WT P B f.type x):WT P B t xss.flatten
 | array {t e:TypeId} (k:Nat) (xss:List (List AV)) (h:P.underlying t=some (.array k e)) (h1:xss.length=k) (h2:∀x∈xss,WT P B e x):WT P B t xss.flatten
def qdi (P:Program) (t:TypeId):Bool:=match P.underlying t with
 | some (.struct _) | some (.array _ _)=>true
 | _=>false
def WTV (P:Program) (B:Nat) (t:TypeId) (v:AV):Prop:=
 if qdi P t then ∃xs,v= .agg xs/\WT P B t xs else WT P B t [v]
section
variable {H:Type} {enc:TypeId×Value->H} {P:Program} {w:World} {base:Nat} {spare:Nat->Bool} {held:Bool} {imm:Nat->Nat->Prop} {B:Nat}
def Cells (w:World) (imm:Nat->Nat->Prop) (xs:List AV) (cs:List Value):Prop:=
 xs.length=cs.length/\∀(i:Nat) x v,xs[i]? =some x->cs[i]? =some v->VRD w imm x v/\v.oneCell'=true
theorem Cells.append {xs ys:List AV} {cs ds:List Value} (h:Cells w imm xs cs) (k:Cells w imm ys ds):Cells w imm (xs++ys) (cs++ds):=by
 refine ⟨by simp [h.1,k.1],?_⟩;intro i x v hx hv;by_cases hi:i<xs.length
 ·rw [Ql hi] at hx;rw [Ql (by rw [<- h.1];exact hi)] at hv;exact h.2 i x v hx hv
 ·rw [Qp (by omega)] at hx;rw [Qp (by rw [<- h.1];omega)] at hv;rw [<- h.1] at hv;exact k.2 _ x v hx hv
theorem Cells.one {x:AV} {v:Value} (h:VRD w imm x v) (h1:v.oneCell'=true):Cells w imm [x] [v]:=by
 refine ⟨rfl,?_⟩;intro i y u hy hu;cases i with
 | zero=>simp at hy hu;subst hy;subst hu;exact ⟨h,h1⟩
 | succ i=>simp at hy
theorem qif {α:Type} {n:Nat} {p:Nat->α->Prop} (h:∀i,i<n->∃a,p i a):∃l:List α,l.length=n/\∀i a,l[i]? =some a->p i a:=by
 induction n with
 | zero=>exact ⟨[],rfl,fun i a h=>by simp at h⟩
 | succ n ih=>
  obtain ⟨l,hl,hp⟩:=ih (fun i hi=>h i (by omega));obtain ⟨a,ha⟩:=h n (by omega);refine ⟨l++[a],by simp [hl],?_⟩;intro i b hb;by_cases hi:i<l.length
  ·rw [Ql hi] at hb;exact hp i b hb
  ·rw [Qp (by omega)] at hb;have:i - l.length=0:=by
    rcases Qw (i - l.length) with h0 | h0
    ·exact h0
    ·rw [Qk (by simp;omega)] at hb;cases hb
   rw [this] at hb;simp at hb;subst hb;have:i=n:=by omega
   subst this;exact ha
theorem qj3 {a:Addr} {n:Nat} {l:List Value} (h:w.cells? base a n=some l):l.length=n/\∀i v,l[i]? =some v->w.cell? (a.add i)=some v:=by
 unfold World.cells? at h;split at h
 ·have hl:=mapM_some_length h;refine ⟨by simpa using hl,?_⟩;intro i v hv;have hi:i<n:=by
   have:=(Qm.1 hv).1;rw [hl] at this;simpa using this
  have:=mapM_some_get h i i (by simp [hi]);rw [this,hv]
 ·cases h
theorem qrq {fs:List Field}:∀{off sz:Nat} {cs:List Value} {xss:List (List AV)},qgp P fs off sz=true->cs.length=sz->
  xss.length=fs.length->(∀(i:Nat) f x,fs[i]? =some f->xss[i]? =some x->Cells w imm x ((cs.drop f.offset).take (P.cellsOf f.type))/\x.length=P.cellsOf f.type)->
  Cells w imm xss.flatten (cs.drop off):=by
 induction fs with
 | nil=>
  intro off sz cs xss ho hc hl h;have:xss=[]:=QCf.1 (by simpa using hl);subst this;simp only [qgp,beq_iff_eq] at ho;have:cs.drop off=[]:=by simp;omega
  rw [this];exact ⟨rfl,fun i x v hx=>by simp at hx⟩
 | cons f r ih=>
  intro off sz cs xss ho hc hl h;simp only [qgp,Bool.and_eq_true,beq_iff_eq] at ho;obtain ⟨ho1,ho2⟩:=ho;cases xss with
  | nil=>simp at hl
  | cons x xss=>
   obtain ⟨h1,h2⟩:=h 0 f x rfl rfl;rw [ho1] at h1;have hr:=ih (cs:=cs) (xss:=xss) ho2 hc (by simpa using hl) (fun i g y hg hy=>h (i+1) g y (by simpa using hg) (by simpa using hy));rw [List.flatten_cons];have e:cs.drop off=(cs.drop off).take (P.cellsOf f.type)++cs.drop (off+P.cellsOf f.type):=by
    rw [<- QBu,List.take_append_drop]
   rw [e];exact h1.append hr
theorem qlp {z:Nat} {cs:List Value}:∀{xss:List (List AV)} {k:Nat},cs.length=(k+xss.length)*z->
  (∀(i:Nat) x,xss[i]? =some x->Cells w imm x ((cs.drop ((k+i)*z)).take z)/\x.length=z)->Cells w imm xss.flatten (cs.drop (k*z))
 | [],k,hc,h=>by
  have:cs.drop (k*z)=[]:=by simp at hc ⊢;omega
  rw [this];exact ⟨rfl,fun i x v hx=>by simp at hx⟩
 | x::xss,k,hc,h=>by
  obtain ⟨h1,h2⟩:=h 0 x rfl;have hr:=qlp (cs:=cs) (xss:=xss) (k:=k+1) (by simp at hc ⊢;rw [hc];congr 1;omega) (fun i y hy=>by
   have:=h (i+1) y (by simpa using hy)
   rwa [show k+(i+1)=k+1+i by omega] at this)
  rw [List.flatten_cons];have e:cs.drop (k*z)=(cs.drop (k*z)).take z++cs.drop ((k+1)*z):=by
   rw [show (k+1)*z=k*z+z by rw [QAh];omega,<- QBu,List.take_append_drop]
  rw [e];exact Cells.append (by simpa using h1) hr
theorem qvi (bk:BulkFn H) {ts:List TypeId} (hts:qgq P ts=true) (himm:∀b i,imm b i):∀(fuel:Nat) (t:TypeId) (cs:List Value) (d:DataW H) (ps:List MemPlace),
  t∈ts->DataW.trod enc P w base spare held fuel t cs=some (d,ps)->bk.one d<=B->∃xs,WT P B t xs/\Cells w imm xs cs:=by
 intro fuel
 induction fuel with
 | zero=>intro t cs d ps _ h;simp [DataW.trod] at h
 | succ fuel ih=>
  intro t cs d ps ht h hb;have hp:=hts;simp only [qgq,Qr] at hp;have hp:=hp t ht;split at hp
  ·rename_i hu;obtain ⟨b,rfl,hx⟩:=DataW.trod_bool hu h;exact ⟨[.bool b],.bool b hu,.one (.bool b) rfl⟩
  ·rename_i k hu;obtain ⟨n,rfl,hx,hw⟩:=DataW.trod_int hu h;simp only [Lit.wf,Bool.and_eq_true,decide_eq_true_eq] at hw;exact ⟨[.int k n],.int k n hu hw.1 hw.2,.one (.int k n) rfl⟩
  ·rename_i hu;obtain ⟨s,rfl,hx,hw⟩:=DataW.trod_string hu h;simp only [Prod.mk.injEq] at hx;obtain ⟨rfl,rfl⟩:=hx;rw [bk.str] at hb;refine ⟨[.str s.data.toList],.str _ hu (by omega),.one ?_ rfl⟩;have:=VRD.str (w:=w) (imm:=imm) s.data.toList;simpa using this
  ·rename_i e hu;simp only [Bool.and_eq_true,memNat_iff,bne_iff_ne,ne_eq] at hp;obtain ⟨hpe,hz⟩:=hp;rcases DataW.trod_slice hu h with ⟨rfl,hx⟩ | ⟨a,len,cap,elems,rest,n,hn,rfl,hx,h1,h2,h3,h4,h5,h6,h7⟩
   ·exact ⟨[.slice (P.cellsOf e) []],.slice [] hu (by simp) (by simp),.one (.slice0 _ _ _) rfl⟩
   ·cases hn;simp only [Prod.mk.injEq] at hx;obtain ⟨rfl,rfl⟩:=hx;rw [bk.slice] at hb;have hlen:=bk.len (elems.map (·.1));simp only [QAb] at hlen;have hex:∀i,i<len->∃p:List AV×List Value,WT P B e p.1/\Cells w imm p.1 p.2/\w.cells? base (a.add (i*P.cellsOf e)) (P.cellsOf e)=some p.2:=by
     intro i hi;have hh:=h5 i hi;have hi':i<elems.length:=by omega
     rw [Qa hi'] at hh;obtain ⟨l,hl1,hl2⟩:=Qt.1 hh;have hm:bk.one (elems[i]).1<=bk.all (elems.map (·.1)):=bk.mem (QAt.2 ⟨_,Qd hi',rfl⟩);obtain ⟨xs,k1,k2⟩:=ih e l (elems[i]).1 (elems[i]).2 hpe hl2 (by omega);exact ⟨(xs,l),k1,k2,hl1⟩
    obtain ⟨L,hL,hL2⟩:=qif hex;refine ⟨[.slice (P.cellsOf e) (L.map (·.1))],.slice _ hu (by simp;omega) ?_,.one ?_ rfl⟩
    ·intro x hx;obtain ⟨p,hp1,rfl⟩:=QAt.1 hx;obtain ⟨i,hi,hpi⟩:=QCn hp1;exact (hL2 i p (by rw [<- hpi];exact Qa hi)).1
    ·by_cases h0:len=0
     ·have:L=[]:=QCf.1 (by omega);subst this;subst h0;exact .slice0 _ _ _
     ·obtain ⟨p0,hp0⟩:∃p,L[0]? =some p:=⟨_,Qa (by omega)⟩;obtain ⟨_,q2,q3⟩:=hL2 0 p0 hp0;obtain ⟨g1,g2⟩:=qj3 q3;have hspot:a.spot=none:=by
       obtain ⟨v,hv⟩:∃v,p0.2[0]? =some v:=⟨_,Qa (by omega)⟩;have:=g2 0 v hv;simp only [Nat.zero_mul,Addr.add,if_true] at this;unfold World.cell? at this;split at this
       ·split at this
        ·cases this
        ·rename_i hs;simpa using hs
       ·cases this
      obtain ⟨blk,off,sp⟩:=a;simp only at hspot;subst hspot;have hget:∀(i j:Nat) e' x,(L.map (·.1))[i]? =some e'->e'[j]? =some x->∃v,w.cell? ⟨blk,off+i*P.cellsOf e+j,none⟩=some v/\v.oneCell'=true/\VRD w imm x v:=by
       intro i j e' x he hx;simp only [List.getElem?_map,Qs] at he;obtain ⟨p,hp,rfl⟩:=he;obtain ⟨_,r2,r3⟩:=hL2 i p hp;obtain ⟨s1,s2⟩:=qj3 r3;have hj:j<p.1.length:=(Qm.1 hx).1;obtain ⟨v,hv⟩:∃v,p.2[j]? =some v:=⟨_,Qa (by rw [<- r2.1];exact hj)⟩;obtain ⟨t1,t2⟩:=r2.2 j x v hx hv;have:=s2 j v hv;have e1:((⟨blk,off,none⟩:Addr).add (i*P.cellsOf e)).add j=⟨blk,off+i*P.cellsOf e+j,none⟩:=by
        simp only [Addr.add];split<;>split<;>simp_all
       rw [e1] at this;exact ⟨v,this,t2,t1⟩
      have hlenm:len=(L.map (·.1)).length:=by simp [hL]
      rw [show (Value.slice (some ⟨blk,off,none⟩) len cap)=Value.slice (some ⟨blk,off,none⟩) (L.map (·.1)).length cap by rw [<- hlenm]];refine .slice _ _ blk off cap (fun i j=>(w.cell? ⟨blk,off+i*P.cellsOf e+j,none⟩).getD .nilFunc) ?_ ?_ (by omega) ?_ ?_
      ·intro hc;have:L.length=0:=by rw [List.map_eq_nil_iff] at hc;simp [hc]
       omega
      ·intro x hx;obtain ⟨p,hp1,rfl⟩:=QAt.1 hx;obtain ⟨i,hi,hpi⟩:=QCn hp1;obtain ⟨_,r2,r3⟩:=hL2 i p (by rw [<- hpi];exact Qa hi);rw [r2.1];exact (qj3 r3).1
      ·intro i j e' x he hx;obtain ⟨v,k1,k2,k3⟩:=hget i j e' x he hx;exact ⟨himm _ _,by rw [k1];rfl,by rw [k1];exact k2⟩
      ·intro i j e' x he hx;obtain ⟨v,k1,k2,k3⟩:=hget i j e' x he hx;rw [k1];exact k3
  ·rename_i fs hu;simp only [Bool.and_eq_true,Qr,memNat_iff] at hp;obtain ⟨hp1,hp2⟩:=hp;obtain ⟨xs,n,hn,hx,hc,hl,hf⟩:=DataW.trod_struct hu h;cases hn;simp only [Prod.mk.injEq] at hx;obtain ⟨rfl,rfl⟩:=hx;rw [bk.agg] at hb;have hoffs:∀(i:Nat) f,fs.toList[i]? =some f->f.offset+P.cellsOf f.type<=P.cellsOf t:=by
    have gen:∀(l:List Field) (off sz:Nat),qgp P l off sz=true->off<=sz/\∀(i:Nat) f,l[i]? =some f->f.offset+P.cellsOf f.type<=sz:=by
     intro l
     induction l with
     | nil=>intro off sz h;simp only [qgp,beq_iff_eq] at h;exact ⟨by omega,fun i f hf=>by simp at hf⟩
     | cons g r ihr=>
      intro off sz h;simp only [qgp,Bool.and_eq_true,beq_iff_eq] at h;obtain ⟨k1,k2⟩:=ihr _ _ h.2;refine ⟨by omega,?_⟩;intro i f hf;cases i with
      | zero=>simp at hf;subst hf;omega
      | succ i=>exact k2 i f (by simpa using hf)
    exact (gen _ _ _ hp2).2
   have hex:∀i,i<fs.size->∃x:List AV,∀f,fs[i]? =some f->WT P B f.type x/\Cells w imm x ((cs.drop f.offset).take (P.cellsOf f.type))/\x.length=P.cellsOf f.type:=by
    intro i hi;have hfi:fs[i]? =some fs[i]:=by simp [hi]
    have hh:=hf i _ hfi;have hi':i<xs.length:=by omega
    rw [Qa hi'] at hh;have hm:bk.one (xs[i]).1<=bk.all (xs.map (·.1)):=bk.mem (QAt.2 ⟨_,Qd hi',rfl⟩);obtain ⟨ys,k1,k2⟩:=ih (fs[i]).type _ (xs[i]).1 (xs[i]).2 (hp1 _ (by simp)) hh (by omega);refine ⟨ys,?_⟩;intro f hf';rw [hfi] at hf';cases hf';refine ⟨k1,k2,?_⟩;rw [k2.1];have:=hoffs i fs[i] (by simp [hi]);simp;omega
   obtain ⟨L,hL,hL2⟩:=qif hex;refine ⟨L.flatten,.struct fs L hu hL (fun i f x hf' hx'=>(hL2 i x hx' f hf').1),?_⟩;have:=qrq (w:=w) (imm:=imm) (fs:=fs.toList) (xss:=L) hp2 hc (by simpa using hL) (fun i f x hf' hx'=>(hL2 i x hx' f (by simpa using hf')).2);simpa using this
  ·rename_i k e hu;simp only [Bool.and_eq_true,memNat_iff,beq_iff_eq] at hp;obtain ⟨hp1,hp2⟩:=hp;obtain ⟨xs,n,hn,hx,hc,hl,hf⟩:=DataW.trod_array hu h;cases hn;simp only [Prod.mk.injEq] at hx;obtain ⟨rfl,rfl⟩:=hx;rw [bk.agg] at hb;have hex:∀i,i<k->∃x:List AV,WT P B e x/\Cells w imm x ((cs.drop (i*P.cellsOf e)).take (P.cellsOf e))/\x.length=P.cellsOf e:=by
    intro i hi;have hh:=hf i hi;have hi':i<xs.length:=by omega
    rw [Qa hi'] at hh;have hm:bk.one (xs[i]).1<=bk.all (xs.map (·.1)):=bk.mem (QAt.2 ⟨_,Qd hi',rfl⟩);obtain ⟨ys,k1,k2⟩:=ih e _ (xs[i]).1 (xs[i]).2 hp1 hh (by omega);refine ⟨ys,k1,k2,?_⟩;rw [k2.1];have:(i+1)*P.cellsOf e<=k*P.cellsOf e:=Qj _ hi;rw [QAh] at this;simp;omega
   obtain ⟨L,hL,hL2⟩:=qif hex;refine ⟨L.flatten,.array k L hu hL ?_,?_⟩
   ·intro x hx';obtain ⟨i,hi,hxi⟩:=QCn hx';exact (hL2 i x (by rw [<- hxi];exact Qa hi)).1
   ·have:=qlp (w:=w) (imm:=imm) (cs:=cs) (z:=P.cellsOf e) (xss:=L) (k:=0) (by rw [hc,hp2,hL];simp) (fun i x hx'=>by
     have:=hL2 i x hx';rw [QBm];exact this.2)
    simpa using this
  ·cases hp
theorem qaa1 (bk:BulkFn H) {ts:List TypeId} (hts:qgq P ts=true) (himm:∀b i,imm b i) {t:TypeId} {v:Value} {d:DataW H} {ps:List MemPlace} {r:Reach} {b0:Nat}
  (hval:Value.okWide P w r b0 t v) (ht:t∈ts) (h:DataW.Trod enc P w base spare held t v d ps) (hb:bk.one d<=B):∃a,WTV P B t a/\VRD w imm a v:=by
 obtain ⟨fuel,h⟩:=h;obtain ⟨xs,h1,h2⟩:=qvi (imm:=imm) bk hts himm fuel t _ d ps ht h hb;unfold WTV;have hcell:∀cs,Cell.okWide P w r b0 t (.agg cs)->qdi P t=true:=by
  intro cs hc;have hp:=hts;simp only [qgq,Qr] at hp;have hp:=hp t ht;unfold Cell.okWide Cell.ok at hc;split at hp<;>rename_i hu<;>(try simp [hu] at hc)<;>(try simp [qdi,hu])
 unfold Value.okWide at hval;split at hval
 ·rename_i hu;obtain ⟨cs,rfl,_,_⟩:=hval;have hag:qdi P t=true:=by unfold qdi;rw [hu]
  simp only [hag,if_true];refine ⟨.agg xs,⟨xs,rfl,h1⟩,.agg xs cs (by simpa [Value.cells] using h2.1) (fun v hv=>?_) (fun i x v hx hv=>(h2.2 i x v hx (by simpa [Value.cells] using hv)).1)⟩;obtain ⟨i,hi,hiv⟩:=Array.getElem_of_mem hv;have hi':i<xs.length:=by rw [h2.1];simpa [Value.cells] using hi
  exact (h2.2 i xs[i] v (Qa hi') (by simp [Value.cells,hi,hiv])).2
 ·rename_i hu;obtain ⟨cs,rfl,_,_⟩:=hval;have hag:qdi P t=true:=by unfold qdi;rw [hu]
  simp only [hag,if_true];refine ⟨.agg xs,⟨xs,rfl,h1⟩,.agg xs cs (by simpa [Value.cells] using h2.1) (fun v hv=>?_) (fun i x v hx hv=>(h2.2 i x v hx (by simpa [Value.cells] using hv)).1)⟩;obtain ⟨i,hi,hiv⟩:=Array.getElem_of_mem hv;have hi':i<xs.length:=by rw [h2.1];simpa [Value.cells] using hi
  exact (h2.2 i xs[i] v (Qa hi') (by simp [Value.cells,hi,hiv])).2
 ·rename_i hn1 hn2;have hnag:qdi P t=false:=by
   unfold qdi;split
   ·rename_i fs hu;exact absurd hu (hn1 fs)
   ·rename_i n e hu;exact absurd hu (hn2 n e)
   ·rfl
  have hv:v.cells.toList=[v]:=by
   cases v with
   | agg cs=>have:=hcell cs hval;rw [hnag] at this;cases this
   | _=>rfl
  rw [hv] at h2;obtain ⟨x,rfl⟩:∃x,xs=[x]:=by
   match xs,h2.1 with
   | [x],_=>exact ⟨x,rfl⟩
  simp only [hnag,QAe,if_false];exact ⟨x,h1,(h2.2 0 x v rfl rfl).1⟩
def WTVs (P:Program) (B:Nat):List TypeId->List AV->Prop
 | [],[]=>True
 | t::ts,a::as=>WTV P B t a/\WTVs P B ts as
 | _,_=>False
theorem qpf (bk:BulkFn H) {ts:List TypeId} (hts:qgq P ts=true) (himm:∀b i,imm b i) {r:Reach} {b0:Nat}:∀{ps:List TypeId} {vs:List Value} {ds:List (DataW H)} {pl:List MemPlace},
  (∀(j:Nat) t v,ps[j]? =some t->vs[j]? =some v->Value.okWide P w r b0 t v)->(∀t∈ps,t∈ts)->DataW.TrodAll enc P w base spare held ps vs ds pl->bk.all ds<=B->
  ∃as,WTVs P B ps as/\as.length=vs.length/\∀(i:Nat) x v,as[i]? =some x->vs[i]? =some v->VRD w imm x v
 | [],_,_,_,_,_,h,_=>by
  obtain ⟨rfl,rfl,rfl⟩:=trodAll_nil h;exact ⟨[],trivial,rfl,fun i x v hx=>by simp at hx⟩
 | t::ps,_,_,_,hv,hm,h,hb=>by
  obtain ⟨v,vs,d,ds,p,q,rfl,rfl,rfl,h1,h2⟩:=trodAll_cons h;rw [bk.cons] at hb;obtain ⟨a,k1,k2⟩:=qaa1 (B:=B) (imm:=imm) bk hts himm (hv 0 t v rfl rfl) (hm t (by simp)) h1 (by omega);obtain ⟨as,m1,m2,m3⟩:=qpf bk hts himm (fun j t' v' ht hv'=>hv (j+1) t' v' (by simpa using ht) (by simpa using hv')) (fun t' ht'=>hm t' (by simp [ht'])) h2 (by omega);refine ⟨a::as,⟨k1,m1⟩,by simp [m2],?_⟩;intro i x u hx hu;cases i with
  | zero=>simp at hx hu;subst hx;subst hu;exact k2
  | succ i=>exact m3 i x u (by simpa using hx) (by simpa using hu)
theorem qp7 {M:Nat->Nat->Prop} {w w':World} (h:Ext M w w') (hM:∀b i,¬M b i):Below w.heap.size w w':=
 ⟨h.os,h.tape,h.output,h.size,fun k hk=>h.still hM k hk⟩
theorem qjy {W W':World} (hl:laidOutB P=true) (hb:Below W.heap.size W W'):∀{ps:List TypeId} {vs:List Value} {ds:List (DataW H)} {pl:List MemPlace},
  (∀t∈ps,P.readableRec t=true/\t<P.types.size)->DataW.TrodAll enc P W 0 (fun _=>true) true ps vs ds pl->(∀x∈pl,x.block<W.heap.size)->∀sp:Nat->Bool,(∀x∈pl,sp x.block=true)->DataW.TrodAll enc P W' 0 sp true ps vs ds pl
 | [],_,_,_,_,h,_,_,_=>by
  obtain ⟨rfl,rfl,rfl⟩:=trodAll_nil h;exact trodAll_mk0
 | t::ps,_,_,_,hr,h,hlt,sp,hsp=>by
  obtain ⟨v,vs,d,ds,p,q,rfl,rfl,rfl,h1,h2⟩:=trodAll_cons h;obtain ⟨r1,r2⟩:=hr t (by simp);refine ⟨p,q,?_,qjy hl hb (fun t' ht'=>hr t' (by simp [ht'])) h2 (fun x hx=>hlt x (by simp [hx])) sp (fun x hx=>hsp x (by simp [hx])),rfl⟩;exact WideElems.Trod_stays hl r1 r2 h1 (fun x hx=>hb.same (hlt x (by simp [hx]))) (fun x hx=>hsp x (by simp [hx]))
theorem qxr {A:Ann} {Φ:FuncId->Option AFun} (T:TableOk P A Φ) (hl:laidOutB P=true) {f:FuncId} {fn:Func} {s:ChangeSpec} {tb:TypeId} (hv:s.vars=[])
    (hrt:fn.resultTypes= #[tb]) (htb:P.underlying tb=some .bool) (hread:∀t∈fn.params.toList,P.readableRec t=true/\t<P.types.size)
    (bk:BulkFn H) {ts:List TypeId} (hts:qgq P ts=true) (hpts:∀t∈fn.params.toList,t∈ts)
    {W:World} {b0:Nat} {args:Array Value} {ds gs:List (DataW H)} {before:List MemPlace} {apart:Bool}
    (hval:∀(j:Nat) t v,fn.params[j]? =some t->args[j]? =some v->Value.okWide P W .any b0 t v)
    (hW:DataW.Whole enc P fn.params.toList s.vars apart W args.toList ds gs before)
    (hfn:(s.fn H (ds++gs))={ results:=[.lit (.bool true)],args:=ds }) (hb:bk.all ds<=B)
    (law:∀as,WTVs P B fn.params.toList as->∃H',qai Φ f as H0=some (.val (.bool true),H')) {fresh handsOn again:Bool}:
    Calls P f args W fun e W'=>∃v,e= .returned v/\s.post enc P fn apart fresh handsOn again W args v W':=by
  have hW':=hW;obtain ⟨p,q,hA,hV,rfl,hfz,hnd⟩:=hW;rw [hv] at hV;obtain ⟨rfl,rfl⟩:=trodVars_none hV;have himm:∀b i,Imm (fun _ _=>False) (fun _=>none) H0 b i:=fun b i=>⟨qhg,fun h=>h⟩
  obtain ⟨as,h1,h2,h3⟩:=qpf (imm:=Imm (fun _ _=>False) (fun _=>none) H0) bk hts himm (ps:=fn.params.toList) (vs:=args.toList)
    (fun j t v ht hv=>hval j t v (by simpa using ht) (by simpa using hv)) hpts hA hb
  obtain ⟨H',hc⟩:=law as h1;obtain ⟨n,hn⟩:=qt4 Φ hc;have hr0:HR (fun _ _=>False) 0 W (fun _=>none) H0:=⟨Qc _,fun _ _ h=>h.elim,trivial,fun _ _=>rfl,(fun _ _ _ _ _ _ _ h=>by cases h),(fun _ _ h=>by cases h)⟩;refine ((qov T n).runs f as H0 _ _ hn (fun _ _=>False) 0 W (fun _=>none) args hr0 ⟨by simpa using h2,fun i x v hx hv=> .d (h3 i x v hx (by simpa using hv))⟩).mono ?_;intro e W' hok;cases e with
  | panicked c=>obtain ⟨x,u,hx,_⟩:=hok;cases hx
  | outgrown=>exact hok.elim
  | returned v=>
    obtain ⟨x,hx,β',htr,hr',hvr⟩:=hok;cases hx;have hvb:v= .bool true:=by
      cases hvr with
      | d h=>cases h;rfl
      | l h=>exact h.elim
    subst hvb;have hbl:Below W.heap.size W W':=qp7 htr.ext (fun b i=>qhg);refine ⟨_,rfl,?_⟩;have hlt:∀x∈p++[],x.block<W.heap.size:=fun x hx=>hW'.lt x hx
    have hltp:∀x∈p,x.block<W.heap.size:=fun x hx=>hlt x (by simp [hx])
    have hres:∀(b:Nat) (sp:Nat->Bool) (hd:Bool),DataW.TrodAll enc P W' b sp hd fn.resultTypes.toList ((Value.bool true).resultList fn.resultTypes.size) (s.fn H (ds++[])).results []:=by
      intro b sp hd;rw [hfn,hrt];exact trodAll_mk1 (shut_bool htb true)
    have hargs:∀sp:Nat->Bool,(∀x∈p++[],sp x.block=true)->DataW.TrodAll enc P W' 0 sp true fn.params.toList args.toList (s.fn H (ds++[])).args p:=by
      intro sp hsp;rw [hfn];exact qjy hl hbl hread hA hltp sp (fun x hx=>hsp x (by simp [hx]))
    have hvars:∀sp:Nat->Bool,(∀x∈p++[],sp x.block=true)->DataW.TrodVars enc P W' sp s.vars (s.fn H (ds++[])).vars []:=by
      intro sp _;rw [hfn,hv];exact rfl
    have hold:∀x∈p++[],(fun b=>decide (b<W.heap.size)) x.block=true:=fun x hx=>by simpa using hlt x hx
    refine ⟨ds,[],p++[],[],p,[],hW',hres _ _ _,hargs _ hold,hvars _ hold,hbl.frame _,fun _=>?_⟩;refine ⟨ok_one hrt rfl (okWide_bool_mk htb true),_,_,([]++p)++[],⟨[]++p,[],trodAll_append (hargs _ (fun _ _=>rfl)) (hres _ _ _),hvars _ (fun _ _=>rfl),rfl,?_,?_⟩,?_⟩
    · intro b off hp
      have hp':MemPlace.cell b off∈p:=by simpa using hp
      rw [hbl.frozen (hltp _ hp')];exact hfz b off (by simpa using hp')
    · intro ha
      simpa using hnd ha
    · intro x hx _
      simpa using hx
end
attribute [irreducible] WTV
end Go.Av

/-
 The structures of the program's package api, as abstract cells; how cells of a type are read as a structure.
-/
namespace Go.Av
def cI (x:Int):List AV:=[.int .i64 x]
def cB (x:Bool):List AV:=[.bool x]
def cStr (x:List UInt8):List AV:=[.str x]
def c8 (x:Int):List AV:=[.int .u8 x]
def c32 (x:Int):List AV:=[.int .u32 x]
def c64 (x:Int):List AV:=[.int .u64 x]
def cS {α:Type} (z:Nat) (f:α->List AV) (l:List α):List AV:=[.slice z (l.map f)]
@[simp] theorem qai2 (x:Int):(cI x).length=1:=by simp [cI]
@[simp] theorem qai1 (x:Bool):(cB x).length=1:=by simp [cB]
@[simp] theorem qai0 (x:Int):(c8 x).length=1:=by simp [c8]
@[simp] theorem qah3 (x:Int):(c32 x).length=1:=by simp [c32]
def okI (_:Nat) (x:Int):Prop:= -9223372036854775808<=x/\x<=9223372036854775807
def ok8 (_:Nat) (x:Int):Prop:=0<=x/\x<=255
def ok32 (_:Nat) (x:Int):Prop:=0<=x/\x<=4294967295
def ok64 (_:Nat) (x:Int):Prop:=0<=x/\x<=18446744073709551615
def qdt (B:Nat) (x:List UInt8):Prop:=x.length<=B
def okT {α:Type} (_:Nat) (_:α):Prop:=True
def okL {α:Type} (B:Nat) (ok:α->Prop) (l:List α):Prop:=l.length<=B/\∀x∈l,ok x
def Rd {α:Type} (P:Program) (B:Nat) (t:TypeId) (c:α->List AV) (ok:α->Prop):Prop:=∀xs,WT P B t xs->∃x,xs=c x/\ok x
def RdF {α:Type} (P:Program) (B:Nat) (fs:List Go.Field) (c:α->List AV) (ok:α->Prop):Prop:=
 ∀xss:List (List AV),xss.length=fs.length->(∀(i:Nat) f x,fs[i]? =some f->xss[i]? =some x->WT P B f.type x)->∃y,xss.flatten=c y/\ok y
theorem Rd.o {P:Program} {B:Nat} {f:Go.Field} {α:Type} {c:α->List AV} {ok:α->Prop} (h:Rd P B f.type c ok):RdF P B [f] c ok:=by
 intro xss hl hh
 match xss,hl,hh with
 | [a],_,hh=>
  obtain ⟨y,rfl,o⟩:=h a (hh 0 _ _ rfl rfl);exact ⟨y,by simp,o⟩
theorem Rd.q {P:Program} {B:Nat} {f:Go.Field} {fs:List Go.Field} {α β:Type} {c:α->List AV} {ok:α->Prop} {c':β->List AV} {ok':β->Prop} (h:Rd P B f.type c ok) (r:RdF P B fs c' ok'):
  RdF P B (f::fs) (fun y:α×β=>c y.1++c' y.2) (fun y=>ok y.1/\ok' y.2):=by
 intro xss hl hh
 match xss,hl,hh with
 | a::l,hl,hh=>
  obtain ⟨y,rfl,o⟩:=h a (hh 0 _ _ rfl rfl);obtain ⟨z,hz,o'⟩:=r l (by simpa using hl) fun i f x h1 h2=>hh (i+1) f x (by simpa using h1) (by simpa using h2)
  exact ⟨(y,z),by simp [hz],o,o'⟩
section
variable {P:Program} {B:Nat} {t:TypeId}
theorem qyb {fs:Array Go.Field} (hu:P.underlying t=some (.struct fs)) {xs:List AV} (h:WT P B t xs):
  ∃xss:List (List AV),xs=xss.flatten/\xss.length=fs.size/\∀(i:Nat) f x,fs[i]? =some f->xss[i]? =some x->WT P B f.type x:=by
 cases h with
 | struct fs' xss h h1 h2=>rw [hu] at h;cases h;exact ⟨xss,rfl,h1,h2⟩
 | _=>simp_all
theorem Rd.st {fs:List Go.Field} {α β:Type} {c:α->List AV} {ok:α->Prop} {c':β->List AV} {ok':β->Prop} (hu:P.underlying t=some (.struct fs.toArray)) (r:RdF P B fs c' ok') (h:∀y,ok' y->∃x,c' y=c x/\ok x):Rd P B t c ok:=by
 intro xs hx;obtain ⟨xss,rfl,hl,hh⟩:=qyb hu hx;obtain ⟨y,h1,h2⟩:=r xss (by simpa using hl) fun i f x k1 k2=>hh i f x (by simpa using k1) k2
 obtain ⟨x,h3,h4⟩:=h y h2;exact ⟨x,h1.trans h3,h4⟩
theorem qadf (hu:P.underlying t=some .bool):Rd P B t cB (okT B):=by
 intro xs h;cases h with
 | bool b h=>exact ⟨b,rfl,trivial⟩
 | _=>simp_all
theorem qrw {k:IntKind} (hu:P.underlying t=some (.int k)) {xs:List AV} (h:WT P B t xs):∃v,xs=[.int k v]/\k.min<=v/\v<=k.max:=by
 cases h with
 | int k' v h h1 h2=>rw [hu] at h;cases h;exact ⟨v,rfl,h1,h2⟩
 | _=>simp_all
theorem qagh (hu:P.underlying t=some (.int .i64)):Rd P B t cI (okI B):=by
 intro xs h;obtain ⟨v,rfl,h1,h2⟩:=qrw hu h;exact ⟨v,rfl,h1,h2⟩
theorem rd_u8 (hu:P.underlying t=some (.int .u8)):Rd P B t c8 (ok8 B):=by
 intro xs h;obtain ⟨v,rfl,h1,h2⟩:=qrw hu h;exact ⟨v,rfl,h1,h2⟩
theorem qagw (hu:P.underlying t=some (.int .u32)):Rd P B t c32 (ok32 B):=by
 intro xs h;obtain ⟨v,rfl,h1,h2⟩:=qrw hu h;exact ⟨v,rfl,h1,h2⟩
theorem qkg {α:Type} {c:α->List AV} {ok:α->Prop}:∀{es:List (List AV)},(∀x∈es,∃y,x=c y/\ok y)->∃l:List α,es=l.map c/\∀y∈l,ok y
 | [],_=>⟨[],rfl,by simp⟩
 | e::es,h=>by
  obtain ⟨y,rfl,h1⟩:=h e (by simp);obtain ⟨l,rfl,h2⟩:=qkg (es:=es) (fun x hx=>h x (by simp [hx]));refine ⟨y::l,rfl,?_⟩;intro z hz;rcases QAg.1 hz with rfl | hz
  ·exact h1
  ·exact h2 z hz
theorem qaa6 {e:TypeId} (hu:P.underlying t=some (.slice e)) {xs:List AV} (h:WT P B t xs):∃es,xs=[.slice (P.cellsOf e) es]/\es.length<=B/\∀x∈es,WT P B e x:=by
 cases h with
 | slice es h h1 h2=>rw [hu] at h;cases h;exact ⟨es,rfl,h1,h2⟩
 | _=>simp_all
theorem qcu {α:Type} {e:TypeId} {c:α->List AV} {ok:α->Prop} {z:Nat} (hu:P.underlying t=some (.slice e)) (hz:P.cellsOf e=z) (he:Rd P B e c ok):Rd P B t (cS z c) (okL B ok):=by
 intro xs h;obtain ⟨es,rfl,h1,h2⟩:=qaa6 hu h;obtain ⟨l,rfl,h3⟩:=qkg fun x hx=>he x (h2 x hx)
 exact ⟨l,by rw [hz];rfl,by simpa using h1,h3⟩
end
@[ext] structure Fld where
 name:List UInt8
 width:Int
 deriving DecidableEq,Inhabited
def Fld.c (x:Fld):List AV:=[.str x.name,.int .i64 x.width]
@[simp] theorem Fld.c_length (x:Fld):(Fld.c x).length=2:=by simp [Fld.c]
def Fld.Ok (B:Nat) (x:Fld):Prop:=qdt B x.name/\okI B x.width
theorem Fld.rd {P:Go.Program} {B:Nat} {t:TypeId} {f0 f1:Go.Field} (hu:P.underlying t=some (.struct #[f0,f1])) (h0:Rd P B f0.type cStr (qdt B)) (h1:Rd P B f1.type cI (okI B)):Rd P B t Fld.c (Fld.Ok B):=
 .st hu (h0.q h1.o) fun ⟨a,b⟩ h=>⟨⟨a,b⟩,by simp [Fld.c,cI,cStr],h⟩
@[ext] structure Xj where
 name:List UInt8
 fields:List Fld
 deriving DecidableEq,Inhabited
def Xj.c (x:Xj):List AV:=[.str x.name,.slice 2 (x.fields.map Fld.c)]
@[simp] theorem Xj.c_length (x:Xj):(Xj.c x).length=2:=by simp [Xj.c]
def Xj.Ok (B:Nat) (x:Xj):Prop:=qdt B x.name/\okL B (Fld.Ok B) x.fields
theorem Xj.rd {P:Go.Program} {B:Nat} {t:TypeId} {f0 f1:Go.Field} (hu:P.underlying t=some (.struct #[f0,f1])) (h0:Rd P B f0.type cStr (qdt B)) (h1:Rd P B f1.type (cS 2 Fld.c) (okL B (Fld.Ok B))):Rd P B t Xj.c (Xj.Ok B):=
 .st hu (h0.q h1.o) fun ⟨a,b⟩ h=>⟨⟨a,b⟩,by simp [Xj.c,cS,cStr],h⟩
@[ext] structure Xh where
 name:List UInt8
 width:Int
 size:Int
 deriving DecidableEq,Inhabited
def Xh.c (x:Xh):List AV:=[.str x.name,.int .i64 x.width,.int .i64 x.size]
@[simp] theorem Xh.c_length (x:Xh):(Xh.c x).length=3:=by simp [Xh.c]
def Xh.Ok (B:Nat) (x:Xh):Prop:=qdt B x.name/\okI B x.width/\okI B x.size
theorem Xh.rd {P:Go.Program} {B:Nat} {t:TypeId} {f0 f1 f2:Go.Field} (hu:P.underlying t=some (.struct #[f0,f1,f2])) (h0:Rd P B f0.type cStr (qdt B)) (h1:Rd P B f1.type cI (okI B)) (h2:Rd P B f2.type cI (okI B)):Rd P B t Xh.c (Xh.Ok B):=
 .st hu (h0.q (h1.q h2.o)) fun ⟨a,b,c⟩ h=>⟨⟨a,b,c⟩,by simp [Xh.c,cI,cStr],h⟩
@[ext] structure FieldRef where
 header:Int
 field:Int
 deriving DecidableEq,Inhabited
def FieldRef.c (x:FieldRef):List AV:=[.int .i64 x.header,.int .i64 x.field]
@[simp] theorem FieldRef.c_length (x:FieldRef):(FieldRef.c x).length=2:=by simp [FieldRef.c]
def FieldRef.Ok (B:Nat) (x:FieldRef):Prop:=okI B x.header/\okI B x.field
theorem FieldRef.rd {P:Go.Program} {B:Nat} {t:TypeId} {f0 f1:Go.Field} (hu:P.underlying t=some (.struct #[f0,f1])) (h0:Rd P B f0.type cI (okI B)) (h1:Rd P B f1.type cI (okI B)):Rd P B t FieldRef.c (FieldRef.Ok B):=
 .st hu (h0.q h1.o) fun ⟨a,b⟩ h=>⟨⟨a,b⟩,by simp [FieldRef.c,cI],h⟩
@[ext] structure Xe where
 op:Int
 n:Int
 w:Int
 deriving DecidableEq,Inhabited
def Xe.c (x:Xe):List AV:=[.int .i64 x.op,.int .i64 x.n,.int .i64 x.w]
@[simp] theorem Xe.c_length (x:Xe):(Xe.c x).length=3:=by simp [Xe.c]
def Xe.Ok (B:Nat) (x:Xe):Prop:=okI B x.op/\okI B x.n/\okI B x.w
theorem Xe.rd {P:Go.Program} {B:Nat} {t:TypeId} {f0 f1 f2:Go.Field} (hu:P.underlying t=some (.struct #[f0,f1,f2])) (h0:Rd P B f0.type cI (okI B)) (h1:Rd P B f1.type cI (okI B)) (h2:Rd P B f2.type cI (okI B)):Rd P B t Xe.c (Xe.Ok B):=
 .st hu (h0.q (h1.q h2.o)) fun ⟨a,b,c⟩ h=>⟨⟨a,b,c⟩,by simp [Xe.c,cI],h⟩
@[ext] structure Xg where
 kind:Int
 dst:FieldRef
 register:Int
 header:Int
 index:List Xe
 value:List Xe
 deriving DecidableEq,Inhabited
def Xg.c (x:Xg):List AV:=[.int .i64 x.kind,.int .i64 x.dst.header,.int .i64 x.dst.field,.int .i64 x.register,.int .i64 x.header,.slice 3 (x.index.map Xe.c),.slice 3 (x.value.map Xe.c)]
@[simp] theorem Xg.c_length (x:Xg):(Xg.c x).length=7:=by simp [Xg.c]
def Xg.Ok (B:Nat) (x:Xg):Prop:=okI B x.kind/\FieldRef.Ok B x.dst/\okI B x.register/\okI B x.header/\okL B (Xe.Ok B) x.index/\okL B (Xe.Ok B) x.value
theorem Xg.rd {P:Go.Program} {B:Nat} {t:TypeId} {f0 f1 f2 f3 f4 f5:Go.Field} (hu:P.underlying t=some (.struct #[f0,f1,f2,f3,f4,f5])) (h0:Rd P B f0.type cI (okI B)) (h1:Rd P B f1.type FieldRef.c (FieldRef.Ok B)) (h2:Rd P B f2.type cI (okI B)) (h3:Rd P B f3.type cI (okI B)) (h4:Rd P B f4.type (cS 3 Xe.c) (okL B (Xe.Ok B))) (h5:Rd P B f5.type (cS 3 Xe.c) (okL B (Xe.Ok B))):Rd P B t Xg.c (Xg.Ok B):=
 .st hu (h0.q (h1.q (h2.q (h3.q (h4.q h5.o))))) fun ⟨a,b,c,d,e,f⟩ h=>⟨⟨a,b,c,d,e,f⟩,by simp [Xg.c,FieldRef.c,cI,cS],h⟩
@[ext] structure Action where
 name:List UInt8
 params:List Fld
 body:List Xg
 deriving DecidableEq,Inhabited
def Action.c (x:Action):List AV:=[.str x.name,.slice 2 (x.params.map Fld.c),.slice 7 (x.body.map Xg.c)]
@[simp] theorem Action.c_length (x:Action):(Action.c x).length=3:=by simp [Action.c]
def Action.Ok (B:Nat) (x:Action):Prop:=qdt B x.name/\okL B (Fld.Ok B) x.params/\okL B (Xg.Ok B) x.body
theorem Action.rd {P:Go.Program} {B:Nat} {t:TypeId} {f0 f1 f2:Go.Field} (hu:P.underlying t=some (.struct #[f0,f1,f2])) (h0:Rd P B f0.type cStr (qdt B)) (h1:Rd P B f1.type (cS 2 Fld.c) (okL B (Fld.Ok B))) (h2:Rd P B f2.type (cS 7 Xg.c) (okL B (Xg.Ok B))):Rd P B t Action.c (Action.Ok B):=
 .st hu (h0.q (h1.q h2.o)) fun ⟨a,b,c⟩ h=>⟨⟨a,b,c⟩,by simp [Action.c,cS,cStr],h⟩
@[ext] structure Xl where
 field:FieldRef
 kind:Int
 deriving DecidableEq,Inhabited
def Xl.c (x:Xl):List AV:=[.int .i64 x.field.header,.int .i64 x.field.field,.int .i64 x.kind]
@[simp] theorem Xl.c_length (x:Xl):(Xl.c x).length=3:=by simp [Xl.c]
def Xl.Ok (B:Nat) (x:Xl):Prop:=FieldRef.Ok B x.field/\okI B x.kind
theorem Xl.rd {P:Go.Program} {B:Nat} {t:TypeId} {f0 f1:Go.Field} (hu:P.underlying t=some (.struct #[f0,f1])) (h0:Rd P B f0.type FieldRef.c (FieldRef.Ok B)) (h1:Rd P B f1.type cI (okI B)):Rd P B t Xl.c (Xl.Ok B):=
 .st hu (h0.q h1.o) fun ⟨a,b⟩ h=>⟨⟨a,b⟩,by simp [Xl.c,FieldRef.c,cI],h⟩
@[ext] structure Xb where
 action:Int
 args:List Int
 deriving DecidableEq,Inhabited
def Xb.c (x:Xb):List AV:=[.int .i64 x.action,.slice 1 (x.args.map c32)]
@[simp] theorem Xb.c_length (x:Xb):(Xb.c x).length=2:=by simp [Xb.c]
def Xb.Ok (B:Nat) (x:Xb):Prop:=okI B x.action/\okL B (ok32 B) x.args
theorem Xb.rd {P:Go.Program} {B:Nat} {t:TypeId} {f0 f1:Go.Field} (hu:P.underlying t=some (.struct #[f0,f1])) (h0:Rd P B f0.type cI (okI B)) (h1:Rd P B f1.type (cS 1 c32) (okL B (ok32 B))):Rd P B t Xb.c (Xb.Ok B):=
 .st hu (h0.q h1.o) fun ⟨a,b⟩ h=>⟨⟨a,b⟩,by simp [Xb.c,cI,cS],h⟩
@[ext] structure Tbl where
 name:List UInt8
 keys:List Xl
 actions:List Int
 dflt:Xb
 size:Int
 deriving DecidableEq,Inhabited
def Tbl.c (x:Tbl):List AV:=[.str x.name,.slice 3 (x.keys.map Xl.c),.slice 1 (x.actions.map cI),.int .i64 x.dflt.action,.slice 1 (x.dflt.args.map c32),.int .i64 x.size]
@[simp] theorem Tbl.c_length (x:Tbl):(Tbl.c x).length=6:=by simp [Tbl.c]
def Tbl.Ok (B:Nat) (x:Tbl):Prop:=qdt B x.name/\okL B (Xl.Ok B) x.keys/\okL B (okI B) x.actions/\Xb.Ok B x.dflt/\okI B x.size
theorem Tbl.rd {P:Go.Program} {B:Nat} {t:TypeId} {f0 f1 f2 f3 f4:Go.Field} (hu:P.underlying t=some (.struct #[f0,f1,f2,f3,f4])) (h0:Rd P B f0.type cStr (qdt B)) (h1:Rd P B f1.type (cS 3 Xl.c) (okL B (Xl.Ok B))) (h2:Rd P B f2.type (cS 1 cI) (okL B (okI B))) (h3:Rd P B f3.type Xb.c (Xb.Ok B)) (h4:Rd P B f4.type cI (okI B)):Rd P B t Tbl.c (Tbl.Ok B):=
 .st hu (h0.q (h1.q (h2.q (h3.q h4.o)))) fun ⟨a,b,c,d,e⟩ h=>⟨⟨a,b,c,d,e⟩,by simp [Tbl.c,Xb.c,cI,cS,cStr],h⟩
@[ext] structure Xk where
 value:Int
 mask:Int
 next:Int
 deriving DecidableEq,Inhabited
def Xk.c (x:Xk):List AV:=[.int .u32 x.value,.int .u32 x.mask,.int .i64 x.next]
@[simp] theorem Xk.c_length (x:Xk):(Xk.c x).length=3:=by simp [Xk.c]
def Xk.Ok (B:Nat) (x:Xk):Prop:=ok32 B x.value/\ok32 B x.mask/\okI B x.next
theorem Xk.rd {P:Go.Program} {B:Nat} {t:TypeId} {f0 f1 f2:Go.Field} (hu:P.underlying t=some (.struct #[f0,f1,f2])) (h0:Rd P B f0.type c32 (ok32 B)) (h1:Rd P B f1.type c32 (ok32 B)) (h2:Rd P B f2.type cI (okI B)):Rd P B t Xk.c (Xk.Ok B):=
 .st hu (h0.q (h1.q h2.o)) fun ⟨a,b,c⟩ h=>⟨⟨a,b,c⟩,by simp [Xk.c,c32,cI],h⟩
@[ext] structure Xd where
 name:List UInt8
 extract:List Int
 select:Bool
 on:FieldRef
 cases:List Xk
 dflt:Int
 deriving DecidableEq,Inhabited
def Xd.c (x:Xd):List AV:=[.str x.name,.slice 1 (x.extract.map cI),.bool x.select,.int .i64 x.on.header,.int .i64 x.on.field,.slice 3 (x.cases.map Xk.c),.int .i64 x.dflt]
@[simp] theorem Xd.c_length (x:Xd):(Xd.c x).length=7:=by simp [Xd.c]
def Xd.Ok (B:Nat) (x:Xd):Prop:=qdt B x.name/\okL B (okI B) x.extract/\FieldRef.Ok B x.on/\okL B (Xk.Ok B) x.cases/\okI B x.dflt
theorem Xd.rd {P:Go.Program} {B:Nat} {t:TypeId} {f0 f1 f2 f3 f4 f5:Go.Field} (hu:P.underlying t=some (.struct #[f0,f1,f2,f3,f4,f5])) (h0:Rd P B f0.type cStr (qdt B)) (h1:Rd P B f1.type (cS 1 cI) (okL B (okI B))) (h2:Rd P B f2.type cB (okT B)) (h3:Rd P B f3.type FieldRef.c (FieldRef.Ok B)) (h4:Rd P B f4.type (cS 3 Xk.c) (okL B (Xk.Ok B))) (h5:Rd P B f5.type cI (okI B)):Rd P B t Xd.c (Xd.Ok B):=
 .st hu (h0.q (h1.q (h2.q (h3.q (h4.q h5.o))))) fun ⟨a,b,c,d,e,f⟩ ⟨o0,o1,_,o3,o4,o5⟩=>⟨⟨a,b,c,d,e,f⟩,by simp [Xd.c,FieldRef.c,cB,cI,cS,cStr],⟨o0,o1,o3,o4,o5⟩⟩
inductive Xa where
 | mk (kind table:Int) (cond:List Xe) (thn els:List Xa)
 deriving Inhabited
mutual
def Xa.c:Xa->List AV
 | .mk k t c a b=>[.int .i64 k,.int .i64 t,.slice 3 (c.map Xe.c),.slice 5 (Xa.cs a),.slice 5 (Xa.cs b)]
def Xa.cs:List Xa->List (List AV)
 | []=>[]
 | x::r=>Xa.c x::Xa.cs r
end
theorem Xa.cs_eq:∀l,Xa.cs l=l.map Xa.c
 | []=>by simp [Xa.cs]
 | x::r=>by simp [Xa.cs,Xa.cs_eq r]
@[simp] theorem Xa.c_length:∀x,(Xa.c x).length=5
 | .mk .. =>by simp [Xa.c]
mutual
def Xa.Ok (B:Nat):Xa->Prop
 | .mk k t c a b=>okI B k/\okI B t/\okL B (Xe.Ok B) c/\(a.length<=B/\Xa.Oks B a)/\(b.length<=B/\Xa.Oks B b)
def Xa.Oks (B:Nat):List Xa->Prop
 | []=>True
 | x::r=>Xa.Ok B x/\Xa.Oks B r
end
theorem Xa.oks_eq (B:Nat):∀l,Xa.Oks B l↔∀x∈l,Xa.Ok B x
 | []=>by simp [Xa.Oks]
 | x::r=>by simp [Xa.Oks,Xa.oks_eq B r]
theorem Xa.rd {P:Go.Program} {B:Nat} {t ts:TypeId} {f0 f1 f2 f3 f4:Go.Field} (hu:P.underlying t=some (.struct #[f0,f1,f2,f3,f4])) (h0:Rd P B f0.type cI (okI B)) (h1:Rd P B f1.type cI (okI B))
  (h2:Rd P B f2.type (cS 3 Xe.c) (okL B (Xe.Ok B))) (h3:f3.type=ts) (h4:f4.type=ts) (hs:P.underlying ts=some (.slice t)) (hz:P.cellsOf t=5):Rd P B t Xa.c (Xa.Ok B):=by
 have key:∀u xs,WT P B u xs->(u=t->∃x:Xa,xs=x.c/\x.Ok B)/\(u=ts->∃l:List Xa,xs=[.slice 5 (Xa.cs l)]/\l.length<=B/\Xa.Oks B l):=by
  intro u xs h
  induction h with
  | bool b h=>exact ⟨(fun e=>by subst e;rw [hu] at h;cases h),(fun e=>by subst e;rw [hs] at h;cases h)⟩
  | int k v h=>exact ⟨(fun e=>by subst e;rw [hu] at h;cases h),(fun e=>by subst e;rw [hs] at h;cases h)⟩
  | str s h=>exact ⟨(fun e=>by subst e;rw [hu] at h;cases h),(fun e=>by subst e;rw [hs] at h;cases h)⟩
  | array k xss h=>exact ⟨(fun e=>by subst e;rw [hu] at h;cases h),(fun e=>by subst e;rw [hs] at h;cases h)⟩
  | slice es h k1 k2 ih=>
   refine ⟨(fun e=>by subst e;rw [hu] at h;cases h),fun e=>?_⟩;subst e;rw [hs] at h;cases h;obtain ⟨l,rfl,hl⟩:=qkg (c:=Xa.c) (ok:=Xa.Ok B) fun x hx=>(ih x hx).1 rfl
   exact ⟨l,by rw [hz,Xa.cs_eq],by simpa using k1,(Xa.oks_eq B l).2 hl⟩
  | struct fs xss h k1 k2 ih=>
   refine ⟨fun e=>?_,fun e=>by subst e;rw [hs] at h;cases h⟩;subst e;rw [hu] at h;cases h
   match xss,k1,k2,ih with
   | [a0,a1,a2,a3,a4],_,hh,ih=>
    obtain ⟨y0,rfl,o0⟩:=h0 a0 (hh 0 _ _ rfl rfl);obtain ⟨y1,rfl,o1⟩:=h1 a1 (hh 1 _ _ rfl rfl);obtain ⟨y2,rfl,o2⟩:=h2 a2 (hh 2 _ _ rfl rfl);obtain ⟨y3,rfl,o3⟩:=(ih 3 _ _ rfl rfl).2 h3;obtain ⟨y4,rfl,o4⟩:=(ih 4 _ _ rfl rfl).2 h4;exact ⟨.mk y0 y1 y2 y3 y4,by simp [Xa.c,cI,cS],by simp only [Xa.Ok];exact ⟨o0,o1,o2,o3,o4⟩⟩
 intro xs h;exact (key t xs h).1 rfl
@[ext] structure Prg where
 name:List UInt8
 Xp:List Xj
 Xo:List Fld
 Xm:List Xh
 actions:List Action
 Xn:List Tbl
 states:List Xd
 control:List Xa
 Xs:List Int
 deriving Inhabited
def Prg.c (x:Prg):List AV:=[.str x.name,.slice 2 (x.Xp.map Xj.c),.slice 2 (x.Xo.map Fld.c),.slice 3 (x.Xm.map Xh.c),.slice 3 (x.actions.map Action.c),.slice 6 (x.Xn.map Tbl.c),.slice 7 (x.states.map Xd.c),.slice 5 (x.control.map Xa.c),.slice 1 (x.Xs.map cI)]
@[simp] theorem Prg.c_length (x:Prg):(Prg.c x).length=9:=by simp [Prg.c]
def Prg.Ok (B:Nat) (x:Prg):Prop:=qdt B x.name/\okL B (Xj.Ok B) x.Xp/\okL B (Fld.Ok B) x.Xo/\okL B (Xh.Ok B) x.Xm/\okL B (Action.Ok B) x.actions/\okL B (Tbl.Ok B) x.Xn/\okL B (Xd.Ok B) x.states/\okL B (Xa.Ok B) x.control/\okL B (okI B) x.Xs
theorem Prg.rd {P:Go.Program} {B:Nat} {t:TypeId} {f0 f1 f2 f3 f4 f5 f6 f7 f8:Go.Field} (hu:P.underlying t=some (.struct #[f0,f1,f2,f3,f4,f5,f6,f7,f8])) (h0:Rd P B f0.type cStr (qdt B)) (h1:Rd P B f1.type (cS 2 Xj.c) (okL B (Xj.Ok B))) (h2:Rd P B f2.type (cS 2 Fld.c) (okL B (Fld.Ok B))) (h3:Rd P B f3.type (cS 3 Xh.c) (okL B (Xh.Ok B))) (h4:Rd P B f4.type (cS 3 Action.c) (okL B (Action.Ok B))) (h5:Rd P B f5.type (cS 6 Tbl.c) (okL B (Tbl.Ok B))) (h6:Rd P B f6.type (cS 7 Xd.c) (okL B (Xd.Ok B))) (h7:Rd P B f7.type (cS 5 Xa.c) (okL B (Xa.Ok B))) (h8:Rd P B f8.type (cS 1 cI) (okL B (okI B))):Rd P B t Prg.c (Prg.Ok B):=
 .st hu (h0.q (h1.q (h2.q (h3.q (h4.q (h5.q (h6.q (h7.q h8.o)))))))) fun ⟨a,b,c,d,e,f,g,i,j⟩ h=>⟨⟨a,b,c,d,e,f,g,i,j⟩,by simp [Prg.c,cS,cStr],h⟩
@[ext] structure Envt where
 valid:List Bool
 fields:List (List Int)
 metaF:List Int
 payload:List Int
 deriving DecidableEq,Inhabited
def Envt.c (x:Envt):List AV:=[.slice 1 (x.valid.map cB),.slice 1 (x.fields.map (cS 1 c32)),.slice 1 (x.metaF.map c32),.slice 1 (x.payload.map c8)]
@[simp] theorem Envt.c_length (x:Envt):(Envt.c x).length=4:=by simp [Envt.c]
def Envt.Ok (B:Nat) (x:Envt):Prop:=okL B (okT B) x.valid/\okL B (okL B (ok32 B)) x.fields/\okL B (ok32 B) x.metaF/\okL B (ok8 B) x.payload
theorem Envt.rd {P:Go.Program} {B:Nat} {t:TypeId} {f0 f1 f2 f3:Go.Field} (hu:P.underlying t=some (.struct #[f0,f1,f2,f3])) (h0:Rd P B f0.type (cS 1 cB) (okL B (okT B))) (h1:Rd P B f1.type (cS 1 (cS 1 c32)) (okL B (okL B (ok32 B)))) (h2:Rd P B f2.type (cS 1 c32) (okL B (ok32 B))) (h3:Rd P B f3.type (cS 1 c8) (okL B (ok8 B))):Rd P B t Envt.c (Envt.Ok B):=
 .st hu (h0.q (h1.q (h2.q h3.o))) fun ⟨a,b,c,d⟩ h=>⟨⟨a,b,c,d⟩,by simp [Envt.c,cS],h⟩
@[ext] structure Xi where
 value:Int
 mask:Int
 deriving DecidableEq,Inhabited
def Xi.c (x:Xi):List AV:=[.int .u32 x.value,.int .u32 x.mask]
@[simp] theorem Xi.c_length (x:Xi):(Xi.c x).length=2:=by simp [Xi.c]
def Xi.Ok (B:Nat) (x:Xi):Prop:=ok32 B x.value/\ok32 B x.mask
theorem Xi.rd {P:Go.Program} {B:Nat} {t:TypeId} {f0 f1:Go.Field} (hu:P.underlying t=some (.struct #[f0,f1])) (h0:Rd P B f0.type c32 (ok32 B)) (h1:Rd P B f1.type c32 (ok32 B)):Rd P B t Xi.c (Xi.Ok B):=
 .st hu (h0.q h1.o) fun ⟨a,b⟩ h=>⟨⟨a,b⟩,by simp [Xi.c,c32],h⟩
@[ext] structure Entry where
 keys:List Xi
 Xt:Int
 call:Xb
 deriving DecidableEq,Inhabited
def Entry.c (x:Entry):List AV:=[.slice 2 (x.keys.map Xi.c),.int .i64 x.Xt,.int .i64 x.call.action,.slice 1 (x.call.args.map c32)]
@[simp] theorem Entry.c_length (x:Entry):(Entry.c x).length=4:=by simp [Entry.c]
def Entry.Ok (B:Nat) (x:Entry):Prop:=okL B (Xi.Ok B) x.keys/\okI B x.Xt/\Xb.Ok B x.call
theorem Entry.rd {P:Go.Program} {B:Nat} {t:TypeId} {f0 f1 f2:Go.Field} (hu:P.underlying t=some (.struct #[f0,f1,f2])) (h0:Rd P B f0.type (cS 2 Xi.c) (okL B (Xi.Ok B))) (h1:Rd P B f1.type cI (okI B)) (h2:Rd P B f2.type Xb.c (Xb.Ok B)):Rd P B t Entry.c (Entry.Ok B):=
 .st hu (h0.q (h1.q h2.o)) fun ⟨a,b,c⟩ h=>⟨⟨a,b,c⟩,by simp [Entry.c,Xb.c,cI,cS],h⟩
@[ext] structure Rw where
 id:Int
 entry:Entry
 deriving DecidableEq,Inhabited
def Rw.c (x:Rw):List AV:=[.int .i64 x.id,.slice 2 (x.entry.keys.map Xi.c),.int .i64 x.entry.Xt,.int .i64 x.entry.call.action,.slice 1 (x.entry.call.args.map c32)]
@[simp] theorem Rw.c_length (x:Rw):(Rw.c x).length=5:=by simp [Rw.c]
def Rw.Ok (B:Nat) (x:Rw):Prop:=okI B x.id/\Entry.Ok B x.entry
theorem Rw.rd {P:Go.Program} {B:Nat} {t:TypeId} {f0 f1:Go.Field} (hu:P.underlying t=some (.struct #[f0,f1])) (h0:Rd P B f0.type cI (okI B)) (h1:Rd P B f1.type Entry.c (Entry.Ok B)):Rd P B t Rw.c (Rw.Ok B):=
 .st hu (h0.q h1.o) fun ⟨a,b⟩ h=>⟨⟨a,b⟩,by simp [Rw.c,Entry.c,cI],h⟩
@[ext] structure Xf where
 rows:List (List Rw)
 Xr:List Int
 Xq:List Xb
 Xm:List (List Int)
 deriving DecidableEq,Inhabited
def Xf.c (x:Xf):List AV:=[.slice 1 (x.rows.map (cS 5 Rw.c)),.slice 1 (x.Xr.map cI),.slice 2 (x.Xq.map Xb.c),.slice 1 (x.Xm.map (cS 1 c32))]
@[simp] theorem Xf.c_length (x:Xf):(Xf.c x).length=4:=by simp [Xf.c]
def Xf.Ok (B:Nat) (x:Xf):Prop:=okL B (okL B (Rw.Ok B)) x.rows/\okL B (okI B) x.Xr/\okL B (Xb.Ok B) x.Xq/\okL B (okL B (ok32 B)) x.Xm
theorem Xf.rd {P:Go.Program} {B:Nat} {t:TypeId} {f0 f1 f2 f3:Go.Field} (hu:P.underlying t=some (.struct #[f0,f1,f2,f3])) (h0:Rd P B f0.type (cS 1 (cS 5 Rw.c)) (okL B (okL B (Rw.Ok B)))) (h1:Rd P B f1.type (cS 1 cI) (okL B (okI B))) (h2:Rd P B f2.type (cS 2 Xb.c) (okL B (Xb.Ok B))) (h3:Rd P B f3.type (cS 1 (cS 1 c32)) (okL B (okL B (ok32 B)))):Rd P B t Xf.c (Xf.Ok B):=
 .st hu (h0.q (h1.q (h2.q h3.o))) fun ⟨a,b,c,d⟩ h=>⟨⟨a,b,c,d⟩,by simp [Xf.c,cS],h⟩
@[ext] structure Hit where
 table:Int
 row:Int
 action:Int
 deriving DecidableEq,Inhabited
def Hit.c (x:Hit):List AV:=[.int .i64 x.table,.int .i64 x.row,.int .i64 x.action]
@[simp] theorem Hit.c_length (x:Hit):(Hit.c x).length=3:=by simp [Hit.c]
def Hit.Ok (B:Nat) (x:Hit):Prop:=okI B x.table/\okI B x.row/\okI B x.action
theorem Hit.rd {P:Go.Program} {B:Nat} {t:TypeId} {f0 f1 f2:Go.Field} (hu:P.underlying t=some (.struct #[f0,f1,f2])) (h0:Rd P B f0.type cI (okI B)) (h1:Rd P B f1.type cI (okI B)) (h2:Rd P B f2.type cI (okI B)):Rd P B t Hit.c (Hit.Ok B):=
 .st hu (h0.q (h1.q h2.o)) fun ⟨a,b,c⟩ h=>⟨⟨a,b,c⟩,by simp [Hit.c,cI],h⟩
@[ext] structure Rslt where
 drop:Bool
 port:Int
 data:List Int
 hits:List Hit
 deriving DecidableEq,Inhabited
def Rslt.c (x:Rslt):List AV:=[.bool x.drop,.int .i64 x.port,.slice 1 (x.data.map c8),.slice 3 (x.hits.map Hit.c)]
@[simp] theorem Rslt.c_length (x:Rslt):(Rslt.c x).length=4:=by simp [Rslt.c]
def Rslt.Ok (B:Nat) (x:Rslt):Prop:=okI B x.port/\okL B (ok8 B) x.data/\okL B (Hit.Ok B) x.hits
theorem Rslt.rd {P:Go.Program} {B:Nat} {t:TypeId} {f0 f1 f2 f3:Go.Field} (hu:P.underlying t=some (.struct #[f0,f1,f2,f3])) (h0:Rd P B f0.type cB (okT B)) (h1:Rd P B f1.type cI (okI B)) (h2:Rd P B f2.type (cS 1 c8) (okL B (ok8 B))) (h3:Rd P B f3.type (cS 3 Hit.c) (okL B (Hit.Ok B))):Rd P B t Rslt.c (Rslt.Ok B):=
 .st hu (h0.q (h1.q (h2.q h3.o))) fun ⟨a,b,c,d⟩ ⟨_,o1,o2,o3⟩=>⟨⟨a,b,c,d⟩,by simp [Rslt.c,cB,cI,cS],⟨o1,o2,o3⟩⟩
@[ext] structure Xc where
 kind:Int
 table:Int
 id:Int
 entry:Entry
 call:Xb
 deriving DecidableEq,Inhabited
def Xc.c (x:Xc):List AV:=[.int .i64 x.kind,.int .i64 x.table,.int .i64 x.id,.slice 2 (x.entry.keys.map Xi.c),.int .i64 x.entry.Xt,.int .i64 x.entry.call.action,.slice 1 (x.entry.call.args.map c32),.int .i64 x.call.action,.slice 1 (x.call.args.map c32)]
@[simp] theorem Xc.c_length (x:Xc):(Xc.c x).length=9:=by simp [Xc.c]
def Xc.Ok (B:Nat) (x:Xc):Prop:=okI B x.kind/\okI B x.table/\okI B x.id/\Entry.Ok B x.entry/\Xb.Ok B x.call
theorem Xc.rd {P:Go.Program} {B:Nat} {t:TypeId} {f0 f1 f2 f3 f4:Go.Field} (hu:P.underlying t=some (.struct #[f0,f1,f2,f3,f4])) (h0:Rd P B f0.type cI (okI B)) (h1:Rd P B f1.type cI (okI B)) (h2:Rd P B f2.type cI (okI B)) (h3:Rd P B f3.type Entry.c (Entry.Ok B)) (h4:Rd P B f4.type Xb.c (Xb.Ok B)):Rd P B t Xc.c (Xc.Ok B):=
 .st hu (h0.q (h1.q (h2.q (h3.q h4.o)))) fun ⟨a,b,c,d,e⟩ h=>⟨⟨a,b,c,d,e⟩,by simp [Xc.c,Xb.c,Entry.c,cI],h⟩
@[ext] structure PortID where
 switch:Int
 port:Int
 deriving DecidableEq,Inhabited
def PortID.c (x:PortID):List AV:=[.int .i64 x.switch,.int .i64 x.port]
@[simp] theorem PortID.c_length (x:PortID):(PortID.c x).length=2:=by simp [PortID.c]
def PortID.Ok (B:Nat) (x:PortID):Prop:=okI B x.switch/\okI B x.port
theorem PortID.rd {P:Go.Program} {B:Nat} {t:TypeId} {f0 f1:Go.Field} (hu:P.underlying t=some (.struct #[f0,f1])) (h0:Rd P B f0.type cI (okI B)) (h1:Rd P B f1.type cI (okI B)):Rd P B t PortID.c (PortID.Ok B):=
 .st hu (h0.q h1.o) fun ⟨a,b⟩ h=>⟨⟨a,b⟩,by simp [PortID.c,cI],h⟩
@[ext] structure Link where
 a:PortID
 b:PortID
 down:Bool
 deriving DecidableEq,Inhabited
def Link.c (x:Link):List AV:=[.int .i64 x.a.switch,.int .i64 x.a.port,.int .i64 x.b.switch,.int .i64 x.b.port,.bool x.down]
@[simp] theorem Link.c_length (x:Link):(Link.c x).length=5:=by simp [Link.c]
def Link.Ok (B:Nat) (x:Link):Prop:=PortID.Ok B x.a/\PortID.Ok B x.b
theorem Link.rd {P:Go.Program} {B:Nat} {t:TypeId} {f0 f1 f2:Go.Field} (hu:P.underlying t=some (.struct #[f0,f1,f2])) (h0:Rd P B f0.type PortID.c (PortID.Ok B)) (h1:Rd P B f1.type PortID.c (PortID.Ok B)) (h2:Rd P B f2.type cB (okT B)):Rd P B t Link.c (Link.Ok B):=
 .st hu (h0.q (h1.q h2.o)) fun ⟨a,b,c⟩ ⟨o0,o1,_⟩=>⟨⟨a,b,c⟩,by simp [Link.c,PortID.c,cB],⟨o0,o1⟩⟩
@[ext] structure Topology where
 ports:List Int
 links:List Link
 hosts:List PortID
 deriving DecidableEq,Inhabited
def Topology.c (x:Topology):List AV:=[.slice 1 (x.ports.map cI),.slice 5 (x.links.map Link.c),.slice 2 (x.hosts.map PortID.c)]
@[simp] theorem Topology.c_length (x:Topology):(Topology.c x).length=3:=by simp [Topology.c]
def Topology.Ok (B:Nat) (x:Topology):Prop:=okL B (okI B) x.ports/\okL B (Link.Ok B) x.links/\okL B (PortID.Ok B) x.hosts
theorem Topology.rd {P:Go.Program} {B:Nat} {t:TypeId} {f0 f1 f2:Go.Field} (hu:P.underlying t=some (.struct #[f0,f1,f2])) (h0:Rd P B f0.type (cS 1 cI) (okL B (okI B))) (h1:Rd P B f1.type (cS 5 Link.c) (okL B (Link.Ok B))) (h2:Rd P B f2.type (cS 2 PortID.c) (okL B (PortID.Ok B))):Rd P B t Topology.c (Topology.Ok B):=
 .st hu (h0.q (h1.q h2.o)) fun ⟨a,b,c⟩ h=>⟨⟨a,b,c⟩,by simp [Topology.c,cS],h⟩
@[ext] structure Hop where
 switch:Int
 inp:Int
 out:Int
 deriving DecidableEq,Inhabited
def Hop.c (x:Hop):List AV:=[.int .i64 x.switch,.int .i64 x.inp,.int .i64 x.out]
@[simp] theorem Hop.c_length (x:Hop):(Hop.c x).length=3:=by simp [Hop.c]
def Hop.Ok (B:Nat) (x:Hop):Prop:=okI B x.switch/\okI B x.inp/\okI B x.out
theorem Hop.rd {P:Go.Program} {B:Nat} {t:TypeId} {f0 f1 f2:Go.Field} (hu:P.underlying t=some (.struct #[f0,f1,f2])) (h0:Rd P B f0.type cI (okI B)) (h1:Rd P B f1.type cI (okI B)) (h2:Rd P B f2.type cI (okI B)):Rd P B t Hop.c (Hop.Ok B):=
 .st hu (h0.q (h1.q h2.o)) fun ⟨a,b,c⟩ h=>⟨⟨a,b,c⟩,by simp [Hop.c,cI],h⟩
@[ext] structure UpdateStep where
 switch:Int
 ops:List Xc
 deriving DecidableEq,Inhabited
def UpdateStep.c (x:UpdateStep):List AV:=[.int .i64 x.switch,.slice 9 (x.ops.map Xc.c)]
@[simp] theorem UpdateStep.c_length (x:UpdateStep):(UpdateStep.c x).length=2:=by simp [UpdateStep.c]
def UpdateStep.Ok (B:Nat) (x:UpdateStep):Prop:=okI B x.switch/\okL B (Xc.Ok B) x.ops
theorem UpdateStep.rd {P:Go.Program} {B:Nat} {t:TypeId} {f0 f1:Go.Field} (hu:P.underlying t=some (.struct #[f0,f1])) (h0:Rd P B f0.type cI (okI B)) (h1:Rd P B f1.type (cS 9 Xc.c) (okL B (Xc.Ok B))):Rd P B t UpdateStep.c (UpdateStep.Ok B):=
 .st hu (h0.q h1.o) fun ⟨a,b⟩ h=>⟨⟨a,b⟩,by simp [UpdateStep.c,cI,cS],h⟩
@[ext] structure Event where
 kind:Int
 a:Int
 b:Int
 cc:Int
 deriving DecidableEq,Inhabited
def Event.c (x:Event):List AV:=[.int .i64 x.kind,.int .i64 x.a,.int .i64 x.b,.int .i64 x.cc]
@[simp] theorem Event.c_length (x:Event):(Event.c x).length=4:=by simp [Event.c]
def Event.Ok (B:Nat) (x:Event):Prop:=okI B x.kind/\okI B x.a/\okI B x.b/\okI B x.cc
theorem Event.rd {P:Go.Program} {B:Nat} {t:TypeId} {f0 f1 f2 f3:Go.Field} (hu:P.underlying t=some (.struct #[f0,f1,f2,f3])) (h0:Rd P B f0.type cI (okI B)) (h1:Rd P B f1.type cI (okI B)) (h2:Rd P B f2.type cI (okI B)) (h3:Rd P B f3.type cI (okI B)):Rd P B t Event.c (Event.Ok B):=
 .st hu (h0.q (h1.q (h2.q h3.o))) fun ⟨a,b,c,d⟩ h=>⟨⟨a,b,c,d⟩,by simp [Event.c,cI],h⟩
end Go.Av

/-
 The table of functions, from a list; the second form of a law's row.
-/
namespace Go.Av
open Go.ChangeShapes Go.WideShapes Go.ChangeAt Go.RowKit
def qba:Nat:=1048576
theorem qdf:qba=1048576:=rfl
theorem quu {n:Nat} (h:n<=1048576):n<=qba:=h
theorem qma {α:Type} {t:Nat} {x:α}:∀{l:List (Nat×α)},look t l=some x->(t,x)∈l
 | [],h=>by cases h
 | (u,y)::r,h=>by
  simp only [look] at h;split at h
  ·rename_i hu;subst hu;cases h;simp
  ·exact QAk _ (qma h)
theorem qaaw {P:Program} {A:Ann} {tab:List (Nat×AFn)} (h:tab.map (fun p=>cFn P A p.1)=tab.map (fun p=>some p.2)) {f:FuncId} {fn:AFn} (hf:(f,fn)∈tab):cFn P A f=some fn:=by
 have:=QCq.1 h (f,fn) hf;exact this
def qfm (P:Program) (f:FuncId):Bool:=match P.funcs[f]? with
 | some fn => !fn.body.isNone && !(fn.name == "runtime.NumGoroutine")
 | none=>false
def qns (tab:List (Nat×AFn)) (tabD:List (Nat×ADFn)) (f:FuncId):Option AFun:=match look f tab with
 | some fn=>some (.code fn)
 | none=>(look f tabD).map .dfr
theorem qin {P:Program} {f:FuncId} (h:qfm P f=true):qfx P f:=by
 unfold qfm at h;split at h
 ·rename_i fd hfd;simp only [Bool.and_eq_true,QAx] at h;exact ⟨fd,hfd,h.1,h.2⟩
 ·cases h
theorem qvg {P:Program} {A:Ann} {tab:List (Nat×AFn)} {tabD:List (Nat×ADFn)} (hm:P.follows .mixedOrders=true) (h:tab.map (fun p=>cFn P A p.1)=tab.map (fun p=>some p.2)) (hb:tab.all (fun p=>qfm P p.1)=true)
  (hd:tabD.map (fun p=>cDFn P A p.1 p.2.clo)=tabD.map (fun p=>some p.2)) (hbd:tabD.all (fun p=>qfm P p.1&&qfm P p.2.clo)=true):TableOk P A (qns tab tabD):=by
 have cases':∀f af,qns tab tabD f=some af->(∃fn,af= .code fn/\(f,fn)∈tab)\/(∃d,af= .dfr d/\(f,d)∈tabD):=by
  intro f af hf;unfold qns at hf;split at hf
  ·rename_i fn hl;cases hf;exact .inl ⟨fn,rfl,qma hl⟩
  ·rw [Qs] at hf;obtain ⟨d,hl,rfl⟩:=hf;exact .inr ⟨d,rfl,qma hl⟩
 refine ⟨hm,?_,?_,?_,?_⟩
 ·intro f af hf;rcases cases' f af hf with ⟨fn,rfl,hl⟩ | ⟨d,rfl,hl⟩
  ·exact qin (Qr.1 hb _ hl)
  ·have:=Qr.1 hbd _ hl;simp only [Bool.and_eq_true] at this;exact qin this.1
 ·intro f fn hf;rcases cases' f _ hf with ⟨fn,h1,hl⟩ | ⟨d,h1,hl⟩
  ·cases h1;exact qaaw h hl
  ·cases h1
 ·intro f d hf;rcases cases' f _ hf with ⟨fn,h1,hl⟩ | ⟨d,h1,hl⟩
  ·cases h1
  ·cases h1;have h2:=QCq.1 hd _ hl;have h3:=Qr.1 hbd _ hl;simp only [Bool.and_eq_true] at h3;exact ⟨h2,qin h3.2⟩
 ·intro f g hf;rcases cases' f _ hf with ⟨fn,h1,hl⟩ | ⟨d,h1,hl⟩<;>cases h1
structure CloneD where
 f:Nat
 z:Nat
 bytes:Nat
 m:SM
 deriving Inhabited
def qpz (f:Nat):List CloneD->Option CloneD
 | []=>none
 | c::r=>if c.f=f then some c else qpz f r
theorem qo1 {f:Nat} {c:CloneD}:∀{l:List CloneD},qpz f l=some c->c∈l/\c.f=f
 | [],h=>by cases h
 | d::r,h=>by
  simp only [qpz] at h;split at h
  ·rename_i hd;cases h;exact ⟨QBe,hd⟩
  ·obtain ⟨h1,h2⟩:=qo1 h;exact ⟨QAk _ h1,h2⟩
def qp4 (tab:List (Nat×AFn)) (tabD:List (Nat×ADFn)) (tabC:List CloneD) (f:FuncId):Option AFun:=match look f tab with
 | some fn=>some (.code fn)
 | none=>match look f tabD with
  | some d=>some (.dfr d)
  | none=>(qpz f tabC).map fun c=> .rule (qcz c.z c.bytes c.m)
theorem qvh {P:Program} {A:Ann} {tab:List (Nat×AFn)} {tabD:List (Nat×ADFn)} {tabC:List CloneD} (hm:P.follows .mixedOrders=true) (h:tab.map (fun p=>cFn P A p.1)=tab.map (fun p=>some p.2)) (hb:tab.all (fun p=>qfm P p.1)=true)
  (hd:tabD.map (fun p=>cDFn P A p.1 p.2.clo)=tabD.map (fun p=>some p.2)) (hbd:tabD.all (fun p=>qfm P p.1&&qfm P p.2.clo)=true)
  (hc1:tabC.map (fun c=>qfa P (annC c.m false) (annC c.m true) c.f)=tabC.map (fun c=>some (qcp c.z c.bytes c.m)))
  (hc2:tabC.map (fun c=>qfa P (annC .app false) (annC .app true) c.f)=tabC.map (fun c=>some (qcp c.z c.bytes .app))) (hbc:tabC.all (fun c=>qfm P c.f)=true):TableOk P A (qp4 tab tabD tabC):=by
 have T:=qvg hm h hb hd hbd;have cases':∀f af,qp4 tab tabD tabC f=some af->qns tab tabD f=some af\/∃c,c∈tabC/\c.f=f/\af= .rule (qcz c.z c.bytes c.m):=by
  intro f af hf;unfold qp4 at hf;unfold qns;cases h1:look f tab with
  | some fn=>rw [h1] at hf;exact .inl hf
  | none=>
   rw [h1] at hf;cases h2:look f tabD with
   | some d=>rw [h2] at hf;exact .inl hf
   | none=>
    rw [h2] at hf;simp only [Qs] at hf;obtain ⟨c,hc,rfl⟩:=hf;obtain ⟨k1,k2⟩:=qo1 hc;exact .inr ⟨c,k1,k2,rfl⟩
 refine ⟨hm,?_,?_,?_,?_⟩
 ·intro f af hf;rcases cases' f af hf with hf | ⟨c,hc,rfl,rfl⟩
  ·exact T.body f af hf
  ·exact qin (Qr.1 hbc _ hc)
 ·intro f fn hf;rcases cases' f _ hf with hf | ⟨c,hc,rfl,h⟩
  ·exact T.code f fn hf
  ·cases h
 ·intro f d hf;rcases cases' f _ hf with hf | ⟨c,hc,rfl,h⟩
  ·exact T.dfr f d hf
  ·cases h
 ·intro f g hf;rcases cases' f _ hf with hf | ⟨c,hc,rfl,h⟩
  ·exact T.rule f g hf
  ·cases h;intro call hcall as H r H' hev F B0 w β vs hr ha;exact qr0 hm (QCq.1 hc1 _ hc) (QCq.1 hc2 _ hc) hcall hev hr ha
theorem qrn {n:Nat} {H:AH} {v:AV} {b:Bool} (h:snap n H v=some (.bool b)):v= .bool b:=by
 cases n with
 | zero=>cases h
 | succ n=>
  cases v with
  | bool b'=>cases h;rfl
  | agg cs=>simp only [snap,Qs] at h;obtain ⟨_,_,hh⟩:=h;cases hh
  | tup cs=>simp only [snap,Qs] at h;obtain ⟨_,_,hh⟩:=h;cases hh
  | iface t v=>simp only [snap,Qs] at h;obtain ⟨_,_,hh⟩:=h;cases hh
  | func fn a c=>
   simp only [snap] at h;split at h
   ·cases h
   ·simp only [Qs] at h;obtain ⟨_,_,hh⟩:=h;cases hh
  | ptr id z i off=>
   simp only [snap] at h;split at h
   ·split at h
    ·simp only [Qs] at h;obtain ⟨_,_,hh⟩:=h;cases hh
    ·cases h
   ·cases h
  | row id z off len=>
   simp only [snap] at h;split at h
   ·split at h
    ·simp only [Qs] at h;obtain ⟨_,_,hh⟩:=h;cases hh
    ·cases h
   ·cases h
  | _=>cases h
theorem qpk {Φ:FuncId->Option AFun} {f:FuncId} {as:List AV} {b:Bool} (h:qac Φ f as=some (.val (.bool b))):∃H',qai Φ f as H0=some (.val (.bool b),H'):=by
 unfold qac at h;cases hc:qai Φ f as H0 with
 | none=>rw [hc] at h;cases h
 | some p=>
  obtain ⟨r,H'⟩:=p;rw [hc] at h;refine ⟨H',?_⟩;cases r with
  | pan r=>
   simp only [qdx] at h;split at h<;>cases h
  | val r=>
   simp only [qdx] at h;split at h
   ·rename_i r' hr;cases h;rw [qrn hr]
   ·cases h
theorem qsh {Φ:FuncId->Option AFun} {f:FuncId} {as:List AV} {n:Nat} {b:Bool} (h:(evF Φ n f as H0).map (·.1)=some (.val (.bool b))):qac Φ f as=some (.val (.bool b)):=by
 rw [Qs] at h;obtain ⟨⟨r,H'⟩,h1,h2⟩:=h;simp only at h2;subst h2;unfold qac;rw [qp8 Φ h1];rfl
theorem qaef {α:Type} {P:Program} {B:Nat} {t:TypeId} {v:AV} {c:α->List AV} {ok:α->Prop} (h:WTV P B t v) (hu:qdi P t=true) (hr:∀xs,WT P B t xs->∃x,xs=c x/\ok x):∃x,v= .agg (c x)/\ok x:=by
 unfold WTV at h;rw [QAa hu] at h;obtain ⟨xs,rfl,h⟩:=h;obtain ⟨x,rfl,ho⟩:=hr xs h;exact ⟨x,rfl,ho⟩
theorem qtu {α:Type} {P:Program} {B:Nat} {t:TypeId} {v:AV} {c:α->List AV} {ok:α->Prop} (h:WTV P B t v) (hu:qdi P t=false) (hr:∀xs,WT P B t xs->∃x,xs=c x/\ok x):∃x,[v]=c x/\ok x:=by
 unfold WTV at h;rw [QA (by rw [hu];simp)] at h;exact hr _ h
theorem qkz {P:Program} {B:Nat} {t:TypeId} {ts:List TypeId} {vs:List AV} (h:WTVs P B (t::ts) vs):∃a r,vs=a::r/\WTV P B t a/\WTVs P B ts r:=by
 cases vs with
 | nil=>exact h.elim
 | cons a r=>exact ⟨a,r,rfl,h.1,h.2⟩
theorem qaa7 {P:Program} {B:Nat} {vs:List AV} (h:WTVs P B [] vs):vs=[]:=by
 cases vs with
 | nil=>rfl
 | cons a r=>exact h.elim
section
variable {H:Type} {enc:TypeId×Value->H} {P:Program} {B:Nat}
theorem qu2 {A:Ann} {Φ:FuncId->Option AFun} (T:TableOk P A Φ) (hl:laidOutB P=true) {f:FuncId} {fn:Func} {s:ChangeSpec} {tb:TypeId} (hv:s.vars=[])
    (hrt:fn.resultTypes= #[tb]) (htb:P.underlying tb=some .bool) (hread:fn.params.toList.all (fun t=>P.readableRec t&&decide (t<P.types.size))=true)
    (bk:BulkFn H) {ts:List TypeId} (hts:qgq P ts=true) (hpts:fn.params.toList.all (fun t=>qb2 t ts)=true)
    {W:World} {b0:Nat} {args:Array Value} {ds gs:List (DataW H)} {before:List MemPlace} {apart:Bool}
    (hval:∀(j:Nat) t v,fn.params[j]? =some t->args[j]? =some v->Value.okWide P W .any b0 t v)
    (hW:DataW.Whole enc P fn.params.toList s.vars apart W args.toList ds gs before)
    (hfn:∀l:List (DataW H),l.length=fn.params.size->s.fn H l={ results:=[.lit (.bool true)],args:=l }) (hb:bk.all (ds++gs)<=B)
    (law:∀as,WTVs P B fn.params.toList as->qac Φ f as=some (.val (.bool true))) {fresh handsOn again:Bool}:
    Calls P f args W fun e W'=>∃v,e= .returned v/\s.post enc P fn apart fresh handsOn again W args v W':=by
  have hgs:gs=[]:=by
    obtain ⟨p,q,hA,hV,_⟩:=hW;rw [hv] at hV;exact (trodVars_none hV).1
  have hdl:ds.length=fn.params.size:=by
    obtain ⟨p,q,hA,hV,_⟩:=hW;have gen:∀(ts:List TypeId) (vs:List Value) (ds:List (DataW H)) (p:List MemPlace),DataW.TrodAll enc P W 0 (fun _=>true) true ts vs ds p->ds.length=ts.length:=by
      intro ts
      induction ts with
      | nil=>intro vs ds p h;obtain ⟨rfl,rfl,rfl⟩:=trodAll_nil h;rfl
      | cons t ts ih=>
        intro vs ds p h;obtain ⟨v,vs,d,ds,p,q,rfl,rfl,rfl,h1,h2⟩:=trodAll_cons h;simp [ih _ _ _ h2]
    simpa using gen _ _ _ _ hA
  subst hgs;rw [List.append_nil] at hb;simp only [Qr,Bool.and_eq_true,decide_eq_true_eq] at hread;simp only [Qr] at hpts;exact qxr T hl hv hrt htb hread bk hts (fun t ht=>memNat_iff.1 (hpts t ht)) hval hW (by rw [List.append_nil];exact hfn ds hdl) hb (fun as has=>qpk (law as has))
end
end Go.Av
