/-
  An abstract interpreter over the model, proved sound: part D.
-/
import Derived.Test.YtbhkkpfccfoioaaGreatAvC
set_option linter.unusedVariables false
set_option linter.unusedSimpArgs false
set_option linter.constructorNameAsVariable false
namespace Go.Av
section
variable {F:Nat->Nat->Prop} {B0:Nat} {l:Nat}
def NC (o:Obj):Prop:=(∀c ty fz,o≠ .cells c ty fz)/\∀es ck,o≠ .map es ck
theorem QX (x:Loop):NC (.loop x):=⟨(by intro _ _ _ e;cases e),(by intro _ _ e;cases e)⟩
theorem Aj (x:Option (List Deferred)):NC (.deferred x):=⟨(by intro _ _ _ e;cases e),(by intro _ _ e;cases e)⟩
structure SB (l:Nat) (w w':World):Prop where
 os:w'.os=w.os
 tape:w'.tape=w.tape
 output:w'.output=w.output
 size:w'.heap.size=w.heap.size
 heap:∀b,b≠l->w'.heap[b]? =w.heap[b]?
 l1:∃x,w.heap[l]? =some x/\NC x
 l2:∃x,w'.heap[l]? =some x/\NC x
theorem SB.symm {w w':World} (h:SB l w w'):SB l w' w:=⟨h.os.symm,h.tape.symm,h.output.symm,h.size.symm,fun b hb=>(h.heap b hb).symm,h.l2,h.l1⟩
theorem SB.refl {w:World} {x:Loop} (h:w.heap[l]? =some (.loop x)):SB l w w:=⟨rfl,rfl,rfl,rfl,fun _ _=>rfl,⟨_,h,QX x⟩,⟨_,h,QX x⟩⟩
theorem SB.trans {w w' w2:World} (h:SB l w w') (k:SB l w' w2):SB l w w2:=
 ⟨k.os.trans h.os,k.tape.trans h.tape,k.output.trans h.output,k.size.trans h.size,fun b hb=>(k.heap b hb).trans (h.heap b hb),h.l1,k.l2⟩
theorem SB.putO {w:World} {x y:Obj} (h:w.heap[l]? =some x) (hx:NC x) (hy:NC y):SB l w (w.putObj l y):=
 ⟨rfl,rfl,rfl,World.putObj_size,fun b hb=>World.putObj_heap_other hb,⟨x,h,hx⟩,⟨y,World.putObj_heap_same (f5 h),hy⟩⟩
theorem SB.put {w:World} {x y:Loop} (h:w.heap[l]? =some (.loop x)):SB l w (w.putObj l (.loop y)):=SB.putO h (QX x) (QX y)
theorem SB.ne {w w':World} (h:SB l w w') {b:Nat} {o:Obj} (hb:w.heap[b]? =some o) (ho:¬NC o):w'.heap[b]? =some o:=by
 have:b≠l:=by
  rintro rfl;obtain ⟨x,hx,hn⟩:=h.l1;rw [hx] at hb;cases hb;exact ho hn
 rw [h.heap b this,hb]
theorem E' {c:Array Value} {ty:TypeId} {fz:Nat×Nat}:¬NC (.cells c ty fz):=fun h=>h.1 _ _ _ rfl
theorem Mf {es:Array MapEntry} {ck:Nat}:¬NC (.map es ck):=fun h=>h.2 _ _ rfl
theorem SB.cell {w w':World} (h:SB l w w') {b i:Nat} {u:Value} (hc:w.cell? ⟨b,i,none⟩=some u):w'.cell? ⟨b,i,none⟩=some u:=by
 obtain ⟨c,ty,fz,h1,h2⟩:=cell_iff.1 hc;exact cell_iff.2 ⟨c,ty,fz,h.ne h1 E',h2⟩
theorem SB.blk {w w':World} (h:SB l w w') {b:Nat} {c:Array Value} (hb:Blk w b c):Blk w' b c:=by
 obtain ⟨ty,h1⟩:=hb;exact ⟨ty,h.ne h1 E'⟩
theorem SB.vrd {w w':World} (h:SB l w w') {Z:Beta} {H:AH} {x:AV} {v:Value} (hx:VRD w (Imm F Z H) x v):VRD w' (Imm F Z H) x v:=
 hx.mono fun _ _ _ hi hc=>⟨hi,h.cell hc⟩
theorem SB.leaf {w w':World} (h:SB l w w') {Z:Beta} {H:AH} {x:AV} {v:Value} (hx:Leaf F w Z H x v):Leaf F w' Z H x v:=by
 cases x with
 | Xa esz es=>exact ⟨h.vrd hx.1,hx.2⟩
 | app esz es t=>
  obtain ⟨h1,h2,h3⟩:=hx;refine ⟨h1,h.vrd h2,?_⟩;intro z f hf;obtain ⟨m1,m2⟩:=h3 z f hf;refine ⟨m1,fun hfe=>?_⟩;have m3:=m2 hfe;cases hb:Z t with
  | none=>rw [hb] at m3;exact m3
  | some p=>
   obtain ⟨b,o⟩:=p;rw [hb] at m3;obtain ⟨len,cap,c,e1,e2,e3⟩:=m3;exact ⟨len,cap,c,e1,h.blk e2,e3⟩
 | ptr id esz i off=>exact hx
 | row id esz off len=>
  obtain ⟨h1,h0,h2⟩:=hx;refine ⟨h1,h0,fun z es hl=>?_⟩;obtain ⟨b,o,base,cap,c,e1,e2,e3,e4,e5,e6,e9⟩:=h2 z es hl;exact ⟨b,o,base,cap,c,e1,e2,e3,e4,h.blk e5,e6,e9⟩
 | map id=>exact hx
 | _=>exact hx.elim
theorem SB.vr {w w':World} (h:SB l w w') {Z:Beta} {H:AH} {x:AV} {v:Value} (hx:VRH F w Z H x v):VRH F w' Z H x v:=hx.mono (fun _ _=>h.vrd) (fun _ _=>h.leaf)
theorem SB.env {w w':World} (h:SB l w w') {Z:Beta} {H:AH} {e:Env} {T:Array Value} (he:EnvR F w Z H e T):EnvR F w' Z H e T:=
 fun t y ht=>let ⟨v,h1,h2⟩:=he t y ht;⟨v,h1,h.vr h2⟩
theorem SB.hr {w w':World} (h:SB l w w') {Z:Beta} {H:AH} (hr:HR F B0 w Z H):HR F B0 w' Z H:=by
 refine ⟨by rw [h.size];exact hr.base,hr.far,hr.uniq,hr.next,hr.inj,fun id ob hg=>?_⟩;have ho:=hr.obj id ob hg;cases ob with
 | row esz es=>
  obtain ⟨b,o,c,h1,h2,h3,h4,h5,h6⟩:=ho;refine ⟨b,o,c,h1,h2,h.blk h3,h4,h5,fun i j e x he hx=>?_⟩;obtain ⟨v,k1,k2,k3⟩:=h6 i j e x he hx;exact ⟨v,k1,k2,h.vr k3⟩
 | tok z f=>
  intro b o hb;obtain ⟨h1,c,h2,h3⟩:=ho b o hb;exact ⟨h1,c,h.blk h2,h3⟩
 | res=>exact ho
 | map ents=>
  obtain ⟨b,o,es,ck,h1,h2,h3,h4,h5⟩:=ho;refine ⟨b,o,es,ck,h1,h2,h.ne h3 Mf,h4,fun i k x e he hx=>?_⟩;obtain ⟨k1,k2⟩:=h5 i k x e he hx;exact ⟨h.vrd k1,h.vr k2⟩
theorem SB.ext {M:Nat->Nat->Prop} {w w' u u':World} (h:SB l w w') (k:SB l u u') (hl:u'.heap[l]? =w'.heap[l]?) (e:Ext M w u):Ext M w' u':=by
 refine ⟨k.os.trans (e.os.trans h.os.symm),k.tape.trans (e.tape.trans h.tape.symm),k.output.trans (e.output.trans h.output.symm),by rw [h.size,k.size];exact e.size,fun b hb=>?_⟩;by_cases hbl:b=l
 ·subst hbl;exact .inl hl
 ·rw [h.heap b hbl,k.heap b hbl];exact e.block b (by rw [<- h.size];exact hb)
theorem SB.tr {w w' u u':World} {Z Z':Beta} {H H':AH} (h:SB l w w') (k:SB l u u') (hl:u'.heap[l]? =w'.heap[l]?) (t:Tr w Z H u Z' H'):Tr w' Z H u' Z' H':=
 ⟨h.ext k hl t.ext,fun b i hm=>by rw [h.size];exact t.mutt b i hm,t.known,t.row,t.map,t.tok⟩
theorem Ext.stays {M:Nat->Nat->Prop} {w u:World} (e:Ext M w u) {b:Nat} {o:Obj} (hb:w.heap[b]? =some o) (h1:∀c ty fz,o≠ .cells c ty fz) (h2:∀es ck,o≠ .map es ck):u.heap[b]? =some o:=by
 rcases e.block b (f5 hb) with h | ⟨c,c',ty,h,_⟩ | ⟨_,es,ck,es',ck',h,_⟩
 ·rw [h,hb]
 ·rw [hb] at h;cases h;exact absurd rfl (h1 _ _ _)
 ·rw [hb] at h;cases h;exact absurd rfl (h2 _ _)
theorem SB.ext_old {M:Nat->Nat->Prop} {w u u':World} (k:SB l u u') (hl:w.heap.size<=l) (e:Ext M w u):Ext M w u':=by
 refine ⟨k.os.trans e.os,k.tape.trans e.tape,k.output.trans e.output,by rw [k.size];exact e.size,fun b hb=>?_⟩;rw [k.heap b (by omega)];exact e.block b hb
theorem SB.tr_old {w u u':World} {Z Z':Beta} {H H':AH} (k:SB l u u') (hl:w.heap.size<=l) (t:Tr w Z H u Z' H'):Tr w Z H u' Z' H':=
 ⟨k.ext_old hl t.ext,t.mutt,t.known,t.row,t.map,t.tok⟩
end
section
variable {F:Nat->Nat->Prop} {B0:Nat} {P:Program} {A:Ann} {fn nt:FuncId} {call:aW}
def setV (ps:List Nat) (vs:List Value) (T:Array Value):Array Value:=(ps.zip vs).foldl (fun T p=>T.setIfInBounds p.1 p.2) T
theorem UG:∀(ps:List Nat) (vs:List Value) (T:Array Value),(setV ps vs T).size=T.size
 | [],_,_=>rfl
 | _::_,[],_=>rfl
 | p::ps,v::vs,T=>by
  show (setV ps vs (T.setIfInBounds p v)).size=_;rw [UG];simp
theorem Kz (ps:Array Tmp) (vs T:Array Value):(ps.zip vs).foldl (fun tmps (t,a)=>tmps.setIfInBounds t a) T=setV ps.toList vs.toList T:=by
 rw [<- Array.foldl_toList,Array.toList_zip];rfl
theorem Z4 {w:World} {Z:Beta} {H:AH}:∀(ps:List Nat) (as:List AV) (vs:List Value) (e:Env) (T:Array Value),EnvR F w Z H e T->as.length=vs.length->(∀(i:Nat) x v,as[i]? =some x->vs[i]? =some v->VRH F w Z H x v)->
  (∀p∈ps,p<T.size)->EnvR F w Z H (CQ ps as e) (setV ps vs T)
 | [],_,_,e,T,he,_,_,_=>by simpa [CQ,setV] using he
 | p::ps,[],[],e,T,he,_,_,_=>by simpa [CQ,setV] using he
 | p::ps,[],_::_,e,T,he,hl,_,_=>by simp at hl
 | p::ps,_::_,[],e,T,he,hl,_,_=>by simp at hl
 | p::ps,a::as,v::vs,e,T,he,hl,hx,hp=>by
  show EnvR F w Z H (CQ ps as ((p,a)::e)) (setV ps vs (T.setIfInBounds p v));refine Z4 ps as vs _ _ ?_ (by simpa using hl) (fun i x y h1 h2=>hx (i+1) x y (by simpa using h1) (by simpa using h2)) (fun q hq=>by simpa using hp q (wI _ hq));intro t y hy;have hlt:=hp p (FL ..);by_cases h:p=t
  ·subst h;simp [look] at hy;subst hy;exact ⟨v,by simp [hlt],hx 0 _ _ rfl rfl⟩
  ·simp [look,h] at hy;obtain ⟨u,h1,h2⟩:=he t y hy;exact ⟨u,by simp [Array.getElem?_setIfInBounds_ne h,h1],h2⟩
structure YI (lp pid id:Nat) (r0:Loop) (w hw:World) (Z:Beta) (H:AH):Prop where
 sb:SB lp hw w
 hat:hw.heap[lp]? =some (.loop r0)
 gh:tok0 H pid=true->w.heap[lp]? =some (.loop r0)/\Z pid=none
 st:w.heap[lp]? =some (.loop r0)\/w.heap[lp]? =some (.loop { r0 with state:= .done,pending:=some (.exit id) })
 kn:H.Known pid
 df:w.heap[r0.defers]? =some (.deferred (some []))
theorem V0 {H:AH} {pid:Nat} (h:tok0 H pid=true):H.get pid=some (.tok 1 0):=by
 unfold tok0 at h;split at h
 ·assumption
 ·cases h
theorem Ll {H:AH} {pid:Nat} (h:H.get pid=some (.tok 1 0)):tok0 H pid=true:=by
 simp [tok0,h]
theorem Ext.loop {M:Nat->Nat->Prop} {w u:World} (e:Ext M w u) {b:Nat} {x:Loop} (hb:w.heap[b]? =some (.loop x)):u.heap[b]? =some (.loop x):=e.stays hb (by intro _ _ _ e;cases e) (by intro _ _ e;cases e)
theorem Ext.dfr {M:Nat->Nat->Prop} {w u:World} (e:Ext M w u) {b:Nat} {x:Option (List Deferred)} (hb:w.heap[b]? =some (.deferred x)):u.heap[b]? =some (.deferred x):=e.stays hb (by intro _ _ _ e;cases e) (by intro _ _ e;cases e)
theorem SB.dfr {lp:Nat} {w u:World} (e:SB lp w u) {b:Nat} (hne:b≠lp) {o:Option Obj} (hb:w.heap[b]? =o):u.heap[b]? =o:=(e.heap b hne).trans hb
variable {lp pid id n:Nat} {r0:Loop} {Y:List Nat}
theorem YI.step {w hw w':World} {Z Z':Beta} {H H':AH} (yi:YI lp pid id r0 w hw Z H) (t:Tr w Z H w' Z' H') (hr':HR F B0 w' Z' H'):
  ∃hw',Tr hw Z H hw' Z' H'/\HR F B0 hw' Z' H'/\YI lp pid id r0 w' hw' Z' H'/\SB lp w' hw':=by
 obtain ⟨x,hx⟩:∃x,w.heap[lp]? =some (.loop x):=by rcases yi.st with h | h;exact ⟨_,h⟩;exact ⟨_,h⟩
 have hx':=t.ext.loop hx;have sb':SB lp w' (w'.putObj lp (.loop r0)):=SB.put hx';have hl:(w'.putObj lp (.loop r0)).heap[lp]? =some (.loop r0):=World.putObj_heap_same (f5 hx');refine ⟨w'.putObj lp (.loop r0),yi.sb.symm.tr sb' (by rw [hl,yi.hat]) t,sb'.hr hr',⟨sb'.symm,hl,?_,?_,t.known _ yi.kn,t.ext.dfr yi.df⟩,sb'⟩
 ·intro hg;obtain ⟨f,h1,h2,h3⟩:=t.tok pid 1 0 yi.kn (V0 hg);have hf:f=0:=by omega
  subst hf;obtain ⟨g1,g2⟩:=yi.gh (Ll h1);exact ⟨t.ext.loop g1,(h3 rfl).trans g2⟩
 ·rcases yi.st with h | h
  ·exact .inl (t.ext.loop h)
  ·exact .inr (t.ext.loop h)
structure YE (F:Nat->Nat->Prop) (lp:Nat) (Y:List Nat) (w:World) (Z:Beta) (H:AH) (e:Env) (T:Array Value):Prop where
 o:∀t y,t∉Y->look t e=some y->∃v,T[t]? =some v/\VRH F w Z H y v
 y:∀t y,t∈Y->look t e=some y->(y=YV/\T[t]? =some (.func (.yield lp) #[] #[]))\/y= .tup []
def vN (Y:List Nat):Env->Env
 | []=>[]
 | (t,v)::r=>if t∈Y then vN Y r else (t,v)::vN Y r
theorem EY (Y:List Nat) (t:Nat):∀e:Env,look t (vN Y e)=if t∈Y then none else look t e
 | []=>by simp [vN,look]
 | (u,v)::r=>by
  have ih:=EY Y t r;by_cases hu:u∈Y
  ·simp only [vN,a9 hu,ih];by_cases ht:t∈Y
   ·simp [ht]
   ·have:¬u=t:=fun e=>ht (e ▸ hu)
    simp [ht,look,this]
  ·simp only [vN,a8 hu,look,ih];by_cases ht:t∈Y
   ·have:¬u=t:=fun e=>hu (e ▸ ht)
    simp [ht,this]
   ·by_cases h:u=t<;>simp [h,ht]
theorem YE.env {w:World} {Z:Beta} {H:AH} {e:Env} {T:Array Value} (h:YE F lp Y w Z H e T):EnvR F w Z H (vN Y e) T:=by
 intro t y hy;rw [EY] at hy;split at hy
 ·cases hy
 ·rename_i ht;exact h.o t y ht hy
theorem YE.tr {w w':World} {Z Z':Beta} {H H':AH} {e:Env} {T:Array Value} (h:YE F lp Y w Z H e T) (t:Tr w Z H w' Z' H'):YE F lp Y w' Z' H' e T:=
 ⟨fun u y hu hy=>let ⟨v,h1,h2⟩:=h.o u y hu hy;⟨v,h1,t.vr h2⟩,h.y⟩
theorem YE.sb {w w':World} {Z:Beta} {H:AH} {e:Env} {T:Array Value} (h:YE F lp Y w Z H e T) (t:SB lp w w'):YE F lp Y w' Z H e T:=
 ⟨fun u y hu hy=>let ⟨v,h1,h2⟩:=h.o u y hu hy;⟨v,h1,t.vr h2⟩,h.y⟩
theorem YE.put {w:World} {Z:Beta} {H:AH} {e:Env} {a:Act} {d:Option Nat} {x:AV} {v:Value} (h:YE F lp Y w Z H e a.tmps) (hd:∀k,d=some k->k<a.tmps.size)
  (hx:∀k,d=some k->if k∈Y then (x=YV/\v= .func (.yield lp) #[] #[])\/x= .tup [] else VRH F w Z H x v):YE F lp Y w Z H (putE e d x) (a.put d v).tmps:=by
 cases d with
 | none=>exact h
 | some d=>
  have hlt:=hd d rfl;have hx:=hx d rfl;refine ⟨fun t y ht hy=>?_,fun t y ht hy=>?_⟩
  ·rw [DN] at hy;by_cases hdt:d=t
   ·subst hdt;rw [a8 ht] at hx;simp at hy;subst hy;exact ⟨v,by simp [Act.put,hlt],hx⟩
   ·have:¬(some d=some t):=by simpa using hdt
    rw [a8 this] at hy;obtain ⟨u,h1,h2⟩:=h.o t y ht hy;exact ⟨u,by simp [Act.put,Array.getElem?_setIfInBounds_ne hdt,h1],h2⟩
  ·rw [DN] at hy;by_cases hdt:d=t
   ·subst hdt;rw [a9 ht] at hx;simp at hy;subst hy;rcases hx with ⟨h1,h2⟩ | h1
    ·exact .inl ⟨h1,by simp [Act.put,hlt,h2]⟩
    ·exact .inr h1
   ·have:¬(some d=some t):=by simpa using hdt
    rw [a8 this] at hy;rcases h.y t y ht hy with ⟨h1,h2⟩ | h1
    ·exact .inl ⟨h1,by simp [Act.put,Array.getElem?_setIfInBounds_ne hdt,h2]⟩
    ·exact .inr h1
structure YS (P:Program) (A:Ann) (fn nt:FuncId) (r0:Loop) (lp id:Nat) (e0:Env) (ps:List Nat) (asg body:Xb):Prop where
 ca:bW P A fn nt r0.assign=some asg
 cb:bW P A fn nt r0.body=some body
 pq:r0.params.toList=ps
 pl:∀p∈ps,p<r0.tmps.size
 sz:r0.tmps.size=nt
 st:r0.state= .ready
 pe:r0.pending=none
 ld:lp≠r0.defers
theorem Lt {r:Loop} (h1:r.state= .ready) (h2:r.pending=none):{ { r with state:= .busy } with state:= .ready,pending:=none }=r:=by
 cases r;simp only at h1 h2;subst h1 h2;rfl
theorem Dp (hc:CallOk P call) (hm:P.follows .mixedOrders=true) {e0:Env} {ps:List Nat} {asg body:Xb} (ys:YS P A fn nt r0 lp id e0 ps asg body)
    {w hw:World} {Z:Beta} {H H':AH} (yi:YI lp pid id r0 w hw Z H) (hr:HR F B0 hw Z H) (he0:EnvR F hw Z H e0 r0.tmps) {as:List AV} {vs:Array Value} (ha:ArgsR F hw Z H as vs) {r:Rt}
    (hev:hB call n pid id e0 ps asg body YID as H=some (r,H')) {m:Nat} {R:Ending->World->Prop}
    (hR:∀b w' hw' Z',r= .val (.bool b)->Tr hw Z H hw' Z' H'->HR F B0 hw' Z' H'->YI lp pid id r0 w' hw' Z' H'->R (.returned (.bool b)) w'):
    w.heap[lp]? =some (.loop r0)/\vs.size=r0.params.size/\RoundIn (WF none) m P lp r0.fn ((r0.params.zip vs).foldl (fun tmps (t,a)=>tmps.setIfInBounds t a) r0.tmps) r0.assign r0.body w R:=by
  unfold hB at hev;rw [a9 rfl] at hev;split at hev
  rotate_left
  · cases hev
  rename_i hg;simp only [QA,beq_iff_eq] at hg;obtain ⟨hg,hlen⟩:=hg;obtain ⟨hw0,hb0⟩:=yi.gh hg;have hvs:vs.size=r0.params.size:=by rw [<- ha.1,hlen,<- ys.pq];simp
  refine ⟨hw0,hvs,?_⟩;rw [Kz,ys.pq];split at hev
  rotate_left
  · cases hev
  rename_i s1 hs1;refine roundIn_of_wpIn (F:=WF none) trivial ?_;have hew:EnvR F w Z H (CQ ps as e0) (setV ps vs.toList r0.tmps):=
    yi.sb.env (Z4 ps as vs.toList e0 r0.tmps he0 (by simpa using ha.1) (fun i x v h1 h2=>ha.2 i x v h1 (by simpa using h2)) ys.pl)
  refine gZ (ro:=some lp) (m:=m) hc hm n r0.assign asg ys.ca _ ⟨CQ ps as e0,H⟩ .normal s1 { tmps:=setV ps vs.toList r0.tmps,defers:=[] } w Z hs1 (yi.sb.hr hr) hew (by simpa [UG] using ys.sz) ?_;rintro a1 w1 ⟨Z1,t1,h1,env1,z1,d1⟩;have l1:=t1.ext.loop hw0;refine ⟨_,run_beginRound l1 ys.st,?_⟩;have sb1:SB lp w1 (w1.putObj lp (.loop { r0 with state:= .busy })):=SB.put l1;have lb:(w1.putObj lp (.loop { r0 with state:= .busy })).heap[lp]? =some (.loop { r0 with state:= .busy }):=World.putObj_heap_same (f5 l1);have z2:a1.tmps.size=nt:=z1.trans (by simpa [UG] using ys.sz);have fin:∀(a2:Act) (w3:World) (s2:St) (j:Option Code),Fine F B0 (w1.putObj lp (.loop { r0 with state:= .busy })) Z1 s1.h a1 a2 w3 s2->∃w4,(Instr.endRound lp j).run P w3= .ok (.bool j.isNone) w4/\
      ∃hw' Z',Tr hw Z H hw' Z' s2.h/\HR F B0 hw' Z' s2.h/\SB lp hw' w4/\hw'.heap[lp]? =some (.loop r0)/\w4.heap[lp]? =some (.loop { r0 with state:=if j.isNone then .ready else .done,pending:=j })/\(tok0 s2.h pid=true->Z' pid=none)/\w4.heap[r0.defers]? =some (.deferred (some [])):=by
    rintro a2 w3 s2 j ⟨Z2,t2,h2,env2,z3,d3⟩;have l3:=t2.ext.loop lb;have k0:Tr hw Z H w Z H:=(SB.refl yi.hat).tr yi.sb (by rw [hw0,yi.hat]) (Tr.refl hw Z H);have k2:Tr w1 Z1 s1.h (w3.putObj lp (.loop r0)) Z2 s2.h:=sb1.symm.tr (SB.put l3) (by rw [World.putObj_heap_same (f5 l3),l1]) t2;have k3:=(k0.trans t1).trans k2;refine ⟨_,run_endRound j l3,w3.putObj lp (.loop r0),Z2,k3,(SB.put l3).hr h2,(SB.put l3).symm.trans (SB.put l3),World.putObj_heap_same (f5 l3),World.putObj_heap_same (f5 l3),?_,?_⟩
    · intro h
      obtain ⟨f,q1,q2,q3⟩:=k3.tok pid 1 0 yi.kn (V0 h);have hf:f=0:=by omega
      subst hf;exact (q3 rfl).trans hb0
    · exact (SB.put l3).dfr (Ne.symm ys.ld) (t2.ext.dfr (sb1.dfr (Ne.symm ys.ld) (t1.ext.dfr yi.df)))
  split at hev
  · rename_i s2 hs2
    cases hev;refine gZ (ro:=some lp) (m:=m) hc hm n r0.body body ys.cb _ s1 .normal s2 a1 _ Z1 hs2 (sb1.hr h1) (sb1.env env1) z2 ?_;intro a2 w3 hf;obtain ⟨w4,e4,hw',Z',q1,q2,q3,q4,q5,q6,q7⟩:=fin a2 w3 s2 none hf;refine ⟨_,w4,e4,hR true w4 hw' Z' rfl q1 q2 ⟨q3,q4,fun h=>⟨?_,q6 h⟩,.inl ?_,q1.known _ yi.kn,q7⟩⟩
    all_goals
      rw [q5];exact congrArg (fun x=>some (Obj.loop x)) (Lt ys.st ys.pe)
  · rename_i i s2 hs2
    split at hev
    · rename_i hi
      simp only [QA,beq_iff_eq] at hi;obtain ⟨rfl,hi⟩:=hi;cases hev;refine gZ (ro:=some lp) (m:=m) hc hm n r0.body body ys.cb _ s1 (.exit i) s2 a1 _ Z1 hs2 (sb1.hr h1) (sb1.env env1) z2 ?_;intro a2 w3 hf;obtain ⟨w4,e4,hw',Z',q1,q2,q3,q4,q5,q6,q7⟩:=fin a2 w3 s2 (some (.exit i)) hf;have tk:=z7 q2 pid;refine ⟨_,w4,e4,hR false w4 hw' Z' rfl (q1.trans tk) (lP q2 pid) ⟨q3,q4,fun h=>?_,.inr q5,(q1.trans tk).known _ yi.kn,q7⟩⟩;have:=V0 h;rw [mR q2,a9 rfl] at this;cases this
    · cases hev
  · cases hev
def Inv (F:Nat->Nat->Prop) (B0 lp pid id:Nat) (r0:Loop) (Y:List Nat) (w0:World) (Z0:Beta) (H0:AH) (ni:Nat) (a:Act) (w:World) (s:St):Prop:=
 ∃hw Z,Tr w0 Z0 H0 hw Z s.h/\HR F B0 hw Z s.h/\YE F lp Y hw Z s.h s.e a.tmps/\YI lp pid id r0 w hw Z s.h/\a.tmps.size=ni/\a.defers=[]
def QY (I:Act->World->St->Prop) (ex:Ex) (s':St) (Q:Exit->Act->World->Prop):Prop:=match ex with
 | .normal=>∀a' w',I a' w' s'->Q .normal a' w'
 | .exit i=>∀a' w',I a' w' s'->Q (.exit i) a' w'
 | .ret=>∀a' w',I a' w' s'->Q .ret a' w'
 | .pan _=>∀a' w' u,Q (.panic [{ v:=u,recovered:=false }]) a' w'
theorem F6 {e0:Env} {ps:List Nat} {asg body:Xb} {f:FuncId} (h:f≠YID):hB call n pid id e0 ps asg body f=call f:=by
 funext as H;unfold hB;rw [a8 h]
theorem Ch {e0:Env} {ps:List Nat} {asg body:Xb} {e:Env} {nx:Nat} {H:AH} {op:AOp} (h:op.dyn=false):a7 (hB call n pid id e0 ps asg body) e nx H op=a7 call e nx H op:=by
 cases op
 case pcall f xs=>simp only [AOp.dyn,beq_eq_false_iff_ne] at h;simp only [a7,dL,F6 h]
 case tcall f xs=>simp only [AOp.dyn,beq_eq_false_iff_ne] at h;simp only [a7,F6 h]
 case pcallk f xs=>simp only [AOp.dyn,beq_eq_false_iff_ne] at h;simp only [a7,dL,F6 h]
 case pcallr f xs=>simp only [AOp.dyn,beq_eq_false_iff_ne] at h;simp only [a7,jQ,F6 h]
 case pcallf f xs=>simp only [AOp.dyn,beq_eq_false_iff_ne] at h;simp only [a7,lQ,F6 h]
 case pcallz d f xs=>simp only [AOp.dyn,beq_eq_false_iff_ne] at h;simp only [a7,dL,F6 h]
 case pcallv=>cases h
 case tcallv=>cases h
 case pinvoke=>cases h
 case tinvoke=>cases h
 all_goals rfl
theorem YF:∀{os:List Oper} {as:List Xc},NO Y os as=true->∀{i:Nat} {o:Oper} {ao:Xc},os[i]? =some o->as[i]? =some ao->VM Y o ao=true
 | [],_,_,i,o,ao,h,_=>by simp at h
 | _::_,[],hy,_,_,_,_,_=>by cases hy
 | o::os,a::as,hy,i,o',ao',h1,h2=>by
  simp only [NO,QA] at hy;cases i with
  | zero=>simp at h1 h2;subst h1 h2;exact hy.1
  | succ i=>exact YF hy.2 (by simpa using h1) (by simpa using h2)
theorem Di {e:Env} {ao:Xc} (h:yGd Y ao=true):dT (vN Y e) ao.guard=dT e ao.guard:=by
 unfold yGd at h;cases hg:ao.guard with
 | none=>rfl
 | some p=>
  obtain ⟨t,b⟩:=p;rw [hg] at h;simp only [jK,A1,decide_eq_false_iff_not] at h;simp only [dT,EY,a8 h]
theorem Gx {w:World} {a:Act} {o:Oper} {c:Call} {g:Operand} (ho:o.op= .call c) (hg:c.callee= .value g) (hv:a.eval g= .func (.yield lp) #[] #[]) (hl:w.heap[lp]? =some (.loop r0)) (hs:c.args.size=r0.params.size):
  (execOp a.eval o).run P w= .ok (.round lp r0.fn ((r0.params.zip (c.args.map a.eval)).foldl (fun tmps (t,a)=>tmps.setIfInBounds t a) r0.tmps) r0.assign r0.body) w:=by
 have:=run_yield (P:=P) (args:=c.args.map a.eval) hl (by simpa using hs);unfold execOp;simp [ho,resolve,hg,hv,Deferred.ofValue,invoke];simpa using this
theorem DK (hc:CallOk P call) (hm:P.follows .mixedOrders=true) {gi ni:FuncId} {e0:Env} {ps:List Nat} {asg body:Xb} (ys:YS P A fn nt r0 lp id e0 ps asg body) {w0:World} {Z0:Beta} {H0:AH} (he0:EnvR F w0 Z0 H0 e0 r0.tmps)
    {m:Nat} {ops:Array Oper} {l:List Xc} (hl:mapO (jD P A gi ni ops) ops.toList=some l) (hy:NO Y ops.toList l=true) {Q:Exit->Act->World->Prop} (base:Option Nat):
    ∀(L:List Nat) (s:St) (ex:Ex) (s':St) (a:Act) (w:World),b7 (hB call n pid id e0 ps asg body) base (L.filterMap (l[·]?)) s=some (ex,s')->Inv F B0 lp pid id r0 Y w0 Z0 H0 ni a w s->
      QY (Inv F B0 lp pid id r0 Y w0 Z0 H0 ni) ex s' Q->wpOpsIn (WF none) m P ops Q L a w
  | [],s,ex,s',a,w,hev,hi,hq=>by
    cases hev;exact hq a w hi
  | i::L,s,ex,s',a,w,hev,hi,hq=>by
    simp only [wpOpsIn];cases ho:ops[i]? with
    | none=>
      have hi':l[i]? =none:=by
        have h1:ops.size<=i:=by simpa using ho
        have h2:=cN hl;simp at h2;exact Qi (by omega)
      rw [List.filterMap_cons_none hi'] at hev;exact DK hc hm ys he0 hl hy base L s ex s' a w hev hi hq
    | some o=>
      have hii:∃ao,l[i]? =some ao/\jD P A gi ni ops o=some ao:=(vD hl).2 i o (by simpa using ho);obtain ⟨ao,hao,hco⟩:=hii;rw [kC hao] at hev;have hyo:=YF hy (i:=i) (by simpa using ho) hao;simp only [VM,QA] at hyo;obtain ⟨hyg,hyo⟩:=hyo;obtain ⟨h1,h2,h3,h4⟩:=Q8 hco;obtain ⟨hw,Z,t0,hr,ye,yi,hn,hdf⟩:=hi;have hrw:=yi.sb.hr hr;have hew:=yi.sb.env ye.env;have hd3:∀k,o.dst=some k->k<a.tmps.size:=by intro k hk;rw [hn];exact h3 k hk
      simp only;rw [b7] at hev;cases hg:dT s.e ao.guard with
      | none=>rw [hg] at hev;cases hev
      | some b=>
        rw [hg] at hev;rw [UH hco hew (by rw [Di hyg];exact hg)];cases b with
        | false=>
          simp only at hev;simp only [eM,if_false];rw [h2] at hev;refine ⟨fun _ _=>trivial,?_⟩;refine DK hc hm ys he0 hl hy base L _ ex s' (a.put o.dst undef) w hev ⟨hw,Z,t0,hr,?_,yi,by rw [jC];exact hn,by rw [vI];exact hdf⟩ hq;refine ye.put hd3 fun k _=>?_
          split
          · exact .inr rfl
          · exact .d (.tup [] #[] rfl (by simp))
        | true=>
          simp only at hev;simp only [if_true];cases hcall:a7 (hB call n pid id e0 ps asg body) s.e (bN base ao.dst s.h) s.h ao.op with
          | none=>rw [hcall] at hev;cases hev
          | some p=>
            obtain ⟨r,H1⟩:=p;rw [hcall] at hev;simp only [A4] at hyo;rcases hyo with (hmv | hyl) | hel
            · -- 'yield' is moved
              unfold yMov at hmv;split at hmv
              rotate_left
              · cases hmv
              rename_i t hop;simp only [QA,A1,decide_eq_true_eq] at hmv;obtain ⟨ht,hd⟩:=hmv;have hao2:ao.op= .mov (.t t):=by
                simp only [cOp,hop,cX,A3,Option.some.injEq] at h1;exact h1.symm
              rw [hao2] at hcall;simp only [a7,evOp,evX] at hcall;cases hlk:look t s.e with
              | none=>rw [hlk] at hcall;cases hcall
              | some v=>
                rw [hlk] at hcall;cases hcall;simp only at hev;rw [h2] at hev;refine ⟨fun _ _=>trivial,?_⟩;have hx:(o.semAt (WF none).round a.eval).run P w= .ok (.value (a.eval (.tmp t))) w:=by
                  show (execOp a.eval o).run P w=_;simp [execOp,hop]
                rw [hx];refine DK hc hm ys he0 hl hy base L _ ex s' (a.put o.dst (a.eval (.tmp t))) w hev ⟨hw,Z,t0,hr,?_,yi,by rw [jC];exact hn,by rw [vI];exact hdf⟩ hq;refine ye.put hd3 fun k hk=>?_
                rw [hk] at hd;simp only [A1,decide_eq_true_eq] at hd;rw [a9 hd];rcases ye.y t v ht hlk with ⟨q1,q2⟩ | q1
                · exact .inl ⟨q1,by simp [Act.eval,nH,q2]⟩
                · exact .inr q1
            · -- 'yield' is called
              unfold yYld at hyl;split at hyl
              rotate_left
              · cases hyl
              rename_i c x xs hop haop;simp only [QA] at hyl;obtain ⟨⟨hcal,hxs⟩,hd⟩:=hyl;split at hcal
              rotate_left
              · cases hcal
              rename_i t hcl;simp only [QA,A1,decide_eq_true_eq] at hcal;obtain ⟨ht,hxt⟩:=hcal;have hxe:x= .t t:=by
                cases x with
                | t u=>simp only [beq_iff_eq] at hxt;rw [hxt]
                | c v=>cases hxt
              subst hxe;have hcx:cXs P c.argTypes.toList c.args.toList=some xs:=by
                simp only [cOp,hop,zA,hcl] at h1;split at h1
                · rename_i as has
                  rw [haop] at h1;split at h1<;>cases h1;exact has
                · cases h1
              rw [haop] at hcall;simp only [a7,evX] at hcall;cases hlk:look t s.e with
              | none=>rw [hlk] at hcall;cases hcall
              | some fv=>
                rw [hlk] at hcall;have hys:mapO (evX s.e) xs=mapO (evX (vN Y s.e)) xs:=gM fun z hz=>by
                  cases z with
                  | c v=>rfl
                  | t u=>
                    have:u∉Y:=by
                      intro hu;have:xs.any (axIn Y)=true:=PU.2 ⟨_,hz,by simpa [axIn] using hu⟩;simp [this] at hxs
                    simp only [evX,EY,a8 this]
                cases hva:mapO (evX s.e) xs with
                | none=>rw [hva] at hcall;cases hcall
                | some as=>
                  rw [hva] at hcall;rcases ye.y t fv ht hlk with ⟨rfl,q2⟩ | rfl
                  rotate_left
                  · simp [tgt2] at hcall
                  simp only [YV,tgt2,List.nil_append,List.append_nil] at hcall;have ha:ArgsR F hw Z s.h as (c.args.map a.eval):=vG ye.env hcx (by rw [<- hys];exact hva);have hv:a.eval (.tmp t)= .func (.yield lp) #[] #[]:=by simp [Act.eval,nH,q2]
                  obtain ⟨k1,k2,k3⟩:=Dp hc hm ys yi hr (t0.env he0) ha hcall (m:=m - 1) (R:=fun
                    | .returned v,w''=>wpOpsIn (WF none) m P ops Q L (a.put o.dst v) w''
                    | .panicked chain,w''=>Q (.panic chain) a w''
                    | .outgrown,_=>LetsOut Q) (by
                      rintro b w' hw' Z' rfl t1 hr1 yi1;simp only at hev;rw [h2] at hev;refine DK hc hm ys he0 hl hy base L _ ex s' (a.put o.dst (.bool b)) w' hev ⟨hw',Z',t0.trans t1,hr1,?_,yi1,by rw [jC];exact hn,by rw [vI];exact hdf⟩ hq;refine (ye.tr t1).put hd3 fun k hk=>?_
                      rw [hk] at hd;simp only [jK,A1,decide_eq_false_iff_not] at hd;rw [a8 hd];exact .d (.bool b))
                  refine ⟨fun _ _=>trivial,?_⟩;have hx:(o.semAt (WF none).round a.eval).run P w=_:=Gx (P:=P) hop hcl hv k1 (by simpa using k2);rw [hx];exact ⟨fun hd=>(by cases hd),k3⟩
            · -- another operation
              unfold yElse at hel;simp only [QA,jK] at hel;obtain ⟨⟨hdy,hrd⟩,hd⟩:=hel;rw [Ch hdy,TS (e':=vN Y s.e) (fun t ht=>by
                have:t∉Y:=fun hY=>by
                  have:ao.op.rds.any Y.contains=true:=PU.2 ⟨t,ht,by simpa using hY⟩;simp [this] at hrd
                rw [EY,a8 this])] at hcall
              refine YC (Y0 h1) ?_;refine U9 hc hrw hew (TZ _ _ _) h1 hcall ⟨?_,?_⟩
              · intro x v w' hx hgood
                subst hx;simp only at hev;rw [h2] at hev;obtain ⟨Z',t1,g2,g3⟩:=hgood;obtain ⟨hw',t2,hr2,yi2,sb2⟩:=yi.step t1 g2;refine DK hc hm ys he0 hl hy base L _ ex s' (a.put o.dst v) w' hev ⟨hw',Z',t0.trans t2,hr2,?_,yi2,by rw [jC];exact hn,by rw [vI];exact hdf⟩ hq;refine (ye.tr t2).put hd3 fun k hk=>?_
                rw [hk] at hd;simp only [jK,A1,decide_eq_false_iff_not] at hd;rw [a8 hd];exact sb2.vr g3
              · intro x u w' hx hgood
                subst hx;simp only at hev;cases hev;exact hq a w' u
theorem Bz (hc:CallOk P call) (hm:P.follows .mixedOrders=true) {gi ni:FuncId} {e0:Env} {ps:List Nat} {asg body:Xb} (ys:YS P A fn nt r0 lp id e0 ps asg body) {w0:World} {Z0:Beta} {H0:AH} (he0:EnvR F w0 Z0 H0 e0 r0.tmps)
    {m k rid:Nat} {ops:Array Oper} {draw:Bool} {ac:Xb} (h:F7 P A gi ni rid ops draw=some ac) (hy:mK P A gi ni Y (.region rid ops draw)=true) {Q:Exit->Act->World->Prop}
    {s:St} {ex:Ex} {s':St} {a:Act} {w:World} (hev:evC (hB call n pid id e0 ps asg body) k ac s=some (ex,s')) (hi:Inv F B0 lp pid id r0 Y w0 Z0 H0 ni a w s) (hq:QY (Inv F B0 lp pid id r0 Y w0 Z0 H0 ni) ex s' Q):
    (Code.region rid ops draw).wpIn (WF none) m P Q a w:=by
  simp only [mK] at hy;unfold F7 at h;cases hl:mapO (jD P A gi ni ops) ops.toList with
  | none=>rw [hl] at h;cases h
  | some l=>
    rw [hl] at h hy;simp only [QA,Option.isNone_iff_eq_none] at h hy;obtain ⟨⟨hyo,hdr⟩,hk⟩:=hy;rw [hk] at h;have hlen:l.length=ops.size:=by have:=cN hl;simpa using this.symm
    have hf:(List.range ops.size).filterMap (l[·]?)=l:=by rw [<- hlen];exact TT l
    cases draw with
    | false=>
      simp only [eM,if_false,Option.some.injEq] at h;subst h;simp only [evC,CT,if_true] at hev;refine wpIn_region ?_;refine DK hc hm ys he0 hl hyo none _ s ex s' a w (by
        rw [hf];split at hev
        · rename_i s1 hs1
          cases hev;exact hs1
        · simpa using hev) hi hq
    | true=>
      simp only [Bool.not_true,Bool.false_or,QA] at hdr;obtain ⟨⟨hd,hemp⟩,hsp⟩:=hdr;have hp:yX ops l=[]:=List.isEmpty_iff.1 hemp;simp only [if_true,hd] at h;rw [a8 (by
        rw [hp];simp only [CT,Bool.and_true];rintro ⟨h1,h2⟩;simp at h1;simp [h1,h2] at hsp)] at h
      cases h;rw [hp] at hd;simp only [evC,hp,CT,if_true] at hev;split at hev
      rotate_left
      · cases hev
      rename_i s1 hs1;cases hev;refine wpIn_region_draw fun t=>?_
      simp only [Region.schedule,hm,Bool.true_or,if_true];obtain ⟨s2,q1,q2,q3⟩:=YH hlen hd (by rfl) hs1 t;obtain ⟨hw,Z,t0,hr,ye,yi,hn,hdf⟩:=hi;refine DK hc hm ys he0 hl hyo none _ s .normal s2 a w.drew q1 ⟨hw.drew,Z,t0.trans tr_drew,hr.drew,ye.tr tr_drew,⟨⟨yi.sb.os,yi.sb.tape,yi.sb.output,yi.sb.size,yi.sb.heap,yi.sb.l1,yi.sb.l2⟩,yi.hat,yi.gh,yi.st,yi.kn,yi.df⟩,hn,hdf⟩ ?_;rintro a' w' ⟨hw',Z',t1,hr1,eB,yi1,hn1,hdf1⟩;rw [q3] at t1 hr1 yi1 eB;refine hq a' w' ⟨hw',Z',t1,hr1,⟨fun u y hu hlk=>eB.o u y hu (by rw [<- q2 u];exact hlk),fun u y hu hlk=>eB.y u y hu (by rw [<- q2 u];exact hlk)⟩,yi1,hn1,hdf1⟩
theorem mS (hc:CallOk P call) (hm:P.follows .mixedOrders=true) {gi ni:FuncId} {e0:Env} {ps:List Nat} {asg body:Xb} (ys:YS P A fn nt r0 lp id e0 ps asg body) {w0:World} {Z0:Beta} {H0:AH} (he0:EnvR F w0 Z0 H0 e0 r0.tmps)
    {m:Nat} (k:Nat):∀(c:Code) (ac:Xb),bW P A gi ni c=some ac->mK P A gi ni Y c=true->∀(Q:Exit->Act->World->Prop) (s:St) (ex:Ex) (s':St) (a:Act) (w:World),
    evC (hB call n pid id e0 ps asg body) k ac s=some (ex,s')->Inv F B0 lp pid id r0 Y w0 Z0 H0 ni a w s->QY (Inv F B0 lp pid id r0 Y w0 Z0 H0 ni) ex s' Q->c.wpIn (WF none) m P Q a w
  | .skip,ac,h,hy,Q,s,ex,s',a,w,hev,hi,hq=>by
    cases h;cases hev;exact wpIn_skip (hq a w hi)
  | .region rid ops draw,ac,h,hy,Q,s,ex,s',a,w,hev,hi,hq=>Bz hc hm ys he0 h hy hev hi hq
  | .seq x y,ac,h,hy,Q,s,ex,s',a,w,hev,hi,hq=>by
    simp only [bW] at h;simp only [mK,QA] at hy;split at h
    · rename_i ax ay hx hy'
      cases h;simp only [evC] at hev;refine wpIn_seq ?_;split at hev
      · rename_i s1 hs1
        refine mS hc hm ys he0 k x ax hx hy.1 _ s .normal s1 a w hs1 hi ?_;intro a' w' hf;exact mS hc hm ys he0 k y ay hy' hy.2 Q s1 ex s' a' w' hev hf hq
      · rename_i hne
        refine mS hc hm ys he0 k x ax hx hy.1 _ s ex s' a w hev hi ?_;cases ex with
        | normal=>exact absurd hev (hne s')
        | exit i=>exact hq
        | ret=>exact hq
        | pan v=>exact hq
    · cases h
  | .cond c x y,ac,h,hy,Q,s,ex,s',a,w,hev,hi,hq=>by
    simp only [bW] at h;simp only [mK,QA] at hy;obtain ⟨⟨hcy,hyx⟩,hyy⟩:=hy;split at h
    · rename_i cx ax ay hcx hx hy'
      cases h;simp only [evC] at hev;have hi':=hi;obtain ⟨hw,Z,t0,hr,ye,yi,hn,hdf⟩:=hi;have hcs:evX (vN Y s.e) cx=evX s.e cx:=by
        cases c with
        | tmp t=>
          cases hcx;simp only [tmpIn,jK,A1,decide_eq_false_iff_not] at hcy;simp only [evX,EY,a8 hcy]
        | const v=>
          obtain ⟨z,_,rfl⟩:=map_some hcx;rfl
        | func f=>cases hcx;rfl
        | global g=>cases hcx
      split at hev
      · rename_i hcv
        exact wpIn_cond_true (iR (aO hcx ye.env (by rw [hcs];exact hcv))) (mS hc hm ys he0 k x ax hx hyx Q s ex s' a w hev hi' hq)
      · rename_i hcv
        exact wpIn_cond_false (iR (aO hcx ye.env (by rw [hcs];exact hcv))) (mS hc hm ys he0 k y ay hy' hyy Q s ex s' a w hev hi' hq)
      · cases hev
    · cases h
  | .block bid b,ac,h,hy,Q,s,ex,s',a,w,hev,hi,hq=>by
    simp only [bW] at h;obtain ⟨ab,hb,rfl⟩:=map_some h;simp only [evC] at hev;refine wpIn_block ?_;split at hev
    · rename_i i s1 hs1
      split at hev
      · rename_i hii
        cases hev;refine mS hc hm ys he0 k b ab hb hy _ s (.exit i) s' a w hs1 hi ?_;intro a' w' hf;simp only [Exit.inBlock,a9 hii];exact hq a' w' hf
      · rename_i hii
        cases hev;refine mS hc hm ys he0 k b ab hb hy _ s (.exit i) s' a w hs1 hi ?_;intro a' w' hf;simp only [Exit.inBlock,a8 hii];exact hq a' w' hf
    · rename_i hne
      refine mS hc hm ys he0 k b ab hb hy _ s ex s' a w hev hi ?_;cases ex with
      | exit i=>exact absurd hev (hne i s')
      | normal=>exact hq
      | ret=>exact hq
      | pan v=>exact hq
  | .loop b,ac,h,hy,Q,s,ex,s',a,w,hev,hi,hq=>by
    simp only [bW] at h;obtain ⟨ab,hb,rfl⟩:=map_some h;simp only [evC] at hev;have key:∀(j:Nat) (s:St) (a:Act) (w:World),mY (evC (hB call n pid id e0 ps asg body) k ab) j s=some (ex,s')->Inv F B0 lp pid id r0 Y w0 Z0 H0 ni a w s->QY (Inv F B0 lp pid id r0 Y w0 Z0 H0 ni) ex s' Q->
        Code.roundsIn (WF none) m P b Q j a w:=by
      intro j
      induction j with
      | zero=>intro s a w hev;cases hev
      | succ j ih=>
        intro s a w hev hi hq;simp only [mY] at hev;rw [roundsIn_succ];split at hev
        · rename_i s1 hs1
          refine mS hc hm ys he0 k b ab hb hy _ s .normal s1 a w hs1 hi ?_;intro a' w' hf;exact ih s1 a' w' hev hf hq
        · rename_i hne
          refine mS hc hm ys he0 k b ab hb hy _ s ex s' a w hev hi ?_;cases ex with
          | normal=>exact absurd hev (hne s')
          | exit i=>exact hq
          | ret=>exact hq
          | pan v=>exact hq
    exact wpIn_loop_rounds k (key k s a w hev hi hq)
  | .exit i,ac,h,hy,Q,s,ex,s',a,w,hev,hi,hq=>by
    cases h;cases hev;exact wpIn_exit (hq a w hi)
  | .ret,ac,h,hy,Q,s,ex,s',a,w,hev,hi,hq=>by
    cases h;cases hev;exact wpIn_ret (hq a w hi)
  | .rangeFunc ..,_,h,_,_,_,_,_,_,_,_,_,_=>by cases h
  | .scope b,_,_,hy,_,_,_,_,_,_,_,_,_=>by cases hy
  | .label _,_,_,hy,_,_,_,_,_,_,_,_,_=>by cases hy
  | .goto _,_,h,_,_,_,_,_,_,_,_,_,_=>by cases h
  | .refuse _,_,h,_,_,_,_,_,_,_,_,_,_=>by cases h
theorem Hf (hc:CallOk P call) (hm:P.follows .mixedOrders=true) {it bid m:Nat} {g:Operand} {psA:Array Tmp} {asgC bodyC:Code} {gx:AX} {itn:AFn} {ax bx:Xb} (hg:cX P 0 g=some gx) (hit:cFn P A it=some itn)
    (hca : bW P A fn nt asgC = some ax) (hcb : bW P A fn nt bodyC = some bx) {fi : Func} (hfi : P.funcs[it]? = some fi) (hyc : ∀ c, fi.body = some c → mK P A it fi.ntmps Y c = true) (hres : fi.results.size = 0) (hnm : (fi.name == "runtime.NumGoroutine") = false) (hps : ∀ t ∈ psA.toList, t < nt)
    {Q:Exit->Act->World->Prop} {s:St} {ex:Ex} {s':St} {a:Act} {w:World} {Z:Beta} (hev:FC call n bid gx it itn Y psA.toList ax bx s=some (ex,s')) (hr:HR F B0 w Z s.h) (he:EnvR F w Z s.h s.e a.tmps) (hn:a.tmps.size=nt)
    (hq:∀w' rD,ex= .normal->(∃Z',Tr w Z s.h w' Z' s'.h/\HR F B0 w' Z' s'.h/\EnvR F w' Z' s'.h s'.e a.tmps)->w.heap.size<=rD->w'.heap[rD]? =some (.deferred (some []))->Q .normal { a with defers:=[{ target:= .collected rD,args:= #[] }]++a.defers } w'):
    (Code.block bid (.rangeFunc g psA asgC bodyC)).wpIn (WF none) m P Q a w:=by
  unfold FC at hev;split at hev
  rotate_left
  · cases hev
  rename_i f av bv hgv;split at hev
  rotate_left
  · cases hev
  rename_i hcond;obtain ⟨rfl,hlen,hY⟩:=hcond;simp only [QA,A1,decide_eq_true_eq,Qo,A4,beq_iff_eq] at hY;obtain ⟨hY1,hY2⟩:=hY;obtain ⟨va,vb,hv,hva,hvb,ra,rb⟩:=DW (aO hg he hgv);unfold cFn at hit;rw [hfi] at hit;simp only at hit;cases hbody:fi.body with
  | none=>rw [hbody] at hit;cases hit
  | some c=>
    rw [hbody] at hit;simp only at hit;split at hit
    rotate_left
    · cases hit
    rename_i b rs hb hrs;split at hit
    rotate_left
    · cases hit
    rename_i hsz;cases hit;simp only at hlen hY1 hev;refine wpIn_block ?_;refine wpIn_rangeFunc fun fnid _=>?_
    have hD:(w.alloc (.deferred (some []))).heap.size=w.heap.size+1:=World.size_alloc _ _;generalize hr0:({ state:= .ready,pending:=none,fn:=fnid,tmps:=a.tmps,params:=psA,assign:=asgC,body:=bodyC,defers:=w.heap.size }:Loop)=r0;have e1:r0.state= .ready:=by rw [<- hr0]
    have e2:r0.pending=none:=by rw [<- hr0]
    have e3:r0.tmps=a.tmps:=by rw [<- hr0]
    have e4:r0.params=psA:=by rw [<- hr0]
    have e5:r0.assign=asgC:=by rw [<- hr0]
    have e6:r0.body=bodyC:=by rw [<- hr0]
    have e7:r0.defers=w.heap.size:=by rw [<- hr0]
    have hrun:(Instr.enterLoop fnid a.tmps psA asgC bodyC (WF none).round).run P w= .ok (w.heap.size+1,[{ target:= .collected w.heap.size,args:= #[] }]) ((w.alloc (.deferred (some []))).alloc (.loop r0)):=by
      rw [<- hr0];exact run_enterLoop_outer fnid a.tmps psA asgC bodyC
    have hlp:((w.alloc (.deferred (some []))).alloc (.loop r0)).heap[w.heap.size+1]? =some (.loop r0):=by
      have:=World.alloc_heap_new (w.alloc (.deferred (some []))) (.loop r0)
      rwa [hD] at this
    have hdf:((w.alloc (.deferred (some []))).alloc (.loop r0)).heap[w.heap.size]? =some (.deferred (some [])):=by
      rw [DG _ _ (by rw [hD];omega)];exact World.alloc_heap_new w _
    have t1:Tr w Z s.h ((w.alloc (.deferred (some []))).alloc (.loop r0)) Z s.h:=(NH (F:=F) (B0:=B0) _).trans (NH (F:=F) (B0:=B0) _);have h1:HR F B0 ((w.alloc (.deferred (some []))).alloc (.loop r0)) Z s.h:=(hr.alloc _).alloc _;generalize (w.alloc (.deferred (some []))).alloc (.loop r0)=w1 at*;have hput:s.h.put s.h.next (.tok 1 0)=s.h.new (.tok 1 0):=by
      unfold AH.put;rw [hr.next _ (Qb _)]
    have t2:Tr w1 Z s.h w1 (upd Z s.h.next none) (s.h.new (.tok 1 0)):=by
      have:=CO (Free.next s.h) h1 (Ext.refl _ w1) (.tok 1 0) none (by simp)
      rwa [hput] at this
    have h2:HR F B0 w1 (upd Z s.h.next none) (s.h.new (.tok 1 0)):=by
      have:=E1 (Free.next s.h) h1 (Ext.refl _ w1) (.tok 1 0) none (by simp) (fun _ _=>rfl) (by intro b o h;rw [cU] at h;cases h)
      rwa [hput] at this
    have kn:(s.h.new (.tok 1 0)).Known s.h.next:=by
      have:=vC h1 (Free.next s.h) (o:= .tok 1 0) (by simp)
      rwa [hput] at this
    have t12:=t1.trans t2;have ys:YS P A fn nt r0 (w.heap.size+1) bid s.e psA.toList ax bx:=⟨by rw [e5];exact hca,by rw [e6];exact hcb,by rw [e4],fun p hp=>by rw [e3,hn];exact hps p hp,by rw [e3,hn],e1,e2,by rw [e7];omega⟩;refine ⟨w.heap.size+1,[{ target:= .collected w.heap.size,args:= #[] }],w1,{ target:= .fn (.func f) vb,args:=va++ #[.func (.yield (w.heap.size+1)) #[] #[]] },w1,f,va++ #[.func (.yield (w.heap.size+1)) #[] #[]]++vb,w1,hrun,?_,fun _ _=>trivial,?_,fun h=>(by cases h),?_⟩
    · have hk:a.eval (.const (.func (.yield (w.heap.size+1)) #[] #[]))= .func (.yield (w.heap.size+1)) #[] #[]:=rfl
      simp [resolve,hv,Deferred.ofValue,hk]
    · have h3 : fi.name ≠ "runtime.NumGoroutine" := by simpa using hnm
      have hb3:fi.body≠none:=by rw [hbody];simp
      simp [invoke,callFunc,hfi,hb3,h3]
    · refine callsIn_of_wp hfi hbody trivial ?_ rfl
      have hvs:(va++ #[Value.func (Fn.yield (w.heap.size+1)) #[] #[]]++vb).size=fi.params.size+fi.nfree:=by
        rw [<- hlen];simp [hva,hvb];omega
      generalize hargs:va++ #[Value.func (Fn.yield (w.heap.size+1)) #[] #[]]++vb=args at*;have hni:(args++Array.replicate (fi.ntmps - args.size) undef).size=fi.ntmps:=by simp;omega
      have hat:∀t,t<args.size->(args++Array.replicate (fi.ntmps - args.size) undef)[t]? =args[t]? :=fun t ht=>by rw [Array.getElem?_append_left ht]
      have hal:(av++YV::bv).length=args.size:=by rw [hvs];exact hlen
      have ye:YE F (w.heap.size+1) Y w1 (upd Z s.h.next none) (s.h.new (.tok 1 0)) (cH 0 (av++YV::bv)) (args++Array.replicate (fi.ntmps - args.size) undef):=by
        refine ⟨fun t y ht hy=>?_,fun t y ht hy=>?_⟩
        · obtain ⟨_,q1⟩:=DM hy
          simp only [Nat.sub_zero] at q1;have hlt:t<args.size:=by rw [<- hal];exact (Qk.1 q1).1
          rw [hat t hlt];by_cases c1:t<av.length
          · rw [Qj c1] at q1
            have c2:t<va.size:=by omega
            refine ⟨va[t],?_,t12.vr (ra t y _ q1 (by simp [c2]))⟩;rw [<- hargs,Array.getElem?_append_left (by simp;omega),Array.getElem?_append_left c2];simp [c2]
          · have c3:t≠av.length:=fun e=>ht (e ▸ hY2)
            rw [Qn (by omega)] at q1;obtain ⟨j,hj⟩:∃j,t - av.length=j+1:=⟨t - av.length - 1,by omega⟩;rw [hj,List.getElem?_cons_succ] at q1;have c4:j<bv.length:=(Qk.1 q1).1;have c5:j<vb.size:=by omega
            refine ⟨vb[j],?_,t12.vr (rb j y _ q1 (by simp [c5]))⟩;rw [<- hargs,Array.getElem?_append_right (by simp;omega)];rw [show t - (va++ #[Value.func (Fn.yield (w.heap.size+1)) #[] #[]]).size=j by simp;omega];simp [c5]
        · obtain ⟨_,q1⟩:=DM hy
          simp only [Nat.sub_zero] at q1;have hlt:t<args.size:=by rw [<- hal];exact (Qk.1 q1).1
          have c1:t=av.length:=by
            rcases hY1 t ht with h | h
            · exact h
            · omega
          subst c1;rw [Qn (Qb _)] at q1;simp at q1;refine .inl ⟨q1.symm,?_⟩;rw [hat _ hlt,<- hargs,Array.getElem?_append_left (by simp;omega),Array.getElem?_append_right (by omega)];simp [hva]
      have yi:YI (w.heap.size+1) s.h.next bid r0 w1 w1 (upd Z s.h.next none) (s.h.new (.tok 1 0)):=⟨SB.refl hlp,hlp,fun _=>⟨hlp,cU _ _ _⟩,.inl hlp,kn,by rw [e7];exact hdf⟩;have hinv:Inv F B0 (w.heap.size+1) s.h.next bid r0 Y w1 (upd Z s.h.next none) (s.h.new (.tok 1 0)) fi.ntmps { tmps:=args++Array.replicate (fi.ntmps - args.size) undef,defers:=[] } w1 ⟨cH 0 (av++YV::bv),s.h.new (.tok 1 0)⟩:=
        ⟨w1,_,.refl _ _ _,h2,ye,yi,hni,rfl⟩
      have he0:EnvR F w1 (upd Z s.h.next none) (s.h.new (.tok 1 0)) s.e r0.tmps:=by rw [e3];exact t12.env he
      have fin:∀(s2:St) (a':Act) (w':World),some (Ex.normal,(⟨s.e,s2.h.kill s.h.next⟩:St))=some (ex,s')->Inv F B0 (w.heap.size+1) s.h.next bid r0 Y w1 (upd Z s.h.next none) (s.h.new (.tok 1 0)) fi.ntmps a' w' s2->
          a'.defers=[]/\∃v,(results fi a'.tmps).run P w'= .ok v w'/\rangePost (WF none) m P (w.heap.size+1) (Exit.inBlock bid Q) { a with defers:=[{ target:= .collected w.heap.size,args:= #[] }]++a.defers } (.returned v) w':=by
        rintro s2 a' w' heq ⟨hw,Z',q0,q1,q2,q3,q4,q5⟩;cases heq;refine ⟨q5,.tuple #[],?_,?_⟩
        · have hl0:fi.results= #[]:=FI hres
          simp [results,hl0]
        · have go:∀(x:Loop),w'.heap[w.heap.size+1]? =some (.loop x)->Q .normal { a with defers:=[{ target:= .collected w.heap.size,args:= #[] }]++a.defers } (w'.putObj (w.heap.size+1) (.loop { x with state:= .exhausted })):=by
            intro x hx;have sb:SB (w.heap.size+1) hw (w'.putObj (w.heap.size+1) (.loop { x with state:= .exhausted })):=q3.sb.trans (SB.put hx);have tk:=z7 q1 s.h.next;have tt:=((t12.trans q0).trans tk);refine hq _ _ rfl ⟨Z',sb.tr_old (by omega) tt,sb.hr (lP q1 _),sb.env (tt.env he)⟩ (Qb _) ?_;have:=q3.df;rw [e7] at this;exact (SB.put hx).dfr (by omega) this
          rcases q3.st with hx | hx
          · exact ⟨_,_,run_endLoop hx (by rw [e1];simp),by
              show match r0.pending with | none=>_ | some c=>_
              have hg:=go r0 hx;rw [e2] at hg ⊢;exact hg⟩
          · refine ⟨_,_,run_endLoop hx (by simp),?_⟩
            refine wpIn_exit ?_;simp only [Exit.inBlock,if_true];exact go _ hx
      cases hev2:evC (hB call n s.h.next bid s.e psA.toList ax bx) n b ⟨cH 0 (av++YV::bv),s.h.new (.tok 1 0)⟩ with
      | none=>rw [hev2] at hev;cases hev
      | some q=>
        obtain ⟨ex2,s2⟩:=q;rw [hev2] at hev;cases ex2 with
        | normal=>exact mS hc hm ys he0 n c b hb (hyc c hbody) _ _ _ s2 _ w1 hev2 hinv fun a' w' hi=>fin s2 a' w' hev hi
        | ret=>exact mS hc hm ys he0 n c b hb (hyc c hbody) _ _ _ s2 _ w1 hev2 hinv fun a' w' hi=>fin s2 a' w' hev hi
        | exit i=>cases hev
        | pan v=>cases hev
def Mk (B1:Nat) (w:World) (ds:List Deferred):Prop:=ds=[]\/∃rD,ds=[{ target:= .collected rD,args:= #[] }]/\B1<=rD/\w.heap[rD]? =some (.deferred (some []))
theorem Mk.tr {B1:Nat} {w w':World} {ds:List Deferred} {M:Nat->Nat->Prop} (h:Mk B1 w ds) (e:Ext M w w'):Mk B1 w' ds:=by
 rcases h with h | ⟨rD,h,l,k⟩
 ·exact .inl h
 ·exact .inr ⟨rD,h,l,e.dfr k⟩
theorem Mk.le {B1 B2:Nat} {w:World} {ds:List Deferred} (h:Mk B1 w ds) (hl:B2<=B1):Mk B2 w ds:=by
 rcases h with h | ⟨rD,h,l,k⟩
 ·exact .inl h
 ·exact .inr ⟨rD,h,jL hl l,k⟩
def RE (F:Nat->Nat->Prop) (B0:Nat) (w:World) (Z:Beta) (H:AH) (a a':Act) (w':World) (s':St):Prop:=
 ∃Z',Tr w Z H w' Z' s'.h/\HR F B0 w' Z' s'.h/\EnvR F w' Z' s'.h s'.e a'.tmps/\a'.tmps.size=a.tmps.size/\Mk w.heap.size w' a'.defers
def Ln (F:Nat->Nat->Prop) (B0:Nat) (w:World) (Z:Beta) (H:AH) (v:AV) (a':Act) (w':World) (u:Value) (s':St):Prop:=
 ∃Z',Tr w Z H w' Z' s'.h/\HR F B0 w' Z' s'.h/\VRH F w' Z' s'.h v u/\Mk w.heap.size w' a'.defers
def QR (F:Nat->Nat->Prop) (B0:Nat) (w:World) (Z:Beta) (H:AH) (a:Act) (ex:Ex) (s':St) (Q:Exit->Act->World->Prop):Prop:=
 match ex with
 | .normal=>∀a' w',RE F B0 w Z H a a' w' s'->Q .normal a' w'
 | .exit id=>∀a' w',RE F B0 w Z H a a' w' s'->Q (.exit id) a' w'
 | .ret=>∀a' w',RE F B0 w Z H a a' w' s'->Q .ret a' w'
 | .pan v=>∀a' w' u,Ln F B0 w Z H v a' w' u s'->Q (.panic [{ v:=u,recovered:=false }]) a' w'
theorem QR.ok {w w1:World} {Z Z1:Beta} {H H1:AH} {a a1:Act} {ex:Ex} {s':St} {Q:Exit->Act->World->Prop} (t:Tr w Z H w1 Z1 H1) (hs:a1.tmps.size=a.tmps.size) (hm:Mk w.heap.size w1 a1.defers) (h:QR F B0 w Z H a ex s' Q):gY F B0 w1 Z1 H1 a1 ex s' Q:=by
 cases ex with
 | normal=>exact fun a' w' ⟨Z',k1,k2,k3,k4,k5⟩=>h a' w' ⟨Z',t.trans k1,k2,k3,k4.trans hs,by rw [k5];exact hm.tr k1.ext⟩
 | exit id=>exact fun a' w' ⟨Z',k1,k2,k3,k4,k5⟩=>h a' w' ⟨Z',t.trans k1,k2,k3,k4.trans hs,by rw [k5];exact hm.tr k1.ext⟩
 | ret=>exact fun a' w' ⟨Z',k1,k2,k3,k4,k5⟩=>h a' w' ⟨Z',t.trans k1,k2,k3,k4.trans hs,by rw [k5];exact hm.tr k1.ext⟩
 | pan v=>exact fun a' w' u ⟨Z',k1,k2,k3,_,k4,k5⟩=>h a' w' u ⟨Z',t.trans k1,k2,k3,by rw [k5];exact hm.tr k1.ext⟩
theorem QR.step {w w1:World} {Z Z1:Beta} {H H1:AH} {a a1:Act} {ex:Ex} {s':St} {Q:Exit->Act->World->Prop} (t:Tr w Z H w1 Z1 H1) (hs:a1.tmps.size=a.tmps.size) (h:QR F B0 w Z H a ex s' Q):QR F B0 w1 Z1 H1 a1 ex s' Q:=by
 have hl:=t.ext.size;cases ex with
 | normal=>exact fun a' w' ⟨Z',k1,k2,k3,k4,k5⟩=>h a' w' ⟨Z',t.trans k1,k2,k3,k4.trans hs,k5.le hl⟩
 | exit id=>exact fun a' w' ⟨Z',k1,k2,k3,k4,k5⟩=>h a' w' ⟨Z',t.trans k1,k2,k3,k4.trans hs,k5.le hl⟩
 | ret=>exact fun a' w' ⟨Z',k1,k2,k3,k4,k5⟩=>h a' w' ⟨Z',t.trans k1,k2,k3,k4.trans hs,k5.le hl⟩
 | pan v=>exact fun a' w' u ⟨Z',k1,k2,k3,k5⟩=>h a' w' u ⟨Z',t.trans k1,k2,k3,k5.le hl⟩
theorem B' {m:Nat} {fd:Func} {R:Ending->World->Prop} {u:FrameMode} {tmps:Array Value} {ds:List Deferred} {B1:Nat} {w:World} (mk:Mk B1 w ds) (hu:u≠ .run)
  (h:∀w2,(w2=w\/∃rD,B1<=rD/\SB rD w w2)->LeavesIn (WF none) m P fd tmps R [] u w2):LeavesInM (WF none) m P fd tmps R ds u w:=by
 rcases mk with rfl | ⟨rD,rfl,l,k⟩
 ·exact h w (.inl rfl)
 ·exact ⟨hu,.inl ⟨rD,_,rfl,run_takeDeferred k,h _ (.inr ⟨rD,l,SB.putO k (Aj _) (Aj _)⟩)⟩⟩
theorem F4 (hc:CallOk P call) (hm:P.follows .mixedOrders=true) {it m:Nat}:∀(c:Code) (rc:RgCode),cRg P A fn nt it Y c=some rc->∀(Q:Exit->Act->World->Prop) (s:St) (ex:Ex) (s':St) (a:Act) (w:World) (Z:Beta),
  evRg call n rc s=some (ex,s')->HR F B0 w Z s.h->EnvR F w Z s.h s.e a.tmps->a.tmps.size=nt->a.defers=[]->QR F B0 w Z s.h a ex s' Q->c.wpIn (WF none) m P Q a w
 | .seq x y,rc,h,Q,s,ex,s',a,w,Z,hev,hr,he,hn,hd,hq=>by
  simp only [cRg] at h;refine wpIn_seq ?_;split at h
  ·rename_i ax hx;obtain ⟨ry,hy,rfl⟩:=map_some h;simp only [evRg] at hev;split at hev
   ·rename_i s1 hs1;refine gZ (ro:=none) hc hm n x ax hx _ s .normal s1 a w Z hs1 hr he hn ?_;rintro a' w' ⟨Z',k1,k2,k3,k4,k5⟩;exact F4 hc hm y ry hy Q s1 ex s' a' w' Z' hev k2 k3 (k4.trans hn) (k5.trans hd) (hq.step k1 k4)
   ·rename_i hne;have hq':gY F B0 w Z s.h a ex s' Q:=hq.ok (.refl _ _ _) rfl (.inl hd);refine gZ (ro:=none) hc hm n x ax hx _ s ex s' a w Z hev hr he hn ?_;cases ex with
    | normal=>exact absurd hev (hne s')
    | exit i=>exact hq'
    | ret=>exact hq'
    | pan v=>exact hq'
  ·split at h
   ·rename_i rx ay hx hy;cases h;simp only [evRg] at hev;split at hev
    ·rename_i s1 hs1;refine F4 hc hm x rx hx _ s .normal s1 a w Z hs1 hr he hn hd ?_;rintro a' w' ⟨Z',k1,k2,k3,k4,k5⟩;exact gZ (ro:=none) hc hm n y ay hy Q s1 ex s' a' w' Z' hev k2 k3 (k4.trans hn) (hq.ok k1 k4 k5)
    ·rename_i hne;refine F4 hc hm x rx hx _ s ex s' a w Z hev hr he hn hd ?_;cases ex with
     | normal=>exact absurd hev (hne s')
     | exit i=>exact hq
     | ret=>exact hq
     | pan v=>exact hq
   ·cases h
 | .scope b,rc,h,Q,s,ex,s',a,w,Z,hev,hr,he,hn,hd,hq=>by
  simp only [cRg] at h;refine XJ (F4 hc hm b rc h _ s ex s' a w Z hev hr he hn hd ?_);cases ex with
  | normal=>exact hq
  | exit i=>exact hq
  | ret=>exact hq
  | pan v=>exact hq
 | .block bid (.rangeFunc g psA asgC bodyC),rc,h,Q,s,ex,s',a,w,Z,hev,hr,he,hn,hd,hq=>by
  simp only [cRg] at h;split at h
  ·rename_i gx itn ax bx fi hg hit hca hcb hfi;obtain ⟨hcond,h⟩:=RQ.1 h;cases h;simp only [QA,decide_eq_true_eq,Qo,jK] at hcond;obtain ⟨⟨⟨h1,h2⟩,h3⟩,h4⟩:=hcond;simp only [evRg] at hev;refine Hf hc hm hg hit hca hcb hfi (fun c hc'=>by rw [hc'] at h1;exact h1) h2 h3 h4 hev hr he hn ?_;rintro w' rD rfl ⟨Z',k1,k2,k3⟩ k5 k4;exact hq _ w' ⟨Z',k1,k2,k3,rfl,.inr ⟨rD,by rw [hd];rfl,k5,k4⟩⟩
  ·cases h
 | .skip,_,h,_,_,_,_,_,_,_,_,_,_,_,_,_=>by cases h
 | .region ..,_,h,_,_,_,_,_,_,_,_,_,_,_,_,_=>by cases h
 | .cond ..,_,h,_,_,_,_,_,_,_,_,_,_,_,_,_=>by cases h
 | .loop _,_,h,_,_,_,_,_,_,_,_,_,_,_,_,_=>by cases h
 | .exit _,_,h,_,_,_,_,_,_,_,_,_,_,_,_,_=>by cases h
 | .ret,_,h,_,_,_,_,_,_,_,_,_,_,_,_,_=>by cases h
 | .label _,_,h,_,_,_,_,_,_,_,_,_,_,_,_,_=>by cases h
 | .goto _,_,h,_,_,_,_,_,_,_,_,_,_,_,_,_=>by cases h
 | .refuse _,_,h,_,_,_,_,_,_,_,_,_,_,_,_,_=>by cases h
 | .rangeFunc ..,_,h,_,_,_,_,_,_,_,_,_,_,_,_,_=>by cases h
 | .block _ .skip,_,h,_,_,_,_,_,_,_,_,_,_,_,_,_=>by cases h
 | .block _ (.region ..),_,h,_,_,_,_,_,_,_,_,_,_,_,_,_=>by cases h
 | .block _ (.seq ..),_,h,_,_,_,_,_,_,_,_,_,_,_,_,_=>by cases h
 | .block _ (.cond ..),_,h,_,_,_,_,_,_,_,_,_,_,_,_,_=>by cases h
 | .block _ (.block ..),_,h,_,_,_,_,_,_,_,_,_,_,_,_,_=>by cases h
 | .block _ (.loop _),_,h,_,_,_,_,_,_,_,_,_,_,_,_,_=>by cases h
 | .block _ (.exit _),_,h,_,_,_,_,_,_,_,_,_,_,_,_,_=>by cases h
 | .block _ .ret,_,h,_,_,_,_,_,_,_,_,_,_,_,_,_=>by cases h
 | .block _ (.scope _),_,h,_,_,_,_,_,_,_,_,_,_,_,_,_=>by cases h
 | .block _ (.label _),_,h,_,_,_,_,_,_,_,_,_,_,_,_,_=>by cases h
 | .block _ (.goto _),_,h,_,_,_,_,_,_,_,_,_,_,_,_,_=>by cases h
 | .block _ (.refuse _),_,h,_,_,_,_,_,_,_,_,_,_,_,_,_=>by cases h
end
end Go.Av
namespace Go.Av
section
variable {F:Nat->Nat->Prop} {B0:Nat} {P:Program} {A:Ann}
def NV (tmps:Array Value):ResultVar->Sem Value
 | .tmp t=>pure (tmps.getD t undef)
 | .cell a t=>do loadVar t (<- asAddr (tmps.getD a undef))
theorem Jq {w:World} {Z:Beta} {s:St} {tmps:Array Value} {rv:ResultVar} {ar:ARes} {y:AV} (h:cRes P rv=some ar) (hr:HR F B0 w Z s.h) (he:EnvR F w Z s.h s.e tmps) (hy:wB s ar=some y):
  ∃v,(NV tmps rv).run P w= .ok v w/\VRH F w Z s.h y v:=by
 cases rv with
 | tmp t=>
  cases h;obtain ⟨v,h1,h2⟩:=he t y hy;exact ⟨v,by simp [NV,nH,h1],h2⟩
 | cell a t=>
  simp only [cRes] at h;split at h
  ·rename_i g n hg hn;cases h;simp only [wB] at hy;split at hy
   ·rename_i id esz i off hx;obtain ⟨v0,h1,h2⟩:=he a _ hx;have hev:evOp s.e 0 s.h (.load g n (.t a))=some (y,s.h):=by
     simp only [evOp,evX,hx];split at hy
     ·rename_i esz' es hget;split at hy
      ·rename_i hz;split at hy
       ·rename_i cs hcs;simp only [hcs,hy,A3,a9 hz]
       ·cases hy
      ·cases hy
     ·cases hy
    obtain ⟨v,k1,k2,_⟩:=V' (P:=P) (ax:= .t a) hr hg hn hx h2 hev;obtain ⟨_,⟨b,k,rfl⟩,_⟩:=mW h2;refine ⟨v,?_,k2⟩;have:tmps.getD a undef= .pointer (some ⟨b,k,none⟩):=by simp [nH,h1]
    simp only [NV,this];simpa [Instr.loadAt,Instr.sureAddr,asAddr] using k1
   ·cases hy
  ·cases h
theorem J' {w:World} {Z:Beta} {s:St} {tmps:Array Value} (hr:HR F B0 w Z s.h) (he:EnvR F w Z s.h s.e tmps):
  ∀{rvs:List ResultVar} {ars:List ARes} {ys:List AV},mapO (cRes P) rvs=some ars->mapO (wB s) ars=some ys->
   ∃vs:List Value,(rvs.mapM (NV tmps)).run P w= .ok vs w/\vs.length=ys.length/\∀(i:Nat) y v,ys[i]? =some y->vs[i]? =some v->VRH F w Z s.h y v
 | [],ars,ys,h1,h2=>by
  cases h1;cases h2;exact ⟨[],rfl,rfl,by simp⟩
 | rv::rvs,ars,ys,h1,h2=>by
  simp only [mapO] at h1;split at h1
  ·cases h1
  ·rename_i ar hr1;split at h1
   ·cases h1
   ·rename_i ars' hr2;cases h1;simp only [mapO] at h2;split at h2
    ·cases h2
    ·rename_i y hy;split at h2
     ·cases h2
     ·rename_i ys' hys;cases h2;obtain ⟨v,k1,k2⟩:=Jq hr1 hr he hy;obtain ⟨vs,m1,m2,m3⟩:=J' hr he hr2 hys;refine ⟨v::vs,?_,by simp [m2],?_⟩
      ·rw [List.mapM_cons];simp [k1,m1]
      ·intro i a b ha hb;cases i with
       | zero=>simp at ha hb;subst ha;subst hb;exact k2
       | succ i=>simp at ha hb;exact m3 i a b ha hb
theorem Fs (fn:Func) (tmps:Array Value):results fn tmps=(do
  let vs <- fn.results.toList.mapM (NV tmps)
  pure (if h:vs.toArray.size=1 then vs.toArray[0] else .tuple vs.toArray)):=by
 unfold results;rw [Array.mapM_eq_mapM_toList];rw [bind_map_left];congr 1
def NY:List AV->AV
 | [v]=>v
 | vs=> .tup vs
theorem NE {w:World} {Z:Beta} {s:St} {tmps:Array Value} {fn:Func} {ars:List ARes} {ys:List AV} (hr:HR F B0 w Z s.h) (he:EnvR F w Z s.h s.e tmps)
  (h1:mapO (cRes P) fn.results.toList=some ars) (h2:mapO (wB s) ars=some ys):∃v,(results fn tmps).run P w= .ok v w/\VRH F w Z s.h (NY ys) v:=by
 obtain ⟨vs,k1,k2,k3⟩:=J' hr he h1 h2;refine ⟨if h:vs.toArray.size=1 then vs.toArray[0] else .tuple vs.toArray,?_,?_⟩
 ·rw [Fs];simp [k1]
 ·match ys,vs,k2 with
  | [y],[v],_=>simpa [NY] using k3 0 y v rfl rfl
  | [],[],_=>exact .d (.tup [] #[] rfl (by simp))
  | y::y'::ys,v::v'::vs,hl=>
   have:¬((v::v'::vs).toArray.size=1):=by simp
   rw [dif_neg this];refine .tup _ _ (by simpa using hl.symm) ?_;intro i a b ha hb;exact k3 i a b ha (by simpa using hb)
structure TableOk (P:Program) (A:Ann) (Φ:FuncId->Option AFun):Prop where
 mixed:P.follows .mixedOrders=true
 body:∀f af,Φ f=some af->w7 P f
 code:∀f fn,Φ f=some (.code fn)->cFn P A f=some fn
 rng:∀f r,Φ f=some (.rng r)->∃it Y,cRFn P A f it Y=some r
 dfr:∀f d,Φ f=some (.dfr d)->cDFn P A f d.clo=some d/\w7 P d.clo
 rule:∀f g,Φ f=some (.rule g)->∀call,CallOk P call->∀as H r H',evR call (g as H)=some (r,H')->∀F B0 w Z (vs:Array Value),HR F B0 w Z H->ArgsR F w Z H as vs->Calls P f vs w (jR F B0 w Z H r H')
theorem UC {o:Option (Ex×St)} {rs:List ARes} {r:Rt} {H':AH} (h:zC o rs=some (r,H')):
  (∃v s,o=some (.pan v,s)/\r= .pan v/\H'=s.h)\/(∃ex s ys,o=some (ex,s)/\(ex= .normal\/ex= .ret)/\mapO (wB s) rs=some ys/\r= .val (NY ys)/\H'=s.h):=by
 unfold zC at h;split at h
 ·cases h;exact .inl ⟨_,_,rfl,rfl,rfl⟩
 ·cases h
 ·rename_i ex s hne hne';right;have hex:ex= .normal\/ex= .ret:=by
   cases ex with
   | normal=>exact .inl rfl
   | ret=>exact .inr rfl
   | exit i=>exact absurd rfl (hne' i)
   | pan v=>exact absurd rfl (hne v)
  split at h
  ·cases h
  ·rename_i v hv;cases h;exact ⟨ex,s,[v],rfl,hex,hv,rfl,rfl⟩
  ·rename_i vs hvs hv;cases h;refine ⟨ex,s,vs,rfl,hex,hv,?_,rfl⟩;congr 1
   match vs,hvs with
   | [],_=>rfl
   | [v],hh=>exact absurd rfl (hh v)
   | _::_::_,_=>rfl
 ·cases h
theorem Z8 {Φ:FuncId->Option AFun} (T:TableOk P A Φ):∀n,CallOk P (evF Φ n)
 | 0=>⟨fun _ _ _ _ _ h=>(by cases h),fun _ _ _ _ _ h=>(by cases h)⟩
 | n+1=>by
  have ih:=Z8 T n;refine ⟨?_,?_⟩
  ·intro f as H r H' h;simp only [evF] at h;split at h
   ·cases h
   ·rename_i g hg;exact T.body _ _ hg
   ·rename_i g hg;exact T.body _ _ hg
   ·rename_i g hg;exact T.body _ _ hg
   ·rename_i g hg;exact T.body _ _ hg
  ·intro f as H r H' h F B0 w Z vs hr ha;simp only [evF] at h;split at h
   ·cases h
   ·rename_i g hg;exact T.rule f g hg _ ih as H r H' h F B0 w Z vs hr ha
   ·rename_i d hg;split at h
    ·rename_i hlen;obtain ⟨it,Y,hc⟩:=T.rng f d hg;unfold cRFn at hc;split at hc
     ·cases hc
     ·rename_i fd hfd;split at hc
      ·cases hc
      ·rename_i c hbody;split at hc
       ·rename_i b rs hb hrs;split at hc
        ·rename_i hsz;cases hc;simp only at h hlen;refine (callsIn_wide (n:=0)).1 (callsIn_of_wp_marks hfd hbody trivial ?_ rfl);have hvs:vs.size=fd.params.size+fd.nfree:=by rw [<- ha.1];exact hlen
         have hn:(vs++Array.replicate (fd.ntmps - vs.size) undef).size=fd.ntmps:=by simp;omega
         have he:EnvR F w Z H (cH 0 as) (vs++Array.replicate (fd.ntmps - vs.size) undef):=by
          intro t y hy;obtain ⟨_,h1⟩:=DM hy;simp at h1;have hlt:t<as.length:=(Qk.1 h1).1;have hlt':t<vs.size:=by rw [<- ha.1];exact hlt
          refine ⟨vs[t],by simp [Array.getElem?_append,hlt'],ha.2 t y _ h1 (by simp [hlt'])⟩
         rcases UC h with ⟨v,s,h1,rfl,rfl⟩ | ⟨ex,s,ys,h1,hex,h2,rfl,rfl⟩
         ·refine F4 ih T.mixed c b hb _ ⟨cH 0 as,H⟩ _ s _ w Z h1 hr he hn rfl ?_;rintro a' w' u ⟨Z',k1,k2,k3,k4⟩;refine B' k4 (by simp) ?_;rintro w2 (rfl | ⟨rD,hl,sb⟩)
          ·exact ⟨v,u,rfl,rfl,Z',k1,k2,k3⟩
          ·exact ⟨v,u,rfl,rfl,Z',sb.tr_old hl k1,sb.hr k2,sb.vr k3⟩
         ·refine F4 ih T.mixed c b hb _ ⟨cH 0 as,H⟩ ex s _ w Z h1 hr he hn rfl ?_;have fin:∀(a':Act) (w':World),RE F B0 w Z H { tmps:=vs++Array.replicate (fd.ntmps - vs.size) undef,defers:=[] } a' w' s->
            LeavesInM (WF none) 0 P fd a'.tmps (jR F B0 w Z H (.val (NY ys)) s.h) a'.defers .returning w':=by
           rintro a' w' ⟨Z',k1,k2,k3,k4,k5⟩;refine B' k5 (by simp) ?_;rintro w2 (rfl | ⟨rD,hl,sb⟩)
           ·obtain ⟨v,m1,m2⟩:=NE k2 k3 hrs h2;exact ⟨v,m1,_,rfl,Z',k1,k2,m2⟩
           ·obtain ⟨v,m1,m2⟩:=NE (sb.hr k2) (sb.env k3) hrs h2;exact ⟨v,m1,_,rfl,Z',sb.tr_old hl k1,sb.hr k2,m2⟩
          rcases hex with rfl | rfl
          ·intro a' w' hf;exact fin a' w' hf
          ·intro a' w' hf;exact fin a' w' hf
        ·cases hc
       ·cases hc
    ·cases h
   ·rename_i d hg;split at h
    ·rename_i hlen;obtain ⟨hc,hbd⟩:=T.dfr f d hg;unfold cDFn at hc;split at hc
     ·rename_i fd gd hfd hgd;split at hc
      ·rename_i c k hbody hkb;split at hc
       ·rename_i b rcv cb rs hb hk hrs;split at hc
        ·rename_i hsz;obtain ⟨s1,s2,s3,s4⟩:=hsz;have hdd:d=⟨fd.params.size+fd.nfree,rs,b,d.clo,gd.nfree,rcv,cb⟩:=by simpa using hc.symm
         have e1:d.nparams=fd.params.size+fd.nfree:=by rw [hdd]
         have e2:d.results=rs:=by rw [hdd]
         have e3:d.code=b:=by rw [hdd]
         have e4:gd.nfree=d.ncaps:=by rw [hdd]
         have e5:d.rcv=rcv:=by rw [hdd]
         have e6:d.cbody=cb:=by rw [hdd]
         rw [e1] at hlen;rw [e2,e3] at h;rw [<- e5,<- e6] at hk;refine calls_of_wp_defers hfd hbody ?_;have hvs:vs.size=fd.params.size+fd.nfree:=by rw [<- ha.1];exact hlen
         have hn:(vs++Array.replicate (fd.ntmps - vs.size) undef).size=fd.ntmps:=by simp;omega
         have he:EnvR F w Z H (cH 0 as) (vs++Array.replicate (fd.ntmps - vs.size) undef):=by
          intro t y hy;obtain ⟨_,h1⟩:=DM hy;simp at h1;have hlt:t<as.length:=(Qk.1 h1).1;have hlt':t<vs.size:=by rw [<- ha.1];exact hlt
          refine ⟨vs[t],by simp [Array.getElem?_append,hlt'],ha.2 t y _ h1 (by simp [hlt'])⟩
         rcases UC h with ⟨v,s,h1,rfl,rfl⟩ | ⟨ex,s,ys,h1,hex,h2,rfl,rfl⟩
         ·refine Y1 ih T.mixed (fd:=fd) hgd hkb hk e4 s3 s4 hbd c b hb ⟨cH 0 as,H⟩ _ s _ w Z h1 hr he hn rfl (by simp) (by simp) ?_;intro v' hv' w' u hgood;cases hv';exact ⟨v,u,rfl,rfl,hgood⟩
         ·refine Y1 ih T.mixed (fd:=fd) hgd hkb hk e4 s3 s4 hbd c b hb ⟨cH 0 as,H⟩ ex s _ w Z h1 hr he hn rfl ?_ ?_ ?_
          ·rcases hex with rfl | rfl<;>simp
          ·rintro _ tmps w' ⟨Z',k1,k2,k3,k4⟩;obtain ⟨v,m1,m2⟩:=NE k2 k3 hrs h2;exact ⟨v,m1,_,rfl,Z',k1,k2,m2⟩
          ·intro v hv;rcases hex with rfl | rfl<;>cases hv
        ·cases hc
       ·cases hc
      ·cases hc
     ·cases hc
    ·cases h
   ·rename_i fn hg;split at h
    ·rename_i hlen;have hc:=T.code f fn hg;unfold cFn at hc;split at hc
     ·cases hc
     ·rename_i fd hfd;split at hc
      ·cases hc
      ·rename_i c hbody;split at hc
       ·rename_i b rs hb hrs;split at hc
        ·rename_i hsz;cases hc;simp only at h hlen;refine calls_of_wp hfd hbody ?_;have hvs:vs.size=fd.params.size+fd.nfree:=by rw [<- ha.1];exact hlen
         have hn:(vs++Array.replicate (fd.ntmps - vs.size) undef).size=fd.ntmps:=by simp;omega
         have he:EnvR F w Z H (cH 0 as) (vs++Array.replicate (fd.ntmps - vs.size) undef):=by
          intro t y hy;obtain ⟨_,h1⟩:=DM hy;simp at h1;have hlt:t<as.length:=(Qk.1 h1).1;have hlt':t<vs.size:=by rw [<- ha.1];exact hlt
          refine ⟨vs[t],by simp [Array.getElem?_append,hlt'],ha.2 t y _ h1 (by simp [hlt'])⟩
         rcases UC h with ⟨v,s,h1,rfl,rfl⟩ | ⟨ex,s,ys,h1,hex,h2,rfl,rfl⟩
         ·refine mT ih T.mixed n c b hb _ ⟨cH 0 as,H⟩ _ s _ w Z h1 hr he hn ?_;intro a' w' u hf;obtain ⟨_,_,_,_,_,_,hd⟩:=id hf;exact ⟨hd,v,u,rfl,rfl,hf.good⟩
         ·refine mT ih T.mixed n c b hb _ ⟨cH 0 as,H⟩ ex s _ w Z h1 hr he hn ?_;have fin:∀(a':Act) (w':World),Fine F B0 w Z H { tmps:=vs++Array.replicate (fd.ntmps - vs.size) undef,defers:=[] } a' w' s->
            a'.defers=[]/\∃v,(results fd a'.tmps).run P w'= .ok v w'/\jR F B0 w Z H (.val (NY ys)) s.h (.returned v) w':=by
           intro a' w' hf;obtain ⟨Z',k1,k2,k3,k4,k5⟩:=hf;obtain ⟨v,m1,m2⟩:=NE k2 k3 hrs h2;exact ⟨k5,v,m1,_,rfl,Z',k1,k2,m2⟩
          rcases hex with rfl | rfl
          ·intro a' w' hf;exact fin a' w' hf
          ·intro a' w' hf;exact fin a' w' hf
        ·cases hc
       ·cases hc
    ·cases h
end
end Go.Av
namespace Go.Av
structure CloneParts where
 fd:Func
 i1:Nat
 x:Code
 ops1:Array Oper
 t:Nat
 x2:Code
 rest:Code
def UA (P:Program) (f:FuncId):Option CloneParts:=
 match P.funcs[f]? with
 | some fd=>match fd.body with
  | some (.seq x (.seq (.seq (.region i1 ops1 draw) (.cond (.tmp t) x2 .skip)) rest))=>if draw then none else some ⟨fd,i1,x,ops1,t,x2,rest⟩
  | _=>none
 | none=>none
def Ah:Value->Bool
 | .slice none 0 0=>true
 | _=>false
def VD (P:Program) (nt:Nat) (o:Oper):Option (Nat×Nat):=match o.op with
 | .binOp .eql t (.tmp a) (.const c) _=>if Ah c/\o.guard=none/\RH nt o.dst=true then match P.underlying t with
   | some (.slice _)=>o.dst.map (·,a)
   | _=>none
  else none
 | _=>none
structure CloneForm where
 x:Xb
 ops1:List Xc
 cmp:Nat×Nat
 t:Nat
 x2:Xb
 rest:Xb
 np:Nat
 res:List ARes
def CG (P:Program) (A0 A:Ann) (f:FuncId):Option CloneForm:=
 match UA P f with
 | some p=>match bW P A0 f p.fd.ntmps p.x,mapO (jD P A f p.fd.ntmps p.ops1) p.ops1.toList.dropLast,p.ops1.toList.getLast?.bind (VD P p.fd.ntmps),bW P A f p.fd.ntmps p.x2,bW P A f p.fd.ntmps p.rest,mapO (cRes P) p.fd.results.toList with
  | some ax,some l1,some cm,some a2,some ar,some rs=>if p.fd.params.size+p.fd.nfree<=p.fd.ntmps then some ⟨ax,l1,cm,p.t,a2,ar,p.fd.params.size+p.fd.nfree,rs⟩ else none
  | _,_,_,_,_,_=>none
 | none=>none
def mV (z bytes:Nat) (m:SM):CloneForm:=
 ⟨.region false [] [⟨some 2,none,.mov (.c (.Xa z []))⟩] none,[⟨some 3,none,.mov (.t 0)⟩],(4,3),4,.seq (.region false [] [⟨some 2,none,.nilapp z⟩] none) .ret,
  .seq (.region false [] [⟨some 5,none,.bslice .imm z [] []⟩,⟨some 6,none,.mov (.t 0)⟩,⟨some 7,none,.append m z bytes (.t 5) (.t 6)⟩,⟨some 2,none,.mov (.t 7)⟩] none) .ret,1,[.tmp 2]⟩
def annC (m:SM) (b:Bool):Ann:=
  { pure:=fun _ _ _=>true,purev:=fun _ _=>true,bmode:=fun _ _=> .imm,smode:=fun _ _=> .row,amode:=fun _ _=>m,nilapp:=fun _ _=>b,slch:=fun _ _=>false,boxi:=fun _ _=>false,keep:=fun _ _=>none,split:=fun _ _=>false }
def R4 (z bytes:Nat) (m:SM) (as:List AV) (H:AH):RProg:=
 match as with
 | [v]=>match lenOf v with
  | some 0=>match gC H v with
   | some []=> .ret (some (.val (.app z [] H.next),H.put H.next (.tok z 0)))
   | _=> .ret none
  | some (_+1)=> .ret ((evOp [(5,.Xa z []),(6,v)] H.next H (.append m z bytes (.t 5) (.t 6))).map fun r=>(.val r.1,r.2))
  | none=> .ret none
 | _=> .ret none
section
variable {F:Nat->Nat->Prop} {B0:Nat} {P:Program} {w:World} {Z:Beta} {H:AH}
theorem Ms {v:AV} {n:Nat} {u:Value} (h:lenOf v=some n) (hv:VRH F w Z H v u):∃base cap,u= .slice base n cap/\(n≠0->base≠none):=by
 unfold lenOf at h;split at h
 ·cases h;obtain ⟨b,cap,h,_,h3⟩:=fF (yY hv);refine ⟨b,cap,h,?_⟩;intro hn;rcases h3 with h3 | ⟨_,_,rfl,_⟩
  ·rw [h3] at hn;simp at hn
  ·simp
 ·cases h;obtain ⟨b,cap,h,_,h3⟩:=fF (mF hv).1;refine ⟨b,cap,h,?_⟩;intro hn;rcases h3 with h3 | ⟨_,_,rfl,_⟩
  ·rw [h3] at hn;simp at hn
  ·simp
 ·cases h;obtain ⟨b,cap,h,_,h3⟩:=fF (z9 hv).2.1;refine ⟨b,cap,h,?_⟩;intro hn;rcases h3 with h3 | ⟨_,_,rfl,_⟩
  ·rw [h3] at hn;simp at hn
  ·simp
 ·cases h;obtain ⟨_,⟨base,cap,h,_,h3⟩,_⟩:=lT hv;refine ⟨base,cap,h,?_⟩;intro hn;rcases h3 with h3 | ⟨_,_,rfl⟩
  ·exact absurd h3 hn
  ·simp
 ·cases h
theorem Ke {call:aW} {e:Env} {v y:AV} {z bytes:Nat} {m:SM} {H2:AH} (h0:look 0 e=some v) (hap:evOp [(5,.Xa z []),(6,v)] H.next H (.append m z bytes (.t 5) (.t 6))=some (y,H2)):
  evC call 0 (mV z bytes m).rest ⟨e,H⟩=some (.ret,⟨(2,y)::(7,y)::(6,v)::(5,.Xa z [])::e,H2⟩):=by
 have hap':evOp ((6,v)::(5,.Xa z [])::e) H.next H (.append m z bytes (.t 5) (.t 6))=some (y,H2):=by
  have e5:evX ((6,v)::(5,.Xa z [])::e) (.t 5)=evX [(5,.Xa z []),(6,v)] (.t 5):=rfl;have e6:evX ((6,v)::(5,.Xa z [])::e) (.t 6)=evX [(5,.Xa z []),(6,v)] (.t 6):=rfl;rw [<- hap];simp only [evOp,e5,e6]
 have b1:∀nx,evOp e nx H (.bslice .imm z [] [])=some (.Xa z [],H):=fun _=>rfl
 have b2:∀nx,evOp ((5,.Xa z [])::e) nx H (.mov (.t 0))=some (v,H):=by
  intro nx;simp only [evOp,evX,look];simp [h0]
 have b3:∀nx,evOp ((7,y)::(6,v)::(5,.Xa z [])::e) nx H2 (.mov (.t 7))=some (y,H2):=fun _=>rfl
 simp only [mV,evC,CT,if_true,b7,dT,a7,b1,putE,b2,bN,hap',b3,kept]
theorem Br {v:AV} {z bytes:Nat} (hs:gC H v=some []):evOp [(5,.Xa z []),(6,v)] H.next H (.append .app z bytes (.t 5) (.t 6))=some (.app z [] H.next,H.put H.next (.tok z 0)):=by
 have src:frz H v []=some []:=by
  unfold frz;split<;>simp [anyL,mapO]
 simp only [evOp,evX,look];simp [hs,src,vF,anyL]
theorem Cl {f:FuncId} {z bytes:Nat} {m:SM} (hm:P.follows .mixedOrders=true)
    (h1:CG P (annC m false) (annC m true) f=some (mV z bytes m)) (h2:CG P (annC .app false) (annC .app true) f=some (mV z bytes .app))
    {call:aW} (hc:CallOk P call) {as:List AV} {r:Rt} {H':AH} (hev:evR call (R4 z bytes m as H)=some (r,H')) {vs:Array Value} (hr:HR F B0 w Z H) (ha:ArgsR F w Z H as vs):
    Calls P f vs w (jR F B0 w Z H r H'):=by
  unfold R4 at hev;split at hev
  · rename_i v
    have parts:∀m',CG P (annC m' false) (annC m' true) f=some (mV z bytes m')->∃p,UA P f=some p/\bW P (annC m' false) f p.fd.ntmps p.x=some (.region false [] [⟨some 2,none,.mov (.c (.Xa z []))⟩] none)/\
        mapO (jD P (annC m' true) f p.fd.ntmps p.ops1) p.ops1.toList.dropLast=some [⟨some 3,none,.mov (.t 0)⟩]/\p.ops1.toList.getLast?.bind (VD P p.fd.ntmps)=some (4,3)/\p.t=4/\
        bW P (annC m' true) f p.fd.ntmps p.x2=some (.seq (.region false [] [⟨some 2,none,.nilapp z⟩] none) .ret)/\
        bW P (annC m' true) f p.fd.ntmps p.rest=some (mV z bytes m').rest/\mapO (cRes P) p.fd.results.toList=some [.tmp 2]/\p.fd.params.size+p.fd.nfree=1/\1<=p.fd.ntmps:=by
      intro m' h;unfold CG at h;split at h
      · rename_i p hp
        split at h
        · rename_i ax l1 cm a2 ar rs e1 e2 e3 e4 e5 e6
          split at h
          · rename_i hle
            simp only [mV,Option.some.injEq,CloneForm.mk.injEq] at h;obtain ⟨rfl,rfl,rfl,ht,rfl,rfl,hn,rfl⟩:=h;exact ⟨p,hp,e1,e2,e3,ht,e4,e5,e6,hn,by omega⟩
          · cases h
        · cases h
      · cases h
    obtain ⟨p,hp,x1,x2,x3,x4,x5,x6,x7,x8,x9⟩:=parts m h1;obtain ⟨p',hp',y1,y2,y3,y4,y5,y6,y7,y8,y9⟩:=parts .app h2;rw [hp] at hp';cases hp';unfold UA at hp;split at hp
    · rename_i fd hfd
      split at hp
      · rename_i xc i1 ops1 draw t xc2 rest hbody
        split at hp
        · cases hp
        · rename_i hdraw
          have hdr:draw=false:=by simpa using hdraw
          subst hdr;cases hp;simp only at x1 x2 x3 x4 x5 x6 x7 x8 x9 y5 y6;subst x4;refine calls_of_wp hfd hbody ?_;have hvs:vs.size=1:=by rw [<- ha.1];rfl
          have hn:(vs++Array.replicate (fd.ntmps - vs.size) undef).size=fd.ntmps:=by simp;omega
          obtain ⟨u0,hu0⟩:∃u0,vs[0]? =some u0:=⟨vs[0],by simp [hvs]⟩;have hv0:VRH F w Z H v u0:=ha.2 0 v u0 rfl hu0;have he:EnvR F w Z H [(0,v)] (vs++Array.replicate (fd.ntmps - vs.size) undef):=by
            intro t y hy;simp only [look] at hy;split at hy
            · rename_i ht;subst ht;cases hy
              refine ⟨u0,?_,hv0⟩;rw [Array.getElem?_append_left (by omega)];exact hu0
            · cases hy
          have fin:∀(s':St) (y:AV) (H2:AH) (tmps:Array Value) (w2 w':World) (Z2:Beta),Tr w Z H w2 Z2 H->look 2 s'.e=some y->s'.h=H2->(∃Z',Tr w2 Z2 H w' Z' s'.h/\HR F B0 w' Z' s'.h/\EnvR F w' Z' s'.h s'.e tmps)->r= .val y->H'=H2->
              ∃v,(results fd tmps).run P w'= .ok v w'/\jR F B0 w Z H r H' (.returned v) w':=by
            rintro s' y H2 tmps w2 w' Z2 t0 hy rfl ⟨Z',k1,k2,k3⟩ rfl rfl;obtain ⟨vv,m1,m2⟩:=NE k2 k3 x7 (ys:=[y]) (by simp [mapO,wB,hy]);exact ⟨vv,m1,y,rfl,Z',t0.trans k1,k2,m2⟩
          refine wp_seq ?_;refine mT hc hm 0 xc _ x1 _ ⟨[(0,v)],H⟩ .normal ⟨[(2,.Xa z []),(0,v)],H⟩ _ w Z (by rfl) hr he hn ?_;rintro a1 w1 ⟨Z1,k1,k2,k3,k4,k5⟩;refine wp_seq (wp_seq (wp_region ?_));rw [Qq] at x3;obtain ⟨o,ho,hcmp⟩:=x3;have hsplit:ops1.toList=ops1.toList.dropLast++[o]:=by
            have hne:ops1.toList≠[]:=by intro h;rw [h] at ho;cases ho
            rw [List.getLast?_eq_some_getLast hne] at ho;cases ho;exact (List.dropLast_concat_getLast hne).symm
          have hl1:ops1.toList.dropLast.length=1:=(cN x2);have hsz:ops1.size=2:=by
            have:=congrArg List.length hsplit;simp at this hl1;omega
          have hoat:ops1[1]? =some o:=by
            have:ops1.toList[1]? =some o:=by rw [hsplit];simp [hl1]
            simpa using this
          rw [hsz];show wpOps P ops1 _ ([0]++[1]) a1 w1;obtain ⟨o0,ho0⟩:∃o0,ops1.toList.dropLast[0]? =some o0:=⟨_,Qa (by omega)⟩;obtain ⟨ao,g1,g2⟩:=(vD x2).2 0 o0 ho0;have ho0':ops1[0]? =some o0:=by
            have:ops1.toList[0]? =some o0:=by
              rw [hsplit,Qj (by omega)];exact ho0
            simpa using this
          refine NG (A:=annC m true) (fn:=f) (call:=call) hc none [1] [0] (l:=[⟨some 3,none,.mov (.t 0)⟩]) ?_ ⟨[(2,.Xa z []),(0,v)],H⟩ .normal ⟨[(3,v),(2,.Xa z []),(0,v)],H⟩ a1 w1 Z1 (by rfl) k2 k3 (k4.trans hn) ?_
          · intro i hi
            simp at hi;subst hi;exact ⟨o0,ao,ho0',g1,g2⟩
          rintro a2 w2 ⟨Z2,m1,m2,m3,m4,m5⟩;unfold VD at hcmp;split at hcmp
          · rename_i t a c ty hop
            split at hcmp
            · rename_i hcond
              obtain ⟨hnil,hgd,hds⟩:=hcond;split at hcmp
              · rename_i el hel
                rw [Qp] at hcmp;obtain ⟨d,hd,hda⟩:=hcmp;cases hda;have hcv:c= .slice none 0 0:=by
                  unfold Ah at hnil;split at hnil
                  · rfl
                  · cases hnil
                subst hcv;obtain ⟨u3,hu3,hv3⟩:=m3 3 v (by simp [look]);have hlen:∃n,lenOf v=some n:=by
                  cases hl:lenOf v with
                  | none=>rw [hl] at hev;cases hev
                  | some n=>exact ⟨n,rfl⟩
                obtain ⟨n,hln⟩:=hlen;obtain ⟨base,cap,rfl,hbase⟩:=Ms hln hv3;have heq:∀dd,(Op.equalIn (dd+1) t (.slice base n cap) (.slice none 0 0)).run P w2= .ok base.isNone w2:=by
                  intro dd;cases base with
                  | none=>simp [Op.equalIn,aX w2 hel]
                  | some b=>simp [Op.equalIn,aX w2 hel]
                have hrun:(execOp a2.eval o).run P w2= .ok (.value (.bool base.isNone)) w2:=by
                  have ev:a2.eval (.tmp 3)= .slice base n cap:=by
                    show a2.tmps.getD 3 undef=_;rw [nH,hu3];rfl
                  unfold execOp;rw [hop];simp only [Sem.run_bind];rw [ev];rw [show a2.eval (.const (.slice none 0 0))= .slice none 0 0 from rfl];rw [QZ w2 .eql t (.tmp 3) (.const (.slice none 0 0)) (.slice base n cap) (.slice none 0 0) (by simp) (.inl (by simp))];have e10:=heq 9999;have:(Go.binOp .eql t (.slice base n cap) (.slice none 0 0)).run P w2= .ok (.bool base.isNone) w2:=by
                    simp only [Go.binOp];simp [Op.equal,Op.maxDepth,e10]
                  simp only [Result.andThen_ok,this];rfl
                show wpOps P ops1 _ [1] a2 w2;have hw0:Region.wanted o (yielded ops1 a2.tmps)=true:=by simp [Region.wanted,hgd]
                simp only [wpOps,hoat,hw0,if_true];left;simp only [Oper.wp,hrun,Oper.upon,hd];have h4:4<fd.ntmps:=by rw [hd] at hds;simpa [RH] using hds
                have hsz2:a2.tmps.size=fd.ntmps:=m4.trans (k4.trans hn);have he4:EnvR F w2 Z2 H [(4,.bool base.isNone),(3,v),(2,.Xa z []),(0,v)] (a2.put (some 4) (.bool base.isNone)).tmps:=
                  DU (d:=some 4) m3 (.d (.bool _)) (by intro k hk;cases hk;rw [hsz2];exact h4)
                have hcv:(a2.put (some 4) (.bool base.isNone)).eval (.tmp 4)= .bool base.isNone:=by
                  show (a2.put (some 4) (.bool base.isNone)).tmps.getD 4 undef=_;have:4<a2.tmps.size:=by rw [hsz2];exact h4
                  simp [Act.put,nH,this]
                have hn4:(a2.put (some 4) (.bool base.isNone)).tmps.size=fd.ntmps:=by rw [jC];exact hsz2
                have hd4:(a2.put (some 4) (.bool base.isNone)).defers=[]:=by rw [vI,m5,k5]
                show (Code.cond (.tmp 4) xc2 .skip).wp P _ _ w2;have copy:∀(m':SM) (y:AV) (H2:AH),bW P (annC m' true) f fd.ntmps rest=some (mV z bytes m').rest->evOp [(5,.Xa z []),(6,v)] H.next H (.append m' z bytes (.t 5) (.t 6))=some (y,H2)->r= .val y->H'=H2->
                    rest.wp P (bodyPost P fd (jR F B0 w Z H r H')) (a2.put (some 4) (.bool base.isNone)) w2:=by
                  intro m' y H2 hcr hap hry hHy;refine mT hc hm 0 rest _ hcr _ ⟨[(4,.bool base.isNone),(3,v),(2,.Xa z []),(0,v)],H⟩ .ret ⟨[(2,y),(7,y),(6,v),(5,.Xa z []),(4,.bool base.isNone),(3,v),(2,.Xa z []),(0,v)],H2⟩ _ w2 Z2 ?_ m2 he4 hn4 ?_
                  · exact Ke rfl hap
                  · rintro a' w' ⟨Z',q1,q2,q3,q4,q5⟩
                    refine ⟨q5.trans hd4,?_⟩;exact fin _ y H2 a'.tmps w2 w' Z2 (k1.trans m1) rfl rfl ⟨Z',q1,q2,q3⟩ hry hHy
                cases base with
                | none=>
                  have hn0:n=0:=by
                    rcases Qt n with h | h
                    · exact h
                    · exact absurd rfl (hbase (by omega))
                  subst hn0;rw [hln] at hev;simp only at hev;split at hev
                  rotate_left
                  · cases hev
                  cases hev;refine wp_cond_true hcv ?_;refine mT hc hm 0 xc2 _ x5 _ ⟨[(4,.bool true),(3,v),(2,.Xa z []),(0,v)],H⟩ .ret ⟨[(2,.app z [] H.next),(4,.bool true),(3,v),(2,.Xa z []),(0,v)],H.put H.next (.tok z 0)⟩ _ w2 Z2 (by rfl) m2 he4 hn4 ?_;rintro a' w' ⟨Z',q1,q2,q3,q4,q5⟩;refine ⟨q5.trans hd4,?_⟩;exact fin _ _ _ a'.tmps w2 w' Z2 (k1.trans m1) rfl rfl ⟨Z',q1,q2,q3⟩ rfl rfl
                | some b=>
                  refine wp_cond_false hcv (wp_skip ?_);show rest.wp P _ _ w2;cases n with
                  | zero=>
                    rw [hln] at hev;simp only at hev;split at hev
                    rotate_left
                    · cases hev
                    rename_i hsrc;cases hev;refine copy .app _ _ y6 (Br hsrc) rfl rfl
                  | succ n=>
                    rw [hln] at hev;simp only [evR,Qp] at hev;obtain ⟨q,hq,hqe⟩:=hev;cases hqe;exact copy m q.1 q.2 x6 hq rfl rfl
              · cases hcmp
            · cases hcmp
          · cases hcmp
      · cases hp
    · cases hp
  · cases hev
end
end Go.Av
namespace Go.Av
def LeC (c c':aW):Prop:=∀f as H r,c f as H=some r->c' f as H=some r
section
variable {call call':aW}
theorem ND (hc:LeC call call') {f:FuncId} {as:List AV} {H:AH} {r:Rt×AH} (h:dL call f as H=some r):dL call' f as H=some r:=by
 unfold dL at h ⊢;split at h
 ·cases h
 ·rename_i as' has;split at h
  ·rename_i x H1 hcall;rw [hc _ _ _ _ hcall];exact h
  ·rename_i x H1 hcall;rw [hc _ _ _ _ hcall];exact h
  ·cases h
theorem Y3 (hc:LeC call call') {e:Env} {nx:Nat} {H:AH} {op:AOp} {r:Rt×AH} (h:a7 call e nx H op=some r):a7 call' e nx H op=some r:=by
 cases hk:op.isCall with
 | false=>rw [DH hk] at h ⊢;exact h
 | true=>
  cases op<;>first
   | (cases hk;done)
   | skip
  case pcall f xs=>
   simp only [a7] at h ⊢;split at h
   ·exact ND hc h
   ·cases h
  case pcallk f xs=>
   simp only [a7] at h ⊢;split at h
   ·split at h
    ·split at h
     ·split at h
      ·cases h
      ·rename_i hb;rw [a8 hb];exact ND hc h
     ·cases h
    ·cases h
   ·cases h
  case pcallr f xs=>
   simp only [a7] at h ⊢;split at h
   ·unfold jQ at h ⊢;split at h
    ·cases h
    ·split at h
     ·rename_i hcall;rw [hc _ _ _ _ hcall];exact h
     ·rename_i hcall;rw [hc _ _ _ _ hcall];exact h
     ·cases h
   ·cases h
  case pcallz d f xs=>
   simp only [a7] at h ⊢;split at h
   ·split at h
    ·split at h
     ·cases h
     ·rename_i hb;rw [a8 hb];exact ND hc h
    ·cases h
   ·cases h
  case pcallf f xs=>
   simp only [a7] at h ⊢;split at h
   ·unfold lQ at h ⊢;split at h
    ·cases h
    ·split at h
     ·rename_i hcall;rw [hc _ _ _ _ hcall];exact h
     ·rename_i hcall;rw [hc _ _ _ _ hcall];exact h
     ·cases h
   ·cases h
  case tcall f xs=>
   simp only [a7] at h ⊢;split at h
   ·exact hc _ _ _ _ h
   ·cases h
  case pcallv f xs=>
   simp only [a7] at h ⊢;split at h
   ·split at h
    ·exact ND hc h
    ·cases h
   ·cases h
  case tcallv f xs=>
   simp only [a7] at h ⊢;split at h
   ·split at h
    ·exact hc _ _ _ _ h
    ·cases h
   ·cases h
  case pinvoke ms x xs=>
   simp only [a7] at h ⊢;split at h
   ·split at h
    ·exact ND hc h
    ·cases h
   ·cases h
  case tinvoke ms x xs=>
   simp only [a7] at h ⊢;split at h
   ·split at h
    ·exact hc _ _ _ _ h
    ·cases h
   ·cases h
  case panic x=>exact h
theorem C7 (hc:LeC call call') {base:Option Nat}:∀{ops:List Xc} {s:St} {r:Ex×St},b7 call base ops s=some r->b7 call' base ops s=some r
 | [],s,r,h=>h
 | o::ops,s,r,h=>by
  rw [b7] at h ⊢;split at h
  ·cases h
  ·exact C7 hc h
  ·split at h
   ·cases h
   ·rename_i v H1 hcall;rw [Y3 hc hcall];exact C7 hc h
   ·rename_i v H1 hcall;rw [Y3 hc hcall];exact h
theorem Z9 (hc:LeC call call') {base:Option Nat}:∀{ops:List Xc} {s s':St},b7 call base ops s=some (.normal,s')->feet call' base ops s=feet call base ops s
 | [],s,s',h=>rfl
 | o::ops,s,s',h=>by
  obtain ⟨v,h',h1,h2⟩:=evOps_cons.1 h;have e1:b7 call base [o] s=some (.normal,⟨putE s.e o.dst v,h'⟩):=evOps_cons.2 ⟨v,h',h1,rfl⟩;have e2:=C7 hc e1;simp only [feet,e1,e2];rw [Z9 hc h2]
theorem Q0 {b b':St->Option (Ex×St)} (hb:∀s r,b s=some r->b' s=some r):∀{n m:Nat} {s:St} {r:Ex×St},n<=m->mY b n s=some r->mY b' m s=some r
 | 0,_,_,_,_,h=>by cases h
 | n+1,0,_,_,hnm,_=>by omega
 | n+1,m+1,s,r,hnm,h=>by
  simp only [mY] at h ⊢;split at h
  ·rename_i s1 hs1;rw [hb _ _ hs1];exact Q0 hb (by omega) h
  ·rename_i hne;rw [hb _ _ h];split
   ·rename_i s1 heq;cases heq;exact absurd h (hne s1)
   ·rfl
theorem fG (hc:LeC call call') {n m:Nat} (hnm:n<=m):∀{c:Xb} {s:St} {r:Ex×St},evC call n c s=some r->evC call' m c s=some r
 | .skip,s,r,h=>h
 | .region draw pairs ops keep,s,r,h=>by
  simp only [evC] at h ⊢;split at h
  ·rename_i hp;rw [a9 hp];split at h
   ·rename_i s1 hs1;rw [C7 hc hs1];exact h
   ·rename_i hne;split at h
    ·cases h
    ·rename_i hd;rw [C7 hc h];split
     ·rename_i s1 heq;cases heq;exact absurd h (hne s1)
     ·rw [a8 hd]
  ·rename_i hp;rw [a8 hp];split at h
   ·rename_i hcond;split at h
    ·rename_i s1 hs1;rw [Z9 hc hs1,a9 hcond,C7 hc hs1];exact h
    ·cases h
   ·cases h
 | .seq a b,s,r,h=>by
  simp only [evC] at h ⊢;split at h
  ·rename_i s1 hs1;rw [fG hc hnm hs1];exact fG hc hnm h
  ·rename_i hne;rw [fG hc hnm h];split
   ·rename_i s1 heq;cases heq;exact absurd h (hne s1)
   ·rfl
 | .cond c a b,s,r,h=>by
  simp only [evC] at h ⊢;split at h
  ·exact fG hc hnm h
  ·exact fG hc hnm h
  ·cases h
 | .block id b,s,r,h=>by
  simp only [evC] at h ⊢;split at h
  ·rename_i i s1 hs1;rw [fG hc hnm hs1];exact h
  ·rename_i hne;rw [fG hc hnm h];split
   ·rename_i i s1 heq;cases heq;exact absurd h (hne i s1)
   ·rfl
 | .loop b,s,r,h=>by
  simp only [evC] at h ⊢;exact Q0 (fun s r hs=>fG hc hnm hs) hnm h
 | .exit id,s,r,h=>h
 | .ret,s,r,h=>h
end
theorem ZN {call call':aW} (hc:LeC call call'):∀{p:RProg} {r:Rt×AH},evR call p=some r->evR call' p=some r
 | .ret o,r,h=>h
 | .call f as H k,r,h=>by
  simp only [evR] at h ⊢;split at h
  ·rename_i x H' hx;rw [hc _ _ _ _ hx];exact ZN hc h
  ·cases h
section
variable {call call':aW} {n m:Nat}
theorem Fb (hc:LeC call call') (hnm:n<=m) {d:ADFn} {v:AV} {caps:List AV} {h h':AH} (he:vK call n d v caps h=some h'):vK call' m d v caps h=some h':=by
 unfold vK at he ⊢;cases hb:evC call n d.cbody ⟨recE d.rcv v (cH 0 caps),h⟩ with
 | none=>rw [hb] at he;cases he
 | some p=>rw [hb] at he;rw [fG hc hnm hb];exact he
theorem Df (hc:LeC call call') (hnm:n<=m) {d:ADFn} {caps:List AV} {o:Option (Ex×St)} {r:Ex×St} (he:NR call n d caps o=some r):NR call' m d caps o=some r:=by
 have one:∀(v:AV) (s:St),(vK call n d v caps s.h).map (fun h=>(Ex.ret,(⟨s.e,h⟩:St)))=some r->(vK call' m d v caps s.h).map (fun h=>(Ex.ret,(⟨s.e,h⟩:St)))=some r:=by
  intro v s h;rw [Qp] at h;obtain ⟨h',h1,h2⟩:=h;rw [Fb hc hnm h1];simpa using h2
 match o,he with
 | some (.normal,s),he=>exact one _ s he
 | some (.ret,s),he=>exact one _ s he
 | some (.pan v,s),he=>
  simp only [NR] at he ⊢;split at he
  ·rename_i hr;rw [a9 hr];exact one _ s he
  ·cases he
 | some (.exit _,_),he=>cases he
 | none,he=>cases he
theorem ZM (hc:LeC call call') (hnm:n<=m) {d:ADFn}:∀{c:DCode} {s:St} {r:Ex×St},evD call n d c s=some r->evD call' m d c s=some r
 | .seq a k,s,r,he=>by
  simp only [evD] at he ⊢;split at he
  ·rename_i s' hs;rw [fG hc hnm hs];exact ZM hc hnm he
  ·rename_i hne;rw [fG hc hnm he];split
   ·rename_i s1 heq;cases heq;exact absurd he (hne s1)
   ·rfl
 | .dfr ops t body,s,r,he=>by
  simp only [evD] at he ⊢;split at he
  ·rename_i s1 hs;rw [C7 hc hs];simp only;cases ht:(look t s1.e).bind tgt with
   | none=>rw [ht] at he;cases he
   | some p=>
    rw [ht] at he;simp only at he ⊢;split at he
    ·rename_i hh;rw [a9 hh];cases hb:evC call n body s1 with
     | none=>rw [hb] at he;cases he
     | some q=>
      rw [hb] at he;rw [fG hc hnm hb];exact Df hc hnm he
    ·cases he
  ·rename_i hne;rw [C7 hc he];split
   ·rename_i s1 heq;cases heq;exact absurd he (hne s1)
   ·rfl
end
section
variable {call call':aW} {n m:Nat}
theorem Gj (hc:LeC call call') (hnm:n<=m) {pid id:Nat} {e0:Env} {ps:List Nat} {asg body:Xb}:LeC (hB call n pid id e0 ps asg body) (hB call' m pid id e0 ps asg body):=by
 intro f as H r h;unfold hB at h ⊢;split at h
 ·rename_i hf;rw [a9 hf];split at h
  ·rename_i hg;rw [a9 hg];split at h
   ·rename_i s1 hs1;rw [fG hc hnm hs1];simp only;cases hb:evC call n body s1 with
    | none=>rw [hb] at h;cases h
    | some q=>
     rw [hb] at h;rw [fG hc hnm hb];exact h
   ·cases h
  ·cases h
 ·rename_i hf;rw [a8 hf];exact hc _ _ _ _ h
theorem Fc (hc:LeC call call') (hnm:n<=m) {id:Nat} {g:AX} {it:FuncId} {itn:AFn} {Y ps:List Nat} {asg body:Xb} {s:St} {r:Ex×St} (h:FC call n id g it itn Y ps asg body s=some r):FC call' m id g it itn Y ps asg body s=some r:=by
 unfold FC at h ⊢;split at h
 ·rename_i f a b hg;split at h
  ·rename_i hcd;rw [a9 hcd];cases hb:evC (hB call n s.h.next id s.e ps asg body) n itn.body ⟨cH 0 (a++YV::b),s.h.new (.tok 1 0)⟩ with
   | none=>rw [hb] at h;cases h
   | some q=>
    rw [hb] at h;rw [fG (Gj hc hnm) hnm hb];exact h
  ·cases h
 ·cases h
theorem Q2 (hc:LeC call call') (hnm:n<=m):∀{c:RgCode} {s:St} {r:Ex×St},evRg call n c s=some r->evRg call' m c s=some r
 | .seqL x b,s,r,he=>by
  simp only [evRg] at he ⊢;split at he
  ·rename_i s' hs;rw [Q2 hc hnm hs];exact fG hc hnm he
  ·rename_i hne;rw [Q2 hc hnm he];split
   ·rename_i s1 heq;cases heq;exact absurd he (hne s1)
   ·rfl
 | .seqR a x,s,r,he=>by
  simp only [evRg] at he ⊢;split at he
  ·rename_i s' hs;rw [fG hc hnm hs];exact Q2 hc hnm he
  ·rename_i hne;rw [fG hc hnm he];split
   ·rename_i s1 heq;cases heq;exact absurd he (hne s1)
   ·rfl
 | .rng id g it itn Y ps asg body,s,r,he=>Fc hc hnm he
end
theorem NI {Φ:FuncId->Option AFun}:∀{n m:Nat},n<=m->LeC (evF Φ n) (evF Φ m)
 | 0,_,_=>fun _ _ _ _ h=>(by cases h)
 | n+1,0,h=>(by omega)
 | n+1,m+1,hnm=>by
  intro f as H r h;simp only [evF] at h ⊢;split at h
  ·cases h
  ·exact ZN (NI (by omega)) h
  ·rename_i d hd;split at h
   ·rename_i hl;rw [a9 hl];cases hb:evRg (evF Φ n) n d.code ⟨cH 0 as,H⟩ with
    | none=>rw [hb] at h;cases h
    | some p=>
     rw [hb] at h;rw [Q2 (NI (by omega)) (by omega) hb];exact h
   ·cases h
  ·rename_i d hd;split at h
   ·rename_i hl;rw [a9 hl];cases hb:evD (evF Φ n) n d d.code ⟨cH 0 as,H⟩ with
    | none=>rw [hb] at h;cases h
    | some p=>
     rw [hb] at h;rw [ZM (NI (by omega)) (by omega) hb];exact h
   ·cases h
  ·rename_i fn hfn;split at h
   ·rename_i hl;rw [a9 hl];cases hb:evC (evF Φ n) n fn.body ⟨cH 0 as,H⟩ with
    | none=>rw [hb] at h;cases h
    | some p=>
     rw [hb] at h;rw [fG (NI (by omega)) (by omega) hb];exact h
   ·cases h
end Go.Av
namespace Go.Av
section lim
open Classical in
noncomputable def limO {U : Type} (f : Nat -> Option U) : Option U :=
 if h:∃n r,f n=some r then f (Classical.choose h) else none
theorem V7 {U:Type} {f:Nat->Option U} (hm:∀n m r,n<=m->f n=some r->f m=some r):∃N,∀m,N<=m->f m=limO f:=by
 unfold limO;split
 ·rename_i h;obtain ⟨r,hr⟩:=Classical.choose_spec h;refine ⟨Classical.choose h,fun m hn=>?_⟩;rw [hr,hm _ _ _ hn hr]
 ·rename_i h;refine ⟨0,fun m _=>?_⟩;cases hf:f m with
  | none=>rfl
  | some r=>exact absurd ⟨m,r,hf⟩ h
theorem Ha {U:Type} {f:Nat->Option U} {r:U} (h:limO f=some r):∃n,f n=some r:=by
 unfold limO at h;split at h
 ·exact ⟨_,h⟩
 ·cases h
theorem Kp {U:Type} {f:Nat->Option U} (hm:∀n m r,n<=m->f n=some r->f m=some r) {n:Nat} {r:U} (h:f n=some r):limO f=some r:=by
 obtain ⟨N,hN⟩:=V7 hm;rw [<- hN (max n N) (by omega)];exact hm _ _ _ (by omega) h
end lim
section
variable (κ:Nat->aW)
noncomputable def zB : aW := fun f as H => limO fun n => κ n f as H
noncomputable def fN (c : Xb) (s : St) : Option (Ex × St) := limO fun n => evC (κ n) n c s
variable (hκ:∀n m,n<=m->LeC (κ n) (κ m))
include hκ
theorem DP (f:FuncId) (as:List AV) (H:AH):∃N,∀m,N<=m->κ m f as H=zB κ f as H:=
 V7 fun _ _ r hnm h=>hκ _ _ hnm f as H r h
theorem Gt {f:FuncId} {as:List AV} {H:AH} {r:Rt×AH} {n:Nat} (h:κ n f as H=some r):zB κ f as H=some r:=
 Kp (fun _ _ r hnm h=>hκ _ _ hnm f as H r h) h
theorem jB (c:Xb) (s:St):∃N,∀m,N<=m->evC (κ m) m c s=fN κ c s:=
 V7 fun _ _ _ hnm h=>fG (hκ _ _ hnm) hnm h
theorem Fa (e:Env) (nx:Nat) (H:AH) (op:AOp):∃N,∀m,N<=m->a7 (κ m) e nx H op=a7 (zB κ) e nx H op:=by
 cases hk:op.isCall with
 | false=>exact ⟨0,fun m _=>by rw [DH hk,DH hk]⟩
 | true=>
  have pc:∀f as H,∃N,∀m,N<=m->dL (κ m) f as H=dL (zB κ) f as H:=by
   intro f as H;unfold dL;cases mapO (snap aA H) as with
   | none=>exact ⟨0,fun _ _=>rfl⟩
   | some as'=>
    obtain ⟨N,hN⟩:=DP κ hκ f as' H0;exact ⟨N,fun m hm=>by simp only [hN m hm]⟩
  cases op<;>first
   | (cases hk;done)
   | skip
  case pcall f xs=>
   simp only [a7];cases mapO (evX e) xs with
   | none=>exact ⟨0,fun _ _=>rfl⟩
   | some as=>exact pc f as H
  case pcallk f xs=>
   simp only [a7];cases mapO (evX e) xs with
   | none=>exact ⟨0,fun _ _=>rfl⟩
   | some as=>
    cases hr:DY as with
    | none=>exact ⟨0,fun _ _=>by simp only [hr]⟩
    | some id=>
     cases ha:mapO (w9 H id) as with
     | none=>exact ⟨0,fun _ _=>by simp only [hr,ha]⟩
     | some as'=>
      obtain ⟨N,hN⟩:=pc f as' (H.kill id);refine ⟨N,fun m hm=>?_⟩;simp only [hr,ha];split
      ·rfl
      ·exact hN m hm
  case pcallr f xs=>
   simp only [a7];cases mapO (evX e) xs with
   | none=>exact ⟨0,fun _ _=>rfl⟩
   | some as=>
    unfold jQ;simp only;cases mapO (snap aA H) as with
    | none=>exact ⟨0,fun _ _=>rfl⟩
    | some as'=>
     obtain ⟨N,hN⟩:=DP κ hκ f as' H0;exact ⟨N,fun m hm=>by simp only [hN m hm]⟩
  case pcallz d f xs=>
   simp only [a7];cases mapO (evX e) xs with
   | none=>exact ⟨0,fun _ _=>rfl⟩
   | some as=>
    cases ha:mapO (snap aA (H.old (nx - d))) as with
    | none=>exact ⟨0,fun _ _=>by simp only [ha]⟩
    | some as'=>
     obtain ⟨N,hN⟩:=pc f as' (H.cut (nx - d));refine ⟨N,fun m hm=>?_⟩;simp only [ha];split
     ·rfl
     ·exact hN m hm
  case pcallf f xs=>
   simp only [a7];cases mapO (evX e) xs with
   | none=>exact ⟨0,fun _ _=>rfl⟩
   | some as=>
    unfold lQ;simp only;cases mapO (snap aA H) as with
    | none=>exact ⟨0,fun _ _=>rfl⟩
    | some as'=>
     obtain ⟨N,hN⟩:=DP κ hκ f as' H0;exact ⟨N,fun m hm=>by simp only [hN m hm]⟩
  case tcall f xs=>
   simp only [a7];cases mapO (evX e) xs with
   | none=>exact ⟨0,fun _ _=>rfl⟩
   | some as=>exact DP κ hκ f as H
  case pcallv f xs=>
   simp only [a7];split
   ·rename_i fv as _ _;cases tgt2 fv with
    | none=>exact ⟨0,fun _ _=>rfl⟩
    | some p=>exact pc p.1 (p.2.1++as++p.2.2) H
   ·exact ⟨0,fun _ _=>rfl⟩
  case tcallv f xs=>
   simp only [a7];split
   ·rename_i fv as _ _;cases tgt2 fv with
    | none=>exact ⟨0,fun _ _=>rfl⟩
    | some p=>exact DP κ hκ p.1 (p.2.1++as++p.2.2) H
   ·exact ⟨0,fun _ _=>rfl⟩
  case pinvoke ms x xs=>
   simp only [a7];split
   ·rename_i t v as _ _;cases look t ms with
    | none=>exact ⟨0,fun _ _=>rfl⟩
    | some f=>exact pc f (v::as) H
   ·exact ⟨0,fun _ _=>rfl⟩
  case tinvoke ms x xs=>
   simp only [a7];split
   ·rename_i t v as _ _;cases look t ms with
    | none=>exact ⟨0,fun _ _=>rfl⟩
    | some f=>exact DP κ hκ f (v::as) H
   ·exact ⟨0,fun _ _=>rfl⟩
  case panic x=>exact ⟨0,fun _ _=>rfl⟩
theorem UN (base:Option Nat):∀(ops:List Xc) (s:St),∃N,∀m,N<=m->b7 (κ m) base ops s=b7 (zB κ) base ops s
 | [],s=>⟨0,fun _ _=>rfl⟩
 | o::r,s=>by
  simp only [b7];cases dT s.e o.guard with
  | none=>exact ⟨0,fun _ _=>rfl⟩
  | some b=>cases b with
   | false=>exact UN base r _
   | true=>
    obtain ⟨N,hN⟩:=Fa κ hκ s.e (bN base o.dst s.h) s.h o.op;cases hc:a7 (zB κ) s.e (bN base o.dst s.h) s.h o.op with
    | none=>exact ⟨N,fun m hm=>by simp only [hN m hm,hc]⟩
    | some p=>
     obtain ⟨x,h⟩:=p;cases x with
     | pan v=>exact ⟨N,fun m hm=>by simp only [hN m hm,hc]⟩
     | val v=>
      obtain ⟨M,hM⟩:=UN base r ⟨putE s.e o.dst v,h⟩;exact ⟨max N M,fun m hm=>by simp only [hN m (by omega),hc,hM m (by omega)]⟩
theorem Ev (s:St):fN κ .skip s=some (.normal,s):=by
 obtain ⟨N,hN⟩:=jB κ hκ .skip s;rw [<- hN N (Qb _)];rfl
theorem Fh (s:St):fN κ .ret s=some (.ret,s):=by
 obtain ⟨N,hN⟩:=jB κ hκ .ret s;rw [<- hN N (Qb _)];rfl
theorem Et (i:Nat) (s:St):fN κ (.exit i) s=some (.exit i,s):=by
 obtain ⟨N,hN⟩:=jB κ hκ (.exit i) s;rw [<- hN N (Qb _)];rfl
theorem Fi (a b:Xb) (s:St):fN κ (.seq a b) s=match fN κ a s with
  | some (.normal,s')=>fN κ b s'
  | r=>r:=by
 obtain ⟨N,hN⟩:=jB κ hκ (.seq a b) s;obtain ⟨N1,hN1⟩:=jB κ hκ a s;cases ha:fN κ a s with
 | none=>
  rw [<- hN (max N N1) (by omega)];simp only [evC,hN1 (max N N1) (by omega),ha]
 | some p=>
  obtain ⟨ex,s'⟩:=p;obtain ⟨N2,hN2⟩:=jB κ hκ b s';rw [<- hN (max N (max N1 N2)) (by omega)];simp only [evC,hN1 (max N (max N1 N2)) (by omega),ha];cases ex with
  | normal=>simp only [hN2 (max N (max N1 N2)) (by omega)]
  | _=>rfl
theorem Es (c:AX) (a b:Xb) (s:St):fN κ (.cond c a b) s=match evX s.e c with
  | some (.bool true)=>fN κ a s
  | some (.bool false)=>fN κ b s
  | _=>none:=by
 obtain ⟨N,hN⟩:=jB κ hκ (.cond c a b) s;obtain ⟨N1,hN1⟩:=jB κ hκ a s;obtain ⟨N2,hN2⟩:=jB κ hκ b s;rw [<- hN (max N (max N1 N2)) (by omega)];simp only [evC,hN1 (max N (max N1 N2)) (by omega),hN2 (max N (max N1 N2)) (by omega)];rfl
theorem Cn (i:Nat) (b:Xb) (s:St):fN κ (.block i b) s=match fN κ b s with
  | some (.exit j,s')=>if j=i then some (.normal,s') else some (.exit j,s')
  | r=>r:=by
 obtain ⟨N,hN⟩:=jB κ hκ (.block i b) s;obtain ⟨N1,hN1⟩:=jB κ hκ b s;rw [<- hN (max N N1) (by omega)];simp only [evC,hN1 (max N N1) (by omega)];rfl
theorem Eu (b:Xb) (s:St):fN κ (.loop b) s=match fN κ b s with
  | some (.normal,s')=>fN κ (.loop b) s'
  | r=>r:=by
 obtain ⟨N,hN⟩:=jB κ hκ (.loop b) s;obtain ⟨N1,hN1⟩:=jB κ hκ b s;cases hb:fN κ b s with
 | none=>
  rw [<- hN (max N N1+1) (by omega)];simp only [evC,mY,hN1 (max N N1+1) (by omega),hb]
 | some p=>
  obtain ⟨ex,s'⟩:=p;obtain ⟨N2,hN2⟩:=jB κ hκ (.loop b) s';have e1:=hN (max N (max N1 N2)+1) (by omega);rw [<- e1];simp only [evC,mY,hN1 (max N (max N1 N2)+1) (by omega),hb];cases ex with
  | normal=>
   simp only;have lo:=hN2 (max N (max N1 N2)) (by omega);have hi:=hN2 (max N (max N1 N2)+2) (by omega);simp only [evC] at lo hi;have step:∀n m,n<=m->LeC (κ n) (κ m):=fun n m h=>hκ _ _ h
   cases hl:fN κ (.loop b) s' with
   | some r=>
    rw [hl] at lo;exact Q0 (fun s r hs=>fG (step _ _ (by omega)) (by omega) hs) (Qb _) lo
   | none=>
    cases hm:mY (evC (κ (max N (max N1 N2)+1)) (max N (max N1 N2)+1) b) (max N (max N1 N2)) s' with
    | none=>rfl
    | some r=>
     have:=Q0 (b':=evC (κ (max N (max N1 N2)+2)) (max N (max N1 N2)+2) b) (fun s r hs=>fG (step _ _ (by omega)) (by omega) hs) (m:=max N (max N1 N2)+2) (by omega) hm;rw [hi,hl] at this;cases this
  | _=>rfl
theorem Cf (draw:Bool) (ops:List Xc) (keep:Option (List Nat)) (s:St):fN κ (.region draw [] ops keep) s=match b7 (zB κ) none ops s with
  | some (.normal,s')=>some (.normal,kept keep s')
  | r=>if draw then none else r:=by
 obtain ⟨N,hN⟩:=jB κ hκ (.region draw [] ops keep) s;obtain ⟨N1,hN1⟩:=UN κ hκ none ops s;rw [<- hN (max N N1) (by omega)];simp only [evC,hN1 (max N N1) (by omega),CT,if_true];rfl
end
section
variable (Φ:FuncId->Option AFun)
noncomputable def bA : aW := zB (evF Φ)
noncomputable def dS (c : Xb) (s : St) : Option (Ex × St) := fN (evF Φ) c s
theorem mI:∀n m,n<=m->LeC (evF Φ n) (evF Φ m):=fun _ _ h=>NI h
theorem Gr (f:FuncId) (as:List AV) (H:AH):∃N,∀m,N<=m->evF Φ m f as H=bA Φ f as H:=DP _ (mI Φ) f as H
theorem Ek {f:FuncId} {as:List AV} {H:AH} {r:Rt×AH} (h:bA Φ f as H=some r):∃n,evF Φ n f as H=some r:=Ha h
theorem ZU {f:FuncId} {as:List AV} {H:AH} {r:Rt×AH} {n:Nat} (h:evF Φ n f as H=some r):bA Φ f as H=some r:=Gt _ (mI Φ) h
theorem Gu (c:Xb) (s:St):∃N,∀m,N<=m->evC (evF Φ m) m c s=dS Φ c s:=jB _ (mI Φ) c s
theorem Er (s:St):dS Φ .skip s=some (.normal,s):=Ev _ (mI Φ) s
theorem Ff (s:St):dS Φ .ret s=some (.ret,s):=Fh _ (mI Φ) s
theorem Eo (i:Nat) (s:St):dS Φ (.exit i) s=some (.exit i,s):=Et _ (mI Φ) i s
theorem Fg (a b:Xb) (s:St):dS Φ (.seq a b) s=match dS Φ a s with
  | some (.normal,s')=>dS Φ b s'
  | r=>r:=Fi _ (mI Φ) a b s
theorem En (c:AX) (a b:Xb) (s:St):dS Φ (.cond c a b) s=match evX s.e c with
  | some (.bool true)=>dS Φ a s
  | some (.bool false)=>dS Φ b s
  | _=>none:=Es _ (mI Φ) c a b s
theorem Cm (i:Nat) (b:Xb) (s:St):dS Φ (.block i b) s=match dS Φ b s with
  | some (.exit j,s')=>if j=i then some (.normal,s') else some (.exit j,s')
  | r=>r:=Cn _ (mI Φ) i b s
theorem Ep (b:Xb) (s:St):dS Φ (.loop b) s=match dS Φ b s with
  | some (.normal,s')=>dS Φ (.loop b) s'
  | r=>r:=Eu _ (mI Φ) b s
theorem Ce (draw:Bool) (ops:List Xc) (keep:Option (List Nat)) (s:St):dS Φ (.region draw [] ops keep) s=match b7 (bA Φ) none ops s with
  | some (.normal,s')=>some (.normal,kept keep s')
  | r=>if draw then none else r:=Cf _ (mI Φ) draw ops keep s
theorem Ej {f:FuncId} {fn:AFn} (hf:Φ f=some (.code fn)) {as:List AV} {H:AH} (hl:as.length=fn.nparams):
  bA Φ f as H=zC (dS Φ fn.body ⟨cH 0 as,H⟩) fn.results:=by
 obtain ⟨N,hN⟩:=Gr Φ f as H;obtain ⟨N1,hN1⟩:=Gu Φ fn.body ⟨cH 0 as,H⟩;rw [<- hN (max N N1+1) (by omega)];simp only [evF,hf,a9 hl];rw [hN1 (max N N1) (by omega)]
noncomputable def cloI (d : ADFn) (v : AV) (caps : List AV) (h : AH) : Option AH :=
 match dS Φ d.cbody ⟨recE d.rcv v (cH 0 caps),h⟩ with
 | some (.normal,s)=>some s.h
 | some (.ret,s)=>some s.h
 | _=>none
noncomputable def dEndI (d : ADFn) (caps : List AV) : Option (Ex × St) -> Option (Ex × St)
 | some (.normal,s) | some (.ret,s)=>(cloI Φ d .niliface caps s.h).map fun h=>(.ret,⟨s.e,h⟩)
 | some (.pan v,s)=>if d.rcv.isSome then (cloI Φ d v caps s.h).map fun h=>(.ret,⟨s.e,h⟩) else none
 | _=>none
noncomputable def Ku (d : ADFn) : DCode -> St -> Option (Ex × St)
 | .seq a k,s=>match dS Φ a s with
  | some (.normal,s')=>Ku d k s'
  | r=>r
 | .dfr ops t body,s=>match b7 (bA Φ) none ops s with
  | some (.normal,s1)=>match (look t s1.e).bind tgt with
   | some (f,caps)=>if f=d.clo/\caps.length=d.ncaps then dEndI Φ d caps (dS Φ body s1) else none
   | none=>none
  | r=>r
noncomputable def yI (pid id : Nat) (e0 : Env) (ps : List Nat) (asg body : Xb) : aW := zB fun n => hB (evF Φ n) n pid id e0 ps asg body
noncomputable def rngI (id : Nat) (g : AX) (it : FuncId) (itn : AFn) (Y ps : List Nat) (asg body : Xb) (s : St) : Option (Ex × St) :=
 match evX s.e g with
 | some (.func (.func f) a b)=>
  if f=it/\(a++YV::b).length=itn.nparams/\((Y.all fun t=>t == a.length || decide (itn.nparams<=t))&&Y.contains a.length)=true then
   rgEnd s.e s.h.next (fN (fun n=>hB (evF Φ n) n s.h.next id s.e ps asg body) itn.body ⟨cH 0 (a++YV::b),s.h.new (.tok 1 0)⟩)
  else none
 | _=>none
noncomputable def rgI : RgCode -> St -> Option (Ex × St)
 | .seqL x b,s=>match rgI x s with
  | some (.normal,s')=>dS Φ b s'
  | r=>r
 | .seqR a x,s=>match dS Φ a s with
  | some (.normal,s')=>rgI x s'
  | r=>r
 | .rng id g it itn Y ps asg body,s=>rngI Φ id g it itn Y ps asg body s
noncomputable def ovr (y : List AV -> AH -> Option (Rt × AH)) : FuncId -> Option AFun := fun f => some (.rule fun as H => .ret (if f = YID then y as H else bA Φ f as H))
end
end Go.Av
namespace Go.Av
inductive Fr where
 | c (c:Xb)
 | b (id:Nat)
 | f (ks:List Nat)
noncomputable def goX (Φ : FuncId -> Option AFun) : List Fr -> Ex -> St -> Option (Ex × St)
 | [],ex,s=>some (ex,s)
 | .b i::K,ex,s=>match ex with
  | .exit j=>if j=i then goX Φ K .normal s else goX Φ K (.exit j) s
  | ex=>goX Φ K ex s
 | .f ks::K,ex,s=>match ex with
  | .normal=>goX Φ K .normal (E3 ks s)
  | ex=>goX Φ K ex s
 | .c c::K,ex,s=>match ex with
  | .normal=>match dS Φ c s with
   | some (ex',s')=>goX Φ K ex' s'
   | none=>none
  | ex=>goX Φ K ex s
def z8:Option (Rt×AH)->Option Rt
 | some (.val r,H)=>match snap aA H r with
  | some r'=>some (.val r')
  | none=>none
 | some (.pan r,H)=>match snap aA H r with
  | some r'=>some (.pan r')
  | none=>none
 | none=>none
noncomputable def dK (Φ : FuncId -> Option AFun) (f : FuncId) (as : List AV) : Option Rt := z8 (bA Φ f as H0)
def F2 (b:Bool) (H:AH):Option Rt->Option (Rt×AH)
 | some (.val r)=>if b&& !flat aA r then none else some (.val r,H)
 | some (.pan r)=>if flat aA r then some (.pan r,H) else none
 | none=>none
theorem Dj (Φ:FuncId->Option AFun) (f:FuncId) (as:List AV) (H:AH):dL (bA Φ) f as H=
  match mapO (snap aA H) as with
  | some as'=>F2 (anyL (bor aA) as) H (dK Φ f as')
  | none=>none:=by
 unfold dL dK;split<;>rename_i h
 ·simp [h]
 ·simp only [h];split<;>rename_i h2
  ·rw [h2];simp only [z8];split<;>rename_i h3<;>simp [h3,F2]
  ·rw [h2];simp only [z8];split<;>rename_i h3<;>simp [h3,F2]
  ·rw [h2];rfl
def finC (rs:List ARes) (o:Option (Ex×St)):Option (Rt×AH):=zC o rs
def finP (rs:List ARes) (o:Option (Ex×St)):Option Rt:=z8 (zC o rs)
def retV (rs:List ARes) (s:St):Option AV:=match mapO (wB s) rs with
 | none=>none
 | some [v]=>some v
 | some vs=>some (.tup vs)
section
variable (Φ:FuncId->Option AFun) {Z:Type} (fin:Option (Ex×St)->Option Z)
noncomputable def go (K : List Fr) (ex : Ex) (s : St) : Option Z := fin (goX Φ K ex s)
noncomputable def jE (d : Bool) (ops : List Xc) (K : List Fr) (s : St) : Option Z :=
 match b7 (bA Φ) none ops s with
 | some (.normal,s')=>go Φ fin K .normal s'
 | some (ex,s')=>if d then fin none else go Φ fin K ex s'
 | none=>fin none
noncomputable def vM (d : Bool) (dst : Option Nat) (r : List Xc) (K : List Fr) (e : Env) (o : Option (Rt × AH)) : Option Z :=
 match o with
 | some (.val v,h)=>jE Φ fin d r K ⟨putE e dst v,h⟩
 | some (.pan v,h)=>if d then fin none else go Φ fin K (.pan v) ⟨e,h⟩
 | none=>fin none
noncomputable def NW (o : Option AV) (a b : Xb) (K : List Fr) (s : St) : Option Z := match o with
 | some (.bool true)=>go Φ fin (.c a::K) .normal s
 | some (.bool false)=>go Φ fin (.c b::K) .normal s
 | _=>fin none
noncomputable def z4 (o : Option AV) (w : Bool) (d : Bool) (dst : Option Nat) (op : AOp) (r : List Xc) (K : List Fr) (e : Env) (h : AH) : Option Z := match o with
 | some (.bool b)=>match b,w with
  | true,true | false,false=>vM Φ fin d dst r K e (a7 (bA Φ) e h.next h op)
  | true,false | false,true=>jE Φ fin d r K ⟨putE e dst (.tup []),h⟩
 | some (.tup [])=>jE Φ fin d r K ⟨putE e dst (.tup []),h⟩
 | _=>fin none
theorem Dt {d:Bool} {dst:Option Nat} {r:List Xc} {K:List Fr} {e:Env} {o o':Option (Rt×AH)} (h:o=o'):vM Φ fin d dst r K e o=vM Φ fin d dst r K e o':=by rw [h]
theorem Da {o o':Option AV} {a b:Xb} {K:List Fr} {s:St} (h:o=o'):NW Φ fin o a b K s=NW Φ fin o' a b K s:=by rw [h]
theorem Bw {o o':Option AV} {w d:Bool} {dst:Option Nat} {op:AOp} {r:List Xc} {K:List Fr} {e:Env} {h:AH} (ho:o=o'):z4 Φ fin o w d dst op r K e h=z4 Φ fin o' w d dst op r K e h:=by rw [ho]
attribute [congr] Dt Da Bw
@[simp] theorem Ew (a b:Xb) (K:List Fr) (s:St):NW Φ fin (some (.bool true)) a b K s=go Φ fin (.c a::K) .normal s:=rfl
@[simp] theorem Db (a b:Xb) (K:List Fr) (s:St):NW Φ fin (some (.bool false)) a b K s=go Φ fin (.c b::K) .normal s:=rfl
@[simp] theorem Qx (d:Bool) (dst:Option Nat) (op:AOp) (r:List Xc) (K:List Fr) (e:Env) (h:AH):z4 Φ fin (some (.bool true)) true d dst op r K e h=vM Φ fin d dst r K e (a7 (bA Φ) e h.next h op):=rfl
@[simp] theorem Qu (d:Bool) (dst:Option Nat) (op:AOp) (r:List Xc) (K:List Fr) (e:Env) (h:AH):z4 Φ fin (some (.bool false)) false d dst op r K e h=vM Φ fin d dst r K e (a7 (bA Φ) e h.next h op):=rfl
@[simp] theorem Qw (d:Bool) (dst:Option Nat) (op:AOp) (r:List Xc) (K:List Fr) (e:Env) (h:AH):z4 Φ fin (some (.bool true)) false d dst op r K e h=jE Φ fin d r K ⟨putE e dst (.tup []),h⟩:=rfl
@[simp] theorem Qv (d:Bool) (dst:Option Nat) (op:AOp) (r:List Xc) (K:List Fr) (e:Env) (h:AH):z4 Φ fin (some (.bool false)) true d dst op r K e h=jE Φ fin d r K ⟨putE e dst (.tup []),h⟩:=rfl
@[simp] theorem Ol (w d:Bool) (dst:Option Nat) (op:AOp) (r:List Xc) (K:List Fr) (e:Env) (h:AH):z4 Φ fin (some (.tup [])) w d dst op r K e h=jE Φ fin d r K ⟨putE e dst (.tup []),h⟩:=rfl
variable {Φ fin}
@[simp] theorem Rh (d:Bool) (t:Nat) (r:List Xc) (K:List Fr) (e:Env) (v:AV) (h:AH):vM Φ fin d (some t) r K e (some (.val v,h))=jE Φ fin d r K ⟨(t,v)::e,h⟩:=rfl
@[simp] theorem Oq (d:Bool) (r:List Xc) (K:List Fr) (e:Env) (v:AV) (h:AH):vM Φ fin d none r K e (some (.val v,h))=jE Φ fin d r K ⟨e,h⟩:=rfl
@[simp] theorem Rg (dst:Option Nat) (r:List Xc) (K:List Fr) (e:Env) (v:AV) (h:AH):vM Φ fin false dst r K e (some (.pan v,h))=go Φ fin K (.pan v) ⟨e,h⟩:=rfl
@[simp] theorem Ox (d:Bool) (K:List Fr) (s:St):jE Φ fin d [] K s=go Φ fin K .normal s:=rfl
@[simp] theorem Ps (d:Bool) (dst:Option Nat) (op:AOp) (r:List Xc) (K:List Fr) (e:Env) (h:AH):
  jE Φ fin d (⟨dst,none,op⟩::r) K ⟨e,h⟩=vM Φ fin d dst r K e (a7 (bA Φ) e h.next h op):=by
 unfold jE;simp only [b7,dT];have:bN none dst h=h.next:=by cases dst<;>rfl
 rw [this];cases hc:a7 (bA Φ) e h.next h op with
 | none=>rfl
 | some p=>
  obtain ⟨x,h'⟩:=p;cases x<;>rfl
@[simp] theorem Ph (d:Bool) (dst:Option Nat) (t:Nat) (w:Bool) (op:AOp) (r:List Xc) (K:List Fr) (e:Env) (h:AH):
  jE Φ fin d (⟨dst,some (t,w),op⟩::r) K ⟨e,h⟩=z4 Φ fin (look t e) w d dst op r K e h:=by
 conv=>lhs;unfold jE
 simp only [b7];have:bN none dst h=h.next:=by cases dst<;>rfl
 rw [this];have run:(match a7 (bA Φ) e h.next h op with
   | none=>fin none
   | some (.val v,h')=>match b7 (bA Φ) none r ⟨putE e dst v,h'⟩ with
    | some (.normal,s')=>go Φ fin K .normal s'
    | some (ex,s')=>if d then fin none else go Φ fin K ex s'
    | none=>fin none
   | some (.pan v,h')=>if d then fin none else go Φ fin K (.pan v) ⟨e,h'⟩)=vM Φ fin d dst r K e (a7 (bA Φ) e h.next h op):=by
  cases a7 (bA Φ) e h.next h op with
  | none=>rfl
  | some p=>obtain ⟨x,h'⟩:=p;cases x<;>rfl
 have step:dT e (some (t,w))=some true->(match b7 (bA Φ) none (⟨dst,some (t,w),op⟩::r) ⟨e,h⟩ with
   | some (.normal,s')=>go Φ fin K .normal s'
   | some (ex,s')=>if d then fin none else go Φ fin K ex s'
   | none=>fin none)=vM Φ fin d dst r K e (a7 (bA Φ) e h.next h op):=by
  intro hg;rw [<- run];simp only [b7,hg,this];cases a7 (bA Φ) e h.next h op with
  | none=>rfl
  | some p=>obtain ⟨x,h'⟩:=p;cases x<;>rfl
 have skip:dT e (some (t,w))=some false->(match b7 (bA Φ) none (⟨dst,some (t,w),op⟩::r) ⟨e,h⟩ with
   | some (.normal,s')=>go Φ fin K .normal s'
   | some (ex,s')=>if d then fin none else go Φ fin K ex s'
   | none=>fin none)=jE Φ fin d r K ⟨putE e dst (.tup []),h⟩:=by
  intro hg;simp only [b7,hg];rfl
 simp only [b7,this] at step skip;cases hl:look t e with
 | none=>simp only [dT,hl,z4]
 | some v=>
  have hgo:dT e (some (t,w))=match (some v:Option AV) with
   | some (.bool b)=>some (b == w)
   | some (.tup [])=>some false
   | _=>none:=by simp only [dT,hl];rfl
  cases v with
  | bool b=>
   cases b<;>cases w
   ·exact step hgo
   ·exact skip hgo
   ·exact skip hgo
   ·exact step hgo
  | tup vs=>match vs with
   | []=>exact skip hgo
   | x::xs=>rw [hgo];rfl
  | _=>rw [hgo];rfl
@[simp] theorem go_nil (ex:Ex) (s:St):go Φ fin [] ex s=fin (some (ex,s)):=rfl
@[simp] theorem go_b (i:Nat) (K:List Fr) (s:St):go Φ fin (.b i::K) .normal s=go Φ fin K .normal s:=rfl
@[simp] theorem go_bx (i j:Nat) (K:List Fr) (s:St):go Φ fin (.b i::K) (.exit j) s=if j=i then go Φ fin K .normal s else go Φ fin K (.exit j) s:=by
 unfold go;simp only [goX];split<;>rfl
@[simp] theorem go_fx (ks:List Nat) (j:Nat) (K:List Fr) (s:St):go Φ fin (.f ks::K) (.exit j) s=go Φ fin K (.exit j) s:=rfl
@[simp] theorem go_f0 (K:List Fr) (s:St):go Φ fin (.f []::K) .normal s=go Φ fin K .normal s:=rfl
def frK:Option (List Nat)->List Fr->List Fr
 | none,K=>K
 | some ks,K=> .f ks::K
@[simp] theorem Rn (K:List Fr):frK none K=K:=rfl
@[simp] theorem Ro (ks:List Nat) (K:List Fr):frK (some ks) K= .f ks::K:=rfl
theorem Ma (o:Option (List Nat)) (K:List Fr) (s:St):go Φ fin (frK o K) .normal s=go Φ fin K .normal (kept o s):=by cases o<;>rfl
theorem Ec (o:Option (List Nat)) (K:List Fr) (v:AV) (s:St):go Φ fin (frK o K) (.pan v) s=go Φ fin K (.pan v) s:=by cases o<;>rfl
theorem Dg (o:Option (List Nat)) (K:List Fr) (j:Nat) (s:St):go Φ fin (frK o K) (.exit j) s=go Φ fin K (.exit j) s:=by cases o<;>rfl
theorem Ed (o:Option (List Nat)) (K:List Fr) (s:St):go Φ fin (frK o K) .ret s=go Φ fin K .ret s:=by cases o<;>rfl
theorem R8 {t:Nat} {ks:List Nat} {K:List Fr} {e:Env} {H:AH}:go Φ fin (.f (t::ks)::K) .normal ⟨e,H⟩=go Φ fin (.f ks::K) .normal (frzP t ⟨e,H⟩):=rfl
noncomputable def frzG (Φ : FuncId -> Option AFun) (fin : Option (Ex × St) -> Option Z) (t : Nat) (ks : List Nat) (K : List Fr) (e : Env) (H : AH) (id z i off : Nat) (o : Option AO) : Option Z := match o with
 | some (.row z' es)=>if z'=z/\anyL (bor aA) es.flatten=false then match mapO (mapO (snap aA H)) es with
   | some es'=>go Φ fin (.f ks::K) .normal ⟨(t,.iptr z es' i off)::e,H.kill id⟩
   | none=>go Φ fin (.f ks::K) .normal ⟨e,H⟩
  else go Φ fin (.f ks::K) .normal ⟨e,H⟩
 | _=>go Φ fin (.f ks::K) .normal ⟨e,H⟩
@[simp] theorem go_cx (c:Xb) (j:Nat) (K:List Fr) (s:St):go Φ fin (.c c::K) (.exit j) s=go Φ fin K (.exit j) s:=rfl
theorem QW:∀(K:List Fr) (s:St),goX Φ K .ret s=some (.ret,s)
 | [],s=>rfl
 | .b _::K,s=>QW K s
 | .f _::K,s=>QW K s
 | .c _::K,s=>QW K s
theorem QV (v:AV):∀(K:List Fr) (s:St),goX Φ K (.pan v) s=some (.pan v,s)
 | [],s=>rfl
 | .b _::K,s=>QV v K s
 | .f _::K,s=>QV v K s
 | .c _::K,s=>QV v K s
@[simp] theorem Kn (K:List Fr) (s:St):go Φ fin K .ret s=fin (some (.ret,s)):=by
 unfold go;rw [QW]
@[simp] theorem go_pan (K:List Fr) (v:AV) (s:St):go Φ fin K (.pan v) s=fin (some (.pan v,s)):=by
 unfold go;rw [QV]
theorem go_c (c:Xb) (K:List Fr) (s:St):go Φ fin (.c c::K) .normal s=match dS Φ c s with
  | some (ex',s')=>go Φ fin K ex' s'
  | none=>fin none:=by
 unfold go;simp only [goX];cases dS Φ c s<;>rfl
@[simp] theorem go_skip (K:List Fr) (s:St):go Φ fin (.c .skip::K) .normal s=go Φ fin K .normal s:=by
 rw [go_c,Er]
@[simp] theorem go_ret (K:List Fr) (s:St):go Φ fin (.c .ret::K) .normal s=fin (some (.ret,s)):=by
 rw [go_c,Ff];exact Kn K s
@[simp] theorem go_exit (i:Nat) (K:List Fr) (s:St):go Φ fin (.c (.exit i)::K) .normal s=go Φ fin K (.exit i) s:=by
 rw [go_c,Eo]
@[simp] theorem go_seq (a b:Xb) (K:List Fr) (s:St):go Φ fin (.c (.seq a b)::K) .normal s=go Φ fin (.c a:: .c b::K) .normal s:=by
 rw [go_c,go_c,Fg];cases dS Φ a s with
 | none=>rfl
 | some p=>
  obtain ⟨ex,s'⟩:=p;cases ex with
  | normal=>simp only [];rw [go_c]
  | exit i=>simp
  | ret=>simp
  | pan v=>simp
@[simp] theorem Rs (i:Nat) (b:Xb) (K:List Fr) (s:St):go Φ fin (.c (.block i b)::K) .normal s=go Φ fin (.c b:: .b i::K) .normal s:=by
 rw [go_c,go_c,Cm];cases dS Φ b s with
 | none=>rfl
 | some p=>
  obtain ⟨ex,s'⟩:=p;cases ex with
  | normal=>simp
  | exit j=>
   simp only [go_bx];by_cases h:j=i
   ·simp [h]
   ·simp [h]
  | ret=>simp
  | pan v=>simp
theorem S' (b:Xb) (K:List Fr) (s:St):go Φ fin (.c (.loop b)::K) .normal s=go Φ fin (.c b:: .c (.loop b)::K) .normal s:=by
 rw [go_c,go_c,Ep];cases dS Φ b s with
 | none=>rfl
 | some p=>
  obtain ⟨ex,s'⟩:=p;cases ex with
  | normal=>simp only [];rw [go_c]
  | exit i=>simp
  | ret=>simp
  | pan v=>simp
@[simp] theorem go_cond (x:AX) (a b:Xb) (K:List Fr) (s:St):go Φ fin (.c (.cond x a b)::K) .normal s=NW Φ fin (evX s.e x) a b K s:=by
 rw [go_c,En];cases h:evX s.e x with
 | none=>rfl
 | some v=>
  cases v with
  | bool b=>
   cases b with
   | true=>simp only [Ew];rw [go_c]
   | false=>simp only [Db];rw [go_c]
  | _=>rfl
theorem Kl {t:Nat} {ks:List Nat} {K:List Fr} {e:Env} {H:AH} {id z i off:Nat} (h:look t e=some (.ptr id z i off)):go Φ fin (.f (t::ks)::K) .normal ⟨e,H⟩=frzG Φ fin t ks K e H id z i off (H.get id):=by
 rw [R8];simp only [frzP,h,R7,frzG];cases H.get id with
 | none=>rfl
 | some o=>cases o with
  | row z' es=>
   by_cases hc:z'=z/\anyL (bor aA) es.flatten=false
   ·simp only [a9 hc];cases mapO (mapO (snap aA H)) es<;>rfl
   ·simp only [a8 hc]
  | _=>rfl
@[simp] theorem Pz (d:Bool) (ops:List Xc) (o:Option (List Nat)) (K:List Fr) (s:St):go Φ fin (.c (.region d [] ops o)::K) .normal s=jE Φ fin d ops (frK o K) s:=by
 rw [go_c,Ce];unfold jE;cases b7 (bA Φ) none ops s with
 | none=>cases d<;>rfl
 | some p=>
  obtain ⟨ex,s'⟩:=p;cases ex<;>cases d<;>simp [Ma,Ec,Dg,Ed]
theorem Gs {f:FuncId} {fn:AFn} (hf:Φ f=some (.code fn)) {as:List AV} {H:AH} (hl:as.length=fn.nparams):
  bA Φ f as H=go Φ (finC fn.results) [.c fn.body] .normal ⟨cH 0 as,H⟩:=by
 rw [Ej Φ hf hl,go_c];cases dS Φ fn.body ⟨cH 0 as,H⟩ with
 | none=>rfl
 | some p=>rfl
theorem DS {f:FuncId} {fn:AFn} (hf:Φ f=some (.code fn)) {as:List AV} (hl:as.length=fn.nparams):
  dK Φ f as=go Φ (finP fn.results) [.c fn.body] .normal ⟨cH 0 as,H0⟩:=by
 unfold dK;rw [Gs hf hl];rfl
end
def retC (h:AH):Option AV->Option (Rt×AH)
 | some v=>some (.val v,h)
 | none=>none
def retP (h:AH):Option AV->Option Rt
 | some v=>match snap aA h v with
  | some r=>some (.val r)
  | none=>none
 | none=>none
@[simp] theorem Rb (h:AH) (v:AV):retC h (some v)=some (.val v,h):=rfl
theorem Rc (h:AH) (v:AV):retP h (some v)=match snap aA h v with
  | some r=>some (.val r)
  | none=>none:=rfl
theorem Kh {rs:List ARes} {ex:Ex} {s:St} (he:ex= .ret\/ex= .normal):finC rs (some (ex,s))=retC s.h (retV rs s):=by
 unfold finC zC retV retC;rcases he with rfl | rfl
 all_goals
  dsimp only;cases mapO (wB s) rs with
  | none=>rfl
  | some vs=>match vs with
   | []=>rfl
   | [v]=>rfl
   | _::_::_=>rfl
@[simp] theorem Rk (rs:List ARes) (v:AV) (s:St):finC rs (some (.pan v,s))=some (.pan v,s.h):=rfl
theorem Ki {rs:List ARes} {ex:Ex} {s:St} (he:ex= .ret\/ex= .normal):finP rs (some (ex,s))=retP s.h (retV rs s):=by
 have:=Kh (rs:=rs) (s:=s) he;unfold finC at this;unfold finP;rw [this];cases retV rs s<;>rfl
@[simp] theorem Rm (rs:List ARes) (s:St):finP rs (some (.ret,s))=retP s.h (retV rs s):=Ki (.inl rfl)
@[simp] theorem Rl (rs:List ARes) (v:AV) (s:St):finP rs (some (.pan v,s))=z8 (some (.pan v,s.h)):=rfl
end Go.Av
namespace Go.Av
@[simp] theorem evX_t (e:Env) (n:Nat):evX e (.t n)=look n e:=rfl
@[simp] theorem evX_c (e:Env) (v:AV):evX e (.c v)=some v:=rfl
@[simp] theorem Ru {U:Type} (t:Nat) (x:U) (r:List (Nat×U)):look t ((t,x)::r)=some x:=by simp [look]
@[simp] theorem Qy {U:Type} (t u:Nat) (x:U) (r:List (Nat×U)) (h:u≠t):look t ((u,x)::r)=look t r:=by simp [look,h]
@[simp] theorem Ra (e:Env) (t:Nat) (v:AV):putE e (some t) v=(t,v)::e:=rfl
@[simp] theorem Qz (e:Env) (v:AV):putE e none v=e:=rfl
attribute [simp] cH
theorem TV {U:Type} (t:Nat):∀(a b:List (Nat×U)),look t (a++b)=(look t a).or (look t b)
 | [],b=>by simp [look]
 | (u,x)::a,b=>by
  simp only [FP,look];split
  ·simp
  ·exact TV t a b
@[simp] theorem Pt {U:Type} (t:Nat):look t ([]:List (Nat×U))=none:=Eq.trans (Eq.refl none) (Eq.refl none)
@[simp] theorem Pu {U:Type} (t:Nat) (x y:U) (r:List (Nat×U)):setl t y ((t,x)::r)=(t,y)::r:=by simp [setl]
@[simp] theorem Re {U:Type} (t u:Nat) (x y:U) (r:List (Nat×U)) (h:u≠t):setl t y ((u,x)::r)=(u,x)::setl t y r:=by simp [setl,h]
@[simp] theorem Ou {U:Type} (t:Nat) (x:U) (r:List (Nat×U)):fI t ((t,x)::r)=r:=by simp [fI]
@[simp] theorem Pm {U:Type} (t u:Nat) (x:U) (r:List (Nat×U)) (h:u≠t):fI t ((u,x)::r)=(u,x)::fI t r:=by simp [fI,h]
@[simp] theorem get_mk (l:List (Nat×AO)) (n t:Nat):AH.get ⟨l,n⟩ t=look t l:=by simp [AH.get]
@[simp] theorem set_mk (l:List (Nat×AO)) (n t:Nat) (o:AO):AH.set ⟨l,n⟩ t o=⟨setl t o l,n⟩:=by simp [AH.set]
@[simp] theorem kill_mk (l:List (Nat×AO)) (n t:Nat):AH.kill ⟨l,n⟩ t=⟨fI t l,n⟩:=by simp [AH.kill]
@[simp] theorem new_mk (l:List (Nat×AO)) (n:Nat) (o:AO):AH.new ⟨l,n⟩ o=⟨l++[(n,o)],n+1⟩:=by simp [AH.new]
@[simp] theorem put_new {l:List (Nat×AO)} {n t:Nat} {o:AO} (h:look t l=none):AH.put ⟨l,n⟩ t o=⟨l++[(n,o)],n+1⟩:=by
 simp [AH.put,h]
@[simp] theorem H0_mk:H0=⟨[],0⟩:=Eq.trans (Eq.refl H0) (Eq.refl H0)
attribute [simp] maxN
def Tail (T:List (Nat×AO)) (n:Nat):Prop:=∀j,n<=j->look j T=none
theorem Tail.nil (n:Nat):Tail [] n:=fun _ _=>rfl
theorem Tail.app {T:List (Nat×AO)} {n:Nat} (h:Tail T n) (o:AO):Tail (T++[(n,o)]) (n+1):=by
 intro j hj;rw [TV,h j (by omega)];have:n≠j:=by omega
 simp [look,this]
theorem Tail.mono {T:List (Nat×AO)} {n m:Nat} (h:Tail T n) (hm:n<=m):Tail T m:=fun j hj=>h j (by omega)
def vH (H:AH):Option AV->Option (Rt×AH)
 | some v=>some (.val v,H)
 | none=>none
@[simp] theorem vH_some (H:AH) (v:AV):vH H (some v)=some (.val v,H):=rfl
section
variable {Φ:FuncId->Option AFun} {e:Env} {nx:Nat} {h:AH}
def iT:Option (AV×AH)->Option (Rt×AH)
 | some (v,h)=>some (.val v,h)
 | none=>none
@[simp] theorem Om (v:AV) (h:AH):iT (some (v,h))=some (.val v,h):=rfl
theorem jN {call:aW} {op:AOp} (hk:op.isCall=false):a7 call e nx h op=iT (evOp e nx h op):=by
 rw [DH hk];cases evOp e nx h op<;>rfl
@[simp] theorem Pr {call:aW}:∀y0,a7 call e nx h (.mov y0)=iT (evOp e nx h (.mov y0)):=fun y0=>jN rfl
@[simp] theorem Pg {call:aW}:∀y0 y1 y2,a7 call e nx h (.pick y0 y1 y2)=iT (evOp e nx h (.pick y0 y1 y2)):=fun y0 y1 y2=>jN rfl
@[simp] theorem Ns {call:aW}:∀y0,a7 call e nx h (.alloc y0)=iT (evOp e nx h (.alloc y0)):=fun y0=>jN rfl
@[simp] theorem Pd {call:aW}:∀y0,a7 call e nx h (.boxi y0)=iT (evOp e nx h (.boxi y0)):=fun y0=>jN rfl
@[simp] theorem Ob {call:aW}:∀y0 y1,a7 call e nx h (.build y0 y1)=iT (evOp e nx h (.build y0 y1)):=fun y0 y1=>jN rfl
@[simp] theorem Pf {call:aW}:∀y0 y1 y2,a7 call e nx h (.load y0 y1 y2)=iT (evOp e nx h (.load y0 y1 y2)):=fun y0 y1 y2=>jN rfl
@[simp] theorem Og {call:aW}:∀y0 y1 y2,a7 call e nx h (.store y0 y1 y2)=iT (evOp e nx h (.store y0 y1 y2)):=fun y0 y1 y2=>jN rfl
@[simp] theorem Pn {call:aW}:∀y0 y1 y2,a7 call e nx h (.bin y0 y1 y2)=iT (evOp e nx h (.bin y0 y1 y2)):=fun y0 y1 y2=>jN rfl
@[simp] theorem Po {call:aW}:∀y0 y1 y2 y3 y4,a7 call e nx h (.eqs y0 y1 y2 y3 y4)=iT (evOp e nx h (.eqs y0 y1 y2 y3 y4)):=fun y0 y1 y2 y3 y4=>jN rfl
@[simp] theorem Ov {call:aW}:∀y0 y1,a7 call e nx h (.un y0 y1)=iT (evOp e nx h (.un y0 y1)):=fun y0 y1=>jN rfl
@[simp] theorem Pe {call:aW}:∀y0 y1,a7 call e nx h (.conv y0 y1)=iT (evOp e nx h (.conv y0 y1)):=fun y0 y1=>jN rfl
@[simp] theorem Oc {call:aW}:∀y0 y1,a7 call e nx h (.faddr y0 y1)=iT (evOp e nx h (.faddr y0 y1)):=fun y0 y1=>jN rfl
@[simp] theorem Od {call:aW}:∀y0 y1 y2 y3,a7 call e nx h (.iaddr y0 y1 y2 y3)=iT (evOp e nx h (.iaddr y0 y1 y2 y3)):=fun y0 y1 y2 y3=>jN rfl
@[simp] theorem Pp {call:aW}:∀y0 y1,a7 call e nx h (.ext y0 y1)=iT (evOp e nx h (.ext y0 y1)):=fun y0 y1=>jN rfl
@[simp] theorem Pq {call:aW}:∀y0,a7 call e nx h (.len y0)=iT (evOp e nx h (.len y0)):=fun y0=>jN rfl
@[simp] theorem Of {f:FuncId} {xs:List AX}:a7 (bA Φ) e nx h (.pcall f xs)=match mapO (evX e) xs with
  | some as=>dL (bA Φ) f as h
  | none=>none:=rfl
@[simp] theorem Nv {f:FuncId} {xs:List AX}:a7 (bA Φ) e nx h (.pcallk f xs)=match mapO (evX e) xs with
  | some as=>match DY as with
   | some id=>match mapO (w9 h id) as with
    | some as'=>if anyL (bor aA) as' then none else dL (bA Φ) f as' (h.kill id)
    | none=>none
   | none=>none
  | none=>none:=rfl
@[simp] theorem Nw {f:FuncId} {xs:List AX}:a7 (bA Φ) e nx h (.pcallr f xs)=match mapO (evX e) xs with
  | some as=>jQ (bA Φ) f as nx h
  | none=>none:=rfl
@[simp] theorem Ny {d:Nat} {f:FuncId} {xs:List AX}:a7 (bA Φ) e nx h (.pcallz d f xs)=match mapO (evX e) xs with
  | some as=>match mapO (snap aA (h.old (nx - d))) as with
   | some as'=>if anyL (bor aA) as' then none else dL (bA Φ) f as' (h.cut (nx - d))
   | none=>none
  | none=>none:=rfl
@[simp] theorem Nu {f:FuncId} {xs:List AX}:a7 (bA Φ) e nx h (.pcallf f xs)=match mapO (evX e) xs with
  | some as=>lQ (bA Φ) f as h
  | none=>none:=rfl
@[simp] theorem Oh {f:FuncId} {xs:List AX}:a7 (bA Φ) e nx h (.tcall f xs)=match mapO (evX e) xs with
  | some as=>bA Φ f as h
  | none=>none:=rfl
@[simp] theorem Nx {f:AX} {xs:List AX}:a7 (bA Φ) e nx h (.pcallv f xs)=match evX e f,mapO (evX e) xs with
  | some fv,some as=>match tgt2 fv with
   | some (f,first,caps)=>dL (bA Φ) f (first++as++caps) h
   | none=>none
  | _,_=>none:=rfl
@[simp] theorem Nz {f:AX} {xs:List AX}:a7 (bA Φ) e nx h (.tcallv f xs)=match evX e f,mapO (evX e) xs with
  | some fv,some as=>match tgt2 fv with
   | some (f,first,caps)=>bA Φ f (first++as++caps) h
   | none=>none
  | _,_=>none:=rfl
@[simp] theorem Nn {ms:List (TypeId×FuncId)} {x:AX} {xs:List AX}:a7 (bA Φ) e nx h (.pinvoke ms x xs)=match evX e x,mapO (evX e) xs with
  | some (.iface t v),some as=>match look t ms with
   | some f=>dL (bA Φ) f (v::as) h
   | none=>none
  | _,_=>none:=rfl
@[simp] theorem Np {ms:List (TypeId×FuncId)} {x:AX} {xs:List AX}:a7 (bA Φ) e nx h (.tinvoke ms x xs)=match evX e x,mapO (evX e) xs with
  | some (.iface t v),some as=>match look t ms with
   | some f=>bA Φ f (v::as) h
   | none=>none
  | _,_=>none:=rfl
@[simp] theorem Oe {x:AX}:a7 (bA Φ) e nx h (.panic x)=match evX e x with
  | some (.iface t v)=>some (.pan (.iface t v),h)
  | _=>none:=rfl
@[simp] theorem Ri (f:FuncId) (first caps:List AV):tgt2 (.func (.func f) first caps)=some (f,first,caps):=rfl
@[simp] theorem Py (f:FuncId) (caps:List AV):tgt (.func (.func f) [] caps)=some (f,caps):=rfl
@[simp] theorem Oa {f:FuncId} {as:List AV}:dL (bA Φ) f as h=
  match mapO (snap aA h) as with
  | some as'=>F2 (anyL (bor aA) as) h (dK Φ f as')
  | none=>none:=Dj Φ f as h
@[simp] theorem Oj (r:AV):F2 false h (some (.val r))=some (.val r,h):=rfl
@[simp] theorem Oi (b:Bool) (r:AV):F2 b h (some (.pan r))=if flat aA r then some (.pan r,h) else none:=rfl
attribute [simp] evOp mapO AV.cells part F3 E4 idx bnd lenOf bndM bndH bndL f4 eqK eqLs NX
 gC frz jP anyL aA mapO asInt eszOf
 retV wB retP z8
end
section
variable {n:Nat} {H:AH}
@[simp] theorem Pv (cs:List AV):snap (n+1) H (.agg cs)=(mapO (snap n H) cs).map .agg:=by simp only [snap]
@[simp] theorem Px (cs:List AV):snap (n+1) H (.tup cs)=(mapO (snap n H) cs).map .tup:=by simp only [snap]
@[simp] theorem Oo (e:Nat) (es:List (List AV)):snap (n+1) H (.slice e es)=some (.slice e es):=by simp only [snap]
@[simp] theorem Rf (b:Bool):snap (n+1) H (.bool b)=some (.bool b):=by simp only [snap]
@[simp] theorem Pw (k:IntKind) (x:Int):snap (n+1) H (.int k x)=some (.int k x):=by simp only [snap]
@[simp] theorem bor_agg (cs:List AV):bor (n+1) (.agg cs)=anyL (bor n) cs:=by simp only [bor]
@[simp] theorem Ot (e:Nat) (es:List (List AV)):bor (n+1) (.slice e es)=false:=by simp only [bor]
@[simp] theorem Rj (b:Bool):bor (n+1) (.bool b)=false:=by simp only [bor]
@[simp] theorem bor_int (k:IntKind) (x:Int):bor (n+1) (.int k x)=false:=by simp only [bor]
end
section lits
variable {k n:Nat}
@[simp] theorem lit_lt:((no_index (@OfNat.ofNat Int k instOfNat))<(n:Int))↔@OfNat.ofNat Nat k (instOfNatNat k)<n:=Int.ofNat_lt
@[simp] theorem lit_le:((no_index (@OfNat.ofNat Int k instOfNat))<=(n:Int))↔@OfNat.ofNat Nat k (instOfNatNat k)<=n:=Int.ofNat_le
@[simp] theorem lt_lit:((n:Int)<(no_index (@OfNat.ofNat Int k instOfNat)))↔n< @OfNat.ofNat Nat k (instOfNatNat k):=Int.ofNat_lt
end lits
attribute [simp] Int.natCast_inj Int.ofNat_lt Int.ofNat_le
@[simp] theorem bin_add (k:IntKind) (x y:Int):gN .add (.int k x) (.int k y)=some (.int k (k.wrap (x+y))):=by simp [gN]
@[simp] theorem bin_eql (k:IntKind) (x y:Int):gN .eql (.int k x) (.int k y)=some (.bool (decide (x=y))):=by
 simp [gN,PS]
@[simp] theorem bin_neq (k:IntKind) (x y:Int):gN .neq (.int k x) (.int k y)=some (.bool (!decide (x=y))):=by
 simp [gN,PS,bne]
@[simp] theorem bin_lss (k:IntKind) (x y:Int):gN .lss (.int k x) (.int k y)=some (.bool (decide (x<y))):=by simp [gN]
@[simp] theorem bin_gtr (k:IntKind) (x y:Int):gN .gtr (.int k x) (.int k y)=some (.bool (decide (x>y))):=by simp [gN]
def iand (k:IntKind) (x y:Int):Int:=k.wrap (BitVec.ofInt k.bits x&&& BitVec.ofInt k.bits y).toNat
def V6 (k:IntKind) (x y:Int):Int:=k.wrap (BitVec.ofInt k.bits x&&& ~~~BitVec.ofInt k.bits y).toNat
def ishr (k:IntKind) (x y:Int):Int:=x.fdiv (2^(min y.toNat k.bits))
def inot (k:IntKind) (n:Int):Int:=k.wrap (BitVec.ofInt k.bits (if k.signed then -1 else k.max)^^^BitVec.ofInt k.bits n).toNat
@[simp] theorem bin_and (k:IntKind) (x y:Int):gN .and (.int k x) (.int k y)=some (.int k (iand k x y)):=by simp [gN,iand]
@[simp] theorem Pj (k:IntKind) (x y:Int):gN .andNot (.int k x) (.int k y)=some (.int k (V6 k x y)):=by simp [gN,V6]
@[simp] theorem bin_shr (k k':IntKind) (x y:Int) (h:0<=y):gN .shr (.int k x) (.int k' y)=some (.int k (ishr k x y)):=by
 have:¬y<0:=by omega
 simp [gN,ishr,this]
@[simp] theorem un_xor (k:IntKind) (n:Int):unAV .xor (.int k n)=some (.int k (inot k n)):=rfl
@[simp] theorem un_not (b:Bool):unAV .not (.bool b)=some (.bool !b):=rfl
@[simp] theorem un_neg (k:IntKind) (n:Int):unAV .neg (.int k n)=some (.int k (k.wrap (0 - n))):=rfl
theorem Mt {n:Int} (h1: -2^63<=n) (h2:n<2^63):IntKind.wrap .i64 n=n:=by
 have e1:(2:Int)^64=18446744073709551616:=rfl;have e2:(2:Int)^(64 - 1)=9223372036854775808:=rfl;simp only [IntKind.wrap,IntKind.bits,IntKind.signed,Bool.true_and,decide_eq_true_eq,e1,e2];have e3:(2:Int)^63=9223372036854775808:=rfl;rw [e3] at h1 h2;split<;>omega
theorem wrapS (i:Nat) (h:i<2^62):IntKind.wrap .i64 ((i:Int)+1)=((i+1:Nat):Int):=Mt (by omega) (by omega)
@[simp] theorem Pi (z:Nat):vF z []=true:=rfl
@[simp] theorem eqKd_b (x y:Bool):eqKd .b (.bool x) (.bool y)=some (decide (x=y)):=by simp [eqKd,PS]
@[simp] theorem eqKd_i (k:IntKind) (x y:Int):eqKd .i (.int k x) (.int k y)=some (decide (x=y)):=by simp [eqKd,PS]
section
variable {Φ:FuncId->Option AFun} {Z:Type} {fin:Option (Ex×St)->Option Z}
variable (Φ fin) in
noncomputable def drG (base : Nat) (pairs : List (Nat × Nat)) (acc : List Foot) (ops : List Xc) (K : List Fr) (s : St) : Option Z :=
 match b7 (bA Φ) (some base) ops s with
 | some (.normal,s')=>if NS pairs (acc++feet (bA Φ) (some base) ops s) then go Φ fin K .normal ⟨s'.e,s'.h.sweep⟩ else fin none
 | _=>fin none
variable (Φ fin) in
noncomputable def CL (base : Nat) (pairs : List (Nat × Nat)) (acc : List Foot) (f : Foot) (h0 : AH) (dst : Option Nat) (r : List Xc) (K : List Fr) (e : Env) (o : Option (Rt × AH)) : Option Z :=
 match o with
 | some (.val v,h)=>drG Φ fin base pairs (acc++[n6 f h0 h]) r K ⟨putE e dst v,h⟩
 | _=>fin none
variable (Φ fin) in
noncomputable def NM (o : Option Bool) (base : Nat) (pairs : List (Nat × Nat)) (acc : List Foot) (dst : Option Nat) (op : AOp) (r : List Xc) (K : List Fr) (e : Env) (h : AH) : Option Z :=
 match o with
 | some true=>CL Φ fin base pairs acc (foot e (bN (some base) dst h) h op) h dst r K e (a7 (bA Φ) e (bN (some base) dst h) h op)
 | some false=>drG Φ fin base pairs (acc++[(some [],.no)]) r K ⟨putE e dst (.tup []),h⟩
 | none=>fin none
variable (Φ fin) in
noncomputable def VL (b : Bool) (K : List Fr) (e : Env) (h : AH) : Option Z := if b then go Φ fin K .normal ⟨e, h.sweep⟩ else fin none
theorem Cg {base:Nat} {pairs:List (Nat×Nat)} {acc acc':List Foot} {f f':Foot} {h0:AH} {dst:Option Nat} {r:List Xc} {K:List Fr} {e:Env} {o o':Option (Rt×AH)} (h1:acc=acc') (h2:f=f') (h3:o=o'):
  CL Φ fin base pairs acc f h0 dst r K e o=CL Φ fin base pairs acc' f' h0 dst r K e o':=by rw [h1,h2,h3]
theorem Bx {ob ob':Option Bool} {base:Nat} {pairs:List (Nat×Nat)} {acc:List Foot} {dst:Option Nat} {op:AOp} {r:List Xc} {K:List Fr} {e:Env} {h:AH} (h1:ob=ob'):
  NM Φ fin ob base pairs acc dst op r K e h=NM Φ fin ob' base pairs acc dst op r K e h:=by rw [h1]
theorem Dc {b b':Bool} {K:List Fr} {e:Env} {h:AH} (h1:b=b'):VL Φ fin b K e h=VL Φ fin b' K e h:=by rw [h1]
attribute [congr] Cg Bx Dc
@[simp] theorem Pl {base:Nat} {pairs:List (Nat×Nat)} {acc:List Foot} {f:Foot} {t:Nat} {r:List Xc} {K:List Fr} {e:Env} {v:AV} {h h0:AH}:
  CL Φ fin base pairs acc f h0 (some t) r K e (some (.val v,h))=drG Φ fin base pairs (acc++[n6 f h0 h]) r K ⟨(t,v)::e,h⟩:=rfl
@[simp] theorem Pc {base:Nat} {pairs:List (Nat×Nat)} {acc:List Foot} {f:Foot} {r:List Xc} {K:List Fr} {e:Env} {v:AV} {h h0:AH}:
  CL Φ fin base pairs acc f h0 none r K e (some (.val v,h))=drG Φ fin base pairs (acc++[n6 f h0 h]) r K ⟨e,h⟩:=rfl
@[simp] theorem Nr {base:Nat} {pairs:List (Nat×Nat)} {acc:List Foot} {dst:Option Nat} {op:AOp} {r:List Xc} {K:List Fr} {e:Env} {h:AH}:
  NM Φ fin (some true) base pairs acc dst op r K e h=CL Φ fin base pairs acc (foot e (bN (some base) dst h) h op) h dst r K e (a7 (bA Φ) e (bN (some base) dst h) h op):=rfl
@[simp] theorem Nt {base:Nat} {pairs:List (Nat×Nat)} {acc:List Foot} {dst:Option Nat} {op:AOp} {r:List Xc} {K:List Fr} {e:Env} {h:AH}:
  NM Φ fin (some false) base pairs acc dst op r K e h=drG Φ fin base pairs (acc++[(some [],.no)]) r K ⟨putE e dst (.tup []),h⟩:=rfl
@[simp] theorem Pk {K:List Fr} {e:Env} {h:AH}:VL Φ fin true K e h=go Φ fin K .normal ⟨e,h.sweep⟩:=rfl
variable (Φ fin) in
noncomputable def DQ (o : Option AV) (w : Bool) (base : Nat) (pairs : List (Nat × Nat)) (acc : List Foot) (dst : Option Nat) (op : AOp) (r : List Xc) (K : List Fr) (e : Env) (h : AH) : Option Z :=
 NM Φ fin (match o with
  | some (.bool b)=>some (b == w)
  | some (.tup [])=>some false
  | _=>none) base pairs acc dst op r K e h
theorem Bm {o o':Option AV} {w:Bool} {base:Nat} {pairs:List (Nat×Nat)} {acc:List Foot} {dst:Option Nat} {op:AOp} {r:List Xc} {K:List Fr} {e:Env} {h:AH} (h1:o=o'):
  DQ Φ fin o w base pairs acc dst op r K e h=DQ Φ fin o' w base pairs acc dst op r K e h:=by rw [h1]
attribute [congr] Bm
section
variable {base:Nat} {pairs:List (Nat×Nat)} {acc:List Foot} {dst:Option Nat} {op:AOp} {r:List Xc} {K:List Fr} {e:Env} {h:AH}
@[simp] theorem Pb:DQ Φ fin (some (.bool true)) true base pairs acc dst op r K e h=CL Φ fin base pairs acc (foot e (bN (some base) dst h) h op) h dst r K e (a7 (bA Φ) e (bN (some base) dst h) h op):=rfl
@[simp] theorem Oy:DQ Φ fin (some (.bool false)) false base pairs acc dst op r K e h=CL Φ fin base pairs acc (foot e (bN (some base) dst h) h op) h dst r K e (a7 (bA Φ) e (bN (some base) dst h) h op):=rfl
@[simp] theorem Pa:DQ Φ fin (some (.bool true)) false base pairs acc dst op r K e h=drG Φ fin base pairs (acc++[(some [],.no)]) r K ⟨putE e dst (.tup []),h⟩:=rfl
@[simp] theorem Oz:DQ Φ fin (some (.bool false)) true base pairs acc dst op r K e h=drG Φ fin base pairs (acc++[(some [],.no)]) r K ⟨putE e dst (.tup []),h⟩:=rfl
@[simp] theorem Nq (w:Bool):DQ Φ fin (some (.tup [])) w base pairs acc dst op r K e h=drG Φ fin base pairs (acc++[(some [],.no)]) r K ⟨putE e dst (.tup []),h⟩:=rfl
end
@[simp] theorem On {base d:Nat} {h:AH}:bN (some base) (some d) h=match h.get (base+d) with
  | some .res=>base+d
  | _=>h.next:=rfl
attribute [simp] NN DY VJ Wr.isNo FB AOp.makes FD fH foot CD V3 z5 E2 NS Foot.compat Wr.off
variable (Φ fin) in
noncomputable def frzB (t : Nat) (ks : List Nat) (K : List Fr) (e : Env) (H : AH) (id z i off : Nat) (b : Bool) (o : Option (List (List AV))) : Option Z := match b, o with
 | false,some es'=>go Φ fin (.f ks::K) .normal ⟨(t,.iptr z es' i off)::e,H.kill id⟩
 | _,_=>go Φ fin (.f ks::K) .normal ⟨e,H⟩
variable (Φ fin) in
noncomputable def frzR (t : Nat) (ks : List Nat) (K : List Fr) (e : Env) (H : AH) (id : Nat) (o : Option AV) : Option Z := match o with
 | some y=>go Φ fin (.f ks::K) .normal ⟨(t,y)::e,H.kill id⟩
 | none=>go Φ fin (.f ks::K) .normal ⟨e,H⟩
variable (Φ fin) in
noncomputable def frzV (t : Nat) (ks : List Nat) (K : List Fr) (e : Env) (H : AH) (v : Option AV) : Option Z := match v with
 | some (.ptr id z i off)=>frzG Φ fin t ks K e H id z i off (H.get id)
 | some (.row id z off len)=>frzR Φ fin t ks K e H id (yZ H id z off len)
 | _=>go Φ fin (.f ks::K) .normal ⟨e,H⟩
theorem Dx {t:Nat} {ks:List Nat} {K:List Fr} {e:Env} {H:AH} {id z i off:Nat} {b b':Bool} {o o':Option (List (List AV))} (h1:b=b') (h2:o=o'):frzB Φ fin t ks K e H id z i off b o=frzB Φ fin t ks K e H id z i off b' o':=by rw [h1,h2]
theorem Ea {t:Nat} {ks:List Nat} {K:List Fr} {e:Env} {H:AH} {o o':Option AV} (h2:o=o'):frzV Φ fin t ks K e H o=frzV Φ fin t ks K e H o':=by rw [h2]
theorem Dy {t:Nat} {ks:List Nat} {K:List Fr} {e:Env} {H:AH} {id z i off:Nat} {o o':Option AO} (h2:o=o'):frzG Φ fin t ks K e H id z i off o=frzG Φ fin t ks K e H id z i off o':=by rw [h2]
theorem Dz {t:Nat} {ks:List Nat} {K:List Fr} {e:Env} {H:AH} {id:Nat} {o o':Option AV} (h2:o=o'):frzR Φ fin t ks K e H id o=frzR Φ fin t ks K e H id o':=by rw [h2]
attribute [congr] Dx Ea Dy Dz
@[simp] theorem go_frzV {t:Nat} {ks:List Nat} {K:List Fr} {e:Env} {H:AH}:go Φ fin (.f (t::ks)::K) .normal ⟨e,H⟩=frzV Φ fin t ks K e H (look t e):=by
 cases hl:look t e with
 | none=>rw [R8];simp only [frzP,hl,frzV]
 | some v=>
  cases v with
  | ptr id z i off=>rw [Kl hl];rfl
  | row id z off len=>
   rw [R8];simp only [frzP,hl,frzV];cases yZ H id z off len<;>rfl
  | _=>rw [R8];simp only [frzP,hl,frzV]
@[simp] theorem Rq {t:Nat} {ks:List Nat} {K:List Fr} {e:Env} {H:AH} {id z i off:Nat}:frzV Φ fin t ks K e H (some (.ptr id z i off))=frzG Φ fin t ks K e H id z i off (H.get id):=rfl
@[simp] theorem Rr {t:Nat} {ks:List Nat} {K:List Fr} {e:Env} {H:AH} {id z off len:Nat}:frzV Φ fin t ks K e H (some (.row id z off len))=frzR Φ fin t ks K e H id (yZ H id z off len):=rfl
@[simp] theorem Ow {t:Nat} {ks:List Nat} {K:List Fr} {e:Env} {H:AH} {id:Nat} {y:AV}:frzR Φ fin t ks K e H id (some y)=go Φ fin (.f ks::K) .normal ⟨(t,y)::e,H.kill id⟩:=rfl
@[simp] theorem Rp {t:Nat} {ks:List Nat} {K:List Fr} {e:Env} {H:AH} {id z i off:Nat} {es:List (List AV)}:frzG Φ fin t ks K e H id z i off (some (.row z es))=frzB Φ fin t ks K e H id z i off (anyL (bor aA) es.flatten) (mapO (mapO (snap aA H)) es):=by
 simp only [frzG,true_and];cases anyL (bor aA) es.flatten<;>cases mapO (mapO (snap aA H)) es<;>simp [frzB]
@[simp] theorem frzB_ok {t:Nat} {ks:List Nat} {K:List Fr} {e:Env} {H:AH} {id z i off:Nat} {es':List (List AV)}:frzB Φ fin t ks K e H id z i off false (some es')=go Φ fin (.f ks::K) .normal ⟨(t,.iptr z es' i off)::e,H.kill id⟩:=rfl
theorem Ij {E:Type} (m:E->Nat) (Inv:E->Env->AH->Prop) (R:E->Option Z) {b:Xb} {K:List Fr}
  (step:∀x e h L,(∀j s,go Φ fin L (.exit j) s=go Φ fin K (.exit j) s)->Inv x e h->(∀y e' h',m y<m x->Inv y e' h'->go Φ fin L .normal ⟨e',h'⟩=R y)->go Φ fin (.c b::L) .normal ⟨e,h⟩=R x):
  ∀x e h,Inv x e h->go Φ fin (.c (.loop b)::K) .normal ⟨e,h⟩=R x:=by
 have key:∀n x e h,m x<=n->Inv x e h->go Φ fin (.c (.loop b)::K) .normal ⟨e,h⟩=R x:=by
  intro n
  induction n with
  | zero=>
   intro x e h hn hi;rw [S'];exact step x e h _ (fun j s=>by simp) hi fun y e' h' hlt=>by omega
  | succ n ih=>
   intro x e h hn hi;rw [S'];exact step x e h _ (fun j s=>by simp) hi fun y e' h' hlt hy=>ih y e' h' (by omega) hy
 intro x e h hi;exact key _ x e h (Qb _) hi
theorem C' (N:Nat) (Inv:Nat->Env->AH->Prop) (R:Nat->Option Z) {b:Xb} {K:List Fr}
  (step:∀i e h L,i<N->(∀j s,go Φ fin L (.exit j) s=go Φ fin K (.exit j) s)->Inv i e h->(∀e' h',Inv (i+1) e' h'->go Φ fin L .normal ⟨e',h'⟩=R (i+1))->go Φ fin (.c b::L) .normal ⟨e,h⟩=R i)
  (last:∀e h L,(∀j s,go Φ fin L (.exit j) s=go Φ fin K (.exit j) s)->Inv N e h->go Φ fin (.c b::L) .normal ⟨e,h⟩=R N):
  ∀i e h,i<=N->Inv i e h->go Φ fin (.c (.loop b)::K) .normal ⟨e,h⟩=R i:=by
 intro i e h hi hinv;refine Ij (E:={ i:Nat // i<=N }) (fun x=>N - x.1) (fun x=>Inv x.1) (fun x=>R x.1) ?_ ⟨i,hi⟩ e h hinv;intro ⟨i,hi⟩ e h L hL hinv ih;rcases Nat.lt_or_eq_of_le hi with hlt | heq
 ·exact step i e h L hlt hL hinv fun e' h' hi'=>ih ⟨i+1,hlt⟩ e' h' (by simp;omega) hi'
 ·subst heq;exact last e h L hL hinv
theorem Hb {h:AH} (N:Nat) (Inv:Nat->Env->Prop) (R:Nat->Option Z) {b:Xb} {K:List Fr}
  (step:∀i e L,i<N->(∀j s,go Φ fin L (.exit j) s=go Φ fin K (.exit j) s)->Inv i e->(∀e',Inv (i+1) e'->go Φ fin L .normal ⟨e',h⟩=R (i+1))->go Φ fin (.c b::L) .normal ⟨e,h⟩=R i)
  (last:∀e L,(∀j s,go Φ fin L (.exit j) s=go Φ fin K (.exit j) s)->Inv N e->go Φ fin (.c b::L) .normal ⟨e,h⟩=R N):
  ∀i e,i<=N->Inv i e->go Φ fin (.c (.loop b)::K) .normal ⟨e,h⟩=R i:=by
 intro i e hi hinv;refine C' N (fun i e h'=>h'=h/\Inv i e) R ?_ ?_ i e h hi ⟨rfl,hinv⟩
 ·rintro i e _ L hi hL ⟨rfl,hinv⟩ ih;exact step i e L hi hL hinv fun e' he'=>ih e' _ ⟨rfl,he'⟩
 ·rintro e _ L hL ⟨rfl,hinv⟩;exact last e L hL hinv
theorem Jh (N:Nat) (O:Nat->List (Nat×AO)) (k:Nat) (Inv:Nat->Env->Prop) (R:Nat->Option Z) {b:Xb} {K:List Fr}
  (step:∀i e n L,i<N->(∀j s,go Φ fin L (.exit j) s=go Φ fin K (.exit j) s)->k<=n->Inv i e->(∀e' n',k<=n'->Inv (i+1) e'->go Φ fin L .normal ⟨e',⟨O (i+1),n'⟩⟩=R (i+1))->go Φ fin (.c b::L) .normal ⟨e,⟨O i,n⟩⟩=R i)
  (last:∀e n L,(∀j s,go Φ fin L (.exit j) s=go Φ fin K (.exit j) s)->k<=n->Inv N e->go Φ fin (.c b::L) .normal ⟨e,⟨O N,n⟩⟩=R N):
  ∀i e n,i<=N->k<=n->Inv i e->go Φ fin (.c (.loop b)::K) .normal ⟨e,⟨O i,n⟩⟩=R i:=by
 intro i e n hi hn hinv;refine C' N (fun i e h=>∃n,k<=n/\h=⟨O i,n⟩/\Inv i e) R ?_ ?_ i e _ hi ⟨n,hn,rfl,hinv⟩
 ·rintro i e _ L hi hL ⟨n,hn,rfl,hinv⟩ ih;exact step i e n L hi hL hn hinv fun e' n' hn' he'=>ih e' _ ⟨n',hn',rfl,he'⟩
 ·rintro e _ L hL ⟨n,hn,rfl,hinv⟩;exact last e n L hL hn hinv
end
def HP (pre:List (Nat×AO)) (k:Nat) (h:AH):Prop:=∃T n,Tail T (n+k)/\h=⟨pre++T,n+k⟩
theorem HP.mk {pre:List (Nat×AO)} {k:Nat}:HP pre k ⟨pre,k⟩:=⟨[],0,fun _ _=>rfl,by simp⟩
theorem HP.next {pre T:List (Nat×AO)} {k n:Nat} {o:AO} (hT:Tail T (n+k)):HP pre k ⟨pre++(T++[(n+k,o)]),n+k+1⟩:=⟨T++[(n+k,o)],n+1,by
 have:=hT.app o
 rwa [show n+1+k=n+k+1 by omega],by rw [show n+1+k=n+k+1 by omega]⟩
theorem HP.same {pre T:List (Nat×AO)} {k n:Nat} (hT:Tail T (n+k)):HP pre k ⟨pre++T,n+k⟩:=⟨T,n,hT,rfl⟩
def HF (mk:List (Nat×AO)->List (Nat×AO)) (k:Nat) (h:AH):Prop:=∃T n,Tail T (n+k)/\h=⟨mk T,n+k⟩
theorem HF.mk {mk:List (Nat×AO)->List (Nat×AO)} {k:Nat}:HF mk k ⟨mk [],k⟩:=⟨[],0,fun _ _=>rfl,by simp⟩
theorem HF.next {mk:List (Nat×AO)->List (Nat×AO)} {T:List (Nat×AO)} {k n:Nat} {o:AO} (hT:Tail T (n+k)):HF mk k ⟨mk (T++[(n+k,o)]),n+k+1⟩:=⟨T++[(n+k,o)],n+1,by
 have:=hT.app o
 rwa [show n+1+k=n+k+1 by omega],by rw [show n+1+k=n+k+1 by omega]⟩
theorem HF.same {mk:List (Nat×AO)->List (Nat×AO)} {T:List (Nat×AO)} {k n:Nat} (hT:Tail T (n+k)):HF mk k ⟨mk T,n+k⟩:=⟨T,n,hT,rfl⟩
theorem Tail.two {T T2:List (Nat×AO)} {n m:Nat} {x:AO} (hT:Tail T n) (hT2:Tail T2 m) (h:n+1<=m):Tail (T++(n,x)::T2) m:=by
 intro j hj;rw [TV,hT j (by omega),Option.none_or];simp only [look];rw [a8 (by omega)];exact hT2 j hj
end Go.Av
