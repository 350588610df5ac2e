/-
  An abstract interpreter over the model, proved sound: part C.
-/
import Derived.Test.YtcehjengeaafpaaGreatAvB
import Derived.LoopN
import Derived.Scope
import Derived.Recover
import Derived.Tactics
set_option linter.all false
namespace Go.Av
variable {nx:Nat}
def qD (F:Nat->Nat->Prop) (B0:Nat) (w:World) (I:Beta) (H:AH) (r:Rt) (H':AH):Ending->World->Prop
 | .returned v,w'=>∃x,r= .val x/\Good F B0 w I H x H' v w'
 | .panicked c,w'=>∃x u,r= .pan x/\c=[{ v:=u,recovered:=false }]/\Good F B0 w I H x H' u w'
 | .outgrown,_=>False
def tU (P : Program) (f : FuncId) : Prop := ∃ fn, P.funcs[f]? = some fn ∧ fn.body.isNone = false ∧ (fn.name == "runtime.NumGoroutine") = false
def ArgsR (F:Nat->Nat->Prop) (w:World) (I:Beta) (H:AH) (as:List AV) (vs:Array Value):Prop:=
 as.length=vs.size/\∀(i:Nat) x v,as[i]? =some x->vs[i]? =some v->VRH F w I H x v
structure CallOk (P:Program) (call:aJ):Prop where
 body:∀f as H r H',call f as H=some (r,H')->tU P f
 runs:∀f as H r H',call f as H=some (r,H')->∀F B0 w I (vs:Array Value),HR F B0 w I H->ArgsR F w I H as vs->Calls P f vs w (qD F B0 w I H r H')
section
variable {F:Nat->Nat->Prop} {B0:Nat} {w:World} {I:Beta} {H:AH} {P:Program} {A:Ann} {fn:FuncId} {e:Env} {a:Act}
theorem BS (id:Nat):H0.get id=none:=rfl
theorem oI {I0:Beta} {b i:Nat} (h:Mut I0 H0 b i):False:=by
 obtain ⟨id,ob,o,h1,_⟩:=h;rw [BS] at h1;cases h1
theorem Ext.still {M:Nat->Nat->Prop} {w w':World} (h:Ext M w w') (hM:∀b i,¬M b i):∀b,b<w.heap.size->w'.heap[b]? =w.heap[b]? :=by
 intro b hb;rcases h.block b hb with h1 | ⟨c,c',ty,h1,h2,h3,h4⟩ | ⟨h1,_⟩
 ·exact h1
 ·have:c'=c:=DY (fun i=>h4 i (hM b i));rw [h2,h1,this]
 ·exact absurd h1 (hM b 0)
theorem FN {call:aJ} (hc:CallOk P call) {f:FuncId} {as:List AV} {r:Rt} {H':AH} (h:iI call f as H=some (r,H')):tU P f:=by
 unfold iI at h;split at h
 ·cases h
 ·rename_i as' has;split at h
  ·rename_i x H1 hcall;exact hc.body _ _ _ _ _ hcall
  ·rename_i x H1 hcall;exact hc.body _ _ _ _ _ hcall
  ·cases h
theorem FO {call:aJ} (hc:CallOk P call) {f:FuncId} {as:List AV} {r:Rt} {H':AH} (h:iI call f as H=some (r,H'))
    {vs:Array Value} (hr:HR F B0 w I H) (ha:ArgsR F w I H as vs):Calls P f vs w (qD F B0 w I H r H'):=by
  unfold iI at h;split at h
  · cases h
  · rename_i as' has
    let F':Nat->Nat->Prop:=fun b i=>anyL (bor aE) as=false/\(Mut I H b i\/F b i)
    let I0:Beta:=fun _=>none
    have hlt:∀b i,(Mut I H b i\/F b i)->b<w.heap.size:=by
      intro b i hm;rcases hm with hm | hm
      · exact (hr.mut_lt hm).1
      · exact H9 (hr.far b i hm) hr.base
    have hr0:HR F' w.heap.size w I0 H0:=by
      refine ⟨Qb _,fun b i hf=>hlt b i hf.2,trivial,fun _ _=>rfl,?_,?_⟩
      · intro id _ ob _ _ _ _ h1
        rw [BS] at h1;cases h1
      · intro id ob h1
        rw [BS] at h1;cases h1
    have hargs:ArgsR F' w I0 H0 as' vs:=by
      refine ⟨(eS has).symm.trans ha.1,?_⟩;intro i y v hy hv;obtain ⟨x,h1,h2⟩:=eU has hy;have hx:=ha.2 i x v h1 hv;cases hb:anyL (bor aE) as with
      | false=>
        refine .d ((BL _ x y v h2 (n8 hb x (Qe h1)) hx).mono ?_);intro b j u hi hcell;exact ⟨⟨fun hm=>oI hm,fun hf=>by rcases hf.2 with hm | hm;exact hi.1 hm;exact hi.2 hm⟩,hcell⟩
      | true=>
        refine .d (zJ hr (J:=Imm F' I0 H0) ?_ ?_ _ x y v h2 hx)
        · intro b j _
          exact ⟨fun hm=>oI hm,fun hf=>by have:=hf.1;rw [hb] at this;cases this⟩
        · intro b j _
          exact ⟨fun hm=>oI hm,fun hf=>by have:=hf.1;rw [hb] at this;cases this⟩
    have back:∀{x:AV} {H1:AH} {v:Value} {w':World},Good F' w.heap.size w I0 H0 x H1 v w'->
        Tr w I H w' I H/\HR F B0 w' I H/\∃I',HR F' w.heap.size w' I' H1/\VRH F' w' I' H1 x v:=by
      intro x H1 v w' hg;obtain ⟨I',h1,h2,h3⟩:=hg;have hs:=h1.ext.still (fun b i hm=>oI hm);have ht:Tr w I H w' I H:=by
        refine ⟨h1.ext.mono (fun b i hm=>(oI hm).elim),fun b i hm=> .inl hm,fun _ h=>h,?_,?_,?_⟩
        · intro id z es _ hg;exact ⟨⟨es,hg,rfl⟩,rfl⟩
        · intro id es _ hg;exact ⟨⟨es,hg⟩,rfl⟩
        · intro t z f _ hg;exact ⟨f,hg,Qb _,fun _=>rfl⟩
      exact ⟨ht,hr.same ht hs,I',h2,h3⟩
    split at h
    · rename_i x H1 hcall
      split at h
      · rename_i y hy
        split at h
        · cases h
        · rename_i hb
          cases h;refine (hc.runs _ _ _ _ _ hcall F' _ w I0 vs hr0 hargs).mono ?_;intro en w' hen;cases en with
          | returned v=>
            obtain ⟨x',hx',hg⟩:=hen;cases hx';obtain ⟨ht,hh,I',hr1,hv⟩:=back hg;refine ⟨y,rfl,I,ht,hh,.d ?_⟩;cases hbor:anyL (bor aE) as with
            | false=>
              refine zJ hr1 (J:=Imm F I H) ?_ ?_ _ x y v hy hv
              · intro b j hi
                exact ⟨fun hm=>hi.2 ⟨hbor,.inl hm⟩,fun hm=>hi.2 ⟨hbor,.inr hm⟩⟩
              · intro b j hle
                exact ⟨fun hm=>by have:=hlt b j (.inl hm);omega,fun hm=>by have:=hlt b j (.inr hm);omega⟩
            | true=>
              rw [hbor] at hb;have hf:flat aE y=true:=by simpa using hb
              exact HQ _ _ _ hf (zJ hr1 (J:=fun _ _=>True) (fun _ _ _=>trivial) (fun _ _ _=>trivial) _ x y v hy hv)
          | panicked c=>obtain ⟨x',u,hx',_⟩:=hen;cases hx'
          | outgrown=>exact hen.elim
      · cases h
    · rename_i x H1 hcall
      split at h
      · rename_i y hy
        split at h
        · rename_i hf
          cases h;refine (hc.runs _ _ _ _ _ hcall F' _ w I0 vs hr0 hargs).mono ?_;intro en w' hen;cases en with
          | returned v=>obtain ⟨x',hx',_⟩:=hen;cases hx'
          | panicked c=>
            obtain ⟨x',u,hx',hc',hg⟩:=hen;cases hx';obtain ⟨ht,hh,I',hr1,hv⟩:=back hg;exact ⟨y,u,rfl,hc',I,ht,hh,.d (HQ _ _ _ hf (zJ hr1 (J:=fun _ _=>True) (fun _ _ _=>trivial) (fun _ _ _=>trivial) _ x y u hy hv))⟩
          | outgrown=>exact hen.elim
        · cases h
      · cases h
    · cases h
theorem Yf {call:aJ} (hc:CallOk P call) {f:FuncId} {as:List AV} {r:Rt} {H':AH} (h:nH call f as nx H=some (r,H')):tU P f:=by
 unfold nH at h;split at h
 ·cases h
 ·split at h
  ·rename_i hcall;exact hc.body _ _ _ _ _ hcall
  ·rename_i hcall;exact hc.body _ _ _ _ _ hcall
  ·cases h
theorem Yg {call:aJ} (hc:CallOk P call) {f:FuncId} {as:List AV} {r:Rt} {H':AH} (hfr:Free H nx) (h:nH call f as nx H=some (r,H'))
    {vs:Array Value} (hr:HR F B0 w I H) (ha:ArgsR F w I H as vs):Calls P f vs w (qD F B0 w I H r H'):=by
  unfold nH at h;split at h
  · cases h
  · rename_i as' has
    let F':Nat->Nat->Prop:=fun _ _=>False
    let I0:Beta:=fun _=>none
    have hr0:HR F' w.heap.size w I0 H0:=by
      refine ⟨Qb _,fun b i hf=>hf.elim,trivial,fun _ _=>rfl,?_,?_⟩
      · intro id _ ob _ _ _ _ h1
        rw [BS] at h1;cases h1
      · intro id ob h1
        rw [BS] at h1;cases h1
    have hargs:ArgsR F' w I0 H0 as' vs:=by
      refine ⟨(eS has).symm.trans ha.1,?_⟩;intro i y v hy hv;obtain ⟨x,h1,h2⟩:=eU has hy;have hx:=ha.2 i x v h1 hv;refine .d (zJ hr (J:=Imm F' I0 H0) ?_ ?_ _ x y v h2 hx)
      · intro b j _
        exact ⟨fun hm=>oI hm,fun hf=>hf⟩
      · intro b j _
        exact ⟨fun hm=>oI hm,fun hf=>hf⟩
    split at h
    · rename_i id z off len H1 hcall
      split at h
      · rename_i z' es hget
        split at h
        rotate_left
        · cases h
        rename_i es' hsn;split at h
        · cases h
        rename_i hfl;simp only [AM] at hfl;cases h;refine (hc.runs _ _ _ _ _ hcall F' _ w I0 vs hr0 hargs).mono ?_;intro en w' hen;cases en with
        | outgrown=>exact hen.elim
        | panicked c=>obtain ⟨x',u,hx',_⟩:=hen;cases hx'
        | returned v=>
          obtain ⟨x',hx',I1,h1,h2,h3⟩:=hen;cases hx';have hs:=h1.ext.still (fun b i hm=>oI hm);have hext:Ext (Mut I H) w w':=h1.ext.mono (fun b i hm=>(oI hm).elim);obtain ⟨k1,k2,k3⟩:=qC h3;obtain ⟨b,o,c,m1,m2,m3,m4,m5,m6⟩:=h2.obj id _ hget;have hp:∀b' o',(some (b,o):Option (Nat×Nat))=some (b',o')->w.heap.size<=b':=by rintro b' o' ⟨⟩;exact m2
          have ht:=C1 hfr hr hext (.row z' es') (some (b,o)) hp;have hle:=eS hsn;have hob:ObjR F B0 w' (upd I nx (some (b,o))) (H.put nx (.row z' es')) nx (.row z' es'):=by
            refine ⟨b,o,c,eV _ _ _,oW hr.base m2,m3,by rw [<- hle];exact m4,fun e he=>?_,fun i j e x he hx=>?_⟩
            · obtain ⟨i,hi,rfl⟩:=Qn.1 he
              obtain ⟨e0,q1,q2⟩:=eU hsn (i:=i) (b:=es'[i]) (by simp [hi]);rw [<- eS q2];exact m5 e0 (Qe q1)
            · obtain ⟨e0,q1,q2⟩:=eU hsn he
              obtain ⟨x0,q3,q4⟩:=eU q2 hx;obtain ⟨u,p1,p2,p3⟩:=m6 i j e0 x0 q1 q3;have hf:flat aE x=true:=by
                have:=n8 hfl x (tJ.2 ⟨e,Qe he,Qe hx⟩);simpa using this
              exact ⟨u,p1,p2,.d (HQ _ _ _ hf (zJ h2 (J:=fun _ _=>True) (fun _ _ _=>trivial) (fun _ _ _=>trivial) _ x0 x u q4 p3))⟩
          have hh:=DO hfr hr hext (.row z' es') (some (b,o)) hp hs hob;refine ⟨_,rfl,_,ht,hh,.l ⟨uO hr hfr (by intro q;cases q),k2,fun z2 es2 hg=>?_⟩⟩;rw [nG hr hfr,a8 rfl] at hg;cases hg;obtain ⟨b',o',base,cap,c',e1,e2⟩:=k3 _ _ hget;rw [m1] at e1;cases e1;rw [hle] at e2;exact ⟨b,o,base,cap,c',eV _ _ _,e2⟩
      · cases h
    · rename_i z H1 hcall
      cases h;refine (hc.runs _ _ _ _ _ hcall F' _ w I0 vs hr0 hargs).mono ?_;intro en w' hen;cases en with
      | outgrown=>exact hen.elim
      | panicked c=>obtain ⟨x',u,hx',_⟩:=hen;cases hx'
      | returned v=>
        obtain ⟨x',hx',I1,h1,h2,h3⟩:=hen;cases hx';have hs:=h1.ext.still (fun b i hm=>oI hm);have ht:Tr w I H w' I H:=by
          refine ⟨h1.ext.mono (fun b i hm=>(oI hm).elim),fun b i hm=> .inl hm,fun _ h=>h,?_,?_,?_⟩
          · intro id z es _ hg;exact ⟨⟨es,hg,rfl⟩,rfl⟩
          · intro id es _ hg;exact ⟨⟨es,hg⟩,rfl⟩
          · intro t z f _ hg;exact ⟨f,hg,Qb _,fun _=>rfl⟩
        refine ⟨_,rfl,I,ht,hr.same ht hs,?_⟩;cases h3 with
        | d h=>cases h
        | l h=>
          obtain ⟨a,cap,rfl,_⟩:=lX h.1;exact .l ⟨.slice0 _ _ _,h.2⟩
    · cases h
theorem Am {n:Nat} {J:Nat->Nat->Prop} {esz b o:Nat} {es es':List (List AV)} {c:Array Value} (hb:Blk w b c)
  (hJ:∀i,J b i)
  (ih:∀e∈es,∀x∈e,∀y v,snap n H x=some y->VRH F w I H x v->VRD w J y v)
  (hz:∀e∈es,e.length=esz)
  (hc:∀(i j:Nat) e x,es[i]? =some e->e[j]? =some x->∃v,c[o+i*esz+j]? =some v/\v.oneCell'=true/\VRH F w I H x v)
  (hs:mapO (mapO (snap n H)) es=some es'):
  es'.length=es.length/\(∀e∈es',e.length=esz)/\∃vs:Nat->Nat->Value,
   (∀(i j:Nat) e x,es'[i]? =some e->e[j]? =some x->J b (o+i*esz+j)/\w.cell? ⟨b,o+i*esz+j,none⟩=some (vs i j)/\(vs i j).oneCell'=true)/\
   (∀(i j:Nat) e x,es'[i]? =some e->e[j]? =some x->VRD w J x (vs i j)):=by
 have key:∀(i j:Nat) e x,es'[i]? =some e->e[j]? =some x->∃v,c[o+i*esz+j]? =some v/\v.oneCell'=true/\VRD w J x v:=by
  intro i j e x he hx;obtain ⟨e0,h1,h2⟩:=eU hs he;obtain ⟨x0,h3,h4⟩:=eU h2 hx;obtain ⟨v,k1,k2,k3⟩:=hc i j e0 x0 h1 h3;exact ⟨v,k1,k2,ih e0 (Qe h1) x0 (Qe h3) x v h4 k3⟩
 refine ⟨(eS hs).symm,?_,fun i j=>(c[o+i*esz+j]?).getD default,?_,?_⟩
 ·intro e he;obtain ⟨i,hi,rfl⟩:=Qn.1 he;obtain ⟨e0,h1,h2⟩:=eU hs (i:=i) (b:=es'[i]) (by simp [hi]);rw [<- eS h2];exact hz e0 (Qe h1)
 ·intro i j e x he hx;obtain ⟨v,k1,k2,k3⟩:=key i j e x he hx;obtain ⟨ty,hb⟩:=hb;simp only [k1,lY];exact ⟨hJ _,cell_iff.2 ⟨c,ty,(0,0),hb,k1⟩,k2⟩
 ·intro i j e x he hx;obtain ⟨v,k1,k2,k3⟩:=key i j e x he hx;simp only [k1,lY];exact k3
theorem Ks {α I:Type} {f:α->Option I} {l:List α} {l':List I} (h:mapO f l=some l') {x:α} (hx:x∈l):∃y,f x=some y/\y∈l':=by
 obtain ⟨i,hi,rfl⟩:=Qn.1 hx;have hl:=eS h;obtain ⟨a,h1,h2⟩:=eU h (i:=i) (b:=l'[i]'(by omega)) (by simp);rw [Qa hi] at h1;cases h1;exact ⟨_,h2,Qd _⟩
theorem Wy {call:aJ} (hc:CallOk P call) {f:FuncId} {as:List AV} {r:Rt} {H':AH} (h:qQ call f as H=some (r,H')):tU P f:=by
 unfold qQ at h;split at h
 ·cases h
 ·split at h
  ·rename_i hcall;exact hc.body _ _ _ _ _ hcall
  ·rename_i hcall;exact hc.body _ _ _ _ _ hcall
  ·cases h
theorem Wz {call:aJ} (hc:CallOk P call) {f:FuncId} {as:List AV} {r:Rt} {H':AH} (h:qQ call f as H=some (r,H'))
    {vs:Array Value} (hr:HR F B0 w I H) (ha:ArgsR F w I H as vs):Calls P f vs w (qD F B0 w I H r H'):=by
  unfold qQ at h;split at h
  · cases h
  · rename_i as' has
    let F':Nat->Nat->Prop:=fun _ _=>False
    let I0:Beta:=fun _=>none
    have hr0:HR F' w.heap.size w I0 H0:=by
      refine ⟨Qb _,fun b i hf=>hf.elim,trivial,fun _ _=>rfl,?_,?_⟩
      · intro id _ ob _ _ _ _ h1
        rw [BS] at h1;cases h1
      · intro id ob h1
        rw [BS] at h1;cases h1
    have hargs:ArgsR F' w I0 H0 as' vs:=by
      refine ⟨(eS has).symm.trans ha.1,?_⟩;intro i y v hy hv;obtain ⟨x,h1,h2⟩:=eU has hy;have hx:=ha.2 i x v h1 hv;refine .d (zJ hr (J:=Imm F' I0 H0) ?_ ?_ _ x y v h2 hx)
      · intro b j _
        exact ⟨fun hm=>oI hm,fun hf=>hf⟩
      · intro b j _
        exact ⟨fun hm=>oI hm,fun hf=>hf⟩
    have back:∀{H1:AH} {w':World} {I1:Beta},Tr w I0 H0 w' I1 H1->Tr w I H w' I H/\HR F B0 w' I H:=by
      intro H1 w' I1 h1;have hs:=h1.ext.still (fun b i hm=>oI hm);have ht:Tr w I H w' I H:=by
        refine ⟨h1.ext.mono (fun b i hm=>(oI hm).elim),fun b i hm=> .inl hm,fun _ h=>h,?_,?_,?_⟩
        · intro id z es _ hg;exact ⟨⟨es,hg,rfl⟩,rfl⟩
        · intro id es _ hg;exact ⟨⟨es,hg⟩,rfl⟩
        · intro t z f _ hg;exact ⟨f,hg,Qb _,fun _=>rfl⟩
      exact ⟨ht,hr.same ht hs⟩
    split at h
    · rename_i id z off len H1 hcall
      split at h
      · rename_i z' es hget
        split at h
        rotate_left
        · cases h
        rename_i hz;obtain ⟨hz,hle⟩:=hz;subst hz;split at h
        rotate_left
        · cases h
        rename_i es' hm;split at h
        · cases h
        rename_i hfl;simp only [AM] at hfl;cases h;refine (hc.runs _ _ _ _ _ hcall F' _ w I0 vs hr0 hargs).mono ?_;intro en w' hen;cases en with
        | outgrown=>exact hen.elim
        | panicked c=>obtain ⟨x',u,hx',_⟩:=hen;cases hx'
        | returned v=>
          obtain ⟨x',hx',I1,h1,h2,h3⟩:=hen;cases hx';obtain ⟨ht,hh⟩:=back h1;refine ⟨_,rfl,I,ht,hh,.d ?_⟩;obtain ⟨_,⟨base,cap,rfl,k3,k4⟩,k5⟩:=qC h3;obtain ⟨b,o,base',cap',c,e1,e2,e3,e4,e5,e6,_⟩:=k5 _ _ hget;cases e2;obtain ⟨b',o',c',m1,m2,m3,m4,m5,m6⟩:=h2.obj id _ hget;rw [e1] at m1;cases m1;have hlen:((es.drop off).take len).length=len:=by simp;omega
          have hJ:∀i,Imm F I H b i:=by
            intro i;exact ⟨fun hm=>by have:=(hr.mut_lt hm).1;omega,fun hf=>by have:=hr.far b i hf;have:=hr.base;omega⟩
          obtain ⟨q0,q1,us,q2,q3⟩:=Am (J:=Imm F I H) (o:=o+off*z') m3 hJ
            (fun e he x hx y v hs hv=>by
              obtain ⟨e',g1,g2⟩:=Ks hm he;obtain ⟨y',g3,g4⟩:=Ks g1 hx;rw [hs] at g3;cases g3;have hf:flat aE y=true:=by
                have:=n8 hfl y (tJ.2 ⟨e',g2,g4⟩);simpa using this
              exact HQ _ _ _ hf (zJ h2 (J:=fun _ _=>True) (fun _ _ _=>trivial) (fun _ _ _=>trivial) _ x y v hs hv))
            (fun e he=>m5 e (tH (Qu he))) (by
              intro i j e x he hx;rw [List.getElem?_take] at he;split at he
              · rw [List.getElem?_drop] at he
                obtain ⟨u,n1,n2,n3⟩:=m6 _ j e x he hx;refine ⟨u,?_,n2,n3⟩;rw [<- n1,eR];congr 1;omega
              · cases he) hm
          rw [hlen] at q0;rcases Qw len with hl0 | hlp
          · subst hl0
            have:es'=[]:=Qg q0;subst this;exact .slice0 _ _ _
          · have hbase:base=some ⟨b,o+off*z',none⟩:=by
              rcases e4 with e4 | e4
              · omega
              · exact e4
            rw [hbase,<- q0];exact .slice z' es' b _ cap us (by intro e;rw [e] at q0;simp at q0;omega) q1 (by omega) q2 q3
      · cases h
    · rename_i z H1 hcall
      cases h;refine (hc.runs _ _ _ _ _ hcall F' _ w I0 vs hr0 hargs).mono ?_;intro en w' hen;cases en with
      | outgrown=>exact hen.elim
      | panicked c=>obtain ⟨x',u,hx',_⟩:=hen;cases hx'
      | returned v=>
        obtain ⟨x',hx',I1,h1,h2,h3⟩:=hen;cases hx';obtain ⟨ht,hh⟩:=back h1;refine ⟨_,rfl,I,ht,hh,?_⟩;cases h3 with
        | d h=>cases h
        | l h=>
          obtain ⟨a,cap,rfl,_⟩:=lX h.1;exact .l ⟨.slice0 _ _ _,h.2⟩
    · cases h
theorem Cp (hr:HR F B0 w I H) {u b j:Nat} (h:Imm F I H b j):Imm F I (H.kill u) b j:=by
 refine ⟨?_,h.2⟩;rintro ⟨id,ob,o,h1,h2,h3⟩;rw [tW hr] at h1;split at h1
 ·cases h1
 ·exact h.1 ⟨id,ob,o,h1,h2,h3⟩
theorem Ey (hr:HR F B0 w I H) (m:Nat):Tr w I H w I (H.cut m):=by
 have old:∀{id ob},(H.cut m).get id=some ob->H.get id=some ob:=by
  intro id ob h;rw [BN] at h;split at h
  ·cases h
  ·exact h
 refine ⟨.refl _ _,?_,fun k hk=>⟨hk.1,by rw [BN];split;simp;exact hk.2⟩,?_,?_,?_⟩
 ·rintro b i ⟨id,ob,o,h1,h2,h3⟩;exact .inl ⟨id,ob,o,old h1,h2,h3⟩
 ·intro id z es _ h;exact ⟨⟨es,old h,rfl⟩,rfl⟩
 ·intro id es _ h;exact ⟨⟨es,old h⟩,rfl⟩
 ·intro id z f _ h;exact ⟨f,old h,Qb _,fun _=>rfl⟩
theorem WR (hr:HR F B0 w I H) (m:Nat):HR F B0 w I (H.cut m):=by
 have old:∀{id ob},(H.cut m).get id=some ob->H.get id=some ob:=by
  intro id ob h;rw [BN] at h;split at h
  ·cases h
  ·exact h
 refine ⟨hr.base,hr.far,Ag (fun u=> !decide (u<m)) _ hr.uniq,?_,?_,?_⟩
 ·intro id hid;rw [BN];split
  ·rfl
  ·exact hr.next id hid
 ·intro id1 id2 o1 o2 b k1 k2 h1 h2 h3 h4;exact hr.inj id1 id2 o1 o2 b k1 k2 (old h1) (old h2) h3 h4
 ·intro id ob h;exact (hr.obj id ob (old h)).tr (Ey hr m) rfl (fun _ _ _=>rfl)
theorem NS (hr:HR F B0 w I H) {m:Nat} {as as':List AV} {vs:Array Value} (ha:ArgsR F w I H as vs) (h:mapO (snap aE (H.old m)) as=some as'):ArgsR F w I (H.cut m) as' vs:=by
 refine ⟨(eS h).symm.trans ha.1,?_⟩;intro i y v hy hv;obtain ⟨x,h1,h2⟩:=eU h hy;have hx:=ha.2 i x v h1 hv;have hsub:∀id ob,(H.old m).get id=some ob->H.get id=some ob/\id<m:=by
  intro id ob hg;rw [Dd] at hg;split at hg
  ·rename_i hlt;exact ⟨hg,hlt⟩
  ·cases hg
 refine .d (Lf hr (J:=Imm F I (H.cut m)) (fun id ob hg=>(hsub id ob hg).1) ?_ ?_ _ x y v h2 hx)
 ·rintro b j ⟨k1,k2⟩;refine ⟨?_,k2⟩;rintro ⟨id,ob,o,g1,g2,g3⟩;rw [BN] at g1;split at g1
  ·cases g1
  ·exact k1 ⟨id,ob,o,g1,g2,g3⟩
 ·intro id ob b o hg hβ j;obtain ⟨hg1,hlt⟩:=hsub id ob hg;refine ⟨?_,fun hf=>by have:=hr.far b j hf;have:=((hr.obj id ob hg1).lt hβ).2;omega⟩;rintro ⟨id',ob',o',g1,g2,g3⟩;rw [BN] at g1;split at g1
  ·cases g1
  ·rename_i hge;have:=hr.inj id id' ob ob' b o o' hg1 g1 hβ g2;omega
theorem UY (hr:HR F B0 w I H) {m:Nat} {r:Rt} {H':AH} {en:Ending} {w':World} (h:qD F B0 w I (H.cut m) r H' en w'):qD F B0 w I H r H' en w':=by
 cases en with
 | returned v=>
  obtain ⟨x,hx,I',h1,h2,h3⟩:=h;exact ⟨x,hx,I',(Ey hr m).trans h1,h2,h3⟩
 | panicked c=>
  obtain ⟨x,u,hx,hc,I',h1,h2,h3⟩:=h;exact ⟨x,u,hx,hc,I',(Ey hr m).trans h1,h2,h3⟩
 | outgrown=>exact h
theorem Ix (hr:HR F B0 w I H) {id z off len:Nat} {y:AV} {v:Value} (h:uU H id z off len=some y) (hv:VRH F w I H (.row id z off len) v):VRD w (Imm F I (H.kill id)) y v:=by
 unfold uU at h;split at h
 ·rename_i esz' es hget;split at h
  ·rename_i hz;obtain ⟨hz,hle,hbr⟩:=hz;subst hz;cases hm:mapO (mapO (snap aE H)) ((es.drop off).take len) with
   | none=>rw [hm] at h;cases h
   | some es'=>
    rw [hm] at h;cases h;obtain ⟨_,⟨base,cap,rfl,k3,k4⟩,k5⟩:=qC hv;obtain ⟨b,o,base',cap',c,e1,e2,e3,e4,e5,e6,_⟩:=k5 _ _ hget;cases e2;obtain ⟨b',o',c',m1,m2,m3,m4,m5,m6⟩:=hr.obj id _ hget;rw [e1] at m1;cases m1;have hlen:((es.drop off).take len).length=len:=by simp;omega
    have hJ:∀i,Imm F I (H.kill id) b i:=by
     intro i;refine ⟨?_,fun hf=>by have:=hr.far b i hf;omega⟩;rintro ⟨id',ob,o',h1,h2,h3⟩;rw [tW hr] at h1;split at h1
     ·cases h1
     ·rename_i hne;exact hne (hr.inj id id' _ ob b _ o' hget h1 e1 h2)
    obtain ⟨q0,q1,vs,q2,q3⟩:=Am (J:=Imm F I (H.kill id)) (o:=o+off*esz') m3 hJ
     (fun e he x hx y v hs hv=>(BL aE x y v hs (n8 hbr x (by
      rw [tJ];exact ⟨e,tH (Qu he),hx⟩)) hv).mono fun b j u hi hcell=>⟨Cp hr hi,hcell⟩)
     (fun e he=>m5 e (tH (Qu he))) (by
      intro i j e x he hx;rw [List.getElem?_take] at he;split at he
      ·rw [List.getElem?_drop] at he;obtain ⟨u,n1,n2,n3⟩:=m6 _ j e x he hx;refine ⟨u,?_,n2,n3⟩;rw [<- n1,eR];congr 1;omega
      ·cases he) hm
    rw [hlen] at q0;rcases Qw len with hl0 | hlp
    ·subst hl0;have:es'=[]:=Qg q0;subst this;exact .slice0 _ _ _
    ·have hbase:base=some ⟨b,o+off*esz',none⟩:=by
      rcases e4 with e4 | e4
      ·omega
      ·exact e4
     rw [hbase,<- q0];exact .slice esz' es' b _ cap vs (by intro e;rw [e] at q0;simp at q0;omega) q1 (by omega) q2 q3
  ·cases h
 ·cases h
theorem MN (hr:HR F B0 w I H) {id z i off:Nat} {y:AV} {v:Value} (h:JG H id z i off=some y) (hv:VRH F w I H (.ptr id z i off) v):VRD w (Imm F I (H.kill id)) y v:=by
 unfold JG at h;split at h
 ·rename_i esz' es hget;split at h
  ·rename_i hz;obtain ⟨hz,hbr⟩:=hz;subst hz;cases hm:mapO (mapO (snap aE H)) es with
   | none=>rw [hm] at h;cases h
   | some es'=>
    rw [hm] at h;cases h;obtain ⟨_,_,h3⟩:=u9 hv;obtain ⟨b,o,k1,rfl⟩:=h3 _ _ hget;obtain ⟨b',o',c,m1,m2,m3,m4,m5,m6⟩:=hr.obj id _ hget;rw [k1] at m1;cases m1;have hJ:∀i,Imm F I (H.kill id) b i:=by
     intro i;refine ⟨?_,fun hf=>by have:=hr.far b i hf;omega⟩;rintro ⟨id',ob,o',h1,h2,h3⟩;rw [tW hr] at h1;split at h1
     ·cases h1
     ·rename_i hne;exact hne (hr.inj id id' _ ob b _ o' hget h1 k1 h2)
    obtain ⟨q0,q1,vs,q2,q3⟩:=Am (J:=Imm F I (H.kill id)) m3 hJ
     (fun e he x hx y v hs hv=>(BL aE x y v hs (n8 hbr x (by
      rw [tJ];exact ⟨e,he,hx⟩)) hv).mono fun b j u hi hcell=>⟨Cp hr hi,hcell⟩)
     m5 m6 hm
    exact .iptr esz' es' i off b o vs q1 q2 q3
  ·cases h
 ·cases h
theorem PJ (hr:HR F B0 w I H) {id:Nat} {as as':List AV} {vs:Array Value} (ha:ArgsR F w I H as vs) (h:mapO (u6 H id) as=some as'):ArgsR F w I (H.kill id) as' vs:=by
 refine ⟨(eS h).symm.trans ha.1,?_⟩;intro i y v hy hv;obtain ⟨x,h1,h2⟩:=eU h hy;have hx:=ha.2 i x v h1 hv;refine .d ?_;unfold u6 at h2;split at h2
 ·rename_i j z off len;split at h2
  ·rename_i hj;subst hj;exact Ix hr h2 hx
  ·cases h2
 ·split at h2
  ·cases h2
  ·rename_i hb;exact (BL _ x y v h2 (by simpa using hb) hx).mono fun b j u hi hcell=>⟨Cp hr hi,hcell⟩
theorem QU (hr:HR F B0 w I H) {id:Nat} {r:Rt} {H':AH} {en:Ending} {w':World} (h:qD F B0 w I (H.kill id) r H' en w'):qD F B0 w I H r H' en w':=by
 cases en with
 | returned v=>
  obtain ⟨x,hx,I',h1,h2,h3⟩:=h;exact ⟨x,hx,I',(DB hr id).trans h1,h2,h3⟩
 | panicked c=>
  obtain ⟨x,u,hx,hc,I',h1,h2,h3⟩:=h;exact ⟨x,u,hx,hc,I',(DB hr id).trans h1,h2,h3⟩
 | outgrown=>exact h
structure Nxt (F:Nat->Nat->Prop) (B0:Nat) (w:World) (I:Beta) (H:AH) (a:Act) (o:Oper) (r:Rt) (H':AH) (K:Act->World->Prop) (Q:Exit->Act->World->Prop):Prop where
 val:∀x v w',r= .val x->Good F B0 w I H x H' v w'->K (a.put o.dst v) w'
 pan:∀x u w',r= .pan x->Good F B0 w I H x H' u w'->Q (.panic [{ v:=u,recovered:=false }]) a w'
theorem tQ {o:Oper} {r:Rt} {H':AH} {f:FuncId} {vs:Array Value} {K:Act->World->Prop} {Q:Exit->Act->World->Prop}
  (hx:(execOp a.eval o).run P w= .ok (.enter f vs) w) (hc:Calls P f vs w (qD F B0 w I H r H')) (hn:Nxt F B0 w I H a o r H' K Q):o.wp P a w K Q:=by
 unfold Oper.wp;rw [hx];refine hc.mono ?_;intro en w' hen;cases en with
 | returned v=>obtain ⟨x,rfl,hg⟩:=hen;exact hn.val x v w' rfl hg
 | panicked c=>obtain ⟨x,u,rfl,rfl,hg⟩:=hen;exact hn.pan x u w' rfl hg
 | outgrown=>exact hen.elim
theorem zT {o:Oper} {c:Call} {f:FuncId} {caps:Array Value} {g:Operand} (hb:tU P f) (ho:o.op= .call c) (hg:c.callee= .value g) {first:Array Value} (hv:a.eval g= .func (.func f) first caps):
  (execOp a.eval o).run P w= .ok (.enter f (first++c.args.map a.eval++caps)) w:=by
 obtain ⟨d,h1,h2,h3⟩:=hb
 have h3' : d.name ≠ "runtime.NumGoroutine" := by simpa using h3
 have h2':d.body≠none:=by intro hn;rw [hn] at h2;cases h2
 unfold execOp;simp [ho,resolve,hg,hv,Deferred.ofValue,invoke,callFunc,h1,h2',h3']
theorem tV {c:Call} {axs:List AX} {ys:List AV} (he:EnvR F w I H e a.tmps) (h:cXs P c.argTypes.toList c.args.toList=some axs) (hy:mapO (evX e) axs=some ys):
  ArgsR F w I H ys (c.args.map a.eval):=by
 obtain ⟨l1,l2⟩:=Ci he h hy;refine ⟨by simpa using l1,?_⟩;intro i x v hx hv;rw [Array.getElem?_map] at hv;obtain ⟨p,hp,rfl⟩:=map_some hv;exact l2 i x p hx (by simpa using hp)
theorem ArgsR.append {as bs:List AV} {vs us:Array Value} (h:ArgsR F w I H as vs) (h':ArgsR F w I H bs us):ArgsR F w I H (as++bs) (vs++us):=by
 refine ⟨by simp [h.1,h'.1],?_⟩;intro i x v hx hv;rcases Qv i as.length with hi | hi
 ·rw [Ql hi] at hx;rw [Array.getElem?_append_left (by rw [<- h.1];exact hi)] at hv;exact h.2 i x v hx hv
 ·rw [Qp hi] at hx;rw [Array.getElem?_append_right (by rw [<- h.1];exact hi),<- h.1] at hv;exact h'.2 _ x v hx hv
theorem OA {v:AV} {f:FuncId} {first caps:List AV} (h:tgt2 v=some (f,first,caps)):v= .func (.func f) first caps:=by
 unfold tgt2 at h;split at h
 ·cases h;rfl
 ·cases h
theorem RT {v:AV} {f:FuncId} {caps:List AV} (h:tgt v=some (f,caps)):v= .func (.func f) [] caps:=by
 unfold tgt at h;split at h
 ·cases h;rfl
 ·cases h
def AOp.isCall:AOp->Bool
 | .pcall .. | .pcallk .. | .pcallr .. | .pcallf .. | .pcallz .. | .tcall .. | .pcallv .. | .tcallv .. | .pinvoke .. | .tinvoke .. | .panic _=>true
 | _=>false
theorem BA {call:aJ} {ao:AOp} (h:ao.isCall=false):aB call e nx H ao=match evOp e nx H ao with | some (v,H')=>some (Rt.val v,H') | none=>none:=by
 cases ao<;>first
  | rfl
  | cases h
theorem IV {nm:String} {t:TypeId} {f:FuncId}:∀{l:List Nat},look t (mthL P nm l)=some f->JU P nm t=some f
 | [],h=>by cases h
 | u::r,h=>by
  unfold mthL at h;split at h
  ·rename_i g hg;simp only [look] at h;split at h
   ·rename_i e;subst e;cases h;exact hg
   ·exact IV h
  ·exact IV h
theorem Jr {o:Oper} {c:Call} {f:FuncId} {rv:Operand} {nm:String} (hb:tU P f) (ho:o.op= .call c) (hg:c.callee= .invoke rv nm) {t:TypeId} {u:Value} (hv:a.eval rv= .iface t u) (hm:JU P nm t=some f):
  (execOp a.eval o).run P w= .ok (.enter f (#[u]++c.args.map a.eval)) w:=by
 obtain ⟨d,h1,h2,h3⟩:=hb
 have h3' : d.name ≠ "runtime.NumGoroutine" := by simpa using h3
 have h2':d.body≠none:=by intro hn;rw [hn] at h2;cases h2
 unfold JU at hm;split at hm
 ·cases hm
 rename_i i hi;split at hm
 ·rename_i m d' hfind hu;split at hm
  ·rename_i f' hf;split at hm
   ·rename_i hc;cases hm;simp only [bE] at hc;have hp:m.path.toList=[]:=by simpa using hc.1.1
    have hr:∀wr,(receiverAt t (.val u) false wr).run P w= .ok u w:=fun wr=>by
     unfold receiverAt;have:(underlying t).run P w= .ok d' w:=by simp [underlying,hu,go_sem]
     cases d'<;>first
      | (simp [FB] at hc;done)
      | simp [this,Place.get,go_sem]
    have hmt:(method (P.types.size+Made.depth) t u nm).run P w= .ok (f,u) w:=by
     rw [show P.types.size+Made.depth=(P.types.size+Made.depth - 1)+1 by simp [Made.depth]];unfold method;simp [typeInfo,hi,hfind,hp,follow,hf,hr,go_sem]
    have hx:(#[Value.iface t u]++c.args.map a.eval).extract 1 (1+c.args.size)=c.args.map a.eval:=by
     apply Array.ext';simp;exact Qo (by simp)
    have h0:(#[Value.iface t u]++c.args.map a.eval)[0]? =some (.iface t u):=by rw [Array.getElem?_append_left (by simp)];rfl
    have e1:execOp a.eval o=(do let d <- resolve a.eval c o.type;invoke d.target d.args):=by unfold execOp;rw [ho]
    rw [e1];simp only [resolve,hg,hv];generalize hA: #[Value.iface t u]++c.args.map a.eval=A at h0;have hsz:A.size=1+c.args.size:=by rw [<- hA];simp
    rw [hA] at hx;rw [<- hsz] at hx;simp [invoke,h0,hx,callMethod,hmt,callFunc,h1,h2',h3',go_sem]
   ·cases hm
  ·cases hm
 ·cases hm
theorem OR {o:Oper} {ao:AOp} (h:cOp P A fn o=some ao) (hk:ao.isCall=true):(∃c g,o.op= .call c/\c.callee= .value g)\/(∃x,o.op= .panic x)\/∃c rv nm,o.op= .call c/\c.callee= .invoke rv nm:=by
 cases hop:o.op
 case panic x=>exact .inr (.inl ⟨x,rfl⟩)
 case call c=>
  cases hc:c.callee with
  | value g=>exact .inl ⟨c,g,rfl,hc⟩
  | invoke rv nm=>exact .inr (.inr ⟨c,rv,nm,rfl,hc⟩)
  | builtin b=>
   exfalso;unfold cOp A9 at h;rw [hop] at h;simp only [hc] at h;cases b<;>simp only at h<;>(repeat' split at h)<;>first
    | (cases h;done)
    | (cases h;cases hk;done)
    | (obtain ⟨_,_,rfl⟩:=map_some h;cases hk)
 all_goals
  exfalso;unfold cOp at h;rw [hop] at h;simp only at h
  (repeat' split at h)<;>first
    | (cases h;done)
    | (cases h;cases hk;done)
    | (obtain ⟨_,_,rfl⟩:=map_some h;cases hk)
theorem Gz {call:aJ} (hc:CallOk P call) {o:Oper} {ao:AOp} {r:Rt} {H':AH} {K:Act->World->Prop} {Q:Exit->Act->World->Prop} (hr:HR F B0 w I H) (he:EnvR F w I H e a.tmps)
  (hfr:Free H nx) (h:cOp P A fn o=some ao) (hev:aB call e nx H ao=some (r,H')) (hn:Nxt F B0 w I H a o r H' K Q):o.wp P a w K Q:=by
 cases hk:ao.isCall with
 | false=>
  rw [BA hk] at hev;split at hev
  ·rename_i x H1 hop;cases hev;obtain ⟨v,w',hd,hg⟩:=QI hfr hr he h hop;have:=hn.val x v w' rfl hg;unfold Oper.wp;rcases hd with hd | ⟨hd,rfl⟩
   ·rw [hd];exact this
   ·rw [hd];exact this
  ·cases hev
 | true=>
  rcases OR h hk with ⟨c,g,ho,hg⟩ | ⟨x,ho⟩ | ⟨c,rv,nm,ho,hg⟩
  rotate_left 2
  ·unfold cOp A9 at h;rw [ho] at h;simp only [hg] at h;cases rv with
   | const v=>cases h
   | global v=>cases h
   | func f=>cases h
   | tmp t=>
    simp only at h;split at h
    ·rename_i axs hxs;cases h;have target:∀{ty:TypeId} {x:AV},look t e=some (.iface ty x)->∃u,a.eval (.tmp t)= .iface ty u/\ArgsR F w I H [x] #[u]:=by
      intro ty x hfv;obtain ⟨u,h1,h2⟩:=he t _ hfv;obtain ⟨u',rfl,h3⟩:=BM h2;refine ⟨u',?_,rfl,?_⟩
      ·simp [Act.eval,uC,h1]
      ·intro i y v hy hv;cases i with
       | zero=>simp at hy hv;subst hy hv;exact h3
       | succ i=>simp at hy
     split at hev
     ·simp only [aB] at hev;split at hev
      ·rename_i ty x ys hfv hys;split at hev
       ·rename_i f hm;obtain ⟨u,hv,hfirst⟩:=target hfv;exact tQ (Jr (w:=w) (FN hc hev) ho hg hv (IV hm)) (FO hc hev hr (hfirst.append (tV he hxs hys))) hn
       ·cases hev
      ·cases hev
     ·simp only [aB] at hev;split at hev
      ·rename_i ty x ys hfv hys;split at hev
       ·rename_i f hm;obtain ⟨u,hv,hfirst⟩:=target hfv;exact tQ (Jr (w:=w) (hc.body _ _ _ _ _ hev) ho hg hv (IV hm)) (hc.runs _ _ _ _ _ hev _ _ _ _ _ hr (hfirst.append (tV he hxs hys))) hn
       ·cases hev
      ·cases hev
    ·cases h
  ·unfold cOp A9 at h;rw [ho] at h;simp only [hg] at h;cases g with
   | const v=>cases h
   | global v=>cases h
   | func f=>
    simp only at h;split at h
    ·rename_i axs hxs;split at h
     ·cases h;have hv:a.eval (.func f)= .func (.func f) #[] #[]:=rfl;split at hev
      ·split at hev
       ·split at hev
        ·simp only [aB] at hev;split at hev
         ·rename_i ys hys;have:=zT (w:=w) (Wy hc hev) ho hg hv;rw [CD] at this;exact tQ this (Wz hc hev hr (by simpa using tV he hxs hys)) hn
         ·cases hev
        split at hev
        ·simp only [aB] at hev;split at hev
         ·rename_i ys hys;split at hev
          ·rename_i ys' hys';split at hev
           ·cases hev
           have:=zT (w:=w) (FN hc hev) ho hg hv;rw [CD] at this;exact tQ this ((FO hc hev (WR hr _) (NS hr (by simpa using tV he hxs hys) hys')).mono fun en w' h=>UY hr h) hn
          ·cases hev
         ·cases hev
        simp only [aB] at hev;split at hev
        ·rename_i ys hys;split at hev
         ·rename_i id _;split at hev
          ·rename_i ys' hys';split at hev
           ·cases hev
           have:=zT (w:=w) (FN hc hev) ho hg hv;rw [CD] at this;exact tQ this ((FO hc hev (sW hr id) (PJ hr (by simpa using tV he hxs hys) hys')).mono fun en w' h=>QU hr h) hn
          ·cases hev
         ·cases hev
        ·cases hev
       ·split at hev
        ·simp only [aB] at hev;split at hev
         ·rename_i ys hys;have:=zT (w:=w) (Yf hc hev) ho hg hv;rw [CD] at this;exact tQ this (Yg hc hfr hev hr (by simpa using tV he hxs hys)) hn
         ·cases hev
        simp only [aB] at hev;split at hev
        ·rename_i ys hys;have:=zT (w:=w) (FN hc hev) ho hg hv;rw [CD] at this;exact tQ this (FO hc hev hr (by simpa using tV he hxs hys)) hn
        ·cases hev
      ·simp only [aB] at hev;split at hev
       ·rename_i ys hys;have:=zT (w:=w) (hc.body _ _ _ _ _ hev) ho hg hv;rw [CD] at this;exact tQ this (hc.runs _ _ _ _ _ hev _ _ _ _ _ hr (by simpa using tV he hxs hys)) hn
       ·cases hev
     ·cases h
    ·cases h
   | tmp t=>
    simp only at h;split at h
    ·rename_i axs hxs;cases h;have target:∀{fv:AV} {f:FuncId} {first caps:List AV},look t e=some fv->tgt2 fv=some (f,first,caps)->∃va vc,a.eval (.tmp t)= .func (.func f) va vc/\ArgsR F w I H first va/\ArgsR F w I H caps vc:=by
      intro fv f first caps hfv htg
      have:=OA htg;subst this;obtain ⟨u,h1,h2⟩:=he t _ hfv;obtain ⟨va,vb,rfl,p1,p2,p3,p4⟩:=DC h2;refine ⟨va,vb,?_,⟨p1,p3⟩,p2,p4⟩;simp [Act.eval,uC,h1]
     split at hev
     ·simp only [aB] at hev;split at hev
      ·rename_i fv ys hfv hys;split at hev
       ·rename_i f first caps htg
        obtain ⟨va,vc,hv,hfirst,hcaps⟩:=target hfv htg;exact tQ (zT (w:=w) (FN hc hev) ho hg hv) (FO hc hev hr ((hfirst.append (tV he hxs hys)).append hcaps)) hn
       ·cases hev
      ·cases hev
     ·simp only [aB] at hev;split at hev
      ·rename_i fv ys hfv hys;split at hev
       ·rename_i f first caps htg
        obtain ⟨va,vc,hv,hfirst,hcaps⟩:=target hfv htg;exact tQ (zT (w:=w) (hc.body _ _ _ _ _ hev) ho hg hv) (hc.runs _ _ _ _ _ hev _ _ _ _ _ hr ((hfirst.append (tV he hxs hys)).append hcaps)) hn
       ·cases hev
      ·cases hev
    ·cases h
  ·unfold cOp at h;rw [ho] at h;simp only at h;obtain ⟨ax,hx,rfl⟩:=map_some h;simp only [aB] at hev;split at hev
   ·rename_i t x' hxv;cases hev;have hv:=aM hx he hxv;obtain ⟨u,hu,hvu⟩:=BM hv;have:=hn.pan _ _ w rfl (.same hr hv);unfold Oper.wp;have hrun:(execOp a.eval o).run P w= .halt (.panic (a.eval x)) w:=by
     unfold execOp;simp [ho,Instr.panic,hu]
    rw [hrun];exact this
   ·cases hev
end
end Go.Av
namespace Go.Av
variable {nx:Nat}
def EqE (e e':Env):Prop:=∀t,look t e=look t e'
section
variable {e e':Env} {H:AH} {call:aJ}
theorem cO {x:AX} (h:∀t,t∈x.rds->look t e=look t e'):evX e x=evX e' x:=by
 cases x with
 | t n=>exact h n (by simp [AX.rds])
 | c v=>rfl
theorem nE {α Z:Type} {f g:α->Option Z}:∀{l:List α},(∀a,a∈l->f a=g a)->mapO f l=mapO g l
 | [],_=>rfl
 | a::l,h=>by
  simp only [mapO,h a (by simp),nE (l:=l) (fun b hb=>h b (by simp [hb]))]
theorem IU {x:AX} {t:Nat}:∀{l:List AX},x∈l->t∈x.rds->t∈lRds l
 | [],h,_=>by cases h
 | y::l,h,ht=>by
  simp only [lRds,eI];rcases iW.1 h with rfl | h
  ·exact .inl ht
  ·exact .inr (IU h ht)
theorem qO {xs:List AX} (h:∀t,t∈lRds xs->look t e=look t e'):mapO (evX e) xs=mapO (evX e') xs:=
 nE fun x hx=>cO fun t ht=>h t (IU hx ht)
theorem ZF {n:Nat} {lo hi mx:Option AX} (h1:∀t,t∈oRds lo->look t e=look t e') (h2:∀t,t∈oRds hi->look t e=look t e') (h3:∀t,t∈oRds mx->look t e=look t e'):
  oF e n lo hi mx=oF e' n lo hi mx:=by
 have hM:bndM e n mx=bndM e' n mx:=by
  cases mx with
  | none=>rfl
  | some x=>simp only [bndM,cO (x:=x) h3]
 have hH:∀k,bndH e k hi=bndH e' k hi:=by
  intro k;cases hi with
  | none=>rfl
  | some x=>simp only [bndH,cO (x:=x) h2]
 have hL:∀k,bndL e k lo=bndL e' k lo:=by
  intro k;cases lo with
  | none=>rfl
  | some x=>simp only [bndL,cO (x:=x) h1]
 unfold oF;simp only [hM,hH,hL]
theorem Fu {op:AOp} (h:∀t,t∈op.rds->look t e=look t e'):aB call e nx H op=aB call e' nx H op:=by
 cases op
 case nilapp=>rfl
 case alloc=>rfl
 case mkmap=>rfl
 case pick c a b=>
  simp only [AOp.rds,eI] at h;simp only [aB,evOp,cO (x:=c) (fun t ht=>h t (by simp [ht])),cO (x:=a) (fun t ht=>h t (by simp [ht])),cO (x:=b) (fun t ht=>h t (by simp [ht]))]
 case update kd c a b=>
  simp only [AOp.rds,eI] at h;simp only [aB,evOp,cO (x:=c) (fun t ht=>h t (by simp [ht])),cO (x:=a) (fun t ht=>h t (by simp [ht])),cO (x:=b) (fun t ht=>h t (by simp [ht]))]
 case build z parts=>
  simp only [AOp.rds] at h;have hp:mapO (fun p:Nat×Nat×AX=>(evX e p.2.2).map fun v=>(p.1,p.2.1,v)) parts=mapO (fun p=>(evX e' p.2.2).map fun v=>(p.1,p.2.1,v)) parts:=
   nE fun p hp=>by rw [cO (x:=p.2.2) (fun t ht=>h t (IU (iN.2 ⟨p,hp,rfl⟩) ht))]
  simp only [aB,evOp,hp]
 case bslice m esz z parts=>
  simp only [AOp.rds] at h;have hp:∀p:Nat×AX,p∈parts->evX e p.2=evX e' p.2:=fun p hp=>cO (fun t ht=>h t (IU (iN.2 ⟨p,hp,rfl⟩) ht))
  simp only [aB,evOp];rw [nE (l:=parts) (fun p hpp=>by rw [hp p hpp])]
 case mkfunc fn a b=>
  simp only [AOp.rds,eI] at h;simp only [aB,evOp,qO (xs:=a) (fun t ht=>h t (by simp [ht])),qO (xs:=b) (fun t ht=>h t (by simp [ht]))]
 case slc esz x lo hi mx=>
  simp only [AOp.rds,eI] at h;have hb:∀n,oF e n lo hi mx=oF e' n lo hi mx:=fun n=>ZF (fun t ht=>h t (by simp [ht])) (fun t ht=>h t (by simp [ht])) (fun t ht=>h t (by simp [ht]))
  simp only [aB,evOp,cO (x:=x) (fun t ht=>h t (by simp [ht])),hb]
 case slcH esz x lo hi mx=>
  simp only [AOp.rds,eI] at h;have hb:∀n,oF e n lo hi mx=oF e' n lo hi mx:=fun n=>ZF (fun t ht=>h t (by simp [ht])) (fun t ht=>h t (by simp [ht])) (fun t ht=>h t (by simp [ht]))
  simp only [aB,evOp,cO (x:=x) (fun t ht=>h t (by simp [ht])),hb]
 case sslc x lo hi=>
  simp only [AOp.rds,eI] at h;have hb:∀n,oF e n lo hi none=oF e' n lo hi none:=fun n=>ZF (fun t ht=>h t (by simp [ht])) (fun t ht=>h t (by simp [ht])) (fun t ht=>by simp [oRds] at ht)
  simp only [aB,evOp,cO (x:=x) (fun t ht=>h t (by simp [ht])),hb]
 case minmax m xs=>simp only [aB,evOp,qO (xs:=xs) h]
 case pcall f xs=>simp only [aB,qO (xs:=xs) h]
 case pcallk f xs=>simp only [aB,qO (xs:=xs) h]
 case pcallr f xs=>simp only [aB,qO (xs:=xs) h]
 case pcallf f xs=>simp only [aB,qO (xs:=xs) h]
 case pcallz d f xs=>simp only [aB,qO (xs:=xs) h]
 case tcall f xs=>simp only [aB,qO (xs:=xs) h]
 case pcallv f xs=>
  simp only [AOp.rds,eI] at h;simp only [aB,cO (x:=f) (fun t ht=>h t (by simp [ht])),qO (xs:=xs) (fun t ht=>h t (by simp [ht]))]
 case tcallv f xs=>
  simp only [AOp.rds,eI] at h;simp only [aB,cO (x:=f) (fun t ht=>h t (by simp [ht])),qO (xs:=xs) (fun t ht=>h t (by simp [ht]))]
 case pinvoke ms f xs=>
  simp only [AOp.rds,eI] at h;simp only [aB,cO (x:=f) (fun t ht=>h t (by simp [ht])),qO (xs:=xs) (fun t ht=>h t (by simp [ht]))]
 case tinvoke ms f xs=>
  simp only [AOp.rds,eI] at h;simp only [aB,cO (x:=f) (fun t ht=>h t (by simp [ht])),qO (xs:=xs) (fun t ht=>h t (by simp [ht]))]
 case panic x=>simp only [aB,cO (x:=x) h]
 case mov x=>simp only [aB,evOp,cO (x:=x) h]
 case box x=>simp only [aB,evOp,cO (x:=x) h]
 case boxi x=>simp only [aB,evOp,cO (x:=x) h]
 case load g n x=>simp only [aB,evOp,cO (x:=x) h]
 case nilchk x=>simp only [aB,evOp,cO (x:=x) h]
 case un o x=>simp only [aB,evOp,cO (x:=x) h]
 case conv k x=>simp only [aB,evOp,cO (x:=x) h]
 case same x=>simp only [aB,evOp,cO (x:=x) h]
 case b2s x=>simp only [aB,evOp,cO (x:=x) h]
 case mkiface t x=>simp only [aB,evOp,cO (x:=x) h]
 case faddr o x=>simp only [aB,evOp,cO (x:=x) h]
 case fld g o n x=>simp only [aB,evOp,cO (x:=x) h]
 case ext i x=>simp only [aB,evOp,cO (x:=x) h]
 case len x=>simp only [aB,evOp,cO (x:=x) h]
 case slen x=>simp only [aB,evOp,cO (x:=x) h]
 case cap x=>simp only [aB,evOp,cO (x:=x) h]
 case clear z x=>simp only [aB,evOp,cO (x:=x) h]
 case mlen x=>simp only [aB,evOp,cO (x:=x) h]
 case tassert t ok z x=>simp only [aB,evOp,cO (x:=x) h]
 all_goals
  rename_i x y;simp only [AOp.rds,eI] at h;simp only [aB,evOp,cO (x:=x) (fun t ht=>h t (by simp [ht])),cO (x:=y) (fun t ht=>h t (by simp [ht]))]
theorem zI:∀(n:Nat) (x:AV) (H1 H2:AH),bor n x=false->snap n H1 x=snap n H2 x:=by
 intro n
 induction n with
 | zero=>intro x H1 H2 h;cases h
 | succ n ih=>
  intro x H1 H2 h;have lst:∀{cs:List AV},anyL (bor n) cs=false->mapO (snap n H1) cs=mapO (snap n H2) cs:=fun hc=>nE fun a ha=>ih a H1 H2 (n8 hc a ha)
  cases x with
  | agg cs=>simp only [bor] at h;simp only [snap,lst h]
  | tup cs=>simp only [bor] at h;simp only [snap,lst h]
  | iface t v=>simp only [bor] at h;simp only [snap,ih v H1 H2 h]
  | func fn a b=>
   simp only [bor,AG] at h;simp only [snap,lst h.1,lst h.2]
  | ptr=>cases h
  | row=>cases h
  | map=>cases h
  | _=>rfl
theorem Dk {α:Type} {f:α->Bool}:∀{l:List α},(∀a,a∈l->f a=false)->anyL f l=false
 | [],_=>rfl
 | a::l,h=>by simp only [anyL,h a (by simp),Dk (l:=l) (fun b hb=>h b (by simp [hb])),Bool.or_false]
theorem Fy {es:List (List AV)} (h:anyL (bor aE) es.flatten=false) (H1 H2:AH):mapO (oM H1) es=mapO (oM H2) es:=
 nE fun c hc=>nE fun x hx=>zI _ x H1 H2 (n8 h x (tJ.2 ⟨c,hc,hx⟩))
theorem EX {op:AOp} (h:op.cls= .i):evOp e nx H op=(evOp e 0 H0 op).map (fun r=>(r.1,H)):=by
  cases op
  case boxi x=>
    simp only [evOp];split
    · rename_i v hv
      split
      · rename_i vs hvs
        cases hb:anyL (bor aE) vs with
        | true=>
          simp only [if_true]
          (repeat' split)<;>rfl
        | false=>
          have hf:oM H vs=oM H0 vs:=nE fun x hx=>zI _ x H H0 (n8 hb x hx)
          rw [hf];simp only [iV,if_false]
          (repeat' split)<;>rfl
      · rfl
    · rfl
  case bslice m esz z parts=>
    cases m
    case imm=>
      simp only [evOp];split
      · rfl
      · rename_i ps hps
        cases hb:anyL (bor aE) (List.foldl (fun es p=>es.set p.1 p.2) z ps).flatten with
        | true=>
          simp only [if_true]
          (repeat' split)<;>rfl
        | false=>
          rw [Fy hb H H0];simp only [iV,if_false]
          (repeat' split)<;>rfl
    all_goals cases h
  all_goals first
    | (cases h;done)
    | (simp only [evOp]
       (repeat' split)<;>first
         | rfl
         | (simp only [Option.map_map,Function.comp_def];done)
         | (simp_all;done))
def rOp (call:aJ) (base:Option Nat) (o:Xv) (e:Env) (h:AH):Option (AV×AH):=
 match iJ e o.guard with
 | none=>none
 | some false=>some (.tup [],h)
 | some true=>match aB call e (bG base o.dst h) h o.op with
  | some (.val v,h')=>some (v,h')
  | _=>none
theorem evOps_cons {base:Option Nat} {o:Xv} {r:List Xv} {s s':St}:aN call base (o::r) s=some (.normal,s')↔
  ∃v h',rOp call base o s.e s.h=some (v,h')/\aN call base r ⟨putE s.e o.dst v,h'⟩=some (.normal,s'):=by
 unfold rOp;rw [aN];cases hg:iJ s.e o.guard with
 | none=>simp
 | some b=>
  cases b with
  | false=>
   simp only [Option.some.injEq,Prod.mk.injEq];exact ⟨fun h=>⟨_,_,⟨rfl,rfl⟩,h⟩,by rintro ⟨_,_,⟨rfl,rfl⟩,h⟩;exact h⟩
  | true=>
   simp only;cases hc:aB call s.e (bG base o.dst s.h) s.h o.op with
   | none=>simp
   | some p=>
    obtain ⟨r',h'⟩:=p;cases r' with
    | val v=>
     simp only [Option.some.injEq,Prod.mk.injEq];exact ⟨fun h=>⟨_,_,⟨rfl,rfl⟩,h⟩,by rintro ⟨_,_,⟨rfl,rfl⟩,h⟩;exact h⟩
    | pan v=>simp
theorem Za {o:Xv} (h:∀t,t∈o.rds->look t e=look t e'):iJ e o.guard=iJ e' o.guard:=by
 unfold Xv.rds at h;cases hg:o.guard with
 | none=>rfl
 | some p=>
  obtain ⟨t,b⟩:=p;rw [hg] at h;simp only [iJ,h t (by simp)]
theorem XJ {o:Xv} {t:Nat} (h:t∈o.op.rds):t∈o.rds:=by
 unfold Xv.rds;cases o.guard with
 | none=>exact h
 | some p=>exact QB _ h
theorem Jc {base:Option Nat} {o:Xv} {h:AH} (hh:∀t,t∈o.rds->look t e=look t e'):rOp call base o e h=rOp call base o e' h:=by
 unfold rOp;rw [Za hh,Fu (fun t ht=>hh t (XJ ht))]
def ApOk (f:Foot) (ap:AH->AH):Prop:=
 match f.2 with
 | .no=>ap=id
 | .set i=>(∃ob,ap=fun h=>h.set i ob)/\∃l,f.1=some l/\i∈l
 | .chg _ h'=>ap=fun _=>h'
 | .cut m=>ap=fun h=>h.cut m
 | .mv i n=>(∃ob,ap=fun h=>(h.kill i).set n ob)/\∃l,f.1=some l/\i∈l/\n∈l
 | .any=>True
def sX (w:Wr) (h:AH):Prop:=
 match w with
 | .chg h0 _=>h=h0
 | _=>True
def Agree (f:Foot) (h h2:AH):Prop:=
 (match f.1 with | none=>h2=h | some l=>∀id,id∈l->h2.get id=h.get id)/\(match f.2 with | .chg h0 _=>h2=h0 | .cut m=>∀id,id<m->h2.get id=h.get id | .any=>h2=h | _=>True)
structure Stb (call:aJ) (base:Option Nat) (o:Xv) (e:Env) (h:AH) (f:Foot) (v:AV) (ap:AH->AH):Prop where
 ok:ApOk f ap
 next:sX f.2 h
 run:∀e2 h2,(∀t,t∈o.rds->look t e2=look t e)->Agree f h h2->rOp call base o e2 h2=some (v,ap h2)
theorem Agree.refl {f:Foot} {h:AH} (hn:sX f.2 h):Agree f h h:=by
 obtain ⟨r,w⟩:=f;refine ⟨?_,?_⟩
 ·cases r with
  | none=>rfl
  | some l=>exact fun _ _=>rfl
 ·cases w with
  | chg a b=>exact hn
  | cut m=>exact fun _ _=>rfl
  | any=>rfl
  | _=>trivial
theorem Agree.trans {f:Foot} {h h1 h2:AH} (a:Agree f h h1) (b:Agree f h1 h2):Agree f h h2:=by
 obtain ⟨r,w⟩:=f;refine ⟨?_,?_⟩
 ·have a1:=a.1;have b1:=b.1;cases r with
  | none=>exact b1.trans a1
  | some l=>exact fun i hi=>(b1 i hi).trans (a1 i hi)
 ·have a2:=a.2;have b2:=b.2;cases w with
  | chg a b=>exact b2
  | cut m=>exact fun i hi=>(b2 i hi).trans (a2 i hi)
  | any=>exact b2.trans a2
  | _=>trivial
theorem Agree.symm {f:Foot} {h h1:AH} (hn:sX f.2 h) (a:Agree f h h1):Agree f h1 h:=by
 obtain ⟨r,w⟩:=f;refine ⟨?_,?_⟩
 ·have a1:=a.1;cases r with
  | none=>exact a1.symm
  | some l=>exact fun i hi=>(a1 i hi).symm
 ·have a2:=a.2;cases w with
  | chg a b=>exact hn
  | cut m=>exact fun i hi=>(a2 i hi).symm
  | any=>exact a2.symm
  | _=>trivial
theorem Stb.move {base:Option Nat} {o:Xv} {h h':AH} {f:Foot} {v:AV} {ap:AH->AH} (s:Stb call base o e h f v ap) (hh:∀t,t∈o.rds->look t e'=look t e) (ha:Agree f h h'):Stb call base o e' h' f v ap:=by
 refine ⟨s.ok,?_,?_⟩
 ·have:=ha.2;obtain ⟨r,w⟩:=f;cases w with
  | chg a b=>exact this
  | _=>trivial
 ·intro e2 h2 k1 k2;exact s.run e2 h2 (fun t ht=>(k1 t ht).trans (hh t ht)) (ha.trans k2)
theorem Ba {h:AH} {i j:Nat} {ob:AO} (hne:j≠i):(h.set i ob).get j=h.get j:=by
 unfold AH.set AH.get;generalize h.objs=l
 induction l with
 | nil=>rfl
 | cons p l ih=>
  obtain ⟨u,x⟩:=p;simp only [setl];by_cases hu:u=i
  ·subst hu;rw [a8 rfl];simp only [look,QA (Ne.symm hne)]
  ·rw [QA hu];simp only [look,ih]
theorem Ab {h:AH} {i j:Nat} (hne:j≠i):(h.kill i).get j=h.get j:=by
 unfold AH.kill AH.get;generalize h.objs=l
 induction l with
 | nil=>rfl
 | cons p l ih=>
  obtain ⟨u,x⟩:=p;simp only [dropl];by_cases hu:u=i
  ·subst hu;simp [look,Ne.symm hne]
  ·rw [QA hu];simp only [look,ih]
theorem L1 {h:AH} {m i:Nat} (hi:m<=i):(h.cut m).get i=h.get i:=by rw [BN,QA (by omega)]
theorem TB {h:AH} {m i:Nat} {a:AO} (hi:m<=i):(h.set i a).cut m=(h.cut m).set i a:=by
 unfold AH.set AH.cut;simp only [AH.mk.injEq,and_true];generalize h.objs=l
 induction l with
 | nil=>rfl
 | cons p l ih=>
  obtain ⟨u,x⟩:=p;by_cases hu:u=i
  ·subst hu;have hn:¬u<m:=by omega
   simp [setl,hn]
  ·by_cases hm:u<m
   ·simp [setl,hu,hm,ih]
   ·simp [setl,hu,hm,ih]
theorem Kq {h:AH} {i j:Nat} {a:AO} (hne:i≠j):(h.set j a).kill i=(h.kill i).set j a:=by
 unfold AH.set AH.kill;simp only [AH.mk.injEq,and_true];generalize h.objs=l
 induction l with
 | nil=>rfl
 | cons p l ih=>
  obtain ⟨u,x⟩:=p;simp only [setl,dropl];by_cases hu:u=j
  ·subst hu;simp [dropl,Ne.symm hne,setl]
  ·rw [QA hu];by_cases hi:u=i
   ·subst hi;simp [dropl,hu]
   ·simp [dropl,hi,setl,hu,ih]
theorem Dt {h:AH} {i j:Nat} {a b:AO} (hne:i≠j):(h.set i a).set j b=(h.set j b).set i a:=by
 unfold AH.set;simp only [AH.mk.injEq,and_true];generalize h.objs=l
 induction l with
 | nil=>rfl
 | cons p l ih=>
  obtain ⟨u,x⟩:=p;simp only [setl];by_cases hu:u=i
  ·subst hu;simp [setl,hne]
  ·by_cases hu':u=j
   ·subst hu';simp [setl,hu]
   ·simp [setl,hu,hu',ih]
theorem memNat_iff {t:Nat} {l:List Nat}:iU t l=true↔t∈l:=by
 induction l with
 | nil=>simp [iU]
 | cons u r ih=>
  rw [iW,<- ih];simp only [iU,uG,beq_iff_eq];constructor<;>(rintro (h | h);exact .inl h.symm;exact .inr h)
theorem BT {α:Type} {f:α->α->Bool} (h:∀a b,f a b=true->a=b):∀{a b:List α},eqL f a b=true->a=b
 | [],[],_=>rfl
 | x::a,y::b,k=>by
  simp only [eqL,bE] at k;rw [h _ _ k.1,BT h k.2]
 | [],_::_,k=>by cases k
 | _::_,[],k=>by cases k
theorem LZ (n:Nat) (ih:∀a b,avEq n a b=true->a=b) (f g:Fn) (a b c d:List AV) (h:avEq (n+1) (.func f a b) (.func g c d)=true):(AV.func f a b)= .func g c d:=by
 have l1:∀{x y:List AV},eqL (avEq n) x y=true->x=y:=BT ih;cases f with
 | func f=>cases g with
  | func g=>
   have h2:(f == g&&eqL (avEq n) a c&&eqL (avEq n) b d)=true:=h;simp only [bE,beq_iff_eq] at h2;rw [h2.1.1,l1 h2.1.2,l1 h2.2]
  | _=>cases h
 | _=>cases h
theorem Dm:∀(n:Nat) (a b:AV),avEq n a b=true->a=b:=by
  intro n
  induction n with
  | zero=>intro a b h;cases h
  | succ n ih=>
    intro a b h;have l1:∀{x y:List AV},eqL (avEq n) x y=true->x=y:=BT ih;have l2:∀{x y:List (List AV)},eqL (eqL (avEq n)) x y=true->x=y:=BT fun _ _=>l1
    cases a<;>cases b<;>first
      | rfl
      | (cases h;done)
      | exact LZ n ih _ _ _ _ _ _ h
      | (simp only [avEq,bE,beq_iff_eq,decide_eq_true_eq] at h
         first
          | (rw [h];done)
          | (rw [h.1,h.2];done)
          | (rw [l1 h];done)
          | (rw [h.1,ih _ _ h.2];done)
          | (rw [h.1,l2 h.2];done)
          | (rw [h.1.1,h.1.2,l2 h.2];done)
          | (rw [h.1.1.1,h.1.1.2,h.1.2,l2 h.2];done)
          | (rw [h.1.1.1,h.1.1.2,h.1.2,h.2];done)
          | (cases h;done))
theorem SC {a b:Option AO} (h:aoEq a b=true):a=b:=by
 have l1:∀{x y:List (List AV)},eqL (eqL (avEq aE)) x y=true->x=y:=BT fun _ _=>BT (Dm _)
 unfold aoEq at h;split at h
 ·simp only [bE,beq_iff_eq] at h;rw [h.1,l1 h.2]
 ·simp only [bE,beq_iff_eq] at h;rw [h.1,h.2]
 ·rw [BT (fun p q k=>?_) h];simp only [bE] at k;exact Prod.ext (Dm _ _ _ k.1) (Dm _ _ _ k.2)
 ·rfl
 ·rfl
 ·cases h
theorem Bs {w:Wr} {ap:AH->AH} {r:Option (List Nat)} {f:Foot} {h:AH} (hap:ApOk (r,w) ap) (hn:sX w h) (hoff:w.off f.1=true)
  (hany:f.2= .any->ap=id) (hcut:∀m,f.2= .cut m->w.above m=true) (hchg:∀a b,f.2= .chg a b->ap=id) (hnf:sX f.2 h):Agree f h (ap h):=by
 obtain ⟨q,u⟩:=f;cases w with
 | no=>
  have:ap=id:=hap;subst this;exact Agree.refl hnf
 | set i=>
  obtain ⟨⟨ob,rfl⟩,_⟩:=hap;cases q with
  | none=>cases hoff
  | some l=>
   simp only [Wr.off,rJ] at hoff;have hni:i∉l:=by intro hm;rw [memNat_iff.2 hm] at hoff;cases hoff
   refine ⟨fun id hid=>Ba (by intro hh;subst hh;exact hni hid),?_⟩;cases u with
   | chg a b=>exact (congrFun (hchg a b rfl) h).trans hnf
   | cut m=>
    have:=hcut m rfl;simp only [Wr.above,decide_eq_true_eq] at this;exact fun id hid=>Ba (by omega)
   | any=>exact congrFun (hany rfl) h
   | _=>trivial
 | mv i n=>
  obtain ⟨⟨ob,rfl⟩,_⟩:=hap;cases q with
  | none=>cases hoff
  | some l=>
   simp only [Wr.off,bE,rJ] at hoff;have hni:i∉l:=by intro hm;rw [memNat_iff.2 hm] at hoff;cases hoff.1
   have hnn:n∉l:=by intro hm;rw [memNat_iff.2 hm] at hoff;cases hoff.2
   refine ⟨fun id hid=>(Ba (by intro hh;subst hh;exact hnn hid)).trans (Ab (by intro hh;subst hh;exact hni hid)),?_⟩;cases u with
   | chg a b=>exact (congrFun (hchg a b rfl) h).trans hnf
   | cut m=>cases hcut m rfl
   | any=>exact congrFun (hany rfl) h
   | _=>trivial
 | chg a b=>
  have hap':ap=fun _=>b:=hap
  subst hap';have hn':h=a:=hn;subst hn';cases q with
  | none=>cases hoff
  | some l=>
   simp only [Wr.off,Qr] at hoff;refine ⟨fun id hid=>(SC (hoff id hid)).symm,?_⟩;cases u with
   | chg a b=>exact (congrFun (hchg a b rfl) h).trans hnf
   | cut m=>cases hcut m rfl
   | any=>exact congrFun (hany rfl) h
   | _=>trivial
 | cut m=>
  have hap':ap=fun h=>h.cut m:=hap
  subst hap';cases q with
  | none=>cases hoff
  | some l=>
   simp only [Wr.off,Qr,decide_eq_true_eq] at hoff;refine ⟨fun id hid=>L1 (hoff id hid),?_⟩;cases u with
   | chg a b=>exact (congrFun (hchg a b rfl) h).trans hnf
   | cut m=>cases hcut m rfl
   | any=>exact congrFun (hany rfl) h
   | _=>trivial
 | any=>cases q<;>cases hoff
end
end Go.Av
namespace Go.Av
section
variable {e e':Env} {H:AH} {call:aJ} {base:Option Nat}
theorem isNo_iff {w:Wr}:w.isNo=true↔w= .no:=by cases w<;>simp [Wr.isNo]
def GK (x y:Foot):Prop:=∃m,x.2= .cut m/\y.2.above m=true/\y.2.off x.1=true/\x.2.off y.1=true
theorem HJ {x y:Foot} (h:x.compat y=true):x=(some [],.no)\/y=(some [],.no)\/GK x y\/GK y x\/((∀n m p q,x.2= .mv n m->y.2= .mv p q->False)/\(∀a b,x.2= .chg a b->y.2= .no)/\(∀a b,y.2= .chg a b->x.2= .no)/\x.2.off y.1=true/\y.2.off x.1=true/\(∀m,x.2≠ .cut m)/\(∀m,y.2≠ .cut m)):=by
 unfold Foot.compat at h;split at h
 ·exact .inl rfl
 ·exact .inr (.inl rfl)
 ·cases h
 ·simp only [bE] at h;obtain rfl:=isNo_iff.1 h.1;exact .inr (.inr (.inr (.inr ⟨(fun _ _ _ _ k=>by cases k),(fun _ _ _=>rfl),(fun _ _ k=>by cases k),h.2,rfl,(fun _ k=>by cases k),(fun _ k=>by cases k)⟩)))
 ·simp only [bE] at h;obtain rfl:=isNo_iff.1 h.1;exact .inr (.inr (.inr (.inr ⟨(fun _ _ _ _ k=>by cases k),(fun _ _ k=>by cases k),(fun _ _ _=>rfl),rfl,h.2,(fun _ k=>by cases k),(fun _ k=>by cases k)⟩)))
 ·simp only [bE] at h;exact .inr (.inr (.inl ⟨_,rfl,h.1.1,h.1.2,h.2⟩))
 ·simp only [bE] at h;exact .inr (.inr (.inr (.inl ⟨_,rfl,h.1.1,h.1.2,h.2⟩)))
 ·rename_i r v q u _ _ hnn hc1 hc2 hz1 hz2;simp only [bE] at h;refine .inr (.inr (.inr (.inr ⟨?_,?_,?_,h.1,h.2,?_,?_⟩)))
  ·intro n m p q h1 h2;cases h1;cases h2;exact hnn _ _ _ _ rfl rfl
  ·intro a b h1;cases h1;exact absurd rfl (hc1 _ _)
  ·intro a b h1;cases h1;exact absurd rfl (hc2 _ _)
  ·intro m h1;cases h1;exact absurd rfl (hz1 _)
  ·intro m h1;cases h1;exact absurd rfl (hz2 _)
theorem t6 {f:Foot} {ap:AH->AH} (h:ApOk f ap) (hf:f.2= .no):ap=id:=by
 obtain ⟨r,w⟩:=f;cases hf;exact h
theorem W2 {f:Foot} {ap:AH->AH} {m:Nat} (h:ApOk f ap) (hf:f.2= .cut m):ap=fun h=>h.cut m:=by
 obtain ⟨r,w⟩:=f;cases hf;exact h
theorem Ft {x y:Foot} {apx:AH->AH} {h:AH} (hc:x.compat y=true\/y.compat x=true) (hx:ApOk x apx) (hnx:sX x.2 h) (hny:sX y.2 h):Agree y h (apx h):=by
 have cut1:GK x y->Agree y h (apx h):=by
  rintro ⟨m,e,ha,_,ho⟩;refine Bs (r:=x.1) (w:=x.2) hx hnx ho ?_ ?_ ?_ hny
  ·intro hany;rw [hany] at ha;cases ha
  ·intro m' hm;rw [hm] at ha;cases ha
  ·intro a b k;rw [k] at ha;cases ha
 have cut2:GK y x->Agree y h (apx h):=by
  rintro ⟨m,e,ha,ho,_⟩;refine Bs (r:=x.1) (w:=x.2) hx hnx ho ?_ ?_ ?_ hny
  ·intro hany;rw [hany] at e;cases e
  ·intro m' hm;rw [e] at hm;cases hm;exact ha
  ·intro a b k;rw [k] at e;cases e
 have key:(x=(some [],.no)\/y=(some [],.no)\/((∀n m p q,x.2= .mv n m->y.2= .mv p q->False)/\(∀a b,x.2= .chg a b->y.2= .no)/\(∀a b,y.2= .chg a b->x.2= .no)/\x.2.off y.1=true/\y.2.off x.1=true/\(∀m,x.2≠ .cut m)/\(∀m,y.2≠ .cut m)))->Agree y h (apx h):=by
  rintro (rfl | rfl | ⟨h1,c1,c2,h2,h3,z1,z2⟩)
  ·rw [t6 hx rfl];exact Agree.refl hny
  ·exact ⟨fun id hid=>(by cases hid),trivial⟩
  ·refine Bs (r:=x.1) (w:=x.2) hx hnx h2 ?_ (fun m k=>absurd k (z2 m)) (fun a b k=>t6 hx (c2 a b k)) hny;intro hany;rw [hany] at h3;cases hxx:x.1<;>rw [hxx] at h3<;>cases h3
 rcases hc with hc | hc
 ·rcases HJ hc with h1 | h1 | h1 | h1 | h1
  ·exact key (.inl h1)
  ·exact key (.inr (.inl h1))
  ·exact cut1 h1
  ·exact cut2 h1
  ·exact key (.inr (.inr h1))
 ·rcases HJ hc with h1 | h1 | h1 | h1 | ⟨h1,c1,c2,h2,h3,z1,z2⟩
  ·exact key (.inr (.inl h1))
  ·exact key (.inl h1)
  ·exact cut2 h1
  ·exact cut1 h1
  ·exact key (.inr (.inr ⟨fun n m p q a b=>h1 p q n m b a,c2,c1,h3,h2,z2,z1⟩))
theorem Kc {x y:Foot} {apx apy:AH->AH} {h:AH} (hc:GK x y) (hx:ApOk x apx) (hy:ApOk y apy):apy (apx h)=apx (apy h):=by
 obtain ⟨m,e,ha,_,_⟩:=hc;rw [W2 hx e];obtain ⟨q,u⟩:=y;cases u with
 | no=>rw [t6 hy rfl];rfl
 | set i=>
  obtain ⟨⟨b,rfl⟩,_⟩:=hy;simp only [Wr.above,decide_eq_true_eq] at ha;exact (TB ha).symm
 | _=>cases ha
theorem Yn {x y:Foot} {apx apy:AH->AH} {h:AH} (hc:x.compat y=true) (hx:ApOk x apx) (hy:ApOk y apy) (hnx:sX x.2 h) (hny:sX y.2 h):apy (apx h)=apx (apy h):=by
 rcases HJ hc with rfl | rfl | hz | hz | ⟨h1,c1,c2,h2,h3,z1,z2⟩
 ·rw [t6 hx rfl];rfl
 ·rw [t6 hy rfl];rfl
 ·exact Kc hz hx hy
 ·exact (Kc hz hy hx).symm
 ·obtain ⟨r,w⟩:=x;obtain ⟨q,u⟩:=y;cases w with
  | no=>rw [t6 hx rfl];rfl
  | any=>cases q<;>cases h2
  | cut m=>exact absurd rfl (z1 m)
  | chg a b=>
   obtain rfl:u= .no:=c1 a b rfl;rw [t6 hy rfl];rfl
  | set i=>
   cases u with
   | no=>rw [t6 hy rfl];rfl
   | chg a b=>cases c2 a b rfl
   | any=>cases r<;>cases h3
   | cut m=>exact absurd rfl (z2 m)
   | set j=>
    obtain ⟨⟨a,rfl⟩,_⟩:=hx;obtain ⟨⟨b,rfl⟩,l,hl,hj⟩:=hy;simp only at hl;subst hl;refine Dt ?_;intro hij;subst hij;simp only [Wr.off,rJ] at h2;rw [memNat_iff.2 hj] at h2;cases h2
   | mv m n=>
    obtain ⟨⟨a,rfl⟩,l,hl,hi⟩:=hx;obtain ⟨⟨b,rfl⟩,_⟩:=hy;simp only at hl;subst hl;simp only [Wr.off,bE,rJ] at h3;have h31:m≠i:=by intro hij;subst hij;rw [memNat_iff.2 hi] at h3;cases h3.1
    have h32:n≠i:=by intro hij;subst hij;rw [memNat_iff.2 hi] at h3;cases h3.2
    show ((h.set i a).kill m).set n b=((h.kill m).set n b).set i a;rw [Kq h31,Dt (Ne.symm h32)]
  | mv m n=>
   cases u with
   | no=>rw [t6 hy rfl];rfl
   | chg a b=>cases c2 a b rfl
   | any=>cases r<;>cases h3
   | cut m=>exact absurd rfl (z2 m)
   | mv _ _=>exact (h1 _ _ _ _ rfl rfl).elim
   | set j=>
    obtain ⟨⟨a,rfl⟩,_⟩:=hx;obtain ⟨⟨b,rfl⟩,l,hl,hj⟩:=hy;simp only at hl;subst hl;simp only [Wr.off,bE,rJ] at h2;have h31:m≠j:=by intro hij;subst hij;rw [memNat_iff.2 hj] at h2;cases h2.1
    have h32:n≠j:=by intro hij;subst hij;rw [memNat_iff.2 hj] at h2;cases h2.2
    show ((h.kill m).set n a).set j b=((h.set j b).kill m).set n a;rw [Kq h31,Dt h32]
structure DD where
 o:Xv
 f:Foot
 v:AV
 ap:AH->AH
def Seq (call:aJ) (base:Option Nat):Env->AH->List DD->Prop
 | _,_,[]=>True
 | e,h,d::r=>Stb call base d.o e h d.f d.v d.ap/\Seq call base (putE e d.o.dst d.v) (d.ap h) r
def finE:Env->List DD->Env
 | e,[]=>e
 | e,d::r=>finE (putE e d.o.dst d.v) r
def finH:AH->List DD->AH
 | h,[]=>h
 | h,d::r=>finH (d.ap h) r
theorem FX {e:Env} {d:Option Nat} {v:AV} {t:Nat}:look t (putE e d v)=if d=some t then some v else look t e:=by
 cases d with
 | none=>simp [putE]
 | some d=>
  simp only [putE,look];by_cases h:d=t<;>simp [h]
theorem EqE.put {e e':Env} (h:EqE e e') (d:Option Nat) (v:AV):EqE (putE e d v) (putE e' d v):=by
 intro t;rw [FX,FX,h t]
theorem Seq.eqE:∀{ds:List DD} {e e':Env} {h:AH},EqE e e'->Seq call base e h ds->Seq call base e' h ds/\EqE (finE e ds) (finE e' ds)
 | [],_,_,_,he,_=>⟨trivial,he⟩
 | d::r,e,e',h,he,hs=>by
  obtain ⟨h1,h2⟩:=hs;obtain ⟨k1,k2⟩:=Seq.eqE (he.put d.o.dst d.v) h2;exact ⟨⟨h1.move (fun t _=>(he t).symm) (Agree.refl h1.next),k1⟩,k2⟩
structure PairOk (x y:DD):Prop where
 t:DL x.o y.o=true
 h:x.f.compat y.f=true
theorem Yj {x y:Xv} (h:DL x y=true):(∀d,x.dst=some d->d∉y.rds/\y.dst≠some d)/\∀d,y.dst=some d->d∉x.rds:=by
 unfold DL at h;simp only [bE] at h;obtain ⟨h1,h2⟩:=h;refine ⟨?_,?_⟩
 ·intro d hd;rw [hd] at h1;simp only [bE,rJ,beq_eq_false_iff_ne,ne_eq] at h1;exact ⟨fun hm=>(by rw [memNat_iff.2 hm] at h1;cases h1.1),h1.2⟩
 ·intro d hd;rw [hd] at h2;simp only [rJ] at h2;exact fun hm=>by rw [memNat_iff.2 hm] at h2;cases h2
theorem Gi {e:Env} {o:Xv} {d:Option Nat} {v:AV} (h:∀t,d=some t->t∉o.rds):∀t,t∈o.rds->look t (putE e d v)=look t e:=by
 intro t ht;rw [FX,QA];intro hd;exact h t hd ht
theorem swap2 {x y:DD} {r:List DD} {h:AH} (hp:PairOk y x) (hs:Seq call base e h (y::x::r)):
  Seq call base e h (x::y::r)/\EqE (finE e (y::x::r)) (finE e (x::y::r))/\finH h (y::x::r)=finH h (x::y::r):=by
 obtain ⟨hy,hx,hr⟩:=hs;obtain ⟨t1,t2⟩:=Yj hp.t;have hxr:∀t,y.o.dst=some t->t∉x.o.rds:=fun t ht=>(t1 t ht).1
 have hnx0:sX x.f.2 h:=by
  have:=hx.next;have hyok:=hy.ok;rcases HJ hp.h with h1 | h1 | ⟨m,e,ha,_,_⟩ | ⟨m,e,_,_,_⟩ | ⟨_,_,c2,_,_,_,_⟩
  ·rw [t6 hyok (by rw [h1])] at this;exact this
  ·rw [h1];trivial
  ·generalize x.f=fx at*;obtain ⟨r2,w2⟩:=fx;cases w2 with
   | chg a b=>cases ha
   | _=>trivial
  ·rw [e];trivial
  ·generalize x.f=fx at*;obtain ⟨r2,w2⟩:=fx;cases w2 with
   | chg a b=>rw [t6 hyok (c2 a b rfl)] at this;exact this
   | _=>trivial
 have ha1:Agree x.f h (y.ap h):=Ft (.inl hp.h) hy.ok hy.next hnx0;have hx0:Stb call base x.o e h x.f x.v x.ap:=hx.move (fun t ht=>(Gi hxr t ht).symm) (Agree.symm hnx0 ha1);have ha2:Agree y.f h (x.ap h):=Ft (.inr hp.h) hx0.ok hnx0 hy.next;have hy1:Stb call base y.o (putE e x.o.dst x.v) (x.ap h) y.f y.v y.ap:=hy.move (Gi t2) ha2;have hcomm:x.ap (y.ap h)=y.ap (x.ap h):=Yn hp.h hy.ok hx.ok hy.next hnx0;have hee:EqE (putE (putE e y.o.dst y.v) x.o.dst x.v) (putE (putE e x.o.dst x.v) y.o.dst y.v):=by
  intro t;simp only [FX];by_cases h1:x.o.dst=some t
  ·by_cases h2:y.o.dst=some t
   ·exact absurd h1 (t1 t h2).2
   ·simp [h1,h2]
  ·simp [h1]
 rw [hcomm] at hr;obtain ⟨k1,k2⟩:=Seq.eqE hee hr;exact ⟨⟨hx0,hy1,k1⟩,k2,by simp only [finH,hcomm]⟩
theorem Bc {x:DD}:∀{as bs:List DD} {e:Env} {h:AH},(∀y,y∈as->PairOk y x)->Seq call base e h (as++x::bs)->
  Seq call base e h (x::(as++bs))/\EqE (finE e (as++x::bs)) (finE e (x::(as++bs)))/\finH h (as++x::bs)=finH h (x::(as++bs))
 | [],_,_,_,_,hs=>⟨hs,fun _=>rfl,rfl⟩
 | y::as,bs,e,h,hp,hs=>by
  obtain ⟨hy,hr⟩:=hs;obtain ⟨k1,k2,k3⟩:=Bc (as:=as) (bs:=bs) (fun z hz=>hp z (QB _ hz)) hr;obtain ⟨m1,m2,m3⟩:=swap2 (hp y (by simp)) (r:=as++bs) ⟨hy,k1⟩;exact ⟨m1,fun t=>(k2 t).trans (m2 t),k3.trans m3⟩
end
end Go.Av
namespace Go.Av
section
variable {e e':Env} {h:AH} {call:aJ} {base dst:Option Nat} {nx:Nat}
def OpFoot (call:aJ) (base:Option Nat) (dst:Option Nat) (e:Env) (h:AH) (op:AOp) (v:AV) (h':AH) (f:Foot):Prop:=
 ∃ap,ApOk f ap/\sX f.2 h/\h'=ap h/\∀h2,Agree f h h2->aB call e (bG base dst h2) h2 op=some (.val v,ap h2)
theorem OpFoot.any {op:AOp} {v:AV} {h':AH} (hv:aB call e (bG base dst h) h op=some (.val v,h')):OpFoot call base dst e h op v h' (none,.any):=
 ⟨fun _=>h',trivial,trivial,rfl,fun h2 ha=>by have h1:h2=h:=ha.2;rw [h1];exact hv⟩
theorem OpFoot.read {op:AOp} {v:AV} {h':AH} (hv:aB call e (bG base dst h) h op=some (.val v,h')) (hh:h'=h):OpFoot call base dst e h op v h' (none,.no):=
 ⟨id,rfl,trivial,hh,fun h2 ha=>by have h1:h2=h:=ha.1;subst h1;rw [hv,hh];rfl⟩
theorem OpFoot.quiet {op:AOp} {v:AV} {h':AH} (hh:h'=h) (hv:∀nx h2,aB call e nx h2 op=some (.val v,h2)):OpFoot call base dst e h op v h' (some [],.no):=
 ⟨id,rfl,trivial,hh,fun h2 _=>hv _ h2⟩
theorem OpFoot.set {op:AOp} {v:AV} {h':AH} (id:Nat) (ob:AO) (hh:h'=h.set id ob) (hv:∀nx (h2:AH),h2.get id=h.get id->aB call e nx h2 op=some (.val v,h2.set id ob)):OpFoot call base dst e h op v h' (some [id],.set id):=
 ⟨fun h=>h.set id ob,⟨⟨ob,rfl⟩,[id],rfl,by simp⟩,trivial,hh,fun h2 ha=>hv _ h2 (ha.1 id (by simp))⟩
theorem OpFoot.get {op:AOp} {v:AV} {h':AH} (id:Nat) (hh:h'=h) (hv:∀nx (h2:AH),h2.get id=h.get id->aB call e nx h2 op=some (.val v,h2)):OpFoot call base dst e h op v h' (some [id],.no):=
 ⟨fun h=>h,rfl,trivial,hh,fun h2 ha=>hv _ h2 (ha.1 id (by simp))⟩
theorem FY {h:AH} (hne:bG base dst h≠h.next):∃n d,base=some n/\dst=some d/\bG base dst h=n+d:=by
 unfold bG at hne ⊢;split at hne
 ·rename_i n d;split at hne
  ·rename_i hg;exact ⟨n,d,rfl,rfl,by simp only [hg]⟩
  ·exact absurd rfl hne
 ·exact absurd rfl hne
theorem OpFoot.new {op:AOp} {v:AV} {h':AH} (ob:AO) (hv:aB call e (bG base dst h) h op=some (.val v,h')) (hh:h'=h.put (bG base dst h) ob)
  (hv2:∀h2:AH,aB call e (bG base dst h) h2 op=some (.val v,h2.put (bG base dst h) ob)):OpFoot call base dst e h op v h' (zV (bG base dst h) h):=by
 unfold zV;split
 ·rename_i hres;split
  ·exact .any hv
  ·rename_i hne;obtain ⟨n,d,rfl,rfl,hnx⟩:=FY hne;rw [hnx] at hres hv2 hh ⊢;refine ⟨fun h=>h.set (n+d) ob,⟨⟨ob,rfl⟩,[n+d],rfl,by simp⟩,trivial,?_,?_⟩
   ·rw [hh];unfold AH.put;rw [hres]
   ·intro h2 ha;have hg:h2.get (n+d)=some .res:=by rw [ha.1 (n+d) (by simp)];exact hres
    have:bG (some n) (some d) h2=n+d:=by
     unfold bG;simp only [hg]
    rw [this,hv2 h2];unfold AH.put;rw [hg]
 ·exact .any hv
theorem q9 {op:AOp} {v:AV} {h':AH} (hk:op.isCall=false) (hv:aB call e nx h op=some (.val v,h')):evOp e nx h op=some (v,h'):=by
 rw [BA hk] at hv;split at hv
 ·rename_i heq;cases hv;exact heq
 ·cases hv
theorem lZ {op:AOp} {v:AV} {h':AH} (hk:op.isCall=false) (hv:evOp e nx h op=some (v,h')):aB call e nx h op=some (.val v,h'):=by
 rw [BA hk,hv]
theorem WQ {op:AOp} {v:AV} {h':AH} (hk:op.isCall=false) (hc:op.cls= .i) (hv:aB call e (bG base dst h) h op=some (.val v,h')):OpFoot call base dst e h op v h' (some [],.no):=by
 have h1:=q9 hk hv;rw [EX hc] at h1;obtain ⟨r,k1,k2⟩:=map_some h1;cases k2;refine .quiet rfl fun _ h2=>lZ hk ?_
 rw [EX hc,k1];rfl
theorem Bx {H:AH} {t:Nat} {y:AO} (h:H.get t=some y):H.set t y=H:=by
 have key:∀l:List (Nat×AO),look t l=some y->setl t y l=l:=by
  intro l
  induction l with
  | nil=>intro h;cases h
  | cons p r ih=>
   obtain ⟨u,x⟩:=p;intro h;unfold setl;unfold look at h;split
   ·rename_i hu;rw [a8 hu] at h;cases h;rfl
   ·rename_i hu;rw [QA hu] at h;rw [ih h]
 unfold AH.set;rw [key _ h]
theorem R6:∀(n:Nat) (x:AV) {H H2:AH},(∀id,H2.get id=H.get id)->snap n H2 x=snap n H x:=by
 intro n
 induction n with
 | zero=>intro x H H2 _;rfl
 | succ n ih=>
  intro x H H2 hg;have l1:∀l:List AV,mapO (snap n H2) l=mapO (snap n H) l:=fun l=>nE fun a _=>ih a hg
  have l2:∀l:List (List AV),mapO (mapO (snap n H2)) l=mapO (mapO (snap n H)) l:=fun l=>nE fun a _=>l1 a
  cases x<;>simp only [snap,l1,l2,ih _ hg,hg]
theorem Ms {h:AH} {id:Nat}:∀{as as':List AV},BZ as=some id->mapO (u6 h id) as=some as'->∃z es,h.get id=some (.row z es)
 | [],_,hr,_=>by cases hr
 | x::r,as',hr,hm=>by
  unfold mapO at hm;split at hm
  ·cases hm
  ·rename_i y hy;split at hm
   ·cases hm
   ·rename_i ys hys;cases x
    case row i z off len=>
     cases hr;unfold u6 at hy;simp only [if_true] at hy;unfold uU at hy;split at hy
     ·rename_i z' es hg;exact ⟨z',es,hg⟩
     ·cases hy
    all_goals exact Ms (as:=r) hr hys
theorem MO {h h2:AH} {id:Nat} (as:List AV) (hg:h2.get id=h.get id):mapO (u6 h2 id) as=mapO (u6 h id) as:=by
 refine nE fun a _=>?_
 unfold u6;split
 ·rename_i i z off len _;split
  ·rename_i hi;subst hi;unfold uU;rw [hg];split
   ·rename_i z' es hget;split
    ·rename_i hc;have:mapO (mapO (snap aE h2)) ((es.drop off).take len)=mapO (mapO (snap aE h)) ((es.drop off).take len):=by
      refine nE fun e he=>nE fun x hx=>zI _ x h2 h (n8 hc.2.2 x ?_)
      rw [tJ];exact ⟨e,tH (Qu he),hx⟩
     rw [this]
    ·rfl
   ·rfl
  ·rfl
 ·split
  ·rfl
  ·rename_i hb;exact zI _ a h2 h (by simpa using hb)
theorem I8 {f:FuncId} {vs:List AV} {v:AV} {h':AH} (hv:iI call f vs h=some (.val v,h')):
  h'=h/\(anyL (bor aE) vs=false->∀h2,iI call f vs h2=some (.val v,h2)):=by
 unfold iI at hv;have hsn:anyL (bor aE) vs=false->∀h2,mapO (snap aE h2) vs=mapO (snap aE h) vs:=fun hb h2=>
  nE fun a ha=>zI _ a h2 h (n8 hb a ha)
 split at hv
 ·cases hv
 ·rename_i as has;split at hv
  ·rename_i r H1 hcall;split at hv
   ·rename_i y hy;split at hv
    ·cases hv
    ·cases hv;refine ⟨rfl,fun hb h2=>?_⟩;unfold iI;rw [hsn hb h2,has];simp only [hcall,hy,hb,AN,iV,if_false]
   ·cases hv
  ·split at hv
   ·split at hv<;>cases hv
   ·cases hv
  ·cases hv
theorem PK {f:FuncId} {vs:List AV} {v:AV} {h':AH} (hv:qQ call f vs h=some (.val v,h')):
  h'=h/\(anyL (bor aE) vs=false->∀h2,qQ call f vs h2=some (.val v,h2)):=by
 unfold qQ at hv;have hsn:anyL (bor aE) vs=false->∀h2,mapO (snap aE h2) vs=mapO (snap aE h) vs:=fun hb h2=>
  nE fun a ha=>zI _ a h2 h (n8 hb a ha)
 split at hv
 ·cases hv
 ·rename_i as has;split at hv
  ·rename_i hcall;split at hv
   ·rename_i hget;split at hv
    ·rename_i hz;split at hv
     ·rename_i hes;split at hv
      ·cases hv
      ·rename_i hfl;cases hv;refine ⟨rfl,fun hb h2=>?_⟩;unfold qQ;rw [hsn hb h2,has];simp only [hcall,hget,a8 hz,hes,QA hfl]
     ·cases hv
    ·cases hv
   ·cases hv
  ·rename_i hcall;cases hv;refine ⟨rfl,fun hb h2=>?_⟩;unfold qQ;rw [hsn hb h2,has];simp only [hcall]
  ·cases hv
theorem SJ {op:AOp} {v:AV} {h':AH} (hv:aB call e (bG base dst h) h op=some (.val v,h')):OpFoot call base dst e h op v h' (foot e (bG base dst h) h op):=by
 by_cases hi:op.isCall=false/\op.cls= .i
 ·have:foot e (bG base dst h) h op=(some [],.no):=by
   cases op<;>first
    | rfl
    | (cases hi.2;done)
    | (rename_i m _ _ _;cases m<;>first | rfl | (cases hi.2;done))
  rw [this];exact WQ hi.1 hi.2 hv
 ·cases op
  case load g n x=>
   have h1:=q9 rfl hv;simp only [evOp] at h1;simp only [foot];split at h1
   ·rename_i id esz i off hx;simp only [hx];split at h1
    ·rename_i esz' es hget;split at h1
     ·rename_i hz;split at h1
      ·rename_i cs hcs;obtain ⟨y,hy,k2⟩:=map_some h1;cases k2;refine .get id rfl fun _ h2 hg=>lZ rfl ?_
       rw [hget] at hg;simp only [evOp,hx,hg,a8 hz,hcs,hy,uF]
      ·cases h1
     ·cases h1
    ·cases h1
   ·rename_i esz es i off hx;simp only [hx];split at h1
    ·rename_i cs hcs;obtain ⟨y,hy,k2⟩:=map_some h1;cases k2;refine .quiet rfl fun _ h2=>lZ rfl ?_
     simp only [evOp,hx,hcs,hy,uF]
    ·cases h1
   ·cases h1
  case pcall f xs=>
   simp only [aB] at hv;split at hv
   ·rename_i as has;obtain ⟨h1,h2⟩:=I8 hv;simp only [foot,uR,has];cases hb:anyL (bor aE) as with
    | true=>exact .read (by simp only [aB,has,hv]) h1
    | false=>exact .quiet h1 fun _ h3=>by simp only [aB,has,h2 hb h3]
   ·cases hv
  case pcallk f xs=>
   simp only [aB] at hv;split at hv
   ·rename_i as has;split at hv
    ·rename_i id hid;split at hv
     ·rename_i as' has';split at hv
      ·cases hv
      rename_i hnb;have hnb':anyL (bor aE) as'=false:=by simpa using hnb
      obtain ⟨h1,h2⟩:=I8 hv;subst h1;simp only [foot,B6,has,hid];split
      ·rename_i hres;split
       ·exact .any (by simp only [aB,has,hid,has',hv,QA hnb])
       ·rename_i hne;obtain ⟨n,d,rfl,rfl,hnx⟩:=FY hne;rw [hnx] at hres ⊢;obtain ⟨z,es,hget⟩:=Ms hid has';have hin:n+d≠id:=by intro hh;rw [hh,hget] at hres;cases hres
        have hset:∀h2:AH,h2.get (n+d)=some .res->(h2.kill id).set (n+d) .res=h2.kill id:=fun h2 hg=>Bx (by rw [Ab hin];exact hg)
        refine ⟨fun h=>(h.kill id).set (n+d) .res,⟨⟨_,rfl⟩,[id,n+d],rfl,by simp,by simp⟩,trivial,(hset h hres).symm,?_⟩;intro h3 ha;have hg:h3.get (n+d)=some .res:=by rw [ha.1 (n+d) (by simp)];exact hres
        have hg2:h3.get id=h.get id:=ha.1 id (by simp);simp only [aB,has,hid,MO as hg2,has',QA hnb,h2 hnb' (h3.kill id),hset h3 hg]
      ·exact .any (by simp only [aB,has,hid,has',hv,QA hnb])
     ·cases hv
    ·cases hv
   ·cases hv
  case pcallr f xs=>
   simp only [aB] at hv;split at hv
   ·rename_i as has;simp only [foot,eZ,has];split
    ·exact .any (by simp only [aB,has,hv])
    rename_i hb;have hb':anyL (bor aE) as=false:=by simpa using hb
    have hsn:∀h2,mapO (snap aE h2) as=mapO (snap aE h) as:=fun h2=>
     nE fun a ha=>zI _ a h2 h (n8 hb' a ha)
    unfold nH at hv;split at hv
    ·cases hv
    rename_i as' has';split at hv
    ·rename_i id z off len H1 hcall;split at hv
     ·rename_i z' es hget;split at hv
      ·rename_i es' hes;split at hv
       ·cases hv
       ·rename_i hfl;cases hv;refine .new (.row z' es') (by simp only [aB,has,nH,has',hcall,hget,hes,QA hfl]) rfl fun h2=>?_
        simp only [aB,has,nH,hsn h2,has',hcall,hget,hes,QA hfl]
      ·cases hv
     ·cases hv
    ·rename_i z H1 hcall;cases hv;unfold zV;split
     ·rename_i hres;split
      ·exact .any (by simp only [aB,has,nH,has',hcall])
      ·rename_i hne;obtain ⟨n,d,rfl,rfl,hnx⟩:=FY hne;rw [hnx] at hres ⊢;refine .set (n+d) .res (Bx hres).symm fun nx h2 hg=>?_
       rw [hres] at hg;rw [Bx hg];simp only [aB,has,nH,hsn h2,has',hcall]
     ·exact .any (by simp only [aB,has,nH,has',hcall])
    ·cases hv
   ·cases hv
  case pcallz k f xs=>
   simp only [aB] at hv;split at hv
   ·rename_i as has;split at hv
    ·rename_i as' has';split at hv
     ·cases hv
     rename_i hnb;have hnb':anyL (bor aE) as'=false:=by simpa using hnb
     obtain ⟨h1,h2⟩:=I8 hv;simp only [foot,GU];split
     ·rename_i hres;split
      ·exact .any (by simp only [aB,has,has',hv,QA hnb])
      ·rename_i hne;obtain ⟨n,d,rfl,rfl,hnx⟩:=FY hne;rw [hnx] at hres has' h1 ⊢;refine ⟨fun h=>h.cut (n+d - k),rfl,trivial,h1,?_⟩;intro h3 ha;have hg:h3.get (n+d)=some .res:=by rw [ha.1 (n+d) (by simp)];exact hres
       have hnx3:bG (some n) (some d) h3=n+d:=by
        unfold bG;simp only [hg]
       have hold:∀id,(h3.old (n+d - k)).get id=(h.old (n+d - k)).get id:=by
        intro id;rw [Dd,Dd];split
        ·rename_i hlt;exact ha.2 id hlt
        ·rfl
       have hsn:mapO (snap aE (h3.old (n+d - k))) as=some as':=by
        rw [<- has'];exact nE fun a _=>R6 _ a hold
       simp only [aB,has,hnx3,hsn,QA hnb,h2 hnb' (h3.cut (n+d - k))]
     ·exact .any (by simp only [aB,has,has',hv,QA hnb])
    ·cases hv
   ·cases hv
  case pcallf f xs=>
   simp only [aB] at hv;split at hv
   ·rename_i as has;obtain ⟨h1,h2⟩:=PK hv;simp only [foot,uR,has];cases hb:anyL (bor aE) as with
    | true=>exact .read (by simp only [aB,has,hv]) h1
    | false=>exact .quiet h1 fun _ h3=>by simp only [aB,has,h2 hb h3]
   ·cases hv
  case pcallv f xs=>
   simp only [aB] at hv;split at hv
   ·rename_i fv as hf has;split at hv
    ·rename_i k first caps htg
     obtain ⟨h1,h2⟩:=I8 hv;simp only [foot,uR,hf,has,htg];cases hb:anyL (bor aE) (first++as++caps) with
     | true=>exact .read (by simp only [aB,hf,has,htg,hv]) h1
     | false=>exact .quiet h1 fun _ h3=>by simp only [aB,hf,has,htg,h2 hb h3]
    ·cases hv
   ·cases hv
  case b2s x=>
   have h1:=q9 rfl hv;have hh:h'=h:=by
    simp only [evOp] at h1
    repeat' split at h1
    all_goals first
     | (cases h1;done)
     | (cases h1;rfl)
   simp only [foot];subst hh;cases hv0:evX e x with
   | none=>exact .read hv rfl
   | some v0=>
    cases v0 with
    | row id z off len=>
     refine .get id rfl fun _ h2 hg=>lZ rfl ?_
     simp only [evOp,hv0,jJ] at h1 ⊢;rw [hg];revert h1
     repeat' split
     all_goals first
      | (intro k;cases k;done)
      | (intro k;cases k;simp [*])
      | (intro k;cases k;rfl)
    | str s=>simp only [evOp,hv0] at h1;cases h1
    | slice z es=>refine .quiet rfl fun nx h2=>lZ rfl ?_;simp only [evOp,hv0,jJ] at h1 ⊢;split at h1<;>first | (cases h1;done) | (rename_i hb;cases h1;simp only [hb])
    | Xt z es=>refine .quiet rfl fun nx h2=>lZ rfl ?_;simp only [evOp,hv0,jJ] at h1 ⊢;split at h1<;>first | (cases h1;done) | (rename_i hb;cases h1;simp only [hb])
    | app z es t=>refine .quiet rfl fun nx h2=>lZ rfl ?_;simp only [evOp,hv0,jJ] at h1 ⊢;split at h1<;>first | (cases h1;done) | (rename_i hb;cases h1;simp only [hb])
    | _=>simp only [evOp,hv0,jJ] at h1;cases h1
  case lookup kd z ok x k=>
   refine .read hv ?_;have h1:=q9 rfl hv;simp only [evOp] at h1
   repeat' split at h1
   all_goals first
    | (cases h1;done)
    | (cases h1;rfl)
  case mlen x=>
   refine .read hv ?_;have h1:=q9 rfl hv;simp only [evOp] at h1
   repeat' split at h1
   all_goals first
    | (cases h1;done)
    | (cases h1;rfl)
  case store n x y=>
   have h1:=q9 rfl hv;simp only [evOp] at h1;simp only [foot];split at h1
   ·rename_i id esz i off yv hx hy;simp only [hx];split at h1
    ·cases h1
    ·rename_i vs hvs;split at h1
     ·rename_i hl;split at h1
      ·rename_i esz' es hget;split at h1
       ·rename_i hz;split at h1
        ·rename_i cs hcs;split at h1
         ·rename_i cs' hcs';cases h1;refine .set id _ rfl fun _ h2 hg=>lZ rfl ?_
          rw [hget] at hg;simp only [evOp,hx,hy,hvs,a8 hl,hg,a8 hz,hcs,hcs']
         ·cases h1
        ·cases h1
       ·cases h1
      ·cases h1
     ·cases h1
   ·cases h1
  case alloc z=>
   have h1:=q9 rfl hv;simp only [evOp] at h1;cases h1;exact .new _ hv rfl fun h2=>lZ rfl (by simp only [evOp])
  case nilapp z=>
   have h1:=q9 rfl hv;simp only [evOp] at h1;cases h1;exact .new _ hv rfl fun h2=>lZ rfl (by simp only [evOp])
  case mkmap=>
   have h1:=q9 rfl hv;simp only [evOp] at h1;cases h1;exact .new _ hv rfl fun h2=>lZ rfl (by simp only [evOp])
  case box x=>
   have h1:=q9 rfl hv;simp only [evOp] at h1;split at h1
   ·rename_i y hy;split at h1
    ·rename_i vs hvs;cases h1;exact .new _ hv rfl fun h2=>lZ rfl (by simp only [evOp,hy,hvs])
    ·cases h1
   ·cases h1
  case bslice m esz z parts=>
   have h1:=q9 rfl hv;cases m
   case imm=>exact absurd ⟨rfl,rfl⟩ hi
   case row=>
    simp only [evOp] at h1;split at h1
    ·cases h1
    ·rename_i ps hps;cases h1;exact .new _ hv rfl fun h2=>lZ rfl (by simp only [evOp,hps])
   case app=>
    simp only [evOp] at h1;split at h1
    ·cases h1
    ·rename_i ps hps;split at h1
     ·cases h1
     ·rename_i es' hes;split at h1
      ·cases h1
      ·rename_i hb;cases h1;refine .new _ hv rfl fun h2=>lZ rfl ?_
       have hb':anyL (bor aE) (List.foldl (fun es p=>es.set p.1 p.2) z ps).flatten=false:=by simpa using hb
       have hf:=Fy hb' h2 h;simp only [evOp,hps];rw [hf,hes];simp only [hb',iV,if_false]
  case mkslice m esz bytes z len cp=>
   cases m
   case row=>
    have h1:=q9 rfl hv;simp only [evOp] at h1;split at h1
    ·rename_i k1 l k2 c hl hc;split at h1
     ·rename_i hb;split at h1
      ·rename_i hlc;cases h1;exact .new _ hv rfl fun h2=>lZ rfl (by simp only [evOp,hl,hc,a8 hb,a8 hlc])
      ·cases h1
     ·cases h1
    ·cases h1
   case imm=>
    have h1:=q9 rfl hv;simp only [foot];cases hb:anyL (bor aE) z with
    | true=>exact .any hv
    | false=>
     simp only [iV,if_false];simp only [evOp] at h1;split at h1
     ·rename_i k1 l k2 c hl hc;split at h1
      ·rename_i hbd;split at h1
       ·rename_i z' hz';split at h1
        ·rename_i hlc;cases h1;refine .quiet rfl fun nx h2=>lZ rfl ?_
         have hf:oM h2 z=oM h z:=nE fun x hx=>zI _ x h2 h (n8 hb x hx)
         simp only [evOp,hl,hc,a8 hbd,hf,hz',a8 hlc]
        ·cases h1
       ·cases h1
      ·cases h1
     ·cases h1
   all_goals exact .any hv
  case append m esz bytes x y=>
   have h1:=q9 rfl hv;have srow:∀{yv:AV} (h2:AH),C5 yv=false->jJ h2 yv=jJ h yv:=by
    intro yv h2 hr;cases yv<;>first
     | rfl
     | cases hr
   have sfrz:∀{yv:AV} {es:List (List AV)} (h2:AH),C5 yv=false->frz h2 yv es=frz h yv es:=by
    intro yv es h2 hr;cases yv<;>first
     | rfl
     | cases hr
   cases hx:evX e x with
   | none=>simp only [foot,hx];exact .any hv
   | some xv=>
    cases hy:evX e y with
    | none=>simp only [evOp,hx,hy] at h1;cases h1
    | some yv=>
     cases hr:C5 yv with
     | true=>
      have:foot e (bG base dst h) h (.append m esz bytes x y)=(none,.any):=by
       simp only [foot,hx,hy];cases xv<;>simp [hr]
      rw [this];exact .any hv
     | false=>
      cases xv with
      | app z es t=>
       simp only [foot,hx,hy,hr,iV,if_false];simp only [evOp,hx,hy] at h1;split at h1
       ·cases h1
       ·rename_i ys0 hys0;split at h1
        ·rename_i hz;split at h1
         ·rename_i z' f ys hget hfz;split at h1
          ·rename_i hc;cases h1;refine .set t _ rfl fun _ h2 hg=>lZ rfl ?_
           rw [hget] at hg;simp only [evOp,hx,hy,srow h2 hr,hys0,a8 hz,hg,sfrz h2 hr,hfz,a8 hc]
          ·cases h1
         ·cases h1
        ·cases h1
      | Xt z es=>
       simp only [foot,hx,hy,hr,iV,if_false];simp only [evOp,hx,hy] at h1;split at h1
       ·cases h1
       ·rename_i ys0 hys0;rw [hys0];split at h1
        ·split at h1
         ·rename_i hc;cases h1;have hnr:GD .row (some ys0)=false:=by
           cases ys0 with
           | nil=>exact absurd rfl hc.2.1
           | cons=>rfl
          rw [QA (by rw [hnr];decide)];exact .new _ hv rfl fun h2=>lZ rfl (by simp only [evOp,hx,hy,srow h2 hr,hys0,a8 hc])
         ·split at h1
          ·rename_i hc;obtain ⟨_,c2⟩:=hc;subst c2;rw [a8 (show GD .row (some [])=true from rfl)];exact .any hv
          ·cases h1
        ·rename_i hm;have hnr:GD m (some ys0)=false:=by
          cases m
          case row=>exact absurd rfl hm
          all_goals rfl
         rw [QA (by rw [hnr];decide)];split at h1
         ·cases h1
         ·rename_i ys hfz;split at h1
          ·rename_i hc;cases h1;refine .new _ hv rfl fun h2=>lZ rfl ?_
           cases m
           case row=>exact absurd rfl hm
           all_goals simp only [evOp,hx,hy,srow h2 hr,hys0,sfrz h2 hr,hfz,a8 hc]
          ·cases h1
      | row id z off len=>
       simp only [foot,hx,hy,hr,iV,if_false];simp only [evOp,hx,hy] at h1;split at h1
       ·cases h1
       ·rename_i ys0 hys0;split at h1
        ·rename_i hz;split at h1
         ·rename_i z' es hget;rw [hys0];simp only [Db,hget];split at h1
          ·rename_i hc;rw [a8 hc];cases h1;split
           ·rename_i hres;split
            ·exact .any hv
            ·rename_i hne;obtain ⟨n,d,rfl,rfl,hnx⟩:=FY hne;rw [hnx] at hres ⊢;have hin:n+d≠id:=by intro hh;rw [hh] at hres;rw [hget] at hres;cases hres
             have hput:∀h2:AH,h2.get (n+d)=some .res->∀ob,(h2.kill id).put (n+d) ob=(h2.kill id).set (n+d) ob:=by
              intro h2 hg ob;unfold AH.put;rw [Ab hin,hg]
             refine ⟨fun h=>(h.kill id).set (n+d) (.row esz (es.drop off++ys0)),⟨⟨_,rfl⟩,[id,n+d],rfl,by simp,by simp⟩,trivial,hput h hres _,?_⟩;intro h2 ha;have hg:h2.get (n+d)=some .res:=by rw [ha.1 (n+d) (by simp)];exact hres
             have hg2:h2.get id=some (.row z' es):=by rw [ha.1 id (by simp)];exact hget
             have hn:bG (some n) (some d) h2=n+d:=by
              unfold bG;simp only [hg]
             rw [hn];refine lZ rfl ?_;simp only [evOp,hx,hy,srow h2 hr,hys0,a8 hz,hg2,a8 hc,hput h2 hg]
           ·exact .any hv
          ·rename_i hc;rw [QA hc];split at h1
           ·rename_i hc2;cases h1;refine .set id _ rfl fun _ h2 hg=>lZ rfl ?_
            rw [hget] at hg;simp only [evOp,hx,hy,srow h2 hr,hys0,a8 hz,hg,QA hc,a8 hc2]
           ·cases h1
         ·cases h1
        ·cases h1
      | _=>simp only [foot,hx,hy];exact .any hv
  all_goals first
   | exact absurd ⟨rfl,rfl⟩ hi
   | exact .any hv
end
end Go.Av
namespace Go.Av
section
variable {e e':Env} {h:AH} {call:aJ} {base:Option Nat}
theorem PI {o:Xv} {v:AV} {h':AH} (hr:rOp call base o e h=some (v,h')):∃ap,Stb call base o e h (qG base ⟨e,h⟩ o) v ap/\h'=ap h:=by
 unfold rOp at hr;unfold qG;simp only;cases hg:iJ e o.guard with
 | none=>rw [hg] at hr;cases hr
 | some b=>
  rw [hg] at hr;cases b with
  | false=>
   cases hr;refine ⟨id,⟨rfl,trivial,?_⟩,rfl⟩;intro e2 h2 hh _;rw [Jc hh];unfold rOp;rw [hg];rfl
  | true=>
   simp only at hr;split at hr
   ·rename_i y H1 hc;cases hr;obtain ⟨ap,k1,k2,k3,k4⟩:=SJ hc;refine ⟨ap,⟨k1,k2,?_⟩,k3⟩;intro e2 h2 hh ha;rw [Jc hh];unfold rOp;rw [hg];simp only [k4 h2 ha]
   ·cases hr
theorem SI {o:Xv} {v:AV} {h':AH} (hr:rOp call base o e h=some (v,h')):∃ap,Stb call base o e h (nB (qG base ⟨e,h⟩ o) h h') v ap/\h'=ap h:=by
 obtain ⟨ap,k1,k2⟩:=PI hr;generalize qG base ⟨e,h⟩ o=f at*;by_cases hf:f=(none,.any)
 ·subst hf;refine ⟨fun _=>h',⟨rfl,rfl,?_⟩,rfl⟩;intro e2 h2 hh ha;have h3:h2=h:=ha.1;subst h3;have:=k1.run e2 h2 hh ⟨rfl,rfl⟩;rw [this,k2]
 ·have:nB f h h'=f:=by
   unfold nB;split
   ·exact absurd rfl hf
   ·rfl
  rw [this];exact ⟨ap,k1,k2⟩
theorem Eu:∀{ops:List Xv} {s s':St},aN call base ops s=some (.normal,s')->
  ∃ds:List DD,ds.map (·.o)=ops/\Seq call base s.e s.h ds/\s'=⟨finE s.e ds,finH s.h ds⟩/\feet call base ops s=ds.map (·.f)/\∀d,d∈ds->∃s h h',d.f=nB (qG base s d.o) h h'
 | [],s,s',hs=>by
  cases hs;exact ⟨[],rfl,trivial,rfl,rfl,by simp⟩
 | o::r,s,s',hs=>by
  obtain ⟨v,h',h1,h2⟩:=evOps_cons.1 hs;obtain ⟨ap,k1,k2⟩:=SI h1;subst k2;obtain ⟨ds,m1,m2,m3,m4,m5⟩:=Eu h2;refine ⟨⟨o,nB (qG base s o) s.h (ap s.h),v,ap⟩::ds,by simp [m1],⟨k1,?_⟩,?_,?_,?_⟩
  ·exact m2
  ·exact m3
  ·have:aN call base [o] s=some (.normal,⟨putE s.e o.dst v,ap s.h⟩):=evOps_cons.2 ⟨v,ap s.h,h1,rfl⟩;simp only [feet,this,m4,jL]
  ·intro d hd;rcases iW.1 hd with rfl | hd
   ·exact ⟨s,s.h,ap s.h,rfl⟩
   ·exact m5 d hd
theorem Cz:∀{ds:List DD} {e:Env} {h:AH},Seq call base e h ds->aN call base (ds.map (·.o)) ⟨e,h⟩=some (.normal,⟨finE e ds,finH h ds⟩)
 | [],_,_,_=>rfl
 | d::r,e,h,hs=>by
  obtain ⟨h1,h2⟩:=hs;refine evOps_cons.2 ⟨d.v,d.ap h,h1.run e h (fun _ _=>rfl) (Agree.refl h1.next),?_⟩;exact Cz h2
theorem J0 {o:Xv} {s:St} (hc:o.op.cls= .i):qG base s o=(some [],.no):=by
 unfold qG;split
 ·generalize o.op=op at hc;cases op<;>first
    | rfl
    | (cases hc;done)
    | (rename_i m _ _ _;cases m<;>first | rfl | (cases hc;done))
 ·rfl
theorem KW (vs:Option (List AV)):(uR vs).2= .no:=by
 unfold uR;split
 ·rfl
 ·split<;>rfl
theorem J1 {o:Xv} {s:St} (hc:o.op.cls= .r):(qG base s o).2= .no:=by
 unfold qG;split
 ·generalize o.op=op at hc;cases op<;>first
    | rfl
    | (cases hc;done)
    | exact KW _
    | (simp only [foot];split<;>rfl)
    | (simp only [foot];split<;>first | rfl | (split<;>rfl))
    | (rename_i m _ _ _;cases m<;>first | rfl | (cases hc;done))
 ·rfl
theorem J2 {f:Foot} (hf:f=(some [],.no)) (h h':AH):nB f h h'=(some [],.no):=by subst hf;rfl
theorem J3 {f:Foot} (hf:f.2= .no) (h h':AH):(nB f h h').2= .no:=by
 obtain ⟨r,w⟩:=f;cases hf;unfold nB;split
 ·rename_i heq;cases heq
 ·rfl
theorem Kb {x y:Foot} (hx:x=(some [],.no)):x.compat y=true:=by subst hx;rfl
theorem Iq {x y:Foot} (hy:y=(some [],.no)):x.compat y=true:=by
 subst hy;obtain ⟨r,v⟩:=x
 match r,v with
 | some [],.no=>rfl
 | some (_::_),.no=>rfl
 | none,.no=>rfl
 | some [],.set _=>rfl
 | some (_::_),.set _=>rfl
 | none,.set _=>rfl
 | some [],.mv _ _=>rfl
 | some (_::_),.mv _ _=>rfl
 | none,.mv _ _=>rfl
 | some [],.chg _ _=>rfl
 | some (_::_),.chg _ _=>rfl
 | none,.chg _ _=>rfl
 | some [],.cut _=>rfl
 | some (_::_),.cut _=>rfl
 | none,.cut _=>rfl
 | some [],.any=>rfl
 | some (_::_),.any=>rfl
 | none,.any=>rfl
theorem Ir {x y:Foot} (hx:x.2= .no) (hy:y.2= .no):x.compat y=true:=by
 obtain ⟨r,v⟩:=x;obtain ⟨q,u⟩:=y;cases hx;cases hy;cases r with
 | none=>cases q with
  | none=>rfl
  | some l=>cases l<;>rfl
 | some l'=>cases l' with
  | nil=>rfl
  | cons a b=>cases q with
   | none=>rfl
   | some l=>cases l<;>rfl
def BD (ops:Array Oper) (listed:Array Bool):Prop:=
 ∀(j:Nat) oj,ops[j]? =some oj->listed.getD j false=true->∀e,e∈oj.after->Region.binds .any e=true->listed.getD e.on false=true
theorem HW {ops:Array Oper} {listed:Array Bool} (hc:BD ops listed):∀(n i k:Nat),ordB ops n i k=true->
  (∀o,ops[i]? =some o->∀e,e∈o.after->Region.binds .any e=true->listed.getD e.on false=true)->listed.getD k false=true
 | 0,_,_,h,_=>by cases h
 | n+1,i,k,h,ha=>by
  simp only [ordB] at h;split at h
  ·cases h
  ·rename_i o ho;obtain ⟨e,he,h1⟩:=tL.1 h;simp only [bE,uG,beq_iff_eq] at h1;obtain ⟨hb,h2⟩:=h1;have hl:=ha o ho e (by simpa using he) hb;rcases h2 with h2 | ⟨_,h2⟩
   ·rw [<- h2];exact hl
   ·exact HW hc n e.on k h2 (fun o' ho' e' he' hb'=>hc e.on o' ho' hl e' he' hb')
theorem Ic {l:List Nat} {i:Nat} (h:i∈l) (hp:l.Pairwise (· < ·)):∃as bs,l=as++i::bs/\(∀k,k∈as->k<i)/\(as++bs).Pairwise (· < ·)/\∀k,k∈as++bs↔(k∈l/\k≠i):=by
 obtain ⟨as,bs,rfl⟩:=List.append_of_mem h;have h1:=H6.1 hp;have h2:=QD.1 h1.2.1;refine ⟨as,bs,rfl,fun k hk=>h1.2.2 k hk i (by simp),?_,?_⟩
 ·exact H6.2 ⟨h1.1,h2.2,fun a ha b hb=>h1.2.2 a ha b (by simp [hb])⟩
 ·intro k;simp only [eI,iW];constructor
  ·rintro (hk | hk)
   ·exact ⟨.inl hk,Nat.ne_of_lt (h1.2.2 k hk i (by simp))⟩
   ·exact ⟨.inr (.inr hk),(Nat.ne_of_lt (h2.1 k hk)).symm⟩
  ·rintro ⟨hk | hk | hk,hne⟩
   ·exact .inl hk
   ·exact absurd hk hne
   ·exact .inr hk
theorem Dc {listed:Array Bool} {j n:Nat} (hs:listed.size=n) (hj:j<n) (h:¬listed.getD j true=false):listed.getD j false=true:=by
 have:j<listed.size:=by omega
 simp [this] at h ⊢;exact h
theorem lin {ops:Array Oper} {D:List DD} (hD:D.length=ops.size)
  (hback:∀(i:Nat) o,ops[i]? =some o->∀e,e∈o.after->Region.binds .any e=true->e.on<i)
  (hpair:∀k i,k<i->i<ops.size->ordB ops ops.size i k=true\/∀x y,D[k]? =some x->D[i]? =some y->PairOk x y):
  ∀(fuel t:Nat) (listed:Array Bool) (rem:List Nat) (e:Env) (h:AH),listed.size=ops.size->(∀k,k∈rem↔k<ops.size/\listed.getD k true=false)->rem.Pairwise (· < ·)->rem.length<=fuel->
   BD ops listed->Seq call base e h (rem.filterMap (D[·]?))->
   ∃L,Region.linearise.go .any ops fuel t listed []=L/\Seq call base e h (L.filterMap (D[·]?))/\EqE (finE e (rem.filterMap (D[·]?))) (finE e (L.filterMap (D[·]?)))/\finH h (rem.filterMap (D[·]?))=finH h (L.filterMap (D[·]?)):=by
 intro fuel
 induction fuel with
 | zero=>
  intro t listed rem e h _ _ _ hl _ hs;have:rem=[]:=Qg (by omega);subst this;exact ⟨[],rfl,trivial,fun _=>rfl,rfl⟩
 | succ fuel ih=>
  intro t listed rem e h hsz hmem hpw hl hcl hs;simp only [Region.linearise.go]
  change ∃L,(match (Region.ready .any ops listed)[t % (Region.ready .any ops listed).length]? with
   | some i=>Region.linearise.go .any ops fuel (t / (Region.ready .any ops listed).length) (listed.setIfInBounds i true) [i]
   | none=>[].reverse)=L/\_
  have hready:∀i,i∈Region.ready .any ops listed->i∈rem:=by
   intro i hi;obtain ⟨h1,o,ho,_⟩:=mem_ready.1 hi;exact (hmem i).2 ⟨(Array.getElem?_eq_some_iff.1 ho).1,h1⟩
  cases hi:(Region.ready .any ops listed)[t % (Region.ready .any ops listed).length]? with
  | none=>
   have hnil:Region.ready .any ops listed=[]:=by
    cases hr:Region.ready .any ops listed with
    | nil=>rfl
    | cons x xs=>
     rw [hr] at hi;have hlt:t % (x::xs).length<(x::xs).length:=Nat.mod_lt _ (by simp);simp at hi;simp at hlt;omega
   have hrem:rem=[]:=by
    cases hrr:rem with
    | nil=>rfl
    | cons m ms=>
     exfalso;subst hrr;have hm:=(hmem m).1 (by simp);have ho:ops[m]? =some ops[m]:=by simp [hm.1]
     have:m∈Region.ready .any ops listed:=by
      refine mem_ready.2 ⟨hm.2,ops[m],ho,fun e he hb=>?_⟩;have hlt:=hback m _ ho e he hb;refine Dc hsz (by omega) ?_;intro hf;have hin:=(hmem e.on).2 ⟨by omega,hf⟩;rcases iW.1 hin with hh | hh
      ·omega
      ·have:=(QD.1 hpw).1 _ hh;omega
     rw [hnil] at this;cases this
   subst hrem;exact ⟨[],rfl,trivial,fun _=>rfl,rfl⟩
  | some i=>
   have hir:i∈Region.ready .any ops listed:=Qe hi;obtain ⟨hun,oi,hoi,hall⟩:=mem_ready.1 hir;obtain ⟨as,bs,rfl,has,hpw',hmem'⟩:=Ic (hready i hir) hpw;have hin:i<ops.size:=(Array.getElem?_eq_some_iff.1 hoi).1;have hDi:D[i]? =some D[i]:=by simp [hD,hin]
   have hsplit:(as++i::bs).filterMap (D[·]?)=as.filterMap (D[·]?)++D[i]::bs.filterMap (D[·]?):=by
    rw [DV,qK hDi]
   have hpok:∀y,y∈as.filterMap (D[·]?)->PairOk y D[i]:=by
    intro y hy;obtain ⟨k,hk,hky⟩:=List.mem_filterMap.1 hy;rcases hpair k i (has k hk) hin with ho | ho
    ·have h1:=HW hcl _ _ _ ho (fun o ho' e he hb=>by
      rw [hoi] at ho';cases ho';exact hall e he hb)
     have h2:=((hmem k).1 (by simp [hk])).2;have h3:=((hmem k).1 (by simp [hk])).1;exfalso;have:k<listed.size:=by omega
     simp [this] at h1 h2;rw [h1] at h2;cases h2
    ·exact ho _ _ hky hDi
   rw [hsplit] at hs ⊢;obtain ⟨k1,k2,k3⟩:=Bc hpok hs;obtain ⟨hx,hrest⟩:=k1;rw [<- DV] at hrest k2 k3;have hcl':BD ops (listed.setIfInBounds i true):=by
    intro j oj hj hlj e' he' hb';by_cases hij:i=j
    ·subst hij;rw [hoi] at hj;cases hj;exact getD_set_true (hall e' he' hb')
    ·rw [getD_set_ne false hij] at hlj;exact getD_set_true (hcl j oj hj hlj e' he' hb')
   have hm2:∀k,k∈as++bs↔k<ops.size/\(listed.setIfInBounds i true).getD k true=false:=by
    intro k;rw [hmem' k,hmem k];by_cases hik:i=k
    ·subst hik;have:i<listed.size:=by omega
     simp [this]
    ·rw [getD_set_ne true hik];simp [Ne.symm hik]
   obtain ⟨L,m1,m2,m3,m4⟩:=ih (t / (Region.ready .any ops listed).length) (listed.setIfInBounds i true) (as++bs) _ _ (by simp [hsz]) hm2 hpw' (by simp at hl ⊢;omega) hcl' hrest;simp only [];rw [linearise_go_acc,List.reverse_singleton,H5,m1];refine ⟨i::L,rfl,?_,?_,?_⟩
   ·rw [qK hDi];exact ⟨hx,m2⟩
   ·rw [qK hDi];exact fun t=>(k2 t).trans (m3 t)
   ·rw [qK hDi];exact k3.trans m4
theorem I9 (n:Nat) (D:List DD) (hD:D.length=n):(List.range n).filterMap (D[·]?)=D:=by
 subst hD
 induction D with
 | nil=>rfl
 | cons d r ih=>
  rw [tK,List.range_succ_eq_map,qK (f:=fun x=>(d::r)[x]?) (b:=d) (by simp)];rw [List.filterMap_map];have:((fun x=>(d::r)[x]?) ∘ Nat.succ)=fun x=>r[x]? :=by funext x;simp
  rw [this,ih]
theorem KO {ops:Array Oper} {l:List Xv} {pairs:List (Nat×Nat)} {s s':St} (hl:l.length=ops.size) (hd:Eh ops l pairs=true)
  (hf:(pairs.isEmpty || A5 pairs (feet call base l s))=true) (he:aN call base l s=some (.normal,s')) (t:Nat):
  ∃s'',aN call base ((Region.linearise .any ops t).filterMap (l[·]?)) s=some (.normal,s'')/\EqE s'.e s''.e/\s''.h=s'.h:=by
 obtain ⟨D,d1,d2,d3,d4,d5⟩:=Eu he;have hD:D.length=ops.size:=by rw [<- hl,<- d1];simp
 have hall:=Qr.1 hd;have tY:∀i,i<ops.size->∃o y,ops[i]? =some o/\l[i]? =some y/\(∀e,e∈o.after->Region.binds .any e=true->e.on<i)/\
   ∀k,k<i->∃x,l[k]? =some x/\((DL x y=true/\(DK x y=true\/∃p,p∈pairs/\p.1=k/\p.2=i))\/ordB ops ops.size i k=true):=by
  intro i hi;have h1:=hall i (v9.2 hi);split at h1
  ·rename_i o y ho hy;simp only [bE] at h1;refine ⟨o,y,ho,hy,?_,?_⟩
   ·intro e hee hb;have:=Qr.1 h1.1 e (by simpa using hee);simpa [hb] using this
   ·intro k hk;have:=Qr.1 h1.2 k (v9.2 hk);split at this
    ·rename_i x hx;refine ⟨x,hx,?_⟩;simp only [uG,bE,tL,beq_iff_eq] at this;exact this
    ·cases this
  ·cases h1
 have hback:∀(i:Nat) o,ops[i]? =some o->∀e,e∈o.after->Region.binds .any e=true->e.on<i:=by
  intro i o ho;have hi:i<ops.size:=(Array.getElem?_eq_some_iff.1 ho).1;obtain ⟨o',y,h1,_,h3,_⟩:=tY i hi;rw [ho] at h1;cases h1;exact h3
 have hpair:∀k i,k<i->i<ops.size->ordB ops ops.size i k=true\/∀x y,D[k]? =some x->D[i]? =some y->PairOk x y:=by
  intro k i hk hi;obtain ⟨o,y,h1,h2,h3,h4⟩:=tY i hi;obtain ⟨x,hx,h5⟩:=h4 k hk;rcases h5 with ⟨ht,hh⟩ | h5
  ·refine .inr fun dx dy hdx hdy=>?_
   have ex:dx.o=x:=by
    have:l[k]? =some dx.o:=by rw [<- d1,List.getElem?_map,hdx];rfl
    rw [hx] at this;cases this;rfl
   have ey:dy.o=y:=by
    have:l[i]? =some dy.o:=by rw [<- d1,List.getElem?_map,hdy];rfl
    rw [h2] at this;cases this;rfl
   refine ⟨by rw [ex,ey];exact ht,?_⟩;obtain ⟨s1,a1,b1,f1⟩:=d5 dx (Qe hdx);obtain ⟨s2,a2,b2,f2⟩:=d5 dy (Qe hdy);rcases hh with hh | ⟨p,hp,hp1,hp2⟩
   ·unfold DK at hh;simp only [uG,bE,beq_iff_eq] at hh;rcases hh with (hh | hh) | ⟨hh1,hh2⟩
    ·exact Kb (f1.trans (J2 (J0 (by rw [ex];exact hh)) _ _))
    ·exact Iq (f2.trans (J2 (J0 (by rw [ey];exact hh)) _ _))
    ·exact Ir (by rw [f1];exact J3 (J1 (by rw [ex];exact hh1)) _ _) (by rw [f2];exact J3 (J1 (by rw [ey];exact hh2)) _ _)
   ·have hne:pairs.isEmpty=false:=by cases pairs<;>first | (cases hp;done) | rfl
    rw [hne,AP] at hf;have:=Qr.1 hf p hp;rw [hp1,hp2,d4,List.getElem?_map,List.getElem?_map,hdx,hdy] at this;exact this
  ·exact .inl h5
 have hrem:∀k,k∈List.range ops.size↔k<ops.size/\(Array.replicate ops.size false).getD k true=false:=by
  intro k;rw [v9];constructor
  ·intro hk;exact ⟨hk,by simp [hk]⟩
  ·exact fun hk=>hk.1
 have hcl:BD ops (Array.replicate ops.size false):=by
  intro j oj hj hlj;have:j<ops.size:=(Array.getElem?_eq_some_iff.1 hj).1;simp [this] at hlj
 have hseq:Seq call base s.e s.h ((List.range ops.size).filterMap (D[·]?)):=by rw [I9 _ _ hD];exact d2
 obtain ⟨L,m1,m2,m3,m4⟩:=lin hD hback hpair ops.size t _ (List.range ops.size) s.e s.h (by simp) hrem List.pairwise_lt_range (by simp) hcl hseq;rw [I9 _ _ hD] at m3 m4;have hL:Region.linearise .any ops t=L:=m1;refine ⟨⟨finE s.e (L.filterMap (D[·]?)),finH s.h (L.filterMap (D[·]?))⟩,?_,?_,?_⟩
 ·rw [hL,<- Cz m2];congr 1;rw [<- d1,List.map_filterMap];congr 1;funext x;rw [List.getElem?_map]
 ·rw [d3];exact m3
 ·rw [d3];exact m4.symm
end
end Go.Av
namespace Go.Av
section
variable {call:aJ} {base:Option Nat}
theorem lin1 {ops:Array Oper} {z:Nat} {D:List DD} (hz:ops.size=z+1) (hD:D.length=z)
  (hback:∀(i:Nat) o,ops[i]? =some o->∀e,e∈o.after->Region.binds .any e=true->e.on<i)
  (hpair:∀k i,k<i->i<z->ordB ops ops.size i k=true\/∀x y,D[k]? =some x->D[i]? =some y->PairOk x y)
  (hlast:∀k,k<z->ordB ops ops.size z k=true):
  ∀(fuel t:Nat) (listed:Array Bool) (rem:List Nat) (e:Env) (h:AH),listed.size=ops.size->(∀k,k∈rem↔k<z/\listed.getD k true=false)->listed.getD z true=false->rem.Pairwise (· < ·)->rem.length<fuel->
   BD ops listed->Seq call base e h (rem.filterMap (D[·]?))->
   ∃L,Region.linearise.go .any ops fuel t listed []=L++[z]/\Seq call base e h (L.filterMap (D[·]?))/\EqE (finE e (rem.filterMap (D[·]?))) (finE e (L.filterMap (D[·]?)))/\finH h (rem.filterMap (D[·]?))=finH h (L.filterMap (D[·]?))/\∀k,k∈L->k<z:=by
 intro fuel
 induction fuel with
 | zero=>intro t listed rem e h _ _ _ _ hl;omega
 | succ fuel ih=>
  intro t listed rem e h hsz hmem hzun hpw hl hcl hs;simp only [Region.linearise.go]
  change ∃L,(match (Region.ready .any ops listed)[t % (Region.ready .any ops listed).length]? with
   | some i=>Region.linearise.go .any ops fuel (t / (Region.ready .any ops listed).length) (listed.setIfInBounds i true) [i]
   | none=>[].reverse)=L++[z]/\_
  have hzo:ops[z]? =some ops[z]:=by simp [hz]
  cases hi:(Region.ready .any ops listed)[t % (Region.ready .any ops listed).length]? with
  | none=>
   have hnil:Region.ready .any ops listed=[]:=by
    cases hr:Region.ready .any ops listed with
    | nil=>rfl
    | cons x xs=>
     rw [hr] at hi;have hlt:t % (x::xs).length<(x::xs).length:=Nat.mod_lt _ (by simp);simp at hi;simp at hlt;omega
   exfalso;cases hrr:rem with
   | nil=>
    subst hrr;have:z∈Region.ready .any ops listed:=by
     refine mem_ready.2 ⟨hzun,ops[z],hzo,fun e he hb=>?_⟩;have hlt:=hback z _ hzo e he hb;refine Dc hsz (by omega) ?_;intro hf;have:=(hmem e.on).2 ⟨hlt,hf⟩;cases this
    rw [hnil] at this;cases this
   | cons m ms=>
    subst hrr;have hm:=(hmem m).1 (by simp);have ho:ops[m]? =some ops[m]:=by simp [hz]
    have:m∈Region.ready .any ops listed:=by
     refine mem_ready.2 ⟨hm.2,ops[m],ho,fun e he hb=>?_⟩;have hlt:=hback m _ ho e he hb;refine Dc hsz (by omega) ?_;intro hf;have hin:=(hmem e.on).2 ⟨by omega,hf⟩;rcases iW.1 hin with hh | hh
     ·omega
     ·have:=(QD.1 hpw).1 _ hh;omega
    rw [hnil] at this;cases this
  | some i=>
   have hir:i∈Region.ready .any ops listed:=Qe hi;obtain ⟨hun,oi,hoi,hall⟩:=mem_ready.1 hir;have hin:i<ops.size:=(Array.getElem?_eq_some_iff.1 hoi).1;by_cases hiz:i=z
   ·subst hiz;have hrem:rem=[]:=by
     cases hrr:rem with
     | nil=>rfl
     | cons m ms=>
      exfalso;subst hrr;have hm:=(hmem m).1 (by simp);have h1:=HW hcl _ _ _ (hlast m hm.1) (fun o ho' e he hb=>by
       rw [hoi] at ho';cases ho';exact hall e he hb)
      have h2:=hm.2;have:m<listed.size:=by omega
      simp [this] at h1 h2;rw [h1] at h2;cases h2
    subst hrem;refine ⟨[],?_,trivial,fun _=>rfl,rfl,by simp⟩;simp only [];rw [linearise_go_acc,List.reverse_singleton,pA];have hno:Region.ready .any ops (listed.setIfInBounds i true)=[]:=by
     cases hr:Region.ready .any ops (listed.setIfInBounds i true) with
     | nil=>rfl
     | cons x xs=>
      exfalso;have hx:x∈Region.ready .any ops (listed.setIfInBounds i true):=by rw [hr];simp
      obtain ⟨hxu,ox,hox,_⟩:=mem_ready.1 hx;have hxs:x<ops.size:=(Array.getElem?_eq_some_iff.1 hox).1;by_cases hxi:i=x
      ·subst hxi;have:i<listed.size:=by omega
       simp [this] at hxu
      ·rw [getD_set_ne true hxi] at hxu;have:=(hmem x).2 ⟨by omega,hxu⟩;cases this
    cases fuel with
    | zero=>rfl
    | succ fuel=>
     simp only [Region.linearise.go]
     change [i]++(match (Region.ready .any ops (listed.setIfInBounds i true))[_ % (Region.ready .any ops (listed.setIfInBounds i true)).length]? with
      | some j=>_
      | none=>[].reverse)=[i]
     rw [hno];rfl
   ·have hready:i∈rem:=(hmem i).2 ⟨by omega,hun⟩;obtain ⟨as,bs,rfl,has,hpw',hmem'⟩:=Ic hready hpw;have hDi:D[i]? =some D[i]:=by simp [hD]
    have hsplit:(as++i::bs).filterMap (D[·]?)=as.filterMap (D[·]?)++D[i]::bs.filterMap (D[·]?):=by
     rw [DV,qK hDi]
    have hpok:∀y,y∈as.filterMap (D[·]?)->PairOk y D[i]:=by
     intro y hy;obtain ⟨k,hk,hky⟩:=List.mem_filterMap.1 hy;rcases hpair k i (has k hk) (by omega) with ho | ho
     ·have h1:=HW hcl _ _ _ ho (fun o ho' e he hb=>by
       rw [hoi] at ho';cases ho';exact hall e he hb)
      have h2:=((hmem k).1 (by simp [hk])).2;have h3:=((hmem k).1 (by simp [hk])).1;exfalso;have:k<listed.size:=by omega
      simp [this] at h1 h2;rw [h1] at h2;cases h2
     ·exact ho _ _ hky hDi
    rw [hsplit] at hs ⊢;obtain ⟨k1,k2,k3⟩:=Bc hpok hs;obtain ⟨hx,hrest⟩:=k1;rw [<- DV] at hrest k2 k3;have hcl':BD ops (listed.setIfInBounds i true):=by
     intro j oj hj hlj e' he' hb';by_cases hij:i=j
     ·subst hij;rw [hoi] at hj;cases hj;exact getD_set_true (hall e' he' hb')
     ·rw [getD_set_ne false hij] at hlj;exact getD_set_true (hcl j oj hj hlj e' he' hb')
    have hm2:∀k,k∈as++bs↔k<z/\(listed.setIfInBounds i true).getD k true=false:=by
     intro k;rw [hmem' k,hmem k];by_cases hik:i=k
     ·subst hik;have:i<listed.size:=by omega
      simp [this]
     ·rw [getD_set_ne true hik];simp [Ne.symm hik]
    obtain ⟨L,m1,m2,m3,m4,m5⟩:=ih (t / (Region.ready .any ops listed).length) (listed.setIfInBounds i true) (as++bs) _ _ (by simp [hsz]) hm2 (by rw [getD_set_ne true hiz];exact hzun) hpw' (by simp at hl ⊢;omega) hcl' hrest;simp only [];rw [linearise_go_acc,List.reverse_singleton,H5,m1];refine ⟨i::L,rfl,?_,?_,?_,?_⟩
    ·rw [qK hDi];exact ⟨hx,m2⟩
    ·rw [qK hDi];exact fun t=>(k2 t).trans (m3 t)
    ·rw [qK hDi];exact k3.trans m4
    ·intro k hk;rcases iW.1 hk with rfl | hk
     ·omega
     ·exact m5 k hk
theorem Bp:∀(a b:List Xv) (s:St),aN call base (a++b) s=match aN call base a s with
  | some (.normal,s')=>aN call base b s'
  | r=>r
 | [],b,s=>rfl
 | o::a,b,s=>by
  rw [mD,aN,aN];cases iJ s.e o.guard with
  | none=>rfl
  | some g=>cases g with
   | false=>exact Bp a b _
   | true=>
    simp only;cases aB call s.e (bG base o.dst s.h) s.h o.op with
    | none=>rfl
    | some p=>
     obtain ⟨r,h⟩:=p;cases r with
     | val v=>exact Bp a b _
     | pan v=>rfl
theorem MH {o:Xv} {s s2:St} {ex:Ex} {s':St} (he:EqE s.e s2.e) (hh:s2.h=s.h) (h:aN call base [o] s=some (ex,s')):
  ∃s2',aN call base [o] s2=some (ex,s2')/\EqE s'.e s2'.e/\s2'.h=s'.h:=by
 obtain ⟨e,H⟩:=s;obtain ⟨e2,H2⟩:=s2;simp only at he hh;subst hh;simp only [aN] at h ⊢;have hg:iJ e2 o.guard=iJ e o.guard:=by
  unfold iJ;split
  ·rfl
  ·rw [he]
 rw [hg];cases hgo:iJ e o.guard with
 | none=>rw [hgo] at h;cases h
 | some g=>
  rw [hgo] at h;cases g with
  | false=>
   simp only at h ⊢;cases h;exact ⟨_,rfl,he.put _ _,rfl⟩
  | true=>
   simp only at h ⊢;rw [<- Fu (e:=e) (e':=e2) (fun t _=>he t)];cases hc:aB call e (bG base o.dst H2) H2 o.op with
   | none=>rw [hc] at h;cases h
   | some p=>
    obtain ⟨r,h'⟩:=p;rw [hc] at h;cases r with
    | val v=>
     simp only at h ⊢;cases h;exact ⟨_,rfl,he.put _ _,rfl⟩
    | pan v=>
     simp only at h ⊢;cases h;exact ⟨_,rfl,he,rfl⟩
theorem Yv {ops:Array Oper} {l:List Xv} {s s1:St} {ex:Ex} {s':St} (hl:l.length=ops.size) (hd:Eh ops l []=true) (hsp:Du ops=true)
  (he1:aN call none l.dropLast s=some (.normal,s1)) (he2:aN call none (l.drop (l.length - 1)) s1=some (ex,s')) (t:Nat):
  ∃s'',aN call none ((Region.linearise .any ops t).filterMap (l[·]?)) s=some (ex,s'')/\EqE s'.e s''.e/\s''.h=s'.h:=by
 unfold Du at hsp;simp only [bE,decide_eq_true_eq] at hsp;obtain ⟨hpos,hls⟩:=hsp;obtain ⟨z,hz⟩:∃z,ops.size=z+1:=⟨ops.size - 1,by omega⟩;have hlast:∀k,k<z->ordB ops ops.size z k=true:=by
  intro k hk;have:=Qr.1 hls k (v9.2 (by omega))
  rwa [show ops.size - 1=z by omega] at this
 obtain ⟨D,d1,d2,d3,d4,d5⟩:=Eu he1;have hD:D.length=z:=by
  have:=congrArg List.length d1;simp at this;omega
 have hDl:∀k,k<z->(D.map (·.o))[k]? =l[k]? :=by
  intro k hk;rw [d1,List.dropLast_eq_take,List.getElem?_take,a8 (by omega)]
 have hall:=Qr.1 hd;have tY:∀i,i<ops.size->∃o y,ops[i]? =some o/\l[i]? =some y/\(∀e,e∈o.after->Region.binds .any e=true->e.on<i)/\
   ∀k,k<i->∃x,l[k]? =some x/\((DL x y=true/\DK x y=true)\/ordB ops ops.size i k=true):=by
  intro i hi;have h1:=hall i (v9.2 hi);split at h1
  ·rename_i o y ho hy;simp only [bE] at h1;refine ⟨o,y,ho,hy,?_,?_⟩
   ·intro e hee hb;have:=Qr.1 h1.1 e (by simpa using hee);simpa [hb] using this
   ·intro k hk;have:=Qr.1 h1.2 k (v9.2 hk);split at this
    ·rename_i x hx;refine ⟨x,hx,?_⟩;simpa using this
    ·cases this
  ·cases h1
 have hback:∀(i:Nat) o,ops[i]? =some o->∀e,e∈o.after->Region.binds .any e=true->e.on<i:=by
  intro i o ho;have hi:i<ops.size:=(Array.getElem?_eq_some_iff.1 ho).1;obtain ⟨o',y,h1,_,h3,_⟩:=tY i hi;rw [ho] at h1;cases h1;exact h3
 have hpair:∀k i,k<i->i<z->ordB ops ops.size i k=true\/∀x y,D[k]? =some x->D[i]? =some y->PairOk x y:=by
  intro k i hk hi;obtain ⟨o,y,h1,h2,h3,h4⟩:=tY i (by omega);obtain ⟨x,hx,h5⟩:=h4 k hk;rcases h5 with ⟨ht,hh⟩ | h5
  ·refine .inr fun dx dy hdx hdy=>?_
   have ex:dx.o=x:=by
    have:l[k]? =some dx.o:=by rw [<- hDl k (by omega),List.getElem?_map,hdx];rfl
    rw [hx] at this;cases this;rfl
   have ey:dy.o=y:=by
    have:l[i]? =some dy.o:=by rw [<- hDl i hi,List.getElem?_map,hdy];rfl
    rw [h2] at this;cases this;rfl
   refine ⟨by rw [ex,ey];exact ht,?_⟩;obtain ⟨s1,a1,b1,f1⟩:=d5 dx (Qe hdx);obtain ⟨s2,a2,b2,f2⟩:=d5 dy (Qe hdy);unfold DK at hh;simp only [uG,bE,beq_iff_eq] at hh;rcases hh with (hh | hh) | ⟨hh1,hh2⟩
   ·exact Kb (f1.trans (J2 (J0 (by rw [ex];exact hh)) _ _))
   ·exact Iq (f2.trans (J2 (J0 (by rw [ey];exact hh)) _ _))
   ·exact Ir (by rw [f1];exact J3 (J1 (by rw [ex];exact hh1)) _ _) (by rw [f2];exact J3 (J1 (by rw [ey];exact hh2)) _ _)
  ·exact .inl h5
 have hrem:∀k,k∈List.range z↔k<z/\(Array.replicate ops.size false).getD k true=false:=by
  intro k;rw [v9];constructor
  ·intro hk;have:k<ops.size:=by omega
   exact ⟨hk,by simp [this]⟩
  ·exact fun hk=>hk.1
 have hcl:BD ops (Array.replicate ops.size false):=by
  intro j oj hj hlj;have:j<ops.size:=(Array.getElem?_eq_some_iff.1 hj).1;simp [this] at hlj
 have hseq:Seq call none s.e s.h ((List.range z).filterMap (D[·]?)):=by rw [I9 _ _ hD];exact d2
 obtain ⟨L,m1,m2,m3,m4,hlt⟩:=lin1 hz hD hback hpair hlast ops.size t _ (List.range z) s.e s.h (by simp) hrem (by simp [hz]) List.pairwise_lt_range (by simp [hz]) hcl hseq;rw [I9 _ _ hD] at m3 m4;have hL:Region.linearise .any ops t=L++[z]:=m1;obtain ⟨o,y,h1,h2,_⟩:=tY z (by omega);have hdrop:l.drop (l.length - 1)=[y]:=by
  rw [show l.length - 1=z by omega,Qi (by omega),List.drop_eq_nil_of_le (by omega)];obtain ⟨hh,he⟩:=Qm.1 h2;rw [he]
 rw [hdrop] at he2;have hL0:aN call none (L.filterMap (l[·]?)) s=some (.normal,⟨finE s.e (L.filterMap (D[·]?)),finH s.h (L.filterMap (D[·]?))⟩):=by
  rw [<- Cz m2];congr 1;rw [List.map_filterMap];clear m1 m2 m3 m4 hL
  induction L with
  | nil=>rfl
  | cons k L ih=>
   have hk:=hlt k (by simp);have:=hDl k hk;rw [List.getElem?_map] at this;rw [List.filterMap_cons,List.filterMap_cons,<- this,ih (fun j hj=>hlt j (by simp [hj]))]
 have hE:EqE s1.e (finE s.e (L.filterMap (D[·]?))):=by rw [d3];exact m3
 have hH:finH s.h (L.filterMap (D[·]?))=s1.h:=by rw [d3];exact m4.symm
 obtain ⟨s2',r1,r2,r3⟩:=MH (s2:=⟨finE s.e (L.filterMap (D[·]?)),finH s.h (L.filterMap (D[·]?))⟩) hE hH he2;refine ⟨s2',?_,r2,r3⟩;rw [hL,DV,qK h2,List.filterMap_nil,Bp,hL0];exact r1
end
end Go.Av
namespace Go.Av
section
variable {F:Nat->Nat->Prop} {B0:Nat} {w:World} {I:Beta} {H:AH}
theorem Cu {α:Type} (t:Nat):∀(a b:List (Nat×α)),look t (a++b)=match look t a with | some x=>some x | none=>look t b
 | [],b=>by simp [look]
 | (u,x)::a,b=>by
  simp only [mD,look];by_cases h:u=t
  ·simp [h]
  ·simp only [QA h];exact Cu t a b
def resL (n:Nat) (ds:List Nat):List (Nat×AO):=ds.map fun d=>(n+d,.res)
theorem CX (n t:Nat):∀(ds:List Nat),(look t (resL n ds)=none\/look t (resL n ds)=some .res)/\(t<n->look t (resL n ds)=none)/\(n+maxN ds<t->look t (resL n ds)=none)/\∀d,t=n+d->d∉ds->look t (resL n ds)=none
 | []=>⟨.inl rfl,fun _=>rfl,fun _=>rfl,fun _ _ _=>rfl⟩
 | d::ds=>by
  obtain ⟨h1,h2,h3,h4⟩:=CX n t ds;have e:look t (resL n (d::ds))=if n+d=t then some .res else look t (resL n ds):=rfl
  rw [e];refine ⟨?_,?_,?_,?_⟩
  ·split
   ·exact .inr rfl
   ·exact h1
  ·intro h;rw [QA (by omega)];exact h2 h
  ·intro h;simp only [maxN] at h;have:d<=max d (maxN ds):=Nat.le_max_left _ _;have:maxN ds<=max d (maxN ds):=Nat.le_max_right _ _;rw [QA (by omega)];exact h3 (by omega)
  ·intro d' hd hn;rw [QA]
   ·exact h4 d' hd (fun hm=>hn (QB _ hm))
   ·intro hh;have:d=d':=by omega
    subst this;exact hn (by simp)
theorem Ll (n:Nat):∀(ds:List Nat),A6 ds=true->Uniq (resL n ds)
 | [],_=>trivial
 | d::ds,h=>by
  simp only [A6,bE,rJ] at h;refine ⟨?_,Ll n ds h.2⟩;refine (CX n (n+d) ds).2.2.2 d rfl ?_;intro hm;rw [memNat_iff.2 hm] at h;cases h.1
theorem Lm {α:Type}:∀(a b:List (Nat×α)),Uniq a->Uniq b->(∀t,look t a≠none->look t b=none)->Uniq (a++b)
 | [],_,_,hb,_=>hb
 | (u,x)::a,b,ha,hb,h=>by
  refine ⟨?_,Lm a b ha.2 hb ?_⟩
  ·show look u (a++b)=none;rw [Cu,ha.1];exact h u (by simp [look])
  ·intro t ht;refine h t ?_;simp only [look];split
   ·simp
   ·exact ht
def cutB (I:Beta) (n:Nat):Beta:=fun id=>if id<n then I id else none
theorem KL (hr:HR F B0 w I H) {ds:List Nat} (hd:A6 ds=true):Tr w I H w (cutB I H.next) (H.resv ds)/\HR F B0 w (cutB I H.next) (H.resv ds):=by
 have hget:∀id,(H.resv ds).get id=match H.get id with | some x=>some x | none=>look id (resL H.next ds):=by
  intro id;show look id (H.objs++resL H.next ds)=_;rw [Cu];unfold AH.get;cases look id H.objs<;>rfl
 have hlow:∀id,id<H.next->(H.resv ds).get id=H.get id:=by
  intro id hid;rw [hget,(CX H.next id ds).2.1 hid];cases H.get id<;>rfl
 have hhigh:∀id,¬id<H.next->(H.resv ds).get id=none\/(H.resv ds).get id=some .res:=by
  intro id hid;rw [hget,hr.next id (by omega)];exact (CX H.next id ds).1
 have hβ:∀id,id<H.next->cutB I H.next id=I id:=fun id h=>by simp [cutB,h]
 have hb:∀{id b o},cutB I H.next id=some (b,o)->id<H.next:=by
  intro id b o h;unfold cutB at h;split at h
  ·assumption
  ·cases h
 have ht:Tr w I H w (cutB I H.next) (H.resv ds):=by
  refine ⟨.refl _ _,?_,?_,?_,?_,?_⟩
  ·rintro b i ⟨id,ob,o,h1,h2,h3⟩;have hid:=hb h2;rw [hlow id hid] at h1;rw [hβ id hid] at h2;exact .inl ⟨id,ob,o,h1,h2,h3⟩
  ·intro id hid;refine ⟨?_,by rw [hlow id hid.1];exact hid.2⟩;show id<H.next+maxN ds+1;have:=hid.1;omega
  ·intro id z es hid h;rw [hlow id hid.1] at h;exact ⟨⟨es,h,rfl⟩,hβ id hid.1⟩
  ·intro id es hid h;rw [hlow id hid.1] at h;exact ⟨⟨es,h⟩,hβ id hid.1⟩
  ·intro id z f hid h;rw [hlow id hid.1] at h;exact ⟨f,h,Qb _,fun _=>hβ id hid.1⟩
 refine ⟨ht,hr.base,hr.far,?_,?_,?_,?_⟩
 ·refine Lm H.objs (resL H.next ds) hr.uniq (Ll _ _ hd) ?_;intro t htt;refine (CX H.next t ds).2.1 ?_;rcases Qv t H.next with h | h
  ·exact h
  ·exact absurd (hr.next t h) htt
 ·intro id hid;have hid':H.next+maxN ds+1<=id:=hid;rw [hget,hr.next id (by omega)];exact (CX H.next id ds).2.2.1 (by omega)
 ·intro id id' ob ob' b o o' h1 h2 h3 h4;have k1:=hb h3;have k2:=hb h4;rw [hlow id k1] at h1;rw [hlow id' k2] at h2;rw [hβ id k1] at h3;rw [hβ id' k2] at h4;exact hr.inj id id' ob ob' b o o' h1 h2 h3 h4
 ·intro id ob h;by_cases hid:id<H.next
  ·rw [hlow id hid] at h;exact (hr.obj id ob h).tr ht (hβ id hid) (fun _ _ _=>rfl)
  ·rcases hhigh id hid with h' | h'
   ·rw [h'] at h;cases h
   ·rw [h'] at h;cases h;show cutB I H.next id=none;simp [cutB,hid]
theorem HZ {t:Nat}:∀{l:List (Nat×AO)},look t l=none->look t (bW l)=none
 | [],_=>rfl
 | (u,x)::l,h=>by
  simp only [look] at h;split at h
  ·cases h
  ·rename_i hu;cases x with
   | res=>
    show look t (bW l)=none;exact HZ h
   | _=>simp only [bW,look,QA hu];exact HZ h
theorem Bb {t:Nat}:∀{l:List (Nat×AO)},Uniq l->look t (bW l)=match look t l with | some .res=>none | x=>x
 | [],_=>rfl
 | (u,x)::l,hu=>by
  by_cases h:u=t
  ·subst h;cases x with
   | res=>simp only [look,bW,if_true];exact HZ hu.1
   | _=>simp only [look,bW,if_true]
  ·cases x with
   | res=>simp only [look,bW,QA h];exact Bb hu.2
   | _=>simp only [look,bW,QA h];exact Bb hu.2
theorem Ap:∀{l:List (Nat×AO)},Uniq l->Uniq (bW l)
 | [],_=>trivial
 | (u,x)::l,h=>by
  cases x with
  | res=>
   show Uniq (bW l);exact Ap h.2
  | _=>exact ⟨HZ h.1,Ap h.2⟩
theorem Zo (hr:HR F B0 w I H):Tr w I H w I H.sweep/\HR F B0 w I H.sweep:=by
 have hget:∀id,H.sweep.get id=match H.get id with | some .res=>none | x=>x:=fun id=>Bb hr.uniq
 have old:∀{id ob},H.sweep.get id=some ob->H.get id=some ob:=by
  intro id ob h;rw [hget] at h;split at h
  ·cases h
  ·exact h
 have ht:Tr w I H w I H.sweep:=by
  refine ⟨.refl _ _,?_,?_,?_,?_,?_⟩
  ·rintro b i ⟨id,ob,o,h1,h2,h3⟩;exact .inl ⟨id,ob,o,old h1,h2,h3⟩
  ·intro id hid;refine ⟨hid.1,?_⟩;intro h;exact hid.2 (old h)
  ·intro id z es _ h;exact ⟨⟨es,old h,rfl⟩,rfl⟩
  ·intro id es _ h;exact ⟨⟨es,old h⟩,rfl⟩
  ·intro id z f _ h;exact ⟨f,old h,Qb _,fun _=>rfl⟩
 refine ⟨ht,hr.base,hr.far,Ap hr.uniq,?_,?_,?_⟩
 ·intro id hid;rw [hget,hr.next id hid]
 ·intro id1 id2 o1 o2 b k1 k2 h1 h2 h3 h4;exact hr.inj id1 id2 o1 o2 b k1 k2 (old h1) (old h2) h3 h4
 ·intro id ob h;exact (hr.obj id ob (old h)).tr ht rfl (fun _ _ _=>rfl)
theorem Gs (base dst:Option Nat) (H:AH):Free H (bG base dst H):=by
 unfold bG;split
 ·split
  ·rename_i h;exact .inr h
  ·exact .inl rfl
 ·exact .inl rfl
end
end Go.Av
namespace Go.Av
section
variable {F:Nat->Nat->Prop} {B0:Nat} {P:Program} {A:Ann} {fn nt:FuncId} {call:aJ}
def Fine (F:Nat->Nat->Prop) (B0:Nat) (w:World) (I:Beta) (H:AH) (a:Act) (a':Act) (w':World) (s':St):Prop:=
 ∃I',Tr w I H w' I' s'.h/\HR F B0 w' I' s'.h/\EnvR F w' I' s'.h s'.e a'.tmps/\a'.tmps.size=a.tmps.size/\a'.defers=a.defers
def FineP (F:Nat->Nat->Prop) (B0:Nat) (w:World) (I:Beta) (H:AH) (a:Act) (v:AV) (a':Act) (w':World) (u:Value) (s':St):Prop:=
 ∃I',Tr w I H w' I' s'.h/\HR F B0 w' I' s'.h/\VRH F w' I' s'.h v u/\EnvR F w' I' s'.h s'.e a'.tmps/\a'.tmps.size=a.tmps.size/\a'.defers=a.defers
theorem FineP.good {w w':World} {I:Beta} {H:AH} {a a':Act} {v:AV} {u:Value} {s':St} (h:FineP F B0 w I H a v a' w' u s'):Good F B0 w I H v s'.h u w':=
 let ⟨I',k1,k2,k3,_⟩:=h;⟨I',k1,k2,k3⟩
def oY (F:Nat->Nat->Prop) (B0:Nat) (w:World) (I:Beta) (H:AH) (a:Act) (ex:Ex) (s':St) (Q:Exit->Act->World->Prop):Prop:=
 match ex with
 | .normal=>∀a' w',Fine F B0 w I H a a' w' s'->Q .normal a' w'
 | .exit id=>∀a' w',Fine F B0 w I H a a' w' s'->Q (.exit id) a' w'
 | .ret=>∀a' w',Fine F B0 w I H a a' w' s'->Q .ret a' w'
 | .pan v=>∀a' w' u,FineP F B0 w I H a v a' w' u s'->Q (.panic [{ v:=u,recovered:=false }]) a' w'
theorem Fine.step {w w1:World} {I I1:Beta} {H H1:AH} {a a1 a':Act} {w':World} {s':St} (ht:Tr w I H w1 I1 H1) (hs:a1.tmps.size=a.tmps.size) (hd:a1.defers=a.defers)
  (h:Fine F B0 w1 I1 H1 a1 a' w' s'):Fine F B0 w I H a a' w' s':=by
 obtain ⟨I',k1,k2,k3,k4,k5⟩:=h;exact ⟨I',ht.trans k1,k2,k3,k4.trans hs,k5.trans hd⟩
theorem Good.step {w w1:World} {I I1:Beta} {H H1 H':AH} {x:AV} {u:Value} {w':World} (ht:Tr w I H w1 I1 H1) (h:Good F B0 w1 I1 H1 x H' u w'):Good F B0 w I H x H' u w':=by
 obtain ⟨I',k1,k2,k3⟩:=h;exact ⟨I',ht.trans k1,k2,k3⟩
theorem FineP.step {w w1:World} {I I1:Beta} {H H1:AH} {a a1 a':Act} {v:AV} {u:Value} {w':World} {s':St} (ht:Tr w I H w1 I1 H1) (hs:a1.tmps.size=a.tmps.size) (hd:a1.defers=a.defers)
  (h:FineP F B0 w1 I1 H1 a1 v a' w' u s'):FineP F B0 w I H a v a' w' u s':=by
 obtain ⟨I',k1,k2,k3,k4,k5,k6⟩:=h;exact ⟨I',ht.trans k1,k2,k3,k4,k5.trans hs,k6.trans hd⟩
theorem oY.step {w w1:World} {I I1:Beta} {H H1:AH} {a a1:Act} {ex:Ex} {s':St} {Q:Exit->Act->World->Prop} (ht:Tr w I H w1 I1 H1) (hs:a1.tmps.size=a.tmps.size) (hd:a1.defers=a.defers)
  (h:oY F B0 w I H a ex s' Q):oY F B0 w1 I1 H1 a1 ex s' Q:=by
 cases ex with
 | normal=>exact fun a' w' hf=>h a' w' (hf.step ht hs hd)
 | exit id=>exact fun a' w' hf=>h a' w' (hf.step ht hs hd)
 | ret=>exact fun a' w' hf=>h a' w' (hf.step ht hs hd)
 | pan v=>exact fun a' w' u hf=>h a' w' u (hf.step ht hs hd)
theorem rE (a:Act) (d:Option Tmp) (v:Value):(a.put d v).tmps.size=a.tmps.size:=by
 cases d<;>simp [Act.put]
theorem BQ (a:Act) (d:Option Tmp) (v:Value):(a.put d v).defers=a.defers:=by
 cases d<;>simp [Act.put]
theorem BR {w:World} {I:Beta} {H:AH} {e:Env} {a:Act} {d:Option Nat} {x:AV} {v:Value} (he:EnvR F w I H e a.tmps) (hx:VRH F w I H x v) (hd:∀k,d=some k->k<a.tmps.size):
  EnvR F w I H (putE e d x) (a.put d v).tmps:=by
 intro t y hy;rw [FX] at hy;cases d with
 | none=>
  simp at hy;exact he t y hy
 | some d=>
  have hlt:=hd d rfl;by_cases h:d=t
  ·subst h;simp at hy;subst hy;exact ⟨v,by simp [Act.put,hlt],hx⟩
  ·have:¬(some d=some t):=by simpa using h
   rw [QA this] at hy;obtain ⟨u,h1,h2⟩:=he t y hy;exact ⟨u,by simp [Act.put,Array.getElem?_setIfInBounds_ne h,h1],h2⟩
theorem Ar {ops:Array Oper} {o:Oper} {ao:Xv} (h:rG P A fn nt ops o=some ao):cOp P A fn o=some ao.op/\ao.dst=o.dst/\(∀d,o.dst=some d->d<nt)/\
  (match o.guard with | none=>ao.guard=none | some (j,want)=>∃t,(ops[j]?).bind (·.dst)=some t/\ao.guard=some (t,want)):=by
 unfold rG at h;split at h
 ·cases h
 ·rename_i op hop;split at h
  ·rename_i hdst;have hd:∀d,o.dst=some d->d<nt:=by
    intro d hd;rw [hd] at hdst;simpa [JR] using hdst
   split at h
   ·rename_i hg;cases h;refine ⟨hop,rfl,hd,?_⟩;rw [hg]
   ·rename_i j want hg;split at h
    ·rename_i t ht;cases h;refine ⟨hop,rfl,hd,?_⟩;rw [hg];exact ⟨t,ht,rfl⟩
    ·cases h
  ·cases h
theorem Jm {ops:Array Oper} {o:Oper} {ao:Xv} {w:World} {I:Beta} {H:AH} {e:Env} {a:Act} {b:Bool} (h:rG P A fn nt ops o=some ao) (he:EnvR F w I H e a.tmps) (hg:iJ e ao.guard=some b):
  Region.wanted o (yielded ops a.tmps)=b:=by
 obtain ⟨_,_,_,h4⟩:=Ar h;unfold Region.wanted;split at h4
 ·rename_i hgn;rw [h4] at hg;cases hg;rw [hgn]
 ·rename_i j want hgn;obtain ⟨t,h5,h6⟩:=h4;rw [h6] at hg;rw [hgn];simp only [iJ] at hg;split at hg
  ·rename_i c hc;cases hg;obtain ⟨v,k1,k2⟩:=he t _ hc;rw [p7 k2] at k1;simp [yielded,h5,k1]
  ·rename_i hc;cases hg;obtain ⟨v,k1,k2⟩:=he t _ hc;obtain ⟨vs,rfl,_⟩:=JO k2;simp [yielded,h5,k1]
  ·cases hg
theorem BG (hc:CallOk P call) {ops:Array Oper} {l:List Xv} (hl:mapO (rG P A fn nt ops) ops.toList=some l) {Q:Exit->Act->World->Prop} (base:Option Nat):
  ∀(L:List Nat) (s:St) (ex:Ex) (s':St) (a:Act) (w:World) (I:Beta),aN call base (L.filterMap (l[·]?)) s=some (ex,s')->HR F B0 w I s.h->EnvR F w I s.h s.e a.tmps->a.tmps.size=nt->
   oY F B0 w I s.h a ex s' Q->wpOps P ops Q L a w
 | [],s,ex,s',a,w,I,hev,hr,he,hn,hq=>by
  cases hev;exact hq a w ⟨I,.refl _ _ _,hr,he,rfl,rfl⟩
 | i::L,s,ex,s',a,w,I,hev,hr,he,hn,hq=>by
  simp only [wpOps];cases ho:ops[i]? with
  | none=>
   have hi:l[i]? =none:=by
    have h1:ops.size<=i:=by simpa using ho
    have h2:=eS hl;simp at h2;exact Qk (by omega)
   rw [List.filterMap_cons_none hi] at hev;exact BG hc hl base L s ex s' a w I hev hr he hn hq
  | some o=>
   have hi:∃ao,l[i]? =some ao/\rG P A fn nt ops o=some ao:=by
    have h2:=(tT hl).2 i o (by simpa using ho);exact h2
   obtain ⟨ao,hao,hco⟩:=hi;rw [qK hao] at hev;obtain ⟨h1,h2,h3,h4⟩:=Ar hco;simp only;rw [aN] at hev;cases hg:iJ s.e ao.guard with
   | none=>rw [hg] at hev;cases hev
   | some b=>
    rw [hg] at hev;rw [Jm hco he hg];cases b with
    | false=>
     simp only at hev;simp only [iV,if_false];rw [h2] at hev;refine BG hc hl base L _ ex s' (a.put o.dst undef) w I hev hr (BR he (.d (.tup [] #[] rfl (by simp))) (by intro k hk;rw [hn];exact h3 k hk)) (by rw [rE];exact hn) ?_;exact hq.step (.refl _ _ _) (rE _ _ _) (BQ _ _ _)
    | true=>
     simp only at hev;simp only [if_true];left;cases hcall:aB call s.e (bG base ao.dst s.h) s.h ao.op with
     | none=>rw [hcall] at hev;cases hev
     | some p=>
      obtain ⟨r,H1⟩:=p;rw [hcall] at hev;refine Gz hc hr he (Gs _ _ _) h1 hcall ⟨?_,?_⟩
      ·intro x v w' hx hgood;subst hx;simp only at hev;rw [h2] at hev;obtain ⟨I',t1,t2,t3⟩:=hgood;refine BG hc hl base L _ ex s' (a.put o.dst v) w' I' hev t2 (BR (t1.env he) t3 (by intro k hk;rw [hn];exact h3 k hk)) (by rw [rE];exact hn) ?_;exact hq.step t1 (rE _ _ _) (BQ _ _ _)
      ·intro x u w' hx hgood;subst hx;simp only at hev;cases hev;obtain ⟨I',t1,t2,t3⟩:=hgood;exact hq a w' u ⟨I',t1,t2,t3,t1.env he,rfl,rfl⟩
end
end Go.Av
namespace Go.Av
section
variable {F:Nat->Nat->Prop} {B0:Nat} {P:Program} {A:Ann} {fn nt:FuncId} {call:aJ}
theorem TS {w:World} {I:Beta} {s:St} {T:Array Value} (t:Nat) (hr:HR F B0 w I s.h) (he:EnvR F w I s.h s.e T):
  Tr w I s.h w I (frzP t s).h/\HR F B0 w I (frzP t s).h/\EnvR F w I (frzP t s).h (frzP t s).e T:=by
 unfold frzP;split
 ·rename_i id z i off hl;split
  ·rename_i y hy;have ht:=DB hr id;refine ⟨ht,sW hr id,?_⟩;intro u x hx;simp only [look] at hx;split at hx
   ·rename_i hu;subst hu;cases hx;obtain ⟨v,h1,h2⟩:=he _ _ hl;exact ⟨v,h1,.d (MN hr hy h2)⟩
   ·exact ht.env he u x hx
  ·exact ⟨.refl _ _ _,hr,he⟩
 ·rename_i id z off len hl;split
  ·rename_i y hy;have ht:=DB hr id;refine ⟨ht,sW hr id,?_⟩;intro u x hx;simp only [look] at hx;split at hx
   ·rename_i hu;subst hu;cases hx;obtain ⟨v,h1,h2⟩:=he _ _ hl;exact ⟨v,h1,.d (Ix hr hy h2)⟩
   ·exact ht.env he u x hx
  ·exact ⟨.refl _ _ _,hr,he⟩
 ·exact ⟨.refl _ _ _,hr,he⟩
theorem Ko {w:World} {I:Beta} {T:Array Value}:∀(ts:List Nat) {s:St},HR F B0 w I s.h->EnvR F w I s.h s.e T->
  Tr w I s.h w I (C6 ts s).h/\HR F B0 w I (C6 ts s).h/\EnvR F w I (C6 ts s).h (C6 ts s).e T
 | [],s,hr,he=>⟨.refl _ _ _,hr,he⟩
 | t::ts,s,hr,he=>by
  obtain ⟨h1,h2,h3⟩:=TS t hr he;obtain ⟨k1,k2,k3⟩:=Ko ts h2 h3;exact ⟨h1.trans k1,k2,k3⟩
theorem Fw (l:List Xv):(List.range l.length).filterMap (l[·]?)=l:=by
 induction l with
 | nil=>rfl
 | cons d r ih=>
  rw [tK,List.range_succ_eq_map,qK (f:=fun x=>(d::r)[x]?) (b:=d) (by simp)];rw [List.filterMap_map];have:((fun x=>(d::r)[x]?) ∘ Nat.succ)=fun x=>r[x]? :=by funext x;simp
  rw [this,ih]
theorem Wv (hc:CallOk P call) (hm:P.follows .mixedOrders=true) {n id:Nat} {ops:Array Oper} {draw:Bool} {ac:Xu} (h:IY P A fn nt id ops draw=some ac) {Q:Exit->Act->World->Prop}
    {s:St} {ex:Ex} {s':St} {a:Act} {w:World} {I:Beta} (hev:evC call n ac s=some (ex,s')) (hr:HR F B0 w I s.h) (he:EnvR F w I s.h s.e a.tmps) (hn:a.tmps.size=nt)
    (hq:oY F B0 w I s.h a ex s' Q):(Code.region id ops draw).wp P Q a w:=by
  unfold IY at h;split at h
  · cases h
  · rename_i l hl
    have hlen:l.length=ops.size:=by have:=eS hl;simpa using this.symm
    have keepQ:∀{s1:St} {w1:World} {I1:Beta} {a1:Act} {ks:Option (List Nat)},oY F B0 w1 I1 s.h a1 .normal (kept ks s1) Q->oY F B0 w1 I1 s.h a1 .normal s1 Q:=by
      intro s1 w1 I1 a1 ks hq1;cases ks with
      | none=>exact hq1
      | some ks=>
        intro a' w' hf;obtain ⟨I',k1,k2,k3,k4,k5⟩:=hf;obtain ⟨j1,j2,j3⟩:=Ko ks k2 k3;exact hq1 a' w' ⟨I',k1.trans j1,j2,j3,k4,k5⟩
    cases draw with
    | false=>
      simp only [iV,if_false] at h;cases h;simp only [evC,HI,if_true] at hev;refine wp_region ?_;have hf:(List.range ops.size).filterMap (l[·]?)=l:=by rw [<- hlen];exact Fw l
      split at hev
      · rename_i s1 hs1
        cases hev;exact BG hc hl none _ s .normal s1 a w I (by rw [hf];exact hs1) hr he hn (keepQ hq)
      · simp only [iV,if_false] at hev
        exact BG hc hl none _ s ex s' a w I (by rw [hf];exact hev) hr he hn hq
    | true=>
      simp only [if_true] at h;split at h
      · rename_i hd
        split at h
        · -- the last operation may panic
          rename_i hsp;simp only [bE] at hsp;obtain ⟨⟨_,hemp⟩,hsp⟩:=hsp;have hp:CU ops l=[]:=List.isEmpty_iff.1 hemp;rw [hp] at hd;cases h;simp only [evC,HI,if_true,kept] at hev;have hgo:∃s1 ex2 s2,aN call none l.dropLast s=some (.normal,s1)/\aN call none (l.drop (l.length - 1)) s1=some (ex2,s2)/\oY F B0 w I s.h a ex2 s2 Q:=by
            cases h1:aN call none l.dropLast s with
            | none=>rw [h1] at hev;cases hev
            | some q=>
              obtain ⟨ex1,s1⟩:=q;rw [h1] at hev;cases ex1 with
              | normal=>
                simp only [iV,if_false] at hev;cases h2:aN call none (l.drop (l.length - 1)) s1 with
                | none=>rw [h2] at hev;cases hev
                | some q2=>
                  obtain ⟨ex2,s2⟩:=q2;rw [h2] at hev;refine ⟨s1,ex2,s2,rfl,h2,?_⟩;cases ex2 with
                  | normal=>cases hev;exact keepQ hq
                  | exit i=>cases hev;exact hq
                  | ret=>cases hev;exact hq
                  | pan v=>cases hev;exact hq
              | _=>cases hev
          obtain ⟨s1,ex2,s2,h1,h2,hq2⟩:=hgo;refine wp_region_draw fun t=>?_
          simp only [Region.schedule,hm,CJ,if_true];obtain ⟨s3,q1,q2,q3⟩:=Yv hlen hd hsp h1 h2 t;refine BG hc hl none _ s ex2 s3 a w.drew I q1 hr.drew (tr_drew.env he) hn ?_;have hq3:=oY.step (a1:=a) tr_drew rfl rfl hq2;cases ex2 with
          | normal=>
            intro a' w' hf;obtain ⟨I',k1,k2,k3,k4,k5⟩:=hf;rw [q3] at k1 k2 k3;exact hq3 a' w' ⟨I',k1,k2,fun t y hy=>k3 t y (by rw [<- q2 t];exact hy),k4,k5⟩
          | exit i=>
            intro a' w' hf;obtain ⟨I',k1,k2,k3,k4,k5⟩:=hf;rw [q3] at k1 k2 k3;exact hq3 a' w' ⟨I',k1,k2,fun t y hy=>k3 t y (by rw [<- q2 t];exact hy),k4,k5⟩
          | ret=>
            intro a' w' hf;obtain ⟨I',k1,k2,k3,k4,k5⟩:=hf;rw [q3] at k1 k2 k3;exact hq3 a' w' ⟨I',k1,k2,fun t y hy=>k3 t y (by rw [<- q2 t];exact hy),k4,k5⟩
          | pan v=>
            intro a' w' u hf;obtain ⟨I',k1,k2,k3,k4,k5,k6⟩:=hf;rw [q3] at k1 k2 k3 k4;exact hq3 a' w' u ⟨I',k1,k2,k3,fun t y hy=>k4 t y (by rw [<- q2 t];exact hy),k5,k6⟩
        cases h;simp only [evC] at hev;have any:∀(base:Option Nat) (s0 s1:St) (I0:Beta),((CU ops l).isEmpty || A5 (CU ops l) (feet call base l s0))=true->aN call base l s0=some (.normal,s1)->
            HR F B0 w I0 s0.h->EnvR F w I0 s0.h s0.e a.tmps->oY F B0 w I0 s0.h a .normal s1 Q->(Code.region id ops true).wp P Q a w:=by
          intro base s0 s1 I0 hfeet hs1 hr0 he0 hq0;refine wp_region_draw fun t=>?_
          simp only [Region.schedule,hm,CJ,if_true];obtain ⟨s2,q1,q2,q3⟩:=KO hlen hd hfeet hs1 t;refine BG hc hl base _ s0 .normal s2 a w.drew I0 q1 hr0.drew (tr_drew.env he0) hn ?_;have hq2:=oY.step (a1:=a) tr_drew rfl rfl hq0;intro a' w' hf;obtain ⟨I',k1,k2,k3,k4,k5⟩:=hf;rw [q3] at k1 k2 k3;exact hq2 a' w' ⟨I',k1,k2,fun t y hy=>k3 t y (by rw [<- q2 t];exact hy),k4,k5⟩
        split at hev
        · rename_i hemp
          split at hev
          · rename_i s1 hs1
            cases hev;exact any none s s1 I (by rw [hemp];rfl) hs1 hr he (keepQ hq)
          · cases hev
        · split at hev
          · rename_i hcond
            simp only [bE] at hcond;split at hev
            · rename_i s1 hs1
              cases hev;obtain ⟨t0,h0⟩:=KL hr hcond.1;have hq1:=oY.step (a1:=a) t0 rfl rfl (keepQ hq);refine any _ ⟨s.e,s.h.resv (oO l)⟩ s1 _ (by rw [hcond.2,Bool.or_true]) hs1 h0 (t0.env he) ?_;intro a' w' hf;obtain ⟨I',k1,k2,k3,k4,k5⟩:=hf;obtain ⟨t2,h2⟩:=Zo k2;exact hq1 a' w' ⟨I',k1.trans t2,h2,t2.env k3,k4,k5⟩
            · cases hev
          · cases hev
      · cases h
theorem lR (hc:CallOk P call) (hm:P.follows .mixedOrders=true) (n:Nat):∀(c:Code) (ac:Xu),iF P A fn nt c=some ac->∀(Q:Exit->Act->World->Prop) (s:St) (ex:Ex) (s':St) (a:Act) (w:World) (I:Beta),
  evC call n ac s=some (ex,s')->HR F B0 w I s.h->EnvR F w I s.h s.e a.tmps->a.tmps.size=nt->oY F B0 w I s.h a ex s' Q->c.wp P Q a w
 | .skip,ac,h,Q,s,ex,s',a,w,I,hev,hr,he,hn,hq=>by
  cases h;cases hev;exact wp_skip (hq a w ⟨I,.refl _ _ _,hr,he,rfl,rfl⟩)
 | .region id ops draw,ac,h,Q,s,ex,s',a,w,I,hev,hr,he,hn,hq=>Wv hc hm h hev hr he hn hq
 | .seq x y,ac,h,Q,s,ex,s',a,w,I,hev,hr,he,hn,hq=>by
  simp only [iF] at h;split at h
  ·rename_i ax ay hx hy;cases h;simp only [evC] at hev;refine wp_seq ?_;split at hev
   ·rename_i s1 hs1;refine lR hc hm n x ax hx _ s .normal s1 a w I hs1 hr he hn ?_;intro a' w' hf;obtain ⟨I',k1,k2,k3,k4,k5⟩:=hf;exact lR hc hm n y ay hy Q s1 ex s' a' w' I' hev k2 k3 (k4.trans hn) (hq.step k1 k4 k5)
   ·rename_i hne;refine lR hc hm n x ax hx _ s ex s' a w I hev hr he hn ?_;cases ex with
    | normal=>exact absurd hev (hne s')
    | exit i=>exact hq
    | ret=>exact hq
    | pan v=>exact hq
  ·cases h
 | .cond c x y,ac,h,Q,s,ex,s',a,w,I,hev,hr,he,hn,hq=>by
  simp only [iF] at h;split at h
  ·rename_i cx ax ay hcx hx hy;cases h;simp only [evC] at hev;split at hev
   ·rename_i hcv;exact wp_cond_true (p7 (aM hcx he hcv)) (lR hc hm n x ax hx Q s ex s' a w I hev hr he hn hq)
   ·rename_i hcv;exact wp_cond_false (p7 (aM hcx he hcv)) (lR hc hm n y ay hy Q s ex s' a w I hev hr he hn hq)
   ·cases hev
  ·cases h
 | .block id b,ac,h,Q,s,ex,s',a,w,I,hev,hr,he,hn,hq=>by
  simp only [iF] at h;obtain ⟨ab,hb,rfl⟩:=map_some h;simp only [evC] at hev;refine wp_block ?_;split at hev
  ·rename_i i s1 hs1;split at hev
   ·rename_i hi;cases hev;refine lR hc hm n b ab hb _ s (.exit i) s' a w I hs1 hr he hn ?_;intro a' w' hf;simp only [Exit.inBlock,a8 hi];exact hq a' w' hf
   ·rename_i hi;cases hev;refine lR hc hm n b ab hb _ s (.exit i) s' a w I hs1 hr he hn ?_;intro a' w' hf;simp only [Exit.inBlock,QA hi];exact hq a' w' hf
  ·rename_i hne;refine lR hc hm n b ab hb _ s ex s' a w I hev hr he hn ?_;cases ex with
   | exit i=>exact absurd hev (hne i s')
   | normal=>exact hq
   | ret=>exact hq
   | pan v=>exact hq
 | .loop b,ac,h,Q,s,ex,s',a,w,I,hev,hr,he,hn,hq=>by
  simp only [iF] at h;obtain ⟨ab,hb,rfl⟩:=map_some h;simp only [evC] at hev;have key:∀(k:Nat) (s:St) (a:Act) (w:World) (I:Beta),u5 (evC call n ab) k s=some (ex,s')->HR F B0 w I s.h->EnvR F w I s.h s.e a.tmps->a.tmps.size=nt->oY F B0 w I s.h a ex s' Q->
    Code.rounds P b Q k a w:=by
   intro k
   induction k with
   | zero=>intro s a w I hev;cases hev
   | succ k ih=>
    intro s a w I hev hr he hn hq;simp only [u5] at hev;rw [rounds_succ];split at hev
    ·rename_i s1 hs1;refine lR hc hm n b ab hb _ s .normal s1 a w I hs1 hr he hn ?_;intro a' w' hf;obtain ⟨I',k1,k2,k3,k4,k5⟩:=hf;exact ih s1 a' w' I' hev k2 k3 (k4.trans hn) (hq.step k1 k4 k5)
    ·rename_i hne;refine lR hc hm n b ab hb _ s ex s' a w I hev hr he hn ?_;cases ex with
     | normal=>exact absurd hev (hne s')
     | exit i=>exact hq
     | ret=>exact hq
     | pan v=>exact hq
  exact wp_loop_rounds n (key n s a w I hev hr he hn hq)
 | .exit id,ac,h,Q,s,ex,s',a,w,I,hev,hr,he,hn,hq=>by
  cases h;cases hev;exact wp_exit (hq a w ⟨I,.refl _ _ _,hr,he,rfl,rfl⟩)
 | .ret,ac,h,Q,s,ex,s',a,w,I,hev,hr,he,hn,hq=>by
  cases h;cases hev;exact wp_ret (hq a w ⟨I,.refl _ _ _,hr,he,rfl,rfl⟩)
 | .rangeFunc ..,_,h,_,_,_,_,_,_,_,_,_,_,_,_=>by cases h
 | .scope b,ac,h,Q,s,ex,s',a,w,I,hev,hr,he,hn,hq=>by
  simp only [iF] at h;refine wp_scope_straight (lR hc hm n b ac h _ s ex s' a w I hev hr he hn ?_);cases ex with
  | normal=>exact hq
  | exit i=>exact hq
  | ret=>exact hq
  | pan v=>exact hq
 | .label _,ac,h,Q,s,ex,s',a,w,I,hev,hr,he,hn,hq=>by
  cases h;cases hev;exact wp_label (hq a w ⟨I,.refl _ _ _,hr,he,rfl,rfl⟩)
 | .goto _,_,h,_,_,_,_,_,_,_,_,_,_,_,_=>by cases h
 | .refuse _,_,h,_,_,_,_,_,_,_,_,_,_,_,_=>by cases h
end
end Go.Av
namespace Go.Av
section
variable {F:Nat->Nat->Prop} {B0:Nat} {P:Program} {A:Ann} {fn nt:FuncId} {call:aJ}
theorem I6:∀{as:List AV} {n t:Nat} {y:AV},look t (iE n as)=some y->n<=t/\as[t - n]? =some y
 | [],_,_,_,h=>by cases h
 | a::as,n,t,y,h=>by
  simp only [iE,look] at h;split at h
  ·rename_i hnt;subst hnt;cases h;exact ⟨Qb _,by simp⟩
  ·obtain ⟨h1,h2⟩:=I6 h;refine ⟨by omega,?_⟩;have:t - n=(t - (n+1))+1:=by omega
   rw [this,List.getElem?_cons_succ];exact h2
def Nw (P:Program) (ops:Array Oper) (Q:Exit->Act->World->Prop) (L2:List Nat):Exit->Act->World->Prop
 | .normal,a,w=>wpOps P ops Q L2 a w
 | e,a,w=>Q e a w
theorem FW (hc:CallOk P call) {ops:Array Oper} {l:List Xv} {Q:Exit->Act->World->Prop} (base:Option Nat) (L2:List Nat):
  ∀(L:List Nat) (hl:∀i∈L,∃o ao,ops[i]? =some o/\l[i]? =some ao/\rG P A fn nt ops o=some ao) (s:St) (ex:Ex) (s':St) (a:Act) (w:World) (I:Beta),aN call base (L.filterMap (l[·]?)) s=some (ex,s')->HR F B0 w I s.h->EnvR F w I s.h s.e a.tmps->a.tmps.size=nt->
   oY F B0 w I s.h a ex s' (Nw P ops Q L2)->wpOps P ops Q (L++L2) a w
 | [],_,s,ex,s',a,w,I,hev,hr,he,hn,hq=>by
  cases hev;exact hq a w ⟨I,.refl _ _ _,hr,he,rfl,rfl⟩
 | i::L,hl,s,ex,s',a,w,I,hev,hr,he,hn,hq=>by
  rw [mD];simp only [wpOps];obtain ⟨o,ao,ho,hao,hco⟩:=hl i HA;have hl':∀i∈L,∃o ao,ops[i]? =some o/\l[i]? =some ao/\rG P A fn nt ops o=some ao:=fun j hj=>hl j (QB _ hj)
  rw [ho];rw [qK hao] at hev;obtain ⟨h1,h2,h3,h4⟩:=Ar hco;simp only;rw [aN] at hev;cases hg:iJ s.e ao.guard with
  | none=>rw [hg] at hev;cases hev
  | some b=>
   rw [hg] at hev;rw [Jm hco he hg];cases b with
   | false=>
    simp only at hev;simp only [iV,if_false];rw [h2] at hev;refine FW hc base L2 L hl' _ ex s' (a.put o.dst undef) w I hev hr (BR he (.d (.tup [] #[] rfl (by simp))) (by intro k hk;rw [hn];exact h3 k hk)) (by rw [rE];exact hn) ?_;exact hq.step (.refl _ _ _) (rE _ _ _) (BQ _ _ _)
   | true=>
    simp only at hev;simp only [if_true];left;cases hcall:aB call s.e (bG base ao.dst s.h) s.h ao.op with
    | none=>rw [hcall] at hev;cases hev
    | some p=>
     obtain ⟨r,H1⟩:=p;rw [hcall] at hev;refine Gz hc hr he (Gs _ _ _) h1 hcall ⟨?_,?_⟩
     ·intro x v w' hx hgood;subst hx;simp only at hev;rw [h2] at hev;obtain ⟨I',t1,t2,t3⟩:=hgood;refine FW hc base L2 L hl' _ ex s' (a.put o.dst v) w' I' hev t2 (BR (t1.env he) t3 (by intro k hk;rw [hn];exact h3 k hk)) (by rw [rE];exact hn) ?_;exact hq.step t1 (rE _ _ _) (BQ _ _ _)
     ·intro x u w' hx hgood;subst hx;simp only at hev;cases hev;obtain ⟨I',t1,t2,t3⟩:=hgood;exact hq a w' u ⟨I',t1,t2,t3,t1.env he,rfl,rfl⟩
theorem Zj {nt:Nat} {ops:List Oper} {draw:Bool} {ab:Nat×Nat} (h:El nt ops draw=some ab):∃o1 o2 a b,ops=[o1,o2]/\JZ o1=some a/\K3 o2=some (b,a)/\draw=false/\a<nt/\b<nt/\ab=(a,b):=by
 unfold El at h;split at h
 ·rename_i o1 o2;split at h
  ·rename_i a b a' h1 h2;split at h
   ·rename_i hc;obtain ⟨rfl,rfl,k1,k2⟩:=hc;cases h;exact ⟨o1,o2,_,_,rfl,h1,h2,rfl,k1,k2,rfl⟩
   ·cases h
  ·cases h
 ·cases h
theorem KI {o:Oper} {a:Nat} (h:JZ o=some a):o.dst=some a/\o.guard=none/\∀(U:Operand->Value) (w:World),(execOp U o).run P w= .ok .recover w:=by
 unfold JZ at h;split at h
 ·rename_i c hop;split at h
  ·rename_i hcal;split at h
   ·rename_i hcond;refine ⟨h,hcond.2,fun U w=>?_⟩;have:c.args= #[]:=GZ hcond.1;simp [execOp,hop,resolve,hcal,this,invoke,builtin,go_sem]
   ·cases h
  ·cases h
 ·cases h
theorem aj {o:Oper} {b a:Nat} (h:K3 o=some (b,a)):o.dst=some b/\o.guard=none/\∀(U:Operand->Value) (w:World),(execOp U o).run P w= .ok (.value (U (.tmp a))) w:=by
 unfold K3 at h;split at h
 ·rename_i a' hop;split at h
  ·rename_i hcond;rw [Qs] at h;obtain ⟨b',h1,h2⟩:=h;cases h2;refine ⟨h1,hcond,fun U w=>?_⟩;simp [execOp,hop]
  ·cases h
 ·cases h
theorem LF (hc:CallOk P call) (hm:P.follows .mixedOrders=true) {n:Nat} {d:ADFn} {gd:Func} {gc:Code} (hg:P.funcs[d.clo]? =some gd) (hgb:gd.body=some gc)
    (hk:cClo P A d.clo gd.ntmps gc=some (d.rcv,d.cbody)) (hcap:gd.nfree=d.ncaps) (hle:gd.nfree<=gd.ntmps) (hres:gd.results.size=0)
    {caps:List AV} {vs:Array Value} {w:World} {I:Beta} {H H':AH} (hr:HR F B0 w I H) (ha:ArgsR F w I H caps vs) (hlen:caps.length=d.ncaps)
    {u:FrameMode} {x:AV} (hev:t9 call n d x caps H=some H')
    (hu:(u= .returning/\x= .niliface)\/(d.rcv.isSome=true/\∃v,u= .panicking [{ v,recovered:=false }]/\VRH F w I H x v)):
    CallsD P d.clo vs u w fun e u' w'=>∃v,e= .returned v/\settle u'= .returning/\∃I',Tr w I H w' I' H'/\HR F B0 w' I' H':=by
  have hvs:vs.size=gd.nfree:=by rw [<- ha.1,hlen,hcap]
  have hn:(vs++Array.replicate (gd.ntmps - vs.size) undef).size=gd.ntmps:=by simp;omega
  have he:EnvR F w I H (iE 0 caps) (vs++Array.replicate (gd.ntmps - vs.size) undef):=by
    intro t y hy;obtain ⟨_,h1⟩:=I6 hy;simp at h1;have hlt:t<caps.length:=(Qm.1 h1).1;have hlt':t<vs.size:=by rw [<- ha.1];exact hlt
    refine ⟨vs[t],by simp [Array.getElem?_append,hlt'],ha.2 t y _ h1 (by simp [hlt'])⟩
  have hrs:∀tmps,∀w,(results gd tmps).run P w= .ok (.tuple #[]) w:=by
    intro tmps w;have:gd.results= #[]:=GZ hres;simp [results,this]
  have fin:∀{ex:Ex} {s:St},evC call n d.cbody ⟨recE d.rcv x (iE 0 caps),H⟩=some (ex,s)->(ex= .normal\/ex= .ret)/\s.h=H':=by
    intro ex s h;unfold t9 at hev;rw [h] at hev;cases ex with
    | normal=>simp at hev;exact ⟨.inl rfl,hev⟩
    | ret=>simp at hev;exact ⟨.inr rfl,hev⟩
    | exit i=>cases hev
    | pan v=>cases hev
  obtain ⟨ex,s,hex⟩:∃ex s,evC call n d.cbody ⟨recE d.rcv x (iE 0 caps),H⟩=some (ex,s):=by
    unfold t9 at hev;split at hev
    · rename_i s h;exact ⟨_,s,h⟩
    · rename_i s h;exact ⟨_,s,h⟩
    · cases hev
  obtain ⟨hends,hsh⟩:=fin hex;unfold cClo at hk;have plain:∀ac,iF P A d.clo gd.ntmps gc=some ac->d.rcv=none->d.cbody=ac->CallsD P d.clo vs u w fun e u' w'=>∃v,e= .returned v/\settle u'= .returning/\∃I',Tr w I H w' I' H'/\HR F B0 w' I' H':=by
    intro ac hac hrcv hcb;have hu':u= .returning:=by
      rcases hu with ⟨h,_⟩ | ⟨h,_⟩
      · exact h
      · rw [hrcv] at h;cases h
    subst hu';refine (callsD_of_wp (R:=fun e w'=>∃v,e= .returned v/\∃I',Tr w I H w' I' H'/\HR F B0 w' I' H') hg hgb ?_).mono ?_
    · rw [hcb,hrcv] at hex
      refine lR hc hm n gc ac hac _ _ ex s _ w I hex hr he hn ?_;have done:∀a' w',Fine F B0 w I H { tmps:=vs++Array.replicate (gd.ntmps - vs.size) undef,defers:=[] } a' w' s->a'.defers=[]/\∃v,(results gd a'.tmps).run P w'= .ok v w'/\∃v',Ending.returned v= .returned v'/\∃I',Tr w I H w' I' H'/\HR F B0 w' I' H':=by
        rintro a' w' ⟨I',k1,k2,k3,k4,k5⟩;rw [hsh] at k1 k2;exact ⟨k5,_,hrs _ _,_,rfl,I',k1,k2⟩
      rcases hends with rfl | rfl
      · exact done
      · exact done
    · rintro e u' w' ⟨rfl,v,rfl,hh⟩
      exact ⟨v,rfl,rfl,hh⟩
  split at hk
  · rename_i id ops draw y
    split at hk
    · rename_i ab hrr
      obtain ⟨o1,o2,a,b,hops,ho1,ho2,rfl,hlt1,hlt2,rfl⟩:=Zj hrr;obtain ⟨ac,hac,heq⟩:=map_some hk;simp only [Prod.mk.injEq] at heq;obtain ⟨hrcv,hcb⟩:=heq;rw [<- hcb,<- hrcv] at hex;simp only [recE] at hex;obtain ⟨v,u',hrec,hset,hxv⟩:∃v u',(∀(c₀:Frame) (cs:List Frame),c₀.mode=u->(match recoverD (c₀::cs) with | some (v',cs')=>v'=v/\cs'={ c₀ with mode:=u' }::cs | none=>v= .nilIface/\u'=u))/\settle u'= .returning/\VRH F w I H x v:=by
        rcases hu with ⟨rfl,rfl⟩ | ⟨_,v,rfl,hx⟩
        · refine ⟨.nilIface,.returning,?_,rfl,.d .niliface⟩
          intro c₀ cs h;simp [recoverD,h]
        · refine ⟨v,.panicking [{ v,recovered:=true }],?_,by simp [settle],hx⟩
          intro c₀ cs h;simp [recoverD,h]
      have hops':ops= #[o1,o2]:=by
        apply Array.toList_inj.1;simpa using hops
      subst hops';have hwant:∀(o:Oper),o.guard=none->∀tmps,Region.wanted o tmps=true:=by
        intro o h tmps;simp [Region.wanted,h]
      obtain ⟨hd1,hg1,hx1⟩:=KI (P:=P) ho1;obtain ⟨hd2,hg2,hx2⟩:=aj (P:=P) ho2;refine callsD_of_wpS (R:=fun e u' w'=>∃v,e= .returned v/\settle u'= .returning/\∃I',Tr w I H w' I' H'/\HR F B0 w' I' H') hg hgb fun c₀ cs hmode=>?_
      have hr0:=hrec c₀ cs hmode;generalize hRR:(fun e u' w'=>∃v,e=Ending.returned v/\settle u'= .returning/\∃I',Tr w I H w' I' H'/\HR F B0 w' I' H')=RR;have hRR':∀v u' w',settle u'= .returning->(∃I',Tr w I H w' I' H'/\HR F B0 w' I' H')->RR (.returned v) u' w':=by
        rw [<- hRR];intro v u' w' h1 h2;exact ⟨v,rfl,h1,h2⟩
      apply wpS_seq;apply wpS_region;have hrange:List.range (#[o1,o2]:Array Oper).size=[0,1]:=rfl;rw [hrange];have key:∀(cs':List Frame),cs'={ c₀ with mode:=u' }::cs->∀a1:Act,a1=Act.put { tmps:=vs++Array.replicate (gd.ntmps - vs.size) undef,defers:=[] } (some a) v->
          wpOpsS P #[o1,o2] (Exit.thenS (y.wpS P (bodyPostS P gd c₀ cs RR)) (bodyPostS P gd c₀ cs RR)) [1] a1 cs' w:=by
        intro cs' hcs' a1 ha1;have hva:a1.eval (.tmp a)=v:=by
          rw [ha1];have:a<(vs++Array.replicate (gd.ntmps - vs.size) undef).size:=by rw [hn];exact hlt1
          simp [Act.eval,Act.put,uC,this];intro hh;simp at this;omega
        have h1:(#[o1,o2]:Array Oper)[1]? =some o2:=rfl;simp only [wpOpsS,h1,hwant o2 hg2,if_true,hx2,Oper.upon];rw [hd2];simp only [Exit.thenS];rw [hva,hcs'];refine wpS_of_wp ?_;have he1:EnvR F w I H ((b,x)::(a,x)::iE 0 caps) (a1.put (some b) v).tmps:=by
          rw [ha1];refine BR (d:=some b) (BR (d:=some a) he hxv ?_) hxv ?_
          · intro k hk;cases hk;rw [hn];exact hlt1
          · intro k hk;cases hk;rw [rE];simp only;rw [hn];exact hlt2
        have hn1:(a1.put (some b) v).tmps.size=gd.ntmps:=by rw [rE,ha1,rE];exact hn
        have hd0:(a1.put (some b) v).defers=[]:=by rw [BQ,ha1,BQ]
        refine lR hc hm n y ac hac _ _ ex s _ w I hex hr he1 hn1 ?_;have done:∀a' w',Fine F B0 w I H (a1.put (some b) v) a' w' s->a'.defers=[]/\∃u'',{ c₀ with mode:=u' }::cs={ c₀ with mode:=u'' }::cs/\∃v',(results gd a'.tmps).run P w'= .ok v' w'/\RR (.returned v') u'' w':=by
          rintro a' w' ⟨I',k1,k2,k3,k4,k5⟩;rw [hsh] at k1 k2;exact ⟨k5.trans hd0,u',rfl,_,hrs _ _,hRR' _ _ _ hset ⟨I',k1,k2⟩⟩
        rcases hends with rfl | rfl
        · exact done
        · exact done
      have h0:(#[o1,o2]:Array Oper)[0]? =some o1:=rfl;rw [wpOpsS];simp only [h0,hwant o1 hg1,if_true,hx1];rw [hd1];cases hq:recoverD (c₀::cs) with
      | none=>
        rw [hq] at hr0;obtain ⟨rfl,rfl⟩:=hr0;exact key _ (by rw [<- hmode]) _ rfl
      | some p=>
        obtain ⟨v',cs'⟩:=p;rw [hq] at hr0;obtain ⟨rfl,rfl⟩:=hr0;exact key _ rfl _ rfl
    · obtain ⟨ac,hac,heq⟩:=map_some hk
      simp only [Prod.mk.injEq] at heq;exact plain ac hac heq.1.symm heq.2.symm
  · obtain ⟨ac,hac,heq⟩:=map_some hk
    simp only [Prod.mk.injEq] at heq;exact plain ac hac heq.1.symm heq.2.symm
theorem KN {o:Oper} {t:Nat} (h:K5 o=some t):o.dst=none/\o.guard=none/\∀(U:Operand->Value) (w:World) (g:FuncId) (cs:Array Value),U (.tmp t)= .func (.func g) #[] cs->
  (execOp U o).run P w= .ok (.defer { target:= .fn (.func g) cs,args:= #[] }) w:=by
 unfold K5 at h;split at h
 ·rename_i c hop;split at h
  ·rename_i t' hcal;split at h
   ·rename_i hcond;cases h;refine ⟨hcond.2.1,hcond.2.2,fun U w g cs hρ=>?_⟩;have:c.args= #[]:=GZ hcond.1;simp [execOp,hop,resolve,hcal,this,hρ,Deferred.ofValue,go_sem]
   ·cases h
  ·cases h
 ·cases h
def K0 (F:Nat->Nat->Prop) (B0:Nat) (nt:Nat) (w:World) (I:Beta) (H:AH) (s':St) (tmps:Array Value) (w':World):Prop:=
 ∃I',Tr w I H w' I' s'.h/\HR F B0 w' I' s'.h/\EnvR F w' I' s'.h s'.e tmps/\tmps.size=nt
theorem Gb (hc:CallOk P call) (hm:P.follows .mixedOrders=true) {n:Nat} {d:ADFn} {fd gd:Func} {gc:Code} (hg:P.funcs[d.clo]? =some gd) (hgb:gd.body=some gc)
  (hk:cClo P A d.clo gd.ntmps gc=some (d.rcv,d.cbody)) (hcap:gd.nfree=d.ncaps) (hle:gd.nfree<=gd.ntmps) (hres:gd.results.size=0) (hbd:tU P d.clo) {R:Ending->World->Prop}:
  ∀(c:Code) (dc:DCode),A4 P A fn nt c=some dc->∀(s:St) (ex:Ex) (s':St) (a:Act) (w:World) (I:Beta),
  evD call n d dc s=some (ex,s')->HR F B0 w I s.h->EnvR F w I s.h s.e a.tmps->a.tmps.size=nt->a.defers=[]->(∀i,ex≠ .exit i)->
  (ex= .normal\/ex= .ret->∀tmps w',K0 F B0 nt w I s.h s' tmps w'->∃v,(results fd tmps).run P w'= .ok v w'/\R (.returned v) w')->
  (∀v,ex= .pan v->∀w' u,Good F B0 w I s.h v s'.h u w'->R (.panicked [{ v:=u,recovered:=false }]) w')->
  c.wp P (bodyPostD P fd R) a w:=by
 have front:∀(x y:Code) (ax:Xu) (k:DCode),iF P A fn nt x=some ax->(∀(s:St) (ex:Ex) (s':St) (a:Act) (w:World) (I:Beta),
   evD call n d k s=some (ex,s')->HR F B0 w I s.h->EnvR F w I s.h s.e a.tmps->a.tmps.size=nt->a.defers=[]->(∀i,ex≠ .exit i)->
   (ex= .normal\/ex= .ret->∀tmps w',K0 F B0 nt w I s.h s' tmps w'->∃v,(results fd tmps).run P w'= .ok v w'/\R (.returned v) w')->
   (∀v,ex= .pan v->∀w' u,Good F B0 w I s.h v s'.h u w'->R (.panicked [{ v:=u,recovered:=false }]) w')->
   y.wp P (bodyPostD P fd R) a w)->∀(s:St) (ex:Ex) (s':St) (a:Act) (w:World) (I:Beta),
   evD call n d (.seq ax k) s=some (ex,s')->HR F B0 w I s.h->EnvR F w I s.h s.e a.tmps->a.tmps.size=nt->a.defers=[]->(∀i,ex≠ .exit i)->
   (ex= .normal\/ex= .ret->∀tmps w',K0 F B0 nt w I s.h s' tmps w'->∃v,(results fd tmps).run P w'= .ok v w'/\R (.returned v) w')->
   (∀v,ex= .pan v->∀w' u,Good F B0 w I s.h v s'.h u w'->R (.panicked [{ v:=u,recovered:=false }]) w')->
   (Code.seq x y).wp P (bodyPostD P fd R) a w:=by
  intro x y ax k hx ih s ex s' a w I hev hr he hn hd hex hret hpan;simp only [evD] at hev;refine wp_seq ?_;split at hev
  ·rename_i s1 hs1;refine lR hc hm n x ax hx _ s .normal s1 a w I hs1 hr he hn ?_;rintro a' w' ⟨I',k1,k2,k3,k4,k5⟩;refine ih s1 ex s' a' w' I' hev k2 k3 (k4.trans hn) (k5.trans hd) hex ?_ ?_
   ·rintro h tmps w2 ⟨I2,m1,m2⟩;exact hret h tmps w2 ⟨I2,k1.trans m1,m2⟩
   ·intro v h w2 u hgood;exact hpan v h w2 u (hgood.step k1)
  ·rename_i hne;refine lR hc hm n x ax hx _ s ex s' a w I hev hr he hn ?_;cases ex with
   | normal=>exact absurd hev (hne s')
   | exit i=>exact absurd rfl (hex i)
   | ret=>
    rintro a' w' ⟨I',k1,k2,k3,k4,k5⟩;show Leaves P fd a'.tmps R a'.defers .returning w';rw [k5,hd];obtain ⟨v,h1,h2⟩:=hret (.inr rfl) a'.tmps w' ⟨I',k1,k2,k3,k4.trans hn⟩;exact ⟨v,h1,h2⟩
   | pan v=>
    intro a' w' u hf;obtain ⟨_,_,_,_,_,_,hdd⟩:=(show _ from hf:FineP _ _ _ _ _ _ _ _ _ _ _);show Leaves P fd a'.tmps R a'.defers (.panicking _) w';rw [hdd,hd];exact hpan v rfl w' u hf.good
 intro c
 induction c with
 | seq x y ihx ihy=>
  intro dc hdc;have other:∀ax k,iF P A fn nt x=some ax->A4 P A fn nt y=some k->dc= .seq ax k->∀(s:St) (ex:Ex) (s':St) (a:Act) (w:World) (I:Beta),
    evD call n d dc s=some (ex,s')->HR F B0 w I s.h->EnvR F w I s.h s.e a.tmps->a.tmps.size=nt->a.defers=[]->(∀i,ex≠ .exit i)->
    (ex= .normal\/ex= .ret->∀tmps w',K0 F B0 nt w I s.h s' tmps w'->∃v,(results fd tmps).run P w'= .ok v w'/\R (.returned v) w')->
    (∀v,ex= .pan v->∀w' u,Good F B0 w I s.h v s'.h u w'->R (.panicked [{ v:=u,recovered:=false }]) w')->
    (Code.seq x y).wp P (bodyPostD P fd R) a w:=by
   intro ax k hx hy hh;subst hh;exact front x y ax k hx (ihy k hy)
  cases x with
  | region id ops draw=>
   simp only [A4] at hdc;cases hops:Fc P A fn nt ops with
   | none=>
    rw [hops] at hdc;simp only at hdc;split at hdc
    ·rename_i ax k hx hy;cases hdc;exact other ax k hx hy rfl
    ·cases hdc
   | some lt=>
    obtain ⟨l,t⟩:=lt;rw [hops] at hdc;simp only at hdc;cases draw with
    | true=>cases hdc
    | false=>
     simp only [iV,if_false] at hdc;obtain ⟨ay,hy,rfl⟩:=map_some hdc;intro s ex s' a w I hev hr he hn hd hex hret hpan;unfold Fc at hops;cases hlast:ops.toList.getLast?.bind K5 with
     | none=>rw [hlast] at hops;cases hops
     | some t'=>
      rw [hlast] at hops;simp only at hops;obtain ⟨l',hl',heq⟩:=map_some hops;simp only [Prod.mk.injEq] at heq;obtain ⟨rfl,rfl⟩:=heq;rw [Qt] at hlast;obtain ⟨o,ho,hdo⟩:=hlast;obtain ⟨hdst,hgd,hrun⟩:=KN (P:=P) hdo;have hsplit:ops.toList=ops.toList.dropLast++[o]:=by
       have hne:ops.toList≠[]:=by intro h;rw [h] at ho;cases ho
       rw [List.getLast?_eq_some_getLast hne] at ho;cases ho;exact (List.dropLast_concat_getLast hne).symm
      have hlenl:l'.length=ops.toList.dropLast.length:=(eS hl').symm;have hsz:ops.size=l'.length+1:=by
       have:=congrArg List.length hsplit;simp at this hlenl;omega
      have hoat:ops[l'.length]? =some o:=by
       have:ops.toList[l'.length]? =some o:=by rw [hsplit,hlenl];simp
       simpa using this
      refine wp_seq (wp_region ?_);rw [hsz,List.range_succ];simp only [evD] at hev;have hfr:(List.range l'.length).filterMap (l'[·]?)=l':=Fw l';have hall:∀i∈List.range l'.length,∃o ao,ops[i]? =some o/\l'[i]? =some ao/\rG P A fn nt ops o=some ao:=by
       intro i hi;rw [v9] at hi;have hi2:i<ops.toList.dropLast.length:=by omega
       obtain ⟨o',ho'⟩:∃o',ops.toList.dropLast[i]? =some o':=⟨_,Qa hi2⟩;obtain ⟨ao,h1,h2⟩:=(tT hl').2 i o' ho';refine ⟨o',ao,?_,h1,h2⟩;have:ops.toList[i]? =some o':=by
        rw [hsplit,Ql hi2];exact ho'
       simpa using this
      split at hev
      ·rename_i s1 hs1;refine FW hc none [l'.length] (List.range l'.length) hall s .normal s1 a w I (by rw [hfr];exact hs1) hr he hn ?_;rintro a1 w1 ⟨I1,k1,k2,k3,k4,k5⟩;simp only [Nw];cases hcl:(look t' s1.e).bind tgt with
       | none=>rw [hcl] at hev;cases hev
       | some p=>
        obtain ⟨f,caps⟩:=p;rw [hcl] at hev;simp only at hev;split at hev
        ·rename_i hcond;obtain ⟨rfl,hcl2⟩:=hcond;rw [Qt] at hcl;obtain ⟨fv,hfv,htg⟩:=hcl;obtain ⟨vv,hvv,hvr⟩:=k3 _ _ hfv;have:=RT htg;subst this;obtain ⟨va,vb,rfl,p1,p2,p3,p4⟩:=DC hvr;have hva:va= #[]:=by apply GZ;simpa using p1.symm
         subst hva;have heval:a1.eval (.tmp t')= .func (.func d.clo) #[] vb:=by
          show a1.tmps.getD t' undef=_;rw [uC,hvv];rfl
         have hargs:ArgsR F w1 I1 s1.h caps vb:=⟨p2,p4⟩;have hw0:Region.wanted o (yielded ops a1.tmps)=true:=by simp [Region.wanted,hgd]
         simp only [wpOps,hoat,hw0,if_true];left;simp only [Oper.wp,hrun a1.eval w1 d.clo vb heval,Oper.upon,hdst];show y.wp P (bodyPostD P fd R) { tmps:=a1.tmps,defers:={ target:= .fn (.func d.clo) vb,args:= #[] }::a1.defers } w1;rw [k5,hd];have hinv:∀w,(invoke (.fn (.func d.clo) vb) #[]).run P w= .ok (.enter d.clo vb) w:=by
          intro w;obtain ⟨fn',q1,q2,q3⟩:=hbd;simp only [invoke,Array.empty_append];have q2':fn'.body.isNone=false:=q2
          have q3' : ¬ (fn'.name = "runtime.NumGoroutine") := by simpa using q3
          have q4:fn'.body≠none:=by intro hh;rw [hh] at q2';cases q2'
          simp [callFunc,q1,q4,q3']
         have atEnd:∀(x:AV) (u:FrameMode) (s2:St) (a2:Act) (w2:World) (I2:Beta) (h3:AH),Tr w1 I1 s1.h w2 I2 s2.h->HR F B0 w2 I2 s2.h->EnvR F w2 I2 s2.h s2.e a2.tmps->a2.tmps.size=nt->
           a2.defers=[{ target:= .fn (.func d.clo) vb,args:= #[] }]->t9 call n d x caps s2.h=some h3->u≠ .run->
           ((u= .returning/\x= .niliface)\/(d.rcv.isSome=true/\∃v,u= .panicking [{ v,recovered:=false }]/\VRH F w2 I2 s2.h x v))->some (Ex.ret,(⟨s2.e,h3⟩:St))=some (ex,s')->
           Leaves P fd a2.tmps R a2.defers u w2:=by
          intro x u s2 a2 w2 I2 h3 m1 m2 m3 m4 m5 m6 m7 m8 m9;cases m9;rw [m5];refine leaves_cons m7 (hinv w2) ?_;refine (LF hc hm hg hgb hk hcap hle hres m2 ⟨hargs.1,fun i x v hx hv=>m1.vr (hargs.2 i x v hx hv)⟩ hcl2 m6 m8).mono ?_;rintro e u' w' ⟨v,rfl,hs',I3,q1,q2⟩;show Leaves P fd a2.tmps R [] (settle u') w';rw [hs'];exact hret (.inr rfl) a2.tmps w' ⟨I3,(k1.trans m1).trans q1,q2,q1.env m3,m4⟩
         unfold GM at hev;split at hev
         ·rename_i s2 hs2;rw [Qs] at hev;obtain ⟨h3,e1,e2⟩:=hev;refine lR hc hm n y ay hy _ s1 .normal s2 _ w1 I1 hs2 k2 k3 (k4.trans hn) ?_;rintro a2 w2 ⟨I2,m1,m2,m3,m4,m5⟩;exact atEnd _ _ s2 a2 w2 I2 h3 m1 m2 m3 (m4.trans (k4.trans hn)) m5 e1 (by simp) (.inl ⟨rfl,rfl⟩) (congrArg some e2)
         ·rename_i s2 hs2;rw [Qs] at hev;obtain ⟨h3,e1,e2⟩:=hev;refine lR hc hm n y ay hy _ s1 .ret s2 _ w1 I1 hs2 k2 k3 (k4.trans hn) ?_;rintro a2 w2 ⟨I2,m1,m2,m3,m4,m5⟩;exact atEnd _ _ s2 a2 w2 I2 h3 m1 m2 m3 (m4.trans (k4.trans hn)) m5 e1 (by simp) (.inl ⟨rfl,rfl⟩) (congrArg some e2)
         ·rename_i v s2 hs2;split at hev
          ·rename_i hrc;rw [Qs] at hev;obtain ⟨h3,e1,e2⟩:=hev;refine lR hc hm n y ay hy _ s1 (.pan v) s2 _ w1 I1 hs2 k2 k3 (k4.trans hn) ?_;rintro a2 w2 u ⟨I2,m1,m2,m2',m3,m4,m5⟩;exact atEnd _ (.panicking _) s2 a2 w2 I2 h3 m1 m2 m3 (m4.trans (k4.trans hn)) m5 e1 (by simp) (.inr ⟨hrc,u,rfl,m2'⟩) (congrArg some e2)
          ·cases hev
         ·cases hev
        ·cases hev
      ·rename_i hne;refine FW hc none [l'.length] (List.range l'.length) hall s ex s' a w I (by rw [hfr];exact hev) hr he hn ?_;cases ex with
       | normal=>exact absurd hev (hne s')
       | exit i=>exact absurd rfl (hex i)
       | ret=>
        rintro a' w' ⟨I',k1,k2,k3,k4,k5⟩;show Leaves P fd a'.tmps R a'.defers .returning w';rw [k5,hd];obtain ⟨v,h1,h2⟩:=hret (.inr rfl) a'.tmps w' ⟨I',k1,k2,k3,k4.trans hn⟩;exact ⟨v,h1,h2⟩
       | pan v=>
        intro a' w' u hf;obtain ⟨_,_,_,_,_,_,hdd⟩:=(show _ from hf:FineP _ _ _ _ _ _ _ _ _ _ _);show Leaves P fd a'.tmps R a'.defers (.panicking _) w';rw [hdd,hd];exact hpan v rfl w' u hf.good
  | skip | seq _ _ | cond _ _ _ | block _ _ | loop _ | exit _ | ret | rangeFunc _ _ _ _ | scope _ | label _ | goto _ | refuse _=>
   simp only [A4] at hdc;split at hdc
   ·rename_i ax k hx hy;cases hdc;exact other ax k hx hy rfl
   ·cases hdc
 | _=>intro dc hdc;simp [A4] at hdc
end
end Go.Av
namespace Go.Av
section
variable {F:Nat->Nat->Prop} {B0:Nat} {P:Program} {A:Ann}
def GJ (tmps:Array Value):ResultVar->Sem Value
 | .tmp t=>pure (tmps.getD t undef)
 | .cell a t=>do loadVar t (<- asAddr (tmps.getD a undef))
theorem UW {w:World} {I:Beta} {s:St} {tmps:Array Value} {rv:ResultVar} {ar:ARes} {y:AV} (h:cRes P rv=some ar) (hr:HR F B0 w I s.h) (he:EnvR F w I s.h s.e tmps) (hy:uA s ar=some y):
  ∃v,(GJ tmps rv).run P w= .ok v w/\VRH F w I s.h y v:=by
 cases rv with
 | tmp t=>
  cases h;obtain ⟨v,h1,h2⟩:=he t y hy;exact ⟨v,by simp [GJ,uC,h1],h2⟩
 | cell a t=>
  simp only [cRes] at h;split at h
  ·rename_i g n hg hn;cases h;simp only [uA] at hy;split at hy
   ·rename_i id esz i off hx;obtain ⟨v0,h1,h2⟩:=he a _ hx;have hev:evOp s.e 0 s.h (.load g n (.t a))=some (y,s.h):=by
     simp only [evOp,evX,hx];split at hy
     ·rename_i esz' es hget;split at hy
      ·rename_i hz;split at hy
       ·rename_i cs hcs;simp only [hcs,hy,uF,a8 hz]
       ·cases hy
      ·cases hy
     ·cases hy
    obtain ⟨v,k1,k2,_⟩:=Nm (P:=P) (ax:= .t a) hr hg hn hx h2 hev;obtain ⟨_,⟨b,k,rfl⟩,_⟩:=u9 h2;refine ⟨v,?_,k2⟩;have:tmps.getD a undef= .pointer (some ⟨b,k,none⟩):=by simp [uC,h1]
    simp only [GJ,this];simpa [Instr.loadAt,Instr.sureAddr,asAddr] using k1
   ·cases hy
  ·cases h
theorem Kh {w:World} {I:Beta} {s:St} {tmps:Array Value} (hr:HR F B0 w I s.h) (he:EnvR F w I s.h s.e tmps):
  ∀{rvs:List ResultVar} {ars:List ARes} {ys:List AV},mapO (cRes P) rvs=some ars->mapO (uA s) ars=some ys->
   ∃vs:List Value,(rvs.mapM (GJ tmps)).run P w= .ok vs w/\vs.length=ys.length/\∀(i:Nat) y v,ys[i]? =some y->vs[i]? =some v->VRH F w I s.h y v
 | [],ars,ys,h1,h2=>by
  cases h1;cases h2;exact ⟨[],rfl,rfl,by simp⟩
 | rv::rvs,ars,ys,h1,h2=>by
  simp only [mapO] at h1;split at h1
  ·cases h1
  ·rename_i ar hr1;split at h1
   ·cases h1
   ·rename_i ars' hr2;cases h1;simp only [mapO] at h2;split at h2
    ·cases h2
    ·rename_i y hy;split at h2
     ·cases h2
     ·rename_i ys' hys;cases h2;obtain ⟨v,k1,k2⟩:=UW hr1 hr he hy;obtain ⟨vs,m1,m2,m3⟩:=Kh hr he hr2 hys;refine ⟨v::vs,?_,by simp [m2],?_⟩
      ·rw [List.mapM_cons];simp [k1,m1]
      ·intro i a b ha hb;cases i with
       | zero=>simp at ha hb;subst ha;subst hb;exact k2
       | succ i=>simp at ha hb;exact m3 i a b ha hb
theorem KK (fn:Func) (tmps:Array Value):results fn tmps=(do
  let vs <- fn.results.toList.mapM (GJ tmps)
  pure (if h:vs.toArray.size=1 then vs.toArray[0] else .tuple vs.toArray)):=by
 unfold results;rw [Array.mapM_eq_mapM_toList];rw [bind_map_left];congr 1
def JX:List AV->AV
 | [v]=>v
 | vs=> .tup vs
theorem Bg {w:World} {I:Beta} {s:St} {tmps:Array Value} {fn:Func} {ars:List ARes} {ys:List AV} (hr:HR F B0 w I s.h) (he:EnvR F w I s.h s.e tmps)
  (h1:mapO (cRes P) fn.results.toList=some ars) (h2:mapO (uA s) ars=some ys):∃v,(results fn tmps).run P w= .ok v w/\VRH F w I s.h (JX ys) v:=by
 obtain ⟨vs,k1,k2,k3⟩:=Kh hr he h1 h2;refine ⟨if h:vs.toArray.size=1 then vs.toArray[0] else .tuple vs.toArray,?_,?_⟩
 ·rw [KK];simp [k1]
 ·match ys,vs,k2 with
  | [y],[v],_=>simpa [JX] using k3 0 y v rfl rfl
  | [],[],_=>exact .d (.tup [] #[] rfl (by simp))
  | y::y'::ys,v::v'::vs,hl=>
   have:¬((v::v'::vs).toArray.size=1):=by simp
   rw [dif_neg this];refine .tup _ _ (by simpa using hl.symm) ?_;intro i a b ha hb;exact k3 i a b ha (by simpa using hb)
structure TableOk (P:Program) (A:Ann) (Φ:FuncId->Option AFun):Prop where
 mixed:P.follows .mixedOrders=true
 body:∀f af,Φ f=some af->tU P f
 code:∀f fn,Φ f=some (.code fn)->cFn P A f=some fn
 dfr:∀f d,Φ f=some (.dfr d)->cDFn P A f d.clo=some d/\tU P d.clo
 rule:∀f g,Φ f=some (.rule g)->∀call,CallOk P call->∀as H r H',evR call (g as H)=some (r,H')->∀F B0 w I (vs:Array Value),HR F B0 w I H->ArgsR F w I H as vs->Calls P f vs w (qD F B0 w I H r H')
theorem Hg {o:Option (Ex×St)} {rs:List ARes} {r:Rt} {H':AH} (h:AC o rs=some (r,H')):
  (∃v s,o=some (.pan v,s)/\r= .pan v/\H'=s.h)\/(∃ex s ys,o=some (ex,s)/\(ex= .normal\/ex= .ret)/\mapO (uA s) rs=some ys/\r= .val (JX ys)/\H'=s.h):=by
 unfold AC at h;split at h
 ·cases h;exact .inl ⟨_,_,rfl,rfl,rfl⟩
 ·cases h
 ·rename_i ex s hne hne';right;have hex:ex= .normal\/ex= .ret:=by
   cases ex with
   | normal=>exact .inl rfl
   | ret=>exact .inr rfl
   | exit i=>exact absurd rfl (hne' i)
   | pan v=>exact absurd rfl (hne v)
  split at h
  ·cases h
  ·rename_i v hv;cases h;exact ⟨ex,s,[v],rfl,hex,hv,rfl,rfl⟩
  ·rename_i vs hvs hv;cases h;refine ⟨ex,s,vs,rfl,hex,hv,?_,rfl⟩;congr 1
   match vs,hvs with
   | [],_=>rfl
   | [v],hh=>exact absurd rfl (hh v)
   | _::_::_,_=>rfl
 ·cases h
theorem Iv {Φ:FuncId->Option AFun} (T:TableOk P A Φ):∀n,CallOk P (evF Φ n)
 | 0=>⟨fun _ _ _ _ _ h=>(by cases h),fun _ _ _ _ _ h=>(by cases h)⟩
 | n+1=>by
  have ih:=Iv T n;refine ⟨?_,?_⟩
  ·intro f as H r H' h;simp only [evF] at h;split at h
   ·cases h
   ·rename_i g hg;exact T.body _ _ hg
   ·rename_i g hg;exact T.body _ _ hg
   ·rename_i g hg;exact T.body _ _ hg
  ·intro f as H r H' h F B0 w I vs hr ha;simp only [evF] at h;split at h
   ·cases h
   ·rename_i g hg;exact T.rule f g hg _ ih as H r H' h F B0 w I vs hr ha
   ·rename_i d hg;split at h
    ·rename_i hlen;obtain ⟨hc,hbd⟩:=T.dfr f d hg;unfold cDFn at hc;split at hc
     ·rename_i fd gd hfd hgd;split at hc
      ·rename_i c k hbody hkb;split at hc
       ·rename_i b rcv cb rs hb hk hrs;split at hc
        ·rename_i hsz;obtain ⟨s1,s2,s3,s4⟩:=hsz;have hdd:d=⟨fd.params.size+fd.nfree,rs,b,d.clo,gd.nfree,rcv,cb⟩:=by simpa using hc.symm
         have e1:d.nparams=fd.params.size+fd.nfree:=by rw [hdd]
         have e2:d.results=rs:=by rw [hdd]
         have e3:d.code=b:=by rw [hdd]
         have e4:gd.nfree=d.ncaps:=by rw [hdd]
         have e5:d.rcv=rcv:=by rw [hdd]
         have e6:d.cbody=cb:=by rw [hdd]
         rw [e1] at hlen;rw [e2,e3] at h;rw [<- e5,<- e6] at hk;refine calls_of_wp_defers hfd hbody ?_;have hvs:vs.size=fd.params.size+fd.nfree:=by rw [<- ha.1];exact hlen
         have hn:(vs++Array.replicate (fd.ntmps - vs.size) undef).size=fd.ntmps:=by simp;omega
         have he:EnvR F w I H (iE 0 as) (vs++Array.replicate (fd.ntmps - vs.size) undef):=by
          intro t y hy;obtain ⟨_,h1⟩:=I6 hy;simp at h1;have hlt:t<as.length:=(Qm.1 h1).1;have hlt':t<vs.size:=by rw [<- ha.1];exact hlt
          refine ⟨vs[t],by simp [Array.getElem?_append,hlt'],ha.2 t y _ h1 (by simp [hlt'])⟩
         rcases Hg h with ⟨v,s,h1,rfl,rfl⟩ | ⟨ex,s,ys,h1,hex,h2,rfl,rfl⟩
         ·refine Gb ih T.mixed (fd:=fd) hgd hkb hk e4 s3 s4 hbd c b hb ⟨iE 0 as,H⟩ _ s _ w I h1 hr he hn rfl (by simp) (by simp) ?_;intro v' hv' w' u hgood;cases hv';exact ⟨v,u,rfl,rfl,hgood⟩
         ·refine Gb ih T.mixed (fd:=fd) hgd hkb hk e4 s3 s4 hbd c b hb ⟨iE 0 as,H⟩ ex s _ w I h1 hr he hn rfl ?_ ?_ ?_
          ·rcases hex with rfl | rfl<;>simp
          ·rintro _ tmps w' ⟨I',k1,k2,k3,k4⟩;obtain ⟨v,m1,m2⟩:=Bg k2 k3 hrs h2;exact ⟨v,m1,_,rfl,I',k1,k2,m2⟩
          ·intro v hv;rcases hex with rfl | rfl<;>cases hv
        ·cases hc
       ·cases hc
      ·cases hc
     ·cases hc
    ·cases h
   ·rename_i fn hg;split at h
    ·rename_i hlen;have hc:=T.code f fn hg;unfold cFn at hc;split at hc
     ·cases hc
     ·rename_i fd hfd;split at hc
      ·cases hc
      ·rename_i c hbody;split at hc
       ·rename_i b rs hb hrs;split at hc
        ·rename_i hsz;cases hc;simp only at h hlen;refine calls_of_wp hfd hbody ?_;have hvs:vs.size=fd.params.size+fd.nfree:=by rw [<- ha.1];exact hlen
         have hn:(vs++Array.replicate (fd.ntmps - vs.size) undef).size=fd.ntmps:=by simp;omega
         have he:EnvR F w I H (iE 0 as) (vs++Array.replicate (fd.ntmps - vs.size) undef):=by
          intro t y hy;obtain ⟨_,h1⟩:=I6 hy;simp at h1;have hlt:t<as.length:=(Qm.1 h1).1;have hlt':t<vs.size:=by rw [<- ha.1];exact hlt
          refine ⟨vs[t],by simp [Array.getElem?_append,hlt'],ha.2 t y _ h1 (by simp [hlt'])⟩
         rcases Hg h with ⟨v,s,h1,rfl,rfl⟩ | ⟨ex,s,ys,h1,hex,h2,rfl,rfl⟩
         ·refine lR ih T.mixed n c b hb _ ⟨iE 0 as,H⟩ _ s _ w I h1 hr he hn ?_;intro a' w' u hf;obtain ⟨_,_,_,_,_,_,hd⟩:=id hf;exact ⟨hd,v,u,rfl,rfl,hf.good⟩
         ·refine lR ih T.mixed n c b hb _ ⟨iE 0 as,H⟩ ex s _ w I h1 hr he hn ?_;have fin:∀(a':Act) (w':World),Fine F B0 w I H { tmps:=vs++Array.replicate (fd.ntmps - vs.size) undef,defers:=[] } a' w' s->
            a'.defers=[]/\∃v,(results fd a'.tmps).run P w'= .ok v w'/\qD F B0 w I H (.val (JX ys)) s.h (.returned v) w':=by
           intro a' w' hf;obtain ⟨I',k1,k2,k3,k4,k5⟩:=hf;obtain ⟨v,m1,m2⟩:=Bg k2 k3 hrs h2;exact ⟨k5,v,m1,_,rfl,I',k1,k2,m2⟩
          rcases hex with rfl | rfl
          ·intro a' w' hf;exact fin a' w' hf
          ·intro a' w' hf;exact fin a' w' hf
        ·cases hc
       ·cases hc
    ·cases h
end
end Go.Av
