/-
  An abstract interpreter over the model, proved sound: part C.
-/
import Derived.Test.YtbhkkpfccfoioaaGreatAvB
import Derived.LoopNIn
import Derived.RangeFuncRecord
import Derived.LoopN
import Derived.Scope
import Derived.Recover
import Derived.Tactics
set_option linter.unusedVariables false
set_option linter.unusedSimpArgs false
set_option linter.constructorNameAsVariable false
namespace Go.Av
variable {nx:Nat}
def jR (F:Nat->Nat->Prop) (B0:Nat) (w:World) (Z:Beta) (H:AH) (r:Rt) (H':AH):Ending->World->Prop
 | .returned v,w'=>∃x,r= .val x/\Good F B0 w Z H x H' v w'
 | .panicked c,w'=>∃x u,r= .pan x/\c=[{ v:=u,recovered:=false }]/\Good F B0 w Z H x H' u w'
 | .outgrown,_=>False
def w7 (P : Program) (f : FuncId) : Prop := ∃ fn, P.funcs[f]? = some fn ∧ fn.body.isNone = false ∧ (fn.name == "runtime.NumGoroutine") = false
def ArgsR (F:Nat->Nat->Prop) (w:World) (Z:Beta) (H:AH) (as:List AV) (vs:Array Value):Prop:=
 as.length=vs.size/\∀(i:Nat) x v,as[i]? =some x->vs[i]? =some v->VRH F w Z H x v
structure CallOk (P:Program) (call:aW):Prop where
 body:∀f as H r H',call f as H=some (r,H')->w7 P f
 runs:∀f as H r H',call f as H=some (r,H')->∀F B0 w Z (vs:Array Value),HR F B0 w Z H->ArgsR F w Z H as vs->Calls P f vs w (jR F B0 w Z H r H')
section
variable {F:Nat->Nat->Prop} {B0:Nat} {w:World} {Z:Beta} {H:AH} {P:Program} {A:Ann} {fn:FuncId} {e:Env} {a:Act}
theorem DZ (id:Nat):H0.get id=none:=rfl
theorem iS {Z0:Beta} {b i:Nat} (h:Mut Z0 H0 b i):False:=by
 obtain ⟨id,ob,o,h1,_⟩:=h;rw [DZ] at h1;cases h1
theorem Ext.still {M:Nat->Nat->Prop} {w w':World} (h:Ext M w w') (hM:∀b i,¬M b i):∀b,b<w.heap.size->w'.heap[b]? =w.heap[b]? :=by
 intro b hb;rcases h.block b hb with h1 | ⟨c,c',ty,h1,h2,h3,h4⟩ | ⟨h1,_⟩
 ·exact h1
 ·have:c'=c:=FM (fun i=>h4 i (hM b i));rw [h2,h1,this]
 ·exact absurd h1 (hM b 0)
theorem N7 {call:aW} (hc:CallOk P call) {f:FuncId} {as:List AV} {r:Rt} {H':AH} (h:dL call f as H=some (r,H')):w7 P f:=by
 unfold dL at h;split at h
 ·cases h
 ·rename_i as' has;split at h
  ·rename_i x H1 hcall;exact hc.body _ _ _ _ _ hcall
  ·rename_i x H1 hcall;exact hc.body _ _ _ _ _ hcall
  ·cases h
theorem N3 {call:aW} (hc:CallOk P call) {f:FuncId} {as:List AV} {r:Rt} {H':AH} (h:dL call f as H=some (r,H'))
    {vs:Array Value} (hr:HR F B0 w Z H) (ha:ArgsR F w Z H as vs):Calls P f vs w (jR F B0 w Z H r H'):=by
  unfold dL at h;split at h
  · cases h
  · rename_i as' has
    let F':Nat->Nat->Prop:=fun b i=>anyL (bor aA) as=false/\(Mut Z H b i\/F b i)
    let Z0:Beta:=fun _=>none
    have hlt:∀b i,(Mut Z H b i\/F b i)->b<w.heap.size:=by
      intro b i hm;rcases hm with hm | hm
      · exact (hr.mut_lt hm).1
      · exact FK (hr.far b i hm) hr.base
    have hr0:HR F' w.heap.size w Z0 H0:=by
      refine ⟨Qb _,fun b i hf=>hlt b i hf.2,trivial,fun _ _=>rfl,?_,?_⟩
      · intro id _ ob _ _ _ _ h1
        rw [DZ] at h1;cases h1
      · intro id ob h1
        rw [DZ] at h1;cases h1
    have hargs:ArgsR F' w Z0 H0 as' vs:=by
      refine ⟨(cN has).symm.trans ha.1,?_⟩;intro i y v hy hv;obtain ⟨x,h1,h2⟩:=dC has hy;have hx:=ha.2 i x v h1 hv;cases hb:anyL (bor aA) as with
      | false=>
        refine .d ((CF _ x y v h2 (gB hb x (Qe h1)) hx).mono ?_);intro b j u hi hcell;exact ⟨⟨fun hm=>iS hm,fun hf=>by rcases hf.2 with hm | hm;exact hi.1 hm;exact hi.2 hm⟩,hcell⟩
      | true=>
        refine .d (C9 hr (J:=Imm F' Z0 H0) ?_ ?_ _ x y v h2 hx)
        · intro b j _
          exact ⟨fun hm=>iS hm,fun hf=>by have:=hf.1;rw [hb] at this;cases this⟩
        · intro b j _
          exact ⟨fun hm=>iS hm,fun hf=>by have:=hf.1;rw [hb] at this;cases this⟩
    have back:∀{x:AV} {H1:AH} {v:Value} {w':World},Good F' w.heap.size w Z0 H0 x H1 v w'->
        Tr w Z H w' Z H/\HR F B0 w' Z H/\∃Z',HR F' w.heap.size w' Z' H1/\VRH F' w' Z' H1 x v:=by
      intro x H1 v w' hg;obtain ⟨Z',h1,h2,h3⟩:=hg;have hs:=h1.ext.still (fun b i hm=>iS hm);have ht:Tr w Z H w' Z H:=by
        refine ⟨h1.ext.mono (fun b i hm=>(iS hm).elim),fun b i hm=> .inl hm,fun _ h=>h,?_,?_,?_⟩
        · intro id z es _ hg;exact ⟨⟨es,hg,rfl⟩,rfl⟩
        · intro id es _ hg;exact ⟨⟨es,hg⟩,rfl⟩
        · intro t z f _ hg;exact ⟨f,hg,Qb _,fun _=>rfl⟩
      exact ⟨ht,hr.same ht hs,Z',h2,h3⟩
    split at h
    · rename_i x H1 hcall
      split at h
      · rename_i y hy
        split at h
        · cases h
        · rename_i hb
          cases h;refine (hc.runs _ _ _ _ _ hcall F' _ w Z0 vs hr0 hargs).mono ?_;intro en w' hen;cases en with
          | returned v=>
            obtain ⟨x',hx',hg⟩:=hen;cases hx';obtain ⟨ht,hh,Z',hr1,hv⟩:=back hg;refine ⟨y,rfl,Z,ht,hh,.d ?_⟩;cases hbor:anyL (bor aA) as with
            | false=>
              refine C9 hr1 (J:=Imm F Z H) ?_ ?_ _ x y v hy hv
              · intro b j hi
                exact ⟨fun hm=>hi.2 ⟨hbor,.inl hm⟩,fun hm=>hi.2 ⟨hbor,.inr hm⟩⟩
              · intro b j hle
                exact ⟨fun hm=>by have:=hlt b j (.inl hm);omega,fun hm=>by have:=hlt b j (.inr hm);omega⟩
            | true=>
              rw [hbor] at hb;have hf:flat aA y=true:=by simpa using hb
              exact Q9 _ _ _ hf (C9 hr1 (J:=fun _ _=>True) (fun _ _ _=>trivial) (fun _ _ _=>trivial) _ x y v hy hv)
          | panicked c=>obtain ⟨x',u,hx',_⟩:=hen;cases hx'
          | outgrown=>exact hen.elim
      · cases h
    · rename_i x H1 hcall
      split at h
      · rename_i y hy
        split at h
        · rename_i hf
          cases h;refine (hc.runs _ _ _ _ _ hcall F' _ w Z0 vs hr0 hargs).mono ?_;intro en w' hen;cases en with
          | returned v=>obtain ⟨x',hx',_⟩:=hen;cases hx'
          | panicked c=>
            obtain ⟨x',u,hx',hc',hg⟩:=hen;cases hx';obtain ⟨ht,hh,Z',hr1,hv⟩:=back hg;exact ⟨y,u,rfl,hc',Z,ht,hh,.d (Q9 _ _ _ hf (C9 hr1 (J:=fun _ _=>True) (fun _ _ _=>trivial) (fun _ _ _=>trivial) _ x y u hy hv))⟩
          | outgrown=>exact hen.elim
        · cases h
      · cases h
    · cases h
theorem Cr {call:aW} (hc:CallOk P call) {f:FuncId} {as:List AV} {r:Rt} {H':AH} (h:jQ call f as nx H=some (r,H')):w7 P f:=by
 unfold jQ at h;split at h
 ·cases h
 ·split at h
  ·rename_i hcall;exact hc.body _ _ _ _ _ hcall
  ·rename_i hcall;exact hc.body _ _ _ _ _ hcall
  ·cases h
theorem Cs {call:aW} (hc:CallOk P call) {f:FuncId} {as:List AV} {r:Rt} {H':AH} (hfr:Free H nx) (h:jQ call f as nx H=some (r,H'))
    {vs:Array Value} (hr:HR F B0 w Z H) (ha:ArgsR F w Z H as vs):Calls P f vs w (jR F B0 w Z H r H'):=by
  unfold jQ at h;split at h
  · cases h
  · rename_i as' has
    let F':Nat->Nat->Prop:=fun _ _=>False
    let Z0:Beta:=fun _=>none
    have hr0:HR F' w.heap.size w Z0 H0:=by
      refine ⟨Qb _,fun b i hf=>hf.elim,trivial,fun _ _=>rfl,?_,?_⟩
      · intro id _ ob _ _ _ _ h1
        rw [DZ] at h1;cases h1
      · intro id ob h1
        rw [DZ] at h1;cases h1
    have hargs:ArgsR F' w Z0 H0 as' vs:=by
      refine ⟨(cN has).symm.trans ha.1,?_⟩;intro i y v hy hv;obtain ⟨x,h1,h2⟩:=dC has hy;have hx:=ha.2 i x v h1 hv;refine .d (C9 hr (J:=Imm F' Z0 H0) ?_ ?_ _ x y v h2 hx)
      · intro b j _
        exact ⟨fun hm=>iS hm,fun hf=>hf⟩
      · intro b j _
        exact ⟨fun hm=>iS hm,fun hf=>hf⟩
    split at h
    · rename_i id z off len H1 hcall
      split at h
      · rename_i z' es hget
        split at h
        rotate_left
        · cases h
        rename_i es' hsn;split at h
        · cases h
        rename_i hfl;simp only [PV] at hfl;cases h;refine (hc.runs _ _ _ _ _ hcall F' _ w Z0 vs hr0 hargs).mono ?_;intro en w' hen;cases en with
        | outgrown=>exact hen.elim
        | panicked c=>obtain ⟨x',u,hx',_⟩:=hen;cases hx'
        | returned v=>
          obtain ⟨x',hx',Z1,h1,h2,h3⟩:=hen;cases hx';have hs:=h1.ext.still (fun b i hm=>iS hm);have hext:Ext (Mut Z H) w w':=h1.ext.mono (fun b i hm=>(iS hm).elim);obtain ⟨k1,k2,k3⟩:=lT h3;obtain ⟨b,o,c,m1,m2,m3,m4,m5,m6⟩:=h2.obj id _ hget;have hp:∀b' o',(some (b,o):Option (Nat×Nat))=some (b',o')->w.heap.size<=b':=by rintro b' o' ⟨⟩;exact m2
          have ht:=CO hfr hr hext (.row z' es') (some (b,o)) hp;have hle:=cN hsn;have hob:ObjR F B0 w' (upd Z nx (some (b,o))) (H.put nx (.row z' es')) nx (.row z' es'):=by
            refine ⟨b,o,c,cU _ _ _,jL hr.base m2,m3,by rw [<- hle];exact m4,fun e he=>?_,fun i j e x he hx=>?_⟩
            · obtain ⟨i,hi,rfl⟩:=Ql.1 he
              obtain ⟨e0,q1,q2⟩:=dC hsn (i:=i) (b:=es'[i]) (by simp [hi]);rw [<- cN q2];exact m5 e0 (Qe q1)
            · obtain ⟨e0,q1,q2⟩:=dC hsn he
              obtain ⟨x0,q3,q4⟩:=dC q2 hx;obtain ⟨u,p1,p2,p3⟩:=m6 i j e0 x0 q1 q3;have hf:flat aA x=true:=by
                have:=gB hfl x (wJ.2 ⟨e,Qe he,Qe hx⟩);simpa using this
              exact ⟨u,p1,p2,.d (Q9 _ _ _ hf (C9 h2 (J:=fun _ _=>True) (fun _ _ _=>trivial) (fun _ _ _=>trivial) _ x0 x u q4 p3))⟩
          have hh:=E1 hfr hr hext (.row z' es') (some (b,o)) hp hs hob;refine ⟨_,rfl,_,ht,hh,.l ⟨vC hr hfr (by intro q;cases q),k2,fun z2 es2 hg=>?_⟩⟩;rw [h9 hr hfr,a9 rfl] at hg;cases hg;obtain ⟨b',o',base,cap,c',e1,e2⟩:=k3 _ _ hget;rw [m1] at e1;cases e1;rw [hle] at e2;exact ⟨b,o,base,cap,c',cU _ _ _,e2⟩
      · cases h
    · rename_i z H1 hcall
      cases h;refine (hc.runs _ _ _ _ _ hcall F' _ w Z0 vs hr0 hargs).mono ?_;intro en w' hen;cases en with
      | outgrown=>exact hen.elim
      | panicked c=>obtain ⟨x',u,hx',_⟩:=hen;cases hx'
      | returned v=>
        obtain ⟨x',hx',Z1,h1,h2,h3⟩:=hen;cases hx';have hs:=h1.ext.still (fun b i hm=>iS hm);have ht:Tr w Z H w' Z H:=by
          refine ⟨h1.ext.mono (fun b i hm=>(iS hm).elim),fun b i hm=> .inl hm,fun _ h=>h,?_,?_,?_⟩
          · intro id z es _ hg;exact ⟨⟨es,hg,rfl⟩,rfl⟩
          · intro id es _ hg;exact ⟨⟨es,hg⟩,rfl⟩
          · intro t z f _ hg;exact ⟨f,hg,Qb _,fun _=>rfl⟩
        refine ⟨_,rfl,Z,ht,hr.same ht hs,?_⟩;cases h3 with
        | d h=>cases h
        | l h=>
          obtain ⟨a,cap,rfl,_⟩:=fF h.1;exact .l ⟨.slice0 _ _ _,h.2⟩
    · cases h
theorem D' {U Z:Type} {f:U->Option Z} {l:List U} {l':List Z} (h:mapO f l=some l') {x:U} (hx:x∈l):∃y,f x=some y/\y∈l':=by
 obtain ⟨i,hi,rfl⟩:=Ql.1 hx;have hl:=cN h;obtain ⟨a,h1,h2⟩:=dC h (i:=i) (b:=l'[i]'(by omega)) (by simp);rw [Qa hi] at h1;cases h1;exact ⟨_,h2,Qd _⟩
theorem Cp {call:aW} (hc:CallOk P call) {f:FuncId} {as:List AV} {r:Rt} {H':AH} (h:lQ call f as H=some (r,H')):w7 P f:=by
 unfold lQ at h;split at h
 ·cases h
 ·split at h
  ·rename_i hcall;exact hc.body _ _ _ _ _ hcall
  ·rename_i hcall;exact hc.body _ _ _ _ _ hcall
  ·cases h
theorem Cq {call:aW} (hc:CallOk P call) {f:FuncId} {as:List AV} {r:Rt} {H':AH} (h:lQ call f as H=some (r,H'))
    {vs:Array Value} (hr:HR F B0 w Z H) (ha:ArgsR F w Z H as vs):Calls P f vs w (jR F B0 w Z H r H'):=by
  unfold lQ at h;split at h
  · cases h
  · rename_i as' has
    let F':Nat->Nat->Prop:=fun _ _=>False
    let Z0:Beta:=fun _=>none
    have hr0:HR F' w.heap.size w Z0 H0:=by
      refine ⟨Qb _,fun b i hf=>hf.elim,trivial,fun _ _=>rfl,?_,?_⟩
      · intro id _ ob _ _ _ _ h1
        rw [DZ] at h1;cases h1
      · intro id ob h1
        rw [DZ] at h1;cases h1
    have hargs:ArgsR F' w Z0 H0 as' vs:=by
      refine ⟨(cN has).symm.trans ha.1,?_⟩;intro i y v hy hv;obtain ⟨x,h1,h2⟩:=dC has hy;have hx:=ha.2 i x v h1 hv;refine .d (C9 hr (J:=Imm F' Z0 H0) ?_ ?_ _ x y v h2 hx)
      · intro b j _
        exact ⟨fun hm=>iS hm,fun hf=>hf⟩
      · intro b j _
        exact ⟨fun hm=>iS hm,fun hf=>hf⟩
    have back:∀{H1:AH} {w':World} {Z1:Beta},Tr w Z0 H0 w' Z1 H1->Tr w Z H w' Z H/\HR F B0 w' Z H:=by
      intro H1 w' Z1 h1;have hs:=h1.ext.still (fun b i hm=>iS hm);have ht:Tr w Z H w' Z H:=by
        refine ⟨h1.ext.mono (fun b i hm=>(iS hm).elim),fun b i hm=> .inl hm,fun _ h=>h,?_,?_,?_⟩
        · intro id z es _ hg;exact ⟨⟨es,hg,rfl⟩,rfl⟩
        · intro id es _ hg;exact ⟨⟨es,hg⟩,rfl⟩
        · intro t z f _ hg;exact ⟨f,hg,Qb _,fun _=>rfl⟩
      exact ⟨ht,hr.same ht hs⟩
    split at h
    · rename_i id z off len H1 hcall
      split at h
      · rename_i z' es hget
        split at h
        rotate_left
        · cases h
        rename_i hz;obtain ⟨hz,hle⟩:=hz;subst hz;split at h
        rotate_left
        · cases h
        rename_i es' hm;split at h
        · cases h
        rename_i hfl;simp only [PV] at hfl;cases h;refine (hc.runs _ _ _ _ _ hcall F' _ w Z0 vs hr0 hargs).mono ?_;intro en w' hen;cases en with
        | outgrown=>exact hen.elim
        | panicked c=>obtain ⟨x',u,hx',_⟩:=hen;cases hx'
        | returned v=>
          obtain ⟨x',hx',Z1,h1,h2,h3⟩:=hen;cases hx';obtain ⟨ht,hh⟩:=back h1;refine ⟨_,rfl,Z,ht,hh,.d ?_⟩;obtain ⟨_,⟨base,cap,rfl,k3,k4⟩,k5⟩:=lT h3;obtain ⟨b,o,base',cap',c,e1,e2,e3,e4,e5,e6,_⟩:=k5 _ _ hget;cases e2;obtain ⟨b',o',c',m1,m2,m3,m4,m5,m6⟩:=h2.obj id _ hget;rw [e1] at m1;cases m1;have hlen:((es.drop off).take len).length=len:=by simp;omega
          have hJ:∀i,Imm F Z H b i:=by
            intro i;exact ⟨fun hm=>by have:=(hr.mut_lt hm).1;omega,fun hf=>by have:=hr.far b i hf;have:=hr.base;omega⟩
          obtain ⟨q0,q1,us,q2,q3⟩:=QG (J:=Imm F Z H) (o:=o+off*z') m3 hJ
            (fun e he x hx y v hs hv=>by
              obtain ⟨e',g1,g2⟩:=D' hm he;obtain ⟨y',g3,g4⟩:=D' g1 hx;rw [hs] at g3;cases g3;have hf:flat aA y=true:=by
                have:=gB hfl y (wJ.2 ⟨e',g2,g4⟩);simpa using this
              exact Q9 _ _ _ hf (C9 h2 (J:=fun _ _=>True) (fun _ _ _=>trivial) (fun _ _ _=>trivial) _ x y v hs hv))
            (fun e he=>m5 e (nI (Qr he))) (by
              intro i j e x he hx;rw [List.getElem?_take] at he;split at he
              · rw [List.getElem?_drop] at he
                obtain ⟨u,n1,n2,n3⟩:=m6 _ j e x he hx;refine ⟨u,?_,n2,n3⟩;rw [<- n1,cG];congr 1;omega
              · cases he) hm
          rw [hlen] at q0;rcases Qt len with hl0 | hlp
          · subst hl0
            have:es'=[]:=Qf q0;subst this;exact .slice0 _ _ _
          · have hbase:base=some ⟨b,o+off*z',none⟩:=by
              rcases e4 with e4 | e4
              · omega
              · exact e4
            rw [hbase,<- q0];exact .slice z' es' b _ cap us (by intro e;rw [e] at q0;simp at q0;omega) q1 (by omega) q2 q3
      · cases h
    · rename_i z H1 hcall
      cases h;refine (hc.runs _ _ _ _ _ hcall F' _ w Z0 vs hr0 hargs).mono ?_;intro en w' hen;cases en with
      | outgrown=>exact hen.elim
      | panicked c=>obtain ⟨x',u,hx',_⟩:=hen;cases hx'
      | returned v=>
        obtain ⟨x',hx',Z1,h1,h2,h3⟩:=hen;cases hx';obtain ⟨ht,hh⟩:=back h1;refine ⟨_,rfl,Z,ht,hh,?_⟩;cases h3 with
        | d h=>cases h
        | l h=>
          obtain ⟨a,cap,rfl,_⟩:=fF h.1;exact .l ⟨.slice0 _ _ _,h.2⟩
    · cases h
theorem VE (hr:HR F B0 w Z H) (m:Nat):Tr w Z H w Z (H.cut m):=by
 have old:∀{id ob},(H.cut m).get id=some ob->H.get id=some ob:=by
  intro id ob h;rw [DV] at h;split at h
  ·cases h
  ·exact h
 refine ⟨.refl _ _,?_,fun k hk=>⟨hk.1,by rw [DV];split;simp;exact hk.2⟩,?_,?_,?_⟩
 ·rintro b i ⟨id,ob,o,h1,h2,h3⟩;exact .inl ⟨id,ob,o,old h1,h2,h3⟩
 ·intro id z es _ h;exact ⟨⟨es,old h,rfl⟩,rfl⟩
 ·intro id es _ h;exact ⟨⟨es,old h⟩,rfl⟩
 ·intro id z f _ h;exact ⟨f,old h,Qb _,fun _=>rfl⟩
theorem Mc (hr:HR F B0 w Z H) (m:Nat):HR F B0 w Z (H.cut m):=by
 have old:∀{id ob},(H.cut m).get id=some ob->H.get id=some ob:=by
  intro id ob h;rw [DV] at h;split at h
  ·cases h
  ·exact h
 refine ⟨hr.base,hr.far,U8 (fun u=> !decide (u<m)) _ hr.uniq,?_,?_,?_⟩
 ·intro id hid;rw [DV];split
  ·rfl
  ·exact hr.next id hid
 ·intro id1 id2 o1 o2 b k1 k2 h1 h2 h3 h4;exact hr.inj id1 id2 o1 o2 b k1 k2 (old h1) (old h2) h3 h4
 ·intro id ob h;exact (hr.obj id ob (old h)).tr (VE hr m) rfl (fun _ _ _=>rfl)
theorem Gw (hr:HR F B0 w Z H) {m:Nat} {as as':List AV} {vs:Array Value} (ha:ArgsR F w Z H as vs) (h:mapO (snap aA (H.old m)) as=some as'):ArgsR F w Z (H.cut m) as' vs:=by
 refine ⟨(cN h).symm.trans ha.1,?_⟩;intro i y v hy hv;obtain ⟨x,h1,h2⟩:=dC h hy;have hx:=ha.2 i x v h1 hv;have hsub:∀id ob,(H.old m).get id=some ob->H.get id=some ob/\id<m:=by
  intro id ob hg;rw [V5] at hg;split at hg
  ·rename_i hlt;exact ⟨hg,hlt⟩
  ·cases hg
 refine .d (N' hr (J:=Imm F Z (H.cut m)) (fun id ob hg=>(hsub id ob hg).1) ?_ ?_ _ x y v h2 hx)
 ·rintro b j ⟨k1,k2⟩;refine ⟨?_,k2⟩;rintro ⟨id,ob,o,g1,g2,g3⟩;rw [DV] at g1;split at g1
  ·cases g1
  ·exact k1 ⟨id,ob,o,g1,g2,g3⟩
 ·intro id ob b o hg hβ j;obtain ⟨hg1,hlt⟩:=hsub id ob hg;refine ⟨?_,fun hf=>by have:=hr.far b j hf;have:=((hr.obj id ob hg1).lt hβ).2;omega⟩;rintro ⟨id',ob',o',g1,g2,g3⟩;rw [DV] at g1;split at g1
  ·cases g1
  ·rename_i hge;have:=hr.inj id id' ob ob' b o o' hg1 g1 hβ g2;omega
theorem Kx (hr:HR F B0 w Z H) {m:Nat} {r:Rt} {H':AH} {en:Ending} {w':World} (h:jR F B0 w Z (H.cut m) r H' en w'):jR F B0 w Z H r H' en w':=by
 cases en with
 | returned v=>
  obtain ⟨x,hx,Z',h1,h2,h3⟩:=h;exact ⟨x,hx,Z',(VE hr m).trans h1,h2,h3⟩
 | panicked c=>
  obtain ⟨x,u,hx,hc,Z',h1,h2,h3⟩:=h;exact ⟨x,u,hx,hc,Z',(VE hr m).trans h1,h2,h3⟩
 | outgrown=>exact h
theorem ZA (hr:HR F B0 w Z H) {id z off len:Nat} {y:AV} {v:Value} (h:yZ H id z off len=some y) (hv:VRH F w Z H (.row id z off len) v):VRD w (Imm F Z (H.kill id)) y v:=by
 unfold yZ at h;split at h
 ·rename_i esz' es hget;split at h
  ·rename_i hz;obtain ⟨hz,hle,hbr⟩:=hz;subst hz;cases hm:mapO (mapO (snap aA H)) ((es.drop off).take len) with
   | none=>rw [hm] at h;cases h
   | some es'=>
    rw [hm] at h;cases h;obtain ⟨_,⟨base,cap,rfl,k3,k4⟩,k5⟩:=lT hv;obtain ⟨b,o,base',cap',c,e1,e2,e3,e4,e5,e6,_⟩:=k5 _ _ hget;cases e2;obtain ⟨b',o',c',m1,m2,m3,m4,m5,m6⟩:=hr.obj id _ hget;rw [e1] at m1;cases m1;have hlen:((es.drop off).take len).length=len:=by simp;omega
    have hJ:∀i,Imm F Z (H.kill id) b i:=by
     intro i;refine ⟨?_,fun hf=>by have:=hr.far b i hf;omega⟩;rintro ⟨id',ob,o',h1,h2,h3⟩;rw [mR hr] at h1;split at h1
     ·cases h1
     ·rename_i hne;exact hne (hr.inj id id' _ ob b _ o' hget h1 e1 h2)
    obtain ⟨q0,q1,vs,q2,q3⟩:=QG (J:=Imm F Z (H.kill id)) (o:=o+off*esz') m3 hJ
     (fun e he x hx y v hs hv=>(CF aA x y v hs (gB hbr x (by
      rw [wJ];exact ⟨e,nI (Qr he),hx⟩)) hv).mono fun b j u hi hcell=>⟨QO hr hi,hcell⟩)
     (fun e he=>m5 e (nI (Qr he))) (by
      intro i j e x he hx;rw [List.getElem?_take] at he;split at he
      ·rw [List.getElem?_drop] at he;obtain ⟨u,n1,n2,n3⟩:=m6 _ j e x he hx;refine ⟨u,?_,n2,n3⟩;rw [<- n1,cG];congr 1;omega
      ·cases he) hm
    rw [hlen] at q0;rcases Qt len with hl0 | hlp
    ·subst hl0;have:es'=[]:=Qf q0;subst this;exact .slice0 _ _ _
    ·have hbase:base=some ⟨b,o+off*esz',none⟩:=by
      rcases e4 with e4 | e4
      ·omega
      ·exact e4
     rw [hbase,<- q0];exact .slice esz' es' b _ cap vs (by intro e;rw [e] at q0;simp at q0;omega) q1 (by omega) q2 q3
  ·cases h
 ·cases h
theorem Fl (hr:HR F B0 w Z H) {id z i off:Nat} {y:AV} {v:Value} (h:R7 H id z i off=some y) (hv:VRH F w Z H (.ptr id z i off) v):VRD w (Imm F Z (H.kill id)) y v:=by
 unfold R7 at h;split at h
 ·rename_i esz' es hget;split at h
  ·rename_i hz;obtain ⟨hz,hbr⟩:=hz;subst hz;cases hm:mapO (mapO (snap aA H)) es with
   | none=>rw [hm] at h;cases h
   | some es'=>
    rw [hm] at h;cases h;obtain ⟨_,_,h3⟩:=mW hv;obtain ⟨b,o,k1,rfl⟩:=h3 _ _ hget;obtain ⟨b',o',c,m1,m2,m3,m4,m5,m6⟩:=hr.obj id _ hget;rw [k1] at m1;cases m1;have hJ:∀i,Imm F Z (H.kill id) b i:=by
     intro i;refine ⟨?_,fun hf=>by have:=hr.far b i hf;omega⟩;rintro ⟨id',ob,o',h1,h2,h3⟩;rw [mR hr] at h1;split at h1
     ·cases h1
     ·rename_i hne;exact hne (hr.inj id id' _ ob b _ o' hget h1 k1 h2)
    obtain ⟨q0,q1,vs,q2,q3⟩:=QG (J:=Imm F Z (H.kill id)) m3 hJ
     (fun e he x hx y v hs hv=>(CF aA x y v hs (gB hbr x (by
      rw [wJ];exact ⟨e,he,hx⟩)) hv).mono fun b j u hi hcell=>⟨QO hr hi,hcell⟩)
     m5 m6 hm
    exact .iptr esz' es' i off b o vs q1 q2 q3
  ·cases h
 ·cases h
theorem Ic (hr:HR F B0 w Z H) {id:Nat} {as as':List AV} {vs:Array Value} (ha:ArgsR F w Z H as vs) (h:mapO (w9 H id) as=some as'):ArgsR F w Z (H.kill id) as' vs:=by
 refine ⟨(cN h).symm.trans ha.1,?_⟩;intro i y v hy hv;obtain ⟨x,h1,h2⟩:=dC h hy;have hx:=ha.2 i x v h1 hv;refine .d ?_;unfold w9 at h2;split at h2
 ·rename_i j z off len;split at h2
  ·rename_i hj;subst hj;exact ZA hr h2 hx
  ·cases h2
 ·split at h2
  ·cases h2
  ·rename_i hb;exact (CF _ x y v h2 (by simpa using hb) hx).mono fun b j u hi hcell=>⟨QO hr hi,hcell⟩
theorem Iw (hr:HR F B0 w Z H) {id:Nat} {r:Rt} {H':AH} {en:Ending} {w':World} (h:jR F B0 w Z (H.kill id) r H' en w'):jR F B0 w Z H r H' en w':=by
 cases en with
 | returned v=>
  obtain ⟨x,hx,Z',h1,h2,h3⟩:=h;exact ⟨x,hx,Z',(z7 hr id).trans h1,h2,h3⟩
 | panicked c=>
  obtain ⟨x,u,hx,hc,Z',h1,h2,h3⟩:=h;exact ⟨x,u,hx,hc,Z',(z7 hr id).trans h1,h2,h3⟩
 | outgrown=>exact h
structure Nxt (F:Nat->Nat->Prop) (B0:Nat) (w:World) (Z:Beta) (H:AH) (a:Act) (o:Oper) (r:Rt) (H':AH) (K:Act->World->Prop) (Q:Exit->Act->World->Prop):Prop where
 val:∀x v w',r= .val x->Good F B0 w Z H x H' v w'->K (a.put o.dst v) w'
 pan:∀x u w',r= .pan x->Good F B0 w Z H x H' u w'->Q (.panic [{ v:=u,recovered:=false }]) a w'
theorem w6 {o:Oper} {r:Rt} {H':AH} {f:FuncId} {vs:Array Value} {K:Act->World->Prop} {Q:Exit->Act->World->Prop}
  (hx:(execOp a.eval o).run P w= .ok (.enter f vs) w) (hc:Calls P f vs w (jR F B0 w Z H r H')) (hn:Nxt F B0 w Z H a o r H' K Q):o.wp P a w K Q:=by
 unfold Oper.wp;rw [hx];refine hc.mono ?_;intro en w' hen;cases en with
 | returned v=>obtain ⟨x,rfl,hg⟩:=hen;exact hn.val x v w' rfl hg
 | panicked c=>obtain ⟨x,u,rfl,rfl,hg⟩:=hen;exact hn.pan x u w' rfl hg
 | outgrown=>exact hen.elim
theorem CI {o:Oper} {c:Call} {f:FuncId} {caps:Array Value} {g:Operand} (hb:w7 P f) (ho:o.op= .call c) (hg:c.callee= .value g) {first:Array Value} (hv:a.eval g= .func (.func f) first caps):
  (execOp a.eval o).run P w= .ok (.enter f (first++c.args.map a.eval++caps)) w:=by
 obtain ⟨d,h1,h2,h3⟩:=hb
 have h3' : d.name ≠ "runtime.NumGoroutine" := by simpa using h3
 have h2':d.body≠none:=by intro hn;rw [hn] at h2;cases h2
 unfold execOp;simp [ho,resolve,hg,hv,Deferred.ofValue,invoke,callFunc,h1,h2',h3']
theorem vG {c:Call} {axs:List AX} {ys:List AV} (he:EnvR F w Z H e a.tmps) (h:cXs P c.argTypes.toList c.args.toList=some axs) (hy:mapO (evX e) axs=some ys):
  ArgsR F w Z H ys (c.args.map a.eval):=by
 obtain ⟨l1,l2⟩:=V1 he h hy;refine ⟨by simpa using l1,?_⟩;intro i x v hx hv;rw [Array.getElem?_map] at hv;obtain ⟨p,hp,rfl⟩:=map_some hv;exact l2 i x p hx (by simpa using hp)
theorem ArgsR.append {as bs:List AV} {vs us:Array Value} (h:ArgsR F w Z H as vs) (h':ArgsR F w Z H bs us):ArgsR F w Z H (as++bs) (vs++us):=by
 refine ⟨by simp [h.1,h'.1],?_⟩;intro i x v hx hv;rcases Qs i as.length with hi | hi
 ·rw [Qj hi] at hx;rw [Array.getElem?_append_left (by rw [<- h.1];exact hi)] at hv;exact h.2 i x v hx hv
 ·rw [Qn hi] at hx;rw [Array.getElem?_append_right (by rw [<- h.1];exact hi),<- h.1] at hv;exact h'.2 _ x v hx hv
theorem Hp {v:AV} {f:FuncId} {first caps:List AV} (h:tgt2 v=some (f,first,caps)):v= .func (.func f) first caps:=by
 unfold tgt2 at h;split at h
 ·cases h;rfl
 ·cases h
theorem Hz {v:AV} {f:FuncId} {caps:List AV} (h:tgt v=some (f,caps)):v= .func (.func f) [] caps:=by
 unfold tgt at h;split at h
 ·cases h;rfl
 ·cases h
def AOp.isCall:AOp->Bool
 | .pcall .. | .pcallk .. | .pcallr .. | .pcallf .. | .pcallz .. | .tcall .. | .pcallv .. | .tcallv .. | .pinvoke .. | .tinvoke .. | .panic _=>true
 | _=>false
theorem DH {call:aW} {ao:AOp} (h:ao.isCall=false):a7 call e nx H ao=match evOp e nx H ao with | some (v,H')=>some (Rt.val v,H') | none=>none:=by
 cases ao<;>first
  | rfl
  | cases h
theorem QK {nm:String} {t:TypeId} {f:FuncId}:∀{l:List Nat},look t (mthL P nm l)=some f->RK P nm t=some f
 | [],h=>by cases h
 | u::r,h=>by
  unfold mthL at h;split at h
  ·rename_i g hg;simp only [look] at h;split at h
   ·rename_i e;subst e;cases h;exact hg
   ·exact QK h
  ·exact QK h
theorem ZO {o:Oper} {c:Call} {f:FuncId} {rv:Operand} {nm:String} (hb:w7 P f) (ho:o.op= .call c) (hg:c.callee= .invoke rv nm) {t:TypeId} {u:Value} (hv:a.eval rv= .iface t u) (hm:RK P nm t=some f):
  (execOp a.eval o).run P w= .ok (.enter f (#[u]++c.args.map a.eval)) w:=by
 obtain ⟨d,h1,h2,h3⟩:=hb
 have h3' : d.name ≠ "runtime.NumGoroutine" := by simpa using h3
 have h2':d.body≠none:=by intro hn;rw [hn] at h2;cases h2
 unfold RK at hm;split at hm
 ·cases hm
 rename_i i hi;split at hm
 ·rename_i m d' hfind hu;split at hm
  ·rename_i f' hf;split at hm
   ·rename_i hc;cases hm;simp only [QA] at hc;have hp:m.path.toList=[]:=by simpa using hc.1.1
    have hr:∀wr,(receiverAt t (.val u) false wr).run P w= .ok u w:=fun wr=>by
     unfold receiverAt;have:(underlying t).run P w= .ok d' w:=by simp [underlying,hu,go_sem]
     cases d'<;>first
      | (simp [Ak] at hc;done)
      | simp [this,Place.get,go_sem]
    have hmt:(method (P.types.size+Made.depth) t u nm).run P w= .ok (f,u) w:=by
     rw [show P.types.size+Made.depth=(P.types.size+Made.depth - 1)+1 by simp [Made.depth]];unfold method;simp [typeInfo,hi,hfind,hp,follow,hf,hr,go_sem]
    have hx:(#[Value.iface t u]++c.args.map a.eval).extract 1 (1+c.args.size)=c.args.map a.eval:=by
     apply Array.ext';simp;exact Qm (by simp)
    have h0:(#[Value.iface t u]++c.args.map a.eval)[0]? =some (.iface t u):=by rw [Array.getElem?_append_left (by simp)];rfl
    have e1:execOp a.eval o=(do let d <- resolve a.eval c o.type;invoke d.target d.args):=by unfold execOp;rw [ho]
    rw [e1];simp only [resolve,hg,hv];generalize hA: #[Value.iface t u]++c.args.map a.eval=A at h0;have hsz:A.size=1+c.args.size:=by rw [<- hA];simp
    rw [hA] at hx;rw [<- hsz] at hx;simp [invoke,h0,hx,callMethod,hmt,callFunc,h1,h2',h3',go_sem]
   ·cases hm
  ·cases hm
 ·cases hm
theorem Gp {o:Oper} {ao:AOp} (h:cOp P A fn o=some ao) (hk:ao.isCall=true):(∃c g,o.op= .call c/\c.callee= .value g)\/(∃x,o.op= .panic x)\/∃c rv nm,o.op= .call c/\c.callee= .invoke rv nm:=by
 cases hop:o.op
 case panic x=>exact .inr (.inl ⟨x,rfl⟩)
 case call c=>
  cases hc:c.callee with
  | value g=>exact .inl ⟨c,g,rfl,hc⟩
  | invoke rv nm=>exact .inr (.inr ⟨c,rv,nm,rfl,hc⟩)
  | builtin b=>
   exfalso;unfold cOp zA at h;rw [hop] at h;simp only [hc] at h;cases b<;>simp only at h<;>(repeat' split at h)<;>first
    | (cases h;done)
    | (cases h;cases hk;done)
    | (obtain ⟨_,_,rfl⟩:=map_some h;cases hk)
 all_goals
  exfalso;unfold cOp at h;rw [hop] at h;simp only at h
  (repeat' split at h)<;>first
    | (cases h;done)
    | (cases h;cases hk;done)
    | (rw [Qq] at h;obtain ⟨_,_,h⟩:=h;obtain ⟨_,h⟩:=RQ.1 h;cases h;cases hk;done)
    | (obtain ⟨_,_,rfl⟩:=map_some h;cases hk)
theorem U9 {call:aW} (hc:CallOk P call) {o:Oper} {ao:AOp} {r:Rt} {H':AH} {K:Act->World->Prop} {Q:Exit->Act->World->Prop} (hr:HR F B0 w Z H) (he:EnvR F w Z H e a.tmps)
  (hfr:Free H nx) (h:cOp P A fn o=some ao) (hev:a7 call e nx H ao=some (r,H')) (hn:Nxt F B0 w Z H a o r H' K Q):o.wp P a w K Q:=by
 cases hk:ao.isCall with
 | false=>
  rw [DH hk] at hev;split at hev
  ·rename_i x H1 hop;cases hev;obtain ⟨v,w',hd,hg⟩:=Ir hfr hr he h hop;have:=hn.val x v w' rfl hg;unfold Oper.wp;rcases hd with hd | ⟨hd,rfl⟩
   ·rw [hd];exact this
   ·rw [hd];exact this
  ·cases hev
 | true=>
  rcases Gp h hk with ⟨c,g,ho,hg⟩ | ⟨x,ho⟩ | ⟨c,rv,nm,ho,hg⟩
  rotate_left 2
  ·unfold cOp zA at h;rw [ho] at h;simp only [hg] at h;cases rv with
   | const v=>cases h
   | global v=>cases h
   | func f=>cases h
   | tmp t=>
    simp only at h;split at h
    ·rename_i axs hxs;cases h;have target:∀{ty:TypeId} {x:AV},look t e=some (.iface ty x)->∃u,a.eval (.tmp t)= .iface ty u/\ArgsR F w Z H [x] #[u]:=by
      intro ty x hfv;obtain ⟨u,h1,h2⟩:=he t _ hfv;obtain ⟨u',rfl,h3⟩:=DT h2;refine ⟨u',?_,rfl,?_⟩
      ·simp [Act.eval,nH,h1]
      ·intro i y v hy hv;cases i with
       | zero=>simp at hy hv;subst hy hv;exact h3
       | succ i=>simp at hy
     split at hev
     ·simp only [a7] at hev;split at hev
      ·rename_i ty x ys hfv hys;split at hev
       ·rename_i f hm;obtain ⟨u,hv,hfirst⟩:=target hfv;exact w6 (ZO (w:=w) (N7 hc hev) ho hg hv (QK hm)) (N3 hc hev hr (hfirst.append (vG he hxs hys))) hn
       ·cases hev
      ·cases hev
     ·simp only [a7] at hev;split at hev
      ·rename_i ty x ys hfv hys;split at hev
       ·rename_i f hm;obtain ⟨u,hv,hfirst⟩:=target hfv;exact w6 (ZO (w:=w) (hc.body _ _ _ _ _ hev) ho hg hv (QK hm)) (hc.runs _ _ _ _ _ hev _ _ _ _ _ hr (hfirst.append (vG he hxs hys))) hn
       ·cases hev
      ·cases hev
    ·cases h
  ·unfold cOp zA at h;rw [ho] at h;simp only [hg] at h;cases g with
   | const v=>cases h
   | global v=>cases h
   | func f=>
    simp only at h;split at h
    ·rename_i axs hxs;split at h
     ·cases h;have hv:a.eval (.func f)= .func (.func f) #[] #[]:=rfl;split at hev
      ·split at hev
       ·split at hev
        ·simp only [a7] at hev;split at hev
         ·rename_i ys hys;have:=CI (w:=w) (Cp hc hev) ho hg hv;rw [ER] at this;exact w6 this (Cq hc hev hr (by simpa using vG he hxs hys)) hn
         ·cases hev
        split at hev
        ·simp only [a7] at hev;split at hev
         ·rename_i ys hys;split at hev
          ·rename_i ys' hys';split at hev
           ·cases hev
           have:=CI (w:=w) (N7 hc hev) ho hg hv;rw [ER] at this;exact w6 this ((N3 hc hev (Mc hr _) (Gw hr (by simpa using vG he hxs hys) hys')).mono fun en w' h=>Kx hr h) hn
          ·cases hev
         ·cases hev
        simp only [a7] at hev;split at hev
        ·rename_i ys hys;split at hev
         ·rename_i id _;split at hev
          ·rename_i ys' hys';split at hev
           ·cases hev
           have:=CI (w:=w) (N7 hc hev) ho hg hv;rw [ER] at this;exact w6 this ((N3 hc hev (lP hr id) (Ic hr (by simpa using vG he hxs hys) hys')).mono fun en w' h=>Iw hr h) hn
          ·cases hev
         ·cases hev
        ·cases hev
       ·split at hev
        ·simp only [a7] at hev;split at hev
         ·rename_i ys hys;have:=CI (w:=w) (Cr hc hev) ho hg hv;rw [ER] at this;exact w6 this (Cs hc hfr hev hr (by simpa using vG he hxs hys)) hn
         ·cases hev
        simp only [a7] at hev;split at hev
        ·rename_i ys hys;have:=CI (w:=w) (N7 hc hev) ho hg hv;rw [ER] at this;exact w6 this (N3 hc hev hr (by simpa using vG he hxs hys)) hn
        ·cases hev
      ·simp only [a7] at hev;split at hev
       ·rename_i ys hys;have:=CI (w:=w) (hc.body _ _ _ _ _ hev) ho hg hv;rw [ER] at this;exact w6 this (hc.runs _ _ _ _ _ hev _ _ _ _ _ hr (by simpa using vG he hxs hys)) hn
       ·cases hev
     ·cases h
    ·cases h
   | tmp t=>
    simp only at h;split at h
    ·rename_i axs hxs;cases h;have target:∀{fv:AV} {f:FuncId} {first caps:List AV},look t e=some fv->tgt2 fv=some (f,first,caps)->∃va vc,a.eval (.tmp t)= .func (.func f) va vc/\ArgsR F w Z H first va/\ArgsR F w Z H caps vc:=by
      intro fv f first caps hfv htg
      have:=Hp htg;subst this;obtain ⟨u,h1,h2⟩:=he t _ hfv;obtain ⟨va,vb,rfl,p1,p2,p3,p4⟩:=DW h2;refine ⟨va,vb,?_,⟨p1,p3⟩,p2,p4⟩;simp [Act.eval,nH,h1]
     split at hev
     ·simp only [a7] at hev;split at hev
      ·rename_i fv ys hfv hys;split at hev
       ·rename_i f first caps htg
        obtain ⟨va,vc,hv,hfirst,hcaps⟩:=target hfv htg;exact w6 (CI (w:=w) (N7 hc hev) ho hg hv) (N3 hc hev hr ((hfirst.append (vG he hxs hys)).append hcaps)) hn
       ·cases hev
      ·cases hev
     ·simp only [a7] at hev;split at hev
      ·rename_i fv ys hfv hys;split at hev
       ·rename_i f first caps htg
        obtain ⟨va,vc,hv,hfirst,hcaps⟩:=target hfv htg;exact w6 (CI (w:=w) (hc.body _ _ _ _ _ hev) ho hg hv) (hc.runs _ _ _ _ _ hev _ _ _ _ _ hr ((hfirst.append (vG he hxs hys)).append hcaps)) hn
       ·cases hev
      ·cases hev
    ·cases h
  ·unfold cOp at h;rw [ho] at h;simp only at h;obtain ⟨ax,hx,rfl⟩:=map_some h;simp only [a7] at hev;split at hev
   ·rename_i t x' hxv;cases hev;have hv:=aO hx he hxv;obtain ⟨u,hu,hvu⟩:=DT hv;have:=hn.pan _ _ w rfl (.same hr hv);unfold Oper.wp;have hrun:(execOp a.eval o).run P w= .halt (.panic (a.eval x)) w:=by
     unfold execOp;simp [ho,Instr.panic,hu]
    rw [hrun];exact this
   ·cases hev
end
end Go.Av
namespace Go.Av
variable {nx:Nat}
def EqE (e e':Env):Prop:=∀t,look t e=look t e'
section
variable {e e':Env} {H:AH} {call:aW}
theorem bV {x:AX} (h:∀t,t∈x.rds->look t e=look t e'):evX e x=evX e' x:=by
 cases x with
 | t n=>exact h n (by simp [AX.rds])
 | c v=>rfl
theorem gM {U I:Type} {f g:U->Option I}:∀{l:List U},(∀a,a∈l->f a=g a)->mapO f l=mapO g l
 | [],_=>rfl
 | a::l,h=>by
  simp only [mapO,h a (by simp),gM (l:=l) (fun b hb=>h b (by simp [hb]))]
theorem QJ {x:AX} {t:Nat}:∀{l:List AX},x∈l->t∈x.rds->t∈lRds l
 | [],h,_=>by cases h
 | y::l,h,ht=>by
  simp only [lRds,fT];rcases lW.1 h with rfl | h
  ·exact .inl ht
  ·exact .inr (QJ h ht)
theorem mE {xs:List AX} (h:∀t,t∈lRds xs->look t e=look t e'):mapO (evX e) xs=mapO (evX e') xs:=
 gM fun x hx=>bV fun t ht=>h t (QJ hx ht)
theorem N6 {n:Nat} {lo hi mx:Option AX} (h1:∀t,t∈oRds lo->look t e=look t e') (h2:∀t,t∈oRds hi->look t e=look t e') (h3:∀t,t∈oRds mx->look t e=look t e'):
  f4 e n lo hi mx=f4 e' n lo hi mx:=by
 have hM:bndM e n mx=bndM e' n mx:=by
  cases mx with
  | none=>rfl
  | some x=>simp only [bndM,bV (x:=x) h3]
 have hH:∀k,bndH e k hi=bndH e' k hi:=by
  intro k;cases hi with
  | none=>rfl
  | some x=>simp only [bndH,bV (x:=x) h2]
 have hL:∀k,bndL e k lo=bndL e' k lo:=by
  intro k;cases lo with
  | none=>rfl
  | some x=>simp only [bndL,bV (x:=x) h1]
 unfold f4;simp only [hM,hH,hL]
theorem TS {op:AOp} (h:∀t,t∈op.rds->look t e=look t e'):a7 call e nx H op=a7 call e' nx H op:=by
 cases op
 case nilapp=>rfl
 case alloc=>rfl
 case alloca=>rfl
 case mkmap=>rfl
 case pick c a b=>
  simp only [AOp.rds,fT] at h;simp only [a7,evOp,bV (x:=c) (fun t ht=>h t (by simp [ht])),bV (x:=a) (fun t ht=>h t (by simp [ht])),bV (x:=b) (fun t ht=>h t (by simp [ht]))]
 case update kd c a b=>
  simp only [AOp.rds,fT] at h;simp only [a7,evOp,bV (x:=c) (fun t ht=>h t (by simp [ht])),bV (x:=a) (fun t ht=>h t (by simp [ht])),bV (x:=b) (fun t ht=>h t (by simp [ht]))]
 case build z parts=>
  simp only [AOp.rds] at h;have hp:mapO (fun p:Nat×Nat×AX=>(evX e p.2.2).map fun v=>(p.1,p.2.1,v)) parts=mapO (fun p=>(evX e' p.2.2).map fun v=>(p.1,p.2.1,v)) parts:=
   gM fun p hp=>by rw [bV (x:=p.2.2) (fun t ht=>h t (QJ (vZ.2 ⟨p,hp,rfl⟩) ht))]
  simp only [a7,evOp,hp]
 case bslice m esz z parts=>
  simp only [AOp.rds] at h;have hp:∀p:Nat×AX,p∈parts->evX e p.2=evX e' p.2:=fun p hp=>bV (fun t ht=>h t (QJ (vZ.2 ⟨p,hp,rfl⟩) ht))
  simp only [a7,evOp];rw [gM (l:=parts) (fun p hpp=>by rw [hp p hpp])]
 case mkfunc fn a b=>
  simp only [AOp.rds,fT] at h;simp only [a7,evOp,mE (xs:=a) (fun t ht=>h t (by simp [ht])),mE (xs:=b) (fun t ht=>h t (by simp [ht]))]
 case sarr z n x lo hi mx=>
  simp only [AOp.rds,fT] at h;have hb:∀n,f4 e n lo hi mx=f4 e' n lo hi mx:=fun n=>N6 (fun t ht=>h t (by simp [ht])) (fun t ht=>h t (by simp [ht])) (fun t ht=>h t (by simp [ht]))
  simp only [a7,evOp,bV (x:=x) (fun t ht=>h t (by simp [ht])),hb]
 case sarrF z n x lo hi mx=>
  simp only [AOp.rds,fT] at h;have hb:∀n,f4 e n lo hi mx=f4 e' n lo hi mx:=fun n=>N6 (fun t ht=>h t (by simp [ht])) (fun t ht=>h t (by simp [ht])) (fun t ht=>h t (by simp [ht]))
  simp only [a7,evOp,bV (x:=x) (fun t ht=>h t (by simp [ht])),hb]
 case slc esz x lo hi mx=>
  simp only [AOp.rds,fT] at h;have hb:∀n,f4 e n lo hi mx=f4 e' n lo hi mx:=fun n=>N6 (fun t ht=>h t (by simp [ht])) (fun t ht=>h t (by simp [ht])) (fun t ht=>h t (by simp [ht]))
  simp only [a7,evOp,bV (x:=x) (fun t ht=>h t (by simp [ht])),hb]
 case slcH esz x lo hi mx=>
  simp only [AOp.rds,fT] at h;have hb:∀n,f4 e n lo hi mx=f4 e' n lo hi mx:=fun n=>N6 (fun t ht=>h t (by simp [ht])) (fun t ht=>h t (by simp [ht])) (fun t ht=>h t (by simp [ht]))
  simp only [a7,evOp,bV (x:=x) (fun t ht=>h t (by simp [ht])),hb]
 case sslc x lo hi=>
  simp only [AOp.rds,fT] at h;have hb:∀n,f4 e n lo hi none=f4 e' n lo hi none:=fun n=>N6 (fun t ht=>h t (by simp [ht])) (fun t ht=>h t (by simp [ht])) (fun t ht=>by simp [oRds] at ht)
  simp only [a7,evOp,bV (x:=x) (fun t ht=>h t (by simp [ht])),hb]
 case minmax m xs=>simp only [a7,evOp,mE (xs:=xs) h]
 case pcall f xs=>simp only [a7,mE (xs:=xs) h]
 case pcallk f xs=>simp only [a7,mE (xs:=xs) h]
 case pcallr f xs=>simp only [a7,mE (xs:=xs) h]
 case pcallf f xs=>simp only [a7,mE (xs:=xs) h]
 case pcallz d f xs=>simp only [a7,mE (xs:=xs) h]
 case tcall f xs=>simp only [a7,mE (xs:=xs) h]
 case pcallv f xs=>
  simp only [AOp.rds,fT] at h;simp only [a7,bV (x:=f) (fun t ht=>h t (by simp [ht])),mE (xs:=xs) (fun t ht=>h t (by simp [ht]))]
 case tcallv f xs=>
  simp only [AOp.rds,fT] at h;simp only [a7,bV (x:=f) (fun t ht=>h t (by simp [ht])),mE (xs:=xs) (fun t ht=>h t (by simp [ht]))]
 case pinvoke ms f xs=>
  simp only [AOp.rds,fT] at h;simp only [a7,bV (x:=f) (fun t ht=>h t (by simp [ht])),mE (xs:=xs) (fun t ht=>h t (by simp [ht]))]
 case tinvoke ms f xs=>
  simp only [AOp.rds,fT] at h;simp only [a7,bV (x:=f) (fun t ht=>h t (by simp [ht])),mE (xs:=xs) (fun t ht=>h t (by simp [ht]))]
 case panic x=>simp only [a7,bV (x:=x) h]
 case mov x=>simp only [a7,evOp,bV (x:=x) h]
 case box x=>simp only [a7,evOp,bV (x:=x) h]
 case boxi x=>simp only [a7,evOp,bV (x:=x) h]
 case load g n x=>simp only [a7,evOp,bV (x:=x) h]
 case nilchk x=>simp only [a7,evOp,bV (x:=x) h]
 case un o x=>simp only [a7,evOp,bV (x:=x) h]
 case conv k x=>simp only [a7,evOp,bV (x:=x) h]
 case same x=>simp only [a7,evOp,bV (x:=x) h]
 case b2s x=>simp only [a7,evOp,bV (x:=x) h]
 case mkiface t x=>simp only [a7,evOp,bV (x:=x) h]
 case faddr o x=>simp only [a7,evOp,bV (x:=x) h]
 case fld g o n x=>simp only [a7,evOp,bV (x:=x) h]
 case ext i x=>simp only [a7,evOp,bV (x:=x) h]
 case len x=>simp only [a7,evOp,bV (x:=x) h]
 case slen x=>simp only [a7,evOp,bV (x:=x) h]
 case cap x=>simp only [a7,evOp,bV (x:=x) h]
 case clear z x=>simp only [a7,evOp,bV (x:=x) h]
 case mlen x=>simp only [a7,evOp,bV (x:=x) h]
 case tassert t ok z x=>simp only [a7,evOp,bV (x:=x) h]
 all_goals
  rename_i x y;simp only [AOp.rds,fT] at h;simp only [a7,evOp,bV (x:=x) (fun t ht=>h t (by simp [ht])),bV (x:=y) (fun t ht=>h t (by simp [ht]))]
theorem C8:∀(n:Nat) (x:AV) (H1 H2:AH),bor n x=false->snap n H1 x=snap n H2 x:=by
 intro n
 induction n with
 | zero=>intro x H1 H2 h;cases h
 | succ n ih=>
  intro x H1 H2 h;have lst:∀{cs:List AV},anyL (bor n) cs=false->mapO (snap n H1) cs=mapO (snap n H2) cs:=fun hc=>gM fun a ha=>ih a H1 H2 (gB hc a ha)
  cases x with
  | agg cs=>simp only [bor] at h;simp only [snap,lst h]
  | tup cs=>simp only [bor] at h;simp only [snap,lst h]
  | iface t v=>simp only [bor] at h;simp only [snap,ih v H1 H2 h]
  | func fn a b=>
   simp only [bor,Bool.or_eq_false_iff] at h;simp only [snap,lst h.1,lst h.2]
  | ptr=>cases h
  | row=>cases h
  | map=>cases h
  | _=>rfl
theorem XW {es:List (List AV)} (h:anyL (bor aA) es.flatten=false) (H1 H2:AH):mapO (jP H1) es=mapO (jP H2) es:=
 gM fun c hc=>gM fun x hx=>C8 _ x H1 H2 (gB h x (wJ.2 ⟨c,hc,hx⟩))
theorem Ag {op:AOp} (h:op.cls= .i):evOp e nx H op=(evOp e 0 H0 op).map (fun r=>(r.1,H)):=by
  cases op
  case boxi x=>
    simp only [evOp];split
    · rename_i v hv
      split
      · rename_i vs hvs
        cases hb:anyL (bor aA) vs with
        | true=>
          simp only [if_true]
          (repeat' split)<;>rfl
        | false=>
          have hf:jP H vs=jP H0 vs:=gM fun x hx=>C8 _ x H H0 (gB hb x hx)
          rw [hf];simp only [eM,if_false]
          (repeat' split)<;>rfl
      · rfl
    · rfl
  case bslice m esz z parts=>
    cases m
    case imm=>
      simp only [evOp];split
      · rfl
      · rename_i ps hps
        cases hb:anyL (bor aA) (List.foldl (fun es p=>es.set p.1 p.2) z ps).flatten with
        | true=>
          simp only [if_true]
          (repeat' split)<;>rfl
        | false=>
          rw [XW hb H H0];simp only [eM,if_false]
          (repeat' split)<;>rfl
    all_goals cases h
  all_goals first
    | (cases h;done)
    | (simp only [evOp]
       (repeat' split)<;>first
         | rfl
         | (simp only [Option.map_map,Function.comp_def];done)
         | (simp_all;done))
def rOp (call:aW) (base:Option Nat) (o:Xc) (e:Env) (h:AH):Option (AV×AH):=
 match dT e o.guard with
 | none=>none
 | some false=>some (.tup [],h)
 | some true=>match a7 call e (bN base o.dst h) h o.op with
  | some (.val v,h')=>some (v,h')
  | _=>none
theorem evOps_cons {base:Option Nat} {o:Xc} {r:List Xc} {s s':St}:b7 call base (o::r) s=some (.normal,s')↔
  ∃v h',rOp call base o s.e s.h=some (v,h')/\b7 call base r ⟨putE s.e o.dst v,h'⟩=some (.normal,s'):=by
 unfold rOp;rw [b7];cases hg:dT s.e o.guard with
 | none=>simp
 | some b=>
  cases b with
  | false=>
   simp only [Option.some.injEq,Prod.mk.injEq];exact ⟨fun h=>⟨_,_,⟨rfl,rfl⟩,h⟩,by rintro ⟨_,_,⟨rfl,rfl⟩,h⟩;exact h⟩
  | true=>
   simp only;cases hc:a7 call s.e (bN base o.dst s.h) s.h o.op with
   | none=>simp
   | some p=>
    obtain ⟨r',h'⟩:=p;cases r' with
    | val v=>
     simp only [Option.some.injEq,Prod.mk.injEq];exact ⟨fun h=>⟨_,_,⟨rfl,rfl⟩,h⟩,by rintro ⟨_,_,⟨rfl,rfl⟩,h⟩;exact h⟩
    | pan v=>simp
theorem Dh {o:Xc} (h:∀t,t∈o.rds->look t e=look t e'):dT e o.guard=dT e' o.guard:=by
 unfold Xc.rds at h;cases hg:o.guard with
 | none=>rfl
 | some p=>
  obtain ⟨t,b⟩:=p;rw [hg] at h;simp only [dT,h t (by simp)]
theorem Ls {o:Xc} {t:Nat} (h:t∈o.op.rds):t∈o.rds:=by
 unfold Xc.rds;cases o.guard with
 | none=>exact h
 | some p=>exact wI _ h
theorem ZL {base:Option Nat} {o:Xc} {h:AH} (hh:∀t,t∈o.rds->look t e=look t e'):rOp call base o e h=rOp call base o e' h:=by
 unfold rOp;rw [Dh hh,TS (fun t ht=>hh t (Ls ht))]
def ApOk (f:Foot) (ap:AH->AH):Prop:=
 match f.2 with
 | .no=>ap=id
 | .set i=>(∃ob,ap=fun h=>h.set i ob)/\∃l,f.1=some l/\i∈l
 | .chg _ h'=>ap=fun _=>h'
 | .cut m=>ap=fun h=>h.cut m
 | .mv i n=>(∃ob,ap=fun h=>(h.kill i).set n ob)/\∃l,f.1=some l/\i∈l/\n∈l
 | .any=>True
def vE (w:Wr) (h:AH):Prop:=
 match w with
 | .chg h0 _=>h=h0
 | _=>True
def Agree (f:Foot) (h h2:AH):Prop:=
 (match f.1 with | none=>h2=h | some l=>∀id,id∈l->h2.get id=h.get id)/\(match f.2 with | .chg h0 _=>h2=h0 | .cut m=>∀id,id<m->h2.get id=h.get id | .any=>h2=h | _=>True)
structure Stb (call:aW) (base:Option Nat) (o:Xc) (e:Env) (h:AH) (f:Foot) (v:AV) (ap:AH->AH):Prop where
 ok:ApOk f ap
 next:vE f.2 h
 run:∀e2 h2,(∀t,t∈o.rds->look t e2=look t e)->Agree f h h2->rOp call base o e2 h2=some (v,ap h2)
theorem Agree.refl {f:Foot} {h:AH} (hn:vE f.2 h):Agree f h h:=by
 obtain ⟨r,w⟩:=f;refine ⟨?_,?_⟩
 ·cases r with
  | none=>rfl
  | some l=>exact fun _ _=>rfl
 ·cases w with
  | chg a b=>exact hn
  | cut m=>exact fun _ _=>rfl
  | any=>rfl
  | _=>trivial
theorem Agree.trans {f:Foot} {h h1 h2:AH} (a:Agree f h h1) (b:Agree f h1 h2):Agree f h h2:=by
 obtain ⟨r,w⟩:=f;refine ⟨?_,?_⟩
 ·have a1:=a.1;have b1:=b.1;cases r with
  | none=>exact b1.trans a1
  | some l=>exact fun i hi=>(b1 i hi).trans (a1 i hi)
 ·have a2:=a.2;have b2:=b.2;cases w with
  | chg a b=>exact b2
  | cut m=>exact fun i hi=>(b2 i hi).trans (a2 i hi)
  | any=>exact b2.trans a2
  | _=>trivial
theorem Agree.symm {f:Foot} {h h1:AH} (hn:vE f.2 h) (a:Agree f h h1):Agree f h1 h:=by
 obtain ⟨r,w⟩:=f;refine ⟨?_,?_⟩
 ·have a1:=a.1;cases r with
  | none=>exact a1.symm
  | some l=>exact fun i hi=>(a1 i hi).symm
 ·have a2:=a.2;cases w with
  | chg a b=>exact hn
  | cut m=>exact fun i hi=>(a2 i hi).symm
  | any=>exact a2.symm
  | _=>trivial
theorem Stb.move {base:Option Nat} {o:Xc} {h h':AH} {f:Foot} {v:AV} {ap:AH->AH} (s:Stb call base o e h f v ap) (hh:∀t,t∈o.rds->look t e'=look t e) (ha:Agree f h h'):Stb call base o e' h' f v ap:=by
 refine ⟨s.ok,?_,?_⟩
 ·have:=ha.2;obtain ⟨r,w⟩:=f;cases w with
  | chg a b=>exact this
  | _=>trivial
 ·intro e2 h2 k1 k2;exact s.run e2 h2 (fun t ht=>(k1 t ht).trans (hh t ht)) (ha.trans k2)
theorem UE {h:AH} {i j:Nat} {ob:AO} (hne:j≠i):(h.set i ob).get j=h.get j:=by
 unfold AH.set AH.get;generalize h.objs=l
 induction l with
 | nil=>rfl
 | cons p l ih=>
  obtain ⟨u,x⟩:=p;simp only [setl];by_cases hu:u=i
  ·subst hu;rw [a9 rfl];simp only [look,a8 (Ne.symm hne)]
  ·rw [a8 hu];simp only [look,ih]
theorem U4 {h:AH} {i j:Nat} (hne:j≠i):(h.kill i).get j=h.get j:=by
 unfold AH.kill AH.get;generalize h.objs=l
 induction l with
 | nil=>rfl
 | cons p l ih=>
  obtain ⟨u,x⟩:=p;simp only [fI];by_cases hu:u=i
  ·subst hu;simp [look,Ne.symm hne]
  ·rw [a8 hu];simp only [look,ih]
theorem Eb {h:AH} {m i:Nat} (hi:m<=i):(h.cut m).get i=h.get i:=by rw [DV,a8 (by omega)]
theorem Kf {h:AH} {m i:Nat} {a:AO} (hi:m<=i):(h.set i a).cut m=(h.cut m).set i a:=by
 unfold AH.set AH.cut;simp only [AH.mk.injEq,and_true];generalize h.objs=l
 induction l with
 | nil=>rfl
 | cons p l ih=>
  obtain ⟨u,x⟩:=p;by_cases hu:u=i
  ·subst hu;have hn:¬u<m:=by omega
   simp [setl,hn]
  ·by_cases hm:u<m
   ·simp [setl,hu,hm,ih]
   ·simp [setl,hu,hm,ih]
theorem g' {h:AH} {i j:Nat} {a:AO} (hne:i≠j):(h.set j a).kill i=(h.kill i).set j a:=by
 unfold AH.set AH.kill;simp only [AH.mk.injEq,and_true];generalize h.objs=l
 induction l with
 | nil=>rfl
 | cons p l ih=>
  obtain ⟨u,x⟩:=p;simp only [setl,fI];by_cases hu:u=j
  ·subst hu;simp [fI,Ne.symm hne,setl]
  ·rw [a8 hu];by_cases hi:u=i
   ·subst hi;simp [fI,hu]
   ·simp [fI,hi,setl,hu,ih]
theorem V8 {h:AH} {i j:Nat} {a b:AO} (hne:i≠j):(h.set i a).set j b=(h.set j b).set i a:=by
 unfold AH.set;simp only [AH.mk.injEq,and_true];generalize h.objs=l
 induction l with
 | nil=>rfl
 | cons p l ih=>
  obtain ⟨u,x⟩:=p;simp only [setl];by_cases hu:u=i
  ·subst hu;simp [setl,hne]
  ·by_cases hu':u=j
   ·subst hu';simp [setl,hu]
   ·simp [setl,hu,hu',ih]
theorem memNat_iff {t:Nat} {l:List Nat}:fH t l=true↔t∈l:=by
 induction l with
 | nil=>simp [fH]
 | cons u r ih=>
  rw [lW,<- ih];simp only [fH,A4,beq_iff_eq];constructor<;>(rintro (h | h);exact .inl h.symm;exact .inr h)
theorem E0 {U:Type} {f:U->U->Bool} (h:∀a b,f a b=true->a=b):∀{a b:List U},eqL f a b=true->a=b
 | [],[],_=>rfl
 | x::a,y::b,k=>by
  simp only [eqL,QA] at k;rw [h _ _ k.1,E0 h k.2]
 | [],_::_,k=>by cases k
 | _::_,[],k=>by cases k
theorem Gl (n:Nat) (ih:∀a b,avEq n a b=true->a=b) (f g:Fn) (a b c d:List AV) (h:avEq (n+1) (.func f a b) (.func g c d)=true):(AV.func f a b)= .func g c d:=by
 have l1:∀{x y:List AV},eqL (avEq n) x y=true->x=y:=E0 ih;cases f with
 | func f=>cases g with
  | func g=>
   have h2:(f == g&&eqL (avEq n) a c&&eqL (avEq n) b d)=true:=h;simp only [QA,beq_iff_eq] at h2;rw [h2.1.1,l1 h2.1.2,l1 h2.2]
  | _=>cases h
 | _=>cases h
theorem V2:∀(n:Nat) (a b:AV),avEq n a b=true->a=b:=by
  intro n
  induction n with
  | zero=>intro a b h;cases h
  | succ n ih=>
    intro a b h;have l1:∀{x y:List AV},eqL (avEq n) x y=true->x=y:=E0 ih;have l2:∀{x y:List (List AV)},eqL (eqL (avEq n)) x y=true->x=y:=E0 fun _ _=>l1
    cases a<;>cases b<;>first
      | rfl
      | (cases h;done)
      | exact Gl n ih _ _ _ _ _ _ h
      | (simp only [avEq,QA,beq_iff_eq,decide_eq_true_eq] at h
         first
          | (rw [h];done)
          | (rw [h.1,h.2];done)
          | (rw [l1 h];done)
          | (rw [h.1,ih _ _ h.2];done)
          | (rw [h.1,l2 h.2];done)
          | (rw [h.1.1,h.1.2,l2 h.2];done)
          | (rw [h.1.1.1,h.1.1.2,h.1.2,l2 h.2];done)
          | (rw [h.1.1.1,h.1.1.2,h.1.2,h.2];done)
          | (cases h;done))
theorem Jx {a b:Option AO} (h:aoEq a b=true):a=b:=by
 have l1:∀{x y:List (List AV)},eqL (eqL (avEq aA)) x y=true->x=y:=E0 fun _ _=>E0 (V2 _)
 unfold aoEq at h;split at h
 ·simp only [QA,beq_iff_eq] at h;rw [h.1,l1 h.2]
 ·simp only [QA,beq_iff_eq] at h;rw [h.1,h.2]
 ·rw [E0 (fun p q k=>?_) h];simp only [QA] at k;exact Prod.ext (V2 _ _ _ k.1) (V2 _ _ _ k.2)
 ·rfl
 ·rfl
 ·cases h
theorem UQ {w:Wr} {ap:AH->AH} {r:Option (List Nat)} {f:Foot} {h:AH} (hap:ApOk (r,w) ap) (hn:vE w h) (hoff:w.off f.1=true)
  (hany:f.2= .any->ap=id) (hcut:∀m,f.2= .cut m->w.above m=true) (hchg:∀a b,f.2= .chg a b->ap=id) (hnf:vE f.2 h):Agree f h (ap h):=by
 obtain ⟨q,u⟩:=f;cases w with
 | no=>
  have:ap=id:=hap;subst this;exact Agree.refl hnf
 | set i=>
  obtain ⟨⟨ob,rfl⟩,_⟩:=hap;cases q with
  | none=>cases hoff
  | some l=>
   simp only [Wr.off,jK] at hoff;have hni:i∉l:=by intro hm;rw [memNat_iff.2 hm] at hoff;cases hoff
   refine ⟨fun id hid=>UE (by intro hh;subst hh;exact hni hid),?_⟩;cases u with
   | chg a b=>exact (congrFun (hchg a b rfl) h).trans hnf
   | cut m=>
    have:=hcut m rfl;simp only [Wr.above,decide_eq_true_eq] at this;exact fun id hid=>UE (by omega)
   | any=>exact congrFun (hany rfl) h
   | _=>trivial
 | mv i n=>
  obtain ⟨⟨ob,rfl⟩,_⟩:=hap;cases q with
  | none=>cases hoff
  | some l=>
   simp only [Wr.off,QA,jK] at hoff;have hni:i∉l:=by intro hm;rw [memNat_iff.2 hm] at hoff;cases hoff.1
   have hnn:n∉l:=by intro hm;rw [memNat_iff.2 hm] at hoff;cases hoff.2
   refine ⟨fun id hid=>(UE (by intro hh;subst hh;exact hnn hid)).trans (U4 (by intro hh;subst hh;exact hni hid)),?_⟩;cases u with
   | chg a b=>exact (congrFun (hchg a b rfl) h).trans hnf
   | cut m=>cases hcut m rfl
   | any=>exact congrFun (hany rfl) h
   | _=>trivial
 | chg a b=>
  have hap':ap=fun _=>b:=hap
  subst hap';have hn':h=a:=hn;subst hn';cases q with
  | none=>cases hoff
  | some l=>
   simp only [Wr.off,Qo] at hoff;refine ⟨fun id hid=>(Jx (hoff id hid)).symm,?_⟩;cases u with
   | chg a b=>exact (congrFun (hchg a b rfl) h).trans hnf
   | cut m=>cases hcut m rfl
   | any=>exact congrFun (hany rfl) h
   | _=>trivial
 | cut m=>
  have hap':ap=fun h=>h.cut m:=hap
  subst hap';cases q with
  | none=>cases hoff
  | some l=>
   simp only [Wr.off,Qo,decide_eq_true_eq] at hoff;refine ⟨fun id hid=>Eb (hoff id hid),?_⟩;cases u with
   | chg a b=>exact (congrFun (hchg a b rfl) h).trans hnf
   | cut m=>cases hcut m rfl
   | any=>exact congrFun (hany rfl) h
   | _=>trivial
 | any=>cases q<;>cases hoff
end
end Go.Av
namespace Go.Av
section
variable {e e':Env} {H:AH} {call:aW} {base:Option Nat}
theorem isNo_iff {w:Wr}:w.isNo=true↔w= .no:=by cases w<;>simp [Wr.isNo]
def NQ (x y:Foot):Prop:=∃m,x.2= .cut m/\y.2.above m=true/\y.2.off x.1=true/\x.2.off y.1=true
theorem PY {x y:Foot} (h:x.compat y=true):x=(some [],.no)\/y=(some [],.no)\/NQ x y\/NQ y x\/((∀n m p q,x.2= .mv n m->y.2= .mv p q->False)/\(∀a b,x.2= .chg a b->y.2= .no)/\(∀a b,y.2= .chg a b->x.2= .no)/\x.2.off y.1=true/\y.2.off x.1=true/\(∀m,x.2≠ .cut m)/\(∀m,y.2≠ .cut m)):=by
 unfold Foot.compat at h;split at h
 ·exact .inl rfl
 ·exact .inr (.inl rfl)
 ·cases h
 ·simp only [QA] at h;obtain rfl:=isNo_iff.1 h.1;exact .inr (.inr (.inr (.inr ⟨(fun _ _ _ _ k=>by cases k),(fun _ _ _=>rfl),(fun _ _ k=>by cases k),h.2,rfl,(fun _ k=>by cases k),(fun _ k=>by cases k)⟩)))
 ·simp only [QA] at h;obtain rfl:=isNo_iff.1 h.1;exact .inr (.inr (.inr (.inr ⟨(fun _ _ _ _ k=>by cases k),(fun _ _ k=>by cases k),(fun _ _ _=>rfl),rfl,h.2,(fun _ k=>by cases k),(fun _ k=>by cases k)⟩)))
 ·simp only [QA] at h;exact .inr (.inr (.inl ⟨_,rfl,h.1.1,h.1.2,h.2⟩))
 ·simp only [QA] at h;exact .inr (.inr (.inr (.inl ⟨_,rfl,h.1.1,h.1.2,h.2⟩)))
 ·rename_i r v q u _ _ hnn hc1 hc2 hz1 hz2;simp only [QA] at h;refine .inr (.inr (.inr (.inr ⟨?_,?_,?_,h.1,h.2,?_,?_⟩)))
  ·intro n m p q h1 h2;cases h1;cases h2;exact hnn _ _ _ _ rfl rfl
  ·intro a b h1;cases h1;exact absurd rfl (hc1 _ _)
  ·intro a b h1;cases h1;exact absurd rfl (hc2 _ _)
  ·intro m h1;cases h1;exact absurd rfl (hz1 _)
  ·intro m h1;cases h1;exact absurd rfl (hz2 _)
theorem vJ {f:Foot} {ap:AH->AH} (h:ApOk f ap) (hf:f.2= .no):ap=id:=by
 obtain ⟨r,w⟩:=f;cases hf;exact h
theorem Kq {f:Foot} {ap:AH->AH} {m:Nat} (h:ApOk f ap) (hf:f.2= .cut m):ap=fun h=>h.cut m:=by
 obtain ⟨r,w⟩:=f;cases hf;exact h
theorem XU {x y:Foot} {apx:AH->AH} {h:AH} (hc:x.compat y=true\/y.compat x=true) (hx:ApOk x apx) (hnx:vE x.2 h) (hny:vE y.2 h):Agree y h (apx h):=by
 have cut1:NQ x y->Agree y h (apx h):=by
  rintro ⟨m,e,ha,_,ho⟩;refine UQ (r:=x.1) (w:=x.2) hx hnx ho ?_ ?_ ?_ hny
  ·intro hany;rw [hany] at ha;cases ha
  ·intro m' hm;rw [hm] at ha;cases ha
  ·intro a b k;rw [k] at ha;cases ha
 have cut2:NQ y x->Agree y h (apx h):=by
  rintro ⟨m,e,ha,ho,_⟩;refine UQ (r:=x.1) (w:=x.2) hx hnx ho ?_ ?_ ?_ hny
  ·intro hany;rw [hany] at e;cases e
  ·intro m' hm;rw [e] at hm;cases hm;exact ha
  ·intro a b k;rw [k] at e;cases e
 have key:(x=(some [],.no)\/y=(some [],.no)\/((∀n m p q,x.2= .mv n m->y.2= .mv p q->False)/\(∀a b,x.2= .chg a b->y.2= .no)/\(∀a b,y.2= .chg a b->x.2= .no)/\x.2.off y.1=true/\y.2.off x.1=true/\(∀m,x.2≠ .cut m)/\(∀m,y.2≠ .cut m)))->Agree y h (apx h):=by
  rintro (rfl | rfl | ⟨h1,c1,c2,h2,h3,z1,z2⟩)
  ·rw [vJ hx rfl];exact Agree.refl hny
  ·exact ⟨fun id hid=>(by cases hid),trivial⟩
  ·refine UQ (r:=x.1) (w:=x.2) hx hnx h2 ?_ (fun m k=>absurd k (z2 m)) (fun a b k=>vJ hx (c2 a b k)) hny;intro hany;rw [hany] at h3;cases hxx:x.1<;>rw [hxx] at h3<;>cases h3
 rcases hc with hc | hc
 ·rcases PY hc with h1 | h1 | h1 | h1 | h1
  ·exact key (.inl h1)
  ·exact key (.inr (.inl h1))
  ·exact cut1 h1
  ·exact cut2 h1
  ·exact key (.inr (.inr h1))
 ·rcases PY hc with h1 | h1 | h1 | h1 | ⟨h1,c1,c2,h2,h3,z1,z2⟩
  ·exact key (.inr (.inl h1))
  ·exact key (.inl h1)
  ·exact cut2 h1
  ·exact cut1 h1
  ·exact key (.inr (.inr ⟨fun n m p q a b=>h1 p q n m b a,c2,c1,h3,h2,z2,z1⟩))
theorem ZX {x y:Foot} {apx apy:AH->AH} {h:AH} (hc:NQ x y) (hx:ApOk x apx) (hy:ApOk y apy):apy (apx h)=apx (apy h):=by
 obtain ⟨m,e,ha,_,_⟩:=hc;rw [Kq hx e];obtain ⟨q,u⟩:=y;cases u with
 | no=>rw [vJ hy rfl];rfl
 | set i=>
  obtain ⟨⟨b,rfl⟩,_⟩:=hy;simp only [Wr.above,decide_eq_true_eq] at ha;exact (Kf ha).symm
 | _=>cases ha
theorem Cz {x y:Foot} {apx apy:AH->AH} {h:AH} (hc:x.compat y=true) (hx:ApOk x apx) (hy:ApOk y apy) (hnx:vE x.2 h) (hny:vE y.2 h):apy (apx h)=apx (apy h):=by
 rcases PY hc with rfl | rfl | hz | hz | ⟨h1,c1,c2,h2,h3,z1,z2⟩
 ·rw [vJ hx rfl];rfl
 ·rw [vJ hy rfl];rfl
 ·exact ZX hz hx hy
 ·exact (ZX hz hy hx).symm
 ·obtain ⟨r,w⟩:=x;obtain ⟨q,u⟩:=y;cases w with
  | no=>rw [vJ hx rfl];rfl
  | any=>cases q<;>cases h2
  | cut m=>exact absurd rfl (z1 m)
  | chg a b=>
   obtain rfl:u= .no:=c1 a b rfl;rw [vJ hy rfl];rfl
  | set i=>
   cases u with
   | no=>rw [vJ hy rfl];rfl
   | chg a b=>cases c2 a b rfl
   | any=>cases r<;>cases h3
   | cut m=>exact absurd rfl (z2 m)
   | set j=>
    obtain ⟨⟨a,rfl⟩,_⟩:=hx;obtain ⟨⟨b,rfl⟩,l,hl,hj⟩:=hy;simp only at hl;subst hl;refine V8 ?_;intro hij;subst hij;simp only [Wr.off,jK] at h2;rw [memNat_iff.2 hj] at h2;cases h2
   | mv m n=>
    obtain ⟨⟨a,rfl⟩,l,hl,hi⟩:=hx;obtain ⟨⟨b,rfl⟩,_⟩:=hy;simp only at hl;subst hl;simp only [Wr.off,QA,jK] at h3;have h31:m≠i:=by intro hij;subst hij;rw [memNat_iff.2 hi] at h3;cases h3.1
    have h32:n≠i:=by intro hij;subst hij;rw [memNat_iff.2 hi] at h3;cases h3.2
    show ((h.set i a).kill m).set n b=((h.kill m).set n b).set i a;rw [g' h31,V8 (Ne.symm h32)]
  | mv m n=>
   cases u with
   | no=>rw [vJ hy rfl];rfl
   | chg a b=>cases c2 a b rfl
   | any=>cases r<;>cases h3
   | cut m=>exact absurd rfl (z2 m)
   | mv _ _=>exact (h1 _ _ _ _ rfl rfl).elim
   | set j=>
    obtain ⟨⟨a,rfl⟩,_⟩:=hx;obtain ⟨⟨b,rfl⟩,l,hl,hj⟩:=hy;simp only at hl;subst hl;simp only [Wr.off,QA,jK] at h2;have h31:m≠j:=by intro hij;subst hij;rw [memNat_iff.2 hj] at h2;cases h2.1
    have h32:n≠j:=by intro hij;subst hij;rw [memNat_iff.2 hj] at h2;cases h2.2
    show ((h.kill m).set n a).set j b=((h.set j b).kill m).set n a;rw [g' h31,V8 h32]
structure DD where
 o:Xc
 f:Foot
 v:AV
 ap:AH->AH
def Seq (call:aW) (base:Option Nat):Env->AH->List DD->Prop
 | _,_,[]=>True
 | e,h,d::r=>Stb call base d.o e h d.f d.v d.ap/\Seq call base (putE e d.o.dst d.v) (d.ap h) r
def finE:Env->List DD->Env
 | e,[]=>e
 | e,d::r=>finE (putE e d.o.dst d.v) r
def finH:AH->List DD->AH
 | h,[]=>h
 | h,d::r=>finH (d.ap h) r
theorem DN {e:Env} {d:Option Nat} {v:AV} {t:Nat}:look t (putE e d v)=if d=some t then some v else look t e:=by
 cases d with
 | none=>simp [putE]
 | some d=>
  simp only [putE,look];by_cases h:d=t<;>simp [h]
theorem EqE.put {e e':Env} (h:EqE e e') (d:Option Nat) (v:AV):EqE (putE e d v) (putE e' d v):=by
 intro t;rw [DN,DN,h t]
theorem Seq.eqE:∀{ds:List DD} {e e':Env} {h:AH},EqE e e'->Seq call base e h ds->Seq call base e' h ds/\EqE (finE e ds) (finE e' ds)
 | [],_,_,_,he,_=>⟨trivial,he⟩
 | d::r,e,e',h,he,hs=>by
  obtain ⟨h1,h2⟩:=hs;obtain ⟨k1,k2⟩:=Seq.eqE (he.put d.o.dst d.v) h2;exact ⟨⟨h1.move (fun t _=>(he t).symm) (Agree.refl h1.next),k1⟩,k2⟩
structure PairOk (x y:DD):Prop where
 t:FA x.o y.o=true
 h:x.f.compat y.f=true
theorem Ck {x y:Xc} (h:FA x y=true):(∀d,x.dst=some d->d∉y.rds/\y.dst≠some d)/\∀d,y.dst=some d->d∉x.rds:=by
 unfold FA at h;simp only [QA] at h;obtain ⟨h1,h2⟩:=h;refine ⟨?_,?_⟩
 ·intro d hd;rw [hd] at h1;simp only [QA,jK,beq_eq_false_iff_ne,ne_eq] at h1;exact ⟨fun hm=>(by rw [memNat_iff.2 hm] at h1;cases h1.1),h1.2⟩
 ·intro d hd;rw [hd] at h2;simp only [jK] at h2;exact fun hm=>by rw [memNat_iff.2 hm] at h2;cases h2
theorem Y5 {e:Env} {o:Xc} {d:Option Nat} {v:AV} (h:∀t,d=some t->t∉o.rds):∀t,t∈o.rds->look t (putE e d v)=look t e:=by
 intro t ht;rw [DN,a8];intro hd;exact h t hd ht
theorem swap2 {x y:DD} {r:List DD} {h:AH} (hp:PairOk y x) (hs:Seq call base e h (y::x::r)):
  Seq call base e h (x::y::r)/\EqE (finE e (y::x::r)) (finE e (x::y::r))/\finH h (y::x::r)=finH h (x::y::r):=by
 obtain ⟨hy,hx,hr⟩:=hs;obtain ⟨t1,t2⟩:=Ck hp.t;have hxr:∀t,y.o.dst=some t->t∉x.o.rds:=fun t ht=>(t1 t ht).1
 have hnx0:vE x.f.2 h:=by
  have:=hx.next;have hyok:=hy.ok;rcases PY hp.h with h1 | h1 | ⟨m,e,ha,_,_⟩ | ⟨m,e,_,_,_⟩ | ⟨_,_,c2,_,_,_,_⟩
  ·rw [vJ hyok (by rw [h1])] at this;exact this
  ·rw [h1];trivial
  ·generalize x.f=fx at*;obtain ⟨r2,w2⟩:=fx;cases w2 with
   | chg a b=>cases ha
   | _=>trivial
  ·rw [e];trivial
  ·generalize x.f=fx at*;obtain ⟨r2,w2⟩:=fx;cases w2 with
   | chg a b=>rw [vJ hyok (c2 a b rfl)] at this;exact this
   | _=>trivial
 have ha1:Agree x.f h (y.ap h):=XU (.inl hp.h) hy.ok hy.next hnx0;have hx0:Stb call base x.o e h x.f x.v x.ap:=hx.move (fun t ht=>(Y5 hxr t ht).symm) (Agree.symm hnx0 ha1);have ha2:Agree y.f h (x.ap h):=XU (.inr hp.h) hx0.ok hnx0 hy.next;have hy1:Stb call base y.o (putE e x.o.dst x.v) (x.ap h) y.f y.v y.ap:=hy.move (Y5 t2) ha2;have hcomm:x.ap (y.ap h)=y.ap (x.ap h):=Cz hp.h hy.ok hx.ok hy.next hnx0;have hee:EqE (putE (putE e y.o.dst y.v) x.o.dst x.v) (putE (putE e x.o.dst x.v) y.o.dst y.v):=by
  intro t;simp only [DN];by_cases h1:x.o.dst=some t
  ·by_cases h2:y.o.dst=some t
   ·exact absurd h1 (t1 t h2).2
   ·simp [h1,h2]
  ·simp [h1]
 rw [hcomm] at hr;obtain ⟨k1,k2⟩:=Seq.eqE hee hr;exact ⟨⟨hx0,hy1,k1⟩,k2,by simp only [finH,hcomm]⟩
theorem TY {x:DD}:∀{as bs:List DD} {e:Env} {h:AH},(∀y,y∈as->PairOk y x)->Seq call base e h (as++x::bs)->
  Seq call base e h (x::(as++bs))/\EqE (finE e (as++x::bs)) (finE e (x::(as++bs)))/\finH h (as++x::bs)=finH h (x::(as++bs))
 | [],_,_,_,_,hs=>⟨hs,fun _=>rfl,rfl⟩
 | y::as,bs,e,h,hp,hs=>by
  obtain ⟨hy,hr⟩:=hs;obtain ⟨k1,k2,k3⟩:=TY (as:=as) (bs:=bs) (fun z hz=>hp z (wI _ hz)) hr;obtain ⟨m1,m2,m3⟩:=swap2 (hp y (by simp)) (r:=as++bs) ⟨hy,k1⟩;exact ⟨m1,fun t=>(k2 t).trans (m2 t),k3.trans m3⟩
end
end Go.Av
namespace Go.Av
section
variable {e e':Env} {h:AH} {call:aW} {base dst:Option Nat} {nx:Nat}
def OpFoot (call:aW) (base:Option Nat) (dst:Option Nat) (e:Env) (h:AH) (op:AOp) (v:AV) (h':AH) (f:Foot):Prop:=
 ∃ap,ApOk f ap/\vE f.2 h/\h'=ap h/\∀h2,Agree f h h2->a7 call e (bN base dst h2) h2 op=some (.val v,ap h2)
theorem OpFoot.any {op:AOp} {v:AV} {h':AH} (hv:a7 call e (bN base dst h) h op=some (.val v,h')):OpFoot call base dst e h op v h' (none,.any):=
 ⟨fun _=>h',trivial,trivial,rfl,fun h2 ha=>by have h1:h2=h:=ha.2;rw [h1];exact hv⟩
theorem OpFoot.read {op:AOp} {v:AV} {h':AH} (hv:a7 call e (bN base dst h) h op=some (.val v,h')) (hh:h'=h):OpFoot call base dst e h op v h' (none,.no):=
 ⟨id,rfl,trivial,hh,fun h2 ha=>by have h1:h2=h:=ha.1;subst h1;rw [hv,hh];rfl⟩
theorem OpFoot.quiet {op:AOp} {v:AV} {h':AH} (hh:h'=h) (hv:∀nx h2,a7 call e nx h2 op=some (.val v,h2)):OpFoot call base dst e h op v h' (some [],.no):=
 ⟨id,rfl,trivial,hh,fun h2 _=>hv _ h2⟩
theorem OpFoot.set {op:AOp} {v:AV} {h':AH} (id:Nat) (ob:AO) (hh:h'=h.set id ob) (hv:∀nx (h2:AH),h2.get id=h.get id->a7 call e nx h2 op=some (.val v,h2.set id ob)):OpFoot call base dst e h op v h' (some [id],.set id):=
 ⟨fun h=>h.set id ob,⟨⟨ob,rfl⟩,[id],rfl,by simp⟩,trivial,hh,fun h2 ha=>hv _ h2 (ha.1 id (by simp))⟩
theorem OpFoot.get {op:AOp} {v:AV} {h':AH} (id:Nat) (hh:h'=h) (hv:∀nx (h2:AH),h2.get id=h.get id->a7 call e nx h2 op=some (.val v,h2)):OpFoot call base dst e h op v h' (some [id],.no):=
 ⟨fun h=>h,rfl,trivial,hh,fun h2 ha=>hv _ h2 (ha.1 id (by simp))⟩
theorem NB {h:AH} (hne:bN base dst h≠h.next):∃n d,base=some n/\dst=some d/\bN base dst h=n+d:=by
 unfold bN at hne ⊢;split at hne
 ·rename_i n d;split at hne
  ·rename_i hg;exact ⟨n,d,rfl,rfl,by simp only [hg]⟩
  ·exact absurd rfl hne
 ·exact absurd rfl hne
theorem OpFoot.new {op:AOp} {v:AV} {h':AH} (ob:AO) (hv:a7 call e (bN base dst h) h op=some (.val v,h')) (hh:h'=h.put (bN base dst h) ob)
  (hv2:∀h2:AH,a7 call e (bN base dst h) h2 op=some (.val v,h2.put (bN base dst h) ob)):OpFoot call base dst e h op v h' (CD (bN base dst h) h):=by
 unfold CD;split
 ·rename_i hres;split
  ·exact .any hv
  ·rename_i hne;obtain ⟨n,d,rfl,rfl,hnx⟩:=NB hne;rw [hnx] at hres hv2 hh ⊢;refine ⟨fun h=>h.set (n+d) ob,⟨⟨ob,rfl⟩,[n+d],rfl,by simp⟩,trivial,?_,?_⟩
   ·rw [hh];unfold AH.put;rw [hres]
   ·intro h2 ha;have hg:h2.get (n+d)=some .res:=by rw [ha.1 (n+d) (by simp)];exact hres
    have:bN (some n) (some d) h2=n+d:=by
     unfold bN;simp only [hg]
    rw [this,hv2 h2];unfold AH.put;rw [hg]
 ·exact .any hv
theorem jA {op:AOp} {v:AV} {h':AH} (hk:op.isCall=false) (hv:a7 call e nx h op=some (.val v,h')):evOp e nx h op=some (v,h'):=by
 rw [DH hk] at hv;split at hv
 ·rename_i heq;cases hv;exact heq
 ·cases hv
theorem f7 {op:AOp} {v:AV} {h':AH} (hk:op.isCall=false) (hv:evOp e nx h op=some (v,h')):a7 call e nx h op=some (.val v,h'):=by
 rw [DH hk,hv]
theorem Lz {op:AOp} {v:AV} {h':AH} (hk:op.isCall=false) (hc:op.cls= .i) (hv:a7 call e (bN base dst h) h op=some (.val v,h')):OpFoot call base dst e h op v h' (some [],.no):=by
 have h1:=jA hk hv;rw [Ag hc] at h1;obtain ⟨r,k1,k2⟩:=map_some h1;cases k2;refine .quiet rfl fun _ h2=>f7 hk ?_
 rw [Ag hc,k1];rfl
theorem UX {H:AH} {t:Nat} {y:AO} (h:H.get t=some y):H.set t y=H:=by
 have key:∀l:List (Nat×AO),look t l=some y->setl t y l=l:=by
  intro l
  induction l with
  | nil=>intro h;cases h
  | cons p r ih=>
   obtain ⟨u,x⟩:=p;intro h;unfold setl;unfold look at h;split
   ·rename_i hu;rw [a9 hu] at h;cases h;rfl
   ·rename_i hu;rw [a8 hu] at h;rw [ih h]
 unfold AH.set;rw [key _ h]
theorem Ix:∀(n:Nat) (x:AV) {H H2:AH},(∀id,H2.get id=H.get id)->snap n H2 x=snap n H x:=by
 intro n
 induction n with
 | zero=>intro x H H2 _;rfl
 | succ n ih=>
  intro x H H2 hg;have l1:∀l:List AV,mapO (snap n H2) l=mapO (snap n H) l:=fun l=>gM fun a _=>ih a hg
  have l2:∀l:List (List AV),mapO (mapO (snap n H2)) l=mapO (mapO (snap n H)) l:=fun l=>gM fun a _=>l1 a
  cases x<;>simp only [snap,l1,l2,ih _ hg,hg]
theorem R' {h:AH} {id:Nat}:∀{as as':List AV},DY as=some id->mapO (w9 h id) as=some as'->∃z es,h.get id=some (.row z es)
 | [],_,hr,_=>by cases hr
 | x::r,as',hr,hm=>by
  unfold mapO at hm;split at hm
  ·cases hm
  ·rename_i y hy;split at hm
   ·cases hm
   ·rename_i ys hys;cases x
    case row i z off len=>
     cases hr;unfold w9 at hy;simp only [if_true] at hy;unfold yZ at hy;split at hy
     ·rename_i z' es hg;exact ⟨z',es,hg⟩
     ·cases hy
    all_goals exact R' (as:=r) hr hys
theorem Fm {h h2:AH} {id:Nat} (as:List AV) (hg:h2.get id=h.get id):mapO (w9 h2 id) as=mapO (w9 h id) as:=by
 refine gM fun a _=>?_
 unfold w9;split
 ·rename_i i z off len _;split
  ·rename_i hi;subst hi;unfold yZ;rw [hg];split
   ·rename_i z' es hget;split
    ·rename_i hc;have:mapO (mapO (snap aA h2)) ((es.drop off).take len)=mapO (mapO (snap aA h)) ((es.drop off).take len):=by
      refine gM fun e he=>gM fun x hx=>C8 _ x h2 h (gB hc.2.2 x ?_)
      rw [wJ];exact ⟨e,nI (Qr he),hx⟩
     rw [this]
    ·rfl
   ·rfl
  ·rfl
 ·split
  ·rfl
  ·rename_i hb;exact C8 _ a h2 h (by simpa using hb)
theorem Q5 {f:FuncId} {vs:List AV} {v:AV} {h':AH} (hv:dL call f vs h=some (.val v,h')):
  h'=h/\(anyL (bor aA) vs=false->∀h2,dL call f vs h2=some (.val v,h2)):=by
 unfold dL at hv;have hsn:anyL (bor aA) vs=false->∀h2,mapO (snap aA h2) vs=mapO (snap aA h) vs:=fun hb h2=>
  gM fun a ha=>C8 _ a h2 h (gB hb a ha)
 split at hv
 ·cases hv
 ·rename_i as has;split at hv
  ·rename_i r H1 hcall;split at hv
   ·rename_i y hy;split at hv
    ·cases hv
    ·cases hv;refine ⟨rfl,fun hb h2=>?_⟩;unfold dL;rw [hsn hb h2,has];simp only [hcall,hy,hb,Bool.false_and,eM,if_false]
   ·cases hv
  ·split at hv
   ·split at hv<;>cases hv
   ·cases hv
  ·cases hv
theorem Ie {f:FuncId} {vs:List AV} {v:AV} {h':AH} (hv:lQ call f vs h=some (.val v,h')):
  h'=h/\(anyL (bor aA) vs=false->∀h2,lQ call f vs h2=some (.val v,h2)):=by
 unfold lQ at hv;have hsn:anyL (bor aA) vs=false->∀h2,mapO (snap aA h2) vs=mapO (snap aA h) vs:=fun hb h2=>
  gM fun a ha=>C8 _ a h2 h (gB hb a ha)
 split at hv
 ·cases hv
 ·rename_i as has;split at hv
  ·rename_i hcall;split at hv
   ·rename_i hget;split at hv
    ·rename_i hz;split at hv
     ·rename_i hes;split at hv
      ·cases hv
      ·rename_i hfl;cases hv;refine ⟨rfl,fun hb h2=>?_⟩;unfold lQ;rw [hsn hb h2,has];simp only [hcall,hget,a9 hz,hes,a8 hfl]
     ·cases hv
    ·cases hv
   ·cases hv
  ·rename_i hcall;cases hv;refine ⟨rfl,fun hb h2=>?_⟩;unfold lQ;rw [hsn hb h2,has];simp only [hcall]
  ·cases hv
theorem Kk {op:AOp} {v:AV} {h':AH} (hv:a7 call e (bN base dst h) h op=some (.val v,h')):OpFoot call base dst e h op v h' (foot e (bN base dst h) h op):=by
 by_cases hi:op.isCall=false/\op.cls= .i
 ·have:foot e (bN base dst h) h op=(some [],.no):=by
   cases op<;>first
    | rfl
    | (cases hi.2;done)
    | (rename_i m _ _ _;cases m<;>first | rfl | (cases hi.2;done))
  rw [this];exact Lz hi.1 hi.2 hv
 ·cases op
  case load g n x=>
   have h1:=jA rfl hv;simp only [evOp] at h1;simp only [foot];split at h1
   ·rename_i id esz i off hx;simp only [hx];split at h1
    ·rename_i esz' es hget;split at h1
     ·rename_i hz;split at h1
      ·rename_i cs hcs;obtain ⟨y,hy,k2⟩:=map_some h1;cases k2;refine .get id rfl fun _ h2 hg=>f7 rfl ?_
       rw [hget] at hg;simp only [evOp,hx,hg,a9 hz,hcs,hy,A3]
      ·cases h1
     ·cases h1
    ·cases h1
   ·rename_i esz es i off hx;simp only [hx];split at h1
    ·rename_i cs hcs;obtain ⟨y,hy,k2⟩:=map_some h1;cases k2;refine .quiet rfl fun _ h2=>f7 rfl ?_
     simp only [evOp,hx,hcs,hy,A3]
    ·cases h1
   ·cases h1
  case sarr z n x lo hi mx=>
   have h1:=jA rfl hv;simp only [evOp] at h1;simp only [foot];split at h1
   ·rename_i id z' hx;simp only [hx];split at h1
    ·rename_i z2 es hget;split at h1
     ·rename_i hz;split at h1
      ·rename_i l h3 mo hb;split at h1
       ·rename_i hmo;cases h1;refine .get id rfl fun _ h2 hg=>f7 rfl ?_
        rw [hget] at hg;simp only [evOp,hx,hg,a9 hz,hb,a9 hmo]
       ·cases h1
      ·cases h1
     ·cases h1
    ·cases h1
   ·cases h1
  case pcall f xs=>
   simp only [a7] at hv;split at hv
   ·rename_i as has;obtain ⟨h1,h2⟩:=Q5 hv;simp only [foot,z5,has];cases hb:anyL (bor aA) as with
    | true=>exact .read (by simp only [a7,has,hv]) h1
    | false=>exact .quiet h1 fun _ h3=>by simp only [a7,has,h2 hb h3]
   ·cases hv
  case pcallk f xs=>
   simp only [a7] at hv;split at hv
   ·rename_i as has;split at hv
    ·rename_i id hid;split at hv
     ·rename_i as' has';split at hv
      ·cases hv
      rename_i hnb;have hnb':anyL (bor aA) as'=false:=by simpa using hnb
      obtain ⟨h1,h2⟩:=Q5 hv;subst h1;simp only [foot,VJ,has,hid];split
      ·rename_i hres;split
       ·exact .any (by simp only [a7,has,hid,has',hv,a8 hnb])
       ·rename_i hne;obtain ⟨n,d,rfl,rfl,hnx⟩:=NB hne;rw [hnx] at hres ⊢;obtain ⟨z,es,hget⟩:=R' hid has';have hin:n+d≠id:=by intro hh;rw [hh,hget] at hres;cases hres
        have hset:∀h2:AH,h2.get (n+d)=some .res->(h2.kill id).set (n+d) .res=h2.kill id:=fun h2 hg=>UX (by rw [U4 hin];exact hg)
        refine ⟨fun h=>(h.kill id).set (n+d) .res,⟨⟨_,rfl⟩,[id,n+d],rfl,by simp,by simp⟩,trivial,(hset h hres).symm,?_⟩;intro h3 ha;have hg:h3.get (n+d)=some .res:=by rw [ha.1 (n+d) (by simp)];exact hres
        have hg2:h3.get id=h.get id:=ha.1 id (by simp);simp only [a7,has,hid,Fm as hg2,has',a8 hnb,h2 hnb' (h3.kill id),hset h3 hg]
      ·exact .any (by simp only [a7,has,hid,has',hv,a8 hnb])
     ·cases hv
    ·cases hv
   ·cases hv
  case pcallr f xs=>
   simp only [a7] at hv;split at hv
   ·rename_i as has;simp only [foot,P',has];split
    ·exact .any (by simp only [a7,has,hv])
    rename_i hb;have hb':anyL (bor aA) as=false:=by simpa using hb
    have hsn:∀h2,mapO (snap aA h2) as=mapO (snap aA h) as:=fun h2=>
     gM fun a ha=>C8 _ a h2 h (gB hb' a ha)
    unfold jQ at hv;split at hv
    ·cases hv
    rename_i as' has';split at hv
    ·rename_i id z off len H1 hcall;split at hv
     ·rename_i z' es hget;split at hv
      ·rename_i es' hes;split at hv
       ·cases hv
       ·rename_i hfl;cases hv;refine .new (.row z' es') (by simp only [a7,has,jQ,has',hcall,hget,hes,a8 hfl]) rfl fun h2=>?_
        simp only [a7,has,jQ,hsn h2,has',hcall,hget,hes,a8 hfl]
      ·cases hv
     ·cases hv
    ·rename_i z H1 hcall;cases hv;unfold CD;split
     ·rename_i hres;split
      ·exact .any (by simp only [a7,has,jQ,has',hcall])
      ·rename_i hne;obtain ⟨n,d,rfl,rfl,hnx⟩:=NB hne;rw [hnx] at hres ⊢;refine .set (n+d) .res (UX hres).symm fun nx h2 hg=>?_
       rw [hres] at hg;rw [UX hg];simp only [a7,has,jQ,hsn h2,has',hcall]
     ·exact .any (by simp only [a7,has,jQ,has',hcall])
    ·cases hv
   ·cases hv
  case pcallz k f xs=>
   simp only [a7] at hv;split at hv
   ·rename_i as has;split at hv
    ·rename_i as' has';split at hv
     ·cases hv
     rename_i hnb;have hnb':anyL (bor aA) as'=false:=by simpa using hnb
     obtain ⟨h1,h2⟩:=Q5 hv;simp only [foot,footZ];split
     ·rename_i hres;split
      ·exact .any (by simp only [a7,has,has',hv,a8 hnb])
      ·rename_i hne;obtain ⟨n,d,rfl,rfl,hnx⟩:=NB hne;rw [hnx] at hres has' h1 ⊢;refine ⟨fun h=>h.cut (n+d - k),rfl,trivial,h1,?_⟩;intro h3 ha;have hg:h3.get (n+d)=some .res:=by rw [ha.1 (n+d) (by simp)];exact hres
       have hnx3:bN (some n) (some d) h3=n+d:=by
        unfold bN;simp only [hg]
       have hold:∀id,(h3.old (n+d - k)).get id=(h.old (n+d - k)).get id:=by
        intro id;rw [V5,V5];split
        ·rename_i hlt;exact ha.2 id hlt
        ·rfl
       have hsn:mapO (snap aA (h3.old (n+d - k))) as=some as':=by
        rw [<- has'];exact gM fun a _=>Ix _ a hold
       simp only [a7,has,hnx3,hsn,a8 hnb,h2 hnb' (h3.cut (n+d - k))]
     ·exact .any (by simp only [a7,has,has',hv,a8 hnb])
    ·cases hv
   ·cases hv
  case pcallf f xs=>
   simp only [a7] at hv;split at hv
   ·rename_i as has;obtain ⟨h1,h2⟩:=Ie hv;simp only [foot,z5,has];cases hb:anyL (bor aA) as with
    | true=>exact .read (by simp only [a7,has,hv]) h1
    | false=>exact .quiet h1 fun _ h3=>by simp only [a7,has,h2 hb h3]
   ·cases hv
  case pcallv f xs=>
   simp only [a7] at hv;split at hv
   ·rename_i fv as hf has;split at hv
    ·rename_i k first caps htg
     obtain ⟨h1,h2⟩:=Q5 hv;simp only [foot,z5,hf,has,htg];cases hb:anyL (bor aA) (first++as++caps) with
     | true=>exact .read (by simp only [a7,hf,has,htg,hv]) h1
     | false=>exact .quiet h1 fun _ h3=>by simp only [a7,hf,has,htg,h2 hb h3]
    ·cases hv
   ·cases hv
  case b2s x=>
   have h1:=jA rfl hv;have hh:h'=h:=by
    simp only [evOp] at h1
    repeat' split at h1
    all_goals first
     | (cases h1;done)
     | (cases h1;rfl)
   simp only [foot];subst hh;cases hv0:evX e x with
   | none=>exact .read hv rfl
   | some v0=>
    cases v0 with
    | row id z off len=>
     refine .get id rfl fun _ h2 hg=>f7 rfl ?_
     simp only [evOp,hv0,gC] at h1 ⊢;rw [hg];revert h1
     repeat' split
     all_goals first
      | (intro k;cases k;done)
      | (intro k;cases k;simp [*])
      | (intro k;cases k;rfl)
    | str s=>simp only [evOp,hv0] at h1;cases h1
    | slice z es=>refine .quiet rfl fun nx h2=>f7 rfl ?_;simp only [evOp,hv0,gC] at h1 ⊢;split at h1<;>first | (cases h1;done) | (rename_i hb;cases h1;simp only [hb])
    | Xa z es=>refine .quiet rfl fun nx h2=>f7 rfl ?_;simp only [evOp,hv0,gC] at h1 ⊢;split at h1<;>first | (cases h1;done) | (rename_i hb;cases h1;simp only [hb])
    | app z es t=>refine .quiet rfl fun nx h2=>f7 rfl ?_;simp only [evOp,hv0,gC] at h1 ⊢;split at h1<;>first | (cases h1;done) | (rename_i hb;cases h1;simp only [hb])
    | _=>simp only [evOp,hv0,gC] at h1;cases h1
  case lookup kd z ok x k=>
   refine .read hv ?_;have h1:=jA rfl hv;simp only [evOp] at h1
   repeat' split at h1
   all_goals first
    | (cases h1;done)
    | (cases h1;rfl)
  case mlen x=>
   refine .read hv ?_;have h1:=jA rfl hv;simp only [evOp] at h1
   repeat' split at h1
   all_goals first
    | (cases h1;done)
    | (cases h1;rfl)
  case store n x y=>
   have h1:=jA rfl hv;simp only [evOp] at h1;simp only [foot];split at h1
   ·rename_i id esz i off yv hx hy;simp only [hx];split at h1
    ·cases h1
    ·rename_i vs hvs;split at h1
     ·rename_i hl;split at h1
      ·rename_i esz' es hget;split at h1
       ·rename_i hz;split at h1
        ·rename_i cs hcs;split at h1
         ·rename_i cs' hcs';cases h1;refine .set id _ rfl fun _ h2 hg=>f7 rfl ?_
          rw [hget] at hg;simp only [evOp,hx,hy,hvs,a9 hl,hg,a9 hz,hcs,hcs']
         ·cases h1
        ·cases h1
       ·cases h1
      ·cases h1
     ·cases h1
   ·cases h1
  case alloc z=>
   have h1:=jA rfl hv;simp only [evOp] at h1;cases h1;exact .new _ hv rfl fun h2=>f7 rfl (by simp only [evOp])
  case alloca n z=>
   have h1:=jA rfl hv;simp only [evOp] at h1;cases h1;exact .new _ hv rfl fun h2=>f7 rfl (by simp only [evOp])
  case nilapp z=>
   have h1:=jA rfl hv;simp only [evOp] at h1;cases h1;exact .new _ hv rfl fun h2=>f7 rfl (by simp only [evOp])
  case mkmap=>
   have h1:=jA rfl hv;simp only [evOp] at h1;cases h1;exact .new _ hv rfl fun h2=>f7 rfl (by simp only [evOp])
  case box x=>
   have h1:=jA rfl hv;simp only [evOp] at h1;split at h1
   ·rename_i y hy;split at h1
    ·rename_i vs hvs;cases h1;exact .new _ hv rfl fun h2=>f7 rfl (by simp only [evOp,hy,hvs])
    ·cases h1
   ·cases h1
  case bslice m esz z parts=>
   have h1:=jA rfl hv;cases m
   case imm=>exact absurd ⟨rfl,rfl⟩ hi
   case row=>
    simp only [evOp] at h1;split at h1
    ·cases h1
    ·rename_i ps hps;cases h1;exact .new _ hv rfl fun h2=>f7 rfl (by simp only [evOp,hps])
   case app=>
    simp only [evOp] at h1;split at h1
    ·cases h1
    ·rename_i ps hps;split at h1
     ·cases h1
     ·rename_i es' hes;split at h1
      ·cases h1
      ·rename_i hb;cases h1;refine .new _ hv rfl fun h2=>f7 rfl ?_
       have hb':anyL (bor aA) (List.foldl (fun es p=>es.set p.1 p.2) z ps).flatten=false:=by simpa using hb
       have hf:=XW hb' h2 h;simp only [evOp,hps];rw [hf,hes];simp only [hb',eM,if_false]
  case mkslice m esz bytes z len cp=>
   cases m
   case row=>
    have h1:=jA rfl hv;simp only [evOp] at h1;split at h1
    ·rename_i k1 l k2 c hl hc;split at h1
     ·rename_i hb;split at h1
      ·rename_i hlc;cases h1;exact .new _ hv rfl fun h2=>f7 rfl (by simp only [evOp,hl,hc,a9 hb,a9 hlc])
      ·cases h1
     ·cases h1
    ·cases h1
   case imm=>
    have h1:=jA rfl hv;simp only [foot];cases hb:anyL (bor aA) z with
    | true=>exact .any hv
    | false=>
     simp only [eM,if_false];simp only [evOp] at h1;split at h1
     ·rename_i k1 l k2 c hl hc;split at h1
      ·rename_i hbd;split at h1
       ·rename_i z' hz';split at h1
        ·rename_i hlc;cases h1;refine .quiet rfl fun nx h2=>f7 rfl ?_
         have hf:jP h2 z=jP h z:=gM fun x hx=>C8 _ x h2 h (gB hb x hx)
         simp only [evOp,hl,hc,a9 hbd,hf,hz',a9 hlc]
        ·cases h1
       ·cases h1
      ·cases h1
     ·cases h1
   all_goals exact .any hv
  case append m esz bytes x y=>
   have h1:=jA rfl hv;have srow:∀{yv:AV} (h2:AH),E2 yv=false->gC h2 yv=gC h yv:=by
    intro yv h2 hr;cases yv<;>first
     | rfl
     | cases hr
   have sfrz:∀{yv:AV} {es:List (List AV)} (h2:AH),E2 yv=false->frz h2 yv es=frz h yv es:=by
    intro yv es h2 hr;cases yv<;>first
     | rfl
     | cases hr
   cases hx:evX e x with
   | none=>simp only [foot,hx];exact .any hv
   | some xv=>
    cases hy:evX e y with
    | none=>simp only [evOp,hx,hy] at h1;cases h1
    | some yv=>
     cases hr:E2 yv with
     | true=>
      have:foot e (bN base dst h) h (.append m esz bytes x y)=(none,.any):=by
       simp only [foot,hx,hy];cases xv<;>simp [hr]
      rw [this];exact .any hv
     | false=>
      cases xv with
      | app z es t=>
       simp only [foot,hx,hy,hr,eM,if_false];simp only [evOp,hx,hy] at h1;split at h1
       ·cases h1
       ·rename_i ys0 hys0;split at h1
        ·rename_i hz;split at h1
         ·rename_i z' f ys hget hfz;split at h1
          ·rename_i hc;cases h1;refine .set t _ rfl fun _ h2 hg=>f7 rfl ?_
           rw [hget] at hg;simp only [evOp,hx,hy,srow h2 hr,hys0,a9 hz,hg,sfrz h2 hr,hfz,a9 hc]
          ·cases h1
         ·cases h1
        ·cases h1
      | Xa z es=>
       simp only [foot,hx,hy,hr,eM,if_false];simp only [evOp,hx,hy] at h1;split at h1
       ·cases h1
       ·rename_i ys0 hys0;rw [hys0];split at h1
        ·split at h1
         ·rename_i hc;cases h1;have hnr:NN .row (some ys0)=false:=by
           cases ys0 with
           | nil=>exact absurd rfl hc.2.1
           | cons=>rfl
          rw [a8 (by rw [hnr];decide)];exact .new _ hv rfl fun h2=>f7 rfl (by simp only [evOp,hx,hy,srow h2 hr,hys0,a9 hc])
         ·split at h1
          ·rename_i hc;obtain ⟨_,c2⟩:=hc;subst c2;rw [a9 (show NN .row (some [])=true from rfl)];exact .any hv
          ·cases h1
        ·rename_i hm;have hnr:NN m (some ys0)=false:=by
          cases m
          case row=>exact absurd rfl hm
          all_goals rfl
         rw [a8 (by rw [hnr];decide)];split at h1
         ·cases h1
         ·rename_i ys hfz;split at h1
          ·rename_i hc;cases h1;refine .new _ hv rfl fun h2=>f7 rfl ?_
           cases m
           case row=>exact absurd rfl hm
           all_goals simp only [evOp,hx,hy,srow h2 hr,hys0,sfrz h2 hr,hfz,a9 hc]
          ·cases h1
      | row id z off len=>
       simp only [foot,hx,hy,hr,eM,if_false];simp only [evOp,hx,hy] at h1;split at h1
       ·cases h1
       ·rename_i ys0 hys0;split at h1
        ·rename_i hz;split at h1
         ·rename_i z' es hget;rw [hys0];simp only [V3,hget];split at h1
          ·rename_i hc;rw [a9 hc];cases h1;split
           ·rename_i hres;split
            ·exact .any hv
            ·rename_i hne;obtain ⟨n,d,rfl,rfl,hnx⟩:=NB hne;rw [hnx] at hres ⊢;have hin:n+d≠id:=by intro hh;rw [hh] at hres;rw [hget] at hres;cases hres
             have hput:∀h2:AH,h2.get (n+d)=some .res->∀ob,(h2.kill id).put (n+d) ob=(h2.kill id).set (n+d) ob:=by
              intro h2 hg ob;unfold AH.put;rw [U4 hin,hg]
             refine ⟨fun h=>(h.kill id).set (n+d) (.row esz (es.drop off++ys0)),⟨⟨_,rfl⟩,[id,n+d],rfl,by simp,by simp⟩,trivial,hput h hres _,?_⟩;intro h2 ha;have hg:h2.get (n+d)=some .res:=by rw [ha.1 (n+d) (by simp)];exact hres
             have hg2:h2.get id=some (.row z' es):=by rw [ha.1 id (by simp)];exact hget
             have hn:bN (some n) (some d) h2=n+d:=by
              unfold bN;simp only [hg]
             rw [hn];refine f7 rfl ?_;simp only [evOp,hx,hy,srow h2 hr,hys0,a9 hz,hg2,a9 hc,hput h2 hg]
           ·exact .any hv
          ·rename_i hc;rw [a8 hc];split at h1
           ·rename_i hc2;cases h1;refine .set id _ rfl fun _ h2 hg=>f7 rfl ?_
            rw [hget] at hg;simp only [evOp,hx,hy,srow h2 hr,hys0,a9 hz,hg,a8 hc,a9 hc2]
           ·cases h1
         ·cases h1
        ·cases h1
      | _=>simp only [foot,hx,hy];exact .any hv
  all_goals first
   | exact absurd ⟨rfl,rfl⟩ hi
   | exact .any hv
end
end Go.Av
namespace Go.Av
section
variable {e e':Env} {h:AH} {call:aW} {base:Option Nat}
theorem Gy {o:Xc} {v:AV} {h':AH} (hr:rOp call base o e h=some (v,h')):∃ap,Stb call base o e h (mZ base ⟨e,h⟩ o) v ap/\h'=ap h:=by
 unfold rOp at hr;unfold mZ;simp only;cases hg:dT e o.guard with
 | none=>rw [hg] at hr;cases hr
 | some b=>
  rw [hg] at hr;cases b with
  | false=>
   cases hr;refine ⟨id,⟨rfl,trivial,?_⟩,rfl⟩;intro e2 h2 hh _;rw [ZL hh];unfold rOp;rw [hg];rfl
  | true=>
   simp only at hr;split at hr
   ·rename_i y H1 hc;cases hr;obtain ⟨ap,k1,k2,k3,k4⟩:=Kk hc;refine ⟨ap,⟨k1,k2,?_⟩,k3⟩;intro e2 h2 hh ha;rw [ZL hh];unfold rOp;rw [hg];simp only [k4 h2 ha]
   ·cases hr
theorem Kj {o:Xc} {v:AV} {h':AH} (hr:rOp call base o e h=some (v,h')):∃ap,Stb call base o e h (n6 (mZ base ⟨e,h⟩ o) h h') v ap/\h'=ap h:=by
 obtain ⟨ap,k1,k2⟩:=Gy hr;generalize mZ base ⟨e,h⟩ o=f at*;by_cases hf:f=(none,.any)
 ·subst hf;refine ⟨fun _=>h',⟨rfl,rfl,?_⟩,rfl⟩;intro e2 h2 hh ha;have h3:h2=h:=ha.1;subst h3;have:=k1.run e2 h2 hh ⟨rfl,rfl⟩;rw [this,k2]
 ·have:n6 f h h'=f:=by
   unfold n6;split
   ·exact absurd rfl hf
   ·rfl
  rw [this];exact ⟨ap,k1,k2⟩
theorem VI:∀{ops:List Xc} {s s':St},b7 call base ops s=some (.normal,s')->
  ∃ds:List DD,ds.map (·.o)=ops/\Seq call base s.e s.h ds/\s'=⟨finE s.e ds,finH s.h ds⟩/\feet call base ops s=ds.map (·.f)/\∀d,d∈ds->∃s h h',d.f=n6 (mZ base s d.o) h h'
 | [],s,s',hs=>by
  cases hs;exact ⟨[],rfl,trivial,rfl,rfl,by simp⟩
 | o::r,s,s',hs=>by
  obtain ⟨v,h',h1,h2⟩:=evOps_cons.1 hs;obtain ⟨ap,k1,k2⟩:=Kj h1;subst k2;obtain ⟨ds,m1,m2,m3,m4,m5⟩:=VI h2;refine ⟨⟨o,n6 (mZ base s o) s.h (ap s.h),v,ap⟩::ds,by simp [m1],⟨k1,?_⟩,?_,?_,?_⟩
  ·exact m2
  ·exact m3
  ·have:b7 call base [o] s=some (.normal,⟨putE s.e o.dst v,ap s.h⟩):=evOps_cons.2 ⟨v,ap s.h,h1,rfl⟩;simp only [feet,this,m4,List.map_cons]
  ·intro d hd;rcases lW.1 hd with rfl | hd
   ·exact ⟨s,s.h,ap s.h,rfl⟩
   ·exact m5 d hd
theorem UW:∀{ds:List DD} {e:Env} {h:AH},Seq call base e h ds->b7 call base (ds.map (·.o)) ⟨e,h⟩=some (.normal,⟨finE e ds,finH h ds⟩)
 | [],_,_,_=>rfl
 | d::r,e,h,hs=>by
  obtain ⟨h1,h2⟩:=hs;refine evOps_cons.2 ⟨d.v,d.ap h,h1.run e h (fun _ _=>rfl) (Agree.refl h1.next),?_⟩;exact UW h2
theorem QP {o:Xc} {s:St} (hc:o.op.cls= .i):mZ base s o=(some [],.no):=by
 unfold mZ;split
 ·generalize o.op=op at hc;cases op<;>first
    | rfl
    | (cases hc;done)
    | (rename_i m _ _ _;cases m<;>first | rfl | (cases hc;done))
 ·rfl
theorem Dw (vs:Option (List AV)):(z5 vs).2= .no:=by
 unfold z5;split
 ·rfl
 ·split<;>rfl
theorem QQ {o:Xc} {s:St} (hc:o.op.cls= .r):(mZ base s o).2= .no:=by
 unfold mZ;split
 ·generalize o.op=op at hc;cases op<;>first
    | rfl
    | (cases hc;done)
    | exact Dw _
    | (simp only [foot];split<;>rfl)
    | (simp only [foot];split<;>first | rfl | (split<;>rfl))
    | (rename_i m _ _ _;cases m<;>first | rfl | (cases hc;done))
 ·rfl
theorem QT {f:Foot} (hf:f=(some [],.no)) (h h':AH):n6 f h h'=(some [],.no):=by subst hf;rfl
theorem QU {f:Foot} (hf:f.2= .no) (h h':AH):(n6 f h h').2= .no:=by
 obtain ⟨r,w⟩:=f;cases hf;unfold n6;split
 ·rename_i heq;cases heq
 ·rfl
theorem ZW {x y:Foot} (hx:x=(some [],.no)):x.compat y=true:=by subst hx;rfl
theorem Z6 {x y:Foot} (hy:y=(some [],.no)):x.compat y=true:=by
 subst hy;obtain ⟨r,v⟩:=x
 match r,v with
 | some [],.no=>rfl
 | some (_::_),.no=>rfl
 | none,.no=>rfl
 | some [],.set _=>rfl
 | some (_::_),.set _=>rfl
 | none,.set _=>rfl
 | some [],.mv _ _=>rfl
 | some (_::_),.mv _ _=>rfl
 | none,.mv _ _=>rfl
 | some [],.chg _ _=>rfl
 | some (_::_),.chg _ _=>rfl
 | none,.chg _ _=>rfl
 | some [],.cut _=>rfl
 | some (_::_),.cut _=>rfl
 | none,.cut _=>rfl
 | some [],.any=>rfl
 | some (_::_),.any=>rfl
 | none,.any=>rfl
theorem Z7 {x y:Foot} (hx:x.2= .no) (hy:y.2= .no):x.compat y=true:=by
 obtain ⟨r,v⟩:=x;obtain ⟨q,u⟩:=y;cases hx;cases hy;cases r with
 | none=>cases q with
  | none=>rfl
  | some l=>cases l<;>rfl
 | some l'=>cases l' with
  | nil=>rfl
  | cons a b=>cases q with
   | none=>rfl
   | some l=>cases l<;>rfl
def DL (ops:Array Oper) (listed:Array Bool):Prop:=
 ∀(j:Nat) oj,ops[j]? =some oj->listed.getD j false=true->∀e,e∈oj.after->Region.binds .any e=true->listed.getD e.on false=true
theorem QD {ops:Array Oper} {listed:Array Bool} (hc:DL ops listed):∀(n i k:Nat),ordB ops n i k=true->
  (∀o,ops[i]? =some o->∀e,e∈o.after->Region.binds .any e=true->listed.getD e.on false=true)->listed.getD k false=true
 | 0,_,_,h,_=>by cases h
 | n+1,i,k,h,ha=>by
  simp only [ordB] at h;split at h
  ·cases h
  ·rename_i o ho;obtain ⟨e,he,h1⟩:=PU.1 h;simp only [QA,A4,beq_iff_eq] at h1;obtain ⟨hb,h2⟩:=h1;have hl:=ha o ho e (by simpa using he) hb;rcases h2 with h2 | ⟨_,h2⟩
   ·rw [<- h2];exact hl
   ·exact QD hc n e.on k h2 (fun o' ho' e' he' hb'=>hc e.on o' ho' hl e' he' hb')
theorem ZJ {l:List Nat} {i:Nat} (h:i∈l) (hp:l.Pairwise (· < ·)):∃as bs,l=as++i::bs/\(∀k,k∈as->k<i)/\(as++bs).Pairwise (· < ·)/\∀k,k∈as++bs↔(k∈l/\k≠i):=by
 obtain ⟨as,bs,rfl⟩:=List.append_of_mem h;have h1:=List.pairwise_append.1 hp;have h2:=List.pairwise_cons.1 h1.2.1;refine ⟨as,bs,rfl,fun k hk=>h1.2.2 k hk i (by simp),?_,?_⟩
 ·exact List.pairwise_append.2 ⟨h1.1,h2.2,fun a ha b hb=>h1.2.2 a ha b (by simp [hb])⟩
 ·intro k;simp only [fT,lW];constructor
  ·rintro (hk | hk)
   ·exact ⟨.inl hk,Nat.ne_of_lt (h1.2.2 k hk i (by simp))⟩
   ·exact ⟨.inr (.inr hk),(Nat.ne_of_lt (h2.1 k hk)).symm⟩
  ·rintro ⟨hk | hk | hk,hne⟩
   ·exact .inl hk
   ·exact absurd hk hne
   ·exact .inr hk
theorem V4 {listed:Array Bool} {j n:Nat} (hs:listed.size=n) (hj:j<n) (h:¬listed.getD j true=false):listed.getD j false=true:=by
 have:j<listed.size:=by omega
 simp [this] at h ⊢;exact h
theorem lin {ops:Array Oper} {D:List DD} (hD:D.length=ops.size)
  (hback:∀(i:Nat) o,ops[i]? =some o->∀e,e∈o.after->Region.binds .any e=true->e.on<i)
  (hpair:∀k i,k<i->i<ops.size->ordB ops ops.size i k=true\/∀x y,D[k]? =some x->D[i]? =some y->PairOk x y):
  ∀(fuel t:Nat) (listed:Array Bool) (rem:List Nat) (e:Env) (h:AH),listed.size=ops.size->(∀k,k∈rem↔k<ops.size/\listed.getD k true=false)->rem.Pairwise (· < ·)->rem.length<=fuel->
   DL ops listed->Seq call base e h (rem.filterMap (D[·]?))->
   ∃L,Region.linearise.go .any ops fuel t listed []=L/\Seq call base e h (L.filterMap (D[·]?))/\EqE (finE e (rem.filterMap (D[·]?))) (finE e (L.filterMap (D[·]?)))/\finH h (rem.filterMap (D[·]?))=finH h (L.filterMap (D[·]?)):=by
 intro fuel
 induction fuel with
 | zero=>
  intro t listed rem e h _ _ _ hl _ hs;have:rem=[]:=Qf (by omega);subst this;exact ⟨[],rfl,trivial,fun _=>rfl,rfl⟩
 | succ fuel ih=>
  intro t listed rem e h hsz hmem hpw hl hcl hs;simp only [Region.linearise.go]
  change ∃L,(match (Region.ready .any ops listed)[t % (Region.ready .any ops listed).length]? with
   | some i=>Region.linearise.go .any ops fuel (t / (Region.ready .any ops listed).length) (listed.setIfInBounds i true) [i]
   | none=>[].reverse)=L/\_
  have hready:∀i,i∈Region.ready .any ops listed->i∈rem:=by
   intro i hi;obtain ⟨h1,o,ho,_⟩:=mem_ready.1 hi;exact (hmem i).2 ⟨(Array.getElem?_eq_some_iff.1 ho).1,h1⟩
  cases hi:(Region.ready .any ops listed)[t % (Region.ready .any ops listed).length]? with
  | none=>
   have hnil:Region.ready .any ops listed=[]:=by
    cases hr:Region.ready .any ops listed with
    | nil=>rfl
    | cons x xs=>
     rw [hr] at hi;have hlt:t % (x::xs).length<(x::xs).length:=Nat.mod_lt _ (by simp);simp at hi;simp at hlt;omega
   have hrem:rem=[]:=by
    cases hrr:rem with
    | nil=>rfl
    | cons m ms=>
     exfalso;subst hrr;have hm:=(hmem m).1 (by simp);have ho:ops[m]? =some ops[m]:=by simp [hm.1]
     have:m∈Region.ready .any ops listed:=by
      refine mem_ready.2 ⟨hm.2,ops[m],ho,fun e he hb=>?_⟩;have hlt:=hback m _ ho e he hb;refine V4 hsz (by omega) ?_;intro hf;have hin:=(hmem e.on).2 ⟨by omega,hf⟩;rcases lW.1 hin with hh | hh
      ·omega
      ·have:=(List.pairwise_cons.1 hpw).1 _ hh;omega
     rw [hnil] at this;cases this
   subst hrem;exact ⟨[],rfl,trivial,fun _=>rfl,rfl⟩
  | some i=>
   have hir:i∈Region.ready .any ops listed:=Qe hi;obtain ⟨hun,oi,hoi,hall⟩:=mem_ready.1 hir;obtain ⟨as,bs,rfl,has,hpw',hmem'⟩:=ZJ (hready i hir) hpw;have hin:i<ops.size:=(Array.getElem?_eq_some_iff.1 hoi).1;have hDi:D[i]? =some D[i]:=by simp [hD,hin]
   have hsplit:(as++i::bs).filterMap (D[·]?)=as.filterMap (D[·]?)++D[i]::bs.filterMap (D[·]?):=by
    rw [FJ,kC hDi]
   have hpok:∀y,y∈as.filterMap (D[·]?)->PairOk y D[i]:=by
    intro y hy;obtain ⟨k,hk,hky⟩:=List.mem_filterMap.1 hy;rcases hpair k i (has k hk) hin with ho | ho
    ·have h1:=QD hcl _ _ _ ho (fun o ho' e he hb=>by
      rw [hoi] at ho';cases ho';exact hall e he hb)
     have h2:=((hmem k).1 (by simp [hk])).2;have h3:=((hmem k).1 (by simp [hk])).1;exfalso;have:k<listed.size:=by omega
     simp [this] at h1 h2;rw [h1] at h2;cases h2
    ·exact ho _ _ hky hDi
   rw [hsplit] at hs ⊢;obtain ⟨k1,k2,k3⟩:=TY hpok hs;obtain ⟨hx,hrest⟩:=k1;rw [<- FJ] at hrest k2 k3;have hcl':DL ops (listed.setIfInBounds i true):=by
    intro j oj hj hlj e' he' hb';by_cases hij:i=j
    ·subst hij;rw [hoi] at hj;cases hj;exact getD_set_true (hall e' he' hb')
    ·rw [getD_set_ne false hij] at hlj;exact getD_set_true (hcl j oj hj hlj e' he' hb')
   have hm2:∀k,k∈as++bs↔k<ops.size/\(listed.setIfInBounds i true).getD k true=false:=by
    intro k;rw [hmem' k,hmem k];by_cases hik:i=k
    ·subst hik;have:i<listed.size:=by omega
     simp [this]
    ·rw [getD_set_ne true hik];simp [Ne.symm hik]
   obtain ⟨L,m1,m2,m3,m4⟩:=ih (t / (Region.ready .any ops listed).length) (listed.setIfInBounds i true) (as++bs) _ _ (by simp [hsz]) hm2 hpw' (by simp at hl ⊢;omega) hcl' hrest;simp only [];rw [linearise_go_acc,List.reverse_singleton,List.singleton_append,m1];refine ⟨i::L,rfl,?_,?_,?_⟩
   ·rw [kC hDi];exact ⟨hx,m2⟩
   ·rw [kC hDi];exact fun t=>(k2 t).trans (m3 t)
   ·rw [kC hDi];exact k3.trans m4
theorem Q6 (n:Nat) (D:List DD) (hD:D.length=n):(List.range n).filterMap (D[·]?)=D:=by
 subst hD
 induction D with
 | nil=>rfl
 | cons d r ih=>
  rw [List.length_cons,List.range_succ_eq_map,kC (f:=fun x=>(d::r)[x]?) (b:=d) (by simp)];rw [List.filterMap_map];have:((fun x=>(d::r)[x]?) ∘ Nat.succ)=fun x=>r[x]? :=by funext x;simp
  rw [this,ih]
theorem YH {ops:Array Oper} {l:List Xc} {pairs:List (Nat×Nat)} {s s':St} (hl:l.length=ops.size) (hd:R5 ops l pairs=true)
  (hf:(pairs.isEmpty || NS pairs (feet call base l s))=true) (he:b7 call base l s=some (.normal,s')) (t:Nat):
  ∃s'',b7 call base ((Region.linearise .any ops t).filterMap (l[·]?)) s=some (.normal,s'')/\EqE s'.e s''.e/\s''.h=s'.h:=by
 obtain ⟨D,d1,d2,d3,d4,d5⟩:=VI he;have hD:D.length=ops.size:=by rw [<- hl,<- d1];simp
 have hall:=Qo.1 hd;have CP:∀i,i<ops.size->∃o y,ops[i]? =some o/\l[i]? =some y/\(∀e,e∈o.after->Region.binds .any e=true->e.on<i)/\
   ∀k,k<i->∃x,l[k]? =some x/\((FA x y=true/\(F9 x y=true\/∃p,p∈pairs/\p.1=k/\p.2=i))\/ordB ops ops.size i k=true):=by
  intro i hi;have h1:=hall i (A5.2 hi);split at h1
  ·rename_i o y ho hy;simp only [QA] at h1;refine ⟨o,y,ho,hy,?_,?_⟩
   ·intro e hee hb;have:=Qo.1 h1.1 e (by simpa using hee);simpa [hb] using this
   ·intro k hk;have:=Qo.1 h1.2 k (A5.2 hk);split at this
    ·rename_i x hx;refine ⟨x,hx,?_⟩;simp only [A4,QA,PU,beq_iff_eq] at this;exact this
    ·cases this
  ·cases h1
 have hback:∀(i:Nat) o,ops[i]? =some o->∀e,e∈o.after->Region.binds .any e=true->e.on<i:=by
  intro i o ho;have hi:i<ops.size:=(Array.getElem?_eq_some_iff.1 ho).1;obtain ⟨o',y,h1,_,h3,_⟩:=CP i hi;rw [ho] at h1;cases h1;exact h3
 have hpair:∀k i,k<i->i<ops.size->ordB ops ops.size i k=true\/∀x y,D[k]? =some x->D[i]? =some y->PairOk x y:=by
  intro k i hk hi;obtain ⟨o,y,h1,h2,h3,h4⟩:=CP i hi;obtain ⟨x,hx,h5⟩:=h4 k hk;rcases h5 with ⟨ht,hh⟩ | h5
  ·refine .inr fun dx dy hdx hdy=>?_
   have ex:dx.o=x:=by
    have:l[k]? =some dx.o:=by rw [<- d1,List.getElem?_map,hdx];rfl
    rw [hx] at this;cases this;rfl
   have ey:dy.o=y:=by
    have:l[i]? =some dy.o:=by rw [<- d1,List.getElem?_map,hdy];rfl
    rw [h2] at this;cases this;rfl
   refine ⟨by rw [ex,ey];exact ht,?_⟩;obtain ⟨s1,a1,b1,f1⟩:=d5 dx (Qe hdx);obtain ⟨s2,a2,b2,f2⟩:=d5 dy (Qe hdy);rcases hh with hh | ⟨p,hp,hp1,hp2⟩
   ·unfold F9 at hh;simp only [A4,QA,beq_iff_eq] at hh;rcases hh with (hh | hh) | ⟨hh1,hh2⟩
    ·exact ZW (f1.trans (QT (QP (by rw [ex];exact hh)) _ _))
    ·exact Z6 (f2.trans (QT (QP (by rw [ey];exact hh)) _ _))
    ·exact Z7 (by rw [f1];exact QU (QQ (by rw [ex];exact hh1)) _ _) (by rw [f2];exact QU (QQ (by rw [ey];exact hh2)) _ _)
   ·have hne:pairs.isEmpty=false:=by cases pairs<;>first | (cases hp;done) | rfl
    rw [hne,Bool.false_or] at hf;have:=Qo.1 hf p hp;rw [hp1,hp2,d4,List.getElem?_map,List.getElem?_map,hdx,hdy] at this;exact this
  ·exact .inl h5
 have hrem:∀k,k∈List.range ops.size↔k<ops.size/\(Array.replicate ops.size false).getD k true=false:=by
  intro k;rw [A5];constructor
  ·intro hk;exact ⟨hk,by simp [hk]⟩
  ·exact fun hk=>hk.1
 have hcl:DL ops (Array.replicate ops.size false):=by
  intro j oj hj hlj;have:j<ops.size:=(Array.getElem?_eq_some_iff.1 hj).1;simp [this] at hlj
 have hseq:Seq call base s.e s.h ((List.range ops.size).filterMap (D[·]?)):=by rw [Q6 _ _ hD];exact d2
 obtain ⟨L,m1,m2,m3,m4⟩:=lin hD hback hpair ops.size t _ (List.range ops.size) s.e s.h (by simp) hrem List.pairwise_lt_range (by simp) hcl hseq;rw [Q6 _ _ hD] at m3 m4;have hL:Region.linearise .any ops t=L:=m1;refine ⟨⟨finE s.e (L.filterMap (D[·]?)),finH s.h (L.filterMap (D[·]?))⟩,?_,?_,?_⟩
 ·rw [hL,<- UW m2];congr 1;rw [<- d1,List.map_filterMap];congr 1;funext x;rw [List.getElem?_map]
 ·rw [d3];exact m3
 ·rw [d3];exact m4.symm
end
end Go.Av
namespace Go.Av
section
variable {call:aW} {base:Option Nat}
theorem lin1 {ops:Array Oper} {z:Nat} {D:List DD} (hz:ops.size=z+1) (hD:D.length=z)
  (hback:∀(i:Nat) o,ops[i]? =some o->∀e,e∈o.after->Region.binds .any e=true->e.on<i)
  (hpair:∀k i,k<i->i<z->ordB ops ops.size i k=true\/∀x y,D[k]? =some x->D[i]? =some y->PairOk x y)
  (hlast:∀k,k<z->ordB ops ops.size z k=true):
  ∀(fuel t:Nat) (listed:Array Bool) (rem:List Nat) (e:Env) (h:AH),listed.size=ops.size->(∀k,k∈rem↔k<z/\listed.getD k true=false)->listed.getD z true=false->rem.Pairwise (· < ·)->rem.length<fuel->
   DL ops listed->Seq call base e h (rem.filterMap (D[·]?))->
   ∃L,Region.linearise.go .any ops fuel t listed []=L++[z]/\Seq call base e h (L.filterMap (D[·]?))/\EqE (finE e (rem.filterMap (D[·]?))) (finE e (L.filterMap (D[·]?)))/\finH h (rem.filterMap (D[·]?))=finH h (L.filterMap (D[·]?))/\∀k,k∈L->k<z:=by
 intro fuel
 induction fuel with
 | zero=>intro t listed rem e h _ _ _ _ hl;omega
 | succ fuel ih=>
  intro t listed rem e h hsz hmem hzun hpw hl hcl hs;simp only [Region.linearise.go]
  change ∃L,(match (Region.ready .any ops listed)[t % (Region.ready .any ops listed).length]? with
   | some i=>Region.linearise.go .any ops fuel (t / (Region.ready .any ops listed).length) (listed.setIfInBounds i true) [i]
   | none=>[].reverse)=L++[z]/\_
  have hzo:ops[z]? =some ops[z]:=by simp [hz]
  cases hi:(Region.ready .any ops listed)[t % (Region.ready .any ops listed).length]? with
  | none=>
   have hnil:Region.ready .any ops listed=[]:=by
    cases hr:Region.ready .any ops listed with
    | nil=>rfl
    | cons x xs=>
     rw [hr] at hi;have hlt:t % (x::xs).length<(x::xs).length:=Nat.mod_lt _ (by simp);simp at hi;simp at hlt;omega
   exfalso;cases hrr:rem with
   | nil=>
    subst hrr;have:z∈Region.ready .any ops listed:=by
     refine mem_ready.2 ⟨hzun,ops[z],hzo,fun e he hb=>?_⟩;have hlt:=hback z _ hzo e he hb;refine V4 hsz (by omega) ?_;intro hf;have:=(hmem e.on).2 ⟨hlt,hf⟩;cases this
    rw [hnil] at this;cases this
   | cons m ms=>
    subst hrr;have hm:=(hmem m).1 (by simp);have ho:ops[m]? =some ops[m]:=by simp [hz]
    have:m∈Region.ready .any ops listed:=by
     refine mem_ready.2 ⟨hm.2,ops[m],ho,fun e he hb=>?_⟩;have hlt:=hback m _ ho e he hb;refine V4 hsz (by omega) ?_;intro hf;have hin:=(hmem e.on).2 ⟨by omega,hf⟩;rcases lW.1 hin with hh | hh
     ·omega
     ·have:=(List.pairwise_cons.1 hpw).1 _ hh;omega
    rw [hnil] at this;cases this
  | some i=>
   have hir:i∈Region.ready .any ops listed:=Qe hi;obtain ⟨hun,oi,hoi,hall⟩:=mem_ready.1 hir;have hin:i<ops.size:=(Array.getElem?_eq_some_iff.1 hoi).1;by_cases hiz:i=z
   ·subst hiz;have hrem:rem=[]:=by
     cases hrr:rem with
     | nil=>rfl
     | cons m ms=>
      exfalso;subst hrr;have hm:=(hmem m).1 (by simp);have h1:=QD hcl _ _ _ (hlast m hm.1) (fun o ho' e he hb=>by
       rw [hoi] at ho';cases ho';exact hall e he hb)
      have h2:=hm.2;have:m<listed.size:=by omega
      simp [this] at h1 h2;rw [h1] at h2;cases h2
    subst hrem;refine ⟨[],?_,trivial,fun _=>rfl,rfl,by simp⟩;simp only [];rw [linearise_go_acc,List.reverse_singleton,List.nil_append];have hno:Region.ready .any ops (listed.setIfInBounds i true)=[]:=by
     cases hr:Region.ready .any ops (listed.setIfInBounds i true) with
     | nil=>rfl
     | cons x xs=>
      exfalso;have hx:x∈Region.ready .any ops (listed.setIfInBounds i true):=by rw [hr];simp
      obtain ⟨hxu,ox,hox,_⟩:=mem_ready.1 hx;have hxs:x<ops.size:=(Array.getElem?_eq_some_iff.1 hox).1;by_cases hxi:i=x
      ·subst hxi;have:i<listed.size:=by omega
       simp [this] at hxu
      ·rw [getD_set_ne true hxi] at hxu;have:=(hmem x).2 ⟨by omega,hxu⟩;cases this
    cases fuel with
    | zero=>rfl
    | succ fuel=>
     simp only [Region.linearise.go]
     change [i]++(match (Region.ready .any ops (listed.setIfInBounds i true))[_ % (Region.ready .any ops (listed.setIfInBounds i true)).length]? with
      | some j=>_
      | none=>[].reverse)=[i]
     rw [hno];rfl
   ·have hready:i∈rem:=(hmem i).2 ⟨by omega,hun⟩;obtain ⟨as,bs,rfl,has,hpw',hmem'⟩:=ZJ hready hpw;have hDi:D[i]? =some D[i]:=by simp [hD]
    have hsplit:(as++i::bs).filterMap (D[·]?)=as.filterMap (D[·]?)++D[i]::bs.filterMap (D[·]?):=by
     rw [FJ,kC hDi]
    have hpok:∀y,y∈as.filterMap (D[·]?)->PairOk y D[i]:=by
     intro y hy;obtain ⟨k,hk,hky⟩:=List.mem_filterMap.1 hy;rcases hpair k i (has k hk) (by omega) with ho | ho
     ·have h1:=QD hcl _ _ _ ho (fun o ho' e he hb=>by
       rw [hoi] at ho';cases ho';exact hall e he hb)
      have h2:=((hmem k).1 (by simp [hk])).2;have h3:=((hmem k).1 (by simp [hk])).1;exfalso;have:k<listed.size:=by omega
      simp [this] at h1 h2;rw [h1] at h2;cases h2
     ·exact ho _ _ hky hDi
    rw [hsplit] at hs ⊢;obtain ⟨k1,k2,k3⟩:=TY hpok hs;obtain ⟨hx,hrest⟩:=k1;rw [<- FJ] at hrest k2 k3;have hcl':DL ops (listed.setIfInBounds i true):=by
     intro j oj hj hlj e' he' hb';by_cases hij:i=j
     ·subst hij;rw [hoi] at hj;cases hj;exact getD_set_true (hall e' he' hb')
     ·rw [getD_set_ne false hij] at hlj;exact getD_set_true (hcl j oj hj hlj e' he' hb')
    have hm2:∀k,k∈as++bs↔k<z/\(listed.setIfInBounds i true).getD k true=false:=by
     intro k;rw [hmem' k,hmem k];by_cases hik:i=k
     ·subst hik;have:i<listed.size:=by omega
      simp [this]
     ·rw [getD_set_ne true hik];simp [Ne.symm hik]
    obtain ⟨L,m1,m2,m3,m4,m5⟩:=ih (t / (Region.ready .any ops listed).length) (listed.setIfInBounds i true) (as++bs) _ _ (by simp [hsz]) hm2 (by rw [getD_set_ne true hiz];exact hzun) hpw' (by simp at hl ⊢;omega) hcl' hrest;simp only [];rw [linearise_go_acc,List.reverse_singleton,List.singleton_append,m1];refine ⟨i::L,rfl,?_,?_,?_,?_⟩
    ·rw [kC hDi];exact ⟨hx,m2⟩
    ·rw [kC hDi];exact fun t=>(k2 t).trans (m3 t)
    ·rw [kC hDi];exact k3.trans m4
    ·intro k hk;rcases lW.1 hk with rfl | hk
     ·omega
     ·exact m5 k hk
theorem UO:∀(a b:List Xc) (s:St),b7 call base (a++b) s=match b7 call base a s with
  | some (.normal,s')=>b7 call base b s'
  | r=>r
 | [],b,s=>rfl
 | o::a,b,s=>by
  rw [FP,b7,b7];cases dT s.e o.guard with
  | none=>rfl
  | some g=>cases g with
   | false=>exact UO a b _
   | true=>
    simp only;cases a7 call s.e (bN base o.dst s.h) s.h o.op with
    | none=>rfl
    | some p=>
     obtain ⟨r,h⟩:=p;cases r with
     | val v=>exact UO a b _
     | pan v=>rfl
theorem Fk {o:Xc} {s s2:St} {ex:Ex} {s':St} (he:EqE s.e s2.e) (hh:s2.h=s.h) (h:b7 call base [o] s=some (ex,s')):
  ∃s2',b7 call base [o] s2=some (ex,s2')/\EqE s'.e s2'.e/\s2'.h=s'.h:=by
 obtain ⟨e,H⟩:=s;obtain ⟨e2,H2⟩:=s2;simp only at he hh;subst hh;simp only [b7] at h ⊢;have hg:dT e2 o.guard=dT e o.guard:=by
  unfold dT;split
  ·rfl
  ·rw [he]
 rw [hg];cases hgo:dT e o.guard with
 | none=>rw [hgo] at h;cases h
 | some g=>
  rw [hgo] at h;cases g with
  | false=>
   simp only at h ⊢;cases h;exact ⟨_,rfl,he.put _ _,rfl⟩
  | true=>
   simp only at h ⊢;rw [<- TS (e:=e) (e':=e2) (fun t _=>he t)];cases hc:a7 call e (bN base o.dst H2) H2 o.op with
   | none=>rw [hc] at h;cases h
   | some p=>
    obtain ⟨r,h'⟩:=p;rw [hc] at h;cases r with
    | val v=>
     simp only at h ⊢;cases h;exact ⟨_,rfl,he.put _ _,rfl⟩
    | pan v=>
     simp only at h ⊢;cases h;exact ⟨_,rfl,he,rfl⟩
theorem Dd {ops:Array Oper} {l:List Xc} {s s1:St} {ex:Ex} {s':St} (hl:l.length=ops.size) (hd:R5 ops l []=true) (hsp:R2 ops=true)
  (he1:b7 call none l.dropLast s=some (.normal,s1)) (he2:b7 call none (l.drop (l.length - 1)) s1=some (ex,s')) (t:Nat):
  ∃s'',b7 call none ((Region.linearise .any ops t).filterMap (l[·]?)) s=some (ex,s'')/\EqE s'.e s''.e/\s''.h=s'.h:=by
 unfold R2 at hsp;simp only [QA,decide_eq_true_eq] at hsp;obtain ⟨hpos,hls⟩:=hsp;obtain ⟨z,hz⟩:∃z,ops.size=z+1:=⟨ops.size - 1,by omega⟩;have hlast:∀k,k<z->ordB ops ops.size z k=true:=by
  intro k hk;have:=Qo.1 hls k (A5.2 (by omega))
  rwa [show ops.size - 1=z by omega] at this
 obtain ⟨D,d1,d2,d3,d4,d5⟩:=VI he1;have hD:D.length=z:=by
  have:=congrArg List.length d1;simp at this;omega
 have hDl:∀k,k<z->(D.map (·.o))[k]? =l[k]? :=by
  intro k hk;rw [d1,List.dropLast_eq_take,List.getElem?_take,a9 (by omega)]
 have hall:=Qo.1 hd;have CP:∀i,i<ops.size->∃o y,ops[i]? =some o/\l[i]? =some y/\(∀e,e∈o.after->Region.binds .any e=true->e.on<i)/\
   ∀k,k<i->∃x,l[k]? =some x/\((FA x y=true/\F9 x y=true)\/ordB ops ops.size i k=true):=by
  intro i hi;have h1:=hall i (A5.2 hi);split at h1
  ·rename_i o y ho hy;simp only [QA] at h1;refine ⟨o,y,ho,hy,?_,?_⟩
   ·intro e hee hb;have:=Qo.1 h1.1 e (by simpa using hee);simpa [hb] using this
   ·intro k hk;have:=Qo.1 h1.2 k (A5.2 hk);split at this
    ·rename_i x hx;refine ⟨x,hx,?_⟩;simpa using this
    ·cases this
  ·cases h1
 have hback:∀(i:Nat) o,ops[i]? =some o->∀e,e∈o.after->Region.binds .any e=true->e.on<i:=by
  intro i o ho;have hi:i<ops.size:=(Array.getElem?_eq_some_iff.1 ho).1;obtain ⟨o',y,h1,_,h3,_⟩:=CP i hi;rw [ho] at h1;cases h1;exact h3
 have hpair:∀k i,k<i->i<z->ordB ops ops.size i k=true\/∀x y,D[k]? =some x->D[i]? =some y->PairOk x y:=by
  intro k i hk hi;obtain ⟨o,y,h1,h2,h3,h4⟩:=CP i (by omega);obtain ⟨x,hx,h5⟩:=h4 k hk;rcases h5 with ⟨ht,hh⟩ | h5
  ·refine .inr fun dx dy hdx hdy=>?_
   have ex:dx.o=x:=by
    have:l[k]? =some dx.o:=by rw [<- hDl k (by omega),List.getElem?_map,hdx];rfl
    rw [hx] at this;cases this;rfl
   have ey:dy.o=y:=by
    have:l[i]? =some dy.o:=by rw [<- hDl i hi,List.getElem?_map,hdy];rfl
    rw [h2] at this;cases this;rfl
   refine ⟨by rw [ex,ey];exact ht,?_⟩;obtain ⟨s1,a1,b1,f1⟩:=d5 dx (Qe hdx);obtain ⟨s2,a2,b2,f2⟩:=d5 dy (Qe hdy);unfold F9 at hh;simp only [A4,QA,beq_iff_eq] at hh;rcases hh with (hh | hh) | ⟨hh1,hh2⟩
   ·exact ZW (f1.trans (QT (QP (by rw [ex];exact hh)) _ _))
   ·exact Z6 (f2.trans (QT (QP (by rw [ey];exact hh)) _ _))
   ·exact Z7 (by rw [f1];exact QU (QQ (by rw [ex];exact hh1)) _ _) (by rw [f2];exact QU (QQ (by rw [ey];exact hh2)) _ _)
  ·exact .inl h5
 have hrem:∀k,k∈List.range z↔k<z/\(Array.replicate ops.size false).getD k true=false:=by
  intro k;rw [A5];constructor
  ·intro hk;have:k<ops.size:=by omega
   exact ⟨hk,by simp [this]⟩
  ·exact fun hk=>hk.1
 have hcl:DL ops (Array.replicate ops.size false):=by
  intro j oj hj hlj;have:j<ops.size:=(Array.getElem?_eq_some_iff.1 hj).1;simp [this] at hlj
 have hseq:Seq call none s.e s.h ((List.range z).filterMap (D[·]?)):=by rw [Q6 _ _ hD];exact d2
 obtain ⟨L,m1,m2,m3,m4,hlt⟩:=lin1 hz hD hback hpair hlast ops.size t _ (List.range z) s.e s.h (by simp) hrem (by simp [hz]) List.pairwise_lt_range (by simp [hz]) hcl hseq;rw [Q6 _ _ hD] at m3 m4;have hL:Region.linearise .any ops t=L++[z]:=m1;obtain ⟨o,y,h1,h2,_⟩:=CP z (by omega);have hdrop:l.drop (l.length - 1)=[y]:=by
  rw [show l.length - 1=z by omega,Qg (by omega),List.drop_eq_nil_of_le (by omega)];obtain ⟨hh,he⟩:=Qk.1 h2;rw [he]
 rw [hdrop] at he2;have hL0:b7 call none (L.filterMap (l[·]?)) s=some (.normal,⟨finE s.e (L.filterMap (D[·]?)),finH s.h (L.filterMap (D[·]?))⟩):=by
  rw [<- UW m2];congr 1;rw [List.map_filterMap];clear m1 m2 m3 m4 hL
  induction L with
  | nil=>rfl
  | cons k L ih=>
   have hk:=hlt k (by simp);have:=hDl k hk;rw [List.getElem?_map] at this;rw [List.filterMap_cons,List.filterMap_cons,<- this,ih (fun j hj=>hlt j (by simp [hj]))]
 have hE:EqE s1.e (finE s.e (L.filterMap (D[·]?))):=by rw [d3];exact m3
 have hH:finH s.h (L.filterMap (D[·]?))=s1.h:=by rw [d3];exact m4.symm
 obtain ⟨s2',r1,r2,r3⟩:=Fk (s2:=⟨finE s.e (L.filterMap (D[·]?)),finH s.h (L.filterMap (D[·]?))⟩) hE hH he2;refine ⟨s2',?_,r2,r3⟩;rw [hL,FJ,kC h2,List.filterMap_nil,UO,hL0];exact r1
end
end Go.Av
namespace Go.Av
section
variable {F:Nat->Nat->Prop} {B0:Nat} {w:World} {Z:Beta} {H:AH}
theorem UU {U:Type} (t:Nat):∀(a b:List (Nat×U)),look t (a++b)=match look t a with | some x=>some x | none=>look t b
 | [],b=>by simp [look]
 | (u,x)::a,b=>by
  simp only [FP,look];by_cases h:u=t
  ·simp [h]
  ·simp only [a8 h];exact UU t a b
def resL (n:Nat) (ds:List Nat):List (Nat×AO):=ds.map fun d=>(n+d,.res)
theorem F1 (n t:Nat):∀(ds:List Nat),(look t (resL n ds)=none\/look t (resL n ds)=some .res)/\(t<n->look t (resL n ds)=none)/\(n+maxN ds<t->look t (resL n ds)=none)/\∀d,t=n+d->d∉ds->look t (resL n ds)=none
 | []=>⟨.inl rfl,fun _=>rfl,fun _=>rfl,fun _ _ _=>rfl⟩
 | d::ds=>by
  obtain ⟨h1,h2,h3,h4⟩:=F1 n t ds;have e:look t (resL n (d::ds))=if n+d=t then some .res else look t (resL n ds):=rfl
  rw [e];refine ⟨?_,?_,?_,?_⟩
  ·split
   ·exact .inr rfl
   ·exact h1
  ·intro h;rw [a8 (by omega)];exact h2 h
  ·intro h;simp only [maxN] at h;have:d<=max d (maxN ds):=Nat.le_max_left _ _;have:maxN ds<=max d (maxN ds):=Nat.le_max_right _ _;rw [a8 (by omega)];exact h3 (by omega)
  ·intro d' hd hn;rw [a8]
   ·exact h4 d' hd (fun hm=>hn (wI _ hm))
   ·intro hh;have:d=d':=by omega
    subst this;exact hn (by simp)
theorem ZY (n:Nat):∀(ds:List Nat),FD ds=true->Uniq (resL n ds)
 | [],_=>trivial
 | d::ds,h=>by
  simp only [FD,QA,jK] at h;refine ⟨?_,ZY n ds h.2⟩;refine (F1 n (n+d) ds).2.2.2 d rfl ?_;intro hm;rw [memNat_iff.2 hm] at h;cases h.1
theorem ZZ {U:Type}:∀(a b:List (Nat×U)),Uniq a->Uniq b->(∀t,look t a≠none->look t b=none)->Uniq (a++b)
 | [],_,_,hb,_=>hb
 | (u,x)::a,b,ha,hb,h=>by
  refine ⟨?_,ZZ a b ha.2 hb ?_⟩
  ·show look u (a++b)=none;rw [UU,ha.1];exact h u (by simp [look])
  ·intro t ht;refine h t ?_;simp only [look];split
   ·simp
   ·exact ht
def cutB (Z:Beta) (n:Nat):Beta:=fun id=>if id<n then Z id else none
theorem Ft (hr:HR F B0 w Z H) {ds:List Nat} (hd:FD ds=true):Tr w Z H w (cutB Z H.next) (H.resv ds)/\HR F B0 w (cutB Z H.next) (H.resv ds):=by
 have hget:∀id,(H.resv ds).get id=match H.get id with | some x=>some x | none=>look id (resL H.next ds):=by
  intro id;show look id (H.objs++resL H.next ds)=_;rw [UU];unfold AH.get;cases look id H.objs<;>rfl
 have hlow:∀id,id<H.next->(H.resv ds).get id=H.get id:=by
  intro id hid;rw [hget,(F1 H.next id ds).2.1 hid];cases H.get id<;>rfl
 have hhigh:∀id,¬id<H.next->(H.resv ds).get id=none\/(H.resv ds).get id=some .res:=by
  intro id hid;rw [hget,hr.next id (by omega)];exact (F1 H.next id ds).1
 have hβ:∀id,id<H.next->cutB Z H.next id=Z id:=fun id h=>by simp [cutB,h]
 have hb:∀{id b o},cutB Z H.next id=some (b,o)->id<H.next:=by
  intro id b o h;unfold cutB at h;split at h
  ·assumption
  ·cases h
 have ht:Tr w Z H w (cutB Z H.next) (H.resv ds):=by
  refine ⟨.refl _ _,?_,?_,?_,?_,?_⟩
  ·rintro b i ⟨id,ob,o,h1,h2,h3⟩;have hid:=hb h2;rw [hlow id hid] at h1;rw [hβ id hid] at h2;exact .inl ⟨id,ob,o,h1,h2,h3⟩
  ·intro id hid;refine ⟨?_,by rw [hlow id hid.1];exact hid.2⟩;show id<H.next+maxN ds+1;have:=hid.1;omega
  ·intro id z es hid h;rw [hlow id hid.1] at h;exact ⟨⟨es,h,rfl⟩,hβ id hid.1⟩
  ·intro id es hid h;rw [hlow id hid.1] at h;exact ⟨⟨es,h⟩,hβ id hid.1⟩
  ·intro id z f hid h;rw [hlow id hid.1] at h;exact ⟨f,h,Qb _,fun _=>hβ id hid.1⟩
 refine ⟨ht,hr.base,hr.far,?_,?_,?_,?_⟩
 ·refine ZZ H.objs (resL H.next ds) hr.uniq (ZY _ _ hd) ?_;intro t htt;refine (F1 H.next t ds).2.1 ?_;rcases Qs t H.next with h | h
  ·exact h
  ·exact absurd (hr.next t h) htt
 ·intro id hid;have hid':H.next+maxN ds+1<=id:=hid;rw [hget,hr.next id (by omega)];exact (F1 H.next id ds).2.2.1 (by omega)
 ·intro id id' ob ob' b o o' h1 h2 h3 h4;have k1:=hb h3;have k2:=hb h4;rw [hlow id k1] at h1;rw [hlow id' k2] at h2;rw [hβ id k1] at h3;rw [hβ id' k2] at h4;exact hr.inj id id' ob ob' b o o' h1 h2 h3 h4
 ·intro id ob h;by_cases hid:id<H.next
  ·rw [hlow id hid] at h;exact (hr.obj id ob h).tr ht (hβ id hid) (fun _ _ _=>rfl)
  ·rcases hhigh id hid with h' | h'
   ·rw [h'] at h;cases h
   ·rw [h'] at h;cases h;show cutB Z H.next id=none;simp [cutB,hid]
theorem QH {t:Nat}:∀{l:List (Nat×AO)},look t l=none->look t (mJ l)=none
 | [],_=>rfl
 | (u,x)::l,h=>by
  simp only [look] at h;split at h
  ·cases h
  ·rename_i hu;cases x with
   | res=>
    show look t (mJ l)=none;exact QH h
   | _=>simp only [mJ,look,a8 hu];exact QH h
theorem TX {t:Nat}:∀{l:List (Nat×AO)},Uniq l->look t (mJ l)=match look t l with | some .res=>none | x=>x
 | [],_=>rfl
 | (u,x)::l,hu=>by
  by_cases h:u=t
  ·subst h;cases x with
   | res=>simp only [look,mJ,if_true];exact QH hu.1
   | _=>simp only [look,mJ,if_true]
  ·cases x with
   | res=>simp only [look,mJ,a8 h];exact TX hu.2
   | _=>simp only [look,mJ,a8 h];exact TX hu.2
theorem UJ:∀{l:List (Nat×AO)},Uniq l->Uniq (mJ l)
 | [],_=>trivial
 | (u,x)::l,h=>by
  cases x with
  | res=>
   show Uniq (mJ l);exact UJ h.2
  | _=>exact ⟨QH h.1,UJ h.2⟩
theorem Du (hr:HR F B0 w Z H):Tr w Z H w Z H.sweep/\HR F B0 w Z H.sweep:=by
 have hget:∀id,H.sweep.get id=match H.get id with | some .res=>none | x=>x:=fun id=>TX hr.uniq
 have old:∀{id ob},H.sweep.get id=some ob->H.get id=some ob:=by
  intro id ob h;rw [hget] at h;split at h
  ·cases h
  ·exact h
 have ht:Tr w Z H w Z H.sweep:=by
  refine ⟨.refl _ _,?_,?_,?_,?_,?_⟩
  ·rintro b i ⟨id,ob,o,h1,h2,h3⟩;exact .inl ⟨id,ob,o,old h1,h2,h3⟩
  ·intro id hid;refine ⟨hid.1,?_⟩;intro h;exact hid.2 (old h)
  ·intro id z es _ h;exact ⟨⟨es,old h,rfl⟩,rfl⟩
  ·intro id es _ h;exact ⟨⟨es,old h⟩,rfl⟩
  ·intro id z f _ h;exact ⟨f,old h,Qb _,fun _=>rfl⟩
 refine ⟨ht,hr.base,hr.far,UJ hr.uniq,?_,?_,?_⟩
 ·intro id hid;rw [hget,hr.next id hid]
 ·intro id1 id2 o1 o2 b k1 k2 h1 h2 h3 h4;exact hr.inj id1 id2 o1 o2 b k1 k2 (old h1) (old h2) h3 h4
 ·intro id ob h;exact (hr.obj id ob (old h)).tr ht rfl (fun _ _ _=>rfl)
theorem TZ (base dst:Option Nat) (H:AH):Free H (bN base dst H):=by
 unfold bN;split
 ·split
  ·rename_i h;exact .inr h
  ·exact .inl rfl
 ·exact .inl rfl
end
end Go.Av
namespace Go.Av
def WF (ro:Option Nat):Fence:={ Fence.wide with round:=ro }
theorem WF_none:WF none=Fence.wide:=rfl
theorem El {ro:Option Nat} {n:Nat} {P:Program} {f:FuncId} {args:Array Value} {w:World} {R:Ending->World->Prop} (h:Calls P f args w R):CallsIn (WF ro) n P f args w R:=
 (callsIn_wide (n:=n)).2 h
theorem Hh {ro:Option Nat} {n:Nat} {P:Program} {row:String} {args:Array Value} {w:World} {R:Value->World->Prop} (h:Rows P row args w R):RowsIn (WF ro) n P row args w R:=
 fun c cs _=>let ⟨v,w',r,s⟩:=h c cs;⟨v,w',r,stepsIn_wide.2 s⟩
theorem YC {ro:Option Nat} {n:Nat} {P:Program} {o:Oper} {a:Act} {w:World} {next:Act->World->Prop} {Q:Exit->Act->World->Prop} (hnd:∀c,o.op≠ .defer c) (h:o.wp P a w next Q):o.wpIn (WF ro) n P a w next Q:=by
 refine ⟨fun _ _=>trivial,?_⟩;rw [Oper.semAt_eq _ _ _ hnd];unfold Oper.wp at h;generalize (execOp a.eval o).run P w=r at h ⊢;unfold Oper.upon at h;unfold Oper.uponIn;split at h
 ·exact h
 ·exact h
 ·exact h
 ·exact ⟨fun hd=>(by cases hd),El h⟩
 ·exact ⟨fun hd=>(by cases hd),Hh h⟩
 ·exact h
 ·exact h.elim
section
variable {F:Nat->Nat->Prop} {B0:Nat} {P:Program} {A:Ann} {fn nt:FuncId} {call:aW}
def Fine (F:Nat->Nat->Prop) (B0:Nat) (w:World) (Z:Beta) (H:AH) (a:Act) (a':Act) (w':World) (s':St):Prop:=
 ∃Z',Tr w Z H w' Z' s'.h/\HR F B0 w' Z' s'.h/\EnvR F w' Z' s'.h s'.e a'.tmps/\a'.tmps.size=a.tmps.size/\a'.defers=a.defers
def FineP (F:Nat->Nat->Prop) (B0:Nat) (w:World) (Z:Beta) (H:AH) (a:Act) (v:AV) (a':Act) (w':World) (u:Value) (s':St):Prop:=
 ∃Z',Tr w Z H w' Z' s'.h/\HR F B0 w' Z' s'.h/\VRH F w' Z' s'.h v u/\EnvR F w' Z' s'.h s'.e a'.tmps/\a'.tmps.size=a.tmps.size/\a'.defers=a.defers
theorem FineP.good {w w':World} {Z:Beta} {H:AH} {a a':Act} {v:AV} {u:Value} {s':St} (h:FineP F B0 w Z H a v a' w' u s'):Good F B0 w Z H v s'.h u w':=
 let ⟨Z',k1,k2,k3,_⟩:=h;⟨Z',k1,k2,k3⟩
def gY (F:Nat->Nat->Prop) (B0:Nat) (w:World) (Z:Beta) (H:AH) (a:Act) (ex:Ex) (s':St) (Q:Exit->Act->World->Prop):Prop:=
 match ex with
 | .normal=>∀a' w',Fine F B0 w Z H a a' w' s'->Q .normal a' w'
 | .exit id=>∀a' w',Fine F B0 w Z H a a' w' s'->Q (.exit id) a' w'
 | .ret=>∀a' w',Fine F B0 w Z H a a' w' s'->Q .ret a' w'
 | .pan v=>∀a' w' u,FineP F B0 w Z H a v a' w' u s'->Q (.panic [{ v:=u,recovered:=false }]) a' w'
theorem Fine.step {w w1:World} {Z Z1:Beta} {H H1:AH} {a a1 a':Act} {w':World} {s':St} (ht:Tr w Z H w1 Z1 H1) (hs:a1.tmps.size=a.tmps.size) (hd:a1.defers=a.defers)
  (h:Fine F B0 w1 Z1 H1 a1 a' w' s'):Fine F B0 w Z H a a' w' s':=by
 obtain ⟨Z',k1,k2,k3,k4,k5⟩:=h;exact ⟨Z',ht.trans k1,k2,k3,k4.trans hs,k5.trans hd⟩
theorem Good.step {w w1:World} {Z Z1:Beta} {H H1 H':AH} {x:AV} {u:Value} {w':World} (ht:Tr w Z H w1 Z1 H1) (h:Good F B0 w1 Z1 H1 x H' u w'):Good F B0 w Z H x H' u w':=by
 obtain ⟨Z',k1,k2,k3⟩:=h;exact ⟨Z',ht.trans k1,k2,k3⟩
theorem FineP.step {w w1:World} {Z Z1:Beta} {H H1:AH} {a a1 a':Act} {v:AV} {u:Value} {w':World} {s':St} (ht:Tr w Z H w1 Z1 H1) (hs:a1.tmps.size=a.tmps.size) (hd:a1.defers=a.defers)
  (h:FineP F B0 w1 Z1 H1 a1 v a' w' u s'):FineP F B0 w Z H a v a' w' u s':=by
 obtain ⟨Z',k1,k2,k3,k4,k5,k6⟩:=h;exact ⟨Z',ht.trans k1,k2,k3,k4,k5.trans hs,k6.trans hd⟩
theorem gY.step {w w1:World} {Z Z1:Beta} {H H1:AH} {a a1:Act} {ex:Ex} {s':St} {Q:Exit->Act->World->Prop} (ht:Tr w Z H w1 Z1 H1) (hs:a1.tmps.size=a.tmps.size) (hd:a1.defers=a.defers)
  (h:gY F B0 w Z H a ex s' Q):gY F B0 w1 Z1 H1 a1 ex s' Q:=by
 cases ex with
 | normal=>exact fun a' w' hf=>h a' w' (hf.step ht hs hd)
 | exit id=>exact fun a' w' hf=>h a' w' (hf.step ht hs hd)
 | ret=>exact fun a' w' hf=>h a' w' (hf.step ht hs hd)
 | pan v=>exact fun a' w' u hf=>h a' w' u (hf.step ht hs hd)
theorem jC (a:Act) (d:Option Tmp) (v:Value):(a.put d v).tmps.size=a.tmps.size:=by
 cases d<;>simp [Act.put]
theorem vI (a:Act) (d:Option Tmp) (v:Value):(a.put d v).defers=a.defers:=by
 cases d<;>simp [Act.put]
theorem DU {w:World} {Z:Beta} {H:AH} {e:Env} {a:Act} {d:Option Nat} {x:AV} {v:Value} (he:EnvR F w Z H e a.tmps) (hx:VRH F w Z H x v) (hd:∀k,d=some k->k<a.tmps.size):
  EnvR F w Z H (putE e d x) (a.put d v).tmps:=by
 intro t y hy;rw [DN] at hy;cases d with
 | none=>
  simp at hy;exact he t y hy
 | some d=>
  have hlt:=hd d rfl;by_cases h:d=t
  ·subst h;simp at hy;subst hy;exact ⟨v,by simp [Act.put,hlt],hx⟩
  ·have:¬(some d=some t):=by simpa using h
   rw [a8 this] at hy;obtain ⟨u,h1,h2⟩:=he t y hy;exact ⟨u,by simp [Act.put,Array.getElem?_setIfInBounds_ne h,h1],h2⟩
theorem Q8 {ops:Array Oper} {o:Oper} {ao:Xc} (h:jD P A fn nt ops o=some ao):cOp P A fn o=some ao.op/\ao.dst=o.dst/\(∀d,o.dst=some d->d<nt)/\
  (match o.guard with | none=>ao.guard=none | some (j,want)=>∃t,(ops[j]?).bind (·.dst)=some t/\ao.guard=some (t,want)):=by
 unfold jD at h;split at h
 ·cases h
 ·rename_i op hop;split at h
  ·rename_i hdst;have hd:∀d,o.dst=some d->d<nt:=by
    intro d hd;rw [hd] at hdst;simpa [RH] using hdst
   split at h
   ·rename_i hg;cases h;refine ⟨hop,rfl,hd,?_⟩;rw [hg]
   ·rename_i j want hg;split at h
    ·rename_i t ht;cases h;refine ⟨hop,rfl,hd,?_⟩;rw [hg];exact ⟨t,ht,rfl⟩
    ·cases h
  ·cases h
theorem UH {ops:Array Oper} {o:Oper} {ao:Xc} {w:World} {Z:Beta} {H:AH} {e:Env} {a:Act} {b:Bool} (h:jD P A fn nt ops o=some ao) (he:EnvR F w Z H e a.tmps) (hg:dT e ao.guard=some b):
  Region.wanted o (yielded ops a.tmps)=b:=by
 obtain ⟨_,_,_,h4⟩:=Q8 h;unfold Region.wanted;split at h4
 ·rename_i hgn;rw [h4] at hg;cases hg;rw [hgn]
 ·rename_i j want hgn;obtain ⟨t,h5,h6⟩:=h4;rw [h6] at hg;rw [hgn];simp only [dT] at hg;split at hg
  ·rename_i c hc;cases hg;obtain ⟨v,k1,k2⟩:=he t _ hc;rw [iR k2] at k1;simp [yielded,h5,k1]
  ·rename_i hc;cases hg;obtain ⟨v,k1,k2⟩:=he t _ hc;obtain ⟨vs,rfl,_⟩:=RC k2;simp [yielded,h5,k1]
  ·cases hg
theorem Y0 {o:Oper} {ao:AOp} (h:cOp P A fn o=some ao):∀c,o.op≠ .defer c:=by
 intro c e;simp only [cOp,e] at h;cases h
theorem DO {ro:Option Nat} {m:Nat} (hc:CallOk P call) {ops:Array Oper} {l:List Xc} (hl:mapO (jD P A fn nt ops) ops.toList=some l) {Q:Exit->Act->World->Prop} (base:Option Nat):
  ∀(L:List Nat) (s:St) (ex:Ex) (s':St) (a:Act) (w:World) (Z:Beta),b7 call base (L.filterMap (l[·]?)) s=some (ex,s')->HR F B0 w Z s.h->EnvR F w Z s.h s.e a.tmps->a.tmps.size=nt->
   gY F B0 w Z s.h a ex s' Q->wpOpsIn (WF ro) m P ops Q L a w
 | [],s,ex,s',a,w,Z,hev,hr,he,hn,hq=>by
  cases hev;exact hq a w ⟨Z,.refl _ _ _,hr,he,rfl,rfl⟩
 | i::L,s,ex,s',a,w,Z,hev,hr,he,hn,hq=>by
  simp only [wpOpsIn];cases ho:ops[i]? with
  | none=>
   have hi:l[i]? =none:=by
    have h1:ops.size<=i:=by simpa using ho
    have h2:=cN hl;simp at h2;exact Qi (by omega)
   rw [List.filterMap_cons_none hi] at hev;exact DO hc hl base L s ex s' a w Z hev hr he hn hq
  | some o=>
   have hi:∃ao,l[i]? =some ao/\jD P A fn nt ops o=some ao:=by
    have h2:=(vD hl).2 i o (by simpa using ho);exact h2
   obtain ⟨ao,hao,hco⟩:=hi;rw [kC hao] at hev;obtain ⟨h1,h2,h3,h4⟩:=Q8 hco;simp only;rw [b7] at hev;cases hg:dT s.e ao.guard with
   | none=>rw [hg] at hev;cases hev
   | some b=>
    rw [hg] at hev;rw [UH hco he hg];cases b with
    | false=>
     simp only at hev;simp only [eM,if_false];rw [h2] at hev;refine ⟨fun _ _=>trivial,?_⟩;refine DO hc hl base L _ ex s' (a.put o.dst undef) w Z hev hr (DU he (.d (.tup [] #[] rfl (by simp))) (by intro k hk;rw [hn];exact h3 k hk)) (by rw [jC];exact hn) ?_;exact hq.step (.refl _ _ _) (jC _ _ _) (vI _ _ _)
    | true=>
     simp only at hev;simp only [if_true];refine YC (Y0 h1) ?_;cases hcall:a7 call s.e (bN base ao.dst s.h) s.h ao.op with
     | none=>rw [hcall] at hev;cases hev
     | some p=>
      obtain ⟨r,H1⟩:=p;rw [hcall] at hev;refine U9 hc hr he (TZ _ _ _) h1 hcall ⟨?_,?_⟩
      ·intro x v w' hx hgood;subst hx;simp only at hev;rw [h2] at hev;obtain ⟨Z',t1,t2,t3⟩:=hgood;refine DO hc hl base L _ ex s' (a.put o.dst v) w' Z' hev t2 (DU (t1.env he) t3 (by intro k hk;rw [hn];exact h3 k hk)) (by rw [jC];exact hn) ?_;exact hq.step t1 (jC _ _ _) (vI _ _ _)
      ·intro x u w' hx hgood;subst hx;simp only at hev;cases hev;obtain ⟨Z',t1,t2,t3⟩:=hgood;exact hq a w' u ⟨Z',t1,t2,t3,t1.env he,rfl,rfl⟩
end
end Go.Av
namespace Go.Av
section
variable {F:Nat->Nat->Prop} {B0:Nat} {P:Program} {A:Ann} {fn nt:FuncId} {call:aW}
theorem Km {w:World} {Z:Beta} {s:St} {T:Array Value} (t:Nat) (hr:HR F B0 w Z s.h) (he:EnvR F w Z s.h s.e T):
  Tr w Z s.h w Z (frzP t s).h/\HR F B0 w Z (frzP t s).h/\EnvR F w Z (frzP t s).h (frzP t s).e T:=by
 unfold frzP;split
 ·rename_i id z i off hl;split
  ·rename_i y hy;have ht:=z7 hr id;refine ⟨ht,lP hr id,?_⟩;intro u x hx;simp only [look] at hx;split at hx
   ·rename_i hu;subst hu;cases hx;obtain ⟨v,h1,h2⟩:=he _ _ hl;exact ⟨v,h1,.d (Fl hr hy h2)⟩
   ·exact ht.env he u x hx
  ·exact ⟨.refl _ _ _,hr,he⟩
 ·rename_i id z off len hl;split
  ·rename_i y hy;have ht:=z7 hr id;refine ⟨ht,lP hr id,?_⟩;intro u x hx;simp only [look] at hx;split at hx
   ·rename_i hu;subst hu;cases hx;obtain ⟨v,h1,h2⟩:=he _ _ hl;exact ⟨v,h1,.d (ZA hr hy h2)⟩
   ·exact ht.env he u x hx
  ·exact ⟨.refl _ _ _,hr,he⟩
 ·exact ⟨.refl _ _ _,hr,he⟩
theorem ZT {w:World} {Z:Beta} {T:Array Value}:∀(ts:List Nat) {s:St},HR F B0 w Z s.h->EnvR F w Z s.h s.e T->
  Tr w Z s.h w Z (E3 ts s).h/\HR F B0 w Z (E3 ts s).h/\EnvR F w Z (E3 ts s).h (E3 ts s).e T
 | [],s,hr,he=>⟨.refl _ _ _,hr,he⟩
 | t::ts,s,hr,he=>by
  obtain ⟨h1,h2,h3⟩:=Km t hr he;obtain ⟨k1,k2,k3⟩:=ZT ts h2 h3;exact ⟨h1.trans k1,k2,k3⟩
theorem TT (l:List Xc):(List.range l.length).filterMap (l[·]?)=l:=by
 induction l with
 | nil=>rfl
 | cons d r ih=>
  rw [List.length_cons,List.range_succ_eq_map,kC (f:=fun x=>(d::r)[x]?) (b:=d) (by simp)];rw [List.filterMap_map];have:((fun x=>(d::r)[x]?) ∘ Nat.succ)=fun x=>r[x]? :=by funext x;simp
  rw [this,ih]
theorem Cv {ro:Option Nat} {m:Nat} (hc:CallOk P call) (hm:P.follows .mixedOrders=true) {n id:Nat} {ops:Array Oper} {draw:Bool} {ac:Xb} (h:F7 P A fn nt id ops draw=some ac) {Q:Exit->Act->World->Prop}
    {s:St} {ex:Ex} {s':St} {a:Act} {w:World} {Z:Beta} (hev:evC call n ac s=some (ex,s')) (hr:HR F B0 w Z s.h) (he:EnvR F w Z s.h s.e a.tmps) (hn:a.tmps.size=nt)
    (hq:gY F B0 w Z s.h a ex s' Q):(Code.region id ops draw).wpIn (WF ro) m P Q a w:=by
  unfold F7 at h;split at h
  · cases h
  · rename_i l hl
    have hlen:l.length=ops.size:=by have:=cN hl;simpa using this.symm
    have keepQ:∀{s1:St} {w1:World} {Z1:Beta} {a1:Act} {ks:Option (List Nat)},gY F B0 w1 Z1 s.h a1 .normal (kept ks s1) Q->gY F B0 w1 Z1 s.h a1 .normal s1 Q:=by
      intro s1 w1 Z1 a1 ks hq1;cases ks with
      | none=>exact hq1
      | some ks=>
        intro a' w' hf;obtain ⟨Z',k1,k2,k3,k4,k5⟩:=hf;obtain ⟨j1,j2,j3⟩:=ZT ks k2 k3;exact hq1 a' w' ⟨Z',k1.trans j1,j2,j3,k4,k5⟩
    cases draw with
    | false=>
      simp only [eM,if_false] at h;cases h;simp only [evC,CT,if_true] at hev;refine wpIn_region ?_;have hf:(List.range ops.size).filterMap (l[·]?)=l:=by rw [<- hlen];exact TT l
      split at hev
      · rename_i s1 hs1
        cases hev;exact DO hc hl none _ s .normal s1 a w Z (by rw [hf];exact hs1) hr he hn (keepQ hq)
      · simp only [eM,if_false] at hev
        exact DO hc hl none _ s ex s' a w Z (by rw [hf];exact hev) hr he hn hq
    | true=>
      simp only [if_true] at h;split at h
      · rename_i hd
        split at h
        · -- the last operation may panic
          rename_i hsp;simp only [QA] at hsp;obtain ⟨⟨_,hemp⟩,hsp⟩:=hsp;have hp:yX ops l=[]:=List.isEmpty_iff.1 hemp;rw [hp] at hd;cases h;simp only [evC,CT,if_true,kept] at hev;have hgo:∃s1 ex2 s2,b7 call none l.dropLast s=some (.normal,s1)/\b7 call none (l.drop (l.length - 1)) s1=some (ex2,s2)/\gY F B0 w Z s.h a ex2 s2 Q:=by
            cases h1:b7 call none l.dropLast s with
            | none=>rw [h1] at hev;cases hev
            | some q=>
              obtain ⟨ex1,s1⟩:=q;rw [h1] at hev;cases ex1 with
              | normal=>
                simp only [eM,if_false] at hev;cases h2:b7 call none (l.drop (l.length - 1)) s1 with
                | none=>rw [h2] at hev;cases hev
                | some q2=>
                  obtain ⟨ex2,s2⟩:=q2;rw [h2] at hev;refine ⟨s1,ex2,s2,rfl,h2,?_⟩;cases ex2 with
                  | normal=>cases hev;exact keepQ hq
                  | exit i=>cases hev;exact hq
                  | ret=>cases hev;exact hq
                  | pan v=>cases hev;exact hq
              | _=>cases hev
          obtain ⟨s1,ex2,s2,h1,h2,hq2⟩:=hgo;refine wpIn_region_draw fun t=>?_
          simp only [Region.schedule,hm,Bool.true_or,if_true];obtain ⟨s3,q1,q2,q3⟩:=Dd hlen hd hsp h1 h2 t;refine DO hc hl none _ s ex2 s3 a w.drew Z q1 hr.drew (tr_drew.env he) hn ?_;have hq3:=gY.step (a1:=a) tr_drew rfl rfl hq2;cases ex2 with
          | normal=>
            intro a' w' hf;obtain ⟨Z',k1,k2,k3,k4,k5⟩:=hf;rw [q3] at k1 k2 k3;exact hq3 a' w' ⟨Z',k1,k2,fun t y hy=>k3 t y (by rw [<- q2 t];exact hy),k4,k5⟩
          | exit i=>
            intro a' w' hf;obtain ⟨Z',k1,k2,k3,k4,k5⟩:=hf;rw [q3] at k1 k2 k3;exact hq3 a' w' ⟨Z',k1,k2,fun t y hy=>k3 t y (by rw [<- q2 t];exact hy),k4,k5⟩
          | ret=>
            intro a' w' hf;obtain ⟨Z',k1,k2,k3,k4,k5⟩:=hf;rw [q3] at k1 k2 k3;exact hq3 a' w' ⟨Z',k1,k2,fun t y hy=>k3 t y (by rw [<- q2 t];exact hy),k4,k5⟩
          | pan v=>
            intro a' w' u hf;obtain ⟨Z',k1,k2,k3,k4,k5,k6⟩:=hf;rw [q3] at k1 k2 k3 k4;exact hq3 a' w' u ⟨Z',k1,k2,k3,fun t y hy=>k4 t y (by rw [<- q2 t];exact hy),k5,k6⟩
        cases h;simp only [evC] at hev;have any:∀(base:Option Nat) (s0 s1:St) (Z0:Beta),((yX ops l).isEmpty || NS (yX ops l) (feet call base l s0))=true->b7 call base l s0=some (.normal,s1)->
            HR F B0 w Z0 s0.h->EnvR F w Z0 s0.h s0.e a.tmps->gY F B0 w Z0 s0.h a .normal s1 Q->(Code.region id ops true).wpIn (WF ro) m P Q a w:=by
          intro base s0 s1 Z0 hfeet hs1 hr0 he0 hq0;refine wpIn_region_draw fun t=>?_
          simp only [Region.schedule,hm,Bool.true_or,if_true];obtain ⟨s2,q1,q2,q3⟩:=YH hlen hd hfeet hs1 t;refine DO hc hl base _ s0 .normal s2 a w.drew Z0 q1 hr0.drew (tr_drew.env he0) hn ?_;have hq2:=gY.step (a1:=a) tr_drew rfl rfl hq0;intro a' w' hf;obtain ⟨Z',k1,k2,k3,k4,k5⟩:=hf;rw [q3] at k1 k2 k3;exact hq2 a' w' ⟨Z',k1,k2,fun t y hy=>k3 t y (by rw [<- q2 t];exact hy),k4,k5⟩
        split at hev
        · rename_i hemp
          split at hev
          · rename_i s1 hs1
            cases hev;exact any none s s1 Z (by rw [hemp];rfl) hs1 hr he (keepQ hq)
          · cases hev
        · split at hev
          · rename_i hcond
            simp only [QA] at hcond;split at hev
            · rename_i s1 hs1
              cases hev;obtain ⟨t0,h0⟩:=Ft hr hcond.1;have hq1:=gY.step (a1:=a) t0 rfl rfl (keepQ hq);refine any _ ⟨s.e,s.h.resv (FB l)⟩ s1 _ (by rw [hcond.2,Bool.or_true]) hs1 h0 (t0.env he) ?_;intro a' w' hf;obtain ⟨Z',k1,k2,k3,k4,k5⟩:=hf;obtain ⟨t2,h2⟩:=Du k2;exact hq1 a' w' ⟨Z',k1.trans t2,h2,t2.env k3,k4,k5⟩
            · cases hev
          · cases hev
      · cases h
theorem EV {P:Program} {b:Frame} {a:Act} {k:List Item} {cs:List Frame} {w:World} {c:Code}:step P (lone (b.atR a (.code (.scope c)::k)) cs w)= .next (lone (b.atR a (.code c:: .inScope c::k)) cs w):=
 step_lone_go (by simp [stepG,stepG.exec,Frame.atR])
theorem Bu {P:Program} {b:Frame} {a:Act} {k:List Item} {cs:List Frame} {w:World} {c:Code}:step P (lone (b.atR a (.inScope c::k)) cs w)= .next (lone (b.atR a k) cs w):=
 step_lone_go (by simp [stepG,stepG.exec,Frame.atR])
theorem XJ {F:Fence} {n:Nat} {P:Program} {Q:Exit->Act->World->Prop} {a:Act} {w:World} {c:Code} (h:c.wpIn F n P (Exit.noGoto Q) a w):(Code.scope c).wpIn F n P Q a w:=by
 intro b k cs hro hb hr;have h0:(lone (b.atR a (.code (.scope c)::k)) cs w).fenced P F:=fenced_calm hb hr rfl;obtain ⟨e,a₁,w₁,hq,harr⟩:=h b (.inScope c::k) cs hro hb hr;cases e with
 | normal=>exact ⟨.normal,a₁,w₁,hq,.head h0 EV (StepsIn.trans harr (.one (fenced_calm hb hr rfl) Bu))⟩
 | exit id=>
  have hx:exitTo id (.inScope c::k)=exitTo id k:=by simp [exitTo]
  exact ⟨_,a₁,w₁,hq,fun k' hk=> .head h0 EV (harr.1 k' (by rw [hx];exact hk)),
   fun hr' hk=>let ⟨k₁,h1,h2⟩:=harr.2 hr' (by rw [hx];exact hk);⟨k₁,h1,.head h0 EV h2⟩⟩
 | goto l=>exact hq.elim
 | ret=>exact ⟨_,a₁,w₁,hq,.of_steps (.one h0 EV) harr⟩
 | panic ch=>exact ⟨_,a₁,w₁,hq,.of_steps (.one h0 EV) harr⟩
 | outgrown=>exact ⟨_,a₁,w₁,hq,.of_steps (.one h0 EV) harr⟩
theorem gZ {ro:Option Nat} {m:Nat} (hc:CallOk P call) (hm:P.follows .mixedOrders=true) (n:Nat):∀(c:Code) (ac:Xb),bW P A fn nt c=some ac->∀(Q:Exit->Act->World->Prop) (s:St) (ex:Ex) (s':St) (a:Act) (w:World) (Z:Beta),
  evC call n ac s=some (ex,s')->HR F B0 w Z s.h->EnvR F w Z s.h s.e a.tmps->a.tmps.size=nt->gY F B0 w Z s.h a ex s' Q->c.wpIn (WF ro) m P Q a w
 | .skip,ac,h,Q,s,ex,s',a,w,Z,hev,hr,he,hn,hq=>by
  cases h;cases hev;exact wpIn_skip (hq a w ⟨Z,.refl _ _ _,hr,he,rfl,rfl⟩)
 | .region id ops draw,ac,h,Q,s,ex,s',a,w,Z,hev,hr,he,hn,hq=>Cv hc hm h hev hr he hn hq
 | .seq x y,ac,h,Q,s,ex,s',a,w,Z,hev,hr,he,hn,hq=>by
  simp only [bW] at h;split at h
  ·rename_i ax ay hx hy;cases h;simp only [evC] at hev;refine wpIn_seq ?_;split at hev
   ·rename_i s1 hs1;refine gZ hc hm n x ax hx _ s .normal s1 a w Z hs1 hr he hn ?_;intro a' w' hf;obtain ⟨Z',k1,k2,k3,k4,k5⟩:=hf;exact gZ hc hm n y ay hy Q s1 ex s' a' w' Z' hev k2 k3 (k4.trans hn) (hq.step k1 k4 k5)
   ·rename_i hne;refine gZ hc hm n x ax hx _ s ex s' a w Z hev hr he hn ?_;cases ex with
    | normal=>exact absurd hev (hne s')
    | exit i=>exact hq
    | ret=>exact hq
    | pan v=>exact hq
  ·cases h
 | .cond c x y,ac,h,Q,s,ex,s',a,w,Z,hev,hr,he,hn,hq=>by
  simp only [bW] at h;split at h
  ·rename_i cx ax ay hcx hx hy;cases h;simp only [evC] at hev;split at hev
   ·rename_i hcv;exact wpIn_cond_true (iR (aO hcx he hcv)) (gZ hc hm n x ax hx Q s ex s' a w Z hev hr he hn hq)
   ·rename_i hcv;exact wpIn_cond_false (iR (aO hcx he hcv)) (gZ hc hm n y ay hy Q s ex s' a w Z hev hr he hn hq)
   ·cases hev
  ·cases h
 | .block id b,ac,h,Q,s,ex,s',a,w,Z,hev,hr,he,hn,hq=>by
  simp only [bW] at h;obtain ⟨ab,hb,rfl⟩:=map_some h;simp only [evC] at hev;refine wpIn_block ?_;split at hev
  ·rename_i i s1 hs1;split at hev
   ·rename_i hi;cases hev;refine gZ hc hm n b ab hb _ s (.exit i) s' a w Z hs1 hr he hn ?_;intro a' w' hf;simp only [Exit.inBlock,a9 hi];exact hq a' w' hf
   ·rename_i hi;cases hev;refine gZ hc hm n b ab hb _ s (.exit i) s' a w Z hs1 hr he hn ?_;intro a' w' hf;simp only [Exit.inBlock,a8 hi];exact hq a' w' hf
  ·rename_i hne;refine gZ hc hm n b ab hb _ s ex s' a w Z hev hr he hn ?_;cases ex with
   | exit i=>exact absurd hev (hne i s')
   | normal=>exact hq
   | ret=>exact hq
   | pan v=>exact hq
 | .loop b,ac,h,Q,s,ex,s',a,w,Z,hev,hr,he,hn,hq=>by
  simp only [bW] at h;obtain ⟨ab,hb,rfl⟩:=map_some h;simp only [evC] at hev;have key:∀(k:Nat) (s:St) (a:Act) (w:World) (Z:Beta),mY (evC call n ab) k s=some (ex,s')->HR F B0 w Z s.h->EnvR F w Z s.h s.e a.tmps->a.tmps.size=nt->gY F B0 w Z s.h a ex s' Q->
    Code.roundsIn (WF ro) m P b Q k a w:=by
   intro k
   induction k with
   | zero=>intro s a w Z hev;cases hev
   | succ k ih=>
    intro s a w Z hev hr he hn hq;simp only [mY] at hev;rw [roundsIn_succ];split at hev
    ·rename_i s1 hs1;refine gZ hc hm n b ab hb _ s .normal s1 a w Z hs1 hr he hn ?_;intro a' w' hf;obtain ⟨Z',k1,k2,k3,k4,k5⟩:=hf;exact ih s1 a' w' Z' hev k2 k3 (k4.trans hn) (hq.step k1 k4 k5)
    ·rename_i hne;refine gZ hc hm n b ab hb _ s ex s' a w Z hev hr he hn ?_;cases ex with
     | normal=>exact absurd hev (hne s')
     | exit i=>exact hq
     | ret=>exact hq
     | pan v=>exact hq
  exact wpIn_loop_rounds n (key n s a w Z hev hr he hn hq)
 | .exit id,ac,h,Q,s,ex,s',a,w,Z,hev,hr,he,hn,hq=>by
  cases h;cases hev;exact wpIn_exit (hq a w ⟨Z,.refl _ _ _,hr,he,rfl,rfl⟩)
 | .ret,ac,h,Q,s,ex,s',a,w,Z,hev,hr,he,hn,hq=>by
  cases h;cases hev;exact wpIn_ret (hq a w ⟨Z,.refl _ _ _,hr,he,rfl,rfl⟩)
 | .rangeFunc ..,_,h,_,_,_,_,_,_,_,_,_,_,_,_=>by cases h
 | .scope b,ac,h,Q,s,ex,s',a,w,Z,hev,hr,he,hn,hq=>by
  simp only [bW] at h;refine XJ (gZ hc hm n b ac h _ s ex s' a w Z hev hr he hn ?_);cases ex with
  | normal=>exact hq
  | exit i=>exact hq
  | ret=>exact hq
  | pan v=>exact hq
 | .label _,ac,h,Q,s,ex,s',a,w,Z,hev,hr,he,hn,hq=>by
  cases h;cases hev;exact wpIn_label (hq a w ⟨Z,.refl _ _ _,hr,he,rfl,rfl⟩)
 | .goto _,_,h,_,_,_,_,_,_,_,_,_,_,_,_=>by cases h
 | .refuse _,_,h,_,_,_,_,_,_,_,_,_,_,_,_=>by cases h
theorem mT (hc:CallOk P call) (hm:P.follows .mixedOrders=true) (n:Nat) (c:Code) (ac:Xb) (h:bW P A fn nt c=some ac) (Q:Exit->Act->World->Prop) (s:St) (ex:Ex) (s':St) (a:Act) (w:World) (Z:Beta)
  (hev:evC call n ac s=some (ex,s')) (hr:HR F B0 w Z s.h) (he:EnvR F w Z s.h s.e a.tmps) (hn:a.tmps.size=nt) (hq:gY F B0 w Z s.h a ex s' Q):c.wp P Q a w:=
 (wpIn_wide (n:=0)).1 (gZ (ro:=none) (m:=0) hc hm n c ac h Q s ex s' a w Z hev hr he hn hq)
end
end Go.Av
namespace Go.Av
section
variable {F:Nat->Nat->Prop} {B0:Nat} {P:Program} {A:Ann} {fn nt:FuncId} {call:aW}
theorem DM:∀{as:List AV} {n t:Nat} {y:AV},look t (cH n as)=some y->n<=t/\as[t - n]? =some y
 | [],_,_,_,h=>by cases h
 | a::as,n,t,y,h=>by
  simp only [cH,look] at h;split at h
  ·rename_i hnt;subst hnt;cases h;exact ⟨Qb _,by simp⟩
  ·obtain ⟨h1,h2⟩:=DM h;refine ⟨by omega,?_⟩;have:t - n=(t - (n+1))+1:=by omega
   rw [this,List.getElem?_cons_succ];exact h2
def Aa (P:Program) (ops:Array Oper) (Q:Exit->Act->World->Prop) (L2:List Nat):Exit->Act->World->Prop
 | .normal,a,w=>wpOps P ops Q L2 a w
 | e,a,w=>Q e a w
theorem NG (hc:CallOk P call) {ops:Array Oper} {l:List Xc} {Q:Exit->Act->World->Prop} (base:Option Nat) (L2:List Nat):
  ∀(L:List Nat) (hl:∀i∈L,∃o ao,ops[i]? =some o/\l[i]? =some ao/\jD P A fn nt ops o=some ao) (s:St) (ex:Ex) (s':St) (a:Act) (w:World) (Z:Beta),b7 call base (L.filterMap (l[·]?)) s=some (ex,s')->HR F B0 w Z s.h->EnvR F w Z s.h s.e a.tmps->a.tmps.size=nt->
   gY F B0 w Z s.h a ex s' (Aa P ops Q L2)->wpOps P ops Q (L++L2) a w
 | [],_,s,ex,s',a,w,Z,hev,hr,he,hn,hq=>by
  cases hev;exact hq a w ⟨Z,.refl _ _ _,hr,he,rfl,rfl⟩
 | i::L,hl,s,ex,s',a,w,Z,hev,hr,he,hn,hq=>by
  rw [FP];simp only [wpOps];obtain ⟨o,ao,ho,hao,hco⟩:=hl i FL;have hl':∀i∈L,∃o ao,ops[i]? =some o/\l[i]? =some ao/\jD P A fn nt ops o=some ao:=fun j hj=>hl j (wI _ hj)
  rw [ho];rw [kC hao] at hev;obtain ⟨h1,h2,h3,h4⟩:=Q8 hco;simp only;rw [b7] at hev;cases hg:dT s.e ao.guard with
  | none=>rw [hg] at hev;cases hev
  | some b=>
   rw [hg] at hev;rw [UH hco he hg];cases b with
   | false=>
    simp only at hev;simp only [eM,if_false];rw [h2] at hev;refine NG hc base L2 L hl' _ ex s' (a.put o.dst undef) w Z hev hr (DU he (.d (.tup [] #[] rfl (by simp))) (by intro k hk;rw [hn];exact h3 k hk)) (by rw [jC];exact hn) ?_;exact hq.step (.refl _ _ _) (jC _ _ _) (vI _ _ _)
   | true=>
    simp only at hev;simp only [if_true];left;cases hcall:a7 call s.e (bN base ao.dst s.h) s.h ao.op with
    | none=>rw [hcall] at hev;cases hev
    | some p=>
     obtain ⟨r,H1⟩:=p;rw [hcall] at hev;refine U9 hc hr he (TZ _ _ _) h1 hcall ⟨?_,?_⟩
     ·intro x v w' hx hgood;subst hx;simp only at hev;rw [h2] at hev;obtain ⟨Z',t1,t2,t3⟩:=hgood;refine NG hc base L2 L hl' _ ex s' (a.put o.dst v) w' Z' hev t2 (DU (t1.env he) t3 (by intro k hk;rw [hn];exact h3 k hk)) (by rw [jC];exact hn) ?_;exact hq.step t1 (jC _ _ _) (vI _ _ _)
     ·intro x u w' hx hgood;subst hx;simp only at hev;cases hev;obtain ⟨Z',t1,t2,t3⟩:=hgood;exact hq a w' u ⟨Z',t1,t2,t3,t1.env he,rfl,rfl⟩
theorem Do {nt:Nat} {ops:List Oper} {draw:Bool} {ab:Nat×Nat} (h:VH nt ops draw=some ab):∃o1 o2 a b,ops=[o1,o2]/\RL o1=some a/\RF o2=some (b,a)/\draw=false/\a<nt/\b<nt/\ab=(a,b):=by
 unfold VH at h;split at h
 ·rename_i o1 o2;split at h
  ·rename_i a b a' h1 h2;split at h
   ·rename_i hc;obtain ⟨rfl,rfl,k1,k2⟩:=hc;cases h;exact ⟨o1,o2,_,_,rfl,h1,h2,rfl,k1,k2,rfl⟩
   ·cases h
  ·cases h
 ·cases h
theorem Fq {o:Oper} {a:Nat} (h:RL o=some a):o.dst=some a/\o.guard=none/\∀(E:Operand->Value) (w:World),(execOp E o).run P w= .ok .recover w:=by
 unfold RL at h;split at h
 ·rename_i c hop;split at h
  ·rename_i hcal;split at h
   ·rename_i hcond;refine ⟨h,hcond.2,fun E w=>?_⟩;have:c.args= #[]:=FI hcond.1;simp [execOp,hop,resolve,hcal,this,invoke,builtin,go_sem]
   ·cases h
  ·cases h
 ·cases h
theorem Ef {o:Oper} {b a:Nat} (h:RF o=some (b,a)):o.dst=some b/\o.guard=none/\∀(E:Operand->Value) (w:World),(execOp E o).run P w= .ok (.value (E (.tmp a))) w:=by
 unfold RF at h;split at h
 ·rename_i a' hop;split at h
  ·rename_i hcond;rw [Qp] at h;obtain ⟨b',h1,h2⟩:=h;cases h2;refine ⟨h1,hcond,fun E w=>?_⟩;simp [execOp,hop]
  ·cases h
 ·cases h
theorem Fe (hc:CallOk P call) (hm:P.follows .mixedOrders=true) {n:Nat} {d:ADFn} {gd:Func} {gc:Code} (hg:P.funcs[d.clo]? =some gd) (hgb:gd.body=some gc)
    (hk:cClo P A d.clo gd.ntmps gc=some (d.rcv,d.cbody)) (hcap:gd.nfree=d.ncaps) (hle:gd.nfree<=gd.ntmps) (hres:gd.results.size=0)
    {caps:List AV} {vs:Array Value} {w:World} {Z:Beta} {H H':AH} (hr:HR F B0 w Z H) (ha:ArgsR F w Z H caps vs) (hlen:caps.length=d.ncaps)
    {u:FrameMode} {x:AV} (hev:vK call n d x caps H=some H')
    (hu:(u= .returning/\x= .niliface)\/(d.rcv.isSome=true/\∃v,u= .panicking [{ v,recovered:=false }]/\VRH F w Z H x v)):
    CallsD P d.clo vs u w fun e u' w'=>∃v,e= .returned v/\settle u'= .returning/\∃Z',Tr w Z H w' Z' H'/\HR F B0 w' Z' H':=by
  have hvs:vs.size=gd.nfree:=by rw [<- ha.1,hlen,hcap]
  have hn:(vs++Array.replicate (gd.ntmps - vs.size) undef).size=gd.ntmps:=by simp;omega
  have he:EnvR F w Z H (cH 0 caps) (vs++Array.replicate (gd.ntmps - vs.size) undef):=by
    intro t y hy;obtain ⟨_,h1⟩:=DM hy;simp at h1;have hlt:t<caps.length:=(Qk.1 h1).1;have hlt':t<vs.size:=by rw [<- ha.1];exact hlt
    refine ⟨vs[t],by simp [Array.getElem?_append,hlt'],ha.2 t y _ h1 (by simp [hlt'])⟩
  have hrs:∀tmps,∀w,(results gd tmps).run P w= .ok (.tuple #[]) w:=by
    intro tmps w;have:gd.results= #[]:=FI hres;simp [results,this]
  have fin:∀{ex:Ex} {s:St},evC call n d.cbody ⟨recE d.rcv x (cH 0 caps),H⟩=some (ex,s)->(ex= .normal\/ex= .ret)/\s.h=H':=by
    intro ex s h;unfold vK at hev;rw [h] at hev;cases ex with
    | normal=>simp at hev;exact ⟨.inl rfl,hev⟩
    | ret=>simp at hev;exact ⟨.inr rfl,hev⟩
    | exit i=>cases hev
    | pan v=>cases hev
  obtain ⟨ex,s,hex⟩:∃ex s,evC call n d.cbody ⟨recE d.rcv x (cH 0 caps),H⟩=some (ex,s):=by
    unfold vK at hev;split at hev
    · rename_i s h;exact ⟨_,s,h⟩
    · rename_i s h;exact ⟨_,s,h⟩
    · cases hev
  obtain ⟨hends,hsh⟩:=fin hex;unfold cClo at hk;have plain:∀ac,bW P A d.clo gd.ntmps gc=some ac->d.rcv=none->d.cbody=ac->CallsD P d.clo vs u w fun e u' w'=>∃v,e= .returned v/\settle u'= .returning/\∃Z',Tr w Z H w' Z' H'/\HR F B0 w' Z' H':=by
    intro ac hac hrcv hcb;have hu':u= .returning:=by
      rcases hu with ⟨h,_⟩ | ⟨h,_⟩
      · exact h
      · rw [hrcv] at h;cases h
    subst hu';refine (callsD_of_wp (R:=fun e w'=>∃v,e= .returned v/\∃Z',Tr w Z H w' Z' H'/\HR F B0 w' Z' H') hg hgb ?_).mono ?_
    · rw [hcb,hrcv] at hex
      refine mT hc hm n gc ac hac _ _ ex s _ w Z hex hr he hn ?_;have done:∀a' w',Fine F B0 w Z H { tmps:=vs++Array.replicate (gd.ntmps - vs.size) undef,defers:=[] } a' w' s->a'.defers=[]/\∃v,(results gd a'.tmps).run P w'= .ok v w'/\∃v',Ending.returned v= .returned v'/\∃Z',Tr w Z H w' Z' H'/\HR F B0 w' Z' H':=by
        rintro a' w' ⟨Z',k1,k2,k3,k4,k5⟩;rw [hsh] at k1 k2;exact ⟨k5,_,hrs _ _,_,rfl,Z',k1,k2⟩
      rcases hends with rfl | rfl
      · exact done
      · exact done
    · rintro e u' w' ⟨rfl,v,rfl,hh⟩
      exact ⟨v,rfl,rfl,hh⟩
  split at hk
  · rename_i id ops draw y
    split at hk
    · rename_i ab hrr
      obtain ⟨o1,o2,a,b,hops,ho1,ho2,rfl,hlt1,hlt2,rfl⟩:=Do hrr;obtain ⟨ac,hac,heq⟩:=map_some hk;simp only [Prod.mk.injEq] at heq;obtain ⟨hrcv,hcb⟩:=heq;rw [<- hcb,<- hrcv] at hex;simp only [recE] at hex;obtain ⟨v,u',hrec,hset,hxv⟩:∃v u',(∀(c₀:Frame) (cs:List Frame),c₀.mode=u->(match recoverD (c₀::cs) with | some (v',cs')=>v'=v/\cs'={ c₀ with mode:=u' }::cs | none=>v= .nilIface/\u'=u))/\settle u'= .returning/\VRH F w Z H x v:=by
        rcases hu with ⟨rfl,rfl⟩ | ⟨_,v,rfl,hx⟩
        · refine ⟨.nilIface,.returning,?_,rfl,.d .niliface⟩
          intro c₀ cs h;simp [recoverD,h]
        · refine ⟨v,.panicking [{ v,recovered:=true }],?_,by simp [settle],hx⟩
          intro c₀ cs h;simp [recoverD,h]
      have hops':ops= #[o1,o2]:=by
        apply Array.toList_inj.1;simpa using hops
      subst hops';have hwant:∀(o:Oper),o.guard=none->∀tmps,Region.wanted o tmps=true:=by
        intro o h tmps;simp [Region.wanted,h]
      obtain ⟨hd1,hg1,hx1⟩:=Fq (P:=P) ho1;obtain ⟨hd2,hg2,hx2⟩:=Ef (P:=P) ho2;refine callsD_of_wpS (R:=fun e u' w'=>∃v,e= .returned v/\settle u'= .returning/\∃Z',Tr w Z H w' Z' H'/\HR F B0 w' Z' H') hg hgb fun c₀ cs hmode=>?_
      have hr0:=hrec c₀ cs hmode;generalize hRR:(fun e u' w'=>∃v,e=Ending.returned v/\settle u'= .returning/\∃Z',Tr w Z H w' Z' H'/\HR F B0 w' Z' H')=RR;have hRR':∀v u' w',settle u'= .returning->(∃Z',Tr w Z H w' Z' H'/\HR F B0 w' Z' H')->RR (.returned v) u' w':=by
        rw [<- hRR];intro v u' w' h1 h2;exact ⟨v,rfl,h1,h2⟩
      apply wpS_seq;apply wpS_region;have hrange:List.range (#[o1,o2]:Array Oper).size=[0,1]:=rfl;rw [hrange];have key:∀(cs':List Frame),cs'={ c₀ with mode:=u' }::cs->∀a1:Act,a1=Act.put { tmps:=vs++Array.replicate (gd.ntmps - vs.size) undef,defers:=[] } (some a) v->
          wpOpsS P #[o1,o2] (Exit.thenS (y.wpS P (bodyPostS P gd c₀ cs RR)) (bodyPostS P gd c₀ cs RR)) [1] a1 cs' w:=by
        intro cs' hcs' a1 ha1;have hva:a1.eval (.tmp a)=v:=by
          rw [ha1];have:a<(vs++Array.replicate (gd.ntmps - vs.size) undef).size:=by rw [hn];exact hlt1
          simp [Act.eval,Act.put,nH,this];intro hh;simp at this;omega
        have h1:(#[o1,o2]:Array Oper)[1]? =some o2:=rfl;simp only [wpOpsS,h1,hwant o2 hg2,if_true,hx2,Oper.upon];rw [hd2];simp only [Exit.thenS];rw [hva,hcs'];refine wpS_of_wp ?_;have he1:EnvR F w Z H ((b,x)::(a,x)::cH 0 caps) (a1.put (some b) v).tmps:=by
          rw [ha1];refine DU (d:=some b) (DU (d:=some a) he hxv ?_) hxv ?_
          · intro k hk;cases hk;rw [hn];exact hlt1
          · intro k hk;cases hk;rw [jC];simp only;rw [hn];exact hlt2
        have hn1:(a1.put (some b) v).tmps.size=gd.ntmps:=by rw [jC,ha1,jC];exact hn
        have hd0:(a1.put (some b) v).defers=[]:=by rw [vI,ha1,vI]
        refine mT hc hm n y ac hac _ _ ex s _ w Z hex hr he1 hn1 ?_;have done:∀a' w',Fine F B0 w Z H (a1.put (some b) v) a' w' s->a'.defers=[]/\∃u'',{ c₀ with mode:=u' }::cs={ c₀ with mode:=u'' }::cs/\∃v',(results gd a'.tmps).run P w'= .ok v' w'/\RR (.returned v') u'' w':=by
          rintro a' w' ⟨Z',k1,k2,k3,k4,k5⟩;rw [hsh] at k1 k2;exact ⟨k5.trans hd0,u',rfl,_,hrs _ _,hRR' _ _ _ hset ⟨Z',k1,k2⟩⟩
        rcases hends with rfl | rfl
        · exact done
        · exact done
      have h0:(#[o1,o2]:Array Oper)[0]? =some o1:=rfl;rw [wpOpsS];simp only [h0,hwant o1 hg1,if_true,hx1];rw [hd1];cases hq:recoverD (c₀::cs) with
      | none=>
        rw [hq] at hr0;obtain ⟨rfl,rfl⟩:=hr0;exact key _ (by rw [<- hmode]) _ rfl
      | some p=>
        obtain ⟨v',cs'⟩:=p;rw [hq] at hr0;obtain ⟨rfl,rfl⟩:=hr0;exact key _ rfl _ rfl
    · obtain ⟨ac,hac,heq⟩:=map_some hk
      simp only [Prod.mk.injEq] at heq;exact plain ac hac heq.1.symm heq.2.symm
  · obtain ⟨ac,hac,heq⟩:=map_some hk
    simp only [Prod.mk.injEq] at heq;exact plain ac hac heq.1.symm heq.2.symm
theorem Ey {o:Oper} {t:Nat} (h:RG o=some t):o.dst=none/\o.guard=none/\∀(E:Operand->Value) (w:World) (g:FuncId) (cs:Array Value),E (.tmp t)= .func (.func g) #[] cs->
  (execOp E o).run P w= .ok (.defer { target:= .fn (.func g) cs,args:= #[] }) w:=by
 unfold RG at h;split at h
 ·rename_i c hop;split at h
  ·rename_i t' hcal;split at h
   ·rename_i hcond;cases h;refine ⟨hcond.2.1,hcond.2.2,fun E w g cs hρ=>?_⟩;have:c.args= #[]:=FI hcond.1;simp [execOp,hop,resolve,hcal,this,hρ,Deferred.ofValue,go_sem]
   ·cases h
  ·cases h
 ·cases h
def RD (F:Nat->Nat->Prop) (B0:Nat) (nt:Nat) (w:World) (Z:Beta) (H:AH) (s':St) (tmps:Array Value) (w':World):Prop:=
 ∃Z',Tr w Z H w' Z' s'.h/\HR F B0 w' Z' s'.h/\EnvR F w' Z' s'.h s'.e tmps/\tmps.size=nt
theorem Y1 (hc:CallOk P call) (hm:P.follows .mixedOrders=true) {n:Nat} {d:ADFn} {fd gd:Func} {gc:Code} (hg:P.funcs[d.clo]? =some gd) (hgb:gd.body=some gc)
  (hk:cClo P A d.clo gd.ntmps gc=some (d.rcv,d.cbody)) (hcap:gd.nfree=d.ncaps) (hle:gd.nfree<=gd.ntmps) (hres:gd.results.size=0) (hbd:w7 P d.clo) {R:Ending->World->Prop}:
  ∀(c:Code) (dc:DCode),CK P A fn nt c=some dc->∀(s:St) (ex:Ex) (s':St) (a:Act) (w:World) (Z:Beta),
  evD call n d dc s=some (ex,s')->HR F B0 w Z s.h->EnvR F w Z s.h s.e a.tmps->a.tmps.size=nt->a.defers=[]->(∀i,ex≠ .exit i)->
  (ex= .normal\/ex= .ret->∀tmps w',RD F B0 nt w Z s.h s' tmps w'->∃v,(results fd tmps).run P w'= .ok v w'/\R (.returned v) w')->
  (∀v,ex= .pan v->∀w' u,Good F B0 w Z s.h v s'.h u w'->R (.panicked [{ v:=u,recovered:=false }]) w')->
  c.wp P (bodyPostD P fd R) a w:=by
 have front:∀(x y:Code) (ax:Xb) (k:DCode),bW P A fn nt x=some ax->(∀(s:St) (ex:Ex) (s':St) (a:Act) (w:World) (Z:Beta),
   evD call n d k s=some (ex,s')->HR F B0 w Z s.h->EnvR F w Z s.h s.e a.tmps->a.tmps.size=nt->a.defers=[]->(∀i,ex≠ .exit i)->
   (ex= .normal\/ex= .ret->∀tmps w',RD F B0 nt w Z s.h s' tmps w'->∃v,(results fd tmps).run P w'= .ok v w'/\R (.returned v) w')->
   (∀v,ex= .pan v->∀w' u,Good F B0 w Z s.h v s'.h u w'->R (.panicked [{ v:=u,recovered:=false }]) w')->
   y.wp P (bodyPostD P fd R) a w)->∀(s:St) (ex:Ex) (s':St) (a:Act) (w:World) (Z:Beta),
   evD call n d (.seq ax k) s=some (ex,s')->HR F B0 w Z s.h->EnvR F w Z s.h s.e a.tmps->a.tmps.size=nt->a.defers=[]->(∀i,ex≠ .exit i)->
   (ex= .normal\/ex= .ret->∀tmps w',RD F B0 nt w Z s.h s' tmps w'->∃v,(results fd tmps).run P w'= .ok v w'/\R (.returned v) w')->
   (∀v,ex= .pan v->∀w' u,Good F B0 w Z s.h v s'.h u w'->R (.panicked [{ v:=u,recovered:=false }]) w')->
   (Code.seq x y).wp P (bodyPostD P fd R) a w:=by
  intro x y ax k hx ih s ex s' a w Z hev hr he hn hd hex hret hpan;simp only [evD] at hev;refine wp_seq ?_;split at hev
  ·rename_i s1 hs1;refine mT hc hm n x ax hx _ s .normal s1 a w Z hs1 hr he hn ?_;rintro a' w' ⟨Z',k1,k2,k3,k4,k5⟩;refine ih s1 ex s' a' w' Z' hev k2 k3 (k4.trans hn) (k5.trans hd) hex ?_ ?_
   ·rintro h tmps w2 ⟨Z2,m1,m2⟩;exact hret h tmps w2 ⟨Z2,k1.trans m1,m2⟩
   ·intro v h w2 u hgood;exact hpan v h w2 u (hgood.step k1)
  ·rename_i hne;refine mT hc hm n x ax hx _ s ex s' a w Z hev hr he hn ?_;cases ex with
   | normal=>exact absurd hev (hne s')
   | exit i=>exact absurd rfl (hex i)
   | ret=>
    rintro a' w' ⟨Z',k1,k2,k3,k4,k5⟩;show Leaves P fd a'.tmps R a'.defers .returning w';rw [k5,hd];obtain ⟨v,h1,h2⟩:=hret (.inr rfl) a'.tmps w' ⟨Z',k1,k2,k3,k4.trans hn⟩;exact ⟨v,h1,h2⟩
   | pan v=>
    intro a' w' u hf;obtain ⟨_,_,_,_,_,_,hdd⟩:=(show _ from hf:FineP _ _ _ _ _ _ _ _ _ _ _);show Leaves P fd a'.tmps R a'.defers (.panicking _) w';rw [hdd,hd];exact hpan v rfl w' u hf.good
 intro c
 induction c with
 | seq x y ihx ihy=>
  intro dc hdc;have other:∀ax k,bW P A fn nt x=some ax->CK P A fn nt y=some k->dc= .seq ax k->∀(s:St) (ex:Ex) (s':St) (a:Act) (w:World) (Z:Beta),
    evD call n d dc s=some (ex,s')->HR F B0 w Z s.h->EnvR F w Z s.h s.e a.tmps->a.tmps.size=nt->a.defers=[]->(∀i,ex≠ .exit i)->
    (ex= .normal\/ex= .ret->∀tmps w',RD F B0 nt w Z s.h s' tmps w'->∃v,(results fd tmps).run P w'= .ok v w'/\R (.returned v) w')->
    (∀v,ex= .pan v->∀w' u,Good F B0 w Z s.h v s'.h u w'->R (.panicked [{ v:=u,recovered:=false }]) w')->
    (Code.seq x y).wp P (bodyPostD P fd R) a w:=by
   intro ax k hx hy hh;subst hh;exact front x y ax k hx (ihy k hy)
  cases x with
  | region id ops draw=>
   simp only [CK] at hdc;cases hops:VK P A fn nt ops with
   | none=>
    rw [hops] at hdc;simp only at hdc;split at hdc
    ·rename_i ax k hx hy;cases hdc;exact other ax k hx hy rfl
    ·cases hdc
   | some lt=>
    obtain ⟨l,t⟩:=lt;rw [hops] at hdc;simp only at hdc;cases draw with
    | true=>cases hdc
    | false=>
     simp only [eM,if_false] at hdc;obtain ⟨ay,hy,rfl⟩:=map_some hdc;intro s ex s' a w Z hev hr he hn hd hex hret hpan;unfold VK at hops;cases hlast:ops.toList.getLast?.bind RG with
     | none=>rw [hlast] at hops;cases hops
     | some t'=>
      rw [hlast] at hops;simp only at hops;obtain ⟨l',hl',heq⟩:=map_some hops;simp only [Prod.mk.injEq] at heq;obtain ⟨rfl,rfl⟩:=heq;rw [Qq] at hlast;obtain ⟨o,ho,hdo⟩:=hlast;obtain ⟨hdst,hgd,hrun⟩:=Ey (P:=P) hdo;have hsplit:ops.toList=ops.toList.dropLast++[o]:=by
       have hne:ops.toList≠[]:=by intro h;rw [h] at ho;cases ho
       rw [List.getLast?_eq_some_getLast hne] at ho;cases ho;exact (List.dropLast_concat_getLast hne).symm
      have hlenl:l'.length=ops.toList.dropLast.length:=(cN hl').symm;have hsz:ops.size=l'.length+1:=by
       have:=congrArg List.length hsplit;simp at this hlenl;omega
      have hoat:ops[l'.length]? =some o:=by
       have:ops.toList[l'.length]? =some o:=by rw [hsplit,hlenl];simp
       simpa using this
      refine wp_seq (wp_region ?_);rw [hsz,List.range_succ];simp only [evD] at hev;have hfr:(List.range l'.length).filterMap (l'[·]?)=l':=TT l';have hall:∀i∈List.range l'.length,∃o ao,ops[i]? =some o/\l'[i]? =some ao/\jD P A fn nt ops o=some ao:=by
       intro i hi;rw [A5] at hi;have hi2:i<ops.toList.dropLast.length:=by omega
       obtain ⟨o',ho'⟩:∃o',ops.toList.dropLast[i]? =some o':=⟨_,Qa hi2⟩;obtain ⟨ao,h1,h2⟩:=(vD hl').2 i o' ho';refine ⟨o',ao,?_,h1,h2⟩;have:ops.toList[i]? =some o':=by
        rw [hsplit,Qj hi2];exact ho'
       simpa using this
      split at hev
      ·rename_i s1 hs1;refine NG hc none [l'.length] (List.range l'.length) hall s .normal s1 a w Z (by rw [hfr];exact hs1) hr he hn ?_;rintro a1 w1 ⟨Z1,k1,k2,k3,k4,k5⟩;simp only [Aa];cases hcl:(look t' s1.e).bind tgt with
       | none=>rw [hcl] at hev;cases hev
       | some p=>
        obtain ⟨f,caps⟩:=p;rw [hcl] at hev;simp only at hev;split at hev
        ·rename_i hcond;obtain ⟨rfl,hcl2⟩:=hcond;rw [Qq] at hcl;obtain ⟨fv,hfv,htg⟩:=hcl;obtain ⟨vv,hvv,hvr⟩:=k3 _ _ hfv;have:=Hz htg;subst this;obtain ⟨va,vb,rfl,p1,p2,p3,p4⟩:=DW hvr;have hva:va= #[]:=by apply FI;simpa using p1.symm
         subst hva;have heval:a1.eval (.tmp t')= .func (.func d.clo) #[] vb:=by
          show a1.tmps.getD t' undef=_;rw [nH,hvv];rfl
         have hargs:ArgsR F w1 Z1 s1.h caps vb:=⟨p2,p4⟩;have hw0:Region.wanted o (yielded ops a1.tmps)=true:=by simp [Region.wanted,hgd]
         simp only [wpOps,hoat,hw0,if_true];left;simp only [Oper.wp,hrun a1.eval w1 d.clo vb heval,Oper.upon,hdst];show y.wp P (bodyPostD P fd R) { tmps:=a1.tmps,defers:={ target:= .fn (.func d.clo) vb,args:= #[] }::a1.defers } w1;rw [k5,hd];have hinv:∀w,(invoke (.fn (.func d.clo) vb) #[]).run P w= .ok (.enter d.clo vb) w:=by
          intro w;obtain ⟨fn',q1,q2,q3⟩:=hbd;simp only [invoke,Array.empty_append];have q2':fn'.body.isNone=false:=q2
          have q3' : ¬ (fn'.name = "runtime.NumGoroutine") := by simpa using q3
          have q4:fn'.body≠none:=by intro hh;rw [hh] at q2';cases q2'
          simp [callFunc,q1,q4,q3']
         have atEnd:∀(x:AV) (u:FrameMode) (s2:St) (a2:Act) (w2:World) (Z2:Beta) (h3:AH),Tr w1 Z1 s1.h w2 Z2 s2.h->HR F B0 w2 Z2 s2.h->EnvR F w2 Z2 s2.h s2.e a2.tmps->a2.tmps.size=nt->
           a2.defers=[{ target:= .fn (.func d.clo) vb,args:= #[] }]->vK call n d x caps s2.h=some h3->u≠ .run->
           ((u= .returning/\x= .niliface)\/(d.rcv.isSome=true/\∃v,u= .panicking [{ v,recovered:=false }]/\VRH F w2 Z2 s2.h x v))->some (Ex.ret,(⟨s2.e,h3⟩:St))=some (ex,s')->
           Leaves P fd a2.tmps R a2.defers u w2:=by
          intro x u s2 a2 w2 Z2 h3 m1 m2 m3 m4 m5 m6 m7 m8 m9;cases m9;rw [m5];refine leaves_cons m7 (hinv w2) ?_;refine (Fe hc hm hg hgb hk hcap hle hres m2 ⟨hargs.1,fun i x v hx hv=>m1.vr (hargs.2 i x v hx hv)⟩ hcl2 m6 m8).mono ?_;rintro e u' w' ⟨v,rfl,hs',Z3,q1,q2⟩;show Leaves P fd a2.tmps R [] (settle u') w';rw [hs'];exact hret (.inr rfl) a2.tmps w' ⟨Z3,(k1.trans m1).trans q1,q2,q1.env m3,m4⟩
         unfold NR at hev;split at hev
         ·rename_i s2 hs2;rw [Qp] at hev;obtain ⟨h3,e1,e2⟩:=hev;refine mT hc hm n y ay hy _ s1 .normal s2 _ w1 Z1 hs2 k2 k3 (k4.trans hn) ?_;rintro a2 w2 ⟨Z2,m1,m2,m3,m4,m5⟩;exact atEnd _ _ s2 a2 w2 Z2 h3 m1 m2 m3 (m4.trans (k4.trans hn)) m5 e1 (by simp) (.inl ⟨rfl,rfl⟩) (congrArg some e2)
         ·rename_i s2 hs2;rw [Qp] at hev;obtain ⟨h3,e1,e2⟩:=hev;refine mT hc hm n y ay hy _ s1 .ret s2 _ w1 Z1 hs2 k2 k3 (k4.trans hn) ?_;rintro a2 w2 ⟨Z2,m1,m2,m3,m4,m5⟩;exact atEnd _ _ s2 a2 w2 Z2 h3 m1 m2 m3 (m4.trans (k4.trans hn)) m5 e1 (by simp) (.inl ⟨rfl,rfl⟩) (congrArg some e2)
         ·rename_i v s2 hs2;split at hev
          ·rename_i hrc;rw [Qp] at hev;obtain ⟨h3,e1,e2⟩:=hev;refine mT hc hm n y ay hy _ s1 (.pan v) s2 _ w1 Z1 hs2 k2 k3 (k4.trans hn) ?_;rintro a2 w2 u ⟨Z2,m1,m2,m2',m3,m4,m5⟩;exact atEnd _ (.panicking _) s2 a2 w2 Z2 h3 m1 m2 m3 (m4.trans (k4.trans hn)) m5 e1 (by simp) (.inr ⟨hrc,u,rfl,m2'⟩) (congrArg some e2)
          ·cases hev
         ·cases hev
        ·cases hev
      ·rename_i hne;refine NG hc none [l'.length] (List.range l'.length) hall s ex s' a w Z (by rw [hfr];exact hev) hr he hn ?_;cases ex with
       | normal=>exact absurd hev (hne s')
       | exit i=>exact absurd rfl (hex i)
       | ret=>
        rintro a' w' ⟨Z',k1,k2,k3,k4,k5⟩;show Leaves P fd a'.tmps R a'.defers .returning w';rw [k5,hd];obtain ⟨v,h1,h2⟩:=hret (.inr rfl) a'.tmps w' ⟨Z',k1,k2,k3,k4.trans hn⟩;exact ⟨v,h1,h2⟩
       | pan v=>
        intro a' w' u hf;obtain ⟨_,_,_,_,_,_,hdd⟩:=(show _ from hf:FineP _ _ _ _ _ _ _ _ _ _ _);show Leaves P fd a'.tmps R a'.defers (.panicking _) w';rw [hdd,hd];exact hpan v rfl w' u hf.good
  | skip | seq _ _ | cond _ _ _ | block _ _ | loop _ | exit _ | ret | rangeFunc _ _ _ _ | scope _ | label _ | goto _ | refuse _=>
   simp only [CK] at hdc;split at hdc
   ·rename_i ax k hx hy;cases hdc;exact other ax k hx hy rfl
   ·cases hdc
 | _=>intro dc hdc;simp [CK] at hdc
end
end Go.Av
