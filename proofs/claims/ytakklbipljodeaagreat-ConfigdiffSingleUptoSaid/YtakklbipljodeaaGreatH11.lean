/-
 store.Load, store.New, Config: a store holds the configuration that it was given.
-/
import Derived.Test.YtakklbipljodeaaGreatQ10
import Derived.Test.YtakklbipljodeaaGreatW25K
set_option linter.unusedVariables false
set_option linter.unusedSimpArgs false
set_option linter.constructorNameAsVariable false
namespace Go.Av
set_option maxRecDepth 4000
theorem qabj {p:Prg} {t:Int} {tb:Tbl} (h:(tblE p t).2=0) (ht:at? p.tables t=some tb):tb.size<=256:=by
 unfold tblE at h;rw [ht] at h;simp only at h;split at h
 ·cases h
 split at h
 ·cases h
 split at h
 ·cases h
 ·omega
theorem qab9 {p:Prg} {t:Int} {x:Entry} (h:entE p t x=0):(tblE p t).2=0:=by
 unfold entE at h;refine Decidable.byContradiction fun hc=>?_
 rw [if_pos hc] at h;exact hc h
theorem CfgV.small {p:Prg} {c:Config} (v:CfgV p c):∀l∈c.rows,l.length<=256:=by
 intro l hl;obtain ⟨k,hk,rfl⟩:=Qn.1 hl;have hkt:k<p.tables.length:=by rw [<- v.rl];exact hk
 have hv:=v.at hkt;by_cases h0:c.rows[k].length=0
 ·omega
 have he:=hv.ent _ (Qd (show 0<c.rows[k].length by omega));have hs:=qabj (qab9 he) (by rw [qeo];exact Qa hkt);have:=hv.size;omega
theorem CfgV.u {p:Prg} {c:Config} (v:CfgV p c) (s:CfgT c):CfgU c:=⟨s,fun l hl=>by have:=v.small l hl;omega⟩
theorem CfgT.s {c:Config} (t:CfgT c):CfgS c:=
 ⟨t.rl,fun l hl=>⟨(t.rs l hl).1,fun r hr=>⟨((t.rs l hl).2 r hr).kl,((t.rs l hl).2 r hr).al⟩⟩,t.nl,t.dl,fun d hd=>(t.ds d hd).1,t.gl,fun l hl=>(t.gs l hl).1⟩
theorem qyj {p:Prg} (op:p.Ok qa2):∀t∈p.tables,∀v∈t.dflt.args,ok32 0 v:=by
 intro t ht v hv;have:=op.2.2.2.2.2.1.2 t ht;simp only [Tbl.Ok,ActionCall.Ok] at this;exact this.2.2.2.1.2.2 v hv
section
variable {O:List (Nat×AO)} {N:Nat} {S:SV} {p:Prg} {c:Config}
theorem StoreM.se (m:StoreM O S p c):look S.s O=some (.row 15 [[S.v1,S.v2,S.v3,S.v4,.str p.name,.slice 2 (p.headers.map Header.c),.slice 2 (p.metadata.map Fld.c),.slice 3 (p.registers.map Register.c),.slice 3 (p.actions.map Action.c),.slice 6 (p.tables.map Tbl.c),.slice 7 (p.states.map ParserState.c),.slice 5 (p.control.map ControlNode.c),.slice 1 (p.deparser.map cI),S.vi,.bool true]]):=by
 have hs:=m.s;simp only [SV.cells,Prg.e,List.cons_append,List.nil_append] at hs;exact hs
theorem StoreM.l1 (m:StoreM O S p c):lenOf S.v1=some c.rows.length:=by
 have:=m.cm.r.len;rw [List.length_map,m.cm.rl] at this;exact this
theorem StoreM.idx (m:StoreM O S p c) {k:Nat} (hk:k<c.rows.length):∃id es0,S.vi= .row id 1 0 c.rows.length/\look id O=some (.row 1 es0)/\c.rows.length<=es0.length/\∃hM:k<S.M.length,es0[k]? =some [.map (S.M[k])]/\look (S.M[k]) O=some (.map (ents c.rows[k])):=by
 have hl:=m.x.len;obtain ⟨id,es0,e,hl1,hle,ht⟩:=m.x.i.nonempty (by simp;omega);rw [List.length_map,hl] at e hle;have hM:k<S.M.length:=by omega
 refine ⟨id,es0,e,hl1,hle,hM,qw6 hM ht,m.x.m k _ _ (Qa hM) (Qa hk)⟩
theorem StoreM.tab (m:StoreM O S p c) {k:Nat} (hk:k<c.rows.length):∃id es0,S.v1= .row id 1 0 c.rows.length/\look id O=some (.row 1 es0)/\c.rows.length<=es0.length/\(∃hV:k<S.V.length,es0[k]? =some [S.V[k]]/\Mu O 5 S.V[k] (c.rows[k].map Rw.c))/\es0.take c.rows.length=S.V.map fun x=>[x]:=by
 have hl:=m.cm.rl;obtain ⟨id,es0,e,hl1,hle,ht⟩:=m.cm.r.nonempty (by simp;omega);have ht':=ht;rw [List.length_map,hl] at e hle ht';have hV:k<S.V.length:=by omega
 refine ⟨id,es0,e,hl1,hle,⟨hV,qw6 hV ht,m.cm.rv k _ _ (Qa hV) (Qa hk)⟩,ht'⟩
end
def MDpost (N:Nat) (O:List (Nat×AO)) (S:SV) (p:Prg) (c':Config) (v:AV) (r:Option (Rt×AH)):Prop:=
 ∃S' O' N',r=some (.val v,⟨O',N'⟩)/\StoreM O' S' p c'/\S'.s=S.s/\(∀j,S'.own j->S.own j\/N<=j)/\Kp (fun j=>S.own j\/Rs O j) N O O'/\Tail O' N'/\N<=N'
theorem Mu.upd {O':List (Nat×AO)} {id z k:Nat} {es es0:List (List AV)} {y:List AV} (hl:look id O'=some (.row z (es0.set k y))) (hle:es.length<=es0.length) (ht:es0.take es.length=es):Mu O' z (.row id z 0 es.length) (es.set k y):=
 .row id _ _ _ (by simp) hl (by simpa using hle) (by rw [List.length_set,List.take_set,ht])
def SV.chg (S:SV) (k j:Nat):Prop:=(∃v,S.V[k]? =some v/\vid v=some j)\/vid S.v1=some j\/vid S.v2=some j\/vid S.vi=some j\/S.M[k]? =some j
def SV.tab (S:SV) (k:Nat) (v:AV) (m:Nat):SV:=⟨S.s,S.v1,S.v2,S.v3,S.v4,S.vi,S.V.set k v,S.M.set k m⟩
section
variable {O O':List (Nat×AO)} {S:SV} {p:Prg} {c:Config} {k:Nat}
theorem StoreM.vrow (m:StoreM O S p c) {j:Nat} {v:AV} {i:Nat} (hv:S.V[j]? =some v) (hi:vid v=some i):∃es,look i O=some (.row 5 es):=by
 have hj:=(Qm.1 hv).1;exact (m.cm.rv j v _ hv (Qa (by rw [<- m.cm.rl];exact hj))).own hi
theorem StoreM.mmap (m:StoreM O S p c) {j i:Nat} (hv:S.M[j]? =some i):∃es,look i O=some (.map es):=by
 have hj:=(Qm.1 hv).1;exact ⟨_,m.x.m j i _ hv (Qa (by rw [<- m.x.len];exact hj))⟩
theorem StoreM.upd (m:StoreM O S p c) (hk:k<c.rows.length) {v':AV} {m':Nat} {l':List Rw} {nx:Int}
  (keep:∀j,S.own j->¬S.chg k j->look j O'=look j O)
  (h1:Mu O' 1 S.v1 ((S.V.set k v').map fun x=>[x])) (h2:Mu O' 1 S.v2 ((c.nextID.set k nx).map cI)) (h3:Mu O' 1 S.vi ((S.M.set k m').map fun x=>[.map x])) (h4:Mu O' 5 v' (l'.map Rw.c)) (h5:look m' O'=some (.map (ents l')))
  (h6:∀z es t,v'≠ .app z es t) (d1:∀i,vid v'=some i->(∃v,S.V[k]? =some v/\vid v=some i)\/∀x,look i O=some x->x= .res) (d2:S.M[k]? =some m'\/∀x,look m' O=some x->x= .res):
  StoreM O' (S.tab k v' m') p ⟨c.rows.set k l',c.nextID.set k nx,c.defaults,c.registers⟩:=by
 have hVl:=m.cm.rl;have hMl:=m.x.len;have ks:look S.s O'=look S.s O:=by
  refine keep S.s (.inl rfl) ?_;rintro (⟨v,hv,hi⟩ | hi | hi | hi | hi)
  ·obtain ⟨es,hl⟩:=m.vrow hv hi;exact qca m.s hl (by simp) rfl
  ·obtain ⟨es,hl⟩:=m.cm.r.own hi;exact qca m.s hl (by simp) rfl
  ·obtain ⟨es,hl⟩:=m.cm.n.own hi;exact qca m.s hl (by simp) rfl
  ·obtain ⟨es,hl⟩:=m.x.i.own hi;exact qca m.s hl (by simp) rfl
  ·obtain ⟨es,hl⟩:=m.mmap hi;exact qca m.s hl (by simp) rfl
 have kv:∀(j:Nat) (v:AV) (i:Nat),j≠k->S.V[j]? =some v->vid v=some i->look i O'=look i O:=by
  intro j v i hj hv hi;obtain ⟨es0,hl0⟩:=m.vrow hv hi;refine keep i (.inr (.inl (.inr (.inr (.inr ⟨v,Qe hv,hi⟩))))) ?_;rintro (⟨w,hw,hi'⟩ | hi' | hi' | hi' | hi')
  ·exact hj (m.cm.vi j k v w i hv hw hi hi')
  ·obtain ⟨es,hl⟩:=m.cm.r.own hi';exact qca hl0 hl (by simp) rfl
  ·obtain ⟨es,hl⟩:=m.cm.n.own hi';exact qca hl0 hl (by simp) rfl
  ·obtain ⟨es,hl⟩:=m.x.i.own hi';exact qca hl0 hl (by simp) rfl
  ·obtain ⟨es,hl⟩:=m.mmap hi';exact qca hl0 hl (by simp) rfl
 have km:∀(j i:Nat),j≠k->S.M[j]? =some i->look i O'=look i O:=by
  intro j i hj hv;obtain ⟨es0,hl0⟩:=m.mmap hv;refine keep i (.inr (.inr (.inr (Qe hv)))) ?_;rintro (⟨w,hw,hi'⟩ | hi' | hi' | hi' | hi')
  ·obtain ⟨es,hl⟩:=m.vrow hw hi';exact qca hl0 hl (by simp) rfl
  ·obtain ⟨es,hl⟩:=m.cm.r.own hi';exact qca hl0 hl (by simp) rfl
  ·obtain ⟨es,hl⟩:=m.cm.n.own hi';exact qca hl0 hl (by simp) rfl
  ·obtain ⟨es,hl⟩:=m.x.i.own hi';exact qca hl0 hl (by simp) rfl
  ·exact hj (m.x.nd j k i hv hi')
 have kd:Mu O' 2 S.v3 (c.defaults.map ActionCall.c):=by
  refine m.cm.d.fr fun i hi=>?_
  obtain ⟨es0,hl0⟩:=m.cm.d.own hi;refine keep i (.inr (.inl (.inr (.inr (.inl hi))))) ?_;rintro (⟨w,hw,hi'⟩ | hi' | hi' | hi' | hi')
  ·obtain ⟨es,hl⟩:=m.vrow hw hi';exact qca hl0 hl (by simp) rfl
  ·obtain ⟨es,hl⟩:=m.cm.r.own hi';exact qca hl0 hl (by simp) rfl
  ·obtain ⟨es,hl⟩:=m.cm.n.own hi';exact qca hl0 hl (by simp) rfl
  ·obtain ⟨es,hl⟩:=m.x.i.own hi';exact qca hl0 hl (by simp) rfl
  ·obtain ⟨es,hl⟩:=m.mmap hi';exact qca hl0 hl (by simp) rfl
 have other:∀(j:Nat) (v:AV) (i:Nat),j≠k->S.V[j]? =some v->vid v=some i->vid v'=some i->False:=by
  intro j v i hj hv hi hi';rcases d1 i hi' with ⟨w,hw,hw'⟩ | hf
  ·exact hj (m.cm.vi j k v w i hv hw hi hw')
  ·obtain ⟨es,hl⟩:=m.vrow hv hi;have:=hf _ hl;cases this
 refine ⟨?_,⟨h1,by simp [SV.tab,hVl],?_,h2,kd,m.cm.g,m.cm.rn,?_,?_⟩,⟨h3,by simp [SV.tab,hMl],?_,?_⟩,m.ri,m.ni⟩
 ·show look S.s O'=_;rw [ks];exact m.s
 ·intro j v l hv hl;simp only [SV.tab] at hv;by_cases hj:k=j
  ·subst hj;rw [List.getElem?_set_self (by omega)] at hv hl;cases hv;cases hl;exact h4
  ·rw [List.getElem?_set_ne hj] at hv hl;have h0:=m.cm.rv j v l hv hl;exact h0.fr fun i hi=>kv j v i (fun e=>hj e.symm) hv hi
 ·intro a b v w i ha hb hi hi';simp only [SV.tab] at ha hb;by_cases hka:k=a
  ·by_cases hkb:k=b
   ·omega
   ·subst hka;rw [List.getElem?_set_self (by omega)] at ha;rw [List.getElem?_set_ne hkb] at hb;cases ha;exact (other b w i (fun e=>hkb e.symm) hb hi' hi).elim
  ·by_cases hkb:k=b
   ·subst hkb;rw [List.getElem?_set_self (by omega)] at hb;rw [List.getElem?_set_ne hka] at ha;cases hb;exact (other a v i (fun e=>hka e.symm) ha hi hi').elim
   ·rw [List.getElem?_set_ne hka] at ha;rw [List.getElem?_set_ne hkb] at hb;exact m.cm.vi a b v w i ha hb hi hi'
 ·intro v hv;simp only [SV.tab] at hv;rcases Qq hv with hv | rfl
  ·exact m.cm.va v hv
  ·exact h6
 ·intro j i l hi hl;simp only [SV.tab] at hi;by_cases hj:k=j
  ·subst hj;rw [List.getElem?_set_self (by omega)] at hi hl;cases hi;cases hl;exact h5
  ·rw [List.getElem?_set_ne hj] at hi hl;rw [km j i (fun e=>hj e.symm) hi];exact m.x.m j i l hi hl
 ·intro a b i ha hb;simp only [SV.tab] at ha hb;have oth:∀j,j≠k->S.M[j]? =some m'->False:=by
   intro j hj hv;rcases d2 with h0 | hf
   ·exact hj (m.x.nd j k m' hv h0)
   ·obtain ⟨es,hl⟩:=m.mmap hv;have:=hf _ hl;cases this
  by_cases hka:k=a
  ·by_cases hkb:k=b
   ·omega
   ·subst hka;rw [List.getElem?_set_self (by omega)] at ha;rw [List.getElem?_set_ne hkb] at hb;cases ha;exact (oth b (fun e=>hkb e.symm) hb).elim
  ·by_cases hkb:k=b
   ·subst hkb;rw [List.getElem?_set_self (by omega)] at hb;rw [List.getElem?_set_ne hka] at ha;cases hb;exact (oth a (fun e=>hka e.symm) ha).elim
   ·rw [List.getElem?_set_ne hka] at ha;rw [List.getElem?_set_ne hkb] at hb;exact m.x.nd a b i ha hb
end
structure PrgV (p:Prg):Prop where
 lim:limD p=none
 hdr:hdrD p=none
 met:metD p=none
 reg:regD p=none
 act:qej p=none
 tbl:tblD p=none
 flo:floD p=none
theorem PrgV.nest {p:Prg} (v:PrgV p):nest p.control<=6:=by
 have h:=v.flo;unfold floD at h;split at h
 ·cases h
 split at h
 ·cases h
 rename_i h1;refine Decidable.byContradiction fun hc=>h1 ?_
 unfold ctlE;split
 ·simp
 ·rw [if_pos (by omega)];simp
theorem qil {α:Type} (f:α->α->Bool):∀l:List α,(∀x∈l,f x x=true)->eqL f l l=true
 | [],_=>by simp [eqL]
 | x::r,h=>by simp [eqL,h x (List.mem_cons_self ..),qil f r (fun y hy=>h y (List.mem_cons_of_mem _ hy))]
def Rf (n:Nat) (v:AV):Prop:=avEq n v v=true
theorem Rf.int (n:Nat) (k:IntKind) (v:Int):Rf (n+1) (.int k v):=by unfold Rf avEq;simp
theorem Rf.bool (n:Nat) (b:Bool):Rf (n+1) (.bool b):=by unfold Rf avEq;simp
theorem Rf.str (n:Nat) (b:List UInt8):Rf (n+1) (.str b):=by unfold Rf avEq;simp
theorem Rf.row (n a b c d:Nat):Rf (n+1) (.row a b c d):=by unfold Rf avEq;simp
theorem Rf.slice (n z:Nat) (es:List (List AV)) (h:∀e∈es,∀c∈e,Rf n c):Rf (n+1) (.slice z es):=by
 have:=qil (eqL (avEq n)) es fun e he=>qil (avEq n) e (h e he)
 unfold Rf avEq;simp [this]
theorem Rf.fslice (n z:Nat) (es:List (List AV)) (h:∀e∈es,∀c∈e,Rf n c):Rf (n+1) (.fslice z es):=by
 have:=qil (eqL (avEq n)) es fun e he=>qil (avEq n) e (h e he)
 unfold Rf avEq;simp [this]
theorem Rf.app (n z t:Nat) (es:List (List AV)) (h:∀e∈es,∀c∈e,Rf n c):Rf (n+1) (.app z es t):=by
 have:=qil (eqL (avEq n)) es fun e he=>qil (avEq n) e (h e he)
 unfold Rf avEq;simp [this]
theorem Rf.map {α:Type} (n z:Nat) (f:α->List AV) (l:List α) (h:∀x∈l,∀c∈f x,Rf n c):Rf (n+1) (.slice z (l.map f)):=by
 refine Rf.slice n z _ fun e he=>?_
 obtain ⟨x,hx,rfl⟩:=List.mem_map.1 he;exact h x hx
def xoE (p:Prg) (c:Config) (o:TableOp):Int:=if o.kind=1 then insE p c o.table o.entry else if o.kind=2 then modE p c o.table o.id o.call else if o.kind=3 then delE p c o.table o.id else if o.kind=4 then defE p o.table o.call else 11
def xoD (c:Config) (o:TableOp):Config:=if o.kind=1 then insC c o.table o.entry else if o.kind=2 then modC c o.table o.id o.call else if o.kind=3 then delC c o.table o.id else defC c o.table o.call
def xoC (p:Prg) (c:Config) (o:TableOp):Config:=if xoE p c o=0 then xoD c o else c
def xoI (p:Prg) (c:Config) (o:TableOp):Int:=if xoE p c o=0/\o.kind=1 then qc2 c o.table else 0
structure CallS (x:ActionCall):Prop where
 al:x.args.length<2^40
 ar:∀v∈x.args,ok32 0 v
structure OpS (o:TableOp):Prop where
 e:EntS o.entry
 c:CallS o.call
theorem qahm {o:TableOp} (h:o.Ok qa2):OpS o:=by
 have e:=qdy;simp only [TableOp.Ok,Entry.Ok,ActionCall.Ok] at h;obtain ⟨_,_,_,⟨h1,_,_,h2⟩,_,h3⟩:=h;exact ⟨⟨by have:=h1.1;omega,fun m hm=>h1.2 m hm,by have:=h2.1;omega,fun v hv=>h2.2 v hv⟩,⟨by have:=h3.1;omega,fun v hv=>h3.2 v hv⟩⟩
theorem qvw {p:Prg} {c:Config} (v:CfgV p c) (o:TableOp):CfgV p (xoC p c o):=by
 unfold xoC;split
 ·rename_i h;unfold xoE at h;unfold xoD;split
  ·rename_i h1;rw [if_pos h1] at h;exact qaft v h
  rename_i h1;rw [if_neg h1] at h;split
  ·rename_i h2;rw [if_pos h2] at h;exact qaf2 v h
  rename_i h2;rw [if_neg h2] at h;split
  ·rename_i h3;rw [if_pos h3] at h;exact qafa v h
  rename_i h3;rw [if_neg h3] at h;by_cases h4:o.kind=4
  ·rw [if_pos h4] at h;exact qae9 v h
  ·rw [if_neg h4] at h;cases h
 ·exact v
theorem CfgT.mk_rows {p:Prg} {c c':Config} (s:CfgT c) (v':CfgV p c') (hp:p.tables.length<2^40) (hr:∀l∈c'.rows,∀r∈l,rowS r) (hd:∀d∈c'.defaults,d.args.length<2^40/\∀v∈d.args,ok32 0 v) (hg:c'.registers=c.registers):CfgT c':=by
 refine ⟨by rw [v'.rl];exact hp,fun l hl=>⟨by have:=v'.small l hl;omega,hr l hl⟩,by rw [v'.nl];exact hp,by rw [v'.dl];exact hp,hd,by rw [hg];exact s.gl,by rw [hg];exact s.gs⟩
theorem qyv {c:Config} {t:Int} {r:Rw} (h:r∈qak c t):∃l∈c.rows,r∈l:=by
 unfold qak at h;cases ha:at? c.rows t with
 | none=>rw [ha] at h;cases h
 | some l=>
  rw [ha] at h;refine ⟨l,?_,h⟩;unfold at? at ha;split at ha
  ·cases ha
  ·exact Qe ha
theorem xoC_t {p:Prg} {c:Config} (v:CfgV p c) (s:CfgT c) (hp:p.tables.length<2^40) (o:TableOp) (ho:OpS o):CfgT (xoC p c o):=by
 have v':=qvw v o;unfold xoC at v' ⊢;split
 rotate_left
 ·exact s
 rename_i h;rw [if_pos h] at v';have old:∀l∈c.rows,∀r∈l,rowS r:=fun l hl=>(s.rs l hl).2
 have oldA:∀r∈qak c o.table,rowS r:=fun r hr=>by
  obtain ⟨l,hl,hr⟩:=qyv hr;exact old l hl r hr
 unfold xoD at v' ⊢;split
 ·rename_i h1;rw [if_pos h1] at v';refine s.mk_rows v' hp ?_ s.ds rfl;intro l hl r hr;simp only [insC] at hl;rcases Qq hl with hl | rfl
  ·exact old l hl r hr
  ·rcases List.mem_append.1 hr with hr | hr
   ·exact oldA r hr
   ·simp at hr;subst hr;exact ho.e
 rename_i h1;rw [if_neg h1] at v';split
 ·rename_i h2;rw [if_pos h2] at v';unfold modC at v' ⊢;split
  ·rename_i i hi;rw [hi] at v';refine s.mk_rows v' hp ?_ s.ds rfl;intro l hl r hr;rcases Qq hl with hl | rfl
   ·exact old l hl r hr
   ·obtain ⟨j,hj,rfl⟩:=Qn.1 hr;rw [List.getElem_modify];have hj':j<(qak c o.table).length:=by simpa using hj
    have h0:=oldA _ (Qd hj');split
    ·exact ⟨h0.kl,h0.ks,ho.c.al,ho.c.ar⟩
    ·exact h0
  ·exact s
 rename_i h2;rw [if_neg h2] at v';split
 ·rename_i h3;rw [if_pos h3] at v';unfold delC at v' ⊢;split
  ·rename_i i hi;rw [hi] at v';refine s.mk_rows v' hp ?_ s.ds rfl;intro l hl r hr;rcases Qq hl with hl | rfl
   ·exact old l hl r hr
   ·exact oldA r ((List.eraseIdx_sublist _ _).subset hr)
  ·exact s
 ·rename_i h3;rw [if_neg h3] at v';refine s.mk_rows v' hp old ?_ rfl;intro d hd;simp only [defC] at hd;rcases Qq hd with hd | rfl
  ·exact s.ds d hd
  ·exact ⟨ho.c.al,ho.c.ar⟩
inductive RunR where
 | ok (c:Config) (ids:List Int)
 | err (i:Nat) (e:Int)
def xoF (p:Prg) (c:Config) (l:List TableOp):Config:=l.foldl (xoC p) c
theorem qw8 {α:Type} {p:α->Bool} {l:List α}:∀n i,n+i=l.length->ix p l i=(((l.drop i).findIdx? p).map fun j=>((i+j:Nat):Int)).getD (-1)
 | 0,i,h=>by
  have:i=l.length:=by omega
  subst this;rw [qhk];simp
 | n+1,i,h=>by
  have hi:i<l.length:=by omega
  rw [Qi hi,List.findIdx?_cons];cases hp:p l[i] with
  | true=>rw [qhl hi hp];simp
  | false=>
   rw [qf4 hi hp,qw8 n (i+1) (by omega)];cases (l.drop (i+1)).findIdx? p with
   | none=>rfl
   | some j=>simp;omega
def rIx (l:List Rw) (id:Int):Int:=((rIdx l id).map fun (j:Nat)=>(j:Int)).getD (-1)
theorem qah8 (l:List Rw) (id:Int):ix (fun r=>decide (r.id=id)) l 0=rIx l id:=by
 rw [qw8 l.length 0 (by omega)];simp [rIx,rIdx]
theorem qqb (l:List Rw) (id:Int) (hl:l.length<2^40):qab Φ f_165 [.slice 5 (l.map Rw.c),.int .i64 id]=some (.val (.int .i64 (rIx l id))):=by
 rw [qaa (fn:=c_165) rfl rfl,<- qah8];simp [c_165];refine qan l.length (fun i e=>look 0 e=some (.slice 5 (l.map Rw.c))/\look 1 e=some (.int .i64 id)/\look 5 e=some (.int .i64 i))
  (fun i=>some (Rt.val (.int .i64 (ix (fun r=>decide (r.id=id)) l i)))) ?_ ?_ 0 _ (Qc _) ?_
 ·rintro i e L hi hL ⟨h0,h1,h5⟩ ih;have hw:=qaf i (by omega);by_cases z:l[i].id=id
  ·rw [qhl hi (by simpa using z)];simp [c_165_l0,Rw.ce,h0,h1,h5,hi,z]
  ·rw [qf4 hi (by simpa using z)];simp [c_165_l0,Rw.ce,h0,h1,h5,hi,z,hw];exact ih _ ⟨by simp [h0],by simp [h1],by simp⟩
 ·rintro e L hL ⟨h0,h1,h5⟩;rw [qhk];simp [c_165_l0,c_165_k1,h0,h5,hL]
 ·simp
theorem qjv (c:Config) (k:Nat) (l:List Rw) (nx:Int) (hk:k<c.rows.length) (hn:c.nextID.length=c.rows.length) (hl:c.rows.length<2^40):
  qab Φ f_164 [.agg (Config.c c),.int .i64 k,.slice 5 (l.map Rw.c),.int .i64 nx]=some (.val (.agg (Config.c ⟨c.rows.set k l,c.nextID.set k nx,c.defaults,c.registers⟩))):=by
 rw [qaa (fn:=c_164) rfl rfl];generalize hR:c.rows.set k l=R;generalize hNn:c.nextID.set k nx=M;have hRl:R.length=c.rows.length:=by rw [<- hR];simp
 have hMl:M.length=c.rows.length:=by rw [<- hNn];simp [hn]
 generalize hQ:(fun r:Option Rt=>r=some (Rt.val (.agg (Config.c ⟨R,M,c.defaults,c.registers⟩))))=Q;have hq:∀r,Q r=(r=some (Rt.val (.agg (Config.c ⟨R,M,c.defaults,c.registers⟩)))):=fun r=>by rw [<- hQ]
 rw [<- hq];clear hQ;simp [c_164,Config.ce];refine qaia c.rows.length (fun i e h=>∃(O':List (Nat×AO)) (N':Nat) (w1 w2:AV),h=⟨O',N'⟩/\Tail O' N'/\look 0 O'=some (.row 4 [[.fslice 1 [],.fslice 1 [],.fslice 2 [],.fslice 1 []]])/\look 1 O'=some (.row 4 [[w1,w2,.slice 2 (c.defaults.map ActionCall.c),.slice 1 (c.registers.map (cS 1 c32))]])/\
   ((i=0/\w1= .fslice 1 []/\w2= .fslice 1 [])\/∃a b,w1= .app 1 ((R.map (cS 5 Rw.c)).take i) a/\look a O'=some (.tok 1 i)/\w2= .app 1 ((M.map cI).take i) b/\look b O'=some (.tok 1 i)/\a≠b)/\
   look 1 e=some (.int .i64 k)/\look 2 e=some (.slice 5 (l.map Rw.c))/\look 3 e=some (.int .i64 nx)/\look 4 e=some (.iptr 4 [Config.c c] 0 0)/\look 8 e=some (.ptr 0 4 0 0)/\look 9 e=some (.ptr 1 4 0 0)/\look 10 e=some (.int .i64 i)) Q ?_ ?_ 0 _ _ (Qc _) ?_
 ·rintro i e _ L hi hL ⟨O',N',w1,w2,rfl,hT',l0,l1,hw,e1,e2,e3,e4,e8,e9,e10⟩ ih;have hw1:=qaf i (by omega);have i2:i<c.nextID.length:=by omega
  have iR:i<R.length:=by omega
  have iM:i<M.length:=by omega
  have t0:=hT' N' (Qb _);have t1:=hT' (N'+1) (by omega);have nz:¬N'=0:=by have:=hT'.lt l1;omega
  have n1:1<N':=hT'.lt l1;have n2:¬N'=1:=by omega
  have n3:¬1=N':=by omega
  have n4:¬0=N':=by omega
  have hTm:Tail O' (N'+1+1):=hT'.mono (by omega);have sR:(R.map (cS 5 Rw.c)).take (i+1)=(R.map (cS 5 Rw.c)).take i++[cS 5 Rw.c R[i]]:=qbv iR;have sM:(M.map cI).take (i+1)=(M.map cI).take i++[cI M[i]]:=qbv iM;rw [cSe] at sR;rw [cIe] at sM;rw [Config.ce] at e4;have mR:min i R.length=i:=by omega
  have mM:min i M.length=i:=by omega
  have c1:(i+1)*24<=70368744177664:=by omega
  have c2:(i+1)*8<=70368744177664:=by omega
  by_cases hik:i=k
  ·have vR:R[i]=l:=by simp [<- hR,hik]
   have vM:M[i]=nx:=by simp [<- hNn,hik]
   rw [vR] at sR;rw [vM] at sM;have d0:(i=k)=True:=eq_true hik;rcases hw with ⟨rfl,rfl,rfl⟩ | ⟨a,b,rfl,la,rfl,lb,hab⟩
   ·have hk0:k=0:=hik.symm;simp [c_164_l0,e1,e2,e3,e4,e9,e10,hi,hk0,t0,t1,wr1,qbr,qa3,l1,n2,nz];refine ih _ _ ⟨_,_,_,_,rfl,?_,?_,?_,.inr ⟨N',N'+1,by rw [sR],?_,by rw [sM],?_,by omega⟩,?_,?_,?_,?_,?_,?_,?_⟩
    ·repeat' first | exact hTm | apply qdi | apply qrs | omega
    ·simp [qbr,qa3,l0]
    ·simp [qbr,qa3,l1]
    ·simp [qbr,qa3,n2,t0]
    ·simp [qa3,t1,nz]
    all_goals simp [e1,e2,e3,e4,e8,e9,Config.ce,hk0]
   ·have i0:0≠a:=qca l0 la (by simp);have i1:1≠a:=qca l1 la (by simp);have i2:0≠b:=qca l0 lb (by simp);have i3:1≠b:=qca l1 lb (by simp);have j0:=i0.symm;have j1:=i1.symm;have j2:=i2.symm;have j3:=i3.symm;have hba:=hab.symm;simp [c_164_l0,e1,e2,e3,e4,e9,e10,hi,d0,hw1,qa3,l1,la,lb,i1,i3,j3,hba,mR,mM,c1,c2];refine ih _ _ ⟨_,_,_,_,rfl,?_,?_,?_,.inr ⟨a,b,by rw [sR],?_,by rw [sM],?_,hab⟩,?_,?_,?_,?_,?_,?_,?_⟩
    ·repeat' first | exact hT' | apply qdi
    ·simp [qa3,l0,i0,i2]
    ·simp [qa3,l1,i1,i3]
    ·simp [qa3,la,j1,hab]
    ·simp [qa3,lb,j3,hba]
    all_goals simp [e1,e2,e3,e4,e8,e9,Config.ce]
  ·have vR:R[i]=c.rows[i]:=by simp [<- hR,show ¬k=i by omega]
   have vM:M[i]=c.nextID[i]:=by simp [<- hNn,show ¬k=i by omega]
   rw [vR] at sR;rw [vM] at sM;have d0:¬(i:Int)=(k:Int):=by omega
   rcases hw with ⟨rfl,rfl,rfl⟩ | ⟨a,b,rfl,la,rfl,lb,hab⟩
   ·have hk0:¬k=0:=fun h=>hik h.symm
    have hk1:¬0=k:=fun h=>hik h
    simp [c_164_l0,cSe,cIe,e1,e4,e9,e10,hi,i2,hk1,t0,t1,wr1,qbr,qa3,l1,n2,nz];refine ih _ _ ⟨_,_,_,_,rfl,?_,?_,?_,.inr ⟨N',N'+1,by rw [sR],?_,by rw [sM],?_,by omega⟩,?_,?_,?_,?_,?_,?_,?_⟩
    ·repeat' first | exact hTm | apply qdi | apply qrs | omega
    ·simp [qbr,qa3,l0]
    ·simp [qbr,qa3,l1]
    ·simp [qbr,qa3,n2,t0]
    ·simp [qa3,t1,nz]
    all_goals simp [e1,e2,e3,e4,e8,e9,Config.ce]
   ·have i0:0≠a:=qca l0 la (by simp);have i1:1≠a:=qca l1 la (by simp);have i2':0≠b:=qca l0 lb (by simp);have i3:1≠b:=qca l1 lb (by simp);have j0:=i0.symm;have j1:=i1.symm;have j2:=i2'.symm;have j3:=i3.symm;have hba:=hab.symm;simp [c_164_l0,cSe,cIe,e1,e4,e9,e10,hi,i2,d0,hw1,qa3,l1,la,lb,i1,i3,j3,hba,mR,mM,c1,c2];refine ih _ _ ⟨_,_,_,_,rfl,?_,?_,?_,.inr ⟨a,b,by rw [sR],?_,by rw [sM],?_,hab⟩,?_,?_,?_,?_,?_,?_,?_⟩
    ·repeat' first | exact hT' | apply qdi
    ·simp [qa3,l0,i0,i2']
    ·simp [qa3,l1,i1,i3]
    ·simp [qa3,la,j1,hab]
    ·simp [qa3,lb,j3,hba]
    all_goals simp [e1,e2,e3,e4,e8,e9,Config.ce]
 ·rintro e _ L hL ⟨O',N',w1,w2,rfl,hT',l0,l1,hw,e1,e2,e3,e4,e8,e9,e10⟩;rw [Config.ce] at e4;simp [c_164_l0,c_164_k1,e4,e8,e9,e10,hL,l0,l1,qa3];rw [hq];have tR:(R.map (cS 5 Rw.c)).take c.rows.length=R.map (cS 5 Rw.c):=Qo (by simp;omega);have tM:(M.map cI).take c.rows.length=M.map cI:=Qo (by simp;omega);rcases hw with ⟨hz,rfl,rfl⟩ | ⟨a,b,rfl,la,rfl,lb,hab⟩
  ·omega
  ·rw [tR,tM];simp [Config.ce]
 ·refine ⟨_,_,.fslice 1 [],.fslice 1 [],rfl,?_,?_,?_,.inl ⟨rfl,rfl,rfl⟩,?_,?_,?_,?_,?_,?_,?_⟩
  all_goals simp [qfp,qtk,Config.ce]
theorem quv {l:List Rw} {id:Int} (h:rIdx l id=none):rIx l id= -1:=by simp [rIx,h]
theorem quw {l:List Rw} {id:Int} {i:Nat} (h:rIdx l id=some i):rIx l id=i:=by simp [rIx,h]
section
variable {p:Prg} (f:PrgS p) (hv:∀t∈p.tables,∀v∈t.dflt.args,ok32 0 v) {c:Config} (v:CfgV p c) (s:CfgT c) (t:Int)
include f hv v s
theorem qyo (x:Entry) (hx:EntS x):qab Φ f_77 [.agg (Prg.c p),.agg (Config.c c),.int .i64 t,.agg (Entry.c x)]=
  some (.val (.tup [.agg (Config.c (if insE p c t x=0 then insC c t x else c)),.int .i64 (if insE p c t x=0 then qc2 c t else 0),.int .i64 (insE p c t x)])):=by
 rw [qaa (fn:=c_77) rfl rfl];have he:=qu7 p f hv t x hx;simp only [Prg.e,Entry.ce] at he;by_cases z0:t<0
 ·have hE:insE p c t x=8:=by simp [insE,inT];omega
  simp [c_77,Prg.e,Config.ce,Entry.ce,hE,z0]
 by_cases z1:(p.tables.length:Int)<=t
 ·have hE:insE p c t x=8:=by simp [insE,inT];omega
  simp [c_77,Prg.e,Config.ce,Entry.ce,hE,z0,z1]
 obtain ⟨k,rfl⟩:∃k:Nat,t=k:=⟨t.toNat,by omega⟩;have hk:k<p.tables.length:=by omega
 have hk1:k<c.rows.length:=by rw [v.rl];exact hk
 have hk2:k<c.nextID.length:=by rw [v.nl];exact hk
 have hi:=qf3 hk;have hkn:¬p.tables.length<=k:=by omega
 have hrow:qak c (k:Int)=c.rows[k]:=qax hk1;have hnx:qc2 c (k:Int)=c.nextID[k]:=qd1 hk2;have hsz:qqd p (k:Int)=p.tables[k].size:=qqe hk;have hE:insE p c k x=if entE p k x≠0 then entE p k x else if (c.rows[k].any fun y=>sk y.entry x)=true then 7 else if p.tables[k].size<=c.rows[k].length\/1073741824<=c.nextID[k] then 13 else 0:=by
  unfold insE;rw [hi,hrow,hnx,hsz];simp
 by_cases y:entE p k x=0
 rotate_left
 ·rw [if_pos y] at hE;simp [c_77,Prg.e,Config.ce,Entry.ce,hE,hkn,he,y]
 rw [if_neg (by simpa using y)] at hE;rw [y] at he;have hsl:=s.rs _ (Qd hk1);have htk:=qvr c.rows[k] x hsl.1 fun r hr=>(hsl.2 r hr).kl
 simp only [Entry.ce] at htk;cases w:c.rows[k].any fun y=>sk y.entry x with
 | true=>
  rw [if_pos w] at hE;rw [w] at htk;simp [c_77,Prg.e,Config.ce,cSe,Entry.ce,hE,hkn,hk1,he,htk]
 | false=>
 rw [if_neg (by rw [w];decide)] at hE;rw [w] at htk;by_cases u:p.tables[k].size<=c.rows[k].length
 ·rw [if_pos (.inl u)] at hE;simp [c_77,Prg.e,Config.ce,cSe,Tbl.e,Entry.ce,hE,hk,hkn,hk1,he,htk,u]
 by_cases q:1073741824<=c.nextID[k]
 ·rw [if_pos (.inr q)] at hE;simp [c_77,Prg.e,Config.ce,cSe,cIe,Tbl.e,Entry.ce,hE,hk,hkn,hk1,hk2,he,htk,u,q]
 rw [if_neg (by omega)] at hE;have hvt:=v.at hk;have hrp:=qjv c k (c.rows[k]++[⟨c.nextID[k],x⟩]) (c.nextID[k]+1) hk1 (by rw [v.nl,v.rl]) (by have:=s.rl;omega);have hw:IntKind.wrap .i64 (c.nextID[k]+1)=c.nextID[k]+1:=qa4 (by have:=hvt.nx0;omega) (by omega);have hci:insC c (k:Int) x=⟨c.rows.set k (c.rows[k]++[⟨c.nextID[k],x⟩]),c.nextID.set k (c.nextID[k]+1),c.defaults,c.registers⟩:=by
  unfold insC;rw [hrow,hnx];simp
 rw [hE,if_pos rfl,if_pos rfl,hci,hnx];generalize hR:Config.c ⟨c.rows.set k (c.rows[k]++[⟨c.nextID[k],x⟩]),c.nextID.set k (c.nextID[k]+1),c.defaults,c.registers⟩=R at hrp ⊢;have hRl:R.length=4:=by rw [<- hR];simp
 obtain ⟨r0,r1,r2,r3,rfl⟩:∃r0 r1 r2 r3,R=[r0,r1,r2,r3]:=by
  match R,hRl with
  | [r0,r1,r2,r3],_=>exact ⟨_,_,_,_,rfl⟩
 have hs0:∀H:AH,snap 38 H r0=some r0/\snap 38 H r1=some r1/\snap 38 H r2=some r2/\snap 38 H r3=some r3:=by
  intro H;rw [Config.ce] at hR;cases hR;simp
 have hal:qcl 5 (c.rows[k].map Rw.c)=true:=qga 5 Rw.c _ fun x=>by simp
 have hls:=v.small _ (Qd hk1);have b1:c.rows[k].length*72<=70368744177664:=by omega
 have b2:(c.rows[k].length+1)*72<=70368744177664:=by omega
 simp only [Config.ce,List.map_append,List.map_cons,List.map_nil,Rw.ce] at hrp;simp [c_77,Prg.e,Config.ce,cSe,cIe,Tbl.e,Entry.ce,hk,hkn,hk1,hk2,he,htk,u,q,hal,b1,b2,hw,hrp,hs0]
end
section
variable {p:Prg} (f:PrgS p) (hv:∀t∈p.tables,∀v∈t.dflt.args,ok32 0 v) {c:Config} (v:CfgV p c) (s:CfgT c) (t:Int)
include f hv v s
theorem qri (x:ActionCall) (hx:x.args.length<2^40) (hr:∀v∈x.args,ok32 0 v):qab Φ f_80 [.agg (Prg.c p),.agg (Config.c c),.int .i64 t,.agg (ActionCall.c x)]=
  some (.val (.tup [.agg (Config.c (if defE p t x=0 then defC c t x else c)),.int .i64 (defE p t x)])):=by
 rw [qaa (fn:=c_80) rfl rfl];have hc:=qo5 p f hv t x hx hr;simp only [Prg.e,ActionCall.ce] at hc;by_cases z0:t<0
 ·have hE:defE p t x=8:=by simp [defE,inT];omega
  simp [c_80,Prg.e,Config.ce,ActionCall.ce,hE,z0]
 by_cases z1:(p.tables.length:Int)<=t
 ·have hE:defE p t x=8:=by simp [defE,inT];omega
  simp [c_80,Prg.e,Config.ce,ActionCall.ce,hE,z0,z1]
 obtain ⟨k,rfl⟩:∃k:Nat,t=k:=⟨t.toNat,by omega⟩;have hk:k<p.tables.length:=by omega
 have hkn:¬p.tables.length<=k:=by omega
 have hk1:k<c.defaults.length:=by rw [v.dl];exact hk
 have hE:defE p k x=qbj p k x:=by simp [defE,qf3 hk]
 by_cases q:qbj p k x=0
 rotate_left
 ·simp [c_80,Prg.e,Config.ce,ActionCall.ce,hE,hkn,hc,q]
 have hal:qcl 2 (c.defaults.map ActionCall.c)=true:=qga 2 ActionCall.c _ fun x=>by simp
 have hne:¬c.defaults=[]:=by intro e;rw [e] at hk1;simp at hk1
 have hdl:=s.dl;have b1:c.defaults.length*32<=70368744177664:=by omega
 have hci:defC c (k:Int) x=⟨c.rows,c.nextID,c.defaults.set k x,c.registers⟩:=by simp [defC]
 rw [q] at hc;rw [hE,q,if_pos rfl,hci];have hset:∀H,mapO (mapO (snap 37 H)) (((c.defaults.map ActionCall.c).set k [.int .i64 x.action,.slice 1 (x.args.map c32)]).take c.defaults.length)=some ((c.defaults.map ActionCall.c).set k [.int .i64 x.action,.slice 1 (x.args.map c32)]):=by
  intro H;rw [Qo (by simp),<- ActionCall.ce,<- List.map_set];exact qlj (n:=37) (H:=H) (fun x=>qaec x) _
 simp [c_80,Prg.e,Config.ce,ActionCall.ce,hkn,hc,hal,hne,b1,hk1,hset]
theorem qyn (id:Int):qab Φ f_79 [.agg (Prg.c p),.agg (Config.c c),.int .i64 t,.int .i64 id]=
  some (.val (.tup [.agg (Config.c (if delE p c t id=0 then delC c t id else c)),.int .i64 (delE p c t id)])):=by
 have _:=f;have _:=hv;rw [qaa (fn:=c_79) rfl rfl];by_cases z0:t<0
 ·have hE:delE p c t id=8:=by simp [delE,inT];omega
  simp [c_79,Prg.e,Config.ce,hE,z0]
 by_cases z1:(p.tables.length:Int)<=t
 ·have hE:delE p c t id=8:=by simp [delE,inT];omega
  simp [c_79,Prg.e,Config.ce,hE,z0,z1]
 obtain ⟨k,rfl⟩:∃k:Nat,t=k:=⟨t.toNat,by omega⟩;have hk:k<p.tables.length:=by omega
 have hkn:¬p.tables.length<=k:=by omega
 have hk1:k<c.rows.length:=by rw [v.rl];exact hk
 have hk2:k<c.nextID.length:=by rw [v.nl];exact hk
 have hrow:qak c (k:Int)=c.rows[k]:=qax hk1;have hls:=v.small _ (Qd hk1);have hix:=qqb c.rows[k] id (by omega);cases hx:rIdx c.rows[k] id with
 | none=>
  have hE:delE p c k id=8:=by simp [delE,qf3 hk,hrow,hx]
  rw [quv hx] at hix;simp [c_79,Prg.e,Config.ce,cSe,hE,hkn,hk1,hix]
 | some i=>
  obtain ⟨hi,hid⟩:=qje hx;have hE:delE p c k id=0:=by simp [delE,qf3 hk,hrow,hx]
  rw [quw hx] at hix;have hci:delC c (k:Int) id=⟨c.rows.set k (c.rows[k].eraseIdx i),c.nextID.set k c.nextID[k],c.defaults,c.registers⟩:=by
   unfold delC;rw [hrow,hx];simp
  have hrp:=qjv c k (c.rows[k].eraseIdx i) c.nextID[k] hk1 (by rw [v.nl,v.rl]) (by have:=s.rl;omega);rw [hE,if_pos rfl,hci];generalize hR:Config.c ⟨c.rows.set k (c.rows[k].eraseIdx i),c.nextID.set k c.nextID[k],c.defaults,c.registers⟩=R at hrp ⊢;have hRl:R.length=4:=by rw [<- hR];simp
  obtain ⟨r0,r1,r2,r3,rfl⟩:∃r0 r1 r2 r3,R=[r0,r1,r2,r3]:=by
   match R,hRl with
   | [r0,r1,r2,r3],_=>exact ⟨_,_,_,_,rfl⟩
  have hs0:∀H:AH,snap 38 H r0=some r0/\snap 38 H r1=some r1/\snap 38 H r2=some r2/\snap 38 H r3=some r3:=by
   intro H;rw [Config.ce] at hR;cases hR;simp
  have a1:i<=c.rows[k].length:=by omega
  have a2:(i:Int)+1<=(c.rows[k].length:Int):=by omega
  have a3:(0:Int)<=(i:Int)+1:=by omega
  have a4:i+1<=c.rows[k].length:=by omega
  have a5:min i c.rows[k].length=i:=by omega
  have hw:IntKind.wrap .i64 ((i:Int)+1)=(i:Int)+1:=qa4 (by omega) (by omega);have hneg:¬(i:Int)<0:=by omega
  have t1:qcl 5 ((c.rows[k].map Rw.c).take i)=true:=by rw [<- List.map_take];exact qga 5 Rw.c _ fun x=>by simp
  have t2:qcl 5 ((c.rows[k].map Rw.c).drop (i+1))=true:=by rw [<- List.map_drop];exact qga 5 Rw.c _ fun x=>by simp
  have htk:((c.rows[k].map Rw.c).drop (i+1)).take (c.rows[k].length - (i+1))=(c.rows[k].map Rw.c).drop (i+1):=Qo (by simp);have b1:i*72<=70368744177664:=by omega
  have b2:(i+(c.rows[k].length - (i+1)))*72<=70368744177664:=by omega
  have b3:(c.rows[k].length - (i+1))+(i+1)=c.rows[k].length:=by omega
  rw [List.eraseIdx_eq_take_drop_succ,List.map_append,List.map_take,List.map_drop] at hrp;simp only [Config.ce] at hrp;simp [c_79,Prg.e,Config.ce,cSe,cIe,hkn,hk1,hk2,hix,hneg,a1,a2,a3,a5,hw,htk,t1,t2,b1,b2,hrp,hs0]
end
theorem qyp {p:Prg} (f:PrgS p) (hv:∀t∈p.tables,∀v∈t.dflt.args,ok32 0 v) {c:Config} (v:CfgV p c) (s:CfgT c) (t id:Int) (x:ActionCall) (hxl:x.args.length<2^40) (hr:∀v∈x.args,ok32 0 v):
  qab Φ f_78 [.agg (Prg.c p),.agg (Config.c c),.int .i64 t,.int .i64 id,.agg (ActionCall.c x)]=
  some (.val (.tup [.agg (Config.c (if modE p c t id x=0 then modC c t id x else c)),.int .i64 (modE p c t id x)])):=by
 rw [qaa (fn:=c_78) rfl rfl];have hc:=qo5 p f hv t x hxl hr;simp only [Prg.e,ActionCall.ce] at hc;by_cases z0:t<0
 ·have hE:modE p c t id x=8:=by simp [modE,inT];omega
  simp [c_78,Prg.e,Config.ce,ActionCall.ce,hE,z0]
 by_cases z1:(p.tables.length:Int)<=t
 ·have hE:modE p c t id x=8:=by simp [modE,inT];omega
  simp [c_78,Prg.e,Config.ce,ActionCall.ce,hE,z0,z1]
 obtain ⟨k,rfl⟩:∃k:Nat,t=k:=⟨t.toNat,by omega⟩;have hk:k<p.tables.length:=by omega
 have hkn:¬p.tables.length<=k:=by omega
 have hk1:k<c.rows.length:=by rw [v.rl];exact hk
 have hk2:k<c.nextID.length:=by rw [v.nl];exact hk
 have hrow:qak c (k:Int)=c.rows[k]:=qax hk1;have hls:=v.small _ (Qd hk1);have hix:=qqb c.rows[k] id (by omega);cases hx:rIdx c.rows[k] id with
 | none=>
  have hE:modE p c k id x=8:=by simp [modE,qf3 hk,hrow,hx]
  rw [quv hx] at hix;simp [c_78,Prg.e,Config.ce,cSe,ActionCall.ce,hE,hkn,hk1,hix]
 | some i=>
  obtain ⟨hi,hid⟩:=qje hx;have hE:modE p c k id x=qbj p k x:=by simp [modE,qf3 hk,hrow,hx]
  rw [quw hx] at hix;have hneg:¬(i:Int)<0:=by omega
  by_cases q:qbj p k x=0
  rotate_left
  ·simp [c_78,Prg.e,Config.ce,cSe,ActionCall.ce,hE,hkn,hk1,hix,hneg,hc,q]
  have hci:modC c (k:Int) id x=⟨c.rows.set k (c.rows[k].modify i (qa9 x)),c.nextID.set k c.nextID[k],c.defaults,c.registers⟩:=by
   unfold modC;rw [hrow,hx];simp
  have hrp:=qjv c k (c.rows[k].modify i (qa9 x)) c.nextID[k] hk1 (by rw [v.nl,v.rl]) (by have:=s.rl;omega);rw [hE,q,if_pos rfl,hci];rw [q] at hc;generalize hR:Config.c ⟨c.rows.set k (c.rows[k].modify i (qa9 x)),c.nextID.set k c.nextID[k],c.defaults,c.registers⟩=R at hrp ⊢;have hRl:R.length=4:=by rw [<- hR];simp
  obtain ⟨r0,r1,r2,r3,rfl⟩:∃r0 r1 r2 r3,R=[r0,r1,r2,r3]:=by
   match R,hRl with
   | [r0,r1,r2,r3],_=>exact ⟨_,_,_,_,rfl⟩
  have hs0:∀H:AH,snap 38 H r0=some r0/\snap 38 H r1=some r1/\snap 38 H r2=some r2/\snap 38 H r3=some r3:=by
   intro H;rw [Config.ce] at hR;cases hR;simp
  have hal:qcl 5 (c.rows[k].map Rw.c)=true:=qga 5 Rw.c _ fun x=>by simp
  have hne:¬c.rows[k]=[]:=by intro e;rw [e] at hi;simp at hi
  have b1:c.rows[k].length*72<=70368744177664:=by omega
  have hlist:(c.rows[k].map Rw.c).set i [.int .i64 c.rows[k][i].id,.slice 2 (c.rows[k][i].entry.keys.map KeyMatch.c),.int .i64 c.rows[k][i].entry.priority,.int .i64 x.action,.slice 1 (x.args.map c32)]=(c.rows[k].modify i (qa9 x)).map Rw.c:=by
   refine List.ext_getElem (by simp) fun j h1 h2=>?_
   rw [List.getElem_set,List.getElem_map,List.getElem_map,List.getElem_modify];split
   ·rename_i e;subst e;simp [Rw.ce,qa9]
   ·simp
  have t1:∀H,mapO (mapO (snap 39 H)) (c.rows[k].map Rw.c)=some (c.rows[k].map Rw.c):=fun H=>qlj (n:=39) (H:=H) (fun x=>qabf x) _
  have hns:anyL (bor 40) ((c.rows[k].modify i (qa9 x)).map Rw.c).flatten=false:=by
   have:∀l:List Rw,anyL (bor 40) (l.map Rw.c).flatten=false:=by
    intro l
    induction l with
    | nil=>rfl
    | cons a l ih=>
     have ha:∀(xs ys:List AV),anyL (bor 40) xs=false->anyL (bor 40) ys=false->anyL (bor 40) (xs++ys)=false:=by
      intro xs ys
      induction xs with
      | nil=>intro _ h;exact h
      | cons b xs ih2=>
       intro h1 h2;simp only [List.cons_append,anyL,Bool.or_eq_false_iff] at h1 ⊢;exact ⟨h1.1,ih2 h1.2 h2⟩
     simp only [List.map_cons,List.flatten_cons];exact ha _ _ (by simp [Rw.ce]) ih
   exact this _
  have t2:∀H,mapO (mapO (snap 40 H)) ((c.rows[k].modify i (qa9 x)).map Rw.c)=some ((c.rows[k].modify i (qa9 x)).map Rw.c):=fun H=>qlj (n:=40) (H:=H) (fun x=>qabf x) _
  have t3:((c.rows[k].modify i (qa9 x)).map Rw.c).take c.rows[k].length=(c.rows[k].modify i (qa9 x)).map Rw.c:=Qo (by simp);have t4:(c.rows[k].map Rw.c).take c.rows[k].length=c.rows[k].map Rw.c:=Qo (by simp);simp only [Config.ce] at hrp;generalize hml:(c.rows[k].modify i (qa9 x)).map Rw.c=ml at hlist hrp hns t2 t3;have hmll:ml.length=c.rows[k].length:=by rw [<- hml];simp
  simp [c_78,Prg.e,Config.ce,cSe,cIe,ActionCall.ce,hkn,hk1,hk2,hix,hneg,hc,hal,hne,b1,hi,Rw.ce,hlist,qe2,qj9,hns,t1,t2,t3,t4,hmll,hrp,hs0]
theorem TableOp.ce2 (x:TableOp):TableOp.c x=[.int .i64 x.kind,.int .i64 x.table,.int .i64 x.id,.slice 2 (x.entry.keys.map KeyMatch.c),.int .i64 x.entry.priority,.int .i64 x.entry.call.action,.slice 1 (x.entry.call.args.map c32),.int .i64 x.call.action,.slice 1 (x.call.args.map c32)]:=by simp [TableOp.c]
theorem cfg4 (c:Config):∃r0 r1 r2 r3,Config.c c=[r0,r1,r2,r3]/\(∀(H:AH),(snap 37 H r0=some r0/\snap 37 H r1=some r1/\snap 37 H r2=some r2/\snap 37 H r3=some r3)/\(snap 38 H r0=some r0/\snap 38 H r1=some r1/\snap 38 H r2=some r2/\snap 38 H r3=some r3)/\(snap 39 H r0=some r0/\snap 39 H r1=some r1/\snap 39 H r2=some r2/\snap 39 H r3=some r3)/\(snap 40 H r0=some r0/\snap 40 H r1=some r1/\snap 40 H r2=some r2/\snap 40 H r3=some r3))/\(bor 37 r0=false/\bor 37 r1=false/\bor 37 r2=false/\bor 37 r3=false)/\(bor 38 r0=false/\bor 38 r1=false/\bor 38 r2=false/\bor 38 r3=false)/\(bor 39 r0=false/\bor 39 r1=false/\bor 39 r2=false/\bor 39 r3=false)/\(bor 40 r0=false/\bor 40 r1=false/\bor 40 r2=false/\bor 40 r3=false):=by
 refine ⟨_,_,_,_,Config.ce c,fun H=>⟨?_,?_,?_,?_⟩,?_,?_,?_,?_⟩<;>simp
theorem qadg {p:Prg} (f:PrgS p) (hv:∀t∈p.tables,∀v∈t.dflt.args,ok32 0 v) {c:Config} (v:CfgV p c) (s:CfgT c) (o:TableOp) (ho:OpS o):
  qab Φ f_190 [.agg (Prg.c p),.agg (Config.c c),.agg (TableOp.c o)]=some (.val (.tup [.agg (Config.c (xoC p c o)),.int .i64 (xoI p c o),.int .i64 (xoE p c o)])):=by
 rw [qaa (fn:=c_190) rfl rfl];obtain ⟨r0,r1,r2,r3,hR,hs,hs2⟩:=cfg4 (xoC p c o);obtain ⟨q0,q1,q2,q3,hC,hq,hq2⟩:=cfg4 c;by_cases z1:o.kind=1
 ·have h:=qyo f hv v s o.table o.entry ho.e;have e1:xoE p c o=insE p c o.table o.entry:=by simp [xoE,z1]
  have e2:(if insE p c o.table o.entry=0 then insC c o.table o.entry else c)=xoC p c o:=by simp [xoC,e1,xoD,z1]
  have e3:(if insE p c o.table o.entry=0 then qc2 c o.table else 0)=xoI p c o:=by simp [xoI,e1,z1]
  rw [e2,e3,<- e1] at h;rw [hR,hC] at h ⊢;simp only [Prg.e,Entry.ce] at h;simp [c_190,Prg.e,TableOp.ce2,z1,h,hs,hq,hq2]
 by_cases z2:o.kind=2
 ·have h:=qyp f hv v s o.table o.id o.call ho.c.al ho.c.ar;have e1:xoE p c o=modE p c o.table o.id o.call:=by simp [xoE,z2]
  have e2:(if modE p c o.table o.id o.call=0 then modC c o.table o.id o.call else c)=xoC p c o:=by simp [xoC,e1,xoD,z2]
  have e3:xoI p c o=0:=by simp [xoI,z1]
  rw [e2,<- e1] at h;rw [e3,hR,hC] at*;simp only [Prg.e,ActionCall.ce] at h;simp [c_190,Prg.e,TableOp.ce2,z2,h,hs,hs2,hq,hq2]
 by_cases z3:o.kind=3
 ·have h:=qyn f hv v s o.table o.id;have e1:xoE p c o=delE p c o.table o.id:=by simp [xoE,z3]
  have e2:(if delE p c o.table o.id=0 then delC c o.table o.id else c)=xoC p c o:=by simp [xoC,e1,xoD,z3]
  have e3:xoI p c o=0:=by simp [xoI,z1]
  rw [e2,<- e1] at h;rw [e3,hR,hC] at*;simp only [Prg.e] at h;simp [c_190,Prg.e,TableOp.ce2,z3,h,hs,hs2,hq,hq2]
 by_cases z4:o.kind=4
 ·have h:=qri f hv v s o.table o.call ho.c.al ho.c.ar;have e1:xoE p c o=defE p o.table o.call:=by simp [xoE,z4]
  have e2:(if defE p o.table o.call=0 then defC c o.table o.call else c)=xoC p c o:=by simp [xoC,e1,xoD,z4]
  have e3:xoI p c o=0:=by simp [xoI,z1]
  rw [e2,<- e1] at h;rw [e3,hR,hC] at*;simp only [Prg.e,ActionCall.ce] at h;simp [c_190,Prg.e,TableOp.ce2,z4,h,hs,hs2,hq,hq2]
 ·have e1:xoE p c o=11:=by simp [xoE,z1,z2,z3,z4]
  have e2:xoC p c o=c:=by simp [xoC,e1]
  have e3:xoI p c o=0:=by simp [xoI,z1]
  rw [e1,e2,e3,hC];simp [c_190,Prg.e,TableOp.ce2,z1,z2,z3,z4,hq,hq2]
def cfgN (p:Prg) (c:Config) (l:List TableOp) (i:Nat):Config:=xoF p c (l.take i)
def idN (p:Prg) (c:Config) (l:List TableOp) (i:Nat):Int:=match l[i]? with
 | some o=>xoI p (cfgN p c l i) o
 | none=>0
def badF (p:Prg):Config->List TableOp->Nat->Option (Nat×Int)
 | _,[],_=>none
 | c,o::l,i=>if xoE p c o=0 then badF p (xoC p c o) l (i+1) else some (i,xoE p c o)
theorem qi4 (p:Prg) (c:Config) (l:List TableOp):cfgN p c l 0=c:=by simp [cfgN,xoF]
theorem qi3 (p:Prg) (c:Config) (l:List TableOp) {i:Nat} (h:i<l.length):cfgN p c l (i+1)=xoC p (cfgN p c l i) l[i]:=by
 simp only [cfgN,xoF,Qh h,List.foldl_append,List.foldl_cons,List.foldl_nil]
theorem qw0 {p:Prg} {c:Config} (v:CfgV p c) (s:CfgT c) (hp:p.tables.length<2^40) (l:List TableOp) (hl:∀o∈l,OpS o):∀i,CfgV p (cfgN p c l i)/\CfgT (cfgN p c l i)
 | 0=>by rw [qi4];exact ⟨v,s⟩
 | i+1=>by
  have ih:=qw0 v s hp l hl i;by_cases h:i<l.length
  ·rw [qi3 p c l h];exact ⟨qvw ih.1 _,xoC_t ih.1 ih.2 hp _ (hl _ (Qd h))⟩
  ·have:cfgN p c l (i+1)=cfgN p c l i:=by
    unfold cfgN;rw [Qo (by omega),Qo (by omega)]
   rw [this];exact ih
def qn0 (p:Prg) (c:Config) (l:List TableOp) (i:Nat):List AV:=[.slice 4 ((List.range (i+1)).map fun j=>Config.c (cfgN p c l j)),.slice 1 ((List.range i).map fun j=>cI (idN p c l j))]
def noH:List AV:=[.slice 4 [],.slice 1 []]
def qn1 (p:Prg) (c:Config) (l:List TableOp) (i:Nat):List AV:=[.fslice 4 ((List.range (i+1)).map fun j=>Config.c (cfgN p c l j)),.fslice 1 ((List.range i).map fun j=>cI (idN p c l j))]
def runA (p:Prg) (c:Config) (l:List TableOp):Rt:=
 if cfgE p c≠0 then .val (.tup [.agg noH,.int .i64 (-1),.int .i64 (cfgE p c)])
 else if 64<l.length then .val (.tup [.agg noH,.int .i64 (-1),.int .i64 12])
 else match badF p c l 0 with
  | some (k,e)=> .val (.tup [.agg noH,.int .i64 k,.int .i64 e])
  | none=> .val (.tup [.agg (qn0 p c l l.length),.int .i64 0,.int .i64 0])
theorem qago (p:Prg) (f:PrgS p) (hv:∀t∈p.tables,∀v∈t.dflt.args,ok32 0 v) (hc:(pre p.control).length<2^40 - 1) (hp:p.tables.length<2^40) {c:Config} (s:CfgT c) (l:List TableOp) (hll:l.length<2^40) (hl:∀o∈l,OpS o):
  qab Φ f_109 [.agg (Prg.c p),.agg (Config.c c),.slice 9 (l.map TableOp.c)]=some (runA p c l):=by
 rw [qaa (fn:=c_109) rfl rfl];have hk:=qiv p f hv hc c s;obtain ⟨q0,q1,q2,q3,hC,hq,hq2⟩:=cfg4 c;by_cases z:cfgE p c=0
 case neg=>
  have hR:runA p c l= .val (.tup [.agg noH,.int .i64 (-1),.int .i64 (cfgE p c)]):=by simp [runA,z]
  rw [hR];rw [hC] at hk ⊢;simp only [Prg.e] at hk;simp [c_109,Prg.e,hk,hq,hq2,z,noH]
 have v:=(qcf p c).1 z;by_cases z2:64<l.length
 ·have hR:runA p c l= .val (.tup [.agg noH,.int .i64 (-1),.int .i64 12]):=by simp [runA,z,z2]
  rw [hR];rw [hC] at hk ⊢;have z3:(64:Int)<(l.length:Int):=by omega
  simp only [Prg.e] at hk;simp [c_109,Prg.e,hk,hq,hq2,z,z3,noH]
 generalize hR:runA p c l=R;have z3:¬(64:Int)<(l.length:Int):=by omega
 rw [hC] at hk ⊢;simp only [Prg.e] at hk;simp [c_109,Prg.e,hk,hq,hq2,z,z3];have h0:qn1 p c l 0=[.fslice 4 [[q0,q1,q2,q3]],.fslice 1 []]:=by simp [qn1,qi4,hC]
 rw [<- h0];refine qbb l.length (fun i e h=>(∃n,2<=n/\((h=⟨[(0,.row 2 [[.fslice 4 [],.fslice 1 []]]),(1,.row 2 [qn1 p c l i])],n⟩)\/∃A B,2<=A/\A<B/\B<n/\h=⟨[(0,.row 2 [[.fslice 4 [],.fslice 1 []]]),(1,.row 2 [[.app 4 ((List.range (i+1)).map fun j=>Config.c (cfgN p c l j)) A,.app 1 ((List.range i).map fun j=>cI (idN p c l j)) B]]),(A,.tok 4 (i+1)),(B,.tok 1 i)],n⟩))/\badF p c l 0=badF p (cfgN p c l i) (l.drop i) i/\look 2 e=some (.slice 9 (l.map TableOp.c))/\look 3 e=some (.iptr 9 [Prg.c p] 0 0)/\look 6 e=some (.ptr 0 2 0 0)/\look 10 e=some (.ptr 1 2 0 0)/\look 11 e=some (.int .i64 i)) (fun _=>some R) ?_ ?_ 0 _ _ (Qc _) ?_
 ·rintro i e h L hi hL ⟨⟨n,hn,hh⟩,hb,e2,e3,e6,e10,e11⟩ ih;obtain ⟨vi,si⟩:=qw0 v s hp l hl i;have hx:=qadg f hv vi si l[i] (hl _ (Qd hi));obtain ⟨r0,r1,r2,r3,hD,hr,hr2⟩:=cfg4 (cfgN p c l i);obtain ⟨s0,s1,s2,s3,hE,hs,hs2⟩:=cfg4 (xoC p (cfgN p c l i) l[i]);rw [hD,hE] at hx;have h1:(i:Int)<(i:Int)+1:=by omega
  have hw:=qaf i (by omega);have hm:(List.map (fun j=>Config.c (cfgN p c l j)) (List.range (i+1)))[i]? =some [r0,r1,r2,r3]:=by simp [hD]
  have t0:∀k,¬(n+k=0):=fun k=>by omega
  have t1:∀k,¬(n+k=1):=fun k=>by omega
  have t2:¬n=0:=by omega
  have t3:¬n=1:=by omega
  have hb2:badF p (cfgN p c l i) (l.drop i) i=if xoE p (cfgN p c l i) l[i]=0 then badF p (xoC p (cfgN p c l i) l[i]) (l.drop (i+1)) (i+1) else some (i,xoE p (cfgN p c l i) l[i]):=by
   rw [Qi hi,badF]
  rw [hb2] at hb;generalize hml:List.map (fun j=>Config.c (cfgN p c l j)) (List.range (i+1))=ml at hm;have hmi:i<ml.length:=by rw [<- hml];simp
  have hlen:ml.length=i+1:=by rw [<- hml];simp
  have h96:(i+1+1)*96<=70368744177664:=by omega
  have h8:(i+1)*8<=70368744177664:=by omega
  generalize hil:List.map (fun j=>cI (idN p c l j)) (List.range i)=il;have hill:il.length=i:=by rw [<- hil];simp
  have hm':ml[i]=[r0,r1,r2,r3]:=by rw [Qa hmi] at hm;exact Option.some.inj hm
  simp only [Prg.e,TableOp.ce2] at hx;by_cases zi:xoE p (cfgN p c l i) l[i]=0
  ·rw [if_pos zi,<- qi3 p c l hi] at hb;rw [zi] at hx;have hr1:List.map (fun j=>Config.c (cfgN p c l j)) (List.range (i+1+1))=ml++[[s0,s1,s2,s3]]:=by
    rw [List.range_succ,List.map_append,hml,List.map_singleton,qi3 p c l hi,hE]
   have hr2':List.map (fun j=>cI (idN p c l j)) (List.range (i+1))=il++[[.int .i64 (xoI p (cfgN p c l i) l[i])]]:=by
    rw [List.range_succ,List.map_append,hil,List.map_singleton];simp [idN,hi,cI]
   rcases hh with rfl | ⟨A,B,hA,hAB,hBn,rfl⟩
   ·simp [c_109_l0,e2,e3,e10,e11,hi,qn1,hml,hil,hill,hlen,h1,hm',Prg.e,hx,hr,hr2,hs,hs2,TableOp.ce2,t2,hw,h96,h8];refine ih _ _ ⟨⟨n+12+1+1+1,by omega,.inr ⟨n+12+1,n+12+1+1,by omega,by omega,by omega,by rw [hr1,hr2']⟩⟩,hb,?_⟩;simp [e2,e3,e6,e10]
   ·have g0:¬A=0:=by omega
    have g1:¬A=1:=by omega
    have g2:¬B=0:=by omega
    have g3:¬B=1:=by omega
    have g4:¬B=A:=by omega
    have g5:∀k,¬(n+k=A):=fun k=>by omega
    have g6:∀k,¬(n+k=B):=fun k=>by omega
    have g7:¬n=A:=by omega
    have g8:¬n=B:=by omega
    have i0:¬0=A:=by omega
    have i1:¬1=A:=by omega
    have i2:¬0=B:=by omega
    have i3:¬1=B:=by omega
    have i4:¬A=B:=by omega
    have g9:∀k,¬(A=n+k):=fun k=>by omega
    have g10:∀k,¬(B=n+k):=fun k=>by omega
    simp [c_109_l0,e2,e3,e10,e11,hi,hml,hil,hill,hlen,h1,hm',Prg.e,hx,hr,hr2,hs,hs2,TableOp.ce2,t2,hw,h96,h8,g9,g10,i0,i1,i2,i3,i4];refine ih _ _ ⟨⟨n+12+1,by omega,.inr ⟨A,B,hA,hAB,by omega,by rw [hr1,hr2']⟩⟩,hb,?_⟩;simp [e2,e3,e6,e10]
  ·rw [if_neg zi] at hb;have hR':R= .val (.tup [.agg noH,.int .i64 i,.int .i64 (xoE p (cfgN p c l i) l[i])]):=by
    rw [<- hR];simp [runA,z,z2,hb]
   rw [hR'];rcases hh with rfl | ⟨A,B,hA,hAB,hBn,rfl⟩
   ·simp [c_109_l0,e2,e3,e6,e10,e11,hi,qn1,hml,hil,hlen,h1,hm',Prg.e,hx,hr,hr2,hs,hs2,TableOp.ce2,zi,t2,noH]
   ·have g0:¬A=0:=by omega
    have g1:¬A=1:=by omega
    have g2:¬B=0:=by omega
    have g3:¬B=1:=by omega
    have g4:¬B=A:=by omega
    have g5:∀k,¬(n+k=A):=fun k=>by omega
    have g6:∀k,¬(n+k=B):=fun k=>by omega
    have g7:¬n=A:=by omega
    have g8:¬n=B:=by omega
    have i0:¬0=A:=by omega
    have i1:¬1=A:=by omega
    have i2:¬0=B:=by omega
    have i3:¬1=B:=by omega
    have i4:¬A=B:=by omega
    have g9:∀k,¬(A=n+k):=fun k=>by omega
    have g10:∀k,¬(B=n+k):=fun k=>by omega
    simp [c_109_l0,e2,e3,e6,e10,e11,hi,hml,hil,hlen,h1,hm',Prg.e,hx,hr,hr2,hs,hs2,TableOp.ce2,zi,t2,noH,g9,g10]
 ·rintro e h L hL ⟨⟨n,hn,hh⟩,hb,e2,e3,e6,e10,e11⟩;have hR':R= .val (.tup [.agg (qn0 p c l l.length),.int .i64 0,.int .i64 0]):=by
   rw [<- hR];simp [runA,z,z2,hb,badF]
  rw [hR'];rcases hh with rfl | ⟨A,B,hA,hAB,hBn,rfl⟩
  ·simp [c_109_l0,c_109_k1,e2,e6,e10,e11,hL,qn1,qn0]
  ·simp [c_109_l0,c_109_k1,e2,e6,e10,e11,hL,qn0]
 ·refine ⟨⟨2,Qb _,.inl rfl⟩,?_⟩;simp [qi4,Prg.e]
def noC:List AV:=[.slice 1 [],.slice 1 [],.slice 2 [],.slice 1 []]
def badA (p:Prg) (c:Config) (l:List TableOp):Option (Int×Int):=
 if cfgE p c≠0 then some (-1,cfgE p c) else if 64<l.length then some (-1,12) else (badF p c l 0).map fun x=>((x.1:Int),x.2)
def appA (p:Prg) (c:Config) (l:List TableOp):AV:=match badA p c l with
 | some (k,e)=> .tup [.agg noC,.slice 1 [],.int .i64 k,.int .i64 e]
 | none=> .tup [.agg (Config.c (cfgN p c l l.length)),.slice 1 ((List.range l.length).map fun j=>cI (idN p c l j)),.int .i64 0,.int .i64 0]
theorem qadu {p:Prg} {c:Config} {l:List TableOp} {k e:Int} (h:badA p c l=some (k,e)):runA p c l= .val (.tup [.agg noH,.int .i64 k,.int .i64 e]):=by
 unfold badA at h;unfold runA;by_cases z:cfgE p c=0
 case neg=>simp only [ne_eq,z,not_false_eq_true,if_true,Option.some.injEq,Prod.mk.injEq] at h ⊢;rw [<- h.1,<- h.2]
 by_cases z2:64<l.length
 ·simp only [ne_eq,z,not_true,if_false,z2,if_true,Option.some.injEq,Prod.mk.injEq] at h ⊢;rw [<- h.1,<- h.2]
 ·simp only [ne_eq,z,not_true,if_false,z2] at h ⊢;cases hb:badF p c l 0 with
  | none=>simp [hb] at h
  | some x=>simp only [hb,Option.map_some,Option.some.injEq,Prod.mk.injEq] at h;obtain ⟨h1,h2⟩:=h;subst h1;subst h2;rfl
theorem qaa9 {p:Prg} {c:Config} {l:List TableOp} (h:badA p c l=none):runA p c l= .val (.tup [.agg (qn0 p c l l.length),.int .i64 0,.int .i64 0]):=by
 unfold badA at h;unfold runA;by_cases z:cfgE p c=0
 case neg=>simp [z] at h
 by_cases z2:64<l.length
 ·simp [z,z2] at h
 ·simp only [ne_eq,z,not_true,if_false,z2] at h ⊢;cases hb:badF p c l 0 with
  | none=>rfl
  | some x=>simp [hb] at h
theorem qwx {p:Prg} {k:Nat} {e:Int}:∀{l:List TableOp} {c:Config} {i:Nat},badF p c l i=some (k,e)->e≠0
 | [],_,_,h=>by simp [badF] at h
 | o::l,c,i,h=>by
  unfold badF at h;by_cases z:xoE p c o=0
  ·rw [if_pos z] at h;exact qwx h
  ·rw [if_neg z] at h;simp only [Option.some.injEq,Prod.mk.injEq] at h;rw [<- h.2];exact z
theorem qww {p:Prg} {c:Config} {l:List TableOp} {k e:Int} (h:badA p c l=some (k,e)):e≠0:=by
 unfold badA at h;by_cases z:cfgE p c=0
 case neg=>simp only [ne_eq,z,not_false_eq_true,if_true,Option.some.injEq,Prod.mk.injEq] at h;rw [<- h.2];exact z
 by_cases z2:64<l.length
 ·simp only [ne_eq,z,not_true,if_false,z2,if_true,Option.some.injEq,Prod.mk.injEq] at h;rw [<- h.2];decide
 ·simp only [ne_eq,z,not_true,if_false,z2] at h;cases hb:badF p c l 0 with
  | none=>simp [hb] at h
  | some x=>simp only [hb,Option.map_some,Option.some.injEq,Prod.mk.injEq] at h;rw [<- h.2];exact qwx (k:=x.1) (e:=x.2) hb
theorem qaax (p:Prg) (f:PrgS p) (hv:∀t∈p.tables,∀v∈t.dflt.args,ok32 0 v) (hc:(pre p.control).length<2^40 - 1) (hp:p.tables.length<2^40) {c:Config} (s:CfgT c) (l:List TableOp) (hll:l.length<2^40) (hl:∀o∈l,OpS o):
  qab Φ f_44 [.agg (Prg.c p),.agg (Config.c c),.slice 9 (l.map TableOp.c)]=some (.val (appA p c l)):=by
 rw [qaa (fn:=c_44) rfl rfl];have hr:=qago p f hv hc hp s l hll hl;obtain ⟨q0,q1,q2,q3,hC,hq,hq2⟩:=cfg4 c;cases hb:badA p c l with
 | some x=>
  obtain ⟨k,e⟩:=x;have he:=qww hb;rw [qadu hb] at hr;rw [show appA p c l= .tup [.agg noC,.slice 1 [],.int .i64 k,.int .i64 e] by simp only [appA,hb]];rw [hC] at hr ⊢;simp only [Prg.e,noH] at hr;simp [c_44,Prg.e,hr,hq,hq2,he,noC]
 | none=>
  rw [qaa9 hb] at hr;rw [show appA p c l= .tup [.agg (Config.c (cfgN p c l l.length)),.slice 1 ((List.range l.length).map fun j=>cI (idN p c l j)),.int .i64 0,.int .i64 0] by simp only [appA,hb]];obtain ⟨r0,r1,r2,r3,hD,hs,hs2⟩:=cfg4 (cfgN p c l l.length);rw [hC] at hr ⊢;rw [hD];have hm:(List.map (fun j=>Config.c (cfgN p c l j)) (List.range (l.length+1)))[l.length]? =some [r0,r1,r2,r3]:=by simp [hD]
  simp only [qn0] at hr;generalize hml:List.map (fun j=>Config.c (cfgN p c l j)) (List.range (l.length+1))=ml at hm hr;have hmi:l.length<ml.length:=by rw [<- hml];simp
  have hm':ml[l.length]=[r0,r1,r2,r3]:=by rw [Qa hmi] at hm;exact Option.some.inj hm
  simp only [Prg.e] at hr;simp [c_44,Prg.e,hr,hq,hq2,hmi,hm',hs]
theorem MDpost.pre {N N1:Nat} {O O1:List (Nat×AO)} {S:SV} {p:Prg} {c:Config} {v:AV} {r:Option (Rt×AH)} (hk:Kp (fun _=>False) N O O1) (hN:N<=N1) (h:MDpost N1 O1 S p c v r):MDpost N O S p c v r:=by
 obtain ⟨S',O',N',e,h1,h2,h3,h4,h5,h6⟩:=h;refine ⟨S',O',N',e,h1,h2,fun j hj=>(h3 j hj).imp id fun h=>by omega,?_,h5,by omega⟩;intro j hj hx;rw [h4 j (by omega) fun hc=>hx (hc.imp id fun hc=>?_)]
 ·exact hk j hj (by simp)
 ·show look j O=some .res;rw [<- hk j hj (by simp)];exact hc
structure CmF (O:List (Nat×AO)) (M:Nat) (S:SV) (l:List TableOp) (b2 b6 w T:Nat):Prop where
 fb2:look b2 O=some (.row 1 [[.ptr S.s 15 0 0]])
 fb6:look b6 O=some (.row 1 [[.int .i64 0]])
 fw:look w O=some (.row 9 (l.map TableOp.c))
 ft:look T O=some (.tok 1 0)
 n2:¬S.own b2
 n6:¬S.own b6
 nw:¬S.own w
 nt:¬S.own T
 tl:Tail O M
structure CmI (O0:List (Nat×AO)) (M:Nat) (S:SV) (p:Prg) (c:Config) (l:List TableOp) (b2 b6 w T:Nat) (i:Nat) (e:Env) (O:List (Nat×AO)) (N:Nat):Prop where
 tl:Tail O N
 hM:M<=N
 st:∃S',StoreM O S' p (cfgN p c l i)/\S'.s=S.s/\∀j,S'.own j->S.own j\/M<=j
 kp:Kp (fun j=>S.own j\/Rs O0 j\/j=T\/j=b6) M O0 O
 tk:look T O=some (.tok 1 i)
 k6:look b6 O=some (.row 1 [[.int .i64 0]])
 bad:badF p c l 0=badF p (cfgN p c l i) (l.drop i) i
 e2:look 2 e=some (.ptr b2 1 0 0)
 e6:look 6 e=some (.ptr b6 1 0 0)
 e7:look 34 e=some (.row w 9 0 l.length)
 e35:look 35 e=some (.int .i64 l.length)
 e36:look 36 e=some (.int .i64 i)
 e9:look 9 e=some (.app 1 ((List.range i).map fun j=>cI (idN p c l j)) T)
def cmA1:ACode:=match c_51.code with | .seq a _=>a | _=> .skip
def cmA2:ACode:=match c_51.code with | .seq _ (.seq a _)=>a | _=> .skip
def cmA3:ACode:=match c_51.code with | .seq _ (.seq _ (.seq a _))=>a | _=> .skip
def cmA4:ACode:=match c_51.code with | .seq _ (.seq _ (.seq _ (.seq a _)))=>a | _=> .skip
def cmB:ACode:=match c_51.code with | .seq _ (.seq _ (.seq _ (.seq _ (.dfr _ _ b))))=>b | _=> .skip
def cmO:List AOper:=[⟨some 27,none,.mkfunc (.func f_116) [] [.t 6,.t 7,.t 2]⟩]
theorem cm_code:c_51.code= .seq cmA1 (.seq cmA2 (.seq cmA3 (.seq cmA4 (.dfr cmO 27 cmB)))):=rfl
def idsA (p:Prg) (c:Config) (l:List TableOp):List (List AV):=(List.range l.length).map fun j=>cI (idN p c l j)
end Go.Av
