/-
  An abstract interpreter over the model, proved sound: part E.
-/
import Derived.Test.YtbhkkpfccfoioaaGreatAvD
import Derived.WalkKit
import Derived.ProofKit
import Derived.OpenShut
import Derived.JoinedCond
import Derived.Carry
set_option linter.unusedVariables false
set_option linter.unusedSimpArgs false
set_option linter.constructorNameAsVariable false
namespace Go.Av
open Go.ChangeShapes Go.WideShapes Go.ChangeAt Go.RowKit
structure BulkFn (H:Type) where
 one:DataW H->Nat
 all:List (DataW H)->Nat
 nil:all []=0
 cons:∀d r,all (d::r)=one d+all r
 slice:∀e s,one (.slice e s)=all e+all s+1
 agg:∀e,one (.agg e)=all e+1
 str:∀b,one (.lit (.string b))=b.length+1
 pos:∀d,1<=one d
theorem BulkFn.len {H:Type} (bk:BulkFn H):∀l,l.length<=bk.all l
 | []=>by simp
 | d::r=>by have:=bk.len r;have:=bk.pos d;rw [bk.cons];simp;omega
theorem BulkFn.mem {H:Type} (bk:BulkFn H):∀{l d},d∈l->bk.one d<=bk.all l
 | e::r,d,h=>by
  rw [bk.cons];rcases lW.1 h with rfl | h
  ·omega
  ·have:=bk.mem h;omega
def CM (P:Program):List Field->Nat->Nat->Bool
 | [],off,sz=>off == sz
 | f::r,off,sz=>f.offset == off&&CM P r (off+P.cellsOf f.type) sz
def CN (P:Program) (ts:List TypeId):Bool:=ts.all fun t=>match P.underlying t with
  | some .bool | some (.int _) | some .string=>true
  | some (.slice e)=>fH e ts&&P.cellsOf e != 0
  | some (.struct fs)=>fs.toList.all (fun f=>fH f.type ts)&&CM P fs.toList 0 (P.cellsOf t)
  | some (.array k e)=>fH e ts&&P.cellsOf t == k*P.cellsOf e
  | _=>false
inductive WT (P:Program) (B:Nat):TypeId->List AV->Prop where
 | bool {t:TypeId} (b:Bool) (h:P.underlying t=some .bool):WT P B t [.bool b]
 | int {t:TypeId} (k:IntKind) (v:Int) (h:P.underlying t=some (.int k)) (h1:k.min<=v) (h2:v<=k.max):WT P B t [.int k v]
 | str {t:TypeId} (s:List UInt8) (h:P.underlying t=some .string) (h1:s.length<=B):WT P B t [.str s]
 | slice {t e:TypeId} (es:List (List AV)) (h:P.underlying t=some (.slice e)) (h1:es.length<=B) (h2:∀x∈es,WT P B e x):WT P B t [.slice (P.cellsOf e) es]
 | struct {t:TypeId} (fs:Array Field) (xss:List (List AV)) (h:P.underlying t=some (.struct fs)) (h1:xss.length=fs.size)
   (h2:∀(i:Nat) f x,fs[i]? =some f->xss[i]? =some x->WT P B f.type x):WT P B t xss.flatten
 | array {t e:TypeId} (k:Nat) (xss:List (List AV)) (h:P.underlying t=some (.array k e)) (h1:xss.length=k) (h2:∀x∈xss,WT P B e x):WT P B t xss.flatten
def mH (P:Program) (t:TypeId):Bool:=match P.underlying t with
 | some (.struct _) | some (.array _ _)=>true
 | _=>false
def WTV (P:Program) (B:Nat) (t:TypeId) (v:AV):Prop:=
 if mH P t then ∃xs,v= .agg xs/\WT P B t xs else WT P B t [v]
section
variable {H:Type} {enc:TypeId×Value->H} {P:Program} {w:World} {base:Nat} {spare:Nat->Bool} {held:Bool} {imm:Nat->Nat->Prop} {B:Nat}
def Cells (w:World) (imm:Nat->Nat->Prop) (xs:List AV) (cs:List Value):Prop:=
 xs.length=cs.length/\∀(i:Nat) x v,xs[i]? =some x->cs[i]? =some v->VRD w imm x v/\v.oneCell'=true
theorem Cells.append {xs ys:List AV} {cs ds:List Value} (h:Cells w imm xs cs) (k:Cells w imm ys ds):Cells w imm (xs++ys) (cs++ds):=by
 refine ⟨by simp [h.1,k.1],?_⟩;intro i x v hx hv;by_cases hi:i<xs.length
 ·rw [Qj hi] at hx;rw [Qj (by rw [<- h.1];exact hi)] at hv;exact h.2 i x v hx hv
 ·rw [Qn (by omega)] at hx;rw [Qn (by rw [<- h.1];omega)] at hv;rw [<- h.1] at hv;exact k.2 _ x v hx hv
theorem Cells.one {x:AV} {v:Value} (h:VRD w imm x v) (h1:v.oneCell'=true):Cells w imm [x] [v]:=by
 refine ⟨rfl,?_⟩;intro i y u hy hu;cases i with
 | zero=>simp at hy hu;subst hy;subst hu;exact ⟨h,h1⟩
 | succ i=>simp at hy
theorem U5 {U:Type} {n:Nat} {p:Nat->U->Prop} (h:∀i,i<n->∃a,p i a):∃l:List U,l.length=n/\∀i a,l[i]? =some a->p i a:=by
 induction n with
 | zero=>exact ⟨[],rfl,fun i a h=>by simp at h⟩
 | succ n ih=>
  obtain ⟨l,hl,hp⟩:=ih (fun i hi=>h i (by omega));obtain ⟨a,ha⟩:=h n (by omega);refine ⟨l++[a],by simp [hl],?_⟩;intro i b hb;by_cases hi:i<l.length
  ·rw [Qj hi] at hb;exact hp i b hb
  ·rw [Qn (by omega)] at hb;have:i - l.length=0:=by
    rcases Qt (i - l.length) with h0 | h0
    ·exact h0
    ·rw [Qi (by simp;omega)] at hb;cases hb
   rw [this] at hb;simp at hb;subst hb;have:i=n:=by omega
   subst this;exact ha
theorem UM {a:Addr} {n:Nat} {l:List Value} (h:w.cells? base a n=some l):l.length=n/\∀i v,l[i]? =some v->w.cell? (a.add i)=some v:=by
 unfold World.cells? at h;split at h
 ·have hl:=mapM_some_length h;refine ⟨by simpa using hl,?_⟩;intro i v hv;have hi:i<n:=by
   have:=(Qk.1 hv).1;rw [hl] at this;simpa using this
  have:=mapM_some_get h i i (by simp [hi]);rw [this,hv]
 ·cases h
theorem Ci {fs:List Field}:∀{off sz:Nat} {cs:List Value} {xss:List (List AV)},CM P fs off sz=true->cs.length=sz->
  xss.length=fs.length->(∀(i:Nat) f x,fs[i]? =some f->xss[i]? =some x->Cells w imm x ((cs.drop f.offset).take (P.cellsOf f.type))/\x.length=P.cellsOf f.type)->
  Cells w imm xss.flatten (cs.drop off):=by
 induction fs with
 | nil=>
  intro off sz cs xss ho hc hl h;have:xss=[]:=List.length_eq_zero_iff.1 (by simpa using hl);subst this;simp only [CM,beq_iff_eq] at ho;have:cs.drop off=[]:=by simp;omega
  rw [this];exact ⟨rfl,fun i x v hx=>by simp at hx⟩
 | cons f r ih=>
  intro off sz cs xss ho hc hl h;simp only [CM,QA,beq_iff_eq] at ho;obtain ⟨ho1,ho2⟩:=ho;cases xss with
  | nil=>simp at hl
  | cons x xss=>
   obtain ⟨h1,h2⟩:=h 0 f x rfl rfl;rw [ho1] at h1;have hr:=ih (cs:=cs) (xss:=xss) ho2 hc (by simpa using hl) (fun i g y hg hy=>h (i+1) g y (by simpa using hg) (by simpa using hy));rw [FO];have e:cs.drop off=(cs.drop off).take (P.cellsOf f.type)++cs.drop (off+P.cellsOf f.type):=by
    rw [<- ES,List.take_append_drop]
   rw [e];exact h1.append hr
theorem XZ {z:Nat} {cs:List Value}:∀{xss:List (List AV)} {k:Nat},cs.length=(k+xss.length)*z->
  (∀(i:Nat) x,xss[i]? =some x->Cells w imm x ((cs.drop ((k+i)*z)).take z)/\x.length=z)->Cells w imm xss.flatten (cs.drop (k*z))
 | [],k,hc,h=>by
  have:cs.drop (k*z)=[]:=by simp at hc ⊢;omega
  rw [this];exact ⟨rfl,fun i x v hx=>by simp at hx⟩
 | x::xss,k,hc,h=>by
  obtain ⟨h1,h2⟩:=h 0 x rfl;have hr:=XZ (cs:=cs) (xss:=xss) (k:=k+1) (by simp at hc ⊢;rw [hc];congr 1;omega) (fun i y hy=>by
   have:=h (i+1) y (by simpa using hy)
   rwa [show k+(i+1)=k+1+i by omega] at this)
  rw [FO];have e:cs.drop (k*z)=(cs.drop (k*z)).take z++cs.drop ((k+1)*z):=by
   rw [show (k+1)*z=k*z+z by rw [cG];omega,<- ES,List.take_append_drop]
  rw [e];exact Cells.append (by simpa using h1) hr
theorem Gg (bk:BulkFn H) {ts:List TypeId} (hts:CN P ts=true) (himm:∀b i,imm b i):∀(fuel:Nat) (t:TypeId) (cs:List Value) (d:DataW H) (ps:List MemPlace),
  t∈ts->DataW.trod enc P w base spare held fuel t cs=some (d,ps)->bk.one d<=B->∃xs,WT P B t xs/\Cells w imm xs cs:=by
 intro fuel
 induction fuel with
 | zero=>intro t cs d ps _ h;simp [DataW.trod] at h
 | succ fuel ih=>
  intro t cs d ps ht h hb;have hp:=hts;simp only [CN,Qo] at hp;have hp:=hp t ht;split at hp
  ·rename_i hu;obtain ⟨b,rfl,hx⟩:=DataW.trod_bool hu h;exact ⟨[.bool b],.bool b hu,.one (.bool b) rfl⟩
  ·rename_i k hu;obtain ⟨n,rfl,hx,hw⟩:=DataW.trod_int hu h;simp only [Lit.wf,QA,decide_eq_true_eq] at hw;exact ⟨[.int k n],.int k n hu hw.1 hw.2,.one (.int k n) rfl⟩
  ·rename_i hu;obtain ⟨s,rfl,hx,hw⟩:=DataW.trod_string hu h;simp only [Prod.mk.injEq] at hx;obtain ⟨rfl,rfl⟩:=hx;rw [bk.str] at hb;refine ⟨[.str s.data.toList],.str _ hu (by omega),.one ?_ rfl⟩;have:=VRD.str (w:=w) (imm:=imm) s.data.toList;simpa using this
  ·rename_i e hu;simp only [QA,memNat_iff,bne_iff_ne,ne_eq] at hp;obtain ⟨hpe,hz⟩:=hp;rcases DataW.trod_slice hu h with ⟨rfl,hx⟩ | ⟨a,len,cap,elems,rest,n,hn,rfl,hx,h1,h2,h3,h4,h5,h6,h7⟩
   ·exact ⟨[.slice (P.cellsOf e) []],.slice [] hu (by simp) (by simp),.one (.slice0 _ _ _) rfl⟩
   ·cases hn;simp only [Prod.mk.injEq] at hx;obtain ⟨rfl,rfl⟩:=hx;rw [bk.slice] at hb;have hlen:=bk.len (elems.map (·.1));simp only [List.length_map] at hlen;have hex:∀i,i<len->∃p:List AV×List Value,WT P B e p.1/\Cells w imm p.1 p.2/\w.cells? base (a.add (i*P.cellsOf e)) (P.cellsOf e)=some p.2:=by
     intro i hi;have hh:=h5 i hi;have hi':i<elems.length:=by omega
     rw [Qa hi'] at hh;obtain ⟨l,hl1,hl2⟩:=Qq.1 hh;have hm:bk.one (elems[i]).1<=bk.all (elems.map (·.1)):=bk.mem (vZ.2 ⟨_,Qd hi',rfl⟩);obtain ⟨xs,k1,k2⟩:=ih e l (elems[i]).1 (elems[i]).2 hpe hl2 (by omega);exact ⟨(xs,l),k1,k2,hl1⟩
    obtain ⟨L,hL,hL2⟩:=U5 hex;refine ⟨[.slice (P.cellsOf e) (L.map (·.1))],.slice _ hu (by simp;omega) ?_,.one ?_ rfl⟩
    ·intro x hx;obtain ⟨p,hp1,rfl⟩:=vZ.1 hx;obtain ⟨i,hi,hpi⟩:=List.getElem_of_mem hp1;exact (hL2 i p (by rw [<- hpi];exact Qa hi)).1
    ·by_cases h0:len=0
     ·have:L=[]:=List.length_eq_zero_iff.1 (by omega);subst this;subst h0;exact .slice0 _ _ _
     ·obtain ⟨p0,hp0⟩:∃p,L[0]? =some p:=⟨_,Qa (by omega)⟩;obtain ⟨_,q2,q3⟩:=hL2 0 p0 hp0;obtain ⟨g1,g2⟩:=UM q3;have hspot:a.spot=none:=by
       obtain ⟨v,hv⟩:∃v,p0.2[0]? =some v:=⟨_,Qa (by omega)⟩;have:=g2 0 v hv;simp only [Nat.zero_mul,Addr.add,if_true] at this;unfold World.cell? at this;split at this
       ·split at this
        ·cases this
        ·rename_i hs;simpa using hs
       ·cases this
      obtain ⟨blk,off,sp⟩:=a;simp only at hspot;subst hspot;have hget:∀(i j:Nat) e' x,(L.map (·.1))[i]? =some e'->e'[j]? =some x->∃v,w.cell? ⟨blk,off+i*P.cellsOf e+j,none⟩=some v/\v.oneCell'=true/\VRD w imm x v:=by
       intro i j e' x he hx;simp only [List.getElem?_map,Qp] at he;obtain ⟨p,hp,rfl⟩:=he;obtain ⟨_,r2,r3⟩:=hL2 i p hp;obtain ⟨s1,s2⟩:=UM r3;have hj:j<p.1.length:=(Qk.1 hx).1;obtain ⟨v,hv⟩:∃v,p.2[j]? =some v:=⟨_,Qa (by rw [<- r2.1];exact hj)⟩;obtain ⟨t1,t2⟩:=r2.2 j x v hx hv;have:=s2 j v hv;have e1:((⟨blk,off,none⟩:Addr).add (i*P.cellsOf e)).add j=⟨blk,off+i*P.cellsOf e+j,none⟩:=by
        simp only [Addr.add];split<;>split<;>simp_all
       rw [e1] at this;exact ⟨v,this,t2,t1⟩
      have hlenm:len=(L.map (·.1)).length:=by simp [hL]
      rw [show (Value.slice (some ⟨blk,off,none⟩) len cap)=Value.slice (some ⟨blk,off,none⟩) (L.map (·.1)).length cap by rw [<- hlenm]];refine .slice _ _ blk off cap (fun i j=>(w.cell? ⟨blk,off+i*P.cellsOf e+j,none⟩).getD .nilFunc) ?_ ?_ (by omega) ?_ ?_
      ·intro hc;have:L.length=0:=by rw [List.map_eq_nil_iff] at hc;simp [hc]
       omega
      ·intro x hx;obtain ⟨p,hp1,rfl⟩:=vZ.1 hx;obtain ⟨i,hi,hpi⟩:=List.getElem_of_mem hp1;obtain ⟨_,r2,r3⟩:=hL2 i p (by rw [<- hpi];exact Qa hi);rw [r2.1];exact (UM r3).1
      ·intro i j e' x he hx;obtain ⟨v,k1,k2,k3⟩:=hget i j e' x he hx;exact ⟨himm _ _,by rw [k1];rfl,by rw [k1];exact k2⟩
      ·intro i j e' x he hx;obtain ⟨v,k1,k2,k3⟩:=hget i j e' x he hx;rw [k1];exact k3
  ·rename_i fs hu;simp only [QA,Qo,memNat_iff] at hp;obtain ⟨hp1,hp2⟩:=hp;obtain ⟨xs,n,hn,hx,hc,hl,hf⟩:=DataW.trod_struct hu h;cases hn;simp only [Prod.mk.injEq] at hx;obtain ⟨rfl,rfl⟩:=hx;rw [bk.agg] at hb;have hoffs:∀(i:Nat) f,fs.toList[i]? =some f->f.offset+P.cellsOf f.type<=P.cellsOf t:=by
    have gen:∀(l:List Field) (off sz:Nat),CM P l off sz=true->off<=sz/\∀(i:Nat) f,l[i]? =some f->f.offset+P.cellsOf f.type<=sz:=by
     intro l
     induction l with
     | nil=>intro off sz h;simp only [CM,beq_iff_eq] at h;exact ⟨by omega,fun i f hf=>by simp at hf⟩
     | cons g r ihr=>
      intro off sz h;simp only [CM,QA,beq_iff_eq] at h;obtain ⟨k1,k2⟩:=ihr _ _ h.2;refine ⟨by omega,?_⟩;intro i f hf;cases i with
      | zero=>simp at hf;subst hf;omega
      | succ i=>exact k2 i f (by simpa using hf)
    exact (gen _ _ _ hp2).2
   have hex:∀i,i<fs.size->∃x:List AV,∀f,fs[i]? =some f->WT P B f.type x/\Cells w imm x ((cs.drop f.offset).take (P.cellsOf f.type))/\x.length=P.cellsOf f.type:=by
    intro i hi;have hfi:fs[i]? =some fs[i]:=by simp [hi]
    have hh:=hf i _ hfi;have hi':i<xs.length:=by omega
    rw [Qa hi'] at hh;have hm:bk.one (xs[i]).1<=bk.all (xs.map (·.1)):=bk.mem (vZ.2 ⟨_,Qd hi',rfl⟩);obtain ⟨ys,k1,k2⟩:=ih (fs[i]).type _ (xs[i]).1 (xs[i]).2 (hp1 _ (by simp)) hh (by omega);refine ⟨ys,?_⟩;intro f hf';rw [hfi] at hf';cases hf';refine ⟨k1,k2,?_⟩;rw [k2.1];have:=hoffs i fs[i] (by simp [hi]);simp;omega
   obtain ⟨L,hL,hL2⟩:=U5 hex;refine ⟨L.flatten,.struct fs L hu hL (fun i f x hf' hx'=>(hL2 i x hx' f hf').1),?_⟩;have:=Ci (w:=w) (imm:=imm) (fs:=fs.toList) (xss:=L) hp2 hc (by simpa using hL) (fun i f x hf' hx'=>(hL2 i x hx' f (by simpa using hf')).2);simpa using this
  ·rename_i k e hu;simp only [QA,memNat_iff,beq_iff_eq] at hp;obtain ⟨hp1,hp2⟩:=hp;obtain ⟨xs,n,hn,hx,hc,hl,hf⟩:=DataW.trod_array hu h;cases hn;simp only [Prod.mk.injEq] at hx;obtain ⟨rfl,rfl⟩:=hx;rw [bk.agg] at hb;have hex:∀i,i<k->∃x:List AV,WT P B e x/\Cells w imm x ((cs.drop (i*P.cellsOf e)).take (P.cellsOf e))/\x.length=P.cellsOf e:=by
    intro i hi;have hh:=hf i hi;have hi':i<xs.length:=by omega
    rw [Qa hi'] at hh;have hm:bk.one (xs[i]).1<=bk.all (xs.map (·.1)):=bk.mem (vZ.2 ⟨_,Qd hi',rfl⟩);obtain ⟨ys,k1,k2⟩:=ih e _ (xs[i]).1 (xs[i]).2 hp1 hh (by omega);refine ⟨ys,k1,k2,?_⟩;rw [k2.1];have:(i+1)*P.cellsOf e<=k*P.cellsOf e:=Qh _ hi;rw [cG] at this;simp;omega
   obtain ⟨L,hL,hL2⟩:=U5 hex;refine ⟨L.flatten,.array k L hu hL ?_,?_⟩
   ·intro x hx';obtain ⟨i,hi,hxi⟩:=List.getElem_of_mem hx';exact (hL2 i x (by rw [<- hxi];exact Qa hi)).1
   ·have:=XZ (w:=w) (imm:=imm) (cs:=cs) (z:=P.cellsOf e) (xss:=L) (k:=0) (by rw [hc,hp2,hL];simp) (fun i x hx'=>by
     have:=hL2 i x hx';rw [CU];exact this.2)
    simpa using this
  ·cases hp
theorem Ia (bk:BulkFn H) {ts:List TypeId} (hts:CN P ts=true) (himm:∀b i,imm b i) {t:TypeId} {v:Value} {d:DataW H} {ps:List MemPlace} {r:Reach} {b0:Nat}
  (hval:Value.okWide P w r b0 t v) (ht:t∈ts) (h:DataW.Trod enc P w base spare held t v d ps) (hb:bk.one d<=B):∃a,WTV P B t a/\VRD w imm a v:=by
 obtain ⟨fuel,h⟩:=h;obtain ⟨xs,h1,h2⟩:=Gg (imm:=imm) bk hts himm fuel t _ d ps ht h hb;unfold WTV;have hcell:∀cs,Cell.okWide P w r b0 t (.agg cs)->mH P t=true:=by
  intro cs hc;have hp:=hts;simp only [CN,Qo] at hp;have hp:=hp t ht;unfold Cell.okWide Cell.ok at hc;split at hp<;>rename_i hu<;>(try simp [hu] at hc)<;>(try simp [mH,hu])
 unfold Value.okWide at hval;split at hval
 ·rename_i hu;obtain ⟨cs,rfl,_,_⟩:=hval;have hag:mH P t=true:=by unfold mH;rw [hu]
  simp only [hag,if_true];refine ⟨.agg xs,⟨xs,rfl,h1⟩,.agg xs cs (by simpa [Value.cells] using h2.1) (fun v hv=>?_) (fun i x v hx hv=>(h2.2 i x v hx (by simpa [Value.cells] using hv)).1)⟩;obtain ⟨i,hi,hiv⟩:=Array.getElem_of_mem hv;have hi':i<xs.length:=by rw [h2.1];simpa [Value.cells] using hi
  exact (h2.2 i xs[i] v (Qa hi') (by simp [Value.cells,hi,hiv])).2
 ·rename_i hu;obtain ⟨cs,rfl,_,_⟩:=hval;have hag:mH P t=true:=by unfold mH;rw [hu]
  simp only [hag,if_true];refine ⟨.agg xs,⟨xs,rfl,h1⟩,.agg xs cs (by simpa [Value.cells] using h2.1) (fun v hv=>?_) (fun i x v hx hv=>(h2.2 i x v hx (by simpa [Value.cells] using hv)).1)⟩;obtain ⟨i,hi,hiv⟩:=Array.getElem_of_mem hv;have hi':i<xs.length:=by rw [h2.1];simpa [Value.cells] using hi
  exact (h2.2 i xs[i] v (Qa hi') (by simp [Value.cells,hi,hiv])).2
 ·rename_i hn1 hn2;have hnag:mH P t=false:=by
   unfold mH;split
   ·rename_i fs hu;exact absurd hu (hn1 fs)
   ·rename_i n e hu;exact absurd hu (hn2 n e)
   ·rfl
  have hv:v.cells.toList=[v]:=by
   cases v with
   | agg cs=>have:=hcell cs hval;rw [hnag] at this;cases this
   | _=>rfl
  rw [hv] at h2;obtain ⟨x,rfl⟩:∃x,xs=[x]:=by
   match xs,h2.1 with
   | [x],_=>exact ⟨x,rfl⟩
  simp only [hnag,eM,if_false];exact ⟨x,h1,(h2.2 0 x v rfl rfl).1⟩
def WTVs (P:Program) (B:Nat):List TypeId->List AV->Prop
 | [],[]=>True
 | t::ts,a::as=>WTV P B t a/\WTVs P B ts as
 | _,_=>False
theorem YY (bk:BulkFn H) {ts:List TypeId} (hts:CN P ts=true) (himm:∀b i,imm b i) {r:Reach} {b0:Nat}:∀{ps:List TypeId} {vs:List Value} {ds:List (DataW H)} {pl:List MemPlace},
  (∀(j:Nat) t v,ps[j]? =some t->vs[j]? =some v->Value.okWide P w r b0 t v)->(∀t∈ps,t∈ts)->DataW.TrodAll enc P w base spare held ps vs ds pl->bk.all ds<=B->
  ∃as,WTVs P B ps as/\as.length=vs.length/\∀(i:Nat) x v,as[i]? =some x->vs[i]? =some v->VRD w imm x v
 | [],_,_,_,_,_,h,_=>by
  obtain ⟨rfl,rfl,rfl⟩:=trodAll_nil h;exact ⟨[],trivial,rfl,fun i x v hx=>by simp at hx⟩
 | t::ps,_,_,_,hv,hm,h,hb=>by
  obtain ⟨v,vs,d,ds,p,q,rfl,rfl,rfl,h1,h2⟩:=trodAll_cons h;rw [bk.cons] at hb;obtain ⟨a,k1,k2⟩:=Ia (B:=B) (imm:=imm) bk hts himm (hv 0 t v rfl rfl) (hm t (by simp)) h1 (by omega);obtain ⟨as,m1,m2,m3⟩:=YY bk hts himm (fun j t' v' ht hv'=>hv (j+1) t' v' (by simpa using ht) (by simpa using hv')) (fun t' ht'=>hm t' (by simp [ht'])) h2 (by omega);refine ⟨a::as,⟨k1,m1⟩,by simp [m2],?_⟩;intro i x u hx hu;cases i with
  | zero=>simp at hx hu;subst hx;subst hu;exact k2
  | succ i=>exact m3 i x u (by simpa using hx) (by simpa using hu)
theorem Cd {M:Nat->Nat->Prop} {w w':World} (h:Ext M w w') (hM:∀b i,¬M b i):Below w.heap.size w w':=
 ⟨h.os,h.tape,h.output,h.size,fun k hk=>h.still hM k hk⟩
theorem XT {W W':World} (hl:laidOutB P=true) (hb:Below W.heap.size W W'):∀{ps:List TypeId} {vs:List Value} {ds:List (DataW H)} {pl:List MemPlace},
  (∀t∈ps,P.readableRec t=true/\t<P.types.size)->DataW.TrodAll enc P W 0 (fun _=>true) true ps vs ds pl->(∀x∈pl,x.block<W.heap.size)->∀sp:Nat->Bool,(∀x∈pl,sp x.block=true)->DataW.TrodAll enc P W' 0 sp true ps vs ds pl
 | [],_,_,_,_,h,_,_,_=>by
  obtain ⟨rfl,rfl,rfl⟩:=trodAll_nil h;exact trodAll_mk0
 | t::ps,_,_,_,hr,h,hlt,sp,hsp=>by
  obtain ⟨v,vs,d,ds,p,q,rfl,rfl,rfl,h1,h2⟩:=trodAll_cons h;obtain ⟨r1,r2⟩:=hr t (by simp);refine ⟨p,q,?_,XT hl hb (fun t' ht'=>hr t' (by simp [ht'])) h2 (fun x hx=>hlt x (by simp [hx])) sp (fun x hx=>hsp x (by simp [hx])),rfl⟩;exact WideElems.Trod_stays hl r1 r2 h1 (fun x hx=>hb.same (hlt x (by simp [hx]))) (fun x hx=>hsp x (by simp [hx]))
theorem Hg {A:Ann} {Φ:FuncId->Option AFun} (T:TableOk P A Φ) (hl:laidOutB P=true) {f:FuncId} {fn:Func} {s:ChangeSpec} {tb:TypeId} (hv:s.vars=[])
    (hrt:fn.resultTypes= #[tb]) (htb:P.underlying tb=some .bool) (hread:∀t∈fn.params.toList,P.readableRec t=true/\t<P.types.size)
    (bk:BulkFn H) {ts:List TypeId} (hts:CN P ts=true) (hpts:∀t∈fn.params.toList,t∈ts)
    {W:World} {b0:Nat} {args:Array Value} {ds gs:List (DataW H)} {before:List MemPlace} {apart:Bool}
    (hval:∀(j:Nat) t v,fn.params[j]? =some t->args[j]? =some v->Value.okWide P W .any b0 t v)
    (hW:DataW.Whole enc P fn.params.toList s.vars apart W args.toList ds gs before)
    (hfn:(s.fn H (ds++gs))={ results:=[.lit (.bool true)],args:=ds }) (hb:bk.all ds<=B)
    (law:∀as,WTVs P B fn.params.toList as->∃H',bA Φ f as H0=some (.val (.bool true),H')) {fresh handsOn again:Bool}:
    Calls P f args W fun e W'=>∃v,e= .returned v/\s.post enc P fn apart fresh handsOn again W args v W':=by
  have hW':=hW;obtain ⟨p,q,hA,hV,rfl,hfz,hnd⟩:=hW;rw [hv] at hV;obtain ⟨rfl,rfl⟩:=trodVars_none hV;have himm:∀b i,Imm (fun _ _=>False) (fun _=>none) H0 b i:=fun b i=>⟨iS,fun h=>h⟩
  obtain ⟨as,h1,h2,h3⟩:=YY (imm:=Imm (fun _ _=>False) (fun _=>none) H0) bk hts himm (ps:=fn.params.toList) (vs:=args.toList)
    (fun j t v ht hv=>hval j t v (by simpa using ht) (by simpa using hv)) hpts hA hb
  obtain ⟨H',hc⟩:=law as h1;obtain ⟨n,hn⟩:=Ek Φ hc;have hr0:HR (fun _ _=>False) 0 W (fun _=>none) H0:=⟨Qc _,fun _ _ h=>h.elim,trivial,fun _ _=>rfl,(fun _ _ _ _ _ _ _ h=>by cases h),(fun _ _ h=>by cases h)⟩;refine ((Z8 T n).runs f as H0 _ _ hn (fun _ _=>False) 0 W (fun _=>none) args hr0 ⟨by simpa using h2,fun i x v hx hv=> .d (h3 i x v hx (by simpa using hv))⟩).mono ?_;intro e W' hok;cases e with
  | panicked c=>obtain ⟨x,u,hx,_⟩:=hok;cases hx
  | outgrown=>exact hok.elim
  | returned v=>
    obtain ⟨x,hx,Z',htr,hr',hvr⟩:=hok;cases hx;have hvb:v= .bool true:=by
      cases hvr with
      | d h=>cases h;rfl
      | l h=>exact h.elim
    subst hvb;have hbl:Below W.heap.size W W':=Cd htr.ext (fun b i=>iS);refine ⟨_,rfl,?_⟩;have hlt:∀x∈p++[],x.block<W.heap.size:=fun x hx=>hW'.lt x hx
    have hltp:∀x∈p,x.block<W.heap.size:=fun x hx=>hlt x (by simp [hx])
    have hres:∀(b:Nat) (sp:Nat->Bool) (hd:Bool),DataW.TrodAll enc P W' b sp hd fn.resultTypes.toList ((Value.bool true).resultList fn.resultTypes.size) (s.fn H (ds++[])).results []:=by
      intro b sp hd;rw [hfn,hrt];exact trodAll_mk1 (shut_bool htb true)
    have hargs:∀sp:Nat->Bool,(∀x∈p++[],sp x.block=true)->DataW.TrodAll enc P W' 0 sp true fn.params.toList args.toList (s.fn H (ds++[])).args p:=by
      intro sp hsp;rw [hfn];exact XT hl hbl hread hA hltp sp (fun x hx=>hsp x (by simp [hx]))
    have hvars:∀sp:Nat->Bool,(∀x∈p++[],sp x.block=true)->DataW.TrodVars enc P W' sp s.vars (s.fn H (ds++[])).vars []:=by
      intro sp _;rw [hfn,hv];exact rfl
    have hold:∀x∈p++[],(fun b=>decide (b<W.heap.size)) x.block=true:=fun x hx=>by simpa using hlt x hx
    refine ⟨ds,[],p++[],[],p,[],hW',hres _ _ _,hargs _ hold,hvars _ hold,hbl.frame _,fun _=>?_⟩;refine ⟨ok_one hrt rfl (okWide_bool_mk htb true),_,_,([]++p)++[],⟨[]++p,[],trodAll_append (hargs _ (fun _ _=>rfl)) (hres _ _ _),hvars _ (fun _ _=>rfl),rfl,?_,?_⟩,?_⟩
    · intro b off hp
      have hp':MemPlace.cell b off∈p:=by simpa using hp
      rw [hbl.frozen (hltp _ hp')];exact hfz b off (by simpa using hp')
    · intro ha
      simpa using hnd ha
    · intro x hx _
      simpa using hx
end
attribute [irreducible] WTV
end Go.Av
namespace Go.Av
def cI (x:Int):List AV:=[.int .i64 x]
def cB (x:Bool):List AV:=[.bool x]
def cStr (x:List UInt8):List AV:=[.str x]
def c8 (x:Int):List AV:=[.int .u8 x]
def c32 (x:Int):List AV:=[.int .u32 x]
def c64 (x:Int):List AV:=[.int .u64 x]
def cS {U:Type} (z:Nat) (f:U->List AV) (l:List U):List AV:=[.slice z (l.map f)]
def okI (_:Nat) (x:Int):Prop:= -9223372036854775808<=x/\x<=9223372036854775807
def ok8 (_:Nat) (x:Int):Prop:=0<=x/\x<=255
def ok32 (_:Nat) (x:Int):Prop:=0<=x/\x<=4294967295
def ok64 (_:Nat) (x:Int):Prop:=0<=x/\x<=18446744073709551615
def okStr (B:Nat) (x:List UInt8):Prop:=x.length<=B
def okT {U:Type} (_:Nat) (_:U):Prop:=True
def okL {U:Type} (B:Nat) (ok:U->Prop) (l:List U):Prop:=l.length<=B/\∀x∈l,ok x
def Rd {U:Type} (P:Program) (B:Nat) (t:TypeId) (c:U->List AV) (ok:U->Prop):Prop:=∀xs,WT P B t xs->∃x,xs=c x/\ok x
def RdF {U:Type} (P:Program) (B:Nat) (fs:List Go.Field) (c:U->List AV) (ok:U->Prop):Prop:=
 ∀xss:List (List AV),xss.length=fs.length->(∀(i:Nat) f x,fs[i]? =some f->xss[i]? =some x->WT P B f.type x)->∃y,xss.flatten=c y/\ok y
theorem Rd.o {P:Program} {B:Nat} {f:Go.Field} {U:Type} {c:U->List AV} {ok:U->Prop} (h:Rd P B f.type c ok):RdF P B [f] c ok:=by
 intro xss hl hh
 match xss,hl,hh with
 | [a],_,hh=>
  obtain ⟨y,rfl,o⟩:=h a (hh 0 _ _ rfl rfl);exact ⟨y,by simp,o⟩
theorem Rd.q {P:Program} {B:Nat} {f:Go.Field} {fs:List Go.Field} {U Z:Type} {c:U->List AV} {ok:U->Prop} {c':Z->List AV} {ok':Z->Prop} (h:Rd P B f.type c ok) (r:RdF P B fs c' ok'):
  RdF P B (f::fs) (fun y:U×Z=>c y.1++c' y.2) (fun y=>ok y.1/\ok' y.2):=by
 intro xss hl hh
 match xss,hl,hh with
 | a::l,hl,hh=>
  obtain ⟨y,rfl,o⟩:=h a (hh 0 _ _ rfl rfl);obtain ⟨z,hz,o'⟩:=r l (by simpa using hl) fun i f x h1 h2=>hh (i+1) f x (by simpa using h1) (by simpa using h2)
  exact ⟨(y,z),by simp [hz],o,o'⟩
section
variable {P:Program} {B:Nat} {t:TypeId}
theorem Hq {fs:Array Go.Field} (hu:P.underlying t=some (.struct fs)) {xs:List AV} (h:WT P B t xs):
  ∃xss:List (List AV),xs=xss.flatten/\xss.length=fs.size/\∀(i:Nat) f x,fs[i]? =some f->xss[i]? =some x->WT P B f.type x:=by
 cases h with
 | struct fs' xss h h1 h2=>rw [hu] at h;cases h;exact ⟨xss,rfl,h1,h2⟩
 | _=>simp_all
theorem Rd.st {fs:List Go.Field} {U Z:Type} {c:U->List AV} {ok:U->Prop} {c':Z->List AV} {ok':Z->Prop} (hu:P.underlying t=some (.struct fs.toArray)) (r:RdF P B fs c' ok') (h:∀y,ok' y->∃x,c' y=c x/\ok x):Rd P B t c ok:=by
 intro xs hx;obtain ⟨xss,rfl,hl,hh⟩:=Hq hu hx;obtain ⟨y,h1,h2⟩:=r xss (by simpa using hl) fun i f x k1 k2=>hh i f x (by simpa using k1) k2
 obtain ⟨x,h3,h4⟩:=h y h2;exact ⟨x,h1.trans h3,h4⟩
theorem Jo (hu:P.underlying t=some .bool):Rd P B t cB (okT B):=by
 intro xs h;cases h with
 | bool b h=>exact ⟨b,rfl,trivial⟩
 | _=>simp_all
theorem Mu {k:IntKind} (hu:P.underlying t=some (.int k)) {xs:List AV} (h:WT P B t xs):∃v,xs=[.int k v]/\k.min<=v/\v<=k.max:=by
 cases h with
 | int k' v h h1 h2=>rw [hu] at h;cases h;exact ⟨v,rfl,h1,h2⟩
 | _=>simp_all
theorem Lr (hu:P.underlying t=some (.int .u64)):Rd P B t c64 (ok64 B):=by
 intro xs h;obtain ⟨v,rfl,h1,h2⟩:=Mu hu h;exact ⟨v,rfl,h1,h2⟩
theorem ZE {U:Type} {c:U->List AV} {ok:U->Prop}:∀{es:List (List AV)},(∀x∈es,∃y,x=c y/\ok y)->∃l:List U,es=l.map c/\∀y∈l,ok y
 | [],_=>⟨[],rfl,by simp⟩
 | e::es,h=>by
  obtain ⟨y,rfl,h1⟩:=h e (by simp);obtain ⟨l,rfl,h2⟩:=ZE (es:=es) (fun x hx=>h x (by simp [hx]));refine ⟨y::l,rfl,?_⟩;intro z hz;rcases lW.1 hz with rfl | hz
  ·exact h1
  ·exact h2 z hz
theorem Js {e:TypeId} (hu:P.underlying t=some (.slice e)) {xs:List AV} (h:WT P B t xs):∃es,xs=[.slice (P.cellsOf e) es]/\es.length<=B/\∀x∈es,WT P B e x:=by
 cases h with
 | slice es h h1 h2=>rw [hu] at h;cases h;exact ⟨es,rfl,h1,h2⟩
 | _=>simp_all
theorem Iv {U:Type} {e:TypeId} {c:U->List AV} {ok:U->Prop} {z:Nat} (hu:P.underlying t=some (.slice e)) (hz:P.cellsOf e=z) (he:Rd P B e c ok):Rd P B t (cS z c) (okL B ok):=by
 intro xs h;obtain ⟨es,rfl,h1,h2⟩:=Js hu h;obtain ⟨l,rfl,h3⟩:=ZE fun x hx=>he x (h2 x hx)
 exact ⟨l,by rw [hz];rfl,by simpa using h1,h3⟩
end
@[ext] structure Packet where
 port:Int
 data:List Int
 deriving DecidableEq,Inhabited
def Packet.c (x:Packet):List AV:=[.int .i64 x.port,.slice 1 (x.data.map c8)]
@[simp] theorem Packet.c_length (x:Packet):(Packet.c x).length=2:=by simp [Packet.c]
def Packet.Ok (B:Nat) (x:Packet):Prop:=okI B x.port/\okL B (ok8 B) x.data
theorem Packet.rd {P:Go.Program} {B:Nat} {t:TypeId} {f0 f1:Go.Field} (hu:P.underlying t=some (.struct #[f0,f1])) (h0:Rd P B f0.type cI (okI B)) (h1:Rd P B f1.type (cS 1 c8) (okL B (ok8 B))):Rd P B t Packet.c (Packet.Ok B):=
 .st hu (h0.q h1.o) fun ⟨a,b⟩ h=>⟨⟨a,b⟩,by simp [Packet.c,cI,cS],h⟩
@[ext] structure Cube where
 value:Int
 Xd:Int
 deriving DecidableEq,Inhabited
def Cube.c (x:Cube):List AV:=[.int .u64 x.value,.int .u64 x.Xd]
@[simp] theorem Cube.c_length (x:Cube):(Cube.c x).length=2:=by simp [Cube.c]
def Cube.Ok (B:Nat) (x:Cube):Prop:=ok64 B x.value/\ok64 B x.Xd
theorem Cube.rd {P:Go.Program} {B:Nat} {t:TypeId} {f0 f1:Go.Field} (hu:P.underlying t=some (.struct #[f0,f1])) (h0:Rd P B f0.type c64 (ok64 B)) (h1:Rd P B f1.type c64 (ok64 B)):Rd P B t Cube.c (Cube.Ok B):=
 .st hu (h0.q h1.o) fun ⟨a,b⟩ h=>⟨⟨a,b⟩,by simp [Cube.c,c64],h⟩
end Go.Av
namespace Go.Av
open Go.ChangeShapes Go.WideShapes Go.ChangeAt Go.RowKit
def mD:Nat:=1048576
theorem Eh:mD=1048576:=rfl
theorem Ee {n:Nat} (h:n<=1048576):n<=mD:=h
theorem UT {U:Type} {t:Nat} {x:U}:∀{l:List (Nat×U)},look t l=some x->(t,x)∈l
 | [],h=>by cases h
 | (u,y)::r,h=>by
  simp only [look] at h;split at h
  ·rename_i hu;subst hu;cases h;simp
  ·exact wI _ (UT h)
theorem Hy {P:Program} {A:Ann} {tab:List (Nat×AFn)} (h:tab.map (fun p=>cFn P A p.1)=tab.map (fun p=>some p.2)) {f:FuncId} {fn:AFn} (hf:(f,fn)∈tab):cFn P A f=some fn:=by
 have:=FN.1 h (f,fn) hf;exact this
def wA (P:Program) (f:FuncId):Bool:=match P.funcs[f]? with
 | some fn => !fn.body.isNone && !(fn.name == "runtime.NumGoroutine")
 | none=>false
def NZ (tab:List (Nat×AFn)) (tabD:List (Nat×ADFn)) (f:FuncId):Option AFun:=match look f tab with
 | some fn=>some (.code fn)
 | none=>(look f tabD).map .dfr
theorem NL {P:Program} {f:FuncId} (h:wA P f=true):w7 P f:=by
 unfold wA at h;split at h
 ·rename_i fd hfd;simp only [QA,jK] at h;exact ⟨fd,hfd,h.1,h.2⟩
 ·cases h
theorem Gd {P:Program} {A:Ann} {tab:List (Nat×AFn)} {tabD:List (Nat×ADFn)} (hm:P.follows .mixedOrders=true) (h:tab.map (fun p=>cFn P A p.1)=tab.map (fun p=>some p.2)) (hb:tab.all (fun p=>wA P p.1)=true)
  (hd:tabD.map (fun p=>cDFn P A p.1 p.2.clo)=tabD.map (fun p=>some p.2)) (hbd:tabD.all (fun p=>wA P p.1&&wA P p.2.clo)=true):TableOk P A (NZ tab tabD):=by
 have cases':∀f af,NZ tab tabD f=some af->(∃fn,af= .code fn/\(f,fn)∈tab)\/(∃d,af= .dfr d/\(f,d)∈tabD):=by
  intro f af hf;unfold NZ at hf;split at hf
  ·rename_i fn hl;cases hf;exact .inl ⟨fn,rfl,UT hl⟩
  ·rw [Qp] at hf;obtain ⟨d,hl,rfl⟩:=hf;exact .inr ⟨d,rfl,UT hl⟩
 refine ⟨hm,?_,?_,?_,?_,?_⟩
 ·intro f af hf;rcases cases' f af hf with ⟨fn,rfl,hl⟩ | ⟨d,rfl,hl⟩
  ·exact NL (Qo.1 hb _ hl)
  ·have:=Qo.1 hbd _ hl;simp only [QA] at this;exact NL this.1
 ·intro f fn hf;rcases cases' f _ hf with ⟨fn,h1,hl⟩ | ⟨d,h1,hl⟩
  ·cases h1;exact Hy h hl
  ·cases h1
 ·intro f r hf;rcases cases' f _ hf with ⟨fn,h1,hl⟩ | ⟨d,h1,hl⟩<;>cases h1
 ·intro f d hf;rcases cases' f _ hf with ⟨fn,h1,hl⟩ | ⟨d,h1,hl⟩
  ·cases h1
  ·cases h1;have h2:=FN.1 hd _ hl;have h3:=Qo.1 hbd _ hl;simp only [QA] at h3;exact ⟨h2,NL h3.2⟩
 ·intro f g hf;rcases cases' f _ hf with ⟨fn,h1,hl⟩ | ⟨d,h1,hl⟩<;>cases h1
structure CloneD where
 f:Nat
 z:Nat
 bytes:Nat
 m:SM
 deriving Inhabited
def RI (f:Nat):List CloneD->Option CloneD
 | []=>none
 | c::r=>if c.f=f then some c else RI f r
theorem ZF {f:Nat} {c:CloneD}:∀{l:List CloneD},RI f l=some c->c∈l/\c.f=f
 | [],h=>by cases h
 | d::r,h=>by
  simp only [RI] at h;split at h
  ·rename_i hd;cases h;exact ⟨FL,hd⟩
  ·obtain ⟨h1,h2⟩:=ZF h;exact ⟨wI _ h1,h2⟩
def FE (tab:List (Nat×AFn)) (tabD:List (Nat×ADFn)) (tabC:List CloneD) (f:FuncId):Option AFun:=match look f tab with
 | some fn=>some (.code fn)
 | none=>match look f tabD with
  | some d=>some (.dfr d)
  | none=>(RI f tabC).map fun c=> .rule (R4 c.z c.bytes c.m)
theorem Gf {P:Program} {A:Ann} {tab:List (Nat×AFn)} {tabD:List (Nat×ADFn)} {tabC:List CloneD} (hm:P.follows .mixedOrders=true) (h:tab.map (fun p=>cFn P A p.1)=tab.map (fun p=>some p.2)) (hb:tab.all (fun p=>wA P p.1)=true)
  (hd:tabD.map (fun p=>cDFn P A p.1 p.2.clo)=tabD.map (fun p=>some p.2)) (hbd:tabD.all (fun p=>wA P p.1&&wA P p.2.clo)=true)
  (hc1:tabC.map (fun c=>CG P (annC c.m false) (annC c.m true) c.f)=tabC.map (fun c=>some (mV c.z c.bytes c.m)))
  (hc2:tabC.map (fun c=>CG P (annC .app false) (annC .app true) c.f)=tabC.map (fun c=>some (mV c.z c.bytes .app))) (hbc:tabC.all (fun c=>wA P c.f)=true):TableOk P A (FE tab tabD tabC):=by
 have T:=Gd hm h hb hd hbd;have cases':∀f af,FE tab tabD tabC f=some af->NZ tab tabD f=some af\/∃c,c∈tabC/\c.f=f/\af= .rule (R4 c.z c.bytes c.m):=by
  intro f af hf;unfold FE at hf;unfold NZ;cases h1:look f tab with
  | some fn=>rw [h1] at hf;exact .inl hf
  | none=>
   rw [h1] at hf;cases h2:look f tabD with
   | some d=>rw [h2] at hf;exact .inl hf
   | none=>
    rw [h2] at hf;simp only [Qp] at hf;obtain ⟨c,hc,rfl⟩:=hf;obtain ⟨k1,k2⟩:=ZF hc;exact .inr ⟨c,k1,k2,rfl⟩
 refine ⟨hm,?_,?_,?_,?_,?_⟩
 ·intro f af hf;rcases cases' f af hf with hf | ⟨c,hc,rfl,rfl⟩
  ·exact T.body f af hf
  ·exact NL (Qo.1 hbc _ hc)
 ·intro f fn hf;rcases cases' f _ hf with hf | ⟨c,hc,rfl,h⟩
  ·exact T.code f fn hf
  ·cases h
 ·intro f r hf;rcases cases' f _ hf with hf | ⟨c,hc,rfl,h⟩
  ·exact T.rng f r hf
  ·cases h
 ·intro f d hf;rcases cases' f _ hf with hf | ⟨c,hc,rfl,h⟩
  ·exact T.dfr f d hf
  ·cases h
 ·intro f g hf;rcases cases' f _ hf with hf | ⟨c,hc,rfl,h⟩
  ·exact T.rule f g hf
  ·cases h;intro call hcall as H r H' hev F B0 w Z vs hr ha;exact Cl hm (FN.1 hc1 _ hc) (FN.1 hc2 _ hc) hcall hev hr ha
structure RngD where
 f:Nat
 it:Nat
 Y:List Nat
 r:ARFn
 deriving Inhabited
def RJ (f:Nat):List RngD->Option RngD
 | []=>none
 | c::r=>if c.f=f then some c else RJ f r
theorem ZG {f:Nat} {c:RngD}:∀{l:List RngD},RJ f l=some c->c∈l/\c.f=f
 | [],h=>by cases h
 | d::r,h=>by
  simp only [RJ] at h;split at h
  ·rename_i hd;cases h;exact ⟨FL,hd⟩
  ·obtain ⟨h1,h2⟩:=ZG h;exact ⟨wI _ h1,h2⟩
def RM (tab:List (Nat×AFn)) (tabD:List (Nat×ADFn)) (tabC:List CloneD) (tabR:List RngD) (f:FuncId):Option AFun:=match FE tab tabD tabC f with
 | some x=>some x
 | none=>(RJ f tabR).map fun d=> .rng d.r
theorem Ge {P:Program} {A:Ann} {tab:List (Nat×AFn)} {tabD:List (Nat×ADFn)} {tabC:List CloneD} {tabR:List RngD} (T:TableOk P A (FE tab tabD tabC))
  (hr:tabR.map (fun d=>cRFn P A d.f d.it d.Y)=tabR.map (fun d=>some d.r)) (hb:tabR.all (fun d=>wA P d.f)=true):TableOk P A (RM tab tabD tabC tabR):=by
 have cases':∀f af,RM tab tabD tabC tabR f=some af->FE tab tabD tabC f=some af\/∃d,d∈tabR/\d.f=f/\af= .rng d.r:=by
  intro f af hf;unfold RM at hf;split at hf
  ·rename_i x hx;cases hf;exact .inl hx
  ·rw [Qp] at hf;obtain ⟨d,hd,rfl⟩:=hf;obtain ⟨k1,k2⟩:=ZG hd;exact .inr ⟨d,k1,k2,rfl⟩
 refine ⟨T.mixed,?_,?_,?_,?_,?_⟩
 ·intro f af hf;rcases cases' f af hf with hf | ⟨c,hc,rfl,rfl⟩
  ·exact T.body f af hf
  ·exact NL (Qo.1 hb _ hc)
 ·intro f fn hf;rcases cases' f _ hf with hf | ⟨c,hc,rfl,h⟩
  ·exact T.code f fn hf
  ·cases h
 ·intro f r hf;rcases cases' f _ hf with hf | ⟨c,hc,rfl,h⟩
  ·exact T.rng f r hf
  ·cases h;exact ⟨c.it,c.Y,FN.1 hr _ hc⟩
 ·intro f d hf;rcases cases' f _ hf with hf | ⟨c,hc,rfl,h⟩
  ·exact T.dfr f d hf
  ·cases h
 ·intro f g hf;rcases cases' f _ hf with hf | ⟨c,hc,rfl,h⟩
  ·exact T.rule f g hf
  ·cases h
theorem Cx {n:Nat} {H:AH} {v:AV} {b:Bool} (h:snap n H v=some (.bool b)):v= .bool b:=by
 cases n with
 | zero=>cases h
 | succ n=>
  cases v with
  | bool b'=>cases h;rfl
  | agg cs=>simp only [snap,Qp] at h;obtain ⟨_,_,hh⟩:=h;cases hh
  | tup cs=>simp only [snap,Qp] at h;obtain ⟨_,_,hh⟩:=h;cases hh
  | iface t v=>simp only [snap,Qp] at h;obtain ⟨_,_,hh⟩:=h;cases hh
  | func fn a c=>
   simp only [snap] at h;split at h
   ·cases h
   ·simp only [Qp] at h;obtain ⟨_,_,hh⟩:=h;cases hh
  | ptr id z i off=>
   simp only [snap] at h;split at h
   ·split at h
    ·simp only [Qp] at h;obtain ⟨_,_,hh⟩:=h;cases hh
    ·cases h
   ·cases h
  | row id z off len=>
   simp only [snap] at h;split at h
   ·split at h
    ·simp only [Qp] at h;obtain ⟨_,_,hh⟩:=h;cases hh
    ·cases h
   ·cases h
  | _=>cases h
theorem Bs {Φ:FuncId->Option AFun} {f:FuncId} {as:List AV} {b:Bool} (h:dK Φ f as=some (.val (.bool b))):∃H',bA Φ f as H0=some (.val (.bool b),H'):=by
 unfold dK at h;cases hc:bA Φ f as H0 with
 | none=>rw [hc] at h;cases h
 | some p=>
  obtain ⟨r,H'⟩:=p;rw [hc] at h;refine ⟨H',?_⟩;cases r with
  | pan r=>
   simp only [z8] at h;split at h<;>cases h
  | val r=>
   simp only [z8] at h;split at h
   ·rename_i r' hr;cases h;rw [Cx hr]
   ·cases h
theorem Y6 {Φ:FuncId->Option AFun} {f:FuncId} {as:List AV} {n:Nat} {b:Bool} (h:(evF Φ n f as H0).map (·.1)=some (.val (.bool b))):dK Φ f as=some (.val (.bool b)):=by
 rw [Qp] at h;obtain ⟨⟨r,H'⟩,h1,h2⟩:=h;simp only at h2;subst h2;unfold dK;rw [ZU Φ h1];rfl
theorem VA {U:Type} {P:Program} {B:Nat} {t:TypeId} {v:AV} {c:U->List AV} {ok:U->Prop} (h:WTV P B t v) (hu:mH P t=false) (hr:∀xs,WT P B t xs->∃x,xs=c x/\ok x):∃x,[v]=c x/\ok x:=by
 unfold WTV at h;rw [a8 (by rw [hu];simp)] at h;exact hr _ h
theorem UI {P:Program} {B:Nat} {t:TypeId} {ts:List TypeId} {vs:List AV} (h:WTVs P B (t::ts) vs):∃a r,vs=a::r/\WTV P B t a/\WTVs P B ts r:=by
 cases vs with
 | nil=>exact h.elim
 | cons a r=>exact ⟨a,r,rfl,h.1,h.2⟩
theorem Jt {P:Program} {B:Nat} {vs:List AV} (h:WTVs P B [] vs):vs=[]:=by
 cases vs with
 | nil=>rfl
 | cons a r=>exact h.elim
section
variable {H:Type} {enc:TypeId×Value->H} {P:Program} {B:Nat}
theorem Fu {A:Ann} {Φ:FuncId->Option AFun} (T:TableOk P A Φ) (hl:laidOutB P=true) {f:FuncId} {fn:Func} {s:ChangeSpec} {tb:TypeId} (hv:s.vars=[])
    (hrt:fn.resultTypes= #[tb]) (htb:P.underlying tb=some .bool) (hread:fn.params.toList.all (fun t=>P.readableRec t&&decide (t<P.types.size))=true)
    (bk:BulkFn H) {ts:List TypeId} (hts:CN P ts=true) (hpts:fn.params.toList.all (fun t=>fH t ts)=true)
    {W:World} {b0:Nat} {args:Array Value} {ds gs:List (DataW H)} {before:List MemPlace} {apart:Bool}
    (hval:∀(j:Nat) t v,fn.params[j]? =some t->args[j]? =some v->Value.okWide P W .any b0 t v)
    (hW:DataW.Whole enc P fn.params.toList s.vars apart W args.toList ds gs before)
    (hfn:∀l:List (DataW H),l.length=fn.params.size->s.fn H l={ results:=[.lit (.bool true)],args:=l }) (hb:bk.all (ds++gs)<=B)
    (law:∀as,WTVs P B fn.params.toList as->dK Φ f as=some (.val (.bool true))) {fresh handsOn again:Bool}:
    Calls P f args W fun e W'=>∃v,e= .returned v/\s.post enc P fn apart fresh handsOn again W args v W':=by
  have hgs:gs=[]:=by
    obtain ⟨p,q,hA,hV,_⟩:=hW;rw [hv] at hV;exact (trodVars_none hV).1
  have hdl:ds.length=fn.params.size:=by
    obtain ⟨p,q,hA,hV,_⟩:=hW;have gen:∀(ts:List TypeId) (vs:List Value) (ds:List (DataW H)) (p:List MemPlace),DataW.TrodAll enc P W 0 (fun _=>true) true ts vs ds p->ds.length=ts.length:=by
      intro ts
      induction ts with
      | nil=>intro vs ds p h;obtain ⟨rfl,rfl,rfl⟩:=trodAll_nil h;rfl
      | cons t ts ih=>
        intro vs ds p h;obtain ⟨v,vs,d,ds,p,q,rfl,rfl,rfl,h1,h2⟩:=trodAll_cons h;simp [ih _ _ _ h2]
    simpa using gen _ _ _ _ hA
  subst hgs;rw [List.append_nil] at hb;simp only [Qo,QA,decide_eq_true_eq] at hread;simp only [Qo] at hpts;exact Hg T hl hv hrt htb hread bk hts (fun t ht=>memNat_iff.1 (hpts t ht)) hval hW (by rw [List.append_nil];exact hfn ds hdl) hb (fun as has=>Bs (law as has))
end
end Go.Av
