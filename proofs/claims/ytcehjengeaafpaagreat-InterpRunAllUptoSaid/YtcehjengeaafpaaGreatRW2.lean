/-
  The reading of a law's arguments, with their size in all; the nodes of a program's control are no more.
-/
import Derived.Test.YtcehjengeaafpaaGreatK1
set_option linter.all false
namespace Go.Av
open Go.ChangeShapes Go.WideShapes Go.ChangeAt Go.RowKit
mutual
def szA:AV->Nat
  | .slice _ es=>szLL es
  | .agg xs=>szL xs
  | _=>0
def szL:List AV->Nat
  | []=>0
  | x::r=>szA x+szL r
def szLL:List (List AV)->Nat
  | []=>0
  | x::r=>szL x+1+szLL r
end
theorem Q4:∀a b:List AV,szL (a++b)=szL a+szL b
  | [],b=>by simp [szL]
  | x::a,b=>by simp only [List.cons_append,szL,Q4 a b];omega
theorem kh:∀L:List (List AV),szL L.flatten<=szLL L
  | []=>by simp [szL,szLL]
  | x::L=>by
    have:=kh L;simp only [List.flatten_cons,Q4,szLL];omega
section
variable {H:Type} {enc:TypeId×Value->H} {P:Program} {w:World} {base:Nat} {spare:Nat->Bool} {held:Bool} {imm:Nat->Nat->Prop} {B:Nat}
theorem VQ (bk:BulkFn H):∀(L:List (List AV)) (D:List (DataW H)),L.length=D.length->(∀(i:Nat) x y,L[i]? =some x->D[i]? =some y->szL x+1<=bk.one y)->szLL L<=bk.all D
  | [],[],_,_=>by simp [szLL]
  | [],_::_,h,_=>by simp at h
  | _::_,[],h,_=>by simp at h
  | x::L,y::D,h,hp=>by
    have h1:=hp 0 x y rfl rfl;have h2:=VQ bk L D (by simpa using h) fun i a b ha hb=>hp (i+1) a b (by simpa using ha) (by simpa using hb)
    rw [bk.cons];simp only [szLL];omega
theorem X0 (bk:BulkFn H) {ts:List TypeId} (hts:JX P ts=true) (himm:∀b i,imm b i):∀(fuel:Nat) (t:TypeId) (cs:List Value) (d:DataW H) (ps:List MemPlace),
    t∈ts->DataW.trod enc P w base spare held fuel t cs=some (d,ps)->bk.one d<=B->∃xs,WT P B t xs/\Cells w imm xs cs/\szL xs+1<=bk.one d:=by
  intro fuel
  induction fuel with
  | zero=>intro t cs d ps _ h;simp [DataW.trod] at h
  | succ fuel ih=>
    intro t cs d ps ht h hb;have hp:=hts;simp only [JX,List.all_eq_true] at hp;have hp:=hp t ht;split at hp
    · rename_i hu
      obtain ⟨b,rfl,hx⟩:=DataW.trod_bool hu h;exact ⟨[.bool b],.bool b hu,.one (.bool b) rfl,bk.pos _⟩
    · rename_i k hu
      obtain ⟨n,rfl,hx,hw⟩:=DataW.trod_int hu h;simp only [Lit.wf,Bool.and_eq_true,decide_eq_true_eq] at hw;exact ⟨[.int k n],.int k n hu hw.1 hw.2,.one (.int k n) rfl,bk.pos _⟩
    · rename_i hu
      obtain ⟨s,rfl,hx,hw⟩:=DataW.trod_string hu h;simp only [Prod.mk.injEq] at hx;obtain ⟨rfl,rfl⟩:=hx;rw [bk.str] at hb;refine ⟨[.str s.data.toList],.str _ hu (by omega),.one ?_ rfl,bk.pos _⟩;have:=VRD.str (w:=w) (imm:=imm) s.data.toList;simpa using this
    · rename_i e hu
      simp only [Bool.and_eq_true,memNat_iff,bne_iff_ne,ne_eq] at hp;obtain ⟨hpe,hz⟩:=hp;rcases DataW.trod_slice hu h with ⟨rfl,hx⟩ | ⟨a,len,cap,elems,rest,n,hn,rfl,hx,h1,h2,h3,h4,h5,h6,h7⟩
      · exact ⟨[.slice (P.cellsOf e) []],.slice [] hu (by simp) (by simp),.one (.slice0 _ _ _) rfl,bk.pos _⟩
      · cases hn
        simp only [Prod.mk.injEq] at hx;obtain ⟨rfl,rfl⟩:=hx;rw [bk.slice] at hb;have hlen:=bk.len (elems.map (·.1));simp only [List.length_map] at hlen;have hex:∀i,i<len->∃p:List AV×List Value,(WT P B e p.1/\Cells w imm p.1 p.2/\w.cells? base (a.add (i*P.cellsOf e)) (P.cellsOf e)=some p.2)/\∀y,elems[i]? =some y->szL p.1+1<=bk.one y.1:=by
          intro i hi;have hh:=h5 i hi;have hi':i<elems.length:=by omega
          rw [List.getElem?_eq_getElem hi'] at hh;obtain ⟨l,hl1,hl2⟩:=Option.bind_eq_some_iff.1 hh;have hm:bk.one (elems[i]).1<=bk.all (elems.map (·.1)):=bk.mem (List.mem_map.2 ⟨_,List.getElem_mem hi',rfl⟩);obtain ⟨xs,k1,k2,k3⟩:=ih e l (elems[i]).1 (elems[i]).2 hpe hl2 (by omega);exact ⟨(xs,l),⟨k1,k2,hl1⟩,fun y hy=>by rw [List.getElem?_eq_getElem hi'] at hy;cases hy;exact k3⟩
        obtain ⟨L,hL,hL3⟩:=cj hex;have hL2:=fun i p h=>(hL3 i p h).1
        have hsz:szL [.slice (P.cellsOf e) (L.map (·.1))]<=bk.all (elems.map (·.1)):=by
          simp only [szL,szA,Nat.add_zero];exact VQ bk _ _ (by simp [hL];omega) fun i x y hx hy=>by
            simp only [List.getElem?_map,Option.map_eq_some_iff] at hx hy;obtain ⟨p,hp,rfl⟩:=hx;obtain ⟨q,hq,rfl⟩:=hy;exact (hL3 i p hp).2 q hq
        refine ⟨[.slice (P.cellsOf e) (L.map (·.1))],.slice _ hu (by simp;omega) ?_,.one ?_ rfl,by rw [bk.slice];omega⟩
        · intro x hx
          obtain ⟨p,hp1,rfl⟩:=List.mem_map.1 hx;obtain ⟨i,hi,hpi⟩:=List.getElem_of_mem hp1;exact (hL2 i p (by rw [<- hpi];exact List.getElem?_eq_getElem hi)).1
        · by_cases h0:len=0
          · have:L=[]:=List.length_eq_zero_iff.1 (by omega)
            subst this;subst h0;exact .slice0 _ _ _
          · obtain ⟨p0,hp0⟩:∃p,L[0]? =some p:=⟨_,List.getElem?_eq_getElem (by omega)⟩
            obtain ⟨_,q2,q3⟩:=hL2 0 p0 hp0;obtain ⟨g1,g2⟩:=dn q3;have hspot:a.spot=none:=by
              obtain ⟨v,hv⟩:∃v,p0.2[0]? =some v:=⟨_,List.getElem?_eq_getElem (by omega)⟩;have:=g2 0 v hv;simp only [Nat.zero_mul,Addr.add,if_true] at this;unfold World.cell? at this;split at this
              · split at this
                · cases this
                · rename_i hs;simpa using hs
              · cases this
            obtain ⟨blk,off,sp⟩:=a;simp only at hspot;subst hspot;have hget:∀(i j:Nat) e' x,(L.map (·.1))[i]? =some e'->e'[j]? =some x->∃v,w.cell? ⟨blk,off+i*P.cellsOf e+j,none⟩=some v/\v.oneCell'=true/\VRD w imm x v:=by
              intro i j e' x he hx;simp only [List.getElem?_map,Option.map_eq_some_iff] at he;obtain ⟨p,hp,rfl⟩:=he;obtain ⟨_,r2,r3⟩:=hL2 i p hp;obtain ⟨s1,s2⟩:=dn r3;have hj:j<p.1.length:=(List.getElem?_eq_some_iff.1 hx).1;obtain ⟨v,hv⟩:∃v,p.2[j]? =some v:=⟨_,List.getElem?_eq_getElem (by rw [<- r2.1];exact hj)⟩;obtain ⟨t1,t2⟩:=r2.2 j x v hx hv;have:=s2 j v hv;have e1:((⟨blk,off,none⟩:Addr).add (i*P.cellsOf e)).add j=⟨blk,off+i*P.cellsOf e+j,none⟩:=by
                simp only [Addr.add];split<;>split<;>simp_all
              rw [e1] at this;exact ⟨v,this,t2,t1⟩
            have hlenm:len=(L.map (·.1)).length:=by simp [hL]
            rw [show (Value.slice (some ⟨blk,off,none⟩) len cap)=Value.slice (some ⟨blk,off,none⟩) (L.map (·.1)).length cap by rw [<- hlenm]];refine .slice _ _ blk off cap (fun i j=>(w.cell? ⟨blk,off+i*P.cellsOf e+j,none⟩).getD .nilFunc) ?_ ?_ (by omega) ?_ ?_
            · intro hc
              have:L.length=0:=by rw [List.map_eq_nil_iff] at hc;simp [hc]
              omega
            · intro x hx
              obtain ⟨p,hp1,rfl⟩:=List.mem_map.1 hx;obtain ⟨i,hi,hpi⟩:=List.getElem_of_mem hp1;obtain ⟨_,r2,r3⟩:=hL2 i p (by rw [<- hpi];exact List.getElem?_eq_getElem hi);rw [r2.1];exact (dn r3).1
            · intro i j e' x he hx
              obtain ⟨v,k1,k2,k3⟩:=hget i j e' x he hx;exact ⟨himm _ _,by rw [k1];rfl,by rw [k1];exact k2⟩
            · intro i j e' x he hx
              obtain ⟨v,k1,k2,k3⟩:=hget i j e' x he hx;rw [k1];exact k3
    · rename_i fs hu
      simp only [Bool.and_eq_true,List.all_eq_true,memNat_iff] at hp;obtain ⟨hp1,hp2⟩:=hp;obtain ⟨xs,n,hn,hx,hc,hl,hf⟩:=DataW.trod_struct hu h;cases hn;simp only [Prod.mk.injEq] at hx;obtain ⟨rfl,rfl⟩:=hx;rw [bk.agg] at hb;have hoffs:∀(i:Nat) f,fs.toList[i]? =some f->f.offset+P.cellsOf f.type<=P.cellsOf t:=by
        have gen:∀(l:List Field) (off sz:Nat),JW P l off sz=true->off<=sz/\∀(i:Nat) f,l[i]? =some f->f.offset+P.cellsOf f.type<=sz:=by
          intro l
          induction l with
          | nil=>intro off sz h;simp only [JW,beq_iff_eq] at h;exact ⟨by omega,fun i f hf=>by simp at hf⟩
          | cons g r ihr=>
            intro off sz h;simp only [JW,Bool.and_eq_true,beq_iff_eq] at h;obtain ⟨k1,k2⟩:=ihr _ _ h.2;refine ⟨by omega,?_⟩;intro i f hf;cases i with
            | zero=>simp at hf;subst hf;omega
            | succ i=>exact k2 i f (by simpa using hf)
        exact (gen _ _ _ hp2).2
      have hex:∀i,i<fs.size->∃x:List AV,∀f,fs[i]? =some f->(WT P B f.type x/\Cells w imm x ((cs.drop f.offset).take (P.cellsOf f.type))/\x.length=P.cellsOf f.type)/\∀y,xs[i]? =some y->szL x+1<=bk.one y.1:=by
        intro i hi;have hfi:fs[i]? =some fs[i]:=by simp [hi]
        have hh:=hf i _ hfi;have hi':i<xs.length:=by omega
        rw [List.getElem?_eq_getElem hi'] at hh;have hm:bk.one (xs[i]).1<=bk.all (xs.map (·.1)):=bk.mem (List.mem_map.2 ⟨_,List.getElem_mem hi',rfl⟩);obtain ⟨ys,k1,k2,k3⟩:=ih (fs[i]).type _ (xs[i]).1 (xs[i]).2 (hp1 _ (by simp)) hh (by omega);refine ⟨ys,?_⟩;intro f hf';rw [hfi] at hf';cases hf';refine ⟨⟨k1,k2,?_⟩,fun y hy=>by rw [List.getElem?_eq_getElem hi'] at hy;cases hy;exact k3⟩;rw [k2.1];have:=hoffs i fs[i] (by simp [hi]);simp;omega
      obtain ⟨L,hL,hL3⟩:=cj hex;have hL2:=fun i x h f hf=>(hL3 i x h f hf).1
      refine ⟨L.flatten,.struct fs L hu hL (fun i f x hf' hx'=>(hL2 i x hx' f hf').1),?_,?_⟩
      rotate_left
      · rw [bk.agg]
        have:=VQ bk L (xs.map (·.1)) (by simp;omega) fun i x y hx hy=>by
          simp only [List.getElem?_map,Option.map_eq_some_iff] at hy;obtain ⟨q,hq,rfl⟩:=hy;have hi:i<fs.size:=by rw [<- hL];exact (List.getElem?_eq_some_iff.1 hx).1
          exact (hL3 i x hx fs[i] (by simp [hi])).2 q hq
        have:=kh L;omega
      have:=qzy (w:=w) (imm:=imm) (fs:=fs.toList) (xss:=L) hp2 hc (by simpa using hL) (fun i f x hf' hx'=>(hL2 i x hx' f (by simpa using hf')).2);simpa using this
    · rename_i k e hu
      simp only [Bool.and_eq_true,memNat_iff,beq_iff_eq] at hp;obtain ⟨hp1,hp2⟩:=hp;obtain ⟨xs,n,hn,hx,hc,hl,hf⟩:=DataW.trod_array hu h;cases hn;simp only [Prod.mk.injEq] at hx;obtain ⟨rfl,rfl⟩:=hx;rw [bk.agg] at hb;have hex:∀i,i<k->∃x:List AV,(WT P B e x/\Cells w imm x ((cs.drop (i*P.cellsOf e)).take (P.cellsOf e))/\x.length=P.cellsOf e)/\∀y,xs[i]? =some y->szL x+1<=bk.one y.1:=by
        intro i hi;have hh:=hf i hi;have hi':i<xs.length:=by omega
        rw [List.getElem?_eq_getElem hi'] at hh;have hm:bk.one (xs[i]).1<=bk.all (xs.map (·.1)):=bk.mem (List.mem_map.2 ⟨_,List.getElem_mem hi',rfl⟩);obtain ⟨ys,k1,k2,k3⟩:=ih e _ (xs[i]).1 (xs[i]).2 hp1 hh (by omega);refine ⟨ys,⟨k1,k2,?_⟩,fun y hy=>by rw [List.getElem?_eq_getElem hi'] at hy;cases hy;exact k3⟩;rw [k2.1];have:(i+1)*P.cellsOf e<=k*P.cellsOf e:=Nat.mul_le_mul_right _ hi;rw [Nat.add_mul] at this;simp;omega
      obtain ⟨L,hL,hL3⟩:=cj hex;have hL2:=fun i x h=>(hL3 i x h).1
      refine ⟨L.flatten,.array k L hu hL ?_,?_,?_⟩
      rotate_left 2
      · rw [bk.agg]
        have:=VQ bk L (xs.map (·.1)) (by simp;omega) fun i x y hx hy=>by
          simp only [List.getElem?_map,Option.map_eq_some_iff] at hy;obtain ⟨q,hq,rfl⟩:=hy;exact (hL3 i x hx).2 q hq
        have:=kh L;omega
      · intro x hx'
        obtain ⟨i,hi,hxi⟩:=List.getElem_of_mem hx';exact (hL2 i x (by rw [<- hxi];exact List.getElem?_eq_getElem hi)).1
      · have:=oy (w:=w) (imm:=imm) (cs:=cs) (z:=P.cellsOf e) (xss:=L) (k:=0) (by rw [hc,hp2,hL];simp) (fun i x hx'=>by
          have:=hL2 i x hx';rw [Nat.zero_add];exact this.2)
        simpa using this
    · cases hp
theorem Bb (bk:BulkFn H) {ts:List TypeId} (hts:JX P ts=true) (himm:∀b i,imm b i) {t:TypeId} {v:Value} {d:DataW H} {ps:List MemPlace} {r:Reach} {b0:Nat}
    (hval:Value.okWide P w r b0 t v) (ht:t∈ts) (h:DataW.Trod enc P w base spare held t v d ps) (hb:bk.one d<=B):∃a,WTV P B t a/\VRD w imm a v/\szA a<=bk.one d:=by
  obtain ⟨fuel,h⟩:=h;obtain ⟨xs,h1,h2,h3⟩:=X0 (imm:=imm) bk hts himm fuel t _ d ps ht h hb;unfold WTV;have hcell:∀cs,Cell.okWide P w r b0 t (.agg cs)->zO P t=true:=by
    intro cs hc;have hp:=hts;simp only [JX,List.all_eq_true] at hp;have hp:=hp t ht;unfold Cell.okWide Cell.ok at hc;split at hp<;>rename_i hu<;>(try simp [hu] at hc)<;>(try simp [zO,hu])
  unfold Value.okWide at hval;split at hval
  · rename_i hu
    obtain ⟨cs,rfl,_,_⟩:=hval;have hag:zO P t=true:=by unfold zO;rw [hu]
    simp only [hag,if_true];refine ⟨.agg xs,⟨xs,rfl,h1⟩,.agg xs cs (by simpa [Value.cells] using h2.1) (fun v hv=>?_) (fun i x v hx hv=>(h2.2 i x v hx (by simpa [Value.cells] using hv)).1),by simp only [szA];omega⟩;obtain ⟨i,hi,hiv⟩:=Array.getElem_of_mem hv;have hi':i<xs.length:=by rw [h2.1];simpa [Value.cells] using hi
    exact (h2.2 i xs[i] v (List.getElem?_eq_getElem hi') (by simp [Value.cells,hi,hiv])).2
  · rename_i hu
    obtain ⟨cs,rfl,_,_⟩:=hval;have hag:zO P t=true:=by unfold zO;rw [hu]
    simp only [hag,if_true];refine ⟨.agg xs,⟨xs,rfl,h1⟩,.agg xs cs (by simpa [Value.cells] using h2.1) (fun v hv=>?_) (fun i x v hx hv=>(h2.2 i x v hx (by simpa [Value.cells] using hv)).1),by simp only [szA];omega⟩;obtain ⟨i,hi,hiv⟩:=Array.getElem_of_mem hv;have hi':i<xs.length:=by rw [h2.1];simpa [Value.cells] using hi
    exact (h2.2 i xs[i] v (List.getElem?_eq_getElem hi') (by simp [Value.cells,hi,hiv])).2
  · rename_i hn1 hn2
    have hnag:zO P t=false:=by
      unfold zO;split
      · rename_i fs hu;exact absurd hu (hn1 fs)
      · rename_i n e hu;exact absurd hu (hn2 n e)
      · rfl
    have hv:v.cells.toList=[v]:=by
      cases v with
      | agg cs=>have:=hcell cs hval;rw [hnag] at this;cases this
      | _=>rfl
    rw [hv] at h2;obtain ⟨x,rfl⟩:∃x,xs=[x]:=by
      match xs,h2.1 with
      | [x],_=>exact ⟨x,rfl⟩
    simp only [hnag,Bool.false_eq_true,if_false];exact ⟨x,h1,(h2.2 0 x v rfl rfl).1,by simp only [szL] at h3;omega⟩
theorem rh (bk:BulkFn H) {ts:List TypeId} (hts:JX P ts=true) (himm:∀b i,imm b i) {r:Reach} {b0:Nat}:∀{ps:List TypeId} {vs:List Value} {ds:List (DataW H)} {pl:List MemPlace},
    (∀(j:Nat) t v,ps[j]? =some t->vs[j]? =some v->Value.okWide P w r b0 t v)->(∀t∈ps,t∈ts)->DataW.TrodAll enc P w base spare held ps vs ds pl->bk.all ds<=B->
    ∃aas,WTVs P B ps aas/\aas.length=vs.length/\(∀(i:Nat) x v,aas[i]? =some x->vs[i]? =some v->VRD w imm x v)/\szL aas<=bk.all ds
  | [],_,_,_,_,_,h,_=>by
    obtain ⟨rfl,rfl,rfl⟩:=trodAll_nil h;exact ⟨[],trivial,rfl,fun i x v hx=>by simp at hx,by simp [szL]⟩
  | t::ps,_,_,_,hv,hm,h,hb=>by
    obtain ⟨v,vs,d,ds,p,q,rfl,rfl,rfl,h1,h2⟩:=trodAll_cons h;rw [bk.cons] at hb;obtain ⟨a,k1,k2,k3⟩:=Bb (B:=B) (imm:=imm) bk hts himm (hv 0 t v rfl rfl) (hm t (by simp)) h1 (by omega);obtain ⟨aas,m1,m2,m3,m4⟩:=rh bk hts himm (fun j t' v' ht hv'=>hv (j+1) t' v' (by simpa using ht) (by simpa using hv')) (fun t' ht'=>hm t' (by simp [ht'])) h2 (by omega);refine ⟨a::aas,⟨k1,m1⟩,by simp [m2],?_,by rw [bk.cons];simp only [szL];omega⟩;intro i x u hx hu;cases i with
    | zero=>simp at hx hu;subst hx;subst hu;exact k2
    | succ i=>exact m3 i x u (by simpa using hx) (by simpa using hu)
theorem WU {A:Ann} {Φ:FuncId->Option AFun} (T:TableOk P A Φ) (hl:laidOutB P=true) {f:FuncId} {fn:Func} {s:ChangeSpec} {tb:TypeId} (hv:s.vars=[])
    (hrt:fn.resultTypes= #[tb]) (htb:P.underlying tb=some .bool) (hread:∀t∈fn.params.toList,P.readableRec t=true/\t<P.types.size)
    (bk:BulkFn H) {ts:List TypeId} (hts:JX P ts=true) (hpts:∀t∈fn.params.toList,t∈ts)
    {W:World} {b0:Nat} {args:Array Value} {ds gs:List (DataW H)} {before:List MemPlace} {apart:Bool}
    (hval:∀(j:Nat) t v,fn.params[j]? =some t->args[j]? =some v->Value.okWide P W .any b0 t v)
    (hW:DataW.Whole enc P fn.params.toList s.vars apart W args.toList ds gs before)
    (hfn:(s.fn H (ds++gs))={ results:=[.lit (.bool true)],args:=ds }) (hb:bk.all ds<=B)
    (law:∀aas,WTVs P B fn.params.toList aas->szL aas<=B->∃H',aG Φ f aas H0=some (.val (.bool true),H')) {fresh handsOn again:Bool}:
    Calls P f args W fun e W'=>∃v,e= .returned v/\s.post enc P fn apart fresh handsOn again W args v W':=by
  have hW':=hW;obtain ⟨p,q,hA,hV,rfl,hfz,hnd⟩:=hW;rw [hv] at hV;obtain ⟨rfl,rfl⟩:=trodVars_none hV;have himm:∀b i,Imm (fun _ _=>False) (fun _=>none) H0 b i:=fun b i=>⟨zN,fun h=>h⟩
  obtain ⟨aas,h1,h2,h3,h4⟩:=rh (imm:=Imm (fun _ _=>False) (fun _=>none) H0) bk hts himm (ps:=fn.params.toList) (vs:=args.toList)
    (fun j t v ht hv=>hval j t v (by simpa using ht) (by simpa using hv)) hpts hA hb
  obtain ⟨H',hc⟩:=law aas h1 (by omega);obtain ⟨n,hn⟩:=YC Φ hc;have hr0:HR (fun _ _=>False) 0 W (fun _=>none) H0:=⟨Nat.zero_le _,fun _ _ h=>h.elim,trivial,fun _ _=>rfl,(fun _ _ _ _ _ _ _ h=>by cases h),(fun _ _ h=>by cases h)⟩;refine ((ru T n).runs f aas H0 _ _ hn (fun _ _=>False) 0 W (fun _=>none) args hr0 ⟨by simpa using h2,fun i x v hx hv=> .d (h3 i x v hx (by simpa using hv))⟩).mono ?_;intro e W' hok;cases e with
  | panicked c=>obtain ⟨x,u,hx,_⟩:=hok;cases hx
  | outgrown=>exact hok.elim
  | returned v=>
    obtain ⟨x,hx,I',htr,hr',hvr⟩:=hok;cases hx;have hvb:v= .bool true:=by
      cases hvr with
      | d h=>cases h;rfl
      | l h=>exact h.elim
    subst hvb;have hbl:Below W.heap.size W W':=qxq htr.ext (fun b i=>zN);refine ⟨_,rfl,?_⟩;have hlt:∀x∈p++[],x.block<W.heap.size:=fun x hx=>hW'.lt x hx
    have hltp:∀x∈p,x.block<W.heap.size:=fun x hx=>hlt x (by simp [hx])
    have hres:∀(b:Nat) (sp:Nat->Bool) (hd:Bool),DataW.TrodAll enc P W' b sp hd fn.resultTypes.toList ((Value.bool true).resultList fn.resultTypes.size) (s.fn H (ds++[])).results []:=by
      intro b sp hd;rw [hfn,hrt];exact trodAll_mk1 (shut_bool htb true)
    have hargs:∀sp:Nat->Bool,(∀x∈p++[],sp x.block=true)->DataW.TrodAll enc P W' 0 sp true fn.params.toList args.toList (s.fn H (ds++[])).args p:=by
      intro sp hsp;rw [hfn];exact mu hl hbl hread hA hltp sp (fun x hx=>hsp x (by simp [hx]))
    have hvars:∀sp:Nat->Bool,(∀x∈p++[],sp x.block=true)->DataW.TrodVars enc P W' sp s.vars (s.fn H (ds++[])).vars []:=by
      intro sp _;rw [hfn,hv];exact rfl
    have hold:∀x∈p++[],(fun b=>decide (b<W.heap.size)) x.block=true:=fun x hx=>by simpa using hlt x hx
    refine ⟨ds,[],p++[],[],p,[],hW',hres _ _ _,hargs _ hold,hvars _ hold,hbl.frame _,fun _=>?_⟩;refine ⟨ok_one hrt rfl (okWide_bool_mk htb true),_,_,([]++p)++[],⟨[]++p,[],trodAll_append (hargs _ (fun _ _=>rfl)) (hres _ _ _),hvars _ (fun _ _=>rfl),rfl,?_,?_⟩,?_⟩
    · intro b off hp
      have hp':MemPlace.cell b off∈p:=by simpa using hp
      rw [hbl.frozen (hltp _ hp')];exact hfz b off (by simpa using hp')
    · intro ha
      simpa using hnd ha
    · intro x hx _
      simpa using hx
theorem YG {A:Ann} {Φ:FuncId->Option AFun} (T:TableOk P A Φ) (hl:laidOutB P=true) {f:FuncId} {fn:Func} {s:ChangeSpec} {tb:TypeId} (hv:s.vars=[])
    (hrt:fn.resultTypes= #[tb]) (htb:P.underlying tb=some .bool) (hread:fn.params.toList.all (fun t=>P.readableRec t&&decide (t<P.types.size))=true)
    (bk:BulkFn H) {ts:List TypeId} (hts:JX P ts=true) (hpts:fn.params.toList.all (fun t=>oC t ts)=true)
    {W:World} {b0:Nat} {args:Array Value} {ds gs:List (DataW H)} {before:List MemPlace} {apart:Bool}
    (hval:∀(j:Nat) t v,fn.params[j]? =some t->args[j]? =some v->Value.okWide P W .any b0 t v)
    (hW:DataW.Whole enc P fn.params.toList s.vars apart W args.toList ds gs before)
    (hfn:∀l:List (DataW H),l.length=fn.params.size->s.fn H l={ results:=[.lit (.bool true)],args:=l }) (hb:bk.all (ds++gs)<=B)
    (law:∀aas,WTVs P B fn.params.toList aas->szL aas<=B->a8 Φ f aas=some (.val (.bool true))) {fresh handsOn again:Bool}:
    Calls P f args W fun e W'=>∃v,e= .returned v/\s.post enc P fn apart fresh handsOn again W args v W':=by
  have hgs:gs=[]:=by
    obtain ⟨p,q,hA,hV,_⟩:=hW;rw [hv] at hV;exact (trodVars_none hV).1
  have hdl:ds.length=fn.params.size:=by
    obtain ⟨p,q,hA,hV,_⟩:=hW;have gen:∀(ts:List TypeId) (vs:List Value) (ds:List (DataW H)) (p:List MemPlace),DataW.TrodAll enc P W 0 (fun _=>true) true ts vs ds p->ds.length=ts.length:=by
      intro ts
      induction ts with
      | nil=>intro vs ds p h;obtain ⟨rfl,rfl,rfl⟩:=trodAll_nil h;rfl
      | cons t ts ih=>
        intro vs ds p h;obtain ⟨v,vs,d,ds,p,q,rfl,rfl,rfl,h1,h2⟩:=trodAll_cons h;simp [ih _ _ _ h2]
    simpa using gen _ _ _ _ hA
  subst hgs;rw [List.append_nil] at hb;simp only [List.all_eq_true,Bool.and_eq_true,decide_eq_true_eq] at hread;simp only [List.all_eq_true] at hpts;exact WU T hl hv hrt htb hread bk hts (fun t ht=>memNat_iff.1 (hpts t ht)) hval hW (by rw [List.append_nil];exact hfn ds hdl) hb (fun aas has hsz=>qw3 (law aas has hsz))
end
mutual
theorem Ls:∀x:Xa,(pre1 x).length<=szL (Xa.c x)+1
  | .mk k t c a b=>by
    have h1:=SV a;have h2:=SV b;simp only [pre1,Xa.c,Xa.cs_eq,szL,szA,List.length_cons,List.length_append];omega
theorem SV:∀l:List Xa,(pre l).length<=szLL (l.map Xa.c)
  | []=>by simp [pre]
  | x::l=>by
    have h1:=Ls x;have h2:=SV l;simp only [pre,List.map_cons,szLL,List.length_append];omega
end
theorem Sq (p:Prg):(pre p.Ya).length<=szA (.agg (Prg.c p)):=by
  have:=SV p.Ya;simp only [Prg.c,szA,szL];omega
theorem hc_of {p:Prg} {r:List AV} (h:szL (.agg (Prg.c p)::r)<=oU):(pre p.Ya).length<2^40 - 1:=by
  have:=Sq p;have:=EI;simp only [szL] at h;omega
end Go.Av
