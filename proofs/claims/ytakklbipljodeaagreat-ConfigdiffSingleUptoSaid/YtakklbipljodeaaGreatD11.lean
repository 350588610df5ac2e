/-
 The difference of two configurations: the reference's Diff, and the law.
-/
import Derived.Test.YtakklbipljodeaaGreatD1
import Derived.Test.YtakklbipljodeaaGreatW30K
set_option linter.unusedVariables false
set_option linter.unusedSimpArgs false
set_option linter.constructorNameAsVariable false
namespace Go.Av
set_option maxRecDepth 4000
def qix (a b:Config) (t:Nat):Bool:=decide (1073741824<qc2 a t+(cnt (tabO a b t) 1:Nat))
theorem qadc (p:Prg) (f:PrgS p) (hv:∀t∈p.tables,∀v∈t.dflt.args,ok32 0 v) (hc:(pre p.control).length<2^40 - 1) (hp:p.tables.length<2^26) {a b:Config} (sa:CfgT a) (sb:CfgT b):
  qab Φ f_41 [.agg (Prg.c p),.agg (Config.c a),.agg (Config.c b)]=some (.val (qc1 p a b)):=by
 rw [qaa (fn:=c_41) rfl rfl];have k1:=qiv p f hv hc a sa;have k2:=qiv p f hv hc b sb;by_cases z1:cfgE p a=0
 rotate_left
 ·have hR:qc1 p a b= .tup [.slice 9 [],.int .i64 (cfgE p a)]:=by simp [qc1,z1]
  rw [hR];simp only [Prg.e,Config.ce] at k1;simp [c_41,Prg.e,Config.ce,k1,z1]
 by_cases z2:cfgE p b=0
 rotate_left
 ·have hR:qc1 p a b= .tup [.slice 9 [],.int .i64 (cfgE p b)]:=by simp [qc1,z1,z2]
  rw [hR];simp only [Prg.e,Config.ce] at k1 k2;simp [c_41,Prg.e,Config.ce,k1,k2,z1,z2]
 have va:=(qcf p a).1 z1;have vb:=(qcf p b).1 z2;generalize hR:qc1 p a b=R;obtain ⟨q0,q1,q2,q3,hA,hq,hq2⟩:=cfg4 a;obtain ⟨r0,r1,r2,r3,hB,hr,hr2⟩:=cfg4 b;rw [z1] at k1;rw [z2] at k2;rw [hA] at k1;rw [hB] at k2;simp only [Prg.e] at k1 k2;rw [hA,hB];simp [c_41,Prg.e,k1,k2,hq,hq2,hr,hr2];have htb:∀t,t<p.tables.length->qab Φ f_107 [.int .i64 t,.agg [q0,q1,q2,q3],.agg [r0,r1,r2,r3]]=some (.val (.slice 9 ((tabO a b t).map TableOp.c))):=fun t ht=>by
  have:=qagr va vb sa sb ht
  rwa [hA,hB] at this
 have htl:∀t,t<p.tables.length->(tabO a b t).length<=769:=fun t ht=>by
  have ha:t<a.rows.length:=by rw [va.rl];exact ht
  have hb:t<b.rows.length:=by rw [vb.rl];exact ht
  have h1:=va.small a.rows[t] (Qd ha);have h2:=vb.small b.rows[t] (Qd hb);have h3:=qvm t (qak a t) (qak b t) (qbt a t) (qbt b t);rw [qax ha,qax hb] at h3;unfold tabO;rw [qax ha,qax hb];omega
 refine qbb p.tables.length (fun i e h=>∃N,h=⟨[(0,.tok 9 (opsD p a b i).length)],N⟩/\1<=N/\look 3 e=some (.iptr 9 [Prg.c p] 0 0)/\look 4 e=some (.iptr 4 [[q0,q1,q2,q3]] 0 0)/\look 5 e=some (.iptr 4 [[r0,r1,r2,r3]] 0 0)/\look 9 e=some (.app 9 ((opsD p a b i).map TableOp.c) 0)/\look 10 e=some (.int .i64 i)) (fun _=>some (Rt.val R)) ?_ ?_ 0 _ _ (Qc _) ⟨1,by simp [opsD],Qb _,by simp [Prg.e],by simp,by simp,by simp [opsD],by simp⟩
 ·rintro i e _ L hi hL ⟨N,rfl,hN,h3,h4,h5,h9,h10⟩ ih;have hw:=qaf i (by omega);have ht:=htb i hi;have hl1:=htl i hi;have hl2:=qir va vb i (by omega);have h120:((opsD p a b i).length+(tabO a b i).length)*120<=70368744177664:=by omega
  have hs:opsD p a b (i+1)=opsD p a b i++tabO a b i:=rfl;rw [Prg.e] at h3;simp [c_41_l0,h3,h4,h5,h9,h10,hi,hL,hq,hq2,hr,hr2,ht,h120,hw];exact ih _ _ ⟨N,by rw [hs];simp,hN,by simp [h3,Prg.e],by simp [h4],by simp [h5],by rw [hs];simp,by simp⟩
 ·rintro e _ L hL ⟨N,rfl,hN,h3,h4,h5,h9,h10⟩;have hins:=fun s=>quq p a b s p.tables.length
  have hlen:=qir va vb p.tables.length (Qb _);rw [Prg.e] at h3;generalize hout:opsD p a b p.tables.length=out at*;by_cases z3:64<out.length
  ·have hR':R= .tup [.slice 9 [],.int .i64 12]:=by rw [<- hR];simp [qc1,z1,z2,hout,z3]
   rw [hR'];have z3':(64:Int)<(out.length:Int):=by omega
   simp [c_41_l0,c_41_k3,h3,h9,h10,hL,z3']
  have z3':¬(64:Int)<(out.length:Int):=by omega
  have hfull:qgg p a out=qam (List.range p.tables.length) (qix a b) 0:=by
   unfold qgg qam;rw [List.drop_zero];rw [Bool.eq_iff_iff];simp only [List.any_eq_true,List.mem_range,decide_eq_true_eq,qix];constructor
   ·rintro ⟨t,ht,h⟩;exact ⟨t,ht,by rw [hins,if_pos ht] at h;omega⟩
   ·rintro ⟨t,ht,h⟩;exact ⟨t,ht,by rw [hins,if_pos ht];omega⟩
  have hR':R=if qam (List.range p.tables.length) (qix a b) 0 then .tup [.slice 9 [],.int .i64 13] else .tup [.slice 9 (out.map TableOp.c),.int .i64 0]:=by
   rw [<- hR,<- hfull];simp [qc1,z1,z2,hout,z3]
  rw [hR'];simp [c_41_l0,c_41_k3,h3,h9,h10,hL,z3'];have hN1:Config.c a=[q0,q1,q2,q3]:=hA;rw [Config.ce] at hN1;simp only [List.cons.injEq,and_true] at hN1;obtain ⟨-,rfl,-,-⟩:=hN1;refine qbb p.tables.length (fun i e h=>h=⟨[(0,.tok 9 out.length)],N⟩/\look 3 e=some (.iptr 9 [Prg.c p] 0 0)/\look 4 e=some (.iptr 4 [[q0,.slice 1 (a.nextID.map cI),q2,q3]] 0 0)/\look 5 e=some (.iptr 4 [[r0,r1,r2,r3]] 0 0)/\look 9 e=some (.app 9 (out.map TableOp.c) 0)/\look 11 e=some (.int .i64 i)) (fun i=>some (Rt.val (if qam (List.range p.tables.length) (qix a b) i then .tup [.slice 9 [],.int .i64 13] else .tup [.slice 9 (out.map TableOp.c),.int .i64 0]))) ?_ ?_ 0 _ _ (Qc _) ⟨rfl,by simp [h3,Prg.e],by simp [h4],by simp [h5],by simp [h9],by simp⟩
  ·rintro i e _ L hi hL ⟨rfl,h3,h4,h5,h9,h11⟩ ih;have hw:=qaf i (by omega);have hin:i<a.nextID.length:=by rw [va.nl];exact hi
   have hv2:=va.at hi;have n0:=hv2.nx0;have n1:=hv2.nx1;have ht:=htb i hi;have hl1:=htl i hi;have hcl:=qzo (tabO a b i) 1;have hck:=qp7 (tabO a b i) (by omega);have hnx:qc2 a (i:Int)=a.nextID[i]:=qd1 hin;have hwa:IntKind.wrap .i64 (a.nextID[i]+(cnt (tabO a b i) 1:Nat))=a.nextID[i]+(cnt (tabO a b i) 1:Nat):=qa4 (by omega) (by omega);simp only [cnts] at hck;rw [Prg.e] at h3;by_cases z:1073741824<a.nextID[i]+(cnt (tabO a b i) 1:Nat)
   ·rw [qdp (by simpa using hi) (by simp [qix,hnx];exact z)];simp [c_41_l1,h3,h4,h5,h9,h11,hi,hin,hL,hq,hq2,hr,hr2,ht,hck,cI,hwa,z]
   ·rw [qcd (by simpa using hi) (by simp [qix,hnx];omega)];simp [c_41_l1,h3,h4,h5,h9,h11,hi,hin,hL,hq,hq2,hr,hr2,ht,hck,cI,hwa,z,hw];refine (ih _ _ ⟨rfl,by simp [h3,Prg.e],by simp [h4,cI],by simp [h5],by simp [h9],by simp⟩).trans (by simp)
  ·rintro e _ L hL ⟨rfl,h3,h4,h5,h9,h11⟩;have he:qam (List.range p.tables.length) (qix a b) p.tables.length=false:=by
    unfold qam;rw [List.drop_of_length_le (by simp)];rfl
   rw [Prg.e] at h3;rw [he];simp [c_41_l1,c_41_k2,h3,h9,h11,hL]
theorem qaar {p:Prg} {a b:Config} (va:CfgV p a) (vb:CfgV p b) (sb:CfgT b):∀n,n<=p.tables.length->∀o∈opsD p a b n,OpS o
 | 0,_,o,h=>by simp [opsD] at h
 | n+1,hn,o,h=>by
  have hb:n<b.rows.length:=by rw [vb.rl];omega
  have yr:=(sb.rs b.rows[n] (Qd hb)).2;rw [opsD] at h;rcases List.mem_append.1 h with h | h
  ·exact qaar va vb sb n (by omega) o h
  have hd:=qae8 sb n;rw [qax hb] at h;unfold tabG at h;simp only [List.mem_append] at h;rcases h with h | h | h | h
  ·have del:∀(x:List Rw) (i:Nat) (ss:List Nat),∀o∈delG n x i ss,OpS o:=by
    intro x
    induction x with
    | nil=>intro i ss o h;simp [delG] at h
    | cons r x ih=>
     intro i ss o h;cases ss with
     | nil=>
      rw [delG_nil] at h;rcases List.mem_cons.1 h with rfl | h
      ·exact ⟨qtf,qp4⟩
      ·exact ih _ _ o h
     | cons s ss=>
      rw [delG] at h;split at h
      ·exact ih _ _ o h
      ·rcases List.mem_cons.1 h with rfl | h
       ·exact ⟨qtf,qp4⟩
       ·exact ih _ _ o h
   exact del _ _ _ o h
  ·have mod:∀(x:List Rw) (ss:List Nat) (y:List Rw),(∀r∈y,rowS r)->∀o∈modG n x ss y,OpS o:=by
    intro x ss
    induction ss with
    | nil=>intro y _ o h;simp [modG] at h
    | cons s ss ih=>
     intro y hy o h;cases y with
     | nil=>simp [modG] at h
     | cons r y=>
      rw [modG] at h;have hy':∀r∈y,rowS r:=fun q hq=>hy q (by simp [hq])
      cases hx:x[s]? with
      | none=>rw [hx] at h;exact ih y hy' o h
      | some q=>
       rw [hx] at h;simp only at h;split at h
       ·exact ih y hy' o h
       ·rcases List.mem_cons.1 h with rfl | h
        ·have:=hy r (by simp);exact ⟨qtf,⟨this.al,this.ar⟩⟩
        ·exact ih y hy' o h
   exact mod _ _ _ yr o h
  ·obtain ⟨r,hr,rfl⟩:=List.mem_map.1 h;exact ⟨yr r (List.mem_of_mem_drop hr),qp4⟩
  ·split at h
   ·simp at h
   ·simp at h;subst h;exact ⟨qtf,hd⟩
theorem qab7 (p:Prg) {a b:Config} (sb:CfgT b):∃(L:List TableOp) (E:Int),qc1 p a b= .tup [.slice 9 (L.map TableOp.c),.int .i64 E]/\(∀o∈L,OpS o)/\L.length<2^40:=by
 unfold qc1;by_cases z1:cfgE p a=0
 rotate_left
 ·rw [if_pos z1];exact ⟨[],_,rfl,by simp,by simp⟩
 rw [if_neg (by simpa using z1)];by_cases z2:cfgE p b=0
 rotate_left
 ·rw [if_pos z2];exact ⟨[],_,rfl,by simp,by simp⟩
 rw [if_neg (by simpa using z2)];by_cases z3:64<(opsD p a b p.tables.length).length
 ·rw [if_pos z3];exact ⟨[],_,rfl,by simp,by simp⟩
 rw [if_neg z3];split
 ·exact ⟨[],_,rfl,by simp,by simp⟩
 ·exact ⟨_,_,rfl,qaar ((qcf p a).1 z1) ((qcf p b).1 z2) sb _ (Qb _),by omega⟩
theorem qma (p:Prg) (a b:Config) (op:p.Ok qa2) (oa:a.Ok qa2) (ob:b.Ok qa2):
  qab Φ f_7 [.agg (Prg.c p),.agg (Config.c a),.agg (Config.c b)]=some (.val (.bool true)):=by
 have f:=qqr op;have sa:=qjw oa;have sb:=qjw ob;have hv:=qyj op;obtain ⟨w,hb,hb2⟩:=qnk p a op;have hsb:=qgo b;rw [qaa (fn:=c_7) rfl rfl];cases w with
 | false=>
  simp only [Prg.e,Config.ce] at hb;simp [c_7,Prg.e,Config.ce,hb,qcz]
 | true=>
 cases b2:qe6 b with
 | false=>
  rw [b2] at hsb;simp only [Prg.e,Config.ce] at hb hsb;simp [c_7,Prg.e,Config.ce,hb,hsb,qcz]
 | true=>
 rw [b2] at hsb;have hc:(pre p.control).length<2^40 - 1:=by have:=(hb2 rfl).1;omega
 have hp:p.tables.length<2^26:=by have:=op.2.2.2.2.2.1.1;have:=qdy;omega
 have k1:=qnr p f hc hp sa sb;have k2:=qadc p f hv hc hp sa sb;obtain ⟨L,E,hE,hLo,hLl⟩:=qab7 p (a:=a) sb;rw [hE] at k1 k2;have k3:=quu L L hLl hLo;rw [decide_eq_true rfl] at k3;simp only [Prg.e,Config.ce] at hb hsb k1 k2;simp [c_7,Prg.e,Config.ce,hb,hsb,k1,k2,k3,qcz]
theorem qtm {a:List Rw} (hu:a.Pairwise fun x y=>sk x.entry y.entry=false) {i:Nat} (hi:i<a.length) {x:Entry} (h:sk a[i].entry x=true):atF a x=some i:=by
 unfold atF;rw [List.findIdx?_eq_some_iff_getElem];refine ⟨hi,h,fun j hj=>?_⟩;cases hb:sk a[j].entry x with
 | false=>simp
 | true=>
  have h1:=sk_tr hb h;rw [List.pairwise_iff_getElem.1 hu j i (by omega) hi hj] at h1;cases h1
theorem qrm (x:Entry):sk x x=true:=by simp [sk]
theorem qi8 {a:List Rw} (hu:a.Pairwise fun x y=>sk x.entry y.entry=false):∀(b:List Rw) (f:Nat),f+b.length<=a.length->(∀k (h:k<b.length) (h2:f+k<a.length),sk a[f+k].entry b[k].entry=true)->qaz a f b=List.range' f b.length
 | [],f,_,_=>by simp [qaz]
 | y::b,f,hl,hs=>by
  simp only [List.length_cons] at hl;have h0:=hs 0 (by simp) (by omega);simp only [Nat.add_zero,List.getElem_cons_zero] at h0;rw [qaz,qtm hu (by omega) h0];simp only [Qb,if_true,List.length_cons,List.range'_succ];rw [qi8 hu b (f+1) (by omega) fun k h h2=>by
   have:=hs (k+1) (by simp;omega) (by omega);simp only [List.getElem_cons_succ] at this;have e:f+1+k=f+(k+1):=by omega
   simp only [e];exact this]
theorem qgs (t:Int):∀(x:List Rw) (i:Nat),delG t x i (List.range' i x.length)=[]
 | [],_=>by simp [delG]
 | r::x,i=>by
  simp only [List.length_cons,List.range'_succ];rw [delG,if_pos rfl];exact qgs t x (i+1)
theorem qmf (t:Int):∀(x:List Rw) (i:Nat) (ss:List Nat),delG t x i ss=[]->x.length<=ss.length/\ss.take x.length=List.range' i x.length
 | [],_,ss,_=>by simp
 | r::x,i,[],h=>by rw [_root_.Go.Av.delG_nil] at h;cases h
 | r::x,i,s::ss,h=>by
  rw [delG] at h;split at h
  ·rename_i hs;subst hs;obtain ⟨h1,h2⟩:=qmf t x (s+1) ss h;refine ⟨by simp;omega,?_⟩;simp only [List.length_cons,List.take_succ_cons,List.range'_succ,h2]
  ·cases h
theorem qfw (t:Int) (x:List Rw):∀(ss:List Nat) (y:List Rw),ss.length<=y.length->((∀k (h:k<ss.length) (h2:k<y.length),∀q,x[ss[k]]? =some q->q.entry.call=y[k].entry.call)↔modG t x ss y=[])
 | [],y,_=>by simp [modG]
 | s::ss,[],h=>by simp at h
 | s::ss,r::y,h=>by
  have ih:=qfw t x ss y (by simpa using h);rw [modG];cases hx:x[s]? with
  | none=>
   simp only;rw [<- ih];constructor
   ·intro hh k h1 h2 q hq;exact hh (k+1) (by simp;omega) (by simp;omega) q (by simpa using hq)
   ·intro hh k h1 h2 q hq;cases k with
    | zero=>simp only [List.getElem_cons_zero] at hq;rw [hx] at hq;cases hq
    | succ k=>exact hh k (by simpa using h1) (by simpa using h2) q (by simpa using hq)
  | some q0=>
   simp only;by_cases hc:q0.entry.call=r.entry.call
   ·rw [if_pos hc,<- ih];constructor
    ·intro hh k h1 h2 q hq;exact hh (k+1) (by simp;omega) (by simp;omega) q (by simpa using hq)
    ·intro hh k h1 h2 q hq;cases k with
     | zero=>simp only [List.getElem_cons_zero] at hq ⊢;rw [hx] at hq;cases hq;exact hc
     | succ k=>exact hh k (by simpa using h1) (by simpa using h2) q (by simpa using hq)
   ·rw [if_neg hc];constructor
    ·intro hh;exact absurd (hh 0 (by simp) (by simp) q0 (by simpa using hx)) hc
    ·intro hh;cases hh
theorem qr6 (a:List Rw):∀(b:List Rw) (f k:Nat) (h:k<(qaz a f b).length) (h2:k<b.length),atF a b[k].entry=some (qaz a f b)[k]
 | [],f,k,h,h2=>by simp at h2
 | y::b,f,k,h,h2=>by
  have hd:qaz a f (y::b)=match atF a y.entry with
   | some i=>if f<=i then i::qaz a (i+1) b else []
   | none=>[]:=rfl
  cases hx:atF a y.entry with
  | none=>rw [hx] at hd;simp only at hd;rw [hd] at h;simp at h
  | some i=>
   rw [hx] at hd;simp only at hd;by_cases hf:f<=i
   ·rw [if_pos hf] at hd;cases k with
    | zero=>simp only [hd,List.getElem_cons_zero];exact hx
    | succ k=>
     simp only [hd,List.getElem_cons_succ];exact qr6 a b (i+1) k (by rw [hd] at h;simpa using h) (by simpa using h2)
   ·rw [if_neg hf] at hd;rw [hd] at h;simp at h
theorem qw1 (x y:List Rw):enR x=enR y↔x.length=y.length/\∀k (h:k<x.length) (h2:k<y.length),x[k].entry=y[k].entry:=by
 unfold enR;constructor
 ·intro h;have hl:x.length=y.length:=by simpa using congrArg List.length h
  refine ⟨hl,fun k h1 h2=>?_⟩;have:=congrArg (fun l=>l[k]?) h;simpa [Qa h1,Qa h2] using this
 ·rintro ⟨hl,h⟩;refine List.ext_getElem (by simpa using hl) fun k h1 h2=>?_
  simp only [List.getElem_map];exact h k (by simpa using h1) (by simpa using h2)
theorem qvn {t:Int} {x y:List Rw} (hu:x.Pairwise fun a b=>sk a.entry b.entry=false) (da db:ActionCall):tabG t x y da db=[]↔enR x=enR y/\da=db:=by
 have hkl:=qhm x y 0;have hkg:=qio x y 0;constructor
 ·intro h;unfold tabG at h;simp only [List.append_eq_nil_iff] at h;obtain ⟨h1,h2,h3,h4⟩:=h;obtain ⟨d1,d2⟩:=qmf t x 0 _ h1;have h3':y.length<=(qaz x 0 y).length:=by simpa [List.drop_eq_nil_iff] using h3
  have hm:=(qfw t x (qaz x 0 y) y hkl).2 h2;have hinc:=qmp x y 0;have hlx:(qaz x 0 y).length<=x.length:=by
   refine Decidable.byContradiction fun hc=>?_
   have hk:x.length<(qaz x 0 y).length:=by omega
   have hb:=(hkg _ (Qd hk)).2;cases hxl:x.length with
   | zero=>omega
   | succ m=>
    have hm':m<(qaz x 0 y).length:=by omega
    have e1:(qaz x 0 y)[m]=m:=by
     have:=congrArg (fun l=>l[m]?) d2;simp only [List.getElem?_take] at this;rw [if_pos (by omega),Qa hm',List.getElem?_range' (by omega)] at this;simpa using this
    have:=List.pairwise_iff_getElem.1 hinc m x.length hm' hk (by omega);omega
  have hxy:x.length=y.length:=by omega
  have hks:qaz x 0 y=List.range' 0 x.length:=by rw [<- d2,Qo (by omega)]
  refine ⟨(qw1 x y).2 ⟨hxy,fun k k1 k2=>?_⟩,?_⟩
  ·have hkk:k<(qaz x 0 y).length:=by omega
   have hg:=qr6 x y 0 k hkk k2;have hv:(qaz x 0 y)[k]=k:=by
    have:=congrArg (fun l=>l[k]?) hks;rw [Qa hkk,List.getElem?_range' (by omega)] at this;simpa using this
   rw [hv] at hg;obtain ⟨_,hs,_⟩:=List.findIdx?_eq_some_iff_getElem.1 hg;have hcall:=hm k hkk k2 x[k] (by rw [hv];exact Qa k1);unfold sk at hs;simp only [decide_eq_true_eq] at hs;cases hxe:x[k].entry with
   | mk ks pr cl=>
    cases hye:y[k].entry with
    | mk ks' pr' cl'=>
     rw [hxe,hye] at hs hcall;simp only at hs hcall;rw [hs.1,hs.2,hcall]
  ·by_cases hd:da=db
   ·exact hd
   ·rw [if_neg hd] at h4;cases h4
 ·rintro ⟨h1,rfl⟩;obtain ⟨hl,he⟩:=(qw1 x y).1 h1;have hk:qaz x 0 y=List.range' 0 y.length:=qi8 hu y 0 (by omega) fun k h h2=>by
   have:=he k (by omega) h;simp only [Nat.zero_add];rw [this];exact qrm _
  unfold tabG;rw [hk,<- hl,qgs,List.length_range',List.drop_eq_nil_of_le (by omega)];have hm:=(qfw t x (List.range' 0 x.length) y (by simp;omega)).1 fun k h h2 q hq=>by
   rw [List.getElem_range'] at hq;simp only [Nat.zero_add,Nat.one_mul] at hq;have h3:k<x.length:=by simpa using h
   rw [Qa h3] at hq;cases hq;rw [he k h3 h2]
  rw [hm];simp
def perm (a b:List Rw):Bool:=decide ((a.map Rw.entry).Perm (b.map Rw.entry))
def rem (us:List Bool) (b:List Rw):List Entry:=((us.zip b).filter fun p=> !p.1).map fun p=>p.2.entry
theorem qxi:∀(us:List Bool) (b:List Rw) (k:Nat) (h1:k<us.length) (h2:k<b.length),us[k]=false->(rem us b).Perm (b[k].entry::rem (us.set k true) b)
 | u::us,r::b,0,_,_,h=>by
  simp only [List.getElem_cons_zero] at h;subst h;simp [rem]
 | u::us,r::b,k+1,h1,h2,h=>by
  have ih:=qxi us b k (by simpa using h1) (by simpa using h2) (by simpa using h);cases u with
  | true=>simpa [rem] using ih
  | false=>
   simp only [rem,List.set_cons_succ,List.zip_cons_cons,List.filter_cons,Bool.not_false,if_true,List.map_cons,List.getElem_cons_succ];exact (ih.cons _).trans (List.Perm.swap _ _ _)
def hitP (x:Rw) (p:Bool×Rw):Bool:= !p.1&&decide (x.entry=p.2.entry)
theorem qadd {us:List Bool} {b:List Rw} {x:Rw} (h:(us.zip b).any (hitP x)=false):x.entry∉rem us b:=by
 intro hm;simp only [rem,List.mem_map,List.mem_filter] at hm;obtain ⟨p,⟨hp,hu⟩,he⟩:=hm;have:=List.any_eq_false.1 h p hp;simp only [hitP,Bool.and_eq_true,decide_eq_true_eq,not_and] at this;exact this hu he.symm
theorem qu6:∀b:List Rw,rem (List.replicate b.length false) b=b.map Rw.entry
 | []=>rfl
 | r::b=>by
  have:=qu6 b;simp only [rem] at this ⊢;simp [List.replicate_succ,this]
theorem cBe (u:Bool):cB u=[.bool u]:=by simp [cB]
theorem qwi (a b:List Rw) (ha:a.length<=40) (hs:∀r∈a,r.entry.sm):qab Φ f_112 [.slice 5 (a.map Rw.c),.slice 5 (b.map Rw.c)]=some (.val (.bool (perm a b))):=by
 rw [qaa (fn:=c_112) rfl rfl];by_cases q:a.length=b.length
 rotate_left
 ·have:perm a b=false:=by
   refine decide_eq_false fun h=>q ?_
   have:=h.length_eq;simpa using this
  simp [c_112,q,this]
 have hrep:List.replicate b.length [AV.bool false]=(List.replicate b.length false).map cB:=by simp [cB]
 have hbl:b.length<=40:=by omega
 have hb2:b.length<=140737488355328:=by omega
 have hb3:b.length<4611686018427387904:=by omega
 simp [c_112,q,hb2,hb3,hrep,-List.map_replicate];refine qbb a.length (fun i e h=>look 1 e=some (.slice 5 (b.map Rw.c))/\look 5 e=some (.row 0 1 0 b.length)/\look 18 e=some (.slice 5 (a.map Rw.c))/\look 19 e=some (.int .i64 a.length)/\look 20 e=some (.int .i64 i)/\
   ∃us:List Bool,us.length=b.length/\(b.map Rw.entry).Perm ((a.take i).map Rw.entry++rem us b)/\HP [(0,AO.row 1 (us.map cB))] 1 h) (fun _=>some (Rt.val (AV.bool (perm a b)))) ?_ ?_ 0 _ _ (Qc _) ?_
 ·rintro i e _ L hi hL ⟨h1,h5,h18,h19,h20,us,hul,hperm,T,n,hT,rfl⟩ ih;have hw:=qaf i (by omega);have hT':=hT (n+1) (Qb _);simp [c_112_l3,Rw.ce,hi,hL,h1,h5,h18,h19,h20,hT'];have step:∀(k:Nat) (e:Env) (h:AH),look 1 e=some (.slice 5 (b.map Rw.c))->look 5 e=some (.row 0 1 0 b.length)->look 18 e=some (.slice 5 (a.map Rw.c))->look 19 e=some (.int .i64 a.length)->look 20 e=some (.int .i64 i)->
    (hk:k<b.length)->us[k]? =some false->a[i].entry=b[k].entry->HP [(0,AO.row 1 ((us.set k true).map cB))] 1 h->
    go Φ (finP [.tmp 4]) (.c c_112_k2::L) .normal ⟨e,h⟩=some (Rt.val (AV.bool (perm a b))):=by
   intro k e h h1 h5 h18 h19 h20 hk hu he hh;simp [c_112_k2,h20,hw];refine ih _ _ ⟨by simp [h1],by simp [h5],by simp [h18],by simp [h19],by simp,us.set k true,by simp [hul],?_,hh⟩;obtain ⟨hk',hu'⟩:=Qm.1 hu;rw [Qh hi,List.map_append];simp only [List.map_cons,List.map_nil,List.append_assoc,List.singleton_append];rw [he];exact hperm.trans (List.Perm.append_left _ (qxi us b k hk' hk hu'))
  have fin:(us.zip b).any (hitP a[i])=false->perm a b=false:=by
   intro hn;refine decide_eq_false fun hp=>?_
   have hno:=qadd hn;have h2:((a.take i).map Rw.entry++(a[i].entry::(a.drop (i+1)).map Rw.entry)).Perm ((a.take i).map Rw.entry++rem us b):=by
    refine List.Perm.trans (List.Perm.of_eq ?_) (hp.trans hperm);rw [<- List.map_cons (f:=Rw.entry),<- Qi hi,<- List.map_append,List.take_append_drop]
   have h3:=(List.perm_append_left_iff _).1 h2;exact hno (h3.subset (by simp))
  have inv:∀(e:Env),look 1 e=some (.slice 5 (b.map Rw.c))->look 5 e=some (.row 0 1 0 b.length)->look 18 e=some (.slice 5 (a.map Rw.c))->look 19 e=some (.int .i64 a.length)->look 20 e=some (.int .i64 i)->True:=fun _ _ _ _ _ _=>trivial
  let Inv:Nat->Env->AH->Prop:=fun k e h=>look 1 e=some (.slice 5 (b.map Rw.c))/\look 5 e=some (.row 0 1 0 b.length)/\look 7 e=some (.ptr (n+1) 5 0 0)/\look 18 e=some (.slice 5 (a.map Rw.c))/\look 19 e=some (.int .i64 a.length)/\look 20 e=some (.int .i64 i)/\
    look 24 e=some (.slice 5 (b.map Rw.c))/\look 25 e=some (.int .i64 b.length)/\look 26 e=some (.int .i64 k)/\
    ∃objs N,Tail objs N/\n+1<N/\look (n+1) objs=some (AO.row 5 [Rw.c a[i]])/\h=⟨(0,AO.row 1 (us.map cB))::objs,N⟩
  have miss:∀k e h L' X,(hk:k<(us.zip b).length)->(∀j s,go Φ (finP [.tmp 4]) L' (.exit j) s=go Φ (finP [.tmp 4]) (Fr.b 2::Fr.c c_112_k1::Fr.b 1::Fr.c c_112_k2::L) (.exit j) s)->Inv k e h->hitP a[i] (us.zip b)[k]=false->
    (∀e' h',Inv (k+1) e' h'->go Φ (finP [.tmp 4]) L' .normal ⟨e',h'⟩=X)->go Φ (finP [.tmp 4]) (.c c_112_l0::L') .normal ⟨e,h⟩=X:=by
   rintro k e _ L' X hk hL' ⟨h1,h5,h7,h18,h19,h20,h24,h25,h26,objs,N,hN,hlt,hx,rfl⟩ hbad ih';have hk1:k<us.length:=by simp at hk;omega
   have hk2:k<b.length:=by simp at hk;omega
   have hw:=qaf k (by omega);simp [hitP] at hbad;have hNN:=hN N (Qb _);have hx2:∀r,look (n+1) (objs++r)=some (AO.row 5 [Rw.c a[i]]):=fun r=>by rw [qdb,hx];rfl
   have n1:¬0=N:=by omega
   have n2:¬N=n+1:=by omega
   have n3:¬n+1=N:=by omega
   cases hu:us[k] with
   | true=>
    simp [c_112_l0,Rw.ce,cBe,hk1,hk2,hL',h1,h5,h7,h18,h19,h20,h24,h25,h26,hNN,hx,hx2,n1,n2,n3,hw,hu];exact ih' _ _ ⟨by simp [h1],by simp [h5],by simp [h7],by simp [h18],by simp [h19],by simp [h20],by simp [h24],by simp [h25],by simp,_,_,hN.app _,by omega,hx2 _,rfl⟩
   | false=>
    have hee:=qmg a[i].entry b[k].entry (hs _ (Qd hi));rw [decide_eq_false (hbad hu)] at hee;simp only [Entry.ce] at hee;simp [c_112_l0,Rw.ce,cBe,hk1,hk2,hL',h1,h5,h7,h18,h19,h20,h24,h25,h26,hNN,hx,hx2,n1,n2,n3,hw,hu,hee];exact ih' _ _ ⟨by simp [h1],by simp [h5],by simp [h7],by simp [h18],by simp [h19],by simp [h20],by simp [h24],by simp [h25],by simp,_,_,hN.app _,by omega,hx2 _,rfl⟩
  have first:∀e,look 1 e=some (.slice 5 (b.map Rw.c))->look 5 e=some (.row 0 1 0 b.length)->look 7 e=some (.ptr (n+1) 5 0 0)->look 18 e=some (.slice 5 (a.map Rw.c))->look 19 e=some (.int .i64 a.length)->look 20 e=some (.int .i64 i)->
    look 24 e=some (.slice 5 (b.map Rw.c))->look 25 e=some (.int .i64 b.length)->look 26 e=some (.int .i64 (0:Nat))->∀x,x=Rw.c a[i]->Inv 0 e ⟨(0,AO.row 1 (us.map cB))::(T++[(n+1,AO.row 5 [x])]),n+2⟩:=by
   rintro e g1 g2 g3 g4 g5 g6 g7 g8 g9 x rfl;exact ⟨g1,g2,g3,g4,g5,g6,g7,g8,g9,_,_,hT.app _,by omega,by simp [hT'],rfl⟩
  cases hany:(us.zip b).any (hitP a[i]) with
  | true=>
   refine qacq (us.zip b) (hitP a[i]) hany _ Inv ?_ (fun k e h L' hk hL' hi hb ih'=>miss k e h L' _ hk hL' hi hb ih') _ _ (first _ ?_ ?_ ?_ ?_ ?_ ?_ ?_ ?_ ?_ _ ?_)
   ·rintro k e _ L' hk hL' ⟨h1,h5,h7,h18,h19,h20,h24,h25,h26,objs,N,hN,hlt,hx,rfl⟩ hbad;have hk1:k<us.length:=by simp at hk;omega
    have hk2:k<b.length:=by simp at hk;omega
    simp [hitP] at hbad;obtain ⟨hu,hen⟩:=hbad;have hNN:=hN N (Qb _);have hx2:∀r,look (n+1) (objs++r)=some (AO.row 5 [Rw.c a[i]]):=fun r=>by rw [qdb,hx];rfl
    have n1:¬0=N:=by omega
    have n2:¬N=n+1:=by omega
    have n3:¬n+1=N:=by omega
    have hee:=qmg a[i].entry b[k].entry (hs _ (Qd hi));rw [decide_eq_true hen] at hee;simp only [Entry.ce] at hee;simp [c_112_l0,Rw.ce,cBe,hk1,hk2,hL',h1,h5,h7,h18,h19,h20,h24,h25,h26,hNN,hx,hx2,n1,n2,n3,hu,hee];refine step k _ _ ?_ ?_ ?_ ?_ ?_ hk2 (by rw [Qa hk1,hu]) hen ?_<;>try simp [*]
    exact ⟨_,N,hN.app _,rfl⟩
   all_goals simp [*,Rw.c]
  | false=>
   refine qaak (us.zip b) (hitP a[i]) hany _ Inv (fun k e h L' hk hL' hi hb ih'=>miss k e h L' _ hk hL' hi hb ih') ?_ _ _ (first _ ?_ ?_ ?_ ?_ ?_ ?_ ?_ ?_ ?_ _ ?_)
   ·rintro e _ L' hL' ⟨h1,h5,h7,h18,h19,h20,h24,h25,h26,objs,N,hN,hlt,hx,rfl⟩;have hzl:(us.zip b).length=b.length:=by simp [hul]
    rw [hzl] at h26;simp [c_112_l0,c_112_k1,hL',h25,h26,fin hany]
   all_goals simp [*,Rw.c]
 ·rintro e _ L hL ⟨h1,h5,h18,h19,h20,us,hul,hperm,T,n,hT,rfl⟩;have hp:perm a b=true:=by
   refine decide_eq_true ?_;rw [List.take_length] at hperm;have hl:=hperm.length_eq;simp only [List.length_map,List.length_append] at hl;have:rem us b=[]:=List.length_eq_zero_iff.1 (by omega);rw [this,List.append_nil] at hperm;exact hperm.symm
  simp [c_112_l3,c_112_k4, *]
 ·simp [q];exact ⟨List.replicate b.length false,by simp,by rw [qu6],by simpa using HP.mk⟩
def qia (p:List Rw×List Rw):Bool:= !perm p.1 p.2
def same (a b:List (List Rw)):Bool:=decide (a.length=b.length)&& !qam (a.zip b) qia 0
def fine (a:List (List Rw)):Prop:=a.length<=16/\∀l∈a,l.length<=40/\∀r∈l,r.entry.sm
theorem qqs (ra rb:List (List Rw)) (a1 a2 a3 b1 b2 b3:AV) (hf:fine ra):
  qab Φ f_47 [.agg [.slice 1 (ra.map (cS 5 Rw.c)),a1,a2,a3],.agg [.slice 1 (rb.map (cS 5 Rw.c)),b1,b2,b3]]=some (.val (.bool (same ra rb))):=by
 rw [qaa (fn:=c_47) rfl rfl];obtain ⟨hf1,hf2⟩:=hf;by_cases q:ra.length=rb.length
 rotate_left
 ·simp [c_47,same,q]
 simp [c_47,same,q];refine qan ra.length (fun i e=>look 3 e=some (.ptr 1 4 0 0)/\look 15 e=some (.slice 1 (ra.map (cS 5 Rw.c)))/\look 16 e=some (.int .i64 ra.length)/\look 17 e=some (.int .i64 i)) (fun i=>some (Rt.val (.bool (!qam (ra.zip rb) qia i)))) ?_ ?_ 0 _ (Qc _) ?_
 ·rintro i e L hi hL ⟨h3,h15,h16,h17⟩ ih;have hi2:i<rb.length:=by omega
  have hz:i<(ra.zip rb).length:=by simp;omega
  have hw:=qaf i (by omega);have hp:=qwi ra[i] rb[i] (hf2 _ (Qd hi)).1 (hf2 _ (Qd hi)).2;cases hb:perm ra[i] rb[i] with
  | true=>
   rw [qcd hz (by simp [qia,hb])];rw [hb] at hp;simp [c_47_l0,cSe,hi,hi2,hL,h3,h15,h16,h17,hw,hp];exact ih _ ⟨by simp [h3],by simp [h15],by simp [h16],by simp⟩
  | false=>
   rw [qdp hz (by simp [qia,hb])];rw [hb] at hp;simp [c_47_l0,cSe,hi,hi2,hL,h3,h15,h16,h17,hp]
 ·rintro e L hL ⟨h3,h15,h16,h17⟩;have hz:ra.length=(ra.zip rb).length:=by simp;omega
  rw [show qam (ra.zip rb) qia ra.length=false by rw [hz];exact qet];simp [c_47_l0,c_47_k1, *]
 ·simp [q]
def mv (a b:Config):Config:=⟨b.rows,b.nextID,b.defaults,a.registers⟩
theorem qacs (a b:Config):qab Φ f_46 [.agg (Config.c a),.agg (Config.c b)]=some (.val (.agg (Config.c (mv a b)))):=by
 rw [qaa (fn:=c_46) rfl rfl];simp [c_46,Config.ce,mv]
theorem qo3 {p:Prg} {a b:Config} (va:CfgV p a) (vb:CfgV p b):∀n,n<=p.tables.length->(opsD p a b n=[]↔∀t,t<n->enR (qak a t)=enR (qak b t)/\qbt a t=qbt b t)
 | 0,_=>by simp [opsD]
 | n+1,hn=>by
  have ih:=qo3 va vb n (by omega);have ha:n<a.rows.length:=by rw [va.rl];omega
  have hu:(qak a n).Pairwise fun x y=>sk x.entry y.entry=false:=by rw [qax ha];exact (va.at (by omega)).uniq
  rw [opsD,List.append_eq_nil_iff,ih,qvn hu];constructor
  ·rintro ⟨h1,h2⟩ t ht;by_cases q:t<n
   ·exact h1 t q
   ·have:t=n:=by omega
    subst this;exact h2
  ·intro h;exact ⟨fun t ht=>h t (by omega),h n (by omega)⟩
theorem qow (x y:List (List Rw)):enRR x=enRR y↔x.length=y.length/\∀k (h:k<x.length) (h2:k<y.length),enR x[k]=enR y[k]:=by
 unfold enRR;constructor
 ·intro h;have hl:x.length=y.length:=by simpa using congrArg List.length h
  refine ⟨hl,fun k h1 h2=>?_⟩;have:=congrArg (fun l=>l[k]?) h;simpa [Qa h1,Qa h2] using this
 ·rintro ⟨hl,h⟩;refine List.ext_getElem (by simpa using hl) fun k h1 h2=>?_
  simp only [List.getElem_map];exact h k (by simpa using h1) (by simpa using h2)
theorem qagb {p:Prg} {a b:Config} (va:CfgV p a) (vb:CfgV p b):opsD p a b p.tables.length=[]↔qgd a (mv a b)=true:=by
 rw [qo3 va vb _ (Qb _)];have h1:=va.rl;have h2:=vb.rl;have h3:=va.dl;have h4:=vb.dl;have hq:qgd a (mv a b)=true↔enRR a.rows=enRR b.rows/\a.defaults=b.defaults:=by
  unfold qgd mv;rw [Bool.and_eq_true,Bool.and_eq_true];exact ⟨fun h=>⟨of_decide_eq_true h.1,of_decide_eq_true h.2.1⟩,fun h=>⟨decide_eq_true h.1,decide_eq_true h.2,decide_eq_true rfl⟩⟩
 rw [hq];constructor
 ·intro h;refine ⟨(qow _ _).2 ⟨by omega,fun k k1 k2=>?_⟩,?_⟩
  ·have:=(h k (by omega)).1
   rwa [qax k1,qax k2] at this
  ·refine List.ext_getElem (by omega) fun k k1 k2=>?_
   have:=(h k (by omega)).2;simpa [qbt,qeo,Qa k1,Qa k2] using this
 ·rintro ⟨h5,h6⟩ t ht;have k1:t<a.rows.length:=by omega
  have k2:t<b.rows.length:=by omega
  refine ⟨?_,by unfold qbt;rw [h6]⟩;rw [qax k1,qax k2];exact ((qow _ _).1 h5).2 t k1 k2
theorem qt4 {p:Prg} {a:Config} (va:CfgV p a):qgg p a []=false:=by
 unfold qgg;rw [List.any_eq_false];intro t ht;have ht':t<p.tables.length:=by simpa using ht
 have h1:t<a.nextID.length:=by rw [va.nl];exact ht'
 have:=(va.at ht').nx1;rw [qd1 h1];simp [insN];omega
theorem qab6 {p:Prg} {a b:Config} (va:CfgV p a) (vb:CfgV p b):∃(L:List TableOp) (E:Int),qc1 p a b= .tup [.slice 9 (L.map TableOp.c),.int .i64 E]/\(E=0\/E=12\/E=13)/\((E=0/\L=[])↔qgd a (mv a b)=true):=by
 have z1:=(qcf p a).2 va;have z2:=(qcf p b).2 vb;unfold qc1;rw [if_neg (by simpa using z1),if_neg (by simpa using z2),<- qagb va vb];by_cases h:opsD p a b p.tables.length=[]
 ·rw [h,if_neg (by simp),qt4 va];exact ⟨[],0,rfl,.inl rfl,by simp⟩
 ·by_cases z3:64<(opsD p a b p.tables.length).length
  ·rw [if_pos z3];exact ⟨[],12,rfl,.inr (.inl rfl),by simp [h]⟩
  rw [if_neg z3];split
  ·exact ⟨[],13,rfl,.inr (.inr rfl),by simp [h]⟩
  ·exact ⟨_,0,rfl,.inl rfl,by simp [h]⟩
theorem qags {x y:List (List Rw)} (h:enRR x=enRR y):same x y=true:=by
 obtain ⟨hl,hk⟩:=(qow x y).1 h;unfold same;rw [Bool.and_eq_true];refine ⟨by simpa using hl,?_⟩;rw [Bool.not_eq_true'];unfold qam;rw [List.drop_zero,List.any_eq_false];intro q hq;obtain ⟨k,hk1,rfl⟩:=Qn.1 hq;rw [List.length_zip] at hk1;rw [List.getElem_zip];have:=hk k (by omega) (by omega);unfold enR at this;simp only [qia,perm,this,List.Perm.refl,decide_true,Bool.not_true,Bool.false_eq_true,not_false_eq_true]
theorem qih (p:Prg) (a b:Config) (op:p.Ok qa2) (oa:a.Ok qa2) (ob:b.Ok qa2):
  qab Φ f_9 [.agg (Prg.c p),.agg (Config.c a),.agg (Config.c b)]=some (.val (.bool true)):=by
 have f:=qqr op;have sa:=qjw oa;have sb:=qjw ob;have hv:=qyj op;obtain ⟨w,hb,hb2⟩:=qnk p a op;have hsb:=qgo b;rw [qaa (fn:=c_9) rfl rfl];cases w with
 | false=>
  simp only [Prg.e,Config.ce] at hb;simp [c_9,Prg.e,Config.ce,hb,qcz]
 | true=>
 cases b2:qe6 b with
 | false=>
  rw [b2] at hsb;simp only [Prg.e,Config.ce] at hb hsb;simp [c_9,Prg.e,Config.ce,hb,hsb,qcz]
 | true=>
 rw [b2] at hsb;obtain ⟨hc0,hsa⟩:=hb2 rfl;have hc:(pre p.control).length<2^40 - 1:=by omega
 have hp:p.tables.length<2^26:=by have:=op.2.2.2.2.2.1.1;have:=qdy;omega
 have c1:=qiv p f hv hc a sa;have c2:=qiv p f hv hc b sb;have k1:=qnr p f hc hp sa sb;have km:=qacs a b;have kq:=qrg a (mv a b) (qaeq sa);have hfine:fine a.rows:=by
  unfold qe6 at hsa;simp only [Bool.and_eq_true,decide_eq_true_eq,Bool.not_eq_true',qam,List.drop_zero] at hsa;obtain ⟨⟨⟨⟨⟨⟨h1,_⟩,_⟩,_⟩,h5⟩,_⟩,_⟩:=hsa;refine ⟨h1,fun l hl=>?_⟩;have h8:=List.any_eq_false.1 h5 l hl;simp only [qe8,Bool.or_eq_true,not_or,decide_eq_true_eq,Bool.not_eq_true] at h8;exact ⟨by omega,fun r hr=>⟨((sa.rs l hl).2 r hr).kl,((sa.rs l hl).2 r hr).al⟩⟩
 by_cases z1:cfgE p a=0
 rotate_left
 ·simp only [Prg.e,Config.ce] at hb hsb c1;simp [c_9,Prg.e,Config.ce,hb,hsb,c1,z1,qcz]
 by_cases z2:cfgE p b=0
 rotate_left
 ·simp only [Prg.e,Config.ce] at hb hsb c1 c2;simp [c_9,Prg.e,Config.ce,hb,hsb,c1,c2,z1,z2,qcz]
 have va:=(qcf p a).1 z1;have vb:=(qcf p b).1 z2;obtain ⟨L,E,hE,hEv,hiff⟩:=qab6 va vb;rw [hE] at k1;rw [z1] at c1;rw [z2] at c2;have ks:=qqs a.rows b.rows (.slice 1 (a.nextID.map cI)) (.slice 2 (a.defaults.map ActionCall.c)) (.slice 1 (a.registers.map (cS 1 c32))) (.slice 1 (b.nextID.map cI)) (.slice 2 (b.defaults.map ActionCall.c)) (.slice 1 (b.registers.map (cS 1 c32))) hfine;cases hB:qgd a (mv a b) with
 | true=>
  obtain ⟨rfl,rfl⟩:=hiff.2 hB;rw [hB] at kq;have hR:enRR a.rows=enRR b.rows:=by
   unfold qgd mv at hB;rw [Bool.and_eq_true,Bool.and_eq_true] at hB;exact of_decide_eq_true hB.1
  rw [qags hR] at ks;simp only [Prg.e,Config.ce,mv] at hb hsb c1 c2 k1 km kq;simp [c_9,Prg.e,Config.ce,hb,hsb,c1,c2,k1,km,kq,ks,qcz]
 | false=>
  rw [hB] at hiff kq;simp only [Prg.e,Config.ce,mv] at hb hsb c1 c2 k1 km kq;rcases hEv with rfl | rfl | rfl
  ·have hL:L≠[]:=fun h=>by have:=hiff.1 ⟨rfl,h⟩;cases this
   simp [c_9,Prg.e,Config.ce,hb,hsb,c1,c2,k1,km,kq,hL,qcz]
  ·simp [c_9,Prg.e,Config.ce,hb,hsb,c1,c2,k1,km,kq,qcz]
  ·simp [c_9,Prg.e,Config.ce,hb,hsb,c1,c2,k1,km,kq,qcz]
theorem qub {x:List Rw} (hu:x.Pairwise fun a b=>sk a.entry b.entry=false):∀(b:List Rw) (f:Nat) (ss:List Nat),ss.length=b.length->ss.Pairwise (· < ·)->(∀s∈ss,f<=s)->(∀k (h:k<ss.length) (h2:k<b.length),∃hx:ss[k]<x.length,sk x[ss[k]].entry b[k].entry=true)->qaz x f b=ss
 | [],f,ss,hl,_,_,_=>by
  have:ss=[]:=Qg (by simpa using hl);simp [qaz,this]
 | y::b,f,[],hl,_,_,_=>by simp at hl
 | y::b,f,s::ss,hl,hp,hf,hs=>by
  rw [List.pairwise_cons] at hp;obtain ⟨h0,h1⟩:=hs 0 (by simp) (by simp);simp only [List.getElem_cons_zero] at h0 h1;rw [qaz,qtm hu h0 h1];simp only [hf s (by simp),if_true];rw [qub hu b (s+1) ss (by simpa using hl) hp.2 (fun q hq=>hp.1 q hq) fun k h h2=>hs (k+1) (by simp;omega) (by simp;omega)]
theorem qr5 {x:List Rw} {r:Rw} (hn:atF x r.entry=none):∀(b:List Rw) (f:Nat),qaz x f (b++[r])=qaz x f b
 | [],f=>by simp [qaz,hn]
 | y::b,f=>by
  rw [List.cons_append,qaz,qaz];cases atF x y.entry with
  | none=>rfl
  | some i=>simp only [qr5 hn b (i+1)]
theorem qpz {x:List Rw} (hu:x.Pairwise fun a b=>sk a.entry b.entry=false):qaz x 0 x=List.range' 0 x.length:=by
 refine qi8 hu x 0 (by omega) fun k h h2=>?_
 simp only [Nat.zero_add];exact qrm _
theorem qabi {t:Int} {x:List Rw} {r:Rw} {d:ActionCall} (hu:x.Pairwise fun a b=>sk a.entry b.entry=false) (hn:atF x r.entry=none):tabG t x (x++[r]) d d=[insO t r]:=by
 have hm:modG t x (List.range' 0 x.length) (x++[r])=[]:=by
  refine (qfw t x _ _ (by simp)).1 fun k h1 h2 q hq=>?_
  simp only [List.length_range'] at h1;simp only [List.getElem_range',Nat.zero_add,Nat.one_mul] at hq;rw [Qa h1] at hq;cases hq;rw [List.getElem_append_left h1]
 unfold tabG;rw [qr5 hn,qpz hu,qgs,hm];simp
theorem qpo (t:Int) (r:Rw) (w:List Rw):∀(u:List Rw) (j:Nat),delG t (u++r::w) j (List.range' j u.length++List.range' (j+u.length+1) w.length)=[delO t r]
 | [],j=>by
  cases w with
  | nil=>simp [delG]
  | cons q w=>
   have:=qgs t (q::w) (j+1);simp only [List.length_cons,List.range'_succ] at this;simp only [List.nil_append,List.length_nil,List.range'_zero,List.length_cons,List.range'_succ,Nat.add_zero];rw [delG,if_neg (by omega),this]
 | a::u,j=>by
  have:=qpo t r w u (j+1);simp only [List.length_cons,List.range'_succ,List.cons_append];rw [delG,if_pos rfl];rw [show j+(u.length+1)+1=j+1+u.length+1 by omega];exact this
theorem qaed {t:Int} {u w:List Rw} {r:Rw} {d:ActionCall} (hu:(u++r::w).Pairwise fun a b=>sk a.entry b.entry=false):tabG t (u++r::w) (u++w) d d=[delO t r]:=by
 have hlen:(List.range' 0 u.length++List.range' (0+u.length+1) w.length).length=(u++w).length:=by simp
 have get:∀k (h:k<(List.range' 0 u.length++List.range' (0+u.length+1) w.length).length) (h2:k<(u++w).length),(u++r::w)[(List.range' 0 u.length++List.range' (0+u.length+1) w.length)[k]]? =some (u++w)[k]:=by
  intro k h h2;by_cases hk:k<u.length
  ·rw [List.getElem_append_left (by simpa using hk),List.getElem_append_left hk,List.getElem_range'];simp only [Nat.zero_add,Nat.one_mul];rw [Ql hk,Qa hk]
  ·rw [List.getElem_append_right (by simpa using hk),List.getElem_append_right (by omega),List.getElem_range'];simp only [List.length_range',Nat.zero_add,Nat.one_mul];rw [Qp (by omega)];rw [show u.length+1+(k - u.length) - u.length=(k - u.length)+1 by omega,List.getElem?_cons_succ];exact Qa _
 have hk:qaz (u++r::w) 0 (u++w)=List.range' 0 u.length++List.range' (0+u.length+1) w.length:=by
  refine qub hu _ _ _ hlen ?_ (fun _ _=>Qc _) fun k h h2=>?_
  ·rw [List.pairwise_append];refine ⟨List.pairwise_lt_range' ..,List.pairwise_lt_range' ..,fun a ha b hb=>?_⟩;rw [List.mem_range'_1] at ha hb;omega
  ·have hg:=get k h h2;obtain ⟨hx,he⟩:=Qm.1 hg;exact ⟨hx,by rw [he];exact qrm _⟩
 have hm:modG t (u++r::w) (List.range' 0 u.length++List.range' (0+u.length+1) w.length) (u++w)=[]:=by
  refine (qfw t _ _ _ (by omega)).1 fun k h1 h2 q hq=>?_
  rw [get k h1 h2] at hq;cases hq;rfl
 unfold tabG;have hd:=qpo t r w u 0;rw [hk,hd,hm,List.drop_of_length_le (by omega)];simp
theorem quj (t:Int) (x:List Rw):∀(i:Nat) (ss:List Nat) (y:List Rw),ss.length<=y.length->(∀k (h:k<ss.length) (h2:k<y.length),k≠i->∀q,x[ss[k]]? =some q->q.entry.call=y[k].entry.call)->modG t x ss y=[]\/∃q c,modG t x ss y=[modO t q c]
 | _,[],y,_,_=>by simp [modG]
 | _,s::ss,[],h,_=>by simp at h
 | 0,s::ss,r::y,hl,h=>by
  have h0:modG t x ss y=[]:=(qfw t x ss y (by simpa using hl)).1 fun k h1 h2 q hq=>h (k+1) (by simp;omega) (by simp;omega) (by omega) q (by simpa using hq)
  rw [modG,h0];cases x[s]? with
  | none=>simp
  | some q=>
   simp only;split
   ·simp
   ·exact .inr ⟨_,_,rfl⟩
 | i+1,s::ss,r::y,hl,h=>by
  have ih:=quj t x i ss y (by simpa using hl) fun k h1 h2 hk q hq=>h (k+1) (by simp;omega) (by simp;omega) (by omega) q (by simpa using hq)
  rw [modG];cases hx:x[s]? with
  | none=>exact ih
  | some q=>
   simp only;have h0:=h 0 (by simp) (by simp) (by omega) q (by simpa using hx);simp only [List.getElem_cons_zero] at h0;rw [if_pos h0];exact ih
theorem qaef {t:Int} {x:List Rw} {i:Nat} {c d:ActionCall} (hu:x.Pairwise fun a b=>sk a.entry b.entry=false):tabG t x (x.modify i (qa9 c)) d d=[]\/∃q e,tabG t x (x.modify i (qa9 c)) d d=[modO t q e]:=by
 have hk:qaz x 0 (x.modify i (qa9 c))=List.range' 0 x.length:=by
  have:=qi8 hu (x.modify i (qa9 c)) 0 (by simp) fun k h h2=>by
   simp only [Nat.zero_add,List.getElem_modify];split<;>simp [sk,qa9]
  simpa using this
 have hm:=quj t x i (List.range' 0 x.length) (x.modify i (qa9 c)) (by simp) fun k h h2 hki q hq=>by
  simp only [List.length_range'] at h;simp only [List.getElem_range',Nat.zero_add,Nat.one_mul] at hq;rw [Qa h] at hq;cases hq;rw [List.getElem_modify,if_neg (by omega)]
 have he:tabG t x (x.modify i (qa9 c)) d d=modG t x (List.range' 0 x.length) (x.modify i (qa9 c)):=by
  unfold tabG;rw [hk,qgs,List.drop_of_length_le (by simp)];simp
 rw [he];exact hm
theorem qaeg {t:Int} {x:List Rw} {c d:ActionCall} (hu:x.Pairwise fun a b=>sk a.entry b.entry=false):tabG t x x d c=if d=c then [] else [setO t c]:=by
 have hm:modG t x (List.range' 0 x.length) x=[]:=by
  refine (qfw t x _ _ (by simp)).1 fun k h1 h2 q hq=>?_
  simp only [List.length_range'] at h1;simp only [List.getElem_range',Nat.zero_add,Nat.one_mul] at hq;rw [Qa h1] at hq;cases hq;rfl
 unfold tabG;rw [qpz hu,qgs,hm];simp
theorem qis {p:Prg} {a b:Config} (va:CfgV p a) {k:Nat} (ho:∀t,t<p.tables.length->t≠k->qak b t=qak a t/\qbt b t=qbt a t):∀n,n<=p.tables.length->opsD p a b n=if k<n then tabG k (qak a k) (qak b k) (qbt a k) (qbt b k) else []
 | 0,_=>by simp [opsD]
 | n+1,hn=>by
  rw [opsD,qis va ho n (by omega)];by_cases h:n=k
  ·subst h;simp
  ·have ha:n<a.rows.length:=by rw [va.rl];omega
   have hu:(qak a n).Pairwise fun x y=>sk x.entry y.entry=false:=by rw [qax ha];exact (va.at (by omega)).uniq
   obtain ⟨e1,e2⟩:=ho n (by omega) h;rw [(qvn hu _ _).2 ⟨by rw [e1],by rw [e2]⟩,List.append_nil];by_cases h2:k<n
   ·rw [if_pos h2,if_pos (by omega)]
   ·rw [if_neg h2,if_neg (by omega)]
theorem qyd {p:Prg} {c:Config} {t:Int} {x:Entry} (h:insE p c t x=0):inT p t=true/\(qak c t).any (fun y=>sk y.entry x)=false/\qc2 c t<1073741824:=by
 unfold insE at h;cases hi:inT p t with
 | false=>rw [if_pos hi] at h;cases h
 | true=>
 rw [if_neg (by rw [hi];decide)] at h;split at h
 ·rename_i h1;exact absurd h h1
 split at h
 ·cases h
 rename_i h2;split at h
 ·cases h
 rename_i h3;exact ⟨rfl,by simpa using h2,by omega⟩
theorem setA {α:Type} {l:List α} {k:Nat} {z:α} (hk:k<l.length) (t:Nat):at? (l.set k z) (t:Int)=if t=k then some z else at? l (t:Int):=by
 rw [qeo,qeo,List.getElem?_set];by_cases h:k=t
 ·subst h;simp [hk]
 ·rw [if_neg h,if_neg (fun e=>h e.symm)]
def qvf (o:TableOp) (L:List TableOp):Prop:=(L=[]/\(o.kind=2\/o.kind=4))\/∃o',L=[o']/\o'.kind=o.kind/\o'.table=o.table
theorem qacg {p:Prg} {c:Config} (v:CfgV p c) {o:TableOp} {L:List TableOp} (hL:qvf o L) (hn:o.kind=1->qc2 c o.table<1073741824):qgg p c L=false:=by
 unfold qgg;rw [List.any_eq_false];intro t ht;have ht':t<p.tables.length:=by simpa using ht
 have h1:t<c.nextID.length:=by rw [v.nl];exact ht'
 have n1:=(v.at ht').nx1;rcases hL with ⟨rfl,_⟩ | ⟨o',rfl,hk,hta⟩
 ·rw [qd1 h1];simp [insN];omega
 ·by_cases h:o'.kind=1/\o'.table=t
  ·have:=hn (hk ▸ h.1);rw [<- hta,h.2] at this;simp [insN,h];omega
  ·rw [qd1 h1];simp only [insN,List.filter_cons,decide_eq_true_eq,if_neg h,List.filter_nil,List.length_nil];omega
theorem qag7 {p:Prg} {c:Config} (v:CfgV p c) {o:TableOp} (hx:xoE p c o=0):qvf o (opsD p c (xoC p c o) p.tables.length)/\qgg p c (opsD p c (xoC p c o) p.tables.length)=false:=by
 have key:qvf o (opsD p c (xoC p c o) p.tables.length)/\(o.kind=1->qc2 c o.table<1073741824):=by
  have hC:xoC p c o=xoD c o:=by unfold xoC;rw [if_pos hx]
  rw [hC];unfold xoE at hx;unfold xoD;by_cases k1:o.kind=1
  ·rw [if_pos k1] at hx ⊢;obtain ⟨hi,ha,hn⟩:=qyd hx;refine ⟨?_,fun _=>hn⟩;obtain ⟨k,hk,hkl⟩:=qfb hi;have l1:k<c.rows.length:=by rw [v.rl];exact hkl
   have hu:(qak c k).Pairwise fun x y=>sk x.entry y.entry=false:=by rw [qax l1];exact (v.at hkl).uniq
   have hr:∀t:Nat,qak (insC c k o.entry) t=if t=k then qak c k++[⟨qc2 c k,o.entry⟩] else qak c t:=by
    intro t;unfold insC;simp only [qak,Int.toNat_natCast,setA l1];split<;>simp
   rw [hk] at ha ⊢;rw [qis (b:=insC c k o.entry) v (k:=k) (fun t ht hne=>⟨by rw [hr,if_neg hne],rfl⟩) _ (Qb _),if_pos hkl,hr,if_pos rfl];have hd:qbt (insC c k o.entry) k=qbt c k:=rfl;have hat:atF (qak c k) o.entry=none:=by
    unfold atF;rw [List.findIdx?_eq_none_iff];intro r hr2;have:=List.any_eq_false.1 ha r hr2;simpa using this
   rw [hd,qabi hu hat];exact .inr ⟨_,rfl,by simp [insO,k1],by simp [insO,hk]⟩
  refine ⟨?_,fun h=>absurd h k1⟩;rw [if_neg k1] at hx ⊢;by_cases k2:o.kind=2
  ·rw [if_pos k2] at hx ⊢;unfold modE at hx;cases hi:inT p o.table with
   | false=>rw [if_pos hi] at hx;cases hx
   | true=>
   rw [if_neg (by rw [hi];decide)] at hx;obtain ⟨k,hk,hkl⟩:=qfb hi;have l1:k<c.rows.length:=by rw [v.rl];exact hkl
   have hu:(qak c k).Pairwise fun x y=>sk x.entry y.entry=false:=by rw [qax l1];exact (v.at hkl).uniq
   rw [hk] at hx ⊢;unfold modC;cases hri:rIdx (qak c k) o.id with
   | none=>rw [if_pos hri] at hx;cases hx
   | some i=>
   simp only;have hr:∀t:Nat,qak ⟨c.rows.set (k:Int).toNat ((qak c k).modify i (qa9 o.call)),c.nextID,c.defaults,c.registers⟩ t=if t=k then (qak c k).modify i (qa9 o.call) else qak c t:=by
    intro t;simp only [qak,Int.toNat_natCast,setA l1];split<;>simp
   rw [qis (b:=⟨c.rows.set (k:Int).toNat ((qak c k).modify i (qa9 o.call)),c.nextID,c.defaults,c.registers⟩) v (k:=k) (fun t ht hne=>⟨by rw [hr,if_neg hne],rfl⟩) _ (Qb _),if_pos hkl,hr,if_pos rfl];have hd:qbt ⟨c.rows.set (k:Int).toNat ((qak c k).modify i (qa9 o.call)),c.nextID,c.defaults,c.registers⟩ k=qbt c k:=rfl;rw [hd];rcases qaef (t:=k) (i:=i) (c:=o.call) (d:=qbt c k) hu with h | ⟨q,e,h⟩
   ·rw [h];exact .inl ⟨rfl,.inl k2⟩
   ·rw [h];exact .inr ⟨_,rfl,by simp [modO,k2],by simp [modO,hk]⟩
  rw [if_neg k2] at hx ⊢;by_cases k3:o.kind=3
  ·rw [if_pos k3] at hx ⊢;unfold delE at hx;cases hi:inT p o.table with
   | false=>rw [if_pos hi] at hx;cases hx
   | true=>
   rw [if_neg (by rw [hi];decide)] at hx;obtain ⟨k,hk,hkl⟩:=qfb hi;have l1:k<c.rows.length:=by rw [v.rl];exact hkl
   have hu:(qak c k).Pairwise fun x y=>sk x.entry y.entry=false:=by rw [qax l1];exact (v.at hkl).uniq
   rw [hk] at hx ⊢;unfold delC;cases hri:rIdx (qak c k) o.id with
   | none=>rw [if_pos hri] at hx;cases hx
   | some i=>
   simp only;obtain ⟨hil,_⟩:=qje hri;have hr:∀t:Nat,qak ⟨c.rows.set (k:Int).toNat ((qak c k).eraseIdx i),c.nextID,c.defaults,c.registers⟩ t=if t=k then (qak c k).eraseIdx i else qak c t:=by
    intro t;simp only [qak,Int.toNat_natCast,setA l1];split<;>simp
   rw [qis (b:=⟨c.rows.set (k:Int).toNat ((qak c k).eraseIdx i),c.nextID,c.defaults,c.registers⟩) v (k:=k) (fun t ht hne=>⟨by rw [hr,if_neg hne],rfl⟩) _ (Qb _),if_pos hkl,hr,if_pos rfl];have hd:qbt ⟨c.rows.set (k:Int).toNat ((qak c k).eraseIdx i),c.nextID,c.defaults,c.registers⟩ k=qbt c k:=rfl;rw [hd];have hsp:qak c k=(qak c k).take i++(qak c k)[i]::(qak c k).drop (i+1):=by simp
   have her:(qak c k).eraseIdx i=(qak c k).take i++(qak c k).drop (i+1):=List.eraseIdx_eq_take_drop_succ _ _;rw [her];rw [hsp] at hu;have:=qaed (t:=k) (d:=qbt c k) hu;rw [<- hsp] at this;rw [this];exact .inr ⟨_,rfl,by simp [delO,k3],by simp [delO,hk]⟩
  rw [if_neg k3] at hx ⊢;by_cases k4:o.kind=4
  rotate_left
  ·rw [if_neg k4] at hx;cases hx
  rw [if_pos k4] at hx;unfold defE at hx;cases hi:inT p o.table with
  | false=>rw [if_pos hi] at hx;cases hx
  | true=>
  obtain ⟨k,hk,hkl⟩:=qfb hi;have l1:k<c.rows.length:=by rw [v.rl];exact hkl
  have l3:k<c.defaults.length:=by rw [v.dl];exact hkl
  have hu:(qak c k).Pairwise fun x y=>sk x.entry y.entry=false:=by rw [qax l1];exact (v.at hkl).uniq
  rw [hk];have hd:∀t:Nat,qbt (defC c k o.call) t=if t=k then o.call else qbt c t:=by
   intro t;unfold defC;simp only [qbt,Int.toNat_natCast,setA l3];split<;>simp
  rw [qis (b:=defC c k o.call) v (k:=k) (fun t ht hne=>⟨rfl,by rw [hd,if_neg hne]⟩) _ (Qb _),if_pos hkl,hd,if_pos rfl];have hr:qak (defC c k o.call) k=qak c k:=rfl;rw [hr,qaeg hu];split
  ·exact .inl ⟨rfl,.inr k4⟩
  ·exact .inr ⟨_,rfl,by simp [setO,k4],by simp [setO,hk]⟩
 exact ⟨key.1,qacg v key.1 key.2⟩
theorem qabv {p:Prg} {c:Config} {o:TableOp} (h:badA p c [o]=none):cfgE p c=0/\xoE p c o=0:=by
 have z:=qzd h;refine ⟨z,?_⟩;unfold badA at h;simp only [z,ne_eq,not_true,if_false,List.length_cons,List.length_nil,Option.map_eq_none_iff] at h;rw [if_neg (by omega)] at h;simp only [Option.map_eq_none_iff,badF] at h;by_cases q:xoE p c o=0
 ·exact q
 ·rw [if_neg q] at h;cases h
theorem qtu {p:Prg} {a b:Config} (va:CfgV p a) (vb:CfgV p b) {L:List TableOp} (hL:opsD p a b p.tables.length=L) (h1:L.length<=64) (hf:qgg p a L=false):qc1 p a b= .tup [.slice 9 (L.map TableOp.c),.int .i64 0]:=by
 have z1:=(qcf p a).2 va;have z2:=(qcf p b).2 vb;unfold qc1;rw [if_neg (by simpa using z1),if_neg (by simpa using z2),hL,if_neg (by omega),hf];rfl
theorem qky (p:Prg) (c:Config) (o:TableOp) (op:p.Ok qa2) (oc:c.Ok qa2) (oo:o.Ok qa2):
  qab Φ f_8 [.agg (Prg.c p),.agg (Config.c c),.agg (TableOp.c o)]=some (.val (.bool true)):=by
 have f:=qqr op;have s:=qjw oc;have hv:=qyj op;have hl:∀x∈[o],OpS x:=fun x hx=>by simp at hx;subst hx;exact qahm oo
 obtain ⟨w,hb,hb2⟩:=qnk p c op;have ho:=qvy [o];rw [qaa (fn:=c_8) rfl rfl];cases w with
 | false=>
  simp only [Prg.e,Config.ce] at hb;simp [c_8,Prg.e,Config.ce,TableOp.c,hb,qcz]
 | true=>
 cases b2:qlv [o] with
 | false=>
  rw [b2] at ho;simp only [Prg.e,Config.ce,TableOp.c,List.map_cons,List.map_nil] at hb ho;simp [c_8,Prg.e,Config.ce,TableOp.c,hb,ho,qcz]
 | true=>
 rw [b2] at ho;have hc:(pre p.control).length<2^40 - 1:=by have:=(hb2 rfl).1;omega
 have hp:p.tables.length<2^26:=by have:=op.2.2.2.2.2.1.1;have:=qdy;omega
 have k2:=qaax p f hv hc f.t s [o] (by simp) hl;cases hA:badA p c [o] with
 | some x=>
  obtain ⟨k,e⟩:=x;have he:=qww hA;rw [show appA p c [o]= .tup [.agg noC,.slice 1 [],.int .i64 k,.int .i64 e] by simp only [appA,hA]] at k2;simp only [Prg.e,Config.ce,noC,TableOp.c,List.map_cons,List.map_nil] at hb ho k2;simp [c_8,Prg.e,Config.ce,TableOp.c,hb,ho,k2,he,qcz]
 | none=>
  obtain ⟨z,hx⟩:=qabv hA;have v:=(qcf p c).1 z;have v':=qvw (p:=p) v o;have s':=xoC_t v s f.t o (hl o (by simp));have hd:cfgN p c [o] [o].length=xoC p c o:=by
   rw [show [o].length=0+1 from rfl,qi3 p c [o] (by simp),qi4];rfl
  rw [show appA p c [o]= .tup [.agg (Config.c (cfgN p c [o] [o].length)),.slice 1 (idsA p c [o]),.int .i64 0,.int .i64 0] by simp only [appA,hA];rfl,hd] at k2;obtain ⟨h1,h2⟩:=qag7 v hx;have k3:=qnr p f hc hp s s';have k4:=qnr p f hc hp s s;rw [qtu v v' rfl (by rcases h1 with ⟨h,_⟩ | ⟨_,h,_⟩<;>rw [h]<;>simp) h2] at k3;rw [qtu v v (L:=[]) ((qo3 v v _ (Qb _)).2 fun _ _=>⟨rfl,rfl⟩) (by simp) (qt4 v)] at k4;generalize idsA p c [o]=il at k2;generalize hdd:xoC p c o=d at k2 k3 h1;simp only [Prg.e,Config.ce,TableOp.c,List.map_cons,List.map_nil] at hb ho k2 k3 k4;rcases h1 with ⟨h,hk⟩ | ⟨q,h,hk,ht⟩
  ·rw [h] at k3;have q1:¬o.kind=1:=by omega
   have q3:¬o.kind=3:=by omega
   simp [c_8,Prg.e,Config.ce,TableOp.c,hb,ho,k2,k3,k4,q1,q3,qcz]
  ·rw [h] at k3;simp [c_8,Prg.e,Config.ce,TableOp.c,hb,ho,k2,k3,k4,hk,ht,qcz]
end Go.Av
