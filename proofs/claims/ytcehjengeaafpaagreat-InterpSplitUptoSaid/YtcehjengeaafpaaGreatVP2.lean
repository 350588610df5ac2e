/-
 What a valid program is, in plain parts: headers, actions, tables, control, deparser.
-/
import Derived.Test.YtcehjengeaafpaaGreatPX11
set_option linter.unusedVariables false
set_option linter.unusedSimpArgs false
set_option linter.constructorNameAsVariable false
namespace Go.Av
theorem De {f:Nat->Option (Int×Int)} {N:Nat} (hf:∀i x,f i=some x->x.2≠0) (h:((fe f N 0).getD (0,0)).2=0):fe f N 0=none:=by
 cases q:fe f N 0 with
 | none=>rfl
 | some x=>
  rw [q] at h;obtain ⟨k,_,e⟩:=r9 q;exact absurd h (hf k x e)
theorem Oc {l:List Fld} (h:GQ l=none):∀f∈l,1<=f.Yc/\f.Yc<=32:=fun f hf=>by
 obtain ⟨i,hi,rfl⟩:=Qn.1 hf;have:=rV h hi;unfold er at this;split at this
 ·rename_i q;exact Ob q
 ·cases this
theorem Jv {l:List Fld} {e:Int} (h:GQ l=some e):e≠0:=by
 obtain ⟨k,hk,q⟩:=r9 h;rw [Qa hk] at q;simp only [gI] at q;unfold er at q;split at q
 ·cases q
 ·cases q;assumption
structure VHdr (h:Xi):Prop where
 n:1<=h.Xz.length/\h.Xz.length<=12
 w:∀f∈h.Xz,1<=f.Yc/\f.Yc<=32
 s:wSum h.Xz % 8=0
theorem vhdr {h:Xi} (e:hdrE h=0):VHdr h:=by
 unfold hdrE at e;split at e
 ·cases e
 split at e
 ·cases e
 split at e
 ·cases e
 rename_i a b c;split at e
 ·rename_i q;exact absurd e (Jv q)
 ·rename_i q;split at e
  ·rename_i s;exact ⟨by omega,Oc q,s⟩
  ·cases e
structure VAct (p:Prg) (a:Action):Prop where
 pl:a.params.length<=4
 bl:a.body.length<=12
 pw:∀f∈a.params,1<=f.Yc/\f.Yc<=32
 st:∀s∈a.body,stmE p a.params s=0
theorem vact {p:Prg} {i:Nat} (hi:i<p.Xx.length) (e:(actE p i).2=0):VAct p p.Xx[i]:=by
 unfold actE at e;rw [show at? p.Xx (i:Int)=some p.Xx[i] by simp [hi]] at e;simp only at e;generalize p.Xx[i]=a at*;split at e
 ·exact absurd e (by assumption)
 rename_i hd;simp only [ne_eq,Decidable.not_not] at hd;unfold actD at hd;split at hd
 ·cases hd
 split at hd
 ·cases hd
 rename_i _ hl;have hf:GQ a.params=none:=by
  cases q:GQ a.params with
  | none=>rfl
  | some x=>rw [q] at hd;exact absurd hd (Jv q)
 have hb:=De (fun k x h=>by
  cases q:a.body[k]? with
  | none=>rw [q] at h;cases h
  | some s=>
   rw [q] at h;simp only [gI] at h;split at h
   ·cases h
   ·cases h;assumption) e
 refine ⟨by omega,by omega,Oc hf,fun s hs=>?_⟩;obtain ⟨k,hk,rfl⟩:=Qn.1 hs;exact yH (rV hb hk)
structure VTbl (p:Prg) (x:Tbl):Prop where
 kl:x.keys.length<=6
 sz:1<=x.size/\x.size<=256
 kw:∀k∈x.keys,wid p k.field.header k.field.field≠0
 kk:∀k∈x.keys,k.kind=1\/k.kind=2\/k.kind=3
 ac:∀a∈x.Xx,0<=a/\a<p.Xx.length
 df:kZ p x.Yb=0
structure VCtl (p:Prg):Prop where
 n:(pre p.Ya).length<=24
 d:nest p.Ya<=6
 e:∀(i:Nat) (h:i<(pre p.Ya).length),yU p ((pre p.Ya).take i) (pre p.Ya)[i]=0
theorem vctl {p:Prg} (e:(ctlE p).2=0):VCtl p:=by
 unfold ctlE at e;split at e
 ·cases e
 split at e
 ·cases e
 rename_i a b;have hn:=De (fun k x h=>by
  cases q:(pre p.Ya)[k]? with
  | none=>rw [q] at h;cases h
  | some s=>
   rw [q] at h;simp only [gI] at h;split at h
   ·cases h
   ·cases h;assumption) e
 exact ⟨by omega,by omega,fun i h=>yH (rV hn h)⟩
theorem VCtl.one {p:Prg} (v:VCtl p) {i j:Nat} {x y:Xa} (hij:i<j) (hx:(pre p.Ya)[i]? =some x) (hy:(pre p.Ya)[j]? =some y) (ax:appl x=true) (ay:appl y=true):x.table≠y.table:=by
 obtain ⟨hj,rfl⟩:=Qm.1 hy;have:=v.e j hj;unfold yU at this;have hk:(pre p.Ya)[j].kind=1\/(pre p.Ya)[j].kind=3:=by
  unfold appl at ay;simpa using ay
 have h2:¬(pre p.Ya)[j].kind=2:=by omega
 rw [QA h2,a8 hk] at this;split at this
 ·cases this
 split at this
 ·cases this
 rename_i hn;intro ht;refine hn (zF.2 ⟨x,?_,by simp [ax,ht]⟩);rw [List.mem_take_iff_getElem];obtain ⟨hi,rfl⟩:=Qm.1 hx;exact ⟨i,by omega,rfl⟩
theorem vdep {p:Prg} (e:(depE p).2=0):p.Xr.length<=8/\∀d∈p.Xr,0<=d/\d<p.Xo.length:=by
 unfold depE at e;split at e
 ·cases e
 rename_i a;have hn:=De (fun k x h=>by
  cases q:p.Xr[k]? with
  | none=>rw [q] at h;cases h
  | some s=>
   rw [q] at h;simp only [gI] at h;split at h
   ·cases h;simp
   split at h
   ·cases h;simp
   ·cases h) e
 refine ⟨by omega,fun d hd=>?_⟩;obtain ⟨k,hk,rfl⟩:=Qn.1 hd;have:=rV hn hk;split at this
 ·cases this
 ·omega
structure VSt (p:Prg) (s:Nat) (x:Xc):Prop where
 el:x.extract.length<=4
 cl:x.cases.length<=8
 ex:∀h∈x.extract,0<=h/\h<p.Xo.length
 on:x.select=true->wid p x.on.header x.on.field≠0
 cs:∀c∈x.cases,nJ p s c.next=true
 df:nJ p s x.Yb=true
 cm:∀c∈x.cases,c.value.toNat&&& c.Yd.toNat=c.value.toNat
theorem vst {p:Prg} {s:Nat} {x:Xc} (e:(stE p s x).2=0):VSt p s x:=by
 unfold stE at e;split at e
 ·cases e
 split at e
 ·cases e
 split at e
 ·cases e
 split at e
 ·cases e
 rename_i h1 h2 h3 h4;split at e
 ·rename_i y q;obtain ⟨k,hk,q2⟩:=r9 q;rw [Qa hk] at q2;simp only [gI] at q2;split at q2
  ·cases q2
  ·cases q2;exact absurd e (by assumption)
 ·rename_i q;split at e
  ·rename_i hdf;refine ⟨by omega,by omega,fun h hh=>?_,fun hs hz=>h3 ⟨hs,hz⟩,fun c hc=>?_,hdf,fun c hc=>?_⟩
   ·by_cases q1:h<0
    ·exact absurd (zF.2 ⟨h,hh,by simp [q1]⟩) h2
    by_cases q2:(p.Xo.length:Int)<=h
    ·exact absurd (zF.2 ⟨h,hh,by simp [q2]⟩) h2
    ·omega
   ·obtain ⟨k,hk,rfl⟩:=Qn.1 hc;have hz:=yH (rV q hk);unfold qU at hz;split at hz
    ·cases hz
    split at hz
    ·cases hz
    split at hz
    ·assumption
    ·cases hz
   ·obtain ⟨k,hk,rfl⟩:=Qn.1 hc;have hz:=yH (rV q hk);unfold qU at hz;split at hz
    ·cases hz
    split at hz
    ·cases hz
    ·rename_i hz2;exact Decidable.of_not_not hz2
  ·cases e
structure VPar (p:Prg):Prop where
 n:1<=p.Xw.length/\p.Xw.length<=12
 s:∀(i:Nat) (h:i<p.Xw.length),VSt p i p.Xw[i]
theorem vpar {p:Prg} (e:(parE p).2.2=0):VPar p:=by
 unfold parE at e;split at e
 ·cases e
 split at e
 ·cases e
 rename_i h1 h2;refine ⟨by omega,fun i hi=>vst ?_⟩;cases q:(fe (fun s=>(p.Xw[s]?).bind fun x=>if idS x.name=false then some ((s:Int),(-1:Int),(6:Int)) else if dupN Xc.name p.Xw s x then some ((s:Int),-1,7) else if (stE p s x).2=0 then none else some ((s:Int),(stE p s x).1,(stE p s x).2)) p.Xw.length 0) with
 | some y=>
  rw [q] at e;obtain ⟨k,hk,q2⟩:=r9 q;rw [Qa hk] at q2;simp only [gI] at q2;split at q2
  ·cases q2;cases e
  split at q2
  ·cases q2;cases e
  split at q2
  ·cases q2
  ·cases q2;exact absurd e (by assumption)
 | none=>
  have:=rV q hi;split at this
  ·cases this
  split at this
  ·cases this
  exact yH this
theorem qzb {p:Prg} {s:Nat} {n:Int} (h:nJ p s n=true):n= -1\/n= -2\/∃k:Nat,n=k/\s<k/\k<p.Xw.length:=by
 unfold nJ at h;simp only [zH,cE,decide_eq_true_eq] at h;rcases h with (h | h) | h
 ·exact .inl h
 ·exact .inr (.inl h)
 ·exact .inr (.inr ⟨n.toNat,by omega,by omega,by omega⟩)
structure VStm (p:Prg) (ps:List Fld) (s:Xf):Prop where
 k:s.kind=1\/s.kind=2\/s.kind=3\/s.kind=4\/s.kind=5
 a:s.kind=1->∃w,decl p s.dst.header s.dst.field=some w/\valE p ps s.value w=0
 h:s.kind=2\/s.kind=3->0<=s.header/\s.header<p.Xo.length
 r:s.kind=4->∃r w,at? p.Xl s.Ye=some r/\decl p s.dst.header s.dst.field=some w/\(exE p ps s.index).2=0/\w=r.Yc
 w:s.kind=5->∃r,at? p.Xl s.Ye=some r/\(exE p ps s.index).2=0/\valE p ps s.value r.Yc=0
theorem vstm {p:Prg} {ps:List Fld} {s:Xf} (e:stmE p ps s=0):VStm p ps s:=by
 unfold stmE at e;split at e
 ·rename_i k1;refine ⟨.inl k1,fun _=>?_,fun h=>by omega,fun h=>by omega,fun h=>by omega⟩;split at e
  ·cases e
  ·rename_i w q;exact ⟨w,q,e⟩
 split at e
 ·rename_i _ k23;refine ⟨by omega,fun h=>by omega,fun _=>?_,fun h=>by omega,fun h=>by omega⟩;split at e
  ·rename_i q;obtain ⟨x,hx⟩:=xZ.1 q;unfold at? at hx;split at hx
   ·cases hx
   ·obtain ⟨hk,_⟩:=Qm.1 hx;omega
  ·cases e
 split at e
 ·rename_i _ _ k4;refine ⟨by omega,fun h=>by omega,fun h=>by omega,fun _=>?_,fun h=>by omega⟩;split at e
  ·rename_i r w q1 q2;split at e
   ·rename_i q3;split at e
    ·rename_i q4;exact ⟨r,w,q1,q2,q3,q4⟩
    ·cases e
   ·exact absurd e (by assumption)
  ·cases e
 split at e
 ·rename_i _ _ _ k5;refine ⟨by omega,fun h=>by omega,fun h=>by omega,fun h=>by omega,fun _=>?_⟩;split at e
  ·rename_i r q1;split at e
   ·rename_i q3;exact ⟨r,q1,q3,e⟩
   ·exact absurd e (by assumption)
  ·cases e
 ·cases e
set_option maxRecDepth 6000
theorem XV.fold {p:Prg} {ps:List Fld} {args:List Int}:∀(l:List Xf) {x:Envt×List (List Int)},XV p x.1 x.2->XV p (l.foldl (stmX p ps args) x).1 (l.foldl (stmX p ps args) x).2
 | [],_,h=>h
 | s::l,_,h=>XV.fold l (h.stm s)
structure ELoop (p:Prg) (ps:List Fld) (args:List Int) (body:List Xf) (y:Envt×List (List Int)) (i:Nat) (E:Env) (O:List (Nat×AO)) (N:Nat):Prop where
 e8:look 8 E=some (.ptr 0 4 0 0)
 e10:look 10 E=some (.ptr 1 16 0 0)
 e65:look 65 E=some (.slice 7 (body.map Xf.c))
 e66:look 66 E=some (a7 body.length)
 e67:look 67 E=some (a7 i)
 l0:look 0 O=some (.row 4 [z4])
 l1:look 1 O=some (.row 16 [stC p ps args ((body.take i).foldl (stmX p ps args) y).1 ((body.take i).foldl (stmX p ps args) y).2])
 t:Tail O N
 nr:NR O
 n2:2<=N
theorem Q4 {p:Prg} (w:PWd p) (ps:List Fld) {args:List Int} (ha:∀v∈args,ok32 0 v) (body:List Xf) (hb:body.length<2^40) (hk:∀s∈body,s.kind=1\/s.kind=2\/s.kind=3\/s.kind=4\/s.kind=5)
    {y:Envt×List (List Int)} (x:XV p y.1 y.2) {E:Env} {O:List (Nat×AO)} {N:Nat} (h:ELoop p ps args body y 0 E O N):
    go Φ (finP jD.results) [.c (.loop c_179_l0),.b 0,.c c_179_k1] .normal ⟨E,⟨O,N⟩⟩=some (.val (.tup [.agg (body.foldl (stmX p ps args) y).1.c,.slice 1 ((body.foldl (stmX p ps args) y).2.map (cS 1 c32))])):=by
  generalize hR:some (Rt.val (.tup [.agg (body.foldl (stmX p ps args) y).1.c,.slice 1 ((body.foldl (stmX p ps args) y).2.map (cS 1 c32))]))=R;refine eF body.length (fun i E h=>∃O N,h=⟨O,N⟩/\ELoop p ps args body y i E O N) (fun r=>r=R) ?_ ?_ 0 _ _ (Qc _) ⟨_,_,rfl,h⟩
  · rintro i E _ K hi hK ⟨O,N,rfl,h⟩ ih
    have hw:=aP i (by omega);obtain ⟨e8,e10,e65,e66,e67,l0,l1,T,nr,n2⟩:=h;have xi:=XV.fold (ps:=ps) (args:=args) (body.take i) x;have tk:body.take (i+1)=body.take i++[body[i]]:=Qh hi;have hks:=hk _ (Qd hi);have t0:=T N (Qb _);have T1:Tail O (N+1):=T.mono (by omega);generalize hs:body[i]=s at*;have next:∀{E2:Env} {f:Nat} {z:Envt×List (List Int)},StP p ps args 1 (N+1) O z (aH Φ f [.ptr 1 16 0 0,.agg s.c] ⟨O,N+1⟩)->z=stmX p ps args ((body.take i).foldl (stmX p ps args) y) s->
        ∃O2 N2,aH Φ f [.ptr 1 16 0 0,.agg s.c] ⟨O,N+1⟩=some (.val (.tup []),⟨O2,N2⟩)/\∀E2,look 8 E2=look 8 E->look 10 E2=look 10 E->look 65 E2=look 65 E->look 66 E2=look 66 E->look 67 E2=some (a7 (i+1:Nat))->go Φ (finP jD.results) K .normal ⟨E2,⟨O2,N2⟩⟩=R:=fun {E2 f z} ⟨O2,N2,hr,h1,h2,h3,h4,h5⟩ hz=>
      ⟨O2,N2,hr,fun E2 g8 g10 g65 g66 g67=>ih _ _ ⟨O2,N2,rfl,g8.trans e8,g10.trans e10,g65.trans e65,g66.trans e66,g67,by rw [h2 0 (by omega) (by omega),l0],by rw [h1,hz,tk,List.foldl_append];rfl,h3,h5,by omega⟩⟩
    have hxs:body[i]=s:=hs;rcases hks with k | k | k | k | k
    · obtain ⟨O2,N2,hr,fin⟩:=next (E2:=E) (qxj w ps ha xi s T1 nr l1) (by simp [stmX,k])
      rw [Xf.e] at hr;rw [k] at hr;simp [c_179_l0,Xf.e,e10,e65,e66,e67,hi,hxs,t0,k,hr,hw];exact fin _ (by simp) (by simp) (by simp) (by simp) (by simp)
    · obtain ⟨O2,N2,hr,fin⟩:=next (E2:=E) (XD w ps xi s T1 nr l1) (by simp [stmX,k])
      rw [Xf.e] at hr;rw [k] at hr;simp [c_179_l0,Xf.e,e10,e65,e66,e67,hi,hxs,t0,k,hr,hw];exact fin _ (by simp) (by simp) (by simp) (by simp) (by simp)
    · obtain ⟨O2,N2,hr,fin⟩:=next (E2:=E) (WO w ps xi s T1 nr l1) (by simp [stmX,k])
      rw [Xf.e] at hr;rw [k] at hr;simp [c_179_l0,Xf.e,e10,e65,e66,e67,hi,hxs,t0,k,hr,hw];exact fin _ (by simp) (by simp) (by simp) (by simp) (by simp)
    · obtain ⟨O2,N2,hr,fin⟩:=next (E2:=E) (SB w ps ha xi s T1 nr l1) (by simp [stmX,k])
      rw [Xf.e] at hr;rw [k] at hr;simp [c_179_l0,Xf.e,e10,e65,e66,e67,hi,hxs,t0,k,hr,hw];exact fin _ (by simp) (by simp) (by simp) (by simp) (by simp)
    · obtain ⟨O2,N2,hr,fin⟩:=next (E2:=E) (qz8 w ps ha xi s T1 nr l1) (by simp [stmX,k])
      rw [Xf.e] at hr;rw [k] at hr;simp [c_179_l0,Xf.e,e10,e65,e66,e67,hi,hxs,t0,k,hr,hw];exact fin _ (by simp) (by simp) (by simp) (by simp) (by simp)
  · rintro E _ K hK ⟨O,N,rfl,e8,e10,e65,e66,e67,l0,l1,T,nr,n2⟩
    rw [kW] at l1;generalize body.foldl (stmX p ps args) y=z at*;rw [st_e] at l1;rw [z4] at l0;have n0:¬N=0/\¬N=1:=by omega
    rw [<- hR];simp [jD] at hK;simp [jD,c_179_l0,c_179_k1,Envt.ce,e8,e10,e66,e67,hK,l0,l1,aA,nr.eq,nr.sw]
theorem Y7 {p:Prg} (f:PrgS p) (w:PWd p) (c:Xb) (hc1:(actE p c.Xy).2=0) (hc2:kZ p c=0) (ha:∀v∈c.args,ok32 0 v) (hal:c.args.length<2^40) {e:Envt} {rs:List (List Int)} (x:XV p e rs):
  aB Φ p9 [.agg p.c,.agg c.c,.agg e.c,.slice 1 (rs.map (cS 1 c32))]=some (.val (.tup [.agg (exeX p c e rs).1.c,.slice 1 ((exeX p c e rs).2.map (cS 1 c32))])):=by
 rw [aD rfl rfl];have h1:=ZJ e (x.evs w);have h2:=U3 rs (x.r1 w) (x.r2 w);have h3:=Lx p f c.Xy;have h4:=NQ p f c hal;rw [hc2] at h4;rw [hc1] at h3;have hA:∃k:Nat,c.Xy=k/\∃hk:k<p.Xx.length,True:=by
  unfold actE at hc1;cases q:at? p.Xx c.Xy with
  | none=>rw [q] at hc1;cases hc1
  | some a=>obtain ⟨k,e,hk,_⟩:=iG q;exact ⟨k,e,hk,trivial⟩
 obtain ⟨k,hk,hkl,_⟩:=hA;obtain ⟨act,args⟩:=c;simp only at hk ha hal;subst hk;have hv:=vact hkl hc1;have hbl:=hv.bl;have hkk:∀s∈p.Xx[k].body,s.kind=1\/s.kind=2\/s.kind=3\/s.kind=4\/s.kind=5:=fun s hs=>(vstm (hv.st s hs)).k
 have hX:exeX p ⟨k,args⟩ e rs=p.Xx[k].body.foldl (stmX p p.Xx[k].params args) (e,rs):=by simp [exeX,hkl]
 rw [hX];have lp:∀(E:Env) (O:List (Nat×AO)) (N:Nat),ELoop p p.Xx[k].params args p.Xx[k].body (e,rs) 0 E O N->_:=fun E O N hh=>Q4 w p.Xx[k].params ha p.Xx[k].body (by omega) hkk (y:=(e,rs)) x hh
 generalize p.Xx[k].body.foldl (stmX p p.Xx[k].params args) (e,rs)=z at*;have hact:p.Xx[k]=⟨p.Xx[k].name,p.Xx[k].params,p.Xx[k].body⟩:=rfl;simp only [Prg.e,Xb.e] at h3 h4;rw [Envt.ce] at h1;simp [jD,Prg.e,Xb.e,Action.e,Envt.ce,h1,h2,h3,h4,hkl];refine (lp _ _ _ ⟨?_,?_,?_,?_,?_,?_,?_,?_,?_,?_⟩).trans ?_
 ·simp
 ·simp
 ·simp
 ·simp
 ·simp
 ·simp [z4]
 ·simp [st_e]
 ·exact Tail_cons_iff.2 ⟨by omega,Tail_cons_iff.2 ⟨by omega,Tail.nil _⟩⟩
 ·exact cK (by simp) (.one (by simp))
 ·omega
 ·simp [Envt.ce]
theorem ior1 {v x:Int} (hv:0<=v/\v<2147483648) (hx:0<=x/\x<=1):ior .u32 (ishl .u32 v 1) x=2*v+x:=by
 have e1:ishl .u32 v 1=2*v:=by
  unfold ishl;have:(2:Int)^(min (1:Int).toNat (IntKind.bits .u32))=2:=by decide
  rw [this,EX (by omega) (by omega)];omega
 rw [e1,Dr ⟨by omega,by omega⟩ ⟨by omega,by omega⟩];have:=Nat.shiftLeft_add_eq_or_of_lt (b:=x.toNat) (i:=1) (by omega) v.toNat;rw [Nat.shiftLeft_eq] at this;rw [show (2*v).toNat=v.toNat*2^1 by omega,<- this];omega
theorem TN:∀b:Fin 256,∀k:Fin 8,IntKind.wrap .u32 (iand .u8 (ishr .u8 ((b.1:Nat):Int) (7 - ((k.1:Nat):Int))) 1)=((b.1 / 2^(7 - k.1) % 2:Nat):Int):=by decide+kernel
def rdr (d:List Int) (t pos:Nat):AO:= .row 3 [[.app 1 (d.map c8) t,a7 pos,.bool true]]
def bOk (d:List Int):Prop:=∀x∈d,0<=x/\x<256
theorem YH {d:List Int} (hd:bOk d) {q:Nat} (hq:q / 8<d.length):IntKind.wrap .u32 (iand .u8 (ishr .u8 d[q / 8] (7 - ((q % 8:Nat):Int))) 1)=ET d q:=by
 have h:=hd _ (Qd hq);obtain ⟨b,hb⟩:=l9 h.1;rw [hb] at h;have:=TN ⟨b,by omega⟩ ⟨q % 8,Nat.mod_lt _ (by decide)⟩;simp only at this;rw [hb,this];unfold ET;rw [zA,Qa hq,jC,hb];rw [<- nE];omega
theorem N6 (d p:AV):aB Φ mN [.iptr 3 [[d,p,.bool true]] 0 0]=some (.val (.bool true)):=by
 rw [aD rfl rfl];simp [CZ]
theorem Nd (d:List Int) (pos:Nat) (hd:d.length<=512) (hp:pos<=8*d.length):aB Φ qG [.iptr 3 [[.slice 1 (d.map c8),a7 pos,.bool true]] 0 0]=some (.val (a7 ((8*d.length - pos:Nat):Int))):=by
 rw [aD rfl rfl];have e1:IntKind.wrap .i64 (8*(d.length:Int))=8*(d.length:Int):=cM (by omega) (by omega);have e2:IntKind.wrap .i64 (8*(d.length:Int) - pos)=((8*d.length - pos:Nat):Int):=by rw [cM (by omega) (by omega)];omega
 simp [DA,N6,e1,e2]
theorem Hl {t:Nat} {x y:AO}:∀{l:List (Nat×AO)},setl t y (setl t x l)=setl t y l
 | []=>rfl
 | (u,z)::r=>by
  by_cases h:u=t
  ·subst h;simp
  ·simp [h,Hl (l:=r)]
theorem Ng {t:Nat} {x:AO}:∀{l:List (Nat×AO)},look t l=some x->setl t x l=l
 | [],_=>rfl
 | (u,z)::r,h=>by
  by_cases hu:u=t
  ·subst hu;simp at h;subst h;simp
  ·rw [gJ _ _ _ _ hu] at h;simp [hu,Ng h]
theorem ST {O:List (Nat×AO)} {N id t q:Nat} {d:List Int} (hn:look id O=some (rdr d t q)) (hd:bOk d) (hl:d.length<=512) {w:Nat} (h1:1<=w) (h2:w<=32) (hw:q+w<=8*d.length):
  aH Φ qH [.ptr id 3 0 0,a7 w] ⟨O,N⟩=some (.val (.tup [.int .u32 (rdN d q w),a7 0]),⟨setl id (rdr d t (q+w)) O,N⟩):=by
 rw [d6 rfl rfl];have hr:=Nd d q hl (by omega);have a1:¬w<1:=by omega
 have a2:¬32<w:=by omega
 have a3:¬8*d.length - q<w:=by omega
 have a1':¬w=0:=by omega
 have hn':=hn;unfold rdr at hn';simp [DC,hn',N6,hr,a1,a1',a2,a3];generalize hR:some (Rt.val (.tup [.int .u32 (rdN d q w),a7 0]),(⟨setl id (rdr d t (q+w)) O,N⟩:AH))=R;refine (G7 w (fun k e h=>look 0 e=some (.ptr id 3 0 0)/\look 6 e=some (.int .u32 (rdN d q k))/\look 24 e=some (a7 w)/\look 25 e=some (a7 k)/\h=⟨setl id (rdr d t (q+k)) O,N⟩)
  (fun k=>R) ?_ ?_ 0 _ _ (Qc _) ?_)
 ·rintro k e _ L hk hL ⟨h0,h6,h24,h25,rfl⟩ ih;have hs:look id (setl id (rdr d t (q+k)) O)=some (rdr d t (q+k)):=by rw [aA,a8 rfl,hn];rfl
  have hqk:(q+k) / 8<d.length:=by omega
  have hb:=YH hd hqk;have hf:=Ei d q k;have hp:(2:Int)^k<=2^31:=by
   rw [<- nE,<- nE];exact Int.ofNat_le.2 (B6 (by decide) (by omega))
  have hst:=ior1 (v:=rdN d q k) (x:=ET d (q+k)) ⟨hf.1,by have:=hf.2;omega⟩ (Lf d (q+k));have hw1:=aP k (by omega);have hw2:IntKind.wrap .i64 (((q+k:Nat):Int)+1)=((q+(k+1):Nat):Int):=by rw [cM (by omega) (by omega)];omega
  have d1:IntKind.wrap .i64 (((q+k:Nat):Int) / 8)=(((q+k) / 8:Nat):Int):=by
   have:((q+k:Nat):Int) / 8=(((q+k) / 8:Nat):Int):=rfl;rw [this,cM (by omega) (by omega)]
  have d2:IntKind.wrap .i64 (7 - ((q+k:Nat):Int).tmod 8)=7 - (((q+k) % 8:Nat):Int):=by
   have:((q+k:Nat):Int).tmod 8=(((q+k) % 8:Nat):Int):=rfl;rw [this,cM (by omega) (by omega)]
  have d3:(q+k) % 8<=7:=by omega
  have hrd:rdN d q (k+1)=2*rdN d q k+ET d (q+k):=rfl;have hk2:q+(k+1)=q+k+1:=by omega
  rw [hk2] at hw2;generalize hQ:(q+k:Nat)=Q at hs d1 d2 d3 hw2 hqk hb hst hrd hk2 ⊢;generalize hQ8:Q / 8=Q8 at d1 hqk hb;generalize hQ7:Q % 8=Q7 at d2 d3 hb;have d4:(Q7:Int)<=7:=by omega
  have hs':=hs;unfold rdr at hs';simp [c_383_l0,rdr,c8,h0,h6,h24,h25,hk,hL,hs',hw1,hw2,d1,d2,d3,d4,hqk,hb,hst,Hl];refine ih _ _ ⟨by simp [h0],by simp [hrd],by simp [h24],by simp,?_⟩;simp [rdr,hk2]
 ·rintro e _ L hL ⟨h0,h6,h24,h25,rfl⟩;rw [<- hR];simp [c_383_l0,c_383_k1,h0,h6,h24,h25,hL]
 ·simp [rdN,Ng hn]
def rstV (d:List Int) (q N:Nat):AV:=if q % 8=0 then .app 1 ((d.drop (q / 8)).map c8) N else .Xt 1 []
def rstE (q:Nat):Int:=if q % 8=0 then 0 else 10
def rstL (d:List Int) (q N:Nat):List (Nat×AO):=if q % 8=0 then [(N,.tok 1 (d.length - q / 8))] else []
theorem Ko {O:List (Nat×AO)} {N id t q:Nat} {d:List Int} (hT:Tail O N) (hN:NR O) (hn:look id O=some (rdr d t q)) (hl:d.length<=512) (hq:q<=8*d.length):
  aH Φ mH [.ptr id 3 0 0] ⟨O,N⟩=some (.val (.tup [rstV d q N,a7 (rstE q)]),⟨O++rstL d q N,if q % 8=0 then N+1 else N⟩):=by
 rw [d6 rfl rfl];have hn':=hn;unfold rdr at hn';have hT':=hT N (Qb _);have d1:IntKind.wrap .i64 ((q:Int) / 8)=((q / 8:Nat):Int):=by
  have:(q:Int) / 8=((q / 8:Nat):Int):=rfl;rw [this,cM (by omega) (by omega)]
 have d2:(q:Int).tmod 8=((q % 8:Nat):Int):=rfl;by_cases z:q % 8=0
 ·have hp:q / 8<=d.length:=by omega
  have z2:((q % 8:Nat):Int)=0:=by omega
  have hb:d.length - q / 8<=70368744177664:=by omega
  rw [z2] at d2;generalize hR:some (Rt.val (.tup [rstV d q N,a7 (rstE q)]),(⟨O++rstL d q N,if q % 8=0 then N+1 else N⟩:AH))=R;generalize hu:q / 8=u at d1 hp hb;have tk:((d.drop u).map c8).take (d.length - u)=(d.drop u).map c8:=Qo (by simp);simp [sY,hn',N6,d1,d2,hp,hT',hb,<- List.map_drop,tk];rw [<- hR];simp [rstV,rstE,rstL,z,hu]
 ·have z2:¬((q:Int).tmod 8=0):=by rw [d2];omega
  have z3:¬8∣q:=fun h=>z (Nat.mod_eq_zero_of_dvd h)
  simp [sY,hn',N6,z2,z,z3,rstV,rstE,rstL]
theorem Am {O:List (Nat×AO)} {N:Nat} {d:List Int} {q:Nat} (h:Tail O N):Tail (O++rstL d q N) (if q % 8=0 then N+1 else N):=by
 unfold rstL;split
 ·exact Tail_append_iff.2 ⟨h.mono (by omega),Tail_cons_iff.2 ⟨by omega,Tail.nil _⟩⟩
 ·simpa using h
theorem Al {O:List (Nat×AO)} {N:Nat} {d:List Int} {q:Nat} (h:NR O):NR (O++rstL d q N):=by
 unfold rstL;split
 ·exact h.app (.one (by simp))
 ·simpa using h
theorem W0 {O:List (Nat×AO)} {N:Nat} {d:List Int} (hT:Tail O N) (hl:d.length<=512):
  aH Φ pM [.slice 1 (d.map c8)] ⟨O,N⟩=some (.val (.ptr (N+1) 3 0 0),⟨O++[(N,.tok 1 d.length),(N+1,rdr d N 0)],N+2⟩):=by
 rw [d6 rfl rfl];have hT':=hT N (Qb _);have hT2:=hT (N+1) (by omega);have hb:d.length<=70368744177664:=by omega
 have tk:(d.map c8).take d.length=d.map c8:=Qo (by simp);simp [C8,hT',hT2,hb,rdr,tk]
def wN (l:List Fld):Nat:=(l.map fun f=>f.Yc.toNat).sum
theorem LG:∀{l:List Fld},(∀f∈l,1<=f.Yc/\f.Yc<=32)->wSum l=(wN l:Nat)
 | [],_=>rfl
 | f::r,h=>by
  have ih:=LG (l:=r) fun g hg=>h g (by simp [hg])
  have:=(h f (by simp)).1;simp only [wSum,wN,nA,J7] at ih ⊢;omega
theorem KA (a b:List Fld):wN (a++b)=wN a+wN b:=by simp [wN]
theorem Na (d:List Int):∀(a b:List Fld) (i:Nat),rdF d i (a++b)=rdF d i a++rdF d (i+wN a) b
 | [],b,i=>by simp [rdF,wN]
 | f::a,b,i=>by
  simp only [iU,rdF,Na d a b,wN,nA,J7,eC]
theorem wN_le {l:List Fld} (k:Nat):wN (l.take k)<=wN l:=by
 have:=KA (l.take k) (l.drop k);rw [QB] at this;omega
theorem Y1 {l:List Fld} {k:Nat} (hk:k<l.length):wN (l.take (k+1))=wN (l.take k)+l[k].Yc.toNat:=by
 rw [Qh hk,KA];simp [wN]
theorem TO {h:Xi} (hn:h.name.length<2^40) (hf:∀f∈h.Xz,f.name.length<2^40) (e:hdrE h=0):aB Φ vG [.agg (Xi.c h)]=some (.val (a7 (wN h.Xz:Nat))):=by
 have v:=vhdr e;have hc:=ID h hn hf;have h1:=Cn h (by have:=v.n;omega);have h2:=Od (h.Xz.map (·.Yc)) (by simp;have:=v.n;omega) (fun x hx=>by obtain ⟨f,hf,rfl⟩:=iO.1 hx;exact v.w f hf);rw [List.map_map] at h2;have h3:(h.Xz.map (·.Yc)).sum=wSum h.Xz:=rfl;rw [h3,LG v.w] at h2;have h4:((fun x=>[AV.int IntKind.i64 x]) ∘ fun x:Fld=>x.Yc)=fun f:Fld=>[AV.int IntKind.i64 f.Yc]:=rfl
 rw [h4] at h2;rw [e] at hc;rw [Xi.c] at hc h1;rw [Xi.c,aD rfl rfl];simp [DB,hc,h1,h2]
def HRP (id t q:Nat) (d:List Int) (l:List Fld) (N:Nat) (O:List (Nat×AO)) (r:Option (Rt×AH)):Prop:=
 ∃O' N' tk,r=some (.val (.tup [.app 1 ((rdF d q l).map c32) tk,a7 0]),⟨O',N'⟩)/\look id O'=some (rdr d t (q+wN l))/\look tk O'=some (.tok 1 l.length)/\N<=tk/\Kp (fun j=>j=id) N O O'/\Tail O' N'/\NR O'/\N<=N'
def HRS (N:Nat) (O:List (Nat×AO)) (r:Option (Rt×AH)):Prop:=
 ∃L N',r=some (.val (.tup [.Xt 1 [],a7 3]),⟨O++L,N'⟩)/\Kp (fun _=>False) N O (O++L)/\Tail (O++L) N'/\NR (O++L)/\N<=N'
structure HRI (id t q tk:Nat) (d:List Int) (l:List Fld) (N:Nat) (O:List (Nat×AO)) (k:Nat) (e:Env) (O':List (Nat×AO)) (N':Nat):Prop where
 e1:look 1 e=some (.ptr id 3 0 0)
 e9:look 9 e=some (.app 1 ((rdF d q (l.take k)).map c32) tk)
 e32:look 32 e=some (.slice 2 (l.map Fld.c))
 e33:look 33 e=some (a7 l.length)
 e34:look 34 e=some (a7 k)
 li:look id O'=some (rdr d t (q+wN (l.take k)))
 lt:look tk O'=some (.tok 1 k)
 hk:Kp (fun j=>j=id) N O O'
 hT:Tail O' N'
 hN:NR O'
 hn:N<=N'
 tn:N<=tk
theorem qw4 {id t q tk N:Nat} {d:List Int} {l:List Fld} {O:List (Nat×AO)} (hd:bOk d) (hl:d.length<=512) (hw:∀f∈l,1<=f.Yc/\f.Yc<=32) (hln:l.length<2^40) (hs:q+wN l<=8*d.length) {e:Env} {O':List (Nat×AO)} {N':Nat} (h:HRI id t q tk d l N O 0 e O' N'):
  HRP id t q d l N O (go Φ (finC jG.results) [.c (.loop c_348_l0),.b 0,.c c_348_k1] .normal ⟨e,⟨O',N'⟩⟩):=by
 refine eF l.length (fun k e h=>∃O' N',h=⟨O',N'⟩/\HRI id t q tk d l N O k e O' N') _ ?_ ?_ 0 _ _ (Qc _) ⟨_,_,rfl,h⟩
 ·rintro k e _ K hk hK ⟨O',N',rfl,h⟩ ih;obtain ⟨e1,e9,e32,e33,e34,li,lt,kp,hT,hN,hn,tn⟩:=h;have hw1:=aP k (by omega);have hf:=hw l[k] (Qd hk);have st:=Y1 hk;have le:=wN_le (l:=l) (k+1);have t0:=hT N' (Qb _);have hrb:=ST (O:=O') (N:=N'+1) (id:=id) (w:=l[k].Yc.toNat) li hd hl (by omega) (by omega) (by omega);have hwd:((l[k].Yc.toNat:Nat):Int)=l[k].Yc:=by omega
  rw [hwd] at hrb;have tid:tk≠id:=bO lt li (by simp [rdr]);have lt2:look tk (setl id (rdr d t (q+wN (l.take k)+l[k].Yc.toNat)) O')=some (.tok 1 k):=by
   rw [aA,QA tid];exact lt
  have rf:rdF d q (l.take (k+1))=rdF d q (l.take k)++[rdN d (q+wN (l.take k)) l[k].Yc.toNat]:=by
   rw [Qh hk,Na];rfl
  have hln2:(rdF d q (l.take k)).length=k:=by rw [Eh];simp;omega
  have hbd:(k+1)*4<=70368744177664:=by omega
  have fin:∀{E2:Env},(∀j,j=1\/j=32\/j=33->look j E2=look j e)->look 9 E2=some (.app 1 ((rdF d q (l.take k)).map c32++[c32 (rdN d (q+wN (l.take k)) l[k].Yc.toNat)]) tk)->look 34 E2=some (a7 (k+1:Nat))->
    HRP id t q d l N O (go Φ (finC jG.results) K .normal ⟨E2,⟨setl tk (.tok 1 (k+1)) (setl id (rdr d t (q+wN (l.take k)+l[k].Yc.toNat)) O'),N'+1⟩⟩):=fun {E2} hE h9 h34=>by
   refine ih _ _ ⟨_,_,rfl,by rw [hE 1 (by simp),e1],?_,by rw [hE 32 (by simp),e32],by rw [hE 33 (by simp),e33],h34,?_,?_,?_,?_,?_,by omega,tn⟩
   ·rw [h9,rf,zG];rfl
   ·rw [aA,QA tid.symm,aA,a8 rfl,li,st,eC];rfl
   ·rw [aA,a8 rfl,lt2];rfl
   ·exact (kp.setl (.inr rfl)).setl (.inl tn)
   ·exact bW (bW (hT.mono (by omega)))
   ·exact (hN.setl (by simp [rdr])).setl (by simp)
  have hg:(l.map Fld.c)[k]? =some (Fld.c l[k]):=by simp [hk]
  generalize hx:l[k]=x at*;simp only [Fld.c] at*;simp [c_348_l0,e1,e9,e32,e33,e34,hk,hK,t0,hw1,hx,Fld.c,hrb,lt2,hln2,hbd];exact fin (by rintro j (rfl | rfl | rfl)<;>simp) (by simp [c32]) (by simp)
 ·rintro e _ K hK ⟨O',N',rfl,h⟩;obtain ⟨e1,e9,e32,e33,e34,li,lt,kp,hT,hN,hn,tn⟩:=h;rw [kW] at e9 li;simp [jG,c_348_l0,c_348_k1,e1,e9,e32,e33,e34] at hK ⊢;simp [c_348_k1,hK,e9];exact ⟨O',N',tk,rfl,li,lt,tn,kp,hT,hN,hn⟩
theorem XC {N j:Nat} {d:List Int} {q:Nat} (h:j<N):look j (rstL d q N)=none:=by
 unfold rstL;split
 ·rw [gJ _ _ _ _ (by omega)];rfl
 ·rfl
theorem RQ {O:List (Nat×AO)} {N id t q:Nat} {d:List Int} (hT:Tail O N) (hN:NR O) (hi:look id O=some (rdr d t q)) (hd:bOk d) (hl:d.length<=512) (hq:q<=8*d.length) {h:Xi} (hn:h.name.length<2^40) (hf:∀f∈h.Xz,f.name.length<2^40) (e:hdrE h=0):
  if 8*d.length<q+wN h.Xz then HRS N O (aH Φ jT [.agg (Xi.c h),.ptr id 3 0 0] ⟨O,N⟩) else HRP id t q d h.Xz N O (aH Φ jT [.agg (Xi.c h),.ptr id 3 0 0] ⟨O,N⟩):=by
 rw [d6 rfl rfl];have v:=vhdr e;have hc:=ID h hn hf;have hb:=TO hn hf e;rw [e] at hc;have t0:=hT N (Qb _);have hi1:look id (O++[(N,.row 2 [Xi.c h])])=some (rdr d t q):=bK hi;have hT1:Tail (O++[(N,.row 2 [Xi.c h])]) (N+1):=Tail_append_iff.2 ⟨hT.mono (by omega),Tail_cons_iff.2 ⟨by omega,Tail.nil _⟩⟩;have hN1:NR (O++[(N,.row 2 [Xi.c h])]):=hN.app (.one (by simp));have hr:=Ko hT1 hN1 hi1 hl hq;have hT2:=Am (d:=d) (q:=q) hT1;have hN2:=Al (N:=N+1) (d:=d) (q:=q) hN1;have hi2:look id ((O++[(N,.row 2 [Xi.c h])])++rstL d q (N+1))=some (rdr d t q):=bK hi1;have l0:look N ((O++[(N,.row 2 [Xi.c h])])++rstL d q (N+1))=some (.row 2 [Xi.c h]):=bK (by rw [aE,t0];simp);have hE:∀(x:AV),rstE q≠1:=fun _=>by unfold rstE;split<;>decide
 have hrem:=Nd d q hl hq;generalize hM:(if q % 8=0 then N+1+1 else N+1)=M at hr hT2;have hMN:N+1<=M:=by rw [<- hM];split<;>omega
 generalize hO:(O++[(N,.row 2 [Xi.c h])])++rstL d q (N+1)=O2 at hr hT2 hN2 hi2 l0;have hkp:∀j,j<N->look j O2=look j O:=fun j hj=>by
  rw [<- hO,aE,aE,XC (by omega),gJ _ _ _ _ (by omega)];cases look j O<;>rfl
 have hO2:∃L,O2=O++L:=⟨_,by rw [<- hO,yB]⟩;generalize rstE q=E0 at hr hE;generalize rstV d q (N+1)=V0 at hr;have hE1:¬E0=1:=hE .nilptr;have hi3:=hi2;unfold rdr at hi3;have tM:=hT2 M (Qb _);rw [Xi.c] at hc hb hr l0;have cmp:((8*d.length - q:Nat):Int)<(wN h.Xz:Int)↔8*d.length<q+wN h.Xz:=by omega
 by_cases z:8*d.length<q+wN h.Xz
 ·rw [a8 z];have z1:8*d.length - q<wN h.Xz:=by omega
  simp [jG,Xi.c,t0,hc,hb,hr,hE1,hi3,hrem,l0,z1];obtain ⟨L,rfl⟩:=hO2;exact ⟨L,M,rfl,fun j hj _=>hkp j hj,hT2,hN2,by omega⟩
 ·rw [QA z];have z1:¬8*d.length - q<wN h.Xz:=by omega
  simp [jG,Xi.c,t0,hc,hb,hr,hE1,hi3,hrem,l0,aE,z1,tM];refine qw4 (tk:=M) (l:=h.Xz) (q:=q) hd hl v.w (by have:=v.n;omega) (Nat.le_of_not_lt z) ?_;refine ⟨by simp,by simp [rdF],by simp,by simp,by simp,by simpa [wN] using bK hi2,by rw [aE,tM];simp,?_,Tail_append_iff.2 ⟨hT2.mono (by omega),Tail_cons_iff.2 ⟨by omega,Tail.nil _⟩⟩,hN2.app (.one (by simp)),by omega,by omega⟩;intro j hj hx;rw [aE,hkp j hj,gJ _ _ _ _ (by omega)];cases look j O<;>rfl
def RE (O:List (Nat×AO)) (B iv jf:Nat) (a:AV) (l:List Int):Prop:=
 (l=[]/\a= .Xt 1 [])\/(∃id,a= .row id 1 0 l.length/\look id O=some (.row 1 (l.map c32))/\B<=id/\id≠iv/\id≠jf)\/∃tk,a= .app 1 (l.map c32) tk
structure PE (O:List (Nat×AO)) (B iv jf im:Nat) (A:List AV) (e:Envt):Prop where
 lv:look iv O=some (.row 1 (e.valid.map cB))
 lf:look jf O=some (.row 1 (A.map fun x=>[x]))
 lm:look im O=some (.row 1 (e.metaF.map c32))
 d:iv≠jf/\im≠iv/\im≠jf
 b:B<=iv/\B<=jf/\B<=im
 len:A.length=e.Xz.length
 r:∀(k:Nat) (a:AV) (l:List Int),A[k]? =some a->e.Xz[k]? =some l->RE O B iv jf a l
theorem RE.fr {O O':List (Nat×AO)} {B iv jf:Nat} {a:AV} {l:List Int} (h:RE O B iv jf a l) (hf:∀j es,B<=j->j≠iv->j≠jf->look j O=some (.row 1 es)->look j O'=some (.row 1 es)):RE O' B iv jf a l:=by
 rcases h with h | ⟨id,h1,h2,h3,h4,h5⟩ | h
 ·exact .inl h
 ·exact .inr (.inl ⟨id,h1,hf id _ h3 h4 h5 h2,h3,h4,h5⟩)
 ·exact .inr (.inr h)
theorem PE.fr {O O':List (Nat×AO)} {B iv jf im:Nat} {A:List AV} {e:Envt} (h:PE O B iv jf im A e) (hf:∀j es,B<=j->look j O=some (.row 1 es)->look j O'=some (.row 1 es)):PE O' B iv jf im A e:=
 ⟨hf _ _ h.b.1 h.lv,hf _ _ h.b.2.1 h.lf,hf _ _ h.b.2.2 h.lm,h.d,h.b,h.len,fun k a l h1 h2=>(h.r k a l h1 h2).fr fun j es h3 _ _ h4=>hf j es h3 h4⟩
theorem PE.app {O:List (Nat×AO)} {B iv jf im:Nat} {A:List AV} {e:Envt} (h:PE O B iv jf im A e) (L:List (Nat×AO)):PE (O++L) B iv jf im A e:=h.fr fun _ _ _ h=>bK h
theorem PE.setV {O:List (Nat×AO)} {B iv jf im:Nat} {A:List AV} {e:Envt} (h:PE O B iv jf im A e) (v:List Bool):PE (setl iv (.row 1 (v.map cB)) O) B iv jf im A { e with valid:=v }:=by
 refine ⟨by rw [aA,a8 rfl,h.lv];rfl,by rw [aA,QA h.d.1.symm,h.lf],by rw [aA,QA h.d.2.1,h.lm],h.d,h.b,h.len,fun k a l h1 h2=>(h.r k a l h1 h2).fr fun j es _ h3 _ h4=>?_⟩;rw [aA,QA h3,h4]
theorem PE.setF {O:List (Nat×AO)} {B iv jf im:Nat} {A:List AV} {e:Envt} (h:PE O B iv jf im A e) {k:Nat} (hk:k<A.length) {a:AV} {l:List Int} (ha:RE O B iv jf a l):PE (setl jf (.row 1 ((A.set k a).map fun x=>[x])) O) B iv jf im (A.set k a) { e with Xz:=e.Xz.set k l }:=by
 have fr:∀j es,B<=j->j≠iv->j≠jf->look j O=some (.row 1 es)->look j (setl jf (.row 1 ((A.set k a).map fun x=>[x])) O)=some (.row 1 es):=fun j es _ _ h3 h4=>by rw [aA,QA h3,h4]
 refine ⟨by rw [aA,QA h.d.1,h.lv],by rw [aA,a8 rfl,h.lf];rfl,by rw [aA,QA h.d.2.2,h.lm],h.d,h.b,by simp [h.len],fun i x y h1 h2=>?_⟩;simp only [List.getElem?_set] at h1 h2;by_cases q:k=i
 ·subst q;rw [a8 rfl,a8 hk] at h1;rw [a8 rfl,a8 (by rw [<- h.len];exact hk)] at h2;cases h1;cases h2;exact ha.fr fr
 ·rw [QA q] at h1 h2;exact (h.r i x y h1 h2).fr fr
theorem RE.snp {O:List (Nat×AO)} {B iv jf N:Nat} {a:AV} {l:List Int} (h:RE O B iv jf a l) (n:Nat):snap (n+2) ⟨O,N⟩ a=some (.slice 1 (l.map c32)):=by
 have hm:=nU (g:=c32) (n:=n+1) (H:=⟨O,N⟩) (fun x=>by simp [c32]) l;rcases h with ⟨rfl,rfl⟩ | ⟨id,rfl,h2,_⟩ | ⟨tk,rfl⟩
 ·simp
 ·simp [h2,hm]
 ·simp
theorem PE.snpF {O:List (Nat×AO)} {B iv jf im N:Nat} {A:List AV} {e:Envt} (h:PE O B iv jf im A e) (n:Nat):mapO (mapO (snap (n+2) ⟨O,N⟩)) (A.map fun x=>[x])=some (e.Xz.map (cS 1 c32)):=by
 have aux:∀(A:List AV) (L:List (List Int)),A.length=L.length->(∀(k:Nat) (a:AV) (l:List Int),A[k]? =some a->L[k]? =some l->RE O B iv jf a l)->mapO (mapO (snap (n+2) ⟨O,N⟩)) (A.map fun x=>[x])=some (L.map (cS 1 c32)):=by
  intro A
  induction A with
  | nil=>intro L hl _;cases L with | nil=>rfl | cons _ _=>simp at hl
  | cons a A ih=>
   intro L hl h;cases L with
   | nil=>simp at hl
   | cons l L=>
    have h1:=(h 0 a l rfl rfl).snp (N:=N) n;have h2:=ih L (by simpa using hl) fun k a l h3 h4=>h (k+1) a l h3 h4
    simp only [nA,mapO,h1,h2,cS]
 exact aux A e.Xz h.len h.r
theorem PE.snp {O:List (Nat×AO)} {B iv jf im N:Nat} {A:List AV} {e:Envt} (h:PE O B iv jf im A e) (m:Nat):mapO (snap (m+3) ⟨O,N⟩) [.row iv 1 0 e.valid.length,.row jf 1 0 e.Xz.length,.row im 1 0 e.metaF.length]=some [.slice 1 (e.valid.map cB),.slice 1 (e.Xz.map (cS 1 c32)),.slice 1 (e.metaF.map c32)]:=by
 have h1:=nU (g:=cB) (n:=m+2) (H:=⟨O,N⟩) (fun x=>by simp [cB]) e.valid;have h2:=nU (g:=c32) (n:=m+2) (H:=⟨O,N⟩) (fun x=>by simp [c32]) e.metaF;have h3:=h.snpF (N:=N) m;have h4:(A.map fun x=>[x]).take e.Xz.length=A.map fun x=>[x]:=Qo (by simp [h.len])
 have h5:(e.valid.map cB).take e.valid.length=e.valid.map cB:=Qo (by simp);have h6:(e.metaF.map c32).take e.metaF.length=e.metaF.map c32:=Qo (by simp);have h7:e.Xz.length<=A.length:=by rw [h.len];exact Qb _
 simp [mapO,h.lv,h.lf,h.lm,h1,h2,h3,h4,h5,h6,h7]
def NewP (p:Prg) (N:Nat) (O:List (Nat×AO)) (r:Option (Rt×AH)):Prop:=
 ∃O' N' iv jf im A,r=some (.val (.agg [.row iv 1 0 p.Xo.length,.row jf 1 0 p.Xo.length,.row im 1 0 p.Xn.length,.Xt 1 []]),⟨O',N'⟩)/\PE O' N iv jf im A (eNew p)/\Kp (fun _=>False) N O O'/\Tail O' N'/\NR O'/\N<=N'
def rD (p:Prg) (i:Nat):Envt:=⟨p.Xo.map fun _=>false,(p.Xo.take i).map (fun h=>h.Xz.map fun _=>0)++(p.Xo.drop i).map (fun _=>[]),p.Xn.map fun _=>0,[]⟩
theorem qyi (p:Prg):rD p p.Xo.length=eNew p:=by simp [rD,eNew]
theorem qwq (p:Prg) {i:Nat} (hi:i<p.Xo.length):{ rD p i with Xz:=(rD p i).Xz.set i (p.Xo[i].Xz.map fun _=>0) }=rD p (i+1):=by
 have h1:(p.Xo.take i).length=i:=by simp;omega
 simp only [rD,Envt.mk.injEq,true_and,and_true];rw [Qi hi,Qh hi,nA,List.set_append_right _ _ (by rw [n9,h1];exact Qb _),n9,h1,Nat.sub_self,List.set_cons_zero,zG,yB];rfl
structure NI (p:Prg) (N:Nat) (O:List (Nat×AO)) (a b c iv jf im i:Nat) (E:Env) (O':List (Nat×AO)) (N':Nat) (A:List AV):Prop where
 e1:look 1 E=some (.ptr a 9 0 0)
 e2:look 2 E=some (.ptr b 4 0 0)
 e3:look 3 E=some (.ptr c 4 0 0)
 e20:look 20 E=some (a7 p.Xo.length)
 e21:look 21 E=some (a7 i)
 la:look a O'=some (.row 9 [p.c])
 lb:look b O'=some (.row 4 [z4])
 lc:look c O'=some (.row 4 [[.row iv 1 0 p.Xo.length,.row jf 1 0 p.Xo.length,.row im 1 0 p.Xn.length,.Xt 1 []]])
 pe:PE O' N iv jf im A (rD p i)
 kp:Kp (fun _=>False) N O O'
 hT:Tail O' N'
 hN:NR O'
 hn:N<=N'
 bn:N<=b
theorem qyj {p:Prg} (w:PWd p) {N:Nat} {O:List (Nat×AO)} {a b c iv jf im:Nat} {E:Env} {O':List (Nat×AO)} {N':Nat} {A:List AV} (h:NI p N O a b c iv jf im 0 E O' N' A):
  NewP p N O (go Φ (finC oJ.results) [.c (.loop c_264_l0),.b 0,.c c_264_k1] .normal ⟨E,⟨O',N'⟩⟩):=by
 refine eF p.Xo.length (fun i E h=>∃O' N' A,h=⟨O',N'⟩/\NI p N O a b c iv jf im i E O' N' A) _ ?_ ?_ 0 _ _ (Qc _) ⟨_,_,_,rfl,h⟩
 ·rintro i E _ K hi hK ⟨O',N',A,rfl,h⟩ ih;obtain ⟨e1,e2,e3,e20,e21,la,lb,lc,pe,kp,hT,hN,hn,bn⟩:=h;have hw:IntKind.wrap .i64 ((i:Int)+1)=((i+1:Nat):Int):=cM (by omega) (by have:=w.hl;omega);have t:∀k,look (N'+k) O'=none:=fun k=>hT _ (by omega)
  have t0:=hT N' (Qb _);generalize hx:p.Xo[i]=x;have hf:x.Xz.length<2^40:=by rw [<- hx];exact w.hf _ (Qd hi)
  have b1:(x.Xz.length:Int)*4<=140737488355328/\(x.Xz.length:Int)<4611686018427387904:=by omega
  have lf:=pe.lf;have fj:=fun k=>dI (n:=N'+k) hT lf (by omega)
  have fa:=fun k=>dI (n:=N'+k) hT la (by omega)
  have fc:=fun k=>dI (n:=N'+k) hT lc (by omega)
  have jq:∀k,(jf == N'+k)=false/\(N'+k == jf)=false:=fun k=>by have:=fj k;simp;omega
  have aq:∀k,(a == N'+k)=false/\(N'+k == a)=false:=fun k=>by have:=fa k;simp;omega
  have cq:∀k,(c == N'+k)=false/\(N'+k == c)=false:=fun k=>by have:=fc k;simp;omega
  have hA:A.length=p.Xo.length:=by rw [pe.len];simp [rD];omega
  have hrep:List.replicate x.Xz.length [AV.int .u32 0]=(x.Xz.map fun _=>(0:Int)).map c32:=by
   rw [List.map_map];exact (List.map_const' ..).symm
  rw [Prg.c] at la;simp [c_264_l0,Xi.c,e1,e2,e3,e20,e21,hi,hx,hw,t0,t,eC,la,lc,lf,aE,aA,mR,hN.eq,eL,b1,fj,fa,fc,jq,aq,cq,hA,A4 lf,hN.sw];have hk:i<A.length:=by rw [hA];exact hi
  have lo:∀j y,look j O'=some y->j≠jf->look j (setl jf (.row 1 ((A.set i (.row (N'+34) 1 0 x.Xz.length)).map fun x=>[x])) O'++[(N'+34,.row 1 ((x.Xz.map fun _=>(0:Int)).map c32))])=some y:=fun j y h1 h2=>by
   rw [aE,aA,QA h2,h1];rfl
  have lv:=pe.lv;have fv:=dI (n:=N'+34) hT lv (by omega);have pe2:=(pe.app [(N'+34,.row 1 ((x.Xz.map fun _=>(0:Int)).map c32))]).setF hk (a:= .row (N'+34) 1 0 x.Xz.length) (l:=x.Xz.map fun _=>0) (.inr (.inl ⟨N'+34,by simp,by rw [aE,t];simp,by omega,fv.2,(fj 34).2⟩));have ne3:∀k j,j<N->N'+k≠j:=fun k j h=>by omega
  have lt3:N'+34<N'+35:=by omega
  subst hx;rw [qwq p hi,A4 lf] at pe2;refine ih _ _ ⟨_,_,A.set i (.row (N'+34) 1 0 p.Xo[i].Xz.length),rfl,by simp [e1],by simp [e2],by simp [e3],by simp [e20],by simp,?_,?_,?_,?_,?_,?_,?_,by omega,bn⟩
  rotate_left 3
  ·rw [hrep,<- yE];exact pe2
  ·intro j hj _;rw [aE,aA,QA (by have:=pe.b;omega),kp j hj (by simp),gJ _ _ _ _ (ne3 _ _ hj)];cases look j O<;>rfl
  ·exact Tail_append_iff.2 ⟨bW (hT.mono (by omega)),Tail_cons_iff.2 ⟨lt3,Tail.nil _⟩⟩
  ·exact (hN.setl (by simp)).app (.one (by simp))
  all_goals
   rw [hrep,<- yE]
  ·exact lo _ _ la (bO la lf (by simp))
  ·exact lo _ _ lb (bO lb lf (by simp))
  ·exact lo _ _ lc (bO lc lf (by simp))
 ·rintro E _ K hK ⟨O',N',A,rfl,h⟩;obtain ⟨e1,e2,e3,e20,e21,la,lb,lc,pe,kp,hT,hN,hn,bn⟩:=h;rw [qyi] at pe;have cb:¬c=b/\¬b=c:=by
   have:=bO lc lb (by simp [z4]);exact ⟨this,fun e=>this e.symm⟩
  rw [z4] at lb;simp [oJ,c_264_l0,c_264_k1,e1,e2,e3,e20,e21,lb,lc,aA] at hK ⊢;simp [c_264_k1,hK,e2,e3,lb,lc,aA];refine ⟨_,_,iv,jf,im,A,rfl,pe.fr fun j es _ hj=>?_,kp.setl (.inl bn),bW hT,hN.setl (by simp),hn⟩;rw [aA,QA (bO hj lb (by simp)),hj]
theorem V6 {O:List (Nat×AO)} {N:Nat} (hT:Tail O N) (hN:NR O) {p:Prg} (w:PWd p):NewP p N O (aH Φ g7 [.agg p.c] ⟨O,N⟩):=by
 rw [d6 rfl rfl];have t:∀k,look (N+k) O=none:=fun k=>hT _ (by omega)
 have t0:=hT N (Qb _);have b1:p.Xo.length<=140737488355328:=by have:=w.hl;omega
 have b2:(p.Xo.length:Int)*24<=140737488355328/\(p.Xo.length:Int)<4611686018427387904:=by have:=w.hl;omega
 have b3:(p.Xn.length:Int)*4<=140737488355328/\(p.Xn.length:Int)<4611686018427387904:=by have:=w.ml;omega
 have bq:∀k,0<k->(N == N+k)=false/\(N+k == N)=false:=fun k hk=>by simp;omega
 simp [oJ,Prg.c,t0,t,eC,aE,aA,mR,hN.eq,eL,b1,b2,b3,bq,rC];have lt1:∀{u j:Nat} {y:AO} {r:List (Nat×AO)},j<u->look j r=none->look j ((u,y)::r)=none:=fun {u j y r} h1 h2=>by rw [gJ _ _ _ _ (by omega),h2]
 refine qyj w (a:=N) (b:=N+1) (c:=N+5) (iv:=N+10) (jf:=N+14) (im:=N+18) (A:=p.Xo.map fun _=> .Xt 1 []) ⟨by simp,by simp,by simp,by simp,by simp,?_,?_,?_,?_,?_,?_,?_,by omega,by omega⟩
 ·simp [aE,t0,Prg.c]
 ·simp [aE,t,z4]
 ·simp [aE,t]
 ·have r1:∀{Z:Type} (l:List Z) (x:List AV),List.replicate l.length x=l.map fun _=>x:=fun l x=>(List.map_const' ..).symm
  refine ⟨?_,?_,?_,by omega,by omega,by simp [rD],?_⟩
  ·simp [aE,t,rD,r1,cB]
  ·simp [aE,t,rD,r1]
  ·simp [aE,t,rD,r1,c32]
  ·intro k a l h1 h2;refine .inl ?_;simp only [rD,List.take_zero,yF,rT,List.drop_zero,List.getElem?_map] at h1 h2;obtain ⟨_,_,rfl⟩:=Qs.1 h1;obtain ⟨_,_,rfl⟩:=Qs.1 h2;exact ⟨rfl,rfl⟩
 ·intro j hj _;rw [aE];have ne1:∀k,N+k≠j:=fun k=>by omega
  rw [show ∀(x:AO) r,look j ((N,x)::r)=look j r from fun x r=>gJ _ _ _ _ (ne1 0)]
  repeat rw [gJ _ _ _ _ (ne1 _)]
  cases look j O<;>rfl
 ·have lt6:∀k,k<19->N+k<N+19:=fun k h=>by omega
  simp only [Tail_append_iff,Tail_cons_iff];exact ⟨hT.mono (by omega),lt6 0 (by decide),lt6 _ (by decide),lt6 _ (by decide),lt6 _ (by decide),lt6 _ (by decide),lt6 _ (by decide),Tail.nil _⟩
 ·exact hN.app (cK (by simp) (cK (by simp) (cK (by simp) (cK (by simp) (cK (by simp) (.one (by simp)))))))
def Fx (id iv jf:Nat) (j:Nat):Prop:=j=id\/j=iv\/j=jf
def ExtP (id t:Nat) (d:List Int) (B iv jf im N:Nat) (O:List (Nat×AO)) (y:Option (Envt×Nat)) (r:Option (Rt×AH)):Prop:=
 ∃O' N',Kp (Fx id iv jf) N O O'/\Tail O' N'/\NR O'/\N<=N'/\match y with
 | none=>r=some (.val (.int .i64 3),⟨O',N'⟩)
 | some x=>r=some (.val (.int .i64 0),⟨O',N'⟩)/\∃A,PE O' B iv jf im A x.1/\look id O'=some (rdr d t x.2)/\x.2<=8*d.length
structure XI (p:Prg) (s:Xc) (id t:Nat) (d:List Int) (B iv jf im:Nat) (P:AV) (N:Nat) (O:List (Nat×AO)) (a b c:Nat) (y:Option (Envt×Nat)) (i:Nat) (E:Env) (O':List (Nat×AO)) (N':Nat) (A:List AV) (x:Envt×Nat):Prop where
 e3:look 3 E=some (.ptr id 3 0 0)
 e4:look 4 E=some (.ptr a 9 0 0)
 e5:look 5 E=some (.ptr b 7 0 0)
 e6:look 6 E=some (.ptr c 4 0 0)
 e14:look 14 E=some (.slice 1 (s.extract.map cI))
 e15:look 15 E=some (a7 s.extract.length)
 e16:look 16 E=some (a7 i)
 la:look a O'=some (.row 9 [p.c])
 lc:look c O'=some (.row 4 [[.row iv 1 0 p.Xo.length,.row jf 1 0 p.Xo.length,.row im 1 0 p.Xn.length,P]])
 li:look id O'=some (rdr d t x.2)
 q:x.2<=8*d.length
 pe:PE O' B iv jf im A x.1
 v:x.1.valid.length=p.Xo.length
 f:x.1.Xz.length=p.Xo.length
 hy:y=exHs p d (s.extract.drop i) x
 kp:Kp (Fx id iv jf) N O O'
 hT:Tail O' N'
 hN:NR O'
 hn:N<=N'
theorem RH {p:Prg} (fs:PrgS p) (hd:∀h∈p.Xo,hdrE h=0) {s:Xc} (hs:∀h∈s.extract,0<=h/\h<p.Xo.length) (hsl:s.extract.length<2^40) {id t:Nat} {d:List Int} (hb:bOk d) (hl:d.length<=512) {B iv jf im:Nat} {P:AV} {N:Nat} {O:List (Nat×AO)} {a b c:Nat} {y:Option (Envt×Nat)} {E:Env} {O':List (Nat×AO)} {N':Nat} {A:List AV} {x:Envt×Nat}
  (h:XI p s id t d B iv jf im P N O a b c y 0 E O' N' A x):ExtP id t d B iv jf im N O y (go Φ (finC oK.results) [.c (.loop c_267_l0),.b 0,.c c_267_k1] .normal ⟨E,⟨O',N'⟩⟩):=by
 refine eF s.extract.length (fun i E h=>∃O' N' A x,h=⟨O',N'⟩/\XI p s id t d B iv jf im P N O a b c y i E O' N' A x) _ ?_ ?_ 0 _ _ (Qc _) ⟨_,_,_,_,rfl,h⟩
 ·rintro i E _ K hi hK ⟨O',N',A,x,rfl,h⟩ ih;obtain ⟨e3,e4,e5,e6,e14,e15,e16,la,lc,li,q,pe,v,f,hy,kp,hT,hN,hn⟩:=h;have hw:=aP i (by omega);obtain ⟨h0,h1⟩:=hs _ (Qd hi);rw [Qi hi,exHs] at hy;generalize hx:s.extract[i]=z at*;obtain ⟨m,rfl⟩:=l9 h0;have hm:m<p.Xo.length:=by omega
  have hg:p.Xo[m]∈p.Xo:=Qd hm;have vh:=vhdr (hd _ hg);have wn:(wSum p.Xo[m].Xz).toNat=wN p.Xo[m].Xz:=by rw [LG vh.w];rfl
  rw [exH,nK,Qa hm] at hy;simp only [wn] at hy;have rd:=RQ hT hN li hb hl q (fs.hn _ hg) (fs.hf _ hg) (hd _ hg);generalize hgx:p.Xo[m]=g at*;rw [Prg.c] at la;by_cases z:8*d.length<x.2+wN g.Xz
  ·rw [a8 z] at rd hy;obtain ⟨L,N1,hr,kp1,T1,R1,n1⟩:=rd;rw [hy];rw [Xi.c] at hr;simp [c_267_l0,Xi.c,cI,e3,e4,e5,e6,e14,e15,e16,hi,hx,hm,hgx,hw,la,lc,hr];exact ⟨_,_,fun j hj hf=>(kp1 j (by omega) (by simp)).trans (kp j hj hf),T1,R1,by omega,rfl⟩
  ·rw [QA z] at rd hy;obtain ⟨O1,N1,tk,hr,li1,lt1,tn,kp1,T1,R1,n1⟩:=rd;rw [gI] at hy;have hfr:∀j es,B<=j->look j O'=some (.row 1 es)->look j O1=some (.row 1 es):=fun j es _ hj=>by
    rw [kp1 j (hT.lt hj) (bO hj li (by simp [rdr])),hj]
   have pe1:=pe.fr hfr;have la1:look a O1=_:=(kp1 a (hT.lt la) (bO la li (by simp [rdr]))).trans la;have lc1:look c O1=_:=(kp1 c (hT.lt lc) (bO lc li (by simp [rdr]))).trans lc;rw [Xi.c] at hr;have lv:=pe1.lv;have lf:=pe1.lf;have cv:¬c=iv/\¬iv=c:=by
    have:=bO lc1 lv (by simp);exact ⟨this,fun e=>this e.symm⟩
   have cf:¬c=jf/\¬jf=c:=by
    have:=bO lc1 lf (by simp);exact ⟨this,fun e=>this e.symm⟩
   have hcb:∀b:Bool,(cB b).tail=[]:=fun b=>rfl
   have sw2:∀x y,dK (setl jf (.row 1 x) (setl iv (.row 1 y) O1))=setl jf (.row 1 x) (setl iv (.row 1 y) O1):=fun x y=>NR.setl (by simp) (NR.setl (by simp) R1)
   have cvb:(c == iv)=false:=by simp [cv]
   have d1:=pe.d.1;have d2:=pe.d.1.symm;have hA:A.length=p.Xo.length:=by rw [pe.len,f]
   simp [c_267_l0,Xi.c,cI,e3,e4,e5,e6,e14,e15,e16,hi,hx,hm,hgx,hw,la,lc,la1,lc1,hr,lv,lf,aA,cv,cf,d1,d2,hA,v,eL,R1.eq,cvb,hcb,sw2];have pe2:=(pe1.setV (x.1.valid.set m true)).setF (k:=m) (a:= .app 1 ((rdF d x.2 g.Xz).map c32) tk) (l:=rdF d x.2 g.Xz) (by rw [hA];exact hm) (.inr (.inr ⟨tk,rfl⟩));have hne:∀{j:Nat} {z:Nat} {es:List (List AV)},z≠1->look j O1=some (.row z es)->look j (setl jf (.row 1 ((A.set m (.app 1 ((rdF d x.2 g.Xz).map c32) tk)).map fun x=>[x])) (setl iv (.row 1 ((x.1.valid.set m true).map cB)) O1))=some (.row z es):=fun {j z es} hz hj=>by
    rw [aA,QA (bO hj lf (by simp [hz])),aA,QA (bO hj lv (by simp [hz])),hj]
   have es1:(x.1.valid.map cB).set m [AV.bool true]=(x.1.valid.set m true).map cB:=by rw [yE];rfl
   have es2:(A.map fun x=>[x]).set m [AV.app 1 ((rdF d x.2 g.Xz).map c32) tk]=(A.set m (AV.app 1 ((rdF d x.2 g.Xz).map c32) tk)).map fun x=>[x]:=by rw [yE]
   refine ih _ _ ⟨_,_,A.set m (.app 1 ((rdF d x.2 g.Xz).map c32) tk),_,rfl,by simp [e3],by simp [e4],by simp [e5],by simp [e6],by simp [e14],by simp [e15],by simp,?_,?_,?_,?_,?_,?_,?_,hy,?_,?_,?_,by omega⟩
   all_goals try rw [es1,es2]
   ·exact hne (by decide) la1
   ·exact hne (by decide) lc1
   ·exact hne (by decide) li1
   ·simp only;omega
   ·exact pe2
   ·simp [v]
   ·simp [f]
   ·intro j hj hf;have h3:¬j=jf/\¬j=iv/\¬j=id:=⟨fun e=>hf (.inr (.inr e)),fun e=>hf (.inr (.inl e)),fun e=>hf (.inl e)⟩;rw [aA,QA h3.1,aA,QA h3.2.1,kp1 j (by omega) h3.2.2,kp j hj hf]
   ·exact bW (bW (T1.mono (by omega)))
   ·exact NR.setl (by simp) (NR.setl (by simp) R1)
 ·rintro E _ K hK ⟨O',N',A,x,rfl,h⟩;obtain ⟨e3,e4,e5,e6,e14,e15,e16,la,lc,li,q,pe,v,f,hy,kp,hT,hN,hn⟩:=h;rw [B8,exHs] at hy;simp [oK,c_267_l0,c_267_k1,e15,e16] at hK ⊢;simp [c_267_k1,hK];subst hy;exact ⟨O',N',kp,hT,hN,hn,rfl,A,pe,li,q⟩
theorem Y8 {p:Prg} (fs:PrgS p) (hd:∀h∈p.Xo,hdrE h=0) {s:Xc} (hs:∀h∈s.extract,0<=h/\h<p.Xo.length) (hsl:s.extract.length<2^40) {id t:Nat} {d:List Int} (hb:bOk d) (hl:d.length<=512) {B iv jf im:Nat} {P:AV} {N:Nat} {O:List (Nat×AO)} {A:List AV} {x:Envt×Nat}
  (hT:Tail O N) (hN:NR O) (li:look id O=some (rdr d t x.2)) (q:x.2<=8*d.length) (pe:PE O B iv jf im A x.1) (v:x.1.valid.length=p.Xo.length) (f:x.1.Xz.length=p.Xo.length):
  ExtP id t d B iv jf im N O (exHs p d s.extract x) (aH Φ pN [.agg p.c,.agg s.c,.agg [.row iv 1 0 p.Xo.length,.row jf 1 0 p.Xo.length,.row im 1 0 p.Xn.length,P],.ptr id 3 0 0] ⟨O,N⟩):=by
 rw [d6 rfl rfl];have tt:∀k,look (N+k) O=none:=fun k=>hT _ (by omega)
 have t0:=hT N (Qb _);have lt3:∀k,k<3->N+k<N+3:=fun k h=>by omega
 simp [oK,Xc.c,t0,tt,eC,aE];refine RH fs hd (s:=s) (P:=P) (a:=N) (b:=N+1) (c:=N+2) hs hsl hb hl (A:=A) (x:=x) ⟨by simp,by simp,by simp,by simp,by simp,by simp,by simp,?_,?_,bK li,q,pe.app _,v,f,rfl,?_,?_,?_,by omega⟩
 ·simp [aE,t0]
 ·simp [aE,tt]
 ·intro j hj _;have ne1:∀k,N+k≠j:=fun k=>by omega
  rw [aE,show ∀(x:AO) r,look j ((N,x)::r)=look j r from fun x r=>gJ _ _ _ _ (ne1 0),gJ _ _ _ _ (ne1 _),gJ _ _ _ _ (ne1 _)];cases look j O<;>rfl
 ·simp only [Tail_append_iff,Tail_cons_iff];exact ⟨hT.mono (by omega),lt3 0 (by decide),lt3 1 (by decide),lt3 2 (by decide),Tail.nil _⟩
 ·exact hN.app (cK (by simp) (cK (by simp) (.one (by simp))))
theorem TX {v c m:Nat} (h:c&&& m=c):(v^^^c)&&& m=0↔v&&& m=c:=by
 rw [Nat.and_xor_distrib_right,h];constructor
 ·intro e;have:((v&&& m)^^^c)^^^c=0^^^c:=by rw [e]
  rwa [Nat.xor_assoc,Nat.xor_self,Nat.xor_zero,Nat.zero_xor] at this
 ·intro e;rw [e,Nat.xor_self]
theorem XE {v c m:Int} (hv:ok32 0 v) (hc:ok32 0 c) (hm:ok32 0 m) (h:c.toNat&&& m.toNat=c.toNat):iand .u32 (ixor .u32 v c) m=0↔iand .u32 v m=c:=by
 have hx:ok32 0 (ixor .u32 v c):=by
  have:=Kr (k:=32) (by decide) (a:=v) (b:=c) ⟨hv.1,by have:=hv.2;omega⟩ ⟨hc.1,by have:=hc.2;omega⟩;exact iY this (by decide)
 rw [NL hx hm,NL hv hm,Ks hv hc];have:=TX (v:=v.toNat) h;have h0:=hc.1;simp only [B7];omega
def nxF (s:Xc) (v:Int) (l:List Xj):Int:=((l.find? fun c=>decide (iand .u32 v c.Yd=c.value)).map (·.next)).getD s.Yb
structure NxI (s:Xc) (v R:Int) (i:Nat) (E:Env) (h:AH):Prop where
 e2:look 2 E=some (.iptr 7 [s.c] 0 0)
 e5:look 5 E=some (.int .u32 v)
 e15:look 15 E=some (.slice 3 (s.cases.map Xj.c))
 e16:look 16 E=some (a7 s.cases.length)
 e17:look 17 E=some (a7 i)
 r:R=nxF s v (s.cases.drop i)
 h:h.objs=[]
theorem W1 {s:Xc} {e:Envt} (hv:ok32 0 (eGet e s.on.header s.on.field)) (hl:s.cases.length<2^40) (hc:∀c∈s.cases,ok32 0 c.value/\ok32 0 c.Yd) (hm:∀c∈s.cases,c.value.toNat&&& c.Yd.toNat=c.value.toNat):
  aB Φ uG [.agg s.c,.agg e.c]=some (.val (a7 (nxS s e))):=by
 rw [aD rfl rfl];have hg:=ON e s.on.header s.on.field;rw [Envt.ce] at hg;unfold nxS;generalize eGet e s.on.header s.on.field=v at hg hv;cases q:s.select with
 | false=>simp [sX,c_268_k1,Xc.c,Envt.ce,q]
 | true=>
  rw [a8 rfl];simp [sX,Xc.c,Envt.ce,q,hg];refine eF s.cases.length (fun i E h=>NxI s v (nxF s v s.cases) i E h) (fun (r:Option Rt)=>r=some (.val (a7 (nxF s v s.cases)))) ?_ ?_ 0 _ _ (Qc _) ?_
  rotate_left 2
  ·exact ⟨by simp [Xc.c,q],by simp,by simp,by simp,by simp,rfl,rfl⟩
  ·rintro i E ⟨objs,n⟩ K hi hK h ih;obtain ⟨e2,e5,e15,e16,e17,r,h⟩:=h;cases h;have hw:=aP i (by omega);have hci:=hc _ (Qd hi);have hmi:=hm _ (Qd hi);rw [Qi hi] at r;generalize hx:s.cases[i]=x at*;have hs:=XE hv hci.1 hci.2 hmi;rw [Xc.c] at e2;by_cases z:iand .u32 v x.Yd=x.value
   ·have z1:=hs.2 z;have:nxF s v s.cases=x.next:=by rw [r];simp [nxF,z]
    simp [c_268_l0,Xj.c,e2,e5,e15,e16,e17,hi,hx,hw,z1,this]
   ·have z1:¬iand .u32 (ixor .u32 v x.value) x.Yd=0:=fun h=>z (hs.1 h)
    have:nxF s v s.cases=nxF s v (s.cases.drop (i+1)):=by rw [r];simp [nxF,z]
    simp [c_268_l0,Xj.c,e2,e5,e15,e16,e17,hi,hx,hw,z1];refine ih _ _ ?_;exact ⟨by simp [e2,Xc.c],by simp [e5],by simp [e15],by simp [e16],by simp,this,rfl⟩
  ·rintro E ⟨objs,n⟩ K hK h;obtain ⟨e2,e5,e15,e16,e17,r,h⟩:=h;cases h;rw [B8] at r;rw [Xc.c] at e2;simp [c_268_l0,e16,e17] at hK ⊢;simp [c_268_k1,hK,e2,r];rfl
theorem qzt {p:Prg} (fs:PrgS p) (hd:∀h∈p.Xo,hdrE h=0) (hp:(parE p).2.2=0) (d:List Int):
  aB Φ uF [.agg p.c,.slice 1 (d.map c8)]=some (.val (a7 (if 512<d.length then 4 else 0))):=by
 rw [aD rfl rfl];have hc:=My p fs;rw [Prg.c] at hc;simp [C7,Prg.c,hc,tup3,hp];refine eF p.Xo.length (fun i E h=>look 19 E=some (.slice 2 (p.Xo.map Xi.c))/\look 20 E=some (a7 p.Xo.length)/\look 21 E=some (a7 i)/\look 1 E=some (.slice 1 (d.map c8))/\h.objs=[]) (fun (r:Option Rt)=>r=some (.val (a7 (if 512<d.length then 4 else 0)))) ?_ ?_ 0 _ _ (Qc _) ?_
 rotate_left 2
 ·exact ⟨by simp,by simp,by simp,by simp,rfl⟩
 ·rintro i E ⟨objs,n⟩ K hi hK ⟨e19,e20,e21,e1,h⟩ ih;cases h;have hw:IntKind.wrap .i64 ((i:Int)+1)=((i+1:Nat):Int):=cM (by omega) (by have:=fs.h;omega);have hg:=Qd hi;generalize hx:p.Xo[i]=g at*;have hh:=ID g (fs.hn _ hg) (fs.hf _ hg);rw [hd _ hg,Xi.c] at hh;simp [c_265_l0,Xi.c,e19,e20,e21,hi,hx,hw,hh];refine ih _ _ ?_;exact ⟨by simp [e19],by simp [e20],by simp,by simp [e1],rfl⟩
 ·rintro E ⟨objs,n⟩ K hK ⟨e19,e20,e21,e1,h⟩;cases h;simp [c_265_l0,e20,e21] at hK ⊢;by_cases z:512<d.length<;>simp [c_265_k1,hK,e1,z]
end Go.Av
