/-
 Emit: the bytes of a packet.
-/
import Derived.Test.YtcehjengeaafpaaGreatTX6
set_option linter.all false
namespace Go.Av
set_option maxRecDepth 6000
def bH (p:Prg) (e:Envt) (h:Int):List Bool:=if (at? e.valid h).getD false then oD (((at? p.Xo h).map (·.Xz)).getD []) ((at? e.Xz h).getD []) else []
theorem jm {p:Prg} (hd:∀h∈p.Xo,hdrE h=0) {e:Envt} (ev:EV p e) {m:Nat} (h1:m<p.Xo.length) (h2:m<e.Xz.length):fitF p.Xo[m].Xz e.Xz[m]:=by
 refine ⟨ev.g m h2 h1,fun i k1 k2=>?_⟩;have vh:=vhdr (hd _ (Qd h1));have:=ev.ff m i _ _ (Qa h2) (Qa k2);rw [Q9 (Qa h1) (Qa k1) (vh.w _ (Qd k1))] at this;exact this
theorem Po {p:Prg} (hd:∀h∈p.Xo,hdrE h=0) {e:Envt} (ev:EV p e) {h:Int} (h0:0<=h/\h<p.Xo.length):(bH p e h).length<=384/\(bH p e h).length % 8=0:=by
 obtain ⟨m,rfl⟩:=f9 h0.1;have h1:m<p.Xo.length:=by omega
 have h2:m<e.Xz.length:=by rw [ev.f];exact h1
 have vh:=vhdr (hd _ (Qd h1));have hs:wN p.Xo[m].Xz % 8=0:=by have:=vh.s;rw [OB vh.w] at this;omega
 have hN:=wN_12 vh.n.2 vh.w p.Xo[m].Xz.length;rw [fF] at hN;unfold bH;split
 ·rw [oV,oV,Qa h1,Qa h2];simp only [F2,nO];rw [MP _ _ (jm hd ev h1 h2).1];exact ⟨hN,hs⟩
 ·simp
def EmP (id N:Nat) (O:List (Nat×AO)) (bs:List Bool) (r:Option (Rt×AH)):Prop:=
 ∃O' N' D,r=some (.val (.tup []),⟨O',N'⟩)/\WM O' id D bs/\Fr1 id O O'/\Tail O' N'/\NR O'/\N<=N'
theorem Dx {p:Prg} (fs:PrgS p) (hd:∀h∈p.Xo,hdrE h=0) {e:Envt} (ev:EV p e) {h:Int} (h0:0<=h/\h<p.Xo.length) {id c N:Nat} {O:List (Nat×AO)} {bs:List Bool} (hb:bs.length<2^39) (hz:bs.length % 8=0) {D:AV} (m:WM O id D bs) (lc:look c O=some (.row 1 [[.ptr id 3 0 0]])) (t:Tail O N) (r:NR O):
  EmP id N O (bs++bH p e h) (aG Φ 297 [a7 h,.iptr 4 [e.c] 0 0,.iptr 9 [p.c] 0 0,.ptr c 1 0 0] ⟨O,N⟩):=by
 rw [eQ rfl rfl];obtain ⟨k,rfl⟩:=f9 h0.1;have h1:k<p.Xo.length:=by omega
 have h2:k<e.Xz.length:=by rw [ev.f];exact h1
 have h3:k<e.valid.length:=by rw [ev.v];exact h1
 have hm:=Qd h1;cases q:e.valid[k] with
 | false=>
  have hbH:bH p e k=[]:=by
   unfold bH;rw [oV,Qa h3,q];rfl
  rw [hbH,KC];simp [BQ,Envt.ce,Prg.c,cB,h3,q];exact ⟨O,N,D,rfl,m,fun j z es _ _ h=>h,t,r,Qb _⟩
 | true=>
  have hbH:bH p e k=oD p.Xo[k].Xz e.Xz[k]:=by
   unfold bH;rw [oV,oV,oV,Qa h3,Qa h1,Qa h2,q];rfl
  rw [hbH];obtain ⟨O2,N2,D2,hr,m2,f2,t2,r2,n2⟩:=Ao (fs.hn _ hm) (fs.hf _ hm) (hd _ hm) (jm hd ev h1 h2) hb hz m t r;generalize hx:p.Xo[k]=x at*;generalize hy:e.Xz[k]=y at*;rw [Xi.c] at hr;simp [BQ,Envt.ce,Prg.c,Xi.c,cB,cS,h1,h2,h3,q,hx,hy,lc,hr];exact ⟨O2,N2,D2,rfl,m2,f2,t2,r2,n2⟩
def bD (p:Prg) (e:Envt) (i:Nat):List Bool:=((p.Xr.take i).map (bH p e)).flatten
theorem jh (p:Prg) (e:Envt) {i:Nat} (hi:i<p.Xr.length):bD p e (i+1)=bD p e i++bH p e p.Xr[i]:=by
 unfold bD;rw [Qh hi,yZ,List.flatten_append];simp
theorem SR {p:Prg} (hd:∀h∈p.Xo,hdrE h=0) {e:Envt} (ev:EV p e) (hdp:∀h∈p.Xr,0<=h/\h<p.Xo.length):∀i,i<=p.Xr.length->(bD p e i).length<=384*i/\(bD p e i).length % 8=0
 | 0,_=>by simp [bD]
 | i+1,h=>by
  have ih:=SR hd ev hdp i (by omega);have hb:=Po hd ev (hdp _ (Qd (show i<p.Xr.length by omega)));rw [jh p e (by omega),sR];omega
structure EI2 (p:Prg) (e:Envt) (i:Nat) (E:Env) (O:List (Nat×AO)) (N:Nat) (D:AV):Prop where
 e3:look 3 E=some (.iptr 4 [e.c] 0 0)
 e5:look 5 E=some (.ptr 1 1 0 0)
 e6:look 6 E=some (.func (.func 297) [] [.iptr 4 [e.c] 0 0,.iptr 9 [p.c] 0 0,.ptr 1 1 0 0])
 e18:look 18 E=some (.slice 1 (p.Xr.map cI))
 e19:look 19 E=some (a7 p.Xr.length)
 e20:look 20 E=some (a7 i)
 m:WM O 0 D (bD p e i)
 l:look 1 O=some (.row 1 [[.ptr 0 3 0 0]])
 t:Tail O N
 r:NR O
theorem PG {p:Prg} (fs:PrgS p) (w:PWd p) (hd:∀h∈p.Xo,hdrE h=0) (hp:(depE p).2=0) {e:Envt} (ev:EV p e) (pl:e.payload.length<2^40):
  a8 Φ 183 [.agg p.c,.agg e.c]=some (.val (.slice 1 ((emi p e).map c8))):=by
 rw [aB rfl rfl];have ha:=Y4 fs w hd hp ev pl;have nw:=PZ (O:=[]) (N:=0) (Tail.nil _);rw [Prg.c,Envt.ce] at ha;simp [BC,Prg.c,Envt.ce,ha,nw,uK];have vd:=vdep hp;have hdp:=vd.2;have hdl:p.Xr.length<=8:=vd.1;refine cC p.Xr.length (fun i E h=>∃O N D,h=⟨O,N⟩/\EI2 p e i E O N D) (fun (r:Option Rt)=>r=some (.val (.slice 1 ((emi p e).map c8)))) ?_ ?_ 0 _ _ (Qc _) ?_
 rotate_left 2
 ·refine ⟨_,_,.Xt 1 [],rfl,?_⟩;refine ⟨by simp [Envt.ce],by simp,by simp [Envt.ce,Prg.c],by simp,by simp,by simp,?_,by simp,?_,?_⟩
  ·exact ⟨by simp [bD],.inl ⟨by simp [bD,wu],rfl⟩⟩
  ·exact Tail_cons_iff.2 ⟨by omega,Tail_cons_iff.2 ⟨by omega,Tail.nil _⟩⟩
  ·exact bO (by simp) (.one (by simp))
 ·rintro i E _ K hi hK ⟨O,N,D,rfl,h⟩ ih;obtain ⟨e3,e5,e6,e18,e19,e20,m,l,t,r⟩:=h;have hw1:=aF i (by omega);have ln:=SR hd ev hdp i (by omega);obtain ⟨O2,N2,D2,hr,m2,f2,t2,r2,n2⟩:=Dx fs hd ev (hdp _ (Qd hi)) (by omega) ln.2 m l t r;rw [<- jh p e hi] at m2;have l2:=f2 1 1 _ (fun l h=>by cases l<;>simp [c8] at h) (by decide) l;generalize hx:p.Xr[i]=x at*;simp [kE,cI,e3,e5,e6,e18,e19,e20,hi,hx,hw1,hr];refine ih _ _ ⟨O2,N2,D2,rfl,?_⟩;exact ⟨by simp [e3],by simp [e5],by simp [e6],by simp [e18],by simp [e19],by simp,m2,l2,t2,r2⟩
 ·rintro E _ K hK ⟨O,N,D,rfl,h⟩;obtain ⟨e3,e5,e6,e18,e19,e20,m,l,t,r⟩:=h;have ln:=SR hd ev hdp p.Xr.length (Qb _);have hE:bD p e p.Xr.length=uL p e:=by
   unfold bD uL;rw [fF];rfl
  rw [hE] at m ln;have hw:wdat (uL p e)=byts ((uL p e).length / 8) (uL p e):=by unfold wdat;rw [a9 ln.2,KC]
  obtain ⟨L,N2,hr,t2,r2,n2,lk2⟩:=ge m t r ln.2 (by omega);have hem:emi p e=wdat (uL p e)++e.payload:=by rw [hw];rfl
  have hbd:(wdat (uL p e)).length+e.payload.length<=70368744177664:=by rw [JN];omega
  rw [hem];rw [Envt.ce] at e3;simp [BC,kE,e19,e20] at hK ⊢;simp [q9,hK,e3,e5,l,hr,lk2,hbd]
theorem Lw {p:Prg} (fs:PrgS p) (w:PWd p) (hd:∀h∈p.Xo,hdrE h=0) (hp:(depE p).2=0) {e:Envt} (ev:EV p e) (pl:e.payload.length<2^40):
  a8 Φ 182 [.agg p.c,.agg e.c]=some (.val (a7 (emi p e).length)):=by
 rw [aB rfl rfl];have h:=PG fs w hd hp ev pl;rw [Prg.c,Envt.ce] at h;simp [FN,Prg.c,Envt.ce,h]
theorem Ob {p:Prg} (fs:PrgS p) {t:Nat} (ht:t<p.Xm.length) (q:tOk p t=true) (e:Envt):a8 Φ 177 [.agg p.c,a7 t,.agg e.c]=some (.val (.slice 1 ((keyX p t e).map c32))):=by
 rw [aB rfl rfl];have hwd:=ri p fs t ht q;have kl:p.Xm[t].keys.length<2^40:=fs.tk _ (Qd ht);have hk:keyX p t e=p.Xm[t].keys.map fun k=>iand .u32 (eGet e k.field.header k.field.field) (bC (wid p k.field.header k.field.field)):=by
  unfold keyX;rw [oV,Qa ht]
 have hkw:kWid p p.Xm[t]=p.Xm[t].keys.map fun k=>wid p k.field.header k.field.field:=rfl
 rw [Prg.c,hkw] at hwd;rw [hk];generalize hx:p.Xm[t]=x at*;generalize hK:(x.keys.map fun k=>iand .u32 (eGet e k.field.header k.field.field) (bC (wid p k.field.header k.field.field)))=ks at*;simp [B8,Prg.c,Envt.ce,hwd];have ksl:ks.length=x.keys.length:=by rw [<- hK];simp
 refine cC x.keys.length (fun i E h=>∃O N,h=⟨O,N⟩/\look 3 E=some (.iptr 9 [p.c] 0 0)/\look 5 E=some (.iptr 4 [e.c] 0 0)/\look 1 E=some (a7 t)/\look 12 E=some (.slice 1 (x.keys.map (cI ∘ fun k=>wid p k.field.header k.field.field)))/\look 13 E=some (a7 x.keys.length)/\look 14 E=some (a7 i)/\look 7 E=some (.app 1 ((ks.take i).map c32) 0)/\look 0 O=some (.tok 1 i)) (fun (r:Option Rt)=>r=some (.val (.slice 1 (ks.map c32)))) ?_ ?_ 0 _ _ (Qc _) ?_
 rotate_left 2
 ·exact ⟨_,_,rfl,by simp [Prg.c],by simp [Envt.ce],by simp,by simp,by simp,by simp,by simp,by simp⟩
 ·rintro i E _ K hi hKK ⟨O,N,rfl,e3,e5,e1,e12,e13,e14,e7,l0⟩ ih;have hw1:=aF i (by omega);have hg:=VV e x.keys[i].field.header x.keys[i].field.field;have hm:=nZ (wid p x.keys[i].field.header x.keys[i].field.field);have htw:ks.take (i+1)=ks.take i++[iand .u32 (eGet e x.keys[i].field.header x.keys[i].field.field) (bC (wid p x.keys[i].field.header x.keys[i].field.field))]:=by
   rw [Qh (by omega)];subst hK;simp
  have hmin:min i ks.length=i:=by omega
  have bd:(i+1)*4<=70368744177664:=by omega
  rw [Prg.c] at e3;rw [Envt.ce] at e5 hg;generalize hy:x.keys[i]=y at*;simp [k9,Tbl.c,Xk.c,FieldRef.c,cI,e3,e5,e1,e12,e13,e14,e7,hi,ht,hx,hy,hw1,hg,hm,l0,hmin,bd];refine ih _ _ ⟨_,_,rfl,?_⟩;exact ⟨by simp [e3,Prg.c],by simp [e5,Envt.ce],by simp [e1],by simp [e12],by simp [e13],by simp,by simp [htw,c32],by rw [aA,a9 rfl,l0];rfl⟩
 ·rintro E _ K hKK ⟨O,N,rfl,e3,e5,e1,e12,e13,e14,e7,l0⟩;rw [Qo (by omega)] at e7;simp [B8,k9,e13,e14] at hKK ⊢;simp [q8,hKK,e7]
theorem A' {p:Prg} (fs:PrgS p) {t:Nat} (ht:t<p.Xm.length) (key:List Int) {l:List Rw} (hll:l.length<2^40) (hl:∀x∈l,EntS x.entry) (hp:l.Pairwise fun a b=>a.id<b.id):
  a8 Φ 178 [.agg p.c,a7 t,.slice 5 (l.map Rw.c),.slice 1 (key.map c32)]=some (.val (.tup [.agg (rowV (oB p t key l)),.bool (oB p t key l).isSome])):=by
 obtain ⟨O',N',hr,-⟩:=Hs p fs t ht key (O:=[]) (N:=0) (Tail.nil _) (Re.sl (l.map Rw.c)) hll hl;have hb:bstP p t l key=oB p t key l:=Pb p t l hp key;rw [hb] at hr;unfold a8;rw [show H0=(⟨[],0⟩:AH) from rfl,hr];cases oB p t key l with
 | none=>simp [wI,rowV,Rw.ce]
 | some r=>simp [wI,rowV,Rw.ce]
set_option maxRecDepth 8000
theorem XV.exe {p:Prg} (c:Xb) {e:Envt} {rs:List (List Int)} (h:XV p e rs):XV p (exeX p c e rs).1 (exeX p c e rs).2:=by
 unfold exeX;split
 ·exact h
 ·rename_i a _;have aux:∀(l:List Xf) (x:Envt×List (List Int)),XV p x.1 x.2->XV p (l.foldl (stmX p a.params c.args) x).1 (l.foldl (stmX p a.params c.args) x).2:=by
   intro l
   induction l with
   | nil=>intro x h;exact h
   | cons s l ih=>intro x h;exact ih _ (h.stm s)
  exact aux _ (e,rs) h
structure CallV (p:Prg) (k:Xb):Prop where
 a:(actE p k.Xy).2=0
 c:nV p k=0
 v:∀v∈k.args,ok32 0 v
 l:k.args.length<2^40
structure CF (p:Prg) (c:Xe):Prop where
 rl:c.rows.length=p.Xm.length
 dl:c.Xp.length=p.Xm.length
 rs:∀l∈c.rows,l.length<2^40/\(∀x∈l,EntS x.entry/\CallV p x.entry.call)/\l.Pairwise fun a b=>a.id<b.id
 dc:∀d∈c.Xp,CallV p d
structure PKp (p:Prg):Prop where
 fs:PrgS p
 w:PWd p
 hd:∀h∈p.Xo,hdrE h=0
 tb:∀t:Nat,t<p.Xm.length->tOk p t=true
 dp:(depE p).2=0
 pa:(parE p).2.2=0
def mC (p:Prg) (c:Xe) (e:Envt) (rs:List (List Int)) (hv:AV):List AV:=
  ((.slice 1 (e.valid.map cB))::(.slice 1 (e.Xz.map (cS 1 c32)))::(.slice 1 (e.metaF.map c32))::(.slice 1 (e.payload.map c8))::(.slice 1 (rs.map (cS 1 c32)))::hv::uO p [.slice 1 (c.rows.map (cS 5 Rw.c)),.slice 1 (c.Xq.map cI),.slice 2 (c.Xp.map Xb.c),.slice 1 (c.Xl.map (cS 1 c32))])
def HV (O:List (Nat×AO)) (h:List Hit) (hv:AV):Prop:=(h=[]/\hv= .Xt 3 [])\/∃tk,hv= .app 3 (h.map Hit.c) tk/\look tk O=some (.tok 3 h.length)
structure MM (p:Prg) (c:Xe) (id:Nat) (O:List (Nat×AO)) (s:MS) (hv:AV):Prop where
 l:look id O=some (.row 19 [mC p c s.e s.rs hv])
 h:HV O s.hits hv
def FrM (id:Nat) (O O':List (Nat×AO)):Prop:=∀j z es,j≠id->look j O=some (.row z es)->look j O'=some (.row z es)
theorem FrM.trans {id:Nat} {O O' O'':List (Nat×AO)} (h:FrM id O O') (h2:FrM id O' O''):FrM id O O'':=fun j z es h1 h3=>h2 j z es h1 (h j z es h1 h3)
def ApP (p:Prg) (c:Xe) (id N:Nat) (O:List (Nat×AO)) (s':MS) (v:AV) (r:Option (Rt×AH)):Prop:=
 ∃O' N' hv,r=some (.val v,⟨O',N'⟩)/\MM p c id O' s' hv/\FrM id O O'/\Tail O' N'/\NR O'/\N<=N'
theorem Ji {O:List (Nat×AO)} {N n:Nat} {h:List Hit} {hv:AV} (x:HV O h hv):snap (n+1) ⟨O,N⟩ hv=some (.slice 3 (h.map Hit.c)):=by
 rcases x with ⟨rfl,rfl⟩ | ⟨tk,rfl,_⟩<;>simp
theorem apA {id N M k1 k2:Nat} {O:List (Nat×AO)} {x:AO} {z1 z2 z3 z4:Nat} {e1 e2 e3 e4:List (List AV)} {f:Nat} (li:look id O=some x) (T:Tail O N) (R:NR O) (h1:N+k1<M) (h2:N+k2<M) (h3:k1≠k2):
  let O':=setl id (.row z3 e3) (setl id (.row z2 e2) (setl id (.row z1 e1) (O++[(N+k1,.row z4 e4)]))++[(N+k2,.tok 3 f)])
  look id O'=some (.row z3 e3)/\look (N+k2) O'=some (.tok 3 f)/\FrM id O O'/\Tail O' M/\NR O':=by
 have hi:=T.lt li;have tt:∀k,look (N+k) O=none:=fun k=>T _ (by omega)
 refine ⟨?_,?_,?_,?_,?_⟩
 ·rw [aA,a9 rfl,aC,aA,a9 rfl,aA,a9 rfl,bL li];rfl
 ·rw [aA,QA (by omega),aC,aA,QA (by omega),aA,QA (by omega),aC,tt,j9 _ _ _ _ (by omega)];simp
 ·intro j z es hj hl;rw [aA,QA hj,aC,aA,QA hj,aA,QA hj,bL hl];rfl
 ·exact bB (Tail_append_iff.2 ⟨bB (bB (Tail_append_iff.2 ⟨T.mono (by omega),Tail_cons_iff.2 ⟨h1,Tail.nil _⟩⟩)),Tail_cons_iff.2 ⟨h2,Tail.nil _⟩⟩)
 ·exact NR.setl (by simp) ((NR.setl (by simp) (NR.setl (by simp) (R.app (.one (by simp))))).app (.one (by simp)))
theorem apB {id N M k1 tk:Nat} {O:List (Nat×AO)} {x:AO} {y z1 z2 z3 z4:Nat} {e1 e2 e3 e4:List (List AV)} {f:Nat} (li:look id O=some x) (lt:look tk O=some (.tok 3 y)) (hne:tk≠id) (T:Tail O N) (R:NR O) (h1:N+k1<M):
  let O':=setl id (.row z3 e3) (setl tk (.tok 3 f) (setl id (.row z2 e2) (setl id (.row z1 e1) (O++[(N+k1,.row z4 e4)]))))
  look id O'=some (.row z3 e3)/\look tk O'=some (.tok 3 f)/\FrM id O O'/\Tail O' M/\NR O':=by
 refine ⟨?_,?_,?_,?_,?_⟩
 ·rw [aA,a9 rfl,aA,QA hne.symm,aA,a9 rfl,aA,a9 rfl,bL li];rfl
 ·rw [aA,QA hne,aA,a9 rfl,aA,QA hne,aA,QA hne,bL lt];rfl
 ·intro j z es hj hl;rw [aA,QA hj,aA,QA (aW hl lt (by simp)),aA,QA hj,aA,QA hj,bL hl]
 ·exact bB (bB (bB (bB (Tail_append_iff.2 ⟨T.mono (by omega),Tail_cons_iff.2 ⟨h1,Tail.nil _⟩⟩))))
 ·exact NR.setl (by simp) (NR.setl (by simp) (NR.setl (by simp) (NR.setl (by simp) (R.app (.one (by simp))))))
theorem up {p:Prg} (k:PKp p) {c:Xe} (cf:CF p c) {t:Nat} (ht:t<p.Xm.length) {id N:Nat} {O:List (Nat×AO)} {s:MS} {hv:AV} (m:MM p c id O s hv) (xv:XV p s.e s.rs) (hl:s.hits.length<2^30) (T:Tail O N) (R:NR O):
  ApP p c id N O (apX p c t s).1 (.bool (apX p c t s).2) (aG Φ 105 [.ptr id 19 0 0,a7 t] ⟨O,N⟩):=by
 rw [eQ rfl rfl];obtain ⟨e,rs,hits⟩:=s;obtain ⟨li,lh⟩:=m;simp only at li lh xv hl;have hk:=Ob k.fs ht (k.tb t ht) e;have htr:t<c.rows.length:=by rw [cf.rl];exact ht
 have htd:t<c.Xp.length:=by rw [cf.dl];exact ht
 obtain ⟨r1,r2,r3⟩:=cf.rs _ (Qd htr);have hb:=A' k.fs ht (keyX p t e) r1 (fun x hx=>(r2 x hx).1) r3;have hsel:selX p c t e=oB p t (keyX p t e) c.rows[t]:=by simp [selX,htr]
 have hcal:CallV p (calX c t (selX p c t e)):=by
  unfold calX;split
  ·rename_i x hx;rw [hsel] at hx;rcases gk _ _ _ _ _ hx with h | h
   ·exact (r2 x h).2
   ·cases h
  ·rw [oV,Qa htd];exact cf.dc _ (Qd htd)
 have hex:=Ri k.fs k.w (calX c t (selX p c t e)) hcal.a hcal.c hcal.v hcal.l xv;have hap:apX p c t ⟨e,rs,hits⟩=(⟨(exeX p (calX c t (selX p c t e)) e rs).1,(exeX p (calX c t (selX p c t e)) e rs).2,hits++[⟨t,((selX p c t e).map (·.id)).getD 0,(calX c t (selX p c t e)).Xy⟩]⟩,(selX p c t e).isSome):=rfl;rw [hap];generalize exeX p (calX c t (selX p c t e)) e rs=y at*;obtain ⟨e2,rs2⟩:=y;rw [<- hsel] at hb;have hdef:selX p c t e=none->calX c t (selX p c t e)=c.Xp[t]:=fun h=>by
  rw [h];simp [calX,htd]
 have hrow:∀x,selX p c t e=some x->calX c t (selX p c t e)=x.entry.call:=fun x h=>by rw [h];rfl
 generalize selX p c t e=o at*;generalize hcl:calX c t o=cl at*;generalize keyX p t e=ks at*;generalize hrw:c.rows[t]=rw at*;generalize hdf:c.Xp[t]=df at*;have t0:∀k,look (N+k) O=none:=fun k=>T _ (by omega)
 have t00:=T N (Qb _);have fi:=fun k=>eR (n:=N+k) T li (by omega)
 have fi0:=eR (n:=N) T li (by omega);have iq:∀k,(id == N+k)=false/\(N+k == id)=false:=fun k=>by simp [fi k]
 have iq0:(id == N)=false/\(N == id)=false:=by simp [fi0]
 rw [mC] at li;rw [Prg.c] at hk hex hb;simp only [Envt.ce] at hk hex;have lt8:N+7<N+8:=by omega
 have lt9:∀k,k<9->N+k<N+9:=fun k h=>by omega
 have ft:∀{tk y:Nat},look tk O=some (.tok 3 y)->∀k,¬tk=N+k/\¬N+k=tk:=fun h k=>eR T h (by omega)
 have idt:∀{tk y:Nat},look tk O=some (.tok 3 y)->¬id=tk/\¬tk=id:=fun h=>by
  have:=aW li h (by simp);exact ⟨this,fun e=>this e.symm⟩
 have bd:(hits.length+1)*24<=70368744177664:=by omega
 cases o with
 | none=>
  have hcd:=hdef rfl;subst hcd;simp only [rowV,Option.isSome_none,Rw.ce,noE] at hb;rw [Xb.c] at hex;rcases lh with ⟨rfl,rfl⟩ | ⟨tk,rfl,lt⟩
  ·simp [uZ,li,hk,cS,htr,htd,hrw,hdf,hb,hex,Xb.c,t0,t00,cZ,aC,aA,fi,fi0,iq,iq0,eY,nG,R.eq];obtain ⟨a1,a2,a3,a4,a5⟩:=apA li T R (lt9 7 (by decide)) (lt9 8 (by decide)) (by decide);exact ⟨_,_,_,rfl,⟨a1,.inr ⟨_,rfl,a2⟩⟩,a3,a4,a5,KA _ _⟩
  ·have ft:=ft lt;have idt:=idt lt;simp [uZ,li,hk,cS,htr,htd,hrw,hdf,hb,hex,Xb.c,t0,t00,cZ,aC,aA,fi,fi0,iq,iq0,eY,nG,R.eq,lt,ft,idt,bd];obtain ⟨a1,a2,a3,a4,a5⟩:=apB li lt idt.2 T R lt8;exact ⟨_,_,_,rfl,⟨a1,.inr ⟨tk,by simp [Hit.c],by simpa using a2⟩⟩,a3,a4,a5,KA _ _⟩
 | some x=>
  have hcd:=hrow x rfl;subst hcd;simp only [rowV,Option.isSome_some,Rw.ce] at hb;rw [Xb.c] at hex;rcases lh with ⟨rfl,rfl⟩ | ⟨tk,rfl,lt⟩
  ·simp [uZ,li,hk,cS,htr,htd,hrw,hdf,hb,hex,Xb.c,t0,t00,cZ,aC,aA,fi,fi0,iq,iq0,eY,nG,R.eq];obtain ⟨a1,a2,a3,a4,a5⟩:=apA li T R (lt9 7 (by decide)) (lt9 8 (by decide)) (by decide);exact ⟨_,_,_,rfl,⟨a1,.inr ⟨_,rfl,a2⟩⟩,a3,a4,a5,KA _ _⟩
  ·have ft:=ft lt;have idt:=idt lt;simp [uZ,li,hk,cS,htr,htd,hrw,hdf,hb,hex,Xb.c,t0,t00,cZ,aC,aA,fi,fi0,iq,iq0,eY,nG,R.eq,lt,ft,idt,bd];obtain ⟨a1,a2,a3,a4,a5⟩:=apB li lt idt.2 T R lt8;exact ⟨_,_,_,rfl,⟨a1,.inr ⟨tk,by simp [Hit.c],by simpa using a2⟩⟩,a3,a4,a5,KA _ _⟩
def mS (p:Prg) (c:Xe) (s:MS):List AV:=mC p c s.e s.rs (.slice 3 (s.hits.map Hit.c))
theorem MM.snp {p:Prg} {c:Xe} {id N:Nat} {O:List (Nat×AO)} {s:MS} {hv:AV} (m:MM p c id O s hv):snap 40 ⟨O,N⟩ (.ptr id 19 0 0)=some (.iptr 19 [mS p c s] 0 0):=by
 have h1:=m.l;have h2:=Ji (N:=N) (n:=38) m.h;rw [mC] at h1;simp [h1,h2,mS,mC]
theorem PT {p:Prg} {c:Xe} (s:MS) (f:Int):a8 Φ 181 [.iptr 19 [mS p c s] 0 0,a7 f]=some (.val (.int .u32 (eGet s.e (-1) f))):=by
 rw [aB rfl rfl];have h:=VV s.e (-1) f;rw [Envt.ce] at h;simp [FM,mS,mC,h]
theorem Oa {p:Prg} {c:Xe} {s:MS} (xv:XV p s.e s.rs) (cond:List Xd):a8 Φ 106 [.iptr 19 [mS p c s] 0 0,.slice 3 (cond.map Xd.c)]=some (.val (.bool (decide (evl p [] cond s.e []=1)))):=by
 rw [aB rfl rfl];have he:=QR p [] s.e [] cond xv.g (by simp);rw [Envt.ce] at he;simp [scC,Prg.c] at he;simp [F7,mS,mC,he]
def RsP (y:Rslt) (N:Nat) (O:List (Nat×AO)) (r:Option (Rt×AH)):Prop:=
 ∃L N' v1 v2 v3 v4,r=some (.val (.agg [v1,v2,v3,v4]),⟨O++L,N'⟩)/\Tail (O++L) N'/\NR (O++L)/\N<=N'/\∀(O2:List (Nat×AO)) (n n2:Nat),snap (n+1) ⟨O2,n2⟩ v1=some (.bool y.drop)/\snap (n+1) ⟨O2,n2⟩ v2=some (a7 y.port)/\snap (n+1) ⟨O2,n2⟩ v3=some (.slice 1 (y.data.map c8))/\snap (n+1) ⟨O2,n2⟩ v4=some (.slice 3 (y.hits.map Hit.c))
theorem Bi {p:Prg} (k:PKp p) {c:Xe} {id N:Nat} {O:List (Nat×AO)} {s:MS} {hv:AV} (m:MM p c id O s hv) (xv:XV p s.e s.rs) (T:Tail O N) (R:NR O):
  RsP (resX p s) N O (aG Φ 107 [.ptr id 19 0 0] ⟨O,N⟩):=by
 rw [eQ rfl rfl];have t0:=T N (Qb _);have sn:=fun L n=>MM.snp (N:=n) (⟨bL (L:=L) m.l,by
  rcases m.h with h | ⟨tk,h1,h2⟩
  ·exact .inl h
  ·exact .inr ⟨tk,h1,bL h2⟩⟩:MM p c id (O++L) s hv)
 have m1:=PT (p:=p) (c:=c) s 1;have m2:=PT (p:=p) (c:=c) s 2;have em:=PG k.fs k.w k.hd k.dp xv.ev xv.pl;have sz:=Lw k.fs k.w k.hd k.dp xv.ev xv.pl;have li:=m.l;have fi:=eR (n:=N) T li (Qb _);rw [mC] at li;rw [Prg.c,Envt.ce] at em sz;have w1:IntKind.wrap .i64 (eGet s.e (-1) 1)=eGet s.e (-1) 1:=by
  have:=xv.g (-1) 1;exact aQ (by have:=this.1;omega) (by have:=this.2;omega)
 have g1:(at? s.e.metaF 1).getD 0=eGet s.e (-1) 1:=by simp [eGet]
 have g2:(at? s.e.metaF 2).getD 0=eGet s.e (-1) 2:=by simp [eGet]
 have fin:∀{x:AO} {v1 v2 v3 v4:AV},x≠ .res->(∀(O2:List (Nat×AO)) (n n2:Nat),snap (n+1) ⟨O2,n2⟩ v1=some (.bool (resX p s).drop)/\snap (n+1) ⟨O2,n2⟩ v2=some (a7 (resX p s).port)/\snap (n+1) ⟨O2,n2⟩ v3=some (.slice 1 ((resX p s).data.map c8))/\snap (n+1) ⟨O2,n2⟩ v4=some (.slice 3 ((resX p s).hits.map Hit.c)))->RsP (resX p s) N O (some (Rt.val (.agg [v1,v2,v3,v4]),(⟨O++[(N,x)],N+1⟩:AH))):=fun {x v1 v2 v3 v4} hx h=>
  ⟨_,_,_,_,_,_,rfl,Tail_append_iff.2 ⟨T.mono (by omega),Tail_cons_iff.2 ⟨by omega,Tail.nil _⟩⟩,R.app (.one hx),by omega,h⟩
 unfold resX at*;rw [g1,g2] at*;rcases m.h with ⟨h0,rfl⟩ | ⟨tk,rfl,_⟩
 ·by_cases z:eGet s.e (-1) 2=1
  ·rw [a9 (.inl z)] at*;simp [p6,t0,sn,m2,z,aC,aA,li,fi,eY];exact fin (by simp) (by intro O2 n n2;simp [h0])
  ·by_cases z2:512<(emi p s.e).length
   ·rw [a9 (.inr z2)] at*;simp [p6,t0,sn,m2,z,z2,sz,aC,aA,li,fi,eY];exact fin (by simp) (by intro O2 n n2;simp [h0])
   ·rw [QA (by simp [z,z2])] at*;simp [p6,t0,sn,m1,m2,z,z2,sz,em,w1,aC,aA,li,fi,eY];exact fin (by simp) (by intro O2 n n2;simp [h0])
 ·by_cases z:eGet s.e (-1) 2=1
  ·rw [a9 (.inl z)] at*;simp [p6,t0,sn,m2,z,aC,aA,li,fi,eY];exact fin (by simp) (by intro O2 n n2;simp)
  ·by_cases z2:512<(emi p s.e).length
   ·rw [a9 (.inr z2)] at*;simp [p6,t0,sn,m2,z,z2,sz,aC,aA,li,fi,eY];exact fin (by simp) (by intro O2 n n2;simp)
   ·rw [QA (by simp [z,z2])] at*;simp [p6,t0,sn,m1,m2,z,z2,sz,em,w1,aC,aA,li,fi,eY];exact fin (by simp) (by intro O2 n n2;simp)
def fA (id:Nat):AV:= .func (.func 105) [.ptr id 19 0 0] []
def fT (id:Nat):AV:= .func (.func 106) [.ptr id 19 0 0] []
def NdV (p:Prg) (x:Xa):Prop:=x.kind=2\/((x.kind=3\/x.kind=1/\x.thn=[]/\x.els=[])/\∃t:Nat,x.table=t/\t<p.Xm.length)
def lst (X:AV) (l:List Xa):Prop:=(l=[]/\X= .Xt 5 [])\/X= .slice 5 (l.map Xa.c)
def BrP (p:Prg) (c:Xe) (id N:Nat) (O:List (Nat×AO)) (s':MS) (l:List Xa) (r:Option (Rt×AH)):Prop:=
 ∃O' N' hv X,r=some (.val X,⟨O',N'⟩)/\lst X l/\MM p c id O' s' hv/\FrM id O O'/\Tail O' N'/\NR O'/\N<=N'
theorem MM.app {p:Prg} {c:Xe} {id:Nat} {O:List (Nat×AO)} {s:MS} {hv:AV} (m:MM p c id O s hv) (L:List (Nat×AO)):MM p c id (O++L) s hv:=⟨bL m.l,by
 rcases m.h with h | ⟨tk,h1,h2⟩
 ·exact .inl h
 ·exact .inr ⟨tk,h1,bL h2⟩⟩
section
variable {p:Prg} (pk:PKp p) {c:Xe} (cf:CF p c) {id N:Nat} {O:List (Nat×AO)} {s:MS} {hv:AV} (m:MM p c id O s hv) (xv:XV p s.e s.rs) (hl:s.hits.length<2^30) (T:Tail O N) (R:NR O)
include pk cf m xv hl T R
theorem Oy (k:Int) {t:Nat} (ht:t<p.Xm.length) (cd:List Xd) (a b:List Xa):
  BrP p c id N O (apX p c t s).1 [] (aG Φ 428 [.agg (Xa.c (.mk k t cd a b)),.agg [fA id,fT id]] ⟨O,N⟩):=by
 rw [eQ rfl rfl];have t0:∀k,look (N+k) O=none:=fun k=>T _ (by omega)
 have t00:=T N (Qb _);have l2:N+1<N+1+1:=by omega
 have T1:∀(x y:AO),Tail (O++[(N,x),(N+1,y)]) (N+1+1):=fun x y=>Tail_append_iff.2 ⟨T.mono (by omega),Tail_cons_iff.2 ⟨by omega,Tail_cons_iff.2 ⟨l2,Tail.nil _⟩⟩⟩
 have R1:∀(z z2:Nat) (x y:List (List AV)),NR (O++[(N,.row z x),(N+1,.row z2 y)]):=fun z z2 x y=>R.app (bO (by simp) (.one (by simp)))
 obtain ⟨O2,N2,hv2,hr,m2,f2,t2,r2,n2⟩:=up pk cf ht (m.app [(N,.row 5 [Xa.c (.mk k t cd a b)]),(N+1,.row 2 [[fA id,fT id]])]) xv hl (T1 _ _) (R1 _ _ _ _);rw [Xa.e,fA,fT] at hr;simp [JB,Xa.e,fA,fT,t0,t00,aC,hr];exact ⟨O2,N2,hv2,_,rfl,.inl ⟨rfl,rfl⟩,m2,fun j z es h1 h2=>f2 j z es h1 (bL h2),t2,r2,by omega⟩
theorem Pa (k:Int) {t:Nat} (ht:t<p.Xm.length) (cd:List Xd) (a b:List Xa):
  BrP p c id N O (apX p c t s).1 (if (apX p c t s).2 then a else b) (aG Φ 429 [.agg (Xa.c (.mk k t cd a b)),.agg [fA id,fT id]] ⟨O,N⟩):=by
 rw [eQ rfl rfl];have t0:∀k,look (N+k) O=none:=fun k=>T _ (by omega)
 have t00:=T N (Qb _);have l2:N+1<N+1+1:=by omega
 have T1:∀(x y:AO),Tail (O++[(N,x),(N+1,y)]) (N+1+1):=fun x y=>Tail_append_iff.2 ⟨T.mono (by omega),Tail_cons_iff.2 ⟨by omega,Tail_cons_iff.2 ⟨l2,Tail.nil _⟩⟩⟩
 have R1:∀(z z2:Nat) (x y:List (List AV)),NR (O++[(N,.row z x),(N+1,.row z2 y)]):=fun z z2 x y=>R.app (bO (by simp) (.one (by simp)))
 obtain ⟨O2,N2,hv2,hr,m2,f2,t2,r2,n2⟩:=up pk cf ht (m.app [(N,.row 5 [Xa.c (.mk k t cd a b)]),(N+1,.row 2 [[fA id,fT id]])]) xv hl (T1 _ _) (R1 _ _ _ _);have hN:=T.lt m.l;have lN:=f2 N 5 [Xa.c (.mk k t cd a b)] (by omega) (by rw [aC,t00];simp);rw [Xa.e,fA,fT] at hr;rw [Xa.e] at lN;cases q:(apX p c t s).2 with
 | true=>
  rw [q] at hr;simp [C6,Xa.e,fA,fT,t0,t00,aC,hr,lN];exact ⟨O2,N2,hv2,_,rfl,.inr rfl,m2,fun j z es h1 h2=>f2 j z es h1 (bL h2),t2,r2,by omega⟩
 | false=>
  rw [q] at hr;simp [C6,Xa.e,fA,fT,t0,t00,aC,hr,lN];exact ⟨O2,N2,hv2,_,rfl,.inr rfl,m2,fun j z es h1 h2=>f2 j z es h1 (bL h2),t2,r2,by omega⟩
omit pk cf hl in
theorem Oz (k t:Int) (cd:List Xd) (hcd:cd.length<2^40) (a b:List Xa):
  BrP p c id N O s (if evl p [] cd s.e []=1 then a else b) (aG Φ 430 [.agg (Xa.c (.mk k t cd a b)),.agg [fA id,fT id]] ⟨O,N⟩):=by
 rw [eQ rfl rfl];have t0:∀k,look (N+k) O=none:=fun k=>T _ (by omega)
 have t00:=T N (Qb _);have hN:=T.lt m.l;have bd:cd.length*24<=70368744177664:=by omega
 have iq:∀k,(id == N+k)=false/\(N+k == id)=false:=fun k=>by simp;omega
 have iq0:(id == N)=false/\(N == id)=false:=by simp;omega
 have te:=Oa (c:=c) xv cd;have sn:=fun L n=>(m.app L).snp (N:=n)
 have bq:∀k,0<k->(N == N+k)=false/\(N+k == N)=false:=fun k hk=>by simp;omega
 have lt13:∀k,k<13->N+k<N+13:=fun k h=>by omega
 have fin:∀{X:AV} {l:List Xa} {z z2 f:Nat} {x y:List (List AV)},lst X l->BrP p c id N O s l (some (.val X,⟨O++[(N,.row z x),(N+1,.row z2 y),(N+12,.tok 3 f)],N+13⟩)):=fun {X l z z2 f x y} h=>
  ⟨_,_,hv,X,rfl,h,m.app _,fun j z es _ hj=>bL hj,Tail_append_iff.2 ⟨T.mono (by omega),Tail_cons_iff.2 ⟨lt13 0 (by decide),Tail_cons_iff.2 ⟨lt13 1 (by decide),Tail_cons_iff.2 ⟨lt13 12 (by decide),Tail.nil _⟩⟩⟩⟩,R.app (bO (by simp) (bO (by simp) (.one (by simp)))),by omega⟩
 by_cases q:evl p [] cd s.e []=1
 ·simp [C7,Xa.e,fA,fT,t0,t00,cZ,aC,aA,nG,R.eq,eY,bd,iq,iq0,sn,te,bq,q];exact fin (.inr rfl)
 ·simp [C7,Xa.e,fA,fT,t0,t00,cZ,aC,aA,nG,R.eq,eY,bd,iq,iq0,sn,te,bq,q];exact fin (.inr rfl)
end
theorem V4 (p:Prg) (c:Xe):∀(n:Nat) (s:MS),ctX p c n [] s=s
 | 0,_=>rfl
 | _+1,_=>rfl
theorem Dr (k t:Int) (cd:List Xd) (a b:List Xa):a8 Φ 278 [.agg (Xa.c (.mk k t cd a b))]=some (.val (if k=1 then .iface 413 (.agg (Xa.c (.mk k t cd a b))) else if k=3 then .iface 414 (.agg (Xa.c (.mk k t cd a b))) else if k=2 then .iface 415 (.agg (Xa.c (.mk k t cd a b))) else .iface 417 (.agg []))):=by
 rw [aB rfl rfl];by_cases h1:k=1
 ·simp [vK,Xa.e,h1]
 by_cases h3:k=3
 ·simp [vK,Xa.e,h3]
 by_cases h2:k=2
 ·simp [vK,Xa.e,h2]
 ·simp [vK,Xa.e,h1,h2,h3]
def XS (p:Prg) (s:MS):Prop:=XV p s.e s.rs
theorem XS.ap {p:Prg} {c:Xe} {t:Int} {s:MS} (h:XS p s):XS p (apX p c t s).1:=XV.exe _ h
theorem XS.nd {p:Prg} {c:Xe} {f:List Xa->MS->MS} (hf:∀l s,XS p s->XS p (f l s)) {s:MS} (h:XS p s) (x:Xa):XS p (ndX p c f s x):=by
 unfold ndX;split
 ·exact hf _ _ h
 ·exact hf _ _ h.ap
theorem XS.ct {p:Prg} {c:Xe}:∀(n:Nat) (l:List Xa) (s:MS),XS p s->XS p (ctX p c n l s)
 | 0,_,_,h=>h
 | n+1,l,s,h=>eg (P:=XS p) (fun _ x hb=>XS.nd (XS.ct n) hb x) l s h
theorem SF {x y:Xa} (hy:y∈pre1 x):∀{l:List Xa},x∈l->y∈pre l
 | [],h=>by cases h
 | z::l,h=>by
  simp only [pre,nE];rcases nK.1 h with h | h
  ·subst h;exact .inl hy
  ·exact .inr (SF hy h)
theorem S9 {x:Xa}:∀{l:List Xa},x∈l->1+CV x<=nest l
 | [],h=>by cases h
 | z::l,h=>by
  simp only [nest];rcases nK.1 h with h | h
  ·subst h;exact Nat.le_max_left _ _
  ·exact wB (S9 h) (Nat.le_max_right _ _)
theorem Iv:∀(l:List Xa),(apl l).length<=(pre l).length:=fun l=>by
 unfold apl;rw [tH];exact List.length_filter_le _ _
theorem io {p:Prg} {c:Xe} (n:Nat) (l:List Xa) (s:MS) (h:∀x∈pre l,x.kind=2\/appl x=true):(ctX p c n l s).hits.length<=s.hits.length+(pre l).length:=by
 obtain ⟨hs,h1,h2⟩:=KV (p:=p) (c:=c) n l s h;have:=h2.length_le;have h3:=Iv l;rw [h1,sR];rw [tH] at this;omega
theorem gu:∀l:List Xa,l.length<=(pre l).length
 | []=>by simp
 | x::l=>by
  have ih:=gu l;obtain ⟨k,t,c,a,b⟩:=x;simp only [pre,pre1,sR,AQ];omega
theorem aoW (id:Nat):aoEq (some (AO.row 2 [[.func (.func 105) [.ptr id 19 0 0] [],.func (.func 106) [.ptr id 19 0 0] []]])) (some (AO.row 2 [[.func (.func 105) [.ptr id 19 0 0] [],.func (.func 106) [.ptr id 19 0 0] []]]))=true:=by
 simp [aoEq,eqL,avEq,aI]
def WkP (p:Prg) (c:Xe) (id N:Nat) (O:List (Nat×AO)) (s':MS) (r:Option (Rt×AH)):Prop:=
 ∃O' N' hv,r=some (.val (.tup []),⟨O',N'⟩)/\MM p c id O' s' hv/\FrM id O O'/\Tail O' N'/\NR O'/\N<=N'
theorem Q6 {p:Prg} (pk:PKp p) {c:Xe} (cf:CF p c) {id:Nat}:∀(n:Nat) (l:List Xa) (X:AV) (O:List (Nat×AO)) (N:Nat) (s:MS) (hv:AV),nest l<=n->(∀x∈pre l,NdV p x/\x.cond.length<2^40)->lst X l->MM p c id O s hv->XS p s->s.hits.length+(pre l).length<2^30->Tail O N->NR O->
  WkP p c id N O (ctX p c n l s) (aG Φ 176 [.agg [fA id,fT id],X] ⟨O,N⟩)
 | n,[],X,O,N,s,hv,hn,hv2,hX,m,xs,hh,T,R=>by
  rw [V4,eQ rfl rfl];have t00:=T N (Qb _);have fin:∀{x:List (List AV)} {z:Nat},WkP p c id N O s (some (.val (.tup []),⟨O++[(N,.row z x)],N+1⟩)):=fun {x z}=>
   ⟨_,_,hv,rfl,m.app _,fun j z es _ hj=>bL hj,Tail_append_iff.2 ⟨T.mono (by omega),Tail_cons_iff.2 ⟨by omega,Tail.nil _⟩⟩,R.app (.one (by simp)),by omega⟩
  rcases hX with ⟨_,rfl⟩ | rfl
  ·simp [wS,fA,fT,t00,aC];rw [aT];simp [bS];exact fin
  ·simp [wS,fA,fT,t00,aC];rw [aT];simp [bS];exact fin
 | 0,x::l,X,O,N,s,hv,hn,hv2,hX,m,xs,hh,T,R=>by
  simp only [nest] at hn;omega
 | n+1,x0::l0,X,O,N,s,hv,hn,hv2,hX,m,xs,hh,T,R=>by
  have hX':X= .slice 5 ((x0::l0).map Xa.c):=by
   rcases hX with ⟨h,_⟩ | h
   ·cases h
   ·exact h
  subst hX';generalize hll:x0::l0=l at*;have hlp:l.length<=(pre l).length:=gu l;have hkd:∀x∈pre l,x.kind=2\/appl x=true:=fun x hx=>by
   rcases (hv2 x hx).1 with h | ⟨h | h,_⟩
   ·exact .inl h
   ·right;simp [appl,h]
   ·right;simp [appl,h.1]
  rw [eQ rfl rfl];have t00:=T N (Qb _);simp [wS,fA,fT,t00,aC];refine cC l.length (fun i E h=>∃O' N' hv',h=⟨O',N'⟩/\look 2 E=some (.ptr N 2 0 0)/\look 6 E=some (.slice 5 (l.map Xa.c))/\look 7 E=some (a7 l.length)/\look 8 E=some (a7 i)/\look N O'=some (.row 2 [[fA id,fT id]])/\MM p c id O' (ctX p c (n+1) (l.take i) s) hv'/\FrM id O O'/\Tail O' N'/\NR O'/\N<N') (fun r=>WkP p c id N O (ctX p c (n+1) l s) r) ?_ ?_ 0 _ _ (Qc _) ?_
  rotate_left 2
  ·refine ⟨_,_,hv,rfl,by simp,by simp,by simp,by simp,by rw [aC,t00];simp [fA,fT],?_,fun j z es _ hj=>bL hj,Tail_append_iff.2 ⟨T.mono (by omega),Tail_cons_iff.2 ⟨by omega,Tail.nil _⟩⟩,R.app (.one (by simp)),by omega⟩;rw [OK,V4];exact m.app _
  ·rintro i E _ K hi hK ⟨O',N',hv',rfl,e2,e6,e7,e8,lN,m',f',T',R',n'⟩ ih;have hmem:=Qd hi;have hsplit:pre l=pre (l.take i)++(pre1 l[i]++pre (l.drop (i+1))):=by
    rw [show pre1 l[i]++pre (l.drop (i+1))=pre (l[i]::l.drop (i+1)) by simp [pre],<- Qi hi,<- EL,AK]
   have hl1:=congrArg List.length hsplit;rw [sR,sR] at hl1;have hhi:=io (p:=p) (c:=c) (n+1) (l.take i) s fun x hx=>hkd x (by rw [hsplit];exact List.mem_append_left _ hx)
   have xi:XS p (ctX p c (n+1) (l.take i) s):=XS.ct _ _ _ xs;have hstep:ctX p c (n+1) (l.take (i+1)) s=ndX p c (ctX p c n) (ctX p c (n+1) (l.take i) s) l[i]:=by
    simp only [ctX];rw [Qh hi,OI];rfl
   have hw1:=aF i (by omega);have hne:=S9 hmem;have hself:l[i]∈pre1 l[i]:=by
    generalize l[i]=x;obtain ⟨k,t,cd,a,b⟩:=x;simp [pre1]
   obtain ⟨hnv,hcd⟩:=hv2 _ (SF hself hmem);have hsub:∀y∈pre1 l[i],NdV p y/\y.cond.length<2^40:=fun y hy=>hv2 y (SF hy hmem)
   generalize hx:l[i]=x at*;obtain ⟨k,t,cd,a,b⟩:=x;simp only [Xa.cond] at hcd;simp only [CV] at hne;simp only [pre1,AQ,sR] at hl1;generalize ctX p c (n+1) (l.take i) s=si at*;have t0:=T' N' (Qb _);have hwr:=Dr k t cd a b;have next:∀{E2:Env} {s2:MS} {O3:List (Nat×AO)} {N3:Nat} {hv3:AV},(∀j,j=2\/j=6\/j=7->look j E2=look j E)->look 8 E2=some (a7 (i+1:Nat))->ndX p c (ctX p c n) si (.mk k t cd a b)=s2->MM p c id O3 s2 hv3->FrM id O' O3->Tail O3 N3->NR O3->N'<=N3->WkP p c id N O (ctX p c (n+1) l s) (go Φ (finC []) K .normal ⟨E2,⟨O3,N3⟩⟩):=fun {E2 s2 O3 N3 hv3} hE h8 hs hm hf ht hr hn3=>
    ih _ _ ⟨O3,N3,hv3,rfl,by rw [hE 2 (by simp),e2],by rw [hE 6 (by simp),e6],by rw [hE 7 (by simp),e7],h8,hf N 2 _ (by have:=T.lt m.l;omega) lN,by rw [hstep,hs];exact hm,FrM.trans f' hf,ht,hr,by omega⟩
   have T1:Tail O' (N'+1+1):=T'.mono (by omega);have below:∀{O2:List (Nat×AO)} {N2:Nat} {s2:MS} {hv2' X2:AV} {l2:List Xa},lst X2 l2->nest l2<=n->(∀x∈pre l2,NdV p x/\x.cond.length<2^40)->MM p c id O2 s2 hv2'->XS p s2->s2.hits.length+(pre l2).length<2^30->Tail O2 N2->NR O2->WkP p c id N2 O2 (ctX p c n l2 s2) (aG Φ 176 [.agg [fA id,fT id],X2] ⟨O2,N2⟩):=fun {O2 N2 s2 hv2' X2 l2} h1 h2 h3 h4 h5 h6 h7 h8=>Q6 pk cf n l2 X2 O2 N2 s2 hv2' h2 h3 h1 h4 h5 h6 h7 h8
   have ha:nest a<=n:=by omega
   have hb:nest b<=n:=by omega
   have hpa:∀x∈pre a,NdV p x/\x.cond.length<2^40:=fun y hy=>hsub y (by simp [pre1,hy])
   have hpb:∀x∈pre b,NdV p x/\x.cond.length<2^40:=fun y hy=>hsub y (by simp [pre1,hy])
   have hap1:∀t':Int,(apX p c t' si).1.hits.length=si.hits.length+1:=fun t'=>by simp [apX]
   have lN1:=lN;rw [fA,fT] at lN1;simp only [NdV,Xa.kind,Xa.thn,Xa.els,Xa.table] at hnv;rcases hnv with rfl | ⟨rfl | ⟨rfl,rfl,rfl⟩,t',rfl,ht'⟩
   ·obtain ⟨O2,N2,hv2',X2,hr,hX2,m2,f2,t2,r2,n2⟩:=Oz m' xi T1 R' 2 t cd hcd a b;obtain ⟨O3,N3,hv3,hr3,m3,f3,t3,r3,n3⟩:=below hX2 (by split<;>assumption) (by split<;>assumption) m2 xi (by split<;>omega) t2 r2;rw [fA,fT] at hr hr3;rw [QA (by decide),QA (by decide),a9 rfl] at hwr;rw [Xa.e] at hr hwr;have lN2:=f2 N 2 _ (by have:=T.lt m.l;omega) lN1;simp [bS,Xa.e,e2,e6,e7,e8,hi,hx,hw1,lN1,t0,hwr,hr,hr3,eY,R'.eq,r2.eq,r3.eq,lN2,aoW];refine next (by rintro j (rfl | rfl | rfl)<;>simp) (by simp) ?_ m3 (FrM.trans f2 f3) t3 r3 (by omega)
    rfl
   ·obtain ⟨O2,N2,hv2',X2,hr,hX2,m2,f2,t2,r2,n2⟩:=Pa pk cf m' xi (by omega) T1 R' 3 ht' cd a b;obtain ⟨O3,N3,hv3,hr3,m3,f3,t3,r3,n3⟩:=below hX2 (by split<;>assumption) (by split<;>assumption) m2 (XS.ap xi) (by rw [hap1];split<;>omega) t2 r2;rw [fA,fT] at hr hr3;rw [QA (by decide),a9 rfl] at hwr;rw [Xa.e] at hr hwr;have lN2:=f2 N 2 _ (by have:=T.lt m.l;omega) lN1;simp [bS,Xa.e,e2,e6,e7,e8,hi,hx,hw1,lN1,t0,hwr,hr,hr3,eY,R'.eq,r2.eq,r3.eq,lN2,aoW];refine next (by rintro j (rfl | rfl | rfl)<;>simp) (by simp) ?_ m3 (FrM.trans f2 f3) t3 r3 (by omega)
    rfl
   ·obtain ⟨O2,N2,hv2',X2,hr,hX2,m2,f2,t2,r2,n2⟩:=Oy pk cf m' xi (by omega) T1 R' 1 ht' cd [] [];obtain ⟨O3,N3,hv3,hr3,m3,f3,t3,r3,n3⟩:=below hX2 (by simp [nest]) (by simp [pre]) m2 (XS.ap xi) (by rw [hap1];simp [pre];omega) t2 r2;rw [fA,fT] at hr hr3;rw [a9 rfl] at hwr;rw [Xa.e] at hr hwr;simp only [zA] at hr hwr;have lN2:=f2 N 2 _ (by have:=T.lt m.l;omega) lN1;simp [bS,Xa.e,e2,e6,e7,e8,hi,hx,hw1,lN1,t0,hwr,hr,hr3,eY,R'.eq,r2.eq,r3.eq,lN2,aoW];refine next (by rintro j (rfl | rfl | rfl)<;>simp) (by simp) ?_ m3 (FrM.trans f2 f3) t3 r3 (by omega)
    show ctX p c n (if (apX p c t' si).2=true then [] else []) (apX p c t' si).1=_;split<;>rfl
  ·rintro E _ K hK ⟨O',N',hv',rfl,e2,e6,e7,e8,lN,m',f',T',R',n'⟩;rw [fF] at m';simp [bS,e7,e8] at hK ⊢;simp [hK];exact ⟨O',N',hv',rfl,m',f',T',R',by omega⟩
theorem Dq {p:Prg} (pk:PKp p) {c:Xe} (cf:CF p c) {id:Nat} (l:List Xa) {O:List (Nat×AO)} {N:Nat} {s:MS} {hv:AV} (hk:∀x∈pre l,NdV p x/\x.cond.length<2^40) (m:MM p c id O s hv) (xs:XS p s) (hh:s.hits.length+(pre l).length<2^30) (T:Tail O N) (R:NR O):
  WkP p c id N O (ctX p c (nest l) l s) (aG Φ 104 [.slice 5 (l.map Xa.c),fA id,fT id] ⟨O,N⟩):=by
 rw [eQ rfl rfl];obtain ⟨O2,N2,hv2,hr,m2,f2,t2,r2,n2⟩:=Q6 pk cf (nest l) l (.slice 5 (l.map Xa.c)) O N s hv (Qb _) hk (.inr rfl) m xs hh T R;rw [fA,fT] at hr;simp [F6,fA,fT,hr];exact ⟨O2,N2,hv2,rfl,m2,f2,t2,r2,n2⟩
theorem ss (rs:List (List Int)) (h:rs.length<2^40) (h2:∀l∈rs,l.length<2^40):a8 Φ 99 [.slice 1 (rs.map (cS 1 c32))]=some (.val (.slice 1 (rs.map (cS 1 c32)))):=by
 rw [aB rfl rfl];simp [KU];refine cC rs.length (fun i E h=>∃O N,h=⟨O,N⟩/\look 6 E=some (.slice 1 (rs.map (cS 1 c32)))/\look 7 E=some (a7 rs.length)/\look 8 E=some (a7 i)/\look 3 E=some (.app 1 ((rs.take i).map (cS 1 c32)) 0)/\look 0 O=some (.tok 1 i)) (fun (r:Option Rt)=>r=some (.val (.slice 1 (rs.map (cS 1 c32))))) ?_ ?_ 0 _ _ (Qc _) ?_
 rotate_left 2
 ·exact ⟨_,_,rfl,by simp,by simp,by simp,by simp,by simp⟩
 ·rintro i E _ K hi hK ⟨O,N,rfl,e6,e7,e8,e3,l0⟩ ih;have hw1:=aF i (by omega);have hc:=lj rs[i] (h2 _ (Qd hi));have htw:rs.take (i+1)=rs.take i++[rs[i]]:=Qh hi;have hmin:min i rs.length=i:=by omega
  have bd:(i+1)*24<=70368744177664:=by omega
  generalize hx:rs[i]=x at*;simp [oS,cS,e6,e7,e8,e3,hi,hx,hw1,hc,l0,hmin,bd];refine ih _ _ ⟨_,_,rfl,?_⟩;exact ⟨by simp [e6],by simp [e7],by simp,by simp [htw,cS],by rw [aA,a9 rfl,l0];rfl⟩
 ·rintro E _ K hK ⟨O,N,rfl,e6,e7,e8,e3,l0⟩;rw [fF] at e3;simp [KU,oS,e7,e8] at hK ⊢;simp [uH,hK,e3]
set_option maxRecDepth 4000
def Rf (n:Nat) (a:AV):Prop:=avEq n a a=true
def RfL (n:Nat) (l:List AV):Prop:=∀a∈l,Rf n a
theorem LI {G:Type} {f:G->G->Bool}:∀{l:List G},(∀a∈l,f a a=true)->eqL f l l=true
 | [],_=>rfl
 | a::l,h=>by
  simp only [eqL,d7];exact ⟨h a (by simp),LI fun b hb=>h b (by simp [hb])⟩
theorem tG (n:Nat) (k:IntKind) (x:Int):Rf (n+1) (.int k x):=by simp [Rf,avEq]
theorem P5 (n:Nat) (x:Bool):Rf (n+1) (.bool x):=by simp [Rf,avEq]
theorem LT (n:Nat) (x:List UInt8):Rf (n+1) (.str x):=by simp [Rf,avEq]
theorem iS {G:Type} {n z:Nat} {l:List G} {f:G->List AV} (h:∀x∈l,RfL n (f x)):Rf (n+1) (.slice z (l.map f)):=by
 simp only [Rf,avEq,d7];refine ⟨by simp,LI fun x hx=>LI fun a ha=>?_⟩;obtain ⟨y,hy,rfl⟩:=iU.1 hx;exact h y hy a ha
theorem Tw {G:Type} {n z t:Nat} {l:List G} {f:G->List AV} (h:∀x∈l,RfL n (f x)):Rf (n+1) (.app z (l.map f) t):=by
 simp only [Rf,avEq,d7];refine ⟨by simp,LI fun x hx=>LI fun a ha=>?_⟩;obtain ⟨y,hy,rfl⟩:=iU.1 hx;exact h y hy a ha
theorem Tx (n z:Nat):Rf (n+1) (.Xt z []):=by simp [Rf,avEq,eqL]
theorem sP (n:Nat):RfL n []:=fun _ h=>by cases h
theorem b7 {n:Nat} {a:AV} {l:List AV} (h:Rf n a) (h2:RfL n l):RfL n (a::l):=fun b hb=>by
 rcases nK.1 hb with rfl | hb
 ·exact h
 ·exact h2 b hb
theorem LS (n:Nat) (x:Int):RfL (n+1) (c32 x):=b7 (tG ..) (sP _)
theorem rf_c8 (n:Nat) (x:Int):RfL (n+1) (c8 x):=b7 (tG ..) (sP _)
theorem WH (n:Nat) (x:Int):RfL (n+1) (cI x):=b7 (tG ..) (sP _)
theorem rf_cB (n:Nat) (x:Bool):RfL (n+1) (cB x):=b7 (P5 ..) (sP _)
theorem WI {G:Type} {n z:Nat} {f:G->List AV} (h:∀x,RfL n (f x)) (l:List G):RfL (n+1) (cS z f l):=b7 (iS fun x _=>h x) (sP _)
theorem mf (n:Nat) (x:Fld):RfL (n+1) (Fld.c x):=by
 simp only [Fld.c];exact b7 (LT ..) (b7 (tG ..) (sP _))
theorem Ty (n:Nat) (x:Xi):RfL (n+2) (Xi.c x):=by
 simp only [Xi.c];exact b7 (LT ..) (b7 (iS fun y _=>mf n y) (sP _))
theorem Ub (n:Nat) (x:Xg):RfL (n+1) (Xg.c x):=by
 simp only [Xg.c];exact b7 (LT ..) (b7 (tG ..) (b7 (tG ..) (sP _)))
theorem R9 (n:Nat) (x:Xd):RfL (n+1) (Xd.c x):=by
 simp only [Xd.c];exact b7 (tG ..) (b7 (tG ..) (b7 (tG ..) (sP _)))
theorem Ud (n:Nat) (x:Xf):RfL (n+2) (Xf.c x):=by
 rw [Xf.e]
 repeat first | exact sP _ | refine b7 (tG ..) ?_ | refine b7 (iS fun y _=>R9 n y) ?_
theorem Tv (n:Nat) (x:Action):RfL (n+3) (Action.c x):=by
 rw [Action.e];exact b7 (LT ..) (b7 (iS fun y _=>mf (n+1) y) (b7 (iS fun y _=>Ud n y) (sP _)))
theorem Uf (n:Nat) (x:Xk):RfL (n+1) (Xk.c x):=by
 simp only [Xk.c,FieldRef.c,oY,yY]
 repeat first | exact sP _ | refine b7 (tG ..) ?_
theorem Ue (n:Nat) (x:Tbl):RfL (n+2) (Tbl.c x):=by
 simp only [Tbl.c,Xb.c,oY,yY]
 repeat first | exact sP _ | refine b7 (tG ..) ?_ | refine b7 (LT ..) ?_ | refine b7 (iS fun y _=>Uf n y) ?_ | refine b7 (iS fun y _=>WH n y) ?_ | refine b7 (iS fun y _=>LS n y) ?_
theorem Uc (n:Nat) (x:Xj):RfL (n+1) (Xj.c x):=by
 simp only [Xj.c]
 repeat first | exact sP _ | refine b7 (tG ..) ?_
theorem Ua (n:Nat) (x:Xc):RfL (n+2) (Xc.c x):=by
 simp only [Xc.c]
 repeat first | exact sP _ | refine b7 (tG ..) ?_ | refine b7 (P5 ..) ?_ | refine b7 (LT ..) ?_ | refine b7 (iS fun y _=>Uc n y) ?_ | refine b7 (iS fun y _=>WH n y) ?_
theorem me (n:Nat):∀(d:Nat) (l:List Xa),nest l<=d->∀x∈l,RfL (n+d+2) (Xa.c x)
 | 0,l,h,x,hx=>by
  have:=S9 hx;omega
 | d+1,l,h,.mk k t c a b,hx=>by
  have h1:=S9 hx;simp only [CV] at h1;rw [Xa.e];have e:n+(d+1)+2=(n+d+2)+1:=by omega
  have e2:n+(d+1)+2=(n+d+1)+1+1:=by omega
  refine b7 (tG ..) (b7 (tG ..) (b7 ?_ (b7 ?_ (b7 ?_ (sP _)))))
  ·rw [e2];exact iS fun y _=>R9 _ y
  ·rw [e];exact iS fun y hy=>me n d a (by omega) y hy
  ·rw [e];exact iS fun y hy=>me n d b (by omega) y hy
theorem rf_km (n:Nat) (x:Xh):RfL (n+1) (Xh.c x):=by
 simp only [Xh.c]
 repeat first | exact sP _ | refine b7 (tG ..) ?_
theorem rf_rw (n:Nat) (x:Rw):RfL (n+2) (Rw.c x):=by
 rw [Rw.ce]
 repeat first | exact sP _ | refine b7 (tG ..) ?_ | refine b7 (iS fun y _=>rf_km n y) ?_ | refine b7 (iS fun y _=>LS n y) ?_
theorem Mv (n:Nat) (x:Xb):RfL (n+2) (Xb.c x):=by
 simp only [Xb.c];exact b7 (tG ..) (b7 (iS fun y _=>LS n y) (sP _))
theorem Tz (n:Nat) (x:Hit):RfL (n+1) (Hit.c x):=by
 simp only [Hit.c]
 repeat first | exact sP _ | refine b7 (tG ..) ?_
theorem rf_mC {p:Prg} (c:Xe) (e:Envt) (rs:List (List Int)) {O:List (Nat×AO)} {h:List Hit} {hv:AV} (hh:HV O h hv) (hd:nest p.Ya<=30):RfL 40 (mC p c e rs hv):=by
 have hvr:Rf 40 hv:=by
  rcases hh with ⟨_,rfl⟩ | ⟨tk,rfl,_⟩
  ·exact Tx ..
  ·exact Tw fun y _=>Tz _ y
 simp only [mC];refine b7 (iS fun y _=>rf_cB _ y) (b7 (iS fun y _=>WI (LS 37) y) (b7 (iS fun y _=>LS _ y) (b7 (iS fun y _=>rf_c8 _ y) (b7 (iS fun y _=>WI (LS 37) y) (b7 hvr ?_)))));refine b7 (LT ..) (b7 (iS fun y _=>Ty _ y) (b7 (iS fun y _=>mf _ y) (b7 (iS fun y _=>Ub _ y) (b7 (iS fun y _=>Tv _ y) (b7 (iS fun y _=>Ue _ y) (b7 (iS fun y _=>Ua _ y) ?_))))));refine b7 (iS fun y hy=>me 7 30 p.Ya hd y hy) (b7 (iS fun y _=>WH _ y) ?_);exact b7 (iS fun y _=>WI (rf_rw 36) y) (b7 (iS fun y _=>WH _ y) (b7 (iS fun y _=>Mv _ y) (b7 (iS fun y _=>WI (LS 37) y) (sP _))))
theorem ao_mC {p:Prg} (c:Xe) (e:Envt) (rs:List (List Int)) {O:List (Nat×AO)} {h:List Hit} {hv:AV} (hh:HV O h hv) (hd:nest p.Ya<=30):aoEq (some (.row 19 [mC p c e rs hv])) (some (.row 19 [mC p c e rs hv]))=true:=by
 simp only [aoEq,d7];refine ⟨by simp,LI fun x hx=>?_⟩;rw [List.mem_singleton] at hx;subst hx;exact LI fun a ha=>rf_mC c e rs hh hd a ha
structure CtV (p:Prg):Prop where
 n:∀x∈pre p.Ya,NdV p x/\x.cond.length<2^40
 l:(pre p.Ya).length<2^30
 d:nest p.Ya<=30
def runR (y:Option (Rslt×List (List Int))):Rt:=match y with
 | none=> .val (.tup [.agg noR.c,.slice 1 [],.bool false])
 | some x=> .val (.tup [.agg x.1.c,.slice 1 (x.2.map (cS 1 c32)),.bool true])
theorem Kt {p:Prg} (pk:PKp p) (cv:CtV p) {c:Xe} (cf:CF p c) (rv:RV p c.Xl) (k:Packet) (hb:bOk k.data):
  a8 Φ 47 [.agg p.c,.agg c.c,.agg k.c]=some (runR (runX p c k)):=by
 rw [aB rfl rfl];have hp:=Fl pk.fs pk.w pk.hd pk.pa hb;have hpn:∀z:prs p k.data=none,k.port<0\/255<k.port\/True:=fun _=> .inr (.inr trivial)
 rw [Prg.c] at hp;by_cases h0:k.port<0
 ·have hr:runX p c k=none:=by rw [runX,a9 (.inl h0)]
  rw [hr];cases q:prs p k.data with
  | none=>
   rw [q] at hp;obtain ⟨e,he,hp⟩:=hp;rw [Envt.ce] at hp;simp [wE,Prg.c,Xe.c,Packet.c,hp,h0,runR,noR,Rslt.c]
  | some e=>
   rw [q] at hp;simp only [ParP,Envt.ce] at hp;simp [wE,Prg.c,Xe.c,Packet.c,hp,h0,runR,noR,Rslt.c]
 by_cases h1:255<k.port
 ·have hr:runX p c k=none:=by rw [runX,a9 (.inr h1)]
  rw [hr];cases q:prs p k.data with
  | none=>
   rw [q] at hp;obtain ⟨e,he,hp⟩:=hp;rw [Envt.ce] at hp;simp [wE,Prg.c,Xe.c,Packet.c,hp,h0,h1,runR,noR,Rslt.c]
  | some e=>
   rw [q] at hp;simp only [ParP,Envt.ce] at hp;simp [wE,Prg.c,Xe.c,Packet.c,hp,h0,h1,runR,noR,Rslt.c]
 cases q:prs p k.data with
 | none=>
  have hr:runX p c k=none:=by rw [runX,QA (by omega),q]
  rw [hr];rw [q] at hp;obtain ⟨e,he,hp⟩:=hp;rw [Envt.ce] at hp;simp [wE,Prg.c,Xe.c,Packet.c,hp,he,h0,h1,runR,noR,Rslt.c]
 | some e=>
  have hr:runX p c k=some (resX p (ctX p c (nest p.Ya) p.Ya ⟨eSet p e (-1) 0 k.port,c.Xl,[]⟩),(ctX p c (nest p.Ya) p.Ya ⟨eSet p e (-1) 0 k.port,c.Xl,[]⟩).rs):=by
   rw [runX,QA (by omega),q]
  rw [hr];rw [q] at hp;simp only [ParP,Envt.ce] at hp;obtain ⟨ev,hdl,kk,hpay⟩:=W0 (fun g hg f hf=>(vhdr (pk.hd g hg)).w f hf) q;have hpl:e.payload.length<2^40:=by rw [hpay,DW];omega
  have xv0:XV p e c.Xl:=⟨ev,rv,hpl⟩;have hport:ok32 0 k.port:=⟨by omega,by omega⟩;have hset:=mh p e (xv0.evs pk.w) (xv0.m0 pk.w) (-1) 0 k.port hport;have xv:XV p (eSet p e (-1) 0 k.port) c.Xl:=⟨ev.set _ _ _,rv,by rw [VE];exact hpl⟩;have hwr:IntKind.wrap .u32 k.port=k.port:=sQ;rw [Prg.c] at hset;generalize eSet p e (-1) 0 k.port=e1 at*;simp only [Envt.ce] at hset;have m0:MM p c 3 [(0,AO.row 4 [[.bool false,a7 0,.Xt 1 [],.Xt 3 []]]),(3,.row 19 [mC p c e1 c.Xl (.Xt 3 [])])] ⟨e1,c.Xl,[]⟩ (.Xt 3 []):=⟨by simp,.inl ⟨rfl,rfl⟩⟩;obtain ⟨O2,N2,hv2,hwk,m2,f2,t2,r2,n2⟩:=Dq pk cf p.Ya cv.n m0 xv (by have:=cv.l;simp;omega) (N:=4) (Tail_cons_iff.2 ⟨by omega,Tail_cons_iff.2 ⟨by omega,Tail.nil _⟩⟩) (bO (by simp) (.one (by simp)));have xs2:XS p (ctX p c (nest p.Ya) p.Ya ⟨e1,c.Xl,[]⟩):=XS.ct _ _ _ xv;rw [fA,fT,mC] at hwk;have l0:=f2 0 4 [[.bool false,a7 0,.Xt 1 [],.Xt 3 []]] (by decide) (by simp);generalize ctX p c (nest p.Ya) p.Ya ⟨e1,c.Xl,[]⟩=s2 at*;obtain ⟨L3,N3,v1,v2,v3,v4,hrs,t3,r3,n3,hsn⟩:=Bi (N:=N2+1) pk m2 xs2 (t2.mono (by omega)) r2;have hcr:=ss s2.rs (xs2.r1 pk.w) (xs2.r2 pk.w);have l3:=(m2.app L3).l;have l03:look 0 (O2++L3)=_:=bL l0;have l32:=m2.l;have hs38:=fun O2 n2=>hsn O2 37 n2
  have ao:=ao_mC c s2.e s2.rs m2.h cv.d;rw [mC] at l3 l32 ao;simp [wE,Prg.c,Xe.c,Packet.c,hp,h0,h1,hwr,hset,hwk,hrs,l3,l32,l03,hcr,eY,r3.eq,r2.eq,r3.sw,aA,ao,hs38,runR,Rslt.c]
theorem vq (c:Xb) (h:c.args.length<2^40):a8 Φ 98 [.agg (Xb.c c)]=some (.val (.agg (Xb.c c))):=by
 rw [aB rfl rfl];have hc:=lj c.args h;simp [OU,Xb.c,hc]
structure CS (c:Xe):Prop where
 r:c.rows.length<2^40
 rr:∀l∈c.rows,l.length<2^39/\∀x∈l,x.entry.keys.length<2^40/\x.entry.call.args.length<2^40
 n:c.Xq.length<2^40
 d:c.Xp.length<2^40
 da:∀x∈c.Xp,x.args.length<2^40
 g:c.Xl.length<2^40
 gg:∀l∈c.Xl,l.length<2^40
def AL (O:List (Nat×AO)) (z:Nat) (A:AV) (es:List (List AV)):Prop:=(es=[]/\A= .Xt z [])\/∃tk,A= .app z es tk/\look tk O=some (.tok z es.length)
def FrT (O O':List (Nat×AO)):Prop:=∀j y,look j O=some y->look j O'=some y
theorem AL.fr {O O':List (Nat×AO)} {z:Nat} {A:AV} {es:List (List AV)} (h:AL O z A es) (f:FrT O O'):AL O' z A es:=by
 rcases h with h | ⟨tk,h1,h2⟩
 ·exact .inl h
 ·exact .inr ⟨tk,h1,f _ _ h2⟩
def zC:List AV:=[.Xt 1 [],.Xt 1 [],.Xt 2 [],.Xt 1 []]
theorem AL.lt {O:List (Nat×AO)} {N z:Nat} {A:AV} {es:List (List AV)} (h:AL O z A es) (f:∀k y,k<N->look k O=some y->k<N):True:=trivial
structure OLI (c:Xe) (i:Nat) (E:Env) (O:List (Nat×AO)) (N:Nat) (A:AV):Prop where
 e1:look 1 E=some (.iptr 4 [c.c] 0 0)
 e2:look 2 E=some (.ptr 0 4 0 0)
 e3:look 3 E=some (.ptr 1 4 0 0)
 e17:look 17 E=some (.slice 1 (c.rows.map (cS 5 Rw.c)))
 e18:look 18 E=some (a7 c.rows.length)
 e19:look 19 E=some (a7 i)
 l0:look 0 O=some (.row 4 [zC])
 l1:look 1 O=some (.row 4 [[A,.slice 1 (c.Xq.map cI),.Xt 2 [],.Xt 1 []]])
 a:AL O 1 A ((c.rows.take i).map (cS 5 Rw.c))
 T:Tail O N
structure ILI (l:List Rw) (j:Nat) (E0 E:Env) (O0 O:List (Nat×AO)) (N0 N:Nat):Prop where
 e:∀k,k=1\/k=2\/k=3\/k=17\/k=18\/k=19->look k E=look k E0
 e23:look 23 E=some (.slice 5 (l.map Rw.c))
 e24:look 24 E=some (a7 l.length)
 e25:look 25 E=some (a7 j)
 e6:look 6 E=some (.app 5 ((l.take j).map Rw.c) N0)
 lt:look N0 O=some (.tok 5 j)
 f:∀k y,k<N0->look k O0=some y->look k O=some y
 T:Tail O N
theorem El {c:Xe} (s:CS c) {R:Option Rt} {E:Env} {O:List (Nat×AO)} {N:Nat} {A:AV} (h:OLI c 0 E O N A)
  (hend:∀E O N A,OLI c c.rows.length E O N A->go Φ (finP vS.results) [.c iJ] .normal ⟨E,⟨O,N⟩⟩=R):
  go Φ (finP vS.results) [.c (.loop mO),.b 0,.c iJ] .normal ⟨E,⟨O,N⟩⟩=R:=by
 refine cC c.rows.length (fun i E h=>∃O N A,h=⟨O,N⟩/\OLI c i E O N A) (fun r=>r=R) ?_ ?_ 0 _ _ (Qc _) ⟨_,_,_,rfl,h⟩
 ·rintro i E _ K hi hK ⟨O,N,A,rfl,h⟩ ih;obtain ⟨e1,e2,e3,e17,e18,e19,l0,l1,a,T⟩:=h;have hw1:IntKind.wrap .i64 ((i:Int)+1)=((i+1:Nat):Int):=aQ (by omega) (by have:=s.r;omega);obtain ⟨hll,hlx⟩:=s.rr _ (Qd hi);have htk:c.rows.take (i+1)=c.rows.take i++[c.rows[i]]:=Qh hi;generalize hx:c.rows[i]=l at*;have t0:=T N (Qb _);simp [mO,cS,e17,e18,e19,hi,hx,t0];refine cC l.length (fun j E2 h=>∃O2 N2,h=⟨O2,N2⟩/\ILI l j E E2 O O2 N N2) (fun r=>r=R) ?_ ?_ 0 _ _ (Qc _) ?_
  rotate_left 2
  ·refine ⟨_,_,rfl,by rintro k (rfl | rfl | rfl | rfl | rfl | rfl)<;>simp,by simp,by simp,by simp,by simp,by rw [aC,t0];simp,fun k y _ h=>bL h,Tail_append_iff.2 ⟨T.mono (by omega),Tail_cons_iff.2 ⟨by omega,Tail.nil _⟩⟩⟩
  ·rintro j E2 _ K2 hj hK2 ⟨O2,N2,rfl,h⟩ ih2;obtain ⟨e,e23,e24,e25,e6,lt,f,T2⟩:=h;have hw2:=aF j (by omega);obtain ⟨hk1,hk2⟩:=hlx _ (Qd hj);have hck:=QL l[j].entry.keys hk1;have hcc:=vq l[j].entry.call hk2;have htk2:l.take (j+1)=l.take j++[l[j]]:=Qh hj;have hmin:min j l.length=j:=by omega
   have bd:(j+1)*72<=70368744177664:=by omega
   generalize hy:l[j]=y at*;have t2:=T2 N2 (Qb _);have tt2:∀k,look (N2+k) O2=none:=fun k=>T2 _ (by omega)
   have fN:=fun k=>eR (n:=N2+k) T2 lt (by omega)
   rw [Xb.c] at hcc;simp [oM,Rw.ce,Xb.c,e23,e24,e25,e6,hj,hy,hw2,t2,tt2,cZ,hck,hcc,lt,hmin,bd,fN,aC,aA];refine ih2 _ _ ?_;refine ⟨_,_,rfl,fun k hk=>?_,by simp [e23],by simp [e24],by simp,by simp [htk2,Rw.ce],by rw [aA,a9 rfl,lt];rfl,fun k y hk hl=>?_,bB (T2.mono (by omega))⟩
   ·rw [<- e k hk];rcases hk with rfl | rfl | rfl | rfl | rfl | rfl<;>simp
   ·rw [aA,QA (by omega),f k y hk hl]
  ·rintro E2 _ K2 hK2 ⟨O2,N2,rfl,h⟩;obtain ⟨e,e23,e24,e25,e6,lt,f,T2⟩:=h;rw [fF] at e6;have g1:=(e 1 (by simp)).trans e1;have g2:=(e 2 (by simp)).trans e2;have g3:=(e 3 (by simp)).trans e3;have g17:=(e 17 (by simp)).trans e17;have g18:=(e 18 (by simp)).trans e18;have g19:=(e 19 (by simp)).trans e19;have k0:=f 0 _ (T.lt l0) l0;have k1:=f 1 _ (T.lt l1) l1;have t2:=T2 N2 (Qb _);have tt2:∀k,look (N2+k) O2=none:=fun k=>T2 _ (by omega)
   have bd:(i+1)*24<=70368744177664:=by have:=s.r;omega
   have fz:mapO (mapO (snap 39 ⟨O2,N2⟩)) (l.map Rw.c)=some (l.map Rw.c):=tA (g:=Rw.c) (fun x=>by simp [Rw.ce,mapO]) l;have fN0:=fun k=>eR (n:=N2+k) T2 k0 (by omega)
   have fN1:=fun k=>eR (n:=N2+k) T2 k1 (by omega)
   have hmin:min i c.rows.length=i:=by omega
   have next:∀{E3:Env} {O3:List (Nat×AO)} {N3:Nat} {A3:AV},(∀k,k=1\/k=2\/k=3\/k=17\/k=18->look k E3=look k E2)->look 19 E3=some (a7 (i+1:Nat))->look 0 O3=some (.row 4 [zC])->look 1 O3=some (.row 4 [[A3,.slice 1 (c.Xq.map cI),.Xt 2 [],.Xt 1 []]])->AL O3 1 A3 ((c.rows.take (i+1)).map (cS 5 Rw.c))->Tail O3 N3->go Φ (finP vS.results) K .normal ⟨E3,⟨O3,N3⟩⟩=R:=fun {E3 O3 N3 A3} hE h19 h0 h1 ha hT=>
    ih _ _ ⟨O3,N3,A3,rfl,by rw [hE 1 (by simp),g1],by rw [hE 2 (by simp),g2],by rw [hE 3 (by simp),g3],by rw [hE 17 (by simp),g17],by rw [hE 18 (by simp),g18],h19,h0,h1,ha,hT⟩
   simp [oM,e24,e25] at hK2 ⊢;rw [hK2];rcases a with ⟨ha,rfl⟩ | ⟨tk,rfl,la⟩
   ·simp [oK,oL,g3,g19,e6,k1,aC,aA,t2,tt2,fN0,fN1,hw1,fz];have hi0:c.rows.take i=[]:=by simpa using ha
    refine next (A3:= .app 1 [[.slice 5 (l.map Rw.c)]] N2) (by rintro k (rfl | rfl | rfl | rfl | rfl)<;>simp) (by simp) ?_ ?_ ?_ (bB (Tail_append_iff.2 ⟨T2.mono (by omega),Tail_cons_iff.2 ⟨by omega,Tail.nil _⟩⟩))
    ·rw [aA,QA (by decide)];exact bL k0
    ·rw [aA,a9 rfl,bL k1];rfl
    ·right;have fn1:=eR (n:=N2) T2 k1 (Qb _);refine ⟨N2,by rw [htk,hi0];simp [cS],?_⟩;rw [aA,QA fn1.2,aC,t2,htk,hi0];simp
   ·have la2:=f tk _ (T.lt la) la;have ft:=fun k=>eR (n:=N2+k) T2 la2 (by omega)
    have tk1:¬1=tk/\¬tk=1:=by
     have:=aW k1 la2 (by simp);exact ⟨this,fun e=>this e.symm⟩
    have tk0:¬0=tk:=aW k0 la2 (by simp);rw [tH,iF,hmin] at la2;simp [oK,oL,g3,g19,e6,k1,la2,aC,aA,t2,tt2,fN0,fN1,ft,hw1,fz,hmin,bd,tk1];refine next (A3:= .app 1 ((c.rows.map (cS 5 Rw.c)).take i++[[.slice 5 (l.map Rw.c)]]) tk) (by rintro k (rfl | rfl | rfl | rfl | rfl)<;>simp) (by simp) ?_ ?_ ?_ (bB (bB T2))
    ·rw [aA,QA (by decide),aA,QA tk0,k0]
    ·rw [aA,a9 rfl,aA,QA tk1.1,k1];rfl
    ·right;refine ⟨tk,by rw [htk];simp [cS],?_⟩;rw [aA,QA tk1.2,aA,a9 rfl,la2,htk];simp [hmin]
 ·rintro E _ K hK ⟨O,N,A,rfl,h⟩;have h0:=h;obtain ⟨e1,e2,e3,e17,e18,e19,l0,l1,a,T⟩:=h;simp [mO,e18,e19] at hK ⊢;rw [hK];simp;refine hend _ O N A ⟨by simp [e1],by simp [e2],by simp [e3],by simp [e17],by simp [e18],by simp [e19],l0,l1,a,T⟩
structure ODI (c:Xe) (i:Nat) (E:Env) (O:List (Nat×AO)) (N:Nat) (A B:AV):Prop where
 e1:look 1 E=some (.iptr 4 [c.c] 0 0)
 e2:look 2 E=some (.ptr 0 4 0 0)
 e3:look 3 E=some (.ptr 1 4 0 0)
 e55:look 55 E=some (.slice 2 (c.Xp.map Xb.c))
 e56:look 56 E=some (a7 c.Xp.length)
 e57:look 57 E=some (a7 i)
 l0:look 0 O=some (.row 4 [zC])
 l1:look 1 O=some (.row 4 [[A,.slice 1 (c.Xq.map cI),B,.Xt 1 []]])
 a:A= .Xt 1 []/\c.rows=[]\/∃tk,A= .app 1 (c.rows.map (cS 5 Rw.c)) tk
 b:AL O 2 B ((c.Xp.take i).map Xb.c)
 T:Tail O N
theorem Jk {c:Xe} (s:CS c) {E:Env} {O:List (Nat×AO)} {N:Nat} {A:AV} (h:OLI c c.rows.length E O N A):
  go Φ (finP vS.results) [.c iJ] .normal ⟨E,⟨O,N⟩⟩=some (.val (.agg c.c)):=by
 obtain ⟨e1,e2,e3,e17,e18,e19,l0,l1,a,T⟩:=h;rw [fF] at a;rw [Xe.c] at e1;simp [iJ,e1];refine cC c.Xp.length (fun i E h=>∃O N B,h=⟨O,N⟩/\ODI c i E O N A B) (fun (r:Option Rt)=>r=some (.val (.agg c.c))) ?_ ?_ 0 _ _ (Qc _) ?_
 rotate_left 2
 ·refine ⟨O,N,.Xt 2 [],rfl,by simp [e1,Xe.c],by simp [e2],by simp [e3],by simp,by simp,by simp,l0,l1,?_,.inl ⟨by simp,rfl⟩,T⟩;rcases a with ⟨h,rfl⟩ | ⟨tk,rfl,_⟩
  ·exact .inl ⟨rfl,by simpa using h⟩
  ·exact .inr ⟨tk,rfl⟩
 ·rintro i E _ K hi hK ⟨O,N,B,rfl,h⟩ ih;obtain ⟨e1,e2,e3,e55,e56,e57,l0,l1,a,b,T⟩:=h;have hw1:IntKind.wrap .i64 ((i:Int)+1)=((i+1:Nat):Int):=aQ (by omega) (by have:=s.d;omega);have hcc:=vq c.Xp[i] (s.da _ (Qd hi));have htk:c.Xp.take (i+1)=c.Xp.take i++[c.Xp[i]]:=Qh hi;generalize hx:c.Xp[i]=x at*;have t0:=T N (Qb _);have tt:∀k,look (N+k) O=none:=fun k=>T _ (by omega)
  have f1:=fun k=>eR (n:=N+k) T l1 (by omega)
  have hmin:min i c.Xp.length=i:=by omega
  have bd:(i+1)*32<=70368744177664:=by have:=s.d;omega
  have next:∀{E3:Env} {O3:List (Nat×AO)} {N3:Nat} (B3:AV),(∀k,k=1\/k=2\/k=3\/k=55\/k=56->look k E3=look k E)->look 57 E3=some (a7 (i+1:Nat))->look 0 O3=some (.row 4 [zC])->look 1 O3=some (.row 4 [[A,.slice 1 (c.Xq.map cI),B3,.Xt 1 []]])->AL O3 2 B3 ((c.Xp.take (i+1)).map Xb.c)->Tail O3 N3->go Φ (finP vS.results) K .normal ⟨E3,⟨O3,N3⟩⟩=some (.val (.agg c.c)):=fun {E3 O3 N3} B3 hE h19 h0 h1 ha hT=>
   ih _ _ ⟨O3,N3,B3,rfl,by rw [hE 1 (by simp),e1],by rw [hE 2 (by simp),e2],by rw [hE 3 (by simp),e3],by rw [hE 55 (by simp),e55],by rw [hE 56 (by simp),e56],h19,h0,h1,a,ha,hT⟩
  rw [Xb.c] at hcc;rcases b with ⟨hb,rfl⟩ | ⟨tk,rfl,lb⟩
  ·have hi0:c.Xp.take i=[]:=by simpa using hb
   simp [mP,Xb.c,e3,e55,e56,e57,hi,hx,hw1,t0,tt,cZ,hcc,l1,aC,aA,f1];have lt2:N+1<N+2:=by omega
   refine next (.app 2 [[a7 x.Xy,.slice 1 (x.args.map c32)]] (N+1)) (by rintro k (rfl | rfl | rfl | rfl | rfl)<;>simp) (by simp) ?_ ?_ ?_ (bB (Tail_append_iff.2 ⟨T.mono (by omega),Tail_cons_iff.2 ⟨lt2,Tail.nil _⟩⟩))
   ·rw [aA,QA (by decide)];exact bL l0
   ·rw [aA,a9 rfl,bL l1];rfl
   ·right;refine ⟨N+1,by rw [htk,hi0];simp [Xb.c],?_⟩;rw [aA,QA (f1 1).2,aC,tt,htk,hi0];simp
  ·have tk1:¬1=tk/\¬tk=1:=by
    have:=aW l1 lb (by simp);exact ⟨this,fun e=>this e.symm⟩
   have tk0:¬0=tk:=aW l0 lb (by simp);have ft:=fun k=>eR (n:=N+k) T lb (by omega)
   rw [tH,iF,hmin] at lb;simp [mP,Xb.c,e3,e55,e56,e57,hi,hx,hw1,t0,tt,cZ,hcc,l1,lb,aC,aA,f1,ft,hmin,bd,tk1];refine next (.app 2 ((c.Xp.map Xb.c).take i++[[a7 x.Xy,.slice 1 (x.args.map c32)]]) tk) (by rintro k (rfl | rfl | rfl | rfl | rfl)<;>simp) (by simp) ?_ ?_ ?_ (bB (bB (T.mono (by omega))))
   ·rw [aA,QA (by decide),aA,QA tk0,l0]
   ·rw [aA,a9 rfl,aA,QA tk1.1,l1];rfl
   ·right;refine ⟨tk,by rw [htk];simp [Xb.c],?_⟩;rw [aA,QA tk1.2,aA,a9 rfl,lb,htk];simp [hmin]
 ·rintro E _ K hK ⟨O,N,B,rfl,h⟩;obtain ⟨e1,e2,e3,e55,e56,e57,l0,l1,a,b,T⟩:=h;rw [fF] at b;have hcr:=ss c.Xl s.g s.gg;rw [Xe.c] at e1;rw [zC] at l0;simp [vS,mP,e56,e57] at hK ⊢;rw [hK];rcases a with ⟨rfl,ha⟩ | ⟨ta,rfl⟩<;>rcases b with ⟨hb,rfl⟩ | ⟨tb,rfl,_⟩
  ·simp at hb;simp [iI,e1,e2,e3,hcr,l0,l1,aA,Xe.c,ha,hb]
  ·simp [iI,e1,e2,e3,hcr,l0,l1,aA,Xe.c,ha]
  ·simp at hb;simp [iI,e1,e2,e3,hcr,l0,l1,aA,Xe.c,hb]
  ·simp [iI,e1,e2,e3,hcr,l0,l1,aA,Xe.c]
theorem Em (c:Xe) (s:CS c):a8 Φ 45 [.agg c.c]=some (.val (.agg c.c)):=by
 rw [aB rfl rfl];have hi:=Pz c.Xq s.n;have hR:some (Rt.val (.agg c.c))=some (Rt.val (.agg (Xe.c c))):=rfl;generalize hQ:some (Rt.val (.agg c.c))=Q;simp [vS,Xe.c,hi];rw [<- hQ];refine El s (A:= .Xt 1 []) ?_ fun E O N A h=>Jk s h
 exact ⟨by simp [Xe.c],by simp,by simp,by simp,by simp,by simp,by simp [zC],by simp,.inl ⟨by simp,rfl⟩,Tail_cons_iff.2 ⟨by omega,Tail_cons_iff.2 ⟨by omega,Tail.nil _⟩⟩⟩
def ra (b:Bool) (p:Prg) (c:Xe) (l:List Packet):List Rslt×Xe:=if b then runL p c l else (l.map fun _=>noR,c)
structure RAI (p:Prg) (b:Bool) (l:List Packet) (R:List Rslt×Xe) (d tk i:Nat) (E:Env) (O:List (Nat×AO)) (N:Nat) (outs:List Rslt) (c:Xe):Prop where
 e3:look 3 E=some (.iptr 9 [p.c] 0 0)
 e7:look 7 E=some (.ptr 0 4 0 0)
 e8:look 8 E=some (.ptr d 4 0 0)
 e9:look 9 E=some (.bool b)
 e10:look 10 E=some (.app 4 (outs.map Rslt.c) tk)
 e23:look 23 E=some (.slice 2 (l.map Packet.c))
 e24:look 24 E=some (a7 l.length)
 e25:look 25 E=some (a7 i)
 l0:look 0 O=some (.row 4 [zC])
 ld:look d O=some (.row 4 [c.c])
 lt:look tk O=some (.tok 4 outs.length)
 T:Tail O N
 n:outs.length=i
 hR:R=(outs++(ra b p c (l.drop i)).1,(ra b p c (l.drop i)).2)
 v:b=true->CF p c/\RV p c.Xl
theorem P7 {p:Prg} (pk:PKp p) {c:Xe} (rv:RV p c.Xl) {k:Packet} {r:Rslt} {rs:List (List Int)} (h:runX p c k=some (r,rs)):RV p rs:=by
 unfold runX at h;split at h
 ·cases h
 split at h
 ·cases h
 ·rename_i e q;cases h;obtain ⟨ev,_⟩:=W0 (fun g hg f hf=>(vhdr (pk.hd g hg)).w f hf) q;exact (SV'.ct (p:=p) (c:=c) (nest p.Ya) p.Ya ⟨eSet p e (-1) 0 k.port,c.Xl,[]⟩ ⟨ev.set _ _ _,rv⟩).r
theorem Ko {p:Prg} {b:Bool} (hb:b=true->PKp p/\CtV p) {l:List Packet} (hl:l.length<2^30) (hk:∀k∈l,bOk k.data) {R:List Rslt×Xe} {d tk:Nat} {E:Env} {O:List (Nat×AO)} {N:Nat} {outs:List Rslt} {c:Xe} (h:RAI p b l R d tk 0 E O N outs c):
  go Φ (finP BA.results) [.c (.loop eV),.b 0,.c oG] .normal ⟨E,⟨O,N⟩⟩=some (.val (.tup [.slice 4 (R.1.map Rslt.c),.agg R.2.c])):=by
 refine cC l.length (fun i E h=>∃O N outs c,h=⟨O,N⟩/\RAI p b l R d tk i E O N outs c) (fun (r:Option Rt)=>r=some (.val (.tup [.slice 4 (R.1.map Rslt.c),.agg R.2.c]))) ?_ ?_ 0 _ _ (Qc _) ⟨_,_,_,_,rfl,h⟩
 ·rintro i E _ K hi hK ⟨O,N,outs,c,rfl,h⟩ ih;obtain ⟨e3,e7,e8,e9,e10,e23,e24,e25,l0,ld,lt,T,n,hR,v⟩:=h;have hw1:=aF i (by omega);have hbk:=hk _ (Qd hi);rw [Qi hi] at hR;generalize hx:l[i]=k at*;have t0:=T N (Qb _);have tt:∀k,look (N+k) O=none:=fun k=>T _ (by omega)
  have fd:=fun k=>eR (n:=N+k) T ld (by omega)
  have fd0:=eR (n:=N) T ld (Qb _);have ft:=fun k=>eR (n:=N+k) T lt (by omega)
  have ft0:=eR (n:=N) T lt (Qb _);have dt:¬d=tk/\¬tk=d:=by
   have:=aW ld lt (by simp);exact ⟨this,fun e=>this e.symm⟩
  have bd:(outs.length+1)*64<=70368744177664:=by omega
  have ztk:¬0=tk:=aW l0 lt (by simp);have fin:∀{E2:Env} {O2:List (Nat×AO)} {N2:Nat} (r:Rslt) (c':Xe),(∀j,j=3\/j=7\/j=8\/j=9\/j=23\/j=24->look j E2=look j E)->look 10 E2=some (.app 4 (outs.map Rslt.c++[r.c]) tk)->look 25 E2=some (a7 (i+1:Nat))->look 0 O2=some (.row 4 [zC])->look d O2=some (.row 4 [c'.c])->look tk O2=some (.tok 4 (outs.length+1))->Tail O2 N2->
    ra b p c (k::l.drop (i+1))=(r::(ra b p c' (l.drop (i+1))).1,(ra b p c' (l.drop (i+1))).2)->(b=true->CF p c'/\RV p c'.Xl)->go Φ (finP BA.results) K .normal ⟨E2,⟨O2,N2⟩⟩=some (.val (.tup [.slice 4 (R.1.map Rslt.c),.agg R.2.c])):=fun {E2 O2 N2} r c' hE h10 h25 h0 h8 ht hT hr hv=>
   ih _ _ ⟨O2,N2,outs++[r],c',rfl,by rw [hE 3 (by simp),e3],by rw [hE 7 (by simp),e7],by rw [hE 8 (by simp),e8],by rw [hE 9 (by simp),e9],by rw [h10];simp,by rw [hE 23 (by simp),e23],by rw [hE 24 (by simp),e24],h25,h0,h8,by rw [ht];simp,hT,by simp [n],by rw [hR,hr];simp,hv⟩
  have TA:∀(M:Nat) (x y:AO) (k:Nat),k<M->Tail (setl tk y (O++[(N+k,x)])) (N+M):=fun M x y k h=>bB (Tail_append_iff.2 ⟨T.mono (by omega),Tail_cons_iff.2 ⟨by omega,Tail.nil _⟩⟩)
  have ldd:=ld;have hE6:∀{E2:Env},look 3 E2=look 3 E->look 7 E2=look 7 E->look 8 E2=look 8 E->look 9 E2=look 9 E->look 23 E2=look 23 E->look 24 E2=look 24 E->∀j,j=3\/j=7\/j=8\/j=9\/j=23\/j=24->look j E2=look j E:=fun {E2} a1 a2 a3 a4 a5 a6 j hj=>by
   rcases hj with rfl | rfl | rfl | rfl | rfl | rfl<;>assumption
  cases b with
  | false=>
   simp [eV,Packet.c,e3,e8,e9,e10,e23,e24,e25,hi,hx,hw1,t0,tt,cZ,aC,aA,lt,bd,ft,ft0];refine fin noR c (hE6 (by simp) (by simp) (by simp) (by simp) (by simp) (by simp)) (by simp [noR,Rslt.c]) (by simp) ?_ ?_ ?_ (TA 2 _ _ 1 (by decide)) (by simp [ra]) (by simp)
   ·rw [aA,QA ztk];exact bL l0
   ·rw [aA,QA dt.1];exact bL ldd
   ·rw [aA,a9 rfl,bL lt];rfl
  | true=>
   obtain ⟨pk,cv⟩:=hb rfl;obtain ⟨cf,rv⟩:=v rfl;have hrun:=Kt pk cv cf rv k hbk;rw [Prg.c] at hrun e3;simp only [Xe.c] at hrun ld;rw [Packet.c] at hrun;cases q:runX p c k with
   | none=>
    rw [q] at hrun;simp only [runR,noR,Rslt.c,zA] at hrun;simp [eV,Packet.c,e3,e8,e9,e10,e23,e24,e25,hi,hx,hw1,t0,tt,cZ,aC,aA,lt,ld,bd,ft,ft0,fd,fd0,dt,hrun];refine fin noR c (hE6 (by simp) (by simp) (by simp) (by simp) (by simp) (by simp)) (by simp [noR,Rslt.c]) (by simp) ?_ ?_ ?_ (TA 3 _ _ 1 (by decide)) (by simp [ra,runL,q]) (fun _=>⟨cf,rv⟩)
    ·rw [aA,QA ztk];exact bL l0
    ·rw [aA,QA dt.1];exact bL ldd
    ·rw [aA,a9 rfl,bL lt];rfl
   | some y=>
    obtain ⟨r,rs⟩:=y;rw [q] at hrun;simp only [runR,Rslt.c] at hrun;simp [eV,Packet.c,e3,e8,e9,e10,e23,e24,e25,hi,hx,hw1,t0,tt,cZ,aC,aA,lt,ld,bd,ft,ft0,fd,fd0,dt,hrun];have hd0:¬0=d:=fun h=>by
     subst h;rw [ldd] at l0;simp [zC,Xe.c] at l0
    refine fin r { c with Xl:=rs } (hE6 (by simp) (by simp) (by simp) (by simp) (by simp) (by simp)) (by simp [Rslt.c]) (by simp) ?_ ?_ ?_ ?_ (by simp [ra,runL,q]) (fun _=>⟨⟨cf.rl,cf.dl,cf.rs,cf.dc⟩,P7 pk rv q⟩)
    ·rw [aA,QA ztk,aA,QA hd0];exact bL l0
    ·rw [aA,QA dt.1,aA,a9 rfl,bL ldd];rfl
    ·rw [aA,a9 rfl,aA,QA dt.2,bL lt];rfl
    ·exact bB (bB (Tail_append_iff.2 ⟨T.mono (by omega),Tail_cons_iff.2 ⟨Nat.add_lt_add_left (by decide) _,Tail.nil _⟩⟩))
 ·rintro E _ K hK ⟨O,N,outs,c,rfl,h⟩;obtain ⟨e3,e7,e8,e9,e10,e23,e24,e25,l0,ld,lt,T,n,hR,v⟩:=h;have hR2:R=(outs,c):=by
   rw [hR,QB];cases b<;>simp [ra,runL]
  rw [hR2];have d0:¬d=0/\¬0=d:=by
   have:¬d=0:=fun h=>by
    subst h;rw [ld] at l0;simp [zC,Xe.c] at l0
   exact ⟨this,fun e=>this e.symm⟩
  rw [zC] at l0;simp only [Xe.c] at ld;simp [BA,eV,e24,e25] at hK ⊢;rw [hK];simp [oG,e7,e8,e10,l0,ld,aA,Xe.c,d0,eY]
theorem En {p:Prg} (fs:PrgS p) (hc:(pre p.Ya).length<2^40 - 1) {c:Xe} (ct:CfgT c) (cs:CS c) (hv:cfgE p c=0->(PKp p/\CtV p)/\CF p c/\RV p c.Xl) {l:List Packet} (hl:l.length<2^30) (hk:∀k∈l,bOk k.data):
  a8 Φ 18 [.agg p.c,.agg c.c,.slice 2 (l.map Packet.c)]=some (.val (.tup [.slice 4 ((ra (decide (cfgE p c=0)) p c l).1.map Rslt.c),.agg (ra (decide (cfgE p c=0)) p c l).2.c])):=by
 rw [aB rfl rfl];have h1:=Em c cs;have h2:=Jo p fs hc c ct;generalize hR:ra (decide (cfgE p c=0)) p c l=R;rw [Prg.c] at h2;simp only [Xe.c] at h1 h2;generalize hQ:some (Rt.val (.tup [.slice 4 (R.1.map Rslt.c),.agg R.2.c]))=Q;simp [BA,Prg.c,Xe.c,h1,h2];rw [<- hQ];refine Ko (b:=decide (cfgE p c=0)) (fun h=>(hv (of_decide_eq_true h)).1) hl hk (R:=R) (d:=1) (tk:=2) (outs:=[]) (c:=c) ?_;refine ⟨by simp [Prg.c],by simp,by simp,by simp,by simp,by simp,by simp,by simp,by simp [zC],by simp [Xe.c],by simp,?_,rfl,by simp [<- hR],fun h=>(hv (of_decide_eq_true h)).2⟩;simp only [Tail_cons_iff];exact ⟨by decide,by decide,by decide,Tail.nil _⟩
theorem Su (b:Bool) (p:Prg) (c:Xe) (k:Packet):∃r c',ra b p c [k]=([r],c'):=by
 cases b with
 | false=>exact ⟨noR,c,rfl⟩
 | true=>
  cases q:runX p c k with
  | none=>exact ⟨noR,c,by simp [ra,runL,q]⟩
  | some y=>exact ⟨y.1,{ c with Xl:=y.2 },by simp [ra,runL,q]⟩
theorem uu {p:Prg} (v:VProg p) {c:Xb} (h:nV p c=0):(actE p c.Xy).2=0:=by
 unfold nV at h;split at h
 ·cases h
 ·rename_i a ha;obtain ⟨i,hi,hl,_⟩:=iX ha;rw [hi];exact v.ac i hl
theorem Dy {p:Prg} {t:Nat} (ht:t<p.Xm.length) {x:Entry} (h:entE p t x=0):nV p x.call=0:=by
 unfold entE at h;split at h
 ·exact absurd h (by assumption)
 rw [oV,Qa ht] at h;simp only at h;split at h
 ·cases h
 have hf:fe (entG p p.Xm[t] x) p.Xm[t].keys.length 0=none->entF p t x=0:=fun q=>by rw [q] at h;exact h
 cases q:fe (entG p p.Xm[t] x) p.Xm[t].keys.length 0 with
 | some y=>
  rw [q] at h;simp only [nO] at h;subst h;obtain ⟨i,_,hi⟩:=zJ q;exfalso;unfold entG at hi;split at hi
  ·split at hi
   ·cases hi
   ·rename_i hz;injection hi with hi
    exact hz hi
  ·cases hi
 | none=>
  have:=hf q;unfold entF at this;split at this
  ·cases this
  split at this
  ·cases this
  split at this
  ·cases this
  split at this
  ·cases this
  ·exact this
theorem rv_of {p:Prg} (v:VProg p) {rs:List (List Int)} (h:conE p rs=0) (hs:∀l∈rs,∀v∈l,ok32 0 v):RV p rs:=by
 unfold conE at h;split at h
 ·cases h
 rename_i hn;have hn:rs.length=p.Xl.length:=Decidable.of_not_not hn;have h1:∀i,i<rs.length->szG p rs i=none:=by
  refine fe_all.1 ?_;cases q:fe (szG p rs) rs.length 0 with
  | none=>rfl
  | some y=>
   rw [q] at h;simp only [nO] at h;subst h;obtain ⟨i,_,hi⟩:=zJ q;unfold szG at hi;split at hi
   ·split at hi<;>cases hi
   ·cases hi
 rw [fe_all.2 h1,TN] at h;have h2:∀i,i<rs.length->vlG p rs i=none:=by
  refine fe_all.1 ?_;cases q:fe (vlG p rs) rs.length 0 with
  | none=>rfl
  | some y=>
   rw [q] at h;simp only [nO] at h;subst h;obtain ⟨i,_,hi⟩:=zJ q;unfold vlG at hi;split at hi
   ·split at hi<;>cases hi
   ·cases hi
 refine ⟨hn,fun i g x hg hx=>?_⟩;obtain ⟨hi,rfl⟩:=Qm.1 hx;obtain ⟨hi2,rfl⟩:=Qm.1 hg;have a1:=h1 i hi;have a2:=h2 i hi;unfold szG at a1;unfold vlG at a2;rw [hx,hg] at a1 a2;simp only at a1 a2;have hr:=v.rg _ (Qd hi2);unfold regE at hr;split at hr
 ·cases hr
 split at hr
 ·cases hr
 rename_i hwb;have hw:=CM (TM.2 hwb);refine ⟨D5 a1,fun y hy=>⟨(hs _ (Qd hi) y hy).1,?_⟩⟩;split at a2
 ·cases a2
 ·rename_i hany;by_cases z:bC p.Xl[i].Yc<y
  ·exact absurd (DX.2 ⟨y,hy,by simp [z]⟩) hany
  ·rw [NL hw.1 hw.2] at z;omega
theorem VY {B:Nat}:∀(n:Nat) (l:List Xa),SizeOf.sizeOf l<=n->(∀x∈l,Xa.Ok B x)->∀x∈pre l,Xa.Ok B x
 | 0,l,h,_,x,hx=>by
  cases l with
  | nil=>simp [pre] at hx
  | cons y l=>simp at h
 | n+1,[],_,_,x,hx=>by simp [pre] at hx
 | n+1,.mk k t c a b::l,h,ho,x,hx=>by
  simp only [pre,pre1,oY,nK,nE] at hx;have hy:=ho _ (OG ..);have hy2:=hy;simp only [Xa.Ok,Xa.oks_eq] at hy2;simp only [List.cons.sizeOf_spec,Xa.mk.sizeOf_spec] at h;rcases hx with rfl | (hx | hx) | hx
  ·exact hy
  ·exact VY n a (by omega) hy2.2.2.2.1.2 x hx
  ·exact VY n b (by omega) hy2.2.2.2.2.2 x hx
  ·exact VY n l (by omega) (fun z hz=>ho z (D1 _ hz)) x hx
theorem Sb {p:Prg} {l:List Xa} {x:Xa} (hn:nJ p l x=0):NdV p x:=by
 unfold nJ at hn;by_cases h2:x.kind=2
 ·exact .inl h2
 rw [QA h2] at hn;by_cases h13:x.kind=1\/x.kind=3
 ·rw [a9 h13] at hn;by_cases ht:x.table<0\/(p.Xm.length:Int)<=x.table
  ·rw [a9 ht] at hn;cases hn
  rw [QA ht] at hn;refine .inr ⟨?_,x.table.toNat,by omega,by omega⟩;rcases h13 with h | h
  ·right;have h5:¬(0<x.thn.length+x.els.length):=fun h5=>by
    split at hn
    ·cases hn
    ·rw [a9 ⟨h,h5⟩] at hn;cases hn
   have hz:x.thn.length=0/\x.els.length=0:=by omega
   exact ⟨h,Qg hz.1,Qg hz.2⟩
  ·exact .inl h
 ·rw [QA h13] at hn;cases hn
theorem Ch {x:Xa} (h:Xa.Ok oU x):x.cond.length<2^40:=by
 obtain ⟨k,t,c,a,b⟩:=x;simp only [Xa.Ok,okL] at h;have:=EI;have:=h.2.2.1.1;simp only [Xa.cond];omega
theorem Qz {p:Prg} (fs:PrgS p) (v:VProg p):CtV p:=by
 have vc:=vctl v.ct;refine ⟨fun x hx=>?_,by have:=vc.n;omega,by have:=vc.d;omega⟩;have hok:=VY (B:=oU) _ _ (Qb _) fs.co x hx;obtain ⟨i,hi,rfl⟩:=Qn.1 hx;exact ⟨Sb (vc.e i hi),Ch hok⟩
theorem pk_of {p:Prg} (fs:PrgS p) (v:VProg p):PKp p:=by
 refine ⟨fs,⟨fs.h,fs.hl,fs.m,?_,fs.r,fun g hg=>?_,fun g hg=>?_⟩,v.hd,fun t ht=>by simp only [tOk,decide_eq_true_eq];exact v.tb t ht,v.dp,v.pa⟩
 ·have:=v.m3 0 (by decide);exact (Qm.1 this).1
 ·have:=v.rg g hg;unfold regE at this;split at this
  ·cases this
  split at this
  ·cases this
  split at this
  ·cases this
  ·omega
 ·have:=v.rg g hg;unfold regE at this;split at this
  ·cases this
  split at this
  ·cases this
  ·rename_i hwb;exact (CM (TM.2 hwb)).2
theorem MY {p:Prg} (fs:PrgS p) {c:Xe} (ct:CfgT c) (h:cfgE p c=0):(PKp p/\CtV p)/\CF p c/\RV p c.Xl:=by
 have cv:=(SC p c).1 h;have v:=L4 cv.prg;refine ⟨⟨pk_of fs v,Qz fs v⟩,⟨cv.rl,cv.dl,fun l hl=>?_,fun d hd=>?_⟩,rv_of v cv.con fun l hl=>(ct.gs l hl).2⟩
 ·obtain ⟨k,hk,rfl⟩:=Qn.1 hl;have hkt:k<p.Xm.length:=by rw [<- cv.rl];exact hk
  have tv:=CfgV.at cv hkt;have hs:=ct.rs _ hl;refine ⟨hs.1,fun x hx=>⟨hs.2 x hx,?_⟩,tv.inc⟩;have hc:=Dy hkt (tv.ent x hx);exact ⟨uu v hc,hc,(hs.2 x hx).ar,(hs.2 x hx).al⟩
 ·obtain ⟨k,hk,rfl⟩:=Qn.1 hd;have hkt:k<p.Xm.length:=by rw [<- cv.dl];exact hk
  have tv:=CfgV.at cv hkt;have hs:=ct.ds _ hd;have hc:nV p c.Xp[k]=0:=by
   have:=tv.Yb;unfold o9 at this;split at this
   ·cases this
   ·exact this
  exact ⟨uu v hc,hc,hs.2,hs.1⟩
theorem Nm {p:Prg} (fs:PrgS p) (hv:∀t∈p.Xm,∀v∈t.Yb.args,ok32 0 v) {t:Nat} (ht:t<p.Xm.length) (q:tOk p t=true) (e:Envt):a8 Φ 258 [.agg p.c,a7 t,.agg e.c]=some (.val (.slice 1 ((keyX p t e).map c32))):=by
 rw [aB rfl rfl];have hwd:=qx p fs hv t ht q;have hX:keyX p t e=p.Xm[t].keys.map fun k=>iand .u32 (eGet e k.field.header k.field.field) (bC (wid p k.field.header k.field.field)):=by simp [keyX,ht]
 have hkl:(kWid p p.Xm[t]).length=p.Xm[t].keys.length:=by simp [kWid]
 have hsz:=fs.tk _ (Qd ht);rw [hX];simp only [Prg.e] at hwd;generalize hR:some (Rt.val (.slice 1 ((p.Xm[t].keys.map fun k=>iand .u32 (eGet e k.field.header k.field.field) (bC (wid p k.field.header k.field.field))).map c32)))=R;simp [GS,Prg.e,Envt.ce,hwd];generalize htb:p.Xm[t]=tb at*;refine cV tb.keys.length (fun i=>[(0,.tok 1 i)]) 1 (fun i E=>look 1 E=some (a7 t)/\look 3 E=some (.iptr 9 [p.c] 0 0)/\look 5 E=some (.iptr 4 [e.c] 0 0)/\look 7 E=some (.slice 1 ((kWid p tb).map cI))/\look 8 E=some (.app 1 (((tb.keys.take i).map fun k=>iand .u32 (eGet e k.field.header k.field.field) (bC (wid p k.field.header k.field.field))).map c32) 0)/\look 9 E=some (a7 i)) (fun _=>R) ?_ ?_ 0 _ _ (Qc _) (Qb _) ?_
 ·rintro i E n L hi hL hn ⟨h1,h3,h5,h7,h8,h9⟩ ih;have hw:=aF i (by omega);have hik:i<(kWid p tb).length:=by rw [hkl];exact hi
  have hg:=kq e tb.keys[i].field.header tb.keys[i].field.field;have hm:=UW (kWid p tb)[i];have hkw:(kWid p tb)[i]=wid p tb.keys[i].field.header tb.keys[i].field.field:=by simp [kWid]
  rw [hkw] at hm;rw [Envt.ce] at hg h5;rw [Prg.e] at h3;have b1:(i+1)*4<=70368744177664:=by omega
  have htk:tb.keys.take (i+1)=tb.keys.take i++[tb.keys[i]]:=Qh hi;have hlen:min i tb.keys.length=i:=by omega
  simp [l6,h1,h3,h5,h7,h8,h9,hik,hi,ht,htb,hg,hm,hkw,hw,b1,hlen,Tbl.e,Xk.e,cI];exact ih _ _ (by omega) ⟨by simp [h1],by simp [h3,Prg.e],by simp [h5,Envt.ce],by simp [h7],by simp;rw [Qh (by simpa using hi)];simp [c32],by simp⟩
 ·rintro E n L hL hn ⟨h1,h3,h5,h7,h8,h9⟩;rw [fF] at h8;rw [<- hR];simp [l6,qX,h7,h8,h9,hkl,hL]
 ·simp [Prg.e,Envt.ce]
theorem Pc {p:Prg} {c:Xe} (cf:CF p c) {t:Nat} (ht:t<p.Xm.length) (e:Envt):CallV p (calX c t (selX p c t e)):=by
 have htr:t<c.rows.length:=by rw [cf.rl];exact ht
 have htd:t<c.Xp.length:=by rw [cf.dl];exact ht
 unfold selX calX;simp only [oV,Qa htr,Qa htd,nO];cases q:oB p t (keyX p t e) c.rows[t] with
 | some x=>exact ((cf.rs _ (Qd htr)).2.1 x (lu _ _ _ _ _ q)).2
 | none=>exact cf.dc _ (Qd htd)
theorem Pe {p:Prg} (pk:PKp p) (hv:∀t∈p.Xm,∀v∈t.Yb.args,ok32 0 v) {c:Xe} (cf:CF p c) {t:Nat} (ht:t<p.Xm.length) (e:Envt):
  a8 Φ 163 [.agg p.c,.agg c.c,a7 t,.agg e.c]=some (.val (.tup [.agg (rowV (selX p c t e)),.agg (calX c t (selX p c t e)).c])):=by
 rw [aB rfl rfl];have hk:=Nm pk.fs hv ht (pk.tb t ht) e;have htr:t<c.rows.length:=by rw [cf.rl];exact ht
 have htd:t<c.Xp.length:=by rw [cf.dl];exact ht
 have hb:=Fv p pk.fs t ht (keyX p t e) c.rows[t] (cf.rs _ (Qd htr)).1 fun x hx=>((cf.rs _ (Qd htr)).2.1 x hx).1
 have hS:selX p c t e=oB p t (keyX p t e) c.rows[t]:=by simp [selX,htr]
 rw [hS];rw [Envt.ce] at hk;simp only [Prg.e] at hk hb;generalize keyX p t e=key at*;cases ho:oB p t key c.rows[t] with
 | some x=>
  rw [ho] at hb;simp only [rowV,Rw.ce] at hb;simp [B4,Prg.e,Xe.ce,Envt.ce,hk,hb,htr,calX,rowV,Rw.ce,Xb.ce,cS]
 | none=>
  rw [ho] at hb;simp only [rowV,Rw.ce] at hb;simp [B4,Prg.e,Xe.ce,Envt.ce,hk,hb,htr,htd,calX,rowV,Rw.ce,Xb.ce,cS,noE]
def sG (s:MS):List AV:=s.e.c++[.slice 1 (s.rs.map (cS 1 c32)),.slice 3 (s.hits.map Hit.c)]
theorem sG_e (s:MS):sG s=[.slice 1 (s.e.valid.map cB),.slice 1 (s.e.Xz.map (cS 1 c32)),.slice 1 (s.e.metaF.map c32),.slice 1 (s.e.payload.map c8),.slice 1 (s.rs.map (cS 1 c32)),.slice 3 (s.hits.map Hit.c)]:=rfl
def IdP (c:Xe):Prop:=∀l∈c.rows,∀x∈l,0<x.id
theorem Nf {p:Prg} (pk:PKp p) (hv:∀t∈p.Xm,∀v∈t.Yb.args,ok32 0 v) {c:Xe} (cf:CF p c) (ip:IdP c) {t:Nat} (ht:t<p.Xm.length) {s:MS} (xs:XS p s) (hl:s.hits.length<2^30):
  a8 Φ 93 [.agg p.c,.agg c.c,a7 t,.agg (sG s)]=some (.val (.tup [.agg (sG (apX p c t s).1),.bool (apX p c t s).2])):=by
 rw [aB rfl rfl];have h1:=Pe pk hv cf ht s.e;have cv:=Pc cf ht s.e;have h2:=Nj pk.fs pk.w _ cv.a cv.c cv.v cv.l xs;have htr:t<c.rows.length:=by rw [cf.rl];exact ht
 have hid:decide (0<(match selX p c t s.e with | some x=>x | none=>⟨0,noE⟩).id)=(selX p c t s.e).isSome:=by
  cases q:selX p c t s.e with
  | none=>rfl
  | some x=>
   have hx:oB p t (keyX p t s.e) c.rows[t]=some x:=by rw [<- q];simp [selX,htr]
   have:=ip _ (Qd htr) x (lu _ _ _ _ _ hx);simp [this]
 have hid2:(match selX p c t s.e with | some x=>x | none=>⟨0,noE⟩).id=((selX p c t s.e).map (·.id)).getD 0:=by
  cases selX p c t s.e<;>rfl
 have hX:apX p c t s=(⟨(exeX p (calX c t (selX p c t s.e)) s.e s.rs).1,(exeX p (calX c t (selX p c t s.e)) s.e s.rs).2,s.hits++[⟨t,((selX p c t s.e).map (·.id)).getD 0,(calX c t (selX p c t s.e)).Xy⟩]⟩,(selX p c t s.e).isSome):=rfl;have hrow:rowV (selX p c t s.e)=Rw.c (match selX p c t s.e with | some x=>x | none=>⟨0,noE⟩):=by
  cases selX p c t s.e<;>rfl
 rw [hX,<- hid2,<- hid];rw [hrow] at h1;generalize (match selX p c t s.e with | some x=>x | none=>⟨0,noE⟩:Rw)=x at*;generalize calX c t (selX p c t s.e)=call at*;generalize exeX p call s.e s.rs=y at*;rw [Envt.ce] at h1 h2;rw [Envt.ce] at h2;simp only [Prg.e,Xe.ce,Rw.ce,Xb.ce] at h1 h2;have b1:s.hits.length*24<=70368744177664:=by omega
 have b2:(s.hits.length+1)*24<=70368744177664:=by omega
 have al3:=vU 3 Hit.c s.hits fun x=>by simp
 simp [OT,Prg.e,Xe.ce,sG_e,h1,h2,b1,b2,al3,Hit.c]
def z6:List AV:=[.Xt 1 [],.Xt 1 [],.Xt 1 [],.Xt 1 [],.Xt 1 [],.Xt 3 []]
theorem OW {p:Prg} (pk:PKp p) (hv:∀t∈p.Xm,∀v∈t.Yb.args,ok32 0 v) {c:Xe} (cf:CF p c) (ip:IdP c):∀(n:Nat) (l:List Xa) (s:MS),nest l<=n->(∀x∈pre l,NdV p x/\x.cond.length<2^40)->XS p s->s.hits.length+(pre l).length<2^30->
  a8 Φ 39 [.agg p.c,.agg c.c,.slice 5 (l.map Xa.c),.agg (sG s)]=some (.val (.agg (sG (ctX p c n l s))))
 | n,[],s,hn,hv2,xs,hh=>by
  rw [V4,aB rfl rfl];simp [E6,Prg.e,Xe.ce,sG_e];rw [aT];simp [d9,oJ]
 | 0,x::l,s,hn,hv2,xs,hh=>by
  simp only [nest] at hn;omega
 | n+1,x0::l0,s,hn,hv2,xs,hh=>by
  have rec':=OW pk hv cf ip n;generalize hll:x0::l0=l at*;have hlp:l.length<=(pre l).length:=gu l;have hkd:∀x∈pre l,x.kind=2\/appl x=true:=fun x hx=>by
   rcases (hv2 x hx).1 with h | ⟨h | h,_⟩
   ·exact .inl h
   ·right;simp [appl,h]
   ·right;simp [appl,h.1]
  rw [aB rfl rfl];generalize hR:some (Rt.val (.agg (sG (ctX p c (n+1) l s))))=R;simp [E6,Prg.e,Xe.ce,sG_e];refine cC l.length (fun i E h=>∃m,2<=m/\h=⟨[(0,.row 6 [sG (ctX p c (n+1) (l.take i) s)]),(1,.row 6 [z6])],m⟩/\look 2 E=some (.slice 5 (l.map Xa.c))/\look 4 E=some (.iptr 9 [p.c] 0 0)/\look 5 E=some (.iptr 4 [c.c] 0 0)/\look 7 E=some (.ptr 0 6 0 0)/\look 8 E=some (.ptr 1 6 0 0)/\look 9 E=some (a7 i)) (fun r=>r=R) ?_ ?_ 0 _ _ (Qc _) ?_
  ·rintro i E _ K hi hK ⟨m,hm,rfl,h2,h4,h5,h7,h8,h9⟩ ih;have hw:=aF i (by omega);have hmem:=Qd hi;have hsplit:pre l=pre (l.take i)++(pre1 l[i]++pre (l.drop (i+1))):=by
    rw [show pre1 l[i]++pre (l.drop (i+1))=pre (l[i]::l.drop (i+1)) by simp [pre],<- Qi hi,<- EL,AK]
   have hl1:=congrArg List.length hsplit;rw [sR,sR] at hl1;have hhi:=io (p:=p) (c:=c) (n+1) (l.take i) s fun x hx=>hkd x (by rw [hsplit];exact List.mem_append_left _ hx)
   have xi:XS p (ctX p c (n+1) (l.take i) s):=XS.ct _ _ _ xs;have hstep:ctX p c (n+1) (l.take (i+1)) s=ndX p c (ctX p c n) (ctX p c (n+1) (l.take i) s) l[i]:=by
    simp only [ctX];rw [Qh hi,OI];rfl
   have hne:=S9 hmem;have hself:l[i]∈pre1 l[i]:=by
    generalize l[i]=x;obtain ⟨k,t,cd,a,b⟩:=x;simp [pre1]
   obtain ⟨hnv,hcd⟩:=hv2 _ (SF hself hmem);have hsub:∀y∈pre1 l[i],NdV p y/\y.cond.length<2^40:=fun y hy=>hv2 y (SF hy hmem)
   generalize hx:l[i]=x at*;obtain ⟨k,t,cd,a,b⟩:=x;simp only [Xa.cond] at hcd;simp only [CV] at hne;simp only [pre1,AQ,sR] at hl1;generalize ctX p c (n+1) (l.take i) s=si at*;have ha:nest a<=n:=by omega
   have hb:nest b<=n:=by omega
   have hpa:∀x∈pre a,NdV p x/\x.cond.length<2^40:=fun y hy=>hsub y (by simp [pre1,hy])
   have hpb:∀x∈pre b,NdV p x/\x.cond.length<2^40:=fun y hy=>hsub y (by simp [pre1,hy])
   have next:∀{E2:Env} {s2:MS} {m2:Nat},ndX p c (ctX p c n) si (.mk k t cd a b)=s2->(∀j,j=2\/j=4\/j=5\/j=7\/j=8->look j E2=look j E)->look 9 E2=some (a7 (i+1:Nat))->2<=m2->go Φ (finP E6.results) K .normal ⟨E2,⟨[(0,.row 6 [sG s2]),(1,.row 6 [z6])],m2⟩⟩=R:=fun {E2 s2 m2} hs hE g9 hm2=>
    ih _ _ ⟨m2,hm2,by rw [hstep,hs],by rw [hE 2 (by simp),h2],by rw [hE 4 (by simp),h4],by rw [hE 5 (by simp),h5],by rw [hE 7 (by simp),h7],by rw [hE 8 (by simp),h8],g9⟩
   have nx:=fun s2 (hs:ndX p c (ctX p c n) si (.mk k t cd a b)=s2) E2 m2=>next (E2:=E2) (s2:=s2) (m2:=m2) hs
   simp only [sG_e,z6] at nx;have hEE:∀{E2:Env},look 2 E2=look 2 E->look 4 E2=look 4 E->look 5 E2=look 5 E->look 7 E2=look 7 E->look 8 E2=look 8 E->∀j,j=2\/j=4\/j=5\/j=7\/j=8->look j E2=look j E:=fun {E2} a1 a2 a3 a4 a5 j hj=>by
    rcases hj with rfl | rfl | rfl | rfl | rfl<;>assumption
   rw [Prg.e] at h4;rw [Xe.ce] at h5;simp only [NdV,Xa.kind,Xa.thn,Xa.els,Xa.table] at hnv;rcases hnv with rfl | ⟨hk13,t',rfl,ht'⟩
   ·have ht:=ko p [] si.e [] cd xi.g (by simp);simp only [aE,Envt.ce,zA] at ht;by_cases z:evl p [] cd si.e []=1
    ·have hr:=rec' a si ha hpa xi (by omega);have hnd:ndX p c (ctX p c n) si (.mk 2 t cd a b)=ctX p c n a si:=by simp [ndX,z]
     generalize ctX p c n a si=s2 at*;simp only [Prg.e,Xe.ce,sG_e] at hr;simp [d9,Xa.e,sG_e,z6,h2,h4,h5,h7,h8,h9,hi,hx,hK,ht,z,hr,hw];exact nx s2 hnd _ _ (hEE (by simp) (by simp) (by simp) (by simp) (by simp)) (by simp) hm
    ·have hr:=rec' b si hb hpb xi (by omega);have hnd:ndX p c (ctX p c n) si (.mk 2 t cd a b)=ctX p c n b si:=by simp [ndX,z]
     generalize ctX p c n b si=s2 at*;simp only [Prg.e,Xe.ce,sG_e] at hr;simp [d9,Xa.e,sG_e,z6,h2,h4,h5,h7,h8,h9,hi,hx,hK,ht,z,hr,hw];exact nx s2 hnd _ _ (hEE (by simp) (by simp) (by simp) (by simp) (by simp)) (by simp) hm
   ·have k2:¬k=2:=by rcases hk13 with rfl | ⟨rfl,_⟩<;>decide
    have hap:=Nf pk hv cf ip ht' xi (by omega);have hap1:(apX p c t' si).1.hits.length=si.hits.length+1:=by simp [apX]
    have x1:XS p (apX p c t' si).1:=xi.ap;have hnd:ndX p c (ctX p c n) si (.mk k t' cd a b)=ctX p c n (if (apX p c t' si).2 then a else b) (apX p c t' si).1:=by simp [ndX,k2]
    generalize apX p c t' si=y at*;obtain ⟨y1,y2⟩:=y;simp only at hap hap1 x1 hnd;cases y2 with
    | true=>
     have hr:=rec' a y1 ha hpa x1 (by omega);simp only [if_true] at hnd;generalize ctX p c n a y1=s2 at*;simp only [Prg.e,Xe.ce,sG_e] at hr hap;simp [d9,Xa.e,sG_e,z6,h2,h4,h5,h7,h8,h9,hi,hx,hK,k2,hap,hr,hw];exact nx s2 hnd _ _ (hEE (by simp) (by simp) (by simp) (by simp) (by simp)) (by simp) hm
    | false=>
     have hr:=rec' b y1 hb hpb x1 (by omega);simp only [nX,if_false] at hnd;generalize ctX p c n b y1=s2 at*;simp only [Prg.e,Xe.ce,sG_e] at hr hap;simp [d9,Xa.e,sG_e,z6,h2,h4,h5,h7,h8,h9,hi,hx,hK,k2,hap,hr,hw];exact nx s2 hnd _ _ (hEE (by simp) (by simp) (by simp) (by simp) (by simp)) (by simp) hm
  ·rintro E _ K hK ⟨m,hm,rfl,h2,h4,h5,h7,h8,h9⟩;rw [fF];generalize ctX p c (n+1) l s=s2 at*;rw [<- hR];simp [d9,oJ,sG_e,z6,h2,h7,h8,h9,hK,aA]
  ·refine ⟨2,Qb _,?_,by simp,by simp [Prg.e],by simp [Xe.ce],by simp,by simp,by simp⟩;rw [OK,V4];simp [sG_e,z6]
end Go.Av
