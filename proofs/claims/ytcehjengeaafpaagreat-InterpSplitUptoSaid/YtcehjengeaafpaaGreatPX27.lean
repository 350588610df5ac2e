/-
 The machine of the interpreter: a table is applied, a condition is tested.
-/
import Derived.Test.YtcehjengeaafpaaGreatPX19
set_option linter.unusedVariables false
set_option linter.unusedSimpArgs false
set_option linter.constructorNameAsVariable false
namespace Go.Av
set_option maxRecDepth 8000
theorem XV.exe {p:Prg} (c:Xb) {e:Envt} {rs:List (List Int)} (h:XV p e rs):XV p (exeX p c e rs).1 (exeX p c e rs).2:=by
 unfold exeX;split
 ·exact h
 ·rename_i a _;have aux:∀(l:List Xf) (x:Envt×List (List Int)),XV p x.1 x.2->XV p (l.foldl (stmX p a.params c.args) x).1 (l.foldl (stmX p a.params c.args) x).2:=by
   intro l
   induction l with
   | nil=>intro x h;exact h
   | cons s l ih=>intro x h;exact ih _ (h.stm s)
  exact aux _ (e,rs) h
structure CallV (p:Prg) (k:Xb):Prop where
 a:(actE p k.Xy).2=0
 c:kZ p k=0
 v:∀v∈k.args,ok32 0 v
 l:k.args.length<2^40
structure CF (p:Prg) (c:Xe):Prop where
 rl:c.rows.length=p.Xm.length
 dl:c.Xp.length=p.Xm.length
 rs:∀l∈c.rows,l.length<2^40/\(∀x∈l,EntS x.entry/\CallV p x.entry.call)/\l.Pairwise fun a b=>a.id<b.id
 dc:∀d∈c.Xp,CallV p d
structure PKp (p:Prg):Prop where
 fs:PrgS p
 w:PWd p
 hd:∀h∈p.Xo,hdrE h=0
 tb:∀t:Nat,t<p.Xm.length->tOk p t=true
 dp:(depE p).2=0
 pa:(parE p).2.2=0
def mC (p:Prg) (c:Xe) (e:Envt) (rs:List (List Int)) (hv:AV):List AV:=
  ((.slice 1 (e.valid.map cB))::(.slice 1 (e.Xz.map (cS 1 c32)))::(.slice 1 (e.metaF.map c32))::(.slice 1 (e.payload.map c8))::(.slice 1 (rs.map (cS 1 c32)))::hv::mW p [.slice 1 (c.rows.map (cS 5 Rw.c)),.slice 1 (c.Xq.map cI),.slice 2 (c.Xp.map Xb.c),.slice 1 (c.Xl.map (cS 1 c32))])
def HV (O:List (Nat×AO)) (h:List Hit) (hv:AV):Prop:=(h=[]/\hv= .Xt 3 [])\/∃tk,hv= .app 3 (h.map Hit.c) tk/\look tk O=some (.tok 3 h.length)
structure MM (p:Prg) (c:Xe) (id:Nat) (O:List (Nat×AO)) (s:MS) (hv:AV):Prop where
 l:look id O=some (.row 19 [mC p c s.e s.rs hv])
 h:HV O s.hits hv
def FrM (id:Nat) (O O':List (Nat×AO)):Prop:=∀j z es,j≠id->look j O=some (.row z es)->look j O'=some (.row z es)
theorem FrM.trans {id:Nat} {O O' O'':List (Nat×AO)} (h:FrM id O O') (h2:FrM id O' O''):FrM id O O'':=fun j z es h1 h3=>h2 j z es h1 (h j z es h1 h3)
def ApP (p:Prg) (c:Xe) (id N:Nat) (O:List (Nat×AO)) (s':MS) (v:AV) (r:Option (Rt×AH)):Prop:=
 ∃O' N' hv,r=some (.val v,⟨O',N'⟩)/\MM p c id O' s' hv/\FrM id O O'/\Tail O' N'/\NR O'/\N<=N'
theorem UM {O:List (Nat×AO)} {N n:Nat} {h:List Hit} {hv:AV} (x:HV O h hv):snap (n+1) ⟨O,N⟩ hv=some (.slice 3 (h.map Hit.c)):=by
 rcases x with ⟨rfl,rfl⟩ | ⟨tk,rfl,_⟩<;>simp
theorem apA {id N M k1 k2:Nat} {O:List (Nat×AO)} {x:AO} {z1 z2 z3 z4:Nat} {e1 e2 e3 e4:List (List AV)} {f:Nat} (li:look id O=some x) (T:Tail O N) (R:NR O) (h1:N+k1<M) (h2:N+k2<M) (h3:k1≠k2):
  let O':=setl id (.row z3 e3) (setl id (.row z2 e2) (setl id (.row z1 e1) (O++[(N+k1,.row z4 e4)]))++[(N+k2,.tok 3 f)])
  look id O'=some (.row z3 e3)/\look (N+k2) O'=some (.tok 3 f)/\FrM id O O'/\Tail O' M/\NR O':=by
 have hi:=T.lt li;have tt:∀k,look (N+k) O=none:=fun k=>T _ (by omega)
 refine ⟨?_,?_,?_,?_,?_⟩
 ·rw [aA,a8 rfl,aE,aA,a8 rfl,aA,a8 rfl,bK li];rfl
 ·rw [aA,QA (by omega),aE,aA,QA (by omega),aA,QA (by omega),aE,tt,gJ _ _ _ _ (by omega)];simp
 ·intro j z es hj hl;rw [aA,QA hj,aE,aA,QA hj,aA,QA hj,bK hl];rfl
 ·exact bW (Tail_append_iff.2 ⟨bW (bW (Tail_append_iff.2 ⟨T.mono (by omega),Tail_cons_iff.2 ⟨h1,Tail.nil _⟩⟩)),Tail_cons_iff.2 ⟨h2,Tail.nil _⟩⟩)
 ·exact NR.setl (by simp) ((NR.setl (by simp) (NR.setl (by simp) (R.app (.one (by simp))))).app (.one (by simp)))
theorem apB {id N M k1 tk:Nat} {O:List (Nat×AO)} {x:AO} {y z1 z2 z3 z4:Nat} {e1 e2 e3 e4:List (List AV)} {f:Nat} (li:look id O=some x) (lt:look tk O=some (.tok 3 y)) (hne:tk≠id) (T:Tail O N) (R:NR O) (h1:N+k1<M):
  let O':=setl id (.row z3 e3) (setl tk (.tok 3 f) (setl id (.row z2 e2) (setl id (.row z1 e1) (O++[(N+k1,.row z4 e4)]))))
  look id O'=some (.row z3 e3)/\look tk O'=some (.tok 3 f)/\FrM id O O'/\Tail O' M/\NR O':=by
 refine ⟨?_,?_,?_,?_,?_⟩
 ·rw [aA,a8 rfl,aA,QA hne.symm,aA,a8 rfl,aA,a8 rfl,bK li];rfl
 ·rw [aA,QA hne,aA,a8 rfl,aA,QA hne,aA,QA hne,bK lt];rfl
 ·intro j z es hj hl;rw [aA,QA hj,aA,QA (bO hl lt (by simp)),aA,QA hj,aA,QA hj,bK hl]
 ·exact bW (bW (bW (bW (Tail_append_iff.2 ⟨T.mono (by omega),Tail_cons_iff.2 ⟨h1,Tail.nil _⟩⟩))))
 ·exact NR.setl (by simp) (NR.setl (by simp) (NR.setl (by simp) (NR.setl (by simp) (R.app (.one (by simp))))))
theorem Kb {p:Prg} (k:PKp p) {c:Xe} (cf:CF p c) {t:Nat} (ht:t<p.Xm.length) {id N:Nat} {O:List (Nat×AO)} {s:MS} {hv:AV} (m:MM p c id O s hv) (xv:XV p s.e s.rs) (hl:s.hits.length<2^30) (T:Tail O N) (R:NR O):
  ApP p c id N O (apX p c t s).1 (.bool (apX p c t s).2) (aH Φ i6 [.ptr id 19 0 0,a7 t] ⟨O,N⟩):=by
 rw [d6 rfl rfl];obtain ⟨e,rs,hits⟩:=s;obtain ⟨li,lh⟩:=m;simp only at li lh xv hl;have hk:=XX k.fs ht (k.tb t ht) e;have htr:t<c.rows.length:=by rw [cf.rl];exact ht
 have htd:t<c.Xp.length:=by rw [cf.dl];exact ht
 obtain ⟨r1,r2,r3⟩:=cf.rs _ (Qd htr);have hb:=qx3 k.fs ht (keyX p t e) r1 (fun x hx=>(r2 x hx).1) r3;have hsel:selX p c t e=oB p t (keyX p t e) c.rows[t]:=by simp [selX,htr]
 have hcal:CallV p (calX c t (selX p c t e)):=by
  unfold calX;split
  ·rename_i x hx;rw [hsel] at hx;rcases Jw _ _ _ _ _ hx with h | h
   ·exact (r2 x h).2
   ·cases h
  ·rw [nK,Qa htd];exact cf.dc _ (Qd htd)
 have hex:=Y7 k.fs k.w (calX c t (selX p c t e)) hcal.a hcal.c hcal.v hcal.l xv;have hap:apX p c t ⟨e,rs,hits⟩=(⟨(exeX p (calX c t (selX p c t e)) e rs).1,(exeX p (calX c t (selX p c t e)) e rs).2,hits++[⟨t,((selX p c t e).map (·.id)).getD 0,(calX c t (selX p c t e)).Xy⟩]⟩,(selX p c t e).isSome):=rfl;rw [hap];generalize exeX p (calX c t (selX p c t e)) e rs=y at*;obtain ⟨e2,rs2⟩:=y;rw [<- hsel] at hb;have hdef:selX p c t e=none->calX c t (selX p c t e)=c.Xp[t]:=fun h=>by
  rw [h];simp [calX,htd]
 have hrow:∀x,selX p c t e=some x->calX c t (selX p c t e)=x.entry.call:=fun x h=>by rw [h];rfl
 generalize selX p c t e=o at*;generalize hcl:calX c t o=cl at*;generalize keyX p t e=ks at*;generalize hrw:c.rows[t]=rw at*;generalize hdf:c.Xp[t]=df at*;have t0:∀k,look (N+k) O=none:=fun k=>T _ (by omega)
 have t00:=T N (Qb _);have fi:=fun k=>dI (n:=N+k) T li (by omega)
 have fi0:=dI (n:=N) T li (by omega);have iq:∀k,(id == N+k)=false/\(N+k == id)=false:=fun k=>by simp [fi k]
 have iq0:(id == N)=false/\(N == id)=false:=by simp [fi0]
 rw [mC] at li;rw [Prg.c] at hk hex hb;simp only [Envt.ce] at hk hex;have lt8:N+7<N+8:=by omega
 have lt9:∀k,k<9->N+k<N+9:=fun k h=>by omega
 have ft:∀{tk y:Nat},look tk O=some (.tok 3 y)->∀k,¬tk=N+k/\¬N+k=tk:=fun h k=>dI T h (by omega)
 have idt:∀{tk y:Nat},look tk O=some (.tok 3 y)->¬id=tk/\¬tk=id:=fun h=>by
  have:=bO li h (by simp);exact ⟨this,fun e=>this e.symm⟩
 have bd:(hits.length+1)*24<=70368744177664:=by omega
 cases o with
 | none=>
  have hcd:=hdef rfl;subst hcd;simp only [rowV,Option.isSome_none,Rw.ce,noE] at hb;rw [Xb.c] at hex;rcases lh with ⟨rfl,rfl⟩ | ⟨tk,rfl,lt⟩
  ·simp [lC,li,hk,cS,htr,htd,hrw,hdf,hb,hex,Xb.c,t0,t00,eC,aE,aA,fi,fi0,iq,iq0,eL,mR,R.eq];obtain ⟨a1,a2,a3,a4,a5⟩:=apA li T R (lt9 7 (by decide)) (lt9 8 (by decide)) (by decide);exact ⟨_,_,_,rfl,⟨a1,.inr ⟨_,rfl,a2⟩⟩,a3,a4,a5,F5 _ _⟩
  ·have ft:=ft lt;have idt:=idt lt;simp [lC,li,hk,cS,htr,htd,hrw,hdf,hb,hex,Xb.c,t0,t00,eC,aE,aA,fi,fi0,iq,iq0,eL,mR,R.eq,lt,ft,idt,bd];obtain ⟨a1,a2,a3,a4,a5⟩:=apB li lt idt.2 T R lt8;exact ⟨_,_,_,rfl,⟨a1,.inr ⟨tk,by simp [Hit.c],by simpa using a2⟩⟩,a3,a4,a5,F5 _ _⟩
 | some x=>
  have hcd:=hrow x rfl;subst hcd;simp only [rowV,Option.isSome_some,Rw.ce] at hb;rw [Xb.c] at hex;rcases lh with ⟨rfl,rfl⟩ | ⟨tk,rfl,lt⟩
  ·simp [lC,li,hk,cS,htr,htd,hrw,hdf,hb,hex,Xb.c,t0,t00,eC,aE,aA,fi,fi0,iq,iq0,eL,mR,R.eq];obtain ⟨a1,a2,a3,a4,a5⟩:=apA li T R (lt9 7 (by decide)) (lt9 8 (by decide)) (by decide);exact ⟨_,_,_,rfl,⟨a1,.inr ⟨_,rfl,a2⟩⟩,a3,a4,a5,F5 _ _⟩
  ·have ft:=ft lt;have idt:=idt lt;simp [lC,li,hk,cS,htr,htd,hrw,hdf,hb,hex,Xb.c,t0,t00,eC,aE,aA,fi,fi0,iq,iq0,eL,mR,R.eq,lt,ft,idt,bd];obtain ⟨a1,a2,a3,a4,a5⟩:=apB li lt idt.2 T R lt8;exact ⟨_,_,_,rfl,⟨a1,.inr ⟨tk,by simp [Hit.c],by simpa using a2⟩⟩,a3,a4,a5,F5 _ _⟩
def mS (p:Prg) (c:Xe) (s:MS):List AV:=mC p c s.e s.rs (.slice 3 (s.hits.map Hit.c))
theorem MM.snp {p:Prg} {c:Xe} {id N:Nat} {O:List (Nat×AO)} {s:MS} {hv:AV} (m:MM p c id O s hv):snap 40 ⟨O,N⟩ (.ptr id 19 0 0)=some (.iptr 19 [mS p c s] 0 0):=by
 have h1:=m.l;have h2:=UM (N:=N) (n:=38) m.h;rw [mC] at h1;simp [h1,h2,mS,mC]
theorem Mp {p:Prg} {c:Xe} (s:MS) (f:Int):aB Φ pB [.iptr 19 [mS p c s] 0 0,a7 f]=some (.val (.int .u32 (eGet s.e (-1) f))):=by
 rw [aD rfl rfl];have h:=ON s.e (-1) f;rw [Envt.ce] at h;simp [BL,mS,mC,h]
theorem XW {p:Prg} {c:Xe} {s:MS} (xv:XV p s.e s.rs) (cond:List Xd):aB Φ jJ [.iptr 19 [mS p c s] 0 0,.slice 3 (cond.map Xd.c)]=some (.val (.bool (decide (evl p [] cond s.e []=1)))):=by
 rw [aD rfl rfl];have he:=Nz p [] s.e [] cond xv.g (by simp);rw [Envt.ce] at he;simp [scC,Prg.c] at he;simp [BE,mS,mC,he]
def RsP (y:Rslt) (N:Nat) (O:List (Nat×AO)) (r:Option (Rt×AH)):Prop:=
 ∃L N' v1 v2 v3 v4,r=some (.val (.agg [v1,v2,v3,v4]),⟨O++L,N'⟩)/\Tail (O++L) N'/\NR (O++L)/\N<=N'/\∀(O2:List (Nat×AO)) (n n2:Nat),snap (n+1) ⟨O2,n2⟩ v1=some (.bool y.drop)/\snap (n+1) ⟨O2,n2⟩ v2=some (a7 y.port)/\snap (n+1) ⟨O2,n2⟩ v3=some (.slice 1 (y.data.map c8))/\snap (n+1) ⟨O2,n2⟩ v4=some (.slice 3 (y.hits.map Hit.c))
theorem qzu {p:Prg} (k:PKp p) {c:Xe} {id N:Nat} {O:List (Nat×AO)} {s:MS} {hv:AV} (m:MM p c id O s hv) (xv:XV p s.e s.rs) (T:Tail O N) (R:NR O):
  RsP (resX p s) N O (aH Φ p6 [.ptr id 19 0 0] ⟨O,N⟩):=by
 rw [d6 rfl rfl];have t0:=T N (Qb _);have sn:=fun L n=>MM.snp (N:=n) (⟨bK (L:=L) m.l,by
  rcases m.h with h | ⟨tk,h1,h2⟩
  ·exact .inl h
  ·exact .inr ⟨tk,h1,bK h2⟩⟩:MM p c id (O++L) s hv)
 have m1:=Mp (p:=p) (c:=c) s 1;have m2:=Mp (p:=p) (c:=c) s 2;have em:=Lo k.fs k.w k.hd k.dp xv.ev xv.pl;have sz:=XG k.fs k.w k.hd k.dp xv.ev xv.pl;have li:=m.l;have fi:=dI (n:=N) T li (Qb _);rw [mC] at li;rw [Prg.c,Envt.ce] at em sz;have w1:IntKind.wrap .i64 (eGet s.e (-1) 1)=eGet s.e (-1) 1:=by
  have:=xv.g (-1) 1;exact cM (by have:=this.1;omega) (by have:=this.2;omega)
 have g1:(at? s.e.metaF 1).getD 0=eGet s.e (-1) 1:=by simp [eGet]
 have g2:(at? s.e.metaF 2).getD 0=eGet s.e (-1) 2:=by simp [eGet]
 have fin:∀{x:AO} {v1 v2 v3 v4:AV},x≠ .res->(∀(O2:List (Nat×AO)) (n n2:Nat),snap (n+1) ⟨O2,n2⟩ v1=some (.bool (resX p s).drop)/\snap (n+1) ⟨O2,n2⟩ v2=some (a7 (resX p s).port)/\snap (n+1) ⟨O2,n2⟩ v3=some (.slice 1 ((resX p s).data.map c8))/\snap (n+1) ⟨O2,n2⟩ v4=some (.slice 3 ((resX p s).hits.map Hit.c)))->RsP (resX p s) N O (some (Rt.val (.agg [v1,v2,v3,v4]),(⟨O++[(N,x)],N+1⟩:AH))):=fun {x v1 v2 v3 v4} hx h=>
  ⟨_,_,_,_,_,_,rfl,Tail_append_iff.2 ⟨T.mono (by omega),Tail_cons_iff.2 ⟨by omega,Tail.nil _⟩⟩,R.app (.one hx),by omega,h⟩
 unfold resX at*;rw [g1,g2] at*;rcases m.h with ⟨h0,rfl⟩ | ⟨tk,rfl,_⟩
 ·by_cases z:eGet s.e (-1) 2=1
  ·rw [a8 (.inl z)] at*;simp [gU,t0,sn,m2,z,aE,aA,li,fi,eL];exact fin (by simp) (by intro O2 n n2;simp [h0])
  ·by_cases z2:512<(emi p s.e).length
   ·rw [a8 (.inr z2)] at*;simp [gU,t0,sn,m2,z,z2,sz,aE,aA,li,fi,eL];exact fin (by simp) (by intro O2 n n2;simp [h0])
   ·rw [QA (by simp [z,z2])] at*;simp [gU,t0,sn,m1,m2,z,z2,sz,em,w1,aE,aA,li,fi,eL];exact fin (by simp) (by intro O2 n n2;simp [h0])
 ·by_cases z:eGet s.e (-1) 2=1
  ·rw [a8 (.inl z)] at*;simp [gU,t0,sn,m2,z,aE,aA,li,fi,eL];exact fin (by simp) (by intro O2 n n2;simp)
  ·by_cases z2:512<(emi p s.e).length
   ·rw [a8 (.inr z2)] at*;simp [gU,t0,sn,m2,z,z2,sz,aE,aA,li,fi,eL];exact fin (by simp) (by intro O2 n n2;simp)
   ·rw [QA (by simp [z,z2])] at*;simp [gU,t0,sn,m1,m2,z,z2,sz,em,w1,aE,aA,li,fi,eL];exact fin (by simp) (by intro O2 n n2;simp)
def fA (id:Nat):AV:= .func (.func i6) [.ptr id 19 0 0] []
def fT (id:Nat):AV:= .func (.func jJ) [.ptr id 19 0 0] []
def NdV (p:Prg) (x:Xa):Prop:=x.kind=2\/((x.kind=3\/x.kind=1/\x.thn=[]/\x.els=[])/\∃t:Nat,x.table=t/\t<p.Xm.length)
def lst (X:AV) (l:List Xa):Prop:=(l=[]/\X= .Xt 5 [])\/X= .slice 5 (l.map Xa.c)
def BrP (p:Prg) (c:Xe) (id N:Nat) (O:List (Nat×AO)) (s':MS) (l:List Xa) (r:Option (Rt×AH)):Prop:=
 ∃O' N' hv X,r=some (.val X,⟨O',N'⟩)/\lst X l/\MM p c id O' s' hv/\FrM id O O'/\Tail O' N'/\NR O'/\N<=N'
theorem MM.app {p:Prg} {c:Xe} {id:Nat} {O:List (Nat×AO)} {s:MS} {hv:AV} (m:MM p c id O s hv) (L:List (Nat×AO)):MM p c id (O++L) s hv:=⟨bK m.l,by
 rcases m.h with h | ⟨tk,h1,h2⟩
 ·exact .inl h
 ·exact .inr ⟨tk,h1,bK h2⟩⟩
section
variable {p:Prg} (pk:PKp p) {c:Xe} (cf:CF p c) {id N:Nat} {O:List (Nat×AO)} {s:MS} {hv:AV} (m:MM p c id O s hv) (xv:XV p s.e s.rs) (hl:s.hits.length<2^30) (T:Tail O N) (R:NR O)
include pk cf m xv hl T R
theorem YJ (k:Int) {t:Nat} (ht:t<p.Xm.length) (cd:List Xd) (a b:List Xa):
  BrP p c id N O (apX p c t s).1 [] (aH Φ qO [.agg (Xa.c (.mk k t cd a b)),.agg [fA id,fT id]] ⟨O,N⟩):=by
 rw [d6 rfl rfl];have t0:∀k,look (N+k) O=none:=fun k=>T _ (by omega)
 have t00:=T N (Qb _);have l2:N+1<N+1+1:=by omega
 have T1:∀(x y:AO),Tail (O++[(N,x),(N+1,y)]) (N+1+1):=fun x y=>Tail_append_iff.2 ⟨T.mono (by omega),Tail_cons_iff.2 ⟨by omega,Tail_cons_iff.2 ⟨l2,Tail.nil _⟩⟩⟩
 have R1:∀(z z2:Nat) (x y:List (List AV)),NR (O++[(N,.row z x),(N+1,.row z2 y)]):=fun z z2 x y=>R.app (cK (by simp) (.one (by simp)))
 obtain ⟨O2,N2,hv2,hr,m2,f2,t2,r2,n2⟩:=Kb pk cf ht (m.app [(N,.row 5 [Xa.c (.mk k t cd a b)]),(N+1,.row 2 [[fA id,fT id]])]) xv hl (T1 _ _) (R1 _ _ _ _);rw [Xa.e,fA,fT] at hr;simp [DW,Xa.e,fA,fT,t0,t00,aE,hr];exact ⟨O2,N2,hv2,_,rfl,.inl ⟨rfl,rfl⟩,m2,fun j z es h1 h2=>f2 j z es h1 (bK h2),t2,r2,by omega⟩
theorem YL (k:Int) {t:Nat} (ht:t<p.Xm.length) (cd:List Xd) (a b:List Xa):
  BrP p c id N O (apX p c t s).1 (if (apX p c t s).2 then a else b) (aH Φ qP [.agg (Xa.c (.mk k t cd a b)),.agg [fA id,fT id]] ⟨O,N⟩):=by
 rw [d6 rfl rfl];have t0:∀k,look (N+k) O=none:=fun k=>T _ (by omega)
 have t00:=T N (Qb _);have l2:N+1<N+1+1:=by omega
 have T1:∀(x y:AO),Tail (O++[(N,x),(N+1,y)]) (N+1+1):=fun x y=>Tail_append_iff.2 ⟨T.mono (by omega),Tail_cons_iff.2 ⟨by omega,Tail_cons_iff.2 ⟨l2,Tail.nil _⟩⟩⟩
 have R1:∀(z z2:Nat) (x y:List (List AV)),NR (O++[(N,.row z x),(N+1,.row z2 y)]):=fun z z2 x y=>R.app (cK (by simp) (.one (by simp)))
 obtain ⟨O2,N2,hv2,hr,m2,f2,t2,r2,n2⟩:=Kb pk cf ht (m.app [(N,.row 5 [Xa.c (.mk k t cd a b)]),(N+1,.row 2 [[fA id,fT id]])]) xv hl (T1 _ _) (R1 _ _ _ _);have hN:=T.lt m.l;have lN:=f2 N 5 [Xa.c (.mk k t cd a b)] (by omega) (by rw [aE,t00];simp);rw [Xa.e,fA,fT] at hr;rw [Xa.e] at lN;cases q:(apX p c t s).2 with
 | true=>
  rw [q] at hr;simp [tI,Xa.e,fA,fT,t0,t00,aE,hr,lN];exact ⟨O2,N2,hv2,_,rfl,.inr rfl,m2,fun j z es h1 h2=>f2 j z es h1 (bK h2),t2,r2,by omega⟩
 | false=>
  rw [q] at hr;simp [tI,Xa.e,fA,fT,t0,t00,aE,hr,lN];exact ⟨O2,N2,hv2,_,rfl,.inr rfl,m2,fun j z es h1 h2=>f2 j z es h1 (bK h2),t2,r2,by omega⟩
omit pk cf hl in
theorem YK (k t:Int) (cd:List Xd) (hcd:cd.length<2^40) (a b:List Xa):
  BrP p c id N O s (if evl p [] cd s.e []=1 then a else b) (aH Φ vZ [.agg (Xa.c (.mk k t cd a b)),.agg [fA id,fT id]] ⟨O,N⟩):=by
 rw [d6 rfl rfl];have t0:∀k,look (N+k) O=none:=fun k=>T _ (by omega)
 have t00:=T N (Qb _);have hN:=T.lt m.l;have bd:cd.length*24<=70368744177664:=by omega
 have iq:∀k,(id == N+k)=false/\(N+k == id)=false:=fun k=>by simp;omega
 have iq0:(id == N)=false/\(N == id)=false:=by simp;omega
 have te:=XW (c:=c) xv cd;have sn:=fun L n=>(m.app L).snp (N:=n)
 have bq:∀k,0<k->(N == N+k)=false/\(N+k == N)=false:=fun k hk=>by simp;omega
 have lt13:∀k,k<13->N+k<N+13:=fun k h=>by omega
 have fin:∀{X:AV} {l:List Xa} {z z2 f:Nat} {x y:List (List AV)},lst X l->BrP p c id N O s l (some (.val X,⟨O++[(N,.row z x),(N+1,.row z2 y),(N+12,.tok 3 f)],N+13⟩)):=fun {X l z z2 f x y} h=>
  ⟨_,_,hv,X,rfl,h,m.app _,fun j z es _ hj=>bK hj,Tail_append_iff.2 ⟨T.mono (by omega),Tail_cons_iff.2 ⟨lt13 0 (by decide),Tail_cons_iff.2 ⟨lt13 1 (by decide),Tail_cons_iff.2 ⟨lt13 12 (by decide),Tail.nil _⟩⟩⟩⟩,R.app (cK (by simp) (cK (by simp) (.one (by simp)))),by omega⟩
 by_cases q:evl p [] cd s.e []=1
 ·simp [tJ,Xa.e,fA,fT,t0,t00,eC,aE,aA,mR,R.eq,eL,bd,iq,iq0,sn,te,bq,q];exact fin (.inr rfl)
 ·simp [tJ,Xa.e,fA,fT,t0,t00,eC,aE,aA,mR,R.eq,eL,bd,iq,iq0,sn,te,bq,q];exact fin (.inr rfl)
end
theorem Mh (p:Prg) (c:Xe):∀(n:Nat) (s:MS),ctX p c n [] s=s
 | 0,_=>rfl
 | _+1,_=>rfl
theorem PZ (k t:Int) (cd:List Xd) (a b:List Xa):aB Φ uK [.agg (Xa.c (.mk k t cd a b))]=some (.val (if k=1 then .iface 413 (.agg (Xa.c (.mk k t cd a b))) else if k=3 then .iface 414 (.agg (Xa.c (.mk k t cd a b))) else if k=2 then .iface 415 (.agg (Xa.c (.mk k t cd a b))) else .iface 417 (.agg []))):=by
 rw [aD rfl rfl];by_cases h1:k=1
 ·simp [lJ,Xa.e,h1]
 by_cases h3:k=3
 ·simp [lJ,Xa.e,h3]
 by_cases h2:k=2
 ·simp [lJ,Xa.e,h2]
 ·simp [lJ,Xa.e,h1,h2,h3]
def XS (p:Prg) (s:MS):Prop:=XV p s.e s.rs
theorem XS.ap {p:Prg} {c:Xe} {t:Int} {s:MS} (h:XS p s):XS p (apX p c t s).1:=XV.exe _ h
theorem XS.nd {p:Prg} {c:Xe} {f:List Xa->MS->MS} (hf:∀l s,XS p s->XS p (f l s)) {s:MS} (h:XS p s) (x:Xa):XS p (ndX p c f s x):=by
 unfold ndX;split
 ·exact hf _ _ h
 ·exact hf _ _ h.ap
theorem XS.ct {p:Prg} {c:Xe}:∀(n:Nat) (l:List Xa) (s:MS),XS p s->XS p (ctX p c n l s)
 | 0,_,_,h=>h
 | n+1,l,s,h=>Bt (P:=XS p) (fun _ x hb=>XS.nd (XS.ct n) hb x) l s h
theorem Dm {x y:Xa} (hy:y∈pre1 x):∀{l:List Xa},x∈l->y∈pre l
 | [],h=>by cases h
 | z::l,h=>by
  simp only [pre,fG];rcases fV.1 h with h | h
  ·subst h;exact .inl hy
  ·exact .inr (Dm hy h)
theorem NC {x:Xa}:∀{l:List Xa},x∈l->1+AG x<=nest l
 | [],h=>by cases h
 | z::l,h=>by
  simp only [nest];rcases fV.1 h with h | h
  ·subst h;exact Nat.le_max_left _ _
  ·exact nQ (NC h) (Nat.le_max_right _ _)
theorem U9:∀(l:List Xa),(apl l).length<=(pre l).length:=fun l=>by
 unfold apl;rw [n9];exact List.length_filter_le _ _
theorem Lv {p:Prg} {c:Xe} (n:Nat) (l:List Xa) (s:MS) (h:∀x∈pre l,x.kind=2\/appl x=true):(ctX p c n l s).hits.length<=s.hits.length+(pre l).length:=by
 obtain ⟨hs,h1,h2⟩:=Fp (p:=p) (c:=c) n l s h;have:=h2.length_le;have h3:=U9 l;rw [h1,n8];rw [n9] at this;omega
theorem Lc:∀l:List Xa,l.length<=(pre l).length
 | []=>by simp
 | x::l=>by
  have ih:=Lc l;obtain ⟨k,t,c,a,b⟩:=x;simp only [pre,pre1,n8,zE];omega
theorem aoW (id:Nat):aoEq (some (AO.row 2 [[.func (.func i6) [.ptr id 19 0 0] [],.func (.func jJ) [.ptr id 19 0 0] []]])) (some (AO.row 2 [[.func (.func i6) [.ptr id 19 0 0] [],.func (.func jJ) [.ptr id 19 0 0] []]]))=true:=by
 simp [aoEq,eqL,avEq,aK]
def WkP (p:Prg) (c:Xe) (id N:Nat) (O:List (Nat×AO)) (s':MS) (r:Option (Rt×AH)):Prop:=
 ∃O' N' hv,r=some (.val (.tup []),⟨O',N'⟩)/\MM p c id O' s' hv/\FrM id O O'/\Tail O' N'/\NR O'/\N<=N'
theorem Nn {p:Prg} (pk:PKp p) {c:Xe} (cf:CF p c) {id:Nat}:∀(n:Nat) (l:List Xa) (X:AV) (O:List (Nat×AO)) (N:Nat) (s:MS) (hv:AV),nest l<=n->(∀x∈pre l,NdV p x/\x.cond.length<2^40)->lst X l->MM p c id O s hv->XS p s->s.hits.length+(pre l).length<2^30->Tail O N->NR O->
  WkP p c id N O (ctX p c n l s) (aH Φ iA [.agg [fA id,fT id],X] ⟨O,N⟩)
 | n,[],X,O,N,s,hv,hn,hv2,hX,m,xs,hh,T,R=>by
  rw [Mh,d6 rfl rfl];have t00:=T N (Qb _);have fin:∀{x:List (List AV)} {z:Nat},WkP p c id N O s (some (.val (.tup []),⟨O++[(N,.row z x)],N+1⟩)):=fun {x z}=>
   ⟨_,_,hv,rfl,m.app _,fun j z es _ hj=>bK hj,Tail_append_iff.2 ⟨T.mono (by omega),Tail_cons_iff.2 ⟨by omega,Tail.nil _⟩⟩,R.app (.one (by simp)),by omega⟩
  rcases hX with ⟨_,rfl⟩ | rfl
  ·simp [oH,fA,fT,t00,aE];rw [cL];simp [c_176_l0];exact fin
  ·simp [oH,fA,fT,t00,aE];rw [cL];simp [c_176_l0];exact fin
 | 0,x::l,X,O,N,s,hv,hn,hv2,hX,m,xs,hh,T,R=>by
  simp only [nest] at hn;omega
 | n+1,x0::l0,X,O,N,s,hv,hn,hv2,hX,m,xs,hh,T,R=>by
  have hX':X= .slice 5 ((x0::l0).map Xa.c):=by
   rcases hX with ⟨h,_⟩ | h
   ·cases h
   ·exact h
  subst hX';generalize hll:x0::l0=l at*;have hlp:l.length<=(pre l).length:=Lc l;have hkd:∀x∈pre l,x.kind=2\/appl x=true:=fun x hx=>by
   rcases (hv2 x hx).1 with h | ⟨h | h,_⟩
   ·exact .inl h
   ·right;simp [appl,h]
   ·right;simp [appl,h.1]
  rw [d6 rfl rfl];have t00:=T N (Qb _);simp [oH,fA,fT,t00,aE];refine eF l.length (fun i E h=>∃O' N' hv',h=⟨O',N'⟩/\look 2 E=some (.ptr N 2 0 0)/\look 6 E=some (.slice 5 (l.map Xa.c))/\look 7 E=some (a7 l.length)/\look 8 E=some (a7 i)/\look N O'=some (.row 2 [[fA id,fT id]])/\MM p c id O' (ctX p c (n+1) (l.take i) s) hv'/\FrM id O O'/\Tail O' N'/\NR O'/\N<N') (fun r=>WkP p c id N O (ctX p c (n+1) l s) r) ?_ ?_ 0 _ _ (Qc _) ?_
  rotate_left 2
  ·refine ⟨_,_,hv,rfl,by simp,by simp,by simp,by simp,by rw [aE,t00];simp [fA,fT],?_,fun j z es _ hj=>bK hj,Tail_append_iff.2 ⟨T.mono (by omega),Tail_cons_iff.2 ⟨by omega,Tail.nil _⟩⟩,R.app (.one (by simp)),by omega⟩;rw [List.take_zero,Mh];exact m.app _
  ·rintro i E _ K hi hK ⟨O',N',hv',rfl,e2,e6,e7,e8,lN,m',f',T',R',n'⟩ ih;have hmem:=Qd hi;have hsplit:pre l=pre (l.take i)++(pre1 l[i]++pre (l.drop (i+1))):=by
    rw [show pre1 l[i]++pre (l.drop (i+1))=pre (l[i]::l.drop (i+1)) by simp [pre],<- Qi hi,<- HK,QB]
   have hl1:=congrArg List.length hsplit;rw [n8,n8] at hl1;have hhi:=Lv (p:=p) (c:=c) (n+1) (l.take i) s fun x hx=>hkd x (by rw [hsplit];exact List.mem_append_left _ hx)
   have xi:XS p (ctX p c (n+1) (l.take i) s):=XS.ct _ _ _ xs;have hstep:ctX p c (n+1) (l.take (i+1)) s=ndX p c (ctX p c n) (ctX p c (n+1) (l.take i) s) l[i]:=by
    simp only [ctX];rw [Qh hi,List.foldl_append];rfl
   have hw1:=aP i (by omega);have hne:=NC hmem;have hself:l[i]∈pre1 l[i]:=by
    generalize l[i]=x;obtain ⟨k,t,cd,a,b⟩:=x;simp [pre1]
   obtain ⟨hnv,hcd⟩:=hv2 _ (Dm hself hmem);have hsub:∀y∈pre1 l[i],NdV p y/\y.cond.length<2^40:=fun y hy=>hv2 y (Dm hy hmem)
   generalize hx:l[i]=x at*;obtain ⟨k,t,cd,a,b⟩:=x;simp only [Xa.cond] at hcd;simp only [AG] at hne;simp only [pre1,zE,n8] at hl1;generalize ctX p c (n+1) (l.take i) s=si at*;have t0:=T' N' (Qb _);have hwr:=PZ k t cd a b;have next:∀{E2:Env} {s2:MS} {O3:List (Nat×AO)} {N3:Nat} {hv3:AV},(∀j,j=2\/j=6\/j=7->look j E2=look j E)->look 8 E2=some (a7 (i+1:Nat))->ndX p c (ctX p c n) si (.mk k t cd a b)=s2->MM p c id O3 s2 hv3->FrM id O' O3->Tail O3 N3->NR O3->N'<=N3->WkP p c id N O (ctX p c (n+1) l s) (go Φ (finC []) K .normal ⟨E2,⟨O3,N3⟩⟩):=fun {E2 s2 O3 N3 hv3} hE h8 hs hm hf ht hr hn3=>
    ih _ _ ⟨O3,N3,hv3,rfl,by rw [hE 2 (by simp),e2],by rw [hE 6 (by simp),e6],by rw [hE 7 (by simp),e7],h8,hf N 2 _ (by have:=T.lt m.l;omega) lN,by rw [hstep,hs];exact hm,FrM.trans f' hf,ht,hr,by omega⟩
   have T1:Tail O' (N'+1+1):=T'.mono (by omega);have below:∀{O2:List (Nat×AO)} {N2:Nat} {s2:MS} {hv2' X2:AV} {l2:List Xa},lst X2 l2->nest l2<=n->(∀x∈pre l2,NdV p x/\x.cond.length<2^40)->MM p c id O2 s2 hv2'->XS p s2->s2.hits.length+(pre l2).length<2^30->Tail O2 N2->NR O2->WkP p c id N2 O2 (ctX p c n l2 s2) (aH Φ iA [.agg [fA id,fT id],X2] ⟨O2,N2⟩):=fun {O2 N2 s2 hv2' X2 l2} h1 h2 h3 h4 h5 h6 h7 h8=>Nn pk cf n l2 X2 O2 N2 s2 hv2' h2 h3 h1 h4 h5 h6 h7 h8
   have ha:nest a<=n:=by omega
   have hb:nest b<=n:=by omega
   have hpa:∀x∈pre a,NdV p x/\x.cond.length<2^40:=fun y hy=>hsub y (by simp [pre1,hy])
   have hpb:∀x∈pre b,NdV p x/\x.cond.length<2^40:=fun y hy=>hsub y (by simp [pre1,hy])
   have hap1:∀t':Int,(apX p c t' si).1.hits.length=si.hits.length+1:=fun t'=>by simp [apX]
   have lN1:=lN;rw [fA,fT] at lN1;simp only [NdV,Xa.kind,Xa.thn,Xa.els,Xa.table] at hnv;rcases hnv with rfl | ⟨rfl | ⟨rfl,rfl,rfl⟩,t',rfl,ht'⟩
   ·obtain ⟨O2,N2,hv2',X2,hr,hX2,m2,f2,t2,r2,n2⟩:=YK m' xi T1 R' 2 t cd hcd a b;obtain ⟨O3,N3,hv3,hr3,m3,f3,t3,r3,n3⟩:=below hX2 (by split<;>assumption) (by split<;>assumption) m2 xi (by split<;>omega) t2 r2;rw [fA,fT] at hr hr3;rw [QA (by decide),QA (by decide),a8 rfl] at hwr;rw [Xa.e] at hr hwr;have lN2:=f2 N 2 _ (by have:=T.lt m.l;omega) lN1;simp [c_176_l0,Xa.e,e2,e6,e7,e8,hi,hx,hw1,lN1,t0,hwr,hr,hr3,eL,R'.eq,r2.eq,r3.eq,lN2,aoW];refine next (by rintro j (rfl | rfl | rfl)<;>simp) (by simp) ?_ m3 (FrM.trans f2 f3) t3 r3 (by omega)
    rfl
   ·obtain ⟨O2,N2,hv2',X2,hr,hX2,m2,f2,t2,r2,n2⟩:=YL pk cf m' xi (by omega) T1 R' 3 ht' cd a b;obtain ⟨O3,N3,hv3,hr3,m3,f3,t3,r3,n3⟩:=below hX2 (by split<;>assumption) (by split<;>assumption) m2 (XS.ap xi) (by rw [hap1];split<;>omega) t2 r2;rw [fA,fT] at hr hr3;rw [QA (by decide),a8 rfl] at hwr;rw [Xa.e] at hr hwr;have lN2:=f2 N 2 _ (by have:=T.lt m.l;omega) lN1;simp [c_176_l0,Xa.e,e2,e6,e7,e8,hi,hx,hw1,lN1,t0,hwr,hr,hr3,eL,R'.eq,r2.eq,r3.eq,lN2,aoW];refine next (by rintro j (rfl | rfl | rfl)<;>simp) (by simp) ?_ m3 (FrM.trans f2 f3) t3 r3 (by omega)
    rfl
   ·obtain ⟨O2,N2,hv2',X2,hr,hX2,m2,f2,t2,r2,n2⟩:=YJ pk cf m' xi (by omega) T1 R' 1 ht' cd [] [];obtain ⟨O3,N3,hv3,hr3,m3,f3,t3,r3,n3⟩:=below hX2 (by simp [nest]) (by simp [pre]) m2 (XS.ap xi) (by rw [hap1];simp [pre];omega) t2 r2;rw [fA,fT] at hr hr3;rw [a8 rfl] at hwr;rw [Xa.e] at hr hwr;simp only [yF] at hr hwr;have lN2:=f2 N 2 _ (by have:=T.lt m.l;omega) lN1;simp [c_176_l0,Xa.e,e2,e6,e7,e8,hi,hx,hw1,lN1,t0,hwr,hr,hr3,eL,R'.eq,r2.eq,r3.eq,lN2,aoW];refine next (by rintro j (rfl | rfl | rfl)<;>simp) (by simp) ?_ m3 (FrM.trans f2 f3) t3 r3 (by omega)
    show ctX p c n (if (apX p c t' si).2=true then [] else []) (apX p c t' si).1=_;split<;>rfl
  ·rintro E _ K hK ⟨O',N',hv',rfl,e2,e6,e7,e8,lN,m',f',T',R',n'⟩;rw [kW] at m';simp [c_176_l0,e7,e8] at hK ⊢;simp [hK];exact ⟨O',N',hv',rfl,m',f',T',R',by omega⟩
theorem PY {p:Prg} (pk:PKp p) {c:Xe} (cf:CF p c) {id:Nat} (l:List Xa) {O:List (Nat×AO)} {N:Nat} {s:MS} {hv:AV} (hk:∀x∈pre l,NdV p x/\x.cond.length<2^40) (m:MM p c id O s hv) (xs:XS p s) (hh:s.hits.length+(pre l).length<2^30) (T:Tail O N) (R:NR O):
  WkP p c id N O (ctX p c (nest l) l s) (aH Φ p5 [.slice 5 (l.map Xa.c),fA id,fT id] ⟨O,N⟩):=by
 rw [d6 rfl rfl];obtain ⟨O2,N2,hv2,hr,m2,f2,t2,r2,n2⟩:=Nn pk cf (nest l) l (.slice 5 (l.map Xa.c)) O N s hv (Qb _) hk (.inr rfl) m xs hh T R;rw [fA,fT] at hr;simp [BD,fA,fT,hr];exact ⟨O2,N2,hv2,rfl,m2,f2,t2,r2,n2⟩
theorem Ip (rs:List (List Int)) (h:rs.length<2^40) (h2:∀l∈rs,l.length<2^40):aB Φ w6 [.slice 1 (rs.map (cS 1 c32))]=some (.val (.slice 1 (rs.map (cS 1 c32)))):=by
 rw [aD rfl rfl];simp [FF];refine eF rs.length (fun i E h=>∃O N,h=⟨O,N⟩/\look 6 E=some (.slice 1 (rs.map (cS 1 c32)))/\look 7 E=some (a7 rs.length)/\look 8 E=some (a7 i)/\look 3 E=some (.app 1 ((rs.take i).map (cS 1 c32)) 0)/\look 0 O=some (.tok 1 i)) (fun (r:Option Rt)=>r=some (.val (.slice 1 (rs.map (cS 1 c32))))) ?_ ?_ 0 _ _ (Qc _) ?_
 rotate_left 2
 ·exact ⟨_,_,rfl,by simp,by simp,by simp,by simp,by simp⟩
 ·rintro i E _ K hi hK ⟨O,N,rfl,e6,e7,e8,e3,l0⟩ ih;have hw1:=aP i (by omega);have hc:=Ev rs[i] (h2 _ (Qd hi));have htw:rs.take (i+1)=rs.take i++[rs[i]]:=Qh hi;have hmin:min i rs.length=i:=by omega
  have bd:(i+1)*24<=70368744177664:=by omega
  generalize hx:rs[i]=x at*;simp [c_99_l0,cS,e6,e7,e8,e3,hi,hx,hw1,hc,l0,hmin,bd];refine ih _ _ ⟨_,_,rfl,?_⟩;exact ⟨by simp [e6],by simp [e7],by simp,by simp [htw,cS],by rw [aA,a8 rfl,l0];rfl⟩
 ·rintro E _ K hK ⟨O,N,rfl,e6,e7,e8,e3,l0⟩;rw [kW] at e3;simp [FF,c_99_l0,e7,e8] at hK ⊢;simp [c_99_k1,hK,e3]
set_option maxRecDepth 4000
def Rf (n:Nat) (a:AV):Prop:=avEq n a a=true
def RfL (n:Nat) (l:List AV):Prop:=∀a∈l,Rf n a
theorem G4 {Z:Type} {f:Z->Z->Bool}:∀{l:List Z},(∀a∈l,f a a=true)->eqL f l l=true
 | [],_=>rfl
 | a::l,h=>by
  simp only [eqL,cE];exact ⟨h a (by simp),G4 fun b hb=>h b (by simp [hb])⟩
theorem kD (n:Nat) (k:IntKind) (x:Int):Rf (n+1) (.int k x):=by simp [Rf,avEq]
theorem Nc (n:Nat) (x:Bool):Rf (n+1) (.bool x):=by simp [Rf,avEq]
theorem GF (n:Nat) (x:List UInt8):Rf (n+1) (.str x):=by simp [Rf,avEq]
theorem eA {Z:Type} {n z:Nat} {l:List Z} {f:Z->List AV} (h:∀x∈l,RfL n (f x)):Rf (n+1) (.slice z (l.map f)):=by
 simp only [Rf,avEq,cE];refine ⟨by simp,G4 fun x hx=>G4 fun a ha=>?_⟩;obtain ⟨y,hy,rfl⟩:=iO.1 hx;exact h y hy a ha
theorem Aa {Z:Type} {n z t:Nat} {l:List Z} {f:Z->List AV} (h:∀x∈l,RfL n (f x)):Rf (n+1) (.app z (l.map f) t):=by
 simp only [Rf,avEq,cE];refine ⟨by simp,G4 fun x hx=>G4 fun a ha=>?_⟩;obtain ⟨y,hy,rfl⟩:=iO.1 hx;exact h y hy a ha
theorem Ab (n z:Nat):Rf (n+1) (.Xt z []):=by simp [Rf,avEq,eqL]
theorem iV (n:Nat):RfL n []:=fun _ h=>by cases h
theorem b9 {n:Nat} {a:AV} {l:List AV} (h:Rf n a) (h2:RfL n l):RfL n (a::l):=fun b hb=>by
 rcases fV.1 hb with rfl | hb
 ·exact h
 ·exact h2 b hb
theorem GE (n:Nat) (x:Int):RfL (n+1) (c32 x):=b9 (kD ..) (iV _)
theorem rf_c8 (n:Nat) (x:Int):RfL (n+1) (c8 x):=b9 (kD ..) (iV _)
theorem P8 (n:Nat) (x:Int):RfL (n+1) (cI x):=b9 (kD ..) (iV _)
theorem rf_cB (n:Nat) (x:Bool):RfL (n+1) (cB x):=b9 (Nc ..) (iV _)
theorem P9 {Z:Type} {n z:Nat} {f:Z->List AV} (h:∀x,RfL n (f x)) (l:List Z):RfL (n+1) (cS z f l):=b9 (eA fun x _=>h x) (iV _)
theorem Fc (n:Nat) (x:Fld):RfL (n+1) (Fld.c x):=by
 simp only [Fld.c];exact b9 (GF ..) (b9 (kD ..) (iV _))
theorem Ac (n:Nat) (x:Xi):RfL (n+2) (Xi.c x):=by
 simp only [Xi.c];exact b9 (GF ..) (b9 (eA fun y _=>Fc n y) (iV _))
theorem Af (n:Nat) (x:Xg):RfL (n+1) (Xg.c x):=by
 simp only [Xg.c];exact b9 (GF ..) (b9 (kD ..) (b9 (kD ..) (iV _)))
theorem On (n:Nat) (x:Xd):RfL (n+1) (Xd.c x):=by
 simp only [Xd.c];exact b9 (kD ..) (b9 (kD ..) (b9 (kD ..) (iV _)))
theorem Ah (n:Nat) (x:Xf):RfL (n+2) (Xf.c x):=by
 rw [Xf.e]
 repeat first | exact iV _ | refine b9 (kD ..) ?_ | refine b9 (eA fun y _=>On n y) ?_
theorem Z' (n:Nat) (x:Action):RfL (n+3) (Action.c x):=by
 rw [Action.e];exact b9 (GF ..) (b9 (eA fun y _=>Fc (n+1) y) (b9 (eA fun y _=>Ah n y) (iV _)))
theorem Aj (n:Nat) (x:Xk):RfL (n+1) (Xk.c x):=by
 simp only [Xk.c,FieldRef.c,iU,rT]
 repeat first | exact iV _ | refine b9 (kD ..) ?_
theorem Ai (n:Nat) (x:Tbl):RfL (n+2) (Tbl.c x):=by
 simp only [Tbl.c,Xb.c,iU,rT]
 repeat first | exact iV _ | refine b9 (kD ..) ?_ | refine b9 (GF ..) ?_ | refine b9 (eA fun y _=>Aj n y) ?_ | refine b9 (eA fun y _=>P8 n y) ?_ | refine b9 (eA fun y _=>GE n y) ?_
theorem Ag (n:Nat) (x:Xj):RfL (n+1) (Xj.c x):=by
 simp only [Xj.c]
 repeat first | exact iV _ | refine b9 (kD ..) ?_
theorem Ae (n:Nat) (x:Xc):RfL (n+2) (Xc.c x):=by
 simp only [Xc.c]
 repeat first | exact iV _ | refine b9 (kD ..) ?_ | refine b9 (Nc ..) ?_ | refine b9 (GF ..) ?_ | refine b9 (eA fun y _=>Ag n y) ?_ | refine b9 (eA fun y _=>P8 n y) ?_
theorem Fb (n:Nat):∀(d:Nat) (l:List Xa),nest l<=d->∀x∈l,RfL (n+d+2) (Xa.c x)
 | 0,l,h,x,hx=>by
  have:=NC hx;omega
 | d+1,l,h,.mk k t c a b,hx=>by
  have h1:=NC hx;simp only [AG] at h1;rw [Xa.e];have e:n+(d+1)+2=(n+d+2)+1:=by omega
  have e2:n+(d+1)+2=(n+d+1)+1+1:=by omega
  refine b9 (kD ..) (b9 (kD ..) (b9 ?_ (b9 ?_ (b9 ?_ (iV _)))))
  ·rw [e2];exact eA fun y _=>On _ y
  ·rw [e];exact eA fun y hy=>Fb n d a (by omega) y hy
  ·rw [e];exact eA fun y hy=>Fb n d b (by omega) y hy
theorem rf_km (n:Nat) (x:Xh):RfL (n+1) (Xh.c x):=by
 simp only [Xh.c]
 repeat first | exact iV _ | refine b9 (kD ..) ?_
theorem rf_rw (n:Nat) (x:Rw):RfL (n+2) (Rw.c x):=by
 rw [Rw.ce]
 repeat first | exact iV _ | refine b9 (kD ..) ?_ | refine b9 (eA fun y _=>rf_km n y) ?_ | refine b9 (eA fun y _=>GE n y) ?_
theorem X9 (n:Nat) (x:Xb):RfL (n+2) (Xb.c x):=by
 simp only [Xb.c];exact b9 (kD ..) (b9 (eA fun y _=>GE n y) (iV _))
theorem Ad (n:Nat) (x:Hit):RfL (n+1) (Hit.c x):=by
 simp only [Hit.c]
 repeat first | exact iV _ | refine b9 (kD ..) ?_
theorem rf_mC {p:Prg} (c:Xe) (e:Envt) (rs:List (List Int)) {O:List (Nat×AO)} {h:List Hit} {hv:AV} (hh:HV O h hv) (hd:nest p.Ya<=30):RfL 40 (mC p c e rs hv):=by
 have hvr:Rf 40 hv:=by
  rcases hh with ⟨_,rfl⟩ | ⟨tk,rfl,_⟩
  ·exact Ab ..
  ·exact Aa fun y _=>Ad _ y
 simp only [mC];refine b9 (eA fun y _=>rf_cB _ y) (b9 (eA fun y _=>P9 (GE 37) y) (b9 (eA fun y _=>GE _ y) (b9 (eA fun y _=>rf_c8 _ y) (b9 (eA fun y _=>P9 (GE 37) y) (b9 hvr ?_)))));refine b9 (GF ..) (b9 (eA fun y _=>Ac _ y) (b9 (eA fun y _=>Fc _ y) (b9 (eA fun y _=>Af _ y) (b9 (eA fun y _=>Z' _ y) (b9 (eA fun y _=>Ai _ y) (b9 (eA fun y _=>Ae _ y) ?_))))));refine b9 (eA fun y hy=>Fb 7 30 p.Ya hd y hy) (b9 (eA fun y _=>P8 _ y) ?_);exact b9 (eA fun y _=>P9 (rf_rw 36) y) (b9 (eA fun y _=>P8 _ y) (b9 (eA fun y _=>X9 _ y) (b9 (eA fun y _=>P9 (GE 37) y) (iV _))))
theorem ao_mC {p:Prg} (c:Xe) (e:Envt) (rs:List (List Int)) {O:List (Nat×AO)} {h:List Hit} {hv:AV} (hh:HV O h hv) (hd:nest p.Ya<=30):aoEq (some (.row 19 [mC p c e rs hv])) (some (.row 19 [mC p c e rs hv]))=true:=by
 simp only [aoEq,cE];refine ⟨by simp,G4 fun x hx=>?_⟩;rw [List.mem_singleton] at hx;subst hx;exact G4 fun a ha=>rf_mC c e rs hh hd a ha
structure CtV (p:Prg):Prop where
 n:∀x∈pre p.Ya,NdV p x/\x.cond.length<2^40
 l:(pre p.Ya).length<2^30
 d:nest p.Ya<=30
def runR (y:Option (Rslt×List (List Int))):Rt:=match y with
 | none=> .val (.tup [.agg noR.c,.slice 1 [],.bool false])
 | some x=> .val (.tup [.agg x.1.c,.slice 1 (x.2.map (cS 1 c32)),.bool true])
theorem VP {p:Prg} (pk:PKp p) (cv:CtV p) {c:Xe} (cf:CF p c) (rv:RV p c.Xl) (k:Packet) (hb:bOk k.data):
  aB Φ FR [.agg p.c,.agg c.c,.agg k.c]=some (runR (runX p c k)):=by
 rw [aD rfl rfl];have hp:=SJ pk.fs pk.w pk.hd pk.pa hb;have hpn:∀z:prs p k.data=none,k.port<0\/255<k.port\/True:=fun _=> .inr (.inr trivial)
 rw [Prg.c] at hp;by_cases h0:k.port<0
 ·have hr:runX p c k=none:=by rw [runX,a8 (.inl h0)]
  rw [hr];cases q:prs p k.data with
  | none=>
   rw [q] at hp;obtain ⟨e,he,hp⟩:=hp;rw [Envt.ce] at hp;simp [nT,Prg.c,Xe.c,Packet.c,hp,h0,runR,noR,Rslt.c]
  | some e=>
   rw [q] at hp;simp only [ParP,Envt.ce] at hp;simp [nT,Prg.c,Xe.c,Packet.c,hp,h0,runR,noR,Rslt.c]
 by_cases h1:255<k.port
 ·have hr:runX p c k=none:=by rw [runX,a8 (.inr h1)]
  rw [hr];cases q:prs p k.data with
  | none=>
   rw [q] at hp;obtain ⟨e,he,hp⟩:=hp;rw [Envt.ce] at hp;simp [nT,Prg.c,Xe.c,Packet.c,hp,h0,h1,runR,noR,Rslt.c]
  | some e=>
   rw [q] at hp;simp only [ParP,Envt.ce] at hp;simp [nT,Prg.c,Xe.c,Packet.c,hp,h0,h1,runR,noR,Rslt.c]
 cases q:prs p k.data with
 | none=>
  have hr:runX p c k=none:=by rw [runX,QA (by omega),q]
  rw [hr];rw [q] at hp;obtain ⟨e,he,hp⟩:=hp;rw [Envt.ce] at hp;simp [nT,Prg.c,Xe.c,Packet.c,hp,he,h0,h1,runR,noR,Rslt.c]
 | some e=>
  have hr:runX p c k=some (resX p (ctX p c (nest p.Ya) p.Ya ⟨eSet p e (-1) 0 k.port,c.Xl,[]⟩),(ctX p c (nest p.Ya) p.Ya ⟨eSet p e (-1) 0 k.port,c.Xl,[]⟩).rs):=by
   rw [runX,QA (by omega),q]
  rw [hr];rw [q] at hp;simp only [ParP,Envt.ce] at hp;obtain ⟨ev,hdl,kk,hpay⟩:=Oi (fun g hg f hf=>(vhdr (pk.hd g hg)).w f hf) q;have hpl:e.payload.length<2^40:=by rw [hpay,HG];omega
  have xv0:XV p e c.Xl:=⟨ev,rv,hpl⟩;have hport:ok32 0 k.port:=⟨by omega,by omega⟩;have hset:=Fj p e (xv0.evs pk.w) (xv0.m0 pk.w) (-1) 0 k.port hport;have xv:XV p (eSet p e (-1) 0 k.port) c.Xl:=⟨ev.set _ _ _,rv,by rw [Ed];exact hpl⟩;have hwr:IntKind.wrap .u32 k.port=k.port:=EX (by omega) (by omega);rw [Prg.c] at hset;generalize eSet p e (-1) 0 k.port=e1 at*;simp only [Envt.ce] at hset;have m0:MM p c 3 [(0,AO.row 4 [[.bool false,a7 0,.Xt 1 [],.Xt 3 []]]),(3,.row 19 [mC p c e1 c.Xl (.Xt 3 [])])] ⟨e1,c.Xl,[]⟩ (.Xt 3 []):=⟨by simp,.inl ⟨rfl,rfl⟩⟩;obtain ⟨O2,N2,hv2,hwk,m2,f2,t2,r2,n2⟩:=PY pk cf p.Ya cv.n m0 xv (by have:=cv.l;simp;omega) (N:=4) (Tail_cons_iff.2 ⟨by omega,Tail_cons_iff.2 ⟨by omega,Tail.nil _⟩⟩) (cK (by simp) (.one (by simp)));have xs2:XS p (ctX p c (nest p.Ya) p.Ya ⟨e1,c.Xl,[]⟩):=XS.ct _ _ _ xv;rw [fA,fT,mC] at hwk;have l0:=f2 0 4 [[.bool false,a7 0,.Xt 1 [],.Xt 3 []]] (by decide) (by simp);generalize ctX p c (nest p.Ya) p.Ya ⟨e1,c.Xl,[]⟩=s2 at*;obtain ⟨L3,N3,v1,v2,v3,v4,hrs,t3,r3,n3,hsn⟩:=qzu (N:=N2+1) pk m2 xs2 (t2.mono (by omega)) r2;have hcr:=Ip s2.rs (xs2.r1 pk.w) (xs2.r2 pk.w);have l3:=(m2.app L3).l;have l03:look 0 (O2++L3)=_:=bK l0;have l32:=m2.l;have hs38:=fun O2 n2=>hsn O2 37 n2
  have ao:=ao_mC c s2.e s2.rs m2.h cv.d;rw [mC] at l3 l32 ao;simp [nT,Prg.c,Xe.c,Packet.c,hp,h0,h1,hwr,hset,hwk,hrs,l3,l32,l03,hcr,eL,r3.eq,r2.eq,r3.sw,aA,ao,hs38,runR,Rslt.c]
theorem Jz (c:Xb) (h:c.args.length<2^40):aB Φ zU [.agg (Xb.c c)]=some (.val (.agg (Xb.c c))):=by
 rw [aD rfl rfl];have hc:=Ev c.args h;simp [JB,Xb.c,hc]
structure CS (c:Xe):Prop where
 r:c.rows.length<2^40
 rr:∀l∈c.rows,l.length<2^39/\∀x∈l,x.entry.keys.length<2^40/\x.entry.call.args.length<2^40
 n:c.Xq.length<2^40
 d:c.Xp.length<2^40
 da:∀x∈c.Xp,x.args.length<2^40
 g:c.Xl.length<2^40
 gg:∀l∈c.Xl,l.length<2^40
def AL (O:List (Nat×AO)) (z:Nat) (A:AV) (es:List (List AV)):Prop:=(es=[]/\A= .Xt z [])\/∃tk,A= .app z es tk/\look tk O=some (.tok z es.length)
def FrT (O O':List (Nat×AO)):Prop:=∀j y,look j O=some y->look j O'=some y
theorem AL.fr {O O':List (Nat×AO)} {z:Nat} {A:AV} {es:List (List AV)} (h:AL O z A es) (f:FrT O O'):AL O' z A es:=by
 rcases h with h | ⟨tk,h1,h2⟩
 ·exact .inl h
 ·exact .inr ⟨tk,h1,f _ _ h2⟩
def zC:List AV:=[.Xt 1 [],.Xt 1 [],.Xt 2 [],.Xt 1 []]
theorem AL.lt {O:List (Nat×AO)} {N z:Nat} {A:AV} {es:List (List AV)} (h:AL O z A es) (f:∀k y,k<N->look k O=some y->k<N):True:=trivial
structure OLI (c:Xe) (i:Nat) (E:Env) (O:List (Nat×AO)) (N:Nat) (A:AV):Prop where
 e1:look 1 E=some (.iptr 4 [c.c] 0 0)
 e2:look 2 E=some (.ptr 0 4 0 0)
 e3:look 3 E=some (.ptr 1 4 0 0)
 e17:look 17 E=some (.slice 1 (c.rows.map (cS 5 Rw.c)))
 e18:look 18 E=some (a7 c.rows.length)
 e19:look 19 E=some (a7 i)
 l0:look 0 O=some (.row 4 [zC])
 l1:look 1 O=some (.row 4 [[A,.slice 1 (c.Xq.map cI),.Xt 2 [],.Xt 1 []]])
 a:AL O 1 A ((c.rows.take i).map (cS 5 Rw.c))
 T:Tail O N
structure ILI (l:List Rw) (j:Nat) (E0 E:Env) (O0 O:List (Nat×AO)) (N0 N:Nat):Prop where
 e:∀k,k=1\/k=2\/k=3\/k=17\/k=18\/k=19->look k E=look k E0
 e23:look 23 E=some (.slice 5 (l.map Rw.c))
 e24:look 24 E=some (a7 l.length)
 e25:look 25 E=some (a7 j)
 e6:look 6 E=some (.app 5 ((l.take j).map Rw.c) N0)
 lt:look N0 O=some (.tok 5 j)
 f:∀k y,k<N0->look k O0=some y->look k O=some y
 T:Tail O N
theorem RU {c:Xe} (s:CS c) {R:Option Rt} {E:Env} {O:List (Nat×AO)} {N:Nat} {A:AV} (h:OLI c 0 E O N A)
  (hend:∀E O N A,OLI c c.rows.length E O N A->go Φ (finP lT.results) [.c c_45_k6] .normal ⟨E,⟨O,N⟩⟩=R):
  go Φ (finP lT.results) [.c (.loop c_45_l3),.b 0,.c c_45_k6] .normal ⟨E,⟨O,N⟩⟩=R:=by
 refine eF c.rows.length (fun i E h=>∃O N A,h=⟨O,N⟩/\OLI c i E O N A) (fun r=>r=R) ?_ ?_ 0 _ _ (Qc _) ⟨_,_,_,rfl,h⟩
 ·rintro i E _ K hi hK ⟨O,N,A,rfl,h⟩ ih;obtain ⟨e1,e2,e3,e17,e18,e19,l0,l1,a,T⟩:=h;have hw1:IntKind.wrap .i64 ((i:Int)+1)=((i+1:Nat):Int):=cM (by omega) (by have:=s.r;omega);obtain ⟨hll,hlx⟩:=s.rr _ (Qd hi);have htk:c.rows.take (i+1)=c.rows.take i++[c.rows[i]]:=Qh hi;generalize hx:c.rows[i]=l at*;have t0:=T N (Qb _);simp [c_45_l3,cS,e17,e18,e19,hi,hx,t0];refine eF l.length (fun j E2 h=>∃O2 N2,h=⟨O2,N2⟩/\ILI l j E E2 O O2 N N2) (fun r=>r=R) ?_ ?_ 0 _ _ (Qc _) ?_
  rotate_left 2
  ·refine ⟨_,_,rfl,by rintro k (rfl | rfl | rfl | rfl | rfl | rfl)<;>simp,by simp,by simp,by simp,by simp,by rw [aE,t0];simp,fun k y _ h=>bK h,Tail_append_iff.2 ⟨T.mono (by omega),Tail_cons_iff.2 ⟨by omega,Tail.nil _⟩⟩⟩
  ·rintro j E2 _ K2 hj hK2 ⟨O2,N2,rfl,h⟩ ih2;obtain ⟨e,e23,e24,e25,e6,lt,f,T2⟩:=h;have hw2:=aP j (by omega);obtain ⟨hk1,hk2⟩:=hlx _ (Qd hj);have hck:=Nw l[j].entry.keys hk1;have hcc:=Jz l[j].entry.call hk2;have htk2:l.take (j+1)=l.take j++[l[j]]:=Qh hj;have hmin:min j l.length=j:=by omega
   have bd:(j+1)*72<=70368744177664:=by omega
   generalize hy:l[j]=y at*;have t2:=T2 N2 (Qb _);have tt2:∀k,look (N2+k) O2=none:=fun k=>T2 _ (by omega)
   have fN:=fun k=>dI (n:=N2+k) T2 lt (by omega)
   rw [Xb.c] at hcc;simp [c_45_l0,Rw.ce,Xb.c,e23,e24,e25,e6,hj,hy,hw2,t2,tt2,eC,hck,hcc,lt,hmin,bd,fN,aE,aA];refine ih2 _ _ ?_;refine ⟨_,_,rfl,fun k hk=>?_,by simp [e23],by simp [e24],by simp,by simp [htk2,Rw.ce],by rw [aA,a8 rfl,lt];rfl,fun k y hk hl=>?_,bW (T2.mono (by omega))⟩
   ·rw [<- e k hk];rcases hk with rfl | rfl | rfl | rfl | rfl | rfl<;>simp
   ·rw [aA,QA (by omega),f k y hk hl]
  ·rintro E2 _ K2 hK2 ⟨O2,N2,rfl,h⟩;obtain ⟨e,e23,e24,e25,e6,lt,f,T2⟩:=h;rw [kW] at e6;have g1:=(e 1 (by simp)).trans e1;have g2:=(e 2 (by simp)).trans e2;have g3:=(e 3 (by simp)).trans e3;have g17:=(e 17 (by simp)).trans e17;have g18:=(e 18 (by simp)).trans e18;have g19:=(e 19 (by simp)).trans e19;have k0:=f 0 _ (T.lt l0) l0;have k1:=f 1 _ (T.lt l1) l1;have t2:=T2 N2 (Qb _);have tt2:∀k,look (N2+k) O2=none:=fun k=>T2 _ (by omega)
   have bd:(i+1)*24<=70368744177664:=by have:=s.r;omega
   have fz:mapO (mapO (snap 39 ⟨O2,N2⟩)) (l.map Rw.c)=some (l.map Rw.c):=nU (g:=Rw.c) (fun x=>by simp [Rw.ce,mapO]) l;have fN0:=fun k=>dI (n:=N2+k) T2 k0 (by omega)
   have fN1:=fun k=>dI (n:=N2+k) T2 k1 (by omega)
   have hmin:min i c.rows.length=i:=by omega
   have next:∀{E3:Env} {O3:List (Nat×AO)} {N3:Nat} {A3:AV},(∀k,k=1\/k=2\/k=3\/k=17\/k=18->look k E3=look k E2)->look 19 E3=some (a7 (i+1:Nat))->look 0 O3=some (.row 4 [zC])->look 1 O3=some (.row 4 [[A3,.slice 1 (c.Xq.map cI),.Xt 2 [],.Xt 1 []]])->AL O3 1 A3 ((c.rows.take (i+1)).map (cS 5 Rw.c))->Tail O3 N3->go Φ (finP lT.results) K .normal ⟨E3,⟨O3,N3⟩⟩=R:=fun {E3 O3 N3 A3} hE h19 h0 h1 ha hT=>
    ih _ _ ⟨O3,N3,A3,rfl,by rw [hE 1 (by simp),g1],by rw [hE 2 (by simp),g2],by rw [hE 3 (by simp),g3],by rw [hE 17 (by simp),g17],by rw [hE 18 (by simp),g18],h19,h0,h1,ha,hT⟩
   simp [c_45_l0,e24,e25] at hK2 ⊢;rw [hK2];rcases a with ⟨ha,rfl⟩ | ⟨tk,rfl,la⟩
   ·simp [c_45_k1,c_45_k2,g3,g19,e6,k1,aE,aA,t2,tt2,fN0,fN1,hw1,fz];have hi0:c.rows.take i=[]:=by simpa using ha
    refine next (A3:= .app 1 [[.slice 5 (l.map Rw.c)]] N2) (by rintro k (rfl | rfl | rfl | rfl | rfl)<;>simp) (by simp) ?_ ?_ ?_ (bW (Tail_append_iff.2 ⟨T2.mono (by omega),Tail_cons_iff.2 ⟨by omega,Tail.nil _⟩⟩))
    ·rw [aA,QA (by decide)];exact bK k0
    ·rw [aA,a8 rfl,bK k1];rfl
    ·right;have fn1:=dI (n:=N2) T2 k1 (Qb _);refine ⟨N2,by rw [htk,hi0];simp [cS],?_⟩;rw [aA,QA fn1.2,aE,t2,htk,hi0];simp
   ·have la2:=f tk _ (T.lt la) la;have ft:=fun k=>dI (n:=N2+k) T2 la2 (by omega)
    have tk1:¬1=tk/\¬tk=1:=by
     have:=bO k1 la2 (by simp);exact ⟨this,fun e=>this e.symm⟩
    have tk0:¬0=tk:=bO k0 la2 (by simp);rw [n9,yD,hmin] at la2;simp [c_45_k1,c_45_k2,g3,g19,e6,k1,la2,aE,aA,t2,tt2,fN0,fN1,ft,hw1,fz,hmin,bd,tk1];refine next (A3:= .app 1 ((c.rows.map (cS 5 Rw.c)).take i++[[.slice 5 (l.map Rw.c)]]) tk) (by rintro k (rfl | rfl | rfl | rfl | rfl)<;>simp) (by simp) ?_ ?_ ?_ (bW (bW T2))
    ·rw [aA,QA (by decide),aA,QA tk0,k0]
    ·rw [aA,a8 rfl,aA,QA tk1.1,k1];rfl
    ·right;refine ⟨tk,by rw [htk];simp [cS],?_⟩;rw [aA,QA tk1.2,aA,a8 rfl,la2,htk];simp [hmin]
 ·rintro E _ K hK ⟨O,N,A,rfl,h⟩;have h0:=h;obtain ⟨e1,e2,e3,e17,e18,e19,l0,l1,a,T⟩:=h;simp [c_45_l3,e18,e19] at hK ⊢;rw [hK];simp;refine hend _ O N A ⟨by simp [e1],by simp [e2],by simp [e3],by simp [e17],by simp [e18],by simp [e19],l0,l1,a,T⟩
structure ODI (c:Xe) (i:Nat) (E:Env) (O:List (Nat×AO)) (N:Nat) (A B:AV):Prop where
 e1:look 1 E=some (.iptr 4 [c.c] 0 0)
 e2:look 2 E=some (.ptr 0 4 0 0)
 e3:look 3 E=some (.ptr 1 4 0 0)
 e55:look 55 E=some (.slice 2 (c.Xp.map Xb.c))
 e56:look 56 E=some (a7 c.Xp.length)
 e57:look 57 E=some (a7 i)
 l0:look 0 O=some (.row 4 [zC])
 l1:look 1 O=some (.row 4 [[A,.slice 1 (c.Xq.map cI),B,.Xt 1 []]])
 a:A= .Xt 1 []/\c.rows=[]\/∃tk,A= .app 1 (c.rows.map (cS 5 Rw.c)) tk
 b:AL O 2 B ((c.Xp.take i).map Xb.c)
 T:Tail O N
theorem UO {c:Xe} (s:CS c) {E:Env} {O:List (Nat×AO)} {N:Nat} {A:AV} (h:OLI c c.rows.length E O N A):
  go Φ (finP lT.results) [.c c_45_k6] .normal ⟨E,⟨O,N⟩⟩=some (.val (.agg c.c)):=by
 obtain ⟨e1,e2,e3,e17,e18,e19,l0,l1,a,T⟩:=h;rw [kW] at a;rw [Xe.c] at e1;simp [c_45_k6,e1];refine eF c.Xp.length (fun i E h=>∃O N B,h=⟨O,N⟩/\ODI c i E O N A B) (fun (r:Option Rt)=>r=some (.val (.agg c.c))) ?_ ?_ 0 _ _ (Qc _) ?_
 rotate_left 2
 ·refine ⟨O,N,.Xt 2 [],rfl,by simp [e1,Xe.c],by simp [e2],by simp [e3],by simp,by simp,by simp,l0,l1,?_,.inl ⟨by simp,rfl⟩,T⟩;rcases a with ⟨h,rfl⟩ | ⟨tk,rfl,_⟩
  ·exact .inl ⟨rfl,by simpa using h⟩
  ·exact .inr ⟨tk,rfl⟩
 ·rintro i E _ K hi hK ⟨O,N,B,rfl,h⟩ ih;obtain ⟨e1,e2,e3,e55,e56,e57,l0,l1,a,b,T⟩:=h;have hw1:IntKind.wrap .i64 ((i:Int)+1)=((i+1:Nat):Int):=cM (by omega) (by have:=s.d;omega);have hcc:=Jz c.Xp[i] (s.da _ (Qd hi));have htk:c.Xp.take (i+1)=c.Xp.take i++[c.Xp[i]]:=Qh hi;generalize hx:c.Xp[i]=x at*;have t0:=T N (Qb _);have tt:∀k,look (N+k) O=none:=fun k=>T _ (by omega)
  have f1:=fun k=>dI (n:=N+k) T l1 (by omega)
  have hmin:min i c.Xp.length=i:=by omega
  have bd:(i+1)*32<=70368744177664:=by have:=s.d;omega
  have next:∀{E3:Env} {O3:List (Nat×AO)} {N3:Nat} (B3:AV),(∀k,k=1\/k=2\/k=3\/k=55\/k=56->look k E3=look k E)->look 57 E3=some (a7 (i+1:Nat))->look 0 O3=some (.row 4 [zC])->look 1 O3=some (.row 4 [[A,.slice 1 (c.Xq.map cI),B3,.Xt 1 []]])->AL O3 2 B3 ((c.Xp.take (i+1)).map Xb.c)->Tail O3 N3->go Φ (finP lT.results) K .normal ⟨E3,⟨O3,N3⟩⟩=some (.val (.agg c.c)):=fun {E3 O3 N3} B3 hE h19 h0 h1 ha hT=>
   ih _ _ ⟨O3,N3,B3,rfl,by rw [hE 1 (by simp),e1],by rw [hE 2 (by simp),e2],by rw [hE 3 (by simp),e3],by rw [hE 55 (by simp),e55],by rw [hE 56 (by simp),e56],h19,h0,h1,a,ha,hT⟩
  rw [Xb.c] at hcc;rcases b with ⟨hb,rfl⟩ | ⟨tk,rfl,lb⟩
  ·have hi0:c.Xp.take i=[]:=by simpa using hb
   simp [c_45_l4,Xb.c,e3,e55,e56,e57,hi,hx,hw1,t0,tt,eC,hcc,l1,aE,aA,f1];have lt2:N+1<N+2:=by omega
   refine next (.app 2 [[a7 x.Xy,.slice 1 (x.args.map c32)]] (N+1)) (by rintro k (rfl | rfl | rfl | rfl | rfl)<;>simp) (by simp) ?_ ?_ ?_ (bW (Tail_append_iff.2 ⟨T.mono (by omega),Tail_cons_iff.2 ⟨lt2,Tail.nil _⟩⟩))
   ·rw [aA,QA (by decide)];exact bK l0
   ·rw [aA,a8 rfl,bK l1];rfl
   ·right;refine ⟨N+1,by rw [htk,hi0];simp [Xb.c],?_⟩;rw [aA,QA (f1 1).2,aE,tt,htk,hi0];simp
  ·have tk1:¬1=tk/\¬tk=1:=by
    have:=bO l1 lb (by simp);exact ⟨this,fun e=>this e.symm⟩
   have tk0:¬0=tk:=bO l0 lb (by simp);have ft:=fun k=>dI (n:=N+k) T lb (by omega)
   rw [n9,yD,hmin] at lb;simp [c_45_l4,Xb.c,e3,e55,e56,e57,hi,hx,hw1,t0,tt,eC,hcc,l1,lb,aE,aA,f1,ft,hmin,bd,tk1];refine next (.app 2 ((c.Xp.map Xb.c).take i++[[a7 x.Xy,.slice 1 (x.args.map c32)]]) tk) (by rintro k (rfl | rfl | rfl | rfl | rfl)<;>simp) (by simp) ?_ ?_ ?_ (bW (bW (T.mono (by omega))))
   ·rw [aA,QA (by decide),aA,QA tk0,l0]
   ·rw [aA,a8 rfl,aA,QA tk1.1,l1];rfl
   ·right;refine ⟨tk,by rw [htk];simp [Xb.c],?_⟩;rw [aA,QA tk1.2,aA,a8 rfl,lb,htk];simp [hmin]
 ·rintro E _ K hK ⟨O,N,B,rfl,h⟩;obtain ⟨e1,e2,e3,e55,e56,e57,l0,l1,a,b,T⟩:=h;rw [kW] at b;have hcr:=Ip c.Xl s.g s.gg;rw [Xe.c] at e1;rw [zC] at l0;simp [lT,c_45_l4,e56,e57] at hK ⊢;rw [hK];rcases a with ⟨rfl,ha⟩ | ⟨ta,rfl⟩<;>rcases b with ⟨hb,rfl⟩ | ⟨tb,rfl,_⟩
  ·simp at hb;simp [c_45_k5,e1,e2,e3,hcr,l0,l1,aA,Xe.c,ha,hb]
  ·simp [c_45_k5,e1,e2,e3,hcr,l0,l1,aA,Xe.c,ha]
  ·simp at hb;simp [c_45_k5,e1,e2,e3,hcr,l0,l1,aA,Xe.c,hb]
  ·simp [c_45_k5,e1,e2,e3,hcr,l0,l1,aA,Xe.c]
theorem RW (c:Xe) (s:CS c):aB Φ zP [.agg c.c]=some (.val (.agg c.c)):=by
 rw [aD rfl rfl];have hi:=YN c.Xq s.n;have hR:some (Rt.val (.agg c.c))=some (Rt.val (.agg (Xe.c c))):=rfl;generalize hQ:some (Rt.val (.agg c.c))=Q;simp [lT,Xe.c,hi];rw [<- hQ];refine RU s (A:= .Xt 1 []) ?_ fun E O N A h=>UO s h
 exact ⟨by simp [Xe.c],by simp,by simp,by simp,by simp,by simp,by simp [zC],by simp,.inl ⟨by simp,rfl⟩,Tail_cons_iff.2 ⟨by omega,Tail_cons_iff.2 ⟨by omega,Tail.nil _⟩⟩⟩
def ra (b:Bool) (p:Prg) (c:Xe) (l:List Packet):List Rslt×Xe:=if b then runL p c l else (l.map fun _=>noR,c)
structure RAI (p:Prg) (b:Bool) (l:List Packet) (R:List Rslt×Xe) (d tk i:Nat) (E:Env) (O:List (Nat×AO)) (N:Nat) (outs:List Rslt) (c:Xe):Prop where
 e3:look 3 E=some (.iptr 9 [p.c] 0 0)
 e7:look 7 E=some (.ptr 0 4 0 0)
 e8:look 8 E=some (.ptr d 4 0 0)
 e9:look 9 E=some (.bool b)
 e10:look 10 E=some (.app 4 (outs.map Rslt.c) tk)
 e23:look 23 E=some (.slice 2 (l.map Packet.c))
 e24:look 24 E=some (a7 l.length)
 e25:look 25 E=some (a7 i)
 l0:look 0 O=some (.row 4 [zC])
 ld:look d O=some (.row 4 [c.c])
 lt:look tk O=some (.tok 4 outs.length)
 T:Tail O N
 n:outs.length=i
 hR:R=(outs++(ra b p c (l.drop i)).1,(ra b p c (l.drop i)).2)
 v:b=true->CF p c/\RV p c.Xl
theorem Nf {p:Prg} (pk:PKp p) {c:Xe} (rv:RV p c.Xl) {k:Packet} {r:Rslt} {rs:List (List Int)} (h:runX p c k=some (r,rs)):RV p rs:=by
 unfold runX at h;split at h
 ·cases h
 split at h
 ·cases h
 ·rename_i e q;cases h;obtain ⟨ev,_⟩:=Oi (fun g hg f hf=>(vhdr (pk.hd g hg)).w f hf) q;exact (SV'.ct (p:=p) (c:=c) (nest p.Ya) p.Ya ⟨eSet p e (-1) 0 k.port,c.Xl,[]⟩ ⟨ev.set _ _ _,rv⟩).r
theorem VJ {p:Prg} {b:Bool} (hb:b=true->PKp p/\CtV p) {l:List Packet} (hl:l.length<2^30) (hk:∀k∈l,bOk k.data) {R:List Rslt×Xe} {d tk:Nat} {E:Env} {O:List (Nat×AO)} {N:Nat} {outs:List Rslt} {c:Xe} (h:RAI p b l R d tk 0 E O N outs c):
  go Φ (finP sO.results) [.c (.loop c_18_l0),.b 0,.c c_18_k1] .normal ⟨E,⟨O,N⟩⟩=some (.val (.tup [.slice 4 (R.1.map Rslt.c),.agg R.2.c])):=by
 refine eF l.length (fun i E h=>∃O N outs c,h=⟨O,N⟩/\RAI p b l R d tk i E O N outs c) (fun (r:Option Rt)=>r=some (.val (.tup [.slice 4 (R.1.map Rslt.c),.agg R.2.c]))) ?_ ?_ 0 _ _ (Qc _) ⟨_,_,_,_,rfl,h⟩
 ·rintro i E _ K hi hK ⟨O,N,outs,c,rfl,h⟩ ih;obtain ⟨e3,e7,e8,e9,e10,e23,e24,e25,l0,ld,lt,T,n,hR,v⟩:=h;have hw1:=aP i (by omega);have hbk:=hk _ (Qd hi);rw [Qi hi] at hR;generalize hx:l[i]=k at*;have t0:=T N (Qb _);have tt:∀k,look (N+k) O=none:=fun k=>T _ (by omega)
  have fd:=fun k=>dI (n:=N+k) T ld (by omega)
  have fd0:=dI (n:=N) T ld (Qb _);have ft:=fun k=>dI (n:=N+k) T lt (by omega)
  have ft0:=dI (n:=N) T lt (Qb _);have dt:¬d=tk/\¬tk=d:=by
   have:=bO ld lt (by simp);exact ⟨this,fun e=>this e.symm⟩
  have bd:(outs.length+1)*64<=70368744177664:=by omega
  have ztk:¬0=tk:=bO l0 lt (by simp);have fin:∀{E2:Env} {O2:List (Nat×AO)} {N2:Nat} (r:Rslt) (c':Xe),(∀j,j=3\/j=7\/j=8\/j=9\/j=23\/j=24->look j E2=look j E)->look 10 E2=some (.app 4 (outs.map Rslt.c++[r.c]) tk)->look 25 E2=some (a7 (i+1:Nat))->look 0 O2=some (.row 4 [zC])->look d O2=some (.row 4 [c'.c])->look tk O2=some (.tok 4 (outs.length+1))->Tail O2 N2->
    ra b p c (k::l.drop (i+1))=(r::(ra b p c' (l.drop (i+1))).1,(ra b p c' (l.drop (i+1))).2)->(b=true->CF p c'/\RV p c'.Xl)->go Φ (finP sO.results) K .normal ⟨E2,⟨O2,N2⟩⟩=some (.val (.tup [.slice 4 (R.1.map Rslt.c),.agg R.2.c])):=fun {E2 O2 N2} r c' hE h10 h25 h0 h8 ht hT hr hv=>
   ih _ _ ⟨O2,N2,outs++[r],c',rfl,by rw [hE 3 (by simp),e3],by rw [hE 7 (by simp),e7],by rw [hE 8 (by simp),e8],by rw [hE 9 (by simp),e9],by rw [h10];simp,by rw [hE 23 (by simp),e23],by rw [hE 24 (by simp),e24],h25,h0,h8,by rw [ht];simp,hT,by simp [n],by rw [hR,hr];simp,hv⟩
  have TA:∀(M:Nat) (x y:AO) (k:Nat),k<M->Tail (setl tk y (O++[(N+k,x)])) (N+M):=fun M x y k h=>bW (Tail_append_iff.2 ⟨T.mono (by omega),Tail_cons_iff.2 ⟨by omega,Tail.nil _⟩⟩)
  have ldd:=ld;have hE6:∀{E2:Env},look 3 E2=look 3 E->look 7 E2=look 7 E->look 8 E2=look 8 E->look 9 E2=look 9 E->look 23 E2=look 23 E->look 24 E2=look 24 E->∀j,j=3\/j=7\/j=8\/j=9\/j=23\/j=24->look j E2=look j E:=fun {E2} a1 a2 a3 a4 a5 a6 j hj=>by
   rcases hj with rfl | rfl | rfl | rfl | rfl | rfl<;>assumption
  cases b with
  | false=>
   simp [c_18_l0,Packet.c,e3,e8,e9,e10,e23,e24,e25,hi,hx,hw1,t0,tt,eC,aE,aA,lt,bd,ft,ft0];refine fin noR c (hE6 (by simp) (by simp) (by simp) (by simp) (by simp) (by simp)) (by simp [noR,Rslt.c]) (by simp) ?_ ?_ ?_ (TA 2 _ _ 1 (by decide)) (by simp [ra]) (by simp)
   ·rw [aA,QA ztk];exact bK l0
   ·rw [aA,QA dt.1];exact bK ldd
   ·rw [aA,a8 rfl,bK lt];rfl
  | true=>
   obtain ⟨pk,cv⟩:=hb rfl;obtain ⟨cf,rv⟩:=v rfl;have hrun:=VP pk cv cf rv k hbk;rw [Prg.c] at hrun e3;simp only [Xe.c] at hrun ld;rw [Packet.c] at hrun;cases q:runX p c k with
   | none=>
    rw [q] at hrun;simp only [runR,noR,Rslt.c,yF] at hrun;simp [c_18_l0,Packet.c,e3,e8,e9,e10,e23,e24,e25,hi,hx,hw1,t0,tt,eC,aE,aA,lt,ld,bd,ft,ft0,fd,fd0,dt,hrun];refine fin noR c (hE6 (by simp) (by simp) (by simp) (by simp) (by simp) (by simp)) (by simp [noR,Rslt.c]) (by simp) ?_ ?_ ?_ (TA 3 _ _ 1 (by decide)) (by simp [ra,runL,q]) (fun _=>⟨cf,rv⟩)
    ·rw [aA,QA ztk];exact bK l0
    ·rw [aA,QA dt.1];exact bK ldd
    ·rw [aA,a8 rfl,bK lt];rfl
   | some y=>
    obtain ⟨r,rs⟩:=y;rw [q] at hrun;simp only [runR,Rslt.c] at hrun;simp [c_18_l0,Packet.c,e3,e8,e9,e10,e23,e24,e25,hi,hx,hw1,t0,tt,eC,aE,aA,lt,ld,bd,ft,ft0,fd,fd0,dt,hrun];have hd0:¬0=d:=fun h=>by
     subst h;rw [ldd] at l0;simp [zC,Xe.c] at l0
    refine fin r { c with Xl:=rs } (hE6 (by simp) (by simp) (by simp) (by simp) (by simp) (by simp)) (by simp [Rslt.c]) (by simp) ?_ ?_ ?_ ?_ (by simp [ra,runL,q]) (fun _=>⟨⟨cf.rl,cf.dl,cf.rs,cf.dc⟩,Nf pk rv q⟩)
    ·rw [aA,QA ztk,aA,QA hd0];exact bK l0
    ·rw [aA,QA dt.1,aA,a8 rfl,bK ldd];rfl
    ·rw [aA,a8 rfl,aA,QA dt.2,bK lt];rfl
    ·exact bW (bW (Tail_append_iff.2 ⟨T.mono (by omega),Tail_cons_iff.2 ⟨Nat.add_lt_add_left (by decide) _,Tail.nil _⟩⟩))
 ·rintro E _ K hK ⟨O,N,outs,c,rfl,h⟩;obtain ⟨e3,e7,e8,e9,e10,e23,e24,e25,l0,ld,lt,T,n,hR,v⟩:=h;have hR2:R=(outs,c):=by
   rw [hR,B8];cases b<;>simp [ra,runL]
  rw [hR2];have d0:¬d=0/\¬0=d:=by
   have:¬d=0:=fun h=>by
    subst h;rw [ld] at l0;simp [zC,Xe.c] at l0
   exact ⟨this,fun e=>this e.symm⟩
  rw [zC] at l0;simp only [Xe.c] at ld;simp [sO,c_18_l0,e24,e25] at hK ⊢;rw [hK];simp [c_18_k1,e7,e8,e10,l0,ld,aA,Xe.c,d0,eL]
theorem Dh {p:Prg} (fs:PrgS p) (hc:(pre p.Ya).length<2^40 - 1) {c:Xe} (ct:CfgT c) (cs:CS c) (hv:cfgE p c=0->(PKp p/\CtV p)/\CF p c/\RV p c.Xl) {l:List Packet} (hl:l.length<2^30) (hk:∀k∈l,bOk k.data):
  aB Φ r6 [.agg p.c,.agg c.c,.slice 2 (l.map Packet.c)]=some (.val (.tup [.slice 4 ((ra (decide (cfgE p c=0)) p c l).1.map Rslt.c),.agg (ra (decide (cfgE p c=0)) p c l).2.c])):=by
 rw [aD rfl rfl];have h1:=RW c cs;have h2:=UT p fs hc c ct;generalize hR:ra (decide (cfgE p c=0)) p c l=R;rw [Prg.c] at h2;simp only [Xe.c] at h1 h2;generalize hQ:some (Rt.val (.tup [.slice 4 (R.1.map Rslt.c),.agg R.2.c]))=Q;simp [sO,Prg.c,Xe.c,h1,h2];rw [<- hQ];refine VJ (b:=decide (cfgE p c=0)) (fun h=>(hv (of_decide_eq_true h)).1) hl hk (R:=R) (d:=1) (tk:=2) (outs:=[]) (c:=c) ?_;refine ⟨by simp [Prg.c],by simp,by simp,by simp,by simp,by simp,by simp,by simp,by simp [zC],by simp [Xe.c],by simp,?_,rfl,by simp [<- hR],fun h=>(hv (of_decide_eq_true h)).2⟩;simp only [Tail_cons_iff];exact ⟨by decide,by decide,by decide,Tail.nil _⟩
end Go.Av
