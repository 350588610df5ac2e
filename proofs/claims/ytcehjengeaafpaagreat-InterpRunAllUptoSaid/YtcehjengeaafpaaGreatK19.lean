/-
 The control flow and the whole check of a program: the program's answers.
-/
import Derived.Test.YtcehjengeaafpaaGreatK10
set_option linter.all false
namespace Go.Av
set_option maxRecDepth 4000
def usOf (l:List Xa):List Int:=(l.filter appl).map (·.table)
theorem qxa (t:Int) (l:List Xa):(usOf l).contains t=l.any (fun y=>appl y&&decide (y.table=t)):=by
 unfold usOf;rw [MK,List.any_filter]
theorem wj (p:Prg) (l:List Xa) (x:Xa):nJ p l x=sH p (usOf l) x:=by
 unfold nJ sH;rw [qxa]
def ctlG (p:Prg) (l:List Xa) (i:Nat):Option (Int×Int):=(l[i]?).bind fun x=>if nJ p (l.take i) x=0 then none else some ((i:Int),nJ p (l.take i) x)
theorem wk_fe (p:Prg) (l:List Xa):∀n i,n+i=l.length->((wk p ⟨0,i,usOf (l.take i)⟩ (l.drop i)).e=0/\fe (ctlG p l) l.length i=none)\/
  ((wk p ⟨0,i,usOf (l.take i)⟩ (l.drop i)).e≠0/\fe (ctlG p l) l.length i=some ((wk p ⟨0,i,usOf (l.take i)⟩ (l.drop i)).n,(wk p ⟨0,i,usOf (l.take i)⟩ (l.drop i)).e))
 | 0,i,h=>by
  have:i=l.length:=by omega
  subst this;simp [wk,d6]
 | n+1,i,h=>by
  have hi:i<l.length:=by omega
  rw [Qi hi];show ((wk p (wk1 p ⟨0,i,usOf (l.take i)⟩ l[i]) (l.drop (i+1))).e=0/\_)\/((wk p (wk1 p ⟨0,i,usOf (l.take i)⟩ l[i]) (l.drop (i+1))).e≠0/\fe (ctlG p l) l.length i=some ((wk p (wk1 p ⟨0,i,usOf (l.take i)⟩ l[i]) (l.drop (i+1))).n,(wk p (wk1 p ⟨0,i,usOf (l.take i)⟩ l[i]) (l.drop (i+1))).e));by_cases z:sH p (usOf (l.take i)) l[i]=0
  ·have e1:wk1 p ⟨0,i,usOf (l.take i)⟩ l[i]=⟨0,((i+1:Nat):Int),usOf (l.take (i+1))⟩:=by
    have hu:usOf (l.take (i+1))=if appl l[i] then usOf (l.take i)++[l[i].table] else usOf (l.take i):=by
     rw [Qh hi];unfold usOf;rw [List.filter_append,yZ];cases q:appl l[i]<;>simp [q]
    rw [hu];simp [wk1,z]
   rw [e1,bP hi (by simp [ctlG,hi,wj,z])];exact wk_fe p l n (i+1) (by omega)
  ·have e1:wk1 p ⟨0,i,usOf (l.take i)⟩ l[i]=⟨sH p (usOf (l.take i)) l[i],i,usOf (l.take i)⟩:=by simp [wk1,z]
   rw [e1,JU p _ z];refine .inr ⟨z,?_⟩;rw [aJ hi (by simp only [ctlG,Qa hi,dI,wj];rw [QA z])]
theorem Jv (p:Prg) (hl:(pre p.Ya).length<2^40 - 1):a8 Φ 222 [.agg (Prg.c p)]=some (.val (.tup [a7 (ctlE p).1,a7 (ctlE p).2])):=by
 rw [aB rfl rfl];have hc:=Dp p.Ya (by omega);have hn:=iz _ p.Ya (Qb _) (by omega);by_cases z1:24<(pre p.Ya).length
 ·simp [qR,Prg.e,hc,ctlE,z1]
 by_cases z2:6<nest p.Ya
 ·simp [qR,Prg.e,hc,hn,ctlE,z1,z2]
 have hE:ctlE p=(fe (ctlG p (pre p.Ya)) (pre p.Ya).length 0).getD (0,0):=by unfold ctlE;rw [QA z1,QA z2];rfl
 obtain ⟨m',H',hm',hH',hp⟩:=jt p _ p.Ya ⟨0,0,[]⟩ 3 ⟨[(0,.row 1 [[a7 0]]),(1,.row 1 [[a7 0]]),(2,.row 1 [[.Xt 1 []]])],3⟩ ⟨by omega,.inl ⟨rfl,rfl⟩⟩ rfl (Qb _) (by simp) (by simp;omega) (by simp;omega);have hf:=wk_fe p (pre p.Ya) (pre p.Ya).length 0 (by omega);simp only [OK,List.drop_zero,show usOf []=[] from rfl,Int.ofNat_zero] at hf;generalize hW:wk p ⟨0,0,[]⟩ (pre p.Ya)=W at*;simp only [chkF,Prg.e] at hp;rw [hE];rcases hf with ⟨y,hf⟩ | ⟨y,hf⟩
 ·rw [hf];obtain ⟨h3,⟨hus,rfl⟩ | ⟨q,hq,hqm,rfl⟩⟩:=hH'
  ·simp [y] at hp;simp [qR,Prg.e,hc,hn,z1,z2,hp]
  ·simp [y] at hp;simp [qR,Prg.e,hc,hn,z1,z2,hp]
 ·rw [hf];obtain ⟨h3,⟨hus,rfl⟩ | ⟨q,hq,hqm,rfl⟩⟩:=hH'
  ·simp [y] at hp;simp [qR,Prg.e,hc,hn,z1,z2,hp,y]
  ·simp [y] at hp;simp [qR,Prg.e,hc,hn,z1,z2,hp,y]
def metG (p:Prg) (i:Nat):Option Dg:=(p.Xn[i]?).bind fun f=>if fldE p.Xn i f=0 then none else some (fldE p.Xn i f,(2:Int),(i:Int),(0:Int))
def metH (p:Prg) (i:Nat):Option Dg:=if p.Xn[i]? =some (sJ i) then none else some (5,2,(i:Int),0)
theorem iw (p:Prg):metD p=if 12<p.Xn.length then some (12,2,0,0) else (fe (metG p) p.Xn.length 0).or (fe (metH p) 3 0):=by
 unfold metD;show (if _ then _ else (match fe (metG p) p.Xn.length 0 with | some d=>some d | none=>fe (metH p) 3 0))=_;cases fe (metG p) p.Xn.length 0<;>rfl
theorem Fld.eq_iff (a b:Fld):a=b↔a.name=b.name/\a.Yc=b.Yc:=Fld.ext_iff
theorem Lc (p:Prg) (e:Env) (n:Nat) (h1:look 1 e=some (.iptr 9 [Prg.c p] 0 0)):go Φ (finP []) [.c pJ] .normal ⟨e,⟨[],n⟩⟩=some (rtD (fe (metH p) 3 0)):=by
 rw [Prg.e] at h1;simp [pJ];rw [aT];by_cases l0:p.Xn.length<=0
 ·rw [aJ (x:=(5,2,0,0)) (by omega) (by unfold metH;rw [Qk l0];rfl)];have hnil:p.Xn=[]:=Qg (by omega);simp [fU,h1,hnil,iT,j6,rtD]
 have k0:0<p.Xn.length:=by omega
 have hne:¬p.Xn=[]:=by intro h;rw [h] at k0;simp at k0
 by_cases a0:p.Xn[0].name=[105,110]
 rotate_left
 ·rw [aJ (x:=(5,2,0,0)) (by omega) (by unfold metH;rw [Qa k0,QA (by simp [sJ,Fld.eq_iff,a0])];rfl)];simp [fU,Fld.e,h1,hne,k0,a0,iT,j6,rtD]
 by_cases b0:p.Xn[0].Yc=8
 rotate_left
 ·rw [aJ (x:=(5,2,0,0)) (by omega) (by unfold metH;rw [Qa k0,QA (by simp [sJ,Fld.eq_iff,b0])];rfl)];simp [fU,Fld.e,h1,hne,k0,a0,b0,iT,j6,rtD]
 rw [bP (by omega) (by unfold metH;rw [Qa k0,a9 (by simp [sJ,Fld.eq_iff,a0,b0])])];simp [fU,Fld.e,h1,hne,k0,a0,b0,iT,oT,wr1];rw [aT];by_cases l1:p.Xn.length<=1
 ·rw [aJ (x:=(5,2,1,0)) (by omega) (by unfold metH;rw [Qk l1];rfl)];simp [h1,l1,iT,j6,rtD]
 have k1:1<p.Xn.length:=by omega
 by_cases a1:p.Xn[1].name=[111,117,116]
 rotate_left
 ·rw [aJ (x:=(5,2,1,0)) (by omega) (by unfold metH;rw [Qa k1,QA (by simp [sJ,Fld.eq_iff,a1])];rfl)];simp [Fld.e,h1,l1,k1,a1,iT,j6,rtD]
 by_cases b1:p.Xn[1].Yc=8
 rotate_left
 ·rw [aJ (x:=(5,2,1,0)) (by omega) (by unfold metH;rw [Qa k1,QA (by simp [sJ,Fld.eq_iff,b1])];rfl)];simp [Fld.e,h1,l1,k1,a1,b1,iT,j6,rtD]
 rw [bP (by omega) (by unfold metH;rw [Qa k1,a9 (by simp [sJ,Fld.eq_iff,a1,b1])])];simp [Fld.e,h1,l1,k1,a1,b1,iT,oT,wr2];rw [aT];by_cases l2:p.Xn.length<=2
 ·rw [aJ (x:=(5,2,2,0)) (by omega) (by unfold metH;rw [Qk l2];rfl)];simp [h1,l2,iT,j6,rtD]
 have k2:2<p.Xn.length:=by omega
 by_cases a2:p.Xn[2].name=[100,114,111,112]
 rotate_left
 ·rw [aJ (x:=(5,2,2,0)) (by omega) (by unfold metH;rw [Qa k2,QA (by simp [sJ,Fld.eq_iff,a2])];rfl)];simp [Fld.e,h1,l2,k2,a2,iT,j6,rtD]
 by_cases b2:p.Xn[2].Yc=1
 rotate_left
 ·rw [aJ (x:=(5,2,2,0)) (by omega) (by unfold metH;rw [Qa k2,QA (by simp [sJ,Fld.eq_iff,b2])];rfl)];simp [Fld.e,h1,l2,k2,a2,b2,iT,j6,rtD]
 rw [bP (by omega) (by unfold metH;rw [Qa k2,a9 (by simp [sJ,Fld.eq_iff,a2,b2])])];simp [Fld.e,h1,l2,k2,a2,b2,iT,oT,wr3];rw [aT,d6];simp [rtD]
theorem Lb (p:Prg) (f:PrgS p):a8 Φ 132 [.agg (Prg.c p)]=some (rtD (metD p)):=by
 rw [aB rfl rfl,iw];by_cases z:12<p.Xn.length
 ·simp [AZ,Prg.e,z,iT,j6,rtD]
 have e1:=XJ p.Xn f.m;rw [QA z];simp [AZ,Prg.e,z,iT,oT,e1];refine cV p.Xn.length (fun _=>[]) 0 (fun i e=>look 1 e=some (.iptr 9 [Prg.c p] 0 0)/\look 2 e=some (.slice 1 (p.Xn.map fun x=>[.str x.name]))/\look 17 e=some (.slice 2 (p.Xn.map Fld.c))/\look 18 e=some (a7 p.Xn.length)/\look 19 e=some (a7 i))
  (fun i=>some (rtD ((fe (metG p) p.Xn.length i).or (fe (metH p) 3 0)))) ?_ ?_ 0 _ 0 (Qc _) (Qb _) ?_
 ·rintro i e n L hi hL _ ⟨h1,h2,h17,h18,h19⟩ ih;have hlen:=f.m;have hw:=aF i (by omega);have ei:=ns p.Xn[i].name (f.mn _ (Qd hi));have ew:=que p.Xn[i].Yc;have er:=S2 Fld.name p.Xn i hi f.m;cases q1:idS p.Xn[i].name with
  | false=>
   rw [q1] at ei;rw [aJ (x:=(6,2,(i:Int),0)) hi (by simp [metG,hi,fldE,q1])];simp [dP,Fld.e,h17,h18,h19,hi,ei,iT,j6,rtD]
  | true=>
  rw [q1] at ei;cases q2:wBad p.Xn[i].Yc with
  | true=>
   rw [q2] at ew;rw [aJ (x:=(10,2,(i:Int),0)) hi (by simp [metG,hi,fldE,q1,q2])];simp [dP,Fld.e,h17,h18,h19,hi,ei,ew,iT,j6,oT,rtD]
  | false=>
  rw [q2] at ew;cases q3:dupN Fld.name p.Xn i p.Xn[i] with
  | true=>
   rw [q3] at er;rw [aJ (x:=(7,2,(i:Int),0)) hi (by simp [metG,hi,fldE,q1,q2,q3])];simp [dP,Fld.e,h2,h17,h18,h19,hi,ei,ew,er,iT,j6,oT,rtD]
  | false=>
   rw [q3] at er;rw [bP hi (by simp [metG,hi,fldE,q1,q2,q3])];simp [dP,Fld.e,h2,h17,h18,h19,hi,ei,ew,er,iT,oT,hw];exact ih _ _ (Qc _) ⟨by simp [h1],by simp [h2],by simp [h17],by simp [h18],by simp⟩
 ·rintro e n L hL _ ⟨h1,h2,h17,h18,h19⟩;rw [d6];simp [dP,h18,h19,hL];exact Lc p _ _ (by simp [h1])
 ·simp [Prg.e]
def regG (p:Prg) (i:Nat):Option Dg:=(p.Xl[i]?).bind fun r=>if AD p i r=0 then none else some (AD p i r,3,(i:Int),0)
def acG (p:Prg) (i:Nat):Option Dg:=(p.Xx[i]?).bind fun a=>if (actE p i).2≠0 then some ((actE p i).2,(4:Int),(i:Int),(actE p i).1) else if dupN Action.name p.Xx i a then some (7,4,(i:Int),0) else none
def tbG (p:Prg) (i:Nat):Option Dg:=(p.Xm[i]?).bind fun a=>if (tblE p i).2≠0 then some ((tblE p i).2,(5:Int),(i:Int),(tblE p i).1) else if dupN Tbl.name p.Xm i a then some (7,5,(i:Int),0) else none
theorem Li (p:Prg) (f:PrgS p) (e:Env) (n:Nat) (h1:look 1 e=some (.iptr 9 [Prg.c p] 0 0)):go Φ (finP []) [.c jI] .normal ⟨e,⟨[],n⟩⟩=some (rtD (tblD p)):=by
 rw [show tblD p=fe (tbG p) p.Xm.length 0 from rfl];have e1:=XK p.Xm f.t;rw [Prg.e] at h1;simp [jI,h1,e1];refine cV p.Xm.length (fun _=>[]) 0 (fun i e=>look 1 e=some (.iptr 9 [Prg.c p] 0 0)/\look 2 e=some (.slice 1 (p.Xm.map fun x=>[.str x.name]))/\look 64 e=some (a7 p.Xm.length)/\look 65 e=some (a7 i))
  (fun i=>some (rtD (fe (tbG p) p.Xm.length i))) ?_ ?_ 0 _ _ (Qc _) (Qc _) ?_
 ·rintro i e n L hi hL _ ⟨h1,h2,h64,h65⟩ ih;have hlen:=f.t;have hw:=aF i (by omega);have et:=ki p f i;have er:=S2 Tbl.name p.Xm i hi f.t;simp only [Prg.e] at et;rw [Prg.e] at h1;by_cases y:(tblE p i).2=0
  rotate_left
  ·rw [aJ (x:=((tblE p i).2,5,(i:Int),(tblE p i).1)) hi (by simp [tbG,hi,y])];simp [dS,h1,h64,h65,hi,et,j6,y,rtD]
  rw [y] at et;cases q:dupN Tbl.name p.Xm i p.Xm[i] with
  | true=>
   rw [q] at er;rw [aJ (x:=(7,5,(i:Int),0)) hi (by simp [tbG,hi,y,q])];simp [dS,h1,h2,h64,h65,hi,et,er,iT,j6,oT,rtD]
  | false=>
   rw [q] at er;rw [bP hi (by simp [tbG,hi,y,q])];simp [dS,h1,h2,h64,h65,hi,et,er,iT,oT,hw];exact ih _ _ (Qc _) ⟨by simp [h1,Prg.e],by simp [h2],by simp [h64],by simp⟩
 ·rintro e n L hL _ ⟨h1,h2,h64,h65⟩;rw [d6];simp [dS,h64,h65,hL,rtD]
 ·simp [h1,Prg.e]
theorem Lh (p:Prg) (f:PrgS p) (e:Env) (n:Nat) (h1:look 1 e=some (.iptr 9 [Prg.c p] 0 0)):go Φ (finP []) [.c jJ] .normal ⟨e,⟨[],n⟩⟩=some (rtD ((vX p).or (tblD p))):=by
 rw [show vX p=fe (acG p) p.Xx.length 0 from rfl];have e1:=qu6 p.Xx f.a;rw [Prg.e] at h1;simp [jJ,h1,e1];refine cV p.Xx.length (fun _=>[]) 0 (fun i e=>look 1 e=some (.iptr 9 [Prg.c p] 0 0)/\look 2 e=some (.slice 1 (p.Xx.map fun x=>[.str x.name]))/\look 38 e=some (a7 p.Xx.length)/\look 39 e=some (a7 i))
  (fun i=>some (rtD ((fe (acG p) p.Xx.length i).or (tblD p)))) ?_ ?_ 0 _ _ (Qc _) (Qc _) ?_
 ·rintro i e n L hi hL _ ⟨h1,h2,h38,h39⟩ ih;have hlen:=f.a;have hw:=aF i (by omega);have et:=P8 p f i;have er:=S2 Action.name p.Xx i hi f.a;simp only [Prg.e] at et;rw [Prg.e] at h1;by_cases y:(actE p i).2=0
  rotate_left
  ·rw [aJ (x:=((actE p i).2,4,(i:Int),(actE p i).1)) hi (by simp [acG,hi,y])];simp [dR,h1,h38,h39,hi,et,j6,y,rtD]
  rw [y] at et;cases q:dupN Action.name p.Xx i p.Xx[i] with
  | true=>
   rw [q] at er;rw [aJ (x:=(7,4,(i:Int),0)) hi (by simp [acG,hi,y,q])];simp [dR,h1,h2,h38,h39,hi,et,er,iT,j6,oT,rtD]
  | false=>
   rw [q] at er;rw [bP hi (by simp [acG,hi,y,q])];simp [dR,h1,h2,h38,h39,hi,et,er,iT,oT,hw];exact ih _ _ (Qc _) ⟨by simp [h1,Prg.e],by simp [h2],by simp [h38],by simp⟩
 ·rintro e n L hL _ ⟨h1,h2,h38,h39⟩;rw [d6];simp [dR,h38,h39,hL];exact Li p f _ _ (by simp [h1])
 ·simp [h1,Prg.e]
theorem Sc (p:Prg) (f:PrgS p):a8 Φ 133 [.agg (Prg.c p)]=some (rtD ((regD p).or ((vX p).or (tblD p)))):=by
 rw [aB rfl rfl,show regD p=fe (regG p) p.Xl.length 0 from rfl];have e1:=qsi p.Xl f.r;generalize hX:(vX p).or (tblD p)=X;simp [FC,Prg.e,e1];refine cV p.Xl.length (fun _=>[]) 0 (fun i e=>look 1 e=some (.iptr 9 [Prg.c p] 0 0)/\look 2 e=some (.slice 1 (p.Xl.map fun x=>[.str x.name]))/\look 15 e=some (.slice 3 (p.Xl.map Xg.c))/\look 16 e=some (a7 p.Xl.length)/\look 17 e=some (a7 i))
  (fun i=>some (rtD ((fe (regG p) p.Xl.length i).or X))) ?_ ?_ 0 _ _ (Qc _) (Qc _) ?_
 ·rintro i e n L hi hL _ ⟨h1,h2,h15,h16,h17⟩ ih;have hlen:=f.r;have hw:=aF i (by omega);have et:=Ms p.Xl[i] (f.rn _ (Qd hi));have er:=S2 Xg.name p.Xl i hi f.r;simp only [Xg.e] at et;by_cases y:regE p.Xl[i]=0
  rotate_left
  ·rw [aJ (x:=(regE p.Xl[i],3,(i:Int),0)) hi (by simp [regG,hi,AD,y])];simp [dQ,Xg.e,h15,h16,h17,hi,et,j6,y,rtD]
  rw [y] at et;cases q:dupN Xg.name p.Xl i p.Xl[i] with
  | true=>
   rw [q] at er;rw [aJ (x:=(7,3,(i:Int),0)) hi (by simp [regG,hi,AD,y,q])];simp [dQ,Xg.e,h2,h15,h16,h17,hi,et,er,iT,j6,oT,rtD]
  | false=>
   rw [q] at er;rw [bP hi (by simp [regG,hi,AD,y,q])];simp [dQ,Xg.e,h2,h15,h16,h17,hi,et,er,iT,oT,hw];exact ih _ _ (Qc _) ⟨by simp [h1],by simp [h2],by simp [h15],by simp [h16],by simp⟩
 ·rintro e n L hL _ ⟨h1,h2,h15,h16,h17⟩;rw [d6];simp [dQ,h16,h17,hL];rw [<- hX];exact Lh p f _ _ (by simp [h1])
 ·simp [Prg.e]
theorem Rl (p:Prg) (f:PrgS p) (hc:(pre p.Ya).length<2^40 - 1):a8 Φ 134 [.agg (Prg.c p)]=some (rtD (floD p)):=by
 rw [aB rfl rfl];have e1:=OY p f;have e2:=Jv p hc;have e3:=PD p f;simp only [Prg.e,tup3] at e1 e2 e3;by_cases y1:(parE p).2.2=0
 rotate_left
 ·simp [v9,Prg.e,e1,y1,j6,floD,rtD]
 rw [y1] at e1;by_cases y2:(ctlE p).2=0
 rotate_left
 ·simp [v9,Prg.e,e1,y1,e2,y2,j6,oT,floD,rtD]
 rw [y2] at e2;by_cases y3:(depE p).2=0
 rotate_left
 ·simp [v9,Prg.e,e1,y1,e2,y2,e3,y3,j6,oT,floD,rtD]
 rw [y3] at e3;simp [v9,Prg.e,e1,y1,e2,y2,e3,y3,oT,floD,rtD]
theorem UQ {Φ:FuncId->Option AFun} (c:Xu) (s:St):fE Φ c s=go Φ (fun o=>o) [.c c] .normal s:=by
 rw [go_c];cases fE Φ c s with
 | none=>rfl
 | some p=>rfl
def dgC (d:Dg):List AV:=[a7 d.1,a7 d.2.1,a7 d.2.2.1,a7 d.2.2.2]
def chkE (p:Prg):Env:=[(3,.func (.func 129) [] [.ptr 1 4 0 0]),(2,.ptr 1 4 0 0),(1,.ptr 0 9 0 0),(0,.agg (Prg.c p))]
def uM (p:Prg) (d:List AV):AH:=⟨[(0,.row 9 [Prg.c p]),(1,.row 4 [d])],2⟩
theorem K' (p:Prg) (f:PrgS p) (hc:(pre p.Ya).length<2^40 - 1):∃e',look 2 e'=some (.ptr 1 4 0 0)/\go Φ (fun o=>o) [.c (match dD.code with | .seq _ (.dfr _ _ b)=>b | _=> .skip)] .normal ⟨chkE p,uM p [a7 0,a7 0,a7 0,a7 0]⟩=
  match (limD p).or ((hdrD p).or ((metD p).or (((regD p).or ((vX p).or (tblD p))).or (floD p)))) with
  | none=>some (.ret,⟨e',uM p [.int .i64 0,.int .i64 0,.int .i64 0,.int .i64 0]⟩)
  | some d=>some (.pan (AC d.1 d.2.1 d.2.2.1 d.2.2.2),⟨e',uM p [.int .i64 0,.int .i64 0,.int .i64 0,.int .i64 0]⟩):=by
 have h1:=X' p f;have h2:=qs3 p f;have h3:=Lb p f;have h4:=Sc p f;have h5:=Rl p f hc;simp only [Prg.e] at h1 h2 h3 h4 h5;cases q1:limD p with
 | some d=>rw [q1] at h1;simp [dD,chkE,uM,Prg.e,h1,rtD]
 | none=>
 cases q2:hdrD p with
 | some d=>rw [q1] at h1;rw [q2] at h2;simp [dD,chkE,uM,Prg.e,h1,h2,rtD]
 | none=>
 cases q3:metD p with
 | some d=>rw [q1] at h1;rw [q2] at h2;rw [q3] at h3;simp [dD,chkE,uM,Prg.e,h1,h2,h3,rtD]
 | none=>
 cases q4:(regD p).or ((vX p).or (tblD p)) with
 | some d=>rw [q1] at h1;rw [q2] at h2;rw [q3] at h3;rw [q4] at h4;simp [dD,chkE,uM,Prg.e,h1,h2,h3,h4,rtD]
 | none=>
 cases q5:floD p with
 | some d=>rw [q1] at h1;rw [q2] at h2;rw [q3] at h3;rw [q4] at h4;rw [q5] at h5;simp [dD,chkE,uM,Prg.e,h1,h2,h3,h4,h5,rtD]
 | none=>rw [q1] at h1;rw [q2] at h2;rw [q3] at h3;rw [q4] at h4;rw [q5] at h5;simp [dD,chkE,uM,Prg.e,h1,h2,h3,h4,h5,rtD]
def kA:Xu:=match dD.code with | .seq a _=>a | _=> .skip
def kB:Xu:=match dD.code with | .seq _ (.dfr _ _ b)=>b | _=> .skip
theorem Kj (p:Prg):prgD p=((limD p).or ((hdrD p).or ((metD p).or (((regD p).or ((vX p).or (tblD p))).or (floD p))))).getD (0,0,0,0):=by
 unfold prgD;cases limD p<;>cases hdrD p<;>cases metD p<;>cases regD p<;>cases vX p<;>cases tblD p<;>rfl
theorem Jq (p:Prg) (d:List AV) (hd:d.length=4):cloI Φ dD .niliface [.ptr 1 4 0 0] (uM p d)=some (uM p d):=by
 unfold cloI;rw [UQ];simp [dD,recE]
theorem Jr (p:Prg) (d:Dg):∃h,cloI Φ dD (AC d.1 d.2.1 d.2.2.1 d.2.2.2) [.ptr 1 4 0 0] (uM p [a7 0,a7 0,a7 0,a7 0])=some h/\look 1 h.objs=some (.row 4 [dgC d]):=by
 unfold cloI;rw [UQ];simp [dD,recE,AC,tF,uM,dgC]
theorem qy6 (p:Prg) (f:PrgS p) (hc:(pre p.Ya).length<2^40 - 1):a8 Φ 70 [.agg (Prg.c p)]=some (.val (.agg (dgC (prgD p)))):=by
 unfold a8;rw [C' Φ (d:=dD) rfl rfl,show dD.code= .seq kA (.dfr [⟨some 3,none,.mkfunc (.func 129) [] [.t 2]⟩] 3 kB) from rfl];have a1:fE Φ kA ⟨iP 0 [.agg (Prg.c p)],H0⟩=some (.normal,⟨[(2,.ptr 1 4 0 0),(1,.ptr 0 9 0 0),(0,.agg (Prg.c p))],uM p [a7 0,a7 0,a7 0,a7 0]⟩):=by
  rw [UQ];simp [kA,dD,uM]
 obtain ⟨e',he',hb⟩:=K' p f hc;have hb2:fE Φ kB ⟨chkE p,uM p [a7 0,a7 0,a7 0,a7 0]⟩=_:=(UQ _ _).trans hb;have a2:aU (aG Φ) none [⟨some 3,none,.mkfunc (.func 129) [] [.t 2]⟩] ⟨[(2,.ptr 1 4 0 0),(1,.ptr 0 9 0 0),(0,.agg (Prg.c p))],uM p [a7 0,a7 0,a7 0,a7 0]⟩=
   some (.normal,⟨chkE p,uM p [a7 0,a7 0,a7 0,a7 0]⟩):=by
  simp [aU,nI,chkE]
 simp only [A9,a1,a2];have a3:(look 3 (chkE p)).bind tgt=some (129,[.ptr 1 4 0 0]):=by simp [chkE]
 rw [a3];simp only [show dD.clo=129 from rfl,show dD.ncaps=1 from rfl,TE,and_self,if_true];rw [hb2,Kj];cases (limD p).or ((hdrD p).or ((metD p).or (((regD p).or ((vX p).or (tblD p))).or (floD p)))) with
 | none=>
  simp only [LZ];rw [Jq p _ rfl];simp [CP,dD,he',uM,dgC]
 | some d=>
  obtain ⟨h,k1,k2⟩:=Jr p d;simp only [LZ];rw [k1];obtain ⟨O,n⟩:=h;simp only [dgC] at k2;simp [CP,dD,show Option.isSome (some ((4:Nat),(1:Nat)))=true from rfl,he',k2,dgC]
theorem jv (c:Int):a8 Φ 184 [.int .u8 c]=some (.val (.bool (letC c))):=by
 rw [aB rfl rfl];by_cases h1:97<=c<;>by_cases h2:c<=122<;>by_cases h3:65<=c<;>simp [FO,letC,h1,h2,h3]
theorem P2 (c:Int):a8 Φ 185 [.int .u8 c]=some (.val (.bool (digI c))):=by
 rw [aB rfl rfl];by_cases h1:48<=c<;>simp [FP,digI,h1]
theorem EG (s:List UInt8) (hs:s.length<2^40):a8 Φ 108 [.str s]=some (.val (.bool (idS s))):=by
 rw [aB rfl rfl];by_cases h0:s.length=0
 ·have:s=[]:=Qg h0;subst this;simp [v5,idS]
 have hp:0<s.length:=by omega
 have hne:¬s=[]:=by intro h;subst h;simp at h0
 rw [PO hp];by_cases h16:16<s.length
 ·simp [v5,hne,h16,Qf.2 h16]
 have hl:=jv (s[0].toNat:Int);cases q:letC (s[0].toNat:Int) with
 | false=>
  rw [q] at hl;simp [v5,hne,hp,h16,hl]
 | true=>
  rw [q] at hl;generalize hX:(decide (s.length<=16)&&(true&&s.all fun b=>idC b.toNat))=X;simp [v5,hne,hp,h16,hl];refine (A4 s (fun b=> !idC b.toNat) (some (Rt.val (.bool false))) (some (Rt.val (.bool true)))
   (fun i e H=>look 0 e=some (.str s)/\look 3 e=some (a7 i)/\H=⟨[],0⟩) ?_ ?_ ?_ _ _ ?_).trans ?_
  ·rintro i e _ L hi hL ⟨h0,h3,rfl⟩ hb;have g1:=jv (s[i].toNat:Int);have g2:=P2 (s[i].toNat:Int);cases z1:letC (s[i].toNat:Int) with
   | true=>simp [idC,z1] at hb
   | false=>
    cases z2:digI (s[i].toNat:Int) with
    | true=>simp [idC,z1,z2] at hb
    | false=>
     rw [z1] at g1;rw [z2] at g2;simp only [idC,z1,z2,KE,AP,decide_eq_false_iff_not] at hb;simp [cF,h0,h3,hi,g1,g2,hb]
  ·rintro i e _ L X hi hL ⟨h0,h3,rfl⟩ hb ih;have hw:=aF i (by omega);have g1:=jv (s[i].toNat:Int);have g2:=P2 (s[i].toNat:Int);cases z1:letC (s[i].toNat:Int) with
   | true=>
    rw [z1] at g1;simp [cF,h0,h3,hi,g1,hw];exact ih _ _ ⟨by simp [h0],by simp,rfl⟩
   | false=>
    rw [z1] at g1;cases z2:digI (s[i].toNat:Int) with
    | true=>
     rw [z2] at g2;simp [cF,h0,h3,hi,g1,g2,hw];exact ih _ _ ⟨by simp [h0],by simp,rfl⟩
    | false=>
     rw [z2] at g2;simp only [idC,z1,z2,KE,Bool.not_eq_false',decide_eq_true_eq] at hb;rw [hb] at g1 g2;simp [cF,h0,h3,hi,g1,g2,hb,hw];exact ih _ _ ⟨by simp [h0],by simp,rfl⟩
  ·rintro e _ L hL ⟨h0,h3,rfl⟩;simp [cF,p7,h0,h3,hL]
  ·simp
  ·rw [<- hX];have:(s.any fun b=> !idC b.toNat)= !(s.all fun b=>idC b.toNat):=by
    rw [List.not_all_eq_any_not]
   rw [this];have h16':decide (s.length<=16)=true:=by simpa using h16
   rw [h16'];cases s.all fun b=>idC b.toNat<;>rfl
theorem vW {n:Int} (h1:0<=n:=by omega) (h2:n<18446744073709551616:=by omega):IntKind.wrap .u64 n=n:=by
 have e1:(2:Int)^64=18446744073709551616:=rfl;simp only [IntKind.wrap,IntKind.bits,IntKind.signed,MC,e1];rw [QA (by simp)];omega
theorem VF {i:Nat} (h:i<63):IntKind.wrap .u64 (2*2^i)=2^(i+1):=by
 have h1:(2:Int)^(i+1)=2*2^i:=by rw [Int.pow_succ];omega
 have h2:(2:Int)^i<=2^62:=by
  have:=AM (n:=2) (by omega) (show i<=62 by omega)
  exact_mod_cast this
 have h0:(0:Int)<2^i:=by
  have:=Nat.pow_pos (a:=2) (n:=i) (by omega)
  exact_mod_cast this
 have h3:(2:Int)^62=4611686018427387904:=rfl;rw [h1];exact vW
theorem EH (w:Int):a8 Φ 308 [a7 w]=some (.val (.bool (!wBad w))):=by
 rw [aB rfl rfl];by_cases h1:w<1
 ·simp [yA,wBad,h1,uQ.2 h1]
 ·by_cases h2:32<w
  ·simp [yA,wBad,h1,iG.1 h1,h2,uQ.2 h2]
  ·simp [yA,wBad,h1,iG.1 h1,h2,iG.1 h2]
theorem JM (n:Nat) (hn:n<63):a8 Φ 309 [a7 n]=some (.val (.int .u64 (2^n))):=by
 rw [aB rfl rfl];simp [HG];refine (dC n (fun i e=>look 0 e=some (a7 n)/\look 3 e=some (.int .u64 (2^i))/\look 4 e=some (a7 i)) (fun i=>some (Rt.val (.int .u64 (2^n)))) ?_ ?_ 0 _ (Qc _) ?_).trans (by simp)
 ·rintro i e L hi hL ⟨h0,h3,h4⟩ ih;have hw:=aF i (by omega);have hp:=VF (i:=i) (by omega);simp [lJ,h0,h3,h4,hi,hw,hp];exact ih _ ⟨by simp [h0],by simp,by simp⟩
 ·rintro e L hL ⟨h0,h3,h4⟩;simp [lJ,rC,h0,h3,h4,hL]
 ·simp
theorem UV (v w:Int) (hv:ok32 0 v):a8 Φ 202 [.int .u32 v,a7 w]=some (.val (.bool (fits v w))):=by
 rw [aB rfl rfl];have h1:=EH w;have hv1:=hv.1;have hv2:=hv.2;have hc:IntKind.wrap .u64 v=v:=vW;cases q:wBad w with
 | true=>
  rw [q] at h1;simp [BF,h1,fits,q]
 | false=>
  rw [q] at h1;obtain ⟨w1,w2⟩:=wBad_false.1 q;obtain ⟨k,rfl⟩:∃k:Nat,w=k:=⟨w.toNat,by omega⟩;have h2:=JM k (by omega);simp [BF,h1,h2,hc,fits,q]
theorem S5 (v:Int) (hv:ok32 0 v) (k:Nat) (hk:k<=32):a8 Φ 122 [.int .u32 v,a7 k]=some (.val (.bool (decide (v<2^k)))):=by
 rw [aB rfl rfl];have hv1:=hv.1;have hv2:=hv.2;have hc:IntKind.wrap .u64 v=v:=vW;generalize hX:decide (v<2^k)=X;simp [FA];refine (dC k (fun i e=>look 0 e=some (.int .u32 v)/\look 1 e=some (a7 k)/\look 5 e=some (.int .u64 (2^i))/\look 6 e=some (a7 i)) (fun i=>some (Rt.val (.bool X))) ?_ ?_ 0 _ (Qc _) ?_).trans (by simp)
 ·rintro i e L hi hL ⟨h0,h1,h5,h6⟩ ih;have hw:=aF i (by omega);have hp:=VF (i:=i) (by omega);simp [jH,h1,h5,h6,hi,hw,hp];exact ih _ ⟨by simp [h0],by simp [h1],by simp,by simp⟩
 ·rintro e L hL ⟨h0,h1,h5,h6⟩;simp [jH,pH,h0,h1,h5,h6,hL,hc,<- hX]
 ·simp
theorem SA (p:Prg) (h i:Int):a8 Φ 153 [.agg (Prg.c p),.agg [a7 h,a7 i]]=some (.val (a7 (wid p h i))):=by
 rw [aB rfl rfl];have tail:∀(l:List Fld),(∀j:Int,decl p h j=(at? l j).map (·.Yc))->(i<0/\wid p h i=0)\/(¬i<0/\(l.length:Int)<=i/\wid p h i=0)\/∃k:Nat,∃hk:k<l.length,i=k/\((l[k].Yc<1/\wid p h i=0)\/(¬l[k].Yc<1/\32<l[k].Yc/\wid p h i=0)\/(¬l[k].Yc<1/\¬32<l[k].Yc/\wid p h i=l[k].Yc)):=by
  intro l hd;by_cases i0:i<0
  ·exact .inl ⟨i0,by simp [wid,hd,cY i0]⟩
  by_cases i1:(l.length:Int)<=i
  ·exact .inr (.inl ⟨i0,i1,by simp [wid,hd,cW i1]⟩)
  obtain ⟨k,hk⟩:∃k:Nat,i=k:=⟨i.toNat,by omega⟩;refine .inr (.inr ⟨k,by omega,hk,?_⟩);have hk2:k<l.length:=by omega
  have e:wid p h i=if wBad l[k].Yc then 0 else l[k].Yc:=by simp [wid,hd,hk,hk2]
  by_cases w1:l[k].Yc<1
  ·exact .inl ⟨w1,by rw [e];simp [wBad,w1]⟩
  by_cases w2:32<l[k].Yc
  ·exact .inr (.inl ⟨w1,w2,by rw [e];simp [wBad,w2]⟩)
  ·exact .inr (.inr ⟨w1,w2,by rw [e];simp [wBad,w1,w2]⟩)
 by_cases h0:0<=h
 ·have hm:¬h= -1:=by omega
  have hm2:¬h< -1:=by omega
  by_cases h1:(p.Xo.length:Int)<=h
  ·rw [show wid p h i=0 by simp [wid,decl,hm,cW h1]];simp [dU,Prg.e,h0,h1]
  obtain ⟨m,rfl⟩:∃k:Nat,h=k:=⟨h.toNat,by omega⟩;have hk:m<p.Xo.length:=by omega
  rcases tail p.Xo[m].Xz (by intro j;simp [decl,hm,hk]) with ⟨i0,e⟩ | ⟨i0,i1,e⟩ | ⟨k,hk2,rfl,⟨w1,e⟩ | ⟨w1,w2,e⟩ | ⟨w1,w2,e⟩⟩
  ·rw [e];simp [dU,Prg.e,Xi.e,hk,Qf.2 hk,hm2,i0]
  ·rw [e];simp [dU,Prg.e,Xi.e,hk,Qf.2 hk,hm2,i0,i1]
  ·rw [e];simp [dU,Prg.e,Xi.e,Fld.e,hk,Qf.2 hk,hm2,hk2,Qf.2 hk2,w1]
  ·rw [e];simp [dU,Prg.e,Xi.e,Fld.e,hk,Qf.2 hk,hm2,hk2,Qf.2 hk2,w1,w2]
  ·rw [e];simp [dU,Prg.e,Xi.e,Fld.e,hk,Qf.2 hk,hm2,hk2,Qf.2 hk2,w1,w2]
 by_cases hm:h= -1
 ·subst hm;rcases tail p.Xn (by intro j;simp [decl]) with ⟨i0,e⟩ | ⟨i0,i1,e⟩ | ⟨k,hk2,rfl,⟨w1,e⟩ | ⟨w1,w2,e⟩ | ⟨w1,w2,e⟩⟩
  ·rw [e];simp [dU,Prg.e,i0]
  ·rw [e];simp [dU,Prg.e,i0,i1]
  ·rw [e];simp [dU,Prg.e,Fld.e,hk2,Qf.2 hk2,w1]
  ·rw [e];simp [dU,Prg.e,Fld.e,hk2,Qf.2 hk2,w1,w2]
  ·rw [e];simp [dU,Prg.e,Fld.e,hk2,Qf.2 hk2,w1,w2]
 ·have hm2:h< -1:=by omega
  rw [show wid p h i=0 by simp [wid,decl,hm,cY (show h<0 by omega)]];simp [dU,Prg.e,h0,hm2]
theorem tz (p:Prg) (h i:Int):a8 Φ 302 [.agg (Prg.c p),.agg [a7 h,a7 i]]=some (.val (a7 (wid p h i))):=by
 rw [aB rfl rfl];have tail:∀(l:List Fld),(∀j:Int,decl p h j=(at? l j).map (·.Yc))->(i<0/\wid p h i=0)\/(¬i<0/\(l.length:Int)<=i/\wid p h i=0)\/∃k:Nat,∃hk:k<l.length,i=k/\((l[k].Yc<1/\wid p h i=0)\/(¬l[k].Yc<1/\32<l[k].Yc/\wid p h i=0)\/(¬l[k].Yc<1/\¬32<l[k].Yc/\wid p h i=l[k].Yc)):=by
  intro l hd;by_cases i0:i<0
  ·exact .inl ⟨i0,by simp [wid,hd,cY i0]⟩
  by_cases i1:(l.length:Int)<=i
  ·exact .inr (.inl ⟨i0,i1,by simp [wid,hd,cW i1]⟩)
  obtain ⟨k,hk⟩:∃k:Nat,i=k:=⟨i.toNat,by omega⟩;refine .inr (.inr ⟨k,by omega,hk,?_⟩);have hk2:k<l.length:=by omega
  have e:wid p h i=if wBad l[k].Yc then 0 else l[k].Yc:=by simp [wid,hd,hk,hk2]
  by_cases w1:l[k].Yc<1
  ·exact .inl ⟨w1,by rw [e];simp [wBad,w1]⟩
  by_cases w2:32<l[k].Yc
  ·exact .inr (.inl ⟨w1,w2,by rw [e];simp [wBad,w2]⟩)
  ·exact .inr (.inr ⟨w1,w2,by rw [e];simp [wBad,w1,w2]⟩)
 by_cases h0:0<=h
 ·have hm:¬h= -1:=by omega
  have hm2:¬h< -1:=by omega
  by_cases h1:(p.Xo.length:Int)<=h
  ·rw [show wid p h i=0 by simp [wid,decl,hm,cW h1]];simp [eH,Prg.e,h0,h1]
  obtain ⟨m,rfl⟩:∃k:Nat,h=k:=⟨h.toNat,by omega⟩;have hk:m<p.Xo.length:=by omega
  rcases tail p.Xo[m].Xz (by intro j;simp [decl,hm,hk]) with ⟨i0,e⟩ | ⟨i0,i1,e⟩ | ⟨k,hk2,rfl,⟨w1,e⟩ | ⟨w1,w2,e⟩ | ⟨w1,w2,e⟩⟩
  ·rw [e];simp [eH,Prg.e,Xi.e,hk,Qf.2 hk,hm2,i0]
  ·rw [e];simp [eH,Prg.e,Xi.e,hk,Qf.2 hk,hm2,i0,i1]
  ·rw [e];simp [eH,Prg.e,Xi.e,Fld.e,hk,Qf.2 hk,hm2,hk2,Qf.2 hk2,w1]
  ·rw [e];simp [eH,Prg.e,Xi.e,Fld.e,hk,Qf.2 hk,hm2,hk2,Qf.2 hk2,w1,w2]
  ·rw [e];simp [eH,Prg.e,Xi.e,Fld.e,hk,Qf.2 hk,hm2,hk2,Qf.2 hk2,w1,w2]
 by_cases hm:h= -1
 ·subst hm;rcases tail p.Xn (by intro j;simp [decl]) with ⟨i0,e⟩ | ⟨i0,i1,e⟩ | ⟨k,hk2,rfl,⟨w1,e⟩ | ⟨w1,w2,e⟩ | ⟨w1,w2,e⟩⟩
  ·rw [e];simp [eH,Prg.e,i0]
  ·rw [e];simp [eH,Prg.e,i0,i1]
  ·rw [e];simp [eH,Prg.e,Fld.e,hk2,Qf.2 hk2,w1]
  ·rw [e];simp [eH,Prg.e,Fld.e,hk2,Qf.2 hk2,w1,w2]
  ·rw [e];simp [eH,Prg.e,Fld.e,hk2,Qf.2 hk2,w1,w2]
 ·have hm2:h< -1:=by omega
  rw [show wid p h i=0 by simp [wid,decl,hm,cY (show h<0 by omega)]];simp [eH,Prg.e,h0,hm2]
def fxO {G:Type} (q:G->Bool) (l:List G) (j:Nat):Option Int:=fe (fun k=>(l[k]?).bind fun f=>if q f then some (k:Int) else none) l.length j
theorem ik {G:Type} {q:G->Bool} {l:List G} {i:Nat} (hi:i<l.length) (h:q l[i]=true):fxO q l i=some (i:Int):=by
 unfold fxO;rw [aJ (x:=(i:Int)) hi (by simp [hi,h])]
theorem vk {G:Type} {q:G->Bool} {l:List G} {i:Nat} (hi:i<l.length) (h:q l[i]=false):fxO q l i=fxO q l (i+1):=by
 unfold fxO;rw [bP hi (by simp [hi,h])]
theorem Je {G:Type} {q:G->Bool} {l:List G}:fxO q l l.length=none:=by
 unfold fxO;rw [d6]
theorem lq {G:Type} {q:G->Bool} {l:List G} {i:Nat} (hi:i<l.length) (h:q l[i]=true):∀n j,n+j=i->∃k:Nat,fxO q l j=some (k:Int)/\(decide ((k:Int)<i)=vV (l.take i) q j)
 | 0,j,e=>by
  have:j=i:=by omega
  subst this;refine ⟨j,ik hi h,?_⟩;have:=UZ (l:=l.take j) (p:=q);rw [show (l.take j).length=j by simp;omega] at this;rw [this];simp
 | n+1,j,e=>by
  have hj:j<l.length:=by omega
  have hj2:j<(l.take i).length:=by simp;omega
  have e1:(l.take i)[j]=l[j]:=by simp
  cases z:q l[j] with
  | true=>
   refine ⟨j,ik hj z,?_⟩;rw [jb hj2 (by rw [e1];exact z)];simp;omega
  | false=>
   obtain ⟨k,k1,k2⟩:=lq hi h n (j+1) (by omega);refine ⟨k,by rw [vk hj z];exact k1,?_⟩;rw [LE hj2 (by rw [e1];exact z)];exact k2
def fxT (o:Option Int):AV:=match o with
 | some k=> .tup [.int .i64 k,.bool true]
 | none=> .tup [.int .i64 0,.bool false]
theorem qw6 (h:Xi) (nm:List UInt8) (hl:h.Xz.length<2^40):a8 Φ 186 [.agg (Xi.c h),.str nm]=some (.val (fxT (fxO (fun f:Fld=>decide (f.name=nm)) h.Xz 0))):=by
 rw [aB rfl rfl];simp [FQ,Xi.e];refine dC h.Xz.length (fun i e=>look 1 e=some (.str nm)/\look 2 e=some (.iptr 2 [Xi.c h] 0 0)/\look 6 e=some (a7 i))
  (fun i=>some (Rt.val (fxT (fxO (fun f:Fld=>decide (f.name=nm)) h.Xz i)))) ?_ ?_ 0 _ (Qc _) ?_
 ·rintro i e L hi hL ⟨h1,h2,h6⟩ ih;have hw:=aF i (by omega);rw [Xi.e] at h2;by_cases z:h.Xz[i].name=nm
  ·rw [ik hi (by simpa using z)];simp [gF,Fld.e,h1,h2,h6,hi,z,fxT]
  ·rw [vk hi (by simpa using z)];simp [gF,Fld.e,h1,h2,h6,hi,z,hw];exact ih _ ⟨by simp [h1],by simp [h2,Xi.e],by simp⟩
 ·rintro e L hL ⟨h1,h2,h6⟩;rw [Je];rw [Xi.e] at h2;simp [gF,qA,h2,h6,hL,fxT]
 ·simp [Xi.e]
theorem rj (l:List Fld) (h:∀k,k<l.length->fldE l k (l.getD k default)=0):∀i,i<=l.length->0<=wSum (l.take i)/\wSum (l.take i)<=32*i:=by
 intro i
 induction i with
 | zero=>intro _;simp [wSum]
 | succ i ih=>
  intro hi;have h1:=ih (by omega);have hk:=h i (by omega);rw [vZ,Qa (by omega),nO] at hk;have hb:wBad l[i].Yc=false:=by
   cases q:wBad l[i].Yc with
   | false=>rfl
   | true=>
    simp only [fldE,q] at hk;split at hk
    ·omega
    ·simp at hk
  have:=wBad_false.1 hb;rw [fq (by omega)];omega
theorem Ak {l:List Fld} {i k:Nat} (hk:k<i) (hi:i<=l.length):fldE (l.take i) k ((l.take i).getD k default)=fldE l k (l.getD k default):=by
 have e1:(l.take i).getD k default=l.getD k default:=by
  rw [vZ,vZ,List.getElem?_take,a9 hk]
 rw [e1];unfold fldE dupN;rw [List.take_take,Nat.min_eq_left (by omega)]
theorem NC (h:Xi) (hn:h.name.length<2^40) (hf:∀f∈h.Xz,f.name.length<2^40):a8 Φ 110 [.agg (Xi.c h)]=some (.val (a7 (hdrE h))):=by
 rw [aB rfl rfl];have n1:=EG h.name hn;cases q1:idS h.name with
 | false=>rw [q1] at n1;simp [v6,Xi.e,n1,hdrE,q1]
 | true=>
 rw [q1] at n1;by_cases z0:h.Xz.length=0
 ·simp [v6,Xi.e,n1,hdrE,q1,z0]
 by_cases z1:12<h.Xz.length
 ·simp [v6,Xi.e,n1,hdrE,q1,z0,z1]
 have hE:hdrE h=hdrR h.Xz 0:=by simp [hdrE,q1,z0,z1,hdrR,CQ]<;>rfl
 rw [hE];simp [v6,Xi.e,n1,z0,z1];refine cV h.Xz.length (fun _=>[]) 0 (fun i e=>look 1 e=some (.iptr 2 [Xi.c h] 0 0)/\look 3 e=some (a7 (wSum (h.Xz.take i)))/\look 4 e=some (a7 i)/\
   ∀k,k<i->fldE h.Xz k (h.Xz.getD k default)=0)
  (fun i=>some (Rt.val (a7 (hdrR h.Xz i)))) ?_ ?_ 0 _ 0 (Qc _) (Qb _) ?_
 ·rintro i e n L hi hL _ ⟨h1,h3,h4,hz⟩ ih;have hw:=aF i (by omega);have nf:=EG h.Xz[i].name (hf _ (Qd hi));have ni:=qw6 h h.Xz[i].name (by omega);obtain ⟨at',k1,k2⟩:=lq (q:=fun f:Fld=>decide (f.name=h.Xz[i].name)) hi (by simp) i 0 (by omega);rw [k1] at ni;rw [SE,show (h.Xz.take i).any (fun f=>decide (f.name=h.Xz[i].name))=dupN Fld.name h.Xz i h.Xz[i] from rfl] at k2;simp only [fxT,Xi.e] at ni;rw [Xi.e] at h1;cases p1:idS h.Xz[i].name with
  | false=>
   rw [p1] at nf;rw [JJ hi (by simp [fldE,p1])];simp [bE,Fld.e,h1,h4,hi,nf,ni,fldE,p1]
  | true=>
  rw [p1] at nf;by_cases w1:h.Xz[i].Yc<1
  ·rw [JJ hi (by simp [fldE,p1,wBad,w1])];simp [bE,Fld.e,h1,h4,hi,nf,ni,fldE,p1,wBad,w1]
  by_cases w2:32<h.Xz[i].Yc
  ·rw [JJ hi (by simp [fldE,p1,wBad,w2])];simp [bE,Fld.e,h1,h4,hi,nf,ni,fldE,p1,wBad,w1,w2]
  cases p3:dupN Fld.name h.Xz i h.Xz[i] with
  | true=>
   rw [p3] at k2;have k3:at'<i:=by simpa using k2
   rw [JJ hi (by simp [fldE,p1,wBad,w1,w2,p3])];simp [bE,Fld.e,h1,h4,hi,nf,ni,fldE,p1,wBad,w1,w2,p3,k3]
  | false=>
   rw [p3] at k2;have k3:¬at'<i:=by simpa using k2
   have hz':∀k,k<i+1->fldE h.Xz k (h.Xz.getD k default)=0:=by
    intro k hk;rcases Nat.lt_succ_iff_lt_or_eq.1 hk with hlt | rfl
    ·exact hz k hlt
    ·rw [vZ,Qa hi,nO];simp [fldE,p1,wBad,w1,w2,p3]
   have hs:=rj (h.Xz.take (i+1)) (by intro k hk;simp at hk;rw [Ak (by omega) (by omega)];exact hz' k (by omega)) (i+1) (by simp;omega);rw [List.take_take,Nat.min_self,fq hi] at hs;have hw3:IntKind.wrap .i64 (wSum (h.Xz.take i)+h.Xz[i].Yc)=wSum (h.Xz.take i)+h.Xz[i].Yc:=aQ;rw [sb hi (by simp [fldE,p1,wBad,w1,w2,p3])];simp [bE,Fld.e,h1,h3,h4,hi,nf,ni,w1,w2,k3,hw,hw3];exact ih _ _ (Qc _) ⟨by simp [h1,Xi.e],by simp [fq hi],by simp,hz'⟩
 ·rintro e n L hL _ ⟨h1,h3,h4,hz⟩;have hs:=(rj h.Xz hz h.Xz.length (Qb _)).1;rw [fF] at h3 hs;have e3:wSum h.Xz % 8=(wSum h.Xz).tmod 8:=(AJ hs).symm;rw [vo,e3];rw [Xi.e] at h1;by_cases z:(wSum h.Xz).tmod 8=0
  ·simp [bE,jG,h1,h3,h4,hL,z]
  ·simp [bE,jG,h1,h3,h4,hL,z]
 ·simp [Xi.e,wSum]
theorem Gn (r:Xg) (hs:r.name.length<2^40):a8 Φ 112 [.agg (Xg.c r)]=some (.val (a7 (regE r))):=by
 rw [aB rfl rfl];have h1:=EG r.name hs;cases q1:idS r.name with
 | false=>rw [q1] at h1;simp [p9,Xg.e,h1,regE,q1]
 | true=>
  rw [q1] at h1;by_cases w1:r.Yc<1
  ·simp [p9,Xg.e,h1,regE,q1,wBad,w1]
  by_cases w2:32<r.Yc
  ·simp [p9,Xg.e,h1,regE,q1,wBad,w1,w2]
  by_cases z1:r.size<1
  ·simp [p9,Xg.e,h1,regE,q1,wBad,w1,w2,z1]
  by_cases z2:64<r.size
  ·simp [p9,Xg.e,h1,regE,q1,wBad,w1,w2,z1,z2]
  simp [p9,Xg.e,h1,regE,q1,wBad,w1,w2,z1,z2]
theorem pf (p:Prg) (h i:Int):a8 Φ 300 [.agg (Prg.c p),.agg [a7 h,a7 i]]=some (.val (match decl p h i with
  | some w=> .tup [.int .i64 w,.bool true]
  | none=> .tup [.int .i64 0,.bool false])):=by
 rw [aB rfl rfl,V5];by_cases hm:h= -1
 ·subst hm;by_cases i0:i<0
  ·rw [show cA p (-1) i=none by simp [cA,cY i0]];simp [lI,Prg.e,i0]
  by_cases i1:(p.Xn.length:Int)<=i
  ·rw [show cA p (-1) i=none by simp [cA,cW i1]];simp [lI,Prg.e,i0,i1]
  obtain ⟨k,rfl⟩:∃k:Nat,i=k:=⟨i.toNat,by omega⟩;have hk:k<p.Xn.length:=by omega
  rw [show cA p (-1) k=some p.Xn[k] by simp [cA,hk]];simp [lI,Prg.e,i0,i1,hk,Fld.e]
 by_cases h0:h<0
 ·rw [show cA p h i=none by simp [cA,hm,cY h0]];simp [lI,Prg.e,hm,h0]
 by_cases h1:(p.Xo.length:Int)<=h
 ·rw [show cA p h i=none by simp [cA,hm,cW h1]];simp [lI,Prg.e,hm,h0,h1]
 obtain ⟨m,rfl⟩:∃k:Nat,h=k:=⟨h.toNat,by omega⟩;have hk:m<p.Xo.length:=by omega
 by_cases i0:i<0
 ·rw [show cA p m i=none by simp [cA,hm,hk,cY i0]];simp [lI,Prg.e,hm,hk,Qf.2 hk,i0,Xi.e]
 by_cases i1:(p.Xo[m].Xz.length:Int)<=i
 ·rw [show cA p m i=none by simp [cA,hm,hk,cW i1]];simp [lI,Prg.e,hm,hk,Qf.2 hk,i0,i1,Xi.e]
 obtain ⟨k,rfl⟩:∃k:Nat,i=k:=⟨i.toNat,by omega⟩;have hk2:k<p.Xo[m].Xz.length:=by omega
 rw [show cA p m k=some p.Xo[m].Xz[k] by simp [cA,hm,hk,hk2]];simp [lI,Prg.e,hm,hk,Qf.2 hk,hk2,Qf.2 hk2,Xi.e,Fld.e]
theorem UX (w:Int):a8 Φ 379 [a7 w]=some (.val (.tup [a7 (wide w).1,a7 (wide w).2])):=by
 rw [aB rfl rfl];by_cases h1:w<1
 ·simp [yH,wide,wBad,h1]
 by_cases h2:32<w
 ·simp [yH,wide,wBad,h1,h2]
 simp [yH,wide,wBad,h1,h2]
theorem UW (w:Int):a8 Φ 307 [a7 w]=some (.val (.int .u32 (bC w))):=by
 rw [aB rfl rfl];have h1:=EH w;cases q:wBad w with
 | true=>
  rw [q] at h1;simp [BT,h1,bC,q]
 | false=>
  rw [q] at h1;obtain ⟨w1,w2⟩:=wBad_false.1 q;obtain ⟨k,rfl⟩:∃k:Nat,w=k:=⟨w.toNat,by omega⟩;have h2:=JM k (by omega);have hb:(2:Int)^k<=2^32:=by
   have:=AM (n:=2) (by omega) (show k<=32 by omega)
   exact_mod_cast this
  have h0:(0:Int)<2^k:=by
   have:=Nat.pow_pos (a:=2) (n:=k) (by omega)
   exact_mod_cast this
  have c1:IntKind.wrap .u64 ((2:Int)^k - 1)=2^k - 1:=vW;have c2:IntKind.wrap .u32 ((2:Int)^k - 1)=2^k - 1:=lz;simp [BT,h1,h2,c1,c2,bC,q]
theorem Kv (p:Prg) (ps:List Fld) (x:Xd):a8 Φ 335 [.agg (Xd.c x),.agg (scC p ps)]=some (.val (.tup [a7 (prim p ps x).1,a7 (prim p ps x).2])):=by
 rw [aB rfl rfl];by_cases o1:x.op=1
 ·have hw:=UX x.w;have hm:=UW x.w;have hmw:=qr x.w;cases q:wBad x.w with
  | true=>
   simp [wide,q] at hw;simp [eM,aE,Xd.e,o1,prim,hw,q]
  | false=>
   simp [wide,q] at hw;by_cases n0:x.n<0
   ·simp [eM,aE,Xd.e,o1,prim,hw,q,n0]
   have e:bC x.w=2^x.w.toNat - 1:=by simp [bC,q]
   rw [e] at hm hmw;by_cases n1:2^x.w.toNat - 1<x.n
   ·simp [eM,aE,Xd.e,o1,prim,hw,hm,hmw,q,n0,n1]
   ·simp [eM,aE,Xd.e,o1,prim,hw,hm,hmw,q,n0,n1]
 by_cases o2:x.op=2
 ·have hf:=pf p x.n x.w;simp only [Prg.e] at hf;cases q:decl p x.n x.w with
  | none=>
   rw [q] at hf;simp [eM,aE,Xd.e,o2,prim,hf,q]
  | some w=>
   rw [q] at hf;have hw:=UX w;simp [eM,aE,Xd.e,o2,prim,hf,hw,q]
 by_cases o3:x.op=3
 ·by_cases n0:x.n<0
  ·simp [eM,aE,Xd.e,o3,prim,n0,cY n0]
  by_cases n1:(ps.length:Int)<=x.n
  ·simp [eM,aE,Xd.e,o3,prim,n0,n1,cW n1]
  obtain ⟨k,hk⟩:∃k:Nat,x.n=k:=⟨x.n.toNat,by omega⟩;have hk2:k<ps.length:=by omega
  have hw:=UX ps[k].Yc;simp [eM,aE,Xd.e,Fld.e,o3,prim,hk,hk2,Qf.2 hk2,hw]
 by_cases n0:x.n<0
 ·simp [eM,aE,Xd.e,o1,o2,o3,prim,n0,cY n0]
 by_cases n1:(p.Xo.length:Int)<=x.n
 ·simp [eM,aE,Xd.e,o1,o2,o3,prim,n0,n1,cW n1]
 obtain ⟨k,hk⟩:∃k:Nat,x.n=k:=⟨x.n.toNat,by omega⟩;have hk2:k<p.Xo.length:=by omega
 simp [eM,aE,Xd.e,o1,o2,o3,prim,hk,hk2,Qf.2 hk2]
theorem ub (op:Int):a8 Φ 255 [a7 op]=some (.val (a7 (ari op))):=by
 rw [aB rfl rfl];rcases (show op<1\/(1<=op/\op<=4)\/(5<=op/\op<=8)\/(9<=op/\op<=16)\/op=17\/17<op by omega) with h | h | h | h | h | h
 ·have e:ari op= -1:=by unfold ari;rw [QA (by omega),QA (by omega),QA (by omega),QA (by omega)]
  rw [e];simp [qW,show ¬1<=op by omega,show ¬5<=op by omega,show ¬9<=op by omega,show ¬op=17 by omega]
 ·simp [qW,ari,h]
 ·simp [qW,ari,h,show 1<=op by omega,show ¬op<=4 by omega]
 ·simp [qW,ari,h,show 1<=op by omega,show ¬op<=4 by omega,show 5<=op by omega,show ¬op<=8 by omega]
 ·subst h;simp [qW,ari]
 ·have e:ari op= -1:=by unfold ari;rw [QA (by omega),QA (by omega),QA (by omega),QA (by omega)]
  rw [e];simp [qW,show 1<=op by omega,show ¬op<=4 by omega,show 5<=op by omega,show ¬op<=8 by omega,show 9<=op by omega,show ¬op<=16 by omega,show ¬op=17 by omega]
theorem ari_1 {op:Int} (h:ari op=1):op=5\/op=6\/op=7\/op=8:=by
 unfold ari at h;split at h
 ·omega
 split at h
 ·omega
 split at h
 ·omega
 split at h<;>omega
theorem ari_2 {op:Int} (h:ari op=2):9<=op/\op<=16:=by
 unfold ari at h;split at h
 ·omega
 split at h
 ·omega
 split at h
 ·omega
 split at h<;>omega
theorem ari_3 {op:Int} (h:ari op=3):op=17:=by
 unfold ari at h;split at h
 ·omega
 split at h
 ·omega
 split at h
 ·omega
 split at h<;>omega
theorem qy0 (x:Xd) (a:Int) (ha:0<=a/\a<=32) (hx:ari x.op=1):a8 Φ 336 [.agg (Xd.c x),.slice 1 [[a7 a]]]=some (.val (.tup [a7 (comb x a 0 0).1,a7 (comb x a 0 0).2])):=by
 rw [aB rfl rfl];rcases ari_1 hx with o | o | o | o
 ·simp [b6,Xd.e,o,comb,ari]
 ·by_cases n0:x.n<0
  ·simp [b6,Xd.e,o,comb,n0]
  by_cases n1:31<x.n
  ·simp [b6,Xd.e,o,comb,n0,n1]
  simp [b6,Xd.e,o,comb,n0,n1]
 ·by_cases n0:x.n<0
  ·simp [b6,Xd.e,o,comb,n0]
  by_cases n1:31<x.n
  ·simp [b6,Xd.e,o,comb,n0,n1]
  simp [b6,Xd.e,o,comb,n0,n1]
 ·by_cases n0:x.n<0
  ·simp [b6,Xd.e,o,comb,n0]
  by_cases w1:x.w<1
  ·simp [b6,Xd.e,o,comb,n0,wBad,w1]
  by_cases w2:32<x.w
  ·simp [b6,Xd.e,o,comb,n0,wBad,w1,w2]
  have hs:IntKind.wrap .i64 (a - x.w)=a - x.w:=aQ;by_cases n1:a - x.w<x.n
  ·simp [b6,Xd.e,o,comb,n0,wBad,w1,w2,hs,n1]
  ·simp [b6,Xd.e,o,comb,n0,wBad,w1,w2,hs,n1]
theorem qy1 (x:Xd) (a b:Int) (ha:0<=a/\a<=32) (hb:0<=b/\b<=32) (hx:ari x.op=2):a8 Φ 336 [.agg (Xd.c x),.slice 1 [[a7 a],[a7 b]]]=some (.val (.tup [a7 (comb x a b 0).1,a7 (comb x a b 0).2])):=by
 rw [aB rfl rfl];have hr:=ari_2 hx;have o5:¬x.op=5:=by omega
 have o6:¬x.op=6:=by omega
 have o7:¬x.op=7:=by omega
 have o8:¬x.op=8:=by omega
 have o17:¬x.op=17:=by omega
 have hab:IntKind.wrap .i64 (a+b)=a+b:=aQ;have hw2:=UX (a+b);by_cases o14:x.op=14
 ·simp [b6,Xd.e,o14,comb,hab,hw2]
 by_cases ab:a=b
 ·by_cases o15:x.op=15
  ·simp [b6,Xd.e,o15,comb,ab]
  by_cases o16:x.op=16
  ·simp [b6,Xd.e,o16,comb,ab]
  simp [b6,Xd.e,o5,o6,o7,o8,o14,o15,o16,o17,comb,hx,ab]
 ·simp [b6,Xd.e,o5,o6,o7,o8,o14,o17,comb,hx,ab]
theorem qy2 (x:Xd) (a b c:Int) (hx:ari x.op=3):a8 Φ 336 [.agg (Xd.c x),.slice 1 [[a7 a],[a7 b],[a7 c]]]=some (.val (.tup [a7 (comb x a b c).1,a7 (comb x a b c).2])):=by
 rw [aB rfl rfl];have o:=ari_3 hx;by_cases a1:a=1
 ·by_cases bc:b=c
  ·simp [b6,Xd.e,o,comb,a1,bc]
  ·simp [b6,Xd.e,o,comb,a1,bc]
 ·simp [b6,Xd.e,o,comb,a1]
theorem LD (p:Prg) (ps:List Fld) (l:List Xd) (hl:l.length<2^40):∀n i,l.length - i<n->i<=l.length->chkR (chk p ps l n i) (a8 Φ 251 [.slice 3 (l.map Xd.c),a7 (i:Nat),.agg (scC p ps)])
 | 0,i,h,hle=>by omega
 | n+1,i,h,hle=>by
  rw [aB rfl rfl];by_cases hi:i<l.length
  rotate_left
  ·have:i=l.length:=by omega
   subst this;simp [chk,chkR,nR,aE]
  have ih1:=LD p ps l hl n (i+1) (by omega) (by omega);have hA:=ub l[i].op;have hP:=Kv p ps l[i];have hw:IntKind.wrap .i64 ((i:Int)+1)=(i:Int)+1:=aQ;have e1:((i+1:Nat):Int)=(i:Int)+1:=by omega
  rw [e1] at ih1;simp only [aE,Xd.e] at ih1 hP;simp only [chk,Qa hi];rcases sg l[i].op with k | k | k | k | k
  ·rw [k] at hA;simp [chkR,nR,aE,Xd.e,hi,Qf.2 hi,hA,k]
  ·rw [k] at hA;by_cases z:(prim p ps l[i]).2=0
   ·rw [z] at hP;simp [chkR,nR,aE,Xd.e,hi,Qf.2 hi,hA,k,hP,z,hw]
   ·simp [chkR,nR,aE,Xd.e,hi,Qf.2 hi,hA,k,hP,z,hw]
  ·rw [k] at hA;simp [nR,aE,Xd.e,hi,Qf.2 hi,hA,k,hw];rw [aT];cases h1:chk p ps l n (i+1) with
   | error e=>
    rw [h1] at ih1;obtain ⟨he,a,b,hc⟩:=ih1;simp [bV,chkR,hc,he]
   | ok q=>
    obtain ⟨a,i1⟩:=q;rw [h1] at ih1;obtain ⟨ra,r1,r2⟩:=wG h1;have hC:=qy0 l[i] a (by omega) k;simp only [Xd.e] at hC;simp only [chkR] at ih1;simp [bV,ih1];rw [aT];simp [wr1,gO,hi,Xd.e,hC];exact N8 _ _ _
  ·rw [k] at hA;simp [nR,aE,Xd.e,hi,Qf.2 hi,hA,k,hw];rw [aT];cases h1:chk p ps l n (i+1) with
   | error e=>
    rw [h1] at ih1;obtain ⟨he,a,b,hc⟩:=ih1;simp [bV,chkR,hc,he]
   | ok q=>
    obtain ⟨a,i1⟩:=q;rw [h1] at ih1;obtain ⟨ra,r1,r2⟩:=wG h1;simp only [chkR] at ih1;simp [bV,ih1];rw [aT];have ih2:=LD p ps l hl n i1 (by omega) (by omega);simp only [aE] at ih2;cases h2:chk p ps l n i1 with
    | error e=>
     rw [h2] at ih2;obtain ⟨he,x,y,hc⟩:=ih2;simp [chkR,hc,he,wr1]
    | ok q=>
     obtain ⟨b,i2⟩:=q;rw [h2] at ih2;obtain ⟨rb,s1,s2⟩:=wG h2;simp only [chkR] at ih2;have hC:=qy1 l[i] a b (by omega) (by omega) k;simp only [Xd.e] at hC;simp [ih2,wr1];rw [aT];simp [wr2,gO,hi,Xd.e,hC];exact N8 _ _ _
  ·rw [k] at hA;simp [nR,aE,Xd.e,hi,Qf.2 hi,hA,k,hw];rw [aT];cases h1:chk p ps l n (i+1) with
   | error e=>
    rw [h1] at ih1;obtain ⟨he,a,b,hc⟩:=ih1;simp [bV,chkR,hc,he]
   | ok q=>
    obtain ⟨a,i1⟩:=q;rw [h1] at ih1;obtain ⟨ra,r1,r2⟩:=wG h1;simp only [chkR] at ih1;simp [bV,ih1];rw [aT];have ih2:=LD p ps l hl n i1 (by omega) (by omega);simp only [aE] at ih2;cases h2:chk p ps l n i1 with
    | error e=>
     rw [h2] at ih2;obtain ⟨he,x,y,hc⟩:=ih2;simp [chkR,hc,he,wr1]
    | ok q=>
     obtain ⟨b,i2⟩:=q;rw [h2] at ih2;obtain ⟨rb,s1,s2⟩:=wG h2;simp only [chkR] at ih2;simp [ih2,wr1];rw [aT];have ih3:=LD p ps l hl n i2 (by omega) (by omega);simp only [aE] at ih3;cases h3:chk p ps l n i2 with
     | error e=>
      rw [h3] at ih3;obtain ⟨he,x,y,hc⟩:=ih3;simp [chkR,hc,he,wr2]
     | ok q=>
      obtain ⟨c,i3⟩:=q;rw [h3] at ih3;simp only [chkR] at ih3;have hC:=qy2 l[i] a b c k;simp only [Xd.e] at hC;simp [ih3,wr2];rw [aT];simp [wr3,gO,hi,Xd.e,hC];exact N8 _ _ _
theorem VJ (p:Prg) (ps:List Fld) (l:List Xd):a8 Φ 161 [.slice 3 (l.map Xd.c),.agg (scC p ps)]=some (.val (.tup [a7 (exE p ps l).1,a7 (exE p ps l).2])):=by
 rw [aB rfl rfl];by_cases h:24<l.length
 ·simp [vB,aE,h,exE]
 have hc:=LD p ps l (by omega) (l.length+1) 0 (by omega) (by omega);simp only [aE,Int.ofNat_zero] at hc;cases q:chk p ps l (l.length+1) 0 with
 | error e=>
  rw [q] at hc;obtain ⟨he,a,b,hc⟩:=hc;simp [vB,aE,h,exE,q,hc,he]
 | ok r=>
  obtain ⟨w,j⟩:=r;rw [q] at hc;simp only [chkR] at hc;by_cases hj:j<l.length
  ·simp [vB,aE,h,exE,q,hc,hj]
  ·simp [vB,aE,h,exE,q,hc,hj]
theorem Gt (p:Prg) (ps:List Fld) (l:List Xd) (w:Int):a8 Φ 301 [.slice 3 (l.map Xd.c),.agg (scC p ps),a7 w]=some (.val (a7 (valE p ps l w))):=by
 rw [aB rfl rfl];have h:=VJ p ps l;simp only [aE] at h;by_cases z:(exE p ps l).2=0
 ·rw [z] at h;by_cases y:(exE p ps l).1=w
  ·simp [xZ,aE,h,valE,z,y]
  ·simp [xZ,aE,h,valE,z,y]
 ·simp [xZ,aE,h,valE,z]
theorem Gq (p:Prg) (ps:List Fld) (s:Xf):a8 Φ 188 [.agg (Prg.c p),.agg (Xf.c s),.agg (scC p ps)]=some (.val (a7 (stmE p ps s))):=by
 rw [aB rfl rfl];have hd:=pf p s.dst.header s.dst.field;have hi:=VJ p ps s.index;simp only [Prg.e] at hd;simp only [aE] at hi;have hr:(s.Ye<0/\at? p.Xl s.Ye=none)\/(¬s.Ye<0/\(p.Xl.length:Int)<=s.Ye/\at? p.Xl s.Ye=none)\/∃k:Nat,∃h:k<p.Xl.length,s.Ye=k/\at? p.Xl s.Ye=some p.Xl[k]:=by
  by_cases h0:s.Ye<0
  ·exact .inl ⟨h0,cY h0⟩
  by_cases h1:(p.Xl.length:Int)<=s.Ye
  ·exact .inr (.inl ⟨h0,h1,cW h1⟩)
  obtain ⟨k,hk⟩:∃k:Nat,s.Ye=k:=⟨s.Ye.toNat,by omega⟩;exact .inr (.inr ⟨k,by omega,hk,by rw [hk];simp⟩)
 have hx:∀w,a8 Φ 301 [.slice 3 (s.value.map Xd.c),.agg (scC p ps),a7 w]=some (.val (a7 (valE p ps s.value w))):=Gt p ps s.value;simp only [aE] at hx;have hd':a8 Φ 300 [.agg (uO p []),.agg [a7 s.dst.header,a7 s.dst.field]]=
   some (.val (.tup [a7 ((decl p s.dst.header s.dst.field).getD 0),.bool (decl p s.dst.header s.dst.field).isSome])):=by
  rw [hd];cases decl p s.dst.header s.dst.field<;>rfl
 clear hd;by_cases k1:s.kind=1
 ·rcases hr with ⟨r0,rn⟩ | ⟨r0,r1,rn⟩ | ⟨m,hm,rk,rn⟩<;>cases qd:decl p s.dst.header s.dst.field<;>rw [qd] at hd'
  ·simp [aM,Prg.e,aE,Xf.e,hd',stmE,qd,k1,uQ.2 r0]
  ·simp [aM,Prg.e,aE,Xf.e,hd',stmE,qd,k1,uQ.2 r0,hx]
  ·simp [aM,Prg.e,aE,Xf.e,hd',stmE,qd,k1,iG.1 r0,iG.2 r1]
  ·simp [aM,Prg.e,aE,Xf.e,hd',stmE,qd,k1,iG.1 r0,iG.2 r1,hx]
  ·simp [aM,Prg.e,aE,Xf.e,hd',stmE,qd,k1,rk,hm]
  ·simp [aM,Prg.e,aE,Xf.e,hd',stmE,qd,k1,rk,hm,hx]
 by_cases k2:s.kind=2
 ·have e:stmE p ps s=if (at? p.Xo s.header).isSome then 0 else 8:=by simp [stmE,k2]
  rw [e,U7];by_cases h0:s.header<0<;>by_cases h1:(p.Xo.length:Int)<=s.header<;>rcases hr with ⟨r0,rn⟩ | ⟨r0,r1,rn⟩ | ⟨m,hm,rk,rn⟩
  all_goals first
   | simp [aM,Prg.e,aE,Xf.e,hd',k2,uQ.2 r0,h0,h1]
   | simp [aM,Prg.e,aE,Xf.e,hd',k2,iG.1 r0,iG.2 r1,h0,h1]
   | simp [aM,Prg.e,aE,Xf.e,hd',k2,rk,hm,h0,h1]
 by_cases k3:s.kind=3
 ·have e:stmE p ps s=if (at? p.Xo s.header).isSome then 0 else 8:=by simp [stmE,k3]
  rw [e,U7];by_cases h0:s.header<0<;>by_cases h1:(p.Xo.length:Int)<=s.header<;>rcases hr with ⟨r0,rn⟩ | ⟨r0,r1,rn⟩ | ⟨m,hm,rk,rn⟩
  all_goals first
   | simp [aM,Prg.e,aE,Xf.e,hd',k3,uQ.2 r0,h0,h1]
   | simp [aM,Prg.e,aE,Xf.e,hd',k3,iG.1 r0,iG.2 r1,h0,h1]
   | simp [aM,Prg.e,aE,Xf.e,hd',k3,rk,hm,h0,h1]
 by_cases k4:s.kind=4
 ·cases qd:decl p s.dst.header s.dst.field with
  | none=>
   rw [qd] at hd';rcases hr with ⟨r0,rn⟩ | ⟨r0,r1,rn⟩ | ⟨m,hm,rk,rn⟩
   ·simp [aM,Prg.e,aE,Xf.e,hd',stmE,k4,uQ.2 r0,rn,qd]
   ·simp [aM,Prg.e,aE,Xf.e,hd',stmE,k4,iG.1 r0,iG.2 r1,rn,qd]
   ·rw [rk] at rn;simp [aM,Prg.e,aE,Xf.e,hd',stmE,k4,rk,hm,rn,qd]
  | some w=>
   rw [qd] at hd';rcases hr with ⟨r0,rn⟩ | ⟨r0,r1,rn⟩ | ⟨m,hm,rk,rn⟩
   ·simp [aM,Prg.e,aE,Xf.e,hd',stmE,k4,uQ.2 r0,rn,qd]
   ·simp [aM,Prg.e,aE,Xf.e,hd',stmE,k4,iG.1 r0,iG.2 r1,rn,qd]
   ·rw [rk] at rn;by_cases z:(exE p ps s.index).2=0
    ·rw [z] at hi;by_cases y:w=p.Xl[m].Yc
     ·simp [aM,Prg.e,aE,Xf.e,Xg.e,hd',stmE,k4,rk,hm,rn,qd,hi,z,y]
     ·simp [aM,Prg.e,aE,Xf.e,Xg.e,hd',stmE,k4,rk,hm,rn,qd,hi,z,y]
    ·simp [aM,Prg.e,aE,Xf.e,hd',stmE,k4,rk,hm,rn,qd,hi,z]
 by_cases k5:s.kind=5
 ·rcases hr with ⟨r0,rn⟩ | ⟨r0,r1,rn⟩ | ⟨m,hm,rk,rn⟩
  ·simp [aM,Prg.e,aE,Xf.e,hd',stmE,k5,uQ.2 r0,rn]
  ·simp [aM,Prg.e,aE,Xf.e,hd',stmE,k5,iG.1 r0,iG.2 r1,rn]
  ·rw [rk] at rn;by_cases z:(exE p ps s.index).2=0
   ·rw [z] at hi;simp [aM,Prg.e,aE,Xf.e,Xg.e,hd',stmE,k5,rk,hm,rn,hi,z,hx]
   ·simp [aM,Prg.e,aE,Xf.e,hd',stmE,k5,rk,hm,rn,hi,z]
 rcases hr with ⟨r0,rn⟩ | ⟨r0,r1,rn⟩ | ⟨m,hm,rk,rn⟩
 ·simp [aM,Prg.e,aE,Xf.e,hd',stmE,k1,k2,k3,k4,k5,uQ.2 r0]
 ·simp [aM,Prg.e,aE,Xf.e,hd',stmE,k1,k2,k3,k4,k5,iG.1 r0,iG.2 r1]
 ·simp [aM,Prg.e,aE,Xf.e,hd',stmE,k1,k2,k3,k4,k5,rk,hm]
theorem Ab (l:List Fld) (hl:l.length<2^40) (hf:∀f∈l,f.name.length<2^40):a8 Φ 187 [.slice 2 (l.map Fld.c)]=some (.val (a7 (errO (CQ l)))):=by
 rw [aB rfl rfl,show CQ l=fe (actG l) l.length 0 from rfl];simp [FR];refine dC l.length (fun i e=>look 0 e=some (.slice 2 (l.map Fld.c))/\look 3 e=some (a7 i))
  (fun i=>some (Rt.val (a7 (errO (fe (actG l) l.length i))))) ?_ ?_ 0 _ (Qc _) ?_
 ·rintro i e L hi hL ⟨h0,h3⟩ ih;have hw:=aF i (by omega);have nf:=EG l[i].name (hf _ (Qd hi));cases p1:idS l[i].name with
  | false=>
   rw [p1] at nf;rw [aJ (x:=6) hi (by simp [actG,hi,fldE,p1,er])];simp [cK,Fld.e,h0,h3,hi,nf]
  | true=>
  rw [p1] at nf;by_cases w1:l[i].Yc<1
  ·rw [aJ (x:=10) hi (by simp [actG,hi,fldE,p1,wBad,w1,er])];simp [cK,Fld.e,h0,h3,hi,nf,w1]
  by_cases w2:32<l[i].Yc
  ·rw [aJ (x:=10) hi (by simp [actG,hi,fldE,p1,wBad,w2,er])];simp [cK,Fld.e,h0,h3,hi,nf,w1,w2]
  generalize hX:some (Rt.val (a7 (errO (fe (actG l) l.length i))))=X;simp [cK,Fld.e,h0,h3,hi,nf,w1,w2];refine (A4 (l.take i) (fun g=>decide (g.name=l[i].name)) (some (Rt.val (a7 7))) (some (Rt.val (a7 (errO (fe (actG l) l.length (i+1))))))
   (fun k e H=>look 0 e=some (.slice 2 (l.map Fld.c))/\look 3 e=some (a7 i)/\look 4 e=some (a7 k)/\H=⟨[],0⟩/\(0<k->vV (l.take i) (fun g=>decide (g.name=l[i].name)) 0=vV (l.take i) (fun g=>decide (g.name=l[i].name)) k)) ?_ ?_ ?_ _ _ ?_).trans ?_
  ·rintro k e _ L' hk hL' ⟨h0,h3,h4,rfl,_⟩ hb;simp only [iF] at hk;have hk1:k<i:=by omega
   have hk2:k<l.length:=by omega
   simp only [sL,decide_eq_true_eq] at hb;simp [gG,Fld.e,h0,h3,h4,hk1,hk2,hi,hb]
  ·rintro k e _ L' X hk hL' ⟨h0,h3,h4,rfl,hy⟩ hb ih';have hb':=hb;have hk0:=hk;simp only [iF] at hk;have hk1:k<i:=by omega
   have hk2:k<l.length:=by omega
   simp only [sL,decide_eq_false_iff_not] at hb;have hw':=aF k (by omega);simp [gG,Fld.e,h0,h3,h4,hk1,hk2,hi,hb,hw'];refine ih' _ _ ⟨by simp [h0],by simp [h3],by simp,rfl,fun _=>?_⟩;rcases Qw k with rfl | hp
   ·exact LE hk0 hb'
   ·rw [hy hp];exact LE hk0 hb'
  ·rintro e _ L' hL' ⟨h0,h3,h4,rfl,hy⟩;have hm:min i l.length=i:=by omega
   simp [hm] at h4;simp [gG,qB,h3,h4,hL',hw];exact ih _ ⟨by simp [h0],by simp⟩
  ·simp [h0,h3]
  ·rw [<- hX];cases p3:dupN Fld.name l i l[i] with
   | true=>
    rw [aJ (x:=7) hi (by simp [actG,hi,fldE,p1,wBad,w1,w2,p3,er])];unfold dupN at p3;rw [p3];rfl
   | false=>
    rw [bP hi (by simp [actG,hi,fldE,p1,wBad,w1,w2,p3])];unfold dupN at p3;rw [p3];rfl
 ·rintro e L hL ⟨h0,h3⟩;rw [d6];simp [cK,qC,h0,h3,hL]
 ·simp
theorem xe (p:Prg) (k:Nat) (hk:k<p.Xx.length):a8 Φ 189 [.agg (Prg.c p),a7 k]=some (.val (.agg (scC p p.Xx[k].params))):=by
 rw [aB rfl rfl];simp [FS,Prg.e,aE,Action.e,hk]
theorem wx (p:Prg) (f:PrgS p) (i:Int):a8 Φ 113 [.agg (Prg.c p),a7 i]=some (.val (.tup [a7 (actE p i).1,a7 (actE p i).2])):=by
 rw [aB rfl rfl];by_cases i0:i<0
 ·simp [nP,Prg.e,i0,actE,cY i0]
 by_cases i1:(p.Xx.length:Int)<=i
 ·simp [nP,Prg.e,i0,i1,actE,cW i1]
 obtain ⟨k,rfl⟩:∃k:Nat,i=k:=⟨i.toNat,by omega⟩;have hk:k<p.Xx.length:=by omega
 have hm:=Qd hk;have n1:=EG p.Xx[k].name (f.an _ hm);have n2:=Ab p.Xx[k].params (f.ap _ hm) (f.apn _ hm);cases q1:idS p.Xx[k].name with
 | false=>rw [q1] at n1;simp [nP,Prg.e,Action.e,hk,Qf.2 hk,n1,actE,actD,q1]
 | true=>
 rw [q1] at n1;by_cases z0:4<p.Xx[k].params.length
 ·simp [nP,Prg.e,Action.e,hk,Qf.2 hk,n1,actE,actD,q1,z0]
 by_cases z1:12<p.Xx[k].body.length
 ·simp [nP,Prg.e,Action.e,hk,Qf.2 hk,n1,actE,actD,q1,z0,z1]
 by_cases z2:errO (CQ p.Xx[k].params)=0
 rotate_left
 ·simp [nP,Prg.e,Action.e,hk,Qf.2 hk,n1,n2,actE,actD,q1,z0,z1,z2]
 rw [z2] at n2;have hE:actE p k=(fe (DN p p.Xx[k]) p.Xx[k].body.length 0).getD (0,0):=by simp [actE,actD,hk,q1,z0,z1,z2]<;>rfl
 rw [hE];simp [nP,Prg.e,Action.e,hk,Qf.2 hk,n1,n2,z0,z1];have hb:=f.ab _ hm;refine cV p.Xx[k].body.length (fun _=>[]) 0 (fun i e=>look 1 e=some (a7 k)/\look 2 e=some (.iptr 9 [Prg.c p] 0 0)/\look 6 e=some (.iptr 3 [Action.c p.Xx[k]] 0 0)/\look 7 e=some (a7 i))
  (fun i=>some (Rt.val (.tup [a7 ((fe (DN p p.Xx[k]) p.Xx[k].body.length i).getD (0,0)).1,a7 ((fe (DN p p.Xx[k]) p.Xx[k].body.length i).getD (0,0)).2]))) ?_ ?_ 0 _ _ (Qc _) (Qc _) ?_
 ·rintro i e n L hi hL _ ⟨h1,h2,h6,h7⟩ ih;have hw:=aF i (by omega);have hs:=Gq p p.Xx[k].params p.Xx[k].body[i];have hsc:=xe p k hk;simp only [Xf.e,aE,Prg.e] at hs hsc;rw [Prg.e] at h2;rw [Action.e] at h6;by_cases y:stmE p p.Xx[k].params p.Xx[k].body[i]=0
  ·rw [y] at hs;rw [bP hi (by simp [DN,hi,y])];simp [fK,Xf.e,h1,h2,h6,h7,hi,hs,hsc,hw];exact ih _ _ (Qc _) ⟨by simp [h1],by simp [h2,Prg.e],by simp [h6,Action.e],by simp⟩
  ·rw [aJ (x:=((i:Int),stmE p p.Xx[k].params p.Xx[k].body[i])) hi (by simp [DN,hi,y])];simp [fK,Xf.e,h1,h2,h6,h7,hi,hs,hsc,y]
 ·rintro e n L hL _ ⟨h1,h2,h6,h7⟩;rw [d6];rw [Action.e] at h6;simp [fK,pA,h6,h7,hL]
 ·simp [Prg.e,Action.e]
theorem UF (p:Prg) (f:PrgS p) (c:Xb) (hc:c.args.length<2^40) (hv:∀v∈c.args,ok32 0 v):a8 Φ 121 [.agg (Prg.c p),.agg (Xb.c c)]=some (.val (a7 (nV p c))):=by
 rw [aB rfl rfl];by_cases i0:c.Xy<0
 ·simp [v8,Prg.e,Xb.e,i0,nV,cY i0]
 by_cases i1:(p.Xx.length:Int)<=c.Xy
 ·simp [v8,Prg.e,Xb.e,i0,i1,nV,cW i1]
 obtain ⟨k,hk0⟩:∃k:Nat,c.Xy=k:=⟨c.Xy.toNat,by omega⟩;have hk:k<p.Xx.length:=by omega
 by_cases z:c.args.length=p.Xx[k].params.length
 rotate_left
 ·simp [v8,Prg.e,Xb.e,Action.e,hk0,hk,Qf.2 hk,nV,z]
 have hE:nV p c=errO (fe (K3 c.args p.Xx[k].params) c.args.length 0):=by simp [nV,hk0,hk,z]<;>rfl
 rw [hE];simp [v8,Prg.e,Xb.e,Action.e,hk0,hk,Qf.2 hk,z];rw [<- z];refine dC c.args.length (fun i e=>look 3 e=some (.iptr 2 [Xb.c c] 0 0)/\look 5 e=some (.slice 2 (p.Xx[k].params.map Fld.c))/\look 6 e=some (a7 i))
  (fun i=>some (Rt.val (a7 (errO (fe (K3 c.args p.Xx[k].params) c.args.length i))))) ?_ ?_ 0 _ (Qc _) ?_
 ·rintro i e L hi hL ⟨h3,h5,h6⟩ ih;have hw:=aF i (by omega);have hi2:i<p.Xx[k].params.length:=by omega
  have hf:=UV c.args[i] p.Xx[k].params[i].Yc (hv _ (Qd hi));rw [Xb.e] at h3;cases y:fits c.args[i] p.Xx[k].params[i].Yc with
  | true=>
   rw [y] at hf;rw [bP hi (by simp [K3,hi,hi2,y])];simp [fS,Fld.e,c32,h3,h5,h6,hi,hi2,hf,hw];exact ih _ ⟨by simp [h3,Xb.e],by simp [h5],by simp⟩
  | false=>
   rw [y] at hf;rw [aJ (x:=9) hi (by simp [K3,hi,hi2,y])];simp [fS,Fld.e,c32,h3,h5,h6,hi,hi2,hf]
 ·rintro e L hL ⟨h3,h5,h6⟩;rw [d6];simp [fS,pG,h5,h6,hL,<- z]
 ·simp [Xb.e,hk0]
theorem ez (l:List Int) (x:Int) (hl:l.length<2^40):a8 Φ 201 [.slice 1 (l.map cI),a7 x]=some (.val (a7 (ix (fun s=>decide (s=x)) l 0))):=by
 rw [aB rfl rfl];simp [G0];refine (dC l.length (fun i e=>look 0 e=some (.slice 1 (l.map cI))/\look 1 e=some (a7 x)/\look 5 e=some (a7 i))
  (fun i=>some (.val (a7 (ix (fun s=>decide (s=x)) l i)))) ?_ ?_ 0 _ (Qc _) ?_).trans (by simp)
 ·rintro i e L hi hL ⟨h0,h1,h5⟩ ih;have hw:=aF i (by omega);by_cases z:l[i]=x
  ·rw [O6 hi (by simpa using z)];simp [gJ,cI,h0,h1,h5,hi,z]
  ·rw [NK hi (by simpa using z)];simp [gJ,cI,h0,h1,h5,hi,z,hw];exact ih _ ⟨by simp [h0],by simp [h1],by simp⟩
 ·rintro e L hL ⟨h0,h1,h5⟩;rw [O5];simp [gJ,qI,h0,h5,hL]
 ·simp
theorem Bk (p:Prg) (x:Tbl) (hl:x.keys.length<2^40):a8 Φ 190 [.agg (Prg.c p),.agg (Tbl.c x)]=some (.val (.tup [a7 (yU p x).1,a7 (yU p x).2])):=by
 rw [aB rfl rfl];have hE:yU p x=(fe (keyG p x) x.keys.length 0).getD (yV p x):=by
  unfold yU keyE;show (match fe (keyG p x) x.keys.length 0 with | some e=>e | none=>yV p x)=_;cases fe (keyG p x) x.keys.length 0<;>rfl
 rw [hE];simp [FT,Prg.e,Tbl.e];refine dC x.keys.length (fun i e=>look 2 e=some (.iptr 9 [Prg.c p] 0 0)/\look 3 e=some (.iptr 6 [Tbl.c x] 0 0)/\look 7 e=some (a7 ((x.keys.take i).countP fun k=>decide (k.kind=2):Nat))/\look 6 e=some (a7 ((kWid p x).take i).sum)/\look 8 e=some (a7 i))
  (fun i=>some (Rt.val (.tup [a7 ((fe (keyG p x) x.keys.length i).getD (yV p x)).1,a7 ((fe (keyG p x) x.keys.length i).getD (yV p x)).2]))) ?_ ?_ 0 _ (Qc _) ?_
 ·rintro i e L hi hL ⟨h2,h3,h7,h6,h8⟩ ih;have hw:=aF i (by omega);have hv:=tz p x.keys[i].field.header x.keys[i].field.field;simp only [Prg.e] at hv;rw [Prg.e] at h2;rw [Tbl.e] at h3;by_cases z:wid p x.keys[i].field.header x.keys[i].field.field=0
  ·rw [z] at hv;rw [aJ (x:=((i:Int),8)) hi (by simp [keyG,hi,z])];simp [aY,Xk.e,h2,h3,h8,hi,hv]
  have hs:=TZ p x (i+1) (by omega);have hs0:=TZ p x i (by omega);have he:((kWid p x).take (i+1)).sum=((kWid p x).take i).sum+wid p x.keys[i].field.header x.keys[i].field.field:=by
   have hl:i<(kWid p x).length:=by simp [kWid];omega
   rw [Qh hl,MA,M8];congr 1;simp [kWid]
  have hw7:IntKind.wrap .i64 (((kWid p x).take i).sum+wid p x.keys[i].field.header x.keys[i].field.field)=((kWid p x).take (i+1)).sum:=by rw [<- he];exact aQ
  have hc:(x.keys.take (i+1)).countP (fun k=>decide (k.kind=2))=(x.keys.take i).countP (fun k=>decide (k.kind=2))+if x.keys[i].kind=2 then 1 else 0:=by
   rw [Qh hi,List.countP_append];congr 1;simp [List.countP_cons]
  have hcl:(x.keys.take i).countP (fun k=>decide (k.kind=2))<=i:=by
   have:=List.countP_le_length (l:=x.keys.take i) (p:=fun k=>decide (k.kind=2));simp at this;omega
  have hw6:IntKind.wrap .i64 (((x.keys.take i).countP (fun k=>decide (k.kind=2)):Nat)+1:Int)=(((x.keys.take i).countP (fun k=>decide (k.kind=2))+1:Nat):Int):=aQ;by_cases k2:x.keys[i].kind=2
  ·rw [bP hi (by simp [keyG,hi,z,k2])];rw [a9 k2] at hc;simp [aY,Xk.e,h2,h3,h6,h7,h8,hi,hv,z,k2,hw7,hw6,hw];exact ih _ ⟨by simp [h2,Prg.e],by simp [h3,Tbl.e],by simp [hc],by simp,by simp⟩
  rw [QA k2] at hc;by_cases k1:x.keys[i].kind=1
  ·rw [bP hi (by simp [keyG,hi,z,k1])];simp [aY,Xk.e,h2,h3,h6,h8,hi,hv,z,k1,hw7,hw];exact ih _ ⟨by simp [h2,Prg.e],by simp [h3,Tbl.e],by simp [hc,h7],by simp,by simp⟩
  by_cases k3:x.keys[i].kind=3
  ·rw [bP hi (by simp [keyG,hi,z,k3])];simp [aY,Xk.e,h2,h3,h6,h8,hi,hv,z,k3,hw7,hw];exact ih _ ⟨by simp [h2,Prg.e],by simp [h3,Tbl.e],by simp [hc,h7],by simp,by simp⟩
  ·rw [aJ (x:=((i:Int),11)) hi (by simp [keyG,hi,z,k1,k2,k3])];simp [aY,Xk.e,h2,h3,h8,hi,hv,z,k1,k2,k3]
 ·rintro e L hL ⟨h2,h3,h7,h6,h8⟩;rw [d6];have ht:(kWid p x).take x.keys.length=kWid p x:=by rw [Qo];simp [kWid]
  rw [ht] at h6;rw [fF] at h7;rw [Tbl.e] at h3;by_cases y1:1<x.keys.countP (fun k=>decide (k.kind=2))
  ·simp [aY,gH,h3,h7,h8,hL,yV,y1]
  by_cases y2:64<(kWid p x).sum
  ·simp [aY,gH,h3,h6,h7,h8,hL,yV,y1,y2]
  ·simp [aY,gH,h3,h6,h7,h8,hL,yV,y1,y2]
 ·simp [Prg.e,Tbl.e]
theorem TW (x:Int) (l:List Int):l.contains x=l.any fun s=>decide (s=x):=by
 have:=MK (fun y:Int=>y) x l;rw [List.map_id'] at this;exact this
theorem Bq (p:Prg) (f:PrgS p) (x:Tbl) (hl:x.Xx.length<2^40) (hg:x.Yb.args.length<2^40) (hv:∀v∈x.Yb.args,ok32 0 v):a8 Φ 191 [.agg (Prg.c p),.agg (Tbl.c x)]=some (.val (a7 (K6 p x))):=by
 rw [aB rfl rfl,wm];simp [FU,Prg.e,Tbl.e];refine dC x.Xx.length (fun i e=>look 2 e=some (.iptr 9 [Prg.c p] 0 0)/\look 3 e=some (.iptr 6 [Tbl.c x] 0 0)/\look 5 e=some (a7 i))
  (fun i=>some (Rt.val (a7 ((fe (zU p x) x.Xx.length i).getD (AF p x))))) ?_ ?_ 0 _ (Qc _) ?_
 ·rintro i e L hi hL ⟨h2,h3,h5⟩ ih;have hw:=aF i (by omega);rw [Prg.e] at h2;rw [Tbl.e] at h3;by_cases z0:x.Xx[i]<0
  ·rw [aJ (x:=8) hi (by simp [zU,hi,z0])];simp [bT,cI,h3,h5,hi,z0]
  by_cases z1:(p.Xx.length:Int)<=x.Xx[i]
  ·rw [aJ (x:=8) hi (by simp [zU,hi,z0,z1])];simp [bT,cI,h2,h3,h5,hi,z0,z1]
  have hx:=ez x.Xx x.Xx[i] hl;obtain ⟨at',k1,k2⟩:=lq (q:=fun s:Int=>decide (s=x.Xx[i])) hi (by simp) i 0 (by omega);rw [show ix (fun s=>decide (s=x.Xx[i])) x.Xx 0=(fxO (fun s:Int=>decide (s=x.Xx[i])) x.Xx 0).getD (-1) from rfl,k1] at hx;rw [SE,<- TW] at k2;simp only [nO] at hx;cases q:(x.Xx.take i).contains x.Xx[i] with
  | true=>
   rw [q] at k2;have k3:at'<i:=by simpa using k2
   rw [aJ (x:=7) hi (by simp only [zU,Qa hi,dI];rw [QA (by omega),q];rfl)];simp [bT,cI,h2,h3,h5,hi,z0,z1,hx,k3]
  | false=>
   rw [q] at k2;have k3:¬at'<i:=by simpa using k2
   rw [bP hi (by simp only [zU,Qa hi,dI];rw [QA (by omega),q];rfl)];simp [bT,cI,h2,h3,h5,hi,z0,z1,hx,k3,hw];exact ih _ ⟨by simp [h2,Prg.e],by simp [h3,Tbl.e],by simp⟩
 ·rintro e L hL ⟨h2,h3,h5⟩;rw [d6];have hx:=ez x.Xx x.Yb.Xy hl;have hc:=UF p f x.Yb hg hv;have ha:=NZ (p:=fun s=>decide (s=x.Yb.Xy)) (l:=x.Xx);rw [<- TW] at ha;simp only [Prg.e,Xb.e] at hc;rw [Prg.e] at h2;rw [Tbl.e] at h3;cases q:x.Xx.contains x.Yb.Xy with
  | true=>
   rw [q] at ha;have ha2:¬ix (fun s=>decide (s=x.Yb.Xy)) x.Xx 0<0:=by simpa using ha
   rw [show AF p x=nV p x.Yb by simp only [AF,q];rfl];simp [bT,kF,h2,h3,h5,hL,hx,ha2,hc]
  | false=>
   rw [q] at ha;have ha2:ix (fun s=>decide (s=x.Yb.Xy)) x.Xx 0<0:=by simpa using ha
   rw [show AF p x=8 by simp only [AF,q];rfl];simp [bT,kF,h3,h5,hL,hx,ha2]
 ·simp [Prg.e,Tbl.e]
theorem gx (p:Prg) (f:PrgS p) (hv:∀t∈p.Xm,∀v∈t.Yb.args,ok32 0 v) (t:Int):a8 Φ 114 [.agg (Prg.c p),a7 t]=some (.val (.tup [a7 (tblE p t).1,a7 (tblE p t).2])):=by
 rw [aB rfl rfl];by_cases i0:t<0
 ·simp [fL,Prg.e,i0,tblE,cY i0]
 by_cases i1:(p.Xm.length:Int)<=t
 ·simp [fL,Prg.e,i0,i1,tblE,cW i1]
 obtain ⟨k,rfl⟩:∃k:Nat,t=k:=⟨t.toNat,by omega⟩;have hk:k<p.Xm.length:=by omega
 have hm:=Qd hk;have n1:=EG p.Xm[k].name (f.tn _ hm);have h1:=Bk p p.Xm[k] (f.tk _ hm);have h2:=Bq p f p.Xm[k] (f.ta _ hm) (f.tg _ hm) (hv _ hm);simp only [Prg.e,Tbl.e] at h1 h2;cases q1:idS p.Xm[k].name with
 | false=>rw [q1] at n1;simp [fL,Prg.e,Tbl.e,hk,Qf.2 hk,n1,tblE,q1]
 | true=>
 rw [q1] at n1;by_cases z0:6<p.Xm[k].keys.length
 ·simp [fL,Prg.e,Tbl.e,hk,Qf.2 hk,n1,tblE,q1,z0]
 by_cases z1:16<p.Xm[k].Xx.length
 ·simp [fL,Prg.e,Tbl.e,hk,Qf.2 hk,n1,tblE,q1,z0,z1]
 by_cases z2:p.Xm[k].size<1
 ·simp [fL,Prg.e,Tbl.e,hk,Qf.2 hk,n1,tblE,q1,z0,z1,z2]
 by_cases z3:256<p.Xm[k].size
 ·simp [fL,Prg.e,Tbl.e,hk,Qf.2 hk,n1,tblE,q1,z0,z1,z2,z3]
 by_cases y1:(yU p p.Xm[k]).2=0
 rotate_left
 ·simp [fL,Prg.e,Tbl.e,hk,Qf.2 hk,n1,tblE,q1,z0,z1,z2,z3,h1,y1]
 rw [y1] at h1;by_cases y2:K6 p p.Xm[k]=0
 ·rw [y2] at h2;simp [fL,Prg.e,Tbl.e,hk,Qf.2 hk,n1,tblE,q1,z0,z1,z2,z3,h1,y1,h2,y2]
 ·simp [fL,Prg.e,Tbl.e,hk,Qf.2 hk,n1,tblE,q1,z0,z1,z2,z3,h1,y1,h2,y2]
theorem uc (p:Prg) (s:Nat) (n:Int):a8 Φ 304 [.agg (Prg.c p),a7 s,a7 n]=some (.val (.bool (oW p s n))):=by
 rw [aB rfl rfl];by_cases n1:n= -1
 ·simp [vM,Prg.e,oW,n1]
 by_cases n2:n= -2
 ·simp [vM,Prg.e,oW,n2]
 by_cases n3:(s:Int)<n
 ·simp [vM,Prg.e,oW,n1,n2,n3]
 ·simp [vM,Prg.e,oW,n1,n2,n3]
theorem Uq {p:Prg} {h i:Int} (z:wid p h i≠0):wBad (wid p h i)=false:=by
 unfold wid at z ⊢;cases q:decl p h i with
 | none=>rw [q] at z;simp at z
 | some w=>
  rw [q] at z;simp only at z ⊢;cases y:wBad w with
  | true=>rw [y] at z;simp at z
  | false=>simpa using y
theorem Bg (p:Prg) (s:Nat) (hs:s<p.Xw.length) (hv:∀c∈p.Xw[s].cases,ok32 0 c.value/\ok32 0 c.Yd) (hl:p.Xw[s].cases.length<2^40) (hz:p.Xw[s].cases.length=0\/wid p p.Xw[s].on.header p.Xw[s].on.field≠0):
  a8 Φ 303 [.agg (Prg.c p),a7 s]=some (.val (.tup [a7 ((fe (sF p s p.Xw[s]) p.Xw[s].cases.length 0).getD (-1,0)).1,a7 ((fe (sF p s p.Xw[s]) p.Xw[s].cases.length 0).getD (-1,0)).2])):=by
 rw [aB rfl rfl];have hw:=SA p p.Xw[s].on.header p.Xw[s].on.field;simp only [Prg.e] at hw;simp [HD,Prg.e,Xc.e,hs,hw];refine cV p.Xw[s].cases.length (fun _=>[]) 0 (fun i e=>look 1 e=some (a7 s)/\look 2 e=some (.iptr 9 [Prg.c p] 0 0)/\look 6 e=some (.iptr 7 [Xc.c p.Xw[s]] 0 0)/\look 7 e=some (a7 (wid p p.Xw[s].on.header p.Xw[s].on.field))/\look 8 e=some (a7 i))
  (fun i=>some (Rt.val (.tup [a7 ((fe (sF p s p.Xw[s]) p.Xw[s].cases.length i).getD (-1,0)).1,a7 ((fe (sF p s p.Xw[s]) p.Xw[s].cases.length i).getD (-1,0)).2]))) ?_ ?_ 0 _ _ (Qc _) (Qc _) ?_
 ·rintro i e n L hi hL _ ⟨h1,h2,h6,h7,h8⟩ ih;have hwi:=aF i (by omega);have hc:=hv _ (Qd hi);have hz':wid p p.Xw[s].on.header p.Xw[s].on.field≠0:=by
   rcases hz with hz | hz
   ·omega
   ·exact hz
  have hb:=Uq hz';have hbr:=wBad_false.1 hb;obtain ⟨k,hk⟩:∃k:Nat,wid p p.Xw[s].on.header p.Xw[s].on.field=k:=⟨(wid p p.Xw[s].on.header p.Xw[s].on.field).toNat,by omega⟩;have f1:=S5 p.Xw[s].cases[i].value hc.1 k (by omega);have f2:=S5 p.Xw[s].cases[i].Yd hc.2 k (by omega);have e1:∀v,fits v (wid p p.Xw[s].on.header p.Xw[s].on.field)=decide (v<2^k):=by
   intro v;unfold fits;rw [hb,hk];simp
  have hd:=uc p s p.Xw[s].cases[i].next;have ha:=sf hc.1 hc.2;simp only [Prg.e] at hd;rw [Prg.e] at h2;rw [Xc.e] at h6;rw [hk] at h7;have done:∀z:Int,z≠0->tD p s p.Xw[s] p.Xw[s].cases[i]=z->fe (sF p s p.Xw[s]) p.Xw[s].cases.length i=some ((i:Int),z):=by
   intro z z0 z1;exact aJ hi (by simp [sF,hi,z1,z0])
  by_cases y1:p.Xw[s].cases[i].value<2^k
  rotate_left
  ·rw [done 9 (by decide) (by simp [tD,e1,y1])];simp [bW,Xj.e,h6,h7,h8,hi,f1,y1]
  by_cases y2:p.Xw[s].cases[i].Yd<2^k
  rotate_left
  ·rw [done 9 (by decide) (by simp [tD,e1,y2])];simp [bW,Xj.e,h6,h7,h8,hi,f1,f2,y1,y2]
  by_cases y3:iand .u32 p.Xw[s].cases[i].value p.Xw[s].cases[i].Yd=p.Xw[s].cases[i].value
  rotate_left
  ·have y3':¬(p.Xw[s].cases[i].value.toNat&&& p.Xw[s].cases[i].Yd.toNat=p.Xw[s].cases[i].value.toNat):=fun h=>y3 (ha.2 h)
   rw [done 5 (by decide) (by simp [tD,e1,y1,y2,y3'])];simp [bW,Xj.e,h6,h7,h8,hi,f1,f2,y1,y2,y3]
  have y3':=ha.1 y3;cases y4:oW p s p.Xw[s].cases[i].next with
  | false=>
   rw [y4] at hd;rw [done 14 (by decide) (by simp [tD,e1,y1,y2,y3',y4])];simp [bW,Xj.e,h1,h2,h6,h7,h8,hi,f1,f2,y1,y2,y3,hd]
  | true=>
   rw [y4] at hd;rw [bP hi (by simp [sF,hi,tD,e1,y1,y2,y3',y4])];simp [bW,Xj.e,h1,h2,h6,h7,h8,hi,f1,f2,y1,y2,y3,hd,hwi];exact ih _ _ (Qc _) ⟨by simp [h1],by simp [h2,Prg.e],by simp [h6,Xc.e],by simp [h7,hk],by simp⟩
 ·rintro e n L hL _ ⟨h1,h2,h6,h7,h8⟩;rw [d6];rw [Xc.e] at h6;simp [bW,rA,h6,h8,hL]
 ·simp [Prg.e,Xc.e]
theorem Nc (p:Prg) (s:Nat) (hs:s<p.Xw.length) (hv:∀c∈p.Xw[s].cases,ok32 0 c.value/\ok32 0 c.Yd) (hl:p.Xw[s].cases.length<2^40) (e:Env) (n:Nat)
  (h1:look 1 e=some (a7 s)) (h2:look 2 e=some (.iptr 9 [Prg.c p] 0 0)) (h6:look 6 e=some (.iptr 7 [Xc.c p.Xw[s]] 0 0)):
  go Φ (finP [.tmp 4,.tmp 5]) [.c aS] .normal ⟨e,⟨[],n⟩⟩=some (.val (.tup [a7 (stK p s p.Xw[s]).1,a7 (stK p s p.Xw[s]).2])):=by
 have hw:=SA p p.Xw[s].on.header p.Xw[s].on.field;have hd:=uc p s p.Xw[s].Yb;simp only [Prg.e] at hw hd;rw [Prg.e] at h2;rw [Xc.e] at h6;have fin:∀(hz:p.Xw[s].cases.length=0\/wid p p.Xw[s].on.header p.Xw[s].on.field≠0),∃a b,a8 Φ 303 [.agg (Prg.c p),a7 s]=some (.val (.tup [a7 a,a7 b]))/\
   ((b=0/\(fe (sF p s p.Xw[s]) p.Xw[s].cases.length 0).getD (stF p s p.Xw[s])=stF p s p.Xw[s])\/(b≠0/\(fe (sF p s p.Xw[s]) p.Xw[s].cases.length 0).getD (stF p s p.Xw[s])=(a,b))):=by
  intro hz;have hc:=Bg p s hs hv hl hz;refine ⟨_,_,hc,?_⟩;cases q:fe (sF p s p.Xw[s]) p.Xw[s].cases.length 0 with
  | none=>exact .inl ⟨rfl,rfl⟩
  | some x=>
   refine .inr ⟨?_,rfl⟩;intro h0;have:x.2=0:=h0;have key:∀m i x,feF (sF p s p.Xw[s]) m i=some x->x.2≠0:=by
    intro m
    induction m with
    | zero=>intro i x h;simp [feF] at h
    | succ m ih=>
     intro i x h;simp only [feF] at h;cases g:sF p s p.Xw[s] i with
     | none=>rw [g] at h;exact ih _ _ h
     | some y=>
      rw [g] at h;cases h;unfold sF at g;cases gi:p.Xw[s].cases[i]? with
      | none=>rw [gi] at g;simp at g
      | some c=>
       rw [gi] at g;simp only [dI] at g;split at g
       ·cases g
       ·rename_i hne;cases g;exact hne
   exact key _ _ _ q this
 cases q:p.Xw[s].select with
 | true=>
  rw [q] at h6;by_cases z:wid p p.Xw[s].on.header p.Xw[s].on.field=0
  ·rw [z] at hw;simp [aS,h2,h6,hw,stK,q,z]
  obtain ⟨a,b,hc,hab⟩:=fin (.inr z);simp only [Prg.e] at hc;rw [show stK p s p.Xw[s]=(fe (sF p s p.Xw[s]) p.Xw[s].cases.length 0).getD (stF p s p.Xw[s]) by simp [stK,q,z]];rcases hab with ⟨b0,e1⟩ | ⟨b0,e1⟩
  ·rw [e1];rw [b0] at hc;cases y:oW p s p.Xw[s].Yb with
   | true=>rw [y] at hd;simp [aS,h1,h2,h6,hw,z,hc,hd,stF,y]
   | false=>rw [y] at hd;simp [aS,h1,h2,h6,hw,z,hc,hd,stF,y]
  ·rw [e1];simp [aS,h1,h2,h6,hw,z,hc,b0]
 | false=>
  rw [q] at h6;by_cases z:0<p.Xw[s].cases.length
  ·simp [aS,h6,stK,q,z]
  have z0:p.Xw[s].cases.length=0:=by omega
  obtain ⟨a,b,hc,hab⟩:=fin (.inl z0);simp only [Prg.e] at hc;rw [show stK p s p.Xw[s]=(fe (sF p s p.Xw[s]) p.Xw[s].cases.length 0).getD (stF p s p.Xw[s]) by simp [stK,q,z0]];rcases hab with ⟨b0,e1⟩ | ⟨b0,e1⟩
  ·rw [e1];rw [b0] at hc;cases y:oW p s p.Xw[s].Yb with
   | true=>rw [y] at hd;simp [aS,h1,h2,h6,z0,hc,hd,stF,y]
   | false=>rw [y] at hd;simp [aS,h1,h2,h6,z0,hc,hd,stF,y]
  ·rw [e1];simp [aS,h1,h2,h6,z0,hc,b0]
theorem Nb (p:Prg) (f:PrgS p) (s:Nat) (hs:s<p.Xw.length) (e:Env) (n:Nat)
  (h1:look 1 e=some (a7 s)) (h2:look 2 e=some (.iptr 9 [Prg.c p] 0 0)) (h6:look 6 e=some (.iptr 7 [Xc.c p.Xw[s]] 0 0)):
  go Φ (finP [.tmp 4,.tmp 5]) [.c dW] .normal ⟨e,⟨[],n⟩⟩=some (.val (.tup [a7 (stE p s p.Xw[s]).1,a7 (stE p s p.Xw[s]).2])):=by
 rw [R0];have hm:=Qd hs;have hse:=f.se _ hm;rw [Xc.e] at h6;by_cases z0:4<p.Xw[s].extract.length
 ·simp [dW,h6,z0]
 by_cases z1:8<p.Xw[s].cases.length
 ·simp [dW,h6,z0,z1]
 rw [QA (by omega)];generalize hX:(if p.Xw[s].extract.any (fun h=>decide (h<0) || decide ((p.Xo.length:Int)<=h))=true then ((-1:Int),(8:Int)) else stK p s p.Xw[s])=X;simp [dW,h6,z0,z1];refine (A4 p.Xw[s].extract (fun h=>decide (h<0) || decide ((p.Xo.length:Int)<=h)) (some (Rt.val (.tup [a7 (-1),a7 8]))) (some (Rt.val (.tup [a7 (stK p s p.Xw[s]).1,a7 (stK p s p.Xw[s]).2])))
  (fun i e H=>look 1 e=some (a7 s)/\look 2 e=some (.iptr 9 [Prg.c p] 0 0)/\look 6 e=some (.iptr 7 [Xc.c p.Xw[s]] 0 0)/\look 8 e=some (a7 i)/\H=⟨[],n⟩) ?_ ?_ ?_ _ _ ?_).trans ?_
 ·rintro i e _ L hi hL ⟨h1,h2,h6,h8,rfl⟩ hb;rw [Prg.e] at h2;rw [Xc.e] at h6;simp only [D3,decide_eq_true_eq] at hb;by_cases y0:p.Xw[s].extract[i]<0
  ·simp [dX,cI,h6,h8,hi,y0]
  ·have y1:(p.Xo.length:Int)<=p.Xw[s].extract[i]:=by omega
   simp [dX,cI,h2,h6,h8,hi,y0,y1]
 ·rintro i e _ L X hi hL ⟨h1,h2,h6,h8,rfl⟩ hb ih;have hw:=aF i (by omega);rw [Prg.e] at h2;rw [Xc.e] at h6;simp only [EY,decide_eq_false_iff_not] at hb;simp [dX,cI,h2,h6,h8,hi,hb,hw];exact ih _ _ ⟨by simp [h1],by simp [h2,Prg.e],by simp [h6,Xc.e],by simp,rfl⟩
 ·rintro e _ L hL ⟨h1,h2,h6,h8,rfl⟩;rw [Xc.e] at h6;simp [dX,h6,h8,hL];refine Nc p s hs (fun c hc=>f.sv _ hm c hc) (f.sc _ hm) _ _ ?_ ?_ ?_
  ·simp [h1]
  ·simp [h2]
  ·simp [h6,Xc.e]
 ·simp [h1,h2,h6,Xc.e]
 ·rw [<- hX];cases p.Xw[s].extract.any (fun h=>decide (h<0) || decide ((p.Xo.length:Int)<=h))<;>rfl
def stA (p:Prg) (s:Nat) (x:Xc):Int×Int:=if idS x.name=false then (-1,6) else if dupN Xc.name p.Xw s x then (-1,7) else stE p s x
theorem Bp (p:Prg) (f:PrgS p) (s:Nat) (hs:s<p.Xw.length):a8 Φ 192 [.agg (Prg.c p),a7 s]=some (.val (.tup [a7 (stA p s p.Xw[s]).1,a7 (stA p s p.Xw[s]).2])):=by
 rw [aB rfl rfl];have hm:=Qd hs;have n1:=EG p.Xw[s].name (f.sn _ hm);have hsl:=f.s;cases q1:idS p.Xw[s].name with
 | false=>rw [q1] at n1;simp [BD,Prg.e,Xc.e,hs,n1,stA,q1]
 | true=>
 rw [q1] at n1;have hE:stA p s p.Xw[s]=if dupN Xc.name p.Xw s p.Xw[s]=true then (-1,7) else stE p s p.Xw[s]:=by simp [stA,q1]
 rw [hE];unfold dupN;generalize hX:(if (p.Xw.take s).any (fun y=>decide (y.name=p.Xw[s].name))=true then ((-1:Int),(7:Int)) else stE p s p.Xw[s])=X;simp [BD,Prg.e,Xc.e,hs,n1];refine (A4 (p.Xw.take s) (fun y=>decide (y.name=p.Xw[s].name)) (some (Rt.val (.tup [a7 (-1),a7 7]))) (some (Rt.val (.tup [a7 (stE p s p.Xw[s]).1,a7 (stE p s p.Xw[s]).2])))
  (fun k e H=>look 1 e=some (a7 s)/\look 2 e=some (.iptr 9 [Prg.c p] 0 0)/\look 6 e=some (.iptr 7 [Xc.c p.Xw[s]] 0 0)/\look 7 e=some (a7 k)/\∃n,H=⟨[],n⟩) ?_ ?_ ?_ _ _ ?_).trans ?_
 ·rintro k e _ L hk hL ⟨h1,h2,h6,h7,n,rfl⟩ hb;simp only [iF] at hk;have hk1:k<s:=by omega
  have hk2:k<p.Xw.length:=by omega
  simp only [sL,decide_eq_true_eq] at hb;rw [Prg.e] at h2;rw [Xc.e] at h6;simp [gI,Xc.e,h1,h2,h6,h7,hk1,hk2,hb]
 ·rintro k e _ L X hk hL ⟨h1,h2,h6,h7,n,rfl⟩ hb ih;simp only [iF] at hk;have hk1:k<s:=by omega
  have hk2:k<p.Xw.length:=by omega
  simp only [sL,decide_eq_false_iff_not] at hb;have hw:=aF k (by omega);rw [Prg.e] at h2;rw [Xc.e] at h6;simp [gI,Xc.e,h1,h2,h6,h7,hk1,hk2,hb,hw];exact ih _ _ ⟨by simp [h1],by simp [h2,Prg.e],by simp [h6,Xc.e],by simp,n,rfl⟩
 ·rintro e _ L hL ⟨h1,h2,h6,h7,n,rfl⟩;have hmn:min s p.Xw.length=s:=by omega
  simp [hmn] at h7;simp [gI,h1,h7,hL];refine Nb p f s hs _ _ ?_ ?_ ?_
  ·simp [h1]
  ·simp [h2]
  ·simp [h6]
 ·simp [Prg.e,Xc.e]
 ·rw [<- hX];cases (p.Xw.take s).any (fun y=>decide (y.name=p.Xw[s].name))<;>rfl
theorem xb (p:Prg) (f:PrgS p):a8 Φ 115 [.agg (Prg.c p)]=some (tup3 (parE p)):=by
 rw [aB rfl rfl];by_cases z0:p.Xw.length=0
 ·simp [wK,Prg.e,z0,parE,tup3]
 by_cases z1:12<p.Xw.length
 ·simp [wK,Prg.e,z0,z1,parE,tup3]
 have hE:parE p=(fe (parG p) p.Xw.length 0).getD (0,0,0):=by unfold parE;rw [QA z0,QA z1];rfl
 rw [hE];simp [wK,Prg.e,z0,z1];refine dC p.Xw.length (fun i e=>look 1 e=some (.iptr 9 [Prg.c p] 0 0)/\look 5 e=some (a7 i))
  (fun i=>some (tup3 ((fe (parG p) p.Xw.length i).getD (0,0,0)))) ?_ ?_ 0 _ (Qc _) ?_
 ·rintro i e L hi hL ⟨h1,h5⟩ ih;have hw:=aF i (by omega);have hs:=Bp p f i hi;simp only [Prg.e] at hs;rw [Prg.e] at h1;by_cases y:(stA p i p.Xw[i]).2=0
  ·rw [y] at hs;have e1:parG p i=none:=by
    unfold stA at y;unfold parG;rw [Qa hi,dI];split at y
    ·simp at y
    ·rename_i a1;split at y
     ·simp at y
     ·rename_i a2;rw [QA a1,QA a2,a9 y]
   rw [bP hi e1];simp [fM,h1,h5,hi,hs,hw];exact ih _ ⟨by simp [h1,Prg.e],by simp⟩
  ·have e1:parG p i=some ((i:Int),(stA p i p.Xw[i]).1,(stA p i p.Xw[i]).2):=by
    unfold stA at y ⊢;unfold parG;rw [Qa hi,dI];split
    ·rfl
    ·rename_i a1;rw [QA a1] at y;split
     ·rfl
     ·rename_i a2;rw [QA a2] at y;rw [QA y]
   rw [aJ hi e1];simp [fM,h1,h5,hi,hs,y,tup3]
 ·rintro e L hL ⟨h1,h5⟩;rw [d6];rw [Prg.e] at h1;simp [fM,pB,h1,h5,hL,tup3]
 ·simp [Prg.e]
theorem wy (p:Prg) (f:PrgS p):a8 Φ 117 [.agg (Prg.c p)]=some (.val (.tup [a7 (depE p).1,a7 (depE p).2])):=by
 rw [aB rfl rfl];by_cases z1:8<p.Xr.length
 ·simp [AW,Prg.e,z1,depE]
 have hE:depE p=(fe (depG p) p.Xr.length 0).getD (0,0):=by unfold depE;rw [QA z1];rfl
 rw [hE];simp [AW,Prg.e,z1];refine dC p.Xr.length (fun i e=>look 1 e=some (.iptr 9 [Prg.c p] 0 0)/\look 4 e=some (a7 i))
  (fun i=>some (Rt.val (.tup [a7 ((fe (depG p) p.Xr.length i).getD (0,0)).1,a7 ((fe (depG p) p.Xr.length i).getD (0,0)).2]))) ?_ ?_ 0 _ (Qc _) ?_
 ·rintro i e L hi hL ⟨h1,h4⟩ ih;have hw:=aF i (by omega);rw [Prg.e] at h1;by_cases y0:p.Xr[i]<0
  ·rw [aJ (x:=((i:Int),8)) hi (by simp [depG,hi,y0])];simp [dM,cI,h1,h4,hi,y0]
  by_cases y1:(p.Xo.length:Int)<=p.Xr[i]
  ·rw [aJ (x:=((i:Int),8)) hi (by simp [depG,hi,y0,y1])];simp [dM,cI,h1,h4,hi,y0,y1]
  generalize hX:some (Rt.val (.tup [a7 ((fe (depG p) p.Xr.length i).getD (0,0)).1,a7 ((fe (depG p) p.Xr.length i).getD (0,0)).2]))=X;simp [dM,cI,h1,h4,hi,y0,y1];refine (A4 (p.Xr.take i) (fun g=>decide (g=p.Xr[i])) (some (Rt.val (.tup [a7 i,a7 7]))) (some (Rt.val (.tup [a7 ((fe (depG p) p.Xr.length (i+1)).getD (0,0)).1,a7 ((fe (depG p) p.Xr.length (i+1)).getD (0,0)).2])))
   (fun k e H=>look 1 e=some (.iptr 9 [Prg.c p] 0 0)/\look 4 e=some (a7 i)/\look 5 e=some (a7 k)/\H=⟨[],0⟩) ?_ ?_ ?_ _ _ ?_).trans ?_
  ·rintro k e _ L' hk hL' ⟨h1,h4,h5,rfl⟩ hb;simp only [iF] at hk;have hk1:k<i:=by omega
   have hk2:k<p.Xr.length:=by omega
   simp only [sL,decide_eq_true_eq] at hb;rw [Prg.e] at h1;simp [fP,cI,h1,h4,h5,hk1,hk2,hi,hb]
  ·rintro k e _ L' X hk hL' ⟨h1,h4,h5,rfl⟩ hb ih';simp only [iF] at hk;have hk1:k<i:=by omega
   have hk2:k<p.Xr.length:=by omega
   simp only [sL,decide_eq_false_iff_not] at hb;have hw':=aF k (by omega);rw [Prg.e] at h1;simp [fP,cI,h1,h4,h5,hk1,hk2,hi,hb,hw'];exact ih' _ _ ⟨by simp [h1,Prg.e],by simp [h4],by simp,rfl⟩
  ·rintro e _ L' hL' ⟨h1,h4,h5,rfl⟩;have hm:min i p.Xr.length=i:=by omega
   simp [hm] at h5;simp [fP,pD,h4,h5,hL',hw];exact ih _ ⟨by simp [h1],by simp⟩
  ·simp [h1,h4,Prg.e]
  ·rw [<- hX];cases q:(p.Xr.take i).contains p.Xr[i] with
   | true=>
    rw [aJ (x:=((i:Int),7)) hi (by simp only [depG,Qa hi,dI];rw [QA (by omega),q];rfl)];rw [TW] at q;rw [q];rfl
   | false=>
    rw [bP hi (by simp only [depG,Qa hi,dI];rw [QA (by omega),q];rfl)];rw [TW] at q;rw [q];rfl
 ·rintro e L hL ⟨h1,h4⟩;rw [d6];rw [Prg.e] at h1;simp [dM,pE,h1,h4,hL]
 ·simp [Prg.e]
end Go.Av
