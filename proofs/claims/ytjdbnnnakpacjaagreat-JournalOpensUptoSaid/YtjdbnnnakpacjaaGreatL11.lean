/-
 The check of a program: the reference's answers for the other parts.
-/
import Derived.Test.YtjdbnnnakpacjaaGreatK17
set_option linter.unusedVariables false
set_option linter.unusedSimpArgs false
namespace Go.Av
set_option maxRecDepth 4000
theorem Ci (l:List Fld) (i:Nat) (hi:i<l.length) (hl:l.length<2^40) (hf:∀f∈l,f.name.length<2^40):a9 Φ CP [.slice 2 (l.map Fld.c),a8 i]=some (.val (a8 (fldE l i l[i]))):=by
 rw [aA rfl rfl];have nf:=HK l[i].name (hf _ (Qd hi));cases p1:idS l[i].name with
 | false=>
  rw [p1] at nf;simp [pV,Fld.e,hi,nf,fldE,p1]
 | true=>
 rw [p1] at nf;by_cases w1:l[i].Yd<1
 ·simp [pV,Fld.e,hi,nf,fldE,p1,wBad,w1]
 by_cases w2:32<l[i].Yd
 ·simp [pV,Fld.e,hi,nf,fldE,p1,wBad,w1,w2]
 rw [show fldE l i l[i]=if dupN Fld.name l i l[i]=true then 7 else 0 by simp [fldE,p1,wBad,w1,w2]];unfold dupN;generalize hX:some (Rt.val (a8 (if (l.take i).any (fun y=>decide (y.name=l[i].name))=true then 7 else 0)))=X;simp [pV,Fld.e,hi,nf,w1,w2];refine (zJ (l.take i) (fun y=>decide (y.name=l[i].name)) (some (Rt.val (a8 7))) (some (Rt.val (a8 0)))
  (fun k e H=>look 0 e=some (.slice 2 (l.map Fld.c))/\look 1 e=some (a8 i)/\look 5 e=some (a8 k)/\H=⟨[],0⟩) ?_ ?_ ?_ _ _ ?_).trans ?_
 ·rintro k e _ L' hk hL' ⟨h0,h1,h5,rfl⟩ hb;simp only [fU] at hk;have hk1:k<i:=by omega
  have hk2:k<l.length:=by omega
  simp only [mG,decide_eq_true_eq] at hb;simp [c_199_l0,Fld.e,h0,h1,h5,hk1,hk2,hi,hb]
 ·rintro k e _ L' X hk hL' ⟨h0,h1,h5,rfl⟩ hb ih';simp only [fU] at hk;have hk1:k<i:=by omega
  have hk2:k<l.length:=by omega
  have hw':=aL k (by omega);simp only [mG,decide_eq_false_iff_not] at hb;simp [c_199_l0,Fld.e,h0,h1,h5,hk1,hk2,hi,hb,hw'];exact ih' _ _ ⟨by simp [h0],by simp [h1],by simp,rfl⟩
 ·rintro e _ L' hL' ⟨h0,h1,h5,rfl⟩;have hm:min i l.length=i:=by omega
  simp [hm] at h5;simp [c_199_l0,c_199_k1,h1,h5,hL']
 ·simp
 ·rw [<- hX];cases (l.take i).any (fun y=>decide (y.name=l[i].name))<;>rfl
variable (p:Prg)
theorem Gc (e:Env) (h1:look 1 e=some (.iptr 9 [Prg.c p] 0 0)) (h2:look 2 e=some (.ptr 0 4 0 0)):go Φ (finP [.cell 2 true 4]) [.c c_133_k3] .normal ⟨e,dH⟩=some (dgR (fe (metH p) 3 0)):=by
 rw [Prg.e] at h1;simp [c_133_k3,dH];rw [bG];by_cases l0:p.Xo.length<=0
 ·rw [aZ (x:=(5,2,0,0)) (by omega) (by unfold metH;rw [Qk l0];rfl)];have hnil:p.Xo=[]:=Qg (by omega);simp [c_133_l1,h1,h2,hnil,gW,dgR,dgC]
 have k0:0<p.Xo.length:=by omega
 have hne:¬p.Xo=[]:=by intro h;rw [h] at k0;simp at k0
 by_cases a0:p.Xo[0].name=[105,110]
 rotate_left
 ·rw [aZ (x:=(5,2,0,0)) (by omega) (by unfold metH;rw [Qa k0,QA (by simp [o9,Fld.eq_iff,a0])];rfl)];simp [c_133_l1,Fld.e,h1,h2,hne,k0,a0,gW,dgR,dgC]
 by_cases b0:p.Xo[0].Yd=8
 rotate_left
 ·rw [aZ (x:=(5,2,0,0)) (by omega) (by unfold metH;rw [Qa k0,QA (by simp [o9,Fld.eq_iff,b0])];rfl)];simp [c_133_l1,Fld.e,h1,h2,hne,k0,a0,b0,gW,dgR,dgC]
 rw [cZ (by omega) (by unfold metH;rw [Qa k0,aB (by simp [o9,Fld.eq_iff,a0,b0])])];simp [c_133_l1,Fld.e,h1,hne,k0,a0,b0,wr1];rw [bG];by_cases l1:p.Xo.length<=1
 ·rw [aZ (x:=(5,2,1,0)) (by omega) (by unfold metH;rw [Qk l1];rfl)];simp [h1,h2,l1,gW,dgR,dgC]
 have k1:1<p.Xo.length:=by omega
 by_cases a1:p.Xo[1].name=[111,117,116]
 rotate_left
 ·rw [aZ (x:=(5,2,1,0)) (by omega) (by unfold metH;rw [Qa k1,QA (by simp [o9,Fld.eq_iff,a1])];rfl)];simp [Fld.e,h1,h2,k1,l1,a1,gW,dgR,dgC]
 by_cases b1:p.Xo[1].Yd=8
 rotate_left
 ·rw [aZ (x:=(5,2,1,0)) (by omega) (by unfold metH;rw [Qa k1,QA (by simp [o9,Fld.eq_iff,b1])];rfl)];simp [Fld.e,h1,h2,k1,l1,a1,b1,gW,dgR,dgC]
 rw [cZ (by omega) (by unfold metH;rw [Qa k1,aB (by simp [o9,Fld.eq_iff,a1,b1])])];simp [Fld.e,h1,k1,l1,a1,b1,wr2];rw [bG];by_cases l2:p.Xo.length<=2
 ·rw [aZ (x:=(5,2,2,0)) (by omega) (by unfold metH;rw [Qk l2];rfl)];simp [h1,h2,l2,gW,dgR,dgC]
 have k2:2<p.Xo.length:=by omega
 by_cases a2:p.Xo[2].name=[100,114,111,112]
 rotate_left
 ·rw [aZ (x:=(5,2,2,0)) (by omega) (by unfold metH;rw [Qa k2,QA (by simp [o9,Fld.eq_iff,a2])];rfl)];simp [Fld.e,h1,h2,k2,l2,a2,gW,dgR,dgC]
 by_cases b2:p.Xo[2].Yd=1
 rotate_left
 ·rw [aZ (x:=(5,2,2,0)) (by omega) (by unfold metH;rw [Qa k2,QA (by simp [o9,Fld.eq_iff,b2])];rfl)];simp [Fld.e,h1,h2,k2,l2,a2,b2,gW,dgR,dgC]
 rw [cZ (by omega) (by unfold metH;rw [Qa k2,aB (by simp [o9,Fld.eq_iff,a2,b2])])];simp [Fld.e,h1,k2,l2,a2,b2,wr3];rw [bG,dV];simp [c_133_k2,h2,dgR,dgC]
section
variable (f:PrgS p)
include f
theorem Gb:a9 Φ BZ [.agg (Prg.c p)]=some (dgR (metD p)):=by
 rw [aA rfl rfl,Wc];by_cases z:12<p.Xo.length
 ·simp [AC,Prg.e,z,gW,dgR,dgC]
 rw [QA z];simp [AC,Prg.e,z];refine fJ p.Xo.length (fun i e=>look 1 e=some (.iptr 9 [Prg.c p] 0 0)/\look 2 e=some (.ptr 0 4 0 0)/\look 3 e=some (a8 i))
  (fun i=>some (dgR ((fe (metG p) p.Xo.length i).or (fe (metH p) 3 0)))) ?_ ?_ 0 _ (Qc _) ?_
 ·rintro i e L hi hL ⟨h1,h2,h3⟩ ih;have hlen:=f.m;have hw:=aL i (by omega);have ef:=Ci p.Xo i hi f.m f.mn;rw [Prg.e] at h1;by_cases y:fldE p.Xo i p.Xo[i]=0
  ·rw [y] at ef;rw [cZ hi (by simp [metG,hi,y])];simp [c_133_l0,h1,h3,hi,ef,hw];exact ih _ ⟨by simp [h1,Prg.e],by simp [h2],by simp⟩
  ·rw [aZ (x:=(fldE p.Xo i p.Xo[i],2,(i:Int),0)) hi (by simp [metG,hi,y])];simp [c_133_l0,h1,h2,h3,hi,ef,y,gW,dgR,dgC]
 ·rintro e L hL ⟨h1,h2,h3⟩;rw [dV];have hh:=Gc p;simp only [dH] at hh;rw [Prg.e] at h1;simp [c_133_l0,h1,h3,hL];apply hh
  ·simp [h1,Prg.e]
  ·simp [h2]
 ·simp [Prg.e]
theorem Ku (hc:(pre p.Yb).length<2^40 - 1):a9 Φ C3 [.agg (Prg.c p)]=some (dgR (floD p)):=by
 rw [aA rfl rfl];have e1:=Et p f;have e2:=Fp p hc;have e3:=Ft p f;simp only [Prg.e,tup3] at e1 e2 e3;by_cases y1:(parE p).2.2=0
 rotate_left
 ·simp [pO,Prg.e,e1,y1,gW,floD,dgR,dgC]
 rw [y1] at e1;by_cases y2:(ctlE p).2=0
 rotate_left
 ·simp [pO,Prg.e,e1,y1,e2,y2,gW,floD,dgR,dgC]
 rw [y2] at e2;by_cases y3:(depE p).2=0
 rotate_left
 ·simp [pO,Prg.e,e1,y1,e2,y2,e3,y3,gW,floD,dgR,dgC]
 rw [y3] at e3;simp [pO,Prg.e,e1,y1,e2,y2,e3,y3,floD,dgR,dgC]
theorem Ev:a9 Φ C0 [.agg (Prg.c p)]=some (dgR (regD p)):=by
 rw [aA rfl rfl,show regD p=fe (regG p) p.Xm.length 0 from rfl];simp [J9,Prg.e];refine fJ p.Xm.length (fun i e=>look 1 e=some (.iptr 9 [Prg.c p] 0 0)/\look 2 e=some (.ptr 0 4 0 0)/\look 3 e=some (a8 i))
  (fun i=>some (dgR (fe (regG p) p.Xm.length i))) ?_ ?_ 0 _ (Qc _) ?_
 ·rintro i e L hi hL ⟨h1,h2,h3⟩ ih;have hlen:=f.r;have hw:=aL i (by omega);have hm:=Qd hi;have eh:=Ew p.Xm[i] (f.rn _ hm);simp only [Xh.e] at eh;rw [Prg.e] at h1;have bad:∀c:Int,c≠0->yQ p i p.Xm[i]=c->fe (regG p) p.Xm.length i=some (c,3,(i:Int),0):=fun c h0 h=>aZ hi (by simp [regG,hi,h,h0])
  by_cases z1:regE p.Xm[i]=0
  rotate_left
  ·rw [bad _ z1 (by simp [yQ,z1])];simp [c_134_l3,Xh.e,h1,h3,hi,eh];rw [bG];by_cases hi0:0<i<;>simp [c_134_l0,c_134_k1,h2,h3,z1,hi0,gW,dgR,dgC]
  generalize hX:some (dgR (fe (regG p) p.Xm.length i))=X;simp [c_134_l3,Xh.e,h1,h3,hi,eh,z1];refine (qsu (p.Xm.take i) (fun y=>decide (y.name=p.Xm[i].name)) (some (dgR (some (7,3,(i:Int),0)))) (some (dgR (fe (regG p) p.Xm.length (i+1))))
   (fun k b e H=>look 1 e=some (.iptr 9 [Prg.c p] 0 0)/\look 2 e=some (.ptr 0 4 0 0)/\look 3 e=some (a8 i)/\look 4 e=some (a8 (if b then 7 else 0))/\look 5 e=some (a8 k)/\H=dH) ?_ ?_ ?_ ?_ _ _ ?_).trans ?_
  ·rintro k e _ L' Y hk hL' ⟨h1,h2,h3,h4,h5,rfl⟩ hb ih';simp only [fU] at hk;have hk1:k<i:=by omega
   have hk2:k<p.Xm.length:=by omega
   have hw':=aL k (by omega);simp only [mG,decide_eq_true_eq] at hb;rw [Prg.e] at h1;simp at h4;simp [c_134_l0,Xh.e,h1,h3,h4,h5,hk1,hk2,hi,hb,hw'];exact ih' _ _ ⟨by simp [h1,Prg.e],by simp [h2],by simp [h3],by simp,by simp,rfl⟩
  ·rintro k e _ L' Y hk hL' ⟨h1,h2,h3,h4,h5,rfl⟩ hb ih';simp only [fU] at hk;have hk1:k<i:=by omega
   have hk2:k<p.Xm.length:=by omega
   have hw':=aL k (by omega);simp only [mG,decide_eq_false_iff_not] at hb;rw [Prg.e] at h1;simp at h4;simp [c_134_l0,Xh.e,h1,h3,h4,h5,hk1,hk2,hi,hb,hw'];exact ih' _ _ ⟨by simp [h1,Prg.e],by simp [h2],by simp [h3],by simp [h4],by simp,rfl⟩
  ·rintro k e _ L' hk hL' ⟨h1,h2,h3,h4,h5,rfl⟩;simp only [fU] at hk;simp at h4;by_cases hk1:k<i
   ·simp [c_134_l0,c_134_k1,h2,h3,h4,h5,hk1,hL',gW,dgR,dgC,dH]
   ·simp [c_134_l0,c_134_k1,h2,h3,h4,h5,hk1,hL',gW,dgR,dgC,dH]
  ·rintro e _ L' hL' ⟨h1,h2,h3,h4,h5,rfl⟩;have hmn:min i p.Xm.length=i:=by omega
   simp [hmn] at h4 h5;simp [c_134_l0,c_134_k1,c_134_k2,h3,h4,h5,hL',hw];exact ih _ ⟨by simp [h1],by simp [h2],by simp⟩
  ·simp [h1,h2,h3,Prg.e,dH]
  ·rw [<- hX];cases q:dupN Xh.name p.Xm i p.Xm[i] with
   | true=>
    rw [bad 7 (by decide) (by simp [yQ,z1,q])];unfold dupN at q;rw [q];rfl
   | false=>
    rw [cZ hi (by simp [regG,hi,yQ,z1,q])];unfold dupN at q;rw [q];rfl
 ·rintro e L hL ⟨h1,h2,h3⟩;rw [dV];rw [Prg.e] at h1;simp [c_134_l3,c_134_k4,h1,h2,h3,hL,dgR,dgC]
 ·simp [Prg.e]
theorem Be:a9 Φ C1 [.agg (Prg.c p)]=some (dgR (s8 p)):=by
 rw [aA rfl rfl,show s8 p=fe (acG p) p.Xy.length 0 from rfl];simp [JA,Prg.e];refine fJ p.Xy.length (fun i e=>look 1 e=some (.iptr 9 [Prg.c p] 0 0)/\look 2 e=some (.ptr 0 4 0 0)/\look 3 e=some (a8 i))
  (fun i=>some (dgR (fe (acG p) p.Xy.length i))) ?_ ?_ 0 _ (Qc _) ?_
 ·rintro i e L hi hL ⟨h1,h2,h3⟩ ih;have hlen:=f.a;have hw:=aL i (by omega);have et:=Fl p f i;simp only [Prg.e] at et;rw [Prg.e] at h1;by_cases y:(actE p i).2=0
  rotate_left
  ·rw [aZ (x:=((actE p i).2,4,(i:Int),(actE p i).1)) hi (by simp [acG,hi,y])];simp [c_135_l2,h1,h2,h3,hi,et,y,gW,dgR,dgC]
  rw [y] at et;generalize hX:some (dgR (fe (acG p) p.Xy.length i))=X;simp [c_135_l2,h1,h3,hi,et];refine (zJ (p.Xy.take i) (fun g=>decide (g.name=p.Xy[i].name)) (some (dgR (some (7,4,(i:Int),0)))) (some (dgR (fe (acG p) p.Xy.length (i+1))))
   (fun k e H=>look 1 e=some (.iptr 9 [Prg.c p] 0 0)/\look 2 e=some (.ptr 0 4 0 0)/\look 3 e=some (a8 i)/\look 6 e=some (a8 k)/\H=dH) ?_ ?_ ?_ _ _ ?_).trans ?_
  ·rintro k e _ L' hk hL' ⟨h1,h2,h3,h6,rfl⟩ hb;simp only [fU] at hk;have hk1:k<i:=by omega
   have hk2:k<p.Xy.length:=by omega
   simp only [mG,decide_eq_true_eq] at hb;rw [Prg.e] at h1;simp [c_135_l0,Action.e,h1,h2,h3,h6,hk1,hk2,hi,hb,gW,dgR,dgC,dH]
  ·rintro k e _ L' Y hk hL' ⟨h1,h2,h3,h6,rfl⟩ hb ih';simp only [fU] at hk;have hk1:k<i:=by omega
   have hk2:k<p.Xy.length:=by omega
   have hw':=aL k (by omega);simp only [mG,decide_eq_false_iff_not] at hb;rw [Prg.e] at h1;simp [c_135_l0,Action.e,h1,h3,h6,hk1,hk2,hi,hb,hw'];exact ih' _ _ ⟨by simp [h1,Prg.e],by simp [h2],by simp [h3],by simp,rfl⟩
  ·rintro e _ L' hL' ⟨h1,h2,h3,h6,rfl⟩;have hm:min i p.Xy.length=i:=by omega
   simp [hm] at h6;simp [c_135_l0,c_135_k1,h3,h6,hL',hw];exact ih _ ⟨by simp [h1],by simp [h2],by simp⟩
  ·simp [h1,h2,h3,Prg.e,dH]
  ·rw [<- hX];cases q:dupN Action.name p.Xy i p.Xy[i] with
   | true=>
    rw [aZ (x:=(7,4,(i:Int),0)) hi (by simp [acG,hi,y,q])];unfold dupN at q;rw [q];rfl
   | false=>
    rw [cZ hi (by simp [acG,hi,y,q])];unfold dupN at q;rw [q];rfl
 ·rintro e L hL ⟨h1,h2,h3⟩;rw [dV];rw [Prg.e] at h1;simp [c_135_l2,c_135_k3,h1,h2,h3,hL,dgR,dgC]
 ·simp [Prg.e]
theorem Fa (hv:∀t∈p.Xn,∀v∈t.Yc.args,ok32 0 v):a9 Φ C2 [.agg (Prg.c p)]=some (dgR (tblD p)):=by
 rw [aA rfl rfl,show tblD p=fe (tbG p) p.Xn.length 0 from rfl];simp [JB,Prg.e];refine fJ p.Xn.length (fun i e=>look 1 e=some (.iptr 9 [Prg.c p] 0 0)/\look 2 e=some (.ptr 0 4 0 0)/\look 3 e=some (a8 i))
  (fun i=>some (dgR (fe (tbG p) p.Xn.length i))) ?_ ?_ 0 _ (Qc _) ?_
 ·rintro i e L hi hL ⟨h1,h2,h3⟩ ih;have hlen:=f.t;have hw:=aL i (by omega);have et:=Va p f hv i;simp only [Prg.e] at et;rw [Prg.e] at h1;by_cases y:(tblE p i).2=0
  rotate_left
  ·rw [aZ (x:=((tblE p i).2,5,(i:Int),(tblE p i).1)) hi (by simp [tbG,hi,y])];simp [c_136_l2,h1,h2,h3,hi,et,y,gW,dgR,dgC]
  rw [y] at et;generalize hX:some (dgR (fe (tbG p) p.Xn.length i))=X;simp [c_136_l2,h1,h3,hi,et];refine (zJ (p.Xn.take i) (fun g=>decide (g.name=p.Xn[i].name)) (some (dgR (some (7,5,(i:Int),0)))) (some (dgR (fe (tbG p) p.Xn.length (i+1))))
   (fun k e H=>look 1 e=some (.iptr 9 [Prg.c p] 0 0)/\look 2 e=some (.ptr 0 4 0 0)/\look 3 e=some (a8 i)/\look 6 e=some (a8 k)/\H=dH) ?_ ?_ ?_ _ _ ?_).trans ?_
  ·rintro k e _ L' hk hL' ⟨h1,h2,h3,h6,rfl⟩ hb;simp only [fU] at hk;have hk1:k<i:=by omega
   have hk2:k<p.Xn.length:=by omega
   simp only [mG,decide_eq_true_eq] at hb;rw [Prg.e] at h1;simp [c_136_l0,Tbl.e,h1,h2,h3,h6,hk1,hk2,hi,hb,gW,dgR,dgC,dH]
  ·rintro k e _ L' Y hk hL' ⟨h1,h2,h3,h6,rfl⟩ hb ih';simp only [fU] at hk;have hk1:k<i:=by omega
   have hk2:k<p.Xn.length:=by omega
   have hw':=aL k (by omega);simp only [mG,decide_eq_false_iff_not] at hb;rw [Prg.e] at h1;simp [c_136_l0,Tbl.e,h1,h3,h6,hk1,hk2,hi,hb,hw'];exact ih' _ _ ⟨by simp [h1,Prg.e],by simp [h2],by simp [h3],by simp,rfl⟩
  ·rintro e _ L' hL' ⟨h1,h2,h3,h6,rfl⟩;have hm:min i p.Xn.length=i:=by omega
   simp [hm] at h6;simp [c_136_l0,c_136_k1,h3,h6,hL',hw];exact ih _ ⟨by simp [h1],by simp [h2],by simp⟩
  ·simp [h1,h2,h3,Prg.e,dH]
  ·rw [<- hX];cases q:dupN Tbl.name p.Xn i p.Xn[i] with
   | true=>
    rw [aZ (x:=(7,5,(i:Int),0)) hi (by simp [tbG,hi,y,q])];unfold dupN at q;rw [q];rfl
   | false=>
    rw [cZ hi (by simp [tbG,hi,y,q])];unfold dupN at q;rw [q];rfl
 ·rintro e L hL ⟨h1,h2,h3⟩;rw [dV];rw [Prg.e] at h1;simp [c_136_l2,c_136_k3,h1,h2,h3,hL,dgR,dgC]
 ·simp [Prg.e]
end
theorem zN {α:Type} {f:Nat->Option α} {N:Nat} {x:α}:∀{i},fe f N i=some x->∃k,k<N/\f k=some x:=by
 have key:∀n i,feF f n i=some x->∃k,k<i+n/\f k=some x:=by
  intro n
  induction n with
  | zero=>intro i h;simp [feF] at h
  | succ n ih=>
   intro i h;simp only [feF] at h;cases q:f i with
   | some y=>rw [q] at h;cases h;exact ⟨i,by omega,q⟩
   | none=>
    rw [q] at h;obtain ⟨k,h1,h2⟩:=ih _ h;exact ⟨k,by omega,h2⟩
 intro i h;unfold fe at h;obtain ⟨k,h1,h2⟩:=key _ _ h;by_cases hi:i<=N
 ·exact ⟨k,by omega,h2⟩
 ·rw [show N - i=0 by omega] at h;simp [feF] at h
variable {d:Dg}
theorem Kc {p:Prg} (h:limD p=some d):d.1≠0:=by
 unfold limD at h
 repeat' split at h
 all_goals first
  | (cases h;decide)
  | (cases h)
theorem Jp {p:Prg} (h:hdrD p=some d):d.1≠0:=by
 obtain ⟨k,hk,h⟩:=zN (f:=hdrG p) h;rw [hdrG,Qa hk,iW] at h;split at h
 ·cases h
 ·rename_i z;cases h;exact z
theorem Kg {p:Prg} (h:metD p=some d):d.1≠0:=by
 rw [Wc] at h;split at h
 ·cases h;decide
 ·cases q:fe (metG p) p.Xo.length 0 with
  | some x=>
   rw [q] at h;cases h;obtain ⟨k,hk,h⟩:=zN q;rw [metG,Qa hk,iW] at h;split at h
   ·cases h
   ·rename_i z;cases h;exact z
  | none=>
   rw [q,Option.none_or] at h;obtain ⟨k,hk,h⟩:=zN h;unfold metH at h;split at h
   ·cases h
   ·cases h;simp
theorem Kq {p:Prg} (h:regD p=some d):d.1≠0:=by
 obtain ⟨k,hk,h⟩:=zN (f:=regG p) h;rw [regG,Qa hk,iW] at h;split at h
 ·cases h
 ·rename_i z;cases h;exact z
theorem Cc {p:Prg} (h:s8 p=some d):d.1≠0:=by
 obtain ⟨k,hk,h⟩:=zN (f:=acG p) h;rw [acG,Qa hk,iW] at h;split at h
 ·rename_i z;cases h;exact z
 ·split at h
  ·cases h;simp
  ·cases h
theorem Mz {p:Prg} (h:tblD p=some d):d.1≠0:=by
 obtain ⟨k,hk,h⟩:=zN (f:=tbG p) h;rw [tbG,Qa hk,iW] at h;split at h
 ·rename_i z;cases h;exact z
 ·split at h
  ·cases h;simp
  ·cases h
theorem Zt (f:PrgS p) (hv:∀t∈p.Xn,∀v∈t.Yc.args,ok32 0 v) (hc:(pre p.Yb).length<2^40 - 1):a9 Φ EH [.agg (Prg.c p)]=some (.val (.agg (dgC (prgD p)))):=by
 rw [aA rfl rfl];have h1:=Ma p f;have h2:=Fx p f;have h3:=Gb p f;have h4:=Ev p f;have h5:=Be p f;have h6:=Fa p f hv;have h7:=Ku p f hc;simp only [Prg.e] at h1 h2 h3 h4 h5 h6 h7;unfold prgD;cases q1:limD p with
 | some d=>have n:=Kc q1;rw [q1] at h1;simp [oK,Prg.e,h1,dgR,dgC,n]
 | none=>
 rw [q1] at h1;cases q2:hdrD p with
 | some d=>have n:=Jp q2;rw [q2] at h2;simp [oK,Prg.e,h1,h2,dgR,dgC,n]
 | none=>
 rw [q2] at h2;cases q3:metD p with
 | some d=>have n:=Kg q3;rw [q3] at h3;simp [oK,Prg.e,h1,h2,h3,dgR,dgC,n]
 | none=>
 rw [q3] at h3;cases q4:regD p with
 | some d=>have n:=Kq q4;rw [q4] at h4;simp [oK,Prg.e,h1,h2,h3,h4,dgR,dgC,n]
 | none=>
 rw [q4] at h4;cases q5:s8 p with
 | some d=>have n:=Cc q5;rw [q5] at h5;simp [oK,Prg.e,h1,h2,h3,h4,h5,dgR,dgC,n]
 | none=>
 rw [q5] at h5;cases q6:tblD p with
 | some d=>have n:=Mz q6;rw [q6] at h6;simp [oK,Prg.e,h1,h2,h3,h4,h5,h6,dgR,dgC,n]
 | none=>
 rw [q6] at h6;cases q7:floD p with
 | some d=>rw [q7] at h7;simp [oK,Prg.e,h1,h2,h3,h4,h5,h6,h7,dgR,dgC]
 | none=>rw [q7] at h7;simp [oK,Prg.e,h1,h2,h3,h4,h5,h6,h7,dgR,dgC]
def IsB (x:Option Rt):Prop:=∃b,x=some (.val (.bool b))
@[simp] theorem a1H (b:Bool):IsB (some (.val (.bool b))):=⟨b,rfl⟩
theorem OS {Φ:FuncId->Option AFun} {I:Type} {fin:Option (Ex×St)->Option I} {h:AH} (N:Nat) (Inv:Nat->Env->Prop) (Q:Option I->Prop) {b:Xv} {K:List Fr}
  (step:∀i e L,i<N->(∀j s,go Φ fin L (.exit j) s=go Φ fin K (.exit j) s)->Inv i e->(∀e',Inv (i+1) e'->Q (go Φ fin L .normal ⟨e',h⟩))->Q (go Φ fin (.c b::L) .normal ⟨e,h⟩))
  (last:∀e L,(∀j s,go Φ fin L (.exit j) s=go Φ fin K (.exit j) s)->Inv N e->Q (go Φ fin (.c b::L) .normal ⟨e,h⟩)):
  ∀i e,i<=N->Inv i e->Q (go Φ fin (.c (.loop b)::K) .normal ⟨e,h⟩):=by
 intro i e hi hv;refine Uo N (fun i e H=>H=h/\Inv i e) Q ?_ ?_ i e h hi ⟨rfl,hv⟩
 ·rintro i e _ L hi hL ⟨rfl,hv⟩ ih;exact step i e L hi hL hv fun e' hv'=>ih e' _ ⟨rfl,hv'⟩
 ·rintro e _ L hL ⟨rfl,hv⟩;exact last e L hL hv
def NodeQ (l:List Xa) (d:Nat) (x:Option Rt):Prop:=∃r:Int,x=some (.val (a8 r))/\0<=r/\r<=2^(41+2*d)/\(r<100->((pre l).length:Int)<=r)
theorem Oa (d:Nat) (hd:d<=10):(2:Int)^(41+2*d)<=2305843009213693952:=by
 have:=MN (n:=2) (by omega) (show 41+2*d<=61 by omega);have e:(2:Nat)^61=2305843009213693952:=by decide
 rw [e] at this;rw [show (2:Int)^(41+2*d)=((2^(41+2*d):Nat):Int) from by rw [Int.natCast_pow];rfl];omega
theorem TL (d:Nat):(2199023255552:Int)<=2^(41+2*d):=by
 have:=MN (n:=2) (by omega) (show 41<=41+2*d by omega);have e:(2:Nat)^41=2199023255552:=by decide
 rw [e] at this;rw [show (2:Int)^(41+2*d)=((2^(41+2*d):Nat):Int) from by rw [Int.natCast_pow];rfl];omega
theorem Fj (d:Nat):(2:Int)^(41+2*(d+1))=4*2^(41+2*d):=by
 rw [show 41+2*(d+1)=(41+2*d)+1+1 by omega,Int.pow_succ,Int.pow_succ];omega
theorem Do:∀(d:Nat) (l:List Xa),d<=10->l.length<2^40->(∀x∈l,Xa.Ok fL x)->NodeQ l d (a9 Φ nI [.slice 5 (l.map Xa.c),a8 d]):=by
 intro d
 induction d with
 | zero=>
  intro l _ hl ho;rw [aA rfl rfl];simp [A8];rw [bG];by_cases z0:l.length=0
  ·have:l=[]:=Qg z0;subst this;simp [c_117_l0,c_117_k1];exact ⟨0,rfl,by omega,by decide,by simp [pre]⟩
  have hp:0<l.length:=by omega
  by_cases z1:l.length<100
  ·simp [c_117_l0,hp,z1];exact ⟨100,rfl,by omega,by decide,by omega⟩
  ·simp [c_117_l0,c_117_k1,hp,z1];exact ⟨l.length,rfl,by omega,by simp;omega,by omega⟩
 | succ d ihd=>
  intro l hd hl ho;rw [aA rfl rfl];have p1:=Oa (d+1) hd;have p2:=TL d;have p3:=Fj d;have p4:=TL (d+1);simp [A8];refine OS l.length (fun i e=>look 0 e=some (.slice 5 (l.map Xa.c))/\look 1 e=some (a8 ((d:Int)+1))/\look 6 e=some (a8 i)/\∃q:Int,look 5 e=some (a8 q)/\0<=q/\q<=2^(41+2*(d+1))/\(q<100->((pre (l.take i)).length:Int)+(l.length - i)<=q))
   (NodeQ l (d+1)) ?_ ?_ 0 _ (Qc _) ?_
  ·rintro i e L hi hL ⟨h0,h1,h6,q,h5,q0,q1,q2⟩ ih;have hw:=aL i (by omega);by_cases z:q<100
   rotate_left
   ·simp [c_117_l0,c_117_k1,h0,h5,h6,hi,hL,z];exact ⟨q,rfl,q0,q1,fun h=>absurd h z⟩
   obtain ⟨k,t,c,a,b,hx⟩:=wQ l[i];have ho':=ho _ (Qd hi);rw [hx] at ho';simp only [Xa.Ok] at ho';obtain ⟨_,_,hc,⟨ha1,ha2⟩,hb1,hb2⟩:=ho';rw [Xa.oks_eq] at ha2 hb2;rw [TZ] at ha1 hb1;have hdn:¬((d:Int)+1=0):=by omega
   have hsub:IntKind.wrap .i64 (d:Int)=(d:Int):=bJ (by omega) (by omega);by_cases y:40<c.length
   ·simp [c_117_l0,h0,h1,h5,h6,hi,z,hdn,hx,Xa.e,y];exact ⟨100,rfl,by omega,by omega,by omega⟩
   obtain ⟨u,hu,u0,u1,u2⟩:=ihd a (by omega) (by omega) ha2;obtain ⟨v,hv,v0,v1,v2⟩:=ihd b (by omega) (by omega) hb2;have wu:IntKind.wrap .i64 (q+u)=q+u:=bJ (by omega) (by omega);have wv:IntKind.wrap .i64 (q+u+v)=q+u+v:=bJ (by omega) (by omega);simp [c_117_l0,h0,h1,h5,h6,hi,z,hdn,hx,Xa.e,y,hsub,hu,hv,wu,wv,hw];refine ih _ ⟨by simp [h0],by simp [h1],by simp,q+u+v,by simp,by omega,by omega,?_⟩;intro hlt;have ht:=congrArg List.length (UF hi);rw [hx,FX] at ht;simp at ht;have:=q2 z;have:=u2 (by omega);have:=v2 (by omega);rw [ht];simp;omega
  ·rintro e L hL ⟨h0,h1,h6,q,h5,q0,q1,q2⟩;simp [c_117_l0,c_117_k1,h0,h5,h6,hL];refine ⟨q,rfl,q0,q1,fun h=>?_⟩;have:=q2 h;rw [i9] at this;omega
  ·simp [pre];omega
theorem ZX (h:Xj) (hl:h.Ya.length<2^40):IsB (a9 Φ BR [.agg (Xj.c h)]):=by
 rw [aA rfl rfl];by_cases z0:30<h.name.length
 ·simp [uA,Xj.e,z0]
 by_cases z1:20<h.Ya.length
 ·simp [uA,Xj.e,z0,z1]
 simp [uA,Xj.e,z0,z1];refine OS h.Ya.length (fun i e=>look 1 e=some (.iptr 2 [Xj.c h] 0 0)/\look 3 e=some (a8 i)) IsB ?_ ?_ 0 _ (Qc _) ?_
 ·rintro i e L hi hL ⟨h1,h3⟩ ih;have hw:=aL i (by omega);rw [Xj.e] at h1;by_cases z:30<h.Ya[i].name.length
  ·simp [c_118_l0,Fld.e,h1,h3,hi,z]
  simp [c_118_l0,Fld.e,h1,h3,hi,z,hw];exact ih _ ⟨by simp [h1,Xj.e],by simp⟩
 ·rintro e L hL ⟨h1,h3⟩;rw [Xj.e] at h1;simp [c_118_l0,c_118_k1,h1,h3,hL]
 ·simp [Xj.e]
theorem qrn (a:Action) (hb:a.body.length<2^40):IsB (a9 Φ BS [.agg (Action.c a)]):=by
 rw [aA rfl rfl];by_cases z0:8<a.params.length
 ·simp [pM,Action.e,z0]
 by_cases z1:16<a.body.length
 ·simp [pM,Action.e,z0,z1]
 by_cases z2:60<a.name.length
 ·simp [pM,Action.e,z0,z1,z2]
 simp [pM,Action.e,z0,z1,z2];refine OS a.body.length (fun i e=>look 1 e=some (.iptr 3 [Action.c a] 0 0)/\look 3 e=some (a8 i)) IsB ?_ ?_ 0 _ (Qc _) ?_
 ·rintro i e L hi hL ⟨h1,h3⟩ ih;have hw:=aL i (by omega);rw [Action.e] at h1;by_cases y0:40<a.body[i].index.length
  ·simp [c_119_l0,Xg.e,h1,h3,hi,y0]
  by_cases y1:40<a.body[i].value.length
  ·simp [c_119_l0,Xg.e,h1,h3,hi,y0,y1]
  simp [c_119_l0,Xg.e,h1,h3,hi,y0,y1,hw];exact ih _ ⟨by simp [h1,Action.e],by simp⟩
 ·rintro e L hL ⟨h1,h3⟩;rw [Action.e] at h1;simp [c_119_l0,c_119_k1,h1,h3,hL]
 ·simp [Action.e]
theorem qtt (s:Xd):IsB (a9 Φ BT [.agg (Xd.c s)]):=by
 rw [aA rfl rfl];by_cases z0:8<s.extract.length
 ·simp [pN,Xd.e,z0]
 by_cases z1:12<s.cases.length
 ·simp [pN,Xd.e,z0,z1]
 by_cases z2:60<s.name.length
 ·simp [pN,Xd.e,z0,z1,z2]
 simp [pN,Xd.e,z0,z1,z2]
section
variable (f:PrgS p) (e:Env) (h1:look 1 e=some (.iptr 9 [Prg.c p] 0 0))
include f e h1
theorem Ro:IsB (go Φ (finP [.tmp 2]) [.c c_54_k5] .normal ⟨e,⟨[],0⟩⟩):=by
 simp [c_54_k5];have hl:=f.s;refine OS p.Xx.length (fun i e=>look 1 e=some (.iptr 9 [Prg.c p] 0 0)/\look 6 e=some (a8 i)) IsB ?_ ?_ 0 _ (Qc _) ?_
 ·rintro i e L hi hL ⟨h1,h6⟩ ih;have hw:=aL i (by omega);obtain ⟨b,hb⟩:=qtt p.Xx[i];simp only [Xd.e] at hb;rw [Prg.e] at h1;cases b with
  | true=>simp [c_54_l3,Xd.e,h1,h6,hi,hb]
  | false=>
   simp [c_54_l3,Xd.e,h1,h6,hi,hb,hw];exact ih _ ⟨by simp [h1,Prg.e],by simp⟩
 ·rintro e L hL ⟨h1,h6⟩;rw [Prg.e] at h1;simp [c_54_l3,c_54_k4,h1,h6,hL]
 ·simp [h1]
theorem Rn:IsB (go Φ (finP [.tmp 2]) [.c c_54_k6] .normal ⟨e,⟨[],0⟩⟩):=by
 simp [c_54_k6];have hl:=f.t;refine OS p.Xn.length (fun i e=>look 1 e=some (.iptr 9 [Prg.c p] 0 0)/\look 5 e=some (a8 i)) IsB ?_ ?_ 0 _ (Qc _) ?_
 ·rintro i e L hi hL ⟨h1,h5⟩ ih;have hw:=aL i (by omega);rw [Prg.e] at h1;by_cases y0:10<p.Xn[i].keys.length
  ·simp [c_54_l2,Tbl.e,h1,h5,hi,y0]
  by_cases y1:24<p.Xn[i].Xy.length
  ·simp [c_54_l2,Tbl.e,h1,h5,hi,y0,y1]
  by_cases y2:8<p.Xn[i].Yc.args.length
  ·simp [c_54_l2,Tbl.e,h1,h5,hi,y0,y1,y2]
  by_cases y3:60<p.Xn[i].name.length
  ·simp [c_54_l2,Tbl.e,h1,h5,hi,y0,y1,y2,y3]
  simp [c_54_l2,Tbl.e,h1,h5,hi,y0,y1,y2,y3,hw];exact ih _ ⟨by simp [h1,Prg.e],by simp⟩
 ·rintro e L hL ⟨h1,h5⟩;have h1':=h1;rw [Prg.e] at h1;simp [c_54_l2,h1,h5,hL];exact Ro p f _ (by simp [h1'])
 ·simp [h1]
theorem Rm:IsB (go Φ (finP [.tmp 2]) [.c c_54_k7] .normal ⟨e,⟨[],0⟩⟩):=by
 simp [c_54_k7];have hl:=f.a;refine OS p.Xy.length (fun i e=>look 1 e=some (.iptr 9 [Prg.c p] 0 0)/\look 4 e=some (a8 i)) IsB ?_ ?_ 0 _ (Qc _) ?_
 ·rintro i e L hi hL ⟨h1,h4⟩ ih;have hw:=aL i (by omega);obtain ⟨b,hb⟩:=qrn p.Xy[i] (f.ab _ (Qd hi));simp only [Action.e] at hb;rw [Prg.e] at h1;cases b with
  | true=>simp [c_54_l1,Action.e,h1,h4,hi,hb]
  | false=>
   simp [c_54_l1,Action.e,h1,h4,hi,hb,hw];exact ih _ ⟨by simp [h1,Prg.e],by simp⟩
 ·rintro e L hL ⟨h1,h4⟩;have h1':=h1;rw [Prg.e] at h1;simp [c_54_l1,h1,h4,hL];exact Rn p f _ (by simp [h1'])
 ·simp [h1]
end
def TlQ (p:Prg) (x:Option Rt):Prop:=∃b,x=some (.val (.bool b))/\(b=false->(pre p.Yb).length<=60)
theorem qxv (f:PrgS p):TlQ p (a9 Φ NP [.agg (Prg.c p)]):=by
 rw [aA rfl rfl];have T:∀{x:Option Rt},x=some (.val (.bool true))->TlQ p x:=fun h=>⟨true,h,fun h=>by cases h⟩
 obtain ⟨r,hr,r0,r1,r2⟩:=Do 10 p.Yb (Qb _) f.c f.co;have hr':a9 Φ nI [.slice 5 (p.Yb.map Xa.c),a8 10]=some (.val (a8 r)):=hr;by_cases z0:60<p.name.length
 ·exact T (by simp [jF,Prg.e,z0])
 by_cases z1:16<p.Xp.length
 ·exact T (by simp [jF,Prg.e,z0,z1])
 by_cases z2:20<p.Xo.length
 ·exact T (by simp [jF,Prg.e,z0,z1,z2])
 by_cases z3:8<p.Xm.length
 ·exact T (by simp [jF,Prg.e,z0,z1,z2,z3])
 by_cases z4:24<p.Xy.length
 ·exact T (by simp [jF,Prg.e,z0,z1,z2,z3,z4])
 by_cases z5:16<p.Xn.length
 ·exact T (by simp [jF,Prg.e,z0,z1,z2,z3,z4,z5])
 by_cases z6:16<p.Xx.length
 ·exact T (by simp [jF,Prg.e,z0,z1,z2,z3,z4,z5,z6])
 by_cases z7:16<p.Xs.length
 ·exact T (by simp [jF,Prg.e,z0,z1,z2,z3,z4,z5,z6,z7])
 by_cases z8:60<r
 ·exact T (by simp [jF,Prg.e,z0,z1,z2,z3,z4,z5,z6,z7,hr',z8])
 have hB:IsB (go Φ (finP jF.results) [.c jF.body] .normal ⟨fW 0 [.agg (Prg.c p)],H0⟩):=by
  simp [jF,Prg.e,z0,z1,z2,z3,z4,z5,z6,z7,hr',z8];have hl:=f.h;refine OS p.Xp.length (fun i e=>look 1 e=some (.iptr 9 [Prg.c p] 0 0)/\look 3 e=some (a8 i)) IsB ?_ ?_ 0 _ (Qc _) ?_
  ·rintro i e L hi hL ⟨h1,h3⟩ ih;have hw:=aL i (by omega);obtain ⟨b,hb⟩:=ZX p.Xp[i] (f.hl _ (Qd hi));simp only [Xj.e] at hb;rw [Prg.e] at h1;cases b with
   | false=>simp [c_54_l0,Xj.e,h1,h3,hi,hb]
   | true=>
    simp [c_54_l0,Xj.e,h1,h3,hi,hb,hw];exact ih _ ⟨by simp [h1,Prg.e],by simp⟩
  ·rintro e L hL ⟨h1,h3⟩;have h1':=h1;rw [Prg.e] at h1;simp [c_54_l0,h1,h3,hL];exact Rm p f _ (by simp [h1'])
  ·simp [Prg.e]
 obtain ⟨b,hb⟩:=hB;exact ⟨b,hb,fun _=>by have:=r2 (by omega);omega⟩
end Go.Av
