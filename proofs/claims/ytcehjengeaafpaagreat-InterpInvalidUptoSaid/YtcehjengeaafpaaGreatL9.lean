/-
 The check of the control flow: the reference's answer.
-/
import Derived.Test.YtcehjengeaafpaaGreatL3
set_option linter.unusedVariables false
set_option linter.unusedSimpArgs false
set_option linter.constructorNameAsVariable false
namespace Go.Av
set_option maxRecDepth 4000
theorem Vr (k t:Int) (c:List Xd) (a b:List Xa):a8 Φ BU [.agg (Xa.c (.mk k t c a b))]=some (.val (.bool (appl (.mk k t c a b)))):=by
 rw [aA rfl rfl];by_cases k1:k=1
 ·simp [z9,Xa.e,appl,k1]
 ·simp [z9,Xa.e,appl,k1]
theorem qy7 (l:List Xa) (i:Nat) (hi:i<l.length) (hl:l.length<2^40):a8 Φ B8 [.slice 5 (l.map Xa.c),a7 i]=some (.val (.bool ((l.take i).any fun y=>appl y&&decide (y.table=l[i].table)))):=by
 rw [aA rfl rfl];generalize hX:some (Rt.val (.bool ((l.take i).any fun y=>appl y&&decide (y.table=l[i].table))))=X;simp [IP];refine (wK (l.take i) (fun y=>appl y&&decide (y.table=l[i].table)) (some (Rt.val (.bool true))) (some (Rt.val (.bool false)))
  (fun k e H=>look 0 e=some (.slice 5 (l.map Xa.c))/\look 1 e=some (a7 i)/\look 5 e=some (a7 k)/\H=⟨[],0⟩) ?_ ?_ ?_ _ _ ?_).trans ?_
 ·rintro j e _ L hk hL ⟨h0,h1,h5,rfl⟩ hb;simp only [iA] at hk;have hk1:j<i:=by omega
  have hk2:j<l.length:=by omega
  simp only [lG,dJ,decide_eq_true_eq] at hb;obtain ⟨k,t,c,a,b,hx⟩:=CY l[j];obtain ⟨k',t',c',a',b',hx'⟩:=CY l[i];have ha:=Vr k t c a b;rw [hx,hx'] at hb;simp only [Xa.table_mk] at hb;obtain ⟨hb1,hb2⟩:=hb;subst hb2;rw [hb1] at ha;simp only [Xa.e] at ha;simp [c_305_l0,h0,h1,h5,hk1,hk2,hi,hx,hx',Xa.e,ha]
 ·rintro j e _ L X hk hL ⟨h0,h1,h5,rfl⟩ hb ih;simp only [iA] at hk;have hk1:j<i:=by omega
  have hk2:j<l.length:=by omega
  have hw:=aM j (by omega);simp only [lG] at hb;obtain ⟨k,t,c,a,b,hx⟩:=CY l[j];obtain ⟨k',t',c',a',b',hx'⟩:=CY l[i];have ha:=Vr k t c a b;rw [hx,hx'] at hb;simp only [Xa.table_mk] at hb;cases q:appl (.mk k t c a b) with
  | false=>
   rw [q] at ha;simp only [Xa.e] at ha;simp [c_305_l0,h0,h1,h5,hk1,hk2,hx,Xa.e,ha,hw];exact ih _ _ ⟨by simp [h0],by simp [h1],by simp,rfl⟩
  | true=>
   rw [q] at ha hb;simp only [Xa.e] at ha;simp only [L9,decide_eq_false_iff_not] at hb;simp [c_305_l0,h0,h1,h5,hk1,hk2,hi,hx,hx',Xa.e,ha,hb,hw];exact ih _ _ ⟨by simp [h0],by simp [h1],by simp,rfl⟩
 ·rintro e _ L hL ⟨h0,h1,h5,rfl⟩;have hm:min i l.length=i:=by omega
  simp [hm] at h5;simp [c_305_l0,c_305_k1,h1,h5,hL]
 ·simp
 ·rw [<- hX];cases (l.take i).any (fun y=>appl y&&decide (y.table=l[i].table))<;>rfl
theorem XR (p:Prg) (l:List Xa) (i:Nat) (hi:i<l.length) (hl:l.length<2^40) (hc:l[i].thn.length<2^40/\l[i].els.length<2^40):a8 Φ AD [.agg (Prg.c p),.slice 5 (l.map Xa.c),a7 i]=some (.val (a7 (iD p (l.take i) l[i]))):=by
 rw [aA rfl rfl];have hb:=qy7 l i hi hl;obtain ⟨k,t,c,a,b,hx⟩:=CY l[i];rw [hx] at hc hb ⊢;simp only [Xa.thn_mk,Xa.els_mk] at hc;have hab:IntKind.wrap .i64 ((a.length:Int)+b.length)=(a.length:Int)+b.length:=cN (by omega) (by omega);by_cases k0:k<1
 ·rw [show iD p (l.take i) (.mk k t c a b)=11 by simp [iD,show ¬k=2 by omega,show ¬k=1 by omega,show ¬k=3 by omega]];simp [eO,hi,hx,Xa.e,Prg.e,k0]
 by_cases k4:3<k
 ·rw [show iD p (l.take i) (.mk k t c a b)=11 by simp [iD,show ¬k=2 by omega,show ¬k=1 by omega,show ¬k=3 by omega]];simp [eO,hi,hx,Xa.e,Prg.e,k0,k4]
 by_cases k2:k=2
 ·have he:=Su p [] c;simp only [aJ,nW] at he;by_cases z:(exE p [] c).2=0
  ·rw [z] at he;by_cases y:(exE p [] c).1=1
   ·rw [y] at he;simp [eO,hi,hx,Xa.e,Prg.e,k2,iD,he,z,y]
   ·simp [eO,hi,hx,Xa.e,Prg.e,k2,iD,he,z,y]
  ·simp [eO,hi,hx,Xa.e,Prg.e,k2,iD,he,z]
 have k13:k=1\/k=3:=by omega
 by_cases t0:t<0
 ·rw [show iD p (l.take i) (.mk k t c a b)=8 by simp [iD,k2,k13,t0]];simp [eO,hi,hx,Xa.e,Prg.e,k0,k4,k2,t0]
 by_cases t1:(p.Xm.length:Int)<=t
 ·rw [show iD p (l.take i) (.mk k t c a b)=8 by simp [iD,k2,k13,t0,t1]];simp [eO,hi,hx,Xa.e,Prg.e,k0,k4,k2,t0,t1]
 cases q:(l.take i).any (fun y=>appl y&&decide (y.table=(Xa.mk k t c a b).table)) with
 | true=>
  rw [q] at hb;have e:iD p (l.take i) (.mk k t c a b)=7:=by
   unfold iD;rw [q];simp [k2,k13,t0,t1]
  rw [e];simp [eO,hi,hx,Xa.e,Prg.e,k0,k4,k2,t0,t1,hb]
 | false=>
  rw [q] at hb;have e:iD p (l.take i) (.mk k t c a b)=if k=1/\0<a.length+b.length then 5 else 0:=by
   unfold iD;rw [q];simp [k2,k13,t0,t1]
  rw [e];by_cases k1:k=1
  ·by_cases z:0<a.length+b.length
   ·have z':(0:Int)<(a.length:Int)+b.length:=by omega
    simp [eO,hi,hx,Xa.e,Prg.e,k1,t0,t1,hb,hab,z,z']
    first
     | done
     | (intro h;simp [h] at z;omega)
   ·have za:a.length=0:=by omega
    have zb:b.length=0:=by omega
    simp [eO,hi,hx,Xa.e,Prg.e,k1,t0,t1,hb,za,zb];rw [show IntKind.wrap .i64 0=0 by decide];simp [Qg za,Qg zb]
  ·simp [eO,hi,hx,Xa.e,Prg.e,k0,k4,k2,k1,t0,t1,hb]
mutual
theorem Y8:∀(x:Xa) (n:Nat),(pre1 x).length<=n->∀y∈pre1 x,y.thn.length<=n/\y.els.length<=n
 | .mk k t c a b,n,h,y,hy=>by
  rw [FO] at h hy;simp at h;have ha:=CZ a;have hb:=CZ b;rcases iW.1 hy with rfl | hy
  ·simp;omega
  ·rcases gI.1 hy with hy | hy
   ·exact VL a n (by omega) y hy
   ·exact VL b n (by omega) y hy
theorem VL:∀(l:List Xa) (n:Nat),(pre l).length<=n->∀y∈pre l,y.thn.length<=n/\y.els.length<=n
 | [],n,h,y,hy=>by simp [pre] at hy
 | x::r,n,h,y,hy=>by
  rw [pre] at h hy;simp at h;rcases gI.1 hy with hy | hy
  ·exact Y8 x n (by omega) y hy
  ·exact VL r n (by omega) y hy
end
theorem Z' (p:Prg) (hl:(pre p.Ya).length<2^40 - 1):a8 Φ zO [.agg (Prg.c p)]=some (.val (.tup [a7 (ctlE p).1,a7 (ctlE p).2])):=by
 rw [aA rfl rfl];have hc:=Pi _ p.Ya (Qb _) (by omega);have hn:=Rm _ p.Ya (Qb _) (by omega);by_cases z1:24<(pre p.Ya).length
 ·simp [rK,Prg.e,hc,ctlE,z1]
 by_cases z2:6<nest p.Ya
 ·simp [rK,Prg.e,hc,hn,ctlE,z1,z2]
 have hE:ctlE p=(fe (ctlG p (pre p.Ya)) (pre p.Ya).length 0).getD (0,0):=by unfold ctlE;rw [QA z1,QA z2];rfl
 have hp:=Ol _ p.Ya (Qb _) (by omega);rw [hE];simp [rK,Prg.e,hc,hn,hp,z1,z2];refine eY (pre p.Ya).length (fun i e=>look 1 e=some (.iptr 9 [Prg.c p] 0 0)/\look 4 e=some (.slice 5 ((pre p.Ya).map Xa.c))/\look 5 e=some (a7 i))
  (fun i=>some (Rt.val (.tup [a7 ((fe (ctlG p (pre p.Ya)) (pre p.Ya).length i).getD (0,0)).1,a7 ((fe (ctlG p (pre p.Ya)) (pre p.Ya).length i).getD (0,0)).2]))) ?_ ?_ 0 _ (Qc _) ?_
 ·rintro i e L hi hL ⟨h1,h4,h5⟩ ih;have hw:=aM i (by omega);have hk:=VL p.Ya 24 (by omega) _ (Qd hi);have hE:=XR p (pre p.Ya) i hi (by omega) ⟨by omega,by omega⟩;simp only [Prg.e] at hE;rw [Prg.e] at h1;by_cases y:iD p ((pre p.Ya).take i) (pre p.Ya)[i]=0
  ·rw [y] at hE;rw [cM hi (by simp [ctlG,hi,y])];simp [c_116_l0,h1,h4,h5,hi,hE,hw];exact ih _ ⟨by simp [h1,Prg.e],by simp [h4],by simp⟩
  ·rw [aU (x:=((i:Int),iD p ((pre p.Ya).take i) (pre p.Ya)[i])) hi (by simp [ctlG,hi,y])];simp [c_116_l0,h1,h4,h5,hi,hE,y]
 ·rintro e L hL ⟨h1,h4,h5⟩;rw [dI];simp [c_116_l0,c_116_k1,h4,h5,hL]
 ·simp [Prg.e]
theorem Yf {Φ:FuncId->Option AFun} {I:Type} {fin:Option (Ex×St)->Option I} {Z:Type} (l:List Z) (bad:Z->Bool) (Rb Re:Option I) (Inv:Nat->Bool->Env->AH->Prop) {b:Xu} {K:List Fr}
  (hit:∀i e h L X (hi:i<l.length),(∀j s,go Φ fin L (.exit j) s=go Φ fin K (.exit j) s)->Inv i false e h->bad l[i]=true->(∀e' h',Inv (i+1) true e' h'->go Φ fin L .normal ⟨e',h'⟩=X)->go Φ fin (.c b::L) .normal ⟨e,h⟩=X)
  (miss:∀i e h L X (hi:i<l.length),(∀j s,go Φ fin L (.exit j) s=go Φ fin K (.exit j) s)->Inv i false e h->bad l[i]=false->(∀e' h',Inv (i+1) false e' h'->go Φ fin L .normal ⟨e',h'⟩=X)->go Φ fin (.c b::L) .normal ⟨e,h⟩=X)
  (stop:∀i e h L,i<=l.length->(∀j s,go Φ fin L (.exit j) s=go Φ fin K (.exit j) s)->Inv i true e h->go Φ fin (.c b::L) .normal ⟨e,h⟩=Rb)
  (last:∀e h L,(∀j s,go Φ fin L (.exit j) s=go Φ fin K (.exit j) s)->Inv l.length false e h->go Φ fin (.c b::L) .normal ⟨e,h⟩=Re):
  ∀e h,Inv 0 false e h->go Φ fin (.c (.loop b)::K) .normal ⟨e,h⟩=if l.any bad then Rb else Re:=by
 intro e h h0;refine (qtj (U:=Nat×Bool) (fun x=>if x.2 then 0 else l.length - x.1+1) (fun x e h=>x.1<=l.length/\Inv x.1 x.2 e h) (fun x=>if x.2 then Rb else if pW l bad x.1 then Rb else Re) ?_ (0,false) e h ⟨Qc _,h0⟩).trans (by simp [S5]);rintro ⟨i,f⟩ e h L hL ⟨hi,hinv⟩ ih;cases f with
 | true=>exact stop i e h L hi hL hinv
 | false=>
  simp only [jN,if_false];rcases Nat.lt_or_eq_of_le hi with hlt | heq
  ·cases hb:bad l[i] with
   | true=>
    rw [Se hlt hb,a9 rfl];exact hit i e h L _ hlt hL hinv hb fun e' h' hi'=>ih (i+1,true) e' h' (by simp) ⟨by simp;omega,hi'⟩
   | false=>
    rw [MK hlt hb];refine miss i e h L _ hlt hL hinv hb fun e' h' hi'=>?_
    have:=ih (i+1,false) e' h' (by simp;simp at hlt;omega) ⟨by simp;omega,hi'⟩;simpa using this
  ·simp only at heq;subst heq;rw [VM];exact last e h L hL hinv
def dgR (o:Option Dg):Rt:= .val (.agg (dgC (o.getD (0,0,0,0))))
def dH:AH:=⟨[(0,.row 4 [[a7 0,a7 0,a7 0,a7 0]])],1⟩
theorem gM (a b c d:Int):a8 Φ bZ [a7 a,a7 b,a7 c,a7 d]=some (.val (.agg [a7 a,a7 b,a7 c,a7 d])):=by
 rw [aA rfl rfl];simp [GO]
theorem Gz (p:Prg) (f:PrgS p):a8 Φ LY [.agg (Prg.c p)]=some (dgR (limD p)):=by
 rw [aA rfl rfl];have n1:=FJ p.name f.n;cases q1:idS p.name with
 | false=>rw [q1] at n1;simp [r8,Prg.e,n1,gM,limD,q1,dgR,dgC]
 | true=>
 rw [q1] at n1;by_cases z1:8<p.Xo.length
 ·simp [r8,Prg.e,n1,gM,limD,q1,dgR,dgC,z1]
 by_cases z2:4<p.Xl.length
 ·simp [r8,Prg.e,n1,gM,limD,q1,dgR,dgC,z1,z2]
 by_cases z3:16<p.Xx.length
 ·simp [r8,Prg.e,n1,gM,limD,q1,dgR,dgC,z1,z2,z3]
 by_cases z4:12<p.Xm.length
 ·simp [r8,Prg.e,n1,gM,limD,q1,dgR,dgC,z1,z2,z3,z4]
 simp [r8,Prg.e,n1,limD,q1,dgR,dgC,z1,z2,z3,z4]
theorem Ae (p:Prg) (f:PrgS p):a8 Φ LZ [.agg (Prg.c p)]=some (dgR (hdrD p)):=by
 rw [aA rfl rfl,show hdrD p=fe (hdrG p) p.Xo.length 0 from rfl];simp [Q1,Prg.e];refine eY p.Xo.length (fun i e=>look 1 e=some (.iptr 9 [Prg.c p] 0 0)/\look 2 e=some (.ptr 0 4 0 0)/\look 3 e=some (a7 i))
  (fun i=>some (dgR (fe (hdrG p) p.Xo.length i))) ?_ ?_ 0 _ (Qc _) ?_
 ·rintro i e L hi hL ⟨h1,h2,h3⟩ ih;have hlen:=f.h;have hw:=aM i (by omega);have hm:=Qd hi;have eh:=Bs p.Xo[i] (f.hn _ hm) (f.hf _ hm);simp only [Xi.e] at eh;rw [Prg.e] at h1;have bad:∀c:Int,c≠0->uR p i p.Xo[i]=c->fe (hdrG p) p.Xo.length i=some (c,1,(i:Int),0):=fun c h0 h=>aU hi (by simp [hdrG,hi,h,h0])
  by_cases z1:hdrE p.Xo[i]=0
  rotate_left
  ·rw [bad _ z1 (by simp [uR,z1])];simp [c_49_l3,Xi.e,h1,h3,hi,eh,z1];rw [bY];by_cases hi0:0<i<;>simp [c_49_l0,c_49_k1,h2,h3,z1,hi0,gM,dgR,dgC]
  by_cases z2:p.Xo[i].name=[109,101,116,97]
  ·rw [bad 6 (by decide) (by simp [uR,z1,z2])];rw [z2] at eh;simp [c_49_l3,Xi.e,h1,h3,hi,eh,z1,z2];rw [bY];by_cases hi0:0<i<;>simp [c_49_l0,c_49_k1,h2,h3,hi0,gM,dgR,dgC]
  generalize hX:some (dgR (fe (hdrG p) p.Xo.length i))=X;simp [c_49_l3,Xi.e,h1,h3,hi,eh,z1,z2];refine (Yf (p.Xo.take i) (fun y=>decide (y.name=p.Xo[i].name)) (some (dgR (some (7,1,(i:Int),0)))) (some (dgR (fe (hdrG p) p.Xo.length (i+1))))
   (fun k b e H=>look 1 e=some (.iptr 9 [Prg.c p] 0 0)/\look 2 e=some (.ptr 0 4 0 0)/\look 3 e=some (a7 i)/\look 4 e=some (a7 (if b then 7 else 0))/\look 5 e=some (a7 k)/\H=dH) ?_ ?_ ?_ ?_ _ _ ?_).trans ?_
  ·rintro k e _ L' Y hk hL' ⟨h1,h2,h3,h4,h5,rfl⟩ hb ih';simp only [iA] at hk;have hk1:k<i:=by omega
   have hk2:k<p.Xo.length:=by omega
   have hw':=aM k (by omega);simp only [lG,decide_eq_true_eq] at hb;rw [Prg.e] at h1;simp at h4;simp [c_49_l0,Xi.e,h1,h3,h4,h5,hk1,hk2,hi,hb,hw'];exact ih' _ _ ⟨by simp [h1,Prg.e],by simp [h2],by simp [h3],by simp,by simp,rfl⟩
  ·rintro k e _ L' Y hk hL' ⟨h1,h2,h3,h4,h5,rfl⟩ hb ih';simp only [iA] at hk;have hk1:k<i:=by omega
   have hk2:k<p.Xo.length:=by omega
   have hw':=aM k (by omega);simp only [lG,decide_eq_false_iff_not] at hb;rw [Prg.e] at h1;simp at h4;simp [c_49_l0,Xi.e,h1,h3,h4,h5,hk1,hk2,hi,hb,hw'];exact ih' _ _ ⟨by simp [h1,Prg.e],by simp [h2],by simp [h3],by simp [h4],by simp,rfl⟩
  ·rintro k e _ L' hk hL' ⟨h1,h2,h3,h4,h5,rfl⟩;simp only [iA] at hk;simp at h4;by_cases hk1:k<i
   ·simp [c_49_l0,c_49_k1,h2,h3,h4,h5,hk1,hL',gM,dgR,dgC,dH]
   ·simp [c_49_l0,c_49_k1,h2,h3,h4,h5,hk1,hL',gM,dgR,dgC,dH]
  ·rintro e _ L' hL' ⟨h1,h2,h3,h4,h5,rfl⟩;have hmn:min i p.Xo.length=i:=by omega
   simp [hmn] at h4 h5;simp [c_49_l0,c_49_k1,c_49_k2,h3,h4,h5,hL',hw];exact ih _ ⟨by simp [h1],by simp [h2],by simp⟩
  ·simp [h1,h2,h3,Prg.e,dH]
  ·rw [<- hX];cases q:dupN Xi.name p.Xo i p.Xo[i] with
   | true=>
    rw [bad 7 (by decide) (by simp [uR,z1,z2,q])];unfold dupN at q;rw [q];rfl
   | false=>
    rw [cM hi (by simp [hdrG,hi,uR,z1,z2,q])];unfold dupN at q;rw [q];rfl
 ·rintro e L hL ⟨h1,h2,h3⟩;rw [dI];rw [Prg.e] at h1;simp [c_49_l3,c_49_k4,h1,h2,h3,hL,dgR,dgC]
 ·simp [Prg.e]
theorem XP (l:List Fld) (i:Nat) (hi:i<l.length) (hl:l.length<2^40) (hf:∀f∈l,f.name.length<2^40):a8 Φ zK [.slice 2 (l.map Fld.c),a7 i]=some (.val (a7 (fldE l i l[i]))):=by
 rw [aA rfl rfl];have nf:=FJ l[i].name (hf _ (Qd hi));cases p1:idS l[i].name with
 | false=>
  rw [p1] at nf;simp [oA,Fld.e,hi,nf,fldE,p1]
 | true=>
 rw [p1] at nf;by_cases w1:l[i].Yc<1
 ·simp [oA,Fld.e,hi,nf,fldE,p1,wBad,w1]
 by_cases w2:32<l[i].Yc
 ·simp [oA,Fld.e,hi,nf,fldE,p1,wBad,w1,w2]
 rw [show fldE l i l[i]=if dupN Fld.name l i l[i]=true then 7 else 0 by simp [fldE,p1,wBad,w1,w2]];unfold dupN;generalize hX:some (Rt.val (a7 (if (l.take i).any (fun y=>decide (y.name=l[i].name))=true then 7 else 0)))=X;simp [oA,Fld.e,hi,nf,w1,w2];refine (wK (l.take i) (fun y=>decide (y.name=l[i].name)) (some (Rt.val (a7 7))) (some (Rt.val (a7 0)))
  (fun k e H=>look 0 e=some (.slice 2 (l.map Fld.c))/\look 1 e=some (a7 i)/\look 5 e=some (a7 k)/\H=⟨[],0⟩) ?_ ?_ ?_ _ _ ?_).trans ?_
 ·rintro k e _ L' hk hL' ⟨h0,h1,h5,rfl⟩ hb;simp only [iA] at hk;have hk1:k<i:=by omega
  have hk2:k<l.length:=by omega
  simp only [lG,decide_eq_true_eq] at hb;simp [c_111_l0,Fld.e,h0,h1,h5,hk1,hk2,hi,hb]
 ·rintro k e _ L' X hk hL' ⟨h0,h1,h5,rfl⟩ hb ih';simp only [iA] at hk;have hk1:k<i:=by omega
  have hk2:k<l.length:=by omega
  have hw':=aM k (by omega);simp only [lG,decide_eq_false_iff_not] at hb;simp [c_111_l0,Fld.e,h0,h1,h5,hk1,hk2,hi,hb,hw'];exact ih' _ _ ⟨by simp [h0],by simp [h1],by simp,rfl⟩
 ·rintro e _ L' hL' ⟨h0,h1,h5,rfl⟩;have hm:min i l.length=i:=by omega
  simp [hm] at h5;simp [c_111_l0,c_111_k1,h1,h5,hL']
 ·simp
 ·rw [<- hX];cases (l.take i).any (fun y=>decide (y.name=l[i].name))<;>rfl
theorem Bv (p:Prg) (e:Env) (h1:look 1 e=some (.iptr 9 [Prg.c p] 0 0)) (h2:look 2 e=some (.ptr 0 4 0 0)):go Φ (finP [.cell 2 true 4]) [.c c_50_k3] .normal ⟨e,dH⟩=some (dgR (fe (metH p) 3 0)):=by
 rw [Prg.e] at h1;simp [c_50_k3,dH];rw [bY];by_cases l0:p.Xn.length<=0
 ·rw [aU (x:=(5,2,0,0)) (by omega) (by unfold metH;rw [Qk l0];rfl)];have hnil:p.Xn=[]:=Qg (by omega);simp [c_50_l1,h1,h2,hnil,gM,dgR,dgC]
 have k0:0<p.Xn.length:=by omega
 have hne:¬p.Xn=[]:=by intro h;rw [h] at k0;simp at k0
 by_cases a0:p.Xn[0].name=[105,110]
 rotate_left
 ·rw [aU (x:=(5,2,0,0)) (by omega) (by unfold metH;rw [Qa k0,QA (by simp [kY,Fld.eq_iff,a0])];rfl)];simp [c_50_l1,Fld.e,h1,h2,hne,k0,a0,gM,dgR,dgC]
 by_cases b0:p.Xn[0].Yc=8
 rotate_left
 ·rw [aU (x:=(5,2,0,0)) (by omega) (by unfold metH;rw [Qa k0,QA (by simp [kY,Fld.eq_iff,b0])];rfl)];simp [c_50_l1,Fld.e,h1,h2,hne,k0,a0,b0,gM,dgR,dgC]
 rw [cM (by omega) (by unfold metH;rw [Qa k0,a9 (by simp [kY,Fld.eq_iff,a0,b0])])];simp [c_50_l1,Fld.e,h1,hne,k0,a0,b0,wr1];rw [bY];by_cases l1:p.Xn.length<=1
 ·rw [aU (x:=(5,2,1,0)) (by omega) (by unfold metH;rw [Qk l1];rfl)];simp [h1,h2,l1,gM,dgR,dgC]
 have k1:1<p.Xn.length:=by omega
 by_cases a1:p.Xn[1].name=[111,117,116]
 rotate_left
 ·rw [aU (x:=(5,2,1,0)) (by omega) (by unfold metH;rw [Qa k1,QA (by simp [kY,Fld.eq_iff,a1])];rfl)];simp [Fld.e,h1,h2,k1,l1,a1,gM,dgR,dgC]
 by_cases b1:p.Xn[1].Yc=8
 rotate_left
 ·rw [aU (x:=(5,2,1,0)) (by omega) (by unfold metH;rw [Qa k1,QA (by simp [kY,Fld.eq_iff,b1])];rfl)];simp [Fld.e,h1,h2,k1,l1,a1,b1,gM,dgR,dgC]
 rw [cM (by omega) (by unfold metH;rw [Qa k1,a9 (by simp [kY,Fld.eq_iff,a1,b1])])];simp [Fld.e,h1,k1,l1,a1,b1,wr2];rw [bY];by_cases l2:p.Xn.length<=2
 ·rw [aU (x:=(5,2,2,0)) (by omega) (by unfold metH;rw [Qk l2];rfl)];simp [h1,h2,l2,gM,dgR,dgC]
 have k2:2<p.Xn.length:=by omega
 by_cases a2:p.Xn[2].name=[100,114,111,112]
 rotate_left
 ·rw [aU (x:=(5,2,2,0)) (by omega) (by unfold metH;rw [Qa k2,QA (by simp [kY,Fld.eq_iff,a2])];rfl)];simp [Fld.e,h1,h2,k2,l2,a2,gM,dgR,dgC]
 by_cases b2:p.Xn[2].Yc=1
 rotate_left
 ·rw [aU (x:=(5,2,2,0)) (by omega) (by unfold metH;rw [Qa k2,QA (by simp [kY,Fld.eq_iff,b2])];rfl)];simp [Fld.e,h1,h2,k2,l2,a2,b2,gM,dgR,dgC]
 rw [cM (by omega) (by unfold metH;rw [Qa k2,a9 (by simp [kY,Fld.eq_iff,a2,b2])])];simp [Fld.e,h1,k2,l2,a2,b2,wr3];rw [bY,dI];simp [c_50_k2,h2,dgR,dgC]
theorem Bu (p:Prg) (f:PrgS p):a8 Φ M0 [.agg (Prg.c p)]=some (dgR (metD p)):=by
 rw [aA rfl rfl,Sp];by_cases z:12<p.Xn.length
 ·simp [LG,Prg.e,z,gM,dgR,dgC]
 rw [QA z];simp [LG,Prg.e,z];refine eY p.Xn.length (fun i e=>look 1 e=some (.iptr 9 [Prg.c p] 0 0)/\look 2 e=some (.ptr 0 4 0 0)/\look 3 e=some (a7 i))
  (fun i=>some (dgR ((fe (metG p) p.Xn.length i).or (fe (metH p) 3 0)))) ?_ ?_ 0 _ (Qc _) ?_
 ·rintro i e L hi hL ⟨h1,h2,h3⟩ ih;have hlen:=f.m;have hw:=aM i (by omega);have ef:=XP p.Xn i hi f.m f.mn;rw [Prg.e] at h1;by_cases y:fldE p.Xn i p.Xn[i]=0
  ·rw [y] at ef;rw [cM hi (by simp [metG,hi,y])];simp [c_50_l0,h1,h3,hi,ef,hw];exact ih _ ⟨by simp [h1,Prg.e],by simp [h2],by simp⟩
  ·rw [aU (x:=(fldE p.Xn i p.Xn[i],2,(i:Int),0)) hi (by simp [metG,hi,y])];simp [c_50_l0,h1,h2,h3,hi,ef,y,gM,dgR,dgC]
 ·rintro e L hL ⟨h1,h2,h3⟩;rw [dI];have hh:=Bv p;simp only [dH] at hh;rw [Prg.e] at h1;simp [c_50_l0,h1,h3,hL];apply hh
  ·simp [h1,Prg.e]
  ·simp [h2]
 ·simp [Prg.e]
theorem Ii (p:Prg) (f:PrgS p) (hc:(pre p.Ya).length<2^40 - 1):a8 Φ M6 [.agg (Prg.c p)]=some (dgR (floD p)):=by
 rw [aA rfl rfl];have e1:=Bw p f;have e2:=Z' p hc;have e3:=Aa p f;simp only [Prg.e,tup3] at e1 e2 e3;by_cases y1:(parE p).2.2=0
 rotate_left
 ·simp [zF,Prg.e,e1,y1,gM,floD,dgR,dgC]
 rw [y1] at e1;by_cases y2:(ctlE p).2=0
 rotate_left
 ·simp [zF,Prg.e,e1,y1,e2,y2,gM,floD,dgR,dgC]
 rw [y2] at e2;by_cases y3:(depE p).2=0
 rotate_left
 ·simp [zF,Prg.e,e1,y1,e2,y2,e3,y3,gM,floD,dgR,dgC]
 rw [y3] at e3;simp [zF,Prg.e,e1,y1,e2,y2,e3,y3,floD,dgR,dgC]
theorem Ca (p:Prg) (f:PrgS p):a8 Φ M2 [.agg (Prg.c p)]=some (dgR (regD p)):=by
 rw [aA rfl rfl,show regD p=fe (regG p) p.Xl.length 0 from rfl];simp [Q2,Prg.e];refine eY p.Xl.length (fun i e=>look 1 e=some (.iptr 9 [Prg.c p] 0 0)/\look 2 e=some (.ptr 0 4 0 0)/\look 3 e=some (a7 i))
  (fun i=>some (dgR (fe (regG p) p.Xl.length i))) ?_ ?_ 0 _ (Qc _) ?_
 ·rintro i e L hi hL ⟨h1,h2,h3⟩ ih;have hlen:=f.r;have hw:=aM i (by omega);have hm:=Qd hi;have eh:=Cb p.Xl[i] (f.rn _ hm);simp only [Xg.e] at eh;rw [Prg.e] at h1;have bad:∀c:Int,c≠0->wQ p i p.Xl[i]=c->fe (regG p) p.Xl.length i=some (c,3,(i:Int),0):=fun c h0 h=>aU hi (by simp [regG,hi,h,h0])
  by_cases z1:regE p.Xl[i]=0
  rotate_left
  ·rw [bad _ z1 (by simp [wQ,z1])];simp [c_51_l3,Xg.e,h1,h3,hi,eh];rw [bY];by_cases hi0:0<i<;>simp [c_51_l0,c_51_k1,h2,h3,z1,hi0,gM,dgR,dgC]
  generalize hX:some (dgR (fe (regG p) p.Xl.length i))=X;simp [c_51_l3,Xg.e,h1,h3,hi,eh,z1];refine (Yf (p.Xl.take i) (fun y=>decide (y.name=p.Xl[i].name)) (some (dgR (some (7,3,(i:Int),0)))) (some (dgR (fe (regG p) p.Xl.length (i+1))))
   (fun k b e H=>look 1 e=some (.iptr 9 [Prg.c p] 0 0)/\look 2 e=some (.ptr 0 4 0 0)/\look 3 e=some (a7 i)/\look 4 e=some (a7 (if b then 7 else 0))/\look 5 e=some (a7 k)/\H=dH) ?_ ?_ ?_ ?_ _ _ ?_).trans ?_
  ·rintro k e _ L' Y hk hL' ⟨h1,h2,h3,h4,h5,rfl⟩ hb ih';simp only [iA] at hk;have hk1:k<i:=by omega
   have hk2:k<p.Xl.length:=by omega
   have hw':=aM k (by omega);simp only [lG,decide_eq_true_eq] at hb;rw [Prg.e] at h1;simp at h4;simp [c_51_l0,Xg.e,h1,h3,h4,h5,hk1,hk2,hi,hb,hw'];exact ih' _ _ ⟨by simp [h1,Prg.e],by simp [h2],by simp [h3],by simp,by simp,rfl⟩
  ·rintro k e _ L' Y hk hL' ⟨h1,h2,h3,h4,h5,rfl⟩ hb ih';simp only [iA] at hk;have hk1:k<i:=by omega
   have hk2:k<p.Xl.length:=by omega
   have hw':=aM k (by omega);simp only [lG,decide_eq_false_iff_not] at hb;rw [Prg.e] at h1;simp at h4;simp [c_51_l0,Xg.e,h1,h3,h4,h5,hk1,hk2,hi,hb,hw'];exact ih' _ _ ⟨by simp [h1,Prg.e],by simp [h2],by simp [h3],by simp [h4],by simp,rfl⟩
  ·rintro k e _ L' hk hL' ⟨h1,h2,h3,h4,h5,rfl⟩;simp only [iA] at hk;simp at h4;by_cases hk1:k<i
   ·simp [c_51_l0,c_51_k1,h2,h3,h4,h5,hk1,hL',gM,dgR,dgC,dH]
   ·simp [c_51_l0,c_51_k1,h2,h3,h4,h5,hk1,hL',gM,dgR,dgC,dH]
  ·rintro e _ L' hL' ⟨h1,h2,h3,h4,h5,rfl⟩;have hmn:min i p.Xl.length=i:=by omega
   simp [hmn] at h4 h5;simp [c_51_l0,c_51_k1,c_51_k2,h3,h4,h5,hL',hw];exact ih _ ⟨by simp [h1],by simp [h2],by simp⟩
  ·simp [h1,h2,h3,Prg.e,dH]
  ·rw [<- hX];cases q:dupN Xg.name p.Xl i p.Xl[i] with
   | true=>
    rw [bad 7 (by decide) (by simp [wQ,z1,q])];unfold dupN at q;rw [q];rfl
   | false=>
    rw [cM hi (by simp [regG,hi,wQ,z1,q])];unfold dupN at q;rw [q];rfl
 ·rintro e L hL ⟨h1,h2,h3⟩;rw [dI];rw [Prg.e] at h1;simp [c_51_l3,c_51_k4,h1,h2,h3,hL,dgR,dgC]
 ·simp [Prg.e]
theorem YC (p:Prg) (f:PrgS p):a8 Φ M4 [.agg (Prg.c p)]=some (dgR (pY p)):=by
 rw [aA rfl rfl,show pY p=fe (acG p) p.Xx.length 0 from rfl];simp [Q3,Prg.e];refine eY p.Xx.length (fun i e=>look 1 e=some (.iptr 9 [Prg.c p] 0 0)/\look 2 e=some (.ptr 0 4 0 0)/\look 3 e=some (a7 i))
  (fun i=>some (dgR (fe (acG p) p.Xx.length i))) ?_ ?_ 0 _ (Qc _) ?_
 ·rintro i e L hi hL ⟨h1,h2,h3⟩ ih;have hlen:=f.a;have hw:=aM i (by omega);have et:=Bh p f i;simp only [Prg.e] at et;rw [Prg.e] at h1;by_cases y:(actE p i).2=0
  rotate_left
  ·rw [aU (x:=((actE p i).2,4,(i:Int),(actE p i).1)) hi (by simp [acG,hi,y])];simp [c_52_l2,h1,h2,h3,hi,et,y,gM,dgR,dgC]
  rw [y] at et;generalize hX:some (dgR (fe (acG p) p.Xx.length i))=X;simp [c_52_l2,h1,h3,hi,et];refine (wK (p.Xx.take i) (fun g=>decide (g.name=p.Xx[i].name)) (some (dgR (some (7,4,(i:Int),0)))) (some (dgR (fe (acG p) p.Xx.length (i+1))))
   (fun k e H=>look 1 e=some (.iptr 9 [Prg.c p] 0 0)/\look 2 e=some (.ptr 0 4 0 0)/\look 3 e=some (a7 i)/\look 6 e=some (a7 k)/\H=dH) ?_ ?_ ?_ _ _ ?_).trans ?_
  ·rintro k e _ L' hk hL' ⟨h1,h2,h3,h6,rfl⟩ hb;simp only [iA] at hk;have hk1:k<i:=by omega
   have hk2:k<p.Xx.length:=by omega
   simp only [lG,decide_eq_true_eq] at hb;rw [Prg.e] at h1;simp [c_52_l0,Action.e,h1,h2,h3,h6,hk1,hk2,hi,hb,gM,dgR,dgC,dH]
  ·rintro k e _ L' Y hk hL' ⟨h1,h2,h3,h6,rfl⟩ hb ih';simp only [iA] at hk;have hk1:k<i:=by omega
   have hk2:k<p.Xx.length:=by omega
   have hw':=aM k (by omega);simp only [lG,decide_eq_false_iff_not] at hb;rw [Prg.e] at h1;simp [c_52_l0,Action.e,h1,h3,h6,hk1,hk2,hi,hb,hw'];exact ih' _ _ ⟨by simp [h1,Prg.e],by simp [h2],by simp [h3],by simp,rfl⟩
  ·rintro e _ L' hL' ⟨h1,h2,h3,h6,rfl⟩;have hm:min i p.Xx.length=i:=by omega
   simp [hm] at h6;simp [c_52_l0,c_52_k1,h3,h6,hL',hw];exact ih _ ⟨by simp [h1],by simp [h2],by simp⟩
  ·simp [h1,h2,h3,Prg.e,dH]
  ·rw [<- hX];cases q:dupN Action.name p.Xx i p.Xx[i] with
   | true=>
    rw [aU (x:=(7,4,(i:Int),0)) hi (by simp [acG,hi,y,q])];unfold dupN at q;rw [q];rfl
   | false=>
    rw [cM hi (by simp [acG,hi,y,q])];unfold dupN at q;rw [q];rfl
 ·rintro e L hL ⟨h1,h2,h3⟩;rw [dI];rw [Prg.e] at h1;simp [c_52_l2,c_52_k3,h1,h2,h3,hL,dgR,dgC]
 ·simp [Prg.e]
theorem Ce (p:Prg) (f:PrgS p) (hv:∀t∈p.Xm,∀v∈t.Yb.args,ok32 0 v):a8 Φ M5 [.agg (Prg.c p)]=some (dgR (tblD p)):=by
 rw [aA rfl rfl,show tblD p=fe (tbG p) p.Xm.length 0 from rfl];simp [Q4,Prg.e];refine eY p.Xm.length (fun i e=>look 1 e=some (.iptr 9 [Prg.c p] 0 0)/\look 2 e=some (.ptr 0 4 0 0)/\look 3 e=some (a7 i))
  (fun i=>some (dgR (fe (tbG p) p.Xm.length i))) ?_ ?_ 0 _ (Qc _) ?_
 ·rintro i e L hi hL ⟨h1,h2,h3⟩ ih;have hlen:=f.t;have hw:=aM i (by omega);have et:=Rn p f hv i;simp only [Prg.e] at et;rw [Prg.e] at h1;by_cases y:(tblE p i).2=0
  rotate_left
  ·rw [aU (x:=((tblE p i).2,5,(i:Int),(tblE p i).1)) hi (by simp [tbG,hi,y])];simp [c_53_l2,h1,h2,h3,hi,et,y,gM,dgR,dgC]
  rw [y] at et;generalize hX:some (dgR (fe (tbG p) p.Xm.length i))=X;simp [c_53_l2,h1,h3,hi,et];refine (wK (p.Xm.take i) (fun g=>decide (g.name=p.Xm[i].name)) (some (dgR (some (7,5,(i:Int),0)))) (some (dgR (fe (tbG p) p.Xm.length (i+1))))
   (fun k e H=>look 1 e=some (.iptr 9 [Prg.c p] 0 0)/\look 2 e=some (.ptr 0 4 0 0)/\look 3 e=some (a7 i)/\look 6 e=some (a7 k)/\H=dH) ?_ ?_ ?_ _ _ ?_).trans ?_
  ·rintro k e _ L' hk hL' ⟨h1,h2,h3,h6,rfl⟩ hb;simp only [iA] at hk;have hk1:k<i:=by omega
   have hk2:k<p.Xm.length:=by omega
   simp only [lG,decide_eq_true_eq] at hb;rw [Prg.e] at h1;simp [c_53_l0,Tbl.e,h1,h2,h3,h6,hk1,hk2,hi,hb,gM,dgR,dgC,dH]
  ·rintro k e _ L' Y hk hL' ⟨h1,h2,h3,h6,rfl⟩ hb ih';simp only [iA] at hk;have hk1:k<i:=by omega
   have hk2:k<p.Xm.length:=by omega
   have hw':=aM k (by omega);simp only [lG,decide_eq_false_iff_not] at hb;rw [Prg.e] at h1;simp [c_53_l0,Tbl.e,h1,h3,h6,hk1,hk2,hi,hb,hw'];exact ih' _ _ ⟨by simp [h1,Prg.e],by simp [h2],by simp [h3],by simp,rfl⟩
  ·rintro e _ L' hL' ⟨h1,h2,h3,h6,rfl⟩;have hm:min i p.Xm.length=i:=by omega
   simp [hm] at h6;simp [c_53_l0,c_53_k1,h3,h6,hL',hw];exact ih _ ⟨by simp [h1],by simp [h2],by simp⟩
  ·simp [h1,h2,h3,Prg.e,dH]
  ·rw [<- hX];cases q:dupN Tbl.name p.Xm i p.Xm[i] with
   | true=>
    rw [aU (x:=(7,5,(i:Int),0)) hi (by simp [tbG,hi,y,q])];unfold dupN at q;rw [q];rfl
   | false=>
    rw [cM hi (by simp [tbG,hi,y,q])];unfold dupN at q;rw [q];rfl
 ·rintro e L hL ⟨h1,h2,h3⟩;rw [dI];rw [Prg.e] at h1;simp [c_53_l2,c_53_k3,h1,h2,h3,hL,dgR,dgC]
 ·simp [Prg.e]
theorem E8 {Z:Type} {f:Nat->Option Z} {N:Nat} {x:Z}:∀{i},fe f N i=some x->∃k,k<N/\f k=some x:=by
 have key:∀n i,feF f n i=some x->∃k,k<i+n/\f k=some x:=by
  intro n
  induction n with
  | zero=>intro i h;simp [feF] at h
  | succ n ih=>
   intro i h;simp only [feF] at h;cases q:f i with
   | some y=>rw [q] at h;cases h;exact ⟨i,by omega,q⟩
   | none=>
    rw [q] at h;obtain ⟨k,h1,h2⟩:=ih _ h;exact ⟨k,by omega,h2⟩
 intro i h;unfold fe at h;obtain ⟨k,h1,h2⟩:=key _ _ h;by_cases hi:i<=N
 ·exact ⟨k,by omega,h2⟩
 ·rw [show N - i=0 by omega] at h;simp [feF] at h
theorem Gh {p:Prg} {d:Dg} (h:limD p=some d):d.1≠0:=by
 unfold limD at h
 repeat' split at h
 all_goals first
  | (cases h;decide)
  | (cases h)
theorem El {p:Prg} {d:Dg} (h:hdrD p=some d):d.1≠0:=by
 obtain ⟨k,hk,h⟩:=E8 (f:=hdrG p) h;rw [hdrG,Qa hk,eM] at h;split at h
 ·cases h
 ·rename_i z;cases h;exact z
theorem Gk {p:Prg} {d:Dg} (h:metD p=some d):d.1≠0:=by
 rw [Sp] at h;split at h
 ·cases h;decide
 ·cases q:fe (metG p) p.Xn.length 0 with
  | some x=>
   rw [q] at h;cases h;obtain ⟨k,hk,h⟩:=E8 q;rw [metG,Qa hk,eM] at h;split at h
   ·cases h
   ·rename_i z;cases h;exact z
  | none=>
   rw [q,Option.none_or] at h;obtain ⟨k,hk,h⟩:=E8 h;unfold metH at h;split at h
   ·cases h
   ·cases h;simp
theorem Ic {p:Prg} {d:Dg} (h:regD p=some d):d.1≠0:=by
 obtain ⟨k,hk,h⟩:=E8 (f:=regG p) h;rw [regG,Qa hk,eM] at h;split at h
 ·cases h
 ·rename_i z;cases h;exact z
theorem YD {p:Prg} {d:Dg} (h:pY p=some d):d.1≠0:=by
 obtain ⟨k,hk,h⟩:=E8 (f:=acG p) h;rw [acG,Qa hk,eM] at h;split at h
 ·rename_i z;cases h;exact z
 ·split at h
  ·cases h;simp
  ·cases h
theorem Jf {p:Prg} {d:Dg} (h:tblD p=some d):d.1≠0:=by
 obtain ⟨k,hk,h⟩:=E8 (f:=tbG p) h;rw [tbG,Qa hk,eM] at h;split at h
 ·rename_i z;cases h;exact z
 ·split at h
  ·cases h;simp
  ·cases h
theorem Ur (p:Prg) (f:PrgS p) (hv:∀t∈p.Xm,∀v∈t.Yb.args,ok32 0 v) (hc:(pre p.Ya).length<2^40 - 1):a8 Φ AG [.agg (Prg.c p)]=some (.val (.agg (dgC (prgD p)))):=by
 rw [aA rfl rfl];have h1:=Gz p f;have h2:=Ae p f;have h3:=Bu p f;have h4:=Ca p f;have h5:=YC p f;have h6:=Ce p f hv;have h7:=Ii p f hc;simp only [Prg.e] at h1 h2 h3 h4 h5 h6 h7;unfold prgD;cases q1:limD p with
 | some d=>have n:=Gh q1;rw [q1] at h1;simp [nA,Prg.e,h1,dgR,dgC,n]
 | none=>
 rw [q1] at h1;cases q2:hdrD p with
 | some d=>have n:=El q2;rw [q2] at h2;simp [nA,Prg.e,h1,h2,dgR,dgC,n]
 | none=>
 rw [q2] at h2;cases q3:metD p with
 | some d=>have n:=Gk q3;rw [q3] at h3;simp [nA,Prg.e,h1,h2,h3,dgR,dgC,n]
 | none=>
 rw [q3] at h3;cases q4:regD p with
 | some d=>have n:=Ic q4;rw [q4] at h4;simp [nA,Prg.e,h1,h2,h3,h4,dgR,dgC,n]
 | none=>
 rw [q4] at h4;cases q5:pY p with
 | some d=>have n:=YD q5;rw [q5] at h5;simp [nA,Prg.e,h1,h2,h3,h4,h5,dgR,dgC,n]
 | none=>
 rw [q5] at h5;cases q6:tblD p with
 | some d=>have n:=Jf q6;rw [q6] at h6;simp [nA,Prg.e,h1,h2,h3,h4,h5,h6,dgR,dgC,n]
 | none=>
 rw [q6] at h6;cases q7:floD p with
 | some d=>rw [q7] at h7;simp [nA,Prg.e,h1,h2,h3,h4,h5,h6,h7,dgR,dgC]
 | none=>rw [q7] at h7;simp [nA,Prg.e,h1,h2,h3,h4,h5,h6,h7,dgR,dgC]
def iY {Z:Type} [DecidableEq Z] (l m:List Z) (i:Nat):Bool:=decide (l.drop i=m.drop i)
theorem FI {Z:Type} [DecidableEq Z] {l m:List Z} {i:Nat} (h1:i<l.length) (h2:i<m.length) (h:l[i]=m[i]):iY l m i=iY l m (i+1):=by
 unfold iY;rw [decide_eq_decide,Vf h1 h2];simp [h]
theorem CU {Z:Type} [DecidableEq Z] {l m:List Z} {i:Nat} (h1:i<l.length) (h2:i<m.length) (h:l[i]≠m[i]):iY l m i=false:=by
 unfold iY;rw [decide_eq_false_iff_not,Vf h1 h2];simp [h]
theorem FH {Z:Type} [DecidableEq Z] {l m:List Z} (h:l.length=m.length):iY l m l.length=true:=by
 simp [iY,h]
theorem UG (k1 k2:List Xh) (p1 p2:Int) (r1 r2:List AV) (hb:k1.length<2^40):
   a8 Φ oZ [.agg (.slice 2 (k1.map Xh.c):: a7 p1::r1),.agg (.slice 2 (k2.map Xh.c):: a7 p2::r2)]=some (.val (.bool (decide (k1=k2/\p1=p2)))):=by
  rw [aA rfl rfl];by_cases q1:k1.length=k2.length
  rotate_left
  · have:k1≠k2:=fun h=>q1 (by rw [h])
    simp [rN,q1,this]
  by_cases q2:p1=p2
  rotate_left
  · simp [rN,q1,q2]
  subst q2;simp [rN,q1];refine (eY k1.length (fun i e=>look 2 e=some (AV.ptr 0 (r1.length+1+1) 0 0)/\look 3 e=some (AV.ptr 1 (r2.length+1+1) 0 0)/\look 5 e=some (a7 i))
    (fun i=>some (Rt.val (AV.bool (iY k1 k2 i)))) ?_ ?_ 0 _ (Qc _) ?_).trans (by simp [iY])
  · rintro i e L hi hL ⟨h2,h3,h5⟩ ih
    have hi2:i<k2.length:=by omega
    have hw:=aM i (by omega);by_cases c:k1[i]=k2[i]
    · rw [FI hi hi2 c]
      simp [c_165_l0,Xh.c,hi,hi2,h2,h3,h5,hw,c];exact ih _ ⟨by simp [h2],by simp [h3],by simp⟩
    · rw [CU hi hi2 c]
      have c':(decide (k1[i].value=k2[i].value)&&decide (k1[i].Yd=k2[i].Yd))=false:=by
        simp [Xh.ext_iff] at c ⊢;exact c
      simp [c_165_l0,Xh.c,hi,hi2,h2,h3,h5,c']
  · rintro e L hL ⟨h2,h3,h5⟩
    rw [FH q1];simp [c_165_l0,c_165_k1, *]
  · simp
theorem Um (a1 a2:Int) (l1 l2:List Int) (hb:l1.length<2^40):
   a8 Φ CN [.agg [a7 a1,.slice 1 (l1.map c32)],.agg [a7 a2,.slice 1 (l2.map c32)]]=some (.val (.bool (decide (a1=a2/\l1=l2)))):=by
  rw [aA rfl rfl];by_cases q2:a1=a2
  rotate_left
  · simp [F0,q2]
  subst q2;by_cases q1:l1.length=l2.length
  rotate_left
  · have:l1≠l2:=fun h=>q1 (by rw [h])
    simp [F0,q1,this]
  simp [F0,q1];refine (eY l1.length (fun i e=>look 2 e=some (AV.ptr 0 2 0 0)/\look 3 e=some (AV.ptr 1 2 0 0)/\look 5 e=some (a7 i))
    (fun i=>some (Rt.val (AV.bool (iY l1 l2 i)))) ?_ ?_ 0 _ (Qc _) ?_).trans (by simp [iY])
  · rintro i e L hi hL ⟨h2,h3,h5⟩ ih
    have hi2:i<l2.length:=by omega
    have hw:=aM i (by omega);by_cases c:l1[i]=l2[i]
    · rw [FI hi hi2 c]
      simp [c_44_l0,c32,hi,hi2,h2,h3,h5,hw,c];exact ih _ ⟨by simp [h2],by simp [h3],by simp⟩
    · rw [CU hi hi2 c]
      simp [c_44_l0,c32,hi,hi2,h2,h3,h5,c]
  · rintro e L hL ⟨h2,h3,h5⟩
    rw [FH q1];simp [c_44_l0,c_44_k1, *]
  · simp
theorem Z7 (k1 k2:List Xh) (p1 p2:Int) (a1 a2:Int) (l1 l2:List Int) (hb:k1.length<2^40) (hb':l1.length<2^40):
   a8 Φ FB [.agg [.slice 2 (k1.map Xh.c),a7 p1,a7 a1,.slice 1 (l1.map c32)],.agg [.slice 2 (k2.map Xh.c),a7 p2,a7 a2,.slice 1 (l2.map c32)]]=some (.val (.bool (decide (k1=k2/\p1=p2/\a1=a2/\l1=l2)))):=by
  rw [aA rfl rfl];by_cases q1:k1=k2
  · by_cases q2:p1=p2
    · subst q1
      simp [F5,UG,Um,hb,hb',q2]
    · subst q1
      simp [F5,UG,hb,q2]
  · simp [F5,UG,hb,q1]
theorem qu6 (k1 k2:List Xh) (p1 p2:Int) (r1 r2:List AV) (hb:k1.length<2^40):
   a8 Φ FA [.agg (.slice 2 (k1.map Xh.c):: a7 p1::r1),.agg (.slice 2 (k2.map Xh.c):: a7 p2::r2)]=some (.val (.bool (decide (k1=k2/\p1=p2)))):=by
  rw [aA rfl rfl];by_cases q2:p1=p2
  rotate_left
  · simp [F4,q2]
  by_cases q1:k1.length=k2.length
  rotate_left
  · have:k1≠k2:=fun h=>q1 (by rw [h])
    simp [F4,q1,this,q2]
  subst q2;simp [F4,q1];refine (K8 k1.length (fun i e h=>look 2 e=some (AV.ptr 0 (r1.length+1+1) 0 0)/\look 3 e=some (AV.ptr 1 (r2.length+1+1) 0 0)/\look 22 e=some (.slice 2 (k1.map Xh.c))/\look 23 e=some (a7 k2.length)/\look 24 e=some (a7 i)/\
      HP [(0,AO.row (r1.length+1+1) [.slice 2 (k1.map Xh.c):: a7 p1::r1]),(1,AO.row (r2.length+1+1) [.slice 2 (k2.map Xh.c):: a7 p1::r2])] 2 h)
    (fun i=>some (Rt.val (AV.bool (iY k1 k2 i)))) ?_ ?_ 0 _ _ (Qc _) ?_).trans (by simp [iY])
  · rintro i e _ L hi hL ⟨h2,h3,h22,h23,h24,T,n,hT,rfl⟩ ih
    have hi2:i<k2.length:=by omega
    have hw:=aM i (by omega);have hT':=hT (n+2) (Qb _);by_cases c:k1[i]=k2[i]
    · rw [FI hi hi2 c]
      simp [c_77_l0,Xh.c,hi,hi2,h3,h22,h23,h24,hw,c,hT'];exact ih _ _ ⟨by simp [h2],by simp [h3],by simp [h22],by simp [h23],by simp,HP.next hT⟩
    · rw [CU hi hi2 c]
      have c':(decide (k1[i].value=k2[i].value)&&decide (k1[i].Yd=k2[i].Yd))=false:=by
        simp [Xh.ext_iff] at c ⊢;exact c
      simp [c_77_l0,Xh.c,hi,hi2,h3,h22,h23,h24,c',hT']
  · rintro e _ L hL ⟨h2,h3,h22,h23,h24,T,n,hT,rfl⟩
    rw [FH q1];simp [c_77_l0,c_77_k1, *]
  · simp
    exact HP.mk
theorem Entry.eq_iff (x y:Entry):x=y↔x.keys=y.keys/\x.Xs=y.Xs/\x.call.Xy=y.call.Xy/\x.call.args=y.call.args:=by
 constructor
 ·rintro rfl;simp
 ·rintro ⟨a,b,c,d⟩;obtain ⟨k,p,u,v⟩:=x;obtain ⟨k',p',u',v'⟩:=y;simp only at a b c d;subst a b c d;rfl
def Entry.sm (x:Entry):Prop:=x.keys.length<2^40/\x.call.args.length<2^40
theorem YA (x y:Entry) (hb:x.sm):a8 Φ FB [.agg (Entry.c x),.agg (Entry.c y)]=some (.val (.bool (decide (x=y)))):=by
 rw [decide_eq_decide.2 (Entry.eq_iff x y)];exact Z7 x.keys y.keys x.Xs y.Xs x.call.Xy y.call.Xy x.call.args y.call.args hb.1 hb.2
theorem Rw.ce (x:Rw):Rw.c x=[a7 x.id,.slice 2 (x.entry.keys.map Xh.c),a7 x.entry.Xs,a7 x.entry.call.Xy,.slice 1 (x.entry.call.args.map c32)]:=by simp [Rw.c]
theorem cSe {Z:Type} (z:Nat) (f:Z->List AV) (l:List Z):cS z f l=[.slice z (l.map f)]:=by simp [cS]
theorem Xb.ce (x:Xb):Xb.c x=[a7 x.Xy,.slice 1 (x.args.map c32)]:=by simp [Xb.c]
theorem Entry.ce (x:Entry):Entry.c x=[.slice 2 (x.keys.map Xh.c),a7 x.Xs,a7 x.call.Xy,.slice 1 (x.call.args.map c32)]:=by simp [Entry.c]
theorem Xe.ce (x:Xe):Xe.c x=[.slice 1 (x.rows.map (cS 5 Rw.c)),.slice 1 (x.Xq.map cI),.slice 2 (x.Xp.map Xb.c),.slice 1 (x.Xl.map (cS 1 c32))]:=by simp [Xe.c]
theorem cIe (x:Int):cI x=[a7 x]:=by simp [cI]
theorem c32e (x:Int):c32 x=[.int .u32 x]:=by simp [c32]
theorem Rw.eq_iff (x y:Rw):x=y↔x.id=y.id/\x.entry=y.entry:=by
 constructor
 ·rintro rfl;simp
 ·rintro ⟨a,b⟩;obtain ⟨u,v⟩:=x;obtain ⟨u',v'⟩:=y;simp only at a b;subst a b;rfl
theorem Xb.eq_iff (x y:Xb):x=y↔x.Xy=y.Xy/\x.args=y.args:=by
 constructor
 ·rintro rfl;simp
 ·rintro ⟨a,b⟩;obtain ⟨u,v⟩:=x;obtain ⟨u',v'⟩:=y;simp only at a b;subst a b;rfl
structure CfgS (a:Xe):Prop where
 rl:a.rows.length<2^40
 rs:∀l∈a.rows,l.length<2^40/\∀r∈l,r.entry.sm
 nl:a.Xq.length<2^40
 dl:a.Xp.length<2^40
 ds:∀d∈a.Xp,d.args.length<2^40
 gl:a.Xl.length<2^40
 gs:∀l∈a.Xl,l.length<2^40
theorem Xe.eq_iff (a b:Xe):a=b↔a.rows=b.rows/\a.Xq=b.Xq/\a.Xp=b.Xp/\a.Xl=b.Xl:=by
 constructor
 ·rintro rfl;simp
 ·rintro ⟨h1,h2,h3,h4⟩;obtain ⟨x,y,z,u⟩:=a;obtain ⟨x',y',z',u'⟩:=b;simp only at h1 h2 h3 h4;subst h1 h2 h3 h4;rfl
theorem Bd (l m:List Int) (hb:l.length<2^40):a8 Φ LT [.slice 1 (l.map cI),.slice 1 (m.map cI)]=some (.val (.bool (decide (l=m)))):=by
 rw [aA rfl rfl];by_cases q1:l.length=m.length
 rotate_left
 ·have:l≠m:=fun h=>q1 (by rw [h])
  simp [LD,q1,this]
 simp [LD,q1];refine (eY l.length (fun i e=>look 0 e=some (.slice 1 (l.map cI))/\look 1 e=some (.slice 1 (m.map cI))/\look 5 e=some (a7 i))
  (fun i=>some (Rt.val (AV.bool (iY l m i)))) ?_ ?_ 0 _ (Qc _) ?_).trans (by simp [iY])
 ·rintro i e L hi hL ⟨h0,h1,h5⟩ ih;have hi2:i<m.length:=by omega
  have hw:=aM i (by omega);by_cases c:l[i]=m[i]
  ·rw [FI hi hi2 c];simp [c_41_l0,cIe,hi,hi2,h0,h1,h5,hw,c];exact ih _ ⟨by simp [h0],by simp [h1],by simp⟩
  ·rw [CU hi hi2 c];simp [c_41_l0,cIe,hi,hi2,h0,h1,h5,c]
 ·rintro e L hL ⟨h0,h1,h5⟩;rw [FH q1];simp [c_41_l0,c_41_k1, *]
 ·simp
theorem Bg (l m:List Int) (hb:l.length<2^40):a8 Φ MD [.slice 1 (l.map c32),.slice 1 (m.map c32)]=some (.val (.bool (decide (l=m)))):=by
 rw [aA rfl rfl];by_cases q1:l.length=m.length
 rotate_left
 ·have:l≠m:=fun h=>q1 (by rw [h])
  simp [LK,q1,this]
 simp [LK,q1];refine (eY l.length (fun i e=>look 0 e=some (.slice 1 (l.map c32))/\look 1 e=some (.slice 1 (m.map c32))/\look 5 e=some (a7 i))
  (fun i=>some (Rt.val (AV.bool (iY l m i)))) ?_ ?_ 0 _ (Qc _) ?_).trans (by simp [iY])
 ·rintro i e L hi hL ⟨h0,h1,h5⟩ ih;have hi2:i<m.length:=by omega
  have hw:=aM i (by omega);by_cases c:l[i]=m[i]
  ·rw [FI hi hi2 c];simp [c_94_l0,c32e,hi,hi2,h0,h1,h5,hw,c];exact ih _ ⟨by simp [h0],by simp [h1],by simp⟩
  ·rw [CU hi hi2 c];simp [c_94_l0,c32e,hi,hi2,h0,h1,h5,c]
 ·rintro e L hL ⟨h0,h1,h5⟩;rw [FH q1];simp [c_94_l0,c_94_k1, *]
 ·simp
theorem Be (l m:List (List Int)) (hb:l.length<2^40) (hf:∀x∈l,x.length<2^40):a8 Φ LU [.slice 1 (l.map (cS 1 c32)),.slice 1 (m.map (cS 1 c32))]=some (.val (.bool (decide (l=m)))):=by
 rw [aA rfl rfl];by_cases q1:l.length=m.length
 rotate_left
 ·have:l≠m:=fun h=>q1 (by rw [h])
  simp [LE,q1,this]
 simp [LE,q1];refine (eY l.length (fun i e=>look 0 e=some (.slice 1 (l.map (cS 1 c32)))/\look 1 e=some (.slice 1 (m.map (cS 1 c32)))/\look 5 e=some (a7 i))
  (fun i=>some (Rt.val (AV.bool (iY l m i)))) ?_ ?_ 0 _ (Qc _) ?_).trans (by simp [iY])
 ·rintro i e L hi hL ⟨h0,h1,h5⟩ ih;have hi2:i<m.length:=by omega
  have hw:=aM i (by omega);have hee:=Bg l[i] m[i] (hf _ (Qd hi));by_cases c:l[i]=m[i]
  ·rw [decide_eq_true c] at hee;rw [FI hi hi2 c];simp [c_42_l0,cSe,hi,hi2,h0,h1,h5,hw,hee];refine (ih _ ⟨by simp [h0],by simp [h1],by simp⟩).trans (by simp)
  ·rw [decide_eq_false c] at hee;rw [CU hi hi2 c];simp [c_42_l0,cSe,hi,hi2,h0,h1,h5,hee]
 ·rintro e L hL ⟨h0,h1,h5⟩;rw [FH q1];simp [c_42_l0,c_42_k1, *]
 ·simp
theorem Bf (l m:List Rw) (hb:l.length<2^40) (hs:∀r∈l,r.entry.sm):a8 Φ LV [.slice 5 (l.map Rw.c),.slice 5 (m.map Rw.c)]=some (.val (.bool (decide (l=m)))):=by
 rw [aA rfl rfl];by_cases q1:l.length=m.length
 rotate_left
 ·have:l≠m:=fun h=>q1 (by rw [h])
  simp [LF,q1,this]
 simp [LF,q1];refine (eY l.length (fun i e=>look 0 e=some (.slice 5 (l.map Rw.c))/\look 1 e=some (.slice 5 (m.map Rw.c))/\look 5 e=some (a7 i))
  (fun i=>some (Rt.val (AV.bool (iY l m i)))) ?_ ?_ 0 _ (Qc _) ?_).trans (by simp [iY])
 ·rintro i e L hi hL ⟨h0,h1,h5⟩ ih;have hi2:i<m.length:=by omega
  have hw:=aM i (by omega);have hee:=YA l[i].entry m[i].entry (hs _ (Qd hi));simp only [Entry.ce] at hee;by_cases c1:l[i].id=m[i].id
  rotate_left
  ·rw [CU hi hi2 (fun h=>c1 (by rw [h]))];simp [c_43_l0,Rw.ce,hi,hi2,h0,h1,h5,c1]
  by_cases c2:l[i].entry.Xs=m[i].entry.Xs
  rotate_left
  ·rw [CU hi hi2 (fun h=>c2 (by rw [h]))];simp [c_43_l0,Rw.ce,hi,hi2,h0,h1,h5,c1,c2]
  by_cases c:l[i].entry=m[i].entry
  ·rw [decide_eq_true c,c2] at hee;rw [FI hi hi2 ((Rw.eq_iff _ _).2 ⟨c1,c⟩)];simp [c_43_l0,Rw.ce,hi,hi2,h0,h1,h5,hw,c1,c2,hee];refine (ih _ ⟨by simp [h0],by simp [h1],by simp⟩).trans (by simp)
  ·rw [decide_eq_false c,c2] at hee;rw [CU hi hi2 (fun h=>c (by rw [h]))];simp [c_43_l0,Rw.ce,hi,hi2,h0,h1,h5,c1,c2,hee]
 ·rintro e L hL ⟨h0,h1,h5⟩;rw [FH q1];simp [c_43_l0,c_43_k1, *]
 ·simp
theorem Y9 (x y:Xb) (h:x.args.length<2^40):a8 Φ CN [.agg (Xb.c x),.agg (Xb.c y)]=some (.val (.bool (decide (x=y)))):=by
 rw [decide_eq_decide.2 (Xb.eq_iff x y)];exact Um x.Xy y.Xy x.args y.args h
theorem qyi (a b:Xe) (f:CfgS a):a8 Φ LP [.agg (Xe.c a),.agg (Xe.c b)]=some (.val (.bool (decide (a=b)))):=by
 have ee:decide (a=b)=decide (a.rows=b.rows/\a.Xq=b.Xq/\a.Xp=b.Xp/\a.Xl=b.Xl):=decide_eq_decide.2 (Xe.eq_iff a b);rw [ee,aA rfl rfl];have g2:=Bd a.Xq b.Xq f.nl;have g4:=Be a.Xl b.Xl f.gl f.gs;by_cases q1:a.rows.length=b.rows.length
 rotate_left
 ·have:a.rows≠b.rows:=fun h=>q1 (by rw [h])
  simp [vD,Xe.ce,q1,this]
 by_cases q2:a.Xq=b.Xq
 rotate_left
 ·simp [vD,Xe.ce,q1,q2,g2]
 by_cases q3:a.Xp.length=b.Xp.length
 rotate_left
 ·have:a.Xp≠b.Xp:=fun h=>q3 (by rw [h])
  rw [q2] at g2;simp [vD,Xe.ce,q1,q2,g2,q3,this]
 by_cases q4:a.Xl=b.Xl
 rotate_left
 ·rw [q2] at g2;simp [vD,Xe.ce,q1,q2,q3,g2,g4,q4]
 rw [q2] at g2;rw [q4] at g4;simp [vD,Xe.ce,q1,q2,q3,q4,g2,g4];refine (eY a.rows.length (fun i e=>look 2 e=some (.ptr 0 4 0 0)/\look 3 e=some (.ptr 1 4 0 0)/\look 5 e=some (a7 i))
  (fun i=>some (Rt.val (AV.bool (iY a.rows b.rows i&&decide (a.Xp=b.Xp))))) ?_ ?_ 0 _ (Qc _) ?_).trans (by simp [iY])
 ·rintro i e L hi hL ⟨h2,h3,h5⟩ ih;have hi2:i<b.rows.length:=by omega
  have hw:IntKind.wrap .i64 ((i:Int)+1)=((i+1:Nat):Int):=cN (by omega) (by have:=f.rl;omega);obtain ⟨u1,u2⟩:=f.rs _ (Qd hi);have hee:=Bf a.rows[i] b.rows[i] u1 u2;by_cases c:a.rows[i]=b.rows[i]
  ·rw [decide_eq_true c] at hee;rw [FI hi hi2 c];simp [c_16_l0,cSe,hi,hi2,h2,h3,h5,hee,hw];refine (ih _ ⟨by simp [h2],by simp [h3],by simp⟩).trans (by simp)
  ·rw [decide_eq_false c] at hee;rw [CU hi hi2 c];simp [c_16_l0,cSe,hi,hi2,h2,h3,h5,hee]
 ·rintro e L hL ⟨h2,h3,h5⟩;rw [FH q1];simp [c_16_l0,c_16_k3,h2,h5,hL];refine (eY a.Xp.length (fun i e=>look 2 e=some (.ptr 0 4 0 0)/\look 3 e=some (.ptr 1 4 0 0)/\look 6 e=some (a7 i))
   (fun i=>some (Rt.val (AV.bool (iY a.Xp b.Xp i)))) ?_ ?_ 0 _ (Qc _) ?_).trans (by simp [iY])
  ·rintro i e L' hi hL' ⟨h2,h3,h6⟩ ih;have hi2:i<b.Xp.length:=by omega
   have hw:IntKind.wrap .i64 ((i:Int)+1)=((i+1:Nat):Int):=cN (by omega) (by have:=f.dl;omega);have hee:=Y9 a.Xp[i] b.Xp[i] (f.ds _ (Qd hi));simp only [Xb.ce] at hee;by_cases c:a.Xp[i]=b.Xp[i]
   ·rw [decide_eq_true c] at hee;rw [FI hi hi2 c];simp [c_16_l1,Xb.ce,hi,hi2,h2,h3,h6,hee,hw];refine (ih _ ⟨by simp [h2],by simp [h3],by simp⟩).trans (by simp)
   ·rw [decide_eq_false c] at hee;rw [CU hi hi2 c];simp [c_16_l1,Xb.ce,hi,hi2,h2,h3,h6,hee]
  ·rintro e L' hL' ⟨h2,h3,h6⟩;rw [FH q3];simp [c_16_l1,c_16_k2,h2,h6,hL']
  ·simp [h2,h3]
 ·simp
theorem Action.ce (x:Action):Action.c x=[.str x.name,.slice 2 (x.params.map Fld.c),.slice 7 (x.body.map Xf.c)]:=by simp [Action.c]
theorem Xi.ce (x:Xi):Xi.c x=[.str x.name,.slice 2 (x.Xz.map Fld.c)]:=by simp [Xi.c]
theorem Xg.ce (x:Xg):Xg.c x=[.str x.name,a7 x.Yc,a7 x.size]:=by simp [Xg.c]
theorem Xf.ce (x:Xf):Xf.c x=[a7 x.kind,a7 x.dst.header,a7 x.dst.field,a7 x.Ye,a7 x.header,.slice 3 (x.index.map Xd.c),.slice 3 (x.value.map Xd.c)]:=by simp [Xf.c]
theorem Tbl.ce (x:Tbl):Tbl.c x=[.str x.name,.slice 3 (x.keys.map Xk.c),.slice 1 (x.Xx.map cI),a7 x.Yb.Xy,.slice 1 (x.Yb.args.map c32),a7 x.size]:=by simp [Tbl.c]
theorem Xc.ce (x:Xc):Xc.c x=[.str x.name,.slice 1 (x.extract.map cI),.bool x.select,a7 x.on.header,a7 x.on.field,.slice 3 (x.cases.map Xj.c),a7 x.Yb]:=by simp [Xc.c]
theorem Xa.ce (k t:Int) (c:List Xd) (a b:List Xa):Xa.c (.mk k t c a b)=[a7 k,a7 t,.slice 3 (c.map Xd.c),.slice 5 (a.map Xa.c),.slice 5 (b.map Xa.c)]:=by simp [Xa.c,Xa.cs_eq]
theorem Prg.ce (x:Prg):Prg.c x=[.str x.name,.slice 2 (x.Xo.map Xi.c),.slice 2 (x.Xn.map Fld.c),.slice 3 (x.Xl.map Xg.c),.slice 3 (x.Xx.map Action.c),.slice 6 (x.Xm.map Tbl.c),.slice 7 (x.Xw.map Xc.c),.slice 5 (x.Ya.map Xa.c),.slice 1 (x.Xr.map cI)]:=by simp [Prg.c]
def hp0 (p:Prg):AH:=⟨[(0,.row 9 [(nI p [])])],1⟩
structure PrgB (p:Prg):Prop where
 h:p.Xo.length<2^40
 r:p.Xl.length<2^40
 a:p.Xx.length<2^40
 b:∀x∈p.Xx,x.body.length<2^40
 t:p.Xm.length<2^40
 s:p.Xw.length<2^40
 c:p.Ya.length<2^40
 co:∀x∈p.Ya,Xa.Ok lK x
def hp1 (p:Prg) (c:Xe):AH:=⟨[(0,.row 9 [(nI p [])]),(1,.row 4 [[.slice 1 (c.rows.map (cS 5 Rw.c)),.slice 1 (c.Xq.map cI),.slice 2 (c.Xp.map Xb.c),.slice 1 (c.Xl.map (cS 1 c32))]])],2⟩
def tOk (p:Prg) (t:Int):Bool:=decide ((tblE p t).2=0)
theorem keyV {p:Prg} {x:Tbl} (h:keyE p x=none):∀k∈x.keys,k.kind=1\/k.kind=2\/k.kind=3:=by
 intro k hk;obtain ⟨i,hi,rfl⟩:=List.getElem_of_mem hk;have:=(fe_all.1 h) i hi;simp [hi] at this;split at this
 ·cases this
 ·split at this
  ·assumption
  ·cases this
structure TOk (p:Prg) (k:Nat) (hk:k<p.Xm.length):Prop where
 keys:p.Xm[k].keys.length<=6
 acts:p.Xm[k].Xx.length<=16
 kinds:∀x∈p.Xm[k].keys,x.kind=1\/x.kind=2\/x.kind=3
 size:1<=p.Xm[k].size/\p.Xm[k].size<=256
theorem KQ {p:Prg} {t:Int} (h:tOk p t=true):∃(k:Nat) (hk:k<p.Xm.length),t=k/\TOk p k hk:=by
 simp only [tOk,decide_eq_true_eq] at h;by_cases i0:t<0
 ·simp [tblE,eP i0] at h
 by_cases i1:(p.Xm.length:Int)<=t
 ·simp [tblE,eZ i1] at h
 obtain ⟨k,rfl⟩:∃k:Nat,t=k:=⟨t.toNat,by omega⟩;have hk:k<p.Xm.length:=by omega
 refine ⟨k,hk,rfl,?_⟩;unfold tblE at h;rw [qT,Qa hk] at h;dsimp only at h;by_cases z0:idS p.Xm[k].name=false
 ·rw [a9 z0] at h;cases h
 rw [QA z0] at h;by_cases z1:6<p.Xm[k].keys.length\/16<p.Xm[k].Xx.length
 ·rw [a9 z1] at h;cases h
 rw [QA z1] at h;by_cases z2:p.Xm[k].size<1\/256<p.Xm[k].size
 ·rw [a9 z2] at h;cases h
 rw [QA z2] at h;by_cases z3:(uS p p.Xm[k]).2≠0
 ·rw [a9 z3] at h;exact absurd h z3
 refine ⟨by omega,by omega,?_,by omega⟩;unfold uS at z3;cases q:keyE p p.Xm[k] with
 | none=>exact keyV q
 | some e=>
  exfalso;rw [q] at z3;dsimp only at z3;obtain ⟨i,hi,hx⟩:=E8 q;simp only [Qt] at hx;obtain ⟨y,_,hy⟩:=hx;split at hy
  ·cases hy;exact z3 (by simp)
  ·split at hy
   ·cases hy
   ·cases hy;exact z3 (by simp)
theorem Pt (p:Prg) (f:PrgS p) (t:Int):a8 Φ tD [.agg (Prg.c p),a7 t]=some (.val (.bool (tOk p t))):=by
 rw [aA rfl rfl];have h:=Sz p f t;simp only [Prg.e] at h;simp [I7,Prg.e,h,tOk]
theorem Oq (p:Prg) (f:PrgS p) (hv:∀t∈p.Xm,∀v∈t.Yb.args,ok32 0 v) (t:Int):a8 Φ sX [.agg (Prg.c p),a7 t]=some (.val (.bool (tOk p t))):=by
 rw [aA rfl rfl];have h:=Rn p f hv t;simp only [Prg.e] at h;simp [HG,Prg.e,h,tOk]
def kMax:List Xk->Int->Int
 | [],a=>a
 | k::r,a=>kMax r (max a k.kind)
def D8 (p:Prg) (t:Int):Int:=if tOk p t then (match at? p.Xm t with
 | some x=>kMax x.keys 1
 | none=>0) else 0
theorem RD:∀(l:List Xk) (a:Int),a=3->(∀x∈l,x.kind=1\/x.kind=2\/x.kind=3)->kMax l a=3
 | [],a,h,_=>h
 | k::r,a,h,hk=>by
  subst h;have:=hk k (by simp);simp only [kMax];exact RD r _ (by omega) fun x hx=>hk x (by simp [hx])
theorem De (p:Prg) (f:PrgS p) (t:Int):a8 Φ zY [.agg (Prg.c p),a7 t]=some (.val (a7 (D8 p t))):=by
 rw [aA rfl rfl];have h:=Pt p f t;simp only [Prg.e] at h;cases q:tOk p t with
 | false=>
  rw [q] at h;simp [xY,Prg.e,h,D8,q]
 | true=>
 rw [q] at h;obtain ⟨k,hk,rfl,o⟩:=KQ q;have hK:D8 p (k:Int)=kMax p.Xm[k].keys 1:=by simp [D8,q,hk]
 rw [hK];have hb:=o.keys;simp [xY,Prg.e,h,hk,Tbl.e];refine dV p.Xm[k].keys.length (fun _=>[]) 0 (fun i e=>look 17 e=some (.slice 3 (p.Xm[k].keys.map Xk.c))/\look 18 e=some (a7 p.Xm[k].keys.length)/\look 19 e=some (a7 i)/\∃a:Int,look 5 e=some (a7 a)/\(a=1\/a=2)/\kMax (p.Xm[k].keys.drop i) a=kMax p.Xm[k].keys 1)
  (fun _=>some (Rt.val (a7 (kMax p.Xm[k].keys 1)))) ?_ ?_ 0 _ 0 (Qc _) (Qb _) ?_
 ·rintro i e n L hi hL _ ⟨h17,h18,h19,a,h5,ha,hm⟩ ih;have hw:=aM i (by omega);rw [Qi hi] at hm;simp only [kMax] at hm;have hkk:=o.kinds _ (Qd hi);by_cases k3:p.Xm[k].keys[i].kind=3
  ·have:kMax p.Xm[k].keys 1=3:=by
    rw [<- hm];exact RD _ _ (by omega) fun x hx=>o.kinds x (ES hx)
   rw [this];simp [c_142_l0,Xk.e,h17,h18,h19,hi,k3]
  by_cases k2:p.Xm[k].keys[i].kind=2
  ·simp [c_142_l0,Xk.e,h17,h18,h19,hi,k2,hw];exact ih _ _ (Qc _) ⟨by simp [h17],by simp [h18],by simp,2,by simp,.inr rfl,by rw [<- hm];congr 1;omega⟩
  ·simp [c_142_l0,Xk.e,h17,h18,h19,hi,k3,k2,hw];exact ih _ _ (Qc _) ⟨by simp [h17],by simp [h18],by simp,a,by simp [h5],ha,by rw [<- hm];congr 1;omega⟩
 ·rintro e n L hL _ ⟨h17,h18,h19,a,h5,ha,hm⟩;rw [wW] at hm;simp only [kMax] at hm;rw [<- hm];simp [c_142_l0,c_142_k1,h5,h18,h19,hL]
 ·simp
theorem Bt (p:Prg) (f:PrgS p) (hv:∀t∈p.Xm,∀v∈t.Yb.args,ok32 0 v) (t:Int):a8 Φ AF [.agg (Prg.c p),a7 t]=some (.val (a7 (D8 p t))):=by
 rw [aA rfl rfl];have h:=Oq p f hv t;simp only [Prg.e] at h;cases q:tOk p t with
 | false=>
  rw [q] at h;simp [yI,Prg.e,h,D8,q]
 | true=>
 rw [q] at h;obtain ⟨k,hk,rfl,o⟩:=KQ q;have hK:D8 p (k:Int)=kMax p.Xm[k].keys 1:=by simp [D8,q,hk]
 rw [hK];have hb:=o.keys;simp [yI,Prg.e,h];refine dV p.Xm[k].keys.length (fun _=>[]) 0 (fun i e=>look 2 e=some (.iptr 9 [Prg.c p] 0 0)/\look 1 e=some (a7 k)/\look 6 e=some (a7 i)/\∃a:Int,look 5 e=some (a7 a)/\kMax (p.Xm[k].keys.drop i) a=kMax p.Xm[k].keys 1)
  (fun _=>some (Rt.val (a7 (kMax p.Xm[k].keys 1)))) ?_ ?_ 0 _ 0 (Qc _) (Qb _) ?_
 ·rintro i e n L hi hL _ ⟨h2,h1,h6,a,h5,hm⟩ ih;have hw:=aM i (by omega);rw [Qi hi] at hm;simp only [kMax] at hm;rw [Prg.e] at h2;simp [c_199_l0,Xk.e,Tbl.e,h1,h2,h5,h6,hk,hi,hw];exact ih _ _ (Qc _) ⟨by simp [h2,Prg.e],by simp [h1],by simp,max a p.Xm[k].keys[i].kind,by simp;split<;>omega,hm⟩
 ·rintro e n L hL _ ⟨h2,h1,h6,a,h5,hm⟩;rw [wW] at hm;simp only [kMax] at hm;rw [Prg.e] at h2;rw [<- hm];simp [c_199_l0,c_199_k1,Tbl.e,h1,h2,h5,h6,hk,hL]
 ·simp [Prg.e]
end Go.Av
