/-
 The check of the control flow: the reference's answer.
-/
import Derived.Test.YtjdbnnnakpacjaaGreatL3
set_option linter.unusedVariables false
set_option linter.unusedSimpArgs false
set_option linter.constructorNameAsVariable false
namespace Go.Av
set_option maxRecDepth 4000
theorem qnl (k t:Int) (c:List Xe) (a b:List Xa):qab Φ f_304 [.agg (Xa.c (.mk k t c a b))]=some (.val (.bool (appl (.mk k t c a b)))):=by
 rw [qaa (fn:=c_304) rfl rfl];by_cases k1:k=1
 ·simp [c_304,Xa.e,appl,k1]
 ·simp [c_304,Xa.e,appl,k1]
theorem qy7 (l:List Xa) (i:Nat) (hi:i<l.length) (hl:l.length<2^40):qab Φ f_289 [.slice 5 (l.map Xa.c),.int .i64 i]=some (.val (.bool ((l.take i).any fun y=>appl y&&decide (y.table=l[i].table)))):=by
 rw [qaa (fn:=c_289) rfl rfl];generalize hX:some (Rt.val (.bool ((l.take i).any fun y=>appl y&&decide (y.table=l[i].table))))=X;simp [c_289];refine (qdt (l.take i) (fun y=>appl y&&decide (y.table=l[i].table)) (some (Rt.val (.bool true))) (some (Rt.val (.bool false)))
  (fun k e H=>look 0 e=some (.slice 5 (l.map Xa.c))/\look 1 e=some (.int .i64 i)/\look 5 e=some (.int .i64 k)/\H=⟨[],0⟩) ?_ ?_ ?_ _ _ ?_).trans ?_
 ·rintro j e _ L hk hL ⟨h0,h1,h5,rfl⟩ hb;simp only [QAd] at hk;have hk1:j<i:=by omega
  have hk2:j<l.length:=by omega
  simp only [QAk,QAb,decide_eq_true_eq] at hb;obtain ⟨k,t,c,a,b,hx⟩:=qdr l[j];obtain ⟨k',t',c',a',b',hx'⟩:=qdr l[i];have ha:=qnl k t c a b;rw [hx,hx'] at hb;simp only [Xa.table_mk] at hb;obtain ⟨hb1,hb2⟩:=hb;subst hb2;rw [hb1] at ha;simp only [Xa.e] at ha;simp [c_289_l0,h0,h1,h5,hk1,hk2,hi,hx,hx',Xa.e,ha]
 ·rintro j e _ L X hk hL ⟨h0,h1,h5,rfl⟩ hb ih;simp only [QAd] at hk;have hk1:j<i:=by omega
  have hk2:j<l.length:=by omega
  have hw:=qaf j (by omega);simp only [QAk] at hb;obtain ⟨k,t,c,a,b,hx⟩:=qdr l[j];obtain ⟨k',t',c',a',b',hx'⟩:=qdr l[i];have ha:=qnl k t c a b;rw [hx,hx'] at hb;simp only [Xa.table_mk] at hb;cases q:appl (.mk k t c a b) with
  | false=>
   rw [q] at ha;simp only [Xa.e] at ha;simp [c_289_l0,h0,h1,h5,hk1,hk2,hx,Xa.e,ha,hw];exact ih _ _ ⟨by simp [h0],by simp [h1],by simp,rfl⟩
  | true=>
   rw [q] at ha hb;simp only [Xa.e] at ha;simp only [Bool.true_and,decide_eq_false_iff_not] at hb;simp [c_289_l0,h0,h1,h5,hk1,hk2,hi,hx,hx',Xa.e,ha,hb,hw];exact ih _ _ ⟨by simp [h0],by simp [h1],by simp,rfl⟩
 ·rintro e _ L hL ⟨h0,h1,h5,rfl⟩;have hm:min i l.length=i:=by omega
  simp [hm] at h5;simp [c_289_l0,c_289_k1,h1,h5,hL]
 ·simp
 ·rw [<- hX];cases (l.take i).any (fun y=>appl y&&decide (y.table=l[i].table))<;>rfl
theorem qaa1 (p:Prg) (l:List Xa) (i:Nat) (hi:i<l.length) (hl:l.length<2^40) (hc:l[i].thn.length<2^40/\l[i].els.length<2^40):qab Φ f_253 [.agg (Prg.c p),.slice 5 (l.map Xa.c),.int .i64 i]=some (.val (.int .i64 (qc4 p (l.take i) l[i]))):=by
 rw [qaa (fn:=c_253) rfl rfl];have hb:=qy7 l i hi hl;obtain ⟨k,t,c,a,b,hx⟩:=qdr l[i];rw [hx] at hc hb ⊢;simp only [Xa.thn_mk,Xa.els_mk] at hc;have hab:IntKind.wrap .i64 ((a.length:Int)+b.length)=(a.length:Int)+b.length:=qa6 (by omega) (by omega);by_cases k0:k<1
 ·rw [show qc4 p (l.take i) (.mk k t c a b)=11 by simp [qc4,show ¬k=2 by omega,show ¬k=1 by omega,show ¬k=3 by omega]];simp [c_253,hi,hx,Xa.e,Prg.e,k0]
 by_cases k4:3<k
 ·rw [show qc4 p (l.take i) (.mk k t c a b)=11 by simp [qc4,show ¬k=2 by omega,show ¬k=1 by omega,show ¬k=3 by omega]];simp [c_253,hi,hx,Xa.e,Prg.e,k0,k4]
 by_cases k2:k=2
 ·have he:=qqn p [] c;simp only [qag,QBp] at he;by_cases z:(exE p [] c).2=0
  ·rw [z] at he;by_cases y:(exE p [] c).1=1
   ·rw [y] at he;simp [c_253,hi,hx,Xa.e,Prg.e,k2,qc4,he,z,y]
   ·simp [c_253,hi,hx,Xa.e,Prg.e,k2,qc4,he,z,y]
  ·simp [c_253,hi,hx,Xa.e,Prg.e,k2,qc4,he,z]
 have k13:k=1\/k=3:=by omega
 by_cases t0:t<0
 ·rw [show qc4 p (l.take i) (.mk k t c a b)=8 by simp [qc4,k2,k13,t0]];simp [c_253,hi,hx,Xa.e,Prg.e,k0,k4,k2,t0]
 by_cases t1:(p.Xn.length:Int)<=t
 ·rw [show qc4 p (l.take i) (.mk k t c a b)=8 by simp [qc4,k2,k13,t0,t1]];simp [c_253,hi,hx,Xa.e,Prg.e,k0,k4,k2,t0,t1]
 cases q:(l.take i).any (fun y=>appl y&&decide (y.table=(Xa.mk k t c a b).table)) with
 | true=>
  rw [q] at hb;have e:qc4 p (l.take i) (.mk k t c a b)=7:=by
   unfold qc4;rw [q];simp [k2,k13,t0,t1]
  rw [e];simp [c_253,hi,hx,Xa.e,Prg.e,k0,k4,k2,t0,t1,hb]
 | false=>
  rw [q] at hb;have e:qc4 p (l.take i) (.mk k t c a b)=if k=1/\0<a.length+b.length then 5 else 0:=by
   unfold qc4;rw [q];simp [k2,k13,t0,t1]
  rw [e];by_cases k1:k=1
  ·by_cases z:0<a.length+b.length
   ·have z':(0:Int)<(a.length:Int)+b.length:=by omega
    simp [c_253,hi,hx,Xa.e,Prg.e,k1,t0,t1,hb,hab,z,z']
    first
     | done
     | (intro h;simp [h] at z;omega)
   ·have za:a.length=0:=by omega
    have zb:b.length=0:=by omega
    simp [c_253,hi,hx,Xa.e,Prg.e,k1,t0,t1,hb,za,zb];rw [show IntKind.wrap .i64 0=0 by decide];simp [Qg za,Qg zb]
  ·simp [c_253,hi,hx,Xa.e,Prg.e,k0,k4,k2,k1,t0,t1,hb]
mutual
theorem qaao:∀(x:Xa) (n:Nat),(pre1 x).length<=n->∀y∈pre1 x,y.thn.length<=n/\y.els.length<=n
 | .mk k t c a b,n,h,y,hy=>by
  rw [qe8] at h hy;simp at h;have ha:=qeu a;have hb:=qeu b;rcases QAj.1 hy with rfl | hy
  ·simp;omega
  ·rcases QAg.1 hy with hy | hy
   ·exact qk2 a n (by omega) y hy
   ·exact qk2 b n (by omega) y hy
theorem qk2:∀(l:List Xa) (n:Nat),(pre l).length<=n->∀y∈pre l,y.thn.length<=n/\y.els.length<=n
 | [],n,h,y,hy=>by simp [pre] at hy
 | x::r,n,h,y,hy=>by
  rw [pre] at h hy;simp at h;rcases QAg.1 hy with hy | hy
  ·exact qaao x n (by omega) y hy
  ·exact qk2 r n (by omega) y hy
end
theorem qac7 (p:Prg) (hl:(pre p.control).length<2^40 - 1):qab Φ f_204 [.agg (Prg.c p)]=some (.val (.tup [.int .i64 (ctlE p).1,.int .i64 (ctlE p).2])):=by
 rw [qaa (fn:=c_204) rfl rfl];have hc:=ql8 _ p.control (Qb _) (by omega);have hn:=qn8 _ p.control (Qb _) (by omega);by_cases z1:24<(pre p.control).length
 ·simp [c_204,Prg.e,hc,ctlE,z1]
 by_cases z2:6<nest p.control
 ·simp [c_204,Prg.e,hc,hn,ctlE,z1,z2]
 have hE:ctlE p=(fe (ctlG p (pre p.control)) (pre p.control).length 0).getD (0,0):=by unfold ctlE;rw [QA z1,QA z2];rfl
 have hp:=qjw _ p.control (Qb _) (by omega);rw [hE];simp [c_204,Prg.e,hc,hn,hp,z1,z2];refine qay (pre p.control).length (fun i e=>look 1 e=some (.iptr 9 [Prg.c p] 0 0)/\look 4 e=some (.slice 5 ((pre p.control).map Xa.c))/\look 5 e=some (.int .i64 i))
  (fun i=>some (Rt.val (.tup [.int .i64 ((fe (ctlG p (pre p.control)) (pre p.control).length i).getD (0,0)).1,.int .i64 ((fe (ctlG p (pre p.control)) (pre p.control).length i).getD (0,0)).2]))) ?_ ?_ 0 _ (Qc _) ?_
 ·rintro i e L hi hL ⟨h1,h4,h5⟩ ih;have hw:=qaf i (by omega);have hk:=qk2 p.control 24 (by omega) _ (Qd hi);have hE:=qaa1 p (pre p.control) i hi (by omega) ⟨by omega,by omega⟩;simp only [Prg.e] at hE;rw [Prg.e] at h1;by_cases y:qc4 p ((pre p.control).take i) (pre p.control)[i]=0
  ·rw [y] at hE;rw [qar hi (by simp [ctlG,hi,y])];simp [c_204_l0,h1,h4,h5,hi,hE,hw];exact ih _ ⟨by simp [h1,Prg.e],by simp [h4],by simp⟩
  ·rw [qal (x:=((i:Int),qc4 p ((pre p.control).take i) (pre p.control)[i])) hi (by simp [ctlG,hi,y])];simp [c_204_l0,h1,h4,h5,hi,hE,y]
 ·rintro e L hL ⟨h1,h4,h5⟩;rw [qa4];simp [c_204_l0,c_204_k1,h4,h5,hL]
 ·simp [Prg.e]
theorem qrg {Φ:FuncId->Option AFun} {β:Type} {fin:Option (Ex×St)->Option β} {α:Type} (l:List α) (bad:α->Bool) (Rb Re:Option β) (Inv:Nat->Bool->Env->AH->Prop) {b:Xv} {K:List Fr}
  (hit:∀i e h L X (hi:i<l.length),(∀j s,go Φ fin L (.exit j) s=go Φ fin K (.exit j) s)->Inv i false e h->bad l[i]=true->(∀e' h',Inv (i+1) true e' h'->go Φ fin L .normal ⟨e',h'⟩=X)->go Φ fin (.c b::L) .normal ⟨e,h⟩=X)
  (miss:∀i e h L X (hi:i<l.length),(∀j s,go Φ fin L (.exit j) s=go Φ fin K (.exit j) s)->Inv i false e h->bad l[i]=false->(∀e' h',Inv (i+1) false e' h'->go Φ fin L .normal ⟨e',h'⟩=X)->go Φ fin (.c b::L) .normal ⟨e,h⟩=X)
  (stop:∀i e h L,i<=l.length->(∀j s,go Φ fin L (.exit j) s=go Φ fin K (.exit j) s)->Inv i true e h->go Φ fin (.c b::L) .normal ⟨e,h⟩=Rb)
  (last:∀e h L,(∀j s,go Φ fin L (.exit j) s=go Φ fin K (.exit j) s)->Inv l.length false e h->go Φ fin (.c b::L) .normal ⟨e,h⟩=Re):
  ∀e h,Inv 0 false e h->go Φ fin (.c (.loop b)::K) .normal ⟨e,h⟩=if l.any bad then Rb else Re:=by
 intro e h h0;refine (qtx (σ:=Nat×Bool) (fun x=>if x.2 then 0 else l.length - x.1+1) (fun x e h=>x.1<=l.length/\Inv x.1 x.2 e h) (fun x=>if x.2 then Rb else if qcg l bad x.1 then Rb else Re) ?_ (0,false) e h ⟨Qc _,h0⟩).trans (by simp [qg5]);rintro ⟨i,f⟩ e h L hL ⟨hi,hinv⟩ ih;cases f with
 | true=>exact stop i e h L hi hL hinv
 | false=>
  simp only [QAh,if_false];rcases Nat.lt_or_eq_of_le hi with hlt | heq
  ·cases hb:bad l[i] with
   | true=>
    rw [qjz hlt hb,QAa rfl];exact hit i e h L _ hlt hL hinv hb fun e' h' hi'=>ih (i+1,true) e' h' (by simp) ⟨by simp;omega,hi'⟩
   | false=>
    rw [qey hlt hb];refine miss i e h L _ hlt hL hinv hb fun e' h' hi'=>?_
    have:=ih (i+1,false) e' h' (by simp;simp at hlt;omega) ⟨by simp;omega,hi'⟩;simpa using this
  ·simp only at heq;subst heq;rw [qip];exact last e h L hL hinv
def dgR (o:Option Dg):Rt:= .val (.agg (dgC (o.getD (0,0,0,0))))
def dH:AH:=⟨[(0,.row 4 [[.int .i64 0,.int .i64 0,.int .i64 0,.int .i64 0]])],1⟩
theorem qce (a b c d:Int):qab Φ f_197 [.int .i64 a,.int .i64 b,.int .i64 c,.int .i64 d]=some (.val (.agg [.int .i64 a,.int .i64 b,.int .i64 c,.int .i64 d])):=by
 rw [qaa (fn:=c_197) rfl rfl];simp [c_197]
theorem qahk (p:Prg) (f:PrgS p):qab Φ f_131 [.agg (Prg.c p)]=some (dgR (limD p)):=by
 rw [qaa (fn:=c_131) rfl rfl];have n1:=qeh p.name f.n;cases q1:idS p.name with
 | false=>rw [q1] at n1;simp [c_131,Prg.e,n1,qce,limD,q1,dgR,dgC]
 | true=>
 rw [q1] at n1;by_cases z1:8<p.Xp.length
 ·simp [c_131,Prg.e,n1,qce,limD,q1,dgR,dgC,z1]
 by_cases z2:4<p.Xm.length
 ·simp [c_131,Prg.e,n1,qce,limD,q1,dgR,dgC,z1,z2]
 by_cases z3:16<p.actions.length
 ·simp [c_131,Prg.e,n1,qce,limD,q1,dgR,dgC,z1,z2,z3]
 by_cases z4:12<p.Xn.length
 ·simp [c_131,Prg.e,n1,qce,limD,q1,dgR,dgC,z1,z2,z3,z4]
 simp [c_131,Prg.e,n1,limD,q1,dgR,dgC,z1,z2,z3,z4]
theorem qadd (p:Prg) (f:PrgS p):qab Φ f_132 [.agg (Prg.c p)]=some (dgR (hdrD p)):=by
 rw [qaa (fn:=c_132) rfl rfl,show hdrD p=fe (hdrG p) p.Xp.length 0 from rfl];simp [c_132,Prg.e];refine qay p.Xp.length (fun i e=>look 1 e=some (.iptr 9 [Prg.c p] 0 0)/\look 2 e=some (.ptr 0 4 0 0)/\look 3 e=some (.int .i64 i))
  (fun i=>some (dgR (fe (hdrG p) p.Xp.length i))) ?_ ?_ 0 _ (Qc _) ?_
 ·rintro i e L hi hL ⟨h1,h2,h3⟩ ih;have hlen:=f.h;have hw:=qaf i (by omega);have hm:=Qd hi;have eh:=qade p.Xp[i] (f.hn _ hm) (f.hf _ hm);simp only [Xj.e] at eh;rw [Prg.e] at h1;have bad:∀c:Int,c≠0->qfs p i p.Xp[i]=c->fe (hdrG p) p.Xp.length i=some (c,1,(i:Int),0):=fun c h0 h=>qal hi (by simp [hdrG,hi,h,h0])
  by_cases z1:hdrE p.Xp[i]=0
  rotate_left
  ·rw [bad _ z1 (by simp [qfs,z1])];simp [c_132_l3,Xj.e,h1,h3,hi,eh,z1];rw [qap];by_cases hi0:0<i<;>simp [c_132_l0,c_132_k1,h2,h3,z1,hi0,qce,dgR,dgC]
  by_cases z2:p.Xp[i].name=[109,101,116,97]
  ·rw [bad 6 (by decide) (by simp [qfs,z1,z2])];rw [z2] at eh;simp [c_132_l3,Xj.e,h1,h3,hi,eh,z1,z2];rw [qap];by_cases hi0:0<i<;>simp [c_132_l0,c_132_k1,h2,h3,hi0,qce,dgR,dgC]
  generalize hX:some (dgR (fe (hdrG p) p.Xp.length i))=X;simp [c_132_l3,Xj.e,h1,h3,hi,eh,z1,z2];refine (qrg (p.Xp.take i) (fun y=>decide (y.name=p.Xp[i].name)) (some (dgR (some (7,1,(i:Int),0)))) (some (dgR (fe (hdrG p) p.Xp.length (i+1))))
   (fun k b e H=>look 1 e=some (.iptr 9 [Prg.c p] 0 0)/\look 2 e=some (.ptr 0 4 0 0)/\look 3 e=some (.int .i64 i)/\look 4 e=some (.int .i64 (if b then 7 else 0))/\look 5 e=some (.int .i64 k)/\H=dH) ?_ ?_ ?_ ?_ _ _ ?_).trans ?_
  ·rintro k e _ L' Y hk hL' ⟨h1,h2,h3,h4,h5,rfl⟩ hb ih';simp only [QAd] at hk;have hk1:k<i:=by omega
   have hk2:k<p.Xp.length:=by omega
   have hw':=qaf k (by omega);simp only [QAk,decide_eq_true_eq] at hb;rw [Prg.e] at h1;simp at h4;simp [c_132_l0,Xj.e,h1,h3,h4,h5,hk1,hk2,hi,hb,hw'];exact ih' _ _ ⟨by simp [h1,Prg.e],by simp [h2],by simp [h3],by simp,by simp,rfl⟩
  ·rintro k e _ L' Y hk hL' ⟨h1,h2,h3,h4,h5,rfl⟩ hb ih';simp only [QAd] at hk;have hk1:k<i:=by omega
   have hk2:k<p.Xp.length:=by omega
   have hw':=qaf k (by omega);simp only [QAk,decide_eq_false_iff_not] at hb;rw [Prg.e] at h1;simp at h4;simp [c_132_l0,Xj.e,h1,h3,h4,h5,hk1,hk2,hi,hb,hw'];exact ih' _ _ ⟨by simp [h1,Prg.e],by simp [h2],by simp [h3],by simp [h4],by simp,rfl⟩
  ·rintro k e _ L' hk hL' ⟨h1,h2,h3,h4,h5,rfl⟩;simp only [QAd] at hk;simp at h4;by_cases hk1:k<i
   ·simp [c_132_l0,c_132_k1,h2,h3,h4,h5,hk1,hL',qce,dgR,dgC,dH]
   ·simp [c_132_l0,c_132_k1,h2,h3,h4,h5,hk1,hL',qce,dgR,dgC,dH]
  ·rintro e _ L' hL' ⟨h1,h2,h3,h4,h5,rfl⟩;have hmn:min i p.Xp.length=i:=by omega
   simp [hmn] at h4 h5;simp [c_132_l0,c_132_k1,c_132_k2,h3,h4,h5,hL',hw];exact ih _ ⟨by simp [h1],by simp [h2],by simp⟩
  ·simp [h1,h2,h3,Prg.e,dH]
  ·rw [<- hX];cases q:dupN Xj.name p.Xp i p.Xp[i] with
   | true=>
    rw [bad 7 (by decide) (by simp [qfs,z1,z2,q])];unfold dupN at q;rw [q];rfl
   | false=>
    rw [qar hi (by simp [hdrG,hi,qfs,z1,z2,q])];unfold dupN at q;rw [q];rfl
 ·rintro e L hL ⟨h1,h2,h3⟩;rw [qa4];rw [Prg.e] at h1;simp [c_132_l3,c_132_k4,h1,h2,h3,hL,dgR,dgC]
 ·simp [Prg.e]
theorem qaaz (l:List Fld) (i:Nat) (hi:i<l.length) (hl:l.length<2^40) (hf:∀f∈l,f.name.length<2^40):qab Φ f_199 [.slice 2 (l.map Fld.c),.int .i64 i]=some (.val (.int .i64 (fldE l i l[i]))):=by
 rw [qaa (fn:=c_199) rfl rfl];have nf:=qeh l[i].name (hf _ (Qd hi));cases p1:idS l[i].name with
 | false=>
  rw [p1] at nf;simp [c_199,Fld.e,hi,nf,fldE,p1]
 | true=>
 rw [p1] at nf;by_cases w1:l[i].width<1
 ·simp [c_199,Fld.e,hi,nf,fldE,p1,wBad,w1]
 by_cases w2:32<l[i].width
 ·simp [c_199,Fld.e,hi,nf,fldE,p1,wBad,w1,w2]
 rw [show fldE l i l[i]=if dupN Fld.name l i l[i]=true then 7 else 0 by simp [fldE,p1,wBad,w1,w2]];unfold dupN;generalize hX:some (Rt.val (AV.int .i64 (if (l.take i).any (fun y=>decide (y.name=l[i].name))=true then 7 else 0)))=X;simp [c_199,Fld.e,hi,nf,w1,w2];refine (qdt (l.take i) (fun y=>decide (y.name=l[i].name)) (some (Rt.val (.int .i64 7))) (some (Rt.val (.int .i64 0)))
  (fun k e H=>look 0 e=some (.slice 2 (l.map Fld.c))/\look 1 e=some (.int .i64 i)/\look 5 e=some (.int .i64 k)/\H=⟨[],0⟩) ?_ ?_ ?_ _ _ ?_).trans ?_
 ·rintro k e _ L' hk hL' ⟨h0,h1,h5,rfl⟩ hb;simp only [QAd] at hk;have hk1:k<i:=by omega
  have hk2:k<l.length:=by omega
  simp only [QAk,decide_eq_true_eq] at hb;simp [c_199_l0,Fld.e,h0,h1,h5,hk1,hk2,hi,hb]
 ·rintro k e _ L' X hk hL' ⟨h0,h1,h5,rfl⟩ hb ih';simp only [QAd] at hk;have hk1:k<i:=by omega
  have hk2:k<l.length:=by omega
  have hw':=qaf k (by omega);simp only [QAk,decide_eq_false_iff_not] at hb;simp [c_199_l0,Fld.e,h0,h1,h5,hk1,hk2,hi,hb,hw'];exact ih' _ _ ⟨by simp [h0],by simp [h1],by simp,rfl⟩
 ·rintro e _ L' hL' ⟨h0,h1,h5,rfl⟩;have hm:min i l.length=i:=by omega
  simp [hm] at h5;simp [c_199_l0,c_199_k1,h1,h5,hL']
 ·simp
 ·rw [<- hX];cases (l.take i).any (fun y=>decide (y.name=l[i].name))<;>rfl
theorem qadi (p:Prg) (e:Env) (h1:look 1 e=some (.iptr 9 [Prg.c p] 0 0)) (h2:look 2 e=some (.ptr 0 4 0 0)):go Φ (finP [.cell 2 true 4]) [.c c_133_k3] .normal ⟨e,dH⟩=some (dgR (fe (metH p) 3 0)):=by
 rw [Prg.e] at h1;simp [c_133_k3,dH];rw [qap];by_cases l0:p.Xo.length<=0
 ·rw [qal (x:=(5,2,0,0)) (by omega) (by unfold metH;rw [Qk l0];rfl)];have hnil:p.Xo=[]:=Qg (by omega);simp [c_133_l1,h1,h2,hnil,qce,dgR,dgC]
 have k0:0<p.Xo.length:=by omega
 have hne:¬p.Xo=[]:=by intro h;rw [h] at k0;simp at k0
 by_cases a0:p.Xo[0].name=[105,110]
 rotate_left
 ·rw [qal (x:=(5,2,0,0)) (by omega) (by unfold metH;rw [Qa k0,QA (by simp [qdp,Fld.eq_iff,a0])];rfl)];simp [c_133_l1,Fld.e,h1,h2,hne,k0,a0,qce,dgR,dgC]
 by_cases b0:p.Xo[0].width=8
 rotate_left
 ·rw [qal (x:=(5,2,0,0)) (by omega) (by unfold metH;rw [Qa k0,QA (by simp [qdp,Fld.eq_iff,b0])];rfl)];simp [c_133_l1,Fld.e,h1,h2,hne,k0,a0,b0,qce,dgR,dgC]
 rw [qar (by omega) (by unfold metH;rw [Qa k0,QAa (by simp [qdp,Fld.eq_iff,a0,b0])])];simp [c_133_l1,Fld.e,h1,hne,k0,a0,b0,wr1];rw [qap];by_cases l1:p.Xo.length<=1
 ·rw [qal (x:=(5,2,1,0)) (by omega) (by unfold metH;rw [Qk l1];rfl)];simp [h1,h2,l1,qce,dgR,dgC]
 have k1:1<p.Xo.length:=by omega
 by_cases a1:p.Xo[1].name=[111,117,116]
 rotate_left
 ·rw [qal (x:=(5,2,1,0)) (by omega) (by unfold metH;rw [Qa k1,QA (by simp [qdp,Fld.eq_iff,a1])];rfl)];simp [Fld.e,h1,h2,k1,l1,a1,qce,dgR,dgC]
 by_cases b1:p.Xo[1].width=8
 rotate_left
 ·rw [qal (x:=(5,2,1,0)) (by omega) (by unfold metH;rw [Qa k1,QA (by simp [qdp,Fld.eq_iff,b1])];rfl)];simp [Fld.e,h1,h2,k1,l1,a1,b1,qce,dgR,dgC]
 rw [qar (by omega) (by unfold metH;rw [Qa k1,QAa (by simp [qdp,Fld.eq_iff,a1,b1])])];simp [Fld.e,h1,k1,l1,a1,b1,wr2];rw [qap];by_cases l2:p.Xo.length<=2
 ·rw [qal (x:=(5,2,2,0)) (by omega) (by unfold metH;rw [Qk l2];rfl)];simp [h1,h2,l2,qce,dgR,dgC]
 have k2:2<p.Xo.length:=by omega
 by_cases a2:p.Xo[2].name=[100,114,111,112]
 rotate_left
 ·rw [qal (x:=(5,2,2,0)) (by omega) (by unfold metH;rw [Qa k2,QA (by simp [qdp,Fld.eq_iff,a2])];rfl)];simp [Fld.e,h1,h2,k2,l2,a2,qce,dgR,dgC]
 by_cases b2:p.Xo[2].width=1
 rotate_left
 ·rw [qal (x:=(5,2,2,0)) (by omega) (by unfold metH;rw [Qa k2,QA (by simp [qdp,Fld.eq_iff,b2])];rfl)];simp [Fld.e,h1,h2,k2,l2,a2,b2,qce,dgR,dgC]
 rw [qar (by omega) (by unfold metH;rw [Qa k2,QAa (by simp [qdp,Fld.eq_iff,a2,b2])])];simp [Fld.e,h1,k2,l2,a2,b2,wr3];rw [qap,qa4];simp [c_133_k2,h2,dgR,dgC]
theorem qadh (p:Prg) (f:PrgS p):qab Φ f_133 [.agg (Prg.c p)]=some (dgR (metD p)):=by
 rw [qaa (fn:=c_133) rfl rfl,qqa];by_cases z:12<p.Xo.length
 ·simp [c_133,Prg.e,z,qce,dgR,dgC]
 rw [QA z];simp [c_133,Prg.e,z];refine qay p.Xo.length (fun i e=>look 1 e=some (.iptr 9 [Prg.c p] 0 0)/\look 2 e=some (.ptr 0 4 0 0)/\look 3 e=some (.int .i64 i))
  (fun i=>some (dgR ((fe (metG p) p.Xo.length i).or (fe (metH p) 3 0)))) ?_ ?_ 0 _ (Qc _) ?_
 ·rintro i e L hi hL ⟨h1,h2,h3⟩ ih;have hlen:=f.m;have hw:=qaf i (by omega);have ef:=qaaz p.Xo i hi f.m f.mn;rw [Prg.e] at h1;by_cases y:fldE p.Xo i p.Xo[i]=0
  ·rw [y] at ef;rw [qar hi (by simp [metG,hi,y])];simp [c_133_l0,h1,h3,hi,ef,hw];exact ih _ ⟨by simp [h1,Prg.e],by simp [h2],by simp⟩
  ·rw [qal (x:=(fldE p.Xo i p.Xo[i],2,(i:Int),0)) hi (by simp [metG,hi,y])];simp [c_133_l0,h1,h2,h3,hi,ef,y,qce,dgR,dgC]
 ·rintro e L hL ⟨h1,h2,h3⟩;rw [qa4];have hh:=qadi p;simp only [dH] at hh;rw [Prg.e] at h1;simp [c_133_l0,h1,h3,hL];apply hh
  ·simp [h1,Prg.e]
  ·simp [h2]
 ·simp [Prg.e]
theorem qahi (p:Prg) (f:PrgS p) (hc:(pre p.control).length<2^40 - 1):qab Φ f_137 [.agg (Prg.c p)]=some (dgR (floD p)):=by
 rw [qaa (fn:=c_137) rfl rfl];have e1:=qadl p f;have e2:=qac7 p hc;have e3:=qac9 p f;simp only [Prg.e,tup3] at e1 e2 e3;by_cases y1:(parE p).2.2=0
 rotate_left
 ·simp [c_137,Prg.e,e1,y1,qce,floD,dgR,dgC]
 rw [y1] at e1;by_cases y2:(ctlE p).2=0
 rotate_left
 ·simp [c_137,Prg.e,e1,y1,e2,y2,qce,floD,dgR,dgC]
 rw [y2] at e2;by_cases y3:(depE p).2=0
 rotate_left
 ·simp [c_137,Prg.e,e1,y1,e2,y2,e3,y3,qce,floD,dgR,dgC]
 rw [y3] at e3;simp [c_137,Prg.e,e1,y1,e2,y2,e3,y3,floD,dgR,dgC]
theorem qadn (p:Prg) (f:PrgS p):qab Φ f_134 [.agg (Prg.c p)]=some (dgR (regD p)):=by
 rw [qaa (fn:=c_134) rfl rfl,show regD p=fe (regG p) p.Xm.length 0 from rfl];simp [c_134,Prg.e];refine qay p.Xm.length (fun i e=>look 1 e=some (.iptr 9 [Prg.c p] 0 0)/\look 2 e=some (.ptr 0 4 0 0)/\look 3 e=some (.int .i64 i))
  (fun i=>some (dgR (fe (regG p) p.Xm.length i))) ?_ ?_ 0 _ (Qc _) ?_
 ·rintro i e L hi hL ⟨h1,h2,h3⟩ ih;have hlen:=f.r;have hw:=qaf i (by omega);have hm:=Qd hi;have eh:=qado p.Xm[i] (f.rn _ hm);simp only [Xh.e] at eh;rw [Prg.e] at h1;have bad:∀c:Int,c≠0->qfw p i p.Xm[i]=c->fe (regG p) p.Xm.length i=some (c,3,(i:Int),0):=fun c h0 h=>qal hi (by simp [regG,hi,h,h0])
  by_cases z1:regE p.Xm[i]=0
  rotate_left
  ·rw [bad _ z1 (by simp [qfw,z1])];simp [c_134_l3,Xh.e,h1,h3,hi,eh];rw [qap];by_cases hi0:0<i<;>simp [c_134_l0,c_134_k1,h2,h3,z1,hi0,qce,dgR,dgC]
  generalize hX:some (dgR (fe (regG p) p.Xm.length i))=X;simp [c_134_l3,Xh.e,h1,h3,hi,eh,z1];refine (qrg (p.Xm.take i) (fun y=>decide (y.name=p.Xm[i].name)) (some (dgR (some (7,3,(i:Int),0)))) (some (dgR (fe (regG p) p.Xm.length (i+1))))
   (fun k b e H=>look 1 e=some (.iptr 9 [Prg.c p] 0 0)/\look 2 e=some (.ptr 0 4 0 0)/\look 3 e=some (.int .i64 i)/\look 4 e=some (.int .i64 (if b then 7 else 0))/\look 5 e=some (.int .i64 k)/\H=dH) ?_ ?_ ?_ ?_ _ _ ?_).trans ?_
  ·rintro k e _ L' Y hk hL' ⟨h1,h2,h3,h4,h5,rfl⟩ hb ih';simp only [QAd] at hk;have hk1:k<i:=by omega
   have hk2:k<p.Xm.length:=by omega
   have hw':=qaf k (by omega);simp only [QAk,decide_eq_true_eq] at hb;rw [Prg.e] at h1;simp at h4;simp [c_134_l0,Xh.e,h1,h3,h4,h5,hk1,hk2,hi,hb,hw'];exact ih' _ _ ⟨by simp [h1,Prg.e],by simp [h2],by simp [h3],by simp,by simp,rfl⟩
  ·rintro k e _ L' Y hk hL' ⟨h1,h2,h3,h4,h5,rfl⟩ hb ih';simp only [QAd] at hk;have hk1:k<i:=by omega
   have hk2:k<p.Xm.length:=by omega
   have hw':=qaf k (by omega);simp only [QAk,decide_eq_false_iff_not] at hb;rw [Prg.e] at h1;simp at h4;simp [c_134_l0,Xh.e,h1,h3,h4,h5,hk1,hk2,hi,hb,hw'];exact ih' _ _ ⟨by simp [h1,Prg.e],by simp [h2],by simp [h3],by simp [h4],by simp,rfl⟩
  ·rintro k e _ L' hk hL' ⟨h1,h2,h3,h4,h5,rfl⟩;simp only [QAd] at hk;simp at h4;by_cases hk1:k<i
   ·simp [c_134_l0,c_134_k1,h2,h3,h4,h5,hk1,hL',qce,dgR,dgC,dH]
   ·simp [c_134_l0,c_134_k1,h2,h3,h4,h5,hk1,hL',qce,dgR,dgC,dH]
  ·rintro e _ L' hL' ⟨h1,h2,h3,h4,h5,rfl⟩;have hmn:min i p.Xm.length=i:=by omega
   simp [hmn] at h4 h5;simp [c_134_l0,c_134_k1,c_134_k2,h3,h4,h5,hL',hw];exact ih _ ⟨by simp [h1],by simp [h2],by simp⟩
  ·simp [h1,h2,h3,Prg.e,dH]
  ·rw [<- hX];cases q:dupN Xh.name p.Xm i p.Xm[i] with
   | true=>
    rw [bad 7 (by decide) (by simp [qfw,z1,q])];unfold dupN at q;rw [q];rfl
   | false=>
    rw [qar hi (by simp [regG,hi,qfw,z1,q])];unfold dupN at q;rw [q];rfl
 ·rintro e L hL ⟨h1,h2,h3⟩;rw [qa4];rw [Prg.e] at h1;simp [c_134_l3,c_134_k4,h1,h2,h3,hL,dgR,dgC]
 ·simp [Prg.e]
theorem qaas (p:Prg) (f:PrgS p):qab Φ f_135 [.agg (Prg.c p)]=some (dgR (qea p)):=by
 rw [qaa (fn:=c_135) rfl rfl,show qea p=fe (acG p) p.actions.length 0 from rfl];simp [c_135,Prg.e];refine qay p.actions.length (fun i e=>look 1 e=some (.iptr 9 [Prg.c p] 0 0)/\look 2 e=some (.ptr 0 4 0 0)/\look 3 e=some (.int .i64 i))
  (fun i=>some (dgR (fe (acG p) p.actions.length i))) ?_ ?_ 0 _ (Qc _) ?_
 ·rintro i e L hi hL ⟨h1,h2,h3⟩ ih;have hlen:=f.a;have hw:=qaf i (by omega);have et:=qac4 p f i;simp only [Prg.e] at et;rw [Prg.e] at h1;by_cases y:(actE p i).2=0
  rotate_left
  ·rw [qal (x:=((actE p i).2,4,(i:Int),(actE p i).1)) hi (by simp [acG,hi,y])];simp [c_135_l2,h1,h2,h3,hi,et,y,qce,dgR,dgC]
  rw [y] at et;generalize hX:some (dgR (fe (acG p) p.actions.length i))=X;simp [c_135_l2,h1,h3,hi,et];refine (qdt (p.actions.take i) (fun g=>decide (g.name=p.actions[i].name)) (some (dgR (some (7,4,(i:Int),0)))) (some (dgR (fe (acG p) p.actions.length (i+1))))
   (fun k e H=>look 1 e=some (.iptr 9 [Prg.c p] 0 0)/\look 2 e=some (.ptr 0 4 0 0)/\look 3 e=some (.int .i64 i)/\look 6 e=some (.int .i64 k)/\H=dH) ?_ ?_ ?_ _ _ ?_).trans ?_
  ·rintro k e _ L' hk hL' ⟨h1,h2,h3,h6,rfl⟩ hb;simp only [QAd] at hk;have hk1:k<i:=by omega
   have hk2:k<p.actions.length:=by omega
   simp only [QAk,decide_eq_true_eq] at hb;rw [Prg.e] at h1;simp [c_135_l0,Action.e,h1,h2,h3,h6,hk1,hk2,hi,hb,qce,dgR,dgC,dH]
  ·rintro k e _ L' Y hk hL' ⟨h1,h2,h3,h6,rfl⟩ hb ih';simp only [QAd] at hk;have hk1:k<i:=by omega
   have hk2:k<p.actions.length:=by omega
   have hw':=qaf k (by omega);simp only [QAk,decide_eq_false_iff_not] at hb;rw [Prg.e] at h1;simp [c_135_l0,Action.e,h1,h3,h6,hk1,hk2,hi,hb,hw'];exact ih' _ _ ⟨by simp [h1,Prg.e],by simp [h2],by simp [h3],by simp,rfl⟩
  ·rintro e _ L' hL' ⟨h1,h2,h3,h6,rfl⟩;have hm:min i p.actions.length=i:=by omega
   simp [hm] at h6;simp [c_135_l0,c_135_k1,h3,h6,hL',hw];exact ih _ ⟨by simp [h1],by simp [h2],by simp⟩
  ·simp [h1,h2,h3,Prg.e,dH]
  ·rw [<- hX];cases q:dupN Action.name p.actions i p.actions[i] with
   | true=>
    rw [qal (x:=(7,4,(i:Int),0)) hi (by simp [acG,hi,y,q])];unfold dupN at q;rw [q];rfl
   | false=>
    rw [qar hi (by simp [acG,hi,y,q])];unfold dupN at q;rw [q];rfl
 ·rintro e L hL ⟨h1,h2,h3⟩;rw [qa4];rw [Prg.e] at h1;simp [c_135_l2,c_135_k3,h1,h2,h3,hL,dgR,dgC]
 ·simp [Prg.e]
theorem qadr (p:Prg) (f:PrgS p) (hv:∀t∈p.Xn,∀v∈t.dflt.args,ok32 0 v):qab Φ f_136 [.agg (Prg.c p)]=some (dgR (tblD p)):=by
 rw [qaa (fn:=c_136) rfl rfl,show tblD p=fe (tbG p) p.Xn.length 0 from rfl];simp [c_136,Prg.e];refine qay p.Xn.length (fun i e=>look 1 e=some (.iptr 9 [Prg.c p] 0 0)/\look 2 e=some (.ptr 0 4 0 0)/\look 3 e=some (.int .i64 i))
  (fun i=>some (dgR (fe (tbG p) p.Xn.length i))) ?_ ?_ 0 _ (Qc _) ?_
 ·rintro i e L hi hL ⟨h1,h2,h3⟩ ih;have hlen:=f.t;have hw:=qaf i (by omega);have et:=qn9 p f hv i;simp only [Prg.e] at et;rw [Prg.e] at h1;by_cases y:(tblE p i).2=0
  rotate_left
  ·rw [qal (x:=((tblE p i).2,5,(i:Int),(tblE p i).1)) hi (by simp [tbG,hi,y])];simp [c_136_l2,h1,h2,h3,hi,et,y,qce,dgR,dgC]
  rw [y] at et;generalize hX:some (dgR (fe (tbG p) p.Xn.length i))=X;simp [c_136_l2,h1,h3,hi,et];refine (qdt (p.Xn.take i) (fun g=>decide (g.name=p.Xn[i].name)) (some (dgR (some (7,5,(i:Int),0)))) (some (dgR (fe (tbG p) p.Xn.length (i+1))))
   (fun k e H=>look 1 e=some (.iptr 9 [Prg.c p] 0 0)/\look 2 e=some (.ptr 0 4 0 0)/\look 3 e=some (.int .i64 i)/\look 6 e=some (.int .i64 k)/\H=dH) ?_ ?_ ?_ _ _ ?_).trans ?_
  ·rintro k e _ L' hk hL' ⟨h1,h2,h3,h6,rfl⟩ hb;simp only [QAd] at hk;have hk1:k<i:=by omega
   have hk2:k<p.Xn.length:=by omega
   simp only [QAk,decide_eq_true_eq] at hb;rw [Prg.e] at h1;simp [c_136_l0,Tbl.e,h1,h2,h3,h6,hk1,hk2,hi,hb,qce,dgR,dgC,dH]
  ·rintro k e _ L' Y hk hL' ⟨h1,h2,h3,h6,rfl⟩ hb ih';simp only [QAd] at hk;have hk1:k<i:=by omega
   have hk2:k<p.Xn.length:=by omega
   have hw':=qaf k (by omega);simp only [QAk,decide_eq_false_iff_not] at hb;rw [Prg.e] at h1;simp [c_136_l0,Tbl.e,h1,h3,h6,hk1,hk2,hi,hb,hw'];exact ih' _ _ ⟨by simp [h1,Prg.e],by simp [h2],by simp [h3],by simp,rfl⟩
  ·rintro e _ L' hL' ⟨h1,h2,h3,h6,rfl⟩;have hm:min i p.Xn.length=i:=by omega
   simp [hm] at h6;simp [c_136_l0,c_136_k1,h3,h6,hL',hw];exact ih _ ⟨by simp [h1],by simp [h2],by simp⟩
  ·simp [h1,h2,h3,Prg.e,dH]
  ·rw [<- hX];cases q:dupN Tbl.name p.Xn i p.Xn[i] with
   | true=>
    rw [qal (x:=(7,5,(i:Int),0)) hi (by simp [tbG,hi,y,q])];unfold dupN at q;rw [q];rfl
   | false=>
    rw [qar hi (by simp [tbG,hi,y,q])];unfold dupN at q;rw [q];rfl
 ·rintro e L hL ⟨h1,h2,h3⟩;rw [qa4];rw [Prg.e] at h1;simp [c_136_l2,c_136_k3,h1,h2,h3,hL,dgR,dgC]
 ·simp [Prg.e]
theorem qd7 {α:Type} {f:Nat->Option α} {N:Nat} {x:α}:∀{i},fe f N i=some x->∃k,k<N/\f k=some x:=by
 have key:∀n i,feF f n i=some x->∃k,k<i+n/\f k=some x:=by
  intro n
  induction n with
  | zero=>intro i h;simp [feF] at h
  | succ n ih=>
   intro i h;simp only [feF] at h;cases q:f i with
   | some y=>rw [q] at h;cases h;exact ⟨i,by omega,q⟩
   | none=>
    rw [q] at h;obtain ⟨k,h1,h2⟩:=ih _ h;exact ⟨k,by omega,h2⟩
 intro i h;unfold fe at h;obtain ⟨k,h1,h2⟩:=key _ _ h;by_cases hi:i<=N
 ·exact ⟨k,by omega,h2⟩
 ·rw [show N - i=0 by omega] at h;simp [feF] at h
theorem qaga {p:Prg} {d:Dg} (h:limD p=some d):d.1≠0:=by
 unfold limD at h
 repeat' split at h
 all_goals first
  | (cases h;decide)
  | (cases h)
theorem qafx {p:Prg} {d:Dg} (h:hdrD p=some d):d.1≠0:=by
 obtain ⟨k,hk,h⟩:=qd7 (f:=hdrG p) h;rw [hdrG,Qa hk,QAi] at h;split at h
 ·cases h
 ·rename_i z;cases h;exact z
theorem qagd {p:Prg} {d:Dg} (h:metD p=some d):d.1≠0:=by
 rw [qqa] at h;split at h
 ·cases h;decide
 ·cases q:fe (metG p) p.Xo.length 0 with
  | some x=>
   rw [q] at h;cases h;obtain ⟨k,hk,h⟩:=qd7 q;rw [metG,Qa hk,QAi] at h;split at h
   ·cases h
   ·rename_i z;cases h;exact z
  | none=>
   rw [q,Option.none_or] at h;obtain ⟨k,hk,h⟩:=qd7 h;unfold metH at h;split at h
   ·cases h
   ·cases h;simp
theorem qahe {p:Prg} {d:Dg} (h:regD p=some d):d.1≠0:=by
 obtain ⟨k,hk,h⟩:=qd7 (f:=regG p) h;rw [regG,Qa hk,QAi] at h;split at h
 ·cases h
 ·rename_i z;cases h;exact z
theorem qabq {p:Prg} {d:Dg} (h:qea p=some d):d.1≠0:=by
 obtain ⟨k,hk,h⟩:=qd7 (f:=acG p) h;rw [acG,Qa hk,QAi] at h;split at h
 ·rename_i z;cases h;exact z
 ·split at h
  ·cases h;simp
  ·cases h
theorem qah3 {p:Prg} {d:Dg} (h:tblD p=some d):d.1≠0:=by
 obtain ⟨k,hk,h⟩:=qd7 (f:=tbG p) h;rw [tbG,Qa hk,QAi] at h;split at h
 ·rename_i z;cases h;exact z
 ·split at h
  ·cases h;simp
  ·cases h
theorem qlk (p:Prg) (f:PrgS p) (hv:∀t∈p.Xn,∀v∈t.dflt.args,ok32 0 v) (hc:(pre p.control).length<2^40 - 1):qab Φ f_65 [.agg (Prg.c p)]=some (.val (.agg (dgC (prgD p)))):=by
 rw [qaa (fn:=c_65) rfl rfl];have h1:=qahk p f;have h2:=qadd p f;have h3:=qadh p f;have h4:=qadn p f;have h5:=qaas p f;have h6:=qadr p f hv;have h7:=qahi p f hc;simp only [Prg.e] at h1 h2 h3 h4 h5 h6 h7;unfold prgD;cases q1:limD p with
 | some d=>have n:=qaga q1;rw [q1] at h1;simp [c_65,Prg.e,h1,dgR,dgC,n]
 | none=>
 rw [q1] at h1;cases q2:hdrD p with
 | some d=>have n:=qafx q2;rw [q2] at h2;simp [c_65,Prg.e,h1,h2,dgR,dgC,n]
 | none=>
 rw [q2] at h2;cases q3:metD p with
 | some d=>have n:=qagd q3;rw [q3] at h3;simp [c_65,Prg.e,h1,h2,h3,dgR,dgC,n]
 | none=>
 rw [q3] at h3;cases q4:regD p with
 | some d=>have n:=qahe q4;rw [q4] at h4;simp [c_65,Prg.e,h1,h2,h3,h4,dgR,dgC,n]
 | none=>
 rw [q4] at h4;cases q5:qea p with
 | some d=>have n:=qabq q5;rw [q5] at h5;simp [c_65,Prg.e,h1,h2,h3,h4,h5,dgR,dgC,n]
 | none=>
 rw [q5] at h5;cases q6:tblD p with
 | some d=>have n:=qah3 q6;rw [q6] at h6;simp [c_65,Prg.e,h1,h2,h3,h4,h5,h6,dgR,dgC,n]
 | none=>
 rw [q6] at h6;cases q7:floD p with
 | some d=>rw [q7] at h7;simp [c_65,Prg.e,h1,h2,h3,h4,h5,h6,h7,dgR,dgC]
 | none=>rw [q7] at h7;simp [c_65,Prg.e,h1,h2,h3,h4,h5,h6,h7,dgR,dgC]
def IsB (x:Option Rt):Prop:=∃b,x=some (.val (.bool b))
@[simp] theorem qaod (b:Bool):IsB (some (.val (.bool b))):=⟨b,rfl⟩
theorem qhg {Φ:FuncId->Option AFun} {β:Type} {fin:Option (Ex×St)->Option β} {h:AH} (N:Nat) (Inv:Nat->Env->Prop) (Q:Option β->Prop) {b:Xv} {K:List Fr}
  (step:∀i e L,i<N->(∀j s,go Φ fin L (.exit j) s=go Φ fin K (.exit j) s)->Inv i e->(∀e',Inv (i+1) e'->Q (go Φ fin L .normal ⟨e',h⟩))->Q (go Φ fin (.c b::L) .normal ⟨e,h⟩))
  (last:∀e L,(∀j s,go Φ fin L (.exit j) s=go Φ fin K (.exit j) s)->Inv N e->Q (go Φ fin (.c b::L) .normal ⟨e,h⟩)):
  ∀i e,i<=N->Inv i e->Q (go Φ fin (.c (.loop b)::K) .normal ⟨e,h⟩):=by
 intro i e hi hv;refine qn0 N (fun i e H=>H=h/\Inv i e) Q ?_ ?_ i e h hi ⟨rfl,hv⟩
 ·rintro i e _ L hi hL ⟨rfl,hv⟩ ih;exact step i e L hi hL hv fun e' hv'=>ih e' _ ⟨rfl,hv'⟩
 ·rintro e _ L hL ⟨rfl,hv⟩;exact last e L hL hv
def NodeQ (l:List Xa) (d:Nat) (x:Option Rt):Prop:=∃r:Int,x=some (.val (.int .i64 r))/\0<=r/\r<=2^(41+2*d)/\(r<100->((pre l).length:Int)<=r)
theorem qakb (d:Nat) (hd:d<=10):(2:Int)^(41+2*d)<=2305843009213693952:=by
 have:=QBo (n:=2) (by omega) (show 41+2*d<=61 by omega);have e:(2:Nat)^61=2305843009213693952:=by decide
 rw [e] at this;rw [show (2:Int)^(41+2*d)=((2^(41+2*d):Nat):Int) from by rw [Int.natCast_pow];rfl];omega
theorem qaan (d:Nat):(2199023255552:Int)<=2^(41+2*d):=by
 have:=QBo (n:=2) (by omega) (show 41<=41+2*d by omega);have e:(2:Nat)^41=2199023255552:=by decide
 rw [e] at this;rw [show (2:Int)^(41+2*d)=((2^(41+2*d):Nat):Int) from by rw [Int.natCast_pow];rfl];omega
theorem qac2 (d:Nat):(2:Int)^(41+2*(d+1))=4*2^(41+2*d):=by
 rw [show 41+2*(d+1)=(41+2*d)+1+1 by omega,Int.pow_succ,Int.pow_succ];omega
theorem qacs:∀(d:Nat) (l:List Xa),d<=10->l.length<2^40->(∀x∈l,Xa.Ok qbe x)->NodeQ l d (qab Φ f_117 [.slice 5 (l.map Xa.c),.int .i64 d]):=by
 intro d
 induction d with
 | zero=>
  intro l _ hl ho;rw [qaa (fn:=c_117) rfl rfl];simp [c_117];rw [qap];by_cases z0:l.length=0
  ·have:l=[]:=Qg z0;subst this;simp [c_117_l0,c_117_k1];exact ⟨0,rfl,by omega,by decide,by simp [pre]⟩
  have hp:0<l.length:=by omega
  by_cases z1:l.length<100
  ·simp [c_117_l0,hp,z1];exact ⟨100,rfl,by omega,by decide,by omega⟩
  ·simp [c_117_l0,c_117_k1,hp,z1];exact ⟨l.length,rfl,by omega,by simp;omega,by omega⟩
 | succ d ihd=>
  intro l hd hl ho;rw [qaa (fn:=c_117) rfl rfl];have p1:=qakb (d+1) hd;have p2:=qaan d;have p3:=qac2 d;have p4:=qaan (d+1);simp [c_117];refine qhg l.length (fun i e=>look 0 e=some (.slice 5 (l.map Xa.c))/\look 1 e=some (.int .i64 ((d:Int)+1))/\look 6 e=some (.int .i64 i)/\∃q:Int,look 5 e=some (.int .i64 q)/\0<=q/\q<=2^(41+2*(d+1))/\(q<100->((pre (l.take i)).length:Int)+(l.length - i)<=q))
   (NodeQ l (d+1)) ?_ ?_ 0 _ (Qc _) ?_
  ·rintro i e L hi hL ⟨h0,h1,h6,q,h5,q0,q1,q2⟩ ih;have hw:=qaf i (by omega);by_cases z:q<100
   rotate_left
   ·simp [c_117_l0,c_117_k1,h0,h5,h6,hi,hL,z];exact ⟨q,rfl,q0,q1,fun h=>absurd h z⟩
   obtain ⟨k,t,c,a,b,hx⟩:=qdr l[i];have ho':=ho _ (Qd hi);rw [hx] at ho';simp only [Xa.Ok] at ho';obtain ⟨_,_,hc,⟨ha1,ha2⟩,hb1,hb2⟩:=ho';rw [Xa.oks_eq] at ha2 hb2;rw [qez] at ha1 hb1;have hdn:¬((d:Int)+1=0):=by omega
   have hsub:IntKind.wrap .i64 (d:Int)=(d:Int):=qa6 (by omega) (by omega);by_cases y:40<c.length
   ·simp [c_117_l0,h0,h1,h5,h6,hi,z,hdn,hx,Xa.e,y];exact ⟨100,rfl,by omega,by omega,by omega⟩
   obtain ⟨u,hu,u0,u1,u2⟩:=ihd a (by omega) (by omega) ha2;obtain ⟨v,hv,v0,v1,v2⟩:=ihd b (by omega) (by omega) hb2;have wu:IntKind.wrap .i64 (q+u)=q+u:=qa6 (by omega) (by omega);have wv:IntKind.wrap .i64 (q+u+v)=q+u+v:=qa6 (by omega) (by omega);simp [c_117_l0,h0,h1,h5,h6,hi,z,hdn,hx,Xa.e,y,hsub,hu,hv,wu,wv,hw];refine ih _ ⟨by simp [h0],by simp [h1],by simp,q+u+v,by simp,by omega,by omega,?_⟩;intro hlt;have ht:=congrArg List.length (qi5 hi);rw [hx,qe8] at ht;simp at ht;have:=q2 z;have:=u2 (by omega);have:=v2 (by omega);rw [ht];simp;omega
  ·rintro e L hL ⟨h0,h1,h6,q,h5,q0,q1,q2⟩;simp [c_117_l0,c_117_k1,h0,h5,h6,hL];refine ⟨q,rfl,q0,q1,fun h=>?_⟩;have:=q2 h;rw [QAf] at this;omega
  ·simp [pre];omega
theorem qyi (h:Xj) (hl:h.fields.length<2^40):IsB (qab Φ f_118 [.agg (Xj.c h)]):=by
 rw [qaa (fn:=c_118) rfl rfl];by_cases z0:30<h.name.length
 ·simp [c_118,Xj.e,z0]
 by_cases z1:20<h.fields.length
 ·simp [c_118,Xj.e,z0,z1]
 simp [c_118,Xj.e,z0,z1];refine qhg h.fields.length (fun i e=>look 1 e=some (.iptr 2 [Xj.c h] 0 0)/\look 3 e=some (.int .i64 i)) IsB ?_ ?_ 0 _ (Qc _) ?_
 ·rintro i e L hi hL ⟨h1,h3⟩ ih;have hw:=qaf i (by omega);rw [Xj.e] at h1;by_cases z:30<h.fields[i].name.length
  ·simp [c_118_l0,Fld.e,h1,h3,hi,z]
  simp [c_118_l0,Fld.e,h1,h3,hi,z,hw];exact ih _ ⟨by simp [h1,Xj.e],by simp⟩
 ·rintro e L hL ⟨h1,h3⟩;rw [Xj.e] at h1;simp [c_118_l0,c_118_k1,h1,h3,hL]
 ·simp [Xj.e]
theorem qp8 (a:Action) (hb:a.body.length<2^40):IsB (qab Φ f_119 [.agg (Action.c a)]):=by
 rw [qaa (fn:=c_119) rfl rfl];by_cases z0:8<a.params.length
 ·simp [c_119,Action.e,z0]
 by_cases z1:16<a.body.length
 ·simp [c_119,Action.e,z0,z1]
 by_cases z2:60<a.name.length
 ·simp [c_119,Action.e,z0,z1,z2]
 simp [c_119,Action.e,z0,z1,z2];refine qhg a.body.length (fun i e=>look 1 e=some (.iptr 3 [Action.c a] 0 0)/\look 3 e=some (.int .i64 i)) IsB ?_ ?_ 0 _ (Qc _) ?_
 ·rintro i e L hi hL ⟨h1,h3⟩ ih;have hw:=qaf i (by omega);rw [Action.e] at h1;by_cases y0:40<a.body[i].index.length
  ·simp [c_119_l0,Xg.e,h1,h3,hi,y0]
  by_cases y1:40<a.body[i].value.length
  ·simp [c_119_l0,Xg.e,h1,h3,hi,y0,y1]
  simp [c_119_l0,Xg.e,h1,h3,hi,y0,y1,hw];exact ih _ ⟨by simp [h1,Action.e],by simp⟩
 ·rintro e L hL ⟨h1,h3⟩;rw [Action.e] at h1;simp [c_119_l0,c_119_k1,h1,h3,hL]
 ·simp [Action.e]
theorem qsd (s:Xd):IsB (qab Φ f_120 [.agg (Xd.c s)]):=by
 rw [qaa (fn:=c_120) rfl rfl];by_cases z0:8<s.extract.length
 ·simp [c_120,Xd.e,z0]
 by_cases z1:12<s.cases.length
 ·simp [c_120,Xd.e,z0,z1]
 by_cases z2:60<s.name.length
 ·simp [c_120,Xd.e,z0,z1,z2]
 simp [c_120,Xd.e,z0,z1,z2]
theorem qali (p:Prg) (f:PrgS p) (e:Env) (h1:look 1 e=some (.iptr 9 [Prg.c p] 0 0)):IsB (go Φ (finP [.tmp 2]) [.c c_54_k5] .normal ⟨e,⟨[],0⟩⟩):=by
 simp [c_54_k5];have hl:=f.s;refine qhg p.states.length (fun i e=>look 1 e=some (.iptr 9 [Prg.c p] 0 0)/\look 6 e=some (.int .i64 i)) IsB ?_ ?_ 0 _ (Qc _) ?_
 ·rintro i e L hi hL ⟨h1,h6⟩ ih;have hw:=qaf i (by omega);obtain ⟨b,hb⟩:=qsd p.states[i];simp only [Xd.e] at hb;rw [Prg.e] at h1;cases b with
  | true=>simp [c_54_l3,Xd.e,h1,h6,hi,hb]
  | false=>
   simp [c_54_l3,Xd.e,h1,h6,hi,hb,hw];exact ih _ ⟨by simp [h1,Prg.e],by simp⟩
 ·rintro e L hL ⟨h1,h6⟩;rw [Prg.e] at h1;simp [c_54_l3,c_54_k4,h1,h6,hL]
 ·simp [h1]
theorem qalh (p:Prg) (f:PrgS p) (e:Env) (h1:look 1 e=some (.iptr 9 [Prg.c p] 0 0)):IsB (go Φ (finP [.tmp 2]) [.c c_54_k6] .normal ⟨e,⟨[],0⟩⟩):=by
 simp [c_54_k6];have hl:=f.t;refine qhg p.Xn.length (fun i e=>look 1 e=some (.iptr 9 [Prg.c p] 0 0)/\look 5 e=some (.int .i64 i)) IsB ?_ ?_ 0 _ (Qc _) ?_
 ·rintro i e L hi hL ⟨h1,h5⟩ ih;have hw:=qaf i (by omega);rw [Prg.e] at h1;by_cases y0:10<p.Xn[i].keys.length
  ·simp [c_54_l2,Tbl.e,h1,h5,hi,y0]
  by_cases y1:24<p.Xn[i].actions.length
  ·simp [c_54_l2,Tbl.e,h1,h5,hi,y0,y1]
  by_cases y2:8<p.Xn[i].dflt.args.length
  ·simp [c_54_l2,Tbl.e,h1,h5,hi,y0,y1,y2]
  by_cases y3:60<p.Xn[i].name.length
  ·simp [c_54_l2,Tbl.e,h1,h5,hi,y0,y1,y2,y3]
  simp [c_54_l2,Tbl.e,h1,h5,hi,y0,y1,y2,y3,hw];exact ih _ ⟨by simp [h1,Prg.e],by simp⟩
 ·rintro e L hL ⟨h1,h5⟩;have h1':=h1;rw [Prg.e] at h1;simp [c_54_l2,h1,h5,hL];exact qali p f _ (by simp [h1'])
 ·simp [h1]
theorem qalg (p:Prg) (f:PrgS p) (e:Env) (h1:look 1 e=some (.iptr 9 [Prg.c p] 0 0)):IsB (go Φ (finP [.tmp 2]) [.c c_54_k7] .normal ⟨e,⟨[],0⟩⟩):=by
 simp [c_54_k7];have hl:=f.a;refine qhg p.actions.length (fun i e=>look 1 e=some (.iptr 9 [Prg.c p] 0 0)/\look 4 e=some (.int .i64 i)) IsB ?_ ?_ 0 _ (Qc _) ?_
 ·rintro i e L hi hL ⟨h1,h4⟩ ih;have hw:=qaf i (by omega);obtain ⟨b,hb⟩:=qp8 p.actions[i] (f.ab _ (Qd hi));simp only [Action.e] at hb;rw [Prg.e] at h1;cases b with
  | true=>simp [c_54_l1,Action.e,h1,h4,hi,hb]
  | false=>
   simp [c_54_l1,Action.e,h1,h4,hi,hb,hw];exact ih _ ⟨by simp [h1,Prg.e],by simp⟩
 ·rintro e L hL ⟨h1,h4⟩;have h1':=h1;rw [Prg.e] at h1;simp [c_54_l1,h1,h4,hL];exact qalh p f _ (by simp [h1'])
 ·simp [h1]
def TlQ (p:Prg) (x:Option Rt):Prop:=∃b,x=some (.val (.bool b))/\(b=false->(pre p.control).length<=60)
theorem qv4 (p:Prg) (f:PrgS p):TlQ p (qab Φ f_54 [.agg (Prg.c p)]):=by
 rw [qaa (fn:=c_54) rfl rfl];have T:∀{x:Option Rt},x=some (.val (.bool true))->TlQ p x:=fun h=>⟨true,h,fun h=>by cases h⟩
 obtain ⟨r,hr,r0,r1,r2⟩:=qacs 10 p.control (Qb _) f.c f.co;have hr':qab Φ f_117 [.slice 5 (p.control.map Xa.c),.int .i64 10]=some (.val (.int .i64 r)):=hr;by_cases z0:60<p.name.length
 ·exact T (by simp [c_54,Prg.e,z0])
 by_cases z1:16<p.Xp.length
 ·exact T (by simp [c_54,Prg.e,z0,z1])
 by_cases z2:20<p.Xo.length
 ·exact T (by simp [c_54,Prg.e,z0,z1,z2])
 by_cases z3:8<p.Xm.length
 ·exact T (by simp [c_54,Prg.e,z0,z1,z2,z3])
 by_cases z4:24<p.actions.length
 ·exact T (by simp [c_54,Prg.e,z0,z1,z2,z3,z4])
 by_cases z5:16<p.Xn.length
 ·exact T (by simp [c_54,Prg.e,z0,z1,z2,z3,z4,z5])
 by_cases z6:16<p.states.length
 ·exact T (by simp [c_54,Prg.e,z0,z1,z2,z3,z4,z5,z6])
 by_cases z7:16<p.Xs.length
 ·exact T (by simp [c_54,Prg.e,z0,z1,z2,z3,z4,z5,z6,z7])
 by_cases z8:60<r
 ·exact T (by simp [c_54,Prg.e,z0,z1,z2,z3,z4,z5,z6,z7,hr',z8])
 have hB:IsB (go Φ (finP c_54.results) [.c c_54.body] .normal ⟨qb1 0 [.agg (Prg.c p)],H0⟩):=by
  simp [c_54,Prg.e,z0,z1,z2,z3,z4,z5,z6,z7,hr',z8];have hl:=f.h;refine qhg p.Xp.length (fun i e=>look 1 e=some (.iptr 9 [Prg.c p] 0 0)/\look 3 e=some (.int .i64 i)) IsB ?_ ?_ 0 _ (Qc _) ?_
  ·rintro i e L hi hL ⟨h1,h3⟩ ih;have hw:=qaf i (by omega);obtain ⟨b,hb⟩:=qyi p.Xp[i] (f.hl _ (Qd hi));simp only [Xj.e] at hb;rw [Prg.e] at h1;cases b with
   | false=>simp [c_54_l0,Xj.e,h1,h3,hi,hb]
   | true=>
    simp [c_54_l0,Xj.e,h1,h3,hi,hb,hw];exact ih _ ⟨by simp [h1,Prg.e],by simp⟩
  ·rintro e L hL ⟨h1,h3⟩;have h1':=h1;rw [Prg.e] at h1;simp [c_54_l0,h1,h3,hL];exact qalg p f _ (by simp [h1'])
  ·simp [Prg.e]
 obtain ⟨b,hb⟩:=hB;exact ⟨b,hb,fun _=>by have:=r2 (by omega);omega⟩
end Go.Av
