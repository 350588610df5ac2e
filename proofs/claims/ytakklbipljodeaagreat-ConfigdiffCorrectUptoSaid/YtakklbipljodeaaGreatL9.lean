/-
 The check of the control flow: the reference's answer.
-/
import Derived.Test.YtakklbipljodeaaGreatL3
set_option linter.unusedVariables false
set_option linter.unusedSimpArgs false
set_option linter.constructorNameAsVariable false
namespace Go.Av
set_option maxRecDepth 4000
theorem qn2 (k t:Int) (c:List ExprNode) (a b:List ControlNode):qab Φ f_341 [.agg (ControlNode.c (.mk k t c a b))]=some (.val (.bool (appl (.mk k t c a b)))):=by
 rw [qaa (fn:=c_341) rfl rfl];by_cases k1:k=1
 ·simp [c_341,ControlNode.e,appl,k1]
 ·simp [c_341,ControlNode.e,appl,k1]
theorem qaan (l:List ControlNode) (i:Nat) (hi:i<l.length) (hl:l.length<2^40):qab Φ f_326 [.slice 5 (l.map ControlNode.c),.int .i64 i]=some (.val (.bool ((l.take i).any fun y=>appl y&&decide (y.table=l[i].table)))):=by
 rw [qaa (fn:=c_326) rfl rfl];generalize hX:some (Rt.val (.bool ((l.take i).any fun y=>appl y&&decide (y.table=l[i].table))))=X;simp [c_326];refine (qdj (l.take i) (fun y=>appl y&&decide (y.table=l[i].table)) (some (Rt.val (.bool true))) (some (Rt.val (.bool false)))
  (fun k e H=>look 0 e=some (.slice 5 (l.map ControlNode.c))/\look 1 e=some (.int .i64 i)/\look 5 e=some (.int .i64 k)/\H=⟨[],0⟩) ?_ ?_ ?_ _ _ ?_).trans ?_
 ·rintro j e _ L hk hL ⟨h0,h1,h5,rfl⟩ hb;simp only [List.length_take] at hk;have hk1:j<i:=by omega
  have hk2:j<l.length:=by omega
  simp only [List.getElem_take,Bool.and_eq_true,decide_eq_true_eq] at hb;obtain ⟨k,t,c,a,b,hx⟩:=qdc l[j];obtain ⟨k',t',c',a',b',hx'⟩:=qdc l[i];have ha:=qn2 k t c a b;rw [hx,hx'] at hb;simp only [ControlNode.table_mk] at hb;obtain ⟨hb1,hb2⟩:=hb;subst hb2;rw [hb1] at ha;simp only [ControlNode.e] at ha;simp [c_326_l0,h0,h1,h5,hk1,hk2,hi,hx,hx',ControlNode.e,ha]
 ·rintro j e _ L X hk hL ⟨h0,h1,h5,rfl⟩ hb ih;simp only [List.length_take] at hk;have hk1:j<i:=by omega
  have hk2:j<l.length:=by omega
  have hw:=qaf j (by omega);simp only [List.getElem_take] at hb;obtain ⟨k,t,c,a,b,hx⟩:=qdc l[j];obtain ⟨k',t',c',a',b',hx'⟩:=qdc l[i];have ha:=qn2 k t c a b;rw [hx,hx'] at hb;simp only [ControlNode.table_mk] at hb;cases q:appl (.mk k t c a b) with
  | false=>
   rw [q] at ha;simp only [ControlNode.e] at ha;simp [c_326_l0,h0,h1,h5,hk1,hk2,hx,ControlNode.e,ha,hw];exact ih _ _ ⟨by simp [h0],by simp [h1],by simp,rfl⟩
  | true=>
   rw [q] at ha hb;simp only [ControlNode.e] at ha;simp only [Bool.true_and,decide_eq_false_iff_not] at hb;simp [c_326_l0,h0,h1,h5,hk1,hk2,hi,hx,hx',ControlNode.e,ha,hb,hw];exact ih _ _ ⟨by simp [h0],by simp [h1],by simp,rfl⟩
 ·rintro e _ L hL ⟨h0,h1,h5,rfl⟩;have hm:min i l.length=i:=by omega
  simp [hm] at h5;simp [c_326_l0,c_326_k1,h1,h5,hL]
 ·simp
 ·rw [<- hX];cases (l.take i).any (fun y=>appl y&&decide (y.table=l[i].table))<;>rfl
theorem qacn (p:Prg) (l:List ControlNode) (i:Nat) (hi:i<l.length) (hl:l.length<2^40) (hc:l[i].thn.length<2^40/\l[i].els.length<2^40):qab Φ f_279 [.agg (Prg.c p),.slice 5 (l.map ControlNode.c),.int .i64 i]=some (.val (.int .i64 (qcz p (l.take i) l[i]))):=by
 rw [qaa (fn:=c_279) rfl rfl];have hb:=qaan l i hi hl;obtain ⟨k,t,c,a,b,hx⟩:=qdc l[i];rw [hx] at hc hb ⊢;simp only [ControlNode.thn_mk,ControlNode.els_mk] at hc;have hab:IntKind.wrap .i64 ((a.length:Int)+b.length)=(a.length:Int)+b.length:=qa5 (by omega) (by omega);by_cases k0:k<1
 ·rw [show qcz p (l.take i) (.mk k t c a b)=11 by simp [qcz,show ¬k=2 by omega,show ¬k=1 by omega,show ¬k=3 by omega]];simp [c_279,hi,hx,ControlNode.e,Prg.e,k0]
 by_cases k4:3<k
 ·rw [show qcz p (l.take i) (.mk k t c a b)=11 by simp [qcz,show ¬k=2 by omega,show ¬k=1 by omega,show ¬k=3 by omega]];simp [c_279,hi,hx,ControlNode.e,Prg.e,k0,k4]
 by_cases k2:k=2
 ·have he:=qrp p [] c;simp only [qag,List.map_nil] at he;by_cases z:(exE p [] c).2=0
  ·rw [z] at he;by_cases y:(exE p [] c).1=1
   ·rw [y] at he;simp [c_279,hi,hx,ControlNode.e,Prg.e,k2,qcz,he,z,y]
   ·simp [c_279,hi,hx,ControlNode.e,Prg.e,k2,qcz,he,z,y]
  ·simp [c_279,hi,hx,ControlNode.e,Prg.e,k2,qcz,he,z]
 have k13:k=1\/k=3:=by omega
 by_cases t0:t<0
 ·rw [show qcz p (l.take i) (.mk k t c a b)=8 by simp [qcz,k2,k13,t0]];simp [c_279,hi,hx,ControlNode.e,Prg.e,k0,k4,k2,t0]
 by_cases t1:(p.tables.length:Int)<=t
 ·rw [show qcz p (l.take i) (.mk k t c a b)=8 by simp [qcz,k2,k13,t0,t1]];simp [c_279,hi,hx,ControlNode.e,Prg.e,k0,k4,k2,t0,t1]
 cases q:(l.take i).any (fun y=>appl y&&decide (y.table=(ControlNode.mk k t c a b).table)) with
 | true=>
  rw [q] at hb;have e:qcz p (l.take i) (.mk k t c a b)=7:=by
   unfold qcz;rw [q];simp [k2,k13,t0,t1]
  rw [e];simp [c_279,hi,hx,ControlNode.e,Prg.e,k0,k4,k2,t0,t1,hb]
 | false=>
  rw [q] at hb;have e:qcz p (l.take i) (.mk k t c a b)=if k=1/\0<a.length+b.length then 5 else 0:=by
   unfold qcz;rw [q];simp [k2,k13,t0,t1]
  rw [e];by_cases k1:k=1
  ·by_cases z:0<a.length+b.length
   ·have z':(0:Int)<(a.length:Int)+b.length:=by omega
    simp [c_279,hi,hx,ControlNode.e,Prg.e,k1,t0,t1,hb,hab,z,z']
    first
     | done
     | (intro h;simp [h] at z;omega)
   ·have za:a.length=0:=by omega
    have zb:b.length=0:=by omega
    simp [c_279,hi,hx,ControlNode.e,Prg.e,k1,t0,t1,hb,za,zb];rw [show IntKind.wrap .i64 0=0 by decide];simp [Qg za,Qg zb]
  ·simp [c_279,hi,hx,ControlNode.e,Prg.e,k0,k4,k2,k1,t0,t1,hb]
mutual
theorem qaca:∀(x:ControlNode) (n:Nat),(pre1 x).length<=n->∀y∈pre1 x,y.thn.length<=n/\y.els.length<=n
 | .mk k t c a b,n,h,y,hy=>by
  rw [qe1] at h hy;simp at h;have ha:=qei a;have hb:=qei b;rcases List.mem_cons.1 hy with rfl | hy
  ·simp;omega
  ·rcases List.mem_append.1 hy with hy | hy
   ·exact qld a n (by omega) y hy
   ·exact qld b n (by omega) y hy
theorem qld:∀(l:List ControlNode) (n:Nat),(pre l).length<=n->∀y∈pre l,y.thn.length<=n/\y.els.length<=n
 | [],n,h,y,hy=>by simp [pre] at hy
 | x::r,n,h,y,hy=>by
  rw [pre] at h hy;simp at h;rcases List.mem_append.1 hy with hy | hy
  ·exact qaca x n (by omega) y hy
  ·exact qld r n (by omega) y hy
end
theorem qae1 (p:Prg) (hl:(pre p.control).length<2^40 - 1):qab Φ f_202 [.agg (Prg.c p)]=some (.val (.tup [.int .i64 (ctlE p).1,.int .i64 (ctlE p).2])):=by
 rw [qaa (fn:=c_202) rfl rfl];have hc:=qmm _ p.control (Qb _) (by omega);have hn:=qou _ p.control (Qb _) (by omega);by_cases z1:24<(pre p.control).length
 ·simp [c_202,Prg.e,hc,ctlE,z1]
 by_cases z2:6<nest p.control
 ·simp [c_202,Prg.e,hc,hn,ctlE,z1,z2]
 have hE:ctlE p=(fe (ctlG p (pre p.control)) (pre p.control).length 0).getD (0,0):=by unfold ctlE;rw [if_neg z1,if_neg z2];rfl
 have hp:=qj0 _ p.control (Qb _) (by omega);rw [hE];simp [c_202,Prg.e,hc,hn,hp,z1,z2];refine qao (pre p.control).length (fun i e=>look 1 e=some (.iptr 9 [Prg.c p] 0 0)/\look 4 e=some (.slice 5 ((pre p.control).map ControlNode.c))/\look 5 e=some (.int .i64 i))
  (fun i=>some (Rt.val (.tup [.int .i64 ((fe (ctlG p (pre p.control)) (pre p.control).length i).getD (0,0)).1,.int .i64 ((fe (ctlG p (pre p.control)) (pre p.control).length i).getD (0,0)).2]))) ?_ ?_ 0 _ (Qc _) ?_
 ·rintro i e L hi hL ⟨h1,h4,h5⟩ ih;have hw:=qaf i (by omega);have hk:=qld p.control 24 (by omega) _ (Qd hi);have hE:=qacn p (pre p.control) i hi (by omega) ⟨by omega,by omega⟩;simp only [Prg.e] at hE;rw [Prg.e] at h1;by_cases y:qcz p ((pre p.control).take i) (pre p.control)[i]=0
  ·rw [y] at hE;rw [qar hi (by simp [ctlG,hi,y])];simp [c_202_l0,h1,h4,h5,hi,hE,hw];exact ih _ ⟨by simp [h1,Prg.e],by simp [h4],by simp⟩
  ·rw [qaj (x:=((i:Int),qcz p ((pre p.control).take i) (pre p.control)[i])) hi (by simp [ctlG,hi,y])];simp [c_202_l0,h1,h4,h5,hi,hE,y]
 ·rintro e L hL ⟨h1,h4,h5⟩;rw [qa4];simp [c_202_l0,c_202_k1,h4,h5,hL]
 ·simp [Prg.e]
theorem qsi {Φ:FuncId->Option AFun} {β:Type} {fin:Option (Ex×St)->Option β} {α:Type} (l:List α) (bad:α->Bool) (Rb Re:Option β) (Inv:Nat->Bool->Env->AH->Prop) {b:ACode} {K:List Fr}
  (hit:∀i e h L X (hi:i<l.length),(∀j s,go Φ fin L (.exit j) s=go Φ fin K (.exit j) s)->Inv i false e h->bad l[i]=true->(∀e' h',Inv (i+1) true e' h'->go Φ fin L .normal ⟨e',h'⟩=X)->go Φ fin (.c b::L) .normal ⟨e,h⟩=X)
  (miss:∀i e h L X (hi:i<l.length),(∀j s,go Φ fin L (.exit j) s=go Φ fin K (.exit j) s)->Inv i false e h->bad l[i]=false->(∀e' h',Inv (i+1) false e' h'->go Φ fin L .normal ⟨e',h'⟩=X)->go Φ fin (.c b::L) .normal ⟨e,h⟩=X)
  (stop:∀i e h L,i<=l.length->(∀j s,go Φ fin L (.exit j) s=go Φ fin K (.exit j) s)->Inv i true e h->go Φ fin (.c b::L) .normal ⟨e,h⟩=Rb)
  (last:∀e h L,(∀j s,go Φ fin L (.exit j) s=go Φ fin K (.exit j) s)->Inv l.length false e h->go Φ fin (.c b::L) .normal ⟨e,h⟩=Re):
  ∀e h,Inv 0 false e h->go Φ fin (.c (.loop b)::K) .normal ⟨e,h⟩=if l.any bad then Rb else Re:=by
 intro e h h0;refine (qu2 (σ:=Nat×Bool) (fun x=>if x.2 then 0 else l.length - x.1+1) (fun x e h=>x.1<=l.length/\Inv x.1 x.2 e h) (fun x=>if x.2 then Rb else if qa0 l bad x.1 then Rb else Re) ?_ (0,false) e h ⟨Qc _,h0⟩).trans (by simp [qix]);rintro ⟨i,f⟩ e h L hL ⟨hi,hinv⟩ ih;cases f with
 | true=>exact stop i e h L hi hL hinv
 | false=>
  simp only [Bool.false_eq_true,if_false];rcases Nat.lt_or_eq_of_le hi with hlt | heq
  ·cases hb:bad l[i] with
   | true=>
    rw [qey hlt hb,if_pos rfl];exact hit i e h L _ hlt hL hinv hb fun e' h' hi'=>ih (i+1,true) e' h' (by simp) ⟨by simp;omega,hi'⟩
   | false=>
    rw [qc9 hlt hb];refine miss i e h L _ hlt hL hinv hb fun e' h' hi'=>?_
    have:=ih (i+1,false) e' h' (by simp;simp at hlt;omega) ⟨by simp;omega,hi'⟩;simpa using this
  ·simp only at heq;subst heq;rw [qfh];exact last e h L hL hinv
def dgR (o:Option Dg):Rt:= .val (.agg (dgC (o.getD (0,0,0,0))))
def dH:AH:=⟨[(0,.row 4 [[.int .i64 0,.int .i64 0,.int .i64 0,.int .i64 0]])],1⟩
theorem qcf (a b c d:Int):qab Φ f_195 [.int .i64 a,.int .i64 b,.int .i64 c,.int .i64 d]=some (.val (.agg [.int .i64 a,.int .i64 b,.int .i64 c,.int .i64 d])):=by
 rw [qaa (fn:=c_195) rfl rfl];simp [c_195]
theorem qaij (p:Prg) (f:PrgS p):qab Φ f_125 [.agg (Prg.c p)]=some (dgR (limD p)):=by
 rw [qaa (fn:=c_125) rfl rfl];have n1:=qd6 p.name f.n;cases q1:idS p.name with
 | false=>rw [q1] at n1;simp [c_125,Prg.e,n1,qcf,limD,q1,dgR,dgC]
 | true=>
 rw [q1] at n1;by_cases z1:8<p.headers.length
 ·simp [c_125,Prg.e,n1,qcf,limD,q1,dgR,dgC,z1]
 by_cases z2:4<p.registers.length
 ·simp [c_125,Prg.e,n1,qcf,limD,q1,dgR,dgC,z1,z2]
 by_cases z3:16<p.actions.length
 ·simp [c_125,Prg.e,n1,qcf,limD,q1,dgR,dgC,z1,z2,z3]
 by_cases z4:12<p.tables.length
 ·simp [c_125,Prg.e,n1,qcf,limD,q1,dgR,dgC,z1,z2,z3,z4]
 simp [c_125,Prg.e,n1,limD,q1,dgR,dgC,z1,z2,z3,z4]
theorem qae6 (p:Prg) (f:PrgS p):qab Φ f_126 [.agg (Prg.c p)]=some (dgR (hdrD p)):=by
 rw [qaa (fn:=c_126) rfl rfl,show hdrD p=fe (hdrG p) p.headers.length 0 from rfl];simp [c_126,Prg.e];refine qao p.headers.length (fun i e=>look 1 e=some (.iptr 9 [Prg.c p] 0 0)/\look 2 e=some (.ptr 0 4 0 0)/\look 3 e=some (.int .i64 i))
  (fun i=>some (dgR (fe (hdrG p) p.headers.length i))) ?_ ?_ 0 _ (Qc _) ?_
 ·rintro i e L hi hL ⟨h1,h2,h3⟩ ih;have hlen:=f.h;have hw:=qaf i (by omega);have hm:=Qd hi;have eh:=qae7 p.headers[i] (f.hn _ hm) (f.hf _ hm);simp only [Header.e] at eh;rw [Prg.e] at h1;have bad:∀c:Int,c≠0->qfk p i p.headers[i]=c->fe (hdrG p) p.headers.length i=some (c,1,(i:Int),0):=fun c h0 h=>qaj hi (by simp [hdrG,hi,h,h0])
  by_cases z1:hdrE p.headers[i]=0
  rotate_left
  ·rw [bad _ z1 (by simp [qfk,z1])];simp [c_126_l3,Header.e,h1,h3,hi,eh,z1];rw [qay];by_cases hi0:0<i<;>simp [c_126_l0,c_126_k1,h2,h3,z1,hi0,qcf,dgR,dgC]
  by_cases z2:p.headers[i].name=[109,101,116,97]
  ·rw [bad 6 (by decide) (by simp [qfk,z1,z2])];rw [z2] at eh;simp [c_126_l3,Header.e,h1,h3,hi,eh,z1,z2];rw [qay];by_cases hi0:0<i<;>simp [c_126_l0,c_126_k1,h2,h3,hi0,qcf,dgR,dgC]
  generalize hX:some (dgR (fe (hdrG p) p.headers.length i))=X;simp [c_126_l3,Header.e,h1,h3,hi,eh,z1,z2];refine (qsi (p.headers.take i) (fun y=>decide (y.name=p.headers[i].name)) (some (dgR (some (7,1,(i:Int),0)))) (some (dgR (fe (hdrG p) p.headers.length (i+1))))
   (fun k b e H=>look 1 e=some (.iptr 9 [Prg.c p] 0 0)/\look 2 e=some (.ptr 0 4 0 0)/\look 3 e=some (.int .i64 i)/\look 4 e=some (.int .i64 (if b then 7 else 0))/\look 5 e=some (.int .i64 k)/\H=dH) ?_ ?_ ?_ ?_ _ _ ?_).trans ?_
  ·rintro k e _ L' Y hk hL' ⟨h1,h2,h3,h4,h5,rfl⟩ hb ih';simp only [List.length_take] at hk;have hk1:k<i:=by omega
   have hk2:k<p.headers.length:=by omega
   have hw':=qaf k (by omega);simp only [List.getElem_take,decide_eq_true_eq] at hb;rw [Prg.e] at h1;simp at h4;simp [c_126_l0,Header.e,h1,h3,h4,h5,hk1,hk2,hi,hb,hw'];exact ih' _ _ ⟨by simp [h1,Prg.e],by simp [h2],by simp [h3],by simp,by simp,rfl⟩
  ·rintro k e _ L' Y hk hL' ⟨h1,h2,h3,h4,h5,rfl⟩ hb ih';simp only [List.length_take] at hk;have hk1:k<i:=by omega
   have hk2:k<p.headers.length:=by omega
   have hw':=qaf k (by omega);simp only [List.getElem_take,decide_eq_false_iff_not] at hb;rw [Prg.e] at h1;simp at h4;simp [c_126_l0,Header.e,h1,h3,h4,h5,hk1,hk2,hi,hb,hw'];exact ih' _ _ ⟨by simp [h1,Prg.e],by simp [h2],by simp [h3],by simp [h4],by simp,rfl⟩
  ·rintro k e _ L' hk hL' ⟨h1,h2,h3,h4,h5,rfl⟩;simp only [List.length_take] at hk;simp at h4;by_cases hk1:k<i
   ·simp [c_126_l0,c_126_k1,h2,h3,h4,h5,hk1,hL',qcf,dgR,dgC,dH]
   ·simp [c_126_l0,c_126_k1,h2,h3,h4,h5,hk1,hL',qcf,dgR,dgC,dH]
  ·rintro e _ L' hL' ⟨h1,h2,h3,h4,h5,rfl⟩;have hmn:min i p.headers.length=i:=by omega
   simp [hmn] at h4 h5;simp [c_126_l0,c_126_k1,c_126_k2,h3,h4,h5,hL',hw];exact ih _ ⟨by simp [h1],by simp [h2],by simp⟩
  ·simp [h1,h2,h3,Prg.e,dH]
  ·rw [<- hX];cases q:dupN Header.name p.headers i p.headers[i] with
   | true=>
    rw [bad 7 (by decide) (by simp [qfk,z1,z2,q])];unfold dupN at q;rw [q];rfl
   | false=>
    rw [qar hi (by simp [hdrG,hi,qfk,z1,z2,q])];unfold dupN at q;rw [q];rfl
 ·rintro e L hL ⟨h1,h2,h3⟩;rw [qa4];rw [Prg.e] at h1;simp [c_126_l3,c_126_k4,h1,h2,h3,hL,dgR,dgC]
 ·simp [Prg.e]
theorem qacl (l:List Fld) (i:Nat) (hi:i<l.length) (hl:l.length<2^40) (hf:∀f∈l,f.name.length<2^40):qab Φ f_197 [.slice 2 (l.map Fld.c),.int .i64 i]=some (.val (.int .i64 (fldE l i l[i]))):=by
 rw [qaa (fn:=c_197) rfl rfl];have nf:=qd6 l[i].name (hf _ (Qd hi));cases p1:idS l[i].name with
 | false=>
  rw [p1] at nf;simp [c_197,Fld.e,hi,nf,fldE,p1]
 | true=>
 rw [p1] at nf;by_cases w1:l[i].width<1
 ·simp [c_197,Fld.e,hi,nf,fldE,p1,wBad,w1]
 by_cases w2:32<l[i].width
 ·simp [c_197,Fld.e,hi,nf,fldE,p1,wBad,w1,w2]
 rw [show fldE l i l[i]=if dupN Fld.name l i l[i]=true then 7 else 0 by simp [fldE,p1,wBad,w1,w2]];unfold dupN;generalize hX:some (Rt.val (AV.int .i64 (if (l.take i).any (fun y=>decide (y.name=l[i].name))=true then 7 else 0)))=X;simp [c_197,Fld.e,hi,nf,w1,w2];refine (qdj (l.take i) (fun y=>decide (y.name=l[i].name)) (some (Rt.val (.int .i64 7))) (some (Rt.val (.int .i64 0)))
  (fun k e H=>look 0 e=some (.slice 2 (l.map Fld.c))/\look 1 e=some (.int .i64 i)/\look 5 e=some (.int .i64 k)/\H=⟨[],0⟩) ?_ ?_ ?_ _ _ ?_).trans ?_
 ·rintro k e _ L' hk hL' ⟨h0,h1,h5,rfl⟩ hb;simp only [List.length_take] at hk;have hk1:k<i:=by omega
  have hk2:k<l.length:=by omega
  simp only [List.getElem_take,decide_eq_true_eq] at hb;simp [c_197_l0,Fld.e,h0,h1,h5,hk1,hk2,hi,hb]
 ·rintro k e _ L' X hk hL' ⟨h0,h1,h5,rfl⟩ hb ih';simp only [List.length_take] at hk;have hk1:k<i:=by omega
  have hk2:k<l.length:=by omega
  have hw':=qaf k (by omega);simp only [List.getElem_take,decide_eq_false_iff_not] at hb;simp [c_197_l0,Fld.e,h0,h1,h5,hk1,hk2,hi,hb,hw'];exact ih' _ _ ⟨by simp [h0],by simp [h1],by simp,rfl⟩
 ·rintro e _ L' hL' ⟨h0,h1,h5,rfl⟩;have hm:min i l.length=i:=by omega
  simp [hm] at h5;simp [c_197_l0,c_197_k1,h1,h5,hL']
 ·simp
 ·rw [<- hX];cases (l.take i).any (fun y=>decide (y.name=l[i].name))<;>rfl
theorem qafa (p:Prg) (e:Env) (h1:look 1 e=some (.iptr 9 [Prg.c p] 0 0)) (h2:look 2 e=some (.ptr 0 4 0 0)):go Φ (finP [.cell 2 true 4]) [.c c_127_k3] .normal ⟨e,dH⟩=some (dgR (fe (metH p) 3 0)):=by
 rw [Prg.e] at h1;simp [c_127_k3,dH];rw [qay];by_cases l0:p.metadata.length<=0
 ·rw [qaj (x:=(5,2,0,0)) (by omega) (by unfold metH;rw [Qk l0];rfl)];have hnil:p.metadata=[]:=Qg (by omega);simp [c_127_l1,h1,h2,hnil,qcf,dgR,dgC]
 have k0:0<p.metadata.length:=by omega
 have hne:¬p.metadata=[]:=by intro h;rw [h] at k0;simp at k0
 by_cases a0:p.metadata[0].name=[105,110]
 rotate_left
 ·rw [qaj (x:=(5,2,0,0)) (by omega) (by unfold metH;rw [Qa k0,if_neg (by simp [qdf,Fld.eq_iff,a0])];rfl)];simp [c_127_l1,Fld.e,h1,h2,hne,k0,a0,qcf,dgR,dgC]
 by_cases b0:p.metadata[0].width=8
 rotate_left
 ·rw [qaj (x:=(5,2,0,0)) (by omega) (by unfold metH;rw [Qa k0,if_neg (by simp [qdf,Fld.eq_iff,b0])];rfl)];simp [c_127_l1,Fld.e,h1,h2,hne,k0,a0,b0,qcf,dgR,dgC]
 rw [qar (by omega) (by unfold metH;rw [Qa k0,if_pos (by simp [qdf,Fld.eq_iff,a0,b0])])];simp [c_127_l1,Fld.e,h1,hne,k0,a0,b0,wr1];rw [qay];by_cases l1:p.metadata.length<=1
 ·rw [qaj (x:=(5,2,1,0)) (by omega) (by unfold metH;rw [Qk l1];rfl)];simp [h1,h2,l1,qcf,dgR,dgC]
 have k1:1<p.metadata.length:=by omega
 by_cases a1:p.metadata[1].name=[111,117,116]
 rotate_left
 ·rw [qaj (x:=(5,2,1,0)) (by omega) (by unfold metH;rw [Qa k1,if_neg (by simp [qdf,Fld.eq_iff,a1])];rfl)];simp [Fld.e,h1,h2,k1,l1,a1,qcf,dgR,dgC]
 by_cases b1:p.metadata[1].width=8
 rotate_left
 ·rw [qaj (x:=(5,2,1,0)) (by omega) (by unfold metH;rw [Qa k1,if_neg (by simp [qdf,Fld.eq_iff,b1])];rfl)];simp [Fld.e,h1,h2,k1,l1,a1,b1,qcf,dgR,dgC]
 rw [qar (by omega) (by unfold metH;rw [Qa k1,if_pos (by simp [qdf,Fld.eq_iff,a1,b1])])];simp [Fld.e,h1,k1,l1,a1,b1,wr2];rw [qay];by_cases l2:p.metadata.length<=2
 ·rw [qaj (x:=(5,2,2,0)) (by omega) (by unfold metH;rw [Qk l2];rfl)];simp [h1,h2,l2,qcf,dgR,dgC]
 have k2:2<p.metadata.length:=by omega
 by_cases a2:p.metadata[2].name=[100,114,111,112]
 rotate_left
 ·rw [qaj (x:=(5,2,2,0)) (by omega) (by unfold metH;rw [Qa k2,if_neg (by simp [qdf,Fld.eq_iff,a2])];rfl)];simp [Fld.e,h1,h2,k2,l2,a2,qcf,dgR,dgC]
 by_cases b2:p.metadata[2].width=1
 rotate_left
 ·rw [qaj (x:=(5,2,2,0)) (by omega) (by unfold metH;rw [Qa k2,if_neg (by simp [qdf,Fld.eq_iff,b2])];rfl)];simp [Fld.e,h1,h2,k2,l2,a2,b2,qcf,dgR,dgC]
 rw [qar (by omega) (by unfold metH;rw [Qa k2,if_pos (by simp [qdf,Fld.eq_iff,a2,b2])])];simp [Fld.e,h1,k2,l2,a2,b2,wr3];rw [qay,qa4];simp [c_127_k2,h2,dgR,dgC]
theorem qae9 (p:Prg) (f:PrgS p):qab Φ f_127 [.agg (Prg.c p)]=some (dgR (metD p)):=by
 rw [qaa (fn:=c_127) rfl rfl,qqx];by_cases z:12<p.metadata.length
 ·simp [c_127,Prg.e,z,qcf,dgR,dgC]
 rw [if_neg z];simp [c_127,Prg.e,z];refine qao p.metadata.length (fun i e=>look 1 e=some (.iptr 9 [Prg.c p] 0 0)/\look 2 e=some (.ptr 0 4 0 0)/\look 3 e=some (.int .i64 i))
  (fun i=>some (dgR ((fe (metG p) p.metadata.length i).or (fe (metH p) 3 0)))) ?_ ?_ 0 _ (Qc _) ?_
 ·rintro i e L hi hL ⟨h1,h2,h3⟩ ih;have hlen:=f.m;have hw:=qaf i (by omega);have ef:=qacl p.metadata i hi f.m f.mn;rw [Prg.e] at h1;by_cases y:fldE p.metadata i p.metadata[i]=0
  ·rw [y] at ef;rw [qar hi (by simp [metG,hi,y])];simp [c_127_l0,h1,h3,hi,ef,hw];exact ih _ ⟨by simp [h1,Prg.e],by simp [h2],by simp⟩
  ·rw [qaj (x:=(fldE p.metadata i p.metadata[i],2,(i:Int),0)) hi (by simp [metG,hi,y])];simp [c_127_l0,h1,h2,h3,hi,ef,y,qcf,dgR,dgC]
 ·rintro e L hL ⟨h1,h2,h3⟩;rw [qa4];have hh:=qafa p;simp only [dH] at hh;rw [Prg.e] at h1;simp [c_127_l0,h1,h3,hL];apply hh
  ·simp [h1,Prg.e]
  ·simp [h2]
 ·simp [Prg.e]
theorem qaih (p:Prg) (f:PrgS p) (hc:(pre p.control).length<2^40 - 1):qab Φ f_131 [.agg (Prg.c p)]=some (dgR (floD p)):=by
 rw [qaa (fn:=c_131) rfl rfl];have e1:=qafc p f;have e2:=qae1 p hc;have e3:=qae2 p f;simp only [Prg.e,tup3] at e1 e2 e3;by_cases y1:(parE p).2.2=0
 rotate_left
 ·simp [c_131,Prg.e,e1,y1,qcf,floD,dgR,dgC]
 rw [y1] at e1;by_cases y2:(ctlE p).2=0
 rotate_left
 ·simp [c_131,Prg.e,e1,y1,e2,y2,qcf,floD,dgR,dgC]
 rw [y2] at e2;by_cases y3:(depE p).2=0
 rotate_left
 ·simp [c_131,Prg.e,e1,y1,e2,y2,e3,y3,qcf,floD,dgR,dgC]
 rw [y3] at e3;simp [c_131,Prg.e,e1,y1,e2,y2,e3,y3,floD,dgR,dgC]
theorem qafe (p:Prg) (f:PrgS p):qab Φ f_128 [.agg (Prg.c p)]=some (dgR (regD p)):=by
 rw [qaa (fn:=c_128) rfl rfl,show regD p=fe (regG p) p.registers.length 0 from rfl];simp [c_128,Prg.e];refine qao p.registers.length (fun i e=>look 1 e=some (.iptr 9 [Prg.c p] 0 0)/\look 2 e=some (.ptr 0 4 0 0)/\look 3 e=some (.int .i64 i))
  (fun i=>some (dgR (fe (regG p) p.registers.length i))) ?_ ?_ 0 _ (Qc _) ?_
 ·rintro i e L hi hL ⟨h1,h2,h3⟩ ih;have hlen:=f.r;have hw:=qaf i (by omega);have hm:=Qd hi;have eh:=qaff p.registers[i] (f.rn _ hm);simp only [Register.e] at eh;rw [Prg.e] at h1;have bad:∀c:Int,c≠0->qgu p i p.registers[i]=c->fe (regG p) p.registers.length i=some (c,3,(i:Int),0):=fun c h0 h=>qaj hi (by simp [regG,hi,h,h0])
  by_cases z1:regE p.registers[i]=0
  rotate_left
  ·rw [bad _ z1 (by simp [qgu,z1])];simp [c_128_l3,Register.e,h1,h3,hi,eh];rw [qay];by_cases hi0:0<i<;>simp [c_128_l0,c_128_k1,h2,h3,z1,hi0,qcf,dgR,dgC]
  generalize hX:some (dgR (fe (regG p) p.registers.length i))=X;simp [c_128_l3,Register.e,h1,h3,hi,eh,z1];refine (qsi (p.registers.take i) (fun y=>decide (y.name=p.registers[i].name)) (some (dgR (some (7,3,(i:Int),0)))) (some (dgR (fe (regG p) p.registers.length (i+1))))
   (fun k b e H=>look 1 e=some (.iptr 9 [Prg.c p] 0 0)/\look 2 e=some (.ptr 0 4 0 0)/\look 3 e=some (.int .i64 i)/\look 4 e=some (.int .i64 (if b then 7 else 0))/\look 5 e=some (.int .i64 k)/\H=dH) ?_ ?_ ?_ ?_ _ _ ?_).trans ?_
  ·rintro k e _ L' Y hk hL' ⟨h1,h2,h3,h4,h5,rfl⟩ hb ih';simp only [List.length_take] at hk;have hk1:k<i:=by omega
   have hk2:k<p.registers.length:=by omega
   have hw':=qaf k (by omega);simp only [List.getElem_take,decide_eq_true_eq] at hb;rw [Prg.e] at h1;simp at h4;simp [c_128_l0,Register.e,h1,h3,h4,h5,hk1,hk2,hi,hb,hw'];exact ih' _ _ ⟨by simp [h1,Prg.e],by simp [h2],by simp [h3],by simp,by simp,rfl⟩
  ·rintro k e _ L' Y hk hL' ⟨h1,h2,h3,h4,h5,rfl⟩ hb ih';simp only [List.length_take] at hk;have hk1:k<i:=by omega
   have hk2:k<p.registers.length:=by omega
   have hw':=qaf k (by omega);simp only [List.getElem_take,decide_eq_false_iff_not] at hb;rw [Prg.e] at h1;simp at h4;simp [c_128_l0,Register.e,h1,h3,h4,h5,hk1,hk2,hi,hb,hw'];exact ih' _ _ ⟨by simp [h1,Prg.e],by simp [h2],by simp [h3],by simp [h4],by simp,rfl⟩
  ·rintro k e _ L' hk hL' ⟨h1,h2,h3,h4,h5,rfl⟩;simp only [List.length_take] at hk;simp at h4;by_cases hk1:k<i
   ·simp [c_128_l0,c_128_k1,h2,h3,h4,h5,hk1,hL',qcf,dgR,dgC,dH]
   ·simp [c_128_l0,c_128_k1,h2,h3,h4,h5,hk1,hL',qcf,dgR,dgC,dH]
  ·rintro e _ L' hL' ⟨h1,h2,h3,h4,h5,rfl⟩;have hmn:min i p.registers.length=i:=by omega
   simp [hmn] at h4 h5;simp [c_128_l0,c_128_k1,c_128_k2,h3,h4,h5,hL',hw];exact ih _ ⟨by simp [h1],by simp [h2],by simp⟩
  ·simp [h1,h2,h3,Prg.e,dH]
  ·rw [<- hX];cases q:dupN Register.name p.registers i p.registers[i] with
   | true=>
    rw [bad 7 (by decide) (by simp [qgu,z1,q])];unfold dupN at q;rw [q];rfl
   | false=>
    rw [qar hi (by simp [regG,hi,qgu,z1,q])];unfold dupN at q;rw [q];rfl
 ·rintro e L hL ⟨h1,h2,h3⟩;rw [qa4];rw [Prg.e] at h1;simp [c_128_l3,c_128_k4,h1,h2,h3,hL,dgR,dgC]
 ·simp [Prg.e]
theorem qace (p:Prg) (f:PrgS p):qab Φ f_129 [.agg (Prg.c p)]=some (dgR (qd1 p)):=by
 rw [qaa (fn:=c_129) rfl rfl,show qd1 p=fe (acG p) p.actions.length 0 from rfl];simp [c_129,Prg.e];refine qao p.actions.length (fun i e=>look 1 e=some (.iptr 9 [Prg.c p] 0 0)/\look 2 e=some (.ptr 0 4 0 0)/\look 3 e=some (.int .i64 i))
  (fun i=>some (dgR (fe (acG p) p.actions.length i))) ?_ ?_ 0 _ (Qc _) ?_
 ·rintro i e L hi hL ⟨h1,h2,h3⟩ ih;have hlen:=f.a;have hw:=qaf i (by omega);have et:=qaey p f i;simp only [Prg.e] at et;rw [Prg.e] at h1;by_cases y:(actE p i).2=0
  rotate_left
  ·rw [qaj (x:=((actE p i).2,4,(i:Int),(actE p i).1)) hi (by simp [acG,hi,y])];simp [c_129_l2,h1,h2,h3,hi,et,y,qcf,dgR,dgC]
  rw [y] at et;generalize hX:some (dgR (fe (acG p) p.actions.length i))=X;simp [c_129_l2,h1,h3,hi,et];refine (qdj (p.actions.take i) (fun g=>decide (g.name=p.actions[i].name)) (some (dgR (some (7,4,(i:Int),0)))) (some (dgR (fe (acG p) p.actions.length (i+1))))
   (fun k e H=>look 1 e=some (.iptr 9 [Prg.c p] 0 0)/\look 2 e=some (.ptr 0 4 0 0)/\look 3 e=some (.int .i64 i)/\look 6 e=some (.int .i64 k)/\H=dH) ?_ ?_ ?_ _ _ ?_).trans ?_
  ·rintro k e _ L' hk hL' ⟨h1,h2,h3,h6,rfl⟩ hb;simp only [List.length_take] at hk;have hk1:k<i:=by omega
   have hk2:k<p.actions.length:=by omega
   simp only [List.getElem_take,decide_eq_true_eq] at hb;rw [Prg.e] at h1;simp [c_129_l0,Action.e,h1,h2,h3,h6,hk1,hk2,hi,hb,qcf,dgR,dgC,dH]
  ·rintro k e _ L' Y hk hL' ⟨h1,h2,h3,h6,rfl⟩ hb ih';simp only [List.length_take] at hk;have hk1:k<i:=by omega
   have hk2:k<p.actions.length:=by omega
   have hw':=qaf k (by omega);simp only [List.getElem_take,decide_eq_false_iff_not] at hb;rw [Prg.e] at h1;simp [c_129_l0,Action.e,h1,h3,h6,hk1,hk2,hi,hb,hw'];exact ih' _ _ ⟨by simp [h1,Prg.e],by simp [h2],by simp [h3],by simp,rfl⟩
  ·rintro e _ L' hL' ⟨h1,h2,h3,h6,rfl⟩;have hm:min i p.actions.length=i:=by omega
   simp [hm] at h6;simp [c_129_l0,c_129_k1,h3,h6,hL',hw];exact ih _ ⟨by simp [h1],by simp [h2],by simp⟩
  ·simp [h1,h2,h3,Prg.e,dH]
  ·rw [<- hX];cases q:dupN Action.name p.actions i p.actions[i] with
   | true=>
    rw [qaj (x:=(7,4,(i:Int),0)) hi (by simp [acG,hi,y,q])];unfold dupN at q;rw [q];rfl
   | false=>
    rw [qar hi (by simp [acG,hi,y,q])];unfold dupN at q;rw [q];rfl
 ·rintro e L hL ⟨h1,h2,h3⟩;rw [qa4];rw [Prg.e] at h1;simp [c_129_l2,c_129_k3,h1,h2,h3,hL,dgR,dgC]
 ·simp [Prg.e]
theorem qafi (p:Prg) (f:PrgS p) (hv:∀t∈p.tables,∀v∈t.dflt.args,ok32 0 v):qab Φ f_130 [.agg (Prg.c p)]=some (dgR (tblD p)):=by
 rw [qaa (fn:=c_130) rfl rfl,show tblD p=fe (tbG p) p.tables.length 0 from rfl];simp [c_130,Prg.e];refine qao p.tables.length (fun i e=>look 1 e=some (.iptr 9 [Prg.c p] 0 0)/\look 2 e=some (.ptr 0 4 0 0)/\look 3 e=some (.int .i64 i))
  (fun i=>some (dgR (fe (tbG p) p.tables.length i))) ?_ ?_ 0 _ (Qc _) ?_
 ·rintro i e L hi hL ⟨h1,h2,h3⟩ ih;have hlen:=f.t;have hw:=qaf i (by omega);have et:=qov p f hv i;simp only [Prg.e] at et;rw [Prg.e] at h1;by_cases y:(tblE p i).2=0
  rotate_left
  ·rw [qaj (x:=((tblE p i).2,5,(i:Int),(tblE p i).1)) hi (by simp [tbG,hi,y])];simp [c_130_l2,h1,h2,h3,hi,et,y,qcf,dgR,dgC]
  rw [y] at et;generalize hX:some (dgR (fe (tbG p) p.tables.length i))=X;simp [c_130_l2,h1,h3,hi,et];refine (qdj (p.tables.take i) (fun g=>decide (g.name=p.tables[i].name)) (some (dgR (some (7,5,(i:Int),0)))) (some (dgR (fe (tbG p) p.tables.length (i+1))))
   (fun k e H=>look 1 e=some (.iptr 9 [Prg.c p] 0 0)/\look 2 e=some (.ptr 0 4 0 0)/\look 3 e=some (.int .i64 i)/\look 6 e=some (.int .i64 k)/\H=dH) ?_ ?_ ?_ _ _ ?_).trans ?_
  ·rintro k e _ L' hk hL' ⟨h1,h2,h3,h6,rfl⟩ hb;simp only [List.length_take] at hk;have hk1:k<i:=by omega
   have hk2:k<p.tables.length:=by omega
   simp only [List.getElem_take,decide_eq_true_eq] at hb;rw [Prg.e] at h1;simp [c_130_l0,Tbl.e,h1,h2,h3,h6,hk1,hk2,hi,hb,qcf,dgR,dgC,dH]
  ·rintro k e _ L' Y hk hL' ⟨h1,h2,h3,h6,rfl⟩ hb ih';simp only [List.length_take] at hk;have hk1:k<i:=by omega
   have hk2:k<p.tables.length:=by omega
   have hw':=qaf k (by omega);simp only [List.getElem_take,decide_eq_false_iff_not] at hb;rw [Prg.e] at h1;simp [c_130_l0,Tbl.e,h1,h3,h6,hk1,hk2,hi,hb,hw'];exact ih' _ _ ⟨by simp [h1,Prg.e],by simp [h2],by simp [h3],by simp,rfl⟩
  ·rintro e _ L' hL' ⟨h1,h2,h3,h6,rfl⟩;have hm:min i p.tables.length=i:=by omega
   simp [hm] at h6;simp [c_130_l0,c_130_k1,h3,h6,hL',hw];exact ih _ ⟨by simp [h1],by simp [h2],by simp⟩
  ·simp [h1,h2,h3,Prg.e,dH]
  ·rw [<- hX];cases q:dupN Tbl.name p.tables i p.tables[i] with
   | true=>
    rw [qaj (x:=(7,5,(i:Int),0)) hi (by simp [tbG,hi,y,q])];unfold dupN at q;rw [q];rfl
   | false=>
    rw [qar hi (by simp [tbG,hi,y,q])];unfold dupN at q;rw [q];rfl
 ·rintro e L hL ⟨h1,h2,h3⟩;rw [qa4];rw [Prg.e] at h1;simp [c_130_l2,c_130_k3,h1,h2,h3,hL,dgR,dgC]
 ·simp [Prg.e]
theorem qds {α:Type} {f:Nat->Option α} {N:Nat} {x:α}:∀{i},fe f N i=some x->∃k,k<N/\f k=some x:=by
 have key:∀n i,feF f n i=some x->∃k,k<i+n/\f k=some x:=by
  intro n
  induction n with
  | zero=>intro i h;simp [feF] at h
  | succ n ih=>
   intro i h;simp only [feF] at h;cases q:f i with
   | some y=>rw [q] at h;cases h;exact ⟨i,by omega,q⟩
   | none=>
    rw [q] at h;obtain ⟨k,h1,h2⟩:=ih _ h;exact ⟨k,by omega,h2⟩
 intro i h;unfold fe at h;obtain ⟨k,h1,h2⟩:=key _ _ h;by_cases hi:i<=N
 ·exact ⟨k,by omega,h2⟩
 ·rw [show N - i=0 by omega] at h;simp [feF] at h
theorem qahs {p:Prg} {d:Dg} (h:limD p=some d):d.1≠0:=by
 unfold limD at h
 repeat' split at h
 all_goals first
  | (cases h;decide)
  | (cases h)
theorem qahk {p:Prg} {d:Dg} (h:hdrD p=some d):d.1≠0:=by
 obtain ⟨k,hk,h⟩:=qds (f:=hdrG p) h;rw [hdrG,Qa hk,Option.bind_some] at h;split at h
 ·cases h
 ·rename_i z;cases h;exact z
theorem qahv {p:Prg} {d:Dg} (h:metD p=some d):d.1≠0:=by
 rw [qqx] at h;split at h
 ·cases h;decide
 ·cases q:fe (metG p) p.metadata.length 0 with
  | some x=>
   rw [q] at h;cases h;obtain ⟨k,hk,h⟩:=qds q;rw [metG,Qa hk,Option.bind_some] at h;split at h
   ·cases h
   ·rename_i z;cases h;exact z
  | none=>
   rw [q,Option.none_or] at h;obtain ⟨k,hk,h⟩:=qds h;unfold metH at h;split at h
   ·cases h
   ·cases h;simp
theorem qaie {p:Prg} {d:Dg} (h:regD p=some d):d.1≠0:=by
 obtain ⟨k,hk,h⟩:=qds (f:=regG p) h;rw [regG,Qa hk,Option.bind_some] at h;split at h
 ·cases h
 ·rename_i z;cases h;exact z
theorem qadc {p:Prg} {d:Dg} (h:qd1 p=some d):d.1≠0:=by
 obtain ⟨k,hk,h⟩:=qds (f:=acG p) h;rw [acG,Qa hk,Option.bind_some] at h;split at h
 ·rename_i z;cases h;exact z
 ·split at h
  ·cases h;simp
  ·cases h
theorem qai4 {p:Prg} {d:Dg} (h:tblD p=some d):d.1≠0:=by
 obtain ⟨k,hk,h⟩:=qds (f:=tbG p) h;rw [tbG,Qa hk,Option.bind_some] at h;split at h
 ·rename_i z;cases h;exact z
 ·split at h
  ·cases h;simp
  ·cases h
theorem qtg (p:Prg) (f:PrgS p) (hv:∀t∈p.tables,∀v∈t.dflt.args,ok32 0 v) (hc:(pre p.control).length<2^40 - 1):qab Φ f_55 [.agg (Prg.c p)]=some (.val (.agg (dgC (prgD p)))):=by
 rw [qaa (fn:=c_55) rfl rfl];have h1:=qaij p f;have h2:=qae6 p f;have h3:=qae9 p f;have h4:=qafe p f;have h5:=qace p f;have h6:=qafi p f hv;have h7:=qaih p f hc;simp only [Prg.e] at h1 h2 h3 h4 h5 h6 h7;unfold prgD;cases q1:limD p with
 | some d=>have n:=qahs q1;rw [q1] at h1;simp [c_55,Prg.e,h1,dgR,dgC,n]
 | none=>
 rw [q1] at h1;cases q2:hdrD p with
 | some d=>have n:=qahk q2;rw [q2] at h2;simp [c_55,Prg.e,h1,h2,dgR,dgC,n]
 | none=>
 rw [q2] at h2;cases q3:metD p with
 | some d=>have n:=qahv q3;rw [q3] at h3;simp [c_55,Prg.e,h1,h2,h3,dgR,dgC,n]
 | none=>
 rw [q3] at h3;cases q4:regD p with
 | some d=>have n:=qaie q4;rw [q4] at h4;simp [c_55,Prg.e,h1,h2,h3,h4,dgR,dgC,n]
 | none=>
 rw [q4] at h4;cases q5:qd1 p with
 | some d=>have n:=qadc q5;rw [q5] at h5;simp [c_55,Prg.e,h1,h2,h3,h4,h5,dgR,dgC,n]
 | none=>
 rw [q5] at h5;cases q6:tblD p with
 | some d=>have n:=qai4 q6;rw [q6] at h6;simp [c_55,Prg.e,h1,h2,h3,h4,h5,h6,dgR,dgC,n]
 | none=>
 rw [q6] at h6;cases q7:floD p with
 | some d=>rw [q7] at h7;simp [c_55,Prg.e,h1,h2,h3,h4,h5,h6,h7,dgR,dgC]
 | none=>rw [q7] at h7;simp [c_55,Prg.e,h1,h2,h3,h4,h5,h6,h7,dgR,dgC]
def IsB (x:Option Rt):Prop:=∃b,x=some (.val (.bool b))
@[simp] theorem qan6 (b:Bool):IsB (some (.val (.bool b))):=⟨b,rfl⟩
theorem qg8 {Φ:FuncId->Option AFun} {β:Type} {fin:Option (Ex×St)->Option β} {h:AH} (N:Nat) (Inv:Nat->Env->Prop) (Q:Option β->Prop) {b:ACode} {K:List Fr}
  (step:∀i e L,i<N->(∀j s,go Φ fin L (.exit j) s=go Φ fin K (.exit j) s)->Inv i e->(∀e',Inv (i+1) e'->Q (go Φ fin L .normal ⟨e',h⟩))->Q (go Φ fin (.c b::L) .normal ⟨e,h⟩))
  (last:∀e L,(∀j s,go Φ fin L (.exit j) s=go Φ fin K (.exit j) s)->Inv N e->Q (go Φ fin (.c b::L) .normal ⟨e,h⟩)):
  ∀i e,i<=N->Inv i e->Q (go Φ fin (.c (.loop b)::K) .normal ⟨e,h⟩):=by
 intro i e hi hv;refine qk9 N (fun i e H=>H=h/\Inv i e) Q ?_ ?_ i e h hi ⟨rfl,hv⟩
 ·rintro i e _ L hi hL ⟨rfl,hv⟩ ih;exact step i e L hi hL hv fun e' hv'=>ih e' _ ⟨rfl,hv'⟩
 ·rintro e _ L hL ⟨rfl,hv⟩;exact last e L hL hv
end Go.Av
