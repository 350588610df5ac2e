/-
 The control flow: the reference's answer.
-/
import Derived.Test.YtcehjengeaafpaaGreatK19
set_option linter.all false
namespace Go.Av
set_option maxRecDepth 4000
theorem ep:∀(n:Nat) (l:List Xa),SizeOf.sizeOf l<=n->(pre l).length<2^40->a8 Φ 193 [.slice 5 (l.map Xa.c)]=some (.val (a7 ((pre l).length:Nat)))
 | 0,l,h,hb=>by cases l<;>simp at h
 | n+1,l,h,hb=>by
  rw [aB rfl rfl];have hll:=CH l;generalize hX:some (Rt.val (a7 ((pre l).length:Nat)))=X;simp [FV];refine dC l.length (fun i e=>look 0 e=some (.slice 5 (l.map Xa.c))/\look 3 e=some (a7 ((pre (l.take i)).length:Nat))/\look 4 e=some (a7 i)) (fun i=>X) ?_ ?_ 0 _ (Qc _) ?_
  ·rintro i e L hi hL ⟨h0,h3,h4⟩ ih;have hw:=aF i (by omega);obtain ⟨k,t,c,a,b,hx⟩:=CE l[i];have hm:l[i]∈l:=Qd hi;have hs:SizeOf.sizeOf l[i]<SizeOf.sizeOf l:=M6 hm;have ht:=UU hi;have htl:(pre (l.take (i+1))).length<=(pre l).length:=by
    have:pre l=pre (l.take (i+1))++pre (l.drop (i+1)):=by rw [<- EL,AK]
    rw [this];simp
   rw [hx] at hs ht;rw [ER] at ht;simp at hs;have htl2:=congrArg List.length ht;simp at htl2;have i1:=ep n a (by omega) (by omega);have i2:=ep n b (by omega) (by omega);have w1:IntKind.wrap .i64 (1+((pre a).length:Int))=1+((pre a).length:Int):=aQ;have w2:IntKind.wrap .i64 (1+((pre a).length:Int)+((pre b).length:Int))=1+((pre a).length:Int)+((pre b).length:Int):=aQ;have w3:IntKind.wrap .i64 (((pre (l.take i)).length:Int)+(1+((pre a).length:Int)+((pre b).length:Int)))=((pre (l.take i)).length:Int)+(1+((pre a).length:Int)+((pre b).length:Int)):=aQ;simp [kG,h0,h3,h4,hi,hw,hx,Xa.e,i1,i2,w1,w2,w3];refine ih _ ⟨by simp [h0],?_,by simp⟩;rw [htl2];simp;omega
  ·rintro e L hL ⟨h0,h3,h4⟩;rw [fF] at h3;simp [kG,qD,h0,h3,h4,hL,<- hX]
  ·simp [pre]
theorem om:∀a b:List Xa,nest (a++b)=max (nest a) (nest b)
 | [],b=>by simp [nest]
 | x::a,b=>by rw [oY,nest,om a b,nest];omega
theorem gw:∀(n:Nat) (l:List Xa),SizeOf.sizeOf l<=n->(pre l).length<2^40->a8 Φ 194 [.slice 5 (l.map Xa.c)]=some (.val (a7 (nest l:Nat)))
 | 0,l,h,hb=>by cases l<;>simp at h
 | n+1,l,h,hb=>by
  rw [aB rfl rfl];have hll:=CH l;generalize hX:some (Rt.val (a7 (nest l:Nat)))=X;simp [FW];refine dC l.length (fun i e=>look 0 e=some (.slice 5 (l.map Xa.c))/\look 3 e=some (a7 (nest (l.take i):Nat))/\look 4 e=some (a7 i)) (fun i=>X) ?_ ?_ 0 _ (Qc _) ?_
  ·rintro i e L hi hL ⟨h0,h3,h4⟩ ih;have hw:=aF i (by omega);obtain ⟨k,t,c,a,b,hx⟩:=CE l[i];have hm:l[i]∈l:=Qd hi;have hs:SizeOf.sizeOf l[i]<SizeOf.sizeOf l:=M6 hm;have hp:=ju hi;have hn:nest (l.take (i+1))=max (nest (l.take i)) (1+CV l[i]):=by
    rw [Qh hi,om];simp [nest]
   rw [hx] at hs hp hn;rw [ER] at hp;rw [gt] at hn;simp at hs hp;have i1:=gw n a (by omega) (by omega);have i2:=gw n b (by omega) (by omega);have l1:=NM a;have l2:=NM b;have w1:IntKind.wrap .i64 (1+(nest a:Int))=1+(nest a:Int):=aQ;have w2:IntKind.wrap .i64 (1+(nest b:Int))=1+(nest b:Int):=aQ;simp [kH,h0,h3,h4,hi,hw,hx,Xa.e,i1,i2,w1,w2];refine ih _ ⟨by simp [h0],?_,by simp⟩;simp [hn];split<;>split<;>omega
  ·rintro e L hL ⟨h0,h3,h4⟩;rw [fF] at h3;simp [kH,qE,h0,h3,h4,hL,<- hX]
  ·simp [nest]
theorem cw:∀(n:Nat) (l:List Xa),SizeOf.sizeOf l<=n->(pre l).length<2^30->a8 Φ 195 [.slice 5 (l.map Xa.c)]=some (.val (.slice 5 ((pre l).map Xa.c)))
 | 0,l,h,hb=>by cases l<;>simp at h
 | n+1,l,h,hb=>by
  rw [aB rfl rfl];have hll:=CH l;generalize hX:some (Rt.val (AV.slice 5 ((pre l).map Xa.c)))=X;simp [FX];refine JK l.length (fun i e H=>look 0 e=some (.slice 5 (l.map Xa.c))/\look 3 e=some (.app 5 ((pre (l.take i)).map Xa.c) 0)/\look 4 e=some (a7 i)/\H=⟨[(0,.tok 5 (pre (l.take i)).length)],1⟩) (fun i=>X) ?_ ?_ 0 _ _ (Qc _) ?_
  ·rintro i e _ L hi hL ⟨h0,h3,h4,rfl⟩ ih;have hw:=aF i (by omega);obtain ⟨k,t,c,a,b,hx⟩:=CE l[i];have hm:l[i]∈l:=Qd hi;have hs:SizeOf.sizeOf l[i]<SizeOf.sizeOf l:=M6 hm;have ht:=UU hi;have htl:(pre (l.take (i+1))).length<=(pre l).length:=by
    have:pre l=pre (l.take (i+1))++pre (l.drop (i+1)):=by rw [<- EL,AK]
    rw [this];simp
   rw [hx] at hs ht;rw [ER] at ht;simp at hs;have htl2:=congrArg List.length ht;simp at htl2;have i1:=cw n a (by omega) (by omega);have i2:=cw n b (by omega) (by omega);have b1:((pre (l.take i)).length+1)*88<=70368744177664:=by omega
   have b2:((pre (l.take i)).length+1+(pre a).length)*88<=70368744177664:=by omega
   have b3:((pre (l.take i)).length+(1+(pre a).length)+(pre b).length)*88<=70368744177664:=by omega
   have b4:((pre (l.take i)).length+1+(pre a).length+(pre b).length)*88<=70368744177664:=by omega
   have e6:(pre (l.take i)).length+((pre a).length+1)=(pre (l.take i)).length+1+(pre a).length:=by omega
   have b5:((pre (l.take i)).length+(1+(pre a).length))*88<=70368744177664:=by omega
   simp [kI,h0,h3,h4,hi,hw,hx,Xa.e,i1,i2,e6,b1,b2,b4];refine ih _ _ ⟨by simp [h0],?_,by simp,?_⟩
   ·simp [ht,Xa.e]
   ·simp [htl2];omega
  ·rintro e _ L hL ⟨h0,h3,h4,rfl⟩;rw [fF] at h3;simp [kI,qF,h0,h3,h4,hL,<- hX]
  ·simp [pre]
theorem oo (k t:Int) (c:List Xd) (a b:List Xa):a8 Φ 365 [.agg (Xa.c (.mk k t c a b))]=some (.val (.bool (appl (.mk k t c a b)))):=by
 rw [aB rfl rfl];by_cases k1:k=1
 ·simp [C3,Xa.e,appl,k1]
 ·simp [C3,Xa.e,appl,k1]
theorem ZY (l:List Xa) (i:Nat) (hi:i<l.length) (hl:l.length<2^40):a8 Φ 305 [.slice 5 (l.map Xa.c),a7 i]=some (.val (.bool ((l.take i).any fun y=>appl y&&decide (y.table=l[i].table)))):=by
 rw [aB rfl rfl];generalize hX:some (Rt.val (.bool ((l.take i).any fun y=>appl y&&decide (y.table=l[i].table))))=X;simp [HE];refine (A4 (l.take i) (fun y=>appl y&&decide (y.table=l[i].table)) (some (Rt.val (.bool true))) (some (Rt.val (.bool false)))
  (fun k e H=>look 0 e=some (.slice 5 (l.map Xa.c))/\look 1 e=some (a7 i)/\look 5 e=some (a7 k)/\H=⟨[],0⟩) ?_ ?_ ?_ _ _ ?_).trans ?_
 ·rintro j e _ L hk hL ⟨h0,h1,h5,rfl⟩ hb;simp only [iF] at hk;have hk1:j<i:=by omega
  have hk2:j<l.length:=by omega
  simp only [sL,d7,decide_eq_true_eq] at hb;obtain ⟨k,t,c,a,b,hx⟩:=CE l[j];obtain ⟨k',t',c',a',b',hx'⟩:=CE l[i];have ha:=oo k t c a b;rw [hx,hx'] at hb;simp only [Xa.table_mk] at hb;obtain ⟨hb1,hb2⟩:=hb;subst hb2;rw [hb1] at ha;simp only [Xa.e] at ha;simp [eI,h0,h1,h5,hk1,hk2,hi,hx,hx',Xa.e,ha]
 ·rintro j e _ L X hk hL ⟨h0,h1,h5,rfl⟩ hb ih;simp only [iF] at hk;have hk1:j<i:=by omega
  have hk2:j<l.length:=by omega
  have hw:=aF j (by omega);simp only [sL] at hb;obtain ⟨k,t,c,a,b,hx⟩:=CE l[j];obtain ⟨k',t',c',a',b',hx'⟩:=CE l[i];have ha:=oo k t c a b;rw [hx,hx'] at hb;simp only [Xa.table_mk] at hb;cases q:appl (.mk k t c a b) with
  | false=>
   rw [q] at ha;simp only [Xa.e] at ha;simp [eI,h0,h1,h5,hk1,hk2,hx,Xa.e,ha,hw];exact ih _ _ ⟨by simp [h0],by simp [h1],by simp,rfl⟩
  | true=>
   rw [q] at ha hb;simp only [Xa.e] at ha;simp only [KD,decide_eq_false_iff_not] at hb;simp [eI,h0,h1,h5,hk1,hk2,hi,hx,hx',Xa.e,ha,hb,hw];exact ih _ _ ⟨by simp [h0],by simp [h1],by simp,rfl⟩
 ·rintro e _ L hL ⟨h0,h1,h5,rfl⟩;have hm:min i l.length=i:=by omega
  simp [hm] at h5;simp [eI,rB,h1,h5,hL]
 ·simp
 ·rw [<- hX];cases (l.take i).any (fun y=>appl y&&decide (y.table=l[i].table))<;>rfl
theorem Bl (p:Prg) (l:List Xa) (i:Nat) (hi:i<l.length) (hl:l.length<2^40) (hc:l[i].thn.length<2^40/\l[i].els.length<2^40):a8 Φ 196 [.agg (Prg.c p),.slice 5 (l.map Xa.c),a7 i]=some (.val (a7 (nJ p (l.take i) l[i]))):=by
 rw [aB rfl rfl];have hb:=ZY l i hi hl;obtain ⟨k,t,c,a,b,hx⟩:=CE l[i];rw [hx] at hc hb ⊢;simp only [Xa.thn_mk,Xa.els_mk] at hc;have hab:IntKind.wrap .i64 ((a.length:Int)+b.length)=(a.length:Int)+b.length:=aQ;by_cases k0:k<1
 ·rw [show nJ p (l.take i) (.mk k t c a b)=11 by simp [nJ,show ¬k=2 by omega,show ¬k=1 by omega,show ¬k=3 by omega]];simp [fB,hi,hx,Xa.e,Prg.e,k0]
 by_cases k4:3<k
 ·rw [show nJ p (l.take i) (.mk k t c a b)=11 by simp [nJ,show ¬k=2 by omega,show ¬k=1 by omega,show ¬k=3 by omega]];simp [fB,hi,hx,Xa.e,Prg.e,k0,k4]
 by_cases k2:k=2
 ·have he:=VJ p [] c;simp only [aE,zA] at he;by_cases z:(exE p [] c).2=0
  ·rw [z] at he;by_cases y:(exE p [] c).1=1
   ·rw [y] at he;simp [fB,hi,hx,Xa.e,Prg.e,k2,nJ,he,z,y]
   ·simp [fB,hi,hx,Xa.e,Prg.e,k2,nJ,he,z,y]
  ·simp [fB,hi,hx,Xa.e,Prg.e,k2,nJ,he,z]
 have k13:k=1\/k=3:=by omega
 by_cases t0:t<0
 ·rw [show nJ p (l.take i) (.mk k t c a b)=8 by simp [nJ,k2,k13,t0]];simp [fB,hi,hx,Xa.e,Prg.e,k0,k4,k2,t0]
 by_cases t1:(p.Xm.length:Int)<=t
 ·rw [show nJ p (l.take i) (.mk k t c a b)=8 by simp [nJ,k2,k13,t0,t1]];simp [fB,hi,hx,Xa.e,Prg.e,k0,k4,k2,t0,t1]
 cases q:(l.take i).any (fun y=>appl y&&decide (y.table=(Xa.mk k t c a b).table)) with
 | true=>
  rw [q] at hb;have e:nJ p (l.take i) (.mk k t c a b)=7:=by
   unfold nJ;rw [q];simp [k2,k13,t0,t1]
  rw [e];simp [fB,hi,hx,Xa.e,Prg.e,k0,k4,k2,t0,t1,hb]
 | false=>
  rw [q] at hb;have e:nJ p (l.take i) (.mk k t c a b)=if k=1/\0<a.length+b.length then 5 else 0:=by
   unfold nJ;rw [q];simp [k2,k13,t0,t1]
  rw [e];by_cases k1:k=1
  ·by_cases z:0<a.length+b.length
   ·have z':(0:Int)<(a.length:Int)+b.length:=by omega
    simp [fB,hi,hx,Xa.e,Prg.e,k1,t0,t1,hb,hab,z,z']
    first
     | done
     | (intro h;simp [h] at z;omega)
   ·have za:a.length=0:=by omega
    have zb:b.length=0:=by omega
    simp [fB,hi,hx,Xa.e,Prg.e,k1,t0,t1,hb,za,zb];rw [show IntKind.wrap .i64 0=0 by decide];simp [Qg za,Qg zb]
  ·simp [fB,hi,hx,Xa.e,Prg.e,k0,k4,k2,k1,t0,t1,hb]
mutual
theorem Ac:∀(x:Xa) (n:Nat),(pre1 x).length<=n->∀y∈pre1 x,y.thn.length<=n/\y.els.length<=n
 | .mk k t c a b,n,h,y,hy=>by
  rw [ER] at h hy;simp at h;have ha:=CH a;have hb:=CH b;rcases nK.1 hy with rfl | hy
  ·simp;omega
  ·rcases nE.1 hy with hy | hy
   ·exact UT a n (by omega) y hy
   ·exact UT b n (by omega) y hy
theorem UT:∀(l:List Xa) (n:Nat),(pre l).length<=n->∀y∈pre l,y.thn.length<=n/\y.els.length<=n
 | [],n,h,y,hy=>by simp [pre] at hy
 | x::r,n,h,y,hy=>by
  rw [pre] at h hy;simp at h;rcases nE.1 hy with hy | hy
  ·exact Ac x n (by omega) y hy
  ·exact UT r n (by omega) y hy
end
theorem Gb (p:Prg) (hl:(pre p.Ya).length<2^40 - 1):a8 Φ 116 [.agg (Prg.c p)]=some (.val (.tup [a7 (ctlE p).1,a7 (ctlE p).2])):=by
 rw [aB rfl rfl];have hc:=ep _ p.Ya (Qb _) (by omega);have hn:=gw _ p.Ya (Qb _) (by omega);by_cases z1:24<(pre p.Ya).length
 ·simp [wL,Prg.e,hc,ctlE,z1]
 by_cases z2:6<nest p.Ya
 ·simp [wL,Prg.e,hc,hn,ctlE,z1,z2]
 have hE:ctlE p=(fe (ctlG p (pre p.Ya)) (pre p.Ya).length 0).getD (0,0):=by unfold ctlE;rw [QA z1,QA z2];rfl
 have hp:=cw _ p.Ya (Qb _) (by omega);rw [hE];simp [wL,Prg.e,hc,hn,hp,z1,z2];refine dC (pre p.Ya).length (fun i e=>look 1 e=some (.iptr 9 [Prg.c p] 0 0)/\look 4 e=some (.slice 5 ((pre p.Ya).map Xa.c))/\look 5 e=some (a7 i))
  (fun i=>some (Rt.val (.tup [a7 ((fe (ctlG p (pre p.Ya)) (pre p.Ya).length i).getD (0,0)).1,a7 ((fe (ctlG p (pre p.Ya)) (pre p.Ya).length i).getD (0,0)).2]))) ?_ ?_ 0 _ (Qc _) ?_
 ·rintro i e L hi hL ⟨h1,h4,h5⟩ ih;have hw:=aF i (by omega);have hk:=UT p.Ya 24 (by omega) _ (Qd hi);have hE:=Bl p (pre p.Ya) i hi (by omega) ⟨by omega,by omega⟩;simp only [Prg.e] at hE;rw [Prg.e] at h1;by_cases y:nJ p ((pre p.Ya).take i) (pre p.Ya)[i]=0
  ·rw [y] at hE;rw [bP hi (by simp [ctlG,hi,y])];simp [fO,h1,h4,h5,hi,hE,hw];exact ih _ ⟨by simp [h1,Prg.e],by simp [h4],by simp⟩
  ·rw [aJ (x:=((i:Int),nJ p ((pre p.Ya).take i) (pre p.Ya)[i])) hi (by simp [ctlG,hi,y])];simp [fO,h1,h4,h5,hi,hE,y]
 ·rintro e L hL ⟨h1,h4,h5⟩;rw [d6];simp [fO,pC,h4,h5,hL]
 ·simp [Prg.e]
theorem th {Φ:FuncId->Option AFun} {I:Type} {fin:Option (Ex×St)->Option I} {G:Type} (l:List G) (bad:G->Bool) (Rb Re:Option I) (Inv:Nat->Bool->Env->AH->Prop) {b:Xu} {K:List Fr}
  (hit:∀i e h L X (hi:i<l.length),(∀j s,go Φ fin L (.exit j) s=go Φ fin K (.exit j) s)->Inv i false e h->bad l[i]=true->(∀e' h',Inv (i+1) true e' h'->go Φ fin L .normal ⟨e',h'⟩=X)->go Φ fin (.c b::L) .normal ⟨e,h⟩=X)
  (miss:∀i e h L X (hi:i<l.length),(∀j s,go Φ fin L (.exit j) s=go Φ fin K (.exit j) s)->Inv i false e h->bad l[i]=false->(∀e' h',Inv (i+1) false e' h'->go Φ fin L .normal ⟨e',h'⟩=X)->go Φ fin (.c b::L) .normal ⟨e,h⟩=X)
  (stop:∀i e h L,i<=l.length->(∀j s,go Φ fin L (.exit j) s=go Φ fin K (.exit j) s)->Inv i true e h->go Φ fin (.c b::L) .normal ⟨e,h⟩=Rb)
  (last:∀e h L,(∀j s,go Φ fin L (.exit j) s=go Φ fin K (.exit j) s)->Inv l.length false e h->go Φ fin (.c b::L) .normal ⟨e,h⟩=Re):
  ∀e h,Inv 0 false e h->go Φ fin (.c (.loop b)::K) .normal ⟨e,h⟩=if l.any bad then Rb else Re:=by
 intro e h h0;refine (we (Z:=Nat×Bool) (fun x=>if x.2 then 0 else l.length - x.1+1) (fun x e h=>x.1<=l.length/\Inv x.1 x.2 e h) (fun x=>if x.2 then Rb else if vV l bad x.1 then Rb else Re) ?_ (0,false) e h ⟨Qc _,h0⟩).trans (by simp [SE]);rintro ⟨i,f⟩ e h L hL ⟨hi,hinv⟩ ih;cases f with
 | true=>exact stop i e h L hi hL hinv
 | false=>
  simp only [nX,if_false];rcases Nat.lt_or_eq_of_le hi with hlt | heq
  ·cases hb:bad l[i] with
   | true=>
    rw [jb hlt hb,a9 rfl];exact hit i e h L _ hlt hL hinv hb fun e' h' hi'=>ih (i+1,true) e' h' (by simp) ⟨by simp;omega,hi'⟩
   | false=>
    rw [LE hlt hb];refine miss i e h L _ hlt hL hinv hb fun e' h' hi'=>?_
    have:=ih (i+1,false) e' h' (by simp;simp at hlt;omega) ⟨by simp;omega,hi'⟩;simpa using this
  ·simp only at heq;subst heq;rw [UZ];exact last e h L hL hinv
def dgR (o:Option Dg):Rt:= .val (.agg (dgC (o.getD (0,0,0,0))))
def dH:AH:=⟨[(0,.row 4 [[a7 0,a7 0,a7 0,a7 0]])],1⟩
theorem jE (a b c d:Int):a8 Φ 109 [a7 a,a7 b,a7 c,a7 d]=some (.val (.agg [a7 a,a7 b,a7 c,a7 d])):=by
 rw [aB rfl rfl];simp [F8]
theorem My (p:Prg) (f:PrgS p):a8 Φ 48 [.agg (Prg.c p)]=some (dgR (limD p)):=by
 rw [aB rfl rfl];have n1:=EG p.name f.n;cases q1:idS p.name with
 | false=>rw [q1] at n1;simp [wF,Prg.e,n1,jE,limD,q1,dgR,dgC]
 | true=>
 rw [q1] at n1;by_cases z1:8<p.Xo.length
 ·simp [wF,Prg.e,n1,jE,limD,q1,dgR,dgC,z1]
 by_cases z2:4<p.Xl.length
 ·simp [wF,Prg.e,n1,jE,limD,q1,dgR,dgC,z1,z2]
 by_cases z3:16<p.Xx.length
 ·simp [wF,Prg.e,n1,jE,limD,q1,dgR,dgC,z1,z2,z3]
 by_cases z4:12<p.Xm.length
 ·simp [wF,Prg.e,n1,jE,limD,q1,dgR,dgC,z1,z2,z3,z4]
 simp [wF,Prg.e,n1,limD,q1,dgR,dgC,z1,z2,z3,z4]
theorem Er (p:Prg) (f:PrgS p):a8 Φ 49 [.agg (Prg.c p)]=some (dgR (hdrD p)):=by
 rw [aB rfl rfl,show hdrD p=fe (hdrG p) p.Xo.length 0 from rfl];simp [ON,Prg.e];refine dC p.Xo.length (fun i e=>look 1 e=some (.iptr 9 [Prg.c p] 0 0)/\look 2 e=some (.ptr 0 4 0 0)/\look 3 e=some (a7 i))
  (fun i=>some (dgR (fe (hdrG p) p.Xo.length i))) ?_ ?_ 0 _ (Qc _) ?_
 ·rintro i e L hi hL ⟨h1,h2,h3⟩ ih;have hlen:=f.h;have hw:=aF i (by omega);have hm:=Qd hi;have eh:=NC p.Xo[i] (f.hn _ hm) (f.hf _ hm);simp only [Xi.e] at eh;rw [Prg.e] at h1;have bad:∀c:Int,c≠0->yT p i p.Xo[i]=c->fe (hdrG p) p.Xo.length i=some (c,1,(i:Int),0):=fun c h0 h=>aJ hi (by simp [hdrG,hi,h,h0])
  by_cases z1:hdrE p.Xo[i]=0
  rotate_left
  ·rw [bad _ z1 (by simp [yT,z1])];simp [mR,Xi.e,h1,h3,hi,eh,z1];rw [aT];by_cases hi0:0<i<;>simp [dA,iK,h2,h3,z1,hi0,jE,dgR,dgC]
  by_cases z2:p.Xo[i].name=[109,101,116,97]
  ·rw [bad 6 (by decide) (by simp [yT,z1,z2])];rw [z2] at eh;simp [mR,Xi.e,h1,h3,hi,eh,z1,z2];rw [aT];by_cases hi0:0<i<;>simp [dA,iK,h2,h3,hi0,jE,dgR,dgC]
  generalize hX:some (dgR (fe (hdrG p) p.Xo.length i))=X;simp [mR,Xi.e,h1,h3,hi,eh,z1,z2];refine (th (p.Xo.take i) (fun y=>decide (y.name=p.Xo[i].name)) (some (dgR (some (7,1,(i:Int),0)))) (some (dgR (fe (hdrG p) p.Xo.length (i+1))))
   (fun k b e H=>look 1 e=some (.iptr 9 [Prg.c p] 0 0)/\look 2 e=some (.ptr 0 4 0 0)/\look 3 e=some (a7 i)/\look 4 e=some (a7 (if b then 7 else 0))/\look 5 e=some (a7 k)/\H=dH) ?_ ?_ ?_ ?_ _ _ ?_).trans ?_
  ·rintro k e _ L' Y hk hL' ⟨h1,h2,h3,h4,h5,rfl⟩ hb ih';simp only [iF] at hk;have hk1:k<i:=by omega
   have hk2:k<p.Xo.length:=by omega
   have hw':=aF k (by omega);simp only [sL,decide_eq_true_eq] at hb;rw [Prg.e] at h1;simp at h4;simp [dA,Xi.e,h1,h3,h4,h5,hk1,hk2,hi,hb,hw'];exact ih' _ _ ⟨by simp [h1,Prg.e],by simp [h2],by simp [h3],by simp,by simp,rfl⟩
  ·rintro k e _ L' Y hk hL' ⟨h1,h2,h3,h4,h5,rfl⟩ hb ih';simp only [iF] at hk;have hk1:k<i:=by omega
   have hk2:k<p.Xo.length:=by omega
   have hw':=aF k (by omega);simp only [sL,decide_eq_false_iff_not] at hb;rw [Prg.e] at h1;simp at h4;simp [dA,Xi.e,h1,h3,h4,h5,hk1,hk2,hi,hb,hw'];exact ih' _ _ ⟨by simp [h1,Prg.e],by simp [h2],by simp [h3],by simp [h4],by simp,rfl⟩
  ·rintro k e _ L' hk hL' ⟨h1,h2,h3,h4,h5,rfl⟩;simp only [iF] at hk;simp at h4;by_cases hk1:k<i
   ·simp [dA,iK,h2,h3,h4,h5,hk1,hL',jE,dgR,dgC,dH]
   ·simp [dA,iK,h2,h3,h4,h5,hk1,hL',jE,dgR,dgC,dH]
  ·rintro e _ L' hL' ⟨h1,h2,h3,h4,h5,rfl⟩;have hmn:min i p.Xo.length=i:=by omega
   simp [hmn] at h4 h5;simp [dA,iK,yL,h3,h4,h5,hL',hw];exact ih _ ⟨by simp [h1],by simp [h2],by simp⟩
  ·simp [h1,h2,h3,Prg.e,dH]
  ·rw [<- hX];cases q:dupN Xi.name p.Xo i p.Xo[i] with
   | true=>
    rw [bad 7 (by decide) (by simp [yT,z1,z2,q])];unfold dupN at q;rw [q];rfl
   | false=>
    rw [bP hi (by simp [hdrG,hi,yT,z1,z2,q])];unfold dupN at q;rw [q];rfl
 ·rintro e L hL ⟨h1,h2,h3⟩;rw [d6];rw [Prg.e] at h1;simp [mR,yM,h1,h2,h3,hL,dgR,dgC]
 ·simp [Prg.e]
theorem Bj (l:List Fld) (i:Nat) (hi:i<l.length) (hl:l.length<2^40) (hf:∀f∈l,f.name.length<2^40):a8 Φ 111 [.slice 2 (l.map Fld.c),a7 i]=some (.val (a7 (fldE l i l[i]))):=by
 rw [aB rfl rfl];have nf:=EG l[i].name (hf _ (Qd hi));cases p1:idS l[i].name with
 | false=>
  rw [p1] at nf;simp [v7,Fld.e,hi,nf,fldE,p1]
 | true=>
 rw [p1] at nf;by_cases w1:l[i].Yc<1
 ·simp [v7,Fld.e,hi,nf,fldE,p1,wBad,w1]
 by_cases w2:32<l[i].Yc
 ·simp [v7,Fld.e,hi,nf,fldE,p1,wBad,w1,w2]
 rw [show fldE l i l[i]=if dupN Fld.name l i l[i]=true then 7 else 0 by simp [fldE,p1,wBad,w1,w2]];unfold dupN;generalize hX:some (Rt.val (a7 (if (l.take i).any (fun y=>decide (y.name=l[i].name))=true then 7 else 0)))=X;simp [v7,Fld.e,hi,nf,w1,w2];refine (A4 (l.take i) (fun y=>decide (y.name=l[i].name)) (some (Rt.val (a7 7))) (some (Rt.val (a7 0)))
  (fun k e H=>look 0 e=some (.slice 2 (l.map Fld.c))/\look 1 e=some (a7 i)/\look 5 e=some (a7 k)/\H=⟨[],0⟩) ?_ ?_ ?_ _ _ ?_).trans ?_
 ·rintro k e _ L' hk hL' ⟨h0,h1,h5,rfl⟩ hb;simp only [iF] at hk;have hk1:k<i:=by omega
  have hk2:k<l.length:=by omega
  simp only [sL,decide_eq_true_eq] at hb;simp [fJ,Fld.e,h0,h1,h5,hk1,hk2,hi,hb]
 ·rintro k e _ L' X hk hL' ⟨h0,h1,h5,rfl⟩ hb ih';simp only [iF] at hk;have hk1:k<i:=by omega
  have hk2:k<l.length:=by omega
  have hw':=aF k (by omega);simp only [sL,decide_eq_false_iff_not] at hb;simp [fJ,Fld.e,h0,h1,h5,hk1,hk2,hi,hb,hw'];exact ih' _ _ ⟨by simp [h0],by simp [h1],by simp,rfl⟩
 ·rintro e _ L' hL' ⟨h0,h1,h5,rfl⟩;have hm:min i l.length=i:=by omega
  simp [hm] at h5;simp [fJ,p8,h1,h5,hL']
 ·simp
 ·rw [<- hX];cases (l.take i).any (fun y=>decide (y.name=l[i].name))<;>rfl
theorem Eu (p:Prg) (e:Env) (h1:look 1 e=some (.iptr 9 [Prg.c p] 0 0)) (h2:look 2 e=some (.ptr 0 4 0 0)):go Φ (finP [.cell 2 true 4]) [.c tX] .normal ⟨e,dH⟩=some (dgR (fe (metH p) 3 0)):=by
 rw [Prg.e] at h1;simp [tX,dH];rw [aT];by_cases l0:p.Xn.length<=0
 ·rw [aJ (x:=(5,2,0,0)) (by omega) (by unfold metH;rw [Qk l0];rfl)];have hnil:p.Xn=[]:=Qg (by omega);simp [mT,h1,h2,hnil,jE,dgR,dgC]
 have k0:0<p.Xn.length:=by omega
 have hne:¬p.Xn=[]:=by intro h;rw [h] at k0;simp at k0
 by_cases a0:p.Xn[0].name=[105,110]
 rotate_left
 ·rw [aJ (x:=(5,2,0,0)) (by omega) (by unfold metH;rw [Qa k0,QA (by simp [sJ,Fld.eq_iff,a0])];rfl)];simp [mT,Fld.e,h1,h2,hne,k0,a0,jE,dgR,dgC]
 by_cases b0:p.Xn[0].Yc=8
 rotate_left
 ·rw [aJ (x:=(5,2,0,0)) (by omega) (by unfold metH;rw [Qa k0,QA (by simp [sJ,Fld.eq_iff,b0])];rfl)];simp [mT,Fld.e,h1,h2,hne,k0,a0,b0,jE,dgR,dgC]
 rw [bP (by omega) (by unfold metH;rw [Qa k0,a9 (by simp [sJ,Fld.eq_iff,a0,b0])])];simp [mT,Fld.e,h1,hne,k0,a0,b0,wr1];rw [aT];by_cases l1:p.Xn.length<=1
 ·rw [aJ (x:=(5,2,1,0)) (by omega) (by unfold metH;rw [Qk l1];rfl)];simp [h1,h2,l1,jE,dgR,dgC]
 have k1:1<p.Xn.length:=by omega
 by_cases a1:p.Xn[1].name=[111,117,116]
 rotate_left
 ·rw [aJ (x:=(5,2,1,0)) (by omega) (by unfold metH;rw [Qa k1,QA (by simp [sJ,Fld.eq_iff,a1])];rfl)];simp [Fld.e,h1,h2,k1,l1,a1,jE,dgR,dgC]
 by_cases b1:p.Xn[1].Yc=8
 rotate_left
 ·rw [aJ (x:=(5,2,1,0)) (by omega) (by unfold metH;rw [Qa k1,QA (by simp [sJ,Fld.eq_iff,b1])];rfl)];simp [Fld.e,h1,h2,k1,l1,a1,b1,jE,dgR,dgC]
 rw [bP (by omega) (by unfold metH;rw [Qa k1,a9 (by simp [sJ,Fld.eq_iff,a1,b1])])];simp [Fld.e,h1,k1,l1,a1,b1,wr2];rw [aT];by_cases l2:p.Xn.length<=2
 ·rw [aJ (x:=(5,2,2,0)) (by omega) (by unfold metH;rw [Qk l2];rfl)];simp [h1,h2,l2,jE,dgR,dgC]
 have k2:2<p.Xn.length:=by omega
 by_cases a2:p.Xn[2].name=[100,114,111,112]
 rotate_left
 ·rw [aJ (x:=(5,2,2,0)) (by omega) (by unfold metH;rw [Qa k2,QA (by simp [sJ,Fld.eq_iff,a2])];rfl)];simp [Fld.e,h1,h2,k2,l2,a2,jE,dgR,dgC]
 by_cases b2:p.Xn[2].Yc=1
 rotate_left
 ·rw [aJ (x:=(5,2,2,0)) (by omega) (by unfold metH;rw [Qa k2,QA (by simp [sJ,Fld.eq_iff,b2])];rfl)];simp [Fld.e,h1,h2,k2,l2,a2,b2,jE,dgR,dgC]
 rw [bP (by omega) (by unfold metH;rw [Qa k2,a9 (by simp [sJ,Fld.eq_iff,a2,b2])])];simp [Fld.e,h1,k2,l2,a2,b2,wr3];rw [aT,d6];simp [yN,h2,dgR,dgC]
theorem Et (p:Prg) (f:PrgS p):a8 Φ 50 [.agg (Prg.c p)]=some (dgR (metD p)):=by
 rw [aB rfl rfl,iw];by_cases z:12<p.Xn.length
 ·simp [KN,Prg.e,z,jE,dgR,dgC]
 rw [QA z];simp [KN,Prg.e,z];refine dC p.Xn.length (fun i e=>look 1 e=some (.iptr 9 [Prg.c p] 0 0)/\look 2 e=some (.ptr 0 4 0 0)/\look 3 e=some (a7 i))
  (fun i=>some (dgR ((fe (metG p) p.Xn.length i).or (fe (metH p) 3 0)))) ?_ ?_ 0 _ (Qc _) ?_
 ·rintro i e L hi hL ⟨h1,h2,h3⟩ ih;have hlen:=f.m;have hw:=aF i (by omega);have ef:=Bj p.Xn i hi f.m f.mn;rw [Prg.e] at h1;by_cases y:fldE p.Xn i p.Xn[i]=0
  ·rw [y] at ef;rw [bP hi (by simp [metG,hi,y])];simp [oN,h1,h3,hi,ef,hw];exact ih _ ⟨by simp [h1,Prg.e],by simp [h2],by simp⟩
  ·rw [aJ (x:=(fldE p.Xn i p.Xn[i],2,(i:Int),0)) hi (by simp [metG,hi,y])];simp [oN,h1,h2,h3,hi,ef,y,jE,dgR,dgC]
 ·rintro e L hL ⟨h1,h2,h3⟩;rw [d6];have hh:=Eu p;simp only [dH] at hh;rw [Prg.e] at h1;simp [oN,h1,h3,hL];apply hh
  ·simp [h1,Prg.e]
  ·simp [h2]
 ·simp [Prg.e]
theorem Mw (p:Prg) (f:PrgS p) (hc:(pre p.Ya).length<2^40 - 1):a8 Φ 54 [.agg (Prg.c p)]=some (dgR (floD p)):=by
 rw [aB rfl rfl];have e1:=xb p f;have e2:=Gb p hc;have e3:=wy p f;simp only [Prg.e,tup3] at e1 e2 e3;by_cases y1:(parE p).2.2=0
 rotate_left
 ·simp [C8,Prg.e,e1,y1,jE,floD,dgR,dgC]
 rw [y1] at e1;by_cases y2:(ctlE p).2=0
 rotate_left
 ·simp [C8,Prg.e,e1,y1,e2,y2,jE,floD,dgR,dgC]
 rw [y2] at e2;by_cases y3:(depE p).2=0
 rotate_left
 ·simp [C8,Prg.e,e1,y1,e2,y2,e3,y3,jE,floD,dgR,dgC]
 rw [y3] at e3;simp [C8,Prg.e,e1,y1,e2,y2,e3,y3,floD,dgR,dgC]
theorem Ez (p:Prg) (f:PrgS p):a8 Φ 51 [.agg (Prg.c p)]=some (dgR (regD p)):=by
 rw [aB rfl rfl,show regD p=fe (regG p) p.Xl.length 0 from rfl];simp [OO,Prg.e];refine dC p.Xl.length (fun i e=>look 1 e=some (.iptr 9 [Prg.c p] 0 0)/\look 2 e=some (.ptr 0 4 0 0)/\look 3 e=some (a7 i))
  (fun i=>some (dgR (fe (regG p) p.Xl.length i))) ?_ ?_ 0 _ (Qc _) ?_
 ·rintro i e L hi hL ⟨h1,h2,h3⟩ ih;have hlen:=f.r;have hw:=aF i (by omega);have hm:=Qd hi;have eh:=Gn p.Xl[i] (f.rn _ hm);simp only [Xg.e] at eh;rw [Prg.e] at h1;have bad:∀c:Int,c≠0->AD p i p.Xl[i]=c->fe (regG p) p.Xl.length i=some (c,3,(i:Int),0):=fun c h0 h=>aJ hi (by simp [regG,hi,h,h0])
  by_cases z1:regE p.Xl[i]=0
  rotate_left
  ·rw [bad _ z1 (by simp [AD,z1])];simp [mU,Xg.e,h1,h3,hi,eh];rw [aT];by_cases hi0:0<i<;>simp [dB,iL,h2,h3,z1,hi0,jE,dgR,dgC]
  generalize hX:some (dgR (fe (regG p) p.Xl.length i))=X;simp [mU,Xg.e,h1,h3,hi,eh,z1];refine (th (p.Xl.take i) (fun y=>decide (y.name=p.Xl[i].name)) (some (dgR (some (7,3,(i:Int),0)))) (some (dgR (fe (regG p) p.Xl.length (i+1))))
   (fun k b e H=>look 1 e=some (.iptr 9 [Prg.c p] 0 0)/\look 2 e=some (.ptr 0 4 0 0)/\look 3 e=some (a7 i)/\look 4 e=some (a7 (if b then 7 else 0))/\look 5 e=some (a7 k)/\H=dH) ?_ ?_ ?_ ?_ _ _ ?_).trans ?_
  ·rintro k e _ L' Y hk hL' ⟨h1,h2,h3,h4,h5,rfl⟩ hb ih';simp only [iF] at hk;have hk1:k<i:=by omega
   have hk2:k<p.Xl.length:=by omega
   have hw':=aF k (by omega);simp only [sL,decide_eq_true_eq] at hb;rw [Prg.e] at h1;simp at h4;simp [dB,Xg.e,h1,h3,h4,h5,hk1,hk2,hi,hb,hw'];exact ih' _ _ ⟨by simp [h1,Prg.e],by simp [h2],by simp [h3],by simp,by simp,rfl⟩
  ·rintro k e _ L' Y hk hL' ⟨h1,h2,h3,h4,h5,rfl⟩ hb ih';simp only [iF] at hk;have hk1:k<i:=by omega
   have hk2:k<p.Xl.length:=by omega
   have hw':=aF k (by omega);simp only [sL,decide_eq_false_iff_not] at hb;rw [Prg.e] at h1;simp at h4;simp [dB,Xg.e,h1,h3,h4,h5,hk1,hk2,hi,hb,hw'];exact ih' _ _ ⟨by simp [h1,Prg.e],by simp [h2],by simp [h3],by simp [h4],by simp,rfl⟩
  ·rintro k e _ L' hk hL' ⟨h1,h2,h3,h4,h5,rfl⟩;simp only [iF] at hk;simp at h4;by_cases hk1:k<i
   ·simp [dB,iL,h2,h3,h4,h5,hk1,hL',jE,dgR,dgC,dH]
   ·simp [dB,iL,h2,h3,h4,h5,hk1,hL',jE,dgR,dgC,dH]
  ·rintro e _ L' hL' ⟨h1,h2,h3,h4,h5,rfl⟩;have hmn:min i p.Xl.length=i:=by omega
   simp [hmn] at h4 h5;simp [dB,iL,tY,h3,h4,h5,hL',hw];exact ih _ ⟨by simp [h1],by simp [h2],by simp⟩
  ·simp [h1,h2,h3,Prg.e,dH]
  ·rw [<- hX];cases q:dupN Xg.name p.Xl i p.Xl[i] with
   | true=>
    rw [bad 7 (by decide) (by simp [AD,z1,q])];unfold dupN at q;rw [q];rfl
   | false=>
    rw [bP hi (by simp [regG,hi,AD,z1,q])];unfold dupN at q;rw [q];rfl
 ·rintro e L hL ⟨h1,h2,h3⟩;rw [d6];rw [Prg.e] at h1;simp [mU,tZ,h1,h2,h3,hL,dgR,dgC]
 ·simp [Prg.e]
theorem Bf (p:Prg) (f:PrgS p):a8 Φ 52 [.agg (Prg.c p)]=some (dgR (vX p)):=by
 rw [aB rfl rfl,show vX p=fe (acG p) p.Xx.length 0 from rfl];simp [OP,Prg.e];refine dC p.Xx.length (fun i e=>look 1 e=some (.iptr 9 [Prg.c p] 0 0)/\look 2 e=some (.ptr 0 4 0 0)/\look 3 e=some (a7 i))
  (fun i=>some (dgR (fe (acG p) p.Xx.length i))) ?_ ?_ 0 _ (Qc _) ?_
 ·rintro i e L hi hL ⟨h1,h2,h3⟩ ih;have hlen:=f.a;have hw:=aF i (by omega);have et:=wx p f i;simp only [Prg.e] at et;rw [Prg.e] at h1;by_cases y:(actE p i).2=0
  rotate_left
  ·rw [aJ (x:=((actE p i).2,4,(i:Int),(actE p i).1)) hi (by simp [acG,hi,y])];simp [mW,h1,h2,h3,hi,et,y,jE,dgR,dgC]
  rw [y] at et;generalize hX:some (dgR (fe (acG p) p.Xx.length i))=X;simp [mW,h1,h3,hi,et];refine (A4 (p.Xx.take i) (fun g=>decide (g.name=p.Xx[i].name)) (some (dgR (some (7,4,(i:Int),0)))) (some (dgR (fe (acG p) p.Xx.length (i+1))))
   (fun k e H=>look 1 e=some (.iptr 9 [Prg.c p] 0 0)/\look 2 e=some (.ptr 0 4 0 0)/\look 3 e=some (a7 i)/\look 6 e=some (a7 k)/\H=dH) ?_ ?_ ?_ _ _ ?_).trans ?_
  ·rintro k e _ L' hk hL' ⟨h1,h2,h3,h6,rfl⟩ hb;simp only [iF] at hk;have hk1:k<i:=by omega
   have hk2:k<p.Xx.length:=by omega
   simp only [sL,decide_eq_true_eq] at hb;rw [Prg.e] at h1;simp [mV,Action.e,h1,h2,h3,h6,hk1,hk2,hi,hb,jE,dgR,dgC,dH]
  ·rintro k e _ L' Y hk hL' ⟨h1,h2,h3,h6,rfl⟩ hb ih';simp only [iF] at hk;have hk1:k<i:=by omega
   have hk2:k<p.Xx.length:=by omega
   have hw':=aF k (by omega);simp only [sL,decide_eq_false_iff_not] at hb;rw [Prg.e] at h1;simp [mV,Action.e,h1,h3,h6,hk1,hk2,hi,hb,hw'];exact ih' _ _ ⟨by simp [h1,Prg.e],by simp [h2],by simp [h3],by simp,rfl⟩
  ·rintro e _ L' hL' ⟨h1,h2,h3,h6,rfl⟩;have hm:min i p.Xx.length=i:=by omega
   simp [hm] at h6;simp [mV,u5,h3,h6,hL',hw];exact ih _ ⟨by simp [h1],by simp [h2],by simp⟩
  ·simp [h1,h2,h3,Prg.e,dH]
  ·rw [<- hX];cases q:dupN Action.name p.Xx i p.Xx[i] with
   | true=>
    rw [aJ (x:=(7,4,(i:Int),0)) hi (by simp [acG,hi,y,q])];unfold dupN at q;rw [q];rfl
   | false=>
    rw [bP hi (by simp [acG,hi,y,q])];unfold dupN at q;rw [q];rfl
 ·rintro e L hL ⟨h1,h2,h3⟩;rw [d6];rw [Prg.e] at h1;simp [mW,u6,h1,h2,h3,hL,dgR,dgC]
 ·simp [Prg.e]
theorem Gr (p:Prg) (f:PrgS p) (hv:∀t∈p.Xm,∀v∈t.Yb.args,ok32 0 v):a8 Φ 53 [.agg (Prg.c p)]=some (dgR (tblD p)):=by
 rw [aB rfl rfl,show tblD p=fe (tbG p) p.Xm.length 0 from rfl];simp [OQ,Prg.e];refine dC p.Xm.length (fun i e=>look 1 e=some (.iptr 9 [Prg.c p] 0 0)/\look 2 e=some (.ptr 0 4 0 0)/\look 3 e=some (a7 i))
  (fun i=>some (dgR (fe (tbG p) p.Xm.length i))) ?_ ?_ 0 _ (Qc _) ?_
 ·rintro i e L hi hL ⟨h1,h2,h3⟩ ih;have hlen:=f.t;have hw:=aF i (by omega);have et:=gx p f hv i;simp only [Prg.e] at et;rw [Prg.e] at h1;by_cases y:(tblE p i).2=0
  rotate_left
  ·rw [aJ (x:=((tblE p i).2,5,(i:Int),(tblE p i).1)) hi (by simp [tbG,hi,y])];simp [mY,h1,h2,h3,hi,et,y,jE,dgR,dgC]
  rw [y] at et;generalize hX:some (dgR (fe (tbG p) p.Xm.length i))=X;simp [mY,h1,h3,hi,et];refine (A4 (p.Xm.take i) (fun g=>decide (g.name=p.Xm[i].name)) (some (dgR (some (7,5,(i:Int),0)))) (some (dgR (fe (tbG p) p.Xm.length (i+1))))
   (fun k e H=>look 1 e=some (.iptr 9 [Prg.c p] 0 0)/\look 2 e=some (.ptr 0 4 0 0)/\look 3 e=some (a7 i)/\look 6 e=some (a7 k)/\H=dH) ?_ ?_ ?_ _ _ ?_).trans ?_
  ·rintro k e _ L' hk hL' ⟨h1,h2,h3,h6,rfl⟩ hb;simp only [iF] at hk;have hk1:k<i:=by omega
   have hk2:k<p.Xm.length:=by omega
   simp only [sL,decide_eq_true_eq] at hb;rw [Prg.e] at h1;simp [mX,Tbl.e,h1,h2,h3,h6,hk1,hk2,hi,hb,jE,dgR,dgC,dH]
  ·rintro k e _ L' Y hk hL' ⟨h1,h2,h3,h6,rfl⟩ hb ih';simp only [iF] at hk;have hk1:k<i:=by omega
   have hk2:k<p.Xm.length:=by omega
   have hw':=aF k (by omega);simp only [sL,decide_eq_false_iff_not] at hb;rw [Prg.e] at h1;simp [mX,Tbl.e,h1,h3,h6,hk1,hk2,hi,hb,hw'];exact ih' _ _ ⟨by simp [h1,Prg.e],by simp [h2],by simp [h3],by simp,rfl⟩
  ·rintro e _ L' hL' ⟨h1,h2,h3,h6,rfl⟩;have hm:min i p.Xm.length=i:=by omega
   simp [hm] at h6;simp [mX,u9,h3,h6,hL',hw];exact ih _ ⟨by simp [h1],by simp [h2],by simp⟩
  ·simp [h1,h2,h3,Prg.e,dH]
  ·rw [<- hX];cases q:dupN Tbl.name p.Xm i p.Xm[i] with
   | true=>
    rw [aJ (x:=(7,5,(i:Int),0)) hi (by simp [tbG,hi,y,q])];unfold dupN at q;rw [q];rfl
   | false=>
    rw [bP hi (by simp [tbG,hi,y,q])];unfold dupN at q;rw [q];rfl
 ·rintro e L hL ⟨h1,h2,h3⟩;rw [d6];rw [Prg.e] at h1;simp [mY,uA,h1,h2,h3,hL,dgR,dgC]
 ·simp [Prg.e]
theorem DC {G:Type} {f:Nat->Option G} {N:Nat} {x:G}:∀{i},fe f N i=some x->∃k,k<N/\f k=some x:=by
 have key:∀n i,feF f n i=some x->∃k,k<i+n/\f k=some x:=by
  intro n
  induction n with
  | zero=>intro i h;simp [feF] at h
  | succ n ih=>
   intro i h;simp only [feF] at h;cases q:f i with
   | some y=>rw [q] at h;cases h;exact ⟨i,by omega,q⟩
   | none=>
    rw [q] at h;obtain ⟨k,h1,h2⟩:=ih _ h;exact ⟨k,by omega,h2⟩
 intro i h;unfold fe at h;obtain ⟨k,h1,h2⟩:=key _ _ h;by_cases hi:i<=N
 ·exact ⟨k,by omega,h2⟩
 ·rw [show N - i=0 by omega] at h;simp [feF] at h
theorem Kx {p:Prg} {d:Dg} (h:limD p=some d):d.1≠0:=by
 unfold limD at h
 repeat' split at h
 all_goals first
  | (cases h;decide)
  | (cases h)
theorem Jh {p:Prg} {d:Dg} (h:hdrD p=some d):d.1≠0:=by
 obtain ⟨k,hk,h⟩:=DC (f:=hdrG p) h;rw [hdrG,Qa hk,dI] at h;split at h
 ·cases h
 ·rename_i z;cases h;exact z
theorem La {p:Prg} {d:Dg} (h:metD p=some d):d.1≠0:=by
 rw [iw] at h;split at h
 ·cases h;decide
 ·cases q:fe (metG p) p.Xn.length 0 with
  | some x=>
   rw [q] at h;cases h;obtain ⟨k,hk,h⟩:=DC q;rw [metG,Qa hk,dI] at h;split at h
   ·cases h
   ·rename_i z;cases h;exact z
  | none=>
   rw [q,Option.none_or] at h;obtain ⟨k,hk,h⟩:=DC h;unfold metH at h;split at h
   ·cases h
   ·cases h;simp
theorem Mr {p:Prg} {d:Dg} (h:regD p=some d):d.1≠0:=by
 obtain ⟨k,hk,h⟩:=DC (f:=regG p) h;rw [regG,Qa hk,dI] at h;split at h
 ·cases h
 ·rename_i z;cases h;exact z
theorem Cz {p:Prg} {d:Dg} (h:vX p=some d):d.1≠0:=by
 obtain ⟨k,hk,h⟩:=DC (f:=acG p) h;rw [acG,Qa hk,dI] at h;split at h
 ·rename_i z;cases h;exact z
 ·split at h
  ·cases h;simp
  ·cases h
theorem Nz {p:Prg} {d:Dg} (h:tblD p=some d):d.1≠0:=by
 obtain ⟨k,hk,h⟩:=DC (f:=tbG p) h;rw [tbG,Qa hk,dI] at h;split at h
 ·rename_i z;cases h;exact z
 ·split at h
  ·cases h;simp
  ·cases h
theorem nu (p:Prg) (f:PrgS p) (hv:∀t∈p.Xm,∀v∈t.Yb.args,ok32 0 v) (hc:(pre p.Ya).length<2^40 - 1):a8 Φ 21 [.agg (Prg.c p)]=some (.val (.agg (dgC (prgD p)))):=by
 rw [aB rfl rfl];have h1:=My p f;have h2:=Er p f;have h3:=Et p f;have h4:=Ez p f;have h5:=Bf p f;have h6:=Gr p f hv;have h7:=Mw p f hc;simp only [Prg.e] at h1 h2 h3 h4 h5 h6 h7;unfold prgD;cases q1:limD p with
 | some d=>have n:=Kx q1;rw [q1] at h1;simp [tP,Prg.e,h1,dgR,dgC,n]
 | none=>
 rw [q1] at h1;cases q2:hdrD p with
 | some d=>have n:=Jh q2;rw [q2] at h2;simp [tP,Prg.e,h1,h2,dgR,dgC,n]
 | none=>
 rw [q2] at h2;cases q3:metD p with
 | some d=>have n:=La q3;rw [q3] at h3;simp [tP,Prg.e,h1,h2,h3,dgR,dgC,n]
 | none=>
 rw [q3] at h3;cases q4:regD p with
 | some d=>have n:=Mr q4;rw [q4] at h4;simp [tP,Prg.e,h1,h2,h3,h4,dgR,dgC,n]
 | none=>
 rw [q4] at h4;cases q5:vX p with
 | some d=>have n:=Cz q5;rw [q5] at h5;simp [tP,Prg.e,h1,h2,h3,h4,h5,dgR,dgC,n]
 | none=>
 rw [q5] at h5;cases q6:tblD p with
 | some d=>have n:=Nz q6;rw [q6] at h6;simp [tP,Prg.e,h1,h2,h3,h4,h5,h6,dgR,dgC,n]
 | none=>
 rw [q6] at h6;cases q7:floD p with
 | some d=>rw [q7] at h7;simp [tP,Prg.e,h1,h2,h3,h4,h5,h6,h7,dgR,dgC]
 | none=>rw [q7] at h7;simp [tP,Prg.e,h1,h2,h3,h4,h5,h6,h7,dgR,dgC]
def oA {G:Type} [DecidableEq G] (l m:List G) (i:Nat):Bool:=decide (l.drop i=m.drop i)
theorem EK {G:Type} [DecidableEq G] {l m:List G} {i:Nat} (h1:i<l.length) (h2:i<m.length) (h:l[i]=m[i]):oA l m i=oA l m (i+1):=by
 unfold oA;rw [decide_eq_decide,ph h1 h2];simp [h]
theorem C9 {G:Type} [DecidableEq G] {l m:List G} {i:Nat} (h1:i<l.length) (h2:i<m.length) (h:l[i]≠m[i]):oA l m i=false:=by
 unfold oA;rw [decide_eq_false_iff_not,ph h1 h2];simp [h]
theorem EJ {G:Type} [DecidableEq G] {l m:List G} (h:l.length=m.length):oA l m l.length=true:=by
 simp [oA,h]
theorem U6 (k1 k2:List Xh) (p1 p2:Int) (r1 r2:List AV) (hb:k1.length<2^40):
   a8 Φ 165 [.agg (.slice 2 (k1.map Xh.c):: a7 p1::r1),.agg (.slice 2 (k2.map Xh.c):: a7 p2::r2)]=some (.val (.bool (decide (k1=k2/\p1=p2)))):=by
  rw [aB rfl rfl];by_cases q1:k1.length=k2.length
  rotate_left
  · have:k1≠k2:=fun h=>q1 (by rw [h])
    simp [wQ,q1,this]
  by_cases q2:p1=p2
  rotate_left
  · simp [wQ,q1,q2]
  subst q2;simp [wQ,q1];refine (dC k1.length (fun i e=>look 2 e=some (AV.ptr 0 (r1.length+1+1) 0 0)/\look 3 e=some (AV.ptr 1 (r2.length+1+1) 0 0)/\look 5 e=some (a7 i))
    (fun i=>some (Rt.val (AV.bool (oA k1 k2 i)))) ?_ ?_ 0 _ (Qc _) ?_).trans (by simp [oA])
  · rintro i e L hi hL ⟨h2,h3,h5⟩ ih
    have hi2:i<k2.length:=by omega
    have hw:=aF i (by omega);by_cases c:k1[i]=k2[i]
    · rw [EK hi hi2 c]
      simp [jX,Xh.c,hi,hi2,h2,h3,h5,hw,c];exact ih _ ⟨by simp [h2],by simp [h3],by simp⟩
    · rw [C9 hi hi2 c]
      have c':(decide (k1[i].value=k2[i].value)&&decide (k1[i].Yd=k2[i].Yd))=false:=by
        simp [Xh.ext_iff] at c ⊢;exact c
      simp [jX,Xh.c,hi,hi2,h2,h3,h5,c']
  · rintro e L hL ⟨h2,h3,h5⟩
    rw [EJ q1];simp [jX,vC, *]
  · simp
theorem na (a1 a2:Int) (l1 l2:List Int) (hb:l1.length<2^40):
   a8 Φ 44 [.agg [a7 a1,.slice 1 (l1.map c32)],.agg [a7 a2,.slice 1 (l2.map c32)]]=some (.val (.bool (decide (a1=a2/\l1=l2)))):=by
  rw [aB rfl rfl];by_cases q2:a1=a2
  rotate_left
  · simp [E7,q2]
  subst q2;by_cases q1:l1.length=l2.length
  rotate_left
  · have:l1≠l2:=fun h=>q1 (by rw [h])
    simp [E7,q1,this]
  simp [E7,q1];refine (dC l1.length (fun i e=>look 2 e=some (AV.ptr 0 2 0 0)/\look 3 e=some (AV.ptr 1 2 0 0)/\look 5 e=some (a7 i))
    (fun i=>some (Rt.val (AV.bool (oA l1 l2 i)))) ?_ ?_ 0 _ (Qc _) ?_).trans (by simp [oA])
  · rintro i e L hi hL ⟨h2,h3,h5⟩ ih
    have hi2:i<l2.length:=by omega
    have hw:=aF i (by omega);by_cases c:l1[i]=l2[i]
    · rw [EK hi hi2 c]
      simp [mN,c32,hi,hi2,h2,h3,h5,hw,c];exact ih _ ⟨by simp [h2],by simp [h3],by simp⟩
    · rw [C9 hi hi2 c]
      simp [mN,c32,hi,hi2,h2,h3,h5,c]
  · rintro e L hL ⟨h2,h3,h5⟩
    rw [EJ q1];simp [mN,tV, *]
  · simp
theorem Cx (k1 k2:List Xh) (p1 p2:Int) (a1 a2:Int) (l1 l2:List Int) (hb:k1.length<2^40) (hb':l1.length<2^40):
   a8 Φ 95 [.agg [.slice 2 (k1.map Xh.c),a7 p1,a7 a1,.slice 1 (l1.map c32)],.agg [.slice 2 (k2.map Xh.c),a7 p2,a7 a2,.slice 1 (l2.map c32)]]=some (.val (.bool (decide (k1=k2/\p1=p2/\a1=a2/\l1=l2)))):=by
  rw [aB rfl rfl];by_cases q1:k1=k2
  · by_cases q2:p1=p2
    · subst q1
      simp [EA,U6,na,hb,hb',q2]
    · subst q1
      simp [EA,U6,hb,q2]
  · simp [EA,U6,hb,q1]
theorem XC (k1 k2:List Xh) (p1 p2:Int) (r1 r2:List AV) (hb:k1.length<2^40):
   a8 Φ 77 [.agg (.slice 2 (k1.map Xh.c):: a7 p1::r1),.agg (.slice 2 (k2.map Xh.c):: a7 p2::r2)]=some (.val (.bool (decide (k1=k2/\p1=p2)))):=by
  rw [aB rfl rfl];by_cases q2:p1=p2
  rotate_left
  · simp [E9,q2]
  by_cases q1:k1.length=k2.length
  rotate_left
  · have:k1≠k2:=fun h=>q1 (by rw [h])
    simp [E9,q1,this,q2]
  subst q2;simp [E9,q1];refine (JK k1.length (fun i e h=>look 2 e=some (AV.ptr 0 (r1.length+1+1) 0 0)/\look 3 e=some (AV.ptr 1 (r2.length+1+1) 0 0)/\look 22 e=some (.slice 2 (k1.map Xh.c))/\look 23 e=some (a7 k2.length)/\look 24 e=some (a7 i)/\
      HP [(0,AO.row (r1.length+1+1) [.slice 2 (k1.map Xh.c):: a7 p1::r1]),(1,AO.row (r2.length+1+1) [.slice 2 (k2.map Xh.c):: a7 p1::r2])] 2 h)
    (fun i=>some (Rt.val (AV.bool (oA k1 k2 i)))) ?_ ?_ 0 _ _ (Qc _) ?_).trans (by simp [oA])
  · rintro i e _ L hi hL ⟨h2,h3,h22,h23,h24,T,n,hT,rfl⟩ ih
    have hi2:i<k2.length:=by omega
    have hw:=aF i (by omega);have hT':=hT (n+2) (Qb _);by_cases c:k1[i]=k2[i]
    · rw [EK hi hi2 c]
      simp [oQ,Xh.c,hi,hi2,h3,h22,h23,h24,hw,c,hT'];exact ih _ _ ⟨by simp [h2],by simp [h3],by simp [h22],by simp [h23],by simp,HP.next hT⟩
    · rw [C9 hi hi2 c]
      have c':(decide (k1[i].value=k2[i].value)&&decide (k1[i].Yd=k2[i].Yd))=false:=by
        simp [Xh.ext_iff] at c ⊢;exact c
      simp [oQ,Xh.c,hi,hi2,h3,h22,h23,h24,c',hT']
  · rintro e _ L hL ⟨h2,h3,h22,h23,h24,T,n,hT,rfl⟩
    rw [EJ q1];simp [oQ,yO, *]
  · simp
    exact HP.mk
theorem Entry.eq_iff (x y:Entry):x=y↔x.keys=y.keys/\x.Xs=y.Xs/\x.call.Xy=y.call.Xy/\x.call.args=y.call.args:=by
 constructor
 ·rintro rfl;simp
 ·rintro ⟨a,b,c,d⟩;obtain ⟨k,p,u,v⟩:=x;obtain ⟨k',p',u',v'⟩:=y;simp only at a b c d;subst a b c d;rfl
def Entry.sm (x:Entry):Prop:=x.keys.length<2^40/\x.call.args.length<2^40
theorem Bd (x y:Entry) (hb:x.sm):a8 Φ 95 [.agg (Entry.c x),.agg (Entry.c y)]=some (.val (.bool (decide (x=y)))):=by
 rw [decide_eq_decide.2 (Entry.eq_iff x y)];exact Cx x.keys y.keys x.Xs y.Xs x.call.Xy y.call.Xy x.call.args y.call.args hb.1 hb.2
theorem Rw.ce (x:Rw):Rw.c x=[a7 x.id,.slice 2 (x.entry.keys.map Xh.c),a7 x.entry.Xs,a7 x.entry.call.Xy,.slice 1 (x.entry.call.args.map c32)]:=by simp [Rw.c]
theorem cSe {G:Type} (z:Nat) (f:G->List AV) (l:List G):cS z f l=[.slice z (l.map f)]:=by simp [cS]
theorem Xb.ce (x:Xb):Xb.c x=[a7 x.Xy,.slice 1 (x.args.map c32)]:=by simp [Xb.c]
theorem Entry.ce (x:Entry):Entry.c x=[.slice 2 (x.keys.map Xh.c),a7 x.Xs,a7 x.call.Xy,.slice 1 (x.call.args.map c32)]:=by simp [Entry.c]
theorem Xe.ce (x:Xe):Xe.c x=[.slice 1 (x.rows.map (cS 5 Rw.c)),.slice 1 (x.Xq.map cI),.slice 2 (x.Xp.map Xb.c),.slice 1 (x.Xl.map (cS 1 c32))]:=by simp [Xe.c]
theorem cIe (x:Int):cI x=[a7 x]:=by simp [cI]
theorem c32e (x:Int):c32 x=[.int .u32 x]:=by simp [c32]
theorem Rw.eq_iff (x y:Rw):x=y↔x.id=y.id/\x.entry=y.entry:=by
 constructor
 ·rintro rfl;simp
 ·rintro ⟨a,b⟩;obtain ⟨u,v⟩:=x;obtain ⟨u',v'⟩:=y;simp only at a b;subst a b;rfl
theorem Xb.eq_iff (x y:Xb):x=y↔x.Xy=y.Xy/\x.args=y.args:=by
 constructor
 ·rintro rfl;simp
 ·rintro ⟨a,b⟩;obtain ⟨u,v⟩:=x;obtain ⟨u',v'⟩:=y;simp only at a b;subst a b;rfl
structure CfgS (a:Xe):Prop where
 rl:a.rows.length<2^40
 rs:∀l∈a.rows,l.length<2^40/\∀r∈l,r.entry.sm
 nl:a.Xq.length<2^40
 dl:a.Xp.length<2^40
 ds:∀d∈a.Xp,d.args.length<2^40
 gl:a.Xl.length<2^40
 gs:∀l∈a.Xl,l.length<2^40
theorem Xe.eq_iff (a b:Xe):a=b↔a.rows=b.rows/\a.Xq=b.Xq/\a.Xp=b.Xp/\a.Xl=b.Xl:=by
 constructor
 ·rintro rfl;simp
 ·rintro ⟨h1,h2,h3,h4⟩;obtain ⟨x,y,z,u⟩:=a;obtain ⟨x',y',z',u'⟩:=b;simp only at h1 h2 h3 h4;subst h1 h2 h3 h4;rfl
theorem Fp (l m:List Int) (hb:l.length<2^40):a8 Φ 41 [.slice 1 (l.map cI),.slice 1 (m.map cI)]=some (.val (.bool (decide (l=m)))):=by
 rw [aB rfl rfl];by_cases q1:l.length=m.length
 rotate_left
 ·have:l≠m:=fun h=>q1 (by rw [h])
  simp [KK,q1,this]
 simp [KK,q1];refine (dC l.length (fun i e=>look 0 e=some (.slice 1 (l.map cI))/\look 1 e=some (.slice 1 (m.map cI))/\look 5 e=some (a7 i))
  (fun i=>some (Rt.val (AV.bool (oA l m i)))) ?_ ?_ 0 _ (Qc _) ?_).trans (by simp [oA])
 ·rintro i e L hi hL ⟨h0,h1,h5⟩ ih;have hi2:i<m.length:=by omega
  have hw:=aF i (by omega);by_cases c:l[i]=m[i]
  ·rw [EK hi hi2 c];simp [mL,cIe,hi,hi2,h0,h1,h5,hw,c];exact ih _ ⟨by simp [h0],by simp [h1],by simp⟩
  ·rw [C9 hi hi2 c];simp [mL,cIe,hi,hi2,h0,h1,h5,c]
 ·rintro e L hL ⟨h0,h1,h5⟩;rw [EJ q1];simp [mL,tS, *]
 ·simp
theorem Ft (l m:List Int) (hb:l.length<2^40):a8 Φ 94 [.slice 1 (l.map c32),.slice 1 (m.map c32)]=some (.val (.bool (decide (l=m)))):=by
 rw [aB rfl rfl];by_cases q1:l.length=m.length
 rotate_left
 ·have:l≠m:=fun h=>q1 (by rw [h])
  simp [KT,q1,this]
 simp [KT,q1];refine (dC l.length (fun i e=>look 0 e=some (.slice 1 (l.map c32))/\look 1 e=some (.slice 1 (m.map c32))/\look 5 e=some (a7 i))
  (fun i=>some (Rt.val (AV.bool (oA l m i)))) ?_ ?_ 0 _ (Qc _) ?_).trans (by simp [oA])
 ·rintro i e L hi hL ⟨h0,h1,h5⟩ ih;have hi2:i<m.length:=by omega
  have hw:=aF i (by omega);by_cases c:l[i]=m[i]
  ·rw [EK hi hi2 c];simp [nA,c32e,hi,hi2,h0,h1,h5,hw,c];exact ih _ ⟨by simp [h0],by simp [h1],by simp⟩
  ·rw [C9 hi hi2 c];simp [nA,c32e,hi,hi2,h0,h1,h5,c]
 ·rintro e L hL ⟨h0,h1,h5⟩;rw [EJ q1];simp [nA,uG, *]
 ·simp
theorem Fq (l m:List (List Int)) (hb:l.length<2^40) (hf:∀x∈l,x.length<2^40):a8 Φ 42 [.slice 1 (l.map (cS 1 c32)),.slice 1 (m.map (cS 1 c32))]=some (.val (.bool (decide (l=m)))):=by
 rw [aB rfl rfl];by_cases q1:l.length=m.length
 rotate_left
 ·have:l≠m:=fun h=>q1 (by rw [h])
  simp [KL,q1,this]
 simp [KL,q1];refine (dC l.length (fun i e=>look 0 e=some (.slice 1 (l.map (cS 1 c32)))/\look 1 e=some (.slice 1 (m.map (cS 1 c32)))/\look 5 e=some (a7 i))
  (fun i=>some (Rt.val (AV.bool (oA l m i)))) ?_ ?_ 0 _ (Qc _) ?_).trans (by simp [oA])
 ·rintro i e L hi hL ⟨h0,h1,h5⟩ ih;have hi2:i<m.length:=by omega
  have hw:=aF i (by omega);have hee:=Ft l[i] m[i] (hf _ (Qd hi));by_cases c:l[i]=m[i]
  ·rw [decide_eq_true c] at hee;rw [EK hi hi2 c];simp [mM,cSe,hi,hi2,h0,h1,h5,hw,hee];refine (ih _ ⟨by simp [h0],by simp [h1],by simp⟩).trans (by simp)
  ·rw [decide_eq_false c] at hee;rw [C9 hi hi2 c];simp [mM,cSe,hi,hi2,h0,h1,h5,hee]
 ·rintro e L hL ⟨h0,h1,h5⟩;rw [EJ q1];simp [mM,tT, *]
 ·simp
theorem Fs (l m:List Rw) (hb:l.length<2^40) (hs:∀r∈l,r.entry.sm):a8 Φ 43 [.slice 5 (l.map Rw.c),.slice 5 (m.map Rw.c)]=some (.val (.bool (decide (l=m)))):=by
 rw [aB rfl rfl];by_cases q1:l.length=m.length
 rotate_left
 ·have:l≠m:=fun h=>q1 (by rw [h])
  simp [KM,q1,this]
 simp [KM,q1];refine (dC l.length (fun i e=>look 0 e=some (.slice 5 (l.map Rw.c))/\look 1 e=some (.slice 5 (m.map Rw.c))/\look 5 e=some (a7 i))
  (fun i=>some (Rt.val (AV.bool (oA l m i)))) ?_ ?_ 0 _ (Qc _) ?_).trans (by simp [oA])
 ·rintro i e L hi hL ⟨h0,h1,h5⟩ ih;have hi2:i<m.length:=by omega
  have hw:=aF i (by omega);have hee:=Bd l[i].entry m[i].entry (hs _ (Qd hi));simp only [Entry.ce] at hee;by_cases c1:l[i].id=m[i].id
  rotate_left
  ·rw [C9 hi hi2 (fun h=>c1 (by rw [h]))];simp [eW,Rw.ce,hi,hi2,h0,h1,h5,c1]
  by_cases c2:l[i].entry.Xs=m[i].entry.Xs
  rotate_left
  ·rw [C9 hi hi2 (fun h=>c2 (by rw [h]))];simp [eW,Rw.ce,hi,hi2,h0,h1,h5,c1,c2]
  by_cases c:l[i].entry=m[i].entry
  ·rw [decide_eq_true c,c2] at hee;rw [EK hi hi2 ((Rw.eq_iff _ _).2 ⟨c1,c⟩)];simp [eW,Rw.ce,hi,hi2,h0,h1,h5,hw,c1,c2,hee];refine (ih _ ⟨by simp [h0],by simp [h1],by simp⟩).trans (by simp)
  ·rw [decide_eq_false c,c2] at hee;rw [C9 hi hi2 (fun h=>c (by rw [h]))];simp [eW,Rw.ce,hi,hi2,h0,h1,h5,c1,c2,hee]
 ·rintro e L hL ⟨h0,h1,h5⟩;rw [EJ q1];simp [eW,tU, *]
 ·simp
theorem Ad (x y:Xb) (h:x.args.length<2^40):a8 Φ 44 [.agg (Xb.c x),.agg (Xb.c y)]=some (.val (.bool (decide (x=y)))):=by
 rw [decide_eq_decide.2 (Xb.eq_iff x y)];exact na x.Xy y.Xy x.args y.args h
theorem ZA (a b:Xe) (f:CfgS a):a8 Φ 16 [.agg (Xe.c a),.agg (Xe.c b)]=some (.val (.bool (decide (a=b)))):=by
 have ee:decide (a=b)=decide (a.rows=b.rows/\a.Xq=b.Xq/\a.Xp=b.Xp/\a.Xl=b.Xl):=decide_eq_decide.2 (Xe.eq_iff a b);rw [ee,aB rfl rfl];have g2:=Fp a.Xq b.Xq f.nl;have g4:=Fq a.Xl b.Xl f.gl f.gs;by_cases q1:a.rows.length=b.rows.length
 rotate_left
 ·have:a.rows≠b.rows:=fun h=>q1 (by rw [h])
  simp [zD,Xe.ce,q1,this]
 by_cases q2:a.Xq=b.Xq
 rotate_left
 ·simp [zD,Xe.ce,q1,q2,g2]
 by_cases q3:a.Xp.length=b.Xp.length
 rotate_left
 ·have:a.Xp≠b.Xp:=fun h=>q3 (by rw [h])
  rw [q2] at g2;simp [zD,Xe.ce,q1,q2,g2,q3,this]
 by_cases q4:a.Xl=b.Xl
 rotate_left
 ·rw [q2] at g2;simp [zD,Xe.ce,q1,q2,q3,g2,g4,q4]
 rw [q2] at g2;rw [q4] at g4;simp [zD,Xe.ce,q1,q2,q3,q4,g2,g4];refine (dC a.rows.length (fun i e=>look 2 e=some (.ptr 0 4 0 0)/\look 3 e=some (.ptr 1 4 0 0)/\look 5 e=some (a7 i))
  (fun i=>some (Rt.val (AV.bool (oA a.rows b.rows i&&decide (a.Xp=b.Xp))))) ?_ ?_ 0 _ (Qc _) ?_).trans (by simp [oA])
 ·rintro i e L hi hL ⟨h2,h3,h5⟩ ih;have hi2:i<b.rows.length:=by omega
  have hw:IntKind.wrap .i64 ((i:Int)+1)=((i+1:Nat):Int):=aQ (by omega) (by have:=f.rl;omega);obtain ⟨u1,u2⟩:=f.rs _ (Qd hi);have hee:=Fs a.rows[i] b.rows[i] u1 u2;by_cases c:a.rows[i]=b.rows[i]
  ·rw [decide_eq_true c] at hee;rw [EK hi hi2 c];simp [jY,cSe,hi,hi2,h2,h3,h5,hee,hw];refine (ih _ ⟨by simp [h2],by simp [h3],by simp⟩).trans (by simp)
  ·rw [decide_eq_false c] at hee;rw [C9 hi hi2 c];simp [jY,cSe,hi,hi2,h2,h3,h5,hee]
 ·rintro e L hL ⟨h2,h3,h5⟩;rw [EJ q1];simp [jY,tK,h2,h5,hL];refine (dC a.Xp.length (fun i e=>look 2 e=some (.ptr 0 4 0 0)/\look 3 e=some (.ptr 1 4 0 0)/\look 6 e=some (a7 i))
   (fun i=>some (Rt.val (AV.bool (oA a.Xp b.Xp i)))) ?_ ?_ 0 _ (Qc _) ?_).trans (by simp [oA])
  ·rintro i e L' hi hL' ⟨h2,h3,h6⟩ ih;have hi2:i<b.Xp.length:=by omega
   have hw:IntKind.wrap .i64 ((i:Int)+1)=((i+1:Nat):Int):=aQ (by omega) (by have:=f.dl;omega);have hee:=Ad a.Xp[i] b.Xp[i] (f.ds _ (Qd hi));simp only [Xb.ce] at hee;by_cases c:a.Xp[i]=b.Xp[i]
   ·rw [decide_eq_true c] at hee;rw [EK hi hi2 c];simp [jZ,Xb.ce,hi,hi2,h2,h3,h6,hee,hw];refine (ih _ ⟨by simp [h2],by simp [h3],by simp⟩).trans (by simp)
   ·rw [decide_eq_false c] at hee;rw [C9 hi hi2 c];simp [jZ,Xb.ce,hi,hi2,h2,h3,h6,hee]
  ·rintro e L' hL' ⟨h2,h3,h6⟩;rw [EJ q3];simp [jZ,tJ,h2,h6,hL']
  ·simp [h2,h3]
 ·simp
theorem Action.ce (x:Action):Action.c x=[.str x.name,.slice 2 (x.params.map Fld.c),.slice 7 (x.body.map Xf.c)]:=by simp [Action.c]
theorem Xi.ce (x:Xi):Xi.c x=[.str x.name,.slice 2 (x.Xz.map Fld.c)]:=by simp [Xi.c]
theorem Xg.ce (x:Xg):Xg.c x=[.str x.name,a7 x.Yc,a7 x.size]:=by simp [Xg.c]
theorem Xf.ce (x:Xf):Xf.c x=[a7 x.kind,a7 x.dst.header,a7 x.dst.field,a7 x.Ye,a7 x.header,.slice 3 (x.index.map Xd.c),.slice 3 (x.value.map Xd.c)]:=by simp [Xf.c]
theorem Tbl.ce (x:Tbl):Tbl.c x=[.str x.name,.slice 3 (x.keys.map Xk.c),.slice 1 (x.Xx.map cI),a7 x.Yb.Xy,.slice 1 (x.Yb.args.map c32),a7 x.size]:=by simp [Tbl.c]
theorem Xc.ce (x:Xc):Xc.c x=[.str x.name,.slice 1 (x.extract.map cI),.bool x.select,a7 x.on.header,a7 x.on.field,.slice 3 (x.cases.map Xj.c),a7 x.Yb]:=by simp [Xc.c]
theorem Xa.ce (k t:Int) (c:List Xd) (a b:List Xa):Xa.c (.mk k t c a b)=[a7 k,a7 t,.slice 3 (c.map Xd.c),.slice 5 (a.map Xa.c),.slice 5 (b.map Xa.c)]:=by simp [Xa.c,Xa.cs_eq]
theorem Prg.ce (x:Prg):Prg.c x=[.str x.name,.slice 2 (x.Xo.map Xi.c),.slice 2 (x.Xn.map Fld.c),.slice 3 (x.Xl.map Xg.c),.slice 3 (x.Xx.map Action.c),.slice 6 (x.Xm.map Tbl.c),.slice 7 (x.Xw.map Xc.c),.slice 5 (x.Ya.map Xa.c),.slice 1 (x.Xr.map cI)]:=by simp [Prg.c]
def hp0 (p:Prg):AH:=⟨[(0,.row 9 [(uO p [])])],1⟩
structure PrgB (p:Prg):Prop where
 h:p.Xo.length<2^40
 r:p.Xl.length<2^40
 a:p.Xx.length<2^40
 b:∀x∈p.Xx,x.body.length<2^40
 t:p.Xm.length<2^40
 s:p.Xw.length<2^40
 c:p.Ya.length<2^40
 co:∀x∈p.Ya,Xa.Ok oU x
def hp1 (p:Prg) (c:Xe):AH:=⟨[(0,.row 9 [(uO p [])]),(1,.row 4 [[.slice 1 (c.rows.map (cS 5 Rw.c)),.slice 1 (c.Xq.map cI),.slice 2 (c.Xp.map Xb.c),.slice 1 (c.Xl.map (cS 1 c32))]])],2⟩
def tOk (p:Prg) (t:Int):Bool:=decide ((tblE p t).2=0)
theorem keyV {p:Prg} {x:Tbl} (h:keyE p x=none):∀k∈x.keys,k.kind=1\/k.kind=2\/k.kind=3:=by
 intro k hk;obtain ⟨i,hi,rfl⟩:=List.getElem_of_mem hk;have:=(fe_all.1 h) i hi;simp [hi] at this;split at this
 ·cases this
 ·split at this
  ·assumption
  ·cases this
structure TOk (p:Prg) (k:Nat) (hk:k<p.Xm.length):Prop where
 keys:p.Xm[k].keys.length<=6
 acts:p.Xm[k].Xx.length<=16
 kinds:∀x∈p.Xm[k].keys,x.kind=1\/x.kind=2\/x.kind=3
 size:1<=p.Xm[k].size/\p.Xm[k].size<=256
theorem JY {p:Prg} {t:Int} (h:tOk p t=true):∃(k:Nat) (hk:k<p.Xm.length),t=k/\TOk p k hk:=by
 simp only [tOk,decide_eq_true_eq] at h;by_cases i0:t<0
 ·simp [tblE,cY i0] at h
 by_cases i1:(p.Xm.length:Int)<=t
 ·simp [tblE,cW i1] at h
 obtain ⟨k,rfl⟩:∃k:Nat,t=k:=⟨t.toNat,by omega⟩;have hk:k<p.Xm.length:=by omega
 refine ⟨k,hk,rfl,?_⟩;unfold tblE at h;rw [oV,Qa hk] at h;dsimp only at h;by_cases z0:idS p.Xm[k].name=false
 ·rw [a9 z0] at h;cases h
 rw [QA z0] at h;by_cases z1:6<p.Xm[k].keys.length\/16<p.Xm[k].Xx.length
 ·rw [a9 z1] at h;cases h
 rw [QA z1] at h;by_cases z2:p.Xm[k].size<1\/256<p.Xm[k].size
 ·rw [a9 z2] at h;cases h
 rw [QA z2] at h;by_cases z3:(yU p p.Xm[k]).2≠0
 ·rw [a9 z3] at h;exact absurd h z3
 refine ⟨by omega,by omega,?_,by omega⟩;unfold yU at z3;cases q:keyE p p.Xm[k] with
 | none=>exact keyV q
 | some e=>
  exfalso;rw [q] at z3;dsimp only at z3;obtain ⟨i,hi,hx⟩:=DC q;simp only [Qt] at hx;obtain ⟨y,_,hy⟩:=hx;split at hy
  ·cases hy;exact z3 (by simp)
  ·split at hy
   ·cases hy
   ·cases hy;exact z3 (by simp)
theorem fp (p:Prg) (f:PrgS p) (t:Int):a8 Φ 240 [.agg (Prg.c p),a7 t]=some (.val (.bool (tOk p t))):=by
 rw [aB rfl rfl];have h:=ki p f t;simp only [Prg.e] at h;simp [GI,Prg.e,h,tOk]
theorem dz (p:Prg) (f:PrgS p) (hv:∀t∈p.Xm,∀v∈t.Yb.args,ok32 0 v) (t:Int):a8 Φ 200 [.agg (Prg.c p),a7 t]=some (.val (.bool (tOk p t))):=by
 rw [aB rfl rfl];have h:=gx p f hv t;simp only [Prg.e] at h;simp [FZ,Prg.e,h,tOk]
def kMax:List Xk->Int->Int
 | [],a=>a
 | k::r,a=>kMax r (max a k.kind)
def CY (p:Prg) (t:Int):Int:=if tOk p t then (match at? p.Xm t with
 | some x=>kMax x.keys 1
 | none=>0) else 0
theorem QZ:∀(l:List Xk) (a:Int),a=3->(∀x∈l,x.kind=1\/x.kind=2\/x.kind=3)->kMax l a=3
 | [],a,h,_=>h
 | k::r,a,h,hk=>by
  subst h;have:=hk k (by simp);simp only [kMax];exact QZ r _ (by omega) fun x hx=>hk x (by simp [hx])
theorem Gd (p:Prg) (f:PrgS p) (t:Int):a8 Φ 142 [.agg (Prg.c p),a7 t]=some (.val (a7 (CY p t))):=by
 rw [aB rfl rfl];have h:=fp p f t;simp only [Prg.e] at h;cases q:tOk p t with
 | false=>
  rw [q] at h;simp [B1,Prg.e,h,CY,q]
 | true=>
 rw [q] at h;obtain ⟨k,hk,rfl,o⟩:=JY q;have hK:CY p (k:Int)=kMax p.Xm[k].keys 1:=by simp [CY,q,hk]
 rw [hK];have hb:=o.keys;simp [B1,Prg.e,h,hk,Tbl.e];refine cV p.Xm[k].keys.length (fun _=>[]) 0 (fun i e=>look 17 e=some (.slice 3 (p.Xm[k].keys.map Xk.c))/\look 18 e=some (a7 p.Xm[k].keys.length)/\look 19 e=some (a7 i)/\∃a:Int,look 5 e=some (a7 a)/\(a=1\/a=2)/\kMax (p.Xm[k].keys.drop i) a=kMax p.Xm[k].keys 1)
  (fun _=>some (Rt.val (a7 (kMax p.Xm[k].keys 1)))) ?_ ?_ 0 _ 0 (Qc _) (Qb _) ?_
 ·rintro i e n L hi hL _ ⟨h17,h18,h19,a,h5,ha,hm⟩ ih;have hw:=aF i (by omega);rw [Qi hi] at hm;simp only [kMax] at hm;have hkk:=o.kinds _ (Qd hi);by_cases k3:p.Xm[k].keys[i].kind=3
  ·have:kMax p.Xm[k].keys 1=3:=by
    rw [<- hm];exact QZ _ _ (by omega) fun x hx=>o.kinds x (DU hx)
   rw [this];simp [dT,Xk.e,h17,h18,h19,hi,k3]
  by_cases k2:p.Xm[k].keys[i].kind=2
  ·simp [dT,Xk.e,h17,h18,h19,hi,k2,hw];exact ih _ _ (Qc _) ⟨by simp [h17],by simp [h18],by simp,2,by simp,.inr rfl,by rw [<- hm];congr 1;omega⟩
  ·simp [dT,Xk.e,h17,h18,h19,hi,k3,k2,hw];exact ih _ _ (Qc _) ⟨by simp [h17],by simp [h18],by simp,a,by simp [h5],ha,by rw [<- hm];congr 1;omega⟩
 ·rintro e n L hL _ ⟨h17,h18,h19,a,h5,ha,hm⟩;rw [QB] at hm;simp only [kMax] at hm;rw [<- hm];simp [dT,pL,h5,h18,h19,hL]
 ·simp
theorem Es (p:Prg) (f:PrgS p) (hv:∀t∈p.Xm,∀v∈t.Yb.args,ok32 0 v) (t:Int):a8 Φ 199 [.agg (Prg.c p),a7 t]=some (.val (a7 (CY p t))):=by
 rw [aB rfl rfl];have h:=dz p f hv t;simp only [Prg.e] at h;cases q:tOk p t with
 | false=>
  rw [q] at h;simp [BE,Prg.e,h,CY,q]
 | true=>
 rw [q] at h;obtain ⟨k,hk,rfl,o⟩:=JY q;have hK:CY p (k:Int)=kMax p.Xm[k].keys 1:=by simp [CY,q,hk]
 rw [hK];have hb:=o.keys;simp [BE,Prg.e,h];refine cV p.Xm[k].keys.length (fun _=>[]) 0 (fun i e=>look 2 e=some (.iptr 9 [Prg.c p] 0 0)/\look 1 e=some (a7 k)/\look 6 e=some (a7 i)/\∃a:Int,look 5 e=some (a7 a)/\kMax (p.Xm[k].keys.drop i) a=kMax p.Xm[k].keys 1)
  (fun _=>some (Rt.val (a7 (kMax p.Xm[k].keys 1)))) ?_ ?_ 0 _ 0 (Qc _) (Qb _) ?_
 ·rintro i e n L hi hL _ ⟨h2,h1,h6,a,h5,hm⟩ ih;have hw:=aF i (by omega);rw [Qi hi] at hm;simp only [kMax] at hm;rw [Prg.e] at h2;simp [kL,Xk.e,Tbl.e,h1,h2,h5,h6,hk,hi,hw];exact ih _ _ (Qc _) ⟨by simp [h2,Prg.e],by simp [h1],by simp,max a p.Xm[k].keys[i].kind,by simp;split<;>omega,hm⟩
 ·rintro e n L hL _ ⟨h2,h1,h6,a,h5,hm⟩;rw [QB] at hm;simp only [kMax] at hm;rw [Prg.e] at h2;rw [<- hm];simp [kL,qH,Tbl.e,h1,h2,h5,h6,hk,hL]
 ·simp [Prg.e]
theorem ri (p:Prg) (f:PrgS p) (k:Nat) (hk:k<p.Xm.length) (q:tOk p k=true):a8 Φ 140 [.agg (Prg.c p),a7 k]=some (.val (.slice 1 ((kWid p p.Xm[k]).map cI))):=by
 rw [aB rfl rfl];have h:=fp p f k;rw [q] at h;simp only [Prg.e] at h;obtain ⟨k',hk',e,o⟩:=JY q;obtain rfl:k=k':=by omega
 have hb:=o.keys;have e0:(kWid p p.Xm[k]).map cI=p.Xm[k].keys.map fun y=>[a7 (wid p y.field.header y.field.field)]:=by simp [kWid,cI]
 rw [e0];simp [FD,Prg.e,h,hk,Tbl.e];refine (cV p.Xm[k].keys.length (fun i=>[(0,.tok 1 i)]) 1 (fun i e=>look 2 e=some (.iptr 9 [Prg.c p] 0 0)/\look 5 e=some (.app 1 ((p.Xm[k].keys.map fun y=>[a7 (wid p y.field.header y.field.field)]).take i) 0)/\look 17 e=some (.slice 3 (p.Xm[k].keys.map Xk.c))/\look 18 e=some (a7 p.Xm[k].keys.length)/\look 19 e=some (a7 i))
  (fun _=>some (Rt.val (.slice 1 (p.Xm[k].keys.map fun y=>[a7 (wid p y.field.header y.field.field)])))) ?_ ?_ 0 _ 1 (Qc _) (Qb _) ?_).trans (by simp)
 ·rintro i e n L hi hL hn ⟨h2,h5,h17,h18,h19⟩ ih;have hw:=aF i (by omega);have hv:=O8 p p.Xm[k].keys[i].field.header p.Xm[k].keys[i].field.field;simp only [Prg.e] at hv;rw [Prg.e] at h2;have hn0:¬(0=n):=by omega
  have hn1:¬(n=0):=by omega
  have hm:min i p.Xm[k].keys.length=i:=by omega
  have hb:(i+1)*8<=70368744177664:=by omega
  simp [jK,Xk.e,h2,h5,h17,h18,h19,hi,hw,hn0,hm,hb,hv];exact ih _ _ (by omega) ⟨by simp [h2,Prg.e],by simp [EB hi],by simp [h17],by simp [h18],by simp⟩
 ·rintro e n L hL hn ⟨h2,h5,h17,h18,h19⟩;simp [jK,pK,h5,h18,h19,hL]
 ·simp [Prg.e]
theorem qx (p:Prg) (f:PrgS p) (hv:∀t∈p.Xm,∀v∈t.Yb.args,ok32 0 v) (k:Nat) (hk:k<p.Xm.length) (q:tOk p k=true):a8 Φ 197 [.agg (Prg.c p),a7 k]=some (.val (.slice 1 ((kWid p p.Xm[k]).map cI))):=by
 rw [aB rfl rfl];have h:=dz p f hv k;rw [q] at h;simp only [Prg.e] at h;obtain ⟨k',hk',e,o⟩:=JY q;obtain rfl:k=k':=by omega
 have hb:=o.keys;have e0:(kWid p p.Xm[k]).map cI=p.Xm[k].keys.map fun y=>[a7 (wid p y.field.header y.field.field)]:=by simp [kWid,cI]
 rw [e0];simp [FY,Prg.e,h];refine (cV p.Xm[k].keys.length (fun i=>[(0,.tok 1 i)]) 1 (fun i e=>look 2 e=some (.iptr 9 [Prg.c p] 0 0)/\look 1 e=some (a7 k)/\look 5 e=some (.app 1 ((p.Xm[k].keys.map fun y=>[a7 (wid p y.field.header y.field.field)]).take i) 0)/\look 6 e=some (a7 i))
  (fun _=>some (Rt.val (.slice 1 (p.Xm[k].keys.map fun y=>[a7 (wid p y.field.header y.field.field)])))) ?_ ?_ 0 _ 1 (Qc _) (Qb _) ?_).trans (by simp)
 ·rintro i e n L hi hL hn ⟨h2,h1,h5,h6⟩ ih;have hw:=aF i (by omega);have hv:=tz p p.Xm[k].keys[i].field.header p.Xm[k].keys[i].field.field;simp only [Prg.e] at hv;rw [Prg.e] at h2;have hn0:¬(0=n):=by omega
  have hn1:¬(n=0):=by omega
  have hm:min i p.Xm[k].keys.length=i:=by omega
  have hb:(i+1)*8<=70368744177664:=by omega
  simp [kJ,Xk.e,Tbl.e,h1,h2,h5,h6,hk,hi,hw,hm,hb,hv];exact ih _ _ (by omega) ⟨by simp [h2,Prg.e],by simp [h1],by simp [EB hi],by simp⟩
 ·rintro e n L hL hn ⟨h2,h1,h5,h6⟩;rw [Prg.e] at h2;simp [kJ,qG,Tbl.e,h1,h2,h5,h6,hk,hL]
 ·simp [Prg.e]
def tAl (p:Prg) (t a:Int):Bool:=tOk p t&&(match at? p.Xm t with
 | some x=>x.Xx.any fun s=>decide (s=a)
 | none=>false)
theorem qk (p:Prg) (f:PrgS p) (t a:Int):a8 Φ 143 [.agg (Prg.c p),a7 t,a7 a]=some (.val (.bool (tAl p t a))):=by
 rw [aB rfl rfl];have h:=fp p f t;simp only [Prg.e] at h;cases q:tOk p t with
 | false=>
  rw [q] at h;simp [B2,Prg.e,h,tAl,q]
 | true=>
 rw [q] at h;obtain ⟨k,hk,rfl,o⟩:=JY q;have hK:tAl p (k:Int) a=p.Xm[k].Xx.any fun s=>decide (s=a):=by simp [tAl,q,hk]
 rw [hK];have hb:=o.acts;simp [B2,Prg.e,h,hk,Tbl.e];refine (cV p.Xm[k].Xx.length (fun _=>[]) 0 (fun i e=>look 2 e=some (a7 a)/\look 18 e=some (.slice 1 (p.Xm[k].Xx.map cI))/\look 19 e=some (a7 p.Xm[k].Xx.length)/\look 20 e=some (a7 i))
  (fun i=>some (Rt.val (.bool ((p.Xm[k].Xx.drop i).any fun s=>decide (s=a))))) ?_ ?_ 0 _ 0 (Qc _) (Qb _) ?_).trans (by simp)
 ·rintro i e n L hi hL _ ⟨h2,h18,h19,h20⟩ ih;have hw:=aF i (by omega);rw [Qi hi,DZ];by_cases z:p.Xm[k].Xx[i]=a
  ·generalize hX:some (Rt.val (AV.bool (decide (p.Xm[k].Xx[i]=a) || (p.Xm[k].Xx.drop (i+1)).any fun s=>decide (s=a))))=X;simp [fW,cI,h2,h18,h19,h20,hi,z];rw [<- hX];simp [z]
  ·rw [show (decide (p.Xm[k].Xx[i]=a) || (p.Xm[k].Xx.drop (i+1)).any fun s=>decide (s=a))=(p.Xm[k].Xx.drop (i+1)).any fun s=>decide (s=a) by simp [z]];generalize hX:some (Rt.val (AV.bool ((p.Xm[k].Xx.drop (i+1)).any fun s=>decide (s=a))))=X;simp [fW,cI,h2,h18,h19,h20,hi,z,hw];rw [<- hX];exact ih _ _ (Qc _) ⟨by simp [h2],by simp [h18],by simp [h19],by simp⟩
 ·rintro e n L hL _ ⟨h2,h18,h19,h20⟩;simp [fW,pM,h19,h20,hL]
 ·simp
theorem qu (p:Prg) (f:PrgS p) (hv:∀t∈p.Xm,∀v∈t.Yb.args,ok32 0 v) (t a:Int):a8 Φ 120 [.agg (Prg.c p),a7 t,a7 a]=some (.val (.bool (tAl p t a))):=by
 rw [aB rfl rfl];have h:=dz p f hv t;simp only [Prg.e] at h;cases q:tOk p t with
 | false=>
  rw [q] at h;simp [AY,Prg.e,h,tAl,q]
 | true=>
 rw [q] at h;obtain ⟨k,hk,rfl,o⟩:=JY q;have hK:tAl p (k:Int) a=p.Xm[k].Xx.any fun s=>decide (s=a):=by simp [tAl,q,hk]
 have hb:=o.acts;have hx:=ez p.Xm[k].Xx a (by omega);rw [hK,<- NZ];simp [AY,Prg.e,Tbl.e,h,hk,hx]
def pmI (n k:Nat):Int:=2^k - 2^(k - n)
theorem So:∀k:Nat,k<33->∀n:Nat,n<33->n<=k->LP .u32 (2^k - 1) (ishr .u32 (2^k - 1) (n:Int))=pmI n k:=by decide+kernel
theorem Fm (n k:Nat) (h:n<=k) (h1:1<=k) (h2:k<=32):a8 Φ 332 [a7 n,a7 k]=some (.val (.int .u32 (pmI n k))):=by
 rw [aB rfl rfl];have hv:=UG k;have hm:=nZ k;have hw:wBad (k:Int)=false:=wBad_false.2 ⟨by omega,by omega⟩;have hM:bC (k:Int)=2^k - 1:=by simp [bC,hw]
 rw [hw] at hv;rw [hM] at hm;have hp:=So k (by omega) n (by omega) h;have n1:¬((n:Int)<0):=by omega
 have n2:¬((k:Int)<n):=by omega
 simp [HT,hv,hm,n1,n2];exact hp
theorem Ui:∀k:Nat,k<33->∀n:Nat,n<33->n<=k->IntKind.wrap .u32 (IntKind.wrap .u64 (2^k - 2^(k - n)))=pmI n k:=by decide+kernel
theorem Bo (n k:Nat) (h:n<=k) (h1:1<=k) (h2:k<=32):a8 Φ 366 [a7 n,a7 k]=some (.val (.int .u32 (pmI n k))):=by
 rw [aB rfl rfl];have hv:=EH k;have hw:wBad (k:Int)=false:=wBad_false.2 ⟨by omega,by omega⟩;rw [hw] at hv;have p1:=JM k (by omega);have p2:=JM (k - n) (by omega);have hs:IntKind.wrap .i64 ((k:Int) - n)=((k - n:Nat):Int):=by
  rw [show (k:Int) - n=((k - n:Nat):Int) by omega];exact aQ
 have n1:¬((n:Int)<0):=by omega
 have n2:¬((k:Int)<n):=by omega
 simp [ID,hv,p1,p2,n1,n2,hs];exact Ui k (by omega) n (by omega) h
def plG (m:Int) (k:Nat) (n:Nat):Option Int:=if pmI n k=m then some (n:Int) else none
def plE (m w:Int):Option Int:=if wBad w then none else fe (plG m w.toNat) (w.toNat+1) 0
def plV (o:Option Int):Rt:= .val (.tup [a7 (o.getD 0),.bool o.isSome])
theorem Lp (m w:Int):a8 Φ 242 [.int .u32 m,a7 w]=some (plV (plE m w)):=by
 rw [aB rfl rfl];have hv:=UG w;cases q:wBad w with
 | true=>
  rw [q] at hv;simp [BJ,hv,plE,q,plV]
 | false=>
 rw [q] at hv;obtain ⟨w1,w2⟩:=wBad_false.1 q;obtain ⟨k,rfl⟩:∃k:Nat,w=k:=⟨w.toNat,by omega⟩;have hw1:=aF k (by omega);have hE:plE m (k:Int)=fe (plG m k) (k+1) 0:=by simp [plE,q]
 rw [hE];simp [BJ,hv,hw1];refine cV (k+1) (fun _=>[]) 0 (fun i e=>look 0 e=some (.int .u32 m)/\look 1 e=some (a7 k)/\look 12 e=some (a7 ((k:Int)+1))/\look 13 e=some (a7 i))
  (fun i=>some (plV (fe (plG m k) (k+1) i))) ?_ ?_ 0 _ 0 (Qc _) (Qb _) ?_
 ·rintro i e n L hi hL _ ⟨h0,h1,h12,h13⟩ ih;have hw:=aF i (by omega);have hp:=Fm i k (by omega) (by omega) (by omega);have hlt:(i:Int)<(k:Int)+1:=by omega
  by_cases z:pmI i k=m
  ·rw [aJ (x:=(i:Int)) hi (by simp [plG,z])];subst z;simp [gM,h0,h1,h12,h13,hp,hlt,plV]
  ·rw [bP hi (by simp [plG,z])];generalize hX:some (plV (fe (plG m k) (k+1) (i+1)))=X;simp [gM,h0,h1,h12,h13,hp,hlt,z,hw];rw [<- hX];exact ih _ _ (Qc _) ⟨by simp [h0],by simp [h1],by simp [h12],by simp⟩
 ·rintro e n L hL _ ⟨h0,h1,h12,h13⟩;rw [d6];simp [gM,qT,h12,h13,hL,plV]
 ·simp
theorem Ew (m w:Int):a8 Φ 306 [.int .u32 m,a7 w]=some (plV (plE m w)):=by
 rw [aB rfl rfl];have hv:=EH w;cases q:wBad w with
 | true=>
  rw [q] at hv;simp [BS];rw [aT];by_cases z:0<=w
  ·simp [cR,gW,hv,z,plE,q,plV]
  ·simp [cR,gW,z,plE,q,plV]
 | false=>
 rw [q] at hv;obtain ⟨w1,w2⟩:=wBad_false.1 q;obtain ⟨k,rfl⟩:∃k:Nat,w=k:=⟨w.toNat,by omega⟩;have hE:plE m (k:Int)=fe (plG m k) (k+1) 0:=by simp [plE,q]
 rw [hE];simp [BS];refine cV (k+1) (fun _=>[]) 0 (fun i e=>look 0 e=some (.int .u32 m)/\look 1 e=some (a7 k)/\look 6 e=some (a7 i))
  (fun i=>some (plV (fe (plG m k) (k+1) i))) ?_ ?_ 0 _ 0 (Qc _) (Qb _) ?_
 ·rintro i e n L hi hL _ ⟨h0,h1,h6⟩ ih;have hw:=aF i (by omega);have hp:=Bo i k (by omega) (by omega) (by omega);have hle:i<=k:=by omega
  by_cases z:pmI i k=m
  ·rw [aJ (x:=(i:Int)) hi (by simp [plG,z])];subst z;simp [cR,h0,h1,h6,hv,hp,hle,plV]
  ·rw [bP hi (by simp [plG,z])];generalize hX:some (plV (fe (plG m k) (k+1) (i+1)))=X;simp [cR,h0,h1,h6,hv,hp,hle,z,hw];rw [<- hX];exact ih _ _ (Qc _) ⟨by simp [h0],by simp [h1],by simp⟩
 ·rintro e n L hL _ ⟨h0,h1,h6⟩;rw [d6];have hgt:¬((k:Int)+1<=(k:Int)):=by omega
  simp [cR,gW,h1,h6,hL,hgt,plV]
 ·simp
theorem Xh.ce (m:Xh):Xh.c m=[.int .u32 m.value,.int .u32 m.Yd]:=by simp [Xh.c]
def keyK (m:Xh) (kind w:Int):Int:=
 if fits m.value w=false\/fits m.Yd w=false then 9
 else if m.value.toNat&&& m.Yd.toNat≠m.value.toNat then 5
 else if kind=1/\m.Yd≠bC w then 11
 else if kind=2/\(plE m.Yd w).isSome=false then 11 else 0
theorem Jw (m:Xh) (kind w:Int) (h1:ok32 0 m.value) (h2:ok32 0 m.Yd):a8 Φ 141 [.agg (Xh.c m),a7 kind,a7 w]=some (.val (a7 (keyK m kind w))):=by
 rw [aB rfl rfl];have f1:=NH m.value w;have f2:=NH m.Yd w;have hm:=nZ w;have hp:=Lp m.Yd w;have ha:=od h1 h2;unfold keyK;cases q1:fits m.value w with
 | false=>rw [q1] at f1;simp [jL,Xh.ce,f1]
 | true=>
 rw [q1] at f1;cases q2:fits m.Yd w with
 | false=>rw [q2] at f2;simp [jL,Xh.ce,f1,f2]
 | true=>
 rw [q2] at f2;by_cases z:LP .u32 m.value m.Yd=0
 rotate_left
 ·have z':¬(m.value.toNat&&& m.Yd.toNat=m.value.toNat):=fun h=>z (ha.2 h)
  simp [jL,Xh.ce,f1,f2,z,z']
 have z':=ha.1 z;by_cases k1:kind=1
 ·subst k1;by_cases y:m.Yd=bC w
  ·rw [y] at f2 z z';simp [jL,Xh.ce,f1,f2,z,z',hm,y]
  ·simp [jL,Xh.ce,f1,f2,z,z',hm,y]
 by_cases k2:kind=2
 ·subst k2;cases y:plE m.Yd w with
  | none=>rw [y] at hp;simp [plV] at hp;simp [jL,Xh.ce,f1,f2,z,z',hp]
  | some x=>rw [y] at hp;simp [plV] at hp;simp [jL,Xh.ce,f1,f2,z,z',hp]
 simp [jL,Xh.ce,f1,f2,z,z',k1,k2]
theorem Mx (m:Xh) (kind w:Int) (h1:ok32 0 m.value) (h2:ok32 0 m.Yd):a8 Φ 198 [.agg (Xh.c m),a7 w,a7 kind]=some (.val (a7 (keyK m kind w))):=by
 rw [aB rfl rfl];have f1:=UV m.value w h1;have f2:=UV m.Yd w h2;have hm:=UW w;have hp:=Ew m.Yd w;have ha:=sf h1 h2;simp [plV] at hp;unfold keyK;cases q1:fits m.value w with
 | false=>rw [q1] at f1;simp [kK,Xh.ce,hp,f1]
 | true=>
 rw [q1] at f1;cases q2:fits m.Yd w with
 | false=>rw [q2] at f2;simp [kK,Xh.ce,hp,f1,f2]
 | true=>
 rw [q2] at f2;by_cases z:iand .u32 m.value m.Yd=m.value
 rotate_left
 ·have z':¬(m.value.toNat&&& m.Yd.toNat=m.value.toNat):=fun h=>z (ha.2 h)
  simp [kK,Xh.ce,hp,f1,f2,z,z']
 have z':=ha.1 z;by_cases k1:kind=1
 ·subst k1;by_cases y:m.Yd=bC w
  ·rw [y] at hp f2 z z';simp [kK,Xh.ce,hp,f1,f2,z,z',hm,y]
  ·simp [kK,Xh.ce,hp,f1,f2,z,z',hm,y]
 by_cases k2:kind=2
 ·subst k2;cases y:plE m.Yd w with
  | none=>rw [y] at hp;simp [kK,Xh.ce,f1,f2,z,z',hp]
  | some x=>rw [y] at hp;simp [kK,Xh.ce,f1,f2,z,z',hp]
 simp [kK,Xh.ce,hp,f1,f2,z,z',k1,k2]
structure EntS (x:Entry):Prop where
 kl:x.keys.length<2^40
 ks:∀m∈x.keys,ok32 0 m.value/\ok32 0 m.Yd
 al:x.call.args.length<2^40
 ar:∀v∈x.call.args,ok32 0 v
def entF (p:Prg) (t:Int) (x:Entry):Int:=if x.Xs<0 then 9 else if 255<x.Xs then 9 else if x.Xs≠0/\CY p t≠3 then 11 else if tAl p t x.call.Xy=false then 8 else nV p x.call
def entG (p:Prg) (tb:Tbl) (x:Entry) (i:Nat):Option Int:=match x.keys[i]?,tb.keys[i]? with
 | some m,some k=>if keyK m k.kind (wid p k.field.header k.field.field)=0 then none else some (keyK m k.kind (wid p k.field.header k.field.field))
 | _,_=>none
def entE (p:Prg) (t:Int) (x:Entry):Int:=if (tblE p t).2≠0 then (tblE p t).2 else match at? p.Xm t with
 | some tb=>if x.keys.length≠tb.keys.length then 2 else (fe (entG p tb x) tb.keys.length 0).getD (entF p t x)
 | none=>0
theorem Ka (p:Prg) (f:PrgS p) (t:Int) (x:Entry) (s:EntS x) (e:Env) (n:Nat) (h1:look 1 e=some (a7 t)) (h3:look 3 e=some (.iptr 9 [Prg.c p] 0 0)) (h5:look 5 e=some (.iptr 4 [Entry.c x] 0 0)):
  go Φ (finP [.tmp 6]) [.c bM] .normal ⟨e,⟨[],n⟩⟩=some (.val (a7 (entF p t x))):=by
 have hk:=Gd p f t;have ha:=qk p f t x.call.Xy;have hc:=UP p f x.call s.al;simp only [Prg.e,Xb.ce] at hk ha hc;rw [Prg.e] at h3;rw [Entry.ce] at h5;unfold entF;by_cases p0:x.Xs<0
 ·simp [bM,h5,p0]
 by_cases p1:255<x.Xs
 ·simp [bM,h5,p0,p1]
 by_cases p2:x.Xs=0
 ·cases q:tAl p t x.call.Xy with
  | false=>rw [q] at ha;simp [bM,h1,h3,h5,p2,ha]
  | true=>rw [q] at ha;simp [bM,h1,h3,h5,p2,ha,hc]
 by_cases p3:CY p t=3
 ·cases q:tAl p t x.call.Xy with
  | false=>rw [q] at ha;simp [bM,h1,h3,h5,p0,p1,p2,p3,hk,ha]
  | true=>rw [q] at ha;simp [bM,h1,h3,h5,p0,p1,p2,p3,hk,ha,hc]
 ·simp [bM,h1,h3,h5,p0,p1,p2,p3,hk]
theorem Jz (p:Prg) (f:PrgS p) (t:Int) (x:Entry) (s:EntS x):a8 Φ 74 [.agg (Prg.c p),a7 t,.agg (Entry.c x)]=some (.val (a7 (entE p t x))):=by
 rw [aB rfl rfl];have h:=ki p f t;simp only [Prg.e] at h;by_cases z:(tblE p t).2=0
 rotate_left
 ·simp [E8,Prg.e,Entry.ce,h,z,entE]
 have q:tOk p t=true:=by simp [tOk,z]
 obtain ⟨k,hk,rfl,o⟩:=JY q;have hw:=ri p f k hk q;simp only [Prg.e] at hw;have hb:=o.keys;by_cases y:x.keys.length=p.Xm[k].keys.length
 rotate_left
 ·simp [E8,Prg.e,Entry.ce,Tbl.e,hk,h,z,hw,y,entE]
 have hE:entE p (k:Int) x=(fe (entG p p.Xm[k] x) p.Xm[k].keys.length 0).getD (entF p k x):=by simp [entE,z,hk,y]
 rw [hE];simp [E8,Prg.e,Entry.ce,Tbl.e,hk,h,z,hw,y];refine cV p.Xm[k].keys.length (fun _=>[]) 0 (fun i e=>look 1 e=some (a7 k)/\look 3 e=some (.iptr 9 [Prg.c p] 0 0)/\look 5 e=some (.iptr 4 [Entry.c x] 0 0)/\look 9 e=some (.slice 3 (p.Xm[k].keys.map Xk.c))/\look 10 e=some (.slice 1 ((kWid p p.Xm[k]).map cI))/\look 39 e=some (.slice 2 (x.keys.map Xh.c))/\look 40 e=some (a7 p.Xm[k].keys.length)/\look 41 e=some (a7 i))
  (fun i=>some (Rt.val (a7 ((fe (entG p p.Xm[k] x) p.Xm[k].keys.length i).getD (entF p k x))))) ?_ ?_ 0 _ 0 (Qc _) (Qb _) ?_
 ·rintro i e n L hi hL _ ⟨h1,h3,h5,h9,h10,h39,h40,h41⟩ ih;have hi2:i<x.keys.length:=by omega
  have hi3:i<(kWid p p.Xm[k]).length:=by simp [kWid];exact hi
  have hkw:(kWid p p.Xm[k])[i]=wid p p.Xm[k].keys[i].field.header p.Xm[k].keys[i].field.field:=by simp [kWid]
  have hw:=aF i (by omega);have hm:=s.ks _ (Qd hi2);have hc:=Jw x.keys[i] p.Xm[k].keys[i].kind (wid p p.Xm[k].keys[i].field.header p.Xm[k].keys[i].field.field) hm.1 hm.2;simp only [Xh.ce] at hc;by_cases v:keyK x.keys[i] p.Xm[k].keys[i].kind (wid p p.Xm[k].keys[i].field.header p.Xm[k].keys[i].field.field)=0
  ·rw [bP hi (by simp [entG,hi,hi2,v])];rw [v] at hc;generalize hX:some (Rt.val (a7 ((fe (entG p p.Xm[k] x) p.Xm[k].keys.length (i+1)).getD (entF p k x))))=X;simp [n8,Xk.e,Xh.ce,cI,h9,h10,h39,h40,h41,hi,hi2,hi3,hkw,hc,hw];rw [<- hX];exact ih _ _ (Qc _) ⟨by simp [h1],by simp [h3],by simp [h5],by simp [h9],by simp [h10],by simp [h39],by simp [h40],by simp⟩
  ·rw [aJ (x:=keyK x.keys[i] p.Xm[k].keys[i].kind (wid p p.Xm[k].keys[i].field.header p.Xm[k].keys[i].field.field)) hi (by simp [entG,hi,hi2,v])];simp [n8,Xk.e,Xh.ce,cI,h9,h10,h39,h40,h41,hi,hi2,hi3,hkw,hc,v]
 ·rintro e n L hL _ ⟨h1,h3,h5,h9,h10,h39,h40,h41⟩;rw [d6];simp [n8,h40,h41,hL];exact Ka p f k x s _ _ (by simp [h1]) (by simp [h3]) (by simp [h5])
 ·simp [Prg.e,Entry.ce]
theorem Eo (p:Prg) (f:PrgS p) (hv:∀t∈p.Xm,∀v∈t.Yb.args,ok32 0 v) (t:Int) (x:Entry) (s:EntS x) (e:Env) (n:Nat) (h1:look 1 e=some (a7 t)) (h3:look 3 e=some (.iptr 9 [Prg.c p] 0 0)) (h5:look 5 e=some (.iptr 4 [Entry.c x] 0 0)):
  go Φ (finP [.tmp 6]) [.c aX] .normal ⟨e,⟨[],n⟩⟩=some (.val (a7 (entF p t x))):=by
 have hk:=Es p f hv t;have ha:=qu p f hv t x.call.Xy;have hc:=UF p f x.call s.al s.ar;simp only [Prg.e,Xb.ce] at hk ha hc;rw [Prg.e] at h3;rw [Entry.ce] at h5;unfold entF;by_cases p0:x.Xs<0
 ·simp [aX,h5,p0]
 by_cases p1:255<x.Xs
 ·simp [aX,h5,p0,p1]
 by_cases p2:x.Xs=0
 ·cases q:tAl p t x.call.Xy with
  | false=>rw [q] at ha;simp [aX,h1,h3,h5,p2,ha]
  | true=>rw [q] at ha;simp [aX,h1,h3,h5,p2,ha,hc]
 have p4:0<x.Xs:=by omega
 by_cases p3:CY p t=3
 ·cases q:tAl p t x.call.Xy with
  | false=>rw [q] at ha;simp [aX,h1,h3,h5,p0,p1,p2,p3,p4,hk,ha]
  | true=>rw [q] at ha;simp [aX,h1,h3,h5,p0,p1,p2,p3,p4,hk,ha,hc]
 ·simp [aX,h1,h3,h5,p0,p1,p2,p3,p4,hk]
theorem Gc (p:Prg) (f:PrgS p) (hv:∀t∈p.Xm,∀v∈t.Yb.args,ok32 0 v) (t:Int) (x:Entry) (s:EntS x):a8 Φ 118 [.agg (Prg.c p),a7 t,.agg (Entry.c x)]=some (.val (a7 (entE p t x))):=by
 rw [aB rfl rfl];have h:=gx p f hv t;simp only [Prg.e] at h;by_cases z:(tblE p t).2=0
 rotate_left
 ·simp [wM,Prg.e,Entry.ce,h,z,entE]
 have q:tOk p t=true:=by simp [tOk,z]
 obtain ⟨k,hk,rfl,o⟩:=JY q;have hw:=qx p f hv k hk q;simp only [Prg.e] at hw;have hb:=o.keys;have hkl:(kWid p p.Xm[k]).length=p.Xm[k].keys.length:=by simp [kWid]
 by_cases y:x.keys.length=p.Xm[k].keys.length
 rotate_left
 ·simp [wM,Prg.e,Entry.ce,hk,h,z,hw,y,hkl,entE]
 have hE:entE p (k:Int) x=(fe (entG p p.Xm[k] x) p.Xm[k].keys.length 0).getD (entF p k x):=by simp [entE,z,hk,y]
 rw [hE];simp [wM,Prg.e,Entry.ce,h,z,hw,y,hkl];refine cV p.Xm[k].keys.length (fun _=>[]) 0 (fun i e=>look 1 e=some (a7 k)/\look 3 e=some (.iptr 9 [Prg.c p] 0 0)/\look 5 e=some (.iptr 4 [Entry.c x] 0 0)/\look 9 e=some (.slice 1 ((kWid p p.Xm[k]).map cI))/\look 10 e=some (a7 i))
  (fun i=>some (Rt.val (a7 ((fe (entG p p.Xm[k] x) p.Xm[k].keys.length i).getD (entF p k x))))) ?_ ?_ 0 _ 0 (Qc _) (Qb _) ?_
 ·rintro i e n L hi hL _ ⟨h1,h3,h5,h9,h10⟩ ih;have hi2:i<x.keys.length:=by omega
  have hi3:i<(kWid p p.Xm[k]).length:=by omega
  have hkw:(kWid p p.Xm[k])[i]=wid p p.Xm[k].keys[i].field.header p.Xm[k].keys[i].field.field:=by simp [kWid]
  have hw:=aF i (by omega);have hm:=s.ks _ (Qd hi2);have hc:=Mx x.keys[i] p.Xm[k].keys[i].kind (wid p p.Xm[k].keys[i].field.header p.Xm[k].keys[i].field.field) hm.1 hm.2;simp only [Xh.ce] at hc;rw [Prg.e] at h3;rw [Entry.ce] at h5;by_cases v:keyK x.keys[i] p.Xm[k].keys[i].kind (wid p p.Xm[k].keys[i].field.header p.Xm[k].keys[i].field.field)=0
  ·rw [bP hi (by simp [entG,hi,hi2,v])];rw [v] at hc;generalize hX:some (Rt.val (a7 ((fe (entG p p.Xm[k] x) p.Xm[k].keys.length (i+1)).getD (entF p k x))))=X;simp [fQ,Xk.e,Tbl.e,Xh.ce,cI,h1,h3,h5,h9,h10,hk,hkl,hi,hi2,hkw,hc,hw];rw [<- hX];exact ih _ _ (Qc _) ⟨by simp [h1],by simp [h3,Prg.e],by simp [h5,Entry.ce],by simp [h9],by simp⟩
  ·rw [aJ (x:=keyK x.keys[i] p.Xm[k].keys[i].kind (wid p p.Xm[k].keys[i].field.header p.Xm[k].keys[i].field.field)) hi (by simp [entG,hi,hi2,v])];simp [fQ,Xk.e,Tbl.e,Xh.ce,cI,h1,h3,h5,h9,h10,hk,hkl,hi,hi2,hkw,hc,v]
 ·rintro e n L hL _ ⟨h1,h3,h5,h9,h10⟩;rw [d6];simp [fQ,h9,h10,hkl,hL];exact Eo p f hv k x s _ _ (by simp [h1]) (by simp [h3]) (by simp [h5])
 ·simp [Prg.e,Entry.ce]
def o9 (p:Prg) (t:Int) (c:Xb):Int:=if tAl p t c.Xy=false then 8 else nV p c
theorem Gu (p:Prg) (f:PrgS p) (t:Int) (c:Xb) (hc:c.args.length<2^40):a8 Φ 167 [.agg (Prg.c p),a7 t,.agg (Xb.c c)]=some (.val (a7 (o9 p t c))):=by
 rw [aB rfl rfl];have ha:=qk p f t c.Xy;have hk:=UP p f c hc;simp only [Prg.e,Xb.ce] at ha hk;cases q:tAl p t c.Xy with
 | false=>rw [q] at ha;simp [B6,Prg.e,Xb.ce,ha,o9,q]
 | true=>rw [q] at ha;simp [B6,Prg.e,Xb.ce,ha,hk,o9,q]
theorem Fy (p:Prg) (f:PrgS p) (hv:∀t∈p.Xm,∀v∈t.Yb.args,ok32 0 v) (t:Int) (c:Xb) (hc:c.args.length<2^40) (hr:∀v∈c.args,ok32 0 v):a8 Φ 56 [.agg (Prg.c p),a7 t,.agg (Xb.c c)]=some (.val (a7 (o9 p t c))):=by
 rw [aB rfl rfl];have ha:=qu p f hv t c.Xy;have hk:=UF p f c hc hr;simp only [Prg.e,Xb.ce] at ha hk;cases q:tAl p t c.Xy with
 | false=>rw [q] at ha;simp [KP,Prg.e,Xb.ce,ha,o9,q]
 | true=>rw [q] at ha;simp [KP,Prg.e,Xb.ce,ha,hk,o9,q]
def sk (x y:Entry):Bool:=decide (x.keys=y.keys/\x.Xs=y.Xs)
theorem Rc (x y:Entry) (hb:x.keys.length<2^40):a8 Φ 77 [.agg [.slice 2 (x.keys.map Xh.c),a7 x.Xs,a7 x.call.Xy,.slice 1 (x.call.args.map c32)],.agg [.slice 2 (y.keys.map Xh.c),a7 y.Xs,a7 y.call.Xy,.slice 1 (y.call.args.map c32)]]=some (.val (.bool (sk x y))):=XC _ _ _ _ _ _ hb
theorem Sy (x y:Entry) (hb:x.keys.length<2^40):a8 Φ 165 [.agg [.slice 2 (x.keys.map Xh.c),a7 x.Xs,a7 x.call.Xy,.slice 1 (x.call.args.map c32)],.agg [.slice 2 (y.keys.map Xh.c),a7 y.Xs,a7 y.call.Xy,.slice 1 (y.call.args.map c32)]]=some (.val (.bool (sk x y))):=U6 _ _ _ _ _ _ hb
theorem Qy (x r:Rw) (hb:x.entry.keys.length<2^40):a8 Φ 166 [.agg (Rw.c x),.iptr 5 [Rw.c r] 0 0]=some (.val (.bool (sk x.entry r.entry))):=by
 rw [aB rfl rfl];have h:=Rc x.entry r.entry hb;simp [FK,Rw.ce,h]
theorem Ap (l:List Rw) (r:Rw) (hl:l.length<2^40) (hs:∀x∈l,x.entry.keys.length<2^40):a8 Φ 145 [.slice 5 (l.map Rw.c),.func (.func 166) [] [.iptr 5 [Rw.c r] 0 0]]=some (.val (a7 (ix (fun x=>sk x.entry r.entry) l 0))):=by
 rw [aB rfl rfl];simp [FE];refine (dC l.length (fun i e=>look 0 e=some (.slice 5 (l.map Rw.c))/\look 1 e=some (.func (.func 166) [] [.iptr 5 [Rw.c r] 0 0])/\look 7 e=some (a7 l.length)/\look 8 e=some (a7 i))
  (fun i=>some (.val (a7 (ix (fun x=>sk x.entry r.entry) l i)))) ?_ ?_ 0 _ (Qc _) ?_).trans (by simp)
 ·rintro i e L hi hL ⟨h0,h1,h7,h8⟩ ih;have hw:=aF i (by omega);have hd:=Qy l[i] r (hs _ (Qd hi));simp only [Rw.ce] at hd h1;cases z:sk l[i].entry r.entry with
  | true=>
   rw [O6 hi (by simpa using z)];rw [z] at hd;simp [fY,Rw.ce,h0,h1,h7,h8,hi,hd]
  | false=>
   rw [NK hi (by simpa using z)];rw [z] at hd;simp [fY,Rw.ce,h0,h1,h7,h8,hi,hd,hw];exact ih _ ⟨by simp [h0],by simp [h1,Rw.ce],by simp [h7],by simp⟩
 ·rintro e L hL ⟨h0,h1,h7,h8⟩;rw [O5];simp [fY,pO,h7,h8,hL]
 ·simp
theorem ZG (l:List Rw) (r:Rw) (hl:l.length<2^40) (hs:∀x∈l,x.entry.keys.length<2^40):a8 Φ 75 [.slice 5 (l.map Rw.c),.func (.func 166) [] [.iptr 5 [Rw.c r] 0 0]]=some (.val (.bool (l.any fun x=>sk x.entry r.entry))):=by
 rw [aB rfl rfl];have h:=Ap l r hl hs;rw [<- NZ];simp [OR,h]
theorem Hm (l:List Rw) (x:Entry) (hl:l.length<2^40) (hs:∀x∈l,x.entry.keys.length<2^40):a8 Φ 119 [.slice 5 (l.map Rw.c),.agg (Entry.c x)]=some (.val (.bool (l.any fun y=>sk y.entry x))):=by
 rw [aB rfl rfl];generalize hY:some (Rt.val (AV.bool (l.any fun y=>sk y.entry x)))=Y;simp [F9,Entry.ce];rw [show Y=some (Rt.val (AV.bool ((l.drop 0).any fun y=>sk y.entry x))) by rw [<- hY];simp];refine dC l.length (fun i e=>look 0 e=some (.slice 5 (l.map Rw.c))/\look 3 e=some (.iptr 4 [Entry.c x] 0 0)/\look 5 e=some (a7 i))
  (fun i=>some (Rt.val (.bool ((l.drop i).any fun y=>sk y.entry x)))) ?_ ?_ 0 _ (Qc _) ?_
 ·rintro i e L hi hL ⟨h0,h3,h5⟩ ih;have hw:=aF i (by omega);have hd:=Sy l[i].entry x (hs _ (Qd hi));rw [Entry.ce] at h3;rw [Qi hi,DZ];cases z:sk l[i].entry x with
  | true=>
   rw [z] at hd;rw [MG];simp [fR,Rw.ce,h0,h3,h5,hi,hd]
  | false=>
   rw [z] at hd;rw [KE];generalize hX:some (Rt.val (AV.bool ((l.drop (i+1)).any fun y=>sk y.entry x)))=X;simp [fR,Rw.ce,h0,h3,h5,hi,hd,hw];rw [<- hX];exact ih _ ⟨by simp [h0],by simp [h3,Entry.ce],by simp⟩
 ·rintro e L hL ⟨h0,h3,h5⟩;simp [fR,pF,h0,h5,hL]
 ·simp [Entry.ce]
end Go.Av
