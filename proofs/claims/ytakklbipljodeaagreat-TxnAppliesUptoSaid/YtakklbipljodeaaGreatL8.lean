/-
 The control flow: the reference's answer.
-/
import Derived.Test.YtakklbipljodeaaGreatL5
set_option linter.unusedVariables false
set_option linter.unusedSimpArgs false
set_option linter.constructorNameAsVariable false
namespace Go.Av
set_option maxRecDepth 4000
theorem qli:∀(n:Nat) (l:List ControlNode),SizeOf.sizeOf l≤n→(pre l).length<2^40→qab Φ f_276 [.slice 5 (l.map ControlNode.c)]=some (.val (.int .i64 ((pre l).length:Nat)))
 | 0,l,h,hb=>by cases l<;>simp at h
 | n+1,l,h,hb=>by
  rw [qaa (fn:=c_276) rfl rfl];have hll:=qd9 l;generalize hX:some (Rt.val (AV.int .i64 ((pre l).length:Nat)))=X;simp [c_276];refine qao l.length (fun i e=>look 0 e=some (.slice 5 (l.map ControlNode.c))∧look 3 e=some (.int .i64 ((pre (l.take i)).length:Nat))∧look 4 e=some (.int .i64 i)) (fun i=>X) ?_ ?_ 0 _ (Nat.zero_le _) ?_
  ·rintro i e L hi hL ⟨h0,h3,h4⟩ ih;have hw:IntKind.wrap .i64 ((i:Int)+1)=((i+1:Nat):Int):=qac (by omega) (by omega);obtain ⟨k,t,c,a,b,hx⟩:=qc3 l[i];have hm:l[i]∈l:=List.getElem_mem hi;have hs:SizeOf.sizeOf l[i]<SizeOf.sizeOf l:=List.sizeOf_lt_of_mem hm;have ht:=qif hi;have htl:(pre (l.take (i+1))).length≤(pre l).length:=by
    have:pre l=pre (l.take (i+1))++pre (l.drop (i+1)):=by rw [← qee,List.take_append_drop]
    rw [this];simp
   rw [hx] at hs ht;rw [qem] at ht;simp at hs;have htl2:=congrArg List.length ht;simp at htl2;have i1:=qli n a (by omega) (by omega);have i2:=qli n b (by omega) (by omega);have w1:IntKind.wrap .i64 (1+((pre a).length:Int))=1+((pre a).length:Int):=qac (by omega) (by omega);have w2:IntKind.wrap .i64 (1+((pre a).length:Int)+((pre b).length:Int))=1+((pre a).length:Int)+((pre b).length:Int):=qac (by omega) (by omega);have w3:IntKind.wrap .i64 (((pre (l.take i)).length:Int)+(1+((pre a).length:Int)+((pre b).length:Int)))=((pre (l.take i)).length:Int)+(1+((pre a).length:Int)+((pre b).length:Int)):=qac (by omega) (by omega);simp [c_276_l0,h0,h3,h4,hi,hw,hx,ControlNode.e,i1,i2,w1,w2,w3];refine ih _ ⟨by simp [h0],?_,by simp⟩;rw [htl2];simp;omega
  ·rintro e L hL ⟨h0,h3,h4⟩;rw [List.take_length] at h3;simp [c_276_l0,c_276_k1,h0,h3,h4,hL,← hX]
  ·simp [pre]
theorem qmo:∀a b:List ControlNode,nest (a++b)=max (nest a) (nest b)
 | [],b=>by simp [nest]
 | x::a,b=>by rw [List.cons_append,nest,qmo a b,nest];omega
theorem qnb:∀(n:Nat) (l:List ControlNode),SizeOf.sizeOf l≤n→(pre l).length<2^40→qab Φ f_277 [.slice 5 (l.map ControlNode.c)]=some (.val (.int .i64 (nest l:Nat)))
 | 0,l,h,hb=>by cases l<;>simp at h
 | n+1,l,h,hb=>by
  rw [qaa (fn:=c_277) rfl rfl];have hll:=qd9 l;generalize hX:some (Rt.val (AV.int .i64 (nest l:Nat)))=X;simp [c_277];refine qao l.length (fun i e=>look 0 e=some (.slice 5 (l.map ControlNode.c))∧look 3 e=some (.int .i64 (nest (l.take i):Nat))∧look 4 e=some (.int .i64 i)) (fun i=>X) ?_ ?_ 0 _ (Nat.zero_le _) ?_
  ·rintro i e L hi hL ⟨h0,h3,h4⟩ ih;have hw:IntKind.wrap .i64 ((i:Int)+1)=((i+1:Nat):Int):=qac (by omega) (by omega);obtain ⟨k,t,c,a,b,hx⟩:=qc3 l[i];have hm:l[i]∈l:=List.getElem_mem hi;have hs:SizeOf.sizeOf l[i]<SizeOf.sizeOf l:=List.sizeOf_lt_of_mem hm;have hp:=qpd hi;have hn:nest (l.take (i+1))=max (nest (l.take i)) (1+qg4 l[i]):=by
    rw [List.take_succ_eq_append_getElem hi,qmo];simp [nest]
   rw [hx] at hs hp hn;rw [qem] at hp;rw [qm6] at hn;simp at hs hp;have i1:=qnb n a (by omega) (by omega);have i2:=qnb n b (by omega) (by omega);have l1:=qh5 a;have l2:=qh5 b;have w1:IntKind.wrap .i64 (1+(nest a:Int))=1+(nest a:Int):=qac (by omega) (by omega);have w2:IntKind.wrap .i64 (1+(nest b:Int))=1+(nest b:Int):=qac (by omega) (by omega);simp [c_277_l0,h0,h3,h4,hi,hw,hx,ControlNode.e,i1,i2,w1,w2];refine ih _ ⟨by simp [h0],?_,by simp⟩;simp [hn];split<;>split<;>omega
  ·rintro e L hL ⟨h0,h3,h4⟩;rw [List.take_length] at h3;simp [c_277_l0,c_277_k1,h0,h3,h4,hL,← hX]
  ·simp [nest]
theorem qi7:∀(n:Nat) (l:List ControlNode),SizeOf.sizeOf l≤n→(pre l).length<2^30→qab Φ f_278 [.slice 5 (l.map ControlNode.c)]=some (.val (.slice 5 ((pre l).map ControlNode.c)))
 | 0,l,h,hb=>by cases l<;>simp at h
 | n+1,l,h,hb=>by
  rw [qaa (fn:=c_278) rfl rfl];have hll:=qd9 l;generalize hX:some (Rt.val (AV.slice 5 ((pre l).map ControlNode.c)))=X;simp [c_278];refine qey l.length (fun i e H=>look 0 e=some (.slice 5 (l.map ControlNode.c))∧look 3 e=some (.app 5 ((pre (l.take i)).map ControlNode.c) 0)∧look 4 e=some (.int .i64 i)∧H=⟨[(0,.tok 5 (pre (l.take i)).length)],1⟩) (fun i=>X) ?_ ?_ 0 _ _ (Nat.zero_le _) ?_
  ·rintro i e _ L hi hL ⟨h0,h3,h4,rfl⟩ ih;have hw:IntKind.wrap .i64 ((i:Int)+1)=((i+1:Nat):Int):=qac (by omega) (by omega);obtain ⟨k,t,c,a,b,hx⟩:=qc3 l[i];have hm:l[i]∈l:=List.getElem_mem hi;have hs:SizeOf.sizeOf l[i]<SizeOf.sizeOf l:=List.sizeOf_lt_of_mem hm;have ht:=qif hi;have htl:(pre (l.take (i+1))).length≤(pre l).length:=by
    have:pre l=pre (l.take (i+1))++pre (l.drop (i+1)):=by rw [← qee,List.take_append_drop]
    rw [this];simp
   rw [hx] at hs ht;rw [qem] at ht;simp at hs;have htl2:=congrArg List.length ht;simp at htl2;have i1:=qi7 n a (by omega) (by omega);have i2:=qi7 n b (by omega) (by omega);have b1:((pre (l.take i)).length+1)*88≤70368744177664:=by omega
   have b2:((pre (l.take i)).length+1+(pre a).length)*88≤70368744177664:=by omega
   have b3:((pre (l.take i)).length+(1+(pre a).length)+(pre b).length)*88≤70368744177664:=by omega
   have b4:((pre (l.take i)).length+1+(pre a).length+(pre b).length)*88≤70368744177664:=by omega
   have e6:(pre (l.take i)).length+((pre a).length+1)=(pre (l.take i)).length+1+(pre a).length:=by omega
   have b5:((pre (l.take i)).length+(1+(pre a).length))*88≤70368744177664:=by omega
   simp [c_278_l0,h0,h3,h4,hi,hw,hx,ControlNode.e,i1,i2,e6,b1,b2,b4];refine ih _ _ ⟨by simp [h0],?_,by simp,?_⟩
   ·simp [ht,ControlNode.e]
   ·simp [htl2];omega
  ·rintro e _ L hL ⟨h0,h3,h4,rfl⟩;rw [List.take_length] at h3;simp [c_278_l0,c_278_k1,h0,h3,h4,hL,← hX]
  ·simp [pre]
theorem qmp (k t:Int) (c:List ExprNode) (a b:List ControlNode):qab Φ f_341 [.agg (ControlNode.c (.mk k t c a b))]=some (.val (.bool (appl (.mk k t c a b)))):=by
 rw [qaa (fn:=c_341) rfl rfl];by_cases k1:k=1
 ·simp [c_341,ControlNode.e,appl,k1]
 ·simp [c_341,ControlNode.e,appl,k1]
theorem qwx (l:List ControlNode) (i:Nat) (hi:i<l.length) (hl:l.length<2^40):qab Φ f_326 [.slice 5 (l.map ControlNode.c),.int .i64 i]=some (.val (.bool ((l.take i).any fun y=>appl y&&decide (y.table=l[i].table)))):=by
 rw [qaa (fn:=c_326) rfl rfl];generalize hX:some (Rt.val (.bool ((l.take i).any fun y=>appl y&&decide (y.table=l[i].table))))=X;simp [c_326];refine (qdb (l.take i) (fun y=>appl y&&decide (y.table=l[i].table)) (some (Rt.val (.bool true))) (some (Rt.val (.bool false)))
  (fun k e H=>look 0 e=some (.slice 5 (l.map ControlNode.c))∧look 1 e=some (.int .i64 i)∧look 5 e=some (.int .i64 k)∧H=⟨[],0⟩) ?_ ?_ ?_ _ _ ?_).trans ?_
 ·rintro j e _ L hk hL ⟨h0,h1,h5,rfl⟩ hb;simp only [List.length_take] at hk;have hk1:j<i:=by omega
  have hk2:j<l.length:=by omega
  simp only [List.getElem_take,Bool.and_eq_true,decide_eq_true_eq] at hb;obtain ⟨k,t,c,a,b,hx⟩:=qc3 l[j];obtain ⟨k',t',c',a',b',hx'⟩:=qc3 l[i];have ha:=qmp k t c a b;rw [hx,hx'] at hb;simp only [ControlNode.table_mk] at hb;obtain ⟨hb1,hb2⟩:=hb;subst hb2;rw [hb1] at ha;simp only [ControlNode.e] at ha;simp [c_326_l0,h0,h1,h5,hk1,hk2,hi,hx,hx',ControlNode.e,ha]
 ·rintro j e _ L X hk hL ⟨h0,h1,h5,rfl⟩ hb ih;simp only [List.length_take] at hk;have hk1:j<i:=by omega
  have hk2:j<l.length:=by omega
  have hw:IntKind.wrap .i64 ((j:Int)+1)=((j+1:Nat):Int):=qac (by omega) (by omega);simp only [List.getElem_take] at hb;obtain ⟨k,t,c,a,b,hx⟩:=qc3 l[j];obtain ⟨k',t',c',a',b',hx'⟩:=qc3 l[i];have ha:=qmp k t c a b;rw [hx,hx'] at hb;simp only [ControlNode.table_mk] at hb;cases q:appl (.mk k t c a b) with
  | false=>
   rw [q] at ha;simp only [ControlNode.e] at ha;simp [c_326_l0,h0,h1,h5,hk1,hk2,hx,ControlNode.e,ha,hw];exact ih _ _ ⟨by simp [h0],by simp [h1],by simp,rfl⟩
  | true=>
   rw [q] at ha hb;simp only [ControlNode.e] at ha;simp only [Bool.true_and,decide_eq_false_iff_not] at hb;simp [c_326_l0,h0,h1,h5,hk1,hk2,hi,hx,hx',ControlNode.e,ha,hb,hw];exact ih _ _ ⟨by simp [h0],by simp [h1],by simp,rfl⟩
 ·rintro e _ L hL ⟨h0,h1,h5,rfl⟩;have hm:min i l.length=i:=by omega
  simp [hm] at h5;simp [c_326_l0,c_326_k1,h1,h5,hL]
 ·simp
 ·rw [← hX];cases (l.take i).any (fun y=>appl y&&decide (y.table=l[i].table))<;>rfl
theorem qyl (p:Prg) (l:List ControlNode) (i:Nat) (hi:i<l.length) (hl:l.length<2^40) (hc:l[i].thn.length<2^40∧l[i].els.length<2^40):qab Φ f_279 [.agg (Prg.c p),.slice 5 (l.map ControlNode.c),.int .i64 i]=some (.val (.int .i64 (qcp p (l.take i) l[i]))):=by
 rw [qaa (fn:=c_279) rfl rfl];have hb:=qwx l i hi hl;obtain ⟨k,t,c,a,b,hx⟩:=qc3 l[i];rw [hx] at hc hb ⊢;simp only [ControlNode.thn_mk,ControlNode.els_mk] at hc;have hab:IntKind.wrap .i64 ((a.length:Int)+b.length)=(a.length:Int)+b.length:=qac (by omega) (by omega);by_cases k0:k<1
 ·rw [show qcp p (l.take i) (.mk k t c a b)=11 by simp [qcp,show ¬k=2 by omega,show ¬k=1 by omega,show ¬k=3 by omega]];simp [c_279,hi,hx,ControlNode.e,Prg.e,k0]
 by_cases k4:3<k
 ·rw [show qcp p (l.take i) (.mk k t c a b)=11 by simp [qcp,show ¬k=2 by omega,show ¬k=1 by omega,show ¬k=3 by omega]];simp [c_279,hi,hx,ControlNode.e,Prg.e,k0,k4]
 by_cases k2:k=2
 ·have he:=qpi p [] c;simp only [qag,List.map_nil] at he;by_cases z:(exE p [] c).2=0
  ·rw [z] at he;by_cases y:(exE p [] c).1=1
   ·rw [y] at he;simp [c_279,hi,hx,ControlNode.e,Prg.e,k2,qcp,he,z,y]
   ·simp [c_279,hi,hx,ControlNode.e,Prg.e,k2,qcp,he,z,y]
  ·simp [c_279,hi,hx,ControlNode.e,Prg.e,k2,qcp,he,z]
 have k13:k=1∨k=3:=by omega
 by_cases t0:t<0
 ·rw [show qcp p (l.take i) (.mk k t c a b)=8 by simp [qcp,k2,k13,t0]];simp [c_279,hi,hx,ControlNode.e,Prg.e,k0,k4,k2,t0]
 by_cases t1:(p.tables.length:Int)≤t
 ·rw [show qcp p (l.take i) (.mk k t c a b)=8 by simp [qcp,k2,k13,t0,t1]];simp [c_279,hi,hx,ControlNode.e,Prg.e,k0,k4,k2,t0,t1]
 cases q:(l.take i).any (fun y=>appl y&&decide (y.table=(ControlNode.mk k t c a b).table)) with
 | true=>
  rw [q] at hb;have e:qcp p (l.take i) (.mk k t c a b)=7:=by
   unfold qcp;rw [q];simp [k2,k13,t0,t1]
  rw [e];simp [c_279,hi,hx,ControlNode.e,Prg.e,k0,k4,k2,t0,t1,hb]
 | false=>
  rw [q] at hb;have e:qcp p (l.take i) (.mk k t c a b)=if k=1∧0<a.length+b.length then 5 else 0:=by
   unfold qcp;rw [q];simp [k2,k13,t0,t1]
  rw [e];by_cases k1:k=1
  ·by_cases z:0<a.length+b.length
   ·have z':(0:Int)<(a.length:Int)+b.length:=by omega
    simp [c_279,hi,hx,ControlNode.e,Prg.e,k1,t0,t1,hb,hab,z,z']
    first
     | done
     | (intro h;simp [h] at z;omega)
   ·have za:a.length=0:=by omega
    have zb:b.length=0:=by omega
    simp [c_279,hi,hx,ControlNode.e,Prg.e,k1,t0,t1,hb,za,zb];rw [show IntKind.wrap .i64 0=0 by decide];simp [List.eq_nil_of_length_eq_zero za,List.eq_nil_of_length_eq_zero zb]
  ·simp [c_279,hi,hx,ControlNode.e,Prg.e,k0,k4,k2,k1,t0,t1,hb]
mutual
theorem qx8:∀(x:ControlNode) (n:Nat),(pre1 x).length≤n→∀y∈pre1 x,y.thn.length≤n∧y.els.length≤n
 | .mk k t c a b,n,h,y,hy=>by
  rw [qem] at h hy;simp at h;have ha:=qd9 a;have hb:=qd9 b;rcases List.mem_cons.1 hy with rfl | hy
  ·simp;omega
  ·rcases List.mem_append.1 hy with hy | hy
   ·exact qkd a n (by omega) y hy
   ·exact qkd b n (by omega) y hy
theorem qkd:∀(l:List ControlNode) (n:Nat),(pre l).length≤n→∀y∈pre l,y.thn.length≤n∧y.els.length≤n
 | [],n,h,y,hy=>by simp [pre] at hy
 | x::r,n,h,y,hy=>by
  rw [pre] at h hy;simp at h;rcases List.mem_append.1 hy with hy | hy
  ·exact qx8 x n (by omega) y hy
  ·exact qkd r n (by omega) y hy
end
theorem qaao (p:Prg) (hl:(pre p.control).length<2^40 - 1):qab Φ f_202 [.agg (Prg.c p)]=some (.val (.tup [.int .i64 (ctlE p).1,.int .i64 (ctlE p).2])):=by
 rw [qaa (fn:=c_202) rfl rfl];have hc:=qli _ p.control (Nat.le_refl _) (by omega);have hn:=qnb _ p.control (Nat.le_refl _) (by omega);by_cases z1:24<(pre p.control).length
 ·simp [c_202,Prg.e,hc,ctlE,z1]
 by_cases z2:6<nest p.control
 ·simp [c_202,Prg.e,hc,hn,ctlE,z1,z2]
 have hE:ctlE p=(fe (ctlG p (pre p.control)) (pre p.control).length 0).getD (0,0):=by unfold ctlE;rw [if_neg z1,if_neg z2];rfl
 have hp:=qi7 _ p.control (Nat.le_refl _) (by omega);rw [hE];simp [c_202,Prg.e,hc,hn,hp,z1,z2];refine qao (pre p.control).length (fun i e=>look 1 e=some (.iptr 9 [Prg.c p] 0 0)∧look 4 e=some (.slice 5 ((pre p.control).map ControlNode.c))∧look 5 e=some (.int .i64 i))
  (fun i=>some (Rt.val (.tup [.int .i64 ((fe (ctlG p (pre p.control)) (pre p.control).length i).getD (0,0)).1,.int .i64 ((fe (ctlG p (pre p.control)) (pre p.control).length i).getD (0,0)).2]))) ?_ ?_ 0 _ (Nat.zero_le _) ?_
 ·rintro i e L hi hL ⟨h1,h4,h5⟩ ih;have hw:IntKind.wrap .i64 ((i:Int)+1)=((i+1:Nat):Int):=qac (by omega) (by omega);have hk:=qkd p.control 24 (by omega) _ (List.getElem_mem hi);have hE:=qyl p (pre p.control) i hi (by omega) ⟨by omega,by omega⟩;simp only [Prg.e] at hE;rw [Prg.e] at h1;by_cases y:qcp p ((pre p.control).take i) (pre p.control)[i]=0
  ·rw [y] at hE;rw [qap hi (by simp [ctlG,hi,y])];simp [c_202_l0,h1,h4,h5,hi,hE,hw];exact ih _ ⟨by simp [h1,Prg.e],by simp [h4],by simp⟩
  ·rw [qai (x:=((i:Int),qcp p ((pre p.control).take i) (pre p.control)[i])) hi (by simp [ctlG,hi,y])];simp [c_202_l0,h1,h4,h5,hi,hE,y]
 ·rintro e L hL ⟨h1,h4,h5⟩;rw [qa0];simp [c_202_l0,c_202_k1,h4,h5,hL]
 ·simp [Prg.e]
theorem qp7 {Φ:FuncId→Option AFun} {β:Type} {fin:Option (Ex×St)→Option β} {α:Type} (l:List α) (bad:α→Bool) (Rb Re:Option β) (Inv:Nat→Bool→Env→AH→Prop) {b:ACode} {K:List Fr}
  (hit:∀i e h L X (hi:i<l.length),(∀j s,go Φ fin L (.exit j) s=go Φ fin K (.exit j) s)→Inv i false e h→bad l[i]=true→(∀e' h',Inv (i+1) true e' h'→go Φ fin L .normal ⟨e',h'⟩=X)→go Φ fin (.c b::L) .normal ⟨e,h⟩=X)
  (miss:∀i e h L X (hi:i<l.length),(∀j s,go Φ fin L (.exit j) s=go Φ fin K (.exit j) s)→Inv i false e h→bad l[i]=false→(∀e' h',Inv (i+1) false e' h'→go Φ fin L .normal ⟨e',h'⟩=X)→go Φ fin (.c b::L) .normal ⟨e,h⟩=X)
  (stop:∀i e h L,i≤l.length→(∀j s,go Φ fin L (.exit j) s=go Φ fin K (.exit j) s)→Inv i true e h→go Φ fin (.c b::L) .normal ⟨e,h⟩=Rb)
  (last:∀e h L,(∀j s,go Φ fin L (.exit j) s=go Φ fin K (.exit j) s)→Inv l.length false e h→go Φ fin (.c b::L) .normal ⟨e,h⟩=Re):
  ∀e h,Inv 0 false e h→go Φ fin (.c (.loop b)::K) .normal ⟨e,h⟩=if l.any bad then Rb else Re:=by
 intro e h h0;refine (qsa (σ:=Nat×Bool) (fun x=>if x.2 then 0 else l.length - x.1+1) (fun x e h=>x.1≤l.length∧Inv x.1 x.2 e h) (fun x=>if x.2 then Rb else if qa2 l bad x.1 then Rb else Re) ?_ (0,false) e h ⟨Nat.zero_le _,h0⟩).trans (by simp [qia]);rintro ⟨i,f⟩ e h L hL ⟨hi,hinv⟩ ih;cases f with
 | true=>exact stop i e h L hi hL hinv
 | false=>
  simp only [Bool.false_eq_true,if_false];rcases Nat.lt_or_eq_of_le hi with hlt | heq
  ·cases hb:bad l[i] with
   | true=>
    rw [qe2 hlt hb,if_pos rfl];exact hit i e h L _ hlt hL hinv hb fun e' h' hi'=>ih (i+1,true) e' h' (by simp) ⟨by simp;omega,hi'⟩
   | false=>
    rw [qc8 hlt hb];refine miss i e h L _ hlt hL hinv hb fun e' h' hi'=>?_
    have:=ih (i+1,false) e' h' (by simp;simp at hlt;omega) ⟨by simp;omega,hi'⟩;simpa using this
  ·simp only at heq;subst heq;rw [qe1];exact last e h L hL hinv
def dgR (o:Option Dg):Rt:= .val (.agg (dgC (o.getD (0,0,0,0))))
def dH:AH:=⟨[(0,.row 4 [[.int .i64 0,.int .i64 0,.int .i64 0,.int .i64 0]])],1⟩
theorem qb3 (a b c d:Int):qab Φ f_195 [.int .i64 a,.int .i64 b,.int .i64 c,.int .i64 d]=some (.val (.agg [.int .i64 a,.int .i64 b,.int .i64 c,.int .i64 d])):=by
 rw [qaa (fn:=c_195) rfl rfl];simp [c_195]
theorem qaem (p:Prg) (f:PrgS p):qab Φ f_125 [.agg (Prg.c p)]=some (dgR (limD p)):=by
 rw [qaa (fn:=c_125) rfl rfl];have n1:=qdy p.name f.n;cases q1:idS p.name with
 | false=>rw [q1] at n1;simp [c_125,Prg.e,n1,qb3,limD,q1,dgR,dgC]
 | true=>
 rw [q1] at n1;by_cases z1:8<p.headers.length
 ·simp [c_125,Prg.e,n1,qb3,limD,q1,dgR,dgC,z1]
 by_cases z2:4<p.registers.length
 ·simp [c_125,Prg.e,n1,qb3,limD,q1,dgR,dgC,z1,z2]
 by_cases z3:16<p.actions.length
 ·simp [c_125,Prg.e,n1,qb3,limD,q1,dgR,dgC,z1,z2,z3]
 by_cases z4:12<p.tables.length
 ·simp [c_125,Prg.e,n1,qb3,limD,q1,dgR,dgC,z1,z2,z3,z4]
 simp [c_125,Prg.e,n1,limD,q1,dgR,dgC,z1,z2,z3,z4]
theorem qaat (p:Prg) (f:PrgS p):qab Φ f_126 [.agg (Prg.c p)]=some (dgR (hdrD p)):=by
 rw [qaa (fn:=c_126) rfl rfl,show hdrD p=fe (hdrG p) p.headers.length 0 from rfl];simp [c_126,Prg.e];refine qao p.headers.length (fun i e=>look 1 e=some (.iptr 9 [Prg.c p] 0 0)∧look 2 e=some (.ptr 0 4 0 0)∧look 3 e=some (.int .i64 i))
  (fun i=>some (dgR (fe (hdrG p) p.headers.length i))) ?_ ?_ 0 _ (Nat.zero_le _) ?_
 ·rintro i e L hi hL ⟨h1,h2,h3⟩ ih;have hlen:=f.h;have hw:IntKind.wrap .i64 ((i:Int)+1)=((i+1:Nat):Int):=qac (by omega) (by omega);have hm:=List.getElem_mem hi;have eh:=qaau p.headers[i] (f.hn _ hm) (f.hf _ hm);simp only [Header.e] at eh;rw [Prg.e] at h1;have bad:∀c:Int,c≠0→qe5 p i p.headers[i]=c→fe (hdrG p) p.headers.length i=some (c,1,(i:Int),0):=fun c h0 h=>qai hi (by simp [hdrG,hi,h,h0])
  by_cases z1:hdrE p.headers[i]=0
  rotate_left
  ·rw [bad _ z1 (by simp [qe5,z1])];simp [c_126_l3,Header.e,h1,h3,hi,eh,z1];rw [qay];by_cases hi0:0<i<;>simp [c_126_l0,c_126_k1,h2,h3,z1,hi0,qb3,dgR,dgC]
  by_cases z2:p.headers[i].name=[109,101,116,97]
  ·rw [bad 6 (by decide) (by simp [qe5,z1,z2])];rw [z2] at eh;simp [c_126_l3,Header.e,h1,h3,hi,eh,z1,z2];rw [qay];by_cases hi0:0<i<;>simp [c_126_l0,c_126_k1,h2,h3,hi0,qb3,dgR,dgC]
  generalize hX:some (dgR (fe (hdrG p) p.headers.length i))=X;simp [c_126_l3,Header.e,h1,h3,hi,eh,z1,z2];refine (qp7 (p.headers.take i) (fun y=>decide (y.name=p.headers[i].name)) (some (dgR (some (7,1,(i:Int),0)))) (some (dgR (fe (hdrG p) p.headers.length (i+1))))
   (fun k b e H=>look 1 e=some (.iptr 9 [Prg.c p] 0 0)∧look 2 e=some (.ptr 0 4 0 0)∧look 3 e=some (.int .i64 i)∧look 4 e=some (.int .i64 (if b then 7 else 0))∧look 5 e=some (.int .i64 k)∧H=dH) ?_ ?_ ?_ ?_ _ _ ?_).trans ?_
  ·rintro k e _ L' Y hk hL' ⟨h1,h2,h3,h4,h5,rfl⟩ hb ih';simp only [List.length_take] at hk;have hk1:k<i:=by omega
   have hk2:k<p.headers.length:=by omega
   have hw':IntKind.wrap .i64 ((k:Int)+1)=((k+1:Nat):Int):=qac (by omega) (by omega);simp only [List.getElem_take,decide_eq_true_eq] at hb;rw [Prg.e] at h1;simp at h4;simp [c_126_l0,Header.e,h1,h3,h4,h5,hk1,hk2,hi,hb,hw'];exact ih' _ _ ⟨by simp [h1,Prg.e],by simp [h2],by simp [h3],by simp,by simp,rfl⟩
  ·rintro k e _ L' Y hk hL' ⟨h1,h2,h3,h4,h5,rfl⟩ hb ih';simp only [List.length_take] at hk;have hk1:k<i:=by omega
   have hk2:k<p.headers.length:=by omega
   have hw':IntKind.wrap .i64 ((k:Int)+1)=((k+1:Nat):Int):=qac (by omega) (by omega);simp only [List.getElem_take,decide_eq_false_iff_not] at hb;rw [Prg.e] at h1;simp at h4;simp [c_126_l0,Header.e,h1,h3,h4,h5,hk1,hk2,hi,hb,hw'];exact ih' _ _ ⟨by simp [h1,Prg.e],by simp [h2],by simp [h3],by simp [h4],by simp,rfl⟩
  ·rintro k e _ L' hk hL' ⟨h1,h2,h3,h4,h5,rfl⟩;simp only [List.length_take] at hk;simp at h4;by_cases hk1:k<i
   ·simp [c_126_l0,c_126_k1,h2,h3,h4,h5,hk1,hL',qb3,dgR,dgC,dH]
   ·simp [c_126_l0,c_126_k1,h2,h3,h4,h5,hk1,hL',qb3,dgR,dgC,dH]
  ·rintro e _ L' hL' ⟨h1,h2,h3,h4,h5,rfl⟩;have hmn:min i p.headers.length=i:=by omega
   simp [hmn] at h4 h5;simp [c_126_l0,c_126_k1,c_126_k2,h3,h4,h5,hL',hw];exact ih _ ⟨by simp [h1],by simp [h2],by simp⟩
  ·simp [h1,h2,h3,Prg.e,dH]
  ·rw [← hX];cases q:dupN Header.name p.headers i p.headers[i] with
   | true=>
    rw [bad 7 (by decide) (by simp [qe5,z1,z2,q])];unfold dupN at q;rw [q];rfl
   | false=>
    rw [qap hi (by simp [hdrG,hi,qe5,z1,z2,q])];unfold dupN at q;rw [q];rfl
 ·rintro e L hL ⟨h1,h2,h3⟩;rw [qa0];rw [Prg.e] at h1;simp [c_126_l3,c_126_k4,h1,h2,h3,hL,dgR,dgC]
 ·simp [Prg.e]
end Go.Av
