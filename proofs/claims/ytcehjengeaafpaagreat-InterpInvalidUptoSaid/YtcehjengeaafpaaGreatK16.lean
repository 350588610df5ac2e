/-
 Nesting and number of control nodes: the program's answers.
-/
import Derived.Test.YtcehjengeaafpaaGreatSP4
set_option linter.unusedVariables false
set_option linter.unusedSimpArgs false
set_option linter.constructorNameAsVariable false
namespace Go.Av
set_option maxRecDepth 4000
theorem K9:∀a b:List Xa,pre (a++b)=pre a++pre b
 | [],b=>by simp [pre]
 | x::a,b=>by simp [pre,K9 a b]
theorem V6 {l:List Xa} {i:Nat} (hi:i<l.length):pre (l.take (i+1))=pre (l.take i)++pre1 l[i]:=by
 rw [Qh hi,K9];simp [pre]
theorem FO (k t:Int) (c:List Xd) (a b:List Xa):pre1 (.mk k t c a b)= .mk k t c a b::(pre a++pre b):=by simp [pre1]
theorem Bc (x:Xa):1<=(pre1 x).length:=by
 cases x;rw [FO];simp
theorem CZ:∀l:List Xa,l.length<=(pre l).length
 | []=>by simp
 | x::r=>by
  have:=CZ r;have:=Bc x;simp [pre];omega
theorem Sa {l:List Xa} {i:Nat} (hi:i<l.length):(pre1 l[i]).length<=(pre l).length:=by
 have h:pre l=pre (l.take i)++(pre1 l[i]++pre (l.drop (i+1))):=by
  conv=>lhs;rw [<- ER i l,K9,Qi hi]
  simp [pre]
 rw [h];simp;omega
def n6 (l:List Xa):Nat:=match l with
 | []=>0
 | x::r=>max (EH x) (n6 r)
theorem Rs:∀l:List Xa,l≠[]->nest l=n6 l+1
 | [],h=>absurd rfl h
 | [x],_=>by simp [nest,n6];omega
 | x::y::r,_=>by
  have:=Rs (y::r) (by simp);rw [nest,n6,this];omega
theorem Va:∀a b:List Xa,n6 (a++b)=max (n6 a) (n6 b)
 | [],b=>by simp [n6]
 | x::a,b=>by rw [n9,n6,Va a b,n6];omega
theorem qye {l:List Xa} {i:Nat} (hi:i<l.length):n6 (l.take (i+1))=max (n6 (l.take i)) (EH l[i]):=by
 rw [Qh hi,Va];simp [n6]
theorem Rj (k t:Int) (c:List Xd) (a b:List Xa):EH (.mk k t c a b)=max (nest a) (nest b):=by simp [EH]
mutual
theorem Ak:∀x:Xa,EH x<(pre1 x).length
 | .mk k t c a b=>by
  have h1:=P5 a;have h2:=P5 b;rw [Rj,FO];simp;omega
theorem P5:∀l:List Xa,nest l<=(pre l).length
 | []=>by simp [nest]
 | x::r=>by
  have h1:=Ak x;have h2:=P5 r;rw [nest,pre];simp;omega
end
theorem Al (l:List Xa):n6 l<=(pre l).length:=by
 cases l with
 | nil=>simp [n6]
 | cons x r=>have:=Rs (x::r) (by simp);have:=P5 (x::r);omega
theorem CY (x:Xa):∃k t c a b,x= .mk k t c a b:=by
 cases x with
 | mk k t c a b=>exact ⟨k,t,c,a,b,rfl⟩
theorem Ru:∀(n:Nat) (l:List Xa),SizeOf.sizeOf l<=n->(pre l).length<2^40->a8 Φ pO [.slice 5 (l.map Xa.c)]=some (.val (a7 (nest l:Nat)))
 | 0,l,h,hb=>by cases l<;>simp at h
 | n+1,l,h,hb=>by
  rw [aA rfl rfl];have hll:=CZ l;by_cases z:l.length=0
  ·have:l=[]:=Qg z;subst this;simp [yX,nest]
  have hne:l≠[]:=by intro h;subst h;simp at z
  rw [Rs l hne];simp [yX,z];refine dV l.length (fun _=>[]) 0 (fun i e=>look 3 e=some (a7 (n6 (l.take i):Nat))/\look 9 e=some (.slice 5 (l.map Xa.c))/\look 10 e=some (a7 l.length)/\look 11 e=some (a7 i))
   (fun i=>some (Rt.val (a7 ((n6 l:Nat)+1)))) ?_ ?_ 0 _ 0 (Qc _) (Qb _) ?_
  ·rintro i e m L hi hL _ ⟨h3,h9,h10,h11⟩ ih;have hw:=aM i (by omega);obtain ⟨k,t,c,a,b,hx⟩:=CY l[i];have hm:l[i]∈l:=Qd hi;have hs:SizeOf.sizeOf l[i]<SizeOf.sizeOf l:=O8 hm;have hp:=Sa hi;rw [hx] at hs hp;rw [FO] at hp;simp at hs hp;have i1:=Ru n a (by omega) (by omega);have i2:=Ru n b (by omega) (by omega);have hM:=qye hi;rw [hx,Rj] at hM;simp [c_317_l0,h3,h9,h10,h11,hi,hw,hx,Xa.e,i1,i2];refine ih _ _ (Qc _) ⟨?_,by simp [h9],by simp [h10],by simp⟩;simp [hM];split<;>split<;>omega
  ·rintro e m L hL _ ⟨h3,h9,h10,h11⟩;rw [jQ] at h3;have:=Al l;have hw:IntKind.wrap .i64 ((n6 l:Int)+1)=(n6 l:Int)+1:=cN (by omega) (by omega);simp [c_317_l0,c_317_k1,h3,h10,h11,hL,hw]
  ·simp [n6]
theorem qti {Φ:FuncId->Option AFun} {I:Type} {fin:Option (Ex×St)->Option I} (N:Nat) (Inv:Nat->Env->AH->Prop) (Q:Option I->Prop) {b:Xu} {K:List Fr}
  (step:∀i e h L,i<N->(∀j s,go Φ fin L (.exit j) s=go Φ fin K (.exit j) s)->Inv i e h->(∀e' h',Inv (i+1) e' h'->Q (go Φ fin L .normal ⟨e',h'⟩))->Q (go Φ fin (.c b::L) .normal ⟨e,h⟩))
  (last:∀e h L,(∀j s,go Φ fin L (.exit j) s=go Φ fin K (.exit j) s)->Inv N e h->Q (go Φ fin (.c b::L) .normal ⟨e,h⟩)):
  ∀i e h,i<=N->Inv i e h->Q (go Φ fin (.c (.loop b)::K) .normal ⟨e,h⟩):=by
 have key:∀n i e h,N - i<=n->i<=N->Inv i e h->Q (go Φ fin (.c (.loop b)::K) .normal ⟨e,h⟩):=by
  intro n
  induction n with
  | zero=>
   intro i e h hn hi hv;have:i=N:=by omega
   subst this;rw [bY];exact last e h _ (fun j s=>by simp) hv
  | succ n ih=>
   intro i e h hn hi hv;rcases Qv i N with hlt | hge
   ·rw [bY];exact step i e h _ hlt (fun j s=>by simp) hv fun e' h' hv'=>ih (i+1) e' h' (by omega) (by omega) hv'
   ·have:i=N:=by omega
    subst this;rw [bY];exact last e h _ (fun j s=>by simp) hv
 intro i e h hi hv;exact key (N - i) i e h (Qb _) hi hv
def cntF:AV:= .func (.func uD) [] [.ptr 0 1 0 0]
def cntH (c:Int) (m:Nat):AH:=⟨[(0,.row 1 [[a7 c]])],m⟩
theorem qzm (k t:Int) (cd:List Xd) (a b:List Xa) (c:Int) (m:Nat) (hc:0<=c/\c<2^60):aQ Φ uD [.agg (Xa.c (.mk k t cd a b)),.ptr 0 1 0 0] (cntH c m)=some (.val (.bool true),cntH (c+1) m):=by
 rw [eI rfl rfl];have hw:IntKind.wrap .i64 (c+1)=c+1:=cN (by omega) (by omega);simp [JC,cntH,Xa.e,hw]
theorem Ry:∀(n:Nat) (l:List Xa) (c:Int) (m:Nat),1<=m->SizeOf.sizeOf l<=n->0<=c->c+(pre l).length<2^60->(pre l).length<2^40->
  ∃m',m<=m'/\aQ Φ gV [.slice 5 (l.map Xa.c),cntF] (cntH c m)=some (.val (.bool true),cntH (c+(pre l).length) m')
 | 0,l,c,m,_,h,_,_,_=>by cases l<;>simp at h
 | n+1,l,c,m,h1m,h,hc0,hb,hl=>by
  rw [eI rfl rfl];have hll:=CZ l;simp [oN,cntF];refine qti l.length (fun i e H=>look 1 e=some cntF/\look 7 e=some (.slice 5 (l.map Xa.c))/\look 8 e=some (a7 l.length)/\look 9 e=some (a7 i)/\∃m1,m<=m1/\H=cntH (c+(pre (l.take i)).length) m1)
   (fun r=>∃m',m<=m'/\r=some (Rt.val (.bool true),cntH (c+(pre l).length) m')) ?_ ?_ 0 _ _ (Qc _) ?_
  ·rintro i e _ L hi hL ⟨h1,h7,h8,h9,m1,hm1,rfl⟩ ih;have hw:=aM i (by omega);obtain ⟨k,t,cd,a,b,hx⟩:=CY l[i];have hm:l[i]∈l:=Qd hi;have hs:SizeOf.sizeOf l[i]<SizeOf.sizeOf l:=O8 hm;have hp:=Sa hi;have ht:=V6 hi;have htl:(pre (l.take (i+1))).length<=(pre l).length:=by
    have:pre l=pre (l.take (i+1))++pre (l.drop (i+1)):=by rw [<- K9,ER]
    rw [this];simp
   rw [hx] at hs hp ht;rw [FO] at hp ht;simp at hs hp;have htl2:=htl;rw [ht] at htl2;simp at htl2;obtain ⟨c',hc'⟩:∃c':Int,c'=c+(pre (l.take i)).length:=⟨_,rfl⟩;rw [<- hc'];have e1:=qzm k t cd a b c' (m1+1) (by omega);obtain ⟨m2,hm2,e2⟩:=Ry n a (c'+1) (m1+1) (by omega) (by omega) (by omega) (by omega) (by omega);obtain ⟨m3,hm3,e3⟩:=Ry n b (c'+1+(pre a).length) m2 (by omega) (by omega) (by omega) (by omega) (by omega);simp only [cntH,cntF,Xa.e] at e1 e2 e3;have hn0:¬(0=m1):=by omega
   have hn1:¬(m1=0):=by omega
   simp only [cntF] at h1;simp [c_318_l0,h1,h7,h8,h9,hi,hw,hx,Xa.e,cntH,hn0,e1,e2,e3];refine ih _ _ ⟨by simp [h1,cntF],by simp [h7],by simp [h8],by simp,m3,by omega,?_⟩;rw [ht,hc'];simp [cntH];omega
  ·rintro e _ L hL ⟨h1,h7,h8,h9,m1,hm1,rfl⟩;rw [jQ];refine ⟨m1,hm1,?_⟩;simp [c_318_l0,c_318_k1,h8,h9,hL]
  ·simp [cntF,pre];exact ⟨m,Qb _,rfl⟩
theorem ZP (l:List Xa) (hl:(pre l).length<2^40):a8 Φ BD [.slice 5 (l.map Xa.c)]=some (.val (a7 (pre l).length)):=by
 rw [aA rfl rfl];obtain ⟨m',hm,e⟩:=Ry _ l 0 1 (Qb _) (Qb _) (by omega) (by omega) hl;simp only [cntH,cntF] at e;simp [IW,e]
structure Wk where
 e:Int
 n:Int
 us:List Int
def wk1 (p:Prg) (w:Wk) (x:Xa):Wk:=if w.e≠0 then w else if kQ p w.us x≠0 then ⟨kQ p w.us x,w.n,w.us⟩ else ⟨0,w.n+1,if appl x then w.us++[x.table] else w.us⟩
def wk (p:Prg) (w:Wk) (l:List Xa):Wk:=l.foldl (wk1 p) w
theorem S4 (p:Prg) (w:Wk) (a b:List Xa):wk p w (a++b)=wk p (wk p w a) b:=by simp [wk]
theorem KJ (p:Prg) (w:Wk) (h:w.e≠0):∀l,wk p w l=w
 | []=>rfl
 | x::l=>by
  have:wk1 p w x=w:=by simp [wk1,h]
  show wk p (wk1 p w x) l=w;rw [this];exact KJ p w h l
theorem wk_n (p:Prg):∀(l:List Xa) (w:Wk),w.n<=(wk p w l).n/\(wk p w l).n<=w.n+l.length/\(wk p w l).us.length<=w.us.length+l.length
 | [],w=>by simp [wk]
 | x::l,w=>by
  have h:=wk_n p l (wk1 p w x);show w.n<=(wk p (wk1 p w x) l).n/\(wk p (wk1 p w x) l).n<=w.n+(x::l).length/\(wk p (wk1 p w x) l).us.length<=w.us.length+(x::l).length;have h1:w.n<=(wk1 p w x).n/\(wk1 p w x).n<=w.n+1/\(wk1 p w x).us.length<=w.us.length+1:=by
   unfold wk1;split
   ·simp;omega
   split
   ·simp;omega
   ·refine ⟨by simp;omega,by simp,?_⟩;simp only;split<;>simp
  simp only [EW];omega
def chkF (p:Prg):AV:= .func (.func tZ) [] [.iptr 9 [Prg.c p] 0 0,.ptr 2 1 0 0,.ptr 0 1 0 0,.ptr 1 1 0 0]
def ChkH (w:Wk) (m:Nat) (H:AH):Prop:=3<=m/\((w.us=[]/\H=⟨[(0,.row 1 [[a7 w.e]]),(1,.row 1 [[a7 w.n]]),(2,.row 1 [[.Xt 1 []]])],m⟩)\/
 ∃q,3<=q/\q<m/\H=⟨[(0,.row 1 [[a7 w.e]]),(1,.row 1 [[a7 w.n]]),(2,.row 1 [[.app 1 (w.us.map cI) q]]),(q,.tok 1 w.us.length)],m⟩)
theorem qzf (p:Prg) (k t:Int) (cd:List Xd) (a b:List Xa) (w:Wk) (m:Nat) (H:AH) (hH:ChkH w m H) (he:w.e=0) (hn:0<=w.n/\w.n<2^60) (hu:w.us.length<2^40 - 1) (ha:a.length<2^40) (hb:b.length<2^40):
  ∃m' H',m<=m'/\ChkH (wk1 p w (.mk k t cd a b)) m' H'/\aQ Φ tZ [.agg (Xa.c (.mk k t cd a b)),.iptr 9 [Prg.c p] 0 0,.ptr 2 1 0 0,.ptr 0 1 0 0,.ptr 1 1 0 0] H=some (.val (.bool (decide ((wk1 p w (.mk k t cd a b)).e=0))),H'):=by
 have hw:IntKind.wrap .i64 (w.n+1)=w.n+1:=cN (by omega) (by omega);have hU:=Am p k t cd a b w.us ha hb (by omega);have hA:=qw9 k t cd a b;simp only [Prg.e,Xa.e] at hU hA;obtain ⟨h3,⟨hus,rfl⟩ | ⟨q,hq,hqm,rfl⟩⟩:=hH
 ·rw [eI rfl rfl];rw [hus] at hU;simp only [nW] at hU;by_cases z:kQ p [] (.mk k t cd a b)=0
  ·rw [z] at hU;cases qa:appl (.mk k t cd a b) with
   | true=>
    rw [qa] at hA;have hn0:¬(0=m):=by omega
    have hn1:¬(1=m):=by omega
    have hn2:¬(2=m):=by omega
    have hn0':¬(m=0):=by omega
    have hn1':¬(m=1):=by omega
    have hn2':¬(m=2):=by omega
    refine ⟨m+1,⟨[(0,.row 1 [[a7 0]]),(1,.row 1 [[a7 (w.n+1)]]),(2,.row 1 [[.app 1 [[a7 t]] m]]),(m,.tok 1 1)],m+1⟩,Nat.le_succ _,⟨by omega,.inr ⟨m,h3,by omega,by simp [wk1,he,hus,z,qa,cI]⟩⟩,?_⟩;simp [jZ,Xa.e,Prg.e,hU,wk1,he,hus,z,qa,hA,hw,hn0,hn1,hn2]
   | false=>
    rw [qa] at hA;refine ⟨m,⟨[(0,.row 1 [[a7 0]]),(1,.row 1 [[a7 (w.n+1)]]),(2,.row 1 [[.Xt 1 []]])],m⟩,Qb _,⟨by omega,.inl ⟨by simp [wk1,he,hus,z,qa],by simp [wk1,he,hus,z,qa]⟩⟩,?_⟩;simp [jZ,Xa.e,Prg.e,hU,wk1,he,hus,z,qa,hA,hw]
  ·refine ⟨m,⟨[(0,.row 1 [[a7 (kQ p [] (.mk k t cd a b))]]),(1,.row 1 [[a7 w.n]]),(2,.row 1 [[.Xt 1 []]])],m⟩,Qb _,⟨by omega,.inl ⟨by simp [wk1,he,hus,z],by simp [wk1,he,hus,z]⟩⟩,?_⟩;simp [jZ,Xa.e,Prg.e,hU,wk1,he,hus,z]
 ·rw [eI rfl rfl];have q0:¬(0=q):=by omega
  have q1:¬(1=q):=by omega
  have q2:¬(2=q):=by omega
  have q0':¬(q=0):=by omega
  have q1':¬(q=1):=by omega
  have q2':¬(q=2):=by omega
  have hbb:(w.us.length+1)*8<=70368744177664:=by omega
  by_cases z:kQ p w.us (.mk k t cd a b)=0
  ·rw [z] at hU;cases qa:appl (.mk k t cd a b) with
   | true=>
    rw [qa] at hA;refine ⟨m,⟨[(0,.row 1 [[a7 0]]),(1,.row 1 [[a7 (w.n+1)]]),(2,.row 1 [[.app 1 ((w.us++[t]).map cI) q]]),(q,.tok 1 (w.us.length+1))],m⟩,Qb _,⟨by omega,.inr ⟨q,hq,hqm,by simp [wk1,he,z,qa]⟩⟩,?_⟩;simp [jZ,Xa.e,Prg.e,hU,wk1,he,z,qa,hA,hw,q0,q1,q2,hbb,cI]
   | false=>
    rw [qa] at hA;refine ⟨m,⟨[(0,.row 1 [[a7 0]]),(1,.row 1 [[a7 (w.n+1)]]),(2,.row 1 [[.app 1 (w.us.map cI) q]]),(q,.tok 1 w.us.length)],m⟩,Qb _,⟨by omega,.inr ⟨q,hq,hqm,by simp [wk1,he,z,qa]⟩⟩,?_⟩;simp [jZ,Xa.e,Prg.e,hU,wk1,he,z,qa,hA,hw]
  ·refine ⟨m,⟨[(0,.row 1 [[a7 (kQ p w.us (.mk k t cd a b))]]),(1,.row 1 [[a7 w.n]]),(2,.row 1 [[.app 1 (w.us.map cI) q]]),(q,.tok 1 w.us.length)],m⟩,Qb _,⟨by omega,.inr ⟨q,hq,hqm,by simp [wk1,he,z]⟩⟩,?_⟩;simp [jZ,Xa.e,Prg.e,hU,wk1,he,z]
theorem Pz {w:Wk} {m:Nat} {H:AH} (h:ChkH w m H):∃O,H=⟨O,m⟩/\look m O=none/\∀m',m<=m'->ChkH w m' ⟨O,m'⟩:=by
 obtain ⟨h3,⟨hus,rfl⟩ | ⟨q,hq,hqm,rfl⟩⟩:=h
 ·refine ⟨_,rfl,?_,fun m' hm=>⟨by omega,.inl ⟨hus,rfl⟩⟩⟩;have a0:¬(0=m):=by omega
  have a1:¬(1=m):=by omega
  have a2:¬(2=m):=by omega
  simp [a0,a1,a2]
 ·refine ⟨_,rfl,?_,fun m' hm=>⟨by omega,.inr ⟨q,hq,by omega,rfl⟩⟩⟩;have a0:¬(0=m):=by omega
  have a1:¬(1=m):=by omega
  have a2:¬(2=m):=by omega
  have a3:¬(q=m):=by omega
  simp [a0,a1,a2,a3]
def PK (p:Prg) (l:List Xa) (w:Wk) (m:Nat) (r:Option (Rt×AH)):Prop:=∃m' H',m<=m'/\ChkH (wk p w (pre l)) m' H'/\r=some (.val (.bool (decide ((wk p w (pre l)).e=0))),H')
theorem Rz (p:Prg):∀(n:Nat) (l:List Xa) (w:Wk) (m:Nat) (H:AH),ChkH w m H->w.e=0->SizeOf.sizeOf l<=n->0<=w.n->w.n+(pre l).length<2^60->w.us.length+(pre l).length<2^40 - 1->
  ∃m' H',m<=m'/\ChkH (wk p w (pre l)) m' H'/\aQ Φ gV [.slice 5 (l.map Xa.c),chkF p] H=some (.val (.bool (decide ((wk p w (pre l)).e=0))),H')
 | 0,l,w,m,H,_,_,h,_,_,_=>by cases l<;>simp at h
 | n+1,l,w,m,H,hH,he,h,hn0,hn1,hu=>by
  have hll:=CZ l;obtain ⟨O,rfl,hO,hup⟩:=Pz hH;have goal:PK p l w m (go Φ (finC oN.results) [.c oN.body] .normal ⟨fL 0 [.slice 5 (l.map Xa.c),chkF p],⟨O,m⟩⟩):=by
   simp [oN,chkF];refine qti l.length (fun i e H=>look 1 e=some (chkF p)/\look 7 e=some (.slice 5 (l.map Xa.c))/\look 8 e=some (a7 l.length)/\look 9 e=some (a7 i)/\(wk p w (pre (l.take i))).e=0/\∃m1,m<=m1/\ChkH (wk p w (pre (l.take i))) m1 H)
    (PK p l w m) ?_ ?_ 0 _ _ (Qc _) ?_
   ·rintro i e H1 L hi hL ⟨h1,h7,h8,h9,hw0,m1,hm1,hH1⟩ ih;have hw:=aM i (by omega);obtain ⟨k,t,cd,a,b,hx⟩:=CY l[i];have hm:l[i]∈l:=Qd hi;have hs:SizeOf.sizeOf l[i]<SizeOf.sizeOf l:=O8 hm;have ht:=V6 hi;have hpl:pre l=pre (l.take (i+1))++pre (l.drop (i+1)):=by rw [<- K9,ER]
    have htl:(pre (l.take (i+1))).length<=(pre l).length:=by rw [hpl];simp
    rw [hx] at hs ht;rw [FO] at ht;simp at hs;have htl2:=htl;rw [ht] at htl2;simp at htl2;obtain ⟨O1,rfl,hO1,hup1⟩:=Pz hH1;have r1:=wk_n p (pre (l.take i)) w;have al:=CZ a;have bl:=CZ b;have e2:wk p w (pre (l.take (i+1)))=wk p (wk p (wk1 p (wk p w (pre (l.take i))) (.mk k t cd a b)) (pre a)) (pre b):=by
     rw [ht,S4];show wk p (wk1 p (wk p w (pre (l.take i))) (.mk k t cd a b)) (pre a++pre b)=_;rw [S4]
    generalize hW:wk p w (pre (l.take i))=W at*;obtain ⟨m2,H2,hm2,hH2,c1⟩:=qzf p k t cd a b W (m1+1) _ (hup1 (m1+1) (by omega)) hw0 ⟨by omega,by omega⟩ (by omega) (by omega) (by omega);have r2:(wk1 p W (.mk k t cd a b)).n<=W.n+1/\(wk1 p W (.mk k t cd a b)).us.length<=W.us.length+1/\W.n<=(wk1 p W (.mk k t cd a b)).n:=by
     have:=wk_n p [.mk k t cd a b] W;simp [wk] at this;omega
    simp only [Xa.e,Prg.e] at c1;simp only [chkF,Prg.e] at h1;by_cases y1:(wk1 p W (.mk k t cd a b)).e=0
    rotate_left
    ·-- the node is bad
     have e3:wk p w (pre l)=wk1 p W (.mk k t cd a b):=by
      rw [hpl,S4,e2,KJ p _ y1,KJ p _ y1,KJ p _ y1]
     refine ⟨m2,H2,by omega,by rw [e3];exact hH2,?_⟩;simp [c_318_l0,h1,h7,h8,h9,hi,hx,Xa.e,hO1,c1,y1,e3]
    obtain ⟨m3,H3,hm3,hH3,c2⟩:=Rz p n a _ m2 H2 hH2 y1 (by omega) (by omega) (by omega) (by omega);have r3:=wk_n p (pre a) (wk1 p W (.mk k t cd a b));simp only [chkF,Prg.e] at c2;generalize hW2:wk p (wk1 p W (.mk k t cd a b)) (pre a)=W2 at*;by_cases y2:W2.e=0
    rotate_left
    ·have e3:wk p w (pre l)=W2:=by
      rw [hpl,S4,e2,KJ p _ y2,KJ p _ y2]
     refine ⟨m3,H3,by omega,by rw [e3];exact hH3,?_⟩;simp [c_318_l0,h1,h7,h8,h9,hi,hx,Xa.e,hO1,c1,c2,y1,y2,e3]
    obtain ⟨m4,H4,hm4,hH4,c3⟩:=Rz p n b _ m3 H3 hH3 y2 (by omega) (by omega) (by omega) (by omega);simp only [chkF,Prg.e] at c3;generalize hW3:wk p W2 (pre b)=W3 at*;by_cases y3:W3.e=0
    rotate_left
    ·have e3:wk p w (pre l)=W3:=by
      rw [hpl,S4,e2,KJ p _ y3]
     refine ⟨m4,H4,by omega,by rw [e3];exact hH4,?_⟩;simp [c_318_l0,h1,h7,h8,h9,hi,hx,Xa.e,hO1,c1,c2,c3,y1,y2,y3,e3]
    simp [c_318_l0,h1,h7,h8,h9,hi,hx,Xa.e,hO1,c1,c2,c3,y1,y2,y3,hw];exact ih _ _ ⟨by simp [h1,chkF,Prg.e],by simp [h7],by simp [h8],by simp,by rw [e2];exact y3,m4,by omega,by rw [e2];exact hH4⟩
   ·rintro e H1 L hL ⟨h1,h7,h8,h9,hw0,m1,hm1,hH1⟩;rw [jQ] at hw0 hH1;obtain ⟨O1,rfl,hO1,hup1⟩:=Pz hH1;refine ⟨m1,_,hm1,hH1,?_⟩;simp [c_318_l0,c_318_k1,h8,h9,hL,hw0]
   ·simp [chkF,pre,wk,he];exact ⟨m,Qb _,hH⟩
  obtain ⟨m',H',k1,k2,k3⟩:=goal;exact ⟨m',H',k1,k2,by rw [eI rfl rfl];exact k3⟩
def usOf (l:List Xa):List Int:=(l.filter appl).map (·.table)
theorem qry (t:Int) (l:List Xa):(usOf l).contains t=l.any (fun y=>appl y&&decide (y.table=t)):=by
 unfold usOf;rw [OH,List.any_filter]
theorem qtm (p:Prg) (l:List Xa) (x:Xa):iD p l x=kQ p (usOf l) x:=by
 unfold iD kQ;rw [qry]
def ctlG (p:Prg) (l:List Xa) (i:Nat):Option (Int×Int):=(l[i]?).bind fun x=>if iD p (l.take i) x=0 then none else some ((i:Int),iD p (l.take i) x)
theorem wk_fe (p:Prg) (l:List Xa):∀n i,n+i=l.length->((wk p ⟨0,i,usOf (l.take i)⟩ (l.drop i)).e=0/\fe (ctlG p l) l.length i=none)\/
  ((wk p ⟨0,i,usOf (l.take i)⟩ (l.drop i)).e≠0/\fe (ctlG p l) l.length i=some ((wk p ⟨0,i,usOf (l.take i)⟩ (l.drop i)).n,(wk p ⟨0,i,usOf (l.take i)⟩ (l.drop i)).e))
 | 0,i,h=>by
  have:i=l.length:=by omega
  subst this;simp [wk,dI]
 | n+1,i,h=>by
  have hi:i<l.length:=by omega
  rw [Qi hi];show ((wk p (wk1 p ⟨0,i,usOf (l.take i)⟩ l[i]) (l.drop (i+1))).e=0/\_)\/((wk p (wk1 p ⟨0,i,usOf (l.take i)⟩ l[i]) (l.drop (i+1))).e≠0/\fe (ctlG p l) l.length i=some ((wk p (wk1 p ⟨0,i,usOf (l.take i)⟩ l[i]) (l.drop (i+1))).n,(wk p (wk1 p ⟨0,i,usOf (l.take i)⟩ l[i]) (l.drop (i+1))).e));by_cases z:kQ p (usOf (l.take i)) l[i]=0
  ·have e1:wk1 p ⟨0,i,usOf (l.take i)⟩ l[i]=⟨0,((i+1:Nat):Int),usOf (l.take (i+1))⟩:=by
    have hu:usOf (l.take (i+1))=if appl l[i] then usOf (l.take i)++[l[i].table] else usOf (l.take i):=by
     rw [Qh hi];unfold usOf;rw [List.filter_append,EX];cases q:appl l[i]<;>simp [q]
    rw [hu];simp [wk1,z]
   rw [e1,cM hi (by simp [ctlG,hi,qtm,z])];exact wk_fe p l n (i+1) (by omega)
  ·have e1:wk1 p ⟨0,i,usOf (l.take i)⟩ l[i]=⟨kQ p (usOf (l.take i)) l[i],i,usOf (l.take i)⟩:=by simp [wk1,z]
   rw [e1,KJ p _ z];refine .inr ⟨z,?_⟩;rw [aU hi (by simp only [ctlG,Qa hi,eM,qtm];rw [QA z])]
theorem Fb (p:Prg) (hl:(pre p.Ya).length<2^40 - 1):a8 Φ AM [.agg (Prg.c p)]=some (.val (.tup [a7 (ctlE p).1,a7 (ctlE p).2])):=by
 rw [aA rfl rfl];have hc:=ZP p.Ya (by omega);have hn:=Ru _ p.Ya (Qb _) (by omega);by_cases z1:24<(pre p.Ya).length
 ·simp [jX,Prg.e,hc,ctlE,z1]
 by_cases z2:6<nest p.Ya
 ·simp [jX,Prg.e,hc,hn,ctlE,z1,z2]
 have hE:ctlE p=(fe (ctlG p (pre p.Ya)) (pre p.Ya).length 0).getD (0,0):=by unfold ctlE;rw [QA z1,QA z2];rfl
 obtain ⟨m',H',hm',hH',hp⟩:=Rz p _ p.Ya ⟨0,0,[]⟩ 3 ⟨[(0,.row 1 [[a7 0]]),(1,.row 1 [[a7 0]]),(2,.row 1 [[.Xt 1 []]])],3⟩ ⟨by omega,.inl ⟨rfl,rfl⟩⟩ rfl (Qb _) (by simp) (by simp;omega) (by simp;omega);have hf:=wk_fe p (pre p.Ya) (pre p.Ya).length 0 (by omega);simp only [List.take_zero,List.drop_zero,show usOf []=[] from rfl,Int.ofNat_zero] at hf;generalize hW:wk p ⟨0,0,[]⟩ (pre p.Ya)=W at*;simp only [chkF,Prg.e] at hp;rw [hE];rcases hf with ⟨y,hf⟩ | ⟨y,hf⟩
 ·rw [hf];obtain ⟨h3,⟨hus,rfl⟩ | ⟨q,hq,hqm,rfl⟩⟩:=hH'
  ·simp [y] at hp;simp [jX,Prg.e,hc,hn,z1,z2,hp]
  ·simp [y] at hp;simp [jX,Prg.e,hc,hn,z1,z2,hp]
 ·rw [hf];obtain ⟨h3,⟨hus,rfl⟩ | ⟨q,hq,hqm,rfl⟩⟩:=hH'
  ·simp [y] at hp;simp [jX,Prg.e,hc,hn,z1,z2,hp,y]
  ·simp [y] at hp;simp [jX,Prg.e,hc,hn,z1,z2,hp,y]
def metG (p:Prg) (i:Nat):Option Dg:=(p.Xn[i]?).bind fun f=>if fldE p.Xn i f=0 then none else some (fldE p.Xn i f,(2:Int),(i:Int),(0:Int))
def metH (p:Prg) (i:Nat):Option Dg:=if p.Xn[i]? =some (kY i) then none else some (5,2,(i:Int),0)
theorem Sp (p:Prg):metD p=if 12<p.Xn.length then some (12,2,0,0) else (fe (metG p) p.Xn.length 0).or (fe (metH p) 3 0):=by
 unfold metD;show (if _ then _ else (match fe (metG p) p.Xn.length 0 with | some d=>some d | none=>fe (metH p) 3 0))=_;cases fe (metG p) p.Xn.length 0<;>rfl
theorem Fld.eq_iff (a b:Fld):a=b↔a.name=b.name/\a.Yc=b.Yc:=Fld.ext_iff
theorem Gm (p:Prg) (e:Env) (n:Nat) (h1:look 1 e=some (.iptr 9 [Prg.c p] 0 0)):go Φ (finP []) [.c c_132_k2] .normal ⟨e,⟨[],n⟩⟩=some (rtD (fe (metH p) 3 0)):=by
 rw [Prg.e] at h1;simp [c_132_k2];rw [bY];by_cases l0:p.Xn.length<=0
 ·rw [aU (x:=(5,2,0,0)) (by omega) (by unfold metH;rw [Qk l0];rfl)];have hnil:p.Xn=[]:=Qg (by omega);simp [c_132_l1,h1,hnil,fR,gK,rtD]
 have k0:0<p.Xn.length:=by omega
 have hne:¬p.Xn=[]:=by intro h;rw [h] at k0;simp at k0
 by_cases a0:p.Xn[0].name=[105,110]
 rotate_left
 ·rw [aU (x:=(5,2,0,0)) (by omega) (by unfold metH;rw [Qa k0,QA (by simp [kY,Fld.eq_iff,a0])];rfl)];simp [c_132_l1,Fld.e,h1,hne,k0,a0,fR,gK,rtD]
 by_cases b0:p.Xn[0].Yc=8
 rotate_left
 ·rw [aU (x:=(5,2,0,0)) (by omega) (by unfold metH;rw [Qa k0,QA (by simp [kY,Fld.eq_iff,b0])];rfl)];simp [c_132_l1,Fld.e,h1,hne,k0,a0,b0,fR,gK,rtD]
 rw [cM (by omega) (by unfold metH;rw [Qa k0,a9 (by simp [kY,Fld.eq_iff,a0,b0])])];simp [c_132_l1,Fld.e,h1,hne,k0,a0,b0,fR,jH,wr1];rw [bY];by_cases l1:p.Xn.length<=1
 ·rw [aU (x:=(5,2,1,0)) (by omega) (by unfold metH;rw [Qk l1];rfl)];simp [h1,l1,fR,gK,rtD]
 have k1:1<p.Xn.length:=by omega
 by_cases a1:p.Xn[1].name=[111,117,116]
 rotate_left
 ·rw [aU (x:=(5,2,1,0)) (by omega) (by unfold metH;rw [Qa k1,QA (by simp [kY,Fld.eq_iff,a1])];rfl)];simp [Fld.e,h1,l1,k1,a1,fR,gK,rtD]
 by_cases b1:p.Xn[1].Yc=8
 rotate_left
 ·rw [aU (x:=(5,2,1,0)) (by omega) (by unfold metH;rw [Qa k1,QA (by simp [kY,Fld.eq_iff,b1])];rfl)];simp [Fld.e,h1,l1,k1,a1,b1,fR,gK,rtD]
 rw [cM (by omega) (by unfold metH;rw [Qa k1,a9 (by simp [kY,Fld.eq_iff,a1,b1])])];simp [Fld.e,h1,l1,k1,a1,b1,fR,jH,wr2];rw [bY];by_cases l2:p.Xn.length<=2
 ·rw [aU (x:=(5,2,2,0)) (by omega) (by unfold metH;rw [Qk l2];rfl)];simp [h1,l2,fR,gK,rtD]
 have k2:2<p.Xn.length:=by omega
 by_cases a2:p.Xn[2].name=[100,114,111,112]
 rotate_left
 ·rw [aU (x:=(5,2,2,0)) (by omega) (by unfold metH;rw [Qa k2,QA (by simp [kY,Fld.eq_iff,a2])];rfl)];simp [Fld.e,h1,l2,k2,a2,fR,gK,rtD]
 by_cases b2:p.Xn[2].Yc=1
 rotate_left
 ·rw [aU (x:=(5,2,2,0)) (by omega) (by unfold metH;rw [Qa k2,QA (by simp [kY,Fld.eq_iff,b2])];rfl)];simp [Fld.e,h1,l2,k2,a2,b2,fR,gK,rtD]
 rw [cM (by omega) (by unfold metH;rw [Qa k2,a9 (by simp [kY,Fld.eq_iff,a2,b2])])];simp [Fld.e,h1,l2,k2,a2,b2,fR,jH,wr3];rw [bY,dI];simp [rtD]
theorem Gl (p:Prg) (f:PrgS p):a8 Φ zU [.agg (Prg.c p)]=some (rtD (metD p)):=by
 rw [aA rfl rfl,Sp];by_cases z:12<p.Xn.length
 ·simp [xU,Prg.e,z,fR,gK,rtD]
 have e1:=qvd p.Xn f.m;rw [QA z];simp [xU,Prg.e,z,fR,jH,e1];refine dV p.Xn.length (fun _=>[]) 0 (fun i e=>look 1 e=some (.iptr 9 [Prg.c p] 0 0)/\look 2 e=some (.slice 1 (p.Xn.map fun x=>[.str x.name]))/\look 17 e=some (.slice 2 (p.Xn.map Fld.c))/\look 18 e=some (a7 p.Xn.length)/\look 19 e=some (a7 i))
  (fun i=>some (rtD ((fe (metG p) p.Xn.length i).or (fe (metH p) 3 0)))) ?_ ?_ 0 _ 0 (Qc _) (Qb _) ?_
 ·rintro i e n L hi hL _ ⟨h1,h2,h17,h18,h19⟩ ih;have hlen:=f.m;have hw:=aM i (by omega);have ei:=Uq p.Xn[i].name (f.mn _ (Qd hi));have ew:=qpf p.Xn[i].Yc;have er:=RT Fld.name p.Xn i hi f.m;cases q1:idS p.Xn[i].name with
  | false=>
   rw [q1] at ei;rw [aU (x:=(6,2,(i:Int),0)) hi (by simp [metG,hi,fldE,q1])];simp [c_132_l0,Fld.e,h17,h18,h19,hi,ei,fR,gK,rtD]
  | true=>
  rw [q1] at ei;cases q2:wBad p.Xn[i].Yc with
  | true=>
   rw [q2] at ew;rw [aU (x:=(10,2,(i:Int),0)) hi (by simp [metG,hi,fldE,q1,q2])];simp [c_132_l0,Fld.e,h17,h18,h19,hi,ei,ew,fR,gK,jH,rtD]
  | false=>
  rw [q2] at ew;cases q3:dupN Fld.name p.Xn i p.Xn[i] with
  | true=>
   rw [q3] at er;rw [aU (x:=(7,2,(i:Int),0)) hi (by simp [metG,hi,fldE,q1,q2,q3])];simp [c_132_l0,Fld.e,h2,h17,h18,h19,hi,ei,ew,er,fR,gK,jH,rtD]
  | false=>
   rw [q3] at er;rw [cM hi (by simp [metG,hi,fldE,q1,q2,q3])];simp [c_132_l0,Fld.e,h2,h17,h18,h19,hi,ei,ew,er,fR,jH,hw];exact ih _ _ (Qc _) ⟨by simp [h1],by simp [h2],by simp [h17],by simp [h18],by simp⟩
 ·rintro e n L hL _ ⟨h1,h2,h17,h18,h19⟩;rw [dI];simp [c_132_l0,h18,h19,hL];exact Gm p _ _ (by simp [h1])
 ·simp [Prg.e]
def regG (p:Prg) (i:Nat):Option Dg:=(p.Xl[i]?).bind fun r=>if wQ p i r=0 then none else some (wQ p i r,3,(i:Int),0)
def acG (p:Prg) (i:Nat):Option Dg:=(p.Xx[i]?).bind fun a=>if (actE p i).2≠0 then some ((actE p i).2,(4:Int),(i:Int),(actE p i).1) else if dupN Action.name p.Xx i a then some (7,4,(i:Int),0) else none
def tbG (p:Prg) (i:Nat):Option Dg:=(p.Xm[i]?).bind fun a=>if (tblE p i).2≠0 then some ((tblE p i).2,(5:Int),(i:Int),(tblE p i).1) else if dupN Tbl.name p.Xm i a then some (7,5,(i:Int),0) else none
theorem Gt (p:Prg) (f:PrgS p) (e:Env) (n:Nat) (h1:look 1 e=some (.iptr 9 [Prg.c p] 0 0)):go Φ (finP []) [.c c_133_k3] .normal ⟨e,⟨[],n⟩⟩=some (rtD (tblD p)):=by
 rw [show tblD p=fe (tbG p) p.Xm.length 0 from rfl];have e1:=qve p.Xm f.t;rw [Prg.e] at h1;simp [c_133_k3,h1,e1];refine dV p.Xm.length (fun _=>[]) 0 (fun i e=>look 1 e=some (.iptr 9 [Prg.c p] 0 0)/\look 2 e=some (.slice 1 (p.Xm.map fun x=>[.str x.name]))/\look 64 e=some (a7 p.Xm.length)/\look 65 e=some (a7 i))
  (fun i=>some (rtD (fe (tbG p) p.Xm.length i))) ?_ ?_ 0 _ _ (Qc _) (Qc _) ?_
 ·rintro i e n L hi hL _ ⟨h1,h2,h64,h65⟩ ih;have hlen:=f.t;have hw:=aM i (by omega);have et:=Sz p f i;have er:=RT Tbl.name p.Xm i hi f.t;simp only [Prg.e] at et;rw [Prg.e] at h1;by_cases y:(tblE p i).2=0
  rotate_left
  ·rw [aU (x:=((tblE p i).2,5,(i:Int),(tblE p i).1)) hi (by simp [tbG,hi,y])];simp [c_133_l2,h1,h64,h65,hi,et,gK,y,rtD]
  rw [y] at et;cases q:dupN Tbl.name p.Xm i p.Xm[i] with
  | true=>
   rw [q] at er;rw [aU (x:=(7,5,(i:Int),0)) hi (by simp [tbG,hi,y,q])];simp [c_133_l2,h1,h2,h64,h65,hi,et,er,fR,gK,jH,rtD]
  | false=>
   rw [q] at er;rw [cM hi (by simp [tbG,hi,y,q])];simp [c_133_l2,h1,h2,h64,h65,hi,et,er,fR,jH,hw];exact ih _ _ (Qc _) ⟨by simp [h1,Prg.e],by simp [h2],by simp [h64],by simp⟩
 ·rintro e n L hL _ ⟨h1,h2,h64,h65⟩;rw [dI];simp [c_133_l2,h64,h65,hL,rtD]
 ·simp [h1,Prg.e]
theorem Gs (p:Prg) (f:PrgS p) (e:Env) (n:Nat) (h1:look 1 e=some (.iptr 9 [Prg.c p] 0 0)):go Φ (finP []) [.c c_133_k4] .normal ⟨e,⟨[],n⟩⟩=some (rtD ((pY p).or (tblD p))):=by
 rw [show pY p=fe (acG p) p.Xx.length 0 from rfl];have e1:=qpy p.Xx f.a;rw [Prg.e] at h1;simp [c_133_k4,h1,e1];refine dV p.Xx.length (fun _=>[]) 0 (fun i e=>look 1 e=some (.iptr 9 [Prg.c p] 0 0)/\look 2 e=some (.slice 1 (p.Xx.map fun x=>[.str x.name]))/\look 38 e=some (a7 p.Xx.length)/\look 39 e=some (a7 i))
  (fun i=>some (rtD ((fe (acG p) p.Xx.length i).or (tblD p)))) ?_ ?_ 0 _ _ (Qc _) (Qc _) ?_
 ·rintro i e n L hi hL _ ⟨h1,h2,h38,h39⟩ ih;have hlen:=f.a;have hw:=aM i (by omega);have et:=qvv p f i;have er:=RT Action.name p.Xx i hi f.a;simp only [Prg.e] at et;rw [Prg.e] at h1;by_cases y:(actE p i).2=0
  rotate_left
  ·rw [aU (x:=((actE p i).2,4,(i:Int),(actE p i).1)) hi (by simp [acG,hi,y])];simp [c_133_l1,h1,h38,h39,hi,et,gK,y,rtD]
  rw [y] at et;cases q:dupN Action.name p.Xx i p.Xx[i] with
  | true=>
   rw [q] at er;rw [aU (x:=(7,4,(i:Int),0)) hi (by simp [acG,hi,y,q])];simp [c_133_l1,h1,h2,h38,h39,hi,et,er,fR,gK,jH,rtD]
  | false=>
   rw [q] at er;rw [cM hi (by simp [acG,hi,y,q])];simp [c_133_l1,h1,h2,h38,h39,hi,et,er,fR,jH,hw];exact ih _ _ (Qc _) ⟨by simp [h1,Prg.e],by simp [h2],by simp [h38],by simp⟩
 ·rintro e n L hL _ ⟨h1,h2,h38,h39⟩;rw [dI];simp [c_133_l1,h38,h39,hL];exact Gt p f _ _ (by simp [h1])
 ·simp [h1,Prg.e]
theorem Le (p:Prg) (f:PrgS p):a8 Φ zV [.agg (Prg.c p)]=some (rtD ((regD p).or ((pY p).or (tblD p)))):=by
 rw [aA rfl rfl,show regD p=fe (regG p) p.Xl.length 0 from rfl];have e1:=qnp p.Xl f.r;generalize hX:(pY p).or (tblD p)=X;simp [GS,Prg.e,e1];refine dV p.Xl.length (fun _=>[]) 0 (fun i e=>look 1 e=some (.iptr 9 [Prg.c p] 0 0)/\look 2 e=some (.slice 1 (p.Xl.map fun x=>[.str x.name]))/\look 15 e=some (.slice 3 (p.Xl.map Xg.c))/\look 16 e=some (a7 p.Xl.length)/\look 17 e=some (a7 i))
  (fun i=>some (rtD ((fe (regG p) p.Xl.length i).or X))) ?_ ?_ 0 _ _ (Qc _) (Qc _) ?_
 ·rintro i e n L hi hL _ ⟨h1,h2,h15,h16,h17⟩ ih;have hlen:=f.r;have hw:=aM i (by omega);have et:=Ie p.Xl[i] (f.rn _ (Qd hi));have er:=RT Xg.name p.Xl i hi f.r;simp only [Xg.e] at et;by_cases y:regE p.Xl[i]=0
  rotate_left
  ·rw [aU (x:=(regE p.Xl[i],3,(i:Int),0)) hi (by simp [regG,hi,wQ,y])];simp [c_133_l0,Xg.e,h15,h16,h17,hi,et,gK,y,rtD]
  rw [y] at et;cases q:dupN Xg.name p.Xl i p.Xl[i] with
  | true=>
   rw [q] at er;rw [aU (x:=(7,3,(i:Int),0)) hi (by simp [regG,hi,wQ,y,q])];simp [c_133_l0,Xg.e,h2,h15,h16,h17,hi,et,er,fR,gK,jH,rtD]
  | false=>
   rw [q] at er;rw [cM hi (by simp [regG,hi,wQ,y,q])];simp [c_133_l0,Xg.e,h2,h15,h16,h17,hi,et,er,fR,jH,hw];exact ih _ _ (Qc _) ⟨by simp [h1],by simp [h2],by simp [h15],by simp [h16],by simp⟩
 ·rintro e n L hL _ ⟨h1,h2,h15,h16,h17⟩;rw [dI];simp [c_133_l0,h16,h17,hL];rw [<- hX];exact Gs p f _ _ (by simp [h1])
 ·simp [Prg.e]
theorem Kt (p:Prg) (f:PrgS p) (hc:(pre p.Ya).length<2^40 - 1):a8 Φ zW [.agg (Prg.c p)]=some (rtD (floD p)):=by
 rw [aA rfl rfl];have e1:=qwr p f;have e2:=Fb p hc;have e3:=qv5 p f;simp only [Prg.e,tup3] at e1 e2 e3;by_cases y1:(parE p).2.2=0
 rotate_left
 ·simp [oD,Prg.e,e1,y1,gK,floD,rtD]
 rw [y1] at e1;by_cases y2:(ctlE p).2=0
 rotate_left
 ·simp [oD,Prg.e,e1,y1,e2,y2,gK,jH,floD,rtD]
 rw [y2] at e2;by_cases y3:(depE p).2=0
 rotate_left
 ·simp [oD,Prg.e,e1,y1,e2,y2,e3,y3,gK,jH,floD,rtD]
 rw [y3] at e3;simp [oD,Prg.e,e1,y1,e2,y2,e3,y3,jH,floD,rtD]
theorem VB {Φ:FuncId->Option AFun} (c:Xu) (s:St):eT Φ c s=go Φ (fun o=>o) [.c c] .normal s:=by
 rw [go_c];cases eT Φ c s with
 | none=>rfl
 | some p=>rfl
def dgC (d:Dg):List AV:=[a7 d.1,a7 d.2.1,a7 d.2.2.1,a7 d.2.2.2]
def chkE (p:Prg):Env:=[(3,.func (.func kE) [] [.ptr 1 4 0 0]),(2,.ptr 1 4 0 0),(1,.ptr 0 9 0 0),(0,.agg (Prg.c p))]
def nE (p:Prg) (d:List AV):AH:=⟨[(0,.row 9 [Prg.c p]),(1,.row 4 [d])],2⟩
theorem qzg (p:Prg) (f:PrgS p) (hc:(pre p.Ya).length<2^40 - 1):∃e',look 2 e'=some (.ptr 1 4 0 0)/\go Φ (fun o=>o) [.c (match dT.code with | .seq _ (.dfr _ _ b)=>b | _=> .skip)] .normal ⟨chkE p,nE p [a7 0,a7 0,a7 0,a7 0]⟩=
  match (limD p).or ((hdrD p).or ((metD p).or (((regD p).or ((pY p).or (tblD p))).or (floD p)))) with
  | none=>some (.ret,⟨e',nE p [.int .i64 0,.int .i64 0,.int .i64 0,.int .i64 0]⟩)
  | some d=>some (.pan (wP d.1 d.2.1 d.2.2.1 d.2.2.2),⟨e',nE p [.int .i64 0,.int .i64 0,.int .i64 0,.int .i64 0]⟩):=by
 have h1:=Y2 p f;have h2:=qn7 p f;have h3:=Gl p f;have h4:=Le p f;have h5:=Kt p f hc;simp only [Prg.e] at h1 h2 h3 h4 h5;cases q1:limD p with
 | some d=>rw [q1] at h1;simp [dT,chkE,nE,Prg.e,h1,rtD]
 | none=>
 cases q2:hdrD p with
 | some d=>rw [q1] at h1;rw [q2] at h2;simp [dT,chkE,nE,Prg.e,h1,h2,rtD]
 | none=>
 cases q3:metD p with
 | some d=>rw [q1] at h1;rw [q2] at h2;rw [q3] at h3;simp [dT,chkE,nE,Prg.e,h1,h2,h3,rtD]
 | none=>
 cases q4:(regD p).or ((pY p).or (tblD p)) with
 | some d=>rw [q1] at h1;rw [q2] at h2;rw [q3] at h3;rw [q4] at h4;simp [dT,chkE,nE,Prg.e,h1,h2,h3,h4,rtD]
 | none=>
 cases q5:floD p with
 | some d=>rw [q1] at h1;rw [q2] at h2;rw [q3] at h3;rw [q4] at h4;rw [q5] at h5;simp [dT,chkE,nE,Prg.e,h1,h2,h3,h4,h5,rtD]
 | none=>rw [q1] at h1;rw [q2] at h2;rw [q3] at h3;rw [q4] at h4;rw [q5] at h5;simp [dT,chkE,nE,Prg.e,h1,h2,h3,h4,h5,rtD]
def kA:Xu:=match dT.code with | .seq a _=>a | _=> .skip
def kB:Xu:=match dT.code with | .seq _ (.dfr _ _ b)=>b | _=> .skip
theorem Fw (p:Prg):prgD p=((limD p).or ((hdrD p).or ((metD p).or (((regD p).or ((pY p).or (tblD p))).or (floD p))))).getD (0,0,0,0):=by
 unfold prgD;cases limD p<;>cases hdrD p<;>cases metD p<;>cases regD p<;>cases pY p<;>cases tblD p<;>rfl
theorem Ev (p:Prg) (d:List AV) (hd:d.length=4):cloI Φ dT .niliface [.ptr 1 4 0 0] (nE p d)=some (nE p d):=by
 unfold cloI;rw [VB];simp [dT,recE]
theorem Ew (p:Prg) (d:Dg):∃h,cloI Φ dT (wP d.1 d.2.1 d.2.2.1 d.2.2.2) [.ptr 1 4 0 0] (nE p [a7 0,a7 0,a7 0,a7 0])=some h/\look 1 h.objs=some (.row 4 [dgC d]):=by
 unfold cloI;rw [VB];simp [dT,recE,wP,tF,nE,dgC]
theorem qtv (p:Prg) (f:PrgS p) (hc:(pre p.Ya).length<2^40 - 1):a8 Φ MA [.agg (Prg.c p)]=some (.val (.agg (dgC (prgD p)))):=by
 unfold a8;rw [qzb Φ (d:=dT) rfl rfl,show dT.code= .seq kA (.dfr [⟨some 3,none,.mkfunc (.func kE) [] [.t 2]⟩] 3 kB) from rfl];have a1:eT Φ kA ⟨fL 0 [.agg (Prg.c p)],H0⟩=some (.normal,⟨[(2,.ptr 1 4 0 0),(1,.ptr 0 9 0 0),(0,.agg (Prg.c p))],nE p [a7 0,a7 0,a7 0,a7 0]⟩):=by
  rw [VB];simp [kA,dT,nE]
 obtain ⟨e',he',hb⟩:=qzg p f hc;have hb2:eT Φ kB ⟨chkE p,nE p [a7 0,a7 0,a7 0,a7 0]⟩=_:=(VB _ _).trans hb;have a2:bL (aQ Φ) none [⟨some 3,none,.mkfunc (.func kE) [] [.t 2]⟩] ⟨[(2,.ptr 1 4 0 0),(1,.ptr 0 9 0 0),(0,.agg (Prg.c p))],nE p [a7 0,a7 0,a7 0,a7 0]⟩=
   some (.normal,⟨chkE p,nE p [a7 0,a7 0,a7 0,a7 0]⟩):=by
  simp [bL,iC,chkE]
 simp only [wM,a1,a2];have a3:(look 3 (chkE p)).bind tgt=some (kE,[.ptr 1 4 0 0]):=by simp [chkE]
 rw [a3];simp only [show dT.clo=kE from rfl,show dT.ncaps=1 from rfl,List.length_singleton,and_self,if_true];rw [hb2,Fw];cases (limD p).or ((hdrD p).or ((metD p).or (((regD p).or ((pY p).or (tblD p))).or (floD p)))) with
 | none=>
  simp only [ND];rw [Ev p _ rfl];simp [D4,dT,he',nE,dgC]
 | some d=>
  obtain ⟨h,k1,k2⟩:=Ew p d;simp only [ND];rw [k1];obtain ⟨O,n⟩:=h;simp only [dgC] at k2;simp [D4,dT,show Option.isSome (some ((4:Nat),(1:Nat)))=true from rfl,he',k2,dgC]
theorem Sb (c:Int):a8 Φ sS [.int .u8 c]=some (.val (.bool (letC c))):=by
 rw [aA rfl rfl];by_cases h1:97<=c<;>by_cases h2:c<=122<;>by_cases h3:65<=c<;>simp [GZ,letC,h1,h2,h3]
theorem qwt (c:Int):a8 Φ A6 [.int .u8 c]=some (.val (.bool (digI c))):=by
 rw [aA rfl rfl];by_cases h1:48<=c<;>simp [H5,digI,h1]
theorem FJ (s:List UInt8) (hs:s.length<2^40):a8 Φ fX [.str s]=some (.val (.bool (idS s))):=by
 rw [aA rfl rfl];by_cases h0:s.length=0
 ·have:s=[]:=Qg h0;subst this;simp [nZ,idS]
 have hp:0<s.length:=by omega
 have hne:¬s=[]:=by intro h;subst h;simp at h0
 rw [qwf hp];by_cases h16:16<s.length
 ·simp [nZ,hne,h16,Qf.2 h16]
 have hl:=Sb (s[0].toNat:Int);cases q:letC (s[0].toNat:Int) with
 | false=>
  rw [q] at hl;simp [nZ,hne,hp,h16,hl]
 | true=>
  rw [q] at hl;generalize hX:(decide (s.length<=16)&&(true&&s.all fun b=>idC b.toNat))=X;simp [nZ,hne,hp,h16,hl];refine (wK s (fun b=> !idC b.toNat) (some (Rt.val (.bool false))) (some (Rt.val (.bool true)))
   (fun i e H=>look 0 e=some (.str s)/\look 3 e=some (a7 i)/\H=⟨[],0⟩) ?_ ?_ ?_ _ _ ?_).trans ?_
  ·rintro i e _ L hi hL ⟨h0,h3,rfl⟩ hb;have g1:=Sb (s[i].toNat:Int);have g2:=qwt (s[i].toNat:Int);cases z1:letC (s[i].toNat:Int) with
   | true=>simp [idC,z1] at hb
   | false=>
    cases z2:digI (s[i].toNat:Int) with
    | true=>simp [idC,z1,z2] at hb
    | false=>
     rw [z1] at g1;rw [z2] at g2;simp only [idC,z1,z2,LA,QB,decide_eq_false_iff_not] at hb;simp [c_108_l0,h0,h3,hi,g1,g2,hb]
  ·rintro i e _ L X hi hL ⟨h0,h3,rfl⟩ hb ih;have hw:=aM i (by omega);have g1:=Sb (s[i].toNat:Int);have g2:=qwt (s[i].toNat:Int);cases z1:letC (s[i].toNat:Int) with
   | true=>
    rw [z1] at g1;simp [c_108_l0,h0,h3,hi,g1,hw];exact ih _ _ ⟨by simp [h0],by simp,rfl⟩
   | false=>
    rw [z1] at g1;cases z2:digI (s[i].toNat:Int) with
    | true=>
     rw [z2] at g2;simp [c_108_l0,h0,h3,hi,g1,g2,hw];exact ih _ _ ⟨by simp [h0],by simp,rfl⟩
    | false=>
     rw [z2] at g2;simp only [idC,z1,z2,LA,Bool.not_eq_false',decide_eq_true_eq] at hb;rw [hb] at g1 g2;simp [c_108_l0,h0,h3,hi,g1,g2,hb,hw];exact ih _ _ ⟨by simp [h0],by simp,rfl⟩
  ·rintro e _ L hL ⟨h0,h3,rfl⟩;simp [c_108_l0,c_108_k1,h0,h3,hL]
  ·simp
  ·rw [<- hX];have:(s.any fun b=> !idC b.toNat)= !(s.all fun b=>idC b.toNat):=by
    rw [List.not_all_eq_any_not]
   rw [this];have h16':decide (s.length<=16)=true:=by simpa using h16
   rw [h16'];cases s.all fun b=>idC b.toNat<;>rfl
theorem W5 {n:Int} (h1:0<=n) (h2:n<18446744073709551616):IntKind.wrap .u64 n=n:=by
 have e1:(2:Int)^64=18446744073709551616:=rfl;simp only [IntKind.wrap,IntKind.bits,IntKind.signed,OC,e1];rw [QA (by simp)];omega
theorem qws {i:Nat} (h:i<63):IntKind.wrap .u64 (2*2^i)=2^(i+1):=by
 have h1:(2:Int)^(i+1)=2*2^i:=by rw [Int.pow_succ];omega
 have h2:(2:Int)^i<=2^62:=by
  have:=DV (n:=2) (by omega) (show i<=62 by omega)
  exact_mod_cast this
 have h0:(0:Int)<2^i:=by
  have:=Nat.pow_pos (a:=2) (n:=i) (by omega)
  exact_mod_cast this
 have h3:(2:Int)^62=4611686018427387904:=rfl;rw [h1];exact W5 (by omega) (by omega)
theorem V2 (w:Int):a8 Φ mL [a7 w]=some (.val (.bool (!wBad w))):=by
 rw [aA rfl rfl];by_cases h1:w<1
 ·simp [s7,wBad,h1,nM.2 h1]
 ·by_cases h2:32<w
  ·simp [s7,wBad,h1,fK.1 h1,h2,nM.2 h2]
  ·simp [s7,wBad,h1,fK.1 h1,h2,fK.1 h2]
theorem VK (n:Nat) (hn:n<63):a8 Φ mM [a7 n]=some (.val (.int .u64 (2^n))):=by
 rw [aA rfl rfl];simp [IQ];refine (eY n (fun i e=>look 0 e=some (a7 n)/\look 3 e=some (.int .u64 (2^i))/\look 4 e=some (a7 i)) (fun i=>some (Rt.val (.int .u64 (2^n)))) ?_ ?_ 0 _ (Qc _) ?_).trans (by simp)
 ·rintro i e L hi hL ⟨h0,h3,h4⟩ ih;have hw:=aM i (by omega);have hp:=qws (i:=i) (by omega);simp [c_309_l0,h0,h3,h4,hi,hw,hp];exact ih _ ⟨by simp [h0],by simp,by simp⟩
 ·rintro e L hL ⟨h0,h3,h4⟩;simp [c_309_l0,c_309_k1,h0,h3,h4,hL]
 ·simp
theorem Rl (v w:Int) (hv:ok32 0 v):a8 Φ pB [.int .u32 v,a7 w]=some (.val (.bool (fits v w))):=by
 rw [aA rfl rfl];have h1:=V2 w;have hv1:=hv.1;have hv2:=hv.2;have hc:IntKind.wrap .u64 v=v:=W5 (by omega) (by omega);cases q:wBad w with
 | true=>
  rw [q] at h1;simp [yJ,h1,fits,q]
 | false=>
  rw [q] at h1;obtain ⟨w1,w2⟩:=wBad_false.1 q;obtain ⟨k,rfl⟩:∃k:Nat,w=k:=⟨w.toNat,by omega⟩;have h2:=VK k (by omega);simp [yJ,h1,h2,hc,fits,q]
theorem On (v:Int) (hv:ok32 0 v) (k:Nat) (hk:k<=32):a8 Φ oU [.int .u32 v,a7 k]=some (.val (.bool (decide (v<2^k)))):=by
 rw [aA rfl rfl];have hv1:=hv.1;have hv2:=hv.2;have hc:IntKind.wrap .u64 v=v:=W5 (by omega) (by omega);generalize hX:decide (v<2^k)=X;simp [GQ];refine (eY k (fun i e=>look 0 e=some (.int .u32 v)/\look 1 e=some (a7 k)/\look 5 e=some (.int .u64 (2^i))/\look 6 e=some (a7 i)) (fun i=>some (Rt.val (.bool X))) ?_ ?_ 0 _ (Qc _) ?_).trans (by simp)
 ·rintro i e L hi hL ⟨h0,h1,h5,h6⟩ ih;have hw:=aM i (by omega);have hp:=qws (i:=i) (by omega);simp [c_122_l0,h1,h5,h6,hi,hw,hp];exact ih _ ⟨by simp [h0],by simp [h1],by simp,by simp⟩
 ·rintro e L hL ⟨h0,h1,h5,h6⟩;simp [c_122_l0,c_122_k1,h0,h1,h5,h6,hL,hc,<- hX]
 ·simp
theorem Zb (p:Prg) (h i:Int):a8 Φ sN [.agg (Prg.c p),.agg [a7 h,a7 i]]=some (.val (a7 (wid p h i))):=by
 rw [aA rfl rfl];have tail:∀(l:List Fld),(∀j:Int,decl p h j=(at? l j).map (·.Yc))->(i<0/\wid p h i=0)\/(¬i<0/\(l.length:Int)<=i/\wid p h i=0)\/∃k:Nat,∃hk:k<l.length,i=k/\((l[k].Yc<1/\wid p h i=0)\/(¬l[k].Yc<1/\32<l[k].Yc/\wid p h i=0)\/(¬l[k].Yc<1/\¬32<l[k].Yc/\wid p h i=l[k].Yc)):=by
  intro l hd;by_cases i0:i<0
  ·exact .inl ⟨i0,by simp [wid,hd,eP i0]⟩
  by_cases i1:(l.length:Int)<=i
  ·exact .inr (.inl ⟨i0,i1,by simp [wid,hd,eZ i1]⟩)
  obtain ⟨k,hk⟩:∃k:Nat,i=k:=⟨i.toNat,by omega⟩;refine .inr (.inr ⟨k,by omega,hk,?_⟩);have hk2:k<l.length:=by omega
  have e:wid p h i=if wBad l[k].Yc then 0 else l[k].Yc:=by simp [wid,hd,hk,hk2]
  by_cases w1:l[k].Yc<1
  ·exact .inl ⟨w1,by rw [e];simp [wBad,w1]⟩
  by_cases w2:32<l[k].Yc
  ·exact .inr (.inl ⟨w1,w2,by rw [e];simp [wBad,w2]⟩)
  ·exact .inr (.inr ⟨w1,w2,by rw [e];simp [wBad,w1,w2]⟩)
 by_cases h0:0<=h
 ·have hm:¬h= -1:=by omega
  have hm2:¬h< -1:=by omega
  by_cases h1:(p.Xo.length:Int)<=h
  ·rw [show wid p h i=0 by simp [wid,decl,hm,eZ h1]];simp [eB,Prg.e,h0,h1]
  obtain ⟨m,rfl⟩:∃k:Nat,h=k:=⟨h.toNat,by omega⟩;have hk:m<p.Xo.length:=by omega
  rcases tail p.Xo[m].Xz (by intro j;simp [decl,hm,hk]) with ⟨i0,e⟩ | ⟨i0,i1,e⟩ | ⟨k,hk2,rfl,⟨w1,e⟩ | ⟨w1,w2,e⟩ | ⟨w1,w2,e⟩⟩
  ·rw [e];simp [eB,Prg.e,Xi.e,hk,Qf.2 hk,hm2,i0]
  ·rw [e];simp [eB,Prg.e,Xi.e,hk,Qf.2 hk,hm2,i0,i1]
  ·rw [e];simp [eB,Prg.e,Xi.e,Fld.e,hk,Qf.2 hk,hm2,hk2,Qf.2 hk2,w1]
  ·rw [e];simp [eB,Prg.e,Xi.e,Fld.e,hk,Qf.2 hk,hm2,hk2,Qf.2 hk2,w1,w2]
  ·rw [e];simp [eB,Prg.e,Xi.e,Fld.e,hk,Qf.2 hk,hm2,hk2,Qf.2 hk2,w1,w2]
 by_cases hm:h= -1
 ·subst hm;rcases tail p.Xn (by intro j;simp [decl]) with ⟨i0,e⟩ | ⟨i0,i1,e⟩ | ⟨k,hk2,rfl,⟨w1,e⟩ | ⟨w1,w2,e⟩ | ⟨w1,w2,e⟩⟩
  ·rw [e];simp [eB,Prg.e,i0]
  ·rw [e];simp [eB,Prg.e,i0,i1]
  ·rw [e];simp [eB,Prg.e,Fld.e,hk2,Qf.2 hk2,w1]
  ·rw [e];simp [eB,Prg.e,Fld.e,hk2,Qf.2 hk2,w1,w2]
  ·rw [e];simp [eB,Prg.e,Fld.e,hk2,Qf.2 hk2,w1,w2]
 ·have hm2:h< -1:=by omega
  rw [show wid p h i=0 by simp [wid,decl,hm,eP (show h<0 by omega)]];simp [eB,Prg.e,h0,hm2]
theorem Zc (p:Prg) (h i:Int):a8 Φ tU [.agg (Prg.c p),.agg [a7 h,a7 i]]=some (.val (a7 (wid p h i))):=by
 rw [aA rfl rfl];have tail:∀(l:List Fld),(∀j:Int,decl p h j=(at? l j).map (·.Yc))->(i<0/\wid p h i=0)\/(¬i<0/\(l.length:Int)<=i/\wid p h i=0)\/∃k:Nat,∃hk:k<l.length,i=k/\((l[k].Yc<1/\wid p h i=0)\/(¬l[k].Yc<1/\32<l[k].Yc/\wid p h i=0)\/(¬l[k].Yc<1/\¬32<l[k].Yc/\wid p h i=l[k].Yc)):=by
  intro l hd;by_cases i0:i<0
  ·exact .inl ⟨i0,by simp [wid,hd,eP i0]⟩
  by_cases i1:(l.length:Int)<=i
  ·exact .inr (.inl ⟨i0,i1,by simp [wid,hd,eZ i1]⟩)
  obtain ⟨k,hk⟩:∃k:Nat,i=k:=⟨i.toNat,by omega⟩;refine .inr (.inr ⟨k,by omega,hk,?_⟩);have hk2:k<l.length:=by omega
  have e:wid p h i=if wBad l[k].Yc then 0 else l[k].Yc:=by simp [wid,hd,hk,hk2]
  by_cases w1:l[k].Yc<1
  ·exact .inl ⟨w1,by rw [e];simp [wBad,w1]⟩
  by_cases w2:32<l[k].Yc
  ·exact .inr (.inl ⟨w1,w2,by rw [e];simp [wBad,w2]⟩)
  ·exact .inr (.inr ⟨w1,w2,by rw [e];simp [wBad,w1,w2]⟩)
 by_cases h0:0<=h
 ·have hm:¬h= -1:=by omega
  have hm2:¬h< -1:=by omega
  by_cases h1:(p.Xo.length:Int)<=h
  ·rw [show wid p h i=0 by simp [wid,decl,hm,eZ h1]];simp [eD,Prg.e,h0,h1]
  obtain ⟨m,rfl⟩:∃k:Nat,h=k:=⟨h.toNat,by omega⟩;have hk:m<p.Xo.length:=by omega
  rcases tail p.Xo[m].Xz (by intro j;simp [decl,hm,hk]) with ⟨i0,e⟩ | ⟨i0,i1,e⟩ | ⟨k,hk2,rfl,⟨w1,e⟩ | ⟨w1,w2,e⟩ | ⟨w1,w2,e⟩⟩
  ·rw [e];simp [eD,Prg.e,Xi.e,hk,Qf.2 hk,hm2,i0]
  ·rw [e];simp [eD,Prg.e,Xi.e,hk,Qf.2 hk,hm2,i0,i1]
  ·rw [e];simp [eD,Prg.e,Xi.e,Fld.e,hk,Qf.2 hk,hm2,hk2,Qf.2 hk2,w1]
  ·rw [e];simp [eD,Prg.e,Xi.e,Fld.e,hk,Qf.2 hk,hm2,hk2,Qf.2 hk2,w1,w2]
  ·rw [e];simp [eD,Prg.e,Xi.e,Fld.e,hk,Qf.2 hk,hm2,hk2,Qf.2 hk2,w1,w2]
 by_cases hm:h= -1
 ·subst hm;rcases tail p.Xn (by intro j;simp [decl]) with ⟨i0,e⟩ | ⟨i0,i1,e⟩ | ⟨k,hk2,rfl,⟨w1,e⟩ | ⟨w1,w2,e⟩ | ⟨w1,w2,e⟩⟩
  ·rw [e];simp [eD,Prg.e,i0]
  ·rw [e];simp [eD,Prg.e,i0,i1]
  ·rw [e];simp [eD,Prg.e,Fld.e,hk2,Qf.2 hk2,w1]
  ·rw [e];simp [eD,Prg.e,Fld.e,hk2,Qf.2 hk2,w1,w2]
  ·rw [e];simp [eD,Prg.e,Fld.e,hk2,Qf.2 hk2,w1,w2]
 ·have hm2:h< -1:=by omega
  rw [show wid p h i=0 by simp [wid,decl,hm,eP (show h<0 by omega)]];simp [eD,Prg.e,h0,hm2]
def fxO {Z:Type} (q:Z->Bool) (l:List Z) (j:Nat):Option Int:=fe (fun k=>(l[k]?).bind fun f=>if q f then some (k:Int) else none) l.length j
theorem Sk {Z:Type} {q:Z->Bool} {l:List Z} {i:Nat} (hi:i<l.length) (h:q l[i]=true):fxO q l i=some (i:Int):=by
 unfold fxO;rw [aU (x:=(i:Int)) hi (by simp [hi,h])]
theorem Zr {Z:Type} {q:Z->Bool} {l:List Z} {i:Nat} (hi:i<l.length) (h:q l[i]=false):fxO q l i=fxO q l (i+1):=by
 unfold fxO;rw [cM hi (by simp [hi,h])]
theorem Ei {Z:Type} {q:Z->Bool} {l:List Z}:fxO q l l.length=none:=by
 unfold fxO;rw [dI]
theorem Tb {Z:Type} {q:Z->Bool} {l:List Z} {i:Nat} (hi:i<l.length) (h:q l[i]=true):∀n j,n+j=i->∃k:Nat,fxO q l j=some (k:Int)/\(decide ((k:Int)<i)=pW (l.take i) q j)
 | 0,j,e=>by
  have:j=i:=by omega
  subst this;refine ⟨j,Sk hi h,?_⟩;have:=VM (l:=l.take j) (p:=q);rw [show (l.take j).length=j by simp;omega] at this;rw [this];simp
 | n+1,j,e=>by
  have hj:j<l.length:=by omega
  have hj2:j<(l.take i).length:=by simp;omega
  have e1:(l.take i)[j]=l[j]:=by simp
  cases z:q l[j] with
  | true=>
   refine ⟨j,Sk hj z,?_⟩;rw [Se hj2 (by rw [e1];exact z)];simp;omega
  | false=>
   obtain ⟨k,k1,k2⟩:=Tb hi h n (j+1) (by omega);refine ⟨k,by rw [Zr hj z];exact k1,?_⟩;rw [MK hj2 (by rw [e1];exact z)];exact k2
def fxT (o:Option Int):AV:=match o with
 | some k=> .tup [.int .i64 k,.bool true]
 | none=> .tup [.int .i64 0,.bool false]
theorem qru (h:Xi) (nm:List UInt8) (hl:h.Xz.length<2^40):a8 Φ A7 [.agg (Xi.c h),.str nm]=some (.val (fxT (fxO (fun f:Fld=>decide (f.name=nm)) h.Xz 0))):=by
 rw [aA rfl rfl];simp [H6,Xi.e];refine eY h.Xz.length (fun i e=>look 1 e=some (.str nm)/\look 2 e=some (.iptr 2 [Xi.c h] 0 0)/\look 6 e=some (a7 i))
  (fun i=>some (Rt.val (fxT (fxO (fun f:Fld=>decide (f.name=nm)) h.Xz i)))) ?_ ?_ 0 _ (Qc _) ?_
 ·rintro i e L hi hL ⟨h1,h2,h6⟩ ih;have hw:=aM i (by omega);rw [Xi.e] at h2;by_cases z:h.Xz[i].name=nm
  ·rw [Sk hi (by simpa using z)];simp [c_186_l0,Fld.e,h1,h2,h6,hi,z,fxT]
  ·rw [Zr hi (by simpa using z)];simp [c_186_l0,Fld.e,h1,h2,h6,hi,z,hw];exact ih _ ⟨by simp [h1],by simp [h2,Xi.e],by simp⟩
 ·rintro e L hL ⟨h1,h2,h6⟩;rw [Ei];rw [Xi.e] at h2;simp [c_186_l0,c_186_k1,h2,h6,hL,fxT]
 ·simp [Xi.e]
theorem Wq (l:List Fld) (h:∀k,k<l.length->fldE l k (l.getD k default)=0):∀i,i<=l.length->0<=wSum (l.take i)/\wSum (l.take i)<=32*i:=by
 intro i
 induction i with
 | zero=>intro _;simp [wSum]
 | succ i ih=>
  intro hi;have h1:=ih (by omega);have hk:=h i (by omega);rw [vB,Qa (by omega),jO] at hk;have hb:wBad l[i].Yc=false:=by
   cases q:wBad l[i].Yc with
   | false=>rfl
   | true=>
    simp only [fldE,q] at hk;split at hk
    ·omega
    ·simp at hk
  have:=wBad_false.1 hb;rw [Pu (by omega)];omega
theorem qz3 {l:List Fld} {i k:Nat} (hk:k<i) (hi:i<=l.length):fldE (l.take i) k ((l.take i).getD k default)=fldE l k (l.getD k default):=by
 have e1:(l.take i).getD k default=l.getD k default:=by
  rw [vB,vB,List.getElem?_take,a9 hk]
 rw [e1];unfold fldE dupN;rw [List.take_take,Nat.min_eq_left (by omega)]
theorem Bs (h:Xi) (hn:h.name.length<2^40) (hf:∀f∈h.Xz,f.name.length<2^40):a8 Φ zJ [.agg (Xi.c h)]=some (.val (a7 (hdrE h))):=by
 rw [aA rfl rfl];have n1:=FJ h.name hn;cases q1:idS h.name with
 | false=>rw [q1] at n1;simp [o9,Xi.e,n1,hdrE,q1]
 | true=>
 rw [q1] at n1;by_cases z0:h.Xz.length=0
 ·simp [o9,Xi.e,n1,hdrE,q1,z0]
 by_cases z1:12<h.Xz.length
 ·simp [o9,Xi.e,n1,hdrE,q1,z0,z1]
 have hE:hdrE h=hdrR h.Xz 0:=by simp [hdrE,q1,z0,z1,hdrR,D5]<;>rfl
 rw [hE];simp [o9,Xi.e,n1,z0,z1];refine dV h.Xz.length (fun _=>[]) 0 (fun i e=>look 1 e=some (.iptr 2 [Xi.c h] 0 0)/\look 3 e=some (a7 (wSum (h.Xz.take i)))/\look 4 e=some (a7 i)/\
   ∀k,k<i->fldE h.Xz k (h.Xz.getD k default)=0)
  (fun i=>some (Rt.val (a7 (hdrR h.Xz i)))) ?_ ?_ 0 _ 0 (Qc _) (Qb _) ?_
 ·rintro i e n L hi hL _ ⟨h1,h3,h4,hz⟩ ih;have hw:=aM i (by omega);have nf:=FJ h.Xz[i].name (hf _ (Qd hi));have ni:=qru h h.Xz[i].name (by omega);obtain ⟨at',k1,k2⟩:=Tb (q:=fun f:Fld=>decide (f.name=h.Xz[i].name)) hi (by simp) i 0 (by omega);rw [k1] at ni;rw [S5,show (h.Xz.take i).any (fun f=>decide (f.name=h.Xz[i].name))=dupN Fld.name h.Xz i h.Xz[i] from rfl] at k2;simp only [fxT,Xi.e] at ni;rw [Xi.e] at h1;cases p1:idS h.Xz[i].name with
  | false=>
   rw [p1] at nf;rw [K7 hi (by simp [fldE,p1])];simp [c_110_l0,Fld.e,h1,h4,hi,nf,ni,fldE,p1]
  | true=>
  rw [p1] at nf;by_cases w1:h.Xz[i].Yc<1
  ·rw [K7 hi (by simp [fldE,p1,wBad,w1])];simp [c_110_l0,Fld.e,h1,h4,hi,nf,ni,fldE,p1,wBad,w1]
  by_cases w2:32<h.Xz[i].Yc
  ·rw [K7 hi (by simp [fldE,p1,wBad,w2])];simp [c_110_l0,Fld.e,h1,h4,hi,nf,ni,fldE,p1,wBad,w1,w2]
  cases p3:dupN Fld.name h.Xz i h.Xz[i] with
  | true=>
   rw [p3] at k2;have k3:at'<i:=by simpa using k2
   rw [K7 hi (by simp [fldE,p1,wBad,w1,w2,p3])];simp [c_110_l0,Fld.e,h1,h4,hi,nf,ni,fldE,p1,wBad,w1,w2,p3,k3]
  | false=>
   rw [p3] at k2;have k3:¬at'<i:=by simpa using k2
   have hz':∀k,k<i+1->fldE h.Xz k (h.Xz.getD k default)=0:=by
    intro k hk;rcases Nat.lt_succ_iff_lt_or_eq.1 hk with hlt | rfl
    ·exact hz k hlt
    ·rw [vB,Qa hi,jO];simp [fldE,p1,wBad,w1,w2,p3]
   have hs:=Wq (h.Xz.take (i+1)) (by intro k hk;simp at hk;rw [qz3 (by omega) (by omega)];exact hz' k (by omega)) (i+1) (by simp;omega);rw [List.take_take,Nat.min_self,Pu hi] at hs;have hw3:IntKind.wrap .i64 (wSum (h.Xz.take i)+h.Xz[i].Yc)=wSum (h.Xz.take i)+h.Xz[i].Yc:=cN (by omega) (by omega);rw [Yw hi (by simp [fldE,p1,wBad,w1,w2,p3])];simp [c_110_l0,Fld.e,h1,h3,h4,hi,nf,ni,w1,w2,k3,hw,hw3];exact ih _ _ (Qc _) ⟨by simp [h1,Xi.e],by simp [Pu hi],by simp,hz'⟩
 ·rintro e n L hL _ ⟨h1,h3,h4,hz⟩;have hs:=(Wq h.Xz hz h.Xz.length (Qb _)).1;rw [jQ] at h3 hs;have e3:wSum h.Xz % 8=(wSum h.Xz).tmod 8:=(Int.tmod_eq_emod_of_nonneg hs).symm;rw [qta,e3];rw [Xi.e] at h1;by_cases z:(wSum h.Xz).tmod 8=0
  ·simp [c_110_l0,c_110_k1,h1,h3,h4,hL,z]
  ·simp [c_110_l0,c_110_k1,h1,h3,h4,hL,z]
 ·simp [Xi.e,wSum]
theorem Cb (r:Xg) (hs:r.name.length<2^40):a8 Φ zL [.agg (Xg.c r)]=some (.val (a7 (regE r))):=by
 rw [aA rfl rfl];have h1:=FJ r.name hs;cases q1:idS r.name with
 | false=>rw [q1] at h1;simp [jS,Xg.e,h1,regE,q1]
 | true=>
  rw [q1] at h1;by_cases w1:r.Yc<1
  ·simp [jS,Xg.e,h1,regE,q1,wBad,w1]
  by_cases w2:32<r.Yc
  ·simp [jS,Xg.e,h1,regE,q1,wBad,w1,w2]
  by_cases z1:r.size<1
  ·simp [jS,Xg.e,h1,regE,q1,wBad,w1,w2,z1]
  by_cases z2:64<r.size
  ·simp [jS,Xg.e,h1,regE,q1,wBad,w1,w2,z1,z2]
  simp [jS,Xg.e,h1,regE,q1,wBad,w1,w2,z1,z2]
end Go.Av
