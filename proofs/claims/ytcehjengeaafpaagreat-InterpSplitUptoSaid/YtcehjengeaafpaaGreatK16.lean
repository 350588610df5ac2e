/-
 Nesting and number of control nodes: the program's answers.
-/
import Derived.Test.YtcehjengeaafpaaGreatSP4
set_option linter.unusedVariables false
set_option linter.unusedSimpArgs false
set_option linter.constructorNameAsVariable false
namespace Go.Av
set_option maxRecDepth 4000
theorem HK:∀a b:List Xa,pre (a++b)=pre a++pre b
 | [],b=>by simp [pre]
 | x::a,b=>by simp [pre,HK a b]
theorem Ld {l:List Xa} {i:Nat} (hi:i<l.length):pre (l.take (i+1))=pre (l.take i)++pre1 l[i]:=by
 rw [Qh hi,HK];simp [pre]
theorem KV (k t:Int) (c:List Xd) (a b:List Xa):pre1 (.mk k t c a b)= .mk k t c a b::(pre a++pre b):=by simp [pre1]
theorem SN (x:Xa):1<=(pre1 x).length:=by
 cases x;rw [KV];simp
theorem IF:∀l:List Xa,l.length<=(pre l).length
 | []=>by simp
 | x::r=>by
  have:=IF r;have:=SN x;simp [pre];omega
theorem Mz {l:List Xa} {i:Nat} (hi:i<l.length):(pre1 l[i]).length<=(pre l).length:=by
 have h:pre l=pre (l.take i)++(pre1 l[i]++pre (l.drop (i+1))):=by
  conv=>lhs;rw [<- QB i l,HK,Qi hi]
  simp [pre]
 rw [h];simp;omega
def kE (l:List Xa):Nat:=match l with
 | []=>0
 | x::r=>max (AG x) (kE r)
theorem Du:∀l:List Xa,l≠[]->nest l=kE l+1
 | [],h=>absurd rfl h
 | [x],_=>by simp [nest,kE];omega
 | x::y::r,_=>by
  have:=Du (y::r) (by simp);rw [nest,kE,this];omega
theorem Gi:∀a b:List Xa,kE (a++b)=max (kE a) (kE b)
 | [],b=>by simp [kE]
 | x::a,b=>by rw [iU,kE,Gi a b,kE];omega
theorem qw9 {l:List Xa} {i:Nat} (hi:i<l.length):kE (l.take (i+1))=max (kE (l.take i)) (AG l[i]):=by
 rw [Qh hi,Gi];simp [kE]
theorem Ky (k t:Int) (c:List Xd) (a b:List Xa):AG (.mk k t c a b)=max (nest a) (nest b):=by simp [AG]
mutual
theorem S7:∀x:Xa,AG x<(pre1 x).length
 | .mk k t c a b=>by
  have h1:=OE a;have h2:=OE b;rw [Ky,KV];simp;omega
theorem OE:∀l:List Xa,nest l<=(pre l).length
 | []=>by simp [nest]
 | x::r=>by
  have h1:=S7 x;have h2:=OE r;rw [nest,pre];simp;omega
end
theorem S8 (l:List Xa):kE l<=(pre l).length:=by
 cases l with
 | nil=>simp [kE]
 | cons x r=>have:=Du (x::r) (by simp);have:=OE (x::r);omega
theorem Ec (x:Xa):∃k t c a b,x= .mk k t c a b:=by
 cases x with
 | mk k t c a b=>exact ⟨k,t,c,a,b,rfl⟩
theorem Dv:∀(n:Nat) (l:List Xa),SizeOf.sizeOf l<=n->(pre l).length<2^40->aB Φ mL [.slice 5 (l.map Xa.c)]=some (.val (a7 (nest l:Nat)))
 | 0,l,h,hb=>by cases l<;>simp at h
 | n+1,l,h,hb=>by
  rw [aD rfl rfl];have hll:=IF l;by_cases z:l.length=0
  ·have:l=[]:=Qg z;subst this;simp [tA,nest]
  have hne:l≠[]:=by intro h;subst h;simp at z
  rw [Du l hne];simp [tA,z];refine eS l.length (fun _=>[]) 0 (fun i e=>look 3 e=some (a7 (kE (l.take i):Nat))/\look 9 e=some (.slice 5 (l.map Xa.c))/\look 10 e=some (a7 l.length)/\look 11 e=some (a7 i))
   (fun i=>some (Rt.val (a7 ((kE l:Nat)+1)))) ?_ ?_ 0 _ 0 (Qc _) (Qb _) ?_
  ·rintro i e m L hi hL _ ⟨h3,h9,h10,h11⟩ ih;have hw:=aP i (by omega);obtain ⟨k,t,c,a,b,hx⟩:=Ec l[i];have hm:l[i]∈l:=Qd hi;have hs:SizeOf.sizeOf l[i]<SizeOf.sizeOf l:=List.sizeOf_lt_of_mem hm;have hp:=Mz hi;rw [hx] at hs hp;rw [KV] at hp;simp at hs hp;have i1:=Dv n a (by omega) (by omega);have i2:=Dv n b (by omega) (by omega);have hM:=qw9 hi;rw [hx,Ky] at hM;simp [c_317_l0,h3,h9,h10,h11,hi,hw,hx,Xa.e,i1,i2];refine ih _ _ (Qc _) ⟨?_,by simp [h9],by simp [h10],by simp⟩;simp [hM];split<;>split<;>omega
  ·rintro e m L hL _ ⟨h3,h9,h10,h11⟩;rw [kW] at h3;have:=S8 l;have hw:IntKind.wrap .i64 ((kE l:Int)+1)=(kE l:Int)+1:=cM (by omega) (by omega);simp [c_317_l0,c_317_k1,h3,h10,h11,hL,hw]
  ·simp [kE]
theorem Kw {Φ:FuncId->Option AFun} {I:Type} {fin:Option (Ex×St)->Option I} (N:Nat) (Inv:Nat->Env->AH->Prop) (Q:Option I->Prop) {b:Xu} {K:List Fr}
  (step:∀i e h L,i<N->(∀j s,go Φ fin L (.exit j) s=go Φ fin K (.exit j) s)->Inv i e h->(∀e' h',Inv (i+1) e' h'->Q (go Φ fin L .normal ⟨e',h'⟩))->Q (go Φ fin (.c b::L) .normal ⟨e,h⟩))
  (last:∀e h L,(∀j s,go Φ fin L (.exit j) s=go Φ fin K (.exit j) s)->Inv N e h->Q (go Φ fin (.c b::L) .normal ⟨e,h⟩)):
  ∀i e h,i<=N->Inv i e h->Q (go Φ fin (.c (.loop b)::K) .normal ⟨e,h⟩):=by
 have key:∀n i e h,N - i<=n->i<=N->Inv i e h->Q (go Φ fin (.c (.loop b)::K) .normal ⟨e,h⟩):=by
  intro n
  induction n with
  | zero=>
   intro i e h hn hi hv;have:i=N:=by omega
   subst this;rw [cL];exact last e h _ (fun j s=>by simp) hv
  | succ n ih=>
   intro i e h hn hi hv;rcases Qv i N with hlt | hge
   ·rw [cL];exact step i e h _ hlt (fun j s=>by simp) hv fun e' h' hv'=>ih (i+1) e' h' (by omega) (by omega) hv'
   ·have:i=N:=by omega
    subst this;rw [cL];exact last e h _ (fun j s=>by simp) hv
 intro i e h hi hv;exact key (N - i) i e h (Qb _) hi hv
def cntF:AV:= .func (.func qF) [] [.ptr 0 1 0 0]
def cntH (c:Int) (m:Nat):AH:=⟨[(0,.row 1 [[a7 c]])],m⟩
theorem qyf (k t:Int) (cd:List Xd) (a b:List Xa) (c:Int) (m:Nat) (hc:0<=c/\c<2^60):aH Φ qF [.agg (Xa.c (.mk k t cd a b)),.ptr 0 1 0 0] (cntH c m)=some (.val (.bool true),cntH (c+1) m):=by
 rw [d6 rfl rfl];have hw:IntKind.wrap .i64 (c+1)=c+1:=cM (by omega) (by omega);simp [D8,cntH,Xa.e,hw]
theorem Ef:∀(n:Nat) (l:List Xa) (c:Int) (m:Nat),1<=m->SizeOf.sizeOf l<=n->0<=c->c+(pre l).length<2^60->(pre l).length<2^40->
  ∃m',m<=m'/\aH Φ eX [.slice 5 (l.map Xa.c),cntF] (cntH c m)=some (.val (.bool true),cntH (c+(pre l).length) m')
 | 0,l,c,m,_,h,_,_,_=>by cases l<;>simp at h
 | n+1,l,c,m,h1m,h,hc0,hb,hl=>by
  rw [d6 rfl rfl];have hll:=IF l;simp [lP,cntF];refine Kw l.length (fun i e H=>look 1 e=some cntF/\look 7 e=some (.slice 5 (l.map Xa.c))/\look 8 e=some (a7 l.length)/\look 9 e=some (a7 i)/\∃m1,m<=m1/\H=cntH (c+(pre (l.take i)).length) m1)
   (fun r=>∃m',m<=m'/\r=some (Rt.val (.bool true),cntH (c+(pre l).length) m')) ?_ ?_ 0 _ _ (Qc _) ?_
  ·rintro i e _ L hi hL ⟨h1,h7,h8,h9,m1,hm1,rfl⟩ ih;have hw:=aP i (by omega);obtain ⟨k,t,cd,a,b,hx⟩:=Ec l[i];have hm:l[i]∈l:=Qd hi;have hs:SizeOf.sizeOf l[i]<SizeOf.sizeOf l:=List.sizeOf_lt_of_mem hm;have hp:=Mz hi;have ht:=Ld hi;have htl:(pre (l.take (i+1))).length<=(pre l).length:=by
    have:pre l=pre (l.take (i+1))++pre (l.drop (i+1)):=by rw [<- HK,QB]
    rw [this];simp
   rw [hx] at hs hp ht;rw [KV] at hp ht;simp at hs hp;have htl2:=htl;rw [ht] at htl2;simp at htl2;obtain ⟨c',hc'⟩:∃c':Int,c'=c+(pre (l.take i)).length:=⟨_,rfl⟩;rw [<- hc'];have e1:=qyf k t cd a b c' (m1+1) (by omega);obtain ⟨m2,hm2,e2⟩:=Ef n a (c'+1) (m1+1) (by omega) (by omega) (by omega) (by omega) (by omega);obtain ⟨m3,hm3,e3⟩:=Ef n b (c'+1+(pre a).length) m2 (by omega) (by omega) (by omega) (by omega) (by omega);simp only [cntH,cntF,Xa.e] at e1 e2 e3;have hn0:¬(0=m1):=by omega
   have hn1:¬(m1=0):=by omega
   simp only [cntF] at h1;simp [c_318_l0,h1,h7,h8,h9,hi,hw,hx,Xa.e,cntH,hn0,e1,e2,e3];refine ih _ _ ⟨by simp [h1,cntF],by simp [h7],by simp [h8],by simp,m3,by omega,?_⟩;rw [ht,hc'];simp [cntH];omega
  ·rintro e _ L hL ⟨h1,h7,h8,h9,m1,hm1,rfl⟩;rw [kW];refine ⟨m1,hm1,?_⟩;simp [c_318_l0,c_318_k1,h8,h9,hL]
  ·simp [cntF,pre];exact ⟨m,Qb _,rfl⟩
theorem R3 (l:List Xa) (hl:(pre l).length<2^40):aB Φ uR [.slice 5 (l.map Xa.c)]=some (.val (a7 (pre l).length)):=by
 rw [aD rfl rfl];obtain ⟨m',hm,e⟩:=Ef _ l 0 1 (Qb _) (Qb _) (by omega) (by omega) hl;simp only [cntH,cntF] at e;simp [CR,e]
structure Wk where
 e:Int
 n:Int
 us:List Int
def wk1 (p:Prg) (w:Wk) (x:Xa):Wk:=if w.e≠0 then w else if iK p w.us x≠0 then ⟨iK p w.us x,w.n,w.us⟩ else ⟨0,w.n+1,if appl x then w.us++[x.table] else w.us⟩
def wk (p:Prg) (w:Wk) (l:List Xa):Wk:=l.foldl (wk1 p) w
theorem KQ (p:Prg) (w:Wk) (a b:List Xa):wk p w (a++b)=wk p (wk p w a) b:=by simp [wk]
theorem EA (p:Prg) (w:Wk) (h:w.e≠0):∀l,wk p w l=w
 | []=>rfl
 | x::l=>by
  have:wk1 p w x=w:=by simp [wk1,h]
  show wk p (wk1 p w x) l=w;rw [this];exact EA p w h l
theorem wk_n (p:Prg):∀(l:List Xa) (w:Wk),w.n<=(wk p w l).n/\(wk p w l).n<=w.n+l.length/\(wk p w l).us.length<=w.us.length+l.length
 | [],w=>by simp [wk]
 | x::l,w=>by
  have h:=wk_n p l (wk1 p w x);show w.n<=(wk p (wk1 p w x) l).n/\(wk p (wk1 p w x) l).n<=w.n+(x::l).length/\(wk p (wk1 p w x) l).us.length<=w.us.length+(x::l).length;have h1:w.n<=(wk1 p w x).n/\(wk1 p w x).n<=w.n+1/\(wk1 p w x).us.length<=w.us.length+1:=by
   unfold wk1;split
   ·simp;omega
   split
   ·simp;omega
   ·refine ⟨by simp;omega,by simp,?_⟩;simp only;split<;>simp
  simp only [zE];omega
def chkF (p:Prg):AV:= .func (.func q8) [] [.iptr 9 [Prg.c p] 0 0,.ptr 2 1 0 0,.ptr 0 1 0 0,.ptr 1 1 0 0]
def ChkH (w:Wk) (m:Nat) (H:AH):Prop:=3<=m/\((w.us=[]/\H=⟨[(0,.row 1 [[a7 w.e]]),(1,.row 1 [[a7 w.n]]),(2,.row 1 [[.Xt 1 []]])],m⟩)\/
 ∃q,3<=q/\q<m/\H=⟨[(0,.row 1 [[a7 w.e]]),(1,.row 1 [[a7 w.n]]),(2,.row 1 [[.app 1 (w.us.map cI) q]]),(q,.tok 1 w.us.length)],m⟩)
theorem qx8 (p:Prg) (k t:Int) (cd:List Xd) (a b:List Xa) (w:Wk) (m:Nat) (H:AH) (hH:ChkH w m H) (he:w.e=0) (hn:0<=w.n/\w.n<2^60) (hu:w.us.length<2^40 - 1) (ha:a.length<2^40) (hb:b.length<2^40):
  ∃m' H',m<=m'/\ChkH (wk1 p w (.mk k t cd a b)) m' H'/\aH Φ q8 [.agg (Xa.c (.mk k t cd a b)),.iptr 9 [Prg.c p] 0 0,.ptr 2 1 0 0,.ptr 0 1 0 0,.ptr 1 1 0 0] H=some (.val (.bool (decide ((wk1 p w (.mk k t cd a b)).e=0))),H'):=by
 have hw:IntKind.wrap .i64 (w.n+1)=w.n+1:=cM (by omega) (by omega);have hU:=R4 p k t cd a b w.us ha hb (by omega);have hA:=qv3 k t cd a b;simp only [Prg.e,Xa.e] at hU hA;obtain ⟨h3,⟨hus,rfl⟩ | ⟨q,hq,hqm,rfl⟩⟩:=hH
 ·rw [d6 rfl rfl];rw [hus] at hU;simp only [yF] at hU;by_cases z:iK p [] (.mk k t cd a b)=0
  ·rw [z] at hU;cases qa:appl (.mk k t cd a b) with
   | true=>
    rw [qa] at hA;have hn0:¬(0=m):=by omega
    have hn1:¬(1=m):=by omega
    have hn2:¬(2=m):=by omega
    have hn0':¬(m=0):=by omega
    have hn1':¬(m=1):=by omega
    have hn2':¬(m=2):=by omega
    refine ⟨m+1,⟨[(0,.row 1 [[a7 0]]),(1,.row 1 [[a7 (w.n+1)]]),(2,.row 1 [[.app 1 [[a7 t]] m]]),(m,.tok 1 1)],m+1⟩,Nat.le_succ _,⟨by omega,.inr ⟨m,h3,by omega,by simp [wk1,he,hus,z,qa,cI]⟩⟩,?_⟩;simp [gZ,Xa.e,Prg.e,hU,wk1,he,hus,z,qa,hA,hw,hn0,hn1,hn2]
   | false=>
    rw [qa] at hA;refine ⟨m,⟨[(0,.row 1 [[a7 0]]),(1,.row 1 [[a7 (w.n+1)]]),(2,.row 1 [[.Xt 1 []]])],m⟩,Qb _,⟨by omega,.inl ⟨by simp [wk1,he,hus,z,qa],by simp [wk1,he,hus,z,qa]⟩⟩,?_⟩;simp [gZ,Xa.e,Prg.e,hU,wk1,he,hus,z,qa,hA,hw]
  ·refine ⟨m,⟨[(0,.row 1 [[a7 (iK p [] (.mk k t cd a b))]]),(1,.row 1 [[a7 w.n]]),(2,.row 1 [[.Xt 1 []]])],m⟩,Qb _,⟨by omega,.inl ⟨by simp [wk1,he,hus,z],by simp [wk1,he,hus,z]⟩⟩,?_⟩;simp [gZ,Xa.e,Prg.e,hU,wk1,he,hus,z]
 ·rw [d6 rfl rfl];have q0:¬(0=q):=by omega
  have q1:¬(1=q):=by omega
  have q2:¬(2=q):=by omega
  have q0':¬(q=0):=by omega
  have q1':¬(q=1):=by omega
  have q2':¬(q=2):=by omega
  have hbb:(w.us.length+1)*8<=70368744177664:=by omega
  by_cases z:iK p w.us (.mk k t cd a b)=0
  ·rw [z] at hU;cases qa:appl (.mk k t cd a b) with
   | true=>
    rw [qa] at hA;refine ⟨m,⟨[(0,.row 1 [[a7 0]]),(1,.row 1 [[a7 (w.n+1)]]),(2,.row 1 [[.app 1 ((w.us++[t]).map cI) q]]),(q,.tok 1 (w.us.length+1))],m⟩,Qb _,⟨by omega,.inr ⟨q,hq,hqm,by simp [wk1,he,z,qa]⟩⟩,?_⟩;simp [gZ,Xa.e,Prg.e,hU,wk1,he,z,qa,hA,hw,q0,q1,q2,hbb,cI]
   | false=>
    rw [qa] at hA;refine ⟨m,⟨[(0,.row 1 [[a7 0]]),(1,.row 1 [[a7 (w.n+1)]]),(2,.row 1 [[.app 1 (w.us.map cI) q]]),(q,.tok 1 w.us.length)],m⟩,Qb _,⟨by omega,.inr ⟨q,hq,hqm,by simp [wk1,he,z,qa]⟩⟩,?_⟩;simp [gZ,Xa.e,Prg.e,hU,wk1,he,z,qa,hA,hw]
  ·refine ⟨m,⟨[(0,.row 1 [[a7 (iK p w.us (.mk k t cd a b))]]),(1,.row 1 [[a7 w.n]]),(2,.row 1 [[.app 1 (w.us.map cI) q]]),(q,.tok 1 w.us.length)],m⟩,Qb _,⟨by omega,.inr ⟨q,hq,hqm,by simp [wk1,he,z]⟩⟩,?_⟩;simp [gZ,Xa.e,Prg.e,hU,wk1,he,z]
theorem Cx {w:Wk} {m:Nat} {H:AH} (h:ChkH w m H):∃O,H=⟨O,m⟩/\look m O=none/\∀m',m<=m'->ChkH w m' ⟨O,m'⟩:=by
 obtain ⟨h3,⟨hus,rfl⟩ | ⟨q,hq,hqm,rfl⟩⟩:=h
 ·refine ⟨_,rfl,?_,fun m' hm=>⟨by omega,.inl ⟨hus,rfl⟩⟩⟩;have a0:¬(0=m):=by omega
  have a1:¬(1=m):=by omega
  have a2:¬(2=m):=by omega
  simp [a0,a1,a2]
 ·refine ⟨_,rfl,?_,fun m' hm=>⟨by omega,.inr ⟨q,hq,by omega,rfl⟩⟩⟩;have a0:¬(0=m):=by omega
  have a1:¬(1=m):=by omega
  have a2:¬(2=m):=by omega
  have a3:¬(q=m):=by omega
  simp [a0,a1,a2,a3]
def PK (p:Prg) (l:List Xa) (w:Wk) (m:Nat) (r:Option (Rt×AH)):Prop:=∃m' H',m<=m'/\ChkH (wk p w (pre l)) m' H'/\r=some (.val (.bool (decide ((wk p w (pre l)).e=0))),H')
theorem Eg (p:Prg):∀(n:Nat) (l:List Xa) (w:Wk) (m:Nat) (H:AH),ChkH w m H->w.e=0->SizeOf.sizeOf l<=n->0<=w.n->w.n+(pre l).length<2^60->w.us.length+(pre l).length<2^40 - 1->
  ∃m' H',m<=m'/\ChkH (wk p w (pre l)) m' H'/\aH Φ eX [.slice 5 (l.map Xa.c),chkF p] H=some (.val (.bool (decide ((wk p w (pre l)).e=0))),H')
 | 0,l,w,m,H,_,_,h,_,_,_=>by cases l<;>simp at h
 | n+1,l,w,m,H,hH,he,h,hn0,hn1,hu=>by
  have hll:=IF l;obtain ⟨O,rfl,hO,hup⟩:=Cx hH;have goal:PK p l w m (go Φ (finC lP.results) [.c lP.body] .normal ⟨dV 0 [.slice 5 (l.map Xa.c),chkF p],⟨O,m⟩⟩):=by
   simp [lP,chkF];refine Kw l.length (fun i e H=>look 1 e=some (chkF p)/\look 7 e=some (.slice 5 (l.map Xa.c))/\look 8 e=some (a7 l.length)/\look 9 e=some (a7 i)/\(wk p w (pre (l.take i))).e=0/\∃m1,m<=m1/\ChkH (wk p w (pre (l.take i))) m1 H)
    (PK p l w m) ?_ ?_ 0 _ _ (Qc _) ?_
   ·rintro i e H1 L hi hL ⟨h1,h7,h8,h9,hw0,m1,hm1,hH1⟩ ih;have hw:=aP i (by omega);obtain ⟨k,t,cd,a,b,hx⟩:=Ec l[i];have hm:l[i]∈l:=Qd hi;have hs:SizeOf.sizeOf l[i]<SizeOf.sizeOf l:=List.sizeOf_lt_of_mem hm;have ht:=Ld hi;have hpl:pre l=pre (l.take (i+1))++pre (l.drop (i+1)):=by rw [<- HK,QB]
    have htl:(pre (l.take (i+1))).length<=(pre l).length:=by rw [hpl];simp
    rw [hx] at hs ht;rw [KV] at ht;simp at hs;have htl2:=htl;rw [ht] at htl2;simp at htl2;obtain ⟨O1,rfl,hO1,hup1⟩:=Cx hH1;have r1:=wk_n p (pre (l.take i)) w;have al:=IF a;have bl:=IF b;have e2:wk p w (pre (l.take (i+1)))=wk p (wk p (wk1 p (wk p w (pre (l.take i))) (.mk k t cd a b)) (pre a)) (pre b):=by
     rw [ht,KQ];show wk p (wk1 p (wk p w (pre (l.take i))) (.mk k t cd a b)) (pre a++pre b)=_;rw [KQ]
    generalize hW:wk p w (pre (l.take i))=W at*;obtain ⟨m2,H2,hm2,hH2,c1⟩:=qx8 p k t cd a b W (m1+1) _ (hup1 (m1+1) (by omega)) hw0 ⟨by omega,by omega⟩ (by omega) (by omega) (by omega);have r2:(wk1 p W (.mk k t cd a b)).n<=W.n+1/\(wk1 p W (.mk k t cd a b)).us.length<=W.us.length+1/\W.n<=(wk1 p W (.mk k t cd a b)).n:=by
     have:=wk_n p [.mk k t cd a b] W;simp [wk] at this;omega
    simp only [Xa.e,Prg.e] at c1;simp only [chkF,Prg.e] at h1;by_cases y1:(wk1 p W (.mk k t cd a b)).e=0
    rotate_left
    ·-- the node is bad
     have e3:wk p w (pre l)=wk1 p W (.mk k t cd a b):=by
      rw [hpl,KQ,e2,EA p _ y1,EA p _ y1,EA p _ y1]
     refine ⟨m2,H2,by omega,by rw [e3];exact hH2,?_⟩;simp [c_318_l0,h1,h7,h8,h9,hi,hx,Xa.e,hO1,c1,y1,e3]
    obtain ⟨m3,H3,hm3,hH3,c2⟩:=Eg p n a _ m2 H2 hH2 y1 (by omega) (by omega) (by omega) (by omega);have r3:=wk_n p (pre a) (wk1 p W (.mk k t cd a b));simp only [chkF,Prg.e] at c2;generalize hW2:wk p (wk1 p W (.mk k t cd a b)) (pre a)=W2 at*;by_cases y2:W2.e=0
    rotate_left
    ·have e3:wk p w (pre l)=W2:=by
      rw [hpl,KQ,e2,EA p _ y2,EA p _ y2]
     refine ⟨m3,H3,by omega,by rw [e3];exact hH3,?_⟩;simp [c_318_l0,h1,h7,h8,h9,hi,hx,Xa.e,hO1,c1,c2,y1,y2,e3]
    obtain ⟨m4,H4,hm4,hH4,c3⟩:=Eg p n b _ m3 H3 hH3 y2 (by omega) (by omega) (by omega) (by omega);simp only [chkF,Prg.e] at c3;generalize hW3:wk p W2 (pre b)=W3 at*;by_cases y3:W3.e=0
    rotate_left
    ·have e3:wk p w (pre l)=W3:=by
      rw [hpl,KQ,e2,EA p _ y3]
     refine ⟨m4,H4,by omega,by rw [e3];exact hH4,?_⟩;simp [c_318_l0,h1,h7,h8,h9,hi,hx,Xa.e,hO1,c1,c2,c3,y1,y2,y3,e3]
    simp [c_318_l0,h1,h7,h8,h9,hi,hx,Xa.e,hO1,c1,c2,c3,y1,y2,y3,hw];exact ih _ _ ⟨by simp [h1,chkF,Prg.e],by simp [h7],by simp [h8],by simp,by rw [e2];exact y3,m4,by omega,by rw [e2];exact hH4⟩
   ·rintro e H1 L hL ⟨h1,h7,h8,h9,hw0,m1,hm1,hH1⟩;rw [kW] at hw0 hH1;obtain ⟨O1,rfl,hO1,hup1⟩:=Cx hH1;refine ⟨m1,_,hm1,hH1,?_⟩;simp [c_318_l0,c_318_k1,h8,h9,hL,hw0]
   ·simp [chkF,pre,wk,he];exact ⟨m,Qb _,hH⟩
  obtain ⟨m',H',k1,k2,k3⟩:=goal;exact ⟨m',H',k1,k2,by rw [d6 rfl rfl];exact k3⟩
def usOf (l:List Xa):List Int:=(l.filter appl).map (·.table)
theorem Yo (t:Int) (l:List Xa):(usOf l).contains t=l.any (fun y=>appl y&&decide (y.table=t)):=by
 unfold usOf;rw [KD,List.any_filter]
theorem Kz (p:Prg) (l:List Xa) (x:Xa):yU p l x=iK p (usOf l) x:=by
 unfold yU iK;rw [Yo]
def ctlG (p:Prg) (l:List Xa) (i:Nat):Option (Int×Int):=(l[i]?).bind fun x=>if yU p (l.take i) x=0 then none else some ((i:Int),yU p (l.take i) x)
theorem wk_fe (p:Prg) (l:List Xa):∀n i,n+i=l.length->((wk p ⟨0,i,usOf (l.take i)⟩ (l.drop i)).e=0/\fe (ctlG p l) l.length i=none)\/
  ((wk p ⟨0,i,usOf (l.take i)⟩ (l.drop i)).e≠0/\fe (ctlG p l) l.length i=some ((wk p ⟨0,i,usOf (l.take i)⟩ (l.drop i)).n,(wk p ⟨0,i,usOf (l.take i)⟩ (l.drop i)).e))
 | 0,i,h=>by
  have:i=l.length:=by omega
  subst this;simp [wk,gM]
 | n+1,i,h=>by
  have hi:i<l.length:=by omega
  rw [Qi hi];show ((wk p (wk1 p ⟨0,i,usOf (l.take i)⟩ l[i]) (l.drop (i+1))).e=0/\_)\/((wk p (wk1 p ⟨0,i,usOf (l.take i)⟩ l[i]) (l.drop (i+1))).e≠0/\fe (ctlG p l) l.length i=some ((wk p (wk1 p ⟨0,i,usOf (l.take i)⟩ l[i]) (l.drop (i+1))).n,(wk p (wk1 p ⟨0,i,usOf (l.take i)⟩ l[i]) (l.drop (i+1))).e));by_cases z:iK p (usOf (l.take i)) l[i]=0
  ·have e1:wk1 p ⟨0,i,usOf (l.take i)⟩ l[i]=⟨0,((i+1:Nat):Int),usOf (l.take (i+1))⟩:=by
    have hu:usOf (l.take (i+1))=if appl l[i] then usOf (l.take i)++[l[i].table] else usOf (l.take i):=by
     rw [Qh hi];unfold usOf;rw [List.filter_append,zG];cases q:appl l[i]<;>simp [q]
    rw [hu];simp [wk1,z]
   rw [e1,fI hi (by simp [ctlG,hi,Kz,z])];exact wk_fe p l n (i+1) (by omega)
  ·have e1:wk1 p ⟨0,i,usOf (l.take i)⟩ l[i]=⟨iK p (usOf (l.take i)) l[i],i,usOf (l.take i)⟩:=by simp [wk1,z]
   rw [e1,EA p _ z];refine .inr ⟨z,?_⟩;rw [bS hi (by simp only [ctlG,Qa hi,gI,Kz];rw [QA z])]
theorem V2 (p:Prg) (hl:(pre p.Ya).length<2^40 - 1):aB Φ u9 [.agg (Prg.c p)]=some (.val (.tup [a7 (ctlE p).1,a7 (ctlE p).2])):=by
 rw [aD rfl rfl];have hc:=R3 p.Ya (by omega);have hn:=Dv _ p.Ya (Qb _) (by omega);by_cases z1:24<(pre p.Ya).length
 ·simp [gY,Prg.e,hc,ctlE,z1]
 by_cases z2:6<nest p.Ya
 ·simp [gY,Prg.e,hc,hn,ctlE,z1,z2]
 have hE:ctlE p=(fe (ctlG p (pre p.Ya)) (pre p.Ya).length 0).getD (0,0):=by unfold ctlE;rw [QA z1,QA z2];rfl
 obtain ⟨m',H',hm',hH',hp⟩:=Eg p _ p.Ya ⟨0,0,[]⟩ 3 ⟨[(0,.row 1 [[a7 0]]),(1,.row 1 [[a7 0]]),(2,.row 1 [[.Xt 1 []]])],3⟩ ⟨by omega,.inl ⟨rfl,rfl⟩⟩ rfl (Qb _) (by simp) (by simp;omega) (by simp;omega);have hf:=wk_fe p (pre p.Ya) (pre p.Ya).length 0 (by omega);simp only [List.take_zero,List.drop_zero,show usOf []=[] from rfl,Int.ofNat_zero] at hf;generalize hW:wk p ⟨0,0,[]⟩ (pre p.Ya)=W at*;simp only [chkF,Prg.e] at hp;rw [hE];rcases hf with ⟨y,hf⟩ | ⟨y,hf⟩
 ·rw [hf];obtain ⟨h3,⟨hus,rfl⟩ | ⟨q,hq,hqm,rfl⟩⟩:=hH'
  ·simp [y] at hp;simp [gY,Prg.e,hc,hn,z1,z2,hp]
  ·simp [y] at hp;simp [gY,Prg.e,hc,hn,z1,z2,hp]
 ·rw [hf];obtain ⟨h3,⟨hus,rfl⟩ | ⟨q,hq,hqm,rfl⟩⟩:=hH'
  ·simp [y] at hp;simp [gY,Prg.e,hc,hn,z1,z2,hp,y]
  ·simp [y] at hp;simp [gY,Prg.e,hc,hn,z1,z2,hp,y]
def metG (p:Prg) (i:Nat):Option Dg:=(p.Xn[i]?).bind fun f=>if fldE p.Xn i f=0 then none else some (fldE p.Xn i f,(2:Int),(i:Int),(0:Int))
def metH (p:Prg) (i:Nat):Option Dg:=if p.Xn[i]? =some (rF i) then none else some (5,2,(i:Int),0)
theorem VU (p:Prg):metD p=if 12<p.Xn.length then some (12,2,0,0) else (fe (metG p) p.Xn.length 0).or (fe (metH p) 3 0):=by
 unfold metD;show (if _ then _ else (match fe (metG p) p.Xn.length 0 with | some d=>some d | none=>fe (metH p) 3 0))=_;cases fe (metG p) p.Xn.length 0<;>rfl
theorem Fld.eq_iff (a b:Fld):a=b↔a.name=b.name/\a.Yc=b.Yc:=Fld.ext_iff
theorem VX (p:Prg) (e:Env) (n:Nat) (h1:look 1 e=some (.iptr 9 [Prg.c p] 0 0)):go Φ (finP []) [.c c_132_k2] .normal ⟨e,⟨[],n⟩⟩=some (rtD (fe (metH p) 3 0)):=by
 rw [Prg.e] at h1;simp [c_132_k2];rw [cL];by_cases l0:p.Xn.length<=0
 ·rw [bS (x:=(5,2,0,0)) (by omega) (by unfold metH;rw [Qk l0];rfl)];have hnil:p.Xn=[]:=Qg (by omega);simp [c_132_l1,h1,hnil,dZ,eR,rtD]
 have k0:0<p.Xn.length:=by omega
 have hne:¬p.Xn=[]:=by intro h;rw [h] at k0;simp at k0
 by_cases a0:p.Xn[0].name=[105,110]
 rotate_left
 ·rw [bS (x:=(5,2,0,0)) (by omega) (by unfold metH;rw [Qa k0,QA (by simp [rF,Fld.eq_iff,a0])];rfl)];simp [c_132_l1,Fld.e,h1,hne,k0,a0,dZ,eR,rtD]
 by_cases b0:p.Xn[0].Yc=8
 rotate_left
 ·rw [bS (x:=(5,2,0,0)) (by omega) (by unfold metH;rw [Qa k0,QA (by simp [rF,Fld.eq_iff,b0])];rfl)];simp [c_132_l1,Fld.e,h1,hne,k0,a0,b0,dZ,eR,rtD]
 rw [fI (by omega) (by unfold metH;rw [Qa k0,a8 (by simp [rF,Fld.eq_iff,a0,b0])])];simp [c_132_l1,Fld.e,h1,hne,k0,a0,b0,dZ,gK,wr1];rw [cL];by_cases l1:p.Xn.length<=1
 ·rw [bS (x:=(5,2,1,0)) (by omega) (by unfold metH;rw [Qk l1];rfl)];simp [h1,l1,dZ,eR,rtD]
 have k1:1<p.Xn.length:=by omega
 by_cases a1:p.Xn[1].name=[111,117,116]
 rotate_left
 ·rw [bS (x:=(5,2,1,0)) (by omega) (by unfold metH;rw [Qa k1,QA (by simp [rF,Fld.eq_iff,a1])];rfl)];simp [Fld.e,h1,l1,k1,a1,dZ,eR,rtD]
 by_cases b1:p.Xn[1].Yc=8
 rotate_left
 ·rw [bS (x:=(5,2,1,0)) (by omega) (by unfold metH;rw [Qa k1,QA (by simp [rF,Fld.eq_iff,b1])];rfl)];simp [Fld.e,h1,l1,k1,a1,b1,dZ,eR,rtD]
 rw [fI (by omega) (by unfold metH;rw [Qa k1,a8 (by simp [rF,Fld.eq_iff,a1,b1])])];simp [Fld.e,h1,l1,k1,a1,b1,dZ,gK,wr2];rw [cL];by_cases l2:p.Xn.length<=2
 ·rw [bS (x:=(5,2,2,0)) (by omega) (by unfold metH;rw [Qk l2];rfl)];simp [h1,l2,dZ,eR,rtD]
 have k2:2<p.Xn.length:=by omega
 by_cases a2:p.Xn[2].name=[100,114,111,112]
 rotate_left
 ·rw [bS (x:=(5,2,2,0)) (by omega) (by unfold metH;rw [Qa k2,QA (by simp [rF,Fld.eq_iff,a2])];rfl)];simp [Fld.e,h1,l2,k2,a2,dZ,eR,rtD]
 by_cases b2:p.Xn[2].Yc=1
 rotate_left
 ·rw [bS (x:=(5,2,2,0)) (by omega) (by unfold metH;rw [Qa k2,QA (by simp [rF,Fld.eq_iff,b2])];rfl)];simp [Fld.e,h1,l2,k2,a2,b2,dZ,eR,rtD]
 rw [fI (by omega) (by unfold metH;rw [Qa k2,a8 (by simp [rF,Fld.eq_iff,a2,b2])])];simp [Fld.e,h1,l2,k2,a2,b2,dZ,gK,wr3];rw [cL,gM];simp [rtD]
theorem VW (p:Prg) (f:PrgS p):aB Φ tQ [.agg (Prg.c p)]=some (rtD (metD p)):=by
 rw [aD rfl rfl,VU];by_cases z:12<p.Xn.length
 ·simp [sG,Prg.e,z,dZ,eR,rtD]
 have e1:=Zj p.Xn f.m;rw [QA z];simp [sG,Prg.e,z,dZ,gK,e1];refine eS p.Xn.length (fun _=>[]) 0 (fun i e=>look 1 e=some (.iptr 9 [Prg.c p] 0 0)/\look 2 e=some (.slice 1 (p.Xn.map fun x=>[.str x.name]))/\look 17 e=some (.slice 2 (p.Xn.map Fld.c))/\look 18 e=some (a7 p.Xn.length)/\look 19 e=some (a7 i))
  (fun i=>some (rtD ((fe (metG p) p.Xn.length i).or (fe (metH p) 3 0)))) ?_ ?_ 0 _ 0 (Qc _) (Qb _) ?_
 ·rintro i e n L hi hL _ ⟨h1,h2,h17,h18,h19⟩ ih;have hlen:=f.m;have hw:=aP i (by omega);have ei:=Gn p.Xn[i].name (f.mn _ (Qd hi));have ew:=Wv p.Xn[i].Yc;have er:=KF Fld.name p.Xn i hi f.m;cases q1:idS p.Xn[i].name with
  | false=>
   rw [q1] at ei;rw [bS (x:=(6,2,(i:Int),0)) hi (by simp [metG,hi,fldE,q1])];simp [c_132_l0,Fld.e,h17,h18,h19,hi,ei,dZ,eR,rtD]
  | true=>
  rw [q1] at ei;cases q2:wBad p.Xn[i].Yc with
  | true=>
   rw [q2] at ew;rw [bS (x:=(10,2,(i:Int),0)) hi (by simp [metG,hi,fldE,q1,q2])];simp [c_132_l0,Fld.e,h17,h18,h19,hi,ei,ew,dZ,eR,gK,rtD]
  | false=>
  rw [q2] at ew;cases q3:dupN Fld.name p.Xn i p.Xn[i] with
  | true=>
   rw [q3] at er;rw [bS (x:=(7,2,(i:Int),0)) hi (by simp [metG,hi,fldE,q1,q2,q3])];simp [c_132_l0,Fld.e,h2,h17,h18,h19,hi,ei,ew,er,dZ,eR,gK,rtD]
  | false=>
   rw [q3] at er;rw [fI hi (by simp [metG,hi,fldE,q1,q2,q3])];simp [c_132_l0,Fld.e,h2,h17,h18,h19,hi,ei,ew,er,dZ,gK,hw];exact ih _ _ (Qc _) ⟨by simp [h1],by simp [h2],by simp [h17],by simp [h18],by simp⟩
 ·rintro e n L hL _ ⟨h1,h2,h17,h18,h19⟩;rw [gM];simp [c_132_l0,h18,h19,hL];exact VX p _ _ (by simp [h1])
 ·simp [Prg.e]
def regG (p:Prg) (i:Nat):Option Dg:=(p.Xl[i]?).bind fun r=>if EU p i r=0 then none else some (EU p i r,3,(i:Int),0)
def acG (p:Prg) (i:Nat):Option Dg:=(p.Xx[i]?).bind fun a=>if (actE p i).2≠0 then some ((actE p i).2,(4:Int),(i:Int),(actE p i).1) else if dupN Action.name p.Xx i a then some (7,4,(i:Int),0) else none
def tbG (p:Prg) (i:Nat):Option Dg:=(p.Xm[i]?).bind fun a=>if (tblE p i).2≠0 then some ((tblE p i).2,(5:Int),(i:Int),(tblE p i).1) else if dupN Tbl.name p.Xm i a then some (7,5,(i:Int),0) else none
theorem W5 (p:Prg) (f:PrgS p) (e:Env) (n:Nat) (h1:look 1 e=some (.iptr 9 [Prg.c p] 0 0)):go Φ (finP []) [.c c_133_k3] .normal ⟨e,⟨[],n⟩⟩=some (rtD (tblD p)):=by
 rw [show tblD p=fe (tbG p) p.Xm.length 0 from rfl];have e1:=Zk p.Xm f.t;rw [Prg.e] at h1;simp [c_133_k3,h1,e1];refine eS p.Xm.length (fun _=>[]) 0 (fun i e=>look 1 e=some (.iptr 9 [Prg.c p] 0 0)/\look 2 e=some (.slice 1 (p.Xm.map fun x=>[.str x.name]))/\look 64 e=some (a7 p.Xm.length)/\look 65 e=some (a7 i))
  (fun i=>some (rtD (fe (tbG p) p.Xm.length i))) ?_ ?_ 0 _ _ (Qc _) (Qc _) ?_
 ·rintro i e n L hi hL _ ⟨h1,h2,h64,h65⟩ ih;have hlen:=f.t;have hw:=aP i (by omega);have et:=Ep p f i;have er:=KF Tbl.name p.Xm i hi f.t;simp only [Prg.e] at et;rw [Prg.e] at h1;by_cases y:(tblE p i).2=0
  rotate_left
  ·rw [bS (x:=((tblE p i).2,5,(i:Int),(tblE p i).1)) hi (by simp [tbG,hi,y])];simp [c_133_l2,h1,h64,h65,hi,et,eR,y,rtD]
  rw [y] at et;cases q:dupN Tbl.name p.Xm i p.Xm[i] with
  | true=>
   rw [q] at er;rw [bS (x:=(7,5,(i:Int),0)) hi (by simp [tbG,hi,y,q])];simp [c_133_l2,h1,h2,h64,h65,hi,et,er,dZ,eR,gK,rtD]
  | false=>
   rw [q] at er;rw [fI hi (by simp [tbG,hi,y,q])];simp [c_133_l2,h1,h2,h64,h65,hi,et,er,dZ,gK,hw];exact ih _ _ (Qc _) ⟨by simp [h1,Prg.e],by simp [h2],by simp [h64],by simp⟩
 ·rintro e n L hL _ ⟨h1,h2,h64,h65⟩;rw [gM];simp [c_133_l2,h64,h65,hL,rtD]
 ·simp [h1,Prg.e]
theorem W4 (p:Prg) (f:PrgS p) (e:Env) (n:Nat) (h1:look 1 e=some (.iptr 9 [Prg.c p] 0 0)):go Φ (finP []) [.c c_133_k4] .normal ⟨e,⟨[],n⟩⟩=some (rtD ((rI p).or (tblD p))):=by
 rw [show rI p=fe (acG p) p.Xx.length 0 from rfl];have e1:=Ws p.Xx f.a;rw [Prg.e] at h1;simp [c_133_k4,h1,e1];refine eS p.Xx.length (fun _=>[]) 0 (fun i e=>look 1 e=some (.iptr 9 [Prg.c p] 0 0)/\look 2 e=some (.slice 1 (p.Xx.map fun x=>[.str x.name]))/\look 38 e=some (a7 p.Xx.length)/\look 39 e=some (a7 i))
  (fun i=>some (rtD ((fe (acG p) p.Xx.length i).or (tblD p)))) ?_ ?_ 0 _ _ (Qc _) (Qc _) ?_
 ·rintro i e n L hi hL _ ⟨h1,h2,h38,h39⟩ ih;have hlen:=f.a;have hw:=aP i (by omega);have et:=Lx p f i;have er:=KF Action.name p.Xx i hi f.a;simp only [Prg.e] at et;rw [Prg.e] at h1;by_cases y:(actE p i).2=0
  rotate_left
  ·rw [bS (x:=((actE p i).2,4,(i:Int),(actE p i).1)) hi (by simp [acG,hi,y])];simp [c_133_l1,h1,h38,h39,hi,et,eR,y,rtD]
  rw [y] at et;cases q:dupN Action.name p.Xx i p.Xx[i] with
  | true=>
   rw [q] at er;rw [bS (x:=(7,4,(i:Int),0)) hi (by simp [acG,hi,y,q])];simp [c_133_l1,h1,h2,h38,h39,hi,et,er,dZ,eR,gK,rtD]
  | false=>
   rw [q] at er;rw [fI hi (by simp [acG,hi,y,q])];simp [c_133_l1,h1,h2,h38,h39,hi,et,er,dZ,gK,hw];exact ih _ _ (Qc _) ⟨by simp [h1,Prg.e],by simp [h2],by simp [h38],by simp⟩
 ·rintro e n L hL _ ⟨h1,h2,h38,h39⟩;rw [gM];simp [c_133_l1,h38,h39,hL];exact W5 p f _ _ (by simp [h1])
 ·simp [h1,Prg.e]
theorem Z8 (p:Prg) (f:PrgS p):aB Φ tR [.agg (Prg.c p)]=some (rtD ((regD p).or ((rI p).or (tblD p)))):=by
 rw [aD rfl rfl,show regD p=fe (regG p) p.Xl.length 0 from rfl];have e1:=Wl p.Xl f.r;generalize hX:(rI p).or (tblD p)=X;simp [BG,Prg.e,e1];refine eS p.Xl.length (fun _=>[]) 0 (fun i e=>look 1 e=some (.iptr 9 [Prg.c p] 0 0)/\look 2 e=some (.slice 1 (p.Xl.map fun x=>[.str x.name]))/\look 15 e=some (.slice 3 (p.Xl.map Xg.c))/\look 16 e=some (a7 p.Xl.length)/\look 17 e=some (a7 i))
  (fun i=>some (rtD ((fe (regG p) p.Xl.length i).or X))) ?_ ?_ 0 _ _ (Qc _) (Qc _) ?_
 ·rintro i e n L hi hL _ ⟨h1,h2,h15,h16,h17⟩ ih;have hlen:=f.r;have hw:=aP i (by omega);have et:=X7 p.Xl[i] (f.rn _ (Qd hi));have er:=KF Xg.name p.Xl i hi f.r;simp only [Xg.e] at et;by_cases y:regE p.Xl[i]=0
  rotate_left
  ·rw [bS (x:=(regE p.Xl[i],3,(i:Int),0)) hi (by simp [regG,hi,EU,y])];simp [c_133_l0,Xg.e,h15,h16,h17,hi,et,eR,y,rtD]
  rw [y] at et;cases q:dupN Xg.name p.Xl i p.Xl[i] with
  | true=>
   rw [q] at er;rw [bS (x:=(7,3,(i:Int),0)) hi (by simp [regG,hi,EU,y,q])];simp [c_133_l0,Xg.e,h2,h15,h16,h17,hi,et,er,dZ,eR,gK,rtD]
  | false=>
   rw [q] at er;rw [fI hi (by simp [regG,hi,EU,y,q])];simp [c_133_l0,Xg.e,h2,h15,h16,h17,hi,et,er,dZ,gK,hw];exact ih _ _ (Qc _) ⟨by simp [h1],by simp [h2],by simp [h15],by simp [h16],by simp⟩
 ·rintro e n L hL _ ⟨h1,h2,h15,h16,h17⟩;rw [gM];simp [c_133_l0,h16,h17,hL];rw [<- hX];exact W4 p f _ _ (by simp [h1])
 ·simp [Prg.e]
theorem YA (p:Prg) (f:PrgS p) (hc:(pre p.Ya).length<2^40 - 1):aB Φ tS [.agg (Prg.c p)]=some (rtD (floD p)):=by
 rw [aD rfl rfl];have e1:=My p f;have e2:=V2 p hc;have e3:=Mi p f;simp only [Prg.e,tup3] at e1 e2 e3;by_cases y1:(parE p).2.2=0
 rotate_left
 ·simp [lD,Prg.e,e1,y1,eR,floD,rtD]
 rw [y1] at e1;by_cases y2:(ctlE p).2=0
 rotate_left
 ·simp [lD,Prg.e,e1,y1,e2,y2,eR,gK,floD,rtD]
 rw [y2] at e2;by_cases y3:(depE p).2=0
 rotate_left
 ·simp [lD,Prg.e,e1,y1,e2,y2,e3,y3,eR,gK,floD,rtD]
 rw [y3] at e3;simp [lD,Prg.e,e1,y1,e2,y2,e3,y3,gK,floD,rtD]
theorem NS {Φ:FuncId->Option AFun} (c:Xu) (s:St):dD Φ c s=go Φ (fun o=>o) [.c c] .normal s:=by
 rw [go_c];cases dD Φ c s with
 | none=>rfl
 | some p=>rfl
def dgC (d:Dg):List AV:=[a7 d.1,a7 d.2.1,a7 d.2.2.1,a7 d.2.2.2]
def chkE (p:Prg):Env:=[(3,.func (.func i7) [] [.ptr 1 4 0 0]),(2,.ptr 1 4 0 0),(1,.ptr 0 9 0 0),(0,.agg (Prg.c p))]
def kL (p:Prg) (d:List AV):AH:=⟨[(0,.row 9 [Prg.c p]),(1,.row 4 [d])],2⟩
theorem qx9 (p:Prg) (f:PrgS p) (hc:(pre p.Ya).length<2^40 - 1):∃e',look 2 e'=some (.ptr 1 4 0 0)/\go Φ (fun o=>o) [.c (match cJ.code with | .seq _ (.dfr _ _ b)=>b | _=> .skip)] .normal ⟨chkE p,kL p [a7 0,a7 0,a7 0,a7 0]⟩=
  match (limD p).or ((hdrD p).or ((metD p).or (((regD p).or ((rI p).or (tblD p))).or (floD p)))) with
  | none=>some (.ret,⟨e',kL p [.int .i64 0,.int .i64 0,.int .i64 0,.int .i64 0]⟩)
  | some d=>some (.pan (s7 d.1 d.2.1 d.2.2.1 d.2.2.2),⟨e',kL p [.int .i64 0,.int .i64 0,.int .i64 0,.int .i64 0]⟩):=by
 have h1:=qze p f;have h2:=Wq p f;have h3:=VW p f;have h4:=Z8 p f;have h5:=YA p f hc;simp only [Prg.e] at h1 h2 h3 h4 h5;cases q1:limD p with
 | some d=>rw [q1] at h1;simp [cJ,chkE,kL,Prg.e,h1,rtD]
 | none=>
 cases q2:hdrD p with
 | some d=>rw [q1] at h1;rw [q2] at h2;simp [cJ,chkE,kL,Prg.e,h1,h2,rtD]
 | none=>
 cases q3:metD p with
 | some d=>rw [q1] at h1;rw [q2] at h2;rw [q3] at h3;simp [cJ,chkE,kL,Prg.e,h1,h2,h3,rtD]
 | none=>
 cases q4:(regD p).or ((rI p).or (tblD p)) with
 | some d=>rw [q1] at h1;rw [q2] at h2;rw [q3] at h3;rw [q4] at h4;simp [cJ,chkE,kL,Prg.e,h1,h2,h3,h4,rtD]
 | none=>
 cases q5:floD p with
 | some d=>rw [q1] at h1;rw [q2] at h2;rw [q3] at h3;rw [q4] at h4;rw [q5] at h5;simp [cJ,chkE,kL,Prg.e,h1,h2,h3,h4,h5,rtD]
 | none=>rw [q1] at h1;rw [q2] at h2;rw [q3] at h3;rw [q4] at h4;rw [q5] at h5;simp [cJ,chkE,kL,Prg.e,h1,h2,h3,h4,h5,rtD]
def kA:Xu:=match cJ.code with | .seq a _=>a | _=> .skip
def kB:Xu:=match cJ.code with | .seq _ (.dfr _ _ b)=>b | _=> .skip
theorem VI (p:Prg):prgD p=((limD p).or ((hdrD p).or ((metD p).or (((regD p).or ((rI p).or (tblD p))).or (floD p))))).getD (0,0,0,0):=by
 unfold prgD;cases limD p<;>cases hdrD p<;>cases metD p<;>cases regD p<;>cases rI p<;>cases tblD p<;>rfl
theorem UV (p:Prg) (d:List AV) (hd:d.length=4):cloI Φ cJ .niliface [.ptr 1 4 0 0] (kL p d)=some (kL p d):=by
 unfold cloI;rw [NS];simp [cJ,recE]
theorem UW (p:Prg) (d:Dg):∃h,cloI Φ cJ (s7 d.1 d.2.1 d.2.2.1 d.2.2.2) [.ptr 1 4 0 0] (kL p [a7 0,a7 0,a7 0,a7 0])=some h/\look 1 h.objs=some (.row 4 [dgC d]):=by
 unfold cloI;rw [NS];simp [cJ,recE,s7,tF,kL,dgC]
theorem Za (p:Prg) (f:PrgS p) (hc:(pre p.Ya).length<2^40 - 1):aB Φ FS [.agg (Prg.c p)]=some (.val (.agg (dgC (prgD p)))):=by
 unfold aB;rw [qx5 Φ (d:=cJ) rfl rfl,show cJ.code= .seq kA (.dfr [⟨some 3,none,.mkfunc (.func i7) [] [.t 2]⟩] 3 kB) from rfl];have a1:dD Φ kA ⟨dV 0 [.agg (Prg.c p)],H0⟩=some (.normal,⟨[(2,.ptr 1 4 0 0),(1,.ptr 0 9 0 0),(0,.agg (Prg.c p))],kL p [a7 0,a7 0,a7 0,a7 0]⟩):=by
  rw [NS];simp [kA,cJ,kL]
 obtain ⟨e',he',hb⟩:=qx9 p f hc;have hb2:dD Φ kB ⟨chkE p,kL p [a7 0,a7 0,a7 0,a7 0]⟩=_:=(NS _ _).trans hb;have a2:aZ (aH Φ) none [⟨some 3,none,.mkfunc (.func i7) [] [.t 2]⟩] ⟨[(2,.ptr 1 4 0 0),(1,.ptr 0 9 0 0),(0,.agg (Prg.c p))],kL p [a7 0,a7 0,a7 0,a7 0]⟩=
   some (.normal,⟨chkE p,kL p [a7 0,a7 0,a7 0,a7 0]⟩):=by
  simp [aZ,fJ,chkE]
 simp only [s5,a1,a2];have a3:(look 3 (chkE p)).bind tgt=some (i7,[.ptr 1 4 0 0]):=by simp [chkE]
 rw [a3];simp only [show cJ.clo=i7 from rfl,show cJ.ncaps=1 from rfl,List.length_singleton,and_self,if_true];rw [hb2,VI];cases (limD p).or ((hdrD p).or ((metD p).or (((regD p).or ((rI p).or (tblD p))).or (floD p)))) with
 | none=>
  simp only [GO];rw [UV p _ rfl];simp [wG,cJ,he',kL,dgC]
 | some d=>
  obtain ⟨h,k1,k2⟩:=UW p d;simp only [GO];rw [k1];obtain ⟨O,n⟩:=h;simp only [dgC] at k2;simp [wG,cJ,show Option.isSome (some ((4:Nat),(1:Nat)))=true from rfl,he',k2,dgC]
theorem Eb {Z:Type} {f:Nat->Option Z} {N:Nat} {x:Z}:∀{i},fe f N i=some x->∃k,k<N/\f k=some x:=by
 have key:∀n i,feF f n i=some x->∃k,k<i+n/\f k=some x:=by
  intro n
  induction n with
  | zero=>intro i h;simp [feF] at h
  | succ n ih=>
   intro i h;simp only [feF] at h;cases q:f i with
   | some y=>rw [q] at h;cases h;exact ⟨i,by omega,q⟩
   | none=>
    rw [q] at h;obtain ⟨k,h1,h2⟩:=ih _ h;exact ⟨k,by omega,h2⟩
 intro i h;unfold fe at h;obtain ⟨k,h1,h2⟩:=key _ _ h;by_cases hi:i<=N
 ·exact ⟨k,by omega,h2⟩
 ·rw [show N - i=0 by omega] at h;simp [feF] at h
def gD {Z:Type} [DecidableEq Z] (l m:List Z) (i:Nat):Bool:=decide (l.drop i=m.drop i)
theorem zZ {Z:Type} [DecidableEq Z] {l m:List Z} {i:Nat} (h1:i<l.length) (h2:i<m.length) (h:l[i]=m[i]):gD l m i=gD l m (i+1):=by
 unfold gD;rw [decide_eq_decide,Gw h1 h2];simp [h]
theorem w9 {Z:Type} [DecidableEq Z] {l m:List Z} {i:Nat} (h1:i<l.length) (h2:i<m.length) (h:l[i]≠m[i]):gD l m i=false:=by
 unfold gD;rw [decide_eq_false_iff_not,Gw h1 h2];simp [h]
theorem zY {Z:Type} [DecidableEq Z] {l m:List Z} (h:l.length=m.length):gD l m l.length=true:=by
 simp [gD,h]
theorem Bk (k1 k2:List Xh) (p1 p2:Int) (r1 r2:List AV) (hb:k1.length<2^40):
   aB Φ tW [.agg (.slice 2 (k1.map Xh.c):: a7 p1::r1),.agg (.slice 2 (k2.map Xh.c):: a7 p2::r2)]=some (.val (.bool (decide (k1=k2/\p1=p2)))):=by
  rw [aD rfl rfl];by_cases q1:k1.length=k2.length
  rotate_left
  · have:k1≠k2:=fun h=>q1 (by rw [h])
    simp [oF,q1,this]
  by_cases q2:p1=p2
  rotate_left
  · simp [oF,q1,q2]
  subst q2;simp [oF,q1];refine (mQ k1.length (fun i e=>look 2 e=some (AV.ptr 0 (r1.length+1+1) 0 0)/\look 3 e=some (AV.ptr 1 (r2.length+1+1) 0 0)/\look 5 e=some (a7 i))
    (fun i=>some (Rt.val (AV.bool (gD k1 k2 i)))) ?_ ?_ 0 _ (Qc _) ?_).trans (by simp [gD])
  · rintro i e L hi hL ⟨h2,h3,h5⟩ ih
    have hi2:i<k2.length:=by omega
    have hw:=aP i (by omega);by_cases c:k1[i]=k2[i]
    · rw [zZ hi hi2 c]
      simp [c_165_l0,Xh.c,hi,hi2,h2,h3,h5,hw,c];exact ih _ ⟨by simp [h2],by simp [h3],by simp⟩
    · rw [w9 hi hi2 c]
      have c':(decide (k1[i].value=k2[i].value)&&decide (k1[i].Yd=k2[i].Yd))=false:=by
        simp [Xh.ext_iff] at c ⊢;exact c
      simp [c_165_l0,Xh.c,hi,hi2,h2,h3,h5,c']
  · rintro e L hL ⟨h2,h3,h5⟩
    rw [zY q1];simp [c_165_l0,c_165_k1, *]
  · simp
theorem Gj (a1 a2:Int) (l1 l2:List Int) (hb:l1.length<2^40):
   aB Φ w3 [.agg [a7 a1,.slice 1 (l1.map c32)],.agg [a7 a2,.slice 1 (l2.map c32)]]=some (.val (.bool (decide (a1=a2/\l1=l2)))):=by
  rw [aD rfl rfl];by_cases q2:a1=a2
  rotate_left
  · simp [zK,q2]
  subst q2;by_cases q1:l1.length=l2.length
  rotate_left
  · have:l1≠l2:=fun h=>q1 (by rw [h])
    simp [zK,q1,this]
  simp [zK,q1];refine (mQ l1.length (fun i e=>look 2 e=some (AV.ptr 0 2 0 0)/\look 3 e=some (AV.ptr 1 2 0 0)/\look 5 e=some (a7 i))
    (fun i=>some (Rt.val (AV.bool (gD l1 l2 i)))) ?_ ?_ 0 _ (Qc _) ?_).trans (by simp [gD])
  · rintro i e L hi hL ⟨h2,h3,h5⟩ ih
    have hi2:i<l2.length:=by omega
    have hw:=aP i (by omega);by_cases c:l1[i]=l2[i]
    · rw [zZ hi hi2 c]
      simp [c_44_l0,c32,hi,hi2,h2,h3,h5,hw,c];exact ih _ ⟨by simp [h2],by simp [h3],by simp⟩
    · rw [w9 hi hi2 c]
      simp [c_44_l0,c32,hi,hi2,h2,h3,h5,c]
  · rintro e L hL ⟨h2,h3,h5⟩
    rw [zY q1];simp [c_44_l0,c_44_k1, *]
  · simp
theorem QK (k1 k2:List Xh) (p1 p2:Int) (a1 a2:Int) (l1 l2:List Int) (hb:k1.length<2^40) (hb':l1.length<2^40):
   aB Φ zS [.agg [.slice 2 (k1.map Xh.c),a7 p1,a7 a1,.slice 1 (l1.map c32)],.agg [.slice 2 (k2.map Xh.c),a7 p2,a7 a2,.slice 1 (l2.map c32)]]=some (.val (.bool (decide (k1=k2/\p1=p2/\a1=a2/\l1=l2)))):=by
  rw [aD rfl rfl];by_cases q1:k1=k2
  · by_cases q2:p1=p2
    · subst q1
      simp [zN,Bk,Gj,hb,hb',q2]
    · subst q1
      simp [zN,Bk,hb,q2]
  · simp [zN,Bk,hb,q1]
theorem qty (k1 k2:List Xh) (p1 p2:Int) (r1 r2:List AV) (hb:k1.length<2^40):
   aB Φ zR [.agg (.slice 2 (k1.map Xh.c):: a7 p1::r1),.agg (.slice 2 (k2.map Xh.c):: a7 p2::r2)]=some (.val (.bool (decide (k1=k2/\p1=p2)))):=by
  rw [aD rfl rfl];by_cases q2:p1=p2
  rotate_left
  · simp [zM,q2]
  by_cases q1:k1.length=k2.length
  rotate_left
  · have:k1≠k2:=fun h=>q1 (by rw [h])
    simp [zM,q1,this,q2]
  subst q2;simp [zM,q1];refine (G7 k1.length (fun i e h=>look 2 e=some (AV.ptr 0 (r1.length+1+1) 0 0)/\look 3 e=some (AV.ptr 1 (r2.length+1+1) 0 0)/\look 22 e=some (.slice 2 (k1.map Xh.c))/\look 23 e=some (a7 k2.length)/\look 24 e=some (a7 i)/\
      HP [(0,AO.row (r1.length+1+1) [.slice 2 (k1.map Xh.c):: a7 p1::r1]),(1,AO.row (r2.length+1+1) [.slice 2 (k2.map Xh.c):: a7 p1::r2])] 2 h)
    (fun i=>some (Rt.val (AV.bool (gD k1 k2 i)))) ?_ ?_ 0 _ _ (Qc _) ?_).trans (by simp [gD])
  · rintro i e _ L hi hL ⟨h2,h3,h22,h23,h24,T,n,hT,rfl⟩ ih
    have hi2:i<k2.length:=by omega
    have hw:=aP i (by omega);have hT':=hT (n+2) (Qb _);by_cases c:k1[i]=k2[i]
    · rw [zZ hi hi2 c]
      simp [c_77_l0,Xh.c,hi,hi2,h3,h22,h23,h24,hw,c,hT'];exact ih _ _ ⟨by simp [h2],by simp [h3],by simp [h22],by simp [h23],by simp,HP.next hT⟩
    · rw [w9 hi hi2 c]
      have c':(decide (k1[i].value=k2[i].value)&&decide (k1[i].Yd=k2[i].Yd))=false:=by
        simp [Xh.ext_iff] at c ⊢;exact c
      simp [c_77_l0,Xh.c,hi,hi2,h3,h22,h23,h24,c',hT']
  · rintro e _ L hL ⟨h2,h3,h22,h23,h24,T,n,hT,rfl⟩
    rw [zY q1];simp [c_77_l0,c_77_k1, *]
  · simp
    exact HP.mk
theorem Entry.eq_iff (x y:Entry):x=y↔x.keys=y.keys/\x.Xs=y.Xs/\x.call.Xy=y.call.Xy/\x.call.args=y.call.args:=by
 constructor
 ·rintro rfl;simp
 ·rintro ⟨a,b,c,d⟩;obtain ⟨k,p,u,v⟩:=x;obtain ⟨k',p',u',v'⟩:=y;simp only at a b c d;subst a b c d;rfl
def Entry.sm (x:Entry):Prop:=x.keys.length<2^40/\x.call.args.length<2^40
theorem qzo (x y:Entry) (hb:x.sm):aB Φ zS [.agg (Entry.c x),.agg (Entry.c y)]=some (.val (.bool (decide (x=y)))):=by
 rw [decide_eq_decide.2 (Entry.eq_iff x y)];exact QK x.keys y.keys x.Xs y.Xs x.call.Xy y.call.Xy x.call.args y.call.args hb.1 hb.2
theorem Rw.ce (x:Rw):Rw.c x=[a7 x.id,.slice 2 (x.entry.keys.map Xh.c),a7 x.entry.Xs,a7 x.entry.call.Xy,.slice 1 (x.entry.call.args.map c32)]:=by simp [Rw.c]
theorem cSe {Z:Type} (z:Nat) (f:Z->List AV) (l:List Z):cS z f l=[.slice z (l.map f)]:=by simp [cS]
theorem Xb.ce (x:Xb):Xb.c x=[a7 x.Xy,.slice 1 (x.args.map c32)]:=by simp [Xb.c]
theorem Entry.ce (x:Entry):Entry.c x=[.slice 2 (x.keys.map Xh.c),a7 x.Xs,a7 x.call.Xy,.slice 1 (x.call.args.map c32)]:=by simp [Entry.c]
theorem Xe.ce (x:Xe):Xe.c x=[.slice 1 (x.rows.map (cS 5 Rw.c)),.slice 1 (x.Xq.map cI),.slice 2 (x.Xp.map Xb.c),.slice 1 (x.Xl.map (cS 1 c32))]:=by simp [Xe.c]
theorem cIe (x:Int):cI x=[a7 x]:=by simp [cI]
theorem c32e (x:Int):c32 x=[.int .u32 x]:=by simp [c32]
theorem Rw.eq_iff (x y:Rw):x=y↔x.id=y.id/\x.entry=y.entry:=by
 constructor
 ·rintro rfl;simp
 ·rintro ⟨a,b⟩;obtain ⟨u,v⟩:=x;obtain ⟨u',v'⟩:=y;simp only at a b;subst a b;rfl
theorem Xb.eq_iff (x y:Xb):x=y↔x.Xy=y.Xy/\x.args=y.args:=by
 constructor
 ·rintro rfl;simp
 ·rintro ⟨a,b⟩;obtain ⟨u,v⟩:=x;obtain ⟨u',v'⟩:=y;simp only at a b;subst a b;rfl
structure CfgS (a:Xe):Prop where
 rl:a.rows.length<2^40
 rs:∀l∈a.rows,l.length<2^40/\∀r∈l,r.entry.sm
 nl:a.Xq.length<2^40
 dl:a.Xp.length<2^40
 ds:∀d∈a.Xp,d.args.length<2^40
 gl:a.Xl.length<2^40
 gs:∀l∈a.Xl,l.length<2^40
theorem Xe.eq_iff (a b:Xe):a=b↔a.rows=b.rows/\a.Xq=b.Xq/\a.Xp=b.Xp/\a.Xl=b.Xl:=by
 constructor
 ·rintro rfl;simp
 ·rintro ⟨h1,h2,h3,h4⟩;obtain ⟨x,y,z,u⟩:=a;obtain ⟨x',y',z',u'⟩:=b;simp only at h1 h2 h3 h4;subst h1 h2 h3 h4;rfl
theorem SO (l m:List Int) (hb:l.length<2^40):aB Φ FN [.slice 1 (l.map cI),.slice 1 (m.map cI)]=some (.val (.bool (decide (l=m)))):=by
 rw [aD rfl rfl];by_cases q1:l.length=m.length
 rotate_left
 ·have:l≠m:=fun h=>q1 (by rw [h])
  simp [FB,q1,this]
 simp [FB,q1];refine (mQ l.length (fun i e=>look 0 e=some (.slice 1 (l.map cI))/\look 1 e=some (.slice 1 (m.map cI))/\look 5 e=some (a7 i))
  (fun i=>some (Rt.val (AV.bool (gD l m i)))) ?_ ?_ 0 _ (Qc _) ?_).trans (by simp [gD])
 ·rintro i e L hi hL ⟨h0,h1,h5⟩ ih;have hi2:i<m.length:=by omega
  have hw:=aP i (by omega);by_cases c:l[i]=m[i]
  ·rw [zZ hi hi2 c];simp [c_41_l0,cIe,hi,hi2,h0,h1,h5,hw,c];exact ih _ ⟨by simp [h0],by simp [h1],by simp⟩
  ·rw [w9 hi hi2 c];simp [c_41_l0,cIe,hi,hi2,h0,h1,h5,c]
 ·rintro e L hL ⟨h0,h1,h5⟩;rw [zY q1];simp [c_41_l0,c_41_k1, *]
 ·simp
theorem SR (l m:List Int) (hb:l.length<2^40):aB Φ FV [.slice 1 (l.map c32),.slice 1 (m.map c32)]=some (.val (.bool (decide (l=m)))):=by
 rw [aD rfl rfl];by_cases q1:l.length=m.length
 rotate_left
 ·have:l≠m:=fun h=>q1 (by rw [h])
  simp [FE,q1,this]
 simp [FE,q1];refine (mQ l.length (fun i e=>look 0 e=some (.slice 1 (l.map c32))/\look 1 e=some (.slice 1 (m.map c32))/\look 5 e=some (a7 i))
  (fun i=>some (Rt.val (AV.bool (gD l m i)))) ?_ ?_ 0 _ (Qc _) ?_).trans (by simp [gD])
 ·rintro i e L hi hL ⟨h0,h1,h5⟩ ih;have hi2:i<m.length:=by omega
  have hw:=aP i (by omega);by_cases c:l[i]=m[i]
  ·rw [zZ hi hi2 c];simp [c_94_l0,c32e,hi,hi2,h0,h1,h5,hw,c];exact ih _ ⟨by simp [h0],by simp [h1],by simp⟩
  ·rw [w9 hi hi2 c];simp [c_94_l0,c32e,hi,hi2,h0,h1,h5,c]
 ·rintro e L hL ⟨h0,h1,h5⟩;rw [zY q1];simp [c_94_l0,c_94_k1, *]
 ·simp
theorem SP (l m:List (List Int)) (hb:l.length<2^40) (hf:∀x∈l,x.length<2^40):aB Φ FO [.slice 1 (l.map (cS 1 c32)),.slice 1 (m.map (cS 1 c32))]=some (.val (.bool (decide (l=m)))):=by
 rw [aD rfl rfl];by_cases q1:l.length=m.length
 rotate_left
 ·have:l≠m:=fun h=>q1 (by rw [h])
  simp [FC,q1,this]
 simp [FC,q1];refine (mQ l.length (fun i e=>look 0 e=some (.slice 1 (l.map (cS 1 c32)))/\look 1 e=some (.slice 1 (m.map (cS 1 c32)))/\look 5 e=some (a7 i))
  (fun i=>some (Rt.val (AV.bool (gD l m i)))) ?_ ?_ 0 _ (Qc _) ?_).trans (by simp [gD])
 ·rintro i e L hi hL ⟨h0,h1,h5⟩ ih;have hi2:i<m.length:=by omega
  have hw:=aP i (by omega);have hee:=SR l[i] m[i] (hf _ (Qd hi));by_cases c:l[i]=m[i]
  ·rw [decide_eq_true c] at hee;rw [zZ hi hi2 c];simp [c_42_l0,cSe,hi,hi2,h0,h1,h5,hw,hee];refine (ih _ ⟨by simp [h0],by simp [h1],by simp⟩).trans (by simp)
  ·rw [decide_eq_false c] at hee;rw [w9 hi hi2 c];simp [c_42_l0,cSe,hi,hi2,h0,h1,h5,hee]
 ·rintro e L hL ⟨h0,h1,h5⟩;rw [zY q1];simp [c_42_l0,c_42_k1, *]
 ·simp
theorem SQ (l m:List Rw) (hb:l.length<2^40) (hs:∀r∈l,r.entry.sm):aB Φ FP [.slice 5 (l.map Rw.c),.slice 5 (m.map Rw.c)]=some (.val (.bool (decide (l=m)))):=by
 rw [aD rfl rfl];by_cases q1:l.length=m.length
 rotate_left
 ·have:l≠m:=fun h=>q1 (by rw [h])
  simp [FD,q1,this]
 simp [FD,q1];refine (mQ l.length (fun i e=>look 0 e=some (.slice 5 (l.map Rw.c))/\look 1 e=some (.slice 5 (m.map Rw.c))/\look 5 e=some (a7 i))
  (fun i=>some (Rt.val (AV.bool (gD l m i)))) ?_ ?_ 0 _ (Qc _) ?_).trans (by simp [gD])
 ·rintro i e L hi hL ⟨h0,h1,h5⟩ ih;have hi2:i<m.length:=by omega
  have hw:=aP i (by omega);have hee:=qzo l[i].entry m[i].entry (hs _ (Qd hi));simp only [Entry.ce] at hee;by_cases c1:l[i].id=m[i].id
  rotate_left
  ·rw [w9 hi hi2 (fun h=>c1 (by rw [h]))];simp [c_43_l0,Rw.ce,hi,hi2,h0,h1,h5,c1]
  by_cases c2:l[i].entry.Xs=m[i].entry.Xs
  rotate_left
  ·rw [w9 hi hi2 (fun h=>c2 (by rw [h]))];simp [c_43_l0,Rw.ce,hi,hi2,h0,h1,h5,c1,c2]
  by_cases c:l[i].entry=m[i].entry
  ·rw [decide_eq_true c,c2] at hee;rw [zZ hi hi2 ((Rw.eq_iff _ _).2 ⟨c1,c⟩)];simp [c_43_l0,Rw.ce,hi,hi2,h0,h1,h5,hw,c1,c2,hee];refine (ih _ ⟨by simp [h0],by simp [h1],by simp⟩).trans (by simp)
  ·rw [decide_eq_false c,c2] at hee;rw [w9 hi hi2 (fun h=>c (by rw [h]))];simp [c_43_l0,Rw.ce,hi,hi2,h0,h1,h5,c1,c2,hee]
 ·rintro e L hL ⟨h0,h1,h5⟩;rw [zY q1];simp [c_43_l0,c_43_k1, *]
 ·simp
theorem qzn (x y:Xb) (h:x.args.length<2^40):aB Φ w3 [.agg (Xb.c x),.agg (Xb.c y)]=some (.val (.bool (decide (x=y)))):=by
 rw [decide_eq_decide.2 (Xb.eq_iff x y)];exact Gj x.Xy y.Xy x.args y.args h
theorem qxd (a b:Xe) (f:CfgS a):aB Φ FI [.agg (Xe.c a),.agg (Xe.c b)]=some (.val (.bool (decide (a=b)))):=by
 have ee:decide (a=b)=decide (a.rows=b.rows/\a.Xq=b.Xq/\a.Xp=b.Xp/\a.Xl=b.Xl):=decide_eq_decide.2 (Xe.eq_iff a b);rw [ee,aD rfl rfl];have g2:=SO a.Xq b.Xq f.nl;have g4:=SP a.Xl b.Xl f.gl f.gs;by_cases q1:a.rows.length=b.rows.length
 rotate_left
 ·have:a.rows≠b.rows:=fun h=>q1 (by rw [h])
  simp [qZ,Xe.ce,q1,this]
 by_cases q2:a.Xq=b.Xq
 rotate_left
 ·simp [qZ,Xe.ce,q1,q2,g2]
 by_cases q3:a.Xp.length=b.Xp.length
 rotate_left
 ·have:a.Xp≠b.Xp:=fun h=>q3 (by rw [h])
  rw [q2] at g2;simp [qZ,Xe.ce,q1,q2,g2,q3,this]
 by_cases q4:a.Xl=b.Xl
 rotate_left
 ·rw [q2] at g2;simp [qZ,Xe.ce,q1,q2,q3,g2,g4,q4]
 rw [q2] at g2;rw [q4] at g4;simp [qZ,Xe.ce,q1,q2,q3,q4,g2,g4];refine (mQ a.rows.length (fun i e=>look 2 e=some (.ptr 0 4 0 0)/\look 3 e=some (.ptr 1 4 0 0)/\look 5 e=some (a7 i))
  (fun i=>some (Rt.val (AV.bool (gD a.rows b.rows i&&decide (a.Xp=b.Xp))))) ?_ ?_ 0 _ (Qc _) ?_).trans (by simp [gD])
 ·rintro i e L hi hL ⟨h2,h3,h5⟩ ih;have hi2:i<b.rows.length:=by omega
  have hw:IntKind.wrap .i64 ((i:Int)+1)=((i+1:Nat):Int):=cM (by omega) (by have:=f.rl;omega);obtain ⟨u1,u2⟩:=f.rs _ (Qd hi);have hee:=SQ a.rows[i] b.rows[i] u1 u2;by_cases c:a.rows[i]=b.rows[i]
  ·rw [decide_eq_true c] at hee;rw [zZ hi hi2 c];simp [c_16_l0,cSe,hi,hi2,h2,h3,h5,hee,hw];refine (ih _ ⟨by simp [h2],by simp [h3],by simp⟩).trans (by simp)
  ·rw [decide_eq_false c] at hee;rw [w9 hi hi2 c];simp [c_16_l0,cSe,hi,hi2,h2,h3,h5,hee]
 ·rintro e L hL ⟨h2,h3,h5⟩;rw [zY q1];simp [c_16_l0,c_16_k3,h2,h5,hL];refine (mQ a.Xp.length (fun i e=>look 2 e=some (.ptr 0 4 0 0)/\look 3 e=some (.ptr 1 4 0 0)/\look 6 e=some (a7 i))
   (fun i=>some (Rt.val (AV.bool (gD a.Xp b.Xp i)))) ?_ ?_ 0 _ (Qc _) ?_).trans (by simp [gD])
  ·rintro i e L' hi hL' ⟨h2,h3,h6⟩ ih;have hi2:i<b.Xp.length:=by omega
   have hw:IntKind.wrap .i64 ((i:Int)+1)=((i+1:Nat):Int):=cM (by omega) (by have:=f.dl;omega);have hee:=qzn a.Xp[i] b.Xp[i] (f.ds _ (Qd hi));simp only [Xb.ce] at hee;by_cases c:a.Xp[i]=b.Xp[i]
   ·rw [decide_eq_true c] at hee;rw [zZ hi hi2 c];simp [c_16_l1,Xb.ce,hi,hi2,h2,h3,h6,hee,hw];refine (ih _ ⟨by simp [h2],by simp [h3],by simp⟩).trans (by simp)
   ·rw [decide_eq_false c] at hee;rw [w9 hi hi2 c];simp [c_16_l1,Xb.ce,hi,hi2,h2,h3,h6,hee]
  ·rintro e L' hL' ⟨h2,h3,h6⟩;rw [zY q3];simp [c_16_l1,c_16_k2,h2,h6,hL']
  ·simp [h2,h3]
 ·simp
theorem Action.ce (x:Action):Action.c x=[.str x.name,.slice 2 (x.params.map Fld.c),.slice 7 (x.body.map Xf.c)]:=by simp [Action.c]
theorem Xi.ce (x:Xi):Xi.c x=[.str x.name,.slice 2 (x.Xz.map Fld.c)]:=by simp [Xi.c]
theorem Xg.ce (x:Xg):Xg.c x=[.str x.name,a7 x.Yc,a7 x.size]:=by simp [Xg.c]
theorem Xf.ce (x:Xf):Xf.c x=[a7 x.kind,a7 x.dst.header,a7 x.dst.field,a7 x.Ye,a7 x.header,.slice 3 (x.index.map Xd.c),.slice 3 (x.value.map Xd.c)]:=by simp [Xf.c]
theorem Tbl.ce (x:Tbl):Tbl.c x=[.str x.name,.slice 3 (x.keys.map Xk.c),.slice 1 (x.Xx.map cI),a7 x.Yb.Xy,.slice 1 (x.Yb.args.map c32),a7 x.size]:=by simp [Tbl.c]
theorem Xc.ce (x:Xc):Xc.c x=[.str x.name,.slice 1 (x.extract.map cI),.bool x.select,a7 x.on.header,a7 x.on.field,.slice 3 (x.cases.map Xj.c),a7 x.Yb]:=by simp [Xc.c]
theorem Xa.ce (k t:Int) (c:List Xd) (a b:List Xa):Xa.c (.mk k t c a b)=[a7 k,a7 t,.slice 3 (c.map Xd.c),.slice 5 (a.map Xa.c),.slice 5 (b.map Xa.c)]:=by simp [Xa.c,Xa.cs_eq]
theorem Prg.ce (x:Prg):Prg.c x=[.str x.name,.slice 2 (x.Xo.map Xi.c),.slice 2 (x.Xn.map Fld.c),.slice 3 (x.Xl.map Xg.c),.slice 3 (x.Xx.map Action.c),.slice 6 (x.Xm.map Tbl.c),.slice 7 (x.Xw.map Xc.c),.slice 5 (x.Ya.map Xa.c),.slice 1 (x.Xr.map cI)]:=by simp [Prg.c]
def hp0 (p:Prg):AH:=⟨[(0,.row 9 [(mW p [])])],1⟩
structure PrgB (p:Prg):Prop where
 h:p.Xo.length<2^40
 r:p.Xl.length<2^40
 a:p.Xx.length<2^40
 b:∀x∈p.Xx,x.body.length<2^40
 t:p.Xm.length<2^40
 s:p.Xw.length<2^40
 c:p.Ya.length<2^40
 co:∀x∈p.Ya,Xa.Ok gG x
def hp1 (p:Prg) (c:Xe):AH:=⟨[(0,.row 9 [(mW p [])]),(1,.row 4 [[.slice 1 (c.rows.map (cS 5 Rw.c)),.slice 1 (c.Xq.map cI),.slice 2 (c.Xp.map Xb.c),.slice 1 (c.Xl.map (cS 1 c32))]])],2⟩
end Go.Av
