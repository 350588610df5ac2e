/-
 Nesting and number of control nodes: the program's answers.
-/
import Derived.Test.YtjdbnnnakpacjaaGreatK8
set_option linter.unusedVariables false
set_option linter.unusedSimpArgs false
set_option linter.constructorNameAsVariable false
namespace Go.Av
set_option maxRecDepth 4000
theorem qgt:∀a b:List Xa,pre (a++b)=pre a++pre b
 | [],b=>by simp [pre]
 | x::a,b=>by simp [pre,qgt a b]
theorem qoe {l:List Xa} {i:Nat} (hi:i<l.length):pre (l.take (i+1))=pre (l.take i)++pre1 l[i]:=by
 rw [Qh hi,qgt];simp [pre]
theorem qim (k t:Int) (c:List Xe) (a b:List Xa):pre1 (.mk k t c a b)= .mk k t c a b::(pre a++pre b):=by simp [pre1]
theorem qadz (x:Xa):1<=(pre1 x).length:=by
 cases x;rw [qim];simp
theorem qin:∀l:List Xa,l.length<=(pre l).length
 | []=>by simp
 | x::r=>by
  have:=qin r;have:=qadz x;simp [pre];omega
theorem qw8 {l:List Xa} {i:Nat} (hi:i<l.length):(pre1 l[i]).length<=(pre l).length:=by
 have h:pre l=pre (l.take i)++(pre1 l[i]++pre (l.drop (i+1))):=by
  conv=>lhs;rw [<- QBm i l,qgt,Qi hi]
  simp [pre]
 rw [h];simp;omega
def qds (l:List Xa):Nat:=match l with
 | []=>0
 | x::r=>max (qh8 x) (qds r)
theorem qqq:∀l:List Xa,l≠[]->nest l=qds l+1
 | [],h=>absurd rfl h
 | [x],_=>by simp [nest,qds];omega
 | x::y::r,_=>by
  have:=qqq (y::r) (by simp);rw [nest,qds,this];omega
theorem qmd:∀a b:List Xa,qds (a++b)=max (qds a) (qds b)
 | [],b=>by simp [qds]
 | x::a,b=>by rw [QAh,qds,qmd a b,qds];omega
theorem qyx {l:List Xa} {i:Nat} (hi:i<l.length):qds (l.take (i+1))=max (qds (l.take i)) (qh8 l[i]):=by
 rw [Qh hi,qmd];simp [qds]
theorem quc (k t:Int) (c:List Xe) (a b:List Xa):qh8 (.mk k t c a b)=max (nest a) (nest b):=by simp [qh8]
mutual
theorem qadj:∀x:Xa,qh8 x<(pre1 x).length
 | .mk k t c a b=>by
  have h1:=qm6 a;have h2:=qm6 b;rw [quc,qim];simp;omega
theorem qm6:∀l:List Xa,nest l<=(pre l).length
 | []=>by simp [nest]
 | x::r=>by
  have h1:=qadj x;have h2:=qm6 r;rw [nest,pre];simp;omega
end
theorem qadk (l:List Xa):qds l<=(pre l).length:=by
 cases l with
 | nil=>simp [qds]
 | cons x r=>have:=qqq (x::r) (by simp);have:=qm6 (x::r);omega
theorem qil (x:Xa):∃k t c a b,x= .mk k t c a b:=by
 cases x with
 | mk k t c a b=>exact ⟨k,t,c,a,b,rfl⟩
theorem qqr:∀(n:Nat) (l:List Xa),SizeOf.sizeOf l<=n->(pre l).length<2^40->qad Φ f_235 [.slice 5 (l.map Xa.c)]=some (.val (.int .i64 (nest l:Nat)))
 | 0,l,h,hb=>by cases l<;>simp at h
 | n+1,l,h,hb=>by
  rw [qaa (fn:=c_235) rfl rfl];have hll:=qin l;by_cases z:l.length=0
  ·have:l=[]:=Qg z;subst this;simp [c_235,nest]
  have hne:l≠[]:=by intro h;subst h;simp at z
  rw [qqq l hne];simp [c_235,z];refine qa4 l.length (fun _=>[]) 0 (fun i e=>look 3 e=some (.int .i64 (qds (l.take i):Nat))/\look 9 e=some (.slice 5 (l.map Xa.c))/\look 10 e=some (.int .i64 l.length)/\look 11 e=some (.int .i64 i))
   (fun i=>some (Rt.val (.int .i64 ((qds l:Nat)+1)))) ?_ ?_ 0 _ 0 (Qc _) (Qb _) ?_
  ·rintro i e m L hi hL _ ⟨h3,h9,h10,h11⟩ ih;have hw:=qal i (by omega);obtain ⟨k,t,c,a,b,hx⟩:=qil l[i];have hm:l[i]∈l:=Qd hi;have hs:SizeOf.sizeOf l[i]<SizeOf.sizeOf l:=QBs hm;have hp:=qw8 hi;rw [hx] at hs hp;rw [qim] at hp;simp at hs hp;have i1:=qqr n a (by omega) (by omega);have i2:=qqr n b (by omega) (by omega);have hM:=qyx hi;rw [hx,quc] at hM;simp [c_235_l0,h3,h9,h10,h11,hi,hw,hx,Xa.e,i1,i2];refine ih _ _ (Qc _) ⟨?_,by simp [h9],by simp [h10],by simp⟩;simp [hM];split<;>split<;>omega
  ·rintro e m L hL _ ⟨h3,h9,h10,h11⟩;rw [QAk] at h3;have:=qadk l;have hw:IntKind.wrap .i64 ((qds l:Int)+1)=(qds l:Int)+1:=qbb (by omega) (by omega);simp [c_235_l0,c_235_k1,h3,h10,h11,hL,hw]
  ·simp [qds]
theorem qoa {Φ:FuncId->Option AFun} {β:Type} {fin:Option (Ex×St)->Option β} (N:Nat) (Inv:Nat->Env->AH->Prop) (Q:Option β->Prop) {b:Xv} {K:List Fr}
  (step:∀i e h L,i<N->(∀j s,go Φ fin L (.exit j) s=go Φ fin K (.exit j) s)->Inv i e h->(∀e' h',Inv (i+1) e' h'->Q (go Φ fin L .normal ⟨e',h'⟩))->Q (go Φ fin (.c b::L) .normal ⟨e,h⟩))
  (last:∀e h L,(∀j s,go Φ fin L (.exit j) s=go Φ fin K (.exit j) s)->Inv N e h->Q (go Φ fin (.c b::L) .normal ⟨e,h⟩)):
  ∀i e h,i<=N->Inv i e h->Q (go Φ fin (.c (.loop b)::K) .normal ⟨e,h⟩):=by
 have key:∀n i e h,N - i<=n->i<=N->Inv i e h->Q (go Φ fin (.c (.loop b)::K) .normal ⟨e,h⟩):=by
  intro n
  induction n with
  | zero=>
   intro i e h hn hi hv;have:i=N:=by omega
   subst this;rw [qar];exact last e h _ (fun j s=>by simp) hv
  | succ n ih=>
   intro i e h hn hi hv;rcases Qv i N with hlt | hge
   ·rw [qar];exact step i e h _ hlt (fun j s=>by simp) hv fun e' h' hv'=>ih (i+1) e' h' (by omega) (by omega) hv'
   ·have:i=N:=by omega
    subst this;rw [qar];exact last e h _ (fun j s=>by simp) hv
 intro i e h hi hv;exact key (N - i) i e h (Qb _) hi hv
def cntF:AV:= .func (.func f_278) [] [.ptr 0 1 0 0]
def cntH (c:Int) (m:Nat):AH:=⟨[(0,.row 1 [[.int .i64 c]])],m⟩
theorem qaae (k t:Int) (cd:List Xe) (a b:List Xa) (c:Int) (m:Nat) (hc:0<=c/\c<2^60):qah Φ f_278 [.agg (Xa.c (.mk k t cd a b)),.ptr 0 1 0 0] (cntH c m)=some (.val (.bool true),cntH (c+1) m):=by
 rw [qau (fn:=c_278) rfl rfl];have hw:IntKind.wrap .i64 (c+1)=c+1:=qbb (by omega) (by omega);simp [c_278,cntH,Xa.e,hw]
theorem qqv:∀(n:Nat) (l:List Xa) (c:Int) (m:Nat),1<=m->SizeOf.sizeOf l<=n->0<=c->c+(pre l).length<2^60->(pre l).length<2^40->
  ∃m',m<=m'/\qah Φ f_236 [.slice 5 (l.map Xa.c),cntF] (cntH c m)=some (.val (.bool true),cntH (c+(pre l).length) m')
 | 0,l,c,m,_,h,_,_,_=>by cases l<;>simp at h
 | n+1,l,c,m,h1m,h,hc0,hb,hl=>by
  rw [qau (fn:=c_236) rfl rfl];have hll:=qin l;simp [c_236,cntF];refine qoa l.length (fun i e H=>look 1 e=some cntF/\look 7 e=some (.slice 5 (l.map Xa.c))/\look 8 e=some (.int .i64 l.length)/\look 9 e=some (.int .i64 i)/\∃m1,m<=m1/\H=cntH (c+(pre (l.take i)).length) m1)
   (fun r=>∃m',m<=m'/\r=some (Rt.val (.bool true),cntH (c+(pre l).length) m')) ?_ ?_ 0 _ _ (Qc _) ?_
  ·rintro i e _ L hi hL ⟨h1,h7,h8,h9,m1,hm1,rfl⟩ ih;have hw:=qal i (by omega);obtain ⟨k,t,cd,a,b,hx⟩:=qil l[i];have hm:l[i]∈l:=Qd hi;have hs:SizeOf.sizeOf l[i]<SizeOf.sizeOf l:=QBs hm;have hp:=qw8 hi;have ht:=qoe hi;have htl:(pre (l.take (i+1))).length<=(pre l).length:=by
    have:pre l=pre (l.take (i+1))++pre (l.drop (i+1)):=by rw [<- qgt,QBm]
    rw [this];simp
   rw [hx] at hs hp ht;rw [qim] at hp ht;simp at hs hp;have htl2:=htl;rw [ht] at htl2;simp at htl2;obtain ⟨c',hc'⟩:∃c':Int,c'=c+(pre (l.take i)).length:=⟨_,rfl⟩;rw [<- hc'];have e1:=qaae k t cd a b c' (m1+1) (by omega);obtain ⟨m2,hm2,e2⟩:=qqv n a (c'+1) (m1+1) (by omega) (by omega) (by omega) (by omega) (by omega);obtain ⟨m3,hm3,e3⟩:=qqv n b (c'+1+(pre a).length) m2 (by omega) (by omega) (by omega) (by omega) (by omega);simp only [cntH,cntF,Xa.e] at e1 e2 e3;have hn0:¬(0=m1):=by omega
   have hn1:¬(m1=0):=by omega
   simp only [cntF] at h1;simp [c_236_l0,h1,h7,h8,h9,hi,hw,hx,Xa.e,cntH,hn0,e1,e2,e3];refine ih _ _ ⟨by simp [h1,cntF],by simp [h7],by simp [h8],by simp,m3,by omega,?_⟩;rw [ht,hc'];simp [cntH];omega
  ·rintro e _ L hL ⟨h1,h7,h8,h9,m1,hm1,rfl⟩;rw [QAk];refine ⟨m1,hm1,?_⟩;simp [c_236_l0,c_236_k1,h8,h9,hL]
  ·simp [cntF,pre];exact ⟨m,Qb _,rfl⟩
theorem qacs (l:List Xa) (hl:(pre l).length<2^40):qad Φ f_234 [.slice 5 (l.map Xa.c)]=some (.val (.int .i64 (pre l).length)):=by
 rw [qaa (fn:=c_234) rfl rfl];obtain ⟨m',hm,e⟩:=qqv _ l 0 1 (Qb _) (Qb _) (by omega) (by omega) hl;simp only [cntH,cntF] at e;simp [c_234,e]
structure Wk where
 e:Int
 n:Int
 us:List Int
def wk1 (p:Prg) (w:Wk) (x:Xa):Wk:=if w.e≠0 then w else if qda p w.us x≠0 then ⟨qda p w.us x,w.n,w.us⟩ else ⟨0,w.n+1,if appl x then w.us++[x.table] else w.us⟩
def wk (p:Prg) (w:Wk) (l:List Xa):Wk:=l.foldl (wk1 p) w
theorem qh1 (p:Prg) (w:Wk) (a b:List Xa):wk p w (a++b)=wk p (wk p w a) b:=by simp [wk]
theorem qgi (p:Prg) (w:Wk) (h:w.e≠0):∀l,wk p w l=w
 | []=>rfl
 | x::l=>by
  have:wk1 p w x=w:=by simp [wk1,h]
  show wk p (wk1 p w x) l=w;rw [this];exact qgi p w h l
theorem wk_n (p:Prg):∀(l:List Xa) (w:Wk),w.n<=(wk p w l).n/\(wk p w l).n<=w.n+l.length/\(wk p w l).us.length<=w.us.length+l.length
 | [],w=>by simp [wk]
 | x::l,w=>by
  have h:=wk_n p l (wk1 p w x);show w.n<=(wk p (wk1 p w x) l).n/\(wk p (wk1 p w x) l).n<=w.n+(x::l).length/\(wk p (wk1 p w x) l).us.length<=w.us.length+(x::l).length;have h1:w.n<=(wk1 p w x).n/\(wk1 p w x).n<=w.n+1/\(wk1 p w x).us.length<=w.us.length+1:=by
   unfold wk1;split
   ·simp;omega
   split
   ·simp;omega
   ·refine ⟨by simp;omega,by simp,?_⟩;simp only;split<;>simp
  simp only [QAn];omega
def chkF (p:Prg):AV:= .func (.func f_237) [] [.iptr 9 [Prg.c p] 0 0,.ptr 2 1 0 0,.ptr 0 1 0 0,.ptr 1 1 0 0]
def ChkH (w:Wk) (m:Nat) (H:AH):Prop:=3<=m/\((w.us=[]/\H=⟨[(0,.row 1 [[.int .i64 w.e]]),(1,.row 1 [[.int .i64 w.n]]),(2,.row 1 [[.Xu 1 []]])],m⟩)\/
 ∃q,3<=q/\q<m/\H=⟨[(0,.row 1 [[.int .i64 w.e]]),(1,.row 1 [[.int .i64 w.n]]),(2,.row 1 [[.app 1 (w.us.map cI) q]]),(q,.tok 1 w.us.length)],m⟩)
theorem qz6 (p:Prg) (k t:Int) (cd:List Xe) (a b:List Xa) (w:Wk) (m:Nat) (H:AH) (hH:ChkH w m H) (he:w.e=0) (hn:0<=w.n/\w.n<2^60) (hu:w.us.length<2^40 - 1) (ha:a.length<2^40) (hb:b.length<2^40):
  ∃m' H',m<=m'/\ChkH (wk1 p w (.mk k t cd a b)) m' H'/\qah Φ f_237 [.agg (Xa.c (.mk k t cd a b)),.iptr 9 [Prg.c p] 0 0,.ptr 2 1 0 0,.ptr 0 1 0 0,.ptr 1 1 0 0] H=some (.val (.bool (decide ((wk1 p w (.mk k t cd a b)).e=0))),H'):=by
 have hw:IntKind.wrap .i64 (w.n+1)=w.n+1:=qbb (by omega) (by omega);have hU:=qadl p k t cd a b w.us ha hb (by omega);have hA:=qxq k t cd a b;simp only [Prg.e,Xa.e] at hU hA;obtain ⟨h3,⟨hus,rfl⟩ | ⟨q,hq,hqm,rfl⟩⟩:=hH
 ·rw [qau (fn:=c_237) rfl rfl];rw [hus] at hU;simp only [QBl] at hU;by_cases z:qda p [] (.mk k t cd a b)=0
  ·rw [z] at hU;cases qa:appl (.mk k t cd a b) with
   | true=>
    rw [qa] at hA;have hn0:¬(0=m):=by omega
    have hn1:¬(1=m):=by omega
    have hn2:¬(2=m):=by omega
    have hn0':¬(m=0):=by omega
    have hn1':¬(m=1):=by omega
    have hn2':¬(m=2):=by omega
    refine ⟨m+1,⟨[(0,.row 1 [[.int .i64 0]]),(1,.row 1 [[.int .i64 (w.n+1)]]),(2,.row 1 [[.app 1 [[.int .i64 t]] m]]),(m,.tok 1 1)],m+1⟩,QBh _,⟨by omega,.inr ⟨m,h3,by omega,by simp [wk1,he,hus,z,qa,cI]⟩⟩,?_⟩;simp [c_237,Xa.e,Prg.e,hU,wk1,he,hus,z,qa,hA,hw,hn0,hn1,hn2]
   | false=>
    rw [qa] at hA;refine ⟨m,⟨[(0,.row 1 [[.int .i64 0]]),(1,.row 1 [[.int .i64 (w.n+1)]]),(2,.row 1 [[.Xu 1 []]])],m⟩,Qb _,⟨by omega,.inl ⟨by simp [wk1,he,hus,z,qa],by simp [wk1,he,hus,z,qa]⟩⟩,?_⟩;simp [c_237,Xa.e,Prg.e,hU,wk1,he,hus,z,qa,hA,hw]
  ·refine ⟨m,⟨[(0,.row 1 [[.int .i64 (qda p [] (.mk k t cd a b))]]),(1,.row 1 [[.int .i64 w.n]]),(2,.row 1 [[.Xu 1 []]])],m⟩,Qb _,⟨by omega,.inl ⟨by simp [wk1,he,hus,z],by simp [wk1,he,hus,z]⟩⟩,?_⟩;simp [c_237,Xa.e,Prg.e,hU,wk1,he,hus,z]
 ·rw [qau (fn:=c_237) rfl rfl];have q0:¬(0=q):=by omega
  have q1:¬(1=q):=by omega
  have q2:¬(2=q):=by omega
  have q0':¬(q=0):=by omega
  have q1':¬(q=1):=by omega
  have q2':¬(q=2):=by omega
  have hbb:(w.us.length+1)*8<=70368744177664:=by omega
  by_cases z:qda p w.us (.mk k t cd a b)=0
  ·rw [z] at hU;cases qa:appl (.mk k t cd a b) with
   | true=>
    rw [qa] at hA;refine ⟨m,⟨[(0,.row 1 [[.int .i64 0]]),(1,.row 1 [[.int .i64 (w.n+1)]]),(2,.row 1 [[.app 1 ((w.us++[t]).map cI) q]]),(q,.tok 1 (w.us.length+1))],m⟩,Qb _,⟨by omega,.inr ⟨q,hq,hqm,by simp [wk1,he,z,qa]⟩⟩,?_⟩;simp [c_237,Xa.e,Prg.e,hU,wk1,he,z,qa,hA,hw,q0,q1,q2,hbb,cI]
   | false=>
    rw [qa] at hA;refine ⟨m,⟨[(0,.row 1 [[.int .i64 0]]),(1,.row 1 [[.int .i64 (w.n+1)]]),(2,.row 1 [[.app 1 (w.us.map cI) q]]),(q,.tok 1 w.us.length)],m⟩,Qb _,⟨by omega,.inr ⟨q,hq,hqm,by simp [wk1,he,z,qa]⟩⟩,?_⟩;simp [c_237,Xa.e,Prg.e,hU,wk1,he,z,qa,hA,hw]
  ·refine ⟨m,⟨[(0,.row 1 [[.int .i64 (qda p w.us (.mk k t cd a b))]]),(1,.row 1 [[.int .i64 w.n]]),(2,.row 1 [[.app 1 (w.us.map cI) q]]),(q,.tok 1 w.us.length)],m⟩,Qb _,⟨by omega,.inr ⟨q,hq,hqm,by simp [wk1,he,z]⟩⟩,?_⟩;simp [c_237,Xa.e,Prg.e,hU,wk1,he,z]
theorem qny {w:Wk} {m:Nat} {H:AH} (h:ChkH w m H):∃O,H=⟨O,m⟩/\look m O=none/\∀m',m<=m'->ChkH w m' ⟨O,m'⟩:=by
 obtain ⟨h3,⟨hus,rfl⟩ | ⟨q,hq,hqm,rfl⟩⟩:=h
 ·refine ⟨_,rfl,?_,fun m' hm=>⟨by omega,.inl ⟨hus,rfl⟩⟩⟩;have a0:¬(0=m):=by omega
  have a1:¬(1=m):=by omega
  have a2:¬(2=m):=by omega
  simp [a0,a1,a2]
 ·refine ⟨_,rfl,?_,fun m' hm=>⟨by omega,.inr ⟨q,hq,by omega,rfl⟩⟩⟩;have a0:¬(0=m):=by omega
  have a1:¬(1=m):=by omega
  have a2:¬(2=m):=by omega
  have a3:¬(q=m):=by omega
  simp [a0,a1,a2,a3]
def PK (p:Prg) (l:List Xa) (w:Wk) (m:Nat) (r:Option (Rt×AH)):Prop:=∃m' H',m<=m'/\ChkH (wk p w (pre l)) m' H'/\r=some (.val (.bool (decide ((wk p w (pre l)).e=0))),H')
theorem qqw (p:Prg):∀(n:Nat) (l:List Xa) (w:Wk) (m:Nat) (H:AH),ChkH w m H->w.e=0->SizeOf.sizeOf l<=n->0<=w.n->w.n+(pre l).length<2^60->w.us.length+(pre l).length<2^40 - 1->
  ∃m' H',m<=m'/\ChkH (wk p w (pre l)) m' H'/\qah Φ f_236 [.slice 5 (l.map Xa.c),chkF p] H=some (.val (.bool (decide ((wk p w (pre l)).e=0))),H')
 | 0,l,w,m,H,_,_,h,_,_,_=>by cases l<;>simp at h
 | n+1,l,w,m,H,hH,he,h,hn0,hn1,hu=>by
  have hll:=qin l;obtain ⟨O,rfl,hO,hup⟩:=qny hH;have goal:PK p l w m (go Φ (finC c_236.results) [.c c_236.body] .normal ⟨qbw 0 [.slice 5 (l.map Xa.c),chkF p],⟨O,m⟩⟩):=by
   simp [c_236,chkF];refine qoa l.length (fun i e H=>look 1 e=some (chkF p)/\look 7 e=some (.slice 5 (l.map Xa.c))/\look 8 e=some (.int .i64 l.length)/\look 9 e=some (.int .i64 i)/\(wk p w (pre (l.take i))).e=0/\∃m1,m<=m1/\ChkH (wk p w (pre (l.take i))) m1 H)
    (PK p l w m) ?_ ?_ 0 _ _ (Qc _) ?_
   ·rintro i e H1 L hi hL ⟨h1,h7,h8,h9,hw0,m1,hm1,hH1⟩ ih;have hw:=qal i (by omega);obtain ⟨k,t,cd,a,b,hx⟩:=qil l[i];have hm:l[i]∈l:=Qd hi;have hs:SizeOf.sizeOf l[i]<SizeOf.sizeOf l:=QBs hm;have ht:=qoe hi;have hpl:pre l=pre (l.take (i+1))++pre (l.drop (i+1)):=by rw [<- qgt,QBm]
    have htl:(pre (l.take (i+1))).length<=(pre l).length:=by rw [hpl];simp
    rw [hx] at hs ht;rw [qim] at ht;simp at hs;have htl2:=htl;rw [ht] at htl2;simp at htl2;obtain ⟨O1,rfl,hO1,hup1⟩:=qny hH1;have r1:=wk_n p (pre (l.take i)) w;have al:=qin a;have bl:=qin b;have e2:wk p w (pre (l.take (i+1)))=wk p (wk p (wk1 p (wk p w (pre (l.take i))) (.mk k t cd a b)) (pre a)) (pre b):=by
     rw [ht,qh1];show wk p (wk1 p (wk p w (pre (l.take i))) (.mk k t cd a b)) (pre a++pre b)=_;rw [qh1]
    generalize hW:wk p w (pre (l.take i))=W at*;obtain ⟨m2,H2,hm2,hH2,c1⟩:=qz6 p k t cd a b W (m1+1) _ (hup1 (m1+1) (by omega)) hw0 ⟨by omega,by omega⟩ (by omega) (by omega) (by omega);have r2:(wk1 p W (.mk k t cd a b)).n<=W.n+1/\(wk1 p W (.mk k t cd a b)).us.length<=W.us.length+1/\W.n<=(wk1 p W (.mk k t cd a b)).n:=by
     have:=wk_n p [.mk k t cd a b] W;simp [wk] at this;omega
    simp only [Xa.e,Prg.e] at c1;simp only [chkF,Prg.e] at h1;by_cases y1:(wk1 p W (.mk k t cd a b)).e=0
    rotate_left
    ·-- the node is bad
     have e3:wk p w (pre l)=wk1 p W (.mk k t cd a b):=by
      rw [hpl,qh1,e2,qgi p _ y1,qgi p _ y1,qgi p _ y1]
     refine ⟨m2,H2,by omega,by rw [e3];exact hH2,?_⟩;simp [c_236_l0,h1,h7,h8,h9,hi,hx,Xa.e,hO1,c1,y1,e3]
    obtain ⟨m3,H3,hm3,hH3,c2⟩:=qqw p n a _ m2 H2 hH2 y1 (by omega) (by omega) (by omega) (by omega);have r3:=wk_n p (pre a) (wk1 p W (.mk k t cd a b));simp only [chkF,Prg.e] at c2;generalize hW2:wk p (wk1 p W (.mk k t cd a b)) (pre a)=W2 at*;by_cases y2:W2.e=0
    rotate_left
    ·have e3:wk p w (pre l)=W2:=by
      rw [hpl,qh1,e2,qgi p _ y2,qgi p _ y2]
     refine ⟨m3,H3,by omega,by rw [e3];exact hH3,?_⟩;simp [c_236_l0,h1,h7,h8,h9,hi,hx,Xa.e,hO1,c1,c2,y1,y2,e3]
    obtain ⟨m4,H4,hm4,hH4,c3⟩:=qqw p n b _ m3 H3 hH3 y2 (by omega) (by omega) (by omega) (by omega);simp only [chkF,Prg.e] at c3;generalize hW3:wk p W2 (pre b)=W3 at*;by_cases y3:W3.e=0
    rotate_left
    ·have e3:wk p w (pre l)=W3:=by
      rw [hpl,qh1,e2,qgi p _ y3]
     refine ⟨m4,H4,by omega,by rw [e3];exact hH4,?_⟩;simp [c_236_l0,h1,h7,h8,h9,hi,hx,Xa.e,hO1,c1,c2,c3,y1,y2,y3,e3]
    simp [c_236_l0,h1,h7,h8,h9,hi,hx,Xa.e,hO1,c1,c2,c3,y1,y2,y3,hw];exact ih _ _ ⟨by simp [h1,chkF,Prg.e],by simp [h7],by simp [h8],by simp,by rw [e2];exact y3,m4,by omega,by rw [e2];exact hH4⟩
   ·rintro e H1 L hL ⟨h1,h7,h8,h9,hw0,m1,hm1,hH1⟩;rw [QAk] at hw0 hH1;obtain ⟨O1,rfl,hO1,hup1⟩:=qny hH1;refine ⟨m1,_,hm1,hH1,?_⟩;simp [c_236_l0,c_236_k1,h8,h9,hL,hw0]
   ·simp [chkF,pre,wk,he];exact ⟨m,Qb _,hH⟩
  obtain ⟨m',H',k1,k2,k3⟩:=goal;exact ⟨m',H',k1,k2,by rw [qau (fn:=c_236) rfl rfl];exact k3⟩
def usOf (l:List Xa):List Int:=(l.filter appl).map (·.table)
theorem qsl (t:Int) (l:List Xa):(usOf l).contains t=l.any (fun y=>appl y&&decide (y.table=t)):=by
 unfold usOf;rw [qfb,List.any_filter]
theorem que (p:Prg) (l:List Xa) (x:Xa):qm7 p l x=qda p (usOf l) x:=by
 unfold qm7 qda;rw [qsl]
def ctlG (p:Prg) (l:List Xa) (i:Nat):Option (Int×Int):=(l[i]?).bind fun x=>if qm7 p (l.take i) x=0 then none else some ((i:Int),qm7 p (l.take i) x)
theorem wk_fe (p:Prg) (l:List Xa):∀n i,n+i=l.length->((wk p ⟨0,i,usOf (l.take i)⟩ (l.drop i)).e=0/\fe (ctlG p l) l.length i=none)\/
  ((wk p ⟨0,i,usOf (l.take i)⟩ (l.drop i)).e≠0/\fe (ctlG p l) l.length i=some ((wk p ⟨0,i,usOf (l.take i)⟩ (l.drop i)).n,(wk p ⟨0,i,usOf (l.take i)⟩ (l.drop i)).e))
 | 0,i,h=>by
  have:i=l.length:=by omega
  subst this;simp [wk,qcc]
 | n+1,i,h=>by
  have hi:i<l.length:=by omega
  rw [Qi hi];show ((wk p (wk1 p ⟨0,i,usOf (l.take i)⟩ l[i]) (l.drop (i+1))).e=0/\_)\/((wk p (wk1 p ⟨0,i,usOf (l.take i)⟩ l[i]) (l.drop (i+1))).e≠0/\fe (ctlG p l) l.length i=some ((wk p (wk1 p ⟨0,i,usOf (l.take i)⟩ l[i]) (l.drop (i+1))).n,(wk p (wk1 p ⟨0,i,usOf (l.take i)⟩ l[i]) (l.drop (i+1))).e));by_cases z:qda p (usOf (l.take i)) l[i]=0
  ·have e1:wk1 p ⟨0,i,usOf (l.take i)⟩ l[i]=⟨0,((i+1:Nat):Int),usOf (l.take (i+1))⟩:=by
    have hu:usOf (l.take (i+1))=if appl l[i] then usOf (l.take i)++[l[i].table] else usOf (l.take i):=by
     rw [Qh hi];unfold usOf;rw [List.filter_append,QBb];cases q:appl l[i]<;>simp [q]
    rw [hu];simp [wk1,z]
   rw [e1,qbm hi (by simp [ctlG,hi,que,z])];exact wk_fe p l n (i+1) (by omega)
  ·have e1:wk1 p ⟨0,i,usOf (l.take i)⟩ l[i]=⟨qda p (usOf (l.take i)) l[i],i,usOf (l.take i)⟩:=by simp [wk1,z]
   rw [e1,qgi p _ z];refine .inr ⟨z,?_⟩;rw [qax hi (by simp only [ctlG,Qa hi,QAs,que];rw [QA z])]
theorem qafn (p:Prg) (hl:(pre p.control).length<2^40 - 1):qad Φ f_186 [.agg (Prg.c p)]=some (.val (.tup [.int .i64 (ctlE p).1,.int .i64 (ctlE p).2])):=by
 rw [qaa (fn:=c_186) rfl rfl];have hc:=qacs p.control (by omega);have hn:=qqr _ p.control (Qb _) (by omega);by_cases z1:24<(pre p.control).length
 ·simp [c_186,Prg.e,hc,ctlE,z1]
 by_cases z2:6<nest p.control
 ·simp [c_186,Prg.e,hc,hn,ctlE,z1,z2]
 have hE:ctlE p=(fe (ctlG p (pre p.control)) (pre p.control).length 0).getD (0,0):=by unfold ctlE;rw [QA z1,QA z2];rfl
 obtain ⟨m',H',hm',hH',hp⟩:=qqw p _ p.control ⟨0,0,[]⟩ 3 ⟨[(0,.row 1 [[.int .i64 0]]),(1,.row 1 [[.int .i64 0]]),(2,.row 1 [[.Xu 1 []]])],3⟩ ⟨by omega,.inl ⟨rfl,rfl⟩⟩ rfl (Qb _) (by simp) (by simp;omega) (by simp;omega);have hf:=wk_fe p (pre p.control) (pre p.control).length 0 (by omega);simp only [List.take_zero,List.drop_zero,show usOf []=[] from rfl,Int.ofNat_zero] at hf;generalize hW:wk p ⟨0,0,[]⟩ (pre p.control)=W at*;simp only [chkF,Prg.e] at hp;rw [hE];rcases hf with ⟨y,hf⟩ | ⟨y,hf⟩
 ·rw [hf];obtain ⟨h3,⟨hus,rfl⟩ | ⟨q,hq,hqm,rfl⟩⟩:=hH'
  ·simp [y] at hp;simp [c_186,Prg.e,hc,hn,z1,z2,hp]
  ·simp [y] at hp;simp [c_186,Prg.e,hc,hn,z1,z2,hp]
 ·rw [hf];obtain ⟨h3,⟨hus,rfl⟩ | ⟨q,hq,hqm,rfl⟩⟩:=hH'
  ·simp [y] at hp;simp [c_186,Prg.e,hc,hn,z1,z2,hp,y]
  ·simp [y] at hp;simp [c_186,Prg.e,hc,hn,z1,z2,hp,y]
def metG (p:Prg) (i:Nat):Option Dg:=(p.Xo[i]?).bind fun f=>if fldE p.Xo i f=0 then none else some (fldE p.Xo i f,(2:Int),(i:Int),(0:Int))
def metH (p:Prg) (i:Nat):Option Dg:=if p.Xo[i]? =some (qgr i) then none else some (5,2,(i:Int),0)
theorem qagm (p:Prg):metD p=if 12<p.Xo.length then some (12,2,0,0) else (fe (metG p) p.Xo.length 0).or (fe (metH p) 3 0):=by
 unfold metD;show (if _ then _ else (match fe (metG p) p.Xo.length 0 with | some d=>some d | none=>fe (metH p) 3 0))=_;cases fe (metG p) p.Xo.length 0<;>rfl
theorem Fld.eq_iff (a b:Fld):a=b↔a.name=b.name/\a.width=b.width:=Fld.ext_iff
theorem qagp (p:Prg) (e:Env) (n:Nat) (h1:look 1 e=some (.iptr 9 [Prg.c p] 0 0)):go Φ (finP []) [.c c_101_k2] .normal ⟨e,⟨[],n⟩⟩=some (rtD (fe (metH p) 3 0)):=by
 rw [Prg.e] at h1;simp [c_101_k2];rw [qar];by_cases l0:p.Xo.length<=0
 ·rw [qax (x:=(5,2,0,0)) (by omega) (by unfold metH;rw [Qk l0];rfl)];have hnil:p.Xo=[]:=Qg (by omega);simp [c_101_l1,h1,hnil,qba,qav,rtD]
 have k0:0<p.Xo.length:=by omega
 have hne:¬p.Xo=[]:=by intro h;rw [h] at k0;simp at k0
 by_cases a0:p.Xo[0].name=[105,110]
 rotate_left
 ·rw [qax (x:=(5,2,0,0)) (by omega) (by unfold metH;rw [Qa k0,QA (by simp [qgr,Fld.eq_iff,a0])];rfl)];simp [c_101_l1,Fld.e,h1,hne,k0,a0,qba,qav,rtD]
 by_cases b0:p.Xo[0].width=8
 rotate_left
 ·rw [qax (x:=(5,2,0,0)) (by omega) (by unfold metH;rw [Qa k0,QA (by simp [qgr,Fld.eq_iff,b0])];rfl)];simp [c_101_l1,Fld.e,h1,hne,k0,a0,b0,qba,qav,rtD]
 rw [qbm (by omega) (by unfold metH;rw [Qa k0,QAa (by simp [qgr,Fld.eq_iff,a0,b0])])];simp [c_101_l1,Fld.e,h1,hne,k0,a0,b0,qba,qay,wr1];rw [qar];by_cases l1:p.Xo.length<=1
 ·rw [qax (x:=(5,2,1,0)) (by omega) (by unfold metH;rw [Qk l1];rfl)];simp [h1,l1,qba,qav,rtD]
 have k1:1<p.Xo.length:=by omega
 by_cases a1:p.Xo[1].name=[111,117,116]
 rotate_left
 ·rw [qax (x:=(5,2,1,0)) (by omega) (by unfold metH;rw [Qa k1,QA (by simp [qgr,Fld.eq_iff,a1])];rfl)];simp [Fld.e,h1,l1,k1,a1,qba,qav,rtD]
 by_cases b1:p.Xo[1].width=8
 rotate_left
 ·rw [qax (x:=(5,2,1,0)) (by omega) (by unfold metH;rw [Qa k1,QA (by simp [qgr,Fld.eq_iff,b1])];rfl)];simp [Fld.e,h1,l1,k1,a1,b1,qba,qav,rtD]
 rw [qbm (by omega) (by unfold metH;rw [Qa k1,QAa (by simp [qgr,Fld.eq_iff,a1,b1])])];simp [Fld.e,h1,l1,k1,a1,b1,qba,qay,wr2];rw [qar];by_cases l2:p.Xo.length<=2
 ·rw [qax (x:=(5,2,2,0)) (by omega) (by unfold metH;rw [Qk l2];rfl)];simp [h1,l2,qba,qav,rtD]
 have k2:2<p.Xo.length:=by omega
 by_cases a2:p.Xo[2].name=[100,114,111,112]
 rotate_left
 ·rw [qax (x:=(5,2,2,0)) (by omega) (by unfold metH;rw [Qa k2,QA (by simp [qgr,Fld.eq_iff,a2])];rfl)];simp [Fld.e,h1,l2,k2,a2,qba,qav,rtD]
 by_cases b2:p.Xo[2].width=1
 rotate_left
 ·rw [qax (x:=(5,2,2,0)) (by omega) (by unfold metH;rw [Qa k2,QA (by simp [qgr,Fld.eq_iff,b2])];rfl)];simp [Fld.e,h1,l2,k2,a2,b2,qba,qav,rtD]
 rw [qbm (by omega) (by unfold metH;rw [Qa k2,QAa (by simp [qgr,Fld.eq_iff,a2,b2])])];simp [Fld.e,h1,l2,k2,a2,b2,qba,qay,wr3];rw [qar,qcc];simp [rtD]
theorem qago (p:Prg) (f:PrgS p):qad Φ f_101 [.agg (Prg.c p)]=some (rtD (metD p)):=by
 rw [qaa (fn:=c_101) rfl rfl,qagm];by_cases z:12<p.Xo.length
 ·simp [c_101,Prg.e,z,qba,qav,rtD]
 have e1:=qvy p.Xo f.m;rw [QA z];simp [c_101,Prg.e,z,qba,qay,e1];refine qa4 p.Xo.length (fun _=>[]) 0 (fun i e=>look 1 e=some (.iptr 9 [Prg.c p] 0 0)/\look 2 e=some (.slice 1 (p.Xo.map fun x=>[.str x.name]))/\look 17 e=some (.slice 2 (p.Xo.map Fld.c))/\look 18 e=some (.int .i64 p.Xo.length)/\look 19 e=some (.int .i64 i))
  (fun i=>some (rtD ((fe (metG p) p.Xo.length i).or (fe (metH p) 3 0)))) ?_ ?_ 0 _ 0 (Qc _) (Qb _) ?_
 ·rintro i e n L hi hL _ ⟨h1,h2,h17,h18,h19⟩ ih;have hlen:=f.m;have hw:=qal i (by omega);have ei:=qlr p.Xo[i].name (f.mn _ (Qd hi));have ew:=qp5 p.Xo[i].width;have er:=qft Fld.name p.Xo i hi f.m;cases q1:idS p.Xo[i].name with
  | false=>
   rw [q1] at ei;rw [qax (x:=(6,2,(i:Int),0)) hi (by simp [metG,hi,fldE,q1])];simp [c_101_l0,Fld.e,h17,h18,h19,hi,ei,qba,qav,rtD]
  | true=>
  rw [q1] at ei;cases q2:wBad p.Xo[i].width with
  | true=>
   rw [q2] at ew;rw [qax (x:=(10,2,(i:Int),0)) hi (by simp [metG,hi,fldE,q1,q2])];simp [c_101_l0,Fld.e,h17,h18,h19,hi,ei,ew,qba,qav,qay,rtD]
  | false=>
  rw [q2] at ew;cases q3:dupN Fld.name p.Xo i p.Xo[i] with
  | true=>
   rw [q3] at er;rw [qax (x:=(7,2,(i:Int),0)) hi (by simp [metG,hi,fldE,q1,q2,q3])];simp [c_101_l0,Fld.e,h2,h17,h18,h19,hi,ei,ew,er,qba,qav,qay,rtD]
  | false=>
   rw [q3] at er;rw [qbm hi (by simp [metG,hi,fldE,q1,q2,q3])];simp [c_101_l0,Fld.e,h2,h17,h18,h19,hi,ei,ew,er,qba,qay,hw];exact ih _ _ (Qc _) ⟨by simp [h1],by simp [h2],by simp [h17],by simp [h18],by simp⟩
 ·rintro e n L hL _ ⟨h1,h2,h17,h18,h19⟩;rw [qcc];simp [c_101_l0,h18,h19,hL];exact qagp p _ _ (by simp [h1])
 ·simp [Prg.e]
def regG (p:Prg) (i:Nat):Option Dg:=(p.Xm[i]?).bind fun r=>if qid p i r=0 then none else some (qid p i r,3,(i:Int),0)
def acG (p:Prg) (i:Nat):Option Dg:=(p.actions[i]?).bind fun a=>if (actE p i).2≠0 then some ((actE p i).2,(4:Int),(i:Int),(actE p i).1) else if dupN Action.name p.actions i a then some (7,4,(i:Int),0) else none
def tbG (p:Prg) (i:Nat):Option Dg:=(p.Xn[i]?).bind fun a=>if (tblE p i).2≠0 then some ((tblE p i).2,(5:Int),(i:Int),(tblE p i).1) else if dupN Tbl.name p.Xn i a then some (7,5,(i:Int),0) else none
theorem qagu (p:Prg) (f:PrgS p) (e:Env) (n:Nat) (h1:look 1 e=some (.iptr 9 [Prg.c p] 0 0)):go Φ (finP []) [.c c_102_k3] .normal ⟨e,⟨[],n⟩⟩=some (rtD (tblD p)):=by
 rw [show tblD p=fe (tbG p) p.Xn.length 0 from rfl];have e1:=qvz p.Xn f.t;rw [Prg.e] at h1;simp [c_102_k3,h1,e1];refine qa4 p.Xn.length (fun _=>[]) 0 (fun i e=>look 1 e=some (.iptr 9 [Prg.c p] 0 0)/\look 2 e=some (.slice 1 (p.Xn.map fun x=>[.str x.name]))/\look 64 e=some (.int .i64 p.Xn.length)/\look 65 e=some (.int .i64 i))
  (fun i=>some (rtD (fe (tbG p) p.Xn.length i))) ?_ ?_ 0 _ _ (Qc _) (Qc _) ?_
 ·rintro i e n L hi hL _ ⟨h1,h2,h64,h65⟩ ih;have hlen:=f.t;have hw:=qal i (by omega);have et:=qq5 p f i;have er:=qft Tbl.name p.Xn i hi f.t;simp only [Prg.e] at et;rw [Prg.e] at h1;by_cases y:(tblE p i).2=0
  rotate_left
  ·rw [qax (x:=((tblE p i).2,5,(i:Int),(tblE p i).1)) hi (by simp [tbG,hi,y])];simp [c_102_l2,h1,h64,h65,hi,et,qav,y,rtD]
  rw [y] at et;cases q:dupN Tbl.name p.Xn i p.Xn[i] with
  | true=>
   rw [q] at er;rw [qax (x:=(7,5,(i:Int),0)) hi (by simp [tbG,hi,y,q])];simp [c_102_l2,h1,h2,h64,h65,hi,et,er,qba,qav,qay,rtD]
  | false=>
   rw [q] at er;rw [qbm hi (by simp [tbG,hi,y,q])];simp [c_102_l2,h1,h2,h64,h65,hi,et,er,qba,qay,hw];exact ih _ _ (Qc _) ⟨by simp [h1,Prg.e],by simp [h2],by simp [h64],by simp⟩
 ·rintro e n L hL _ ⟨h1,h2,h64,h65⟩;rw [qcc];simp [c_102_l2,h64,h65,hL,rtD]
 ·simp [h1,Prg.e]
theorem qagt (p:Prg) (f:PrgS p) (e:Env) (n:Nat) (h1:look 1 e=some (.iptr 9 [Prg.c p] 0 0)):go Φ (finP []) [.c c_102_k4] .normal ⟨e,⟨[],n⟩⟩=some (rtD ((qe6 p).or (tblD p))):=by
 rw [show qe6 p=fe (acG p) p.actions.length 0 from rfl];have e1:=qqo p.actions f.a;rw [Prg.e] at h1;simp [c_102_k4,h1,e1];refine qa4 p.actions.length (fun _=>[]) 0 (fun i e=>look 1 e=some (.iptr 9 [Prg.c p] 0 0)/\look 2 e=some (.slice 1 (p.actions.map fun x=>[.str x.name]))/\look 38 e=some (.int .i64 p.actions.length)/\look 39 e=some (.int .i64 i))
  (fun i=>some (rtD ((fe (acG p) p.actions.length i).or (tblD p)))) ?_ ?_ 0 _ _ (Qc _) (Qc _) ?_
 ·rintro i e n L hi hL _ ⟨h1,h2,h38,h39⟩ ih;have hlen:=f.a;have hw:=qal i (by omega);have et:=qaez p f i;have er:=qft Action.name p.actions i hi f.a;simp only [Prg.e] at et;rw [Prg.e] at h1;by_cases y:(actE p i).2=0
  rotate_left
  ·rw [qax (x:=((actE p i).2,4,(i:Int),(actE p i).1)) hi (by simp [acG,hi,y])];simp [c_102_l1,h1,h38,h39,hi,et,qav,y,rtD]
  rw [y] at et;cases q:dupN Action.name p.actions i p.actions[i] with
  | true=>
   rw [q] at er;rw [qax (x:=(7,4,(i:Int),0)) hi (by simp [acG,hi,y,q])];simp [c_102_l1,h1,h2,h38,h39,hi,et,er,qba,qav,qay,rtD]
  | false=>
   rw [q] at er;rw [qbm hi (by simp [acG,hi,y,q])];simp [c_102_l1,h1,h2,h38,h39,hi,et,er,qba,qay,hw];exact ih _ _ (Qc _) ⟨by simp [h1,Prg.e],by simp [h2],by simp [h38],by simp⟩
 ·rintro e n L hL _ ⟨h1,h2,h38,h39⟩;rw [qcc];simp [c_102_l1,h38,h39,hL];exact qagu p f _ _ (by simp [h1])
 ·simp [h1,Prg.e]
theorem qakc (p:Prg) (f:PrgS p):qad Φ f_102 [.agg (Prg.c p)]=some (rtD ((regD p).or ((qe6 p).or (tblD p)))):=by
 rw [qaa (fn:=c_102) rfl rfl,show regD p=fe (regG p) p.Xm.length 0 from rfl];have e1:=qob p.Xm f.r;generalize hX:(qe6 p).or (tblD p)=X;simp [c_102,Prg.e,e1];refine qa4 p.Xm.length (fun _=>[]) 0 (fun i e=>look 1 e=some (.iptr 9 [Prg.c p] 0 0)/\look 2 e=some (.slice 1 (p.Xm.map fun x=>[.str x.name]))/\look 15 e=some (.slice 3 (p.Xm.map Xh.c))/\look 16 e=some (.int .i64 p.Xm.length)/\look 17 e=some (.int .i64 i))
  (fun i=>some (rtD ((fe (regG p) p.Xm.length i).or X))) ?_ ?_ 0 _ _ (Qc _) (Qc _) ?_
 ·rintro i e n L hi hL _ ⟨h1,h2,h15,h16,h17⟩ ih;have hlen:=f.r;have hw:=qal i (by omega);have et:=qahx p.Xm[i] (f.rn _ (Qd hi));have er:=qft Xh.name p.Xm i hi f.r;simp only [Xh.e] at et;by_cases y:regE p.Xm[i]=0
  rotate_left
  ·rw [qax (x:=(regE p.Xm[i],3,(i:Int),0)) hi (by simp [regG,hi,qid,y])];simp [c_102_l0,Xh.e,h15,h16,h17,hi,et,qav,y,rtD]
  rw [y] at et;cases q:dupN Xh.name p.Xm i p.Xm[i] with
  | true=>
   rw [q] at er;rw [qax (x:=(7,3,(i:Int),0)) hi (by simp [regG,hi,qid,y,q])];simp [c_102_l0,Xh.e,h2,h15,h16,h17,hi,et,er,qba,qav,qay,rtD]
  | false=>
   rw [q] at er;rw [qbm hi (by simp [regG,hi,qid,y,q])];simp [c_102_l0,Xh.e,h2,h15,h16,h17,hi,et,er,qba,qay,hw];exact ih _ _ (Qc _) ⟨by simp [h1],by simp [h2],by simp [h15],by simp [h16],by simp⟩
 ·rintro e n L hL _ ⟨h1,h2,h15,h16,h17⟩;rw [qcc];simp [c_102_l0,h16,h17,hL];rw [<- hX];exact qagt p f _ _ (by simp [h1])
 ·simp [Prg.e]
theorem qajw (p:Prg) (f:PrgS p) (hc:(pre p.control).length<2^40 - 1):qad Φ f_103 [.agg (Prg.c p)]=some (rtD (floD p)):=by
 rw [qaa (fn:=c_103) rfl rfl];have e1:=qag5 p f;have e2:=qafn p hc;have e3:=qafq p f;simp only [Prg.e,tup3] at e1 e2 e3;by_cases y1:(parE p).2.2=0
 rotate_left
 ·simp [c_103,Prg.e,e1,y1,qav,floD,rtD]
 rw [y1] at e1;by_cases y2:(ctlE p).2=0
 rotate_left
 ·simp [c_103,Prg.e,e1,y1,e2,y2,qav,qay,floD,rtD]
 rw [y2] at e2;by_cases y3:(depE p).2=0
 rotate_left
 ·simp [c_103,Prg.e,e1,y1,e2,y2,e3,y3,qav,qay,floD,rtD]
 rw [y3] at e3;simp [c_103,Prg.e,e1,y1,e2,y2,e3,y3,qay,floD,rtD]
theorem qb4 {Φ:FuncId->Option AFun} (c:Xv) (s:St):qa6 Φ c s=go Φ (fun o=>o) [.c c] .normal s:=by
 rw [go_c];cases qa6 Φ c s with
 | none=>rfl
 | some p=>rfl
def dgC (d:Dg):List AV:=[.int .i64 d.1,.int .i64 d.2.1,.int .i64 d.2.2.1,.int .i64 d.2.2.2]
def chkE (p:Prg):Env:=[(3,.func (.func f_98) [] [.ptr 1 4 0 0]),(2,.ptr 1 4 0 0),(1,.ptr 0 9 0 0),(0,.agg (Prg.c p))]
def qdx (p:Prg) (d:List AV):AH:=⟨[(0,.row 9 [Prg.c p]),(1,.row 4 [d])],2⟩
theorem qz7 (p:Prg) (f:PrgS p) (hc:(pre p.control).length<2^40 - 1):∃e',look 2 e'=some (.ptr 1 4 0 0)/\go Φ (fun o=>o) [.c (match c_52.code with | .seq _ (.dfr _ _ b)=>b | _=> .skip)] .normal ⟨chkE p,qdx p [.int .i64 0,.int .i64 0,.int .i64 0,.int .i64 0]⟩=
  match (limD p).or ((hdrD p).or ((metD p).or (((regD p).or ((qe6 p).or (tblD p))).or (floD p)))) with
  | none=>some (.ret,⟨e',qdx p [.int .i64 0,.int .i64 0,.int .i64 0,.int .i64 0]⟩)
  | some d=>some (.pan (qf1 d.1 d.2.1 d.2.2.1 d.2.2.2),⟨e',qdx p [.int .i64 0,.int .i64 0,.int .i64 0,.int .i64 0]⟩):=by
 have h1:=qabd p f;have h2:=qow p f;have h3:=qago p f;have h4:=qakc p f;have h5:=qajw p f hc;simp only [Prg.e] at h1 h2 h3 h4 h5;cases q1:limD p with
 | some d=>rw [q1] at h1;simp [c_52,chkE,qdx,Prg.e,h1,rtD]
 | none=>
 cases q2:hdrD p with
 | some d=>rw [q1] at h1;rw [q2] at h2;simp [c_52,chkE,qdx,Prg.e,h1,h2,rtD]
 | none=>
 cases q3:metD p with
 | some d=>rw [q1] at h1;rw [q2] at h2;rw [q3] at h3;simp [c_52,chkE,qdx,Prg.e,h1,h2,h3,rtD]
 | none=>
 cases q4:(regD p).or ((qe6 p).or (tblD p)) with
 | some d=>rw [q1] at h1;rw [q2] at h2;rw [q3] at h3;rw [q4] at h4;simp [c_52,chkE,qdx,Prg.e,h1,h2,h3,h4,rtD]
 | none=>
 cases q5:floD p with
 | some d=>rw [q1] at h1;rw [q2] at h2;rw [q3] at h3;rw [q4] at h4;rw [q5] at h5;simp [c_52,chkE,qdx,Prg.e,h1,h2,h3,h4,h5,rtD]
 | none=>rw [q1] at h1;rw [q2] at h2;rw [q3] at h3;rw [q4] at h4;rw [q5] at h5;simp [c_52,chkE,qdx,Prg.e,h1,h2,h3,h4,h5,rtD]
def kA:Xv:=match c_52.code with | .seq a _=>a | _=> .skip
def kB:Xv:=match c_52.code with | .seq _ (.dfr _ _ b)=>b | _=> .skip
theorem qag8 (p:Prg):prgD p=((limD p).or ((hdrD p).or ((metD p).or (((regD p).or ((qe6 p).or (tblD p))).or (floD p))))).getD (0,0,0,0):=by
 unfold prgD;cases limD p<;>cases hdrD p<;>cases metD p<;>cases regD p<;>cases qe6 p<;>cases tblD p<;>rfl
theorem qaff (p:Prg) (d:List AV) (hd:d.length=4):cloI Φ c_52 .niliface [.ptr 1 4 0 0] (qdx p d)=some (qdx p d):=by
 unfold cloI;rw [qb4];simp [c_52,recE]
theorem qafg (p:Prg) (d:Dg):∃h,cloI Φ c_52 (qf1 d.1 d.2.1 d.2.2.1 d.2.2.2) [.ptr 1 4 0 0] (qdx p [.int .i64 0,.int .i64 0,.int .i64 0,.int .i64 0])=some h/\look 1 h.objs=some (.row 4 [dgC d]):=by
 unfold cloI;rw [qb4];simp [c_52,recE,qf1,tF,qdx,dgC]
theorem qi3 (p:Prg) (f:PrgS p) (hc:(pre p.control).length<2^40 - 1):qad Φ f_52 [.agg (Prg.c p)]=some (.val (.agg (dgC (prgD p)))):=by
 unfold qad;rw [qlx Φ (d:=c_52) rfl rfl,show c_52.code= .seq kA (.dfr [⟨some 3,none,.mkfunc (.func f_98) [] [.t 2]⟩] 3 kB) from rfl];have a1:qa6 Φ kA ⟨qbw 0 [.agg (Prg.c p)],H0⟩=some (.normal,⟨[(2,.ptr 1 4 0 0),(1,.ptr 0 9 0 0),(0,.agg (Prg.c p))],qdx p [.int .i64 0,.int .i64 0,.int .i64 0,.int .i64 0]⟩):=by
  rw [qb4];simp [kA,c_52,qdx]
 obtain ⟨e',he',hb⟩:=qz7 p f hc;have hb2:qa6 Φ kB ⟨chkE p,qdx p [.int .i64 0,.int .i64 0,.int .i64 0,.int .i64 0]⟩=_:=(qb4 _ _).trans hb;have a2:qaq (qah Φ) none [⟨some 3,none,.mkfunc (.func f_98) [] [.t 2]⟩] ⟨[(2,.ptr 1 4 0 0),(1,.ptr 0 9 0 0),(0,.agg (Prg.c p))],qdx p [.int .i64 0,.int .i64 0,.int .i64 0,.int .i64 0]⟩=
   some (.normal,⟨chkE p,qdx p [.int .i64 0,.int .i64 0,.int .i64 0,.int .i64 0]⟩):=by
  simp [qaq,qbh,chkE]
 simp only [qdv,a1,a2];have a3:(look 3 (chkE p)).bind tgt=some (f_98,[.ptr 1 4 0 0]):=by simp [chkE]
 rw [a3];simp only [show c_52.clo=f_98 from rfl,show c_52.ncaps=1 from rfl,QCf,and_self,if_true];rw [hb2,qag8];cases (limD p).or ((hdrD p).or ((metD p).or (((regD p).or ((qe6 p).or (tblD p))).or (floD p)))) with
 | none=>
  simp only [qhh];rw [qaff p _ rfl];simp [qej,c_52,he',qdx,dgC]
 | some d=>
  obtain ⟨h,k1,k2⟩:=qafg p d;simp only [qhh];rw [k1];obtain ⟨O,n⟩:=h;simp only [dgC] at k2;simp [qej,c_52,show Option.isSome (some ((4:Nat),(1:Nat)))=true from rfl,he',k2,dgC]
theorem qii {α:Type} {f:Nat->Option α} {N:Nat} {x:α}:∀{i},fe f N i=some x->∃k,k<N/\f k=some x:=by
 have key:∀n i,feF f n i=some x->∃k,k<i+n/\f k=some x:=by
  intro n
  induction n with
  | zero=>intro i h;simp [feF] at h
  | succ n ih=>
   intro i h;simp only [feF] at h;cases q:f i with
   | some y=>rw [q] at h;cases h;exact ⟨i,by omega,q⟩
   | none=>
    rw [q] at h;obtain ⟨k,h1,h2⟩:=ih _ h;exact ⟨k,by omega,h2⟩
 intro i h;unfold fe at h;obtain ⟨k,h1,h2⟩:=key _ _ h;by_cases hi:i<=N
 ·exact ⟨k,by omega,h2⟩
 ·rw [show N - i=0 by omega] at h;simp [feF] at h
def IsB (x:Option Rt):Prop:=∃b,x=some (.val (.bool b))
@[simp] theorem qaon (b:Bool):IsB (some (.val (.bool b))):=⟨b,rfl⟩
theorem qg7 {Φ:FuncId->Option AFun} {β:Type} {fin:Option (Ex×St)->Option β} {h:AH} (N:Nat) (Inv:Nat->Env->Prop) (Q:Option β->Prop) {b:Xv} {K:List Fr}
  (step:∀i e L,i<N->(∀j s,go Φ fin L (.exit j) s=go Φ fin K (.exit j) s)->Inv i e->(∀e',Inv (i+1) e'->Q (go Φ fin L .normal ⟨e',h⟩))->Q (go Φ fin (.c b::L) .normal ⟨e,h⟩))
  (last:∀e L,(∀j s,go Φ fin L (.exit j) s=go Φ fin K (.exit j) s)->Inv N e->Q (go Φ fin (.c b::L) .normal ⟨e,h⟩)):
  ∀i e,i<=N->Inv i e->Q (go Φ fin (.c (.loop b)::K) .normal ⟨e,h⟩):=by
 intro i e hi hv;refine qoa N (fun i e H=>H=h/\Inv i e) Q ?_ ?_ i e h hi ⟨rfl,hv⟩
 ·rintro i e _ L hi hL ⟨rfl,hv⟩ ih;exact step i e L hi hL hv fun e' hv'=>ih e' _ ⟨rfl,hv'⟩
 ·rintro e _ L hL ⟨rfl,hv⟩;exact last e L hL hv
def NodeQ (l:List Xa) (d:Nat) (x:Option Rt):Prop:=∃r:Int,x=some (.val (.int .i64 r))/\0<=r/\r<=2^(41+2*d)/\(r<100->((pre l).length:Int)<=r)
theorem qakp (d:Nat) (hd:d<=10):(2:Int)^(41+2*d)<=2305843009213693952:=by
 have:=QBu (n:=2) (by omega) (show 41+2*d<=61 by omega);have e:(2:Nat)^61=2305843009213693952:=by decide
 rw [e] at this;rw [show (2:Int)^(41+2*d)=((2^(41+2*d):Nat):Int) from by rw [Int.natCast_pow];rfl];omega
theorem qabq (d:Nat):(2199023255552:Int)<=2^(41+2*d):=by
 have:=QBu (n:=2) (by omega) (show 41<=41+2*d by omega);have e:(2:Nat)^41=2199023255552:=by decide
 rw [e] at this;rw [show (2:Int)^(41+2*d)=((2^(41+2*d):Nat):Int) from by rw [Int.natCast_pow];rfl];omega
theorem qady (d:Nat):(2:Int)^(41+2*(d+1))=4*2^(41+2*d):=by
 rw [show 41+2*(d+1)=(41+2*d)+1+1 by omega,Int.pow_succ,Int.pow_succ];omega
theorem qadn:∀(d:Nat) (l:List Xa),d<=10->l.length<2^40->(∀x∈l,Xa.Ok qaz x)->NodeQ l d (qad Φ f_117 [.slice 5 (l.map Xa.c),.int .i64 d]):=by
 intro d
 induction d with
 | zero=>
  intro l _ hl ho;rw [qaa (fn:=c_117) rfl rfl];simp [c_117];rw [qar];by_cases z0:l.length=0
  ·have:l=[]:=Qg z0;subst this;simp [c_117_l0,c_117_k1];exact ⟨0,rfl,by omega,by decide,by simp [pre]⟩
  have hp:0<l.length:=by omega
  by_cases z1:l.length<100
  ·simp [c_117_l0,hp,z1];exact ⟨100,rfl,by omega,by decide,by omega⟩
  ·simp [c_117_l0,c_117_k1,hp,z1];exact ⟨l.length,rfl,by omega,by simp;omega,by omega⟩
 | succ d ihd=>
  intro l hd hl ho;rw [qaa (fn:=c_117) rfl rfl];have p1:=qakp (d+1) hd;have p2:=qabq d;have p3:=qady d;have p4:=qabq (d+1);simp [c_117];refine qg7 l.length (fun i e=>look 0 e=some (.slice 5 (l.map Xa.c))/\look 1 e=some (.int .i64 ((d:Int)+1))/\look 6 e=some (.int .i64 i)/\∃q:Int,look 5 e=some (.int .i64 q)/\0<=q/\q<=2^(41+2*(d+1))/\(q<100->((pre (l.take i)).length:Int)+(l.length - i)<=q))
   (NodeQ l (d+1)) ?_ ?_ 0 _ (Qc _) ?_
  ·rintro i e L hi hL ⟨h0,h1,h6,q,h5,q0,q1,q2⟩ ih;have hw:=qal i (by omega);by_cases z:q<100
   rotate_left
   ·simp [c_117_l0,c_117_k1,h0,h5,h6,hi,hL,z];exact ⟨q,rfl,q0,q1,fun h=>absurd h z⟩
   obtain ⟨k,t,c,a,b,hx⟩:=qil l[i];have ho':=ho _ (Qd hi);rw [hx] at ho';simp only [Xa.Ok] at ho';obtain ⟨_,_,hc,⟨ha1,ha2⟩,hb1,hb2⟩:=ho';rw [Xa.oks_eq] at ha2 hb2;rw [qd6] at ha1 hb1;have hdn:¬((d:Int)+1=0):=by omega
   have hsub:IntKind.wrap .i64 (d:Int)=(d:Int):=qbb (by omega) (by omega);by_cases y:40<c.length
   ·simp [c_117_l0,h0,h1,h5,h6,hi,z,hdn,hx,Xa.e,y];exact ⟨100,rfl,by omega,by omega,by omega⟩
   obtain ⟨u,hu,u0,u1,u2⟩:=ihd a (by omega) (by omega) ha2;obtain ⟨v,hv,v0,v1,v2⟩:=ihd b (by omega) (by omega) hb2;have wu:IntKind.wrap .i64 (q+u)=q+u:=qbb (by omega) (by omega);have wv:IntKind.wrap .i64 (q+u+v)=q+u+v:=qbb (by omega) (by omega);simp [c_117_l0,h0,h1,h5,h6,hi,z,hdn,hx,Xa.e,y,hsub,hu,hv,wu,wv,hw];refine ih _ ⟨by simp [h0],by simp [h1],by simp,q+u+v,by simp,by omega,by omega,?_⟩;intro hlt;have ht:=congrArg List.length (qoe hi);rw [hx,qim] at ht;simp at ht;have:=q2 z;have:=u2 (by omega);have:=v2 (by omega);rw [ht];simp;omega
  ·rintro e L hL ⟨h0,h1,h6,q,h5,q0,q1,q2⟩;simp [c_117_l0,c_117_k1,h0,h5,h6,hL];refine ⟨q,rfl,q0,q1,fun h=>?_⟩;have:=q2 h;rw [QAk] at this;omega
  ·simp [pre];omega
theorem qy9 (h:Xj) (hl:h.fields.length<2^40):IsB (qad Φ f_118 [.agg (Xj.c h)]):=by
 rw [qaa (fn:=c_118) rfl rfl];by_cases z0:30<h.name.length
 ·simp [c_118,Xj.e,z0]
 by_cases z1:20<h.fields.length
 ·simp [c_118,Xj.e,z0,z1]
 simp [c_118,Xj.e,z0,z1];refine qg7 h.fields.length (fun i e=>look 1 e=some (.iptr 2 [Xj.c h] 0 0)/\look 3 e=some (.int .i64 i)) IsB ?_ ?_ 0 _ (Qc _) ?_
 ·rintro i e L hi hL ⟨h1,h3⟩ ih;have hw:=qal i (by omega);rw [Xj.e] at h1;by_cases z:30<h.fields[i].name.length
  ·simp [c_118_l0,Fld.e,h1,h3,hi,z]
  simp [c_118_l0,Fld.e,h1,h3,hi,z,hw];exact ih _ ⟨by simp [h1,Xj.e],by simp⟩
 ·rintro e L hL ⟨h1,h3⟩;rw [Xj.e] at h1;simp [c_118_l0,c_118_k1,h1,h3,hL]
 ·simp [Xj.e]
theorem qqm (a:Action) (hb:a.body.length<2^40):IsB (qad Φ f_119 [.agg (Action.c a)]):=by
 rw [qaa (fn:=c_119) rfl rfl];by_cases z0:8<a.params.length
 ·simp [c_119,Action.e,z0]
 by_cases z1:16<a.body.length
 ·simp [c_119,Action.e,z0,z1]
 by_cases z2:60<a.name.length
 ·simp [c_119,Action.e,z0,z1,z2]
 simp [c_119,Action.e,z0,z1,z2];refine qg7 a.body.length (fun i e=>look 1 e=some (.iptr 3 [Action.c a] 0 0)/\look 3 e=some (.int .i64 i)) IsB ?_ ?_ 0 _ (Qc _) ?_
 ·rintro i e L hi hL ⟨h1,h3⟩ ih;have hw:=qal i (by omega);rw [Action.e] at h1;by_cases y0:40<a.body[i].index.length
  ·simp [c_119_l0,Xg.e,h1,h3,hi,y0]
  by_cases y1:40<a.body[i].value.length
  ·simp [c_119_l0,Xg.e,h1,h3,hi,y0,y1]
  simp [c_119_l0,Xg.e,h1,h3,hi,y0,y1,hw];exact ih _ ⟨by simp [h1,Action.e],by simp⟩
 ·rintro e L hL ⟨h1,h3⟩;rw [Action.e] at h1;simp [c_119_l0,c_119_k1,h1,h3,hL]
 ·simp [Action.e]
theorem qsi (s:Xd):IsB (qad Φ f_120 [.agg (Xd.c s)]):=by
 rw [qaa (fn:=c_120) rfl rfl];by_cases z0:8<s.extract.length
 ·simp [c_120,Xd.e,z0]
 by_cases z1:12<s.cases.length
 ·simp [c_120,Xd.e,z0,z1]
 by_cases z2:60<s.name.length
 ·simp [c_120,Xd.e,z0,z1,z2]
 simp [c_120,Xd.e,z0,z1,z2]
theorem qalt (p:Prg) (f:PrgS p) (e:Env) (h1:look 1 e=some (.iptr 9 [Prg.c p] 0 0)):IsB (go Φ (finP [.tmp 2]) [.c c_54_k5] .normal ⟨e,⟨[],0⟩⟩):=by
 simp [c_54_k5];have hl:=f.s;refine qg7 p.states.length (fun i e=>look 1 e=some (.iptr 9 [Prg.c p] 0 0)/\look 6 e=some (.int .i64 i)) IsB ?_ ?_ 0 _ (Qc _) ?_
 ·rintro i e L hi hL ⟨h1,h6⟩ ih;have hw:=qal i (by omega);obtain ⟨b,hb⟩:=qsi p.states[i];simp only [Xd.e] at hb;rw [Prg.e] at h1;cases b with
  | true=>simp [c_54_l3,Xd.e,h1,h6,hi,hb]
  | false=>
   simp [c_54_l3,Xd.e,h1,h6,hi,hb,hw];exact ih _ ⟨by simp [h1,Prg.e],by simp⟩
 ·rintro e L hL ⟨h1,h6⟩;rw [Prg.e] at h1;simp [c_54_l3,c_54_k4,h1,h6,hL]
 ·simp [h1]
theorem qals (p:Prg) (f:PrgS p) (e:Env) (h1:look 1 e=some (.iptr 9 [Prg.c p] 0 0)):IsB (go Φ (finP [.tmp 2]) [.c c_54_k6] .normal ⟨e,⟨[],0⟩⟩):=by
 simp [c_54_k6];have hl:=f.t;refine qg7 p.Xn.length (fun i e=>look 1 e=some (.iptr 9 [Prg.c p] 0 0)/\look 5 e=some (.int .i64 i)) IsB ?_ ?_ 0 _ (Qc _) ?_
 ·rintro i e L hi hL ⟨h1,h5⟩ ih;have hw:=qal i (by omega);rw [Prg.e] at h1;by_cases y0:10<p.Xn[i].keys.length
  ·simp [c_54_l2,Tbl.e,h1,h5,hi,y0]
  by_cases y1:24<p.Xn[i].actions.length
  ·simp [c_54_l2,Tbl.e,h1,h5,hi,y0,y1]
  by_cases y2:8<p.Xn[i].dflt.args.length
  ·simp [c_54_l2,Tbl.e,h1,h5,hi,y0,y1,y2]
  by_cases y3:60<p.Xn[i].name.length
  ·simp [c_54_l2,Tbl.e,h1,h5,hi,y0,y1,y2,y3]
  simp [c_54_l2,Tbl.e,h1,h5,hi,y0,y1,y2,y3,hw];exact ih _ ⟨by simp [h1,Prg.e],by simp⟩
 ·rintro e L hL ⟨h1,h5⟩;have h1':=h1;rw [Prg.e] at h1;simp [c_54_l2,h1,h5,hL];exact qalt p f _ (by simp [h1'])
 ·simp [h1]
theorem qalr (p:Prg) (f:PrgS p) (e:Env) (h1:look 1 e=some (.iptr 9 [Prg.c p] 0 0)):IsB (go Φ (finP [.tmp 2]) [.c c_54_k7] .normal ⟨e,⟨[],0⟩⟩):=by
 simp [c_54_k7];have hl:=f.a;refine qg7 p.actions.length (fun i e=>look 1 e=some (.iptr 9 [Prg.c p] 0 0)/\look 4 e=some (.int .i64 i)) IsB ?_ ?_ 0 _ (Qc _) ?_
 ·rintro i e L hi hL ⟨h1,h4⟩ ih;have hw:=qal i (by omega);obtain ⟨b,hb⟩:=qqm p.actions[i] (f.ab _ (Qd hi));simp only [Action.e] at hb;rw [Prg.e] at h1;cases b with
  | true=>simp [c_54_l1,Action.e,h1,h4,hi,hb]
  | false=>
   simp [c_54_l1,Action.e,h1,h4,hi,hb,hw];exact ih _ ⟨by simp [h1,Prg.e],by simp⟩
 ·rintro e L hL ⟨h1,h4⟩;have h1':=h1;rw [Prg.e] at h1;simp [c_54_l1,h1,h4,hL];exact qals p f _ (by simp [h1'])
 ·simp [h1]
def TlQ (p:Prg) (x:Option Rt):Prop:=∃b,x=some (.val (.bool b))/\(b=false->(pre p.control).length<=60)
theorem qwg (p:Prg) (f:PrgS p):TlQ p (qad Φ f_54 [.agg (Prg.c p)]):=by
 rw [qaa (fn:=c_54) rfl rfl];have T:∀{x:Option Rt},x=some (.val (.bool true))->TlQ p x:=fun h=>⟨true,h,fun h=>by cases h⟩
 obtain ⟨r,hr,r0,r1,r2⟩:=qadn 10 p.control (Qb _) f.c f.co;have hr':qad Φ f_117 [.slice 5 (p.control.map Xa.c),.int .i64 10]=some (.val (.int .i64 r)):=hr;by_cases z0:60<p.name.length
 ·exact T (by simp [c_54,Prg.e,z0])
 by_cases z1:16<p.Xp.length
 ·exact T (by simp [c_54,Prg.e,z0,z1])
 by_cases z2:20<p.Xo.length
 ·exact T (by simp [c_54,Prg.e,z0,z1,z2])
 by_cases z3:8<p.Xm.length
 ·exact T (by simp [c_54,Prg.e,z0,z1,z2,z3])
 by_cases z4:24<p.actions.length
 ·exact T (by simp [c_54,Prg.e,z0,z1,z2,z3,z4])
 by_cases z5:16<p.Xn.length
 ·exact T (by simp [c_54,Prg.e,z0,z1,z2,z3,z4,z5])
 by_cases z6:16<p.states.length
 ·exact T (by simp [c_54,Prg.e,z0,z1,z2,z3,z4,z5,z6])
 by_cases z7:16<p.Xs.length
 ·exact T (by simp [c_54,Prg.e,z0,z1,z2,z3,z4,z5,z6,z7])
 by_cases z8:60<r
 ·exact T (by simp [c_54,Prg.e,z0,z1,z2,z3,z4,z5,z6,z7,hr',z8])
 have hB:IsB (go Φ (finP c_54.results) [.c c_54.body] .normal ⟨qbw 0 [.agg (Prg.c p)],H0⟩):=by
  simp [c_54,Prg.e,z0,z1,z2,z3,z4,z5,z6,z7,hr',z8];have hl:=f.h;refine qg7 p.Xp.length (fun i e=>look 1 e=some (.iptr 9 [Prg.c p] 0 0)/\look 3 e=some (.int .i64 i)) IsB ?_ ?_ 0 _ (Qc _) ?_
  ·rintro i e L hi hL ⟨h1,h3⟩ ih;have hw:=qal i (by omega);obtain ⟨b,hb⟩:=qy9 p.Xp[i] (f.hl _ (Qd hi));simp only [Xj.e] at hb;rw [Prg.e] at h1;cases b with
   | false=>simp [c_54_l0,Xj.e,h1,h3,hi,hb]
   | true=>
    simp [c_54_l0,Xj.e,h1,h3,hi,hb,hw];exact ih _ ⟨by simp [h1,Prg.e],by simp⟩
  ·rintro e L hL ⟨h1,h3⟩;have h1':=h1;rw [Prg.e] at h1;simp [c_54_l0,h1,h3,hL];exact qalr p f _ (by simp [h1'])
  ·simp [Prg.e]
 obtain ⟨b,hb⟩:=hB;exact ⟨b,hb,fun _=>by have:=r2 (by omega);omega⟩
end Go.Av
