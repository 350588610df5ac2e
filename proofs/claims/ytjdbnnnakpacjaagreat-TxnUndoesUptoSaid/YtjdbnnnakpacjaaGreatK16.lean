/-
 Nesting and number of control nodes: the program's answers.
-/
import Derived.Test.YtjdbnnnakpacjaaGreatK8
set_option linter.unusedVariables false
set_option linter.unusedSimpArgs false
set_option linter.constructorNameAsVariable false
namespace Go.Av
set_option maxRecDepth 4000
theorem qf6:∀a b:List ControlNode,pre (a++b)=pre a++pre b
 | [],b=>by simp [pre]
 | x::a,b=>by simp [pre,qf6 a b]
theorem qm7 {l:List ControlNode} {i:Nat} (hi:i<l.length):pre (l.take (i+1))=pre (l.take i)++pre1 l[i]:=by
 rw [Qh hi,qf6];simp [pre]
theorem qhx (k t:Int) (c:List ExprNode) (a b:List ControlNode):pre1 (.mk k t c a b)= .mk k t c a b::(pre a++pre b):=by simp [pre1]
theorem qabh (x:ControlNode):1<=(pre1 x).length:=by
 cases x;rw [qhx];simp
theorem qhy:∀l:List ControlNode,l.length<=(pre l).length
 | []=>by simp
 | x::r=>by
  have:=qhy r;have:=qabh x;simp [pre];omega
theorem qvw {l:List ControlNode} {i:Nat} (hi:i<l.length):(pre1 l[i]).length<=(pre l).length:=by
 have h:pre l=pre (l.take i)++(pre1 l[i]++pre (l.drop (i+1))):=by
  conv=>lhs;rw [<- List.take_append_drop i l,qf6,Qi hi]
  simp [pre]
 rw [h];simp;omega
def qc6 (l:List ControlNode):Nat:=match l with
 | []=>0
 | x::r=>max (qhl x) (qc6 r)
theorem qpc:∀l:List ControlNode,l≠[]->nest l=qc6 l+1
 | [],h=>absurd rfl h
 | [x],_=>by simp [nest,qc6];omega
 | x::y::r,_=>by
  have:=qpc (y::r) (by simp);rw [nest,qc6,this];omega
theorem qld:∀a b:List ControlNode,qc6 (a++b)=max (qc6 a) (qc6 b)
 | [],b=>by simp [qc6]
 | x::a,b=>by rw [List.cons_append,qc6,qld a b,qc6];omega
theorem qw5 {l:List ControlNode} {i:Nat} (hi:i<l.length):qc6 (l.take (i+1))=max (qc6 (l.take i)) (qhl l[i]):=by
 rw [Qh hi,qld];simp [qc6]
theorem qsz (k t:Int) (c:List ExprNode) (a b:List ControlNode):qhl (.mk k t c a b)=max (nest a) (nest b):=by simp [qhl]
mutual
theorem qaa5:∀x:ControlNode,qhl x<(pre1 x).length
 | .mk k t c a b=>by
  have h1:=ql3 a;have h2:=ql3 b;rw [qsz,qhx];simp;omega
theorem ql3:∀l:List ControlNode,nest l<=(pre l).length
 | []=>by simp [nest]
 | x::r=>by
  have h1:=qaa5 x;have h2:=ql3 r;rw [nest,pre];simp;omega
end
theorem qaa6 (l:List ControlNode):qc6 l<=(pre l).length:=by
 cases l with
 | nil=>simp [qc6]
 | cons x r=>have:=qpc (x::r) (by simp);have:=ql3 (x::r);omega
theorem qgm (x:ControlNode):∃k t c a b,x= .mk k t c a b:=by
 cases x with
 | mk k t c a b=>exact ⟨k,t,c,a,b,rfl⟩
theorem qpd:∀(n:Nat) (l:List ControlNode),SizeOf.sizeOf l<=n->(pre l).length<2^40->qac Φ f_235 [.slice 5 (l.map ControlNode.c)]=some (.val (.int .i64 (nest l:Nat)))
 | 0,l,h,hb=>by cases l<;>simp at h
 | n+1,l,h,hb=>by
  rw [qaa (fn:=c_235) rfl rfl];have hll:=qhy l;by_cases z:l.length=0
  ·have:l=[]:=Qg z;subst this;simp [c_235,nest]
  have hne:l≠[]:=by intro h;subst h;simp at z
  rw [qpc l hne];simp [c_235,z];refine qa0 l.length (fun _=>[]) 0 (fun i e=>look 3 e=some (.int .i64 (qc6 (l.take i):Nat))/\look 9 e=some (.slice 5 (l.map ControlNode.c))/\look 10 e=some (.int .i64 l.length)/\look 11 e=some (.int .i64 i))
   (fun i=>some (Rt.val (.int .i64 ((qc6 l:Nat)+1)))) ?_ ?_ 0 _ 0 (Qc _) (Qb _) ?_
  ·rintro i e m L hi hL _ ⟨h3,h9,h10,h11⟩ ih;have hw:=qal i (by omega);obtain ⟨k,t,c,a,b,hx⟩:=qgm l[i];have hm:l[i]∈l:=Qd hi;have hs:SizeOf.sizeOf l[i]<SizeOf.sizeOf l:=List.sizeOf_lt_of_mem hm;have hp:=qvw hi;rw [hx] at hs hp;rw [qhx] at hp;simp at hs hp;have i1:=qpd n a (by omega) (by omega);have i2:=qpd n b (by omega) (by omega);have hM:=qw5 hi;rw [hx,qsz] at hM;simp [c_235_l0,h3,h9,h10,h11,hi,hw,hx,ControlNode.e,i1,i2];refine ih _ _ (Qc _) ⟨?_,by simp [h9],by simp [h10],by simp⟩;simp [hM];split<;>split<;>omega
  ·rintro e m L hL _ ⟨h3,h9,h10,h11⟩;rw [List.take_length] at h3;have:=qaa6 l;have hw:IntKind.wrap .i64 ((qc6 l:Int)+1)=(qc6 l:Int)+1:=qbs (by omega) (by omega);simp [c_235_l0,c_235_k1,h3,h10,h11,hL,hw]
  ·simp [qc6]
theorem qj8 {Φ:FuncId->Option AFun} {β:Type} {fin:Option (Ex×St)->Option β} (N:Nat) (Inv:Nat->Env->AH->Prop) (Q:Option β->Prop) {b:ACode} {K:List Fr}
  (step:∀i e h L,i<N->(∀j s,go Φ fin L (.exit j) s=go Φ fin K (.exit j) s)->Inv i e h->(∀e' h',Inv (i+1) e' h'->Q (go Φ fin L .normal ⟨e',h'⟩))->Q (go Φ fin (.c b::L) .normal ⟨e,h⟩))
  (last:∀e h L,(∀j s,go Φ fin L (.exit j) s=go Φ fin K (.exit j) s)->Inv N e h->Q (go Φ fin (.c b::L) .normal ⟨e,h⟩)):
  ∀i e h,i<=N->Inv i e h->Q (go Φ fin (.c (.loop b)::K) .normal ⟨e,h⟩):=by
 have key:∀n i e h,N - i<=n->i<=N->Inv i e h->Q (go Φ fin (.c (.loop b)::K) .normal ⟨e,h⟩):=by
  intro n
  induction n with
  | zero=>
   intro i e h hn hi hv;have:i=N:=by omega
   subst this;rw [qbo];exact last e h _ (fun j s=>by simp) hv
  | succ n ih=>
   intro i e h hn hi hv;rcases Qv i N with hlt | hge
   ·rw [qbo];exact step i e h _ hlt (fun j s=>by simp) hv fun e' h' hv'=>ih (i+1) e' h' (by omega) (by omega) hv'
   ·have:i=N:=by omega
    subst this;rw [qbo];exact last e h _ (fun j s=>by simp) hv
 intro i e h hi hv;exact key (N - i) i e h (Qb _) hi hv
def cntF:AV:= .func (.func f_278) [] [.ptr 0 1 0 0]
def cntH (c:Int) (m:Nat):AH:=⟨[(0,.row 1 [[.int .i64 c]])],m⟩
theorem qyi (k t:Int) (cd:List ExprNode) (a b:List ControlNode) (c:Int) (m:Nat) (hc:0<=c/\c<2^60):qai Φ f_278 [.agg (ControlNode.c (.mk k t cd a b)),.ptr 0 1 0 0] (cntH c m)=some (.val (.bool true),cntH (c+1) m):=by
 rw [qbh (fn:=c_278) rfl rfl];have hw:IntKind.wrap .i64 (c+1)=c+1:=qbs (by omega) (by omega);simp [c_278,cntH,ControlNode.e,hw]
theorem qpf:∀(n:Nat) (l:List ControlNode) (c:Int) (m:Nat),1<=m->SizeOf.sizeOf l<=n->0<=c->c+(pre l).length<2^60->(pre l).length<2^40->
  ∃m',m<=m'/\qai Φ f_236 [.slice 5 (l.map ControlNode.c),cntF] (cntH c m)=some (.val (.bool true),cntH (c+(pre l).length) m')
 | 0,l,c,m,_,h,_,_,_=>by cases l<;>simp at h
 | n+1,l,c,m,h1m,h,hc0,hb,hl=>by
  rw [qbh (fn:=c_236) rfl rfl];have hll:=qhy l;simp [c_236,cntF];refine qj8 l.length (fun i e H=>look 1 e=some cntF/\look 7 e=some (.slice 5 (l.map ControlNode.c))/\look 8 e=some (.int .i64 l.length)/\look 9 e=some (.int .i64 i)/\∃m1,m<=m1/\H=cntH (c+(pre (l.take i)).length) m1)
   (fun r=>∃m',m<=m'/\r=some (Rt.val (.bool true),cntH (c+(pre l).length) m')) ?_ ?_ 0 _ _ (Qc _) ?_
  ·rintro i e _ L hi hL ⟨h1,h7,h8,h9,m1,hm1,rfl⟩ ih;have hw:=qal i (by omega);obtain ⟨k,t,cd,a,b,hx⟩:=qgm l[i];have hm:l[i]∈l:=Qd hi;have hs:SizeOf.sizeOf l[i]<SizeOf.sizeOf l:=List.sizeOf_lt_of_mem hm;have hp:=qvw hi;have ht:=qm7 hi;have htl:(pre (l.take (i+1))).length<=(pre l).length:=by
    have:pre l=pre (l.take (i+1))++pre (l.drop (i+1)):=by rw [<- qf6,List.take_append_drop]
    rw [this];simp
   rw [hx] at hs hp ht;rw [qhx] at hp ht;simp at hs hp;have htl2:=htl;rw [ht] at htl2;simp at htl2;obtain ⟨c',hc'⟩:∃c':Int,c'=c+(pre (l.take i)).length:=⟨_,rfl⟩;rw [<- hc'];have e1:=qyi k t cd a b c' (m1+1) (by omega);obtain ⟨m2,hm2,e2⟩:=qpf n a (c'+1) (m1+1) (by omega) (by omega) (by omega) (by omega) (by omega);obtain ⟨m3,hm3,e3⟩:=qpf n b (c'+1+(pre a).length) m2 (by omega) (by omega) (by omega) (by omega) (by omega);simp only [cntH,cntF,ControlNode.e] at e1 e2 e3;have hn0:¬(0=m1):=by omega
   have hn1:¬(m1=0):=by omega
   simp only [cntF] at h1;simp [c_236_l0,h1,h7,h8,h9,hi,hw,hx,ControlNode.e,cntH,hn0,e1,e2,e3];refine ih _ _ ⟨by simp [h1,cntF],by simp [h7],by simp [h8],by simp,m3,by omega,?_⟩;rw [ht,hc'];simp [cntH];omega
  ·rintro e _ L hL ⟨h1,h7,h8,h9,m1,hm1,rfl⟩;rw [List.take_length];refine ⟨m1,hm1,?_⟩;simp [c_236_l0,c_236_k1,h8,h9,hL]
  ·simp [cntF,pre];exact ⟨m,Qb _,rfl⟩
theorem qaah (l:List ControlNode) (hl:(pre l).length<2^40):qac Φ f_234 [.slice 5 (l.map ControlNode.c)]=some (.val (.int .i64 (pre l).length)):=by
 rw [qaa (fn:=c_234) rfl rfl];obtain ⟨m',hm,e⟩:=qpf _ l 0 1 (Qb _) (Qb _) (by omega) (by omega) hl;simp only [cntH,cntF] at e;simp [c_234,e]
structure Wk where
 e:Int
 n:Int
 us:List Int
def wk1 (p:Prg) (w:Wk) (x:ControlNode):Wk:=if w.e≠0 then w else if qcp p w.us x≠0 then ⟨qcp p w.us x,w.n,w.us⟩ else ⟨0,w.n+1,if appl x then w.us++[x.table] else w.us⟩
def wk (p:Prg) (w:Wk) (l:List ControlNode):Wk:=l.foldl (wk1 p) w
theorem qhe (p:Prg) (w:Wk) (a b:List ControlNode):wk p w (a++b)=wk p (wk p w a) b:=by simp [wk]
theorem qft (p:Prg) (w:Wk) (h:w.e≠0):∀l,wk p w l=w
 | []=>rfl
 | x::l=>by
  have:wk1 p w x=w:=by simp [wk1,h]
  show wk p (wk1 p w x) l=w;rw [this];exact qft p w h l
theorem wk_n (p:Prg):∀(l:List ControlNode) (w:Wk),w.n<=(wk p w l).n/\(wk p w l).n<=w.n+l.length/\(wk p w l).us.length<=w.us.length+l.length
 | [],w=>by simp [wk]
 | x::l,w=>by
  have h:=wk_n p l (wk1 p w x);show w.n<=(wk p (wk1 p w x) l).n/\(wk p (wk1 p w x) l).n<=w.n+(x::l).length/\(wk p (wk1 p w x) l).us.length<=w.us.length+(x::l).length;have h1:w.n<=(wk1 p w x).n/\(wk1 p w x).n<=w.n+1/\(wk1 p w x).us.length<=w.us.length+1:=by
   unfold wk1;split
   ·simp;omega
   split
   ·simp;omega
   ·refine ⟨by simp;omega,by simp,?_⟩;simp only;split<;>simp
  simp only [List.length_cons];omega
def chkF (p:Prg):AV:= .func (.func f_237) [] [.iptr 9 [Prg.c p] 0 0,.ptr 2 1 0 0,.ptr 0 1 0 0,.ptr 1 1 0 0]
def ChkH (w:Wk) (m:Nat) (H:AH):Prop:=3<=m/\((w.us=[]/\H=⟨[(0,.row 1 [[.int .i64 w.e]]),(1,.row 1 [[.int .i64 w.n]]),(2,.row 1 [[.fslice 1 []]])],m⟩)\/
 ∃q,3<=q/\q<m/\H=⟨[(0,.row 1 [[.int .i64 w.e]]),(1,.row 1 [[.int .i64 w.n]]),(2,.row 1 [[.app 1 (w.us.map cI) q]]),(q,.tok 1 w.us.length)],m⟩)
theorem qyc (p:Prg) (k t:Int) (cd:List ExprNode) (a b:List ControlNode) (w:Wk) (m:Nat) (H:AH) (hH:ChkH w m H) (he:w.e=0) (hn:0<=w.n/\w.n<2^60) (hu:w.us.length<2^40 - 1) (ha:a.length<2^40) (hb:b.length<2^40):
  ∃m' H',m<=m'/\ChkH (wk1 p w (.mk k t cd a b)) m' H'/\qai Φ f_237 [.agg (ControlNode.c (.mk k t cd a b)),.iptr 9 [Prg.c p] 0 0,.ptr 2 1 0 0,.ptr 0 1 0 0,.ptr 1 1 0 0] H=some (.val (.bool (decide ((wk1 p w (.mk k t cd a b)).e=0))),H'):=by
 have hw:IntKind.wrap .i64 (w.n+1)=w.n+1:=qbs (by omega) (by omega);have hU:=qaa7 p k t cd a b w.us ha hb (by omega);have hA:=qv7 k t cd a b;simp only [Prg.e,ControlNode.e] at hU hA;obtain ⟨h3,⟨hus,rfl⟩ | ⟨q,hq,hqm,rfl⟩⟩:=hH
 ·rw [qbh (fn:=c_237) rfl rfl];rw [hus] at hU;simp only [List.map_nil] at hU;by_cases z:qcp p [] (.mk k t cd a b)=0
  ·rw [z] at hU;cases qa:appl (.mk k t cd a b) with
   | true=>
    rw [qa] at hA;have hn0:¬(0=m):=by omega
    have hn1:¬(1=m):=by omega
    have hn2:¬(2=m):=by omega
    have hn0':¬(m=0):=by omega
    have hn1':¬(m=1):=by omega
    have hn2':¬(m=2):=by omega
    refine ⟨m+1,⟨[(0,.row 1 [[.int .i64 0]]),(1,.row 1 [[.int .i64 (w.n+1)]]),(2,.row 1 [[.app 1 [[.int .i64 t]] m]]),(m,.tok 1 1)],m+1⟩,Nat.le_succ _,⟨by omega,.inr ⟨m,h3,by omega,by simp [wk1,he,hus,z,qa,cI]⟩⟩,?_⟩;simp [c_237,ControlNode.e,Prg.e,hU,wk1,he,hus,z,qa,hA,hw,hn0,hn1,hn2]
   | false=>
    rw [qa] at hA;refine ⟨m,⟨[(0,.row 1 [[.int .i64 0]]),(1,.row 1 [[.int .i64 (w.n+1)]]),(2,.row 1 [[.fslice 1 []]])],m⟩,Qb _,⟨by omega,.inl ⟨by simp [wk1,he,hus,z,qa],by simp [wk1,he,hus,z,qa]⟩⟩,?_⟩;simp [c_237,ControlNode.e,Prg.e,hU,wk1,he,hus,z,qa,hA,hw]
  ·refine ⟨m,⟨[(0,.row 1 [[.int .i64 (qcp p [] (.mk k t cd a b))]]),(1,.row 1 [[.int .i64 w.n]]),(2,.row 1 [[.fslice 1 []]])],m⟩,Qb _,⟨by omega,.inl ⟨by simp [wk1,he,hus,z],by simp [wk1,he,hus,z]⟩⟩,?_⟩;simp [c_237,ControlNode.e,Prg.e,hU,wk1,he,hus,z]
 ·rw [qbh (fn:=c_237) rfl rfl];have q0:¬(0=q):=by omega
  have q1:¬(1=q):=by omega
  have q2:¬(2=q):=by omega
  have q0':¬(q=0):=by omega
  have q1':¬(q=1):=by omega
  have q2':¬(q=2):=by omega
  have hbb:(w.us.length+1)*8<=70368744177664:=by omega
  by_cases z:qcp p w.us (.mk k t cd a b)=0
  ·rw [z] at hU;cases qa:appl (.mk k t cd a b) with
   | true=>
    rw [qa] at hA;refine ⟨m,⟨[(0,.row 1 [[.int .i64 0]]),(1,.row 1 [[.int .i64 (w.n+1)]]),(2,.row 1 [[.app 1 ((w.us++[t]).map cI) q]]),(q,.tok 1 (w.us.length+1))],m⟩,Qb _,⟨by omega,.inr ⟨q,hq,hqm,by simp [wk1,he,z,qa]⟩⟩,?_⟩;simp [c_237,ControlNode.e,Prg.e,hU,wk1,he,z,qa,hA,hw,q0,q1,q2,hbb,cI]
   | false=>
    rw [qa] at hA;refine ⟨m,⟨[(0,.row 1 [[.int .i64 0]]),(1,.row 1 [[.int .i64 (w.n+1)]]),(2,.row 1 [[.app 1 (w.us.map cI) q]]),(q,.tok 1 w.us.length)],m⟩,Qb _,⟨by omega,.inr ⟨q,hq,hqm,by simp [wk1,he,z,qa]⟩⟩,?_⟩;simp [c_237,ControlNode.e,Prg.e,hU,wk1,he,z,qa,hA,hw]
  ·refine ⟨m,⟨[(0,.row 1 [[.int .i64 (qcp p w.us (.mk k t cd a b))]]),(1,.row 1 [[.int .i64 w.n]]),(2,.row 1 [[.app 1 (w.us.map cI) q]]),(q,.tok 1 w.us.length)],m⟩,Qb _,⟨by omega,.inr ⟨q,hq,hqm,by simp [wk1,he,z]⟩⟩,?_⟩;simp [c_237,ControlNode.e,Prg.e,hU,wk1,he,z]
theorem qmq {w:Wk} {m:Nat} {H:AH} (h:ChkH w m H):∃O,H=⟨O,m⟩/\look m O=none/\∀m',m<=m'->ChkH w m' ⟨O,m'⟩:=by
 obtain ⟨h3,⟨hus,rfl⟩ | ⟨q,hq,hqm,rfl⟩⟩:=h
 ·refine ⟨_,rfl,?_,fun m' hm=>⟨by omega,.inl ⟨hus,rfl⟩⟩⟩;have a0:¬(0=m):=by omega
  have a1:¬(1=m):=by omega
  have a2:¬(2=m):=by omega
  simp [a0,a1,a2]
 ·refine ⟨_,rfl,?_,fun m' hm=>⟨by omega,.inr ⟨q,hq,by omega,rfl⟩⟩⟩;have a0:¬(0=m):=by omega
  have a1:¬(1=m):=by omega
  have a2:¬(2=m):=by omega
  have a3:¬(q=m):=by omega
  simp [a0,a1,a2,a3]
def PK (p:Prg) (l:List ControlNode) (w:Wk) (m:Nat) (r:Option (Rt×AH)):Prop:=∃m' H',m<=m'/\ChkH (wk p w (pre l)) m' H'/\r=some (.val (.bool (decide ((wk p w (pre l)).e=0))),H')
theorem qpg (p:Prg):∀(n:Nat) (l:List ControlNode) (w:Wk) (m:Nat) (H:AH),ChkH w m H->w.e=0->SizeOf.sizeOf l<=n->0<=w.n->w.n+(pre l).length<2^60->w.us.length+(pre l).length<2^40 - 1->
  ∃m' H',m<=m'/\ChkH (wk p w (pre l)) m' H'/\qai Φ f_236 [.slice 5 (l.map ControlNode.c),chkF p] H=some (.val (.bool (decide ((wk p w (pre l)).e=0))),H')
 | 0,l,w,m,H,_,_,h,_,_,_=>by cases l<;>simp at h
 | n+1,l,w,m,H,hH,he,h,hn0,hn1,hu=>by
  have hll:=qhy l;obtain ⟨O,rfl,hO,hup⟩:=qmq hH;have goal:PK p l w m (go Φ (finC c_236.results) [.c c_236.body] .normal ⟨qb0 0 [.slice 5 (l.map ControlNode.c),chkF p],⟨O,m⟩⟩):=by
   simp [c_236,chkF];refine qj8 l.length (fun i e H=>look 1 e=some (chkF p)/\look 7 e=some (.slice 5 (l.map ControlNode.c))/\look 8 e=some (.int .i64 l.length)/\look 9 e=some (.int .i64 i)/\(wk p w (pre (l.take i))).e=0/\∃m1,m<=m1/\ChkH (wk p w (pre (l.take i))) m1 H)
    (PK p l w m) ?_ ?_ 0 _ _ (Qc _) ?_
   ·rintro i e H1 L hi hL ⟨h1,h7,h8,h9,hw0,m1,hm1,hH1⟩ ih;have hw:=qal i (by omega);obtain ⟨k,t,cd,a,b,hx⟩:=qgm l[i];have hm:l[i]∈l:=Qd hi;have hs:SizeOf.sizeOf l[i]<SizeOf.sizeOf l:=List.sizeOf_lt_of_mem hm;have ht:=qm7 hi;have hpl:pre l=pre (l.take (i+1))++pre (l.drop (i+1)):=by rw [<- qf6,List.take_append_drop]
    have htl:(pre (l.take (i+1))).length<=(pre l).length:=by rw [hpl];simp
    rw [hx] at hs ht;rw [qhx] at ht;simp at hs;have htl2:=htl;rw [ht] at htl2;simp at htl2;obtain ⟨O1,rfl,hO1,hup1⟩:=qmq hH1;have r1:=wk_n p (pre (l.take i)) w;have al:=qhy a;have bl:=qhy b;have e2:wk p w (pre (l.take (i+1)))=wk p (wk p (wk1 p (wk p w (pre (l.take i))) (.mk k t cd a b)) (pre a)) (pre b):=by
     rw [ht,qhe];show wk p (wk1 p (wk p w (pre (l.take i))) (.mk k t cd a b)) (pre a++pre b)=_;rw [qhe]
    generalize hW:wk p w (pre (l.take i))=W at*;obtain ⟨m2,H2,hm2,hH2,c1⟩:=qyc p k t cd a b W (m1+1) _ (hup1 (m1+1) (by omega)) hw0 ⟨by omega,by omega⟩ (by omega) (by omega) (by omega);have r2:(wk1 p W (.mk k t cd a b)).n<=W.n+1/\(wk1 p W (.mk k t cd a b)).us.length<=W.us.length+1/\W.n<=(wk1 p W (.mk k t cd a b)).n:=by
     have:=wk_n p [.mk k t cd a b] W;simp [wk] at this;omega
    simp only [ControlNode.e,Prg.e] at c1;simp only [chkF,Prg.e] at h1;by_cases y1:(wk1 p W (.mk k t cd a b)).e=0
    rotate_left
    ·-- the node is bad
     have e3:wk p w (pre l)=wk1 p W (.mk k t cd a b):=by
      rw [hpl,qhe,e2,qft p _ y1,qft p _ y1,qft p _ y1]
     refine ⟨m2,H2,by omega,by rw [e3];exact hH2,?_⟩;simp [c_236_l0,h1,h7,h8,h9,hi,hx,ControlNode.e,hO1,c1,y1,e3]
    obtain ⟨m3,H3,hm3,hH3,c2⟩:=qpg p n a _ m2 H2 hH2 y1 (by omega) (by omega) (by omega) (by omega);have r3:=wk_n p (pre a) (wk1 p W (.mk k t cd a b));simp only [chkF,Prg.e] at c2;generalize hW2:wk p (wk1 p W (.mk k t cd a b)) (pre a)=W2 at*;by_cases y2:W2.e=0
    rotate_left
    ·have e3:wk p w (pre l)=W2:=by
      rw [hpl,qhe,e2,qft p _ y2,qft p _ y2]
     refine ⟨m3,H3,by omega,by rw [e3];exact hH3,?_⟩;simp [c_236_l0,h1,h7,h8,h9,hi,hx,ControlNode.e,hO1,c1,c2,y1,y2,e3]
    obtain ⟨m4,H4,hm4,hH4,c3⟩:=qpg p n b _ m3 H3 hH3 y2 (by omega) (by omega) (by omega) (by omega);simp only [chkF,Prg.e] at c3;generalize hW3:wk p W2 (pre b)=W3 at*;by_cases y3:W3.e=0
    rotate_left
    ·have e3:wk p w (pre l)=W3:=by
      rw [hpl,qhe,e2,qft p _ y3]
     refine ⟨m4,H4,by omega,by rw [e3];exact hH4,?_⟩;simp [c_236_l0,h1,h7,h8,h9,hi,hx,ControlNode.e,hO1,c1,c2,c3,y1,y2,y3,e3]
    simp [c_236_l0,h1,h7,h8,h9,hi,hx,ControlNode.e,hO1,c1,c2,c3,y1,y2,y3,hw];exact ih _ _ ⟨by simp [h1,chkF,Prg.e],by simp [h7],by simp [h8],by simp,by rw [e2];exact y3,m4,by omega,by rw [e2];exact hH4⟩
   ·rintro e H1 L hL ⟨h1,h7,h8,h9,hw0,m1,hm1,hH1⟩;rw [List.take_length] at hw0 hH1;obtain ⟨O1,rfl,hO1,hup1⟩:=qmq hH1;refine ⟨m1,_,hm1,hH1,?_⟩;simp [c_236_l0,c_236_k1,h8,h9,hL,hw0]
   ·simp [chkF,pre,wk,he];exact ⟨m,Qb _,hH⟩
  obtain ⟨m',H',k1,k2,k3⟩:=goal;exact ⟨m',H',k1,k2,by rw [qbh (fn:=c_236) rfl rfl];exact k3⟩
def usOf (l:List ControlNode):List Int:=(l.filter appl).map (·.table)
theorem qrf (t:Int) (l:List ControlNode):(usOf l).contains t=l.any (fun y=>appl y&&decide (y.table=t)):=by
 unfold usOf;rw [qep,List.any_filter]
theorem qs1 (p:Prg) (l:List ControlNode) (x:ControlNode):ql4 p l x=qcp p (usOf l) x:=by
 unfold ql4 qcp;rw [qrf]
def ctlG (p:Prg) (l:List ControlNode) (i:Nat):Option (Int×Int):=(l[i]?).bind fun x=>if ql4 p (l.take i) x=0 then none else some ((i:Int),ql4 p (l.take i) x)
theorem wk_fe (p:Prg) (l:List ControlNode):∀n i,n+i=l.length->((wk p ⟨0,i,usOf (l.take i)⟩ (l.drop i)).e=0/\fe (ctlG p l) l.length i=none)\/
  ((wk p ⟨0,i,usOf (l.take i)⟩ (l.drop i)).e≠0/\fe (ctlG p l) l.length i=some ((wk p ⟨0,i,usOf (l.take i)⟩ (l.drop i)).n,(wk p ⟨0,i,usOf (l.take i)⟩ (l.drop i)).e))
 | 0,i,h=>by
  have:i=l.length:=by omega
  subst this;simp [wk,qb9]
 | n+1,i,h=>by
  have hi:i<l.length:=by omega
  rw [Qi hi];show ((wk p (wk1 p ⟨0,i,usOf (l.take i)⟩ l[i]) (l.drop (i+1))).e=0/\_)\/((wk p (wk1 p ⟨0,i,usOf (l.take i)⟩ l[i]) (l.drop (i+1))).e≠0/\fe (ctlG p l) l.length i=some ((wk p (wk1 p ⟨0,i,usOf (l.take i)⟩ l[i]) (l.drop (i+1))).n,(wk p (wk1 p ⟨0,i,usOf (l.take i)⟩ l[i]) (l.drop (i+1))).e));by_cases z:qcp p (usOf (l.take i)) l[i]=0
  ·have e1:wk1 p ⟨0,i,usOf (l.take i)⟩ l[i]=⟨0,((i+1:Nat):Int),usOf (l.take (i+1))⟩:=by
    have hu:usOf (l.take (i+1))=if appl l[i] then usOf (l.take i)++[l[i].table] else usOf (l.take i):=by
     rw [Qh hi];unfold usOf;rw [List.filter_append,List.map_append];cases q:appl l[i]<;>simp [q]
    rw [hu];simp [wk1,z]
   rw [e1,qbj hi (by simp [ctlG,hi,qs1,z])];exact wk_fe p l n (i+1) (by omega)
  ·have e1:wk1 p ⟨0,i,usOf (l.take i)⟩ l[i]=⟨qcp p (usOf (l.take i)) l[i],i,usOf (l.take i)⟩:=by simp [wk1,z]
   rw [e1,qft p _ z];refine .inr ⟨z,?_⟩;rw [qav hi (by simp only [ctlG,Qa hi,Option.bind_some,qs1];rw [if_neg z])]
theorem qac4 (p:Prg) (hl:(pre p.control).length<2^40 - 1):qac Φ f_186 [.agg (Prg.c p)]=some (.val (.tup [.int .i64 (ctlE p).1,.int .i64 (ctlE p).2])):=by
 rw [qaa (fn:=c_186) rfl rfl];have hc:=qaah p.control (by omega);have hn:=qpd _ p.control (Qb _) (by omega);by_cases z1:24<(pre p.control).length
 ·simp [c_186,Prg.e,hc,ctlE,z1]
 by_cases z2:6<nest p.control
 ·simp [c_186,Prg.e,hc,hn,ctlE,z1,z2]
 have hE:ctlE p=(fe (ctlG p (pre p.control)) (pre p.control).length 0).getD (0,0):=by unfold ctlE;rw [if_neg z1,if_neg z2];rfl
 obtain ⟨m',H',hm',hH',hp⟩:=qpg p _ p.control ⟨0,0,[]⟩ 3 ⟨[(0,.row 1 [[.int .i64 0]]),(1,.row 1 [[.int .i64 0]]),(2,.row 1 [[.fslice 1 []]])],3⟩ ⟨by omega,.inl ⟨rfl,rfl⟩⟩ rfl (Qb _) (by simp) (by simp;omega) (by simp;omega);have hf:=wk_fe p (pre p.control) (pre p.control).length 0 (by omega);simp only [List.take_zero,List.drop_zero,show usOf []=[] from rfl,Int.ofNat_zero] at hf;generalize hW:wk p ⟨0,0,[]⟩ (pre p.control)=W at*;simp only [chkF,Prg.e] at hp;rw [hE];rcases hf with ⟨y,hf⟩ | ⟨y,hf⟩
 ·rw [hf];obtain ⟨h3,⟨hus,rfl⟩ | ⟨q,hq,hqm,rfl⟩⟩:=hH'
  ·simp [y] at hp;simp [c_186,Prg.e,hc,hn,z1,z2,hp]
  ·simp [y] at hp;simp [c_186,Prg.e,hc,hn,z1,z2,hp]
 ·rw [hf];obtain ⟨h3,⟨hus,rfl⟩ | ⟨q,hq,hqm,rfl⟩⟩:=hH'
  ·simp [y] at hp;simp [c_186,Prg.e,hc,hn,z1,z2,hp,y]
  ·simp [y] at hp;simp [c_186,Prg.e,hc,hn,z1,z2,hp,y]
def metG (p:Prg) (i:Nat):Option Dg:=(p.metadata[i]?).bind fun f=>if fldE p.metadata i f=0 then none else some (fldE p.metadata i f,(2:Int),(i:Int),(0:Int))
def metH (p:Prg) (i:Nat):Option Dg:=if p.metadata[i]? =some (qf3 i) then none else some (5,2,(i:Int),0)
theorem qadx (p:Prg):metD p=if 12<p.metadata.length then some (12,2,0,0) else (fe (metG p) p.metadata.length 0).or (fe (metH p) 3 0):=by
 unfold metD;show (if _ then _ else (match fe (metG p) p.metadata.length 0 with | some d=>some d | none=>fe (metH p) 3 0))=_;cases fe (metG p) p.metadata.length 0<;>rfl
theorem Fld.eq_iff (a b:Fld):a=b↔a.name=b.name/\a.width=b.width:=Fld.ext_iff
theorem qad0 (p:Prg) (e:Env) (n:Nat) (h1:look 1 e=some (.iptr 9 [Prg.c p] 0 0)):go Φ (finP []) [.c c_101_k2] .normal ⟨e,⟨[],n⟩⟩=some (rtD (fe (metH p) 3 0)):=by
 rw [Prg.e] at h1;simp [c_101_k2];rw [qbo];by_cases l0:p.metadata.length<=0
 ·rw [qav (x:=(5,2,0,0)) (by omega) (by unfold metH;rw [Qk l0];rfl)];have hnil:p.metadata=[]:=Qg (by omega);simp [c_101_l1,h1,hnil,qa7,qaq,rtD]
 have k0:0<p.metadata.length:=by omega
 have hne:¬p.metadata=[]:=by intro h;rw [h] at k0;simp at k0
 by_cases a0:p.metadata[0].name=[105,110]
 rotate_left
 ·rw [qav (x:=(5,2,0,0)) (by omega) (by unfold metH;rw [Qa k0,if_neg (by simp [qf3,Fld.eq_iff,a0])];rfl)];simp [c_101_l1,Fld.e,h1,hne,k0,a0,qa7,qaq,rtD]
 by_cases b0:p.metadata[0].width=8
 rotate_left
 ·rw [qav (x:=(5,2,0,0)) (by omega) (by unfold metH;rw [Qa k0,if_neg (by simp [qf3,Fld.eq_iff,b0])];rfl)];simp [c_101_l1,Fld.e,h1,hne,k0,a0,b0,qa7,qaq,rtD]
 rw [qbj (by omega) (by unfold metH;rw [Qa k0,if_pos (by simp [qf3,Fld.eq_iff,a0,b0])])];simp [c_101_l1,Fld.e,h1,hne,k0,a0,b0,qa7,qaw,wr1];rw [qbo];by_cases l1:p.metadata.length<=1
 ·rw [qav (x:=(5,2,1,0)) (by omega) (by unfold metH;rw [Qk l1];rfl)];simp [h1,l1,qa7,qaq,rtD]
 have k1:1<p.metadata.length:=by omega
 by_cases a1:p.metadata[1].name=[111,117,116]
 rotate_left
 ·rw [qav (x:=(5,2,1,0)) (by omega) (by unfold metH;rw [Qa k1,if_neg (by simp [qf3,Fld.eq_iff,a1])];rfl)];simp [Fld.e,h1,l1,k1,a1,qa7,qaq,rtD]
 by_cases b1:p.metadata[1].width=8
 rotate_left
 ·rw [qav (x:=(5,2,1,0)) (by omega) (by unfold metH;rw [Qa k1,if_neg (by simp [qf3,Fld.eq_iff,b1])];rfl)];simp [Fld.e,h1,l1,k1,a1,b1,qa7,qaq,rtD]
 rw [qbj (by omega) (by unfold metH;rw [Qa k1,if_pos (by simp [qf3,Fld.eq_iff,a1,b1])])];simp [Fld.e,h1,l1,k1,a1,b1,qa7,qaw,wr2];rw [qbo];by_cases l2:p.metadata.length<=2
 ·rw [qav (x:=(5,2,2,0)) (by omega) (by unfold metH;rw [Qk l2];rfl)];simp [h1,l2,qa7,qaq,rtD]
 have k2:2<p.metadata.length:=by omega
 by_cases a2:p.metadata[2].name=[100,114,111,112]
 rotate_left
 ·rw [qav (x:=(5,2,2,0)) (by omega) (by unfold metH;rw [Qa k2,if_neg (by simp [qf3,Fld.eq_iff,a2])];rfl)];simp [Fld.e,h1,l2,k2,a2,qa7,qaq,rtD]
 by_cases b2:p.metadata[2].width=1
 rotate_left
 ·rw [qav (x:=(5,2,2,0)) (by omega) (by unfold metH;rw [Qa k2,if_neg (by simp [qf3,Fld.eq_iff,b2])];rfl)];simp [Fld.e,h1,l2,k2,a2,b2,qa7,qaq,rtD]
 rw [qbj (by omega) (by unfold metH;rw [Qa k2,if_pos (by simp [qf3,Fld.eq_iff,a2,b2])])];simp [Fld.e,h1,l2,k2,a2,b2,qa7,qaw,wr3];rw [qbo,qb9];simp [rtD]
theorem qadz (p:Prg) (f:PrgS p):qac Φ f_101 [.agg (Prg.c p)]=some (rtD (metD p)):=by
 rw [qaa (fn:=c_101) rfl rfl,qadx];by_cases z:12<p.metadata.length
 ·simp [c_101,Prg.e,z,qa7,qaq,rtD]
 have e1:=quv p.metadata f.m;rw [if_neg z];simp [c_101,Prg.e,z,qa7,qaw,e1];refine qa0 p.metadata.length (fun _=>[]) 0 (fun i e=>look 1 e=some (.iptr 9 [Prg.c p] 0 0)/\look 2 e=some (.slice 1 (p.metadata.map fun x=>[.str x.name]))/\look 17 e=some (.slice 2 (p.metadata.map Fld.c))/\look 18 e=some (.int .i64 p.metadata.length)/\look 19 e=some (.int .i64 i))
  (fun i=>some (rtD ((fe (metG p) p.metadata.length i).or (fe (metH p) 3 0)))) ?_ ?_ 0 _ 0 (Qc _) (Qb _) ?_
 ·rintro i e n L hi hL _ ⟨h1,h2,h17,h18,h19⟩ ih;have hlen:=f.m;have hw:=qal i (by omega);have ei:=qkr p.metadata[i].name (f.mn _ (Qd hi));have ew:=qoq p.metadata[i].width;have er:=qe5 Fld.name p.metadata i hi f.m;cases q1:idS p.metadata[i].name with
  | false=>
   rw [q1] at ei;rw [qav (x:=(6,2,(i:Int),0)) hi (by simp [metG,hi,fldE,q1])];simp [c_101_l0,Fld.e,h17,h18,h19,hi,ei,qa7,qaq,rtD]
  | true=>
  rw [q1] at ei;cases q2:wBad p.metadata[i].width with
  | true=>
   rw [q2] at ew;rw [qav (x:=(10,2,(i:Int),0)) hi (by simp [metG,hi,fldE,q1,q2])];simp [c_101_l0,Fld.e,h17,h18,h19,hi,ei,ew,qa7,qaq,qaw,rtD]
  | false=>
  rw [q2] at ew;cases q3:dupN Fld.name p.metadata i p.metadata[i] with
  | true=>
   rw [q3] at er;rw [qav (x:=(7,2,(i:Int),0)) hi (by simp [metG,hi,fldE,q1,q2,q3])];simp [c_101_l0,Fld.e,h2,h17,h18,h19,hi,ei,ew,er,qa7,qaq,qaw,rtD]
  | false=>
   rw [q3] at er;rw [qbj hi (by simp [metG,hi,fldE,q1,q2,q3])];simp [c_101_l0,Fld.e,h2,h17,h18,h19,hi,ei,ew,er,qa7,qaw,hw];exact ih _ _ (Qc _) ⟨by simp [h1],by simp [h2],by simp [h17],by simp [h18],by simp⟩
 ·rintro e n L hL _ ⟨h1,h2,h17,h18,h19⟩;rw [qb9];simp [c_101_l0,h18,h19,hL];exact qad0 p _ _ (by simp [h1])
 ·simp [Prg.e]
def regG (p:Prg) (i:Nat):Option Dg:=(p.registers[i]?).bind fun r=>if qkd p i r=0 then none else some (qkd p i r,3,(i:Int),0)
def acG (p:Prg) (i:Nat):Option Dg:=(p.actions[i]?).bind fun a=>if (actE p i).2≠0 then some ((actE p i).2,(4:Int),(i:Int),(actE p i).1) else if dupN Action.name p.actions i a then some (7,4,(i:Int),0) else none
def tbG (p:Prg) (i:Nat):Option Dg:=(p.tables[i]?).bind fun a=>if (tblE p i).2≠0 then some ((tblE p i).2,(5:Int),(i:Int),(tblE p i).1) else if dupN Tbl.name p.tables i a then some (7,5,(i:Int),0) else none
theorem qad5 (p:Prg) (f:PrgS p) (e:Env) (n:Nat) (h1:look 1 e=some (.iptr 9 [Prg.c p] 0 0)):go Φ (finP []) [.c c_102_k3] .normal ⟨e,⟨[],n⟩⟩=some (rtD (tblD p)):=by
 rw [show tblD p=fe (tbG p) p.tables.length 0 from rfl];have e1:=quw p.tables f.t;rw [Prg.e] at h1;simp [c_102_k3,h1,e1];refine qa0 p.tables.length (fun _=>[]) 0 (fun i e=>look 1 e=some (.iptr 9 [Prg.c p] 0 0)/\look 2 e=some (.slice 1 (p.tables.map fun x=>[.str x.name]))/\look 64 e=some (.int .i64 p.tables.length)/\look 65 e=some (.int .i64 i))
  (fun i=>some (rtD (fe (tbG p) p.tables.length i))) ?_ ?_ 0 _ _ (Qc _) (Qc _) ?_
 ·rintro i e n L hi hL _ ⟨h1,h2,h64,h65⟩ ih;have hlen:=f.t;have hw:=qal i (by omega);have et:=qp0 p f i;have er:=qe5 Tbl.name p.tables i hi f.t;simp only [Prg.e] at et;rw [Prg.e] at h1;by_cases y:(tblE p i).2=0
  rotate_left
  ·rw [qav (x:=((tblE p i).2,5,(i:Int),(tblE p i).1)) hi (by simp [tbG,hi,y])];simp [c_102_l2,h1,h64,h65,hi,et,qaq,y,rtD]
  rw [y] at et;cases q:dupN Tbl.name p.tables i p.tables[i] with
  | true=>
   rw [q] at er;rw [qav (x:=(7,5,(i:Int),0)) hi (by simp [tbG,hi,y,q])];simp [c_102_l2,h1,h2,h64,h65,hi,et,er,qa7,qaq,qaw,rtD]
  | false=>
   rw [q] at er;rw [qbj hi (by simp [tbG,hi,y,q])];simp [c_102_l2,h1,h2,h64,h65,hi,et,er,qa7,qaw,hw];exact ih _ _ (Qc _) ⟨by simp [h1,Prg.e],by simp [h2],by simp [h64],by simp⟩
 ·rintro e n L hL _ ⟨h1,h2,h64,h65⟩;rw [qb9];simp [c_102_l2,h64,h65,hL,rtD]
 ·simp [h1,Prg.e]
theorem qad4 (p:Prg) (f:PrgS p) (e:Env) (n:Nat) (h1:look 1 e=some (.iptr 9 [Prg.c p] 0 0)):go Φ (finP []) [.c c_102_k4] .normal ⟨e,⟨[],n⟩⟩=some (rtD ((qew p).or (tblD p))):=by
 rw [show qew p=fe (acG p) p.actions.length 0 from rfl];have e1:=qpa p.actions f.a;rw [Prg.e] at h1;simp [c_102_k4,h1,e1];refine qa0 p.actions.length (fun _=>[]) 0 (fun i e=>look 1 e=some (.iptr 9 [Prg.c p] 0 0)/\look 2 e=some (.slice 1 (p.actions.map fun x=>[.str x.name]))/\look 38 e=some (.int .i64 p.actions.length)/\look 39 e=some (.int .i64 i))
  (fun i=>some (rtD ((fe (acG p) p.actions.length i).or (tblD p)))) ?_ ?_ 0 _ _ (Qc _) (Qc _) ?_
 ·rintro i e n L hi hL _ ⟨h1,h2,h38,h39⟩ ih;have hlen:=f.a;have hw:=qal i (by omega);have et:=qacj p f i;have er:=qe5 Action.name p.actions i hi f.a;simp only [Prg.e] at et;rw [Prg.e] at h1;by_cases y:(actE p i).2=0
  rotate_left
  ·rw [qav (x:=((actE p i).2,4,(i:Int),(actE p i).1)) hi (by simp [acG,hi,y])];simp [c_102_l1,h1,h38,h39,hi,et,qaq,y,rtD]
  rw [y] at et;cases q:dupN Action.name p.actions i p.actions[i] with
  | true=>
   rw [q] at er;rw [qav (x:=(7,4,(i:Int),0)) hi (by simp [acG,hi,y,q])];simp [c_102_l1,h1,h2,h38,h39,hi,et,er,qa7,qaq,qaw,rtD]
  | false=>
   rw [q] at er;rw [qbj hi (by simp [acG,hi,y,q])];simp [c_102_l1,h1,h2,h38,h39,hi,et,er,qa7,qaw,hw];exact ih _ _ (Qc _) ⟨by simp [h1,Prg.e],by simp [h2],by simp [h38],by simp⟩
 ·rintro e n L hL _ ⟨h1,h2,h38,h39⟩;rw [qb9];simp [c_102_l1,h38,h39,hL];exact qad5 p f _ _ (by simp [h1])
 ·simp [h1,Prg.e]
theorem qaga (p:Prg) (f:PrgS p):qac Φ f_102 [.agg (Prg.c p)]=some (rtD ((regD p).or ((qew p).or (tblD p)))):=by
 rw [qaa (fn:=c_102) rfl rfl,show regD p=fe (regG p) p.registers.length 0 from rfl];have e1:=qm6 p.registers f.r;generalize hX:(qew p).or (tblD p)=X;simp [c_102,Prg.e,e1];refine qa0 p.registers.length (fun _=>[]) 0 (fun i e=>look 1 e=some (.iptr 9 [Prg.c p] 0 0)/\look 2 e=some (.slice 1 (p.registers.map fun x=>[.str x.name]))/\look 15 e=some (.slice 3 (p.registers.map Register.c))/\look 16 e=some (.int .i64 p.registers.length)/\look 17 e=some (.int .i64 i))
  (fun i=>some (rtD ((fe (regG p) p.registers.length i).or X))) ?_ ?_ 0 _ _ (Qc _) (Qc _) ?_
 ·rintro i e n L hi hL _ ⟨h1,h2,h15,h16,h17⟩ ih;have hlen:=f.r;have hw:=qal i (by omega);have et:=qaeh p.registers[i] (f.rn _ (Qd hi));have er:=qe5 Register.name p.registers i hi f.r;simp only [Register.e] at et;by_cases y:regE p.registers[i]=0
  rotate_left
  ·rw [qav (x:=(regE p.registers[i],3,(i:Int),0)) hi (by simp [regG,hi,qkd,y])];simp [c_102_l0,Register.e,h15,h16,h17,hi,et,qaq,y,rtD]
  rw [y] at et;cases q:dupN Register.name p.registers i p.registers[i] with
  | true=>
   rw [q] at er;rw [qav (x:=(7,3,(i:Int),0)) hi (by simp [regG,hi,qkd,y,q])];simp [c_102_l0,Register.e,h2,h15,h16,h17,hi,et,er,qa7,qaq,qaw,rtD]
  | false=>
   rw [q] at er;rw [qbj hi (by simp [regG,hi,qkd,y,q])];simp [c_102_l0,Register.e,h2,h15,h16,h17,hi,et,er,qa7,qaw,hw];exact ih _ _ (Qc _) ⟨by simp [h1],by simp [h2],by simp [h15],by simp [h16],by simp⟩
 ·rintro e n L hL _ ⟨h1,h2,h15,h16,h17⟩;rw [qb9];simp [c_102_l0,h16,h17,hL];rw [<- hX];exact qad4 p f _ _ (by simp [h1])
 ·simp [Prg.e]
theorem qaf3 (p:Prg) (f:PrgS p) (hc:(pre p.control).length<2^40 - 1):qac Φ f_103 [.agg (Prg.c p)]=some (rtD (floD p)):=by
 rw [qaa (fn:=c_103) rfl rfl];have e1:=qaeb p f;have e2:=qac4 p hc;have e3:=qac8 p f;simp only [Prg.e,tup3] at e1 e2 e3;by_cases y1:(parE p).2.2=0
 rotate_left
 ·simp [c_103,Prg.e,e1,y1,qaq,floD,rtD]
 rw [y1] at e1;by_cases y2:(ctlE p).2=0
 rotate_left
 ·simp [c_103,Prg.e,e1,y1,e2,y2,qaq,qaw,floD,rtD]
 rw [y2] at e2;by_cases y3:(depE p).2=0
 rotate_left
 ·simp [c_103,Prg.e,e1,y1,e2,y2,e3,y3,qaq,qaw,floD,rtD]
 rw [y3] at e3;simp [c_103,Prg.e,e1,y1,e2,y2,e3,y3,qaw,floD,rtD]
theorem qc7 {Φ:FuncId->Option AFun} (c:ACode) (s:St):qbd Φ c s=go Φ (fun o=>o) [.c c] .normal s:=by
 rw [go_c];cases qbd Φ c s with
 | none=>rfl
 | some p=>rfl
def dgC (d:Dg):List AV:=[.int .i64 d.1,.int .i64 d.2.1,.int .i64 d.2.2.1,.int .i64 d.2.2.2]
def chkE (p:Prg):Env:=[(3,.func (.func f_98) [] [.ptr 1 4 0 0]),(2,.ptr 1 4 0 0),(1,.ptr 0 9 0 0),(0,.agg (Prg.c p))]
def qdf (p:Prg) (d:List AV):AH:=⟨[(0,.row 9 [Prg.c p]),(1,.row 4 [d])],2⟩
theorem qyd (p:Prg) (f:PrgS p) (hc:(pre p.control).length<2^40 - 1):∃e',look 2 e'=some (.ptr 1 4 0 0)/\go Φ (fun o=>o) [.c (match c_52.code with | .seq _ (.dfr _ _ b)=>b | _=> .skip)] .normal ⟨chkE p,qdf p [.int .i64 0,.int .i64 0,.int .i64 0,.int .i64 0]⟩=
  match (limD p).or ((hdrD p).or ((metD p).or (((regD p).or ((qew p).or (tblD p))).or (floD p)))) with
  | none=>some (.ret,⟨e',qdf p [.int .i64 0,.int .i64 0,.int .i64 0,.int .i64 0]⟩)
  | some d=>some (.pan (qfd d.1 d.2.1 d.2.2.1 d.2.2.2),⟨e',qdf p [.int .i64 0,.int .i64 0,.int .i64 0,.int .i64 0]⟩):=by
 have h1:=qy9 p f;have h2:=qnm p f;have h3:=qadz p f;have h4:=qaga p f;have h5:=qaf3 p f hc;simp only [Prg.e] at h1 h2 h3 h4 h5;cases q1:limD p with
 | some d=>rw [q1] at h1;simp [c_52,chkE,qdf,Prg.e,h1,rtD]
 | none=>
 cases q2:hdrD p with
 | some d=>rw [q1] at h1;rw [q2] at h2;simp [c_52,chkE,qdf,Prg.e,h1,h2,rtD]
 | none=>
 cases q3:metD p with
 | some d=>rw [q1] at h1;rw [q2] at h2;rw [q3] at h3;simp [c_52,chkE,qdf,Prg.e,h1,h2,h3,rtD]
 | none=>
 cases q4:(regD p).or ((qew p).or (tblD p)) with
 | some d=>rw [q1] at h1;rw [q2] at h2;rw [q3] at h3;rw [q4] at h4;simp [c_52,chkE,qdf,Prg.e,h1,h2,h3,h4,rtD]
 | none=>
 cases q5:floD p with
 | some d=>rw [q1] at h1;rw [q2] at h2;rw [q3] at h3;rw [q4] at h4;rw [q5] at h5;simp [c_52,chkE,qdf,Prg.e,h1,h2,h3,h4,h5,rtD]
 | none=>rw [q1] at h1;rw [q2] at h2;rw [q3] at h3;rw [q4] at h4;rw [q5] at h5;simp [c_52,chkE,qdf,Prg.e,h1,h2,h3,h4,h5,rtD]
def kA:ACode:=match c_52.code with | .seq a _=>a | _=> .skip
def kB:ACode:=match c_52.code with | .seq _ (.dfr _ _ b)=>b | _=> .skip
theorem qaed (p:Prg):prgD p=((limD p).or ((hdrD p).or ((metD p).or (((regD p).or ((qew p).or (tblD p))).or (floD p))))).getD (0,0,0,0):=by
 unfold prgD;cases limD p<;>cases hdrD p<;>cases metD p<;>cases regD p<;>cases qew p<;>cases tblD p<;>rfl
theorem qacx (p:Prg) (d:List AV) (hd:d.length=4):cloI Φ c_52 .niliface [.ptr 1 4 0 0] (qdf p d)=some (qdf p d):=by
 unfold cloI;rw [qc7];simp [c_52,recE]
theorem qacy (p:Prg) (d:Dg):∃h,cloI Φ c_52 (qfd d.1 d.2.1 d.2.2.1 d.2.2.2) [.ptr 1 4 0 0] (qdf p [.int .i64 0,.int .i64 0,.int .i64 0,.int .i64 0])=some h/\look 1 h.objs=some (.row 4 [dgC d]):=by
 unfold cloI;rw [qc7];simp [c_52,recE,qfd,tF,qdf,dgC]
theorem qs5 (p:Prg) (f:PrgS p) (hc:(pre p.control).length<2^40 - 1):qac Φ f_52 [.agg (Prg.c p)]=some (.val (.agg (dgC (prgD p)))):=by
 unfold qac;rw [qp6 Φ (d:=c_52) rfl rfl,show c_52.code= .seq kA (.dfr [⟨some 3,none,.mkfunc (.func f_98) [] [.t 2]⟩] 3 kB) from rfl];have a1:qbd Φ kA ⟨qb0 0 [.agg (Prg.c p)],H0⟩=some (.normal,⟨[(2,.ptr 1 4 0 0),(1,.ptr 0 9 0 0),(0,.agg (Prg.c p))],qdf p [.int .i64 0,.int .i64 0,.int .i64 0,.int .i64 0]⟩):=by
  rw [qc7];simp [kA,c_52,qdf]
 obtain ⟨e',he',hb⟩:=qyd p f hc;have hb2:qbd Φ kB ⟨chkE p,qdf p [.int .i64 0,.int .i64 0,.int .i64 0,.int .i64 0]⟩=_:=(qc7 _ _).trans hb;have a2:qap (qai Φ) none [⟨some 3,none,.mkfunc (.func f_98) [] [.t 2]⟩] ⟨[(2,.ptr 1 4 0 0),(1,.ptr 0 9 0 0),(0,.agg (Prg.c p))],qdf p [.int .i64 0,.int .i64 0,.int .i64 0,.int .i64 0]⟩=
   some (.normal,⟨chkE p,qdf p [.int .i64 0,.int .i64 0,.int .i64 0,.int .i64 0]⟩):=by
  simp [qap,qbf,chkE]
 simp only [qdr,a1,a2];have a3:(look 3 (chkE p)).bind tgt=some (f_98,[.ptr 1 4 0 0]):=by simp [chkE]
 rw [a3];simp only [show c_52.clo=f_98 from rfl,show c_52.ncaps=1 from rfl,List.length_singleton,and_self,if_true];rw [hb2,qaed];cases (limD p).or ((hdrD p).or ((metD p).or (((regD p).or ((qew p).or (tblD p))).or (floD p)))) with
 | none=>
  simp only [qid];rw [qacx p _ rfl];simp [qeh,c_52,he',qdf,dgC]
 | some d=>
  obtain ⟨h,k1,k2⟩:=qacy p d;simp only [qid];rw [k1];obtain ⟨O,n⟩:=h;simp only [dgC] at k2;simp [qeh,c_52,show Option.isSome (some ((4:Nat),(1:Nat)))=true from rfl,he',k2,dgC]
theorem qjb {α:Type} {f:Nat->Option α} {N:Nat} {x:α}:∀{i},fe f N i=some x->∃k,k<N/\f k=some x:=by
 have key:∀n i,feF f n i=some x->∃k,k<i+n/\f k=some x:=by
  intro n
  induction n with
  | zero=>intro i h;simp [feF] at h
  | succ n ih=>
   intro i h;simp only [feF] at h;cases q:f i with
   | some y=>rw [q] at h;cases h;exact ⟨i,by omega,q⟩
   | none=>
    rw [q] at h;obtain ⟨k,h1,h2⟩:=ih _ h;exact ⟨k,by omega,h2⟩
 intro i h;unfold fe at h;obtain ⟨k,h1,h2⟩:=key _ _ h;by_cases hi:i<=N
 ·exact ⟨k,by omega,h2⟩
 ·rw [show N - i=0 by omega] at h;simp [feF] at h
def IsB (x:Option Rt):Prop:=∃b,x=some (.val (.bool b))
@[simp] theorem qajt (b:Bool):IsB (some (.val (.bool b))):=⟨b,rfl⟩
theorem qgl {Φ:FuncId->Option AFun} {β:Type} {fin:Option (Ex×St)->Option β} {h:AH} (N:Nat) (Inv:Nat->Env->Prop) (Q:Option β->Prop) {b:ACode} {K:List Fr}
  (step:∀i e L,i<N->(∀j s,go Φ fin L (.exit j) s=go Φ fin K (.exit j) s)->Inv i e->(∀e',Inv (i+1) e'->Q (go Φ fin L .normal ⟨e',h⟩))->Q (go Φ fin (.c b::L) .normal ⟨e,h⟩))
  (last:∀e L,(∀j s,go Φ fin L (.exit j) s=go Φ fin K (.exit j) s)->Inv N e->Q (go Φ fin (.c b::L) .normal ⟨e,h⟩)):
  ∀i e,i<=N->Inv i e->Q (go Φ fin (.c (.loop b)::K) .normal ⟨e,h⟩):=by
 intro i e hi hv;refine qj8 N (fun i e H=>H=h/\Inv i e) Q ?_ ?_ i e h hi ⟨rfl,hv⟩
 ·rintro i e _ L hi hL ⟨rfl,hv⟩ ih;exact step i e L hi hL hv fun e' hv'=>ih e' _ ⟨rfl,hv'⟩
 ·rintro e _ L hL ⟨rfl,hv⟩;exact last e L hL hv
end Go.Av
