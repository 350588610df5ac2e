/-
 Nesting and number of control nodes: the program's answers.
-/
import Derived.Test.YtakklbipljodeaaGreatK13
set_option linter.unusedVariables false
set_option linter.unusedSimpArgs false
set_option linter.constructorNameAsVariable false
namespace Go.Av
set_option maxRecDepth 4000
theorem qee:∀a b:List ControlNode,pre (a++b)=pre a++pre b
 | [],b=>by simp [pre]
 | x::a,b=>by simp [pre,qee a b]
theorem qif {l:List ControlNode} {i:Nat} (hi:i<l.length):pre (l.take (i+1))=pre (l.take i)++pre1 l[i]:=by
 rw [List.take_succ_eq_append_getElem hi,qee];simp [pre]
theorem qem (k t:Int) (c:List ExprNode) (a b:List ControlNode):pre1 (.mk k t c a b)= .mk k t c a b::(pre a++pre b):=by simp [pre1]
theorem qaah (x:ControlNode):1≤(pre1 x).length:=by
 cases x;rw [qem];simp
theorem qd9:∀l:List ControlNode,l.length≤(pre l).length
 | []=>by simp
 | x::r=>by
  have:=qd9 r;have:=qaah x;simp [pre];omega
theorem qpd {l:List ControlNode} {i:Nat} (hi:i<l.length):(pre1 l[i]).length≤(pre l).length:=by
 have h:pre l=pre (l.take i)++(pre1 l[i]++pre (l.drop (i+1))):=by
  conv=>lhs;rw [← List.take_append_drop i l,qee,List.drop_eq_getElem_cons hi]
  simp [pre]
 rw [h];simp;omega
def qc7 (l:List ControlNode):Nat:=match l with
 | []=>0
 | x::r=>max (qg4 x) (qc7 r)
theorem qo8:∀l:List ControlNode,l≠[]→nest l=qc7 l+1
 | [],h=>absurd rfl h
 | [x],_=>by simp [nest,qc7];omega
 | x::y::r,_=>by
  have:=qo8 (y::r) (by simp);rw [nest,qc7,this];omega
theorem qlc:∀a b:List ControlNode,qc7 (a++b)=max (qc7 a) (qc7 b)
 | [],b=>by simp [qc7]
 | x::a,b=>by rw [List.cons_append,qc7,qlc a b,qc7];omega
theorem qvv {l:List ControlNode} {i:Nat} (hi:i<l.length):qc7 (l.take (i+1))=max (qc7 (l.take i)) (qg4 l[i]):=by
 rw [List.take_succ_eq_append_getElem hi,qlc];simp [qc7]
theorem qm6 (k t:Int) (c:List ExprNode) (a b:List ControlNode):qg4 (.mk k t c a b)=max (nest a) (nest b):=by simp [qg4]
mutual
theorem qz5:∀x:ControlNode,qg4 x<(pre1 x).length
 | .mk k t c a b=>by
  have h1:=qh5 a;have h2:=qh5 b;rw [qm6,qem];simp;omega
theorem qh5:∀l:List ControlNode,nest l≤(pre l).length
 | []=>by simp [nest]
 | x::r=>by
  have h1:=qz5 x;have h2:=qh5 r;rw [nest,pre];simp;omega
end
theorem qz6 (l:List ControlNode):qc7 l≤(pre l).length:=by
 cases l with
 | nil=>simp [qc7]
 | cons x r=>have:=qo8 (x::r) (by simp);have:=qh5 (x::r);omega
theorem qc3 (x:ControlNode):∃k t c a b,x= .mk k t c a b:=by
 cases x with
 | mk k t c a b=>exact ⟨k,t,c,a,b,rfl⟩
theorem qo9:∀(n:Nat) (l:List ControlNode),SizeOf.sizeOf l≤n→(pre l).length<2^40→qab Φ f_300 [.slice 5 (l.map ControlNode.c)]=some (.val (.int .i64 (nest l:Nat)))
 | 0,l,h,hb=>by cases l<;>simp at h
 | n+1,l,h,hb=>by
  rw [qaa (fn:=c_300) rfl rfl];have hll:=qd9 l;by_cases z:l.length=0
  ·have:l=[]:=List.eq_nil_of_length_eq_zero z;subst this;simp [c_300,nest]
  have hne:l≠[]:=by intro h;subst h;simp at z
  rw [qo8 l hne];simp [c_300,z];refine qaw l.length (fun _=>[]) 0 (fun i e=>look 3 e=some (.int .i64 (qc7 (l.take i):Nat))∧look 9 e=some (.slice 5 (l.map ControlNode.c))∧look 10 e=some (.int .i64 l.length)∧look 11 e=some (.int .i64 i))
   (fun i=>some (Rt.val (.int .i64 ((qc7 l:Nat)+1)))) ?_ ?_ 0 _ 0 (Nat.zero_le _) (Nat.le_refl _) ?_
  ·rintro i e m L hi hL _ ⟨h3,h9,h10,h11⟩ ih;have hw:IntKind.wrap .i64 ((i:Int)+1)=((i+1:Nat):Int):=qac (by omega) (by omega);obtain ⟨k,t,c,a,b,hx⟩:=qc3 l[i];have hm:l[i]∈l:=List.getElem_mem hi;have hs:SizeOf.sizeOf l[i]<SizeOf.sizeOf l:=List.sizeOf_lt_of_mem hm;have hp:=qpd hi;rw [hx] at hs hp;rw [qem] at hp;simp at hs hp;have i1:=qo9 n a (by omega) (by omega);have i2:=qo9 n b (by omega) (by omega);have hM:=qvv hi;rw [hx,qm6] at hM;simp [c_300_l0,h3,h9,h10,h11,hi,hw,hx,ControlNode.e,i1,i2];refine ih _ _ (Nat.zero_le _) ⟨?_,by simp [h9],by simp [h10],by simp⟩;simp [hM];split<;>split<;>omega
  ·rintro e m L hL _ ⟨h3,h9,h10,h11⟩;rw [List.take_length] at h3;have:=qz6 l;have hw:IntKind.wrap .i64 ((qc7 l:Int)+1)=(qc7 l:Int)+1:=qac (by omega) (by omega);simp [c_300_l0,c_300_k1,h3,h10,h11,hL,hw]
  ·simp [qc7]
theorem qj9 {Φ:FuncId→Option AFun} {β:Type} {fin:Option (Ex×St)→Option β} (N:Nat) (Inv:Nat→Env→AH→Prop) (Q:Option β→Prop) {b:ACode} {K:List Fr}
  (step:∀i e h L,i<N→(∀j s,go Φ fin L (.exit j) s=go Φ fin K (.exit j) s)→Inv i e h→(∀e' h',Inv (i+1) e' h'→Q (go Φ fin L .normal ⟨e',h'⟩))→Q (go Φ fin (.c b::L) .normal ⟨e,h⟩))
  (last:∀e h L,(∀j s,go Φ fin L (.exit j) s=go Φ fin K (.exit j) s)→Inv N e h→Q (go Φ fin (.c b::L) .normal ⟨e,h⟩)):
  ∀i e h,i≤N→Inv i e h→Q (go Φ fin (.c (.loop b)::K) .normal ⟨e,h⟩):=by
 have key:∀n i e h,N - i≤n→i≤N→Inv i e h→Q (go Φ fin (.c (.loop b)::K) .normal ⟨e,h⟩):=by
  intro n
  induction n with
  | zero=>
   intro i e h hn hi hv;have:i=N:=by omega
   subst this;rw [qay];exact last e h _ (fun j s=>by simp) hv
  | succ n ih=>
   intro i e h hn hi hv;rcases Nat.lt_or_ge i N with hlt | hge
   ·rw [qay];exact step i e h _ hlt (fun j s=>by simp) hv fun e' h' hv'=>ih (i+1) e' h' (by omega) (by omega) hv'
   ·have:i=N:=by omega
    subst this;rw [qay];exact last e h _ (fun j s=>by simp) hv
 intro i e h hi hv;exact key (N - i) i e h (Nat.le_refl _) hi hv
def cntF:AV:= .func (.func f_336) [] [.ptr 0 1 0 0]
def cntH (c:Int) (m:Nat):AH:=⟨[(0,.row 1 [[.int .i64 c]])],m⟩
theorem qxa (k t:Int) (cd:List ExprNode) (a b:List ControlNode) (c:Int) (m:Nat) (hc:0≤c∧c<2^60):qak Φ f_336 [.agg (ControlNode.c (.mk k t cd a b)),.ptr 0 1 0 0] (cntH c m)=some (.val (.bool true),cntH (c+1) m):=by
 rw [qbs (fn:=c_336) rfl rfl];have hw:IntKind.wrap .i64 (c+1)=c+1:=qac (by omega) (by omega);simp [c_336,cntH,ControlNode.e,hw]
theorem qpb:∀(n:Nat) (l:List ControlNode) (c:Int) (m:Nat),1≤m→SizeOf.sizeOf l≤n→0≤c→c+(pre l).length<2^60→(pre l).length<2^40→
  ∃m',m≤m'∧qak Φ f_301 [.slice 5 (l.map ControlNode.c),cntF] (cntH c m)=some (.val (.bool true),cntH (c+(pre l).length) m')
 | 0,l,c,m,_,h,_,_,_=>by cases l<;>simp at h
 | n+1,l,c,m,h1m,h,hc0,hb,hl=>by
  rw [qbs (fn:=c_301) rfl rfl];have hll:=qd9 l;simp [c_301,cntF];refine qj9 l.length (fun i e H=>look 1 e=some cntF∧look 7 e=some (.slice 5 (l.map ControlNode.c))∧look 8 e=some (.int .i64 l.length)∧look 9 e=some (.int .i64 i)∧∃m1,m≤m1∧H=cntH (c+(pre (l.take i)).length) m1)
   (fun r=>∃m',m≤m'∧r=some (Rt.val (.bool true),cntH (c+(pre l).length) m')) ?_ ?_ 0 _ _ (Nat.zero_le _) ?_
  ·rintro i e _ L hi hL ⟨h1,h7,h8,h9,m1,hm1,rfl⟩ ih;have hw:IntKind.wrap .i64 ((i:Int)+1)=((i+1:Nat):Int):=qac (by omega) (by omega);obtain ⟨k,t,cd,a,b,hx⟩:=qc3 l[i];have hm:l[i]∈l:=List.getElem_mem hi;have hs:SizeOf.sizeOf l[i]<SizeOf.sizeOf l:=List.sizeOf_lt_of_mem hm;have hp:=qpd hi;have ht:=qif hi;have htl:(pre (l.take (i+1))).length≤(pre l).length:=by
    have:pre l=pre (l.take (i+1))++pre (l.drop (i+1)):=by rw [← qee,List.take_append_drop]
    rw [this];simp
   rw [hx] at hs hp ht;rw [qem] at hp ht;simp at hs hp;have htl2:=htl;rw [ht] at htl2;simp at htl2;obtain ⟨c',hc'⟩:∃c':Int,c'=c+(pre (l.take i)).length:=⟨_,rfl⟩;rw [← hc'];have e1:=qxa k t cd a b c' (m1+1) (by omega);obtain ⟨m2,hm2,e2⟩:=qpb n a (c'+1) (m1+1) (by omega) (by omega) (by omega) (by omega) (by omega);obtain ⟨m3,hm3,e3⟩:=qpb n b (c'+1+(pre a).length) m2 (by omega) (by omega) (by omega) (by omega) (by omega);simp only [cntH,cntF,ControlNode.e] at e1 e2 e3;have hn0:¬(0=m1):=by omega
   have hn1:¬(m1=0):=by omega
   simp only [cntF] at h1;simp [c_301_l0,h1,h7,h8,h9,hi,hw,hx,ControlNode.e,cntH,hn0,e1,e2,e3];refine ih _ _ ⟨by simp [h1,cntF],by simp [h7],by simp [h8],by simp,m3,by omega,?_⟩;rw [ht,hc'];simp [cntH];omega
  ·rintro e _ L hL ⟨h1,h7,h8,h9,m1,hm1,rfl⟩;rw [List.take_length];refine ⟨m1,hm1,?_⟩;simp [c_301_l0,c_301_k1,h8,h9,hL]
  ·simp [cntF,pre];exact ⟨m,Nat.le_refl _,rfl⟩
theorem qzn (l:List ControlNode) (hl:(pre l).length<2^40):qab Φ f_299 [.slice 5 (l.map ControlNode.c)]=some (.val (.int .i64 (pre l).length)):=by
 rw [qaa (fn:=c_299) rfl rfl];obtain ⟨m',hm,e⟩:=qpb _ l 0 1 (Nat.le_refl _) (Nat.le_refl _) (by omega) (by omega) hl;simp only [cntH,cntF] at e;simp [c_299,e]
structure Wk where
 e:Int
 n:Int
 us:List Int
def wk1 (p:Prg) (w:Wk) (x:ControlNode):Wk:=if w.e≠0 then w else if qcs p w.us x≠0 then ⟨qcs p w.us x,w.n,w.us⟩ else ⟨0,w.n+1,if appl x then w.us++[x.table] else w.us⟩
def wk (p:Prg) (w:Wk) (l:List ControlNode):Wk:=l.foldl (wk1 p) w
theorem qho (p:Prg) (w:Wk) (a b:List ControlNode):wk p w (a++b)=wk p (wk p w a) b:=by simp [wk]
theorem qf3 (p:Prg) (w:Wk) (h:w.e≠0):∀l,wk p w l=w
 | []=>rfl
 | x::l=>by
  have:wk1 p w x=w:=by simp [wk1,h]
  show wk p (wk1 p w x) l=w;rw [this];exact qf3 p w h l
theorem wk_n (p:Prg):∀(l:List ControlNode) (w:Wk),w.n≤(wk p w l).n∧(wk p w l).n≤w.n+l.length∧(wk p w l).us.length≤w.us.length+l.length
 | [],w=>by simp [wk]
 | x::l,w=>by
  have h:=wk_n p l (wk1 p w x);show w.n≤(wk p (wk1 p w x) l).n∧(wk p (wk1 p w x) l).n≤w.n+(x::l).length∧(wk p (wk1 p w x) l).us.length≤w.us.length+(x::l).length;have h1:w.n≤(wk1 p w x).n∧(wk1 p w x).n≤w.n+1∧(wk1 p w x).us.length≤w.us.length+1:=by
   unfold wk1;split
   ·simp;omega
   split
   ·simp;omega
   ·refine ⟨by simp;omega,by simp,?_⟩;simp only;split<;>simp
  simp only [List.length_cons];omega
def chkF (p:Prg):AV:= .func (.func f_302) [] [.iptr 9 [Prg.c p] 0 0,.ptr 2 1 0 0,.ptr 0 1 0 0,.ptr 1 1 0 0]
def ChkH (w:Wk) (m:Nat) (H:AH):Prop:=3≤m∧((w.us=[]∧H=⟨[(0,.row 1 [[.int .i64 w.e]]),(1,.row 1 [[.int .i64 w.n]]),(2,.row 1 [[.fslice 1 []]])],m⟩)∨
 ∃q,3≤q∧q<m∧H=⟨[(0,.row 1 [[.int .i64 w.e]]),(1,.row 1 [[.int .i64 w.n]]),(2,.row 1 [[.app 1 (w.us.map cI) q]]),(q,.tok 1 w.us.length)],m⟩)
theorem qw4 (p:Prg) (k t:Int) (cd:List ExprNode) (a b:List ControlNode) (w:Wk) (m:Nat) (H:AH) (hH:ChkH w m H) (he:w.e=0) (hn:0≤w.n∧w.n<2^60) (hu:w.us.length<2^40 - 1) (ha:a.length<2^40) (hb:b.length<2^40):
  ∃m' H',m≤m'∧ChkH (wk1 p w (.mk k t cd a b)) m' H'∧qak Φ f_302 [.agg (ControlNode.c (.mk k t cd a b)),.iptr 9 [Prg.c p] 0 0,.ptr 2 1 0 0,.ptr 0 1 0 0,.ptr 1 1 0 0] H=some (.val (.bool (decide ((wk1 p w (.mk k t cd a b)).e=0))),H'):=by
 have hw:IntKind.wrap .i64 (w.n+1)=w.n+1:=qac (by omega) (by omega);have hU:=qz7 p k t cd a b w.us ha hb (by omega);have hA:=qu1 k t cd a b;simp only [Prg.e,ControlNode.e] at hU hA;obtain ⟨h3,⟨hus,rfl⟩ | ⟨q,hq,hqm,rfl⟩⟩:=hH
 ·rw [qbs (fn:=c_302) rfl rfl];rw [hus] at hU;simp only [List.map_nil] at hU;by_cases z:qcs p [] (.mk k t cd a b)=0
  ·rw [z] at hU;cases qa:appl (.mk k t cd a b) with
   | true=>
    rw [qa] at hA;have hn0:¬(0=m):=by omega
    have hn1:¬(1=m):=by omega
    have hn2:¬(2=m):=by omega
    have hn0':¬(m=0):=by omega
    have hn1':¬(m=1):=by omega
    have hn2':¬(m=2):=by omega
    refine ⟨m+1,⟨[(0,.row 1 [[.int .i64 0]]),(1,.row 1 [[.int .i64 (w.n+1)]]),(2,.row 1 [[.app 1 [[.int .i64 t]] m]]),(m,.tok 1 1)],m+1⟩,Nat.le_succ _,⟨by omega,.inr ⟨m,h3,by omega,by simp [wk1,he,hus,z,qa,cI]⟩⟩,?_⟩;simp [c_302,ControlNode.e,Prg.e,hU,wk1,he,hus,z,qa,hA,hw,hn0,hn1,hn2]
   | false=>
    rw [qa] at hA;refine ⟨m,⟨[(0,.row 1 [[.int .i64 0]]),(1,.row 1 [[.int .i64 (w.n+1)]]),(2,.row 1 [[.fslice 1 []]])],m⟩,Nat.le_refl _,⟨by omega,.inl ⟨by simp [wk1,he,hus,z,qa],by simp [wk1,he,hus,z,qa]⟩⟩,?_⟩;simp [c_302,ControlNode.e,Prg.e,hU,wk1,he,hus,z,qa,hA,hw]
  ·refine ⟨m,⟨[(0,.row 1 [[.int .i64 (qcs p [] (.mk k t cd a b))]]),(1,.row 1 [[.int .i64 w.n]]),(2,.row 1 [[.fslice 1 []]])],m⟩,Nat.le_refl _,⟨by omega,.inl ⟨by simp [wk1,he,hus,z],by simp [wk1,he,hus,z]⟩⟩,?_⟩;simp [c_302,ControlNode.e,Prg.e,hU,wk1,he,hus,z]
 ·rw [qbs (fn:=c_302) rfl rfl];have q0:¬(0=q):=by omega
  have q1:¬(1=q):=by omega
  have q2:¬(2=q):=by omega
  have q0':¬(q=0):=by omega
  have q1':¬(q=1):=by omega
  have q2':¬(q=2):=by omega
  have hbb:(w.us.length+1)*8≤70368744177664:=by omega
  by_cases z:qcs p w.us (.mk k t cd a b)=0
  ·rw [z] at hU;cases qa:appl (.mk k t cd a b) with
   | true=>
    rw [qa] at hA;refine ⟨m,⟨[(0,.row 1 [[.int .i64 0]]),(1,.row 1 [[.int .i64 (w.n+1)]]),(2,.row 1 [[.app 1 ((w.us++[t]).map cI) q]]),(q,.tok 1 (w.us.length+1))],m⟩,Nat.le_refl _,⟨by omega,.inr ⟨q,hq,hqm,by simp [wk1,he,z,qa]⟩⟩,?_⟩;simp [c_302,ControlNode.e,Prg.e,hU,wk1,he,z,qa,hA,hw,q0,q1,q2,hbb,cI]
   | false=>
    rw [qa] at hA;refine ⟨m,⟨[(0,.row 1 [[.int .i64 0]]),(1,.row 1 [[.int .i64 (w.n+1)]]),(2,.row 1 [[.app 1 (w.us.map cI) q]]),(q,.tok 1 w.us.length)],m⟩,Nat.le_refl _,⟨by omega,.inr ⟨q,hq,hqm,by simp [wk1,he,z,qa]⟩⟩,?_⟩;simp [c_302,ControlNode.e,Prg.e,hU,wk1,he,z,qa,hA,hw]
  ·refine ⟨m,⟨[(0,.row 1 [[.int .i64 (qcs p w.us (.mk k t cd a b))]]),(1,.row 1 [[.int .i64 w.n]]),(2,.row 1 [[.app 1 (w.us.map cI) q]]),(q,.tok 1 w.us.length)],m⟩,Nat.le_refl _,⟨by omega,.inr ⟨q,hq,hqm,by simp [wk1,he,z]⟩⟩,?_⟩;simp [c_302,ControlNode.e,Prg.e,hU,wk1,he,z]
theorem qmu {w:Wk} {m:Nat} {H:AH} (h:ChkH w m H):∃O,H=⟨O,m⟩∧look m O=none∧∀m',m≤m'→ChkH w m' ⟨O,m'⟩:=by
 obtain ⟨h3,⟨hus,rfl⟩ | ⟨q,hq,hqm,rfl⟩⟩:=h
 ·refine ⟨_,rfl,?_,fun m' hm=>⟨by omega,.inl ⟨hus,rfl⟩⟩⟩;have a0:¬(0=m):=by omega
  have a1:¬(1=m):=by omega
  have a2:¬(2=m):=by omega
  simp [a0,a1,a2]
 ·refine ⟨_,rfl,?_,fun m' hm=>⟨by omega,.inr ⟨q,hq,by omega,rfl⟩⟩⟩;have a0:¬(0=m):=by omega
  have a1:¬(1=m):=by omega
  have a2:¬(2=m):=by omega
  have a3:¬(q=m):=by omega
  simp [a0,a1,a2,a3]
def PK (p:Prg) (l:List ControlNode) (w:Wk) (m:Nat) (r:Option (Rt×AH)):Prop:=∃m' H',m≤m'∧ChkH (wk p w (pre l)) m' H'∧r=some (.val (.bool (decide ((wk p w (pre l)).e=0))),H')
theorem qpc (p:Prg):∀(n:Nat) (l:List ControlNode) (w:Wk) (m:Nat) (H:AH),ChkH w m H→w.e=0→SizeOf.sizeOf l≤n→0≤w.n→w.n+(pre l).length<2^60→w.us.length+(pre l).length<2^40 - 1→
  ∃m' H',m≤m'∧ChkH (wk p w (pre l)) m' H'∧qak Φ f_301 [.slice 5 (l.map ControlNode.c),chkF p] H=some (.val (.bool (decide ((wk p w (pre l)).e=0))),H')
 | 0,l,w,m,H,_,_,h,_,_,_=>by cases l<;>simp at h
 | n+1,l,w,m,H,hH,he,h,hn0,hn1,hu=>by
  have hll:=qd9 l;obtain ⟨O,rfl,hO,hup⟩:=qmu hH;have goal:PK p l w m (go Φ (finC c_301.results) [.c c_301.body] .normal ⟨qbw 0 [.slice 5 (l.map ControlNode.c),chkF p],⟨O,m⟩⟩):=by
   simp [c_301,chkF];refine qj9 l.length (fun i e H=>look 1 e=some (chkF p)∧look 7 e=some (.slice 5 (l.map ControlNode.c))∧look 8 e=some (.int .i64 l.length)∧look 9 e=some (.int .i64 i)∧(wk p w (pre (l.take i))).e=0∧∃m1,m≤m1∧ChkH (wk p w (pre (l.take i))) m1 H)
    (PK p l w m) ?_ ?_ 0 _ _ (Nat.zero_le _) ?_
   ·rintro i e H1 L hi hL ⟨h1,h7,h8,h9,hw0,m1,hm1,hH1⟩ ih;have hw:IntKind.wrap .i64 ((i:Int)+1)=((i+1:Nat):Int):=qac (by omega) (by omega);obtain ⟨k,t,cd,a,b,hx⟩:=qc3 l[i];have hm:l[i]∈l:=List.getElem_mem hi;have hs:SizeOf.sizeOf l[i]<SizeOf.sizeOf l:=List.sizeOf_lt_of_mem hm;have ht:=qif hi;have hpl:pre l=pre (l.take (i+1))++pre (l.drop (i+1)):=by rw [← qee,List.take_append_drop]
    have htl:(pre (l.take (i+1))).length≤(pre l).length:=by rw [hpl];simp
    rw [hx] at hs ht;rw [qem] at ht;simp at hs;have htl2:=htl;rw [ht] at htl2;simp at htl2;obtain ⟨O1,rfl,hO1,hup1⟩:=qmu hH1;have r1:=wk_n p (pre (l.take i)) w;have al:=qd9 a;have bl:=qd9 b;have e2:wk p w (pre (l.take (i+1)))=wk p (wk p (wk1 p (wk p w (pre (l.take i))) (.mk k t cd a b)) (pre a)) (pre b):=by
     rw [ht,qho];show wk p (wk1 p (wk p w (pre (l.take i))) (.mk k t cd a b)) (pre a++pre b)=_;rw [qho]
    generalize hW:wk p w (pre (l.take i))=W at*;obtain ⟨m2,H2,hm2,hH2,c1⟩:=qw4 p k t cd a b W (m1+1) _ (hup1 (m1+1) (by omega)) hw0 ⟨by omega,by omega⟩ (by omega) (by omega) (by omega);have r2:(wk1 p W (.mk k t cd a b)).n≤W.n+1∧(wk1 p W (.mk k t cd a b)).us.length≤W.us.length+1∧W.n≤(wk1 p W (.mk k t cd a b)).n:=by
     have:=wk_n p [.mk k t cd a b] W;simp [wk] at this;omega
    simp only [ControlNode.e,Prg.e] at c1;simp only [chkF,Prg.e] at h1;by_cases y1:(wk1 p W (.mk k t cd a b)).e=0
    rotate_left
    ·-- the node is bad
     have e3:wk p w (pre l)=wk1 p W (.mk k t cd a b):=by
      rw [hpl,qho,e2,qf3 p _ y1,qf3 p _ y1,qf3 p _ y1]
     refine ⟨m2,H2,by omega,by rw [e3];exact hH2,?_⟩;simp [c_301_l0,h1,h7,h8,h9,hi,hx,ControlNode.e,hO1,c1,y1,e3]
    obtain ⟨m3,H3,hm3,hH3,c2⟩:=qpc p n a _ m2 H2 hH2 y1 (by omega) (by omega) (by omega) (by omega);have r3:=wk_n p (pre a) (wk1 p W (.mk k t cd a b));simp only [chkF,Prg.e] at c2;generalize hW2:wk p (wk1 p W (.mk k t cd a b)) (pre a)=W2 at*;by_cases y2:W2.e=0
    rotate_left
    ·have e3:wk p w (pre l)=W2:=by
      rw [hpl,qho,e2,qf3 p _ y2,qf3 p _ y2]
     refine ⟨m3,H3,by omega,by rw [e3];exact hH3,?_⟩;simp [c_301_l0,h1,h7,h8,h9,hi,hx,ControlNode.e,hO1,c1,c2,y1,y2,e3]
    obtain ⟨m4,H4,hm4,hH4,c3⟩:=qpc p n b _ m3 H3 hH3 y2 (by omega) (by omega) (by omega) (by omega);simp only [chkF,Prg.e] at c3;generalize hW3:wk p W2 (pre b)=W3 at*;by_cases y3:W3.e=0
    rotate_left
    ·have e3:wk p w (pre l)=W3:=by
      rw [hpl,qho,e2,qf3 p _ y3]
     refine ⟨m4,H4,by omega,by rw [e3];exact hH4,?_⟩;simp [c_301_l0,h1,h7,h8,h9,hi,hx,ControlNode.e,hO1,c1,c2,c3,y1,y2,y3,e3]
    simp [c_301_l0,h1,h7,h8,h9,hi,hx,ControlNode.e,hO1,c1,c2,c3,y1,y2,y3,hw];exact ih _ _ ⟨by simp [h1,chkF,Prg.e],by simp [h7],by simp [h8],by simp,by rw [e2];exact y3,m4,by omega,by rw [e2];exact hH4⟩
   ·rintro e H1 L hL ⟨h1,h7,h8,h9,hw0,m1,hm1,hH1⟩;rw [List.take_length] at hw0 hH1;obtain ⟨O1,rfl,hO1,hup1⟩:=qmu hH1;refine ⟨m1,_,hm1,hH1,?_⟩;simp [c_301_l0,c_301_k1,h8,h9,hL,hw0]
   ·simp [chkF,pre,wk,he];exact ⟨m,Nat.le_refl _,hH⟩
  obtain ⟨m',H',k1,k2,k3⟩:=goal;exact ⟨m',H',k1,k2,by rw [qbs (fn:=c_301) rfl rfl];exact k3⟩
def usOf (l:List ControlNode):List Int:=(l.filter appl).map (·.table)
theorem qq3 (t:Int) (l:List ControlNode):(usOf l).contains t=l.any (fun y=>appl y&&decide (y.table=t)):=by
 unfold usOf;rw [qd6,List.any_filter]
theorem qsd (p:Prg) (l:List ControlNode) (x:ControlNode):qcp p l x=qcs p (usOf l) x:=by
 unfold qcp qcs;rw [qq3]
def ctlG (p:Prg) (l:List ControlNode) (i:Nat):Option (Int×Int):=(l[i]?).bind fun x=>if qcp p (l.take i) x=0 then none else some ((i:Int),qcp p (l.take i) x)
theorem wk_fe (p:Prg) (l:List ControlNode):∀n i,n+i=l.length→((wk p ⟨0,i,usOf (l.take i)⟩ (l.drop i)).e=0∧fe (ctlG p l) l.length i=none)∨
  ((wk p ⟨0,i,usOf (l.take i)⟩ (l.drop i)).e≠0∧fe (ctlG p l) l.length i=some ((wk p ⟨0,i,usOf (l.take i)⟩ (l.drop i)).n,(wk p ⟨0,i,usOf (l.take i)⟩ (l.drop i)).e))
 | 0,i,h=>by
  have:i=l.length:=by omega
  subst this;simp [wk,qa0]
 | n+1,i,h=>by
  have hi:i<l.length:=by omega
  rw [List.drop_eq_getElem_cons hi];show ((wk p (wk1 p ⟨0,i,usOf (l.take i)⟩ l[i]) (l.drop (i+1))).e=0∧_)∨((wk p (wk1 p ⟨0,i,usOf (l.take i)⟩ l[i]) (l.drop (i+1))).e≠0∧fe (ctlG p l) l.length i=some ((wk p (wk1 p ⟨0,i,usOf (l.take i)⟩ l[i]) (l.drop (i+1))).n,(wk p (wk1 p ⟨0,i,usOf (l.take i)⟩ l[i]) (l.drop (i+1))).e));by_cases z:qcs p (usOf (l.take i)) l[i]=0
  ·have e1:wk1 p ⟨0,i,usOf (l.take i)⟩ l[i]=⟨0,((i+1:Nat):Int),usOf (l.take (i+1))⟩:=by
    have hu:usOf (l.take (i+1))=if appl l[i] then usOf (l.take i)++[l[i].table] else usOf (l.take i):=by
     rw [List.take_succ_eq_append_getElem hi];unfold usOf;rw [List.filter_append,List.map_append];cases q:appl l[i]<;>simp [q]
    rw [hu];simp [wk1,z]
   rw [e1,qap hi (by simp [ctlG,hi,qsd,z])];exact wk_fe p l n (i+1) (by omega)
  ·have e1:wk1 p ⟨0,i,usOf (l.take i)⟩ l[i]=⟨qcs p (usOf (l.take i)) l[i],i,usOf (l.take i)⟩:=by simp [wk1,z]
   rw [e1,qf3 p _ z];refine .inr ⟨z,?_⟩;rw [qai hi (by simp only [ctlG,List.getElem?_eq_getElem hi,Option.bind_some,qsd];rw [if_neg z])]
theorem qacq (p:Prg) (hl:(pre p.control).length<2^40 - 1):qab Φ f_246 [.agg (Prg.c p)]=some (.val (.tup [.int .i64 (ctlE p).1,.int .i64 (ctlE p).2])):=by
 rw [qaa (fn:=c_246) rfl rfl];have hc:=qzn p.control (by omega);have hn:=qo9 _ p.control (Nat.le_refl _) (by omega);by_cases z1:24<(pre p.control).length
 ·simp [c_246,Prg.e,hc,ctlE,z1]
 by_cases z2:6<nest p.control
 ·simp [c_246,Prg.e,hc,hn,ctlE,z1,z2]
 have hE:ctlE p=(fe (ctlG p (pre p.control)) (pre p.control).length 0).getD (0,0):=by unfold ctlE;rw [if_neg z1,if_neg z2];rfl
 obtain ⟨m',H',hm',hH',hp⟩:=qpc p _ p.control ⟨0,0,[]⟩ 3 ⟨[(0,.row 1 [[.int .i64 0]]),(1,.row 1 [[.int .i64 0]]),(2,.row 1 [[.fslice 1 []]])],3⟩ ⟨by omega,.inl ⟨rfl,rfl⟩⟩ rfl (Nat.le_refl _) (by simp) (by simp;omega) (by simp;omega);have hf:=wk_fe p (pre p.control) (pre p.control).length 0 (by omega);simp only [List.take_zero,List.drop_zero,show usOf []=[] from rfl,Int.ofNat_zero] at hf;generalize hW:wk p ⟨0,0,[]⟩ (pre p.control)=W at*;simp only [chkF,Prg.e] at hp;rw [hE];rcases hf with ⟨y,hf⟩ | ⟨y,hf⟩
 ·rw [hf];obtain ⟨h3,⟨hus,rfl⟩ | ⟨q,hq,hqm,rfl⟩⟩:=hH'
  ·simp [y] at hp;simp [c_246,Prg.e,hc,hn,z1,z2,hp]
  ·simp [y] at hp;simp [c_246,Prg.e,hc,hn,z1,z2,hp]
 ·rw [hf];obtain ⟨h3,⟨hus,rfl⟩ | ⟨q,hq,hqm,rfl⟩⟩:=hH'
  ·simp [y] at hp;simp [c_246,Prg.e,hc,hn,z1,z2,hp,y]
  ·simp [y] at hp;simp [c_246,Prg.e,hc,hn,z1,z2,hp,y]
def metG (p:Prg) (i:Nat):Option Dg:=(p.metadata[i]?).bind fun f=>if fldE p.metadata i f=0 then none else some (fldE p.metadata i f,(2:Int),(i:Int),(0:Int))
def metH (p:Prg) (i:Nat):Option Dg:=if p.metadata[i]? =some (qc6 i) then none else some (5,2,(i:Int),0)
theorem qo5 (p:Prg):metD p=if 12<p.metadata.length then some (12,2,0,0) else (fe (metG p) p.metadata.length 0).or (fe (metH p) 3 0):=by
 unfold metD;show (if _ then _ else (match fe (metG p) p.metadata.length 0 with | some d=>some d | none=>fe (metH p) 3 0))=_;cases fe (metG p) p.metadata.length 0<;>rfl
theorem Fld.eq_iff (a b:Fld):a=b↔a.name=b.name∧a.width=b.width:=Fld.ext_iff
theorem qadl (p:Prg) (e:Env) (n:Nat) (h1:look 1 e=some (.iptr 9 [Prg.c p] 0 0)):go Φ (finP []) [.c c_147_k2] .normal ⟨e,⟨[],n⟩⟩=some (rtD (fe (metH p) 3 0)):=by
 rw [Prg.e] at h1;simp [c_147_k2];rw [qay];by_cases l0:p.metadata.length≤0
 ·rw [qai (x:=(5,2,0,0)) (by omega) (by unfold metH;rw [List.getElem?_eq_none l0];rfl)];have hnil:p.metadata=[]:=List.eq_nil_of_length_eq_zero (by omega);simp [c_147_l1,h1,hnil,qa8,qav,rtD]
 have k0:0<p.metadata.length:=by omega
 have hne:¬p.metadata=[]:=by intro h;rw [h] at k0;simp at k0
 by_cases a0:p.metadata[0].name=[105,110]
 rotate_left
 ·rw [qai (x:=(5,2,0,0)) (by omega) (by unfold metH;rw [List.getElem?_eq_getElem k0,if_neg (by simp [qc6,Fld.eq_iff,a0])];rfl)];simp [c_147_l1,Fld.e,h1,hne,k0,a0,qa8,qav,rtD]
 by_cases b0:p.metadata[0].width=8
 rotate_left
 ·rw [qai (x:=(5,2,0,0)) (by omega) (by unfold metH;rw [List.getElem?_eq_getElem k0,if_neg (by simp [qc6,Fld.eq_iff,b0])];rfl)];simp [c_147_l1,Fld.e,h1,hne,k0,a0,b0,qa8,qav,rtD]
 rw [qap (by omega) (by unfold metH;rw [List.getElem?_eq_getElem k0,if_pos (by simp [qc6,Fld.eq_iff,a0,b0])])];simp [c_147_l1,Fld.e,h1,hne,k0,a0,b0,qa8,qaz,wr1];rw [qay];by_cases l1:p.metadata.length≤1
 ·rw [qai (x:=(5,2,1,0)) (by omega) (by unfold metH;rw [List.getElem?_eq_none l1];rfl)];simp [h1,l1,qa8,qav,rtD]
 have k1:1<p.metadata.length:=by omega
 by_cases a1:p.metadata[1].name=[111,117,116]
 rotate_left
 ·rw [qai (x:=(5,2,1,0)) (by omega) (by unfold metH;rw [List.getElem?_eq_getElem k1,if_neg (by simp [qc6,Fld.eq_iff,a1])];rfl)];simp [Fld.e,h1,l1,k1,a1,qa8,qav,rtD]
 by_cases b1:p.metadata[1].width=8
 rotate_left
 ·rw [qai (x:=(5,2,1,0)) (by omega) (by unfold metH;rw [List.getElem?_eq_getElem k1,if_neg (by simp [qc6,Fld.eq_iff,b1])];rfl)];simp [Fld.e,h1,l1,k1,a1,b1,qa8,qav,rtD]
 rw [qap (by omega) (by unfold metH;rw [List.getElem?_eq_getElem k1,if_pos (by simp [qc6,Fld.eq_iff,a1,b1])])];simp [Fld.e,h1,l1,k1,a1,b1,qa8,qaz,wr2];rw [qay];by_cases l2:p.metadata.length≤2
 ·rw [qai (x:=(5,2,2,0)) (by omega) (by unfold metH;rw [List.getElem?_eq_none l2];rfl)];simp [h1,l2,qa8,qav,rtD]
 have k2:2<p.metadata.length:=by omega
 by_cases a2:p.metadata[2].name=[100,114,111,112]
 rotate_left
 ·rw [qai (x:=(5,2,2,0)) (by omega) (by unfold metH;rw [List.getElem?_eq_getElem k2,if_neg (by simp [qc6,Fld.eq_iff,a2])];rfl)];simp [Fld.e,h1,l2,k2,a2,qa8,qav,rtD]
 by_cases b2:p.metadata[2].width=1
 rotate_left
 ·rw [qai (x:=(5,2,2,0)) (by omega) (by unfold metH;rw [List.getElem?_eq_getElem k2,if_neg (by simp [qc6,Fld.eq_iff,b2])];rfl)];simp [Fld.e,h1,l2,k2,a2,b2,qa8,qav,rtD]
 rw [qap (by omega) (by unfold metH;rw [List.getElem?_eq_getElem k2,if_pos (by simp [qc6,Fld.eq_iff,a2,b2])])];simp [Fld.e,h1,l2,k2,a2,b2,qa8,qaz,wr3];rw [qay,qa0];simp [rtD]
theorem qadk (p:Prg) (f:PrgS p):qab Φ f_147 [.agg (Prg.c p)]=some (rtD (metD p)):=by
 rw [qaa (fn:=c_147) rfl rfl,qo5];by_cases z:12<p.metadata.length
 ·simp [c_147,Prg.e,z,qa8,qav,rtD]
 have e1:=qtw p.metadata f.m;rw [if_neg z];simp [c_147,Prg.e,z,qa8,qaz,e1];refine qaw p.metadata.length (fun _=>[]) 0 (fun i e=>look 1 e=some (.iptr 9 [Prg.c p] 0 0)∧look 2 e=some (.slice 1 (p.metadata.map fun x=>[.str x.name]))∧look 17 e=some (.slice 2 (p.metadata.map Fld.c))∧look 18 e=some (.int .i64 p.metadata.length)∧look 19 e=some (.int .i64 i))
  (fun i=>some (rtD ((fe (metG p) p.metadata.length i).or (fe (metH p) 3 0)))) ?_ ?_ 0 _ 0 (Nat.zero_le _) (Nat.le_refl _) ?_
 ·rintro i e n L hi hL _ ⟨h1,h2,h17,h18,h19⟩ ih;have hlen:=f.m;have hw:IntKind.wrap .i64 ((i:Int)+1)=((i+1:Nat):Int):=qac (by omega) (by omega);have ei:=qkw p.metadata[i].name (f.mn _ (List.getElem_mem hi));have ew:=qop p.metadata[i].width;have er:=qfg Fld.name p.metadata i hi f.m;cases q1:idS p.metadata[i].name with
  | false=>
   rw [q1] at ei;rw [qai (x:=(6,2,(i:Int),0)) hi (by simp [metG,hi,fldE,q1])];simp [c_147_l0,Fld.e,h17,h18,h19,hi,ei,qa8,qav,rtD]
  | true=>
  rw [q1] at ei;cases q2:wBad p.metadata[i].width with
  | true=>
   rw [q2] at ew;rw [qai (x:=(10,2,(i:Int),0)) hi (by simp [metG,hi,fldE,q1,q2])];simp [c_147_l0,Fld.e,h17,h18,h19,hi,ei,ew,qa8,qav,qaz,rtD]
  | false=>
  rw [q2] at ew;cases q3:dupN Fld.name p.metadata i p.metadata[i] with
  | true=>
   rw [q3] at er;rw [qai (x:=(7,2,(i:Int),0)) hi (by simp [metG,hi,fldE,q1,q2,q3])];simp [c_147_l0,Fld.e,h2,h17,h18,h19,hi,ei,ew,er,qa8,qav,qaz,rtD]
  | false=>
   rw [q3] at er;rw [qap hi (by simp [metG,hi,fldE,q1,q2,q3])];simp [c_147_l0,Fld.e,h2,h17,h18,h19,hi,ei,ew,er,qa8,qaz,hw];exact ih _ _ (Nat.zero_le _) ⟨by simp [h1],by simp [h2],by simp [h17],by simp [h18],by simp⟩
 ·rintro e n L hL _ ⟨h1,h2,h17,h18,h19⟩;rw [qa0];simp [c_147_l0,h18,h19,hL];exact qadl p _ _ (by simp [h1])
 ·simp [Prg.e]
end Go.Av
