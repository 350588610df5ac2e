/-
 The control flow: the program's answer.
-/
import Derived.Test.YtjdbnnnakpacjaaGreatK1
set_option linter.unusedVariables false
set_option linter.unusedSimpArgs false
namespace Go.Av
set_option maxRecDepth 4000
structure Wk where
 e:Int
 n:Int
 us:List Int
def wk1 (p:Prg) (w:Wk) (x:Xa):Wk:=if w.e≠0 then w else if lP p w.us x≠0 then ⟨lP p w.us x,w.n,w.us⟩ else ⟨0,w.n+1,if appl x then w.us++[x.table] else w.us⟩
def wk (p:Prg) (w:Wk) (l:List Xa):Wk:=l.foldl (wk1 p) w
variable (p:Prg)
theorem U5 (w:Wk) (a b:List Xa):wk p w (a++b)=wk p (wk p w a) b:=by simp [wk]
theorem M1 (p:Prg) (w:Wk) (h:w.e≠0):∀l,wk p w l=w
 | []=>rfl
 | x::l=>by
  have:wk1 p w x=w:=by simp [wk1,h]
  show wk p (wk1 p w x) l=w;rw [this];exact M1 p w h l
theorem wk_n (p:Prg):∀(l:List Xa) (w:Wk),w.n<=(wk p w l).n/\(wk p w l).n<=w.n+l.length/\(wk p w l).us.length<=w.us.length+l.length
 | [],w=>by simp [wk]
 | x::l,w=>by
  have h:=wk_n p l (wk1 p w x);show w.n<=(wk p (wk1 p w x) l).n/\(wk p (wk1 p w x) l).n<=w.n+(x::l).length/\(wk p (wk1 p w x) l).us.length<=w.us.length+(x::l).length;have h1:w.n<=(wk1 p w x).n/\(wk1 p w x).n<=w.n+1/\(wk1 p w x).us.length<=w.us.length+1:=by
   unfold wk1;split
   ·simp;omega
   split
   ·simp;omega
   ·refine ⟨by simp;omega,by simp,?_⟩;simp only;split<;>simp
  simp only [mH];omega
def chkF (p:Prg):AV:= .func (.func vU) [] [.iptr 9 [Prg.c p] 0 0,.ptr 2 1 0 0,.ptr 0 1 0 0,.ptr 1 1 0 0]
def ChkH (w:Wk) (m:Nat) (H:AH):Prop:=3<=m/\((w.us=[]/\H=⟨[(0,.row 1 [[a8 w.e]]),(1,.row 1 [[a8 w.n]]),(2,.row 1 [[.Xu 1 []]])],m⟩)\/
 ∃q,3<=q/\q<m/\H=⟨[(0,.row 1 [[a8 w.e]]),(1,.row 1 [[a8 w.n]]),(2,.row 1 [[.app 1 (w.us.map cI) q]]),(q,.tok 1 w.us.length)],m⟩)
theorem Ao (k t:Int) (cd:List Xe) (a b:List Xa) (w:Wk) (m:Nat) (H:AH) (hH:ChkH w m H) (he:w.e=0) (hn:0<=w.n/\w.n<2^60) (hu:w.us.length<2^40 - 1) (ha:a.length<2^40) (hb:b.length<2^40):
  ∃m' H',m<=m'/\ChkH (wk1 p w (.mk k t cd a b)) m' H'/\aN Φ vU [.agg (Xa.c (.mk k t cd a b)),.iptr 9 [Prg.c p] 0 0,.ptr 2 1 0 0,.ptr 0 1 0 0,.ptr 1 1 0 0] H=some (.val (.bool (decide ((wk1 p w (.mk k t cd a b)).e=0))),H'):=by
 have hw:IntKind.wrap .i64 (w.n+1)=w.n+1:=bJ (by omega) (by omega);have hU:=Dm p k t cd a b w.us ha hb (by omega);have hA:=qyx k t cd a b;simp only [Prg.e,Xa.e] at hU hA;obtain ⟨h3,⟨hus,rfl⟩ | ⟨q,hq,hqm,rfl⟩⟩:=hH
 ·rw [dW rfl rfl];rw [hus] at hU;simp only [QB] at hU;by_cases z:lP p [] (.mk k t cd a b)=0
  ·rw [z] at hU;cases qa:appl (.mk k t cd a b) with
   | true=>
    rw [qa] at hA;have hn0:¬(0=m):=by omega
    have hn1:¬(1=m):=by omega
    have hn2:¬(2=m):=by omega
    have hn0':¬(m=0):=by omega
    have hn1':¬(m=1):=by omega
    have hn2':¬(m=2):=by omega
    refine ⟨m+1,⟨[(0,.row 1 [[a8 0]]),(1,.row 1 [[a8 (w.n+1)]]),(2,.row 1 [[.app 1 [[a8 t]] m]]),(m,.tok 1 1)],m+1⟩,xT _,⟨by omega,.inr ⟨m,h3,by omega,by simp [wk1,he,hus,z,qa,cI]⟩⟩,?_⟩;simp [lB,Xa.e,Prg.e,hU,wk1,he,hus,z,qa,hA,hw,hn0,hn1,hn2]
   | false=>
    rw [qa] at hA;refine ⟨m,⟨[(0,.row 1 [[a8 0]]),(1,.row 1 [[a8 (w.n+1)]]),(2,.row 1 [[.Xu 1 []]])],m⟩,Qb _,⟨by omega,.inl ⟨by simp [wk1,he,hus,z,qa],by simp [wk1,he,hus,z,qa]⟩⟩,?_⟩;simp [lB,Xa.e,Prg.e,hU,wk1,he,hus,z,qa,hA,hw]
  ·refine ⟨m,⟨[(0,.row 1 [[a8 (lP p [] (.mk k t cd a b))]]),(1,.row 1 [[a8 w.n]]),(2,.row 1 [[.Xu 1 []]])],m⟩,Qb _,⟨by omega,.inl ⟨by simp [wk1,he,hus,z],by simp [wk1,he,hus,z]⟩⟩,?_⟩;simp [lB,Xa.e,Prg.e,hU,wk1,he,hus,z]
 ·rw [dW rfl rfl];have q0:¬(0=q):=by omega
  have q1:¬(1=q):=by omega
  have q2:¬(2=q):=by omega
  have q0':¬(q=0):=by omega
  have q1':¬(q=1):=by omega
  have q2':¬(q=2):=by omega
  have hbb:(w.us.length+1)*8<=70368744177664:=by omega
  by_cases z:lP p w.us (.mk k t cd a b)=0
  ·rw [z] at hU;cases qa:appl (.mk k t cd a b) with
   | true=>
    rw [qa] at hA;refine ⟨m,⟨[(0,.row 1 [[a8 0]]),(1,.row 1 [[a8 (w.n+1)]]),(2,.row 1 [[.app 1 ((w.us++[t]).map cI) q]]),(q,.tok 1 (w.us.length+1))],m⟩,Qb _,⟨by omega,.inr ⟨q,hq,hqm,by simp [wk1,he,z,qa]⟩⟩,?_⟩;simp [lB,Xa.e,Prg.e,hU,wk1,he,z,qa,hA,hw,q0,q1,q2,hbb,cI]
   | false=>
    rw [qa] at hA;refine ⟨m,⟨[(0,.row 1 [[a8 0]]),(1,.row 1 [[a8 (w.n+1)]]),(2,.row 1 [[.app 1 (w.us.map cI) q]]),(q,.tok 1 w.us.length)],m⟩,Qb _,⟨by omega,.inr ⟨q,hq,hqm,by simp [wk1,he,z,qa]⟩⟩,?_⟩;simp [lB,Xa.e,Prg.e,hU,wk1,he,z,qa,hA,hw]
  ·refine ⟨m,⟨[(0,.row 1 [[a8 (lP p w.us (.mk k t cd a b))]]),(1,.row 1 [[a8 w.n]]),(2,.row 1 [[.app 1 (w.us.map cI) q]]),(q,.tok 1 w.us.length)],m⟩,Qb _,⟨by omega,.inr ⟨q,hq,hqm,by simp [wk1,he,z]⟩⟩,?_⟩;simp [lB,Xa.e,Prg.e,hU,wk1,he,z]
theorem Up {w:Wk} {m:Nat} {H:AH} (h:ChkH w m H):∃O,H=⟨O,m⟩/\look m O=none/\∀m',m<=m'->ChkH w m' ⟨O,m'⟩:=by
 obtain ⟨h3,⟨hus,rfl⟩ | ⟨q,hq,hqm,rfl⟩⟩:=h
 ·refine ⟨_,rfl,?_,fun m' hm=>⟨by omega,.inl ⟨hus,rfl⟩⟩⟩;have a0:¬(0=m):=by omega
  have a1:¬(1=m):=by omega
  have a2:¬(2=m):=by omega
  simp [a0,a1,a2]
 ·refine ⟨_,rfl,?_,fun m' hm=>⟨by omega,.inr ⟨q,hq,by omega,rfl⟩⟩⟩;have a0:¬(0=m):=by omega
  have a1:¬(1=m):=by omega
  have a2:¬(2=m):=by omega
  have a3:¬(q=m):=by omega
  simp [a0,a1,a2,a3]
def PK (p:Prg) (l:List Xa) (w:Wk) (m:Nat) (r:Option (Rt×AH)):Prop:=∃m' H',m<=m'/\ChkH (wk p w (pre l)) m' H'/\r=some (.val (.bool (decide ((wk p w (pre l)).e=0))),H')
theorem Wg (p:Prg):∀(n:Nat) (l:List Xa) (w:Wk) (m:Nat) (H:AH),ChkH w m H->w.e=0->SizeOf.sizeOf l<=n->0<=w.n->w.n+(pre l).length<2^60->w.us.length+(pre l).length<2^40 - 1->
  ∃m' H',m<=m'/\ChkH (wk p w (pre l)) m' H'/\aN Φ iG [.slice 5 (l.map Xa.c),chkF p] H=some (.val (.bool (decide ((wk p w (pre l)).e=0))),H')
 | 0,l,w,m,H,_,_,h,_,_,_=>by cases l<;>simp at h
 | n+1,l,w,m,H,hH,he,h,hn0,hn1,hu=>by
  have hll:=EO l;obtain ⟨O,rfl,hO,hup⟩:=Up hH;have goal:PK p l w m (go Φ (finC pZ.results) [.c pZ.body] .normal ⟨fW 0 [.slice 5 (l.map Xa.c),chkF p],⟨O,m⟩⟩):=by
   simp [pZ,chkF];refine Uo l.length (fun i e H=>look 1 e=some (chkF p)/\look 7 e=some (.slice 5 (l.map Xa.c))/\look 8 e=some (a8 l.length)/\look 9 e=some (a8 i)/\(wk p w (pre (l.take i))).e=0/\∃m1,m<=m1/\ChkH (wk p w (pre (l.take i))) m1 H)
    (PK p l w m) ?_ ?_ 0 _ _ (Qc _) ?_
   ·rintro i e H1 L hi hL ⟨h1,h7,h8,h9,hw0,m1,hm1,hH1⟩ ih;have hw:=aL i (by omega);obtain ⟨k,t,cd,a,b,hx⟩:=wQ l[i];have hm:l[i]∈l:=Qd hi;have hs:SizeOf.sizeOf l[i]<SizeOf.sizeOf l:=IK hm;have ht:=UF hi;have hpl:pre l=pre (l.take (i+1))++pre (l.drop (i+1)):=by rw [<- OK,ML]
    have htl:(pre (l.take (i+1))).length<=(pre l).length:=by rw [hpl];simp
    rw [hx] at hs ht;rw [FX] at ht;simp at hs;have htl2:=htl;rw [ht] at htl2;simp at htl2;obtain ⟨O1,rfl,hO1,hup1⟩:=Up hH1;have r1:=wk_n p (pre (l.take i)) w;have al:=EO a;have bl:=EO b;have e2:wk p w (pre (l.take (i+1)))=wk p (wk p (wk1 p (wk p w (pre (l.take i))) (.mk k t cd a b)) (pre a)) (pre b):=by
     rw [ht,U5];show wk p (wk1 p (wk p w (pre (l.take i))) (.mk k t cd a b)) (pre a++pre b)=_;rw [U5]
    generalize hW:wk p w (pre (l.take i))=W at*;obtain ⟨m2,H2,hm2,hH2,c1⟩:=Ao p k t cd a b W (m1+1) _ (hup1 (m1+1) (by omega)) hw0 ⟨by omega,by omega⟩ (by omega) (by omega) (by omega);have r2:(wk1 p W (.mk k t cd a b)).n<=W.n+1/\(wk1 p W (.mk k t cd a b)).us.length<=W.us.length+1/\W.n<=(wk1 p W (.mk k t cd a b)).n:=by
     have:=wk_n p [.mk k t cd a b] W;simp [wk] at this;omega
    simp only [Xa.e,Prg.e] at c1;simp only [chkF,Prg.e] at h1;by_cases y1:(wk1 p W (.mk k t cd a b)).e=0
    rotate_left
    ·-- the node is bad
     have e3:wk p w (pre l)=wk1 p W (.mk k t cd a b):=by
      rw [hpl,U5,e2,M1 p _ y1,M1 p _ y1,M1 p _ y1]
     refine ⟨m2,H2,by omega,by rw [e3];exact hH2,?_⟩;simp [c_236_l0,h1,h7,h8,h9,hi,hx,Xa.e,hO1,c1,y1,e3]
    obtain ⟨m3,H3,hm3,hH3,c2⟩:=Wg p n a _ m2 H2 hH2 y1 (by omega) (by omega) (by omega) (by omega);have r3:=wk_n p (pre a) (wk1 p W (.mk k t cd a b));simp only [chkF,Prg.e] at c2;generalize hW2:wk p (wk1 p W (.mk k t cd a b)) (pre a)=W2 at*;by_cases y2:W2.e=0
    rotate_left
    ·have e3:wk p w (pre l)=W2:=by
      rw [hpl,U5,e2,M1 p _ y2,M1 p _ y2]
     refine ⟨m3,H3,by omega,by rw [e3];exact hH3,?_⟩;simp [c_236_l0,h1,h7,h8,h9,hi,hx,Xa.e,hO1,c1,c2,y1,y2,e3]
    obtain ⟨m4,H4,hm4,hH4,c3⟩:=Wg p n b _ m3 H3 hH3 y2 (by omega) (by omega) (by omega) (by omega);simp only [chkF,Prg.e] at c3;generalize hW3:wk p W2 (pre b)=W3 at*;by_cases y3:W3.e=0
    rotate_left
    ·have e3:wk p w (pre l)=W3:=by
      rw [hpl,U5,e2,M1 p _ y3]
     refine ⟨m4,H4,by omega,by rw [e3];exact hH4,?_⟩;simp [c_236_l0,h1,h7,h8,h9,hi,hx,Xa.e,hO1,c1,c2,c3,y1,y2,y3,e3]
    simp [c_236_l0,h1,h7,h8,h9,hi,hx,Xa.e,hO1,c1,c2,c3,y1,y2,y3,hw];exact ih _ _ ⟨by simp [h1,chkF,Prg.e],by simp [h7],by simp [h8],by simp,by rw [e2];exact y3,m4,by omega,by rw [e2];exact hH4⟩
   ·rintro e H1 L hL ⟨h1,h7,h8,h9,hw0,m1,hm1,hH1⟩;rw [i9] at hw0 hH1;obtain ⟨O1,rfl,hO1,hup1⟩:=Up hH1;refine ⟨m1,_,hm1,hH1,?_⟩;simp [c_236_l0,c_236_k1,h8,h9,hL,hw0]
   ·simp [chkF,pre,wk,he];exact ⟨m,Qb _,hH⟩
  obtain ⟨m',H',k1,k2,k3⟩:=goal;exact ⟨m',H',k1,k2,by rw [dW rfl rfl];exact k3⟩
def usOf (l:List Xa):List Int:=(l.filter appl).map (·.table)
theorem qtw (t:Int) (l:List Xa):(usOf l).contains t=l.any (fun y=>appl y&&decide (y.table=t)):=by
 unfold usOf;rw [QI,List.any_filter]
theorem qvi (l:List Xa) (x:Xa):kU p l x=lP p (usOf l) x:=by
 unfold kU lP;rw [qtw]
def ctlG (p:Prg) (l:List Xa) (i:Nat):Option (Int×Int):=(l[i]?).bind fun x=>if kU p (l.take i) x=0 then none else some ((i:Int),kU p (l.take i) x)
theorem wk_fe (p:Prg) (l:List Xa):∀n i,n+i=l.length->((wk p ⟨0,i,usOf (l.take i)⟩ (l.drop i)).e=0/\fe (ctlG p l) l.length i=none)\/
  ((wk p ⟨0,i,usOf (l.take i)⟩ (l.drop i)).e≠0/\fe (ctlG p l) l.length i=some ((wk p ⟨0,i,usOf (l.take i)⟩ (l.drop i)).n,(wk p ⟨0,i,usOf (l.take i)⟩ (l.drop i)).e))
 | 0,i,h=>by
  have:i=l.length:=by omega
  subst this;simp [wk,dV]
 | n+1,i,h=>by
  have hi:i<l.length:=by omega
  rw [Qi hi];show ((wk p (wk1 p ⟨0,i,usOf (l.take i)⟩ l[i]) (l.drop (i+1))).e=0/\_)\/((wk p (wk1 p ⟨0,i,usOf (l.take i)⟩ l[i]) (l.drop (i+1))).e≠0/\fe (ctlG p l) l.length i=some ((wk p (wk1 p ⟨0,i,usOf (l.take i)⟩ l[i]) (l.drop (i+1))).n,(wk p (wk1 p ⟨0,i,usOf (l.take i)⟩ l[i]) (l.drop (i+1))).e));by_cases z:lP p (usOf (l.take i)) l[i]=0
  ·have e1:wk1 p ⟨0,i,usOf (l.take i)⟩ l[i]=⟨0,((i+1:Nat):Int),usOf (l.take (i+1))⟩:=by
    have hu:usOf (l.take (i+1))=if appl l[i] then usOf (l.take i)++[l[i].table] else usOf (l.take i):=by
     rw [Qh hi];unfold usOf;rw [List.filter_append,u7];cases q:appl l[i]<;>simp [q]
    rw [hu];simp [wk1,z]
   rw [e1,cZ hi (by simp [ctlG,hi,qvi,z])];exact wk_fe p l n (i+1) (by omega)
  ·have e1:wk1 p ⟨0,i,usOf (l.take i)⟩ l[i]=⟨lP p (usOf (l.take i)) l[i],i,usOf (l.take i)⟩:=by simp [wk1,z]
   rw [e1,M1 p _ z];refine .inr ⟨z,?_⟩;rw [aZ hi (by simp only [ctlG,Qa hi,iW,qvi];rw [QA z])]
theorem Iv (hl:(pre p.Yb).length<2^40 - 1):a9 Φ CK [.agg (Prg.c p)]=some (.val (.tup [a8 (ctlE p).1,a8 (ctlE p).2])):=by
 rw [aA rfl rfl];have hc:=Dv p.Yb (by omega);have hn:=We _ p.Yb (Qb _) (by omega);by_cases z1:24<(pre p.Yb).length
 ·simp [l9,Prg.e,hc,ctlE,z1]
 by_cases z2:6<nest p.Yb
 ·simp [l9,Prg.e,hc,hn,ctlE,z1,z2]
 have hE:ctlE p=(fe (ctlG p (pre p.Yb)) (pre p.Yb).length 0).getD (0,0):=by unfold ctlE;rw [QA z1,QA z2];rfl
 obtain ⟨m',H',hm',hH',hp⟩:=Wg p _ p.Yb ⟨0,0,[]⟩ 3 ⟨[(0,.row 1 [[a8 0]]),(1,.row 1 [[a8 0]]),(2,.row 1 [[.Xu 1 []]])],3⟩ ⟨by omega,.inl ⟨rfl,rfl⟩⟩ rfl (Qb _) (by simp) (by simp;omega) (by simp;omega);have hf:=wk_fe p (pre p.Yb) (pre p.Yb).length 0 (by omega);simp only [List.take_zero,List.drop_zero,show usOf []=[] from rfl,Int.ofNat_zero] at hf;generalize hW:wk p ⟨0,0,[]⟩ (pre p.Yb)=W at*;simp only [chkF,Prg.e] at hp;rw [hE];rcases hf with ⟨y,hf⟩ | ⟨y,hf⟩
 ·rw [hf];obtain ⟨h3,⟨hus,rfl⟩ | ⟨q,hq,hqm,rfl⟩⟩:=hH'
  ·simp [y] at hp;simp [l9,Prg.e,hc,hn,z1,z2,hp]
  ·simp [y] at hp;simp [l9,Prg.e,hc,hn,z1,z2,hp]
 ·rw [hf];obtain ⟨h3,⟨hus,rfl⟩ | ⟨q,hq,hqm,rfl⟩⟩:=hH'
  ·simp [y] at hp;simp [l9,Prg.e,hc,hn,z1,z2,hp,y]
  ·simp [y] at hp;simp [l9,Prg.e,hc,hn,z1,z2,hp,y]
def metG (p:Prg) (i:Nat):Option Dg:=(p.Xo[i]?).bind fun f=>if fldE p.Xo i f=0 then none else some (fldE p.Xo i f,(2:Int),(i:Int),(0:Int))
def metH (p:Prg) (i:Nat):Option Dg:=if p.Xo[i]? =some (o9 i) then none else some (5,2,(i:Int),0)
theorem Wc:metD p=if 12<p.Xo.length then some (12,2,0,0) else (fe (metG p) p.Xo.length 0).or (fe (metH p) 3 0):=by
 unfold metD;show (if _ then _ else (match fe (metG p) p.Xo.length 0 with | some d=>some d | none=>fe (metH p) 3 0))=_;cases fe (metG p) p.Xo.length 0<;>rfl
theorem Fld.eq_iff (a b:Fld):a=b↔a.name=b.name/\a.Yd=b.Yd:=Fld.ext_iff
theorem Ki (e:Env) (n:Nat) (h1:look 1 e=some (.iptr 9 [Prg.c p] 0 0)):go Φ (finP []) [.c c_101_k2] .normal ⟨e,⟨[],n⟩⟩=some (rtD (fe (metH p) 3 0)):=by
 rw [Prg.e] at h1;simp [c_101_k2];rw [bG];by_cases l0:p.Xo.length<=0
 ·rw [aZ (x:=(5,2,0,0)) (by omega) (by unfold metH;rw [Qk l0];rfl)];have hnil:p.Xo=[]:=Qg (by omega);simp [c_101_l1,h1,hnil,fZ,gU,rtD]
 have k0:0<p.Xo.length:=by omega
 have hne:¬p.Xo=[]:=by intro h;rw [h] at k0;simp at k0
 by_cases a0:p.Xo[0].name=[105,110]
 rotate_left
 ·rw [aZ (x:=(5,2,0,0)) (by omega) (by unfold metH;rw [Qa k0,QA (by simp [o9,Fld.eq_iff,a0])];rfl)];simp [c_101_l1,Fld.e,h1,hne,k0,a0,fZ,gU,rtD]
 by_cases b0:p.Xo[0].Yd=8
 rotate_left
 ·rw [aZ (x:=(5,2,0,0)) (by omega) (by unfold metH;rw [Qa k0,QA (by simp [o9,Fld.eq_iff,b0])];rfl)];simp [c_101_l1,Fld.e,h1,hne,k0,a0,b0,fZ,gU,rtD]
 rw [cZ (by omega) (by unfold metH;rw [Qa k0,aB (by simp [o9,Fld.eq_iff,a0,b0])])];simp [c_101_l1,Fld.e,h1,hne,k0,a0,b0,fZ,kO,wr1];rw [bG];by_cases l1:p.Xo.length<=1
 ·rw [aZ (x:=(5,2,1,0)) (by omega) (by unfold metH;rw [Qk l1];rfl)];simp [h1,l1,fZ,gU,rtD]
 have k1:1<p.Xo.length:=by omega
 by_cases a1:p.Xo[1].name=[111,117,116]
 rotate_left
 ·rw [aZ (x:=(5,2,1,0)) (by omega) (by unfold metH;rw [Qa k1,QA (by simp [o9,Fld.eq_iff,a1])];rfl)];simp [Fld.e,h1,l1,k1,a1,fZ,gU,rtD]
 by_cases b1:p.Xo[1].Yd=8
 rotate_left
 ·rw [aZ (x:=(5,2,1,0)) (by omega) (by unfold metH;rw [Qa k1,QA (by simp [o9,Fld.eq_iff,b1])];rfl)];simp [Fld.e,h1,l1,k1,a1,b1,fZ,gU,rtD]
 rw [cZ (by omega) (by unfold metH;rw [Qa k1,aB (by simp [o9,Fld.eq_iff,a1,b1])])];simp [Fld.e,h1,l1,k1,a1,b1,fZ,kO,wr2];rw [bG];by_cases l2:p.Xo.length<=2
 ·rw [aZ (x:=(5,2,2,0)) (by omega) (by unfold metH;rw [Qk l2];rfl)];simp [h1,l2,fZ,gU,rtD]
 have k2:2<p.Xo.length:=by omega
 by_cases a2:p.Xo[2].name=[100,114,111,112]
 rotate_left
 ·rw [aZ (x:=(5,2,2,0)) (by omega) (by unfold metH;rw [Qa k2,QA (by simp [o9,Fld.eq_iff,a2])];rfl)];simp [Fld.e,h1,l2,k2,a2,fZ,gU,rtD]
 by_cases b2:p.Xo[2].Yd=1
 rotate_left
 ·rw [aZ (x:=(5,2,2,0)) (by omega) (by unfold metH;rw [Qa k2,QA (by simp [o9,Fld.eq_iff,b2])];rfl)];simp [Fld.e,h1,l2,k2,a2,b2,fZ,gU,rtD]
 rw [cZ (by omega) (by unfold metH;rw [Qa k2,aB (by simp [o9,Fld.eq_iff,a2,b2])])];simp [Fld.e,h1,l2,k2,a2,b2,fZ,kO,wr3];rw [bG,dV];simp [rtD]
theorem Kh (f:PrgS p):a9 Φ BN [.agg (Prg.c p)]=some (rtD (metD p)):=by
 rw [aA rfl rfl,Wc];by_cases z:12<p.Xo.length
 ·simp [A7,Prg.e,z,fZ,gU,rtD]
 have e1:=qxb p.Xo f.m;rw [QA z];simp [A7,Prg.e,z,fZ,kO,e1];refine dK p.Xo.length (fun _=>[]) 0 (fun i e=>look 1 e=some (.iptr 9 [Prg.c p] 0 0)/\look 2 e=some (.slice 1 (p.Xo.map fun x=>[.str x.name]))/\look 17 e=some (.slice 2 (p.Xo.map Fld.c))/\look 18 e=some (a8 p.Xo.length)/\look 19 e=some (a8 i))
  (fun i=>some (rtD ((fe (metG p) p.Xo.length i).or (fe (metH p) 3 0)))) ?_ ?_ 0 _ 0 (Qc _) (Qb _) ?_
 ·rintro i e n L hi hL _ ⟨h1,h2,h17,h18,h19⟩ ih;have hlen:=f.m;have hw:=aL i (by omega);have ei:=Zs p.Xo[i].name (f.mn _ (Qd hi));have ew:=qq6 p.Xo[i].Yd;have er:=TV Fld.name p.Xo i hi f.m;cases q1:idS p.Xo[i].name with
  | false=>
   rw [q1] at ei;rw [aZ (x:=(6,2,(i:Int),0)) hi (by simp [metG,hi,fldE,q1])];simp [c_101_l0,Fld.e,h17,h18,h19,hi,ei,fZ,gU,rtD]
  | true=>
  rw [q1] at ei;cases q2:wBad p.Xo[i].Yd with
  | true=>
   rw [q2] at ew;rw [aZ (x:=(10,2,(i:Int),0)) hi (by simp [metG,hi,fldE,q1,q2])];simp [c_101_l0,Fld.e,h17,h18,h19,hi,ei,ew,fZ,gU,kO,rtD]
  | false=>
  rw [q2] at ew;cases q3:dupN Fld.name p.Xo i p.Xo[i] with
  | true=>
   rw [q3] at er;rw [aZ (x:=(7,2,(i:Int),0)) hi (by simp [metG,hi,fldE,q1,q2,q3])];simp [c_101_l0,Fld.e,h2,h17,h18,h19,hi,ei,ew,er,fZ,gU,kO,rtD]
  | false=>
   rw [q3] at er;rw [cZ hi (by simp [metG,hi,fldE,q1,q2,q3])];simp [c_101_l0,Fld.e,h2,h17,h18,h19,hi,ei,ew,er,fZ,kO,hw];exact ih _ _ (Qc _) ⟨by simp [h1],by simp [h2],by simp [h17],by simp [h18],by simp⟩
 ·rintro e n L hL _ ⟨h1,h2,h17,h18,h19⟩;rw [dV];simp [c_101_l0,h18,h19,hL];exact Ki p _ _ (by simp [h1])
 ·simp [Prg.e]
def regG (p:Prg) (i:Nat):Option Dg:=(p.Xm[i]?).bind fun r=>if yQ p i r=0 then none else some (yQ p i r,3,(i:Int),0)
def acG (p:Prg) (i:Nat):Option Dg:=(p.Xy[i]?).bind fun a=>if (actE p i).2≠0 then some ((actE p i).2,(4:Int),(i:Int),(actE p i).1) else if dupN Action.name p.Xy i a then some (7,4,(i:Int),0) else none
def tbG (p:Prg) (i:Nat):Option Dg:=(p.Xn[i]?).bind fun a=>if (tblE p i).2≠0 then some ((tblE p i).2,(5:Int),(i:Int),(tblE p i).1) else if dupN Tbl.name p.Xn i a then some (7,5,(i:Int),0) else none
section
variable (f:PrgS p) (e:Env) (n:Nat) (h1:look 1 e=some (.iptr 9 [Prg.c p] 0 0))
include f e n h1
theorem Jf:go Φ (finP []) [.c c_102_k3] .normal ⟨e,⟨[],n⟩⟩=some (rtD (tblD p)):=by
 rw [show tblD p=fe (tbG p) p.Xn.length 0 from rfl];have e1:=qxc p.Xn f.t;rw [Prg.e] at h1;simp [c_102_k3,h1,e1];refine dK p.Xn.length (fun _=>[]) 0 (fun i e=>look 1 e=some (.iptr 9 [Prg.c p] 0 0)/\look 2 e=some (.slice 1 (p.Xn.map fun x=>[.str x.name]))/\look 64 e=some (a8 p.Xn.length)/\look 65 e=some (a8 i))
  (fun i=>some (rtD (fe (tbG p) p.Xn.length i))) ?_ ?_ 0 _ _ (Qc _) (Qc _) ?_
 ·rintro i e n L hi hL _ ⟨h1,h2,h64,h65⟩ ih;have hlen:=f.t;have hw:=aL i (by omega);have et:=Vq p f i;have er:=TV Tbl.name p.Xn i hi f.t;simp only [Prg.e] at et;rw [Prg.e] at h1;by_cases y:(tblE p i).2=0
  rotate_left
  ·rw [aZ (x:=((tblE p i).2,5,(i:Int),(tblE p i).1)) hi (by simp [tbG,hi,y])];simp [c_102_l2,h1,h64,h65,hi,et,gU,y,rtD]
  rw [y] at et;cases q:dupN Tbl.name p.Xn i p.Xn[i] with
  | true=>
   rw [q] at er;rw [aZ (x:=(7,5,(i:Int),0)) hi (by simp [tbG,hi,y,q])];simp [c_102_l2,h1,h2,h64,h65,hi,et,er,fZ,gU,kO,rtD]
  | false=>
   rw [q] at er;rw [cZ hi (by simp [tbG,hi,y,q])];simp [c_102_l2,h1,h2,h64,h65,hi,et,er,fZ,kO,hw];exact ih _ _ (Qc _) ⟨by simp [h1,Prg.e],by simp [h2],by simp [h64],by simp⟩
 ·rintro e n L hL _ ⟨h1,h2,h64,h65⟩;rw [dV];simp [c_102_l2,h64,h65,hL,rtD]
 ·simp [h1,Prg.e]
theorem Je:go Φ (finP []) [.c c_102_k4] .normal ⟨e,⟨[],n⟩⟩=some (rtD ((s8 p).or (tblD p))):=by
 rw [show s8 p=fe (acG p) p.Xy.length 0 from rfl];have e1:=qrq p.Xy f.a;rw [Prg.e] at h1;simp [c_102_k4,h1,e1];refine dK p.Xy.length (fun _=>[]) 0 (fun i e=>look 1 e=some (.iptr 9 [Prg.c p] 0 0)/\look 2 e=some (.slice 1 (p.Xy.map fun x=>[.str x.name]))/\look 38 e=some (a8 p.Xy.length)/\look 39 e=some (a8 i))
  (fun i=>some (rtD ((fe (acG p) p.Xy.length i).or (tblD p)))) ?_ ?_ 0 _ _ (Qc _) (Qc _) ?_
 ·rintro i e n L hi hL _ ⟨h1,h2,h38,h39⟩ ih;have hlen:=f.a;have hw:=aL i (by omega);have et:=Gm p f i;have er:=TV Action.name p.Xy i hi f.a;simp only [Prg.e] at et;rw [Prg.e] at h1;by_cases y:(actE p i).2=0
  rotate_left
  ·rw [aZ (x:=((actE p i).2,4,(i:Int),(actE p i).1)) hi (by simp [acG,hi,y])];simp [c_102_l1,h1,h38,h39,hi,et,gU,y,rtD]
  rw [y] at et;cases q:dupN Action.name p.Xy i p.Xy[i] with
  | true=>
   rw [q] at er;rw [aZ (x:=(7,4,(i:Int),0)) hi (by simp [acG,hi,y,q])];simp [c_102_l1,h1,h2,h38,h39,hi,et,er,fZ,gU,kO,rtD]
  | false=>
   rw [q] at er;rw [cZ hi (by simp [acG,hi,y,q])];simp [c_102_l1,h1,h2,h38,h39,hi,et,er,fZ,kO,hw];exact ih _ _ (Qc _) ⟨by simp [h1,Prg.e],by simp [h2],by simp [h38],by simp⟩
 ·rintro e n L hL _ ⟨h1,h2,h38,h39⟩;rw [dV];simp [c_102_l1,h38,h39,hL];exact Jf p f _ _ (by simp [h1])
 ·simp [h1,Prg.e]
end
theorem Ox (f:PrgS p):a9 Φ BO [.agg (Prg.c p)]=some (rtD ((regD p).or ((s8 p).or (tblD p)))):=by
 rw [aA rfl rfl,show regD p=fe (regG p) p.Xm.length 0 from rfl];have e1:=qpa p.Xm f.r;generalize hX:(s8 p).or (tblD p)=X;simp [IR,Prg.e,e1];refine dK p.Xm.length (fun _=>[]) 0 (fun i e=>look 1 e=some (.iptr 9 [Prg.c p] 0 0)/\look 2 e=some (.slice 1 (p.Xm.map fun x=>[.str x.name]))/\look 15 e=some (.slice 3 (p.Xm.map Xh.c))/\look 16 e=some (a8 p.Xm.length)/\look 17 e=some (a8 i))
  (fun i=>some (rtD ((fe (regG p) p.Xm.length i).or X))) ?_ ?_ 0 _ _ (Qc _) (Qc _) ?_
 ·rintro i e n L hi hL _ ⟨h1,h2,h15,h16,h17⟩ ih;have hlen:=f.r;have hw:=aL i (by omega);have et:=Kr p.Xm[i] (f.rn _ (Qd hi));have er:=TV Xh.name p.Xm i hi f.r;simp only [Xh.e] at et;by_cases y:regE p.Xm[i]=0
  rotate_left
  ·rw [aZ (x:=(regE p.Xm[i],3,(i:Int),0)) hi (by simp [regG,hi,yQ,y])];simp [c_102_l0,Xh.e,h15,h16,h17,hi,et,gU,y,rtD]
  rw [y] at et;cases q:dupN Xh.name p.Xm i p.Xm[i] with
  | true=>
   rw [q] at er;rw [aZ (x:=(7,3,(i:Int),0)) hi (by simp [regG,hi,yQ,y,q])];simp [c_102_l0,Xh.e,h2,h15,h16,h17,hi,et,er,fZ,gU,kO,rtD]
  | false=>
   rw [q] at er;rw [cZ hi (by simp [regG,hi,yQ,y,q])];simp [c_102_l0,Xh.e,h2,h15,h16,h17,hi,et,er,fZ,kO,hw];exact ih _ _ (Qc _) ⟨by simp [h1],by simp [h2],by simp [h15],by simp [h16],by simp⟩
 ·rintro e n L hL _ ⟨h1,h2,h15,h16,h17⟩;rw [dV];simp [c_102_l0,h16,h17,hL];rw [<- hX];exact Je p f _ _ (by simp [h1])
 ·simp [Prg.e]
theorem Oc (f:PrgS p) (hc:(pre p.Yb).length<2^40 - 1):a9 Φ BP [.agg (Prg.c p)]=some (rtD (floD p)):=by
 rw [aA rfl rfl];have e1:=La p f;have e2:=Iv p hc;have e3:=Iy p f;simp only [Prg.e,tup3] at e1 e2 e3;by_cases y1:(parE p).2.2=0
 rotate_left
 ·simp [pL,Prg.e,e1,y1,gU,floD,rtD]
 rw [y1] at e1;by_cases y2:(ctlE p).2=0
 rotate_left
 ·simp [pL,Prg.e,e1,y1,e2,y2,gU,kO,floD,rtD]
 rw [y2] at e2;by_cases y3:(depE p).2=0
 rotate_left
 ·simp [pL,Prg.e,e1,y1,e2,y2,e3,y3,gU,kO,floD,rtD]
 rw [y3] at e3;simp [pL,Prg.e,e1,y1,e2,y2,e3,y3,kO,floD,rtD]
theorem oM {Φ:FuncId->Option AFun} (c:Xv) (s:St):dN Φ c s=go Φ (fun o=>o) [.c c] .normal s:=by
 rw [go_c];cases dN Φ c s with
 | none=>rfl
 | some p=>rfl
def dgC (d:Dg):List AV:=[a8 d.1,a8 d.2.1,a8 d.2.2.1,a8 d.2.2.2]
def chkE (p:Prg):Env:=[(3,.func (.func tB) [] [.ptr 1 4 0 0]),(2,.ptr 1 4 0 0),(1,.ptr 0 9 0 0),(0,.agg (Prg.c p))]
def oP (p:Prg) (d:List AV):AH:=⟨[(0,.row 9 [Prg.c p]),(1,.row 4 [d])],2⟩
theorem Ap (f:PrgS p) (hc:(pre p.Yb).length<2^40 - 1):∃e',look 2 e'=some (.ptr 1 4 0 0)/\go Φ (fun o=>o) [.c (match eF.code with | .seq _ (.dfr _ _ b)=>b | _=> .skip)] .normal ⟨chkE p,oP p [a8 0,a8 0,a8 0,a8 0]⟩=
  match (limD p).or ((hdrD p).or ((metD p).or (((regD p).or ((s8 p).or (tblD p))).or (floD p)))) with
  | none=>some (.ret,⟨e',oP p [.int .i64 0,.int .i64 0,.int .i64 0,.int .i64 0]⟩)
  | some d=>some (.pan (zU d.1 d.2.1 d.2.2.1 d.2.2.2),⟨e',oP p [.int .i64 0,.int .i64 0,.int .i64 0,.int .i64 0]⟩):=by
 have h1:=Bp p f;have h2:=qpx p f;have h3:=Kh p f;have h4:=Ox p f;have h5:=Oc p f hc;simp only [Prg.e] at h1 h2 h3 h4 h5;cases q1:limD p with
 | some d=>rw [q1] at h1;simp [eF,chkE,oP,Prg.e,h1,rtD]
 | none=>
 cases q2:hdrD p with
 | some d=>rw [q1] at h1;rw [q2] at h2;simp [eF,chkE,oP,Prg.e,h1,h2,rtD]
 | none=>
 cases q3:metD p with
 | some d=>rw [q1] at h1;rw [q2] at h2;rw [q3] at h3;simp [eF,chkE,oP,Prg.e,h1,h2,h3,rtD]
 | none=>
 cases q4:(regD p).or ((s8 p).or (tblD p)) with
 | some d=>rw [q1] at h1;rw [q2] at h2;rw [q3] at h3;rw [q4] at h4;simp [eF,chkE,oP,Prg.e,h1,h2,h3,h4,rtD]
 | none=>
 cases q5:floD p with
 | some d=>rw [q1] at h1;rw [q2] at h2;rw [q3] at h3;rw [q4] at h4;rw [q5] at h5;simp [eF,chkE,oP,Prg.e,h1,h2,h3,h4,h5,rtD]
 | none=>rw [q1] at h1;rw [q2] at h2;rw [q3] at h3;rw [q4] at h4;rw [q5] at h5;simp [eF,chkE,oP,Prg.e,h1,h2,h3,h4,h5,rtD]
def kA:Xv:=match eF.code with | .seq a _=>a | _=> .skip
def kB:Xv:=match eF.code with | .seq _ (.dfr _ _ b)=>b | _=> .skip
theorem Lc:prgD p=((limD p).or ((hdrD p).or ((metD p).or (((regD p).or ((s8 p).or (tblD p))).or (floD p))))).getD (0,0,0,0):=by
 unfold prgD;cases limD p<;>cases hdrD p<;>cases metD p<;>cases regD p<;>cases s8 p<;>cases tblD p<;>rfl
theorem Ik (d:List AV) (hd:d.length=4):cloI Φ eF .niliface [.ptr 1 4 0 0] (oP p d)=some (oP p d):=by
 unfold cloI;rw [oM];simp [eF,recE]
theorem Il (d:Dg):∃h,cloI Φ eF (zU d.1 d.2.1 d.2.2.1 d.2.2.2) [.ptr 1 4 0 0] (oP p [a8 0,a8 0,a8 0,a8 0])=some h/\look 1 h.objs=some (.row 4 [dgC d]):=by
 unfold cloI;rw [oM];simp [eF,recE,zU,tF,oP,dgC]
theorem Sg (f:PrgS p) (hc:(pre p.Yb).length<2^40 - 1):a9 Φ GT [.agg (Prg.c p)]=some (.val (.agg (dgC (prgD p)))):=by
 unfold a9;rw [Ta Φ (d:=eF) rfl rfl,show eF.code= .seq kA (.dfr [⟨some 3,none,.mkfunc (.func tB) [] [.t 2]⟩] 3 kB) from rfl];have a1:dN Φ kA ⟨fW 0 [.agg (Prg.c p)],H0⟩=some (.normal,⟨[(2,.ptr 1 4 0 0),(1,.ptr 0 9 0 0),(0,.agg (Prg.c p))],oP p [a8 0,a8 0,a8 0,a8 0]⟩):=by
  rw [oM];simp [kA,eF,oP]
 obtain ⟨e',he',hb⟩:=Ap p f hc;have hb2:dN Φ kB ⟨chkE p,oP p [a8 0,a8 0,a8 0,a8 0]⟩=_:=(oM _ _).trans hb;have a2:bQ (aN Φ) none [⟨some 3,none,.mkfunc (.func tB) [] [.t 2]⟩] ⟨[(2,.ptr 1 4 0 0),(1,.ptr 0 9 0 0),(0,.agg (Prg.c p))],oP p [a8 0,a8 0,a8 0,a8 0]⟩=
   some (.normal,⟨chkE p,oP p [a8 0,a8 0,a8 0,a8 0]⟩):=by
  simp [bQ,gV,chkE]
 simp only [sN,a1,a2];have a3:(look 3 (chkE p)).bind tgt=some (tB,[.ptr 1 4 0 0]):=by simp [chkE]
 rw [a3];simp only [show eF.clo=tB from rfl,show eF.ncaps=1 from rfl,List.length_singleton,and_self,if_true];rw [hb2,Lc];cases (limD p).or ((hdrD p).or ((metD p).or (((regD p).or ((s8 p).or (tblD p))).or (floD p)))) with
 | none=>
  simp only [G6];rw [Ik p _ rfl];simp [sS,eF,he',oP,dgC]
 | some d=>
  obtain ⟨h,k1,k2⟩:=Il p d;simp only [G6];rw [k1];obtain ⟨O,n⟩:=h;simp only [dgC] at k2;simp [sS,eF,show Option.isSome (some ((4:Nat),(1:Nat)))=true from rfl,he',k2,dgC]
theorem Wi (c:Int):a9 Φ vV [.int .u8 c]=some (.val (.bool (letC c))):=by
 rw [aA rfl rfl];by_cases h1:97<=c<;>by_cases h2:c<=122<;>by_cases h3:65<=c<;>simp [KJ,letC,h1,h2,h3]
theorem qyk (c:Int):a9 Φ DE [.int .u8 c]=some (.val (.bool (digI c))):=by
 rw [aA rfl rfl];by_cases h1:48<=c<;>simp [KK,digI,h1]
theorem HK (s:List UInt8) (hs:s.length<2^40):a9 Φ gK [.str s]=some (.val (.bool (idS s))):=by
 rw [aA rfl rfl];by_cases h0:s.length=0
 ·have:s=[]:=Qg h0;subst this;simp [pS,idS]
 have hp:0<s.length:=by omega
 have hne:¬s=[]:=by intro h;subst h;simp at h0
 rw [qx7 hp];by_cases h16:16<s.length
 ·simp [pS,hne,h16,Qf.2 h16]
 have hl:=Wi (s[0].toNat:Int);cases q:letC (s[0].toNat:Int) with
 | false=>
  rw [q] at hl;simp [pS,hne,hp,h16,hl]
 | true=>
  rw [q] at hl;generalize hX:(decide (s.length<=16)&&(true&&s.all fun b=>idC b.toNat))=X;simp [pS,hne,hp,h16,hl];refine (zJ s (fun b=> !idC b.toNat) (some (Rt.val (.bool false))) (some (Rt.val (.bool true)))
   (fun i e H=>look 0 e=some (.str s)/\look 3 e=some (a8 i)/\H=⟨[],0⟩) ?_ ?_ ?_ _ _ ?_).trans ?_
  ·rintro i e _ L hi hL ⟨h0,h3,rfl⟩ hb;have g1:=Wi (s[i].toNat:Int);have g2:=qyk (s[i].toNat:Int);cases z1:letC (s[i].toNat:Int) with
   | true=>simp [idC,z1] at hb
   | false=>
    cases z2:digI (s[i].toNat:Int) with
    | true=>simp [idC,z1,z2] at hb
    | false=>
     rw [z1] at g1;rw [z2] at g2;simp only [idC,z1,z2,MQ,FP,decide_eq_false_iff_not] at hb;simp [c_196_l0,h0,h3,hi,g1,g2,hb]
  ·rintro i e _ L X hi hL ⟨h0,h3,rfl⟩ hb ih;have hw:=aL i (by omega);have g1:=Wi (s[i].toNat:Int);have g2:=qyk (s[i].toNat:Int);cases z1:letC (s[i].toNat:Int) with
   | true=>
    rw [z1] at g1;simp [c_196_l0,h0,h3,hi,g1,hw];exact ih _ _ ⟨by simp [h0],by simp,rfl⟩
   | false=>
    rw [z1] at g1;cases z2:digI (s[i].toNat:Int) with
    | true=>
     rw [z2] at g2;simp [c_196_l0,h0,h3,hi,g1,g2,hw];exact ih _ _ ⟨by simp [h0],by simp,rfl⟩
    | false=>
     rw [z2] at g2;simp only [idC,z1,z2,MQ,Bool.not_eq_false',decide_eq_true_eq] at hb;rw [hb] at g1 g2;simp [c_196_l0,h0,h3,hi,g1,g2,hb,hw];exact ih _ _ ⟨by simp [h0],by simp,rfl⟩
  ·rintro e _ L hL ⟨h0,h3,rfl⟩;simp [c_196_l0,c_196_k1,h0,h3,hL]
  ·simp
  ·rw [<- hX];have:(s.any fun b=> !idC b.toNat)= !(s.all fun b=>idC b.toNat):=by
    rw [List.not_all_eq_any_not]
   rw [this];have h16':decide (s.length<=16)=true:=by simpa using h16
   rw [h16'];cases s.all fun b=>idC b.toNat<;>rfl
theorem YI {n:Int} (h1:0<=n) (h2:n<18446744073709551616):IntKind.wrap .u64 n=n:=by
 have e1:(2:Int)^64=18446744073709551616:=rfl;simp only [IntKind.wrap,IntKind.bits,IntKind.signed,Bool.false_and,e1];rw [QA (by simp)];omega
variable {i:Nat}
theorem qyj (h:i<63):IntKind.wrap .u64 (2*2^i)=2^(i+1):=by
 have h1:(2:Int)^(i+1)=2*2^i:=by rw [Int.pow_succ];omega
 have h2:(2:Int)^i<=2^62:=by
  have:=MN (n:=2) (by omega) (show i<=62 by omega)
  exact_mod_cast this
 have h0:(0:Int)<2^i:=by
  have:=Nat.pow_pos (a:=2) (n:=i) (by omega)
  exact_mod_cast this
 have h3:(2:Int)^62=4611686018427387904:=rfl;rw [h1];exact YI (by omega) (by omega)
theorem XP (w:Int):a9 Φ nU [a8 w]=some (.val (.bool (!wBad w))):=by
 rw [aA rfl rfl];by_cases h1:w<1
 ·simp [uU,wBad,h1,p9.2 h1]
 ·by_cases h2:32<w
  ·simp [uU,wBad,h1,fV.1 h1,h2,p9.2 h2]
  ·simp [uU,wBad,h1,fV.1 h1,h2,fV.1 h2]
theorem XW (n:Nat) (hn:n<63):a9 Φ nV [a8 n]=some (.val (.int .u64 (2^n))):=by
 rw [aA rfl rfl];simp [LH];refine (fJ n (fun i e=>look 0 e=some (a8 n)/\look 3 e=some (.int .u64 (2^i))/\look 4 e=some (a8 i)) (fun i=>some (Rt.val (.int .u64 (2^n)))) ?_ ?_ 0 _ (Qc _) ?_).trans (by simp)
 ·rintro i e L hi hL ⟨h0,h3,h4⟩ ih;have hw:=aL i (by omega);have hp:=qyj (i:=i) (by omega);simp [c_317_l0,h0,h3,h4,hi,hw,hp];exact ih _ ⟨by simp [h0],by simp,by simp⟩
 ·rintro e L hL ⟨h0,h3,h4⟩;simp [c_317_l0,c_317_k1,h0,h3,h4,hL]
 ·simp
theorem Ux (v w:Int) (hv:ok32 0 v):a9 Φ rX [.int .u32 v,a8 w]=some (.val (.bool (fits v w))):=by
 rw [aA rfl rfl];have h1:=XP w;have hv1:=hv.1;have hv2:=hv.2;have hc:IntKind.wrap .u64 v=v:=YI (by omega) (by omega);cases q:wBad w with
 | true=>
  rw [q] at h1;simp [BD,h1,fits,q]
 | false=>
  rw [q] at h1;obtain ⟨w1,w2⟩:=wBad_false.1 q;obtain ⟨k,rfl⟩:∃k:Nat,w=k:=⟨w.toNat,by omega⟩;have h2:=XW k (by omega);simp [BD,h1,h2,hc,fits,q]
theorem Td (v:Int) (hv:ok32 0 v) (k:Nat) (hk:k<=32):a9 Φ rU [.int .u32 v,a8 k]=some (.val (.bool (decide (v<2^k)))):=by
 rw [aA rfl rfl];have hv1:=hv.1;have hv2:=hv.2;have hc:IntKind.wrap .u64 v=v:=YI (by omega) (by omega);generalize hX:decide (v<2^k)=X;simp [LA];refine (fJ k (fun i e=>look 0 e=some (.int .u32 v)/\look 1 e=some (a8 k)/\look 5 e=some (.int .u64 (2^i))/\look 6 e=some (a8 i)) (fun i=>some (Rt.val (.bool X))) ?_ ?_ 0 _ (Qc _) ?_).trans (by simp)
 ·rintro i e L hi hL ⟨h0,h1,h5,h6⟩ ih;have hw:=aL i (by omega);have hp:=qyj (i:=i) (by omega);simp [c_293_l0,h1,h5,h6,hi,hw,hp];exact ih _ ⟨by simp [h0],by simp [h1],by simp,by simp⟩
 ·rintro e L hL ⟨h0,h1,h5,h6⟩;simp [c_293_l0,c_293_k1,h0,h1,h5,h6,hL,hc,<- hX]
 ·simp
theorem qs4 (h i:Int):a9 Φ wD [.agg (Prg.c p),.agg [a8 h,a8 i]]=some (.val (a8 (wid p h i))):=by
 rw [aA rfl rfl];have tail:∀(l:List Fld),(∀j:Int,decl p h j=(at? l j).map (·.Yd))->(i<0/\wid p h i=0)\/(¬i<0/\(l.length:Int)<=i/\wid p h i=0)\/∃k:Nat,∃hk:k<l.length,i=k/\((l[k].Yd<1/\wid p h i=0)\/(¬l[k].Yd<1/\32<l[k].Yd/\wid p h i=0)\/(¬l[k].Yd<1/\¬32<l[k].Yd/\wid p h i=l[k].Yd)):=by
  intro l hd;by_cases i0:i<0
  ·exact .inl ⟨i0,by simp [wid,hd,iI i0]⟩
  by_cases i1:(l.length:Int)<=i
  ·exact .inr (.inl ⟨i0,i1,by simp [wid,hd,iH i1]⟩)
  obtain ⟨k,hk⟩:∃k:Nat,i=k:=⟨i.toNat,by omega⟩;refine .inr (.inr ⟨k,by omega,hk,?_⟩);have hk2:k<l.length:=by omega
  have e:wid p h i=if wBad l[k].Yd then 0 else l[k].Yd:=by simp [wid,hd,hk,hk2]
  by_cases w1:l[k].Yd<1
  ·exact .inl ⟨w1,by rw [e];simp [wBad,w1]⟩
  by_cases w2:32<l[k].Yd
  ·exact .inr (.inl ⟨w1,w2,by rw [e];simp [wBad,w2]⟩)
  ·exact .inr (.inr ⟨w1,w2,by rw [e];simp [wBad,w1,w2]⟩)
 by_cases h0:0<=h
 ·have hm:¬h= -1:=by omega
  have hm2:¬h< -1:=by omega
  by_cases h1:(p.Xp.length:Int)<=h
  ·rw [show wid p h i=0 by simp [wid,decl,hm,iH h1]];simp [eR,Prg.e,h0,h1]
  obtain ⟨m,rfl⟩:∃k:Nat,h=k:=⟨h.toNat,by omega⟩;have hk:m<p.Xp.length:=by omega
  rcases tail p.Xp[m].Ya (by intro j;simp [decl,hm,hk]) with ⟨i0,e⟩ | ⟨i0,i1,e⟩ | ⟨k,hk2,rfl,⟨w1,e⟩ | ⟨w1,w2,e⟩ | ⟨w1,w2,e⟩⟩
  ·rw [e];simp [eR,Prg.e,Xj.e,hk,Qf.2 hk,hm2,i0]
  ·rw [e];simp [eR,Prg.e,Xj.e,hk,Qf.2 hk,hm2,i0,i1]
  ·rw [e];simp [eR,Prg.e,Xj.e,Fld.e,hk,Qf.2 hk,hm2,hk2,Qf.2 hk2,w1]
  ·rw [e];simp [eR,Prg.e,Xj.e,Fld.e,hk,Qf.2 hk,hm2,hk2,Qf.2 hk2,w1,w2]
  ·rw [e];simp [eR,Prg.e,Xj.e,Fld.e,hk,Qf.2 hk,hm2,hk2,Qf.2 hk2,w1,w2]
 by_cases hm:h= -1
 ·subst hm;rcases tail p.Xo (by intro j;simp [decl]) with ⟨i0,e⟩ | ⟨i0,i1,e⟩ | ⟨k,hk2,rfl,⟨w1,e⟩ | ⟨w1,w2,e⟩ | ⟨w1,w2,e⟩⟩
  ·rw [e];simp [eR,Prg.e,i0]
  ·rw [e];simp [eR,Prg.e,i0,i1]
  ·rw [e];simp [eR,Prg.e,Fld.e,hk2,Qf.2 hk2,w1]
  ·rw [e];simp [eR,Prg.e,Fld.e,hk2,Qf.2 hk2,w1,w2]
  ·rw [e];simp [eR,Prg.e,Fld.e,hk2,Qf.2 hk2,w1,w2]
 ·have hm2:h< -1:=by omega
  rw [show wid p h i=0 by simp [wid,decl,hm,iI (show h<0 by omega)]];simp [eR,Prg.e,h0,hm2]
theorem qs5 (h i:Int):a9 Φ wC [.agg (Prg.c p),.agg [a8 h,a8 i]]=some (.val (a8 (wid p h i))):=by
 rw [aA rfl rfl];have tail:∀(l:List Fld),(∀j:Int,decl p h j=(at? l j).map (·.Yd))->(i<0/\wid p h i=0)\/(¬i<0/\(l.length:Int)<=i/\wid p h i=0)\/∃k:Nat,∃hk:k<l.length,i=k/\((l[k].Yd<1/\wid p h i=0)\/(¬l[k].Yd<1/\32<l[k].Yd/\wid p h i=0)\/(¬l[k].Yd<1/\¬32<l[k].Yd/\wid p h i=l[k].Yd)):=by
  intro l hd;by_cases i0:i<0
  ·exact .inl ⟨i0,by simp [wid,hd,iI i0]⟩
  by_cases i1:(l.length:Int)<=i
  ·exact .inr (.inl ⟨i0,i1,by simp [wid,hd,iH i1]⟩)
  obtain ⟨k,hk⟩:∃k:Nat,i=k:=⟨i.toNat,by omega⟩;refine .inr (.inr ⟨k,by omega,hk,?_⟩);have hk2:k<l.length:=by omega
  have e:wid p h i=if wBad l[k].Yd then 0 else l[k].Yd:=by simp [wid,hd,hk,hk2]
  by_cases w1:l[k].Yd<1
  ·exact .inl ⟨w1,by rw [e];simp [wBad,w1]⟩
  by_cases w2:32<l[k].Yd
  ·exact .inr (.inl ⟨w1,w2,by rw [e];simp [wBad,w2]⟩)
  ·exact .inr (.inr ⟨w1,w2,by rw [e];simp [wBad,w1,w2]⟩)
 by_cases h0:0<=h
 ·have hm:¬h= -1:=by omega
  have hm2:¬h< -1:=by omega
  by_cases h1:(p.Xp.length:Int)<=h
  ·rw [show wid p h i=0 by simp [wid,decl,hm,iH h1]];simp [eQ,Prg.e,h0,h1]
  obtain ⟨m,rfl⟩:∃k:Nat,h=k:=⟨h.toNat,by omega⟩;have hk:m<p.Xp.length:=by omega
  rcases tail p.Xp[m].Ya (by intro j;simp [decl,hm,hk]) with ⟨i0,e⟩ | ⟨i0,i1,e⟩ | ⟨k,hk2,rfl,⟨w1,e⟩ | ⟨w1,w2,e⟩ | ⟨w1,w2,e⟩⟩
  ·rw [e];simp [eQ,Prg.e,Xj.e,hk,Qf.2 hk,hm2,i0]
  ·rw [e];simp [eQ,Prg.e,Xj.e,hk,Qf.2 hk,hm2,i0,i1]
  ·rw [e];simp [eQ,Prg.e,Xj.e,Fld.e,hk,Qf.2 hk,hm2,hk2,Qf.2 hk2,w1]
  ·rw [e];simp [eQ,Prg.e,Xj.e,Fld.e,hk,Qf.2 hk,hm2,hk2,Qf.2 hk2,w1,w2]
  ·rw [e];simp [eQ,Prg.e,Xj.e,Fld.e,hk,Qf.2 hk,hm2,hk2,Qf.2 hk2,w1,w2]
 by_cases hm:h= -1
 ·subst hm;rcases tail p.Xo (by intro j;simp [decl]) with ⟨i0,e⟩ | ⟨i0,i1,e⟩ | ⟨k,hk2,rfl,⟨w1,e⟩ | ⟨w1,w2,e⟩ | ⟨w1,w2,e⟩⟩
  ·rw [e];simp [eQ,Prg.e,i0]
  ·rw [e];simp [eQ,Prg.e,i0,i1]
  ·rw [e];simp [eQ,Prg.e,Fld.e,hk2,Qf.2 hk2,w1]
  ·rw [e];simp [eQ,Prg.e,Fld.e,hk2,Qf.2 hk2,w1,w2]
  ·rw [e];simp [eQ,Prg.e,Fld.e,hk2,Qf.2 hk2,w1,w2]
 ·have hm2:h< -1:=by omega
  rw [show wid p h i=0 by simp [wid,decl,hm,iI (show h<0 by omega)]];simp [eQ,Prg.e,h0,hm2]
def fxO {α:Type} (q:α->Bool) (l:List α) (j:Nat):Option Int:=fe (fun k=>(l[k]?).bind fun f=>if q f then some (k:Int) else none) l.length j
variable {α:Type}
section
variable {q:α->Bool} {l:List α}
include q l
theorem Vz (hi:i<l.length) (h:q l[i]=true):fxO q l i=some (i:Int):=by
 unfold fxO;rw [aZ (x:=(i:Int)) hi (by simp [hi,h])]
theorem qu8 (hi:i<l.length) (h:q l[i]=false):fxO q l i=fxO q l (i+1):=by
 unfold fxO;rw [cZ hi (by simp [hi,h])]
theorem Jm:fxO q l l.length=none:=by
 unfold fxO;rw [dV]
end
theorem Wl {α:Type} {q:α->Bool} {l:List α} {i:Nat} (hi:i<l.length) (h:q l[i]=true):∀n j,n+j=i->∃k:Nat,fxO q l j=some (k:Int)/\(decide ((k:Int)<i)=mK (l.take i) q j)
 | 0,j,e=>by
  have:j=i:=by omega
  subst this;refine ⟨j,Vz hi h,?_⟩;have:=RA (l:=l.take j) (p:=q);rw [show (l.take j).length=j by simp;omega] at this;rw [this];simp
 | n+1,j,e=>by
  have hj:j<l.length:=by omega
  have hj2:j<(l.take i).length:=by simp;omega
  have e1:(l.take i)[j]=l[j]:=by simp
  cases z:q l[j] with
  | true=>
   refine ⟨j,Vz hj z,?_⟩;rw [UH hj2 (by rw [e1];exact z)];simp;omega
  | false=>
   obtain ⟨k,k1,k2⟩:=Wl hi h n (j+1) (by omega);refine ⟨k,by rw [qu8 hj z];exact k1,?_⟩;rw [HN hj2 (by rw [e1];exact z)];exact k2
def fxT (o:Option Int):AV:=match o with
 | some k=> .tup [.int .i64 k,.bool true]
 | none=> .tup [.int .i64 0,.bool false]
theorem qtr (h:Xj) (nm:List UInt8) (hl:h.Ya.length<2^40):a9 Φ DF [.agg (Xj.c h),.str nm]=some (.val (fxT (fxO (fun f:Fld=>decide (f.name=nm)) h.Ya 0))):=by
 rw [aA rfl rfl];simp [KL,Xj.e];refine fJ h.Ya.length (fun i e=>look 1 e=some (.str nm)/\look 2 e=some (.iptr 2 [Xj.c h] 0 0)/\look 6 e=some (a8 i))
  (fun i=>some (Rt.val (fxT (fxO (fun f:Fld=>decide (f.name=nm)) h.Ya i)))) ?_ ?_ 0 _ (Qc _) ?_
 ·rintro i e L hi hL ⟨h1,h2,h6⟩ ih;have hw:=aL i (by omega);rw [Xj.e] at h2;by_cases z:h.Ya[i].name=nm
  ·rw [Vz hi (by simpa using z)];simp [c_243_l0,Fld.e,h1,h2,h6,hi,z,fxT]
  ·rw [qu8 hi (by simpa using z)];simp [c_243_l0,Fld.e,h1,h2,h6,hi,z,hw];exact ih _ ⟨by simp [h1],by simp [h2,Xj.e],by simp⟩
 ·rintro e L hL ⟨h1,h2,h6⟩;rw [Jm];rw [Xj.e] at h2;simp [c_243_l0,c_243_k1,h2,h6,hL,fxT]
 ·simp [Xj.e]
theorem qq4 (l:List Fld) (h:∀k,k<l.length->fldE l k (l.getD k default)=0):∀i,i<=l.length->0<=wSum (l.take i)/\wSum (l.take i)<=32*i:=by
 intro i
 induction i with
 | zero=>intro _;simp [wSum]
 | succ i ih=>
  intro hi;have h1:=ih (by omega);have hk:=h i (by omega);rw [Q3,Qa (by omega),sY] at hk;have hb:wBad l[i].Yd=false:=by
   cases q:wBad l[i].Yd with
   | false=>rfl
   | true=>
    simp only [fldE,q] at hk;split at hk
    ·omega
    ·simp at hk
  have:=wBad_false.1 hb;rw [Uf (by omega)];omega
theorem Z' {l:List Fld} {k:Nat} (hk:k<i) (hi:i<=l.length):fldE (l.take i) k ((l.take i).getD k default)=fldE l k (l.getD k default):=by
 have e1:(l.take i).getD k default=l.getD k default:=by
  rw [Q3,Q3,List.getElem?_take,aB hk]
 rw [e1];unfold fldE dupN;rw [List.take_take,Nat.min_eq_left (by omega)]
theorem Fy (h:Xj) (hn:h.name.length<2^40) (hf:∀f∈h.Ya,f.name.length<2^40):a9 Φ CO [.agg (Xj.c h)]=some (.val (a8 (hdrE h))):=by
 rw [aA rfl rfl];have n1:=HK h.name hn;cases q1:idS h.name with
 | false=>rw [q1] at n1;simp [pU,Xj.e,n1,hdrE,q1]
 | true=>
 rw [q1] at n1;by_cases z0:h.Ya.length=0
 ·simp [pU,Xj.e,n1,hdrE,q1,z0]
 by_cases z1:12<h.Ya.length
 ·simp [pU,Xj.e,n1,hdrE,q1,z0,z1]
 have hE:hdrE h=hdrR h.Ya 0:=by simp [hdrE,q1,z0,z1,hdrR,P9]<;>rfl
 rw [hE];simp [pU,Xj.e,n1,z0,z1];refine dK h.Ya.length (fun _=>[]) 0 (fun i e=>look 1 e=some (.iptr 2 [Xj.c h] 0 0)/\look 3 e=some (a8 (wSum (h.Ya.take i)))/\look 4 e=some (a8 i)/\
   ∀k,k<i->fldE h.Ya k (h.Ya.getD k default)=0)
  (fun i=>some (Rt.val (a8 (hdrR h.Ya i)))) ?_ ?_ 0 _ 0 (Qc _) (Qb _) ?_
 ·rintro i e n L hi hL _ ⟨h1,h3,h4,hz⟩ ih;have hw:=aL i (by omega);have nf:=HK h.Ya[i].name (hf _ (Qd hi));have ni:=qtr h h.Ya[i].name (by omega);obtain ⟨at',k1,k2⟩:=Wl (q:=fun f:Fld=>decide (f.name=h.Ya[i].name)) hi (by simp) i 0 (by omega);rw [k1] at ni;rw [R5,show (h.Ya.take i).any (fun f=>decide (f.name=h.Ya[i].name))=dupN Fld.name h.Ya i h.Ya[i] from rfl] at k2;simp only [fxT,Xj.e] at ni;rw [Xj.e] at h1;cases p1:idS h.Ya[i].name with
  | false=>
   rw [p1] at nf;rw [LN hi (by simp [fldE,p1])];simp [c_198_l0,Fld.e,h1,h4,hi,nf,ni,fldE,p1]
  | true=>
  rw [p1] at nf;by_cases w1:h.Ya[i].Yd<1
  ·rw [LN hi (by simp [fldE,p1,wBad,w1])];simp [c_198_l0,Fld.e,h1,h4,hi,nf,ni,fldE,p1,wBad,w1]
  by_cases w2:32<h.Ya[i].Yd
  ·rw [LN hi (by simp [fldE,p1,wBad,w2])];simp [c_198_l0,Fld.e,h1,h4,hi,nf,ni,fldE,p1,wBad,w1,w2]
  cases p3:dupN Fld.name h.Ya i h.Ya[i] with
  | true=>
   rw [p3] at k2;have k3:at'<i:=by simpa using k2
   rw [LN hi (by simp [fldE,p1,wBad,w1,w2,p3])];simp [c_198_l0,Fld.e,h1,h4,hi,nf,ni,fldE,p1,wBad,w1,w2,p3,k3]
  | false=>
   rw [p3] at k2;have k3:¬at'<i:=by simpa using k2
   have hz':∀k,k<i+1->fldE h.Ya k (h.Ya.getD k default)=0:=by
    intro k hk;rcases Nat.lt_succ_iff_lt_or_eq.1 hk with hlt | rfl
    ·exact hz k hlt
    ·rw [Q3,Qa hi,sY];simp [fldE,p1,wBad,w1,w2,p3]
   have hs:=qq4 (h.Ya.take (i+1)) (by intro k hk;simp at hk;rw [Z' (by omega) (by omega)];exact hz' k (by omega)) (i+1) (by simp;omega);rw [List.take_take,Nat.min_self,Uf hi] at hs;have hw3:IntKind.wrap .i64 (wSum (h.Ya.take i)+h.Ya[i].Yd)=wSum (h.Ya.take i)+h.Ya[i].Yd:=bJ (by omega) (by omega);rw [qso hi (by simp [fldE,p1,wBad,w1,w2,p3])];simp [c_198_l0,Fld.e,h1,h3,h4,hi,nf,ni,w1,w2,k3,hw,hw3];exact ih _ _ (Qc _) ⟨by simp [h1,Xj.e],by simp [Uf hi],by simp,hz'⟩
 ·rintro e n L hL _ ⟨h1,h3,h4,hz⟩;have hs:=(qq4 h.Ya hz h.Ya.length (Qb _)).1;rw [i9] at h3 hs;have e3:wSum h.Ya % 8=(wSum h.Ya).tmod 8:=(WJ hs).symm;rw [qvc,e3];rw [Xj.e] at h1;by_cases z:(wSum h.Ya).tmod 8=0
  ·simp [c_198_l0,c_198_k1,h1,h3,h4,hL,z]
  ·simp [c_198_l0,c_198_k1,h1,h3,h4,hL,z]
 ·simp [Xj.e,wSum]
theorem Ew (r:Xh) (hs:r.name.length<2^40):a9 Φ CQ [.agg (Xh.c r)]=some (.val (a8 (regE r))):=by
 rw [aA rfl rfl];have h1:=HK r.name hs;cases q1:idS r.name with
 | false=>rw [q1] at h1;simp [lA,Xh.e,h1,regE,q1]
 | true=>
  rw [q1] at h1;by_cases w1:r.Yd<1
  ·simp [lA,Xh.e,h1,regE,q1,wBad,w1]
  by_cases w2:32<r.Yd
  ·simp [lA,Xh.e,h1,regE,q1,wBad,w1,w2]
  by_cases z1:r.size<1
  ·simp [lA,Xh.e,h1,regE,q1,wBad,w1,w2,z1]
  by_cases z2:64<r.size
  ·simp [lA,Xh.e,h1,regE,q1,wBad,w1,w2,z1,z2]
  simp [lA,Xh.e,h1,regE,q1,wBad,w1,w2,z1,z2]
theorem qog (h i:Int):a9 Φ rO [.agg (Prg.c p),.agg [a8 h,a8 i]]=some (.val (match decl p h i with
  | some w=> .tup [.int .i64 w,.bool true]
  | none=> .tup [.int .i64 0,.bool false])):=by
 rw [aA rfl rfl,YC];by_cases hm:h= -1
 ·subst hm;by_cases i0:i<0
  ·rw [show dF p (-1) i=none by simp [dF,iI i0]];simp [iC,Prg.e,i0]
  by_cases i1:(p.Xo.length:Int)<=i
  ·rw [show dF p (-1) i=none by simp [dF,iH i1]];simp [iC,Prg.e,i0,i1]
  obtain ⟨k,rfl⟩:∃k:Nat,i=k:=⟨i.toNat,by omega⟩;have hk:k<p.Xo.length:=by omega
  rw [show dF p (-1) k=some p.Xo[k] by simp [dF,hk]];simp [iC,Prg.e,i0,i1,hk,Fld.e]
 by_cases h0:h<0
 ·rw [show dF p h i=none by simp [dF,hm,iI h0]];simp [iC,Prg.e,hm,h0]
 by_cases h1:(p.Xp.length:Int)<=h
 ·rw [show dF p h i=none by simp [dF,hm,iH h1]];simp [iC,Prg.e,hm,h0,h1]
 obtain ⟨m,rfl⟩:∃k:Nat,h=k:=⟨h.toNat,by omega⟩;have hk:m<p.Xp.length:=by omega
 by_cases i0:i<0
 ·rw [show dF p m i=none by simp [dF,hm,hk,iI i0]];simp [iC,Prg.e,hm,hk,Qf.2 hk,i0,Xj.e]
 by_cases i1:(p.Xp[m].Ya.length:Int)<=i
 ·rw [show dF p m i=none by simp [dF,hm,hk,iH i1]];simp [iC,Prg.e,hm,hk,Qf.2 hk,i0,i1,Xj.e]
 obtain ⟨k,rfl⟩:∃k:Nat,i=k:=⟨i.toNat,by omega⟩;have hk2:k<p.Xp[m].Ya.length:=by omega
 rw [show dF p m k=some p.Xp[m].Ya[k] by simp [dF,hm,hk,hk2]];simp [iC,Prg.e,hm,hk,Qf.2 hk,hk2,Qf.2 hk2,Xj.e,Fld.e]
theorem Y2 (w:Int):a9 Φ nW [a8 w]=some (.val (.tup [a8 (wide w).1,a8 (wide w).2])):=by
 rw [aA rfl rfl];by_cases h1:w<1
 ·simp [uW,wide,wBad,h1]
 by_cases h2:32<w
 ·simp [uW,wide,wBad,h1,h2]
 simp [uW,wide,wBad,h1,h2]
theorem qv5 (w:Int):a9 Φ wM [a8 w]=some (.val (.int .u32 (eC w))):=by
 rw [aA rfl rfl];have h1:=XP w;cases q:wBad w with
 | true=>
  rw [q] at h1;simp [BI,h1,eC,q]
 | false=>
  rw [q] at h1;obtain ⟨w1,w2⟩:=wBad_false.1 q;obtain ⟨k,rfl⟩:∃k:Nat,w=k:=⟨w.toNat,by omega⟩;have h2:=XW k (by omega);have hb:(2:Int)^k<=2^32:=by
   have:=MN (n:=2) (by omega) (show k<=32 by omega)
   exact_mod_cast this
  have h0:(0:Int)<2^k:=by
   have:=Nat.pow_pos (a:=2) (n:=k) (by omega)
   exact_mod_cast this
  have c1:IntKind.wrap .u64 ((2:Int)^k - 1)=2^k - 1:=YI (by omega) (by omega);have c2:IntKind.wrap .u32 ((2:Int)^k - 1)=2^k - 1:=Yp (by omega) (by omega);simp [BI,h1,h2,c1,c2,eC,q]
theorem Jz (ps:List Fld) (x:Xe):a9 Φ EB [.agg (Xe.c x),.agg (scC p ps)]=some (.val (.tup [a8 (prim p ps x).1,a8 (prim p ps x).2])):=by
 rw [aA rfl rfl];by_cases o1:x.op=1
 ·have hw:=Y2 x.w;have hm:=qv5 x.w;have hmw:=qqj x.w;cases q:wBad x.w with
  | true=>
   simp [wide,q] at hw;simp [eT,aK,Xe.e,o1,prim,hw,q]
  | false=>
   simp [wide,q] at hw;by_cases n0:x.n<0
   ·simp [eT,aK,Xe.e,o1,prim,hw,q,n0]
   have e:eC x.w=2^x.w.toNat - 1:=by simp [eC,q]
   rw [e] at hm hmw;by_cases n1:2^x.w.toNat - 1<x.n
   ·simp [eT,aK,Xe.e,o1,prim,hw,hm,hmw,q,n0,n1]
   ·simp [eT,aK,Xe.e,o1,prim,hw,hm,hmw,q,n0,n1]
 by_cases o2:x.op=2
 ·have hf:=qog p x.n x.w;simp only [Prg.e] at hf;cases q:decl p x.n x.w with
  | none=>
   rw [q] at hf;simp [eT,aK,Xe.e,o2,prim,hf,q]
  | some w=>
   rw [q] at hf;have hw:=Y2 w;simp [eT,aK,Xe.e,o2,prim,hf,hw,q]
 by_cases o3:x.op=3
 ·by_cases n0:x.n<0
  ·simp [eT,aK,Xe.e,o3,prim,n0,iI n0]
  by_cases n1:(ps.length:Int)<=x.n
  ·simp [eT,aK,Xe.e,o3,prim,n0,n1,iH n1]
  obtain ⟨k,hk⟩:∃k:Nat,x.n=k:=⟨x.n.toNat,by omega⟩;have hk2:k<ps.length:=by omega
  have hw:=Y2 ps[k].Yd;simp [eT,aK,Xe.e,Fld.e,o3,prim,hk,hk2,Qf.2 hk2,hw]
 by_cases n0:x.n<0
 ·simp [eT,aK,Xe.e,o1,o2,o3,prim,n0,iI n0]
 by_cases n1:(p.Xp.length:Int)<=x.n
 ·simp [eT,aK,Xe.e,o1,o2,o3,prim,n0,n1,iH n1]
 obtain ⟨k,hk⟩:∃k:Nat,x.n=k:=⟨x.n.toNat,by omega⟩;have hk2:k<p.Xp.length:=by omega
 simp [eT,aK,Xe.e,o1,o2,o3,prim,hk,hk2,Qf.2 hk2]
theorem Bg (op:Int):a9 Φ EA [a8 op]=some (.val (a8 (ari op))):=by
 rw [aA rfl rfl];rcases (show op<1\/(1<=op/\op<=4)\/(5<=op/\op<=8)\/(9<=op/\op<=16)\/op=17\/17<op by omega) with h | h | h | h | h | h
 ·have e:ari op= -1:=by unfold ari;rw [QA (by omega),QA (by omega),QA (by omega),QA (by omega)]
  rw [e];simp [lC,show ¬1<=op by omega,show ¬5<=op by omega,show ¬9<=op by omega,show ¬op=17 by omega]
 ·simp [lC,ari,h]
 ·simp [lC,ari,h,show 1<=op by omega,show ¬op<=4 by omega]
 ·simp [lC,ari,h,show 1<=op by omega,show ¬op<=4 by omega,show 5<=op by omega,show ¬op<=8 by omega]
 ·subst h;simp [lC,ari]
 ·have e:ari op= -1:=by unfold ari;rw [QA (by omega),QA (by omega),QA (by omega),QA (by omega)]
  rw [e];simp [lC,show 1<=op by omega,show ¬op<=4 by omega,show 5<=op by omega,show ¬op<=8 by omega,show 9<=op by omega,show ¬op<=16 by omega,show ¬op=17 by omega]
variable {op:Int}
theorem ari_1 (h:ari op=1):op=5\/op=6\/op=7\/op=8:=by
 unfold ari at h;split at h
 ·omega
 split at h
 ·omega
 split at h
 ·omega
 split at h<;>omega
theorem ari_2 (h:ari op=2):9<=op/\op<=16:=by
 unfold ari at h;split at h
 ·omega
 split at h
 ·omega
 split at h
 ·omega
 split at h<;>omega
theorem ari_3 (h:ari op=3):op=17:=by
 unfold ari at h;split at h
 ·omega
 split at h
 ·omega
 split at h
 ·omega
 split at h<;>omega
theorem qvm (x:Xe) (a:Int) (ha:0<=a/\a<=32) (hx:ari x.op=1):a9 Φ rY [.agg (Xe.c x),.slice 1 [[a8 a]]]=some (.val (.tup [a8 (comb x a 0 0).1,a8 (comb x a 0 0).2])):=by
 rw [aA rfl rfl];rcases ari_1 hx with o | o | o | o
 ·simp [bZ,Xe.e,o,comb,ari]
 ·by_cases n0:x.n<0
  ·simp [bZ,Xe.e,o,comb,n0]
  by_cases n1:31<x.n
  ·simp [bZ,Xe.e,o,comb,n0,n1]
  simp [bZ,Xe.e,o,comb,n0,n1]
 ·by_cases n0:x.n<0
  ·simp [bZ,Xe.e,o,comb,n0]
  by_cases n1:31<x.n
  ·simp [bZ,Xe.e,o,comb,n0,n1]
  simp [bZ,Xe.e,o,comb,n0,n1]
 ·by_cases n0:x.n<0
  ·simp [bZ,Xe.e,o,comb,n0]
  by_cases w1:x.w<1
  ·simp [bZ,Xe.e,o,comb,n0,wBad,w1]
  by_cases w2:32<x.w
  ·simp [bZ,Xe.e,o,comb,n0,wBad,w1,w2]
  have hs:IntKind.wrap .i64 (a - x.w)=a - x.w:=bJ (by omega) (by omega);by_cases n1:a - x.w<x.n
  ·simp [bZ,Xe.e,o,comb,n0,wBad,w1,w2,hs,n1]
  ·simp [bZ,Xe.e,o,comb,n0,wBad,w1,w2,hs,n1]
theorem qvn (x:Xe) (a b:Int) (ha:0<=a/\a<=32) (hb:0<=b/\b<=32) (hx:ari x.op=2):a9 Φ rY [.agg (Xe.c x),.slice 1 [[a8 a],[a8 b]]]=some (.val (.tup [a8 (comb x a b 0).1,a8 (comb x a b 0).2])):=by
 rw [aA rfl rfl];have hr:=ari_2 hx;have o5:¬x.op=5:=by omega
 have o6:¬x.op=6:=by omega
 have o7:¬x.op=7:=by omega
 have o8:¬x.op=8:=by omega
 have o17:¬x.op=17:=by omega
 have hab:IntKind.wrap .i64 (a+b)=a+b:=bJ (by omega) (by omega);have hw2:=Y2 (a+b);by_cases o14:x.op=14
 ·simp [bZ,Xe.e,o14,comb,hab,hw2]
 by_cases ab:a=b
 ·by_cases o15:x.op=15
  ·simp [bZ,Xe.e,o15,comb,ab]
  by_cases o16:x.op=16
  ·simp [bZ,Xe.e,o16,comb,ab]
  simp [bZ,Xe.e,o5,o6,o7,o8,o14,o15,o16,o17,comb,hx,ab]
 ·simp [bZ,Xe.e,o5,o6,o7,o8,o14,o17,comb,hx,ab]
theorem qvo (x:Xe) (a b c:Int) (hx:ari x.op=3):a9 Φ rY [.agg (Xe.c x),.slice 1 [[a8 a],[a8 b],[a8 c]]]=some (.val (.tup [a8 (comb x a b c).1,a8 (comb x a b c).2])):=by
 rw [aA rfl rfl];have o:=ari_3 hx;by_cases a1:a=1
 ·by_cases bc:b=c
  ·simp [bZ,Xe.e,o,comb,a1,bc]
  ·simp [bZ,Xe.e,o,comb,a1,bc]
 ·simp [bZ,Xe.e,o,comb,a1]
theorem U2 (p:Prg) (ps:List Fld) (l:List Xe) (hl:l.length<2^40):∀n i,l.length - i<n->i<=l.length->chkR (chk p ps l n i) (a9 Φ rW [.slice 3 (l.map Xe.c),a8 (i:Nat),.agg (scC p ps)])
 | 0,i,h,hle=>by omega
 | n+1,i,h,hle=>by
  rw [aA rfl rfl];by_cases hi:i<l.length
  rotate_left
  ·have:i=l.length:=by omega
   subst this;simp [chk,chkR,jQ,aK]
  have ih1:=U2 p ps l hl n (i+1) (by omega) (by omega);have hA:=Bg l[i].op;have hP:=Jz p ps l[i];have hw:IntKind.wrap .i64 ((i:Int)+1)=(i:Int)+1:=bJ (by omega) (by omega);have e1:((i+1:Nat):Int)=(i:Int)+1:=by omega
  rw [e1] at ih1;simp only [aK,Xe.e] at ih1 hP;simp only [chk,Qa hi];rcases qsb l[i].op with k | k | k | k | k
  ·rw [k] at hA;simp [chkR,jQ,aK,Xe.e,hi,Qf.2 hi,hA,k]
  ·rw [k] at hA;by_cases z:(prim p ps l[i]).2=0
   ·rw [z] at hP;simp [chkR,jQ,aK,Xe.e,hi,Qf.2 hi,hA,k,hP,z,hw]
   ·simp [chkR,jQ,aK,Xe.e,hi,Qf.2 hi,hA,k,hP,z,hw]
  ·rw [k] at hA;simp [jQ,aK,Xe.e,hi,Qf.2 hi,hA,k,hw];rw [bG];cases h1:chk p ps l n (i+1) with
   | error e=>
    rw [h1] at ih1;obtain ⟨he,a,b,hc⟩:=ih1;simp [c_302_l0,chkR,hc,he]
   | ok q=>
    obtain ⟨a,i1⟩:=q;rw [h1] at ih1;obtain ⟨ra,r1,r2⟩:=yH h1;have hC:=qvm l[i] a (by omega) k;simp only [Xe.e] at hC;simp only [chkR] at ih1;simp [c_302_l0,ih1];rw [bG];simp [wr1,c_302_k1,hi,Xe.e,hC];exact R7 _ _ _
  ·rw [k] at hA;simp [jQ,aK,Xe.e,hi,Qf.2 hi,hA,k,hw];rw [bG];cases h1:chk p ps l n (i+1) with
   | error e=>
    rw [h1] at ih1;obtain ⟨he,a,b,hc⟩:=ih1;simp [c_302_l0,chkR,hc,he]
   | ok q=>
    obtain ⟨a,i1⟩:=q;rw [h1] at ih1;obtain ⟨ra,r1,r2⟩:=yH h1;simp only [chkR] at ih1;simp [c_302_l0,ih1];rw [bG];have ih2:=U2 p ps l hl n i1 (by omega) (by omega);simp only [aK] at ih2;cases h2:chk p ps l n i1 with
    | error e=>
     rw [h2] at ih2;obtain ⟨he,x,y,hc⟩:=ih2;simp [chkR,hc,he,wr1]
    | ok q=>
     obtain ⟨b,i2⟩:=q;rw [h2] at ih2;obtain ⟨rb,s1,s2⟩:=yH h2;simp only [chkR] at ih2;have hC:=qvn l[i] a b (by omega) (by omega) k;simp only [Xe.e] at hC;simp [ih2,wr1];rw [bG];simp [wr2,c_302_k1,hi,Xe.e,hC];exact R7 _ _ _
  ·rw [k] at hA;simp [jQ,aK,Xe.e,hi,Qf.2 hi,hA,k,hw];rw [bG];cases h1:chk p ps l n (i+1) with
   | error e=>
    rw [h1] at ih1;obtain ⟨he,a,b,hc⟩:=ih1;simp [c_302_l0,chkR,hc,he]
   | ok q=>
    obtain ⟨a,i1⟩:=q;rw [h1] at ih1;obtain ⟨ra,r1,r2⟩:=yH h1;simp only [chkR] at ih1;simp [c_302_l0,ih1];rw [bG];have ih2:=U2 p ps l hl n i1 (by omega) (by omega);simp only [aK] at ih2;cases h2:chk p ps l n i1 with
    | error e=>
     rw [h2] at ih2;obtain ⟨he,x,y,hc⟩:=ih2;simp [chkR,hc,he,wr1]
    | ok q=>
     obtain ⟨b,i2⟩:=q;rw [h2] at ih2;obtain ⟨rb,s1,s2⟩:=yH h2;simp only [chkR] at ih2;simp [ih2,wr1];rw [bG];have ih3:=U2 p ps l hl n i2 (by omega) (by omega);simp only [aK] at ih3;cases h3:chk p ps l n i2 with
     | error e=>
      rw [h3] at ih3;obtain ⟨he,x,y,hc⟩:=ih3;simp [chkR,hc,he,wr2]
     | ok q=>
      obtain ⟨c,i3⟩:=q;rw [h3] at ih3;simp only [chkR] at ih3;have hC:=qvo l[i] a b c k;simp only [Xe.e] at hC;simp [ih3,wr2];rw [bG];simp [wr3,c_302_k1,hi,Xe.e,hC];exact R7 _ _ _
theorem Vl (ps:List Fld) (l:List Xe):a9 Φ nS [.slice 3 (l.map Xe.c),.agg (scC p ps)]=some (.val (.tup [a8 (exE p ps l).1,a8 (exE p ps l).2])):=by
 rw [aA rfl rfl];by_cases h:24<l.length
 ·simp [qC,aK,h,exE]
 have hc:=U2 p ps l (by omega) (l.length+1) 0 (by omega) (by omega);simp only [aK,Int.ofNat_zero] at hc;cases q:chk p ps l (l.length+1) 0 with
 | error e=>
  rw [q] at hc;obtain ⟨he,a,b,hc⟩:=hc;simp [qC,aK,h,exE,q,hc,he]
 | ok r=>
  obtain ⟨w,j⟩:=r;rw [q] at hc;simp only [chkR] at hc;by_cases hj:j<l.length
  ·simp [qC,aK,h,exE,q,hc,hj]
  ·simp [qC,aK,h,exE,q,hc,hj]
theorem Gq (ps:List Fld) (l:List Xe) (w:Int):a9 Φ rP [.slice 3 (l.map Xe.c),.agg (scC p ps),a8 w]=some (.val (a8 (valE p ps l w))):=by
 rw [aA rfl rfl];have h:=Vl p ps l;simp only [aK] at h;by_cases z:(exE p ps l).2=0
 ·rw [z] at h;by_cases y:(exE p ps l).1=w
  ·simp [uO,aK,h,valE,z,y]
  ·simp [uO,aK,h,valE,z,y]
 ·simp [uO,aK,h,valE,z]
theorem Ez (ps:List Fld) (s:Xg):a9 Φ DG [.agg (Prg.c p),.agg (Xg.c s),.agg (scC p ps)]=some (.val (a8 (stmE p ps s))):=by
 rw [aA rfl rfl];have hd:=qog p s.dst.header s.dst.field;have hi:=Vl p ps s.index;simp only [Prg.e] at hd;simp only [aK] at hi;have hr:(s.Yf<0/\at? p.Xm s.Yf=none)\/(¬s.Yf<0/\(p.Xm.length:Int)<=s.Yf/\at? p.Xm s.Yf=none)\/∃k:Nat,∃h:k<p.Xm.length,s.Yf=k/\at? p.Xm s.Yf=some p.Xm[k]:=by
  by_cases h0:s.Yf<0
  ·exact .inl ⟨h0,iI h0⟩
  by_cases h1:(p.Xm.length:Int)<=s.Yf
  ·exact .inr (.inl ⟨h0,h1,iH h1⟩)
  obtain ⟨k,hk⟩:∃k:Nat,s.Yf=k:=⟨s.Yf.toNat,by omega⟩;exact .inr (.inr ⟨k,by omega,hk,by rw [hk];simp⟩)
 have hx:∀w,a9 Φ rP [.slice 3 (s.value.map Xe.c),.agg (scC p ps),a8 w]=some (.val (a8 (valE p ps s.value w))):=Gq p ps s.value;simp only [aK] at hx;have hd':a9 Φ rO [.agg (mN p []),.agg [a8 s.dst.header,a8 s.dst.field]]=
   some (.val (.tup [a8 ((decl p s.dst.header s.dst.field).getD 0),.bool (decl p s.dst.header s.dst.field).isSome])):=by
  rw [hd];cases decl p s.dst.header s.dst.field<;>rfl
 clear hd;by_cases k1:s.kind=1
 ·rcases hr with ⟨r0,rn⟩ | ⟨r0,r1,rn⟩ | ⟨m,hm,rk,rn⟩<;>cases qd:decl p s.dst.header s.dst.field<;>rw [qd] at hd'
  ·simp [bB,Prg.e,aK,Xg.e,hd',stmE,qd,k1,p9.2 r0]
  ·simp [bB,Prg.e,aK,Xg.e,hd',stmE,qd,k1,p9.2 r0,hx]
  ·simp [bB,Prg.e,aK,Xg.e,hd',stmE,qd,k1,fV.1 r0,fV.2 r1]
  ·simp [bB,Prg.e,aK,Xg.e,hd',stmE,qd,k1,fV.1 r0,fV.2 r1,hx]
  ·simp [bB,Prg.e,aK,Xg.e,hd',stmE,qd,k1,rk,hm]
  ·simp [bB,Prg.e,aK,Xg.e,hd',stmE,qd,k1,rk,hm,hx]
 by_cases k2:s.kind=2
 ·have e:stmE p ps s=if (at? p.Xp s.header).isSome then 0 else 8:=by simp [stmE,k2]
  rw [e,XH];by_cases h0:s.header<0<;>by_cases h1:(p.Xp.length:Int)<=s.header<;>rcases hr with ⟨r0,rn⟩ | ⟨r0,r1,rn⟩ | ⟨m,hm,rk,rn⟩
  all_goals first
   | simp [bB,Prg.e,aK,Xg.e,hd',k2,p9.2 r0,h0,h1]
   | simp [bB,Prg.e,aK,Xg.e,hd',k2,fV.1 r0,fV.2 r1,h0,h1]
   | simp [bB,Prg.e,aK,Xg.e,hd',k2,rk,hm,h0,h1]
 by_cases k3:s.kind=3
 ·have e:stmE p ps s=if (at? p.Xp s.header).isSome then 0 else 8:=by simp [stmE,k3]
  rw [e,XH];by_cases h0:s.header<0<;>by_cases h1:(p.Xp.length:Int)<=s.header<;>rcases hr with ⟨r0,rn⟩ | ⟨r0,r1,rn⟩ | ⟨m,hm,rk,rn⟩
  all_goals first
   | simp [bB,Prg.e,aK,Xg.e,hd',k3,p9.2 r0,h0,h1]
   | simp [bB,Prg.e,aK,Xg.e,hd',k3,fV.1 r0,fV.2 r1,h0,h1]
   | simp [bB,Prg.e,aK,Xg.e,hd',k3,rk,hm,h0,h1]
 by_cases k4:s.kind=4
 ·cases qd:decl p s.dst.header s.dst.field with
  | none=>
   rw [qd] at hd';rcases hr with ⟨r0,rn⟩ | ⟨r0,r1,rn⟩ | ⟨m,hm,rk,rn⟩
   ·simp [bB,Prg.e,aK,Xg.e,hd',stmE,k4,p9.2 r0,rn,qd]
   ·simp [bB,Prg.e,aK,Xg.e,hd',stmE,k4,fV.1 r0,fV.2 r1,rn,qd]
   ·rw [rk] at rn;simp [bB,Prg.e,aK,Xg.e,hd',stmE,k4,rk,hm,rn,qd]
  | some w=>
   rw [qd] at hd';rcases hr with ⟨r0,rn⟩ | ⟨r0,r1,rn⟩ | ⟨m,hm,rk,rn⟩
   ·simp [bB,Prg.e,aK,Xg.e,hd',stmE,k4,p9.2 r0,rn,qd]
   ·simp [bB,Prg.e,aK,Xg.e,hd',stmE,k4,fV.1 r0,fV.2 r1,rn,qd]
   ·rw [rk] at rn;by_cases z:(exE p ps s.index).2=0
    ·rw [z] at hi;by_cases y:w=p.Xm[m].Yd
     ·simp [bB,Prg.e,aK,Xg.e,Xh.e,hd',stmE,k4,rk,hm,rn,qd,hi,z,y]
     ·simp [bB,Prg.e,aK,Xg.e,Xh.e,hd',stmE,k4,rk,hm,rn,qd,hi,z,y]
    ·simp [bB,Prg.e,aK,Xg.e,hd',stmE,k4,rk,hm,rn,qd,hi,z]
 by_cases k5:s.kind=5
 ·rcases hr with ⟨r0,rn⟩ | ⟨r0,r1,rn⟩ | ⟨m,hm,rk,rn⟩
  ·simp [bB,Prg.e,aK,Xg.e,hd',stmE,k5,p9.2 r0,rn]
  ·simp [bB,Prg.e,aK,Xg.e,hd',stmE,k5,fV.1 r0,fV.2 r1,rn]
  ·rw [rk] at rn;by_cases z:(exE p ps s.index).2=0
   ·rw [z] at hi;simp [bB,Prg.e,aK,Xg.e,Xh.e,hd',stmE,k5,rk,hm,rn,hi,z,hx]
   ·simp [bB,Prg.e,aK,Xg.e,hd',stmE,k5,rk,hm,rn,hi,z]
 rcases hr with ⟨r0,rn⟩ | ⟨r0,r1,rn⟩ | ⟨m,hm,rk,rn⟩
 ·simp [bB,Prg.e,aK,Xg.e,hd',stmE,k1,k2,k3,k4,k5,p9.2 r0]
 ·simp [bB,Prg.e,aK,Xg.e,hd',stmE,k1,k2,k3,k4,k5,fV.1 r0,fV.2 r1]
 ·simp [bB,Prg.e,aK,Xg.e,hd',stmE,k1,k2,k3,k4,k5,rk,hm]
theorem Bx (l:List Fld) (hl:l.length<2^40) (hf:∀f∈l,f.name.length<2^40):a9 Φ vW [.slice 2 (l.map Fld.c)]=some (.val (a8 (errO (P9 l)))):=by
 rw [aA rfl rfl,show P9 l=fe (actG l) l.length 0 from rfl];simp [KM];refine fJ l.length (fun i e=>look 0 e=some (.slice 2 (l.map Fld.c))/\look 3 e=some (a8 i))
  (fun i=>some (Rt.val (a8 (errO (fe (actG l) l.length i))))) ?_ ?_ 0 _ (Qc _) ?_
 ·rintro i e L hi hL ⟨h0,h3⟩ ih;have hw:=aL i (by omega);have nf:=HK l[i].name (hf _ (Qd hi));cases p1:idS l[i].name with
  | false=>
   rw [p1] at nf;rw [aZ (x:=6) hi (by simp [actG,hi,fldE,p1,er])];simp [c_244_l2,Fld.e,h0,h3,hi,nf]
  | true=>
  rw [p1] at nf;by_cases w1:l[i].Yd<1
  ·rw [aZ (x:=10) hi (by simp [actG,hi,fldE,p1,wBad,w1,er])];simp [c_244_l2,Fld.e,h0,h3,hi,nf,w1]
  by_cases w2:32<l[i].Yd
  ·rw [aZ (x:=10) hi (by simp [actG,hi,fldE,p1,wBad,w2,er])];simp [c_244_l2,Fld.e,h0,h3,hi,nf,w1,w2]
  generalize hX:some (Rt.val (a8 (errO (fe (actG l) l.length i))))=X;simp [c_244_l2,Fld.e,h0,h3,hi,nf,w1,w2];refine (zJ (l.take i) (fun g=>decide (g.name=l[i].name)) (some (Rt.val (a8 7))) (some (Rt.val (a8 (errO (fe (actG l) l.length (i+1))))))
   (fun k e H=>look 0 e=some (.slice 2 (l.map Fld.c))/\look 3 e=some (a8 i)/\look 4 e=some (a8 k)/\H=⟨[],0⟩/\(0<k->mK (l.take i) (fun g=>decide (g.name=l[i].name)) 0=mK (l.take i) (fun g=>decide (g.name=l[i].name)) k)) ?_ ?_ ?_ _ _ ?_).trans ?_
  ·rintro k e _ L' hk hL' ⟨h0,h3,h4,rfl,_⟩ hb;simp only [fU] at hk;have hk1:k<i:=by omega
   have hk2:k<l.length:=by omega
   simp only [mG,decide_eq_true_eq] at hb;simp [c_244_l0,Fld.e,h0,h3,h4,hk1,hk2,hi,hb]
  ·rintro k e _ L' X hk hL' ⟨h0,h3,h4,rfl,hy⟩ hb ih';have hb':=hb;have hk0:=hk;simp only [fU] at hk;have hk1:k<i:=by omega
   have hk2:k<l.length:=by omega
   simp only [mG,decide_eq_false_iff_not] at hb;have hw':=aL k (by omega);simp [c_244_l0,Fld.e,h0,h3,h4,hk1,hk2,hi,hb,hw'];refine ih' _ _ ⟨by simp [h0],by simp [h3],by simp,rfl,fun _=>?_⟩;rcases Qw k with rfl | hp
   ·exact HN hk0 hb'
   ·rw [hy hp];exact HN hk0 hb'
  ·rintro e _ L' hL' ⟨h0,h3,h4,rfl,hy⟩;have hm:min i l.length=i:=by omega
   simp [hm] at h4;simp [c_244_l0,c_244_k1,h3,h4,hL',hw];exact ih _ ⟨by simp [h0],by simp⟩
  ·simp [h0,h3]
  ·rw [<- hX];cases p3:dupN Fld.name l i l[i] with
   | true=>
    rw [aZ (x:=7) hi (by simp [actG,hi,fldE,p1,wBad,w1,w2,p3,er])];unfold dupN at p3;rw [p3];rfl
   | false=>
    rw [cZ hi (by simp [actG,hi,fldE,p1,wBad,w1,w2,p3])];unfold dupN at p3;rw [p3];rfl
 ·rintro e L hL ⟨h0,h3⟩;rw [dV];simp [c_244_l2,c_244_k3,h0,h3,hL]
 ·simp
theorem Gr (k:Nat) (hk:k<p.Xy.length):a9 Φ DH [.agg (Prg.c p),a8 k]=some (.val (.agg (scC p p.Xy[k].params))):=by
 rw [aA rfl rfl];simp [KN,Prg.e,aK,Action.e,hk]
theorem Fl (f:PrgS p) (i:Int):a9 Φ CR [.agg (Prg.c p),a8 i]=some (.val (.tup [a8 (actE p i).1,a8 (actE p i).2])):=by
 rw [aA rfl rfl];by_cases i0:i<0
 ·simp [jN,Prg.e,i0,actE,iI i0]
 by_cases i1:(p.Xy.length:Int)<=i
 ·simp [jN,Prg.e,i0,i1,actE,iH i1]
 obtain ⟨k,rfl⟩:∃k:Nat,i=k:=⟨i.toNat,by omega⟩;have hk:k<p.Xy.length:=by omega
 have hm:=Qd hk;have n1:=HK p.Xy[k].name (f.an _ hm);have n2:=Bx p.Xy[k].params (f.ap _ hm) (f.apn _ hm);cases q1:idS p.Xy[k].name with
 | false=>rw [q1] at n1;simp [jN,Prg.e,Action.e,hk,Qf.2 hk,n1,actE,actD,q1]
 | true=>
 rw [q1] at n1;by_cases z0:4<p.Xy[k].params.length
 ·simp [jN,Prg.e,Action.e,hk,Qf.2 hk,n1,actE,actD,q1,z0]
 by_cases z1:12<p.Xy[k].body.length
 ·simp [jN,Prg.e,Action.e,hk,Qf.2 hk,n1,actE,actD,q1,z0,z1]
 by_cases z2:errO (P9 p.Xy[k].params)=0
 rotate_left
 ·simp [jN,Prg.e,Action.e,hk,Qf.2 hk,n1,n2,actE,actD,q1,z0,z1,z2]
 rw [z2] at n2;have hE:actE p k=(fe (G5 p p.Xy[k]) p.Xy[k].body.length 0).getD (0,0):=by simp [actE,actD,hk,q1,z0,z1,z2]<;>rfl
 rw [hE];simp [jN,Prg.e,Action.e,hk,Qf.2 hk,n1,n2,z0,z1];have hb:=f.ab _ hm;refine dK p.Xy[k].body.length (fun _=>[]) 0 (fun i e=>look 1 e=some (a8 k)/\look 2 e=some (.iptr 9 [Prg.c p] 0 0)/\look 6 e=some (.iptr 3 [Action.c p.Xy[k]] 0 0)/\look 7 e=some (a8 i))
  (fun i=>some (Rt.val (.tup [a8 ((fe (G5 p p.Xy[k]) p.Xy[k].body.length i).getD (0,0)).1,a8 ((fe (G5 p p.Xy[k]) p.Xy[k].body.length i).getD (0,0)).2]))) ?_ ?_ 0 _ _ (Qc _) (Qc _) ?_
 ·rintro i e n L hi hL _ ⟨h1,h2,h6,h7⟩ ih;have hw:=aL i (by omega);have hs:=Ez p p.Xy[k].params p.Xy[k].body[i];have hsc:=Gr p k hk;simp only [Xg.e,aK,Prg.e] at hs hsc;rw [Prg.e] at h2;rw [Action.e] at h6;by_cases y:stmE p p.Xy[k].params p.Xy[k].body[i]=0
  ·rw [y] at hs;rw [cZ hi (by simp [G5,hi,y])];simp [c_201_l0,Xg.e,h1,h2,h6,h7,hi,hs,hsc,hw];exact ih _ _ (Qc _) ⟨by simp [h1],by simp [h2,Prg.e],by simp [h6,Action.e],by simp⟩
  ·rw [aZ (x:=((i:Int),stmE p p.Xy[k].params p.Xy[k].body[i])) hi (by simp [G5,hi,y])];simp [c_201_l0,Xg.e,h1,h2,h6,h7,hi,hs,hsc,y]
 ·rintro e n L hL _ ⟨h1,h2,h6,h7⟩;rw [dV];rw [Action.e] at h6;simp [c_201_l0,c_201_k1,h6,h7,hL]
 ·simp [Prg.e,Action.e]
theorem Tx (f:PrgS p) (c:Xb) (hc:c.args.length<2^40) (hv:∀v∈c.args,ok32 0 v):a9 Φ rR [.agg (Prg.c p),.agg (Xb.c c)]=some (.val (a8 (pA p c))):=by
 rw [aA rfl rfl];by_cases i0:c.Xz<0
 ·simp [qD,Prg.e,Xb.e,i0,pA,iI i0]
 by_cases i1:(p.Xy.length:Int)<=c.Xz
 ·simp [qD,Prg.e,Xb.e,i0,i1,pA,iH i1]
 obtain ⟨k,hk0⟩:∃k:Nat,c.Xz=k:=⟨c.Xz.toNat,by omega⟩;have hk:k<p.Xy.length:=by omega
 by_cases z:c.args.length=p.Xy[k].params.length
 rotate_left
 ·simp [qD,Prg.e,Xb.e,Action.e,hk0,hk,Qf.2 hk,pA,z]
 have hE:pA p c=errO (fe (M8 c.args p.Xy[k].params) c.args.length 0):=by simp [pA,hk0,hk,z]<;>rfl
 rw [hE];simp [qD,Prg.e,Xb.e,Action.e,hk0,hk,Qf.2 hk,z];rw [<- z];refine fJ c.args.length (fun i e=>look 3 e=some (.iptr 2 [Xb.c c] 0 0)/\look 5 e=some (.slice 2 (p.Xy[k].params.map Fld.c))/\look 6 e=some (a8 i))
  (fun i=>some (Rt.val (a8 (errO (fe (M8 c.args p.Xy[k].params) c.args.length i))))) ?_ ?_ 0 _ (Qc _) ?_
 ·rintro i e L hi hL ⟨h3,h5,h6⟩ ih;have hw:=aL i (by omega);have hi2:i<p.Xy[k].params.length:=by omega
  have hf:=Ux c.args[i] p.Xy[k].params[i].Yd (hv _ (Qd hi));rw [Xb.e] at h3;cases y:fits c.args[i] p.Xy[k].params[i].Yd with
  | true=>
   rw [y] at hf;rw [cZ hi (by simp [M8,hi,hi2,y])];simp [c_285_l0,Fld.e,c32,h3,h5,h6,hi,hi2,hf,hw];exact ih _ ⟨by simp [h3,Xb.e],by simp [h5],by simp⟩
  | false=>
   rw [y] at hf;rw [aZ (x:=9) hi (by simp [M8,hi,hi2,y])];simp [c_285_l0,Fld.e,c32,h3,h5,h6,hi,hi2,hf]
 ·rintro e L hL ⟨h3,h5,h6⟩;rw [dV];simp [c_285_l0,c_285_k1,h5,h6,hL,<- z]
 ·simp [Xb.e,hk0]
theorem Ua (l:List Int) (x:Int) (hl:l.length<2^40):a9 Φ rQ [.slice 1 (l.map cI),a8 x]=some (.val (a8 (ix (fun s=>decide (s=x)) l 0))):=by
 rw [aA rfl rfl];simp [L6];refine (fJ l.length (fun i e=>look 0 e=some (.slice 1 (l.map cI))/\look 1 e=some (a8 x)/\look 5 e=some (a8 i))
  (fun i=>some (.val (a8 (ix (fun s=>decide (s=x)) l i)))) ?_ ?_ 0 _ (Qc _) ?_).trans (by simp)
 ·rintro i e L hi hL ⟨h0,h1,h5⟩ ih;have hw:=aL i (by omega);by_cases z:l[i]=x
  ·rw [HY hi (by simpa using z)];simp [c_284_l0,cI,h0,h1,h5,hi,z]
  ·rw [HT hi (by simpa using z)];simp [c_284_l0,cI,h0,h1,h5,hi,z,hw];exact ih _ ⟨by simp [h0],by simp [h1],by simp⟩
 ·rintro e L hL ⟨h0,h1,h5⟩;rw [HX];simp [c_284_l0,c_284_k1,h0,h5,hL]
 ·simp
theorem Cj (x:Tbl) (hl:x.keys.length<2^40):a9 Φ DI [.agg (Prg.c p),.agg (Tbl.c x)]=some (.val (.tup [a8 (wU p x).1,a8 (wU p x).2])):=by
 rw [aA rfl rfl];have hE:wU p x=(fe (keyG p x) x.keys.length 0).getD (wV p x):=by
  unfold wU keyE;show (match fe (keyG p x) x.keys.length 0 with | some e=>e | none=>wV p x)=_;cases fe (keyG p x) x.keys.length 0<;>rfl
 rw [hE];simp [KO,Prg.e,Tbl.e];refine fJ x.keys.length (fun i e=>look 2 e=some (.iptr 9 [Prg.c p] 0 0)/\look 3 e=some (.iptr 6 [Tbl.c x] 0 0)/\look 7 e=some (a8 ((x.keys.take i).countP fun k=>decide (k.kind=2):Nat))/\look 6 e=some (a8 ((kWid p x).take i).sum)/\look 8 e=some (a8 i))
  (fun i=>some (Rt.val (.tup [a8 ((fe (keyG p x) x.keys.length i).getD (wV p x)).1,a8 ((fe (keyG p x) x.keys.length i).getD (wV p x)).2]))) ?_ ?_ 0 _ (Qc _) ?_
 ·rintro i e L hi hL ⟨h2,h3,h7,h6,h8⟩ ih;have hw:=aL i (by omega);have hv:=qs5 p x.keys[i].field.header x.keys[i].field.field;simp only [Prg.e] at hv;rw [Prg.e] at h2;rw [Tbl.e] at h3;by_cases z:wid p x.keys[i].field.header x.keys[i].field.field=0
  ·rw [z] at hv;rw [aZ (x:=((i:Int),8)) hi (by simp [keyG,hi,z])];simp [c_247_l0,Xl.e,h2,h3,h8,hi,hv]
  have hs:=X7 p x (i+1) (by omega);have hs0:=X7 p x i (by omega);have he:((kWid p x).take (i+1)).sum=((kWid p x).take i).sum+wid p x.keys[i].field.header x.keys[i].field.field:=by
   have hl:i<(kWid p x).length:=by simp [kWid];omega
   rw [Qh hl,QF,Q9];congr 1;simp [kWid]
  have hw7:IntKind.wrap .i64 (((kWid p x).take i).sum+wid p x.keys[i].field.header x.keys[i].field.field)=((kWid p x).take (i+1)).sum:=by rw [<- he];exact bJ (by omega) (by omega)
  have hc:(x.keys.take (i+1)).countP (fun k=>decide (k.kind=2))=(x.keys.take i).countP (fun k=>decide (k.kind=2))+if x.keys[i].kind=2 then 1 else 0:=by
   rw [Qh hi,List.countP_append];congr 1;simp [List.countP_cons]
  have hcl:(x.keys.take i).countP (fun k=>decide (k.kind=2))<=i:=by
   have:=List.countP_le_length (l:=x.keys.take i) (p:=fun k=>decide (k.kind=2));simp at this;omega
  have hw6:IntKind.wrap .i64 (((x.keys.take i).countP (fun k=>decide (k.kind=2)):Nat)+1:Int)=(((x.keys.take i).countP (fun k=>decide (k.kind=2))+1:Nat):Int):=bJ (by omega) (by omega);by_cases k2:x.keys[i].kind=2
  ·rw [cZ hi (by simp [keyG,hi,z,k2])];rw [aB k2] at hc;simp [c_247_l0,Xl.e,h2,h3,h6,h7,h8,hi,hv,z,k2,hw7,hw6,hw];exact ih _ ⟨by simp [h2,Prg.e],by simp [h3,Tbl.e],by simp [hc],by simp,by simp⟩
  rw [QA k2] at hc;by_cases k1:x.keys[i].kind=1
  ·rw [cZ hi (by simp [keyG,hi,z,k1])];simp [c_247_l0,Xl.e,h2,h3,h6,h8,hi,hv,z,k1,hw7,hw];exact ih _ ⟨by simp [h2,Prg.e],by simp [h3,Tbl.e],by simp [hc,h7],by simp,by simp⟩
  by_cases k3:x.keys[i].kind=3
  ·rw [cZ hi (by simp [keyG,hi,z,k3])];simp [c_247_l0,Xl.e,h2,h3,h6,h8,hi,hv,z,k3,hw7,hw];exact ih _ ⟨by simp [h2,Prg.e],by simp [h3,Tbl.e],by simp [hc,h7],by simp,by simp⟩
  ·rw [aZ (x:=((i:Int),11)) hi (by simp [keyG,hi,z,k1,k2,k3])];simp [c_247_l0,Xl.e,h2,h3,h8,hi,hv,z,k1,k2,k3]
 ·rintro e L hL ⟨h2,h3,h7,h6,h8⟩;rw [dV];have ht:(kWid p x).take x.keys.length=kWid p x:=by rw [Qo];simp [kWid]
  rw [ht] at h6;rw [i9] at h7;rw [Tbl.e] at h3;by_cases y1:1<x.keys.countP (fun k=>decide (k.kind=2))
  ·simp [c_247_l0,c_247_k1,h3,h7,h8,hL,wV,y1]
  by_cases y2:64<(kWid p x).sum
  ·simp [c_247_l0,c_247_k1,h3,h6,h7,h8,hL,wV,y1,y2]
  ·simp [c_247_l0,c_247_k1,h3,h6,h7,h8,hL,wV,y1,y2]
 ·simp [Prg.e,Tbl.e]
theorem X4 (x:Int) (l:List Int):l.contains x=l.any fun s=>decide (s=x):=by
 have:=QI (fun y:Int=>y) x l;rw [List.map_id'] at this;exact this
theorem Cp (f:PrgS p) (x:Tbl) (hl:x.Xy.length<2^40) (hg:x.Yc.args.length<2^40) (hv:∀v∈x.Yc.args,ok32 0 v):a9 Φ DJ [.agg (Prg.c p),.agg (Tbl.c x)]=some (.val (a8 (GA p x))):=by
 rw [aA rfl rfl,qwn];simp [KP,Prg.e,Tbl.e];refine fJ x.Xy.length (fun i e=>look 2 e=some (.iptr 9 [Prg.c p] 0 0)/\look 3 e=some (.iptr 6 [Tbl.c x] 0 0)/\look 5 e=some (a8 i))
  (fun i=>some (Rt.val (a8 ((fe (yR p x) x.Xy.length i).getD (zV p x))))) ?_ ?_ 0 _ (Qc _) ?_
 ·rintro i e L hi hL ⟨h2,h3,h5⟩ ih;have hw:=aL i (by omega);rw [Prg.e] at h2;rw [Tbl.e] at h3;by_cases z0:x.Xy[i]<0
  ·rw [aZ (x:=8) hi (by simp [yR,hi,z0])];simp [c_248_l0,cI,h3,h5,hi,z0]
  by_cases z1:(p.Xy.length:Int)<=x.Xy[i]
  ·rw [aZ (x:=8) hi (by simp [yR,hi,z0,z1])];simp [c_248_l0,cI,h2,h3,h5,hi,z0,z1]
  have hx:=Ua x.Xy x.Xy[i] hl;obtain ⟨at',k1,k2⟩:=Wl (q:=fun s:Int=>decide (s=x.Xy[i])) hi (by simp) i 0 (by omega);rw [show ix (fun s=>decide (s=x.Xy[i])) x.Xy 0=(fxO (fun s:Int=>decide (s=x.Xy[i])) x.Xy 0).getD (-1) from rfl,k1] at hx;rw [R5,<- X4] at k2;simp only [sY] at hx;cases q:(x.Xy.take i).contains x.Xy[i] with
  | true=>
   rw [q] at k2;have k3:at'<i:=by simpa using k2
   rw [aZ (x:=7) hi (by simp only [yR,Qa hi,iW];rw [QA (by omega),q];rfl)];simp [c_248_l0,cI,h2,h3,h5,hi,z0,z1,hx,k3]
  | false=>
   rw [q] at k2;have k3:¬at'<i:=by simpa using k2
   rw [cZ hi (by simp only [yR,Qa hi,iW];rw [QA (by omega),q];rfl)];simp [c_248_l0,cI,h2,h3,h5,hi,z0,z1,hx,k3,hw];exact ih _ ⟨by simp [h2,Prg.e],by simp [h3,Tbl.e],by simp⟩
 ·rintro e L hL ⟨h2,h3,h5⟩;rw [dV];have hx:=Ua x.Xy x.Yc.Xz hl;have hc:=Tx p f x.Yc hg hv;have ha:=P0 (p:=fun s=>decide (s=x.Yc.Xz)) (l:=x.Xy);rw [<- X4] at ha;simp only [Prg.e,Xb.e] at hc;rw [Prg.e] at h2;rw [Tbl.e] at h3;cases q:x.Xy.contains x.Yc.Xz with
  | true=>
   rw [q] at ha;have ha2:¬ix (fun s=>decide (s=x.Yc.Xz)) x.Xy 0<0:=by simpa using ha
   rw [show zV p x=pA p x.Yc by simp only [zV,q];rfl];simp [c_248_l0,c_248_k1,h2,h3,h5,hL,hx,ha2,hc]
  | false=>
   rw [q] at ha;have ha2:ix (fun s=>decide (s=x.Yc.Xz)) x.Xy 0<0:=by simpa using ha
   rw [show zV p x=8 by simp only [zV,q];rfl];simp [c_248_l0,c_248_k1,h3,h5,hL,hx,ha2]
 ·simp [Prg.e,Tbl.e]
theorem Va (f:PrgS p) (hv:∀t∈p.Xn,∀v∈t.Yc.args,ok32 0 v) (t:Int):a9 Φ rA [.agg (Prg.c p),a8 t]=some (.val (.tup [a8 (tblE p t).1,a8 (tblE p t).2])):=by
 rw [aA rfl rfl];by_cases i0:t<0
 ·simp [fQ,Prg.e,i0,tblE,iI i0]
 by_cases i1:(p.Xn.length:Int)<=t
 ·simp [fQ,Prg.e,i0,i1,tblE,iH i1]
 obtain ⟨k,rfl⟩:∃k:Nat,t=k:=⟨t.toNat,by omega⟩;have hk:k<p.Xn.length:=by omega
 have hm:=Qd hk;have n1:=HK p.Xn[k].name (f.tn _ hm);have h1:=Cj p p.Xn[k] (f.tk _ hm);have h2:=Cp p f p.Xn[k] (f.ta _ hm) (f.tg _ hm) (hv _ hm);simp only [Prg.e,Tbl.e] at h1 h2;cases q1:idS p.Xn[k].name with
 | false=>rw [q1] at n1;simp [fQ,Prg.e,Tbl.e,hk,Qf.2 hk,n1,tblE,q1]
 | true=>
 rw [q1] at n1;by_cases z0:6<p.Xn[k].keys.length
 ·simp [fQ,Prg.e,Tbl.e,hk,Qf.2 hk,n1,tblE,q1,z0]
 by_cases z1:16<p.Xn[k].Xy.length
 ·simp [fQ,Prg.e,Tbl.e,hk,Qf.2 hk,n1,tblE,q1,z0,z1]
 by_cases z2:p.Xn[k].size<1
 ·simp [fQ,Prg.e,Tbl.e,hk,Qf.2 hk,n1,tblE,q1,z0,z1,z2]
 by_cases z3:256<p.Xn[k].size
 ·simp [fQ,Prg.e,Tbl.e,hk,Qf.2 hk,n1,tblE,q1,z0,z1,z2,z3]
 by_cases y1:(wU p p.Xn[k]).2=0
 rotate_left
 ·simp [fQ,Prg.e,Tbl.e,hk,Qf.2 hk,n1,tblE,q1,z0,z1,z2,z3,h1,y1]
 rw [y1] at h1;by_cases y2:GA p p.Xn[k]=0
 ·rw [y2] at h2;simp [fQ,Prg.e,Tbl.e,hk,Qf.2 hk,n1,tblE,q1,z0,z1,z2,z3,h1,y1,h2,y2]
 ·simp [fQ,Prg.e,Tbl.e,hk,Qf.2 hk,n1,tblE,q1,z0,z1,z2,z3,h1,y1,h2,y2]
theorem qs8 (s:Nat) (n:Int):a9 Φ wF [.agg (Prg.c p),a8 s,a8 n]=some (.val (.bool (oQ p s n))):=by
 rw [aA rfl rfl];by_cases n1:n= -1
 ·simp [qE,Prg.e,oQ,n1]
 by_cases n2:n= -2
 ·simp [qE,Prg.e,oQ,n2]
 by_cases n3:(s:Int)<n
 ·simp [qE,Prg.e,oQ,n1,n2,n3]
 ·simp [qE,Prg.e,oQ,n1,n2,n3]
theorem Ru {p:Prg} {h i:Int} (z:wid p h i≠0):wBad (wid p h i)=false:=by
 unfold wid at z ⊢;cases q:decl p h i with
 | none=>rw [q] at z;simp at z
 | some w=>
  rw [q] at z;simp only at z ⊢;cases y:wBad w with
  | true=>rw [y] at z;simp at z
  | false=>simpa using y
section
variable (s:Nat) (hs:s<p.Xx.length) (hv:∀c∈p.Xx[s].cases,ok32 0 c.value/\ok32 0 c.Ye) (hl:p.Xx[s].cases.length<2^40)
include s hs hv hl
theorem Bh (hz:p.Xx[s].cases.length=0\/wid p p.Xx[s].on.header p.Xx[s].on.field≠0):
  a9 Φ wE [.agg (Prg.c p),a8 s]=some (.val (.tup [a8 ((fe (lO p s p.Xx[s]) p.Xx[s].cases.length 0).getD (-1,0)).1,a8 ((fe (lO p s p.Xx[s]) p.Xx[s].cases.length 0).getD (-1,0)).2])):=by
 rw [aA rfl rfl];have hw:=qs4 p p.Xx[s].on.header p.Xx[s].on.field;simp only [Prg.e] at hw;simp [L7,Prg.e,Xd.e,hs,hw];refine dK p.Xx[s].cases.length (fun _=>[]) 0 (fun i e=>look 1 e=some (a8 s)/\look 2 e=some (.iptr 9 [Prg.c p] 0 0)/\look 6 e=some (.iptr 7 [Xd.c p.Xx[s]] 0 0)/\look 7 e=some (a8 (wid p p.Xx[s].on.header p.Xx[s].on.field))/\look 8 e=some (a8 i))
  (fun i=>some (Rt.val (.tup [a8 ((fe (lO p s p.Xx[s]) p.Xx[s].cases.length i).getD (-1,0)).1,a8 ((fe (lO p s p.Xx[s]) p.Xx[s].cases.length i).getD (-1,0)).2]))) ?_ ?_ 0 _ _ (Qc _) (Qc _) ?_
 ·rintro i e n L hi hL _ ⟨h1,h2,h6,h7,h8⟩ ih;have hwi:=aL i (by omega);have hc:=hv _ (Qd hi);have hz':wid p p.Xx[s].on.header p.Xx[s].on.field≠0:=by
   rcases hz with hz | hz
   ·omega
   ·exact hz
  have hb:=Ru hz';have hbr:=wBad_false.1 hb;obtain ⟨k,hk⟩:∃k:Nat,wid p p.Xx[s].on.header p.Xx[s].on.field=k:=⟨(wid p p.Xx[s].on.header p.Xx[s].on.field).toNat,by omega⟩;have f1:=Td p.Xx[s].cases[i].value hc.1 k (by omega);have f2:=Td p.Xx[s].cases[i].Ye hc.2 k (by omega);have e1:∀v,fits v (wid p p.Xx[s].on.header p.Xx[s].on.field)=decide (v<2^k):=by
   intro v;unfold fits;rw [hb,hk];simp
  have hd:=qs8 p s p.Xx[s].cases[i].next;have ha:=qsp hc.1 hc.2;simp only [Prg.e] at hd;rw [Prg.e] at h2;rw [Xd.e] at h6;rw [hk] at h7;have done:∀z:Int,z≠0->pB p s p.Xx[s] p.Xx[s].cases[i]=z->fe (lO p s p.Xx[s]) p.Xx[s].cases.length i=some ((i:Int),z):=by
   intro z z0 z1;exact aZ hi (by simp [lO,hi,z1,z0])
  by_cases y1:p.Xx[s].cases[i].value<2^k
  rotate_left
  ·rw [done 9 (by decide) (by simp [pB,e1,y1])];simp [c_287_l0,Xk.e,h6,h7,h8,hi,f1,y1]
  by_cases y2:p.Xx[s].cases[i].Ye<2^k
  rotate_left
  ·rw [done 9 (by decide) (by simp [pB,e1,y2])];simp [c_287_l0,Xk.e,h6,h7,h8,hi,f1,f2,y1,y2]
  by_cases y3:iand .u32 p.Xx[s].cases[i].value p.Xx[s].cases[i].Ye=p.Xx[s].cases[i].value
  rotate_left
  ·have y3':¬(p.Xx[s].cases[i].value.toNat&&& p.Xx[s].cases[i].Ye.toNat=p.Xx[s].cases[i].value.toNat):=fun h=>y3 (ha.2 h)
   rw [done 5 (by decide) (by simp [pB,e1,y1,y2,y3'])];simp [c_287_l0,Xk.e,h6,h7,h8,hi,f1,f2,y1,y2,y3]
  have y3':=ha.1 y3;cases y4:oQ p s p.Xx[s].cases[i].next with
  | false=>
   rw [y4] at hd;rw [done 14 (by decide) (by simp [pB,e1,y1,y2,y3',y4])];simp [c_287_l0,Xk.e,h1,h2,h6,h7,h8,hi,f1,f2,y1,y2,y3,hd]
  | true=>
   rw [y4] at hd;rw [cZ hi (by simp [lO,hi,pB,e1,y1,y2,y3',y4])];simp [c_287_l0,Xk.e,h1,h2,h6,h7,h8,hi,f1,f2,y1,y2,y3,hd,hwi];exact ih _ _ (Qc _) ⟨by simp [h1],by simp [h2,Prg.e],by simp [h6,Xd.e],by simp [h7,hk],by simp⟩
 ·rintro e n L hL _ ⟨h1,h2,h6,h7,h8⟩;rw [dV];rw [Xd.e] at h6;simp [c_287_l0,c_287_k1,h6,h8,hL]
 ·simp [Prg.e,Xd.e]
theorem Mi (e:Env) (n:Nat)
  (h1:look 1 e=some (a8 s)) (h2:look 2 e=some (.iptr 9 [Prg.c p] 0 0)) (h6:look 6 e=some (.iptr 7 [Xd.c p.Xx[s]] 0 0)):
  go Φ (finP [.tmp 4,.tmp 5]) [.c c_249_k2] .normal ⟨e,⟨[],n⟩⟩=some (.val (.tup [a8 (stK p s p.Xx[s]).1,a8 (stK p s p.Xx[s]).2])):=by
 have hw:=qs4 p p.Xx[s].on.header p.Xx[s].on.field;have hd:=qs8 p s p.Xx[s].Yc;simp only [Prg.e] at hw hd;rw [Prg.e] at h2;rw [Xd.e] at h6;have fin:∀(hz:p.Xx[s].cases.length=0\/wid p p.Xx[s].on.header p.Xx[s].on.field≠0),∃a b,a9 Φ wE [.agg (Prg.c p),a8 s]=some (.val (.tup [a8 a,a8 b]))/\
   ((b=0/\(fe (lO p s p.Xx[s]) p.Xx[s].cases.length 0).getD (stF p s p.Xx[s])=stF p s p.Xx[s])\/(b≠0/\(fe (lO p s p.Xx[s]) p.Xx[s].cases.length 0).getD (stF p s p.Xx[s])=(a,b))):=by
  intro hz;have hc:=Bh p s hs hv hl hz;refine ⟨_,_,hc,?_⟩;cases q:fe (lO p s p.Xx[s]) p.Xx[s].cases.length 0 with
  | none=>exact .inl ⟨rfl,rfl⟩
  | some x=>
   refine .inr ⟨?_,rfl⟩;intro h0;have:x.2=0:=h0;have key:∀m i x,feF (lO p s p.Xx[s]) m i=some x->x.2≠0:=by
    intro m
    induction m with
    | zero=>intro i x h;simp [feF] at h
    | succ m ih=>
     intro i x h;simp only [feF] at h;cases g:lO p s p.Xx[s] i with
     | none=>rw [g] at h;exact ih _ _ h
     | some y=>
      rw [g] at h;cases h;unfold lO at g;cases gi:p.Xx[s].cases[i]? with
      | none=>rw [gi] at g;simp at g
      | some c=>
       rw [gi] at g;simp only [iW] at g;split at g
       ·cases g
       ·rename_i hne;cases g;exact hne
   exact key _ _ _ q this
 cases q:p.Xx[s].select with
 | true=>
  rw [q] at h6;by_cases z:wid p p.Xx[s].on.header p.Xx[s].on.field=0
  ·rw [z] at hw;simp [c_249_k2,h2,h6,hw,stK,q,z]
  obtain ⟨a,b,hc,hab⟩:=fin (.inr z);simp only [Prg.e] at hc;rw [show stK p s p.Xx[s]=(fe (lO p s p.Xx[s]) p.Xx[s].cases.length 0).getD (stF p s p.Xx[s]) by simp [stK,q,z]];rcases hab with ⟨b0,e1⟩ | ⟨b0,e1⟩
  ·rw [e1];rw [b0] at hc;cases y:oQ p s p.Xx[s].Yc with
   | true=>rw [y] at hd;simp [c_249_k2,h1,h2,h6,hw,z,hc,hd,stF,y]
   | false=>rw [y] at hd;simp [c_249_k2,h1,h2,h6,hw,z,hc,hd,stF,y]
  ·rw [e1];simp [c_249_k2,h1,h2,h6,hw,z,hc,b0]
 | false=>
  rw [q] at h6;by_cases z:0<p.Xx[s].cases.length
  ·simp [c_249_k2,h6,stK,q,z]
  have z0:p.Xx[s].cases.length=0:=by omega
  obtain ⟨a,b,hc,hab⟩:=fin (.inl z0);simp only [Prg.e] at hc;rw [show stK p s p.Xx[s]=(fe (lO p s p.Xx[s]) p.Xx[s].cases.length 0).getD (stF p s p.Xx[s]) by simp [stK,q,z0]];rcases hab with ⟨b0,e1⟩ | ⟨b0,e1⟩
  ·rw [e1];rw [b0] at hc;cases y:oQ p s p.Xx[s].Yc with
   | true=>rw [y] at hd;simp [c_249_k2,h1,h2,h6,z0,hc,hd,stF,y]
   | false=>rw [y] at hd;simp [c_249_k2,h1,h2,h6,z0,hc,hd,stF,y]
  ·rw [e1];simp [c_249_k2,h1,h2,h6,z0,hc,b0]
end
theorem Mh (f:PrgS p) (s:Nat) (hs:s<p.Xx.length) (e:Env) (n:Nat)
  (h1:look 1 e=some (a8 s)) (h2:look 2 e=some (.iptr 9 [Prg.c p] 0 0)) (h6:look 6 e=some (.iptr 7 [Xd.c p.Xx[s]] 0 0)):
  go Φ (finP [.tmp 4,.tmp 5]) [.c c_249_k3] .normal ⟨e,⟨[],n⟩⟩=some (.val (.tup [a8 (stE p s p.Xx[s]).1,a8 (stE p s p.Xx[s]).2])):=by
 rw [TP];have hm:=Qd hs;have hse:=f.se _ hm;rw [Xd.e] at h6;by_cases z0:4<p.Xx[s].extract.length
 ·simp [c_249_k3,h6,z0]
 by_cases z1:8<p.Xx[s].cases.length
 ·simp [c_249_k3,h6,z0,z1]
 rw [QA (by omega)];generalize hX:(if p.Xx[s].extract.any (fun h=>decide (h<0) || decide ((p.Xp.length:Int)<=h))=true then ((-1:Int),(8:Int)) else stK p s p.Xx[s])=X;simp [c_249_k3,h6,z0,z1];refine (zJ p.Xx[s].extract (fun h=>decide (h<0) || decide ((p.Xp.length:Int)<=h)) (some (Rt.val (.tup [a8 (-1),a8 8]))) (some (Rt.val (.tup [a8 (stK p s p.Xx[s]).1,a8 (stK p s p.Xx[s]).2])))
  (fun i e H=>look 1 e=some (a8 s)/\look 2 e=some (.iptr 9 [Prg.c p] 0 0)/\look 6 e=some (.iptr 7 [Xd.c p.Xx[s]] 0 0)/\look 8 e=some (a8 i)/\H=⟨[],n⟩) ?_ ?_ ?_ _ _ ?_).trans ?_
 ·rintro i e _ L hi hL ⟨h1,h2,h6,h8,rfl⟩ hb;rw [Prg.e] at h2;rw [Xd.e] at h6;simp only [IL,decide_eq_true_eq] at hb;by_cases y0:p.Xx[s].extract[i]<0
  ·simp [c_249_l1,cI,h6,h8,hi,y0]
  ·have y1:(p.Xp.length:Int)<=p.Xx[s].extract[i]:=by omega
   simp [c_249_l1,cI,h2,h6,h8,hi,y0,y1]
 ·rintro i e _ L X hi hL ⟨h1,h2,h6,h8,rfl⟩ hb ih;have hw:=aL i (by omega);rw [Prg.e] at h2;rw [Xd.e] at h6;simp only [GE,decide_eq_false_iff_not] at hb;simp [c_249_l1,cI,h2,h6,h8,hi,hb,hw];exact ih _ _ ⟨by simp [h1],by simp [h2,Prg.e],by simp [h6,Xd.e],by simp,rfl⟩
 ·rintro e _ L hL ⟨h1,h2,h6,h8,rfl⟩;rw [Xd.e] at h6;simp [c_249_l1,h6,h8,hL];refine Mi p s hs (fun c hc=>f.sv _ hm c hc) (f.sc _ hm) _ _ ?_ ?_ ?_
  ·simp [h1]
  ·simp [h2]
  ·simp [h6,Xd.e]
 ·simp [h1,h2,h6,Xd.e]
 ·rw [<- hX];cases p.Xx[s].extract.any (fun h=>decide (h<0) || decide ((p.Xp.length:Int)<=h))<;>rfl
def stA (p:Prg) (s:Nat) (x:Xd):Int×Int:=if idS x.name=false then (-1,6) else if dupN Xd.name p.Xx s x then (-1,7) else stE p s x
theorem Co (f:PrgS p) (s:Nat) (hs:s<p.Xx.length):a9 Φ DK [.agg (Prg.c p),a8 s]=some (.val (.tup [a8 (stA p s p.Xx[s]).1,a8 (stA p s p.Xx[s]).2])):=by
 rw [aA rfl rfl];have hm:=Qd hs;have n1:=HK p.Xx[s].name (f.sn _ hm);have hsl:=f.s;cases q1:idS p.Xx[s].name with
 | false=>rw [q1] at n1;simp [B6,Prg.e,Xd.e,hs,n1,stA,q1]
 | true=>
 rw [q1] at n1;have hE:stA p s p.Xx[s]=if dupN Xd.name p.Xx s p.Xx[s]=true then (-1,7) else stE p s p.Xx[s]:=by simp [stA,q1]
 rw [hE];unfold dupN;generalize hX:(if (p.Xx.take s).any (fun y=>decide (y.name=p.Xx[s].name))=true then ((-1:Int),(7:Int)) else stE p s p.Xx[s])=X;simp [B6,Prg.e,Xd.e,hs,n1];refine (zJ (p.Xx.take s) (fun y=>decide (y.name=p.Xx[s].name)) (some (Rt.val (.tup [a8 (-1),a8 7]))) (some (Rt.val (.tup [a8 (stE p s p.Xx[s]).1,a8 (stE p s p.Xx[s]).2])))
  (fun k e H=>look 1 e=some (a8 s)/\look 2 e=some (.iptr 9 [Prg.c p] 0 0)/\look 6 e=some (.iptr 7 [Xd.c p.Xx[s]] 0 0)/\look 7 e=some (a8 k)/\∃n,H=⟨[],n⟩) ?_ ?_ ?_ _ _ ?_).trans ?_
 ·rintro k e _ L hk hL ⟨h1,h2,h6,h7,n,rfl⟩ hb;simp only [fU] at hk;have hk1:k<s:=by omega
  have hk2:k<p.Xx.length:=by omega
  simp only [mG,decide_eq_true_eq] at hb;rw [Prg.e] at h2;rw [Xd.e] at h6;simp [c_249_l0,Xd.e,h1,h2,h6,h7,hk1,hk2,hb]
 ·rintro k e _ L X hk hL ⟨h1,h2,h6,h7,n,rfl⟩ hb ih;simp only [fU] at hk;have hk1:k<s:=by omega
  have hk2:k<p.Xx.length:=by omega
  simp only [mG,decide_eq_false_iff_not] at hb;have hw:=aL k (by omega);rw [Prg.e] at h2;rw [Xd.e] at h6;simp [c_249_l0,Xd.e,h1,h2,h6,h7,hk1,hk2,hb,hw];exact ih _ _ ⟨by simp [h1],by simp [h2,Prg.e],by simp [h6,Xd.e],by simp,n,rfl⟩
 ·rintro e _ L hL ⟨h1,h2,h6,h7,n,rfl⟩;have hmn:min s p.Xx.length=s:=by omega
  simp [hmn] at h7;simp [c_249_l0,h1,h7,hL];refine Mh p f s hs _ _ ?_ ?_ ?_
  ·simp [h1]
  ·simp [h2]
  ·simp [h6]
 ·simp [Prg.e,Xd.e]
 ·rw [<- hX];cases (p.Xx.take s).any (fun y=>decide (y.name=p.Xx[s].name))<;>rfl
theorem Et (f:PrgS p):a9 Φ CS [.agg (Prg.c p)]=some (tup3 (parE p)):=by
 rw [aA rfl rfl];by_cases z0:p.Xx.length=0
 ·simp [uH,Prg.e,z0,parE,tup3]
 by_cases z1:12<p.Xx.length
 ·simp [uH,Prg.e,z0,z1,parE,tup3]
 have hE:parE p=(fe (parG p) p.Xx.length 0).getD (0,0,0):=by unfold parE;rw [QA z0,QA z1];rfl
 rw [hE];simp [uH,Prg.e,z0,z1];refine fJ p.Xx.length (fun i e=>look 1 e=some (.iptr 9 [Prg.c p] 0 0)/\look 5 e=some (a8 i))
  (fun i=>some (tup3 ((fe (parG p) p.Xx.length i).getD (0,0,0)))) ?_ ?_ 0 _ (Qc _) ?_
 ·rintro i e L hi hL ⟨h1,h5⟩ ih;have hw:=aL i (by omega);have hs:=Co p f i hi;simp only [Prg.e] at hs;rw [Prg.e] at h1;by_cases y:(stA p i p.Xx[i]).2=0
  ·rw [y] at hs;have e1:parG p i=none:=by
    unfold stA at y;unfold parG;rw [Qa hi,iW];split at y
    ·simp at y
    ·rename_i a1;split at y
     ·simp at y
     ·rename_i a2;rw [QA a1,QA a2,aB y]
   rw [cZ hi e1];simp [c_203_l0,h1,h5,hi,hs,hw];exact ih _ ⟨by simp [h1,Prg.e],by simp⟩
  ·have e1:parG p i=some ((i:Int),(stA p i p.Xx[i]).1,(stA p i p.Xx[i]).2):=by
    unfold stA at y ⊢;unfold parG;rw [Qa hi,iW];split
    ·rfl
    ·rename_i a1;rw [QA a1] at y;split
     ·rfl
     ·rename_i a2;rw [QA a2] at y;rw [QA y]
   rw [aZ hi e1];simp [c_203_l0,h1,h5,hi,hs,y,tup3]
 ·rintro e L hL ⟨h1,h5⟩;rw [dV];rw [Prg.e] at h1;simp [c_203_l0,c_203_k1,h1,h5,hL,tup3]
 ·simp [Prg.e]
theorem Ft (f:PrgS p):a9 Φ CU [.agg (Prg.c p)]=some (.val (.tup [a8 (depE p).1,a8 (depE p).2])):=by
 rw [aA rfl rfl];by_cases z1:8<p.Xs.length
 ·simp [AS,Prg.e,z1,depE]
 have hE:depE p=(fe (depG p) p.Xs.length 0).getD (0,0):=by unfold depE;rw [QA z1];rfl
 rw [hE];simp [AS,Prg.e,z1];refine fJ p.Xs.length (fun i e=>look 1 e=some (.iptr 9 [Prg.c p] 0 0)/\look 4 e=some (a8 i))
  (fun i=>some (Rt.val (.tup [a8 ((fe (depG p) p.Xs.length i).getD (0,0)).1,a8 ((fe (depG p) p.Xs.length i).getD (0,0)).2]))) ?_ ?_ 0 _ (Qc _) ?_
 ·rintro i e L hi hL ⟨h1,h4⟩ ih;have hw:=aL i (by omega);rw [Prg.e] at h1;by_cases y0:p.Xs[i]<0
  ·rw [aZ (x:=((i:Int),8)) hi (by simp [depG,hi,y0])];simp [c_205_l2,cI,h1,h4,hi,y0]
  by_cases y1:(p.Xp.length:Int)<=p.Xs[i]
  ·rw [aZ (x:=((i:Int),8)) hi (by simp [depG,hi,y0,y1])];simp [c_205_l2,cI,h1,h4,hi,y0,y1]
  generalize hX:some (Rt.val (.tup [a8 ((fe (depG p) p.Xs.length i).getD (0,0)).1,a8 ((fe (depG p) p.Xs.length i).getD (0,0)).2]))=X;simp [c_205_l2,cI,h1,h4,hi,y0,y1];refine (zJ (p.Xs.take i) (fun g=>decide (g=p.Xs[i])) (some (Rt.val (.tup [a8 i,a8 7]))) (some (Rt.val (.tup [a8 ((fe (depG p) p.Xs.length (i+1)).getD (0,0)).1,a8 ((fe (depG p) p.Xs.length (i+1)).getD (0,0)).2])))
   (fun k e H=>look 1 e=some (.iptr 9 [Prg.c p] 0 0)/\look 4 e=some (a8 i)/\look 5 e=some (a8 k)/\H=⟨[],0⟩) ?_ ?_ ?_ _ _ ?_).trans ?_
  ·rintro k e _ L' hk hL' ⟨h1,h4,h5,rfl⟩ hb;simp only [fU] at hk;have hk1:k<i:=by omega
   have hk2:k<p.Xs.length:=by omega
   simp only [mG,decide_eq_true_eq] at hb;rw [Prg.e] at h1;simp [c_205_l0,cI,h1,h4,h5,hk1,hk2,hi,hb]
  ·rintro k e _ L' X hk hL' ⟨h1,h4,h5,rfl⟩ hb ih';simp only [fU] at hk;have hk1:k<i:=by omega
   have hk2:k<p.Xs.length:=by omega
   simp only [mG,decide_eq_false_iff_not] at hb;have hw':=aL k (by omega);rw [Prg.e] at h1;simp [c_205_l0,cI,h1,h4,h5,hk1,hk2,hi,hb,hw'];exact ih' _ _ ⟨by simp [h1,Prg.e],by simp [h4],by simp,rfl⟩
  ·rintro e _ L' hL' ⟨h1,h4,h5,rfl⟩;have hm:min i p.Xs.length=i:=by omega
   simp [hm] at h5;simp [c_205_l0,c_205_k1,h4,h5,hL',hw];exact ih _ ⟨by simp [h1],by simp⟩
  ·simp [h1,h4,Prg.e]
  ·rw [<- hX];cases q:(p.Xs.take i).contains p.Xs[i] with
   | true=>
    rw [aZ (x:=((i:Int),7)) hi (by simp only [depG,Qa hi,iW];rw [QA (by omega),q];rfl)];rw [X4] at q;rw [q];rfl
   | false=>
    rw [cZ hi (by simp only [depG,Qa hi,iW];rw [QA (by omega),q];rfl)];rw [X4] at q;rw [q];rfl
 ·rintro e L hL ⟨h1,h4⟩;rw [dV];rw [Prg.e] at h1;simp [c_205_l2,c_205_k3,h1,h4,hL]
 ·simp [Prg.e]
theorem Ty:∀(n:Nat) (l:List Xa),SizeOf.sizeOf l<=n->(pre l).length<2^40->a9 Φ rG [.slice 5 (l.map Xa.c)]=some (.val (a8 ((pre l).length:Nat)))
 | 0,l,h,hb=>by cases l<;>simp at h
 | n+1,l,h,hb=>by
  rw [aA rfl rfl];have hll:=EO l;generalize hX:some (Rt.val (a8 ((pre l).length:Nat)))=X;simp [KR];refine fJ l.length (fun i e=>look 0 e=some (.slice 5 (l.map Xa.c))/\look 3 e=some (a8 ((pre (l.take i)).length:Nat))/\look 4 e=some (a8 i)) (fun i=>X) ?_ ?_ 0 _ (Qc _) ?_
  ·rintro i e L hi hL ⟨h0,h3,h4⟩ ih;have hw:=aL i (by omega);obtain ⟨k,t,c,a,b,hx⟩:=wQ l[i];have hm:l[i]∈l:=Qd hi;have hs:SizeOf.sizeOf l[i]<SizeOf.sizeOf l:=IK hm;have ht:=UF hi;have htl:(pre (l.take (i+1))).length<=(pre l).length:=by
    have:pre l=pre (l.take (i+1))++pre (l.drop (i+1)):=by rw [<- OK,ML]
    rw [this];simp
   rw [hx] at hs ht;rw [FX] at ht;simp at hs;have htl2:=congrArg List.length ht;simp at htl2;have i1:=Ty n a (by omega) (by omega);have i2:=Ty n b (by omega) (by omega);have w1:IntKind.wrap .i64 (1+((pre a).length:Int))=1+((pre a).length:Int):=bJ (by omega) (by omega);have w2:IntKind.wrap .i64 (1+((pre a).length:Int)+((pre b).length:Int))=1+((pre a).length:Int)+((pre b).length:Int):=bJ (by omega) (by omega);have w3:IntKind.wrap .i64 (((pre (l.take i)).length:Int)+(1+((pre a).length:Int)+((pre b).length:Int)))=((pre (l.take i)).length:Int)+(1+((pre a).length:Int)+((pre b).length:Int)):=bJ (by omega) (by omega);simp [c_250_l0,h0,h3,h4,hi,hw,hx,Xa.e,i1,i2,w1,w2,w3];refine ih _ ⟨by simp [h0],?_,by simp⟩;rw [htl2];simp;omega
  ·rintro e L hL ⟨h0,h3,h4⟩;rw [i9] at h3;simp [c_250_l0,c_250_k1,h0,h3,h4,hL,<- hX]
  ·simp [pre]
theorem qop:∀a b:List Xa,nest (a++b)=max (nest a) (nest b)
 | [],b=>by simp [nest]
 | x::a,b=>by rw [jM,nest,qop a b,nest];omega
theorem Uz:∀(n:Nat) (l:List Xa),SizeOf.sizeOf l<=n->(pre l).length<2^40->a9 Φ rH [.slice 5 (l.map Xa.c)]=some (.val (a8 (nest l:Nat)))
 | 0,l,h,hb=>by cases l<;>simp at h
 | n+1,l,h,hb=>by
  rw [aA rfl rfl];have hll:=EO l;generalize hX:some (Rt.val (a8 (nest l:Nat)))=X;simp [KS];refine fJ l.length (fun i e=>look 0 e=some (.slice 5 (l.map Xa.c))/\look 3 e=some (a8 (nest (l.take i):Nat))/\look 4 e=some (a8 i)) (fun i=>X) ?_ ?_ 0 _ (Qc _) ?_
  ·rintro i e L hi hL ⟨h0,h3,h4⟩ ih;have hw:=aL i (by omega);obtain ⟨k,t,c,a,b,hx⟩:=wQ l[i];have hm:l[i]∈l:=Qd hi;have hs:SizeOf.sizeOf l[i]<SizeOf.sizeOf l:=IK hm;have hp:=Wh hi;have hn:nest (l.take (i+1))=max (nest (l.take i)) (1+G8 l[i]):=by
    rw [Qh hi,qop];simp [nest]
   rw [hx] at hs hp hn;rw [FX] at hp;rw [Us] at hn;simp at hs hp;have i1:=Uz n a (by omega) (by omega);have i2:=Uz n b (by omega) (by omega);have l1:=RH a;have l2:=RH b;have w1:IntKind.wrap .i64 (1+(nest a:Int))=1+(nest a:Int):=bJ (by omega) (by omega);have w2:IntKind.wrap .i64 (1+(nest b:Int))=1+(nest b:Int):=bJ (by omega) (by omega);simp [c_251_l0,h0,h3,h4,hi,hw,hx,Xa.e,i1,i2,w1,w2];refine ih _ ⟨by simp [h0],?_,by simp⟩;simp [hn];split<;>split<;>omega
  ·rintro e L hL ⟨h0,h3,h4⟩;rw [i9] at h3;simp [c_251_l0,c_251_k1,h0,h3,h4,hL,<- hX]
  ·simp [nest]
theorem Sh:∀(n:Nat) (l:List Xa),SizeOf.sizeOf l<=n->(pre l).length<2^30->a9 Φ nO [.slice 5 (l.map Xa.c)]=some (.val (.slice 5 ((pre l).map Xa.c)))
 | 0,l,h,hb=>by cases l<;>simp at h
 | n+1,l,h,hb=>by
  rw [aA rfl rfl];have hll:=EO l;generalize hX:some (Rt.val (AV.slice 5 ((pre l).map Xa.c)))=X;simp [KT];refine tC l.length (fun i e H=>look 0 e=some (.slice 5 (l.map Xa.c))/\look 3 e=some (.app 5 ((pre (l.take i)).map Xa.c) 0)/\look 4 e=some (a8 i)/\H=⟨[(0,.tok 5 (pre (l.take i)).length)],1⟩) (fun i=>X) ?_ ?_ 0 _ _ (Qc _) ?_
  ·rintro i e _ L hi hL ⟨h0,h3,h4,rfl⟩ ih;have hw:=aL i (by omega);obtain ⟨k,t,c,a,b,hx⟩:=wQ l[i];have hm:l[i]∈l:=Qd hi;have hs:SizeOf.sizeOf l[i]<SizeOf.sizeOf l:=IK hm;have ht:=UF hi;have htl:(pre (l.take (i+1))).length<=(pre l).length:=by
    have:pre l=pre (l.take (i+1))++pre (l.drop (i+1)):=by rw [<- OK,ML]
    rw [this];simp
   rw [hx] at hs ht;rw [FX] at ht;simp at hs;have htl2:=congrArg List.length ht;simp at htl2;have i1:=Sh n a (by omega) (by omega);have i2:=Sh n b (by omega) (by omega);have b1:((pre (l.take i)).length+1)*88<=70368744177664:=by omega
   have b2:((pre (l.take i)).length+1+(pre a).length)*88<=70368744177664:=by omega
   have b3:((pre (l.take i)).length+(1+(pre a).length)+(pre b).length)*88<=70368744177664:=by omega
   have b4:((pre (l.take i)).length+1+(pre a).length+(pre b).length)*88<=70368744177664:=by omega
   have e6:(pre (l.take i)).length+((pre a).length+1)=(pre (l.take i)).length+1+(pre a).length:=by omega
   have b5:((pre (l.take i)).length+(1+(pre a).length))*88<=70368744177664:=by omega
   simp [c_252_l0,h0,h3,h4,hi,hw,hx,Xa.e,i1,i2,e6,b1,b2,b4];refine ih _ _ ⟨by simp [h0],?_,by simp,?_⟩
   ·simp [ht,Xa.e]
   ·simp [htl2];omega
  ·rintro e _ L hL ⟨h0,h3,h4,rfl⟩;rw [i9] at h3;simp [c_252_l0,c_252_k1,h0,h3,h4,hL,<- hX]
  ·simp [pre]
theorem qoq (k t:Int) (c:List Xe) (a b:List Xa):a9 Φ E4 [.agg (Xa.c (.mk k t c a b))]=some (.val (.bool (appl (.mk k t c a b)))):=by
 rw [aA rfl rfl];by_cases k1:k=1
 ·simp [BE,Xa.e,appl,k1]
 ·simp [BE,Xa.e,appl,k1]
theorem Ag (l:List Xa) (i:Nat) (hi:i<l.length) (hl:l.length<2^40):a9 Φ DW [.slice 5 (l.map Xa.c),a8 i]=some (.val (.bool ((l.take i).any fun y=>appl y&&decide (y.table=l[i].table)))):=by
 rw [aA rfl rfl];generalize hX:some (Rt.val (.bool ((l.take i).any fun y=>appl y&&decide (y.table=l[i].table))))=X;simp [L8];refine (zJ (l.take i) (fun y=>appl y&&decide (y.table=l[i].table)) (some (Rt.val (.bool true))) (some (Rt.val (.bool false)))
  (fun k e H=>look 0 e=some (.slice 5 (l.map Xa.c))/\look 1 e=some (a8 i)/\look 5 e=some (a8 k)/\H=⟨[],0⟩) ?_ ?_ ?_ _ _ ?_).trans ?_
 ·rintro j e _ L hk hL ⟨h0,h1,h5,rfl⟩ hb;simp only [fU] at hk;have hk1:j<i:=by omega
  have hk2:j<l.length:=by omega
  simp only [mG,eB,decide_eq_true_eq] at hb;obtain ⟨k,t,c,a,b,hx⟩:=wQ l[j];obtain ⟨k',t',c',a',b',hx'⟩:=wQ l[i];have ha:=qoq k t c a b;rw [hx,hx'] at hb;simp only [Xa.table_mk] at hb;obtain ⟨hb1,hb2⟩:=hb;subst hb2;rw [hb1] at ha;simp only [Xa.e] at ha;simp [c_289_l0,h0,h1,h5,hk1,hk2,hi,hx,hx',Xa.e,ha]
 ·rintro j e _ L X hk hL ⟨h0,h1,h5,rfl⟩ hb ih;simp only [fU] at hk;have hk1:j<i:=by omega
  have hk2:j<l.length:=by omega
  have hw:=aL j (by omega);simp only [mG] at hb;obtain ⟨k,t,c,a,b,hx⟩:=wQ l[j];obtain ⟨k',t',c',a',b',hx'⟩:=wQ l[i];have ha:=qoq k t c a b;rw [hx,hx'] at hb;simp only [Xa.table_mk] at hb;cases q:appl (.mk k t c a b) with
  | false=>
   rw [q] at ha;simp only [Xa.e] at ha;simp [c_289_l0,h0,h1,h5,hk1,hk2,hx,Xa.e,ha,hw];exact ih _ _ ⟨by simp [h0],by simp [h1],by simp,rfl⟩
  | true=>
   rw [q] at ha hb;simp only [Xa.e] at ha;simp only [Bool.true_and,decide_eq_false_iff_not] at hb;simp [c_289_l0,h0,h1,h5,hk1,hk2,hi,hx,hx',Xa.e,ha,hb,hw];exact ih _ _ ⟨by simp [h0],by simp [h1],by simp,rfl⟩
 ·rintro e _ L hL ⟨h0,h1,h5,rfl⟩;have hm:min i l.length=i:=by omega
  simp [hm] at h5;simp [c_289_l0,c_289_k1,h1,h5,hL]
 ·simp
 ·rw [<- hX];cases (l.take i).any (fun y=>appl y&&decide (y.table=l[i].table))<;>rfl
theorem Ck (l:List Xa) (i:Nat) (hi:i<l.length) (hl:l.length<2^40) (hc:l[i].thn.length<2^40/\l[i].els.length<2^40):a9 Φ DL [.agg (Prg.c p),.slice 5 (l.map Xa.c),a8 i]=some (.val (a8 (kU p (l.take i) l[i]))):=by
 rw [aA rfl rfl];have hb:=Ag l i hi hl;obtain ⟨k,t,c,a,b,hx⟩:=wQ l[i];rw [hx] at hc hb ⊢;simp only [Xa.thn_mk,Xa.els_mk] at hc;have hab:IntKind.wrap .i64 ((a.length:Int)+b.length)=(a.length:Int)+b.length:=bJ (by omega) (by omega);by_cases k0:k<1
 ·rw [show kU p (l.take i) (.mk k t c a b)=11 by simp [kU,show ¬k=2 by omega,show ¬k=1 by omega,show ¬k=3 by omega]];simp [fA,hi,hx,Xa.e,Prg.e,k0]
 by_cases k4:3<k
 ·rw [show kU p (l.take i) (.mk k t c a b)=11 by simp [kU,show ¬k=2 by omega,show ¬k=1 by omega,show ¬k=3 by omega]];simp [fA,hi,hx,Xa.e,Prg.e,k0,k4]
 by_cases k2:k=2
 ·have he:=Vl p [] c;simp only [aK,QB] at he;by_cases z:(exE p [] c).2=0
  ·rw [z] at he;by_cases y:(exE p [] c).1=1
   ·rw [y] at he;simp [fA,hi,hx,Xa.e,Prg.e,k2,kU,he,z,y]
   ·simp [fA,hi,hx,Xa.e,Prg.e,k2,kU,he,z,y]
  ·simp [fA,hi,hx,Xa.e,Prg.e,k2,kU,he,z]
 have k13:k=1\/k=3:=by omega
 by_cases t0:t<0
 ·rw [show kU p (l.take i) (.mk k t c a b)=8 by simp [kU,k2,k13,t0]];simp [fA,hi,hx,Xa.e,Prg.e,k0,k4,k2,t0]
 by_cases t1:(p.Xn.length:Int)<=t
 ·rw [show kU p (l.take i) (.mk k t c a b)=8 by simp [kU,k2,k13,t0,t1]];simp [fA,hi,hx,Xa.e,Prg.e,k0,k4,k2,t0,t1]
 cases q:(l.take i).any (fun y=>appl y&&decide (y.table=(Xa.mk k t c a b).table)) with
 | true=>
  rw [q] at hb;have e:kU p (l.take i) (.mk k t c a b)=7:=by
   unfold kU;rw [q];simp [k2,k13,t0,t1]
  rw [e];simp [fA,hi,hx,Xa.e,Prg.e,k0,k4,k2,t0,t1,hb]
 | false=>
  rw [q] at hb;have e:kU p (l.take i) (.mk k t c a b)=if k=1/\0<a.length+b.length then 5 else 0:=by
   unfold kU;rw [q];simp [k2,k13,t0,t1]
  rw [e];by_cases k1:k=1
  ·by_cases z:0<a.length+b.length
   ·have z':(0:Int)<(a.length:Int)+b.length:=by omega
    simp [fA,hi,hx,Xa.e,Prg.e,k1,t0,t1,hb,hab,z,z']
    first
     | done
     | (intro h;simp [h] at z;omega)
   ·have za:a.length=0:=by omega
    have zb:b.length=0:=by omega
    simp [fA,hi,hx,Xa.e,Prg.e,k1,t0,t1,hb,za,zb];rw [show IntKind.wrap .i64 0=0 by decide];simp [Qg za,Qg zb]
  ·simp [fA,hi,hx,Xa.e,Prg.e,k0,k4,k2,k1,t0,t1,hb]
mutual
theorem Bc:∀(x:Xa) (n:Nat),(pre1 x).length<=n->∀y∈pre1 x,y.thn.length<=n/\y.els.length<=n
 | .mk k t c a b,n,h,y,hy=>by
  rw [FX] at h hy;simp at h;have ha:=EO a;have hb:=EO b;rcases fI.1 hy with rfl | hy
  ·simp;omega
  ·rcases gP.1 hy with hy | hy
   ·exact XX a n (by omega) y hy
   ·exact XX b n (by omega) y hy
theorem XX:∀(l:List Xa) (n:Nat),(pre l).length<=n->∀y∈pre l,y.thn.length<=n/\y.els.length<=n
 | [],n,h,y,hy=>by simp [pre] at hy
 | x::r,n,h,y,hy=>by
  rw [pre] at h hy;simp at h;rcases gP.1 hy with hy | hy
  ·exact Bc x n (by omega) y hy
  ·exact XX r n (by omega) y hy
end
theorem Fp (hl:(pre p.Yb).length<2^40 - 1):a9 Φ CT [.agg (Prg.c p)]=some (.val (.tup [a8 (ctlE p).1,a8 (ctlE p).2])):=by
 rw [aA rfl rfl];have hc:=Ty _ p.Yb (Qb _) (by omega);have hn:=Uz _ p.Yb (Qb _) (by omega);by_cases z1:24<(pre p.Yb).length
 ·simp [uI,Prg.e,hc,ctlE,z1]
 by_cases z2:6<nest p.Yb
 ·simp [uI,Prg.e,hc,hn,ctlE,z1,z2]
 have hE:ctlE p=(fe (ctlG p (pre p.Yb)) (pre p.Yb).length 0).getD (0,0):=by unfold ctlE;rw [QA z1,QA z2];rfl
 have hp:=Sh _ p.Yb (Qb _) (by omega);rw [hE];simp [uI,Prg.e,hc,hn,hp,z1,z2];refine fJ (pre p.Yb).length (fun i e=>look 1 e=some (.iptr 9 [Prg.c p] 0 0)/\look 4 e=some (.slice 5 ((pre p.Yb).map Xa.c))/\look 5 e=some (a8 i))
  (fun i=>some (Rt.val (.tup [a8 ((fe (ctlG p (pre p.Yb)) (pre p.Yb).length i).getD (0,0)).1,a8 ((fe (ctlG p (pre p.Yb)) (pre p.Yb).length i).getD (0,0)).2]))) ?_ ?_ 0 _ (Qc _) ?_
 ·rintro i e L hi hL ⟨h1,h4,h5⟩ ih;have hw:=aL i (by omega);have hk:=XX p.Yb 24 (by omega) _ (Qd hi);have hE:=Ck p (pre p.Yb) i hi (by omega) ⟨by omega,by omega⟩;simp only [Prg.e] at hE;rw [Prg.e] at h1;by_cases y:kU p ((pre p.Yb).take i) (pre p.Yb)[i]=0
  ·rw [y] at hE;rw [cZ hi (by simp [ctlG,hi,y])];simp [c_204_l0,h1,h4,h5,hi,hE,hw];exact ih _ ⟨by simp [h1,Prg.e],by simp [h4],by simp⟩
  ·rw [aZ (x:=((i:Int),kU p ((pre p.Yb).take i) (pre p.Yb)[i])) hi (by simp [ctlG,hi,y])];simp [c_204_l0,h1,h4,h5,hi,hE,y]
 ·rintro e L hL ⟨h1,h4,h5⟩;rw [dV];simp [c_204_l0,c_204_k1,h4,h5,hL]
 ·simp [Prg.e]
theorem qsu {Φ:FuncId->Option AFun} {I:Type} {fin:Option (Ex×St)->Option I} (l:List α) (bad:α->Bool) (Rb Re:Option I) (Inv:Nat->Bool->Env->AH->Prop) {b:Xv} {K:List Fr}
  (hit:∀i e h L X (hi:i<l.length),(∀j s,go Φ fin L (.exit j) s=go Φ fin K (.exit j) s)->Inv i false e h->bad l[i]=true->(∀e' h',Inv (i+1) true e' h'->go Φ fin L .normal ⟨e',h'⟩=X)->go Φ fin (.c b::L) .normal ⟨e,h⟩=X)
  (miss:∀i e h L X (hi:i<l.length),(∀j s,go Φ fin L (.exit j) s=go Φ fin K (.exit j) s)->Inv i false e h->bad l[i]=false->(∀e' h',Inv (i+1) false e' h'->go Φ fin L .normal ⟨e',h'⟩=X)->go Φ fin (.c b::L) .normal ⟨e,h⟩=X)
  (stop:∀i e h L,i<=l.length->(∀j s,go Φ fin L (.exit j) s=go Φ fin K (.exit j) s)->Inv i true e h->go Φ fin (.c b::L) .normal ⟨e,h⟩=Rb)
  (last:∀e h L,(∀j s,go Φ fin L (.exit j) s=go Φ fin K (.exit j) s)->Inv l.length false e h->go Φ fin (.c b::L) .normal ⟨e,h⟩=Re):
  ∀e h,Inv 0 false e h->go Φ fin (.c (.loop b)::K) .normal ⟨e,h⟩=if l.any bad then Rb else Re:=by
 intro e h h0;refine (R0 (C:=Nat×Bool) (fun x=>if x.2 then 0 else l.length - x.1+1) (fun x e h=>x.1<=l.length/\Inv x.1 x.2 e h) (fun x=>if x.2 then Rb else if mK l bad x.1 then Rb else Re) ?_ (0,false) e h ⟨Qc _,h0⟩).trans (by simp [R5]);rintro ⟨i,f⟩ e h L hL ⟨hi,hinv⟩ ih;cases f with
 | true=>exact stop i e h L hi hL hinv
 | false=>
  simp only [kC,if_false];rcases Nat.lt_or_eq_of_le hi with hlt | heq
  ·cases hb:bad l[i] with
   | true=>
    rw [UH hlt hb,aB rfl];exact hit i e h L _ hlt hL hinv hb fun e' h' hi'=>ih (i+1,true) e' h' (by simp) ⟨by simp;omega,hi'⟩
   | false=>
    rw [HN hlt hb];refine miss i e h L _ hlt hL hinv hb fun e' h' hi'=>?_
    have:=ih (i+1,false) e' h' (by simp;simp at hlt;omega) ⟨by simp;omega,hi'⟩;simpa using this
  ·simp only at heq;subst heq;rw [RA];exact last e h L hL hinv
def dgR (o:Option Dg):Rt:= .val (.agg (dgC (o.getD (0,0,0,0))))
def dH:AH:=⟨[(0,.row 4 [[a8 0,a8 0,a8 0,a8 0]])],1⟩
theorem gW (a b c d:Int):a9 Φ cN [a8 a,a8 b,a8 c,a8 d]=some (.val (.agg [a8 a,a8 b,a8 c,a8 d])):=by
 rw [aA rfl rfl];simp [K4]
theorem Ma (f:PrgS p):a9 Φ BU [.agg (Prg.c p)]=some (dgR (limD p)):=by
 rw [aA rfl rfl];have n1:=HK p.name f.n;cases q1:idS p.name with
 | false=>rw [q1] at n1;simp [l7,Prg.e,n1,gW,limD,q1,dgR,dgC]
 | true=>
 rw [q1] at n1;by_cases z1:8<p.Xp.length
 ·simp [l7,Prg.e,n1,gW,limD,q1,dgR,dgC,z1]
 by_cases z2:4<p.Xm.length
 ·simp [l7,Prg.e,n1,gW,limD,q1,dgR,dgC,z1,z2]
 by_cases z3:16<p.Xy.length
 ·simp [l7,Prg.e,n1,gW,limD,q1,dgR,dgC,z1,z2,z3]
 by_cases z4:12<p.Xn.length
 ·simp [l7,Prg.e,n1,gW,limD,q1,dgR,dgC,z1,z2,z3,z4]
 simp [l7,Prg.e,n1,limD,q1,dgR,dgC,z1,z2,z3,z4]
theorem Fx (f:PrgS p):a9 Φ BW [.agg (Prg.c p)]=some (dgR (hdrD p)):=by
 rw [aA rfl rfl,show hdrD p=fe (hdrG p) p.Xp.length 0 from rfl];simp [J8,Prg.e];refine fJ p.Xp.length (fun i e=>look 1 e=some (.iptr 9 [Prg.c p] 0 0)/\look 2 e=some (.ptr 0 4 0 0)/\look 3 e=some (a8 i))
  (fun i=>some (dgR (fe (hdrG p) p.Xp.length i))) ?_ ?_ 0 _ (Qc _) ?_
 ·rintro i e L hi hL ⟨h1,h2,h3⟩ ih;have hlen:=f.h;have hw:=aL i (by omega);have hm:=Qd hi;have eh:=Fy p.Xp[i] (f.hn _ hm) (f.hf _ hm);simp only [Xj.e] at eh;rw [Prg.e] at h1;have bad:∀c:Int,c≠0->yP p i p.Xp[i]=c->fe (hdrG p) p.Xp.length i=some (c,1,(i:Int),0):=fun c h0 h=>aZ hi (by simp [hdrG,hi,h,h0])
  by_cases z1:hdrE p.Xp[i]=0
  rotate_left
  ·rw [bad _ z1 (by simp [yP,z1])];simp [c_132_l3,Xj.e,h1,h3,hi,eh,z1];rw [bG];by_cases hi0:0<i<;>simp [c_132_l0,c_132_k1,h2,h3,z1,hi0,gW,dgR,dgC]
  by_cases z2:p.Xp[i].name=[109,101,116,97]
  ·rw [bad 6 (by decide) (by simp [yP,z1,z2])];rw [z2] at eh;simp [c_132_l3,Xj.e,h1,h3,hi,eh,z1,z2];rw [bG];by_cases hi0:0<i<;>simp [c_132_l0,c_132_k1,h2,h3,hi0,gW,dgR,dgC]
  generalize hX:some (dgR (fe (hdrG p) p.Xp.length i))=X;simp [c_132_l3,Xj.e,h1,h3,hi,eh,z1,z2];refine (qsu (p.Xp.take i) (fun y=>decide (y.name=p.Xp[i].name)) (some (dgR (some (7,1,(i:Int),0)))) (some (dgR (fe (hdrG p) p.Xp.length (i+1))))
   (fun k b e H=>look 1 e=some (.iptr 9 [Prg.c p] 0 0)/\look 2 e=some (.ptr 0 4 0 0)/\look 3 e=some (a8 i)/\look 4 e=some (a8 (if b then 7 else 0))/\look 5 e=some (a8 k)/\H=dH) ?_ ?_ ?_ ?_ _ _ ?_).trans ?_
  ·rintro k e _ L' Y hk hL' ⟨h1,h2,h3,h4,h5,rfl⟩ hb ih';simp only [fU] at hk;have hk1:k<i:=by omega
   have hk2:k<p.Xp.length:=by omega
   have hw':=aL k (by omega);simp only [mG,decide_eq_true_eq] at hb;rw [Prg.e] at h1;simp at h4;simp [c_132_l0,Xj.e,h1,h3,h4,h5,hk1,hk2,hi,hb,hw'];exact ih' _ _ ⟨by simp [h1,Prg.e],by simp [h2],by simp [h3],by simp,by simp,rfl⟩
  ·rintro k e _ L' Y hk hL' ⟨h1,h2,h3,h4,h5,rfl⟩ hb ih';simp only [fU] at hk;have hk1:k<i:=by omega
   have hk2:k<p.Xp.length:=by omega
   have hw':=aL k (by omega);simp only [mG,decide_eq_false_iff_not] at hb;rw [Prg.e] at h1;simp at h4;simp [c_132_l0,Xj.e,h1,h3,h4,h5,hk1,hk2,hi,hb,hw'];exact ih' _ _ ⟨by simp [h1,Prg.e],by simp [h2],by simp [h3],by simp [h4],by simp,rfl⟩
  ·rintro k e _ L' hk hL' ⟨h1,h2,h3,h4,h5,rfl⟩;simp only [fU] at hk;simp at h4;by_cases hk1:k<i
   ·simp [c_132_l0,c_132_k1,h2,h3,h4,h5,hk1,hL',gW,dgR,dgC,dH]
   ·simp [c_132_l0,c_132_k1,h2,h3,h4,h5,hk1,hL',gW,dgR,dgC,dH]
  ·rintro e _ L' hL' ⟨h1,h2,h3,h4,h5,rfl⟩;have hmn:min i p.Xp.length=i:=by omega
   simp [hmn] at h4 h5;simp [c_132_l0,c_132_k1,c_132_k2,h3,h4,h5,hL',hw];exact ih _ ⟨by simp [h1],by simp [h2],by simp⟩
  ·simp [h1,h2,h3,Prg.e,dH]
  ·rw [<- hX];cases q:dupN Xj.name p.Xp i p.Xp[i] with
   | true=>
    rw [bad 7 (by decide) (by simp [yP,z1,z2,q])];unfold dupN at q;rw [q];rfl
   | false=>
    rw [cZ hi (by simp [hdrG,hi,yP,z1,z2,q])];unfold dupN at q;rw [q];rfl
 ·rintro e L hL ⟨h1,h2,h3⟩;rw [dV];rw [Prg.e] at h1;simp [c_132_l3,c_132_k4,h1,h2,h3,hL,dgR,dgC]
 ·simp [Prg.e]
end Go.Av
