/-
 The control flow: the program's answer, whole.
-/
import Derived.Test.YtakklbipljodeaaGreatK14
set_option linter.unusedVariables false
set_option linter.unusedSimpArgs false
set_option linter.constructorNameAsVariable false
namespace Go.Av
set_option maxRecDepth 4000
theorem qlw {w:Wk} {m:Nat} {H:AH} (h:ChkH w m H):∃O,H=⟨O,m⟩∧look m O=none∧∀m',m≤m'→ChkH w m' ⟨O,m'⟩:=by
 obtain ⟨h3,⟨hus,rfl⟩ | ⟨q,hq,hqm,rfl⟩⟩:=h
 ·refine ⟨_,rfl,?_,fun m' hm=>⟨by omega,.inl ⟨hus,rfl⟩⟩⟩
  have a0:¬(0=m):=by omega
  have a1:¬(1=m):=by omega
  have a2:¬(2=m):=by omega
  simp [a0,a1,a2]
 ·refine ⟨_,rfl,?_,fun m' hm=>⟨by omega,.inr ⟨q,hq,by omega,rfl⟩⟩⟩
  have a0:¬(0=m):=by omega
  have a1:¬(1=m):=by omega
  have a2:¬(2=m):=by omega
  have a3:¬(q=m):=by omega
  simp [a0,a1,a2,a3]
def PK (p:Prg) (l:List ControlNode) (w:Wk) (m:Nat) (r:Option (Rt×AH)):Prop:=∃m' H',m≤m'∧ChkH (wk p w (pre l)) m' H'∧r=some (.val (.bool (decide ((wk p w (pre l)).e=0))),H')
theorem qn4 (p:Prg):∀(n:Nat) (l:List ControlNode) (w:Wk) (m:Nat) (H:AH),ChkH w m H→w.e=0→SizeOf.sizeOf l≤n→0≤w.n→w.n+(pre l).length<2^60→w.us.length+(pre l).length<2^40 - 1→
  ∃m' H',m≤m'∧ChkH (wk p w (pre l)) m' H'∧qan Φ f_301 [.slice 5 (l.map ControlNode.c),chkF p] H=some (.val (.bool (decide ((wk p w (pre l)).e=0))),H')
 | 0,l,w,m,H,_,_,h,_,_,_=>by cases l<;>simp at h
 | n+1,l,w,m,H,hH,he,h,hn0,hn1,hu=>by
  have hll:=qdy l
  obtain ⟨O,rfl,hO,hup⟩:=qlw hH
  have goal:PK p l w m (go Φ (finC c_301.results) [.c c_301.body] .normal ⟨qbu 0 [.slice 5 (l.map ControlNode.c),chkF p],⟨O,m⟩⟩):=by
   simp [c_301,chkF]
   refine ql6 l.length (fun i e H=>look 1 e=some (chkF p)∧look 7 e=some (.slice 5 (l.map ControlNode.c))∧look 8 e=some (.int .i64 l.length)∧look 9 e=some (.int .i64 i)∧(wk p w (pre (l.take i))).e=0∧∃m1,m≤m1∧ChkH (wk p w (pre (l.take i))) m1 H)
    (PK p l w m) ?_ ?_ 0 _ _ (Nat.zero_le _) ?_
   ·rintro i e H1 L hi hL ⟨h1,h7,h8,h9,hw0,m1,hm1,hH1⟩ ih
    have hw:IntKind.wrap .i64 ((i:Int)+1)=((i+1:Nat):Int):=qad (by omega) (by omega)
    obtain ⟨k,t,cd,a,b,hx⟩:=qc5 l[i]
    have hm:l[i]∈l:=List.getElem_mem hi
    have hs:SizeOf.sizeOf l[i]<SizeOf.sizeOf l:=List.sizeOf_lt_of_mem hm
    have ht:=qhr hi
    have hpl:pre l=pre (l.take (i+1))++pre (l.drop (i+1)):=by rw [← qd4,List.take_append_drop]
    have htl:(pre (l.take (i+1))).length≤(pre l).length:=by rw [hpl];simp
    rw [hx] at hs ht
    rw [qeg] at ht
    simp at hs
    have htl2:=htl
    rw [ht] at htl2
    simp at htl2
    obtain ⟨O1,rfl,hO1,hup1⟩:=qlw hH1
    have r1:=wk_n p (pre (l.take i)) w
    have al:=qdy a
    have bl:=qdy b
    have e2:wk p w (pre (l.take (i+1)))=wk p (wk p (wk1 p (wk p w (pre (l.take i))) (.mk k t cd a b)) (pre a)) (pre b):=by
     rw [ht,qgz]
     show wk p (wk1 p (wk p w (pre (l.take i))) (.mk k t cd a b)) (pre a++pre b)=_
     rw [qgz]
    generalize hW:wk p w (pre (l.take i))=W at*
    obtain ⟨m2,H2,hm2,hH2,c1⟩:=qve p k t cd a b W (m1+1) _ (hup1 (m1+1) (by omega)) hw0 ⟨by omega,by omega⟩ (by omega) (by omega) (by omega)
    have r2:(wk1 p W (.mk k t cd a b)).n≤W.n+1∧(wk1 p W (.mk k t cd a b)).us.length≤W.us.length+1∧W.n≤(wk1 p W (.mk k t cd a b)).n:=by
     have:=wk_n p [.mk k t cd a b] W
     simp [wk] at this
     omega
    simp only [ControlNode.e,Prg.e] at c1
    simp only [chkF,Prg.e] at h1
    by_cases y1:(wk1 p W (.mk k t cd a b)).e=0
    rotate_left
    ·-- the node is bad
     have e3:wk p w (pre l)=wk1 p W (.mk k t cd a b):=by
      rw [hpl,qgz,e2,qfn p _ y1,qfn p _ y1,qfn p _ y1]
     refine ⟨m2,H2,by omega,by rw [e3];exact hH2,?_⟩
     simp [c_301_l0,h1,h7,h8,h9,hi,hL,hx,ControlNode.e,hO1,c1,y1,e3]
    obtain ⟨m3,H3,hm3,hH3,c2⟩:=qn4 p n a _ m2 H2 hH2 y1 (by omega) (by omega) (by omega) (by omega)
    have r3:=wk_n p (pre a) (wk1 p W (.mk k t cd a b))
    simp only [chkF,Prg.e] at c2
    generalize hW2:wk p (wk1 p W (.mk k t cd a b)) (pre a)=W2 at*
    by_cases y2:W2.e=0
    rotate_left
    ·have e3:wk p w (pre l)=W2:=by
      rw [hpl,qgz,e2,qfn p _ y2,qfn p _ y2]
     refine ⟨m3,H3,by omega,by rw [e3];exact hH3,?_⟩
     simp [c_301_l0,h1,h7,h8,h9,hi,hL,hx,ControlNode.e,hO1,c1,c2,y1,y2,e3]
    obtain ⟨m4,H4,hm4,hH4,c3⟩:=qn4 p n b _ m3 H3 hH3 y2 (by omega) (by omega) (by omega) (by omega)
    simp only [chkF,Prg.e] at c3
    generalize hW3:wk p W2 (pre b)=W3 at*
    by_cases y3:W3.e=0
    rotate_left
    ·have e3:wk p w (pre l)=W3:=by
      rw [hpl,qgz,e2,qfn p _ y3]
     refine ⟨m4,H4,by omega,by rw [e3];exact hH4,?_⟩
     simp [c_301_l0,h1,h7,h8,h9,hi,hL,hx,ControlNode.e,hO1,c1,c2,c3,y1,y2,y3,e3]
    simp [c_301_l0,h1,h7,h8,h9,hi,hL,hx,ControlNode.e,hO1,c1,c2,c3,y1,y2,y3,hw]
    exact ih _ _ ⟨by simp [h1,chkF,Prg.e],by simp [h7],by simp [h8],by simp,by rw [e2];exact y3,m4,by omega,by rw [e2];exact hH4⟩
   ·rintro e H1 L hL ⟨h1,h7,h8,h9,hw0,m1,hm1,hH1⟩
    rw [List.take_length] at hw0 hH1
    obtain ⟨O1,rfl,hO1,hup1⟩:=qlw hH1
    refine ⟨m1,_,hm1,hH1,?_⟩
    simp [c_301_l0,c_301_k1,h7,h8,h9,hL,hw0]
   ·simp [chkF,pre,wk,he]
    exact ⟨m,Nat.le_refl _,hH⟩
  obtain ⟨m',H',k1,k2,k3⟩:=goal
  exact ⟨m',H',k1,k2,by rw [qc6 (fn:=c_301) rfl rfl];exact k3⟩
end Go.Av
namespace Go.Av
set_option maxRecDepth 4000
def usOf (l:List ControlNode):List Int:=(l.filter appl).map (·.table)
theorem qpt (t:Int) (l:List ControlNode):(usOf l).contains t=l.any (fun y=>appl y&&decide (y.table=t)):=by
 unfold usOf
 rw [qdx,List.any_filter]
theorem qq6 (p:Prg) (l:List ControlNode) (x:ControlNode):qck p l x=qcm p (usOf l) x:=by
 unfold qck qcm
 rw [qpt]
def ctlG (p:Prg) (l:List ControlNode) (i:Nat):Option (Int×Int):=(l[i]?).bind fun x=>if qck p (l.take i) x=0 then none else some ((i:Int),qck p (l.take i) x)
theorem wk_fe (p:Prg) (l:List ControlNode):∀n i,n+i=l.length→((wk p ⟨0,i,usOf (l.take i)⟩ (l.drop i)).e=0∧fe (ctlG p l) l.length i=none)∨
  ((wk p ⟨0,i,usOf (l.take i)⟩ (l.drop i)).e≠0∧fe (ctlG p l) l.length i=some ((wk p ⟨0,i,usOf (l.take i)⟩ (l.drop i)).n,(wk p ⟨0,i,usOf (l.take i)⟩ (l.drop i)).e))
 | 0,i,h=>by
  have:i=l.length:=by omega
  subst this
  simp [wk,qaz]
 | n+1,i,h=>by
  have hi:i<l.length:=by omega
  rw [List.drop_eq_getElem_cons hi]
  show ((wk p (wk1 p ⟨0,i,usOf (l.take i)⟩ l[i]) (l.drop (i+1))).e=0∧_)∨((wk p (wk1 p ⟨0,i,usOf (l.take i)⟩ l[i]) (l.drop (i+1))).e≠0∧fe (ctlG p l) l.length i=some ((wk p (wk1 p ⟨0,i,usOf (l.take i)⟩ l[i]) (l.drop (i+1))).n,(wk p (wk1 p ⟨0,i,usOf (l.take i)⟩ l[i]) (l.drop (i+1))).e))
  by_cases z:qcm p (usOf (l.take i)) l[i]=0
  ·have e1:wk1 p ⟨0,i,usOf (l.take i)⟩ l[i]=⟨0,((i+1:Nat):Int),usOf (l.take (i+1))⟩:=by
    have hu:usOf (l.take (i+1))=if appl l[i] then usOf (l.take i)++[l[i].table] else usOf (l.take i):=by
     rw [List.take_succ_eq_append_getElem hi]
     unfold usOf
     rw [List.filter_append,List.map_append]
     cases q:appl l[i]<;>simp [q,List.filter_cons]
    rw [hu]
    simp [wk1,z]
   rw [e1,qap hi (by simp [ctlG,hi,qq6,z])]
   exact wk_fe p l n (i+1) (by omega)
  ·have e1:wk1 p ⟨0,i,usOf (l.take i)⟩ l[i]=⟨qcm p (usOf (l.take i)) l[i],i,usOf (l.take i)⟩:=by simp [wk1,z]
   rw [e1,qfn p _ z]
   refine .inr ⟨z,?_⟩
   rw [qah hi (by simp only [ctlG,List.getElem?_eq_getElem hi,Option.bind_some,qq6];rw [if_neg z])]
theorem qaao (p:Prg) (hl:(pre p.control).length<2^40 - 1):qab Φ f_246 [.agg (Prg.c p)]=some (.val (.tup [.int .i64 (ctlE p).1,.int .i64 (ctlE p).2])):=by
 rw [qaa (fn:=c_246) rfl rfl]
 have hc:=qxr p.control (by omega)
 have hn:=qn1 _ p.control (Nat.le_refl _) (by omega)
 by_cases z1:24<(pre p.control).length
 ·simp [c_246,Prg.e,hc,ctlE,z1]
 by_cases z2:6<nest p.control
 ·simp [c_246,Prg.e,hc,hn,ctlE,z1,z2]
 have hE:ctlE p=(fe (ctlG p (pre p.control)) (pre p.control).length 0).getD (0,0):=by unfold ctlE;rw [if_neg z1,if_neg z2];rfl
 obtain ⟨m',H',hm',hH',hp⟩:=qn4 p _ p.control ⟨0,0,[]⟩ 3 ⟨[(0,.row 1 [[.int .i64 0]]),(1,.row 1 [[.int .i64 0]]),(2,.row 1 [[.fslice 1 []]])],3⟩ ⟨by omega,.inl ⟨rfl,rfl⟩⟩ rfl (Nat.le_refl _) (by simp) (by simp;omega) (by simp;omega)
 have hf:=wk_fe p (pre p.control) (pre p.control).length 0 (by omega)
 simp only [List.take_zero,List.drop_zero,show usOf []=[] from rfl,Int.ofNat_zero] at hf
 generalize hW:wk p ⟨0,0,[]⟩ (pre p.control)=W at*
 simp only [chkF,Prg.e] at hp
 rw [hE]
 rcases hf with ⟨y,hf⟩ | ⟨y,hf⟩
 ·rw [hf]
  obtain ⟨h3,⟨hus,rfl⟩ | ⟨q,hq,hqm,rfl⟩⟩:=hH'
  ·simp [y] at hp
   simp [c_246,Prg.e,hc,hn,z1,z2,hp]
  ·simp [y] at hp
   simp [c_246,Prg.e,hc,hn,z1,z2,hp]
 ·rw [hf]
  obtain ⟨h3,⟨hus,rfl⟩ | ⟨q,hq,hqm,rfl⟩⟩:=hH'
  ·simp [y] at hp
   simp [c_246,Prg.e,hc,hn,z1,z2,hp,y]
  ·simp [y] at hp
   simp [c_246,Prg.e,hc,hn,z1,z2,hp,y]
end Go.Av
namespace Go.Av
set_option maxRecDepth 4000
def metG (p:Prg) (i:Nat):Option Dg:=(p.metadata[i]?).bind fun f=>if fldE p.metadata i f=0 then none else some (fldE p.metadata i f,(2:Int),(i:Int),(0:Int))
def metH (p:Prg) (i:Nat):Option Dg:=if p.metadata[i]? =some (qc3 i) then none else some (5,2,(i:Int),0)
theorem qnx (p:Prg):metD p=if 12<p.metadata.length then some (12,2,0,0) else (fe (metG p) p.metadata.length 0).or (fe (metH p) 3 0):=by
 unfold metD
 show (if _ then _ else (match fe (metG p) p.metadata.length 0 with | some d=>some d | none=>fe (metH p) 3 0))=_
 cases fe (metG p) p.metadata.length 0<;>rfl
theorem Fld.eq_iff (a b:Fld):a=b↔a.name=b.name∧a.width=b.width:=Fld.ext_iff
theorem qabc (p:Prg) (e:Env) (n:Nat) (h1:look 1 e=some (.iptr 9 [Prg.c p] 0 0)):go Φ (finP []) [.c c_147_k2] .normal ⟨e,⟨[],n⟩⟩=some (rtD (fe (metH p) 3 0)):=by
 rw [Prg.e] at h1
 simp [c_147_k2]
 rw [qay]
 by_cases l0:p.metadata.length≤0
 ·rw [qah (x:=(5,2,0,0)) (by omega) (by unfold metH;rw [List.getElem?_eq_none l0];rfl)]
  have hnil:p.metadata=[]:=List.eq_nil_of_length_eq_zero (by omega)
  simp [c_147_l1,h1,hnil,qa4,qar,qam,rtD,wr1]
 have k0:0<p.metadata.length:=by omega
 have hne:¬p.metadata=[]:=by intro h;rw [h] at k0;simp at k0
 by_cases a0:p.metadata[0].name=[105,110]
 rotate_left
 ·rw [qah (x:=(5,2,0,0)) (by omega) (by unfold metH;rw [List.getElem?_eq_getElem k0,if_neg (by simp [qc3,Fld.eq_iff,a0])];rfl)]
  simp [c_147_l1,Fld.e,h1,l0,hne,k0,a0,qa4,qar,qam,rtD,wr1]
 by_cases b0:p.metadata[0].width=8
 rotate_left
 ·rw [qah (x:=(5,2,0,0)) (by omega) (by unfold metH;rw [List.getElem?_eq_getElem k0,if_neg (by simp [qc3,Fld.eq_iff,b0])];rfl)]
  simp [c_147_l1,Fld.e,h1,l0,hne,k0,a0,b0,qa4,qar,qam,rtD,wr1]
 rw [qap (by omega) (by unfold metH;rw [List.getElem?_eq_getElem k0,if_pos (by simp [qc3,Fld.eq_iff,a0,b0])])]
 simp [c_147_l1,Fld.e,h1,l0,hne,k0,a0,b0,qa4,qar,qam,wr1]
 rw [qay]
 by_cases l1:p.metadata.length≤1
 ·rw [qah (x:=(5,2,1,0)) (by omega) (by unfold metH;rw [List.getElem?_eq_none l1];rfl)]
  simp [c_147_l1,h1,l1,qa4,qar,qam,rtD,wr1,wr2]
 have k1:1<p.metadata.length:=by omega
 by_cases a1:p.metadata[1].name=[111,117,116]
 rotate_left
 ·rw [qah (x:=(5,2,1,0)) (by omega) (by unfold metH;rw [List.getElem?_eq_getElem k1,if_neg (by simp [qc3,Fld.eq_iff,a1])];rfl)]
  simp [c_147_l1,Fld.e,h1,l1,k1,a1,qa4,qar,qam,rtD,wr1,wr2]
 by_cases b1:p.metadata[1].width=8
 rotate_left
 ·rw [qah (x:=(5,2,1,0)) (by omega) (by unfold metH;rw [List.getElem?_eq_getElem k1,if_neg (by simp [qc3,Fld.eq_iff,b1])];rfl)]
  simp [c_147_l1,Fld.e,h1,l1,k1,a1,b1,qa4,qar,qam,rtD,wr1,wr2]
 rw [qap (by omega) (by unfold metH;rw [List.getElem?_eq_getElem k1,if_pos (by simp [qc3,Fld.eq_iff,a1,b1])])]
 simp [c_147_l1,Fld.e,h1,l1,k1,a1,b1,qa4,qar,qam,wr1,wr2]
 rw [qay]
 by_cases l2:p.metadata.length≤2
 ·rw [qah (x:=(5,2,2,0)) (by omega) (by unfold metH;rw [List.getElem?_eq_none l2];rfl)]
  simp [c_147_l1,h1,l2,qa4,qar,qam,rtD,wr1,wr2,wr3]
 have k2:2<p.metadata.length:=by omega
 by_cases a2:p.metadata[2].name=[100,114,111,112]
 rotate_left
 ·rw [qah (x:=(5,2,2,0)) (by omega) (by unfold metH;rw [List.getElem?_eq_getElem k2,if_neg (by simp [qc3,Fld.eq_iff,a2])];rfl)]
  simp [c_147_l1,Fld.e,h1,l2,k2,a2,qa4,qar,qam,rtD,wr1,wr2,wr3]
 by_cases b2:p.metadata[2].width=1
 rotate_left
 ·rw [qah (x:=(5,2,2,0)) (by omega) (by unfold metH;rw [List.getElem?_eq_getElem k2,if_neg (by simp [qc3,Fld.eq_iff,b2])];rfl)]
  simp [c_147_l1,Fld.e,h1,l2,k2,a2,b2,qa4,qar,qam,rtD,wr1,wr2,wr3]
 rw [qap (by omega) (by unfold metH;rw [List.getElem?_eq_getElem k2,if_pos (by simp [qc3,Fld.eq_iff,a2,b2])])]
 simp [c_147_l1,Fld.e,h1,l2,k2,a2,b2,qa4,qar,qam,wr1,wr2,wr3]
 rw [qay,qaz]
 simp [c_147_l1,rtD]
theorem qabb (p:Prg) (f:PrgS p):qab Φ f_147 [.agg (Prg.c p)]=some (rtD (metD p)):=by
 rw [qaa (fn:=c_147) rfl rfl,qnx]
 by_cases z:12<p.metadata.length
 ·simp [c_147,Prg.e,z,qa4,qar,rtD]
 have e1:=qsj p.metadata f.m
 rw [if_neg z]
 simp [c_147,Prg.e,z,qa4,qam,e1]
 refine qau p.metadata.length (fun _=>[]) 0 (fun i e=>look 1 e=some (.iptr 9 [Prg.c p] 0 0)∧look 2 e=some (.slice 1 (p.metadata.map fun x=>[.str x.name]))∧look 17 e=some (.slice 2 (p.metadata.map Fld.c))∧look 18 e=some (.int .i64 p.metadata.length)∧look 19 e=some (.int .i64 i))
  (fun i=>some (rtD ((fe (metG p) p.metadata.length i).or (fe (metH p) 3 0)))) ?_ ?_ 0 _ 0 (Nat.zero_le _) (Nat.le_refl _) ?_
 ·rintro i e n L hi hL _ ⟨h1,h2,h17,h18,h19⟩ ih
  have hlen:=f.m
  have hw:IntKind.wrap .i64 ((i:Int)+1)=((i+1:Nat):Int):=qad (by omega) (by omega)
  have ei:=qj4 p.metadata[i].name (f.mn _ (List.getElem_mem hi))
  have ew:=qni p.metadata[i].width
  have er:=qe1 Fld.name p.metadata i hi f.m
  cases q1:idS p.metadata[i].name with
  | false=>
   rw [q1] at ei
   rw [qah (x:=(6,2,(i:Int),0)) hi (by simp [metG,hi,fldE,q1])]
   simp [c_147_l0,Fld.e,h1,h2,h17,h18,h19,hi,hL,ei,qa4,qar,rtD]
  | true=>
  rw [q1] at ei
  cases q2:wBad p.metadata[i].width with
  | true=>
   rw [q2] at ew
   rw [qah (x:=(10,2,(i:Int),0)) hi (by simp [metG,hi,fldE,q1,q2])]
   simp [c_147_l0,Fld.e,h1,h2,h17,h18,h19,hi,hL,ei,ew,qa4,qar,qam,rtD]
  | false=>
  rw [q2] at ew
  cases q3:dupN Fld.name p.metadata i p.metadata[i] with
  | true=>
   rw [q3] at er
   rw [qah (x:=(7,2,(i:Int),0)) hi (by simp [metG,hi,fldE,q1,q2,q3])]
   simp [c_147_l0,Fld.e,h1,h2,h17,h18,h19,hi,hL,ei,ew,er,qa4,qar,qam,rtD]
  | false=>
   rw [q3] at er
   rw [qap hi (by simp [metG,hi,fldE,q1,q2,q3])]
   simp [c_147_l0,Fld.e,h1,h2,h17,h18,h19,hi,hL,ei,ew,er,qa4,qam,hw]
   exact ih _ _ (Nat.zero_le _) ⟨by simp [h1],by simp [h2],by simp [h17],by simp [h18],by simp⟩
 ·rintro e n L hL _ ⟨h1,h2,h17,h18,h19⟩
  rw [qaz]
  simp [c_147_l0,h17,h18,h19,hL]
  exact qabc p _ _ (by simp [h1])
 ·simp [Prg.e]
end Go.Av
namespace Go.Av
set_option maxRecDepth 4000
def regG (p:Prg) (i:Nat):Option Dg:=(p.registers[i]?).bind fun r=>if qfw p i r=0 then none else some (qfw p i r,3,(i:Int),0)
def acG (p:Prg) (i:Nat):Option Dg:=(p.actions[i]?).bind fun a=>if (actE p i).2≠0 then some ((actE p i).2,(4:Int),(i:Int),(actE p i).1) else if dupN Action.name p.actions i a then some (7,4,(i:Int),0) else none
def tbG (p:Prg) (i:Nat):Option Dg:=(p.tables[i]?).bind fun a=>if (tblE p i).2≠0 then some ((tblE p i).2,(5:Int),(i:Int),(tblE p i).1) else if dupN Tbl.name p.tables i a then some (7,5,(i:Int),0) else none
theorem qabf (p:Prg) (f:PrgS p) (e:Env) (n:Nat) (h1:look 1 e=some (.iptr 9 [Prg.c p] 0 0)):go Φ (finP []) [.c c_148_k3] .normal ⟨e,⟨[],n⟩⟩=some (rtD (tblD p)):=by
 rw [show tblD p=fe (tbG p) p.tables.length 0 from rfl]
 have e1:=qsk p.tables f.t
 rw [Prg.e] at h1
 simp [c_148_k3,h1,e1]
 refine qau p.tables.length (fun _=>[]) 0 (fun i e=>look 1 e=some (.iptr 9 [Prg.c p] 0 0)∧look 2 e=some (.slice 1 (p.tables.map fun x=>[.str x.name]))∧look 64 e=some (.int .i64 p.tables.length)∧look 65 e=some (.int .i64 i))
  (fun i=>some (rtD (fe (tbG p) p.tables.length i))) ?_ ?_ 0 _ _ (Nat.zero_le _) (Nat.zero_le _) ?_
 ·rintro i e n L hi hL _ ⟨h1,h2,h64,h65⟩ ih
  have hlen:=f.t
  have hw:IntKind.wrap .i64 ((i:Int)+1)=((i+1:Nat):Int):=qad (by omega) (by omega)
  have et:=qod p f i
  have er:=qe1 Tbl.name p.tables i hi f.t
  simp only [Prg.e] at et
  rw [Prg.e] at h1
  by_cases y:(tblE p i).2=0
  rotate_left
  ·rw [qah (x:=((tblE p i).2,5,(i:Int),(tblE p i).1)) hi (by simp [tbG,hi,y])]
   simp [c_148_l2,h1,h2,h64,h65,hi,hL,et,qar,y,rtD]
  rw [y] at et
  cases q:dupN Tbl.name p.tables i p.tables[i] with
  | true=>
   rw [q] at er
   rw [qah (x:=(7,5,(i:Int),0)) hi (by simp [tbG,hi,y,q])]
   simp [c_148_l2,h1,h2,h64,h65,hi,hL,et,er,qa4,qar,qam,rtD]
  | false=>
   rw [q] at er
   rw [qap hi (by simp [tbG,hi,y,q])]
   simp [c_148_l2,h1,h2,h64,h65,hi,hL,et,er,qa4,qam,hw]
   exact ih _ _ (Nat.zero_le _) ⟨by simp [h1,Prg.e],by simp [h2],by simp [h64],by simp⟩
 ·rintro e n L hL _ ⟨h1,h2,h64,h65⟩
  rw [qaz]
  simp [c_148_l2,h64,h65,hL,rtD]
 ·simp [h1,Prg.e]
theorem qabe (p:Prg) (f:PrgS p) (e:Env) (n:Nat) (h1:look 1 e=some (.iptr 9 [Prg.c p] 0 0)):go Φ (finP []) [.c c_148_k4] .normal ⟨e,⟨[],n⟩⟩=some (rtD ((qeh p).or (tblD p))):=by
 rw [show qeh p=fe (acG p) p.actions.length 0 from rfl]
 have e1:=qny p.actions f.a
 rw [Prg.e] at h1
 simp [c_148_k4,h1,e1]
 refine qau p.actions.length (fun _=>[]) 0 (fun i e=>look 1 e=some (.iptr 9 [Prg.c p] 0 0)∧look 2 e=some (.slice 1 (p.actions.map fun x=>[.str x.name]))∧look 38 e=some (.int .i64 p.actions.length)∧look 39 e=some (.int .i64 i))
  (fun i=>some (rtD ((fe (acG p) p.actions.length i).or (tblD p)))) ?_ ?_ 0 _ _ (Nat.zero_le _) (Nat.zero_le _) ?_
 ·rintro i e n L hi hL _ ⟨h1,h2,h38,h39⟩ ih
  have hlen:=f.a
  have hw:IntKind.wrap .i64 ((i:Int)+1)=((i+1:Nat):Int):=qad (by omega) (by omega)
  have et:=qz4 p f i
  have er:=qe1 Action.name p.actions i hi f.a
  simp only [Prg.e] at et
  rw [Prg.e] at h1
  by_cases y:(actE p i).2=0
  rotate_left
  ·rw [qah (x:=((actE p i).2,4,(i:Int),(actE p i).1)) hi (by simp [acG,hi,y])]
   simp [c_148_l1,h1,h2,h38,h39,hi,hL,et,qar,y,rtD]
  rw [y] at et
  cases q:dupN Action.name p.actions i p.actions[i] with
  | true=>
   rw [q] at er
   rw [qah (x:=(7,4,(i:Int),0)) hi (by simp [acG,hi,y,q])]
   simp [c_148_l1,h1,h2,h38,h39,hi,hL,et,er,qa4,qar,qam,rtD]
  | false=>
   rw [q] at er
   rw [qap hi (by simp [acG,hi,y,q])]
   simp [c_148_l1,h1,h2,h38,h39,hi,hL,et,er,qa4,qam,hw]
   exact ih _ _ (Nat.zero_le _) ⟨by simp [h1,Prg.e],by simp [h2],by simp [h38],by simp⟩
 ·rintro e n L hL _ ⟨h1,h2,h38,h39⟩
  rw [qaz]
  simp [c_148_l1,h38,h39,hL]
  exact qabf p f _ _ (by simp [h1])
 ·simp [h1,Prg.e]
theorem qad3 (p:Prg) (f:PrgS p):qab Φ f_148 [.agg (Prg.c p)]=some (rtD ((regD p).or ((qeh p).or (tblD p)))):=by
 rw [qaa (fn:=c_148) rfl rfl,show regD p=fe (regG p) p.registers.length 0 from rfl]
 have e1:=ql7 p.registers f.r
 generalize hX:(qeh p).or (tblD p)=X
 simp [c_148,Prg.e,e1]
 refine qau p.registers.length (fun _=>[]) 0 (fun i e=>look 1 e=some (.iptr 9 [Prg.c p] 0 0)∧look 2 e=some (.slice 1 (p.registers.map fun x=>[.str x.name]))∧look 15 e=some (.slice 3 (p.registers.map Register.c))∧look 16 e=some (.int .i64 p.registers.length)∧look 17 e=some (.int .i64 i))
  (fun i=>some (rtD ((fe (regG p) p.registers.length i).or X))) ?_ ?_ 0 _ _ (Nat.zero_le _) (Nat.zero_le _) ?_
 ·rintro i e n L hi hL _ ⟨h1,h2,h15,h16,h17⟩ ih
  have hlen:=f.r
  have hw:IntKind.wrap .i64 ((i:Int)+1)=((i+1:Nat):Int):=qad (by omega) (by omega)
  have et:=qab6 p.registers[i] (f.rn _ (List.getElem_mem hi))
  have er:=qe1 Register.name p.registers i hi f.r
  simp only [Register.e] at et
  by_cases y:regE p.registers[i]=0
  rotate_left
  ·rw [qah (x:=(regE p.registers[i],3,(i:Int),0)) hi (by simp [regG,hi,qfw,y])]
   simp [c_148_l0,Register.e,h2,h15,h16,h17,hi,hL,et,qar,y,rtD]
  rw [y] at et
  cases q:dupN Register.name p.registers i p.registers[i] with
  | true=>
   rw [q] at er
   rw [qah (x:=(7,3,(i:Int),0)) hi (by simp [regG,hi,qfw,y,q])]
   simp [c_148_l0,Register.e,h2,h15,h16,h17,hi,hL,et,er,qa4,qar,qam,rtD]
  | false=>
   rw [q] at er
   rw [qap hi (by simp [regG,hi,qfw,y,q])]
   simp [c_148_l0,Register.e,h2,h15,h16,h17,hi,hL,et,er,qa4,qam,hw]
   exact ih _ _ (Nat.zero_le _) ⟨by simp [h1],by simp [h2],by simp [h15],by simp [h16],by simp⟩
 ·rintro e n L hL _ ⟨h1,h2,h15,h16,h17⟩
  rw [qaz]
  simp [c_148_l0,h15,h16,h17,hL]
  rw [← hX]
  exact qabe p f _ _ (by simp [h1])
 ·simp [Prg.e]
theorem qadw (p:Prg) (f:PrgS p) (hc:(pre p.control).length<2^40 - 1):qab Φ f_149 [.agg (Prg.c p)]=some (rtD (floD p)):=by
 rw [qaa (fn:=c_149) rfl rfl]
 have e1:=qabl p f
 have e2:=qaao p hc
 have e3:=qaap p f
 simp only [Prg.e,tup3] at e1 e2 e3
 by_cases y1:(parE p).2.2=0
 rotate_left
 ·simp [c_149,Prg.e,e1,y1,qar,floD,rtD]
 rw [y1] at e1
 by_cases y2:(ctlE p).2=0
 rotate_left
 ·simp [c_149,Prg.e,e1,y1,e2,y2,qar,qam,floD,rtD]
 rw [y2] at e2
 by_cases y3:(depE p).2=0
 rotate_left
 ·simp [c_149,Prg.e,e1,y1,e2,y2,e3,y3,qar,qam,floD,rtD]
 rw [y3] at e3
 simp [c_149,Prg.e,e1,y1,e2,y2,e3,y3,qam,floD,rtD]
end Go.Av
namespace Go.Av
set_option maxRecDepth 4000
theorem qi8 {Φ:FuncId→Option AFun} (c:ACode) (s:St):qbe Φ c s=go Φ (fun o=>o) [.c c] .normal s:=by
 rw [go_c]
 cases qbe Φ c s with
 | none=>rfl
 | some p=>rfl
def dgC (d:Dg):List AV:=[.int .i64 d.1,.int .i64 d.2.1,.int .i64 d.2.2.1,.int .i64 d.2.2.2]
def chkE (p:Prg):Env:=[(3,.func (.func f_144) [] [.ptr 1 4 0 0]),(2,.ptr 1 4 0 0),(1,.ptr 0 9 0 0),(0,.agg (Prg.c p))]
def qda (p:Prg) (d:List AV):AH:=⟨[(0,.row 9 [Prg.c p]),(1,.row 4 [d])],2⟩
theorem qvf (p:Prg) (f:PrgS p) (hc:(pre p.control).length<2^40 - 1):∃e',look 2 e'=some (.ptr 1 4 0 0)∧go Φ (fun o=>o) [.c (match c_63.code with | .seq _ (.dfr _ _ b)=>b | _=> .skip)] .normal ⟨chkE p,qda p [.int .i64 0,.int .i64 0,.int .i64 0,.int .i64 0]⟩=
  match (limD p).or ((hdrD p).or ((metD p).or (((regD p).or ((qeh p).or (tblD p))).or (floD p)))) with
  | none=>some (.ret,⟨e',qda p [.int .i64 0,.int .i64 0,.int .i64 0,.int .i64 0]⟩)
  | some d=>some (.pan (qe8 d.1 d.2.1 d.2.2.1 d.2.2.2),⟨e',qda p [.int .i64 0,.int .i64 0,.int .i64 0,.int .i64 0]⟩):=by
 have h1:=qwa p f
 have h2:=qml p f
 have h3:=qabb p f
 have h4:=qad3 p f
 have h5:=qadw p f hc
 simp only [Prg.e] at h1 h2 h3 h4 h5
 cases q1:limD p with
 | some d=>rw [q1] at h1;simp [c_63,chkE,qda,Prg.e,h1,rtD]
 | none=>
 cases q2:hdrD p with
 | some d=>rw [q1] at h1;rw [q2] at h2;simp [c_63,chkE,qda,Prg.e,h1,h2,rtD]
 | none=>
 cases q3:metD p with
 | some d=>rw [q1] at h1;rw [q2] at h2;rw [q3] at h3;simp [c_63,chkE,qda,Prg.e,h1,h2,h3,rtD]
 | none=>
 cases q4:(regD p).or ((qeh p).or (tblD p)) with
 | some d=>rw [q1] at h1;rw [q2] at h2;rw [q3] at h3;rw [q4] at h4;simp [c_63,chkE,qda,Prg.e,h1,h2,h3,h4,rtD]
 | none=>
 cases q5:floD p with
 | some d=>rw [q1] at h1;rw [q2] at h2;rw [q3] at h3;rw [q4] at h4;rw [q5] at h5;simp [c_63,chkE,qda,Prg.e,h1,h2,h3,h4,h5,rtD]
 | none=>rw [q1] at h1;rw [q2] at h2;rw [q3] at h3;rw [q4] at h4;rw [q5] at h5;simp [c_63,chkE,qda,Prg.e,h1,h2,h3,h4,h5,rtD]
def kA:ACode:=match c_63.code with | .seq a _=>a | _=> .skip
def kB:ACode:=match c_63.code with | .seq _ (.dfr _ _ b)=>b | _=> .skip
theorem qabn (p:Prg):prgD p=((limD p).or ((hdrD p).or ((metD p).or (((regD p).or ((qeh p).or (tblD p))).or (floD p))))).getD (0,0,0,0):=by
 unfold prgD
 cases limD p<;>cases hdrD p<;>cases metD p<;>cases regD p<;>cases qeh p<;>cases tblD p<;>rfl
theorem qaai (p:Prg) (d:List AV) (hd:d.length=4):cloI Φ c_63 .niliface [.ptr 1 4 0 0] (qda p d)=some (qda p d):=by
 unfold cloI
 rw [qi8]
 simp [c_63,recE]
theorem qaaj (p:Prg) (d:Dg):∃h,cloI Φ c_63 (qe8 d.1 d.2.1 d.2.2.1 d.2.2.2) [.ptr 1 4 0 0] (qda p [.int .i64 0,.int .i64 0,.int .i64 0,.int .i64 0])=some h∧look 1 h.objs=some (.row 4 [dgC d]):=by
 unfold cloI
 rw [qi8]
 simp [c_63,recE,qe8,tF,qda,dgC]
theorem qkl (p:Prg) (f:PrgS p) (hc:(pre p.control).length<2^40 - 1):qab Φ f_63 [.agg (Prg.c p)]=some (.val (.agg (dgC (prgD p)))):=by
 unfold qab
 rw [qva Φ (d:=c_63) rfl rfl,show c_63.code= .seq kA (.dfr [⟨some 3,none,.mkfunc (.func f_144) [] [.t 2]⟩] 3 kB) from rfl]
 have a1:qbe Φ kA ⟨qbu 0 [.agg (Prg.c p)],H0⟩=some (.normal,⟨[(2,.ptr 1 4 0 0),(1,.ptr 0 9 0 0),(0,.agg (Prg.c p))],qda p [.int .i64 0,.int .i64 0,.int .i64 0,.int .i64 0]⟩):=by
  rw [qi8]
  simp [kA,c_63,qda]
 obtain ⟨e',he',hb⟩:=qvf p f hc
 have hb2:qbe Φ kB ⟨chkE p,qda p [.int .i64 0,.int .i64 0,.int .i64 0,.int .i64 0]⟩=_:=(qi8 _ _).trans hb
 have a2:qas (qan Φ) none [⟨some 3,none,.mkfunc (.func f_144) [] [.t 2]⟩] ⟨[(2,.ptr 1 4 0 0),(1,.ptr 0 9 0 0),(0,.agg (Prg.c p))],qda p [.int .i64 0,.int .i64 0,.int .i64 0,.int .i64 0]⟩=
   some (.normal,⟨chkE p,qda p [.int .i64 0,.int .i64 0,.int .i64 0,.int .i64 0]⟩):=by
  simp [qas,qba,chkE]
 simp only [qd6,a1,a2]
 have a3:(look 3 (chkE p)).bind tgt=some (f_144,[.ptr 1 4 0 0]):=by simp [chkE]
 rw [a3]
 simp only [show c_63.clo=f_144 from rfl,show c_63.ncaps=1 from rfl,List.length_singleton,and_self,if_true]
 rw [hb2,qabn]
 cases (limD p).or ((hdrD p).or ((metD p).or (((regD p).or ((qeh p).or (tblD p))).or (floD p)))) with
 | none=>
  simp only [qjb]
  rw [qaai p _ rfl]
  simp [qft,c_63,he',qda,dgC]
 | some d=>
  obtain ⟨h,k1,k2⟩:=qaaj p d
  simp only [qjb]
  rw [k1]
  obtain ⟨O,n⟩:=h
  simp only [dgC] at k2
  simp [qft,c_63,show Option.isSome (some ((4:Nat),(1:Nat)))=true from rfl,he',k2,dgC]
end Go.Av
