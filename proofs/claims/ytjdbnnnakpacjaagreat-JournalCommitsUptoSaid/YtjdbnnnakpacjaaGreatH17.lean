/-
 A store's object is the same as itself: the check's own comparison.
-/
import Derived.Test.YtjdbnnnakpacjaaGreatH9
set_option linter.unusedVariables false
set_option linter.unusedSimpArgs false
set_option linter.constructorNameAsVariable false
namespace Go.Av
set_option maxRecDepth 4000
theorem qmp {α:Type} {f:Nat->Option α} {Q:α->Prop} (h:∀i x,f i=some x->Q x) {N:Nat} {x:α} (hx:fe f N 0=some x):Q x:=by
 obtain ⟨k,_,hk⟩:=qd7 hx;exact h k x hk
theorem qaf9 {p:Prg} {d:Dg} (h:limD p=some d):d.1≠0:=by
 unfold limD at h
 repeat' split at h
 all_goals first | (cases h;simp;done) | cases h
theorem qafw {p:Prg} {d:Dg} (h:hdrD p=some d):d.1≠0:=by
 refine qmp (Q:=fun d:Dg=>d.1≠0) (fun i x hx=>?_) h;rw [Qt] at hx;obtain ⟨a,_,hx⟩:=hx;split at hx
 ·cases hx
 ·cases hx;assumption
theorem qagc {p:Prg} {d:Dg} (h:metD p=some d):d.1≠0:=by
 unfold metD at h;split at h
 ·cases h;simp
 split at h
 ·rename_i d' hd';cases h;refine qmp (Q:=fun d:Dg=>d.1≠0) (fun i x hx=>?_) hd';rw [Qt] at hx;obtain ⟨a,_,hx⟩:=hx;split at hx
  ·cases hx
  ·cases hx;assumption
 ·refine qmp (Q:=fun d:Dg=>d.1≠0) (fun i x hx=>?_) h;split at hx
  ·cases hx
  ·cases hx;simp
theorem qahd {p:Prg} {d:Dg} (h:regD p=some d):d.1≠0:=by
 refine qmp (Q:=fun d:Dg=>d.1≠0) (fun i x hx=>?_) h;rw [Qt] at hx;obtain ⟨a,_,hx⟩:=hx;split at hx
 ·cases hx
 ·cases hx;assumption
theorem qaeo {p:Prg} {d:Dg} (h:qea p=some d):d.1≠0:=by
 refine qmp (Q:=fun d:Dg=>d.1≠0) (fun i x hx=>?_) h;rw [Qt] at hx;obtain ⟨a,_,hx⟩:=hx;split at hx
 ·cases hx;assumption
 ·split at hx
  ·cases hx;simp
  ·cases hx
theorem qah2 {p:Prg} {d:Dg} (h:tblD p=some d):d.1≠0:=by
 refine qmp (Q:=fun d:Dg=>d.1≠0) (fun i x hx=>?_) h;rw [Qt] at hx;obtain ⟨a,_,hx⟩:=hx;split at hx
 ·cases hx;assumption
 ·split at hx
  ·cases hx;simp
  ·cases hx
theorem qafp {p:Prg} {d:Dg} (h:floD p=some d):d.1≠0:=by
 unfold floD at h;split at h
 ·cases h;assumption
 split at h
 ·cases h;assumption
 split at h
 ·cases h;assumption
 ·cases h
structure PrgV (p:Prg):Prop where
 lim:limD p=none
 hdr:hdrD p=none
 met:metD p=none
 reg:regD p=none
 act:qea p=none
 tbl:tblD p=none
 flo:floD p=none
theorem qpu {p:Prg} (h:(prgD p).1=0):PrgV p:=by
 unfold prgD at h;cases h1:limD p with
 | some d=>rw [h1] at h;exact absurd h (qaf9 h1)
 | none=>
 cases h2:hdrD p with
 | some d=>rw [h1,h2] at h;exact absurd h (qafw h2)
 | none=>
 cases h3:metD p with
 | some d=>rw [h1,h2,h3] at h;exact absurd h (qagc h3)
 | none=>
 cases h4:regD p with
 | some d=>rw [h1,h2,h3,h4] at h;exact absurd h (qahd h4)
 | none=>
 cases h5:qea p with
 | some d=>rw [h1,h2,h3,h4,h5] at h;exact absurd h (qaeo h5)
 | none=>
 cases h6:tblD p with
 | some d=>rw [h1,h2,h3,h4,h5,h6] at h;exact absurd h (qah2 h6)
 | none=>
 cases h7:floD p with
 | some d=>rw [h1,h2,h3,h4,h5,h6,h7] at h;exact absurd h (qafp h7)
 | none=>exact ⟨h1,h2,h3,h4,h5,h6,h7⟩
theorem PrgV.nest {p:Prg} (v:PrgV p):nest p.control<=6:=by
 have h:=v.flo;unfold floD at h;split at h
 ·cases h
 split at h
 ·cases h
 rename_i h1;refine Decidable.byContradiction fun hc=>h1 ?_
 unfold ctlE;split
 ·simp
 ·rw [QAa (by omega)];simp
theorem PrgV.tabs {p:Prg} (v:PrgV p):p.Xn.length<=12:=by
 have h:=v.lim;unfold limD at h
 repeat' split at h
 all_goals first | omega | cases h
theorem qh3 {α:Type} (f:α->α->Bool):∀l:List α,(∀x∈l,f x x=true)->eqL f l l=true
 | [],_=>by simp [eqL]
 | x::r,h=>by simp [eqL,h x (QCa ..),qh3 f r (fun y hy=>h y (QAv _ hy))]
def Rf (n:Nat) (v:AV):Prop:=avEq n v v=true
theorem Rf.int (n:Nat) (k:IntKind) (v:Int):Rf (n+1) (.int k v):=by unfold Rf avEq;simp
theorem Rf.bool (n:Nat) (b:Bool):Rf (n+1) (.bool b):=by unfold Rf avEq;simp
theorem Rf.str (n:Nat) (b:List UInt8):Rf (n+1) (.str b):=by unfold Rf avEq;simp
theorem Rf.row (n a b c d:Nat):Rf (n+1) (.row a b c d):=by unfold Rf avEq;simp
theorem Rf.slice (n z:Nat) (es:List (List AV)) (h:∀e∈es,∀c∈e,Rf n c):Rf (n+1) (.slice z es):=by
 have:=qh3 (eqL (avEq n)) es fun e he=>qh3 (avEq n) e (h e he)
 unfold Rf avEq;simp [this]
theorem Rf.Xu (n z:Nat) (es:List (List AV)) (h:∀e∈es,∀c∈e,Rf n c):Rf (n+1) (.Xu z es):=by
 have:=qh3 (eqL (avEq n)) es fun e he=>qh3 (avEq n) e (h e he)
 unfold Rf avEq;simp [this]
theorem Rf.app (n z t:Nat) (es:List (List AV)) (h:∀e∈es,∀c∈e,Rf n c):Rf (n+1) (.app z es t):=by
 have:=qh3 (eqL (avEq n)) es fun e he=>qh3 (avEq n) e (h e he)
 unfold Rf avEq;simp [this]
theorem Rf.map {α:Type} (n z:Nat) (f:α->List AV) (l:List α) (h:∀x∈l,∀c∈f x,Rf n c):Rf (n+1) (.slice z (l.map f)):=by
 refine Rf.slice n z _ fun e he=>?_
 obtain ⟨x,hx,rfl⟩:=QAr.1 he;exact h x hx
theorem qqo (n:Nat) (x:Xe):∀c∈Xe.c x,Rf (n+1) c:=by
 simp [Xe.c,Rf.int]
theorem quk (n:Nat) (x:Fld):∀c∈Fld.c x,Rf (n+1) c:=by
 simp [Fld.c,Rf.int,Rf.str]
theorem rf_I (n:Nat) (x:Int):∀c∈cI x,Rf (n+1) c:=by simp [cI,Rf.int]
theorem qyd (n:Nat) (x:Int):∀c∈c32 x,Rf (n+1) c:=by simp [c32,Rf.int]
theorem quj:∀(k:Nat) (l:List Xa),nest l<=k->Rf (k+3) (.slice 5 (l.map Xa.c))
 | 0,l,h=>by
  cases l with
  | nil=>exact Rf.slice _ _ _ (by simp)
  | cons x l=>simp only [nest] at h;omega
 | k+1,l,h=>by
  have key:∀x∈l,qhv x<=k:=by
   intro x hx;have:∀l:List Xa,x∈l->1+qhv x<=nest l:=by
    intro l
    induction l with
    | nil=>intro h;cases h
    | cons y l ih=>
     intro h;simp only [nest];rcases QAj.1 h with rfl | h
     ·omega
     ·have:=ih h;omega
   have:=this l hx;omega
  refine Rf.map _ _ _ _ fun x hx=>?_
  have hk:=key x hx;cases x with
  | mk kd t cnd a b=>
   simp only [qhv] at hk;rw [Xa.ce];intro c hc;simp only [QAj,QAy,or_false] at hc;rcases hc with rfl | rfl | rfl | rfl | rfl
   ·exact Rf.int _ _ _
   ·exact Rf.int _ _ _
   ·exact Rf.map _ _ _ _ fun x _=>qqo _ x
   ·exact quj k a (by omega)
   ·exact quj k b (by omega)
theorem qaky {p:Prg} (v:PrgV p):∀c∈Prg.c p,Rf 40 c:=by
 rw [Prg.ce];intro c hc;simp only [QAj,QAy,or_false] at hc;rcases hc with rfl | rfl | rfl | rfl | rfl | rfl | rfl | rfl | rfl
 ·exact Rf.str _ _
 ·refine Rf.map _ _ _ _ fun x _=>?_
  simp only [Xj.c,QAj,QAy,or_false];rintro c (rfl | rfl)
  ·exact Rf.str _ _
  ·exact Rf.map _ _ _ _ fun x _=>quk _ x
 ·exact Rf.map _ _ _ _ fun x _=>quk _ x
 ·refine Rf.map _ _ _ _ fun x _=>?_
  simp [Xh.c,Rf.int,Rf.str]
 ·refine Rf.map _ _ _ _ fun x _=>?_
  rw [Action.ce];simp only [QAj,QAy,or_false];rintro c (rfl | rfl | rfl)
  ·exact Rf.str _ _
  ·exact Rf.map _ _ _ _ fun x _=>quk _ x
  ·refine Rf.map _ _ _ _ fun x _=>?_
   rw [Xg.ce];simp only [QAj,QAy,or_false];rintro c (rfl | rfl | rfl | rfl | rfl | rfl | rfl)
   ·exact Rf.int _ _ _
   ·exact Rf.int _ _ _
   ·exact Rf.int _ _ _
   ·exact Rf.int _ _ _
   ·exact Rf.int _ _ _
   ·exact Rf.map _ _ _ _ fun x _=>qqo _ x
   ·exact Rf.map _ _ _ _ fun x _=>qqo _ x
 ·refine Rf.map _ _ _ _ fun x _=>?_
  rw [Tbl.ce];simp only [QAj,QAy,or_false];rintro c (rfl | rfl | rfl | rfl | rfl | rfl)
  ·exact Rf.str _ _
  ·exact Rf.map _ _ _ _ fun x _=>by simp [Xl.c,Rf.int]
  ·exact Rf.map _ _ _ _ fun x _=>rf_I _ x
  ·exact Rf.int _ _ _
  ·exact Rf.map _ _ _ _ fun x _=>qyd _ x
  ·exact Rf.int _ _ _
 ·refine Rf.map _ _ _ _ fun x _=>?_
  rw [Xd.ce];simp only [QAj,QAy,or_false];rintro c (rfl | rfl | rfl | rfl | rfl | rfl | rfl)
  ·exact Rf.str _ _
  ·exact Rf.map _ _ _ _ fun x _=>rf_I _ x
  ·exact Rf.bool _ _
  ·exact Rf.int _ _ _
  ·exact Rf.int _ _ _
  ·exact Rf.map _ _ _ _ fun x _=>by simp [Xk.c,Rf.int]
  ·exact Rf.int _ _ _
 ·have:=v.nest;exact quj 37 p.control (by omega)
 ·exact Rf.map _ _ _ _ fun x _=>rf_I _ x
theorem qss {O:List (Nat×AO)} {z n:Nat} {v:AV} {es:List (List AV)} (h:Mu O z v es):Rf (n+1) v:=by
 cases h with
 | nilF=>exact Rf.Xu _ _ _ (by simp)
 | nilA=>exact Rf.app _ _ _ _ (by simp)
 | row=>exact Rf.row _ _ _ _ _
theorem qw1 {O:List (Nat×AO)} {S:SV} {p:Prg} {c:Xf} (m:StoreM O S p c) (v:PrgV p):aoEq (some (.row 15 [S.cells p])) (some (.row 15 [S.cells p]))=true:=by
 have h:∀x∈S.cells p,avEq 40 x x=true:=by
  intro x hx;simp only [SV.cells,QAj,QAg,QAy,or_false] at hx;rcases hx with rfl | rfl | rfl | rfl | hx | rfl | rfl
  ·exact qss m.cm.r
  ·exact qss m.cm.n
  ·exact qss m.cm.d
  ·rcases m.cm.g with e | ⟨t,e⟩<;>rw [e]
   ·refine Rf.Xu _ _ _ fun e he=>?_
    obtain ⟨l,_,rfl⟩:=QAr.1 he;simp only [cS,QAj,QAy,or_false];rintro c rfl;exact Rf.map _ _ _ _ fun x _=>qyd _ x
   ·refine Rf.app _ _ _ _ fun e he=>?_
    obtain ⟨l,_,rfl⟩:=QAr.1 he;simp only [cS,QAj,QAy,or_false];rintro c rfl;exact Rf.map _ _ _ _ fun x _=>qyd _ x
  ·exact qaky v x hx
  ·exact qss m.x.i
  ·exact Rf.bool _ _
 have h1:=qh3 (avEq 40) _ h;unfold aoEq;simp [qah,eqL,h1]
theorem qk8 {t:Nat} {y z:AO}:∀{O:List (Nat×AO)},setl t z (setl t y O)=setl t z O
 | []=>by simp
 | (u,w)::r=>by
  by_cases hu:u=t
  ·subst hu;simp
  ·simp [hu,qk8]
theorem qahq {O:List (Nat×AO)} {N id n i:Nat} {es:List (List AV)} {l:List Rw} (hl:look id O=some (.row 5 es)) (hn:n=l.length) (hle:n<=es.length) (ht:es.take n=l.map Rw.c) (hi:i<n) (hb:n<2^39):
  ∃N' es',qak Φ f_164 [.row id 5 0 n,.int .i64 i,.int .i64 ((i:Int)+1)] ⟨O,N⟩=some (.val (.row id 5 0 (n - 1)),⟨setl id (.row 5 es') O,N'⟩)/\N<=N'/\N'<=N+1/\n - 1<=es'.length/\es'.take (n - 1)=(l.eraseIdx i).map Rw.c:=by
 rw [qaz (fn:=c_164) rfl rfl];have hi1:(i:Int)+1=((i+1:Nat):Int):=by omega
 have a1:i+1<=n:=by omega
 have a2:i<=i+1:=by omega
 have a3:i<=n:=by omega
 have a4:i+1<=es.length:=by omega
 have a5:i<=es.length:=by omega
 have hne:¬i=i+1:=by omega
 rw [hi1];have b1:(0:Int)<=(i:Int)+1:=by omega
 have b2:(i:Int)+1<=(n:Int):=by omega
 have b3:(i:Int)+1<=(es.length:Int):=by omega
 have c1:i+(n - (i+1))=n - 1:=by omega
 have c2:min (n - (i+1)) (es.length - (i+1))=n - (i+1):=by omega
 have c3:i+(n - (i+1))<=es.length:=by omega
 have c4:i+1+(n - (i+1))<=es.length:=by omega
 have c5:¬i=es.length:=by omega
 have c6:(((n - 1:Nat):Int))<=(n:Int):=by omega
 have c7:n - 1<=n:=by omega
 have c9:¬(i:Int)=(i:Int)+1:=by omega
 have c8:(i:Int)<=(i:Int)+1:=by omega
 have c10:n<=es.length+1:=by omega
 have hys:(es.drop (i+1)).take (n - (i+1))=(l.drop (i+1)).map Rw.c:=by
  rw [<- List.drop_take,ht,List.map_drop]
 have c11:qch 5 ((es.drop (i+1)).take (n - (i+1)))=true:=by rw [hys];exact qb7 5 Rw.c _ fun x=>by simp
 have hE1l:(es.take i++((es.drop (i+1)).take (n - (i+1))++es.drop (n - 1))).length=es.length:=by
  simp only [QAe,QAd,List.length_drop];omega
 have hE1t:(es.take i++((es.drop (i+1)).take (n - (i+1))++es.drop (n - 1))).take (n - 1)=(l.eraseIdx i).map Rw.c:=by
  have hti:es.take i=(l.take i).map Rw.c:=by
   have:(es.take n).take i=es.take i:=by rw [List.take_take,Nat.min_eq_left (by omega)]
   rw [<- this,ht,QBh]
  rw [hys,hti,List.eraseIdx_eq_take_drop_succ,QAu,<- QBk,List.take_append_of_le_length (by simp;omega)];exact Qo (by simp;omega)
 have d1:((n - 1:Nat):Int)<=(es.length:Int):=by omega
 have d2:(n:Int)<=(es.length:Int):=by omega
 have d3:n - 1+(n - (n - 1))<=es.length:=by omega
 have d4:¬n - 1=n:=by omega
 have fin:∀N',N<=N'->N'<=N+1->∀(E1 D:List (List AV)),E1.length=es.length->E1.take (n - 1)=(l.eraseIdx i).map Rw.c->
   ∃N2 es',(setl id (AO.row 5 (E1.take (n - 1)++(List.replicate (n - (n - 1)) [AV.int .i64 0,.Xu 2 [],.int .i64 0,.int .i64 0,.Xu 1 []]++D))) O=setl id (AO.row 5 es') O/\N'=N2)/\N<=N2/\N2<=N+1/\n<=es'.length+1/\es'.take (n - 1)=(l.eraseIdx i).map Rw.c:=by
  intro N' h1 h2 E1 D h3 h4;refine ⟨N',_,⟨rfl,rfl⟩,h1,h2,?_,?_⟩
  ·simp only [QAe,QAd,List.length_replicate];omega
  ·rw [List.take_append_of_le_length (by simp;omega),List.take_take,Nat.min_self,h4]
 by_cases hfull:n=es.length
 ·have hf2:=eq_true hfull;simp [c_164,hl,hle,a1,a3,b1,b2,hf2,c1,c2,c5,c8,c9];rw [QAa ⟨c10,c11⟩];generalize es.take i++((es.drop (i+1)).take (n - (i+1))++es.drop (n - 1))=E1 at hE1l hE1t ⊢;simp [qac,hl,hE1l,c6,c7,d2,qk8,hle];exact fin N (Qb _) (by omega) E1 _ hE1l hE1t
 ·have hf2:=eq_false hfull;simp [c_164,hl,hle,a1,a3,b1,b2,hf2,c1,c2,c5,c8,c9];rw [QAa ⟨c10,c11⟩];generalize es.take i++((es.drop (i+1)).take (n - (i+1))++es.drop (n - 1))=E1 at hE1l hE1t ⊢;simp [qac,hl,hE1l,c6,c7,d2,qk8,hle];exact fin (N+1) (by omega) (by omega) E1 _ hE1l hE1t
theorem qy0 {O:List (Nat×AO)} {N:Nat} {S:SV} {p:Prg} {c:Xf} (m:StoreM O S p c) (v:CfgV p c) (hT:Tail O N) (t id:Int):
  MDpost N O S p (if delE p c t id=0 then delC c t id else c) (.int .i64 (delE p c t id)) (qak Φ f_94 [.ptr S.s 15 0 0,.int .i64 t,.int .i64 id] ⟨O,N⟩):=by
 rw [qaz (fn:=c_94) rfl rfl];have hl:=v.rl;have hr:=qun (N:=N) m hl t id;have hE:delE p c t id=rowX p c t id:=rfl;rw [hE];by_cases z:rowX p c t id=0
 rotate_left
 ·rw [QA z];simp [c_94,hr,z];exact ⟨S,O,N,rfl,m,rfl,fun j hj=> .inl hj,fun _ _ _=>rfl,hT,Qb _⟩
 rw [QAa z,z];cases hi:inT p t with
 | false=>simp [rowX,hi] at z
 | true=>
 obtain ⟨k,rfl,hk⟩:=qft hi;have hk':k<c.rows.length:=by omega
 have hrow:qcm c (k:Int)=c.rows[k]:=qda hk';cases hx2:rIdx c.rows[k] id with
 | none=>simp [rowX,hi,hrow,hx2] at z
 | some i=>
 obtain ⟨hil,hid⟩:=qh9 hx2;have hI:rowI p c k id=i:=by simp [rowI,hi,hrow,hx2]
 have hM:delC c (k:Int) id=⟨c.rows.set k (c.rows[k].eraseIdx i),c.Xr,c.Xq,c.Xm⟩:=by
  unfold delC;rw [hrow,hx2];simp
 rw [z,hI] at hr;rw [hM];have hv:=v.at hk;have hsm:=v.small _ (Qd hk');have hs:=m.se;obtain ⟨rid,es1,e1,lr,hle1,⟨hV,g1,g5⟩,ht1⟩:=m.tab hk';obtain ⟨r5,es5,e5,l5,hle5,ht5⟩:=g5.nonempty (by simp;omega);rw [QAc] at e5 hle5 ht5;rw [e1] at hs;rw [e5] at g1;have hao:=qw1 m (qpu v.prg);simp only [SV.cells,Prg.e,QAp,QBf,e1] at hao;obtain ⟨N2,es',e6,n1,n2,h7,h8⟩:=qahq (N:=N+1) l5 rfl hle5 ht5 hil (by omega);have hwi:IntKind.wrap .i64 ((i:Int)+1)=(i:Int)+1:=qa6 (by omega) (by omega);have hsr:=qan hs lr (by simp);have hs5:=qan hs l5 (by simp);have hr5:=qan lr l5 (by simp);have h5r:=hr5.symm;have hrs:=hsr.symm;simp [c_94,hr,hs,lr,hk',g1,hwi,e6,qac,hs5,hr5,hao];have hMl:=m.x.len;have hVl:=m.cm.rl;obtain ⟨iid,esi,e3,li,hle3,hMk,gi,lm⟩:=m.idx hk';have own1:S.own rid:= .inr (.inl (.inl (by rw [e1];rfl)));have own3:S.own S.M[k]:= .inr (.inr (.inr (Qd hMk)));have own4:S.own r5:= .inr (.inl (.inr (.inr (.inr ⟨_,Qd hV,by rw [e5];rfl⟩))));have own5:S.own iid:= .inr (.inr (.inl (by rw [e3];rfl)));have k3:∀A B j,j≠rid->j≠r5->look j O≠some .res->look j (qa2 (setl rid A (setl r5 B O)))=look j O:=by
  intro A B j h1 h2 h3;have h0:look j (setl rid A (setl r5 B O))=look j O:=by rw [qac,QA h1,qac,QA h2]
  rw [qav (by rw [h0];exact h3),h0]
 have a1:∀B es,look rid (qa2 (setl rid (.row 1 es) (setl r5 B O)))=some (.row 1 es):=by
  intro B es;have h0:look rid (setl rid (.row 1 es) (setl r5 B O))=some (.row 1 es):=by rw [qac,QAa rfl,qac,QA hr5,lr];rfl
  rw [qav (by rw [h0];simp),h0]
 have a2:∀A es,look r5 (qa2 (setl rid A (setl r5 (.row 5 es) O)))=some (.row 5 es):=by
  intro A es;have h0:look r5 (setl rid A (setl r5 (.row 5 es) O))=some (.row 5 es):=by rw [qac,QA h5r,qac,QAa rfl,l5];rfl
  rw [qav (by rw [h0];simp),h0]
 have hT3:∀A B,Tail (qa2 (setl rid A (setl r5 B O))) N2:=fun A B=>qdl (qaj (qaj (hT.mono (by omega))))
 generalize hO3:qa2 (setl rid (AO.row 1 (es1.set k [AV.row r5 5 0 (c.rows[k].length - 1)])) (setl r5 (AO.row 5 es') O))=O3;have k3':∀j,j≠rid->j≠r5->look j O≠some .res->look j O3=look j O:=fun j h1 h2 h3=>by rw [<- hO3];exact k3 _ _ j h1 h2 h3
 have a1':look rid O3=some (.row 1 (es1.set k [AV.row r5 5 0 (c.rows[k].length - 1)])):=by rw [<- hO3];exact a1 _ _
 have a2':look r5 O3=some (.row 5 es'):=by rw [<- hO3];exact a2 _ _
 have hT3':Tail O3 N2:=by rw [<- hO3];exact hT3 _ _
 clear hO3;have hinc:(c.rows[k].eraseIdx i).Pairwise fun a b=>a.id<b.id:=hv.inc.sublist (List.eraseIdx_sublist _ _)
 have hll:(c.rows[k].eraseIdx i).length=c.rows[k].length - 1:=by rw [List.length_eraseIdx];simp [hil]
 have m5:Mu O3 5 (.row r5 5 0 (c.rows[k].length - 1)) ((c.rows[k].eraseIdx i).map Rw.c):= .row r5 _ es' _ (by simp [hll]) a2' (by simp [hll];omega) (by rw [QAc,hll];exact h8);have m1:Mu O3 1 S.v1 ((S.V.set k (.row r5 5 0 (c.rows[k].length - 1))).map fun x=>[x]):=by
  have hmu:=Mu.upd (O':=O3) (id:=rid) (z:=1) (k:=k) (es:=S.V.map fun x=>[x]) (es0:=es1) (y:=[.row r5 5 0 (c.rows[k].length - 1)]) a1' (by rw [QAc,hVl];exact hle1) (by rw [QAc,hVl];exact ht1);rw [QAc,hVl] at hmu;rw [e1,QCr];exact hmu
 have ls3:look S.s O3=some (.row 15 [S.cells p]):=by rw [k3' S.s hsr hs5 (by rw [m.s];simp),m.s]
 have li3:look iid O3=some (.row 1 esi):=by
  rw [k3' iid (fun e=>m.ri rid (by rw [e1];rfl) (by rw [e3,e];rfl)) (qan li l5 (by simp)) (by rw [li];simp),li]
 have hri:vid S.v1≠some iid:=fun e=>m.ri iid e (by rw [e3];rfl)
 have hVs:k<(S.V.set k (AV.row r5 5 0 (c.rows[k].length - 1))).length:=by simpa using hV
 have hVk:(S.V.set k (AV.row r5 5 0 (c.rows[k].length - 1)))[k]=AV.row r5 5 0 (c.rows[k].length - 1):=by simp
 have ls4:=ls3;simp only [SV.cells,e3] at ls4;have hrl:c.rows.length<2^40:=by have:=(qpu v.prg).tabs;omega
 have hnv:c.Xr.set k ((c.Xr[k]?).getD 0)=c.Xr:=by
  rw [Qa (by rw [v.nl];exact hk)];simp
 have hcz:esi.take c.rows.length=S.M.map fun x=>[.map x]:=by
  obtain ⟨iid',es0,e9,hl9,hle9,ht9⟩:=m.x.i.nonempty (by simp;omega);rw [e3] at e9;simp only [AV.row.injEq] at e9;obtain ⟨rfl,-⟩:=e9;rw [li] at hl9;cases hl9;rw [QAc,hMl] at ht9;exact ht9
 obtain ⟨O4,N4,e7,r1,r2,k4,hT4,hN4⟩:=qpe (k:=k) (n:=c.rows.length) (V:=S.V.set k (.row r5 5 0 (c.rows[k].length - 1))) (l:=c.rows[k].eraseIdx i) (R:=Prg.c p) (es:=esi) hT3' (by omega) hk' hVs ls4 (by simp) li3 hle3 ⟨_,gi⟩ m1 (by rw [hVk];exact m5) hri hinc (by omega);simp [e7];have keep:∀j,S.own j->¬S.chg k j->look j O4=look j O:=by
  intro j hj hc;obtain ⟨w,hw,hwn⟩:=m.own_lk hj;have h3:=k3' j (fun e=>hc (.inr (.inl (by rw [e,e1];rfl)))) (fun e=>hc (.inl ⟨_,Qa hV,by rw [e5,e];rfl⟩)) (by rw [hw];simpa using hwn);rw [k4 j (by have:=hT.lt hw;omega) (fun e=>hc (.inr (.inr (.inr (.inl (by rw [e,e3];rfl)))))),h3]
 have hfr:∀x,look N2 O=some x->x= .res:=fun x hx=>by have:=hT.lt hx;omega
 have up:=m.upd (k:=k) (v':= .row r5 5 0 (c.rows[k].length - 1)) (m':=N2) (l':=c.rows[k].eraseIdx i) (nx:=(c.Xr[k]?).getD 0) (O':=O4) hk' keep
  (m1.fr fun j hj=>by
   obtain ⟨es0,h0⟩:=m1.own hj;exact k4 j (hT3'.lt h0) (fun e=>hri (by rw [hj,e])))
  (by
   rw [hnv];refine m.cm.n.fr fun j hj=>?_
   obtain ⟨es0,h0⟩:=m.cm.n.own hj;have h3:=k3' j (fun e=>m.cm.rn j (by rw [e1,e];rfl) hj) (qan h0 l5 (by simp)) (by rw [h0];simp);rw [k4 j (by have:=hT.lt h0;omega) (fun e=>m.ni j hj (by rw [e3,e];rfl)),h3])
  (by
   have hmu:=Mu.upd (O':=O4) (id:=iid) (z:=1) (k:=k) (es:=S.M.map fun x=>[.map x]) (es0:=esi) (y:=[.map N2]) r1 (by rw [QAc,hMl];exact hle3) (by rw [QAc,hMl];exact hcz);rw [QAc,hMl] at hmu;rw [e3,QCr];exact hmu)
  (m5.fr fun j hj=>by
   obtain ⟨es0,h0⟩:=m5.own hj;exact k4 j (hT3'.lt h0) (qan h0 li3 (by simp)))
  r2 (by simp) (fun j hj=> .inl ⟨_,Qa hV,by rw [e5];exact hj⟩) (.inr hfr)
 rw [hnv] at up;refine ⟨S.tab k (.row r5 5 0 (c.rows[k].length - 1)) N2,O4,N4,rfl,up,rfl,?_,?_,hT4,by omega⟩
 ·intro j hj;rcases hj with hj | hj | hj | hj
  ·exact .inl (.inl hj)
  ·rcases hj with hj | hj | hj | ⟨w,hw,hj⟩
   ·exact .inl (.inr (.inl (.inl hj)))
   ·exact .inl (.inr (.inl (.inr (.inl hj))))
   ·exact .inl (.inr (.inl (.inr (.inr (.inl hj)))))
   ·rcases Qq hw with hw | rfl
    ·exact .inl (.inr (.inl (.inr (.inr (.inr ⟨w,hw,hj⟩)))))
    ·cases hj;exact .inl own4
  ·exact .inl (.inr (.inr (.inl hj)))
  ·simp only [SV.tab] at hj;rcases Qq hj with hj | rfl
   ·exact .inl (.inr (.inr (.inr hj)))
   ·exact .inr (by omega)
 ·intro j hj hx;have hx1:¬S.own j:=fun h=>hx (.inl h)
  have hx2:¬look j O=some .res:=fun h=>hx (.inr h)
  rw [k4 j (by omega) (fun e=>hx1 (by rw [e];exact own5)),k3' j (fun e=>hx1 (by rw [e];exact own1)) (fun e=>hx1 (by rw [e];exact own4)) hx2]
def xoE (p:Prg) (c:Xf) (o:Xc):Int:=if o.kind=1 then insE p c o.table o.entry else if o.kind=2 then modE p c o.table o.id o.call else if o.kind=3 then delE p c o.table o.id else if o.kind=4 then defE p o.table o.call else 11
def xoD (c:Xf) (o:Xc):Xf:=if o.kind=1 then insC c o.table o.entry else if o.kind=2 then modC c o.table o.id o.call else if o.kind=3 then delC c o.table o.id else defC c o.table o.call
def xoC (p:Prg) (c:Xf) (o:Xc):Xf:=if xoE p c o=0 then xoD c o else c
def xoI (p:Prg) (c:Xf) (o:Xc):Int:=if xoE p c o=0/\o.kind=1 then qee c o.table else 0
structure CallS (x:Xb):Prop where
 al:x.args.length<2^40
 ar:∀v∈x.args,ok32 0 v
structure OpS (o:Xc):Prop where
 e:EntS o.entry
 c:CallS o.call
theorem qaip {o:Xc} (h:o.Ok qbe):OpS o:=by
 have e:=qez;simp only [Xc.Ok,Entry.Ok,Xb.Ok] at h;obtain ⟨_,_,_,⟨h1,_,_,h2⟩,_,h3⟩:=h;exact ⟨⟨by have:=h1.1;omega,fun m hm=>h1.2 m hm,by have:=h2.1;omega,fun v hv=>h2.2 v hv⟩,⟨by have:=h3.1;omega,fun v hv=>h3.2 v hv⟩⟩
theorem qabm {p:Prg} {c:Xf} (v:CfgV p c) (o:Xc):CfgV p (xoC p c o):=by
 unfold xoC;split
 ·rename_i h;unfold xoE at h;unfold xoD;split
  ·rename_i h1;rw [QAa h1] at h;exact qaf0 v h
  rename_i h1;rw [QA h1] at h;split
  ·rename_i h2;rw [QAa h2] at h;exact qagg v h
  rename_i h2;rw [QA h2] at h;split
  ·rename_i h3;rw [QAa h3] at h;exact qafe v h
  rename_i h3;rw [QA h3] at h;by_cases h4:o.kind=4
  ·rw [QAa h4] at h;exact qafd v h
  ·rw [QA h4] at h;cases h
 ·exact v
theorem CfgT.mk_rows {p:Prg} {c c':Xf} (s:CfgT c) (v':CfgV p c') (hp:p.Xn.length<2^40) (hr:∀l∈c'.rows,∀r∈l,rowS r) (hd:∀d∈c'.Xq,d.args.length<2^40/\∀v∈d.args,ok32 0 v) (hg:c'.Xm=c.Xm):CfgT c':=by
 refine ⟨by rw [v'.rl];exact hp,fun l hl=>⟨by have:=v'.small l hl;omega,hr l hl⟩,by rw [v'.nl];exact hp,by rw [v'.dl];exact hp,hd,by rw [hg];exact s.gl,by rw [hg];exact s.gs⟩
theorem qyg {c:Xf} {t:Int} {r:Rw} (h:r∈qcm c t):∃l∈c.rows,r∈l:=by
 unfold qcm at h;cases ha:at? c.rows t with
 | none=>rw [ha] at h;cases h
 | some l=>
  rw [ha] at h;refine ⟨l,?_,h⟩;unfold at? at ha;split at ha
  ·cases ha
  ·exact Qe ha
theorem xoC_t {p:Prg} {c:Xf} (v:CfgV p c) (s:CfgT c) (hp:p.Xn.length<2^40) (o:Xc) (ho:OpS o):CfgT (xoC p c o):=by
 have v':=qabm v o;unfold xoC at v' ⊢;split
 rotate_left
 ·exact s
 rename_i h;rw [QAa h] at v';have old:∀l∈c.rows,∀r∈l,rowS r:=fun l hl=>(s.rs l hl).2
 have oldA:∀r∈qcm c o.table,rowS r:=fun r hr=>by
  obtain ⟨l,hl,hr⟩:=qyg hr;exact old l hl r hr
 unfold xoD at v' ⊢;split
 ·rename_i h1;rw [QAa h1] at v';refine s.mk_rows v' hp ?_ s.ds rfl;intro l hl r hr;simp only [insC] at hl;rcases Qq hl with hl | rfl
  ·exact old l hl r hr
  ·rcases QAg.1 hr with hr | hr
   ·exact oldA r hr
   ·simp at hr;subst hr;exact ho.e
 rename_i h1;rw [QA h1] at v';split
 ·rename_i h2;rw [QAa h2] at v';unfold modC at v' ⊢;split
  ·rename_i i hi;rw [hi] at v';refine s.mk_rows v' hp ?_ s.ds rfl;intro l hl r hr;rcases Qq hl with hl | rfl
   ·exact old l hl r hr
   ·obtain ⟨j,hj,rfl⟩:=Qn.1 hr;rw [QBv];have hj':j<(qcm c o.table).length:=by simpa using hj
    have h0:=oldA _ (Qd hj');split
    ·exact ⟨h0.kl,h0.ks,ho.c.al,ho.c.ar⟩
    ·exact h0
  ·exact s
 rename_i h2;rw [QA h2] at v';split
 ·rename_i h3;rw [QAa h3] at v';unfold delC at v' ⊢;split
  ·rename_i i hi;rw [hi] at v';refine s.mk_rows v' hp ?_ s.ds rfl;intro l hl r hr;rcases Qq hl with hl | rfl
   ·exact old l hl r hr
   ·exact oldA r ((List.eraseIdx_sublist _ _).subset hr)
  ·exact s
 ·rename_i h3;rw [QA h3] at v';refine s.mk_rows v' hp old ?_ rfl;intro d hd;simp only [defC] at hd;rcases Qq hd with hd | rfl
  ·exact s.ds d hd
  ·exact ⟨ho.c.al,ho.c.ar⟩
inductive RunR where
 | ok (c:Xf) (ids:List Int)
 | err (i:Nat) (e:Int)
def xoF (p:Prg) (c:Xf) (l:List Xc):Xf:=l.foldl (xoC p) c
theorem qwg {α:Type} {p:α->Bool} {l:List α}:∀n i,n+i=l.length->ix p l i=(((l.drop i).findIdx? p).map fun j=>((i+j:Nat):Int)).getD (-1)
 | 0,i,h=>by
  have:i=l.length:=by omega
  subst this;rw [qgu];simp
 | n+1,i,h=>by
  have hi:i<l.length:=by omega
  rw [Qi hi,List.findIdx?_cons];cases hp:p l[i] with
  | true=>rw [qgv hi hp];simp
  | false=>
   rw [qfu hi hp,qwg n (i+1) (by omega)];cases (l.drop (i+1)).findIdx? p with
   | none=>rfl
   | some j=>simp;omega
def rIx (l:List Rw) (id:Int):Int:=((rIdx l id).map fun (j:Nat)=>(j:Int)).getD (-1)
theorem qajr (l:List Rw) (id:Int):ix (fun r=>decide (r.id=id)) l 0=rIx l id:=by
 rw [qwg l.length 0 (by omega)];simp [rIx,rIdx]
theorem qpf (l:List Rw) (id:Int) (hl:l.length<2^40):qab Φ f_296 [.slice 5 (l.map Rw.c),.int .i64 id]=some (.val (.int .i64 (rIx l id))):=by
 rw [qaa (fn:=c_296) rfl rfl,<- qajr];simp [c_296];refine qay l.length (fun i e=>look 0 e=some (.slice 5 (l.map Rw.c))/\look 1 e=some (.int .i64 id)/\look 5 e=some (.int .i64 i))
  (fun i=>some (Rt.val (.int .i64 (ix (fun r=>decide (r.id=id)) l i)))) ?_ ?_ 0 _ (Qc _) ?_
 ·rintro i e L hi hL ⟨h0,h1,h5⟩ ih;have hw:=qaf i (by omega);by_cases z:l[i].id=id
  ·rw [qgv hi (by simpa using z)];simp [c_296_l0,Rw.ce,h0,h1,h5,hi,z]
  ·rw [qfu hi (by simpa using z)];simp [c_296_l0,Rw.ce,h0,h1,h5,hi,z,hw];exact ih _ ⟨by simp [h0],by simp [h1],by simp⟩
 ·rintro e L hL ⟨h0,h1,h5⟩;rw [qgu];simp [c_296_l0,c_296_k1,h0,h5,hL]
 ·simp
theorem qjy (c:Xf) (k:Nat) (l:List Rw) (nx:Int) (hk:k<c.rows.length) (hn:c.Xr.length=c.rows.length) (hl:c.rows.length<2^40):
  qab Φ f_295 [.agg (Xf.c c),.int .i64 k,.slice 5 (l.map Rw.c),.int .i64 nx]=some (.val (.agg (Xf.c ⟨c.rows.set k l,c.Xr.set k nx,c.Xq,c.Xm⟩))):=by
 rw [qaa (fn:=c_295) rfl rfl];generalize hR:c.rows.set k l=R;generalize hNn:c.Xr.set k nx=M;have hRl:R.length=c.rows.length:=by rw [<- hR];simp
 have hMl:M.length=c.rows.length:=by rw [<- hNn];simp [hn]
 generalize hQ:(fun r:Option Rt=>r=some (Rt.val (.agg (Xf.c ⟨R,M,c.Xq,c.Xm⟩))))=Q;have hq:∀r,Q r=(r=some (Rt.val (.agg (Xf.c ⟨R,M,c.Xq,c.Xm⟩)))):=fun r=>by rw [<- hQ]
 rw [<- hq];clear hQ;simp [c_295,Xf.ce];refine qgx c.rows.length (fun i e h=>∃(O':List (Nat×AO)) (N':Nat) (w1 w2:AV),h=⟨O',N'⟩/\Tail O' N'/\look 0 O'=some (.row 4 [[.Xu 1 [],.Xu 1 [],.Xu 2 [],.Xu 1 []]])/\look 1 O'=some (.row 4 [[w1,w2,.slice 2 (c.Xq.map Xb.c),.slice 1 (c.Xm.map (cS 1 c32))]])/\
   ((i=0/\w1= .Xu 1 []/\w2= .Xu 1 [])\/∃a b,w1= .app 1 ((R.map (cS 5 Rw.c)).take i) a/\look a O'=some (.tok 1 i)/\w2= .app 1 ((M.map cI).take i) b/\look b O'=some (.tok 1 i)/\a≠b)/\
   look 1 e=some (.int .i64 k)/\look 2 e=some (.slice 5 (l.map Rw.c))/\look 3 e=some (.int .i64 nx)/\look 4 e=some (.iptr 4 [Xf.c c] 0 0)/\look 8 e=some (.ptr 0 4 0 0)/\look 9 e=some (.ptr 1 4 0 0)/\look 10 e=some (.int .i64 i)) Q ?_ ?_ 0 _ _ (Qc _) ?_
 ·rintro i e _ L hi hL ⟨O',N',w1,w2,rfl,hT',l0,l1,hw,e1,e2,e3,e4,e8,e9,e10⟩ ih;have hw1:=qaf i (by omega);have i2:i<c.Xr.length:=by omega
  have iR:i<R.length:=by omega
  have iM:i<M.length:=by omega
  have t0:=hT' N' (Qb _);have t1:=hT' (N'+1) (by omega);have nz:¬N'=0:=by have:=hT'.lt l1;omega
  have n1:1<N':=hT'.lt l1;have n2:¬N'=1:=by omega
  have n3:¬1=N':=by omega
  have n4:¬0=N':=by omega
  have hTm:Tail O' (N'+1+1):=hT'.mono (by omega);have sR:(R.map (cS 5 Rw.c)).take (i+1)=(R.map (cS 5 Rw.c)).take i++[cS 5 Rw.c R[i]]:=qaw iR;have sM:(M.map cI).take (i+1)=(M.map cI).take i++[cI M[i]]:=qaw iM;rw [cSe] at sR;rw [cIe] at sM;rw [Xf.ce] at e4;have mR:min i R.length=i:=by omega
  have mM:min i M.length=i:=by omega
  have c1:(i+1)*24<=70368744177664:=by omega
  have c2:(i+1)*8<=70368744177664:=by omega
  by_cases hik:i=k
  ·have vR:R[i]=l:=by simp [<- hR,hik]
   have vM:M[i]=nx:=by simp [<- hNn,hik]
   rw [vR] at sR;rw [vM] at sM;have d0:(i=k)=True:=eq_true hik;rcases hw with ⟨rfl,rfl,rfl⟩ | ⟨a,b,rfl,la,rfl,lb,hab⟩
   ·have hk0:k=0:=hik.symm;simp [c_295_l0,e1,e2,e3,e4,e9,e10,hi,hk0,t0,t1,wr1,qai,qac,l1,n2,nz];refine ih _ _ ⟨_,_,_,_,rfl,?_,?_,?_,.inr ⟨N',N'+1,by rw [sR],?_,by rw [sM],?_,by omega⟩,?_,?_,?_,?_,?_,?_,?_⟩
    ·repeat' first | exact hTm | apply qaj | apply qfd | omega
    ·simp [qai,qac,l0]
    ·simp [qai,qac,l1]
    ·simp [qai,qac,n2,t0]
    ·simp [qac,t1,nz]
    all_goals simp [e1,e2,e3,e4,e8,e9,Xf.ce,hk0]
   ·have i0:0≠a:=qan l0 la (by simp);have i1:1≠a:=qan l1 la (by simp);have i2:0≠b:=qan l0 lb (by simp);have i3:1≠b:=qan l1 lb (by simp);have j0:=i0.symm;have j1:=i1.symm;have j2:=i2.symm;have j3:=i3.symm;have hba:=hab.symm;simp [c_295_l0,e1,e2,e3,e4,e9,e10,hi,d0,hw1,qac,l1,la,lb,i1,i3,j3,hba,mR,mM,c1,c2];refine ih _ _ ⟨_,_,_,_,rfl,?_,?_,?_,.inr ⟨a,b,by rw [sR],?_,by rw [sM],?_,hab⟩,?_,?_,?_,?_,?_,?_,?_⟩
    ·repeat' first | exact hT' | apply qaj
    ·simp [qac,l0,i0,i2]
    ·simp [qac,l1,i1,i3]
    ·simp [qac,la,j1,hab]
    ·simp [qac,lb,j3,hba]
    all_goals simp [e1,e2,e3,e4,e8,e9,Xf.ce]
  ·have vR:R[i]=c.rows[i]:=by simp [<- hR,show ¬k=i by omega]
   have vM:M[i]=c.Xr[i]:=by simp [<- hNn,show ¬k=i by omega]
   rw [vR] at sR;rw [vM] at sM;have d0:¬(i:Int)=(k:Int):=by omega
   rcases hw with ⟨rfl,rfl,rfl⟩ | ⟨a,b,rfl,la,rfl,lb,hab⟩
   ·have hk0:¬k=0:=fun h=>hik h.symm
    have hk1:¬0=k:=fun h=>hik h
    simp [c_295_l0,cSe,cIe,e1,e4,e9,e10,hi,i2,hk1,t0,t1,wr1,qai,qac,l1,n2,nz];refine ih _ _ ⟨_,_,_,_,rfl,?_,?_,?_,.inr ⟨N',N'+1,by rw [sR],?_,by rw [sM],?_,by omega⟩,?_,?_,?_,?_,?_,?_,?_⟩
    ·repeat' first | exact hTm | apply qaj | apply qfd | omega
    ·simp [qai,qac,l0]
    ·simp [qai,qac,l1]
    ·simp [qai,qac,n2,t0]
    ·simp [qac,t1,nz]
    all_goals simp [e1,e2,e3,e4,e8,e9,Xf.ce]
   ·have i0:0≠a:=qan l0 la (by simp);have i1:1≠a:=qan l1 la (by simp);have i2':0≠b:=qan l0 lb (by simp);have i3:1≠b:=qan l1 lb (by simp);have j0:=i0.symm;have j1:=i1.symm;have j2:=i2'.symm;have j3:=i3.symm;have hba:=hab.symm;simp [c_295_l0,cSe,cIe,e1,e4,e9,e10,hi,i2,d0,hw1,qac,l1,la,lb,i1,i3,j3,hba,mR,mM,c1,c2];refine ih _ _ ⟨_,_,_,_,rfl,?_,?_,?_,.inr ⟨a,b,by rw [sR],?_,by rw [sM],?_,hab⟩,?_,?_,?_,?_,?_,?_,?_⟩
    ·repeat' first | exact hT' | apply qaj
    ·simp [qac,l0,i0,i2']
    ·simp [qac,l1,i1,i3]
    ·simp [qac,la,j1,hab]
    ·simp [qac,lb,j3,hba]
    all_goals simp [e1,e2,e3,e4,e8,e9,Xf.ce]
 ·rintro e _ L hL ⟨O',N',w1,w2,rfl,hT',l0,l1,hw,e1,e2,e3,e4,e8,e9,e10⟩;rw [Xf.ce] at e4;simp [c_295_l0,c_295_k1,e4,e8,e9,e10,hL,l0,l1,qac];rw [hq];have tR:(R.map (cS 5 Rw.c)).take c.rows.length=R.map (cS 5 Rw.c):=Qo (by simp;omega);have tM:(M.map cI).take c.rows.length=M.map cI:=Qo (by simp;omega);rcases hw with ⟨hz,rfl,rfl⟩ | ⟨a,b,rfl,la,rfl,lb,hab⟩
  ·omega
  ·rw [tR,tM];simp [Xf.ce]
 ·refine ⟨_,_,.Xu 1 [],.Xu 1 [],rfl,?_,?_,?_,.inl ⟨rfl,rfl,rfl⟩,?_,?_,?_,?_,?_,?_,?_⟩
  all_goals simp [qa7,qcw,Xf.ce]
theorem qt6 {l:List Rw} {id:Int} (h:rIdx l id=none):rIx l id= -1:=by simp [rIx,h]
theorem qt7 {l:List Rw} {id:Int} {i:Nat} (h:rIdx l id=some i):rIx l id=i:=by simp [rIx,h]
section
variable {p:Prg} (f:PrgS p) (hv:∀t∈p.Xn,∀v∈t.dflt.args,ok32 0 v) {c:Xf} (v:CfgV p c) (s:CfgT c) (t:Int)
include f hv v s
theorem qx6 (x:Entry) (hx:EntS x):qab Φ f_257 [.agg (Prg.c p),.agg (Xf.c c),.int .i64 t,.agg (Entry.c x)]=
  some (.val (.tup [.agg (Xf.c (if insE p c t x=0 then insC c t x else c)),.int .i64 (if insE p c t x=0 then qee c t else 0),.int .i64 (insE p c t x)])):=by
 rw [qaa (fn:=c_257) rfl rfl];have he:=quh p f hv t x hx;simp only [Prg.e,Entry.ce] at he;by_cases z0:t<0
 ·have hE:insE p c t x=8:=by simp [insE,inT];omega
  simp [c_257,Prg.e,Xf.ce,Entry.ce,hE,z0]
 by_cases z1:(p.Xn.length:Int)<=t
 ·have hE:insE p c t x=8:=by simp [insE,inT];omega
  simp [c_257,Prg.e,Xf.ce,Entry.ce,hE,z0,z1]
 obtain ⟨k,rfl⟩:∃k:Nat,t=k:=⟨t.toNat,by omega⟩;have hk:k<p.Xn.length:=by omega
 have hk1:k<c.rows.length:=by rw [v.rl];exact hk
 have hk2:k<c.Xr.length:=by rw [v.nl];exact hk
 have hi:=qis hk;have hkn:¬p.Xn.length<=k:=by omega
 have hrow:qcm c (k:Int)=c.rows[k]:=qda hk1;have hnx:qee c (k:Int)=c.Xr[k]:=qii hk2;have hsz:qmi p (k:Int)=p.Xn[k].size:=qk9 hk;have hE:insE p c k x=if entE p k x≠0 then entE p k x else if (c.rows[k].any fun y=>sk y.entry x)=true then 7 else if p.Xn[k].size<=c.rows[k].length\/1073741824<=c.Xr[k] then 13 else 0:=by
  unfold insE;rw [hi,hrow,hnx,hsz];simp
 by_cases y:entE p k x=0
 rotate_left
 ·rw [QAa y] at hE;simp [c_257,Prg.e,Xf.ce,Entry.ce,hE,hkn,he,y]
 rw [QA (by simpa using y)] at hE;rw [y] at he;have hsl:=s.rs _ (Qd hk1);have htk:=qu3 c.rows[k] x hsl.1 fun r hr=>(hsl.2 r hr).kl
 simp only [Entry.ce] at htk;cases w:c.rows[k].any fun y=>sk y.entry x with
 | true=>
  rw [QAa w] at hE;rw [w] at htk;simp [c_257,Prg.e,Xf.ce,cSe,Entry.ce,hE,hkn,hk1,he,htk]
 | false=>
 rw [QA (by rw [w];decide)] at hE;rw [w] at htk;by_cases u:p.Xn[k].size<=c.rows[k].length
 ·rw [QAa (.inl u)] at hE;simp [c_257,Prg.e,Xf.ce,cSe,Tbl.e,Entry.ce,hE,hk,hkn,hk1,he,htk,u]
 by_cases q:1073741824<=c.Xr[k]
 ·rw [QAa (.inr q)] at hE;simp [c_257,Prg.e,Xf.ce,cSe,cIe,Tbl.e,Entry.ce,hE,hk,hkn,hk1,hk2,he,htk,u,q]
 rw [QA (by omega)] at hE;have hvt:=v.at hk;have hrp:=qjy c k (c.rows[k]++[⟨c.Xr[k],x⟩]) (c.Xr[k]+1) hk1 (by rw [v.nl,v.rl]) (by have:=s.rl;omega);have hw:IntKind.wrap .i64 (c.Xr[k]+1)=c.Xr[k]+1:=qa6 (by have:=hvt.nx0;omega) (by omega);have hci:insC c (k:Int) x=⟨c.rows.set k (c.rows[k]++[⟨c.Xr[k],x⟩]),c.Xr.set k (c.Xr[k]+1),c.Xq,c.Xm⟩:=by
  unfold insC;rw [hrow,hnx];simp
 rw [hE,QAa rfl,QAa rfl,hci,hnx];generalize hR:Xf.c ⟨c.rows.set k (c.rows[k]++[⟨c.Xr[k],x⟩]),c.Xr.set k (c.Xr[k]+1),c.Xq,c.Xm⟩=R at hrp ⊢;have hRl:R.length=4:=by rw [<- hR];simp
 obtain ⟨r0,r1,r2,r3,rfl⟩:∃r0 r1 r2 r3,R=[r0,r1,r2,r3]:=by
  match R,hRl with
  | [r0,r1,r2,r3],_=>exact ⟨_,_,_,_,rfl⟩
 have hs0:∀H:AH,snap 38 H r0=some r0/\snap 38 H r1=some r1/\snap 38 H r2=some r2/\snap 38 H r3=some r3:=by
  intro H;rw [Xf.ce] at hR;cases hR;simp
 have hal:qch 5 (c.rows[k].map Rw.c)=true:=qb7 5 Rw.c _ fun x=>by simp
 have hls:=v.small _ (Qd hk1);have b1:c.rows[k].length*72<=70368744177664:=by omega
 have b2:(c.rows[k].length+1)*72<=70368744177664:=by omega
 simp only [Xf.ce,QAu,QBt,QBp,Rw.ce] at hrp;simp [c_257,Prg.e,Xf.ce,cSe,cIe,Tbl.e,Entry.ce,hk,hkn,hk1,hk2,he,htk,u,q,hal,b1,b2,hw,hrp,hs0]
end
section
variable {p:Prg} (f:PrgS p) (hv:∀t∈p.Xn,∀v∈t.dflt.args,ok32 0 v) {c:Xf} (v:CfgV p c) (s:CfgT c) (t:Int)
include f hv v s
theorem qqk (x:Xb) (hx:x.args.length<2^40) (hr:∀v∈x.args,ok32 0 v):qab Φ f_260 [.agg (Prg.c p),.agg (Xf.c c),.int .i64 t,.agg (Xb.c x)]=
  some (.val (.tup [.agg (Xf.c (if defE p t x=0 then defC c t x else c)),.int .i64 (defE p t x)])):=by
 rw [qaa (fn:=c_260) rfl rfl];have hc:=qn7 p f hv t x hx hr;simp only [Prg.e,Xb.ce] at hc;by_cases z0:t<0
 ·have hE:defE p t x=8:=by simp [defE,inT];omega
  simp [c_260,Prg.e,Xf.ce,Xb.ce,hE,z0]
 by_cases z1:(p.Xn.length:Int)<=t
 ·have hE:defE p t x=8:=by simp [defE,inT];omega
  simp [c_260,Prg.e,Xf.ce,Xb.ce,hE,z0,z1]
 obtain ⟨k,rfl⟩:∃k:Nat,t=k:=⟨t.toNat,by omega⟩;have hk:k<p.Xn.length:=by omega
 have hkn:¬p.Xn.length<=k:=by omega
 have hk1:k<c.Xq.length:=by rw [v.dl];exact hk
 have hE:defE p k x=qbg p k x:=by simp [defE,qis hk]
 by_cases q:qbg p k x=0
 rotate_left
 ·simp [c_260,Prg.e,Xf.ce,Xb.ce,hE,hkn,hc,q]
 have hal:qch 2 (c.Xq.map Xb.c)=true:=qb7 2 Xb.c _ fun x=>by simp
 have hne:¬c.Xq=[]:=by intro e;rw [e] at hk1;simp at hk1
 have hdl:=s.dl;have b1:c.Xq.length*32<=70368744177664:=by omega
 have hci:defC c (k:Int) x=⟨c.rows,c.Xr,c.Xq.set k x,c.Xm⟩:=by simp [defC]
 rw [q] at hc;rw [hE,q,QAa rfl,hci];have hset:∀H,mapO (mapO (snap 37 H)) (((c.Xq.map Xb.c).set k [.int .i64 x.action,.slice 1 (x.args.map c32)]).take c.Xq.length)=some ((c.Xq.map Xb.c).set k [.int .i64 x.action,.slice 1 (x.args.map c32)]):=by
  intro H;rw [Qo (by simp),<- Xb.ce,<- QCr];exact qdz (n:=37) (H:=H) (fun x=>qux x) _
 simp [c_260,Prg.e,Xf.ce,Xb.ce,hkn,hc,hal,hne,b1,hk1,hset]
theorem qx5 (id:Int):qab Φ f_259 [.agg (Prg.c p),.agg (Xf.c c),.int .i64 t,.int .i64 id]=
  some (.val (.tup [.agg (Xf.c (if delE p c t id=0 then delC c t id else c)),.int .i64 (delE p c t id)])):=by
 have _:=f;have _:=hv;rw [qaa (fn:=c_259) rfl rfl];by_cases z0:t<0
 ·have hE:delE p c t id=8:=by simp [delE,inT];omega
  simp [c_259,Prg.e,Xf.ce,hE,z0]
 by_cases z1:(p.Xn.length:Int)<=t
 ·have hE:delE p c t id=8:=by simp [delE,inT];omega
  simp [c_259,Prg.e,Xf.ce,hE,z0,z1]
 obtain ⟨k,rfl⟩:∃k:Nat,t=k:=⟨t.toNat,by omega⟩;have hk:k<p.Xn.length:=by omega
 have hkn:¬p.Xn.length<=k:=by omega
 have hk1:k<c.rows.length:=by rw [v.rl];exact hk
 have hk2:k<c.Xr.length:=by rw [v.nl];exact hk
 have hrow:qcm c (k:Int)=c.rows[k]:=qda hk1;have hls:=v.small _ (Qd hk1);have hix:=qpf c.rows[k] id (by omega);cases hx:rIdx c.rows[k] id with
 | none=>
  have hE:delE p c k id=8:=by simp [delE,qis hk,hrow,hx]
  rw [qt6 hx] at hix;simp [c_259,Prg.e,Xf.ce,cSe,hE,hkn,hk1,hix]
 | some i=>
  obtain ⟨hi,hid⟩:=qh9 hx;have hE:delE p c k id=0:=by simp [delE,qis hk,hrow,hx]
  rw [qt7 hx] at hix;have hci:delC c (k:Int) id=⟨c.rows.set k (c.rows[k].eraseIdx i),c.Xr.set k c.Xr[k],c.Xq,c.Xm⟩:=by
   unfold delC;rw [hrow,hx];simp
  have hrp:=qjy c k (c.rows[k].eraseIdx i) c.Xr[k] hk1 (by rw [v.nl,v.rl]) (by have:=s.rl;omega);rw [hE,QAa rfl,hci];generalize hR:Xf.c ⟨c.rows.set k (c.rows[k].eraseIdx i),c.Xr.set k c.Xr[k],c.Xq,c.Xm⟩=R at hrp ⊢;have hRl:R.length=4:=by rw [<- hR];simp
  obtain ⟨r0,r1,r2,r3,rfl⟩:∃r0 r1 r2 r3,R=[r0,r1,r2,r3]:=by
   match R,hRl with
   | [r0,r1,r2,r3],_=>exact ⟨_,_,_,_,rfl⟩
  have hs0:∀H:AH,snap 38 H r0=some r0/\snap 38 H r1=some r1/\snap 38 H r2=some r2/\snap 38 H r3=some r3:=by
   intro H;rw [Xf.ce] at hR;cases hR;simp
  have a1:i<=c.rows[k].length:=by omega
  have a2:(i:Int)+1<=(c.rows[k].length:Int):=by omega
  have a3:(0:Int)<=(i:Int)+1:=by omega
  have a4:i+1<=c.rows[k].length:=by omega
  have a5:min i c.rows[k].length=i:=by omega
  have hw:IntKind.wrap .i64 ((i:Int)+1)=(i:Int)+1:=qa6 (by omega) (by omega);have hneg:¬(i:Int)<0:=by omega
  have t1:qch 5 ((c.rows[k].map Rw.c).take i)=true:=by rw [<- QBh];exact qb7 5 Rw.c _ fun x=>by simp
  have t2:qch 5 ((c.rows[k].map Rw.c).drop (i+1))=true:=by rw [<- List.map_drop];exact qb7 5 Rw.c _ fun x=>by simp
  have htk:((c.rows[k].map Rw.c).drop (i+1)).take (c.rows[k].length - (i+1))=(c.rows[k].map Rw.c).drop (i+1):=Qo (by simp);have b1:i*72<=70368744177664:=by omega
  have b2:(i+(c.rows[k].length - (i+1)))*72<=70368744177664:=by omega
  have b3:(c.rows[k].length - (i+1))+(i+1)=c.rows[k].length:=by omega
  rw [List.eraseIdx_eq_take_drop_succ,QAu,QBh,List.map_drop] at hrp;simp only [Xf.ce] at hrp;simp [c_259,Prg.e,Xf.ce,cSe,cIe,hkn,hk1,hk2,hix,hneg,a1,a2,a3,a5,hw,htk,t1,t2,b1,b2,hrp,hs0]
end
theorem qx7 {p:Prg} (f:PrgS p) (hv:∀t∈p.Xn,∀v∈t.dflt.args,ok32 0 v) {c:Xf} (v:CfgV p c) (s:CfgT c) (t id:Int) (x:Xb) (hxl:x.args.length<2^40) (hr:∀v∈x.args,ok32 0 v):
  qab Φ f_258 [.agg (Prg.c p),.agg (Xf.c c),.int .i64 t,.int .i64 id,.agg (Xb.c x)]=
  some (.val (.tup [.agg (Xf.c (if modE p c t id x=0 then modC c t id x else c)),.int .i64 (modE p c t id x)])):=by
 rw [qaa (fn:=c_258) rfl rfl];have hc:=qn7 p f hv t x hxl hr;simp only [Prg.e,Xb.ce] at hc;by_cases z0:t<0
 ·have hE:modE p c t id x=8:=by simp [modE,inT];omega
  simp [c_258,Prg.e,Xf.ce,Xb.ce,hE,z0]
 by_cases z1:(p.Xn.length:Int)<=t
 ·have hE:modE p c t id x=8:=by simp [modE,inT];omega
  simp [c_258,Prg.e,Xf.ce,Xb.ce,hE,z0,z1]
 obtain ⟨k,rfl⟩:∃k:Nat,t=k:=⟨t.toNat,by omega⟩;have hk:k<p.Xn.length:=by omega
 have hkn:¬p.Xn.length<=k:=by omega
 have hk1:k<c.rows.length:=by rw [v.rl];exact hk
 have hk2:k<c.Xr.length:=by rw [v.nl];exact hk
 have hrow:qcm c (k:Int)=c.rows[k]:=qda hk1;have hls:=v.small _ (Qd hk1);have hix:=qpf c.rows[k] id (by omega);cases hx:rIdx c.rows[k] id with
 | none=>
  have hE:modE p c k id x=8:=by simp [modE,qis hk,hrow,hx]
  rw [qt6 hx] at hix;simp [c_258,Prg.e,Xf.ce,cSe,Xb.ce,hE,hkn,hk1,hix]
 | some i=>
  obtain ⟨hi,hid⟩:=qh9 hx;have hE:modE p c k id x=qbg p k x:=by simp [modE,qis hk,hrow,hx]
  rw [qt7 hx] at hix;have hneg:¬(i:Int)<0:=by omega
  by_cases q:qbg p k x=0
  rotate_left
  ·simp [c_258,Prg.e,Xf.ce,cSe,Xb.ce,hE,hkn,hk1,hix,hneg,hc,q]
  have hci:modC c (k:Int) id x=⟨c.rows.set k (c.rows[k].modify i (qbr x)),c.Xr.set k c.Xr[k],c.Xq,c.Xm⟩:=by
   unfold modC;rw [hrow,hx];simp
  have hrp:=qjy c k (c.rows[k].modify i (qbr x)) c.Xr[k] hk1 (by rw [v.nl,v.rl]) (by have:=s.rl;omega);rw [hE,q,QAa rfl,hci];rw [q] at hc;generalize hR:Xf.c ⟨c.rows.set k (c.rows[k].modify i (qbr x)),c.Xr.set k c.Xr[k],c.Xq,c.Xm⟩=R at hrp ⊢;have hRl:R.length=4:=by rw [<- hR];simp
  obtain ⟨r0,r1,r2,r3,rfl⟩:∃r0 r1 r2 r3,R=[r0,r1,r2,r3]:=by
   match R,hRl with
   | [r0,r1,r2,r3],_=>exact ⟨_,_,_,_,rfl⟩
  have hs0:∀H:AH,snap 38 H r0=some r0/\snap 38 H r1=some r1/\snap 38 H r2=some r2/\snap 38 H r3=some r3:=by
   intro H;rw [Xf.ce] at hR;cases hR;simp
  have hal:qch 5 (c.rows[k].map Rw.c)=true:=qb7 5 Rw.c _ fun x=>by simp
  have hne:¬c.rows[k]=[]:=by intro e;rw [e] at hi;simp at hi
  have b1:c.rows[k].length*72<=70368744177664:=by omega
  have hlist:(c.rows[k].map Rw.c).set i [.int .i64 c.rows[k][i].id,.slice 2 (c.rows[k][i].entry.keys.map Xi.c),.int .i64 c.rows[k][i].entry.Xt,.int .i64 x.action,.slice 1 (x.args.map c32)]=(c.rows[k].modify i (qbr x)).map Rw.c:=by
   refine List.ext_getElem (by simp) fun j h1 h2=>?_
   rw [List.getElem_set,QDa,QDa,QBv];split
   ·rename_i e;subst e;simp [Rw.ce,qbr]
   ·simp
  have t1:∀H,mapO (mapO (snap 39 H)) (c.rows[k].map Rw.c)=some (c.rows[k].map Rw.c):=fun H=>qdz (n:=39) (H:=H) (fun x=>qpk x) _
  have hns:anyL (bor 40) ((c.rows[k].modify i (qbr x)).map Rw.c).flatten=false:=by
   have:∀l:List Rw,anyL (bor 40) (l.map Rw.c).flatten=false:=by
    intro l
    induction l with
    | nil=>rfl
    | cons a l ih=>
     have ha:∀(xs ys:List AV),anyL (bor 40) xs=false->anyL (bor 40) ys=false->anyL (bor 40) (xs++ys)=false:=by
      intro xs ys
      induction xs with
      | nil=>intro _ h;exact h
      | cons b xs ih2=>
       intro h1 h2;simp only [QAp,anyL,QB] at h1 ⊢;exact ⟨h1.1,ih2 h1.2 h2⟩
     simp only [QBt,QCx];exact ha _ _ (by simp [Rw.ce]) ih
   exact this _
  have t2:∀H,mapO (mapO (snap 40 H)) ((c.rows[k].modify i (qbr x)).map Rw.c)=some ((c.rows[k].modify i (qbr x)).map Rw.c):=fun H=>qdz (n:=40) (H:=H) (fun x=>qpk x) _
  have t3:((c.rows[k].modify i (qbr x)).map Rw.c).take c.rows[k].length=(c.rows[k].modify i (qbr x)).map Rw.c:=Qo (by simp);have t4:(c.rows[k].map Rw.c).take c.rows[k].length=c.rows[k].map Rw.c:=Qo (by simp);simp only [Xf.ce] at hrp;generalize hml:(c.rows[k].modify i (qbr x)).map Rw.c=ml at hlist hrp hns t2 t3;have hmll:ml.length=c.rows[k].length:=by rw [<- hml];simp
  simp [c_258,Prg.e,Xf.ce,cSe,cIe,Xb.ce,hkn,hk1,hk2,hix,hneg,hc,hal,hne,b1,hi,Rw.ce,hlist,qfl,qe4,hns,t1,t2,t3,t4,hmll,hrp,hs0]
theorem Xc.ce2 (x:Xc):Xc.c x=[.int .i64 x.kind,.int .i64 x.table,.int .i64 x.id,.slice 2 (x.entry.keys.map Xi.c),.int .i64 x.entry.Xt,.int .i64 x.entry.call.action,.slice 1 (x.entry.call.args.map c32),.int .i64 x.call.action,.slice 1 (x.call.args.map c32)]:=by simp [Xc.c]
theorem cfg4 (c:Xf):∃r0 r1 r2 r3,Xf.c c=[r0,r1,r2,r3]/\(∀(H:AH),(snap 37 H r0=some r0/\snap 37 H r1=some r1/\snap 37 H r2=some r2/\snap 37 H r3=some r3)/\(snap 38 H r0=some r0/\snap 38 H r1=some r1/\snap 38 H r2=some r2/\snap 38 H r3=some r3)/\(snap 39 H r0=some r0/\snap 39 H r1=some r1/\snap 39 H r2=some r2/\snap 39 H r3=some r3)/\(snap 40 H r0=some r0/\snap 40 H r1=some r1/\snap 40 H r2=some r2/\snap 40 H r3=some r3))/\(bor 37 r0=false/\bor 37 r1=false/\bor 37 r2=false/\bor 37 r3=false)/\(bor 38 r0=false/\bor 38 r1=false/\bor 38 r2=false/\bor 38 r3=false)/\(bor 39 r0=false/\bor 39 r1=false/\bor 39 r2=false/\bor 39 r3=false)/\(bor 40 r0=false/\bor 40 r1=false/\bor 40 r2=false/\bor 40 r3=false):=by
 refine ⟨_,_,_,_,Xf.ce c,fun H=>⟨?_,?_,?_,?_⟩,?_,?_,?_,?_⟩<;>simp
theorem qadc {p:Prg} (f:PrgS p) (hv:∀t∈p.Xn,∀v∈t.dflt.args,ok32 0 v) {c:Xf} (v:CfgV p c) (s:CfgT c) (o:Xc) (ho:OpS o):
  qab Φ f_207 [.agg (Prg.c p),.agg (Xf.c c),.agg (Xc.c o)]=some (.val (.tup [.agg (Xf.c (xoC p c o)),.int .i64 (xoI p c o),.int .i64 (xoE p c o)])):=by
 rw [qaa (fn:=c_207) rfl rfl];obtain ⟨r0,r1,r2,r3,hR,hs,hs2⟩:=cfg4 (xoC p c o);obtain ⟨q0,q1,q2,q3,hC,hq,hq2⟩:=cfg4 c;by_cases z1:o.kind=1
 ·have h:=qx6 f hv v s o.table o.entry ho.e;have e1:xoE p c o=insE p c o.table o.entry:=by simp [xoE,z1]
  have e2:(if insE p c o.table o.entry=0 then insC c o.table o.entry else c)=xoC p c o:=by simp [xoC,e1,xoD,z1]
  have e3:(if insE p c o.table o.entry=0 then qee c o.table else 0)=xoI p c o:=by simp [xoI,e1,z1]
  rw [e2,e3,<- e1] at h;rw [hR,hC] at h ⊢;simp only [Prg.e,Entry.ce] at h;simp [c_207,Prg.e,Xc.ce2,z1,h,hs,hq,hq2]
 by_cases z2:o.kind=2
 ·have h:=qx7 f hv v s o.table o.id o.call ho.c.al ho.c.ar;have e1:xoE p c o=modE p c o.table o.id o.call:=by simp [xoE,z2]
  have e2:(if modE p c o.table o.id o.call=0 then modC c o.table o.id o.call else c)=xoC p c o:=by simp [xoC,e1,xoD,z2]
  have e3:xoI p c o=0:=by simp [xoI,z1]
  rw [e2,<- e1] at h;rw [e3,hR,hC] at*;simp only [Prg.e,Xb.ce] at h;simp [c_207,Prg.e,Xc.ce2,z2,h,hs,hs2,hq,hq2]
 by_cases z3:o.kind=3
 ·have h:=qx5 f hv v s o.table o.id;have e1:xoE p c o=delE p c o.table o.id:=by simp [xoE,z3]
  have e2:(if delE p c o.table o.id=0 then delC c o.table o.id else c)=xoC p c o:=by simp [xoC,e1,xoD,z3]
  have e3:xoI p c o=0:=by simp [xoI,z1]
  rw [e2,<- e1] at h;rw [e3,hR,hC] at*;simp only [Prg.e] at h;simp [c_207,Prg.e,Xc.ce2,z3,h,hs,hs2,hq,hq2]
 by_cases z4:o.kind=4
 ·have h:=qqk f hv v s o.table o.call ho.c.al ho.c.ar;have e1:xoE p c o=defE p o.table o.call:=by simp [xoE,z4]
  have e2:(if defE p o.table o.call=0 then defC c o.table o.call else c)=xoC p c o:=by simp [xoC,e1,xoD,z4]
  have e3:xoI p c o=0:=by simp [xoI,z1]
  rw [e2,<- e1] at h;rw [e3,hR,hC] at*;simp only [Prg.e,Xb.ce] at h;simp [c_207,Prg.e,Xc.ce2,z4,h,hs,hs2,hq,hq2]
 ·have e1:xoE p c o=11:=by simp [xoE,z1,z2,z3,z4]
  have e2:xoC p c o=c:=by simp [xoC,e1]
  have e3:xoI p c o=0:=by simp [xoI,z1]
  rw [e1,e2,e3,hC];simp [c_207,Prg.e,Xc.ce2,z1,z2,z3,z4,hq,hq2]
def cfgN (p:Prg) (c:Xf) (l:List Xc) (i:Nat):Xf:=xoF p c (l.take i)
def idN (p:Prg) (c:Xf) (l:List Xc) (i:Nat):Int:=match l[i]? with
 | some o=>xoI p (cfgN p c l i) o
 | none=>0
def badF (p:Prg):Xf->List Xc->Nat->Option (Nat×Int)
 | _,[],_=>none
 | c,o::l,i=>if xoE p c o=0 then badF p (xoC p c o) l (i+1) else some (i,xoE p c o)
theorem qh0 (p:Prg) (c:Xf) (l:List Xc):cfgN p c l 0=c:=by simp [cfgN,xoF]
theorem qhz (p:Prg) (c:Xf) (l:List Xc) {i:Nat} (h:i<l.length):cfgN p c l (i+1)=xoC p (cfgN p c l i) l[i]:=by
 simp only [cfgN,xoF,Qh h,List.foldl_append,List.foldl_cons,List.foldl_nil]
theorem qj5 {p:Prg} {c:Xf} (v:CfgV p c) (s:CfgT c) (hp:p.Xn.length<2^40) (l:List Xc) (hl:∀o∈l,OpS o):∀i,CfgV p (cfgN p c l i)/\CfgT (cfgN p c l i)
 | 0=>by rw [qh0];exact ⟨v,s⟩
 | i+1=>by
  have ih:=qj5 v s hp l hl i;by_cases h:i<l.length
  ·rw [qhz p c l h];exact ⟨qabm ih.1 _,xoC_t ih.1 ih.2 hp _ (hl _ (Qd h))⟩
  ·have:cfgN p c l (i+1)=cfgN p c l i:=by
    unfold cfgN;rw [Qo (by omega),Qo (by omega)]
   rw [this];exact ih
def qmx (p:Prg) (c:Xf) (l:List Xc) (i:Nat):List AV:=[.slice 4 ((List.range (i+1)).map fun j=>Xf.c (cfgN p c l j)),.slice 1 ((List.range i).map fun j=>cI (idN p c l j))]
def noH:List AV:=[.slice 4 [],.slice 1 []]
def qmy (p:Prg) (c:Xf) (l:List Xc) (i:Nat):List AV:=[.Xu 4 ((List.range (i+1)).map fun j=>Xf.c (cfgN p c l j)),.Xu 1 ((List.range i).map fun j=>cI (idN p c l j))]
def runA (p:Prg) (c:Xf) (l:List Xc):Rt:=
 if cfgE p c≠0 then .val (.tup [.agg noH,.int .i64 (-1),.int .i64 (cfgE p c)])
 else if 64<l.length then .val (.tup [.agg noH,.int .i64 (-1),.int .i64 12])
 else match badF p c l 0 with
  | some (k,e)=> .val (.tup [.agg noH,.int .i64 k,.int .i64 e])
  | none=> .val (.tup [.agg (qmx p c l l.length),.int .i64 0,.int .i64 0])
theorem qahn (p:Prg) (f:PrgS p) (hv:∀t∈p.Xn,∀v∈t.dflt.args,ok32 0 v) (hc:(pre p.control).length<2^40 - 1) (hp:p.Xn.length<2^40) {c:Xf} (s:CfgT c) (l:List Xc) (hll:l.length<2^40) (hl:∀o∈l,OpS o):
  qab Φ f_139 [.agg (Prg.c p),.agg (Xf.c c),.slice 9 (l.map Xc.c)]=some (runA p c l):=by
 rw [qaa (fn:=c_139) rfl rfl];have hk:=qac5 p f hv hc c s;obtain ⟨q0,q1,q2,q3,hC,hq,hq2⟩:=cfg4 c;by_cases z:cfgE p c=0
 case neg=>
  have hR:runA p c l= .val (.tup [.agg noH,.int .i64 (-1),.int .i64 (cfgE p c)]):=by simp [runA,z]
  rw [hR];rw [hC] at hk ⊢;simp only [Prg.e] at hk;simp [c_139,Prg.e,hk,hq,hq2,z,noH]
 have v:=(qgc p c).1 z;by_cases z2:64<l.length
 ·have hR:runA p c l= .val (.tup [.agg noH,.int .i64 (-1),.int .i64 12]):=by simp [runA,z,z2]
  rw [hR];rw [hC] at hk ⊢;have z3:(64:Int)<(l.length:Int):=by omega
  simp only [Prg.e] at hk;simp [c_139,Prg.e,hk,hq,hq2,z,z3,noH]
 generalize hR:runA p c l=R;have z3:¬(64:Int)<(l.length:Int):=by omega
 rw [hC] at hk ⊢;simp only [Prg.e] at hk;simp [c_139,Prg.e,hk,hq,hq2,z,z3];have h0:qmy p c l 0=[.Xu 4 [[q0,q1,q2,q3]],.Xu 1 []]:=by simp [qmy,qh0,hC]
 rw [<- h0];refine qcr l.length (fun i e h=>(∃n,2<=n/\((h=⟨[(0,.row 2 [[.Xu 4 [],.Xu 1 []]]),(1,.row 2 [qmy p c l i])],n⟩)\/∃A B,2<=A/\A<B/\B<n/\h=⟨[(0,.row 2 [[.Xu 4 [],.Xu 1 []]]),(1,.row 2 [[.app 4 ((List.range (i+1)).map fun j=>Xf.c (cfgN p c l j)) A,.app 1 ((List.range i).map fun j=>cI (idN p c l j)) B]]),(A,.tok 4 (i+1)),(B,.tok 1 i)],n⟩))/\badF p c l 0=badF p (cfgN p c l i) (l.drop i) i/\look 2 e=some (.slice 9 (l.map Xc.c))/\look 3 e=some (.iptr 9 [Prg.c p] 0 0)/\look 6 e=some (.ptr 0 2 0 0)/\look 10 e=some (.ptr 1 2 0 0)/\look 11 e=some (.int .i64 i)) (fun _=>some R) ?_ ?_ 0 _ _ (Qc _) ?_
 ·rintro i e h L hi hL ⟨⟨n,hn,hh⟩,hb,e2,e3,e6,e10,e11⟩ ih;obtain ⟨vi,si⟩:=qj5 v s hp l hl i;have hx:=qadc f hv vi si l[i] (hl _ (Qd hi));obtain ⟨r0,r1,r2,r3,hD,hr,hr2⟩:=cfg4 (cfgN p c l i);obtain ⟨s0,s1,s2,s3,hE,hs,hs2⟩:=cfg4 (xoC p (cfgN p c l i) l[i]);rw [hD,hE] at hx;have h1:(i:Int)<(i:Int)+1:=by omega
  have hw:=qaf i (by omega);have hm:(List.map (fun j=>Xf.c (cfgN p c l j)) (List.range (i+1)))[i]? =some [r0,r1,r2,r3]:=by simp [hD]
  have t0:∀k,¬(n+k=0):=fun k=>by omega
  have t1:∀k,¬(n+k=1):=fun k=>by omega
  have t2:¬n=0:=by omega
  have t3:¬n=1:=by omega
  have hb2:badF p (cfgN p c l i) (l.drop i) i=if xoE p (cfgN p c l i) l[i]=0 then badF p (xoC p (cfgN p c l i) l[i]) (l.drop (i+1)) (i+1) else some (i,xoE p (cfgN p c l i) l[i]):=by
   rw [Qi hi,badF]
  rw [hb2] at hb;generalize hml:List.map (fun j=>Xf.c (cfgN p c l j)) (List.range (i+1))=ml at hm;have hmi:i<ml.length:=by rw [<- hml];simp
  have hlen:ml.length=i+1:=by rw [<- hml];simp
  have h96:(i+1+1)*96<=70368744177664:=by omega
  have h8:(i+1)*8<=70368744177664:=by omega
  generalize hil:List.map (fun j=>cI (idN p c l j)) (List.range i)=il;have hill:il.length=i:=by rw [<- hil];simp
  have hm':ml[i]=[r0,r1,r2,r3]:=by rw [Qa hmi] at hm;exact Option.some.inj hm
  simp only [Prg.e,Xc.ce2] at hx;by_cases zi:xoE p (cfgN p c l i) l[i]=0
  ·rw [QAa zi,<- qhz p c l hi] at hb;rw [zi] at hx;have hr1:List.map (fun j=>Xf.c (cfgN p c l j)) (List.range (i+1+1))=ml++[[s0,s1,s2,s3]]:=by
    rw [List.range_succ,QAu,hml,QCv,qhz p c l hi,hE]
   have hr2':List.map (fun j=>cI (idN p c l j)) (List.range (i+1))=il++[[.int .i64 (xoI p (cfgN p c l i) l[i])]]:=by
    rw [List.range_succ,QAu,hil,QCv];simp [idN,hi,cI]
   rcases hh with rfl | ⟨A,B,hA,hAB,hBn,rfl⟩
   ·simp [c_139_l0,e2,e3,e10,e11,hi,qmy,hml,hil,hill,hlen,h1,hm',Prg.e,hx,hr,hr2,hs,hs2,Xc.ce2,t2,hw,h96,h8];refine ih _ _ ⟨⟨n+12+1+1+1,by omega,.inr ⟨n+12+1,n+12+1+1,by omega,by omega,by omega,by rw [hr1,hr2']⟩⟩,hb,?_⟩;simp [e2,e3,e6,e10]
   ·have g0:¬A=0:=by omega
    have g1:¬A=1:=by omega
    have g2:¬B=0:=by omega
    have g3:¬B=1:=by omega
    have g4:¬B=A:=by omega
    have g5:∀k,¬(n+k=A):=fun k=>by omega
    have g6:∀k,¬(n+k=B):=fun k=>by omega
    have g7:¬n=A:=by omega
    have g8:¬n=B:=by omega
    have i0:¬0=A:=by omega
    have i1:¬1=A:=by omega
    have i2:¬0=B:=by omega
    have i3:¬1=B:=by omega
    have i4:¬A=B:=by omega
    have g9:∀k,¬(A=n+k):=fun k=>by omega
    have g10:∀k,¬(B=n+k):=fun k=>by omega
    simp [c_139_l0,e2,e3,e10,e11,hi,hml,hil,hill,hlen,h1,hm',Prg.e,hx,hr,hr2,hs,hs2,Xc.ce2,t2,hw,h96,h8,g9,g10,i0,i1,i2,i3,i4];refine ih _ _ ⟨⟨n+12+1,by omega,.inr ⟨A,B,hA,hAB,by omega,by rw [hr1,hr2']⟩⟩,hb,?_⟩;simp [e2,e3,e6,e10]
  ·rw [QA zi] at hb;have hR':R= .val (.tup [.agg noH,.int .i64 i,.int .i64 (xoE p (cfgN p c l i) l[i])]):=by
    rw [<- hR];simp [runA,z,z2,hb]
   rw [hR'];rcases hh with rfl | ⟨A,B,hA,hAB,hBn,rfl⟩
   ·simp [c_139_l0,e2,e3,e6,e10,e11,hi,qmy,hml,hil,hlen,h1,hm',Prg.e,hx,hr,hr2,hs,hs2,Xc.ce2,zi,t2,noH]
   ·have g0:¬A=0:=by omega
    have g1:¬A=1:=by omega
    have g2:¬B=0:=by omega
    have g3:¬B=1:=by omega
    have g4:¬B=A:=by omega
    have g5:∀k,¬(n+k=A):=fun k=>by omega
    have g6:∀k,¬(n+k=B):=fun k=>by omega
    have g7:¬n=A:=by omega
    have g8:¬n=B:=by omega
    have i0:¬0=A:=by omega
    have i1:¬1=A:=by omega
    have i2:¬0=B:=by omega
    have i3:¬1=B:=by omega
    have i4:¬A=B:=by omega
    have g9:∀k,¬(A=n+k):=fun k=>by omega
    have g10:∀k,¬(B=n+k):=fun k=>by omega
    simp [c_139_l0,e2,e3,e6,e10,e11,hi,hml,hil,hlen,h1,hm',Prg.e,hx,hr,hr2,hs,hs2,Xc.ce2,zi,t2,noH,g9,g10]
 ·rintro e h L hL ⟨⟨n,hn,hh⟩,hb,e2,e3,e6,e10,e11⟩;have hR':R= .val (.tup [.agg (qmx p c l l.length),.int .i64 0,.int .i64 0]):=by
   rw [<- hR];simp [runA,z,z2,hb,badF]
  rw [hR'];rcases hh with rfl | ⟨A,B,hA,hAB,hBn,rfl⟩
  ·simp [c_139_l0,c_139_k1,e2,e6,e10,e11,hL,qmy,qmx]
  ·simp [c_139_l0,c_139_k1,e2,e6,e10,e11,hL,qmx]
 ·refine ⟨⟨2,Qb _,.inl rfl⟩,?_⟩;simp [qh0,Prg.e]
def noC:List AV:=[.slice 1 [],.slice 1 [],.slice 2 [],.slice 1 []]
def badA (p:Prg) (c:Xf) (l:List Xc):Option (Int×Int):=
 if cfgE p c≠0 then some (-1,cfgE p c) else if 64<l.length then some (-1,12) else (badF p c l 0).map fun x=>((x.1:Int),x.2)
def appA (p:Prg) (c:Xf) (l:List Xc):AV:=match badA p c l with
 | some (k,e)=> .tup [.agg noC,.slice 1 [],.int .i64 k,.int .i64 e]
 | none=> .tup [.agg (Xf.c (cfgN p c l l.length)),.slice 1 ((List.range l.length).map fun j=>cI (idN p c l j)),.int .i64 0,.int .i64 0]
theorem qads {p:Prg} {c:Xf} {l:List Xc} {k e:Int} (h:badA p c l=some (k,e)):runA p c l= .val (.tup [.agg noH,.int .i64 k,.int .i64 e]):=by
 unfold badA at h;unfold runA;by_cases z:cfgE p c=0
 case neg=>simp only [ne_eq,z,not_false_eq_true,if_true,Option.some.injEq,Prod.mk.injEq] at h ⊢;rw [<- h.1,<- h.2]
 by_cases z2:64<l.length
 ·simp only [ne_eq,z,not_true,if_false,z2,if_true,Option.some.injEq,Prod.mk.injEq] at h ⊢;rw [<- h.1,<- h.2]
 ·simp only [ne_eq,z,not_true,if_false,z2] at h ⊢;cases hb:badF p c l 0 with
  | none=>simp [hb] at h
  | some x=>simp only [hb,QBe,Option.some.injEq,Prod.mk.injEq] at h;obtain ⟨h1,h2⟩:=h;subst h1;subst h2;rfl
theorem qaa7 {p:Prg} {c:Xf} {l:List Xc} (h:badA p c l=none):runA p c l= .val (.tup [.agg (qmx p c l l.length),.int .i64 0,.int .i64 0]):=by
 unfold badA at h;unfold runA;by_cases z:cfgE p c=0
 case neg=>simp [z] at h
 by_cases z2:64<l.length
 ·simp [z,z2] at h
 ·simp only [ne_eq,z,not_true,if_false,z2] at h ⊢;cases hb:badF p c l 0 with
  | none=>rfl
  | some x=>simp [hb] at h
theorem qpy {p:Prg} {k:Nat} {e:Int}:∀{l:List Xc} {c:Xf} {i:Nat},badF p c l i=some (k,e)->e≠0
 | [],_,_,h=>by simp [badF] at h
 | o::l,c,i,h=>by
  unfold badF at h;by_cases z:xoE p c o=0
  ·rw [QAa z] at h;exact qpy h
  ·rw [QA z] at h;simp only [Option.some.injEq,Prod.mk.injEq] at h;rw [<- h.2];exact z
theorem qj3 {p:Prg} {c:Xf} {l:List Xc} {k e:Int} (h:badA p c l=some (k,e)):e≠0:=by
 unfold badA at h;by_cases z:cfgE p c=0
 case neg=>simp only [ne_eq,z,not_false_eq_true,if_true,Option.some.injEq,Prod.mk.injEq] at h;rw [<- h.2];exact z
 by_cases z2:64<l.length
 ·simp only [ne_eq,z,not_true,if_false,z2,if_true,Option.some.injEq,Prod.mk.injEq] at h;rw [<- h.2];decide
 ·simp only [ne_eq,z,not_true,if_false,z2] at h;cases hb:badF p c l 0 with
  | none=>simp [hb] at h
  | some x=>simp only [hb,QBe,Option.some.injEq,Prod.mk.injEq] at h;rw [<- h.2];exact qpy (k:=x.1) (e:=x.2) hb
theorem qaat (p:Prg) (f:PrgS p) (hv:∀t∈p.Xn,∀v∈t.dflt.args,ok32 0 v) (hc:(pre p.control).length<2^40 - 1) (hp:p.Xn.length<2^40) {c:Xf} (s:CfgT c) (l:List Xc) (hll:l.length<2^40) (hl:∀o∈l,OpS o):
  qab Φ f_67 [.agg (Prg.c p),.agg (Xf.c c),.slice 9 (l.map Xc.c)]=some (.val (appA p c l)):=by
 rw [qaa (fn:=c_67) rfl rfl];have hr:=qahn p f hv hc hp s l hll hl;obtain ⟨q0,q1,q2,q3,hC,hq,hq2⟩:=cfg4 c;cases hb:badA p c l with
 | some x=>
  obtain ⟨k,e⟩:=x;have he:=qj3 hb;rw [qads hb] at hr;rw [show appA p c l= .tup [.agg noC,.slice 1 [],.int .i64 k,.int .i64 e] by simp only [appA,hb]];rw [hC] at hr ⊢;simp only [Prg.e,noH] at hr;simp [c_67,Prg.e,hr,hq,hq2,he,noC]
 | none=>
  rw [qaa7 hb] at hr;rw [show appA p c l= .tup [.agg (Xf.c (cfgN p c l l.length)),.slice 1 ((List.range l.length).map fun j=>cI (idN p c l j)),.int .i64 0,.int .i64 0] by simp only [appA,hb]];obtain ⟨r0,r1,r2,r3,hD,hs,hs2⟩:=cfg4 (cfgN p c l l.length);rw [hC] at hr ⊢;rw [hD];have hm:(List.map (fun j=>Xf.c (cfgN p c l j)) (List.range (l.length+1)))[l.length]? =some [r0,r1,r2,r3]:=by simp [hD]
  simp only [qmx] at hr;generalize hml:List.map (fun j=>Xf.c (cfgN p c l j)) (List.range (l.length+1))=ml at hm hr;have hmi:l.length<ml.length:=by rw [<- hml];simp
  have hm':ml[l.length]=[r0,r1,r2,r3]:=by rw [Qa hmi] at hm;exact Option.some.inj hm
  simp only [Prg.e] at hr;simp [c_67,Prg.e,hr,hq,hq2,hmi,hm',hs]
end Go.Av
