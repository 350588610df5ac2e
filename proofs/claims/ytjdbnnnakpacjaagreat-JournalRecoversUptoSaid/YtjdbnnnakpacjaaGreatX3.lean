/-
 txn.Commit: the loop.
-/
import Derived.Test.YtjdbnnnakpacjaaGreatH15
set_option linter.unusedVariables false
set_option linter.unusedSimpArgs false
set_option linter.constructorNameAsVariable false
namespace Go.Av
set_option maxRecDepth 4000
theorem qagr {O:List (Nat×AO)} {N:Nat} {S:SV} {p:Prg} {c:Xf} (m:StoreM O S p c) (hl:c.rows.length=p.Xn.length) (hT:Tail O N):
  qah Φ f_90 [.ptr S.s 15 0 0,.int .i64 (-1),.int .i64 0,.agg [.int .i64 0,.Xu 1 []]] ⟨O,N⟩=some (.val (.int .i64 8),⟨O++[(N,.row 2 [[.int .i64 0,.Xu 1 []]])],N+1⟩):=by
 rw [qau (fn:=c_90) rfl rfl];have t0:=hT N (Qb _);have m1:StoreM (O++[(N,.row 2 [[.int .i64 0,.Xu 1 []]])]) S p c:=m.kp (X:=fun _=>False) hT (Kp.app (fun _ _ _=>rfl) (Qb _)) (by simp);have hr:=qu1 (N:=N+1) m1 hl (-1) 0;have hE:rowX p c (-1) 0=8:=by simp [rowX,inT]
 rw [hE] at hr;simp [c_90,t0,hr]
structure CmF (O:List (Nat×AO)) (M:Nat) (S:SV) (l:List Xc) (b2 b6 w T:Nat):Prop where
 fb2:look b2 O=some (.row 1 [[.ptr S.s 15 0 0]])
 fb6:look b6 O=some (.row 1 [[.int .i64 0]])
 fw:look w O=some (.row 9 (l.map Xc.c))
 ft:look T O=some (.tok 1 0)
 n2:¬S.own b2
 n6:¬S.own b6
 nw:¬S.own w
 nt:¬S.own T
 tl:Tail O M
structure CmI (O0:List (Nat×AO)) (M:Nat) (S:SV) (p:Prg) (c:Xf) (l:List Xc) (b2 b6 w T:Nat) (i:Nat) (e:Env) (O:List (Nat×AO)) (N:Nat):Prop where
 tl:Tail O N
 hM:M<=N
 st:∃S',StoreM O S' p (cfgN p c l i)/\S'.s=S.s/\∀j,S'.own j->S.own j\/M<=j
 kp:Kp (fun j=>S.own j\/Rs O0 j\/j=T\/j=b6) M O0 O
 tk:look T O=some (.tok 1 i)
 k6:look b6 O=some (.row 1 [[.int .i64 0]])
 bad:badF p c l 0=badF p (cfgN p c l i) (l.drop i) i
 e2:look 2 e=some (.ptr b2 1 0 0)
 e6:look 6 e=some (.ptr b6 1 0 0)
 e7:look 34 e=some (.row w 9 0 l.length)
 e35:look 35 e=some (.int .i64 l.length)
 e36:look 36 e=some (.int .i64 i)
 e9:look 9 e=some (.app 1 ((List.range i).map fun j=>cI (idN p c l j)) T)
def CmQ (O0:List (Nat×AO)) (M:Nat) (S:SV) (p:Prg) (c:Xf) (l:List Xc) (b6 T:Nat) (r:Option (Ex×St)):Prop:=
 ∃e' S' O' N',r=some (.ret,⟨e',⟨O',N'⟩⟩)/\Tail O' N'/\M<=N'/\S'.s=S.s/\(∀j,S'.own j->S.own j\/M<=j)/\Kp (fun j=>S.own j\/Rs O0 j\/j=T\/j=b6) M O0 O'/\look 6 e'=some (.ptr b6 1 0 0)/\
  match badF p c l 0 with
  | some (k,x)=>look 4 e'=some (.Xu 1 [])/\look 5 e'=some (.int .i64 k)/\look b6 O'=some (.row 1 [[.int .i64 x]])/\∃d,StoreM O' S' p d
  | none=>look 4 e'=some (.app 1 ((List.range l.length).map fun j=>cI (idN p c l j)) T)/\look T O'=some (.tok 1 l.length)/\look 5 e'=some (.int .i64 0)/\look b6 O'=some (.row 1 [[.int .i64 0]])/\StoreM O' S' p (cfgN p c l l.length)
theorem qaje (p:Prg) (f:PrgS p) (hp:p.Xn.length<2^40) {c:Xf} (v:CfgV p c) (s:CfgT c) (l:List Xc) (hl64:l.length<=64) (hl:∀o∈l,OpS o) {O0:List (Nat×AO)} {M:Nat} {S:SV} {b2 b6 w T:Nat} (F:CmF O0 M S l b2 b6 w T)
  (e:Env) (O:List (Nat×AO)) (N:Nat) (h0:CmI O0 M S p c l b2 b6 w T 0 e O N):
  CmQ O0 M S p c l b6 T (go Φ (fun o=>o) [.c (.loop c_42_l0),.b 0,.c c_42_k1] .normal ⟨e,⟨O,N⟩⟩):=by
 refine qhv l.length (fun i e h=>∃O N,h=⟨O,N⟩/\CmI O0 M S p c l b2 b6 w T i e O N) _ ?_ ?_ 0 e _ (Qc _) ⟨O,N,rfl,h0⟩
 ·rintro i e _ L hi hL ⟨O,N,rfl,I⟩ ih;obtain ⟨S1,m1,es,ho⟩:=I.st;obtain ⟨vi,si⟩:=qmx v s hp l hl i;have t0:=I.tl N (Qb _);have hnx:∀j x,look j O0=some x->x≠ .res->x≠ .tok 1 0->x≠ .row 1 [[.int .i64 0]]->¬S.own j->look j O=some x:=by
   intro j x hx h1 h2 h3 hn;refine I.kp.lk F.tl hx ?_;rintro (h | h | h | h)
   ·exact hn h
   ·have h:look j O0=some .res:=h;rw [hx] at h;exact h1 (Option.some.inj h)
   ·subst h;rw [F.ft] at hx;exact h2 (Option.some.inj hx).symm
   ·subst h;rw [F.fb6] at hx;exact h3 (Option.some.inj hx).symm
  have bw:=hnx w _ F.fw (by simp) (by simp) (by simp) F.nw;have bb:=hnx b2 _ F.fb2 (by simp) (by simp) (by simp) F.n2;have hk1:Kp (fun _=>False) N O (O++[(N,AO.row 9 [Xc.c l[i]])]):=Kp.app (fun _ _ _=>rfl) (Qb _);have m1':StoreM (O++[(N,AO.row 9 [Xc.c l[i]])]) S1 p (cfgN p c l i):=m1.kp (X:=fun _=>False) I.tl (Kp.app (fun _ _ _=>rfl) (Qb _)) (by simp);obtain ⟨S2,O2,N2,e2,x1,x2,x3,x4,x5,x6⟩:=qyd m1' f vi si (I.tl.app1 (o:=AO.row 9 [Xc.c l[i]]) (Qb N)) l[i] (hl _ (Qd hi));have hw:=qal i (by omega);rw [es] at e2 x2;have hM:=I.hM;have ho2:∀j,S2.own j->S.own j\/M<=j:=fun j hj=>by
   rcases x3 j hj with h | h
   ·exact ho j h
   ·exact .inr (by omega)
  have hkp:Kp (fun j=>S.own j\/Rs O0 j\/j=T\/j=b6) M O0 O2:=by
   intro j hj hx;have h0:look j O=look j O0:=I.kp j hj hx;rw [x4 j (by omega),hk1 j (by omega) (by simp),h0];rintro (h | h)
   ·rcases ho j h with h | h
    ·exact hx (.inl h)
    ·omega
   ·have h':look j (O++[(N,AO.row 9 [Xc.c l[i]])])=look j O:=hk1 j (by omega) (by simp);exact hx (.inr (.inl (by show look j O0=_;rw [<- h0,<- h'];exact h)))
  have kpj:∀j x,look j O=some x->x≠ .res->j<M->¬S.own j->look j O2=some x:=by
   intro j x hx hr hj hn;rw [x4 j (by omega),hk1 j (by omega) (by simp),hx];rintro (h | h)
   ·rcases ho j h with h | h
    ·exact hn h
    ·omega
   ·have h':look j (O++[(N,AO.row 9 [Xc.c l[i]])])=look j O:=hk1 j (by omega) (by simp);have:look j (O++[(N,AO.row 9 [Xc.c l[i]])])=some .res:=h;rw [h',hx] at this;exact hr (Option.some.inj this)
  have tM:=F.tl.lt F.ft;have wt:=kpj T _ I.tk (by simp) tM F.nt;have h6:look b6 O2=some (.row 1 [[.int .i64 0]]):=kpj b6 _ I.k6 (by simp) (F.tl.lt F.fb6) F.n6;have hfr:∀t y,t<M->¬S.own t->StoreM (setl t y O2) S2 p (xoC p (cfgN p c l i) l[i]):=fun t y ht hn=>x1.fr fun j hj=>by
   rw [qab,QA];rintro rfl;rcases ho2 _ hj with h | h
   ·exact hn h
   ·omega
  have hb2:badF p (cfgN p c l i) (l.drop i) i=if xoE p (cfgN p c l i) l[i]=0 then badF p (xoC p (cfgN p c l i) l[i]) (l.drop (i+1)) (i+1) else some (i,xoE p (cfgN p c l i) l[i]):=by
   rw [Qi hi,badF]
  have hb:=I.bad;rw [hb2] at hb;simp only [Xc.ce2] at e2;by_cases zi:xoE p (cfgN p c l i) l[i]=0
  ·rw [QAa zi,<- qlz p c l hi] at hb;rw [zi] at e2;have hr2':List.map (fun j=>cI (idN p c l j)) (List.range (i+1))=List.map (fun j=>cI (idN p c l j)) (List.range i)++[[.int .i64 (xoI p (cfgN p c l i) l[i])]]:=by
    rw [List.range_succ,QBb,List.map_singleton];simp [idN,hi,cI]
   generalize hil:List.map (fun j=>cI (idN p c l j)) (List.range i)=il at hr2';have hill:il.length=i:=by rw [<- hil];simp
   have e9:=I.e9;rw [hil] at e9;have h8:(i+1)*8<=70368744177664:=by omega
   simp [c_42_l0,I.e2,I.e7,I.e35,I.e36,e9,hi,bw,bb,t0,qag,Xc.ce2,e2,wt,hill,h8,hw];have hbT:¬b6=T:=by
    intro h;have h1:=F.fb6;rw [h,F.ft] at h1;cases h1
   have hcs:cfgN p c l (i+1)=xoC p (cfgN p c l i) l[i]:=qlz p c l hi;refine ih _ _ ⟨_,_,rfl,⟨qai x5,by omega,⟨S2,?_,x2,ho2⟩,?_,?_,?_,hb,?_,?_,?_,?_,?_,?_⟩⟩
   ·rw [hcs];exact hfr T _ tM F.nt
   ·exact hkp.setl (.inr (.inr (.inr (.inl rfl))))
   ·simp [qab,wt]
   ·rw [qab,QA hbT];exact h6
   ·simp [I.e2]
   ·simp [I.e6]
   ·simp [I.e7]
   ·simp [I.e35]
   ·simp
   ·simp [hr2']
  ·rw [QA zi] at hb;simp [c_42_l0,I.e2,I.e6,I.e7,I.e35,I.e36,hi,bw,bb,t0,qag,Xc.ce2,e2,zi,h6];refine ⟨_,S2,_,_,rfl,qai x5,by omega,x2,ho2,hkp.setl (.inr (.inr (.inr (.inr rfl)))),by simp [I.e6],?_⟩;rw [hb];exact ⟨by simp,by simp,by simp [qab,h6],_,hfr b6 _ (F.tl.lt F.fb6) F.n6⟩
 ·rintro e _ L hL ⟨O,N,rfl,I⟩;obtain ⟨S1,m1,es,ho⟩:=I.st;have hb:=I.bad;rw [QCs,badF] at hb;have k6:=I.k6;simp [c_42_l0,c_42_k1,I.e6,I.e35,I.e36,I.e9,hL,k6];have hbT:¬T=b6:=by
   intro h;have h1:=F.fb6;rw [<- h,F.ft] at h1;cases h1
  have hM:=I.hM;refine ⟨_,S1,_,_,rfl,qai I.tl,I.hM,es,ho,I.kp.setl (.inr (.inr (.inr (.inr rfl)))),by simp [I.e6],?_⟩;rw [hb];refine ⟨by simp,by rw [qab,QA hbT];exact I.tk,by simp,by simp [qab,k6],m1.fr fun j hj=>?_⟩;rw [qab,QA];rintro rfl;rcases ho _ hj with h | h
  ·exact F.n6 h
  ·have:=F.tl.lt F.fb6;omega
def cmA1:Xv:=match c_42.code with | .seq a _=>a | _=> .skip
def cmA2:Xv:=match c_42.code with | .seq _ (.seq a _)=>a | _=> .skip
def cmA3:Xv:=match c_42.code with | .seq _ (.seq _ (.seq a _))=>a | _=> .skip
def cmA4:Xv:=match c_42.code with | .seq _ (.seq _ (.seq _ (.seq a _)))=>a | _=> .skip
def cmB:Xv:=match c_42.code with | .seq _ (.seq _ (.seq _ (.seq _ (.dfr _ _ b))))=>b | _=> .skip
def cmO:List Xw:=[⟨some 27,none,.mkfunc (.func f_91) [] [.t 6,.t 7,.t 2]⟩]
theorem qafh:c_42.code= .seq cmA1 (.seq cmA2 (.seq cmA3 (.seq cmA4 (.dfr cmO 27 cmB)))):=rfl
theorem cm1 {O:List (Nat×AO)} {N s:Nat} (hT:Tail O N) (w:AV):∃e,qa6 Φ cmA1 ⟨qbw 0 [.ptr s 15 0 0,w],⟨O,N⟩⟩=some (.normal,⟨e,⟨O++[(N,.row 1 [[.ptr s 15 0 0]])]++[(N+1,.row 1 [[.int .i64 0]])],N+2⟩⟩)/\look 1 e=some w/\look 2 e=some (.ptr N 1 0 0)/\look 6 e=some (.ptr (N+1) 1 0 0):=by
 have t0:=hT N (Qb _);have t1:=hT (N+1) (by omega);rw [qb4];simp [cmA1,c_42,t0,t1]
theorem cm2 {O:List (Nat×AO)} {N N' s b:Nat} {O':List (Nat×AO)} {e:Env} {s2:Nat} (hT':Tail O' N') (h:qah Φ f_89 [.ptr s 15 0 0] ⟨O,N⟩=some (.val (.ptr s2 15 0 0),⟨O',N'⟩)) (h2:look 2 e=some (.ptr b 1 0 0)) (hb:look b O=some (.row 1 [[.ptr s 15 0 0]])) {w x6:AV} (h1:look 1 e=some w) (h6:look 6 e=some x6):
  ∃e',qa6 Φ cmA2 ⟨e,⟨O,N⟩⟩=some (.normal,⟨e',⟨O'++[(N',.row 1 [[.ptr s2 15 0 0]])],N'+1⟩⟩)/\look 1 e'=some w/\look 2 e'=some (.ptr b 1 0 0)/\look 6 e'=some x6/\look 7 e'=some (.ptr N' 1 0 0):=by
 have t0:=hT' N' (Qb _);rw [qb4];simp [cmA2,c_42,t0,h,h2,hb,h1,h6]
theorem cm3 {O:List (Nat×AO)} {N b b7:Nat} {S:SV} {p:Prg} {c:Xf} {s2:Nat} (m:StoreM O S p c) (hl:c.rows.length=p.Xn.length) (hT:Tail O N) {e:Env} (h2:look 2 e=some (.ptr b 1 0 0)) (h7:look 7 e=some (.ptr b7 1 0 0)) (hb:look b O=some (.row 1 [[.ptr S.s 15 0 0]])) (hb7:look b7 O=some (.row 1 [[.ptr s2 15 0 0]])) {w x6:AV} (h1:look 1 e=some w) (h6:look 6 e=some x6):
  ∃e',qa6 Φ cmA3 ⟨e,⟨O,N⟩⟩=some (.normal,⟨e',⟨O++[(N,.row 2 [[.int .i64 0,.Xu 1 []]])],N+1⟩⟩)/\look 1 e'=some w/\look 2 e'=some (.ptr b 1 0 0)/\look 6 e'=some x6/\look 7 e'=some (.ptr b7 1 0 0):=by
 have t0:=hT N (Qb _);have hm:=qagr m hl hT;rw [qb4];simp [cmA3,c_42,qag,hm,h2,h7,hb,hb7,h1,h6]
theorem cm4 {O:List (Nat×AO)} {N:Nat} {l:List Xc} {e:Env} (h1:look 1 e=some (.slice 9 (l.map Xc.c))) {x6 x2 x7:AV} (h2:look 2 e=some x2) (h6:look 6 e=some x6) (h7:look 7 e=some x7) (hl:¬64<l.length):
  ∃e',qa6 Φ cmA4 ⟨e,⟨O,N⟩⟩=some (.normal,⟨e',⟨O,N⟩⟩)/\look 1 e'=some (.slice 9 (l.map Xc.c))/\look 2 e'=some x2/\look 6 e'=some x6/\look 7 e'=some x7:=by
 have hl':¬(64:Int)<(l.length:Int):=by omega
 rw [qb4];simp [cmA4,c_42,h1,h2,h6,h7,hl']
theorem cm4b {O:List (Nat×AO)} {N b6:Nat} {l:List Xc} {e:Env} (h1:look 1 e=some (.slice 9 (l.map Xc.c))) (h6:look 6 e=some (.ptr b6 1 0 0)) (hb6:look b6 O=some (.row 1 [[.int .i64 0]])) (hl:64<l.length):
  ∃e',qa6 Φ cmA4 ⟨e,⟨O,N⟩⟩=some (.ret,⟨e',⟨setl b6 (.row 1 [[.int .i64 12]]) O,N⟩⟩)/\look 4 e'=some (.Xu 1 [])/\look 5 e'=some (.int .i64 (-1))/\look 6 e'=some (.ptr b6 1 0 0):=by
 have hl':(64:Int)<(l.length:Int):=by omega
 rw [qb4];simp [cmA4,c_42,h1,h6,hl',hb6]
theorem qajc {O:List (Nat×AO)} {N b6:Nat} {a7 a2:AV} (hb6:look b6 O=some (.row 1 [[.int .i64 0]])):cloI Φ c_42 .niliface [.ptr b6 1 0 0,a7,a2] ⟨O,N⟩=some ⟨O,N⟩:=by
 unfold cloI;rw [qb4];simp [c_42,recE,hb6]
theorem qajd {O:List (Nat×AO)} {N b6 b7 b2 s s2:Nat} {x:Int} {cs cs0:List AV} (hx:x≠0) (hb6:look b6 O=some (.row 1 [[.int .i64 x]])) (hb7:look b7 O=some (.row 1 [[.ptr s2 15 0 0]])) (hb2:look b2 O=some (.row 1 [[.ptr s 15 0 0]])) (hs2:look s2 O=some (.row 15 [cs])) (hs:look s O=some (.row 15 [cs0])) (hc:cs.length=15) (hc0:cs0.length=15):
  cloI Φ c_42 .niliface [.ptr b6 1 0 0,.ptr b7 1 0 0,.ptr b2 1 0 0] ⟨O,N⟩=some ⟨setl s (.row 15 [cs]) O,N⟩:=by
 unfold cloI;rw [qb4];have t:cs.take 15=cs:=Qo (by omega);have t2:cs0.drop 15=[]:=List.drop_eq_nil_of_le (by omega);simp [c_42,recE,hb6,hx,hb7,hb2,hs2,hs,hc,hc0,t,t2]
theorem cm5 (p:Prg) (f:PrgS p) (hp:p.Xn.length<2^40) {c:Xf} (v:CfgV p c) (s:CfgT c) (l:List Xc) (hl64:l.length<=64) (hl:∀o∈l,OpS o) {O:List (Nat×AO)} {N:Nat} {S:SV} {b2 b6:Nat} {e:Env} (hT:Tail O N) (m:StoreM O S p c) (h1:look 1 e=some (.slice 9 (l.map Xc.c))) (h2:look 2 e=some (.ptr b2 1 0 0)) (h6:look 6 e=some (.ptr b6 1 0 0)) (hb2:look b2 O=some (.row 1 [[.ptr S.s 15 0 0]])) (hb6:look b6 O=some (.row 1 [[.int .i64 0]])) (n2:¬S.own b2) (n6:¬S.own b6):
  CmQ (O++[(N,.row 9 (l.map Xc.c))]++[(N+1,.tok 1 0)]) (N+2) S p c l b6 (N+1) (qa6 Φ cmB ⟨e,⟨O,N⟩⟩):=by
 have t0:=hT N (Qb _);have t1:=hT (N+1) (by omega);rw [qb4];have k1:l.length<4611686018427387904/\(l.length:Int)*120<=140737488355328:=by omega
 simp [cmB,c_42,h1,t0,t1,k1];have own:∀j,S.own j->j<N:=fun j hj=>by
  obtain ⟨x,hx,_⟩:=m.own_lk hj;exact hT.lt hx
 have hT1:Tail (O++[(N,AO.row 9 (List.map Xc.c l)),(N+1,AO.tok 1 0)]) (N+2):=by
  have:=(hT.app1 (o:=AO.row 9 (List.map Xc.c l)) (Qb N)).app1 (o:=AO.tok 1 0) (Qb (N+1));simpa using this
 have m1:StoreM (O++[(N,AO.row 9 (List.map Xc.c l)),(N+1,AO.tok 1 0)]) S p c:=m.kp (X:=fun _=>False) hT (Kp.appL (fun _ _ _=>rfl) (by intro q hq;simp at hq;rcases hq with rfl | rfl<;>simp)) (by simp);refine qaje p f hp v s l hl64 hl (b2:=b2) (w:=N) ⟨by simp [qag,hb2],by simp [qag,hb6],by simp [t0],by simp [t1],n2,n6,fun h=>by have:=own _ h;omega,fun h=>by have:=own _ h;omega,hT1⟩ _ _ _ ?_;refine ⟨hT1,Qb _,⟨S,by rw [ql0];exact m1,rfl,fun j hj=> .inl hj⟩,Kp.refl,by simp [t1],by simp [qag,hb6],by simp [ql0],?_,?_,?_,?_,?_,?_⟩<;>simp [h2,h6]
def idsA (p:Prg) (c:Xf) (l:List Xc):List (List AV):=(List.range l.length).map fun j=>cI (idN p c l j)
def qai0 (N:Nat) (O:List (Nat×AO)) (S:SV) (p:Prg) (c:Xf) (l:List Xc) (r:Option (Rt×AH)):Prop:=
 ∃S' O' N',S'.s=S.s/\(∀j,S'.own j->S.own j\/N<=j)/\Kp (fun j=>S.own j\/Rs O j) N O O'/\Tail O' N'/\N<=N'/\
  match badA p c l with
  | some (k,x)=>r=some (.val (.tup [.Xu 1 [],.int .i64 k,.int .i64 x]),⟨O',N'⟩)/\StoreM O' S' p c
  | none=>∃T,r=some (.val (.tup [.app 1 (idsA p c l) T,.int .i64 0,.int .i64 0]),⟨O',N'⟩)/\StoreM O' S' p (cfgN p c l l.length)/\look T O'=some (.tok 1 l.length)/\N<=T/\¬S'.own T
theorem qzp (p:Prg) (op:p.Ok qaz) (hp:p.Xn.length<2^40) {c:Xf} (v:CfgV p c) (s:CfgT c) (l:List Xc) (hl:∀o∈l,OpS o) {O:List (Nat×AO)} {N:Nat} {S:SV} (hT:Tail O N) (m:StoreM O S p c):
  qai0 N O S p c l (qah Φ f_42 [.ptr S.s 15 0 0,.slice 9 (l.map Xc.c)] ⟨O,N⟩):=by
 have f:=qfh op;have own:∀j,S.own j->j<N:=fun j hj=>by
  obtain ⟨x,hx,_⟩:=m.own_lk hj;exact hT.lt hx
 rw [qlx Φ (d:=c_42) rfl rfl,qafh];obtain ⟨e1,a1,g1,g2,g6⟩:=cm1 (s:=S.s) hT (.slice 9 (l.map Xc.c));have t0:=hT N (Qb _);have t1:=hT (N+1) (by omega);have hT1:Tail (O++[(N,.row 1 [[.ptr S.s 15 0 0]])]++[(N+1,.row 1 [[.int .i64 0]])]) (N+2):=(hT.app1 (Qb N)).app1 (Qb (N+1));have hk1:Kp (fun _=>False) N O (O++[(N,.row 1 [[.ptr S.s 15 0 0]])]++[(N+1,.row 1 [[.int .i64 0]])]):=(Kp.app Kp.refl (Qb _)).app (QBh _);have m1:=m.kp hT hk1 (by simp);have q2:look N (O++[(N,.row 1 [[.ptr S.s 15 0 0]])]++[(N+1,.row 1 [[.int .i64 0]])])=some (.row 1 [[.ptr S.s 15 0 0]]):=by simp [t0]
 have q6:look (N+1) (O++[(N,.row 1 [[.ptr S.s 15 0 0]])]++[(N+1,.row 1 [[.int .i64 0]])])=some (.row 1 [[.int .i64 0]]):=by simp [t1]
 have rs1:∀j,j<N->Rs (O++[(N,.row 1 [[.ptr S.s 15 0 0]])]++[(N+1,.row 1 [[.int .i64 0]])]) j->Rs O j:=fun j hj h=>by
  have:=hk1 j hj (by simp);show look j O=_;rw [<- this];exact h
 generalize O++[(N,.row 1 [[.ptr S.s 15 0 0]])]++[(N+1,.row 1 [[.int .i64 0]])]=H1 at*;obtain ⟨S2,O2,N2,a2,m2,w2,k2,hT2,n2⟩:=qacd op m1 v s hT1;obtain ⟨e2,a2',h1,h2,h6,h7⟩:=cm2 hT2 a2 g2 q2 g1 g6;have t2:=hT2 N2 (Qb _);have hk3:Kp (Rs H1) (N+2) H1 (O2++[(N2,.row 1 [[.ptr S2.s 15 0 0]])]):=k2.app (by omega);have hT3:Tail (O2++[(N2,.row 1 [[.ptr S2.s 15 0 0]])]) (N2+1):=hT2.app1 (Qb N2);have m3:=m1.kp hT1 hk3 fun j hj hr=>by
  obtain ⟨x,hx,hne⟩:=m1.own_lk hj;have hr:look j H1=some .res:=hr;rw [hx] at hr;exact hne (Option.some.inj hr)
 have m23:=m2.kp (X:=fun _=>False) hT2 (Kp.app Kp.refl (Qb N2) (o:= .row 1 [[.ptr S2.s 15 0 0]])) (by simp);have q7:look N2 (O2++[(N2,.row 1 [[.ptr S2.s 15 0 0]])])=some (.row 1 [[.ptr S2.s 15 0 0]]):=by simp [t2]
 have r2:=hk3.lk hT1 q2 (by intro h;have h:look N H1=some .res:=h;rw [q2] at h;cases h);have r6:=hk3.lk hT1 q6 (by intro h;have h:look (N+1) H1=some .res:=h;rw [q6] at h;cases h);have own2:∀j,S2.own j->j<N2:=fun j hj=>by
  obtain ⟨x,hx,_⟩:=m2.own_lk hj;exact hT2.lt hx
 generalize O2++[(N2,.row 1 [[.ptr S2.s 15 0 0]])]=H3 at*;obtain ⟨e3,a3,h1,h2,h6,h7⟩:=cm3 m3 v.rl hT3 h2 h7 r2 q7 h1 h6;have hk4:Kp (fun _=>False) (N2+1) H3 (H3++[(N2+1,.row 2 [[.int .i64 0,.Xu 1 []]])]):=Kp.app Kp.refl (Qb _);have hT4:Tail (H3++[(N2+1,.row 2 [[.int .i64 0,.Xu 1 []]])]) (N2+2):=hT3.app1 (Qb _);have m4:=m3.kp hT3 hk4 (by simp);have m24:=m23.kp hT3 hk4 (by simp);have q7:=hk4.lk hT3 q7 (by simp);have r2:=hk4.lk hT3 r2 (by simp);have r6:=hk4.lk hT3 r6 (by simp);have hkO:Kp (Rs O) N O (H3++[(N2+1,.row 2 [[.int .i64 0,.Xu 1 []]])]):=by
  intro j hj hx;rw [hk4 j (by omega) (by simp),hk3 j (by omega) (fun h=>hx (rs1 j hj h)),hk1 j hj (by simp)]
 generalize H3++[(N2+1,.row 2 [[.int .i64 0,.Xu 1 []]])]=H4 at*;by_cases z:64<l.length
 ·obtain ⟨e4,a4,i4,i5,i6⟩:=cm4b (N:=N2+2) h1 h6 r6 z;have hb:badA p c l=some (-1,12):=by simp [badA,(qf7 p c).2 v,z]
  simp only [qdv,a1,a2',a3,a4];refine ⟨S,setl (N+1) (.row 1 [[.int .i64 12]]) H4,N2+2,rfl,fun j hj=> .inl hj,(hkO.mono fun j _ h=> .inr h).setl (.inl (QBh N)),qai hT4,by omega,?_⟩;rw [hb];refine ⟨?_,m4.fr fun j hj=>?_⟩
  ·simp [qej,c_42,i4,i5,i6,qab,r6]
  ·have:=own j hj;rw [qab,QA (by omega)]
 ·obtain ⟨e4,a4,h1,h2,h6,h7⟩:=cm4 (O:=H4) (N:=N2+2) h1 h2 h6 h7 z;have a5:qaq (qah Φ) none cmO ⟨e4,⟨H4,N2+2⟩⟩=some (.normal,⟨(27,.func (.func f_91) [] [.ptr (N+1) 1 0 0,.ptr N2 1 0 0,.ptr N 1 0 0])::e4,⟨H4,N2+2⟩⟩):=by
   simp [cmO,qaq,qbh,h2,h6,h7]
  have B:=cm5 p f hp v s l (by omega) hl (e:=(27,.func (.func f_91) [] [.ptr (N+1) 1 0 0,.ptr N2 1 0 0,.ptr N 1 0 0])::e4) (b2:=N) (b6:=N+1) hT4 m4 (by simp [h1]) (by simp [h2]) (by simp [h6]) r2 r6 (fun h=>by have:=own _ h;omega) (fun h=>by have:=own _ h;omega);have hk5:Kp (fun _=>False) (N2+2) H4 (H4++[(N2+2,.row 9 (l.map Xc.c))]++[(N2+2+1,.tok 1 0)]):=(Kp.app Kp.refl (Qb _)).app (QBh _);have m25:=m24.kp hT4 hk5 (by simp);have q75:=hk5.lk hT4 q7 (by simp);have r25:=hk5.lk hT4 r2 (by simp);have hT5:Tail (H4++[(N2+2,.row 9 (l.map Xc.c))]++[(N2+2+1,.tok 1 0)]) (N2+4):=(hT4.app1 (Qb _)).app1 (Qb _);have hkO5:Kp (Rs O) N O (H4++[(N2+2,.row 9 (l.map Xc.c))]++[(N2+2+1,.tok 1 0)]):=by
   intro j hj hx;rw [hk5 j (by omega) (by simp),hkO j hj hx]
  generalize H4++[(N2+2,.row 9 (l.map Xc.c))]++[(N2+2+1,.tok 1 0)]=H5 at*;obtain ⟨e',S',O',N',hr,hT',hN',es,ho,hk,h6',hm⟩:=B;simp only [qdv,a1,a2',a3,a4,a5];rw [hr];have hcl:(look 27 ((27,AV.func (.func f_91) [] [.ptr (N+1) 1 0 0,.ptr N2 1 0 0,.ptr N 1 0 0])::e4)).bind tgt=some (f_91,[.ptr (N+1) 1 0 0,.ptr N2 1 0 0,.ptr N 1 0 0]):=by simp
  rw [hcl];simp only [show c_42.clo=f_91 from rfl,show c_42.ncaps=3 from rfl,QAn,QAq,and_self,if_true,qhh];have hbA:badA p c l=(badF p c l 0).map fun x=>((x.1:Int),x.2):=by simp [badA,(qf7 p c).2 v,z]
  have hkN:Kp (fun j=>S.own j\/Rs O j) N O O':=by
   intro j hj hx;rw [hk j (by omega) ?_,hkO5 j hj fun h=>hx (.inr h)];rintro (h | h | h | h)
   ·exact hx (.inl h)
   ·have h:look j H5=some .res:=h;rw [hkO5 j hj fun h=>hx (.inr h)] at h;exact hx (.inr h)
   ·omega
   ·omega
  cases hb:badF p c l 0 with
  | some x=>
   obtain ⟨k,x⟩:=x;rw [hb] at hm hbA;obtain ⟨j4,j5,j6,d,md⟩:=hm;have hx:=qqc hb;have kp2:∀j y,look j H5=some y->y≠ .res->N+1<j->j<N2+3->look j O'=some y:=fun j y hy hr h1 h2=>by
    refine hk.lk hT5 hy ?_;rintro (h | h | h | h)
    ·have:=own j h;omega
    ·have h:look j H5=some .res:=h;rw [hy] at h;exact hr (Option.some.inj h)
    ·omega
    ·omega
   have y7:=kp2 N2 _ q75 (by simp) (by omega) (by omega);have y2:look N O'=some (.row 1 [[.ptr S.s 15 0 0]]):=hk.lk hT5 r25 (by
    rintro (h | h | h | h)
    ·have:=own _ h;omega
    ·have h:look N H5=some .res:=h;rw [r25] at h;cases h
    ·omega
    ·omega)
   have m26:StoreM O' S2 p c:=m25.fr fun j hj=>by
    obtain ⟨y,hy,hne⟩:=m25.own_lk hj;have:=w2 j hj;have:=own2 j hj;rw [kp2 j y hy hne (by omega) (by omega),hy]
   have ys:=md.s;rw [es] at ys;have hcl:∀S:SV,(S.cells p).length=15:=fun S=>by simp [SV.cells,Prg.e]
   have cl:=qajd (O:=O') (N:=N') hx j6 y7 y2 m26.s ys (hcl _) (hcl _);rw [cl];refine ⟨{ S2 with s:=S.s },setl S.s (.row 15 [S2.cells p]) O',N',rfl,?_,?_,qai hT',by omega,?_⟩
   ·rintro j (rfl | hj)
    ·exact .inl (.inl rfl)
    ·have:=w2 j (.inr hj);exact .inr (by omega)
   ·exact hkN.setl (.inr (.inl (.inl rfl)))
   ·rw [hbA];refine ⟨?_,?_⟩
    ·have n1:¬N+1=S.s:=by have:=own _ (.inl rfl);omega
     simp [qej,c_42,j4,j5,j6,h6',qab,n1]
    ·have n1:=own _ (Or.inl (rfl:S.s=S.s));refine ⟨by simp only [qab,if_true,ys,QBg];rfl,m26.cm.fr fun j hj=>?_,m26.x.fr fun j hj=>?_,m26.ri,m26.ni⟩
     ·have:=w2 j (.inr (.inl hj));rw [qab,QA (by omega)]
     ·have:=w2 j (.inr (.inr hj));rw [qab,QA (by omega)]
  | none=>
   rw [hb] at hm hbA;obtain ⟨j4,jT,j5,j6,md⟩:=hm;rw [qajc j6];refine ⟨S',O',N',es,fun j hj=>(ho j hj).imp id fun h=>by omega,hkN,hT',by omega,?_⟩;rw [hbA];refine ⟨N2+3,?_,md,jT,by omega,fun h=>?_⟩
   ·simp [qej,c_42,j4,j5,j6,h6',idsA]
   ·rcases ho _ h with h | h
    ·have:=own _ h;omega
    ·omega
theorem qs2 (p:Prg) (op:p.Ok qaz) (hc:(pre p.control).length<2^40 - 1) (hp:p.Xn.length<2^40) {c:Xf} (s:CfgT c) (l:List Xc) (hl:∀o∈l,OpS o):
  qad Φ f_12 [.agg (Prg.c p),.agg (Xf.c c),.slice 9 (l.map Xc.c)]=some (.val (appA p c l)):=by
 rw [qaa (fn:=c_12) rfl rfl];obtain ⟨q0,q1,q2,q3,hC,hq,hq2⟩:=cfg4 c;have hT0:Tail [(0,AO.row 4 [[.Xu 1 [],.Xu 1 [],.Xu 2 [],.Xu 1 []]])] 1:=(Tail.nil 0).app1 (Qb 0);rcases qwk p op hc c s hT0 with ⟨z,e⟩ | ⟨z,S,O1,N1,e,m1,w1,hk1,hT1,hN1⟩
 ·have hb:badA p c l=some (-1,cfgE p c):=by simp [badA,z]
  rw [show appA p c l= .tup [.agg noC,.slice 1 [],.int .i64 (-1),.int .i64 (cfgE p c)] by simp only [appA,hb]];rw [hC] at e ⊢;simp only [Prg.e] at e;simp [c_12,Prg.e,e,hq,hq2,z,noC]
 ·have v:=(qf7 p c).1 z;have r0:look 0 O1=some (.row 4 [[.Xu 1 [],.Xu 1 [],.Xu 2 [],.Xu 1 []]]):=hk1.lk hT0 rfl (by intro h;cases h);have n0:¬S.own 0:=fun h=>by have:=w1 0 h;omega
  obtain ⟨S2,O2,N2,es,ho,hk2,hT2,hN2,hm⟩:=qzp p op hp v s l hl hT1 m1;have r02:look 0 O2=some (.row 4 [[.Xu 1 [],.Xu 1 [],.Xu 2 [],.Xu 1 []]]):=hk2.lk hT1 r0 (by
   rintro (h | h)
   ·exact n0 h
   ·have h:look 0 O1=some .res:=h;rw [r0] at h;cases h)
  cases hb:badA p c l with
  | some x=>
   obtain ⟨k,x⟩:=x;rw [hb] at hm;obtain ⟨e2,-⟩:=hm;have hx:=qj3 hb;rw [show appA p c l= .tup [.agg noC,.slice 1 [],.int .i64 k,.int .i64 x] by simp only [appA,hb]];rw [hC] at e ⊢;simp only [Prg.e] at e;simp [c_12,Prg.e,e,e2,hq,hq2,hx,noC,r02,qab]
  | none=>
   rw [hb] at hm;obtain ⟨T,e2,m2,hTk,hTN,hTo⟩:=hm;obtain ⟨v',s'⟩:=qmx v s hp l hl l.length;obtain ⟨u1,u2,u3,u4,U,O3,N3,e3,n3,w3,hk3,hT3,hN3⟩:=qq7 (v'.u s') hT2 m2;rw [es] at e3;have r03:=hk3.lk hT2 r02 (by simp);have hT3k:=hk3.lk hT2 hTk (by simp);rw [show appA p c l= .tup [.agg (Xf.c (cfgN p c l l.length)),.slice 1 (idsA p c l),.int .i64 0,.int .i64 0] by simp only [appA,hb];rfl];have hil:(idsA p c l).length=l.length:=by simp [idsA]
   have T0:¬T=0:=by omega
   simp only [Prg.e,Xf.ce c] at e;generalize idsA p c l=il at*;have n3':CfgM (setl 0 (AO.row 4 [[u1,u2,u3,u4]]) O3) u1 u2 u3 u4 U (cfgN p c l l.length):=n3.fr fun j hj=>by
    have:=w3 j hj;rw [qab,QA (by omega)]
   have a1:=n3'.snpR (n:=34) (N:=N3);have a2:=n3'.snpN (n:=34) (N:=N3);have a3:=n3'.snpD (n:=34) (N:=N3);have a4:=n3'.snpG (n:=34) (N:=N3);simp [c_12,Prg.e,e,e2,e3,r03,qab,a1,a2,a3,a4,Xf.ce]
end Go.Av
