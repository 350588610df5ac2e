/-
 txn.Commit.
-/
import Derived.Test.YtjdbnnnakpacjaaGreatH16
set_option linter.unusedVariables false
set_option linter.unusedSimpArgs false
set_option linter.constructorNameAsVariable false
namespace Go.Av
set_option maxRecDepth 4000
def cmA1:Xv:=match c_42.code with | .seq a _=>a | _=> .skip
def cmA2:Xv:=match c_42.code with | .seq _ (.seq a _)=>a | _=> .skip
def cmA3:Xv:=match c_42.code with | .seq _ (.seq _ (.seq a _))=>a | _=> .skip
def cmA4:Xv:=match c_42.code with | .seq _ (.seq _ (.seq _ (.seq a _)))=>a | _=> .skip
def cmB:Xv:=match c_42.code with | .seq _ (.seq _ (.seq _ (.seq _ (.dfr _ _ b))))=>b | _=> .skip
def cmO:List Xw:=[⟨some 27,none,.mkfunc (.func f_91) [] [.t 6,.t 7,.t 2]⟩]
theorem qabp:c_42.code= .seq cmA1 (.seq cmA2 (.seq cmA3 (.seq cmA4 (.dfr cmO 27 cmB)))):=rfl
theorem cm1 {O:List (Nat×AO)} {N s:Nat} (hT:Tail O N) (w:AV):∃e,qa3 Φ cmA1 ⟨qbo 0 [.ptr s 15 0 0,w],⟨O,N⟩⟩=some (.normal,⟨e,⟨O++[(N,.row 1 [[.ptr s 15 0 0]])]++[(N+1,.row 1 [[.int .i64 0]])],N+2⟩⟩)/\look 1 e=some w/\look 2 e=some (.ptr N 1 0 0)/\look 6 e=some (.ptr (N+1) 1 0 0):=by
 have t0:=hT N (Qb _);have t1:=hT (N+1) (by omega);rw [qbw];simp [cmA1,c_42,t0,t1]
theorem cm2 {O:List (Nat×AO)} {N N' s b:Nat} {O':List (Nat×AO)} {e:Env} {s2:Nat} (hT':Tail O' N') (h:qah Φ f_89 [.ptr s 15 0 0] ⟨O,N⟩=some (.val (.ptr s2 15 0 0),⟨O',N'⟩)) (h2:look 2 e=some (.ptr b 1 0 0)) (hb:look b O=some (.row 1 [[.ptr s 15 0 0]])) {w x6:AV} (h1:look 1 e=some w) (h6:look 6 e=some x6):
  ∃e',qa3 Φ cmA2 ⟨e,⟨O,N⟩⟩=some (.normal,⟨e',⟨O'++[(N',.row 1 [[.ptr s2 15 0 0]])],N'+1⟩⟩)/\look 1 e'=some w/\look 2 e'=some (.ptr b 1 0 0)/\look 6 e'=some x6/\look 7 e'=some (.ptr N' 1 0 0):=by
 have t0:=hT' N' (Qb _);rw [qbw];simp [cmA2,c_42,t0,h,h2,hb,h1,h6]
theorem cm3 {O:List (Nat×AO)} {N b b7:Nat} {S:SV} {p:Prg} {c:Xf} {s2:Nat} (m:StoreM O S p c) (hl:c.rows.length=p.Xn.length) (hT:Tail O N) {e:Env} (h2:look 2 e=some (.ptr b 1 0 0)) (h7:look 7 e=some (.ptr b7 1 0 0)) (hb:look b O=some (.row 1 [[.ptr S.s 15 0 0]])) (hb7:look b7 O=some (.row 1 [[.ptr s2 15 0 0]])) {w x6:AV} (h1:look 1 e=some w) (h6:look 6 e=some x6):
  ∃e',qa3 Φ cmA3 ⟨e,⟨O,N⟩⟩=some (.normal,⟨e',⟨O++[(N,.row 2 [[.int .i64 0,.Xu 1 []]])],N+1⟩⟩)/\look 1 e'=some w/\look 2 e'=some (.ptr b 1 0 0)/\look 6 e'=some x6/\look 7 e'=some (.ptr b7 1 0 0):=by
 have t0:=hT N (Qb _);have hm:=qacv m hl hT;rw [qbw];simp [cmA3,c_42,qag,hm,h2,h7,hb,hb7,h1,h6]
theorem cm4 {O:List (Nat×AO)} {N:Nat} {l:List Xc} {e:Env} (h1:look 1 e=some (.slice 9 (l.map Xc.c))) {x6 x2 x7:AV} (h2:look 2 e=some x2) (h6:look 6 e=some x6) (h7:look 7 e=some x7) (hl:¬64<l.length):
  ∃e',qa3 Φ cmA4 ⟨e,⟨O,N⟩⟩=some (.normal,⟨e',⟨O,N⟩⟩)/\look 1 e'=some (.slice 9 (l.map Xc.c))/\look 2 e'=some x2/\look 6 e'=some x6/\look 7 e'=some x7:=by
 have hl':¬(64:Int)<(l.length:Int):=by omega
 rw [qbw];simp [cmA4,c_42,h1,h2,h6,h7,hl']
theorem cm4b {O:List (Nat×AO)} {N b6:Nat} {l:List Xc} {e:Env} (h1:look 1 e=some (.slice 9 (l.map Xc.c))) (h6:look 6 e=some (.ptr b6 1 0 0)) (hb6:look b6 O=some (.row 1 [[.int .i64 0]])) (hl:64<l.length):
  ∃e',qa3 Φ cmA4 ⟨e,⟨O,N⟩⟩=some (.ret,⟨e',⟨setl b6 (.row 1 [[.int .i64 12]]) O,N⟩⟩)/\look 4 e'=some (.Xu 1 [])/\look 5 e'=some (.int .i64 (-1))/\look 6 e'=some (.ptr b6 1 0 0):=by
 have hl':(64:Int)<(l.length:Int):=by omega
 rw [qbw];simp [cmA4,c_42,h1,h6,hl',hb6]
theorem qae3 {O:List (Nat×AO)} {N b6:Nat} {a7 a2:AV} (hb6:look b6 O=some (.row 1 [[.int .i64 0]])):cloI Φ c_42 .niliface [.ptr b6 1 0 0,a7,a2] ⟨O,N⟩=some ⟨O,N⟩:=by
 unfold cloI;rw [qbw];simp [c_42,recE,hb6]
theorem qae4 {O:List (Nat×AO)} {N b6 b7 b2 s s2:Nat} {x:Int} {cs cs0:List AV} (hx:x≠0) (hb6:look b6 O=some (.row 1 [[.int .i64 x]])) (hb7:look b7 O=some (.row 1 [[.ptr s2 15 0 0]])) (hb2:look b2 O=some (.row 1 [[.ptr s 15 0 0]])) (hs2:look s2 O=some (.row 15 [cs])) (hs:look s O=some (.row 15 [cs0])) (hc:cs.length=15) (hc0:cs0.length=15):
  cloI Φ c_42 .niliface [.ptr b6 1 0 0,.ptr b7 1 0 0,.ptr b2 1 0 0] ⟨O,N⟩=some ⟨setl s (.row 15 [cs]) O,N⟩:=by
 unfold cloI;rw [qbw];have t:cs.take 15=cs:=Qo (by omega);have t2:cs0.drop 15=[]:=List.drop_eq_nil_of_le (by omega);simp [c_42,recE,hb6,hx,hb7,hb2,hs2,hs,hc,hc0,t,t2]
theorem cm5 (p:Prg) (f:PrgS p) (hp:p.Xn.length<2^40) {c:Xf} (v:CfgV p c) (s:CfgT c) (l:List Xc) (hl64:l.length<=64) (hl:∀o∈l,OpS o) {O:List (Nat×AO)} {N:Nat} {S:SV} {b2 b6:Nat} {e:Env} (hT:Tail O N) (m:StoreM O S p c) (h1:look 1 e=some (.slice 9 (l.map Xc.c))) (h2:look 2 e=some (.ptr b2 1 0 0)) (h6:look 6 e=some (.ptr b6 1 0 0)) (hb2:look b2 O=some (.row 1 [[.ptr S.s 15 0 0]])) (hb6:look b6 O=some (.row 1 [[.int .i64 0]])) (n2:¬S.own b2) (n6:¬S.own b6):
  CmQ (O++[(N,.row 9 (l.map Xc.c))]++[(N+1,.tok 1 0)]) (N+2) S p c l b6 (N+1) (qa3 Φ cmB ⟨e,⟨O,N⟩⟩):=by
 have t0:=hT N (Qb _);have t1:=hT (N+1) (by omega);rw [qbw];have k1:l.length<4611686018427387904/\(l.length:Int)*120<=140737488355328:=by omega
 simp [cmB,c_42,h1,t0,t1,k1];have own:∀j,S.own j->j<N:=fun j hj=>by
  obtain ⟨x,hx,_⟩:=m.own_lk hj;exact hT.lt hx
 have hT1:Tail (O++[(N,AO.row 9 (List.map Xc.c l)),(N+1,AO.tok 1 0)]) (N+2):=by
  have:=(hT.app1 (o:=AO.row 9 (List.map Xc.c l)) (Qb N)).app1 (o:=AO.tok 1 0) (Qb (N+1));simpa using this
 have m1:StoreM (O++[(N,AO.row 9 (List.map Xc.c l)),(N+1,AO.tok 1 0)]) S p c:=m.kp (X:=fun _=>False) hT (Kp.appL (fun _ _ _=>rfl) (by intro q hq;simp at hq;rcases hq with rfl | rfl<;>simp)) (by simp);refine qae5 p f hp v s l hl64 hl (b2:=b2) (w:=N) ⟨by simp [qag,hb2],by simp [qag,hb6],by simp [t0],by simp [t1],n2,n6,fun h=>by have:=own _ h;omega,fun h=>by have:=own _ h;omega,hT1⟩ _ _ _ ?_;refine ⟨hT1,Qb _,⟨S,by rw [qkj];exact m1,rfl,fun j hj=> .inl hj⟩,Kp.refl,by simp [t1],by simp [qag,hb6],by simp [qkj],?_,?_,?_,?_,?_,?_⟩<;>simp [h2,h6]
def idsA (p:Prg) (c:Xf) (l:List Xc):List (List AV):=(List.range l.length).map fun j=>cI (idN p c l j)
def qaet (N:Nat) (O:List (Nat×AO)) (S:SV) (p:Prg) (c:Xf) (l:List Xc) (r:Option (Rt×AH)):Prop:=
 ∃S' O' N',S'.s=S.s/\(∀j,S'.own j->S.own j\/N<=j)/\Kp (fun j=>S.own j\/Rs O j) N O O'/\Tail O' N'/\N<=N'/\
  match badA p c l with
  | some (k,x)=>r=some (.val (.tup [.Xu 1 [],.int .i64 k,.int .i64 x]),⟨O',N'⟩)/\StoreM O' S' p c
  | none=>∃T,r=some (.val (.tup [.app 1 (idsA p c l) T,.int .i64 0,.int .i64 0]),⟨O',N'⟩)/\StoreM O' S' p (cfgN p c l l.length)/\look T O'=some (.tok 1 l.length)/\N<=T/\¬S'.own T
theorem qwj (p:Prg) (op:p.Ok qbd) (hp:p.Xn.length<2^40) {c:Xf} (v:CfgV p c) (s:CfgT c) (l:List Xc) (hl:∀o∈l,OpS o) {O:List (Nat×AO)} {N:Nat} {S:SV} (hT:Tail O N) (m:StoreM O S p c):
  qaet N O S p c l (qah Φ f_42 [.ptr S.s 15 0 0,.slice 9 (l.map Xc.c)] ⟨O,N⟩):=by
 have f:=qhi op;have own:∀j,S.own j->j<N:=fun j hj=>by
  obtain ⟨x,hx,_⟩:=m.own_lk hj;exact hT.lt hx
 rw [qkg Φ (d:=c_42) rfl rfl,qabp];obtain ⟨e1,a1,g1,g2,g6⟩:=cm1 (s:=S.s) hT (.slice 9 (l.map Xc.c));have t0:=hT N (Qb _);have t1:=hT (N+1) (by omega);have hT1:Tail (O++[(N,.row 1 [[.ptr S.s 15 0 0]])]++[(N+1,.row 1 [[.int .i64 0]])]) (N+2):=(hT.app1 (Qb N)).app1 (Qb (N+1));have hk1:Kp (fun _=>False) N O (O++[(N,.row 1 [[.ptr S.s 15 0 0]])]++[(N+1,.row 1 [[.int .i64 0]])]):=(Kp.app Kp.refl (Qb _)).app (QBe _);have m1:=m.kp hT hk1 (by simp);have q2:look N (O++[(N,.row 1 [[.ptr S.s 15 0 0]])]++[(N+1,.row 1 [[.int .i64 0]])])=some (.row 1 [[.ptr S.s 15 0 0]]):=by simp [t0]
 have q6:look (N+1) (O++[(N,.row 1 [[.ptr S.s 15 0 0]])]++[(N+1,.row 1 [[.int .i64 0]])])=some (.row 1 [[.int .i64 0]]):=by simp [t1]
 have rs1:∀j,j<N->Rs (O++[(N,.row 1 [[.ptr S.s 15 0 0]])]++[(N+1,.row 1 [[.int .i64 0]])]) j->Rs O j:=fun j hj h=>by
  have:=hk1 j hj (by simp);show look j O=_;rw [<- this];exact h
 generalize O++[(N,.row 1 [[.ptr S.s 15 0 0]])]++[(N+1,.row 1 [[.int .i64 0]])]=H1 at*;obtain ⟨S2,O2,N2,a2,m2,w2,k2,hT2,n2⟩:=qyr op m1 v s hT1;obtain ⟨e2,a2',h1,h2,h6,h7⟩:=cm2 hT2 a2 g2 q2 g1 g6;have t2:=hT2 N2 (Qb _);have hk3:Kp (Rs H1) (N+2) H1 (O2++[(N2,.row 1 [[.ptr S2.s 15 0 0]])]):=k2.app (by omega);have hT3:Tail (O2++[(N2,.row 1 [[.ptr S2.s 15 0 0]])]) (N2+1):=hT2.app1 (Qb N2);have m3:=m1.kp hT1 hk3 fun j hj hr=>by
  obtain ⟨x,hx,hne⟩:=m1.own_lk hj;have hr:look j H1=some .res:=hr;rw [hx] at hr;exact hne (Option.some.inj hr)
 have m23:=m2.kp (X:=fun _=>False) hT2 (Kp.app Kp.refl (Qb N2) (o:= .row 1 [[.ptr S2.s 15 0 0]])) (by simp);have q7:look N2 (O2++[(N2,.row 1 [[.ptr S2.s 15 0 0]])])=some (.row 1 [[.ptr S2.s 15 0 0]]):=by simp [t2]
 have r2:=hk3.lk hT1 q2 (by intro h;have h:look N H1=some .res:=h;rw [q2] at h;cases h);have r6:=hk3.lk hT1 q6 (by intro h;have h:look (N+1) H1=some .res:=h;rw [q6] at h;cases h);have own2:∀j,S2.own j->j<N2:=fun j hj=>by
  obtain ⟨x,hx,_⟩:=m2.own_lk hj;exact hT2.lt hx
 generalize O2++[(N2,.row 1 [[.ptr S2.s 15 0 0]])]=H3 at*;obtain ⟨e3,a3,h1,h2,h6,h7⟩:=cm3 m3 v.rl hT3 h2 h7 r2 q7 h1 h6;have hk4:Kp (fun _=>False) (N2+1) H3 (H3++[(N2+1,.row 2 [[.int .i64 0,.Xu 1 []]])]):=Kp.app Kp.refl (Qb _);have hT4:Tail (H3++[(N2+1,.row 2 [[.int .i64 0,.Xu 1 []]])]) (N2+2):=hT3.app1 (Qb _);have m4:=m3.kp hT3 hk4 (by simp);have m24:=m23.kp hT3 hk4 (by simp);have q7:=hk4.lk hT3 q7 (by simp);have r2:=hk4.lk hT3 r2 (by simp);have r6:=hk4.lk hT3 r6 (by simp);have hkO:Kp (Rs O) N O (H3++[(N2+1,.row 2 [[.int .i64 0,.Xu 1 []]])]):=by
  intro j hj hx;rw [hk4 j (by omega) (by simp),hk3 j (by omega) (fun h=>hx (rs1 j hj h)),hk1 j hj (by simp)]
 generalize H3++[(N2+1,.row 2 [[.int .i64 0,.Xu 1 []]])]=H4 at*;by_cases z:64<l.length
 ·obtain ⟨e4,a4,i4,i5,i6⟩:=cm4b (N:=N2+2) h1 h6 r6 z;have hb:badA p c l=some (-1,12):=by simp [badA,(qh6 p c).2 v,z]
  simp only [qda,a1,a2',a3,a4];refine ⟨S,setl (N+1) (.row 1 [[.int .i64 12]]) H4,N2+2,rfl,fun j hj=> .inl hj,(hkO.mono fun j _ h=> .inr h).setl (.inl (QBe N)),qai hT4,by omega,?_⟩;rw [hb];refine ⟨?_,m4.fr fun j hj=>?_⟩
  ·simp [qd1,c_42,i4,i5,i6,qac,r6]
  ·have:=own j hj;rw [qac,QA (by omega)]
 ·obtain ⟨e4,a4,h1,h2,h6,h7⟩:=cm4 (O:=H4) (N:=N2+2) h1 h2 h6 h7 z;have a5:qao (qah Φ) none cmO ⟨e4,⟨H4,N2+2⟩⟩=some (.normal,⟨(27,.func (.func f_91) [] [.ptr (N+1) 1 0 0,.ptr N2 1 0 0,.ptr N 1 0 0])::e4,⟨H4,N2+2⟩⟩):=by
   simp [cmO,qao,qbc,h2,h6,h7]
  have B:=cm5 p f hp v s l (by omega) hl (e:=(27,.func (.func f_91) [] [.ptr (N+1) 1 0 0,.ptr N2 1 0 0,.ptr N 1 0 0])::e4) (b2:=N) (b6:=N+1) hT4 m4 (by simp [h1]) (by simp [h2]) (by simp [h6]) r2 r6 (fun h=>by have:=own _ h;omega) (fun h=>by have:=own _ h;omega);have hk5:Kp (fun _=>False) (N2+2) H4 (H4++[(N2+2,.row 9 (l.map Xc.c))]++[(N2+2+1,.tok 1 0)]):=(Kp.app Kp.refl (Qb _)).app (QBe _);have m25:=m24.kp hT4 hk5 (by simp);have q75:=hk5.lk hT4 q7 (by simp);have r25:=hk5.lk hT4 r2 (by simp);have hT5:Tail (H4++[(N2+2,.row 9 (l.map Xc.c))]++[(N2+2+1,.tok 1 0)]) (N2+4):=(hT4.app1 (Qb _)).app1 (Qb _);have hkO5:Kp (Rs O) N O (H4++[(N2+2,.row 9 (l.map Xc.c))]++[(N2+2+1,.tok 1 0)]):=by
   intro j hj hx;rw [hk5 j (by omega) (by simp),hkO j hj hx]
  generalize H4++[(N2+2,.row 9 (l.map Xc.c))]++[(N2+2+1,.tok 1 0)]=H5 at*;obtain ⟨e',S',O',N',hr,hT',hN',es,ho,hk,h6',hm⟩:=B;simp only [qda,a1,a2',a3,a4,a5];rw [hr];have hcl:(look 27 ((27,AV.func (.func f_91) [] [.ptr (N+1) 1 0 0,.ptr N2 1 0 0,.ptr N 1 0 0])::e4)).bind tgt=some (f_91,[.ptr (N+1) 1 0 0,.ptr N2 1 0 0,.ptr N 1 0 0]):=by simp
  rw [hcl];simp only [show c_42.clo=f_91 from rfl,show c_42.ncaps=3 from rfl,QAk,QAn,and_self,if_true,qgp];have hbA:badA p c l=(badF p c l 0).map fun x=>((x.1:Int),x.2):=by simp [badA,(qh6 p c).2 v,z]
  have hkN:Kp (fun j=>S.own j\/Rs O j) N O O':=by
   intro j hj hx;rw [hk j (by omega) ?_,hkO5 j hj fun h=>hx (.inr h)];rintro (h | h | h | h)
   ·exact hx (.inl h)
   ·have h:look j H5=some .res:=h;rw [hkO5 j hj fun h=>hx (.inr h)] at h;exact hx (.inr h)
   ·omega
   ·omega
  cases hb:badF p c l 0 with
  | some x=>
   obtain ⟨k,x⟩:=x;rw [hb] at hm hbA;obtain ⟨j4,j5,j6,d,md⟩:=hm;have hx:=qoh hb;have kp2:∀j y,look j H5=some y->y≠ .res->N+1<j->j<N2+3->look j O'=some y:=fun j y hy hr h1 h2=>by
    refine hk.lk hT5 hy ?_;rintro (h | h | h | h)
    ·have:=own j h;omega
    ·have h:look j H5=some .res:=h;rw [hy] at h;exact hr (Option.some.inj h)
    ·omega
    ·omega
   have y7:=kp2 N2 _ q75 (by simp) (by omega) (by omega);have y2:look N O'=some (.row 1 [[.ptr S.s 15 0 0]]):=hk.lk hT5 r25 (by
    rintro (h | h | h | h)
    ·have:=own _ h;omega
    ·have h:look N H5=some .res:=h;rw [r25] at h;cases h
    ·omega
    ·omega)
   have m26:StoreM O' S2 p c:=m25.fr fun j hj=>by
    obtain ⟨y,hy,hne⟩:=m25.own_lk hj;have:=w2 j hj;have:=own2 j hj;rw [kp2 j y hy hne (by omega) (by omega),hy]
   have ys:=md.s;rw [es] at ys;have hcl:∀S:SV,(S.cells p).length=15:=fun S=>by simp [SV.cells,Prg.e]
   have cl:=qae4 (O:=O') (N:=N') hx j6 y7 y2 m26.s ys (hcl _) (hcl _);rw [cl];refine ⟨{ S2 with s:=S.s },setl S.s (.row 15 [S2.cells p]) O',N',rfl,?_,?_,qai hT',by omega,?_⟩
   ·rintro j (rfl | hj)
    ·exact .inl (.inl rfl)
    ·have:=w2 j (.inr hj);exact .inr (by omega)
   ·exact hkN.setl (.inr (.inl (.inl rfl)))
   ·rw [hbA];refine ⟨?_,?_⟩
    ·have n1:¬N+1=S.s:=by have:=own _ (.inl rfl);omega
     simp [qd1,c_42,j4,j5,j6,h6',qac,n1]
    ·have n1:=own _ (Or.inl (rfl:S.s=S.s));refine ⟨by simp only [qac,if_true,ys,QBa];rfl,m26.cm.fr fun j hj=>?_,m26.x.fr fun j hj=>?_,m26.ri,m26.ni⟩
     ·have:=w2 j (.inr (.inl hj));rw [qac,QA (by omega)]
     ·have:=w2 j (.inr (.inr hj));rw [qac,QA (by omega)]
  | none=>
   rw [hb] at hm hbA;obtain ⟨j4,jT,j5,j6,md⟩:=hm;rw [qae3 j6];refine ⟨S',O',N',es,fun j hj=>(ho j hj).imp id fun h=>by omega,hkN,hT',by omega,?_⟩;rw [hbA];refine ⟨N2+3,?_,md,jT,by omega,fun h=>?_⟩
   ·simp [qd1,c_42,j4,j5,j6,h6',idsA]
   ·rcases ho _ h with h | h
    ·have:=own _ h;omega
    ·omega
theorem qqx (p:Prg) (op:p.Ok qbd) (hc:(pre p.control).length<2^40 - 1) (hp:p.Xn.length<2^40) {c:Xf} (s:CfgT c) (l:List Xc) (hl:∀o∈l,OpS o):
  qad Φ f_12 [.agg (Prg.c p),.agg (Xf.c c),.slice 9 (l.map Xc.c)]=some (.val (appA p c l)):=by
 rw [qaa (fn:=c_12) rfl rfl];obtain ⟨q0,q1,q2,q3,hC,hq,hq2⟩:=cfg4 c;have hT0:Tail [(0,AO.row 4 [[.Xu 1 [],.Xu 1 [],.Xu 2 [],.Xu 1 []]])] 1:=(Tail.nil 0).app1 (Qb 0);rcases qaa5 p op hc c s hT0 with ⟨z,e⟩ | ⟨z,S,O1,N1,e,m1,w1,hk1,hT1,hN1⟩
 ·have hb:badA p c l=some (-1,cfgE p c):=by simp [badA,z]
  rw [show appA p c l= .tup [.agg noC,.slice 1 [],.int .i64 (-1),.int .i64 (cfgE p c)] by simp only [appA,hb]];rw [hC] at e ⊢;simp only [Prg.e] at e;simp [c_12,Prg.e,e,hq,hq2,z,noC]
 ·have v:=(qh6 p c).1 z;have r0:look 0 O1=some (.row 4 [[.Xu 1 [],.Xu 1 [],.Xu 2 [],.Xu 1 []]]):=hk1.lk hT0 rfl (by intro h;cases h);have n0:¬S.own 0:=fun h=>by have:=w1 0 h;omega
  obtain ⟨S2,O2,N2,es,ho,hk2,hT2,hN2,hm⟩:=qwj p op hp v s l hl hT1 m1;have r02:look 0 O2=some (.row 4 [[.Xu 1 [],.Xu 1 [],.Xu 2 [],.Xu 1 []]]):=hk2.lk hT1 r0 (by
   rintro (h | h)
   ·exact n0 h
   ·have h:look 0 O1=some .res:=h;rw [r0] at h;cases h)
  cases hb:badA p c l with
  | some x=>
   obtain ⟨k,x⟩:=x;rw [hb] at hm;obtain ⟨e2,-⟩:=hm;have hx:=qld hb;rw [show appA p c l= .tup [.agg noC,.slice 1 [],.int .i64 k,.int .i64 x] by simp only [appA,hb]];rw [hC] at e ⊢;simp only [Prg.e] at e;simp [c_12,Prg.e,e,e2,hq,hq2,hx,noC,r02,qac]
  | none=>
   rw [hb] at hm;obtain ⟨T,e2,m2,hTk,hTN,hTo⟩:=hm;obtain ⟨v',s'⟩:=qoj v s hp l hl l.length;obtain ⟨u1,u2,u3,u4,U,O3,N3,e3,n3,w3,hk3,hT3,hN3⟩:=qwk (v'.u s') hT2 m2;rw [es] at e3;have r03:=hk3.lk hT2 r02 (by simp);have hT3k:=hk3.lk hT2 hTk (by simp);rw [show appA p c l= .tup [.agg (Xf.c (cfgN p c l l.length)),.slice 1 (idsA p c l),.int .i64 0,.int .i64 0] by simp only [appA,hb];rfl];have hil:(idsA p c l).length=l.length:=by simp [idsA]
   have T0:¬T=0:=by omega
   simp only [Prg.e,Xf.ce c] at e;generalize idsA p c l=il at*;have n3':CfgM (setl 0 (AO.row 4 [[u1,u2,u3,u4]]) O3) u1 u2 u3 u4 U (cfgN p c l l.length):=n3.fr fun j hj=>by
    have:=w3 j hj;rw [qac,QA (by omega)]
   have a1:=n3'.snpR (n:=34) (N:=N3);have a2:=n3'.snpN (n:=34) (N:=N3);have a3:=n3'.snpD (n:=34) (N:=N3);have a4:=n3'.snpG (n:=34) (N:=N3);simp [c_12,Prg.e,e,e2,e3,r03,qac,a1,a2,a3,a4,Xf.ce]
end Go.Av
