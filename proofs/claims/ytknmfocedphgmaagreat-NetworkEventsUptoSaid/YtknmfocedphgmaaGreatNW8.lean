/-
 A network in memory: a packet or a configuration changes.
-/
import Derived.Test.YtknmfocedphgmaaGreatH7
import Derived.KernelRfl
set_option linter.unusedVariables false
set_option linter.unusedSimpArgs false
set_option linter.constructorNameAsVariable false
namespace Go.Av
set_option maxRecDepth 8000
theorem qlh:∀{l:List Pk} {H:List AV} {i:Nat} {x:Pk} {h:AV},H.length=l.length->pkN (l.set i x) (H.set i h)=(pkN l H).set i (PkN x h)
 | [],[],_,_,_,_=>rfl
 | a::l,b::H,0,x,h,_=>rfl
 | a::l,b::H,i+1,x,h,hl=>by
  have:=qlh (l:=l) (H:=H) (i:=i) (x:=x) (h:=h) (by simpa using hl);simp only [pkN,List.set_cons_succ,List.zipWith_cons_cons] at this ⊢;rw [this]
section
variable {O O':List (Nat×AO)} {n P i:Nat} {V:NetV} {f lv:AV} {C:Nat} {H:List AV} {x x':Pk} {h h':AV}
theorem NetM.setP (m:NetM O n V f C (.row P 9 0 V.pk.length) lv H) (hx:V.pk[i]? =some x) (hh:H[i]? =some h) (hP:look P O'=some (.row 9 ((pkN V.pk H).set i (PkN x' h')))) (ha:Ap O' 3 h' (x'.hops.map Hop.c)) (ht:∀t,tkn h'=some t->tkn h=some t\/look t O=none\/look t O=some .res)
  (hk:∀(j:Nat) (y:AO),look j O=some y->y≠ .res->j≠P->tkn h≠some j->look j O'=some y):NetM O' n { V with pk:=V.pk.set i x' } f C (.row P 9 0 V.pk.length) lv (H.set i h'):=by
 have hPl:look P O=some (.row 9 (pkN V.pk H)):=m.pk.id rfl;have ho:∀j,NetM.own n C (.row P 9 0 V.pk.length) lv H j->j≠P->tkn h≠some j->look j O'=look j O:=by
  intro j hj h1 h2;obtain ⟨y,hy,hny⟩:=m.nr hj;rw [hk j y hy hny h1 h2,hy]
 have hth:∀j y,look j O=some y->(∀l,y≠ .tok 3 l)->tkn h≠some j:=by
  intro j y hj hy hc;obtain ⟨l,hl⟩:=m.hk hh hc;rw [hj] at hl;cases hl;exact hy _ rfl
 have hi:i<V.pk.length:=(Qm.1 hx).1;have hiH:i<H.length:=by rw [m.hl];exact hi
 have hlh:tkn lv≠none->∀t,tkn lv=some t->tkn h≠some t:=fun _ t h1 h2=>m.hg i h t hh h2 h1
 refine ⟨by rw [ho n (.inl rfl) (qan m.row hPl (by simp)) (hth n _ m.row (by simp))];exact m.row,by rw [ho C (.inr (.inl rfl)) (qan m.cf hPl (by simp)) (hth C _ m.cf (by simp))];exact m.cf,.inr ⟨P,by rw [qbl (by simp [m.hl])];simp,by rw [qlh m.hl];exact hP⟩,by simp [m.hl],?_,m.lg.fr fun t htt=>ho t (.inr (.inr (.inr (.inl htt)))) (qan (m.lg.tk htt) hPl (by simp)) (fun hc=>m.hg i h t hh hc htt),?_,?_⟩
 ·intro k y g hy hg;by_cases hki:k=i
  ·subst hki;rw [List.getElem?_set_self hi] at hy;rw [List.getElem?_set_self hiH] at hg;cases hy;cases hg;exact ha
  ·rw [List.getElem?_set_ne (Ne.symm hki)] at hy hg;refine (m.hp k y g hy hg).fr fun t htt=>?_
   obtain ⟨l,hl⟩:=m.hk hg htt;exact ho t (.inr (.inr (.inr (.inr ⟨g,Qe hg,htt⟩)))) (qan hl hPl (by simp)) fun hc=>hki (m.hi k i g h t hg hh htt hc)
 ·have key:∀(k:Nat) (g:AV) (t:Nat),k≠i->H[k]? =some g->tkn g=some t->tkn h'≠some t:=by
   intro k g t hki hg hgt hc;obtain ⟨l,hl⟩:=m.hk hg hgt;rcases ht t hc with h1 | h1 | h1
   ·exact hki (m.hi k i g h t hg hh hgt h1)
   ·rw [h1] at hl;cases hl
   ·rw [h1] at hl;cases hl
  intro k k' g g' t hg hg' hgt hgt';by_cases hki:k=i
  ·by_cases hki':k'=i
   ·rw [hki,hki']
   ·subst hki;rw [List.getElem?_set_self hiH] at hg;rw [List.getElem?_set_ne (Ne.symm hki')] at hg';cases hg;exact absurd hgt (key k' g' t hki' hg' hgt')
  ·by_cases hki':k'=i
   ·subst hki';rw [List.getElem?_set_self hiH] at hg';rw [List.getElem?_set_ne (Ne.symm hki)] at hg;cases hg';exact absurd hgt' (key k g t hki hg hgt)
   ·rw [List.getElem?_set_ne (Ne.symm hki)] at hg;rw [List.getElem?_set_ne (Ne.symm hki')] at hg';exact m.hi k k' g g' t hg hg' hgt hgt'
 ·intro k g t hg hgt hc;by_cases hki:k=i
  ·subst hki;rw [List.getElem?_set_self hiH] at hg;cases hg;have hl:=m.lg.tk hc;rcases ht t hgt with h1 | h1 | h1
   ·exact m.hg k h t hh h1 hc
   ·rw [h1] at hl;cases hl
   ·rw [h1] at hl;cases hl
  ·rw [List.getElem?_set_ne (Ne.symm hki)] at hg;exact m.hg k g t hg hgt hc
theorem NetM.setC {pv:AV} {k:Nat} {c:Xf} (m:NetM O n V f C pv lv H) (hC:look C O'=some (.row 4 ((V.cs.map Xf.c).set k (Xf.c c)))) (hk:∀(j:Nat) (y:AO),look j O=some y->y≠ .res->j≠C->look j O'=some y):NetM O' n { V with cs:=V.cs.set k c } f C pv lv H:=by
 have ho:∀j,NetM.own n C pv lv H j->j≠C->look j O'=look j O:=by
  intro j hj h1;obtain ⟨y,hy,hny⟩:=m.nr hj;rw [hk j y hy hny h1,hy]
 have hCp:∀t,vid pv=some t->t≠C:=by
  intro t ht;have h1:=m.pk.id ht;rintro rfl;rw [m.cf] at h1;cases h1
 refine ⟨by rw [ho n (.inl rfl) (qan m.row m.cf (by simp)),m.row];simp [nwR],by rw [hC,QBx],m.pk.fr fun t ht=>ho t (.inr (.inr (.inl ht))) (hCp t ht),m.hl,?_,m.lg.fr fun t ht=>ho t (.inr (.inr (.inr (.inl ht)))) (qan (m.lg.tk ht) m.cf (by simp)),m.hi,m.hg⟩;intro k x h hx hh;refine (m.hp k x h hx hh).fr fun t ht=>?_
 obtain ⟨l,hl⟩:=m.hk hh ht;exact ho t (.inr (.inr (.inr (.inr ⟨h,Qe hh,ht⟩)))) (qan hl m.cf (by simp))
end
theorem qwl {O:List (Nat×AO)} {N P i:Nat} {es:List (List AV)} {x:Pk} {h:AV} (hP:look P O=some (.row 9 es)) (hi:i<es.length) (he:es[i]? =some (PkN x h)) (k a:Int):
  qai Φ f_66 [.ptr P 9 i 0,.int .i64 k,.int .i64 a] ⟨O,N⟩=some (.val (.tup []),⟨setl P (.row 9 (es.set i (PkN (x.fin k a) h))) O,N⟩):=by
 rw [qat (fn:=c_66) rfl rfl];have he':es[i]=PkN x h:=by rw [Qa hi] at he;exact Option.some.inj he
 rw [PkN] at he';simp [c_66,hP,he',hi,qaa,PkN,Pk.fin,qdk]
theorem qjd {r:List (Nat×AO)} {N j:Nat} (hr:∀p∈r,N<=p.1) (hj:j<N):look j r=none:=by
 induction r with
 | nil=>rfl
 | cons p r ih=>
  have h1:=hr p (by simp);have:¬p.1=j:=by omega
  simp only [look,QA this];exact ih fun q hq=>hr q (by simp [hq])
theorem qj2 {r:List (Nat×AO)} {N:Nat} (hr:∀p∈r,p.1<N):Tail r N:=by
 induction r with
 | nil=>exact Tail.nil _
 | cons p r ih=>exact Tail_cons_iff.2 ⟨hr p (by simp),ih fun q hq=>hr q (by simp [hq])⟩
theorem Fw.appL {X:Nat->Prop} {N N1 N2:Nat} {O O1 r:List (Nat×AO)} (h:Fw X N O O1 N1) (hr:∀p∈r,N<=p.1/\p.1<N2) (hn:N1<=N2):Fw X N O (O1++r) N2:=
 ⟨fun j hj hx=>by rw [qab,h.kp j hj hx,qjd (fun p hp=>(hr p hp).1) hj];simp,Tail_append_iff.2 ⟨h.tl.mono hn,qj2 fun p hp=>(hr p hp).2⟩,QAr h.le hn⟩
def st0:Xv:=match c_29.body with | .seq a _=>a | c=>c
def st1:Xv:=match c_29.body with | .seq _ (.seq a _)=>a | c=>c
def st2:Xv:=match c_29.body with | .seq _ (.seq _ (.seq a _))=>a | c=>c
def st3:Xv:=match c_29.body with | .seq _ (.seq _ (.seq _ (.seq a _)))=>a | c=>c
def st4:Xv:=match c_29.body with | .seq _ (.seq _ (.seq _ (.seq _ (.seq a _))))=>a | c=>c
def st5:Xv:=match c_29.body with | .seq _ (.seq _ (.seq _ (.seq _ (.seq _ (.seq a _)))))=>a | c=>c
def stpK:Xv:=match c_29.body with | .seq _ (.seq _ (.seq _ (.seq _ (.seq _ (.seq _ a)))))=>a | c=>c
theorem qpe:c_29.body= .seq st0 (.seq st1 (.seq st2 (.seq st3 (.seq st4 (.seq st5 stpK))))):=rfl
def zEv:AO:= .row 4 [[.int .i64 0,.int .i64 0,.int .i64 0,.int .i64 0]]
section
variable {O:List (Nat×AO)} {n N g P C i k:Nat} {V:NetV} {lv:AV} {H:List AV} {X:Nat->Prop} {x:Pk} {h:AV} {r:Rslt} {c':Xf}
theorem qaat (m:NetM O n V (.func (.func g) [] []) C (.row P 9 0 V.pk.length) lv H) (hX:∀j,NetM.own n C (.row P 9 0 V.pk.length) lv H j->X j) (hT:Tail O N) (hi:i<V.pk.length) (hx:V.pk[i]=x) (hh:H[i]? =some h) (hs:x.pos.switch=k) (hk:k<V.cs.length)
  (hc:CfgC V.cs[k]) (hc':CfgC c') (hd:x.done=false) (hdl:x.data.length<2^40) (hp:qac Φ g [.agg (Xf.c V.cs[k]),.agg [.int .i64 x.pos.port,.slice 1 (x.data.map c8)]]=some (.val (.tup [.agg (Rslt.c r),.agg (Xf.c c')]))) (Q:Option (Rt×AH)->Prop)
  (hQ:∀e' O' N',NetM O' n { V with cs:=V.cs.set k c' } (.func (.func g) [] []) C (.row P 9 0 V.pk.length) lv H->Fw X N O O' N'->look N O'=some zEv->N<N'->look 0 e'=some (.ptr n 7 0 0)->look 1 e'=some (.int .i64 i)->look 4 e'=some (.ptr N 4 0 0)->look 6 e'=some (.ptr P 9 i 0)->look 7 e'=some (.func (.func f_64) [.ptr n 7 0 0] [])->look 8 e'=some (.int .i64 k)->look 9 e'=some (.int .i64 x.pos.port)->look 10 e'=some (.iptr 4 [Rslt.c r] 0 0)->
   Q (go Φ (finC [.cell 4 true 4,.tmp 5]) [.c stpK] .normal ⟨e',⟨O',N'⟩⟩)):
  Q (qai Φ f_29 [.ptr n 7 0 0,.int .i64 i] ⟨O,N⟩):=by
 rw [qat (fn:=c_29) rfl rfl,qpe,show c_29.results=[.cell 4 true 4,.tmp 5] from rfl];have hrow:=m.row;have hm:=fun O N=>qem (O:=O) (N:=N) (n:=n) (V:=V) (cv:= .row C 4 0 V.cs.length) (pv:= .row P 9 0 V.pk.length) (lv:=lv) (g:=g)
 rw [qca] at hrow hm;have hPl:look P O=some (.row 9 (pkN V.pk H)):=m.pk.id rfl;have hiN:i<(pkN V.pk H).length:=by rw [qbl m.hl];exact hi
 have hat:(pkN V.pk H)[i]=PkN x h:=by
  have:=qft (Qa hi) hh;rw [hx,Qa hiN] at this;exact Option.some.inj this
 rw [PkN,hs,hd] at hat;have hcf:=m.cf;have hi2:¬V.pk.length<=i:=by omega
 have cc:=qfz _ hc;have cc':=qfz _ hc';have hB:=clBy x.data hdl;rw [Xf.e4] at cc cc';rw [Rslt.ce,Xf.e4,Xf.e4] at hp;have t0:=hT N (Qb _);have hT':∀k,look (N+1+k) O=none:=fun k=>hT (N+1+k) (by omega)
 have lt:=hT.lt hrow;have ltP:=hT.lt hPl;have ltC:=hT.lt hcf;have q0:¬N=n/\¬n=N/\¬N=P/\¬P=N/\¬N=C/\¬C=N:=by omega
 obtain ⟨q1,q2,q3,q4,q5,q6⟩:=q0;have u1:C≠n:=qan hcf hrow (by simp);have u2:=u1.symm;have u3:P≠n:=qan hPl hrow (by simp);have u4:=u3.symm;have u5:P≠C:=qan hPl hcf (by simp);have u6:=u5.symm;have q7:∀k,¬N+1+k=n:=fun k=>by omega
 have q8:∀k,¬n=N+1+k:=fun k=>by omega
 have q9:∀k,¬N+1+k=P:=fun k=>by omega
 have q10:∀k,¬P=N+1+k:=fun k=>by omega
 have q11:∀k,¬N+1+k=C:=fun k=>by omega
 have q12:∀k,¬C=N+1+k:=fun k=>by omega
 have q13:∀k,¬N=N+1+k:=fun k=>by omega
 have q14:∀k,¬N+1+k=N:=fun k=>by omega
 have q15:∀k,(n == N+1+k)=false:=fun k=>by simp;omega
 have q16:∀k,(P == N+1+k)=false:=fun k=>by simp;omega
 have q17:∀k,(C == N+1+k)=false:=fun k=>by simp;omega
 have q18:(N+1 == N)=false/\(N == N+1)=false:=by simp
 obtain ⟨q19,q20⟩:=q18;have hfw:∀y z w v,Fw X N O (setl C v (qaw (N+1+11) (qaw (N+1+10) (qau (O++[(N,y),(N+1+10,z),(N+1+11,w)]))))) (N+1+11+1):=fun y z w v=>by
  refine (((Fw.appL (N2:=N+1+11+1) (Fw.init hT) ?_ (by omega)).sweep.drop (.inr (by omega))).drop (.inr (by omega))).set (.inl (hX C (.inr (.inl rfl))));intro p hp;simp at hp;rcases hp with rfl | rfl | rfl
  ·exact ⟨Qb _,by simp only;omega⟩
  ·exact ⟨by simp only;omega,by simp only;omega⟩
  ·exact ⟨by simp only;omega,by simp only;omega⟩
 simp [st0,st1,st2,st3,st4,st5,c_29,hm,hrow,hPl,hi,hi2,hiN,hat,hs,hk,hcf,Xf.e4,cc,cc',hB,hp,t0,hT',q1,q2,q3,q4,q5,q6,q7,q8,q9,q10,q11,q12,q13,q14,q15,q16,q17,q19,q20,u1,u2,u3,u4,u5,u6,qab,qaa,qaf,qak];refine hQ _ _ _ (m.setC ?_ ?_) (hfw _ _ _ _) ?_ (by omega) ?_ ?_ ?_ ?_ ?_ ?_ ?_ ?_
 ·simp [qaa,qak,q12,qaf,qab,hcf,Xf.e4]
 ·intro j y hj hy hne;have hjN:=hT.lt hj;have j1:∀k,¬j=N+1+k:=fun k=>by omega
  simp [qaa,qak,j1,hne,qaf,qab,hj,hy]
 ·simp [qaa,qak,q13,q5,qaf,qab,t0,zEv]
 all_goals simp [Rslt.ce]
end
structure StS (X:Nat->Prop) (N0:Nat) (O0 O:List (Nat×AO)) (N n:Nat) (V:NetV) (f:AV) (C P R:Nat) (lv:AV) (H:List AV):Prop where
 m:NetM O n V f C (.row P 9 0 V.pk.length) lv H
 fw:Fw X N0 O0 O N
 ox:∀j,NetM.own n C (.row P 9 0 V.pk.length) lv H j->X j\/N0<=j
 re:∃y,look R O=some (.row 4 [y])/\y.length=4
 ro:∀j,NetM.own n C (.row P 9 0 V.pk.length) lv H j->j≠R
 rn:N0<=R
structure StE (e:Env) (n i P R:Nat) (k:Nat) (inp:Int) (r:Rslt):Prop where
 e0:look 0 e=some (.ptr n 7 0 0)
 e1:look 1 e=some (.int .i64 i)
 e4:look 4 e=some (.ptr R 4 0 0)
 e6:look 6 e=some (.ptr P 9 i 0)
 e7:look 7 e=some (.func (.func f_64) [.ptr n 7 0 0] [])
 e8:look 8 e=some (.int .i64 k)
 e9:look 9 e=some (.int .i64 inp)
 e10:look 10 e=some (.iptr 4 [Rslt.c r] 0 0)
theorem qhb {n C P i l l':Nat} {lv:AV} {H:List AV} {h':AV} {Z:Nat->Prop} (ho:∀j,NetM.own n C (.row P 9 0 l) lv H j->Z j) (ht:∀t,tkn h'=some t->Z t):∀j,NetM.own n C (.row P 9 0 l') lv (H.set i h') j->Z j:=by
 intro j hj;rcases hj with hj | hj | hj | hj | ⟨g,hg,hj⟩
 ·exact ho j (.inl hj)
 ·exact ho j (.inr (.inl hj))
 ·exact ho j (.inr (.inr (.inl hj)))
 ·exact ho j (.inr (.inr (.inr (.inl hj))))
 ·rcases Qq hg with hg | rfl
  ·exact ho j (.inr (.inr (.inr (.inr ⟨g,hg,hj⟩))))
  ·exact ht j hj
section
variable {X:Nat->Prop} {N0 N n i C P R:Nat} {O0 O:List (Nat×AO)} {V:NetV} {f lv h:AV} {H:List AV} {x:Pk}
theorem StS.pk (s:StS X N0 O0 O N n V f C P R lv H) (hx:V.pk[i]? =some x) (hh:H[i]? =some h) (x':Pk) (hhp:x'.hops=x.hops):StS X N0 O0 (setl P (.row 9 ((pkN V.pk H).set i (PkN x' h))) O) N n { V with pk:=V.pk.set i x' } f C P R lv (H.set i h):=by
 have hPl:look P O=some (.row 9 (pkN V.pk H)):=s.m.pk.id rfl;have hPo:NetM.own n C (.row P 9 0 V.pk.length) lv H P:= .inr (.inr (.inl rfl));have hHo:∀t,tkn h=some t->NetM.own n C (.row P 9 0 V.pk.length) lv H t:=fun t ht=> .inr (.inr (.inr (.inr ⟨h,Qe hh,ht⟩)))
 have hne:∀t,tkn h=some t->t≠P:=fun t ht=>by obtain ⟨l,hl⟩:=s.m.hk hh ht;exact qan hl hPl (by simp)
 have m':=s.m.setP (O':=setl P (.row 9 ((pkN V.pk H).set i (PkN x' h))) O) (x':=x') (h':=h) hx hh (by rw [qaa,hPl];simp) (by rw [hhp];exact (s.m.hp i x h hx hh).fr fun t ht=>by rw [qaa,QA (hne t ht)]) (fun t ht=> .inl ht) (fun j y hj _ h1 _=>by rw [qaa,QA h1,hj]);have hl:(V.pk.set i x').length=V.pk.length:=by simp
 obtain ⟨y,hy,hy4⟩:=s.re;refine ⟨by rw [hl];exact m',s.fw.set (s.ox P hPo),qhb s.ox fun t ht=>s.ox t (hHo t ht),⟨y,by rw [qaa,QA (s.ro P hPo).symm,hy],hy4⟩,qhb s.ro fun t ht=>s.ro t (hHo t ht),s.rn⟩
theorem StS.hopN (s:StS X N0 O0 O N n V f C P R lv H) (hx:V.pk[i]? =some x) (hh:H[i]? =some (.Xu 3 [])) (hz:x.hops=[]) (x':Pk) (p:Hop) (hhp:x'.hops=[p]) {M:Nat} (hM:N<=M):
  StS X N0 O0 (setl P (.row 9 ((pkN V.pk H).set i (PkN x' (.app 3 [Hop.c p] M)))) (O++[(M,.tok 3 1)])) (M+1) n { V with pk:=V.pk.set i x' } f C P R lv (H.set i (.app 3 [Hop.c p] M)):=by
 have hPl:look P O=some (.row 9 (pkN V.pk H)):=s.m.pk.id rfl;have hPo:NetM.own n C (.row P 9 0 V.pk.length) lv H P:= .inr (.inr (.inl rfl));have tM:=s.fw.tl M hM;have hPM:=s.fw.tl.lt hPl;have m':=s.m.setP (O':=setl P (.row 9 ((pkN V.pk H).set i (PkN x' (.app 3 [Hop.c p] M)))) (O++[(M,.tok 3 1)])) (x':=x') (h':= .app 3 [Hop.c p] M) hx hh (by rw [qaa,qab,hPl];simp) (.inr ⟨M,by rw [hhp];rfl,by rw [qaa,QA (by omega),qab,tM,hhp];simp⟩) (fun t ht=>by simp only [tkn,Option.some.injEq] at ht;subst ht;exact .inr (.inl tM)) (fun j y hj _ h1 _=>by rw [qaa,QA h1,qab,hj];rfl);have hl:(V.pk.set i x').length=V.pk.length:=by simp
 obtain ⟨y,hy,hy4⟩:=s.re;have hRM:=s.fw.tl.lt hy;have hNM:=s.fw.le;refine ⟨by rw [hl];exact m',(s.fw.app (by omega) (by omega) (by omega)).set (s.ox P hPo),qhb s.ox fun t ht=>by simp only [tkn,Option.some.injEq] at ht;omega,⟨y,by rw [qaa,QA (s.ro P hPo).symm,qab,hy];rfl,hy4⟩,qhb s.ro fun t ht=>by simp only [tkn,Option.some.injEq] at ht;omega,s.rn⟩
theorem StS.hopA {T:Nat} (s:StS X N0 O0 O N n V f C P R lv H) (hx:V.pk[i]? =some x) (hh:H[i]? =some (.app 3 (x.hops.map Hop.c) T)) (x':Pk) (p:Hop) (hhp:x'.hops=x.hops++[p]):
  StS X N0 O0 (setl P (.row 9 ((pkN V.pk H).set i (PkN x' (.app 3 (x.hops.map Hop.c++[Hop.c p]) T)))) (setl T (.tok 3 (x.hops.length+1)) O)) N n { V with pk:=V.pk.set i x' } f C P R lv (H.set i (.app 3 (x.hops.map Hop.c++[Hop.c p]) T)):=by
 have hPl:look P O=some (.row 9 (pkN V.pk H)):=s.m.pk.id rfl;have hPo:NetM.own n C (.row P 9 0 V.pk.length) lv H P:= .inr (.inr (.inl rfl));have hTo:NetM.own n C (.row P 9 0 V.pk.length) lv H T:= .inr (.inr (.inr (.inr ⟨_,Qe hh,rfl⟩)));obtain ⟨l,hTl⟩:=s.m.hk hh rfl;have hTP:T≠P:=qan hTl hPl (by simp);have m':=s.m.setP (O':=setl P (.row 9 ((pkN V.pk H).set i (PkN x' (.app 3 (x.hops.map Hop.c++[Hop.c p]) T)))) (setl T (.tok 3 (x.hops.length+1)) O)) (x':=x') (h':= .app 3 (x.hops.map Hop.c++[Hop.c p]) T) hx hh (by rw [qaa,qaa,QA hTP.symm,hPl];simp) (.inr ⟨T,by rw [hhp];simp,by rw [qaa,QA hTP,qaa,hTl,hhp];simp⟩) (fun t ht=> .inl ht) (fun j y hj _ h1 h2=>by rw [qaa,QA h1,qaa,QA (fun e=>h2 (by rw [e];rfl)),hj]);have hl:(V.pk.set i x').length=V.pk.length:=by simp
 obtain ⟨y,hy,hy4⟩:=s.re;refine ⟨by rw [hl];exact m',(s.fw.set (s.ox T hTo)).set (s.ox P hPo),qhb s.ox fun t ht=>by simp only [tkn,Option.some.injEq] at ht;subst ht;exact s.ox T hTo,⟨y,by rw [qaa,QA (s.ro P hPo).symm,qaa,QA (s.ro T hTo).symm,hy],hy4⟩,qhb s.ro fun t ht=>by simp only [tkn,Option.some.injEq] at ht;subst ht;exact s.ro T hTo,s.rn⟩
end
section
variable {β:Type} {fin:Option (Ex×St)->Option β} {X:Nat->Prop} {N0 N n i C P R:Nat} {O0 O:List (Nat×AO)} {V:NetV} {f lv h:AV} {H:List AV} {x:Pk} {d:Bool} {dst:Option Nat} {r:List Xw} {K:List Go.Av.Fr} {e:Env} {Q:Option β->Prop}
theorem qi6 (s:StS X N0 O0 O N n V f C P R lv H) (hx:V.pk[i]? =some x) (hh:H[i]? =some h) {a b:Int}
  (hk:∀O',StS X N0 O0 O' N n { V with pk:=V.pk.set i (x.fin a b) } f C P R lv (H.set i h)->Q (Go.Av.stepV Φ fin d dst r K e (some (.val (.tup []),⟨O',N⟩)))):
  Q (Go.Av.stepV Φ fin d dst r K e (qai Φ f_66 [.ptr P 9 i 0,.int .i64 a,.int .i64 b] ⟨O,N⟩)):=by
 have hi:=(Qm.1 hx).1;rw [qwl (s.m.pk.id rfl) (by rw [qbl s.m.hl];exact hi) (qft hx hh)];exact hk _ (s.pk hx hh (x.fin a b) rfl)
theorem qfh (s:StS X N0 O0 O N n V f C P R lv H) (hb:V.log.length<=10000) {k a b c:Int}
  (hk:∀O' N' lv',StS X N0 O0 O' N' n (V.ev ⟨k,a,b,c⟩) f C P R lv' H->N<=N'->Q (Go.Av.stepV Φ fin d dst r K e (some (.val (.agg [.int .i64 k,.int .i64 a,.int .i64 b,.int .i64 c]),⟨O',N'⟩)))):
  Q (Go.Av.stepV Φ fin d dst r K e (qai Φ f_64 [.ptr n 7 0 0,.int .i64 k,.int .i64 a,.int .i64 b,.int .i64 c] ⟨O,N⟩)):=by
 refine qf9 s.m s.fw.tl hb fun O' N' lv' m' hl hkp hT' hN=>hk O' N' lv' ?_ hN
 obtain ⟨y,hy,hy4⟩:=s.re;have hRN:=s.fw.tl.lt hy;have hno:NetM.own n C (.row P 9 0 V.pk.length) lv H n:= .inl rfl;have hlo:∀t,tkn lv=some t->NetM.own n C (.row P 9 0 V.pk.length) lv H t:=fun t ht=> .inr (.inr (.inr (.inl ht)))
 have key:∀Z:Nat->Prop,(∀j,NetM.own n C (.row P 9 0 V.pk.length) lv H j->Z j)->(∀j,N<=j->Z j)->∀j,NetM.own n C (.row P 9 0 (V.ev ⟨k,a,b,c⟩).pk.length) lv' H j->Z j:=by
  intro Z ho hz j hj;rcases hj with hj | hj | hj | hj | hj
  ·exact ho j (.inl hj)
  ·exact ho j (.inr (.inl hj))
  ·exact ho j (.inr (.inr (.inl hj)))
  ·rcases hl j hj with h | h
   ·exact ho j (hlo j h)
   ·exact hz j h
  ·exact ho j (.inr (.inr (.inr (.inr hj))))
 have hNN:=s.fw.le;refine ⟨m',?_,key _ s.ox fun j hj=> .inr (by omega),⟨y,?_,hy4⟩,key _ s.ro fun j hj=>by omega,s.rn⟩
 ·refine s.fw.then hkp (fun j hj hy=>?_) hT' hN;rcases hy with rfl | hy | hy
  ·rcases s.ox j hno with h | h
   ·exact .inl h
   ·omega
  ·rcases s.ox j (hlo j hy) with h | h
   ·exact .inl h
   ·omega
  ·exact .inr hy
 ·rw [hkp R hRN ?_,hy];rintro (rfl | h | h)
  ·exact s.ro _ hno rfl
  ·exact s.ro R (hlo R h) rfl
  ·unfold Rs at h;rw [hy] at h;cases h
end
theorem StS.done {X:Nat->Prop} {N0 N n C P R:Nat} {O0 O:List (Nat×AO)} {V:NetV} {f lv:AV} {H:List AV} (s:StS X N0 O0 O N n V f C P R lv H) {v:AV} {y:AO}:NP X N0 O0 n f V v (some (.val v,⟨setl R y O,N⟩)):=
 ⟨_,_,rfl,⟨C,_,lv,H,s.m.fr fun j hj=>by rw [qaa,QA (s.ro j hj)],s.ox⟩,s.fw.set (.inr s.rn)⟩
section
variable {X:Nat->Prop} {N0 N n i k g C P R:Nat} {O0 O:List (Nat×AO)} {V:NetV} {lv h:AV} {H:List AV} {x:Pk} {e:Env} {inp:Int} {r:Rslt}
theorem qvc (s:StS X N0 O0 O N n V (.func (.func g) [] []) C P R lv H) (E:StE e n i P R k inp r) (hx:V.pk[i]? =some x) (hh:H[i]? =some h) (hl:V.log.length<=10000) (hp:x.hops.length<=1000) (hr:r.drop=true):
  NP X N0 O0 n (.func (.func g) [] []) (NetV.ev { V with pk:=V.pk.set i (Pk.fin { x with hops:=x.hops++[⟨k,inp,-1⟩] } 2 k) } ⟨2,i,k,-1⟩) (.tup [.agg [.int .i64 2,.int .i64 i,.int .i64 k,.int .i64 (-1)],.int .i64 0]) (go Φ (finC [.cell 4 true 4,.tmp 5]) [.c stpK] .normal ⟨e,⟨O,N⟩⟩):=by
 have hi:=(Qm.1 hx).1;have hiH:=(Qm.1 hh).1;have hPl:look P O=some (.row 9 (pkN V.pk H)):=s.m.pk.id rfl;have hiN:i<(pkN V.pk H).length:=by rw [qbl s.m.hl];exact hi
 have hat:(pkN V.pk H)[i]=PkN x h:=by
  have:=qft hx hh;rw [Qa hiN] at this;exact Option.some.inj this
 rw [PkN] at hat;have E10:=E.e10;rw [Rslt.ce,hr] at E10;have t0:=s.fw.tl N (Qb _);have hPN:=s.fw.tl.lt hPl;have q0:¬N=P/\¬P=N:=by omega
 obtain ⟨q1,q2⟩:=q0;obtain ⟨y,hy,hy4⟩:=s.re;rcases s.m.hp i x h hx hh with ⟨hz,rfl⟩ | ⟨T,rfl,hT⟩
 ·have hz':x.hops=[]:=by simpa using hz
  have s1:=s.hopN hx hh hz' { x with hops:=x.hops++[⟨k,inp,-1⟩] } ⟨k,inp,-1⟩ (by simp [hz']) (Qb N);simp [stpK,c_29,E.e0,E.e1,E.e4,E.e6,E.e7,E.e8,E.e9,E10,hPl,hi,hiN,hat,t0,q1,q2,qab,qaa];refine qi6 s1 (x:={ x with hops:=x.hops++[⟨k,inp,-1⟩] }) (by simp [hi]) (by simp [hiH];rfl) fun O' s2=>?_
  simp [E.e0,E.e1,E.e4,E.e6,E.e7,E.e8,E.e9];refine qfh s2 hl fun O2 N2 lv2 s3 hN2=>?_
  obtain ⟨z,hz1,hz2⟩:=s3.re;simp [E.e0,E.e1,E.e4,E.e6,E.e7,E.e8,E.e9,hz1,hz2,qaa];simp only [QCo] at s3;exact s3.done
 ·have s1:=s.hopA hx hh { x with hops:=x.hops++[⟨k,inp,-1⟩] } ⟨k,inp,-1⟩ rfl;have hTP:=qan hT hPl (by simp);have hPT:=hTP.symm;have b5:(x.hops.length+1)*24<=70368744177664:=by omega
  simp at hT;simp [stpK,c_29,E.e0,E.e1,E.e4,E.e6,E.e7,E.e8,E.e9,E10,hPl,hi,hiN,hat,hT,hTP,hPT,b5,qab,qaa];refine qi6 s1 (x:={ x with hops:=x.hops++[⟨k,inp,-1⟩] }) (by simp [hi]) (by simp [hiH];rfl) fun O' s2=>?_
  simp [E.e0,E.e1,E.e4,E.e6,E.e7,E.e8,E.e9];refine qfh s2 hl fun O2 N2 lv2 s3 hN2=>?_
  obtain ⟨z,hz1,hz2⟩:=s3.re;simp [E.e0,E.e1,E.e4,E.e6,E.e7,E.e8,E.e9,hz1,hz2,qaa];simp only [QCo] at s3;exact s3.done
end
def sk0:Xv:=match stpK with | .seq a _=>a | c=>c
def sk1:Xv:=match stpK with | .seq _ (.seq a _)=>a | c=>c
def sk2:Xv:=match stpK with | .seq _ (.seq _ (.seq a _))=>a | c=>c
def sk3:Xv:=match stpK with | .seq _ (.seq _ (.seq _ (.seq a _)))=>a | c=>c
def stpL:Xv:=match stpK with | .seq _ (.seq _ (.seq _ (.seq _ a)))=>a | c=>c
theorem qaea:stpK= .seq sk0 (.seq sk1 (.seq sk2 (.seq sk3 stpL))):=rfl
theorem StS.up {X:Nat->Prop} {N0 N M n C P R:Nat} {O0 O:List (Nat×AO)} {V:NetV} {f lv:AV} {H:List AV} (s:StS X N0 O0 O N n V f C P R lv H) (h:N<=M):StS X N0 O0 O M n V f C P R lv H:=⟨s.m,s.fw.up h,s.ox,s.re,s.ro,s.rn⟩
theorem qaew {O:List (Nat×AO)} {N M:Nat} {y:AO} (hT:Tail O N) (hM:N<=M):Mn O (qaw M (qau (O++[(M,y)]))):=fun j z hj hz=>by
 have:=hT.lt hj;rw [qak (by omega),qaf (by rw [qab,hj];simpa using hz),qab,hj];rfl
theorem StS.tmp {X:Nat->Prop} {N0 N M n C P R:Nat} {O0 O:List (Nat×AO)} {V:NetV} {f lv:AV} {H:List AV} {y:AO} (s:StS X N0 O0 O N n V f C P R lv H) (h:N<=M):StS X N0 O0 (qaw M (qau (O++[(M,y)]))) (M+1) n V f C P R lv H:=by
 have hm:=qaew (y:=y) s.fw.tl h;have hN:=s.fw.le;obtain ⟨z,hz,h4⟩:=s.re;exact ⟨s.m.mn hm,((s.fw.app (N2:=M+1) (by omega) (by omega) (by omega)).sweep).drop (.inr (by omega)),s.ox,⟨z,hm _ _ hz (by simp),h4⟩,s.ro,s.rn⟩
section
variable {X:Nat->Prop} {N0 N n i k g C P R:Nat} {O0 O:List (Nat×AO)} {V:NetV} {lv h:AV} {H:List AV} {x:Pk} {e:Env} {inp:Int} {r:Rslt} {Q:Option (Rt×AH)->Prop}
theorem qx4 (s:StS X N0 O0 O N n V (.func (.func g) [] []) C P R lv H) (E:StE e n i P R k inp r) (hx:V.pk[i]? =some x) (hh:H[i]? =some h) (hl:V.log.length<=10000) (hp:x.hops.length<=1000) (hr:r.drop=false) (hdl:r.data.length<2^40)
  (hQ:∀e' O' N' lv' h',StS X N0 O0 O' N' n (NetV.ev { V with pk:=V.pk.set i { x with hops:=x.hops++[⟨k,inp,r.port⟩],data:=r.data } } ⟨2,i,k,r.port⟩) (.func (.func g) [] []) C P R lv' (H.set i h')->StE e' n i P R k inp r->look 12 e'=some (.iptr 4 [[.int .i64 2,.int .i64 i,.int .i64 k,.int .i64 r.port]] 0 0)->Q (go Φ (finC [.cell 4 true 4,.tmp 5]) [.c stpL] .normal ⟨e',⟨O',N'⟩⟩)):
  Q (go Φ (finC [.cell 4 true 4,.tmp 5]) [.c stpK] .normal ⟨e,⟨O,N⟩⟩):=by
 rw [qaea];have hi:=(Qm.1 hx).1;have hiH:=(Qm.1 hh).1;have hPl:look P O=some (.row 9 (pkN V.pk H)):=s.m.pk.id rfl;have hiN:i<(pkN V.pk H).length:=by rw [qbl s.m.hl];exact hi
 have hat:(pkN V.pk H)[i]=PkN x h:=by
  have:=qft hx hh;rw [Qa hiN] at this;exact Option.some.inj this
 rw [PkN] at hat;have E10:=E.e10;rw [Rslt.ce,hr] at E10;have hB:=clBy r.data hdl;have t0:=s.fw.tl N (Qb _);have hPN:=s.fw.tl.lt hPl;have q0:¬N=P/\¬P=N:=by omega
 obtain ⟨q1,q2⟩:=q0;rcases s.m.hp i x h hx hh with ⟨hz,rfl⟩ | ⟨T,rfl,hT⟩
 ·have hz':x.hops=[]:=by simpa using hz
  have s1:=s.hopN hx hh hz' { x with hops:=x.hops++[⟨k,inp,r.port⟩] } ⟨k,inp,r.port⟩ (by simp [hz']) (Qb N);have s2:=s1.pk (x:={ x with hops:=x.hops++[⟨k,inp,r.port⟩] }) (by simp [hi]) (List.getElem?_set_self hiH) { x with hops:=x.hops++[⟨k,inp,r.port⟩],data:=r.data } rfl;rw [qlh s.m.hl,qdk,QCo] at s2;simp only [QCo] at s2;simp [sk0,sk1,sk2,sk3,stpK,c_29,E.e0,E.e1,E.e4,E.e6,E.e7,E.e8,E.e9,E10,hB,hPl,hi,hiN,hat,t0,q1,q2,qab,qaa,qaf,qdk];refine qfh s2 hl fun O2 N2 lv2 s3 hN2=>?_
  have u0:=s3.fw.tl N2 (Qb _);simp [E.e0,E.e1,E.e4,E.e6,E.e7,E.e8,E.e9,u0,qab,qaa];refine hQ _ _ _ lv2 _ (s3.up (QAj _)) ⟨?_,?_,?_,?_,?_,?_,?_,?_⟩ ?_<;>simp [E.e0,E.e1,E.e4,E.e6,E.e7,E.e8,E.e9,E.e10]
 ·have s1:=s.hopA hx hh { x with hops:=x.hops++[⟨k,inp,r.port⟩] } ⟨k,inp,r.port⟩ rfl;have s2:=s1.pk (x:={ x with hops:=x.hops++[⟨k,inp,r.port⟩] }) (by simp [hi]) (List.getElem?_set_self hiH) { x with hops:=x.hops++[⟨k,inp,r.port⟩],data:=r.data } rfl;rw [qlh s.m.hl,qdk,QCo] at s2;simp only [QCo] at s2;have hTP:=qan hT hPl (by simp);have hPT:=hTP.symm;have b5:(x.hops.length+1)*24<=70368744177664:=by omega
  simp at hT;simp [sk0,sk1,sk2,sk3,stpK,c_29,E.e0,E.e1,E.e4,E.e6,E.e7,E.e8,E.e9,E10,hB,hPl,hi,hiN,hat,hT,hTP,hPT,b5,qab,qaa,qaf,qdk];refine qfh s2 hl fun O2 N2 lv2 s3 hN2=>?_
  have u0:=s3.fw.tl N2 (Qb _);simp [E.e0,E.e1,E.e4,E.e6,E.e7,E.e8,E.e9,u0,qab,qaa];refine hQ _ _ _ lv2 _ (s3.up (QAj _)) ⟨?_,?_,?_,?_,?_,?_,?_,?_⟩ ?_<;>simp [E.e0,E.e1,E.e4,E.e6,E.e7,E.e8,E.e9,E.e10]
theorem qvd (s:StS X N0 O0 O N n V (.func (.func g) [] []) C P R lv H) (E:StE e n i P R k inp r) (E12:look 12 e=some (.iptr 4 [[.int .i64 2,.int .i64 i,.int .i64 k,.int .i64 r.port]] 0 0)) (hx:V.pk[i]? =some x) (hh:H[i]? =some h) (hl:V.log.length<=10000) (hho:V.hosts.length<=1000)
  (ha:qa8 V.hosts (atP k r.port) 0=true):
  NP X N0 O0 n (.func (.func g) [] []) (NetV.ev { V with pk:=V.pk.set i (x.fin 1 (ixF (atP k r.port) V.hosts 0)) } ⟨3,i,ixF (atP k r.port) V.hosts 0,0⟩) (.tup [.agg [.int .i64 3,.int .i64 i,.int .i64 (ixF (atP k r.port) V.hosts 0),.int .i64 0],.int .i64 0]) (go Φ (finC [.cell 4 true 4,.tmp 5]) [.c stpL] .normal ⟨e,⟨O,N⟩⟩):=by
 have E10:=E.e10;rw [Rslt.ce] at E10;have hrow:=s.m.row;rw [qca] at hrow;have t0:=s.fw.tl N (Qb _);have k1:=qdl (V.ports.map cI) (V.links.map Link.c) V.hosts k r.port (by omega);rw [ha] at k1;have hnN:=s.fw.tl.lt hrow;have q0:¬N=n/\¬n=N:=by omega
 obtain ⟨q1,q2⟩:=q0;simp [stpL,stpK,c_29,E.e0,E.e1,E.e4,E.e6,E.e7,E.e8,E.e9,E10,E12,hrow,k1,t0,q1,q2,qab,qaa,qaf];refine qi6 (s.up (QAj _)) hx hh fun O' s2=>?_
 simp [E.e0,E.e1,E.e4,E.e6,E.e7,E.e8,E.e9];refine qfh s2 hl fun O2 N2 lv2 s3 hN2=>?_
 obtain ⟨z,hz1,hz2⟩:=s3.re;simp [E.e0,E.e1,E.e4,E.e6,E.e7,E.e8,E.e9,hz1,hz2,qaa];exact s3.done
theorem qve (s:StS X N0 O0 O N n V (.func (.func g) [] []) C P R lv H) (E:StE e n i P R k inp r) (E12:look 12 e=some (.iptr 4 [[.int .i64 2,.int .i64 i,.int .i64 k,.int .i64 r.port]] 0 0)) (hx:V.pk[i]? =some x) (hh:H[i]? =some h) (hl:V.log.length<=10000) (hho:V.hosts.length<=1000) (hli:V.links.length<=1000)
  (ha:qa8 V.hosts (atP k r.port) 0=false) (hp:(qcx V.ports V.links V.hosts ⟨k,r.port⟩).2≠0):
  NP X N0 O0 n (.func (.func g) [] []) (NetV.ev { V with pk:=V.pk.set i (x.fin 3 k) } ⟨4,i,k,r.port⟩) (.tup [.agg [.int .i64 4,.int .i64 i,.int .i64 k,.int .i64 r.port],.int .i64 0]) (go Φ (finC [.cell 4 true 4,.tmp 5]) [.c stpL] .normal ⟨e,⟨O,N⟩⟩):=by
 have E10:=E.e10;rw [Rslt.ce] at E10;have hrow:=s.m.row;rw [qca] at hrow;have t0:=s.fw.tl N (Qb _);have hT':∀k,look (N+1+k) O=none:=fun k=>s.fw.tl (N+1+k) (by omega)
 have k1:=qdl (V.ports.map cI) (V.links.map Link.c) V.hosts k r.port (by omega);have k2:=qhq V.ports V.links V.hosts k r.port (by omega) (by omega);rw [ha] at k1;rw [PortID.c] at k2;have hnN:=s.fw.tl.lt hrow;have q0:¬N=n/\¬n=N:=by omega
 obtain ⟨q1,q2⟩:=q0;have q3:∀k,¬N+1+k=n:=fun k=>by omega
 have q4:∀k,¬n=N+1+k:=fun k=>by omega
 have q5:∀k,(n == N+1+k)=false:=fun k=>by simp;omega
 simp [stpL,stpK,c_29,E.e0,E.e1,E.e4,E.e6,E.e7,E.e8,E.e9,E10,E12,hrow,k1,k2,hp,t0,hT',q1,q2,q3,q4,q5,qab,qaa,qaf];refine qi6 (s.tmp (M:=N+1+16) (by omega)) hx hh fun O' s2=>?_
 simp [E.e0,E.e1,E.e4,E.e6,E.e7,E.e8,E.e9,E10];refine qfh s2 hl fun O2 N2 lv2 s3 hN2=>?_
 obtain ⟨z,hz1,hz2⟩:=s3.re;simp [E.e0,E.e1,E.e4,E.e6,E.e7,E.e8,E.e9,hz1,hz2,qaa];exact s3.done
theorem qvf (s:StS X N0 O0 O N n V (.func (.func g) [] []) C P R lv H) (E:StE e n i P R k inp r) (E12:look 12 e=some (.iptr 4 [[.int .i64 2,.int .i64 i,.int .i64 k,.int .i64 r.port]] 0 0)) (hx:V.pk[i]? =some x) (hh:H[i]? =some h) (hho:V.hosts.length<=1000) (hli:V.links.length<=1000)
  (ha:qa8 V.hosts (atP k r.port) 0=false) (hp:(qcx V.ports V.links V.hosts ⟨k,r.port⟩).2=0):
  NP X N0 O0 n (.func (.func g) [] []) { V with pk:=V.pk.set i { x with pos:=(qcx V.ports V.links V.hosts ⟨k,r.port⟩).1 } } (.tup [.agg [.int .i64 2,.int .i64 i,.int .i64 k,.int .i64 r.port],.int .i64 0]) (go Φ (finC [.cell 4 true 4,.tmp 5]) [.c stpL] .normal ⟨e,⟨O,N⟩⟩):=by
 have hi:=(Qm.1 hx).1;have E10:=E.e10;rw [Rslt.ce] at E10;have hrow:=s.m.row;rw [qca] at hrow;have hPl:look P O=some (.row 9 (pkN V.pk H)):=s.m.pk.id rfl;have hiN:i<(pkN V.pk H).length:=by rw [qbl s.m.hl];exact hi
 have hat:(pkN V.pk H)[i]=PkN x h:=by
  have:=qft hx hh;rw [Qa hiN] at this;exact Option.some.inj this
 rw [PkN] at hat;have t0:=s.fw.tl N (Qb _);have hT':∀k,look (N+1+k) O=none:=fun k=>s.fw.tl (N+1+k) (by omega)
 have k1:=qdl (V.ports.map cI) (V.links.map Link.c) V.hosts k r.port (by omega);have k2:=qhq V.ports V.links V.hosts k r.port (by omega) (by omega);rw [ha] at k1;rw [PortID.c,hp] at k2;have hnN:=s.fw.tl.lt hrow;have hPN:=s.fw.tl.lt hPl;have q0:¬N=n/\¬n=N/\¬N=P/\¬P=N:=by omega
 obtain ⟨q1,q2,q6,q7⟩:=q0;have q3:∀k,¬N+1+k=n:=fun k=>by omega
 have q4:∀k,¬n=N+1+k:=fun k=>by omega
 have q5:∀k,(n == N+1+k)=false:=fun k=>by simp;omega
 have q8:∀k,¬N+1+k=P:=fun k=>by omega
 have q9:∀k,¬P=N+1+k:=fun k=>by omega
 have s1:=(s.tmp (M:=N+1+16) (y:= .row 2 [PortID.c (qcx V.ports V.links V.hosts ⟨k,r.port⟩).1]) (by omega)).pk hx hh { x with pos:=(qcx V.ports V.links V.hosts ⟨k,r.port⟩).1 } rfl;obtain ⟨z,hz1,hz2⟩:=s.re;have hRN:=s.fw.tl.lt hz1;have q10:∀k,¬N+1+k=R:=fun k=>by omega
 have q11:∀k,¬R=N+1+k:=fun k=>by omega
 have hRP:R≠P:=(s.ro P (.inr (.inr (.inl rfl)))).symm;have hPR:=hRP.symm;simp [stpL,stpK,c_29,E.e0,E.e1,E.e4,E.e6,E.e7,E.e8,E.e9,E10,E12,hrow,k1,k2,t0,hT',q1,q2,q3,q4,q5,q6,q7,q8,q9,q10,q11,hRP,hPR,hPl,hi,hiN,hat,hz1,hz2,qab,qaa,qaf,qak];exact s1.done
end
section
variable {O:List (Nat×AO)} {n N g C:Nat} {V:NetV} {pv lv:AV} {H:List AV} {X:Nat->Prop}
theorem qxa (m:NetM O n V (.func (.func g) [] []) C pv lv H) (hX:∀j,NetM.own n C pv lv H j->X j) (hT:Tail O N) (id:Int) (hz:chkV V id≠0):
  NP X N O n (.func (.func g) [] []) V (.tup [.agg (Event.c ev0),.int .i64 (chkV V id)]) (qai Φ f_29 [.ptr n 7 0 0,.int .i64 id] ⟨O,N⟩):=by
 rw [qat (fn:=c_29) rfl rfl,qpe,show c_29.results=[.cell 4 true 4,.tmp 5] from rfl];have hrow:=m.row;have hm:=fun O N=>qem (O:=O) (N:=N) (n:=n) (V:=V) (cv:= .row C 4 0 V.cs.length) (pv:=pv) (lv:=lv) (g:=g)
 rw [qca] at hrow hm;have t0:=hT N (Qb _);have lt:=hT.lt hrow;have q0:¬N=n/\¬n=N:=by omega
 obtain ⟨q1,q2⟩:=q0;have hlen:lenOf pv=some V.pk.length:=by
  rcases m.pk with ⟨h,rfl⟩ | ⟨P,rfl,_⟩
  ·have:=qbl m.hl;rw [h] at this;simpa using this
  ·simp [qbl m.hl]
 have fin:∀y,NP X N O n (.func (.func g) [] []) V (.tup [.agg [.int .i64 0,.int .i64 0,.int .i64 0,.int .i64 0],.int .i64 (chkV V id)]) (some (.val (.tup [.agg [.int .i64 0,.int .i64 0,.int .i64 0,.int .i64 0],.int .i64 (chkV V id)]),⟨O++[(N,y)],N+1⟩)):=fun y=>⟨_,_,rfl,⟨C,pv,lv,H,m.mn Mn.app,fun j hj=> .inl (hX j hj)⟩,(Fw.init hT).app (Qb _) (QAu _) (QAj _)⟩
 unfold chkV at*;by_cases z1:id<0
 ·rw [QAa (.inl z1)] at fin ⊢;simp [st0,st1,c_29,hm,hrow,z1,hlen,t0,q1,q2,qab,qaa,Event.ce,ev0,-lenOf];exact fin _
 obtain ⟨k,rfl⟩:=QAc (show 0<=id by omega);by_cases z2:V.pk.length<=k
 ·have z2':(V.pk.length:Int)<=k:=by omega
  rw [QAa (.inr z2')] at fin ⊢;simp [st0,st1,c_29,hm,hrow,z2,hlen,t0,q1,q2,qab,qaa,Event.ce,ev0,-lenOf];exact fin _
 have hk:k<V.pk.length:=by omega
 rw [QA (by omega)] at fin hz ⊢;have hd:V.pk[k].done=true:=by
  simp [hk] at hz;exact hz
 have hgd:(V.pk.getD (Int.toNat (k:Int)) default).done=true:=by simp [hk,hd]
 rw [QAa hgd] at fin ⊢;rcases m.pk with ⟨h,rfl⟩ | ⟨P,rfl,hP⟩
 ·have:=qbl m.hl;rw [h] at this;simp at this;omega
 ·have hHk:k<H.length:=by rw [m.hl];exact hk
  have hat:=qft (Qa hk) (Qa hHk);have hiN:k<(pkN V.pk H).length:=by rw [qbl m.hl];exact hk
  rw [Qa hiN] at hat;have hat:=Option.some.inj hat;rw [PkN,hd] at hat;have hPN:=hT.lt hP;have q0:¬N=P/\¬P=N:=by omega
  obtain ⟨q3,q4⟩:=q0;simp only [qbl m.hl] at hlen hrow hm fin ⊢;simp [st0,st1,c_29,hm,hrow,z2,hP,hk,hiN,hat,t0,q1,q2,q3,q4,qab,qaa,Event.ce,ev0];exact fin _
end
def okB' (b:List Int):Prop:=∀x∈b,0<=x/\x<=255
structure PrcOk (g:Nat) (G:Xf->Prop) (P:Xf->Int->List Int->Rslt×Xf):Prop where
 run:∀c s d,G c->okB' d->d.length<=1000->qac Φ g [.agg (Xf.c c),.agg [.int .i64 s,.slice 1 (d.map c8)]]=some (.val (.tup [.agg (Rslt.c (P c s d).1),.agg (Xf.c (P c s d).2)]))
 cfg:∀c s d,G c->okB' d->d.length<=1000->G (P c s d).2
 dat:∀c s d,G c->okB' d->d.length<=1000->okB' (P c s d).1.data/\(P c s d).1.data.length<=1000
 cc:∀c,G c->CfgC c
structure NetI (G:Xf->Prop) (V:NetV):Prop where
 s:NetS V
 lg:V.log.length<=9000
 top:qbo V.ports V.links V.hosts=0
 cl:V.cs.length=V.ports.length
 cg:∀c∈V.cs,G c
 pk:∀x∈V.pk,okB' x.data/\x.data.length<=1000/\(x.done=false->0<=x.pos.switch/\x.pos.switch<V.cs.length)
theorem qqa {V:NetV} {id:Int} (h:chkV V id=0):∃i:Nat,id=i/\∃hi:i<V.pk.length,V.pk[i].done=false:=by
 unfold chkV at h;by_cases z:id<0\/(V.pk.length:Int)<=id
 ·rw [QAa z] at h;cases h
 ·rw [QA z] at h;obtain ⟨i,rfl⟩:=QAc (show 0<=id by omega);have hi:i<V.pk.length:=by omega
  refine ⟨i,rfl,hi,?_⟩;simp [hi] at h;exact h
section
variable {O:List (Nat×AO)} {n N g C:Nat} {V:NetV} {pv lv:AV} {H:List AV} {X:Nat->Prop} {G:Xf->Prop} {P:Xf->Int->List Int->Rslt×Xf}
theorem qzp (hP:PrcOk g G P) (I:NetI G V) (m:NetM O n V (.func (.func g) [] []) C pv lv H) (hX:∀j,NetM.own n C pv lv H j->X j) (hT:Tail O N) (id:Int):
  NP X N O n (.func (.func g) [] []) (stpV P V id).1 (.tup [.agg (Event.c (stpV P V id).2.1),.int .i64 (stpV P V id).2.2]) (qai Φ f_29 [.ptr n 7 0 0,.int .i64 id] ⟨O,N⟩):=by
 by_cases hz:chkV V id=0
 rotate_left
 ·have:=qxa m hX hT id hz;simpa [stpV,hz] using this
 obtain ⟨i,rfl,hi,hd⟩:=qqa hz;have hmem:=Qd hi;obtain ⟨hdb,hdl,hpos⟩:=I.pk _ hmem;obtain ⟨hs0,hs1⟩:=hpos hd;obtain ⟨x,hx⟩:∃x,V.pk[i]=x:=⟨_,rfl⟩;rw [hx] at hd hdb hdl hs0 hs1 hmem;obtain ⟨k,hs⟩:=QAc hs0;have hk:k<V.cs.length:=by omega
 have hG:=I.cg _ (Qd hk);have hgp:V.pk[i]?.getD default=x:=by simp [hi,hx]
 have hgc:V.cs[k]?.getD default=V.cs[k]:=by simp [hk]
 have hst:stpV P V i=(qfr V i (P V.cs[k] x.pos.port x.data).1 (P V.cs[k] x.pos.port x.data).2,qlf V i (P V.cs[k] x.pos.port x.data).1,0):=by
  simp [stpV,hz,hgp,hs,hgc]
 rw [hst];have hrun:=hP.run _ x.pos.port _ hG hdb hdl;have hG':=hP.cfg _ x.pos.port _ hG hdb hdl;have hdat:=hP.dat _ x.pos.port _ hG hdb hdl;generalize hr:(P V.cs[k] x.pos.port x.data).1=r at*;generalize hc:(P V.cs[k] x.pos.port x.data).2=c' at*;have hiH:i<H.length:=by rw [m.hl];exact hi
 have hh:=Qa hiH;rcases m.pk with ⟨h,rfl⟩ | ⟨Q,rfl,hQ⟩
 ·have:=qbl m.hl;rw [h] at this;simp at this;omega
 rw [qbl m.hl] at m hX;have hxg:V.pk[i]? =some x:=by rw [Qa hi,hx]
 have hhp:=I.s.hp x hmem;have hgl:=I.s.g;refine qaat m hX hT hi hx hh hs hk (hP.cc _ hG) (hP.cc _ hG') hd (by omega) hrun _ fun e O1 N1 m1 f1 z1 lt1 e0 e1 e4 e6 e7 e8 e9 e10=>?_
 have E:StE e n i Q N k x.pos.port r:=⟨e0,e1,e4,e6,e7,e8,e9,e10⟩;have hro:∀j,NetM.own n C (.row Q 9 0 V.pk.length) lv H j->j≠N:=fun j hj=>by
  obtain ⟨y,hy,_⟩:=m.nr hj;have:=hT.lt hy;omega
 have s1:StS X N O O1 N1 n { V with cs:=V.cs.set k c' } (.func (.func g) [] []) C Q N lv H:=⟨m1,f1,fun j hj=> .inl (hX j hj),⟨_,z1,rfl⟩,hro,Qb _⟩;cases hdr:r.drop with
 | true=>
  have:=qvc s1 E hxg hh hgl hhp hdr;simpa [qfr,qlf,mv,mvD,hdr,hgp,hs,NetV.ev,hop1,Pk.fin,Event.ce] using this
 | false=>
  refine qx4 s1 E hxg hh hgl hhp hdr (by omega) fun e2 O2 N2 lv2 h2 s2 E2 e12=>?_
  have hiP:(V.pk.set i { x with hops:=x.hops++[⟨k,x.pos.port,r.port⟩],data:=r.data })[i]? =some { x with hops:=x.hops++[⟨k,x.pos.port,r.port⟩],data:=r.data }:=List.getElem?_set_self hi;have hiH2:(H.set i h2)[i]? =some h2:=List.getElem?_set_self hiH;have hlg:(V.log++[(⟨2,i,k,r.port⟩:Event)]).length<=10001:=by simp;omega
  cases ha:qa8 V.hosts (atP k r.port) 0 with
  | true=>
   have:=qvd s2 E2 e12 hiP hiH2 (by have:=I.lg;simp [NetV.ev];omega) I.s.h ha;simpa [qfr,qlf,mv,mvP,hdr,hgp,hs,NetV.ev,hop1,Pk.fin,Event.ce,ha] using this
  | false=>
   by_cases hpe:(qcx V.ports V.links V.hosts ⟨k,r.port⟩).2=0
   ·have:=qvf s2 E2 e12 hiP hiH2 I.s.h I.s.l ha hpe;simpa [qfr,qlf,mv,mvP,hdr,hgp,hs,NetV.ev,hop1,Pk.fin,Event.ce,ha,hpe] using this
   ·have:=qve s2 E2 e12 hiP hiH2 (by have:=I.lg;simp [NetV.ev];omega) I.s.h I.s.l ha hpe;simpa [qfr,qlf,mv,mvP,hdr,hgp,hs,NetV.ev,hop1,Pk.fin,Event.ce,ha,hpe] using this
end
section
variable (V:NetV) (id:Int) (i:Nat)
end
def PkF (x:Pk):List AV:=[.int .i64 x.pos.switch,.int .i64 x.pos.port,.slice 1 (x.data.map c8),.slice 3 (x.hops.map Hop.c),.bool x.done,.int .i64 x.kind,.int .i64 x.index,.slice 3 [],.slice 2 []]
def nwF (V:NetV) (f:AV):List AV:=nwR V (.slice 4 (V.cs.map Xf.c)) (.slice 9 (V.pk.map PkF)) (.slice 4 (V.log.map Event.c)) f
theorem nwF_e (V:NetV) (f:AV):nwF V f=[.slice 1 (V.ports.map cI),.slice 5 (V.links.map Link.c),.slice 2 (V.hosts.map PortID.c),.slice 4 (V.cs.map Xf.c),.slice 9 (V.pk.map PkF),.slice 4 (V.log.map Event.c),f]:=rfl
theorem clHop (l:List Hop) (h:l.length<2^40):qac Φ f_46 [.slice 3 (l.map Hop.c)]=some (.val (.slice 3 (l.map Hop.c))):=
 qc8 (bytes:=24) rfl _ (alH l) (by rw [QAb];omega)
theorem clEv (l:List Event) (h:l.length<2^40):qac Φ f_44 [.slice 4 (l.map Event.c)]=some (.val (.slice 4 (l.map Event.c))):=
 qc8 (bytes:=32) rfl _ (al4 l) (by rw [QAb];omega)
def b2sV (h:AH) (o:Option AV):Option (AV×AH):=match o with
 | some v=>evOp [(0,v)] 0 h (.b2s (.t 0))
 | none=>none
theorem qaj0 (h:AH) (z:Nat):b2sV h (some (.slice z []))=some (.str [],h):=rfl
theorem qaiy (h:AH) (z:Nat):b2sV h (some (.Xu z []))=some (.str [],h):=rfl
section
variable (V:NetV) (g:Nat) (id:Int) (i:Nat)
end
section
variable (V:NetV) (g:Nat)
end
theorem qw4 {α β:Type} {f:α->Option β}:∀{l:List α} {m:List β},l.length=m.length->(∀(k:Nat) (x:α) (y:β),l[k]? =some x->m[k]? =some y->f x=some y)->mapO f l=some m:=qkh
theorem Ex1.snp {O:List (Nat×AO)} {N z n:Nat} {v:AV} {es es':List (List AV)} (h:Ex1 O z v es) (he:mapO (mapO (snap n ⟨O,N⟩)) es=some es'):snap (n+1) ⟨O,N⟩ v=some (.slice z es'):=by
 rcases h with ⟨rfl,rfl⟩ | ⟨t,rfl,ht⟩
 ·simp only [mapO,Option.some.injEq] at he;subst he;simp
 ·simp [ht,he]
theorem NetM.snp {O:List (Nat×AO)} {n N g:Nat} {V:NetV} {C:Nat} {pv lv:AV} {H:List AV} (m:NetM O n V (.func (.func g) [] []) C pv lv H) (k:Nat):snap (k+5) ⟨O,N⟩ (.ptr n 7 0 0)=some (.iptr 7 [nwF V (.func (.func g) [] [])] 0 0):=by
 have hrow:=m.row;rw [qca] at hrow;have h1:snap (k+4) ⟨O,N⟩ (.row C 4 0 V.cs.length)=some (.slice 4 (V.cs.map Xf.c)):=by
  have:=m.cf;simp [this,qol,snpL (fun x=>snpCf (n:=k+2) (H:=⟨O,N⟩) x)]
 have h2:snap (k+4) ⟨O,N⟩ pv=some (.slice 9 (V.pk.map PkF)):=by
  refine m.pk.snp (qw4 (by simp [qbl m.hl]) ?_);intro i y z hy hz;rw [List.getElem?_map] at hz;cases hx:V.pk[i]? with
  | none=>rw [hx] at hz;cases hz
  | some x=>
   rw [hx] at hz;simp only [QAy,Option.some.injEq] at hz;subst hz;have hi:=(Qm.1 hx).1;have hiH:i<H.length:=by rw [m.hl];exact hi
   have hh:=Qa hiH;rw [qft hx hh] at hy;simp only [Option.some.injEq] at hy;subst hy;have:=(m.hp i x _ hx hh).snp (N:=N) (n:=k+2);simp [PkN,PkF,mapO,this]
 have h3:snap (k+4) ⟨O,N⟩ lv=some (.slice 4 (V.log.map Event.c)):=m.lg.snp;simp [hrow,h1,h2,h3,nwF_e]
def pF:Prg:=⟨[102,97,98,114,105,99],
 [⟨[98,97,115,101],[⟨[107,105,110,100],8⟩]⟩,⟨[116,97,103],[⟨[118,101,114,115,105,111,110],8⟩,⟨[108,97,98,101,108],8⟩]⟩,⟨[102,108,111,119],[⟨[115,114,99],8⟩,⟨[100,115,116],8⟩,⟨[116,121,112,101],8⟩]⟩],
 [⟨[105,110],8⟩,⟨[111,117,116],8⟩,⟨[100,114,111,112],1⟩,⟨[99,111,117,110,116],16⟩],
 [⟨[115,101,101,110],16,16⟩],
 [⟨[115,116,97,109,112],[⟨[118,101,114,115,105,111,110],8⟩],[⟨2,⟨0,0⟩,0,1,[],[]⟩,⟨1,⟨1,0⟩,0,0,[],[⟨3,0,0⟩]⟩,⟨1,⟨0,0⟩,0,0,[],[⟨1,2,8⟩]⟩,⟨4,⟨-1,3⟩,0,0,[⟨2,-1,0⟩],[]⟩,⟨5,⟨0,0⟩,0,0,[⟨2,-1,0⟩],[⟨9,0,0⟩,⟨2,-1,3⟩,⟨1,1,16⟩]⟩]⟩,⟨[112,97,115,115],[],[]⟩,⟨[102,111,114,119,97,114,100],[⟨[112,111,114,116],8⟩,⟨[108,97,98,101,108],8⟩],[⟨1,⟨-1,1⟩,0,0,[],[⟨3,0,0⟩]⟩,⟨1,⟨1,1⟩,0,0,[],[⟨3,1,0⟩]⟩]⟩,⟨[100,101,108,105,118,101,114],[⟨[112,111,114,116],8⟩],[⟨1,⟨-1,1⟩,0,0,[],[⟨3,0,0⟩]⟩,⟨3,⟨0,0⟩,0,1,[],[]⟩,⟨1,⟨0,0⟩,0,0,[],[⟨1,1,8⟩]⟩]⟩,⟨[100,114,111,112],[],[⟨1,⟨-1,2⟩,0,0,[],[⟨1,1,1⟩]⟩]⟩],
 [⟨[105,110,103,114,101,115,115],[⟨⟨-1,0⟩,1⟩],[0,4],⟨4,[]⟩,16⟩,⟨[116,114,117,110,107],[⟨⟨-1,0⟩,1⟩],[1,4],⟨4,[]⟩,16⟩,⟨[112,97,116,104],[⟨⟨-1,0⟩,3⟩,⟨⟨1,0⟩,3⟩,⟨⟨1,1⟩,3⟩,⟨⟨2,0⟩,3⟩,⟨⟨2,1⟩,3⟩,⟨⟨2,2⟩,3⟩],[2,3,4],⟨4,[]⟩,256⟩],
 [⟨[115,116,97,114,116],[0],true,⟨0,0⟩,[⟨1,255,2⟩,⟨2,255,1⟩],-2⟩,⟨[116,97,103,103,101,100],[1],false,⟨0,0⟩,[],2⟩,⟨[102,108,111,119,115],[2],false,⟨0,0⟩,[],-1⟩],
 [.mk 2 0 [⟨4,1,0⟩] [.mk 1 1 [] [] []] [.mk 1 0 [] [] []],.mk 2 0 [⟨15,0,0⟩,⟨2,-1,2⟩,⟨1,0,1⟩] [.mk 1 2 [] [] []] []],
 [0,1,2]⟩
theorem qam {Φ:FuncId->Option AFun} {f:FuncId} {xs:List AV} {n:Nat} {r:Rt} (h:qdx (evF Φ n f xs H0)=some r):qac Φ f xs=some r:=by
 unfold qac;cases hc:evF Φ n f xs H0 with
 | none=>rw [hc] at h;cases h
 | some p=>rw [qp8 Φ hc,<- hc];exact h
theorem qs2:qac Φ f_34 []=some (.val (.agg (Prg.c pF))):=qam (n:=100) (by kernel_rfl)
theorem qtn:qac Φ f_26 []=some (.val (.agg (Prg.c pF))):=qam (n:=100) (by kernel_rfl)
theorem pcF1:qac Φ f_80 [.agg (Prg.c pF)]=some (.val (.agg (dgC (prgD pF)))):=qam (n:=200) (by kernel_rfl)
theorem pcF2:qac Φ f_88 [.agg (Prg.c pF)]=some (.val (.agg (dgC (prgD pF)))):=qam (n:=200) (by kernel_rfl)
theorem pcF:PC pF:=⟨pcF1,pcF2⟩
theorem qni:pF.Ok qba:=by
 have e:=qdf;simp [pF,Prg.Ok,qdt,okL,Xj.Ok,Fld.Ok,Xh.Ok,Action.Ok,Xg.Ok,Tbl.Ok,Xb.Ok,Xd.Ok,Xk.Ok,Xa.Ok,Xa.Oks,Xe.Ok,FieldRef.Ok,Xl.Ok,okI,ok32,okT];omega
theorem pF_hv:∀t∈pF.Xn,∀v∈t.dflt.args,ok32 0 v:=by simp [pF]
theorem qadd:(prgD pF).1=0:=by kernel_rfl
def cfgF (cs:List Xf) (k:Nat):Option Int:=cs[k]?.bind fun c=>if cfgE pF c=0 then none else some (cfgE pF c)
def newE (ports:List Int) (links:List Link) (hosts:List PortID) (cs:List Xf):Int:=
 if qbo ports links hosts≠0 then qbo ports links hosts else if cs.length≠ports.length then 2 else (fe (cfgF cs) cs.length 0).getD 0
theorem pF_s:PrgS pF:=qfy qni
theorem qabr {cs:List Xf} {k:Nat} {x:Int} (h:cfgF cs k=some x):x≠0:=by
 unfold cfgF at h;rw [Qt] at h;obtain ⟨c,_,h⟩:=h;split at h
 ·cases h
 ·cases h;assumption
theorem cfgCT {c:Xf} (s:CfgT c) (hl:∀l∈c.rows,l.length<2^39):CfgC c:=⟨s.rl,fun l h=>⟨hl l h,fun r hr=>⟨(show EntS r.entry from (s.rs l h).2 r hr).kl,(show EntS r.entry from (s.rs l h).2 r hr).al⟩⟩,s.nl,s.dl,fun d hd=>(s.ds d hd).1,s.gl,fun l h=>(s.gs l h).1⟩
theorem qml {ports:List Int} {links:List Link} {hosts:List PortID} (h:qbo ports links hosts=0):0<ports.length/\ports.length<=16/\links.length<=32/\hosts.length<=16:=by
 unfold qbo at h;split at h
 ·cases h
 split at h
 ·cases h
 split at h
 ·cases h
 split at h
 ·cases h
 rename_i h1 h2 h3 h4;refine ⟨List.length_pos_iff.2 h1,by omega,by omega,by omega⟩
def NewQ (N:Nat) (O:List (Nat×AO)) (V:NetV) (f:AV) (e:Int) (r:Option (Rt×AH)):Prop:=
 ∃O' N' v,r=some (.val (.tup [v,.int .i64 e]),⟨O',N'⟩)/\Fw (fun _=>False) N O O' N'/\(e≠0->v= .nilptr)/\(e=0->∃n,v= .ptr n 7 0 0/\NetW O' n V f (fun j=>N<=j))
section
variable (ports:List Int) (links:List Link) (hosts:List PortID) (cs:List Xf) (hl:cs.length<2^39) (hs:∀c∈cs,CfgT c/\∀l∈c.rows,l.length<2^39) (g:Nat)
include hl hs
theorem qaex {O:List (Nat×AO)} {N:Nat} (hT:Tail O N):NewQ N O ⟨ports,links,hosts,cs,[],[]⟩ (.func (.func g) [] []) (newE ports links hosts cs) (qai Φ f_9 [.agg [.slice 1 (ports.map cI),.slice 5 (links.map Link.c),.slice 2 (hosts.map PortID.c)],.slice 4 (cs.map Xf.c),.func (.func g) [] []] ⟨O,N⟩):=by
 rw [qat (fn:=c_9) rfl rfl];have k0:=qgx ports links hosts;have t0:=hT N (Qb _);by_cases z1:qbo ports links hosts=0
 rotate_left
 ·rw [show newE ports links hosts cs=qbo ports links hosts by simp [newE,z1]];simp [c_9,k0,z1];exact ⟨_,_,_,rfl,Fw.init hT,fun _=>rfl,fun h=>absurd h z1⟩
 rw [z1] at k0;by_cases z2:cs.length=ports.length
 rotate_left
 ·rw [show newE ports links hosts cs=2 by simp [newE,z1,z2]];have z2':¬((cs.length:Int)=ports.length):=by omega
  simp [c_9,k0,z2];exact ⟨_,_,_,rfl,Fw.init hT,fun _=>rfl,fun h=>by cases h⟩
 rw [show newE ports links hosts cs=(fe (cfgF cs) cs.length 0).getD 0 by simp [newE,z1,z2]];have k1:=qs2;simp only [Prg.e] at k1;obtain ⟨hpo,hp1,hp2,hp3⟩:=qml z1;simp [c_9,k0,z2,k1,t0];refine quv (σ:={ i:Nat // i<=ports.length }) (fun x=>ports.length - x.1) (fun x e h=>∃n,h=⟨O,n⟩/\N<=n/\look 1 e=some (.slice 4 (cs.map Xf.c))/\look 2 e=some (.func (.func g) [] [])/\look 3 e=some (.iptr 3 [[.slice 1 (ports.map cI),.slice 5 (links.map Link.c),.slice 2 (hosts.map PortID.c)]] 0 0)/\look 9 e=some (.iptr 9 [Prg.c pF] 0 0)/\look 29 e=some (.slice 4 (cs.map Xf.c))/\look 30 e=some (.int .i64 ports.length)/\look 31 e=some (.int .i64 x.1))
  (fun x=>NewQ N O ⟨ports,links,hosts,cs,[],[]⟩ (.func (.func g) [] []) ((fe (cfgF cs) ports.length x.1).getD 0)) ?_ ⟨0,Qc _⟩ _ _ ?_
 ·rintro ⟨i,hi⟩ e _ L hL ⟨n,rfl,hn,h1,h2,h3,h9,h29,h30,h31⟩ ih;simp only at h31 hi ⊢;have tn:=hT n hn;rcases Nat.lt_or_eq_of_le hi with hlt | heq
  ·have hic:i<cs.length:=by omega
   have hw:=qao i (by omega);have hck:=qsz pF pF_s pcF cs[i] (hs _ (Qd hic)).1;rw [Xf.e4] at hck;by_cases q:cfgE pF cs[i]=0
   ·rw [qbf hlt (by simp [cfgF,hic,q])];rw [q] at hck;simp only [Prg.e] at hck h9;simp [c_9_l0,h9,h29,h30,h31,hlt,hic,hL,Xf.e4,hck,hw,tn];exact ih ⟨i+1,hlt⟩ _ _ (by simp only;omega) ⟨_,rfl,by omega,by simp [h1],by simp [h2],by simp [h3],by simp [h9,Prg.e],by simp [h29],by simp [h30],by simp⟩
   ·rw [qbj (x:=cfgE pF cs[i]) hlt (by simp [cfgF,hic,q])];simp only [Prg.e] at hck h9;simp [c_9_l0,h9,h29,h30,h31,hlt,hic,hL,Xf.e4,hck,hw,tn,q];exact ⟨_,_,_,rfl,(Fw.init hT).up (by omega),fun _=>rfl,fun h=>absurd h q⟩
  ·subst heq;rw [qb7];have kc:=qfw ports links hosts (by omega) (by omega) (by omega);simp [c_9_l0,c_9_k1,h1,h2,h3,h30,h31,hL,kc];obtain ⟨w,O2,N2,e2,x2,f2,kp2,T2,l2⟩:=qht cs (fun c hc=>cfgCT (hs c hc).1 (hs c hc).2) hl (hT.mono hn) (v:= .slice 4 (cs.map Xf.c)) (.sl _);rcases x2 with ⟨hz,_⟩ | ⟨C,rfl,hC⟩
   ·rw [List.map_eq_nil_iff] at hz;rw [hz] at z2;simp at z2;omega
   have u2:=T2 N2 (Qb _);have hCN:=T2.lt hC;have hCn:=f2 C rfl;simp [e2,h1,h2,h3,u2];refine ⟨_,_,_,rfl,⟨?_,T2.app1 (Qb _),by omega⟩,fun h=>absurd rfl h,fun _=>⟨N2,rfl,C,.Xu 9 [],.Xu 4 [],[],⟨?_,?_,.inl ⟨rfl,rfl⟩,rfl,by simp,.inl ⟨rfl,rfl⟩,by simp,by simp⟩,?_⟩⟩
   ·intro j hj _;have:¬N2=j:=by omega
    rw [qab,kp2 j (by omega) (by simp)];simp [this]
   ·simp [qab,u2,qca,z2]
   ·simp [qab,hC]
   ·intro j hj;rcases hj with rfl | rfl | hj | hj | ⟨h,hh,_⟩
    ·omega
    ·omega
    ·cases hj
    ·cases hj
    ·cases hh
 ·simp [Prg.e]
end
section
variable (ports:List Int) (links:List Link) (hosts:List PortID) (cs:List Xf) (hl:cs.length<2^39) (hs:∀c∈cs,CfgT c/\∀l∈c.rows,l.length<2^39)
include hl hs
end
theorem qmr {Ψ:FuncId->Option AFun} {f z bytes:Nat} (hf:Ψ f=some (.rule (qcz z bytes .app))) {O:List (Nat×AO)} {N:Nat} (hN:look N O=none) {v:AV} {es:List (List AV)} (hv:Ap O z v es) (hz:qa9 z es=true) (hb:es.length*bytes<=70368744177664):qai Ψ f [v] ⟨O,N⟩=some (.val (.app z es N),⟨O++[(N,.tok z es.length)],N+1⟩):=by
 rw [qgy Ψ hf];rcases hv with ⟨rfl,rfl⟩ | ⟨t,rfl,_⟩
 ·simp [qcz,lenOf,qch,evR,AH.put,hN]
 ·cases es with
  | nil=>
   simp [qcz,lenOf,qch,evR,AH.put,hN]
  | cons x es=>
   simp only [QBk] at hb;simp [qcz,lenOf,evR,AH.put,hz,hb,hN]
theorem rf_ap {O:List (Nat×AO)} {z n:Nat} {v:AV} {es:List (List AV)} (h:Ap O z v es) (he:∀e∈es,∀c∈e,Rf n c):Rf (n+1) v:=by
 rcases h with ⟨rfl,rfl⟩ | ⟨t,rfl,_⟩
 ·exact Rf.Xu _ _ _ (by simp)
 ·exact Rf.app _ _ _ _ he
theorem rf_ex {O:List (Nat×AO)} {z n:Nat} {v:AV} {es:List (List AV)} (h:Ex1 O z v es):Rf (n+1) v:=by
 rcases h with ⟨rfl,rfl⟩ | ⟨t,rfl,_⟩
 ·exact Rf.Xu _ _ _ (by simp)
 ·exact Rf.row _ _ _ _ _
theorem rf_ev (n:Nat) (x:Event):∀c∈Event.c x,Rf (n+1) c:=by simp [Event.c,Rf.int]
theorem qadr (n:Nat) (x:Link):∀c∈Link.c x,Rf (n+1) c:=by simp [Link.c,Rf.int,Rf.bool]
theorem qads (n:Nat) (x:PortID):∀c∈PortID.c x,Rf (n+1) c:=by simp [PortID.c,Rf.int]
theorem qadq (n g:Nat):Rf (n+1) (.func (.func g) [] []):=by unfold Rf avEq;simp [eqL]
section
variable {O:List (Nat×AO)} {n N g C:Nat} {V:NetV} {pv lv:AV} {H:List AV}
theorem qyh (m:NetM O n V (.func (.func g) [] []) C pv lv H):aoEq (some (.row 7 [nwR V (.row C 4 0 V.cs.length) pv lv (.func (.func g) [] [])])) (some (.row 7 [nwR V (.row C 4 0 V.cs.length) pv lv (.func (.func g) [] [])]))=true:=by
 have h:∀x∈nwR V (.row C 4 0 V.cs.length) pv lv (.func (.func g) [] []),avEq 40 x x=true:=by
  intro x hx;simp only [nwR,QAg,QAo,or_false] at hx;rcases hx with rfl | rfl | rfl | rfl | rfl | rfl | rfl
  ·exact Rf.map _ _ _ _ fun x _=>rf_I _ x
  ·exact Rf.map _ _ _ _ fun x _=>qadr _ x
  ·exact Rf.map _ _ _ _ fun x _=>qads _ x
  ·exact Rf.row _ _ _ _ _
  ·exact rf_ex m.pk
  ·refine rf_ap m.lg fun e he=>?_
   obtain ⟨l,_,rfl⟩:=QAt.1 he;exact rf_ev _ l
  ·exact qadq _ _
 have h1:=qfo (avEq 40) _ h;unfold aoEq;simp [qah,eqL,h1]
theorem NetM.pushG {O':List (Nat×AO)} {f pv' h':AV} {x:Pk} (m:NetM O n V f C pv lv H) (hr:look n O'=some (.row 7 [nwR V (.row C 4 0 V.cs.length) pv' lv f])) (hp:Ex1 O' 9 pv' (pkN V.pk H++[PkN x h'])) (hx:Ap O' 3 h' (x.hops.map Hop.c)) (htk:∀t,tkn h'=some t->look t O=none\/look t O=some .res)
  (hk:∀(j:Nat) (y:AO),look j O=some y->y≠ .res->j≠n->vid pv≠some j->look j O'=some y):NetM O' n { V with pk:=V.pk++[x] } f C pv' lv (H++[h']):=by
 have ho:∀j,NetM.own n C pv lv H j->j≠n->vid pv≠some j->look j O'=look j O:=by
  intro j hj h1 h2;obtain ⟨y,hy,hny⟩:=m.nr hj;rw [hk j y hy hny h1 h2,hy]
 have hpv:∀j y,look j O=some y->(∀es,y≠ .row 9 es)->vid pv≠some j:=by
  intro j y hj hy hc;have:=m.pk.id hc;rw [hj] at this;cases this;exact hy _ rfl
 have hnew:∀t y,look t O=some y->y≠ .res->tkn h'≠some t:=by
  intro t y hy hny hc;rcases htk t hc with h1 | h1<;>rw [h1] at hy<;>cases hy
  exact hny rfl
 have hlast:∀(k:Nat) (h:AV),(H++[h'])[k]? =some h->(k<H.length/\H[k]? =some h)\/(k=H.length/\h=h'):=by
  intro k h hh;by_cases hk':k<H.length
  ·rw [Ql hk'] at hh;exact .inl ⟨hk',hh⟩
  ·rw [Qp (by omega)] at hh;cases hd:k - H.length with
   | zero=>rw [hd] at hh;simp at hh;exact .inr ⟨by omega,hh.symm⟩
   | succ q=>rw [hd] at hh;simp at hh
 refine ⟨hr,by rw [ho C (.inr (.inl rfl)) (qan m.cf m.row (by simp)) (hpv C _ m.cf (by simp))];exact m.cf,by rw [qtj m.hl];exact hp,by simp [m.hl],?_,m.lg.fr fun t ht=>ho t (.inr (.inr (.inr (.inl ht)))) (qan (m.lg.tk ht) m.row (by simp)) (hpv t _ (m.lg.tk ht) (by simp)),?_,?_⟩
 ·intro k y h hy hh;rcases hlast k h hh with ⟨hk',hh⟩ | ⟨rfl,rfl⟩
  ·rw [Ql (by rw [<- m.hl];exact hk')] at hy;refine (m.hp k y h hy hh).fr fun t ht=>?_
   obtain ⟨l,hl⟩:=m.hk hh ht;exact ho t (.inr (.inr (.inr (.inr ⟨h,Qe hh,ht⟩)))) (qan hl m.row (by simp)) (hpv t _ hl (by simp))
  ·rw [m.hl,Qp (Qb _),Nat.sub_self] at hy;simp at hy;subst hy;exact hx
 ·intro k k' h h1 t hh hh' ht ht';rcases hlast k h hh with ⟨hk',hb⟩ | ⟨hk',hb⟩<;>rcases hlast k' h1 hh' with ⟨hk1,hb'⟩ | ⟨hk1,hb'⟩
  ·exact m.hi k k' h h1 t hb hb' ht ht'
  ·obtain ⟨l,hl⟩:=m.hk hb ht;rw [hb'] at ht';exact absurd ht' (hnew t _ hl (by simp))
  ·obtain ⟨l,hl⟩:=m.hk hb' ht';rw [hb] at ht;exact absurd ht (hnew t _ hl (by simp))
  ·rw [hk',hk1]
 ·intro k h t hh ht hc;rcases hlast k h hh with ⟨hk',hh⟩ | ⟨rfl,rfl⟩
  ·exact m.hg k h t hh ht hc
  ·exact hnew t _ (m.lg.tk hc) (by simp) ht
end
def ClQ (N:Nat) (O:List (Nat×AO)) (V:NetV) (f:AV) (r:Option (Rt×AH)):Prop:=
 ∃O' N' n',r=some (.val (.ptr n' 7 0 0),⟨O',N'⟩)/\NetW O' n' V f (fun j=>N<=j)/\Fw (fun _=>False) N O O' N'
section
variable {O:List (Nat×AO)} {n N g C:Nat} {V:NetV} {pv lv:AV} {H:List AV}
theorem qw9 (m:NetM O n V (.func (.func g) [] []) C pv lv H) (hT:Tail O N) (s:NetS V) (hc:∀c∈V.cs,CfgC c) (hne:0<V.cs.length) (hd:∀x∈V.pk,x.data.length<=1000):
  ClQ N O V (.func (.func g) [] []) (qai Φ f_22 [.ptr n 7 0 0] ⟨O,N⟩):=by
 rw [qat (fn:=c_22) rfl rfl];have hrow:=m.row;have hm:=fun O N=>qem (O:=O) (N:=N) (n:=n) (V:=V) (cv:= .row C 4 0 V.cs.length) (pv:=pv) (lv:=lv) (g:=g)
 have hao:=qyh m;rw [qca] at hrow hm hao;have k0:=qfw V.ports V.links V.hosts s.p s.l s.h;have hT':∀k,look (N+k) O=none:=fun k=>hT (N+k) (by omega)
 have lt:=hT.lt hrow;have q1:∀k,¬N+k=n:=fun k=>by omega
 have q2:∀k,¬n=N+k:=fun k=>by omega
 have hC:=s.c;have hg:=s.g;have hO1:Tail (O++[(N+33,AO.res)]) (N+33+1):=(Fw.app (X:=fun _=>False) (Fw.init hT) (by omega) (by omega) (by omega)).tl;obtain ⟨w,O2,N2,e2,x2,f2,kp2,T2,l2⟩:=qht V.cs hc (by omega) hO1 (v:= .row C 4 0 V.cs.length) (by
  have:=m.cf;exact .row C _ _ _ (by simp) (by rw [qab,this];rfl) (Qb _) (by rw [QAf]))
 have hx2:∃D,w= .row D 4 0 V.cs.length/\look D O2=some (.row 4 (V.cs.map Xf.c)):=by
  rcases x2 with ⟨hz,_⟩ | ⟨D,rfl,hD⟩
  ·rw [List.map_eq_nil_iff] at hz;rw [hz] at hne;simp at hne
  ·exact ⟨D,by simp,hD⟩
 obtain ⟨D,rfl,hD⟩:=hx2;have hDN:=T2.lt hD;have hDn:=f2 D rfl;have v0:¬N+33=N2/\¬N2=N+33/\¬n=N2/\¬N2=n:=by omega
 obtain ⟨v1,v2,v3,v4⟩:=v0;have hO2:∀j y,look j O=some y->look j O2=some y:=by
  intro j y hj;have:=hT.lt hj;rw [kp2 j (by omega) (by simp),qab,hj];rfl
 have hr2:=hO2 _ _ hrow;have u0:=T2 N2 (Qb _);have hres:look (N+33) O2=some .res:=by rw [kp2 (N+33) (by omega) (by simp),qab,hT' 33];simp
 have hlv2:Ap O2 4 lv (V.log.map Event.c):=m.lg.fr fun t ht=>by
  have:=m.lg.tk ht;rw [hO2 _ _ this,this]
 have ec:=qmr (Ψ:=Φ) (f:=f_44) (z:=4) (bytes:=32) rfl (N:=N2) u0 hlv2 (al4 _) (by rw [QAb];omega);have hlen:lenOf pv=some V.pk.length:=by
  rcases m.pk with ⟨h,rfl⟩ | ⟨P,rfl,_⟩
  ·have:=qbl m.hl;rw [h] at this;simpa using this
  ·simp [qbl m.hl]
 simp [c_22,hm,hrow,hT',q1,q2,k0,e2,hr2,ec,hao,hres,u0,v1,v2,v3,v4,hlen,qab,qaa,qaf,-lenOf];generalize hO3:qau (setl (N+33) _ (O2++[(N2,AO.tok 4 V.log.length)]))=O3;have hO3':∀j y,look j O=some y->y≠ .res->look j O3=some y:=by
  intro j y hj hy;have h1:=hO2 j y hj;have h2:=hT.lt hj;have h3:¬j=N+33:=by omega
  rw [<- hO3,qaf (by simp [qaa,qab,h1,h3,hy])];simp [qaa,qab,h1,h3]
 have hkp:Kp (Rs O) N O O3:=by
  intro j hj hx;have h1:look j O2=look j O:=by
   rw [kp2 j (by omega) (by simp),qab];have:¬N+33=j:=by omega
   simp [this]
  have h3:¬j=N+33:=by omega
  have h4:¬N2=j:=by omega
  rw [<- hO3,qaf (by simp [qaa,qab,h1,h3,h4];exact hx)];simp [qaa,qab,h1,h3,h4]
 have hT3:Tail O3 (N2+1):=by rw [<- hO3];exact qdm (qaj (T2.app1 (Qb _)))
 have m3:NetM O3 (N+33) { V with pk:=[] } (.func (.func g) [] []) D (.Xu 9 []) (.app 4 (V.log.map Event.c) N2) []:=by
  refine ⟨?_,?_,.inl ⟨rfl,rfl⟩,rfl,by simp,.inr ⟨N2,rfl,?_⟩,by simp,by simp⟩
  ·rw [<- hO3,qaf (by simp [qaa,qab,hres])];simp [qaa,qab,hres,qca]
  ·have h3:¬D=N+33:=by rintro rfl;rw [hres] at hD;cases hD
   rw [<- hO3,qaf (by simp [qaa,qab,h3,hD])];simp [qaa,qab,h3,hD]
  ·rw [<- hO3,qaf (by simp [qaa,qab,u0,v2])];simp [qaa,qab,u0,v2]
 have hown3:∀j,NetM.own (N+33) D (.Xu 9 []) (.app 4 (V.log.map Event.c) N2) [] j->N<=j:=by
  intro j hj;rcases hj with rfl | rfl | hj | hj | ⟨h,hh,_⟩
  ·omega
  ·omega
  ·cases hj
  ·simp only [tkn,Option.some.injEq] at hj;omega
  ·cases hh
 have hF3:Fw (fun _=>False) N O O3 (N2+1):=⟨hkp.mono fun _ _ h=> .inr h,hT3,by omega⟩;have hNq:N<=N+33:=by omega
 clear hrow hm hao q1 q2 hO1 hT' hres v1 v2 ec e2 hO2 hr2 hlv2 hkp kp2;clear hO3;generalize N+33=q at*;refine qbk V.pk.length (fun i e h=>∃O' N' pv' H',h=⟨O',N'⟩/\NetM O' (q) { V with pk:=V.pk.take i } (.func (.func g) [] []) D pv' (.app 4 (V.log.map Event.c) N2) H'/\(∀j,NetM.own (q) D pv' (.app 4 (V.log.map Event.c) N2) H' j->N<=j)/\Fw (fun _=>False) N O O' N'/\(∀j y,look j O=some y->y≠ .res->look j O'=some y)/\look 3 e=some (.ptr (q) 7 0 0)/\look 38 e=some pv/\look 39 e=some (.int .i64 V.pk.length)/\look 40 e=some (.int .i64 i)) (ClQ N O V (.func (.func g) [] [])) ?_ ?_ 0 _ _ (Qc _) ?_
 ·rintro i e _ L hi hL ⟨O',N',pv',H',rfl,m',ho',fw',hk',h3,h38,h39,h40⟩ ih;have hsk:=s.k;have hw:=qao i (by omega);have hiH:i<H.length:=by rw [m.hl];exact hi
  have hx:=Qa hi;have hh:=Qa hiH;obtain ⟨P,rfl,hP⟩:∃P,pv= .row P 9 0 V.pk.length/\look P O=some (.row 9 (pkN V.pk H)):=by
   rcases m.pk with ⟨h,_⟩ | ⟨P,h,hP⟩
   ·have:=qbl m.hl;rw [h] at this;simp at this;omega
   ·exact ⟨P,by rw [h,qbl m.hl],hP⟩
  have hP':=hk' P _ hP (by simp);have hiN:i<(pkN V.pk H).length:=by rw [qbl m.hl];exact hi
  have hat:(pkN V.pk H)[i]=PkN V.pk[i] H[i]:=by
   have:=qft hx hh;rw [Qa hiN] at this;exact Option.some.inj this
  rw [PkN] at hat;have hap:=(m.hp i _ _ hx hh).fr (O':=O') fun t ht=>by
   have h1:=(m.hp i _ _ hx hh).tk ht;rw [hk' t _ h1 (by simp),h1]
  have hb:=hd _ (Qd hi);have hhp:=s.hp _ (Qd hi);have c1:=clBy V.pk[i].data (by omega);have t0:=fw'.tl N' (Qb _);have t1:=fw'.tl (N'+1) (by omega);have tM:∀k,look (N'+1+1+k) O'=none:=fun k=>fw'.tl (N'+1+1+k) (by omega)
  have c2:=fun y=>qmr (Ψ:=Φ) (f:=f_46) (z:=3) (bytes:=24) rfl (O:=O'++[(N',y)]) (N:=N'+1) (by rw [qab,t1];simp) (hap.fr fun t ht=>by
   have h1:=hap.tk ht;rw [qab,h1];rfl) (alH _) (by rw [QAb];omega)
  have hr':=m'.row;rw [qca] at hr';have lt':=fw'.tl.lt hr';have ltP:=fw'.tl.lt hP';have r0:¬N'=q/\¬q=N'/\¬N'+1=q/\¬q=N'+1:=by omega
  obtain ⟨r1,r2,r3,r4⟩:=r0;have r5:∀k,¬N'+1+1+k=q:=fun k=>by omega
  have r6:∀k,¬q=N'+1+1+k:=fun k=>by omega
  have r7:∀k,(q == N'+1+1+k)=false:=fun k=>by simp;omega
  have r8:∀k,¬N'+1+1+k=N'/\¬N'=N'+1+1+k/\¬N'+1+1+k=N'+1/\¬N'+1=N'+1+1+k/\(N' == N'+1+1+k)=false/\(N'+1 == N'+1+1+k)=false:=fun k=>by simp;omega
  have p0:¬N'=P/\¬P=N':=by omega
  obtain ⟨p1,p2⟩:=p0;have hml:min i V.pk.length=i:=by omega
  have hl':=qbl m'.hl;simp [hml] at hl';have hNN:=fw'.le;have htk:V.pk.take (i+1)=V.pk.take i++[V.pk[i]]:=Qh hi;have hfw:∀a b c d e,Fw (fun _=>False) N O (qau (setl (q) e (O'++[(N',a),(N'+1,b),(N'+1+1+59,c),(N'+1+1+60,d)]))) (N'+1+1+60+1):=fun a b c d e=>by
   refine Fw.sweep (Fw.set (Fw.appL (N2:=N'+1+1+60+1) fw' ?_ (by omega)) (.inr (by omega)));intro p hp;simp at hp;rcases hp with rfl | rfl | rfl | rfl<;>refine ⟨?_,?_⟩<;>simp only<;>omega
  rcases m'.pk with ⟨hz,rfl⟩ | ⟨S,rfl,hS⟩
  ·have hi0:i=0:=by rw [hz] at hl';simpa using hl'.symm
   subst hi0;have hz':pkN [] H'=[]:=by simpa using hz
   simp [c_22_l0,h3,h38,h39,h40,hi,hP',hiN,hat,c1,c2,t0,t1,tM,hr',r1,r2,r3,r4,r5,r6,r7,r8,p1,p2,hw,qab,qaa,qaf];refine ih _ _ ⟨_,_,.row (N'+1+1+60) 9 0 1,H'++[.app 3 (V.pk[0].hops.map Hop.c) (N'+1)],rfl,?_,?_,hfw _ _ _ _ _,?_,?_,?_,?_,?_⟩
   ·rw [htk];refine m'.pushG (x:=V.pk[0]) ?_ (.inr ⟨N'+1+1+60,?_,?_⟩) (.inr ⟨N'+1,rfl,?_⟩) ?_ ?_
    ·simp [qaf,qaa,qab,hr',qca]
    ·simp [hz']
    ·simp [hz',qaf,qaa,qab,tM,r5,r8,PkN]
    ·simp [qaf,qaa,qab,t1,r3,r8]
    ·intro t ht;simp only [tkn,Option.some.injEq] at ht;subst ht;exact .inl t1
    ·intro j y hj hy h1 _;simp [qaf,qaa,qab,hj,h1,hy]
   ·intro j hj;rcases hj with hj | hj | hj | hj | ⟨h,hh2,hj⟩
    ·exact ho' j (.inl hj)
    ·exact ho' j (.inr (.inl hj))
    ·simp only [vid,Option.some.injEq] at hj;omega
    ·exact ho' j (.inr (.inr (.inr (.inl hj))))
    ·rcases QAd.1 hh2 with hh2 | hh2
     ·exact ho' j (.inr (.inr (.inr (.inr ⟨h,hh2,hj⟩))))
     ·simp at hh2;subst hh2;simp only [tkn,Option.some.injEq] at hj;omega
   ·intro j y hj hy;have h1:=hk' j y hj hy;have h2:=hT.lt hj;have h3:¬j=q:=by omega
    simp [qaf,qaa,qab,h1,h3,hy]
   all_goals simp [h3,h38,h39,wr1]
  ·have hSN:=fw'.tl.lt hS;have hS33:S≠q:=qan hS hr' (by simp);have hSn:N<=S:=ho' S (.inr (.inr (.inl rfl)));have s1:∀k,¬N'+1+1+k=S:=fun k=>by omega
   have s2:∀k,¬S=N'+1+1+k:=fun k=>by omega
   have s3:∀k,(S == N'+1+1+k)=false:=fun k=>by simp;omega
   have s0:¬N'=S/\¬S=N'/\¬N'+1=S/\¬S=N'+1:=by omega
   obtain ⟨s4,s5,s6,s7⟩:=s0;have s8:¬q=S:=hS33.symm;have s9:(q == S)=false/\(S == q)=false/\(N' == S)=false/\(N'+1 == S)=false/\(S == N')=false:=by simp;omega
   obtain ⟨s10,s11,s12,s13,s14⟩:=s9;have hb2:(i+1)*136<=70368744177664:=by omega
   have hal:qa9 9 (pkN (V.pk.take i) H')=true:=qxh;have hd1:∀a b c,look (N'+1+1+60) (qaw S (O'++[(N',a),(N'+1,b),(N'+1+1+59,c),(N'+1+1+60,.res)]))=some .res:=fun a b c=>by
    rw [qak (s1 60)];simp [qab,tM,r8]
   have hfw2:∀a b c d e f,Fw (fun _=>False) N O (qau (setl (q) e (setl (N'+1+1+60) f (qaw S (O'++[(N',a),(N'+1,b),(N'+1+1+59,c),(N'+1+1+60,d)]))))) (N'+1+1+60+1):=fun a b c d e f=>by
    refine Fw.sweep (Fw.set (Fw.set (Fw.drop (Fw.appL (N2:=N'+1+1+60+1) fw' ?_ (by omega)) (.inr hSn)) (.inr (by omega))) (.inr (by omega)));intro p hp;simp at hp;rcases hp with rfl | rfl | rfl | rfl<;>refine ⟨?_,?_⟩<;>simp only<;>omega
   simp [c_22_l0,h3,h38,h39,h40,hi,hP',hiN,hat,c1,c2,t0,t1,tM,hr',hl',hS,hal,hb2,hd1,r1,r2,r3,r4,r5,r6,r7,r8,p1,p2,s1,s2,s3,s4,s5,s6,s7,hS33,s8,s10,s11,s12,s13,s14,hw,qab,qaa,qaf,qak];refine ih _ _ ⟨_,_,.row (N'+1+1+60) 9 0 (i+1),H'++[.app 3 (V.pk[i].hops.map Hop.c) (N'+1)],rfl,?_,?_,hfw2 _ _ _ _ _ _,?_,?_,?_,?_,?_⟩
   ·rw [htk];refine m'.pushG (x:=V.pk[i]) ?_ (.inr ⟨N'+1+1+60,?_,?_⟩) (.inr ⟨N'+1,rfl,?_⟩) ?_ ?_
    ·simp [qaf,qaa,qak,s8,r6,qab,hr',qca]
    ·simp [hl']
    ·simp [qaf,qaa,hd1,r5,PkN]
    ·simp [qaf,qaa,qak,s6,qab,t1,r3,r8]
    ·intro t ht;simp only [tkn,Option.some.injEq] at ht;subst ht;exact .inl t1
    ·intro j y hj hy h1 h2;have h5:¬j=S:=fun e=>h2 (by rw [e];rfl)
     have h6:=fw'.tl.lt hj;have h7:¬j=N'+1+1+60:=by omega
     simp [qaf,qaa,qak h5,qab,hj,h1,h7,hy]
   ·intro j hj;rcases hj with hj | hj | hj | hj | ⟨h,hh2,hj⟩
    ·exact ho' j (.inl hj)
    ·exact ho' j (.inr (.inl hj))
    ·simp only [vid,Option.some.injEq] at hj;omega
    ·exact ho' j (.inr (.inr (.inr (.inl hj))))
    ·rcases QAd.1 hh2 with hh2 | hh2
     ·exact ho' j (.inr (.inr (.inr (.inr ⟨h,hh2,hj⟩))))
     ·simp at hh2;subst hh2;simp only [tkn,Option.some.injEq] at hj;omega
   ·intro j y hj hy;have h1:=hk' j y hj hy;have h2:=hT.lt hj;have h3:¬j=q:=by omega
    have h5:¬j=S:=by omega
    have h7:¬j=N'+1+1+60:=by omega
    simp [qaf,qaa,qak h5,qab,h1,h3,h7,hy]
   all_goals simp [h3,h38,h39,hw]
 ·rintro e _ L hL ⟨O',N',pv',H',rfl,m',ho',fw',hk',h3,h38,h39,h40⟩;rw [QAf] at m';simp [c_22_l0,c_22_k1,h3,h39,h40,hL];exact ⟨_,_,_,rfl,⟨D,pv',_,H',m',ho'⟩,fw'⟩
 ·exact ⟨O3,N2+1,_,[],rfl,m3,hown3,hF3,hO3',by simp,by simp,by simp,by simp⟩
end
def actV (U:NetV->Act->NetV×Int) (P:Xf->Int->List Int->Rslt×Xf) (V:NetV) (a:Act):NetV×Int×Event×Int:=
 if a.dd=0 then ((qc1 V a.a a.data).1,(qc1 V a.a a.data).2.1,ev0,(qc1 V a.a a.data).2.2)
 else if a.dd=1 then ((stpV P V a.a).1,0,(stpV P V a.a).2.1,(stpV P V a.a).2.2)
 else if a.dd=2 then ((U V a).1,0,ev0,(U V a).2)
 else if a.dd=3 then ((qe2 V a.a (decide (a.b=1))).1,0,ev0,(qe2 V a.a (decide (a.b=1))).2)
 else (V,0,ev0,0)
def AP (X:Nat->Prop) (N:Nat) (O:List (Nat×AO)) (f:AV) (q:NetV×Int×Event×Int) (r:Option (Rt×AH)):Prop:=
 ∃O' N' n',r=some (.val (.tup [.ptr n' 7 0 0,.int .i64 q.2.1,.agg (Event.c q.2.2.1),.int .i64 q.2.2.2]),⟨O',N'⟩)/\NetW O' n' q.1 f (fun j=>X j\/N<=j)/\Fw X N O O' N'
theorem NetM.lt {O:List (Nat×AO)} {n N C:Nat} {V:NetV} {f pv lv:AV} {H:List AV} (m:NetM O n V f C pv lv H) (hT:Tail O N) {j:Nat} (hj:NetM.own n C pv lv H j):j<N:=by
 obtain ⟨y,hy,_⟩:=m.nr hj;exact hT.lt hy
theorem NP.use {X:Nat->Prop} {N n C:Nat} {O:List (Nat×AO)} {V V':NetV} {f pv lv v:AV} {H:List AV} {r:Option (Rt×AH)} {y:AO} (m:NetM O n V f C pv lv H) (hX:∀j,NetM.own n C pv lv H j->X j) (hT:Tail O N) (hy:y≠ .res) (h:NP (NetM.own n C pv lv H) (N+1) (O++[(N,y)]) n f V' v r):
  ∃O' N',r=some (.val v,⟨O',N'⟩)/\look N O'=some y/\(∀z,NetW (setl N z O') n V' f (fun j=>X j\/N<=j)/\Fw X N O (setl N z O') N')/\NetW O' n V' f (fun j=>X j\/N<=j)/\Fw X N O O' N':=by
 obtain ⟨O',N',e,⟨C',pv',lv',H',m',ho⟩,fw⟩:=h;have hN:look N (O++[(N,y)])=some y:=by rw [qab,hT N (Qb _)];simp
 have hN':look N O'=some y:=by
  rw [fw.kp N (QAu _) ?_,hN];rintro (h | h)
  ·have:=m.lt hT h;omega
  ·unfold Rs at h;rw [hN] at h;cases h;exact hy rfl
 have hoN:∀j,NetM.own n C' pv' lv' H' j->j≠N:=by
  intro j hj;rcases ho j hj with h | h
  ·have:=m.lt hT h;omega
  ·omega
 have f0:Fw X N O O' N':=by
  refine Fw.then ((Fw.init hT).app (y:=y) (Qb _) (QAu _) (QAj _)) fw.kp (fun j hj hx=>?_) fw.tl fw.le;rcases hx with h | h
  ·exact .inl (hX j h)
  ·exact .inr h
 have hw:∀j,NetM.own n C' pv' lv' H' j->X j\/N<=j:=by
  intro j hj;rcases ho j hj with h | h
  ·exact .inl (hX j h)
  ·right;omega
 exact ⟨O',N',e,hN',fun z=>⟨⟨C',pv',lv',H',m'.fr fun j hj=>by rw [qaa,QA (hoN j hj)],hw⟩,f0.set (.inr (Qb _))⟩,⟨C',pv',lv',H',m',hw⟩,f0⟩
section
variable {O:List (Nat×AO)} {n N g C:Nat} {V:NetV} {pv lv:AV} {H:List AV} {X:Nat->Prop} {G:Xf->Prop} {P:Xf->Int->List Int->Rslt×Xf} {U:NetV->Act->NetV×Int}
theorem qae1 (hP:PrcOk g G P) (I:NetI G V) (m:NetM O n V (.func (.func g) [] []) C pv lv H) (hX:∀j,NetM.own n C pv lv H j->X j) (hT:Tail O N) (a:Act) (hd:a.data.length<=1000)
  (hU:a.dd=2->∀y,y≠ .res->NP (NetM.own n C pv lv H) (N+1) (O++[(N,y)]) n (.func (.func g) [] []) (U V a).1 (.int .i64 (U V a).2) (qai Φ f_41 [.ptr n 7 0 0,.int .i64 a.a,.int .i64 a.b,.agg [.int .i64 a.upd.switch,.slice 9 (a.upd.ops.map Xc.c)]] ⟨O++[(N,y)],N+1⟩)):
  AP X N O (.func (.func g) [] []) (actV U P V a) (qai Φ f_14 [.ptr n 7 0 0,.agg a.c] ⟨O,N⟩):=by
 rw [qat (fn:=c_14) rfl rfl];have t0:=hT N (Qb _);have hT1:Tail (O++[(N,zEv)]) (N+1):=hT.app1 (Qb _);have m1:NetM (O++[(N,zEv)]) n V (.func (.func g) [] []) C pv lv H:=m.mn Mn.app;have hz:zEv= .row 4 [[.int .i64 0,.int .i64 0,.int .i64 0,.int .i64 0]]:=rfl;unfold actV;by_cases d0:a.dd=0
 ·obtain ⟨O',N',e,hN,hw,-,-⟩:=NP.use m hX hT (by simp [zEv]) (qzo m1 (fun j h=>h) hT1 I.s a.a a.data (by omega));rw [hz] at e hN;simp [c_14,Act.c,d0,e,t0,qab,qaa,hN];exact ⟨_,_,_,rfl,(hw _).1,(hw _).2⟩
 by_cases d1:a.dd=1
 ·obtain ⟨O',N',e,hN,hw,-,hf⟩:=NP.use m hX hT (by simp [zEv]) (qzp hP { I with } m1 (fun j h=>h) hT1 a.a);rw [hz] at e hN;rw [Event.ce] at e;have u0:=hf.tl N' (Qb _);have hlt:=hf.tl.lt hN;have q0:¬N'=N/\¬N=N':=by omega
  obtain ⟨q1,q2⟩:=q0;simp [c_14,Act.c,d1,e,t0,u0,q1,q2,qab,qaa,hN];exact ⟨_,_,_,rfl,(hw _).1,(hw _).2.up (QAj _)⟩
 by_cases d2:a.dd=2
 ·obtain ⟨O',N',e,hN,hw,-,-⟩:=NP.use m hX hT (by simp [zEv]) (hU d2 zEv (by simp [zEv]));rw [hz] at e hN;simp [c_14,Act.c,d2,e,t0,qab,qaa,hN];exact ⟨_,_,_,rfl,(hw _).1,(hw _).2⟩
 by_cases d3:a.dd=3
 ·obtain ⟨O',N',e,hN,hw,-,-⟩:=NP.use m hX hT (by simp [zEv]) (qsf m1 (fun j h=>h) hT1 I.s a.a (decide (a.b=1)));rw [hz] at e hN;simp [c_14,Act.c,d3,e,t0,qab,qaa,hN];exact ⟨_,_,_,rfl,(hw _).1,(hw _).2⟩
 obtain ⟨O',N',n',e,⟨C',pv',lv',H',m',ho⟩,fw⟩:=qw9 m1 hT1 I.s (fun c hc=>hP.cc c (I.cg c hc)) (by rw [I.cl];exact (qml I.top).1) (fun x hx=>(I.pk x hx).2.1);have hN1:look N (O++[(N,zEv)])=some zEv:=by rw [qab,t0];simp
 have hN:look N O'=some zEv:=by
  rw [fw.kp N (QAu _) ?_,hN1];rintro (h | h)
  ·exact h
  ·unfold Rs at h;rw [hN1] at h;cases h
 rw [hz] at e hN;simp [c_14,Act.c,d0,d1,d2,d3,e,t0,qab,qaa,hN];refine ⟨_,_,_,rfl,⟨C',pv',lv',H',m'.fr fun j hj=>?_,fun j hj=> .inr (by have:=ho j hj;omega)⟩,Fw.set (Fw.then ((Fw.init hT).app (y:=zEv) (Qb _) (QAu _) (QAj _)) fw.kp (fun j _ hx=>?_) fw.tl fw.le) (.inr (Qb _))⟩
 ·have:=ho j hj;rw [qaa,QA (by omega)]
 ·rcases hx with h | h
  ·exact h.elim
  ·exact .inr h
end
theorem Act.ce (x:Act):x.c=[.int .i64 x.dd,.int .i64 x.a,.int .i64 x.b,.slice 1 (x.data.map c8),.int .i64 x.upd.switch,.slice 9 (x.upd.ops.map Xc.c)]:=rfl
section
variable {V:NetV} {G:Xf->Prop} {P:Xf->Int->List Int->Rslt×Xf} {U:NetV->Act->NetV×Int}
end
structure NetJ (G:Xf->Prop) (k:Nat) (V:NetV):Prop where
 kk:V.pk.length<=k
 g:V.log.length<=2*k
 hp:∀x∈V.pk,x.hops.length<=k
 top:qbo V.ports V.links V.hosts=0
 cl:V.cs.length=V.ports.length
 cg:∀c∈V.cs,G c
 pk:∀x∈V.pk,okB' x.data/\x.data.length<=1000/\(x.done=false->0<=x.pos.switch/\x.pos.switch<V.cs.length)
theorem NetJ.I {G:Xf->Prop} {k:Nat} {V:NetV} (j:NetJ G k V) (hk:k<=900):NetI G V:=by
 obtain ⟨h0,h1,h2,h3⟩:=qml j.top;have hc:=j.cl;have hkk:=j.kk;have hg:=j.g;exact ⟨⟨by omega,by omega,by omega,by omega,by omega,by omega,fun x hx=>by have:=j.hp x hx;omega⟩,by omega,j.top,j.cl,j.cg,j.pk⟩
theorem qom {ports:List Int} {links:List Link} {hosts:List PortID} (h:qbo ports links hosts=0):∀a∈qav links hosts,exB ports a=true:=by
 unfold qbo at h;split at h
 ·cases h
 split at h
 ·cases h
 split at h
 ·cases h
 split at h
 ·cases h
 unfold chkA at h;split at h
 ·cases h
 unfold chkB at h;split at h
 ·cases h
 rename_i hn;intro a ha;cases hx:exB ports a with
 | true=>rfl
 | false=>exact absurd (QB.2 ⟨a,ha,by simp [hx]⟩) hn
theorem qug {ports:List Int} {a:PortID} (h:exB ports a=true):0<=a.switch/\a.switch<ports.length:=by
 unfold exB at h;simp only [Bool.and_eq_true,decide_eq_true_eq] at h;exact ⟨h.1,h.2.1⟩
theorem qqz {links:List Link} {hosts:List PortID}:(∀a∈hosts,a∈qav links hosts)/\(∀l∈links,l.a∈qav links hosts/\l.b∈qav links hosts):=by
 unfold qav qc0;rw [QAf];refine ⟨fun a ha=>List.mem_append_right _ ha,fun l hl=>⟨List.mem_append_left _ (List.mem_flatMap.2 ⟨l,hl,by simp⟩),List.mem_append_left _ (List.mem_flatMap.2 ⟨l,hl,by simp⟩)⟩⟩
theorem qr9 (l:List Link) (k:Nat) (d:Bool) (n:Nat):qc0 (setD l k d) n=qc0 l n:=by
 unfold qc0 setD;cases hl:l[k]? with
 | none=>rfl
 | some x=>
  simp only
  induction l generalizing k n with
  | nil=>simp at hl
  | cons a l ih=>cases n with
   | zero=>simp
   | succ n=>cases k with
    | zero=>simp at hl;subst hl;simp
    | succ k=>simp at hl;simp [ih k n hl]
theorem qx7 (ports:List Int) (l:List Link) (hosts:List PortID) (k:Nat) (d:Bool):qbo ports (setD l k d) hosts=qbo ports l hosts:=by
 have eD:chkD (setD l k d)=chkD l:=by
  unfold chkD;have:(setD l k d).any (fun l=>decide (l.a.switch=l.b.switch))=l.any (fun l=>decide (l.a.switch=l.b.switch)):=by
   unfold setD;cases hl:l[k]? with
   | none=>rfl
   | some x=>
    simp only
    induction l generalizing k with
    | nil=>simp at hl
    | cons a l ih=>cases k with
     | zero=>simp at hl;subst hl;simp
     | succ k=>simp at hl;simp [ih k hl]
  rw [this]
 have e:qav (setD l k d) hosts=qav l hosts:=by unfold qav;rw [qmg,qr9]
 unfold qbo chkA chkB chkC;rw [e,eD,qmg]
theorem qac8 {ports:List Int} {links:List Link} {hosts:List PortID} {p:PortID} (h:(qcx ports links hosts p).2=0):0<=(qcx ports links hosts p).1.switch/\(qcx ports links hosts p).1.switch<ports.length:=by
 unfold qcx at h ⊢;by_cases z:qbo ports links hosts=0
 rotate_left
 ·rw [QAa z] at h;exact absurd h z
 have hne:¬qbo ports links hosts≠0:=fun hc=>hc z
 rw [QA hne] at h ⊢;by_cases a:qa8 links (qcy p.switch p.port) 0=true
 rotate_left
 ·rw [QA a] at h;cases h
 rw [QAa a] at h ⊢;obtain ⟨j,hj,h4,_⟩:=ql9 a;have e:links.getD (ixF (qcy p.switch p.port) links 0).toNat default=links[j]:=by simp [h4,hj]
 rw [e] at h ⊢;have hm:=(qqz (links:=links) (hosts:=hosts)).2 _ (Qd hj);have hA:=qug (qom z _ hm.1);have hB:=qug (qom z _ hm.2);unfold qji at h ⊢;split
 ·rename_i hd;rw [QAa hd] at h;cases h
 ·split
  ·exact hB
  ·exact hA
section
variable {G:Xf->Prop} {P:Xf->Int->List Int->Rslt×Xf} {U:NetV->Act->NetV×Int} {V:NetV} {k:Nat}
theorem NetJ.up (j:NetJ G k V):NetJ G (k+1) V:=⟨by have:=j.kk;omega,by have:=j.g;omega,fun x hx=>by have:=j.hp x hx;omega,j.top,j.cl,j.cg,j.pk⟩
theorem NetJ.send (j:NetJ G k V) (h:Int) (b:List Int) (hb:okB' b):NetJ G (k+1) (qc1 V h b).1:=by
 unfold qc1;split
 ·exact j.up
 split
 ·exact j.up
 split
 ·exact j.up
 rename_i h1 h2 h3;obtain ⟨i,rfl⟩:=QAc (show 0<=h by omega);have hi:i<V.hosts.length:=by omega
 have hex:=qug (qom j.top _ ((qqz (links:=V.links)).1 _ (Qd hi)));have hcl:=j.cl;refine ⟨by have:=j.kk;simp [NetV.ev];exact this,by have:=j.g;simp [NetV.ev];omega,?_,j.top,j.cl,j.cg,?_⟩
 ·intro x hx;simp only [NetV.ev,QAd,QBn] at hx;rcases hx with hx | rfl
  ·have:=j.hp x hx;omega
  ·simp
 ·intro x hx;simp only [NetV.ev,QAd,QBn] at hx ⊢;rcases hx with hx | rfl
  ·exact j.pk x hx
  ·refine ⟨hb,by simp only;omega,fun _=>?_⟩;simp [hi];omega
theorem NetJ.link (j:NetJ G k V) (h:Int) (d:Bool):NetJ G (k+1) (qe2 V h d).1:=by
 unfold qe2;split
 ·exact j.up
 ·exact ⟨by have:=j.kk;simp [NetV.ev];omega,by have:=j.g;simp [NetV.ev];omega,fun x hx=>by have:=j.hp x hx;omega,by simp only [NetV.ev];rw [qx7];exact j.top,j.cl,j.cg,j.pk⟩
theorem NetJ.step {g:Nat} (hP:PrcOk g G P) (j:NetJ G k V) (id:Int):NetJ G (k+1) (stpV P V id).1:=by
 by_cases hz:chkV V id=0
 rotate_left
 ·simp only [stpV,hz,ne_eq,not_false_eq_true,if_true];exact j.up
 obtain ⟨i,rfl,hi,hd⟩:=qqa hz;have hmem:=Qd hi;obtain ⟨hdb,hdl,hpos⟩:=j.pk _ hmem;obtain ⟨hs0,hs1⟩:=hpos hd;obtain ⟨x,hx⟩:∃x,V.pk[i]=x:=⟨_,rfl⟩;rw [hx] at hd hdb hdl hs0 hs1 hmem;obtain ⟨q,hs⟩:=QAc hs0;have hk:q<V.cs.length:=by omega
 have hG:=j.cg _ (Qd hk);have hgp:V.pk[i]?.getD default=x:=by simp [hi,hx]
 have hgc:V.cs[q]?.getD default=V.cs[q]:=by simp [hk]
 have hst:(stpV P V i).1=qfr V i (P V.cs[q] x.pos.port x.data).1 (P V.cs[q] x.pos.port x.data).2:=by
  simp [stpV,hz,hgp,hs,hgc]
 rw [hst];have hG':=hP.cfg _ x.pos.port _ hG hdb hdl;have hdat:=hP.dat _ x.pos.port _ hG hdb hdl;generalize (P V.cs[q] x.pos.port x.data).1=r at*;generalize (P V.cs[q] x.pos.port x.data).2=c' at*;have hhp:=j.hp x hmem;have hcl:=j.cl;have hmv:(mv V x i r).2.length<=2/\(mv V x i r).1.hops.length<=k+1/\okB' (mv V x i r).1.data/\(mv V x i r).1.data.length<=1000/\((mv V x i r).1.done=false->0<=(mv V x i r).1.pos.switch/\(mv V x i r).1.pos.switch<V.cs.length):=by
  unfold mv;split
  ·simp [mvD,Pk.fin,hop1,hdb,hdl,hhp]
  ·unfold mvP;split
   ·simp [Pk.fin,hop1,hdat,hhp]
   split
   ·rename_i hpe;have:=qac8 hpe;simp [hop1,hdat,hhp];intro _;omega
   ·simp [Pk.fin,hop1,hdat,hhp]
 unfold qfr;have hgd:V.pk.getD i default=x:=by simp [hi,hx]
 rw [hgd];refine ⟨by have:=j.kk;simp;omega,by have:=j.g;simp;omega,?_,j.top,by simp [hcl],?_,?_⟩
 ·intro y hy;rcases Qq hy with hy | rfl
  ·have:=j.hp y hy;omega
  ·exact hmv.2.1
 ·intro c hc;rcases Qq hc with hc | rfl
  ·exact j.cg c hc
  ·exact hG'
 ·intro y hy;simp only [List.length_set];rcases Qq hy with hy | rfl
  ·exact j.pk y hy
  ·exact hmv.2.2
theorem NetJ.act {g:Nat} (hP:PrcOk g G P) (j:NetJ G k V) (a:Act) (hb:okB' a.data) (hU:a.dd=2->NetJ G (k+1) (U V a).1):NetJ G (k+1) (actV U P V a).1:=by
 unfold actV;split
 ·exact j.send _ _ hb
 split
 ·exact j.step hP _
 split
 ·rename_i h;exact hU h
 split
 ·exact j.link _ _
 ·exact j.up
end
section
variable {O:List (Nat×AO)} {n N g:Nat} {V:NetV} {X:Nat->Prop} {G:Xf->Prop} {P:Xf->Int->List Int->Rslt×Xf} {U:NetV->Act->NetV×Int}
end
set_option maxRecDepth 4000
theorem qvq {O:List (Nat×AO)} {N:Nat} {S:SV} {p:Prg} {c:Xf} (m:StoreM O S p c) (v:CfgV p c) (hT:Tail O N) (t id:Int):
  MDpost N O S p (if delE p c t id=0 then delC c t id else c) (.int .i64 (delE p c t id)) (qai Φ f_292 [.ptr S.s 15 0 0,.int .i64 t,.int .i64 id] ⟨O,N⟩):=by
 rw [qat (fn:=c_292) rfl rfl];have hl:=v.rl;have hr:=qrg (N:=N) m hl t id;have hE:delE p c t id=rowX p c t id:=rfl;rw [hE];by_cases z:rowX p c t id=0
 rotate_left
 ·rw [QA z];simp [c_292,hr,z];exact ⟨S,O,N,rfl,m,rfl,fun j hj=> .inl hj,fun _ _ _=>rfl,hT,Qb _⟩
 rw [QAa z,z];cases hi:inT p t with
 | false=>simp [rowX,hi] at z
 | true=>
 obtain ⟨k,rfl,hk⟩:=qek hi;have hk':k<c.rows.length:=by omega
 have hrow:qce c (k:Int)=c.rows[k]:=qdj hk';cases hx2:rIdx c.rows[k] id with
 | none=>simp [rowX,hi,hrow,hx2] at z
 | some i=>
 obtain ⟨hil,hid⟩:=qko hx2;have hI:rowI p c k id=i:=by simp [rowI,hi,hrow,hx2]
 have hM:delC c (k:Int) id=⟨c.rows.set k (c.rows[k].eraseIdx i),c.Xr,c.Xq,c.Xm⟩:=by
  unfold delC;rw [hrow,hx2];simp
 rw [z,hI] at hr;rw [hM];have hv:=v.at hk;have hsm:=v.small _ (Qd hk');have hs:=m.se;obtain ⟨rid,es1,e1,lr,hle1,⟨hV,g1,g5⟩,ht1⟩:=m.tab hk';obtain ⟨r5,es5,e5,l5,hle5,ht5⟩:=g5.nonempty (by simp;omega);rw [QAb] at e5 hle5 ht5;rw [e1] at hs;rw [e5] at g1;have hao:=qtw m (qsu v.prg);simp only [SV.cells,Prg.e,QAp,QBg,e1] at hao;obtain ⟨N2,es',e6,n1,n2,h7,h8⟩:=qady (N:=N+1) l5 rfl hle5 ht5 hil (by omega);have hwi:IntKind.wrap .i64 ((i:Int)+1)=(i:Int)+1:=qbr (by omega) (by omega);have hsr:=qan hs lr (by simp);have hs5:=qan hs l5 (by simp);have hr5:=qan lr l5 (by simp);have h5r:=hr5.symm;have hrs:=hsr.symm;simp [c_292,hr,hs,lr,hk',g1,hwi,e6,qaa,hs5,hr5,hao];have hMl:=m.x.len;have hVl:=m.cm.rl;obtain ⟨iid,esi,e3,li,hle3,hMk,gi,lm⟩:=m.idx hk';have own1:S.own rid:= .inr (.inl (.inl (by rw [e1];rfl)));have own3:S.own S.M[k]:= .inr (.inr (.inr (Qd hMk)));have own4:S.own r5:= .inr (.inl (.inr (.inr (.inr ⟨_,Qd hV,by rw [e5];rfl⟩))));have own5:S.own iid:= .inr (.inr (.inl (by rw [e3];rfl)));have k3:∀A B j,j≠rid->j≠r5->look j O≠some .res->look j (qau (setl rid A (setl r5 B O)))=look j O:=by
  intro A B j h1 h2 h3;have h0:look j (setl rid A (setl r5 B O))=look j O:=by rw [qaa,QA h1,qaa,QA h2]
  rw [qaf (by rw [h0];exact h3),h0]
 have a1:∀B es,look rid (qau (setl rid (.row 1 es) (setl r5 B O)))=some (.row 1 es):=by
  intro B es;have h0:look rid (setl rid (.row 1 es) (setl r5 B O))=some (.row 1 es):=by rw [qaa,QAa rfl,qaa,QA hr5,lr];rfl
  rw [qaf (by rw [h0];simp),h0]
 have a2:∀A es,look r5 (qau (setl rid A (setl r5 (.row 5 es) O)))=some (.row 5 es):=by
  intro A es;have h0:look r5 (setl rid A (setl r5 (.row 5 es) O))=some (.row 5 es):=by rw [qaa,QA h5r,qaa,QAa rfl,l5];rfl
  rw [qaf (by rw [h0];simp),h0]
 have hT3:∀A B,Tail (qau (setl rid A (setl r5 B O))) N2:=fun A B=>qdm (qaj (qaj (hT.mono (by omega))))
 generalize hO3:qau (setl rid (AO.row 1 (es1.set k [AV.row r5 5 0 (c.rows[k].length - 1)])) (setl r5 (AO.row 5 es') O))=O3;have k3':∀j,j≠rid->j≠r5->look j O≠some .res->look j O3=look j O:=fun j h1 h2 h3=>by rw [<- hO3];exact k3 _ _ j h1 h2 h3
 have a1':look rid O3=some (.row 1 (es1.set k [AV.row r5 5 0 (c.rows[k].length - 1)])):=by rw [<- hO3];exact a1 _ _
 have a2':look r5 O3=some (.row 5 es'):=by rw [<- hO3];exact a2 _ _
 have hT3':Tail O3 N2:=by rw [<- hO3];exact hT3 _ _
 clear hO3;have hinc:(c.rows[k].eraseIdx i).Pairwise fun a b=>a.id<b.id:=hv.inc.sublist (List.eraseIdx_sublist _ _)
 have hll:(c.rows[k].eraseIdx i).length=c.rows[k].length - 1:=by rw [List.length_eraseIdx];simp [hil]
 have m5:Mu O3 5 (.row r5 5 0 (c.rows[k].length - 1)) ((c.rows[k].eraseIdx i).map Rw.c):= .row r5 _ es' _ (by simp [hll]) a2' (by simp [hll];omega) (by rw [QAb,hll];exact h8);have m1:Mu O3 1 S.v1 ((S.V.set k (.row r5 5 0 (c.rows[k].length - 1))).map fun x=>[x]):=by
  have hmu:=Mu.upd (O':=O3) (id:=rid) (z:=1) (k:=k) (es:=S.V.map fun x=>[x]) (es0:=es1) (y:=[.row r5 5 0 (c.rows[k].length - 1)]) a1' (by rw [QAb,hVl];exact hle1) (by rw [QAb,hVl];exact ht1);rw [QAb,hVl] at hmu;rw [e1,QBx];exact hmu
 have ls3:look S.s O3=some (.row 15 [S.cells p]):=by rw [k3' S.s hsr hs5 (by rw [m.s];simp),m.s]
 have li3:look iid O3=some (.row 1 esi):=by
  rw [k3' iid (fun e=>m.ri rid (by rw [e1];rfl) (by rw [e3,e];rfl)) (qan li l5 (by simp)) (by rw [li];simp),li]
 have hri:vid S.v1≠some iid:=fun e=>m.ri iid e (by rw [e3];rfl)
 have hVs:k<(S.V.set k (AV.row r5 5 0 (c.rows[k].length - 1))).length:=by simpa using hV
 have hVk:(S.V.set k (AV.row r5 5 0 (c.rows[k].length - 1)))[k]=AV.row r5 5 0 (c.rows[k].length - 1):=by simp
 have ls4:=ls3;simp only [SV.cells,e3] at ls4;have hrl:c.rows.length<2^40:=by have:=(qsu v.prg).tabs;omega
 have hnv:c.Xr.set k ((c.Xr[k]?).getD 0)=c.Xr:=by
  rw [Qa (by rw [v.nl];exact hk)];simp
 have hcz:esi.take c.rows.length=S.M.map fun x=>[.map x]:=by
  obtain ⟨iid',es0,e9,hl9,hle9,ht9⟩:=m.x.i.nonempty (by simp;omega);rw [e3] at e9;simp only [AV.row.injEq] at e9;obtain ⟨rfl,-⟩:=e9;rw [li] at hl9;cases hl9;rw [QAb,hMl] at ht9;exact ht9
 obtain ⟨O4,N4,e7,r1,r2,k4,hT4,hN4⟩:=qnk (k:=k) (n:=c.rows.length) (V:=S.V.set k (.row r5 5 0 (c.rows[k].length - 1))) (l:=c.rows[k].eraseIdx i) (R:=Prg.c p) (es:=esi) hT3' (by omega) hk' hVs ls4 (by simp) li3 hle3 ⟨_,gi⟩ m1 (by rw [hVk];exact m5) hri hinc (by omega);simp [e7];have keep:∀j,S.own j->¬S.chg k j->look j O4=look j O:=by
  intro j hj hc;obtain ⟨w,hw,hwn⟩:=m.own_lk hj;have h3:=k3' j (fun e=>hc (.inr (.inl (by rw [e,e1];rfl)))) (fun e=>hc (.inl ⟨_,Qa hV,by rw [e5,e];rfl⟩)) (by rw [hw];simpa using hwn);rw [k4 j (by have:=hT.lt hw;omega) (fun e=>hc (.inr (.inr (.inr (.inl (by rw [e,e3];rfl)))))),h3]
 have hfr:∀x,look N2 O=some x->x= .res:=fun x hx=>by have:=hT.lt hx;omega
 have up:=m.upd (k:=k) (v':= .row r5 5 0 (c.rows[k].length - 1)) (m':=N2) (l':=c.rows[k].eraseIdx i) (nx:=(c.Xr[k]?).getD 0) (O':=O4) hk' keep
  (m1.fr fun j hj=>by
   obtain ⟨es0,h0⟩:=m1.own hj;exact k4 j (hT3'.lt h0) (fun e=>hri (by rw [hj,e])))
  (by
   rw [hnv];refine m.cm.n.fr fun j hj=>?_
   obtain ⟨es0,h0⟩:=m.cm.n.own hj;have h3:=k3' j (fun e=>m.cm.rn j (by rw [e1,e];rfl) hj) (qan h0 l5 (by simp)) (by rw [h0];simp);rw [k4 j (by have:=hT.lt h0;omega) (fun e=>m.ni j hj (by rw [e3,e];rfl)),h3])
  (by
   have hmu:=Mu.upd (O':=O4) (id:=iid) (z:=1) (k:=k) (es:=S.M.map fun x=>[.map x]) (es0:=esi) (y:=[.map N2]) r1 (by rw [QAb,hMl];exact hle3) (by rw [QAb,hMl];exact hcz);rw [QAb,hMl] at hmu;rw [e3,QBx];exact hmu)
  (m5.fr fun j hj=>by
   obtain ⟨es0,h0⟩:=m5.own hj;exact k4 j (hT3'.lt h0) (qan h0 li3 (by simp)))
  r2 (by simp) (fun j hj=> .inl ⟨_,Qa hV,by rw [e5];exact hj⟩) (.inr hfr)
 rw [hnv] at up;refine ⟨S.tab k (.row r5 5 0 (c.rows[k].length - 1)) N2,O4,N4,rfl,up,rfl,?_,?_,hT4,by omega⟩
 ·intro j hj;rcases hj with hj | hj | hj | hj
  ·exact .inl (.inl hj)
  ·rcases hj with hj | hj | hj | ⟨w,hw,hj⟩
   ·exact .inl (.inr (.inl (.inl hj)))
   ·exact .inl (.inr (.inl (.inr (.inl hj))))
   ·exact .inl (.inr (.inl (.inr (.inr (.inl hj)))))
   ·rcases Qq hw with hw | rfl
    ·exact .inl (.inr (.inl (.inr (.inr (.inr ⟨w,hw,hj⟩)))))
    ·cases hj;exact .inl own4
  ·exact .inl (.inr (.inr (.inl hj)))
  ·simp only [SV.tab] at hj;rcases Qq hj with hj | rfl
   ·exact .inl (.inr (.inr (.inr hj)))
   ·exact .inr (by omega)
 ·intro j hj hx;have hx1:¬S.own j:=fun h=>hx (.inl h)
  have hx2:¬look j O=some .res:=fun h=>hx (.inr h)
  rw [k4 j (by omega) (fun e=>hx1 (by rw [e];exact own5)),k3' j (fun e=>hx1 (by rw [e];exact own1)) (fun e=>hx1 (by rw [e];exact own4)) hx2]
end Go.Av
