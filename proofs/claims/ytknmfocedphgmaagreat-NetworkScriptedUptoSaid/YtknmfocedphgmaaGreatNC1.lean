/-
 network.cloneConfig: the same configuration.
-/
import Derived.Test.YtknmfocedphgmaaGreatL10
import Derived.KernelRfl
set_option linter.unusedVariables false
set_option linter.unusedSimpArgs false
set_option linter.constructorNameAsVariable false
namespace Go.Av
set_option maxRecDepth 8000
structure CfgC (c:Xf):Prop where
 rl:c.rows.length<2^40
 rs:∀l∈c.rows,l.length<2^39/\∀r∈l,r.entry.keys.length<2^40/\r.entry.call.args.length<2^40
 nl:c.Xr.length<2^40
 dl:c.Xq.length<2^40
 ds:∀d∈c.Xq,d.args.length<2^40
 gl:c.Xm.length<2^40
 gs:∀l∈c.Xm,l.length<2^40
section
variable {β:Type} {fin:Option (Ex×St)->Option β}
theorem qzb (l:List Rw) (hs:∀r∈l,r.entry.keys.length<2^40/\r.entry.call.args.length<2^40) (hl:l.length<2^39) (K:List Fr) (Q:Option β->Prop) (e:Env) (O:List (Nat×AO)) (N T:Nat) (hT:Tail O N) (h0:look T O=some (.tok 5 0))
  (h6:look 6 e=some (.app 5 [] T)) (h24:look 24 e=some (.slice 5 (l.map Rw.c))) (h25:look 25 e=some (.int .i64 l.length)) (h26:look 26 e=some (.int .i64 0))
  (hK:∀e' O' N',Kp (fun j=>j=T) N O O'->Tail O' N'->N<=N'->look 6 e'=some (.app 5 (l.map Rw.c) T)->look T O'=some (.tok 5 l.length)->
   look 1 e'=look 1 e->look 2 e'=look 2 e->look 3 e'=look 3 e->look 18 e'=look 18 e->look 19 e'=look 19 e->look 20 e'=look 20 e->Q (go Φ fin K .normal ⟨e',⟨O',N'⟩⟩)):
  Q (go Φ fin (.c (.loop c_65_l0):: .b 2::K) .normal ⟨e,⟨O,N⟩⟩):=by
 have hTN:=hT.lt h0;refine qgd l.length (fun i e' h=>∃O' N',h=⟨O',N'⟩/\Kp (fun j=>j=T) N O O'/\Tail O' N'/\N<=N'/\look 6 e'=some (.app 5 ((l.take i).map Rw.c) T)/\look T O'=some (.tok 5 i)/\look 24 e'=some (.slice 5 (l.map Rw.c))/\look 25 e'=some (.int .i64 l.length)/\look 26 e'=some (.int .i64 i)/\
   look 1 e'=look 1 e/\look 2 e'=look 2 e/\look 3 e'=look 3 e/\look 18 e'=look 18 e/\look 19 e'=look 19 e/\look 20 e'=look 20 e) Q ?_ ?_ 0 _ _ (Qc _) ?_
 ·rintro i e' _ L hi hL ⟨O',N',rfl,hk,hT',hN,h6,hlk,h24,h25,h26,g1,g2,g3,g18,g19,g20⟩ ih;have hw1:=qal i (by omega);have t0:=hT' N' (Qb _);have hTl:=hT'.lt hlk;have q1:¬N'=T:=by omega
  have q2:¬T=N':=by omega
  have hr:=hs _ (Qd hi);have c1:=qaa1 l[i].entry.keys hr.1;have c2:=qpq l[i].entry.call.args hr.2;have hm:min i l.length=i:=by omega
  have hb:(i+1)*72<=70368744177664:=by omega
  have htk:(l.map Rw.c).take (i+1)=(l.map Rw.c).take i++[Rw.c l[i]]:=qcu hi;rw [Rw.c] at htk;simp [c_65_l0,Rw.c,h6,h24,h25,h26,hi,hlk,t0,q1,q2,c1,c2,hm,hb,hw1,qaf,qad];refine ih _ _ ⟨_,N'+1,rfl,Kp.setl (Kp.app hk (by omega)) (.inr rfl),qa4 (hT'.app1 (Qb _)),by omega,?_,?_,?_,?_,?_,?_,?_,?_,?_,?_,?_⟩<;>simp [htk,h6,h24,h25,g1,g2,g3,g18,g19,g20,qad,qaf,hlk]
 ·rintro e' _ L hL ⟨O',N',rfl,hk,hT',hN,h6,hlk,h24,h25,h26,g1,g2,g3,g18,g19,g20⟩;rw [QAl] at h6;simp [c_65_l0,h25,h26,hL];refine hK _ O' N' hk hT' hN ?_ hlk ?_ ?_ ?_ ?_ ?_ ?_<;>simp [h6,g1,g2,g3,g18,g19,g20]
 ·exact ⟨O,N,rfl,fun _ _ _=>rfl,hT,Qb _,by simpa using h6,h0,h24,h25,h26,rfl,rfl,rfl,rfl,rfl,rfl⟩
theorem qzc (R:List (List Rw)) (hR:R.length<2^40) (hs:∀l∈R,l.length<2^39/\∀r∈l,r.entry.keys.length<2^40/\r.entry.call.args.length<2^40) (nx:AV) (K:List Fr) (Q:Option β->Prop) (e:Env) (O:List (Nat×AO)) (N b:Nat) (hT:Tail O N)
  (hb:look b O=some (.row 4 [[.Xu 1 [],nx,.Xu 2 [],.Xu 1 []]])) (h3:look 3 e=some (.ptr b 4 0 0)) (h18:look 18 e=some (.slice 1 (R.map (cS 5 Rw.c)))) (h19:look 19 e=some (.int .i64 R.length)) (h20:look 20 e=some (.int .i64 0))
  (hK:∀e' O' N' v,Kp (fun j=>j=b) N O O'->Tail O' N'->N<=N'->Ap O' 1 v (R.map (cS 5 Rw.c))->(∀t,tkn v=some t->N<=t)->look b O'=some (.row 4 [[v,nx,.Xu 2 [],.Xu 1 []]])->
   look 1 e'=look 1 e->look 2 e'=look 2 e->look 3 e'=look 3 e->Q (go Φ fin K .normal ⟨e',⟨O',N'⟩⟩)):
  Q (go Φ fin (.c (.loop c_65_l3):: .b 0::K) .normal ⟨e,⟨O,N⟩⟩):=by
 have hbN:=hT.lt hb;refine qgd R.length (fun i e' h=>∃O' N' v,h=⟨O',N'⟩/\Kp (fun j=>j=b) N O O'/\Tail O' N'/\N<=N'/\Ap O' 1 v ((R.take i).map (cS 5 Rw.c))/\(∀t,tkn v=some t->N<=t)/\look b O'=some (.row 4 [[v,nx,.Xu 2 [],.Xu 1 []]])/\look 3 e'=some (.ptr b 4 0 0)/\look 18 e'=some (.slice 1 (R.map (cS 5 Rw.c)))/\look 19 e'=some (.int .i64 R.length)/\look 20 e'=some (.int .i64 i)/\
   look 1 e'=look 1 e/\look 2 e'=look 2 e) Q ?_ ?_ 0 _ _ (Qc _) ?_
 ·rintro i e' _ L hi hL ⟨O',N',v,rfl,hk,hT',hN,hv,hvt,hb',h3,h18,h19,h20,g1,g2⟩ ih;have hw1:=qal i (by omega);have t0:=hT' N' (Qb _);have hri:=hs _ (Qd hi);have hm:min i R.length=i:=by omega
  have hc:(i+1)*24<=70368744177664:=by omega
  have htk:(R.map (cS 5 Rw.c)).take (i+1)=(R.map (cS 5 Rw.c)).take i++[[.slice 5 (R[i].map Rw.c)]]:=qcu hi;simp [c_65_l3,h18,h19,h20,hi,t0,cS];refine qzb R[i] hri.2 hri.1 _ _ _ _ _ N' (hT'.app1 (Qb _)) (by simp [qaf,t0]) (by simp) (by simp) (by simp) (by simp) ?_;intro e2 O2 N2 hk2 hT2 hN2 h6 hl2 f1 f2 f3 f18 f19 f20;simp [h3,h18,h19,h20] at f1 f2 f3 f18 f19 f20;have hO2:∀j y,look j O'=some y->look j O2=some y:=by
   intro j y hj;have:=hT'.lt hj;rw [hk2 j (by omega) (by omega),qaf,hj];rfl
  have hb2:=hO2 _ _ hb';have u0:=hT2 N2 (Qb _);have hbN2:b<N2:=by omega
  have q1:¬N2=b:=by omega
  have q2:¬b=N2:=by omega
  have hkk:Kp (fun j=>j=b) N O O2:=by
   intro j hj hx;rw [hk2 j (by omega) (by omega),qaf,hk j hj hx];have:¬N'=j:=by omega
   simp [this]
  rcases hv with ⟨hz,rfl⟩ | ⟨t,rfl,ht⟩
  ·have hi0:i=0:=by
    have:=congrArg List.length hz;rw [QAi,QAq,QAx] at this;omega
   subst hi0;simp [c_65_k1,c_65_k2,f3,h6,f20,u0,qaf,qad,hb2,q1,q2,wr1];refine ih _ _ ⟨_,N2+1,.app 1 [[.slice 5 (R[0].map Rw.c)]] N2,rfl,Kp.setl (Kp.app hkk (by omega)) (.inr rfl),qa4 (hT2.app1 (Qb _)),by omega,.inr ⟨N2,?_,?_⟩,fun t ht=>by simp only [tkn,Option.some.injEq] at ht;omega,?_,?_,?_,?_,?_,?_,?_⟩<;>simp [htk,f1,f2,f3,f18,f19,qad,qaf,u0,q1,q2,hb2,cS,g1,g2]
   all_goals simp [Nat.min_eq_left (show 1<=R.length by omega)]
  ·have ht2:=hO2 _ _ ht;have n1:=qas ht2 hb2 (by simp);have n2:=n1.symm;simp [hm] at ht2;simp [c_65_k1,c_65_k2,f3,h6,f20,u0,qaf,qad,hb2,q1,q2,n1,n2,ht2,hm,hc,hw1];refine ih _ _ ⟨_,N2,.app 1 ((R.map (cS 5 Rw.c)).take i++[[.slice 5 (R[i].map Rw.c)]]) t,rfl,Kp.setl (Kp.setl hkk (.inl (hvt t rfl))) (.inr rfl),qa4 (qa4 hT2),by omega,.inr ⟨t,?_,?_⟩,hvt,?_,?_,?_,?_,?_,?_,?_⟩
   all_goals simp [htk,f1,f2,f3,f18,f19,qad,qaf,n1,n2,ht2,hb2,g1,g2,hm]
 ·rintro e' _ L hL ⟨O',N',v,rfl,hk,hT',hN,hv,hvt,hb',h3,h18,h19,h20,g1,g2⟩;rw [QAl] at hv;simp [c_65_l3,h19,h20,hL];refine hK _ O' N' v hk hT' hN hv hvt hb' ?_ ?_ ?_<;>simp [g1,g2,h3, *]
 ·exact ⟨O,N,_,rfl,fun _ _ _=>rfl,hT,Qb _,.inl ⟨by simp,rfl⟩,(fun t ht=>by cases ht),hb,h3,h18,h19,h20,rfl,rfl⟩
end
section
variable {β:Type} {fin:Option (Ex×St)->Option β}
theorem qabm (D:List Xb) (hD:D.length<2^40) (hs:∀d∈D,d.args.length<2^40) (a nx:AV) (K:List Fr) (Q:Option β->Prop) (e:Env) (O:List (Nat×AO)) (N b:Nat) (hT:Tail O N)
  (hb:look b O=some (.row 4 [[a,nx,.Xu 2 [],.Xu 1 []]])) (h3:look 3 e=some (.ptr b 4 0 0)) (h57:look 57 e=some (.slice 2 (D.map Xb.c))) (h58:look 58 e=some (.int .i64 D.length)) (h59:look 59 e=some (.int .i64 0))
  (hK:∀e' O' N' v,Kp (fun j=>j=b) N O O'->Tail O' N'->N<=N'->Ap O' 2 v (D.map Xb.c)->(∀t,tkn v=some t->N<=t)->look b O'=some (.row 4 [[a,nx,v,.Xu 1 []]])->
   look 1 e'=look 1 e->look 2 e'=look 2 e->look 3 e'=look 3 e->Q (go Φ fin K .normal ⟨e',⟨O',N'⟩⟩)):
  Q (go Φ fin (.c (.loop c_65_l4):: .b 4::K) .normal ⟨e,⟨O,N⟩⟩):=by
 have hbN:=hT.lt hb;refine qgd D.length (fun i e' h=>∃O' N' v,h=⟨O',N'⟩/\Kp (fun j=>j=b) N O O'/\Tail O' N'/\N<=N'/\Ap O' 2 v ((D.take i).map Xb.c)/\(∀t,tkn v=some t->N<=t)/\look b O'=some (.row 4 [[a,nx,v,.Xu 1 []]])/\look 3 e'=some (.ptr b 4 0 0)/\look 57 e'=some (.slice 2 (D.map Xb.c))/\look 58 e'=some (.int .i64 D.length)/\look 59 e'=some (.int .i64 i)/\
   look 1 e'=look 1 e/\look 2 e'=look 2 e) Q ?_ ?_ 0 _ _ (Qc _) ?_
 ·rintro i e' _ L hi hL ⟨O',N',v,rfl,hk,hT',hN,hv,hvt,hb',h3,h57,h58,h59,g1,g2⟩ ih;have hw1:=qal i (by omega);have t0:=hT' N' (Qb _);have t1:=hT' (N'+1) (by omega);have hd:=hs _ (Qd hi);have c1:=qpq D[i].args hd;have hm:min i D.length=i:=by omega
  have hc:(i+1)*32<=70368744177664:=by omega
  have htk:(D.map Xb.c).take (i+1)=(D.map Xb.c).take i++[Xb.c D[i]]:=qcu hi;have hbN2:b<N':=by omega
  have q0:¬N'=b/\¬b=N'/\¬N'+1=b/\¬b=N'+1:=by omega
  obtain ⟨q1,q2,q3,q4⟩:=q0;rw [Xb.c] at htk;rcases hv with ⟨hz,rfl⟩ | ⟨t,rfl,ht⟩
  ·have hi0:i=0:=by
    have:=congrArg List.length hz;rw [QAi,QAq,QAx] at this;omega
   subst hi0;simp [c_65_l4,Xb.c,h3,h57,h58,h59,hi,t0,t1,c1,qaf,qad,hb',q1,q2,q3,q4,wr1];refine ih _ _ ⟨_,N'+1+1,.app 2 [Xb.c D[0]] (N'+1),rfl,?_,?_,by omega,.inr ⟨N'+1,?_,?_⟩,(fun t ht=>by simp only [tkn,Option.some.injEq] at ht;omega),?_,?_,?_,?_,?_,?_,?_⟩
   all_goals first
    | (simp [Xb.c,htk,h3,h57,h58,qad,qaf,t0,t1,q1,q2,q3,q4,hb',g1,g2];done)
    | skip
   ·exact Kp.setl (Kp.appL hk (by simp;omega)) (.inr rfl)
   ·exact qa4 (by simp [Tail_append_iff,Tail_cons_iff,qby];exact ⟨hT'.mono (by omega),by omega⟩)
  ·have n1:=qas ht hb' (by simp);have n2:=n1.symm;have htN:=hT'.lt ht;have r0:¬N'=t/\¬t=N':=by omega
   obtain ⟨r1,r2⟩:=r0;simp [hm] at ht;simp [c_65_l4,Xb.c,h3,h57,h58,h59,hi,t0,t1,c1,qaf,qad,hb',q1,q2,q3,q4,r1,r2,n1,n2,ht,hm,hc,hw1];refine ih _ _ ⟨_,N'+1,.app 2 ((D.map Xb.c).take i++[Xb.c D[i]]) t,rfl,?_,?_,by omega,.inr ⟨t,?_,?_⟩,hvt,?_,?_,?_,?_,?_,?_,?_⟩
   all_goals first
    | (simp [Xb.c,htk,h3,h57,h58,qad,qaf,t0,t1,q1,q2,q3,q4,r1,r2,n1,n2,ht,hm,hb',g1,g2];done)
    | skip
   ·exact Kp.setl (Kp.setl (Kp.app hk (by omega)) (.inl (hvt t rfl))) (.inr rfl)
   ·exact qa4 (qa4 (hT'.app1 (Qb _)))
 ·rintro e' _ L hL ⟨O',N',v,rfl,hk,hT',hN,hv,hvt,hb',h3,h57,h58,h59,g1,g2⟩;rw [QAl] at hv;simp [c_65_l4,h58,h59,hL];refine hK _ O' N' v hk hT' hN hv hvt hb' ?_ ?_ ?_<;>simp [g1,g2,h3, *]
 ·exact ⟨O,N,_,rfl,fun _ _ _=>rfl,hT,Qb _,.inl ⟨by simp,rfl⟩,(fun t ht=>by cases ht),hb,h3,h57,h58,h59,rfl,rfl⟩
theorem qabn (D:List (List Int)) (hD:D.length<2^40) (hs:∀d∈D,d.length<2^40) (a nx d:AV) (K:List Fr) (Q:Option β->Prop) (e:Env) (O:List (Nat×AO)) (N b:Nat) (hT:Tail O N)
  (hb:look b O=some (.row 4 [[a,nx,d,.Xu 1 []]])) (h3:look 3 e=some (.ptr b 4 0 0)) (h75:look 75 e=some (.slice 1 (D.map (cS 1 c32)))) (h76:look 76 e=some (.int .i64 D.length)) (h77:look 77 e=some (.int .i64 0))
  (hK:∀e' O' N' v,Kp (fun j=>j=b) N O O'->Tail O' N'->N<=N'->Ap O' 1 v (D.map (cS 1 c32))->(∀t,tkn v=some t->N<=t)->look b O'=some (.row 4 [[a,nx,d,v]])->
   look 1 e'=look 1 e->look 2 e'=look 2 e->look 3 e'=look 3 e->Q (go Φ fin K .normal ⟨e',⟨O',N'⟩⟩)):
  Q (go Φ fin (.c (.loop c_65_l5):: .b 6::K) .normal ⟨e,⟨O,N⟩⟩):=by
 have hbN:=hT.lt hb;refine qgd D.length (fun i e' h=>∃O' N' v,h=⟨O',N'⟩/\Kp (fun j=>j=b) N O O'/\Tail O' N'/\N<=N'/\Ap O' 1 v ((D.take i).map (cS 1 c32))/\(∀t,tkn v=some t->N<=t)/\look b O'=some (.row 4 [[a,nx,d,v]])/\look 3 e'=some (.ptr b 4 0 0)/\look 75 e'=some (.slice 1 (D.map (cS 1 c32)))/\look 76 e'=some (.int .i64 D.length)/\look 77 e'=some (.int .i64 i)/\
   look 1 e'=look 1 e/\look 2 e'=look 2 e) Q ?_ ?_ 0 _ _ (Qc _) ?_
 ·rintro i e' _ L hi hL ⟨O',N',v,rfl,hk,hT',hN,hv,hvt,hb',h3,h75,h76,h77,g1,g2⟩ ih;have hw1:=qal i (by omega);have t0:=hT' N' (Qb _);have hd:=hs _ (Qd hi);have c1:=qpq D[i] hd;have hm:min i D.length=i:=by omega
  have hc:(i+1)*24<=70368744177664:=by omega
  have htk:(D.map (cS 1 c32)).take (i+1)=(D.map (cS 1 c32)).take i++[[.slice 1 (D[i].map c32)]]:=qcu hi;have hbN2:b<N':=by omega
  have q0:¬N'=b/\¬b=N':=by omega
  obtain ⟨q1,q2⟩:=q0;rcases hv with ⟨hz,rfl⟩ | ⟨t,rfl,ht⟩
  ·have hi0:i=0:=by
    have:=congrArg List.length hz;rw [QAi,QAq,QAx] at this;omega
   subst hi0;simp [c_65_l5,cS,h3,h75,h76,h77,hi,t0,c1,qaf,qad,hb',q1,q2,wr1];refine ih _ _ ⟨_,N'+1,.app 1 [[.slice 1 (D[0].map c32)]] N',rfl,Kp.setl (Kp.app hk (by omega)) (.inr rfl),qa4 (hT'.app1 (Qb _)),by omega,.inr ⟨N',?_,?_⟩,(fun t ht=>by simp only [tkn,Option.some.injEq] at ht;omega),?_,?_,?_,?_,?_,?_,?_⟩
   all_goals simp [cS,htk,h3,h75,h76,qad,qaf,t0,q1,q2,hb',g1,g2]
   all_goals simp [Nat.min_eq_left (show 1<=D.length by omega)]
  ·have n1:=qas ht hb' (by simp);have n2:=n1.symm;simp [hm] at ht;simp [c_65_l5,cS,h3,h75,h76,h77,hi,t0,c1,qaf,qad,hb',q1,q2,n1,n2,ht,hm,hc,hw1];refine ih _ _ ⟨_,N',.app 1 ((D.map (cS 1 c32)).take i++[[.slice 1 (D[i].map c32)]]) t,rfl,Kp.setl (Kp.setl hk (.inl (hvt t rfl))) (.inr rfl),qa4 (qa4 hT'),by omega,.inr ⟨t,?_,?_⟩,hvt,?_,?_,?_,?_,?_,?_,?_⟩
   all_goals simp [htk,h3,h75,h76,qad,qaf,n1,n2,ht,hb',g1,g2,hm]
 ·rintro e' _ L hL ⟨O',N',v,rfl,hk,hT',hN,hv,hvt,hb',h3,h75,h76,h77,g1,g2⟩;rw [QAl] at hv;simp [c_65_l5,h76,h77,hL];refine hK _ O' N' v hk hT' hN hv hvt hb' ?_ ?_ ?_<;>simp [g1,g2,h3, *]
 ·exact ⟨O,N,_,rfl,fun _ _ _=>rfl,hT,Qb _,.inl ⟨by simp,rfl⟩,(fun t ht=>by cases ht),hb,h3,h75,h76,h77,rfl,rfl⟩
end
theorem Ap.snp {O:List (Nat×AO)} {N z n:Nat} {v:AV} {es:List (List AV)} (h:Ap O z v es):snap (n+1) ⟨O,N⟩ v=some (.slice z es):=by
 rcases h with ⟨rfl,rfl⟩ | ⟨t,rfl,_⟩<;>simp
def NcQ (c:Xf) (r:Option Rt):Prop:=r=some (.val (.agg [.slice 1 (c.rows.map (cS 5 Rw.c)),.slice 1 (c.Xr.map cI),.slice 2 (c.Xq.map Xb.c),.slice 1 (c.Xm.map (cS 1 c32))]))
theorem qfk (c:Xf) (s:CfgC c):qac Φ f_65 [.agg (Xf.c c)]=some (.val (.agg (Xf.c c))):=by
 rw [qaa (fn:=c_65) rfl rfl];have c1:=qaa0 c.Xr s.nl;simp [c_65,Xf.e4,c1];show NcQ c _;refine qzc c.rows s.rl s.rs (.slice 1 (c.Xr.map cI)) _ (NcQ c) _ _ _ 1 ?_ ?_ ?_ ?_ ?_ ?_ ?_
 ·simp [Tail_cons_iff,qby]
 ·simp
 ·simp
 ·simp
 ·simp
 ·simp
 intro e1 O1 N1 v1 k1 T1 n1 a1 f1 l1 x1 x2 x3;simp at x1 x2 x3;have z1:look 0 O1=some (.row 4 [[.Xu 1 [],.Xu 1 [],.Xu 2 [],.Xu 1 []]]):=by rw [k1 0 (by omega) (by omega)];simp
 simp [c_65_k8,x1];refine qabm c.Xq s.dl s.ds v1 (.slice 1 (c.Xr.map cI)) _ (NcQ c) _ _ _ 1 T1 l1 ?_ ?_ ?_ ?_ ?_
 ·simp [x3]
 ·simp
 ·simp
 ·simp
 intro e2 O2 N2 v2 k2 T2 n2 a2 f2 l2 y1 y2 y3;simp [x1,x2,x3] at y1 y2 y3;have z2:look 0 O2=some (.row 4 [[.Xu 1 [],.Xu 1 [],.Xu 2 [],.Xu 1 []]]):=by rw [k2 0 (by omega) (by omega),z1]
 have a1':Ap O2 1 v1 (c.rows.map (cS 5 Rw.c)):=a1.fr fun t ht=>by
  have:=f1 t ht;have h:=a1.tk ht;exact k2 t (T1.lt h) (by rintro rfl;rw [l1] at h;cases h)
 simp [c_65_k7,y1];refine qabn c.Xm s.gl s.gs v1 (.slice 1 (c.Xr.map cI)) v2 _ (NcQ c) _ _ _ 1 T2 l2 ?_ ?_ ?_ ?_ ?_
 ·simp [y3]
 ·simp
 ·simp
 ·simp
 intro e3 O3 N3 v3 k3 T3 n3 a3 f3 l3 w1 w2 w3;simp [y1,y2,y3] at w1 w2 w3;have z3:look 0 O3=some (.row 4 [[.Xu 1 [],.Xu 1 [],.Xu 2 [],.Xu 1 []]]):=by rw [k3 0 (by omega) (by omega),z2]
 have p1:∀n O N,snap (n+1) ⟨O,N⟩ v1=some (.slice 1 (c.rows.map (cS 5 Rw.c))):=fun n O N=>by rcases a1 with ⟨h,rfl⟩ | ⟨t,rfl,_⟩<;>simp [*]
 have p2:∀n O N,snap (n+1) ⟨O,N⟩ v2=some (.slice 2 (c.Xq.map Xb.c)):=fun n O N=>by rcases a2 with ⟨h,rfl⟩ | ⟨t,rfl,_⟩<;>simp [*]
 have p3:∀n O N,snap (n+1) ⟨O,N⟩ v3=some (.slice 1 (c.Xm.map (cS 1 c32))):=fun n O N=>by rcases a3 with ⟨h,rfl⟩ | ⟨t,rfl,_⟩<;>simp [*]
 simp [NcQ,c_65_k6,w2,w3,l3,z3,qad,p1,p2,p3]
def CCQ (N:Nat) (O:List (Nat×AO)) (cs:List Xf) (r:Option (Rt×AH)):Prop:=∃w O' N',r=some (.val w,⟨O',N'⟩)/\Ex1 O' 4 w (cs.map Xf.c)/\(∀j,vid w=some j->N<=j)/\Kp (fun _=>False) N O O'/\Tail O' N'/\N<=N'
theorem qe7 (cs:List Xf) (hs:∀c∈cs,CfgC c) (hl:cs.length<2^39) {O:List (Nat×AO)} {N:Nat} (hT:Tail O N) {v:AV} (hv:Re O 4 v (cs.map Xf.c)):CCQ N O cs (qah Φ f_37 [v] ⟨O,N⟩):=by
 rw [qaz (fn:=c_37) rfl rfl];have hlen:=hv.len;simp [c_37,hlen,-lenOf];refine qgd cs.length (fun i e' h=>∃O' N' w,h=⟨O',N'⟩/\((i=0/\w= .Xu 4 [])\/∃id,w= .row id 4 0 i/\look id O'=some (.row 4 ((cs.map Xf.c).take i))/\N<=id)/\Kp (fun _=>False) N O O'/\Tail O' N'/\N<=N'/\look 3 e'=some w/\look 6 e'=some v/\look 7 e'=some (.int .i64 cs.length)/\look 8 e'=some (.int .i64 i)) (CCQ N O cs) ?_ ?_ 0 _ _ (Qc _) ?_
 ·rintro i e' _ L hi hL ⟨O',N',w,rfl,hw,hk,hT',hN,h3,h6,h7,h8⟩ ih;have hw1:=qal i (by omega);have hT0:=hT' N' (Qb _);have hT1:=hT' (N'+1) (by omega);have hT2:=hT' (N'+1+1) (by omega);have hm:min i cs.length=i:=by omega
  have hc:=qfk cs[i] (hs _ (Qd hi));rw [Xf.e4] at hc;have htk:(cs.map Xf.c).take (i+1)=(cs.map Xf.c).take i++[Xf.c cs[i]]:=qcu hi;rw [Xf.e4] at htk;have hb:(i+1)*96<=70368744177664:=by omega
  have hv':Re O' 4 v (cs.map Xf.c):=by
   refine hv.fr fun j hj=>?_
   cases hv with
   | row id _ es0 n hn hl hle ht=>cases hj;exact hk j (hT.lt hl) (by simp)
   | sl=>cases hj
   | fs=>cases hj
   | ap=>cases hj
  have hlt:∀id y,look id O'=some y->¬id=N'/\¬N'=id/\¬id=N'+1/\¬N'+1=id/\¬id=N'+1+1/\¬N'+1+1=id:=fun id y h=>by have:=hT'.lt h;omega
  rcases hw with ⟨rfl,rfl⟩ | ⟨id,rfl,hlk,hid⟩
  ·cases hv' with
   | row id' _ es0 n hn hl' hle ht=>
    obtain ⟨q1,q2,q3,q4,q5,q6⟩:=hlt _ _ hl';have h0:es0[0]? =some (Xf.c cs[0]):=by
     have h:(es0.take (cs.map Xf.c).length)[0]? =(cs.map Xf.c)[0]? :=by rw [ht]
     rw [List.getElem?_take_of_lt (by simpa using hi)] at h;rw [h];simp [hi]
    rw [Xf.e4] at h0;simp [c_37_l0,Xf.e4,h3,h6,h7,h8,hi,hc,hT0,hT1,hT2,hn,hl',h0,q1,q2,q3,q4,q5,q6,qaf];refine ih _ _ ⟨_,N'+1+1+1,.row (N'+1+1) 4 0 1,rfl,.inr ⟨N'+1+1,rfl,?_,by omega⟩,Kp.appL hk (by simp;omega),?_,by omega,?_,?_,?_,?_⟩
    ·simp [qaf,hT2,htk]
    ·simp [Tail_append_iff,Tail_cons_iff,qby];exact hT'.mono (by omega)
    all_goals simp [h3,h6,h7,wr1]
   | _=>
    simp [c_37_l0,Xf.e4,h3,h6,h7,h8,hi,hc,hT0,hT1,hT2,qaf];refine ih _ _ ⟨_,N'+1+1+1,.row (N'+1+1) 4 0 1,rfl,.inr ⟨N'+1+1,rfl,?_,by omega⟩,Kp.appL hk (by simp;omega),?_,by omega,?_,?_,?_,?_⟩
    ·simp [qaf,hT2,htk]
    ·simp [Tail_append_iff,Tail_cons_iff,qby];exact hT'.mono (by omega)
    all_goals simp [h3,h6,h7,wr1]
  ·obtain ⟨r1,r2,r3,r4,r5,r6⟩:=hlt _ _ hlk;have hd:∀x,look (N'+1+1) (qay id (O'++[(N'+1,x)]))=none:=fun x=>qgl _ (by simp [qaf,hT2])
   cases hv' with
   | row id' _ es0 n hn hl' hle ht=>
    obtain ⟨q1,q2,q3,q4,q5,q6⟩:=hlt _ _ hl';have h0:es0[i]? =some (Xf.c cs[i]):=by
     have h:(es0.take (cs.map Xf.c).length)[i]? =(cs.map Xf.c)[i]? :=by rw [ht]
     rw [List.getElem?_take_of_lt (by simpa using hi)] at h;rw [h];simp [hi]
    rw [Xf.e4] at h0;simp [c_37_l0,Xf.e4,h3,h6,h7,h8,hi,hc,hT0,hT1,hT2,hn,hl',h0,hw1,hlk,hb,hm,hd,q1,q2,q3,q4,q5,q6,r1,r2,r3,r4,r5,r6,qaf];refine ih _ _ ⟨_,N'+1+1+1,.row (N'+1+1) 4 0 (i+1),rfl,.inr ⟨N'+1+1,rfl,?_,by omega⟩,Kp.appL (Kp.drop (Kp.app hk (by omega)) (.inl hid)) (by simp;omega),?_,by omega,?_,?_,?_,?_⟩
    ·simp [qaf,hd,htk]
    ·rw [Tail_append_iff];exact ⟨qh6 (by simp [Tail_append_iff,Tail_cons_iff,qby];exact hT'.mono (by omega)),by simp [Tail_cons_iff,qby]⟩
    all_goals simp [h3,h6,h7]
   | _=>
    simp [c_37_l0,Xf.e4,h3,h6,h7,h8,hi,hc,hT0,hT1,hT2,hw1,hlk,hb,hm,hd,r1,r2,r3,r4,r5,r6,qaf];refine ih _ _ ⟨_,N'+1+1+1,.row (N'+1+1) 4 0 (i+1),rfl,.inr ⟨N'+1+1,rfl,?_,by omega⟩,Kp.appL (Kp.drop (Kp.app hk (by omega)) (.inl hid)) (by simp;omega),?_,by omega,?_,?_,?_,?_⟩
    ·simp [qaf,hd,htk]
    ·rw [Tail_append_iff];exact ⟨qh6 (by simp [Tail_append_iff,Tail_cons_iff,qby];exact hT'.mono (by omega)),by simp [Tail_cons_iff,qby]⟩
    all_goals simp [h3,h6,h7]
 ·rintro e' _ L hL ⟨O',N',w,rfl,hw,hk,hT',hN,h3,h6,h7,h8⟩;simp [c_37_l0,c_37_k1,h3,h7,h8,hL];refine ⟨_,_,_,rfl,?_,?_,hk,hT',hN⟩
  ·rcases hw with ⟨hz,rfl⟩ | ⟨id,rfl,hlk,hid⟩
   ·exact .inl ⟨by rw [Qg hz];rfl,rfl⟩
   ·rw [Qo (by simp)] at hlk;exact .inr ⟨id,by simp,hlk⟩
  ·rcases hw with ⟨hz,rfl⟩ | ⟨id,rfl,hlk,hid⟩
   ·intro j hj;cases hj
   ·intro j hj;cases hj;exact hid
 ·exact ⟨O,N,_,by simp,.inl ⟨rfl,rfl⟩,fun _ _ _=>rfl,hT,Qb _,by simp,by simp,by simp,by simp⟩
set_option maxRecDepth 4000
theorem qv1 {p:Prg} {t:Int} {tb:Tbl} (h:(tblE p t).2=0) (ht:at? p.Xn t=some tb):tb.size<=256:=by
 unfold tblE at h;rw [ht] at h;simp only at h;split at h
 ·cases h
 split at h
 ·cases h
 split at h
 ·cases h
 ·omega
theorem qwi {p:Prg} {t:Int} {x:Entry} (h:entE p t x=0):(tblE p t).2=0:=by
 unfold entE at h;refine Decidable.byContradiction fun hc=>?_
 rw [QAb hc] at h;exact hc h
theorem CfgV.small {p:Prg} {c:Xf} (v:CfgV p c):∀l∈c.rows,l.length<=256:=by
 intro l hl;obtain ⟨k,hk,rfl⟩:=Qn.1 hl;have hkt:k<p.Xn.length:=by rw [<- v.rl];exact hk
 have hv:=v.at hkt;by_cases h0:c.rows[k].length=0
 ·omega
 have he:=hv.ent _ (Qd (show 0<c.rows[k].length by omega));have hs:=qv1 (qwi he) (by rw [quh];exact Qa hkt);have:=hv.size;omega
theorem CfgV.u {p:Prg} {c:Xf} (v:CfgV p c) (s:CfgT c):CfgU c:=⟨s,fun l hl=>by have:=v.small l hl;omega⟩
section
variable {O:List (Nat×AO)} {N:Nat} {S:SV} {p:Prg} {c:Xf}
theorem StoreM.se (m:StoreM O S p c):look S.s O=some (.row 15 [[S.v1,S.v2,S.v3,S.v4,.str p.name,.slice 2 (p.Xp.map Xj.c),.slice 2 (p.Xo.map Fld.c),.slice 3 (p.Xm.map Xh.c),.slice 3 (p.actions.map Action.c),.slice 6 (p.Xn.map Tbl.c),.slice 7 (p.states.map Xd.c),.slice 5 (p.control.map Xa.c),.slice 1 (p.Xs.map cI),S.vi,.bool true]]):=by
 have hs:=m.s;simp only [SV.cells,Prg.e,QBc,List.nil_append] at hs;exact hs
theorem StoreM.l1 (m:StoreM O S p c):lenOf S.v1=some c.rows.length:=by
 have:=m.cm.r.len;rw [QAi,m.cm.rl] at this;exact this
theorem StoreM.idx (m:StoreM O S p c) {k:Nat} (hk:k<c.rows.length):∃id es0,S.vi= .row id 1 0 c.rows.length/\look id O=some (.row 1 es0)/\c.rows.length<=es0.length/\∃hM:k<S.M.length,es0[k]? =some [.map (S.M[k])]/\look (S.M[k]) O=some (.map (ents c.rows[k])):=by
 have hl:=m.x.len;obtain ⟨id,es0,e,hl1,hle,ht⟩:=m.x.i.nonempty (by simp;omega);rw [QAi,hl] at e hle;have hM:k<S.M.length:=by omega
 refine ⟨id,es0,e,hl1,hle,hM,qsa hM ht,m.x.m k _ _ (Qa hM) (Qa hk)⟩
theorem StoreM.tab (m:StoreM O S p c) {k:Nat} (hk:k<c.rows.length):∃id es0,S.v1= .row id 1 0 c.rows.length/\look id O=some (.row 1 es0)/\c.rows.length<=es0.length/\(∃hV:k<S.V.length,es0[k]? =some [S.V[k]]/\Mu O 5 S.V[k] (c.rows[k].map Rw.c))/\es0.take c.rows.length=S.V.map fun x=>[x]:=by
 have hl:=m.cm.rl;obtain ⟨id,es0,e,hl1,hle,ht⟩:=m.cm.r.nonempty (by simp;omega);have ht':=ht;rw [QAi,hl] at e hle ht';have hV:k<S.V.length:=by omega
 refine ⟨id,es0,e,hl1,hle,⟨hV,qsa hV ht,m.cm.rv k _ _ (Qa hV) (Qa hk)⟩,ht'⟩
end
theorem Mu.upd {O':List (Nat×AO)} {id z k:Nat} {es es0:List (List AV)} {y:List AV} (hl:look id O'=some (.row z (es0.set k y))) (hle:es.length<=es0.length) (ht:es0.take es.length=es):Mu O' z (.row id z 0 es.length) (es.set k y):=
 .row id _ _ _ (by simp) hl (by simpa using hle) (by rw [List.length_set,List.take_set,ht])
def SV.chg (S:SV) (k j:Nat):Prop:=(∃v,S.V[k]? =some v/\vid v=some j)\/vid S.v1=some j\/vid S.v2=some j\/vid S.vi=some j\/S.M[k]? =some j
def SV.tab (S:SV) (k:Nat) (v:AV) (m:Nat):SV:=⟨S.s,S.v1,S.v2,S.v3,S.v4,S.vi,S.V.set k v,S.M.set k m⟩
section
variable {O O':List (Nat×AO)} {S:SV} {p:Prg} {c:Xf} {k:Nat}
theorem StoreM.vrow (m:StoreM O S p c) {j:Nat} {v:AV} {i:Nat} (hv:S.V[j]? =some v) (hi:vid v=some i):∃es,look i O=some (.row 5 es):=by
 have hj:=(Qm.1 hv).1;exact (m.cm.rv j v _ hv (Qa (by rw [<- m.cm.rl];exact hj))).own hi
theorem StoreM.mmap (m:StoreM O S p c) {j i:Nat} (hv:S.M[j]? =some i):∃es,look i O=some (.map es):=by
 have hj:=(Qm.1 hv).1;exact ⟨_,m.x.m j i _ hv (Qa (by rw [<- m.x.len];exact hj))⟩
theorem StoreM.upd (m:StoreM O S p c) (hk:k<c.rows.length) {v':AV} {m':Nat} {l':List Rw} {nx:Int}
  (keep:∀j,S.own j->¬S.chg k j->look j O'=look j O)
  (h1:Mu O' 1 S.v1 ((S.V.set k v').map fun x=>[x])) (h2:Mu O' 1 S.v2 ((c.Xr.set k nx).map cI)) (h3:Mu O' 1 S.vi ((S.M.set k m').map fun x=>[.map x])) (h4:Mu O' 5 v' (l'.map Rw.c)) (h5:look m' O'=some (.map (ents l')))
  (h6:∀z es t,v'≠ .app z es t) (d1:∀i,vid v'=some i->(∃v,S.V[k]? =some v/\vid v=some i)\/∀x,look i O=some x->x= .res) (d2:S.M[k]? =some m'\/∀x,look m' O=some x->x= .res):
  StoreM O' (S.tab k v' m') p ⟨c.rows.set k l',c.Xr.set k nx,c.Xq,c.Xm⟩:=by
 have hVl:=m.cm.rl;have hMl:=m.x.len;have ks:look S.s O'=look S.s O:=by
  refine keep S.s (.inl rfl) ?_;rintro (⟨v,hv,hi⟩ | hi | hi | hi | hi)
  ·obtain ⟨es,hl⟩:=m.vrow hv hi;exact qas m.s hl (by simp) rfl
  ·obtain ⟨es,hl⟩:=m.cm.r.own hi;exact qas m.s hl (by simp) rfl
  ·obtain ⟨es,hl⟩:=m.cm.n.own hi;exact qas m.s hl (by simp) rfl
  ·obtain ⟨es,hl⟩:=m.x.i.own hi;exact qas m.s hl (by simp) rfl
  ·obtain ⟨es,hl⟩:=m.mmap hi;exact qas m.s hl (by simp) rfl
 have kv:∀(j:Nat) (v:AV) (i:Nat),j≠k->S.V[j]? =some v->vid v=some i->look i O'=look i O:=by
  intro j v i hj hv hi;obtain ⟨es0,hl0⟩:=m.vrow hv hi;refine keep i (.inr (.inl (.inr (.inr (.inr ⟨v,Qe hv,hi⟩))))) ?_;rintro (⟨w,hw,hi'⟩ | hi' | hi' | hi' | hi')
  ·exact hj (m.cm.vi j k v w i hv hw hi hi')
  ·obtain ⟨es,hl⟩:=m.cm.r.own hi';exact qas hl0 hl (by simp) rfl
  ·obtain ⟨es,hl⟩:=m.cm.n.own hi';exact qas hl0 hl (by simp) rfl
  ·obtain ⟨es,hl⟩:=m.x.i.own hi';exact qas hl0 hl (by simp) rfl
  ·obtain ⟨es,hl⟩:=m.mmap hi';exact qas hl0 hl (by simp) rfl
 have km:∀(j i:Nat),j≠k->S.M[j]? =some i->look i O'=look i O:=by
  intro j i hj hv;obtain ⟨es0,hl0⟩:=m.mmap hv;refine keep i (.inr (.inr (.inr (Qe hv)))) ?_;rintro (⟨w,hw,hi'⟩ | hi' | hi' | hi' | hi')
  ·obtain ⟨es,hl⟩:=m.vrow hw hi';exact qas hl0 hl (by simp) rfl
  ·obtain ⟨es,hl⟩:=m.cm.r.own hi';exact qas hl0 hl (by simp) rfl
  ·obtain ⟨es,hl⟩:=m.cm.n.own hi';exact qas hl0 hl (by simp) rfl
  ·obtain ⟨es,hl⟩:=m.x.i.own hi';exact qas hl0 hl (by simp) rfl
  ·exact hj (m.x.nd j k i hv hi')
 have kd:Mu O' 2 S.v3 (c.Xq.map Xb.c):=by
  refine m.cm.d.fr fun i hi=>?_
  obtain ⟨es0,hl0⟩:=m.cm.d.own hi;refine keep i (.inr (.inl (.inr (.inr (.inl hi))))) ?_;rintro (⟨w,hw,hi'⟩ | hi' | hi' | hi' | hi')
  ·obtain ⟨es,hl⟩:=m.vrow hw hi';exact qas hl0 hl (by simp) rfl
  ·obtain ⟨es,hl⟩:=m.cm.r.own hi';exact qas hl0 hl (by simp) rfl
  ·obtain ⟨es,hl⟩:=m.cm.n.own hi';exact qas hl0 hl (by simp) rfl
  ·obtain ⟨es,hl⟩:=m.x.i.own hi';exact qas hl0 hl (by simp) rfl
  ·obtain ⟨es,hl⟩:=m.mmap hi';exact qas hl0 hl (by simp) rfl
 have other:∀(j:Nat) (v:AV) (i:Nat),j≠k->S.V[j]? =some v->vid v=some i->vid v'=some i->False:=by
  intro j v i hj hv hi hi';rcases d1 i hi' with ⟨w,hw,hw'⟩ | hf
  ·exact hj (m.cm.vi j k v w i hv hw hi hw')
  ·obtain ⟨es,hl⟩:=m.vrow hv hi;have:=hf _ hl;cases this
 refine ⟨?_,⟨h1,by simp [SV.tab,hVl],?_,h2,kd,m.cm.g,m.cm.rn,?_,?_⟩,⟨h3,by simp [SV.tab,hMl],?_,?_⟩,m.ri,m.ni⟩
 ·show look S.s O'=_;rw [ks];exact m.s
 ·intro j v l hv hl;simp only [SV.tab] at hv;by_cases hj:k=j
  ·subst hj;rw [List.getElem?_set_self (by omega)] at hv hl;cases hv;cases hl;exact h4
  ·rw [List.getElem?_set_ne hj] at hv hl;have h0:=m.cm.rv j v l hv hl;exact h0.fr fun i hi=>kv j v i (fun e=>hj e.symm) hv hi
 ·intro a b v w i ha hb hi hi';simp only [SV.tab] at ha hb;by_cases hka:k=a
  ·by_cases hkb:k=b
   ·omega
   ·subst hka;rw [List.getElem?_set_self (by omega)] at ha;rw [List.getElem?_set_ne hkb] at hb;cases ha;exact (other b w i (fun e=>hkb e.symm) hb hi' hi).elim
  ·by_cases hkb:k=b
   ·subst hkb;rw [List.getElem?_set_self (by omega)] at hb;rw [List.getElem?_set_ne hka] at ha;cases hb;exact (other a v i (fun e=>hka e.symm) ha hi hi').elim
   ·rw [List.getElem?_set_ne hka] at ha;rw [List.getElem?_set_ne hkb] at hb;exact m.cm.vi a b v w i ha hb hi hi'
 ·intro v hv;simp only [SV.tab] at hv;rcases Qq hv with hv | rfl
  ·exact m.cm.va v hv
  ·exact h6
 ·intro j i l hi hl;simp only [SV.tab] at hi;by_cases hj:k=j
  ·subst hj;rw [List.getElem?_set_self (by omega)] at hi hl;cases hi;cases hl;exact h5
  ·rw [List.getElem?_set_ne hj] at hi hl;rw [km j i (fun e=>hj e.symm) hi];exact m.x.m j i l hi hl
 ·intro a b i ha hb;simp only [SV.tab] at ha hb;have oth:∀j,j≠k->S.M[j]? =some m'->False:=by
   intro j hj hv;rcases d2 with h0 | hf
   ·exact hj (m.x.nd j k m' hv h0)
   ·obtain ⟨es,hl⟩:=m.mmap hv;have:=hf _ hl;cases this
  by_cases hka:k=a
  ·by_cases hkb:k=b
   ·omega
   ·subst hka;rw [List.getElem?_set_self (by omega)] at ha;rw [List.getElem?_set_ne hkb] at hb;cases ha;exact (oth b (fun e=>hkb e.symm) hb).elim
  ·by_cases hkb:k=b
   ·subst hkb;rw [List.getElem?_set_self (by omega)] at hb;rw [List.getElem?_set_ne hka] at ha;cases hb;exact (oth a (fun e=>hka e.symm) ha).elim
   ·rw [List.getElem?_set_ne hka] at ha;rw [List.getElem?_set_ne hkb] at hb;exact m.x.nd a b i ha hb
end
structure PrgV (p:Prg):Prop where
 lim:limD p=none
 hdr:hdrD p=none
 met:metD p=none
 reg:regD p=none
 act:actD1 p=none
 tbl:tblD p=none
 flo:floD p=none
theorem PrgV.nest {p:Prg} (v:PrgV p):nest p.control<=6:=by
 have h:=v.flo;unfold floD at h;split at h
 ·cases h
 split at h
 ·cases h
 rename_i h1;refine Decidable.byContradiction fun hc=>h1 ?_
 unfold ctlE;split
 ·simp
 ·rw [QAb (by omega)];simp
theorem qf9 {α:Type} (f:α->α->Bool):∀l:List α,(∀x∈l,f x x=true)->eqL f l l=true
 | [],_=>by simp [eqL]
 | x::r,h=>by simp [eqL,h x (QCc ..),qf9 f r (fun y hy=>h y (QAj _ hy))]
def Rf (n:Nat) (v:AV):Prop:=avEq n v v=true
theorem Rf.int (n:Nat) (k:IntKind) (v:Int):Rf (n+1) (.int k v):=by unfold Rf avEq;simp
theorem Rf.bool (n:Nat) (b:Bool):Rf (n+1) (.bool b):=by unfold Rf avEq;simp
theorem Rf.str (n:Nat) (b:List UInt8):Rf (n+1) (.str b):=by unfold Rf avEq;simp
theorem Rf.row (n a b c d:Nat):Rf (n+1) (.row a b c d):=by unfold Rf avEq;simp
theorem Rf.slice (n z:Nat) (es:List (List AV)) (h:∀e∈es,∀c∈e,Rf n c):Rf (n+1) (.slice z es):=by
 have:=qf9 (eqL (avEq n)) es fun e he=>qf9 (avEq n) e (h e he)
 unfold Rf avEq;simp [this]
theorem Rf.Xu (n z:Nat) (es:List (List AV)) (h:∀e∈es,∀c∈e,Rf n c):Rf (n+1) (.Xu z es):=by
 have:=qf9 (eqL (avEq n)) es fun e he=>qf9 (avEq n) e (h e he)
 unfold Rf avEq;simp [this]
theorem Rf.app (n z t:Nat) (es:List (List AV)) (h:∀e∈es,∀c∈e,Rf n c):Rf (n+1) (.app z es t):=by
 have:=qf9 (eqL (avEq n)) es fun e he=>qf9 (avEq n) e (h e he)
 unfold Rf avEq;simp [this]
theorem Rf.map {α:Type} (n z:Nat) (f:α->List AV) (l:List α) (h:∀x∈l,∀c∈f x,Rf n c):Rf (n+1) (.slice z (l.map f)):=by
 refine Rf.slice n z _ fun e he=>?_
 obtain ⟨x,hx,rfl⟩:=QAu.1 he;exact h x hx
theorem rf_I (n:Nat) (x:Int):∀c∈cI x,Rf (n+1) c:=by simp [cI,Rf.int]
theorem qd9 {t:Nat} {y z:AO}:∀{O:List (Nat×AO)},setl t z (setl t y O)=setl t z O
 | []=>by simp
 | (u,w)::r=>by
  by_cases hu:u=t
  ·subst hu;simp
  ·simp [hu,qd9]
theorem qk2:∀{l:List Pk} {H:List AV} {i:Nat} {x:Pk} {h:AV},H.length=l.length->pkN (l.set i x) (H.set i h)=(pkN l H).set i (PkN x h)
 | [],[],_,_,_,_=>rfl
 | a::l,b::H,0,x,h,_=>rfl
 | a::l,b::H,i+1,x,h,hl=>by
  have:=qk2 (l:=l) (H:=H) (i:=i) (x:=x) (h:=h) (by simpa using hl);simp only [pkN,List.set_cons_succ,List.zipWith_cons_cons] at this ⊢;rw [this]
section
variable {O O':List (Nat×AO)} {n P i:Nat} {V:NetV} {f lv:AV} {C:Nat} {H:List AV} {x x':Pk} {h h':AV}
theorem NetM.setP (m:NetM O n V f C (.row P 9 0 V.pk.length) lv H) (hx:V.pk[i]? =some x) (hh:H[i]? =some h) (hP:look P O'=some (.row 9 ((pkN V.pk H).set i (PkN x' h')))) (ha:Ap O' 3 h' (x'.hops.map Hop.c)) (ht:∀t,tkn h'=some t->tkn h=some t\/look t O=none\/look t O=some .res)
  (hk:∀(j:Nat) (y:AO),look j O=some y->y≠ .res->j≠P->tkn h≠some j->look j O'=some y):NetM O' n { V with pk:=V.pk.set i x' } f C (.row P 9 0 V.pk.length) lv (H.set i h'):=by
 have hPl:look P O=some (.row 9 (pkN V.pk H)):=m.pk.id rfl;have ho:∀j,NetM.own n C (.row P 9 0 V.pk.length) lv H j->j≠P->tkn h≠some j->look j O'=look j O:=by
  intro j hj h1 h2;obtain ⟨y,hy,hny⟩:=m.nr hj;rw [hk j y hy hny h1 h2,hy]
 have hth:∀j y,look j O=some y->(∀l,y≠ .tok 3 l)->tkn h≠some j:=by
  intro j y hj hy hc;obtain ⟨l,hl⟩:=m.hk hh hc;rw [hj] at hl;cases hl;exact hy _ rfl
 have hi:i<V.pk.length:=(Qm.1 hx).1;have hiH:i<H.length:=by rw [m.hl];exact hi
 have hlh:tkn lv≠none->∀t,tkn lv=some t->tkn h≠some t:=fun _ t h1 h2=>m.hg i h t hh h2 h1
 refine ⟨by rw [ho n (.inl rfl) (qas m.row hPl (by simp)) (hth n _ m.row (by simp))];exact m.row,by rw [ho C (.inr (.inl rfl)) (qas m.cf hPl (by simp)) (hth C _ m.cf (by simp))];exact m.cf,.inr ⟨P,by rw [qbr (by simp [m.hl])];simp,by rw [qk2 m.hl];exact hP⟩,by simp [m.hl],?_,m.lg.fr fun t htt=>ho t (.inr (.inr (.inr (.inl htt)))) (qas (m.lg.tk htt) hPl (by simp)) (fun hc=>m.hg i h t hh hc htt),?_,?_⟩
 ·intro k y g hy hg;by_cases hki:k=i
  ·subst hki;rw [List.getElem?_set_self hi] at hy;rw [List.getElem?_set_self hiH] at hg;cases hy;cases hg;exact ha
  ·rw [List.getElem?_set_ne (Ne.symm hki)] at hy hg;refine (m.hp k y g hy hg).fr fun t htt=>?_
   obtain ⟨l,hl⟩:=m.hk hg htt;exact ho t (.inr (.inr (.inr (.inr ⟨g,Qe hg,htt⟩)))) (qas hl hPl (by simp)) fun hc=>hki (m.hi k i g h t hg hh htt hc)
 ·have key:∀(k:Nat) (g:AV) (t:Nat),k≠i->H[k]? =some g->tkn g=some t->tkn h'≠some t:=by
   intro k g t hki hg hgt hc;obtain ⟨l,hl⟩:=m.hk hg hgt;rcases ht t hc with h1 | h1 | h1
   ·exact hki (m.hi k i g h t hg hh hgt h1)
   ·rw [h1] at hl;cases hl
   ·rw [h1] at hl;cases hl
  intro k k' g g' t hg hg' hgt hgt';by_cases hki:k=i
  ·by_cases hki':k'=i
   ·rw [hki,hki']
   ·subst hki;rw [List.getElem?_set_self hiH] at hg;rw [List.getElem?_set_ne (Ne.symm hki')] at hg';cases hg;exact absurd hgt (key k' g' t hki' hg' hgt')
  ·by_cases hki':k'=i
   ·subst hki';rw [List.getElem?_set_self hiH] at hg';rw [List.getElem?_set_ne (Ne.symm hki)] at hg;cases hg';exact absurd hgt' (key k g t hki hg hgt)
   ·rw [List.getElem?_set_ne (Ne.symm hki)] at hg;rw [List.getElem?_set_ne (Ne.symm hki')] at hg';exact m.hi k k' g g' t hg hg' hgt hgt'
 ·intro k g t hg hgt hc;by_cases hki:k=i
  ·subst hki;rw [List.getElem?_set_self hiH] at hg;cases hg;have hl:=m.lg.tk hc;rcases ht t hgt with h1 | h1 | h1
   ·exact m.hg k h t hh h1 hc
   ·rw [h1] at hl;cases hl
   ·rw [h1] at hl;cases hl
  ·rw [List.getElem?_set_ne (Ne.symm hki)] at hg;exact m.hg k g t hg hgt hc
theorem NetM.setC {pv:AV} {k:Nat} {c:Xf} (m:NetM O n V f C pv lv H) (hC:look C O'=some (.row 4 ((V.cs.map Xf.c).set k (Xf.c c)))) (hk:∀(j:Nat) (y:AO),look j O=some y->y≠ .res->j≠C->look j O'=some y):NetM O' n { V with cs:=V.cs.set k c } f C pv lv H:=by
 have ho:∀j,NetM.own n C pv lv H j->j≠C->look j O'=look j O:=by
  intro j hj h1;obtain ⟨y,hy,hny⟩:=m.nr hj;rw [hk j y hy hny h1,hy]
 have hCp:∀t,vid pv=some t->t≠C:=by
  intro t ht;have h1:=m.pk.id ht;rintro rfl;rw [m.cf] at h1;cases h1
 refine ⟨by rw [ho n (.inl rfl) (qas m.row m.cf (by simp)),m.row];simp [nwR],by rw [hC,QCa],m.pk.fr fun t ht=>ho t (.inr (.inr (.inl ht))) (hCp t ht),m.hl,?_,m.lg.fr fun t ht=>ho t (.inr (.inr (.inr (.inl ht)))) (qas (m.lg.tk ht) m.cf (by simp)),m.hi,m.hg⟩;intro k x h hx hh;refine (m.hp k x h hx hh).fr fun t ht=>?_
 obtain ⟨l,hl⟩:=m.hk hh ht;exact ho t (.inr (.inr (.inr (.inr ⟨h,Qe hh,ht⟩)))) (qas hl m.cf (by simp))
end
theorem quz {O:List (Nat×AO)} {N P i:Nat} {es:List (List AV)} {x:Pk} {h:AV} (hP:look P O=some (.row 9 es)) (hi:i<es.length) (he:es[i]? =some (PkN x h)) (k a:Int):
  qah Φ f_66 [.ptr P 9 i 0,.int .i64 k,.int .i64 a] ⟨O,N⟩=some (.val (.tup []),⟨setl P (.row 9 (es.set i (PkN (x.fin k a) h))) O,N⟩):=by
 rw [qaz (fn:=c_66) rfl rfl];have he':es[i]=PkN x h:=by rw [Qa hi] at he;exact Option.some.inj he
 rw [PkN] at he';simp [c_66,hP,he',hi,qad,PkN,Pk.fin,qd9]
theorem qto {r:List (Nat×AO)} {N j:Nat} (hr:∀p∈r,N<=p.1) (hj:j<N):look j r=none:=by
 induction r with
 | nil=>rfl
 | cons p r ih=>
  have h1:=hr p (by simp);have:¬p.1=j:=by omega
  simp only [look,QA this];exact ih fun q hq=>hr q (by simp [hq])
theorem qug {r:List (Nat×AO)} {N:Nat} (hr:∀p∈r,p.1<N):Tail r N:=by
 induction r with
 | nil=>exact Tail.nil _
 | cons p r ih=>exact Tail_cons_iff.2 ⟨hr p (by simp),ih fun q hq=>hr q (by simp [hq])⟩
theorem Fw.appL {X:Nat->Prop} {N N1 N2:Nat} {O O1 r:List (Nat×AO)} (h:Fw X N O O1 N1) (hr:∀p∈r,N<=p.1/\p.1<N2) (hn:N1<=N2):Fw X N O (O1++r) N2:=
 ⟨fun j hj hx=>by rw [qaf,h.kp j hj hx,qto (fun p hp=>(hr p hp).1) hj];simp,Tail_append_iff.2 ⟨h.tl.mono hn,qug fun p hp=>(hr p hp).2⟩,QAh h.le hn⟩
def st0:Xv:=match c_29.body with | .seq a _=>a | c=>c
def st1:Xv:=match c_29.body with | .seq _ (.seq a _)=>a | c=>c
def st2:Xv:=match c_29.body with | .seq _ (.seq _ (.seq a _))=>a | c=>c
def st3:Xv:=match c_29.body with | .seq _ (.seq _ (.seq _ (.seq a _)))=>a | c=>c
def st4:Xv:=match c_29.body with | .seq _ (.seq _ (.seq _ (.seq _ (.seq a _))))=>a | c=>c
def st5:Xv:=match c_29.body with | .seq _ (.seq _ (.seq _ (.seq _ (.seq _ (.seq a _)))))=>a | c=>c
def stpK:Xv:=match c_29.body with | .seq _ (.seq _ (.seq _ (.seq _ (.seq _ (.seq _ a)))))=>a | c=>c
theorem qoo:c_29.body= .seq st0 (.seq st1 (.seq st2 (.seq st3 (.seq st4 (.seq st5 stpK))))):=rfl
def zEv:AO:= .row 4 [[.int .i64 0,.int .i64 0,.int .i64 0,.int .i64 0]]
section
variable {O:List (Nat×AO)} {n N g P C i k:Nat} {V:NetV} {lv:AV} {H:List AV} {X:Nat->Prop} {x:Pk} {h:AV} {r:Rslt} {c':Xf}
theorem qx0 (m:NetM O n V (.func (.func g) [] []) C (.row P 9 0 V.pk.length) lv H) (hX:∀j,NetM.own n C (.row P 9 0 V.pk.length) lv H j->X j) (hT:Tail O N) (hi:i<V.pk.length) (hx:V.pk[i]=x) (hh:H[i]? =some h) (hs:x.pos.switch=k) (hk:k<V.cs.length)
  (hc:CfgC V.cs[k]) (hc':CfgC c') (hd:x.done=false) (hdl:x.data.length<2^40) (hp:qac Φ g [.agg (Xf.c V.cs[k]),.agg [.int .i64 x.pos.port,.slice 1 (x.data.map c8)]]=some (.val (.tup [.agg (Rslt.c r),.agg (Xf.c c')]))) (Q:Option (Rt×AH)->Prop)
  (hQ:∀e' O' N',NetM O' n { V with cs:=V.cs.set k c' } (.func (.func g) [] []) C (.row P 9 0 V.pk.length) lv H->Fw X N O O' N'->look N O'=some zEv->N<N'->look 0 e'=some (.ptr n 7 0 0)->look 1 e'=some (.int .i64 i)->look 4 e'=some (.ptr N 4 0 0)->look 6 e'=some (.ptr P 9 i 0)->look 7 e'=some (.func (.func f_64) [.ptr n 7 0 0] [])->look 8 e'=some (.int .i64 k)->look 9 e'=some (.int .i64 x.pos.port)->look 10 e'=some (.iptr 4 [Rslt.c r] 0 0)->
   Q (go Φ (finC [.cell 4 true 4,.tmp 5]) [.c stpK] .normal ⟨e',⟨O',N'⟩⟩)):
  Q (qah Φ f_29 [.ptr n 7 0 0,.int .i64 i] ⟨O,N⟩):=by
 rw [qaz (fn:=c_29) rfl rfl,qoo,show c_29.results=[.cell 4 true 4,.tmp 5] from rfl];have hrow:=m.row;have hm:=fun O N=>qio (O:=O) (N:=N) (n:=n) (V:=V) (cv:= .row C 4 0 V.cs.length) (pv:= .row P 9 0 V.pk.length) (lv:=lv) (g:=g)
 rw [qcl] at hrow hm;have hPl:look P O=some (.row 9 (pkN V.pk H)):=m.pk.id rfl;have hiN:i<(pkN V.pk H).length:=by rw [qbr m.hl];exact hi
 have hat:(pkN V.pk H)[i]=PkN x h:=by
  have:=qgf (Qa hi) hh;rw [hx,Qa hiN] at this;exact Option.some.inj this
 rw [PkN,hs,hd] at hat;have hcf:=m.cf;have hi2:¬V.pk.length<=i:=by omega
 have cc:=qfk _ hc;have cc':=qfk _ hc';have hB:=clBy x.data hdl;rw [Xf.e4] at cc cc';rw [Rslt.ce,Xf.e4,Xf.e4] at hp;have t0:=hT N (Qb _);have hT':∀k,look (N+1+k) O=none:=fun k=>hT (N+1+k) (by omega)
 have lt:=hT.lt hrow;have ltP:=hT.lt hPl;have ltC:=hT.lt hcf;have q0:¬N=n/\¬n=N/\¬N=P/\¬P=N/\¬N=C/\¬C=N:=by omega
 obtain ⟨q1,q2,q3,q4,q5,q6⟩:=q0;have u1:C≠n:=qas hcf hrow (by simp);have u2:=u1.symm;have u3:P≠n:=qas hPl hrow (by simp);have u4:=u3.symm;have u5:P≠C:=qas hPl hcf (by simp);have u6:=u5.symm;have q7:∀k,¬N+1+k=n:=fun k=>by omega
 have q8:∀k,¬n=N+1+k:=fun k=>by omega
 have q9:∀k,¬N+1+k=P:=fun k=>by omega
 have q10:∀k,¬P=N+1+k:=fun k=>by omega
 have q11:∀k,¬N+1+k=C:=fun k=>by omega
 have q12:∀k,¬C=N+1+k:=fun k=>by omega
 have q13:∀k,¬N=N+1+k:=fun k=>by omega
 have q14:∀k,¬N+1+k=N:=fun k=>by omega
 have q15:∀k,(n == N+1+k)=false:=fun k=>by simp;omega
 have q16:∀k,(P == N+1+k)=false:=fun k=>by simp;omega
 have q17:∀k,(C == N+1+k)=false:=fun k=>by simp;omega
 have q18:(N+1 == N)=false/\(N == N+1)=false:=by simp
 obtain ⟨q19,q20⟩:=q18;have hfw:∀y z w v,Fw X N O (setl C v (qay (N+1+11) (qay (N+1+10) (qau (O++[(N,y),(N+1+10,z),(N+1+11,w)]))))) (N+1+11+1):=fun y z w v=>by
  refine (((Fw.appL (N2:=N+1+11+1) (Fw.init hT) ?_ (by omega)).sweep.drop (.inr (by omega))).drop (.inr (by omega))).set (.inl (hX C (.inr (.inl rfl))));intro p hp;simp at hp;rcases hp with rfl | rfl | rfl
  ·exact ⟨Qb _,by simp only;omega⟩
  ·exact ⟨by simp only;omega,by simp only;omega⟩
  ·exact ⟨by simp only;omega,by simp only;omega⟩
 simp [st0,st1,st2,st3,st4,st5,c_29,hm,hrow,hPl,hi,hi2,hiN,hat,hs,hk,hcf,Xf.e4,cc,cc',hB,hp,t0,hT',q1,q2,q3,q4,q5,q6,q7,q8,q9,q10,q11,q12,q13,q14,q15,q16,q17,q19,q20,u1,u2,u3,u4,u5,u6,qaf,qad,qan,qbd];refine hQ _ _ _ (m.setC ?_ ?_) (hfw _ _ _ _) ?_ (by omega) ?_ ?_ ?_ ?_ ?_ ?_ ?_ ?_
 ·simp [qad,qbd,q12,qan,qaf,hcf,Xf.e4]
 ·intro j y hj hy hne;have hjN:=hT.lt hj;have j1:∀k,¬j=N+1+k:=fun k=>by omega
  simp [qad,qbd,j1,hne,qan,qaf,hj,hy]
 ·simp [qad,qbd,q13,q5,qan,qaf,t0,zEv]
 all_goals simp [Rslt.ce]
end
structure StS (X:Nat->Prop) (N0:Nat) (O0 O:List (Nat×AO)) (N n:Nat) (V:NetV) (f:AV) (C P R:Nat) (lv:AV) (H:List AV):Prop where
 m:NetM O n V f C (.row P 9 0 V.pk.length) lv H
 fw:Fw X N0 O0 O N
 ox:∀j,NetM.own n C (.row P 9 0 V.pk.length) lv H j->X j\/N0<=j
 re:∃y,look R O=some (.row 4 [y])/\y.length=4
 ro:∀j,NetM.own n C (.row P 9 0 V.pk.length) lv H j->j≠R
 rn:N0<=R
structure StE (e:Env) (n i P R:Nat) (k:Nat) (inp:Int) (r:Rslt):Prop where
 e0:look 0 e=some (.ptr n 7 0 0)
 e1:look 1 e=some (.int .i64 i)
 e4:look 4 e=some (.ptr R 4 0 0)
 e6:look 6 e=some (.ptr P 9 i 0)
 e7:look 7 e=some (.func (.func f_64) [.ptr n 7 0 0] [])
 e8:look 8 e=some (.int .i64 k)
 e9:look 9 e=some (.int .i64 inp)
 e10:look 10 e=some (.iptr 4 [Rslt.c r] 0 0)
theorem qg6 {n C P i l l':Nat} {lv:AV} {H:List AV} {h':AV} {Z:Nat->Prop} (ho:∀j,NetM.own n C (.row P 9 0 l) lv H j->Z j) (ht:∀t,tkn h'=some t->Z t):∀j,NetM.own n C (.row P 9 0 l') lv (H.set i h') j->Z j:=by
 intro j hj;rcases hj with hj | hj | hj | hj | ⟨g,hg,hj⟩
 ·exact ho j (.inl hj)
 ·exact ho j (.inr (.inl hj))
 ·exact ho j (.inr (.inr (.inl hj)))
 ·exact ho j (.inr (.inr (.inr (.inl hj))))
 ·rcases Qq hg with hg | rfl
  ·exact ho j (.inr (.inr (.inr (.inr ⟨g,hg,hj⟩))))
  ·exact ht j hj
section
variable {X:Nat->Prop} {N0 N n i C P R:Nat} {O0 O:List (Nat×AO)} {V:NetV} {f lv h:AV} {H:List AV} {x:Pk}
theorem StS.pk (s:StS X N0 O0 O N n V f C P R lv H) (hx:V.pk[i]? =some x) (hh:H[i]? =some h) (x':Pk) (hhp:x'.hops=x.hops):StS X N0 O0 (setl P (.row 9 ((pkN V.pk H).set i (PkN x' h))) O) N n { V with pk:=V.pk.set i x' } f C P R lv (H.set i h):=by
 have hPl:look P O=some (.row 9 (pkN V.pk H)):=s.m.pk.id rfl;have hPo:NetM.own n C (.row P 9 0 V.pk.length) lv H P:= .inr (.inr (.inl rfl));have hHo:∀t,tkn h=some t->NetM.own n C (.row P 9 0 V.pk.length) lv H t:=fun t ht=> .inr (.inr (.inr (.inr ⟨h,Qe hh,ht⟩)))
 have hne:∀t,tkn h=some t->t≠P:=fun t ht=>by obtain ⟨l,hl⟩:=s.m.hk hh ht;exact qas hl hPl (by simp)
 have m':=s.m.setP (O':=setl P (.row 9 ((pkN V.pk H).set i (PkN x' h))) O) (x':=x') (h':=h) hx hh (by rw [qad,hPl];simp) (by rw [hhp];exact (s.m.hp i x h hx hh).fr fun t ht=>by rw [qad,QA (hne t ht)]) (fun t ht=> .inl ht) (fun j y hj _ h1 _=>by rw [qad,QA h1,hj]);have hl:(V.pk.set i x').length=V.pk.length:=by simp
 obtain ⟨y,hy,hy4⟩:=s.re;refine ⟨by rw [hl];exact m',s.fw.set (s.ox P hPo),qg6 s.ox fun t ht=>s.ox t (hHo t ht),⟨y,by rw [qad,QA (s.ro P hPo).symm,hy],hy4⟩,qg6 s.ro fun t ht=>s.ro t (hHo t ht),s.rn⟩
theorem StS.hopN (s:StS X N0 O0 O N n V f C P R lv H) (hx:V.pk[i]? =some x) (hh:H[i]? =some (.Xu 3 [])) (hz:x.hops=[]) (x':Pk) (p:Hop) (hhp:x'.hops=[p]) {M:Nat} (hM:N<=M):
  StS X N0 O0 (setl P (.row 9 ((pkN V.pk H).set i (PkN x' (.app 3 [Hop.c p] M)))) (O++[(M,.tok 3 1)])) (M+1) n { V with pk:=V.pk.set i x' } f C P R lv (H.set i (.app 3 [Hop.c p] M)):=by
 have hPl:look P O=some (.row 9 (pkN V.pk H)):=s.m.pk.id rfl;have hPo:NetM.own n C (.row P 9 0 V.pk.length) lv H P:= .inr (.inr (.inl rfl));have tM:=s.fw.tl M hM;have hPM:=s.fw.tl.lt hPl;have m':=s.m.setP (O':=setl P (.row 9 ((pkN V.pk H).set i (PkN x' (.app 3 [Hop.c p] M)))) (O++[(M,.tok 3 1)])) (x':=x') (h':= .app 3 [Hop.c p] M) hx hh (by rw [qad,qaf,hPl];simp) (.inr ⟨M,by rw [hhp];rfl,by rw [qad,QA (by omega),qaf,tM,hhp];simp⟩) (fun t ht=>by simp only [tkn,Option.some.injEq] at ht;subst ht;exact .inr (.inl tM)) (fun j y hj _ h1 _=>by rw [qad,QA h1,qaf,hj];rfl);have hl:(V.pk.set i x').length=V.pk.length:=by simp
 obtain ⟨y,hy,hy4⟩:=s.re;have hRM:=s.fw.tl.lt hy;have hNM:=s.fw.le;refine ⟨by rw [hl];exact m',(s.fw.app (by omega) (by omega) (by omega)).set (s.ox P hPo),qg6 s.ox fun t ht=>by simp only [tkn,Option.some.injEq] at ht;omega,⟨y,by rw [qad,QA (s.ro P hPo).symm,qaf,hy];rfl,hy4⟩,qg6 s.ro fun t ht=>by simp only [tkn,Option.some.injEq] at ht;omega,s.rn⟩
theorem StS.hopA {T:Nat} (s:StS X N0 O0 O N n V f C P R lv H) (hx:V.pk[i]? =some x) (hh:H[i]? =some (.app 3 (x.hops.map Hop.c) T)) (x':Pk) (p:Hop) (hhp:x'.hops=x.hops++[p]):
  StS X N0 O0 (setl P (.row 9 ((pkN V.pk H).set i (PkN x' (.app 3 (x.hops.map Hop.c++[Hop.c p]) T)))) (setl T (.tok 3 (x.hops.length+1)) O)) N n { V with pk:=V.pk.set i x' } f C P R lv (H.set i (.app 3 (x.hops.map Hop.c++[Hop.c p]) T)):=by
 have hPl:look P O=some (.row 9 (pkN V.pk H)):=s.m.pk.id rfl;have hPo:NetM.own n C (.row P 9 0 V.pk.length) lv H P:= .inr (.inr (.inl rfl));have hTo:NetM.own n C (.row P 9 0 V.pk.length) lv H T:= .inr (.inr (.inr (.inr ⟨_,Qe hh,rfl⟩)));obtain ⟨l,hTl⟩:=s.m.hk hh rfl;have hTP:T≠P:=qas hTl hPl (by simp);have m':=s.m.setP (O':=setl P (.row 9 ((pkN V.pk H).set i (PkN x' (.app 3 (x.hops.map Hop.c++[Hop.c p]) T)))) (setl T (.tok 3 (x.hops.length+1)) O)) (x':=x') (h':= .app 3 (x.hops.map Hop.c++[Hop.c p]) T) hx hh (by rw [qad,qad,QA hTP.symm,hPl];simp) (.inr ⟨T,by rw [hhp];simp,by rw [qad,QA hTP,qad,hTl,hhp];simp⟩) (fun t ht=> .inl ht) (fun j y hj _ h1 h2=>by rw [qad,QA h1,qad,QA (fun e=>h2 (by rw [e];rfl)),hj]);have hl:(V.pk.set i x').length=V.pk.length:=by simp
 obtain ⟨y,hy,hy4⟩:=s.re;refine ⟨by rw [hl];exact m',(s.fw.set (s.ox T hTo)).set (s.ox P hPo),qg6 s.ox fun t ht=>by simp only [tkn,Option.some.injEq] at ht;subst ht;exact s.ox T hTo,⟨y,by rw [qad,QA (s.ro P hPo).symm,qad,QA (s.ro T hTo).symm,hy],hy4⟩,qg6 s.ro fun t ht=>by simp only [tkn,Option.some.injEq] at ht;subst ht;exact s.ro T hTo,s.rn⟩
end
section
variable {β:Type} {fin:Option (Ex×St)->Option β} {X:Nat->Prop} {N0 N n i C P R:Nat} {O0 O:List (Nat×AO)} {V:NetV} {f lv h:AV} {H:List AV} {x:Pk} {d:Bool} {dst:Option Nat} {r:List Xw} {K:List Go.Av.Fr} {e:Env} {Q:Option β->Prop}
theorem qi2 (s:StS X N0 O0 O N n V f C P R lv H) (hx:V.pk[i]? =some x) (hh:H[i]? =some h) {a b:Int}
  (hk:∀O',StS X N0 O0 O' N n { V with pk:=V.pk.set i (x.fin a b) } f C P R lv (H.set i h)->Q (Go.Av.stepV Φ fin d dst r K e (some (.val (.tup []),⟨O',N⟩)))):
  Q (Go.Av.stepV Φ fin d dst r K e (qah Φ f_66 [.ptr P 9 i 0,.int .i64 a,.int .i64 b] ⟨O,N⟩)):=by
 have hi:=(Qm.1 hx).1;rw [quz (s.m.pk.id rfl) (by rw [qbr s.m.hl];exact hi) (qgf hx hh)];exact hk _ (s.pk hx hh (x.fin a b) rfl)
theorem qez (s:StS X N0 O0 O N n V f C P R lv H) (hb:V.log.length<=10000) {k a b c:Int}
  (hk:∀O' N' lv',StS X N0 O0 O' N' n (V.ev ⟨k,a,b,c⟩) f C P R lv' H->N<=N'->Q (Go.Av.stepV Φ fin d dst r K e (some (.val (.agg [.int .i64 k,.int .i64 a,.int .i64 b,.int .i64 c]),⟨O',N'⟩)))):
  Q (Go.Av.stepV Φ fin d dst r K e (qah Φ f_64 [.ptr n 7 0 0,.int .i64 k,.int .i64 a,.int .i64 b,.int .i64 c] ⟨O,N⟩)):=by
 refine qhl s.m s.fw.tl hb fun O' N' lv' m' hl hkp hT' hN=>hk O' N' lv' ?_ hN
 obtain ⟨y,hy,hy4⟩:=s.re;have hRN:=s.fw.tl.lt hy;have hno:NetM.own n C (.row P 9 0 V.pk.length) lv H n:= .inl rfl;have hlo:∀t,tkn lv=some t->NetM.own n C (.row P 9 0 V.pk.length) lv H t:=fun t ht=> .inr (.inr (.inr (.inl ht)))
 have key:∀Z:Nat->Prop,(∀j,NetM.own n C (.row P 9 0 V.pk.length) lv H j->Z j)->(∀j,N<=j->Z j)->∀j,NetM.own n C (.row P 9 0 (V.ev ⟨k,a,b,c⟩).pk.length) lv' H j->Z j:=by
  intro Z ho hz j hj;rcases hj with hj | hj | hj | hj | hj
  ·exact ho j (.inl hj)
  ·exact ho j (.inr (.inl hj))
  ·exact ho j (.inr (.inr (.inl hj)))
  ·rcases hl j hj with h | h
   ·exact ho j (hlo j h)
   ·exact hz j h
  ·exact ho j (.inr (.inr (.inr (.inr hj))))
 have hNN:=s.fw.le;refine ⟨m',?_,key _ s.ox fun j hj=> .inr (by omega),⟨y,?_,hy4⟩,key _ s.ro fun j hj=>by omega,s.rn⟩
 ·refine s.fw.then hkp (fun j hj hy=>?_) hT' hN;rcases hy with rfl | hy | hy
  ·rcases s.ox j hno with h | h
   ·exact .inl h
   ·omega
  ·rcases s.ox j (hlo j hy) with h | h
   ·exact .inl h
   ·omega
  ·exact .inr hy
 ·rw [hkp R hRN ?_,hy];rintro (rfl | h | h)
  ·exact s.ro _ hno rfl
  ·exact s.ro R (hlo R h) rfl
  ·unfold Rs at h;rw [hy] at h;cases h
end
theorem StS.done {X:Nat->Prop} {N0 N n C P R:Nat} {O0 O:List (Nat×AO)} {V:NetV} {f lv:AV} {H:List AV} (s:StS X N0 O0 O N n V f C P R lv H) {v:AV} {y:AO}:NP X N0 O0 n f V v (some (.val v,⟨setl R y O,N⟩)):=
 ⟨_,_,rfl,⟨C,_,lv,H,s.m.fr fun j hj=>by rw [qad,QA (s.ro j hj)],s.ox⟩,s.fw.set (.inr s.rn)⟩
section
variable {X:Nat->Prop} {N0 N n i k g C P R:Nat} {O0 O:List (Nat×AO)} {V:NetV} {lv h:AV} {H:List AV} {x:Pk} {e:Env} {inp:Int} {r:Rslt}
theorem qt6 (s:StS X N0 O0 O N n V (.func (.func g) [] []) C P R lv H) (E:StE e n i P R k inp r) (hx:V.pk[i]? =some x) (hh:H[i]? =some h) (hl:V.log.length<=10000) (hp:x.hops.length<=1000) (hr:r.drop=true):
  NP X N0 O0 n (.func (.func g) [] []) (NetV.ev { V with pk:=V.pk.set i (Pk.fin { x with hops:=x.hops++[⟨k,inp,-1⟩] } 2 k) } ⟨2,i,k,-1⟩) (.tup [.agg [.int .i64 2,.int .i64 i,.int .i64 k,.int .i64 (-1)],.int .i64 0]) (go Φ (finC [.cell 4 true 4,.tmp 5]) [.c stpK] .normal ⟨e,⟨O,N⟩⟩):=by
 have hi:=(Qm.1 hx).1;have hiH:=(Qm.1 hh).1;have hPl:look P O=some (.row 9 (pkN V.pk H)):=s.m.pk.id rfl;have hiN:i<(pkN V.pk H).length:=by rw [qbr s.m.hl];exact hi
 have hat:(pkN V.pk H)[i]=PkN x h:=by
  have:=qgf hx hh;rw [Qa hiN] at this;exact Option.some.inj this
 rw [PkN] at hat;have E10:=E.e10;rw [Rslt.ce,hr] at E10;have t0:=s.fw.tl N (Qb _);have hPN:=s.fw.tl.lt hPl;have q0:¬N=P/\¬P=N:=by omega
 obtain ⟨q1,q2⟩:=q0;obtain ⟨y,hy,hy4⟩:=s.re;rcases s.m.hp i x h hx hh with ⟨hz,rfl⟩ | ⟨T,rfl,hT⟩
 ·have hz':x.hops=[]:=by simpa using hz
  have s1:=s.hopN hx hh hz' { x with hops:=x.hops++[⟨k,inp,-1⟩] } ⟨k,inp,-1⟩ (by simp [hz']) (Qb N);simp [stpK,c_29,E.e0,E.e1,E.e4,E.e6,E.e7,E.e8,E.e9,E10,hPl,hi,hiN,hat,t0,q1,q2,qaf,qad];refine qi2 s1 (x:={ x with hops:=x.hops++[⟨k,inp,-1⟩] }) (by simp [hi]) (by simp [hiH];rfl) fun O' s2=>?_
  simp [E.e0,E.e1,E.e4,E.e6,E.e7,E.e8,E.e9];refine qez s2 hl fun O2 N2 lv2 s3 hN2=>?_
  obtain ⟨z,hz1,hz2⟩:=s3.re;simp [E.e0,E.e1,E.e4,E.e6,E.e7,E.e8,E.e9,hz1,hz2,qad];simp only [QC] at s3;exact s3.done
 ·have s1:=s.hopA hx hh { x with hops:=x.hops++[⟨k,inp,-1⟩] } ⟨k,inp,-1⟩ rfl;have hTP:=qas hT hPl (by simp);have hPT:=hTP.symm;have b5:(x.hops.length+1)*24<=70368744177664:=by omega
  simp at hT;simp [stpK,c_29,E.e0,E.e1,E.e4,E.e6,E.e7,E.e8,E.e9,E10,hPl,hi,hiN,hat,hT,hTP,hPT,b5,qaf,qad];refine qi2 s1 (x:={ x with hops:=x.hops++[⟨k,inp,-1⟩] }) (by simp [hi]) (by simp [hiH];rfl) fun O' s2=>?_
  simp [E.e0,E.e1,E.e4,E.e6,E.e7,E.e8,E.e9];refine qez s2 hl fun O2 N2 lv2 s3 hN2=>?_
  obtain ⟨z,hz1,hz2⟩:=s3.re;simp [E.e0,E.e1,E.e4,E.e6,E.e7,E.e8,E.e9,hz1,hz2,qad];simp only [QC] at s3;exact s3.done
end
def sk0:Xv:=match stpK with | .seq a _=>a | c=>c
def sk1:Xv:=match stpK with | .seq _ (.seq a _)=>a | c=>c
def sk2:Xv:=match stpK with | .seq _ (.seq _ (.seq a _))=>a | c=>c
def sk3:Xv:=match stpK with | .seq _ (.seq _ (.seq _ (.seq a _)))=>a | c=>c
def stpL:Xv:=match stpK with | .seq _ (.seq _ (.seq _ (.seq _ a)))=>a | c=>c
theorem qaac:stpK= .seq sk0 (.seq sk1 (.seq sk2 (.seq sk3 stpL))):=rfl
theorem StS.up {X:Nat->Prop} {N0 N M n C P R:Nat} {O0 O:List (Nat×AO)} {V:NetV} {f lv:AV} {H:List AV} (s:StS X N0 O0 O N n V f C P R lv H) (h:N<=M):StS X N0 O0 O M n V f C P R lv H:=⟨s.m,s.fw.up h,s.ox,s.re,s.ro,s.rn⟩
theorem qaau {O:List (Nat×AO)} {N M:Nat} {y:AO} (hT:Tail O N) (hM:N<=M):Mn O (qay M (qau (O++[(M,y)]))):=fun j z hj hz=>by
 have:=hT.lt hj;rw [qbd (by omega),qan (by rw [qaf,hj];simpa using hz),qaf,hj];rfl
theorem StS.tmp {X:Nat->Prop} {N0 N M n C P R:Nat} {O0 O:List (Nat×AO)} {V:NetV} {f lv:AV} {H:List AV} {y:AO} (s:StS X N0 O0 O N n V f C P R lv H) (h:N<=M):StS X N0 O0 (qay M (qau (O++[(M,y)]))) (M+1) n V f C P R lv H:=by
 have hm:=qaau (y:=y) s.fw.tl h;have hN:=s.fw.le;obtain ⟨z,hz,h4⟩:=s.re;exact ⟨s.m.mn hm,((s.fw.app (N2:=M+1) (by omega) (by omega) (by omega)).sweep).drop (.inr (by omega)),s.ox,⟨z,hm _ _ hz (by simp),h4⟩,s.ro,s.rn⟩
section
variable {X:Nat->Prop} {N0 N n i k g C P R:Nat} {O0 O:List (Nat×AO)} {V:NetV} {lv h:AV} {H:List AV} {x:Pk} {e:Env} {inp:Int} {r:Rslt} {Q:Option (Rt×AH)->Prop}
theorem qv0 (s:StS X N0 O0 O N n V (.func (.func g) [] []) C P R lv H) (E:StE e n i P R k inp r) (hx:V.pk[i]? =some x) (hh:H[i]? =some h) (hl:V.log.length<=10000) (hp:x.hops.length<=1000) (hr:r.drop=false) (hdl:r.data.length<2^40)
  (hQ:∀e' O' N' lv' h',StS X N0 O0 O' N' n (NetV.ev { V with pk:=V.pk.set i { x with hops:=x.hops++[⟨k,inp,r.port⟩],data:=r.data } } ⟨2,i,k,r.port⟩) (.func (.func g) [] []) C P R lv' (H.set i h')->StE e' n i P R k inp r->look 12 e'=some (.iptr 4 [[.int .i64 2,.int .i64 i,.int .i64 k,.int .i64 r.port]] 0 0)->Q (go Φ (finC [.cell 4 true 4,.tmp 5]) [.c stpL] .normal ⟨e',⟨O',N'⟩⟩)):
  Q (go Φ (finC [.cell 4 true 4,.tmp 5]) [.c stpK] .normal ⟨e,⟨O,N⟩⟩):=by
 rw [qaac];have hi:=(Qm.1 hx).1;have hiH:=(Qm.1 hh).1;have hPl:look P O=some (.row 9 (pkN V.pk H)):=s.m.pk.id rfl;have hiN:i<(pkN V.pk H).length:=by rw [qbr s.m.hl];exact hi
 have hat:(pkN V.pk H)[i]=PkN x h:=by
  have:=qgf hx hh;rw [Qa hiN] at this;exact Option.some.inj this
 rw [PkN] at hat;have E10:=E.e10;rw [Rslt.ce,hr] at E10;have hB:=clBy r.data hdl;have t0:=s.fw.tl N (Qb _);have hPN:=s.fw.tl.lt hPl;have q0:¬N=P/\¬P=N:=by omega
 obtain ⟨q1,q2⟩:=q0;rcases s.m.hp i x h hx hh with ⟨hz,rfl⟩ | ⟨T,rfl,hT⟩
 ·have hz':x.hops=[]:=by simpa using hz
  have s1:=s.hopN hx hh hz' { x with hops:=x.hops++[⟨k,inp,r.port⟩] } ⟨k,inp,r.port⟩ (by simp [hz']) (Qb N);have s2:=s1.pk (x:={ x with hops:=x.hops++[⟨k,inp,r.port⟩] }) (by simp [hi]) (List.getElem?_set_self hiH) { x with hops:=x.hops++[⟨k,inp,r.port⟩],data:=r.data } rfl;rw [qk2 s.m.hl,qd9,QC] at s2;simp only [QC] at s2;simp [sk0,sk1,sk2,sk3,stpK,c_29,E.e0,E.e1,E.e4,E.e6,E.e7,E.e8,E.e9,E10,hB,hPl,hi,hiN,hat,t0,q1,q2,qaf,qad,qan,qd9];refine qez s2 hl fun O2 N2 lv2 s3 hN2=>?_
  have u0:=s3.fw.tl N2 (Qb _);simp [E.e0,E.e1,E.e4,E.e6,E.e7,E.e8,E.e9,u0,qaf,qad];refine hQ _ _ _ lv2 _ (s3.up (QBj _)) ⟨?_,?_,?_,?_,?_,?_,?_,?_⟩ ?_<;>simp [E.e0,E.e1,E.e4,E.e6,E.e7,E.e8,E.e9,E.e10]
 ·have s1:=s.hopA hx hh { x with hops:=x.hops++[⟨k,inp,r.port⟩] } ⟨k,inp,r.port⟩ rfl;have s2:=s1.pk (x:={ x with hops:=x.hops++[⟨k,inp,r.port⟩] }) (by simp [hi]) (List.getElem?_set_self hiH) { x with hops:=x.hops++[⟨k,inp,r.port⟩],data:=r.data } rfl;rw [qk2 s.m.hl,qd9,QC] at s2;simp only [QC] at s2;have hTP:=qas hT hPl (by simp);have hPT:=hTP.symm;have b5:(x.hops.length+1)*24<=70368744177664:=by omega
  simp at hT;simp [sk0,sk1,sk2,sk3,stpK,c_29,E.e0,E.e1,E.e4,E.e6,E.e7,E.e8,E.e9,E10,hB,hPl,hi,hiN,hat,hT,hTP,hPT,b5,qaf,qad,qan,qd9];refine qez s2 hl fun O2 N2 lv2 s3 hN2=>?_
  have u0:=s3.fw.tl N2 (Qb _);simp [E.e0,E.e1,E.e4,E.e6,E.e7,E.e8,E.e9,u0,qaf,qad];refine hQ _ _ _ lv2 _ (s3.up (QBj _)) ⟨?_,?_,?_,?_,?_,?_,?_,?_⟩ ?_<;>simp [E.e0,E.e1,E.e4,E.e6,E.e7,E.e8,E.e9,E.e10]
theorem qt7 (s:StS X N0 O0 O N n V (.func (.func g) [] []) C P R lv H) (E:StE e n i P R k inp r) (E12:look 12 e=some (.iptr 4 [[.int .i64 2,.int .i64 i,.int .i64 k,.int .i64 r.port]] 0 0)) (hx:V.pk[i]? =some x) (hh:H[i]? =some h) (hl:V.log.length<=10000) (hho:V.hosts.length<=1000)
  (ha:qaq V.hosts (atP k r.port) 0=true):
  NP X N0 O0 n (.func (.func g) [] []) (NetV.ev { V with pk:=V.pk.set i (x.fin 1 (ixF (atP k r.port) V.hosts 0)) } ⟨3,i,ixF (atP k r.port) V.hosts 0,0⟩) (.tup [.agg [.int .i64 3,.int .i64 i,.int .i64 (ixF (atP k r.port) V.hosts 0),.int .i64 0],.int .i64 0]) (go Φ (finC [.cell 4 true 4,.tmp 5]) [.c stpL] .normal ⟨e,⟨O,N⟩⟩):=by
 have E10:=E.e10;rw [Rslt.ce] at E10;have hrow:=s.m.row;rw [qcl] at hrow;have t0:=s.fw.tl N (Qb _);have k1:=qdb (V.ports.map cI) (V.links.map Link.c) V.hosts k r.port (by omega);rw [ha] at k1;have hnN:=s.fw.tl.lt hrow;have q0:¬N=n/\¬n=N:=by omega
 obtain ⟨q1,q2⟩:=q0;simp [stpL,stpK,c_29,E.e0,E.e1,E.e4,E.e6,E.e7,E.e8,E.e9,E10,E12,hrow,k1,t0,q1,q2,qaf,qad,qan];refine qi2 (s.up (QBj _)) hx hh fun O' s2=>?_
 simp [E.e0,E.e1,E.e4,E.e6,E.e7,E.e8,E.e9];refine qez s2 hl fun O2 N2 lv2 s3 hN2=>?_
 obtain ⟨z,hz1,hz2⟩:=s3.re;simp [E.e0,E.e1,E.e4,E.e6,E.e7,E.e8,E.e9,hz1,hz2,qad];exact s3.done
theorem qt8 (s:StS X N0 O0 O N n V (.func (.func g) [] []) C P R lv H) (E:StE e n i P R k inp r) (E12:look 12 e=some (.iptr 4 [[.int .i64 2,.int .i64 i,.int .i64 k,.int .i64 r.port]] 0 0)) (hx:V.pk[i]? =some x) (hh:H[i]? =some h) (hl:V.log.length<=10000) (hho:V.hosts.length<=1000) (hli:V.links.length<=1000)
  (ha:qaq V.hosts (atP k r.port) 0=false) (hp:(qbx V.ports V.links V.hosts ⟨k,r.port⟩).2≠0):
  NP X N0 O0 n (.func (.func g) [] []) (NetV.ev { V with pk:=V.pk.set i (x.fin 3 k) } ⟨4,i,k,r.port⟩) (.tup [.agg [.int .i64 4,.int .i64 i,.int .i64 k,.int .i64 r.port],.int .i64 0]) (go Φ (finC [.cell 4 true 4,.tmp 5]) [.c stpL] .normal ⟨e,⟨O,N⟩⟩):=by
 have E10:=E.e10;rw [Rslt.ce] at E10;have hrow:=s.m.row;rw [qcl] at hrow;have t0:=s.fw.tl N (Qb _);have hT':∀k,look (N+1+k) O=none:=fun k=>s.fw.tl (N+1+k) (by omega)
 have k1:=qdb (V.ports.map cI) (V.links.map Link.c) V.hosts k r.port (by omega);have k2:=qhn V.ports V.links V.hosts k r.port (by omega) (by omega);rw [ha] at k1;rw [PortID.c] at k2;have hnN:=s.fw.tl.lt hrow;have q0:¬N=n/\¬n=N:=by omega
 obtain ⟨q1,q2⟩:=q0;have q3:∀k,¬N+1+k=n:=fun k=>by omega
 have q4:∀k,¬n=N+1+k:=fun k=>by omega
 have q5:∀k,(n == N+1+k)=false:=fun k=>by simp;omega
 simp [stpL,stpK,c_29,E.e0,E.e1,E.e4,E.e6,E.e7,E.e8,E.e9,E10,E12,hrow,k1,k2,hp,t0,hT',q1,q2,q3,q4,q5,qaf,qad,qan];refine qi2 (s.tmp (M:=N+1+16) (by omega)) hx hh fun O' s2=>?_
 simp [E.e0,E.e1,E.e4,E.e6,E.e7,E.e8,E.e9,E10];refine qez s2 hl fun O2 N2 lv2 s3 hN2=>?_
 obtain ⟨z,hz1,hz2⟩:=s3.re;simp [E.e0,E.e1,E.e4,E.e6,E.e7,E.e8,E.e9,hz1,hz2,qad];exact s3.done
theorem qt9 (s:StS X N0 O0 O N n V (.func (.func g) [] []) C P R lv H) (E:StE e n i P R k inp r) (E12:look 12 e=some (.iptr 4 [[.int .i64 2,.int .i64 i,.int .i64 k,.int .i64 r.port]] 0 0)) (hx:V.pk[i]? =some x) (hh:H[i]? =some h) (hho:V.hosts.length<=1000) (hli:V.links.length<=1000)
  (ha:qaq V.hosts (atP k r.port) 0=false) (hp:(qbx V.ports V.links V.hosts ⟨k,r.port⟩).2=0):
  NP X N0 O0 n (.func (.func g) [] []) { V with pk:=V.pk.set i { x with pos:=(qbx V.ports V.links V.hosts ⟨k,r.port⟩).1 } } (.tup [.agg [.int .i64 2,.int .i64 i,.int .i64 k,.int .i64 r.port],.int .i64 0]) (go Φ (finC [.cell 4 true 4,.tmp 5]) [.c stpL] .normal ⟨e,⟨O,N⟩⟩):=by
 have hi:=(Qm.1 hx).1;have E10:=E.e10;rw [Rslt.ce] at E10;have hrow:=s.m.row;rw [qcl] at hrow;have hPl:look P O=some (.row 9 (pkN V.pk H)):=s.m.pk.id rfl;have hiN:i<(pkN V.pk H).length:=by rw [qbr s.m.hl];exact hi
 have hat:(pkN V.pk H)[i]=PkN x h:=by
  have:=qgf hx hh;rw [Qa hiN] at this;exact Option.some.inj this
 rw [PkN] at hat;have t0:=s.fw.tl N (Qb _);have hT':∀k,look (N+1+k) O=none:=fun k=>s.fw.tl (N+1+k) (by omega)
 have k1:=qdb (V.ports.map cI) (V.links.map Link.c) V.hosts k r.port (by omega);have k2:=qhn V.ports V.links V.hosts k r.port (by omega) (by omega);rw [ha] at k1;rw [PortID.c,hp] at k2;have hnN:=s.fw.tl.lt hrow;have hPN:=s.fw.tl.lt hPl;have q0:¬N=n/\¬n=N/\¬N=P/\¬P=N:=by omega
 obtain ⟨q1,q2,q6,q7⟩:=q0;have q3:∀k,¬N+1+k=n:=fun k=>by omega
 have q4:∀k,¬n=N+1+k:=fun k=>by omega
 have q5:∀k,(n == N+1+k)=false:=fun k=>by simp;omega
 have q8:∀k,¬N+1+k=P:=fun k=>by omega
 have q9:∀k,¬P=N+1+k:=fun k=>by omega
 have s1:=(s.tmp (M:=N+1+16) (y:= .row 2 [PortID.c (qbx V.ports V.links V.hosts ⟨k,r.port⟩).1]) (by omega)).pk hx hh { x with pos:=(qbx V.ports V.links V.hosts ⟨k,r.port⟩).1 } rfl;obtain ⟨z,hz1,hz2⟩:=s.re;have hRN:=s.fw.tl.lt hz1;have q10:∀k,¬N+1+k=R:=fun k=>by omega
 have q11:∀k,¬R=N+1+k:=fun k=>by omega
 have hRP:R≠P:=(s.ro P (.inr (.inr (.inl rfl)))).symm;have hPR:=hRP.symm;simp [stpL,stpK,c_29,E.e0,E.e1,E.e4,E.e6,E.e7,E.e8,E.e9,E10,E12,hrow,k1,k2,t0,hT',q1,q2,q3,q4,q5,q6,q7,q8,q9,q10,q11,hRP,hPR,hPl,hi,hiN,hat,hz1,hz2,qaf,qad,qan,qbd];exact s1.done
end
section
variable {O:List (Nat×AO)} {n N g C:Nat} {V:NetV} {pv lv:AV} {H:List AV} {X:Nat->Prop}
theorem qvd (m:NetM O n V (.func (.func g) [] []) C pv lv H) (hX:∀j,NetM.own n C pv lv H j->X j) (hT:Tail O N) (id:Int) (hz:chkV V id≠0):
  NP X N O n (.func (.func g) [] []) V (.tup [.agg (Event.c ev0),.int .i64 (chkV V id)]) (qah Φ f_29 [.ptr n 7 0 0,.int .i64 id] ⟨O,N⟩):=by
 rw [qaz (fn:=c_29) rfl rfl,qoo,show c_29.results=[.cell 4 true 4,.tmp 5] from rfl];have hrow:=m.row;have hm:=fun O N=>qio (O:=O) (N:=N) (n:=n) (V:=V) (cv:= .row C 4 0 V.cs.length) (pv:=pv) (lv:=lv) (g:=g)
 rw [qcl] at hrow hm;have t0:=hT N (Qb _);have lt:=hT.lt hrow;have q0:¬N=n/\¬n=N:=by omega
 obtain ⟨q1,q2⟩:=q0;have hlen:lenOf pv=some V.pk.length:=by
  rcases m.pk with ⟨h,rfl⟩ | ⟨P,rfl,_⟩
  ·have:=qbr m.hl;rw [h] at this;simpa using this
  ·simp [qbr m.hl]
 have fin:∀y,NP X N O n (.func (.func g) [] []) V (.tup [.agg [.int .i64 0,.int .i64 0,.int .i64 0,.int .i64 0],.int .i64 (chkV V id)]) (some (.val (.tup [.agg [.int .i64 0,.int .i64 0,.int .i64 0,.int .i64 0],.int .i64 (chkV V id)]),⟨O++[(N,y)],N+1⟩)):=fun y=>⟨_,_,rfl,⟨C,pv,lv,H,m.mn Mn.app,fun j hj=> .inl (hX j hj)⟩,(Fw.init hT).app (Qb _) (QBa _) (QBj _)⟩
 unfold chkV at*;by_cases z1:id<0
 ·rw [QAb (.inl z1)] at fin ⊢;simp [st0,st1,c_29,hm,hrow,z1,hlen,t0,q1,q2,qaf,qad,Event.ce,ev0,-lenOf];exact fin _
 obtain ⟨k,rfl⟩:=QAe (show 0<=id by omega);by_cases z2:V.pk.length<=k
 ·have z2':(V.pk.length:Int)<=k:=by omega
  rw [QAb (.inr z2')] at fin ⊢;simp [st0,st1,c_29,hm,hrow,z2,hlen,t0,q1,q2,qaf,qad,Event.ce,ev0,-lenOf];exact fin _
 have hk:k<V.pk.length:=by omega
 rw [QA (by omega)] at fin hz ⊢;have hd:V.pk[k].done=true:=by
  simp [hk] at hz;exact hz
 have hgd:(V.pk.getD (Int.toNat (k:Int)) default).done=true:=by simp [hk,hd]
 rw [QAb hgd] at fin ⊢;rcases m.pk with ⟨h,rfl⟩ | ⟨P,rfl,hP⟩
 ·have:=qbr m.hl;rw [h] at this;simp at this;omega
 ·have hHk:k<H.length:=by rw [m.hl];exact hk
  have hat:=qgf (Qa hk) (Qa hHk);have hiN:k<(pkN V.pk H).length:=by rw [qbr m.hl];exact hk
  rw [Qa hiN] at hat;have hat:=Option.some.inj hat;rw [PkN,hd] at hat;have hPN:=hT.lt hP;have q0:¬N=P/\¬P=N:=by omega
  obtain ⟨q3,q4⟩:=q0;simp only [qbr m.hl] at hlen hrow hm fin ⊢;simp [st0,st1,c_29,hm,hrow,z2,hP,hk,hiN,hat,t0,q1,q2,q3,q4,qaf,qad,Event.ce,ev0];exact fin _
end
def okB' (b:List Int):Prop:=∀x∈b,0<=x/\x<=255
structure PrcOk (g:Nat) (G:Xf->Prop) (P:Xf->Int->List Int->Rslt×Xf):Prop where
 run:∀c s d,G c->okB' d->d.length<=1000->qac Φ g [.agg (Xf.c c),.agg [.int .i64 s,.slice 1 (d.map c8)]]=some (.val (.tup [.agg (Rslt.c (P c s d).1),.agg (Xf.c (P c s d).2)]))
 cfg:∀c s d,G c->okB' d->d.length<=1000->G (P c s d).2
 dat:∀c s d,G c->okB' d->d.length<=1000->okB' (P c s d).1.data/\(P c s d).1.data.length<=1000
 cc:∀c,G c->CfgC c
structure NetI (G:Xf->Prop) (V:NetV):Prop where
 s:NetS V
 lg:V.log.length<=9000
 top:qa2 V.ports V.links V.hosts=0
 cl:V.cs.length=V.ports.length
 cg:∀c∈V.cs,G c
 pk:∀x∈V.pk,okB' x.data/\x.data.length<=1000/\(x.done=false->0<=x.pos.switch/\x.pos.switch<V.cs.length)
theorem qpp {V:NetV} {id:Int} (h:chkV V id=0):∃i:Nat,id=i/\∃hi:i<V.pk.length,V.pk[i].done=false:=by
 unfold chkV at h;by_cases z:id<0\/(V.pk.length:Int)<=id
 ·rw [QAb z] at h;cases h
 ·rw [QA z] at h;obtain ⟨i,rfl⟩:=QAe (show 0<=id by omega);have hi:i<V.pk.length:=by omega
  refine ⟨i,rfl,hi,?_⟩;simp [hi] at h;exact h
section
variable {O:List (Nat×AO)} {n N g C:Nat} {V:NetV} {pv lv:AV} {H:List AV} {X:Nat->Prop} {G:Xf->Prop} {P:Xf->Int->List Int->Rslt×Xf}
theorem qww (hP:PrcOk g G P) (I:NetI G V) (m:NetM O n V (.func (.func g) [] []) C pv lv H) (hX:∀j,NetM.own n C pv lv H j->X j) (hT:Tail O N) (id:Int):
  NP X N O n (.func (.func g) [] []) (stpV P V id).1 (.tup [.agg (Event.c (stpV P V id).2.1),.int .i64 (stpV P V id).2.2]) (qah Φ f_29 [.ptr n 7 0 0,.int .i64 id] ⟨O,N⟩):=by
 by_cases hz:chkV V id=0
 rotate_left
 ·have:=qvd m hX hT id hz;simpa [stpV,hz] using this
 obtain ⟨i,rfl,hi,hd⟩:=qpp hz;have hmem:=Qd hi;obtain ⟨hdb,hdl,hpos⟩:=I.pk _ hmem;obtain ⟨hs0,hs1⟩:=hpos hd;obtain ⟨x,hx⟩:∃x,V.pk[i]=x:=⟨_,rfl⟩;rw [hx] at hd hdb hdl hs0 hs1 hmem;obtain ⟨k,hs⟩:=QAe hs0;have hk:k<V.cs.length:=by omega
 have hG:=I.cg _ (Qd hk);have hgp:V.pk[i]?.getD default=x:=by simp [hi,hx]
 have hgc:V.cs[k]?.getD default=V.cs[k]:=by simp [hk]
 have hst:stpV P V i=(qda V i (P V.cs[k] x.pos.port x.data).1 (P V.cs[k] x.pos.port x.data).2,qdr V i (P V.cs[k] x.pos.port x.data).1,0):=by
  simp [stpV,hz,hgp,hs,hgc]
 rw [hst];have hrun:=hP.run _ x.pos.port _ hG hdb hdl;have hG':=hP.cfg _ x.pos.port _ hG hdb hdl;have hdat:=hP.dat _ x.pos.port _ hG hdb hdl;generalize hr:(P V.cs[k] x.pos.port x.data).1=r at*;generalize hc:(P V.cs[k] x.pos.port x.data).2=c' at*;have hiH:i<H.length:=by rw [m.hl];exact hi
 have hh:=Qa hiH;rcases m.pk with ⟨h,rfl⟩ | ⟨Q,rfl,hQ⟩
 ·have:=qbr m.hl;rw [h] at this;simp at this;omega
 rw [qbr m.hl] at m hX;have hxg:V.pk[i]? =some x:=by rw [Qa hi,hx]
 have hhp:=I.s.hp x hmem;have hgl:=I.s.g;refine qx0 m hX hT hi hx hh hs hk (hP.cc _ hG) (hP.cc _ hG') hd (by omega) hrun _ fun e O1 N1 m1 f1 z1 lt1 e0 e1 e4 e6 e7 e8 e9 e10=>?_
 have E:StE e n i Q N k x.pos.port r:=⟨e0,e1,e4,e6,e7,e8,e9,e10⟩;have hro:∀j,NetM.own n C (.row Q 9 0 V.pk.length) lv H j->j≠N:=fun j hj=>by
  obtain ⟨y,hy,_⟩:=m.nr hj;have:=hT.lt hy;omega
 have s1:StS X N O O1 N1 n { V with cs:=V.cs.set k c' } (.func (.func g) [] []) C Q N lv H:=⟨m1,f1,fun j hj=> .inl (hX j hj),⟨_,z1,rfl⟩,hro,Qb _⟩;cases hdr:r.drop with
 | true=>
  have:=qt6 s1 E hxg hh hgl hhp hdr;simpa [qda,qdr,mv,mvD,hdr,hgp,hs,NetV.ev,hop1,Pk.fin,Event.ce] using this
 | false=>
  refine qv0 s1 E hxg hh hgl hhp hdr (by omega) fun e2 O2 N2 lv2 h2 s2 E2 e12=>?_
  have hiP:(V.pk.set i { x with hops:=x.hops++[⟨k,x.pos.port,r.port⟩],data:=r.data })[i]? =some { x with hops:=x.hops++[⟨k,x.pos.port,r.port⟩],data:=r.data }:=List.getElem?_set_self hi;have hiH2:(H.set i h2)[i]? =some h2:=List.getElem?_set_self hiH;have hlg:(V.log++[(⟨2,i,k,r.port⟩:Event)]).length<=10001:=by simp;omega
  cases ha:qaq V.hosts (atP k r.port) 0 with
  | true=>
   have:=qt7 s2 E2 e12 hiP hiH2 (by have:=I.lg;simp [NetV.ev];omega) I.s.h ha;simpa [qda,qdr,mv,mvP,hdr,hgp,hs,NetV.ev,hop1,Pk.fin,Event.ce,ha] using this
  | false=>
   by_cases hpe:(qbx V.ports V.links V.hosts ⟨k,r.port⟩).2=0
   ·have:=qt9 s2 E2 e12 hiP hiH2 I.s.h I.s.l ha hpe;simpa [qda,qdr,mv,mvP,hdr,hgp,hs,NetV.ev,hop1,Pk.fin,Event.ce,ha,hpe] using this
   ·have:=qt8 s2 E2 e12 hiP hiH2 (by have:=I.lg;simp [NetV.ev];omega) I.s.h I.s.l ha hpe;simpa [qda,qdr,mv,mvP,hdr,hgp,hs,NetV.ev,hop1,Pk.fin,Event.ce,ha,hpe] using this
end
def fly (l:List Pk):Nat->List Int
 | 0=>[]
 | i+1=>fly l i++(if (l.getD i default).done then [] else [(i:Int)])
theorem qkt (l:List Pk):∀i,(fly l i).length<=i
 | 0=>by simp [fly]
 | i+1=>by have:=qkt l i;simp only [fly,QAp];split<;>simp<;>omega
theorem qe9 (l:List Hop) (h:l.length<2^40):qac Φ f_107 [.slice 3 (l.map Hop.c),.slice 3 (l.map Hop.c)]=some (.val (.bool true)):=by
 rw [qaa (fn:=c_107) rfl rfl];simp [c_107];refine qar l.length (fun _=>[]) 0 (fun i e=>look 0 e=some (.slice 3 (l.map Hop.c))/\look 1 e=some (.slice 3 (l.map Hop.c))/\look 5 e=some (.int .i64 i)) (fun _=>some (Rt.val (.bool true))) ?_ ?_ 0 _ _ (Qc _) (Qc _) ?_
 ·rintro i e n L hi hL _ ⟨h0,h1,h5⟩ ih;have hw:=qal i (by omega);simp [c_107_l0,Hop.c,h0,h1,h5,hi,hL,hw];exact ih _ _ (Qc _) ⟨by simp [h0],by simp [h1],by simp⟩
 ·rintro e n L hL _ ⟨h0,h1,h5⟩;simp [c_107_l0,c_107_k1,h0,h1,h5,hL]
 ·simp
theorem qnh (l:List Event) (h:l.length<2^40):qac Φ f_55 [.slice 4 (l.map Event.c),.slice 4 (l.map Event.c)]=some (.val (.bool true)):=by
 rw [qaa (fn:=c_55) rfl rfl];simp [c_55];refine qar l.length (fun _=>[]) 0 (fun i e=>look 0 e=some (.slice 4 (l.map Event.c))/\look 1 e=some (.slice 4 (l.map Event.c))/\look 5 e=some (.int .i64 i)) (fun _=>some (Rt.val (.bool true))) ?_ ?_ 0 _ _ (Qc _) (Qc _) ?_
 ·rintro i e n L hi hL _ ⟨h0,h1,h5⟩ ih;have hw:=qal i (by omega);simp [c_55_l0,Event.c,h0,h1,h5,hi,hL,hw];exact ih _ _ (Qc _) ⟨by simp [h0],by simp [h1],by simp⟩
 ·rintro e n L hL _ ⟨h0,h1,h5⟩;simp [c_55_l0,c_55_k1,h0,h1,h5,hL]
 ·simp
section
variable (V:NetV) (id:Int) (i:Nat)
theorem qlb (h:V.pk.length<2^40):qac Φ f_54 [.agg V.r]=some (.val (.slice 1 ((fly V.pk V.pk.length).map cI))):=by
 rw [qaa (fn:=c_54) rfl rfl];simp [c_54,NetV.re];refine qar V.pk.length (fun i=>[(0,.tok 1 (fly V.pk i).length)]) 1 (fun i e=>look 1 e=some (.iptr 6 [V.r] 0 0)/\look 3 e=some (.app 1 ((fly V.pk i).map cI) 0)/\look 4 e=some (.int .i64 i)) (fun _=>some (Rt.val (.slice 1 ((fly V.pk V.pk.length).map cI)))) ?_ ?_ 0 _ _ (Qc _) (Qb _) ?_
 ·rintro i e n L hi hL hn ⟨h1,h3,h4⟩ ih;have hw:=qal i (by omega);have hfl:=qkt V.pk i;have hb:((fly V.pk i).length+1)*8<=70368744177664:=by omega
  rw [NetV.re] at h1;have hgd:V.pk[i]?.getD default=V.pk[i]:=by simp [hi]
  generalize hX:some (Rt.val (AV.slice 1 ((fly V.pk V.pk.length).map cI)))=Y at ih ⊢;cases hd:V.pk[i].done with
  | true=>
   have hf:fly V.pk (i+1)=fly V.pk i:=by simp [fly,hgd,hd]
   simp only [hf] at ih;simp [c_54_l0,h1,h3,h4,hi,hL,hw,Pk.ce,hd];exact ih _ _ hn ⟨by simp [h1,NetV.re],by simp [h3],by simp⟩
  | false=>
   have hf:fly V.pk (i+1)=fly V.pk i++[(i:Int)]:=by simp [fly,hgd,hd]
   simp only [hf,QAp,QBn,QAx,QBe] at ih;simp [c_54_l0,h1,h3,h4,hi,hL,hw,Pk.ce,hd,hb];exact ih _ _ hn ⟨by simp [h1,NetV.re],by simp [cI],by simp⟩
 ·rintro e n L hL hn ⟨h1,h3,h4⟩;rw [NetV.re] at h1;simp [c_54_l0,c_54_k1,h1,h3,h4,hL]
 ·simp [fly,NetV.re]
theorem qgo (hz:chkV V id≠0):qac Φ f_105 [.agg V.r,.int .i64 id]=some (.val (.tup [.agg [.int .i64 0,.int .i64 0],.slice 1 [],.bool false])):=by
 rw [qaa (fn:=c_105) rfl rfl];have k1:=qcs V id;rw [NetV.re] at k1;simp [c_105,NetV.re,k1,hz]
theorem qlc (hi:i<V.pk.length) (hd:V.pk[i].done=false):qac Φ f_105 [.agg V.r,.int .i64 i]=some (.val (.tup [.agg [.int .i64 V.pk[i].pos.switch,.int .i64 V.pk[i].pos.port],.slice 1 (V.pk[i].data.map c8),.bool true])):=by
 rw [qaa (fn:=c_105) rfl rfl];have k1:=qcs V i;have hz:chkV V i=0:=by unfold chkV;rw [QA (by omega)];simp [hi,hd]
 rw [NetV.re,hz] at k1;simp [c_105,NetV.re,k1,hi,Pk.ce]
theorem qoy (hz:id<0\/(V.pk.length:Int)<=id):qac Φ f_108 [.agg V.r,.int .i64 id]=some (.val (.slice 3 [])):=by
 rw [qaa (fn:=c_108) rfl rfl];by_cases z:id<0
 ·simp [c_108,NetV.re,z]
 ·simp [c_108,NetV.re,z,show (V.pk.length:Int)<=id by omega]
theorem qjs (hi:i<V.pk.length):qac Φ f_108 [.agg V.r,.int .i64 i]=some (.val (.slice 3 (V.pk[i].hops.map Hop.c))):=by
 rw [qaa (fn:=c_108) rfl rfl];simp [c_108,NetV.re,hi,show ¬V.pk.length<=i by omega,Pk.ce]
theorem qox (hz:id<0\/(V.pk.length:Int)<=id):qac Φ f_109 [.agg V.r,.int .i64 id]=some (.val (.slice 1 [])):=by
 rw [qaa (fn:=c_109) rfl rfl];by_cases z:id<0
 ·simp [c_109,NetV.re,z]
 ·simp [c_109,NetV.re,z,show (V.pk.length:Int)<=id by omega]
theorem qjr (hi:i<V.pk.length):qac Φ f_109 [.agg V.r,.int .i64 i]=some (.val (.slice 1 (V.pk[i].data.map c8))):=by
 rw [qaa (fn:=c_109) rfl rfl];simp [c_109,NetV.re,hi,show ¬V.pk.length<=i by omega,Pk.ce]
theorem ql1 (hz:id<0\/(V.pk.length:Int)<=id):qac Φ f_106 [.agg V.r,.int .i64 id]=some (.val (.tup [.agg [.int .i64 0,.int .i64 0,.slice 3 [],.slice 2 []],.bool false])):=by
 rw [qaa (fn:=c_106) rfl rfl];by_cases z:id<0
 ·simp [c_106,NetV.re,z]
 ·simp [c_106,NetV.re,z,show (V.pk.length:Int)<=id by omega]
theorem qlz (hi:i<V.pk.length) (hd:V.pk[i].done=false):qac Φ f_106 [.agg V.r,.int .i64 i]=some (.val (.tup [.agg [.int .i64 0,.int .i64 0,.slice 3 [],.slice 2 []],.bool false])):=by
 rw [qaa (fn:=c_106) rfl rfl];simp [c_106,NetV.re,hi,show ¬V.pk.length<=i by omega,Pk.ce,hd]
theorem ql0 (hi:i<V.pk.length) (hd:V.pk[i].done=true):qac Φ f_106 [.agg V.r,.int .i64 i]=some (.val (.tup [.agg [.int .i64 V.pk[i].kind,.int .i64 V.pk[i].index,.slice 3 (V.pk[i].hops.map Hop.c),.slice 2 []],.bool true])):=by
 rw [qaa (fn:=c_106) rfl rfl];simp [c_106,NetV.re,hi,show ¬V.pk.length<=i by omega,Pk.ce,hd]
end
def PkF (x:Pk):List AV:=[.int .i64 x.pos.switch,.int .i64 x.pos.port,.slice 1 (x.data.map c8),.slice 3 (x.hops.map Hop.c),.bool x.done,.int .i64 x.kind,.int .i64 x.index,.slice 3 [],.slice 2 []]
def nwF (V:NetV) (f:AV):List AV:=nwR V (.slice 4 (V.cs.map Xf.c)) (.slice 9 (V.pk.map PkF)) (.slice 4 (V.log.map Event.c)) f
theorem qdg (V:NetV) (f:AV):nwF V f=[.slice 1 (V.ports.map cI),.slice 5 (V.links.map Link.c),.slice 2 (V.hosts.map PortID.c),.slice 4 (V.cs.map Xf.c),.slice 9 (V.pk.map PkF),.slice 4 (V.log.map Event.c),f]:=rfl
theorem clHop (l:List Hop) (h:l.length<2^40):qac Φ f_46 [.slice 3 (l.map Hop.c)]=some (.val (.slice 3 (l.map Hop.c))):=
 qf8 (bytes:=24) rfl _ (alH l) (by rw [QAi];omega)
theorem clEv (l:List Event) (h:l.length<2^40):qac Φ f_44 [.slice 4 (l.map Event.c)]=some (.val (.slice 4 (l.map Event.c))):=
 qf8 (bytes:=32) rfl _ (al4 l) (by rw [QAi];omega)
theorem qf7 (a:AV) (h:AH):qah Φ f_43 [a] h=go Φ (finC c_43.results) [.c c_43.body] .normal ⟨qbb 0 [a],h⟩:=qaz (fn:=c_43) rfl rfl
theorem qn0 (a b:AV) (h:AH):qah Φ f_45 [a,b] h=go Φ (finC c_45.results) [.c c_45.body] .normal ⟨qbb 0 [a,b],h⟩:=qaz (fn:=c_45) rfl rfl
theorem qh7 (a b:AV) (h:AH):qah Φ f_18 [a,b] h=go Φ (finC c_18.results) [.c c_18.body] .normal ⟨qbb 0 [a,b],h⟩:=qaz (fn:=c_18) rfl rfl
theorem qjz (a b:AV) (h:AH):qah Φ f_16 [a,b] h=go Φ (finC c_16.results) [.c c_16.body] .normal ⟨qbb 0 [a,b],h⟩:=qaz (fn:=c_16) rfl rfl
theorem qjy (a b:AV) (h:AH):qah Φ f_31 [a,b] h=go Φ (finC c_31.results) [.c c_31.body] .normal ⟨qbb 0 [a,b],h⟩:=qaz (fn:=c_31) rfl rfl
theorem qhd (a b:AV) (h:AH):qah Φ f_17 [a,b] h=go Φ (finC c_17.results) [.c c_17.body] .normal ⟨qbb 0 [a,b],h⟩:=qaz (fn:=c_17) rfl rfl
def b2sV (h:AH) (o:Option AV):Option (AV×AH):=match o with
 | some v=>evOp [(0,v)] 0 h (.b2s (.t 0))
 | none=>none
theorem qabg {e:Env} {nx:Nat} {h:AH} {n:Nat}:evOp e nx h (.b2s (.t n))=b2sV h (look n e):=by
 cases hl:look n e with
 | none=>simp only [evOp,evX,hl,b2sV]
 | some v=>simp only [evOp,evX,hl,b2sV,look,if_true]
theorem qr5 {call:qak} {e:Env} {nx:Nat} {h:AH} {n:Nat}:qab call e nx h (.b2s (.t n))=qbg (b2sV h (look n e)):=by rw [qiz,qabg]
def strB (l:List Int):List UInt8:=l.map fun n=>UInt8.ofNat n.toNat
theorem qsd (F:List AV->Option UInt8) (hF:∀n,F (c8 n)=some (UInt8.ofNat n.toNat)):∀l:List Int,mapO F (l.map c8)=some (strB l)
 | []=>rfl
 | a::l=>by simp only [QAz,mapO,hF,qsd F hF l,strB]
theorem qmb (h:AH) (z:Nat) (l:List Int):b2sV h (some (.slice z (l.map c8)))=some (.str (strB l),h):=by
 simp only [b2sV,evOp,evX,look,if_true,qb5];rw [qsd _ (fun n=>rfl)]
theorem qpk (h:AH) (z:Nat):b2sV h (some (.slice z []))=some (.str [],h):=rfl
theorem qnz (h:AH) (z:Nat):b2sV h (some (.Xu z []))=some (.str [],h):=rfl
section
variable (V:NetV) (g:Nat) (id:Int) (i:Nat)
theorem qy1 (hz:id<0\/(V.pk.length:Int)<=id) (h:AH):qah Φ f_45 [.iptr 7 [nwF V (.func (.func g) [] [])] 0 0,.int .i64 id] h=some (.val .nilptr,h):=by
 rw [qn0];by_cases z:id<0
 ·simp [c_45,qf7,c_43,qdg,z]
 ·simp [c_45,qf7,c_43,qdg,z,show (V.pk.length:Int)<=id by omega]
theorem qr7 (hi:i<V.pk.length) (h:AH):qah Φ f_45 [.iptr 7 [nwF V (.func (.func g) [] [])] 0 0,.int .i64 i] h=some (.val (.iptr 9 (V.pk.map PkF) i 0),h):=by
 rw [qn0];simp [c_45,qf7,c_43,qdg,hi,show ¬V.pk.length<=i by omega]
theorem qo4 (hz:id<0\/(V.pk.length:Int)<=id):qac Φ f_57 [.iptr 7 [nwF V (.func (.func g) [] [])] 0 0,.agg V.r,.int .i64 id]=some (.val (.bool true)):=by
 rw [qaa (fn:=c_57) rfl rfl];have hck:chkV V id≠0:=by unfold chkV;rw [QAb hz];decide
 have k0:=fun h=>qy1 V g id hz h
 have k1:=qgo V id hck;have k2:=qoy V id hz;have k3:=qox V id hz;have k4:=ql1 V id hz;have k5:=qe9 [] (by simp);rw [NetV.re] at k1 k2 k3 k4;rw [qdg] at k0;simp at k5;simp [c_57,NetV.re,qdg,qh7,c_18,qjz,c_16,qjy,c_31,qhd,c_17,k0,k1,k2,k3,k4,k5]
theorem qo3 (hi:i<V.pk.length) (hd:V.pk[i].done=false) (h1:V.pk[i].data.length<2^40) (h2:V.pk[i].hops.length<2^40):qac Φ f_57 [.iptr 7 [nwF V (.func (.func g) [] [])] 0 0,.agg V.r,.int .i64 i]=some (.val (.bool true)):=by
 rw [qaa (fn:=c_57) rfl rfl];have k0:=fun h=>qr7 V g i hi h
 have k1:=qlc V i hi hd;have k2:=qjs V i hi;have k3:=qjr V i hi;have k4:=qlz V i hi hd;have k5:=qe9 _ h2;have k6:=qe9 [] (by simp);have k7:=clBy _ h1;have k8:=clHop _ h2;rw [NetV.re] at k1 k2 k3 k4;rw [qdg] at k0;simp at k6;simp [c_57,NetV.re,qdg,hi,PkF,hd,qh7,c_18,qjz,c_16,qjy,c_31,qhd,c_17,k0,k1,k2,k3,k4,k5,k6,k7,k8,qr5,qmb,qpk,qnz,-qiz]
theorem qo2 (hi:i<V.pk.length) (hd:V.pk[i].done=true) (h1:V.pk[i].data.length<2^40) (h2:V.pk[i].hops.length<2^40):qac Φ f_57 [.iptr 7 [nwF V (.func (.func g) [] [])] 0 0,.agg V.r,.int .i64 i]=some (.val (.bool true)):=by
 rw [qaa (fn:=c_57) rfl rfl];have k0:=fun h=>qr7 V g i hi h
 have k1:=qgo V i (by unfold chkV;rw [QA (by omega)];simp [hi,hd]);have k2:=qjs V i hi;have k3:=qjr V i hi;have k4:=ql0 V i hi hd;have k5:=qe9 _ h2;have k7:=clBy _ h1;have k8:=clHop _ h2;rw [NetV.re] at k1 k2 k3 k4;rw [qdg] at k0;simp [c_57,NetV.re,qdg,hi,PkF,hd,qh7,c_18,qjz,c_16,qjy,c_31,qhd,c_17,k0,k1,k2,k3,k4,k5,k7,k8,qr5,qmb,qpk,qnz,-qiz]
end
section
variable (V:NetV) (g:Nat)
theorem qrp (h:V.pk.length<2^40):∃n,2<=n/\qah Φ f_30 [.iptr 7 [nwF V (.func (.func g) [] [])] 0 0] ⟨[],1⟩=some (.val (.app 1 ((fly V.pk V.pk.length).map cI) 1),⟨[(1,.tok 1 (fly V.pk V.pk.length).length)],n⟩):=by
 rw [qaz (fn:=c_30) rfl rfl];show (fun r=>∃n,2<=n/\r=some (Rt.val (.app 1 ((fly V.pk V.pk.length).map cI) 1),AH.mk [(1,.tok 1 (fly V.pk V.pk.length).length)] n)) _;simp [c_30,qf7,c_43,qdg];refine qgd V.pk.length (fun i e h=>∃n,h=⟨[(1,.tok 1 (fly V.pk i).length)],n⟩/\2<=n/\look 3 e=some (.app 1 ((fly V.pk i).map cI) 1)/\look 13 e=some (.slice 9 (V.pk.map PkF))/\look 14 e=some (.int .i64 V.pk.length)/\look 15 e=some (.int .i64 i)) (fun r=>∃n,2<=n/\r=some (Rt.val (.app 1 ((fly V.pk V.pk.length).map cI) 1),AH.mk [(1,.tok 1 (fly V.pk V.pk.length).length)] n)) ?_ ?_ 0 _ _ (Qc _) ?_
 ·rintro i e _ L hi hL ⟨n,rfl,hn,h3,h13,h14,h15⟩ ih;have hw:=qal i (by omega);have hfl:=qkt V.pk i;have hb:((fly V.pk i).length+1)*8<=70368744177664:=by omega
  have hgd:V.pk[i]?.getD default=V.pk[i]:=by simp [hi]
  have n1:¬n=1:=by omega
  have n2:¬1=n:=by omega
  cases hd:V.pk[i].done with
  | true=>
   have hf:fly V.pk (i+1)=fly V.pk i:=by simp [fly,hgd,hd]
   simp only [hf] at ih;simp [c_30_l0,h3,h13,h14,h15,hi,hL,hw,PkF,hd,n1,n2];exact ih _ _ ⟨_,rfl,by omega,by simp [h3],by simp [h13],by simp [h14],by simp⟩
  | false=>
   have hf:fly V.pk (i+1)=fly V.pk i++[(i:Int)]:=by simp [fly,hgd,hd]
   simp only [hf,QAp,QBn,QAx,QBe] at ih;simp [c_30_l0,h3,h13,h14,h15,hi,hL,hw,PkF,hd,hb,n1,n2];exact ih _ _ ⟨_,rfl,by omega,by simp [cI],by simp [h13],by simp [h14],by simp⟩
 ·rintro e _ L hL ⟨n,rfl,hn,h3,h13,h14,h15⟩;simp [c_30_l0,c_30_k1,h3,h13,h14,h15,hL];exact hn
 ·simp [fly]
theorem qpn (a:AV) (h:AH):qah Φ f_32 [a] h=go Φ (finC c_32.results) [.c c_32.body] .normal ⟨qbb 0 [a],h⟩:=qaz (fn:=c_32) rfl rfl
theorem qwg (a:AV) (h:AH):qah Φ f_15 [a] h=go Φ (finC c_15.results) [.c c_15.body] .normal ⟨qbb 0 [a],h⟩:=qaz (fn:=c_15) rfl rfl
theorem qzy (s:NetS V) (hc:∀c∈V.cs,CfgC c/\CfgS c) (hd:∀x∈V.pk,x.data.length<=1000):qac Φ f_23 [.iptr 7 [nwF V (.func (.func g) [] [])] 0 0,.agg V.r]=some (.val (.bool true)):=by
 rw [qaa (fn:=c_23) rfl rfl];have hk:=s.k;have hg:=s.g;have hcl:=s.c;obtain ⟨n1,hn1,e1⟩:=qrp V g (by omega);have k1:=qlb V (by omega);obtain ⟨w,O2,N2,e2,x2,f2,kp2,T2,l2⟩:=qe7 V.cs (fun c h=>(hc c h).1) (by omega) (O:=[(1,.tok 1 (fly V.pk V.pk.length).length)]) (N:=n1) (by simp [Tail_cons_iff,qby];omega) (v:= .slice 4 (V.cs.map Xf.c)) (.sl _);have k2:=clEv V.log (by omega);have k3:=qnh V.log (by omega);have hw:lenOf w=some V.cs.length:=by rcases x2 with ⟨h,rfl⟩ | ⟨id,rfl,_⟩<;>simp at*;simp [h]
 rw [NetV.re] at k1;rw [qdg] at e1;simp [c_23,NetV.re,qdg,e1,k1,qpn,c_32,qf7,c_43,e2,qwg,c_15,k2,k3,hw,-lenOf];generalize hO3:qau (qau O2)=O3;have hx3:Ex1 O3 4 w (V.cs.map Xf.c):=x2.fr fun t ht=>by
  have h:=x2.id ht;rw [<- hO3,qan (by rw [qan (by rw [h];simp),h];simp),qan (by rw [h];simp)]
 have hT3:Tail O3 N2:=by rw [<- hO3];exact qfy (qfy T2)
 have hfl:=qkt V.pk V.pk.length;refine qar (fly V.pk V.pk.length).length (fun _=>O3) (N2+1) (fun i e=>look 0 e=some (.iptr 7 [nwF V (.func (.func g) [] [])] 0 0)/\look 3 e=some (.iptr 6 [V.r] 0 0)/\look 5 e=some (.app 1 ((fly V.pk V.pk.length).map cI) 1)/\look 6 e=some w/\look 7 e=some (.slice 1 ((fly V.pk V.pk.length).map cI))/\look 8 e=some (.int .i64 i)) (fun _=>some (Rt.val (.bool true))) ?_ ?_ 0 _ _ (Qc _) (Qb _) ?_
 ·rintro i e n L hi hL hn ⟨h0,h3,h5,h6,h7,h8⟩ ih;have hw:=qal i (by omega);simp [c_23_l0,h5,h7,h8,hi,hL,hw,cI];exact ih _ _ hn ⟨by simp [h0],by simp [h3],by simp [h5],by simp [h6],by simp [h7],by simp⟩
 ·rintro e n L hL hn ⟨h0,h3,h5,h6,h7,h8⟩;simp [c_23_l0,c_23_k5,h5,h8,hL];refine qar V.cs.length (fun _=>O3) (N2+1) (fun i e=>look 0 e=some (.iptr 7 [nwF V (.func (.func g) [] [])] 0 0)/\look 3 e=some (.iptr 6 [V.r] 0 0)/\look 6 e=some w/\look 9 e=some (.int .i64 i)) (fun _=>some (Rt.val (.bool true))) ?_ ?_ 0 _ _ (Qc _) hn ?_
  ·rintro i e n L hi hL hn ⟨h0,h3,h6,h9⟩ ih;have hw1:=qal i (by omega);have hq:=qtq V.cs[i] V.cs[i] (hc _ (Qd hi)).2;rw [NetV.re] at h3;rcases hx3 with ⟨hz,rfl⟩ | ⟨id,rfl,hid⟩
   ·rw [QBy] at hz;rw [hz] at hi;simp at hi
   ·simp only [Xf.e4] at hq;simp [c_23_l1,h3,h6,h9,hi,hL,hid,hq,hw1,Xf.e4];exact ih _ _ (by omega) ⟨by simp [h0],by simp [h3,NetV.re],by simp [h6],by simp⟩
  ·rintro e n L hL hn ⟨h0,h3,h6,h9⟩;simp [c_23_l1,c_23_k4,h6,h9,hL,hw,-lenOf];refine qar (V.pk.length+2) (fun _=>O3) (N2+1) (fun i e=>look 0 e=some (.iptr 7 [nwF V (.func (.func g) [] [])] 0 0)/\look 3 e=some (.iptr 6 [V.r] 0 0)/\look 10 e=some (.int .i64 ((i:Int) - 1))) (fun _=>some (Rt.val (.bool true))) ?_ ?_ 0 _ _ (Qc _) hn ?_
   ·rintro i e n L hi hL hn ⟨h0,h3,h10⟩ ih;have hw1:IntKind.wrap .i64 ((i:Int) - 1+1)=((i+1:Nat):Int) - 1:=by rw [qej (by omega) (by omega)];omega
    have hw2:IntKind.wrap .i64 (i:Int)=(i:Int):=qej (by omega) (by omega);have hle:(i:Int) - 1<=V.pk.length:=by omega
    have hq:qac Φ f_57 [.iptr 7 [nwF V (.func (.func g) [] [])] 0 0,.agg V.r,.int .i64 ((i:Int) - 1)]=some (.val (.bool true)):=by
     by_cases z:(i:Int) - 1<0\/(V.pk.length:Int)<=(i:Int) - 1
     ·exact qo4 V g _ z
     ·obtain ⟨j,hj⟩:=QAe (show 0<=(i:Int) - 1 by omega);rw [hj];have hjl:j<V.pk.length:=by omega
      have hm:=Qd hjl;have h1:=hd _ hm;have h2:=s.hp _ hm;cases hdn:V.pk[j].done with
      | true=>exact qo2 V g j hjl hdn (by omega) (by omega)
      | false=>exact qo3 V g j hjl hdn (by omega) (by omega)
    rw [NetV.re] at hq h3;rw [qdg] at hq h0;simp [c_23_l2,h0,h3,h10,hL,hq,hle,hw1,hw2];exact ih _ _ (by omega) ⟨by simp [h0,qdg],by simp [h3,NetV.re],by simp [hw2]⟩
   ·rintro e n L hL hn ⟨h0,h3,h10⟩;rw [NetV.re] at h3;have hle:¬(V.pk.length:Int)+2 - 1<=V.pk.length:=by omega
    simp [c_23_l2,c_23_k3,h3,h10,hL,hle]
   ·simp [h0,h3]
  ·simp [h0,h3,h6]
 ·simp [qdg,NetV.re]
end
theorem qva {α β:Type} {f:α->Option β}:∀{l:List α} {m:List β},l.length=m.length->(∀(k:Nat) (x:α) (y:β),l[k]? =some x->m[k]? =some y->f x=some y)->mapO f l=some m:=qod
theorem Ex1.snp {O:List (Nat×AO)} {N z n:Nat} {v:AV} {es es':List (List AV)} (h:Ex1 O z v es) (he:mapO (mapO (snap n ⟨O,N⟩)) es=some es'):snap (n+1) ⟨O,N⟩ v=some (.slice z es'):=by
 rcases h with ⟨rfl,rfl⟩ | ⟨t,rfl,ht⟩
 ·simp only [mapO,Option.some.injEq] at he;subst he;simp
 ·simp [ht,he]
theorem NetM.snp {O:List (Nat×AO)} {n N g:Nat} {V:NetV} {C:Nat} {pv lv:AV} {H:List AV} (m:NetM O n V (.func (.func g) [] []) C pv lv H) (k:Nat):snap (k+5) ⟨O,N⟩ (.ptr n 7 0 0)=some (.iptr 7 [nwF V (.func (.func g) [] [])] 0 0):=by
 have hrow:=m.row;rw [qcl] at hrow;have h1:snap (k+4) ⟨O,N⟩ (.row C 4 0 V.cs.length)=some (.slice 4 (V.cs.map Xf.c)):=by
  have:=m.cf;simp [this,qk8,snpL (fun x=>snpCf (n:=k+2) (H:=⟨O,N⟩) x)]
 have h2:snap (k+4) ⟨O,N⟩ pv=some (.slice 9 (V.pk.map PkF)):=by
  refine m.pk.snp (qva (by simp [qbr m.hl]) ?_);intro i y z hy hz;rw [List.getElem?_map] at hz;cases hx:V.pk[i]? with
  | none=>rw [hx] at hz;cases hz
  | some x=>
   rw [hx] at hz;simp only [QBf,Option.some.injEq] at hz;subst hz;have hi:=(Qm.1 hx).1;have hiH:i<H.length:=by rw [m.hl];exact hi
   have hh:=Qa hiH;rw [qgf hx hh] at hy;simp only [Option.some.injEq] at hy;subst hy;have:=(m.hp i x _ hx hh).snp (N:=N) (n:=k+2);simp [PkN,PkF,mapO,this]
 have h3:snap (k+4) ⟨O,N⟩ lv=some (.slice 4 (V.log.map Event.c)):=m.lg.snp;simp [hrow,h1,h2,h3,qdg]
def pF:Prg:=⟨[102,97,98,114,105,99],
 [⟨[98,97,115,101],[⟨[107,105,110,100],8⟩]⟩,⟨[116,97,103],[⟨[118,101,114,115,105,111,110],8⟩,⟨[108,97,98,101,108],8⟩]⟩,⟨[102,108,111,119],[⟨[115,114,99],8⟩,⟨[100,115,116],8⟩,⟨[116,121,112,101],8⟩]⟩],
 [⟨[105,110],8⟩,⟨[111,117,116],8⟩,⟨[100,114,111,112],1⟩,⟨[99,111,117,110,116],16⟩],
 [⟨[115,101,101,110],16,16⟩],
 [⟨[115,116,97,109,112],[⟨[118,101,114,115,105,111,110],8⟩],[⟨2,⟨0,0⟩,0,1,[],[]⟩,⟨1,⟨1,0⟩,0,0,[],[⟨3,0,0⟩]⟩,⟨1,⟨0,0⟩,0,0,[],[⟨1,2,8⟩]⟩,⟨4,⟨-1,3⟩,0,0,[⟨2,-1,0⟩],[]⟩,⟨5,⟨0,0⟩,0,0,[⟨2,-1,0⟩],[⟨9,0,0⟩,⟨2,-1,3⟩,⟨1,1,16⟩]⟩]⟩,⟨[112,97,115,115],[],[]⟩,⟨[102,111,114,119,97,114,100],[⟨[112,111,114,116],8⟩,⟨[108,97,98,101,108],8⟩],[⟨1,⟨-1,1⟩,0,0,[],[⟨3,0,0⟩]⟩,⟨1,⟨1,1⟩,0,0,[],[⟨3,1,0⟩]⟩]⟩,⟨[100,101,108,105,118,101,114],[⟨[112,111,114,116],8⟩],[⟨1,⟨-1,1⟩,0,0,[],[⟨3,0,0⟩]⟩,⟨3,⟨0,0⟩,0,1,[],[]⟩,⟨1,⟨0,0⟩,0,0,[],[⟨1,1,8⟩]⟩]⟩,⟨[100,114,111,112],[],[⟨1,⟨-1,2⟩,0,0,[],[⟨1,1,1⟩]⟩]⟩],
 [⟨[105,110,103,114,101,115,115],[⟨⟨-1,0⟩,1⟩],[0,4],⟨4,[]⟩,16⟩,⟨[116,114,117,110,107],[⟨⟨-1,0⟩,1⟩],[1,4],⟨4,[]⟩,16⟩,⟨[112,97,116,104],[⟨⟨-1,0⟩,3⟩,⟨⟨1,0⟩,3⟩,⟨⟨1,1⟩,3⟩,⟨⟨2,0⟩,3⟩,⟨⟨2,1⟩,3⟩,⟨⟨2,2⟩,3⟩],[2,3,4],⟨4,[]⟩,256⟩],
 [⟨[115,116,97,114,116],[0],true,⟨0,0⟩,[⟨1,255,2⟩,⟨2,255,1⟩],-2⟩,⟨[116,97,103,103,101,100],[1],false,⟨0,0⟩,[],2⟩,⟨[102,108,111,119,115],[2],false,⟨0,0⟩,[],-1⟩],
 [.mk 2 0 [⟨4,1,0⟩] [.mk 1 1 [] [] []] [.mk 1 0 [] [] []],.mk 2 0 [⟨15,0,0⟩,⟨2,-1,2⟩,⟨1,0,1⟩] [.mk 1 2 [] [] []] []],
 [0,1,2]⟩
theorem qfd {Φ:FuncId->Option AFun} {f:FuncId} {xs:List AV} {n:Nat} {r:Rt} (h:qdl (evF Φ n f xs H0)=some r):qac Φ f xs=some r:=by
 unfold qac;cases hc:evF Φ n f xs H0 with
 | none=>rw [hc] at h;cases h
 | some p=>rw [qpm Φ hc,<- hc];exact h
theorem qyz:qac Φ f_34 []=some (.val (.agg (Prg.c pF))):=qfd (n:=100) (by kernel_rfl)
theorem qsn:qac Φ f_26 []=some (.val (.agg (Prg.c pF))):=qfd (n:=100) (by kernel_rfl)
theorem pcF1:qac Φ f_80 [.agg (Prg.c pF)]=some (.val (.agg (dgC (prgD pF)))):=qfd (n:=200) (by kernel_rfl)
theorem pcF2:qac Φ f_88 [.agg (Prg.c pF)]=some (.val (.agg (dgC (prgD pF)))):=qfd (n:=200) (by kernel_rfl)
theorem pcF:PC pF:=⟨pcF1,pcF2⟩
theorem pF_ok:pF.Ok qbw:=by
 have e:=qe6;simp [pF,Prg.Ok,qdh,okL,Xj.Ok,Fld.Ok,Xh.Ok,Action.Ok,Xg.Ok,Tbl.Ok,Xb.Ok,Xd.Ok,Xk.Ok,Xa.Ok,Xa.Oks,Xe.Ok,FieldRef.Ok,Xl.Ok,okI,ok32,okT];omega
theorem pF_hv:∀t∈pF.Xn,∀v∈t.dflt.args,ok32 0 v:=by simp [pF]
def cfgF (cs:List Xf) (k:Nat):Option Int:=cs[k]?.bind fun c=>if cfgE pF c=0 then none else some (cfgE pF c)
def newE (ports:List Int) (links:List Link) (hosts:List PortID) (cs:List Xf):Int:=
 if qa2 ports links hosts≠0 then qa2 ports links hosts else if cs.length≠ports.length then 2 else (fe (cfgF cs) cs.length 0).getD 0
theorem pF_s:PrgS pF:=qye pF_ok
theorem qyp {cs:List Xf} {k:Nat} {x:Int} (h:cfgF cs k=some x):x≠0:=by
 unfold cfgF at h;rw [Qt] at h;obtain ⟨c,_,h⟩:=h;split at h
 ·cases h
 ·cases h;assumption
theorem cfgCT {c:Xf} (s:CfgT c) (hl:∀l∈c.rows,l.length<2^39):CfgC c:=⟨s.rl,fun l h=>⟨hl l h,fun r hr=>⟨(show EntS r.entry from (s.rs l h).2 r hr).kl,(show EntS r.entry from (s.rs l h).2 r hr).al⟩⟩,s.nl,s.dl,fun d hd=>(s.ds d hd).1,s.gl,fun l h=>(s.gs l h).1⟩
theorem qjh {ports:List Int} {links:List Link} {hosts:List PortID} (h:qa2 ports links hosts=0):0<ports.length/\ports.length<=16/\links.length<=32/\hosts.length<=16:=by
 unfold qa2 at h;split at h
 ·cases h
 split at h
 ·cases h
 split at h
 ·cases h
 split at h
 ·cases h
 rename_i h1 h2 h3 h4;refine ⟨List.length_pos_iff.2 h1,by omega,by omega,by omega⟩
def NewQ (N:Nat) (O:List (Nat×AO)) (V:NetV) (f:AV) (e:Int) (r:Option (Rt×AH)):Prop:=
 ∃O' N' v,r=some (.val (.tup [v,.int .i64 e]),⟨O',N'⟩)/\Fw (fun _=>False) N O O' N'/\(e≠0->v= .nilptr)/\(e=0->∃n,v= .ptr n 7 0 0/\NetW O' n V f (fun j=>N<=j))
section
variable (ports:List Int) (links:List Link) (hosts:List PortID) (cs:List Xf) (hl:cs.length<2^39) (hs:∀c∈cs,CfgT c/\∀l∈c.rows,l.length<2^39) (g:Nat)
include hl hs
theorem qaav {O:List (Nat×AO)} {N:Nat} (hT:Tail O N):NewQ N O ⟨ports,links,hosts,cs,[],[]⟩ (.func (.func g) [] []) (newE ports links hosts cs) (qah Φ f_9 [.agg [.slice 1 (ports.map cI),.slice 5 (links.map Link.c),.slice 2 (hosts.map PortID.c)],.slice 4 (cs.map Xf.c),.func (.func g) [] []] ⟨O,N⟩):=by
 rw [qaz (fn:=c_9) rfl rfl];have k0:=qgp ports links hosts;have t0:=hT N (Qb _);by_cases z1:qa2 ports links hosts=0
 rotate_left
 ·rw [show newE ports links hosts cs=qa2 ports links hosts by simp [newE,z1]];simp [c_9,k0,z1];exact ⟨_,_,_,rfl,Fw.init hT,fun _=>rfl,fun h=>absurd h z1⟩
 rw [z1] at k0;by_cases z2:cs.length=ports.length
 rotate_left
 ·rw [show newE ports links hosts cs=2 by simp [newE,z1,z2]];have z2':¬((cs.length:Int)=ports.length):=by omega
  simp [c_9,k0,z2];exact ⟨_,_,_,rfl,Fw.init hT,fun _=>rfl,fun h=>by cases h⟩
 rw [show newE ports links hosts cs=(fe (cfgF cs) cs.length 0).getD 0 by simp [newE,z1,z2]];have k1:=qyz;simp only [Prg.e] at k1;obtain ⟨hpo,hp1,hp2,hp3⟩:=qjh z1;simp [c_9,k0,z2,k1,t0];refine loopQ (σ:={ i:Nat // i<=ports.length }) (fun x=>ports.length - x.1) (fun x e h=>∃n,h=⟨O,n⟩/\N<=n/\look 1 e=some (.slice 4 (cs.map Xf.c))/\look 2 e=some (.func (.func g) [] [])/\look 3 e=some (.iptr 3 [[.slice 1 (ports.map cI),.slice 5 (links.map Link.c),.slice 2 (hosts.map PortID.c)]] 0 0)/\look 9 e=some (.iptr 9 [Prg.c pF] 0 0)/\look 29 e=some (.slice 4 (cs.map Xf.c))/\look 30 e=some (.int .i64 ports.length)/\look 31 e=some (.int .i64 x.1))
  (fun x=>NewQ N O ⟨ports,links,hosts,cs,[],[]⟩ (.func (.func g) [] []) ((fe (cfgF cs) ports.length x.1).getD 0)) ?_ ⟨0,Qc _⟩ _ _ ?_
 ·rintro ⟨i,hi⟩ e _ L hL ⟨n,rfl,hn,h1,h2,h3,h9,h29,h30,h31⟩ ih;simp only at h31 hi ⊢;have tn:=hT n hn;rcases Nat.lt_or_eq_of_le hi with hlt | heq
  ·have hic:i<cs.length:=by omega
   have hw:=qal i (by omega);have hck:=qyo pF pF_s pcF cs[i] (hs _ (Qd hic)).1;rw [Xf.e4] at hck;by_cases q:cfgE pF cs[i]=0
   ·rw [qa8 hlt (by simp [cfgF,hic,q])];rw [q] at hck;simp only [Prg.e] at hck h9;simp [c_9_l0,h9,h29,h30,h31,hlt,hic,hL,Xf.e4,hck,hw,tn];exact ih ⟨i+1,hlt⟩ _ _ (by simp only;omega) ⟨_,rfl,by omega,by simp [h1],by simp [h2],by simp [h3],by simp [h9,Prg.e],by simp [h29],by simp [h30],by simp⟩
   ·rw [qba (x:=cfgE pF cs[i]) hlt (by simp [cfgF,hic,q])];simp only [Prg.e] at hck h9;simp [c_9_l0,h9,h29,h30,h31,hlt,hic,hL,Xf.e4,hck,hw,tn,q];exact ⟨_,_,_,rfl,(Fw.init hT).up (by omega),fun _=>rfl,fun h=>absurd h q⟩
  ·subst heq;rw [qb9];have kc:=qfh ports links hosts (by omega) (by omega) (by omega);simp [c_9_l0,c_9_k1,h1,h2,h3,h30,h31,hL,kc];obtain ⟨w,O2,N2,e2,x2,f2,kp2,T2,l2⟩:=qe7 cs (fun c hc=>cfgCT (hs c hc).1 (hs c hc).2) hl (hT.mono hn) (v:= .slice 4 (cs.map Xf.c)) (.sl _);rcases x2 with ⟨hz,_⟩ | ⟨C,rfl,hC⟩
   ·rw [QBy] at hz;rw [hz] at z2;simp at z2;omega
   have u2:=T2 N2 (Qb _);have hCN:=T2.lt hC;have hCn:=f2 C rfl;simp [e2,h1,h2,h3,u2];refine ⟨_,_,_,rfl,⟨?_,T2.app1 (Qb _),by omega⟩,fun h=>absurd rfl h,fun _=>⟨N2,rfl,C,.Xu 9 [],.Xu 4 [],[],⟨?_,?_,.inl ⟨rfl,rfl⟩,rfl,by simp,.inl ⟨rfl,rfl⟩,by simp,by simp⟩,?_⟩⟩
   ·intro j hj _;have:¬N2=j:=by omega
    rw [qaf,kp2 j (by omega) (by simp)];simp [this]
   ·simp [qaf,u2,qcl,z2]
   ·simp [qaf,hC]
   ·intro j hj;rcases hj with rfl | rfl | hj | hj | ⟨h,hh,_⟩
    ·omega
    ·omega
    ·cases hj
    ·cases hj
    ·cases hh
 ·simp [Prg.e]
end
section
variable (ports:List Int) (links:List Link) (hosts:List PortID) (cs:List Xf) (hl:cs.length<2^39) (hs:∀c∈cs,CfgT c/\∀l∈c.rows,l.length<2^39)
include hl hs
theorem qo0 (h:newE ports links hosts cs≠0):qac Φ f_11 [.agg [.slice 1 (ports.map cI),.slice 5 (links.map Link.c),.slice 2 (hosts.map PortID.c)],.slice 4 (cs.map Xf.c)]=some (.val (.tup [.agg [.slice 1 [],.slice 5 [],.slice 2 [],.slice 4 [],.slice 9 [],.slice 4 []],.int .i64 (newE ports links hosts cs)])):=by
 rw [qaa (fn:=c_11) rfl rfl];have k0:=qfs ports links hosts;by_cases z1:qa2 ports links hosts=0
 rotate_left
 ·rw [show newE ports links hosts cs=qa2 ports links hosts by simp [newE,z1]];simp [c_11,k0,z1]
 rw [z1] at k0;by_cases z2:cs.length=ports.length
 rotate_left
 ·rw [show newE ports links hosts cs=2 by simp [newE,z1,z2]];have z2':¬((cs.length:Int)=ports.length):=by omega
  simp [c_11,k0,z2]
 have hE:newE ports links hosts cs=(fe (cfgF cs) cs.length 0).getD 0:=by simp [newE,z1,z2]
 rw [hE] at h ⊢;have k1:=qsn;simp [c_11,k0,z2];have hh:(fe (cfgF cs) ports.length 0).getD 0≠0:=by rwa [<- z2]
 refine qar ports.length (fun _=>[(0,.row 6 [[.Xu 1 [],.Xu 5 [],.Xu 2 [],.Xu 4 [],.Xu 9 [],.Xu 4 []]])]) 1 (fun i e=>look 1 e=some (.slice 4 (cs.map Xf.c))/\look 4 e=some (.ptr 0 6 0 0)/\look 7 e=some (.int .i64 i)/\(fe (cfgF cs) ports.length i).getD 0≠0)
  (fun i=>some (Rt.val (.tup [.agg [.slice 1 [],.slice 5 [],.slice 2 [],.slice 4 [],.slice 9 [],.slice 4 []],.int .i64 ((fe (cfgF cs) ports.length i).getD 0)]))) ?_ ?_ 0 _ _ (Qc _) (Qb _) ?_
 ·rintro i e n L hi hL hn ⟨h1,h4,h7,hne⟩ ih;have hic:i<cs.length:=by omega
  have hw:=qal i (by omega);have hck:=qqk pF pF_s pF_hv pcF cs[i] (hs _ (Qd hic)).1;rw [Xf.e4] at hck;simp only [Prg.e] at hck k1;by_cases q:cfgE pF cs[i]=0
  ·rw [qa8 hi (by simp [cfgF,hic,q])] at hne ⊢;rw [q] at hck;generalize hX:some (Rt.val (AV.tup [AV.agg [AV.slice 1 [],AV.slice 5 [],AV.slice 2 [],AV.slice 4 [],AV.slice 9 [],AV.slice 4 []],AV.int .i64 ((fe (cfgF cs) ports.length (i+1)).getD 0)]))=Y at ih ⊢;simp [c_11_l0,h1,h4,h7,hi,hic,z2,hL,Xf.e4,k1,hck,hw];exact ih _ _ (by omega) ⟨by simp [h1],by simp [h4],by simp,hne⟩
  ·rw [qba (x:=cfgE pF cs[i]) hi (by simp [cfgF,hic,q])];simp [c_11_l0,h1,h4,h7,hi,hic,z2,hL,Xf.e4,k1,hck,hw,q]
 ·rintro e n L hL hn ⟨h1,h4,h7,hne⟩;rw [qb9] at hne;simp at hne
 ·exact ⟨by simp,by simp,by simp,hh⟩
theorem qqn (h:newE ports links hosts cs=0):qac Φ f_11 [.agg [.slice 1 (ports.map cI),.slice 5 (links.map Link.c),.slice 2 (hosts.map PortID.c)],.slice 4 (cs.map Xf.c)]=some (.val (.tup [.agg (NetV.r ⟨ports,links,hosts,cs,[],[]⟩),.int .i64 0])):=by
 rw [qaa (fn:=c_11) rfl rfl];have k0:=qfs ports links hosts;have z1:qa2 ports links hosts=0:=by
  refine Decidable.byContradiction fun hc=>?_
  rw [show newE ports links hosts cs=qa2 ports links hosts by simp [newE,hc]] at h;exact hc h
 rw [z1] at k0;have z2:cs.length=ports.length:=by
  refine Decidable.byContradiction fun hc=>?_
  rw [show newE ports links hosts cs=2 by simp [newE,z1,hc]] at h;cases h
 have hE:newE ports links hosts cs=(fe (cfgF cs) cs.length 0).getD 0:=by simp [newE,z1,z2]
 rw [hE] at h;obtain ⟨hpo,hp1,hp2,hp3⟩:=qjh z1;have hall:∀i (hi:i<cs.length),cfgE pF cs[i]=0:=by
  have hn:fe (cfgF cs) cs.length 0=none:=by
   cases hq:fe (cfgF cs) cs.length 0 with
   | none=>rfl
   | some x=>
    obtain ⟨k,_,hk⟩:=qni hq;rw [hq] at h;exact absurd h (qyp hk)
  intro i hi;have:=fe_all.1 hn i hi;simp [cfgF,hi] at this;exact this
 have k1:=qsn;have b3:ports.length*96<=70368744177664:=by omega
 simp [c_11,k0,z2,NetV.re];refine qar ports.length (fun _=>[(0,.row 6 [[.Xu 1 [],.Xu 5 [],.Xu 2 [],.Xu 4 [],.Xu 9 [],.Xu 4 []]])]) 1 (fun i e=>look 1 e=some (.slice 4 (cs.map Xf.c))/\look 2 e=some (.iptr 3 [[.slice 1 (ports.map cI),.slice 5 (links.map Link.c),.slice 2 (hosts.map PortID.c)]] 0 0)/\look 4 e=some (.ptr 0 6 0 0)/\look 7 e=some (.int .i64 i))
  (fun _=>some (Rt.val (.tup [.agg [.slice 1 (ports.map cI),.slice 5 (links.map Link.c),.slice 2 (hosts.map PortID.c),.slice 4 (cs.map Xf.c),.slice 9 [],.slice 4 []],.int .i64 0]))) ?_ ?_ 0 _ _ (Qc _) (Qb _) ?_
 ·rintro i e n L hi hL hn ⟨h1,h2,h4,h7⟩ ih;have hic:i<cs.length:=by omega
  have hw:=qal i (by omega);have hck:=qqk pF pF_s pF_hv pcF cs[i] (hs _ (Qd hic)).1;rw [Xf.e4,hall i hic] at hck;simp only [Prg.e] at hck k1;simp [c_11_l0,h1,h4,h7,hi,hic,z2,hL,Xf.e4,k1,hck,hw];exact ih _ _ (by omega) ⟨by simp [h1],by simp [h2],by simp [h4],by simp⟩
 ·rintro e n L hL hn ⟨h1,h2,h4,h7⟩;have n0:¬n=0:=by omega
  have n1:¬0=n:=by omega
  simp [c_11_l0,c_11_k1,h1,h2,h4,h7,z2,hL,alC,b3,n0,n1]
  done
 ·simp
end
theorem qmd {Ψ:FuncId->Option AFun} {f z bytes:Nat} (hf:Ψ f=some (.rule (qc6 z bytes .app))) {O:List (Nat×AO)} {N:Nat} (hN:look N O=none) {v:AV} {es:List (List AV)} (hv:Ap O z v es) (hz:qa7 z es=true) (hb:es.length*bytes<=70368744177664):qah Ψ f [v] ⟨O,N⟩=some (.val (.app z es N),⟨O++[(N,.tok z es.length)],N+1⟩):=by
 rw [qiu Ψ hf];rcases hv with ⟨rfl,rfl⟩ | ⟨t,rfl,_⟩
 ·simp [qc6,lenOf,qb5,evR,AH.put,hN]
 ·cases es with
  | nil=>
   simp [qc6,lenOf,qb5,evR,AH.put,hN]
  | cons x es=>
   simp only [QBn] at hb;simp [qc6,lenOf,evR,AH.put,hz,hb,hN]
theorem rf_ap {O:List (Nat×AO)} {z n:Nat} {v:AV} {es:List (List AV)} (h:Ap O z v es) (he:∀e∈es,∀c∈e,Rf n c):Rf (n+1) v:=by
 rcases h with ⟨rfl,rfl⟩ | ⟨t,rfl,_⟩
 ·exact Rf.Xu _ _ _ (by simp)
 ·exact Rf.app _ _ _ _ he
theorem rf_ex {O:List (Nat×AO)} {z n:Nat} {v:AV} {es:List (List AV)} (h:Ex1 O z v es):Rf (n+1) v:=by
 rcases h with ⟨rfl,rfl⟩ | ⟨t,rfl,_⟩
 ·exact Rf.Xu _ _ _ (by simp)
 ·exact Rf.row _ _ _ _ _
theorem rf_ev (n:Nat) (x:Event):∀c∈Event.c x,Rf (n+1) c:=by simp [Event.c,Rf.int]
theorem qzt (n:Nat) (x:Link):∀c∈Link.c x,Rf (n+1) c:=by simp [Link.c,Rf.int,Rf.bool]
theorem qzu (n:Nat) (x:PortID):∀c∈PortID.c x,Rf (n+1) c:=by simp [PortID.c,Rf.int]
theorem qzs (n g:Nat):Rf (n+1) (.func (.func g) [] []):=by unfold Rf avEq;simp [eqL]
section
variable {O:List (Nat×AO)} {n N g C:Nat} {V:NetV} {pv lv:AV} {H:List AV}
theorem qwa (m:NetM O n V (.func (.func g) [] []) C pv lv H):aoEq (some (.row 7 [nwR V (.row C 4 0 V.cs.length) pv lv (.func (.func g) [] [])])) (some (.row 7 [nwR V (.row C 4 0 V.cs.length) pv lv (.func (.func g) [] [])]))=true:=by
 have h:∀x∈nwR V (.row C 4 0 V.cs.length) pv lv (.func (.func g) [] []),avEq 40 x x=true:=by
  intro x hx;simp only [nwR,QAm,List.not_mem_nil,or_false] at hx;rcases hx with rfl | rfl | rfl | rfl | rfl | rfl | rfl
  ·exact Rf.map _ _ _ _ fun x _=>rf_I _ x
  ·exact Rf.map _ _ _ _ fun x _=>qzt _ x
  ·exact Rf.map _ _ _ _ fun x _=>qzu _ x
  ·exact Rf.row _ _ _ _ _
  ·exact rf_ex m.pk
  ·refine rf_ap m.lg fun e he=>?_
   obtain ⟨l,_,rfl⟩:=QAu.1 he;exact rf_ev _ l
  ·exact qzs _ _
 have h1:=qf9 (avEq 40) _ h;unfold aoEq;simp [qag,eqL,h1]
theorem NetM.pushG {O':List (Nat×AO)} {f pv' h':AV} {x:Pk} (m:NetM O n V f C pv lv H) (hr:look n O'=some (.row 7 [nwR V (.row C 4 0 V.cs.length) pv' lv f])) (hp:Ex1 O' 9 pv' (pkN V.pk H++[PkN x h'])) (hx:Ap O' 3 h' (x.hops.map Hop.c)) (htk:∀t,tkn h'=some t->look t O=none\/look t O=some .res)
  (hk:∀(j:Nat) (y:AO),look j O=some y->y≠ .res->j≠n->vid pv≠some j->look j O'=some y):NetM O' n { V with pk:=V.pk++[x] } f C pv' lv (H++[h']):=by
 have ho:∀j,NetM.own n C pv lv H j->j≠n->vid pv≠some j->look j O'=look j O:=by
  intro j hj h1 h2;obtain ⟨y,hy,hny⟩:=m.nr hj;rw [hk j y hy hny h1 h2,hy]
 have hpv:∀j y,look j O=some y->(∀es,y≠ .row 9 es)->vid pv≠some j:=by
  intro j y hj hy hc;have:=m.pk.id hc;rw [hj] at this;cases this;exact hy _ rfl
 have hnew:∀t y,look t O=some y->y≠ .res->tkn h'≠some t:=by
  intro t y hy hny hc;rcases htk t hc with h1 | h1<;>rw [h1] at hy<;>cases hy
  exact hny rfl
 have hlast:∀(k:Nat) (h:AV),(H++[h'])[k]? =some h->(k<H.length/\H[k]? =some h)\/(k=H.length/\h=h'):=by
  intro k h hh;by_cases hk':k<H.length
  ·rw [Ql hk'] at hh;exact .inl ⟨hk',hh⟩
  ·rw [Qp (by omega)] at hh;cases hd:k - H.length with
   | zero=>rw [hd] at hh;simp at hh;exact .inr ⟨by omega,hh.symm⟩
   | succ q=>rw [hd] at hh;simp at hh
 refine ⟨hr,by rw [ho C (.inr (.inl rfl)) (qas m.cf m.row (by simp)) (hpv C _ m.cf (by simp))];exact m.cf,by rw [qsi m.hl];exact hp,by simp [m.hl],?_,m.lg.fr fun t ht=>ho t (.inr (.inr (.inr (.inl ht)))) (qas (m.lg.tk ht) m.row (by simp)) (hpv t _ (m.lg.tk ht) (by simp)),?_,?_⟩
 ·intro k y h hy hh;rcases hlast k h hh with ⟨hk',hh⟩ | ⟨rfl,rfl⟩
  ·rw [Ql (by rw [<- m.hl];exact hk')] at hy;refine (m.hp k y h hy hh).fr fun t ht=>?_
   obtain ⟨l,hl⟩:=m.hk hh ht;exact ho t (.inr (.inr (.inr (.inr ⟨h,Qe hh,ht⟩)))) (qas hl m.row (by simp)) (hpv t _ hl (by simp))
  ·rw [m.hl,Qp (Qb _),Nat.sub_self] at hy;simp at hy;subst hy;exact hx
 ·intro k k' h h1 t hh hh' ht ht';rcases hlast k h hh with ⟨hk',hb⟩ | ⟨hk',hb⟩<;>rcases hlast k' h1 hh' with ⟨hk1,hb'⟩ | ⟨hk1,hb'⟩
  ·exact m.hi k k' h h1 t hb hb' ht ht'
  ·obtain ⟨l,hl⟩:=m.hk hb ht;rw [hb'] at ht';exact absurd ht' (hnew t _ hl (by simp))
  ·obtain ⟨l,hl⟩:=m.hk hb' ht';rw [hb] at ht;exact absurd ht (hnew t _ hl (by simp))
  ·rw [hk',hk1]
 ·intro k h t hh ht hc;rcases hlast k h hh with ⟨hk',hh⟩ | ⟨rfl,rfl⟩
  ·exact m.hg k h t hh ht hc
  ·exact hnew t _ (m.lg.tk hc) (by simp) ht
end
def ClQ (N:Nat) (O:List (Nat×AO)) (V:NetV) (f:AV) (r:Option (Rt×AH)):Prop:=
 ∃O' N' n',r=some (.val (.ptr n' 7 0 0),⟨O',N'⟩)/\NetW O' n' V f (fun j=>N<=j)/\Fw (fun _=>False) N O O' N'
section
variable {O:List (Nat×AO)} {n N g C:Nat} {V:NetV} {pv lv:AV} {H:List AV}
theorem qvc (m:NetM O n V (.func (.func g) [] []) C pv lv H) (hT:Tail O N) (s:NetS V) (hc:∀c∈V.cs,CfgC c) (hne:0<V.cs.length) (hd:∀x∈V.pk,x.data.length<=1000):
  ClQ N O V (.func (.func g) [] []) (qah Φ f_22 [.ptr n 7 0 0] ⟨O,N⟩):=by
 rw [qaz (fn:=c_22) rfl rfl];have hrow:=m.row;have hm:=fun O N=>qio (O:=O) (N:=N) (n:=n) (V:=V) (cv:= .row C 4 0 V.cs.length) (pv:=pv) (lv:=lv) (g:=g)
 have hao:=qwa m;rw [qcl] at hrow hm hao;have k0:=qfh V.ports V.links V.hosts s.p s.l s.h;have hT':∀k,look (N+k) O=none:=fun k=>hT (N+k) (by omega)
 have lt:=hT.lt hrow;have q1:∀k,¬N+k=n:=fun k=>by omega
 have q2:∀k,¬n=N+k:=fun k=>by omega
 have hC:=s.c;have hg:=s.g;have hO1:Tail (O++[(N+33,AO.res)]) (N+33+1):=(Fw.app (X:=fun _=>False) (Fw.init hT) (by omega) (by omega) (by omega)).tl;obtain ⟨w,O2,N2,e2,x2,f2,kp2,T2,l2⟩:=qe7 V.cs hc (by omega) hO1 (v:= .row C 4 0 V.cs.length) (by
  have:=m.cf;exact .row C _ _ _ (by simp) (by rw [qaf,this];rfl) (Qb _) (by rw [QAl]))
 have hx2:∃D,w= .row D 4 0 V.cs.length/\look D O2=some (.row 4 (V.cs.map Xf.c)):=by
  rcases x2 with ⟨hz,_⟩ | ⟨D,rfl,hD⟩
  ·rw [QBy] at hz;rw [hz] at hne;simp at hne
  ·exact ⟨D,by simp,hD⟩
 obtain ⟨D,rfl,hD⟩:=hx2;have hDN:=T2.lt hD;have hDn:=f2 D rfl;have v0:¬N+33=N2/\¬N2=N+33/\¬n=N2/\¬N2=n:=by omega
 obtain ⟨v1,v2,v3,v4⟩:=v0;have hO2:∀j y,look j O=some y->look j O2=some y:=by
  intro j y hj;have:=hT.lt hj;rw [kp2 j (by omega) (by simp),qaf,hj];rfl
 have hr2:=hO2 _ _ hrow;have u0:=T2 N2 (Qb _);have hres:look (N+33) O2=some .res:=by rw [kp2 (N+33) (by omega) (by simp),qaf,hT' 33];simp
 have hlv2:Ap O2 4 lv (V.log.map Event.c):=m.lg.fr fun t ht=>by
  have:=m.lg.tk ht;rw [hO2 _ _ this,this]
 have ec:=qmd (Ψ:=Φ) (f:=f_44) (z:=4) (bytes:=32) rfl (N:=N2) u0 hlv2 (al4 _) (by rw [QAi];omega);have hlen:lenOf pv=some V.pk.length:=by
  rcases m.pk with ⟨h,rfl⟩ | ⟨P,rfl,_⟩
  ·have:=qbr m.hl;rw [h] at this;simpa using this
  ·simp [qbr m.hl]
 simp [c_22,hm,hrow,hT',q1,q2,k0,e2,hr2,ec,hao,hres,u0,v1,v2,v3,v4,hlen,qaf,qad,qan,-lenOf];generalize hO3:qau (setl (N+33) _ (O2++[(N2,AO.tok 4 V.log.length)]))=O3;have hO3':∀j y,look j O=some y->y≠ .res->look j O3=some y:=by
  intro j y hj hy;have h1:=hO2 j y hj;have h2:=hT.lt hj;have h3:¬j=N+33:=by omega
  rw [<- hO3,qan (by simp [qad,qaf,h1,h3,hy])];simp [qad,qaf,h1,h3]
 have hkp:Kp (Rs O) N O O3:=by
  intro j hj hx;have h1:look j O2=look j O:=by
   rw [kp2 j (by omega) (by simp),qaf];have:¬N+33=j:=by omega
   simp [this]
  have h3:¬j=N+33:=by omega
  have h4:¬N2=j:=by omega
  rw [<- hO3,qan (by simp [qad,qaf,h1,h3,h4];exact hx)];simp [qad,qaf,h1,h3,h4]
 have hT3:Tail O3 (N2+1):=by rw [<- hO3];exact qfy (qa4 (T2.app1 (Qb _)))
 have m3:NetM O3 (N+33) { V with pk:=[] } (.func (.func g) [] []) D (.Xu 9 []) (.app 4 (V.log.map Event.c) N2) []:=by
  refine ⟨?_,?_,.inl ⟨rfl,rfl⟩,rfl,by simp,.inr ⟨N2,rfl,?_⟩,by simp,by simp⟩
  ·rw [<- hO3,qan (by simp [qad,qaf,hres])];simp [qad,qaf,hres,qcl]
  ·have h3:¬D=N+33:=by rintro rfl;rw [hres] at hD;cases hD
   rw [<- hO3,qan (by simp [qad,qaf,h3,hD])];simp [qad,qaf,h3,hD]
  ·rw [<- hO3,qan (by simp [qad,qaf,u0,v2])];simp [qad,qaf,u0,v2]
 have hown3:∀j,NetM.own (N+33) D (.Xu 9 []) (.app 4 (V.log.map Event.c) N2) [] j->N<=j:=by
  intro j hj;rcases hj with rfl | rfl | hj | hj | ⟨h,hh,_⟩
  ·omega
  ·omega
  ·cases hj
  ·simp only [tkn,Option.some.injEq] at hj;omega
  ·cases hh
 have hF3:Fw (fun _=>False) N O O3 (N2+1):=⟨hkp.mono fun _ _ h=> .inr h,hT3,by omega⟩;have hNq:N<=N+33:=by omega
 clear hrow hm hao q1 q2 hO1 hT' hres v1 v2 ec e2 hO2 hr2 hlv2 hkp kp2;clear hO3;generalize N+33=q at*;refine qgd V.pk.length (fun i e h=>∃O' N' pv' H',h=⟨O',N'⟩/\NetM O' (q) { V with pk:=V.pk.take i } (.func (.func g) [] []) D pv' (.app 4 (V.log.map Event.c) N2) H'/\(∀j,NetM.own (q) D pv' (.app 4 (V.log.map Event.c) N2) H' j->N<=j)/\Fw (fun _=>False) N O O' N'/\(∀j y,look j O=some y->y≠ .res->look j O'=some y)/\look 3 e=some (.ptr (q) 7 0 0)/\look 38 e=some pv/\look 39 e=some (.int .i64 V.pk.length)/\look 40 e=some (.int .i64 i)) (ClQ N O V (.func (.func g) [] [])) ?_ ?_ 0 _ _ (Qc _) ?_
 ·rintro i e _ L hi hL ⟨O',N',pv',H',rfl,m',ho',fw',hk',h3,h38,h39,h40⟩ ih;have hsk:=s.k;have hw:=qal i (by omega);have hiH:i<H.length:=by rw [m.hl];exact hi
  have hx:=Qa hi;have hh:=Qa hiH;obtain ⟨P,rfl,hP⟩:∃P,pv= .row P 9 0 V.pk.length/\look P O=some (.row 9 (pkN V.pk H)):=by
   rcases m.pk with ⟨h,_⟩ | ⟨P,h,hP⟩
   ·have:=qbr m.hl;rw [h] at this;simp at this;omega
   ·exact ⟨P,by rw [h,qbr m.hl],hP⟩
  have hP':=hk' P _ hP (by simp);have hiN:i<(pkN V.pk H).length:=by rw [qbr m.hl];exact hi
  have hat:(pkN V.pk H)[i]=PkN V.pk[i] H[i]:=by
   have:=qgf hx hh;rw [Qa hiN] at this;exact Option.some.inj this
  rw [PkN] at hat;have hap:=(m.hp i _ _ hx hh).fr (O':=O') fun t ht=>by
   have h1:=(m.hp i _ _ hx hh).tk ht;rw [hk' t _ h1 (by simp),h1]
  have hb:=hd _ (Qd hi);have hhp:=s.hp _ (Qd hi);have c1:=clBy V.pk[i].data (by omega);have t0:=fw'.tl N' (Qb _);have t1:=fw'.tl (N'+1) (by omega);have tM:∀k,look (N'+1+1+k) O'=none:=fun k=>fw'.tl (N'+1+1+k) (by omega)
  have c2:=fun y=>qmd (Ψ:=Φ) (f:=f_46) (z:=3) (bytes:=24) rfl (O:=O'++[(N',y)]) (N:=N'+1) (by rw [qaf,t1];simp) (hap.fr fun t ht=>by
   have h1:=hap.tk ht;rw [qaf,h1];rfl) (alH _) (by rw [QAi];omega)
  have hr':=m'.row;rw [qcl] at hr';have lt':=fw'.tl.lt hr';have ltP:=fw'.tl.lt hP';have r0:¬N'=q/\¬q=N'/\¬N'+1=q/\¬q=N'+1:=by omega
  obtain ⟨r1,r2,r3,r4⟩:=r0;have r5:∀k,¬N'+1+1+k=q:=fun k=>by omega
  have r6:∀k,¬q=N'+1+1+k:=fun k=>by omega
  have r7:∀k,(q == N'+1+1+k)=false:=fun k=>by simp;omega
  have r8:∀k,¬N'+1+1+k=N'/\¬N'=N'+1+1+k/\¬N'+1+1+k=N'+1/\¬N'+1=N'+1+1+k/\(N' == N'+1+1+k)=false/\(N'+1 == N'+1+1+k)=false:=fun k=>by simp;omega
  have p0:¬N'=P/\¬P=N':=by omega
  obtain ⟨p1,p2⟩:=p0;have hml:min i V.pk.length=i:=by omega
  have hl':=qbr m'.hl;simp [hml] at hl';have hNN:=fw'.le;have htk:V.pk.take (i+1)=V.pk.take i++[V.pk[i]]:=Qh hi;have hfw:∀a b c d e,Fw (fun _=>False) N O (qau (setl (q) e (O'++[(N',a),(N'+1,b),(N'+1+1+59,c),(N'+1+1+60,d)]))) (N'+1+1+60+1):=fun a b c d e=>by
   refine Fw.sweep (Fw.set (Fw.appL (N2:=N'+1+1+60+1) fw' ?_ (by omega)) (.inr (by omega)));intro p hp;simp at hp;rcases hp with rfl | rfl | rfl | rfl<;>refine ⟨?_,?_⟩<;>simp only<;>omega
  rcases m'.pk with ⟨hz,rfl⟩ | ⟨S,rfl,hS⟩
  ·have hi0:i=0:=by rw [hz] at hl';simpa using hl'.symm
   subst hi0;have hz':pkN [] H'=[]:=by simpa using hz
   simp [c_22_l0,h3,h38,h39,h40,hi,hP',hiN,hat,c1,c2,t0,t1,tM,hr',r1,r2,r3,r4,r5,r6,r7,r8,p1,p2,hw,qaf,qad,qan];refine ih _ _ ⟨_,_,.row (N'+1+1+60) 9 0 1,H'++[.app 3 (V.pk[0].hops.map Hop.c) (N'+1)],rfl,?_,?_,hfw _ _ _ _ _,?_,?_,?_,?_,?_⟩
   ·rw [htk];refine m'.pushG (x:=V.pk[0]) ?_ (.inr ⟨N'+1+1+60,?_,?_⟩) (.inr ⟨N'+1,rfl,?_⟩) ?_ ?_
    ·simp [qan,qad,qaf,hr',qcl]
    ·simp [hz']
    ·simp [hz',qan,qad,qaf,tM,r5,r8,PkN]
    ·simp [qan,qad,qaf,t1,r3,r8]
    ·intro t ht;simp only [tkn,Option.some.injEq] at ht;subst ht;exact .inl t1
    ·intro j y hj hy h1 _;simp [qan,qad,qaf,hj,h1,hy]
   ·intro j hj;rcases hj with hj | hj | hj | hj | ⟨h,hh2,hj⟩
    ·exact ho' j (.inl hj)
    ·exact ho' j (.inr (.inl hj))
    ·simp only [vid,Option.some.injEq] at hj;omega
    ·exact ho' j (.inr (.inr (.inr (.inl hj))))
    ·rcases QAd.1 hh2 with hh2 | hh2
     ·exact ho' j (.inr (.inr (.inr (.inr ⟨h,hh2,hj⟩))))
     ·simp at hh2;subst hh2;simp only [tkn,Option.some.injEq] at hj;omega
   ·intro j y hj hy;have h1:=hk' j y hj hy;have h2:=hT.lt hj;have h3:¬j=q:=by omega
    simp [qan,qad,qaf,h1,h3,hy]
   all_goals simp [h3,h38,h39,wr1]
  ·have hSN:=fw'.tl.lt hS;have hS33:S≠q:=qas hS hr' (by simp);have hSn:N<=S:=ho' S (.inr (.inr (.inl rfl)));have s1:∀k,¬N'+1+1+k=S:=fun k=>by omega
   have s2:∀k,¬S=N'+1+1+k:=fun k=>by omega
   have s3:∀k,(S == N'+1+1+k)=false:=fun k=>by simp;omega
   have s0:¬N'=S/\¬S=N'/\¬N'+1=S/\¬S=N'+1:=by omega
   obtain ⟨s4,s5,s6,s7⟩:=s0;have s8:¬q=S:=hS33.symm;have s9:(q == S)=false/\(S == q)=false/\(N' == S)=false/\(N'+1 == S)=false/\(S == N')=false:=by simp;omega
   obtain ⟨s10,s11,s12,s13,s14⟩:=s9;have hb2:(i+1)*136<=70368744177664:=by omega
   have hal:qa7 9 (pkN (V.pk.take i) H')=true:=qvh;have hd1:∀a b c,look (N'+1+1+60) (qay S (O'++[(N',a),(N'+1,b),(N'+1+1+59,c),(N'+1+1+60,.res)]))=some .res:=fun a b c=>by
    rw [qbd (s1 60)];simp [qaf,tM,r8]
   have hfw2:∀a b c d e f,Fw (fun _=>False) N O (qau (setl (q) e (setl (N'+1+1+60) f (qay S (O'++[(N',a),(N'+1,b),(N'+1+1+59,c),(N'+1+1+60,d)]))))) (N'+1+1+60+1):=fun a b c d e f=>by
    refine Fw.sweep (Fw.set (Fw.set (Fw.drop (Fw.appL (N2:=N'+1+1+60+1) fw' ?_ (by omega)) (.inr hSn)) (.inr (by omega))) (.inr (by omega)));intro p hp;simp at hp;rcases hp with rfl | rfl | rfl | rfl<;>refine ⟨?_,?_⟩<;>simp only<;>omega
   simp [c_22_l0,h3,h38,h39,h40,hi,hP',hiN,hat,c1,c2,t0,t1,tM,hr',hl',hS,hal,hb2,hd1,r1,r2,r3,r4,r5,r6,r7,r8,p1,p2,s1,s2,s3,s4,s5,s6,s7,hS33,s8,s10,s11,s12,s13,s14,hw,qaf,qad,qan,qbd];refine ih _ _ ⟨_,_,.row (N'+1+1+60) 9 0 (i+1),H'++[.app 3 (V.pk[i].hops.map Hop.c) (N'+1)],rfl,?_,?_,hfw2 _ _ _ _ _ _,?_,?_,?_,?_,?_⟩
   ·rw [htk];refine m'.pushG (x:=V.pk[i]) ?_ (.inr ⟨N'+1+1+60,?_,?_⟩) (.inr ⟨N'+1,rfl,?_⟩) ?_ ?_
    ·simp [qan,qad,qbd,s8,r6,qaf,hr',qcl]
    ·simp [hl']
    ·simp [qan,qad,hd1,r5,PkN]
    ·simp [qan,qad,qbd,s6,qaf,t1,r3,r8]
    ·intro t ht;simp only [tkn,Option.some.injEq] at ht;subst ht;exact .inl t1
    ·intro j y hj hy h1 h2;have h5:¬j=S:=fun e=>h2 (by rw [e];rfl)
     have h6:=fw'.tl.lt hj;have h7:¬j=N'+1+1+60:=by omega
     simp [qan,qad,qbd h5,qaf,hj,h1,h7,hy]
   ·intro j hj;rcases hj with hj | hj | hj | hj | ⟨h,hh2,hj⟩
    ·exact ho' j (.inl hj)
    ·exact ho' j (.inr (.inl hj))
    ·simp only [vid,Option.some.injEq] at hj;omega
    ·exact ho' j (.inr (.inr (.inr (.inl hj))))
    ·rcases QAd.1 hh2 with hh2 | hh2
     ·exact ho' j (.inr (.inr (.inr (.inr ⟨h,hh2,hj⟩))))
     ·simp at hh2;subst hh2;simp only [tkn,Option.some.injEq] at hj;omega
   ·intro j y hj hy;have h1:=hk' j y hj hy;have h2:=hT.lt hj;have h3:¬j=q:=by omega
    have h5:¬j=S:=by omega
    have h7:¬j=N'+1+1+60:=by omega
    simp [qan,qad,qbd h5,qaf,h1,h3,h7,hy]
   all_goals simp [h3,h38,h39,hw]
 ·rintro e _ L hL ⟨O',N',pv',H',rfl,m',ho',fw',hk',h3,h38,h39,h40⟩;rw [QAl] at m';simp [c_22_l0,c_22_k1,h3,h39,h40,hL];exact ⟨_,_,_,rfl,⟨D,pv',_,H',m',ho'⟩,fw'⟩
 ·exact ⟨O3,N2+1,_,[],rfl,m3,hown3,hF3,hO3',by simp,by simp,by simp,by simp⟩
end
def actV (U:NetV->Act->NetV×Int) (P:Xf->Int->List Int->Rslt×Xf) (V:NetV) (a:Act):NetV×Int×Event×Int:=
 if a.dd=0 then ((qd8 V a.a a.data).1,(qd8 V a.a a.data).2.1,ev0,(qd8 V a.a a.data).2.2)
 else if a.dd=1 then ((stpV P V a.a).1,0,(stpV P V a.a).2.1,(stpV P V a.a).2.2)
 else if a.dd=2 then ((U V a).1,0,ev0,(U V a).2)
 else if a.dd=3 then ((qd6 V a.a (decide (a.b=1))).1,0,ev0,(qd6 V a.a (decide (a.b=1))).2)
 else (V,0,ev0,0)
def AP (X:Nat->Prop) (N:Nat) (O:List (Nat×AO)) (f:AV) (q:NetV×Int×Event×Int) (r:Option (Rt×AH)):Prop:=
 ∃O' N' n',r=some (.val (.tup [.ptr n' 7 0 0,.int .i64 q.2.1,.agg (Event.c q.2.2.1),.int .i64 q.2.2.2]),⟨O',N'⟩)/\NetW O' n' q.1 f (fun j=>X j\/N<=j)/\Fw X N O O' N'
theorem NetM.lt {O:List (Nat×AO)} {n N C:Nat} {V:NetV} {f pv lv:AV} {H:List AV} (m:NetM O n V f C pv lv H) (hT:Tail O N) {j:Nat} (hj:NetM.own n C pv lv H j):j<N:=by
 obtain ⟨y,hy,_⟩:=m.nr hj;exact hT.lt hy
theorem NP.use {X:Nat->Prop} {N n C:Nat} {O:List (Nat×AO)} {V V':NetV} {f pv lv v:AV} {H:List AV} {r:Option (Rt×AH)} {y:AO} (m:NetM O n V f C pv lv H) (hX:∀j,NetM.own n C pv lv H j->X j) (hT:Tail O N) (hy:y≠ .res) (h:NP (NetM.own n C pv lv H) (N+1) (O++[(N,y)]) n f V' v r):
  ∃O' N',r=some (.val v,⟨O',N'⟩)/\look N O'=some y/\(∀z,NetW (setl N z O') n V' f (fun j=>X j\/N<=j)/\Fw X N O (setl N z O') N')/\NetW O' n V' f (fun j=>X j\/N<=j)/\Fw X N O O' N':=by
 obtain ⟨O',N',e,⟨C',pv',lv',H',m',ho⟩,fw⟩:=h;have hN:look N (O++[(N,y)])=some y:=by rw [qaf,hT N (Qb _)];simp
 have hN':look N O'=some y:=by
  rw [fw.kp N (QBa _) ?_,hN];rintro (h | h)
  ·have:=m.lt hT h;omega
  ·unfold Rs at h;rw [hN] at h;cases h;exact hy rfl
 have hoN:∀j,NetM.own n C' pv' lv' H' j->j≠N:=by
  intro j hj;rcases ho j hj with h | h
  ·have:=m.lt hT h;omega
  ·omega
 have f0:Fw X N O O' N':=by
  refine Fw.then ((Fw.init hT).app (y:=y) (Qb _) (QBa _) (QBj _)) fw.kp (fun j hj hx=>?_) fw.tl fw.le;rcases hx with h | h
  ·exact .inl (hX j h)
  ·exact .inr h
 have hw:∀j,NetM.own n C' pv' lv' H' j->X j\/N<=j:=by
  intro j hj;rcases ho j hj with h | h
  ·exact .inl (hX j h)
  ·right;omega
 exact ⟨O',N',e,hN',fun z=>⟨⟨C',pv',lv',H',m'.fr fun j hj=>by rw [qad,QA (hoN j hj)],hw⟩,f0.set (.inr (Qb _))⟩,⟨C',pv',lv',H',m',hw⟩,f0⟩
section
variable {O:List (Nat×AO)} {n N g C:Nat} {V:NetV} {pv lv:AV} {H:List AV} {X:Nat->Prop} {G:Xf->Prop} {P:Xf->Int->List Int->Rslt×Xf} {U:NetV->Act->NetV×Int}
theorem qaaw (hP:PrcOk g G P) (I:NetI G V) (m:NetM O n V (.func (.func g) [] []) C pv lv H) (hX:∀j,NetM.own n C pv lv H j->X j) (hT:Tail O N) (a:Act) (hd:a.data.length<=1000)
  (hU:a.dd=2->∀y,y≠ .res->NP (NetM.own n C pv lv H) (N+1) (O++[(N,y)]) n (.func (.func g) [] []) (U V a).1 (.int .i64 (U V a).2) (qah Φ f_41 [.ptr n 7 0 0,.int .i64 a.a,.int .i64 a.b,.agg [.int .i64 a.upd.switch,.slice 9 (a.upd.ops.map Xc.c)]] ⟨O++[(N,y)],N+1⟩)):
  AP X N O (.func (.func g) [] []) (actV U P V a) (qah Φ f_14 [.ptr n 7 0 0,.agg a.c] ⟨O,N⟩):=by
 rw [qaz (fn:=c_14) rfl rfl];have t0:=hT N (Qb _);have hT1:Tail (O++[(N,zEv)]) (N+1):=hT.app1 (Qb _);have m1:NetM (O++[(N,zEv)]) n V (.func (.func g) [] []) C pv lv H:=m.mn Mn.app;have hz:zEv= .row 4 [[.int .i64 0,.int .i64 0,.int .i64 0,.int .i64 0]]:=rfl;unfold actV;by_cases d0:a.dd=0
 ·obtain ⟨O',N',e,hN,hw,-,-⟩:=NP.use m hX hT (by simp [zEv]) (qwv m1 (fun j h=>h) hT1 I.s a.a a.data (by omega));rw [hz] at e hN;simp [c_14,Act.c,d0,e,t0,qaf,qad,hN];exact ⟨_,_,_,rfl,(hw _).1,(hw _).2⟩
 by_cases d1:a.dd=1
 ·obtain ⟨O',N',e,hN,hw,-,hf⟩:=NP.use m hX hT (by simp [zEv]) (qww hP { I with } m1 (fun j h=>h) hT1 a.a);rw [hz] at e hN;rw [Event.ce] at e;have u0:=hf.tl N' (Qb _);have hlt:=hf.tl.lt hN;have q0:¬N'=N/\¬N=N':=by omega
  obtain ⟨q1,q2⟩:=q0;simp [c_14,Act.c,d1,e,t0,u0,q1,q2,qaf,qad,hN];exact ⟨_,_,_,rfl,(hw _).1,(hw _).2.up (QBj _)⟩
 by_cases d2:a.dd=2
 ·obtain ⟨O',N',e,hN,hw,-,-⟩:=NP.use m hX hT (by simp [zEv]) (hU d2 zEv (by simp [zEv]));rw [hz] at e hN;simp [c_14,Act.c,d2,e,t0,qaf,qad,hN];exact ⟨_,_,_,rfl,(hw _).1,(hw _).2⟩
 by_cases d3:a.dd=3
 ·obtain ⟨O',N',e,hN,hw,-,-⟩:=NP.use m hX hT (by simp [zEv]) (qrq m1 (fun j h=>h) hT1 I.s a.a (decide (a.b=1)));rw [hz] at e hN;simp [c_14,Act.c,d3,e,t0,qaf,qad,hN];exact ⟨_,_,_,rfl,(hw _).1,(hw _).2⟩
 obtain ⟨O',N',n',e,⟨C',pv',lv',H',m',ho⟩,fw⟩:=qvc m1 hT1 I.s (fun c hc=>hP.cc c (I.cg c hc)) (by rw [I.cl];exact (qjh I.top).1) (fun x hx=>(I.pk x hx).2.1);have hN1:look N (O++[(N,zEv)])=some zEv:=by rw [qaf,t0];simp
 have hN:look N O'=some zEv:=by
  rw [fw.kp N (QBa _) ?_,hN1];rintro (h | h)
  ·exact h
  ·unfold Rs at h;rw [hN1] at h;cases h
 rw [hz] at e hN;simp [c_14,Act.c,d0,d1,d2,d3,e,t0,qaf,qad,hN];refine ⟨_,_,_,rfl,⟨C',pv',lv',H',m'.fr fun j hj=>?_,fun j hj=> .inr (by have:=ho j hj;omega)⟩,Fw.set (Fw.then ((Fw.init hT).app (y:=zEv) (Qb _) (QBa _) (QBj _)) fw.kp (fun j _ hx=>?_) fw.tl fw.le) (.inr (Qb _))⟩
 ·have:=ho j hj;rw [qad,QA (by omega)]
 ·rcases hx with h | h
  ·exact h.elim
  ·exact .inr h
end
end Go.Av
