/-
 network.cloneConfig: the same configuration.
-/
import Derived.Test.YtknmfocedphgmaaGreatH12
set_option linter.unusedVariables false
set_option linter.unusedSimpArgs false
set_option linter.constructorNameAsVariable false
namespace Go.Av
set_option maxRecDepth 8000
structure CfgC (c:Xf):Prop where
 rl:c.rows.length<2^40
 rs:∀l∈c.rows,l.length<2^39/\∀r∈l,r.entry.keys.length<2^40/\r.entry.call.args.length<2^40
 nl:c.Xr.length<2^40
 dl:c.Xq.length<2^40
 ds:∀d∈c.Xq,d.args.length<2^40
 gl:c.Xm.length<2^40
 gs:∀l∈c.Xm,l.length<2^40
section
variable {β:Type} {fin:Option (Ex×St)->Option β}
theorem YZ (l:List Rw) (hs:∀r∈l,r.entry.keys.length<2^40/\r.entry.call.args.length<2^40) (hl:l.length<2^39) (K:List Fr) (Q:Option β->Prop) (e:Env) (O:List (Nat×AO)) (N T:Nat) (hT:Tail O N) (h0:look T O=some (.tok 5 0))
  (h6:look 6 e=some (.app 5 [] T)) (h24:look 24 e=some (.slice 5 (l.map Rw.c))) (h25:look 25 e=some (a8 l.length)) (h26:look 26 e=some (a8 0))
  (hK:∀e' O' N',Kp (fun j=>j=T) N O O'->Tail O' N'->N<=N'->look 6 e'=some (.app 5 (l.map Rw.c) T)->look T O'=some (.tok 5 l.length)->
   look 1 e'=look 1 e->look 2 e'=look 2 e->look 3 e'=look 3 e->look 18 e'=look 18 e->look 19 e'=look 19 e->look 20 e'=look 20 e->Q (go Φ fin K .normal ⟨e',⟨O',N'⟩⟩)):
  Q (go Φ fin (.c (.loop c_65_l0):: .b 2::K) .normal ⟨e,⟨O,N⟩⟩):=by
 have hTN:=hT.lt h0;refine fF l.length (fun i e' h=>∃O' N',h=⟨O',N'⟩/\Kp (fun j=>j=T) N O O'/\Tail O' N'/\N<=N'/\look 6 e'=some (.app 5 ((l.take i).map Rw.c) T)/\look T O'=some (.tok 5 i)/\look 24 e'=some (.slice 5 (l.map Rw.c))/\look 25 e'=some (a8 l.length)/\look 26 e'=some (a8 i)/\
   look 1 e'=look 1 e/\look 2 e'=look 2 e/\look 3 e'=look 3 e/\look 18 e'=look 18 e/\look 19 e'=look 19 e/\look 20 e'=look 20 e) Q ?_ ?_ 0 _ _ (Qc _) ?_
 ·rintro i e' _ L hi hL ⟨O',N',rfl,hk,hT',hN,h6,hlk,h24,h25,h26,g1,g2,g3,g18,g19,g20⟩ ih;have hw1:=aL i (by omega);have t0:=hT' N' (Qb _);have hTl:=hT'.lt hlk;have q1:¬N'=T:=by omega
  have q2:¬T=N':=by omega
  have hr:=hs _ (Qd hi);have c1:=Qz l[i].entry.keys hr.1;have c2:=L6 l[i].entry.call.args hr.2;have hm:min i l.length=i:=by omega
  have hb:(i+1)*72<=70368744177664:=by omega
  have htk:(l.map Rw.c).take (i+1)=(l.map Rw.c).take i++[Rw.c l[i]]:=mJ hi;rw [Rw.c] at htk;simp [c_65_l0,Rw.c,h6,h24,h25,h26,hi,hlk,t0,q1,q2,c1,c2,hm,hb,hw1,aC,aB];refine ih _ _ ⟨_,N'+1,rfl,Kp.setl (Kp.app hk (by omega)) (.inr rfl),bV (hT'.app1 (Qb _)),by omega,?_,?_,?_,?_,?_,?_,?_,?_,?_,?_,?_⟩<;>simp [htk,h6,h24,h25,g1,g2,g3,g18,g19,g20,aB,aC,hlk]
 ·rintro e' _ L hL ⟨O',N',rfl,hk,hT',hN,h6,hlk,h24,h25,h26,g1,g2,g3,g18,g19,g20⟩;rw [iI] at h6;simp [c_65_l0,h25,h26,hL];refine hK _ O' N' hk hT' hN ?_ hlk ?_ ?_ ?_ ?_ ?_ ?_<;>simp [h6,g1,g2,g3,g18,g19,g20]
 ·exact ⟨O,N,rfl,fun _ _ _=>rfl,hT,Qb _,by simpa using h6,h0,h24,h25,h26,rfl,rfl,rfl,rfl,rfl,rfl⟩
theorem Z0 (R:List (List Rw)) (hR:R.length<2^40) (hs:∀l∈R,l.length<2^39/\∀r∈l,r.entry.keys.length<2^40/\r.entry.call.args.length<2^40) (nx:AV) (K:List Fr) (Q:Option β->Prop) (e:Env) (O:List (Nat×AO)) (N b:Nat) (hT:Tail O N)
  (hb:look b O=some (.row 4 [[.Xu 1 [],nx,.Xu 2 [],.Xu 1 []]])) (h3:look 3 e=some (.ptr b 4 0 0)) (h18:look 18 e=some (.slice 1 (R.map (cS 5 Rw.c)))) (h19:look 19 e=some (a8 R.length)) (h20:look 20 e=some (a8 0))
  (hK:∀e' O' N' v,Kp (fun j=>j=b) N O O'->Tail O' N'->N<=N'->Ap O' 1 v (R.map (cS 5 Rw.c))->(∀t,tkn v=some t->N<=t)->look b O'=some (.row 4 [[v,nx,.Xu 2 [],.Xu 1 []]])->
   look 1 e'=look 1 e->look 2 e'=look 2 e->look 3 e'=look 3 e->Q (go Φ fin K .normal ⟨e',⟨O',N'⟩⟩)):
  Q (go Φ fin (.c (.loop c_65_l3):: .b 0::K) .normal ⟨e,⟨O,N⟩⟩):=by
 have hbN:=hT.lt hb;refine fF R.length (fun i e' h=>∃O' N' v,h=⟨O',N'⟩/\Kp (fun j=>j=b) N O O'/\Tail O' N'/\N<=N'/\Ap O' 1 v ((R.take i).map (cS 5 Rw.c))/\(∀t,tkn v=some t->N<=t)/\look b O'=some (.row 4 [[v,nx,.Xu 2 [],.Xu 1 []]])/\look 3 e'=some (.ptr b 4 0 0)/\look 18 e'=some (.slice 1 (R.map (cS 5 Rw.c)))/\look 19 e'=some (a8 R.length)/\look 20 e'=some (a8 i)/\
   look 1 e'=look 1 e/\look 2 e'=look 2 e) Q ?_ ?_ 0 _ _ (Qc _) ?_
 ·rintro i e' _ L hi hL ⟨O',N',v,rfl,hk,hT',hN,hv,hvt,hb',h3,h18,h19,h20,g1,g2⟩ ih;have hw1:=aL i (by omega);have t0:=hT' N' (Qb _);have hri:=hs _ (Qd hi);have hm:min i R.length=i:=by omega
  have hc:(i+1)*24<=70368744177664:=by omega
  have htk:(R.map (cS 5 Rw.c)).take (i+1)=(R.map (cS 5 Rw.c)).take i++[[.slice 5 (R[i].map Rw.c)]]:=mJ hi;simp [c_65_l3,h18,h19,h20,hi,t0,cS];refine YZ R[i] hri.2 hri.1 _ _ _ _ _ N' (hT'.app1 (Qb _)) (by simp [aC,t0]) (by simp) (by simp) (by simp) (by simp) ?_;intro e2 O2 N2 hk2 hT2 hN2 h6 hl2 f1 f2 f3 f18 f19 f20;simp [h3,h18,h19,h20] at f1 f2 f3 f18 f19 f20;have hO2:∀j y,look j O'=some y->look j O2=some y:=by
   intro j y hj;have:=hT'.lt hj;rw [hk2 j (by omega) (by omega),aC,hj];rfl
  have hb2:=hO2 _ _ hb';have u0:=hT2 N2 (Qb _);have hbN2:b<N2:=by omega
  have q1:¬N2=b:=by omega
  have q2:¬b=N2:=by omega
  have hkk:Kp (fun j=>j=b) N O O2:=by
   intro j hj hx;rw [hk2 j (by omega) (by omega),aC,hk j hj hx];have:¬N'=j:=by omega
   simp [this]
  rcases hv with ⟨hz,rfl⟩ | ⟨t,rfl,ht⟩
  ·have hi0:i=0:=by
    have:=congrArg List.length hz;rw [cT,qH,w8] at this;omega
   subst hi0;simp [c_65_k1,c_65_k2,f3,h6,f20,u0,aC,aB,hb2,q1,q2,wr1];refine ih _ _ ⟨_,N2+1,.app 1 [[.slice 5 (R[0].map Rw.c)]] N2,rfl,Kp.setl (Kp.app hkk (by omega)) (.inr rfl),bV (hT2.app1 (Qb _)),by omega,.inr ⟨N2,?_,?_⟩,fun t ht=>by simp only [tkn,Option.some.injEq] at ht;omega,?_,?_,?_,?_,?_,?_,?_⟩<;>simp [htk,f1,f2,f3,f18,f19,aB,aC,u0,q1,q2,hb2,cS,g1,g2]
   all_goals simp [Nat.min_eq_left (show 1<=R.length by omega)]
  ·have ht2:=hO2 _ _ ht;have n1:=aP ht2 hb2 (by simp);have n2:=n1.symm;simp [hm] at ht2;simp [c_65_k1,c_65_k2,f3,h6,f20,u0,aC,aB,hb2,q1,q2,n1,n2,ht2,hm,hc,hw1];refine ih _ _ ⟨_,N2,.app 1 ((R.map (cS 5 Rw.c)).take i++[[.slice 5 (R[i].map Rw.c)]]) t,rfl,Kp.setl (Kp.setl hkk (.inl (hvt t rfl))) (.inr rfl),bV (bV hT2),by omega,.inr ⟨t,?_,?_⟩,hvt,?_,?_,?_,?_,?_,?_,?_⟩
   all_goals simp [htk,f1,f2,f3,f18,f19,aB,aC,n1,n2,ht2,hb2,g1,g2,hm]
 ·rintro e' _ L hL ⟨O',N',v,rfl,hk,hT',hN,hv,hvt,hb',h3,h18,h19,h20,g1,g2⟩;rw [iI] at hv;simp [c_65_l3,h19,h20,hL];refine hK _ O' N' v hk hT' hN hv hvt hb' ?_ ?_ ?_<;>simp [g1,g2,h3, *]
 ·exact ⟨O,N,_,rfl,fun _ _ _=>rfl,hT,Qb _,.inl ⟨by simp,rfl⟩,(fun t ht=>by cases ht),hb,h3,h18,h19,h20,rfl,rfl⟩
end
section
variable {β:Type} {fin:Option (Ex×St)->Option β}
theorem Ay (D:List Xb) (hD:D.length<2^40) (hs:∀d∈D,d.args.length<2^40) (a nx:AV) (K:List Fr) (Q:Option β->Prop) (e:Env) (O:List (Nat×AO)) (N b:Nat) (hT:Tail O N)
  (hb:look b O=some (.row 4 [[a,nx,.Xu 2 [],.Xu 1 []]])) (h3:look 3 e=some (.ptr b 4 0 0)) (h57:look 57 e=some (.slice 2 (D.map Xb.c))) (h58:look 58 e=some (a8 D.length)) (h59:look 59 e=some (a8 0))
  (hK:∀e' O' N' v,Kp (fun j=>j=b) N O O'->Tail O' N'->N<=N'->Ap O' 2 v (D.map Xb.c)->(∀t,tkn v=some t->N<=t)->look b O'=some (.row 4 [[a,nx,v,.Xu 1 []]])->
   look 1 e'=look 1 e->look 2 e'=look 2 e->look 3 e'=look 3 e->Q (go Φ fin K .normal ⟨e',⟨O',N'⟩⟩)):
  Q (go Φ fin (.c (.loop c_65_l4):: .b 4::K) .normal ⟨e,⟨O,N⟩⟩):=by
 have hbN:=hT.lt hb;refine fF D.length (fun i e' h=>∃O' N' v,h=⟨O',N'⟩/\Kp (fun j=>j=b) N O O'/\Tail O' N'/\N<=N'/\Ap O' 2 v ((D.take i).map Xb.c)/\(∀t,tkn v=some t->N<=t)/\look b O'=some (.row 4 [[a,nx,v,.Xu 1 []]])/\look 3 e'=some (.ptr b 4 0 0)/\look 57 e'=some (.slice 2 (D.map Xb.c))/\look 58 e'=some (a8 D.length)/\look 59 e'=some (a8 i)/\
   look 1 e'=look 1 e/\look 2 e'=look 2 e) Q ?_ ?_ 0 _ _ (Qc _) ?_
 ·rintro i e' _ L hi hL ⟨O',N',v,rfl,hk,hT',hN,hv,hvt,hb',h3,h57,h58,h59,g1,g2⟩ ih;have hw1:=aL i (by omega);have t0:=hT' N' (Qb _);have t1:=hT' (N'+1) (by omega);have hd:=hs _ (Qd hi);have c1:=L6 D[i].args hd;have hm:min i D.length=i:=by omega
  have hc:(i+1)*32<=70368744177664:=by omega
  have htk:(D.map Xb.c).take (i+1)=(D.map Xb.c).take i++[Xb.c D[i]]:=mJ hi;have hbN2:b<N':=by omega
  have q0:¬N'=b/\¬b=N'/\¬N'+1=b/\¬b=N'+1:=by omega
  obtain ⟨q1,q2,q3,q4⟩:=q0;rw [Xb.c] at htk;rcases hv with ⟨hz,rfl⟩ | ⟨t,rfl,ht⟩
  ·have hi0:i=0:=by
    have:=congrArg List.length hz;rw [cT,qH,w8] at this;omega
   subst hi0;simp [c_65_l4,Xb.c,h3,h57,h58,h59,hi,t0,t1,c1,aC,aB,hb',q1,q2,q3,q4,wr1];refine ih _ _ ⟨_,N'+1+1,.app 2 [Xb.c D[0]] (N'+1),rfl,?_,?_,by omega,.inr ⟨N'+1,?_,?_⟩,(fun t ht=>by simp only [tkn,Option.some.injEq] at ht;omega),?_,?_,?_,?_,?_,?_,?_⟩
   all_goals first
    | (simp [Xb.c,htk,h3,h57,h58,aB,aC,t0,t1,q1,q2,q3,q4,hb',g1,g2];done)
    | skip
   ·exact Kp.setl (Kp.appL hk (by simp;omega)) (.inr rfl)
   ·exact bV (by simp [Tail_append_iff,Tail_cons_iff,pS];exact ⟨hT'.mono (by omega),by omega⟩)
  ·have n1:=aP ht hb' (by simp);have n2:=n1.symm;have htN:=hT'.lt ht;have r0:¬N'=t/\¬t=N':=by omega
   obtain ⟨r1,r2⟩:=r0;simp [hm] at ht;simp [c_65_l4,Xb.c,h3,h57,h58,h59,hi,t0,t1,c1,aC,aB,hb',q1,q2,q3,q4,r1,r2,n1,n2,ht,hm,hc,hw1];refine ih _ _ ⟨_,N'+1,.app 2 ((D.map Xb.c).take i++[Xb.c D[i]]) t,rfl,?_,?_,by omega,.inr ⟨t,?_,?_⟩,hvt,?_,?_,?_,?_,?_,?_,?_⟩
   all_goals first
    | (simp [Xb.c,htk,h3,h57,h58,aB,aC,t0,t1,q1,q2,q3,q4,r1,r2,n1,n2,ht,hm,hb',g1,g2];done)
    | skip
   ·exact Kp.setl (Kp.setl (Kp.app hk (by omega)) (.inl (hvt t rfl))) (.inr rfl)
   ·exact bV (bV (hT'.app1 (Qb _)))
 ·rintro e' _ L hL ⟨O',N',v,rfl,hk,hT',hN,hv,hvt,hb',h3,h57,h58,h59,g1,g2⟩;rw [iI] at hv;simp [c_65_l4,h58,h59,hL];refine hK _ O' N' v hk hT' hN hv hvt hb' ?_ ?_ ?_<;>simp [g1,g2,h3, *]
 ·exact ⟨O,N,_,rfl,fun _ _ _=>rfl,hT,Qb _,.inl ⟨by simp,rfl⟩,(fun t ht=>by cases ht),hb,h3,h57,h58,h59,rfl,rfl⟩
theorem Az (D:List (List Int)) (hD:D.length<2^40) (hs:∀d∈D,d.length<2^40) (a nx d:AV) (K:List Fr) (Q:Option β->Prop) (e:Env) (O:List (Nat×AO)) (N b:Nat) (hT:Tail O N)
  (hb:look b O=some (.row 4 [[a,nx,d,.Xu 1 []]])) (h3:look 3 e=some (.ptr b 4 0 0)) (h75:look 75 e=some (.slice 1 (D.map (cS 1 c32)))) (h76:look 76 e=some (a8 D.length)) (h77:look 77 e=some (a8 0))
  (hK:∀e' O' N' v,Kp (fun j=>j=b) N O O'->Tail O' N'->N<=N'->Ap O' 1 v (D.map (cS 1 c32))->(∀t,tkn v=some t->N<=t)->look b O'=some (.row 4 [[a,nx,d,v]])->
   look 1 e'=look 1 e->look 2 e'=look 2 e->look 3 e'=look 3 e->Q (go Φ fin K .normal ⟨e',⟨O',N'⟩⟩)):
  Q (go Φ fin (.c (.loop c_65_l5):: .b 6::K) .normal ⟨e,⟨O,N⟩⟩):=by
 have hbN:=hT.lt hb;refine fF D.length (fun i e' h=>∃O' N' v,h=⟨O',N'⟩/\Kp (fun j=>j=b) N O O'/\Tail O' N'/\N<=N'/\Ap O' 1 v ((D.take i).map (cS 1 c32))/\(∀t,tkn v=some t->N<=t)/\look b O'=some (.row 4 [[a,nx,d,v]])/\look 3 e'=some (.ptr b 4 0 0)/\look 75 e'=some (.slice 1 (D.map (cS 1 c32)))/\look 76 e'=some (a8 D.length)/\look 77 e'=some (a8 i)/\
   look 1 e'=look 1 e/\look 2 e'=look 2 e) Q ?_ ?_ 0 _ _ (Qc _) ?_
 ·rintro i e' _ L hi hL ⟨O',N',v,rfl,hk,hT',hN,hv,hvt,hb',h3,h75,h76,h77,g1,g2⟩ ih;have hw1:=aL i (by omega);have t0:=hT' N' (Qb _);have hd:=hs _ (Qd hi);have c1:=L6 D[i] hd;have hm:min i D.length=i:=by omega
  have hc:(i+1)*24<=70368744177664:=by omega
  have htk:(D.map (cS 1 c32)).take (i+1)=(D.map (cS 1 c32)).take i++[[.slice 1 (D[i].map c32)]]:=mJ hi;have hbN2:b<N':=by omega
  have q0:¬N'=b/\¬b=N':=by omega
  obtain ⟨q1,q2⟩:=q0;rcases hv with ⟨hz,rfl⟩ | ⟨t,rfl,ht⟩
  ·have hi0:i=0:=by
    have:=congrArg List.length hz;rw [cT,qH,w8] at this;omega
   subst hi0;simp [c_65_l5,cS,h3,h75,h76,h77,hi,t0,c1,aC,aB,hb',q1,q2,wr1];refine ih _ _ ⟨_,N'+1,.app 1 [[.slice 1 (D[0].map c32)]] N',rfl,Kp.setl (Kp.app hk (by omega)) (.inr rfl),bV (hT'.app1 (Qb _)),by omega,.inr ⟨N',?_,?_⟩,(fun t ht=>by simp only [tkn,Option.some.injEq] at ht;omega),?_,?_,?_,?_,?_,?_,?_⟩
   all_goals simp [cS,htk,h3,h75,h76,aB,aC,t0,q1,q2,hb',g1,g2]
   all_goals simp [Nat.min_eq_left (show 1<=D.length by omega)]
  ·have n1:=aP ht hb' (by simp);have n2:=n1.symm;simp [hm] at ht;simp [c_65_l5,cS,h3,h75,h76,h77,hi,t0,c1,aC,aB,hb',q1,q2,n1,n2,ht,hm,hc,hw1];refine ih _ _ ⟨_,N',.app 1 ((D.map (cS 1 c32)).take i++[[.slice 1 (D[i].map c32)]]) t,rfl,Kp.setl (Kp.setl hk (.inl (hvt t rfl))) (.inr rfl),bV (bV hT'),by omega,.inr ⟨t,?_,?_⟩,hvt,?_,?_,?_,?_,?_,?_,?_⟩
   all_goals simp [htk,h3,h75,h76,aB,aC,n1,n2,ht,hb',g1,g2,hm]
 ·rintro e' _ L hL ⟨O',N',v,rfl,hk,hT',hN,hv,hvt,hb',h3,h75,h76,h77,g1,g2⟩;rw [iI] at hv;simp [c_65_l5,h76,h77,hL];refine hK _ O' N' v hk hT' hN hv hvt hb' ?_ ?_ ?_<;>simp [g1,g2,h3, *]
 ·exact ⟨O,N,_,rfl,fun _ _ _=>rfl,hT,Qb _,.inl ⟨by simp,rfl⟩,(fun t ht=>by cases ht),hb,h3,h75,h76,h77,rfl,rfl⟩
end
theorem Ap.snp {O:List (Nat×AO)} {N z n:Nat} {v:AV} {es:List (List AV)} (h:Ap O z v es):snap (n+1) ⟨O,N⟩ v=some (.slice z es):=by
 rcases h with ⟨rfl,rfl⟩ | ⟨t,rfl,_⟩<;>simp
def NcQ (c:Xf) (r:Option Rt):Prop:=r=some (.val (.agg [.slice 1 (c.rows.map (cS 5 Rw.c)),.slice 1 (c.Xr.map cI),.slice 2 (c.Xq.map Xb.c),.slice 1 (c.Xm.map (cS 1 c32))]))
theorem Cc (c:Xf) (s:CfgC c):aA Φ uL [.agg (Xf.c c)]=some (.val (.agg (Xf.c c))):=by
 rw [aD rfl rfl];have c1:=S9 c.Xr s.nl;simp [M3,Xf.e4,c1];show NcQ c _;refine Z0 c.rows s.rl s.rs (.slice 1 (c.Xr.map cI)) _ (NcQ c) _ _ _ 1 ?_ ?_ ?_ ?_ ?_ ?_ ?_
 ·simp [Tail_cons_iff,pS]
 ·simp
 ·simp
 ·simp
 ·simp
 ·simp
 intro e1 O1 N1 v1 k1 T1 n1 a1 f1 l1 x1 x2 x3;simp at x1 x2 x3;have z1:look 0 O1=some (.row 4 [[.Xu 1 [],.Xu 1 [],.Xu 2 [],.Xu 1 []]]):=by rw [k1 0 (by omega) (by omega)];simp
 simp [c_65_k8,x1];refine Ay c.Xq s.dl s.ds v1 (.slice 1 (c.Xr.map cI)) _ (NcQ c) _ _ _ 1 T1 l1 ?_ ?_ ?_ ?_ ?_
 ·simp [x3]
 ·simp
 ·simp
 ·simp
 intro e2 O2 N2 v2 k2 T2 n2 a2 f2 l2 y1 y2 y3;simp [x1,x2,x3] at y1 y2 y3;have z2:look 0 O2=some (.row 4 [[.Xu 1 [],.Xu 1 [],.Xu 2 [],.Xu 1 []]]):=by rw [k2 0 (by omega) (by omega),z1]
 have a1':Ap O2 1 v1 (c.rows.map (cS 5 Rw.c)):=a1.fr fun t ht=>by
  have:=f1 t ht;have h:=a1.tk ht;exact k2 t (T1.lt h) (by rintro rfl;rw [l1] at h;cases h)
 simp [c_65_k7,y1];refine Az c.Xm s.gl s.gs v1 (.slice 1 (c.Xr.map cI)) v2 _ (NcQ c) _ _ _ 1 T2 l2 ?_ ?_ ?_ ?_ ?_
 ·simp [y3]
 ·simp
 ·simp
 ·simp
 intro e3 O3 N3 v3 k3 T3 n3 a3 f3 l3 w1 w2 w3;simp [y1,y2,y3] at w1 w2 w3;have z3:look 0 O3=some (.row 4 [[.Xu 1 [],.Xu 1 [],.Xu 2 [],.Xu 1 []]]):=by rw [k3 0 (by omega) (by omega),z2]
 have p1:∀n O N,snap (n+1) ⟨O,N⟩ v1=some (.slice 1 (c.rows.map (cS 5 Rw.c))):=fun n O N=>by rcases a1 with ⟨h,rfl⟩ | ⟨t,rfl,_⟩<;>simp [*]
 have p2:∀n O N,snap (n+1) ⟨O,N⟩ v2=some (.slice 2 (c.Xq.map Xb.c)):=fun n O N=>by rcases a2 with ⟨h,rfl⟩ | ⟨t,rfl,_⟩<;>simp [*]
 have p3:∀n O N,snap (n+1) ⟨O,N⟩ v3=some (.slice 1 (c.Xm.map (cS 1 c32))):=fun n O N=>by rcases a3 with ⟨h,rfl⟩ | ⟨t,rfl,_⟩<;>simp [*]
 simp [NcQ,c_65_k6,w2,w3,l3,z3,aB,p1,p2,p3]
def CCQ (N:Nat) (O:List (Nat×AO)) (cs:List Xf) (r:Option (Rt×AH)):Prop:=∃w O' N',r=some (.val w,⟨O',N'⟩)/\Ex1 O' 4 w (cs.map Xf.c)/\(∀j,vid w=some j->N<=j)/\Kp (fun _=>False) N O O'/\Tail O' N'/\N<=N'
theorem Ca (cs:List Xf) (hs:∀c∈cs,CfgC c) (hl:cs.length<2^39) {O:List (Nat×AO)} {N:Nat} (hT:Tail O N) {v:AV} (hv:Re O 4 v (cs.map Xf.c)):CCQ N O cs (aI Φ oE [v] ⟨O,N⟩):=by
 rw [dA rfl rfl];have hlen:=hv.len;simp [LX,hlen,-lenOf];refine fF cs.length (fun i e' h=>∃O' N' w,h=⟨O',N'⟩/\((i=0/\w= .Xu 4 [])\/∃id,w= .row id 4 0 i/\look id O'=some (.row 4 ((cs.map Xf.c).take i))/\N<=id)/\Kp (fun _=>False) N O O'/\Tail O' N'/\N<=N'/\look 3 e'=some w/\look 6 e'=some v/\look 7 e'=some (a8 cs.length)/\look 8 e'=some (a8 i)) (CCQ N O cs) ?_ ?_ 0 _ _ (Qc _) ?_
 ·rintro i e' _ L hi hL ⟨O',N',w,rfl,hw,hk,hT',hN,h3,h6,h7,h8⟩ ih;have hw1:=aL i (by omega);have hT0:=hT' N' (Qb _);have hT1:=hT' (N'+1) (by omega);have hT2:=hT' (N'+1+1) (by omega);have hm:min i cs.length=i:=by omega
  have hc:=Cc cs[i] (hs _ (Qd hi));rw [Xf.e4] at hc;have htk:(cs.map Xf.c).take (i+1)=(cs.map Xf.c).take i++[Xf.c cs[i]]:=mJ hi;rw [Xf.e4] at htk;have hb:(i+1)*96<=70368744177664:=by omega
  have hv':Re O' 4 v (cs.map Xf.c):=by
   refine hv.fr fun j hj=>?_
   cases hv with
   | row id _ es0 n hn hl hle ht=>cases hj;exact hk j (hT.lt hl) (by simp)
   | sl=>cases hj
   | fs=>cases hj
   | ap=>cases hj
  have hlt:∀id y,look id O'=some y->¬id=N'/\¬N'=id/\¬id=N'+1/\¬N'+1=id/\¬id=N'+1+1/\¬N'+1+1=id:=fun id y h=>by have:=hT'.lt h;omega
  rcases hw with ⟨rfl,rfl⟩ | ⟨id,rfl,hlk,hid⟩
  ·cases hv' with
   | row id' _ es0 n hn hl' hle ht=>
    obtain ⟨q1,q2,q3,q4,q5,q6⟩:=hlt _ _ hl';have h0:es0[0]? =some (Xf.c cs[0]):=by
     have h:(es0.take (cs.map Xf.c).length)[0]? =(cs.map Xf.c)[0]? :=by rw [ht]
     rw [List.getElem?_take_of_lt (by simpa using hi)] at h;rw [h];simp [hi]
    rw [Xf.e4] at h0;simp [c_37_l0,Xf.e4,h3,h6,h7,h8,hi,hc,hT0,hT1,hT2,hn,hl',h0,q1,q2,q3,q4,q5,q6,aC];refine ih _ _ ⟨_,N'+1+1+1,.row (N'+1+1) 4 0 1,rfl,.inr ⟨N'+1+1,rfl,?_,by omega⟩,Kp.appL hk (by simp;omega),?_,by omega,?_,?_,?_,?_⟩
    ·simp [aC,hT2,htk]
    ·simp [Tail_append_iff,Tail_cons_iff,pS];exact hT'.mono (by omega)
    all_goals simp [h3,h6,h7,wr1]
   | _=>
    simp [c_37_l0,Xf.e4,h3,h6,h7,h8,hi,hc,hT0,hT1,hT2,aC];refine ih _ _ ⟨_,N'+1+1+1,.row (N'+1+1) 4 0 1,rfl,.inr ⟨N'+1+1,rfl,?_,by omega⟩,Kp.appL hk (by simp;omega),?_,by omega,?_,?_,?_,?_⟩
    ·simp [aC,hT2,htk]
    ·simp [Tail_append_iff,Tail_cons_iff,pS];exact hT'.mono (by omega)
    all_goals simp [h3,h6,h7,wr1]
  ·obtain ⟨r1,r2,r3,r4,r5,r6⟩:=hlt _ _ hlk;have hd:∀x,look (N'+1+1) (bW id (O'++[(N'+1,x)]))=none:=fun x=>K5 _ (by simp [aC,hT2])
   cases hv' with
   | row id' _ es0 n hn hl' hle ht=>
    obtain ⟨q1,q2,q3,q4,q5,q6⟩:=hlt _ _ hl';have h0:es0[i]? =some (Xf.c cs[i]):=by
     have h:(es0.take (cs.map Xf.c).length)[i]? =(cs.map Xf.c)[i]? :=by rw [ht]
     rw [List.getElem?_take_of_lt (by simpa using hi)] at h;rw [h];simp [hi]
    rw [Xf.e4] at h0;simp [c_37_l0,Xf.e4,h3,h6,h7,h8,hi,hc,hT0,hT1,hT2,hn,hl',h0,hw1,hlk,hb,hm,hd,q1,q2,q3,q4,q5,q6,r1,r2,r3,r4,r5,r6,aC];refine ih _ _ ⟨_,N'+1+1+1,.row (N'+1+1) 4 0 (i+1),rfl,.inr ⟨N'+1+1,rfl,?_,by omega⟩,Kp.appL (Kp.drop (Kp.app hk (by omega)) (.inl hid)) (by simp;omega),?_,by omega,?_,?_,?_,?_⟩
    ·simp [aC,hd,htk]
    ·rw [Tail_append_iff];exact ⟨G8 (by simp [Tail_append_iff,Tail_cons_iff,pS];exact hT'.mono (by omega)),by simp [Tail_cons_iff,pS]⟩
    all_goals simp [h3,h6,h7]
   | _=>
    simp [c_37_l0,Xf.e4,h3,h6,h7,h8,hi,hc,hT0,hT1,hT2,hw1,hlk,hb,hm,hd,r1,r2,r3,r4,r5,r6,aC];refine ih _ _ ⟨_,N'+1+1+1,.row (N'+1+1) 4 0 (i+1),rfl,.inr ⟨N'+1+1,rfl,?_,by omega⟩,Kp.appL (Kp.drop (Kp.app hk (by omega)) (.inl hid)) (by simp;omega),?_,by omega,?_,?_,?_,?_⟩
    ·simp [aC,hd,htk]
    ·rw [Tail_append_iff];exact ⟨G8 (by simp [Tail_append_iff,Tail_cons_iff,pS];exact hT'.mono (by omega)),by simp [Tail_cons_iff,pS]⟩
    all_goals simp [h3,h6,h7]
 ·rintro e' _ L hL ⟨O',N',w,rfl,hw,hk,hT',hN,h3,h6,h7,h8⟩;simp [c_37_l0,c_37_k1,h3,h7,h8,hL];refine ⟨_,_,_,rfl,?_,?_,hk,hT',hN⟩
  ·rcases hw with ⟨hz,rfl⟩ | ⟨id,rfl,hlk,hid⟩
   ·exact .inl ⟨by rw [Qg hz];rfl,rfl⟩
   ·rw [Qo (by simp)] at hlk;exact .inr ⟨id,by simp,hlk⟩
  ·rcases hw with ⟨hz,rfl⟩ | ⟨id,rfl,hlk,hid⟩
   ·intro j hj;cases hj
   ·intro j hj;cases hj;exact hid
 ·exact ⟨O,N,_,by simp,.inl ⟨rfl,rfl⟩,fun _ _ _=>rfl,hT,Qb _,by simp,by simp,by simp,by simp⟩
set_option maxRecDepth 4000
section
variable {O:List (Nat×AO)} {N:Nat} {S:SV} {p:Prg} {c:Xf}
theorem StoreM.se (m:StoreM O S p c):look S.s O=some (.row 15 [[S.v1,S.v2,S.v3,S.v4,.str p.name,.slice 2 (p.Xp.map Xj.c),.slice 2 (p.Xo.map Fld.c),.slice 3 (p.Xm.map Xh.c),.slice 3 (p.Xy.map Action.c),.slice 6 (p.Xn.map Tbl.c),.slice 7 (p.Xx.map Xd.c),.slice 5 (p.Yb.map Xa.c),.slice 1 (p.Xs.map cI),S.vi,.bool true]]):=by
 have hs:=m.s;simp only [SV.cells,Prg.e,qI,DW] at hs;exact hs
theorem StoreM.l1 (m:StoreM O S p c):lenOf S.v1=some c.rows.length:=by
 have:=m.cm.r.len;rw [cT,m.cm.rl] at this;exact this
theorem Eg (m:StoreM O S p c) (hl:c.rows.length=p.Xn.length) (t:Int):aI Φ nY [.ptr S.s 15 0 0,a8 t] ⟨O,N⟩=some (.val (.bool (inT p t)),⟨O,N⟩):=by
 rw [dA rfl rfl];have hs:=m.se;have l1:=m.l1;by_cases z:0<=t
 ·simp [yC,hs,l1,z,inT,hl,-lenOf]
 ·simp [yC,z,inT,-lenOf]
def rowI (p:Prg) (c:Xf) (t id:Int):Int:=if inT p t then ((rIdx (iL c t) id).map fun (j:Nat)=>(j:Int)).getD 0 else 0
def rowX (p:Prg) (c:Xf) (t id:Int):Int:=if inT p t=false then 8 else if rIdx (iL c t) id=none then 8 else 0
theorem StoreM.idx (m:StoreM O S p c) {k:Nat} (hk:k<c.rows.length):∃id es0,S.vi= .row id 1 0 c.rows.length/\look id O=some (.row 1 es0)/\c.rows.length<=es0.length/\∃hM:k<S.M.length,es0[k]? =some [.map (S.M[k])]/\look (S.M[k]) O=some (.map (ents c.rows[k])):=by
 have hl:=m.x.len;obtain ⟨id,es0,e,hl1,hle,ht⟩:=m.x.i.nonempty (by simp;omega);rw [cT,hl] at e hle;have hM:k<S.M.length:=by omega
 refine ⟨id,es0,e,hl1,hle,hM,D0 hM ht,m.x.m k _ _ (Qa hM) (Qa hk)⟩
theorem StoreM.tab (m:StoreM O S p c) {k:Nat} (hk:k<c.rows.length):∃id es0,S.v1= .row id 1 0 c.rows.length/\look id O=some (.row 1 es0)/\c.rows.length<=es0.length/\(∃hV:k<S.V.length,es0[k]? =some [S.V[k]]/\Mu O 5 S.V[k] (c.rows[k].map Rw.c))/\es0.take c.rows.length=S.V.map fun x=>[x]:=by
 have hl:=m.cm.rl;obtain ⟨id,es0,e,hl1,hle,ht⟩:=m.cm.r.nonempty (by simp;omega);have ht':=ht;rw [cT,hl] at e hle ht';have hV:k<S.V.length:=by omega
 refine ⟨id,es0,e,hl1,hle,⟨hV,D0 hV ht,m.cm.rv k _ _ (Qa hV) (Qa hk)⟩,ht'⟩
theorem Hc (m:StoreM O S p c) (hl:c.rows.length=p.Xn.length) (t id:Int):aI Φ nS [.ptr S.s 15 0 0,a8 t,a8 id] ⟨O,N⟩=some (.val (.tup [a8 (rowI p c t id),a8 (rowX p c t id)]),⟨O,N⟩):=by
 rw [dA rfl rfl];have hs:=m.se;have ht:=Eg (N:=N) m hl t;cases z:inT p t with
 | false=>
  rw [z] at ht;simp [qY,hs,ht,rowI,rowX,z]
 | true=>
  rw [z] at ht;obtain ⟨k,rfl,hk⟩:=D1 z;have hk':k<c.rows.length:=by omega
  obtain ⟨iid,es0,e,hi,hle,hM,g1,g2⟩:=m.idx hk';rw [e] at hs;have hf:=qz2 id c.rows[k];have hke:k<es0.length:=by omega
  have hrow:iL c (k:Int)=c.rows[k]:=AD hk';cases hx:rIdx c.rows[k] id with
  | none=>
   rw [hx] at hf;simp [qY,hs,ht,hi,hk',g1,g2,hf,rowI,rowX,z,hrow,hx]
  | some i=>
   rw [hx] at hf;simp [qY,hs,ht,hi,hk',g1,g2,hf,rowI,rowX,z,hrow,hx]
end
def MDpost (N:Nat) (O:List (Nat×AO)) (S:SV) (p:Prg) (c':Xf) (v:AV) (r:Option (Rt×AH)):Prop:=
 ∃S' O' N',r=some (.val v,⟨O',N'⟩)/\StoreM O' S' p c'/\S'.s=S.s/\(∀j,S'.own j->S.own j\/N<=j)/\Kp (fun j=>S.own j\/Rs O j) N O O'/\Tail O' N'/\N<=N'
theorem Mu.upd {O':List (Nat×AO)} {id z k:Nat} {es es0:List (List AV)} {y:List AV} (hl:look id O'=some (.row z (es0.set k y))) (hle:es.length<=es0.length) (ht:es0.take es.length=es):Mu O' z (.row id z 0 es.length) (es.set k y):=
 .row id _ _ _ (by simp) hl (by simpa using hle) (by rw [List.length_set,List.take_set,ht])
theorem qrm {O:List (Nat×AO)} {N:Nat} {S:SV} {p:Prg} {c:Xf} (m:StoreM O S p c) (f:PrgS p) (hl:c.rows.length=p.Xn.length) (hd:c.Xq.length=p.Xn.length) (hT:Tail O N) (t:Int) (x:Xb) (hx:x.args.length<2^40):
  MDpost N O S p (if defE p t x=0 then defC c t x else c) (a8 (defE p t x)) (aI Φ sS [.ptr S.s 15 0 0,a8 t,.agg (Xb.c x)] ⟨O,N⟩):=by
 rw [dA rfl rfl];have t0:=hT N (Qb _);have hk1:Kp (fun j=>S.own j\/Rs O j) N O (O++[(N,AO.row 2 [Xb.c x])]):=Kp.app (fun _ _ _=>rfl) (Qb _);have hT1:=hT.app1 (o:=AO.row 2 [Xb.c x]) (Qb N);have m1:StoreM (O++[(N,AO.row 2 [Xb.c x])]) S p c:=m.kp (X:=fun _=>False) hT (Kp.app (fun _ _ _=>rfl) (Qb _)) (by simp);have b1:look N (O++[(N,AO.row 2 [Xb.c x])])=some (.row 2 [Xb.c x]):=by rw [aC,t0];simp
 have same:MDpost N O S p c (a8 (defE p t x)) (some (.val (a8 (defE p t x)),⟨O++[(N,AO.row 2 [Xb.c x])],N+1⟩)):=
  ⟨S,_,_,rfl,m1,rfl,fun j hj=> .inl hj,hk1,hT1,by omega⟩
 have hs:=m1.se;have ht:=Eg (N:=N+1) m1 hl t;have hc:=Ec p f t x hx;have hcl:=R7 x hx;simp only [Prg.e] at hc;simp only [Xb.ce] at b1 hs ht hc hcl same;cases z:inT p t with
 | false=>
  have hE:defE p t x=8:=by simp [defE,z]
  rw [z] at ht;rw [hE] at same ⊢;simp [qZ,Xb.ce,t0,hs,ht];exact same
 | true=>
  have hE:defE p t x=eB p t x:=by simp [defE,z]
  rw [z] at ht;rw [hE] at same ⊢;by_cases q:eB p t x=0
  ·obtain ⟨k,rfl,hk⟩:=D1 z;have hk':k<c.Xq.length:=by omega
   obtain ⟨did,es0,e,hi,hle,htk⟩:=m1.cm.d.nonempty (by simp;omega);rw [cT] at e hle;rw [e] at hs;have hke:k<es0.length:=by omega
   have g1:=D0 hk' htk;rw [q] at hc ⊢;simp only [Xb.ce] at hi;simp [qZ,Xb.ce,t0,hs,ht,hc,hcl,b1,hk',hi,g1];have hown:S.own did:= .inr (.inl (.inr (.inr (.inl (by rw [e];rfl)))));refine ⟨S,_,_,rfl,?_,rfl,fun j hj=> .inl hj,Kp.setl (by simpa only [Xb.ce] using hk1) (.inr (.inl hown)),bV (by simpa only [Xb.ce] using hT1),by omega⟩;simp only [<- Xb.ce] at hi ⊢;have keep:∀j o,look j (O++[(N,AO.row 2 [Xb.c x])])=some o->(∀es,o≠ .row 2 es)->look j (setl did (.row 2 (es0.set k (Xb.c x))) (O++[(N,AO.row 2 [Xb.c x])]))=look j (O++[(N,AO.row 2 [Xb.c x])]):=by
    intro j o ho hne;have hji:=aP ho hi (hne _);rw [aB,QA hji]
   have kmu:∀z v es,z≠2->Mu (O++[(N,AO.row 2 [Xb.c x])]) z v es->Mu (setl did (.row 2 (es0.set k (Xb.c x))) (O++[(N,AO.row 2 [Xb.c x])])) z v es:=by
    intro z v es hz hm;refine hm.fr fun j hj=>?_
    obtain ⟨es1,h1⟩:=hm.own hj;exact keep j _ h1 (by intro es2 h2;cases h2;exact hz rfl)
   refine ⟨?_,⟨kmu _ _ _ (by decide) m1.cm.r,m1.cm.rl,fun a v l hv hl=>kmu _ _ _ (by decide) (m1.cm.rv a v l hv hl),kmu _ _ _ (by decide) m1.cm.n,?_,m1.cm.g,m1.cm.rn,m1.cm.vi,m1.cm.va⟩,⟨kmu _ _ _ (by decide) m1.x.i,m1.x.len,?_,m1.x.nd⟩,m1.ri,m1.ni⟩
   ·rw [keep S.s _ m1.s (by simp)];exact m1.s
   ·have hmu:Mu (setl did (.row 2 (es0.set k (Xb.c x))) (O++[(N,AO.row 2 [Xb.c x])])) 2 (.row did 2 0 (c.Xq.map Xb.c).length) ((c.Xq.map Xb.c).set k (Xb.c x)):=
     Mu.upd (by rw [aB,aE rfl,hi];rfl) (by simpa using hle) htk
    rw [e];rw [<- vL,cT] at hmu;exact hmu
   ·intro a b l ha hl2;have h0:=m1.x.m a b l ha hl2;rw [keep b _ h0 (by simp)];exact h0
  ·simp [qZ,Xb.ce,t0,hs,ht,hc,b1,q];exact same
theorem Ls:∀(l l':List Rw) (n:Nat),l.length=l'.length->(∀(j:Nat) (h1:j<l.length) (h2:j<l'.length),l[j].id=l'[j].id)->pG l n=pG l' n
 | [],[],n,_,_=>rfl
 | [],_::_,n,h,_=>by simp at h
 | _::_,[],n,h,_=>by simp at h
 | a::l,b::l',n,h,hi=>by
  have h0:=hi 0 (by simp) (by simp);simp at h0;simp only [pG,h0];rw [Ls l l' (n+1) (by simpa using h) fun j h1 h2=>by
   have:=hi (j+1) (by simp;omega) (by simp;omega);simpa using this]
theorem VC {l l':List Rw} (h:l.length=l'.length) (hi:∀(j:Nat) (h1:j<l.length) (h2:j<l'.length),l[j].id=l'[j].id):ents l=ents l':=Ls l l' 0 h hi
def SV.chg (S:SV) (k j:Nat):Prop:=(∃v,S.V[k]? =some v/\vid v=some j)\/vid S.v1=some j\/vid S.v2=some j\/vid S.vi=some j\/S.M[k]? =some j
def SV.tab (S:SV) (k:Nat) (v:AV) (m:Nat):SV:=⟨S.s,S.v1,S.v2,S.v3,S.v4,S.vi,S.V.set k v,S.M.set k m⟩
section
variable {O O':List (Nat×AO)} {S:SV} {p:Prg} {c:Xf} {k:Nat}
theorem StoreM.vrow (m:StoreM O S p c) {j:Nat} {v:AV} {i:Nat} (hv:S.V[j]? =some v) (hi:vid v=some i):∃es,look i O=some (.row 5 es):=by
 have hj:=(Qm.1 hv).1;exact (m.cm.rv j v _ hv (Qa (by rw [<- m.cm.rl];exact hj))).own hi
theorem StoreM.mmap (m:StoreM O S p c) {j i:Nat} (hv:S.M[j]? =some i):∃es,look i O=some (.map es):=by
 have hj:=(Qm.1 hv).1;exact ⟨_,m.x.m j i _ hv (Qa (by rw [<- m.x.len];exact hj))⟩
theorem StoreM.upd (m:StoreM O S p c) (hk:k<c.rows.length) {v':AV} {m':Nat} {l':List Rw} {nx:Int}
  (keep:∀j,S.own j->¬S.chg k j->look j O'=look j O)
  (h1:Mu O' 1 S.v1 ((S.V.set k v').map fun x=>[x])) (h2:Mu O' 1 S.v2 ((c.Xr.set k nx).map cI)) (h3:Mu O' 1 S.vi ((S.M.set k m').map fun x=>[.map x])) (h4:Mu O' 5 v' (l'.map Rw.c)) (h5:look m' O'=some (.map (ents l')))
  (h6:∀z es t,v'≠ .app z es t) (d1:∀i,vid v'=some i->(∃v,S.V[k]? =some v/\vid v=some i)\/∀x,look i O=some x->x= .res) (d2:S.M[k]? =some m'\/∀x,look m' O=some x->x= .res):
  StoreM O' (S.tab k v' m') p ⟨c.rows.set k l',c.Xr.set k nx,c.Xq,c.Xm⟩:=by
 have hVl:=m.cm.rl;have hMl:=m.x.len;have ks:look S.s O'=look S.s O:=by
  refine keep S.s (.inl rfl) ?_;rintro (⟨v,hv,hi⟩ | hi | hi | hi | hi)
  ·obtain ⟨es,hl⟩:=m.vrow hv hi;exact aP m.s hl (by simp) rfl
  ·obtain ⟨es,hl⟩:=m.cm.r.own hi;exact aP m.s hl (by simp) rfl
  ·obtain ⟨es,hl⟩:=m.cm.n.own hi;exact aP m.s hl (by simp) rfl
  ·obtain ⟨es,hl⟩:=m.x.i.own hi;exact aP m.s hl (by simp) rfl
  ·obtain ⟨es,hl⟩:=m.mmap hi;exact aP m.s hl (by simp) rfl
 have kv:∀(j:Nat) (v:AV) (i:Nat),j≠k->S.V[j]? =some v->vid v=some i->look i O'=look i O:=by
  intro j v i hj hv hi;obtain ⟨es0,hl0⟩:=m.vrow hv hi;refine keep i (.inr (.inl (.inr (.inr (.inr ⟨v,Qe hv,hi⟩))))) ?_;rintro (⟨w,hw,hi'⟩ | hi' | hi' | hi' | hi')
  ·exact hj (m.cm.vi j k v w i hv hw hi hi')
  ·obtain ⟨es,hl⟩:=m.cm.r.own hi';exact aP hl0 hl (by simp) rfl
  ·obtain ⟨es,hl⟩:=m.cm.n.own hi';exact aP hl0 hl (by simp) rfl
  ·obtain ⟨es,hl⟩:=m.x.i.own hi';exact aP hl0 hl (by simp) rfl
  ·obtain ⟨es,hl⟩:=m.mmap hi';exact aP hl0 hl (by simp) rfl
 have km:∀(j i:Nat),j≠k->S.M[j]? =some i->look i O'=look i O:=by
  intro j i hj hv;obtain ⟨es0,hl0⟩:=m.mmap hv;refine keep i (.inr (.inr (.inr (Qe hv)))) ?_;rintro (⟨w,hw,hi'⟩ | hi' | hi' | hi' | hi')
  ·obtain ⟨es,hl⟩:=m.vrow hw hi';exact aP hl0 hl (by simp) rfl
  ·obtain ⟨es,hl⟩:=m.cm.r.own hi';exact aP hl0 hl (by simp) rfl
  ·obtain ⟨es,hl⟩:=m.cm.n.own hi';exact aP hl0 hl (by simp) rfl
  ·obtain ⟨es,hl⟩:=m.x.i.own hi';exact aP hl0 hl (by simp) rfl
  ·exact hj (m.x.nd j k i hv hi')
 have kd:Mu O' 2 S.v3 (c.Xq.map Xb.c):=by
  refine m.cm.d.fr fun i hi=>?_
  obtain ⟨es0,hl0⟩:=m.cm.d.own hi;refine keep i (.inr (.inl (.inr (.inr (.inl hi))))) ?_;rintro (⟨w,hw,hi'⟩ | hi' | hi' | hi' | hi')
  ·obtain ⟨es,hl⟩:=m.vrow hw hi';exact aP hl0 hl (by simp) rfl
  ·obtain ⟨es,hl⟩:=m.cm.r.own hi';exact aP hl0 hl (by simp) rfl
  ·obtain ⟨es,hl⟩:=m.cm.n.own hi';exact aP hl0 hl (by simp) rfl
  ·obtain ⟨es,hl⟩:=m.x.i.own hi';exact aP hl0 hl (by simp) rfl
  ·obtain ⟨es,hl⟩:=m.mmap hi';exact aP hl0 hl (by simp) rfl
 have other:∀(j:Nat) (v:AV) (i:Nat),j≠k->S.V[j]? =some v->vid v=some i->vid v'=some i->False:=by
  intro j v i hj hv hi hi';rcases d1 i hi' with ⟨w,hw,hw'⟩ | hf
  ·exact hj (m.cm.vi j k v w i hv hw hi hw')
  ·obtain ⟨es,hl⟩:=m.vrow hv hi;have:=hf _ hl;cases this
 refine ⟨?_,⟨h1,by simp [SV.tab,hVl],?_,h2,kd,m.cm.g,m.cm.rn,?_,?_⟩,⟨h3,by simp [SV.tab,hMl],?_,?_⟩,m.ri,m.ni⟩
 ·show look S.s O'=_;rw [ks];exact m.s
 ·intro j v l hv hl;simp only [SV.tab] at hv;by_cases hj:k=j
  ·subst hj;rw [List.getElem?_set_self (by omega)] at hv hl;cases hv;cases hl;exact h4
  ·rw [List.getElem?_set_ne hj] at hv hl;have h0:=m.cm.rv j v l hv hl;exact h0.fr fun i hi=>kv j v i (fun e=>hj e.symm) hv hi
 ·intro a b v w i ha hb hi hi';simp only [SV.tab] at ha hb;by_cases hka:k=a
  ·by_cases hkb:k=b
   ·omega
   ·subst hka;rw [List.getElem?_set_self (by omega)] at ha;rw [List.getElem?_set_ne hkb] at hb;cases ha;exact (other b w i (fun e=>hkb e.symm) hb hi' hi).elim
  ·by_cases hkb:k=b
   ·subst hkb;rw [List.getElem?_set_self (by omega)] at hb;rw [List.getElem?_set_ne hka] at ha;cases hb;exact (other a v i (fun e=>hka e.symm) ha hi hi').elim
   ·rw [List.getElem?_set_ne hka] at ha;rw [List.getElem?_set_ne hkb] at hb;exact m.cm.vi a b v w i ha hb hi hi'
 ·intro v hv;simp only [SV.tab] at hv;rcases Qq hv with hv | rfl
  ·exact m.cm.va v hv
  ·exact h6
 ·intro j i l hi hl;simp only [SV.tab] at hi;by_cases hj:k=j
  ·subst hj;rw [List.getElem?_set_self (by omega)] at hi hl;cases hi;cases hl;exact h5
  ·rw [List.getElem?_set_ne hj] at hi hl;rw [km j i (fun e=>hj e.symm) hi];exact m.x.m j i l hi hl
 ·intro a b i ha hb;simp only [SV.tab] at ha hb;have oth:∀j,j≠k->S.M[j]? =some m'->False:=by
   intro j hj hv;rcases d2 with h0 | hf
   ·exact hj (m.x.nd j k m' hv h0)
   ·obtain ⟨es,hl⟩:=m.mmap hv;have:=hf _ hl;cases this
  by_cases hka:k=a
  ·by_cases hkb:k=b
   ·omega
   ·subst hka;rw [List.getElem?_set_self (by omega)] at ha;rw [List.getElem?_set_ne hkb] at hb;cases ha;exact (oth b (fun e=>hkb e.symm) hb).elim
  ·by_cases hkb:k=b
   ·subst hkb;rw [List.getElem?_set_self (by omega)] at hb;rw [List.getElem?_set_ne hka] at ha;cases hb;exact (oth a (fun e=>hka e.symm) ha).elim
   ·rw [List.getElem?_set_ne hka] at ha;rw [List.getElem?_set_ne hkb] at hb;exact m.x.nd a b i ha hb
end
theorem WM {p:Prg} {c:Xf} {t id:Int} {x:Xb}:modE p c t id x=if rowX p c t id=0 then eB p t x else rowX p c t id:=by
 unfold modE rowX;split
 ·simp
 split
 ·simp
 ·simp
theorem qza {O:List (Nat×AO)} {N:Nat} {S:SV} {p:Prg} {c:Xf} (m:StoreM O S p c) (f:PrgS p) (hl:c.rows.length=p.Xn.length) (hT:Tail O N) (t id:Int) (x:Xb) (hx:x.args.length<2^40):
  MDpost N O S p (if modE p c t id x=0 then modC c t id x else c) (a8 (modE p c t id x)) (aI Φ kX [.ptr S.s 15 0 0,a8 t,a8 id,.agg (Xb.c x)] ⟨O,N⟩):=by
 rw [dA rfl rfl];have t0:=hT N (Qb _);have hk1:Kp (fun j=>S.own j\/Rs O j) N O (O++[(N,AO.row 2 [Xb.c x])]):=Kp.app (fun _ _ _=>rfl) (Qb _);have hT1:=hT.app1 (o:=AO.row 2 [Xb.c x]) (Qb N);have m1:StoreM (O++[(N,AO.row 2 [Xb.c x])]) S p c:=m.kp (X:=fun _=>False) hT (Kp.app (fun _ _ _=>rfl) (Qb _)) (by simp);have b1:look N (O++[(N,AO.row 2 [Xb.c x])])=some (.row 2 [Xb.c x]):=by rw [aC,t0];simp
 have same:MDpost N O S p c (a8 (modE p c t id x)) (some (.val (a8 (modE p c t id x)),⟨O++[(N,AO.row 2 [Xb.c x])],N+1⟩)):=
  ⟨S,_,_,rfl,m1,rfl,fun j hj=> .inl hj,hk1,hT1,by omega⟩
 have hs:=m1.se;have hr:=Hc (N:=N+1) m1 hl t id;have hc:=Ec p f t x hx;have hcl:=R7 x hx;have hE:=WM (p:=p) (c:=c) (t:=t) (id:=id) (x:=x);simp only [Prg.e] at hc;simp only [Xb.ce] at b1 hs hr hc hcl same;by_cases z:rowX p c t id=0
 rotate_left
 ·rw [QA z] at hE;rw [hE] at same ⊢;simp [mU,Xb.ce,t0,hr,z];exact same
 rw [aE z] at hE;by_cases q:eB p t x=0
 rotate_left
 ·rw [hE] at same ⊢;simp [mU,Xb.ce,t0,hr,hs,z,b1,hc,q];exact same
 have hE0:modE p c t id x=0:=by rw [hE,q]
 rw [hE0] at same ⊢;cases hi:inT p t with
 | false=>simp [rowX,hi] at z
 | true=>
 obtain ⟨k,rfl,hk⟩:=D1 hi;have hk':k<c.rows.length:=by omega
 have hrow:iL c (k:Int)=c.rows[k]:=AD hk';cases hx2:rIdx c.rows[k] id with
 | none=>simp [rowX,hi,hrow,hx2] at z
 | some i=>
 obtain ⟨hil,hid⟩:=NT hx2;have hI:rowI p c k id=i:=by simp [rowI,hi,hrow,hx2]
 have hM:modC c (k:Int) id x=⟨c.rows.set k (c.rows[k].modify i (gU x)),c.Xr,c.Xq,c.Xm⟩:=by
  unfold modC;rw [hrow,hx2];simp
 rw [z,hI] at hr;obtain ⟨rid,es1,e1,lr,hle1,⟨hV,g1,g5⟩,ht1⟩:=m1.tab hk';obtain ⟨r5,es5,e5,l5,hle5,ht5⟩:=g5.nonempty (by simp;omega);rw [cT] at e5 hle5;rw [e1] at hs;rw [e5] at g1;have g2:=D0 hil ht5;have hi5:i<es5.length:=by omega
 have hlr:=lr;have hl5:=l5;simp only [Xb.ce] at hlr hl5;rw [q] at hc;rw [aE rfl,hM];simp [mU,Xb.ce,t0,hr,hs,b1,hc,hcl,hlr,hk',g1,hl5,hil,g2,Rw.ce];simp only [<- Xb.ce] at hl5 ⊢;have ho:S.own r5:= .inr (.inl (.inr (.inr (.inr ⟨S.V[k],Qd hV,by rw [e5];rfl⟩))));have hch:∀j,¬S.chg k j->j≠r5:=fun j hj e=>hj (.inl ⟨S.V[k],Qa hV,by rw [e5,e];rfl⟩)
 have hMl:=m1.x.len;have hMk:k<S.M.length:=by omega
 have hnx:k<c.Xr.length\/c.Xr.length<=k:=by omega
 have keep:∀j,j≠r5->look j (setl r5 (.row 5 (es5.set i [a8 c.rows[k][i].id,.slice 2 (c.rows[k][i].entry.keys.map Xi.c),a8 c.rows[k][i].entry.Xt,a8 x.Xz,.slice 1 (x.args.map c32)])) (O++[(N,AO.row 2 [Xb.c x])]))=look j (O++[(N,AO.row 2 [Xb.c x])]):=fun j hj=>by rw [aB,QA hj]
 have kmu:∀z v es,z≠5->Mu (O++[(N,AO.row 2 [Xb.c x])]) z v es->Mu (setl r5 (.row 5 (es5.set i [a8 c.rows[k][i].id,.slice 2 (c.rows[k][i].entry.keys.map Xi.c),a8 c.rows[k][i].entry.Xt,a8 x.Xz,.slice 1 (x.args.map c32)])) (O++[(N,AO.row 2 [Xb.c x])])) z v es:=by
  intro z v es hz hm;refine hm.fr fun j hj=>?_
  obtain ⟨es1,h1⟩:=hm.own hj;exact keep j (aP h1 l5 (by simp [hz]))
 have up:=m1.upd (k:=k) (v':=S.V[k]) (m':=S.M[k]) (l':=c.rows[k].modify i (gU x)) (nx:=(c.Xr[k]?).getD 0) (O':=setl r5 (.row 5 (es5.set i [a8 c.rows[k][i].id,.slice 2 (c.rows[k][i].entry.keys.map Xi.c),a8 c.rows[k][i].entry.Xt,a8 x.Xz,.slice 1 (x.args.map c32)])) (O++[(N,AO.row 2 [Xb.c x])])) hk'
  (fun j _ hj=>keep j (hch j hj)) (by simpa using kmu _ _ _ (by decide) m1.cm.r)
  (by
   have hset:c.Xr.set k ((c.Xr[k]?).getD 0)=c.Xr:=by
    rcases hnx with h | h
    ·rw [Qa h];simp
    ·rw [T9 h]
   rw [hset];exact kmu _ _ _ (by decide) m1.cm.n)
  (by simpa using kmu _ _ _ (by decide) m1.x.i)
  (by
   have hmu:=Mu.upd (O':=setl r5 (.row 5 (es5.set i [a8 c.rows[k][i].id,.slice 2 (c.rows[k][i].entry.keys.map Xi.c),a8 c.rows[k][i].entry.Xt,a8 x.Xz,.slice 1 (x.args.map c32)])) (O++[(N,AO.row 2 [Xb.c x])])) (id:=r5) (z:=5) (k:=i) (es:=c.rows[k].map Rw.c) (es0:=es5)
    (y:=[a8 c.rows[k][i].id,.slice 2 (c.rows[k][i].entry.keys.map Xi.c),a8 c.rows[k][i].entry.Xt,a8 x.Xz,.slice 1 (x.args.map c32)]) (by rw [aB,aE rfl,l5];rfl) (by simpa using hle5) ht5
   have hlist:(c.rows[k].map Rw.c).set i [a8 c.rows[k][i].id,.slice 2 (c.rows[k][i].entry.keys.map Xi.c),a8 c.rows[k][i].entry.Xt,a8 x.Xz,.slice 1 (x.args.map c32)]=(c.rows[k].modify i (gU x)).map Rw.c:=by
    refine List.ext_getElem (by simp) fun j h1 h2=>?_
    rw [List.getElem_set,Q8,Q8,JO];split
    ·rename_i e;subst e;simp [Rw.ce,gU]
    ·simp
   rw [hlist,cT] at hmu;rw [e5];exact hmu)
  (by
   have h0:=m1.x.m k _ _ (Qa hMk) (Qa hk');have hents:ents (c.rows[k].modify i (gU x))=ents c.rows[k]:=VC (by simp) fun j h1 h2=>by
    rw [JO];split<;>rfl
   rw [keep _ (aP h0 l5 (by simp)),h0,hents])
  (m1.cm.va _ (Qd hV)) (fun i hi=> .inl ⟨_,Qa hV,hi⟩) (.inl (Qa hMk))
 have htab:S.tab k S.V[k] S.M[k]=S:=by
  cases S;simp [SV.tab]
 rw [htab] at up;have hset:c.Xr.set k ((c.Xr[k]?).getD 0)=c.Xr:=by
  rcases hnx with h | h
  ·rw [Qa h];simp
  ·rw [T9 h]
 rw [hset] at up;exact ⟨S,_,_,rfl,up,rfl,fun j hj=> .inl hj,Kp.setl hk1 (.inr (.inl ho)),bV hT1,by omega⟩
theorem Au (r:Rw) (x:Entry) (hb:r.entry.keys.length<2^40):aA Φ jB [.agg (Rw.c r),.iptr 4 [Entry.c x] 0 0]=some (.val (.bool (sk r.entry x))):=by
 rw [aD rfl rfl];have h:=Rc r.entry x hb;simp [FT,Rw.ce,Entry.ce,h]
theorem VM (l:List Rw) (x:Entry) (hl:l.length<2^40) (hs:∀r∈l,r.entry.keys.length<2^40):aA Φ rU [.slice 5 (l.map Rw.c),.func (.func jB) [] [.iptr 4 [Entry.c x] 0 0]]=some (.val (a8 (ix (fun r=>sk r.entry x) l 0))):=by
 rw [aD rfl rfl];simp [wP];refine (iJ l.length (fun i e=>look 0 e=some (.slice 5 (l.map Rw.c))/\look 1 e=some (.func (.func jB) [] [.iptr 4 [Entry.c x] 0 0])/\look 7 e=some (a8 l.length)/\look 8 e=some (a8 i))
  (fun i=>some (.val (a8 (ix (fun r=>sk r.entry x) l i)))) ?_ ?_ 0 _ (Qc _) ?_).trans (by simp)
 ·rintro i e L hi hL ⟨h0,h1,h7,h8⟩ ih;have hw:=aL i (by omega);have hd:=Au l[i] x (hs _ (Qd hi));simp only [Rw.ce,Entry.ce] at hd h1;cases z:sk l[i].entry x with
  | true=>
   rw [L9 hi (by simpa using z)];rw [z] at hd;simp [c_188_l0,Rw.ce,h0,h1,h7,h8,hi,hd]
  | false=>
   rw [KO hi (by simpa using z)];rw [z] at hd;simp [c_188_l0,Rw.ce,h0,h1,h7,h8,hi,hd,hw];exact ih _ ⟨by simp [h0],by simp [h1,Entry.ce],by simp [h7],by simp⟩
 ·rintro e L hL ⟨h0,h1,h7,h8⟩;rw [L8];simp [c_188_l0,c_188_k1,h7,h8,hL]
 ·simp
theorem UD (l:List Rw) (x:Entry) (hl:l.length<2^40) (hs:∀r∈l,r.entry.keys.length<2^40):aA Φ kP [.slice 5 (l.map Rw.c),.func (.func jB) [] [.iptr 4 [Entry.c x] 0 0]]=some (.val (.bool (l.any fun r=>sk r.entry x))):=by
 rw [aD rfl rfl];have h:=VM l x hl hs;simp only [Entry.ce] at h;rw [<- SD];simp [wG,Entry.ce,h]
theorem qy8 {O:List (Nat×AO)} {N:Nat} {S:SV} {p:Prg} {c:Xf} (m:StoreM O S p c) (f:PrgS p) (v:CfgV p c) (s:CfgT c) (hT:Tail O N) (t:Int) (x:Entry) (hx:EntS x):
  MDpost N O S p (if insE p c t x=0 then insC c t x else c) (.tup [a8 (if insE p c t x=0 then tG c t else 0),a8 (insE p c t x)]) (aI Φ nT [.ptr S.s 15 0 0,a8 t,.agg (Entry.c x)] ⟨O,N⟩):=by
 rw [dA rfl rfl];have t0:=hT N (Qb _);have hl:=v.rl;have hk1:Kp (fun j=>S.own j\/Rs O j) N O (O++[(N,AO.row 4 [Entry.c x])]):=Kp.app (fun _ _ _=>rfl) (Qb _);have hT1:=hT.app1 (o:=AO.row 4 [Entry.c x]) (Qb N);have m1:StoreM (O++[(N,AO.row 4 [Entry.c x])]) S p c:=m.kp (X:=fun _=>False) hT (Kp.app (fun _ _ _=>rfl) (Qb _)) (by simp);have b1:look N (O++[(N,AO.row 4 [Entry.c x])])=some (.row 4 [Entry.c x]):=by rw [aC,t0];simp
 have same:insE p c t x≠0->MDpost N O S p (if insE p c t x=0 then insC c t x else c) (.tup [a8 (if insE p c t x=0 then tG c t else 0),a8 (insE p c t x)]) (some (.val (.tup [a8 0,a8 (insE p c t x)]),⟨O++[(N,AO.row 4 [Entry.c x])],N+1⟩)):=by
  intro h;rw [QA h,QA h];exact ⟨S,_,_,rfl,m1,rfl,fun j hj=> .inl hj,hk1,hT1,by omega⟩
 have hs:=m1.se;have ht:=Eg (N:=N+1) m1 hl t;have he:=Of p f t x hx;simp only [Prg.e] at he;simp only [Entry.ce] at b1 hs ht he same;cases z:inT p t with
 | false=>
  have hE:insE p c t x=8:=by simp [insE,z]
  rw [z] at ht;have same:=same (by rw [hE];decide);rw [hE] at same ⊢;simp [iV,Entry.ce,t0,hs,ht];simpa using same
 | true=>
 obtain ⟨k,rfl,hk⟩:=D1 z;have hk':k<c.rows.length:=by omega
 have hkn:k<c.Xr.length:=by rw [v.nl];exact hk
 have hrow:iL c (k:Int)=c.rows[k]:=AD hk';have hnx:tG c (k:Int)=c.Xr[k]:=QO hkn;have hsz:OG p (k:Int)=p.Xn[k].size:=Df hk;have hE:insE p c k x=if entE p k x≠0 then entE p k x else if (c.rows[k].any fun y=>sk y.entry x)=true then 7 else if p.Xn[k].size<=c.rows[k].length\/1073741824<=c.Xr[k] then 13 else 0:=by
  unfold insE;rw [z,hrow,hnx,hsz];simp
 rw [z] at ht;by_cases y:entE p k x=0
 rotate_left
 ·rw [aE y] at hE;have same:=same (by rw [hE];exact y);rw [hE] at same ⊢;simp [iV,Entry.ce,t0,hs,ht,b1,he,y];simpa [y] using same
 rw [QA (by simpa using y)] at hE;rw [y] at he;obtain ⟨rid,es1,e1,lr,hle1,⟨hV,g1,g5⟩,ht1⟩:=m1.tab hk';have hsl:=s.rs _ (Qd hk');have hcon:=UD c.rows[k] x hsl.1 fun r hr=>(hsl.2 r hr).kl
 have hsnp:=fun n=>g5.snp (N:=N+1) (n:=n)
 have hsn2:∀n,snap (n+2) ⟨O++[(N,AO.row 4 [Entry.c x])],N+1⟩ S.V[k]=some (.slice 5 (c.rows[k].map Rw.c)):=fun n=>by
  rw [hsnp (n+1),CZ (n:=n+1) (fun x=>SG x)];rfl
 have hsn3:=hsn2 38;rw [e1] at hs;simp only [Entry.ce] at hcon hsn3 lr;cases w:c.rows[k].any fun y=>sk y.entry x with
 | true=>
  rw [aE w] at hE;have same:=same (by rw [hE];decide);rw [w] at hcon;rw [hE] at same ⊢;simp [iV,Entry.ce,t0,hs,ht,b1,he,lr,hk',g1,hsn3,hcon];simpa using same
 | false=>
 rw [QA (by rw [w];decide)] at hE;rw [w] at hcon;have hvl:=g5.len;rw [cT] at hvl;obtain ⟨nid,esn,e2,ln,hle2,ht2⟩:=m1.cm.n.nonempty (by simp;omega);rw [cT] at e2 hle2;have gn:=D0 hkn ht2;rw [cIe] at gn;rw [e2] at hs;simp only [Entry.ce] at ln;have hkt:=hk;by_cases u:p.Xn[k].size<=c.rows[k].length
 ·rw [aE (.inl u)] at hE;have same:=same (by rw [hE];decide);rw [hE] at same ⊢;simp [iV,Entry.ce,Tbl.e,t0,hs,ht,b1,he,lr,hk',g1,hsn3,hcon,hvl,ln,hkn,gn,hkt,u,-lenOf];simpa using same
 by_cases q:1073741824<=c.Xr[k]
 ·rw [aE (.inr q)] at hE;have same:=same (by rw [hE];decide);rw [hE] at same ⊢;simp [iV,Entry.ce,Tbl.e,t0,hs,ht,b1,he,lr,hk',g1,hsn3,hcon,hvl,ln,hkn,gn,hkt,u,q,-lenOf];simpa using same
 rw [QA (by omega)] at hE;rw [hE];have hM:=m1.x.len;obtain ⟨iid,esi,e3,li,hle3,hMk,gi,lm⟩:=m1.idx hk';rw [e3] at hs;simp only [Entry.ce] at li lm;have hv:=v.at hk;have hput:=Es c.Xr[k] (a8 (c.rows[k].length:Nat)) c.rows[k] 0 fun r hr=>by have:=hv.lt r hr;omega
 rw [show pG c.rows[k] 0=ents c.rows[k] from rfl] at hput;have hce:=Ln x hx.al hx.kl;simp only [Entry.ce] at hce;simp [iV,Entry.ce,Tbl.e,t0,hs,ht,b1,he,lr,hk',g1,hsn3,hcon,hvl,ln,hkn,gn,hkt,u,q,li,lm,gi,hput,-lenOf,-VI];generalize hO2:setl S.M[k] (AO.map (ents c.rows[k]++[(AV.int IntKind.i64 c.Xr[k],AV.int IntKind.i64 (c.rows[k].length:Nat))])) (O++[(N,AO.row 4 [[AV.slice 2 (List.map Xi.c x.keys),AV.int IntKind.i64 x.Xt,AV.int IntKind.i64 x.call.Xz,AV.slice 1 (List.map c32 x.call.args)]])])=O2;rw [<- Entry.ce] at hO2;have hlm:look S.M[k] (O++[(N,AO.row 4 [Entry.c x])])=some (.map (ents c.rows[k])):=m1.x.m k _ _ (Qa hMk) (Qa hk');have k2:∀j,j≠S.M[k]->look j O2=look j (O++[(N,AO.row 4 [Entry.c x])]):=fun j hj=>by rw [<- hO2,aB,QA hj]
 have hT2:Tail O2 (N+1):=by rw [<- hO2];exact bV hT1
 have kr:∀j z es,look j (O++[(N,AO.row 4 [Entry.c x])])=some (.row z es)->look j O2=some (.row z es):=fun j z es hj=>by rw [k2 j (aP hj hlm (by simp)),hj]
 have ls2:=kr S.s _ _ (by simp only [Entry.ce];exact hs);have lr2:=kr rid _ _ (by simp only [Entry.ce];exact lr);have ln2:=kr nid _ _ (by simp only [Entry.ce];exact ln);have lb2:=kr N _ _ (by simp only [Entry.ce];exact b1);have lm2:look S.M[k] O2=some (.map (ents c.rows[k]++[(AV.int IntKind.i64 c.Xr[k],AV.int IntKind.i64 (c.rows[k].length:Nat))])):=by rw [<- hO2,aB,aE rfl,hlm];rfl
 clear hO2;have u0:=hT2 (N+1+112) (by omega);have fsx:=BC (n:=N+1+112) hT2 ls2 (by omega);have frx:=BC (n:=N+1+112) hT2 lr2 (by omega);have fnx:=BC (n:=N+1+112) hT2 ln2 (by omega);have fnb:¬N=N+1+112/\¬N+1+112=N:=by omega
 have hrn:¬rid=nid:=fun e=>m1.cm.rn rid (by rw [e1];rfl) (by rw [e2,e];rfl)
 have hnr:¬nid=rid:=fun e=>hrn e.symm
 have hwr:IntKind.wrap .i64 (c.Xr[k]+1)=c.Xr[k]+1:=fG (by have:=hv.nx0;omega) (by omega);have hsr:=aP ls2 lr2 (by simp);have hsn:=aP ls2 ln2 (by simp);have hrs:=hsr.symm;have hns:=hsn.symm;have hbeq:(S.s == N+1+112)=false:=by simp [fsx]
 have hkl1:k<es1.length:=by omega
 have hkln:k<esn.length:=by omega
 have hci:insC c (k:Int) x=⟨c.rows.set k (c.rows[k]++[⟨c.Xr[k],x⟩]),c.Xr.set k (c.Xr[k]+1),c.Xq,c.Xm⟩:=by
  unfold insC;rw [hrow,hnx];simp
 have hsnoc:ents (c.rows[k]++[⟨c.Xr[k],x⟩])=ents c.rows[k]++[(AV.int IntKind.i64 c.Xr[k],AV.int IntKind.i64 (c.rows[k].length:Nat))]:=Lt _ _;have hVl:=m1.cm.rl;have fin:∀(O':List (Nat×AO)) (N':Nat) (v':AV),Tail O' N'->N<=N'->look rid O'=some (.row 1 (es1.set k [v']))->look nid O'=some (.row 1 (esn.set k [a8 (c.Xr[k]+1)]))->
   (∀j,j<N+1->j≠rid->j≠nid->(∀i,vid S.V[k]=some i->j≠i)->look j O2≠some .res->look j O'=look j O2)->Mu O' 5 v' ((c.rows[k]++[Rw.mk c.Xr[k] x]).map Rw.c)->(∀z es t,v'≠ .app z es t)->(∀i,vid v'=some i->vid S.V[k]=some i\/N+1<=i)->
   MDpost N O S p (insC c (k:Int) x) (.tup [a8 (tG c (k:Int)),a8 0]) (some (.val (.tup [a8 c.Xr[k],a8 0]),⟨O',N'⟩)):=by
  intro O' N' v' hT' hN' a1 a2 a3 a4 a5 a6;rw [hnx,hci];have own1:S.own rid:= .inr (.inl (.inl (by rw [e1];rfl)));have own2:S.own nid:= .inr (.inl (.inr (.inl (by rw [e2];rfl))));have own3:S.own S.M[k]:= .inr (.inr (.inr (Qd hMk)));have own4:∀i,vid S.V[k]=some i->S.own i:=fun i hi=> .inr (.inl (.inr (.inr (.inr ⟨_,Qd hV,hi⟩))))
  have keep:∀j,S.own j->¬S.chg k j->look j O'=look j (O++[(N,AO.row 4 [Entry.c x])]):=by
   intro j hj hc;obtain ⟨w,hw,hwn⟩:=m1.own_lk hj;have h2:look j O2=some w:=by
    rw [k2 j (fun e=>hc (.inr (.inr (.inr (.inr (by rw [e];exact Qa hMk)))))),hw]
   rw [a3 j (hT1.lt hw) (fun e=>hc (.inr (.inl (by rw [e,e1];rfl)))) (fun e=>hc (.inr (.inr (.inl (by rw [e,e2];rfl))))) (fun i hi e=>hc (.inl ⟨_,Qa hV,by rw [e];exact hi⟩)) (by rw [h2];simpa using hwn),h2,hw]
  have h5no:∀i,vid S.V[k]=some i->∃es,look i (O++[(N,AO.row 4 [Entry.c x])])=some (.row 5 es):=fun i hi=>m1.vrow (Qa hV) hi
  have up:=m1.upd (k:=k) (v':=v') (m':=S.M[k]) (l':=c.rows[k]++[⟨c.Xr[k],x⟩]) (nx:=c.Xr[k]+1) (O':=O') hk' keep
   (by
    have hmu:=Mu.upd (O':=O') (id:=rid) (z:=1) (k:=k) (es:=S.V.map fun x=>[x]) (es0:=es1) (y:=[v']) a1 (by rw [cT,hVl];exact hle1) (by rw [cT,hVl];exact ht1);rw [cT,hVl] at hmu;rw [e1,vL];exact hmu)
   (by
    have hmu:=Mu.upd (O':=O') (id:=nid) (z:=1) (k:=k) (es:=c.Xr.map cI) (es0:=esn) (y:=[a8 (c.Xr[k]+1)]) a2 (by rw [cT];exact hle2) ht2;rw [cT] at hmu;rw [e2,vL,cIe];exact hmu)
   (by
    have hmm:S.M.set k S.M[k]=S.M:=by simp
    rw [hmm];refine m1.x.i.fr fun i hi=>?_
    obtain ⟨es0,hl0⟩:=m1.x.i.own hi;have h2:=kr i _ _ hl0;rw [a3 i (hT1.lt hl0) (fun e=>m1.ri i (by rw [e,e1];rfl) hi) (fun e=>m1.ni i (by rw [e,e2];rfl) hi) (fun i' hi' e=>by obtain ⟨es5,h5⟩:=h5no i' hi';exact aP hl0 h5 (by simp) e) (by rw [h2];simp),h2,hl0])
   a4
   (by
    rw [hsnoc,<- lm2];refine a3 _ (hT1.lt hlm) (fun e=>?_) (fun e=>?_) (fun i hi e=>?_) (by rw [lm2];simp)
    ·exact aP lm2 lr2 (by simp) e
    ·exact aP lm2 ln2 (by simp) e
    ·obtain ⟨es5,h5⟩:=h5no i hi;exact aP lm2 (kr i _ _ h5) (by simp) e)
   a5
   (fun i hi=>by
    rcases a6 i hi with h | h
    ·exact .inl ⟨_,Qa hV,h⟩
    ·exact .inr fun w hw=>by have:=hT1.lt hw;omega)
   (.inl (Qa hMk))
  refine ⟨S.tab k v' S.M[k],O',N',rfl,up,rfl,?_,?_,hT',hN'⟩
  ·intro j hj;rcases hj with hj | hj | hj | hj
   ·exact .inl (.inl hj)
   ·rcases hj with hj | hj | hj | ⟨w,hw,hj⟩
    ·exact .inl (.inr (.inl (.inl hj)))
    ·exact .inl (.inr (.inl (.inr (.inl hj))))
    ·exact .inl (.inr (.inl (.inr (.inr (.inl hj)))))
    ·rcases Qq hw with hw | rfl
     ·exact .inl (.inr (.inl (.inr (.inr (.inr ⟨w,hw,hj⟩)))))
     ·rcases a6 j hj with h | h
      ·exact .inl (own4 j h)
      ·exact .inr (by omega)
   ·exact .inl (.inr (.inr (.inl hj)))
   ·simp only [SV.tab] at hj;rcases Qq hj with hj | rfl
    ·exact .inl (.inr (.inr (.inr hj)))
    ·exact .inl own3
  ·intro j hj hx;have hx1:¬S.own j:=fun h=>hx (.inl h)
   have hx2:¬look j O=some .res:=fun h=>hx (.inr h)
   have h1:=hk1 j hj hx;have h2:=k2 j (fun e=>hx1 (by rw [e];exact own3));rw [a3 j (by omega) (fun e=>hx1 (by rw [e];exact own1)) (fun e=>hx1 (by rw [e];exact own2)) (fun i hi e=>hx1 (by rw [e];exact own4 i hi)) (by rw [h2,h1];exact hx2),h2,h1]
 cases hVk:S.V[k] with
 | Xu z es=>
  rw [hVk] at g5 g1;have hl0:c.rows[k]=[]/\z=5/\es=[]:=by
   generalize hgen:c.rows[k].map Rw.c=gl at g5;cases g5;exact ⟨by simpa using hgen,rfl,rfl⟩
  obtain ⟨hl0,rfl,rfl⟩:=hl0;simp [ls2,lr2,ln2,lb2,u0,aC,aB,aR,fsx,frx,fnx,fnb,hk',hkn,g1,hce,gn,hnr,hwr,hbeq,hsr];refine fin _ (N+1+112+1) (.row (N+1+112) 5 0 1) ?_ (by omega) ?_ ?_ ?_ ?_ (by simp) (by intro i hi;cases hi;right;omega)
  ·refine bV (CU (bV ?_));exact NM (hT2.mono (by omega)) (vJ _)
  ·simp [aB,aR,aC,lr2,hrn]
  ·simp [aB,aR,aC,ln2,hnr]
  ·intro j hj b1 b2 b3 b4;have hj2:¬N+1+112=j:=by omega
   have hi:look j (setl rid (AO.row 1 (es1.set k [.row (N+1+112) 5 0 1])) (O2++[(N+1+112,AO.row 5 [[AV.int IntKind.i64 c.Xr[k],AV.slice 2 (List.map Xi.c x.keys),AV.int IntKind.i64 x.Xt,AV.int IntKind.i64 x.call.Xz,AV.slice 1 (List.map c32 x.call.args)]])]))=look j O2:=by
    rw [aB,QA b1,aC];simp [look,hj2]
   rw [aB,QA b2,aR (by rw [hi];exact b4),hi]
  ·refine .row (N+1+112) _ [Rw.c (Rw.mk c.Xr[k] x)] _ (by simp [hl0]) ?_ (by simp [hl0]) (by simp [hl0]);simp [aB,aR,fnx,frx,u0,Rw.ce]
 | row id5 z off n=>
  rw [hVk] at g5 g1;have hg:z=5/\off=0/\n=c.rows[k].length/\∃es5,look id5 (O++[(N,AO.row 4 [Entry.c x])])=some (.row 5 es5)/\c.rows[k].length<=es5.length/\es5.take c.rows[k].length=c.rows[k].map Rw.c:=by
   generalize hgen:c.rows[k].map Rw.c=gl at g5;have hlen:gl.length=c.rows[k].length:=by rw [<- hgen];simp
   cases g5 with
   | row _ _ es5 _ hn hl5 hle5 ht5=>exact ⟨rfl,rfl,by omega,es5,hl5,by omega,by rw [<- hlen];exact ht5⟩
  obtain ⟨rfl,rfl,rfl,es5,hl5,hle5,ht5⟩:=hg;have l52:=kr _ _ _ hl5;have f5:=BC (n:=N+1+112) hT2 l52 (by omega);have h5s:=aP l52 ls2 (by simp);have h5r:=aP l52 lr2 (by simp);have h5n:=aP l52 ln2 (by simp);have hs5:=h5s.symm;have hr5:=h5r.symm;have hn5:=h5n.symm;have h5b:=aP l52 lb2 (by simp);have hb5:=h5b.symm;have hq5:(S.s == id5)=false:=by simpa using hs5
  have hbd:(c.rows[k].length+1)*72<=70368744177664:=by have:=v.small _ (Qd hk');omega
  have hls:=v.small _ (Qd hk');have hres:look (N+1+112) (O2++[(N+1+112,AO.res)])=some .res:=by rw [aC,u0];simp
  have hdr:look (N+1+112) (bW id5 (O2++[(N+1+112,AO.res)]))=some .res:=by rw [bK (fun e=>f5.2 e),hres]
  by_cases hfull:c.rows[k].length=es5.length
  ·have hbd2:(es5.length+1)*72<=70368744177664:=by rw [<- hfull];exact hbd
   simp [ls2,lr2,ln2,lb2,u0,aC,aB,aR,bK,fsx,frx,fnx,fnb,hk',hkn,g1,hce,gn,hnr,hwr,hbeq,hsr,l52,f5,hs5,hr5,hn5,hq5,hbd2,hfull,hdr];refine fin _ (N+1+112+1) (.row (N+1+112) 5 0 (es5.length+1)) ?_ (by omega) ?_ ?_ ?_ ?_ (by simp) (by intro i hi;cases hi;right;omega)
   ·refine bV (CU (bV (bV (G8 ?_))));exact NM (hT2.mono (by omega)) (vJ _)
   ·simp [aB,aR,aC,bK,lr2,hrn,frx,hr5]
   ·simp [aB,aR,aC,bK,ln2,hnr,fnx,hn5]
   ·intro j hj b1 b2 b3 b4;have hj2:¬N+1+112=j:=by omega
    have hj3:¬j=N+1+112:=by omega
    have hj5:j≠id5:=b3 id5 (by rw [hVk];rfl);have hi:∀A B,look j (setl rid A (setl (N+1+112) B (bW id5 (O2++[(N+1+112,AO.res)]))))=look j O2:=by
     intro A B;rw [aB,QA b1,aB,QA hj3,bK hj5,aC];simp [look,hj2]
    rw [aB,QA b2,aR (by rw [hi];exact b4),hi]
   ·have htk:es5=c.rows[k].map Rw.c:=by rw [<- ht5,hfull,iI]
    refine .row (N+1+112) _ (es5++[Rw.c (Rw.mk c.Xr[k] x)]) _ (by simp [hfull]) ?_ (by simp [htk]) (by simp [htk,Qo]);simp [aB,aR,hdr,fnx,frx,Rw.ce]
  ·have hlt:c.rows[k].length<es5.length:=by omega
   have hlt2:c.rows[k].length+1<=es5.length:=by omega
   have hne:¬es5.length=c.rows[k].length:=by omega
   simp [ls2,lr2,ln2,lb2,u0,aC,aB,aR,fsx,frx,fnx,fnb,hk',hkn,g1,hce,gn,hnr,hwr,hsr,l52,f5,hs5,hr5,hn5,hq5,hbd,hfull,hlt2];refine fin _ (N+1+112+1) (.row id5 5 0 (c.rows[k].length+1)) ?_ (by omega) ?_ ?_ ?_ ?_ (by simp) (by intro i hi;cases hi;left;rw [hVk];rfl)
   ·refine bV (CU (bV (bV ?_)));exact NM (hT2.mono (by omega)) (vJ _)
   ·simp [aB,aR,aC,lr2,hrn,hr5]
   ·simp [aB,aR,aC,ln2,hnr,hn5]
   ·intro j hj b1 b2 b3 b4;have hj2:¬N+1+112=j:=by omega
    have hj5:j≠id5:=b3 id5 (by rw [hVk];rfl);have hi:∀A B,look j (setl rid A (setl id5 B (O2++[(N+1+112,AO.res)])))=look j O2:=by
     intro A B;rw [aB,QA b1,aB,QA hj5,aC];simp [look,hj2]
    rw [aB,QA b2,aR (by rw [hi];exact b4),hi]
   ·refine .row id5 _ (es5.take c.rows[k].length++Rw.c (Rw.mk c.Xr[k] x)::es5.drop (c.rows[k].length+1)) _ (by simp) ?_ (by simp;omega) ?_
    ·simp [aB,aR,aC,l52,h5r,h5n,Rw.ce]
    ·rw [cT,tQ,List.length_singleton,B5,ht5];have hll:(c.rows[k].map Rw.c).length=c.rows[k].length:=by simp
     rw [List.take_append,hll,Qo (by rw [hll];omega),show c.rows[k].length+1 - c.rows[k].length=1 by omega];simp
 | app z es t=>exact absurd hVk (m1.cm.va _ (Qd hV) _ _ _)
 | _=>rw [hVk] at g5;cases g5
theorem LC {α:Type} {f:Nat->Option α} {Q:α->Prop} (h:∀i x,f i=some x->Q x) {N:Nat} {x:α} (hx:fe f N 0=some x):Q x:=by
 obtain ⟨k,_,hk⟩:=GH hx;exact h k x hk
theorem YS {p:Prg} {d:Dg} (h:limD p=some d):d.1≠0:=by
 unfold limD at h
 repeat' split at h
 all_goals first | (cases h;simp;done) | cases h
theorem YP {p:Prg} {d:Dg} (h:hdrD p=some d):d.1≠0:=by
 refine LC (Q:=fun d:Dg=>d.1≠0) (fun i x hx=>?_) h;rw [Qt] at hx;obtain ⟨a,_,hx⟩:=hx;split at hx
 ·cases hx
 ·cases hx;assumption
theorem YU {p:Prg} {d:Dg} (h:metD p=some d):d.1≠0:=by
 unfold metD at h;split at h
 ·cases h;simp
 split at h
 ·rename_i d' hd';cases h;refine LC (Q:=fun d:Dg=>d.1≠0) (fun i x hx=>?_) hd';rw [Qt] at hx;obtain ⟨a,_,hx⟩:=hx;split at hx
  ·cases hx
  ·cases hx;assumption
 ·refine LC (Q:=fun d:Dg=>d.1≠0) (fun i x hx=>?_) h;split at hx
  ·cases hx
  ·cases hx;simp
theorem ZG {p:Prg} {d:Dg} (h:regD p=some d):d.1≠0:=by
 refine LC (Q:=fun d:Dg=>d.1≠0) (fun i x hx=>?_) h;rw [Qt] at hx;obtain ⟨a,_,hx⟩:=hx;split at hx
 ·cases hx
 ·cases hx;assumption
theorem XM {p:Prg} {d:Dg} (h:SK p=some d):d.1≠0:=by
 refine LC (Q:=fun d:Dg=>d.1≠0) (fun i x hx=>?_) h;rw [Qt] at hx;obtain ⟨a,_,hx⟩:=hx;split at hx
 ·cases hx;assumption
 ·split at hx
  ·cases hx;simp
  ·cases hx
theorem ZA {p:Prg} {d:Dg} (h:tblD p=some d):d.1≠0:=by
 refine LC (Q:=fun d:Dg=>d.1≠0) (fun i x hx=>?_) h;rw [Qt] at hx;obtain ⟨a,_,hx⟩:=hx;split at hx
 ·cases hx;assumption
 ·split at hx
  ·cases hx;simp
  ·cases hx
theorem YJ {p:Prg} {d:Dg} (h:floD p=some d):d.1≠0:=by
 unfold floD at h;split at h
 ·cases h;assumption
 split at h
 ·cases h;assumption
 split at h
 ·cases h;assumption
 ·cases h
structure PrgV (p:Prg):Prop where
 lim:limD p=none
 hdr:hdrD p=none
 met:metD p=none
 reg:regD p=none
 act:SK p=none
 tbl:tblD p=none
 flo:floD p=none
theorem Ny {p:Prg} (h:(prgD p).1=0):PrgV p:=by
 unfold prgD at h;cases h1:limD p with
 | some d=>rw [h1] at h;exact absurd h (YS h1)
 | none=>
 cases h2:hdrD p with
 | some d=>rw [h1,h2] at h;exact absurd h (YP h2)
 | none=>
 cases h3:metD p with
 | some d=>rw [h1,h2,h3] at h;exact absurd h (YU h3)
 | none=>
 cases h4:regD p with
 | some d=>rw [h1,h2,h3,h4] at h;exact absurd h (ZG h4)
 | none=>
 cases h5:SK p with
 | some d=>rw [h1,h2,h3,h4,h5] at h;exact absurd h (XM h5)
 | none=>
 cases h6:tblD p with
 | some d=>rw [h1,h2,h3,h4,h5,h6] at h;exact absurd h (ZA h6)
 | none=>
 cases h7:floD p with
 | some d=>rw [h1,h2,h3,h4,h5,h6,h7] at h;exact absurd h (YJ h7)
 | none=>exact ⟨h1,h2,h3,h4,h5,h6,h7⟩
theorem PrgV.nest {p:Prg} (v:PrgV p):nest p.Yb<=6:=by
 have h:=v.flo;unfold floD at h;split at h
 ·cases h
 split at h
 ·cases h
 rename_i h1;refine Decidable.byContradiction fun hc=>h1 ?_
 unfold ctlE;split
 ·simp
 ·rw [aE (by omega)];simp
theorem PrgV.tabs {p:Prg} (v:PrgV p):p.Xn.length<=12:=by
 have h:=v.lim;unfold limD at h
 repeat' split at h
 all_goals first | omega | cases h
theorem D6 {α:Type} (f:α->α->Bool):∀l:List α,(∀x∈l,f x x=true)->eqL f l l=true
 | [],_=>by simp [eqL]
 | x::r,h=>by simp [eqL,h x (H9 ..),D6 f r (fun y hy=>h y (vI _ hy))]
def Rf (n:Nat) (v:AV):Prop:=avEq n v v=true
theorem Rf.int (n:Nat) (k:IntKind) (v:Int):Rf (n+1) (.int k v):=by unfold Rf avEq;simp
theorem Rf.bool (n:Nat) (b:Bool):Rf (n+1) (.bool b):=by unfold Rf avEq;simp
theorem Rf.str (n:Nat) (b:List UInt8):Rf (n+1) (.str b):=by unfold Rf avEq;simp
theorem Rf.row (n a b c d:Nat):Rf (n+1) (.row a b c d):=by unfold Rf avEq;simp
theorem Rf.slice (n z:Nat) (es:List (List AV)) (h:∀e∈es,∀c∈e,Rf n c):Rf (n+1) (.slice z es):=by
 have:=D6 (eqL (avEq n)) es fun e he=>D6 (avEq n) e (h e he)
 unfold Rf avEq;simp [this]
theorem Rf.Xu (n z:Nat) (es:List (List AV)) (h:∀e∈es,∀c∈e,Rf n c):Rf (n+1) (.Xu z es):=by
 have:=D6 (eqL (avEq n)) es fun e he=>D6 (avEq n) e (h e he)
 unfold Rf avEq;simp [this]
theorem Rf.app (n z t:Nat) (es:List (List AV)) (h:∀e∈es,∀c∈e,Rf n c):Rf (n+1) (.app z es t):=by
 have:=D6 (eqL (avEq n)) es fun e he=>D6 (avEq n) e (h e he)
 unfold Rf avEq;simp [this]
theorem Rf.map {α:Type} (n z:Nat) (f:α->List AV) (l:List α) (h:∀x∈l,∀c∈f x,Rf n c):Rf (n+1) (.slice z (l.map f)):=by
 refine Rf.slice n z _ fun e he=>?_
 obtain ⟨x,hx,rfl⟩:=oZ.1 he;exact h x hx
theorem Fo (n:Nat) (x:Xe):∀c∈Xe.c x,Rf (n+1) c:=by
 simp [Xe.c,Rf.int]
theorem Hb (n:Nat) (x:Fld):∀c∈Fld.c x,Rf (n+1) c:=by
 simp [Fld.c,Rf.int,Rf.str]
theorem rf_I (n:Nat) (x:Int):∀c∈cI x,Rf (n+1) c:=by simp [cI,Rf.int]
theorem Hm (n:Nat) (x:Int):∀c∈c32 x,Rf (n+1) c:=by simp [c32,Rf.int]
theorem Ha:∀(k:Nat) (l:List Xa),nest l<=k->Rf (k+3) (.slice 5 (l.map Xa.c))
 | 0,l,h=>by
  cases l with
  | nil=>exact Rf.slice _ _ _ (by simp)
  | cons x l=>simp only [nest] at h;omega
 | k+1,l,h=>by
  have key:∀x∈l,SS x<=k:=by
   intro x hx;have:∀l:List Xa,x∈l->1+SS x<=nest l:=by
    intro l
    induction l with
    | nil=>intro h;cases h
    | cons y l ih=>
     intro h;simp only [nest];rcases fJ.1 h with rfl | h
     ·omega
     ·have:=ih h;omega
   have:=this l hx;omega
  refine Rf.map _ _ _ _ fun x hx=>?_
  have hk:=key x hx;cases x with
  | mk kd t cnd a b=>
   simp only [SS] at hk;rw [Xa.ce];intro c hc;simp only [fJ,tT,or_false] at hc;rcases hc with rfl | rfl | rfl | rfl | rfl
   ·exact Rf.int _ _ _
   ·exact Rf.int _ _ _
   ·exact Rf.map _ _ _ _ fun x _=>Fo _ x
   ·exact Ha k a (by omega)
   ·exact Ha k b (by omega)
theorem Aj {p:Prg} (v:PrgV p):∀c∈Prg.c p,Rf 40 c:=by
 rw [Prg.ce];intro c hc;simp only [fJ,tT,or_false] at hc;rcases hc with rfl | rfl | rfl | rfl | rfl | rfl | rfl | rfl | rfl
 ·exact Rf.str _ _
 ·refine Rf.map _ _ _ _ fun x _=>?_
  simp only [Xj.c,fJ,tT,or_false];rintro c (rfl | rfl)
  ·exact Rf.str _ _
  ·exact Rf.map _ _ _ _ fun x _=>Hb _ x
 ·exact Rf.map _ _ _ _ fun x _=>Hb _ x
 ·refine Rf.map _ _ _ _ fun x _=>?_
  simp [Xh.c,Rf.int,Rf.str]
 ·refine Rf.map _ _ _ _ fun x _=>?_
  rw [Action.ce];simp only [fJ,tT,or_false];rintro c (rfl | rfl | rfl)
  ·exact Rf.str _ _
  ·exact Rf.map _ _ _ _ fun x _=>Hb _ x
  ·refine Rf.map _ _ _ _ fun x _=>?_
   rw [Xg.ce];simp only [fJ,tT,or_false];rintro c (rfl | rfl | rfl | rfl | rfl | rfl | rfl)
   ·exact Rf.int _ _ _
   ·exact Rf.int _ _ _
   ·exact Rf.int _ _ _
   ·exact Rf.int _ _ _
   ·exact Rf.int _ _ _
   ·exact Rf.map _ _ _ _ fun x _=>Fo _ x
   ·exact Rf.map _ _ _ _ fun x _=>Fo _ x
 ·refine Rf.map _ _ _ _ fun x _=>?_
  rw [Tbl.ce];simp only [fJ,tT,or_false];rintro c (rfl | rfl | rfl | rfl | rfl | rfl)
  ·exact Rf.str _ _
  ·exact Rf.map _ _ _ _ fun x _=>by simp [Xl.c,Rf.int]
  ·exact Rf.map _ _ _ _ fun x _=>rf_I _ x
  ·exact Rf.int _ _ _
  ·exact Rf.map _ _ _ _ fun x _=>Hm _ x
  ·exact Rf.int _ _ _
 ·refine Rf.map _ _ _ _ fun x _=>?_
  rw [Xd.ce];simp only [fJ,tT,or_false];rintro c (rfl | rfl | rfl | rfl | rfl | rfl | rfl)
  ·exact Rf.str _ _
  ·exact Rf.map _ _ _ _ fun x _=>rf_I _ x
  ·exact Rf.bool _ _
  ·exact Rf.int _ _ _
  ·exact Rf.int _ _ _
  ·exact Rf.map _ _ _ _ fun x _=>by simp [Xk.c,Rf.int]
  ·exact Rf.int _ _ _
 ·have:=v.nest;exact Ha 37 p.Yb (by omega)
 ·exact Rf.map _ _ _ _ fun x _=>rf_I _ x
theorem SX {O:List (Nat×AO)} {z n:Nat} {v:AV} {es:List (List AV)} (h:Mu O z v es):Rf (n+1) v:=by
 cases h with
 | nilF=>exact Rf.Xu _ _ _ (by simp)
 | nilA=>exact Rf.app _ _ _ _ (by simp)
 | row=>exact Rf.row _ _ _ _ _
theorem qw7 {O:List (Nat×AO)} {S:SV} {p:Prg} {c:Xf} (m:StoreM O S p c) (v:PrgV p):aoEq (some (.row 15 [S.cells p])) (some (.row 15 [S.cells p]))=true:=by
 have h:∀x∈S.cells p,avEq 40 x x=true:=by
  intro x hx;simp only [SV.cells,fJ,eU,tT,or_false] at hx;rcases hx with rfl | rfl | rfl | rfl | hx | rfl | rfl
  ·exact SX m.cm.r
  ·exact SX m.cm.n
  ·exact SX m.cm.d
  ·rcases m.cm.g with e | ⟨t,e⟩<;>rw [e]
   ·refine Rf.Xu _ _ _ fun e he=>?_
    obtain ⟨l,_,rfl⟩:=oZ.1 he;simp only [cS,fJ,tT,or_false];rintro c rfl;exact Rf.map _ _ _ _ fun x _=>Hm _ x
   ·refine Rf.app _ _ _ _ fun e he=>?_
    obtain ⟨l,_,rfl⟩:=oZ.1 he;simp only [cS,fJ,tT,or_false];rintro c rfl;exact Rf.map _ _ _ _ fun x _=>Hm _ x
  ·exact Aj v x hx
  ·exact SX m.x.i
  ·exact Rf.bool _ _
 have h1:=D6 (avEq 40) _ h;unfold aoEq;simp [b8,eqL,h1]
theorem GA {t:Nat} {y z:AO}:∀{O:List (Nat×AO)},setl t z (setl t y O)=setl t z O
 | []=>by simp
 | (u,w)::r=>by
  by_cases hu:u=t
  ·subst hu;simp
  ·simp [hu,GA]
theorem ZT {O:List (Nat×AO)} {N id n i:Nat} {es:List (List AV)} {l:List Rw} (hl:look id O=some (.row 5 es)) (hn:n=l.length) (hle:n<=es.length) (ht:es.take n=l.map Rw.c) (hi:i<n) (hb:n<2^39):
  ∃N' es',aI Φ nZ [.row id 5 0 n,a8 i,a8 ((i:Int)+1)] ⟨O,N⟩=some (.val (.row id 5 0 (n - 1)),⟨setl id (.row 5 es') O,N'⟩)/\N<=N'/\N'<=N+1/\n - 1<=es'.length/\es'.take (n - 1)=(l.eraseIdx i).map Rw.c:=by
 rw [dA rfl rfl];have hi1:(i:Int)+1=((i+1:Nat):Int):=by omega
 have a1:i+1<=n:=by omega
 have a2:i<=i+1:=by omega
 have a3:i<=n:=by omega
 have a4:i+1<=es.length:=by omega
 have a5:i<=es.length:=by omega
 have hne:¬i=i+1:=by omega
 rw [hi1];have b1:(0:Int)<=(i:Int)+1:=by omega
 have b2:(i:Int)+1<=(n:Int):=by omega
 have b3:(i:Int)+1<=(es.length:Int):=by omega
 have c1:i+(n - (i+1))=n - 1:=by omega
 have c2:min (n - (i+1)) (es.length - (i+1))=n - (i+1):=by omega
 have c3:i+(n - (i+1))<=es.length:=by omega
 have c4:i+1+(n - (i+1))<=es.length:=by omega
 have c5:¬i=es.length:=by omega
 have c6:(((n - 1:Nat):Int))<=(n:Int):=by omega
 have c7:n - 1<=n:=by omega
 have c9:¬(i:Int)=(i:Int)+1:=by omega
 have c8:(i:Int)<=(i:Int)+1:=by omega
 have c10:n<=es.length+1:=by omega
 have hys:(es.drop (i+1)).take (n - (i+1))=(l.drop (i+1)).map Rw.c:=by
  rw [<- List.drop_take,ht,List.map_drop]
 have c11:d9 5 ((es.drop (i+1)).take (n - (i+1)))=true:=by rw [hys];exact fX 5 Rw.c _ fun x=>by simp
 have hE1l:(es.take i++((es.drop (i+1)).take (n - (i+1))++es.drop (n - 1))).length=es.length:=by
  simp only [tQ,qH,List.length_drop];omega
 have hE1t:(es.take i++((es.drop (i+1)).take (n - (i+1))++es.drop (n - 1))).take (n - 1)=(l.eraseIdx i).map Rw.c:=by
  have hti:es.take i=(l.take i).map Rw.c:=by
   have:(es.take n).take i=es.take i:=by rw [List.take_take,Nat.min_eq_left (by omega)]
   rw [<- this,ht,JU]
  rw [hys,hti,List.eraseIdx_eq_take_drop_succ,B5,<- JQ,List.take_append_of_le_length (by simp;omega)];exact Qo (by simp;omega)
 have d1:((n - 1:Nat):Int)<=(es.length:Int):=by omega
 have d2:(n:Int)<=(es.length:Int):=by omega
 have d3:n - 1+(n - (n - 1))<=es.length:=by omega
 have d4:¬n - 1=n:=by omega
 have fin:∀N',N<=N'->N'<=N+1->∀(E1 D:List (List AV)),E1.length=es.length->E1.take (n - 1)=(l.eraseIdx i).map Rw.c->
   ∃N2 es',(setl id (AO.row 5 (E1.take (n - 1)++(List.replicate (n - (n - 1)) [a8 0,.Xu 2 [],a8 0,a8 0,.Xu 1 []]++D))) O=setl id (AO.row 5 es') O/\N'=N2)/\N<=N2/\N2<=N+1/\n<=es'.length+1/\es'.take (n - 1)=(l.eraseIdx i).map Rw.c:=by
  intro N' h1 h2 E1 D h3 h4;refine ⟨N',_,⟨rfl,rfl⟩,h1,h2,?_,?_⟩
  ·simp only [tQ,qH,List.length_replicate];omega
  ·rw [List.take_append_of_le_length (by simp;omega),List.take_take,Nat.min_self,h4]
 by_cases hfull:n=es.length
 ·have hf2:=eq_true hfull;simp [yD,hl,hle,a1,a3,b1,b2,hf2,c1,c2,c5,c8,c9];rw [aE ⟨c10,c11⟩];generalize es.take i++((es.drop (i+1)).take (n - (i+1))++es.drop (n - 1))=E1 at hE1l hE1t ⊢;simp [aB,hl,hE1l,c6,c7,d2,GA,hle];exact fin N (Qb _) (by omega) E1 _ hE1l hE1t
 ·have hf2:=eq_false hfull;simp [yD,hl,hle,a1,a3,b1,b2,hf2,c1,c2,c5,c8,c9];rw [aE ⟨c10,c11⟩];generalize es.take i++((es.drop (i+1)).take (n - (i+1))++es.drop (n - 1))=E1 at hE1l hE1t ⊢;simp [aB,hl,hE1l,c6,c7,d2,GA,hle];exact fin (N+1) (by omega) (by omega) E1 _ hE1l hE1t
theorem S4:∀{l:List Pk} {H:List AV} {i:Nat} {x:Pk} {h:AV},H.length=l.length->pkN (l.set i x) (H.set i h)=(pkN l H).set i (PkN x h)
 | [],[],_,_,_,_=>rfl
 | a::l,b::H,0,x,h,_=>rfl
 | a::l,b::H,i+1,x,h,hl=>by
  have:=S4 (l:=l) (H:=H) (i:=i) (x:=x) (h:=h) (by simpa using hl);simp only [pkN,List.set_cons_succ,List.zipWith_cons_cons] at this ⊢;rw [this]
section
variable {O O':List (Nat×AO)} {n P i:Nat} {V:NetV} {f lv:AV} {C:Nat} {H:List AV} {x x':Pk} {h h':AV}
theorem NetM.setP (m:NetM O n V f C (.row P 9 0 V.pk.length) lv H) (hx:V.pk[i]? =some x) (hh:H[i]? =some h) (hP:look P O'=some (.row 9 ((pkN V.pk H).set i (PkN x' h')))) (ha:Ap O' 3 h' (x'.hops.map Hop.c)) (ht:∀t,tkn h'=some t->tkn h=some t\/look t O=none\/look t O=some .res)
  (hk:∀(j:Nat) (y:AO),look j O=some y->y≠ .res->j≠P->tkn h≠some j->look j O'=some y):NetM O' n { V with pk:=V.pk.set i x' } f C (.row P 9 0 V.pk.length) lv (H.set i h'):=by
 have hPl:look P O=some (.row 9 (pkN V.pk H)):=m.pk.id rfl;have ho:∀j,NetM.own n C (.row P 9 0 V.pk.length) lv H j->j≠P->tkn h≠some j->look j O'=look j O:=by
  intro j hj h1 h2;obtain ⟨y,hy,hny⟩:=m.nr hj;rw [hk j y hy hny h1 h2,hy]
 have hth:∀j y,look j O=some y->(∀l,y≠ .tok 3 l)->tkn h≠some j:=by
  intro j y hj hy hc;obtain ⟨l,hl⟩:=m.hk hh hc;rw [hj] at hl;cases hl;exact hy _ rfl
 have hi:i<V.pk.length:=(Qm.1 hx).1;have hiH:i<H.length:=by rw [m.hl];exact hi
 have hlh:tkn lv≠none->∀t,tkn lv=some t->tkn h≠some t:=fun _ t h1 h2=>m.hg i h t hh h2 h1
 refine ⟨by rw [ho n (.inl rfl) (aP m.row hPl (by simp)) (hth n _ m.row (by simp))];exact m.row,by rw [ho C (.inr (.inl rfl)) (aP m.cf hPl (by simp)) (hth C _ m.cf (by simp))];exact m.cf,.inr ⟨P,by rw [kA (by simp [m.hl])];simp,by rw [S4 m.hl];exact hP⟩,by simp [m.hl],?_,m.lg.fr fun t htt=>ho t (.inr (.inr (.inr (.inl htt)))) (aP (m.lg.tk htt) hPl (by simp)) (fun hc=>m.hg i h t hh hc htt),?_,?_⟩
 ·intro k y g hy hg;by_cases hki:k=i
  ·subst hki;rw [List.getElem?_set_self hi] at hy;rw [List.getElem?_set_self hiH] at hg;cases hy;cases hg;exact ha
  ·rw [List.getElem?_set_ne (Ne.symm hki)] at hy hg;refine (m.hp k y g hy hg).fr fun t htt=>?_
   obtain ⟨l,hl⟩:=m.hk hg htt;exact ho t (.inr (.inr (.inr (.inr ⟨g,Qe hg,htt⟩)))) (aP hl hPl (by simp)) fun hc=>hki (m.hi k i g h t hg hh htt hc)
 ·have key:∀(k:Nat) (g:AV) (t:Nat),k≠i->H[k]? =some g->tkn g=some t->tkn h'≠some t:=by
   intro k g t hki hg hgt hc;obtain ⟨l,hl⟩:=m.hk hg hgt;rcases ht t hc with h1 | h1 | h1
   ·exact hki (m.hi k i g h t hg hh hgt h1)
   ·rw [h1] at hl;cases hl
   ·rw [h1] at hl;cases hl
  intro k k' g g' t hg hg' hgt hgt';by_cases hki:k=i
  ·by_cases hki':k'=i
   ·rw [hki,hki']
   ·subst hki;rw [List.getElem?_set_self hiH] at hg;rw [List.getElem?_set_ne (Ne.symm hki')] at hg';cases hg;exact absurd hgt (key k' g' t hki' hg' hgt')
  ·by_cases hki':k'=i
   ·subst hki';rw [List.getElem?_set_self hiH] at hg';rw [List.getElem?_set_ne (Ne.symm hki)] at hg;cases hg';exact absurd hgt' (key k g t hki hg hgt)
   ·rw [List.getElem?_set_ne (Ne.symm hki)] at hg;rw [List.getElem?_set_ne (Ne.symm hki')] at hg';exact m.hi k k' g g' t hg hg' hgt hgt'
 ·intro k g t hg hgt hc;by_cases hki:k=i
  ·subst hki;rw [List.getElem?_set_self hiH] at hg;cases hg;have hl:=m.lg.tk hc;rcases ht t hgt with h1 | h1 | h1
   ·exact m.hg k h t hh h1 hc
   ·rw [h1] at hl;cases hl
   ·rw [h1] at hl;cases hl
  ·rw [List.getElem?_set_ne (Ne.symm hki)] at hg;exact m.hg k g t hg hgt hc
theorem NetM.setC {pv:AV} {k:Nat} {c:Xf} (m:NetM O n V f C pv lv H) (hC:look C O'=some (.row 4 ((V.cs.map Xf.c).set k (Xf.c c)))) (hk:∀(j:Nat) (y:AO),look j O=some y->y≠ .res->j≠C->look j O'=some y):NetM O' n { V with cs:=V.cs.set k c } f C pv lv H:=by
 have ho:∀j,NetM.own n C pv lv H j->j≠C->look j O'=look j O:=by
  intro j hj h1;obtain ⟨y,hy,hny⟩:=m.nr hj;rw [hk j y hy hny h1,hy]
 have hCp:∀t,vid pv=some t->t≠C:=by
  intro t ht;have h1:=m.pk.id ht;rintro rfl;rw [m.cf] at h1;cases h1
 refine ⟨by rw [ho n (.inl rfl) (aP m.row m.cf (by simp)),m.row];simp [nwR],by rw [hC,vL],m.pk.fr fun t ht=>ho t (.inr (.inr (.inl ht))) (hCp t ht),m.hl,?_,m.lg.fr fun t ht=>ho t (.inr (.inr (.inr (.inl ht)))) (aP (m.lg.tk ht) m.cf (by simp)),m.hi,m.hg⟩;intro k x h hx hh;refine (m.hp k x h hx hh).fr fun t ht=>?_
 obtain ⟨l,hl⟩:=m.hk hh ht;exact ho t (.inr (.inr (.inr (.inr ⟨h,Qe hh,ht⟩)))) (aP hl m.cf (by simp))
end
theorem qz3 {O:List (Nat×AO)} {N P i:Nat} {es:List (List AV)} {x:Pk} {h:AV} (hP:look P O=some (.row 9 es)) (hi:i<es.length) (he:es[i]? =some (PkN x h)) (k a:Int):
  aI Φ pP [.ptr P 9 i 0,a8 k,a8 a] ⟨O,N⟩=some (.val (.tup []),⟨setl P (.row 9 (es.set i (PkN (x.fin k a) h))) O,N⟩):=by
 rw [dA rfl rfl];have he':es[i]=PkN x h:=by rw [Qa hi] at he;exact Option.some.inj he
 rw [PkN] at he';simp [M4,hP,he',hi,aB,PkN,Pk.fin,GA]
theorem qx5 {r:List (Nat×AO)} {N j:Nat} (hr:∀p∈r,N<=p.1) (hj:j<N):look j r=none:=by
 induction r with
 | nil=>rfl
 | cons p r ih=>
  have h1:=hr p (by simp);have:¬p.1=j:=by omega
  simp only [look,QA this];exact ih fun q hq=>hr q (by simp [hq])
theorem qzd {r:List (Nat×AO)} {N:Nat} (hr:∀p∈r,p.1<N):Tail r N:=by
 induction r with
 | nil=>exact Tail.nil _
 | cons p r ih=>exact Tail_cons_iff.2 ⟨hr p (by simp),ih fun q hq=>hr q (by simp [hq])⟩
theorem Fw.appL {X:Nat->Prop} {N N1 N2:Nat} {O O1 r:List (Nat×AO)} (h:Fw X N O O1 N1) (hr:∀p∈r,N<=p.1/\p.1<N2) (hn:N1<=N2):Fw X N O (O1++r) N2:=
 ⟨fun j hj hx=>by rw [aC,h.kp j hj hx,qx5 (fun p hp=>(hr p hp).1) hj];simp,Tail_append_iff.2 ⟨h.tl.mono hn,qzd fun p hp=>(hr p hp).2⟩,jZ h.le hn⟩
def st0:Xv:=match cY.body with | .seq a _=>a | c=>c
def st1:Xv:=match cY.body with | .seq _ (.seq a _)=>a | c=>c
def st2:Xv:=match cY.body with | .seq _ (.seq _ (.seq a _))=>a | c=>c
def st3:Xv:=match cY.body with | .seq _ (.seq _ (.seq _ (.seq a _)))=>a | c=>c
def st4:Xv:=match cY.body with | .seq _ (.seq _ (.seq _ (.seq _ (.seq a _))))=>a | c=>c
def st5:Xv:=match cY.body with | .seq _ (.seq _ (.seq _ (.seq _ (.seq _ (.seq a _)))))=>a | c=>c
def stpK:Xv:=match cY.body with | .seq _ (.seq _ (.seq _ (.seq _ (.seq _ (.seq _ a)))))=>a | c=>c
theorem Mf:cY.body= .seq st0 (.seq st1 (.seq st2 (.seq st3 (.seq st4 (.seq st5 stpK))))):=rfl
def zEv:AO:= .row 4 [[a8 0,a8 0,a8 0,a8 0]]
section
variable {O:List (Nat×AO)} {n N g P C i k:Nat} {V:NetV} {lv:AV} {H:List AV} {X:Nat->Prop} {x:Pk} {h:AV} {r:Rslt} {c':Xf}
theorem W5 (m:NetM O n V (.func (.func g) [] []) C (.row P 9 0 V.pk.length) lv H) (hX:∀j,NetM.own n C (.row P 9 0 V.pk.length) lv H j->X j) (hT:Tail O N) (hi:i<V.pk.length) (hx:V.pk[i]=x) (hh:H[i]? =some h) (hs:x.pos.switch=k) (hk:k<V.cs.length)
  (hc:CfgC V.cs[k]) (hc':CfgC c') (hd:x.done=false) (hdl:x.data.length<2^40) (hp:aA Φ g [.agg (Xf.c V.cs[k]),.agg [a8 x.pos.port,.slice 1 (x.data.map c8)]]=some (.val (.tup [.agg (Rslt.c r),.agg (Xf.c c')]))) (Q:Option (Rt×AH)->Prop)
  (hQ:∀e' O' N',NetM O' n { V with cs:=V.cs.set k c' } (.func (.func g) [] []) C (.row P 9 0 V.pk.length) lv H->Fw X N O O' N'->look N O'=some zEv->N<N'->look 0 e'=some (.ptr n 7 0 0)->look 1 e'=some (a8 i)->look 4 e'=some (.ptr N 4 0 0)->look 6 e'=some (.ptr P 9 i 0)->look 7 e'=some (.func (.func jD) [.ptr n 7 0 0] [])->look 8 e'=some (a8 k)->look 9 e'=some (a8 x.pos.port)->look 10 e'=some (.iptr 4 [Rslt.c r] 0 0)->
   Q (go Φ (finC [.cell 4 true 4,.tmp 5]) [.c stpK] .normal ⟨e',⟨O',N'⟩⟩)):
  Q (aI Φ k9 [.ptr n 7 0 0,a8 i] ⟨O,N⟩):=by
 rw [dA rfl rfl,Mf,show cY.results=[.cell 4 true 4,.tmp 5] from rfl];have hrow:=m.row;have hm:=fun O N=>KP (O:=O) (N:=N) (n:=n) (V:=V) (cv:= .row C 4 0 V.cs.length) (pv:= .row P 9 0 V.pk.length) (lv:=lv) (g:=g)
 rw [jH] at hrow hm;have hPl:look P O=some (.row 9 (pkN V.pk H)):=m.pk.id rfl;have hiN:i<(pkN V.pk H).length:=by rw [kA m.hl];exact hi
 have hat:(pkN V.pk H)[i]=PkN x h:=by
  have:=GP (Qa hi) hh;rw [hx,Qa hiN] at this;exact Option.some.inj this
 rw [PkN,hs,hd] at hat;have hcf:=m.cf;have hi2:¬V.pk.length<=i:=by omega
 have cc:=Cc _ hc;have cc':=Cc _ hc';have hB:=clBy x.data hdl;rw [Xf.e4] at cc cc';rw [Rslt.ce,Xf.e4,Xf.e4] at hp;have t0:=hT N (Qb _);have hT':∀k,look (N+1+k) O=none:=fun k=>hT (N+1+k) (by omega)
 have lt:=hT.lt hrow;have ltP:=hT.lt hPl;have ltC:=hT.lt hcf;have q0:¬N=n/\¬n=N/\¬N=P/\¬P=N/\¬N=C/\¬C=N:=by omega
 obtain ⟨q1,q2,q3,q4,q5,q6⟩:=q0;have u1:C≠n:=aP hcf hrow (by simp);have u2:=u1.symm;have u3:P≠n:=aP hPl hrow (by simp);have u4:=u3.symm;have u5:P≠C:=aP hPl hcf (by simp);have u6:=u5.symm;have q7:∀k,¬N+1+k=n:=fun k=>by omega
 have q8:∀k,¬n=N+1+k:=fun k=>by omega
 have q9:∀k,¬N+1+k=P:=fun k=>by omega
 have q10:∀k,¬P=N+1+k:=fun k=>by omega
 have q11:∀k,¬N+1+k=C:=fun k=>by omega
 have q12:∀k,¬C=N+1+k:=fun k=>by omega
 have q13:∀k,¬N=N+1+k:=fun k=>by omega
 have q14:∀k,¬N+1+k=N:=fun k=>by omega
 have q15:∀k,(n == N+1+k)=false:=fun k=>by simp;omega
 have q16:∀k,(P == N+1+k)=false:=fun k=>by simp;omega
 have q17:∀k,(C == N+1+k)=false:=fun k=>by simp;omega
 have q18:(N+1 == N)=false/\(N == N+1)=false:=by simp
 obtain ⟨q19,q20⟩:=q18;have hfw:∀y z w v,Fw X N O (setl C v (bW (N+1+11) (bW (N+1+10) (bZ (O++[(N,y),(N+1+10,z),(N+1+11,w)]))))) (N+1+11+1):=fun y z w v=>by
  refine (((Fw.appL (N2:=N+1+11+1) (Fw.init hT) ?_ (by omega)).sweep.drop (.inr (by omega))).drop (.inr (by omega))).set (.inl (hX C (.inr (.inl rfl))));intro p hp;simp at hp;rcases hp with rfl | rfl | rfl
  ·exact ⟨Qb _,by simp only;omega⟩
  ·exact ⟨by simp only;omega,by simp only;omega⟩
  ·exact ⟨by simp only;omega,by simp only;omega⟩
 simp [st0,st1,st2,st3,st4,st5,cY,hm,hrow,hPl,hi,hi2,hiN,hat,hs,hk,hcf,Xf.e4,cc,cc',hB,hp,t0,hT',q1,q2,q3,q4,q5,q6,q7,q8,q9,q10,q11,q12,q13,q14,q15,q16,q17,q19,q20,u1,u2,u3,u4,u5,u6,aC,aB,aR,bK];refine hQ _ _ _ (m.setC ?_ ?_) (hfw _ _ _ _) ?_ (by omega) ?_ ?_ ?_ ?_ ?_ ?_ ?_ ?_
 ·simp [aB,bK,q12,aR,aC,hcf,Xf.e4]
 ·intro j y hj hy hne;have hjN:=hT.lt hj;have j1:∀k,¬j=N+1+k:=fun k=>by omega
  simp [aB,bK,j1,hne,aR,aC,hj,hy]
 ·simp [aB,bK,q13,q5,aR,aC,t0,zEv]
 all_goals simp [Rslt.ce]
end
structure StS (X:Nat->Prop) (N0:Nat) (O0 O:List (Nat×AO)) (N n:Nat) (V:NetV) (f:AV) (C P R:Nat) (lv:AV) (H:List AV):Prop where
 m:NetM O n V f C (.row P 9 0 V.pk.length) lv H
 fw:Fw X N0 O0 O N
 ox:∀j,NetM.own n C (.row P 9 0 V.pk.length) lv H j->X j\/N0<=j
 re:∃y,look R O=some (.row 4 [y])/\y.length=4
 ro:∀j,NetM.own n C (.row P 9 0 V.pk.length) lv H j->j≠R
 rn:N0<=R
structure StE (e:Env) (n i P R:Nat) (k:Nat) (inp:Int) (r:Rslt):Prop where
 e0:look 0 e=some (.ptr n 7 0 0)
 e1:look 1 e=some (a8 i)
 e4:look 4 e=some (.ptr R 4 0 0)
 e6:look 6 e=some (.ptr P 9 i 0)
 e7:look 7 e=some (.func (.func jD) [.ptr n 7 0 0] [])
 e8:look 8 e=some (a8 k)
 e9:look 9 e=some (a8 inp)
 e10:look 10 e=some (.iptr 4 [Rslt.c r] 0 0)
theorem KR {n C P i l l':Nat} {lv:AV} {H:List AV} {h':AV} {Z:Nat->Prop} (ho:∀j,NetM.own n C (.row P 9 0 l) lv H j->Z j) (ht:∀t,tkn h'=some t->Z t):∀j,NetM.own n C (.row P 9 0 l') lv (H.set i h') j->Z j:=by
 intro j hj;rcases hj with hj | hj | hj | hj | ⟨g,hg,hj⟩
 ·exact ho j (.inl hj)
 ·exact ho j (.inr (.inl hj))
 ·exact ho j (.inr (.inr (.inl hj)))
 ·exact ho j (.inr (.inr (.inr (.inl hj))))
 ·rcases Qq hg with hg | rfl
  ·exact ho j (.inr (.inr (.inr (.inr ⟨g,hg,hj⟩))))
  ·exact ht j hj
section
variable {X:Nat->Prop} {N0 N n i C P R:Nat} {O0 O:List (Nat×AO)} {V:NetV} {f lv h:AV} {H:List AV} {x:Pk}
theorem StS.pk (s:StS X N0 O0 O N n V f C P R lv H) (hx:V.pk[i]? =some x) (hh:H[i]? =some h) (x':Pk) (hhp:x'.hops=x.hops):StS X N0 O0 (setl P (.row 9 ((pkN V.pk H).set i (PkN x' h))) O) N n { V with pk:=V.pk.set i x' } f C P R lv (H.set i h):=by
 have hPl:look P O=some (.row 9 (pkN V.pk H)):=s.m.pk.id rfl;have hPo:NetM.own n C (.row P 9 0 V.pk.length) lv H P:= .inr (.inr (.inl rfl));have hHo:∀t,tkn h=some t->NetM.own n C (.row P 9 0 V.pk.length) lv H t:=fun t ht=> .inr (.inr (.inr (.inr ⟨h,Qe hh,ht⟩)))
 have hne:∀t,tkn h=some t->t≠P:=fun t ht=>by obtain ⟨l,hl⟩:=s.m.hk hh ht;exact aP hl hPl (by simp)
 have m':=s.m.setP (O':=setl P (.row 9 ((pkN V.pk H).set i (PkN x' h))) O) (x':=x') (h':=h) hx hh (by rw [aB,hPl];simp) (by rw [hhp];exact (s.m.hp i x h hx hh).fr fun t ht=>by rw [aB,QA (hne t ht)]) (fun t ht=> .inl ht) (fun j y hj _ h1 _=>by rw [aB,QA h1,hj]);have hl:(V.pk.set i x').length=V.pk.length:=by simp
 obtain ⟨y,hy,hy4⟩:=s.re;refine ⟨by rw [hl];exact m',s.fw.set (s.ox P hPo),KR s.ox fun t ht=>s.ox t (hHo t ht),⟨y,by rw [aB,QA (s.ro P hPo).symm,hy],hy4⟩,KR s.ro fun t ht=>s.ro t (hHo t ht),s.rn⟩
theorem StS.hopN (s:StS X N0 O0 O N n V f C P R lv H) (hx:V.pk[i]? =some x) (hh:H[i]? =some (.Xu 3 [])) (hz:x.hops=[]) (x':Pk) (p:Hop) (hhp:x'.hops=[p]) {M:Nat} (hM:N<=M):
  StS X N0 O0 (setl P (.row 9 ((pkN V.pk H).set i (PkN x' (.app 3 [Hop.c p] M)))) (O++[(M,.tok 3 1)])) (M+1) n { V with pk:=V.pk.set i x' } f C P R lv (H.set i (.app 3 [Hop.c p] M)):=by
 have hPl:look P O=some (.row 9 (pkN V.pk H)):=s.m.pk.id rfl;have hPo:NetM.own n C (.row P 9 0 V.pk.length) lv H P:= .inr (.inr (.inl rfl));have tM:=s.fw.tl M hM;have hPM:=s.fw.tl.lt hPl;have m':=s.m.setP (O':=setl P (.row 9 ((pkN V.pk H).set i (PkN x' (.app 3 [Hop.c p] M)))) (O++[(M,.tok 3 1)])) (x':=x') (h':= .app 3 [Hop.c p] M) hx hh (by rw [aB,aC,hPl];simp) (.inr ⟨M,by rw [hhp];rfl,by rw [aB,QA (by omega),aC,tM,hhp];simp⟩) (fun t ht=>by simp only [tkn,Option.some.injEq] at ht;subst ht;exact .inr (.inl tM)) (fun j y hj _ h1 _=>by rw [aB,QA h1,aC,hj];rfl);have hl:(V.pk.set i x').length=V.pk.length:=by simp
 obtain ⟨y,hy,hy4⟩:=s.re;have hRM:=s.fw.tl.lt hy;have hNM:=s.fw.le;refine ⟨by rw [hl];exact m',(s.fw.app (by omega) (by omega) (by omega)).set (s.ox P hPo),KR s.ox fun t ht=>by simp only [tkn,Option.some.injEq] at ht;omega,⟨y,by rw [aB,QA (s.ro P hPo).symm,aC,hy];rfl,hy4⟩,KR s.ro fun t ht=>by simp only [tkn,Option.some.injEq] at ht;omega,s.rn⟩
theorem StS.hopA {T:Nat} (s:StS X N0 O0 O N n V f C P R lv H) (hx:V.pk[i]? =some x) (hh:H[i]? =some (.app 3 (x.hops.map Hop.c) T)) (x':Pk) (p:Hop) (hhp:x'.hops=x.hops++[p]):
  StS X N0 O0 (setl P (.row 9 ((pkN V.pk H).set i (PkN x' (.app 3 (x.hops.map Hop.c++[Hop.c p]) T)))) (setl T (.tok 3 (x.hops.length+1)) O)) N n { V with pk:=V.pk.set i x' } f C P R lv (H.set i (.app 3 (x.hops.map Hop.c++[Hop.c p]) T)):=by
 have hPl:look P O=some (.row 9 (pkN V.pk H)):=s.m.pk.id rfl;have hPo:NetM.own n C (.row P 9 0 V.pk.length) lv H P:= .inr (.inr (.inl rfl));have hTo:NetM.own n C (.row P 9 0 V.pk.length) lv H T:= .inr (.inr (.inr (.inr ⟨_,Qe hh,rfl⟩)));obtain ⟨l,hTl⟩:=s.m.hk hh rfl;have hTP:T≠P:=aP hTl hPl (by simp);have m':=s.m.setP (O':=setl P (.row 9 ((pkN V.pk H).set i (PkN x' (.app 3 (x.hops.map Hop.c++[Hop.c p]) T)))) (setl T (.tok 3 (x.hops.length+1)) O)) (x':=x') (h':= .app 3 (x.hops.map Hop.c++[Hop.c p]) T) hx hh (by rw [aB,aB,QA hTP.symm,hPl];simp) (.inr ⟨T,by rw [hhp];simp,by rw [aB,QA hTP,aB,hTl,hhp];simp⟩) (fun t ht=> .inl ht) (fun j y hj _ h1 h2=>by rw [aB,QA h1,aB,QA (fun e=>h2 (by rw [e];rfl)),hj]);have hl:(V.pk.set i x').length=V.pk.length:=by simp
 obtain ⟨y,hy,hy4⟩:=s.re;refine ⟨by rw [hl];exact m',(s.fw.set (s.ox T hTo)).set (s.ox P hPo),KR s.ox fun t ht=>by simp only [tkn,Option.some.injEq] at ht;subst ht;exact s.ox T hTo,⟨y,by rw [aB,QA (s.ro P hPo).symm,aB,QA (s.ro T hTo).symm,hy],hy4⟩,KR s.ro fun t ht=>by simp only [tkn,Option.some.injEq] at ht;subst ht;exact s.ro T hTo,s.rn⟩
end
section
variable {β:Type} {fin:Option (Ex×St)->Option β} {X:Nat->Prop} {N0 N n i C P R:Nat} {O0 O:List (Nat×AO)} {V:NetV} {f lv h:AV} {H:List AV} {x:Pk} {d:Bool} {dst:Option Nat} {r:List Xw} {K:List Go.Av.Fr} {e:Env} {Q:Option β->Prop}
theorem R8 (s:StS X N0 O0 O N n V f C P R lv H) (hx:V.pk[i]? =some x) (hh:H[i]? =some h) {a b:Int}
  (hk:∀O',StS X N0 O0 O' N n { V with pk:=V.pk.set i (x.fin a b) } f C P R lv (H.set i h)->Q (Go.Av.stepV Φ fin d dst r K e (some (.val (.tup []),⟨O',N⟩)))):
  Q (Go.Av.stepV Φ fin d dst r K e (aI Φ pP [.ptr P 9 i 0,a8 a,a8 b] ⟨O,N⟩)):=by
 have hi:=(Qm.1 hx).1;rw [qz3 (s.m.pk.id rfl) (by rw [kA s.m.hl];exact hi) (GP hx hh)];exact hk _ (s.pk hx hh (x.fin a b) rfl)
theorem KB (s:StS X N0 O0 O N n V f C P R lv H) (hb:V.log.length<=10000) {k a b c:Int}
  (hk:∀O' N' lv',StS X N0 O0 O' N' n (V.ev ⟨k,a,b,c⟩) f C P R lv' H->N<=N'->Q (Go.Av.stepV Φ fin d dst r K e (some (.val (.agg [a8 k,a8 a,a8 b,a8 c]),⟨O',N'⟩)))):
  Q (Go.Av.stepV Φ fin d dst r K e (aI Φ jD [.ptr n 7 0 0,a8 k,a8 a,a8 b,a8 c] ⟨O,N⟩)):=by
 refine KI s.m s.fw.tl hb fun O' N' lv' m' hl hkp hT' hN=>hk O' N' lv' ?_ hN
 obtain ⟨y,hy,hy4⟩:=s.re;have hRN:=s.fw.tl.lt hy;have hno:NetM.own n C (.row P 9 0 V.pk.length) lv H n:= .inl rfl;have hlo:∀t,tkn lv=some t->NetM.own n C (.row P 9 0 V.pk.length) lv H t:=fun t ht=> .inr (.inr (.inr (.inl ht)))
 have key:∀Z:Nat->Prop,(∀j,NetM.own n C (.row P 9 0 V.pk.length) lv H j->Z j)->(∀j,N<=j->Z j)->∀j,NetM.own n C (.row P 9 0 (V.ev ⟨k,a,b,c⟩).pk.length) lv' H j->Z j:=by
  intro Z ho hz j hj;rcases hj with hj | hj | hj | hj | hj
  ·exact ho j (.inl hj)
  ·exact ho j (.inr (.inl hj))
  ·exact ho j (.inr (.inr (.inl hj)))
  ·rcases hl j hj with h | h
   ·exact ho j (hlo j h)
   ·exact hz j h
  ·exact ho j (.inr (.inr (.inr (.inr hj))))
 have hNN:=s.fw.le;refine ⟨m',?_,key _ s.ox fun j hj=> .inr (by omega),⟨y,?_,hy4⟩,key _ s.ro fun j hj=>by omega,s.rn⟩
 ·refine s.fw.then hkp (fun j hj hy=>?_) hT' hN;rcases hy with rfl | hy | hy
  ·rcases s.ox j hno with h | h
   ·exact .inl h
   ·omega
  ·rcases s.ox j (hlo j hy) with h | h
   ·exact .inl h
   ·omega
  ·exact .inr hy
 ·rw [hkp R hRN ?_,hy];rintro (rfl | h | h)
  ·exact s.ro _ hno rfl
  ·exact s.ro R (hlo R h) rfl
  ·unfold Rs at h;rw [hy] at h;cases h
end
theorem StS.done {X:Nat->Prop} {N0 N n C P R:Nat} {O0 O:List (Nat×AO)} {V:NetV} {f lv:AV} {H:List AV} (s:StS X N0 O0 O N n V f C P R lv H) {v:AV} {y:AO}:NP X N0 O0 n f V v (some (.val v,⟨setl R y O,N⟩)):=
 ⟨_,_,rfl,⟨C,_,lv,H,s.m.fr fun j hj=>by rw [aB,QA (s.ro j hj)],s.ox⟩,s.fw.set (.inr s.rn)⟩
section
variable {X:Nat->Prop} {N0 N n i k g C P R:Nat} {O0 O:List (Nat×AO)} {V:NetV} {lv h:AV} {H:List AV} {x:Pk} {e:Env} {inp:Int} {r:Rslt}
theorem qyt (s:StS X N0 O0 O N n V (.func (.func g) [] []) C P R lv H) (E:StE e n i P R k inp r) (hx:V.pk[i]? =some x) (hh:H[i]? =some h) (hl:V.log.length<=10000) (hp:x.hops.length<=1000) (hr:r.drop=true):
  NP X N0 O0 n (.func (.func g) [] []) (NetV.ev { V with pk:=V.pk.set i (Pk.fin { x with hops:=x.hops++[⟨k,inp,-1⟩] } 2 k) } ⟨2,i,k,-1⟩) (.tup [.agg [a8 2,a8 i,a8 k,a8 (-1)],a8 0]) (go Φ (finC [.cell 4 true 4,.tmp 5]) [.c stpK] .normal ⟨e,⟨O,N⟩⟩):=by
 have hi:=(Qm.1 hx).1;have hiH:=(Qm.1 hh).1;have hPl:look P O=some (.row 9 (pkN V.pk H)):=s.m.pk.id rfl;have hiN:i<(pkN V.pk H).length:=by rw [kA s.m.hl];exact hi
 have hat:(pkN V.pk H)[i]=PkN x h:=by
  have:=GP hx hh;rw [Qa hiN] at this;exact Option.some.inj this
 rw [PkN] at hat;have E10:=E.e10;rw [Rslt.ce,hr] at E10;have t0:=s.fw.tl N (Qb _);have hPN:=s.fw.tl.lt hPl;have q0:¬N=P/\¬P=N:=by omega
 obtain ⟨q1,q2⟩:=q0;obtain ⟨y,hy,hy4⟩:=s.re;rcases s.m.hp i x h hx hh with ⟨hz,rfl⟩ | ⟨T,rfl,hT⟩
 ·have hz':x.hops=[]:=by simpa using hz
  have s1:=s.hopN hx hh hz' { x with hops:=x.hops++[⟨k,inp,-1⟩] } ⟨k,inp,-1⟩ (by simp [hz']) (Qb N);simp [stpK,cY,E.e0,E.e1,E.e4,E.e6,E.e7,E.e8,E.e9,E10,hPl,hi,hiN,hat,t0,q1,q2,aC,aB];refine R8 s1 (x:={ x with hops:=x.hops++[⟨k,inp,-1⟩] }) (by simp [hi]) (by simp [hiH];rfl) fun O' s2=>?_
  simp [E.e0,E.e1,E.e4,E.e6,E.e7,E.e8,E.e9];refine KB s2 hl fun O2 N2 lv2 s3 hN2=>?_
  obtain ⟨z,hz1,hz2⟩:=s3.re;simp [E.e0,E.e1,E.e4,E.e6,E.e7,E.e8,E.e9,hz1,hz2,aB];simp only [JV] at s3;exact s3.done
 ·have s1:=s.hopA hx hh { x with hops:=x.hops++[⟨k,inp,-1⟩] } ⟨k,inp,-1⟩ rfl;have hTP:=aP hT hPl (by simp);have hPT:=hTP.symm;have b5:(x.hops.length+1)*24<=70368744177664:=by omega
  simp at hT;simp [stpK,cY,E.e0,E.e1,E.e4,E.e6,E.e7,E.e8,E.e9,E10,hPl,hi,hiN,hat,hT,hTP,hPT,b5,aC,aB];refine R8 s1 (x:={ x with hops:=x.hops++[⟨k,inp,-1⟩] }) (by simp [hi]) (by simp [hiH];rfl) fun O' s2=>?_
  simp [E.e0,E.e1,E.e4,E.e6,E.e7,E.e8,E.e9];refine KB s2 hl fun O2 N2 lv2 s3 hN2=>?_
  obtain ⟨z,hz1,hz2⟩:=s3.re;simp [E.e0,E.e1,E.e4,E.e6,E.e7,E.e8,E.e9,hz1,hz2,aB];simp only [JV] at s3;exact s3.done
end
def sk0:Xv:=match stpK with | .seq a _=>a | c=>c
def sk1:Xv:=match stpK with | .seq _ (.seq a _)=>a | c=>c
def sk2:Xv:=match stpK with | .seq _ (.seq _ (.seq a _))=>a | c=>c
def sk3:Xv:=match stpK with | .seq _ (.seq _ (.seq _ (.seq a _)))=>a | c=>c
def stpL:Xv:=match stpK with | .seq _ (.seq _ (.seq _ (.seq _ a)))=>a | c=>c
theorem Z9:stpK= .seq sk0 (.seq sk1 (.seq sk2 (.seq sk3 stpL))):=rfl
theorem StS.up {X:Nat->Prop} {N0 N M n C P R:Nat} {O0 O:List (Nat×AO)} {V:NetV} {f lv:AV} {H:List AV} (s:StS X N0 O0 O N n V f C P R lv H) (h:N<=M):StS X N0 O0 O M n V f C P R lv H:=⟨s.m,s.fw.up h,s.ox,s.re,s.ro,s.rn⟩
theorem X' {O:List (Nat×AO)} {N M:Nat} {y:AO} (hT:Tail O N) (hM:N<=M):Mn O (bW M (bZ (O++[(M,y)]))):=fun j z hj hz=>by
 have:=hT.lt hj;rw [bK (by omega),aR (by rw [aC,hj];simpa using hz),aC,hj];rfl
theorem StS.tmp {X:Nat->Prop} {N0 N M n C P R:Nat} {O0 O:List (Nat×AO)} {V:NetV} {f lv:AV} {H:List AV} {y:AO} (s:StS X N0 O0 O N n V f C P R lv H) (h:N<=M):StS X N0 O0 (bW M (bZ (O++[(M,y)]))) (M+1) n V f C P R lv H:=by
 have hm:=X' (y:=y) s.fw.tl h;have hN:=s.fw.le;obtain ⟨z,hz,h4⟩:=s.re;exact ⟨s.m.mn hm,((s.fw.app (N2:=M+1) (by omega) (by omega) (by omega)).sweep).drop (.inr (by omega)),s.ox,⟨z,hm _ _ hz (by simp),h4⟩,s.ro,s.rn⟩
section
variable {X:Nat->Prop} {N0 N n i k g C P R:Nat} {O0 O:List (Nat×AO)} {V:NetV} {lv h:AV} {H:List AV} {x:Pk} {e:Env} {inp:Int} {r:Rslt} {Q:Option (Rt×AH)->Prop}
theorem UM (s:StS X N0 O0 O N n V (.func (.func g) [] []) C P R lv H) (E:StE e n i P R k inp r) (hx:V.pk[i]? =some x) (hh:H[i]? =some h) (hl:V.log.length<=10000) (hp:x.hops.length<=1000) (hr:r.drop=false) (hdl:r.data.length<2^40)
  (hQ:∀e' O' N' lv' h',StS X N0 O0 O' N' n (NetV.ev { V with pk:=V.pk.set i { x with hops:=x.hops++[⟨k,inp,r.port⟩],data:=r.data } } ⟨2,i,k,r.port⟩) (.func (.func g) [] []) C P R lv' (H.set i h')->StE e' n i P R k inp r->look 12 e'=some (.iptr 4 [[a8 2,a8 i,a8 k,a8 r.port]] 0 0)->Q (go Φ (finC [.cell 4 true 4,.tmp 5]) [.c stpL] .normal ⟨e',⟨O',N'⟩⟩)):
  Q (go Φ (finC [.cell 4 true 4,.tmp 5]) [.c stpK] .normal ⟨e,⟨O,N⟩⟩):=by
 rw [Z9];have hi:=(Qm.1 hx).1;have hiH:=(Qm.1 hh).1;have hPl:look P O=some (.row 9 (pkN V.pk H)):=s.m.pk.id rfl;have hiN:i<(pkN V.pk H).length:=by rw [kA s.m.hl];exact hi
 have hat:(pkN V.pk H)[i]=PkN x h:=by
  have:=GP hx hh;rw [Qa hiN] at this;exact Option.some.inj this
 rw [PkN] at hat;have E10:=E.e10;rw [Rslt.ce,hr] at E10;have hB:=clBy r.data hdl;have t0:=s.fw.tl N (Qb _);have hPN:=s.fw.tl.lt hPl;have q0:¬N=P/\¬P=N:=by omega
 obtain ⟨q1,q2⟩:=q0;rcases s.m.hp i x h hx hh with ⟨hz,rfl⟩ | ⟨T,rfl,hT⟩
 ·have hz':x.hops=[]:=by simpa using hz
  have s1:=s.hopN hx hh hz' { x with hops:=x.hops++[⟨k,inp,r.port⟩] } ⟨k,inp,r.port⟩ (by simp [hz']) (Qb N);have s2:=s1.pk (x:={ x with hops:=x.hops++[⟨k,inp,r.port⟩] }) (by simp [hi]) (List.getElem?_set_self hiH) { x with hops:=x.hops++[⟨k,inp,r.port⟩],data:=r.data } rfl;rw [S4 s.m.hl,GA,JV] at s2;simp only [JV] at s2;simp [sk0,sk1,sk2,sk3,stpK,cY,E.e0,E.e1,E.e4,E.e6,E.e7,E.e8,E.e9,E10,hB,hPl,hi,hiN,hat,t0,q1,q2,aC,aB,aR,GA];refine KB s2 hl fun O2 N2 lv2 s3 hN2=>?_
  have u0:=s3.fw.tl N2 (Qb _);simp [E.e0,E.e1,E.e4,E.e6,E.e7,E.e8,E.e9,u0,aC,aB];refine hQ _ _ _ lv2 _ (s3.up (mI _)) ⟨?_,?_,?_,?_,?_,?_,?_,?_⟩ ?_<;>simp [E.e0,E.e1,E.e4,E.e6,E.e7,E.e8,E.e9,E.e10]
 ·have s1:=s.hopA hx hh { x with hops:=x.hops++[⟨k,inp,r.port⟩] } ⟨k,inp,r.port⟩ rfl;have s2:=s1.pk (x:={ x with hops:=x.hops++[⟨k,inp,r.port⟩] }) (by simp [hi]) (List.getElem?_set_self hiH) { x with hops:=x.hops++[⟨k,inp,r.port⟩],data:=r.data } rfl;rw [S4 s.m.hl,GA,JV] at s2;simp only [JV] at s2;have hTP:=aP hT hPl (by simp);have hPT:=hTP.symm;have b5:(x.hops.length+1)*24<=70368744177664:=by omega
  simp at hT;simp [sk0,sk1,sk2,sk3,stpK,cY,E.e0,E.e1,E.e4,E.e6,E.e7,E.e8,E.e9,E10,hB,hPl,hi,hiN,hat,hT,hTP,hPT,b5,aC,aB,aR,GA];refine KB s2 hl fun O2 N2 lv2 s3 hN2=>?_
  have u0:=s3.fw.tl N2 (Qb _);simp [E.e0,E.e1,E.e4,E.e6,E.e7,E.e8,E.e9,u0,aC,aB];refine hQ _ _ _ lv2 _ (s3.up (mI _)) ⟨?_,?_,?_,?_,?_,?_,?_,?_⟩ ?_<;>simp [E.e0,E.e1,E.e4,E.e6,E.e7,E.e8,E.e9,E.e10]
theorem qyu (s:StS X N0 O0 O N n V (.func (.func g) [] []) C P R lv H) (E:StE e n i P R k inp r) (E12:look 12 e=some (.iptr 4 [[a8 2,a8 i,a8 k,a8 r.port]] 0 0)) (hx:V.pk[i]? =some x) (hh:H[i]? =some h) (hl:V.log.length<=10000) (hho:V.hosts.length<=1000)
  (ha:eA V.hosts (atP k r.port) 0=true):
  NP X N0 O0 n (.func (.func g) [] []) (NetV.ev { V with pk:=V.pk.set i (x.fin 1 (ixF (atP k r.port) V.hosts 0)) } ⟨3,i,ixF (atP k r.port) V.hosts 0,0⟩) (.tup [.agg [a8 3,a8 i,a8 (ixF (atP k r.port) V.hosts 0),a8 0],a8 0]) (go Φ (finC [.cell 4 true 4,.tmp 5]) [.c stpL] .normal ⟨e,⟨O,N⟩⟩):=by
 have E10:=E.e10;rw [Rslt.ce] at E10;have hrow:=s.m.row;rw [jH] at hrow;have t0:=s.fw.tl N (Qb _);have k1:=QF (V.ports.map cI) (V.links.map Link.c) V.hosts k r.port (by omega);rw [ha] at k1;have hnN:=s.fw.tl.lt hrow;have q0:¬N=n/\¬n=N:=by omega
 obtain ⟨q1,q2⟩:=q0;simp [stpL,stpK,cY,E.e0,E.e1,E.e4,E.e6,E.e7,E.e8,E.e9,E10,E12,hrow,k1,t0,q1,q2,aC,aB,aR];refine R8 (s.up (mI _)) hx hh fun O' s2=>?_
 simp [E.e0,E.e1,E.e4,E.e6,E.e7,E.e8,E.e9];refine KB s2 hl fun O2 N2 lv2 s3 hN2=>?_
 obtain ⟨z,hz1,hz2⟩:=s3.re;simp [E.e0,E.e1,E.e4,E.e6,E.e7,E.e8,E.e9,hz1,hz2,aB];exact s3.done
theorem qyv (s:StS X N0 O0 O N n V (.func (.func g) [] []) C P R lv H) (E:StE e n i P R k inp r) (E12:look 12 e=some (.iptr 4 [[a8 2,a8 i,a8 k,a8 r.port]] 0 0)) (hx:V.pk[i]? =some x) (hh:H[i]? =some h) (hl:V.log.length<=10000) (hho:V.hosts.length<=1000) (hli:V.links.length<=1000)
  (ha:eA V.hosts (atP k r.port) 0=false) (hp:(gF V.ports V.links V.hosts ⟨k,r.port⟩).2≠0):
  NP X N0 O0 n (.func (.func g) [] []) (NetV.ev { V with pk:=V.pk.set i (x.fin 3 k) } ⟨4,i,k,r.port⟩) (.tup [.agg [a8 4,a8 i,a8 k,a8 r.port],a8 0]) (go Φ (finC [.cell 4 true 4,.tmp 5]) [.c stpL] .normal ⟨e,⟨O,N⟩⟩):=by
 have E10:=E.e10;rw [Rslt.ce] at E10;have hrow:=s.m.row;rw [jH] at hrow;have t0:=s.fw.tl N (Qb _);have hT':∀k,look (N+1+k) O=none:=fun k=>s.fw.tl (N+1+k) (by omega)
 have k1:=QF (V.ports.map cI) (V.links.map Link.c) V.hosts k r.port (by omega);have k2:=Ia V.ports V.links V.hosts k r.port (by omega) (by omega);rw [ha] at k1;rw [PortID.c] at k2;have hnN:=s.fw.tl.lt hrow;have q0:¬N=n/\¬n=N:=by omega
 obtain ⟨q1,q2⟩:=q0;have q3:∀k,¬N+1+k=n:=fun k=>by omega
 have q4:∀k,¬n=N+1+k:=fun k=>by omega
 have q5:∀k,(n == N+1+k)=false:=fun k=>by simp;omega
 simp [stpL,stpK,cY,E.e0,E.e1,E.e4,E.e6,E.e7,E.e8,E.e9,E10,E12,hrow,k1,k2,hp,t0,hT',q1,q2,q3,q4,q5,aC,aB,aR];refine R8 (s.tmp (M:=N+1+16) (by omega)) hx hh fun O' s2=>?_
 simp [E.e0,E.e1,E.e4,E.e6,E.e7,E.e8,E.e9,E10];refine KB s2 hl fun O2 N2 lv2 s3 hN2=>?_
 obtain ⟨z,hz1,hz2⟩:=s3.re;simp [E.e0,E.e1,E.e4,E.e6,E.e7,E.e8,E.e9,hz1,hz2,aB];exact s3.done
theorem qyw (s:StS X N0 O0 O N n V (.func (.func g) [] []) C P R lv H) (E:StE e n i P R k inp r) (E12:look 12 e=some (.iptr 4 [[a8 2,a8 i,a8 k,a8 r.port]] 0 0)) (hx:V.pk[i]? =some x) (hh:H[i]? =some h) (hho:V.hosts.length<=1000) (hli:V.links.length<=1000)
  (ha:eA V.hosts (atP k r.port) 0=false) (hp:(gF V.ports V.links V.hosts ⟨k,r.port⟩).2=0):
  NP X N0 O0 n (.func (.func g) [] []) { V with pk:=V.pk.set i { x with pos:=(gF V.ports V.links V.hosts ⟨k,r.port⟩).1 } } (.tup [.agg [a8 2,a8 i,a8 k,a8 r.port],a8 0]) (go Φ (finC [.cell 4 true 4,.tmp 5]) [.c stpL] .normal ⟨e,⟨O,N⟩⟩):=by
 have hi:=(Qm.1 hx).1;have E10:=E.e10;rw [Rslt.ce] at E10;have hrow:=s.m.row;rw [jH] at hrow;have hPl:look P O=some (.row 9 (pkN V.pk H)):=s.m.pk.id rfl;have hiN:i<(pkN V.pk H).length:=by rw [kA s.m.hl];exact hi
 have hat:(pkN V.pk H)[i]=PkN x h:=by
  have:=GP hx hh;rw [Qa hiN] at this;exact Option.some.inj this
 rw [PkN] at hat;have t0:=s.fw.tl N (Qb _);have hT':∀k,look (N+1+k) O=none:=fun k=>s.fw.tl (N+1+k) (by omega)
 have k1:=QF (V.ports.map cI) (V.links.map Link.c) V.hosts k r.port (by omega);have k2:=Ia V.ports V.links V.hosts k r.port (by omega) (by omega);rw [ha] at k1;rw [PortID.c,hp] at k2;have hnN:=s.fw.tl.lt hrow;have hPN:=s.fw.tl.lt hPl;have q0:¬N=n/\¬n=N/\¬N=P/\¬P=N:=by omega
 obtain ⟨q1,q2,q6,q7⟩:=q0;have q3:∀k,¬N+1+k=n:=fun k=>by omega
 have q4:∀k,¬n=N+1+k:=fun k=>by omega
 have q5:∀k,(n == N+1+k)=false:=fun k=>by simp;omega
 have q8:∀k,¬N+1+k=P:=fun k=>by omega
 have q9:∀k,¬P=N+1+k:=fun k=>by omega
 have s1:=(s.tmp (M:=N+1+16) (y:= .row 2 [PortID.c (gF V.ports V.links V.hosts ⟨k,r.port⟩).1]) (by omega)).pk hx hh { x with pos:=(gF V.ports V.links V.hosts ⟨k,r.port⟩).1 } rfl;obtain ⟨z,hz1,hz2⟩:=s.re;have hRN:=s.fw.tl.lt hz1;have q10:∀k,¬N+1+k=R:=fun k=>by omega
 have q11:∀k,¬R=N+1+k:=fun k=>by omega
 have hRP:R≠P:=(s.ro P (.inr (.inr (.inl rfl)))).symm;have hPR:=hRP.symm;simp [stpL,stpK,cY,E.e0,E.e1,E.e4,E.e6,E.e7,E.e8,E.e9,E10,E12,hrow,k1,k2,t0,hT',q1,q2,q3,q4,q5,q6,q7,q8,q9,q10,q11,hRP,hPR,hPl,hi,hiN,hat,hz1,hz2,aC,aB,aR,bK];exact s1.done
end
section
variable {O:List (Nat×AO)} {n N g C:Nat} {V:NetV} {pv lv:AV} {H:List AV} {X:Nat->Prop}
theorem TW (m:NetM O n V (.func (.func g) [] []) C pv lv H) (hX:∀j,NetM.own n C pv lv H j->X j) (hT:Tail O N) (id:Int) (hz:chkV V id≠0):
  NP X N O n (.func (.func g) [] []) V (.tup [.agg (Event.c ev0),a8 (chkV V id)]) (aI Φ k9 [.ptr n 7 0 0,a8 id] ⟨O,N⟩):=by
 rw [dA rfl rfl,Mf,show cY.results=[.cell 4 true 4,.tmp 5] from rfl];have hrow:=m.row;have hm:=fun O N=>KP (O:=O) (N:=N) (n:=n) (V:=V) (cv:= .row C 4 0 V.cs.length) (pv:=pv) (lv:=lv) (g:=g)
 rw [jH] at hrow hm;have t0:=hT N (Qb _);have lt:=hT.lt hrow;have q0:¬N=n/\¬n=N:=by omega
 obtain ⟨q1,q2⟩:=q0;have hlen:lenOf pv=some V.pk.length:=by
  rcases m.pk with ⟨h,rfl⟩ | ⟨P,rfl,_⟩
  ·have:=kA m.hl;rw [h] at this;simpa using this
  ·simp [kA m.hl]
 have fin:∀y,NP X N O n (.func (.func g) [] []) V (.tup [.agg [a8 0,a8 0,a8 0,a8 0],a8 (chkV V id)]) (some (.val (.tup [.agg [a8 0,a8 0,a8 0,a8 0],a8 (chkV V id)]),⟨O++[(N,y)],N+1⟩)):=fun y=>⟨_,_,rfl,⟨C,pv,lv,H,m.mn Mn.app,fun j hj=> .inl (hX j hj)⟩,(Fw.init hT).app (Qb _) (vJ _) (mI _)⟩
 unfold chkV at*;by_cases z1:id<0
 ·rw [aE (.inl z1)] at fin ⊢;simp [st0,st1,cY,hm,hrow,z1,hlen,t0,q1,q2,aC,aB,Event.ce,ev0,-lenOf];exact fin _
 obtain ⟨k,rfl⟩:=fP (show 0<=id by omega);by_cases z2:V.pk.length<=k
 ·have z2':(V.pk.length:Int)<=k:=by omega
  rw [aE (.inr z2')] at fin ⊢;simp [st0,st1,cY,hm,hrow,z2,hlen,t0,q1,q2,aC,aB,Event.ce,ev0,-lenOf];exact fin _
 have hk:k<V.pk.length:=by omega
 rw [QA (by omega)] at fin hz ⊢;have hd:V.pk[k].done=true:=by
  simp [hk] at hz;exact hz
 have hgd:(V.pk.getD (Int.toNat (k:Int)) default).done=true:=by simp [hk,hd]
 rw [aE hgd] at fin ⊢;rcases m.pk with ⟨h,rfl⟩ | ⟨P,rfl,hP⟩
 ·have:=kA m.hl;rw [h] at this;simp at this;omega
 ·have hHk:k<H.length:=by rw [m.hl];exact hk
  have hat:=GP (Qa hk) (Qa hHk);have hiN:k<(pkN V.pk H).length:=by rw [kA m.hl];exact hk
  rw [Qa hiN] at hat;have hat:=Option.some.inj hat;rw [PkN,hd] at hat;have hPN:=hT.lt hP;have q0:¬N=P/\¬P=N:=by omega
  obtain ⟨q3,q4⟩:=q0;simp only [kA m.hl] at hlen hrow hm fin ⊢;simp [st0,st1,cY,hm,hrow,z2,hP,hk,hiN,hat,t0,q1,q2,q3,q4,aC,aB,Event.ce,ev0];exact fin _
end
def okB' (b:List Int):Prop:=∀x∈b,0<=x/\x<=255
structure PrcOk (g:Nat) (G:Xf->Prop) (P:Xf->Int->List Int->Rslt×Xf):Prop where
 run:∀c s d,G c->okB' d->d.length<=1000->aA Φ g [.agg (Xf.c c),.agg [a8 s,.slice 1 (d.map c8)]]=some (.val (.tup [.agg (Rslt.c (P c s d).1),.agg (Xf.c (P c s d).2)]))
 cfg:∀c s d,G c->okB' d->d.length<=1000->G (P c s d).2
 dat:∀c s d,G c->okB' d->d.length<=1000->okB' (P c s d).1.data/\(P c s d).1.data.length<=1000
 cc:∀c,G c->CfgC c
structure NetI (G:Xf->Prop) (V:NetV):Prop where
 s:NetS V
 lg:V.log.length<=9000
 top:fK V.ports V.links V.hosts=0
 cl:V.cs.length=V.ports.length
 cg:∀c∈V.cs,G c
 pk:∀x∈V.pk,okB' x.data/\x.data.length<=1000/\(x.done=false->0<=x.pos.switch/\x.pos.switch<V.cs.length)
theorem Gd {V:NetV} {id:Int} (h:chkV V id=0):∃i:Nat,id=i/\∃hi:i<V.pk.length,V.pk[i].done=false:=by
 unfold chkV at h;by_cases z:id<0\/(V.pk.length:Int)<=id
 ·rw [aE z] at h;cases h
 ·rw [QA z] at h;obtain ⟨i,rfl⟩:=fP (show 0<=id by omega);have hi:i<V.pk.length:=by omega
  refine ⟨i,rfl,hi,?_⟩;simp [hi] at h;exact h
section
variable {O:List (Nat×AO)} {n N g C:Nat} {V:NetV} {pv lv:AV} {H:List AV} {X:Nat->Prop} {G:Xf->Prop} {P:Xf->Int->List Int->Rslt×Xf}
theorem VY (hP:PrcOk g G P) (I:NetI G V) (m:NetM O n V (.func (.func g) [] []) C pv lv H) (hX:∀j,NetM.own n C pv lv H j->X j) (hT:Tail O N) (id:Int):
  NP X N O n (.func (.func g) [] []) (stpV P V id).1 (.tup [.agg (Event.c (stpV P V id).2.1),a8 (stpV P V id).2.2]) (aI Φ k9 [.ptr n 7 0 0,a8 id] ⟨O,N⟩):=by
 by_cases hz:chkV V id=0
 rotate_left
 ·have:=TW m hX hT id hz;simpa [stpV,hz] using this
 obtain ⟨i,rfl,hi,hd⟩:=Gd hz;have hmem:=Qd hi;obtain ⟨hdb,hdl,hpos⟩:=I.pk _ hmem;obtain ⟨hs0,hs1⟩:=hpos hd;obtain ⟨x,hx⟩:∃x,V.pk[i]=x:=⟨_,rfl⟩;rw [hx] at hd hdb hdl hs0 hs1 hmem;obtain ⟨k,hs⟩:=fP hs0;have hk:k<V.cs.length:=by omega
 have hG:=I.cg _ (Qd hk);have hgp:V.pk[i]?.getD default=x:=by simp [hi,hx]
 have hgc:V.cs[k]?.getD default=V.cs[k]:=by simp [hk]
 have hst:stpV P V i=(oN V i (P V.cs[k] x.pos.port x.data).1 (P V.cs[k] x.pos.port x.data).2,pW V i (P V.cs[k] x.pos.port x.data).1,0):=by
  simp [stpV,hz,hgp,hs,hgc]
 rw [hst];have hrun:=hP.run _ x.pos.port _ hG hdb hdl;have hG':=hP.cfg _ x.pos.port _ hG hdb hdl;have hdat:=hP.dat _ x.pos.port _ hG hdb hdl;generalize hr:(P V.cs[k] x.pos.port x.data).1=r at*;generalize hc:(P V.cs[k] x.pos.port x.data).2=c' at*;have hiH:i<H.length:=by rw [m.hl];exact hi
 have hh:=Qa hiH;rcases m.pk with ⟨h,rfl⟩ | ⟨Q,rfl,hQ⟩
 ·have:=kA m.hl;rw [h] at this;simp at this;omega
 rw [kA m.hl] at m hX;have hxg:V.pk[i]? =some x:=by rw [Qa hi,hx]
 have hhp:=I.s.hp x hmem;have hgl:=I.s.g;refine W5 m hX hT hi hx hh hs hk (hP.cc _ hG) (hP.cc _ hG') hd (by omega) hrun _ fun e O1 N1 m1 f1 z1 lt1 e0 e1 e4 e6 e7 e8 e9 e10=>?_
 have E:StE e n i Q N k x.pos.port r:=⟨e0,e1,e4,e6,e7,e8,e9,e10⟩;have hro:∀j,NetM.own n C (.row Q 9 0 V.pk.length) lv H j->j≠N:=fun j hj=>by
  obtain ⟨y,hy,_⟩:=m.nr hj;have:=hT.lt hy;omega
 have s1:StS X N O O1 N1 n { V with cs:=V.cs.set k c' } (.func (.func g) [] []) C Q N lv H:=⟨m1,f1,fun j hj=> .inl (hX j hj),⟨_,z1,rfl⟩,hro,Qb _⟩;cases hdr:r.drop with
 | true=>
  have:=qyt s1 E hxg hh hgl hhp hdr;simpa [oN,pW,mv,mvD,hdr,hgp,hs,NetV.ev,hop1,Pk.fin,Event.ce] using this
 | false=>
  refine UM s1 E hxg hh hgl hhp hdr (by omega) fun e2 O2 N2 lv2 h2 s2 E2 e12=>?_
  have hiP:(V.pk.set i { x with hops:=x.hops++[⟨k,x.pos.port,r.port⟩],data:=r.data })[i]? =some { x with hops:=x.hops++[⟨k,x.pos.port,r.port⟩],data:=r.data }:=List.getElem?_set_self hi;have hiH2:(H.set i h2)[i]? =some h2:=List.getElem?_set_self hiH;have hlg:(V.log++[(⟨2,i,k,r.port⟩:Event)]).length<=10001:=by simp;omega
  cases ha:eA V.hosts (atP k r.port) 0 with
  | true=>
   have:=qyu s2 E2 e12 hiP hiH2 (by have:=I.lg;simp [NetV.ev];omega) I.s.h ha;simpa [oN,pW,mv,mvP,hdr,hgp,hs,NetV.ev,hop1,Pk.fin,Event.ce,ha] using this
  | false=>
   by_cases hpe:(gF V.ports V.links V.hosts ⟨k,r.port⟩).2=0
   ·have:=qyw s2 E2 e12 hiP hiH2 I.s.h I.s.l ha hpe;simpa [oN,pW,mv,mvP,hdr,hgp,hs,NetV.ev,hop1,Pk.fin,Event.ce,ha,hpe] using this
   ·have:=qyv s2 E2 e12 hiP hiH2 (by have:=I.lg;simp [NetV.ev];omega) I.s.h I.s.l ha hpe;simpa [oN,pW,mv,mvP,hdr,hgp,hs,NetV.ev,hop1,Pk.fin,Event.ce,ha,hpe] using this
end
def fly (l:List Pk):Nat->List Int
 | 0=>[]
 | i+1=>fly l i++(if (l.getD i default).done then [] else [(i:Int)])
theorem RT (l:List Pk):∀i,(fly l i).length<=i
 | 0=>by simp [fly]
 | i+1=>by have:=RT l i;simp only [fly,tQ];split<;>simp<;>omega
theorem QH (l:List Hop) (h:l.length<2^40):aA Φ rH [.slice 3 (l.map Hop.c),.slice 3 (l.map Hop.c)]=some (.val (.bool true)):=by
 rw [aD rfl rfl];simp [DZ];refine cZ l.length (fun _=>[]) 0 (fun i e=>look 0 e=some (.slice 3 (l.map Hop.c))/\look 1 e=some (.slice 3 (l.map Hop.c))/\look 5 e=some (a8 i)) (fun _=>some (Rt.val (.bool true))) ?_ ?_ 0 _ _ (Qc _) (Qc _) ?_
 ·rintro i e n L hi hL _ ⟨h0,h1,h5⟩ ih;have hw:=aL i (by omega);simp [c_107_l0,Hop.c,h0,h1,h5,hi,hL,hw];exact ih _ _ (Qc _) ⟨by simp [h0],by simp [h1],by simp⟩
 ·rintro e n L hL _ ⟨h0,h1,h5⟩;simp [c_107_l0,c_107_k1,h0,h1,h5,hL]
 ·simp
theorem qp0 (l:List Event) (h:l.length<2^40):aA Φ HV [.slice 4 (l.map Event.c),.slice 4 (l.map Event.c)]=some (.val (.bool true)):=by
 rw [aD rfl rfl];simp [M1];refine cZ l.length (fun _=>[]) 0 (fun i e=>look 0 e=some (.slice 4 (l.map Event.c))/\look 1 e=some (.slice 4 (l.map Event.c))/\look 5 e=some (a8 i)) (fun _=>some (Rt.val (.bool true))) ?_ ?_ 0 _ _ (Qc _) (Qc _) ?_
 ·rintro i e n L hi hL _ ⟨h0,h1,h5⟩ ih;have hw:=aL i (by omega);simp [c_55_l0,Event.c,h0,h1,h5,hi,hL,hw];exact ih _ _ (Qc _) ⟨by simp [h0],by simp [h1],by simp⟩
 ·rintro e n L hL _ ⟨h0,h1,h5⟩;simp [c_55_l0,c_55_k1,h0,h1,h5,hL]
 ·simp
section
variable (V:NetV) (id:Int) (i:Nat)
theorem Zn (h:V.pk.length<2^40):aA Φ CM [.agg V.r]=some (.val (.slice 1 ((fly V.pk V.pk.length).map cI))):=by
 rw [aD rfl rfl];simp [LZ,NetV.re];refine cZ V.pk.length (fun i=>[(0,.tok 1 (fly V.pk i).length)]) 1 (fun i e=>look 1 e=some (.iptr 6 [V.r] 0 0)/\look 3 e=some (.app 1 ((fly V.pk i).map cI) 0)/\look 4 e=some (a8 i)) (fun _=>some (Rt.val (.slice 1 ((fly V.pk V.pk.length).map cI)))) ?_ ?_ 0 _ _ (Qc _) (Qb _) ?_
 ·rintro i e n L hi hL hn ⟨h1,h3,h4⟩ ih;have hw:=aL i (by omega);have hfl:=RT V.pk i;have hb:((fly V.pk i).length+1)*8<=70368744177664:=by omega
  rw [NetV.re] at h1;have hgd:V.pk[i]?.getD default=V.pk[i]:=by simp [hi]
  generalize hX:some (Rt.val (AV.slice 1 ((fly V.pk V.pk.length).map cI)))=Y at ih ⊢;cases hd:V.pk[i].done with
  | true=>
   have hf:fly V.pk (i+1)=fly V.pk i:=by simp [fly,hgd,hd]
   simp only [hf] at ih;simp [c_54_l0,h1,h3,h4,hi,hL,hw,Pk.ce,hd];exact ih _ _ hn ⟨by simp [h1,NetV.re],by simp [h3],by simp⟩
  | false=>
   have hf:fly V.pk (i+1)=fly V.pk i++[(i:Int)]:=by simp [fly,hgd,hd]
   simp only [hf,tQ,BU,w8,wA] at ih;simp [c_54_l0,h1,h3,h4,hi,hL,hw,Pk.ce,hd,hb];exact ih _ _ hn ⟨by simp [h1,NetV.re],by simp [cI],by simp⟩
 ·rintro e n L hL hn ⟨h1,h3,h4⟩;rw [NetV.re] at h1;simp [c_54_l0,c_54_k1,h1,h3,h4,hL]
 ·simp [fly,NetV.re]
theorem Hx (hz:chkV V id≠0):aA Φ rG [.agg V.r,a8 id]=some (.val (.tup [.agg [a8 0,a8 0],.slice 1 [],.bool false])):=by
 rw [aD rfl rfl];have k1:=JZ V id;rw [NetV.re] at k1;simp [wE,NetV.re,k1,hz]
theorem Zo (hi:i<V.pk.length) (hd:V.pk[i].done=false):aA Φ rG [.agg V.r,a8 i]=some (.val (.tup [.agg [a8 V.pk[i].pos.switch,a8 V.pk[i].pos.port],.slice 1 (V.pk[i].data.map c8),.bool true])):=by
 rw [aD rfl rfl];have k1:=JZ V i;have hz:chkV V i=0:=by unfold chkV;rw [QA (by omega)];simp [hi,hd]
 rw [NetV.re,hz] at k1;simp [wE,NetV.re,k1,hi,Pk.ce]
theorem qry (hz:id<0\/(V.pk.length:Int)<=id):aA Φ rI [.agg V.r,a8 id]=some (.val (.slice 3 [])):=by
 rw [aD rfl rfl];by_cases z:id<0
 ·simp [qL,NetV.re,z]
 ·simp [qL,NetV.re,z,show (V.pk.length:Int)<=id by omega]
theorem Iu (hi:i<V.pk.length):aA Φ rI [.agg V.r,a8 i]=some (.val (.slice 3 (V.pk[i].hops.map Hop.c))):=by
 rw [aD rfl rfl];simp [qL,NetV.re,hi,show ¬V.pk.length<=i by omega,Pk.ce]
theorem qrx (hz:id<0\/(V.pk.length:Int)<=id):aA Φ rJ [.agg V.r,a8 id]=some (.val (.slice 1 [])):=by
 rw [aD rfl rfl];by_cases z:id<0
 ·simp [qM,NetV.re,z]
 ·simp [qM,NetV.re,z,show (V.pk.length:Int)<=id by omega]
theorem It (hi:i<V.pk.length):aA Φ rJ [.agg V.r,a8 i]=some (.val (.slice 1 (V.pk[i].data.map c8))):=by
 rw [aD rfl rfl];simp [qM,NetV.re,hi,show ¬V.pk.length<=i by omega,Pk.ce]
theorem Zs (hz:id<0\/(V.pk.length:Int)<=id):aA Φ n8 [.agg V.r,a8 id]=some (.val (.tup [.agg [a8 0,a8 0,.slice 3 [],.slice 2 []],.bool false])):=by
 rw [aD rfl rfl];by_cases z:id<0
 ·simp [mO,NetV.re,z]
 ·simp [mO,NetV.re,z,show (V.pk.length:Int)<=id by omega]
theorem Zq (hi:i<V.pk.length) (hd:V.pk[i].done=false):aA Φ n8 [.agg V.r,a8 i]=some (.val (.tup [.agg [a8 0,a8 0,.slice 3 [],.slice 2 []],.bool false])):=by
 rw [aD rfl rfl];simp [mO,NetV.re,hi,show ¬V.pk.length<=i by omega,Pk.ce,hd]
theorem Zr (hi:i<V.pk.length) (hd:V.pk[i].done=true):aA Φ n8 [.agg V.r,a8 i]=some (.val (.tup [.agg [a8 V.pk[i].kind,a8 V.pk[i].index,.slice 3 (V.pk[i].hops.map Hop.c),.slice 2 []],.bool true])):=by
 rw [aD rfl rfl];simp [mO,NetV.re,hi,show ¬V.pk.length<=i by omega,Pk.ce,hd]
end
def PkF (x:Pk):List AV:=[a8 x.pos.switch,a8 x.pos.port,.slice 1 (x.data.map c8),.slice 3 (x.hops.map Hop.c),.bool x.done,a8 x.kind,a8 x.index,.slice 3 [],.slice 2 []]
def nwF (V:NetV) (f:AV):List AV:=nwR V (.slice 4 (V.cs.map Xf.c)) (.slice 9 (V.pk.map PkF)) (.slice 4 (V.log.map Event.c)) f
theorem pC (V:NetV) (f:AV):nwF V f=[.slice 1 (V.ports.map cI),.slice 5 (V.links.map Link.c),.slice 2 (V.hosts.map PortID.c),.slice 4 (V.cs.map Xf.c),.slice 9 (V.pk.map PkF),.slice 4 (V.log.map Event.c),f]:=rfl
theorem clHop (l:List Hop) (h:l.length<2^40):aA Φ pO [.slice 3 (l.map Hop.c)]=some (.val (.slice 3 (l.map Hop.c))):=
 B9 (bytes:=24) rfl _ (alH l) (by rw [cT];omega)
theorem clEv (l:List Event) (h:l.length<2^40):aA Φ uI [.slice 4 (l.map Event.c)]=some (.val (.slice 4 (l.map Event.c))):=
 B9 (bytes:=32) rfl _ (al4 l) (by rw [cT];omega)
theorem NN (a:AV) (h:AH):aI Φ jC [a] h=go Φ (finC lO.results) [.c lO.body] .normal ⟨dI 0 [a],h⟩:=dA rfl rfl
theorem Lm (a b:AV) (h:AH):aI Φ oG [a,b] h=go Φ (finC uA.results) [.c uA.body] .normal ⟨dI 0 [a,b],h⟩:=dA rfl rfl
theorem Cj (a b:AV) (h:AH):aI Φ CD [a,b] h=go Φ (finC tX.results) [.c tX.body] .normal ⟨dI 0 [a,b],h⟩:=dA rfl rfl
theorem Dq (a b:AV) (h:AH):aI Φ CB [a,b] h=go Φ (finC tV.results) [.c tV.body] .normal ⟨dI 0 [a,b],h⟩:=dA rfl rfl
theorem Dp (a b:AV) (h:AH):aI Φ CF [a,b] h=go Φ (finC tZ.results) [.c tZ.body] .normal ⟨dI 0 [a,b],h⟩:=dA rfl rfl
theorem Cm (a b:AV) (h:AH):aI Φ CC [a,b] h=go Φ (finC tW.results) [.c tW.body] .normal ⟨dI 0 [a,b],h⟩:=dA rfl rfl
def b2sV (h:AH) (o:Option AV):Option (AV×AH):=match o with
 | some v=>evOp [(0,v)] 0 h (.b2s (.t 0))
 | none=>none
theorem Al {e:Env} {nx:Nat} {h:AH} {n:Nat}:evOp e nx h (.b2s (.t n))=b2sV h (look n e):=by
 cases hl:look n e with
 | none=>simp only [evOp,evX,hl,b2sV]
 | some v=>simp only [evOp,evX,hl,b2sV,look,if_true]
theorem Og {call:bI} {e:Env} {nx:Nat} {h:AH} {n:Nat}:aG call e nx h (.b2s (.t n))=eC (b2sV h (look n e)):=by rw [Cy,Al]
def strB (l:List Int):List UInt8:=l.map fun n=>UInt8.ofNat n.toNat
theorem Pd (F:List AV->Option UInt8) (hF:∀n,F (c8 n)=some (UInt8.ofNat n.toNat)):∀l:List Int,mapO F (l.map c8)=some (strB l)
 | []=>rfl
 | a::l=>by simp only [w9,mapO,hF,Pd F hF l,strB]
theorem Ka (h:AH) (z:Nat) (l:List Int):b2sV h (some (.slice z (l.map c8)))=some (.str (strB l),h):=by
 simp only [b2sV,evOp,evX,look,if_true,gW];rw [Pd _ (fun n=>rfl)]
theorem Mp (h:AH) (z:Nat):b2sV h (some (.slice z []))=some (.str [],h):=rfl
theorem Ll (h:AH) (z:Nat):b2sV h (some (.Xu z []))=some (.str [],h):=rfl
section
variable (V:NetV) (g:Nat) (id:Int) (i:Nat)
theorem YI (hz:id<0\/(V.pk.length:Int)<=id) (h:AH):aI Φ oG [.iptr 7 [nwF V (.func (.func g) [] [])] 0 0,a8 id] h=some (.val .nilptr,h):=by
 rw [Lm];by_cases z:id<0
 ·simp [uA,NN,lO,pC,z]
 ·simp [uA,NN,lO,pC,z,show (V.pk.length:Int)<=id by omega]
theorem Ou (hi:i<V.pk.length) (h:AH):aI Φ oG [.iptr 7 [nwF V (.func (.func g) [] [])] 0 0,a8 i] h=some (.val (.iptr 9 (V.pk.map PkF) i 0),h):=by
 rw [Lm];simp [uA,NN,lO,pC,hi,show ¬V.pk.length<=i by omega]
theorem qr3 (hz:id<0\/(V.pk.length:Int)<=id):aA Φ uK [.iptr 7 [nwF V (.func (.func g) [] [])] 0 0,.agg V.r,a8 id]=some (.val (.bool true)):=by
 rw [aD rfl rfl];have hck:chkV V id≠0:=by unfold chkV;rw [aE hz];decide
 have k0:=fun h=>YI V g id hz h
 have k1:=Hx V id hck;have k2:=qry V id hz;have k3:=qrx V id hz;have k4:=Zs V id hz;have k5:=QH [] (by simp);rw [NetV.re] at k1 k2 k3 k4;rw [pC] at k0;simp at k5;simp [C6,NetV.re,pC,Cj,tX,Dq,tV,Dp,tZ,Cm,tW,k0,k1,k2,k3,k4,k5]
theorem qr2 (hi:i<V.pk.length) (hd:V.pk[i].done=false) (h1:V.pk[i].data.length<2^40) (h2:V.pk[i].hops.length<2^40):aA Φ uK [.iptr 7 [nwF V (.func (.func g) [] [])] 0 0,.agg V.r,a8 i]=some (.val (.bool true)):=by
 rw [aD rfl rfl];have k0:=fun h=>Ou V g i hi h
 have k1:=Zo V i hi hd;have k2:=Iu V i hi;have k3:=It V i hi;have k4:=Zq V i hi hd;have k5:=QH _ h2;have k6:=QH [] (by simp);have k7:=clBy _ h1;have k8:=clHop _ h2;rw [NetV.re] at k1 k2 k3 k4;rw [pC] at k0;simp at k6;simp [C6,NetV.re,pC,hi,PkF,hd,Cj,tX,Dq,tV,Dp,tZ,Cm,tW,k0,k1,k2,k3,k4,k5,k6,k7,k8,Og,Ka,Mp,Ll,-Cy]
theorem qr1 (hi:i<V.pk.length) (hd:V.pk[i].done=true) (h1:V.pk[i].data.length<2^40) (h2:V.pk[i].hops.length<2^40):aA Φ uK [.iptr 7 [nwF V (.func (.func g) [] [])] 0 0,.agg V.r,a8 i]=some (.val (.bool true)):=by
 rw [aD rfl rfl];have k0:=fun h=>Ou V g i hi h
 have k1:=Hx V i (by unfold chkV;rw [QA (by omega)];simp [hi,hd]);have k2:=Iu V i hi;have k3:=It V i hi;have k4:=Zr V i hi hd;have k5:=QH _ h2;have k7:=clBy _ h1;have k8:=clHop _ h2;rw [NetV.re] at k1 k2 k3 k4;rw [pC] at k0;simp [C6,NetV.re,pC,hi,PkF,hd,Cj,tX,Dq,tV,Dp,tZ,Cm,tW,k0,k1,k2,k3,k4,k5,k7,k8,Og,Ka,Mp,Ll,-Cy]
end
section
variable (V:NetV) (g:Nat)
theorem qvl (h:V.pk.length<2^40):∃n,2<=n/\aI Φ zS [.iptr 7 [nwF V (.func (.func g) [] [])] 0 0] ⟨[],1⟩=some (.val (.app 1 ((fly V.pk V.pk.length).map cI) 1),⟨[(1,.tok 1 (fly V.pk V.pk.length).length)],n⟩):=by
 rw [dA rfl rfl];show (fun r=>∃n,2<=n/\r=some (Rt.val (.app 1 ((fly V.pk V.pk.length).map cI) 1),AH.mk [(1,.tok 1 (fly V.pk V.pk.length).length)] n)) _;simp [LV,NN,lO,pC];refine fF V.pk.length (fun i e h=>∃n,h=⟨[(1,.tok 1 (fly V.pk i).length)],n⟩/\2<=n/\look 3 e=some (.app 1 ((fly V.pk i).map cI) 1)/\look 13 e=some (.slice 9 (V.pk.map PkF))/\look 14 e=some (a8 V.pk.length)/\look 15 e=some (a8 i)) (fun r=>∃n,2<=n/\r=some (Rt.val (.app 1 ((fly V.pk V.pk.length).map cI) 1),AH.mk [(1,.tok 1 (fly V.pk V.pk.length).length)] n)) ?_ ?_ 0 _ _ (Qc _) ?_
 ·rintro i e _ L hi hL ⟨n,rfl,hn,h3,h13,h14,h15⟩ ih;have hw:=aL i (by omega);have hfl:=RT V.pk i;have hb:((fly V.pk i).length+1)*8<=70368744177664:=by omega
  have hgd:V.pk[i]?.getD default=V.pk[i]:=by simp [hi]
  have n1:¬n=1:=by omega
  have n2:¬1=n:=by omega
  cases hd:V.pk[i].done with
  | true=>
   have hf:fly V.pk (i+1)=fly V.pk i:=by simp [fly,hgd,hd]
   simp only [hf] at ih;simp [c_30_l0,h3,h13,h14,h15,hi,hL,hw,PkF,hd,n1,n2];exact ih _ _ ⟨_,rfl,by omega,by simp [h3],by simp [h13],by simp [h14],by simp⟩
  | false=>
   have hf:fly V.pk (i+1)=fly V.pk i++[(i:Int)]:=by simp [fly,hgd,hd]
   simp only [hf,tQ,BU,w8,wA] at ih;simp [c_30_l0,h3,h13,h14,h15,hi,hL,hw,PkF,hd,hb,n1,n2];exact ih _ _ ⟨_,rfl,by omega,by simp [cI],by simp [h13],by simp [h14],by simp⟩
 ·rintro e _ L hL ⟨n,rfl,hn,h3,h13,h14,h15⟩;simp [c_30_l0,c_30_k1,h3,h13,h14,h15,hL];exact hn
 ·simp [fly]
theorem qsr (a:AV) (h:AH):aI Φ CG [a] h=go Φ (finC BZ.results) [.c BZ.body] .normal ⟨dI 0 [a],h⟩:=dA rfl rfl
theorem UB (a:AV) (h:AH):aI Φ CA [a] h=go Φ (finC BW.results) [.c BW.body] .normal ⟨dI 0 [a],h⟩:=dA rfl rfl
theorem Pr (s:NetS V) (hc:∀c∈V.cs,CfgC c/\CfgS c) (hd:∀x∈V.pk,x.data.length<=1000):aA Φ CE [.iptr 7 [nwF V (.func (.func g) [] [])] 0 0,.agg V.r]=some (.val (.bool true)):=by
 rw [aD rfl rfl];have hk:=s.k;have hg:=s.g;have hcl:=s.c;obtain ⟨n1,hn1,e1⟩:=qvl V g (by omega);have k1:=Zn V (by omega);obtain ⟨w,O2,N2,e2,x2,f2,kp2,T2,l2⟩:=Ca V.cs (fun c h=>(hc c h).1) (by omega) (O:=[(1,.tok 1 (fly V.pk V.pk.length).length)]) (N:=n1) (by simp [Tail_cons_iff,pS];omega) (v:= .slice 4 (V.cs.map Xf.c)) (.sl _);have k2:=clEv V.log (by omega);have k3:=qp0 V.log (by omega);have hw:lenOf w=some V.cs.length:=by rcases x2 with ⟨h,rfl⟩ | ⟨id,rfl,_⟩<;>simp at*;simp [h]
 rw [NetV.re] at k1;rw [pC] at e1;simp [LU,NetV.re,pC,e1,k1,qsr,BZ,NN,lO,e2,UB,BW,k2,k3,hw,-lenOf];generalize hO3:bZ (bZ O2)=O3;have hx3:Ex1 O3 4 w (V.cs.map Xf.c):=x2.fr fun t ht=>by
  have h:=x2.id ht;rw [<- hO3,aR (by rw [aR (by rw [h];simp),h];simp),aR (by rw [h];simp)]
 have hT3:Tail O3 N2:=by rw [<- hO3];exact CU (CU T2)
 have hfl:=RT V.pk V.pk.length;refine cZ (fly V.pk V.pk.length).length (fun _=>O3) (N2+1) (fun i e=>look 0 e=some (.iptr 7 [nwF V (.func (.func g) [] [])] 0 0)/\look 3 e=some (.iptr 6 [V.r] 0 0)/\look 5 e=some (.app 1 ((fly V.pk V.pk.length).map cI) 1)/\look 6 e=some w/\look 7 e=some (.slice 1 ((fly V.pk V.pk.length).map cI))/\look 8 e=some (a8 i)) (fun _=>some (Rt.val (.bool true))) ?_ ?_ 0 _ _ (Qc _) (Qb _) ?_
 ·rintro i e n L hi hL hn ⟨h0,h3,h5,h6,h7,h8⟩ ih;have hw:=aL i (by omega);simp [c_23_l0,h5,h7,h8,hi,hL,hw,cI];exact ih _ _ hn ⟨by simp [h0],by simp [h3],by simp [h5],by simp [h6],by simp [h7],by simp⟩
 ·rintro e n L hL hn ⟨h0,h3,h5,h6,h7,h8⟩;simp [c_23_l0,c_23_k5,h5,h8,hL];refine cZ V.cs.length (fun _=>O3) (N2+1) (fun i e=>look 0 e=some (.iptr 7 [nwF V (.func (.func g) [] [])] 0 0)/\look 3 e=some (.iptr 6 [V.r] 0 0)/\look 6 e=some w/\look 9 e=some (a8 i)) (fun _=>some (Rt.val (.bool true))) ?_ ?_ 0 _ _ (Qc _) hn ?_
  ·rintro i e n L hi hL hn ⟨h0,h3,h6,h9⟩ ih;have hw1:=aL i (by omega);have hq:=qx9 V.cs[i] V.cs[i] (hc _ (Qd hi)).2;rw [NetV.re] at h3;rcases hx3 with ⟨hz,rfl⟩ | ⟨id,rfl,hid⟩
   ·rw [Q2] at hz;rw [hz] at hi;simp at hi
   ·simp only [Xf.e4] at hq;simp [c_23_l1,h3,h6,h9,hi,hL,hid,hq,hw1,Xf.e4];exact ih _ _ (by omega) ⟨by simp [h0],by simp [h3,NetV.re],by simp [h6],by simp⟩
  ·rintro e n L hL hn ⟨h0,h3,h6,h9⟩;simp [c_23_l1,c_23_k4,h6,h9,hL,hw,-lenOf];refine cZ (V.pk.length+2) (fun _=>O3) (N2+1) (fun i e=>look 0 e=some (.iptr 7 [nwF V (.func (.func g) [] [])] 0 0)/\look 3 e=some (.iptr 6 [V.r] 0 0)/\look 10 e=some (a8 ((i:Int) - 1))) (fun _=>some (Rt.val (.bool true))) ?_ ?_ 0 _ _ (Qc _) hn ?_
   ·rintro i e n L hi hL hn ⟨h0,h3,h10⟩ ih;have hw1:IntKind.wrap .i64 ((i:Int) - 1+1)=((i+1:Nat):Int) - 1:=by rw [fG (by omega) (by omega)];omega
    have hw2:IntKind.wrap .i64 (i:Int)=(i:Int):=fG (by omega) (by omega);have hle:(i:Int) - 1<=V.pk.length:=by omega
    have hq:aA Φ uK [.iptr 7 [nwF V (.func (.func g) [] [])] 0 0,.agg V.r,a8 ((i:Int) - 1)]=some (.val (.bool true)):=by
     by_cases z:(i:Int) - 1<0\/(V.pk.length:Int)<=(i:Int) - 1
     ·exact qr3 V g _ z
     ·obtain ⟨j,hj⟩:=fP (show 0<=(i:Int) - 1 by omega);rw [hj];have hjl:j<V.pk.length:=by omega
      have hm:=Qd hjl;have h1:=hd _ hm;have h2:=s.hp _ hm;cases hdn:V.pk[j].done with
      | true=>exact qr1 V g j hjl hdn (by omega) (by omega)
      | false=>exact qr2 V g j hjl hdn (by omega) (by omega)
    rw [NetV.re] at hq h3;rw [pC] at hq h0;simp [c_23_l2,h0,h3,h10,hL,hq,hle,hw1,hw2];exact ih _ _ (by omega) ⟨by simp [h0,pC],by simp [h3,NetV.re],by simp [hw2]⟩
   ·rintro e n L hL hn ⟨h0,h3,h10⟩;rw [NetV.re] at h3;have hle:¬(V.pk.length:Int)+2 - 1<=V.pk.length:=by omega
    simp [c_23_l2,c_23_k3,h3,h10,hL,hle]
   ·simp [h0,h3]
  ·simp [h0,h3,h6]
 ·simp [pC,NetV.re]
end
end Go.Av
