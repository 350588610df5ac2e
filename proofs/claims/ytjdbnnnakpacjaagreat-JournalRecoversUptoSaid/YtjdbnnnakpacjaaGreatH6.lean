/-
 store.cloneConfig: the default actions and the registers.
-/
import Derived.Test.YtjdbnnnakpacjaaGreatQ18
import Derived.Test.YtjdbnnnakpacjaaGreatW25K
set_option linter.unusedVariables false
set_option linter.unusedSimpArgs false
set_option linter.constructorNameAsVariable false
namespace Go.Av
set_option maxRecDepth 4000
theorem qfj {α:Type} {f:α->List AV} {l:List α} {i:Nat} {es0:List (List AV)} (hi:i<l.length) (ht:es0.take (l.map f).length=l.map f):es0[i]? =some (f l[i]):=by
 have h:(es0.take (l.map f).length)[i]? =(l.map f)[i]? :=by rw [ht]
 rw [List.getElem?_take_of_lt (by simpa using hi)] at h;rw [h];simp [hi]
def Im (z:Nat) (v:AV) (es:List (List AV)):Prop:=v= .slice z es\/v= .Xu z es\/∃t,v= .app z es t
theorem Im.len {z:Nat} {v:AV} {es:List (List AV)} (h:Im z v es):lenOf v=some es.length:=by
 rcases h with rfl | rfl | ⟨t,rfl⟩<;>rfl
section
variable {β:Type} {fin:Option (Ex×St)->Option β}
theorem qae9 (D:List Xb) (hD:D.length<2^40) (hs:∀d∈D,d.args.length<2^40) (v w1 w2:AV) (b:Nat) (K:List Fr) (Q:Option β->Prop) (e:Env) (O:List (Nat×AO)) (N:Nat) (hT:Tail O N) (hv:Re O 2 v (D.map Xb.c))
  (hb:look b O=some (.row 4 [[w1,w2,.Xu 2 [],.Xu 1 []]])) (h3:look 3 e=some (.ptr b 4 0 0)) (h44:look 44 e=some v) (h45:look 45 e=some (.int .i64 D.length)) (h46:look 46 e=some (.int .i64 0))
  (hK:∀e' O' N' w,Mu O' 2 w (D.map Xb.c)->(∀j,vid w=some j->N<=j)->Kp (fun j=>j=b) N O O'->Tail O' N'->N<=N'->look b O'=some (.row 4 [[w1,w2,w,.Xu 1 []]])->
   look 1 e'=look 1 e->look 2 e'=look 2 e->look 3 e'=look 3 e->Q (go Φ fin K .normal ⟨e',⟨O',N'⟩⟩)):
  Q (go Φ fin (.c (.loop c_92_l4):: .b 4::K) .normal ⟨e,⟨O,N⟩⟩):=by
 have hvb:∀j,vid v=some j->j≠b:=by
  intro j hj;cases hv with
  | sl=>cases hj
  | fs=>cases hj
  | ap=>cases hj
  | row id _ es0 n hn hl hle ht=>cases hj;exact qan hl hb (by simp)
 refine qhv D.length (fun i e' h=>∃O' N' w,h=⟨O',N'⟩/\((i=0/\w= .Xu 2 [])\/∃id,w= .row id 2 0 i/\look id O'=some (.row 2 ((D.map Xb.c).take i))/\N<=id)/\Kp (fun j=>j=b) N O O'/\Tail O' N'/\N<=N'/\
   look b O'=some (.row 4 [[w1,w2,w,.Xu 1 []]])/\look 3 e'=some (.ptr b 4 0 0)/\look 44 e'=some v/\look 45 e'=some (.int .i64 D.length)/\look 46 e'=some (.int .i64 i)/\
   look 1 e'=look 1 e/\look 2 e'=look 2 e) Q ?_ ?_ 0 _ _ (Qc _) ?_
 ·rintro i e' _ L hi hL ⟨O',N',w,rfl,hw,hk,hT',hN,hb',h3,h44,h45,h46,g1,g2⟩ ih;have hw1:=qal i (by omega);have hbN:b<N:=hT.lt hb;have hc:=qix D[i] (hs _ (Qd hi));simp only [Xb.ce] at hc;have t0:=hT' N' (Qb _);have t1:=hT' (N'+1) (by omega);have q1:¬N'+1=b:=by omega
  have hm:min i D.length=i:=by omega
  have hbd:(i+1)*32<=70368744177664:=by omega
  have htk:(D.map Xb.c).take (i+1)=(D.map Xb.c).take i++[Xb.c D[i]]:=qa5 hi;rw [Xb.ce] at htk;have hv':Re O' 2 v (D.map Xb.c):=by
   refine hv.fr fun j hj=>?_
   obtain ⟨x,hl⟩:=hv.own hj;exact hk j (hT.lt hl) (hvb j hj)
  rcases hw with ⟨rfl,rfl⟩ | ⟨id,rfl,hlk,hid⟩
  ·have htk1:(D.map Xb.c).take 1=[[.int .i64 D[0].action,.slice 1 (D[0].args.map c32)]]:=by simpa using htk
   cases hv' with
   | row id' _ es0 n hn hl' hle ht=>
    have h0:=qfj hi ht;simp [c_92_l4,Xb.ce,h3,h44,h45,h46,hi,hc,t0,t1,hn,hl',h0,wr1,qag,hb'];refine ih _ _ ⟨_,_,.row (N'+1) 2 0 (0+1),rfl,.inr ⟨N'+1,rfl,?_,by omega⟩,Kp.setl (Kp.app hk (by omega)) (.inr rfl),qai (hT'.app1 (by omega)),by omega,?_,?_,?_,?_,?_,?_,?_⟩
    ·simp [qab,q1,t1,htk1]
    ·simp [qab,qag,hb']
    all_goals simp [*]
   | _=>
    simp [c_92_l4,Xb.ce,h3,h44,h45,h46,hi,hc,t0,t1,wr1,qag,hb'];refine ih _ _ ⟨_,_,.row (N'+1) 2 0 (0+1),rfl,.inr ⟨N'+1,rfl,?_,by omega⟩,Kp.setl (Kp.app hk (by omega)) (.inr rfl),qai (hT'.app1 (by omega)),by omega,?_,?_,?_,?_,?_,?_,?_⟩
    ·simp [qab,q1,t1,htk1]
    ·simp [qab,qag,hb']
    all_goals simp [*]
  ·have hbi:=qan hb' hlk (by simp);have hd1:look (N'+1) (qbg id O')=none:=qcy _ t1;have hd2:look b (qbg id O')=some (.row 4 [[w1,w2,.row id 2 0 i,.Xu 1 []]]):=by rw [qb5 hbi,hb']
   cases hv' with
   | row id' _ es0 n hn hl' hle ht=>
    have h0:=qfj hi ht;simp [c_92_l4,Xb.ce,h3,h44,h45,h46,hi,hc,t0,hn,hl',h0,hw1,qag,hb',hlk,hm,hbd,hd1,hd2];refine ih _ _ ⟨_,_,.row (N'+1) 2 0 (i+1),rfl,.inr ⟨N'+1,rfl,?_,by omega⟩,Kp.setl (Kp.app (Kp.drop hk (.inl hid)) (by omega)) (.inr rfl),qai ((qdz hT').app1 (by omega)),by omega,?_,?_,?_,?_,?_,?_,?_⟩
    ·simp [qab,q1,hd1,htk]
    ·simp [qab,qag,hd2]
    all_goals simp [*]
   | _=>
    simp [c_92_l4,Xb.ce,h3,h44,h45,h46,hi,hc,t0,hw1,qag,hb',hlk,hm,hbd,hd1,hd2];refine ih _ _ ⟨_,_,.row (N'+1) 2 0 (i+1),rfl,.inr ⟨N'+1,rfl,?_,by omega⟩,Kp.setl (Kp.app (Kp.drop hk (.inl hid)) (by omega)) (.inr rfl),qai ((qdz hT').app1 (by omega)),by omega,?_,?_,?_,?_,?_,?_,?_⟩
    ·simp [qab,q1,hd1,htk]
    ·simp [qab,qag,hd2]
    all_goals simp [*]
 ·rintro e' _ L hL ⟨O',N',w,rfl,hw,hk,hT',hN,hb',h3,h44,h45,h46,g1,g2⟩;simp [c_92_l4,h45,h46,hL];refine hK _ O' N' w ?_ ?_ hk hT' hN hb' ?_ ?_ ?_
  ·rcases hw with ⟨hz,rfl⟩ | ⟨id,rfl,hlk,hid⟩
   ·have:D=[]:=Qg hz;subst this;exact .nilF
   ·rw [Qo (by simp)] at hlk;exact .row id _ _ _ (by simp) hlk (Qb _) (by rw [QAk])
  ·rcases hw with ⟨hz,rfl⟩ | ⟨id,rfl,hlk,hid⟩
   ·intro j hj;cases hj
   ·intro j hj;cases hj;exact hid
  ·simp [g1]
  ·simp [g2]
  ·simp [*]
 ·exact ⟨O,N,.Xu 2 [],rfl,.inl ⟨rfl,rfl⟩,fun _ _ _=>rfl,hT,Qb _,hb,h3,h44,h45,h46,rfl,rfl⟩
theorem qafa (G:List (List Int)) (hG:G.length<2^40) (hs:∀l∈G,l.length<2^40) (v w1 w2 w3:AV) (b:Nat) (K:List Fr) (Q:Option β->Prop) (e:Env) (O:List (Nat×AO)) (N:Nat) (hT:Tail O N) (hv:Im 1 v (G.map (cS 1 c32)))
  (hb:look b O=some (.row 4 [[w1,w2,w3,.Xu 1 []]])) (h3:look 3 e=some (.ptr b 4 0 0)) (h59:look 59 e=some v) (h60:look 60 e=some (.int .i64 G.length)) (h61:look 61 e=some (.int .i64 0))
  (hK:∀e' O' N' w,(w= .Xu 1 (G.map (cS 1 c32))\/∃t,w= .app 1 (G.map (cS 1 c32)) t)->Kp (fun j=>j=b) N O O'->Tail O' N'->N<=N'->look b O'=some (.row 4 [[w1,w2,w3,w]])->
   look 1 e'=look 1 e->look 2 e'=look 2 e->look 3 e'=look 3 e->Q (go Φ fin K .normal ⟨e',⟨O',N'⟩⟩)):
  Q (go Φ fin (.c (.loop c_92_l5):: .b 6::K) .normal ⟨e,⟨O,N⟩⟩):=by
 refine qhv G.length (fun i e' h=>∃O' N' w,h=⟨O',N'⟩/\((i=0/\w= .Xu 1 [])\/∃id,w= .app 1 ((G.map (cS 1 c32)).take i) id/\look id O'=some (.tok 1 i)/\N<=id)/\Kp (fun j=>j=b) N O O'/\Tail O' N'/\N<=N'/\
   look b O'=some (.row 4 [[w1,w2,w3,w]])/\look 3 e'=some (.ptr b 4 0 0)/\look 59 e'=some v/\look 60 e'=some (.int .i64 G.length)/\look 61 e'=some (.int .i64 i)/\
   look 1 e'=look 1 e/\look 2 e'=look 2 e) Q ?_ ?_ 0 _ _ (Qc _) ?_
 ·rintro i e' _ L hi hL ⟨O',N',w,rfl,hw,hk,hT',hN,hb',h3,h59,h60,h61,g1,g2⟩ ih;have hw1:=qal i (by omega);have hbN:b<N:=hT.lt hb;have hc:=qte G[i] (hs _ (Qd hi));have t0:=hT' N' (Qb _);have q0:¬N'=b:=by omega
  have q1:¬b=N':=by omega
  have hm:min i G.length=i:=by omega
  have hbd:(i+1)*24<=70368744177664:=by omega
  have htk:(G.map (cS 1 c32)).take (i+1)=(G.map (cS 1 c32)).take i++[cS 1 c32 G[i]]:=qa5 hi;rw [cSe] at htk;rcases hw with ⟨rfl,rfl⟩ | ⟨id,rfl,hlk,hid⟩
  ·have htk1:(G.map (cS 1 c32)).take 1=[[.slice 1 (G[0].map c32)]]:=by simpa using htk
   rcases hv with rfl | rfl | ⟨t,rfl⟩
   all_goals
    simp [c_92_l5,cSe,h3,h59,h60,h61,hi,hc,t0,wr1,qag,hb'];refine ih _ _ ⟨_,_,.app 1 [[.slice 1 (G[0].map c32)]] N',rfl,.inr ⟨N',by rw [htk1],?_,by omega⟩,Kp.setl (Kp.app hk (by omega)) (.inr rfl),qai (hT'.app1 (by omega)),by omega,?_,?_,?_,?_,?_,?_,?_⟩
    ·simp [qab,q0,t0]
    ·simp [qab,qag,hb']
    all_goals simp [*]
  ·have hbi:=qan hb' hlk (by simp);have hib:¬id=b:=fun h=>hbi h.symm
   rcases hv with rfl | rfl | ⟨t,rfl⟩
   all_goals
    simp [c_92_l5,cSe,h3,h59,h60,h61,hi,hc,hw1,qab,hb',hbi,hlk,hm,hbd];refine ih _ _ ⟨_,_,.app 1 ((G.map (cS 1 c32)).take i++[[.slice 1 (G[i].map c32)]]) id,rfl,.inr ⟨id,by rw [htk],?_,hid⟩,Kp.setl (Kp.setl hk (.inl hid)) (.inr rfl),qai (qai hT'),by omega,?_,?_,?_,?_,?_,?_,?_⟩
    ·simp [qab,hlk,hib]
    ·simp [qab,hbi,hb']
    all_goals simp [*]
 ·rintro e' _ L hL ⟨O',N',w,rfl,hw,hk,hT',hN,hb',h3,h59,h60,h61,g1,g2⟩;simp [c_92_l5,h60,h61,hL];refine hK _ O' N' w ?_ hk hT' hN hb' ?_ ?_ ?_
  ·rcases hw with ⟨hz,rfl⟩ | ⟨id,rfl,hlk,hid⟩
   ·have:G=[]:=Qg hz;subst this;exact .inl rfl
   ·right;exact ⟨id,by rw [Qo (by simp)]⟩
  ·simp [g1]
  ·simp [g2]
  ·simp [*]
 ·exact ⟨O,N,.Xu 1 [],rfl,.inl ⟨rfl,rfl⟩,fun _ _ _=>rfl,hT,Qb _,hb,h3,h59,h60,h61,rfl,rfl⟩
end
structure CfgR (O:List (Nat×AO)) (v1 v2 v3 v4:AV) (A:List AV) (c:Xf):Prop where
 r:RowsR O v1 A c.rows
 n:Re O 1 v2 (c.Xr.map cI)
 d:Re O 2 v3 (c.Xq.map Xb.c)
 g:Im 1 v4 (c.Xm.map (cS 1 c32))
structure CfgU (c:Xf):Prop where
 t:CfgT c
 u:∀l∈c.rows,l.length<2^39
theorem CfgR.kp {O O':List (Nat×AO)} {v1 v2 v3 v4:AV} {A:List AV} {c:Xf} {N:Nat} {X:Nat->Prop} (h:CfgR O v1 v2 v3 v4 A c) (hT:Tail O N) (hk:Kp X N O O') (hx:∀j,X j->look j O=none\/N<=j):CfgR O' v1 v2 v3 v4 A c:=
 ⟨⟨h.r.v.kp hT hk hx,h.r.len,fun k x l ha hl=>(h.r.at_ k x l ha hl).kp hT hk hx⟩,h.n.kp hT hk hx,h.d.kp hT hk hx,h.g⟩
def qzo (N:Nat) (O:List (Nat×AO)) (c:Xf) (r:Option (Rt×AH)):Prop:=
 ∃w1 w2 w3 w4 V O' N',r=some (.val (.agg [w1,w2,w3,w4]),⟨O',N'⟩)/\CfgM O' w1 w2 w3 w4 V c/\(∀j,CfgM.own w1 w2 w3 V j->N<=j)/\Kp (fun _=>False) N O O'/\Tail O' N'/\N<=N'
theorem qj5 (c:Xf) (s:CfgU c) {v1 v2 v3 v4:AV} {A:List AV} {O:List (Nat×AO)} {N:Nat} (hT:Tail O N) (h:CfgR O v1 v2 v3 v4 A c):qzo N O c (qah Φ f_92 [.agg [v1,v2,v3,v4]] ⟨O,N⟩):=by
 rw [qau (fn:=c_92) rfl rfl];have t0:=hT N (Qb _);have t1:=hT (N+1) (by omega);have hT1:Tail (O++[(N,AO.row 4 [[v1,v2,v3,v4]]),(N+1,AO.row 4 [[.Xu 1 [],.Xu 1 [],.Xu 2 [],.Xu 1 []]])]) (N+1+1):=by
  rw [Tail_append_iff,qa1,qa1];exact ⟨hT.mono (by omega),by omega,by omega,Tail.nil _⟩
 have hk1:Kp (fun _=>False) N O (O++[(N,AO.row 4 [[v1,v2,v3,v4]]),(N+1,AO.row 4 [[.Xu 1 [],.Xu 1 [],.Xu 2 [],.Xu 1 []]])]):=Kp.appL (fun _ _ _=>rfl) (by simp);have hR1:=h.kp hT hk1 (by simp);have hc1:=hR1.n.cells;have c1:=h.r.v.cells;have c2:=h.n.cells;have c3:=h.d.cells;have c4:AV.cells v4=some [v4]:=by rcases h.g with e | e | ⟨t,e⟩<;>subst e<;>rfl
 simp [c_92,t0,t1];generalize hO1:O++[(N,AO.row 4 [[v1,v2,v3,v4]]),(N+1,AO.row 4 [[.Xu 1 [],.Xu 1 [],.Xu 2 [],.Xu 1 []]])]=O1 at hT1 hk1 hR1 ⊢;have lb1:look N O1=some (.row 4 [[v1,v2,v3,v4]]):=by rw [<- hO1];simp [t0]
 have lb2:look (N+1) O1=some (.row 4 [[.Xu 1 [],.Xu 1 [],.Xu 2 [],.Xu 1 []]]):=by rw [<- hO1];simp [t1]
 obtain ⟨w2,o2,e2,m2,fw2⟩:=qafe hT1 hR1.n s.t.nl;rw [e2];have n1:¬N+1+1=N:=by omega
 have t2:=hT1 (N+1+1) (Qb _);have t3:=hT1 (N+1+1+1) (by omega);have m2c:=m2.cells;have l1:=h.r.v.len;rw [QAb,h.r.len] at l1;simp [t3,qag,lb1,m2c,l1,-AV.cells,-lenOf];have hT2:Tail (O1++[(N+1+1,o2),(N+1+1+1,AO.row 4 [[.Xu 1 [],w2,.Xu 2 [],.Xu 1 []]])]) (N+1+1+1+1):=by
  rw [Tail_append_iff,qa1,qa1];exact ⟨hT1.mono (by omega),by omega,by omega,Tail.nil _⟩
 have hk2:Kp (fun _=>False) (N+1+1) O1 (O1++[(N+1+1,o2),(N+1+1+1,AO.row 4 [[.Xu 1 [],w2,.Xu 2 [],.Xu 1 []]])]):=Kp.appL (fun _ _ _=>rfl) (by simp);have hR2:=hR1.kp hT1 hk2 (by simp);have lb3:look (N+1+1+1) (O1++[(N+1+1,o2),(N+1+1+1,AO.row 4 [[.Xu 1 [],w2,.Xu 2 [],.Xu 1 []]])])=some (.row 4 [[.Xu 1 [],w2,.Xu 2 [],.Xu 1 []]]):=by
  have:¬N+1+1=N+1+1+1:=by omega
  rw [qag,t3];simp
 have m2':Mu (O1++[(N+1+1,o2),(N+1+1+1,AO.row 4 [[.Xu 1 [],w2,.Xu 2 [],.Xu 1 []]])]) 1 w2 (c.Xr.map cI):=by
  refine m2.fr fun j hj=>?_
  obtain ⟨es0,hl⟩:=m2.own hj;have hlt:=(hT1.app1 (o:=o2) (Qb _)).lt hl;have:¬N+1+1+1=j:=by omega
  rw [show O1++[(N+1+1,o2),(N+1+1+1,AO.row 4 [[.Xu 1 [],w2,.Xu 2 [],.Xu 1 []]])]=(O1++[(N+1+1,o2)])++[(N+1+1+1,AO.row 4 [[.Xu 1 [],w2,.Xu 2 [],.Xu 1 []]])] by simp];rw [qag (b:=[(N+1+1+1,_)])];simp [this]
 have lc1:look N (O1++[(N+1+1,o2),(N+1+1+1,AO.row 4 [[.Xu 1 [],w2,.Xu 2 [],.Xu 1 []]])])=some (.row 4 [[v1,v2,v3,v4]]):=by rw [qag,lb1];rfl
 have lc2:look (N+1) (O1++[(N+1+1,o2),(N+1+1+1,AO.row 4 [[.Xu 1 [],w2,.Xu 2 [],.Xu 1 []]])])=some (.row 4 [[.Xu 1 [],.Xu 1 [],.Xu 2 [],.Xu 1 []]]):=by rw [qag,lb2];rfl
 have hk12:=hk1.trans hk2 (by omega);generalize O1++[(N+1+1,o2),(N+1+1+1,AO.row 4 [[.Xu 1 [],w2,.Xu 2 [],.Xu 1 []]])]=O2 at hT2 hR2 lb3 m2' lc1 lc2 hk12 ⊢;refine qafb c.rows s.t.rl (fun l hl=>⟨s.u l hl,(s.t.rs l hl).2⟩) v1 w2 A (N+1+1+1) _ _ _ O2 _ hT2 hR2.r lb3 ?_ ?_ ?_ ?_ ?_
 ·simp
 ·simp
 ·simp
 ·simp
 intro e3 O3 N3 w1 V mw1 fw1 hV hk3 hT3 hN3 lb3' g1 g2 g3;simp at g1 g2 g3;have hx:∀j,j=N+1+1+1->look j O1=none\/N+1+1<=j:=fun j hj=> .inr (by omega)
 have ld1:look N O3=some (.row 4 [[v1,v2,v3,v4]]):=hk3.lk hT2 lc1 (by omega);have ld2:look (N+1) O3=some (.row 4 [[.Xu 1 [],.Xu 1 [],.Xu 2 [],.Xu 1 []]]):=hk3.lk hT2 lc2 (by omega);have hk13:Kp (fun _=>False) N O O3:=fun j hj _=>(hk3 j (by omega) (by omega)).trans (hk12 j hj (by simp))
 have hR3:=h.kp hT hk13 (by simp);have m23:Mu O3 1 w2 (c.Xr.map cI):=by
  refine m2'.fr fun j hj=>?_
  obtain ⟨es0,hl⟩:=m2'.own hj;exact hk3 j (hT2.lt hl) (qan hl lb3 (by simp))
 have l3:=h.d.len;simp [c_92_k8,g1,ld1,l3,-lenOf];refine qae9 c.Xq s.t.dl (fun d hd=>(s.t.ds d hd).1) v3 w1 w2 (N+1+1+1) _ _ _ O3 N3 hT3 hR3.d lb3' ?_ ?_ ?_ ?_ ?_
 ·simp [g3]
 ·simp
 ·simp
 ·simp
 intro e4 O4 N4 w3 mw3 fw3 hk4 hT4 hN4 lb4 f1 f2 f3;simp at f1 f2 f3;have le1:look N O4=some (.row 4 [[v1,v2,v3,v4]]):=hk4.lk hT3 ld1 (by omega);have le2:look (N+1) O4=some (.row 4 [[.Xu 1 [],.Xu 1 [],.Xu 2 [],.Xu 1 []]]):=hk4.lk hT3 ld2 (by omega);have m24:Mu O4 1 w2 (c.Xr.map cI):=by
  refine m23.fr fun j hj=>?_
  obtain ⟨es0,hl⟩:=m23.own hj;exact hk4 j (hT3.lt hl) (qan hl lb3' (by simp))
 have m14:Mu O4 1 w1 (V.map fun x=>[x]):=by
  refine mw1.fr fun j hj=>?_
  obtain ⟨es0,hl⟩:=mw1.own hj;exact hk4 j (hT3.lt hl) (qan hl lb3' (by simp))
 have hV4:RowsW O4 (N+1+1+1+1) V c.rows:=hV.fr fun j es0 hl=>hk4 j (hT3.lt hl) (qan hl lb3' (by simp))
 have l4:lenOf v4=some c.Xm.length:=by have:=h.g.len;rw [QAb] at this;exact this
 simp [c_92_k7,f1,g1,le1,l4,-lenOf];refine qafa c.Xm s.t.gl (fun l hl=>(s.t.gs l hl).1) v4 w1 w2 w3 (N+1+1+1) _ _ _ O4 N4 hT4 h.g lb4 ?_ ?_ ?_ ?_ ?_
 ·simp [f3,g3]
 ·simp
 ·simp
 ·simp
 intro e5 O5 N5 w4 mw4 hk5 hT5 hN5 lb5 d1 d2 d3;simp at d1 d2 d3;have lf2:look (N+1) O5=some (.row 4 [[.Xu 1 [],.Xu 1 [],.Xu 2 [],.Xu 1 []]]):=hk5.lk hT4 le2 (by omega);simp [c_92_k6,d2,d3,f2,f3,g2,g3,lb5,lf2,qab];refine ⟨w1,w2,w3,w4,V,_,N5,rfl,?_,?_,?_,qai hT5,by omega⟩
 ·have keep:∀j z es0,z≠4->look j O4=some (.row z es0)->look j (setl (N+1) (.row 4 [[w1,w2,w3,w4]]) O5)=look j O4:=by
   intro j z es0 hz hl;have h5:=hk5 j (hT4.lt hl) (qan hl lb4 (by simp [hz]));have hl5:look j O5=some (.row z es0):=by rw [h5,hl]
   rw [qab,QA (qan hl5 lf2 (by simp [hz])),h5]
  refine ⟨m14.fr fun j hj=>?_,hV4.len,?_,m24.fr fun j hj=>?_,mw3.fr fun j hj=>?_,mw4,?_,hV4.inj,hV4.na⟩
  ·obtain ⟨es0,hl⟩:=m14.own hj;exact keep j 1 es0 (by decide) hl
  ·intro k v l hv hl;refine (hV4.mu k v l hv hl).fr fun j hj=>?_
   obtain ⟨es0,hl⟩:=(hV4.mu k v l hv hl).own hj;exact keep j 5 es0 (by decide) hl
  ·obtain ⟨es0,hl⟩:=m24.own hj;exact keep j 1 es0 (by decide) hl
  ·obtain ⟨es0,hl⟩:=mw3.own hj;exact keep j 2 es0 (by decide) hl
  ·intro i h1 h2;have:=fw1 i h1;obtain ⟨es0,hl⟩:=m2'.own h2;have:=hT2.lt hl;omega
 ·intro j hj;rcases hj with hj | hj | hj | ⟨v,hv,hj⟩
  ·have:=fw1 j hj;omega
  ·have:=fw2 j hj;omega
  ·have:=fw3 j hj;omega
  ·have:=hV4.fresh v hv j hj;omega
 ·intro j hj _;rw [qab,QA (by omega),hk5 j (by omega) (by omega),hk4 j (by omega) (by omega),hk3 j (by omega) (by omega)];exact hk12 j hj (by simp)
def qei:List Rw->Nat->List (AV×AV)
 | [],_=>[]
 | r::l,n=>(.int .i64 r.id,.int .i64 n)::qei l (n+1)
def ents (l:List Rw):List (AV×AV):=qei l 0
theorem qoy (r:Rw):∀(l:List Rw) (n:Nat),qei (l++[r]) n=qei l n++[(.int .i64 r.id,.int .i64 ((n+l.length:Nat):Int))]
 | [],n=>by simp [qei]
 | a::l,n=>by
  have ih:=qoy r l (n+1);simp only [QAh,qei,ih,QAn];rw [show n+1+l.length=n+(l.length+1) by omega]
theorem qrf (l:List Rw) (r:Rw):ents (l++[r])=ents l++[(.int .i64 r.id,.int .i64 (l.length:Nat))]:=by
 unfold ents;rw [qoy,QBw]
theorem qof (x:Int) (v:AV):∀(l:List Rw) (n:Nat),(∀r∈l,r.id≠x)->putA .i (.int .i64 x) v (qei l n)=some (qei l n++[(.int .i64 x,v)])
 | [],n,_=>rfl
 | r::l,n,h=>by
  have ih:=qof x v l (n+1) fun r hr=>h r (by simp [hr])
  have h1:¬x=r.id:=fun e=>h r (by simp) e.symm
  simp only [qei,putA,eqKd,if_true];have:(x == r.id)=false:=by simpa using h1
  rw [this];simp only [ih,QBg,QAh]
theorem qo4 (x:Int):∀(l:List Rw) (n:Nat),qb9 .i (.int .i64 x) (qei l n)=some ((rIdx l x).map fun i=> .int .i64 ((i+n:Nat):Int))
 | [],n=>rfl
 | r::l,n=>by
  have ih:=qo4 x l (n+1);unfold rIdx at ih ⊢;simp only [qei,qb9,eqKd,if_true,List.findIdx?_cons];by_cases h:x=r.id
  ·subst h;simp
  ·have h':(x == r.id)=false:=by simpa using h
   have h'':¬r.id=x:=fun e=>h e.symm
   rw [h'];simp only [ih,h'',decide_false,Option.map_map,QAg,if_false];congr 2;funext i;simp only [Function.comp_apply];rw [show i+(n+1)=i+1+n by omega]
theorem qaau (x:Int) (l:List Rw):qb9 .i (.int .i64 x) (ents l)=some ((rIdx l x).map fun (i:Nat)=> .int .i64 (i:Int)):=qo4 x l 0
def qzv (N:Nat) (O:List (Nat×AO)) (iid k:Nat) (es:List (List AV)) (l:List Rw) (r:Option (Rt×AH)):Prop:=
 ∃O' N',r=some (.val (.tup []),⟨O',N'⟩)/\look iid O'=some (.row 1 (es.set k [.map N]))/\look N O'=some (.map (ents l))/\Kp (fun j=>j=iid) N O O'/\Tail O' N'/\N<N'
theorem qpr {O:List (Nat×AO)} {N sid iid k:Nat} {v1 v2 v3 v4:AV} {R:List AV} {V:List AV} {l:List Rw} {es:List (List AV)} {n:Nat} (hT:Tail O N) (hl:l.length<2^39) (hk:k<n) (hVk:k<V.length)
  (hs:look sid O=some (.row 15 [v1::v2::v3::v4::(R++[.row iid 1 0 n,.bool true])])) (hR:R.length=9) (hi:look iid O=some (.row 1 es)) (hn:n<=es.length) (hes:∃x,es[k]? =some [x])
  (h1:Mu O 1 v1 (V.map fun x=>[x])) (h5:Mu O 5 V[k] (l.map Rw.c)) (hri:vid v1≠some iid) (hinc:l.Pairwise fun a b=>a.id<b.id) (hk39:k<2^40):
  qzv N O iid k es l (qah Φ f_154 [.ptr sid 15 0 0,.int .i64 k] ⟨O,N⟩):=by
 rw [qau (fn:=c_154) rfl rfl];obtain ⟨r0,r1,r2,r3,r4,r5,r6,r7,r8,rfl⟩:∃r0 r1 r2 r3 r4 r5 r6 r7 r8,R=[r0,r1,r2,r3,r4,r5,r6,r7,r8]:=by
  match R,hR with
  | [r0,r1,r2,r3,r4,r5,r6,r7,r8],_=>exact ⟨_,_,_,_,_,_,_,_,_,rfl⟩
 obtain ⟨x,hx⟩:=hes;have t0:=hT N (Qb _);have hsi:=qan hs hi (by simp);have fi:=qb6 hT hi (Qb N);have fs:=qb6 hT hs (Qb N);obtain ⟨rid,es1,e1,hl1,hle1,ht1⟩:=h1.nonempty (by simp;omega);subst e1;have hrid:¬rid=iid:=fun e=>hri (by rw [e];rfl)
 have fr:=qb6 hT hl1 (Qb N);have g1:es1[k]? =some [V[k]]:=qfj hVk ht1;have hkn:k<V.length:=hVk;have hken:k<es.length:=by omega
 have h5l:=h5.len;rw [QAb] at h5l;simp [c_154,hs,hi,t0,qag,hk,hx,qab,hsi,fi,fs,hl1,hrid,g1,hVk,h5l,-lenOf];have hT1:Tail (setl iid (AO.row 1 (es.set k [.map N])) (O++[(N,AO.map [])])) (N+1):=qai (hT.app1 (Qb _));have hk1:Kp (fun j=>j=iid) N O (setl iid (AO.row 1 (es.set k [.map N])) (O++[(N,AO.map [])])):=Kp.setl (Kp.app (fun _ _ _=>rfl) (Qb _)) (.inr rfl);have a1:look iid (setl iid (AO.row 1 (es.set k [.map N])) (O++[(N,AO.map [])]))=some (.row 1 (es.set k [.map N])):=by simp [qab,qag,hi]
 have a2:look N (setl iid (AO.row 1 (es.set k [.map N])) (O++[(N,AO.map [])]))=some (.map []):=by simp [qab,fi,t0]
 generalize setl iid (AO.row 1 (es.set k [.map N])) (O++[(N,AO.map [])])=O1 at hT1 hk1 a1 a2 ⊢;have a3:look sid O1=some (.row 15 [AV.row rid 1 0 V.length::v2::v3::v4::([r0,r1,r2,r3,r4,r5,r6,r7,r8]++[.row iid 1 0 n,.bool true])]):=by
  rw [hk1 sid (hT.lt hs) hsi,hs];simp
 have h51:Mu O1 5 V[k] (l.map Rw.c):=by
  refine h5.fr fun j hj=>?_
  obtain ⟨es0,hl0⟩:=h5.own hj;exact hk1 j (hT.lt hl0) (qan hl0 hi (by simp))
 refine qhv l.length (fun i e h=>∃O' N',h=⟨O',N'⟩/\Kp (fun j=>j=N) (N+1) O1 O'/\Tail O' N'/\N+1<=N'/\look N O'=some (.map (ents (l.take i)))/\look 0 e=some (.ptr sid 15 0 0)/\look 1 e=some (.int .i64 k)/\look 20 e=some V[k]/\look 21 e=some (.int .i64 l.length)/\look 22 e=some (.int .i64 i)) (qzv N O iid k es l) ?_ ?_ 0 _ _ (Qc _) ?_
 ·rintro i e _ L hi' hL ⟨O',N',rfl,hk',hT',hN',b2,e0,e1,e20,e21,e22⟩ ih;have hw1:=qal i (by omega);have u0:=hT' N' (Qb _);have fN:¬N'=N:=by omega
  have b1:look iid O'=some (.row 1 (es.set k [.map N])):=hk'.lk hT1 a1 (by omega);have b3:=hk'.lk hT1 a3 (by omega);have b4:(es.set k [AV.map N])[k]? =some [.map N]:=by rw [List.getElem?_set_self hken]
  have hne:∀r∈l.take i,r.id≠l[i].id:=by
   intro r hr;rw [List.mem_take_iff_getElem] at hr;obtain ⟨m,hm,rfl⟩:=hr;have:=QB.1 hinc m i (by omega) hi' (by omega);omega
  have hp:=qof l[i].id (.int .i64 i) (l.take i) 0 hne;have hml:min i l.length=i:=by omega
  have hsn:ents (l.take (i+1))=ents (l.take i)++[(.int .i64 l[i].id,.int .i64 (i:Nat))]:=by
   rw [Qh hi',qrf,QAp,hml]
  rw [show qei (l.take i) 0=ents (l.take i) from rfl] at hp;have h5':Mu O' 5 V[k] (l.map Rw.c):=by
   refine h51.fr fun j hj=>?_
   obtain ⟨es0,hl0⟩:=h51.own hj;exact hk' j (hT1.lt hl0) (qan hl0 a2 (by simp))
  obtain ⟨r5',es5,ev,hl5,hle5,ht5⟩:=h5'.nonempty (by simp;omega);have g5:=qfj hi' ht5;rw [ev] at e20;have f1:=qb6 hT' b1 (Qb N');have f3:=qb6 hT' b3 (Qb N');simp [c_154_l0,Rw.ce,e0,e1,e20,e21,e22,hi',hl5,g5,u0,b3,b1,hken,hk,b2,hp,hw1];refine ih _ _ ⟨_,_,rfl,Kp.setl hk' (.inr rfl),qai (hT'.mono (by omega)),by omega,?_,?_,?_,?_,?_,?_⟩
  ·simp [qab,b2,hsn]
  all_goals simp [*]
 ·rintro e _ L hL ⟨O',N',rfl,hk',hT',hN',b2,e0,e1,e20,e21,e22⟩;simp [c_154_l0,e21,e22,hL];refine ⟨O',N',rfl,hk'.lk hT1 a1 (by omega),?_,?_,hT',by omega⟩
  ·rw [b2,QAk]
  ·intro j hj hx;rw [hk' j (by omega) (by omega)];exact hk1 j hj hx
 ·refine ⟨O1,N+1,rfl,fun _ _ _=>rfl,hT1,Qb _,a2,?_,?_,?_,?_,?_⟩<;>simp
structure SV where
 s:Nat
 v1:AV
 v2:AV
 v3:AV
 v4:AV
 vi:AV
 V:List AV
 M:List Nat
def SV.cells (S:SV) (p:Prg):List AV:=S.v1::S.v2::S.v3::S.v4::(Prg.c p++[S.vi,.bool true])
structure IdxM (O:List (Nat×AO)) (vi:AV) (M:List Nat) (R:List (List Rw)):Prop where
 i:Mu O 1 vi (M.map fun m=>[.map m])
 len:M.length=R.length
 m:∀(k m:Nat) (l:List Rw),M[k]? =some m->R[k]? =some l->look m O=some (.map (ents l))
 nd:∀(k k' m:Nat),M[k]? =some m->M[k']? =some m->k=k'
structure StoreM (O:List (Nat×AO)) (S:SV) (p:Prg) (c:Xf):Prop where
 s:look S.s O=some (.row 15 [S.cells p])
 cm:CfgM O S.v1 S.v2 S.v3 S.v4 S.V c
 x:IdxM O S.vi S.M c.rows
 ri:∀i,vid S.v1=some i->vid S.vi=some i->False
 ni:∀i,vid S.v2=some i->vid S.vi=some i->False
def SV.own (S:SV) (j:Nat):Prop:=j=S.s\/CfgM.own S.v1 S.v2 S.v3 S.V j\/vid S.vi=some j\/j∈S.M
theorem IdxM.fr {O O':List (Nat×AO)} {vi:AV} {M:List Nat} {R:List (List Rw)} (h:IdxM O vi M R) (hf:∀j,vid vi=some j\/j∈M->look j O'=look j O):IdxM O' vi M R:=
 ⟨h.i.fr fun j hj=>hf j (.inl hj),h.len,fun k m l hm hl=>by rw [hf m (.inr (Qe hm))];exact h.m k m l hm hl,h.nd⟩
theorem StoreM.fr {O O':List (Nat×AO)} {S:SV} {p:Prg} {c:Xf} (h:StoreM O S p c) (hf:∀j,S.own j->look j O'=look j O):StoreM O' S p c:=
 ⟨by rw [hf _ (.inl rfl)];exact h.s,h.cm.fr fun j hj=>hf j (.inr (.inl hj)),h.x.fr fun j hj=>hf j (.inr (.inr hj)),h.ri,h.ni⟩
theorem CfgM.own_lk {O:List (Nat×AO)} {v1 v2 v3 v4:AV} {V:List AV} {c:Xf} (h:CfgM O v1 v2 v3 v4 V c) {j:Nat} (hj:CfgM.own v1 v2 v3 V j):∃z es,look j O=some (.row z es)/\(z=1\/z=2\/z=5):=by
 rcases hj with hj | hj | hj | ⟨v,hv,hj⟩
 ·obtain ⟨es,hl⟩:=h.r.own hj;exact ⟨1,es,hl,.inl rfl⟩
 ·obtain ⟨es,hl⟩:=h.n.own hj;exact ⟨1,es,hl,.inl rfl⟩
 ·obtain ⟨es,hl⟩:=h.d.own hj;exact ⟨2,es,hl,.inr (.inl rfl)⟩
 ·obtain ⟨k,hk,rfl⟩:=Qn.1 hv;have hk2:k<c.rows.length:=by rw [<- h.rl];exact hk
  obtain ⟨es,hl⟩:=(h.rv k _ _ (Qa hk) (Qa hk2)).own hj;exact ⟨5,es,hl,.inr (.inr rfl)⟩
theorem IdxM.own_lk {O:List (Nat×AO)} {vi:AV} {M:List Nat} {R:List (List Rw)} (h:IdxM O vi M R) {j:Nat} (hj:j∈M):∃es,look j O=some (.map es):=by
 obtain ⟨k,hk,rfl⟩:=Qn.1 hj;have hk2:k<R.length:=by rw [<- h.len];exact hk
 exact ⟨_,h.m k _ _ (Qa hk) (Qa hk2)⟩
theorem StoreM.own_lk {O:List (Nat×AO)} {S:SV} {p:Prg} {c:Xf} (h:StoreM O S p c) {j:Nat} (hj:S.own j):∃x,look j O=some x/\x≠ .res:=by
 rcases hj with rfl | hj | hj | hj
 ·exact ⟨_,h.s,by simp⟩
 ·obtain ⟨z,es,hl,_⟩:=h.cm.own_lk hj;exact ⟨_,hl,by simp⟩
 ·obtain ⟨es,hl⟩:=h.x.i.own hj;exact ⟨_,hl,by simp⟩
 ·obtain ⟨es,hl⟩:=h.x.own_lk hj;exact ⟨_,hl,by simp⟩
theorem StoreM.kp {O O':List (Nat×AO)} {N:Nat} {X:Nat->Prop} {S:SV} {p:Prg} {c:Xf} (h:StoreM O S p c) (hT:Tail O N) (hk:Kp X N O O') (hx:∀j,S.own j->¬X j):StoreM O' S p c:=by
 refine h.fr fun j hj=>?_
 obtain ⟨x,hl,_⟩:=h.own_lk hj;exact hk j (hT.lt hl) (hx j hj)
theorem CfgM.re {O:List (Nat×AO)} {v1 v2 v3 v4:AV} {V:List AV} {c:Xf} (h:CfgM O v1 v2 v3 v4 V c):CfgR O v1 v2 v3 v4 V c:=
 ⟨⟨h.r.re,h.rl,fun k x l hx hl=>(h.rv k x l hx hl).re⟩,h.n.re,h.d.re,by rcases h.g with e | ⟨t,e⟩;exact .inr (.inl e);exact .inr (.inr ⟨t,e⟩)⟩
theorem CfgR.imm {O:List (Nat×AO)} (c:Xf):CfgR O (.slice 1 (c.rows.map (cS 5 Rw.c))) (.slice 1 (c.Xr.map cI)) (.slice 2 (c.Xq.map Xb.c)) (.slice 1 (c.Xm.map (cS 1 c32))) (c.rows.map fun l=> .slice 5 (l.map Rw.c)) c:=by
 refine ⟨⟨?_,by simp,?_⟩,.sl _,.sl _,.inl rfl⟩
 ·have:(c.rows.map fun l=>AV.slice 5 (l.map Rw.c)).map (fun x=>[x])=c.rows.map (cS 5 Rw.c):=by
   rw [List.map_map];rfl
  rw [this];exact .sl _
 ·intro k x l hx hl;rw [List.getElem?_map,hl] at hx;cases hx;exact .sl _
def Rs (O:List (Nat×AO)) (j:Nat):Prop:=look j O=some .res
def qzs (N:Nat) (O:List (Nat×AO)) (p:Prg) (c:Xf) (r:Option (Rt×AH)):Prop:=
 ∃S O' N',r=some (.val (.ptr S.s 15 0 0),⟨O',N'⟩)/\StoreM O' S p c/\(∀j,S.own j->N<=j)/\Kp (Rs O) N O O'/\Tail O' N'/\N<=N'
theorem qwy (p:Prg) (op:p.Ok qaz) (c:Xf) (u:CfgU c) (hinc:∀l∈c.rows,l.Pairwise fun a b=>a.id<b.id) {v1 v2 v3 v4:AV} {A:List AV} {O:List (Nat×AO)} {N:Nat} (hT:Tail O N) (h:CfgR O v1 v2 v3 v4 A c):
  qzs N O p c (qah Φ f_88 [.agg (Prg.c p),.agg [v1,v2,v3,v4]] ⟨O,N⟩):=by
 rw [qau (fn:=c_88) rfl rfl];have hcl:=qrt p op;simp only [Prg.e] at hcl;have t0:=hT N (Qb _);have t13:=hT (N+1+12) (by omega);have n13:¬N=N+1+12:=by omega
 simp [c_88,Prg.e,t0,qag];have hT1:Tail (O++[(N,AO.row 4 [[v1,v2,v3,v4]]),(N+1+12,AO.res)]) (N+1+12+1):=by
  rw [Tail_append_iff,qa1,qa1];exact ⟨hT.mono (by omega),by omega,by omega,Tail.nil _⟩
 have hk1:Kp (fun _=>False) N O (O++[(N,AO.row 4 [[v1,v2,v3,v4]]),(N+1+12,AO.res)]):=Kp.appL (fun _ _ _=>rfl) (by simp;omega);have hres:look (N+1+12) (O++[(N,AO.row 4 [[v1,v2,v3,v4]]),(N+1+12,AO.res)])=some .res:=by simp [t13,n13]
 obtain ⟨w1,w2,w3,w4,V,O2,N2,e2,m2,f2,hk2,hT2,hN2⟩:=qj5 c u hT1 (h.kp hT hk1 (by simp));have hres2:look (N+1+12) O2=some .res:=hk2.lk hT1 hres (by simp);rw [e2];have hs1:∀cs,look (N+1+12) (qao (setl (N+1+12) (.row 15 cs) O2))=some (.row 15 cs):=fun cs=>by
  rw [qaw (by simp [qab,hres2])];simp [qab,hres2]
 have hs2:∀cs,Tail (qao (setl (N+1+12) (.row 15 cs) O2)) N2:=fun cs=>qdn (qai hT2)
 have hs3:∀cs,look N2 (qao (setl (N+1+12) (.row 15 cs) O2))=none:=fun cs=>hs2 cs _ (Qb _)
 have hs4:∀cs z es j,z≠15->look j O2=some (.row z es)->look j (qao (setl (N+1+12) (.row 15 cs) O2))=some (.row z es):=fun cs z es j hz hl=>by
  have hne:j≠N+1+12:=qan hl hres2 (by simp);rw [qaw (by simp [qab,hne,hl])];simp [qab,hne,hl]
 have hs5:∀cs,Kp (Rs O) N O (qao (setl (N+1+12) (.row 15 cs) O2)):=fun cs j hj hx=>by
  have hne:j≠N+1+12:=by omega
  have h2:look j O2=look j O:=(hk2 j (by omega) (by simp)).trans (hk1 j hj (by simp));rw [qaw (by rw [qab,QA hne,h2];exact hx),qab,QA hne,h2]
 have n2:¬N2=N+1+12:=by omega
 have l1:=m2.r.len;rw [QAb,m2.rl] at l1;have hrl:=u.t.rl;have b1:(c.rows.length:Int)*8<=140737488355328:=by omega
 have b2:c.rows.length<4611686018427387904:=by omega
 have w1c:=m2.r.cells;simp [hcl,hres2,hs1,hs3,qag,qab,l1,n2,b1,b2,-lenOf,-AV.cells];generalize hO3:setl (N+1+12) _ (_++[(N2,AO.row 1 (List.replicate c.rows.length [AV.nilmap]))])=O3;have hT3:Tail O3 (N2+1):=by rw [<- hO3];exact qai ((hs2 _).app1 (Qb _))
 have hk3:Kp (Rs O) N O O3:=by rw [<- hO3];exact Kp.setl (Kp.app (hs5 _) (by omega)) (.inl (by omega))
 have ls:look (N+1+12) O3=some (.row 15 [w1::w2::w3::w4::(Prg.c p++[.row N2 1 0 c.rows.length,.bool true])]):=by
  rw [<- hO3,qab,QAa rfl,qag,hs1,Prg.e];rfl
 have li:look N2 O3=some (.row 1 (List.replicate c.rows.length [AV.nilmap])):=by
  rw [<- hO3,qab,QA n2,qag,hs3];simp
 have lo:∀z es j,z≠15->look j O2=some (.row z es)->look j O3=look j O2:=fun z es j hz hl=>by
  have hne:j≠N+1+12:=qan hl hres2 (by simp);rw [<- hO3,qab,QA hne,qag,hs4 _ z es j hz hl,hl];rfl
 have m3:CfgM O3 w1 w2 w3 w4 V c:=m2.fr fun j hj=>by
  obtain ⟨z,es,hl,hz⟩:=m2.own_lk hj;exact lo z es j (by omega) hl
 clear hO3;have fo:∀j,CfgM.own w1 w2 w3 V j->j≠N2:=fun j hj=>by
  obtain ⟨z,es,hl,hz⟩:=m2.own_lk hj;have:=hT2.lt hl;omega
 refine qhv c.rows.length (fun i e h=>∃(O':List (Nat×AO)) (N':Nat) (M:List Nat),h=⟨O',N'⟩/\Kp (fun j=>j=N2) (N2+1) O3 O'/\Tail O' N'/\N2+1<=N'/\look N2 O'=some (.row 1 (M.map (fun m=>[AV.map m])++List.replicate (c.rows.length - i) [AV.nilmap]))/\M.length=i/\
   (∀(k m:Nat) (l:List Rw),M[k]? =some m->c.rows[k]? =some l->look m O'=some (.map (ents l)))/\(∀m∈M,N2+1<=m)/\(∀(k k' m:Nat),M[k]? =some m->M[k']? =some m->k=k')/\
   look 5 e=some (.ptr (N+1+12) 15 0 0)/\look 28 e=some (.int .i64 c.rows.length)/\look 29 e=some (.int .i64 i)) (qzs N O p c) ?_ ?_ 0 _ _ (Qc _) ?_
 ·rintro i e _ L hi hL ⟨O',N',M,rfl,hk',hT',hN',ln,hMl,hMe,hMf,hMn,e5,e28,e29⟩ ih;have hw:=qal i (by omega);have hVi:i<V.length:=by rw [m2.rl];exact hi
  have ls':=hk'.lk hT3 ls (by omega);have m3':CfgM O' w1 w2 w3 w4 V c:=m3.fr fun j hj=>by
   obtain ⟨z,es,hl,hz⟩:=m3.own_lk hj;exact hk' j (hT3.lt hl) (fo j hj)
  have hes:(M.map (fun m=>[AV.map m])++List.replicate (c.rows.length - i) [AV.nilmap]).length=c.rows.length:=by simp [hMl];omega
  have hr:=qpr (k:=i) (n:=c.rows.length) (V:=V) (l:=c.rows[i]) (R:=Prg.c p) hT' (u.u _ (Qd hi)) hi hVi ls' (by simp) ln (Nat.le_of_eq hes.symm) ?_ m3'.r (m3'.rv i _ _ (Qa hVi) (Qa hi)) ?_ (hinc _ (Qd hi)) (by omega)
  rotate_left
  ·refine ⟨.nilmap,?_⟩;rw [Qp (by simp;omega),List.getElem?_replicate,QAa (by simp [hMl];omega)]
  ·intro hc;exact fo N2 (.inl hc) rfl
  obtain ⟨O4,N4,e4,r1,r2,hk4,hT4,hN4⟩:=hr;simp [c_88_l0,e5,e28,e29,hi,e4,hw];refine ih _ _ ⟨O4,N4,M++[N'],rfl,?_,hT4,by omega,?_,by simp [hMl],?_,?_,?_,?_,?_,?_⟩
  ·intro j hj hx;rw [hk4 j (by omega) hx,hk' j hj hx]
  ·rw [r1];congr 1;have hd:c.rows.length - i=(c.rows.length - (i+1))+1:=by omega
   rw [hd,QCl,List.set_append_right _ _ (by simp [hMl])];simp [hMl]
  ·intro k m l hm hl;by_cases hk:k<M.length
   ·rw [Ql hk] at hm;have h0:=hMe k m l hm hl;exact hk4.lk hT' h0 (by have:=hMf m (Qe hm);omega)
   ·have hb:=(Qm.1 hm).1;simp at hb;have hk:k=M.length:=by omega
    subst hk;rw [Qp (by omega)] at hm;simp at hm;subst hm;rw [hMl,Qa hi] at hl;cases hl;exact r2
  ·intro m hm;rcases QAf.1 hm with hm | hm
   ·exact hMf m hm
   ·simp at hm;omega
  ·intro k k' m hm hm';have hb:=(Qm.1 hm).1;have hb':=(Qm.1 hm').1;simp at hb hb';have hlt:∀m,m∈M->m<N':=fun m hm=>by
    obtain ⟨q,hq,rfl⟩:=Qn.1 hm;exact hT'.lt (hMe q _ _ (Qa hq) (Qa (by omega)))
   by_cases hk:k<M.length
   ·by_cases hk':k'<M.length
    ·rw [Ql hk] at hm;rw [Ql hk'] at hm';exact hMn k k' m hm hm'
    ·rw [Ql hk] at hm;rw [Qp (by omega),show k' - M.length=0 by omega] at hm';simp at hm';have:=hlt m (Qe hm);omega
   ·by_cases hk':k'<M.length
    ·rw [Ql hk'] at hm';rw [Qp (by omega),show k - M.length=0 by omega] at hm;simp at hm;have:=hlt m (Qe hm');omega
    ·omega
  ·simp [e5]
  ·simp [e28]
  ·simp
 ·rintro e _ L hL ⟨O',N',M,rfl,hk',hT',hN',ln,hMl,hMe,hMf,hMn,e5,e28,e29⟩;simp [c_88_l0,c_88_k1,e5,e28,e29,hL];have ls':=hk'.lk hT3 ls (by omega);have m3':CfgM O' w1 w2 w3 w4 V c:=m3.fr fun j hj=>by
   obtain ⟨z,es,hl,hz⟩:=m3.own_lk hj;exact hk' j (hT3.lt hl) (fo j hj)
  refine ⟨⟨N+1+12,w1,w2,w3,w4,.row N2 1 0 c.rows.length,V,M⟩,O',N',rfl,⟨ls',m3',⟨?_,hMl,hMe,hMn⟩,?_,?_⟩,?_,?_,hT',by omega⟩
  ·rw [Nat.sub_self,List.replicate_zero,List.append_nil] at ln;exact .row N2 _ _ _ (by simp [hMl]) ln (Qb _) (by rw [QAk])
  ·intro j h1 h2;cases h2;exact fo _ (.inl h1) rfl
  ·intro j h1 h2;cases h2;exact fo _ (.inr (.inl h1)) rfl
  ·intro j hj;rcases hj with rfl | hj | hj | hj
   ·simp only;omega
   ·have:=f2 j hj;omega
   ·cases hj;omega
   ·have:=hMf j hj;omega
  ·intro j hj hx;rw [hk' j (by omega) (by omega)];exact hk3 j hj hx
 ·exact ⟨O3,N2+1,[],rfl,fun _ _ _=>rfl,hT3,Qb _,by simpa using li,rfl,by simp,by simp,by simp,by simp,by simp,by simp⟩
theorem qho {O:List (Nat×AO)} {n p:Nat} {o:AO} (h:Tail O n) (hp:p<n):Tail (O++[(p,o)]) n:=by
 rw [Tail_append_iff,qa1];exact ⟨h,hp,Tail.nil _⟩
theorem qpg {n:Nat} {H:AH} {β:Type} (x:List AV) (h:mapO (snap n H) x=some x) (l:List β):mapO (mapO (snap n H)) (l.map fun _=>x)=some (l.map fun _=>x):=qfl (g:=fun _=>x) (fun _=>h) l
theorem qacy (p:Prg) (f:PrgS p) (hd:∀t∈p.Xn,t.dflt.args.length<2^40):qad Φ f_38 [.agg (Prg.c p)]=some (.val (.agg (Xf.c (qbl p)))):=by
 rw [qaa (fn:=c_38) rfl rfl,qacx];have ht:=f.t;have h:=qakb p f;simp only [Prg.e] at h;generalize (newR p).map (cS 1 c32)=W at h ⊢;generalize hQ:(fun r:Option Rt=>r=some (Rt.val (.agg [.slice 1 (p.Xn.map fun _=>[.slice 5 []]),.slice 1 (p.Xn.map fun _=>[.int .i64 1]),.slice 2 (p.Xn.map fun t=>[.int .i64 t.dflt.action,.slice 1 (t.dflt.args.map c32)]),.slice 1 W])))=Q;have hq:∀r,Q r=(r=some (Rt.val (.agg [.slice 1 (p.Xn.map fun _=>[.slice 5 []]),.slice 1 (p.Xn.map fun _=>[.int .i64 1]),.slice 2 (p.Xn.map fun t=>[.int .i64 t.dflt.action,.slice 1 (t.dflt.args.map c32)]),.slice 1 W]))):=fun r=>by rw [<- hQ]
 rw [<- hq];clear hQ;simp [c_38,Prg.e,h];refine qhv p.Xn.length (fun i e h=>∃(O':List (Nat×AO)) (N':Nat) (w1 w2 w3:AV),h=⟨O',N'⟩/\Tail O' N'/\look 0 O'=some (.row 4 [[.Xu 1 [],.Xu 1 [],.Xu 2 [],.Xu 1 []]])/\look 1 O'=some (.row 4 [[w1,w2,w3,.slice 1 W]])/\
   ((i=0/\w1= .Xu 1 []/\w2= .Xu 1 []/\w3= .Xu 2 [])\/∃a b t,w1= .row a 1 0 i/\look a O'=some (.row 1 ((p.Xn.map fun _=>[AV.slice 5 []]).take i))/\w2= .row b 1 0 i/\look b O'=some (.row 1 ((p.Xn.map fun _=>[AV.int .i64 1]).take i))/\a≠b/\
    w3= .app 2 ((p.Xn.map fun t=>[AV.int .i64 t.dflt.action,.slice 1 (t.dflt.args.map c32)]).take i) t/\look t O'=some (.tok 2 i))/\
   look 2 e=some (.ptr 0 4 0 0)/\look 3 e=some (.ptr 1 4 0 0)/\look 10 e=some (.slice 6 (p.Xn.map Tbl.c))/\look 11 e=some (.int .i64 p.Xn.length)/\look 12 e=some (.int .i64 i)) Q ?_ ?_ 0 _ _ (Qc _) ?_
 ·rintro i e _ L hi hL ⟨O',N',w1,w2,w3,rfl,hT',l0,l1,hw,e2,e3,e10,e11,e12⟩ ih;have hw1:=qal i (by omega);have hc:=qix p.Xn[i].dflt (hd _ (Qd hi));simp only [Xb.ce] at hc;have t0:=hT' N' (Qb _);have t1:=hT' (N'+1) (by omega);have t2:=hT' (N'+2) (by omega);have t3:=hT' (N'+3) (by omega);have hTm:Tail O' (N'+1+1+1+1):=hT'.mono (by omega);have nz:¬N'=0:=by have:=hT'.lt l1;omega
  have f0:=qb6 hT' l0 (Qb N');have f1:=qb6 hT' l1 (Qb N');have g1:¬1=N'+1/\¬N'+1=1:=by omega
  have g2:¬1=N'+2/\¬N'+2=1:=by omega
  have g3:¬1=N'+3/\¬N'+3=1:=by omega
  have g4:¬0=N'+1/\¬0=N'+2/\¬0=N'+3:=by omega
  have s1:∀{β:Type} (g:Tbl->β),(p.Xn.map g).take (i+1)=(p.Xn.map g).take i++[g p.Xn[i]]:=fun g=>qa5 hi
  rcases hw with ⟨rfl,rfl,rfl,rfl⟩ | ⟨a,b,t,rfl,la,rfl,lb,hab,rfl,lt⟩
  ·have s2:∀{β:Type} (g:Tbl->β),(p.Xn.map g).take 1=[g p.Xn[0]]:=fun g=>by simpa using s1 g
   simp [c_38_l0,Tbl.e,e3,e10,e11,e12,hi,hc,t0,t1,t2,t3,wr1,qag,qab,l1];refine ih _ _ ⟨_,_,.row (N'+1) 1 0 1,.row (N'+1+1) 1 0 1,.app 2 _ (N'+1+1+1),rfl,?_,?_,?_,.inr ⟨N'+1,N'+1+1,N'+1+1+1,rfl,?_,rfl,?_,by omega,by rw [s1],?_⟩,?_,?_,?_,?_,?_⟩
   ·repeat' first | exact hTm | apply qai | apply qdz | apply qho | omega
   ·simp [qag,qab,l0,nz]
   ·simp [qag,qab,l1]
   ·simp [qag,qab,t1,s2,nz]
   ·simp [qag,qab,t2,s2]
   ·simp [qag,qab,t3]
   all_goals simp [e2,e3,e10,e11]
  ·have i0:0≠a:=qan l0 la (by simp);have i1:1≠a:=qan l1 la (by simp);have i2:0≠b:=qan l0 lb (by simp);have i3:1≠b:=qan l1 lb (by simp);have i4:t≠a:=qan lt la (by simp);have i5:t≠b:=qan lt lb (by simp);have i6:0≠t:=qan l0 lt (by simp);have i7:1≠t:=qan l1 lt (by simp);have fa:=qb6 hT' la (Qb N');have fa1:=qb6 (n:=N'+1) hT' la (by omega);have fb:=qb6 hT' lb (Qb N');have fb1:=qb6 (n:=N'+1) hT' lb (by omega);have fb2:=qb6 (n:=N'+1+1) hT' lb (by omega);have fc1:=qb6 (n:=N'+1) hT' lt (by omega);have fc2:=qb6 (n:=N'+1+1) hT' lt (by omega);have hm:min i p.Xn.length=i:=by omega
   have j0:=i0.symm;have j1:=i1.symm;have j2:=i2.symm;have j3:=i3.symm;have j4:=i4.symm;have j5:=i5.symm;have j6:=i6.symm;have j7:=i7.symm;have hba:b≠a:=fun e=>hab e.symm
   have c1:(i+1)*24<=70368744177664:=by omega
   have c2:(i+1)*8<=70368744177664:=by omega
   have c3:(i+1)*32<=70368744177664:=by omega
   simp [c_38_l0,Tbl.e,e3,e10,e11,e12,hi,hc,t0,t1,t2,hw1,qag,qab,qb5,qcy,l1,la,lb,lt,i1,i3,i4,i5,i7,j3,j7,nz,fa1,fb1,fb2,fc1,fc2,hba,hm,c1,c2,c3];refine ih _ _ ⟨_,_,.row (N'+1) 1 0 (i+1),.row (N'+1+1) 1 0 (i+1),.app 2 _ t,rfl,?_,?_,?_,.inr ⟨N'+1,N'+1+1,t,rfl,?_,rfl,?_,by omega,by rw [s1],?_⟩,?_,?_,?_,?_,?_⟩
   ·have hTn:Tail O' (N'+1+1+1):=hT'.mono (by omega)
    repeat' first | exact hTm | exact hTn | apply qai | apply qdz | apply qho | omega
   ·simp [qag,qab,qb5,l0,nz,i0,i2,i6]
   ·simp [qag,qab,qb5,l1,i1,i3,i7]
   ·simp [qag,qab,qb5,qcy,t1,s1,nz,fb1,fc1]
   ·simp [qag,qab,qb5,qcy,t2,s1,nz,fb2,fc2]
   ·simp [qag,qab,qb5,lt,i4,i5,j7]
   all_goals simp [e2,e3,e10,e11]
 ·rintro e _ L hL ⟨O',N',w1,w2,w3,rfl,hT',l0,l1,hw,e2,e3,e10,e11,e12⟩;simp [c_38_l0,c_38_k1,e2,e3,e11,e12,hL,l1,l0,qab];rw [hq];rcases hw with ⟨hz,rfl,rfl,rfl⟩ | ⟨a,b,t,rfl,la,rfl,lb,hab,rfl,lt⟩
  ·have:p.Xn=[]:=Qg hz;simp [this]
  ·rw [Qo (by simp)] at la lb;have i0:¬a=0:=fun e=>qan l0 la (by simp) e.symm
   have i2:¬b=0:=fun e=>qan l0 lb (by simp) e.symm
   have r1:=fun H=>qpg (n:=38) (H:=H) [AV.slice 5 []] (by simp) p.Xn
   have r2:=fun H=>qpg (n:=38) (H:=H) [AV.int .i64 1] (by simp) p.Xn
   have ht1:∀{β:Type} (g:Tbl->β),(p.Xn.map g).take p.Xn.length=p.Xn.map g:=fun g=>Qo (by simp)
   simp [la,lb,qab,i0,i2,ht1,r1,r2]
 ·refine ⟨_,_,.Xu 1 [],.Xu 1 [],.Xu 2 [],rfl,?_,?_,?_,.inl ⟨rfl,rfl,rfl,rfl⟩,?_,?_,?_,?_,?_⟩
  all_goals simp [qa1,qcg]
theorem qab4 {p:Prg} {t:Int} {tb:Tbl} (h:(tblE p t).2=0) (ht:at? p.Xn t=some tb):tb.size<=256:=by
 unfold tblE at h;rw [ht] at h;simp only at h;split at h
 ·cases h
 split at h
 ·cases h
 split at h
 ·cases h
 ·omega
theorem qtv {p:Prg} {t:Int} {x:Entry} (h:entE p t x=0):(tblE p t).2=0:=by
 unfold entE at h;refine Decidable.byContradiction fun hc=>?_
 rw [QAa hc] at h;exact hc h
theorem CfgV.small {p:Prg} {c:Xf} (v:CfgV p c):∀l∈c.rows,l.length<=256:=by
 intro l hl;obtain ⟨k,hk,rfl⟩:=Qn.1 hl;have hkt:k<p.Xn.length:=by rw [<- v.rl];exact hk
 have hv:=v.at hkt;by_cases h0:c.rows[k].length=0
 ·omega
 have he:=hv.ent _ (Qd (show 0<c.rows[k].length by omega));have hs:=qab4 (qtv he) (by rw [qfo];exact Qa hkt);have:=hv.size;omega
theorem CfgV.u {p:Prg} {c:Xf} (v:CfgV p c) (s:CfgT c):CfgU c:=⟨s,fun l hl=>by have:=v.small l hl;omega⟩
theorem CfgV.incs {p:Prg} {c:Xf} (v:CfgV p c):∀l∈c.rows,l.Pairwise fun a b=>a.id<b.id:=by
 intro l hl;obtain ⟨k,hk,rfl⟩:=Qn.1 hl;have hkt:k<p.Xn.length:=by rw [<- v.rl];exact hk
 exact (v.at hkt).inc
def qacf (N:Nat) (O:List (Nat×AO)) (p:Prg) (c:Xf) (r:Option (Rt×AH)):Prop:=
 (cfgE p c≠0/\r=some (.val (.tup [.nilptr,.int .i64 (cfgE p c)]),⟨O,N⟩))\/
 (cfgE p c=0/\∃S O' N',r=some (.val (.tup [.ptr S.s 15 0 0,.int .i64 0]),⟨O',N'⟩)/\StoreM O' S p c/\(∀j,S.own j->N<=j)/\Kp (Rs O) N O O'/\Tail O' N'/\N<=N')
theorem qwk (p:Prg) (op:p.Ok qaz) (hc:(pre p.control).length<2^40 - 1) (c:Xf) (s:CfgT c) {O:List (Nat×AO)} {N:Nat} (hT:Tail O N):
  qacf N O p c (qah Φ f_41 [.agg (Prg.c p),.agg (Xf.c c)] ⟨O,N⟩):=by
 rw [qau (fn:=c_41) rfl rfl];have f:=qfh op;have hk:=qafd p f hc c s;simp only [Prg.e,Xf.ce] at hk;by_cases z:cfgE p c=0
 ·have v:=(qf7 p c).1 z;obtain ⟨S,O',N',e,h1,h2,h3,h4,h5⟩:=qwy p op c (v.u s) v.incs hT (CfgR.imm (O:=O) c);rw [z] at hk;simp only [Prg.e] at e;simp [c_41,Prg.e,Xf.ce,hk,e];exact .inr ⟨z,S,O',N',rfl,h1,h2,h3,h4,h5⟩
 ·simp [c_41,Prg.e,Xf.ce,hk,z];exact .inl ⟨z,rfl⟩
theorem qaai {p:Prg} (op:p.Ok qaz):CfgT (qbl p):=by
 have f:=qfh op;have e:=qd6;have ht:=f.t;have hr:=f.r;obtain ⟨_,_,_,_,_,o5,_⟩:=op;refine ⟨by simpa [qbl] using ht,?_,by simpa [qbl] using ht,by simpa [qbl] using ht,?_,by simpa [qbl,newR] using hr,?_⟩
 ·intro l hl;simp [qbl] at hl;obtain ⟨_,_,rfl⟩:=hl;simp
 ·intro d hd;simp [qbl] at hd;obtain ⟨t,ht,rfl⟩:=hd;have:=o5.2 t ht;simp only [Tbl.Ok,Xb.Ok] at this;exact ⟨by have:=this.2.2.2.1.2.1;omega,fun v hv=>this.2.2.2.1.2.2 v hv⟩
 ·intro l hl;simp [qbl,newR] at hl;obtain ⟨r,_,rfl⟩:=hl;have:=qahy r;refine ⟨by simp;omega,?_⟩;intro v hv;have:=QC hv;subst this;exact ⟨by omega,by omega⟩
theorem qq7 {p:Prg} {c:Xf} (u:CfgU c) {S:SV} {O:List (Nat×AO)} {N:Nat} (hT:Tail O N) (m:StoreM O S p c):qzo N O c (qah Φ f_43 [.ptr S.s 15 0 0] ⟨O,N⟩):=by
 rw [qau (fn:=c_43) rfl rfl];have t0:=hT N (Qb _);have hs:=m.s;simp only [SV.cells,Prg.e,QAh,QAj] at hs;have fs:=qb6 hT hs (Qb N);have hk1:Kp (fun _=>False) N O (O++[(N,AO.row 4 [[.Xu 1 [],.Xu 1 [],.Xu 2 [],.Xu 1 []]])]):=Kp.app (fun _ _ _=>rfl) (Qb _);have hT1:=hT.app1 (o:=AO.row 4 [[.Xu 1 [],.Xu 1 [],.Xu 2 [],.Xu 1 []]]) (Qb N);obtain ⟨w1,w2,w3,w4,V,O',N',e,h1,h2,h3,h4,h5⟩:=qj5 c u hT1 (m.cm.re.kp hT hk1 (by simp));have ln:look N O'=some (.row 4 [[.Xu 1 [],.Xu 1 [],.Xu 2 [],.Xu 1 []]]):=h3.lk hT1 (by rw [qag,t0];simp) (by simp);simp [c_43,t0,qag,hs,e,ln,qab];refine ⟨w1,w2,w3,w4,V,_,N',rfl,?_,fun j hj=>by have:=h2 j hj;omega,?_,qai h4,by omega⟩
 ·refine h1.fr fun j hj=>?_
  have:=h2 j hj;rw [qab,QA (by omega)]
 ·intro j hj hx;rw [qab,QA (by omega),h3 j (by omega) hx,qag,show look j [(N,AO.row 4 [[.Xu 1 [],.Xu 1 [],.Xu 2 [],.Xu 1 []]])]=none by simp [look];omega];simp
theorem CfgT.s {c:Xf} (t:CfgT c):CfgS c:=
 ⟨t.rl,fun l hl=>⟨(t.rs l hl).1,fun r hr=>⟨((t.rs l hl).2 r hr).kl,((t.rs l hl).2 r hr).al⟩⟩,t.nl,t.dl,fun d hd=>(t.ds d hd).1,t.gl,fun l hl=>(t.gs l hl).1⟩
section
variable {O:List (Nat×AO)} {N:Nat} {S:SV} {p:Prg} {c:Xf}
theorem StoreM.se (m:StoreM O S p c):look S.s O=some (.row 15 [[S.v1,S.v2,S.v3,S.v4,.str p.name,.slice 2 (p.Xp.map Xj.c),.slice 2 (p.Xo.map Fld.c),.slice 3 (p.Xm.map Xh.c),.slice 3 (p.actions.map Action.c),.slice 6 (p.Xn.map Tbl.c),.slice 7 (p.states.map Xd.c),.slice 5 (p.control.map Xa.c),.slice 1 (p.Xs.map cI),S.vi,.bool true]]):=by
 have hs:=m.s;simp only [SV.cells,Prg.e,QAh,QAj] at hs;exact hs
theorem StoreM.l1 (m:StoreM O S p c):lenOf S.v1=some c.rows.length:=by
 have:=m.cm.r.len;rw [QAb,m.cm.rl] at this;exact this
theorem qol (m:StoreM O S p c) (hl:c.rows.length=p.Xn.length) (t:Int):qah Φ f_158 [.ptr S.s 15 0 0,.int .i64 t] ⟨O,N⟩=some (.val (.bool (inT p t)),⟨O,N⟩):=by
 rw [qau (fn:=c_158) rfl rfl];have hs:=m.se;have l1:=m.l1;by_cases z:0<=t
 ·simp [c_158,hs,l1,z,inT,hl,-lenOf]
 ·simp [c_158,z,inT,-lenOf]
def rowI (p:Prg) (c:Xf) (t id:Int):Int:=if inT p t then ((rIdx (qcm c t) id).map fun (j:Nat)=>(j:Int)).getD 0 else 0
def rowX (p:Prg) (c:Xf) (t id:Int):Int:=if inT p t=false then 8 else if rIdx (qcm c t) id=none then 8 else 0
theorem StoreM.idx (m:StoreM O S p c) {k:Nat} (hk:k<c.rows.length):∃id es0,S.vi= .row id 1 0 c.rows.length/\look id O=some (.row 1 es0)/\c.rows.length<=es0.length/\∃hM:k<S.M.length,es0[k]? =some [.map (S.M[k])]/\look (S.M[k]) O=some (.map (ents c.rows[k])):=by
 have hl:=m.x.len;obtain ⟨id,es0,e,hl1,hle,ht⟩:=m.x.i.nonempty (by simp;omega);rw [QAb,hl] at e hle;have hM:k<S.M.length:=by omega
 refine ⟨id,es0,e,hl1,hle,hM,qfj hM ht,m.x.m k _ _ (Qa hM) (Qa hk)⟩
theorem StoreM.tab (m:StoreM O S p c) {k:Nat} (hk:k<c.rows.length):∃id es0,S.v1= .row id 1 0 c.rows.length/\look id O=some (.row 1 es0)/\c.rows.length<=es0.length/\(∃hV:k<S.V.length,es0[k]? =some [S.V[k]]/\Mu O 5 S.V[k] (c.rows[k].map Rw.c))/\es0.take c.rows.length=S.V.map fun x=>[x]:=by
 have hl:=m.cm.rl;obtain ⟨id,es0,e,hl1,hle,ht⟩:=m.cm.r.nonempty (by simp;omega);have ht':=ht;rw [QAb,hl] at e hle ht';have hV:k<S.V.length:=by omega
 refine ⟨id,es0,e,hl1,hle,⟨hV,qfj hV ht,m.cm.rv k _ _ (Qa hV) (Qa hk)⟩,ht'⟩
theorem qu1 (m:StoreM O S p c) (hl:c.rows.length=p.Xn.length) (t id:Int):qah Φ f_155 [.ptr S.s 15 0 0,.int .i64 t,.int .i64 id] ⟨O,N⟩=some (.val (.tup [.int .i64 (rowI p c t id),.int .i64 (rowX p c t id)]),⟨O,N⟩):=by
 rw [qau (fn:=c_155) rfl rfl];have hs:=m.se;have ht:=qol (N:=N) m hl t;cases z:inT p t with
 | false=>
  rw [z] at ht;simp [c_155,hs,ht,rowI,rowX,z]
 | true=>
  rw [z] at ht;obtain ⟨k,rfl,hk⟩:=qep z;have hk':k<c.rows.length:=by omega
  obtain ⟨iid,es0,e,hi,hle,hM,g1,g2⟩:=m.idx hk';rw [e] at hs;have hf:=qaau id c.rows[k];have hke:k<es0.length:=by omega
  have hrow:qcm c (k:Int)=c.rows[k]:=qdy hk';cases hx:rIdx c.rows[k] id with
  | none=>
   rw [hx] at hf;simp [c_155,hs,ht,hi,hk',g1,g2,hf,rowI,rowX,z,hrow,hx]
  | some i=>
   rw [hx] at hf;simp [c_155,hs,ht,hi,hk',g1,g2,hf,rowI,rowX,z,hrow,hx]
end
def MDpost (N:Nat) (O:List (Nat×AO)) (S:SV) (p:Prg) (c':Xf) (v:AV) (r:Option (Rt×AH)):Prop:=
 ∃S' O' N',r=some (.val v,⟨O',N'⟩)/\StoreM O' S' p c'/\S'.s=S.s/\(∀j,S'.own j->S.own j\/N<=j)/\Kp (fun j=>S.own j\/Rs O j) N O O'/\Tail O' N'/\N<=N'
theorem Mu.upd {O':List (Nat×AO)} {id z k:Nat} {es es0:List (List AV)} {y:List AV} (hl:look id O'=some (.row z (es0.set k y))) (hle:es.length<=es0.length) (ht:es0.take es.length=es):Mu O' z (.row id z 0 es.length) (es.set k y):=
 .row id _ _ _ (by simp) hl (by simpa using hle) (by rw [List.length_set,List.take_set,ht])
theorem qr8 {O:List (Nat×AO)} {N:Nat} {S:SV} {p:Prg} {c:Xf} (m:StoreM O S p c) (f:PrgS p) (hl:c.rows.length=p.Xn.length) (hd:c.Xq.length=p.Xn.length) (hT:Tail O N) (t:Int) (x:Xb) (hx:x.args.length<2^40):
  MDpost N O S p (if defE p t x=0 then defC c t x else c) (.int .i64 (defE p t x)) (qah Φ f_95 [.ptr S.s 15 0 0,.int .i64 t,.agg (Xb.c x)] ⟨O,N⟩):=by
 rw [qau (fn:=c_95) rfl rfl];have t0:=hT N (Qb _);have hk1:Kp (fun j=>S.own j\/Rs O j) N O (O++[(N,AO.row 2 [Xb.c x])]):=Kp.app (fun _ _ _=>rfl) (Qb _);have hT1:=hT.app1 (o:=AO.row 2 [Xb.c x]) (Qb N);have m1:StoreM (O++[(N,AO.row 2 [Xb.c x])]) S p c:=m.kp (X:=fun _=>False) hT (Kp.app (fun _ _ _=>rfl) (Qb _)) (by simp);have b1:look N (O++[(N,AO.row 2 [Xb.c x])])=some (.row 2 [Xb.c x]):=by rw [qag,t0];simp
 have same:MDpost N O S p c (.int .i64 (defE p t x)) (some (.val (.int .i64 (defE p t x)),⟨O++[(N,AO.row 2 [Xb.c x])],N+1⟩)):=
  ⟨S,_,_,rfl,m1,rfl,fun j hj=> .inl hj,hk1,hT1,by omega⟩
 have hs:=m1.se;have ht:=qol (N:=N+1) m1 hl t;have hc:=qog p f t x hx;have hcl:=qix x hx;simp only [Prg.e] at hc;simp only [Xb.ce] at b1 hs ht hc hcl same;cases z:inT p t with
 | false=>
  have hE:defE p t x=8:=by simp [defE,z]
  rw [z] at ht;rw [hE] at same ⊢;simp [c_95,Xb.ce,t0,hs,ht];exact same
 | true=>
  have hE:defE p t x=qbp p t x:=by simp [defE,z]
  rw [z] at ht;rw [hE] at same ⊢;by_cases q:qbp p t x=0
  ·obtain ⟨k,rfl,hk⟩:=qep z;have hk':k<c.Xq.length:=by omega
   obtain ⟨did,es0,e,hi,hle,htk⟩:=m1.cm.d.nonempty (by simp;omega);rw [QAb] at e hle;rw [e] at hs;have hke:k<es0.length:=by omega
   have g1:=qfj hk' htk;rw [q] at hc ⊢;simp only [Xb.ce] at hi;simp [c_95,Xb.ce,t0,hs,ht,hc,hcl,b1,hk',hi,g1];have hown:S.own did:= .inr (.inl (.inr (.inr (.inl (by rw [e];rfl)))));refine ⟨S,_,_,rfl,?_,rfl,fun j hj=> .inl hj,Kp.setl (by simpa only [Xb.ce] using hk1) (.inr (.inl hown)),qai (by simpa only [Xb.ce] using hT1),by omega⟩;simp only [<- Xb.ce] at hi ⊢;have keep:∀j o,look j (O++[(N,AO.row 2 [Xb.c x])])=some o->(∀es,o≠ .row 2 es)->look j (setl did (.row 2 (es0.set k (Xb.c x))) (O++[(N,AO.row 2 [Xb.c x])]))=look j (O++[(N,AO.row 2 [Xb.c x])]):=by
    intro j o ho hne;have hji:=qan ho hi (hne _);rw [qab,QA hji]
   have kmu:∀z v es,z≠2->Mu (O++[(N,AO.row 2 [Xb.c x])]) z v es->Mu (setl did (.row 2 (es0.set k (Xb.c x))) (O++[(N,AO.row 2 [Xb.c x])])) z v es:=by
    intro z v es hz hm;refine hm.fr fun j hj=>?_
    obtain ⟨es1,h1⟩:=hm.own hj;exact keep j _ h1 (by intro es2 h2;cases h2;exact hz rfl)
   refine ⟨?_,⟨kmu _ _ _ (by decide) m1.cm.r,m1.cm.rl,fun a v l hv hl=>kmu _ _ _ (by decide) (m1.cm.rv a v l hv hl),kmu _ _ _ (by decide) m1.cm.n,?_,m1.cm.g,m1.cm.rn,m1.cm.vi,m1.cm.va⟩,⟨kmu _ _ _ (by decide) m1.x.i,m1.x.len,?_,m1.x.nd⟩,m1.ri,m1.ni⟩
   ·rw [keep S.s _ m1.s (by simp)];exact m1.s
   ·have hmu:Mu (setl did (.row 2 (es0.set k (Xb.c x))) (O++[(N,AO.row 2 [Xb.c x])])) 2 (.row did 2 0 (c.Xq.map Xb.c).length) ((c.Xq.map Xb.c).set k (Xb.c x)):=
     Mu.upd (by rw [qab,QAa rfl,hi];rfl) (by simpa using hle) htk
    rw [e];rw [<- List.map_set,QAb] at hmu;exact hmu
   ·intro a b l ha hl2;have h0:=m1.x.m a b l ha hl2;rw [keep b _ h0 (by simp)];exact h0
  ·simp [c_95,Xb.ce,t0,hs,ht,hc,b1,q];exact same
theorem qre:∀(l l':List Rw) (n:Nat),l.length=l'.length->(∀(j:Nat) (h1:j<l.length) (h2:j<l'.length),l[j].id=l'[j].id)->qei l n=qei l' n
 | [],[],n,_,_=>rfl
 | [],_::_,n,h,_=>by simp at h
 | _::_,[],n,h,_=>by simp at h
 | a::l,b::l',n,h,hi=>by
  have h0:=hi 0 (by simp) (by simp);simp at h0;simp only [qei,h0];rw [qre l l' (n+1) (by simpa using h) fun j h1 h2=>by
   have:=hi (j+1) (by simp;omega) (by simp;omega);simpa using this]
theorem qac1 {l l':List Rw} (h:l.length=l'.length) (hi:∀(j:Nat) (h1:j<l.length) (h2:j<l'.length),l[j].id=l'[j].id):ents l=ents l':=qre l l' 0 h hi
def SV.chg (S:SV) (k j:Nat):Prop:=(∃v,S.V[k]? =some v/\vid v=some j)\/vid S.v1=some j\/vid S.v2=some j\/vid S.vi=some j\/S.M[k]? =some j
def SV.tab (S:SV) (k:Nat) (v:AV) (m:Nat):SV:=⟨S.s,S.v1,S.v2,S.v3,S.v4,S.vi,S.V.set k v,S.M.set k m⟩
section
variable {O O':List (Nat×AO)} {S:SV} {p:Prg} {c:Xf} {k:Nat}
theorem StoreM.vrow (m:StoreM O S p c) {j:Nat} {v:AV} {i:Nat} (hv:S.V[j]? =some v) (hi:vid v=some i):∃es,look i O=some (.row 5 es):=by
 have hj:=(Qm.1 hv).1;exact (m.cm.rv j v _ hv (Qa (by rw [<- m.cm.rl];exact hj))).own hi
theorem StoreM.mmap (m:StoreM O S p c) {j i:Nat} (hv:S.M[j]? =some i):∃es,look i O=some (.map es):=by
 have hj:=(Qm.1 hv).1;exact ⟨_,m.x.m j i _ hv (Qa (by rw [<- m.x.len];exact hj))⟩
theorem StoreM.upd (m:StoreM O S p c) (hk:k<c.rows.length) {v':AV} {m':Nat} {l':List Rw} {nx:Int}
  (keep:∀j,S.own j->¬S.chg k j->look j O'=look j O)
  (h1:Mu O' 1 S.v1 ((S.V.set k v').map fun x=>[x])) (h2:Mu O' 1 S.v2 ((c.Xr.set k nx).map cI)) (h3:Mu O' 1 S.vi ((S.M.set k m').map fun x=>[.map x])) (h4:Mu O' 5 v' (l'.map Rw.c)) (h5:look m' O'=some (.map (ents l')))
  (h6:∀z es t,v'≠ .app z es t) (d1:∀i,vid v'=some i->(∃v,S.V[k]? =some v/\vid v=some i)\/∀x,look i O=some x->x= .res) (d2:S.M[k]? =some m'\/∀x,look m' O=some x->x= .res):
  StoreM O' (S.tab k v' m') p ⟨c.rows.set k l',c.Xr.set k nx,c.Xq,c.Xm⟩:=by
 have hVl:=m.cm.rl;have hMl:=m.x.len;have ks:look S.s O'=look S.s O:=by
  refine keep S.s (.inl rfl) ?_;rintro (⟨v,hv,hi⟩ | hi | hi | hi | hi)
  ·obtain ⟨es,hl⟩:=m.vrow hv hi;exact qan m.s hl (by simp) rfl
  ·obtain ⟨es,hl⟩:=m.cm.r.own hi;exact qan m.s hl (by simp) rfl
  ·obtain ⟨es,hl⟩:=m.cm.n.own hi;exact qan m.s hl (by simp) rfl
  ·obtain ⟨es,hl⟩:=m.x.i.own hi;exact qan m.s hl (by simp) rfl
  ·obtain ⟨es,hl⟩:=m.mmap hi;exact qan m.s hl (by simp) rfl
 have kv:∀(j:Nat) (v:AV) (i:Nat),j≠k->S.V[j]? =some v->vid v=some i->look i O'=look i O:=by
  intro j v i hj hv hi;obtain ⟨es0,hl0⟩:=m.vrow hv hi;refine keep i (.inr (.inl (.inr (.inr (.inr ⟨v,Qe hv,hi⟩))))) ?_;rintro (⟨w,hw,hi'⟩ | hi' | hi' | hi' | hi')
  ·exact hj (m.cm.vi j k v w i hv hw hi hi')
  ·obtain ⟨es,hl⟩:=m.cm.r.own hi';exact qan hl0 hl (by simp) rfl
  ·obtain ⟨es,hl⟩:=m.cm.n.own hi';exact qan hl0 hl (by simp) rfl
  ·obtain ⟨es,hl⟩:=m.x.i.own hi';exact qan hl0 hl (by simp) rfl
  ·obtain ⟨es,hl⟩:=m.mmap hi';exact qan hl0 hl (by simp) rfl
 have km:∀(j i:Nat),j≠k->S.M[j]? =some i->look i O'=look i O:=by
  intro j i hj hv;obtain ⟨es0,hl0⟩:=m.mmap hv;refine keep i (.inr (.inr (.inr (Qe hv)))) ?_;rintro (⟨w,hw,hi'⟩ | hi' | hi' | hi' | hi')
  ·obtain ⟨es,hl⟩:=m.vrow hw hi';exact qan hl0 hl (by simp) rfl
  ·obtain ⟨es,hl⟩:=m.cm.r.own hi';exact qan hl0 hl (by simp) rfl
  ·obtain ⟨es,hl⟩:=m.cm.n.own hi';exact qan hl0 hl (by simp) rfl
  ·obtain ⟨es,hl⟩:=m.x.i.own hi';exact qan hl0 hl (by simp) rfl
  ·exact hj (m.x.nd j k i hv hi')
 have kd:Mu O' 2 S.v3 (c.Xq.map Xb.c):=by
  refine m.cm.d.fr fun i hi=>?_
  obtain ⟨es0,hl0⟩:=m.cm.d.own hi;refine keep i (.inr (.inl (.inr (.inr (.inl hi))))) ?_;rintro (⟨w,hw,hi'⟩ | hi' | hi' | hi' | hi')
  ·obtain ⟨es,hl⟩:=m.vrow hw hi';exact qan hl0 hl (by simp) rfl
  ·obtain ⟨es,hl⟩:=m.cm.r.own hi';exact qan hl0 hl (by simp) rfl
  ·obtain ⟨es,hl⟩:=m.cm.n.own hi';exact qan hl0 hl (by simp) rfl
  ·obtain ⟨es,hl⟩:=m.x.i.own hi';exact qan hl0 hl (by simp) rfl
  ·obtain ⟨es,hl⟩:=m.mmap hi';exact qan hl0 hl (by simp) rfl
 have other:∀(j:Nat) (v:AV) (i:Nat),j≠k->S.V[j]? =some v->vid v=some i->vid v'=some i->False:=by
  intro j v i hj hv hi hi';rcases d1 i hi' with ⟨w,hw,hw'⟩ | hf
  ·exact hj (m.cm.vi j k v w i hv hw hi hw')
  ·obtain ⟨es,hl⟩:=m.vrow hv hi;have:=hf _ hl;cases this
 refine ⟨?_,⟨h1,by simp [SV.tab,hVl],?_,h2,kd,m.cm.g,m.cm.rn,?_,?_⟩,⟨h3,by simp [SV.tab,hMl],?_,?_⟩,m.ri,m.ni⟩
 ·show look S.s O'=_;rw [ks];exact m.s
 ·intro j v l hv hl;simp only [SV.tab] at hv;by_cases hj:k=j
  ·subst hj;rw [List.getElem?_set_self (by omega)] at hv hl;cases hv;cases hl;exact h4
  ·rw [List.getElem?_set_ne hj] at hv hl;have h0:=m.cm.rv j v l hv hl;exact h0.fr fun i hi=>kv j v i (fun e=>hj e.symm) hv hi
 ·intro a b v w i ha hb hi hi';simp only [SV.tab] at ha hb;by_cases hka:k=a
  ·by_cases hkb:k=b
   ·omega
   ·subst hka;rw [List.getElem?_set_self (by omega)] at ha;rw [List.getElem?_set_ne hkb] at hb;cases ha;exact (other b w i (fun e=>hkb e.symm) hb hi' hi).elim
  ·by_cases hkb:k=b
   ·subst hkb;rw [List.getElem?_set_self (by omega)] at hb;rw [List.getElem?_set_ne hka] at ha;cases hb;exact (other a v i (fun e=>hka e.symm) ha hi hi').elim
   ·rw [List.getElem?_set_ne hka] at ha;rw [List.getElem?_set_ne hkb] at hb;exact m.cm.vi a b v w i ha hb hi hi'
 ·intro v hv;simp only [SV.tab] at hv;rcases Qq hv with hv | rfl
  ·exact m.cm.va v hv
  ·exact h6
 ·intro j i l hi hl;simp only [SV.tab] at hi;by_cases hj:k=j
  ·subst hj;rw [List.getElem?_set_self (by omega)] at hi hl;cases hi;cases hl;exact h5
  ·rw [List.getElem?_set_ne hj] at hi hl;rw [km j i (fun e=>hj e.symm) hi];exact m.x.m j i l hi hl
 ·intro a b i ha hb;simp only [SV.tab] at ha hb;have oth:∀j,j≠k->S.M[j]? =some m'->False:=by
   intro j hj hv;rcases d2 with h0 | hf
   ·exact hj (m.x.nd j k m' hv h0)
   ·obtain ⟨es,hl⟩:=m.mmap hv;have:=hf _ hl;cases this
  by_cases hka:k=a
  ·by_cases hkb:k=b
   ·omega
   ·subst hka;rw [List.getElem?_set_self (by omega)] at ha;rw [List.getElem?_set_ne hkb] at hb;cases ha;exact (oth b (fun e=>hkb e.symm) hb).elim
  ·by_cases hkb:k=b
   ·subst hkb;rw [List.getElem?_set_self (by omega)] at hb;rw [List.getElem?_set_ne hka] at ha;cases hb;exact (oth a (fun e=>hka e.symm) ha).elim
   ·rw [List.getElem?_set_ne hka] at ha;rw [List.getElem?_set_ne hkb] at hb;exact m.x.nd a b i ha hb
end
end Go.Av
