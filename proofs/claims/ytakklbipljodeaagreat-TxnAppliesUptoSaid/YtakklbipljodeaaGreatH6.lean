/-
 store.cloneConfig: the default actions and the registers.
-/
import Derived.Test.YtakklbipljodeaaGreatQ19
set_option linter.unusedVariables false
set_option linter.unusedSimpArgs false
set_option linter.constructorNameAsVariable false
namespace Go.Av
set_option maxRecDepth 4000
theorem qe4 {α:Type} {f:α→List AV} {l:List α} {i:Nat} {es0:List (List AV)} (hi:i<l.length) (ht:es0.take (l.map f).length=l.map f):es0[i]? =some (f l[i]):=by
 have h:(es0.take (l.map f).length)[i]? =(l.map f)[i]? :=by rw [ht]
 rw [List.getElem?_take_of_lt (by simpa using hi)] at h;rw [h];simp [hi]
def Im (z:Nat) (v:AV) (es:List (List AV)):Prop:=v= .slice z es∨v= .fslice z es∨∃t,v= .app z es t
theorem Im.len {z:Nat} {v:AV} {es:List (List AV)} (h:Im z v es):lenOf v=some es.length:=by
 rcases h with rfl | rfl | ⟨t,rfl⟩<;>rfl
section
variable {β:Type} {fin:Option (Ex×St)→Option β}
theorem qacd (D:List ActionCall) (hD:D.length<2^40) (hs:∀d∈D,d.args.length<2^40) (v w1 w2:AV) (b:Nat) (K:List Fr) (Q:Option β→Prop) (e:Env) (O:List (Nat×AO)) (N:Nat) (hT:Tail O N) (hv:Re O 2 v (D.map ActionCall.c))
  (hb:look b O=some (.row 4 [[w1,w2,.fslice 2 [],.fslice 1 []]])) (h3:look 3 e=some (.ptr b 4 0 0)) (h44:look 44 e=some v) (h45:look 45 e=some (.int .i64 D.length)) (h46:look 46 e=some (.int .i64 0))
  (hK:∀e' O' N' w,Mu O' 2 w (D.map ActionCall.c)→(∀j,vid w=some j→N≤j)→Kp (fun j=>j=b) N O O'→Tail O' N'→N≤N'→look b O'=some (.row 4 [[w1,w2,w,.fslice 1 []]])→
   look 1 e'=look 1 e→look 2 e'=look 2 e→look 3 e'=look 3 e→Q (go Φ fin K .normal ⟨e',⟨O',N'⟩⟩)):
  Q (go Φ fin (.c (.loop c_76_l4):: .b 4::K) .normal ⟨e,⟨O,N⟩⟩):=by
 have hvb:∀j,vid v=some j→j≠b:=by
  intro j hj;cases hv with
  | sl=>cases hj
  | fs=>cases hj
  | ap=>cases hj
  | row id _ es0 n hn hl hle ht=>cases hj;exact qau hl hb (by simp)
 refine qhg D.length (fun i e' h=>∃O' N' w,h=⟨O',N'⟩∧((i=0∧w= .fslice 2 [])∨∃id,w= .row id 2 0 i∧look id O'=some (.row 2 ((D.map ActionCall.c).take i))∧N≤id)∧Kp (fun j=>j=b) N O O'∧Tail O' N'∧N≤N'∧
   look b O'=some (.row 4 [[w1,w2,w,.fslice 1 []]])∧look 3 e'=some (.ptr b 4 0 0)∧look 44 e'=some v∧look 45 e'=some (.int .i64 D.length)∧look 46 e'=some (.int .i64 i)∧
   look 1 e'=look 1 e∧look 2 e'=look 2 e) Q ?_ ?_ 0 _ _ (Nat.zero_le _) ?_
 ·rintro i e' _ L hi hL ⟨O',N',w,rfl,hw,hk,hT',hN,hb',h3,h44,h45,h46,g1,g2⟩ ih;have hw1:IntKind.wrap .i64 ((i:Int)+1)=((i+1:Nat):Int):=qac (by omega) (by omega);have hbN:b<N:=hT.lt hb;have hc:=qjw D[i] (hs _ (List.getElem_mem hi));simp only [ActionCall.ce] at hc;have t0:=hT' N' (Nat.le_refl _);have t1:=hT' (N'+1) (by omega);have q1:¬N'+1=b:=by omega
  have hm:min i D.length=i:=by omega
  have hbd:(i+1)*32≤70368744177664:=by omega
  have htk:(D.map ActionCall.c).take (i+1)=(D.map ActionCall.c).take i++[ActionCall.c D[i]]:=qa1 hi;rw [ActionCall.ce] at htk;have hv':Re O' 2 v (D.map ActionCall.c):=by
   refine hv.fr fun j hj=>?_
   obtain ⟨x,hl⟩:=hv.own hj;exact hk j (hT.lt hl) (hvb j hj)
  rcases hw with ⟨rfl,rfl⟩ | ⟨id,rfl,hlk,hid⟩
  ·have htk1:(D.map ActionCall.c).take 1=[[.int .i64 D[0].action,.slice 1 (D[0].args.map c32)]]:=by simpa using htk
   cases hv' with
   | row id' _ es0 n hn hl' hle ht=>
    have h0:=qe4 hi ht;simp [c_76_l4,ActionCall.ce,h3,h44,h45,h46,hi,hc,t0,t1,hn,hl',h0,wr1,qal,hb'];refine ih _ _ ⟨_,_,.row (N'+1) 2 0 (0+1),rfl,.inr ⟨N'+1,rfl,?_,by omega⟩,Kp.setl (Kp.app hk (by omega)) (.inr rfl),qaq (hT'.app1 (by omega)),by omega,?_,?_,?_,?_,?_,?_,?_⟩
    ·simp [qae,q1,t1,htk1]
    ·simp [qae,qal,hb']
    all_goals simp [*]
   | _=>
    simp [c_76_l4,ActionCall.ce,h3,h44,h45,h46,hi,hc,t0,t1,wr1,qal,hb'];refine ih _ _ ⟨_,_,.row (N'+1) 2 0 (0+1),rfl,.inr ⟨N'+1,rfl,?_,by omega⟩,Kp.setl (Kp.app hk (by omega)) (.inr rfl),qaq (hT'.app1 (by omega)),by omega,?_,?_,?_,?_,?_,?_,?_⟩
    ·simp [qae,q1,t1,htk1]
    ·simp [qae,qal,hb']
    all_goals simp [*]
  ·have hbi:=qau hb' hlk (by simp);have hd1:look (N'+1) (qbf id O')=none:=qeg _ t1;have hd2:look b (qbf id O')=some (.row 4 [[w1,w2,.row id 2 0 i,.fslice 1 []]]):=by rw [qda hbi,hb']
   cases hv' with
   | row id' _ es0 n hn hl' hle ht=>
    have h0:=qe4 hi ht;simp [c_76_l4,ActionCall.ce,h3,h44,h45,h46,hi,hc,t0,hn,hl',h0,hw1,qal,hb',hlk,hm,hbd,hd1,hd2];refine ih _ _ ⟨_,_,.row (N'+1) 2 0 (i+1),rfl,.inr ⟨N'+1,rfl,?_,by omega⟩,Kp.setl (Kp.app (Kp.drop hk (.inl hid)) (by omega)) (.inr rfl),qaq ((qfb hT').app1 (by omega)),by omega,?_,?_,?_,?_,?_,?_,?_⟩
    ·simp [qae,q1,hd1,htk]
    ·simp [qae,qal,hd2]
    all_goals simp [*]
   | _=>
    simp [c_76_l4,ActionCall.ce,h3,h44,h45,h46,hi,hc,t0,hw1,qal,hb',hlk,hm,hbd,hd1,hd2];refine ih _ _ ⟨_,_,.row (N'+1) 2 0 (i+1),rfl,.inr ⟨N'+1,rfl,?_,by omega⟩,Kp.setl (Kp.app (Kp.drop hk (.inl hid)) (by omega)) (.inr rfl),qaq ((qfb hT').app1 (by omega)),by omega,?_,?_,?_,?_,?_,?_,?_⟩
    ·simp [qae,q1,hd1,htk]
    ·simp [qae,qal,hd2]
    all_goals simp [*]
 ·rintro e' _ L hL ⟨O',N',w,rfl,hw,hk,hT',hN,hb',h3,h44,h45,h46,g1,g2⟩;simp [c_76_l4,h45,h46,hL];refine hK _ O' N' w ?_ ?_ hk hT' hN hb' ?_ ?_ ?_
  ·rcases hw with ⟨hz,rfl⟩ | ⟨id,rfl,hlk,hid⟩
   ·have:D=[]:=List.eq_nil_of_length_eq_zero hz;subst this;exact .nilF
   ·rw [List.take_of_length_le (by simp)] at hlk;exact .row id _ _ _ (by simp) hlk (Nat.le_refl _) (by rw [List.take_length])
  ·rcases hw with ⟨hz,rfl⟩ | ⟨id,rfl,hlk,hid⟩
   ·intro j hj;cases hj
   ·intro j hj;cases hj;exact hid
  ·simp [g1]
  ·simp [g2]
  ·simp [*]
 ·exact ⟨O,N,.fslice 2 [],rfl,.inl ⟨rfl,rfl⟩,fun _ _ _=>rfl,hT,Nat.le_refl _,hb,h3,h44,h45,h46,rfl,rfl⟩
theorem qace (G:List (List Int)) (hG:G.length<2^40) (hs:∀l∈G,l.length<2^40) (v w1 w2 w3:AV) (b:Nat) (K:List Fr) (Q:Option β→Prop) (e:Env) (O:List (Nat×AO)) (N:Nat) (hT:Tail O N) (hv:Im 1 v (G.map (cS 1 c32)))
  (hb:look b O=some (.row 4 [[w1,w2,w3,.fslice 1 []]])) (h3:look 3 e=some (.ptr b 4 0 0)) (h59:look 59 e=some v) (h60:look 60 e=some (.int .i64 G.length)) (h61:look 61 e=some (.int .i64 0))
  (hK:∀e' O' N' w,(w= .fslice 1 (G.map (cS 1 c32))∨∃t,w= .app 1 (G.map (cS 1 c32)) t)→Kp (fun j=>j=b) N O O'→Tail O' N'→N≤N'→look b O'=some (.row 4 [[w1,w2,w3,w]])→
   look 1 e'=look 1 e→look 2 e'=look 2 e→look 3 e'=look 3 e→Q (go Φ fin K .normal ⟨e',⟨O',N'⟩⟩)):
  Q (go Φ fin (.c (.loop c_76_l5):: .b 6::K) .normal ⟨e,⟨O,N⟩⟩):=by
 refine qhg G.length (fun i e' h=>∃O' N' w,h=⟨O',N'⟩∧((i=0∧w= .fslice 1 [])∨∃id,w= .app 1 ((G.map (cS 1 c32)).take i) id∧look id O'=some (.tok 1 i)∧N≤id)∧Kp (fun j=>j=b) N O O'∧Tail O' N'∧N≤N'∧
   look b O'=some (.row 4 [[w1,w2,w3,w]])∧look 3 e'=some (.ptr b 4 0 0)∧look 59 e'=some v∧look 60 e'=some (.int .i64 G.length)∧look 61 e'=some (.int .i64 i)∧
   look 1 e'=look 1 e∧look 2 e'=look 2 e) Q ?_ ?_ 0 _ _ (Nat.zero_le _) ?_
 ·rintro i e' _ L hi hL ⟨O',N',w,rfl,hw,hk,hT',hN,hb',h3,h59,h60,h61,g1,g2⟩ ih;have hw1:IntKind.wrap .i64 ((i:Int)+1)=((i+1:Nat):Int):=qac (by omega) (by omega);have hbN:b<N:=hT.lt hb;have hc:=qrm G[i] (hs _ (List.getElem_mem hi));have t0:=hT' N' (Nat.le_refl _);have q0:¬N'=b:=by omega
  have q1:¬b=N':=by omega
  have hm:min i G.length=i:=by omega
  have hbd:(i+1)*24≤70368744177664:=by omega
  have htk:(G.map (cS 1 c32)).take (i+1)=(G.map (cS 1 c32)).take i++[cS 1 c32 G[i]]:=qa1 hi;rw [cSe] at htk;rcases hw with ⟨rfl,rfl⟩ | ⟨id,rfl,hlk,hid⟩
  ·have htk1:(G.map (cS 1 c32)).take 1=[[.slice 1 (G[0].map c32)]]:=by simpa using htk
   rcases hv with rfl | rfl | ⟨t,rfl⟩
   all_goals
    simp [c_76_l5,cSe,h3,h59,h60,h61,hi,hc,t0,wr1,qal,hb'];refine ih _ _ ⟨_,_,.app 1 [[.slice 1 (G[0].map c32)]] N',rfl,.inr ⟨N',by rw [htk1],?_,by omega⟩,Kp.setl (Kp.app hk (by omega)) (.inr rfl),qaq (hT'.app1 (by omega)),by omega,?_,?_,?_,?_,?_,?_,?_⟩
    ·simp [qae,q0,t0]
    ·simp [qae,qal,hb']
    all_goals simp [*]
  ·have hbi:=qau hb' hlk (by simp);have hib:¬id=b:=fun h=>hbi h.symm
   rcases hv with rfl | rfl | ⟨t,rfl⟩
   all_goals
    simp [c_76_l5,cSe,h3,h59,h60,h61,hi,hc,hw1,qae,hb',hbi,hlk,hm,hbd];refine ih _ _ ⟨_,_,.app 1 ((G.map (cS 1 c32)).take i++[[.slice 1 (G[i].map c32)]]) id,rfl,.inr ⟨id,by rw [htk],?_,hid⟩,Kp.setl (Kp.setl hk (.inl hid)) (.inr rfl),qaq (qaq hT'),by omega,?_,?_,?_,?_,?_,?_,?_⟩
    ·simp [qae,hlk,hib]
    ·simp [qae,hbi,hb']
    all_goals simp [*]
 ·rintro e' _ L hL ⟨O',N',w,rfl,hw,hk,hT',hN,hb',h3,h59,h60,h61,g1,g2⟩;simp [c_76_l5,h60,h61,hL];refine hK _ O' N' w ?_ hk hT' hN hb' ?_ ?_ ?_
  ·rcases hw with ⟨hz,rfl⟩ | ⟨id,rfl,hlk,hid⟩
   ·have:G=[]:=List.eq_nil_of_length_eq_zero hz;subst this;exact .inl rfl
   ·right;exact ⟨id,by rw [List.take_of_length_le (by simp)]⟩
  ·simp [g1]
  ·simp [g2]
  ·simp [*]
 ·exact ⟨O,N,.fslice 1 [],rfl,.inl ⟨rfl,rfl⟩,fun _ _ _=>rfl,hT,Nat.le_refl _,hb,h3,h59,h60,h61,rfl,rfl⟩
end
structure CfgR (O:List (Nat×AO)) (v1 v2 v3 v4:AV) (A:List AV) (c:Config):Prop where
 r:RowsR O v1 A c.rows
 n:Re O 1 v2 (c.nextID.map cI)
 d:Re O 2 v3 (c.defaults.map ActionCall.c)
 g:Im 1 v4 (c.registers.map (cS 1 c32))
structure CfgU (c:Config):Prop where
 t:CfgT c
 u:∀l∈c.rows,l.length<2^39
theorem CfgR.kp {O O':List (Nat×AO)} {v1 v2 v3 v4:AV} {A:List AV} {c:Config} {N:Nat} {X:Nat→Prop} (h:CfgR O v1 v2 v3 v4 A c) (hT:Tail O N) (hk:Kp X N O O') (hx:∀j,X j→look j O=none∨N≤j):CfgR O' v1 v2 v3 v4 A c:=
 ⟨⟨h.r.v.kp hT hk hx,h.r.len,fun k x l ha hl=>(h.r.at_ k x l ha hl).kp hT hk hx⟩,h.n.kp hT hk hx,h.d.kp hT hk hx,h.g⟩
def qwp (N:Nat) (O:List (Nat×AO)) (c:Config) (r:Option (Rt×AH)):Prop:=
 ∃w1 w2 w3 w4 V O' N',r=some (.val (.agg [w1,w2,w3,w4]),⟨O',N'⟩)∧CfgM O' w1 w2 w3 w4 V c∧(∀j,CfgM.own w1 w2 w3 V j→N≤j)∧Kp (fun _=>False) N O O'∧Tail O' N'∧N≤N'
theorem qjf (c:Config) (s:CfgU c) {v1 v2 v3 v4:AV} {A:List AV} {O:List (Nat×AO)} {N:Nat} (hT:Tail O N) (h:CfgR O v1 v2 v3 v4 A c):qwp N O c (qak Φ f_76 [.agg [v1,v2,v3,v4]] ⟨O,N⟩):=by
 rw [qbs (fn:=c_76) rfl rfl];have t0:=hT N (Nat.le_refl _);have t1:=hT (N+1) (by omega);have hT1:Tail (O++[(N,AO.row 4 [[v1,v2,v3,v4]]),(N+1,AO.row 4 [[.fslice 1 [],.fslice 1 [],.fslice 2 [],.fslice 1 []]])]) (N+1+1):=by
  rw [qb6,qbo,qbo];exact ⟨hT.mono (by omega),by omega,by omega,Tail.nil _⟩
 have hk1:Kp (fun _=>False) N O (O++[(N,AO.row 4 [[v1,v2,v3,v4]]),(N+1,AO.row 4 [[.fslice 1 [],.fslice 1 [],.fslice 2 [],.fslice 1 []]])]):=Kp.appL (fun _ _ _=>rfl) (by simp);have hR1:=h.kp hT hk1 (by simp);have hc1:=hR1.n.cells;have c1:=h.r.v.cells;have c2:=h.n.cells;have c3:=h.d.cells;have c4:AV.cells v4=some [v4]:=by rcases h.g with e | e | ⟨t,e⟩<;>subst e<;>rfl
 simp [c_76,t0,t1];generalize hO1:O++[(N,AO.row 4 [[v1,v2,v3,v4]]),(N+1,AO.row 4 [[.fslice 1 [],.fslice 1 [],.fslice 2 [],.fslice 1 []]])]=O1 at hT1 hk1 hR1 ⊢;have lb1:look N O1=some (.row 4 [[v1,v2,v3,v4]]):=by rw [← hO1];simp [t0]
 have lb2:look (N+1) O1=some (.row 4 [[.fslice 1 [],.fslice 1 [],.fslice 2 [],.fslice 1 []]]):=by rw [← hO1];simp [t1]
 obtain ⟨w2,o2,e2,m2,fw2⟩:=qaci hT1 hR1.n s.t.nl;rw [e2];have n1:¬N+1+1=N:=by omega
 have t2:=hT1 (N+1+1) (Nat.le_refl _);have t3:=hT1 (N+1+1+1) (by omega);have m2c:=m2.cells;have l1:=h.r.v.len;rw [List.length_map,h.r.len] at l1;simp [t3,qal,lb1,m2c,l1,-AV.cells,-lenOf];have hT2:Tail (O1++[(N+1+1,o2),(N+1+1+1,AO.row 4 [[.fslice 1 [],w2,.fslice 2 [],.fslice 1 []]])]) (N+1+1+1+1):=by
  rw [qb6,qbo,qbo];exact ⟨hT1.mono (by omega),by omega,by omega,Tail.nil _⟩
 have hk2:Kp (fun _=>False) (N+1+1) O1 (O1++[(N+1+1,o2),(N+1+1+1,AO.row 4 [[.fslice 1 [],w2,.fslice 2 [],.fslice 1 []]])]):=Kp.appL (fun _ _ _=>rfl) (by simp);have hR2:=hR1.kp hT1 hk2 (by simp);have lb3:look (N+1+1+1) (O1++[(N+1+1,o2),(N+1+1+1,AO.row 4 [[.fslice 1 [],w2,.fslice 2 [],.fslice 1 []]])])=some (.row 4 [[.fslice 1 [],w2,.fslice 2 [],.fslice 1 []]]):=by
  have:¬N+1+1=N+1+1+1:=by omega
  rw [qal,t3];simp
 have m2':Mu (O1++[(N+1+1,o2),(N+1+1+1,AO.row 4 [[.fslice 1 [],w2,.fslice 2 [],.fslice 1 []]])]) 1 w2 (c.nextID.map cI):=by
  refine m2.fr fun j hj=>?_
  obtain ⟨es0,hl⟩:=m2.own hj;have hlt:=(hT1.app1 (o:=o2) (Nat.le_refl _)).lt hl;have:¬N+1+1+1=j:=by omega
  rw [show O1++[(N+1+1,o2),(N+1+1+1,AO.row 4 [[.fslice 1 [],w2,.fslice 2 [],.fslice 1 []]])]=(O1++[(N+1+1,o2)])++[(N+1+1+1,AO.row 4 [[.fslice 1 [],w2,.fslice 2 [],.fslice 1 []]])] by simp];rw [qal (b:=[(N+1+1+1,_)])];simp [this]
 have lc1:look N (O1++[(N+1+1,o2),(N+1+1+1,AO.row 4 [[.fslice 1 [],w2,.fslice 2 [],.fslice 1 []]])])=some (.row 4 [[v1,v2,v3,v4]]):=by rw [qal,lb1];rfl
 have lc2:look (N+1) (O1++[(N+1+1,o2),(N+1+1+1,AO.row 4 [[.fslice 1 [],w2,.fslice 2 [],.fslice 1 []]])])=some (.row 4 [[.fslice 1 [],.fslice 1 [],.fslice 2 [],.fslice 1 []]]):=by rw [qal,lb2];rfl
 have hk12:=hk1.trans hk2 (by omega);generalize O1++[(N+1+1,o2),(N+1+1+1,AO.row 4 [[.fslice 1 [],w2,.fslice 2 [],.fslice 1 []]])]=O2 at hT2 hR2 lb3 m2' lc1 lc2 hk12 ⊢;refine qacf c.rows s.t.rl (fun l hl=>⟨s.u l hl,(s.t.rs l hl).2⟩) v1 w2 A (N+1+1+1) _ _ _ O2 _ hT2 hR2.r lb3 ?_ ?_ ?_ ?_ ?_
 ·simp
 ·simp
 ·simp
 ·simp
 intro e3 O3 N3 w1 V mw1 fw1 hV hk3 hT3 hN3 lb3' g1 g2 g3;simp at g1 g2 g3;have hx:∀j,j=N+1+1+1→look j O1=none∨N+1+1≤j:=fun j hj=> .inr (by omega)
 have ld1:look N O3=some (.row 4 [[v1,v2,v3,v4]]):=hk3.lk hT2 lc1 (by omega);have ld2:look (N+1) O3=some (.row 4 [[.fslice 1 [],.fslice 1 [],.fslice 2 [],.fslice 1 []]]):=hk3.lk hT2 lc2 (by omega);have hk13:Kp (fun _=>False) N O O3:=fun j hj _=>(hk3 j (by omega) (by omega)).trans (hk12 j hj (by simp))
 have hR3:=h.kp hT hk13 (by simp);have m23:Mu O3 1 w2 (c.nextID.map cI):=by
  refine m2'.fr fun j hj=>?_
  obtain ⟨es0,hl⟩:=m2'.own hj;exact hk3 j (hT2.lt hl) (qau hl lb3 (by simp))
 have l3:=h.d.len;simp [c_76_k8,g1,ld1,l3,-lenOf];refine qacd c.defaults s.t.dl (fun d hd=>(s.t.ds d hd).1) v3 w1 w2 (N+1+1+1) _ _ _ O3 N3 hT3 hR3.d lb3' ?_ ?_ ?_ ?_ ?_
 ·simp [g3]
 ·simp
 ·simp
 ·simp
 intro e4 O4 N4 w3 mw3 fw3 hk4 hT4 hN4 lb4 f1 f2 f3;simp at f1 f2 f3;have le1:look N O4=some (.row 4 [[v1,v2,v3,v4]]):=hk4.lk hT3 ld1 (by omega);have le2:look (N+1) O4=some (.row 4 [[.fslice 1 [],.fslice 1 [],.fslice 2 [],.fslice 1 []]]):=hk4.lk hT3 ld2 (by omega);have m24:Mu O4 1 w2 (c.nextID.map cI):=by
  refine m23.fr fun j hj=>?_
  obtain ⟨es0,hl⟩:=m23.own hj;exact hk4 j (hT3.lt hl) (qau hl lb3' (by simp))
 have m14:Mu O4 1 w1 (V.map fun x=>[x]):=by
  refine mw1.fr fun j hj=>?_
  obtain ⟨es0,hl⟩:=mw1.own hj;exact hk4 j (hT3.lt hl) (qau hl lb3' (by simp))
 have hV4:RowsW O4 (N+1+1+1+1) V c.rows:=hV.fr fun j es0 hl=>hk4 j (hT3.lt hl) (qau hl lb3' (by simp))
 have l4:lenOf v4=some c.registers.length:=by have:=h.g.len;rw [List.length_map] at this;exact this
 simp [c_76_k7,f1,g1,le1,l4,-lenOf];refine qace c.registers s.t.gl (fun l hl=>(s.t.gs l hl).1) v4 w1 w2 w3 (N+1+1+1) _ _ _ O4 N4 hT4 h.g lb4 ?_ ?_ ?_ ?_ ?_
 ·simp [f3,g3]
 ·simp
 ·simp
 ·simp
 intro e5 O5 N5 w4 mw4 hk5 hT5 hN5 lb5 d1 d2 d3;simp at d1 d2 d3;have lf2:look (N+1) O5=some (.row 4 [[.fslice 1 [],.fslice 1 [],.fslice 2 [],.fslice 1 []]]):=hk5.lk hT4 le2 (by omega);simp [c_76_k6,d2,d3,f2,f3,g2,g3,lb5,lf2,qae];refine ⟨w1,w2,w3,w4,V,_,N5,rfl,?_,?_,?_,qaq hT5,by omega⟩
 ·have keep:∀j z es0,z≠4→look j O4=some (.row z es0)→look j (setl (N+1) (.row 4 [[w1,w2,w3,w4]]) O5)=look j O4:=by
   intro j z es0 hz hl;have h5:=hk5 j (hT4.lt hl) (qau hl lb4 (by simp [hz]));have hl5:look j O5=some (.row z es0):=by rw [h5,hl]
   rw [qae,if_neg (qau hl5 lf2 (by simp [hz])),h5]
  refine ⟨m14.fr fun j hj=>?_,hV4.len,?_,m24.fr fun j hj=>?_,mw3.fr fun j hj=>?_,mw4,?_,hV4.inj,hV4.na⟩
  ·obtain ⟨es0,hl⟩:=m14.own hj;exact keep j 1 es0 (by decide) hl
  ·intro k v l hv hl;refine (hV4.mu k v l hv hl).fr fun j hj=>?_
   obtain ⟨es0,hl⟩:=(hV4.mu k v l hv hl).own hj;exact keep j 5 es0 (by decide) hl
  ·obtain ⟨es0,hl⟩:=m24.own hj;exact keep j 1 es0 (by decide) hl
  ·obtain ⟨es0,hl⟩:=mw3.own hj;exact keep j 2 es0 (by decide) hl
  ·intro i h1 h2;have:=fw1 i h1;obtain ⟨es0,hl⟩:=m2'.own h2;have:=hT2.lt hl;omega
 ·intro j hj;rcases hj with hj | hj | hj | ⟨v,hv,hj⟩
  ·have:=fw1 j hj;omega
  ·have:=fw2 j hj;omega
  ·have:=fw3 j hj;omega
  ·have:=hV4.fresh v hv j hj;omega
 ·intro j hj _;rw [qae,if_neg (by omega),hk5 j (by omega) (by omega),hk4 j (by omega) (by omega),hk3 j (by omega) (by omega)];exact hk12 j hj (by simp)
def qd3:List Rw→Nat→List (AV×AV)
 | [],_=>[]
 | r::l,n=>(.int .i64 r.id,.int .i64 n)::qd3 l (n+1)
def ents (l:List Rw):List (AV×AV):=qd3 l 0
theorem qnq (r:Rw):∀(l:List Rw) (n:Nat),qd3 (l++[r]) n=qd3 l n++[(.int .i64 r.id,.int .i64 ((n+l.length:Nat):Int))]
 | [],n=>by simp [qd3]
 | a::l,n=>by
  have ih:=qnq r l (n+1);simp only [List.cons_append,qd3,ih,List.length_cons];rw [show n+1+l.length=n+(l.length+1) by omega]
theorem qpx (l:List Rw) (r:Rw):ents (l++[r])=ents l++[(.int .i64 r.id,.int .i64 (l.length:Nat))]:=by
 unfold ents;rw [qnq,Nat.zero_add]
theorem qm7 (x:Int) (v:AV):∀(l:List Rw) (n:Nat),(∀r∈l,r.id≠x)→putA .i (.int .i64 x) v (qd3 l n)=some (qd3 l n++[(.int .i64 x,v)])
 | [],n,_=>rfl
 | r::l,n,h=>by
  have ih:=qm7 x v l (n+1) fun r hr=>h r (by simp [hr])
  have h1:¬x=r.id:=fun e=>h r (by simp) e.symm
  simp only [qd3,putA,eqKd,if_true];have:(x == r.id)=false:=by simpa using h1
  rw [this];simp only [ih,Option.map_some,List.cons_append]
theorem qnv (x:Int):∀(l:List Rw) (n:Nat),qb4 .i (.int .i64 x) (qd3 l n)=some ((rIdx l x).map fun i=> .int .i64 ((i+n:Nat):Int))
 | [],n=>rfl
 | r::l,n=>by
  have ih:=qnv x l (n+1);unfold rIdx at ih ⊢;simp only [qd3,qb4,eqKd,if_true,List.findIdx?_cons];by_cases h:x=r.id
  ·subst h;simp
  ·have h':(x == r.id)=false:=by simpa using h
   have h'':¬r.id=x:=fun e=>h e.symm
   rw [h'];simp only [ih,h'',decide_false,Option.map_map,Bool.false_eq_true,if_false];congr 2;funext i;simp only [Function.comp_apply];rw [show i+(n+1)=i+1+n by omega]
theorem qxl (x:Int) (l:List Rw):qb4 .i (.int .i64 x) (ents l)=some ((rIdx l x).map fun (i:Nat)=> .int .i64 (i:Int)):=qnv x l 0
def qww (N:Nat) (O:List (Nat×AO)) (iid k:Nat) (es:List (List AV)) (l:List Rw) (r:Option (Rt×AH)):Prop:=
 ∃O' N',r=some (.val (.tup []),⟨O',N'⟩)∧look iid O'=some (.row 1 (es.set k [.map N]))∧look N O'=some (.map (ents l))∧Kp (fun j=>j=iid) N O O'∧Tail O' N'∧N<N'
theorem qoc {O:List (Nat×AO)} {N sid iid k:Nat} {v1 v2 v3 v4:AV} {R:List AV} {V:List AV} {l:List Rw} {es:List (List AV)} {n:Nat} (hT:Tail O N) (hl:l.length<2^39) (hk:k<n) (hVk:k<V.length)
  (hs:look sid O=some (.row 15 [v1::v2::v3::v4::(R++[.row iid 1 0 n,.bool true])])) (hR:R.length=9) (hi:look iid O=some (.row 1 es)) (hn:n≤es.length) (hes:∃x,es[k]? =some [x])
  (h1:Mu O 1 v1 (V.map fun x=>[x])) (h5:Mu O 5 V[k] (l.map Rw.c)) (hri:vid v1≠some iid) (hinc:l.Pairwise fun a b=>a.id<b.id) (hk39:k<2^40):
  qww N O iid k es l (qak Φ f_94 [.ptr sid 15 0 0,.int .i64 k] ⟨O,N⟩):=by
 rw [qbs (fn:=c_94) rfl rfl];obtain ⟨r0,r1,r2,r3,r4,r5,r6,r7,r8,rfl⟩:∃r0 r1 r2 r3 r4 r5 r6 r7 r8,R=[r0,r1,r2,r3,r4,r5,r6,r7,r8]:=by
  match R,hR with
  | [r0,r1,r2,r3,r4,r5,r6,r7,r8],_=>exact ⟨_,_,_,_,_,_,_,_,_,rfl⟩
 obtain ⟨x,hx⟩:=hes;have t0:=hT N (Nat.le_refl _);have hsi:=qau hs hi (by simp);have fi:=qd1 hT hi (Nat.le_refl N);have fs:=qd1 hT hs (Nat.le_refl N);obtain ⟨rid,es1,e1,hl1,hle1,ht1⟩:=h1.nonempty (by simp;omega);subst e1;have hrid:¬rid=iid:=fun e=>hri (by rw [e];rfl)
 have fr:=qd1 hT hl1 (Nat.le_refl N);have g1:es1[k]? =some [V[k]]:=qe4 hVk ht1;have hkn:k<V.length:=hVk;have hken:k<es.length:=by omega
 have h5l:=h5.len;rw [List.length_map] at h5l;simp [c_94,hs,hi,t0,qal,hk,hx,qae,hsi,fi,fs,hl1,hrid,g1,hVk,h5l,-lenOf];have hT1:Tail (setl iid (AO.row 1 (es.set k [.map N])) (O++[(N,AO.map [])])) (N+1):=qaq (hT.app1 (Nat.le_refl _));have hk1:Kp (fun j=>j=iid) N O (setl iid (AO.row 1 (es.set k [.map N])) (O++[(N,AO.map [])])):=Kp.setl (Kp.app (fun _ _ _=>rfl) (Nat.le_refl _)) (.inr rfl);have a1:look iid (setl iid (AO.row 1 (es.set k [.map N])) (O++[(N,AO.map [])]))=some (.row 1 (es.set k [.map N])):=by simp [qae,qal,hi]
 have a2:look N (setl iid (AO.row 1 (es.set k [.map N])) (O++[(N,AO.map [])]))=some (.map []):=by simp [qae,fi,t0]
 generalize setl iid (AO.row 1 (es.set k [.map N])) (O++[(N,AO.map [])])=O1 at hT1 hk1 a1 a2 ⊢;have a3:look sid O1=some (.row 15 [AV.row rid 1 0 V.length::v2::v3::v4::([r0,r1,r2,r3,r4,r5,r6,r7,r8]++[.row iid 1 0 n,.bool true])]):=by
  rw [hk1 sid (hT.lt hs) hsi,hs];simp
 have h51:Mu O1 5 V[k] (l.map Rw.c):=by
  refine h5.fr fun j hj=>?_
  obtain ⟨es0,hl0⟩:=h5.own hj;exact hk1 j (hT.lt hl0) (qau hl0 hi (by simp))
 refine qhg l.length (fun i e h=>∃O' N',h=⟨O',N'⟩∧Kp (fun j=>j=N) (N+1) O1 O'∧Tail O' N'∧N+1≤N'∧look N O'=some (.map (ents (l.take i)))∧look 0 e=some (.ptr sid 15 0 0)∧look 1 e=some (.int .i64 k)∧look 20 e=some V[k]∧look 21 e=some (.int .i64 l.length)∧look 22 e=some (.int .i64 i)) (qww N O iid k es l) ?_ ?_ 0 _ _ (Nat.zero_le _) ?_
 ·rintro i e _ L hi' hL ⟨O',N',rfl,hk',hT',hN',b2,e0,e1,e20,e21,e22⟩ ih;have hw1:IntKind.wrap .i64 ((i:Int)+1)=((i+1:Nat):Int):=qac (by omega) (by omega);have u0:=hT' N' (Nat.le_refl _);have fN:¬N'=N:=by omega
  have b1:look iid O'=some (.row 1 (es.set k [.map N])):=hk'.lk hT1 a1 (by omega);have b3:=hk'.lk hT1 a3 (by omega);have b4:(es.set k [AV.map N])[k]? =some [.map N]:=by rw [List.getElem?_set_self hken]
  have hne:∀r∈l.take i,r.id≠l[i].id:=by
   intro r hr;rw [List.mem_take_iff_getElem] at hr;obtain ⟨m,hm,rfl⟩:=hr;have:=List.pairwise_iff_getElem.1 hinc m i (by omega) hi' (by omega);omega
  have hp:=qm7 l[i].id (.int .i64 i) (l.take i) 0 hne;have hml:min i l.length=i:=by omega
  have hsn:ents (l.take (i+1))=ents (l.take i)++[(.int .i64 l[i].id,.int .i64 (i:Nat))]:=by
   rw [List.take_succ_eq_append_getElem hi',qpx,List.length_take,hml]
  rw [show qd3 (l.take i) 0=ents (l.take i) from rfl] at hp;have h5':Mu O' 5 V[k] (l.map Rw.c):=by
   refine h51.fr fun j hj=>?_
   obtain ⟨es0,hl0⟩:=h51.own hj;exact hk' j (hT1.lt hl0) (qau hl0 a2 (by simp))
  obtain ⟨r5',es5,ev,hl5,hle5,ht5⟩:=h5'.nonempty (by simp;omega);have g5:=qe4 hi' ht5;rw [ev] at e20;have f1:=qd1 hT' b1 (Nat.le_refl N');have f3:=qd1 hT' b3 (Nat.le_refl N');simp [c_94_l0,Rw.ce,e0,e1,e20,e21,e22,hi',hl5,g5,u0,b3,b1,hken,hk,b2,hp,hw1];refine ih _ _ ⟨_,_,rfl,Kp.setl hk' (.inr rfl),qaq (hT'.mono (by omega)),by omega,?_,?_,?_,?_,?_,?_⟩
  ·simp [qae,b2,hsn]
  all_goals simp [*]
 ·rintro e _ L hL ⟨O',N',rfl,hk',hT',hN',b2,e0,e1,e20,e21,e22⟩;simp [c_94_l0,e21,e22,hL];refine ⟨O',N',rfl,hk'.lk hT1 a1 (by omega),?_,?_,hT',by omega⟩
  ·rw [b2,List.take_length]
  ·intro j hj hx;rw [hk' j (by omega) (by omega)];exact hk1 j hj hx
 ·refine ⟨O1,N+1,rfl,fun _ _ _=>rfl,hT1,Nat.le_refl _,a2,?_,?_,?_,?_,?_⟩<;>simp
end Go.Av
