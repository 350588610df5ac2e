/-
 store.cloneConfig makes a mutable copy of what it reads, and changes nothing else.
-/
import Derived.Test.YtakklbipljodeaaGreatH3
set_option linter.unusedVariables false
set_option linter.unusedSimpArgs false
set_option linter.constructorNameAsVariable false
namespace Go.Av
set_option maxRecDepth 4000
structure CfgR (O:List (Nat×AO)) (v1 v2 v3 v4:AV) (A:List AV) (c:Config):Prop where
 r:RowsR O v1 A c.rows
 n:Re O 1 v2 (c.nextID.map cI)
 d:Re O 2 v3 (c.defaults.map ActionCall.c)
 g:Im 1 v4 (c.registers.map (cS 1 c32))
structure CfgU (c:Config):Prop where
 t:CfgT c
 u:∀l∈c.rows,l.length<2^39
theorem CfgR.kp {O O':List (Nat×AO)} {v1 v2 v3 v4:AV} {A:List AV} {c:Config} {N:Nat} {X:Nat→Prop} (h:CfgR O v1 v2 v3 v4 A c) (hT:Tail O N) (hk:Kp X N O O') (hx:∀j,X j→look j O=none∨N≤j):CfgR O' v1 v2 v3 v4 A c:=
 ⟨⟨h.r.v.kp hT hk hx,h.r.len,fun k x l ha hl=>(h.r.at_ k x l ha hl).kp hT hk hx⟩,h.n.kp hT hk hx,h.d.kp hT hk hx,h.g⟩
def qu2 (N:Nat) (O:List (Nat×AO)) (c:Config) (r:Option (Rt×AH)):Prop:=
 ∃w1 w2 w3 w4 V O' N',r=some (.val (.agg [w1,w2,w3,w4]),⟨O',N'⟩)∧CfgM O' w1 w2 w3 w4 V c∧(∀j,CfgM.own w1 w2 w3 V j→N≤j)∧Kp (fun _=>False) N O O'∧Tail O' N'∧N≤N'
theorem qio (c:Config) (s:CfgU c) {v1 v2 v3 v4:AV} {A:List AV} {O:List (Nat×AO)} {N:Nat} (hT:Tail O N) (h:CfgR O v1 v2 v3 v4 A c):qu2 N O c (qan Φ f_76 [.agg [v1,v2,v3,v4]] ⟨O,N⟩):=by
 rw [qc6 (fn:=c_76) rfl rfl]
 have t0:=hT N (Nat.le_refl _)
 have t1:=hT (N+1) (by omega)
 have hT1:Tail (O++[(N,AO.row 4 [[v1,v2,v3,v4]]),(N+1,AO.row 4 [[.fslice 1 [],.fslice 1 [],.fslice 2 [],.fslice 1 []]])]) (N+1+1):=by
  rw [qb1,qbh,qbh]
  exact ⟨hT.mono (by omega),by omega,by omega,Tail.nil _⟩
 have hk1:Kp (fun _=>False) N O (O++[(N,AO.row 4 [[v1,v2,v3,v4]]),(N+1,AO.row 4 [[.fslice 1 [],.fslice 1 [],.fslice 2 [],.fslice 1 []]])]):=Kp.appL (fun _ _ _=>rfl) (by simp)
 have hR1:=h.kp hT hk1 (by simp)
 have hc1:=hR1.n.cells
 have c1:=h.r.v.cells
 have c2:=h.n.cells
 have c3:=h.d.cells
 have c4:AV.cells v4=some [v4]:=by rcases h.g with e | e | ⟨t,e⟩<;>subst e<;>rfl
 simp [c_76,t0,t1,qak]
 generalize hO1:O++[(N,AO.row 4 [[v1,v2,v3,v4]]),(N+1,AO.row 4 [[.fslice 1 [],.fslice 1 [],.fslice 2 [],.fslice 1 []]])]=O1 at hT1 hk1 hR1 ⊢
 have lb1:look N O1=some (.row 4 [[v1,v2,v3,v4]]):=by rw [← hO1];simp [qak,t0]
 have lb2:look (N+1) O1=some (.row 4 [[.fslice 1 [],.fslice 1 [],.fslice 2 [],.fslice 1 []]]):=by rw [← hO1];simp [qak,t1]
 obtain ⟨w2,o2,e2,m2,fw2⟩:=qaah hT1 hR1.n s.t.nl
 rw [e2]
 have n1:¬N+1+1=N:=by omega
 have t2:=hT1 (N+1+1) (Nat.le_refl _)
 have t3:=hT1 (N+1+1+1) (by omega)
 have m2c:=m2.cells
 have l1:=h.r.v.len
 rw [List.length_map,h.r.len] at l1
 simp [t2,t3,qak,lb1,lb2,m2c,l1,-AV.cells,-lenOf]
 have hT2:Tail (O1++[(N+1+1,o2),(N+1+1+1,AO.row 4 [[.fslice 1 [],w2,.fslice 2 [],.fslice 1 []]])]) (N+1+1+1+1):=by
  rw [qb1,qbh,qbh]
  exact ⟨hT1.mono (by omega),by omega,by omega,Tail.nil _⟩
 have hk2:Kp (fun _=>False) (N+1+1) O1 (O1++[(N+1+1,o2),(N+1+1+1,AO.row 4 [[.fslice 1 [],w2,.fslice 2 [],.fslice 1 []]])]):=Kp.appL (fun _ _ _=>rfl) (by simp)
 have hR2:=hR1.kp hT1 hk2 (by simp)
 have lb3:look (N+1+1+1) (O1++[(N+1+1,o2),(N+1+1+1,AO.row 4 [[.fslice 1 [],w2,.fslice 2 [],.fslice 1 []]])])=some (.row 4 [[.fslice 1 [],w2,.fslice 2 [],.fslice 1 []]]):=by
  have:¬N+1+1=N+1+1+1:=by omega
  rw [qak,t3];simp
 have m2':Mu (O1++[(N+1+1,o2),(N+1+1+1,AO.row 4 [[.fslice 1 [],w2,.fslice 2 [],.fslice 1 []]])]) 1 w2 (c.nextID.map cI):=by
  refine m2.fr fun j hj=>?_
  obtain ⟨es0,hl⟩:=m2.own hj
  have hlt:=(hT1.app1 (o:=o2) (Nat.le_refl _)).lt hl
  have:¬N+1+1+1=j:=by omega
  rw [show O1++[(N+1+1,o2),(N+1+1+1,AO.row 4 [[.fslice 1 [],w2,.fslice 2 [],.fslice 1 []]])]=(O1++[(N+1+1,o2)])++[(N+1+1+1,AO.row 4 [[.fslice 1 [],w2,.fslice 2 [],.fslice 1 []]])] by simp]
  rw [qak (b:=[(N+1+1+1,_)])]
  simp [this]
 have lc1:look N (O1++[(N+1+1,o2),(N+1+1+1,AO.row 4 [[.fslice 1 [],w2,.fslice 2 [],.fslice 1 []]])])=some (.row 4 [[v1,v2,v3,v4]]):=by rw [qak,lb1];rfl
 have lc2:look (N+1) (O1++[(N+1+1,o2),(N+1+1+1,AO.row 4 [[.fslice 1 [],w2,.fslice 2 [],.fslice 1 []]])])=some (.row 4 [[.fslice 1 [],.fslice 1 [],.fslice 2 [],.fslice 1 []]]):=by rw [qak,lb2];rfl
 have hk12:=hk1.trans hk2 (by omega)
 generalize O1++[(N+1+1,o2),(N+1+1+1,AO.row 4 [[.fslice 1 [],w2,.fslice 2 [],.fslice 1 []]])]=O2 at hT2 hR2 lb3 m2' lc1 lc2 hk12 ⊢
 refine qaaf c.rows s.t.rl (fun l hl=>⟨s.u l hl,(s.t.rs l hl).2⟩) v1 w2 A (N+1+1+1) _ _ _ O2 _ hT2 hR2.r lb3 ?_ ?_ ?_ ?_ ?_
 ·simp
 ·simp
 ·simp
 ·simp
 intro e3 O3 N3 w1 V mw1 fw1 hV hk3 hT3 hN3 lb3' g1 g2 g3
 simp at g1 g2 g3
 have hx:∀j,j=N+1+1+1→look j O1=none∨N+1+1≤j:=fun j hj=> .inr (by omega)
 have ld1:look N O3=some (.row 4 [[v1,v2,v3,v4]]):=hk3.lk hT2 lc1 (by omega)
 have ld2:look (N+1) O3=some (.row 4 [[.fslice 1 [],.fslice 1 [],.fslice 2 [],.fslice 1 []]]):=hk3.lk hT2 lc2 (by omega)
 have hk13:Kp (fun _=>False) N O O3:=fun j hj _=>(hk3 j (by omega) (by omega)).trans (hk12 j hj (by simp))
 have hR3:=h.kp hT hk13 (by simp)
 have m23:Mu O3 1 w2 (c.nextID.map cI):=by
  refine m2'.fr fun j hj=>?_
  obtain ⟨es0,hl⟩:=m2'.own hj
  exact hk3 j (hT2.lt hl) (qbn hl lb3 (by simp))
 have l3:=h.d.len
 simp [c_76_k8,g1,ld1,l3,-lenOf]
 refine qaad c.defaults s.t.dl (fun d hd=>(s.t.ds d hd).1) v3 w1 w2 (N+1+1+1) _ _ _ O3 N3 hT3 hR3.d lb3' ?_ ?_ ?_ ?_ ?_
 ·simp [g3]
 ·simp
 ·simp
 ·simp
 intro e4 O4 N4 w3 mw3 fw3 hk4 hT4 hN4 lb4 f1 f2 f3
 simp at f1 f2 f3
 have le1:look N O4=some (.row 4 [[v1,v2,v3,v4]]):=hk4.lk hT3 ld1 (by omega)
 have le2:look (N+1) O4=some (.row 4 [[.fslice 1 [],.fslice 1 [],.fslice 2 [],.fslice 1 []]]):=hk4.lk hT3 ld2 (by omega)
 have m24:Mu O4 1 w2 (c.nextID.map cI):=by
  refine m23.fr fun j hj=>?_
  obtain ⟨es0,hl⟩:=m23.own hj
  exact hk4 j (hT3.lt hl) (qbn hl lb3' (by simp))
 have m14:Mu O4 1 w1 (V.map fun x=>[x]):=by
  refine mw1.fr fun j hj=>?_
  obtain ⟨es0,hl⟩:=mw1.own hj
  exact hk4 j (hT3.lt hl) (qbn hl lb3' (by simp))
 have hV4:RowsW O4 (N+1+1+1+1) V c.rows:=hV.fr fun j es0 hl=>hk4 j (hT3.lt hl) (qbn hl lb3' (by simp))
 have l4:lenOf v4=some c.registers.length:=by have:=h.g.len;rw [List.length_map] at this;exact this
 simp [c_76_k7,f1,g1,le1,l4,-lenOf]
 refine qaae c.registers s.t.gl (fun l hl=>(s.t.gs l hl).1) v4 w1 w2 w3 (N+1+1+1) _ _ _ O4 N4 hT4 h.g lb4 ?_ ?_ ?_ ?_ ?_
 ·simp [f3,g3]
 ·simp
 ·simp
 ·simp
 intro e5 O5 N5 w4 mw4 hk5 hT5 hN5 lb5 d1 d2 d3
 simp at d1 d2 d3
 have lf2:look (N+1) O5=some (.row 4 [[.fslice 1 [],.fslice 1 [],.fslice 2 [],.fslice 1 []]]):=hk5.lk hT4 le2 (by omega)
 simp [c_76_k6,d2,d3,f2,f3,g2,g3,lb5,lf2,qal]
 refine ⟨w1,w2,w3,w4,V,_,N5,rfl,?_,?_,?_,qbi hT5,by omega⟩
 ·have keep:∀j z es0,z≠4→look j O4=some (.row z es0)→look j (setl (N+1) (.row 4 [[w1,w2,w3,w4]]) O5)=look j O4:=by
   intro j z es0 hz hl
   have h5:=hk5 j (hT4.lt hl) (qbn hl lb4 (by simp [hz]))
   have hl5:look j O5=some (.row z es0):=by rw [h5,hl]
   rw [qal,if_neg (qbn hl5 lf2 (by simp [hz])),h5]
  refine ⟨m14.fr fun j hj=>?_,hV4.len,?_,m24.fr fun j hj=>?_,mw3.fr fun j hj=>?_,mw4,?_,hV4.inj,hV4.na⟩
  ·obtain ⟨es0,hl⟩:=m14.own hj
   exact keep j 1 es0 (by decide) hl
  ·intro k v l hv hl
   refine (hV4.mu k v l hv hl).fr fun j hj=>?_
   obtain ⟨es0,hl⟩:=(hV4.mu k v l hv hl).own hj
   exact keep j 5 es0 (by decide) hl
  ·obtain ⟨es0,hl⟩:=m24.own hj
   exact keep j 1 es0 (by decide) hl
  ·obtain ⟨es0,hl⟩:=mw3.own hj
   exact keep j 2 es0 (by decide) hl
  ·intro i h1 h2
   have:=fw1 i h1
   obtain ⟨es0,hl⟩:=m2'.own h2
   have:=hT2.lt hl
   omega
 ·intro j hj
  rcases hj with hj | hj | hj | ⟨v,hv,hj⟩
  ·have:=fw1 j hj;omega
  ·have:=fw2 j hj;omega
  ·have:=fw3 j hj;omega
  ·have:=hV4.fresh v hv j hj;omega
 ·intro j hj _
  rw [qal,if_neg (by omega),hk5 j (by omega) (by omega),hk4 j (by omega) (by omega),hk3 j (by omega) (by omega)]
  exact hk12 j hj (by simp)
end Go.Av
namespace Go.Av
set_option maxRecDepth 4000
def qgk:List Rw→Nat→List (AV×AV)
 | [],_=>[]
 | r::l,n=>(.int .i64 r.id,.int .i64 n)::qgk l (n+1)
def ents (l:List Rw):List (AV×AV):=qgk l 0
theorem qmn (r:Rw):∀(l:List Rw) (n:Nat),qgk (l++[r]) n=qgk l n++[(.int .i64 r.id,.int .i64 ((n+l.length:Nat):Int))]
 | [],n=>by simp [qgk]
 | a::l,n=>by
  have ih:=qmn r l (n+1)
  simp only [List.cons_append,qgk,ih,List.length_cons]
  rw [show n+1+l.length=n+(l.length+1) by omega]
theorem qvn (l:List Rw) (r:Rw):ents (l++[r])=ents l++[(.int .i64 r.id,.int .i64 (l.length:Nat))]:=by
 unfold ents
 rw [qmn,Nat.zero_add]
theorem qrc (x:Int) (v:AV):∀(l:List Rw) (n:Nat),(∀r∈l,r.id≠x)→putA .i (.int .i64 x) v (qgk l n)=some (qgk l n++[(.int .i64 x,v)])
 | [],n,_=>rfl
 | r::l,n,h=>by
  have ih:=qrc x v l (n+1) fun r hr=>h r (by simp [hr])
  have h1:¬x=r.id:=fun e=>h r (by simp) e.symm
  simp only [qgk,putA,eqKd,if_true]
  have:(x == r.id)=false:=by simpa using h1
  rw [this]
  simp only [ih,Option.map_some,List.cons_append]
def qu4 (N:Nat) (O:List (Nat×AO)) (iid k:Nat) (es:List (List AV)) (l:List Rw) (r:Option (Rt×AH)):Prop:=
 ∃O' N',r=some (.val (.tup []),⟨O',N'⟩)∧look iid O'=some (.row 1 (es.set k [.map N]))∧look N O'=some (.map (ents l))∧Kp (fun j=>j=iid) N O O'∧Tail O' N'∧N<N'
theorem quj {O:List (Nat×AO)} {N sid iid k:Nat} {v1 v2 v3 v4:AV} {R:List AV} {V:List AV} {l:List Rw} {es:List (List AV)} {n:Nat} (hT:Tail O N) (hl:l.length<2^39) (hk:k<n) (hVk:k<V.length)
  (hs:look sid O=some (.row 15 [v1::v2::v3::v4::(R++[.row iid 1 0 n,.bool true])])) (hR:R.length=9) (hi:look iid O=some (.row 1 es)) (hn:n≤es.length) (hes:∃x,es[k]? =some [x])
  (h1:Mu O 1 v1 (V.map fun x=>[x])) (h5:Mu O 5 V[k] (l.map Rw.c)) (hri:vid v1≠some iid) (hinc:l.Pairwise fun a b=>a.id<b.id) (hk39:k<2^40):
  qu4 N O iid k es l (qan Φ f_94 [.ptr sid 15 0 0,.int .i64 k] ⟨O,N⟩):=by
 rw [qc6 (fn:=c_94) rfl rfl]
 obtain ⟨r0,r1,r2,r3,r4,r5,r6,r7,r8,rfl⟩:∃r0 r1 r2 r3 r4 r5 r6 r7 r8,R=[r0,r1,r2,r3,r4,r5,r6,r7,r8]:=by
  match R,hR with
  | [r0,r1,r2,r3,r4,r5,r6,r7,r8],_=>exact ⟨_,_,_,_,_,_,_,_,_,rfl⟩
 obtain ⟨x,hx⟩:=hes
 have t0:=hT N (Nat.le_refl _)
 have hsi:=qbn hs hi (by simp)
 have fi:=qce hT hi (Nat.le_refl N)
 have fs:=qce hT hs (Nat.le_refl N)
 obtain ⟨rid,es1,e1,hl1,hle1,ht1⟩:=h1.nonempty (by simp;omega)
 subst e1
 have hrid:¬rid=iid:=fun e=>hri (by rw [e];rfl)
 have fr:=qce hT hl1 (Nat.le_refl N)
 have g1:es1[k]? =some [V[k]]:=qk7 hVk ht1
 have hkn:k<V.length:=hVk
 have hken:k<es.length:=by omega
 have h5l:=h5.len
 rw [List.length_map] at h5l
 simp [c_94,hs,hi,t0,qak,hk,hx,qal,hsi,fi,fs,hl1,hrid,g1,hVk,h5l,-lenOf]
 have hT1:Tail (setl iid (AO.row 1 (es.set k [.map N])) (O++[(N,AO.map [])])) (N+1):=qbi (hT.app1 (Nat.le_refl _))
 have hk1:Kp (fun j=>j=iid) N O (setl iid (AO.row 1 (es.set k [.map N])) (O++[(N,AO.map [])])):=Kp.setl (Kp.app (fun _ _ _=>rfl) (Nat.le_refl _)) (.inr rfl)
 have a1:look iid (setl iid (AO.row 1 (es.set k [.map N])) (O++[(N,AO.map [])]))=some (.row 1 (es.set k [.map N])):=by simp [qal,qak,hi]
 have a2:look N (setl iid (AO.row 1 (es.set k [.map N])) (O++[(N,AO.map [])]))=some (.map []):=by simp [qal,qak,fi,t0]
 generalize setl iid (AO.row 1 (es.set k [.map N])) (O++[(N,AO.map [])])=O1 at hT1 hk1 a1 a2 ⊢
 have a3:look sid O1=some (.row 15 [AV.row rid 1 0 V.length::v2::v3::v4::([r0,r1,r2,r3,r4,r5,r6,r7,r8]++[.row iid 1 0 n,.bool true])]):=by
  rw [hk1 sid (hT.lt hs) hsi,hs];simp
 have h51:Mu O1 5 V[k] (l.map Rw.c):=by
  refine h5.fr fun j hj=>?_
  obtain ⟨es0,hl0⟩:=h5.own hj
  exact hk1 j (hT.lt hl0) (qbn hl0 hi (by simp))
 refine qhp l.length (fun i e h=>∃O' N',h=⟨O',N'⟩∧Kp (fun j=>j=N) (N+1) O1 O'∧Tail O' N'∧N+1≤N'∧look N O'=some (.map (ents (l.take i)))∧look 0 e=some (.ptr sid 15 0 0)∧look 1 e=some (.int .i64 k)∧look 20 e=some V[k]∧look 21 e=some (.int .i64 l.length)∧look 22 e=some (.int .i64 i)) (qu4 N O iid k es l) ?_ ?_ 0 _ _ (Nat.zero_le _) ?_
 ·rintro i e _ L hi' hL ⟨O',N',rfl,hk',hT',hN',b2,e0,e1,e20,e21,e22⟩ ih
  have hw1:IntKind.wrap .i64 ((i:Int)+1)=((i+1:Nat):Int):=qad (by omega) (by omega)
  have u0:=hT' N' (Nat.le_refl _)
  have fN:¬N'=N:=by omega
  have b1:look iid O'=some (.row 1 (es.set k [.map N])):=hk'.lk hT1 a1 (by omega)
  have b3:=hk'.lk hT1 a3 (by omega)
  have b4:(es.set k [AV.map N])[k]? =some [.map N]:=by rw [List.getElem?_set_self hken]
  have hne:∀r∈l.take i,r.id≠l[i].id:=by
   intro r hr
   rw [List.mem_take_iff_getElem] at hr
   obtain ⟨m,hm,rfl⟩:=hr
   have:=List.pairwise_iff_getElem.1 hinc m i (by omega) hi' (by omega)
   omega
  have hp:=qrc l[i].id (.int .i64 i) (l.take i) 0 hne
  have hml:min i l.length=i:=by omega
  have hsn:ents (l.take (i+1))=ents (l.take i)++[(.int .i64 l[i].id,.int .i64 (i:Nat))]:=by
   rw [List.take_succ_eq_append_getElem hi',qvn,List.length_take,hml]
  rw [show qgk (l.take i) 0=ents (l.take i) from rfl] at hp
  have h5':Mu O' 5 V[k] (l.map Rw.c):=by
   refine h51.fr fun j hj=>?_
   obtain ⟨es0,hl0⟩:=h51.own hj
   exact hk' j (hT1.lt hl0) (qbn hl0 a2 (by simp))
  obtain ⟨r5',es5,ev,hl5,hle5,ht5⟩:=h5'.nonempty (by simp;omega)
  have g5:=qk7 hi' ht5
  rw [ev] at e20
  have f1:=qce hT' b1 (Nat.le_refl N')
  have f3:=qce hT' b3 (Nat.le_refl N')
  simp [c_94_l0,Rw.ce,e0,e1,e20,e21,e22,hi',hL,hl5,g5,u0,qak,b3,b1,b4,hken,hkn,hk,b2,hp,hw1]
  refine ih _ _ ⟨_,_,rfl,Kp.setl hk' (.inr rfl),qbi (hT'.mono (by omega)),by omega,?_,?_,?_,?_,?_,?_⟩
  ·simp [qal,b2,hsn]
  all_goals simp [*]
 ·rintro e _ L hL ⟨O',N',rfl,hk',hT',hN',b2,e0,e1,e20,e21,e22⟩
  simp [c_94_l0,e21,e22,hL]
  refine ⟨O',N',rfl,hk'.lk hT1 a1 (by omega),?_,?_,hT',by omega⟩
  ·rw [b2,List.take_length]
  ·intro j hj hx
   rw [hk' j (by omega) (by omega)]
   exact hk1 j hj hx
 ·refine ⟨O1,N+1,rfl,fun _ _ _=>rfl,hT1,Nat.le_refl _,a2,?_,?_,?_,?_,?_⟩<;>simp
end Go.Av
namespace Go.Av
set_option maxRecDepth 4000
structure SV where
 s:Nat
 v1:AV
 v2:AV
 v3:AV
 v4:AV
 vi:AV
 V:List AV
 M:List Nat
def SV.cells (S:SV) (p:Prg):List AV:=S.v1::S.v2::S.v3::S.v4::(Prg.c p++[S.vi,.bool true])
structure IdxM (O:List (Nat×AO)) (vi:AV) (M:List Nat) (R:List (List Rw)):Prop where
 i:Mu O 1 vi (M.map fun m=>[.map m])
 len:M.length=R.length
 m:∀(k m:Nat) (l:List Rw),M[k]? =some m→R[k]? =some l→look m O=some (.map (ents l))
 nd:∀(k k' m:Nat),M[k]? =some m→M[k']? =some m→k=k'
structure StoreM (O:List (Nat×AO)) (S:SV) (p:Prg) (c:Config):Prop where
 s:look S.s O=some (.row 15 [S.cells p])
 cm:CfgM O S.v1 S.v2 S.v3 S.v4 S.V c
 x:IdxM O S.vi S.M c.rows
 ri:∀i,vid S.v1=some i→vid S.vi=some i→False
 ni:∀i,vid S.v2=some i→vid S.vi=some i→False
def SV.own (S:SV) (j:Nat):Prop:=j=S.s∨CfgM.own S.v1 S.v2 S.v3 S.V j∨vid S.vi=some j∨j∈S.M
theorem IdxM.fr {O O':List (Nat×AO)} {vi:AV} {M:List Nat} {R:List (List Rw)} (h:IdxM O vi M R) (hf:∀j,vid vi=some j∨j∈M→look j O'=look j O):IdxM O' vi M R:=
 ⟨h.i.fr fun j hj=>hf j (.inl hj),h.len,fun k m l hm hl=>by rw [hf m (.inr (List.mem_of_getElem? hm))];exact h.m k m l hm hl,h.nd⟩
theorem StoreM.fr {O O':List (Nat×AO)} {S:SV} {p:Prg} {c:Config} (h:StoreM O S p c) (hf:∀j,S.own j→look j O'=look j O):StoreM O' S p c:=
 ⟨by rw [hf _ (.inl rfl)];exact h.s,h.cm.fr fun j hj=>hf j (.inr (.inl hj)),h.x.fr fun j hj=>hf j (.inr (.inr hj)),h.ri,h.ni⟩
theorem CfgM.own_lk {O:List (Nat×AO)} {v1 v2 v3 v4:AV} {V:List AV} {c:Config} (h:CfgM O v1 v2 v3 v4 V c) {j:Nat} (hj:CfgM.own v1 v2 v3 V j):∃z es,look j O=some (.row z es)∧(z=1∨z=2∨z=5):=by
 rcases hj with hj | hj | hj | ⟨v,hv,hj⟩
 ·obtain ⟨es,hl⟩:=h.r.own hj;exact ⟨1,es,hl,.inl rfl⟩
 ·obtain ⟨es,hl⟩:=h.n.own hj;exact ⟨1,es,hl,.inl rfl⟩
 ·obtain ⟨es,hl⟩:=h.d.own hj;exact ⟨2,es,hl,.inr (.inl rfl)⟩
 ·obtain ⟨k,hk,rfl⟩:=List.mem_iff_getElem.1 hv
  have hk2:k<c.rows.length:=by rw [← h.rl];exact hk
  obtain ⟨es,hl⟩:=(h.rv k _ _ (List.getElem?_eq_getElem hk) (List.getElem?_eq_getElem hk2)).own hj
  exact ⟨5,es,hl,.inr (.inr rfl)⟩
theorem IdxM.own_lk {O:List (Nat×AO)} {vi:AV} {M:List Nat} {R:List (List Rw)} (h:IdxM O vi M R) {j:Nat} (hj:j∈M):∃es,look j O=some (.map es):=by
 obtain ⟨k,hk,rfl⟩:=List.mem_iff_getElem.1 hj
 have hk2:k<R.length:=by rw [← h.len];exact hk
 exact ⟨_,h.m k _ _ (List.getElem?_eq_getElem hk) (List.getElem?_eq_getElem hk2)⟩
theorem StoreM.own_lk {O:List (Nat×AO)} {S:SV} {p:Prg} {c:Config} (h:StoreM O S p c) {j:Nat} (hj:S.own j):∃x,look j O=some x∧x≠ .res:=by
 rcases hj with rfl | hj | hj | hj
 ·exact ⟨_,h.s,by simp⟩
 ·obtain ⟨z,es,hl,_⟩:=h.cm.own_lk hj;exact ⟨_,hl,by simp⟩
 ·obtain ⟨es,hl⟩:=h.x.i.own hj;exact ⟨_,hl,by simp⟩
 ·obtain ⟨es,hl⟩:=h.x.own_lk hj;exact ⟨_,hl,by simp⟩
theorem StoreM.kp {O O':List (Nat×AO)} {N:Nat} {X:Nat→Prop} {S:SV} {p:Prg} {c:Config} (h:StoreM O S p c) (hT:Tail O N) (hk:Kp X N O O') (hx:∀j,S.own j→¬X j):StoreM O' S p c:=by
 refine h.fr fun j hj=>?_
 obtain ⟨x,hl,_⟩:=h.own_lk hj
 exact hk j (hT.lt hl) (hx j hj)
theorem CfgM.re {O:List (Nat×AO)} {v1 v2 v3 v4:AV} {V:List AV} {c:Config} (h:CfgM O v1 v2 v3 v4 V c):CfgR O v1 v2 v3 v4 V c:=
 ⟨⟨h.r.re,h.rl,fun k x l hx hl=>(h.rv k x l hx hl).re⟩,h.n.re,h.d.re,by rcases h.g with e | ⟨t,e⟩;exact .inr (.inl e);exact .inr (.inr ⟨t,e⟩)⟩
theorem CfgR.imm {O:List (Nat×AO)} (c:Config):CfgR O (.slice 1 (c.rows.map (cS 5 Rw.c))) (.slice 1 (c.nextID.map cI)) (.slice 2 (c.defaults.map ActionCall.c)) (.slice 1 (c.registers.map (cS 1 c32))) (c.rows.map fun l=> .slice 5 (l.map Rw.c)) c:=by
 refine ⟨⟨?_,by simp,?_⟩,.sl _,.sl _,.inl rfl⟩
 ·have:(c.rows.map fun l=>AV.slice 5 (l.map Rw.c)).map (fun x=>[x])=c.rows.map (cS 5 Rw.c):=by
   rw [List.map_map];rfl
  rw [this];exact .sl _
 ·intro k x l hx hl
  rw [List.getElem?_map,hl] at hx
  cases hx
  exact .sl _
def Rs (O:List (Nat×AO)) (j:Nat):Prop:=look j O=some .res
def qu3 (N:Nat) (O:List (Nat×AO)) (p:Prg) (c:Config) (r:Option (Rt×AH)):Prop:=
 ∃S O' N',r=some (.val (.ptr S.s 15 0 0),⟨O',N'⟩)∧StoreM O' S p c∧(∀j,S.own j→N≤j)∧Kp (Rs O) N O O'∧Tail O' N'∧N≤N'
theorem qs7 (p:Prg) (op:p.Ok qbo) (c:Config) (u:CfgU c) (hinc:∀l∈c.rows,l.Pairwise fun a b=>a.id<b.id) {v1 v2 v3 v4:AV} {A:List AV} {O:List (Nat×AO)} {N:Nat} (hT:Tail O N) (h:CfgR O v1 v2 v3 v4 A c):
  qu3 N O p c (qan Φ f_66 [.agg (Prg.c p),.agg [v1,v2,v3,v4]] ⟨O,N⟩):=by
 rw [qc6 (fn:=c_66) rfl rfl]
 have hcl:=qwh p op
 simp only [Prg.e] at hcl
 have t0:=hT N (Nat.le_refl _)
 have t13:=hT (N+1+12) (by omega)
 have n13:¬N=N+1+12:=by omega
 simp [c_66,Prg.e,t0,t13,qak,n13]
 have hT1:Tail (O++[(N,AO.row 4 [[v1,v2,v3,v4]]),(N+1+12,AO.res)]) (N+1+12+1):=by
  rw [qb1,qbh,qbh]
  exact ⟨hT.mono (by omega),by omega,by omega,Tail.nil _⟩
 have hk1:Kp (fun _=>False) N O (O++[(N,AO.row 4 [[v1,v2,v3,v4]]),(N+1+12,AO.res)]):=Kp.appL (fun _ _ _=>rfl) (by simp;omega)
 have hres:look (N+1+12) (O++[(N,AO.row 4 [[v1,v2,v3,v4]]),(N+1+12,AO.res)])=some .res:=by simp [qak,t13,n13]
 obtain ⟨w1,w2,w3,w4,V,O2,N2,e2,m2,f2,hk2,hT2,hN2⟩:=qio c u hT1 (h.kp hT hk1 (by simp))
 have hres2:look (N+1+12) O2=some .res:=hk2.lk hT1 hres (by simp)
 rw [e2]
 have hs1:∀cs,look (N+1+12) (qa8 (setl (N+1+12) (.row 15 cs) O2))=some (.row 15 cs):=fun cs=>by
  rw [qho (by simp [qal,hres2])];simp [qal,hres2]
 have hs2:∀cs,Tail (qa8 (setl (N+1+12) (.row 15 cs) O2)) N2:=fun cs=>qr3 (qbi hT2)
 have hs3:∀cs,look N2 (qa8 (setl (N+1+12) (.row 15 cs) O2))=none:=fun cs=>hs2 cs _ (Nat.le_refl _)
 have hs4:∀cs z es j,z≠15→look j O2=some (.row z es)→look j (qa8 (setl (N+1+12) (.row 15 cs) O2))=some (.row z es):=fun cs z es j hz hl=>by
  have hne:j≠N+1+12:=qbn hl hres2 (by simp)
  rw [qho (by simp [qal,hne,hl])];simp [qal,hne,hl]
 have hs5:∀cs,Kp (Rs O) N O (qa8 (setl (N+1+12) (.row 15 cs) O2)):=fun cs j hj hx=>by
  have hne:j≠N+1+12:=by omega
  have h2:look j O2=look j O:=(hk2 j (by omega) (by simp)).trans (hk1 j hj (by simp))
  rw [qho (by rw [qal,if_neg hne,h2];exact hx),qal,if_neg hne,h2]
 have n2:¬N2=N+1+12:=by omega
 have l1:=m2.r.len
 rw [List.length_map,m2.rl] at l1
 have hrl:=u.t.rl
 have b1:(c.rows.length:Int)*8≤140737488355328:=by omega
 have b2:c.rows.length<4611686018427387904:=by omega
 have w1c:=m2.r.cells
 simp [hcl,hres2,hs1,hs3,qak,qal,l1,n2,b1,b2,w1c,-lenOf,-AV.cells]
 generalize hO3:setl (N+1+12) _ (_++[(N2,AO.row 1 (List.replicate c.rows.length [AV.nilmap]))])=O3
 have hT3:Tail O3 (N2+1):=by rw [← hO3];exact qbi ((hs2 _).app1 (Nat.le_refl _))
 have hk3:Kp (Rs O) N O O3:=by rw [← hO3];exact Kp.setl (Kp.app (hs5 _) (by omega)) (.inl (by omega))
 have ls:look (N+1+12) O3=some (.row 15 [w1::w2::w3::w4::(Prg.c p++[.row N2 1 0 c.rows.length,.bool true])]):=by
  rw [← hO3,qal,if_pos rfl,qak,hs1,Prg.e];rfl
 have li:look N2 O3=some (.row 1 (List.replicate c.rows.length [AV.nilmap])):=by
  rw [← hO3,qal,if_neg n2,qak,hs3];simp
 have lo:∀z es j,z≠15→look j O2=some (.row z es)→look j O3=look j O2:=fun z es j hz hl=>by
  have hne:j≠N+1+12:=qbn hl hres2 (by simp)
  rw [← hO3,qal,if_neg hne,qak,hs4 _ z es j hz hl,hl];rfl
 have m3:CfgM O3 w1 w2 w3 w4 V c:=m2.fr fun j hj=>by
  obtain ⟨z,es,hl,hz⟩:=m2.own_lk hj
  exact lo z es j (by omega) hl
 clear hO3
 have fo:∀j,CfgM.own w1 w2 w3 V j→j≠N2:=fun j hj=>by
  obtain ⟨z,es,hl,hz⟩:=m2.own_lk hj
  have:=hT2.lt hl;omega
 refine qhp c.rows.length (fun i e h=>∃(O':List (Nat×AO)) (N':Nat) (M:List Nat),h=⟨O',N'⟩∧Kp (fun j=>j=N2) (N2+1) O3 O'∧Tail O' N'∧N2+1≤N'∧look N2 O'=some (.row 1 (M.map (fun m=>[AV.map m])++List.replicate (c.rows.length - i) [AV.nilmap]))∧M.length=i∧
   (∀(k m:Nat) (l:List Rw),M[k]? =some m→c.rows[k]? =some l→look m O'=some (.map (ents l)))∧(∀m∈M,N2+1≤m)∧(∀(k k' m:Nat),M[k]? =some m→M[k']? =some m→k=k')∧
   look 5 e=some (.ptr (N+1+12) 15 0 0)∧look 28 e=some (.int .i64 c.rows.length)∧look 29 e=some (.int .i64 i)) (qu3 N O p c) ?_ ?_ 0 _ _ (Nat.zero_le _) ?_
 ·rintro i e _ L hi hL ⟨O',N',M,rfl,hk',hT',hN',ln,hMl,hMe,hMf,hMn,e5,e28,e29⟩ ih
  have hw:IntKind.wrap .i64 ((i:Int)+1)=((i+1:Nat):Int):=qad (by omega) (by omega)
  have hVi:i<V.length:=by rw [m2.rl];exact hi
  have ls':=hk'.lk hT3 ls (by omega)
  have m3':CfgM O' w1 w2 w3 w4 V c:=m3.fr fun j hj=>by
   obtain ⟨z,es,hl,hz⟩:=m3.own_lk hj
   exact hk' j (hT3.lt hl) (fo j hj)
  have hes:(M.map (fun m=>[AV.map m])++List.replicate (c.rows.length - i) [AV.nilmap]).length=c.rows.length:=by simp [hMl];omega
  have hr:=quj (k:=i) (n:=c.rows.length) (V:=V) (l:=c.rows[i]) (R:=Prg.c p) hT' (u.u _ (List.getElem_mem hi)) hi hVi ls' (by simp) ln (Nat.le_of_eq hes.symm) ?_ m3'.r (m3'.rv i _ _ (List.getElem?_eq_getElem hVi) (List.getElem?_eq_getElem hi)) ?_ (hinc _ (List.getElem_mem hi)) (by omega)
  rotate_left
  ·refine ⟨.nilmap,?_⟩
   rw [List.getElem?_append_right (by simp;omega),List.getElem?_replicate,if_pos (by simp [hMl];omega)]
  ·intro hc
   exact fo N2 (.inl hc) rfl
  obtain ⟨O4,N4,e4,r1,r2,hk4,hT4,hN4⟩:=hr
  simp [c_66_l0,e5,e28,e29,hi,hL,e4,hw]
  refine ih _ _ ⟨O4,N4,M++[N'],rfl,?_,hT4,by omega,?_,by simp [hMl],?_,?_,?_,?_,?_,?_⟩
  ·intro j hj hx
   rw [hk4 j (by omega) hx,hk' j hj hx]
  ·rw [r1]
   congr 1
   have hd:c.rows.length - i=(c.rows.length - (i+1))+1:=by omega
   rw [hd,List.replicate_succ,List.set_append_right _ _ (by simp [hMl])]
   simp [hMl]
  ·intro k m l hm hl
   by_cases hk:k<M.length
   ·rw [List.getElem?_append_left hk] at hm
    have h0:=hMe k m l hm hl
    exact hk4.lk hT' h0 (by have:=hMf m (List.mem_of_getElem? hm);omega)
   ·have hb:=(List.getElem?_eq_some_iff.1 hm).1
    simp at hb
    have hk:k=M.length:=by omega
    subst hk
    rw [List.getElem?_append_right (by omega)] at hm
    simp at hm
    subst hm
    rw [hMl,List.getElem?_eq_getElem hi] at hl
    cases hl
    exact r2
  ·intro m hm
   rcases List.mem_append.1 hm with hm | hm
   ·exact hMf m hm
   ·simp at hm;omega
  ·intro k k' m hm hm'
   have hb:=(List.getElem?_eq_some_iff.1 hm).1
   have hb':=(List.getElem?_eq_some_iff.1 hm').1
   simp at hb hb'
   have hlt:∀m,m∈M→m<N':=fun m hm=>by
    obtain ⟨q,hq,rfl⟩:=List.mem_iff_getElem.1 hm
    exact hT'.lt (hMe q _ _ (List.getElem?_eq_getElem hq) (List.getElem?_eq_getElem (by omega)))
   by_cases hk:k<M.length
   ·by_cases hk':k'<M.length
    ·rw [List.getElem?_append_left hk] at hm
     rw [List.getElem?_append_left hk'] at hm'
     exact hMn k k' m hm hm'
    ·rw [List.getElem?_append_left hk] at hm
     rw [List.getElem?_append_right (by omega),show k' - M.length=0 by omega] at hm'
     simp at hm'
     have:=hlt m (List.mem_of_getElem? hm)
     omega
   ·by_cases hk':k'<M.length
    ·rw [List.getElem?_append_left hk'] at hm'
     rw [List.getElem?_append_right (by omega),show k - M.length=0 by omega] at hm
     simp at hm
     have:=hlt m (List.mem_of_getElem? hm')
     omega
    ·omega
  ·simp [e5]
  ·simp [e28]
  ·simp
 ·rintro e _ L hL ⟨O',N',M,rfl,hk',hT',hN',ln,hMl,hMe,hMf,hMn,e5,e28,e29⟩
  simp [c_66_l0,c_66_k1,e5,e28,e29,hL]
  have ls':=hk'.lk hT3 ls (by omega)
  have m3':CfgM O' w1 w2 w3 w4 V c:=m3.fr fun j hj=>by
   obtain ⟨z,es,hl,hz⟩:=m3.own_lk hj
   exact hk' j (hT3.lt hl) (fo j hj)
  refine ⟨⟨N+1+12,w1,w2,w3,w4,.row N2 1 0 c.rows.length,V,M⟩,O',N',rfl,⟨ls',m3',⟨?_,hMl,hMe,hMn⟩,?_,?_⟩,?_,?_,hT',by omega⟩
  ·rw [Nat.sub_self,List.replicate_zero,List.append_nil] at ln
   exact .row N2 _ _ _ (by simp [hMl]) ln (Nat.le_refl _) (by rw [List.take_length])
  ·intro j h1 h2;cases h2;exact fo _ (.inl h1) rfl
  ·intro j h1 h2;cases h2;exact fo _ (.inr (.inl h1)) rfl
  ·intro j hj
   rcases hj with rfl | hj | hj | hj
   ·simp only;omega
   ·have:=f2 j hj;omega
   ·cases hj;omega
   ·have:=hMf j hj;omega
  ·intro j hj hx
   rw [hk' j (by omega) (by omega)]
   exact hk3 j hj hx
 ·exact ⟨O3,N2+1,[],rfl,fun _ _ _=>rfl,hT3,Nat.le_refl _,by simpa using li,rfl,by simp,by simp,by simp,by simp,by simp,by simp⟩
end Go.Av
