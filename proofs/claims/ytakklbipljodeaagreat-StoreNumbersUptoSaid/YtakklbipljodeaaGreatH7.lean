/-
 store.cloneConfig makes a mutable copy of what it reads, and changes nothing else.
-/
import Derived.Test.YtakklbipljodeaaGreatV2
import Derived.Test.YtakklbipljodeaaGreatW25K
set_option linter.unusedVariables false
set_option linter.unusedSimpArgs false
set_option linter.constructorNameAsVariable false
namespace Go.Av
set_option maxRecDepth 4000
structure CfgR (O:List (Nat×AO)) (v1 v2 v3 v4:AV) (A:List AV) (c:Config):Prop where
 r:RowsR O v1 A c.rows
 n:Re O 1 v2 (c.nextID.map cI)
 d:Re O 2 v3 (c.defaults.map ActionCall.c)
 g:Im 1 v4 (c.registers.map (cS 1 c32))
structure CfgU (c:Config):Prop where
 t:CfgT c
 u:∀l∈c.rows,l.length<2^39
theorem CfgR.kp {O O':List (Nat×AO)} {v1 v2 v3 v4:AV} {A:List AV} {c:Config} {N:Nat} {X:Nat->Prop} (h:CfgR O v1 v2 v3 v4 A c) (hT:Tail O N) (hk:Kp X N O O') (hx:∀j,X j->look j O=none\/N<=j):CfgR O' v1 v2 v3 v4 A c:=
 ⟨⟨h.r.v.kp hT hk hx,h.r.len,fun k x l ha hl=>(h.r.at_ k x l ha hl).kp hT hk hx⟩,h.n.kp hT hk hx,h.d.kp hT hk hx,h.g⟩
def qyw (N:Nat) (O:List (Nat×AO)) (c:Config) (r:Option (Rt×AH)):Prop:=
 ∃w1 w2 w3 w4 V O' N',r=some (.val (.agg [w1,w2,w3,w4]),⟨O',N'⟩)/\CfgM O' w1 w2 w3 w4 V c/\(∀j,CfgM.own w1 w2 w3 V j->N<=j)/\Kp (fun _=>False) N O O'/\Tail O' N'/\N<=N'
theorem qjs (c:Config) (s:CfgU c) {v1 v2 v3 v4:AV} {A:List AV} {O:List (Nat×AO)} {N:Nat} (hT:Tail O N) (h:CfgR O v1 v2 v3 v4 A c):qyw N O c (qal Φ f_76 [.agg [v1,v2,v3,v4]] ⟨O,N⟩):=by
 rw [qbg (fn:=c_76) rfl rfl];have t0:=hT N (Qb _);have t1:=hT (N+1) (by omega);have hT1:Tail (O++[(N,AO.row 4 [[v1,v2,v3,v4]]),(N+1,AO.row 4 [[.fslice 1 [],.fslice 1 [],.fslice 2 [],.fslice 1 []]])]) (N+1+1):=by
  rw [qca,qbv,qbv];exact ⟨hT.mono (by omega),by omega,by omega,Tail.nil _⟩
 have hk1:Kp (fun _=>False) N O (O++[(N,AO.row 4 [[v1,v2,v3,v4]]),(N+1,AO.row 4 [[.fslice 1 [],.fslice 1 [],.fslice 2 [],.fslice 1 []]])]):=Kp.appL (fun _ _ _=>rfl) (by simp);have hR1:=h.kp hT hk1 (by simp);have hc1:=hR1.n.cells;have c1:=h.r.v.cells;have c2:=h.n.cells;have c3:=h.d.cells;have c4:AV.cells v4=some [v4]:=by rcases h.g with e | e | ⟨t,e⟩<;>subst e<;>rfl
 simp [c_76,t0,t1];generalize hO1:O++[(N,AO.row 4 [[v1,v2,v3,v4]]),(N+1,AO.row 4 [[.fslice 1 [],.fslice 1 [],.fslice 2 [],.fslice 1 []]])]=O1 at hT1 hk1 hR1 ⊢;have lb1:look N O1=some (.row 4 [[v1,v2,v3,v4]]):=by rw [<- hO1];simp [t0]
 have lb2:look (N+1) O1=some (.row 4 [[.fslice 1 [],.fslice 1 [],.fslice 2 [],.fslice 1 []]]):=by rw [<- hO1];simp [t1]
 obtain ⟨w2,o2,e2,m2,fw2⟩:=qaef hT1 hR1.n s.t.nl;rw [e2];have n1:¬N+1+1=N:=by omega
 have t2:=hT1 (N+1+1) (Qb _);have t3:=hT1 (N+1+1+1) (by omega);have m2c:=m2.cells;have l1:=h.r.v.len;rw [List.length_map,h.r.len] at l1;simp [t3,qah,lb1,m2c,l1,-AV.cells,-lenOf];have hT2:Tail (O1++[(N+1+1,o2),(N+1+1+1,AO.row 4 [[.fslice 1 [],w2,.fslice 2 [],.fslice 1 []]])]) (N+1+1+1+1):=by
  rw [qca,qbv,qbv];exact ⟨hT1.mono (by omega),by omega,by omega,Tail.nil _⟩
 have hk2:Kp (fun _=>False) (N+1+1) O1 (O1++[(N+1+1,o2),(N+1+1+1,AO.row 4 [[.fslice 1 [],w2,.fslice 2 [],.fslice 1 []]])]):=Kp.appL (fun _ _ _=>rfl) (by simp);have hR2:=hR1.kp hT1 hk2 (by simp);have lb3:look (N+1+1+1) (O1++[(N+1+1,o2),(N+1+1+1,AO.row 4 [[.fslice 1 [],w2,.fslice 2 [],.fslice 1 []]])])=some (.row 4 [[.fslice 1 [],w2,.fslice 2 [],.fslice 1 []]]):=by
  have:¬N+1+1=N+1+1+1:=by omega
  rw [qah,t3];simp
 have m2':Mu (O1++[(N+1+1,o2),(N+1+1+1,AO.row 4 [[.fslice 1 [],w2,.fslice 2 [],.fslice 1 []]])]) 1 w2 (c.nextID.map cI):=by
  refine m2.fr fun j hj=>?_
  obtain ⟨es0,hl⟩:=m2.own hj;have hlt:=(hT1.app1 (o:=o2) (Qb _)).lt hl;have:¬N+1+1+1=j:=by omega
  rw [show O1++[(N+1+1,o2),(N+1+1+1,AO.row 4 [[.fslice 1 [],w2,.fslice 2 [],.fslice 1 []]])]=(O1++[(N+1+1,o2)])++[(N+1+1+1,AO.row 4 [[.fslice 1 [],w2,.fslice 2 [],.fslice 1 []]])] by simp];rw [qah (b:=[(N+1+1+1,_)])];simp [this]
 have lc1:look N (O1++[(N+1+1,o2),(N+1+1+1,AO.row 4 [[.fslice 1 [],w2,.fslice 2 [],.fslice 1 []]])])=some (.row 4 [[v1,v2,v3,v4]]):=by rw [qah,lb1];rfl
 have lc2:look (N+1) (O1++[(N+1+1,o2),(N+1+1+1,AO.row 4 [[.fslice 1 [],w2,.fslice 2 [],.fslice 1 []]])])=some (.row 4 [[.fslice 1 [],.fslice 1 [],.fslice 2 [],.fslice 1 []]]):=by rw [qah,lb2];rfl
 have hk12:=hk1.trans hk2 (by omega);generalize O1++[(N+1+1,o2),(N+1+1+1,AO.row 4 [[.fslice 1 [],w2,.fslice 2 [],.fslice 1 []]])]=O2 at hT2 hR2 lb3 m2' lc1 lc2 hk12 ⊢;refine qaed c.rows s.t.rl (fun l hl=>⟨s.u l hl,(s.t.rs l hl).2⟩) v1 w2 A (N+1+1+1) _ _ _ O2 _ hT2 hR2.r lb3 ?_ ?_ ?_ ?_ ?_
 ·simp
 ·simp
 ·simp
 ·simp
 intro e3 O3 N3 w1 V mw1 fw1 hV hk3 hT3 hN3 lb3' g1 g2 g3;simp at g1 g2 g3;have hx:∀j,j=N+1+1+1->look j O1=none\/N+1+1<=j:=fun j hj=> .inr (by omega)
 have ld1:look N O3=some (.row 4 [[v1,v2,v3,v4]]):=hk3.lk hT2 lc1 (by omega);have ld2:look (N+1) O3=some (.row 4 [[.fslice 1 [],.fslice 1 [],.fslice 2 [],.fslice 1 []]]):=hk3.lk hT2 lc2 (by omega);have hk13:Kp (fun _=>False) N O O3:=fun j hj _=>(hk3 j (by omega) (by omega)).trans (hk12 j hj (by simp))
 have hR3:=h.kp hT hk13 (by simp);have m23:Mu O3 1 w2 (c.nextID.map cI):=by
  refine m2'.fr fun j hj=>?_
  obtain ⟨es0,hl⟩:=m2'.own hj;exact hk3 j (hT2.lt hl) (qaw hl lb3 (by simp))
 have l3:=h.d.len;simp [c_76_k8,g1,ld1,l3,-lenOf];refine qaeb c.defaults s.t.dl (fun d hd=>(s.t.ds d hd).1) v3 w1 w2 (N+1+1+1) _ _ _ O3 N3 hT3 hR3.d lb3' ?_ ?_ ?_ ?_ ?_
 ·simp [g3]
 ·simp
 ·simp
 ·simp
 intro e4 O4 N4 w3 mw3 fw3 hk4 hT4 hN4 lb4 f1 f2 f3;simp at f1 f2 f3;have le1:look N O4=some (.row 4 [[v1,v2,v3,v4]]):=hk4.lk hT3 ld1 (by omega);have le2:look (N+1) O4=some (.row 4 [[.fslice 1 [],.fslice 1 [],.fslice 2 [],.fslice 1 []]]):=hk4.lk hT3 ld2 (by omega);have m24:Mu O4 1 w2 (c.nextID.map cI):=by
  refine m23.fr fun j hj=>?_
  obtain ⟨es0,hl⟩:=m23.own hj;exact hk4 j (hT3.lt hl) (qaw hl lb3' (by simp))
 have m14:Mu O4 1 w1 (V.map fun x=>[x]):=by
  refine mw1.fr fun j hj=>?_
  obtain ⟨es0,hl⟩:=mw1.own hj;exact hk4 j (hT3.lt hl) (qaw hl lb3' (by simp))
 have hV4:RowsW O4 (N+1+1+1+1) V c.rows:=hV.fr fun j es0 hl=>hk4 j (hT3.lt hl) (qaw hl lb3' (by simp))
 have l4:lenOf v4=some c.registers.length:=by have:=h.g.len;rw [List.length_map] at this;exact this
 simp [c_76_k7,f1,g1,le1,l4,-lenOf];refine qaec c.registers s.t.gl (fun l hl=>(s.t.gs l hl).1) v4 w1 w2 w3 (N+1+1+1) _ _ _ O4 N4 hT4 h.g lb4 ?_ ?_ ?_ ?_ ?_
 ·simp [f3,g3]
 ·simp
 ·simp
 ·simp
 intro e5 O5 N5 w4 mw4 hk5 hT5 hN5 lb5 d1 d2 d3;simp at d1 d2 d3;have lf2:look (N+1) O5=some (.row 4 [[.fslice 1 [],.fslice 1 [],.fslice 2 [],.fslice 1 []]]):=hk5.lk hT4 le2 (by omega);simp [c_76_k6,d2,d3,f2,f3,g2,g3,lb5,lf2,qad];refine ⟨w1,w2,w3,w4,V,_,N5,rfl,?_,?_,?_,qao hT5,by omega⟩
 ·have keep:∀j z es0,z≠4->look j O4=some (.row z es0)->look j (setl (N+1) (.row 4 [[w1,w2,w3,w4]]) O5)=look j O4:=by
   intro j z es0 hz hl;have h5:=hk5 j (hT4.lt hl) (qaw hl lb4 (by simp [hz]));have hl5:look j O5=some (.row z es0):=by rw [h5,hl]
   rw [qad,if_neg (qaw hl5 lf2 (by simp [hz])),h5]
  refine ⟨m14.fr fun j hj=>?_,hV4.len,?_,m24.fr fun j hj=>?_,mw3.fr fun j hj=>?_,mw4,?_,hV4.inj,hV4.na⟩
  ·obtain ⟨es0,hl⟩:=m14.own hj;exact keep j 1 es0 (by decide) hl
  ·intro k v l hv hl;refine (hV4.mu k v l hv hl).fr fun j hj=>?_
   obtain ⟨es0,hl⟩:=(hV4.mu k v l hv hl).own hj;exact keep j 5 es0 (by decide) hl
  ·obtain ⟨es0,hl⟩:=m24.own hj;exact keep j 1 es0 (by decide) hl
  ·obtain ⟨es0,hl⟩:=mw3.own hj;exact keep j 2 es0 (by decide) hl
  ·intro i h1 h2;have:=fw1 i h1;obtain ⟨es0,hl⟩:=m2'.own h2;have:=hT2.lt hl;omega
 ·intro j hj;rcases hj with hj | hj | hj | ⟨v,hv,hj⟩
  ·have:=fw1 j hj;omega
  ·have:=fw2 j hj;omega
  ·have:=fw3 j hj;omega
  ·have:=hV4.fresh v hv j hj;omega
 ·intro j hj _;rw [qad,if_neg (by omega),hk5 j (by omega) (by omega),hk4 j (by omega) (by omega),hk3 j (by omega) (by omega)];exact hk12 j hj (by simp)
def qeb:List Rw->Nat->List (AV×AV)
 | [],_=>[]
 | r::l,n=>(.int .i64 r.id,.int .i64 n)::qeb l (n+1)
def ents (l:List Rw):List (AV×AV):=qeb l 0
theorem qo6 (r:Rw):∀(l:List Rw) (n:Nat),qeb (l++[r]) n=qeb l n++[(.int .i64 r.id,.int .i64 ((n+l.length:Nat):Int))]
 | [],n=>by simp [qeb]
 | a::l,n=>by
  have ih:=qo6 r l (n+1);simp only [List.cons_append,qeb,ih,List.length_cons];rw [show n+1+l.length=n+(l.length+1) by omega]
theorem qrn (l:List Rw) (r:Rw):ents (l++[r])=ents l++[(.int .i64 r.id,.int .i64 (l.length:Nat))]:=by
 unfold ents;rw [qo6,Nat.zero_add]
theorem qol (x:Int) (v:AV):∀(l:List Rw) (n:Nat),(∀r∈l,r.id≠x)->putA .i (.int .i64 x) v (qeb l n)=some (qeb l n++[(.int .i64 x,v)])
 | [],n,_=>rfl
 | r::l,n,h=>by
  have ih:=qol x v l (n+1) fun r hr=>h r (by simp [hr])
  have h1:¬x=r.id:=fun e=>h r (by simp) e.symm
  simp only [qeb,putA,eqKd,if_true];have:(x == r.id)=false:=by simpa using h1
  rw [this];simp only [ih,Option.map_some,List.cons_append]
theorem qpc (x:Int):∀(l:List Rw) (n:Nat),qb8 .i (.int .i64 x) (qeb l n)=some ((rIdx l x).map fun i=> .int .i64 ((i+n:Nat):Int))
 | [],n=>rfl
 | r::l,n=>by
  have ih:=qpc x l (n+1);unfold rIdx at ih ⊢;simp only [qeb,qb8,eqKd,if_true,List.findIdx?_cons];by_cases h:x=r.id
  ·subst h;simp
  ·have h':(x == r.id)=false:=by simpa using h
   have h'':¬r.id=x:=fun e=>h e.symm
   rw [h'];simp only [ih,h'',decide_false,Option.map_map,Bool.false_eq_true,if_false];congr 2;funext i;simp only [Function.comp_apply];rw [show i+(n+1)=i+1+n by omega]
theorem qzq (x:Int) (l:List Rw):qb8 .i (.int .i64 x) (ents l)=some ((rIdx l x).map fun (i:Nat)=> .int .i64 (i:Int)):=qpc x l 0
def qyz (N:Nat) (O:List (Nat×AO)) (iid k:Nat) (es:List (List AV)) (l:List Rw) (r:Option (Rt×AH)):Prop:=
 ∃O' N',r=some (.val (.tup []),⟨O',N'⟩)/\look iid O'=some (.row 1 (es.set k [.map N]))/\look N O'=some (.map (ents l))/\Kp (fun j=>j=iid) N O O'/\Tail O' N'/\N<N'
theorem qpt {O:List (Nat×AO)} {N sid iid k:Nat} {v1 v2 v3 v4:AV} {R:List AV} {V:List AV} {l:List Rw} {es:List (List AV)} {n:Nat} (hT:Tail O N) (hl:l.length<2^39) (hk:k<n) (hVk:k<V.length)
  (hs:look sid O=some (.row 15 [v1::v2::v3::v4::(R++[.row iid 1 0 n,.bool true])])) (hR:R.length=9) (hi:look iid O=some (.row 1 es)) (hn:n<=es.length) (hes:∃x,es[k]? =some [x])
  (h1:Mu O 1 v1 (V.map fun x=>[x])) (h5:Mu O 5 V[k] (l.map Rw.c)) (hri:vid v1≠some iid) (hinc:l.Pairwise fun a b=>a.id<b.id) (hk39:k<2^40):
  qyz N O iid k es l (qal Φ f_94 [.ptr sid 15 0 0,.int .i64 k] ⟨O,N⟩):=by
 rw [qbg (fn:=c_94) rfl rfl];obtain ⟨r0,r1,r2,r3,r4,r5,r6,r7,r8,rfl⟩:∃r0 r1 r2 r3 r4 r5 r6 r7 r8,R=[r0,r1,r2,r3,r4,r5,r6,r7,r8]:=by
  match R,hR with
  | [r0,r1,r2,r3,r4,r5,r6,r7,r8],_=>exact ⟨_,_,_,_,_,_,_,_,_,rfl⟩
 obtain ⟨x,hx⟩:=hes;have t0:=hT N (Qb _);have hsi:=qaw hs hi (by simp);have fi:=qd9 hT hi (Qb N);have fs:=qd9 hT hs (Qb N);obtain ⟨rid,es1,e1,hl1,hle1,ht1⟩:=h1.nonempty (by simp;omega);subst e1;have hrid:¬rid=iid:=fun e=>hri (by rw [e];rfl)
 have fr:=qd9 hT hl1 (Qb N);have g1:es1[k]? =some [V[k]]:=qfi hVk ht1;have hkn:k<V.length:=hVk;have hken:k<es.length:=by omega
 have h5l:=h5.len;rw [List.length_map] at h5l;simp [c_94,hs,hi,t0,qah,hk,hx,qad,hsi,fi,fs,hl1,hrid,g1,hVk,h5l,-lenOf];have hT1:Tail (setl iid (AO.row 1 (es.set k [.map N])) (O++[(N,AO.map [])])) (N+1):=qao (hT.app1 (Qb _));have hk1:Kp (fun j=>j=iid) N O (setl iid (AO.row 1 (es.set k [.map N])) (O++[(N,AO.map [])])):=Kp.setl (Kp.app (fun _ _ _=>rfl) (Qb _)) (.inr rfl);have a1:look iid (setl iid (AO.row 1 (es.set k [.map N])) (O++[(N,AO.map [])]))=some (.row 1 (es.set k [.map N])):=by simp [qad,qah,hi]
 have a2:look N (setl iid (AO.row 1 (es.set k [.map N])) (O++[(N,AO.map [])]))=some (.map []):=by simp [qad,fi,t0]
 generalize setl iid (AO.row 1 (es.set k [.map N])) (O++[(N,AO.map [])])=O1 at hT1 hk1 a1 a2 ⊢;have a3:look sid O1=some (.row 15 [AV.row rid 1 0 V.length::v2::v3::v4::([r0,r1,r2,r3,r4,r5,r6,r7,r8]++[.row iid 1 0 n,.bool true])]):=by
  rw [hk1 sid (hT.lt hs) hsi,hs];simp
 have h51:Mu O1 5 V[k] (l.map Rw.c):=by
  refine h5.fr fun j hj=>?_
  obtain ⟨es0,hl0⟩:=h5.own hj;exact hk1 j (hT.lt hl0) (qaw hl0 hi (by simp))
 refine qhs l.length (fun i e h=>∃O' N',h=⟨O',N'⟩/\Kp (fun j=>j=N) (N+1) O1 O'/\Tail O' N'/\N+1<=N'/\look N O'=some (.map (ents (l.take i)))/\look 0 e=some (.ptr sid 15 0 0)/\look 1 e=some (.int .i64 k)/\look 20 e=some V[k]/\look 21 e=some (.int .i64 l.length)/\look 22 e=some (.int .i64 i)) (qyz N O iid k es l) ?_ ?_ 0 _ _ (Qc _) ?_
 ·rintro i e _ L hi' hL ⟨O',N',rfl,hk',hT',hN',b2,e0,e1,e20,e21,e22⟩ ih;have hw1:=qag i (by omega);have u0:=hT' N' (Qb _);have fN:¬N'=N:=by omega
  have b1:look iid O'=some (.row 1 (es.set k [.map N])):=hk'.lk hT1 a1 (by omega);have b3:=hk'.lk hT1 a3 (by omega);have b4:(es.set k [AV.map N])[k]? =some [.map N]:=by rw [List.getElem?_set_self hken]
  have hne:∀r∈l.take i,r.id≠l[i].id:=by
   intro r hr;rw [List.mem_take_iff_getElem] at hr;obtain ⟨m,hm,rfl⟩:=hr;have:=List.pairwise_iff_getElem.1 hinc m i (by omega) hi' (by omega);omega
  have hp:=qol l[i].id (.int .i64 i) (l.take i) 0 hne;have hml:min i l.length=i:=by omega
  have hsn:ents (l.take (i+1))=ents (l.take i)++[(.int .i64 l[i].id,.int .i64 (i:Nat))]:=by
   rw [Qh hi',qrn,List.length_take,hml]
  rw [show qeb (l.take i) 0=ents (l.take i) from rfl] at hp;have h5':Mu O' 5 V[k] (l.map Rw.c):=by
   refine h51.fr fun j hj=>?_
   obtain ⟨es0,hl0⟩:=h51.own hj;exact hk' j (hT1.lt hl0) (qaw hl0 a2 (by simp))
  obtain ⟨r5',es5,ev,hl5,hle5,ht5⟩:=h5'.nonempty (by simp;omega);have g5:=qfi hi' ht5;rw [ev] at e20;have f1:=qd9 hT' b1 (Qb N');have f3:=qd9 hT' b3 (Qb N');simp [c_94_l0,Rw.ce,e0,e1,e20,e21,e22,hi',hl5,g5,u0,b3,b1,hken,hk,b2,hp,hw1];refine ih _ _ ⟨_,_,rfl,Kp.setl hk' (.inr rfl),qao (hT'.mono (by omega)),by omega,?_,?_,?_,?_,?_,?_⟩
  ·simp [qad,b2,hsn]
  all_goals simp [*]
 ·rintro e _ L hL ⟨O',N',rfl,hk',hT',hN',b2,e0,e1,e20,e21,e22⟩;simp [c_94_l0,e21,e22,hL];refine ⟨O',N',rfl,hk'.lk hT1 a1 (by omega),?_,?_,hT',by omega⟩
  ·rw [b2,List.take_length]
  ·intro j hj hx;rw [hk' j (by omega) (by omega)];exact hk1 j hj hx
 ·refine ⟨O1,N+1,rfl,fun _ _ _=>rfl,hT1,Qb _,a2,?_,?_,?_,?_,?_⟩<;>simp
structure SV where
 s:Nat
 v1:AV
 v2:AV
 v3:AV
 v4:AV
 vi:AV
 V:List AV
 M:List Nat
def SV.cells (S:SV) (p:Prg):List AV:=S.v1::S.v2::S.v3::S.v4::(Prg.c p++[S.vi,.bool true])
structure IdxM (O:List (Nat×AO)) (vi:AV) (M:List Nat) (R:List (List Rw)):Prop where
 i:Mu O 1 vi (M.map fun m=>[.map m])
 len:M.length=R.length
 m:∀(k m:Nat) (l:List Rw),M[k]? =some m->R[k]? =some l->look m O=some (.map (ents l))
 nd:∀(k k' m:Nat),M[k]? =some m->M[k']? =some m->k=k'
structure StoreM (O:List (Nat×AO)) (S:SV) (p:Prg) (c:Config):Prop where
 s:look S.s O=some (.row 15 [S.cells p])
 cm:CfgM O S.v1 S.v2 S.v3 S.v4 S.V c
 x:IdxM O S.vi S.M c.rows
 ri:∀i,vid S.v1=some i->vid S.vi=some i->False
 ni:∀i,vid S.v2=some i->vid S.vi=some i->False
def SV.own (S:SV) (j:Nat):Prop:=j=S.s\/CfgM.own S.v1 S.v2 S.v3 S.V j\/vid S.vi=some j\/j∈S.M
theorem IdxM.fr {O O':List (Nat×AO)} {vi:AV} {M:List Nat} {R:List (List Rw)} (h:IdxM O vi M R) (hf:∀j,vid vi=some j\/j∈M->look j O'=look j O):IdxM O' vi M R:=
 ⟨h.i.fr fun j hj=>hf j (.inl hj),h.len,fun k m l hm hl=>by rw [hf m (.inr (Qe hm))];exact h.m k m l hm hl,h.nd⟩
theorem StoreM.fr {O O':List (Nat×AO)} {S:SV} {p:Prg} {c:Config} (h:StoreM O S p c) (hf:∀j,S.own j->look j O'=look j O):StoreM O' S p c:=
 ⟨by rw [hf _ (.inl rfl)];exact h.s,h.cm.fr fun j hj=>hf j (.inr (.inl hj)),h.x.fr fun j hj=>hf j (.inr (.inr hj)),h.ri,h.ni⟩
theorem CfgM.own_lk {O:List (Nat×AO)} {v1 v2 v3 v4:AV} {V:List AV} {c:Config} (h:CfgM O v1 v2 v3 v4 V c) {j:Nat} (hj:CfgM.own v1 v2 v3 V j):∃z es,look j O=some (.row z es)/\(z=1\/z=2\/z=5):=by
 rcases hj with hj | hj | hj | ⟨v,hv,hj⟩
 ·obtain ⟨es,hl⟩:=h.r.own hj;exact ⟨1,es,hl,.inl rfl⟩
 ·obtain ⟨es,hl⟩:=h.n.own hj;exact ⟨1,es,hl,.inl rfl⟩
 ·obtain ⟨es,hl⟩:=h.d.own hj;exact ⟨2,es,hl,.inr (.inl rfl)⟩
 ·obtain ⟨k,hk,rfl⟩:=Qn.1 hv;have hk2:k<c.rows.length:=by rw [<- h.rl];exact hk
  obtain ⟨es,hl⟩:=(h.rv k _ _ (Qa hk) (Qa hk2)).own hj;exact ⟨5,es,hl,.inr (.inr rfl)⟩
theorem IdxM.own_lk {O:List (Nat×AO)} {vi:AV} {M:List Nat} {R:List (List Rw)} (h:IdxM O vi M R) {j:Nat} (hj:j∈M):∃es,look j O=some (.map es):=by
 obtain ⟨k,hk,rfl⟩:=Qn.1 hj;have hk2:k<R.length:=by rw [<- h.len];exact hk
 exact ⟨_,h.m k _ _ (Qa hk) (Qa hk2)⟩
theorem StoreM.own_lk {O:List (Nat×AO)} {S:SV} {p:Prg} {c:Config} (h:StoreM O S p c) {j:Nat} (hj:S.own j):∃x,look j O=some x/\x≠ .res:=by
 rcases hj with rfl | hj | hj | hj
 ·exact ⟨_,h.s,by simp⟩
 ·obtain ⟨z,es,hl,_⟩:=h.cm.own_lk hj;exact ⟨_,hl,by simp⟩
 ·obtain ⟨es,hl⟩:=h.x.i.own hj;exact ⟨_,hl,by simp⟩
 ·obtain ⟨es,hl⟩:=h.x.own_lk hj;exact ⟨_,hl,by simp⟩
theorem StoreM.kp {O O':List (Nat×AO)} {N:Nat} {X:Nat->Prop} {S:SV} {p:Prg} {c:Config} (h:StoreM O S p c) (hT:Tail O N) (hk:Kp X N O O') (hx:∀j,S.own j->¬X j):StoreM O' S p c:=by
 refine h.fr fun j hj=>?_
 obtain ⟨x,hl,_⟩:=h.own_lk hj;exact hk j (hT.lt hl) (hx j hj)
theorem CfgM.re {O:List (Nat×AO)} {v1 v2 v3 v4:AV} {V:List AV} {c:Config} (h:CfgM O v1 v2 v3 v4 V c):CfgR O v1 v2 v3 v4 V c:=
 ⟨⟨h.r.re,h.rl,fun k x l hx hl=>(h.rv k x l hx hl).re⟩,h.n.re,h.d.re,by rcases h.g with e | ⟨t,e⟩;exact .inr (.inl e);exact .inr (.inr ⟨t,e⟩)⟩
theorem CfgR.imm {O:List (Nat×AO)} (c:Config):CfgR O (.slice 1 (c.rows.map (cS 5 Rw.c))) (.slice 1 (c.nextID.map cI)) (.slice 2 (c.defaults.map ActionCall.c)) (.slice 1 (c.registers.map (cS 1 c32))) (c.rows.map fun l=> .slice 5 (l.map Rw.c)) c:=by
 refine ⟨⟨?_,by simp,?_⟩,.sl _,.sl _,.inl rfl⟩
 ·have:(c.rows.map fun l=>AV.slice 5 (l.map Rw.c)).map (fun x=>[x])=c.rows.map (cS 5 Rw.c):=by
   rw [List.map_map];rfl
  rw [this];exact .sl _
 ·intro k x l hx hl;rw [List.getElem?_map,hl] at hx;cases hx;exact .sl _
def Rs (O:List (Nat×AO)) (j:Nat):Prop:=look j O=some .res
def qyx (N:Nat) (O:List (Nat×AO)) (p:Prg) (c:Config) (r:Option (Rt×AH)):Prop:=
 ∃S O' N',r=some (.val (.ptr S.s 15 0 0),⟨O',N'⟩)/\StoreM O' S p c/\(∀j,S.own j->N<=j)/\Kp (Rs O) N O O'/\Tail O' N'/\N<=N'
theorem qwv (p:Prg) (op:p.Ok qa5) (c:Config) (u:CfgU c) (hinc:∀l∈c.rows,l.Pairwise fun a b=>a.id<b.id) {v1 v2 v3 v4:AV} {A:List AV} {O:List (Nat×AO)} {N:Nat} (hT:Tail O N) (h:CfgR O v1 v2 v3 v4 A c):
  qyx N O p c (qal Φ f_66 [.agg (Prg.c p),.agg [v1,v2,v3,v4]] ⟨O,N⟩):=by
 rw [qbg (fn:=c_66) rfl rfl];have hcl:=qaab p op;simp only [Prg.e] at hcl;have t0:=hT N (Qb _);have t13:=hT (N+1+12) (by omega);have n13:¬N=N+1+12:=by omega
 simp [c_66,Prg.e,t0,qah];have hT1:Tail (O++[(N,AO.row 4 [[v1,v2,v3,v4]]),(N+1+12,AO.res)]) (N+1+12+1):=by
  rw [qca,qbv,qbv];exact ⟨hT.mono (by omega),by omega,by omega,Tail.nil _⟩
 have hk1:Kp (fun _=>False) N O (O++[(N,AO.row 4 [[v1,v2,v3,v4]]),(N+1+12,AO.res)]):=Kp.appL (fun _ _ _=>rfl) (by simp;omega);have hres:look (N+1+12) (O++[(N,AO.row 4 [[v1,v2,v3,v4]]),(N+1+12,AO.res)])=some .res:=by simp [t13,n13]
 obtain ⟨w1,w2,w3,w4,V,O2,N2,e2,m2,f2,hk2,hT2,hN2⟩:=qjs c u hT1 (h.kp hT hk1 (by simp));have hres2:look (N+1+12) O2=some .res:=hk2.lk hT1 hres (by simp);rw [e2];have hs1:∀cs,look (N+1+12) (qa4 (setl (N+1+12) (.row 15 cs) O2))=some (.row 15 cs):=fun cs=>by
  rw [qbk (by simp [qad,hres2])];simp [qad,hres2]
 have hs2:∀cs,Tail (qa4 (setl (N+1+12) (.row 15 cs) O2)) N2:=fun cs=>qex (qao hT2)
 have hs3:∀cs,look N2 (qa4 (setl (N+1+12) (.row 15 cs) O2))=none:=fun cs=>hs2 cs _ (Qb _)
 have hs4:∀cs z es j,z≠15->look j O2=some (.row z es)->look j (qa4 (setl (N+1+12) (.row 15 cs) O2))=some (.row z es):=fun cs z es j hz hl=>by
  have hne:j≠N+1+12:=qaw hl hres2 (by simp);rw [qbk (by simp [qad,hne,hl])];simp [qad,hne,hl]
 have hs5:∀cs,Kp (Rs O) N O (qa4 (setl (N+1+12) (.row 15 cs) O2)):=fun cs j hj hx=>by
  have hne:j≠N+1+12:=by omega
  have h2:look j O2=look j O:=(hk2 j (by omega) (by simp)).trans (hk1 j hj (by simp));rw [qbk (by rw [qad,if_neg hne,h2];exact hx),qad,if_neg hne,h2]
 have n2:¬N2=N+1+12:=by omega
 have l1:=m2.r.len;rw [List.length_map,m2.rl] at l1;have hrl:=u.t.rl;have b1:(c.rows.length:Int)*8<=140737488355328:=by omega
 have b2:c.rows.length<4611686018427387904:=by omega
 have w1c:=m2.r.cells;simp [hcl,hres2,hs1,hs3,qah,qad,l1,n2,b1,b2,-lenOf,-AV.cells];generalize hO3:setl (N+1+12) _ (_++[(N2,AO.row 1 (List.replicate c.rows.length [AV.nilmap]))])=O3;have hT3:Tail O3 (N2+1):=by rw [<- hO3];exact qao ((hs2 _).app1 (Qb _))
 have hk3:Kp (Rs O) N O O3:=by rw [<- hO3];exact Kp.setl (Kp.app (hs5 _) (by omega)) (.inl (by omega))
 have ls:look (N+1+12) O3=some (.row 15 [w1::w2::w3::w4::(Prg.c p++[.row N2 1 0 c.rows.length,.bool true])]):=by
  rw [<- hO3,qad,if_pos rfl,qah,hs1,Prg.e];rfl
 have li:look N2 O3=some (.row 1 (List.replicate c.rows.length [AV.nilmap])):=by
  rw [<- hO3,qad,if_neg n2,qah,hs3];simp
 have lo:∀z es j,z≠15->look j O2=some (.row z es)->look j O3=look j O2:=fun z es j hz hl=>by
  have hne:j≠N+1+12:=qaw hl hres2 (by simp);rw [<- hO3,qad,if_neg hne,qah,hs4 _ z es j hz hl,hl];rfl
 have m3:CfgM O3 w1 w2 w3 w4 V c:=m2.fr fun j hj=>by
  obtain ⟨z,es,hl,hz⟩:=m2.own_lk hj;exact lo z es j (by omega) hl
 clear hO3;have fo:∀j,CfgM.own w1 w2 w3 V j->j≠N2:=fun j hj=>by
  obtain ⟨z,es,hl,hz⟩:=m2.own_lk hj;have:=hT2.lt hl;omega
 refine qhs c.rows.length (fun i e h=>∃(O':List (Nat×AO)) (N':Nat) (M:List Nat),h=⟨O',N'⟩/\Kp (fun j=>j=N2) (N2+1) O3 O'/\Tail O' N'/\N2+1<=N'/\look N2 O'=some (.row 1 (M.map (fun m=>[AV.map m])++List.replicate (c.rows.length - i) [AV.nilmap]))/\M.length=i/\
   (∀(k m:Nat) (l:List Rw),M[k]? =some m->c.rows[k]? =some l->look m O'=some (.map (ents l)))/\(∀m∈M,N2+1<=m)/\(∀(k k' m:Nat),M[k]? =some m->M[k']? =some m->k=k')/\
   look 5 e=some (.ptr (N+1+12) 15 0 0)/\look 28 e=some (.int .i64 c.rows.length)/\look 29 e=some (.int .i64 i)) (qyx N O p c) ?_ ?_ 0 _ _ (Qc _) ?_
 ·rintro i e _ L hi hL ⟨O',N',M,rfl,hk',hT',hN',ln,hMl,hMe,hMf,hMn,e5,e28,e29⟩ ih;have hw:=qag i (by omega);have hVi:i<V.length:=by rw [m2.rl];exact hi
  have ls':=hk'.lk hT3 ls (by omega);have m3':CfgM O' w1 w2 w3 w4 V c:=m3.fr fun j hj=>by
   obtain ⟨z,es,hl,hz⟩:=m3.own_lk hj;exact hk' j (hT3.lt hl) (fo j hj)
  have hes:(M.map (fun m=>[AV.map m])++List.replicate (c.rows.length - i) [AV.nilmap]).length=c.rows.length:=by simp [hMl];omega
  have hr:=qpt (k:=i) (n:=c.rows.length) (V:=V) (l:=c.rows[i]) (R:=Prg.c p) hT' (u.u _ (Qd hi)) hi hVi ls' (by simp) ln (Nat.le_of_eq hes.symm) ?_ m3'.r (m3'.rv i _ _ (Qa hVi) (Qa hi)) ?_ (hinc _ (Qd hi)) (by omega)
  rotate_left
  ·refine ⟨.nilmap,?_⟩;rw [Qp (by simp;omega),List.getElem?_replicate,if_pos (by simp [hMl];omega)]
  ·intro hc;exact fo N2 (.inl hc) rfl
  obtain ⟨O4,N4,e4,r1,r2,hk4,hT4,hN4⟩:=hr;simp [c_66_l0,e5,e28,e29,hi,e4,hw];refine ih _ _ ⟨O4,N4,M++[N'],rfl,?_,hT4,by omega,?_,by simp [hMl],?_,?_,?_,?_,?_,?_⟩
  ·intro j hj hx;rw [hk4 j (by omega) hx,hk' j hj hx]
  ·rw [r1];congr 1;have hd:c.rows.length - i=(c.rows.length - (i+1))+1:=by omega
   rw [hd,List.replicate_succ,List.set_append_right _ _ (by simp [hMl])];simp [hMl]
  ·intro k m l hm hl;by_cases hk:k<M.length
   ·rw [Ql hk] at hm;have h0:=hMe k m l hm hl;exact hk4.lk hT' h0 (by have:=hMf m (Qe hm);omega)
   ·have hb:=(Qm.1 hm).1;simp at hb;have hk:k=M.length:=by omega
    subst hk;rw [Qp (by omega)] at hm;simp at hm;subst hm;rw [hMl,Qa hi] at hl;cases hl;exact r2
  ·intro m hm;rcases List.mem_append.1 hm with hm | hm
   ·exact hMf m hm
   ·simp at hm;omega
  ·intro k k' m hm hm';have hb:=(Qm.1 hm).1;have hb':=(Qm.1 hm').1;simp at hb hb';have hlt:∀m,m∈M->m<N':=fun m hm=>by
    obtain ⟨q,hq,rfl⟩:=Qn.1 hm;exact hT'.lt (hMe q _ _ (Qa hq) (Qa (by omega)))
   by_cases hk:k<M.length
   ·by_cases hk':k'<M.length
    ·rw [Ql hk] at hm;rw [Ql hk'] at hm';exact hMn k k' m hm hm'
    ·rw [Ql hk] at hm;rw [Qp (by omega),show k' - M.length=0 by omega] at hm';simp at hm';have:=hlt m (Qe hm);omega
   ·by_cases hk':k'<M.length
    ·rw [Ql hk'] at hm';rw [Qp (by omega),show k - M.length=0 by omega] at hm;simp at hm;have:=hlt m (Qe hm');omega
    ·omega
  ·simp [e5]
  ·simp [e28]
  ·simp
 ·rintro e _ L hL ⟨O',N',M,rfl,hk',hT',hN',ln,hMl,hMe,hMf,hMn,e5,e28,e29⟩;simp [c_66_l0,c_66_k1,e5,e28,e29,hL];have ls':=hk'.lk hT3 ls (by omega);have m3':CfgM O' w1 w2 w3 w4 V c:=m3.fr fun j hj=>by
   obtain ⟨z,es,hl,hz⟩:=m3.own_lk hj;exact hk' j (hT3.lt hl) (fo j hj)
  refine ⟨⟨N+1+12,w1,w2,w3,w4,.row N2 1 0 c.rows.length,V,M⟩,O',N',rfl,⟨ls',m3',⟨?_,hMl,hMe,hMn⟩,?_,?_⟩,?_,?_,hT',by omega⟩
  ·rw [Nat.sub_self,List.replicate_zero,List.append_nil] at ln;exact .row N2 _ _ _ (by simp [hMl]) ln (Qb _) (by rw [List.take_length])
  ·intro j h1 h2;cases h2;exact fo _ (.inl h1) rfl
  ·intro j h1 h2;cases h2;exact fo _ (.inr (.inl h1)) rfl
  ·intro j hj;rcases hj with rfl | hj | hj | hj
   ·simp only;omega
   ·have:=f2 j hj;omega
   ·cases hj;omega
   ·have:=hMf j hj;omega
  ·intro j hj hx;rw [hk' j (by omega) (by omega)];exact hk3 j hj hx
 ·exact ⟨O3,N2+1,[],rfl,fun _ _ _=>rfl,hT3,Qb _,by simpa using li,rfl,by simp,by simp,by simp,by simp,by simp,by simp⟩
theorem qhk {O:List (Nat×AO)} {n p:Nat} {o:AO} (h:Tail O n) (hp:p<n):Tail (O++[(p,o)]) n:=by
 rw [qca,qbv];exact ⟨h,hp,Tail.nil _⟩
theorem qaa2 {p:Prg} {t:Int} {tb:Tbl} (h:(tblE p t).2=0) (ht:at? p.tables t=some tb):tb.size<=256:=by
 unfold tblE at h;rw [ht] at h;simp only at h;split at h
 ·cases h
 split at h
 ·cases h
 split at h
 ·cases h
 ·omega
theorem qabs {p:Prg} {t:Int} {x:Entry} (h:entE p t x=0):(tblE p t).2=0:=by
 unfold entE at h;refine Decidable.byContradiction fun hc=>?_
 rw [if_pos hc] at h;exact hc h
theorem CfgV.small {p:Prg} {c:Config} (v:CfgV p c):∀l∈c.rows,l.length<=256:=by
 intro l hl;obtain ⟨k,hk,rfl⟩:=Qn.1 hl;have hkt:k<p.tables.length:=by rw [<- v.rl];exact hk
 have hv:=v.at hkt;by_cases h0:c.rows[k].length=0
 ·omega
 have he:=hv.ent _ (Qd (show 0<c.rows[k].length by omega));have hs:=qaa2 (qabs he) (by rw [qhl];exact Qa hkt);have:=hv.size;omega
theorem CfgV.u {p:Prg} {c:Config} (v:CfgV p c) (s:CfgT c):CfgU c:=⟨s,fun l hl=>by have:=v.small l hl;omega⟩
theorem CfgV.incs {p:Prg} {c:Config} (v:CfgV p c):∀l∈c.rows,l.Pairwise fun a b=>a.id<b.id:=by
 intro l hl;obtain ⟨k,hk,rfl⟩:=Qn.1 hl;have hkt:k<p.tables.length:=by rw [<- v.rl];exact hk
 exact (v.at hkt).inc
def qabc (N:Nat) (O:List (Nat×AO)) (p:Prg) (c:Config) (r:Option (Rt×AH)):Prop:=
 (cfgE p c≠0/\r=some (.val (.tup [.nilptr,.int .i64 (cfgE p c)]),⟨O,N⟩))\/
 (cfgE p c=0/\∃S O' N',r=some (.val (.tup [.ptr S.s 15 0 0,.int .i64 0]),⟨O',N'⟩)/\StoreM O' S p c/\(∀j,S.own j->N<=j)/\Kp (Rs O) N O O'/\Tail O' N'/\N<=N')
theorem qadz (p:Prg) (op:p.Ok qa5) (hc:(pre p.control).length<2^40 - 1) (c:Config) (s:CfgT c) {O:List (Nat×AO)} {N:Nat} (hT:Tail O N):
  qabc N O p c (qal Φ f_18 [.agg (Prg.c p),.agg (Config.c c)] ⟨O,N⟩):=by
 rw [qbg (fn:=c_18) rfl rfl];have f:=qee op;have hk:=qwk p f hc c s;simp only [Prg.e,Config.ce] at hk;by_cases z:cfgE p c=0
 ·have v:=(qhn p c).1 z;obtain ⟨S,O',N',e,h1,h2,h3,h4,h5⟩:=qwv p op c (v.u s) v.incs hT (CfgR.imm (O:=O) c);rw [z] at hk;simp only [Prg.e] at e;simp [c_18,Prg.e,Config.ce,hk,e];exact .inr ⟨z,S,O',N',rfl,h1,h2,h3,h4,h5⟩
 ·simp [c_18,Prg.e,Config.ce,hk,z];exact .inl ⟨z,rfl⟩
theorem qc9 {p:Prg} {c:Config} (u:CfgU c) {S:SV} {O:List (Nat×AO)} {N:Nat} (hT:Tail O N) (m:StoreM O S p c):qyw N O c (qal Φ f_24 [.ptr S.s 15 0 0] ⟨O,N⟩):=by
 rw [qbg (fn:=c_24) rfl rfl];have t0:=hT N (Qb _);have hs:=m.s;simp only [SV.cells,Prg.e,List.cons_append,List.nil_append] at hs;have fs:=qd9 hT hs (Qb N);have hk1:Kp (fun _=>False) N O (O++[(N,AO.row 4 [[.fslice 1 [],.fslice 1 [],.fslice 2 [],.fslice 1 []]])]):=Kp.app (fun _ _ _=>rfl) (Qb _);have hT1:=hT.app1 (o:=AO.row 4 [[.fslice 1 [],.fslice 1 [],.fslice 2 [],.fslice 1 []]]) (Qb N);obtain ⟨w1,w2,w3,w4,V,O',N',e,h1,h2,h3,h4,h5⟩:=qjs c u hT1 (m.cm.re.kp hT hk1 (by simp));have ln:look N O'=some (.row 4 [[.fslice 1 [],.fslice 1 [],.fslice 2 [],.fslice 1 []]]):=h3.lk hT1 (by rw [qah,t0];simp) (by simp);simp [c_24,t0,qah,hs,e,ln,qad];refine ⟨w1,w2,w3,w4,V,_,N',rfl,?_,fun j hj=>by have:=h2 j hj;omega,?_,qao h4,by omega⟩
 ·refine h1.fr fun j hj=>?_
  have:=h2 j hj;rw [qad,if_neg (by omega)]
 ·intro j hj hx;rw [qad,if_neg (by omega),h3 j (by omega) hx,qah,show look j [(N,AO.row 4 [[.fslice 1 [],.fslice 1 [],.fslice 2 [],.fslice 1 []]])]=none by simp [look];omega];simp
theorem CfgT.s {c:Config} (t:CfgT c):CfgS c:=
 ⟨t.rl,fun l hl=>⟨(t.rs l hl).1,fun r hr=>⟨((t.rs l hl).2 r hr).kl,((t.rs l hl).2 r hr).al⟩⟩,t.nl,t.dl,fun d hd=>(t.ds d hd).1,t.gl,fun l hl=>(t.gs l hl).1⟩
theorem qpp {p:Prg} (op:p.Ok qa5):∀t∈p.tables,∀v∈t.dflt.args,ok32 0 v:=by
 intro t ht v hv;have:=op.2.2.2.2.2.1.2 t ht;simp only [Tbl.Ok,ActionCall.Ok] at this;exact this.2.2.2.1.2.2 v hv
section
variable {O:List (Nat×AO)} {N:Nat} {S:SV} {p:Prg} {c:Config}
theorem StoreM.se (m:StoreM O S p c):look S.s O=some (.row 15 [[S.v1,S.v2,S.v3,S.v4,.str p.name,.slice 2 (p.headers.map Header.c),.slice 2 (p.metadata.map Fld.c),.slice 3 (p.registers.map Register.c),.slice 3 (p.actions.map Action.c),.slice 6 (p.tables.map Tbl.c),.slice 7 (p.states.map ParserState.c),.slice 5 (p.control.map ControlNode.c),.slice 1 (p.deparser.map cI),S.vi,.bool true]]):=by
 have hs:=m.s;simp only [SV.cells,Prg.e,List.cons_append,List.nil_append] at hs;exact hs
theorem StoreM.l1 (m:StoreM O S p c):lenOf S.v1=some c.rows.length:=by
 have:=m.cm.r.len;rw [List.length_map,m.cm.rl] at this;exact this
theorem qiv (m:StoreM O S p c) (hl:c.rows.length=p.tables.length) (t:Int):qal Φ f_82 [.ptr S.s 15 0 0,.int .i64 t] ⟨O,N⟩=some (.val (.bool (inT p t)),⟨O,N⟩):=by
 rw [qbg (fn:=c_82) rfl rfl];have hs:=m.se;have l1:=m.l1;by_cases z:0<=t
 ·simp [c_82,hs,l1,z,inT,hl,-lenOf]
 ·simp [c_82,z,inT,-lenOf]
def rowI (p:Prg) (c:Config) (t id:Int):Int:=if inT p t then ((rIdx (qbi c t) id).map fun (j:Nat)=>(j:Int)).getD 0 else 0
def rowX (p:Prg) (c:Config) (t id:Int):Int:=if inT p t=false then 8 else if rIdx (qbi c t) id=none then 8 else 0
theorem StoreM.idx (m:StoreM O S p c) {k:Nat} (hk:k<c.rows.length):∃id es0,S.vi= .row id 1 0 c.rows.length/\look id O=some (.row 1 es0)/\c.rows.length<=es0.length/\∃hM:k<S.M.length,es0[k]? =some [.map (S.M[k])]/\look (S.M[k]) O=some (.map (ents c.rows[k])):=by
 have hl:=m.x.len;obtain ⟨id,es0,e,hl1,hle,ht⟩:=m.x.i.nonempty (by simp;omega);rw [List.length_map,hl] at e hle;have hM:k<S.M.length:=by omega
 refine ⟨id,es0,e,hl1,hle,hM,qfi hM ht,m.x.m k _ _ (Qa hM) (Qa hk)⟩
theorem StoreM.tab (m:StoreM O S p c) {k:Nat} (hk:k<c.rows.length):∃id es0,S.v1= .row id 1 0 c.rows.length/\look id O=some (.row 1 es0)/\c.rows.length<=es0.length/\(∃hV:k<S.V.length,es0[k]? =some [S.V[k]]/\Mu O 5 S.V[k] (c.rows[k].map Rw.c))/\es0.take c.rows.length=S.V.map fun x=>[x]:=by
 have hl:=m.cm.rl;obtain ⟨id,es0,e,hl1,hle,ht⟩:=m.cm.r.nonempty (by simp;omega);have ht':=ht;rw [List.length_map,hl] at e hle ht';have hV:k<S.V.length:=by omega
 refine ⟨id,es0,e,hl1,hle,⟨hV,qfi hV ht,m.cm.rv k _ _ (Qa hV) (Qa hk)⟩,ht'⟩
theorem qaap (m:StoreM O S p c) (hl:c.rows.length=p.tables.length) (t id:Int):qal Φ f_91 [.ptr S.s 15 0 0,.int .i64 t,.int .i64 id] ⟨O,N⟩=some (.val (.tup [.int .i64 (rowI p c t id),.int .i64 (rowX p c t id)]),⟨O,N⟩):=by
 rw [qbg (fn:=c_91) rfl rfl];have hs:=m.se;have ht:=qiv (N:=N) m hl t;cases z:inT p t with
 | false=>
  rw [z] at ht;simp [c_91,hs,ht,rowI,rowX,z]
 | true=>
  rw [z] at ht;obtain ⟨k,rfl,hk⟩:=qc6 z;have hk':k<c.rows.length:=by omega
  obtain ⟨iid,es0,e,hi,hle,hM,g1,g2⟩:=m.idx hk';rw [e] at hs;have hf:=qzq id c.rows[k];have hke:k<es0.length:=by omega
  have hrow:qbi c (k:Int)=c.rows[k]:=qbr hk';cases hx:rIdx c.rows[k] id with
  | none=>
   rw [hx] at hf;simp [c_91,hs,ht,hi,hk',g1,g2,hf,rowI,rowX,z,hrow,hx]
  | some i=>
   rw [hx] at hf;simp [c_91,hs,ht,hi,hk',g1,g2,hf,rowI,rowX,z,hrow,hx]
theorem qaha (m:StoreM O S p c) (hl:c.rows.length=p.tables.length) (t:Int):qal Φ f_32 [.ptr S.s 15 0 0,.int .i64 t] ⟨O,N⟩=some (.val (.int .i64 (if inT p t then (qbi c t).length else 0:Nat)),⟨O,N⟩):=by
 rw [qbg (fn:=c_32) rfl rfl];have hs:=m.se;have ht:=qiv (N:=N) m hl t;cases z:inT p t with
 | false=>
  rw [z] at ht;simp [c_32,hs,ht]
 | true=>
  rw [z] at ht;obtain ⟨k,rfl,hk⟩:=qc6 z;have hk':k<c.rows.length:=by omega
  obtain ⟨rid,es0,e,hi,hle,⟨hV,g1,g2⟩,_⟩:=m.tab hk';rw [e] at hs;have hrow:qbi c (k:Int)=c.rows[k]:=qbr hk';have hvl:=g2.len;rw [List.length_map] at hvl;simp [c_32,hs,ht,hi,hk',g1,hvl,hrow,-lenOf]
end
def MDpost (N:Nat) (O:List (Nat×AO)) (S:SV) (p:Prg) (c':Config) (v:AV) (r:Option (Rt×AH)):Prop:=
 ∃S' O' N',r=some (.val v,⟨O',N'⟩)/\StoreM O' S' p c'/\S'.s=S.s/\(∀j,S'.own j->S.own j\/N<=j)/\Kp (fun j=>S.own j\/Rs O j) N O O'/\Tail O' N'/\N<=N'
theorem Mu.upd {O':List (Nat×AO)} {id z k:Nat} {es es0:List (List AV)} {y:List AV} (hl:look id O'=some (.row z (es0.set k y))) (hle:es.length<=es0.length) (ht:es0.take es.length=es):Mu O' z (.row id z 0 es.length) (es.set k y):=
 .row id _ _ _ (by simp) hl (by simpa using hle) (by rw [List.length_set,List.take_set,ht])
theorem qsh {O:List (Nat×AO)} {N:Nat} {S:SV} {p:Prg} {c:Config} (m:StoreM O S p c) (f:PrgS p) (hl:c.rows.length=p.tables.length) (hd:c.defaults.length=p.tables.length) (hT:Tail O N) (t:Int) (x:ActionCall) (hx:x.args.length<2^40):
  MDpost N O S p (if defE p t x=0 then defC c t x else c) (.int .i64 (defE p t x)) (qal Φ f_81 [.ptr S.s 15 0 0,.int .i64 t,.agg (ActionCall.c x)] ⟨O,N⟩):=by
 rw [qbg (fn:=c_81) rfl rfl];have t0:=hT N (Qb _);have hk1:Kp (fun j=>S.own j\/Rs O j) N O (O++[(N,AO.row 2 [ActionCall.c x])]):=Kp.app (fun _ _ _=>rfl) (Qb _);have hT1:=hT.app1 (o:=AO.row 2 [ActionCall.c x]) (Qb N);have m1:StoreM (O++[(N,AO.row 2 [ActionCall.c x])]) S p c:=m.kp (X:=fun _=>False) hT (Kp.app (fun _ _ _=>rfl) (Qb _)) (by simp);have b1:look N (O++[(N,AO.row 2 [ActionCall.c x])])=some (.row 2 [ActionCall.c x]):=by rw [qah,t0];simp
 have same:MDpost N O S p c (.int .i64 (defE p t x)) (some (.val (.int .i64 (defE p t x)),⟨O++[(N,AO.row 2 [ActionCall.c x])],N+1⟩)):=
  ⟨S,_,_,rfl,m1,rfl,fun j hj=> .inl hj,hk1,hT1,by omega⟩
 have hs:=m1.se;have ht:=qiv (N:=N+1) m1 hl t;have hc:=qoq p f t x hx;have hcl:=qko x hx;simp only [Prg.e] at hc;simp only [ActionCall.ce] at b1 hs ht hc hcl same;cases z:inT p t with
 | false=>
  have hE:defE p t x=8:=by simp [defE,z]
  rw [z] at ht;rw [hE] at same ⊢;simp [c_81,ActionCall.ce,t0,hs,ht];exact same
 | true=>
  have hE:defE p t x=qbb p t x:=by simp [defE,z]
  rw [z] at ht;rw [hE] at same ⊢;by_cases q:qbb p t x=0
  ·obtain ⟨k,rfl,hk⟩:=qc6 z;have hk':k<c.defaults.length:=by omega
   obtain ⟨did,es0,e,hi,hle,htk⟩:=m1.cm.d.nonempty (by simp;omega);rw [List.length_map] at e hle;rw [e] at hs;have hke:k<es0.length:=by omega
   have g1:=qfi hk' htk;rw [q] at hc ⊢;simp only [ActionCall.ce] at hi;simp [c_81,ActionCall.ce,t0,hs,ht,hc,hcl,b1,hk',hi,g1];have hown:S.own did:= .inr (.inl (.inr (.inr (.inl (by rw [e];rfl)))));refine ⟨S,_,_,rfl,?_,rfl,fun j hj=> .inl hj,Kp.setl (by simpa only [ActionCall.ce] using hk1) (.inr (.inl hown)),qao (by simpa only [ActionCall.ce] using hT1),by omega⟩;simp only [<- ActionCall.ce] at hi ⊢;have keep:∀j o,look j (O++[(N,AO.row 2 [ActionCall.c x])])=some o->(∀es,o≠ .row 2 es)->look j (setl did (.row 2 (es0.set k (ActionCall.c x))) (O++[(N,AO.row 2 [ActionCall.c x])]))=look j (O++[(N,AO.row 2 [ActionCall.c x])]):=by
    intro j o ho hne;have hji:=qaw ho hi (hne _);rw [qad,if_neg hji]
   have kmu:∀z v es,z≠2->Mu (O++[(N,AO.row 2 [ActionCall.c x])]) z v es->Mu (setl did (.row 2 (es0.set k (ActionCall.c x))) (O++[(N,AO.row 2 [ActionCall.c x])])) z v es:=by
    intro z v es hz hm;refine hm.fr fun j hj=>?_
    obtain ⟨es1,h1⟩:=hm.own hj;exact keep j _ h1 (by intro es2 h2;cases h2;exact hz rfl)
   refine ⟨?_,⟨kmu _ _ _ (by decide) m1.cm.r,m1.cm.rl,fun a v l hv hl=>kmu _ _ _ (by decide) (m1.cm.rv a v l hv hl),kmu _ _ _ (by decide) m1.cm.n,?_,m1.cm.g,m1.cm.rn,m1.cm.vi,m1.cm.va⟩,⟨kmu _ _ _ (by decide) m1.x.i,m1.x.len,?_,m1.x.nd⟩,m1.ri,m1.ni⟩
   ·rw [keep S.s _ m1.s (by simp)];exact m1.s
   ·have hmu:Mu (setl did (.row 2 (es0.set k (ActionCall.c x))) (O++[(N,AO.row 2 [ActionCall.c x])])) 2 (.row did 2 0 (c.defaults.map ActionCall.c).length) ((c.defaults.map ActionCall.c).set k (ActionCall.c x)):=
     Mu.upd (by rw [qad,if_pos rfl,hi];rfl) (by simpa using hle) htk
    rw [e];rw [<- List.map_set,List.length_map] at hmu;exact hmu
   ·intro a b l ha hl2;have h0:=m1.x.m a b l ha hl2;rw [keep b _ h0 (by simp)];exact h0
  ·simp [c_81,ActionCall.ce,t0,hs,ht,hc,b1,q];exact same
theorem qrm:∀(l l':List Rw) (n:Nat),l.length=l'.length->(∀(j:Nat) (h1:j<l.length) (h2:j<l'.length),l[j].id=l'[j].id)->qeb l n=qeb l' n
 | [],[],n,_,_=>rfl
 | [],_::_,n,h,_=>by simp at h
 | _::_,[],n,h,_=>by simp at h
 | a::l,b::l',n,h,hi=>by
  have h0:=hi 0 (by simp) (by simp);simp at h0;simp only [qeb,h0];rw [qrm l l' (n+1) (by simpa using h) fun j h1 h2=>by
   have:=hi (j+1) (by simp;omega) (by simp;omega);simpa using this]
theorem qabt {l l':List Rw} (h:l.length=l'.length) (hi:∀(j:Nat) (h1:j<l.length) (h2:j<l'.length),l[j].id=l'[j].id):ents l=ents l':=qrm l l' 0 h hi
def SV.chg (S:SV) (k j:Nat):Prop:=(∃v,S.V[k]? =some v/\vid v=some j)\/vid S.v1=some j\/vid S.v2=some j\/vid S.vi=some j\/S.M[k]? =some j
def SV.tab (S:SV) (k:Nat) (v:AV) (m:Nat):SV:=⟨S.s,S.v1,S.v2,S.v3,S.v4,S.vi,S.V.set k v,S.M.set k m⟩
section
variable {O O':List (Nat×AO)} {S:SV} {p:Prg} {c:Config} {k:Nat}
theorem StoreM.vrow (m:StoreM O S p c) {j:Nat} {v:AV} {i:Nat} (hv:S.V[j]? =some v) (hi:vid v=some i):∃es,look i O=some (.row 5 es):=by
 have hj:=(Qm.1 hv).1;exact (m.cm.rv j v _ hv (Qa (by rw [<- m.cm.rl];exact hj))).own hi
theorem StoreM.mmap (m:StoreM O S p c) {j i:Nat} (hv:S.M[j]? =some i):∃es,look i O=some (.map es):=by
 have hj:=(Qm.1 hv).1;exact ⟨_,m.x.m j i _ hv (Qa (by rw [<- m.x.len];exact hj))⟩
theorem StoreM.upd (m:StoreM O S p c) (hk:k<c.rows.length) {v':AV} {m':Nat} {l':List Rw} {nx:Int}
  (keep:∀j,S.own j->¬S.chg k j->look j O'=look j O)
  (h1:Mu O' 1 S.v1 ((S.V.set k v').map fun x=>[x])) (h2:Mu O' 1 S.v2 ((c.nextID.set k nx).map cI)) (h3:Mu O' 1 S.vi ((S.M.set k m').map fun x=>[.map x])) (h4:Mu O' 5 v' (l'.map Rw.c)) (h5:look m' O'=some (.map (ents l')))
  (h6:∀z es t,v'≠ .app z es t) (d1:∀i,vid v'=some i->(∃v,S.V[k]? =some v/\vid v=some i)\/∀x,look i O=some x->x= .res) (d2:S.M[k]? =some m'\/∀x,look m' O=some x->x= .res):
  StoreM O' (S.tab k v' m') p ⟨c.rows.set k l',c.nextID.set k nx,c.defaults,c.registers⟩:=by
 have hVl:=m.cm.rl;have hMl:=m.x.len;have ks:look S.s O'=look S.s O:=by
  refine keep S.s (.inl rfl) ?_;rintro (⟨v,hv,hi⟩ | hi | hi | hi | hi)
  ·obtain ⟨es,hl⟩:=m.vrow hv hi;exact qaw m.s hl (by simp) rfl
  ·obtain ⟨es,hl⟩:=m.cm.r.own hi;exact qaw m.s hl (by simp) rfl
  ·obtain ⟨es,hl⟩:=m.cm.n.own hi;exact qaw m.s hl (by simp) rfl
  ·obtain ⟨es,hl⟩:=m.x.i.own hi;exact qaw m.s hl (by simp) rfl
  ·obtain ⟨es,hl⟩:=m.mmap hi;exact qaw m.s hl (by simp) rfl
 have kv:∀(j:Nat) (v:AV) (i:Nat),j≠k->S.V[j]? =some v->vid v=some i->look i O'=look i O:=by
  intro j v i hj hv hi;obtain ⟨es0,hl0⟩:=m.vrow hv hi;refine keep i (.inr (.inl (.inr (.inr (.inr ⟨v,Qe hv,hi⟩))))) ?_;rintro (⟨w,hw,hi'⟩ | hi' | hi' | hi' | hi')
  ·exact hj (m.cm.vi j k v w i hv hw hi hi')
  ·obtain ⟨es,hl⟩:=m.cm.r.own hi';exact qaw hl0 hl (by simp) rfl
  ·obtain ⟨es,hl⟩:=m.cm.n.own hi';exact qaw hl0 hl (by simp) rfl
  ·obtain ⟨es,hl⟩:=m.x.i.own hi';exact qaw hl0 hl (by simp) rfl
  ·obtain ⟨es,hl⟩:=m.mmap hi';exact qaw hl0 hl (by simp) rfl
 have km:∀(j i:Nat),j≠k->S.M[j]? =some i->look i O'=look i O:=by
  intro j i hj hv;obtain ⟨es0,hl0⟩:=m.mmap hv;refine keep i (.inr (.inr (.inr (Qe hv)))) ?_;rintro (⟨w,hw,hi'⟩ | hi' | hi' | hi' | hi')
  ·obtain ⟨es,hl⟩:=m.vrow hw hi';exact qaw hl0 hl (by simp) rfl
  ·obtain ⟨es,hl⟩:=m.cm.r.own hi';exact qaw hl0 hl (by simp) rfl
  ·obtain ⟨es,hl⟩:=m.cm.n.own hi';exact qaw hl0 hl (by simp) rfl
  ·obtain ⟨es,hl⟩:=m.x.i.own hi';exact qaw hl0 hl (by simp) rfl
  ·exact hj (m.x.nd j k i hv hi')
 have kd:Mu O' 2 S.v3 (c.defaults.map ActionCall.c):=by
  refine m.cm.d.fr fun i hi=>?_
  obtain ⟨es0,hl0⟩:=m.cm.d.own hi;refine keep i (.inr (.inl (.inr (.inr (.inl hi))))) ?_;rintro (⟨w,hw,hi'⟩ | hi' | hi' | hi' | hi')
  ·obtain ⟨es,hl⟩:=m.vrow hw hi';exact qaw hl0 hl (by simp) rfl
  ·obtain ⟨es,hl⟩:=m.cm.r.own hi';exact qaw hl0 hl (by simp) rfl
  ·obtain ⟨es,hl⟩:=m.cm.n.own hi';exact qaw hl0 hl (by simp) rfl
  ·obtain ⟨es,hl⟩:=m.x.i.own hi';exact qaw hl0 hl (by simp) rfl
  ·obtain ⟨es,hl⟩:=m.mmap hi';exact qaw hl0 hl (by simp) rfl
 have other:∀(j:Nat) (v:AV) (i:Nat),j≠k->S.V[j]? =some v->vid v=some i->vid v'=some i->False:=by
  intro j v i hj hv hi hi';rcases d1 i hi' with ⟨w,hw,hw'⟩ | hf
  ·exact hj (m.cm.vi j k v w i hv hw hi hw')
  ·obtain ⟨es,hl⟩:=m.vrow hv hi;have:=hf _ hl;cases this
 refine ⟨?_,⟨h1,by simp [SV.tab,hVl],?_,h2,kd,m.cm.g,m.cm.rn,?_,?_⟩,⟨h3,by simp [SV.tab,hMl],?_,?_⟩,m.ri,m.ni⟩
 ·show look S.s O'=_;rw [ks];exact m.s
 ·intro j v l hv hl;simp only [SV.tab] at hv;by_cases hj:k=j
  ·subst hj;rw [List.getElem?_set_self (by omega)] at hv hl;cases hv;cases hl;exact h4
  ·rw [List.getElem?_set_ne hj] at hv hl;have h0:=m.cm.rv j v l hv hl;exact h0.fr fun i hi=>kv j v i (fun e=>hj e.symm) hv hi
 ·intro a b v w i ha hb hi hi';simp only [SV.tab] at ha hb;by_cases hka:k=a
  ·by_cases hkb:k=b
   ·omega
   ·subst hka;rw [List.getElem?_set_self (by omega)] at ha;rw [List.getElem?_set_ne hkb] at hb;cases ha;exact (other b w i (fun e=>hkb e.symm) hb hi' hi).elim
  ·by_cases hkb:k=b
   ·subst hkb;rw [List.getElem?_set_self (by omega)] at hb;rw [List.getElem?_set_ne hka] at ha;cases hb;exact (other a v i (fun e=>hka e.symm) ha hi hi').elim
   ·rw [List.getElem?_set_ne hka] at ha;rw [List.getElem?_set_ne hkb] at hb;exact m.cm.vi a b v w i ha hb hi hi'
 ·intro v hv;simp only [SV.tab] at hv;rcases Qq hv with hv | rfl
  ·exact m.cm.va v hv
  ·exact h6
 ·intro j i l hi hl;simp only [SV.tab] at hi;by_cases hj:k=j
  ·subst hj;rw [List.getElem?_set_self (by omega)] at hi hl;cases hi;cases hl;exact h5
  ·rw [List.getElem?_set_ne hj] at hi hl;rw [km j i (fun e=>hj e.symm) hi];exact m.x.m j i l hi hl
 ·intro a b i ha hb;simp only [SV.tab] at ha hb;have oth:∀j,j≠k->S.M[j]? =some m'->False:=by
   intro j hj hv;rcases d2 with h0 | hf
   ·exact hj (m.x.nd j k m' hv h0)
   ·obtain ⟨es,hl⟩:=m.mmap hv;have:=hf _ hl;cases this
  by_cases hka:k=a
  ·by_cases hkb:k=b
   ·omega
   ·subst hka;rw [List.getElem?_set_self (by omega)] at ha;rw [List.getElem?_set_ne hkb] at hb;cases ha;exact (oth b (fun e=>hkb e.symm) hb).elim
  ·by_cases hkb:k=b
   ·subst hkb;rw [List.getElem?_set_self (by omega)] at hb;rw [List.getElem?_set_ne hka] at ha;cases hb;exact (oth a (fun e=>hka e.symm) ha).elim
   ·rw [List.getElem?_set_ne hka] at ha;rw [List.getElem?_set_ne hkb] at hb;exact m.x.nd a b i ha hb
end
theorem qac1 {p:Prg} {c:Config} {t id:Int} {x:ActionCall}:modE p c t id x=if rowX p c t id=0 then qbb p t x else rowX p c t id:=by
 unfold modE rowX;split
 ·simp
 split
 ·simp
 ·simp
theorem qrd {O:List (Nat×AO)} {N:Nat} {S:SV} {p:Prg} {c:Config} (m:StoreM O S p c) (f:PrgS p) (hl:c.rows.length=p.tables.length) (hT:Tail O N) (t id:Int) (x:ActionCall) (hx:x.args.length<2^40):
  MDpost N O S p (if modE p c t id x=0 then modC c t id x else c) (.int .i64 (modE p c t id x)) (qal Φ f_34 [.ptr S.s 15 0 0,.int .i64 t,.int .i64 id,.agg (ActionCall.c x)] ⟨O,N⟩):=by
 rw [qbg (fn:=c_34) rfl rfl];have t0:=hT N (Qb _);have hk1:Kp (fun j=>S.own j\/Rs O j) N O (O++[(N,AO.row 2 [ActionCall.c x])]):=Kp.app (fun _ _ _=>rfl) (Qb _);have hT1:=hT.app1 (o:=AO.row 2 [ActionCall.c x]) (Qb N);have m1:StoreM (O++[(N,AO.row 2 [ActionCall.c x])]) S p c:=m.kp (X:=fun _=>False) hT (Kp.app (fun _ _ _=>rfl) (Qb _)) (by simp);have b1:look N (O++[(N,AO.row 2 [ActionCall.c x])])=some (.row 2 [ActionCall.c x]):=by rw [qah,t0];simp
 have same:MDpost N O S p c (.int .i64 (modE p c t id x)) (some (.val (.int .i64 (modE p c t id x)),⟨O++[(N,AO.row 2 [ActionCall.c x])],N+1⟩)):=
  ⟨S,_,_,rfl,m1,rfl,fun j hj=> .inl hj,hk1,hT1,by omega⟩
 have hs:=m1.se;have hr:=qaap (N:=N+1) m1 hl t id;have hc:=qoq p f t x hx;have hcl:=qko x hx;have hE:=qac1 (p:=p) (c:=c) (t:=t) (id:=id) (x:=x);simp only [Prg.e] at hc;simp only [ActionCall.ce] at b1 hs hr hc hcl same;by_cases z:rowX p c t id=0
 rotate_left
 ·rw [if_neg z] at hE;rw [hE] at same ⊢;simp [c_34,ActionCall.ce,t0,hr,z];exact same
 rw [if_pos z] at hE;by_cases q:qbb p t x=0
 rotate_left
 ·rw [hE] at same ⊢;simp [c_34,ActionCall.ce,t0,hr,hs,z,b1,hc,q];exact same
 have hE0:modE p c t id x=0:=by rw [hE,q]
 rw [hE0] at same ⊢;cases hi:inT p t with
 | false=>simp [rowX,hi] at z
 | true=>
 obtain ⟨k,rfl,hk⟩:=qc6 hi;have hk':k<c.rows.length:=by omega
 have hrow:qbi c (k:Int)=c.rows[k]:=qbr hk';cases hx2:rIdx c.rows[k] id with
 | none=>simp [rowX,hi,hrow,hx2] at z
 | some i=>
 obtain ⟨hil,hid⟩:=qgb hx2;have hI:rowI p c k id=i:=by simp [rowI,hi,hrow,hx2]
 have hM:modC c (k:Int) id x=⟨c.rows.set k (c.rows[k].modify i (qbs x)),c.nextID,c.defaults,c.registers⟩:=by
  unfold modC;rw [hrow,hx2];simp
 rw [z,hI] at hr;obtain ⟨rid,es1,e1,lr,hle1,⟨hV,g1,g5⟩,ht1⟩:=m1.tab hk';obtain ⟨r5,es5,e5,l5,hle5,ht5⟩:=g5.nonempty (by simp;omega);rw [List.length_map] at e5 hle5;rw [e1] at hs;rw [e5] at g1;have g2:=qfi hil ht5;have hi5:i<es5.length:=by omega
 have hlr:=lr;have hl5:=l5;simp only [ActionCall.ce] at hlr hl5;rw [q] at hc;rw [if_pos rfl,hM];simp [c_34,ActionCall.ce,t0,hr,hs,b1,hc,hcl,hlr,hk',g1,hl5,hil,g2,Rw.ce];simp only [<- ActionCall.ce] at hl5 ⊢;have ho:S.own r5:= .inr (.inl (.inr (.inr (.inr ⟨S.V[k],Qd hV,by rw [e5];rfl⟩))));have hch:∀j,¬S.chg k j->j≠r5:=fun j hj e=>hj (.inl ⟨S.V[k],Qa hV,by rw [e5,e];rfl⟩)
 have hMl:=m1.x.len;have hMk:k<S.M.length:=by omega
 have hnx:k<c.nextID.length\/c.nextID.length<=k:=by omega
 have keep:∀j,j≠r5->look j (setl r5 (.row 5 (es5.set i [.int .i64 c.rows[k][i].id,.slice 2 (c.rows[k][i].entry.keys.map KeyMatch.c),.int .i64 c.rows[k][i].entry.priority,.int .i64 x.action,.slice 1 (x.args.map c32)])) (O++[(N,AO.row 2 [ActionCall.c x])]))=look j (O++[(N,AO.row 2 [ActionCall.c x])]):=fun j hj=>by rw [qad,if_neg hj]
 have kmu:∀z v es,z≠5->Mu (O++[(N,AO.row 2 [ActionCall.c x])]) z v es->Mu (setl r5 (.row 5 (es5.set i [.int .i64 c.rows[k][i].id,.slice 2 (c.rows[k][i].entry.keys.map KeyMatch.c),.int .i64 c.rows[k][i].entry.priority,.int .i64 x.action,.slice 1 (x.args.map c32)])) (O++[(N,AO.row 2 [ActionCall.c x])])) z v es:=by
  intro z v es hz hm;refine hm.fr fun j hj=>?_
  obtain ⟨es1,h1⟩:=hm.own hj;exact keep j (qaw h1 l5 (by simp [hz]))
 have up:=m1.upd (k:=k) (v':=S.V[k]) (m':=S.M[k]) (l':=c.rows[k].modify i (qbs x)) (nx:=(c.nextID[k]?).getD 0) (O':=setl r5 (.row 5 (es5.set i [.int .i64 c.rows[k][i].id,.slice 2 (c.rows[k][i].entry.keys.map KeyMatch.c),.int .i64 c.rows[k][i].entry.priority,.int .i64 x.action,.slice 1 (x.args.map c32)])) (O++[(N,AO.row 2 [ActionCall.c x])])) hk'
  (fun j _ hj=>keep j (hch j hj)) (by simpa using kmu _ _ _ (by decide) m1.cm.r)
  (by
   have hset:c.nextID.set k ((c.nextID[k]?).getD 0)=c.nextID:=by
    rcases hnx with h | h
    ·rw [Qa h];simp
    ·rw [List.set_eq_of_length_le h]
   rw [hset];exact kmu _ _ _ (by decide) m1.cm.n)
  (by simpa using kmu _ _ _ (by decide) m1.x.i)
  (by
   have hmu:=Mu.upd (O':=setl r5 (.row 5 (es5.set i [.int .i64 c.rows[k][i].id,.slice 2 (c.rows[k][i].entry.keys.map KeyMatch.c),.int .i64 c.rows[k][i].entry.priority,.int .i64 x.action,.slice 1 (x.args.map c32)])) (O++[(N,AO.row 2 [ActionCall.c x])])) (id:=r5) (z:=5) (k:=i) (es:=c.rows[k].map Rw.c) (es0:=es5)
    (y:=[.int .i64 c.rows[k][i].id,.slice 2 (c.rows[k][i].entry.keys.map KeyMatch.c),.int .i64 c.rows[k][i].entry.priority,.int .i64 x.action,.slice 1 (x.args.map c32)]) (by rw [qad,if_pos rfl,l5];rfl) (by simpa using hle5) ht5
   have hlist:(c.rows[k].map Rw.c).set i [.int .i64 c.rows[k][i].id,.slice 2 (c.rows[k][i].entry.keys.map KeyMatch.c),.int .i64 c.rows[k][i].entry.priority,.int .i64 x.action,.slice 1 (x.args.map c32)]=(c.rows[k].modify i (qbs x)).map Rw.c:=by
    refine List.ext_getElem (by simp) fun j h1 h2=>?_
    rw [List.getElem_set,List.getElem_map,List.getElem_map,List.getElem_modify];split
    ·rename_i e;subst e;simp [Rw.ce,qbs]
    ·simp
   rw [hlist,List.length_map] at hmu;rw [e5];exact hmu)
  (by
   have h0:=m1.x.m k _ _ (Qa hMk) (Qa hk');have hents:ents (c.rows[k].modify i (qbs x))=ents c.rows[k]:=qabt (by simp) fun j h1 h2=>by
    rw [List.getElem_modify];split<;>rfl
   rw [keep _ (qaw h0 l5 (by simp)),h0,hents])
  (m1.cm.va _ (Qd hV)) (fun i hi=> .inl ⟨_,Qa hV,hi⟩) (.inl (Qa hMk))
 have htab:S.tab k S.V[k] S.M[k]=S:=by
  cases S;simp [SV.tab]
 rw [htab] at up;have hset:c.nextID.set k ((c.nextID[k]?).getD 0)=c.nextID:=by
  rcases hnx with h | h
  ·rw [Qa h];simp
  ·rw [List.set_eq_of_length_le h]
 rw [hset] at up;exact ⟨S,_,_,rfl,up,rfl,fun j hj=> .inl hj,Kp.setl hk1 (.inr (.inl ho)),qao hT1,by omega⟩
end Go.Av
