/-
 store.cloneConfig makes a mutable copy of what it reads, and changes nothing else.
-/
import Derived.Test.YtknmfocedphgmaaGreatQ2
set_option linter.unusedVariables false
set_option linter.unusedSimpArgs false
set_option linter.constructorNameAsVariable false
namespace Go.Av
set_option maxRecDepth 4000
structure CfgR (O:List (Nat×AO)) (v1 v2 v3 v4:AV) (A:List AV) (c:Xf):Prop where
 r:RowsR O v1 A c.rows
 n:Re O 1 v2 (c.Xr.map cI)
 d:Re O 2 v3 (c.Xq.map Xb.c)
 g:Im 1 v4 (c.Xm.map (cS 1 c32))
structure CfgU (c:Xf):Prop where
 t:CfgT c
 u:∀l∈c.rows,l.length<2^39
theorem CfgR.kp {O O':List (Nat×AO)} {v1 v2 v3 v4:AV} {A:List AV} {c:Xf} {N:Nat} {X:Nat->Prop} (h:CfgR O v1 v2 v3 v4 A c) (hT:Tail O N) (hk:Kp X N O O') (hx:∀j,X j->look j O=none\/N<=j):CfgR O' v1 v2 v3 v4 A c:=
 ⟨⟨h.r.v.kp hT hk hx,h.r.len,fun k x l ha hl=>(h.r.at_ k x l ha hl).kp hT hk hx⟩,h.n.kp hT hk hx,h.d.kp hT hk hx,h.g⟩
def qvn (N:Nat) (O:List (Nat×AO)) (c:Xf) (r:Option (Rt×AH)):Prop:=
 ∃w1 w2 w3 w4 V O' N',r=some (.val (.agg [w1,w2,w3,w4]),⟨O',N'⟩)/\CfgM O' w1 w2 w3 w4 V c/\(∀j,CfgM.own w1 w2 w3 V j->N<=j)/\Kp (fun _=>False) N O O'/\Tail O' N'/\N<=N'
theorem qip (c:Xf) (s:CfgU c) {v1 v2 v3 v4:AV} {A:List AV} {O:List (Nat×AO)} {N:Nat} (hT:Tail O N) (h:CfgR O v1 v2 v3 v4 A c):qvn N O c (qai Φ f_226 [.agg [v1,v2,v3,v4]] ⟨O,N⟩):=by
 rw [qat (fn:=c_226) rfl rfl];have t0:=hT N (Qb _);have t1:=hT (N+1) (by omega);have hT1:Tail (O++[(N,AO.row 4 [[v1,v2,v3,v4]]),(N+1,AO.row 4 [[.Xu 1 [],.Xu 1 [],.Xu 2 [],.Xu 1 []]])]) (N+1+1):=by
  rw [Tail_append_iff,Tail_cons_iff,Tail_cons_iff];exact ⟨hT.mono (by omega),by omega,by omega,Tail.nil _⟩
 have hk1:Kp (fun _=>False) N O (O++[(N,AO.row 4 [[v1,v2,v3,v4]]),(N+1,AO.row 4 [[.Xu 1 [],.Xu 1 [],.Xu 2 [],.Xu 1 []]])]):=Kp.appL (fun _ _ _=>rfl) (by simp);have hR1:=h.kp hT hk1 (by simp);have hc1:=hR1.n.cells;have c1:=h.r.v.cells;have c2:=h.n.cells;have c3:=h.d.cells;have c4:AV.cells v4=some [v4]:=by rcases h.g with e | e | ⟨t,e⟩<;>subst e<;>rfl
 simp [c_226,t0,t1];generalize hO1:O++[(N,AO.row 4 [[v1,v2,v3,v4]]),(N+1,AO.row 4 [[.Xu 1 [],.Xu 1 [],.Xu 2 [],.Xu 1 []]])]=O1 at hT1 hk1 hR1 ⊢;have lb1:look N O1=some (.row 4 [[v1,v2,v3,v4]]):=by rw [<- hO1];simp [t0]
 have lb2:look (N+1) O1=some (.row 4 [[.Xu 1 [],.Xu 1 [],.Xu 2 [],.Xu 1 []]]):=by rw [<- hO1];simp [t1]
 obtain ⟨w2,o2,e2,m2,fw2⟩:=qabu hT1 hR1.n s.t.nl;rw [e2];have n1:¬N+1+1=N:=by omega
 have t2:=hT1 (N+1+1) (Qb _);have t3:=hT1 (N+1+1+1) (by omega);have m2c:=m2.cells;have l1:=h.r.v.len;rw [QAb,h.r.len] at l1;simp [t3,qab,lb1,m2c,l1,-AV.cells,-lenOf];have hT2:Tail (O1++[(N+1+1,o2),(N+1+1+1,AO.row 4 [[.Xu 1 [],w2,.Xu 2 [],.Xu 1 []]])]) (N+1+1+1+1):=by
  rw [Tail_append_iff,Tail_cons_iff,Tail_cons_iff];exact ⟨hT1.mono (by omega),by omega,by omega,Tail.nil _⟩
 have hk2:Kp (fun _=>False) (N+1+1) O1 (O1++[(N+1+1,o2),(N+1+1+1,AO.row 4 [[.Xu 1 [],w2,.Xu 2 [],.Xu 1 []]])]):=Kp.appL (fun _ _ _=>rfl) (by simp);have hR2:=hR1.kp hT1 hk2 (by simp);have lb3:look (N+1+1+1) (O1++[(N+1+1,o2),(N+1+1+1,AO.row 4 [[.Xu 1 [],w2,.Xu 2 [],.Xu 1 []]])])=some (.row 4 [[.Xu 1 [],w2,.Xu 2 [],.Xu 1 []]]):=by
  have:¬N+1+1=N+1+1+1:=by omega
  rw [qab,t3];simp
 have m2':Mu (O1++[(N+1+1,o2),(N+1+1+1,AO.row 4 [[.Xu 1 [],w2,.Xu 2 [],.Xu 1 []]])]) 1 w2 (c.Xr.map cI):=by
  refine m2.fr fun j hj=>?_
  obtain ⟨es0,hl⟩:=m2.own hj;have hlt:=(hT1.app1 (o:=o2) (Qb _)).lt hl;have:¬N+1+1+1=j:=by omega
  rw [show O1++[(N+1+1,o2),(N+1+1+1,AO.row 4 [[.Xu 1 [],w2,.Xu 2 [],.Xu 1 []]])]=(O1++[(N+1+1,o2)])++[(N+1+1+1,AO.row 4 [[.Xu 1 [],w2,.Xu 2 [],.Xu 1 []]])] by simp];rw [qab (b:=[(N+1+1+1,_)])];simp [this]
 have lc1:look N (O1++[(N+1+1,o2),(N+1+1+1,AO.row 4 [[.Xu 1 [],w2,.Xu 2 [],.Xu 1 []]])])=some (.row 4 [[v1,v2,v3,v4]]):=by rw [qab,lb1];rfl
 have lc2:look (N+1) (O1++[(N+1+1,o2),(N+1+1+1,AO.row 4 [[.Xu 1 [],w2,.Xu 2 [],.Xu 1 []]])])=some (.row 4 [[.Xu 1 [],.Xu 1 [],.Xu 2 [],.Xu 1 []]]):=by rw [qab,lb2];rfl
 have hk12:=hk1.trans hk2 (by omega);generalize O1++[(N+1+1,o2),(N+1+1+1,AO.row 4 [[.Xu 1 [],w2,.Xu 2 [],.Xu 1 []]])]=O2 at hT2 hR2 lb3 m2' lc1 lc2 hk12 ⊢;refine qabp c.rows s.t.rl (fun l hl=>⟨s.u l hl,(s.t.rs l hl).2⟩) v1 w2 A (N+1+1+1) _ _ _ O2 _ hT2 hR2.r lb3 ?_ ?_ ?_ ?_ ?_
 ·simp
 ·simp
 ·simp
 ·simp
 intro e3 O3 N3 w1 V mw1 fw1 hV hk3 hT3 hN3 lb3' g1 g2 g3;simp at g1 g2 g3;have hx:∀j,j=N+1+1+1->look j O1=none\/N+1+1<=j:=fun j hj=> .inr (by omega)
 have ld1:look N O3=some (.row 4 [[v1,v2,v3,v4]]):=hk3.lk hT2 lc1 (by omega);have ld2:look (N+1) O3=some (.row 4 [[.Xu 1 [],.Xu 1 [],.Xu 2 [],.Xu 1 []]]):=hk3.lk hT2 lc2 (by omega);have hk13:Kp (fun _=>False) N O O3:=fun j hj _=>(hk3 j (by omega) (by omega)).trans (hk12 j hj (by simp))
 have hR3:=h.kp hT hk13 (by simp);have m23:Mu O3 1 w2 (c.Xr.map cI):=by
  refine m2'.fr fun j hj=>?_
  obtain ⟨es0,hl⟩:=m2'.own hj;exact hk3 j (hT2.lt hl) (qan hl lb3 (by simp))
 have l3:=h.d.len;simp [c_226_k8,g1,ld1,l3,-lenOf];refine qabn c.Xq s.t.dl (fun d hd=>(s.t.ds d hd).1) v3 w1 w2 (N+1+1+1) _ _ _ O3 N3 hT3 hR3.d lb3' ?_ ?_ ?_ ?_ ?_
 ·simp [g3]
 ·simp
 ·simp
 ·simp
 intro e4 O4 N4 w3 mw3 fw3 hk4 hT4 hN4 lb4 f1 f2 f3;simp at f1 f2 f3;have le1:look N O4=some (.row 4 [[v1,v2,v3,v4]]):=hk4.lk hT3 ld1 (by omega);have le2:look (N+1) O4=some (.row 4 [[.Xu 1 [],.Xu 1 [],.Xu 2 [],.Xu 1 []]]):=hk4.lk hT3 ld2 (by omega);have m24:Mu O4 1 w2 (c.Xr.map cI):=by
  refine m23.fr fun j hj=>?_
  obtain ⟨es0,hl⟩:=m23.own hj;exact hk4 j (hT3.lt hl) (qan hl lb3' (by simp))
 have m14:Mu O4 1 w1 (V.map fun x=>[x]):=by
  refine mw1.fr fun j hj=>?_
  obtain ⟨es0,hl⟩:=mw1.own hj;exact hk4 j (hT3.lt hl) (qan hl lb3' (by simp))
 have hV4:RowsW O4 (N+1+1+1+1) V c.rows:=hV.fr fun j es0 hl=>hk4 j (hT3.lt hl) (qan hl lb3' (by simp))
 have l4:lenOf v4=some c.Xm.length:=by have:=h.g.len;rw [QAb] at this;exact this
 simp [c_226_k7,f1,g1,le1,l4,-lenOf];refine qabo c.Xm s.t.gl (fun l hl=>(s.t.gs l hl).1) v4 w1 w2 w3 (N+1+1+1) _ _ _ O4 N4 hT4 h.g lb4 ?_ ?_ ?_ ?_ ?_
 ·simp [f3,g3]
 ·simp
 ·simp
 ·simp
 intro e5 O5 N5 w4 mw4 hk5 hT5 hN5 lb5 d1 d2 d3;simp at d1 d2 d3;have lf2:look (N+1) O5=some (.row 4 [[.Xu 1 [],.Xu 1 [],.Xu 2 [],.Xu 1 []]]):=hk5.lk hT4 le2 (by omega);simp [c_226_k6,d2,d3,f2,f3,g2,g3,lb5,lf2,qaa];refine ⟨w1,w2,w3,w4,V,_,N5,rfl,?_,?_,?_,qaj hT5,by omega⟩
 ·have keep:∀j z es0,z≠4->look j O4=some (.row z es0)->look j (setl (N+1) (.row 4 [[w1,w2,w3,w4]]) O5)=look j O4:=by
   intro j z es0 hz hl;have h5:=hk5 j (hT4.lt hl) (qan hl lb4 (by simp [hz]));have hl5:look j O5=some (.row z es0):=by rw [h5,hl]
   rw [qaa,QA (qan hl5 lf2 (by simp [hz])),h5]
  refine ⟨m14.fr fun j hj=>?_,hV4.len,?_,m24.fr fun j hj=>?_,mw3.fr fun j hj=>?_,mw4,?_,hV4.inj,hV4.na⟩
  ·obtain ⟨es0,hl⟩:=m14.own hj;exact keep j 1 es0 (by decide) hl
  ·intro k v l hv hl;refine (hV4.mu k v l hv hl).fr fun j hj=>?_
   obtain ⟨es0,hl⟩:=(hV4.mu k v l hv hl).own hj;exact keep j 5 es0 (by decide) hl
  ·obtain ⟨es0,hl⟩:=m24.own hj;exact keep j 1 es0 (by decide) hl
  ·obtain ⟨es0,hl⟩:=mw3.own hj;exact keep j 2 es0 (by decide) hl
  ·intro i h1 h2;have:=fw1 i h1;obtain ⟨es0,hl⟩:=m2'.own h2;have:=hT2.lt hl;omega
 ·intro j hj;rcases hj with hj | hj | hj | ⟨v,hv,hj⟩
  ·have:=fw1 j hj;omega
  ·have:=fw2 j hj;omega
  ·have:=fw3 j hj;omega
  ·have:=hV4.fresh v hv j hj;omega
 ·intro j hj _;rw [qaa,QA (by omega),hk5 j (by omega) (by omega),hk4 j (by omega) (by omega),hk3 j (by omega) (by omega)];exact hk12 j hj (by simp)
def qdr:List Rw->Nat->List (AV×AV)
 | [],_=>[]
 | r::l,n=>(.int .i64 r.id,.int .i64 n)::qdr l (n+1)
def ents (l:List Rw):List (AV×AV):=qdr l 0
theorem qmu (r:Rw):∀(l:List Rw) (n:Nat),qdr (l++[r]) n=qdr l n++[(.int .i64 r.id,.int .i64 ((n+l.length:Nat):Int))]
 | [],n=>by simp [qdr]
 | a::l,n=>by
  have ih:=qmu r l (n+1);simp only [QAp,qdr,ih,QBk];rw [show n+1+l.length=n+(l.length+1) by omega]
theorem qou (l:List Rw) (r:Rw):ents (l++[r])=ents l++[(.int .i64 r.id,.int .i64 (l.length:Nat))]:=by
 unfold ents;rw [qmu,QBm]
theorem qmd (x:Int) (v:AV):∀(l:List Rw) (n:Nat),(∀r∈l,r.id≠x)->putA .i (.int .i64 x) v (qdr l n)=some (qdr l n++[(.int .i64 x,v)])
 | [],n,_=>rfl
 | r::l,n,h=>by
  have ih:=qmd x v l (n+1) fun r hr=>h r (by simp [hr])
  have h1:¬x=r.id:=fun e=>h r (by simp) e.symm
  simp only [qdr,putA,eqKd,if_true];have:(x == r.id)=false:=by simpa using h1
  rw [this];simp only [ih,QAy,QAp]
theorem qm1 (x:Int):∀(l:List Rw) (n:Nat),qb9 .i (.int .i64 x) (qdr l n)=some ((rIdx l x).map fun i=> .int .i64 ((i+n:Nat):Int))
 | [],n=>rfl
 | r::l,n=>by
  have ih:=qm1 x l (n+1);unfold rIdx at ih ⊢;simp only [qdr,qb9,eqKd,if_true,List.findIdx?_cons];by_cases h:x=r.id
  ·subst h;simp
  ·have h':(x == r.id)=false:=by simpa using h
   have h'':¬r.id=x:=fun e=>h e.symm
   rw [h'];simp only [ih,h'',decide_false,Option.map_map,QAe,if_false];congr 2;funext i;simp only [Function.comp_apply];rw [show i+(n+1)=i+1+n by omega]
theorem qwk (x:Int) (l:List Rw):qb9 .i (.int .i64 x) (ents l)=some ((rIdx l x).map fun (i:Nat)=> .int .i64 (i:Int)):=qm1 x l 0
def qvv (N:Nat) (O:List (Nat×AO)) (iid k:Nat) (es:List (List AV)) (l:List Rw) (r:Option (Rt×AH)):Prop:=
 ∃O' N',r=some (.val (.tup []),⟨O',N'⟩)/\look iid O'=some (.row 1 (es.set k [.map N]))/\look N O'=some (.map (ents l))/\Kp (fun j=>j=iid) N O O'/\Tail O' N'/\N<N'
theorem qnk {O:List (Nat×AO)} {N sid iid k:Nat} {v1 v2 v3 v4:AV} {R:List AV} {V:List AV} {l:List Rw} {es:List (List AV)} {n:Nat} (hT:Tail O N) (hl:l.length<2^39) (hk:k<n) (hVk:k<V.length)
  (hs:look sid O=some (.row 15 [v1::v2::v3::v4::(R++[.row iid 1 0 n,.bool true])])) (hR:R.length=9) (hi:look iid O=some (.row 1 es)) (hn:n<=es.length) (hes:∃x,es[k]? =some [x])
  (h1:Mu O 1 v1 (V.map fun x=>[x])) (h5:Mu O 5 V[k] (l.map Rw.c)) (hri:vid v1≠some iid) (hinc:l.Pairwise fun a b=>a.id<b.id) (hk39:k<2^40):
  qvv N O iid k es l (qai Φ f_288 [.ptr sid 15 0 0,.int .i64 k] ⟨O,N⟩):=by
 rw [qat (fn:=c_288) rfl rfl];obtain ⟨r0,r1,r2,r3,r4,r5,r6,r7,r8,rfl⟩:∃r0 r1 r2 r3 r4 r5 r6 r7 r8,R=[r0,r1,r2,r3,r4,r5,r6,r7,r8]:=by
  match R,hR with
  | [r0,r1,r2,r3,r4,r5,r6,r7,r8],_=>exact ⟨_,_,_,_,_,_,_,_,_,rfl⟩
 obtain ⟨x,hx⟩:=hes;have t0:=hT N (Qb _);have hsi:=qan hs hi (by simp);have fi:=qdp hT hi (Qb N);have fs:=qdp hT hs (Qb N);obtain ⟨rid,es1,e1,hl1,hle1,ht1⟩:=h1.nonempty (by simp;omega);subst e1;have hrid:¬rid=iid:=fun e=>hri (by rw [e];rfl)
 have fr:=qdp hT hl1 (Qb N);have g1:es1[k]? =some [V[k]]:=qej hVk ht1;have hkn:k<V.length:=hVk;have hken:k<es.length:=by omega
 have h5l:=h5.len;rw [QAb] at h5l;simp [c_288,hs,hi,t0,qab,hk,hx,qaa,hsi,fi,fs,hl1,hrid,g1,hVk,h5l,-lenOf];have hT1:Tail (setl iid (AO.row 1 (es.set k [.map N])) (O++[(N,AO.map [])])) (N+1):=qaj (hT.app1 (Qb _));have hk1:Kp (fun j=>j=iid) N O (setl iid (AO.row 1 (es.set k [.map N])) (O++[(N,AO.map [])])):=Kp.setl (Kp.app (fun _ _ _=>rfl) (Qb _)) (.inr rfl);have a1:look iid (setl iid (AO.row 1 (es.set k [.map N])) (O++[(N,AO.map [])]))=some (.row 1 (es.set k [.map N])):=by simp [qaa,qab,hi]
 have a2:look N (setl iid (AO.row 1 (es.set k [.map N])) (O++[(N,AO.map [])]))=some (.map []):=by simp [qaa,fi,t0]
 generalize setl iid (AO.row 1 (es.set k [.map N])) (O++[(N,AO.map [])])=O1 at hT1 hk1 a1 a2 ⊢;have a3:look sid O1=some (.row 15 [AV.row rid 1 0 V.length::v2::v3::v4::([r0,r1,r2,r3,r4,r5,r6,r7,r8]++[.row iid 1 0 n,.bool true])]):=by
  rw [hk1 sid (hT.lt hs) hsi,hs];simp
 have h51:Mu O1 5 V[k] (l.map Rw.c):=by
  refine h5.fr fun j hj=>?_
  obtain ⟨es0,hl0⟩:=h5.own hj;exact hk1 j (hT.lt hl0) (qan hl0 hi (by simp))
 refine qbk l.length (fun i e h=>∃O' N',h=⟨O',N'⟩/\Kp (fun j=>j=N) (N+1) O1 O'/\Tail O' N'/\N+1<=N'/\look N O'=some (.map (ents (l.take i)))/\look 0 e=some (.ptr sid 15 0 0)/\look 1 e=some (.int .i64 k)/\look 20 e=some V[k]/\look 21 e=some (.int .i64 l.length)/\look 22 e=some (.int .i64 i)) (qvv N O iid k es l) ?_ ?_ 0 _ _ (Qc _) ?_
 ·rintro i e _ L hi' hL ⟨O',N',rfl,hk',hT',hN',b2,e0,e1,e20,e21,e22⟩ ih;have hw1:=qao i (by omega);have u0:=hT' N' (Qb _);have fN:¬N'=N:=by omega
  have b1:look iid O'=some (.row 1 (es.set k [.map N])):=hk'.lk hT1 a1 (by omega);have b3:=hk'.lk hT1 a3 (by omega);have b4:(es.set k [AV.map N])[k]? =some [.map N]:=by rw [List.getElem?_set_self hken]
  have hne:∀r∈l.take i,r.id≠l[i].id:=by
   intro r hr;rw [List.mem_take_iff_getElem] at hr;obtain ⟨m,hm,rfl⟩:=hr;have:=QAw.1 hinc m i (by omega) hi' (by omega);omega
  have hp:=qmd l[i].id (.int .i64 i) (l.take i) 0 hne;have hml:min i l.length=i:=by omega
  have hsn:ents (l.take (i+1))=ents (l.take i)++[(.int .i64 l[i].id,.int .i64 (i:Nat))]:=by
   rw [Qh hi',qou,QAv,hml]
  rw [show qdr (l.take i) 0=ents (l.take i) from rfl] at hp;have h5':Mu O' 5 V[k] (l.map Rw.c):=by
   refine h51.fr fun j hj=>?_
   obtain ⟨es0,hl0⟩:=h51.own hj;exact hk' j (hT1.lt hl0) (qan hl0 a2 (by simp))
  obtain ⟨r5',es5,ev,hl5,hle5,ht5⟩:=h5'.nonempty (by simp;omega);have g5:=qej hi' ht5;rw [ev] at e20;have f1:=qdp hT' b1 (Qb N');have f3:=qdp hT' b3 (Qb N');simp [c_288_l0,Rw.ce,e0,e1,e20,e21,e22,hi',hl5,g5,u0,b3,b1,hken,hk,b2,hp,hw1];refine ih _ _ ⟨_,_,rfl,Kp.setl hk' (.inr rfl),qaj (hT'.mono (by omega)),by omega,?_,?_,?_,?_,?_,?_⟩
  ·simp [qaa,b2,hsn]
  all_goals simp [*]
 ·rintro e _ L hL ⟨O',N',rfl,hk',hT',hN',b2,e0,e1,e20,e21,e22⟩;simp [c_288_l0,e21,e22,hL];refine ⟨O',N',rfl,hk'.lk hT1 a1 (by omega),?_,?_,hT',by omega⟩
  ·rw [b2,QAf]
  ·intro j hj hx;rw [hk' j (by omega) (by omega)];exact hk1 j hj hx
 ·refine ⟨O1,N+1,rfl,fun _ _ _=>rfl,hT1,Qb _,a2,?_,?_,?_,?_,?_⟩<;>simp
structure SV where
 s:Nat
 v1:AV
 v2:AV
 v3:AV
 v4:AV
 vi:AV
 V:List AV
 M:List Nat
def SV.cells (S:SV) (p:Prg):List AV:=S.v1::S.v2::S.v3::S.v4::(Prg.c p++[S.vi,.bool true])
structure IdxM (O:List (Nat×AO)) (vi:AV) (M:List Nat) (R:List (List Rw)):Prop where
 i:Mu O 1 vi (M.map fun m=>[.map m])
 len:M.length=R.length
 m:∀(k m:Nat) (l:List Rw),M[k]? =some m->R[k]? =some l->look m O=some (.map (ents l))
 nd:∀(k k' m:Nat),M[k]? =some m->M[k']? =some m->k=k'
structure StoreM (O:List (Nat×AO)) (S:SV) (p:Prg) (c:Xf):Prop where
 s:look S.s O=some (.row 15 [S.cells p])
 cm:CfgM O S.v1 S.v2 S.v3 S.v4 S.V c
 x:IdxM O S.vi S.M c.rows
 ri:∀i,vid S.v1=some i->vid S.vi=some i->False
 ni:∀i,vid S.v2=some i->vid S.vi=some i->False
def SV.own (S:SV) (j:Nat):Prop:=j=S.s\/CfgM.own S.v1 S.v2 S.v3 S.V j\/vid S.vi=some j\/j∈S.M
theorem IdxM.fr {O O':List (Nat×AO)} {vi:AV} {M:List Nat} {R:List (List Rw)} (h:IdxM O vi M R) (hf:∀j,vid vi=some j\/j∈M->look j O'=look j O):IdxM O' vi M R:=
 ⟨h.i.fr fun j hj=>hf j (.inl hj),h.len,fun k m l hm hl=>by rw [hf m (.inr (Qe hm))];exact h.m k m l hm hl,h.nd⟩
theorem StoreM.fr {O O':List (Nat×AO)} {S:SV} {p:Prg} {c:Xf} (h:StoreM O S p c) (hf:∀j,S.own j->look j O'=look j O):StoreM O' S p c:=
 ⟨by rw [hf _ (.inl rfl)];exact h.s,h.cm.fr fun j hj=>hf j (.inr (.inl hj)),h.x.fr fun j hj=>hf j (.inr (.inr hj)),h.ri,h.ni⟩
theorem CfgM.own_lk {O:List (Nat×AO)} {v1 v2 v3 v4:AV} {V:List AV} {c:Xf} (h:CfgM O v1 v2 v3 v4 V c) {j:Nat} (hj:CfgM.own v1 v2 v3 V j):∃z es,look j O=some (.row z es)/\(z=1\/z=2\/z=5):=by
 rcases hj with hj | hj | hj | ⟨v,hv,hj⟩
 ·obtain ⟨es,hl⟩:=h.r.own hj;exact ⟨1,es,hl,.inl rfl⟩
 ·obtain ⟨es,hl⟩:=h.n.own hj;exact ⟨1,es,hl,.inl rfl⟩
 ·obtain ⟨es,hl⟩:=h.d.own hj;exact ⟨2,es,hl,.inr (.inl rfl)⟩
 ·obtain ⟨k,hk,rfl⟩:=Qn.1 hv;have hk2:k<c.rows.length:=by rw [<- h.rl];exact hk
  obtain ⟨es,hl⟩:=(h.rv k _ _ (Qa hk) (Qa hk2)).own hj;exact ⟨5,es,hl,.inr (.inr rfl)⟩
theorem IdxM.own_lk {O:List (Nat×AO)} {vi:AV} {M:List Nat} {R:List (List Rw)} (h:IdxM O vi M R) {j:Nat} (hj:j∈M):∃es,look j O=some (.map es):=by
 obtain ⟨k,hk,rfl⟩:=Qn.1 hj;have hk2:k<R.length:=by rw [<- h.len];exact hk
 exact ⟨_,h.m k _ _ (Qa hk) (Qa hk2)⟩
theorem StoreM.own_lk {O:List (Nat×AO)} {S:SV} {p:Prg} {c:Xf} (h:StoreM O S p c) {j:Nat} (hj:S.own j):∃x,look j O=some x/\x≠ .res:=by
 rcases hj with rfl | hj | hj | hj
 ·exact ⟨_,h.s,by simp⟩
 ·obtain ⟨z,es,hl,_⟩:=h.cm.own_lk hj;exact ⟨_,hl,by simp⟩
 ·obtain ⟨es,hl⟩:=h.x.i.own hj;exact ⟨_,hl,by simp⟩
 ·obtain ⟨es,hl⟩:=h.x.own_lk hj;exact ⟨_,hl,by simp⟩
theorem StoreM.kp {O O':List (Nat×AO)} {N:Nat} {X:Nat->Prop} {S:SV} {p:Prg} {c:Xf} (h:StoreM O S p c) (hT:Tail O N) (hk:Kp X N O O') (hx:∀j,S.own j->¬X j):StoreM O' S p c:=by
 refine h.fr fun j hj=>?_
 obtain ⟨x,hl,_⟩:=h.own_lk hj;exact hk j (hT.lt hl) (hx j hj)
theorem CfgM.re {O:List (Nat×AO)} {v1 v2 v3 v4:AV} {V:List AV} {c:Xf} (h:CfgM O v1 v2 v3 v4 V c):CfgR O v1 v2 v3 v4 V c:=
 ⟨⟨h.r.re,h.rl,fun k x l hx hl=>(h.rv k x l hx hl).re⟩,h.n.re,h.d.re,by rcases h.g with e | ⟨t,e⟩;exact .inr (.inl e);exact .inr (.inr ⟨t,e⟩)⟩
theorem CfgR.imm {O:List (Nat×AO)} (c:Xf):CfgR O (.slice 1 (c.rows.map (cS 5 Rw.c))) (.slice 1 (c.Xr.map cI)) (.slice 2 (c.Xq.map Xb.c)) (.slice 1 (c.Xm.map (cS 1 c32))) (c.rows.map fun l=> .slice 5 (l.map Rw.c)) c:=by
 refine ⟨⟨?_,by simp,?_⟩,.sl _,.sl _,.inl rfl⟩
 ·have:(c.rows.map fun l=>AV.slice 5 (l.map Rw.c)).map (fun x=>[x])=c.rows.map (cS 5 Rw.c):=by
   rw [List.map_map];rfl
  rw [this];exact .sl _
 ·intro k x l hx hl;rw [List.getElem?_map,hl] at hx;cases hx;exact .sl _
def Rs (O:List (Nat×AO)) (j:Nat):Prop:=look j O=some .res
def qvt (N:Nat) (O:List (Nat×AO)) (p:Prg) (c:Xf) (r:Option (Rt×AH)):Prop:=
 ∃S O' N',r=some (.val (.ptr S.s 15 0 0),⟨O',N'⟩)/\StoreM O' S p c/\(∀j,S.own j->N<=j)/\Kp (Rs O) N O O'/\Tail O' N'/\N<=N'
theorem qta (p:Prg) (op:p.Ok qba) (c:Xf) (u:CfgU c) (hinc:∀l∈c.rows,l.Pairwise fun a b=>a.id<b.id) {v1 v2 v3 v4:AV} {A:List AV} {O:List (Nat×AO)} {N:Nat} (hT:Tail O N) (h:CfgR O v1 v2 v3 v4 A c):
  qvt N O p c (qai Φ f_221 [.agg (Prg.c p),.agg [v1,v2,v3,v4]] ⟨O,N⟩):=by
 rw [qat (fn:=c_221) rfl rfl];have hcl:=qxf p op;simp only [Prg.e] at hcl;have t0:=hT N (Qb _);have t13:=hT (N+1+12) (by omega);have n13:¬N=N+1+12:=by omega
 simp [c_221,Prg.e,t0,qab];have hT1:Tail (O++[(N,AO.row 4 [[v1,v2,v3,v4]]),(N+1+12,AO.res)]) (N+1+12+1):=by
  rw [Tail_append_iff,Tail_cons_iff,Tail_cons_iff];exact ⟨hT.mono (by omega),by omega,by omega,Tail.nil _⟩
 have hk1:Kp (fun _=>False) N O (O++[(N,AO.row 4 [[v1,v2,v3,v4]]),(N+1+12,AO.res)]):=Kp.appL (fun _ _ _=>rfl) (by simp;omega);have hres:look (N+1+12) (O++[(N,AO.row 4 [[v1,v2,v3,v4]]),(N+1+12,AO.res)])=some .res:=by simp [t13,n13]
 obtain ⟨w1,w2,w3,w4,V,O2,N2,e2,m2,f2,hk2,hT2,hN2⟩:=qip c u hT1 (h.kp hT hk1 (by simp));have hres2:look (N+1+12) O2=some .res:=hk2.lk hT1 hres (by simp);rw [e2];have hs1:∀cs,look (N+1+12) (qau (setl (N+1+12) (.row 15 cs) O2))=some (.row 15 cs):=fun cs=>by
  rw [qaf (by simp [qaa,hres2])];simp [qaa,hres2]
 have hs2:∀cs,Tail (qau (setl (N+1+12) (.row 15 cs) O2)) N2:=fun cs=>qdm (qaj hT2)
 have hs3:∀cs,look N2 (qau (setl (N+1+12) (.row 15 cs) O2))=none:=fun cs=>hs2 cs _ (Qb _)
 have hs4:∀cs z es j,z≠15->look j O2=some (.row z es)->look j (qau (setl (N+1+12) (.row 15 cs) O2))=some (.row z es):=fun cs z es j hz hl=>by
  have hne:j≠N+1+12:=qan hl hres2 (by simp);rw [qaf (by simp [qaa,hne,hl])];simp [qaa,hne,hl]
 have hs5:∀cs,Kp (Rs O) N O (qau (setl (N+1+12) (.row 15 cs) O2)):=fun cs j hj hx=>by
  have hne:j≠N+1+12:=by omega
  have h2:look j O2=look j O:=(hk2 j (by omega) (by simp)).trans (hk1 j hj (by simp));rw [qaf (by rw [qaa,QA hne,h2];exact hx),qaa,QA hne,h2]
 have n2:¬N2=N+1+12:=by omega
 have l1:=m2.r.len;rw [QAb,m2.rl] at l1;have hrl:=u.t.rl;have b1:(c.rows.length:Int)*8<=140737488355328:=by omega
 have b2:c.rows.length<4611686018427387904:=by omega
 have w1c:=m2.r.cells;simp [hcl,hres2,hs1,hs3,qab,qaa,l1,n2,b1,b2,-lenOf,-AV.cells];generalize hO3:setl (N+1+12) _ (_++[(N2,AO.row 1 (List.replicate c.rows.length [AV.nilmap]))])=O3;have hT3:Tail O3 (N2+1):=by rw [<- hO3];exact qaj ((hs2 _).app1 (Qb _))
 have hk3:Kp (Rs O) N O O3:=by rw [<- hO3];exact Kp.setl (Kp.app (hs5 _) (by omega)) (.inl (by omega))
 have ls:look (N+1+12) O3=some (.row 15 [w1::w2::w3::w4::(Prg.c p++[.row N2 1 0 c.rows.length,.bool true])]):=by
  rw [<- hO3,qaa,QAa rfl,qab,hs1,Prg.e];rfl
 have li:look N2 O3=some (.row 1 (List.replicate c.rows.length [AV.nilmap])):=by
  rw [<- hO3,qaa,QA n2,qab,hs3];simp
 have lo:∀z es j,z≠15->look j O2=some (.row z es)->look j O3=look j O2:=fun z es j hz hl=>by
  have hne:j≠N+1+12:=qan hl hres2 (by simp);rw [<- hO3,qaa,QA hne,qab,hs4 _ z es j hz hl,hl];rfl
 have m3:CfgM O3 w1 w2 w3 w4 V c:=m2.fr fun j hj=>by
  obtain ⟨z,es,hl,hz⟩:=m2.own_lk hj;exact lo z es j (by omega) hl
 clear hO3;have fo:∀j,CfgM.own w1 w2 w3 V j->j≠N2:=fun j hj=>by
  obtain ⟨z,es,hl,hz⟩:=m2.own_lk hj;have:=hT2.lt hl;omega
 refine qbk c.rows.length (fun i e h=>∃(O':List (Nat×AO)) (N':Nat) (M:List Nat),h=⟨O',N'⟩/\Kp (fun j=>j=N2) (N2+1) O3 O'/\Tail O' N'/\N2+1<=N'/\look N2 O'=some (.row 1 (M.map (fun m=>[AV.map m])++List.replicate (c.rows.length - i) [AV.nilmap]))/\M.length=i/\
   (∀(k m:Nat) (l:List Rw),M[k]? =some m->c.rows[k]? =some l->look m O'=some (.map (ents l)))/\(∀m∈M,N2+1<=m)/\(∀(k k' m:Nat),M[k]? =some m->M[k']? =some m->k=k')/\
   look 5 e=some (.ptr (N+1+12) 15 0 0)/\look 28 e=some (.int .i64 c.rows.length)/\look 29 e=some (.int .i64 i)) (qvt N O p c) ?_ ?_ 0 _ _ (Qc _) ?_
 ·rintro i e _ L hi hL ⟨O',N',M,rfl,hk',hT',hN',ln,hMl,hMe,hMf,hMn,e5,e28,e29⟩ ih;have hw:=qao i (by omega);have hVi:i<V.length:=by rw [m2.rl];exact hi
  have ls':=hk'.lk hT3 ls (by omega);have m3':CfgM O' w1 w2 w3 w4 V c:=m3.fr fun j hj=>by
   obtain ⟨z,es,hl,hz⟩:=m3.own_lk hj;exact hk' j (hT3.lt hl) (fo j hj)
  have hes:(M.map (fun m=>[AV.map m])++List.replicate (c.rows.length - i) [AV.nilmap]).length=c.rows.length:=by simp [hMl];omega
  have hr:=qnk (k:=i) (n:=c.rows.length) (V:=V) (l:=c.rows[i]) (R:=Prg.c p) hT' (u.u _ (Qd hi)) hi hVi ls' (by simp) ln (Nat.le_of_eq hes.symm) ?_ m3'.r (m3'.rv i _ _ (Qa hVi) (Qa hi)) ?_ (hinc _ (Qd hi)) (by omega)
  rotate_left
  ·refine ⟨.nilmap,?_⟩;rw [Qp (by simp;omega),List.getElem?_replicate,QAa (by simp [hMl];omega)]
  ·intro hc;exact fo N2 (.inl hc) rfl
  obtain ⟨O4,N4,e4,r1,r2,hk4,hT4,hN4⟩:=hr;simp [c_221_l0,e5,e28,e29,hi,e4,hw];refine ih _ _ ⟨O4,N4,M++[N'],rfl,?_,hT4,by omega,?_,by simp [hMl],?_,?_,?_,?_,?_,?_⟩
  ·intro j hj hx;rw [hk4 j (by omega) hx,hk' j hj hx]
  ·rw [r1];congr 1;have hd:c.rows.length - i=(c.rows.length - (i+1))+1:=by omega
   rw [hd,List.replicate_succ,List.set_append_right _ _ (by simp [hMl])];simp [hMl]
  ·intro k m l hm hl;by_cases hk:k<M.length
   ·rw [Ql hk] at hm;have h0:=hMe k m l hm hl;exact hk4.lk hT' h0 (by have:=hMf m (Qe hm);omega)
   ·have hb:=(Qm.1 hm).1;simp at hb;have hk:k=M.length:=by omega
    subst hk;rw [Qp (by omega)] at hm;simp at hm;subst hm;rw [hMl,Qa hi] at hl;cases hl;exact r2
  ·intro m hm;rcases QAd.1 hm with hm | hm
   ·exact hMf m hm
   ·simp at hm;omega
  ·intro k k' m hm hm';have hb:=(Qm.1 hm).1;have hb':=(Qm.1 hm').1;simp at hb hb';have hlt:∀m,m∈M->m<N':=fun m hm=>by
    obtain ⟨q,hq,rfl⟩:=Qn.1 hm;exact hT'.lt (hMe q _ _ (Qa hq) (Qa (by omega)))
   by_cases hk:k<M.length
   ·by_cases hk':k'<M.length
    ·rw [Ql hk] at hm;rw [Ql hk'] at hm';exact hMn k k' m hm hm'
    ·rw [Ql hk] at hm;rw [Qp (by omega),show k' - M.length=0 by omega] at hm';simp at hm';have:=hlt m (Qe hm);omega
   ·by_cases hk':k'<M.length
    ·rw [Ql hk'] at hm';rw [Qp (by omega),show k - M.length=0 by omega] at hm;simp at hm;have:=hlt m (Qe hm');omega
    ·omega
  ·simp [e5]
  ·simp [e28]
  ·simp
 ·rintro e _ L hL ⟨O',N',M,rfl,hk',hT',hN',ln,hMl,hMe,hMf,hMn,e5,e28,e29⟩;simp [c_221_l0,c_221_k1,e5,e28,e29,hL];have ls':=hk'.lk hT3 ls (by omega);have m3':CfgM O' w1 w2 w3 w4 V c:=m3.fr fun j hj=>by
   obtain ⟨z,es,hl,hz⟩:=m3.own_lk hj;exact hk' j (hT3.lt hl) (fo j hj)
  refine ⟨⟨N+1+12,w1,w2,w3,w4,.row N2 1 0 c.rows.length,V,M⟩,O',N',rfl,⟨ls',m3',⟨?_,hMl,hMe,hMn⟩,?_,?_⟩,?_,?_,hT',by omega⟩
  ·rw [Nat.sub_self,List.replicate_zero,List.append_nil] at ln;exact .row N2 _ _ _ (by simp [hMl]) ln (Qb _) (by rw [QAf])
  ·intro j h1 h2;cases h2;exact fo _ (.inl h1) rfl
  ·intro j h1 h2;cases h2;exact fo _ (.inr (.inl h1)) rfl
  ·intro j hj;rcases hj with rfl | hj | hj | hj
   ·simp only;omega
   ·have:=f2 j hj;omega
   ·cases hj;omega
   ·have:=hMf j hj;omega
  ·intro j hj hx;rw [hk' j (by omega) (by omega)];exact hk3 j hj hx
 ·exact ⟨O3,N2+1,[],rfl,fun _ _ _=>rfl,hT3,Qb _,by simpa using li,rfl,by simp,by simp,by simp,by simp,by simp,by simp⟩
set_option maxRecDepth 8000
def tkn:AV->Option Nat
 | .app _ _ t=>some t
 | _=>none
def Ap (O:List (Nat×AO)) (z:Nat) (v:AV) (es:List (List AV)):Prop:=(es=[]/\v= .Xu z [])\/∃t,v= .app z es t/\look t O=some (.tok z es.length)
def Ex1 (O:List (Nat×AO)) (z:Nat) (v:AV) (es:List (List AV)):Prop:=(es=[]/\v= .Xu z [])\/∃i,v= .row i z 0 es.length/\look i O=some (.row z es)
def PkN (x:Pk) (h:AV):List AV:=[.int .i64 x.pos.switch,.int .i64 x.pos.port,.slice 1 (x.data.map c8),h,.bool x.done,.int .i64 x.kind,.int .i64 x.index,.Xu 3 [],.Xu 2 []]
def pkN (l:List Pk) (H:List AV):List (List AV):=List.zipWith PkN l H
def nwR (V:NetV) (cv pv lv f:AV):List AV:=[.slice 1 (V.ports.map cI),.slice 5 (V.links.map Link.c),.slice 2 (V.hosts.map PortID.c),cv,pv,lv,f]
theorem qca (V:NetV) (cv pv lv f:AV):nwR V cv pv lv f=[.slice 1 (V.ports.map cI),.slice 5 (V.links.map Link.c),.slice 2 (V.hosts.map PortID.c),cv,pv,lv,f]:=rfl
structure NetM (O:List (Nat×AO)) (n:Nat) (V:NetV) (f:AV) (C:Nat) (pv lv:AV) (H:List AV):Prop where
 row:look n O=some (.row 7 [nwR V (.row C 4 0 V.cs.length) pv lv f])
 cf:look C O=some (.row 4 (V.cs.map Xf.c))
 pk:Ex1 O 9 pv (pkN V.pk H)
 hl:H.length=V.pk.length
 hp:∀(k:Nat) (x:Pk) (h:AV),V.pk[k]? =some x->H[k]? =some h->Ap O 3 h (x.hops.map Hop.c)
 lg:Ap O 4 lv (V.log.map Event.c)
 hi:∀(k k':Nat) (h h':AV) (t:Nat),H[k]? =some h->H[k']? =some h'->tkn h=some t->tkn h'=some t->k=k'
 hg:∀(k:Nat) (h:AV) (t:Nat),H[k]? =some h->tkn h=some t->tkn lv≠some t
def NetM.own (n C:Nat) (pv lv:AV) (H:List AV) (j:Nat):Prop:=j=n\/j=C\/vid pv=some j\/tkn lv=some j\/∃h∈H,tkn h=some j
theorem Ap.fr {O O':List (Nat×AO)} {z:Nat} {v:AV} {es:List (List AV)} (h:Ap O z v es) (hf:∀t,tkn v=some t->look t O'=look t O):Ap O' z v es:=by
 rcases h with h | ⟨t,rfl,ht⟩
 ·exact .inl h
 ·exact .inr ⟨t,rfl,by rw [hf t rfl,ht]⟩
theorem Ap.tk {O:List (Nat×AO)} {z t:Nat} {v:AV} {es:List (List AV)} (h:Ap O z v es) (ht:tkn v=some t):look t O=some (.tok z es.length):=by
 rcases h with ⟨_,rfl⟩ | ⟨u,rfl,hu⟩
 ·cases ht
 ·cases ht;exact hu
theorem Ex1.fr {O O':List (Nat×AO)} {z:Nat} {v:AV} {es:List (List AV)} (h:Ex1 O z v es) (hf:∀t,vid v=some t->look t O'=look t O):Ex1 O' z v es:=by
 rcases h with h | ⟨t,rfl,ht⟩
 ·exact .inl h
 ·exact .inr ⟨t,rfl,by rw [hf t rfl,ht]⟩
theorem Ex1.id {O:List (Nat×AO)} {z t:Nat} {v:AV} {es:List (List AV)} (h:Ex1 O z v es) (ht:vid v=some t):look t O=some (.row z es):=by
 rcases h with ⟨_,rfl⟩ | ⟨u,rfl,hu⟩
 ·cases ht
 ·cases ht;exact hu
theorem NetM.fr {O O':List (Nat×AO)} {n:Nat} {V:NetV} {f:AV} {C:Nat} {pv lv:AV} {H:List AV} (m:NetM O n V f C pv lv H) (hf:∀j,NetM.own n C pv lv H j->look j O'=look j O):NetM O' n V f C pv lv H:=by
 refine ⟨by rw [hf n (.inl rfl)];exact m.row,by rw [hf C (.inr (.inl rfl))];exact m.cf,m.pk.fr fun t ht=>hf t (.inr (.inr (.inl ht))),m.hl,?_,m.lg.fr fun t ht=>hf t (.inr (.inr (.inr (.inl ht)))),m.hi,m.hg⟩;intro k x h hx hh;exact (m.hp k x h hx hh).fr fun t ht=>hf t (.inr (.inr (.inr (.inr ⟨h,Qe hh,ht⟩))))
theorem NetM.hk {O:List (Nat×AO)} {n:Nat} {V:NetV} {f:AV} {C:Nat} {pv lv:AV} {H:List AV} (m:NetM O n V f C pv lv H) {k t:Nat} {h:AV} (hh:H[k]? =some h) (ht:tkn h=some t):∃l,look t O=some (.tok 3 l):=by
 have hk:k<V.pk.length:=by
  have:=(Qm.1 hh).1;rw [m.hl] at this;exact this
 exact ⟨_,(m.hp k _ h (Qa hk) hh).tk ht⟩
theorem NetM.nr {O:List (Nat×AO)} {n:Nat} {V:NetV} {f:AV} {C:Nat} {pv lv:AV} {H:List AV} (m:NetM O n V f C pv lv H) {j:Nat} (hj:NetM.own n C pv lv H j):∃y,look j O=some y/\y≠ .res:=by
 rcases hj with rfl | rfl | hj | hj | ⟨h,hh,hj⟩
 ·exact ⟨_,m.row,by simp⟩
 ·exact ⟨_,m.cf,by simp⟩
 ·exact ⟨_,m.pk.id hj,by simp⟩
 ·exact ⟨_,m.lg.tk hj,by simp⟩
 ·obtain ⟨k,hk,rfl⟩:=Qn.1 hh;obtain ⟨l,hl⟩:=m.hk (Qa hk) hj;exact ⟨_,hl,by simp⟩
def Mn (O O':List (Nat×AO)):Prop:=∀j y,look j O=some y->y≠ .res->look j O'=some y
theorem Mn.refl {O:List (Nat×AO)}:Mn O O:=fun _ _ h _=>h
theorem Mn.trans {O O' O'':List (Nat×AO)} (h:Mn O O') (h':Mn O' O''):Mn O O'':=fun j y hl hy=>h' j y (h j y hl hy) hy
theorem Mn.app {O:List (Nat×AO)} {r:List (Nat×AO)}:Mn O (O++r):=fun j y hl _=>by rw [qab,hl];rfl
theorem Mn.sweep {O:List (Nat×AO)}:Mn O (qau O):=fun j y hl hy=>by rw [qaf (by rw [hl];simpa using hy),hl]
theorem Mn.set {O:List (Nat×AO)} {t:Nat} {y:AO} (h:look t O=none\/look t O=some .res):Mn O (setl t y O):=fun j x hl hx=>by
 rw [qaa,QA (by rintro rfl;rcases h with h | h<;>rw [h] at hl<;>cases hl;exact hx rfl),hl]
theorem Mn.drop {O:List (Nat×AO)} {t:Nat} (h:look t O=none\/look t O=some .res):Mn O (qaw t O):=fun j x hl hx=>by
 rw [qak (by rintro rfl;rcases h with h | h<;>rw [h] at hl<;>cases hl;exact hx rfl),hl]
theorem NetM.mn {O O':List (Nat×AO)} {n:Nat} {V:NetV} {f:AV} {C:Nat} {pv lv:AV} {H:List AV} (m:NetM O n V f C pv lv H) (h:Mn O O'):NetM O' n V f C pv lv H:=
 m.fr fun j hj=>by
  obtain ⟨y,hy,hn⟩:=m.nr hj;rw [h j y hy hn,hy]
theorem Kp.mn {X:Nat->Prop} {N:Nat} {O O' O'':List (Nat×AO)} (h:Kp X N O O') (hx:∀j,Rs O j->X j) (hm:Mn O' O'') (hn:∀j,j<N->look j O'=none->look j O''=none):Kp X N O O'':=by
 intro j hj hxj;have h1:=h j hj hxj;cases hl:look j O' with
 | none=>rw [hn j hj hl,<- h1,hl]
 | some y=>
  by_cases hy:y= .res
  ·subst hy;exact absurd (hx j (by unfold Rs;rw [<- h1,hl])) hxj
  ·rw [hm j y hl hy,<- h1,hl]
theorem qem {O:List (Nat×AO)} {n N g:Nat} {V:NetV} {cv pv lv:AV} (h:look n O=some (.row 7 [nwR V cv pv lv (.func (.func g) [] [])])):qai Φ f_43 [.ptr n 7 0 0] ⟨O,N⟩=some (.val (.bool true),⟨O,N⟩):=by
 rw [qat (fn:=c_43) rfl rfl];rw [qca] at h;simp [c_43,h]
section
variable {O:List (Nat×AO)} {n N:Nat} {V:NetV} {f:AV} {C:Nat} {pv lv:AV} {H:List AV}
theorem NetM.evs {O':List (Nat×AO)} {lv':AV} {x:Event} (m:NetM O n V f C pv lv H) (hr:look n O'=some (.row 7 [nwR V (.row C 4 0 V.cs.length) pv lv' f])) (hl:Ap O' 4 lv' ((V.ev x).log.map Event.c)) (hn:∀t:Nat,tkn lv'=some t->tkn lv=some t\/look t O=none\/look t O=some .res)
  (hk:∀(j:Nat) (y:AO),look j O=some y->y≠ .res->j≠n->tkn lv≠some j->look j O'=some y):NetM O' n (V.ev x) f C pv lv' H:=by
 have ho:∀j,NetM.own n C pv lv H j->j≠n->tkn lv≠some j->look j O'=look j O:=by
  intro j hj h1 h2;obtain ⟨y,hy,hny⟩:=m.nr hj;rw [hk j y hy hny h1 h2,hy]
 have hCn:C≠n:=qan m.cf m.row (by simp);have hCl:tkn lv≠some C:=fun h=>by have:=m.lg.tk h;rw [m.cf] at this;cases this
 have hHn:∀(k:Nat) (h:AV) (t:Nat),H[k]? =some h->tkn h=some t->look t O'=look t O:=by
  intro k h t hh ht;refine ho t (.inr (.inr (.inr (.inr ⟨h,Qe hh,ht⟩)))) ?_ (m.hg k h t hh ht);obtain ⟨l,hl⟩:=m.hk hh ht;exact qan hl m.row (by simp)
 refine ⟨hr,by rw [ho C (.inr (.inl rfl)) hCn hCl];exact m.cf,m.pk.fr fun t ht=>?_,m.hl,fun k x h hx hh=>(m.hp k x h hx hh).fr fun t ht=>hHn k h t hh ht,hl,m.hi,?_⟩
 ·refine ho t (.inr (.inr (.inl ht))) (qan (m.pk.id ht) m.row (by simp)) fun h=>?_
  have:=m.lg.tk h;rw [m.pk.id ht] at this;cases this
 ·intro k h t hh ht hc;obtain ⟨l,hl⟩:=m.hk hh ht;rcases hn t hc with h1 | h1 | h1
  ·exact m.hg k h t hh ht h1
  ·rw [h1] at hl;cases hl
  ·rw [h1] at hl;cases hl
theorem qxn (m:NetM O n V f C pv lv H) (hT:Tail O N) (hb:V.log.length<=10000) (k a b c:Int):
  ∃O' N' lv',qai Φ f_64 [.ptr n 7 0 0,.int .i64 k,.int .i64 a,.int .i64 b,.int .i64 c] ⟨O,N⟩=some (.val (.agg [.int .i64 k,.int .i64 a,.int .i64 b,.int .i64 c]),⟨O',N'⟩)/\NetM O' n (V.ev ⟨k,a,b,c⟩) f C pv lv' H/\(∀t,tkn lv'=some t->tkn lv=some t\/N<=t)/\Kp (fun j=>j=n\/tkn lv=some j\/Rs O j) N O O'/\Tail O' N'/\N<=N':=by
 rw [qat (fn:=c_64) rfl rfl];have h:=m.row;rw [qca] at h;have t0:=hT N (Qb _);have t1:=hT (N+1) (by omega);have t2:=hT (N+1+1) (by omega);have hn:=hT.lt h;have q0:¬N=n/\¬n=N/\¬N+1=n/\¬n=N+1/\¬N+1+1=n/\¬n=N+1+1/\¬N=N+1+1/\¬N+1+1=N:=by omega
 obtain ⟨q1,q2,q3,q4,q5,q6,q7,q8⟩:=q0;have b2:(V.log.length+1)*32<=70368744177664:=by omega
 rcases m.lg with ⟨hz,rfl⟩ | ⟨T,rfl,hz⟩
 ·have hz':V.log=[]:=by simpa using hz
  simp [c_64,h,t0,t1,t2,q1,q2,q3,q4,q5,q6,q7,q8,qab,qaa];refine ⟨_,_,⟨rfl,rfl⟩,.app 4 [[.int .i64 k,.int .i64 a,.int .i64 b,.int .i64 c]] (N+1+1),m.evs ?_ (.inr ⟨N+1+1,?_,?_⟩) ?_ ?_,?_,?_,?_,by omega⟩
  ·simp [qaa,qab,h,q1,q2,qca,NetV.ev]
  ·simp [NetV.ev,hz',Event.c]
  ·simp [NetV.ev,hz',qaa,qab,t2,q5,q7,q8]
  ·intro t ht;cases ht;exact .inr (.inl t2)
  ·intro j y hj hy h1 h2;have:j≠N:=by rintro rfl;rw [t0] at hj;cases hj
   simp [qaa,qab,hj,h1,this]
  ·intro t ht;simp only [tkn,Option.some.injEq] at ht;right;omega
  ·intro j hj hx;have j1:¬j=n:=fun e=>hx (.inl e)
   have j2:¬j=N:=by omega
   have j3:¬N=j:=by omega
   have j4:¬N+1+1=j:=by omega
   simp [qaa,qab,j1,j2,j3,j4]
  ·refine qaj (qaj ?_);simp [Tail_append_iff,Tail_cons_iff,qbu];exact ⟨hT.mono (by omega),by omega⟩
 ·have u1:T≠n:=qan hz h (by simp);have u2:=u1.symm;have hTl:=hT.lt hz;have r0:¬N=T/\¬T=N/\¬N+1=T/\¬T=N+1:=by omega
  obtain ⟨r1,r2,r3,r4⟩:=r0;simp at hz;simp [c_64,h,t0,t1,t2,q1,q2,q3,q4,q5,q6,q7,q8,r1,r2,r3,r4,u1,u2,hz,qab,qaa,b2];refine ⟨_,_,⟨rfl,rfl⟩,.app 4 (V.log.map Event.c++[[.int .i64 k,.int .i64 a,.int .i64 b,.int .i64 c]]) T,m.evs ?_ (.inr ⟨T,?_,?_⟩) ?_ ?_,?_,?_,?_,by omega⟩
  ·simp [qaa,qab,h,q1,q2,u1,u2,qca,NetV.ev]
  ·simp [NetV.ev,Event.c]
  ·simp [NetV.ev,qaa,qab,hz,u1,r1,r2]
  ·intro t ht;cases ht;exact .inl rfl
  ·intro j y hj hy h1 h2;have h3:¬j=N:=by rintro rfl;rw [t0] at hj;cases hj
   have h4:¬j=T:=fun e=>h2 (by rw [e];rfl)
   simp [qaa,qab,hj,h1,h3,h4]
  ·intro t ht;cases ht;left;rfl
  ·intro j hj hx;have j1:¬j=n:=fun e=>hx (.inl e)
   have j2:¬j=N:=by omega
   have j3:¬N=j:=by omega
   have j4:¬j=T:=fun e=>hx (.inr (.inl (by rw [e];rfl)))
   simp [qaa,qab,j1,j2,j3,j4]
  ·refine qaj (qaj (qaj ?_));simp [Tail_append_iff,Tail_cons_iff,qbu];exact ⟨hT.mono (by omega),by omega⟩
end
structure Fw (X:Nat->Prop) (N:Nat) (O O1:List (Nat×AO)) (N1:Nat):Prop where
 kp:Kp (fun j=>X j\/Rs O j) N O O1
 tl:Tail O1 N1
 le:N<=N1
section
variable {X:Nat->Prop} {N N1 N2 t:Nat} {O O1 O2:List (Nat×AO)} {y:AO}
theorem Fw.init (hT:Tail O N):Fw X N O O N:=⟨fun _ _ _=>rfl,hT,Qb _⟩
theorem Fw.then {Y:Nat->Prop} (h:Fw X N O O1 N1) (hk:Kp Y N1 O1 O2) (hy:∀j,j<N->Y j->X j\/Rs O1 j) (hT:Tail O2 N2) (hn:N1<=N2):Fw X N O O2 N2:=by
 refine ⟨?_,hT,QAr h.le hn⟩;intro j hj hx;have h1:=h.kp j hj hx;rw [<- h1];refine hk j (QCb hj h.le) fun hc=>?_
 rcases hy j hj hc with h2 | h2
 ·exact hx (.inl h2)
 ·exact hx (.inr (by unfold Rs at*;rw [<- h1,h2]))
theorem Fw.set (h:Fw X N O O1 N1) (ht:X t\/N<=t):Fw X N O (setl t y O1) N1:=
 ⟨fun j hj hx=>by rw [qaa,QA (by rintro rfl;rcases ht with ht | ht;exact hx (.inl ht);omega),h.kp j hj hx],qaj h.tl,h.le⟩
theorem Fw.drop (h:Fw X N O O1 N1) (ht:X t\/N<=t):Fw X N O (qaw t O1) N1:=
 ⟨fun j hj hx=>by rw [qak (by rintro rfl;rcases ht with ht | ht;exact hx (.inl ht);omega),h.kp j hj hx],qc7 h.tl,h.le⟩
theorem Fw.app (h:Fw X N O O1 N1) (ht:N<=t) (h2:t<N2) (hn:N1<=N2):Fw X N O (O1++[(t,y)]) N2:=
 ⟨fun j hj hx=>by rw [qab,h.kp j hj hx,show look j [(t,y)]=none by rw [look,QA (by omega)];rfl];simp,by rw [Tail_append_iff,Tail_cons_iff];exact ⟨h.tl.mono hn,h2,Tail.nil _⟩,QAr h.le hn⟩
theorem Fw.sweep (h:Fw X N O O1 N1):Fw X N O (qau O1) N1:=
 ⟨fun j hj hx=>by
  have h1:=h.kp j hj hx;rw [qaf (by rw [h1];exact fun hc=>hx (.inr hc)),h1],qdm h.tl,h.le⟩
theorem Fw.up (h:Fw X N O O1 N1) (hn:N1<=N2):Fw X N O O1 N2:=⟨h.kp,h.tl.mono hn,QAr h.le hn⟩
end
def NetW (O:List (Nat×AO)) (n:Nat) (V:NetV) (f:AV) (X:Nat->Prop):Prop:=∃C pv lv H,NetM O n V f C pv lv H/\∀j,NetM.own n C pv lv H j->X j
def NP (X:Nat->Prop) (N:Nat) (O:List (Nat×AO)) (n:Nat) (f:AV) (V:NetV) (v:AV) (r:Option (Rt×AH)):Prop:=
 ∃O' N',r=some (.val v,⟨O',N'⟩)/\NetW O' n V f (fun j=>X j\/N<=j)/\Fw X N O O' N'
section
variable {β:Type} {fin:Option (Ex×St)->Option β}
theorem qf9 {O:List (Nat×AO)} {n N:Nat} {V:NetV} {f:AV} {C:Nat} {pv lv:AV} {H:List AV} {d:Bool} {dst:Option Nat} {r:List Xw} {K:List Go.Av.Fr} {e:Env} {Q:Option β->Prop} {k a b c:Int}
  (m:NetM O n V f C pv lv H) (hT:Tail O N) (hb:V.log.length<=10000)
  (hk:∀O' N' lv',NetM O' n (V.ev ⟨k,a,b,c⟩) f C pv lv' H->(∀t,tkn lv'=some t->tkn lv=some t\/N<=t)->Kp (fun j=>j=n\/tkn lv=some j\/Rs O j) N O O'->Tail O' N'->N<=N'->Q (Go.Av.stepV Φ fin d dst r K e (some (.val (.agg [.int .i64 k,.int .i64 a,.int .i64 b,.int .i64 c]),⟨O',N'⟩)))):
  Q (Go.Av.stepV Φ fin d dst r K e (qai Φ f_64 [.ptr n 7 0 0,.int .i64 k,.int .i64 a,.int .i64 b,.int .i64 c] ⟨O,N⟩)):=by
 obtain ⟨O',N',lv',e1,h1,h2,h3,h4,h5⟩:=qxn m hT hb k a b c;rw [e1];exact hk O' N' lv' h1 h2 h3 h4 h5
end
section
variable {O:List (Nat×AO)} {n N g:Nat} {V:NetV} {C:Nat} {pv lv:AV} {H:List AV} {X:Nat->Prop}
theorem NetM.top {O':List (Nat×AO)} {f:AV} {L:List Link} (m:NetM O n V f C pv lv H) (hr:look n O'=some (.row 7 [nwR { V with links:=L } (.row C 4 0 V.cs.length) pv lv f])) (hk:∀(j:Nat) (y:AO),look j O=some y->y≠ .res->j≠n->look j O'=some y):NetM O' n { V with links:=L } f C pv lv H:=by
 have ho:∀j,NetM.own n C pv lv H j->j≠n->look j O'=look j O:=by
  intro j hj h1;obtain ⟨y,hy,hny⟩:=m.nr hj;rw [hk j y hy hny h1,hy]
 refine ⟨hr,by rw [ho C (.inr (.inl rfl)) (qan m.cf m.row (by simp))];exact m.cf,m.pk.fr fun t ht=>ho t (.inr (.inr (.inl ht))) (qan (m.pk.id ht) m.row (by simp)),m.hl,?_,m.lg.fr fun t ht=>ho t (.inr (.inr (.inr (.inl ht)))) (qan (m.lg.tk ht) m.row (by simp)),m.hi,m.hg⟩;intro k x h hx hh;refine (m.hp k x h hx hh).fr fun t ht=>?_
 obtain ⟨l,hl⟩:=m.hk hh ht;exact ho t (.inr (.inr (.inr (.inr ⟨h,Qe hh,ht⟩)))) (qan hl m.row (by simp))
theorem qkj {lv':AV} {N1:Nat} (hX:∀j,NetM.own n C pv lv H j->X j) (hl:∀t,tkn lv'=some t->tkn lv=some t\/N1<=t) (hn:N<=N1):∀j,NetM.own n C pv lv' H j->X j\/N<=j:=by
 intro j hj;rcases hj with hj | hj | hj | hj | hj
 ·exact .inl (hX j (.inl hj))
 ·exact .inl (hX j (.inr (.inl hj)))
 ·exact .inl (hX j (.inr (.inr (.inl hj))))
 ·rcases hl j hj with h | h
  ·exact .inl (hX j (.inr (.inr (.inr (.inl h)))))
  ·right;omega
 ·exact .inl (hX j (.inr (.inr (.inr (.inr hj)))))
theorem qkk {O1:List (Nat×AO)} (hX:∀j,NetM.own n C pv lv H j->X j):∀j,j<N->(j=n\/tkn lv=some j\/Rs O1 j)->X j\/Rs O1 j:=by
 intro j _ hj;rcases hj with hj | hj | hj
 ·exact .inl (hX j (.inl hj))
 ·exact .inl (hX j (.inr (.inr (.inr (.inl hj)))))
 ·exact .inr hj
theorem qsf (m:NetM O n V (.func (.func g) [] []) C pv lv H) (hX:∀j,NetM.own n C pv lv H j->X j) (hT:Tail O N) (s:NetS V) (k:Int) (d:Bool):
  NP X N O n (.func (.func g) [] []) (qe2 V k d).1 (.int .i64 (qe2 V k d).2) (qai Φ f_42 [.ptr n 7 0 0,.int .i64 k,.bool d] ⟨O,N⟩):=by
 rw [qat (fn:=c_42) rfl rfl];have h:=m.row;have hm:=fun O N=>qem (O:=O) (N:=N) (n:=n) (V:=V) (cv:= .row C 4 0 V.cs.length) (pv:=pv) (lv:=lv) (g:=g)
 rw [qca] at h hm;have h1:=qj0 V.ports V.links V.hosts k d s.p s.l s.h;have t0:=hT N (Qb _);have hn:=hT.lt h;have q0:¬N=n/\¬n=N:=by omega
 obtain ⟨q1,q2⟩:=q0;by_cases z:k<0\/(V.links.length:Int)<=k
 ·rw [qoi _ _ _ _ _ z] at h1;simp [c_42,hm,h,h1,qe2,z,t0,q1,q2,qab,qaa];exact ⟨_,_,rfl,⟨C,pv,lv,H,m,fun j hj=> .inl (hX j hj)⟩,(Fw.init hT).up (by omega)⟩
 obtain ⟨j,rfl⟩:=QAc (show 0<=k by omega);rw [qxv _ _ _ _ (show j<V.links.length by omega)] at h1;have z1:¬V.links.length<=j:=by omega
 cases d with
 | false=>
  simp [c_42,hm,h,h1,qe2,z,z1,t0,q1,q2,qab,qaa];refine qf9 (m.top (L:=setD V.links j false) ?_ ?_) (qaj (hT.mono (by omega))) s.g ?_
  ·simp [qaa,h,qca]
  ·intro i y hi _ hne;rw [qaa,QA hne,hi]
  ·intro O' N' lv' m' hl hk hT' hN;simp;exact ⟨_,_,rfl,⟨C,pv,lv',H,m',qkj hX hl (by omega)⟩,(((Fw.init hT).set (.inl (hX n (.inl rfl)))).up (by omega)).then hk (qkk hX) hT' hN⟩
 | true=>
  simp [c_42,hm,h,h1,qe2,z,z1,t0,q1,q2,qab,qaa];refine qf9 (m.top (L:=setD V.links j true) ?_ ?_) (qaj (hT.mono (by omega))) s.g ?_
  ·simp [qaa,h,qca]
  ·intro i y hi _ hne;rw [qaa,QA hne,hi]
  ·intro O' N' lv' m' hl hk hT' hN;simp;exact ⟨_,_,rfl,⟨C,pv,lv',H,m',qkj hX hl (by omega)⟩,(((Fw.init hT).set (.inl (hX n (.inl rfl)))).up (by omega)).then hk (qkk hX) hT' hN⟩
end
theorem clBy (l:List Int) (h:l.length<2^40):qac Φ f_47 [.slice 1 (l.map c8)]=some (.val (.slice 1 (l.map c8))):=
 qc8 (bytes:=1) rfl _ (qa4 1 c8 l fun x=>by simp [c8]) (by rw [QAb];omega)
theorem qtj {l:List Pk} {H:List AV} (h:H.length=l.length) (x:Pk) (v:AV):pkN (l++[x]) (H++[v])=pkN l H++[PkN x v]:=by
 unfold pkN;rw [List.zipWith_append h.symm];rfl
theorem qbl {l:List Pk} {H:List AV} (h:H.length=l.length):(pkN l H).length=l.length:=by simp [pkN,h]
theorem qxh {l:List Pk} {H:List AV}:qa9 9 (pkN l H)=true:=by
 induction l generalizing H with
 | nil=>rfl
 | cons x l ih=>cases H with
  | nil=>rfl
  | cons v H=>
   have:=ih (H:=H);simp only [pkN,List.zipWith_cons_cons,qa9,anyL] at this ⊢;simp [PkN,this]
theorem qft {l:List Pk} {H:List AV} {k:Nat} {x:Pk} {h:AV} (hx:l[k]? =some x) (hh:H[k]? =some h):(pkN l H)[k]? =some (PkN x h):=by
 unfold pkN;rw [List.getElem?_zipWith,hx,hh]
theorem Fw.app2 {X:Nat->Prop} {N N1 N2 t u:Nat} {O O1:List (Nat×AO)} {y z:AO} (h:Fw X N O O1 N1) (ht:N<=t) (h1:N1<=t+1) (hu:t<u) (hn:u+1<=N2) (hh:N1<=N2:=by omega):Fw X N O (O1++[(t,y),(u,z)]) N2:=by
 have:=((h.app (y:=y) ht (N2:=u) hu (by omega)).app (t:=u) (y:=z) (N2:=N2) (by omega) (by omega) (by omega))
 rwa [QBs] at this
section
variable {O:List (Nat×AO)} {n N g:Nat} {V:NetV} {C:Nat} {pv lv:AV} {H:List AV} {X:Nat->Prop}
theorem NetM.push {O':List (Nat×AO)} {f pv':AV} {x:Pk} (m:NetM O n V f C pv lv H) (hr:look n O'=some (.row 7 [nwR V (.row C 4 0 V.cs.length) pv' lv f])) (hp:Ex1 O' 9 pv' (pkN V.pk H++[PkN x (.Xu 3 [])])) (hx:x.hops=[])
  (hk:∀(j:Nat) (y:AO),look j O=some y->y≠ .res->j≠n->vid pv≠some j->look j O'=some y):NetM O' n { V with pk:=V.pk++[x] } f C pv' lv (H++[.Xu 3 []]):=by
 have ho:∀j,NetM.own n C pv lv H j->j≠n->vid pv≠some j->look j O'=look j O:=by
  intro j hj h1 h2;obtain ⟨y,hy,hny⟩:=m.nr hj;rw [hk j y hy hny h1 h2,hy]
 have hpv:∀j y,look j O=some y->(∀es,y≠ .row 9 es)->vid pv≠some j:=by
  intro j y hj hy hc;have:=m.pk.id hc;rw [hj] at this;cases this;exact hy _ rfl
 refine ⟨hr,by rw [ho C (.inr (.inl rfl)) (qan m.cf m.row (by simp)) (hpv C _ m.cf (by simp))];exact m.cf,by rw [qtj m.hl];exact hp,by simp [m.hl],?_,m.lg.fr fun t ht=>ho t (.inr (.inr (.inr (.inl ht)))) (qan (m.lg.tk ht) m.row (by simp)) (hpv t _ (m.lg.tk ht) (by simp)),?_,?_⟩
 ·intro k y h hy hh;by_cases hk':k<V.pk.length
  ·rw [Ql hk'] at hy;rw [Ql (by rw [m.hl];exact hk')] at hh;refine (m.hp k y h hy hh).fr fun t ht=>?_
   obtain ⟨l,hl⟩:=m.hk hh ht;exact ho t (.inr (.inr (.inr (.inr ⟨h,Qe hh,ht⟩)))) (qan hl m.row (by simp)) (hpv t _ hl (by simp))
  ·rw [Qp (by omega)] at hy;rw [Qp (by rw [m.hl];omega),m.hl] at hh;cases hd:k - V.pk.length with
   | zero=>
    rw [hd] at hy hh;simp at hy hh;subst hy hh;exact .inl ⟨by rw [hx];rfl,rfl⟩
   | succ q=>rw [hd] at hy;simp at hy
 ·intro k k' h h' t hh hh' ht ht';have key:∀(k:Nat) (h:AV),(H++[AV.Xu 3 []])[k]? =some h->tkn h=some t->H[k]? =some h:=by
   intro k h hh ht;by_cases hk':k<H.length
   ·rwa [Ql hk'] at hh
   ·rw [Qp (by omega)] at hh;cases hd:k - H.length with
    | zero=>rw [hd] at hh;simp at hh;subst hh;cases ht
    | succ q=>rw [hd] at hh;simp at hh
  exact m.hi k k' h h' t (key k h hh ht) (key k' h' hh' ht') ht ht'
 ·intro k h t hh ht;by_cases hk':k<H.length
  ·rw [Ql hk'] at hh;exact m.hg k h t hh ht
  ·rw [Qp (by omega)] at hh;cases hd:k - H.length with
   | zero=>rw [hd] at hh;simp at hh;subst hh;cases ht
   | succ q=>rw [hd] at hh;simp at hh
theorem qq4 {pv':AV} {N1:Nat} (hX:∀j,NetM.own n C pv lv H j->X j) (hl:∀t,vid pv'=some t->N1<=t) (hn:N<=N1):∀j,NetM.own n C pv' lv (H++[.Xu 3 []]) j->X j\/N<=j:=by
 intro j hj;rcases hj with hj | hj | hj | hj | ⟨h,hh,hj⟩
 ·exact .inl (hX j (.inl hj))
 ·exact .inl (hX j (.inr (.inl hj)))
 ·have:=hl j hj;right;omega
 ·exact .inl (hX j (.inr (.inr (.inr (.inl hj)))))
 ·rcases QAd.1 hh with hh | hh
  ·exact .inl (hX j (.inr (.inr (.inr (.inr ⟨h,hh,hj⟩)))))
  ·simp at hh;subst hh;cases hj
theorem qzo (m:NetM O n V (.func (.func g) [] []) C pv lv H) (hX:∀j,NetM.own n C pv lv H j->X j) (hT:Tail O N) (s:NetS V) (h:Int) (b:List Int) (hb:b.length<2^40):
  NP X N O n (.func (.func g) [] []) (qc1 V h b).1 (.tup [.int .i64 (qc1 V h b).2.1,.int .i64 (qc1 V h b).2.2]) (qai Φ f_28 [.ptr n 7 0 0,.int .i64 h,.slice 1 (b.map c8)] ⟨O,N⟩):=by
 rw [qat (fn:=c_28) rfl rfl];have hr:=m.row;have hm:=fun O N=>qem (O:=O) (N:=N) (n:=n) (V:=V) (cv:= .row C 4 0 V.cs.length) (pv:=pv) (lv:=lv) (g:=g)
 rw [qca] at hr hm;unfold qc1;have hB:=clBy b hb;have fin:NP X N O n (.func (.func g) [] []) V (.tup [.int .i64 0,.int .i64 8]) (some (.val (.tup [.int .i64 0,.int .i64 8]),⟨O,N⟩)):=⟨_,_,rfl,⟨C,pv,lv,H,m,fun j hj=> .inl (hX j hj)⟩,Fw.init hT⟩;by_cases z1:h<0
 ·simp [c_28,hm,hr,z1];exact fin
 obtain ⟨k,rfl⟩:=QAc (show 0<=h by omega);by_cases z2:V.hosts.length<=k
 ·have z2':(V.hosts.length:Int)<=k:=by omega
  simp [c_28,hm,hr,z2];exact fin
 have hn:k<V.hosts.length:=by omega
 by_cases z3:512<b.length
 ·simp [c_28,hm,hr,z2,z3];exact ⟨_,_,rfl,⟨C,pv,lv,H,m,fun j hj=> .inl (hX j hj)⟩,Fw.init hT⟩
 have hk:=s.k;have z4:¬4096<=V.pk.length:=by omega
 have b2:(V.pk.length+1)*136<=70368744177664:=by omega
 have hnN:=hT.lt hr;have hal:qa9 9 (pkN V.pk H)=true:=qxh;have hlen:=qbl m.hl;have hT':∀k,look (N+k) O=none:=fun k=>hT (N+k) (by omega)
 have q1:∀k,¬N+k=n:=fun k=>by omega
 have q2:∀k,¬n=N+k:=fun k=>by omega
 have q3:∀k,(n == N+k)=false:=fun k=>by simp;omega
 have t65:=hT' (64+1);rcases m.pk with ⟨hz,rfl⟩ | ⟨P,rfl,hz⟩
 ·have hz':V.pk=[]:=Qg (by rw [<- hlen,hz];rfl);simp [c_28,hm,hr,z2,z3,z4,hn,hB,hz',hT',q1,q2,q3,qab,qaa,qaf,PortID.c];have hfw:∀x y z,Fw X N O (qau (setl n x (O++[(N+63,y),(N+64,z)]))) (N+64+1):=fun x y z=>Fw.sweep (Fw.set (Fw.app2 (N2:=N+64+1) (Fw.init hT) (by omega) (by omega) (by omega) (Qb _)) (.inl (hX n (.inl rfl))))
  refine qf9 (m.push (pv':= .row (N+64) 9 0 1) (x:=⟨V.hosts[k],b,[],false,0,0⟩) ?_ (.inr ⟨N+64,?_,?_⟩) rfl ?_) ?_ s.g ?_
  ·simp [qaf,qaa,qab,hr,q1,q2,qca]
  ·simp [hz]
  ·simp [hz,qaf,qaa,qab,hT',q1,PkN]
  ·intro i y hi hy h1 _;simp [qaf,qaa,qab,hi,h1,hy]
  ·exact (hfw _ _ _).tl
  ·intro O' N' lv' m' hl hk hTn hN;rw [hz'] at m';simp;refine ⟨_,_,rfl,⟨C,_,lv',_,m',?_⟩,Fw.then (hfw _ _ _) hk (qkk hX) hTn hN⟩;exact fun j hj=>(qkj (X:=fun j=>X j\/N<=j) (qq4 hX (N1:=N) (pv':= .row (N+64) 9 0 1) (fun t ht=>by simp only [vid,Option.some.injEq] at ht;omega) (Qb _)) hl (show N<=N+64+1 by omega) j hj).elim id .inr
 ·have u1:P≠n:=qan hz hr (by simp);have u2:=u1.symm;have hPl:=hT.lt hz;have q4:∀k,¬N+k=P:=fun k=>by omega
  have q5:∀k,¬P=N+k:=fun k=>by omega
  have q6:∀k,(P == N+k)=false:=fun k=>by simp;omega
  have u3:(P == n)=false:=by simpa using u1
  have u4:(n == P)=false:=by simpa using u2
  have hd1:∀x,look (N+64) (qaw P (O++[(N+63,x),(N+64,.res)]))=some .res:=fun x=>by rw [qak (q4 64)];simp [qab,hT']
  have hd2:∀r,look n (qaw P (O++r))=look n (O++r):=fun r=>qak u2 _
  simp [c_28,hm,hr,z2,z3,z4,hn,hB,hlen,hz,b2,hal,hT',hd1,hd2,q1,q2,q3,q4,q5,q6,u1,u2,u3,u4,qab,qaa,qaf,PortID.c];have hn64:∀x,look (N+64) (setl (N+64) x (qaw P (O++[(N+63,.row 9 [PkN ⟨V.hosts[k],b,[],false,0,0⟩ (.Xu 3 [])]),(N+64,.res)])))=some x:=fun x=>by rw [qaa,hd1];simp
  have hfw:∀x y z,Fw X N O (qau (setl n x (setl (N+64) y (qaw P (O++[(N+63,z),(N+64,.res)]))))) (N+64+1):=fun x y z=>Fw.sweep (Fw.set (Fw.set (Fw.drop (Fw.app2 (N2:=N+64+1) (Fw.init hT) (by omega) (by omega) (by omega) (Qb _)) (.inl (hX P (.inr (.inr (.inl rfl)))))) (.inr (by omega))) (.inl (hX n (.inl rfl))))
  refine qf9 (m.push (pv':= .row (N+64) 9 0 (V.pk.length+1)) (x:=⟨V.hosts[k],b,[],false,0,0⟩) ?_ (.inr ⟨N+64,?_,?_⟩) rfl ?_) (hfw _ _ _).tl s.g ?_
  ·simp [qaf,qaa,hd2,qab,hr,q2,qca]
  ·simp [hlen]
  ·simp [qaf,qaa,hd1,q1,PkN]
  ·intro i y hi hy h1 h2;have h3:¬i=P:=fun e=>h2 (by rw [e];rfl)
   have h4:¬i=N+64:=by rintro rfl;rw [hT'] at hi;cases hi
   simp [qaf,qaa,qak h3,qab,hi,h1,h4,hy]
  ·intro O' N' lv' m' hl hk hTn hN;simp;refine ⟨_,_,rfl,⟨C,_,lv',_,m',?_⟩,Fw.then (hfw _ _ _) hk (qkk hX) hTn hN⟩;exact fun j hj=>(qkj (X:=fun j=>X j\/N<=j) (qq4 hX (N1:=N) (pv':= .row (N+64) 9 0 (V.pk.length+1)) (fun t ht=>by simp only [vid,Option.some.injEq] at ht;omega) (Qb _)) hl (show N<=N+64+1 by omega) j hj).elim id .inr
end
structure CfgC (c:Xf):Prop where
 rl:c.rows.length<2^40
 rs:∀l∈c.rows,l.length<2^39/\∀r∈l,r.entry.keys.length<2^40/\r.entry.call.args.length<2^40
 nl:c.Xr.length<2^40
 dl:c.Xq.length<2^40
 ds:∀d∈c.Xq,d.args.length<2^40
 gl:c.Xm.length<2^40
 gs:∀l∈c.Xm,l.length<2^40
section
variable {β:Type} {fin:Option (Ex×St)->Option β}
theorem qacx (l:List Rw) (hs:∀r∈l,r.entry.keys.length<2^40/\r.entry.call.args.length<2^40) (hl:l.length<2^39) (K:List Fr) (Q:Option β->Prop) (e:Env) (O:List (Nat×AO)) (N T:Nat) (hT:Tail O N) (h0:look T O=some (.tok 5 0))
  (h6:look 6 e=some (.app 5 [] T)) (h24:look 24 e=some (.slice 5 (l.map Rw.c))) (h25:look 25 e=some (.int .i64 l.length)) (h26:look 26 e=some (.int .i64 0))
  (hK:∀e' O' N',Kp (fun j=>j=T) N O O'->Tail O' N'->N<=N'->look 6 e'=some (.app 5 (l.map Rw.c) T)->look T O'=some (.tok 5 l.length)->
   look 1 e'=look 1 e->look 2 e'=look 2 e->look 3 e'=look 3 e->look 18 e'=look 18 e->look 19 e'=look 19 e->look 20 e'=look 20 e->Q (go Φ fin K .normal ⟨e',⟨O',N'⟩⟩)):
  Q (go Φ fin (.c (.loop c_65_l0):: .b 2::K) .normal ⟨e,⟨O,N⟩⟩):=by
 have hTN:=hT.lt h0;refine qbk l.length (fun i e' h=>∃O' N',h=⟨O',N'⟩/\Kp (fun j=>j=T) N O O'/\Tail O' N'/\N<=N'/\look 6 e'=some (.app 5 ((l.take i).map Rw.c) T)/\look T O'=some (.tok 5 i)/\look 24 e'=some (.slice 5 (l.map Rw.c))/\look 25 e'=some (.int .i64 l.length)/\look 26 e'=some (.int .i64 i)/\
   look 1 e'=look 1 e/\look 2 e'=look 2 e/\look 3 e'=look 3 e/\look 18 e'=look 18 e/\look 19 e'=look 19 e/\look 20 e'=look 20 e) Q ?_ ?_ 0 _ _ (Qc _) ?_
 ·rintro i e' _ L hi hL ⟨O',N',rfl,hk,hT',hN,h6,hlk,h24,h25,h26,g1,g2,g3,g18,g19,g20⟩ ih;have hw1:=qao i (by omega);have t0:=hT' N' (Qb _);have hTl:=hT'.lt hlk;have q1:¬N'=T:=by omega
  have q2:¬T=N':=by omega
  have hr:=hs _ (Qd hi);have c1:=qv3 l[i].entry.keys hr.1;have c2:=qio l[i].entry.call.args hr.2;have hm:min i l.length=i:=by omega
  have hb:(i+1)*72<=70368744177664:=by omega
  have htk:(l.map Rw.c).take (i+1)=(l.map Rw.c).take i++[Rw.c l[i]]:=qa7 hi;rw [Rw.c] at htk;simp [c_65_l0,Rw.c,h6,h24,h25,h26,hi,hlk,t0,q1,q2,c1,c2,hm,hb,hw1,qab,qaa];refine ih _ _ ⟨_,N'+1,rfl,Kp.setl (Kp.app hk (by omega)) (.inr rfl),qaj (hT'.app1 (Qb _)),by omega,?_,?_,?_,?_,?_,?_,?_,?_,?_,?_,?_⟩<;>simp [htk,h6,h24,h25,g1,g2,g3,g18,g19,g20,qaa,qab,hlk]
 ·rintro e' _ L hL ⟨O',N',rfl,hk,hT',hN,h6,hlk,h24,h25,h26,g1,g2,g3,g18,g19,g20⟩;rw [QAf] at h6;simp [c_65_l0,h25,h26,hL];refine hK _ O' N' hk hT' hN ?_ hlk ?_ ?_ ?_ ?_ ?_ ?_<;>simp [h6,g1,g2,g3,g18,g19,g20]
 ·exact ⟨O,N,rfl,fun _ _ _=>rfl,hT,Qb _,by simpa using h6,h0,h24,h25,h26,rfl,rfl,rfl,rfl,rfl,rfl⟩
theorem qacy (R:List (List Rw)) (hR:R.length<2^40) (hs:∀l∈R,l.length<2^39/\∀r∈l,r.entry.keys.length<2^40/\r.entry.call.args.length<2^40) (nx:AV) (K:List Fr) (Q:Option β->Prop) (e:Env) (O:List (Nat×AO)) (N b:Nat) (hT:Tail O N)
  (hb:look b O=some (.row 4 [[.Xu 1 [],nx,.Xu 2 [],.Xu 1 []]])) (h3:look 3 e=some (.ptr b 4 0 0)) (h18:look 18 e=some (.slice 1 (R.map (cS 5 Rw.c)))) (h19:look 19 e=some (.int .i64 R.length)) (h20:look 20 e=some (.int .i64 0))
  (hK:∀e' O' N' v,Kp (fun j=>j=b) N O O'->Tail O' N'->N<=N'->Ap O' 1 v (R.map (cS 5 Rw.c))->(∀t,tkn v=some t->N<=t)->look b O'=some (.row 4 [[v,nx,.Xu 2 [],.Xu 1 []]])->
   look 1 e'=look 1 e->look 2 e'=look 2 e->look 3 e'=look 3 e->Q (go Φ fin K .normal ⟨e',⟨O',N'⟩⟩)):
  Q (go Φ fin (.c (.loop c_65_l3):: .b 0::K) .normal ⟨e,⟨O,N⟩⟩):=by
 have hbN:=hT.lt hb;refine qbk R.length (fun i e' h=>∃O' N' v,h=⟨O',N'⟩/\Kp (fun j=>j=b) N O O'/\Tail O' N'/\N<=N'/\Ap O' 1 v ((R.take i).map (cS 5 Rw.c))/\(∀t,tkn v=some t->N<=t)/\look b O'=some (.row 4 [[v,nx,.Xu 2 [],.Xu 1 []]])/\look 3 e'=some (.ptr b 4 0 0)/\look 18 e'=some (.slice 1 (R.map (cS 5 Rw.c)))/\look 19 e'=some (.int .i64 R.length)/\look 20 e'=some (.int .i64 i)/\
   look 1 e'=look 1 e/\look 2 e'=look 2 e) Q ?_ ?_ 0 _ _ (Qc _) ?_
 ·rintro i e' _ L hi hL ⟨O',N',v,rfl,hk,hT',hN,hv,hvt,hb',h3,h18,h19,h20,g1,g2⟩ ih;have hw1:=qao i (by omega);have t0:=hT' N' (Qb _);have hri:=hs _ (Qd hi);have hm:min i R.length=i:=by omega
  have hc:(i+1)*24<=70368744177664:=by omega
  have htk:(R.map (cS 5 Rw.c)).take (i+1)=(R.map (cS 5 Rw.c)).take i++[[.slice 5 (R[i].map Rw.c)]]:=qa7 hi;simp [c_65_l3,h18,h19,h20,hi,t0,cS];refine qacx R[i] hri.2 hri.1 _ _ _ _ _ N' (hT'.app1 (Qb _)) (by simp [qab,t0]) (by simp) (by simp) (by simp) (by simp) ?_;intro e2 O2 N2 hk2 hT2 hN2 h6 hl2 f1 f2 f3 f18 f19 f20;simp [h3,h18,h19,h20] at f1 f2 f3 f18 f19 f20;have hO2:∀j y,look j O'=some y->look j O2=some y:=by
   intro j y hj;have:=hT'.lt hj;rw [hk2 j (by omega) (by omega),qab,hj];rfl
  have hb2:=hO2 _ _ hb';have u0:=hT2 N2 (Qb _);have hbN2:b<N2:=by omega
  have q1:¬N2=b:=by omega
  have q2:¬b=N2:=by omega
  have hkk:Kp (fun j=>j=b) N O O2:=by
   intro j hj hx;rw [hk2 j (by omega) (by omega),qab,hk j hj hx];have:¬N'=j:=by omega
   simp [this]
  rcases hv with ⟨hz,rfl⟩ | ⟨t,rfl,ht⟩
  ·have hi0:i=0:=by
    have:=congrArg List.length hz;rw [QAb,QAv,QBa] at this;omega
   subst hi0;simp [c_65_k1,c_65_k2,f3,h6,f20,u0,qab,qaa,hb2,q1,q2,wr1];refine ih _ _ ⟨_,N2+1,.app 1 [[.slice 5 (R[0].map Rw.c)]] N2,rfl,Kp.setl (Kp.app hkk (by omega)) (.inr rfl),qaj (hT2.app1 (Qb _)),by omega,.inr ⟨N2,?_,?_⟩,fun t ht=>by simp only [tkn,Option.some.injEq] at ht;omega,?_,?_,?_,?_,?_,?_,?_⟩<;>simp [htk,f1,f2,f3,f18,f19,qaa,qab,u0,q1,q2,hb2,cS,g1,g2]
   all_goals simp [Nat.min_eq_left (show 1<=R.length by omega)]
  ·have ht2:=hO2 _ _ ht;have n1:=qan ht2 hb2 (by simp);have n2:=n1.symm;simp [hm] at ht2;simp [c_65_k1,c_65_k2,f3,h6,f20,u0,qab,qaa,hb2,q1,q2,n1,n2,ht2,hm,hc,hw1];refine ih _ _ ⟨_,N2,.app 1 ((R.map (cS 5 Rw.c)).take i++[[.slice 5 (R[i].map Rw.c)]]) t,rfl,Kp.setl (Kp.setl hkk (.inl (hvt t rfl))) (.inr rfl),qaj (qaj hT2),by omega,.inr ⟨t,?_,?_⟩,hvt,?_,?_,?_,?_,?_,?_,?_⟩
   all_goals simp [htk,f1,f2,f3,f18,f19,qaa,qab,n1,n2,ht2,hb2,g1,g2,hm]
 ·rintro e' _ L hL ⟨O',N',v,rfl,hk,hT',hN,hv,hvt,hb',h3,h18,h19,h20,g1,g2⟩;rw [QAf] at hv;simp [c_65_l3,h19,h20,hL];refine hK _ O' N' v hk hT' hN hv hvt hb' ?_ ?_ ?_<;>simp [g1,g2,h3, *]
 ·exact ⟨O,N,_,rfl,fun _ _ _=>rfl,hT,Qb _,.inl ⟨by simp,rfl⟩,(fun t ht=>by cases ht),hb,h3,h18,h19,h20,rfl,rfl⟩
end
section
variable {β:Type} {fin:Option (Ex×St)->Option β}
theorem qaf1 (D:List Xb) (hD:D.length<2^40) (hs:∀d∈D,d.args.length<2^40) (a nx:AV) (K:List Fr) (Q:Option β->Prop) (e:Env) (O:List (Nat×AO)) (N b:Nat) (hT:Tail O N)
  (hb:look b O=some (.row 4 [[a,nx,.Xu 2 [],.Xu 1 []]])) (h3:look 3 e=some (.ptr b 4 0 0)) (h57:look 57 e=some (.slice 2 (D.map Xb.c))) (h58:look 58 e=some (.int .i64 D.length)) (h59:look 59 e=some (.int .i64 0))
  (hK:∀e' O' N' v,Kp (fun j=>j=b) N O O'->Tail O' N'->N<=N'->Ap O' 2 v (D.map Xb.c)->(∀t,tkn v=some t->N<=t)->look b O'=some (.row 4 [[a,nx,v,.Xu 1 []]])->
   look 1 e'=look 1 e->look 2 e'=look 2 e->look 3 e'=look 3 e->Q (go Φ fin K .normal ⟨e',⟨O',N'⟩⟩)):
  Q (go Φ fin (.c (.loop c_65_l4):: .b 4::K) .normal ⟨e,⟨O,N⟩⟩):=by
 have hbN:=hT.lt hb;refine qbk D.length (fun i e' h=>∃O' N' v,h=⟨O',N'⟩/\Kp (fun j=>j=b) N O O'/\Tail O' N'/\N<=N'/\Ap O' 2 v ((D.take i).map Xb.c)/\(∀t,tkn v=some t->N<=t)/\look b O'=some (.row 4 [[a,nx,v,.Xu 1 []]])/\look 3 e'=some (.ptr b 4 0 0)/\look 57 e'=some (.slice 2 (D.map Xb.c))/\look 58 e'=some (.int .i64 D.length)/\look 59 e'=some (.int .i64 i)/\
   look 1 e'=look 1 e/\look 2 e'=look 2 e) Q ?_ ?_ 0 _ _ (Qc _) ?_
 ·rintro i e' _ L hi hL ⟨O',N',v,rfl,hk,hT',hN,hv,hvt,hb',h3,h57,h58,h59,g1,g2⟩ ih;have hw1:=qao i (by omega);have t0:=hT' N' (Qb _);have t1:=hT' (N'+1) (by omega);have hd:=hs _ (Qd hi);have c1:=qio D[i].args hd;have hm:min i D.length=i:=by omega
  have hc:(i+1)*32<=70368744177664:=by omega
  have htk:(D.map Xb.c).take (i+1)=(D.map Xb.c).take i++[Xb.c D[i]]:=qa7 hi;have hbN2:b<N':=by omega
  have q0:¬N'=b/\¬b=N'/\¬N'+1=b/\¬b=N'+1:=by omega
  obtain ⟨q1,q2,q3,q4⟩:=q0;rw [Xb.c] at htk;rcases hv with ⟨hz,rfl⟩ | ⟨t,rfl,ht⟩
  ·have hi0:i=0:=by
    have:=congrArg List.length hz;rw [QAb,QAv,QBa] at this;omega
   subst hi0;simp [c_65_l4,Xb.c,h3,h57,h58,h59,hi,t0,t1,c1,qab,qaa,hb',q1,q2,q3,q4,wr1];refine ih _ _ ⟨_,N'+1+1,.app 2 [Xb.c D[0]] (N'+1),rfl,?_,?_,by omega,.inr ⟨N'+1,?_,?_⟩,(fun t ht=>by simp only [tkn,Option.some.injEq] at ht;omega),?_,?_,?_,?_,?_,?_,?_⟩
   all_goals first
    | (simp [Xb.c,htk,h3,h57,h58,qaa,qab,t0,t1,q1,q2,q3,q4,hb',g1,g2];done)
    | skip
   ·exact Kp.setl (Kp.appL hk (by simp;omega)) (.inr rfl)
   ·exact qaj (by simp [Tail_append_iff,Tail_cons_iff,qbu];exact ⟨hT'.mono (by omega),by omega⟩)
  ·have n1:=qan ht hb' (by simp);have n2:=n1.symm;have htN:=hT'.lt ht;have r0:¬N'=t/\¬t=N':=by omega
   obtain ⟨r1,r2⟩:=r0;simp [hm] at ht;simp [c_65_l4,Xb.c,h3,h57,h58,h59,hi,t0,t1,c1,qab,qaa,hb',q1,q2,q3,q4,r1,r2,n1,n2,ht,hm,hc,hw1];refine ih _ _ ⟨_,N'+1,.app 2 ((D.map Xb.c).take i++[Xb.c D[i]]) t,rfl,?_,?_,by omega,.inr ⟨t,?_,?_⟩,hvt,?_,?_,?_,?_,?_,?_,?_⟩
   all_goals first
    | (simp [Xb.c,htk,h3,h57,h58,qaa,qab,t0,t1,q1,q2,q3,q4,r1,r2,n1,n2,ht,hm,hb',g1,g2];done)
    | skip
   ·exact Kp.setl (Kp.setl (Kp.app hk (by omega)) (.inl (hvt t rfl))) (.inr rfl)
   ·exact qaj (qaj (hT'.app1 (Qb _)))
 ·rintro e' _ L hL ⟨O',N',v,rfl,hk,hT',hN,hv,hvt,hb',h3,h57,h58,h59,g1,g2⟩;rw [QAf] at hv;simp [c_65_l4,h58,h59,hL];refine hK _ O' N' v hk hT' hN hv hvt hb' ?_ ?_ ?_<;>simp [g1,g2,h3, *]
 ·exact ⟨O,N,_,rfl,fun _ _ _=>rfl,hT,Qb _,.inl ⟨by simp,rfl⟩,(fun t ht=>by cases ht),hb,h3,h57,h58,h59,rfl,rfl⟩
theorem qaf2 (D:List (List Int)) (hD:D.length<2^40) (hs:∀d∈D,d.length<2^40) (a nx d:AV) (K:List Fr) (Q:Option β->Prop) (e:Env) (O:List (Nat×AO)) (N b:Nat) (hT:Tail O N)
  (hb:look b O=some (.row 4 [[a,nx,d,.Xu 1 []]])) (h3:look 3 e=some (.ptr b 4 0 0)) (h75:look 75 e=some (.slice 1 (D.map (cS 1 c32)))) (h76:look 76 e=some (.int .i64 D.length)) (h77:look 77 e=some (.int .i64 0))
  (hK:∀e' O' N' v,Kp (fun j=>j=b) N O O'->Tail O' N'->N<=N'->Ap O' 1 v (D.map (cS 1 c32))->(∀t,tkn v=some t->N<=t)->look b O'=some (.row 4 [[a,nx,d,v]])->
   look 1 e'=look 1 e->look 2 e'=look 2 e->look 3 e'=look 3 e->Q (go Φ fin K .normal ⟨e',⟨O',N'⟩⟩)):
  Q (go Φ fin (.c (.loop c_65_l5):: .b 6::K) .normal ⟨e,⟨O,N⟩⟩):=by
 have hbN:=hT.lt hb;refine qbk D.length (fun i e' h=>∃O' N' v,h=⟨O',N'⟩/\Kp (fun j=>j=b) N O O'/\Tail O' N'/\N<=N'/\Ap O' 1 v ((D.take i).map (cS 1 c32))/\(∀t,tkn v=some t->N<=t)/\look b O'=some (.row 4 [[a,nx,d,v]])/\look 3 e'=some (.ptr b 4 0 0)/\look 75 e'=some (.slice 1 (D.map (cS 1 c32)))/\look 76 e'=some (.int .i64 D.length)/\look 77 e'=some (.int .i64 i)/\
   look 1 e'=look 1 e/\look 2 e'=look 2 e) Q ?_ ?_ 0 _ _ (Qc _) ?_
 ·rintro i e' _ L hi hL ⟨O',N',v,rfl,hk,hT',hN,hv,hvt,hb',h3,h75,h76,h77,g1,g2⟩ ih;have hw1:=qao i (by omega);have t0:=hT' N' (Qb _);have hd:=hs _ (Qd hi);have c1:=qio D[i] hd;have hm:min i D.length=i:=by omega
  have hc:(i+1)*24<=70368744177664:=by omega
  have htk:(D.map (cS 1 c32)).take (i+1)=(D.map (cS 1 c32)).take i++[[.slice 1 (D[i].map c32)]]:=qa7 hi;have hbN2:b<N':=by omega
  have q0:¬N'=b/\¬b=N':=by omega
  obtain ⟨q1,q2⟩:=q0;rcases hv with ⟨hz,rfl⟩ | ⟨t,rfl,ht⟩
  ·have hi0:i=0:=by
    have:=congrArg List.length hz;rw [QAb,QAv,QBa] at this;omega
   subst hi0;simp [c_65_l5,cS,h3,h75,h76,h77,hi,t0,c1,qab,qaa,hb',q1,q2,wr1];refine ih _ _ ⟨_,N'+1,.app 1 [[.slice 1 (D[0].map c32)]] N',rfl,Kp.setl (Kp.app hk (by omega)) (.inr rfl),qaj (hT'.app1 (Qb _)),by omega,.inr ⟨N',?_,?_⟩,(fun t ht=>by simp only [tkn,Option.some.injEq] at ht;omega),?_,?_,?_,?_,?_,?_,?_⟩
   all_goals simp [cS,htk,h3,h75,h76,qaa,qab,t0,q1,q2,hb',g1,g2]
   all_goals simp [Nat.min_eq_left (show 1<=D.length by omega)]
  ·have n1:=qan ht hb' (by simp);have n2:=n1.symm;simp [hm] at ht;simp [c_65_l5,cS,h3,h75,h76,h77,hi,t0,c1,qab,qaa,hb',q1,q2,n1,n2,ht,hm,hc,hw1];refine ih _ _ ⟨_,N',.app 1 ((D.map (cS 1 c32)).take i++[[.slice 1 (D[i].map c32)]]) t,rfl,Kp.setl (Kp.setl hk (.inl (hvt t rfl))) (.inr rfl),qaj (qaj hT'),by omega,.inr ⟨t,?_,?_⟩,hvt,?_,?_,?_,?_,?_,?_,?_⟩
   all_goals simp [htk,h3,h75,h76,qaa,qab,n1,n2,ht,hb',g1,g2,hm]
 ·rintro e' _ L hL ⟨O',N',v,rfl,hk,hT',hN,hv,hvt,hb',h3,h75,h76,h77,g1,g2⟩;rw [QAf] at hv;simp [c_65_l5,h76,h77,hL];refine hK _ O' N' v hk hT' hN hv hvt hb' ?_ ?_ ?_<;>simp [g1,g2,h3, *]
 ·exact ⟨O,N,_,rfl,fun _ _ _=>rfl,hT,Qb _,.inl ⟨by simp,rfl⟩,(fun t ht=>by cases ht),hb,h3,h75,h76,h77,rfl,rfl⟩
end
theorem Ap.snp {O:List (Nat×AO)} {N z n:Nat} {v:AV} {es:List (List AV)} (h:Ap O z v es):snap (n+1) ⟨O,N⟩ v=some (.slice z es):=by
 rcases h with ⟨rfl,rfl⟩ | ⟨t,rfl,_⟩<;>simp
def NcQ (c:Xf) (r:Option Rt):Prop:=r=some (.val (.agg [.slice 1 (c.rows.map (cS 5 Rw.c)),.slice 1 (c.Xr.map cI),.slice 2 (c.Xq.map Xb.c),.slice 1 (c.Xm.map (cS 1 c32))]))
theorem qfz (c:Xf) (s:CfgC c):qac Φ f_65 [.agg (Xf.c c)]=some (.val (.agg (Xf.c c))):=by
 rw [qad (fn:=c_65) rfl rfl];have c1:=qms c.Xr s.nl;simp [c_65,Xf.e4,c1];show NcQ c _;refine qacy c.rows s.rl s.rs (.slice 1 (c.Xr.map cI)) _ (NcQ c) _ _ _ 1 ?_ ?_ ?_ ?_ ?_ ?_ ?_
 ·simp [Tail_cons_iff,qbu]
 ·simp
 ·simp
 ·simp
 ·simp
 ·simp
 intro e1 O1 N1 v1 k1 T1 n1 a1 f1 l1 x1 x2 x3;simp at x1 x2 x3;have z1:look 0 O1=some (.row 4 [[.Xu 1 [],.Xu 1 [],.Xu 2 [],.Xu 1 []]]):=by rw [k1 0 (by omega) (by omega)];simp
 simp [c_65_k8,x1];refine qaf1 c.Xq s.dl s.ds v1 (.slice 1 (c.Xr.map cI)) _ (NcQ c) _ _ _ 1 T1 l1 ?_ ?_ ?_ ?_ ?_
 ·simp [x3]
 ·simp
 ·simp
 ·simp
 intro e2 O2 N2 v2 k2 T2 n2 a2 f2 l2 y1 y2 y3;simp [x1,x2,x3] at y1 y2 y3;have z2:look 0 O2=some (.row 4 [[.Xu 1 [],.Xu 1 [],.Xu 2 [],.Xu 1 []]]):=by rw [k2 0 (by omega) (by omega),z1]
 have a1':Ap O2 1 v1 (c.rows.map (cS 5 Rw.c)):=a1.fr fun t ht=>by
  have:=f1 t ht;have h:=a1.tk ht;exact k2 t (T1.lt h) (by rintro rfl;rw [l1] at h;cases h)
 simp [c_65_k7,y1];refine qaf2 c.Xm s.gl s.gs v1 (.slice 1 (c.Xr.map cI)) v2 _ (NcQ c) _ _ _ 1 T2 l2 ?_ ?_ ?_ ?_ ?_
 ·simp [y3]
 ·simp
 ·simp
 ·simp
 intro e3 O3 N3 v3 k3 T3 n3 a3 f3 l3 w1 w2 w3;simp [y1,y2,y3] at w1 w2 w3;have z3:look 0 O3=some (.row 4 [[.Xu 1 [],.Xu 1 [],.Xu 2 [],.Xu 1 []]]):=by rw [k3 0 (by omega) (by omega),z2]
 have p1:∀n O N,snap (n+1) ⟨O,N⟩ v1=some (.slice 1 (c.rows.map (cS 5 Rw.c))):=fun n O N=>by rcases a1 with ⟨h,rfl⟩ | ⟨t,rfl,_⟩<;>simp [*]
 have p2:∀n O N,snap (n+1) ⟨O,N⟩ v2=some (.slice 2 (c.Xq.map Xb.c)):=fun n O N=>by rcases a2 with ⟨h,rfl⟩ | ⟨t,rfl,_⟩<;>simp [*]
 have p3:∀n O N,snap (n+1) ⟨O,N⟩ v3=some (.slice 1 (c.Xm.map (cS 1 c32))):=fun n O N=>by rcases a3 with ⟨h,rfl⟩ | ⟨t,rfl,_⟩<;>simp [*]
 simp [NcQ,c_65_k6,w2,w3,l3,z3,qaa,p1,p2,p3]
def CCQ (N:Nat) (O:List (Nat×AO)) (cs:List Xf) (r:Option (Rt×AH)):Prop:=∃w O' N',r=some (.val w,⟨O',N'⟩)/\Ex1 O' 4 w (cs.map Xf.c)/\(∀j,vid w=some j->N<=j)/\Kp (fun _=>False) N O O'/\Tail O' N'/\N<=N'
theorem qht (cs:List Xf) (hs:∀c∈cs,CfgC c) (hl:cs.length<2^39) {O:List (Nat×AO)} {N:Nat} (hT:Tail O N) {v:AV} (hv:Re O 4 v (cs.map Xf.c)):CCQ N O cs (qai Φ f_37 [v] ⟨O,N⟩):=by
 rw [qat (fn:=c_37) rfl rfl];have hlen:=hv.len;simp [c_37,hlen,-lenOf];refine qbk cs.length (fun i e' h=>∃O' N' w,h=⟨O',N'⟩/\((i=0/\w= .Xu 4 [])\/∃id,w= .row id 4 0 i/\look id O'=some (.row 4 ((cs.map Xf.c).take i))/\N<=id)/\Kp (fun _=>False) N O O'/\Tail O' N'/\N<=N'/\look 3 e'=some w/\look 6 e'=some v/\look 7 e'=some (.int .i64 cs.length)/\look 8 e'=some (.int .i64 i)) (CCQ N O cs) ?_ ?_ 0 _ _ (Qc _) ?_
 ·rintro i e' _ L hi hL ⟨O',N',w,rfl,hw,hk,hT',hN,h3,h6,h7,h8⟩ ih;have hw1:=qao i (by omega);have hT0:=hT' N' (Qb _);have hT1:=hT' (N'+1) (by omega);have hT2:=hT' (N'+1+1) (by omega);have hm:min i cs.length=i:=by omega
  have hc:=qfz cs[i] (hs _ (Qd hi));rw [Xf.e4] at hc;have htk:(cs.map Xf.c).take (i+1)=(cs.map Xf.c).take i++[Xf.c cs[i]]:=qa7 hi;rw [Xf.e4] at htk;have hb:(i+1)*96<=70368744177664:=by omega
  have hv':Re O' 4 v (cs.map Xf.c):=by
   refine hv.fr fun j hj=>?_
   cases hv with
   | row id _ es0 n hn hl hle ht=>cases hj;exact hk j (hT.lt hl) (by simp)
   | sl=>cases hj
   | fs=>cases hj
   | ap=>cases hj
  have hlt:∀id y,look id O'=some y->¬id=N'/\¬N'=id/\¬id=N'+1/\¬N'+1=id/\¬id=N'+1+1/\¬N'+1+1=id:=fun id y h=>by have:=hT'.lt h;omega
  rcases hw with ⟨rfl,rfl⟩ | ⟨id,rfl,hlk,hid⟩
  ·cases hv' with
   | row id' _ es0 n hn hl' hle ht=>
    obtain ⟨q1,q2,q3,q4,q5,q6⟩:=hlt _ _ hl';have h0:es0[0]? =some (Xf.c cs[0]):=by
     have h:(es0.take (cs.map Xf.c).length)[0]? =(cs.map Xf.c)[0]? :=by rw [ht]
     rw [List.getElem?_take_of_lt (by simpa using hi)] at h;rw [h];simp [hi]
    rw [Xf.e4] at h0;simp [c_37_l0,Xf.e4,h3,h6,h7,h8,hi,hc,hT0,hT1,hT2,hn,hl',h0,q1,q2,q3,q4,q5,q6,qab];refine ih _ _ ⟨_,N'+1+1+1,.row (N'+1+1) 4 0 1,rfl,.inr ⟨N'+1+1,rfl,?_,by omega⟩,Kp.appL hk (by simp;omega),?_,by omega,?_,?_,?_,?_⟩
    ·simp [qab,hT2,htk]
    ·simp [Tail_append_iff,Tail_cons_iff,qbu];exact hT'.mono (by omega)
    all_goals simp [h3,h6,h7,wr1]
   | _=>
    simp [c_37_l0,Xf.e4,h3,h6,h7,h8,hi,hc,hT0,hT1,hT2,qab];refine ih _ _ ⟨_,N'+1+1+1,.row (N'+1+1) 4 0 1,rfl,.inr ⟨N'+1+1,rfl,?_,by omega⟩,Kp.appL hk (by simp;omega),?_,by omega,?_,?_,?_,?_⟩
    ·simp [qab,hT2,htk]
    ·simp [Tail_append_iff,Tail_cons_iff,qbu];exact hT'.mono (by omega)
    all_goals simp [h3,h6,h7,wr1]
  ·obtain ⟨r1,r2,r3,r4,r5,r6⟩:=hlt _ _ hlk;have hd:∀x,look (N'+1+1) (qaw id (O'++[(N'+1,x)]))=none:=fun x=>qdd _ (by simp [qab,hT2])
   cases hv' with
   | row id' _ es0 n hn hl' hle ht=>
    obtain ⟨q1,q2,q3,q4,q5,q6⟩:=hlt _ _ hl';have h0:es0[i]? =some (Xf.c cs[i]):=by
     have h:(es0.take (cs.map Xf.c).length)[i]? =(cs.map Xf.c)[i]? :=by rw [ht]
     rw [List.getElem?_take_of_lt (by simpa using hi)] at h;rw [h];simp [hi]
    rw [Xf.e4] at h0;simp [c_37_l0,Xf.e4,h3,h6,h7,h8,hi,hc,hT0,hT1,hT2,hn,hl',h0,hw1,hlk,hb,hm,hd,q1,q2,q3,q4,q5,q6,r1,r2,r3,r4,r5,r6,qab];refine ih _ _ ⟨_,N'+1+1+1,.row (N'+1+1) 4 0 (i+1),rfl,.inr ⟨N'+1+1,rfl,?_,by omega⟩,Kp.appL (Kp.drop (Kp.app hk (by omega)) (.inl hid)) (by simp;omega),?_,by omega,?_,?_,?_,?_⟩
    ·simp [qab,hd,htk]
    ·rw [Tail_append_iff];exact ⟨qc7 (by simp [Tail_append_iff,Tail_cons_iff,qbu];exact hT'.mono (by omega)),by simp [Tail_cons_iff,qbu]⟩
    all_goals simp [h3,h6,h7]
   | _=>
    simp [c_37_l0,Xf.e4,h3,h6,h7,h8,hi,hc,hT0,hT1,hT2,hw1,hlk,hb,hm,hd,r1,r2,r3,r4,r5,r6,qab];refine ih _ _ ⟨_,N'+1+1+1,.row (N'+1+1) 4 0 (i+1),rfl,.inr ⟨N'+1+1,rfl,?_,by omega⟩,Kp.appL (Kp.drop (Kp.app hk (by omega)) (.inl hid)) (by simp;omega),?_,by omega,?_,?_,?_,?_⟩
    ·simp [qab,hd,htk]
    ·rw [Tail_append_iff];exact ⟨qc7 (by simp [Tail_append_iff,Tail_cons_iff,qbu];exact hT'.mono (by omega)),by simp [Tail_cons_iff,qbu]⟩
    all_goals simp [h3,h6,h7]
 ·rintro e' _ L hL ⟨O',N',w,rfl,hw,hk,hT',hN,h3,h6,h7,h8⟩;simp [c_37_l0,c_37_k1,h3,h7,h8,hL];refine ⟨_,_,_,rfl,?_,?_,hk,hT',hN⟩
  ·rcases hw with ⟨hz,rfl⟩ | ⟨id,rfl,hlk,hid⟩
   ·exact .inl ⟨by rw [Qg hz];rfl,rfl⟩
   ·rw [Qo (by simp)] at hlk;exact .inr ⟨id,by simp,hlk⟩
  ·rcases hw with ⟨hz,rfl⟩ | ⟨id,rfl,hlk,hid⟩
   ·intro j hj;cases hj
   ·intro j hj;cases hj;exact hid
 ·exact ⟨O,N,_,by simp,.inl ⟨rfl,rfl⟩,fun _ _ _=>rfl,hT,Qb _,by simp,by simp,by simp,by simp⟩
theorem qj1 {O:List (Nat×AO)} {n p:Nat} {o:AO} (h:Tail O n) (hp:p<n):Tail (O++[(p,o)]) n:=by
 rw [Tail_append_iff,Tail_cons_iff];exact ⟨h,hp,Tail.nil _⟩
theorem qx5 {p:Prg} {t:Int} {tb:Tbl} (h:(tblE p t).2=0) (ht:at? p.Xn t=some tb):tb.size<=256:=by
 unfold tblE at h;rw [ht] at h;simp only at h;split at h
 ·cases h
 split at h
 ·cases h
 split at h
 ·cases h
 ·omega
theorem qyz {p:Prg} {t:Int} {x:Entry} (h:entE p t x=0):(tblE p t).2=0:=by
 unfold entE at h;refine Decidable.byContradiction fun hc=>?_
 rw [QAa hc] at h;exact hc h
theorem CfgV.small {p:Prg} {c:Xf} (v:CfgV p c):∀l∈c.rows,l.length<=256:=by
 intro l hl;obtain ⟨k,hk,rfl⟩:=Qn.1 hl;have hkt:k<p.Xn.length:=by rw [<- v.rl];exact hk
 have hv:=v.at hkt;by_cases h0:c.rows[k].length=0
 ·omega
 have he:=hv.ent _ (Qd (show 0<c.rows[k].length by omega));have hs:=qx5 (qyz he) (by rw [qim];exact Qa hkt);have:=hv.size;omega
theorem CfgV.u {p:Prg} {c:Xf} (v:CfgV p c) (s:CfgT c):CfgU c:=⟨s,fun l hl=>by have:=v.small l hl;omega⟩
theorem CfgV.incs {p:Prg} {c:Xf} (v:CfgV p c):∀l∈c.rows,l.Pairwise fun a b=>a.id<b.id:=by
 intro l hl;obtain ⟨k,hk,rfl⟩:=Qn.1 hl;have hkt:k<p.Xn.length:=by rw [<- v.rl];exact hk
 exact (v.at hkt).inc
def qyf (N:Nat) (O:List (Nat×AO)) (p:Prg) (c:Xf) (r:Option (Rt×AH)):Prop:=
 (cfgE p c≠0/\r=some (.val (.tup [.nilptr,.int .i64 (cfgE p c)]),⟨O,N⟩))\/
 (cfgE p c=0/\∃S O' N',r=some (.val (.tup [.ptr S.s 15 0 0,.int .i64 0]),⟨O',N'⟩)/\StoreM O' S p c/\(∀j,S.own j->N<=j)/\Kp (Rs O) N O O'/\Tail O' N'/\N<=N')
theorem qaa9 (p:Prg) (op:p.Ok qba) (hc:PC p) (c:Xf) (s:CfgT c) {O:List (Nat×AO)} {N:Nat} (hT:Tail O N):
  qyf N O p c (qai Φ f_152 [.agg (Prg.c p),.agg (Xf.c c)] ⟨O,N⟩):=by
 rw [qat (fn:=c_152) rfl rfl];have f:=qfy op;have hk:=qsz p f hc c s;simp only [Prg.e,Xf.ce] at hk;by_cases z:cfgE p c=0
 ·have v:=(qe9 p c).1 z;obtain ⟨S,O',N',e,h1,h2,h3,h4,h5⟩:=qta p op c (v.u s) v.incs hT (CfgR.imm (O:=O) c);rw [z] at hk;simp only [Prg.e] at e;simp [c_152,Prg.e,Xf.ce,hk,e];exact .inr ⟨z,S,O',N',rfl,h1,h2,h3,h4,h5⟩
 ·simp [c_152,Prg.e,Xf.ce,hk,z];exact .inl ⟨z,rfl⟩
theorem qvp {p:Prg} {c:Xf} (u:CfgU c) {S:SV} {O:List (Nat×AO)} {N:Nat} (hT:Tail O N) (m:StoreM O S p c):qvn N O c (qai Φ f_154 [.ptr S.s 15 0 0] ⟨O,N⟩):=by
 rw [qat (fn:=c_154) rfl rfl];have t0:=hT N (Qb _);have hs:=m.s;simp only [SV.cells,Prg.e,QAp,QBg] at hs;have fs:=qdp hT hs (Qb N);have hk1:Kp (fun _=>False) N O (O++[(N,AO.row 4 [[.Xu 1 [],.Xu 1 [],.Xu 2 [],.Xu 1 []]])]):=Kp.app (fun _ _ _=>rfl) (Qb _);have hT1:=hT.app1 (o:=AO.row 4 [[.Xu 1 [],.Xu 1 [],.Xu 2 [],.Xu 1 []]]) (Qb N);obtain ⟨w1,w2,w3,w4,V,O',N',e,h1,h2,h3,h4,h5⟩:=qip c u hT1 (m.cm.re.kp hT hk1 (by simp));have ln:look N O'=some (.row 4 [[.Xu 1 [],.Xu 1 [],.Xu 2 [],.Xu 1 []]]):=h3.lk hT1 (by rw [qab,t0];simp) (by simp);simp [c_154,t0,qab,hs,e,ln,qaa];refine ⟨w1,w2,w3,w4,V,_,N',rfl,?_,fun j hj=>by have:=h2 j hj;omega,?_,qaj h4,by omega⟩
 ·refine h1.fr fun j hj=>?_
  have:=h2 j hj;rw [qaa,QA (by omega)]
 ·intro j hj hx;rw [qaa,QA (by omega),h3 j (by omega) hx,qab,show look j [(N,AO.row 4 [[.Xu 1 [],.Xu 1 [],.Xu 2 [],.Xu 1 []]])]=none by simp [look];omega];simp
section
variable {O:List (Nat×AO)} {N:Nat} {S:SV} {p:Prg} {c:Xf}
theorem StoreM.se (m:StoreM O S p c):look S.s O=some (.row 15 [[S.v1,S.v2,S.v3,S.v4,.str p.name,.slice 2 (p.Xp.map Xj.c),.slice 2 (p.Xo.map Fld.c),.slice 3 (p.Xm.map Xh.c),.slice 3 (p.actions.map Action.c),.slice 6 (p.Xn.map Tbl.c),.slice 7 (p.states.map Xd.c),.slice 5 (p.control.map Xa.c),.slice 1 (p.Xs.map cI),S.vi,.bool true]]):=by
 have hs:=m.s;simp only [SV.cells,Prg.e,QAp,QBg] at hs;exact hs
theorem StoreM.l1 (m:StoreM O S p c):lenOf S.v1=some c.rows.length:=by
 have:=m.cm.r.len;rw [QAb,m.cm.rl] at this;exact this
theorem qmk (m:StoreM O S p c) (hl:c.rows.length=p.Xn.length) (t:Int):qai Φ f_349 [.ptr S.s 15 0 0,.int .i64 t] ⟨O,N⟩=some (.val (.bool (inT p t)),⟨O,N⟩):=by
 rw [qat (fn:=c_349) rfl rfl];have hs:=m.se;have l1:=m.l1;by_cases z:0<=t
 ·simp [c_349,hs,l1,z,inT,hl,-lenOf]
 ·simp [c_349,z,inT,-lenOf]
def rowI (p:Prg) (c:Xf) (t id:Int):Int:=if inT p t then ((rIdx (qce c t) id).map fun (j:Nat)=>(j:Int)).getD 0 else 0
def rowX (p:Prg) (c:Xf) (t id:Int):Int:=if inT p t=false then 8 else if rIdx (qce c t) id=none then 8 else 0
theorem StoreM.idx (m:StoreM O S p c) {k:Nat} (hk:k<c.rows.length):∃id es0,S.vi= .row id 1 0 c.rows.length/\look id O=some (.row 1 es0)/\c.rows.length<=es0.length/\∃hM:k<S.M.length,es0[k]? =some [.map (S.M[k])]/\look (S.M[k]) O=some (.map (ents c.rows[k])):=by
 have hl:=m.x.len;obtain ⟨id,es0,e,hl1,hle,ht⟩:=m.x.i.nonempty (by simp;omega);rw [QAb,hl] at e hle;have hM:k<S.M.length:=by omega
 refine ⟨id,es0,e,hl1,hle,hM,qej hM ht,m.x.m k _ _ (Qa hM) (Qa hk)⟩
theorem StoreM.tab (m:StoreM O S p c) {k:Nat} (hk:k<c.rows.length):∃id es0,S.v1= .row id 1 0 c.rows.length/\look id O=some (.row 1 es0)/\c.rows.length<=es0.length/\(∃hV:k<S.V.length,es0[k]? =some [S.V[k]]/\Mu O 5 S.V[k] (c.rows[k].map Rw.c))/\es0.take c.rows.length=S.V.map fun x=>[x]:=by
 have hl:=m.cm.rl;obtain ⟨id,es0,e,hl1,hle,ht⟩:=m.cm.r.nonempty (by simp;omega);have ht':=ht;rw [QAb,hl] at e hle ht';have hV:k<S.V.length:=by omega
 refine ⟨id,es0,e,hl1,hle,⟨hV,qej hV ht,m.cm.rv k _ _ (Qa hV) (Qa hk)⟩,ht'⟩
theorem qrg (m:StoreM O S p c) (hl:c.rows.length=p.Xn.length) (t id:Int):qai Φ f_289 [.ptr S.s 15 0 0,.int .i64 t,.int .i64 id] ⟨O,N⟩=some (.val (.tup [.int .i64 (rowI p c t id),.int .i64 (rowX p c t id)]),⟨O,N⟩):=by
 rw [qat (fn:=c_289) rfl rfl];have hs:=m.se;have ht:=qmk (N:=N) m hl t;cases z:inT p t with
 | false=>
  rw [z] at ht;simp [c_289,hs,ht,rowI,rowX,z]
 | true=>
  rw [z] at ht;obtain ⟨k,rfl,hk⟩:=qek z;have hk':k<c.rows.length:=by omega
  obtain ⟨iid,es0,e,hi,hle,hM,g1,g2⟩:=m.idx hk';rw [e] at hs;have hf:=qwk id c.rows[k];have hke:k<es0.length:=by omega
  have hrow:qce c (k:Int)=c.rows[k]:=qdj hk';cases hx:rIdx c.rows[k] id with
  | none=>
   rw [hx] at hf;simp [c_289,hs,ht,hi,hk',g1,g2,hf,rowI,rowX,z,hrow,hx]
  | some i=>
   rw [hx] at hf;simp [c_289,hs,ht,hi,hk',g1,g2,hf,rowI,rowX,z,hrow,hx]
end
def MDpost (N:Nat) (O:List (Nat×AO)) (S:SV) (p:Prg) (c':Xf) (v:AV) (r:Option (Rt×AH)):Prop:=
 ∃S' O' N',r=some (.val v,⟨O',N'⟩)/\StoreM O' S' p c'/\S'.s=S.s/\(∀j,S'.own j->S.own j\/N<=j)/\Kp (fun j=>S.own j\/Rs O j) N O O'/\Tail O' N'/\N<=N'
theorem Mu.upd {O':List (Nat×AO)} {id z k:Nat} {es es0:List (List AV)} {y:List AV} (hl:look id O'=some (.row z (es0.set k y))) (hle:es.length<=es0.length) (ht:es0.take es.length=es):Mu O' z (.row id z 0 es.length) (es.set k y):=
 .row id _ _ _ (by simp) hl (by simpa using hle) (by rw [List.length_set,List.take_set,ht])
theorem qph {O:List (Nat×AO)} {N:Nat} {S:SV} {p:Prg} {c:Xf} (m:StoreM O S p c) (f:PrgS p) (hl:c.rows.length=p.Xn.length) (hd:c.Xq.length=p.Xn.length) (hT:Tail O N) (t:Int) (x:Xb) (hx:x.args.length<2^40):
  MDpost N O S p (if defE p t x=0 then defC c t x else c) (.int .i64 (defE p t x)) (qai Φ f_293 [.ptr S.s 15 0 0,.int .i64 t,.agg (Xb.c x)] ⟨O,N⟩):=by
 rw [qat (fn:=c_293) rfl rfl];have t0:=hT N (Qb _);have hk1:Kp (fun j=>S.own j\/Rs O j) N O (O++[(N,AO.row 2 [Xb.c x])]):=Kp.app (fun _ _ _=>rfl) (Qb _);have hT1:=hT.app1 (o:=AO.row 2 [Xb.c x]) (Qb N);have m1:StoreM (O++[(N,AO.row 2 [Xb.c x])]) S p c:=m.kp (X:=fun _=>False) hT (Kp.app (fun _ _ _=>rfl) (Qb _)) (by simp);have b1:look N (O++[(N,AO.row 2 [Xb.c x])])=some (.row 2 [Xb.c x]):=by rw [qab,t0];simp
 have same:MDpost N O S p c (.int .i64 (defE p t x)) (some (.val (.int .i64 (defE p t x)),⟨O++[(N,AO.row 2 [Xb.c x])],N+1⟩)):=
  ⟨S,_,_,rfl,m1,rfl,fun j hj=> .inl hj,hk1,hT1,by omega⟩
 have hs:=m1.se;have ht:=qmk (N:=N+1) m1 hl t;have hc:=qme p f t x hx;have hcl:=qi1 x hx;simp only [Prg.e] at hc;simp only [Xb.ce] at b1 hs ht hc hcl same;cases z:inT p t with
 | false=>
  have hE:defE p t x=8:=by simp [defE,z]
  rw [z] at ht;rw [hE] at same ⊢;simp [c_293,Xb.ce,t0,hs,ht];exact same
 | true=>
  have hE:defE p t x=qbb p t x:=by simp [defE,z]
  rw [z] at ht;rw [hE] at same ⊢;by_cases q:qbb p t x=0
  ·obtain ⟨k,rfl,hk⟩:=qek z;have hk':k<c.Xq.length:=by omega
   obtain ⟨did,es0,e,hi,hle,htk⟩:=m1.cm.d.nonempty (by simp;omega);rw [QAb] at e hle;rw [e] at hs;have hke:k<es0.length:=by omega
   have g1:=qej hk' htk;rw [q] at hc ⊢;simp only [Xb.ce] at hi;simp [c_293,Xb.ce,t0,hs,ht,hc,hcl,b1,hk',hi,g1];have hown:S.own did:= .inr (.inl (.inr (.inr (.inl (by rw [e];rfl)))));refine ⟨S,_,_,rfl,?_,rfl,fun j hj=> .inl hj,Kp.setl (by simpa only [Xb.ce] using hk1) (.inr (.inl hown)),qaj (by simpa only [Xb.ce] using hT1),by omega⟩;simp only [<- Xb.ce] at hi ⊢;have keep:∀j o,look j (O++[(N,AO.row 2 [Xb.c x])])=some o->(∀es,o≠ .row 2 es)->look j (setl did (.row 2 (es0.set k (Xb.c x))) (O++[(N,AO.row 2 [Xb.c x])]))=look j (O++[(N,AO.row 2 [Xb.c x])]):=by
    intro j o ho hne;have hji:=qan ho hi (hne _);rw [qaa,QA hji]
   have kmu:∀z v es,z≠2->Mu (O++[(N,AO.row 2 [Xb.c x])]) z v es->Mu (setl did (.row 2 (es0.set k (Xb.c x))) (O++[(N,AO.row 2 [Xb.c x])])) z v es:=by
    intro z v es hz hm;refine hm.fr fun j hj=>?_
    obtain ⟨es1,h1⟩:=hm.own hj;exact keep j _ h1 (by intro es2 h2;cases h2;exact hz rfl)
   refine ⟨?_,⟨kmu _ _ _ (by decide) m1.cm.r,m1.cm.rl,fun a v l hv hl=>kmu _ _ _ (by decide) (m1.cm.rv a v l hv hl),kmu _ _ _ (by decide) m1.cm.n,?_,m1.cm.g,m1.cm.rn,m1.cm.vi,m1.cm.va⟩,⟨kmu _ _ _ (by decide) m1.x.i,m1.x.len,?_,m1.x.nd⟩,m1.ri,m1.ni⟩
   ·rw [keep S.s _ m1.s (by simp)];exact m1.s
   ·have hmu:Mu (setl did (.row 2 (es0.set k (Xb.c x))) (O++[(N,AO.row 2 [Xb.c x])])) 2 (.row did 2 0 (c.Xq.map Xb.c).length) ((c.Xq.map Xb.c).set k (Xb.c x)):=
     Mu.upd (by rw [qaa,QAa rfl,hi];rfl) (by simpa using hle) htk
    rw [e];rw [<- QBx,QAb] at hmu;exact hmu
   ·intro a b l ha hl2;have h0:=m1.x.m a b l ha hl2;rw [keep b _ h0 (by simp)];exact h0
  ·simp [c_293,Xb.ce,t0,hs,ht,hc,b1,q];exact same
theorem qot:∀(l l':List Rw) (n:Nat),l.length=l'.length->(∀(j:Nat) (h1:j<l.length) (h2:j<l'.length),l[j].id=l'[j].id)->qdr l n=qdr l' n
 | [],[],n,_,_=>rfl
 | [],_::_,n,h,_=>by simp at h
 | _::_,[],n,h,_=>by simp at h
 | a::l,b::l',n,h,hi=>by
  have h0:=hi 0 (by simp) (by simp);simp at h0;simp only [qdr,h0];rw [qot l l' (n+1) (by simpa using h) fun j h1 h2=>by
   have:=hi (j+1) (by simp;omega) (by simp;omega);simpa using this]
theorem qy0 {l l':List Rw} (h:l.length=l'.length) (hi:∀(j:Nat) (h1:j<l.length) (h2:j<l'.length),l[j].id=l'[j].id):ents l=ents l':=qot l l' 0 h hi
def SV.chg (S:SV) (k j:Nat):Prop:=(∃v,S.V[k]? =some v/\vid v=some j)\/vid S.v1=some j\/vid S.v2=some j\/vid S.vi=some j\/S.M[k]? =some j
def SV.tab (S:SV) (k:Nat) (v:AV) (m:Nat):SV:=⟨S.s,S.v1,S.v2,S.v3,S.v4,S.vi,S.V.set k v,S.M.set k m⟩
section
variable {O O':List (Nat×AO)} {S:SV} {p:Prg} {c:Xf} {k:Nat}
theorem StoreM.vrow (m:StoreM O S p c) {j:Nat} {v:AV} {i:Nat} (hv:S.V[j]? =some v) (hi:vid v=some i):∃es,look i O=some (.row 5 es):=by
 have hj:=(Qm.1 hv).1;exact (m.cm.rv j v _ hv (Qa (by rw [<- m.cm.rl];exact hj))).own hi
theorem StoreM.mmap (m:StoreM O S p c) {j i:Nat} (hv:S.M[j]? =some i):∃es,look i O=some (.map es):=by
 have hj:=(Qm.1 hv).1;exact ⟨_,m.x.m j i _ hv (Qa (by rw [<- m.x.len];exact hj))⟩
theorem StoreM.upd (m:StoreM O S p c) (hk:k<c.rows.length) {v':AV} {m':Nat} {l':List Rw} {nx:Int}
  (keep:∀j,S.own j->¬S.chg k j->look j O'=look j O)
  (h1:Mu O' 1 S.v1 ((S.V.set k v').map fun x=>[x])) (h2:Mu O' 1 S.v2 ((c.Xr.set k nx).map cI)) (h3:Mu O' 1 S.vi ((S.M.set k m').map fun x=>[.map x])) (h4:Mu O' 5 v' (l'.map Rw.c)) (h5:look m' O'=some (.map (ents l')))
  (h6:∀z es t,v'≠ .app z es t) (d1:∀i,vid v'=some i->(∃v,S.V[k]? =some v/\vid v=some i)\/∀x,look i O=some x->x= .res) (d2:S.M[k]? =some m'\/∀x,look m' O=some x->x= .res):
  StoreM O' (S.tab k v' m') p ⟨c.rows.set k l',c.Xr.set k nx,c.Xq,c.Xm⟩:=by
 have hVl:=m.cm.rl;have hMl:=m.x.len;have ks:look S.s O'=look S.s O:=by
  refine keep S.s (.inl rfl) ?_;rintro (⟨v,hv,hi⟩ | hi | hi | hi | hi)
  ·obtain ⟨es,hl⟩:=m.vrow hv hi;exact qan m.s hl (by simp) rfl
  ·obtain ⟨es,hl⟩:=m.cm.r.own hi;exact qan m.s hl (by simp) rfl
  ·obtain ⟨es,hl⟩:=m.cm.n.own hi;exact qan m.s hl (by simp) rfl
  ·obtain ⟨es,hl⟩:=m.x.i.own hi;exact qan m.s hl (by simp) rfl
  ·obtain ⟨es,hl⟩:=m.mmap hi;exact qan m.s hl (by simp) rfl
 have kv:∀(j:Nat) (v:AV) (i:Nat),j≠k->S.V[j]? =some v->vid v=some i->look i O'=look i O:=by
  intro j v i hj hv hi;obtain ⟨es0,hl0⟩:=m.vrow hv hi;refine keep i (.inr (.inl (.inr (.inr (.inr ⟨v,Qe hv,hi⟩))))) ?_;rintro (⟨w,hw,hi'⟩ | hi' | hi' | hi' | hi')
  ·exact hj (m.cm.vi j k v w i hv hw hi hi')
  ·obtain ⟨es,hl⟩:=m.cm.r.own hi';exact qan hl0 hl (by simp) rfl
  ·obtain ⟨es,hl⟩:=m.cm.n.own hi';exact qan hl0 hl (by simp) rfl
  ·obtain ⟨es,hl⟩:=m.x.i.own hi';exact qan hl0 hl (by simp) rfl
  ·obtain ⟨es,hl⟩:=m.mmap hi';exact qan hl0 hl (by simp) rfl
 have km:∀(j i:Nat),j≠k->S.M[j]? =some i->look i O'=look i O:=by
  intro j i hj hv;obtain ⟨es0,hl0⟩:=m.mmap hv;refine keep i (.inr (.inr (.inr (Qe hv)))) ?_;rintro (⟨w,hw,hi'⟩ | hi' | hi' | hi' | hi')
  ·obtain ⟨es,hl⟩:=m.vrow hw hi';exact qan hl0 hl (by simp) rfl
  ·obtain ⟨es,hl⟩:=m.cm.r.own hi';exact qan hl0 hl (by simp) rfl
  ·obtain ⟨es,hl⟩:=m.cm.n.own hi';exact qan hl0 hl (by simp) rfl
  ·obtain ⟨es,hl⟩:=m.x.i.own hi';exact qan hl0 hl (by simp) rfl
  ·exact hj (m.x.nd j k i hv hi')
 have kd:Mu O' 2 S.v3 (c.Xq.map Xb.c):=by
  refine m.cm.d.fr fun i hi=>?_
  obtain ⟨es0,hl0⟩:=m.cm.d.own hi;refine keep i (.inr (.inl (.inr (.inr (.inl hi))))) ?_;rintro (⟨w,hw,hi'⟩ | hi' | hi' | hi' | hi')
  ·obtain ⟨es,hl⟩:=m.vrow hw hi';exact qan hl0 hl (by simp) rfl
  ·obtain ⟨es,hl⟩:=m.cm.r.own hi';exact qan hl0 hl (by simp) rfl
  ·obtain ⟨es,hl⟩:=m.cm.n.own hi';exact qan hl0 hl (by simp) rfl
  ·obtain ⟨es,hl⟩:=m.x.i.own hi';exact qan hl0 hl (by simp) rfl
  ·obtain ⟨es,hl⟩:=m.mmap hi';exact qan hl0 hl (by simp) rfl
 have other:∀(j:Nat) (v:AV) (i:Nat),j≠k->S.V[j]? =some v->vid v=some i->vid v'=some i->False:=by
  intro j v i hj hv hi hi';rcases d1 i hi' with ⟨w,hw,hw'⟩ | hf
  ·exact hj (m.cm.vi j k v w i hv hw hi hw')
  ·obtain ⟨es,hl⟩:=m.vrow hv hi;have:=hf _ hl;cases this
 refine ⟨?_,⟨h1,by simp [SV.tab,hVl],?_,h2,kd,m.cm.g,m.cm.rn,?_,?_⟩,⟨h3,by simp [SV.tab,hMl],?_,?_⟩,m.ri,m.ni⟩
 ·show look S.s O'=_;rw [ks];exact m.s
 ·intro j v l hv hl;simp only [SV.tab] at hv;by_cases hj:k=j
  ·subst hj;rw [List.getElem?_set_self (by omega)] at hv hl;cases hv;cases hl;exact h4
  ·rw [List.getElem?_set_ne hj] at hv hl;have h0:=m.cm.rv j v l hv hl;exact h0.fr fun i hi=>kv j v i (fun e=>hj e.symm) hv hi
 ·intro a b v w i ha hb hi hi';simp only [SV.tab] at ha hb;by_cases hka:k=a
  ·by_cases hkb:k=b
   ·omega
   ·subst hka;rw [List.getElem?_set_self (by omega)] at ha;rw [List.getElem?_set_ne hkb] at hb;cases ha;exact (other b w i (fun e=>hkb e.symm) hb hi' hi).elim
  ·by_cases hkb:k=b
   ·subst hkb;rw [List.getElem?_set_self (by omega)] at hb;rw [List.getElem?_set_ne hka] at ha;cases hb;exact (other a v i (fun e=>hka e.symm) ha hi hi').elim
   ·rw [List.getElem?_set_ne hka] at ha;rw [List.getElem?_set_ne hkb] at hb;exact m.cm.vi a b v w i ha hb hi hi'
 ·intro v hv;simp only [SV.tab] at hv;rcases Qq hv with hv | rfl
  ·exact m.cm.va v hv
  ·exact h6
 ·intro j i l hi hl;simp only [SV.tab] at hi;by_cases hj:k=j
  ·subst hj;rw [List.getElem?_set_self (by omega)] at hi hl;cases hi;cases hl;exact h5
  ·rw [List.getElem?_set_ne hj] at hi hl;rw [km j i (fun e=>hj e.symm) hi];exact m.x.m j i l hi hl
 ·intro a b i ha hb;simp only [SV.tab] at ha hb;have oth:∀j,j≠k->S.M[j]? =some m'->False:=by
   intro j hj hv;rcases d2 with h0 | hf
   ·exact hj (m.x.nd j k m' hv h0)
   ·obtain ⟨es,hl⟩:=m.mmap hv;have:=hf _ hl;cases this
  by_cases hka:k=a
  ·by_cases hkb:k=b
   ·omega
   ·subst hka;rw [List.getElem?_set_self (by omega)] at ha;rw [List.getElem?_set_ne hkb] at hb;cases ha;exact (oth b (fun e=>hkb e.symm) hb).elim
  ·by_cases hkb:k=b
   ·subst hkb;rw [List.getElem?_set_self (by omega)] at hb;rw [List.getElem?_set_ne hka] at ha;cases hb;exact (oth a (fun e=>hka e.symm) ha).elim
   ·rw [List.getElem?_set_ne hka] at ha;rw [List.getElem?_set_ne hkb] at hb;exact m.x.nd a b i ha hb
end
theorem qaab {p:Prg} {c:Xf} {t id:Int} {x:Xb}:modE p c t id x=if rowX p c t id=0 then qbb p t x else rowX p c t id:=by
 unfold modE rowX;split
 ·simp
 split
 ·simp
 ·simp
theorem qvu {O:List (Nat×AO)} {N:Nat} {S:SV} {p:Prg} {c:Xf} (m:StoreM O S p c) (f:PrgS p) (hl:c.rows.length=p.Xn.length) (hT:Tail O N) (t id:Int) (x:Xb) (hx:x.args.length<2^40):
  MDpost N O S p (if modE p c t id x=0 then modC c t id x else c) (.int .i64 (modE p c t id x)) (qai Φ f_223 [.ptr S.s 15 0 0,.int .i64 t,.int .i64 id,.agg (Xb.c x)] ⟨O,N⟩):=by
 rw [qat (fn:=c_223) rfl rfl];have t0:=hT N (Qb _);have hk1:Kp (fun j=>S.own j\/Rs O j) N O (O++[(N,AO.row 2 [Xb.c x])]):=Kp.app (fun _ _ _=>rfl) (Qb _);have hT1:=hT.app1 (o:=AO.row 2 [Xb.c x]) (Qb N);have m1:StoreM (O++[(N,AO.row 2 [Xb.c x])]) S p c:=m.kp (X:=fun _=>False) hT (Kp.app (fun _ _ _=>rfl) (Qb _)) (by simp);have b1:look N (O++[(N,AO.row 2 [Xb.c x])])=some (.row 2 [Xb.c x]):=by rw [qab,t0];simp
 have same:MDpost N O S p c (.int .i64 (modE p c t id x)) (some (.val (.int .i64 (modE p c t id x)),⟨O++[(N,AO.row 2 [Xb.c x])],N+1⟩)):=
  ⟨S,_,_,rfl,m1,rfl,fun j hj=> .inl hj,hk1,hT1,by omega⟩
 have hs:=m1.se;have hr:=qrg (N:=N+1) m1 hl t id;have hc:=qme p f t x hx;have hcl:=qi1 x hx;have hE:=qaab (p:=p) (c:=c) (t:=t) (id:=id) (x:=x);simp only [Prg.e] at hc;simp only [Xb.ce] at b1 hs hr hc hcl same;by_cases z:rowX p c t id=0
 rotate_left
 ·rw [QA z] at hE;rw [hE] at same ⊢;simp [c_223,Xb.ce,t0,hr,z];exact same
 rw [QAa z] at hE;by_cases q:qbb p t x=0
 rotate_left
 ·rw [hE] at same ⊢;simp [c_223,Xb.ce,t0,hr,hs,z,b1,hc,q];exact same
 have hE0:modE p c t id x=0:=by rw [hE,q]
 rw [hE0] at same ⊢;cases hi:inT p t with
 | false=>simp [rowX,hi] at z
 | true=>
 obtain ⟨k,rfl,hk⟩:=qek hi;have hk':k<c.rows.length:=by omega
 have hrow:qce c (k:Int)=c.rows[k]:=qdj hk';cases hx2:rIdx c.rows[k] id with
 | none=>simp [rowX,hi,hrow,hx2] at z
 | some i=>
 obtain ⟨hil,hid⟩:=qko hx2;have hI:rowI p c k id=i:=by simp [rowI,hi,hrow,hx2]
 have hM:modC c (k:Int) id x=⟨c.rows.set k (c.rows[k].modify i (qcr x)),c.Xr,c.Xq,c.Xm⟩:=by
  unfold modC;rw [hrow,hx2];simp
 rw [z,hI] at hr;obtain ⟨rid,es1,e1,lr,hle1,⟨hV,g1,g5⟩,ht1⟩:=m1.tab hk';obtain ⟨r5,es5,e5,l5,hle5,ht5⟩:=g5.nonempty (by simp;omega);rw [QAb] at e5 hle5;rw [e1] at hs;rw [e5] at g1;have g2:=qej hil ht5;have hi5:i<es5.length:=by omega
 have hlr:=lr;have hl5:=l5;simp only [Xb.ce] at hlr hl5;rw [q] at hc;rw [QAa rfl,hM];simp [c_223,Xb.ce,t0,hr,hs,b1,hc,hcl,hlr,hk',g1,hl5,hil,g2,Rw.ce];simp only [<- Xb.ce] at hl5 ⊢;have ho:S.own r5:= .inr (.inl (.inr (.inr (.inr ⟨S.V[k],Qd hV,by rw [e5];rfl⟩))));have hch:∀j,¬S.chg k j->j≠r5:=fun j hj e=>hj (.inl ⟨S.V[k],Qa hV,by rw [e5,e];rfl⟩)
 have hMl:=m1.x.len;have hMk:k<S.M.length:=by omega
 have hnx:k<c.Xr.length\/c.Xr.length<=k:=by omega
 have keep:∀j,j≠r5->look j (setl r5 (.row 5 (es5.set i [.int .i64 c.rows[k][i].id,.slice 2 (c.rows[k][i].entry.keys.map Xi.c),.int .i64 c.rows[k][i].entry.Xt,.int .i64 x.action,.slice 1 (x.args.map c32)])) (O++[(N,AO.row 2 [Xb.c x])]))=look j (O++[(N,AO.row 2 [Xb.c x])]):=fun j hj=>by rw [qaa,QA hj]
 have kmu:∀z v es,z≠5->Mu (O++[(N,AO.row 2 [Xb.c x])]) z v es->Mu (setl r5 (.row 5 (es5.set i [.int .i64 c.rows[k][i].id,.slice 2 (c.rows[k][i].entry.keys.map Xi.c),.int .i64 c.rows[k][i].entry.Xt,.int .i64 x.action,.slice 1 (x.args.map c32)])) (O++[(N,AO.row 2 [Xb.c x])])) z v es:=by
  intro z v es hz hm;refine hm.fr fun j hj=>?_
  obtain ⟨es1,h1⟩:=hm.own hj;exact keep j (qan h1 l5 (by simp [hz]))
 have up:=m1.upd (k:=k) (v':=S.V[k]) (m':=S.M[k]) (l':=c.rows[k].modify i (qcr x)) (nx:=(c.Xr[k]?).getD 0) (O':=setl r5 (.row 5 (es5.set i [.int .i64 c.rows[k][i].id,.slice 2 (c.rows[k][i].entry.keys.map Xi.c),.int .i64 c.rows[k][i].entry.Xt,.int .i64 x.action,.slice 1 (x.args.map c32)])) (O++[(N,AO.row 2 [Xb.c x])])) hk'
  (fun j _ hj=>keep j (hch j hj)) (by simpa using kmu _ _ _ (by decide) m1.cm.r)
  (by
   have hset:c.Xr.set k ((c.Xr[k]?).getD 0)=c.Xr:=by
    rcases hnx with h | h
    ·rw [Qa h];simp
    ·rw [QCt h]
   rw [hset];exact kmu _ _ _ (by decide) m1.cm.n)
  (by simpa using kmu _ _ _ (by decide) m1.x.i)
  (by
   have hmu:=Mu.upd (O':=setl r5 (.row 5 (es5.set i [.int .i64 c.rows[k][i].id,.slice 2 (c.rows[k][i].entry.keys.map Xi.c),.int .i64 c.rows[k][i].entry.Xt,.int .i64 x.action,.slice 1 (x.args.map c32)])) (O++[(N,AO.row 2 [Xb.c x])])) (id:=r5) (z:=5) (k:=i) (es:=c.rows[k].map Rw.c) (es0:=es5)
    (y:=[.int .i64 c.rows[k][i].id,.slice 2 (c.rows[k][i].entry.keys.map Xi.c),.int .i64 c.rows[k][i].entry.Xt,.int .i64 x.action,.slice 1 (x.args.map c32)]) (by rw [qaa,QAa rfl,l5];rfl) (by simpa using hle5) ht5
   have hlist:(c.rows[k].map Rw.c).set i [.int .i64 c.rows[k][i].id,.slice 2 (c.rows[k][i].entry.keys.map Xi.c),.int .i64 c.rows[k][i].entry.Xt,.int .i64 x.action,.slice 1 (x.args.map c32)]=(c.rows[k].modify i (qcr x)).map Rw.c:=by
    refine List.ext_getElem (by simp) fun j h1 h2=>?_
    rw [List.getElem_set,List.getElem_map,List.getElem_map,QBy];split
    ·rename_i e;subst e;simp [Rw.ce,qcr]
    ·simp
   rw [hlist,QAb] at hmu;rw [e5];exact hmu)
  (by
   have h0:=m1.x.m k _ _ (Qa hMk) (Qa hk');have hents:ents (c.rows[k].modify i (qcr x))=ents c.rows[k]:=qy0 (by simp) fun j h1 h2=>by
    rw [QBy];split<;>rfl
   rw [keep _ (qan h0 l5 (by simp)),h0,hents])
  (m1.cm.va _ (Qd hV)) (fun i hi=> .inl ⟨_,Qa hV,hi⟩) (.inl (Qa hMk))
 have htab:S.tab k S.V[k] S.M[k]=S:=by
  cases S;simp [SV.tab]
 rw [htab] at up;have hset:c.Xr.set k ((c.Xr[k]?).getD 0)=c.Xr:=by
  rcases hnx with h | h
  ·rw [Qa h];simp
  ·rw [QCt h]
 rw [hset] at up;exact ⟨S,_,_,rfl,up,rfl,fun j hj=> .inl hj,Kp.setl hk1 (.inr (.inl ho)),qaj hT1,by omega⟩
theorem qafx (r:Rw) (x:Entry) (hb:r.entry.keys.length<2^40):qac Φ f_350 [.agg (Rw.c r),.iptr 4 [Entry.c x] 0 0]=some (.val (.bool (sk r.entry x))):=by
 rw [qad (fn:=c_350) rfl rfl];have h:=qwd r.entry x hb;simp [c_350,Rw.ce,Entry.ce,h]
theorem qza (l:List Rw) (x:Entry) (hl:l.length<2^40) (hs:∀r∈l,r.entry.keys.length<2^40):qac Φ f_188 [.slice 5 (l.map Rw.c),.func (.func f_350) [] [.iptr 4 [Entry.c x] 0 0]]=some (.val (.int .i64 (ix (fun r=>sk r.entry x) l 0))):=by
 rw [qad (fn:=c_188) rfl rfl];simp [c_188];refine (qby l.length (fun i e=>look 0 e=some (.slice 5 (l.map Rw.c))/\look 1 e=some (.func (.func f_350) [] [.iptr 4 [Entry.c x] 0 0])/\look 7 e=some (.int .i64 l.length)/\look 8 e=some (.int .i64 i))
  (fun i=>some (.val (.int .i64 (ix (fun r=>sk r.entry x) l i)))) ?_ ?_ 0 _ (Qc _) ?_).trans (by simp)
 ·rintro i e L hi hL ⟨h0,h1,h7,h8⟩ ih;have hw:=qao i (by omega);have hd:=qafx l[i] x (hs _ (Qd hi));simp only [Rw.ce,Entry.ce] at hd h1;cases z:sk l[i].entry x with
  | true=>
   rw [qnb hi (by simpa using z)];rw [z] at hd;simp [c_188_l0,Rw.ce,h0,h1,h7,h8,hi,hd]
  | false=>
   rw [qle hi (by simpa using z)];rw [z] at hd;simp [c_188_l0,Rw.ce,h0,h1,h7,h8,hi,hd,hw];exact ih _ ⟨by simp [h0],by simp [h1,Entry.ce],by simp [h7],by simp⟩
 ·rintro e L hL ⟨h0,h1,h7,h8⟩;rw [qna];simp [c_188_l0,c_188_k1,h7,h8,hL]
 ·simp
theorem qyt (l:List Rw) (x:Entry) (hl:l.length<2^40) (hs:∀r∈l,r.entry.keys.length<2^40):qac Φ f_128 [.slice 5 (l.map Rw.c),.func (.func f_350) [] [.iptr 4 [Entry.c x] 0 0]]=some (.val (.bool (l.any fun r=>sk r.entry x))):=by
 rw [qad (fn:=c_128) rfl rfl];have h:=qza l x hl hs;simp only [Entry.ce] at h;rw [<- qm9];simp [c_128,Entry.ce,h]
theorem qvs {O:List (Nat×AO)} {N:Nat} {S:SV} {p:Prg} {c:Xf} (m:StoreM O S p c) (f:PrgS p) (v:CfgV p c) (s:CfgT c) (hT:Tail O N) (t:Int) (x:Entry) (hx:EntS x):
  MDpost N O S p (if insE p c t x=0 then insC c t x else c) (.tup [.int .i64 (if insE p c t x=0 then qef c t else 0),.int .i64 (insE p c t x)]) (qai Φ f_291 [.ptr S.s 15 0 0,.int .i64 t,.agg (Entry.c x)] ⟨O,N⟩):=by
 rw [qat (fn:=c_291) rfl rfl];have t0:=hT N (Qb _);have hl:=v.rl;have hk1:Kp (fun j=>S.own j\/Rs O j) N O (O++[(N,AO.row 4 [Entry.c x])]):=Kp.app (fun _ _ _=>rfl) (Qb _);have hT1:=hT.app1 (o:=AO.row 4 [Entry.c x]) (Qb N);have m1:StoreM (O++[(N,AO.row 4 [Entry.c x])]) S p c:=m.kp (X:=fun _=>False) hT (Kp.app (fun _ _ _=>rfl) (Qb _)) (by simp);have b1:look N (O++[(N,AO.row 4 [Entry.c x])])=some (.row 4 [Entry.c x]):=by rw [qab,t0];simp
 have same:insE p c t x≠0->MDpost N O S p (if insE p c t x=0 then insC c t x else c) (.tup [.int .i64 (if insE p c t x=0 then qef c t else 0),.int .i64 (insE p c t x)]) (some (.val (.tup [.int .i64 0,.int .i64 (insE p c t x)]),⟨O++[(N,AO.row 4 [Entry.c x])],N+1⟩)):=by
  intro h;rw [QA h,QA h];exact ⟨S,_,_,rfl,m1,rfl,fun j hj=> .inl hj,hk1,hT1,by omega⟩
 have hs:=m1.se;have ht:=qmk (N:=N+1) m1 hl t;have he:=qs1 p f t x hx;simp only [Prg.e] at he;simp only [Entry.ce] at b1 hs ht he same;cases z:inT p t with
 | false=>
  have hE:insE p c t x=8:=by simp [insE,z]
  rw [z] at ht;have same:=same (by rw [hE];decide);rw [hE] at same ⊢;simp [c_291,Entry.ce,t0,hs,ht];simpa using same
 | true=>
 obtain ⟨k,rfl,hk⟩:=qek z;have hk':k<c.rows.length:=by omega
 have hkn:k<c.Xr.length:=by rw [v.nl];exact hk
 have hrow:qce c (k:Int)=c.rows[k]:=qdj hk';have hnx:qef c (k:Int)=c.Xr[k]:=qjg hkn;have hsz:qnn p (k:Int)=p.Xn[k].size:=qno hk;have hE:insE p c k x=if entE p k x≠0 then entE p k x else if (c.rows[k].any fun y=>sk y.entry x)=true then 7 else if p.Xn[k].size<=c.rows[k].length\/1073741824<=c.Xr[k] then 13 else 0:=by
  unfold insE;rw [z,hrow,hnx,hsz];simp
 rw [z] at ht;by_cases y:entE p k x=0
 rotate_left
 ·rw [QAa y] at hE;have same:=same (by rw [hE];exact y);rw [hE] at same ⊢;simp [c_291,Entry.ce,t0,hs,ht,b1,he,y];simpa [y] using same
 rw [QA (by simpa using y)] at hE;rw [y] at he;obtain ⟨rid,es1,e1,lr,hle1,⟨hV,g1,g5⟩,ht1⟩:=m1.tab hk';have hsl:=s.rs _ (Qd hk');have hcon:=qyt c.rows[k] x hsl.1 fun r hr=>(hsl.2 r hr).kl
 have hsnp:=fun n=>g5.snp (N:=N+1) (n:=n)
 have hsn2:∀n,snap (n+2) ⟨O++[(N,AO.row 4 [Entry.c x])],N+1⟩ S.V[k]=some (.slice 5 (c.rows[k].map Rw.c)):=fun n=>by
  rw [hsnp (n+1),qen (n:=n+1) (fun x=>qx2 x)];rfl
 have hsn3:=hsn2 38;rw [e1] at hs;simp only [Entry.ce] at hcon hsn3 lr;cases w:c.rows[k].any fun y=>sk y.entry x with
 | true=>
  rw [QAa w] at hE;have same:=same (by rw [hE];decide);rw [w] at hcon;rw [hE] at same ⊢;simp [c_291,Entry.ce,t0,hs,ht,b1,he,lr,hk',g1,hsn3,hcon];simpa using same
 | false=>
 rw [QA (by rw [w];decide)] at hE;rw [w] at hcon;have hvl:=g5.len;rw [QAb] at hvl;obtain ⟨nid,esn,e2,ln,hle2,ht2⟩:=m1.cm.n.nonempty (by simp;omega);rw [QAb] at e2 hle2;have gn:=qej hkn ht2;rw [cIe] at gn;rw [e2] at hs;simp only [Entry.ce] at ln;have hkt:=hk;by_cases u:p.Xn[k].size<=c.rows[k].length
 ·rw [QAa (.inl u)] at hE;have same:=same (by rw [hE];decide);rw [hE] at same ⊢;simp [c_291,Entry.ce,Tbl.e,t0,hs,ht,b1,he,lr,hk',g1,hsn3,hcon,hvl,ln,hkn,gn,hkt,u,-lenOf];simpa using same
 by_cases q:1073741824<=c.Xr[k]
 ·rw [QAa (.inr q)] at hE;have same:=same (by rw [hE];decide);rw [hE] at same ⊢;simp [c_291,Entry.ce,Tbl.e,t0,hs,ht,b1,he,lr,hk',g1,hsn3,hcon,hvl,ln,hkn,gn,hkt,u,q,-lenOf];simpa using same
 rw [QA (by omega)] at hE;rw [hE];have hM:=m1.x.len;obtain ⟨iid,esi,e3,li,hle3,hMk,gi,lm⟩:=m1.idx hk';rw [e3] at hs;simp only [Entry.ce] at li lm;have hv:=v.at hk;have hput:=qmd c.Xr[k] (.int .i64 (c.rows[k].length:Nat)) c.rows[k] 0 fun r hr=>by have:=hv.lt r hr;omega
 rw [show qdr c.rows[k] 0=ents c.rows[k] from rfl] at hput;have hce:=qoo x hx.al hx.kl;simp only [Entry.ce] at hce;simp [c_291,Entry.ce,Tbl.e,t0,hs,ht,b1,he,lr,hk',g1,hsn3,hcon,hvl,ln,hkn,gn,hkt,u,q,li,lm,gi,hput,-lenOf,-qy6];generalize hO2:setl S.M[k] (AO.map (ents c.rows[k]++[(AV.int IntKind.i64 c.Xr[k],AV.int IntKind.i64 (c.rows[k].length:Nat))])) (O++[(N,AO.row 4 [[AV.slice 2 (List.map Xi.c x.keys),AV.int IntKind.i64 x.Xt,AV.int IntKind.i64 x.call.action,AV.slice 1 (List.map c32 x.call.args)]])])=O2;rw [<- Entry.ce] at hO2;have hlm:look S.M[k] (O++[(N,AO.row 4 [Entry.c x])])=some (.map (ents c.rows[k])):=m1.x.m k _ _ (Qa hMk) (Qa hk');have k2:∀j,j≠S.M[k]->look j O2=look j (O++[(N,AO.row 4 [Entry.c x])]):=fun j hj=>by rw [<- hO2,qaa,QA hj]
 have hT2:Tail O2 (N+1):=by rw [<- hO2];exact qaj hT1
 have kr:∀j z es,look j (O++[(N,AO.row 4 [Entry.c x])])=some (.row z es)->look j O2=some (.row z es):=fun j z es hj=>by rw [k2 j (qan hj hlm (by simp)),hj]
 have ls2:=kr S.s _ _ (by simp only [Entry.ce];exact hs);have lr2:=kr rid _ _ (by simp only [Entry.ce];exact lr);have ln2:=kr nid _ _ (by simp only [Entry.ce];exact ln);have lb2:=kr N _ _ (by simp only [Entry.ce];exact b1);have lm2:look S.M[k] O2=some (.map (ents c.rows[k]++[(AV.int IntKind.i64 c.Xr[k],AV.int IntKind.i64 (c.rows[k].length:Nat))])):=by rw [<- hO2,qaa,QAa rfl,hlm];rfl
 clear hO2;have u0:=hT2 (N+1+112) (by omega);have fsx:=qdp (n:=N+1+112) hT2 ls2 (by omega);have frx:=qdp (n:=N+1+112) hT2 lr2 (by omega);have fnx:=qdp (n:=N+1+112) hT2 ln2 (by omega);have fnb:¬N=N+1+112/\¬N+1+112=N:=by omega
 have hrn:¬rid=nid:=fun e=>m1.cm.rn rid (by rw [e1];rfl) (by rw [e2,e];rfl)
 have hnr:¬nid=rid:=fun e=>hrn e.symm
 have hwr:IntKind.wrap .i64 (c.Xr[k]+1)=c.Xr[k]+1:=qbr (by have:=hv.nx0;omega) (by omega);have hsr:=qan ls2 lr2 (by simp);have hsn:=qan ls2 ln2 (by simp);have hrs:=hsr.symm;have hns:=hsn.symm;have hbeq:(S.s == N+1+112)=false:=by simp [fsx]
 have hkl1:k<es1.length:=by omega
 have hkln:k<esn.length:=by omega
 have hci:insC c (k:Int) x=⟨c.rows.set k (c.rows[k]++[⟨c.Xr[k],x⟩]),c.Xr.set k (c.Xr[k]+1),c.Xq,c.Xm⟩:=by
  unfold insC;rw [hrow,hnx];simp
 have hsnoc:ents (c.rows[k]++[⟨c.Xr[k],x⟩])=ents c.rows[k]++[(AV.int IntKind.i64 c.Xr[k],AV.int IntKind.i64 (c.rows[k].length:Nat))]:=qou _ _;have hVl:=m1.cm.rl;have fin:∀(O':List (Nat×AO)) (N':Nat) (v':AV),Tail O' N'->N<=N'->look rid O'=some (.row 1 (es1.set k [v']))->look nid O'=some (.row 1 (esn.set k [.int .i64 (c.Xr[k]+1)]))->
   (∀j,j<N+1->j≠rid->j≠nid->(∀i,vid S.V[k]=some i->j≠i)->look j O2≠some .res->look j O'=look j O2)->Mu O' 5 v' ((c.rows[k]++[Rw.mk c.Xr[k] x]).map Rw.c)->(∀z es t,v'≠ .app z es t)->(∀i,vid v'=some i->vid S.V[k]=some i\/N+1<=i)->
   MDpost N O S p (insC c (k:Int) x) (.tup [.int .i64 (qef c (k:Int)),.int .i64 0]) (some (.val (.tup [.int .i64 c.Xr[k],.int .i64 0]),⟨O',N'⟩)):=by
  intro O' N' v' hT' hN' a1 a2 a3 a4 a5 a6;rw [hnx,hci];have own1:S.own rid:= .inr (.inl (.inl (by rw [e1];rfl)));have own2:S.own nid:= .inr (.inl (.inr (.inl (by rw [e2];rfl))));have own3:S.own S.M[k]:= .inr (.inr (.inr (Qd hMk)));have own4:∀i,vid S.V[k]=some i->S.own i:=fun i hi=> .inr (.inl (.inr (.inr (.inr ⟨_,Qd hV,hi⟩))))
  have keep:∀j,S.own j->¬S.chg k j->look j O'=look j (O++[(N,AO.row 4 [Entry.c x])]):=by
   intro j hj hc;obtain ⟨w,hw,hwn⟩:=m1.own_lk hj;have h2:look j O2=some w:=by
    rw [k2 j (fun e=>hc (.inr (.inr (.inr (.inr (by rw [e];exact Qa hMk)))))),hw]
   rw [a3 j (hT1.lt hw) (fun e=>hc (.inr (.inl (by rw [e,e1];rfl)))) (fun e=>hc (.inr (.inr (.inl (by rw [e,e2];rfl))))) (fun i hi e=>hc (.inl ⟨_,Qa hV,by rw [e];exact hi⟩)) (by rw [h2];simpa using hwn),h2,hw]
  have h5no:∀i,vid S.V[k]=some i->∃es,look i (O++[(N,AO.row 4 [Entry.c x])])=some (.row 5 es):=fun i hi=>m1.vrow (Qa hV) hi
  have up:=m1.upd (k:=k) (v':=v') (m':=S.M[k]) (l':=c.rows[k]++[⟨c.Xr[k],x⟩]) (nx:=c.Xr[k]+1) (O':=O') hk' keep
   (by
    have hmu:=Mu.upd (O':=O') (id:=rid) (z:=1) (k:=k) (es:=S.V.map fun x=>[x]) (es0:=es1) (y:=[v']) a1 (by rw [QAb,hVl];exact hle1) (by rw [QAb,hVl];exact ht1);rw [QAb,hVl] at hmu;rw [e1,QBx];exact hmu)
   (by
    have hmu:=Mu.upd (O':=O') (id:=nid) (z:=1) (k:=k) (es:=c.Xr.map cI) (es0:=esn) (y:=[.int .i64 (c.Xr[k]+1)]) a2 (by rw [QAb];exact hle2) ht2;rw [QAb] at hmu;rw [e2,QBx,cIe];exact hmu)
   (by
    have hmm:S.M.set k S.M[k]=S.M:=by simp
    rw [hmm];refine m1.x.i.fr fun i hi=>?_
    obtain ⟨es0,hl0⟩:=m1.x.i.own hi;have h2:=kr i _ _ hl0;rw [a3 i (hT1.lt hl0) (fun e=>m1.ri i (by rw [e,e1];rfl) hi) (fun e=>m1.ni i (by rw [e,e2];rfl) hi) (fun i' hi' e=>by obtain ⟨es5,h5⟩:=h5no i' hi';exact qan hl0 h5 (by simp) e) (by rw [h2];simp),h2,hl0])
   a4
   (by
    rw [hsnoc,<- lm2];refine a3 _ (hT1.lt hlm) (fun e=>?_) (fun e=>?_) (fun i hi e=>?_) (by rw [lm2];simp)
    ·exact qan lm2 lr2 (by simp) e
    ·exact qan lm2 ln2 (by simp) e
    ·obtain ⟨es5,h5⟩:=h5no i hi;exact qan lm2 (kr i _ _ h5) (by simp) e)
   a5
   (fun i hi=>by
    rcases a6 i hi with h | h
    ·exact .inl ⟨_,Qa hV,h⟩
    ·exact .inr fun w hw=>by have:=hT1.lt hw;omega)
   (.inl (Qa hMk))
  refine ⟨S.tab k v' S.M[k],O',N',rfl,up,rfl,?_,?_,hT',hN'⟩
  ·intro j hj;rcases hj with hj | hj | hj | hj
   ·exact .inl (.inl hj)
   ·rcases hj with hj | hj | hj | ⟨w,hw,hj⟩
    ·exact .inl (.inr (.inl (.inl hj)))
    ·exact .inl (.inr (.inl (.inr (.inl hj))))
    ·exact .inl (.inr (.inl (.inr (.inr (.inl hj)))))
    ·rcases Qq hw with hw | rfl
     ·exact .inl (.inr (.inl (.inr (.inr (.inr ⟨w,hw,hj⟩)))))
     ·rcases a6 j hj with h | h
      ·exact .inl (own4 j h)
      ·exact .inr (by omega)
   ·exact .inl (.inr (.inr (.inl hj)))
   ·simp only [SV.tab] at hj;rcases Qq hj with hj | rfl
    ·exact .inl (.inr (.inr (.inr hj)))
    ·exact .inl own3
  ·intro j hj hx;have hx1:¬S.own j:=fun h=>hx (.inl h)
   have hx2:¬look j O=some .res:=fun h=>hx (.inr h)
   have h1:=hk1 j hj hx;have h2:=k2 j (fun e=>hx1 (by rw [e];exact own3));rw [a3 j (by omega) (fun e=>hx1 (by rw [e];exact own1)) (fun e=>hx1 (by rw [e];exact own2)) (fun i hi e=>hx1 (by rw [e];exact own4 i hi)) (by rw [h2,h1];exact hx2),h2,h1]
 cases hVk:S.V[k] with
 | Xu z es=>
  rw [hVk] at g5 g1;have hl0:c.rows[k]=[]/\z=5/\es=[]:=by
   generalize hgen:c.rows[k].map Rw.c=gl at g5;cases g5;exact ⟨by simpa using hgen,rfl,rfl⟩
  obtain ⟨hl0,rfl,rfl⟩:=hl0;simp [ls2,lr2,ln2,lb2,u0,qab,qaa,qaf,fsx,frx,fnx,fnb,hk',hkn,g1,hce,gn,hnr,hwr,hbeq,hsr];refine fin _ (N+1+112+1) (.row (N+1+112) 5 0 1) ?_ (by omega) ?_ ?_ ?_ ?_ (by simp) (by intro i hi;cases hi;right;omega)
  ·refine qaj (qdm (qaj ?_));exact qj1 (hT2.mono (by omega)) (QAu _)
  ·simp [qaa,qaf,qab,lr2,hrn]
  ·simp [qaa,qaf,qab,ln2,hnr]
  ·intro j hj b1 b2 b3 b4;have hj2:¬N+1+112=j:=by omega
   have hi:look j (setl rid (AO.row 1 (es1.set k [.row (N+1+112) 5 0 1])) (O2++[(N+1+112,AO.row 5 [[AV.int IntKind.i64 c.Xr[k],AV.slice 2 (List.map Xi.c x.keys),AV.int IntKind.i64 x.Xt,AV.int IntKind.i64 x.call.action,AV.slice 1 (List.map c32 x.call.args)]])]))=look j O2:=by
    rw [qaa,QA b1,qab];simp [look,hj2]
   rw [qaa,QA b2,qaf (by rw [hi];exact b4),hi]
  ·refine .row (N+1+112) _ [Rw.c (Rw.mk c.Xr[k] x)] _ (by simp [hl0]) ?_ (by simp [hl0]) (by simp [hl0]);simp [qaa,qaf,fnx,frx,u0,Rw.ce]
 | row id5 z off n=>
  rw [hVk] at g5 g1;have hg:z=5/\off=0/\n=c.rows[k].length/\∃es5,look id5 (O++[(N,AO.row 4 [Entry.c x])])=some (.row 5 es5)/\c.rows[k].length<=es5.length/\es5.take c.rows[k].length=c.rows[k].map Rw.c:=by
   generalize hgen:c.rows[k].map Rw.c=gl at g5;have hlen:gl.length=c.rows[k].length:=by rw [<- hgen];simp
   cases g5 with
   | row _ _ es5 _ hn hl5 hle5 ht5=>exact ⟨rfl,rfl,by omega,es5,hl5,by omega,by rw [<- hlen];exact ht5⟩
  obtain ⟨rfl,rfl,rfl,es5,hl5,hle5,ht5⟩:=hg;have l52:=kr _ _ _ hl5;have f5:=qdp (n:=N+1+112) hT2 l52 (by omega);have h5s:=qan l52 ls2 (by simp);have h5r:=qan l52 lr2 (by simp);have h5n:=qan l52 ln2 (by simp);have hs5:=h5s.symm;have hr5:=h5r.symm;have hn5:=h5n.symm;have h5b:=qan l52 lb2 (by simp);have hb5:=h5b.symm;have hq5:(S.s == id5)=false:=by simpa using hs5
  have hbd:(c.rows[k].length+1)*72<=70368744177664:=by have:=v.small _ (Qd hk');omega
  have hls:=v.small _ (Qd hk');have hres:look (N+1+112) (O2++[(N+1+112,AO.res)])=some .res:=by rw [qab,u0];simp
  have hdr:look (N+1+112) (qaw id5 (O2++[(N+1+112,AO.res)]))=some .res:=by rw [qak (fun e=>f5.2 e),hres]
  by_cases hfull:c.rows[k].length=es5.length
  ·have hbd2:(es5.length+1)*72<=70368744177664:=by rw [<- hfull];exact hbd
   simp [ls2,lr2,ln2,lb2,u0,qab,qaa,qaf,qak,fsx,frx,fnx,fnb,hk',hkn,g1,hce,gn,hnr,hwr,hbeq,hsr,l52,f5,hs5,hr5,hn5,hq5,hbd2,hfull,hdr];refine fin _ (N+1+112+1) (.row (N+1+112) 5 0 (es5.length+1)) ?_ (by omega) ?_ ?_ ?_ ?_ (by simp) (by intro i hi;cases hi;right;omega)
   ·refine qaj (qdm (qaj (qaj (qc7 ?_))));exact qj1 (hT2.mono (by omega)) (QAu _)
   ·simp [qaa,qaf,qab,qak,lr2,hrn,frx,hr5]
   ·simp [qaa,qaf,qab,qak,ln2,hnr,fnx,hn5]
   ·intro j hj b1 b2 b3 b4;have hj2:¬N+1+112=j:=by omega
    have hj3:¬j=N+1+112:=by omega
    have hj5:j≠id5:=b3 id5 (by rw [hVk];rfl);have hi:∀A B,look j (setl rid A (setl (N+1+112) B (qaw id5 (O2++[(N+1+112,AO.res)]))))=look j O2:=by
     intro A B;rw [qaa,QA b1,qaa,QA hj3,qak hj5,qab];simp [look,hj2]
    rw [qaa,QA b2,qaf (by rw [hi];exact b4),hi]
   ·have htk:es5=c.rows[k].map Rw.c:=by rw [<- ht5,hfull,QAf]
    refine .row (N+1+112) _ (es5++[Rw.c (Rw.mk c.Xr[k] x)]) _ (by simp [hfull]) ?_ (by simp [htk]) (by simp [htk,Qo]);simp [qaa,qaf,hdr,fnx,frx,Rw.ce]
  ·have hlt:c.rows[k].length<es5.length:=by omega
   have hlt2:c.rows[k].length+1<=es5.length:=by omega
   have hne:¬es5.length=c.rows[k].length:=by omega
   simp [ls2,lr2,ln2,lb2,u0,qab,qaa,qaf,fsx,frx,fnx,fnb,hk',hkn,g1,hce,gn,hnr,hwr,hsr,l52,f5,hs5,hr5,hn5,hq5,hbd,hfull,hlt2];refine fin _ (N+1+112+1) (.row id5 5 0 (c.rows[k].length+1)) ?_ (by omega) ?_ ?_ ?_ ?_ (by simp) (by intro i hi;cases hi;left;rw [hVk];rfl)
   ·refine qaj (qdm (qaj (qaj ?_)));exact qj1 (hT2.mono (by omega)) (QAu _)
   ·simp [qaa,qaf,qab,lr2,hrn,hr5]
   ·simp [qaa,qaf,qab,ln2,hnr,hn5]
   ·intro j hj b1 b2 b3 b4;have hj2:¬N+1+112=j:=by omega
    have hj5:j≠id5:=b3 id5 (by rw [hVk];rfl);have hi:∀A B,look j (setl rid A (setl id5 B (O2++[(N+1+112,AO.res)])))=look j O2:=by
     intro A B;rw [qaa,QA b1,qaa,QA hj5,qab];simp [look,hj2]
    rw [qaa,QA b2,qaf (by rw [hi];exact b4),hi]
   ·refine .row id5 _ (es5.take c.rows[k].length++Rw.c (Rw.mk c.Xr[k] x)::es5.drop (c.rows[k].length+1)) _ (by simp) ?_ (by simp;omega) ?_
    ·simp [qaa,qaf,qab,l52,h5r,h5n,Rw.ce]
    ·rw [QAb,QAs,List.length_singleton,QCa,ht5];have hll:(c.rows[k].map Rw.c).length=c.rows[k].length:=by simp
     rw [List.take_append,hll,Qo (by rw [hll];omega),show c.rows[k].length+1 - c.rows[k].length=1 by omega];simp
 | app z es t=>exact absurd hVk (m1.cm.va _ (Qd hV) _ _ _)
 | _=>rw [hVk] at g5;cases g5
theorem qk7 {α:Type} {f:Nat->Option α} {Q:α->Prop} (h:∀i x,f i=some x->Q x) {N:Nat} {x:α} (hx:fe f N 0=some x):Q x:=by
 obtain ⟨k,_,hk⟩:=qf3 hx;exact h k x hk
theorem qacn {p:Prg} {d:Dg} (h:limD p=some d):d.1≠0:=by
 unfold limD at h
 repeat' split at h
 all_goals first | (cases h;simp;done) | cases h
theorem qacj {p:Prg} {d:Dg} (h:hdrD p=some d):d.1≠0:=by
 refine qk7 (Q:=fun d:Dg=>d.1≠0) (fun i x hx=>?_) h;rw [Qt] at hx;obtain ⟨a,_,hx⟩:=hx;split at hx
 ·cases hx
 ·cases hx;assumption
theorem qacp {p:Prg} {d:Dg} (h:metD p=some d):d.1≠0:=by
 unfold metD at h;split at h
 ·cases h;simp
 split at h
 ·rename_i d' hd';cases h;refine qk7 (Q:=fun d:Dg=>d.1≠0) (fun i x hx=>?_) hd';rw [Qt] at hx;obtain ⟨a,_,hx⟩:=hx;split at hx
  ·cases hx
  ·cases hx;assumption
 ·refine qk7 (Q:=fun d:Dg=>d.1≠0) (fun i x hx=>?_) h;split at hx
  ·cases hx
  ·cases hx;simp
theorem qadm {p:Prg} {d:Dg} (h:regD p=some d):d.1≠0:=by
 refine qk7 (Q:=fun d:Dg=>d.1≠0) (fun i x hx=>?_) h;rw [Qt] at hx;obtain ⟨a,_,hx⟩:=hx;split at hx
 ·cases hx
 ·cases hx;assumption
theorem qaba {p:Prg} {d:Dg} (h:qps p=some d):d.1≠0:=by
 refine qk7 (Q:=fun d:Dg=>d.1≠0) (fun i x hx=>?_) h;rw [Qt] at hx;obtain ⟨a,_,hx⟩:=hx;split at hx
 ·cases hx;assumption
 ·split at hx
  ·cases hx;simp
  ·cases hx
theorem qaec {p:Prg} {d:Dg} (h:tblD p=some d):d.1≠0:=by
 refine qk7 (Q:=fun d:Dg=>d.1≠0) (fun i x hx=>?_) h;rw [Qt] at hx;obtain ⟨a,_,hx⟩:=hx;split at hx
 ·cases hx;assumption
 ·split at hx
  ·cases hx;simp
  ·cases hx
theorem qacd {p:Prg} {d:Dg} (h:floD p=some d):d.1≠0:=by
 unfold floD at h;split at h
 ·cases h;assumption
 split at h
 ·cases h;assumption
 split at h
 ·cases h;assumption
 ·cases h
structure PrgV (p:Prg):Prop where
 lim:limD p=none
 hdr:hdrD p=none
 met:metD p=none
 reg:regD p=none
 act:qps p=none
 tbl:tblD p=none
 flo:floD p=none
theorem qsu {p:Prg} (h:(prgD p).1=0):PrgV p:=by
 unfold prgD at h;cases h1:limD p with
 | some d=>rw [h1] at h;exact absurd h (qacn h1)
 | none=>
 cases h2:hdrD p with
 | some d=>rw [h1,h2] at h;exact absurd h (qacj h2)
 | none=>
 cases h3:metD p with
 | some d=>rw [h1,h2,h3] at h;exact absurd h (qacp h3)
 | none=>
 cases h4:regD p with
 | some d=>rw [h1,h2,h3,h4] at h;exact absurd h (qadm h4)
 | none=>
 cases h5:qps p with
 | some d=>rw [h1,h2,h3,h4,h5] at h;exact absurd h (qaba h5)
 | none=>
 cases h6:tblD p with
 | some d=>rw [h1,h2,h3,h4,h5,h6] at h;exact absurd h (qaec h6)
 | none=>
 cases h7:floD p with
 | some d=>rw [h1,h2,h3,h4,h5,h6,h7] at h;exact absurd h (qacd h7)
 | none=>exact ⟨h1,h2,h3,h4,h5,h6,h7⟩
theorem PrgV.nest {p:Prg} (v:PrgV p):nest p.control<=6:=by
 have h:=v.flo;unfold floD at h;split at h
 ·cases h
 split at h
 ·cases h
 rename_i h1;refine Decidable.byContradiction fun hc=>h1 ?_
 unfold ctlE;split
 ·simp
 ·rw [QAa (by omega)];simp
theorem PrgV.tabs {p:Prg} (v:PrgV p):p.Xn.length<=12:=by
 have h:=v.lim;unfold limD at h
 repeat' split at h
 all_goals first | omega | cases h
theorem qfo {α:Type} (f:α->α->Bool):∀l:List α,(∀x∈l,f x x=true)->eqL f l l=true
 | [],_=>by simp [eqL]
 | x::r,h=>by simp [eqL,h x (QBe ..),qfo f r (fun y hy=>h y (QAk _ hy))]
def Rf (n:Nat) (v:AV):Prop:=avEq n v v=true
theorem Rf.int (n:Nat) (k:IntKind) (v:Int):Rf (n+1) (.int k v):=by unfold Rf avEq;simp
theorem Rf.bool (n:Nat) (b:Bool):Rf (n+1) (.bool b):=by unfold Rf avEq;simp
theorem Rf.str (n:Nat) (b:List UInt8):Rf (n+1) (.str b):=by unfold Rf avEq;simp
theorem Rf.row (n a b c d:Nat):Rf (n+1) (.row a b c d):=by unfold Rf avEq;simp
theorem Rf.slice (n z:Nat) (es:List (List AV)) (h:∀e∈es,∀c∈e,Rf n c):Rf (n+1) (.slice z es):=by
 have:=qfo (eqL (avEq n)) es fun e he=>qfo (avEq n) e (h e he)
 unfold Rf avEq;simp [this]
theorem Rf.Xu (n z:Nat) (es:List (List AV)) (h:∀e∈es,∀c∈e,Rf n c):Rf (n+1) (.Xu z es):=by
 have:=qfo (eqL (avEq n)) es fun e he=>qfo (avEq n) e (h e he)
 unfold Rf avEq;simp [this]
theorem Rf.app (n z t:Nat) (es:List (List AV)) (h:∀e∈es,∀c∈e,Rf n c):Rf (n+1) (.app z es t):=by
 have:=qfo (eqL (avEq n)) es fun e he=>qfo (avEq n) e (h e he)
 unfold Rf avEq;simp [this]
theorem Rf.map {α:Type} (n z:Nat) (f:α->List AV) (l:List α) (h:∀x∈l,∀c∈f x,Rf n c):Rf (n+1) (.slice z (l.map f)):=by
 refine Rf.slice n z _ fun e he=>?_
 obtain ⟨x,hx,rfl⟩:=QAt.1 he;exact h x hx
theorem qoh (n:Nat) (x:Xe):∀c∈Xe.c x,Rf (n+1) c:=by
 simp [Xe.c,Rf.int]
theorem qre (n:Nat) (x:Fld):∀c∈Fld.c x,Rf (n+1) c:=by
 simp [Fld.c,Rf.int,Rf.str]
theorem rf_I (n:Nat) (x:Int):∀c∈cI x,Rf (n+1) c:=by simp [cI,Rf.int]
theorem qu1 (n:Nat) (x:Int):∀c∈c32 x,Rf (n+1) c:=by simp [c32,Rf.int]
theorem qrd:∀(k:Nat) (l:List Xa),nest l<=k->Rf (k+3) (.slice 5 (l.map Xa.c))
 | 0,l,h=>by
  cases l with
  | nil=>exact Rf.slice _ _ _ (by simp)
  | cons x l=>simp only [nest] at h;omega
 | k+1,l,h=>by
  have key:∀x∈l,qp0 x<=k:=by
   intro x hx;have:∀l:List Xa,x∈l->1+qp0 x<=nest l:=by
    intro l
    induction l with
    | nil=>intro h;cases h
    | cons y l ih=>
     intro h;simp only [nest];rcases QAg.1 h with rfl | h
     ·omega
     ·have:=ih h;omega
   have:=this l hx;omega
  refine Rf.map _ _ _ _ fun x hx=>?_
  have hk:=key x hx;cases x with
  | mk kd t cnd a b=>
   simp only [qp0] at hk;rw [Xa.ce];intro c hc;simp only [QAg,QAo,or_false] at hc;rcases hc with rfl | rfl | rfl | rfl | rfl
   ·exact Rf.int _ _ _
   ·exact Rf.int _ _ _
   ·exact Rf.map _ _ _ _ fun x _=>qoh _ x
   ·exact qrd k a (by omega)
   ·exact qrd k b (by omega)
theorem qagy {p:Prg} (v:PrgV p):∀c∈Prg.c p,Rf 40 c:=by
 rw [Prg.ce];intro c hc;simp only [QAg,QAo,or_false] at hc;rcases hc with rfl | rfl | rfl | rfl | rfl | rfl | rfl | rfl | rfl
 ·exact Rf.str _ _
 ·refine Rf.map _ _ _ _ fun x _=>?_
  simp only [Xj.c,QAg,QAo,or_false];rintro c (rfl | rfl)
  ·exact Rf.str _ _
  ·exact Rf.map _ _ _ _ fun x _=>qre _ x
 ·exact Rf.map _ _ _ _ fun x _=>qre _ x
 ·refine Rf.map _ _ _ _ fun x _=>?_
  simp [Xh.c,Rf.int,Rf.str]
 ·refine Rf.map _ _ _ _ fun x _=>?_
  rw [Action.ce];simp only [QAg,QAo,or_false];rintro c (rfl | rfl | rfl)
  ·exact Rf.str _ _
  ·exact Rf.map _ _ _ _ fun x _=>qre _ x
  ·refine Rf.map _ _ _ _ fun x _=>?_
   rw [Xg.ce];simp only [QAg,QAo,or_false];rintro c (rfl | rfl | rfl | rfl | rfl | rfl | rfl)
   ·exact Rf.int _ _ _
   ·exact Rf.int _ _ _
   ·exact Rf.int _ _ _
   ·exact Rf.int _ _ _
   ·exact Rf.int _ _ _
   ·exact Rf.map _ _ _ _ fun x _=>qoh _ x
   ·exact Rf.map _ _ _ _ fun x _=>qoh _ x
 ·refine Rf.map _ _ _ _ fun x _=>?_
  rw [Tbl.ce];simp only [QAg,QAo,or_false];rintro c (rfl | rfl | rfl | rfl | rfl | rfl)
  ·exact Rf.str _ _
  ·exact Rf.map _ _ _ _ fun x _=>by simp [Xl.c,Rf.int]
  ·exact Rf.map _ _ _ _ fun x _=>rf_I _ x
  ·exact Rf.int _ _ _
  ·exact Rf.map _ _ _ _ fun x _=>qu1 _ x
  ·exact Rf.int _ _ _
 ·refine Rf.map _ _ _ _ fun x _=>?_
  rw [Xd.ce];simp only [QAg,QAo,or_false];rintro c (rfl | rfl | rfl | rfl | rfl | rfl | rfl)
  ·exact Rf.str _ _
  ·exact Rf.map _ _ _ _ fun x _=>rf_I _ x
  ·exact Rf.bool _ _
  ·exact Rf.int _ _ _
  ·exact Rf.int _ _ _
  ·exact Rf.map _ _ _ _ fun x _=>by simp [Xk.c,Rf.int]
  ·exact Rf.int _ _ _
 ·have:=v.nest;exact qrd 37 p.control (by omega)
 ·exact Rf.map _ _ _ _ fun x _=>rf_I _ x
theorem qp3 {O:List (Nat×AO)} {z n:Nat} {v:AV} {es:List (List AV)} (h:Mu O z v es):Rf (n+1) v:=by
 cases h with
 | nilF=>exact Rf.Xu _ _ _ (by simp)
 | nilA=>exact Rf.app _ _ _ _ (by simp)
 | row=>exact Rf.row _ _ _ _ _
theorem qtw {O:List (Nat×AO)} {S:SV} {p:Prg} {c:Xf} (m:StoreM O S p c) (v:PrgV p):aoEq (some (.row 15 [S.cells p])) (some (.row 15 [S.cells p]))=true:=by
 have h:∀x∈S.cells p,avEq 40 x x=true:=by
  intro x hx;simp only [SV.cells,QAg,QAd,QAo,or_false] at hx;rcases hx with rfl | rfl | rfl | rfl | hx | rfl | rfl
  ·exact qp3 m.cm.r
  ·exact qp3 m.cm.n
  ·exact qp3 m.cm.d
  ·rcases m.cm.g with e | ⟨t,e⟩<;>rw [e]
   ·refine Rf.Xu _ _ _ fun e he=>?_
    obtain ⟨l,_,rfl⟩:=QAt.1 he;simp only [cS,QAg,QAo,or_false];rintro c rfl;exact Rf.map _ _ _ _ fun x _=>qu1 _ x
   ·refine Rf.app _ _ _ _ fun e he=>?_
    obtain ⟨l,_,rfl⟩:=QAt.1 he;simp only [cS,QAg,QAo,or_false];rintro c rfl;exact Rf.map _ _ _ _ fun x _=>qu1 _ x
  ·exact qagy v x hx
  ·exact qp3 m.x.i
  ·exact Rf.bool _ _
 have h1:=qfo (avEq 40) _ h;unfold aoEq;simp [qah,eqL,h1]
theorem qdk {t:Nat} {y z:AO}:∀{O:List (Nat×AO)},setl t z (setl t y O)=setl t z O
 | []=>by simp
 | (u,w)::r=>by
  by_cases hu:u=t
  ·subst hu;simp
  ·simp [hu,qdk]
theorem qady {O:List (Nat×AO)} {N id n i:Nat} {es:List (List AV)} {l:List Rw} (hl:look id O=some (.row 5 es)) (hn:n=l.length) (hle:n<=es.length) (ht:es.take n=l.map Rw.c) (hi:i<n) (hb:n<2^39):
  ∃N' es',qai Φ f_352 [.row id 5 0 n,.int .i64 i,.int .i64 ((i:Int)+1)] ⟨O,N⟩=some (.val (.row id 5 0 (n - 1)),⟨setl id (.row 5 es') O,N'⟩)/\N<=N'/\N'<=N+1/\n - 1<=es'.length/\es'.take (n - 1)=(l.eraseIdx i).map Rw.c:=by
 rw [qat (fn:=c_352) rfl rfl];have hi1:(i:Int)+1=((i+1:Nat):Int):=by omega
 have a1:i+1<=n:=by omega
 have a2:i<=i+1:=by omega
 have a3:i<=n:=by omega
 have a4:i+1<=es.length:=by omega
 have a5:i<=es.length:=by omega
 have hne:¬i=i+1:=by omega
 rw [hi1];have b1:(0:Int)<=(i:Int)+1:=by omega
 have b2:(i:Int)+1<=(n:Int):=by omega
 have b3:(i:Int)+1<=(es.length:Int):=by omega
 have c1:i+(n - (i+1))=n - 1:=by omega
 have c2:min (n - (i+1)) (es.length - (i+1))=n - (i+1):=by omega
 have c3:i+(n - (i+1))<=es.length:=by omega
 have c4:i+1+(n - (i+1))<=es.length:=by omega
 have c5:¬i=es.length:=by omega
 have c6:(((n - 1:Nat):Int))<=(n:Int):=by omega
 have c7:n - 1<=n:=by omega
 have c9:¬(i:Int)=(i:Int)+1:=by omega
 have c8:(i:Int)<=(i:Int)+1:=by omega
 have c10:n<=es.length+1:=by omega
 have hys:(es.drop (i+1)).take (n - (i+1))=(l.drop (i+1)).map Rw.c:=by
  rw [<- List.drop_take,ht,List.map_drop]
 have c11:qa9 5 ((es.drop (i+1)).take (n - (i+1)))=true:=by rw [hys];exact qa4 5 Rw.c _ fun x=>by simp
 have hE1l:(es.take i++((es.drop (i+1)).take (n - (i+1))++es.drop (n - 1))).length=es.length:=by
  simp only [QAs,QAv,List.length_drop];omega
 have hE1t:(es.take i++((es.drop (i+1)).take (n - (i+1))++es.drop (n - 1))).take (n - 1)=(l.eraseIdx i).map Rw.c:=by
  have hti:es.take i=(l.take i).map Rw.c:=by
   have:(es.take n).take i=es.take i:=by rw [List.take_take,Nat.min_eq_left (by omega)]
   rw [<- this,ht,List.map_take]
  rw [hys,hti,List.eraseIdx_eq_take_drop_succ,QCa,<- QBs,List.take_append_of_le_length (by simp;omega)];exact Qo (by simp;omega)
 have d1:((n - 1:Nat):Int)<=(es.length:Int):=by omega
 have d2:(n:Int)<=(es.length:Int):=by omega
 have d3:n - 1+(n - (n - 1))<=es.length:=by omega
 have d4:¬n - 1=n:=by omega
 have fin:∀N',N<=N'->N'<=N+1->∀(E1 D:List (List AV)),E1.length=es.length->E1.take (n - 1)=(l.eraseIdx i).map Rw.c->
   ∃N2 es',(setl id (AO.row 5 (E1.take (n - 1)++(List.replicate (n - (n - 1)) [AV.int .i64 0,.Xu 2 [],.int .i64 0,.int .i64 0,.Xu 1 []]++D))) O=setl id (AO.row 5 es') O/\N'=N2)/\N<=N2/\N2<=N+1/\n<=es'.length+1/\es'.take (n - 1)=(l.eraseIdx i).map Rw.c:=by
  intro N' h1 h2 E1 D h3 h4;refine ⟨N',_,⟨rfl,rfl⟩,h1,h2,?_,?_⟩
  ·simp only [QAs,QAv,List.length_replicate];omega
  ·rw [List.take_append_of_le_length (by simp;omega),List.take_take,Nat.min_self,h4]
 by_cases hfull:n=es.length
 ·have hf2:=eq_true hfull;simp [c_352,hl,hle,a1,a3,b1,b2,hf2,c1,c2,c5,c8,c9];rw [QAa ⟨c10,c11⟩];generalize es.take i++((es.drop (i+1)).take (n - (i+1))++es.drop (n - 1))=E1 at hE1l hE1t ⊢;simp [qaa,hl,hE1l,c6,c7,d2,qdk,hle];exact fin N (Qb _) (by omega) E1 _ hE1l hE1t
 ·have hf2:=eq_false hfull;simp [c_352,hl,hle,a1,a3,b1,b2,hf2,c1,c2,c5,c8,c9];rw [QAa ⟨c10,c11⟩];generalize es.take i++((es.drop (i+1)).take (n - (i+1))++es.drop (n - 1))=E1 at hE1l hE1t ⊢;simp [qaa,hl,hE1l,c6,c7,d2,qdk,hle];exact fin (N+1) (by omega) (by omega) E1 _ hE1l hE1t
end Go.Av
