/-
 Towards TxnInverse: txn.undo of an operation that succeeds, over a configuration in memory.
-/
import Derived.Test.YtakklbipljodeaaGreatY1
set_option linter.unusedVariables false
set_option linter.unusedSimpArgs false
set_option linter.constructorNameAsVariable false
namespace Go.Av
set_option maxRecDepth 4000
def Fl (z:Nat) (v:AV) (es:List (List AV)):Prop:=v= .slice z es\/(v= .fslice z []/\es=[])
structure OpL (o:TableOp) (w:List AV):Prop where
 ex:∃k a ca,w=[.int .i64 o.kind,.int .i64 o.table,.int .i64 o.id,k,.int .i64 o.entry.priority,.int .i64 o.entry.call.action,a,.int .i64 o.call.action,ca]/\
  Fl 2 k (o.entry.keys.map KeyMatch.c)/\Fl 1 a (o.entry.call.args.map c32)/\Fl 1 ca (o.call.args.map c32)/\
  (o.kind=1->k= .slice 2 (o.entry.keys.map KeyMatch.c)/\a= .slice 1 (o.entry.call.args.map c32))/\(o.kind≠1->o.kind≠3->ca= .slice 1 (o.call.args.map c32))
theorem Fl.sl {z:Nat} {es:List (List AV)}:Fl z (.slice z es) es:= .inl rfl
theorem Fl.nil {z:Nat}:Fl z (.fslice z []) []:= .inr ⟨rfl,rfl⟩
def qlf (N:Nat) (O:List (Nat×AO)) (u:TableOp) (r:Option (Rt×AH)):Prop:=
 ∃w O' N',r=some (.val (.agg w),⟨O',N'⟩)/\OpL u w/\Kp (Rs O) N O O'/\Tail O' N'/\N<=N'
theorem Kp.sweep {X:Nat->Prop} {N:Nat} {O O':List (Nat×AO)} (h:Kp X N O O') (hx:∀j,look j O=some .res->X j):Kp X N O (qa1 O'):=fun j hj hn=>by
 have e:=h j hj hn;rw [qa0,e];rw [e];exact fun hr=>hn (hx j hr)
theorem nbq (N:Nat):(N+1 == N)=false/\(N == N+1)=false/\(N+1+1 == N)=false/\(N == N+1+1)=false/\(N+1+1 == N+1)=false/\(N+1 == N+1+1)=false/\(N+1+1+1 == N)=false/\(N == N+1+1+1)=false/\(N+1+1+1 == N+1)=false/\(N+1 == N+1+1+1)=false/\(N+1+1+1 == N+1+1)=false/\(N+1+1 == N+1+1+1)=false:=by
 simp only [beq_eq_false_iff_ne];omega
theorem nne (N:Nat):¬N+1=N/\¬N=N+1/\¬N+1+1=N/\¬N=N+1+1/\¬N+1+1=N+1/\¬N+1=N+1+1/\¬N+1+1+1=N/\¬N=N+1+1+1/\¬N+1+1+1=N+1/\¬N+1=N+1+1+1/\¬N+1+1+1=N+1+1/\¬N+1+1=N+1+1+1:=by
 omega
theorem lk_ge {j:Nat}:∀{L:List (Nat×AO)},(∀x∈L,j<x.1)->look j L=none
 | [],_=>rfl
 | (u,w)::r,h=>by
  have:=h (u,w) (by simp);have hr:=lk_ge (L:=r) fun x hx=>h x (by simp [hx])
  have hu:¬u=j:=by simp only at this;omega
  simp [look,hu,hr]
theorem qxa {j:Nat}:∀{L:List (Nat×AO)},(∀x∈L,x.1<j)->look j L=none
 | [],_=>rfl
 | (u,w)::r,h=>by
  have:=h (u,w) (by simp);have hr:=qxa (L:=r) fun x hx=>h x (by simp [hx])
  have hu:¬u=j:=by simp only at this;omega
  simp [look,hu,hr]
theorem Kp.apps {X:Nat->Prop} {N:Nat} {O L:List (Nat×AO)} (h:∀x∈L,N<=x.1):Kp X N O (O++L):=fun j hj _=>by
 rw [qaf,lk_ge (L:=L) fun x hx=>by have:=h x hx;omega];cases look j O<;>rfl
theorem Tail.apps {N M:Nat} {O L:List (Nat×AO)} (hT:Tail O N) (hn:N<=M) (h:∀x∈L,x.1<M):Tail (O++L) M:=fun j hj=>by
 rw [qaf,hT j (by omega),qxa (L:=L) fun x hx=>by have:=h x hx;omega];rfl
theorem qajl {O:List (Nat×AO)} {N:Nat} (hT:Tail O N) (w1 w2 w3 w4:AV) (o:TableOp) (id:Int) (h:o.kind=1):
  qlf N O ⟨3,o.table,id,noE,noCl⟩ (qam Φ f_118 [.agg [w1,w2,w3,w4],.agg (TableOp.c o),.int .i64 id] ⟨O,N⟩):=by
 rw [qbj (fn:=c_118) rfl rfl];have t0:=hT N (Qb _);have t1:=hT (N+1) (by omega);have t2:=hT (N+1+1) (by omega);have t3:=hT (N+1+1+1) (by omega);simp [c_118,c_118_k1,TableOp.ce2,h,t0,t1,t2,t3,nne N];refine ⟨_,_,_,rfl,⟨⟨_,_,_,rfl,.nil,.nil,.nil,by simp,by simp⟩⟩,Kp.apps ?_,hT.apps (by omega) ?_,by omega⟩
 ·simp only [List.mem_cons,List.not_mem_nil,or_false];rintro x (rfl | rfl | rfl | rfl)<;>simp<;>omega
 ·simp only [List.mem_cons,List.not_mem_nil,or_false];rintro x (rfl | rfl | rfl | rfl)<;>simp<;>omega
theorem qajo {O:List (Nat×AO)} {N:Nat} (hT:Tail O N) {w1 w2 w3 w4:AV} {V:List AV} {c:Config} (m:CfgM O w1 w2 w3 w4 V c) (o:TableOp) (id:Int) (h:o.kind=4) {t:Nat} (ht:o.table=t) (hd:t<c.defaults.length):
  qlf N O ⟨4,o.table,0,noE,c.defaults[t]⟩ (qam Φ f_118 [.agg [w1,w2,w3,w4],.agg (TableOp.c o),.int .i64 id] ⟨O,N⟩):=by
 rw [qbj (fn:=c_118) rfl rfl];have t0:=hT N (Qb _);have t1:=hT (N+1) (by omega);have t2:=hT (N+1+1) (by omega);have t3:=hT (N+1+1+1) (by omega);obtain ⟨did,es0,e,hi,hle,htk⟩:=m.d.nonempty (by simp;omega);rw [List.length_map] at e hle;subst e;have hke:t<es0.length:=by omega
 have g1:=qdd hd htk;rw [ActionCall.ce] at g1;have g2:es0[t]=[.int .i64 c.defaults[t].action,.slice 1 (c.defaults[t].args.map c32)]:=by rw [Qa hke] at g1;exact Option.some.inj g1
 have hlt:=hT.lt hi;have d0:¬N=did:=by omega
 have d1:¬N+1=did:=by omega
 have d2:¬N+1+1=did:=by omega
 have d3:¬N+1+1+1=did:=by omega
 have d0':¬did=N:=by omega
 have d1':¬did=N+1:=by omega
 have d2':¬did=N+1+1:=by omega
 have d3':¬did=N+1+1+1:=by omega
 have d4:(did == N+1+1+1)=false:=by simpa using d3'
 have l2:∀a b x y,look (N+1+1) (qa1 (O++[(N,a),(N+1,b),(N+1+1,.row 9 x),(N+1+1+1,.row 9 y)]))=some (.row 9 x):=fun a b x y=>by
  have:look (N+1+1) (O++[(N,a),(N+1,b),(N+1+1,.row 9 x),(N+1+1+1,.row 9 y)])=some (.row 9 x):=by simp [t2,nne N]
  rw [qa0 (by rw [this];simp),this]
 have l3:∀a b x y,look (N+1+1+1) (qa1 (O++[(N,a),(N+1,b),(N+1+1,.row 9 x),(N+1+1+1,.row 9 y)]))=some (.row 9 y):=fun a b x y=>by
  have:look (N+1+1+1) (O++[(N,a),(N+1,b),(N+1+1,.row 9 x),(N+1+1+1,.row 9 y)])=some (.row 9 y):=by simp [t3,nne N]
  rw [qa0 (by rw [this];simp),this]
 simp [c_118,c_118_k1,TableOp.ce2,h,ht,hd,d4,l2,l3,hi,g2,hke,t0,t1,t2,t3,qaf,qac,nbq N,nne N,d0,d1,d2,d3];refine ⟨_,_,_,rfl,⟨⟨_,_,_,rfl,.nil,.nil,.sl,by simp,fun _ _=>rfl⟩⟩,Kp.setl (Kp.sweep (Kp.apps ?_) fun j h=>h) (.inl (by omega)),qak (qcx (hT.apps (by omega) ?_)),by omega⟩
 ·simp only [List.mem_cons,List.not_mem_nil,or_false];rintro x (rfl | rfl | rfl | rfl)<;>simp<;>omega
 ·simp only [List.mem_cons,List.not_mem_nil,or_false];rintro x (rfl | rfl | rfl | rfl)<;>simp<;>omega
theorem qajm {O:List (Nat×AO)} {N:Nat} (hT:Tail O N) {w1 w2 w3 w4:AV} {V:List AV} {c:Config} (m:CfgM O w1 w2 w3 w4 V c) (o:TableOp) (id:Int) (h:o.kind=2) {t:Nat} (ht:o.table=t) (hd:t<c.rows.length) (hl:c.rows[t].length<2^40) {r:Rw} (hr:qcw c.rows[t] o=some r):
  qlf N O ⟨2,o.table,o.id,noE,r.entry.call⟩ (qam Φ f_118 [.agg [w1,w2,w3,w4],.agg (TableOp.c o),.int .i64 id] ⟨O,N⟩):=by
 rw [qbj (fn:=c_118) rfl rfl];have t0:=hT N (Qb _);have t1:=hT (N+1) (by omega);have t2:=hT (N+1+1) (by omega);have t3:=hT (N+1+1+1) (by omega);have hV:t<V.length:=by rw [m.rl];exact hd
 obtain ⟨vid0,es0,e1,hi,hle,htk⟩:=m.r.nonempty (by simp;omega);rw [List.length_map] at e1 hle;have hke:t<es0.length:=by omega
 have g1:es0[t]? =some [V[t]]:=qdd hV htk;have g2:es0[t]=[V[t]]:=by rw [Qa hke] at g1;exact Option.some.inj g1
 have hrv:=m.rv t V[t] c.rows[t] (Qa hV) (Qa hd);have hvl:=hrv.len;rw [List.length_map] at hvl;subst e1;have hlt:=hT.lt hi;have d0:¬vid0=N:=by omega
 have d1:¬vid0=N+1:=by omega
 have d2:¬vid0=N+1+1:=by omega
 have d3:¬vid0=N+1+1+1:=by omega
 simp [c_118,TableOp.ce2,h,ht,hV,hi,g2,hke,hvl,t0,t1,t2,t3,qaf,nne N,-lenOf];refine qfo c.rows[t].length (fun i e hp=>∃O' N',hp=⟨O',N'⟩/\Kp (Rs O) N O O'/\Tail O' N'/\N+4<=N'/\look (N+1) O'=some (.row 9 [TableOp.c o])/\look (N+1+1) O'=some (.row 9 [qjc ⟨0,0,0,noE,noCl⟩ none])/\look (N+1+1+1) O'=some (.row 9 [qjc o (qcw (c.rows[t].take i) o)])/\
  look 4 e=some (.ptr (N+1) 9 0 0)/\look 6 e=some (.ptr (N+1+1) 9 0 0)/\look 7 e=some (.ptr (N+1+1+1) 9 0 0)/\look 20 e=some V[t]/\look 21 e=some (.int .i64 c.rows[t].length)/\look 22 e=some (.int .i64 i)) _ ?_ ?_ 0 _ _ (Qc _) ?_
 ·rintro i e _ L hi hL ⟨O',N',rfl,hk,hT',hN',k1,k2,k3,h4,h6,h7,h20,h21,h22⟩ ih;have hw:=qah i (by omega);have hs:qcw (c.rows[t].take (i+1)) o=if c.rows[t][i].id=o.id then some c.rows[t][i] else qcw (c.rows[t].take i) o:=by
   rw [Qh hi,qo6]
  have h5:Mu O' 5 V[t] (c.rows[t].map Rw.c):=by
   refine hrv.fr fun j hj=>?_
   obtain ⟨es1,hl1⟩:=hrv.own hj;exact hk j (hT.lt hl1) (fun hc=>by have hc:look j O=some .res:=hc;rw [hl1] at hc;cases hc)
  obtain ⟨rid,es1,ev,hl1,hle1,ht1⟩:=h5.nonempty (by simp;omega);have g5:=qdd hi ht1;rw [ev,List.length_map] at h20;have hr2:rid<N:=by
   have:=hrv.own (j:=rid) (by rw [ev];rfl);obtain ⟨es2,hl2⟩:=this;exact hT.lt hl2
  have d1:¬rid=N+1:=by omega
  have d2:¬rid=N+1+1:=by omega
  have d3:¬rid=N+1+1+1:=by omega
  have u0:=hT' N' (Qb _);have f1:¬N'=N+1:=by omega
  have f2:¬N'=N+1+1:=by omega
  have f3:¬N'=N+1+1+1:=by omega
  simp only [TableOp.ce2] at k1;by_cases z:c.rows[t][i].id=o.id
  ·rw [if_pos z] at hs;rw [show qjc o (qcw (c.rows[t].take i) o)=qjc o (qcw (c.rows[t].take i) o) from rfl] at k3;cases hu:qcw (c.rows[t].take i) o<;>rw [hu] at k3<;>simp only [qjc] at k3<;>
   ·simp [c_118_l0,Rw.ce,h4,h7,h20,h21,h22,hi,hl1,g5,z,h,k1,k3,qac,u0,hw];refine ih _ _ ⟨_,_,rfl,Kp.sweep (Kp.setl (Kp.setl (Kp.setl hk (.inl (by omega))) (.inl (by omega))) (.inl (by omega))) fun j h=>h,qcx (qak (qak (qak (hT'.mono (by omega))))),by omega,?_,?_,?_,by simp [h4],by simp [h6],by simp [h7],by simp [h20,ev],by simp [h21],by simp⟩
    ·rw [qa0]<;>simp [qac,k1,TableOp.ce2,h]
    ·rw [qa0]<;>simp [qac,k2]
    ·rw [qa0]<;>simp [qac,k3,hs,qjc]
  ·rw [if_neg z] at hs;simp [c_118_l0,Rw.ce,h4,h20,h21,h22,hi,hl1,g5,z,h,k1,u0,hw];refine ih _ _ ⟨_,_,rfl,hk,hT'.mono (by omega),by omega,by simp [k1,TableOp.ce2,h],k2,by rw [hs];exact k3,by simp [h4],by simp [h6],by simp [h7],by simp [h20,ev],by simp [h21],by simp⟩
 ·rintro e _ L hL ⟨O',N',rfl,hk,hT',hN',k1,k2,k3,h4,h6,h7,h20,h21,h22⟩;rw [List.take_length,hr] at k3;simp only [qjc] at k2 k3;simp [c_118_l0,c_118_k1,h6,h7,h21,h22,hL,k2,k3,qac];rw [<- ht];exact ⟨_,_,_,rfl,⟨⟨_,_,_,rfl,.nil,.nil,.sl,by simp,fun _ _=>rfl⟩⟩,Kp.setl hk (.inl (by omega)),qak hT',by omega⟩
 ·refine ⟨_,_,rfl,Kp.apps ?_,hT.apps (by omega) ?_,by omega,?_,?_,?_,by simp,by simp,by simp,by simp,by simp,by simp⟩
  ·simp only [List.mem_cons,List.not_mem_nil,or_false];rintro x (rfl | rfl | rfl | rfl)<;>simp<;>omega
  ·simp only [List.mem_cons,List.not_mem_nil,or_false];rintro x (rfl | rfl | rfl | rfl)<;>simp<;>omega
  all_goals simp [t1,t2,t3,nne N,TableOp.ce2,qjc,qcw,h,ht]
theorem qajn {O:List (Nat×AO)} {N:Nat} (hT:Tail O N) {w1 w2 w3 w4:AV} {V:List AV} {c:Config} (m:CfgM O w1 w2 w3 w4 V c) (o:TableOp) (id:Int) (h:o.kind=3) {t:Nat} (ht:o.table=t) (hd:t<c.rows.length) (hl:c.rows[t].length<2^40) {r:Rw} (hr:qcw c.rows[t] o=some r):
  qlf N O ⟨1,o.table,o.id,r.entry,noCl⟩ (qam Φ f_118 [.agg [w1,w2,w3,w4],.agg (TableOp.c o),.int .i64 id] ⟨O,N⟩):=by
 rw [qbj (fn:=c_118) rfl rfl];have t0:=hT N (Qb _);have t1:=hT (N+1) (by omega);have t2:=hT (N+1+1) (by omega);have t3:=hT (N+1+1+1) (by omega);have hV:t<V.length:=by rw [m.rl];exact hd
 obtain ⟨vid0,es0,e1,hi,hle,htk⟩:=m.r.nonempty (by simp;omega);rw [List.length_map] at e1 hle;have hke:t<es0.length:=by omega
 have g1:es0[t]? =some [V[t]]:=qdd hV htk;have g2:es0[t]=[V[t]]:=by rw [Qa hke] at g1;exact Option.some.inj g1
 have hrv:=m.rv t V[t] c.rows[t] (Qa hV) (Qa hd);have hvl:=hrv.len;rw [List.length_map] at hvl;subst e1;have hlt:=hT.lt hi;have d0:¬vid0=N:=by omega
 have d1:¬vid0=N+1:=by omega
 have d2:¬vid0=N+1+1:=by omega
 have d3:¬vid0=N+1+1+1:=by omega
 simp [c_118,TableOp.ce2,h,ht,hV,hi,g2,hke,hvl,t0,t1,t2,t3,qaf,nne N,-lenOf];refine qfo c.rows[t].length (fun i e hp=>∃O' N',hp=⟨O',N'⟩/\Kp (Rs O) N O O'/\Tail O' N'/\N+4<=N'/\look (N+1) O'=some (.row 9 [TableOp.c o])/\look (N+1+1) O'=some (.row 9 [qhx ⟨0,0,0,noE,noCl⟩ none])/\look (N+1+1+1) O'=some (.row 9 [qhx o (qcw (c.rows[t].take i) o)])/\
  look 4 e=some (.ptr (N+1) 9 0 0)/\look 6 e=some (.ptr (N+1+1) 9 0 0)/\look 7 e=some (.ptr (N+1+1+1) 9 0 0)/\look 20 e=some V[t]/\look 21 e=some (.int .i64 c.rows[t].length)/\look 22 e=some (.int .i64 i)) _ ?_ ?_ 0 _ _ (Qc _) ?_
 ·rintro i e _ L hi hL ⟨O',N',rfl,hk,hT',hN',k1,k2,k3,h4,h6,h7,h20,h21,h22⟩ ih;have hw:=qah i (by omega);have hs:qcw (c.rows[t].take (i+1)) o=if c.rows[t][i].id=o.id then some c.rows[t][i] else qcw (c.rows[t].take i) o:=by
   rw [Qh hi,qo6]
  have h5:Mu O' 5 V[t] (c.rows[t].map Rw.c):=by
   refine hrv.fr fun j hj=>?_
   obtain ⟨es1,hl1⟩:=hrv.own hj;exact hk j (hT.lt hl1) (fun hc=>by have hc:look j O=some .res:=hc;rw [hl1] at hc;cases hc)
  obtain ⟨rid,es1,ev,hl1,hle1,ht1⟩:=h5.nonempty (by simp;omega);have g5:=qdd hi ht1;rw [ev,List.length_map] at h20;have hr2:rid<N:=by
   have:=hrv.own (j:=rid) (by rw [ev];rfl);obtain ⟨es2,hl2⟩:=this;exact hT.lt hl2
  have d1:¬rid=N+1:=by omega
  have d2:¬rid=N+1+1:=by omega
  have d3:¬rid=N+1+1+1:=by omega
  have u0:=hT' N' (Qb _);have f1:¬N'=N+1:=by omega
  have f2:¬N'=N+1+1:=by omega
  have f3:¬N'=N+1+1+1:=by omega
  simp only [TableOp.ce2] at k1;by_cases z:c.rows[t][i].id=o.id
  ·rw [if_pos z] at hs;rw [show qhx o (qcw (c.rows[t].take i) o)=qhx o (qcw (c.rows[t].take i) o) from rfl] at k3;cases hu:qcw (c.rows[t].take i) o<;>rw [hu] at k3<;>simp only [qhx] at k3<;>
   ·simp [c_118_l0,Rw.ce,h4,h7,h20,h21,h22,hi,hl1,g5,z,h,k1,k3,qac,u0,hw];refine ih _ _ ⟨_,_,rfl,Kp.sweep (Kp.setl (Kp.setl (Kp.setl hk (.inl (by omega))) (.inl (by omega))) (.inl (by omega))) fun j h=>h,qcx (qak (qak (qak (hT'.mono (by omega))))),by omega,?_,?_,?_,by simp [h4],by simp [h6],by simp [h7],by simp [h20,ev],by simp [h21],by simp⟩
    ·rw [qa0]<;>simp [qac,k1,TableOp.ce2,h]
    ·rw [qa0]<;>simp [qac,k2]
    ·rw [qa0]<;>simp [qac,k3,hs,qhx]
  ·rw [if_neg z] at hs;simp [c_118_l0,Rw.ce,h4,h20,h21,h22,hi,hl1,g5,z,h,k1,u0,hw];refine ih _ _ ⟨_,_,rfl,hk,hT'.mono (by omega),by omega,by simp [k1,TableOp.ce2,h],k2,by rw [hs];exact k3,by simp [h4],by simp [h6],by simp [h7],by simp [h20,ev],by simp [h21],by simp⟩
 ·rintro e _ L hL ⟨O',N',rfl,hk,hT',hN',k1,k2,k3,h4,h6,h7,h20,h21,h22⟩;rw [List.take_length,hr] at k3;simp only [qhx] at k2 k3;simp [c_118_l0,c_118_k1,h6,h7,h21,h22,hL,k2,k3,qac];rw [<- ht];exact ⟨_,_,_,rfl,⟨⟨_,_,_,rfl,.sl,.sl,.nil,fun _=>⟨rfl,rfl⟩,by simp⟩⟩,Kp.setl hk (.inl (by omega)),qak hT',by omega⟩
 ·refine ⟨_,_,rfl,Kp.apps ?_,hT.apps (by omega) ?_,by omega,?_,?_,?_,by simp,by simp,by simp,by simp,by simp,by simp⟩
  ·simp only [List.mem_cons,List.not_mem_nil,or_false];rintro x (rfl | rfl | rfl | rfl)<;>simp<;>omega
  ·simp only [List.mem_cons,List.not_mem_nil,or_false];rintro x (rfl | rfl | rfl | rfl)<;>simp<;>omega
  all_goals simp [t1,t2,t3,nne N,TableOp.ce2,qhx,qcw,h,ht]
theorem Fl.snp {z n:Nat} {v:AV} {es:List (List AV)} {H:AH} (h:Fl z v es) (hs:snap (n+1) H (.slice z es)=some (.slice z es)):snap (n+1) H v=some (.slice z es):=by
 rcases h with rfl | ⟨rfl,rfl⟩
 ·exact hs
 ·simp
theorem OpL.snp {o:TableOp} {w:List AV} (h:OpL o w) {n:Nat} {H:AH}:mapO (snap (n+1) H) w=some (TableOp.c o):=by
 obtain ⟨k,a,ca,rfl,h1,h2,h3,-,-⟩:=h.ex;have e1:=h1.snp (n:=n) (H:=H) (by simp);have e2:=h2.snp (n:=n) (H:=H) (by simp);have e3:=h3.snp (n:=n) (H:=H) (by simp);simp [TableOp.ce2,e1,e2,e3]
theorem OpL.bor {o:TableOp} {w:List AV} (h:OpL o w) {n:Nat}:anyL (bor (n+1)) w=false:=by
 obtain ⟨k,a,ca,rfl,h1,h2,h3,-,-⟩:=h.ex;rcases h1 with rfl | ⟨rfl,-⟩<;>rcases h2 with rfl | ⟨rfl,-⟩<;>rcases h3 with rfl | ⟨rfl,-⟩<;>simp
def OpsL (l:List TableOp) (W:List (List AV)):Prop:=l.length=W.length/\∀(i:Nat) (o:TableOp) (w:List AV),l[i]? =some o->W[i]? =some w->OpL o w
theorem OpsL.nil:OpsL [] []:=⟨rfl,by simp⟩
theorem OpsL.snoc {l:List TableOp} {W:List (List AV)} (h:OpsL l W) {o:TableOp} {w:List AV} (hw:OpL o w):OpsL (l++[o]) (W++[w]):=by
 refine ⟨by simp [h.1],fun i o' w' h1 h2=>?_⟩;by_cases hi:i<l.length
 ·rw [Ql hi] at h1;rw [Ql (by rw [<- h.1];exact hi)] at h2;exact h.2 i o' w' h1 h2
 ·rw [Qp (by omega)] at h1;rw [Qp (by have:=h.1;omega)] at h2;rw [h.1] at h1;cases hk:i - W.length with
  | zero=>rw [hk] at h1 h2;simp at h1 h2;subst h1;subst h2;exact hw
  | succ k=>rw [hk] at h1;simp at h1
theorem OpsL.snp {l:List TableOp} {W:List (List AV)} (h:OpsL l W) {n:Nat} {H:AH}:mapO (mapO (snap (n+1) H)) W=some (l.map TableOp.c):=by
 refine qls (by simp [h.1]) fun i w y hx hy=>?_
 rw [List.getElem?_map] at hy;cases ho:l[i]? with
 | none=>rw [ho] at hy;cases hy
 | some o=>rw [ho] at hy;cases hy;exact (h.2 i o w ho hx).snp
theorem qx3 (p:Prg) (c:Config) (l:List TableOp) {i:Nat} (hi:i<l.length):qch p c l (i+1)=qch p c l i++[undF (cfgN p c l i) l[i] (idN p c l i)]:=by
 unfold qch;rw [List.range_succ,List.map_append,List.map_singleton,Qa hi]
theorem qac9 {O:List (Nat×AO)} {N:Nat} (hT:Tail O N) {w1 w2 w3 w4:AV} {V:List AV} {p:Prg} {c:Config} (m:CfgM O w1 w2 w3 w4 V c) (v:CfgV p c) (s:CfgT c) {o:TableOp} (hx:xoE p c o=0) (id:Int):
  qlf N O (undF c o id) (qam Φ f_118 [.agg [w1,w2,w3,w4],.agg (TableOp.c o),.int .i64 id] ⟨O,N⟩):=by
 obtain ⟨hi,hk⟩:=qun hx;obtain ⟨k,hk1,hl⟩:=qdq hi;have hd:k<c.defaults.length:=by rw [v.dl];exact hl
 have hr:k<c.rows.length:=by rw [v.rl];exact hl
 have row:o.kind=2\/o.kind=3->∃r,qcw c.rows[k] o=some r/\etyF (qbt c o.table) o.id=r.entry:=fun hk=>by
  obtain ⟨_,hn⟩:=qaap hx hk;rw [qo5 o (v.at hl).inc];rw [hk1,qby hr] at hn;rw [hk1,qby hr];obtain ⟨r,hr1,hr2,hr3⟩:=qs0 hn;cases hf:c.rows[k].find? fun r=>decide (r.id=o.id) with
  | none=>exact absurd (List.find?_eq_none.1 hf r hr1) (by simpa using hr2)
  | some r'=>exact ⟨r',rfl,by unfold etyF;rw [hf]⟩
 rcases hk with z | z | z | z
 ·have:=qajl hT w1 w2 w3 w4 o id z;simpa [undF,z] using this
 ·obtain ⟨r,h1,h2⟩:=row (.inl z);have:=qajm hT m o id z hk1 hr (s.rs c.rows[k] (Qd hr)).1 h1;simpa [undF,z,h2] using this
 ·obtain ⟨r,h1,h2⟩:=row (.inr z);have:=qajn hT m o id z hk1 hr (s.rs c.rows[k] (Qd hr)).1 h1;simpa [undF,z,h2] using this
 ·have:=qajo hT m o id z hk1 hd;simpa [undF,z,qn7,hk1,qhi,Qa hd] using this
structure IvE (p:Prg) (c:Config) (l:List TableOp) (s:Nat) (e:Env):Prop where
 e3:look 3 e=some (.iptr 9 [Prg.c p] 0 0)
 e4:look 4 e=some (.iptr 4 [Config.c c] 0 0)
 e8:look 8 e=some (.iptr 4 [Config.c (cfgN p c l l.length)] 0 0)
 e12:look 12 e=some (.ptr s 15 0 0)
structure IvI (p:Prg) (c:Config) (l:List TableOp) (S:SV) (T B:Nat) (i:Nat) (e:Env) (O:List (Nat×AO)) (N:Nat):Prop where
 v:IvE p c l S.s e
 tl:Tail O N
 hB:B<=N
 hTB:T<B
 nT:¬S.own T
 st:∃S',StoreM O S' p (cfgN p c l i)/\S'.s=S.s/\∀j,S'.own j->S.own j\/B<=j
 tk:look T O=some (.tok 9 i)
 e13:look 13 e=some (.app 9 ((qch p c l i).map TableOp.c) T)
 e9:look 9 e=some (.slice 1 (idsA p c l))
 e49:look 49 e=some (.slice 9 (l.map TableOp.c))
 e50:look 50 e=some (.int .i64 l.length)
 e51:look 51 e=some (.int .i64 i)
theorem iv0 (p:Prg) (f:PrgS p) (hp:p.tables.length<2^40) {c:Config} (v:CfgV p c) (s:CfgT c) (l:List TableOp) (hl64:l.length<=64) (hl:∀o∈l,OpS o) (hb:badF p c l 0=none) {S:SV} {T B:Nat} {R:Option Rt}
  (hk:∀e O N,IvI p c l S T B l.length e O N->go Φ (finP [.tmp 6,.tmp 7]) [.c c_52_k3] .normal ⟨e,⟨O,N⟩⟩=R):
  ∀e O N,IvI p c l S T B 0 e O N->go Φ (finP [.tmp 6,.tmp 7]) [.c (.loop c_52_l0),.b 0,.c c_52_k3] .normal ⟨e,⟨O,N⟩⟩=R:=by
 intro e O N I0;refine qcz l.length (fun i e h=>∃O N,h=⟨O,N⟩/\IvI p c l S T B i e O N) (fun _=>R) ?_ ?_ 0 e _ (Qc _) ⟨O,N,rfl,I0⟩
 ·rintro i e _ L hi hL ⟨O,N,rfl,I⟩ ih;obtain ⟨S1,m1,es,ho⟩:=I.st;obtain ⟨vi,si⟩:=qdw v s hp l hl i;have hx:=qhk hb i hi;have hU:(qch p c l i).length=i:=by simp [qch]
  have hw:=qah i (by omega);have hid:(idsA p c l)[i]? =some [.int .i64 (idN p c l i)]:=by simp [idsA,hi,cI]
  have hil:(idsA p c l).length=l.length:=by simp [idsA]
  have hid2:(idsA p c l)[i]'(by rw [hil];exact hi)=[.int .i64 (idN p c l i)]:=by rw [Qa (by rw [hil];exact hi)] at hid;exact Option.some.inj hid
  have t0:=I.tl N (Qb _);have hM:=I.hB;have hTB:=I.hTB;have hT1:Tail (O++[(N+1+66,AO.res)]) (N+1+66+1):=I.tl.apps (by omega) (by simp);have hk1:Kp (fun _=>False) N O (O++[(N+1+66,AO.res)]):=Kp.apps (by simp;omega);have m1':StoreM (O++[(N+1+66,AO.res)]) S1 p (cfgN p c l i):=m1.kp I.tl hk1 (by simp);obtain ⟨w1,w2,w3,w4,V,O2,N2,e2,n2,f2,hk2,hT2,hN2⟩:=qqh (vi.u si) hT1 m1';obtain ⟨w,O3,N3,e3,hO,hk3,hT3,hN3⟩:=qac9 (p:=p) hT2 n2 vi si hx (idN p c l i);have q2:=hk1.lk I.tl I.tk (by simp);have q3:=hk2.lk hT1 q2 (by simp);have q4:=hk3.lk hT2 q3 (by intro h;have h:look T O2=some .res:=h;rw [q3] at h;cases h);have h120:(i+1)*120<=70368744177664:=by omega
  have tT:¬N+1+66=T:=by omega
  have tT':¬T=N+1+66:=by omega
  rw [es] at e2;simp only [TableOp.ce2] at e3;have hb4:=hO.bor (n:=39);have hs4:=hO.snp (n:=39) (H:=⟨O3,N3⟩);obtain ⟨k,a,ca,hw9,-⟩:=hO.ex;have wl:w.length=9:=by rw [hw9];rfl
  have base:∀j,j<N->look j O≠some .res->look j O3=look j O:=fun j hj hn=>by
   have a1:=hk1 j hj (by simp);have a2:=hk2 j (by omega) (by simp);have a3:=hk3 j (by omega) (fun h=>hn (by rw [<- a1,<- a2];exact h));rw [a3,a2,a1]
  have tk4:look T (qa1 (setl T (.tok 9 (i+1)) O3))=some (.tok 9 (i+1)):=by
   have:look T (setl T (.tok 9 (i+1)) O3)=some (.tok 9 (i+1)):=by simp [qac,q4]
   rw [qa0 (by rw [this];simp),this]
  have nT1:∀j,S1.own j->j≠T:=fun j hj h=>by
   subst h;rcases ho j hj with h | h
   ·exact I.nT h
   ·omega
  have m4:StoreM (qa1 (setl T (.tok 9 (i+1)) O3)) S1 p (cfgN p c l i):=m1.fr fun j hj=>by
   obtain ⟨x,hx1,hx2⟩:=m1.own_lk hj;have hj':=I.tl.lt hx1;have h3:=base j hj' (by rw [hx1];exact fun h=>hx2 (Option.some.inj h));have hs:look j (setl T (.tok 9 (i+1)) O3)=look j O:=by rw [qac,if_neg (nT1 j hj),h3]
   rw [qa0 (by rw [hs,hx1];exact fun h=>hx2 (Option.some.inj h)),hs]
  have hT4:Tail (qa1 (setl T (.tok 9 (i+1)) O3)) N3:=qcx (qak hT3);obtain ⟨S2,O5,N5,e5,x1,x2,x3,x4,x5,x6⟩:=qkg m4 f vi si hT4 l[i] (hl _ (Qd hi));rw [es] at e5 x2;have hcs:cfgN p c l (i+1)=xoC p (cfgN p c l i) l[i]:=qf3 p c l hi;have tk5:look T O5=some (.tok 9 (i+1)):=by
   rw [x4 T (by omega),tk4];rintro (h | h)
   ·exact nT1 T h rfl
   ·have h:look T (qa1 (setl T (.tok 9 (i+1)) O3))=some .res:=h;rw [tk4] at h;cases h
  simp only [TableOp.ce2] at e5;simp [c_52_l0,TableOp.ce2,I.v.e12,I.e49,I.e50,I.e51,hi,hL,t0,I.e9,I.e13,e2,hid,hil,hid2,e3,q4,hU,h120,qaf,qac,wl,hb4,hs4,e5,hw];refine ih _ _ ⟨_,_,rfl,⟨⟨by simp [I.v.e3],by simp [I.v.e4],by simp [I.v.e8],by simp [I.v.e12]⟩,x5,by omega,hTB,I.nT,⟨S2,by rw [hcs];exact x1,x2,fun j hj=>?_⟩,tk5,?_,by simp [I.e9],by simp [I.e49,TableOp.ce2],by simp [I.e50],by simp⟩⟩
  ·rcases x3 j hj with h | h
   ·exact ho j h
   ·exact .inr (by omega)
  ·simp [qx3 p c l hi,TableOp.ce2]
 ·rintro e _ L hL ⟨O,N,rfl,I⟩;simp [c_52_l0,I.e50,I.e51,hL];exact hk _ _ _ ⟨⟨by simp [I.v.e3],by simp [I.v.e4],by simp [I.v.e8],by simp [I.v.e12]⟩,I.tl,I.hB,I.hTB,I.nT,I.st,I.tk,by simp [I.e13],by simp [I.e9],by simp [I.e49],by simp [I.e50],by simp [I.e51]⟩
def rC (M:List Ren):List (AV×AV):=M.map fun r=>(.agg [.int .i64 r.t,.int .i64 r.old],.int .i64 r.new)
theorem qvw (t id:Int):∀M:List Ren,qbx .p (.agg [.int .i64 t,.int .i64 id]) (rC M)=some ((getM M t id).map fun x=> .int .i64 x)
 | []=>by simp [rC,qbx,getM,kdOk]
 | r::M=>by
  have ih:=qvw t id M;unfold rC at ih ⊢;simp only [List.map_cons,qbx,eqKd,and_self,if_true,getM];by_cases h:r.t=t/\r.old=id
  ·rw [if_pos h];have e:(t == r.t&&id == r.old)=true:=by simp [h.1,h.2]
   rw [e];rfl
  ·rw [if_neg h];have e:(t == r.t&&id == r.old)=false:=by
    simp only [Bool.and_eq_false_iff,beq_eq_false_iff_ne];by_cases h1:r.t=t
    ·exact .inr fun h2=>h ⟨h1,h2.symm⟩
    ·exact .inl fun h2=>h1 h2.symm
   rw [e];exact ih
theorem qzt (t id n:Int):∀M:List Ren,putA .p (.agg [.int .i64 t,.int .i64 id]) (.int .i64 n) (rC M)=some (rC (putM M t id n))
 | []=>by simp [rC,putA,putM]
 | r::M=>by
  have ih:=qzt t id n M;unfold rC at ih ⊢;simp only [List.map_cons,putA,eqKd,and_self,if_true,putM];by_cases h:r.t=t/\r.old=id
  ·rw [if_pos h];have e:(t == r.t&&id == r.old)=true:=by simp [h.1,h.2]
   rw [e];simp
  ·rw [if_neg h];have e:(t == r.t&&id == r.old)=false:=by
    simp only [Bool.and_eq_false_iff,beq_eq_false_iff_ne];by_cases h1:r.t=t
    ·exact .inr fun h2=>h ⟨h1,h2.symm⟩
    ·exact .inl fun h2=>h1 h2.symm
   rw [e];simp only [ih,Option.map_some,List.map_cons]
structure IwI (p:Prg) (c:Config) (l:List TableOp) (S:SV) (Mp T:Nat) (T0 B:Nat) (Z:List TableOp) (i:Nat) (e:Env) (O:List (Nat×AO)) (N:Nat):Prop where
 v:IvE p c l S.s e
 tl:Tail O N
 hB:B<=N
 hMB:Mp<B
 hTB:T<B
 hMT:Mp≠T
 nM:¬S.own Mp
 nT:¬S.own T
 st:∃S' d M out,StoreM O S' p d/\S'.s=S.s/\(∀j,S'.own j->S.own j\/B<=j)/\CfgV p d/\CfgT d/\look Mp O=some (.map (rC M))/\out.length=i/\look 17 e=some (.app 9 (out.map TableOp.c) T)/\out++bkP p M d (Z.reverse.drop i)=bkP p [] (cfgN p c l l.length) Z.reverse
 tk:look T O=some (.tok 9 i)
 e13:look 13 e=some (.app 9 (Z.map TableOp.c) T0)
 e16:look 16 e=some (.map Mp)
 e18:look 18 e=some (.int .i64 ((Z.length:Int) - 1 - i))
theorem iv1 (p:Prg) (f:PrgS p) (hp:p.tables.length<2^40) {c:Config} (l Z:List TableOp) (hl64:Z.length<=64) (hU:∀u∈Z,UndS u) {S:SV} {Mp T T0 B:Nat} {R:Option Rt}
  (hk:∀e T,IvE p c l S.s e->look 17 e=some (.app 9 ((bkP p [] (cfgN p c l l.length) Z.reverse).map TableOp.c) T)->∀O N,Tail O N->go Φ (finP [.tmp 6,.tmp 7]) [.c c_52_k2] .normal ⟨e,⟨O,N⟩⟩=R):
  ∀e O N,IwI p c l S Mp T T0 B Z 0 e O N->go Φ (finP [.tmp 6,.tmp 7]) [.c (.loop c_52_l1),.b 2,.c c_52_k2] .normal ⟨e,⟨O,N⟩⟩=R:=by
 intro e O N I0;refine qcz Z.length (fun i e h=>∃O N,h=⟨O,N⟩/\IwI p c l S Mp T T0 B Z i e O N) (fun _=>R) ?_ ?_ 0 e _ (Qc _) ⟨O,N,rfl,I0⟩
 ·rintro i e _ L hi hL ⟨O,N,rfl,I⟩ ih;obtain ⟨S1,d,M,out,m1,es,ho,vd,sd,hM,hol,e17,hbk⟩:=I.st;obtain ⟨k,hk⟩:∃k,Z.length=i+1+k:=⟨Z.length - (i+1),by omega⟩;have hkl:k<Z.length:=by omega
  have e1:(Z.length:Int) - 1 - i=(k:Int):=by omega
  have hw:IntKind.wrap .i64 ((k:Int) - 1)=(Z.length:Int) - 1 - ((i+1:Nat):Int):=by rw [qay (by omega) (by omega)];omega
  have e18:=I.e18;rw [e1] at e18;have hUk:Z.reverse.drop i=Z[k]::Z.reverse.drop (i+1):=by
   rw [Qi (by simpa using hi),List.getElem_reverse];congr 2;omega
  have hus:=hU Z[k] (Qd hkl);rw [hUk] at hbk;have hzk:Z[k]? =some Z[k]:=Qa hkl;generalize hu:Z[k]=u at*;have t0:=I.tl N (Qb _);have t1:=I.tl (N+1) (by omega);have hB:=I.hB;have hMB:=I.hMB;have hTB:=I.hTB;have hMT:=I.hMT;have hou:OpS (bk1 M u):=⟨hus.op.e,hus.op.c⟩;have hk1:Kp (fun _=>False) N O (O++[(N,.row 9 [TableOp.c (bk1 M u)])]):=Kp.app Kp.refl (Qb _);have hT1:Tail (O++[(N,.row 9 [TableOp.c (bk1 M u)])]) (N+1+1):=I.tl.apps (by omega) (by simp only [List.mem_singleton];rintro x rfl;simp only;omega);obtain ⟨S2,O2,N2,e2,x1,x2,x3,x4,x5,x6⟩:=qkg (m1.kp I.tl hk1 (by simp)) f vd sd hT1 (bk1 M u) hou;rw [es] at e2 x2;have ho2:∀j,S2.own j->S.own j\/B<=j:=fun j hj=>by
   rcases x3 j hj with h | h
   ·exact ho j h
   ·exact .inr (by omega)
  have nN:¬S1.own N:=fun h=>by
   obtain ⟨x,hx,_⟩:=m1.own_lk h;rw [t0] at hx;cases hx
  have own1:∀j,j<B->¬S.own j->¬S1.own j:=fun j hj hn h=>by
   rcases ho j h with h | h
   ·exact hn h
   ·omega
  have own2:∀j,j<B->¬S.own j->¬S2.own j:=fun j hj hn h=>by
   rcases ho2 j h with h | h
   ·exact hn h
   ·omega
  have kp:∀j x,look j (O++[(N,.row 9 [TableOp.c (bk1 M u)])])=some x->x≠ .res->¬S1.own j->j<N+1+1->look j O2=some x:=fun j x hx hr hn hj=>by
   rw [x4 j hj,hx];rintro (h | h)
   ·exact hn h
   ·have h:look j (O++[(N,.row 9 [TableOp.c (bk1 M u)])])=some .res:=h;rw [hx] at h;exact hr (Option.some.inj h)
  have a1:=kp N (.row 9 [TableOp.c (bk1 M u)]) (by simp [qaf,t0]) (by simp) nN (by omega);have a2:=kp Mp (.map (rC M)) (by rw [qaf,hM];rfl) (by simp) (own1 _ hMB I.nM) (by omega);have a3:=kp T (.tok 9 i) (by rw [qaf,I.tk];rfl) (by simp) (own1 _ hTB I.nT) (by omega);have h120:(i+1)*120<=70368744177664:=by omega
  have fM:¬Mp=N:=by omega
  have fM':¬N=Mp:=by omega
  have fT:¬T=N:=by omega
  have fT':¬N=T:=by omega
  have fT2:¬T=Mp:=fun h=>hMT h.symm
  have lM:∀x,look Mp (O++[(N,x)])=some (.map (rC M)):=fun x=>by rw [qaf,hM];rfl
  have fnd:=qvw u.table u.id M;have put:=qzt u.table u.id (xoI p d (bk1 M u)) M;have fin:∀e' O' N',(∀j,look j O'=look j (setl T (.tok 9 (i+1)) (if u.kind=1 then setl Mp (.map (rC (bkM p M d u))) O2 else O2)))->N2<=N'->IvE p c l S.s e'->look 13 e'=some (.app 9 (Z.map TableOp.c) T0)->look 16 e'=some (.map Mp)->look 18 e'=some (.int .i64 ((Z.length:Int) - 1 - ((i+1:Nat):Int)))->look 17 e'=some (.app 9 (out.map TableOp.c++[TableOp.c (bk1 M u)]) T)->
    IwI p c l S Mp T T0 B Z (i+1) e' O' N':=fun e' O' N' hO hN hv h13 h16 h18 h17=>by
   refine ⟨hv,fun j hj=>?_,by omega,hMB,hTB,hMT,I.nM,I.nT,⟨S2,xoC p d (bk1 M u),bkM p M d u,out++[bk1 M u],?_,x2,ho2,qpc vd _,qx5 vd sd hp _ hou,?_,by simp [hol],by rw [h17];simp,?_⟩,?_,h13,h16,h18⟩
   ·rw [hO];have:=x5 j (by omega);have j1:¬j=T:=by omega
    have j2:¬j=Mp:=by omega
    split<;>simp [qac,this,j1,j2]
   ·refine x1.fr fun j hj=>?_
    have j1:¬j=T:=fun h=>own2 T hTB I.nT (h ▸ hj)
    have j2:¬j=Mp:=fun h=>own2 Mp hMB I.nM (h ▸ hj)
    rw [hO];split<;>simp [qac,j1,j2]
   ·rw [hO];by_cases z:u.kind=1
    ·simp [z,qac,hMT,a2]
    ·simp [z,qac,hMT,a2,bkM]
   ·rw [<- hbk];simp [bkP]
   ·rw [hO];split<;>simp [qac,fT2,a3]
  cases hg:getM M u.table u.id with
  | none=>
   rw [hg] at fnd;by_cases z:u.kind=1
   ·simp only [bk1,z,if_true,TableOp.ce2] at e2 a1 put;simp [c_52_l1,TableOp.ce2,I.v.e12,I.e13,I.e16,e17,e18,hkl,hu,hL,t0,t1,qaf,qac,hM,fnd,fM,fM',fT,fT',fT2,hMT,z,hg,e2,a1,a2,a3,put,kdOk,hol,h120,hw];refine ih _ _ ⟨_,_,rfl,fin _ _ _ (fun j=>by simp [z,bkM,bk1,hg]) (Qb _) ⟨by simp [I.v.e3],by simp [I.v.e4],by simp [I.v.e8],by simp [I.v.e12]⟩ (by simp [I.e13]) (by simp [I.e16]) (by simp) (by simp [bk1,z,hg,TableOp.ce2])⟩
   ·simp only [bk1,z,if_false,hg,TableOp.ce2,Option.getD_none] at e2 a1;simp [c_52_l1,TableOp.ce2,I.v.e12,I.e13,I.e16,e17,e18,hkl,hu,hL,t0,t1,qaf,qac,hM,fnd,fM,fM',fT,fT',fT2,hMT,z,hg,e2,a1,a2,a3,put,kdOk,hol,h120,hw];refine ih _ _ ⟨_,_,rfl,fin _ _ _ (fun j=>by simp [z,bkM,bk1,hg]) (Qb _) ⟨by simp [I.v.e3],by simp [I.v.e4],by simp [I.v.e8],by simp [I.v.e12]⟩ (by simp [I.e13]) (by simp [I.e16]) (by simp) (by simp [bk1,z,hg,TableOp.ce2])⟩
  | some x=>
   rw [hg] at fnd;by_cases z:u.kind=1
   ·simp only [bk1,z,if_true,TableOp.ce2] at e2 a1 put;simp [c_52_l1,TableOp.ce2,I.v.e12,I.e13,I.e16,e17,e18,hkl,hu,hL,t0,t1,qaf,qac,hM,fnd,fM,fM',fT,fT',fT2,hMT,z,hg,e2,a1,a2,a3,put,kdOk,hol,h120,hw];refine ih _ _ ⟨_,_,rfl,fin _ _ _ (fun j=>by simp [z,bkM,bk1,hg]) (Qb _) ⟨by simp [I.v.e3],by simp [I.v.e4],by simp [I.v.e8],by simp [I.v.e12]⟩ (by simp [I.e13]) (by simp [I.e16]) (by simp) (by simp [bk1,z,hg,TableOp.ce2])⟩
   ·simp only [bk1,z,if_false,hg,TableOp.ce2,Option.getD_some] at e2 a1;simp [c_52_l1,TableOp.ce2,I.v.e12,I.e13,I.e16,e17,e18,hkl,hu,hL,t0,t1,qaf,qac,hM,fnd,fM,fM',fT,fT',fT2,hMT,z,hg,e2,a1,a2,a3,put,kdOk,hol,h120,hw];refine ih _ _ ⟨_,_,rfl,fin _ _ _ (fun j=>by simp [z,bkM,bk1,hg]) (Qb _) ⟨by simp [I.v.e3],by simp [I.v.e4],by simp [I.v.e8],by simp [I.v.e12]⟩ (by simp [I.e13]) (by simp [I.e16]) (by simp) (by simp [bk1,z,hg,TableOp.ce2])⟩
 ·rintro e _ L hL ⟨O,N,rfl,I⟩;obtain ⟨S1,d,M,out,m1,es,ho,vd,sd,hM,hol,e17,hbk⟩:=I.st;have e1:(Z.length:Int) - 1 - Z.length= -1:=by omega
  have e18:=I.e18;rw [e1] at e18;have hd:Z.reverse.drop Z.length=[]:=List.drop_eq_nil_of_le (by simp);rw [hd,bkP,List.append_nil] at hbk;rw [hbk] at e17;simp [c_52_l1,e18,hL];exact hk _ T ⟨by simp [I.v.e3],by simp [I.v.e4],by simp [I.v.e8],by simp [I.v.e12]⟩ (by simp [e17]) _ _ I.tl
theorem qpk (p:Prg):∀(V:List TableOp) (M:List Ren) (d:Config),(∀u∈V,UndS u)->∀o∈bkP p M d V,OpS o
 | [],_,_,_,o,h=>by simp [bkP] at h
 | u::V,M,d,hV,o,h=>by
  rw [bkP] at h;rcases List.mem_cons.1 h with rfl | h
  ·have:=(hV u (by simp)).op;exact ⟨this.e,this.c⟩
  ·exact qpk p V _ _ (fun w hw=>hV w (by simp [hw])) o h
theorem iv2 (p:Prg) (op:p.Ok qa9) (hc:(pre p.control).length<2^40 - 1) (hp:p.tables.length<2^40) {c:Config} (l out:List TableOp) (s':CfgT (cfgN p c l l.length)) (ho:∀o∈out,OpS o) {st T N:Nat} {O:List (Nat×AO)} (hT:Tail O N) {e:Env} (v:IvE p c l st e) (h17:look 17 e=some (.app 9 (out.map TableOp.c) T)):
  go Φ (finP [.tmp 6,.tmp 7]) [.c c_52_k2] .normal ⟨e,⟨O,N⟩⟩=some (.val (invT p c l out)):=by
 have t0:=hT N (Qb _);have ka:=qsf p op hc hp s' out ho;obtain ⟨q0,q1,q2,q3,hC,hq,hq2⟩:=cfg4 c;obtain ⟨r0,r1,r2,r3,hD,hr,hr2⟩:=cfg4 (cfgN p c l l.length);have e3:=v.e3;have e4:=v.e4;have e8:=v.e8;rw [hC] at e4;rw [hD] at e8 ka;simp only [Prg.e] at e3 ka;unfold invT;cases hb:badA p (cfgN p c l l.length) out with
 | some x=>
  obtain ⟨k,x⟩:=x;have hx:=qif hb;rw [show appA p (cfgN p c l l.length) out= .tup [.agg noC,.slice 1 [],.int .i64 k,.int .i64 x] by simp only [appA,hb]] at ka;simp only [noC] at ka;simp [c_52_k2,t0,qaf,qac,e3,e4,e8,h17,ka,hq,hq2,hr,hr2,hx]
 | none=>
  rw [show appA p (cfgN p c l l.length) out= .tup [.agg (Config.c (cfgN p (cfgN p c l l.length) out out.length)),.slice 1 (idsA p (cfgN p c l l.length) out),.int .i64 0,.int .i64 0] by simp only [appA,hb];rfl] at ka;obtain ⟨v2,h64,hb2⟩:=qe0 hb;obtain ⟨v3,s3⟩:=qdw v2 s' hp out ho out.length;have kq:=qrk (cfgN p (cfgN p c l l.length) out out.length) c (qvn s3);generalize idsA p (cfgN p c l l.length) out=il at ka;obtain ⟨s0,s1,s2,s3',hE,hs,hs2⟩:=cfg4 (cfgN p (cfgN p c l l.length) out out.length);rw [hE] at ka kq;rw [hC] at kq;cases hz:qfv (cfgN p (cfgN p c l l.length) out out.length) c with
  | false=>
   rw [hz] at kq;simp [c_52_k2,t0,qaf,qac,e3,e4,e8,h17,ka,kq,hq,hq2,hr,hr2,hs,hs2]
  | true=>
   rw [hz] at kq;simp [c_52_k2,t0,qaf,qac,e3,e4,e8,h17,ka,kq,hq,hq2,hr,hr2,hs,hs2]
theorem qw7 (p:Prg) (op:p.Ok qa9) (hc:(pre p.control).length<2^40 - 1) (hp:p.tables.length<2^40) {c:Config} (s:CfgT c) (l:List TableOp) (hl:∀o∈l,OpS o):
  qab Φ f_52 [.agg (Prg.c p),.agg (Config.c c),.slice 9 (l.map TableOp.c)]=some (.val (invA p c l (invP p c l))):=by
 rw [qaa (fn:=c_52) rfl rfl];have ka:=qsf p op hc hp s l hl;obtain ⟨q0,q1,q2,q3,hC,hq,hq2⟩:=cfg4 c;unfold invA;cases hA:badA p c l with
 | some x=>
  obtain ⟨k,x⟩:=x;have hx:=qif hA;rw [show appA p c l= .tup [.agg noC,.slice 1 [],.int .i64 k,.int .i64 x] by simp only [appA,hA]] at ka;rw [hC] at ka ⊢;simp only [noC,Prg.e] at ka;simp [c_52,Prg.e,ka,hq,hq2,hx]
 | none=>
  obtain ⟨v,h64,hb⟩:=qe0 hA;have f:=qie op;obtain ⟨v',s'⟩:=qdw v s hp l hl l.length;rw [show appA p c l= .tup [.agg (Config.c (cfgN p c l l.length)),.slice 1 (idsA p c l),.int .i64 0,.int .i64 0] by simp only [appA,hA];rfl] at ka;obtain ⟨r0,r1,r2,r3,hD,hr,hr2⟩:=cfg4 (cfgN p c l l.length);have hLd:∀N,qse N [] p c (qam Φ f_18 [.agg (Prg.c p),.agg (Config.c c)] ⟨[],N⟩):=fun N=>qvo p op hc c s (fun _ _=>rfl)
  obtain hz | ⟨z,S,O1,N1,e,m1,w1,hk1,hT1,hN1⟩:=hLd 1
  ·exact absurd ((qe2 p c).2 v) hz.1
  rw [hC] at ka e ⊢;rw [hD] at ka;simp only [Prg.e] at ka e;have t1:=hT1 N1 (Qb _);have hT2:Tail (O1++[(N1,AO.tok 9 0)]) (N1+1):=hT1.app1 (Qb _);have own:∀j,S.own j->j<N1:=fun j hj=>by
   obtain ⟨x,hx,_⟩:=m1.own_lk hj;exact hT1.lt hx
  have m2:StoreM (O1++[(N1,AO.tok 9 0)]) S p c:=m1.kp (X:=fun _=>False) hT1 (Kp.app Kp.refl (Qb _)) (by simp);simp [c_52,Prg.e,ka,e,hq,hq2,hr,hr2,t1];refine iv0 p f hp v s l h64 hl hb (S:=S) (T:=N1) (B:=N1+1) ?_ _ _ _ ⟨⟨by simp [Prg.e],by simp [hC],by simp [hD],by simp⟩,hT2,Qb _,by omega,fun h=>by have:=own _ h;omega,⟨S,by rw [qe3];exact m2,rfl,fun j hj=> .inl hj⟩,by simp [qaf,t1],by simp [qch],by simp,by simp,by simp,by simp⟩;intro e O N I;obtain ⟨S2,m3,es,ho⟩:=I.st;have u0:=I.tl N (Qb _);have u1:=I.tl (N+1) (by omega);have hB:=I.hB;have own2:∀j,S2.own j->j<N:=fun j hj=>by
   obtain ⟨x,hx,_⟩:=m3.own_lk hj;exact I.tl.lt hx
  have hUl:(qch p c l l.length).length=l.length:=by simp [qch]
  have hw:IntKind.wrap .i64 ((l.length:Int) - 1)=(l.length:Int) - 1:=qay (by omega) (by omega);have hTa:Tail (O++[(N,AO.map []),(N+1,AO.tok 9 0)]) (N+1+1):=I.tl.apps (by omega) (by simp only [List.mem_cons,List.not_mem_nil,or_false];rintro x (rfl | rfl)<;>simp only<;>omega);have m4:StoreM (O++[(N,AO.map []),(N+1,AO.tok 9 0)]) S2 p (cfgN p c l l.length):=m3.kp (X:=fun _=>False) I.tl (Kp.apps (by simp only [List.mem_cons,List.not_mem_nil,or_false];rintro x (rfl | rfl)<;>simp only<;>omega)) (by simp);simp [c_52_k3,I.e13,u0,u1,qaf,hUl,hw];have vS:IvE p c l S2.s e:=by rw [es];exact I.v
  refine iv1 p f hp (c:=c) l (qch p c l l.length) (by omega) (qj6 v s hp hl hb) (S:=S2) (Mp:=N) (T:=N+1) (T0:=N1) (B:=N+1+1) ?_ _ _ _ ⟨⟨by simp [vS.e3],by simp [vS.e4],by simp [vS.e8],by simp [vS.e12]⟩,hTa,Qb _,by omega,by omega,by omega,fun h=>by have:=own2 _ h;omega,fun h=>by have:=own2 _ h;omega,⟨S2,cfgN p c l l.length,[],[],m4,rfl,fun j hj=> .inl hj,v',s',?_,rfl,by simp,by simp⟩,?_,by simp [I.e13],by simp,by simp [hUl]⟩
  ·intro e T v9 h17 O N hT;exact iv2 p op hc hp l (invP p c l) s' (qpk p _ _ _ fun u hu=>qj6 v s hp hl hb u (by simpa using hu)) hT v9 h17
  ·simp [qaf,u0,rC]
  ·simp [qaf,u1]
structure RvE (p:Prg) (c:Config) (l:List TableOp) (ml il:List (List AV)) (X:Nat) (i:Nat) (e:Env):Prop where
 e2:look 2 e=some (.slice 9 (l.map TableOp.c))
 e3:look 3 e=some (.iptr 9 [Prg.c p] 0 0)
 e4:look 4 e=some (.iptr 4 [Config.c c] 0 0)
 e8:look 8 e=some (.iptr 2 [[.slice 4 ml,.slice 1 il]] 0 0)
 e11:look 11 e=some (.iptr 4 [Config.c (cfgN p c l l.length)] 0 0)
 e12:look 12 e=some (.row X 1 0 p.tables.length)
 e15:look 15 e=some (.int .i64 ((l.length:Int) - 1 - i))
structure RvI (p:Prg) (c:Config) (l:List TableOp) (ml il:List (List AV)) (X T3 T9:Nat) (i:Nat) (e:Env) (O:List (Nat×AO)) (N:Nat):Prop where
 v:RvE p c l ml il X i e
 tl:Tail O N
 x3:X≠T3
 x9:X≠T9
 t39:T3≠T9
 st:∃(R:List Ren) (Nx:List Int) (out:List TableOp),look X O=some (.row 1 (Nx.map cI))/\Nx.length=p.tables.length/\(∀x∈Nx,0<=x/\x<=1073741824+i)/\look T3 O=some (.tok 3 R.length)/\R.length<=i/\look T9 O=some (.tok 9 i)/\out.length=i/\
  look 13 e=some (.app 3 (R.map Ren.c) T3)/\look 14 e=some (.app 9 (out.map TableOp.c) T9)/\out++bkR R Nx ((qch p c l l.length).reverse.drop i)=invR p c l
theorem rv0 (p:Prg) (hp:p.tables.length<2^40) {c:Config} (v:CfgV p c) (s:CfgT c) (l:List TableOp) (hl64:l.length<=64) (hl:∀o∈l,OpS o) (hb:badF p c l 0=none) {ml il:List (List AV)} {X T3 T9:Nat} {Q:Option Rt}
  (hml:ml.length=l.length+1) (hmj:∀j,j<l.length->ml[j]? =some (Config.c (cfgN p c l j))) (hil:il.length=l.length) (hij:∀j,j<l.length->il[j]? =some [.int .i64 (idN p c l j)])
  (hk:∀e T,RvE p c l ml il X l.length e->look 14 e=some (.app 9 ((invR p c l).map TableOp.c) T)->∀O N,Tail O N->go Φ (finP [.tmp 6,.tmp 7]) [.c c_53_k1] .normal ⟨e,⟨O,N⟩⟩=Q):
  ∀e O N,RvI p c l ml il X T3 T9 0 e O N->go Φ (finP [.tmp 6,.tmp 7]) [.c (.loop c_53_l0),.b 0,.c c_53_k1] .normal ⟨e,⟨O,N⟩⟩=Q:=by
 intro e O N I0;refine qcz l.length (fun i e h=>∃O N,h=⟨O,N⟩/\RvI p c l ml il X T3 T9 i e O N) (fun _=>Q) ?_ ?_ 0 e _ (Qc _) ⟨O,N,rfl,I0⟩
 ·rintro i e _ L hi hL ⟨O,N,rfl,I⟩ ih;obtain ⟨R,Nx,out,hX,hNl,hNx,h3,hRi,h9,hol,e13,e14,hbk⟩:=I.st;obtain ⟨j,hj⟩:∃j,l.length=i+1+j:=⟨l.length - (i+1),by omega⟩;have hjl:j<l.length:=by omega
  have e1:(l.length:Int) - 1 - i=(j:Int):=by omega
  have hw:IntKind.wrap .i64 ((j:Int) - 1)=(l.length:Int) - 1 - ((i+1:Nat):Int):=by rw [qay (by omega) (by omega)];omega
  have e15:=I.v.e15;rw [e1] at e15;obtain ⟨vj,sj⟩:=qdw v s hp l hl j;have hx:=qhk hb j hjl;have hud:(qch p c l l.length).reverse.drop i=undF (cfgN p c l j) l[j] (idN p c l j)::(qch p c l l.length).reverse.drop (i+1):=by
   have hlen:(qch p c l l.length).length=l.length:=by simp [qch]
   rw [Qi (by simp [hlen];exact hi),List.getElem_reverse];congr 1;simp only [qch,List.getElem_map,List.getElem_range,List.length_map,List.length_range];have:l.length - 1 - i=j:=by omega
   rw [this,Qa hjl]
  rw [hud,bkR] at hbk;have hm1:=hmj j hjl;have hmjl:j<ml.length:=by omega
  have hm2:ml[j]=Config.c (cfgN p c l j):=by rw [Qa hmjl] at hm1;exact Option.some.inj hm1
  have hi1:=hij j hjl;have hijl:j<il.length:=by omega
  have hi2:il[j]=[.int .i64 (idN p c l j)]:=by rw [Qa hijl] at hi1;exact Option.some.inj hi1
  obtain ⟨hit,hkd⟩:=qun hx;obtain ⟨k,hk1,hkt⟩:=qdq hit;generalize hcj:cfgN p c l j=cj at*;generalize hid:idN p c l j=idj at*;have hd:k<cj.defaults.length:=by rw [vj.dl];exact hkt
  have hr:k<cj.rows.length:=by rw [vj.rl];exact hkt
  have t0:=I.tl N (Qb _);have t1:=I.tl (N+1) (by omega);have cur:=fun id=>qvd R (by omega) (k:Int) id
  have ety:=qvf sj hr l[j].id;generalize hoj:l[j]=oj at*;have h120:(i+1)*120<=70368744177664:=by omega
  have h24:(R.length+1)*24<=70368744177664:=by omega
  have fX:¬X=N:=fun h=>by subst h;rw [t0] at hX;cases hX
  have f3:¬T3=N:=fun h=>by subst h;rw [t0] at h3;cases h3
  have f9:¬T9=N:=fun h=>by subst h;rw [t0] at h9;cases h9
  have gX:¬X=N+1:=fun h=>by subst h;rw [t1] at hX;cases hX
  have g3:¬T3=N+1:=fun h=>by subst h;rw [t1] at h3;cases h3
  have g9:¬T9=N+1:=fun h=>by subst h;rw [t1] at h9;cases h9
  have gX':¬N+1=X:=fun h=>gX h.symm
  have g3':¬N+1=T3:=fun h=>g3 h.symm
  have g9':¬N+1=T9:=fun h=>g9 h.symm
  have x3:=I.x3;have x9:=I.x9;have t39:=I.t39;have x3':¬T3=X:=fun h=>x3 h.symm
  have x9':¬T9=X:=fun h=>x9 h.symm
  have t39':¬T9=T3:=fun h=>t39 h.symm
  have hTl:∀x,Tail (O++[(N+1,x)]) (N+1+1):=fun x=>I.tl.apps (by omega) (by simp)
  rcases hkd with z | z | z | z
  ·have hu:undF cj oj idj=⟨3,k,idj,noE,noCl⟩:=by simp [undF,z,hk1]
   rw [hu] at hbk;simp [bkU,bkR1,bkN] at hbk;simp [c_53_l0,TableOp.ce2,I.v.e2,I.v.e8,e13,e14,e15,hjl,hoj,hL,z,hk1,t0,t1,qaf,qac,cur,hi2,hijl,h9,hol,h120,g9,g9',hw];refine ih _ _ ⟨_,_,rfl,⟨⟨by simp [I.v.e2],by simp [I.v.e3],by simp [I.v.e4],by simp [I.v.e8],by simp [I.v.e11],by simp [I.v.e12],by simp⟩,qak (hTl _),x3,x9,t39,⟨R,Nx,out++[⟨3,k,curF R k idj,noE,noCl⟩],by simp [qac,qaf,hX,x9],hNl,fun x hx=>by have:=hNx x hx;omega,by simp [qac,qaf,h3,t39],by omega,by simp [qac,qaf,h9],by simp [hol],by simp [e13],by simp [TableOp.ce2,noE,noCl],by rw [<- hbk];simp⟩⟩⟩
  ·have hu:undF cj oj idj=⟨2,k,oj.id,noE,(etyF cj.rows[k] oj.id).call⟩:=by simp [undF,z,hk1,qby hr]
   rw [hu] at hbk;simp [bkU,bkR1,bkN] at hbk;simp only [Entry.ce] at ety;obtain ⟨r0,r1,r2,r3,hC,hq,hq2⟩:=cfg4 cj;rw [hC] at ety hm2;simp [c_53_l0,TableOp.ce2,I.v.e2,I.v.e8,e13,e14,e15,hjl,hoj,hL,z,hk1,t0,t1,qaf,qac,cur,hi2,hijl,h9,hol,h120,g9,g9',hw,hm2,hmjl,ety,hq,hq2];refine ih _ _ ⟨_,_,rfl,⟨⟨by simp [I.v.e2],by simp [I.v.e3],by simp [I.v.e4],by simp [I.v.e8],by simp [I.v.e11],by simp [I.v.e12],by simp⟩,qak (hTl _),x3,x9,t39,⟨R,Nx,out++[⟨2,k,curF R k oj.id,noE,(etyF cj.rows[k] oj.id).call⟩],by simp [qac,qaf,hX,x9],hNl,fun x hx=>by have:=hNx x hx;omega,by simp [qac,qaf,h3,t39],by omega,by simp [qac,qaf,h9],by simp [hol],by simp [e13],by simp [TableOp.ce2,noE,noCl],by rw [<- hbk];simp⟩⟩⟩
  ·have hu:undF cj oj idj=⟨1,k,oj.id,etyF cj.rows[k] oj.id,noCl⟩:=by simp [undF,z,hk1,qby hr]
   rw [hu] at hbk;have hNk:k<Nx.length:=by omega
   have hat:at? Nx (k:Int)=some Nx[k]:=by rw [qhi,Qa hNk]
   have hNv:=hNx Nx[k] (Qd hNk);have hwn:IntKind.wrap .i64 (Nx[k]+1)=Nx[k]+1:=qay (by omega) (by omega);simp [bkU,bkR1,bkN,hat] at hbk;simp only [Entry.ce] at ety;obtain ⟨r0,r1,r2,r3,hC,hq,hq2⟩:=cfg4 cj;rw [hC] at ety hm2;simp [c_53_l0,TableOp.ce2,I.v.e2,I.v.e8,I.v.e12,e13,e14,e15,hjl,hoj,hL,z,hk1,t0,t1,qaf,qac,cur,hi2,hijl,h9,hol,h120,g9,g9',hw,hm2,hmjl,ety,hq,hq2,hX,h3,h24,x3,x9,t39,x3',x9',t39',gX,gX',g3,g3',hkt,hNk,hNl,hwn,cI];refine ih _ _ ⟨_,_,rfl,⟨⟨by simp [I.v.e2],by simp [I.v.e3],by simp [I.v.e4],by simp [I.v.e8],by simp [I.v.e11],by simp [I.v.e12],by simp⟩,qak (qak (qak (hTl _))),x3,x9,t39,⟨R++[⟨k,oj.id,Nx[k]⟩],Nx.set k (Nx[k]+1),out++[⟨1,k,0,etyF cj.rows[k] oj.id,noCl⟩],by simp [qac,qaf,hX,x9,x3,cI],by simp [hNl],fun x hx=>?_,by simp [qac,qaf,h3,t39,x3'],by simp;omega,by simp [qac,qaf,h9,x9',t39'],by simp [hol],by simp [e13,Ren.c],by simp [TableOp.ce2,noE,noCl],by rw [<- hbk];simp⟩⟩⟩;rcases Qq hx with hx | rfl
   ·have:=hNx x hx;omega
   ·omega
  ·have hu:undF cj oj idj=⟨4,k,0,noE,cj.defaults[k]⟩:=by simp [undF,z,hk1,qn7,qhi,Qa hd]
   rw [hu] at hbk;simp [bkU,bkR1,bkN] at hbk;rw [Config.ce] at hm2;simp [c_53_l0,TableOp.ce2,I.v.e2,I.v.e8,I.v.e12,e13,e14,e15,hjl,hoj,hL,z,hk1,t0,t1,qaf,qac,cur,hi2,hijl,h9,hol,h120,g9,g9',hw,hm2,hmjl,hd,ActionCall.ce];refine ih _ _ ⟨_,_,rfl,⟨⟨by simp [I.v.e2],by simp [I.v.e3],by simp [I.v.e4],by simp [I.v.e8],by simp [I.v.e11],by simp [I.v.e12],by simp⟩,qak (hTl _),x3,x9,t39,⟨R,Nx,out++[⟨4,k,0,noE,cj.defaults[k]⟩],by simp [qac,qaf,hX,x9],hNl,fun x hx=>by have:=hNx x hx;omega,by simp [qac,qaf,h3,t39],by omega,by simp [qac,qaf,h9],by simp [hol],by simp [e13],by simp [TableOp.ce2,noE,noCl],by rw [<- hbk];simp⟩⟩⟩
 ·rintro e _ L hL ⟨O,N,rfl,I⟩;obtain ⟨R,Nx,out,hX,hNl,hNx,h3,hRi,h9,hol,e13,e14,hbk⟩:=I.st;have e1:(l.length:Int) - 1 - l.length= -1:=by omega
  have e15:=I.v.e15;rw [e1] at e15;have hd:(qch p c l l.length).reverse.drop l.length=[]:=List.drop_eq_nil_of_le (by simp [qch]);rw [hd,bkR,List.append_nil] at hbk;rw [hbk] at e14;simp [c_53_l0,e15,hL];exact hk _ T9 ⟨by simp [I.v.e2],by simp [I.v.e3],by simp [I.v.e4],by simp [I.v.e8],by simp [I.v.e11],by simp [I.v.e12],by simp [I.v.e15]⟩ (by simp [e14]) _ _ I.tl
theorem qvq:∀(V:List TableOp) (R:List Ren) (Nx:List Int),(∀u∈V,UndS u)->∀o∈bkR R Nx V,OpS o
 | [],_,_,_,o,h=>by simp [bkR] at h
 | u::V,M,d,hV,o,h=>by
  rw [bkR] at h;rcases List.mem_cons.1 h with rfl | h
  ·have:=(hV u (by simp)).op;exact ⟨this.e,this.c⟩
  ·exact qvq V _ _ (fun w hw=>hV w (by simp [hw])) o h
theorem rv2 (p:Prg) (f:PrgS p) (hv:∀t∈p.tables,∀v∈t.dflt.args,ok32 0 v) (hc:(pre p.control).length<2^40 - 1) (hp:p.tables.length<2^40) {c:Config} (l out:List TableOp) (s':CfgT (cfgN p c l l.length)) (ho:∀o∈out,OpS o) (hol:out.length<2^40) {T N:Nat} {O:List (Nat×AO)} (hT:Tail O N) {e:Env}
  (e3:look 3 e=some (.iptr 9 [Prg.c p] 0 0)) (e4:look 4 e=some (.iptr 4 [Config.c c] 0 0)) (e8:look 11 e=some (.iptr 4 [Config.c (cfgN p c l l.length)] 0 0)) (h17:look 14 e=some (.app 9 (out.map TableOp.c) T)):
  go Φ (finP [.tmp 6,.tmp 7]) [.c c_53_k1] .normal ⟨e,⟨O,N⟩⟩=some (.val (invT p c l out)):=by
 have t0:=hT N (Qb _);have ka:=qzy p f hv hc hp s' out hol ho;obtain ⟨q0,q1,q2,q3,hC,hq,hq2⟩:=cfg4 c;obtain ⟨r0,r1,r2,r3,hD,hr,hr2⟩:=cfg4 (cfgN p c l l.length);rw [hC] at e4;rw [hD] at e8 ka;simp only [Prg.e] at e3 ka;unfold invT;cases hb:badA p (cfgN p c l l.length) out with
 | some x=>
  obtain ⟨k,x⟩:=x;have hx:=qif hb;rw [show appA p (cfgN p c l l.length) out= .tup [.agg noC,.slice 1 [],.int .i64 k,.int .i64 x] by simp only [appA,hb]] at ka;simp only [noC] at ka;simp [c_53_k1,t0,qaf,qac,e3,e4,e8,h17,ka,hq,hq2,hr,hr2,hx]
 | none=>
  rw [show appA p (cfgN p c l l.length) out= .tup [.agg (Config.c (cfgN p (cfgN p c l l.length) out out.length)),.slice 1 (idsA p (cfgN p c l l.length) out),.int .i64 0,.int .i64 0] by simp only [appA,hb];rfl] at ka;obtain ⟨v2,h64,hb2⟩:=qe0 hb;obtain ⟨v3,s3⟩:=qdw v2 s' hp out ho out.length;have kq:=qp4 (cfgN p (cfgN p c l l.length) out out.length) c (qvn s3);generalize idsA p (cfgN p c l l.length) out=il at ka;obtain ⟨s0,s1,s2,s3',hE,hs,hs2⟩:=cfg4 (cfgN p (cfgN p c l l.length) out out.length);rw [hE] at ka kq;rw [hC] at kq;cases hz:qfv (cfgN p (cfgN p c l l.length) out out.length) c with
  | false=>
   rw [hz] at kq;simp [c_53_k1,t0,qaf,qac,e3,e4,e8,h17,ka,kq,hq,hq2,hr,hr2,hs,hs2]
  | true=>
   rw [hz] at kq;simp [c_53_k1,t0,qaf,qac,e3,e4,e8,h17,ka,kq,hq,hq2,hr,hr2,hs,hs2]
theorem qvg (p:Prg) (op:p.Ok qa9) (hv:∀t∈p.tables,∀v∈t.dflt.args,ok32 0 v) (hc:(pre p.control).length<2^40 - 1) (hp:p.tables.length<2^40) {c:Config} (s:CfgT c) (l:List TableOp) (hll:l.length<2^40) (hl:∀o∈l,OpS o):
  qab Φ f_53 [.agg (Prg.c p),.agg (Config.c c),.slice 9 (l.map TableOp.c)]=some (.val (invA p c l (invR p c l))):=by
 rw [qaa (fn:=c_53) rfl rfl];have f:=qie op;have ka:=qv9 p f hv hc hp s l hll hl;obtain ⟨q0,q1,q2,q3,hC,hq,hq2⟩:=cfg4 c;unfold invA;cases hA:badA p c l with
 | some x=>
  obtain ⟨k,x⟩:=x;have hx:=qif hA;rw [qt6 hA] at ka;rw [hC] at ka ⊢;simp only [noH,Prg.e] at ka;simp [c_53,Prg.e,ka,hq,hq2,hx]
 | none=>
  obtain ⟨v,h64,hb⟩:=qe0 hA;obtain ⟨v',s'⟩:=qdw v s hp l hl l.length;rw [qrd hA] at ka;have hD:=Config.ce (cfgN p c l l.length);simp only [qkm] at ka;have hm:(List.map (fun j=>Config.c (cfgN p c l j)) (List.range (l.length+1)))[l.length]? =some (Config.c (cfgN p c l l.length)):=by simp
  have hmj:∀j,j<l.length->(List.map (fun j=>Config.c (cfgN p c l j)) (List.range (l.length+1)))[j]? =some (Config.c (cfgN p c l j)):=fun j hj=>by
   rw [List.getElem?_map,List.getElem?_range (by omega)];rfl
  have hij:∀j,j<l.length->(List.map (fun j=>cI (idN p c l j)) (List.range l.length))[j]? =some [.int .i64 (idN p c l j)]:=fun j hj=>by
   rw [List.getElem?_map,List.getElem?_range hj];rfl
  have hml:(List.map (fun j=>Config.c (cfgN p c l j)) (List.range (l.length+1))).length=l.length+1:=by simp
  have hil:(List.map (fun j=>cI (idN p c l j)) (List.range l.length)).length=l.length:=by simp
  generalize List.map (fun j=>Config.c (cfgN p c l j)) (List.range (l.length+1))=ml at*;generalize List.map (fun j=>cI (idN p c l j)) (List.range l.length)=il at*;have hmi:l.length<ml.length:=by omega
  have hm':ml[l.length]=Config.c (cfgN p c l l.length):=by rw [Qa hmi] at hm;exact Option.some.inj hm
  rw [Config.ce (cfgN p c l l.length)] at hm';rw [hC] at ka ⊢;simp only [Prg.e] at ka;have hnl:=v'.nl;have tlc:∀(L:List (Nat×AO)) (M:Nat),(∀x∈L,x.1<M)->Tail L M:=fun L M h j hj=>qxa fun x hx=>by have:=h x hx;omega
  have hRo:∀o∈invR p c l,OpS o:=qvq _ _ _ fun u hu=>qj6 v s hp hl hb u (by simpa using hu)
  have hRl:(invR p c l).length=l.length:=by unfold invR;rw [qpl];simp [qch]
  by_cases hn:(cfgN p c l l.length).nextID=[]
  ·have hl0:l=[]:=by
    cases l with
    | nil=>rfl
    | cons o l=>
     have h0:=qhk hb 0 (by simp);obtain ⟨hi,_⟩:=qun h0;obtain ⟨k,_,hk⟩:=qdq hi;rw [hn] at hnl;simp at hnl;omega
   subst hl0;simp only [List.length_nil] at hn hm' hmi hml;simp only [List.map_nil] at ka;simp [c_53,Prg.e,ka,hq,hq2,hmi,hm',hn];rw [qax];have hw1:IntKind.wrap .i64 (-1)= -1:=qay (by omega) (by omega);simp [c_53_l0,hw1];have hr0:invR p c []=[]:=by simp [invR,qch,bkR]
   rw [hr0];refine rv2 p f hv hc hp (c:=c) [] [] s' (by simp) (by simp) (T:=3) ?_ ?_ ?_ ?_ ?_
   ·exact tlc _ _ (by simp)
   ·simp [Prg.e]
   ·simp [hC]
   ·simp [Config.ce,hn]
   ·simp
  ·have h8:p.tables.length*8<=70368744177664:=by have:=f.t;omega
   have hw:IntKind.wrap .i64 ((l.length:Int) - 1)=(l.length:Int) - 1:=qay (by omega) (by omega);simp [c_53,Prg.e,ka,hq,hq2,hmi,hm',hn,hnl,h8,hw];refine rv0 p hp v s l h64 hl hb hml hmj hil hij (X:=2) (T3:=3) (T9:=4) ?_ _ _ _ ⟨⟨by simp,by simp [Prg.e],by simp [hC],by simp,by simp [Config.ce],by simp,by simp⟩,tlc _ _ (by simp),by decide,by decide,by decide,⟨[],(cfgN p c l l.length).nextID,[],by simp,hnl,fun x hx=>?_,by simp,by simp,by simp,rfl,by simp,by simp,by simp [invR]⟩⟩
   ·intro e T v9 h14 O N hT;exact rv2 p f hv hc hp l _ s' hRo (by omega) hT v9.e3 v9.e4 v9.e11 h14
   ·obtain ⟨k,hk,rfl⟩:=Qn.1 hx;have ht:=v'.at (k:=k) (by omega);have:=ht.nx0;have:=ht.nx1;omega
theorem qaeu (p:Prg) (c:Config) (l out:List TableOp) (ho:badA p c l=none->∀o∈out,OpS o) (hl:out.length<2^40):
  ∃(L:List TableOp) (E:Int),invA p c l out= .tup [.slice 9 (L.map TableOp.c),.int .i64 E]/\(∀o∈L,OpS o)/\L.length<2^40:=by
 unfold invA;cases hA:badA p c l with
 | some x=>exact ⟨[],x.2,rfl,by simp,by simp⟩
 | none=>
  simp only;unfold invT;cases badA p (cfgN p c l l.length) out with
  | some x=>exact ⟨[],14,rfl,by simp,by simp⟩
  | none=>
   simp only;split
   ·exact ⟨out,0,rfl,ho hA,hl⟩
   ·exact ⟨[],14,rfl,by simp,by simp⟩
theorem qpf (p:Prg) (c:Config) (l:List TableOp) (op:p.Ok qa9) (oc:c.Ok qa9) (oL:okL qa9 (TableOp.Ok qa9) l):
  qab Φ f_13 [.agg (Prg.c p),.agg (Config.c c),.slice 9 (l.map TableOp.c)]=some (.val (.bool true)):=by
 obtain ⟨ol',oo⟩:=oL;have ol:l.length<2^40:=by have:=qdz;omega
 have f:=qie op;have s:=qadg oc;have hv:=prgHv op;have hl:∀o∈l,OpS o:=fun o ho=>qag7 (oo o ho)
 obtain ⟨b,hb,hb2⟩:=qaab p c op;have ho:=quq l;rw [qaa (fn:=c_13) rfl rfl];cases b with
 | false=>
  simp only [Prg.e,Config.ce] at hb;simp [c_13,Prg.e,Config.ce,hb,qqf]
 | true=>
 cases b2:qk2 l with
 | false=>
  rw [b2] at ho;simp only [Prg.e,Config.ce] at hb;simp [c_13,Prg.e,Config.ce,hb,ho,qqf]
 | true=>
 rw [b2] at ho;have hc:(pre p.control).length<2^40 - 1:=by have:=(hb2 rfl).1;omega
 have hp:p.tables.length<2^40:=f.t;have k1:=qw7 p op hc hp s l hl;have k2:=qvg p op hv hc hp s l ol hl;rw [<- qzg s hp hl] at k2;have hlen:(invP p c l).length=l.length:=by unfold invP;rw [qpj];simp [qch]
 obtain ⟨L,E,hE,hLo,hLl⟩:=qaeu p c l (invP p c l) (fun hA=>by
  obtain ⟨v,h64,hb⟩:=qe0 hA;exact qpk p _ _ _ fun u hu=>qj6 v s hp hl hb u (by simpa using hu)) (by omega)
 rw [hE] at k1 k2;have k3:=qtq L L hLl hLo;rw [decide_eq_true rfl] at k3;simp only [Prg.e,Config.ce] at hb k1 k2;simp [c_13,Prg.e,Config.ce,hb,ho,k1,k2,k3,qqf]
end Go.Av
