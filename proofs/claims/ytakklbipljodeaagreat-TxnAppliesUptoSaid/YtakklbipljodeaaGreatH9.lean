/-
 A store in memory; store.load.
-/
import Derived.Test.YtakklbipljodeaaGreatH6
set_option linter.unusedVariables false
set_option linter.unusedSimpArgs false
set_option linter.constructorNameAsVariable false
namespace Go.Av
set_option maxRecDepth 4000
structure SV where
 s:Nat
 v1:AV
 v2:AV
 v3:AV
 v4:AV
 vi:AV
 V:List AV
 M:List Nat
def SV.cells (S:SV) (p:Prg):List AV:=S.v1::S.v2::S.v3::S.v4::(Prg.c p++[S.vi,.bool true])
structure IdxM (O:List (Nat×AO)) (vi:AV) (M:List Nat) (R:List (List Rw)):Prop where
 i:Mu O 1 vi (M.map fun m=>[.map m])
 len:M.length=R.length
 m:∀(k m:Nat) (l:List Rw),M[k]? =some m→R[k]? =some l→look m O=some (.map (ents l))
 nd:∀(k k' m:Nat),M[k]? =some m→M[k']? =some m→k=k'
structure StoreM (O:List (Nat×AO)) (S:SV) (p:Prg) (c:Config):Prop where
 s:look S.s O=some (.row 15 [S.cells p])
 cm:CfgM O S.v1 S.v2 S.v3 S.v4 S.V c
 x:IdxM O S.vi S.M c.rows
 ri:∀i,vid S.v1=some i→vid S.vi=some i→False
 ni:∀i,vid S.v2=some i→vid S.vi=some i→False
def SV.own (S:SV) (j:Nat):Prop:=j=S.s∨CfgM.own S.v1 S.v2 S.v3 S.V j∨vid S.vi=some j∨j∈S.M
theorem IdxM.fr {O O':List (Nat×AO)} {vi:AV} {M:List Nat} {R:List (List Rw)} (h:IdxM O vi M R) (hf:∀j,vid vi=some j∨j∈M→look j O'=look j O):IdxM O' vi M R:=
 ⟨h.i.fr fun j hj=>hf j (.inl hj),h.len,fun k m l hm hl=>by rw [hf m (.inr (List.mem_of_getElem? hm))];exact h.m k m l hm hl,h.nd⟩
theorem StoreM.fr {O O':List (Nat×AO)} {S:SV} {p:Prg} {c:Config} (h:StoreM O S p c) (hf:∀j,S.own j→look j O'=look j O):StoreM O' S p c:=
 ⟨by rw [hf _ (.inl rfl)];exact h.s,h.cm.fr fun j hj=>hf j (.inr (.inl hj)),h.x.fr fun j hj=>hf j (.inr (.inr hj)),h.ri,h.ni⟩
theorem CfgM.own_lk {O:List (Nat×AO)} {v1 v2 v3 v4:AV} {V:List AV} {c:Config} (h:CfgM O v1 v2 v3 v4 V c) {j:Nat} (hj:CfgM.own v1 v2 v3 V j):∃z es,look j O=some (.row z es)∧(z=1∨z=2∨z=5):=by
 rcases hj with hj | hj | hj | ⟨v,hv,hj⟩
 ·obtain ⟨es,hl⟩:=h.r.own hj;exact ⟨1,es,hl,.inl rfl⟩
 ·obtain ⟨es,hl⟩:=h.n.own hj;exact ⟨1,es,hl,.inl rfl⟩
 ·obtain ⟨es,hl⟩:=h.d.own hj;exact ⟨2,es,hl,.inr (.inl rfl)⟩
 ·obtain ⟨k,hk,rfl⟩:=List.mem_iff_getElem.1 hv;have hk2:k<c.rows.length:=by rw [← h.rl];exact hk
  obtain ⟨es,hl⟩:=(h.rv k _ _ (List.getElem?_eq_getElem hk) (List.getElem?_eq_getElem hk2)).own hj;exact ⟨5,es,hl,.inr (.inr rfl)⟩
theorem IdxM.own_lk {O:List (Nat×AO)} {vi:AV} {M:List Nat} {R:List (List Rw)} (h:IdxM O vi M R) {j:Nat} (hj:j∈M):∃es,look j O=some (.map es):=by
 obtain ⟨k,hk,rfl⟩:=List.mem_iff_getElem.1 hj;have hk2:k<R.length:=by rw [← h.len];exact hk
 exact ⟨_,h.m k _ _ (List.getElem?_eq_getElem hk) (List.getElem?_eq_getElem hk2)⟩
theorem StoreM.own_lk {O:List (Nat×AO)} {S:SV} {p:Prg} {c:Config} (h:StoreM O S p c) {j:Nat} (hj:S.own j):∃x,look j O=some x∧x≠ .res:=by
 rcases hj with rfl | hj | hj | hj
 ·exact ⟨_,h.s,by simp⟩
 ·obtain ⟨z,es,hl,_⟩:=h.cm.own_lk hj;exact ⟨_,hl,by simp⟩
 ·obtain ⟨es,hl⟩:=h.x.i.own hj;exact ⟨_,hl,by simp⟩
 ·obtain ⟨es,hl⟩:=h.x.own_lk hj;exact ⟨_,hl,by simp⟩
theorem StoreM.kp {O O':List (Nat×AO)} {N:Nat} {X:Nat→Prop} {S:SV} {p:Prg} {c:Config} (h:StoreM O S p c) (hT:Tail O N) (hk:Kp X N O O') (hx:∀j,S.own j→¬X j):StoreM O' S p c:=by
 refine h.fr fun j hj=>?_
 obtain ⟨x,hl,_⟩:=h.own_lk hj;exact hk j (hT.lt hl) (hx j hj)
theorem CfgM.re {O:List (Nat×AO)} {v1 v2 v3 v4:AV} {V:List AV} {c:Config} (h:CfgM O v1 v2 v3 v4 V c):CfgR O v1 v2 v3 v4 V c:=
 ⟨⟨h.r.re,h.rl,fun k x l hx hl=>(h.rv k x l hx hl).re⟩,h.n.re,h.d.re,by rcases h.g with e | ⟨t,e⟩;exact .inr (.inl e);exact .inr (.inr ⟨t,e⟩)⟩
theorem CfgR.imm {O:List (Nat×AO)} (c:Config):CfgR O (.slice 1 (c.rows.map (cS 5 Rw.c))) (.slice 1 (c.nextID.map cI)) (.slice 2 (c.defaults.map ActionCall.c)) (.slice 1 (c.registers.map (cS 1 c32))) (c.rows.map fun l=> .slice 5 (l.map Rw.c)) c:=by
 refine ⟨⟨?_,by simp,?_⟩,.sl _,.sl _,.inl rfl⟩
 ·have:(c.rows.map fun l=>AV.slice 5 (l.map Rw.c)).map (fun x=>[x])=c.rows.map (cS 5 Rw.c):=by
   rw [List.map_map];rfl
  rw [this];exact .sl _
 ·intro k x l hx hl;rw [List.getElem?_map,hl] at hx;cases hx;exact .sl _
def Rs (O:List (Nat×AO)) (j:Nat):Prop:=look j O=some .res
def qwu (N:Nat) (O:List (Nat×AO)) (p:Prg) (c:Config) (r:Option (Rt×AH)):Prop:=
 ∃S O' N',r=some (.val (.ptr S.s 15 0 0),⟨O',N'⟩)∧StoreM O' S p c∧(∀j,S.own j→N≤j)∧Kp (Rs O) N O O'∧Tail O' N'∧N≤N'
theorem qum (p:Prg) (op:p.Ok qbd) (c:Config) (u:CfgU c) (hinc:∀l∈c.rows,l.Pairwise fun a b=>a.id<b.id) {v1 v2 v3 v4:AV} {A:List AV} {O:List (Nat×AO)} {N:Nat} (hT:Tail O N) (h:CfgR O v1 v2 v3 v4 A c):
  qwu N O p c (qak Φ f_66 [.agg (Prg.c p),.agg [v1,v2,v3,v4]] ⟨O,N⟩):=by
 rw [qbs (fn:=c_66) rfl rfl];have hcl:=qx7 p op;simp only [Prg.e] at hcl;have t0:=hT N (Nat.le_refl _);have t13:=hT (N+1+12) (by omega);have n13:¬N=N+1+12:=by omega
 simp [c_66,Prg.e,t0,qal];have hT1:Tail (O++[(N,AO.row 4 [[v1,v2,v3,v4]]),(N+1+12,AO.res)]) (N+1+12+1):=by
  rw [qb6,qbo,qbo];exact ⟨hT.mono (by omega),by omega,by omega,Tail.nil _⟩
 have hk1:Kp (fun _=>False) N O (O++[(N,AO.row 4 [[v1,v2,v3,v4]]),(N+1+12,AO.res)]):=Kp.appL (fun _ _ _=>rfl) (by simp;omega);have hres:look (N+1+12) (O++[(N,AO.row 4 [[v1,v2,v3,v4]]),(N+1+12,AO.res)])=some .res:=by simp [t13,n13]
 obtain ⟨w1,w2,w3,w4,V,O2,N2,e2,m2,f2,hk2,hT2,hN2⟩:=qjf c u hT1 (h.kp hT hk1 (by simp));have hres2:look (N+1+12) O2=some .res:=hk2.lk hT1 hres (by simp);rw [e2];have hs1:∀cs,look (N+1+12) (qa6 (setl (N+1+12) (.row 15 cs) O2))=some (.row 15 cs):=fun cs=>by
  rw [qbl (by simp [qae,hres2])];simp [qae,hres2]
 have hs2:∀cs,Tail (qa6 (setl (N+1+12) (.row 15 cs) O2)) N2:=fun cs=>qfc (qaq hT2)
 have hs3:∀cs,look N2 (qa6 (setl (N+1+12) (.row 15 cs) O2))=none:=fun cs=>hs2 cs _ (Nat.le_refl _)
 have hs4:∀cs z es j,z≠15→look j O2=some (.row z es)→look j (qa6 (setl (N+1+12) (.row 15 cs) O2))=some (.row z es):=fun cs z es j hz hl=>by
  have hne:j≠N+1+12:=qau hl hres2 (by simp);rw [qbl (by simp [qae,hne,hl])];simp [qae,hne,hl]
 have hs5:∀cs,Kp (Rs O) N O (qa6 (setl (N+1+12) (.row 15 cs) O2)):=fun cs j hj hx=>by
  have hne:j≠N+1+12:=by omega
  have h2:look j O2=look j O:=(hk2 j (by omega) (by simp)).trans (hk1 j hj (by simp));rw [qbl (by rw [qae,if_neg hne,h2];exact hx),qae,if_neg hne,h2]
 have n2:¬N2=N+1+12:=by omega
 have l1:=m2.r.len;rw [List.length_map,m2.rl] at l1;have hrl:=u.t.rl;have b1:(c.rows.length:Int)*8≤140737488355328:=by omega
 have b2:c.rows.length<4611686018427387904:=by omega
 have w1c:=m2.r.cells;simp [hcl,hres2,hs1,hs3,qal,qae,l1,n2,b1,b2,-lenOf,-AV.cells];generalize hO3:setl (N+1+12) _ (_++[(N2,AO.row 1 (List.replicate c.rows.length [AV.nilmap]))])=O3;have hT3:Tail O3 (N2+1):=by rw [← hO3];exact qaq ((hs2 _).app1 (Nat.le_refl _))
 have hk3:Kp (Rs O) N O O3:=by rw [← hO3];exact Kp.setl (Kp.app (hs5 _) (by omega)) (.inl (by omega))
 have ls:look (N+1+12) O3=some (.row 15 [w1::w2::w3::w4::(Prg.c p++[.row N2 1 0 c.rows.length,.bool true])]):=by
  rw [← hO3,qae,if_pos rfl,qal,hs1,Prg.e];rfl
 have li:look N2 O3=some (.row 1 (List.replicate c.rows.length [AV.nilmap])):=by
  rw [← hO3,qae,if_neg n2,qal,hs3];simp
 have lo:∀z es j,z≠15→look j O2=some (.row z es)→look j O3=look j O2:=fun z es j hz hl=>by
  have hne:j≠N+1+12:=qau hl hres2 (by simp);rw [← hO3,qae,if_neg hne,qal,hs4 _ z es j hz hl,hl];rfl
 have m3:CfgM O3 w1 w2 w3 w4 V c:=m2.fr fun j hj=>by
  obtain ⟨z,es,hl,hz⟩:=m2.own_lk hj;exact lo z es j (by omega) hl
 clear hO3;have fo:∀j,CfgM.own w1 w2 w3 V j→j≠N2:=fun j hj=>by
  obtain ⟨z,es,hl,hz⟩:=m2.own_lk hj;have:=hT2.lt hl;omega
 refine qhg c.rows.length (fun i e h=>∃(O':List (Nat×AO)) (N':Nat) (M:List Nat),h=⟨O',N'⟩∧Kp (fun j=>j=N2) (N2+1) O3 O'∧Tail O' N'∧N2+1≤N'∧look N2 O'=some (.row 1 (M.map (fun m=>[AV.map m])++List.replicate (c.rows.length - i) [AV.nilmap]))∧M.length=i∧
   (∀(k m:Nat) (l:List Rw),M[k]? =some m→c.rows[k]? =some l→look m O'=some (.map (ents l)))∧(∀m∈M,N2+1≤m)∧(∀(k k' m:Nat),M[k]? =some m→M[k']? =some m→k=k')∧
   look 5 e=some (.ptr (N+1+12) 15 0 0)∧look 28 e=some (.int .i64 c.rows.length)∧look 29 e=some (.int .i64 i)) (qwu N O p c) ?_ ?_ 0 _ _ (Nat.zero_le _) ?_
 ·rintro i e _ L hi hL ⟨O',N',M,rfl,hk',hT',hN',ln,hMl,hMe,hMf,hMn,e5,e28,e29⟩ ih;have hw:IntKind.wrap .i64 ((i:Int)+1)=((i+1:Nat):Int):=qac (by omega) (by omega);have hVi:i<V.length:=by rw [m2.rl];exact hi
  have ls':=hk'.lk hT3 ls (by omega);have m3':CfgM O' w1 w2 w3 w4 V c:=m3.fr fun j hj=>by
   obtain ⟨z,es,hl,hz⟩:=m3.own_lk hj;exact hk' j (hT3.lt hl) (fo j hj)
  have hes:(M.map (fun m=>[AV.map m])++List.replicate (c.rows.length - i) [AV.nilmap]).length=c.rows.length:=by simp [hMl];omega
  have hr:=qoc (k:=i) (n:=c.rows.length) (V:=V) (l:=c.rows[i]) (R:=Prg.c p) hT' (u.u _ (List.getElem_mem hi)) hi hVi ls' (by simp) ln (Nat.le_of_eq hes.symm) ?_ m3'.r (m3'.rv i _ _ (List.getElem?_eq_getElem hVi) (List.getElem?_eq_getElem hi)) ?_ (hinc _ (List.getElem_mem hi)) (by omega)
  rotate_left
  ·refine ⟨.nilmap,?_⟩;rw [List.getElem?_append_right (by simp;omega),List.getElem?_replicate,if_pos (by simp [hMl];omega)]
  ·intro hc;exact fo N2 (.inl hc) rfl
  obtain ⟨O4,N4,e4,r1,r2,hk4,hT4,hN4⟩:=hr;simp [c_66_l0,e5,e28,e29,hi,e4,hw];refine ih _ _ ⟨O4,N4,M++[N'],rfl,?_,hT4,by omega,?_,by simp [hMl],?_,?_,?_,?_,?_,?_⟩
  ·intro j hj hx;rw [hk4 j (by omega) hx,hk' j hj hx]
  ·rw [r1];congr 1;have hd:c.rows.length - i=(c.rows.length - (i+1))+1:=by omega
   rw [hd,List.replicate_succ,List.set_append_right _ _ (by simp [hMl])];simp [hMl]
  ·intro k m l hm hl;by_cases hk:k<M.length
   ·rw [List.getElem?_append_left hk] at hm;have h0:=hMe k m l hm hl;exact hk4.lk hT' h0 (by have:=hMf m (List.mem_of_getElem? hm);omega)
   ·have hb:=(List.getElem?_eq_some_iff.1 hm).1;simp at hb;have hk:k=M.length:=by omega
    subst hk;rw [List.getElem?_append_right (by omega)] at hm;simp at hm;subst hm;rw [hMl,List.getElem?_eq_getElem hi] at hl;cases hl;exact r2
  ·intro m hm;rcases List.mem_append.1 hm with hm | hm
   ·exact hMf m hm
   ·simp at hm;omega
  ·intro k k' m hm hm';have hb:=(List.getElem?_eq_some_iff.1 hm).1;have hb':=(List.getElem?_eq_some_iff.1 hm').1;simp at hb hb';have hlt:∀m,m∈M→m<N':=fun m hm=>by
    obtain ⟨q,hq,rfl⟩:=List.mem_iff_getElem.1 hm;exact hT'.lt (hMe q _ _ (List.getElem?_eq_getElem hq) (List.getElem?_eq_getElem (by omega)))
   by_cases hk:k<M.length
   ·by_cases hk':k'<M.length
    ·rw [List.getElem?_append_left hk] at hm;rw [List.getElem?_append_left hk'] at hm';exact hMn k k' m hm hm'
    ·rw [List.getElem?_append_left hk] at hm;rw [List.getElem?_append_right (by omega),show k' - M.length=0 by omega] at hm';simp at hm';have:=hlt m (List.mem_of_getElem? hm);omega
   ·by_cases hk':k'<M.length
    ·rw [List.getElem?_append_left hk'] at hm';rw [List.getElem?_append_right (by omega),show k - M.length=0 by omega] at hm;simp at hm;have:=hlt m (List.mem_of_getElem? hm');omega
    ·omega
  ·simp [e5]
  ·simp [e28]
  ·simp
 ·rintro e _ L hL ⟨O',N',M,rfl,hk',hT',hN',ln,hMl,hMe,hMf,hMn,e5,e28,e29⟩;simp [c_66_l0,c_66_k1,e5,e28,e29,hL];have ls':=hk'.lk hT3 ls (by omega);have m3':CfgM O' w1 w2 w3 w4 V c:=m3.fr fun j hj=>by
   obtain ⟨z,es,hl,hz⟩:=m3.own_lk hj;exact hk' j (hT3.lt hl) (fo j hj)
  refine ⟨⟨N+1+12,w1,w2,w3,w4,.row N2 1 0 c.rows.length,V,M⟩,O',N',rfl,⟨ls',m3',⟨?_,hMl,hMe,hMn⟩,?_,?_⟩,?_,?_,hT',by omega⟩
  ·rw [Nat.sub_self,List.replicate_zero,List.append_nil] at ln;exact .row N2 _ _ _ (by simp [hMl]) ln (Nat.le_refl _) (by rw [List.take_length])
  ·intro j h1 h2;cases h2;exact fo _ (.inl h1) rfl
  ·intro j h1 h2;cases h2;exact fo _ (.inr (.inl h1)) rfl
  ·intro j hj;rcases hj with rfl | hj | hj | hj
   ·simp only;omega
   ·have:=f2 j hj;omega
   ·cases hj;omega
   ·have:=hMf j hj;omega
  ·intro j hj hx;rw [hk' j (by omega) (by omega)];exact hk3 j hj hx
 ·exact ⟨O3,N2+1,[],rfl,fun _ _ _=>rfl,hT3,Nat.le_refl _,by simpa using li,rfl,by simp,by simp,by simp,by simp,by simp,by simp⟩
theorem qg6 {O:List (Nat×AO)} {n p:Nat} {o:AO} (h:Tail O n) (hp:p<n):Tail (O++[(p,o)]) n:=by
 rw [qb6,qbo];exact ⟨h,hp,Tail.nil _⟩
theorem qy0 {p:Prg} {t:Int} {tb:Tbl} (h:(tblE p t).2=0) (ht:at? p.tables t=some tb):tb.size≤256:=by
 unfold tblE at h;rw [ht] at h;simp only at h;split at h
 ·cases h
 split at h
 ·cases h
 split at h
 ·cases h
 ·omega
theorem qzr {p:Prg} {t:Int} {x:Entry} (h:entE p t x=0):(tblE p t).2=0:=by
 unfold entE at h;refine Decidable.byContradiction fun hc=>?_
 rw [if_pos hc] at h;exact hc h
theorem CfgV.small {p:Prg} {c:Config} (v:CfgV p c):∀l∈c.rows,l.length≤256:=by
 intro l hl;obtain ⟨k,hk,rfl⟩:=List.mem_iff_getElem.1 hl;have hkt:k<p.tables.length:=by rw [← v.rl];exact hk
 have hv:=v.at hkt;by_cases h0:c.rows[k].length=0
 ·omega
 have he:=hv.ent _ (List.getElem_mem (show 0<c.rows[k].length by omega));have hs:=qy0 (qzr he) (by rw [qkz];exact List.getElem?_eq_getElem hkt);have:=hv.size;omega
theorem CfgV.u {p:Prg} {c:Config} (v:CfgV p c) (s:CfgT c):CfgU c:=⟨s,fun l hl=>by have:=v.small l hl;omega⟩
theorem CfgV.incs {p:Prg} {c:Config} (v:CfgV p c):∀l∈c.rows,l.Pairwise fun a b=>a.id<b.id:=by
 intro l hl;obtain ⟨k,hk,rfl⟩:=List.mem_iff_getElem.1 hl;have hkt:k<p.tables.length:=by rw [← v.rl];exact hk
 exact (v.at hkt).inc
def qza (N:Nat) (O:List (Nat×AO)) (p:Prg) (c:Config) (r:Option (Rt×AH)):Prop:=
 (cfgE p c≠0∧r=some (.val (.tup [.nilptr,.int .i64 (cfgE p c)]),⟨O,N⟩))∨
 (cfgE p c=0∧∃S O' N',r=some (.val (.tup [.ptr S.s 15 0 0,.int .i64 0]),⟨O',N'⟩)∧StoreM O' S p c∧(∀j,S.own j→N≤j)∧Kp (Rs O) N O O'∧Tail O' N'∧N≤N')
theorem qab0 (p:Prg) (op:p.Ok qbd) (hc:(pre p.control).length<2^40 - 1) (c:Config) (s:CfgT c) {O:List (Nat×AO)} {N:Nat} (hT:Tail O N):
  qza N O p c (qak Φ f_18 [.agg (Prg.c p),.agg (Config.c c)] ⟨O,N⟩):=by
 rw [qbs (fn:=c_18) rfl rfl];have f:=qlv op;have hk:=qach p f hc c s;simp only [Prg.e,Config.ce] at hk;by_cases z:cfgE p c=0
 ·have v:=(qft p c).1 z;obtain ⟨S,O',N',e,h1,h2,h3,h4,h5⟩:=qum p op c (v.u s) v.incs hT (CfgR.imm (O:=O) c);rw [z] at hk;simp only [Prg.e] at e;simp [c_18,Prg.e,Config.ce,hk,e];exact .inr ⟨z,S,O',N',rfl,h1,h2,h3,h4,h5⟩
 ·simp [c_18,Prg.e,Config.ce,hk,z];exact .inl ⟨z,rfl⟩
theorem qwr {p:Prg} {c:Config} (u:CfgU c) {S:SV} {O:List (Nat×AO)} {N:Nat} (hT:Tail O N) (m:StoreM O S p c):qwp N O c (qak Φ f_24 [.ptr S.s 15 0 0] ⟨O,N⟩):=by
 rw [qbs (fn:=c_24) rfl rfl];have t0:=hT N (Nat.le_refl _);have hs:=m.s;simp only [SV.cells,Prg.e,List.cons_append,List.nil_append] at hs;have fs:=qd1 hT hs (Nat.le_refl N);have hk1:Kp (fun _=>False) N O (O++[(N,AO.row 4 [[.fslice 1 [],.fslice 1 [],.fslice 2 [],.fslice 1 []]])]):=Kp.app (fun _ _ _=>rfl) (Nat.le_refl _);have hT1:=hT.app1 (o:=AO.row 4 [[.fslice 1 [],.fslice 1 [],.fslice 2 [],.fslice 1 []]]) (Nat.le_refl N);obtain ⟨w1,w2,w3,w4,V,O',N',e,h1,h2,h3,h4,h5⟩:=qjf c u hT1 (m.cm.re.kp hT hk1 (by simp));have ln:look N O'=some (.row 4 [[.fslice 1 [],.fslice 1 [],.fslice 2 [],.fslice 1 []]]):=h3.lk hT1 (by rw [qal,t0];simp) (by simp);simp [c_24,t0,qal,hs,e,ln,qae];refine ⟨w1,w2,w3,w4,V,_,N',rfl,?_,fun j hj=>by have:=h2 j hj;omega,?_,qaq h4,by omega⟩
 ·refine h1.fr fun j hj=>?_
  have:=h2 j hj;rw [qae,if_neg (by omega)]
 ·intro j hj hx;rw [qae,if_neg (by omega),h3 j (by omega) hx,qal,show look j [(N,AO.row 4 [[.fslice 1 [],.fslice 1 [],.fslice 2 [],.fslice 1 []]])]=none by simp [look];omega];simp
section
variable {O:List (Nat×AO)} {N:Nat} {S:SV} {p:Prg} {c:Config}
theorem StoreM.se (m:StoreM O S p c):look S.s O=some (.row 15 [[S.v1,S.v2,S.v3,S.v4,.str p.name,.slice 2 (p.headers.map Header.c),.slice 2 (p.metadata.map Fld.c),.slice 3 (p.registers.map Register.c),.slice 3 (p.actions.map Action.c),.slice 6 (p.tables.map Tbl.c),.slice 7 (p.states.map ParserState.c),.slice 5 (p.control.map ControlNode.c),.slice 1 (p.deparser.map cI),S.vi,.bool true]]):=by
 have hs:=m.s;simp only [SV.cells,Prg.e,List.cons_append,List.nil_append] at hs;exact hs
theorem StoreM.l1 (m:StoreM O S p c):lenOf S.v1=some c.rows.length:=by
 have:=m.cm.r.len;rw [List.length_map,m.cm.rl] at this;exact this
theorem qni (m:StoreM O S p c) (hl:c.rows.length=p.tables.length) (t:Int):qak Φ f_82 [.ptr S.s 15 0 0,.int .i64 t] ⟨O,N⟩=some (.val (.bool (inT p t)),⟨O,N⟩):=by
 rw [qbs (fn:=c_82) rfl rfl];have hs:=m.se;have l1:=m.l1;by_cases z:0≤t
 ·simp [c_82,hs,l1,z,inT,hl,-lenOf]
 ·simp [c_82,z,inT,-lenOf]
def rowI (p:Prg) (c:Config) (t id:Int):Int:=if inT p t then ((rIdx (qcb c t) id).map fun (j:Nat)=>(j:Int)).getD 0 else 0
def rowX (p:Prg) (c:Config) (t id:Int):Int:=if inT p t=false then 8 else if rIdx (qcb c t) id=none then 8 else 0
theorem StoreM.idx (m:StoreM O S p c) {k:Nat} (hk:k<c.rows.length):∃id es0,S.vi= .row id 1 0 c.rows.length∧look id O=some (.row 1 es0)∧c.rows.length≤es0.length∧∃hM:k<S.M.length,es0[k]? =some [.map (S.M[k])]∧look (S.M[k]) O=some (.map (ents c.rows[k])):=by
 have hl:=m.x.len;obtain ⟨id,es0,e,hl1,hle,ht⟩:=m.x.i.nonempty (by simp;omega);rw [List.length_map,hl] at e hle;have hM:k<S.M.length:=by omega
 refine ⟨id,es0,e,hl1,hle,hM,qe4 hM ht,m.x.m k _ _ (List.getElem?_eq_getElem hM) (List.getElem?_eq_getElem hk)⟩
theorem StoreM.tab (m:StoreM O S p c) {k:Nat} (hk:k<c.rows.length):∃id es0,S.v1= .row id 1 0 c.rows.length∧look id O=some (.row 1 es0)∧c.rows.length≤es0.length∧(∃hV:k<S.V.length,es0[k]? =some [S.V[k]]∧Mu O 5 S.V[k] (c.rows[k].map Rw.c))∧es0.take c.rows.length=S.V.map fun x=>[x]:=by
 have hl:=m.cm.rl;obtain ⟨id,es0,e,hl1,hle,ht⟩:=m.cm.r.nonempty (by simp;omega);have ht':=ht;rw [List.length_map,hl] at e hle ht';have hV:k<S.V.length:=by omega
 refine ⟨id,es0,e,hl1,hle,⟨hV,qe4 hV ht,m.cm.rv k _ _ (List.getElem?_eq_getElem hV) (List.getElem?_eq_getElem hk)⟩,ht'⟩
theorem qsy (m:StoreM O S p c) (hl:c.rows.length=p.tables.length) (t id:Int):qak Φ f_91 [.ptr S.s 15 0 0,.int .i64 t,.int .i64 id] ⟨O,N⟩=some (.val (.tup [.int .i64 (rowI p c t id),.int .i64 (rowX p c t id)]),⟨O,N⟩):=by
 rw [qbs (fn:=c_91) rfl rfl];have hs:=m.se;have ht:=qni (N:=N) m hl t;cases z:inT p t with
 | false=>
  rw [z] at ht;simp [c_91,hs,ht,rowI,rowX,z]
 | true=>
  rw [z] at ht;obtain ⟨k,rfl,hk⟩:=qe6 z;have hk':k<c.rows.length:=by omega
  obtain ⟨iid,es0,e,hi,hle,hM,g1,g2⟩:=m.idx hk';rw [e] at hs;have hf:=qxl id c.rows[k];have hke:k<es0.length:=by omega
  have hrow:qcb c (k:Int)=c.rows[k]:=qcu hk';cases hx:rIdx c.rows[k] id with
  | none=>
   rw [hx] at hf;simp [c_91,hs,ht,hi,hk',g1,g2,hf,rowI,rowX,z,hrow,hx]
  | some i=>
   rw [hx] at hf;simp [c_91,hs,ht,hi,hk',g1,g2,hf,rowI,rowX,z,hrow,hx]
end
def MDpost (N:Nat) (O:List (Nat×AO)) (S:SV) (p:Prg) (c':Config) (v:AV) (r:Option (Rt×AH)):Prop:=
 ∃S' O' N',r=some (.val v,⟨O',N'⟩)∧StoreM O' S' p c'∧S'.s=S.s∧(∀j,S'.own j→S.own j∨N≤j)∧Kp (fun j=>S.own j∨Rs O j) N O O'∧Tail O' N'∧N≤N'
theorem Mu.upd {O':List (Nat×AO)} {id z k:Nat} {es es0:List (List AV)} {y:List AV} (hl:look id O'=some (.row z (es0.set k y))) (hle:es.length≤es0.length) (ht:es0.take es.length=es):Mu O' z (.row id z 0 es.length) (es.set k y):=
 .row id _ _ _ (by simp) hl (by simpa using hle) (by rw [List.length_set,List.take_set,ht])
theorem qqp {O:List (Nat×AO)} {N:Nat} {S:SV} {p:Prg} {c:Config} (m:StoreM O S p c) (f:PrgS p) (hl:c.rows.length=p.tables.length) (hd:c.defaults.length=p.tables.length) (hT:Tail O N) (t:Int) (x:ActionCall) (hx:x.args.length<2^40):
  MDpost N O S p (if defE p t x=0 then defC c t x else c) (.int .i64 (defE p t x)) (qak Φ f_81 [.ptr S.s 15 0 0,.int .i64 t,.agg (ActionCall.c x)] ⟨O,N⟩):=by
 rw [qbs (fn:=c_81) rfl rfl];have t0:=hT N (Nat.le_refl _);have hk1:Kp (fun j=>S.own j∨Rs O j) N O (O++[(N,AO.row 2 [ActionCall.c x])]):=Kp.app (fun _ _ _=>rfl) (Nat.le_refl _);have hT1:=hT.app1 (o:=AO.row 2 [ActionCall.c x]) (Nat.le_refl N);have m1:StoreM (O++[(N,AO.row 2 [ActionCall.c x])]) S p c:=m.kp (X:=fun _=>False) hT (Kp.app (fun _ _ _=>rfl) (Nat.le_refl _)) (by simp);have b1:look N (O++[(N,AO.row 2 [ActionCall.c x])])=some (.row 2 [ActionCall.c x]):=by rw [qal,t0];simp
 have same:MDpost N O S p c (.int .i64 (defE p t x)) (some (.val (.int .i64 (defE p t x)),⟨O++[(N,AO.row 2 [ActionCall.c x])],N+1⟩)):=
  ⟨S,_,_,rfl,m1,rfl,fun j hj=> .inl hj,hk1,hT1,by omega⟩
 have hs:=m1.se;have ht:=qni (N:=N+1) m1 hl t;have hc:=qnd p f t x hx;have hcl:=qjw x hx;simp only [Prg.e] at hc;simp only [ActionCall.ce] at b1 hs ht hc hcl same;cases z:inT p t with
 | false=>
  have hE:defE p t x=8:=by simp [defE,z]
  rw [z] at ht;rw [hE] at same ⊢;simp [c_81,ActionCall.ce,t0,hs,ht];exact same
 | true=>
  have hE:defE p t x=qba p t x:=by simp [defE,z]
  rw [z] at ht;rw [hE] at same ⊢;by_cases q:qba p t x=0
  ·obtain ⟨k,rfl,hk⟩:=qe6 z;have hk':k<c.defaults.length:=by omega
   obtain ⟨did,es0,e,hi,hle,htk⟩:=m1.cm.d.nonempty (by simp;omega);rw [List.length_map] at e hle;rw [e] at hs;have hke:k<es0.length:=by omega
   have g1:=qe4 hk' htk;rw [q] at hc ⊢;simp only [ActionCall.ce] at hi;simp [c_81,ActionCall.ce,t0,hs,ht,hc,hcl,b1,hk',hi,g1];have hown:S.own did:= .inr (.inl (.inr (.inr (.inl (by rw [e];rfl)))));refine ⟨S,_,_,rfl,?_,rfl,fun j hj=> .inl hj,Kp.setl (by simpa only [ActionCall.ce] using hk1) (.inr (.inl hown)),qaq (by simpa only [ActionCall.ce] using hT1),by omega⟩;simp only [← ActionCall.ce] at hi ⊢;have keep:∀j o,look j (O++[(N,AO.row 2 [ActionCall.c x])])=some o→(∀es,o≠ .row 2 es)→look j (setl did (.row 2 (es0.set k (ActionCall.c x))) (O++[(N,AO.row 2 [ActionCall.c x])]))=look j (O++[(N,AO.row 2 [ActionCall.c x])]):=by
    intro j o ho hne;have hji:=qau ho hi (hne _);rw [qae,if_neg hji]
   have kmu:∀z v es,z≠2→Mu (O++[(N,AO.row 2 [ActionCall.c x])]) z v es→Mu (setl did (.row 2 (es0.set k (ActionCall.c x))) (O++[(N,AO.row 2 [ActionCall.c x])])) z v es:=by
    intro z v es hz hm;refine hm.fr fun j hj=>?_
    obtain ⟨es1,h1⟩:=hm.own hj;exact keep j _ h1 (by intro es2 h2;cases h2;exact hz rfl)
   refine ⟨?_,⟨kmu _ _ _ (by decide) m1.cm.r,m1.cm.rl,fun a v l hv hl=>kmu _ _ _ (by decide) (m1.cm.rv a v l hv hl),kmu _ _ _ (by decide) m1.cm.n,?_,m1.cm.g,m1.cm.rn,m1.cm.vi,m1.cm.va⟩,⟨kmu _ _ _ (by decide) m1.x.i,m1.x.len,?_,m1.x.nd⟩,m1.ri,m1.ni⟩
   ·rw [keep S.s _ m1.s (by simp)];exact m1.s
   ·have hmu:Mu (setl did (.row 2 (es0.set k (ActionCall.c x))) (O++[(N,AO.row 2 [ActionCall.c x])])) 2 (.row did 2 0 (c.defaults.map ActionCall.c).length) ((c.defaults.map ActionCall.c).set k (ActionCall.c x)):=
     Mu.upd (by rw [qae,if_pos rfl,hi];rfl) (by simpa using hle) htk
    rw [e];rw [← List.map_set,List.length_map] at hmu;exact hmu
   ·intro a b l ha hl2;have h0:=m1.x.m a b l ha hl2;rw [keep b _ h0 (by simp)];exact h0
  ·simp [c_81,ActionCall.ce,t0,hs,ht,hc,b1,q];exact same
theorem qpw:∀(l l':List Rw) (n:Nat),l.length=l'.length→(∀(j:Nat) (h1:j<l.length) (h2:j<l'.length),l[j].id=l'[j].id)→qd3 l n=qd3 l' n
 | [],[],n,_,_=>rfl
 | [],_::_,n,h,_=>by simp at h
 | _::_,[],n,h,_=>by simp at h
 | a::l,b::l',n,h,hi=>by
  have h0:=hi 0 (by simp) (by simp);simp at h0;simp only [qd3,h0];rw [qpw l l' (n+1) (by simpa using h) fun j h1 h2=>by
   have:=hi (j+1) (by simp;omega) (by simp;omega);simpa using this]
theorem qzs {l l':List Rw} (h:l.length=l'.length) (hi:∀(j:Nat) (h1:j<l.length) (h2:j<l'.length),l[j].id=l'[j].id):ents l=ents l':=qpw l l' 0 h hi
def SV.chg (S:SV) (k j:Nat):Prop:=(∃v,S.V[k]? =some v∧vid v=some j)∨vid S.v1=some j∨vid S.v2=some j∨vid S.vi=some j∨S.M[k]? =some j
def SV.tab (S:SV) (k:Nat) (v:AV) (m:Nat):SV:=⟨S.s,S.v1,S.v2,S.v3,S.v4,S.vi,S.V.set k v,S.M.set k m⟩
section
variable {O O':List (Nat×AO)} {S:SV} {p:Prg} {c:Config} {k:Nat}
theorem StoreM.vrow (m:StoreM O S p c) {j:Nat} {v:AV} {i:Nat} (hv:S.V[j]? =some v) (hi:vid v=some i):∃es,look i O=some (.row 5 es):=by
 have hj:=(List.getElem?_eq_some_iff.1 hv).1;exact (m.cm.rv j v _ hv (List.getElem?_eq_getElem (by rw [← m.cm.rl];exact hj))).own hi
theorem StoreM.mmap (m:StoreM O S p c) {j i:Nat} (hv:S.M[j]? =some i):∃es,look i O=some (.map es):=by
 have hj:=(List.getElem?_eq_some_iff.1 hv).1;exact ⟨_,m.x.m j i _ hv (List.getElem?_eq_getElem (by rw [← m.x.len];exact hj))⟩
theorem StoreM.upd (m:StoreM O S p c) (hk:k<c.rows.length) {v':AV} {m':Nat} {l':List Rw} {nx:Int}
  (keep:∀j,S.own j→¬S.chg k j→look j O'=look j O)
  (h1:Mu O' 1 S.v1 ((S.V.set k v').map fun x=>[x])) (h2:Mu O' 1 S.v2 ((c.nextID.set k nx).map cI)) (h3:Mu O' 1 S.vi ((S.M.set k m').map fun x=>[.map x])) (h4:Mu O' 5 v' (l'.map Rw.c)) (h5:look m' O'=some (.map (ents l')))
  (h6:∀z es t,v'≠ .app z es t) (d1:∀i,vid v'=some i→(∃v,S.V[k]? =some v∧vid v=some i)∨∀x,look i O=some x→x= .res) (d2:S.M[k]? =some m'∨∀x,look m' O=some x→x= .res):
  StoreM O' (S.tab k v' m') p ⟨c.rows.set k l',c.nextID.set k nx,c.defaults,c.registers⟩:=by
 have hVl:=m.cm.rl;have hMl:=m.x.len;have ks:look S.s O'=look S.s O:=by
  refine keep S.s (.inl rfl) ?_;rintro (⟨v,hv,hi⟩ | hi | hi | hi | hi)
  ·obtain ⟨es,hl⟩:=m.vrow hv hi;exact qau m.s hl (by simp) rfl
  ·obtain ⟨es,hl⟩:=m.cm.r.own hi;exact qau m.s hl (by simp) rfl
  ·obtain ⟨es,hl⟩:=m.cm.n.own hi;exact qau m.s hl (by simp) rfl
  ·obtain ⟨es,hl⟩:=m.x.i.own hi;exact qau m.s hl (by simp) rfl
  ·obtain ⟨es,hl⟩:=m.mmap hi;exact qau m.s hl (by simp) rfl
 have kv:∀(j:Nat) (v:AV) (i:Nat),j≠k→S.V[j]? =some v→vid v=some i→look i O'=look i O:=by
  intro j v i hj hv hi;obtain ⟨es0,hl0⟩:=m.vrow hv hi;refine keep i (.inr (.inl (.inr (.inr (.inr ⟨v,List.mem_of_getElem? hv,hi⟩))))) ?_;rintro (⟨w,hw,hi'⟩ | hi' | hi' | hi' | hi')
  ·exact hj (m.cm.vi j k v w i hv hw hi hi')
  ·obtain ⟨es,hl⟩:=m.cm.r.own hi';exact qau hl0 hl (by simp) rfl
  ·obtain ⟨es,hl⟩:=m.cm.n.own hi';exact qau hl0 hl (by simp) rfl
  ·obtain ⟨es,hl⟩:=m.x.i.own hi';exact qau hl0 hl (by simp) rfl
  ·obtain ⟨es,hl⟩:=m.mmap hi';exact qau hl0 hl (by simp) rfl
 have km:∀(j i:Nat),j≠k→S.M[j]? =some i→look i O'=look i O:=by
  intro j i hj hv;obtain ⟨es0,hl0⟩:=m.mmap hv;refine keep i (.inr (.inr (.inr (List.mem_of_getElem? hv)))) ?_;rintro (⟨w,hw,hi'⟩ | hi' | hi' | hi' | hi')
  ·obtain ⟨es,hl⟩:=m.vrow hw hi';exact qau hl0 hl (by simp) rfl
  ·obtain ⟨es,hl⟩:=m.cm.r.own hi';exact qau hl0 hl (by simp) rfl
  ·obtain ⟨es,hl⟩:=m.cm.n.own hi';exact qau hl0 hl (by simp) rfl
  ·obtain ⟨es,hl⟩:=m.x.i.own hi';exact qau hl0 hl (by simp) rfl
  ·exact hj (m.x.nd j k i hv hi')
 have kd:Mu O' 2 S.v3 (c.defaults.map ActionCall.c):=by
  refine m.cm.d.fr fun i hi=>?_
  obtain ⟨es0,hl0⟩:=m.cm.d.own hi;refine keep i (.inr (.inl (.inr (.inr (.inl hi))))) ?_;rintro (⟨w,hw,hi'⟩ | hi' | hi' | hi' | hi')
  ·obtain ⟨es,hl⟩:=m.vrow hw hi';exact qau hl0 hl (by simp) rfl
  ·obtain ⟨es,hl⟩:=m.cm.r.own hi';exact qau hl0 hl (by simp) rfl
  ·obtain ⟨es,hl⟩:=m.cm.n.own hi';exact qau hl0 hl (by simp) rfl
  ·obtain ⟨es,hl⟩:=m.x.i.own hi';exact qau hl0 hl (by simp) rfl
  ·obtain ⟨es,hl⟩:=m.mmap hi';exact qau hl0 hl (by simp) rfl
 have other:∀(j:Nat) (v:AV) (i:Nat),j≠k→S.V[j]? =some v→vid v=some i→vid v'=some i→False:=by
  intro j v i hj hv hi hi';rcases d1 i hi' with ⟨w,hw,hw'⟩ | hf
  ·exact hj (m.cm.vi j k v w i hv hw hi hw')
  ·obtain ⟨es,hl⟩:=m.vrow hv hi;have:=hf _ hl;cases this
 refine ⟨?_,⟨h1,by simp [SV.tab,hVl],?_,h2,kd,m.cm.g,m.cm.rn,?_,?_⟩,⟨h3,by simp [SV.tab,hMl],?_,?_⟩,m.ri,m.ni⟩
 ·show look S.s O'=_;rw [ks];exact m.s
 ·intro j v l hv hl;simp only [SV.tab] at hv;by_cases hj:k=j
  ·subst hj;rw [List.getElem?_set_self (by omega)] at hv hl;cases hv;cases hl;exact h4
  ·rw [List.getElem?_set_ne hj] at hv hl;have h0:=m.cm.rv j v l hv hl;exact h0.fr fun i hi=>kv j v i (fun e=>hj e.symm) hv hi
 ·intro a b v w i ha hb hi hi';simp only [SV.tab] at ha hb;by_cases hka:k=a
  ·by_cases hkb:k=b
   ·omega
   ·subst hka;rw [List.getElem?_set_self (by omega)] at ha;rw [List.getElem?_set_ne hkb] at hb;cases ha;exact (other b w i (fun e=>hkb e.symm) hb hi' hi).elim
  ·by_cases hkb:k=b
   ·subst hkb;rw [List.getElem?_set_self (by omega)] at hb;rw [List.getElem?_set_ne hka] at ha;cases hb;exact (other a v i (fun e=>hka e.symm) ha hi hi').elim
   ·rw [List.getElem?_set_ne hka] at ha;rw [List.getElem?_set_ne hkb] at hb;exact m.cm.vi a b v w i ha hb hi hi'
 ·intro v hv;simp only [SV.tab] at hv;rcases List.mem_or_eq_of_mem_set hv with hv | rfl
  ·exact m.cm.va v hv
  ·exact h6
 ·intro j i l hi hl;simp only [SV.tab] at hi;by_cases hj:k=j
  ·subst hj;rw [List.getElem?_set_self (by omega)] at hi hl;cases hi;cases hl;exact h5
  ·rw [List.getElem?_set_ne hj] at hi hl;rw [km j i (fun e=>hj e.symm) hi];exact m.x.m j i l hi hl
 ·intro a b i ha hb;simp only [SV.tab] at ha hb;have oth:∀j,j≠k→S.M[j]? =some m'→False:=by
   intro j hj hv;rcases d2 with h0 | hf
   ·exact hj (m.x.nd j k m' hv h0)
   ·obtain ⟨es,hl⟩:=m.mmap hv;have:=hf _ hl;cases this
  by_cases hka:k=a
  ·by_cases hkb:k=b
   ·omega
   ·subst hka;rw [List.getElem?_set_self (by omega)] at ha;rw [List.getElem?_set_ne hkb] at hb;cases ha;exact (oth b (fun e=>hkb e.symm) hb).elim
  ·by_cases hkb:k=b
   ·subst hkb;rw [List.getElem?_set_self (by omega)] at hb;rw [List.getElem?_set_ne hka] at ha;cases hb;exact (oth a (fun e=>hka e.symm) ha).elim
   ·rw [List.getElem?_set_ne hka] at ha;rw [List.getElem?_set_ne hkb] at hb;exact m.x.nd a b i ha hb
end
end Go.Av
