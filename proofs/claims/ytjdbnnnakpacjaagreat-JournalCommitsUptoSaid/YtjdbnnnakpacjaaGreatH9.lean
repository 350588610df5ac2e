/-
 A store in memory; store.load.
-/
import Derived.Test.YtjdbnnnakpacjaaGreatH1
import Derived.Test.YtjdbnnnakpacjaaGreatW25K
set_option linter.unusedVariables false
set_option linter.unusedSimpArgs false
set_option linter.constructorNameAsVariable false
namespace Go.Av
set_option maxRecDepth 4000
structure SV where
 s:Nat
 v1:AV
 v2:AV
 v3:AV
 v4:AV
 vi:AV
 V:List AV
 M:List Nat
def SV.cells (S:SV) (p:Prg):List AV:=S.v1::S.v2::S.v3::S.v4::(Prg.c p++[S.vi,.bool true])
structure IdxM (O:List (Nat×AO)) (vi:AV) (M:List Nat) (R:List (List Rw)):Prop where
 i:Mu O 1 vi (M.map fun m=>[.map m])
 len:M.length=R.length
 m:∀(k m:Nat) (l:List Rw),M[k]? =some m->R[k]? =some l->look m O=some (.map (ents l))
 nd:∀(k k' m:Nat),M[k]? =some m->M[k']? =some m->k=k'
structure StoreM (O:List (Nat×AO)) (S:SV) (p:Prg) (c:Xf):Prop where
 s:look S.s O=some (.row 15 [S.cells p])
 cm:CfgM O S.v1 S.v2 S.v3 S.v4 S.V c
 x:IdxM O S.vi S.M c.rows
 ri:∀i,vid S.v1=some i->vid S.vi=some i->False
 ni:∀i,vid S.v2=some i->vid S.vi=some i->False
def SV.own (S:SV) (j:Nat):Prop:=j=S.s\/CfgM.own S.v1 S.v2 S.v3 S.V j\/vid S.vi=some j\/j∈S.M
theorem IdxM.fr {O O':List (Nat×AO)} {vi:AV} {M:List Nat} {R:List (List Rw)} (h:IdxM O vi M R) (hf:∀j,vid vi=some j\/j∈M->look j O'=look j O):IdxM O' vi M R:=
 ⟨h.i.fr fun j hj=>hf j (.inl hj),h.len,fun k m l hm hl=>by rw [hf m (.inr (Qe hm))];exact h.m k m l hm hl,h.nd⟩
theorem StoreM.fr {O O':List (Nat×AO)} {S:SV} {p:Prg} {c:Xf} (h:StoreM O S p c) (hf:∀j,S.own j->look j O'=look j O):StoreM O' S p c:=
 ⟨by rw [hf _ (.inl rfl)];exact h.s,h.cm.fr fun j hj=>hf j (.inr (.inl hj)),h.x.fr fun j hj=>hf j (.inr (.inr hj)),h.ri,h.ni⟩
theorem CfgM.own_lk {O:List (Nat×AO)} {v1 v2 v3 v4:AV} {V:List AV} {c:Xf} (h:CfgM O v1 v2 v3 v4 V c) {j:Nat} (hj:CfgM.own v1 v2 v3 V j):∃z es,look j O=some (.row z es)/\(z=1\/z=2\/z=5):=by
 rcases hj with hj | hj | hj | ⟨v,hv,hj⟩
 ·obtain ⟨es,hl⟩:=h.r.own hj;exact ⟨1,es,hl,.inl rfl⟩
 ·obtain ⟨es,hl⟩:=h.n.own hj;exact ⟨1,es,hl,.inl rfl⟩
 ·obtain ⟨es,hl⟩:=h.d.own hj;exact ⟨2,es,hl,.inr (.inl rfl)⟩
 ·obtain ⟨k,hk,rfl⟩:=Qn.1 hv;have hk2:k<c.rows.length:=by rw [<- h.rl];exact hk
  obtain ⟨es,hl⟩:=(h.rv k _ _ (Qa hk) (Qa hk2)).own hj;exact ⟨5,es,hl,.inr (.inr rfl)⟩
theorem IdxM.own_lk {O:List (Nat×AO)} {vi:AV} {M:List Nat} {R:List (List Rw)} (h:IdxM O vi M R) {j:Nat} (hj:j∈M):∃es,look j O=some (.map es):=by
 obtain ⟨k,hk,rfl⟩:=Qn.1 hj;have hk2:k<R.length:=by rw [<- h.len];exact hk
 exact ⟨_,h.m k _ _ (Qa hk) (Qa hk2)⟩
theorem StoreM.own_lk {O:List (Nat×AO)} {S:SV} {p:Prg} {c:Xf} (h:StoreM O S p c) {j:Nat} (hj:S.own j):∃x,look j O=some x/\x≠ .res:=by
 rcases hj with rfl | hj | hj | hj
 ·exact ⟨_,h.s,by simp⟩
 ·obtain ⟨z,es,hl,_⟩:=h.cm.own_lk hj;exact ⟨_,hl,by simp⟩
 ·obtain ⟨es,hl⟩:=h.x.i.own hj;exact ⟨_,hl,by simp⟩
 ·obtain ⟨es,hl⟩:=h.x.own_lk hj;exact ⟨_,hl,by simp⟩
theorem StoreM.kp {O O':List (Nat×AO)} {N:Nat} {X:Nat->Prop} {S:SV} {p:Prg} {c:Xf} (h:StoreM O S p c) (hT:Tail O N) (hk:Kp X N O O') (hx:∀j,S.own j->¬X j):StoreM O' S p c:=by
 refine h.fr fun j hj=>?_
 obtain ⟨x,hl,_⟩:=h.own_lk hj;exact hk j (hT.lt hl) (hx j hj)
theorem CfgM.re {O:List (Nat×AO)} {v1 v2 v3 v4:AV} {V:List AV} {c:Xf} (h:CfgM O v1 v2 v3 v4 V c):CfgR O v1 v2 v3 v4 V c:=
 ⟨⟨h.r.re,h.rl,fun k x l hx hl=>(h.rv k x l hx hl).re⟩,h.n.re,h.d.re,by rcases h.g with e | ⟨t,e⟩;exact .inr (.inl e);exact .inr (.inr ⟨t,e⟩)⟩
theorem CfgR.imm {O:List (Nat×AO)} (c:Xf):CfgR O (.slice 1 (c.rows.map (cS 5 Rw.c))) (.slice 1 (c.Xr.map cI)) (.slice 2 (c.Xq.map Xb.c)) (.slice 1 (c.Xm.map (cS 1 c32))) (c.rows.map fun l=> .slice 5 (l.map Rw.c)) c:=by
 refine ⟨⟨?_,by simp,?_⟩,.sl _,.sl _,.inl rfl⟩
 ·have:(c.rows.map fun l=>AV.slice 5 (l.map Rw.c)).map (fun x=>[x])=c.rows.map (cS 5 Rw.c):=by
   rw [List.map_map];rfl
  rw [this];exact .sl _
 ·intro k x l hx hl;rw [List.getElem?_map,hl] at hx;cases hx;exact .sl _
def Rs (O:List (Nat×AO)) (j:Nat):Prop:=look j O=some .res
def qy2 (N:Nat) (O:List (Nat×AO)) (p:Prg) (c:Xf) (r:Option (Rt×AH)):Prop:=
 ∃S O' N',r=some (.val (.ptr S.s 15 0 0),⟨O',N'⟩)/\StoreM O' S p c/\(∀j,S.own j->N<=j)/\Kp (Rs O) N O O'/\Tail O' N'/\N<=N'
theorem qwi (p:Prg) (op:p.Ok qbe) (c:Xf) (u:CfgU c) (hinc:∀l∈c.rows,l.Pairwise fun a b=>a.id<b.id) {v1 v2 v3 v4:AV} {A:List AV} {O:List (Nat×AO)} {N:Nat} (hT:Tail O N) (h:CfgR O v1 v2 v3 v4 A c):
  qy2 N O p c (qak Φ f_88 [.agg (Prg.c p),.agg [v1,v2,v3,v4]] ⟨O,N⟩):=by
 rw [qaz (fn:=c_88) rfl rfl];have hcl:=qrm p op;simp only [Prg.e] at hcl;have t0:=hT N (Qb _);have t13:=hT (N+1+12) (by omega);have n13:¬N=N+1+12:=by omega
 simp [c_88,Prg.e,t0,qai];have hT1:Tail (O++[(N,AO.row 4 [[v1,v2,v3,v4]]),(N+1+12,AO.res)]) (N+1+12+1):=by
  rw [Tail_append_iff,qa7,qa7];exact ⟨hT.mono (by omega),by omega,by omega,Tail.nil _⟩
 have hk1:Kp (fun _=>False) N O (O++[(N,AO.row 4 [[v1,v2,v3,v4]]),(N+1+12,AO.res)]):=Kp.appL (fun _ _ _=>rfl) (by simp;omega);have hres:look (N+1+12) (O++[(N,AO.row 4 [[v1,v2,v3,v4]]),(N+1+12,AO.res)])=some .res:=by simp [t13,n13]
 obtain ⟨w1,w2,w3,w4,V,O2,N2,e2,m2,f2,hk2,hT2,hN2⟩:=qj6 c u hT1 (h.kp hT hk1 (by simp));have hres2:look (N+1+12) O2=some .res:=hk2.lk hT1 hres (by simp);rw [e2];have hs1:∀cs,look (N+1+12) (qa2 (setl (N+1+12) (.row 15 cs) O2))=some (.row 15 cs):=fun cs=>by
  rw [qav (by simp [qac,hres2])];simp [qac,hres2]
 have hs2:∀cs,Tail (qa2 (setl (N+1+12) (.row 15 cs) O2)) N2:=fun cs=>qdl (qaj hT2)
 have hs3:∀cs,look N2 (qa2 (setl (N+1+12) (.row 15 cs) O2))=none:=fun cs=>hs2 cs _ (Qb _)
 have hs4:∀cs z es j,z≠15->look j O2=some (.row z es)->look j (qa2 (setl (N+1+12) (.row 15 cs) O2))=some (.row z es):=fun cs z es j hz hl=>by
  have hne:j≠N+1+12:=qan hl hres2 (by simp);rw [qav (by simp [qac,hne,hl])];simp [qac,hne,hl]
 have hs5:∀cs,Kp (Rs O) N O (qa2 (setl (N+1+12) (.row 15 cs) O2)):=fun cs j hj hx=>by
  have hne:j≠N+1+12:=by omega
  have h2:look j O2=look j O:=(hk2 j (by omega) (by simp)).trans (hk1 j hj (by simp));rw [qav (by rw [qac,QA hne,h2];exact hx),qac,QA hne,h2]
 have n2:¬N2=N+1+12:=by omega
 have l1:=m2.r.len;rw [QAc,m2.rl] at l1;have hrl:=u.t.rl;have b1:(c.rows.length:Int)*8<=140737488355328:=by omega
 have b2:c.rows.length<4611686018427387904:=by omega
 have w1c:=m2.r.cells;simp [hcl,hres2,hs1,hs3,qai,qac,l1,n2,b1,b2,-lenOf,-AV.cells];generalize hO3:setl (N+1+12) _ (_++[(N2,AO.row 1 (List.replicate c.rows.length [AV.nilmap]))])=O3;have hT3:Tail O3 (N2+1):=by rw [<- hO3];exact qaj ((hs2 _).app1 (Qb _))
 have hk3:Kp (Rs O) N O O3:=by rw [<- hO3];exact Kp.setl (Kp.app (hs5 _) (by omega)) (.inl (by omega))
 have ls:look (N+1+12) O3=some (.row 15 [w1::w2::w3::w4::(Prg.c p++[.row N2 1 0 c.rows.length,.bool true])]):=by
  rw [<- hO3,qac,QAa rfl,qai,hs1,Prg.e];rfl
 have li:look N2 O3=some (.row 1 (List.replicate c.rows.length [AV.nilmap])):=by
  rw [<- hO3,qac,QA n2,qai,hs3];simp
 have lo:∀z es j,z≠15->look j O2=some (.row z es)->look j O3=look j O2:=fun z es j hz hl=>by
  have hne:j≠N+1+12:=qan hl hres2 (by simp);rw [<- hO3,qac,QA hne,qai,hs4 _ z es j hz hl,hl];rfl
 have m3:CfgM O3 w1 w2 w3 w4 V c:=m2.fr fun j hj=>by
  obtain ⟨z,es,hl,hz⟩:=m2.own_lk hj;exact lo z es j (by omega) hl
 clear hO3;have fo:∀j,CfgM.own w1 w2 w3 V j->j≠N2:=fun j hj=>by
  obtain ⟨z,es,hl,hz⟩:=m2.own_lk hj;have:=hT2.lt hl;omega
 refine qgx c.rows.length (fun i e h=>∃(O':List (Nat×AO)) (N':Nat) (M:List Nat),h=⟨O',N'⟩/\Kp (fun j=>j=N2) (N2+1) O3 O'/\Tail O' N'/\N2+1<=N'/\look N2 O'=some (.row 1 (M.map (fun m=>[AV.map m])++List.replicate (c.rows.length - i) [AV.nilmap]))/\M.length=i/\
   (∀(k m:Nat) (l:List Rw),M[k]? =some m->c.rows[k]? =some l->look m O'=some (.map (ents l)))/\(∀m∈M,N2+1<=m)/\(∀(k k' m:Nat),M[k]? =some m->M[k']? =some m->k=k')/\
   look 5 e=some (.ptr (N+1+12) 15 0 0)/\look 28 e=some (.int .i64 c.rows.length)/\look 29 e=some (.int .i64 i)) (qy2 N O p c) ?_ ?_ 0 _ _ (Qc _) ?_
 ·rintro i e _ L hi hL ⟨O',N',M,rfl,hk',hT',hN',ln,hMl,hMe,hMf,hMn,e5,e28,e29⟩ ih;have hw:=qaf i (by omega);have hVi:i<V.length:=by rw [m2.rl];exact hi
  have ls':=hk'.lk hT3 ls (by omega);have m3':CfgM O' w1 w2 w3 w4 V c:=m3.fr fun j hj=>by
   obtain ⟨z,es,hl,hz⟩:=m3.own_lk hj;exact hk' j (hT3.lt hl) (fo j hj)
  have hes:(M.map (fun m=>[AV.map m])++List.replicate (c.rows.length - i) [AV.nilmap]).length=c.rows.length:=by simp [hMl];omega
  have hr:=qpe (k:=i) (n:=c.rows.length) (V:=V) (l:=c.rows[i]) (R:=Prg.c p) hT' (u.u _ (Qd hi)) hi hVi ls' (by simp) ln (Nat.le_of_eq hes.symm) ?_ m3'.r (m3'.rv i _ _ (Qa hVi) (Qa hi)) ?_ (hinc _ (Qd hi)) (by omega)
  rotate_left
  ·refine ⟨.nilmap,?_⟩;rw [Qp (by simp;omega),List.getElem?_replicate,QAa (by simp [hMl];omega)]
  ·intro hc;exact fo N2 (.inl hc) rfl
  obtain ⟨O4,N4,e4,r1,r2,hk4,hT4,hN4⟩:=hr;simp [c_88_l0,e5,e28,e29,hi,e4,hw];refine ih _ _ ⟨O4,N4,M++[N'],rfl,?_,hT4,by omega,?_,by simp [hMl],?_,?_,?_,?_,?_,?_⟩
  ·intro j hj hx;rw [hk4 j (by omega) hx,hk' j hj hx]
  ·rw [r1];congr 1;have hd:c.rows.length - i=(c.rows.length - (i+1))+1:=by omega
   rw [hd,QCp,List.set_append_right _ _ (by simp [hMl])];simp [hMl]
  ·intro k m l hm hl;by_cases hk:k<M.length
   ·rw [Ql hk] at hm;have h0:=hMe k m l hm hl;exact hk4.lk hT' h0 (by have:=hMf m (Qe hm);omega)
   ·have hb:=(Qm.1 hm).1;simp at hb;have hk:k=M.length:=by omega
    subst hk;rw [Qp (by omega)] at hm;simp at hm;subst hm;rw [hMl,Qa hi] at hl;cases hl;exact r2
  ·intro m hm;rcases QAg.1 hm with hm | hm
   ·exact hMf m hm
   ·simp at hm;omega
  ·intro k k' m hm hm';have hb:=(Qm.1 hm).1;have hb':=(Qm.1 hm').1;simp at hb hb';have hlt:∀m,m∈M->m<N':=fun m hm=>by
    obtain ⟨q,hq,rfl⟩:=Qn.1 hm;exact hT'.lt (hMe q _ _ (Qa hq) (Qa (by omega)))
   by_cases hk:k<M.length
   ·by_cases hk':k'<M.length
    ·rw [Ql hk] at hm;rw [Ql hk'] at hm';exact hMn k k' m hm hm'
    ·rw [Ql hk] at hm;rw [Qp (by omega),show k' - M.length=0 by omega] at hm';simp at hm';have:=hlt m (Qe hm);omega
   ·by_cases hk':k'<M.length
    ·rw [Ql hk'] at hm';rw [Qp (by omega),show k - M.length=0 by omega] at hm;simp at hm;have:=hlt m (Qe hm');omega
    ·omega
  ·simp [e5]
  ·simp [e28]
  ·simp
 ·rintro e _ L hL ⟨O',N',M,rfl,hk',hT',hN',ln,hMl,hMe,hMf,hMn,e5,e28,e29⟩;simp [c_88_l0,c_88_k1,e5,e28,e29,hL];have ls':=hk'.lk hT3 ls (by omega);have m3':CfgM O' w1 w2 w3 w4 V c:=m3.fr fun j hj=>by
   obtain ⟨z,es,hl,hz⟩:=m3.own_lk hj;exact hk' j (hT3.lt hl) (fo j hj)
  refine ⟨⟨N+1+12,w1,w2,w3,w4,.row N2 1 0 c.rows.length,V,M⟩,O',N',rfl,⟨ls',m3',⟨?_,hMl,hMe,hMn⟩,?_,?_⟩,?_,?_,hT',by omega⟩
  ·rw [Nat.sub_self,List.replicate_zero,List.append_nil] at ln;exact .row N2 _ _ _ (by simp [hMl]) ln (Qb _) (by rw [QAf])
  ·intro j h1 h2;cases h2;exact fo _ (.inl h1) rfl
  ·intro j h1 h2;cases h2;exact fo _ (.inr (.inl h1)) rfl
  ·intro j hj;rcases hj with rfl | hj | hj | hj
   ·simp only;omega
   ·have:=f2 j hj;omega
   ·cases hj;omega
   ·have:=hMf j hj;omega
  ·intro j hj hx;rw [hk' j (by omega) (by omega)];exact hk3 j hj hx
 ·exact ⟨O3,N2+1,[],rfl,fun _ _ _=>rfl,hT3,Qb _,by simpa using li,rfl,by simp,by simp,by simp,by simp,by simp,by simp⟩
theorem qfd {O:List (Nat×AO)} {n p:Nat} {o:AO} (h:Tail O n) (hp:p<n):Tail (O++[(p,o)]) n:=by
 rw [Tail_append_iff,qa7];exact ⟨h,hp,Tail.nil _⟩
theorem qo6 {n:Nat} {H:AH} {β:Type} (x:List AV) (h:mapO (snap n H) x=some x) (l:List β):mapO (mapO (snap n H)) (l.map fun _=>x)=some (l.map fun _=>x):=qdz (g:=fun _=>x) (fun _=>h) l
theorem qab4 (p:Prg) (f:PrgS p) (hd:∀t∈p.Xn,t.dflt.args.length<2^40):qab Φ f_38 [.agg (Prg.c p)]=some (.val (.agg (Xf.c (qbw p)))):=by
 rw [qaa (fn:=c_38) rfl rfl,qtd];have ht:=f.t;have h:=qajz p f;simp only [Prg.e] at h;generalize (newR p).map (cS 1 c32)=W at h ⊢;generalize hQ:(fun r:Option Rt=>r=some (Rt.val (.agg [.slice 1 (p.Xn.map fun _=>[.slice 5 []]),.slice 1 (p.Xn.map fun _=>[.int .i64 1]),.slice 2 (p.Xn.map fun t=>[.int .i64 t.dflt.action,.slice 1 (t.dflt.args.map c32)]),.slice 1 W])))=Q;have hq:∀r,Q r=(r=some (Rt.val (.agg [.slice 1 (p.Xn.map fun _=>[.slice 5 []]),.slice 1 (p.Xn.map fun _=>[.int .i64 1]),.slice 2 (p.Xn.map fun t=>[.int .i64 t.dflt.action,.slice 1 (t.dflt.args.map c32)]),.slice 1 W]))):=fun r=>by rw [<- hQ]
 rw [<- hq];clear hQ;simp [c_38,Prg.e,h];refine qgx p.Xn.length (fun i e h=>∃(O':List (Nat×AO)) (N':Nat) (w1 w2 w3:AV),h=⟨O',N'⟩/\Tail O' N'/\look 0 O'=some (.row 4 [[.Xu 1 [],.Xu 1 [],.Xu 2 [],.Xu 1 []]])/\look 1 O'=some (.row 4 [[w1,w2,w3,.slice 1 W]])/\
   ((i=0/\w1= .Xu 1 []/\w2= .Xu 1 []/\w3= .Xu 2 [])\/∃a b t,w1= .row a 1 0 i/\look a O'=some (.row 1 ((p.Xn.map fun _=>[AV.slice 5 []]).take i))/\w2= .row b 1 0 i/\look b O'=some (.row 1 ((p.Xn.map fun _=>[AV.int .i64 1]).take i))/\a≠b/\
    w3= .app 2 ((p.Xn.map fun t=>[AV.int .i64 t.dflt.action,.slice 1 (t.dflt.args.map c32)]).take i) t/\look t O'=some (.tok 2 i))/\
   look 2 e=some (.ptr 0 4 0 0)/\look 3 e=some (.ptr 1 4 0 0)/\look 10 e=some (.slice 6 (p.Xn.map Tbl.c))/\look 11 e=some (.int .i64 p.Xn.length)/\look 12 e=some (.int .i64 i)) Q ?_ ?_ 0 _ _ (Qc _) ?_
 ·rintro i e _ L hi hL ⟨O',N',w1,w2,w3,rfl,hT',l0,l1,hw,e2,e3,e10,e11,e12⟩ ih;have hw1:=qaf i (by omega);have hc:=qi0 p.Xn[i].dflt (hd _ (Qd hi));simp only [Xb.ce] at hc;have t0:=hT' N' (Qb _);have t1:=hT' (N'+1) (by omega);have t2:=hT' (N'+2) (by omega);have t3:=hT' (N'+3) (by omega);have hTm:Tail O' (N'+1+1+1+1):=hT'.mono (by omega);have nz:¬N'=0:=by have:=hT'.lt l1;omega
  have f0:=qca hT' l0 (Qb N');have f1:=qca hT' l1 (Qb N');have g1:¬1=N'+1/\¬N'+1=1:=by omega
  have g2:¬1=N'+2/\¬N'+2=1:=by omega
  have g3:¬1=N'+3/\¬N'+3=1:=by omega
  have g4:¬0=N'+1/\¬0=N'+2/\¬0=N'+3:=by omega
  have s1:∀{β:Type} (g:Tbl->β),(p.Xn.map g).take (i+1)=(p.Xn.map g).take i++[g p.Xn[i]]:=fun g=>qaw hi
  rcases hw with ⟨rfl,rfl,rfl,rfl⟩ | ⟨a,b,t,rfl,la,rfl,lb,hab,rfl,lt⟩
  ·have s2:∀{β:Type} (g:Tbl->β),(p.Xn.map g).take 1=[g p.Xn[0]]:=fun g=>by simpa using s1 g
   simp [c_38_l0,Tbl.e,e3,e10,e11,e12,hi,hc,t0,t1,t2,t3,wr1,qai,qac,l1];refine ih _ _ ⟨_,_,.row (N'+1) 1 0 1,.row (N'+1+1) 1 0 1,.app 2 _ (N'+1+1+1),rfl,?_,?_,?_,.inr ⟨N'+1,N'+1+1,N'+1+1+1,rfl,?_,rfl,?_,by omega,by rw [s1],?_⟩,?_,?_,?_,?_,?_⟩
   ·repeat' first | exact hTm | apply qaj | apply qdk | apply qfd | omega
   ·simp [qai,qac,l0,nz]
   ·simp [qai,qac,l1]
   ·simp [qai,qac,t1,s2,nz]
   ·simp [qai,qac,t2,s2]
   ·simp [qai,qac,t3]
   all_goals simp [e2,e3,e10,e11]
  ·have i0:0≠a:=qan l0 la (by simp);have i1:1≠a:=qan l1 la (by simp);have i2:0≠b:=qan l0 lb (by simp);have i3:1≠b:=qan l1 lb (by simp);have i4:t≠a:=qan lt la (by simp);have i5:t≠b:=qan lt lb (by simp);have i6:0≠t:=qan l0 lt (by simp);have i7:1≠t:=qan l1 lt (by simp);have fa:=qca hT' la (Qb N');have fa1:=qca (n:=N'+1) hT' la (by omega);have fb:=qca hT' lb (Qb N');have fb1:=qca (n:=N'+1) hT' lb (by omega);have fb2:=qca (n:=N'+1+1) hT' lb (by omega);have fc1:=qca (n:=N'+1) hT' lt (by omega);have fc2:=qca (n:=N'+1+1) hT' lt (by omega);have hm:min i p.Xn.length=i:=by omega
   have j0:=i0.symm;have j1:=i1.symm;have j2:=i2.symm;have j3:=i3.symm;have j4:=i4.symm;have j5:=i5.symm;have j6:=i6.symm;have j7:=i7.symm;have hba:b≠a:=fun e=>hab e.symm
   have c1:(i+1)*24<=70368744177664:=by omega
   have c2:(i+1)*8<=70368744177664:=by omega
   have c3:(i+1)*32<=70368744177664:=by omega
   simp [c_38_l0,Tbl.e,e3,e10,e11,e12,hi,hc,t0,t1,t2,hw1,qai,qac,qbi,qb3,l1,la,lb,lt,i1,i3,i4,i5,i7,j3,j7,nz,fa1,fb1,fb2,fc1,fc2,hba,hm,c1,c2,c3];refine ih _ _ ⟨_,_,.row (N'+1) 1 0 (i+1),.row (N'+1+1) 1 0 (i+1),.app 2 _ t,rfl,?_,?_,?_,.inr ⟨N'+1,N'+1+1,t,rfl,?_,rfl,?_,by omega,by rw [s1],?_⟩,?_,?_,?_,?_,?_⟩
   ·have hTn:Tail O' (N'+1+1+1):=hT'.mono (by omega)
    repeat' first | exact hTm | exact hTn | apply qaj | apply qdk | apply qfd | omega
   ·simp [qai,qac,qbi,l0,nz,i0,i2,i6]
   ·simp [qai,qac,qbi,l1,i1,i3,i7]
   ·simp [qai,qac,qbi,qb3,t1,s1,nz,fb1,fc1]
   ·simp [qai,qac,qbi,qb3,t2,s1,nz,fb2,fc2]
   ·simp [qai,qac,qbi,lt,i4,i5,j7]
   all_goals simp [e2,e3,e10,e11]
 ·rintro e _ L hL ⟨O',N',w1,w2,w3,rfl,hT',l0,l1,hw,e2,e3,e10,e11,e12⟩;simp [c_38_l0,c_38_k1,e2,e3,e11,e12,hL,l1,l0,qac];rw [hq];rcases hw with ⟨hz,rfl,rfl,rfl⟩ | ⟨a,b,t,rfl,la,rfl,lb,hab,rfl,lt⟩
  ·have:p.Xn=[]:=Qg hz;simp [this]
  ·rw [Qo (by simp)] at la lb;have i0:¬a=0:=fun e=>qan l0 la (by simp) e.symm
   have i2:¬b=0:=fun e=>qan l0 lb (by simp) e.symm
   have r1:=fun H=>qo6 (n:=38) (H:=H) [AV.slice 5 []] (by simp) p.Xn
   have r2:=fun H=>qo6 (n:=38) (H:=H) [AV.int .i64 1] (by simp) p.Xn
   have ht1:∀{β:Type} (g:Tbl->β),(p.Xn.map g).take p.Xn.length=p.Xn.map g:=fun g=>Qo (by simp)
   simp [la,lb,qac,i0,i2,ht1,r1,r2]
 ·refine ⟨_,_,.Xu 1 [],.Xu 1 [],.Xu 2 [],rfl,?_,?_,?_,.inl ⟨rfl,rfl,rfl,rfl⟩,?_,?_,?_,?_,?_⟩
  all_goals simp [qa7,qcw]
theorem qabg {p:Prg} {t:Int} {tb:Tbl} (h:(tblE p t).2=0) (ht:at? p.Xn t=some tb):tb.size<=256:=by
 unfold tblE at h;rw [ht] at h;simp only at h;split at h
 ·cases h
 split at h
 ·cases h
 split at h
 ·cases h
 ·omega
theorem qab6 {p:Prg} {t:Int} {x:Entry} (h:entE p t x=0):(tblE p t).2=0:=by
 unfold entE at h;refine Decidable.byContradiction fun hc=>?_
 rw [QAa hc] at h;exact hc h
theorem CfgV.small {p:Prg} {c:Xf} (v:CfgV p c):∀l∈c.rows,l.length<=256:=by
 intro l hl;obtain ⟨k,hk,rfl⟩:=Qn.1 hl;have hkt:k<p.Xn.length:=by rw [<- v.rl];exact hk
 have hv:=v.at hkt;by_cases h0:c.rows[k].length=0
 ·omega
 have he:=hv.ent _ (Qd (show 0<c.rows[k].length by omega));have hs:=qabg (qab6 he) (by rw [qiz];exact Qa hkt);have:=hv.size;omega
theorem CfgV.u {p:Prg} {c:Xf} (v:CfgV p c) (s:CfgT c):CfgU c:=⟨s,fun l hl=>by have:=v.small l hl;omega⟩
theorem CfgV.incs {p:Prg} {c:Xf} (v:CfgV p c):∀l∈c.rows,l.Pairwise fun a b=>a.id<b.id:=by
 intro l hl;obtain ⟨k,hk,rfl⟩:=Qn.1 hl;have hkt:k<p.Xn.length:=by rw [<- v.rl];exact hk
 exact (v.at hkt).inc
def qabp (N:Nat) (O:List (Nat×AO)) (p:Prg) (c:Xf) (r:Option (Rt×AH)):Prop:=
 (cfgE p c≠0/\r=some (.val (.tup [.nilptr,.int .i64 (cfgE p c)]),⟨O,N⟩))\/
 (cfgE p c=0/\∃S O' N',r=some (.val (.tup [.ptr S.s 15 0 0,.int .i64 0]),⟨O',N'⟩)/\StoreM O' S p c/\(∀j,S.own j->N<=j)/\Kp (Rs O) N O O'/\Tail O' N'/\N<=N')
theorem qv6 (p:Prg) (op:p.Ok qbe) (hc:(pre p.control).length<2^40 - 1) (c:Xf) (s:CfgT c) {O:List (Nat×AO)} {N:Nat} (hT:Tail O N):
  qabp N O p c (qak Φ f_41 [.agg (Prg.c p),.agg (Xf.c c)] ⟨O,N⟩):=by
 rw [qaz (fn:=c_41) rfl rfl];have f:=qg4 op;have hk:=qae3 p f hc c s;simp only [Prg.e,Xf.ce] at hk;by_cases z:cfgE p c=0
 ·have v:=(qgc p c).1 z;obtain ⟨S,O',N',e,h1,h2,h3,h4,h5⟩:=qwi p op c (v.u s) v.incs hT (CfgR.imm (O:=O) c);rw [z] at hk;simp only [Prg.e] at e;simp [c_41,Prg.e,Xf.ce,hk,e];exact .inr ⟨z,S,O',N',rfl,h1,h2,h3,h4,h5⟩
 ·simp [c_41,Prg.e,Xf.ce,hk,z];exact .inl ⟨z,rfl⟩
theorem qzn {p:Prg} (op:p.Ok qbe):CfgT (qbw p):=by
 have f:=qg4 op;have e:=qez;have ht:=f.t;have hr:=f.r;obtain ⟨_,_,_,_,_,o5,_⟩:=op;refine ⟨by simpa [qbw] using ht,?_,by simpa [qbw] using ht,by simpa [qbw] using ht,?_,by simpa [qbw,newR] using hr,?_⟩
 ·intro l hl;simp [qbw] at hl;obtain ⟨_,_,rfl⟩:=hl;simp
 ·intro d hd;simp [qbw] at hd;obtain ⟨t,ht,rfl⟩:=hd;have:=o5.2 t ht;simp only [Tbl.Ok,Xb.Ok] at this;exact ⟨by have:=this.2.2.2.1.2.1;omega,fun v hv=>this.2.2.2.1.2.2 v hv⟩
 ·intro l hl;simp [qbw,newR] at hl;obtain ⟨r,_,rfl⟩:=hl;have:=qahg r;refine ⟨by simp;omega,?_⟩;intro v hv;have:=QCg hv;subst this;exact ⟨by omega,by omega⟩
theorem qqv {p:Prg} {c:Xf} (u:CfgU c) {S:SV} {O:List (Nat×AO)} {N:Nat} (hT:Tail O N) (m:StoreM O S p c):qyy N O c (qak Φ f_43 [.ptr S.s 15 0 0] ⟨O,N⟩):=by
 rw [qaz (fn:=c_43) rfl rfl];have t0:=hT N (Qb _);have hs:=m.s;simp only [SV.cells,Prg.e,QAp,QBf] at hs;have fs:=qca hT hs (Qb N);have hk1:Kp (fun _=>False) N O (O++[(N,AO.row 4 [[.Xu 1 [],.Xu 1 [],.Xu 2 [],.Xu 1 []]])]):=Kp.app (fun _ _ _=>rfl) (Qb _);have hT1:=hT.app1 (o:=AO.row 4 [[.Xu 1 [],.Xu 1 [],.Xu 2 [],.Xu 1 []]]) (Qb N);obtain ⟨w1,w2,w3,w4,V,O',N',e,h1,h2,h3,h4,h5⟩:=qj6 c u hT1 (m.cm.re.kp hT hk1 (by simp));have ln:look N O'=some (.row 4 [[.Xu 1 [],.Xu 1 [],.Xu 2 [],.Xu 1 []]]):=h3.lk hT1 (by rw [qai,t0];simp) (by simp);simp [c_43,t0,qai,hs,e,ln,qac];refine ⟨w1,w2,w3,w4,V,_,N',rfl,?_,fun j hj=>by have:=h2 j hj;omega,?_,qaj h4,by omega⟩
 ·refine h1.fr fun j hj=>?_
  have:=h2 j hj;rw [qac,QA (by omega)]
 ·intro j hj hx;rw [qac,QA (by omega),h3 j (by omega) hx,qai,show look j [(N,AO.row 4 [[.Xu 1 [],.Xu 1 [],.Xu 2 [],.Xu 1 []]])]=none by simp [look];omega];simp
theorem CfgT.s {c:Xf} (t:CfgT c):CfgS c:=
 ⟨t.rl,fun l hl=>⟨(t.rs l hl).1,fun r hr=>⟨((t.rs l hl).2 r hr).kl,((t.rs l hl).2 r hr).al⟩⟩,t.nl,t.dl,fun d hd=>(t.ds d hd).1,t.gl,fun l hl=>(t.gs l hl).1⟩
theorem prgHv {p:Prg} (op:p.Ok qbe):∀t∈p.Xn,∀v∈t.dflt.args,ok32 0 v:=by
 intro t ht v hv;have:=op.2.2.2.2.2.1.2 t ht;simp only [Tbl.Ok,Xb.Ok] at this;exact this.2.2.2.1.2.2 v hv
section
variable {O:List (Nat×AO)} {N:Nat} {S:SV} {p:Prg} {c:Xf}
theorem StoreM.se (m:StoreM O S p c):look S.s O=some (.row 15 [[S.v1,S.v2,S.v3,S.v4,.str p.name,.slice 2 (p.Xp.map Xj.c),.slice 2 (p.Xo.map Fld.c),.slice 3 (p.Xm.map Xh.c),.slice 3 (p.actions.map Action.c),.slice 6 (p.Xn.map Tbl.c),.slice 7 (p.states.map Xd.c),.slice 5 (p.control.map Xa.c),.slice 1 (p.Xs.map cI),S.vi,.bool true]]):=by
 have hs:=m.s;simp only [SV.cells,Prg.e,QAp,QBf] at hs;exact hs
theorem StoreM.l1 (m:StoreM O S p c):lenOf S.v1=some c.rows.length:=by
 have:=m.cm.r.len;rw [QAc,m.cm.rl] at this;exact this
theorem qof (m:StoreM O S p c) (hl:c.rows.length=p.Xn.length) (t:Int):qak Φ f_158 [.ptr S.s 15 0 0,.int .i64 t] ⟨O,N⟩=some (.val (.bool (inT p t)),⟨O,N⟩):=by
 rw [qaz (fn:=c_158) rfl rfl];have hs:=m.se;have l1:=m.l1;by_cases z:0<=t
 ·simp [c_158,hs,l1,z,inT,hl,-lenOf]
 ·simp [c_158,z,inT,-lenOf]
def rowI (p:Prg) (c:Xf) (t id:Int):Int:=if inT p t then ((rIdx (qcm c t) id).map fun (j:Nat)=>(j:Int)).getD 0 else 0
def rowX (p:Prg) (c:Xf) (t id:Int):Int:=if inT p t=false then 8 else if rIdx (qcm c t) id=none then 8 else 0
theorem StoreM.idx (m:StoreM O S p c) {k:Nat} (hk:k<c.rows.length):∃id es0,S.vi= .row id 1 0 c.rows.length/\look id O=some (.row 1 es0)/\c.rows.length<=es0.length/\∃hM:k<S.M.length,es0[k]? =some [.map (S.M[k])]/\look (S.M[k]) O=some (.map (ents c.rows[k])):=by
 have hl:=m.x.len;obtain ⟨id,es0,e,hl1,hle,ht⟩:=m.x.i.nonempty (by simp;omega);rw [QAc,hl] at e hle;have hM:k<S.M.length:=by omega
 refine ⟨id,es0,e,hl1,hle,hM,qfr hM ht,m.x.m k _ _ (Qa hM) (Qa hk)⟩
theorem StoreM.tab (m:StoreM O S p c) {k:Nat} (hk:k<c.rows.length):∃id es0,S.v1= .row id 1 0 c.rows.length/\look id O=some (.row 1 es0)/\c.rows.length<=es0.length/\(∃hV:k<S.V.length,es0[k]? =some [S.V[k]]/\Mu O 5 S.V[k] (c.rows[k].map Rw.c))/\es0.take c.rows.length=S.V.map fun x=>[x]:=by
 have hl:=m.cm.rl;obtain ⟨id,es0,e,hl1,hle,ht⟩:=m.cm.r.nonempty (by simp;omega);have ht':=ht;rw [QAc,hl] at e hle ht';have hV:k<S.V.length:=by omega
 refine ⟨id,es0,e,hl1,hle,⟨hV,qfr hV ht,m.cm.rv k _ _ (Qa hV) (Qa hk)⟩,ht'⟩
theorem qun (m:StoreM O S p c) (hl:c.rows.length=p.Xn.length) (t id:Int):qak Φ f_155 [.ptr S.s 15 0 0,.int .i64 t,.int .i64 id] ⟨O,N⟩=some (.val (.tup [.int .i64 (rowI p c t id),.int .i64 (rowX p c t id)]),⟨O,N⟩):=by
 rw [qaz (fn:=c_155) rfl rfl];have hs:=m.se;have ht:=qof (N:=N) m hl t;cases z:inT p t with
 | false=>
  rw [z] at ht;simp [c_155,hs,ht,rowI,rowX,z]
 | true=>
  rw [z] at ht;obtain ⟨k,rfl,hk⟩:=qft z;have hk':k<c.rows.length:=by omega
  obtain ⟨iid,es0,e,hi,hle,hM,g1,g2⟩:=m.idx hk';rw [e] at hs;have hf:=qzx id c.rows[k];have hke:k<es0.length:=by omega
  have hrow:qcm c (k:Int)=c.rows[k]:=qda hk';cases hx:rIdx c.rows[k] id with
  | none=>
   rw [hx] at hf;simp [c_155,hs,ht,hi,hk',g1,g2,hf,rowI,rowX,z,hrow,hx]
  | some i=>
   rw [hx] at hf;simp [c_155,hs,ht,hi,hk',g1,g2,hf,rowI,rowX,z,hrow,hx]
end
def MDpost (N:Nat) (O:List (Nat×AO)) (S:SV) (p:Prg) (c':Xf) (v:AV) (r:Option (Rt×AH)):Prop:=
 ∃S' O' N',r=some (.val v,⟨O',N'⟩)/\StoreM O' S' p c'/\S'.s=S.s/\(∀j,S'.own j->S.own j\/N<=j)/\Kp (fun j=>S.own j\/Rs O j) N O O'/\Tail O' N'/\N<=N'
theorem Mu.upd {O':List (Nat×AO)} {id z k:Nat} {es es0:List (List AV)} {y:List AV} (hl:look id O'=some (.row z (es0.set k y))) (hle:es.length<=es0.length) (ht:es0.take es.length=es):Mu O' z (.row id z 0 es.length) (es.set k y):=
 .row id _ _ _ (by simp) hl (by simpa using hle) (by rw [List.length_set,List.take_set,ht])
theorem qr2 {O:List (Nat×AO)} {N:Nat} {S:SV} {p:Prg} {c:Xf} (m:StoreM O S p c) (f:PrgS p) (hl:c.rows.length=p.Xn.length) (hd:c.Xq.length=p.Xn.length) (hT:Tail O N) (t:Int) (x:Xb) (hx:x.args.length<2^40):
  MDpost N O S p (if defE p t x=0 then defC c t x else c) (.int .i64 (defE p t x)) (qak Φ f_95 [.ptr S.s 15 0 0,.int .i64 t,.agg (Xb.c x)] ⟨O,N⟩):=by
 rw [qaz (fn:=c_95) rfl rfl];have t0:=hT N (Qb _);have hk1:Kp (fun j=>S.own j\/Rs O j) N O (O++[(N,AO.row 2 [Xb.c x])]):=Kp.app (fun _ _ _=>rfl) (Qb _);have hT1:=hT.app1 (o:=AO.row 2 [Xb.c x]) (Qb N);have m1:StoreM (O++[(N,AO.row 2 [Xb.c x])]) S p c:=m.kp (X:=fun _=>False) hT (Kp.app (fun _ _ _=>rfl) (Qb _)) (by simp);have b1:look N (O++[(N,AO.row 2 [Xb.c x])])=some (.row 2 [Xb.c x]):=by rw [qai,t0];simp
 have same:MDpost N O S p c (.int .i64 (defE p t x)) (some (.val (.int .i64 (defE p t x)),⟨O++[(N,AO.row 2 [Xb.c x])],N+1⟩)):=
  ⟨S,_,_,rfl,m1,rfl,fun j hj=> .inl hj,hk1,hT1,by omega⟩
 have hs:=m1.se;have ht:=qof (N:=N+1) m1 hl t;have hc:=qoa p f t x hx;have hcl:=qi0 x hx;simp only [Prg.e] at hc;simp only [Xb.ce] at b1 hs ht hc hcl same;cases z:inT p t with
 | false=>
  have hE:defE p t x=8:=by simp [defE,z]
  rw [z] at ht;rw [hE] at same ⊢;simp [c_95,Xb.ce,t0,hs,ht];exact same
 | true=>
  have hE:defE p t x=qbg p t x:=by simp [defE,z]
  rw [z] at ht;rw [hE] at same ⊢;by_cases q:qbg p t x=0
  ·obtain ⟨k,rfl,hk⟩:=qft z;have hk':k<c.Xq.length:=by omega
   obtain ⟨did,es0,e,hi,hle,htk⟩:=m1.cm.d.nonempty (by simp;omega);rw [QAc] at e hle;rw [e] at hs;have hke:k<es0.length:=by omega
   have g1:=qfr hk' htk;rw [q] at hc ⊢;simp only [Xb.ce] at hi;simp [c_95,Xb.ce,t0,hs,ht,hc,hcl,b1,hk',hi,g1];have hown:S.own did:= .inr (.inl (.inr (.inr (.inl (by rw [e];rfl)))));refine ⟨S,_,_,rfl,?_,rfl,fun j hj=> .inl hj,Kp.setl (by simpa only [Xb.ce] using hk1) (.inr (.inl hown)),qaj (by simpa only [Xb.ce] using hT1),by omega⟩;simp only [<- Xb.ce] at hi ⊢;have keep:∀j o,look j (O++[(N,AO.row 2 [Xb.c x])])=some o->(∀es,o≠ .row 2 es)->look j (setl did (.row 2 (es0.set k (Xb.c x))) (O++[(N,AO.row 2 [Xb.c x])]))=look j (O++[(N,AO.row 2 [Xb.c x])]):=by
    intro j o ho hne;have hji:=qan ho hi (hne _);rw [qac,QA hji]
   have kmu:∀z v es,z≠2->Mu (O++[(N,AO.row 2 [Xb.c x])]) z v es->Mu (setl did (.row 2 (es0.set k (Xb.c x))) (O++[(N,AO.row 2 [Xb.c x])])) z v es:=by
    intro z v es hz hm;refine hm.fr fun j hj=>?_
    obtain ⟨es1,h1⟩:=hm.own hj;exact keep j _ h1 (by intro es2 h2;cases h2;exact hz rfl)
   refine ⟨?_,⟨kmu _ _ _ (by decide) m1.cm.r,m1.cm.rl,fun a v l hv hl=>kmu _ _ _ (by decide) (m1.cm.rv a v l hv hl),kmu _ _ _ (by decide) m1.cm.n,?_,m1.cm.g,m1.cm.rn,m1.cm.vi,m1.cm.va⟩,⟨kmu _ _ _ (by decide) m1.x.i,m1.x.len,?_,m1.x.nd⟩,m1.ri,m1.ni⟩
   ·rw [keep S.s _ m1.s (by simp)];exact m1.s
   ·have hmu:Mu (setl did (.row 2 (es0.set k (Xb.c x))) (O++[(N,AO.row 2 [Xb.c x])])) 2 (.row did 2 0 (c.Xq.map Xb.c).length) ((c.Xq.map Xb.c).set k (Xb.c x)):=
     Mu.upd (by rw [qac,QAa rfl,hi];rfl) (by simpa using hle) htk
    rw [e];rw [<- QCr,QAc] at hmu;exact hmu
   ·intro a b l ha hl2;have h0:=m1.x.m a b l ha hl2;rw [keep b _ h0 (by simp)];exact h0
  ·simp [c_95,Xb.ce,t0,hs,ht,hc,b1,q];exact same
theorem qq3:∀(l l':List Rw) (n:Nat),l.length=l'.length->(∀(j:Nat) (h1:j<l.length) (h2:j<l'.length),l[j].id=l'[j].id)->qel l n=qel l' n
 | [],[],n,_,_=>rfl
 | [],_::_,n,h,_=>by simp at h
 | _::_,[],n,h,_=>by simp at h
 | a::l,b::l',n,h,hi=>by
  have h0:=hi 0 (by simp) (by simp);simp at h0;simp only [qel,h0];rw [qq3 l l' (n+1) (by simpa using h) fun j h1 h2=>by
   have:=hi (j+1) (by simp;omega) (by simp;omega);simpa using this]
theorem qab7 {l l':List Rw} (h:l.length=l'.length) (hi:∀(j:Nat) (h1:j<l.length) (h2:j<l'.length),l[j].id=l'[j].id):ents l=ents l':=qq3 l l' 0 h hi
def SV.chg (S:SV) (k j:Nat):Prop:=(∃v,S.V[k]? =some v/\vid v=some j)\/vid S.v1=some j\/vid S.v2=some j\/vid S.vi=some j\/S.M[k]? =some j
def SV.tab (S:SV) (k:Nat) (v:AV) (m:Nat):SV:=⟨S.s,S.v1,S.v2,S.v3,S.v4,S.vi,S.V.set k v,S.M.set k m⟩
section
variable {O O':List (Nat×AO)} {S:SV} {p:Prg} {c:Xf} {k:Nat}
theorem StoreM.vrow (m:StoreM O S p c) {j:Nat} {v:AV} {i:Nat} (hv:S.V[j]? =some v) (hi:vid v=some i):∃es,look i O=some (.row 5 es):=by
 have hj:=(Qm.1 hv).1;exact (m.cm.rv j v _ hv (Qa (by rw [<- m.cm.rl];exact hj))).own hi
theorem StoreM.mmap (m:StoreM O S p c) {j i:Nat} (hv:S.M[j]? =some i):∃es,look i O=some (.map es):=by
 have hj:=(Qm.1 hv).1;exact ⟨_,m.x.m j i _ hv (Qa (by rw [<- m.x.len];exact hj))⟩
theorem StoreM.upd (m:StoreM O S p c) (hk:k<c.rows.length) {v':AV} {m':Nat} {l':List Rw} {nx:Int}
  (keep:∀j,S.own j->¬S.chg k j->look j O'=look j O)
  (h1:Mu O' 1 S.v1 ((S.V.set k v').map fun x=>[x])) (h2:Mu O' 1 S.v2 ((c.Xr.set k nx).map cI)) (h3:Mu O' 1 S.vi ((S.M.set k m').map fun x=>[.map x])) (h4:Mu O' 5 v' (l'.map Rw.c)) (h5:look m' O'=some (.map (ents l')))
  (h6:∀z es t,v'≠ .app z es t) (d1:∀i,vid v'=some i->(∃v,S.V[k]? =some v/\vid v=some i)\/∀x,look i O=some x->x= .res) (d2:S.M[k]? =some m'\/∀x,look m' O=some x->x= .res):
  StoreM O' (S.tab k v' m') p ⟨c.rows.set k l',c.Xr.set k nx,c.Xq,c.Xm⟩:=by
 have hVl:=m.cm.rl;have hMl:=m.x.len;have ks:look S.s O'=look S.s O:=by
  refine keep S.s (.inl rfl) ?_;rintro (⟨v,hv,hi⟩ | hi | hi | hi | hi)
  ·obtain ⟨es,hl⟩:=m.vrow hv hi;exact qan m.s hl (by simp) rfl
  ·obtain ⟨es,hl⟩:=m.cm.r.own hi;exact qan m.s hl (by simp) rfl
  ·obtain ⟨es,hl⟩:=m.cm.n.own hi;exact qan m.s hl (by simp) rfl
  ·obtain ⟨es,hl⟩:=m.x.i.own hi;exact qan m.s hl (by simp) rfl
  ·obtain ⟨es,hl⟩:=m.mmap hi;exact qan m.s hl (by simp) rfl
 have kv:∀(j:Nat) (v:AV) (i:Nat),j≠k->S.V[j]? =some v->vid v=some i->look i O'=look i O:=by
  intro j v i hj hv hi;obtain ⟨es0,hl0⟩:=m.vrow hv hi;refine keep i (.inr (.inl (.inr (.inr (.inr ⟨v,Qe hv,hi⟩))))) ?_;rintro (⟨w,hw,hi'⟩ | hi' | hi' | hi' | hi')
  ·exact hj (m.cm.vi j k v w i hv hw hi hi')
  ·obtain ⟨es,hl⟩:=m.cm.r.own hi';exact qan hl0 hl (by simp) rfl
  ·obtain ⟨es,hl⟩:=m.cm.n.own hi';exact qan hl0 hl (by simp) rfl
  ·obtain ⟨es,hl⟩:=m.x.i.own hi';exact qan hl0 hl (by simp) rfl
  ·obtain ⟨es,hl⟩:=m.mmap hi';exact qan hl0 hl (by simp) rfl
 have km:∀(j i:Nat),j≠k->S.M[j]? =some i->look i O'=look i O:=by
  intro j i hj hv;obtain ⟨es0,hl0⟩:=m.mmap hv;refine keep i (.inr (.inr (.inr (Qe hv)))) ?_;rintro (⟨w,hw,hi'⟩ | hi' | hi' | hi' | hi')
  ·obtain ⟨es,hl⟩:=m.vrow hw hi';exact qan hl0 hl (by simp) rfl
  ·obtain ⟨es,hl⟩:=m.cm.r.own hi';exact qan hl0 hl (by simp) rfl
  ·obtain ⟨es,hl⟩:=m.cm.n.own hi';exact qan hl0 hl (by simp) rfl
  ·obtain ⟨es,hl⟩:=m.x.i.own hi';exact qan hl0 hl (by simp) rfl
  ·exact hj (m.x.nd j k i hv hi')
 have kd:Mu O' 2 S.v3 (c.Xq.map Xb.c):=by
  refine m.cm.d.fr fun i hi=>?_
  obtain ⟨es0,hl0⟩:=m.cm.d.own hi;refine keep i (.inr (.inl (.inr (.inr (.inl hi))))) ?_;rintro (⟨w,hw,hi'⟩ | hi' | hi' | hi' | hi')
  ·obtain ⟨es,hl⟩:=m.vrow hw hi';exact qan hl0 hl (by simp) rfl
  ·obtain ⟨es,hl⟩:=m.cm.r.own hi';exact qan hl0 hl (by simp) rfl
  ·obtain ⟨es,hl⟩:=m.cm.n.own hi';exact qan hl0 hl (by simp) rfl
  ·obtain ⟨es,hl⟩:=m.x.i.own hi';exact qan hl0 hl (by simp) rfl
  ·obtain ⟨es,hl⟩:=m.mmap hi';exact qan hl0 hl (by simp) rfl
 have other:∀(j:Nat) (v:AV) (i:Nat),j≠k->S.V[j]? =some v->vid v=some i->vid v'=some i->False:=by
  intro j v i hj hv hi hi';rcases d1 i hi' with ⟨w,hw,hw'⟩ | hf
  ·exact hj (m.cm.vi j k v w i hv hw hi hw')
  ·obtain ⟨es,hl⟩:=m.vrow hv hi;have:=hf _ hl;cases this
 refine ⟨?_,⟨h1,by simp [SV.tab,hVl],?_,h2,kd,m.cm.g,m.cm.rn,?_,?_⟩,⟨h3,by simp [SV.tab,hMl],?_,?_⟩,m.ri,m.ni⟩
 ·show look S.s O'=_;rw [ks];exact m.s
 ·intro j v l hv hl;simp only [SV.tab] at hv;by_cases hj:k=j
  ·subst hj;rw [List.getElem?_set_self (by omega)] at hv hl;cases hv;cases hl;exact h4
  ·rw [List.getElem?_set_ne hj] at hv hl;have h0:=m.cm.rv j v l hv hl;exact h0.fr fun i hi=>kv j v i (fun e=>hj e.symm) hv hi
 ·intro a b v w i ha hb hi hi';simp only [SV.tab] at ha hb;by_cases hka:k=a
  ·by_cases hkb:k=b
   ·omega
   ·subst hka;rw [List.getElem?_set_self (by omega)] at ha;rw [List.getElem?_set_ne hkb] at hb;cases ha;exact (other b w i (fun e=>hkb e.symm) hb hi' hi).elim
  ·by_cases hkb:k=b
   ·subst hkb;rw [List.getElem?_set_self (by omega)] at hb;rw [List.getElem?_set_ne hka] at ha;cases hb;exact (other a v i (fun e=>hka e.symm) ha hi hi').elim
   ·rw [List.getElem?_set_ne hka] at ha;rw [List.getElem?_set_ne hkb] at hb;exact m.cm.vi a b v w i ha hb hi hi'
 ·intro v hv;simp only [SV.tab] at hv;rcases Qq hv with hv | rfl
  ·exact m.cm.va v hv
  ·exact h6
 ·intro j i l hi hl;simp only [SV.tab] at hi;by_cases hj:k=j
  ·subst hj;rw [List.getElem?_set_self (by omega)] at hi hl;cases hi;cases hl;exact h5
  ·rw [List.getElem?_set_ne hj] at hi hl;rw [km j i (fun e=>hj e.symm) hi];exact m.x.m j i l hi hl
 ·intro a b i ha hb;simp only [SV.tab] at ha hb;have oth:∀j,j≠k->S.M[j]? =some m'->False:=by
   intro j hj hv;rcases d2 with h0 | hf
   ·exact hj (m.x.nd j k m' hv h0)
   ·obtain ⟨es,hl⟩:=m.mmap hv;have:=hf _ hl;cases this
  by_cases hka:k=a
  ·by_cases hkb:k=b
   ·omega
   ·subst hka;rw [List.getElem?_set_self (by omega)] at ha;rw [List.getElem?_set_ne hkb] at hb;cases ha;exact (oth b (fun e=>hkb e.symm) hb).elim
  ·by_cases hkb:k=b
   ·subst hkb;rw [List.getElem?_set_self (by omega)] at hb;rw [List.getElem?_set_ne hka] at ha;cases hb;exact (oth a (fun e=>hka e.symm) ha).elim
   ·rw [List.getElem?_set_ne hka] at ha;rw [List.getElem?_set_ne hkb] at hb;exact m.x.nd a b i ha hb
end
theorem qadk {p:Prg} {c:Xf} {t id:Int} {x:Xb}:modE p c t id x=if rowX p c t id=0 then qbg p t x else rowX p c t id:=by
 unfold modE rowX;split
 ·simp
 split
 ·simp
 ·simp
theorem qy3 {O:List (Nat×AO)} {N:Nat} {S:SV} {p:Prg} {c:Xf} (m:StoreM O S p c) (f:PrgS p) (hl:c.rows.length=p.Xn.length) (hT:Tail O N) (t id:Int) (x:Xb) (hx:x.args.length<2^40):
  MDpost N O S p (if modE p c t id x=0 then modC c t id x else c) (.int .i64 (modE p c t id x)) (qak Φ f_90 [.ptr S.s 15 0 0,.int .i64 t,.int .i64 id,.agg (Xb.c x)] ⟨O,N⟩):=by
 rw [qaz (fn:=c_90) rfl rfl];have t0:=hT N (Qb _);have hk1:Kp (fun j=>S.own j\/Rs O j) N O (O++[(N,AO.row 2 [Xb.c x])]):=Kp.app (fun _ _ _=>rfl) (Qb _);have hT1:=hT.app1 (o:=AO.row 2 [Xb.c x]) (Qb N);have m1:StoreM (O++[(N,AO.row 2 [Xb.c x])]) S p c:=m.kp (X:=fun _=>False) hT (Kp.app (fun _ _ _=>rfl) (Qb _)) (by simp);have b1:look N (O++[(N,AO.row 2 [Xb.c x])])=some (.row 2 [Xb.c x]):=by rw [qai,t0];simp
 have same:MDpost N O S p c (.int .i64 (modE p c t id x)) (some (.val (.int .i64 (modE p c t id x)),⟨O++[(N,AO.row 2 [Xb.c x])],N+1⟩)):=
  ⟨S,_,_,rfl,m1,rfl,fun j hj=> .inl hj,hk1,hT1,by omega⟩
 have hs:=m1.se;have hr:=qun (N:=N+1) m1 hl t id;have hc:=qoa p f t x hx;have hcl:=qi0 x hx;have hE:=qadk (p:=p) (c:=c) (t:=t) (id:=id) (x:=x);simp only [Prg.e] at hc;simp only [Xb.ce] at b1 hs hr hc hcl same;by_cases z:rowX p c t id=0
 rotate_left
 ·rw [QA z] at hE;rw [hE] at same ⊢;simp [c_90,Xb.ce,t0,hr,z];exact same
 rw [QAa z] at hE;by_cases q:qbg p t x=0
 rotate_left
 ·rw [hE] at same ⊢;simp [c_90,Xb.ce,t0,hr,hs,z,b1,hc,q];exact same
 have hE0:modE p c t id x=0:=by rw [hE,q]
 rw [hE0] at same ⊢;cases hi:inT p t with
 | false=>simp [rowX,hi] at z
 | true=>
 obtain ⟨k,rfl,hk⟩:=qft hi;have hk':k<c.rows.length:=by omega
 have hrow:qcm c (k:Int)=c.rows[k]:=qda hk';cases hx2:rIdx c.rows[k] id with
 | none=>simp [rowX,hi,hrow,hx2] at z
 | some i=>
 obtain ⟨hil,hid⟩:=qh9 hx2;have hI:rowI p c k id=i:=by simp [rowI,hi,hrow,hx2]
 have hM:modC c (k:Int) id x=⟨c.rows.set k (c.rows[k].modify i (qbr x)),c.Xr,c.Xq,c.Xm⟩:=by
  unfold modC;rw [hrow,hx2];simp
 rw [z,hI] at hr;obtain ⟨rid,es1,e1,lr,hle1,⟨hV,g1,g5⟩,ht1⟩:=m1.tab hk';obtain ⟨r5,es5,e5,l5,hle5,ht5⟩:=g5.nonempty (by simp;omega);rw [QAc] at e5 hle5;rw [e1] at hs;rw [e5] at g1;have g2:=qfr hil ht5;have hi5:i<es5.length:=by omega
 have hlr:=lr;have hl5:=l5;simp only [Xb.ce] at hlr hl5;rw [q] at hc;rw [QAa rfl,hM];simp [c_90,Xb.ce,t0,hr,hs,b1,hc,hcl,hlr,hk',g1,hl5,hil,g2,Rw.ce];simp only [<- Xb.ce] at hl5 ⊢;have ho:S.own r5:= .inr (.inl (.inr (.inr (.inr ⟨S.V[k],Qd hV,by rw [e5];rfl⟩))));have hch:∀j,¬S.chg k j->j≠r5:=fun j hj e=>hj (.inl ⟨S.V[k],Qa hV,by rw [e5,e];rfl⟩)
 have hMl:=m1.x.len;have hMk:k<S.M.length:=by omega
 have hnx:k<c.Xr.length\/c.Xr.length<=k:=by omega
 have keep:∀j,j≠r5->look j (setl r5 (.row 5 (es5.set i [.int .i64 c.rows[k][i].id,.slice 2 (c.rows[k][i].entry.keys.map Xi.c),.int .i64 c.rows[k][i].entry.Xt,.int .i64 x.action,.slice 1 (x.args.map c32)])) (O++[(N,AO.row 2 [Xb.c x])]))=look j (O++[(N,AO.row 2 [Xb.c x])]):=fun j hj=>by rw [qac,QA hj]
 have kmu:∀z v es,z≠5->Mu (O++[(N,AO.row 2 [Xb.c x])]) z v es->Mu (setl r5 (.row 5 (es5.set i [.int .i64 c.rows[k][i].id,.slice 2 (c.rows[k][i].entry.keys.map Xi.c),.int .i64 c.rows[k][i].entry.Xt,.int .i64 x.action,.slice 1 (x.args.map c32)])) (O++[(N,AO.row 2 [Xb.c x])])) z v es:=by
  intro z v es hz hm;refine hm.fr fun j hj=>?_
  obtain ⟨es1,h1⟩:=hm.own hj;exact keep j (qan h1 l5 (by simp [hz]))
 have up:=m1.upd (k:=k) (v':=S.V[k]) (m':=S.M[k]) (l':=c.rows[k].modify i (qbr x)) (nx:=(c.Xr[k]?).getD 0) (O':=setl r5 (.row 5 (es5.set i [.int .i64 c.rows[k][i].id,.slice 2 (c.rows[k][i].entry.keys.map Xi.c),.int .i64 c.rows[k][i].entry.Xt,.int .i64 x.action,.slice 1 (x.args.map c32)])) (O++[(N,AO.row 2 [Xb.c x])])) hk'
  (fun j _ hj=>keep j (hch j hj)) (by simpa using kmu _ _ _ (by decide) m1.cm.r)
  (by
   have hset:c.Xr.set k ((c.Xr[k]?).getD 0)=c.Xr:=by
    rcases hnx with h | h
    ·rw [Qa h];simp
    ·rw [List.set_eq_of_length_le h]
   rw [hset];exact kmu _ _ _ (by decide) m1.cm.n)
  (by simpa using kmu _ _ _ (by decide) m1.x.i)
  (by
   have hmu:=Mu.upd (O':=setl r5 (.row 5 (es5.set i [.int .i64 c.rows[k][i].id,.slice 2 (c.rows[k][i].entry.keys.map Xi.c),.int .i64 c.rows[k][i].entry.Xt,.int .i64 x.action,.slice 1 (x.args.map c32)])) (O++[(N,AO.row 2 [Xb.c x])])) (id:=r5) (z:=5) (k:=i) (es:=c.rows[k].map Rw.c) (es0:=es5)
    (y:=[.int .i64 c.rows[k][i].id,.slice 2 (c.rows[k][i].entry.keys.map Xi.c),.int .i64 c.rows[k][i].entry.Xt,.int .i64 x.action,.slice 1 (x.args.map c32)]) (by rw [qac,QAa rfl,l5];rfl) (by simpa using hle5) ht5
   have hlist:(c.rows[k].map Rw.c).set i [.int .i64 c.rows[k][i].id,.slice 2 (c.rows[k][i].entry.keys.map Xi.c),.int .i64 c.rows[k][i].entry.Xt,.int .i64 x.action,.slice 1 (x.args.map c32)]=(c.rows[k].modify i (qbr x)).map Rw.c:=by
    refine List.ext_getElem (by simp) fun j h1 h2=>?_
    rw [List.getElem_set,QDa,QDa,QBv];split
    ·rename_i e;subst e;simp [Rw.ce,qbr]
    ·simp
   rw [hlist,QAc] at hmu;rw [e5];exact hmu)
  (by
   have h0:=m1.x.m k _ _ (Qa hMk) (Qa hk');have hents:ents (c.rows[k].modify i (qbr x))=ents c.rows[k]:=qab7 (by simp) fun j h1 h2=>by
    rw [QBv];split<;>rfl
   rw [keep _ (qan h0 l5 (by simp)),h0,hents])
  (m1.cm.va _ (Qd hV)) (fun i hi=> .inl ⟨_,Qa hV,hi⟩) (.inl (Qa hMk))
 have htab:S.tab k S.V[k] S.M[k]=S:=by
  cases S;simp [SV.tab]
 rw [htab] at up;have hset:c.Xr.set k ((c.Xr[k]?).getD 0)=c.Xr:=by
  rcases hnx with h | h
  ·rw [Qa h];simp
  ·rw [List.set_eq_of_length_le h]
 rw [hset] at up;exact ⟨S,_,_,rfl,up,rfl,fun j hj=> .inl hj,Kp.setl hk1 (.inr (.inl ho)),qaj hT1,by omega⟩
theorem qajn (r:Rw) (x:Entry) (hb:r.entry.keys.length<2^40):qab Φ f_161 [.agg (Rw.c r),.iptr 4 [Entry.c x] 0 0]=some (.val (.bool (sk r.entry x))):=by
 rw [qaa (fn:=c_161) rfl rfl];have h:=qzq r.entry x hb;simp [c_161,Rw.ce,Entry.ce,h]
theorem qach (l:List Rw) (x:Entry) (hl:l.length<2^40) (hs:∀r∈l,r.entry.keys.length<2^40):qab Φ f_223 [.slice 5 (l.map Rw.c),.func (.func f_161) [] [.iptr 4 [Entry.c x] 0 0]]=some (.val (.int .i64 (ix (fun r=>sk r.entry x) l 0))):=by
 rw [qaa (fn:=c_223) rfl rfl];simp [c_223];refine (qay l.length (fun i e=>look 0 e=some (.slice 5 (l.map Rw.c))/\look 1 e=some (.func (.func f_161) [] [.iptr 4 [Entry.c x] 0 0])/\look 7 e=some (.int .i64 l.length)/\look 8 e=some (.int .i64 i))
  (fun i=>some (.val (.int .i64 (ix (fun r=>sk r.entry x) l i)))) ?_ ?_ 0 _ (Qc _) ?_).trans (by simp)
 ·rintro i e L hi hL ⟨h0,h1,h7,h8⟩ ih;have hw:=qaf i (by omega);have hd:=qajn l[i] x (hs _ (Qd hi));simp only [Rw.ce,Entry.ce] at hd h1;cases z:sk l[i].entry x with
  | true=>
   rw [qgv hi (by simpa using z)];rw [z] at hd;simp [c_223_l0,Rw.ce,h0,h1,h7,h8,hi,hd]
  | false=>
   rw [qfu hi (by simpa using z)];rw [z] at hd;simp [c_223_l0,Rw.ce,h0,h1,h7,h8,hi,hd,hw];exact ih _ ⟨by simp [h0],by simp [h1,Entry.ce],by simp [h7],by simp⟩
 ·rintro e L hL ⟨h0,h1,h7,h8⟩;rw [qgu];simp [c_223_l0,c_223_k1,h7,h8,hL]
 ·simp
theorem qabz (l:List Rw) (x:Entry) (hl:l.length<2^40) (hs:∀r∈l,r.entry.keys.length<2^40):qab Φ f_160 [.slice 5 (l.map Rw.c),.func (.func f_161) [] [.iptr 4 [Entry.c x] 0 0]]=some (.val (.bool (l.any fun r=>sk r.entry x))):=by
 rw [qaa (fn:=c_160) rfl rfl];have h:=qach l x hl hs;simp only [Entry.ce] at h;rw [<- qi3];simp [c_160,Entry.ce,h]
theorem qy1 {O:List (Nat×AO)} {N:Nat} {S:SV} {p:Prg} {c:Xf} (m:StoreM O S p c) (f:PrgS p) (v:CfgV p c) (s:CfgT c) (hT:Tail O N) (t:Int) (x:Entry) (hx:EntS x):
  MDpost N O S p (if insE p c t x=0 then insC c t x else c) (.tup [.int .i64 (if insE p c t x=0 then qee c t else 0),.int .i64 (insE p c t x)]) (qak Φ f_93 [.ptr S.s 15 0 0,.int .i64 t,.agg (Entry.c x)] ⟨O,N⟩):=by
 rw [qaz (fn:=c_93) rfl rfl];have t0:=hT N (Qb _);have hl:=v.rl;have hk1:Kp (fun j=>S.own j\/Rs O j) N O (O++[(N,AO.row 4 [Entry.c x])]):=Kp.app (fun _ _ _=>rfl) (Qb _);have hT1:=hT.app1 (o:=AO.row 4 [Entry.c x]) (Qb N);have m1:StoreM (O++[(N,AO.row 4 [Entry.c x])]) S p c:=m.kp (X:=fun _=>False) hT (Kp.app (fun _ _ _=>rfl) (Qb _)) (by simp);have b1:look N (O++[(N,AO.row 4 [Entry.c x])])=some (.row 4 [Entry.c x]):=by rw [qai,t0];simp
 have same:insE p c t x≠0->MDpost N O S p (if insE p c t x=0 then insC c t x else c) (.tup [.int .i64 (if insE p c t x=0 then qee c t else 0),.int .i64 (insE p c t x)]) (some (.val (.tup [.int .i64 0,.int .i64 (insE p c t x)]),⟨O++[(N,AO.row 4 [Entry.c x])],N+1⟩)):=by
  intro h;rw [QA h,QA h];exact ⟨S,_,_,rfl,m1,rfl,fun j hj=> .inl hj,hk1,hT1,by omega⟩
 have hs:=m1.se;have ht:=qof (N:=N+1) m1 hl t;have he:=qwb p f t x hx;simp only [Prg.e] at he;simp only [Entry.ce] at b1 hs ht he same;cases z:inT p t with
 | false=>
  have hE:insE p c t x=8:=by simp [insE,z]
  rw [z] at ht;have same:=same (by rw [hE];decide);rw [hE] at same ⊢;simp [c_93,Entry.ce,t0,hs,ht];simpa using same
 | true=>
 obtain ⟨k,rfl,hk⟩:=qft z;have hk':k<c.rows.length:=by omega
 have hkn:k<c.Xr.length:=by rw [v.nl];exact hk
 have hrow:qcm c (k:Int)=c.rows[k]:=qda hk';have hnx:qee c (k:Int)=c.Xr[k]:=qii hkn;have hsz:qmi p (k:Int)=p.Xn[k].size:=qk9 hk;have hE:insE p c k x=if entE p k x≠0 then entE p k x else if (c.rows[k].any fun y=>sk y.entry x)=true then 7 else if p.Xn[k].size<=c.rows[k].length\/1073741824<=c.Xr[k] then 13 else 0:=by
  unfold insE;rw [z,hrow,hnx,hsz];simp
 rw [z] at ht;by_cases y:entE p k x=0
 rotate_left
 ·rw [QAa y] at hE;have same:=same (by rw [hE];exact y);rw [hE] at same ⊢;simp [c_93,Entry.ce,t0,hs,ht,b1,he,y];simpa [y] using same
 rw [QA (by simpa using y)] at hE;rw [y] at he;obtain ⟨rid,es1,e1,lr,hle1,⟨hV,g1,g5⟩,ht1⟩:=m1.tab hk';have hsl:=s.rs _ (Qd hk');have hcon:=qabz c.rows[k] x hsl.1 fun r hr=>(hsl.2 r hr).kl
 have hsnp:=fun n=>g5.snp (N:=N+1) (n:=n)
 have hsn2:∀n,snap (n+2) ⟨O++[(N,AO.row 4 [Entry.c x])],N+1⟩ S.V[k]=some (.slice 5 (c.rows[k].map Rw.c)):=fun n=>by
  rw [hsnp (n+1),qdz (n:=n+1) (fun x=>qpk x)];rfl
 have hsn3:=hsn2 38;rw [e1] at hs;simp only [Entry.ce] at hcon hsn3 lr;cases w:c.rows[k].any fun y=>sk y.entry x with
 | true=>
  rw [QAa w] at hE;have same:=same (by rw [hE];decide);rw [w] at hcon;rw [hE] at same ⊢;simp [c_93,Entry.ce,t0,hs,ht,b1,he,lr,hk',g1,hsn3,hcon];simpa using same
 | false=>
 rw [QA (by rw [w];decide)] at hE;rw [w] at hcon;have hvl:=g5.len;rw [QAc] at hvl;obtain ⟨nid,esn,e2,ln,hle2,ht2⟩:=m1.cm.n.nonempty (by simp;omega);rw [QAc] at e2 hle2;have gn:=qfr hkn ht2;rw [cIe] at gn;rw [e2] at hs;simp only [Entry.ce] at ln;have hkt:=hk;by_cases u:p.Xn[k].size<=c.rows[k].length
 ·rw [QAa (.inl u)] at hE;have same:=same (by rw [hE];decide);rw [hE] at same ⊢;simp [c_93,Entry.ce,Tbl.e,t0,hs,ht,b1,he,lr,hk',g1,hsn3,hcon,hvl,ln,hkn,gn,hkt,u,-lenOf];simpa using same
 by_cases q:1073741824<=c.Xr[k]
 ·rw [QAa (.inr q)] at hE;have same:=same (by rw [hE];decide);rw [hE] at same ⊢;simp [c_93,Entry.ce,Tbl.e,t0,hs,ht,b1,he,lr,hk',g1,hsn3,hcon,hvl,ln,hkn,gn,hkt,u,q,-lenOf];simpa using same
 rw [QA (by omega)] at hE;rw [hE];have hM:=m1.x.len;obtain ⟨iid,esi,e3,li,hle3,hMk,gi,lm⟩:=m1.idx hk';rw [e3] at hs;simp only [Entry.ce] at li lm;have hv:=v.at hk;have hput:=qn5 c.Xr[k] (.int .i64 (c.rows[k].length:Nat)) c.rows[k] 0 fun r hr=>by have:=hv.lt r hr;omega
 rw [show qel c.rows[k] 0=ents c.rows[k] from rfl] at hput;have hce:=qqy x hx.al hx.kl;simp only [Entry.ce] at hce;simp [c_93,Entry.ce,Tbl.e,t0,hs,ht,b1,he,lr,hk',g1,hsn3,hcon,hvl,ln,hkn,gn,hkt,u,q,li,lm,gi,hput,-lenOf,-qace];generalize hO2:setl S.M[k] (AO.map (ents c.rows[k]++[(AV.int IntKind.i64 c.Xr[k],AV.int IntKind.i64 (c.rows[k].length:Nat))])) (O++[(N,AO.row 4 [[AV.slice 2 (List.map Xi.c x.keys),AV.int IntKind.i64 x.Xt,AV.int IntKind.i64 x.call.action,AV.slice 1 (List.map c32 x.call.args)]])])=O2;rw [<- Entry.ce] at hO2;have hlm:look S.M[k] (O++[(N,AO.row 4 [Entry.c x])])=some (.map (ents c.rows[k])):=m1.x.m k _ _ (Qa hMk) (Qa hk');have k2:∀j,j≠S.M[k]->look j O2=look j (O++[(N,AO.row 4 [Entry.c x])]):=fun j hj=>by rw [<- hO2,qac,QA hj]
 have hT2:Tail O2 (N+1):=by rw [<- hO2];exact qaj hT1
 have kr:∀j z es,look j (O++[(N,AO.row 4 [Entry.c x])])=some (.row z es)->look j O2=some (.row z es):=fun j z es hj=>by rw [k2 j (qan hj hlm (by simp)),hj]
 have ls2:=kr S.s _ _ (by simp only [Entry.ce];exact hs);have lr2:=kr rid _ _ (by simp only [Entry.ce];exact lr);have ln2:=kr nid _ _ (by simp only [Entry.ce];exact ln);have lb2:=kr N _ _ (by simp only [Entry.ce];exact b1);have lm2:look S.M[k] O2=some (.map (ents c.rows[k]++[(AV.int IntKind.i64 c.Xr[k],AV.int IntKind.i64 (c.rows[k].length:Nat))])):=by rw [<- hO2,qac,QAa rfl,hlm];rfl
 clear hO2;have u0:=hT2 (N+1+112) (by omega);have fsx:=qca (n:=N+1+112) hT2 ls2 (by omega);have frx:=qca (n:=N+1+112) hT2 lr2 (by omega);have fnx:=qca (n:=N+1+112) hT2 ln2 (by omega);have fnb:¬N=N+1+112/\¬N+1+112=N:=by omega
 have hrn:¬rid=nid:=fun e=>m1.cm.rn rid (by rw [e1];rfl) (by rw [e2,e];rfl)
 have hnr:¬nid=rid:=fun e=>hrn e.symm
 have hwr:IntKind.wrap .i64 (c.Xr[k]+1)=c.Xr[k]+1:=qa6 (by have:=hv.nx0;omega) (by omega);have hsr:=qan ls2 lr2 (by simp);have hsn:=qan ls2 ln2 (by simp);have hrs:=hsr.symm;have hns:=hsn.symm;have hbeq:(S.s == N+1+112)=false:=by simp [fsx]
 have hkl1:k<es1.length:=by omega
 have hkln:k<esn.length:=by omega
 have hci:insC c (k:Int) x=⟨c.rows.set k (c.rows[k]++[⟨c.Xr[k],x⟩]),c.Xr.set k (c.Xr[k]+1),c.Xq,c.Xm⟩:=by
  unfold insC;rw [hrow,hnx];simp
 have hsnoc:ents (c.rows[k]++[⟨c.Xr[k],x⟩])=ents c.rows[k]++[(AV.int IntKind.i64 c.Xr[k],AV.int IntKind.i64 (c.rows[k].length:Nat))]:=qq4 _ _;have hVl:=m1.cm.rl;have fin:∀(O':List (Nat×AO)) (N':Nat) (v':AV),Tail O' N'->N<=N'->look rid O'=some (.row 1 (es1.set k [v']))->look nid O'=some (.row 1 (esn.set k [.int .i64 (c.Xr[k]+1)]))->
   (∀j,j<N+1->j≠rid->j≠nid->(∀i,vid S.V[k]=some i->j≠i)->look j O2≠some .res->look j O'=look j O2)->Mu O' 5 v' ((c.rows[k]++[Rw.mk c.Xr[k] x]).map Rw.c)->(∀z es t,v'≠ .app z es t)->(∀i,vid v'=some i->vid S.V[k]=some i\/N+1<=i)->
   MDpost N O S p (insC c (k:Int) x) (.tup [.int .i64 (qee c (k:Int)),.int .i64 0]) (some (.val (.tup [.int .i64 c.Xr[k],.int .i64 0]),⟨O',N'⟩)):=by
  intro O' N' v' hT' hN' a1 a2 a3 a4 a5 a6;rw [hnx,hci];have own1:S.own rid:= .inr (.inl (.inl (by rw [e1];rfl)));have own2:S.own nid:= .inr (.inl (.inr (.inl (by rw [e2];rfl))));have own3:S.own S.M[k]:= .inr (.inr (.inr (Qd hMk)));have own4:∀i,vid S.V[k]=some i->S.own i:=fun i hi=> .inr (.inl (.inr (.inr (.inr ⟨_,Qd hV,hi⟩))))
  have keep:∀j,S.own j->¬S.chg k j->look j O'=look j (O++[(N,AO.row 4 [Entry.c x])]):=by
   intro j hj hc;obtain ⟨w,hw,hwn⟩:=m1.own_lk hj;have h2:look j O2=some w:=by
    rw [k2 j (fun e=>hc (.inr (.inr (.inr (.inr (by rw [e];exact Qa hMk)))))),hw]
   rw [a3 j (hT1.lt hw) (fun e=>hc (.inr (.inl (by rw [e,e1];rfl)))) (fun e=>hc (.inr (.inr (.inl (by rw [e,e2];rfl))))) (fun i hi e=>hc (.inl ⟨_,Qa hV,by rw [e];exact hi⟩)) (by rw [h2];simpa using hwn),h2,hw]
  have h5no:∀i,vid S.V[k]=some i->∃es,look i (O++[(N,AO.row 4 [Entry.c x])])=some (.row 5 es):=fun i hi=>m1.vrow (Qa hV) hi
  have up:=m1.upd (k:=k) (v':=v') (m':=S.M[k]) (l':=c.rows[k]++[⟨c.Xr[k],x⟩]) (nx:=c.Xr[k]+1) (O':=O') hk' keep
   (by
    have hmu:=Mu.upd (O':=O') (id:=rid) (z:=1) (k:=k) (es:=S.V.map fun x=>[x]) (es0:=es1) (y:=[v']) a1 (by rw [QAc,hVl];exact hle1) (by rw [QAc,hVl];exact ht1);rw [QAc,hVl] at hmu;rw [e1,QCr];exact hmu)
   (by
    have hmu:=Mu.upd (O':=O') (id:=nid) (z:=1) (k:=k) (es:=c.Xr.map cI) (es0:=esn) (y:=[.int .i64 (c.Xr[k]+1)]) a2 (by rw [QAc];exact hle2) ht2;rw [QAc] at hmu;rw [e2,QCr,cIe];exact hmu)
   (by
    have hmm:S.M.set k S.M[k]=S.M:=by simp
    rw [hmm];refine m1.x.i.fr fun i hi=>?_
    obtain ⟨es0,hl0⟩:=m1.x.i.own hi;have h2:=kr i _ _ hl0;rw [a3 i (hT1.lt hl0) (fun e=>m1.ri i (by rw [e,e1];rfl) hi) (fun e=>m1.ni i (by rw [e,e2];rfl) hi) (fun i' hi' e=>by obtain ⟨es5,h5⟩:=h5no i' hi';exact qan hl0 h5 (by simp) e) (by rw [h2];simp),h2,hl0])
   a4
   (by
    rw [hsnoc,<- lm2];refine a3 _ (hT1.lt hlm) (fun e=>?_) (fun e=>?_) (fun i hi e=>?_) (by rw [lm2];simp)
    ·exact qan lm2 lr2 (by simp) e
    ·exact qan lm2 ln2 (by simp) e
    ·obtain ⟨es5,h5⟩:=h5no i hi;exact qan lm2 (kr i _ _ h5) (by simp) e)
   a5
   (fun i hi=>by
    rcases a6 i hi with h | h
    ·exact .inl ⟨_,Qa hV,h⟩
    ·exact .inr fun w hw=>by have:=hT1.lt hw;omega)
   (.inl (Qa hMk))
  refine ⟨S.tab k v' S.M[k],O',N',rfl,up,rfl,?_,?_,hT',hN'⟩
  ·intro j hj;rcases hj with hj | hj | hj | hj
   ·exact .inl (.inl hj)
   ·rcases hj with hj | hj | hj | ⟨w,hw,hj⟩
    ·exact .inl (.inr (.inl (.inl hj)))
    ·exact .inl (.inr (.inl (.inr (.inl hj))))
    ·exact .inl (.inr (.inl (.inr (.inr (.inl hj)))))
    ·rcases Qq hw with hw | rfl
     ·exact .inl (.inr (.inl (.inr (.inr (.inr ⟨w,hw,hj⟩)))))
     ·rcases a6 j hj with h | h
      ·exact .inl (own4 j h)
      ·exact .inr (by omega)
   ·exact .inl (.inr (.inr (.inl hj)))
   ·simp only [SV.tab] at hj;rcases Qq hj with hj | rfl
    ·exact .inl (.inr (.inr (.inr hj)))
    ·exact .inl own3
  ·intro j hj hx;have hx1:¬S.own j:=fun h=>hx (.inl h)
   have hx2:¬look j O=some .res:=fun h=>hx (.inr h)
   have h1:=hk1 j hj hx;have h2:=k2 j (fun e=>hx1 (by rw [e];exact own3));rw [a3 j (by omega) (fun e=>hx1 (by rw [e];exact own1)) (fun e=>hx1 (by rw [e];exact own2)) (fun i hi e=>hx1 (by rw [e];exact own4 i hi)) (by rw [h2,h1];exact hx2),h2,h1]
 cases hVk:S.V[k] with
 | Xu z es=>
  rw [hVk] at g5 g1;have hl0:c.rows[k]=[]/\z=5/\es=[]:=by
   generalize hgen:c.rows[k].map Rw.c=gl at g5;cases g5;exact ⟨by simpa using hgen,rfl,rfl⟩
  obtain ⟨hl0,rfl,rfl⟩:=hl0;simp [ls2,lr2,ln2,lb2,u0,qai,qac,qav,fsx,frx,fnx,fnb,hk',hkn,g1,hce,gn,hnr,hwr,hbeq,hsr];refine fin _ (N+1+112+1) (.row (N+1+112) 5 0 1) ?_ (by omega) ?_ ?_ ?_ ?_ (by simp) (by intro i hi;cases hi;right;omega)
  ·refine qaj (qdl (qaj ?_));exact qfd (hT2.mono (by omega)) (QCz _)
  ·simp [qac,qav,qai,lr2,hrn]
  ·simp [qac,qav,qai,ln2,hnr]
  ·intro j hj b1 b2 b3 b4;have hj2:¬N+1+112=j:=by omega
   have hi:look j (setl rid (AO.row 1 (es1.set k [.row (N+1+112) 5 0 1])) (O2++[(N+1+112,AO.row 5 [[AV.int IntKind.i64 c.Xr[k],AV.slice 2 (List.map Xi.c x.keys),AV.int IntKind.i64 x.Xt,AV.int IntKind.i64 x.call.action,AV.slice 1 (List.map c32 x.call.args)]])]))=look j O2:=by
    rw [qac,QA b1,qai];simp [look,hj2]
   rw [qac,QA b2,qav (by rw [hi];exact b4),hi]
  ·refine .row (N+1+112) _ [Rw.c (Rw.mk c.Xr[k] x)] _ (by simp [hl0]) ?_ (by simp [hl0]) (by simp [hl0]);simp [qac,qav,fnx,frx,u0,Rw.ce]
 | row id5 z off n=>
  rw [hVk] at g5 g1;have hg:z=5/\off=0/\n=c.rows[k].length/\∃es5,look id5 (O++[(N,AO.row 4 [Entry.c x])])=some (.row 5 es5)/\c.rows[k].length<=es5.length/\es5.take c.rows[k].length=c.rows[k].map Rw.c:=by
   generalize hgen:c.rows[k].map Rw.c=gl at g5;have hlen:gl.length=c.rows[k].length:=by rw [<- hgen];simp
   cases g5 with
   | row _ _ es5 _ hn hl5 hle5 ht5=>exact ⟨rfl,rfl,by omega,es5,hl5,by omega,by rw [<- hlen];exact ht5⟩
  obtain ⟨rfl,rfl,rfl,es5,hl5,hle5,ht5⟩:=hg;have l52:=kr _ _ _ hl5;have f5:=qca (n:=N+1+112) hT2 l52 (by omega);have h5s:=qan l52 ls2 (by simp);have h5r:=qan l52 lr2 (by simp);have h5n:=qan l52 ln2 (by simp);have hs5:=h5s.symm;have hr5:=h5r.symm;have hn5:=h5n.symm;have h5b:=qan l52 lb2 (by simp);have hb5:=h5b.symm;have hq5:(S.s == id5)=false:=by simpa using hs5
  have hbd:(c.rows[k].length+1)*72<=70368744177664:=by have:=v.small _ (Qd hk');omega
  have hls:=v.small _ (Qd hk');have hres:look (N+1+112) (O2++[(N+1+112,AO.res)])=some .res:=by rw [qai,u0];simp
  have hdr:look (N+1+112) (qbc id5 (O2++[(N+1+112,AO.res)]))=some .res:=by rw [qbi (fun e=>f5.2 e),hres]
  by_cases hfull:c.rows[k].length=es5.length
  ·have hbd2:(es5.length+1)*72<=70368744177664:=by rw [<- hfull];exact hbd
   simp [ls2,lr2,ln2,lb2,u0,qai,qac,qav,qbi,fsx,frx,fnx,fnb,hk',hkn,g1,hce,gn,hnr,hwr,hbeq,hsr,l52,f5,hs5,hr5,hn5,hq5,hbd2,hfull,hdr];refine fin _ (N+1+112+1) (.row (N+1+112) 5 0 (es5.length+1)) ?_ (by omega) ?_ ?_ ?_ ?_ (by simp) (by intro i hi;cases hi;right;omega)
   ·refine qaj (qdl (qaj (qaj (qdk ?_))));exact qfd (hT2.mono (by omega)) (QCz _)
   ·simp [qac,qav,qai,qbi,lr2,hrn,frx,hr5]
   ·simp [qac,qav,qai,qbi,ln2,hnr,fnx,hn5]
   ·intro j hj b1 b2 b3 b4;have hj2:¬N+1+112=j:=by omega
    have hj3:¬j=N+1+112:=by omega
    have hj5:j≠id5:=b3 id5 (by rw [hVk];rfl);have hi:∀A B,look j (setl rid A (setl (N+1+112) B (qbc id5 (O2++[(N+1+112,AO.res)]))))=look j O2:=by
     intro A B;rw [qac,QA b1,qac,QA hj3,qbi hj5,qai];simp [look,hj2]
    rw [qac,QA b2,qav (by rw [hi];exact b4),hi]
   ·have htk:es5=c.rows[k].map Rw.c:=by rw [<- ht5,hfull,QAf]
    refine .row (N+1+112) _ (es5++[Rw.c (Rw.mk c.Xr[k] x)]) _ (by simp [hfull]) ?_ (by simp [htk]) (by simp [htk,Qo]);simp [qac,qav,hdr,fnx,frx,Rw.ce]
  ·have hlt:c.rows[k].length<es5.length:=by omega
   have hlt2:c.rows[k].length+1<=es5.length:=by omega
   have hne:¬es5.length=c.rows[k].length:=by omega
   simp [ls2,lr2,ln2,lb2,u0,qai,qac,qav,fsx,frx,fnx,fnb,hk',hkn,g1,hce,gn,hnr,hwr,hsr,l52,f5,hs5,hr5,hn5,hq5,hbd,hfull,hlt2];refine fin _ (N+1+112+1) (.row id5 5 0 (c.rows[k].length+1)) ?_ (by omega) ?_ ?_ ?_ ?_ (by simp) (by intro i hi;cases hi;left;rw [hVk];rfl)
   ·refine qaj (qdl (qaj (qaj ?_)));exact qfd (hT2.mono (by omega)) (QCz _)
   ·simp [qac,qav,qai,lr2,hrn,hr5]
   ·simp [qac,qav,qai,ln2,hnr,hn5]
   ·intro j hj b1 b2 b3 b4;have hj2:¬N+1+112=j:=by omega
    have hj5:j≠id5:=b3 id5 (by rw [hVk];rfl);have hi:∀A B,look j (setl rid A (setl id5 B (O2++[(N+1+112,AO.res)])))=look j O2:=by
     intro A B;rw [qac,QA b1,qac,QA hj5,qai];simp [look,hj2]
    rw [qac,QA b2,qav (by rw [hi];exact b4),hi]
   ·refine .row id5 _ (es5.take c.rows[k].length++Rw.c (Rw.mk c.Xr[k] x)::es5.drop (c.rows[k].length+1)) _ (by simp) ?_ (by simp;omega) ?_
    ·simp [qac,qav,qai,l52,h5r,h5n,Rw.ce]
    ·rw [QAc,QAe,List.length_singleton,QAu,ht5];have hll:(c.rows[k].map Rw.c).length=c.rows[k].length:=by simp
     rw [List.take_append,hll,Qo (by rw [hll];omega),show c.rows[k].length+1 - c.rows[k].length=1 by omega];simp
 | app z es t=>exact absurd hVk (m1.cm.va _ (Qd hV) _ _ _)
 | _=>rw [hVk] at g5;cases g5
end Go.Av
