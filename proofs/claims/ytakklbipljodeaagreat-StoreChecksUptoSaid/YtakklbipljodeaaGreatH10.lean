/-
 store.EmptyConfig.
-/
import Derived.Test.YtakklbipljodeaaGreatH7
set_option linter.unusedVariables false
set_option linter.unusedSimpArgs false
set_option linter.constructorNameAsVariable false
namespace Go.Av
set_option maxRecDepth 4000
theorem qog {O:List (Nat×AO)} {n p:Nat} {o:AO} (h:Tail O n) (hp:p<n):Tail (O++[(p,o)]) n:=by
 rw [qb1,qbh]
 exact ⟨h,hp,Tail.nil _⟩
theorem qm0 {n:Nat} {H:AH} {β:Type} (x:List AV) (h:mapO (snap n H) x=some x) (l:List β):mapO (mapO (snap n H)) (l.map fun _=>x)=some (l.map fun _=>x):=qg6 (g:=fun _=>x) (fun _=>h) l
theorem qqn (p:Prg) (f:PrgS p) (hd:∀t∈p.tables,t.dflt.args.length<2^40):qab Φ f_21 [.agg (Prg.c p)]=some (.val (.agg (Config.c (qb5 p)))):=by
 rw [qaa (fn:=c_21) rfl rfl,qqm]
 have ht:=f.t
 have h:=qad2 p f
 simp only [Prg.e] at h
 generalize (newR p).map (cS 1 c32)=W at h ⊢
 generalize hQ:(fun r:Option Rt=>r=some (Rt.val (.agg [.slice 1 (p.tables.map fun _=>[.slice 5 []]),.slice 1 (p.tables.map fun _=>[.int .i64 1]),.slice 2 (p.tables.map fun t=>[.int .i64 t.dflt.action,.slice 1 (t.dflt.args.map c32)]),.slice 1 W])))=Q
 have hq:∀r,Q r=(r=some (Rt.val (.agg [.slice 1 (p.tables.map fun _=>[.slice 5 []]),.slice 1 (p.tables.map fun _=>[.int .i64 1]),.slice 2 (p.tables.map fun t=>[.int .i64 t.dflt.action,.slice 1 (t.dflt.args.map c32)]),.slice 1 W]))):=fun r=>by rw [← hQ]
 rw [← hq]
 clear hQ
 simp [c_21,Prg.e,h]
 refine qhp p.tables.length (fun i e h=>∃(O':List (Nat×AO)) (N':Nat) (w1 w2 w3:AV),h=⟨O',N'⟩∧Tail O' N'∧look 0 O'=some (.row 4 [[.fslice 1 [],.fslice 1 [],.fslice 2 [],.fslice 1 []]])∧look 1 O'=some (.row 4 [[w1,w2,w3,.slice 1 W]])∧
   ((i=0∧w1= .fslice 1 []∧w2= .fslice 1 []∧w3= .fslice 2 [])∨∃a b t,w1= .row a 1 0 i∧look a O'=some (.row 1 ((p.tables.map fun _=>[AV.slice 5 []]).take i))∧w2= .row b 1 0 i∧look b O'=some (.row 1 ((p.tables.map fun _=>[AV.int .i64 1]).take i))∧a≠b∧
    w3= .app 2 ((p.tables.map fun t=>[AV.int .i64 t.dflt.action,.slice 1 (t.dflt.args.map c32)]).take i) t∧look t O'=some (.tok 2 i))∧
   look 2 e=some (.ptr 0 4 0 0)∧look 3 e=some (.ptr 1 4 0 0)∧look 10 e=some (.slice 6 (p.tables.map Tbl.c))∧look 11 e=some (.int .i64 p.tables.length)∧look 12 e=some (.int .i64 i)) Q ?_ ?_ 0 _ _ (Nat.zero_le _) ?_
 ·rintro i e _ L hi hL ⟨O',N',w1,w2,w3,rfl,hT',l0,l1,hw,e2,e3,e10,e11,e12⟩ ih
  have hw1:IntKind.wrap .i64 ((i:Int)+1)=((i+1:Nat):Int):=qad (by omega) (by omega)
  have hc:=ql0 p.tables[i].dflt (hd _ (List.getElem_mem hi))
  simp only [ActionCall.ce] at hc
  have t0:=hT' N' (Nat.le_refl _)
  have t1:=hT' (N'+1) (by omega)
  have t2:=hT' (N'+2) (by omega)
  have t3:=hT' (N'+3) (by omega)
  have hTm:Tail O' (N'+1+1+1+1):=hT'.mono (by omega)
  have nz:¬N'=0:=by have:=hT'.lt l1;omega
  have f0:=qce hT' l0 (Nat.le_refl N')
  have f1:=qce hT' l1 (Nat.le_refl N')
  have g1:¬1=N'+1∧¬N'+1=1:=by omega
  have g2:¬1=N'+2∧¬N'+2=1:=by omega
  have g3:¬1=N'+3∧¬N'+3=1:=by omega
  have g4:¬0=N'+1∧¬0=N'+2∧¬0=N'+3:=by omega
  have s1:∀{β:Type} (g:Tbl→β),(p.tables.map g).take (i+1)=(p.tables.map g).take i++[g p.tables[i]]:=fun g=>qav hi
  rcases hw with ⟨rfl,rfl,rfl,rfl⟩ | ⟨a,b,t,rfl,la,rfl,lb,hab,rfl,lt⟩
  ·have s2:∀{β:Type} (g:Tbl→β),(p.tables.map g).take 1=[g p.tables[0]]:=fun g=>by simpa using s1 g
   simp [c_21_l0,Tbl.e,e2,e3,e10,e11,e12,hi,hL,hc,t0,t1,t2,t3,wr1,qak,qal,l1,g1,g2,g3]
   refine ih _ _ ⟨_,_,.row (N'+1) 1 0 1,.row (N'+1+1) 1 0 1,.app 2 _ (N'+1+1+1),rfl,?_,?_,?_,.inr ⟨N'+1,N'+1+1,N'+1+1+1,rfl,?_,rfl,?_,by omega,by rw [s1],?_⟩,?_,?_,?_,?_,?_⟩
   ·repeat' first | exact hTm | apply qbi | apply qeb | apply qog | omega
   ·simp [qak,qal,l0,g4,nz]
   ·simp [qak,qal,l1]
   ·simp [qak,qal,g1,t1,s2,nz]
   ·simp [qak,qal,g2,t2,s2]
   ·simp [qak,qal,g3,t3]
   all_goals simp [e2,e3,e10,e11,Tbl.e]
  ·have i0:0≠a:=qbn l0 la (by simp)
   have i1:1≠a:=qbn l1 la (by simp)
   have i2:0≠b:=qbn l0 lb (by simp)
   have i3:1≠b:=qbn l1 lb (by simp)
   have i4:t≠a:=qbn lt la (by simp)
   have i5:t≠b:=qbn lt lb (by simp)
   have i6:0≠t:=qbn l0 lt (by simp)
   have i7:1≠t:=qbn l1 lt (by simp)
   have fa:=qce hT' la (Nat.le_refl N')
   have fa1:=qce (n:=N'+1) hT' la (by omega)
   have fb:=qce hT' lb (Nat.le_refl N')
   have fb1:=qce (n:=N'+1) hT' lb (by omega)
   have fb2:=qce (n:=N'+1+1) hT' lb (by omega)
   have fc1:=qce (n:=N'+1) hT' lt (by omega)
   have fc2:=qce (n:=N'+1+1) hT' lt (by omega)
   have hm:min i p.tables.length=i:=by omega
   have j0:=i0.symm
   have j1:=i1.symm
   have j2:=i2.symm
   have j3:=i3.symm
   have j4:=i4.symm
   have j5:=i5.symm
   have j6:=i6.symm
   have j7:=i7.symm
   have hba:b≠a:=fun e=>hab e.symm
   have c1:(i+1)*24≤70368744177664:=by omega
   have c2:(i+1)*8≤70368744177664:=by omega
   have c3:(i+1)*32≤70368744177664:=by omega
   simp [c_21_l0,Tbl.e,e2,e3,e10,e11,e12,hi,hL,hc,t0,t1,t2,t3,hw1,qak,qal,qcx,qcs,l1,g1,g2,g3,la,lb,lt,i0,i1,i2,i3,i4,i5,i6,i7,j0,j1,j2,j3,j4,j5,j6,j7,nz,fa,fa1,fb,fb1,fb2,fc1,fc2,hba,hab,hm,c1,c2,c3]
   refine ih _ _ ⟨_,_,.row (N'+1) 1 0 (i+1),.row (N'+1+1) 1 0 (i+1),.app 2 _ t,rfl,?_,?_,?_,.inr ⟨N'+1,N'+1+1,t,rfl,?_,rfl,?_,by omega,by rw [s1],?_⟩,?_,?_,?_,?_,?_⟩
   ·have hTn:Tail O' (N'+1+1+1):=hT'.mono (by omega)
    repeat' first | exact hTm | exact hTn | apply qbi | apply qeb | apply qog | omega
   ·simp [qak,qal,qcx,l0,g4,nz,i0,i2,i6]
   ·simp [qak,qal,qcx,l1,i1,i3,i7]
   ·simp [qak,qal,qcx,qcs,g1,t1,s1,nz,fb1,fc1,i1,i3,i7]
   ·simp [qak,qal,qcx,qcs,g2,t2,s1,nz,fb2,fc2]
   ·simp [qak,qal,qcx,lt,i4,i5,j7]
   all_goals simp [e2,e3,e10,e11,Tbl.e]
 ·rintro e _ L hL ⟨O',N',w1,w2,w3,rfl,hT',l0,l1,hw,e2,e3,e10,e11,e12⟩
  simp [c_21_l0,c_21_k1,e2,e3,e11,e12,hL,l1,l0,qal]
  rw [hq]
  rcases hw with ⟨hz,rfl,rfl,rfl⟩ | ⟨a,b,t,rfl,la,rfl,lb,hab,rfl,lt⟩
  ·have:p.tables=[]:=List.eq_nil_of_length_eq_zero hz
   simp [this,mapO]
  ·rw [List.take_of_length_le (by simp)] at la lb
   have i0:¬a=0:=fun e=>qbn l0 la (by simp) e.symm
   have i2:¬b=0:=fun e=>qbn l0 lb (by simp) e.symm
   have r1:=fun H=>qm0 (n:=38) (H:=H) [AV.slice 5 []] (by simp) p.tables
   have r2:=fun H=>qm0 (n:=38) (H:=H) [AV.int .i64 1] (by simp) p.tables
   have ht1:∀{β:Type} (g:Tbl→β),(p.tables.map g).take p.tables.length=p.tables.map g:=fun g=>List.take_of_length_le (by simp)
   simp [la,lb,qal,i0,i2,ht1,r1,r2]
 ·refine ⟨_,_,.fslice 1 [],.fslice 1 [],.fslice 2 [],rfl,?_,?_,?_,.inl ⟨rfl,rfl,rfl,rfl⟩,?_,?_,?_,?_,?_⟩
  all_goals simp [qbh,qfp]
end Go.Av
namespace Go.Av
set_option maxRecDepth 4000
theorem qw9 {p:Prg} {t:Int} {tb:Tbl} (h:(tblE p t).2=0) (ht:at? p.tables t=some tb):tb.size≤256:=by
 unfold tblE at h
 rw [ht] at h
 simp only at h
 split at h
 ·cases h
 split at h
 ·cases h
 split at h
 ·cases h
 ·omega
theorem qxu {p:Prg} {t:Int} {x:Entry} (h:entE p t x=0):(tblE p t).2=0:=by
 unfold entE at h
 refine Decidable.byContradiction fun hc=>?_
 rw [if_pos hc] at h
 exact hc h
theorem CfgV.small {p:Prg} {c:Config} (v:CfgV p c):∀l∈c.rows,l.length≤256:=by
 intro l hl
 obtain ⟨k,hk,rfl⟩:=List.mem_iff_getElem.1 hl
 have hkt:k<p.tables.length:=by rw [← v.rl];exact hk
 have hv:=v.at hkt
 by_cases h0:c.rows[k].length=0
 ·omega
 have he:=hv.ent _ (List.getElem_mem (show 0<c.rows[k].length by omega))
 have hs:=qw9 (qxu he) (by rw [qu5];exact List.getElem?_eq_getElem hkt)
 have:=hv.size
 omega
theorem CfgV.u {p:Prg} {c:Config} (v:CfgV p c) (s:CfgT c):CfgU c:=⟨s,fun l hl=>by have:=v.small l hl;omega⟩
theorem CfgV.incs {p:Prg} {c:Config} (v:CfgV p c):∀l∈c.rows,l.Pairwise fun a b=>a.id<b.id:=by
 intro l hl
 obtain ⟨k,hk,rfl⟩:=List.mem_iff_getElem.1 hl
 have hkt:k<p.tables.length:=by rw [← v.rl];exact hk
 exact (v.at hkt).inc
def qxh (N:Nat) (O:List (Nat×AO)) (p:Prg) (c:Config) (r:Option (Rt×AH)):Prop:=
 (cfgE p c≠0∧r=some (.val (.tup [.nilptr,.int .i64 (cfgE p c)]),⟨O,N⟩))∨
 (cfgE p c=0∧∃S O' N',r=some (.val (.tup [.ptr S.s 15 0 0,.int .i64 0]),⟨O',N'⟩)∧StoreM O' S p c∧(∀j,S.own j→N≤j)∧Kp (Rs O) N O O'∧Tail O' N'∧N≤N')
theorem qz1 (p:Prg) (op:p.Ok qbo) (hc:(pre p.control).length<2^40 - 1) (c:Config) (s:CfgT c) {O:List (Nat×AO)} {N:Nat} (hT:Tail O N):
  qxh N O p c (qan Φ f_18 [.agg (Prg.c p),.agg (Config.c c)] ⟨O,N⟩):=by
 rw [qc6 (fn:=c_18) rfl rfl]
 have f:=qij op
 have hk:=qs1 p f hc c s
 simp only [Prg.e,Config.ce] at hk
 by_cases z:cfgE p c=0
 ·have v:=(qoj p c).1 z
  obtain ⟨S,O',N',e,h1,h2,h3,h4,h5⟩:=qs7 p op c (v.u s) v.incs hT (CfgR.imm (O:=O) c)
  rw [z] at hk
  simp only [Prg.e] at e
  simp [c_18,Prg.e,Config.ce,hk,e]
  exact .inr ⟨z,S,O',N',rfl,h1,h2,h3,h4,h5⟩
 ·simp [c_18,Prg.e,Config.ce,hk,z]
  exact .inl ⟨z,rfl⟩
theorem qvm {p:Prg} (op:p.Ok qbo):CfgT (qb5 p):=by
 have f:=qij op
 have e:=qdm
 have ht:=f.t
 have hr:=f.r
 obtain ⟨_,_,_,_,_,o5,_⟩:=op
 refine ⟨by simpa [qb5] using ht,?_,by simpa [qb5] using ht,by simpa [qb5] using ht,?_,by simpa [qb5,newR] using hr,?_⟩
 ·intro l hl
  simp [qb5] at hl
  obtain ⟨_,_,rfl⟩:=hl
  simp
 ·intro d hd
  simp [qb5] at hd
  obtain ⟨t,ht,rfl⟩:=hd
  have:=o5.2 t ht
  simp only [Tbl.Ok,ActionCall.Ok] at this
  exact ⟨by have:=this.2.2.2.1.2.1;omega,fun v hv=>this.2.2.2.1.2.2 v hv⟩
 ·intro l hl
  simp [qb5,newR] at hl
  obtain ⟨r,_,rfl⟩:=hl
  have:=qab7 r
  refine ⟨by simp;omega,?_⟩
  intro v hv
  have:=List.eq_of_mem_replicate hv
  subst this
  exact ⟨by omega,by omega⟩
def qz2 (N:Nat) (O:List (Nat×AO)) (p:Prg) (r:Option (Rt×AH)):Prop:=
 ((prgD p).1≠0∧r=some (.val (.tup [.nilptr,.int .i64 (prgD p).1]),⟨O,N+1⟩))∨
 ((prgD p).1=0∧∃S O' N',r=some (.val (.tup [.ptr S.s 15 0 0,.int .i64 0]),⟨O',N'⟩)∧StoreM O' S p (qb5 p)∧(∀j,S.own j→N≤j)∧Kp (Rs O) N O O'∧Tail O' N'∧N≤N')
theorem qadb (p:Prg) (op:p.Ok qbo) (hc:(pre p.control).length<2^40 - 1) {O:List (Nat×AO)} {N:Nat} (hT:Tail O N):
  qz2 N O p (qan Φ f_23 [.agg (Prg.c p)] ⟨O,N⟩):=by
 rw [qc6 (fn:=c_23) rfl rfl]
 have f:=qij op
 have h:=qkl p f hc
 have t0:=hT N (Nat.le_refl _)
 have hT1:Tail O (N+1):=hT.mono (by omega)
 have sT:=qvm op
 have he:=qqn p f fun t ht=>(sT.ds t.dflt (by simp [qb5];exact ⟨t,ht,rfl⟩)).1
 simp only [Prg.e,dgC] at h he
 by_cases z:(prgD p).1=0
 ·obtain ⟨S,O',N',e,h1,h2,h3,h4,h5⟩:=qs7 p op (qb5 p) ⟨sT,fun l hl=>by simp [qb5] at hl;obtain ⟨_,_,rfl⟩:=hl;simp⟩ (fun l hl=>by simp [qb5] at hl;obtain ⟨_,_,rfl⟩:=hl;simp) hT1 (CfgR.imm (O:=O) (qb5 p))
  rw [← Config.ce] at e
  simp only [Prg.e] at e
  simp [c_23,Prg.e,h,z,he,t0,e]
  refine .inr ⟨z,S,O',N',rfl,h1,fun j hj=>by have:=h2 j hj;omega,fun j hj hx=>h3 j (by omega) hx,h4,by omega⟩
 ·simp [c_23,Prg.e,h,z,t0]
  exact .inl ⟨z,rfl⟩
theorem qof {p:Prg} {c:Config} (u:CfgU c) {S:SV} {O:List (Nat×AO)} {N:Nat} (hT:Tail O N) (m:StoreM O S p c):qu2 N O c (qan Φ f_24 [.ptr S.s 15 0 0] ⟨O,N⟩):=by
 rw [qc6 (fn:=c_24) rfl rfl]
 have t0:=hT N (Nat.le_refl _)
 have hs:=m.s
 simp only [SV.cells,Prg.e,List.cons_append,List.nil_append] at hs
 have fs:=qce hT hs (Nat.le_refl N)
 have hk1:Kp (fun _=>False) N O (O++[(N,AO.row 4 [[.fslice 1 [],.fslice 1 [],.fslice 2 [],.fslice 1 []]])]):=Kp.app (fun _ _ _=>rfl) (Nat.le_refl _)
 have hT1:=hT.app1 (o:=AO.row 4 [[.fslice 1 [],.fslice 1 [],.fslice 2 [],.fslice 1 []]]) (Nat.le_refl N)
 obtain ⟨w1,w2,w3,w4,V,O',N',e,h1,h2,h3,h4,h5⟩:=qio c u hT1 (m.cm.re.kp hT hk1 (by simp))
 have ln:look N O'=some (.row 4 [[.fslice 1 [],.fslice 1 [],.fslice 2 [],.fslice 1 []]]):=h3.lk hT1 (by rw [qak,t0];simp) (by simp)
 simp [c_24,t0,qak,hs,e,ln,qal]
 refine ⟨w1,w2,w3,w4,V,_,N',rfl,?_,fun j hj=>by have:=h2 j hj;omega,?_,qbi h4,by omega⟩
 ·refine h1.fr fun j hj=>?_
  have:=h2 j hj
  rw [qal,if_neg (by omega)]
 ·intro j hj hx
  rw [qal,if_neg (by omega),h3 j (by omega) hx,qak,show look j [(N,AO.row 4 [[.fslice 1 [],.fslice 1 [],.fslice 2 [],.fslice 1 []]])]=none by simp [look];omega]
  simp
end Go.Av
