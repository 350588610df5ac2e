/-
 Configurations: checks, on both sides.
-/
import Derived.Test.YtakklbipljodeaaGreatQ7
set_option linter.unusedVariables false
set_option linter.unusedSimpArgs false
set_option linter.constructorNameAsVariable false
namespace Go.Av
set_option maxRecDepth 4000
structure CfgT (a:Config):Prop where
 rl:a.rows.length<2^40
 rs:∀l∈a.rows,l.length<2^40∧∀r∈l,rowS r
 nl:a.nextID.length<2^40
 dl:a.defaults.length<2^40
 ds:∀d∈a.defaults,d.args.length<2^40∧∀v∈d.args,ok32 0 v
 gl:a.registers.length<2^40
 gs:∀l∈a.registers,l.length<2^40∧∀v∈l,ok32 0 v
theorem qace {B:Nat} (hB:B<2^40) {r:Rw} (o:r.Ok B):rowS r:=by
 simp only [Rw.Ok,Entry.Ok,ActionCall.Ok] at o
 obtain ⟨_,o1,_,_,o2⟩:=o
 exact ⟨by have:=o1.1;omega,fun m hm=>o1.2 m hm,by have:=o2.1;omega,fun v hv=>o2.2 v hv⟩
theorem qz0 {a:Config} (o:a.Ok qbo):CfgT a:=by
 obtain ⟨o0,o1,o2,o3⟩:=o
 have e:=qdm
 refine ⟨by have:=o0.1;omega,?_,by have:=o1.1;omega,by have:=o2.1;omega,?_,by have:=o3.1;omega,?_⟩
 ·intro l hl
  have:=o0.2 l hl
  exact ⟨by have:=this.1;omega,fun r hr=>qace (by omega) (this.2 r hr)⟩
 ·intro d hd
  have:=o2.2 d hd
  simp only [ActionCall.Ok] at this
  exact ⟨by have:=this.2.1;omega,fun v hv=>this.2.2 v hv⟩
 ·intro l hl
  have:=o3.2 l hl
  exact ⟨by have:=this.1;omega,fun v hv=>this.2 v hv⟩
def rowE (p:Prg) (k:Nat) (tb:Tbl) (l:List Rw) (nx:Int) (z:Int):Int:=if tb.size<l.length then 12 else tabK p k l nx z (ordL l 0)
theorem qafh (p:Prg) (t:Int) (l:List Rw) (nx z:Int) (o:Option Int):tabK p t l nx z o=if tabK p t l nx 0 o≠0 then tabK p t l nx 0 o else z:=by
 cases o with
 | none=>simp [tabK]
 | some a=>
  simp only [tabK]
  by_cases z0:nx≤a
  ·simp [z0]
  by_cases z1:1073741824<nx
  ·simp [z0,z1]
  simp only [if_neg z0,if_neg z1]
  cases q:fe (rowG p t l) l.length 0 with
  | none=>simp
  | some x=>
   have hx:x≠0:=by
    obtain ⟨k,hk,hx⟩:=qed q
    simp only [rowG,Option.bind_eq_some_iff] at hx
    obtain ⟨r,_,hr⟩:=hx
    split at hr
    ·cases hr;assumption
    ·split at hr
     ·cases hr;decide
     ·cases hr
   simp [hx]
theorem qae1 (p:Prg) (k:Nat) (tb:Tbl) (l:List Rw) (nx z:Int):rowE p k tb l nx z=if rowE p k tb l nx 0≠0 then rowE p k tb l nx 0 else z:=by
 unfold rowE
 split
 ·simp
 ·exact qafh _ _ _ _ _ _
def stG (p:Prg) (c:Config) (k:Nat):Option Int:=match p.tables[k]?,c.rows[k]?,c.nextID[k]?,c.defaults[k]? with
 | some tb,some l,some nx,some d=>if rowE p k tb l nx (qbs p k d)=0 then none else some (rowE p k tb l nx (qbs p k d))
 | _,_,_,_=>none
def cfgE (p:Prg) (c:Config):Int:=if (prgD p).1≠0 then (prgD p).1 else if c.rows.length≠p.tables.length∨c.nextID.length≠p.tables.length∨c.defaults.length≠p.tables.length then 2
 else (fe (stG p c) p.tables.length 0).getD (conE p c.registers)
theorem qs1 (p:Prg) (f:PrgS p) (hc:(pre p.control).length<2^40 - 1) (c:Config) (s:CfgT c):qab Φ f_17 [.agg (Prg.c p),.agg (Config.c c)]=some (.val (.int .i64 (cfgE p c))):=by
 rw [qaa (fn:=c_17) rfl rfl]
 have h:=qkl p f hc
 simp only [Prg.e,dgC] at h
 have ht:=f.t
 by_cases z:(prgD p).1=0
 rotate_left
 ·simp [c_17,Prg.e,Config.ce,h,z,cfgE]
 by_cases z1:c.rows.length=p.tables.length
 rotate_left
 ·simp [c_17,Prg.e,Config.ce,h,z,z1,cfgE]
 by_cases z2:c.nextID.length=p.tables.length
 rotate_left
 ·simp [c_17,Prg.e,Config.ce,h,z,z1,z2,cfgE]
 by_cases z3:c.defaults.length=p.tables.length
 rotate_left
 ·simp [c_17,Prg.e,Config.ce,h,z,z1,z2,z3,cfgE]
 rw [show cfgE p c=(fe (stG p c) p.tables.length 0).getD (conE p c.registers) by simp [cfgE,z,z1,z2,z3]]
 simp [c_17,Prg.e,Config.ce,h,z,z1,z2,z3]
 refine qau p.tables.length (fun _=>[]) 0 (fun i e=>look 2 e=some (.iptr 9 [Prg.c p] 0 0)∧look 3 e=some (.iptr 4 [Config.c c] 0 0)∧look 38 e=some (.int .i64 p.tables.length)∧look 39 e=some (.int .i64 i))
  (fun i=>some (Rt.val (.int .i64 ((fe (stG p c) p.tables.length i).getD (conE p c.registers))))) ?_ ?_ 0 _ _ (Nat.zero_le _) (Nat.zero_le _) ?_
 ·rintro i e n L hi hL _ ⟨h2,h3,h38,h39⟩ ih
  have hw:IntKind.wrap .i64 ((i:Int)+1)=((i+1:Nat):Int):=qad (by omega) (by omega)
  have i1:i<c.rows.length:=by omega
  have i2:i<c.nextID.length:=by omega
  have i3:i<c.defaults.length:=by omega
  have hr:=s.rs _ (List.getElem_mem i1)
  have hd:=s.ds _ (List.getElem_mem i3)
  have hk:=qaan p f i hi c.rows[i] c.nextID[i] c.defaults[i] hr.1 hr.2 hd.1
  rw [show (if p.tables[i].size<(c.rows[i].length:Int) then (12:Int) else tabK p i c.rows[i] c.nextID[i] (qbs p i c.defaults[i]) (ordL c.rows[i] 0))=rowE p i p.tables[i] c.rows[i] c.nextID[i] (qbs p i c.defaults[i]) from rfl] at hk
  simp only [Prg.e,ActionCall.ce] at hk
  rw [Prg.e] at h2
  rw [Config.ce] at h3
  by_cases v:rowE p i p.tables[i] c.rows[i] c.nextID[i] (qbs p i c.defaults[i])=0
  ·rw [qap hi (by simp [stG,hi,i1,i2,i3,v])]
   rw [v] at hk
   generalize hX:some (Rt.val (AV.int .i64 ((fe (stG p c) p.tables.length (i+1)).getD (conE p c.registers))))=X
   simp [c_17_l0,cSe,cI,ActionCall.ce,h2,h3,h38,h39,hi,i1,i2,i3,hL,hk,hw]
   rw [← hX]
   exact ih _ _ (Nat.zero_le _) ⟨by simp [h2,Prg.e],by simp [h3,Config.ce,cI,cSe],by simp [h38],by simp⟩
  ·rw [qah (x:=rowE p i p.tables[i] c.rows[i] c.nextID[i] (qbs p i c.defaults[i])) hi (by simp [stG,hi,i1,i2,i3,v])]
   simp [c_17_l0,cSe,cI,ActionCall.ce,h2,h3,h38,h39,hi,i1,i2,i3,hL,hk,v]
 ·rintro e n L hL _ ⟨h2,h3,h38,h39⟩
  have hk:=qaak p f c.registers s.gl fun l hl=>(s.gs l hl).1
  simp only [Prg.e] at hk
  rw [Prg.e] at h2
  rw [Config.ce] at h3
  rw [qaz]
  simp [c_17_l0,c_17_k1,h2,h3,h38,h39,hL,hk]
 ·simp [Prg.e,Config.ce]
end Go.Av
namespace Go.Av
set_option maxRecDepth 4000
theorem qyn (p:Prg) (f:PrgS p) (hv:∀t∈p.tables,∀v∈t.dflt.args,ok32 0 v) (hc:(pre p.control).length<2^40 - 1) (c:Config) (s:CfgT c):qab Φ f_19 [.agg (Prg.c p),.agg (Config.c c)]=some (.val (.int .i64 (cfgE p c))):=by
 rw [qaa (fn:=c_19) rfl rfl]
 have h:=qpq p f hv hc
 simp only [Prg.e,dgC] at h
 have ht:=f.t
 by_cases z:(prgD p).1=0
 rotate_left
 ·simp [c_19,Prg.e,Config.ce,h,z,cfgE]
 by_cases z1:c.rows.length=p.tables.length
 rotate_left
 ·simp [c_19,Prg.e,Config.ce,h,z,z1,cfgE]
 by_cases z2:c.nextID.length=p.tables.length
 rotate_left
 ·simp [c_19,Prg.e,Config.ce,h,z,z1,z2,cfgE]
 by_cases z3:c.defaults.length=p.tables.length
 rotate_left
 ·simp [c_19,Prg.e,Config.ce,h,z,z1,z2,z3,cfgE]
 rw [show cfgE p c=(fe (stG p c) p.tables.length 0).getD (conE p c.registers) by simp [cfgE,z,z1,z2,z3]]
 simp [c_19,Prg.e,Config.ce,h,z,z1,z2,z3]
 refine qau p.tables.length (fun _=>[]) 0 (fun i e=>look 2 e=some (.iptr 9 [Prg.c p] 0 0)∧look 3 e=some (.iptr 4 [Config.c c] 0 0)∧look 5 e=some (.int .i64 p.tables.length)∧look 6 e=some (.int .i64 i))
  (fun i=>some (Rt.val (.int .i64 ((fe (stG p c) p.tables.length i).getD (conE p c.registers))))) ?_ ?_ 0 _ _ (Nat.zero_le _) (Nat.zero_le _) ?_
 ·rintro i e n L hi hL _ ⟨h2,h3,h5,h6⟩ ih
  have hw:IntKind.wrap .i64 ((i:Int)+1)=((i+1:Nat):Int):=qad (by omega) (by omega)
  have i1:i<c.rows.length:=by omega
  have i2:i<c.nextID.length:=by omega
  have i3:i<c.defaults.length:=by omega
  have hr:=s.rs _ (List.getElem_mem i1)
  have hd:=s.ds _ (List.getElem_mem i3)
  have hk:=qy3 p f hv i hi c.rows[i] c.nextID[i] hr.1 hr.2
  have hq:=qym p f hv i c.defaults[i] hd.1 hd.2
  rw [show (if p.tables[i].size<(c.rows[i].length:Int) then (12:Int) else tabK p i c.rows[i] c.nextID[i] 0 (ordL c.rows[i] 0))=rowE p i p.tables[i] c.rows[i] c.nextID[i] 0 from rfl] at hk
  simp only [Prg.e,ActionCall.ce] at hk hq
  rw [Prg.e] at h2
  rw [Config.ce] at h3
  have hz:=qae1 p i p.tables[i] c.rows[i] c.nextID[i] (qbs p i c.defaults[i])
  by_cases v:rowE p i p.tables[i] c.rows[i] c.nextID[i] 0=0
  ·rw [if_neg (by simpa using v)] at hz
   rw [v] at hk
   by_cases w:qbs p i c.defaults[i]=0
   ·rw [qap hi (by simp [stG,hi,i1,i2,i3,hz,w,v])]
    rw [w] at hq
    generalize hX:some (Rt.val (AV.int .i64 ((fe (stG p c) p.tables.length (i+1)).getD (conE p c.registers))))=X
    simp [c_19_l0,cSe,cI,ActionCall.ce,h2,h3,h5,h6,hi,i1,i2,i3,hL,hk,hq,hw]
    rw [← hX]
    exact ih _ _ (Nat.zero_le _) ⟨by simp [h2,Prg.e],by simp [h3,Config.ce,cI,cSe],by simp [h5],by simp⟩
   ·rw [qah (x:=qbs p i c.defaults[i]) hi (by simp [stG,hi,i1,i2,i3,hz,w])]
    simp [c_19_l0,cSe,cI,ActionCall.ce,h2,h3,h5,h6,hi,i1,i2,i3,hL,hk,hq,w]
  ·rw [if_pos v] at hz
   rw [qah (x:=rowE p i p.tables[i] c.rows[i] c.nextID[i] 0) hi (by simp [stG,hi,i1,i2,i3,hz,v])]
   simp [c_19_l0,cSe,cI,ActionCall.ce,h2,h3,h5,h6,hi,i1,i2,i3,hL,hk,v]
 ·rintro e n L hL _ ⟨h2,h3,h5,h6⟩
  have hk:=qyo p c.registers s.gl s.gs
  simp only [Prg.e] at hk
  rw [Prg.e] at h2
  rw [Config.ce] at h3
  rw [qaz]
  simp [c_19_l0,c_19_k1,h2,h3,h5,h6,hL,hk]
 ·simp [Prg.e,Config.ce]
end Go.Av
namespace Go.Av
set_option maxRecDepth 4000
def regN (r:Register):Nat:=if r.size<1∨64<r.size then 0 else r.size.toNat
theorem qab7 (r:Register):regN r≤64:=by
 unfold regN
 split<;>omega
def newR (p:Prg):List (List Int):=p.registers.map fun r=>List.replicate (regN r) 0
theorem qacc (p:Prg) (f:PrgS p):qab Φ f_75 [.agg (Prg.c p)]=some (.val (.slice 1 ((newR p).map (cS 1 c32)))):=by
 rw [qaa (fn:=c_75) rfl rfl]
 have hr:=f.r
 have e0:(newR p).map (cS 1 c32)=p.registers.map fun r=>[AV.slice 1 (List.replicate (regN r) [AV.int .u32 0])]:=by
  simp [newR,cSe,c32]
 rw [e0]
 simp [c_75,Prg.e]
 refine (qau p.registers.length (fun i=>[(0,.tok 1 i)]) 1 (fun i e=>look 1 e=some (.iptr 9 [Prg.c p] 0 0)∧look 3 e=some (.app 1 ((p.registers.map fun r=>[AV.slice 1 (List.replicate (regN r) [AV.int .u32 0])]).take i) 0)∧look 4 e=some (.int .i64 i))
  (fun _=>some (Rt.val (.slice 1 (p.registers.map fun r=>[AV.slice 1 (List.replicate (regN r) [AV.int .u32 0])])))) ?_ ?_ 0 _ 1 (Nat.zero_le _) (Nat.le_refl _) ?_).trans (by simp)
 ·rintro i e n L hi hL hn ⟨h1,h3,h4⟩ ih
  have hw:IntKind.wrap .i64 ((i:Int)+1)=((i+1:Nat):Int):=qad (by omega) (by omega)
  rw [Prg.e] at h1
  have hn0:¬(0=n):=by omega
  have hn1:¬(n=0):=by omega
  have hm:min i p.registers.length=i:=by omega
  have hb:(i+1)*24≤70368744177664:=by omega
  by_cases z:p.registers[i].size<1
  ·have hz:regN p.registers[i]=0:=by simp [regN,z]
   simp [c_75_l0,Register.e,h1,h3,h4,hi,hL,z,hw,hn0,hn1,hm,hb]
   exact ih _ _ (by omega) ⟨by simp [h1,Prg.e],by simp [qav hi,hz],by simp⟩
  by_cases z1:64<p.registers[i].size
  ·have hz:regN p.registers[i]=0:=by simp [regN,z1]
   simp [c_75_l0,Register.e,h1,h3,h4,hi,hL,z,z1,hw,hn0,hn1,hm,hb]
   exact ih _ _ (by omega) ⟨by simp [h1,Prg.e],by simp [qav hi,hz],by simp⟩
  obtain ⟨k,hk⟩:∃k:Nat,p.registers[i].size=k:=⟨p.registers[i].size.toNat,by omega⟩
  have hz:regN p.registers[i]=k:=by simp [regN,z,z1];omega
  have k1:(k:Int)*4≤140737488355328:=by omega
  have k3:k<4611686018427387904:=by omega
  have k0:¬(k:Int)<1:=by omega
  have k2:¬(64:Int)<k:=by omega
  simp [c_75_l0,Register.e,h1,h3,h4,hi,hL,hk,k0,k2,k1,k3,hw,hn0,hn1,hm,hb]
  exact ih _ _ (by omega) ⟨by simp [h1,Prg.e],by simp [qav hi,hz],by simp⟩
 ·rintro e n L hL hn ⟨h1,h3,h4⟩
  rw [Prg.e] at h1
  simp [c_75_l0,c_75_k1,h1,h3,h4,hL]
 ·simp [Prg.e]
def qb5 (p:Prg):Config:=⟨p.tables.map fun _=>[],p.tables.map fun _=>1,p.tables.map fun t=>t.dflt,newR p⟩
theorem qqm (p:Prg):Config.c (qb5 p)=[.slice 1 (p.tables.map fun _=>[.slice 5 []]),.slice 1 (p.tables.map fun _=>[.int .i64 1]),.slice 2 (p.tables.map fun t=>[.int .i64 t.dflt.action,.slice 1 (t.dflt.args.map c32)]),.slice 1 ((newR p).map (cS 1 c32))]:=by
 simp [qb5,Config.ce,cSe,cI,ActionCall.ce]
theorem qwr (p:Prg) (f:PrgS p):qab Φ f_22 [.agg (Prg.c p)]=some (.val (.agg (Config.c (qb5 p)))):=by
 rw [qaa (fn:=c_22) rfl rfl,qqm]
 have ht:=f.t
 have h:=qacc p f
 simp only [Prg.e] at h
 generalize (newR p).map (cS 1 c32)=W at h ⊢
 simp [c_22,Prg.e,h]
 by_cases z:p.tables.length=0
 ·have e0:p.tables=[]:=List.eq_nil_of_length_eq_zero z
  rw [qay]
  simp [c_22_l0,c_22_k1,e0]
 have hp:0<p.tables.length:=by omega
 rw [qay]
 simp [c_22_l0,Tbl.e,hp]
 have t1:∀{β:Type} (g:Tbl→β),(p.tables.map g).take 1=[g p.tables[0]]:=by
  intro β g
  have:=qav (f:=g) hp
  simpa using this
 refine qd3 p.tables.length (fun i e h=>∃n,5≤n∧h=⟨[(0,AO.row 4 [[.fslice 1 [],.fslice 1 [],.fslice 2 [],.fslice 1 []]]),(1,AO.row 4 [[.app 1 ((p.tables.map fun _=>[AV.slice 5 []]).take i) 2,.app 1 ((p.tables.map fun _=>[AV.int .i64 1]).take i) 3,
   .app 2 ((p.tables.map fun t=>[AV.int .i64 t.dflt.action,.slice 1 (t.dflt.args.map c32)]).take i) 4,.slice 1 W]]),(2,.tok 1 i),(3,.tok 1 i),(4,.tok 2 i)],n⟩∧look 1 e=some (.iptr 9 [Prg.c p] 0 0)∧look 2 e=some (.ptr 0 4 0 0)∧look 3 e=some (.ptr 1 4 0 0)∧look 4 e=some (.int .i64 i))
  (fun _=>some (Rt.val (.agg [.slice 1 (p.tables.map fun _=>[.slice 5 []]),.slice 1 (p.tables.map fun _=>[.int .i64 1]),.slice 2 (p.tables.map fun t=>[.int .i64 t.dflt.action,.slice 1 (t.dflt.args.map c32)]),.slice 1 W]))) ?_ ?_ 1 _ _ (by omega) ?_
 ·rintro i e _ L hi hL ⟨n,hn,rfl,h1,h2,h3,h4⟩ ih
  have hw:IntKind.wrap .i64 ((i:Int)+1)=((i+1:Nat):Int):=qad (by omega) (by omega)
  rw [Prg.e] at h1
  have n0:¬(0=n):=by omega
  have n1:¬(1=n):=by omega
  have n2:¬(2=n):=by omega
  have n3:¬(3=n):=by omega
  have n4:¬(4=n):=by omega
  have m0:¬(n=0):=by omega
  have m1:¬(n=1):=by omega
  have m2:¬(n=2):=by omega
  have m3:¬(n=3):=by omega
  have m4:¬(n=4):=by omega
  have hm:min i p.tables.length=i:=by omega
  have hb:(i+1)*24≤70368744177664:=by omega
  have hb2:(i+1)*8≤70368744177664:=by omega
  have hb3:(i+1)*32≤70368744177664:=by omega
  simp [Tbl.e,h1,h2,h3,h4,hi,hL,hw,n0,n1,n2,n3,n4,m0,m1,m2,m3,m4,hm,hb,hb2,hb3]
  exact ih _ _ ⟨_,by omega,by simp [qav hi],by simp [h1,Prg.e],by simp [h2],by simp [h3],by simp⟩
 ·rintro e _ L hL ⟨n,hn,rfl,h1,h2,h3,h4⟩
  rw [Prg.e] at h1
  simp [c_22_k1,h1,h2,h3,h4,hL]
 ·exact ⟨5,by omega,by simp [t1],by simp [Prg.e],by simp,by simp,by simp [wr1]⟩
end Go.Av
namespace Go.Av
set_option maxRecDepth 4000
theorem qen {Ψ:FuncId→Option AFun} {f z bytes:Nat} (hf:Ψ f=some (.rule (qdw z bytes .app))) (es:List (List AV)) (hz:qc1 z es=true) (hb:es.length*bytes≤70368744177664):qab Ψ f [.slice z es]=some (.val (.slice z es)):=by
 unfold qab
 rw [qi6 Ψ hf]
 cases es with
 | nil=>simp [qdw,lenOf,qct,evR,qd8,H0,AH.put]
 | cons x es=>
  simp only [List.length_cons] at hb
  simp [qdw,lenOf,evR,qd8,H0,AH.put,hz,hb]
theorem qqb (l:List Int) (h:l.length<2^40):qab Φ f_161 [.slice 1 (l.map c32)]=some (.val (.slice 1 (l.map c32))):=
 qen (bytes:=4) rfl _ (qdl 1 c32 l fun x=>by simp [c32]) (by rw [List.length_map];omega)
theorem qadh (l:List KeyMatch) (h:l.length<2^40):qab Φ f_182 [.slice 2 (l.map KeyMatch.c)]=some (.val (.slice 2 (l.map KeyMatch.c))):=
 qen (bytes:=8) rfl _ (qdl 2 KeyMatch.c l fun x=>by simp [KeyMatch.c]) (by rw [List.length_map];omega)
theorem ql0 (c:ActionCall) (h:c.args.length<2^40):qab Φ f_74 [.agg (ActionCall.c c)]=some (.val (.agg (ActionCall.c c))):=by
 rw [qaa (fn:=c_74) rfl rfl]
 have k:=qqb c.args h
 simp [c_74,ActionCall.ce,k]
theorem qvd (x:Entry) (h:x.call.args.length<2^40) (h2:x.keys.length<2^40):qab Φ f_90 [.agg (Entry.c x)]=some (.val (.agg (Entry.c x))):=by
 rw [qaa (fn:=c_90) rfl rfl]
 have k:=qadh x.keys h2
 have k2:=ql0 x.call h
 simp only [ActionCall.ce] at k2
 simp [c_90,Entry.ce,k,k2]
theorem qaam (x:Rw) (h:rowS x):qab Φ f_163 [.agg (Rw.c x)]=some (.val (.agg (Rw.c x))):=by
 rw [qaa (fn:=c_163) rfl rfl]
 have k:=qvd x.entry h.al h.kl
 simp only [Entry.ce] at k
 simp [c_163,Rw.ce,k]
end Go.Av
namespace Go.Av
set_option maxRecDepth 4000
theorem qpn (l:List Header) (hl:l.length<2^39) (hf:∀x∈l,qab Φ f_213 [.agg (Header.c x)]=some (.val (.agg (Header.c x)))):qab Φ f_212 [.slice 2 (l.map Header.c),.func (.func f_213) [] []]=some (.val (.slice 2 (l.map Header.c))):=by
 rw [qaa (fn:=c_212) rfl rfl]
 simp [c_212]
 refine (qau l.length (fun i=>[(0,.tok 2 i)]) 1 (fun i e=>look 1 e=some (.func (.func f_213) [] [])∧look 5 e=some (.app 2 ((l.map Header.c).take i) 0)∧look 8 e=some (.slice 2 (l.map Header.c))∧look 9 e=some (.int .i64 l.length)∧look 10 e=some (.int .i64 i))
  (fun _=>some (Rt.val (.slice 2 (l.map Header.c)))) ?_ ?_ 0 _ 1 (Nat.zero_le _) (Nat.le_refl _) ?_).trans (by simp)
 ·rintro i e n L hi hL hn ⟨h1,h5,h8,h9,h10⟩ ih
  have hw:IntKind.wrap .i64 ((i:Int)+1)=((i+1:Nat):Int):=qad (by omega) (by omega)
  have hn0:¬(0=n):=by omega
  have hn1:¬(n=0):=by omega
  have hm:min i l.length=i:=by omega
  have hb:∀k,k≤128→(i+1)*k≤70368744177664:=fun k hk=>by
   have:(i+1)*k≤(i+1)*128:=Nat.mul_le_mul_left _ hk
   omega
  have hN:=hf _ (List.getElem_mem hi)
  simp only [Header.e] at hN
  simp [c_212_l0,Header.e,h1,h5,h8,h9,h10,hi,hL,hw,hn0,hn1,hm,hb,hN]
  exact ih _ _ (by omega) ⟨by simp [h1],by simp [qav hi,Header.e],by simp [h8],by simp [h9],by simp⟩
 ·rintro e n L hL hn ⟨h1,h5,h8,h9,h10⟩
  simp [c_212_l0,c_212_k1,h1,h5,h8,h9,h10,hL]
 ·simp
theorem ql1 (l:List Statement) (hl:l.length<2^39) (hf:∀x∈l,qab Φ f_288 [.agg (Statement.c x)]=some (.val (.agg (Statement.c x)))):qab Φ f_287 [.slice 7 (l.map Statement.c),.func (.func f_288) [] []]=some (.val (.slice 7 (l.map Statement.c))):=by
 rw [qaa (fn:=c_287) rfl rfl]
 simp [c_287]
 refine (qau l.length (fun i=>[(0,.tok 7 i)]) 1 (fun i e=>look 1 e=some (.func (.func f_288) [] [])∧look 5 e=some (.app 7 ((l.map Statement.c).take i) 0)∧look 8 e=some (.slice 7 (l.map Statement.c))∧look 9 e=some (.int .i64 l.length)∧look 10 e=some (.int .i64 i))
  (fun _=>some (Rt.val (.slice 7 (l.map Statement.c)))) ?_ ?_ 0 _ 1 (Nat.zero_le _) (Nat.le_refl _) ?_).trans (by simp)
 ·rintro i e n L hi hL hn ⟨h1,h5,h8,h9,h10⟩ ih
  have hw:IntKind.wrap .i64 ((i:Int)+1)=((i+1:Nat):Int):=qad (by omega) (by omega)
  have hn0:¬(0=n):=by omega
  have hn1:¬(n=0):=by omega
  have hm:min i l.length=i:=by omega
  have hb:∀k,k≤128→(i+1)*k≤70368744177664:=fun k hk=>by
   have:(i+1)*k≤(i+1)*128:=Nat.mul_le_mul_left _ hk
   omega
  have hN:=hf _ (List.getElem_mem hi)
  simp only [Statement.e] at hN
  simp [c_287_l0,Statement.e,h1,h5,h8,h9,h10,hi,hL,hw,hn0,hn1,hm,hb,hN]
  exact ih _ _ (by omega) ⟨by simp [h1],by simp [qav hi,Statement.e],by simp [h8],by simp [h9],by simp⟩
 ·rintro e n L hL hn ⟨h1,h5,h8,h9,h10⟩
  simp [c_287_l0,c_287_k1,h1,h5,h8,h9,h10,hL]
 ·simp
theorem qpm (l:List Action) (hl:l.length<2^39) (hf:∀x∈l,qab Φ f_217 [.agg (Action.c x)]=some (.val (.agg (Action.c x)))):qab Φ f_216 [.slice 3 (l.map Action.c),.func (.func f_217) [] []]=some (.val (.slice 3 (l.map Action.c))):=by
 rw [qaa (fn:=c_216) rfl rfl]
 simp [c_216]
 refine (qau l.length (fun i=>[(0,.tok 3 i)]) 1 (fun i e=>look 1 e=some (.func (.func f_217) [] [])∧look 5 e=some (.app 3 ((l.map Action.c).take i) 0)∧look 8 e=some (.slice 3 (l.map Action.c))∧look 9 e=some (.int .i64 l.length)∧look 10 e=some (.int .i64 i))
  (fun _=>some (Rt.val (.slice 3 (l.map Action.c)))) ?_ ?_ 0 _ 1 (Nat.zero_le _) (Nat.le_refl _) ?_).trans (by simp)
 ·rintro i e n L hi hL hn ⟨h1,h5,h8,h9,h10⟩ ih
  have hw:IntKind.wrap .i64 ((i:Int)+1)=((i+1:Nat):Int):=qad (by omega) (by omega)
  have hn0:¬(0=n):=by omega
  have hn1:¬(n=0):=by omega
  have hm:min i l.length=i:=by omega
  have hb:∀k,k≤128→(i+1)*k≤70368744177664:=fun k hk=>by
   have:(i+1)*k≤(i+1)*128:=Nat.mul_le_mul_left _ hk
   omega
  have hN:=hf _ (List.getElem_mem hi)
  simp only [Action.e] at hN
  simp [c_216_l0,Action.e,h1,h5,h8,h9,h10,hi,hL,hw,hn0,hn1,hm,hb,hN]
  exact ih _ _ (by omega) ⟨by simp [h1],by simp [qav hi,Action.e],by simp [h8],by simp [h9],by simp⟩
 ·rintro e n L hL hn ⟨h1,h5,h8,h9,h10⟩
  simp [c_216_l0,c_216_k1,h1,h5,h8,h9,h10,hL]
 ·simp
theorem qql (l:List Tbl) (hl:l.length<2^39) (hf:∀x∈l,qab Φ f_219 [.agg (Tbl.c x)]=some (.val (.agg (Tbl.c x)))):qab Φ f_218 [.slice 6 (l.map Tbl.c),.func (.func f_219) [] []]=some (.val (.slice 6 (l.map Tbl.c))):=by
 rw [qaa (fn:=c_218) rfl rfl]
 simp [c_218]
 refine (qau l.length (fun i=>[(0,.tok 6 i)]) 1 (fun i e=>look 1 e=some (.func (.func f_219) [] [])∧look 5 e=some (.app 6 ((l.map Tbl.c).take i) 0)∧look 8 e=some (.slice 6 (l.map Tbl.c))∧look 9 e=some (.int .i64 l.length)∧look 10 e=some (.int .i64 i))
  (fun _=>some (Rt.val (.slice 6 (l.map Tbl.c)))) ?_ ?_ 0 _ 1 (Nat.zero_le _) (Nat.le_refl _) ?_).trans (by simp)
 ·rintro i e n L hi hL hn ⟨h1,h5,h8,h9,h10⟩ ih
  have hw:IntKind.wrap .i64 ((i:Int)+1)=((i+1:Nat):Int):=qad (by omega) (by omega)
  have hn0:¬(0=n):=by omega
  have hn1:¬(n=0):=by omega
  have hm:min i l.length=i:=by omega
  have hb:∀k,k≤128→(i+1)*k≤70368744177664:=fun k hk=>by
   have:(i+1)*k≤(i+1)*128:=Nat.mul_le_mul_left _ hk
   omega
  have hN:=hf _ (List.getElem_mem hi)
  simp only [Tbl.e] at hN
  simp [c_218_l0,Tbl.e,h1,h5,h8,h9,h10,hi,hL,hw,hn0,hn1,hm,hb,hN]
  exact ih _ _ (by omega) ⟨by simp [h1],by simp [qav hi,Tbl.e],by simp [h8],by simp [h9],by simp⟩
 ·rintro e n L hL hn ⟨h1,h5,h8,h9,h10⟩
  simp [c_218_l0,c_218_k1,h1,h5,h8,h9,h10,hL]
 ·simp
theorem qj9 (l:List ParserState) (hl:l.length<2^39) (hf:∀x∈l,qab Φ f_221 [.agg (ParserState.c x)]=some (.val (.agg (ParserState.c x)))):qab Φ f_220 [.slice 7 (l.map ParserState.c),.func (.func f_221) [] []]=some (.val (.slice 7 (l.map ParserState.c))):=by
 rw [qaa (fn:=c_220) rfl rfl]
 simp [c_220]
 refine (qau l.length (fun i=>[(0,.tok 7 i)]) 1 (fun i e=>look 1 e=some (.func (.func f_221) [] [])∧look 5 e=some (.app 7 ((l.map ParserState.c).take i) 0)∧look 8 e=some (.slice 7 (l.map ParserState.c))∧look 9 e=some (.int .i64 l.length)∧look 10 e=some (.int .i64 i))
  (fun _=>some (Rt.val (.slice 7 (l.map ParserState.c)))) ?_ ?_ 0 _ 1 (Nat.zero_le _) (Nat.le_refl _) ?_).trans (by simp)
 ·rintro i e n L hi hL hn ⟨h1,h5,h8,h9,h10⟩ ih
  have hw:IntKind.wrap .i64 ((i:Int)+1)=((i+1:Nat):Int):=qad (by omega) (by omega)
  have hn0:¬(0=n):=by omega
  have hn1:¬(n=0):=by omega
  have hm:min i l.length=i:=by omega
  have hb:∀k,k≤128→(i+1)*k≤70368744177664:=fun k hk=>by
   have:(i+1)*k≤(i+1)*128:=Nat.mul_le_mul_left _ hk
   omega
  have hN:=hf _ (List.getElem_mem hi)
  simp only [ParserState.e] at hN
  simp [c_220_l0,ParserState.e,h1,h5,h8,h9,h10,hi,hL,hw,hn0,hn1,hm,hb,hN]
  exact ih _ _ (by omega) ⟨by simp [h1],by simp [qav hi,ParserState.e],by simp [h8],by simp [h9],by simp⟩
 ·rintro e n L hL hn ⟨h1,h5,h8,h9,h10⟩
  simp [c_220_l0,c_220_k1,h1,h5,h8,h9,h10,hL]
 ·simp
theorem qeo (l:List ControlNode) (hl:l.length<2^39) (hf:∀x∈l,qab Φ f_223 [.agg (ControlNode.c x)]=some (.val (.agg (ControlNode.c x)))):qab Φ f_222 [.slice 5 (l.map ControlNode.c),.func (.func f_223) [] []]=some (.val (.slice 5 (l.map ControlNode.c))):=by
 rw [qaa (fn:=c_222) rfl rfl]
 simp [c_222]
 refine (qau l.length (fun i=>[(0,.tok 5 i)]) 1 (fun i e=>look 1 e=some (.func (.func f_223) [] [])∧look 5 e=some (.app 5 ((l.map ControlNode.c).take i) 0)∧look 8 e=some (.slice 5 (l.map ControlNode.c))∧look 9 e=some (.int .i64 l.length)∧look 10 e=some (.int .i64 i))
  (fun _=>some (Rt.val (.slice 5 (l.map ControlNode.c)))) ?_ ?_ 0 _ 1 (Nat.zero_le _) (Nat.le_refl _) ?_).trans (by simp)
 ·rintro i e n L hi hL hn ⟨h1,h5,h8,h9,h10⟩ ih
  have hw:IntKind.wrap .i64 ((i:Int)+1)=((i+1:Nat):Int):=qad (by omega) (by omega)
  have hn0:¬(0=n):=by omega
  have hn1:¬(n=0):=by omega
  have hm:min i l.length=i:=by omega
  have hb:∀k,k≤128→(i+1)*k≤70368744177664:=fun k hk=>by
   have:(i+1)*k≤(i+1)*128:=Nat.mul_le_mul_left _ hk
   omega
  have hN:=hf _ (List.getElem_mem hi)
  obtain ⟨kk,tt,cc,aa,bb,hx⟩:=qc5 l[i]
  rw [hx,ControlNode.ce] at hN
  simp [c_222_l0,hx,ControlNode.ce,h1,h5,h8,h9,h10,hi,hL,hw,hn0,hn1,hm,hb,hN]
  exact ih _ _ (by omega) ⟨by simp [h1],by simp [qav hi,hx,ControlNode.ce],by simp [h8],by simp [h9],by simp⟩
 ·rintro e n L hL hn ⟨h1,h5,h8,h9,h10⟩
  simp [c_222_l0,c_222_k1,h1,h5,h8,h9,h10,hL]
 ·simp
end Go.Av
namespace Go.Av
set_option maxRecDepth 4000
theorem qs8 (H:AH):∀l:List Int,mapO (mapO (snap 39 H)) (l.map cI)=some (l.map cI)
 | []=>by simp [mapO]
 | x::l=>by
  have ih:=qs8 H l
  simp only [List.map_cons,mapO,ih]
  simp [cI,mapO]
theorem qqa (l:List Int) (h:l.length<2^40):qab Φ f_162 [.slice 1 (l.map cI)]=some (.val (.slice 1 (l.map cI))):=by
 unfold qab
 rw [qi6 Φ (g:=qdw 1 8 .row) rfl]
 cases l with
 | nil=>simp [qdw,lenOf,qct,evR,qd8,H0,AH.put]
 | cons x l=>
  have hb:(l.length+1)*8≤70368744177664:=by simp at h;omega
  have hm:=qs8 ⟨[(0,.row 1 ((x::l).map cI))],1⟩ (x::l)
  simp [cI] at hm
  simp [qdw,lenOf,evR,qd8,H0,AH.put,hb,cI,hm]
theorem qp9 (l:List Fld) (h:l.length<2^40):qab Φ f_214 [.slice 2 (l.map Fld.c)]=some (.val (.slice 2 (l.map Fld.c))):=
 qen (bytes:=24) rfl _ (qdl 2 Fld.c l fun x=>by simp [Fld.e]) (by rw [List.length_map];omega)
theorem qadg (l:List Register) (h:l.length<2^40):qab Φ f_215 [.slice 3 (l.map Register.c)]=some (.val (.slice 3 (l.map Register.c))):=
 qen (bytes:=32) rfl _ (qdl 3 Register.c l fun x=>by simp [Register.e]) (by rw [List.length_map];omega)
theorem qadi (l:List TableKey) (h:l.length<2^40):qab Φ f_289 [.slice 3 (l.map TableKey.c)]=some (.val (.slice 3 (l.map TableKey.c))):=
 qen (bytes:=24) rfl _ (qdl 3 TableKey.c l fun x=>by simp [TableKey.e]) (by rw [List.length_map];omega)
theorem qadf (l:List SelectCase) (h:l.length<2^40):qab Φ f_290 [.slice 3 (l.map SelectCase.c)]=some (.val (.slice 3 (l.map SelectCase.c))):=
 qen (bytes:=16) rfl _ (qdl 3 SelectCase.c l fun x=>by simp [SelectCase.e]) (by rw [List.length_map];omega)
theorem qp8 (l:List ExprNode) (h:l.length<2^40):qab Φ f_291 [.slice 3 (l.map ExprNode.c)]=some (.val (.slice 3 (l.map ExprNode.c))):=
 qen (bytes:=24) rfl _ (qdl 3 ExprNode.c l fun x=>by simp [ExprNode.c]) (by rw [List.length_map];omega)
theorem qtp (x:Header) (h:x.fields.length<2^40):qab Φ f_213 [.agg (Header.c x)]=some (.val (.agg (Header.c x))):=by
 rw [qaa (fn:=c_213) rfl rfl]
 have k:=qp9 x.fields h
 simp [c_213,Header.e,k]
theorem qpi (x:Statement) (h:x.index.length<2^40) (h2:x.value.length<2^40):qab Φ f_288 [.agg (Statement.c x)]=some (.val (.agg (Statement.c x))):=by
 rw [qaa (fn:=c_288) rfl rfl]
 have k:=qp8 x.index h
 have k2:=qp8 x.value h2
 simp [c_288,Statement.e,k,k2]
theorem qu9 (x:Tbl) (h:x.keys.length<2^40) (h2:x.actions.length<2^40) (h3:x.dflt.args.length<2^40):qab Φ f_219 [.agg (Tbl.c x)]=some (.val (.agg (Tbl.c x))):=by
 rw [qaa (fn:=c_219) rfl rfl]
 have k:=qadi x.keys h
 have k2:=qqa x.actions h2
 have k3:=qqb x.dflt.args h3
 simp [c_219,Tbl.e,k,k2,k3]
theorem qu8 (x:ParserState) (h:x.extract.length<2^40) (h2:x.cases.length<2^40):qab Φ f_221 [.agg (ParserState.c x)]=some (.val (.agg (ParserState.c x))):=by
 rw [qaa (fn:=c_221) rfl rfl]
 have k:=qqa x.extract h
 have k2:=qadf x.cases h2
 simp [c_221,ParserState.e,k,k2]
theorem qtn (x:Action) (h:x.params.length<2^40) (h2:x.body.length<2^39) (h3:∀s∈x.body,s.index.length<2^40∧s.value.length<2^40):qab Φ f_217 [.agg (Action.c x)]=some (.val (.agg (Action.c x))):=by
 rw [qaa (fn:=c_217) rfl rfl]
 have k:=qp9 x.params h
 have k2:=ql1 x.body h2 fun s hs=>qpi s (h3 s hs).1 (h3 s hs).2
 simp [c_217,Action.e,k,k2]
theorem qlx:∀(n:Nat) (x:ControlNode),SizeOf.sizeOf x≤n→ControlNode.Ok qbo x→qab Φ f_223 [.agg (ControlNode.c x)]=some (.val (.agg (ControlNode.c x)))
 | 0,x,h,_=>by cases x;simp at h
 | n+1,x,h,ho=>by
  obtain ⟨k,t,c,a,b,rfl⟩:=qc5 x
  simp only [ControlNode.Ok] at ho
  obtain ⟨_,_,hc,⟨ha1,ha2⟩,hb1,hb2⟩:=ho
  rw [ControlNode.oks_eq] at ha2 hb2
  have e:=qdm
  simp at h
  have hc1:=hc.1
  have k1:=qp8 c (by omega)
  have k2:=qeo a (by omega) fun y hy=>qlx n y (by have:=List.sizeOf_lt_of_mem hy;omega) (ha2 y hy)
  have k3:=qeo b (by omega) fun y hy=>qlx n y (by have:=List.sizeOf_lt_of_mem hy;omega) (hb2 y hy)
  rw [qaa (fn:=c_223) rfl rfl]
  simp [c_223,ControlNode.ce,k1,k2,k3]
end Go.Av
namespace Go.Av
set_option maxRecDepth 4000
theorem qwh (p:Prg) (op:p.Ok qbo):qab Φ f_139 [.agg (Prg.c p)]=some (.val (.agg (Prg.c p))):=by
 have f:=qij op
 obtain ⟨_,o1,o2,o3,o4,o5,o6,o7,o8⟩:=op
 have e:=qdm
 have k1:=qpn p.headers (by have:=o1.1;omega) fun x hx=>qtp x (f.hl x hx)
 have k2:=qp9 p.metadata f.m
 have k3:=qadg p.registers f.r
 have k4:=qpm p.actions (by have:=o4.1;omega) fun x hx=>qtn x (f.ap x hx) (by
  have h:=o4.2 x hx
  simp only [Action.Ok] at h
  have:=h.2.2.1
  omega) fun s hs=>⟨f.ai x hx s hs,f.av x hx s hs⟩
 have k5:=qql p.tables (by have:=o5.1;omega) fun x hx=>qu9 x (f.tk x hx) (f.ta x hx) (f.tg x hx)
 have k6:=qj9 p.states (by have:=o6.1;omega) fun x hx=>qu8 x (f.se x hx) (f.sc x hx)
 have k7:=qeo p.control (by have:=o7.1;omega) fun x hx=>qlx _ x (Nat.le_refl _) (o7.2 x hx)
 have k8:=qqa p.deparser f.d
 rw [qaa (fn:=c_139) rfl rfl]
 simp [c_139,Prg.e,k1,k2,k3,k4,k5,k6,k7,k8]
end Go.Av
