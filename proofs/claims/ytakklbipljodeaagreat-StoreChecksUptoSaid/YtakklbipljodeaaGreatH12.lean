/-
 The law StoreChecks returns true for every program and every configuration.
-/
import Derived.Test.YtakklbipljodeaaGreatH10
import Derived.Test.YtakklbipljodeaaGreatW25K
set_option linter.unusedVariables false
set_option linter.unusedSimpArgs false
set_option linter.constructorNameAsVariable false
namespace Go.Av
set_option maxRecDepth 4000
theorem CfgT.s {c:Config} (t:CfgT c):CfgS c:=
 ⟨t.rl,fun l hl=>⟨(t.rs l hl).1,fun r hr=>⟨((t.rs l hl).2 r hr).kl,((t.rs l hl).2 r hr).al⟩⟩,t.nl,t.dl,fun d hd=>(t.ds d hd).1,t.gl,fun l hl=>(t.gs l hl).1⟩
theorem prgHv {p:Prg} (op:p.Ok qbo):∀t∈p.tables,∀v∈t.dflt.args,ok32 0 v:=by
 intro t ht v hv
 have:=op.2.2.2.2.2.1.2 t ht
 simp only [Tbl.Ok,ActionCall.Ok] at this
 exact this.2.2.2.1.2.2 v hv
theorem qmh (p:Prg) (c:Config) (op:p.Ok qbo) (oc:c.Ok qbo):qab Φ f_3 [.agg (Prg.c p),.agg (Config.c c)]=some (.val (.bool true)):=by
 have f:=qij op
 have s:=qz0 oc
 have hv:=prgHv op
 obtain ⟨b,hb⟩:=qae6 p c (qsy op) s.s
 have hpre:=qaci p c (qsy op)
 rw [qaa (fn:=c_3) rfl rfl]
 cases b with
 | false=>
  simp only [Prg.e,Config.ce] at hb
  simp [c_3,Prg.e,Config.ce,hb,qno]
 | true=>
 have hc:(pre p.control).length<2^40 - 1:=by have:=hpre hb;omega
 have sT:=qvm op
 have k1:=qs1 p f hc c s
 have k2:=qyn p f hv hc c s
 have k3:=qqn p f fun t ht=>(sT.ds t.dflt (by simp [qb5];exact ⟨t,ht,rfl⟩)).1
 have k4:=qwr p f
 have k5:=qm4 (qb5 p) (qb5 p) sT.s
 have k6:=qm4 c c s.s
 simp only [Prg.e,Config.ce] at hb k1 k2 k3 k4 k5 k6
 simp at k5 k6
 rcases qz1 p op hc c s (O:=[]) (N:=0) (Tail.nil 0) with ⟨z,e⟩ | ⟨z,S,O1,N1,e,m1,-,-,hT1,-⟩
 ·simp only [Prg.e,Config.ce] at e
  simp [c_3,Prg.e,Config.ce,hb,k1,k2,k3,k4,k5,e,z,qno]
 ·have v:=(qoj p c).1 z
  simp only [Prg.e,Config.ce] at e
  rw [z] at k1 k2
  rcases qadb p op hc hT1 with ⟨y,-⟩ | ⟨y,S2,O2,N2,e2,m2,f2,hk2,hT2,hN2⟩
  ·exact absurd v.prg y
  have m1':StoreM O2 S p c:=m1.kp hT1 hk2 fun j hj hr=>by
   obtain ⟨x,hl,hx⟩:=m1.own_lk hj
   rw [Rs,hl] at hr
   exact hx (Option.some.inj hr)
  obtain ⟨w1,w2,w3,w4,V,O3,N3,e3,n3,f3,hk3,hT3,hN3⟩:=qof (v.u s) (hT2.mono (show N2≤N2+1 by omega)) m1'
  have m2':StoreM O3 S2 p (qb5 p):=m2.kp (hT2.mono (show N2≤N2+1 by omega)) hk3 (fun _ _ h=>h)
  obtain ⟨u1,u2,u3,u4,U,O4,N4,e4,n4,f4,hk4,hT4,hN4⟩:=qof ⟨sT,fun l hl=>by simp [qb5] at hl;obtain ⟨_,_,rfl⟩:=hl;simp⟩ hT3 m2'
  simp only [Prg.e] at e2
  have a1:=n3.snpR (n:=35) (N:=N3)
  have a2:=n3.snpN (n:=35) (N:=N3)
  have a3:=n3.snpD (n:=35) (N:=N3)
  have a4:=n3.snpG (n:=35) (N:=N3)
  have b1:=n4.snpR (n:=35) (N:=N4)
  have b2:=n4.snpN (n:=35) (N:=N4)
  have b3:=n4.snpD (n:=35) (N:=N4)
  have b4:=n4.snpG (n:=35) (N:=N4)
  simp [c_3,Prg.e,Config.ce,hb,k1,k2,k3,k4,k5,k6,e,e2,e3,e4,a1,a2,a3,a4,b1,b2,b3,b4,qno]
end Go.Av
