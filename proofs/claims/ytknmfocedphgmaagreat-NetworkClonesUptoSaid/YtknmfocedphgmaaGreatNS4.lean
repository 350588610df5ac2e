/-
 A network in memory, read whole.
-/
import Derived.Test.YtknmfocedphgmaaGreatNC1
import Derived.KernelRfl
set_option linter.unusedVariables false
set_option linter.unusedSimpArgs false
set_option linter.constructorNameAsVariable false
namespace Go.Av
set_option maxRecDepth 8000
theorem TT {α β:Type} {f:α->Option β}:∀{l:List α} {m:List β},l.length=m.length->(∀(k:Nat) (x:α) (y:β),l[k]? =some x->m[k]? =some y->f x=some y)->mapO f l=some m:=Dv
theorem Ex1.snp {O:List (Nat×AO)} {N z n:Nat} {v:AV} {es es':List (List AV)} (h:Ex1 O z v es) (he:mapO (mapO (snap n ⟨O,N⟩)) es=some es'):snap (n+1) ⟨O,N⟩ v=some (.slice z es'):=by
 rcases h with ⟨rfl,rfl⟩ | ⟨t,rfl,ht⟩
 ·simp only [mapO,Option.some.injEq] at he;subst he;simp
 ·simp [ht,he]
theorem NetM.snp {O:List (Nat×AO)} {n N g:Nat} {V:NetV} {C:Nat} {pv lv:AV} {H:List AV} (m:NetM O n V (.func (.func g) [] []) C pv lv H) (k:Nat):snap (k+5) ⟨O,N⟩ (.ptr n 7 0 0)=some (.iptr 7 [nwF V (.func (.func g) [] [])] 0 0):=by
 have hrow:=m.row;rw [jH] at hrow;have h1:snap (k+4) ⟨O,N⟩ (.row C 4 0 V.cs.length)=some (.slice 4 (V.cs.map Xf.c)):=by
  have:=m.cf;simp [this,RL,snpL (fun x=>snpCf (n:=k+2) (H:=⟨O,N⟩) x)]
 have h2:snap (k+4) ⟨O,N⟩ pv=some (.slice 9 (V.pk.map PkF)):=by
  refine m.pk.snp (TT (by simp [kA m.hl]) ?_);intro i y z hy hz;rw [List.getElem?_map] at hz;cases hx:V.pk[i]? with
  | none=>rw [hx] at hz;cases hz
  | some x=>
   rw [hx] at hz;simp only [vK,Option.some.injEq] at hz;subst hz;have hi:=(Qm.1 hx).1;have hiH:i<H.length:=by rw [m.hl];exact hi
   have hh:=Qa hiH;rw [GP hx hh] at hy;simp only [Option.some.injEq] at hy;subst hy;have:=(m.hp i x _ hx hh).snp (N:=N) (n:=k+2);simp [PkN,PkF,mapO,this]
 have h3:snap (k+4) ⟨O,N⟩ lv=some (.slice 4 (V.log.map Event.c)):=m.lg.snp;simp [hrow,h1,h2,h3,pC]
def pF:Prg:=⟨[102,97,98,114,105,99],
 [⟨[98,97,115,101],[⟨[107,105,110,100],8⟩]⟩,⟨[116,97,103],[⟨[118,101,114,115,105,111,110],8⟩,⟨[108,97,98,101,108],8⟩]⟩,⟨[102,108,111,119],[⟨[115,114,99],8⟩,⟨[100,115,116],8⟩,⟨[116,121,112,101],8⟩]⟩],
 [⟨[105,110],8⟩,⟨[111,117,116],8⟩,⟨[100,114,111,112],1⟩,⟨[99,111,117,110,116],16⟩],
 [⟨[115,101,101,110],16,16⟩],
 [⟨[115,116,97,109,112],[⟨[118,101,114,115,105,111,110],8⟩],[⟨2,⟨0,0⟩,0,1,[],[]⟩,⟨1,⟨1,0⟩,0,0,[],[⟨3,0,0⟩]⟩,⟨1,⟨0,0⟩,0,0,[],[⟨1,2,8⟩]⟩,⟨4,⟨-1,3⟩,0,0,[⟨2,-1,0⟩],[]⟩,⟨5,⟨0,0⟩,0,0,[⟨2,-1,0⟩],[⟨9,0,0⟩,⟨2,-1,3⟩,⟨1,1,16⟩]⟩]⟩,⟨[112,97,115,115],[],[]⟩,⟨[102,111,114,119,97,114,100],[⟨[112,111,114,116],8⟩,⟨[108,97,98,101,108],8⟩],[⟨1,⟨-1,1⟩,0,0,[],[⟨3,0,0⟩]⟩,⟨1,⟨1,1⟩,0,0,[],[⟨3,1,0⟩]⟩]⟩,⟨[100,101,108,105,118,101,114],[⟨[112,111,114,116],8⟩],[⟨1,⟨-1,1⟩,0,0,[],[⟨3,0,0⟩]⟩,⟨3,⟨0,0⟩,0,1,[],[]⟩,⟨1,⟨0,0⟩,0,0,[],[⟨1,1,8⟩]⟩]⟩,⟨[100,114,111,112],[],[⟨1,⟨-1,2⟩,0,0,[],[⟨1,1,1⟩]⟩]⟩],
 [⟨[105,110,103,114,101,115,115],[⟨⟨-1,0⟩,1⟩],[0,4],⟨4,[]⟩,16⟩,⟨[116,114,117,110,107],[⟨⟨-1,0⟩,1⟩],[1,4],⟨4,[]⟩,16⟩,⟨[112,97,116,104],[⟨⟨-1,0⟩,3⟩,⟨⟨1,0⟩,3⟩,⟨⟨1,1⟩,3⟩,⟨⟨2,0⟩,3⟩,⟨⟨2,1⟩,3⟩,⟨⟨2,2⟩,3⟩],[2,3,4],⟨4,[]⟩,256⟩],
 [⟨[115,116,97,114,116],[0],true,⟨0,0⟩,[⟨1,255,2⟩,⟨2,255,1⟩],-2⟩,⟨[116,97,103,103,101,100],[1],false,⟨0,0⟩,[],2⟩,⟨[102,108,111,119,115],[2],false,⟨0,0⟩,[],-1⟩],
 [.mk 2 0 [⟨4,1,0⟩] [.mk 1 1 [] [] []] [.mk 1 0 [] [] []],.mk 2 0 [⟨15,0,0⟩,⟨2,-1,2⟩,⟨1,0,1⟩] [.mk 1 2 [] [] []] []],
 [0,1,2]⟩
theorem dT {Φ:FuncId->Option AFun} {f:FuncId} {xs:List AV} {n:Nat} {r:Rt} (h:uS (evF Φ n f xs H0)=some r):aA Φ f xs=some r:=by
 unfold aA;cases hc:evF Φ n f xs H0 with
 | none=>rw [hc] at h;cases h
 | some p=>rw [Mq Φ hc,<- hc];exact h
theorem Oq:aA Φ A2 []=some (.val (.agg (Prg.c pF))):=dT (n:=100) (by kernel_rfl)
theorem KS:aA Φ lR []=some (.val (.agg (Prg.c pF))):=dT (n:=100) (by kernel_rfl)
theorem pcF1:aA Φ CP [.agg (Prg.c pF)]=some (.val (.agg (dgC (prgD pF)))):=dT (n:=200) (by kernel_rfl)
theorem pcF2:aA Φ uM [.agg (Prg.c pF)]=some (.val (.agg (dgC (prgD pF)))):=dT (n:=200) (by kernel_rfl)
theorem pcF:PC pF:=⟨pcF1,pcF2⟩
theorem LF:pF.Ok dO:=by
 have e:=CW;simp [pF,Prg.Ok,pD,okL,Xj.Ok,Fld.Ok,Xh.Ok,Action.Ok,Xg.Ok,Tbl.Ok,Xb.Ok,Xd.Ok,Xk.Ok,Xa.Ok,Xa.Oks,Xe.Ok,FieldRef.Ok,Xl.Ok,okI,ok32,okT];omega
theorem ST:∀t∈pF.Xn,∀v∈t.Yc.args,ok32 0 v:=by simp [pF]
theorem ZD:(prgD pF).1=0:=by kernel_rfl
def cfgF (cs:List Xf) (k:Nat):Option Int:=cs[k]?.bind fun c=>if cfgE pF c=0 then none else some (cfgE pF c)
def newE (ports:List Int) (links:List Link) (hosts:List PortID) (cs:List Xf):Int:=
 if fK ports links hosts≠0 then fK ports links hosts else if cs.length≠ports.length then 2 else (fe (cfgF cs) cs.length 0).getD 0
theorem pF_s:PrgS pF:=GE LF
theorem Od {cs:List Xf} {k:Nat} {x:Int} (h:cfgF cs k=some x):x≠0:=by
 unfold cfgF at h;rw [Qt] at h;obtain ⟨c,_,h⟩:=h;split at h
 ·cases h
 ·cases h;assumption
theorem cfgCT {c:Xf} (s:CfgT c) (hl:∀l∈c.rows,l.length<2^39):CfgC c:=⟨s.rl,fun l h=>⟨hl l h,fun r hr=>⟨(show EntS r.entry from (s.rs l h).2 r hr).kl,(show EntS r.entry from (s.rs l h).2 r hr).al⟩⟩,s.nl,s.dl,fun d hd=>(s.ds d hd).1,s.gl,fun l h=>(s.gs l h).1⟩
theorem KK {ports:List Int} {links:List Link} {hosts:List PortID} (h:fK ports links hosts=0):0<ports.length/\ports.length<=16/\links.length<=32/\hosts.length<=16:=by
 unfold fK at h;split at h
 ·cases h
 split at h
 ·cases h
 split at h
 ·cases h
 split at h
 ·cases h
 rename_i h1 h2 h3 h4;refine ⟨List.length_pos_iff.2 h1,by omega,by omega,by omega⟩
def NewQ (N:Nat) (O:List (Nat×AO)) (V:NetV) (f:AV) (e:Int) (r:Option (Rt×AH)):Prop:=
 ∃O' N' v,r=some (.val (.tup [v,a8 e]),⟨O',N'⟩)/\Fw (fun _=>False) N O O' N'/\(e≠0->v= .nilptr)/\(e=0->∃n,v= .ptr n 7 0 0/\NetW O' n V f (fun j=>N<=j))
section
variable (ports:List Int) (links:List Link) (hosts:List PortID) (cs:List Xf) (hl:cs.length<2^39) (hs:∀c∈cs,CfgT c/\∀l∈c.rows,l.length<2^39) (g:Nat)
include hl hs
theorem Pz {O:List (Nat×AO)} {N:Nat} (hT:Tail O N):NewQ N O ⟨ports,links,hosts,cs,[],[]⟩ (.func (.func g) [] []) (newE ports links hosts cs) (aI Φ JY [.agg [.slice 1 (ports.map cI),.slice 5 (links.map Link.c),.slice 2 (hosts.map PortID.c)],.slice 4 (cs.map Xf.c),.func (.func g) [] []] ⟨O,N⟩):=by
 rw [dA rfl rfl];have k0:=Hy ports links hosts;have t0:=hT N (Qb _);by_cases z1:fK ports links hosts=0
 rotate_left
 ·rw [show newE ports links hosts cs=fK ports links hosts by simp [newE,z1]];simp [QE,k0,z1];exact ⟨_,_,_,rfl,Fw.init hT,fun _=>rfl,fun h=>absurd h z1⟩
 rw [z1] at k0;by_cases z2:cs.length=ports.length
 rotate_left
 ·rw [show newE ports links hosts cs=2 by simp [newE,z1,z2]];have z2':¬((cs.length:Int)=ports.length):=by omega
  simp [QE,k0,z2];exact ⟨_,_,_,rfl,Fw.init hT,fun _=>rfl,fun h=>by cases h⟩
 rw [show newE ports links hosts cs=(fe (cfgF cs) cs.length 0).getD 0 by simp [newE,z1,z2]];have k1:=Oq;simp only [Prg.e] at k1;obtain ⟨hpo,hp1,hp2,hp3⟩:=KK z1;simp [QE,k0,z2,k1,t0];refine Hg (Z:={ i:Nat // i<=ports.length }) (fun x=>ports.length - x.1) (fun x e h=>∃n,h=⟨O,n⟩/\N<=n/\look 1 e=some (.slice 4 (cs.map Xf.c))/\look 2 e=some (.func (.func g) [] [])/\look 3 e=some (.iptr 3 [[.slice 1 (ports.map cI),.slice 5 (links.map Link.c),.slice 2 (hosts.map PortID.c)]] 0 0)/\look 9 e=some (.iptr 9 [Prg.c pF] 0 0)/\look 29 e=some (.slice 4 (cs.map Xf.c))/\look 30 e=some (a8 ports.length)/\look 31 e=some (a8 x.1))
  (fun x=>NewQ N O ⟨ports,links,hosts,cs,[],[]⟩ (.func (.func g) [] []) ((fe (cfgF cs) ports.length x.1).getD 0)) ?_ ⟨0,Qc _⟩ _ _ ?_
 ·rintro ⟨i,hi⟩ e _ L hL ⟨n,rfl,hn,h1,h2,h3,h9,h29,h30,h31⟩ ih;simp only at h31 hi ⊢;have tn:=hT n hn;rcases Nat.lt_or_eq_of_le hi with hlt | heq
  ·have hic:i<cs.length:=by omega
   have hw:=aL i (by omega);have hck:=Oc pF pF_s pcF cs[i] (hs _ (Qd hic)).1;rw [Xf.e4] at hck;by_cases q:cfgE pF cs[i]=0
   ·rw [gA hlt (by simp [cfgF,hic,q])];rw [q] at hck;simp only [Prg.e] at hck h9;simp [c_9_l0,h9,h29,h30,h31,hlt,hic,hL,Xf.e4,hck,hw,tn];exact ih ⟨i+1,hlt⟩ _ _ (by simp only;omega) ⟨_,rfl,by omega,by simp [h1],by simp [h2],by simp [h3],by simp [h9,Prg.e],by simp [h29],by simp [h30],by simp⟩
   ·rw [fB (x:=cfgE pF cs[i]) hlt (by simp [cfgF,hic,q])];simp only [Prg.e] at hck h9;simp [c_9_l0,h9,h29,h30,h31,hlt,hic,hL,Xf.e4,hck,hw,tn,q];exact ⟨_,_,_,rfl,(Fw.init hT).up (by omega),fun _=>rfl,fun h=>absurd h q⟩
  ·subst heq;rw [jG];have kc:=Hv ports links hosts (by omega) (by omega) (by omega);simp [c_9_l0,c_9_k1,h1,h2,h3,h30,h31,hL,kc];obtain ⟨w,O2,N2,e2,x2,f2,kp2,T2,l2⟩:=Ca cs (fun c hc=>cfgCT (hs c hc).1 (hs c hc).2) hl (hT.mono hn) (v:= .slice 4 (cs.map Xf.c)) (.sl _);rcases x2 with ⟨hz,_⟩ | ⟨C,rfl,hC⟩
   ·rw [Q2] at hz;rw [hz] at z2;simp at z2;omega
   have u2:=T2 N2 (Qb _);have hCN:=T2.lt hC;have hCn:=f2 C rfl;simp [e2,h1,h2,h3,u2];refine ⟨_,_,_,rfl,⟨?_,T2.app1 (Qb _),by omega⟩,fun h=>absurd rfl h,fun _=>⟨N2,rfl,C,.Xu 9 [],.Xu 4 [],[],⟨?_,?_,.inl ⟨rfl,rfl⟩,rfl,by simp,.inl ⟨rfl,rfl⟩,by simp,by simp⟩,?_⟩⟩
   ·intro j hj _;have:¬N2=j:=by omega
    rw [aC,kp2 j (by omega) (by simp)];simp [this]
   ·simp [aC,u2,jH,z2]
   ·simp [aC,hC]
   ·intro j hj;rcases hj with rfl | rfl | hj | hj | ⟨h,hh,_⟩
    ·omega
    ·omega
    ·cases hj
    ·cases hj
    ·cases hh
 ·simp [Prg.e]
end
section
variable (ports:List Int) (links:List Link) (hosts:List PortID) (cs:List Xf) (hl:cs.length<2^39) (hs:∀c∈cs,CfgT c/\∀l∈c.rows,l.length<2^39)
include hl hs
theorem Iv (h:newE ports links hosts cs≠0):aA Φ yK [.agg [.slice 1 (ports.map cI),.slice 5 (links.map Link.c),.slice 2 (hosts.map PortID.c)],.slice 4 (cs.map Xf.c)]=some (.val (.tup [.agg [.slice 1 [],.slice 5 [],.slice 2 [],.slice 4 [],.slice 9 [],.slice 4 []],a8 (newE ports links hosts cs)])):=by
 rw [aD rfl rfl];have k0:=Ce ports links hosts;by_cases z1:fK ports links hosts=0
 rotate_left
 ·rw [show newE ports links hosts cs=fK ports links hosts by simp [newE,z1]];simp [wF,k0,z1]
 rw [z1] at k0;by_cases z2:cs.length=ports.length
 rotate_left
 ·rw [show newE ports links hosts cs=2 by simp [newE,z1,z2]];have z2':¬((cs.length:Int)=ports.length):=by omega
  simp [wF,k0,z2]
 have hE:newE ports links hosts cs=(fe (cfgF cs) cs.length 0).getD 0:=by simp [newE,z1,z2]
 rw [hE] at h ⊢;have k1:=KS;simp [wF,k0,z2];have hh:(fe (cfgF cs) ports.length 0).getD 0≠0:=by rwa [<- z2]
 refine cZ ports.length (fun _=>[(0,.row 6 [[.Xu 1 [],.Xu 5 [],.Xu 2 [],.Xu 4 [],.Xu 9 [],.Xu 4 []]])]) 1 (fun i e=>look 1 e=some (.slice 4 (cs.map Xf.c))/\look 4 e=some (.ptr 0 6 0 0)/\look 7 e=some (a8 i)/\(fe (cfgF cs) ports.length i).getD 0≠0)
  (fun i=>some (Rt.val (.tup [.agg [.slice 1 [],.slice 5 [],.slice 2 [],.slice 4 [],.slice 9 [],.slice 4 []],a8 ((fe (cfgF cs) ports.length i).getD 0)]))) ?_ ?_ 0 _ _ (Qc _) (Qb _) ?_
 ·rintro i e n L hi hL hn ⟨h1,h4,h7,hne⟩ ih;have hic:i<cs.length:=by omega
  have hw:=aL i (by omega);have hck:=RF pF pF_s ST pcF cs[i] (hs _ (Qd hic)).1;rw [Xf.e4] at hck;simp only [Prg.e] at hck k1;by_cases q:cfgE pF cs[i]=0
  ·rw [gA hi (by simp [cfgF,hic,q])] at hne ⊢;rw [q] at hck;generalize hX:some (Rt.val (AV.tup [AV.agg [AV.slice 1 [],AV.slice 5 [],AV.slice 2 [],AV.slice 4 [],AV.slice 9 [],AV.slice 4 []],a8 ((fe (cfgF cs) ports.length (i+1)).getD 0)]))=Y at ih ⊢;simp [c_11_l0,h1,h4,h7,hi,hic,z2,hL,Xf.e4,k1,hck,hw];exact ih _ _ (by omega) ⟨by simp [h1],by simp [h4],by simp,hne⟩
  ·rw [fB (x:=cfgE pF cs[i]) hi (by simp [cfgF,hic,q])];simp [c_11_l0,h1,h4,h7,hi,hic,z2,hL,Xf.e4,k1,hck,hw,q]
 ·rintro e n L hL hn ⟨h1,h4,h7,hne⟩;rw [jG] at hne;simp at hne
 ·exact ⟨by simp,by simp,by simp,hh⟩
theorem Iz (h:newE ports links hosts cs=0):aA Φ yK [.agg [.slice 1 (ports.map cI),.slice 5 (links.map Link.c),.slice 2 (hosts.map PortID.c)],.slice 4 (cs.map Xf.c)]=some (.val (.tup [.agg (NetV.r ⟨ports,links,hosts,cs,[],[]⟩),a8 0])):=by
 rw [aD rfl rfl];have k0:=Ce ports links hosts;have z1:fK ports links hosts=0:=by
  refine Decidable.byContradiction fun hc=>?_
  rw [show newE ports links hosts cs=fK ports links hosts by simp [newE,hc]] at h;exact hc h
 rw [z1] at k0;have z2:cs.length=ports.length:=by
  refine Decidable.byContradiction fun hc=>?_
  rw [show newE ports links hosts cs=2 by simp [newE,z1,hc]] at h;cases h
 have hE:newE ports links hosts cs=(fe (cfgF cs) cs.length 0).getD 0:=by simp [newE,z1,z2]
 rw [hE] at h;obtain ⟨hpo,hp1,hp2,hp3⟩:=KK z1;have hall:∀i (hi:i<cs.length),cfgE pF cs[i]=0:=by
  have hn:fe (cfgF cs) cs.length 0=none:=by
   cases hq:fe (cfgF cs) cs.length 0 with
   | none=>rfl
   | some x=>
    obtain ⟨k,_,hk⟩:=GH hq;rw [hq] at h;exact absurd h (Od hk)
  intro i hi;have:=fe_all.1 hn i hi;simp [cfgF,hi] at this;exact this
 have k1:=KS;have b3:ports.length*96<=70368744177664:=by omega
 simp [wF,k0,z2,NetV.re];refine cZ ports.length (fun _=>[(0,.row 6 [[.Xu 1 [],.Xu 5 [],.Xu 2 [],.Xu 4 [],.Xu 9 [],.Xu 4 []]])]) 1 (fun i e=>look 1 e=some (.slice 4 (cs.map Xf.c))/\look 2 e=some (.iptr 3 [[.slice 1 (ports.map cI),.slice 5 (links.map Link.c),.slice 2 (hosts.map PortID.c)]] 0 0)/\look 4 e=some (.ptr 0 6 0 0)/\look 7 e=some (a8 i))
  (fun _=>some (Rt.val (.tup [.agg [.slice 1 (ports.map cI),.slice 5 (links.map Link.c),.slice 2 (hosts.map PortID.c),.slice 4 (cs.map Xf.c),.slice 9 [],.slice 4 []],a8 0]))) ?_ ?_ 0 _ _ (Qc _) (Qb _) ?_
 ·rintro i e n L hi hL hn ⟨h1,h2,h4,h7⟩ ih;have hic:i<cs.length:=by omega
  have hw:=aL i (by omega);have hck:=RF pF pF_s ST pcF cs[i] (hs _ (Qd hic)).1;rw [Xf.e4,hall i hic] at hck;simp only [Prg.e] at hck k1;simp [c_11_l0,h1,h4,h7,hi,hic,z2,hL,Xf.e4,k1,hck,hw];exact ih _ _ (by omega) ⟨by simp [h1],by simp [h2],by simp [h4],by simp⟩
 ·rintro e n L hL hn ⟨h1,h2,h4,h7⟩;have n0:¬n=0:=by omega
  have n1:¬0=n:=by omega
  simp [c_11_l0,c_11_k1,h1,h2,h4,h7,z2,hL,alC,b3,n0,n1]
  done
 ·simp
end
theorem Kc {Ψ:FuncId->Option AFun} {f z bytes:Nat} (hf:Ψ f=some (.rule (oI z bytes .app))) {O:List (Nat×AO)} {N:Nat} (hN:look N O=none) {v:AV} {es:List (List AV)} (hv:Ap O z v es) (hz:d9 z es=true) (hb:es.length*bytes<=70368744177664):aI Ψ f [v] ⟨O,N⟩=some (.val (.app z es N),⟨O++[(N,.tok z es.length)],N+1⟩):=by
 rw [QL Ψ hf];rcases hv with ⟨rfl,rfl⟩ | ⟨t,rfl,_⟩
 ·simp [oI,lenOf,gW,evR,AH.put,hN]
 ·cases es with
  | nil=>
   simp [oI,lenOf,gW,evR,AH.put,hN]
  | cons x es=>
   simp only [BU] at hb;simp [oI,lenOf,evR,AH.put,hz,hb,hN]
theorem rf_ap {O:List (Nat×AO)} {z n:Nat} {v:AV} {es:List (List AV)} (h:Ap O z v es) (he:∀e∈es,∀c∈e,Rf n c):Rf (n+1) v:=by
 rcases h with ⟨rfl,rfl⟩ | ⟨t,rfl,_⟩
 ·exact Rf.Xu _ _ _ (by simp)
 ·exact Rf.app _ _ _ _ he
theorem rf_ex {O:List (Nat×AO)} {z n:Nat} {v:AV} {es:List (List AV)} (h:Ex1 O z v es):Rf (n+1) v:=by
 rcases h with ⟨rfl,rfl⟩ | ⟨t,rfl,_⟩
 ·exact Rf.Xu _ _ _ (by simp)
 ·exact Rf.row _ _ _ _ _
theorem rf_ev (n:Nat) (x:Event):∀c∈Event.c x,Rf (n+1) c:=by simp [Event.c,Rf.int]
theorem ZL (n:Nat) (x:Link):∀c∈Link.c x,Rf (n+1) c:=by simp [Link.c,Rf.int,Rf.bool]
theorem ZM (n:Nat) (x:PortID):∀c∈PortID.c x,Rf (n+1) c:=by simp [PortID.c,Rf.int]
theorem ZK (n g:Nat):Rf (n+1) (.func (.func g) [] []):=by unfold Rf avEq;simp [eqL]
section
variable {O:List (Nat×AO)} {n N g C:Nat} {V:NetV} {pv lv:AV} {H:List AV}
theorem UW (m:NetM O n V (.func (.func g) [] []) C pv lv H):aoEq (some (.row 7 [nwR V (.row C 4 0 V.cs.length) pv lv (.func (.func g) [] [])])) (some (.row 7 [nwR V (.row C 4 0 V.cs.length) pv lv (.func (.func g) [] [])]))=true:=by
 have h:∀x∈nwR V (.row C 4 0 V.cs.length) pv lv (.func (.func g) [] []),avEq 40 x x=true:=by
  intro x hx;simp only [nwR,fJ,tT,or_false] at hx;rcases hx with rfl | rfl | rfl | rfl | rfl | rfl | rfl
  ·exact Rf.map _ _ _ _ fun x _=>rf_I _ x
  ·exact Rf.map _ _ _ _ fun x _=>ZL _ x
  ·exact Rf.map _ _ _ _ fun x _=>ZM _ x
  ·exact Rf.row _ _ _ _ _
  ·exact rf_ex m.pk
  ·refine rf_ap m.lg fun e he=>?_
   obtain ⟨l,_,rfl⟩:=oZ.1 he;exact rf_ev _ l
  ·exact ZK _ _
 have h1:=D6 (avEq 40) _ h;unfold aoEq;simp [b8,eqL,h1]
theorem NetM.pushG {O':List (Nat×AO)} {f pv' h':AV} {x:Pk} (m:NetM O n V f C pv lv H) (hr:look n O'=some (.row 7 [nwR V (.row C 4 0 V.cs.length) pv' lv f])) (hp:Ex1 O' 9 pv' (pkN V.pk H++[PkN x h'])) (hx:Ap O' 3 h' (x.hops.map Hop.c)) (htk:∀t,tkn h'=some t->look t O=none\/look t O=some .res)
  (hk:∀(j:Nat) (y:AO),look j O=some y->y≠ .res->j≠n->vid pv≠some j->look j O'=some y):NetM O' n { V with pk:=V.pk++[x] } f C pv' lv (H++[h']):=by
 have ho:∀j,NetM.own n C pv lv H j->j≠n->vid pv≠some j->look j O'=look j O:=by
  intro j hj h1 h2;obtain ⟨y,hy,hny⟩:=m.nr hj;rw [hk j y hy hny h1 h2,hy]
 have hpv:∀j y,look j O=some y->(∀es,y≠ .row 9 es)->vid pv≠some j:=by
  intro j y hj hy hc;have:=m.pk.id hc;rw [hj] at this;cases this;exact hy _ rfl
 have hnew:∀t y,look t O=some y->y≠ .res->tkn h'≠some t:=by
  intro t y hy hny hc;rcases htk t hc with h1 | h1<;>rw [h1] at hy<;>cases hy
  exact hny rfl
 have hlast:∀(k:Nat) (h:AV),(H++[h'])[k]? =some h->(k<H.length/\H[k]? =some h)\/(k=H.length/\h=h'):=by
  intro k h hh;by_cases hk':k<H.length
  ·rw [Ql hk'] at hh;exact .inl ⟨hk',hh⟩
  ·rw [Qp (by omega)] at hh;cases hd:k - H.length with
   | zero=>rw [hd] at hh;simp at hh;exact .inr ⟨by omega,hh.symm⟩
   | succ q=>rw [hd] at hh;simp at hh
 refine ⟨hr,by rw [ho C (.inr (.inl rfl)) (aP m.cf m.row (by simp)) (hpv C _ m.cf (by simp))];exact m.cf,by rw [Po m.hl];exact hp,by simp [m.hl],?_,m.lg.fr fun t ht=>ho t (.inr (.inr (.inr (.inl ht)))) (aP (m.lg.tk ht) m.row (by simp)) (hpv t _ (m.lg.tk ht) (by simp)),?_,?_⟩
 ·intro k y h hy hh;rcases hlast k h hh with ⟨hk',hh⟩ | ⟨rfl,rfl⟩
  ·rw [Ql (by rw [<- m.hl];exact hk')] at hy;refine (m.hp k y h hy hh).fr fun t ht=>?_
   obtain ⟨l,hl⟩:=m.hk hh ht;exact ho t (.inr (.inr (.inr (.inr ⟨h,Qe hh,ht⟩)))) (aP hl m.row (by simp)) (hpv t _ hl (by simp))
  ·rw [m.hl,Qp (Qb _),Nat.sub_self] at hy;simp at hy;subst hy;exact hx
 ·intro k k' h h1 t hh hh' ht ht';rcases hlast k h hh with ⟨hk',hb⟩ | ⟨hk',hb⟩<;>rcases hlast k' h1 hh' with ⟨hk1,hb'⟩ | ⟨hk1,hb'⟩
  ·exact m.hi k k' h h1 t hb hb' ht ht'
  ·obtain ⟨l,hl⟩:=m.hk hb ht;rw [hb'] at ht';exact absurd ht' (hnew t _ hl (by simp))
  ·obtain ⟨l,hl⟩:=m.hk hb' ht';rw [hb] at ht;exact absurd ht (hnew t _ hl (by simp))
  ·rw [hk',hk1]
 ·intro k h t hh ht hc;rcases hlast k h hh with ⟨hk',hh⟩ | ⟨rfl,rfl⟩
  ·exact m.hg k h t hh ht hc
  ·exact hnew t _ (m.lg.tk hc) (by simp) ht
end
def ClQ (N:Nat) (O:List (Nat×AO)) (V:NetV) (f:AV) (r:Option (Rt×AH)):Prop:=
 ∃O' N' n',r=some (.val (.ptr n' 7 0 0),⟨O',N'⟩)/\NetW O' n' V f (fun j=>N<=j)/\Fw (fun _=>False) N O O' N'
section
variable {O:List (Nat×AO)} {n N g C:Nat} {V:NetV} {pv lv:AV} {H:List AV}
theorem Lw (m:NetM O n V (.func (.func g) [] []) C pv lv H) (hT:Tail O N) (s:NetS V) (hc:∀c∈V.cs,CfgC c) (hne:0<V.cs.length) (hd:∀x∈V.pk,x.data.length<=1000):
  ClQ N O V (.func (.func g) [] []) (aI Φ lQ [.ptr n 7 0 0] ⟨O,N⟩):=by
 rw [dA rfl rfl];have hrow:=m.row;have hm:=fun O N=>KP (O:=O) (N:=N) (n:=n) (V:=V) (cv:= .row C 4 0 V.cs.length) (pv:=pv) (lv:=lv) (g:=g)
 have hao:=UW m;rw [jH] at hrow hm hao;have k0:=Hv V.ports V.links V.hosts s.p s.l s.h;have hT':∀k,look (N+k) O=none:=fun k=>hT (N+k) (by omega)
 have lt:=hT.lt hrow;have q1:∀k,¬N+k=n:=fun k=>by omega
 have q2:∀k,¬n=N+k:=fun k=>by omega
 have hC:=s.c;have hg:=s.g;have hO1:Tail (O++[(N+33,AO.res)]) (N+33+1):=(Fw.app (X:=fun _=>False) (Fw.init hT) (by omega) (by omega) (by omega)).tl;obtain ⟨w,O2,N2,e2,x2,f2,kp2,T2,l2⟩:=Ca V.cs hc (by omega) hO1 (v:= .row C 4 0 V.cs.length) (by
  have:=m.cf;exact .row C _ _ _ (by simp) (by rw [aC,this];rfl) (Qb _) (by rw [iI]))
 have hx2:∃D,w= .row D 4 0 V.cs.length/\look D O2=some (.row 4 (V.cs.map Xf.c)):=by
  rcases x2 with ⟨hz,_⟩ | ⟨D,rfl,hD⟩
  ·rw [Q2] at hz;rw [hz] at hne;simp at hne
  ·exact ⟨D,by simp,hD⟩
 obtain ⟨D,rfl,hD⟩:=hx2;have hDN:=T2.lt hD;have hDn:=f2 D rfl;have v0:¬N+33=N2/\¬N2=N+33/\¬n=N2/\¬N2=n:=by omega
 obtain ⟨v1,v2,v3,v4⟩:=v0;have hO2:∀j y,look j O=some y->look j O2=some y:=by
  intro j y hj;have:=hT.lt hj;rw [kp2 j (by omega) (by simp),aC,hj];rfl
 have hr2:=hO2 _ _ hrow;have u0:=T2 N2 (Qb _);have hres:look (N+33) O2=some .res:=by rw [kp2 (N+33) (by omega) (by simp),aC,hT' 33];simp
 have hlv2:Ap O2 4 lv (V.log.map Event.c):=m.lg.fr fun t ht=>by
  have:=m.lg.tk ht;rw [hO2 _ _ this,this]
 have ec:=Kc (Ψ:=Φ) (f:=uI) (z:=4) (bytes:=32) rfl (N:=N2) u0 hlv2 (al4 _) (by rw [cT];omega);have hlen:lenOf pv=some V.pk.length:=by
  rcases m.pk with ⟨h,rfl⟩ | ⟨P,rfl,_⟩
  ·have:=kA m.hl;rw [h] at this;simpa using this
  ·simp [kA m.hl]
 simp [LT,hm,hrow,hT',q1,q2,k0,e2,hr2,ec,hao,hres,u0,v1,v2,v3,v4,hlen,aC,aB,aR,-lenOf];generalize hO3:bZ (setl (N+33) _ (O2++[(N2,AO.tok 4 V.log.length)]))=O3;have hO3':∀j y,look j O=some y->y≠ .res->look j O3=some y:=by
  intro j y hj hy;have h1:=hO2 j y hj;have h2:=hT.lt hj;have h3:¬j=N+33:=by omega
  rw [<- hO3,aR (by simp [aB,aC,h1,h3,hy])];simp [aB,aC,h1,h3]
 have hkp:Kp (Rs O) N O O3:=by
  intro j hj hx;have h1:look j O2=look j O:=by
   rw [kp2 j (by omega) (by simp),aC];have:¬N+33=j:=by omega
   simp [this]
  have h3:¬j=N+33:=by omega
  have h4:¬N2=j:=by omega
  rw [<- hO3,aR (by simp [aB,aC,h1,h3,h4];exact hx)];simp [aB,aC,h1,h3,h4]
 have hT3:Tail O3 (N2+1):=by rw [<- hO3];exact CU (bV (T2.app1 (Qb _)))
 have m3:NetM O3 (N+33) { V with pk:=[] } (.func (.func g) [] []) D (.Xu 9 []) (.app 4 (V.log.map Event.c) N2) []:=by
  refine ⟨?_,?_,.inl ⟨rfl,rfl⟩,rfl,by simp,.inr ⟨N2,rfl,?_⟩,by simp,by simp⟩
  ·rw [<- hO3,aR (by simp [aB,aC,hres])];simp [aB,aC,hres,jH]
  ·have h3:¬D=N+33:=by rintro rfl;rw [hres] at hD;cases hD
   rw [<- hO3,aR (by simp [aB,aC,h3,hD])];simp [aB,aC,h3,hD]
  ·rw [<- hO3,aR (by simp [aB,aC,u0,v2])];simp [aB,aC,u0,v2]
 have hown3:∀j,NetM.own (N+33) D (.Xu 9 []) (.app 4 (V.log.map Event.c) N2) [] j->N<=j:=by
  intro j hj;rcases hj with rfl | rfl | hj | hj | ⟨h,hh,_⟩
  ·omega
  ·omega
  ·cases hj
  ·simp only [tkn,Option.some.injEq] at hj;omega
  ·cases hh
 have hF3:Fw (fun _=>False) N O O3 (N2+1):=⟨hkp.mono fun _ _ h=> .inr h,hT3,by omega⟩;have hNq:N<=N+33:=by omega
 clear hrow hm hao q1 q2 hO1 hT' hres v1 v2 ec e2 hO2 hr2 hlv2 hkp kp2;clear hO3;generalize N+33=q at*;refine fF V.pk.length (fun i e h=>∃O' N' pv' H',h=⟨O',N'⟩/\NetM O' (q) { V with pk:=V.pk.take i } (.func (.func g) [] []) D pv' (.app 4 (V.log.map Event.c) N2) H'/\(∀j,NetM.own (q) D pv' (.app 4 (V.log.map Event.c) N2) H' j->N<=j)/\Fw (fun _=>False) N O O' N'/\(∀j y,look j O=some y->y≠ .res->look j O'=some y)/\look 3 e=some (.ptr (q) 7 0 0)/\look 38 e=some pv/\look 39 e=some (a8 V.pk.length)/\look 40 e=some (a8 i)) (ClQ N O V (.func (.func g) [] [])) ?_ ?_ 0 _ _ (Qc _) ?_
 ·rintro i e _ L hi hL ⟨O',N',pv',H',rfl,m',ho',fw',hk',h3,h38,h39,h40⟩ ih;have hsk:=s.k;have hw:=aL i (by omega);have hiH:i<H.length:=by rw [m.hl];exact hi
  have hx:=Qa hi;have hh:=Qa hiH;obtain ⟨P,rfl,hP⟩:∃P,pv= .row P 9 0 V.pk.length/\look P O=some (.row 9 (pkN V.pk H)):=by
   rcases m.pk with ⟨h,_⟩ | ⟨P,h,hP⟩
   ·have:=kA m.hl;rw [h] at this;simp at this;omega
   ·exact ⟨P,by rw [h,kA m.hl],hP⟩
  have hP':=hk' P _ hP (by simp);have hiN:i<(pkN V.pk H).length:=by rw [kA m.hl];exact hi
  have hat:(pkN V.pk H)[i]=PkN V.pk[i] H[i]:=by
   have:=GP hx hh;rw [Qa hiN] at this;exact Option.some.inj this
  rw [PkN] at hat;have hap:=(m.hp i _ _ hx hh).fr (O':=O') fun t ht=>by
   have h1:=(m.hp i _ _ hx hh).tk ht;rw [hk' t _ h1 (by simp),h1]
  have hb:=hd _ (Qd hi);have hhp:=s.hp _ (Qd hi);have c1:=clBy V.pk[i].data (by omega);have t0:=fw'.tl N' (Qb _);have t1:=fw'.tl (N'+1) (by omega);have tM:∀k,look (N'+1+1+k) O'=none:=fun k=>fw'.tl (N'+1+1+k) (by omega)
  have c2:=fun y=>Kc (Ψ:=Φ) (f:=pO) (z:=3) (bytes:=24) rfl (O:=O'++[(N',y)]) (N:=N'+1) (by rw [aC,t1];simp) (hap.fr fun t ht=>by
   have h1:=hap.tk ht;rw [aC,h1];rfl) (alH _) (by rw [cT];omega)
  have hr':=m'.row;rw [jH] at hr';have lt':=fw'.tl.lt hr';have ltP:=fw'.tl.lt hP';have r0:¬N'=q/\¬q=N'/\¬N'+1=q/\¬q=N'+1:=by omega
  obtain ⟨r1,r2,r3,r4⟩:=r0;have r5:∀k,¬N'+1+1+k=q:=fun k=>by omega
  have r6:∀k,¬q=N'+1+1+k:=fun k=>by omega
  have r7:∀k,(q == N'+1+1+k)=false:=fun k=>by simp;omega
  have r8:∀k,¬N'+1+1+k=N'/\¬N'=N'+1+1+k/\¬N'+1+1+k=N'+1/\¬N'+1=N'+1+1+k/\(N' == N'+1+1+k)=false/\(N'+1 == N'+1+1+k)=false:=fun k=>by simp;omega
  have p0:¬N'=P/\¬P=N':=by omega
  obtain ⟨p1,p2⟩:=p0;have hml:min i V.pk.length=i:=by omega
  have hl':=kA m'.hl;simp [hml] at hl';have hNN:=fw'.le;have htk:V.pk.take (i+1)=V.pk.take i++[V.pk[i]]:=Qh hi;have hfw:∀a b c d e,Fw (fun _=>False) N O (bZ (setl (q) e (O'++[(N',a),(N'+1,b),(N'+1+1+59,c),(N'+1+1+60,d)]))) (N'+1+1+60+1):=fun a b c d e=>by
   refine Fw.sweep (Fw.set (Fw.appL (N2:=N'+1+1+60+1) fw' ?_ (by omega)) (.inr (by omega)));intro p hp;simp at hp;rcases hp with rfl | rfl | rfl | rfl<;>refine ⟨?_,?_⟩<;>simp only<;>omega
  rcases m'.pk with ⟨hz,rfl⟩ | ⟨S,rfl,hS⟩
  ·have hi0:i=0:=by rw [hz] at hl';simpa using hl'.symm
   subst hi0;have hz':pkN [] H'=[]:=by simpa using hz
   simp [c_22_l0,h3,h38,h39,h40,hi,hP',hiN,hat,c1,c2,t0,t1,tM,hr',r1,r2,r3,r4,r5,r6,r7,r8,p1,p2,hw,aC,aB,aR];refine ih _ _ ⟨_,_,.row (N'+1+1+60) 9 0 1,H'++[.app 3 (V.pk[0].hops.map Hop.c) (N'+1)],rfl,?_,?_,hfw _ _ _ _ _,?_,?_,?_,?_,?_⟩
   ·rw [htk];refine m'.pushG (x:=V.pk[0]) ?_ (.inr ⟨N'+1+1+60,?_,?_⟩) (.inr ⟨N'+1,rfl,?_⟩) ?_ ?_
    ·simp [aR,aB,aC,hr',jH]
    ·simp [hz']
    ·simp [hz',aR,aB,aC,tM,r5,r8,PkN]
    ·simp [aR,aB,aC,t1,r3,r8]
    ·intro t ht;simp only [tkn,Option.some.injEq] at ht;subst ht;exact .inl t1
    ·intro j y hj hy h1 _;simp [aR,aB,aC,hj,h1,hy]
   ·intro j hj;rcases hj with hj | hj | hj | hj | ⟨h,hh2,hj⟩
    ·exact ho' j (.inl hj)
    ·exact ho' j (.inr (.inl hj))
    ·simp only [vid,Option.some.injEq] at hj;omega
    ·exact ho' j (.inr (.inr (.inr (.inl hj))))
    ·rcases eU.1 hh2 with hh2 | hh2
     ·exact ho' j (.inr (.inr (.inr (.inr ⟨h,hh2,hj⟩))))
     ·simp at hh2;subst hh2;simp only [tkn,Option.some.injEq] at hj;omega
   ·intro j y hj hy;have h1:=hk' j y hj hy;have h2:=hT.lt hj;have h3:¬j=q:=by omega
    simp [aR,aB,aC,h1,h3,hy]
   all_goals simp [h3,h38,h39,wr1]
  ·have hSN:=fw'.tl.lt hS;have hS33:S≠q:=aP hS hr' (by simp);have hSn:N<=S:=ho' S (.inr (.inr (.inl rfl)));have s1:∀k,¬N'+1+1+k=S:=fun k=>by omega
   have s2:∀k,¬S=N'+1+1+k:=fun k=>by omega
   have s3:∀k,(S == N'+1+1+k)=false:=fun k=>by simp;omega
   have s0:¬N'=S/\¬S=N'/\¬N'+1=S/\¬S=N'+1:=by omega
   obtain ⟨s4,s5,s6,s7⟩:=s0;have s8:¬q=S:=hS33.symm;have s9:(q == S)=false/\(S == q)=false/\(N' == S)=false/\(N'+1 == S)=false/\(S == N')=false:=by simp;omega
   obtain ⟨s10,s11,s12,s13,s14⟩:=s9;have hb2:(i+1)*136<=70368744177664:=by omega
   have hal:d9 9 (pkN (V.pk.take i) H')=true:=N7;have hd1:∀a b c,look (N'+1+1+60) (bW S (O'++[(N',a),(N'+1,b),(N'+1+1+59,c),(N'+1+1+60,.res)]))=some .res:=fun a b c=>by
    rw [bK (s1 60)];simp [aC,tM,r8]
   have hfw2:∀a b c d e f,Fw (fun _=>False) N O (bZ (setl (q) e (setl (N'+1+1+60) f (bW S (O'++[(N',a),(N'+1,b),(N'+1+1+59,c),(N'+1+1+60,d)]))))) (N'+1+1+60+1):=fun a b c d e f=>by
    refine Fw.sweep (Fw.set (Fw.set (Fw.drop (Fw.appL (N2:=N'+1+1+60+1) fw' ?_ (by omega)) (.inr hSn)) (.inr (by omega))) (.inr (by omega)));intro p hp;simp at hp;rcases hp with rfl | rfl | rfl | rfl<;>refine ⟨?_,?_⟩<;>simp only<;>omega
   simp [c_22_l0,h3,h38,h39,h40,hi,hP',hiN,hat,c1,c2,t0,t1,tM,hr',hl',hS,hal,hb2,hd1,r1,r2,r3,r4,r5,r6,r7,r8,p1,p2,s1,s2,s3,s4,s5,s6,s7,hS33,s8,s10,s11,s12,s13,s14,hw,aC,aB,aR,bK];refine ih _ _ ⟨_,_,.row (N'+1+1+60) 9 0 (i+1),H'++[.app 3 (V.pk[i].hops.map Hop.c) (N'+1)],rfl,?_,?_,hfw2 _ _ _ _ _ _,?_,?_,?_,?_,?_⟩
   ·rw [htk];refine m'.pushG (x:=V.pk[i]) ?_ (.inr ⟨N'+1+1+60,?_,?_⟩) (.inr ⟨N'+1,rfl,?_⟩) ?_ ?_
    ·simp [aR,aB,bK,s8,r6,aC,hr',jH]
    ·simp [hl']
    ·simp [aR,aB,hd1,r5,PkN]
    ·simp [aR,aB,bK,s6,aC,t1,r3,r8]
    ·intro t ht;simp only [tkn,Option.some.injEq] at ht;subst ht;exact .inl t1
    ·intro j y hj hy h1 h2;have h5:¬j=S:=fun e=>h2 (by rw [e];rfl)
     have h6:=fw'.tl.lt hj;have h7:¬j=N'+1+1+60:=by omega
     simp [aR,aB,bK h5,aC,hj,h1,h7,hy]
   ·intro j hj;rcases hj with hj | hj | hj | hj | ⟨h,hh2,hj⟩
    ·exact ho' j (.inl hj)
    ·exact ho' j (.inr (.inl hj))
    ·simp only [vid,Option.some.injEq] at hj;omega
    ·exact ho' j (.inr (.inr (.inr (.inl hj))))
    ·rcases eU.1 hh2 with hh2 | hh2
     ·exact ho' j (.inr (.inr (.inr (.inr ⟨h,hh2,hj⟩))))
     ·simp at hh2;subst hh2;simp only [tkn,Option.some.injEq] at hj;omega
   ·intro j y hj hy;have h1:=hk' j y hj hy;have h2:=hT.lt hj;have h3:¬j=q:=by omega
    have h5:¬j=S:=by omega
    have h7:¬j=N'+1+1+60:=by omega
    simp [aR,aB,bK h5,aC,h1,h3,h7,hy]
   all_goals simp [h3,h38,h39,hw]
 ·rintro e _ L hL ⟨O',N',pv',H',rfl,m',ho',fw',hk',h3,h38,h39,h40⟩;rw [iI] at m';simp [c_22_l0,c_22_k1,h3,h39,h40,hL];exact ⟨_,_,_,rfl,⟨D,pv',_,H',m',ho'⟩,fw'⟩
 ·exact ⟨O3,N2+1,_,[],rfl,m3,hown3,hF3,hO3',by simp,by simp,by simp,by simp⟩
end
def actV (U:NetV->Act->NetV×Int) (P:Xf->Int->List Int->Rslt×Xf) (V:NetV) (a:Act):NetV×Int×Event×Int:=
 if a.dd=0 then ((uU V a.a a.data).1,(uU V a.a a.data).2.1,ev0,(uU V a.a a.data).2.2)
 else if a.dd=1 then ((stpV P V a.a).1,0,(stpV P V a.a).2.1,(stpV P V a.a).2.2)
 else if a.dd=2 then ((U V a).1,0,ev0,(U V a).2)
 else if a.dd=3 then ((uT V a.a (decide (a.b=1))).1,0,ev0,(uT V a.a (decide (a.b=1))).2)
 else (V,0,ev0,0)
def AP (X:Nat->Prop) (N:Nat) (O:List (Nat×AO)) (f:AV) (q:NetV×Int×Event×Int) (r:Option (Rt×AH)):Prop:=
 ∃O' N' n',r=some (.val (.tup [.ptr n' 7 0 0,a8 q.2.1,.agg (Event.c q.2.2.1),a8 q.2.2.2]),⟨O',N'⟩)/\NetW O' n' q.1 f (fun j=>X j\/N<=j)/\Fw X N O O' N'
theorem NetM.lt {O:List (Nat×AO)} {n N C:Nat} {V:NetV} {f pv lv:AV} {H:List AV} (m:NetM O n V f C pv lv H) (hT:Tail O N) {j:Nat} (hj:NetM.own n C pv lv H j):j<N:=by
 obtain ⟨y,hy,_⟩:=m.nr hj;exact hT.lt hy
theorem NP.use {X:Nat->Prop} {N n C:Nat} {O:List (Nat×AO)} {V V':NetV} {f pv lv v:AV} {H:List AV} {r:Option (Rt×AH)} {y:AO} (m:NetM O n V f C pv lv H) (hX:∀j,NetM.own n C pv lv H j->X j) (hT:Tail O N) (hy:y≠ .res) (h:NP (NetM.own n C pv lv H) (N+1) (O++[(N,y)]) n f V' v r):
  ∃O' N',r=some (.val v,⟨O',N'⟩)/\look N O'=some y/\(∀z,NetW (setl N z O') n V' f (fun j=>X j\/N<=j)/\Fw X N O (setl N z O') N')/\NetW O' n V' f (fun j=>X j\/N<=j)/\Fw X N O O' N':=by
 obtain ⟨O',N',e,⟨C',pv',lv',H',m',ho⟩,fw⟩:=h;have hN:look N (O++[(N,y)])=some y:=by rw [aC,hT N (Qb _)];simp
 have hN':look N O'=some y:=by
  rw [fw.kp N (vJ _) ?_,hN];rintro (h | h)
  ·have:=m.lt hT h;omega
  ·unfold Rs at h;rw [hN] at h;cases h;exact hy rfl
 have hoN:∀j,NetM.own n C' pv' lv' H' j->j≠N:=by
  intro j hj;rcases ho j hj with h | h
  ·have:=m.lt hT h;omega
  ·omega
 have f0:Fw X N O O' N':=by
  refine Fw.then ((Fw.init hT).app (y:=y) (Qb _) (vJ _) (mI _)) fw.kp (fun j hj hx=>?_) fw.tl fw.le;rcases hx with h | h
  ·exact .inl (hX j h)
  ·exact .inr h
 have hw:∀j,NetM.own n C' pv' lv' H' j->X j\/N<=j:=by
  intro j hj;rcases ho j hj with h | h
  ·exact .inl (hX j h)
  ·right;omega
 exact ⟨O',N',e,hN',fun z=>⟨⟨C',pv',lv',H',m'.fr fun j hj=>by rw [aB,QA (hoN j hj)],hw⟩,f0.set (.inr (Qb _))⟩,⟨C',pv',lv',H',m',hw⟩,f0⟩
section
variable {O:List (Nat×AO)} {n N g C:Nat} {V:NetV} {pv lv:AV} {H:List AV} {X:Nat->Prop} {G:Xf->Prop} {P:Xf->Int->List Int->Rslt×Xf} {U:NetV->Act->NetV×Int}
theorem Qy (hP:PrcOk g G P) (I:NetI G V) (m:NetM O n V (.func (.func g) [] []) C pv lv H) (hX:∀j,NetM.own n C pv lv H j->X j) (hT:Tail O N) (a:Act) (hd:a.data.length<=1000)
  (hU:a.dd=2->∀y,y≠ .res->NP (NetM.own n C pv lv H) (N+1) (O++[(N,y)]) n (.func (.func g) [] []) (U V a).1 (a8 (U V a).2) (aI Φ oF [.ptr n 7 0 0,a8 a.a,a8 a.b,.agg [a8 a.upd.switch,.slice 9 (a.upd.ops.map Xc.c)]] ⟨O++[(N,y)],N+1⟩)):
  AP X N O (.func (.func g) [] []) (actV U P V a) (aI Φ uF [.ptr n 7 0 0,.agg a.c] ⟨O,N⟩):=by
 rw [dA rfl rfl];have t0:=hT N (Qb _);have hT1:Tail (O++[(N,zEv)]) (N+1):=hT.app1 (Qb _);have m1:NetM (O++[(N,zEv)]) n V (.func (.func g) [] []) C pv lv H:=m.mn Mn.app;have hz:zEv= .row 4 [[a8 0,a8 0,a8 0,a8 0]]:=rfl;unfold actV;by_cases d0:a.dd=0
 ·obtain ⟨O',N',e,hN,hw,-,-⟩:=NP.use m hX hT (by simp [zEv]) (VX m1 (fun j h=>h) hT1 I.s a.a a.data (by omega));rw [hz] at e hN;simp [tU,Act.c,d0,e,t0,aC,aB,hN];exact ⟨_,_,_,rfl,(hw _).1,(hw _).2⟩
 by_cases d1:a.dd=1
 ·obtain ⟨O',N',e,hN,hw,-,hf⟩:=NP.use m hX hT (by simp [zEv]) (VY hP { I with } m1 (fun j h=>h) hT1 a.a);rw [hz] at e hN;rw [Event.ce] at e;have u0:=hf.tl N' (Qb _);have hlt:=hf.tl.lt hN;have q0:¬N'=N/\¬N=N':=by omega
  obtain ⟨q1,q2⟩:=q0;simp [tU,Act.c,d1,e,t0,u0,q1,q2,aC,aB,hN];exact ⟨_,_,_,rfl,(hw _).1,(hw _).2.up (mI _)⟩
 by_cases d2:a.dd=2
 ·obtain ⟨O',N',e,hN,hw,-,-⟩:=NP.use m hX hT (by simp [zEv]) (hU d2 zEv (by simp [zEv]));rw [hz] at e hN;simp [tU,Act.c,d2,e,t0,aC,aB,hN];exact ⟨_,_,_,rfl,(hw _).1,(hw _).2⟩
 by_cases d3:a.dd=3
 ·obtain ⟨O',N',e,hN,hw,-,-⟩:=NP.use m hX hT (by simp [zEv]) (qvm m1 (fun j h=>h) hT1 I.s a.a (decide (a.b=1)));rw [hz] at e hN;simp [tU,Act.c,d3,e,t0,aC,aB,hN];exact ⟨_,_,_,rfl,(hw _).1,(hw _).2⟩
 obtain ⟨O',N',n',e,⟨C',pv',lv',H',m',ho⟩,fw⟩:=Lw m1 hT1 I.s (fun c hc=>hP.cc c (I.cg c hc)) (by rw [I.cl];exact (KK I.top).1) (fun x hx=>(I.pk x hx).2.1);have hN1:look N (O++[(N,zEv)])=some zEv:=by rw [aC,t0];simp
 have hN:look N O'=some zEv:=by
  rw [fw.kp N (vJ _) ?_,hN1];rintro (h | h)
  ·exact h
  ·unfold Rs at h;rw [hN1] at h;cases h
 rw [hz] at e hN;simp [tU,Act.c,d0,d1,d2,d3,e,t0,aC,aB,hN];refine ⟨_,_,_,rfl,⟨C',pv',lv',H',m'.fr fun j hj=>?_,fun j hj=> .inr (by have:=ho j hj;omega)⟩,Fw.set (Fw.then ((Fw.init hT).app (y:=zEv) (Qb _) (vJ _) (mI _)) fw.kp (fun j _ hx=>?_) fw.tl fw.le) (.inr (Qb _))⟩
 ·have:=ho j hj;rw [aB,QA (by omega)]
 ·rcases hx with h | h
  ·exact h.elim
  ·exact .inr h
end
theorem Act.ce (x:Act):x.c=[a8 x.dd,a8 x.a,a8 x.b,.slice 1 (x.data.map c8),a8 x.upd.switch,.slice 9 (x.upd.ops.map Xc.c)]:=rfl
section
variable {V:NetV} {G:Xf->Prop} {P:Xf->Int->List Int->Rslt×Xf} {U:NetV->Act->NetV×Int}
theorem Z5 (s:NetS V) (a:Act) (b:Bool) (d0:a.dd=0):aA Φ iZ [.agg V.r,.agg a.c,.bool b]=some (.val (.tup [.agg (actV U P V a).1.r,a8 (actV U P V a).2.1,.agg (Event.c (actV U P V a).2.2.1),a8 (actV U P V a).2.2.2])):=by
 rw [aD rfl rfl];have k:=qr0 V a.a a.data s;simp only [NetV.re] at k;simp [pL,NetV.re,Act.ce,d0,k,actV,ev0,Event.ce]
theorem Z7 (s:NetS V) (a:Act) (b:Bool) (d3:a.dd=3):aA Φ iZ [.agg V.r,.agg a.c,.bool b]=some (.val (.tup [.agg (actV U P V a).1.r,a8 (actV U P V a).2.1,.agg (Event.c (actV U P V a).2.2.1),a8 (actV U P V a).2.2.2])):=by
 rw [aD rfl rfl];have k:=Zt V a.a (decide (a.b=1)) s;simp only [NetV.re] at k;simp [pL,NetV.re,Act.ce,d3,k,actV,ev0,Event.ce]
theorem Z8 (a:Act) (b:Bool) (d0:a.dd≠0) (d1:a.dd≠1) (d2:a.dd≠2) (d3:a.dd≠3):aA Φ iZ [.agg V.r,.agg a.c,.bool b]=some (.val (.tup [.agg (actV U P V a).1.r,a8 (actV U P V a).2.1,.agg (Event.c (actV U P V a).2.2.1),a8 (actV U P V a).2.2.2])):=by
 rw [aD rfl rfl];simp [pL,NetV.re,Act.ce,d0,d1,d2,d3,actV,ev0,Event.ce]
theorem qqg (id:Int) (hz:chkV V id≠0):aA Φ CL [.agg V.r,a8 id]=some (.val (.tup [.agg V.r,.agg (Event.c ev0),a8 (chkV V id)])):=by
 rw [aD rfl rfl];have k:=JZ V id;simp only [NetV.re] at k;simp [HG,NetV.re,k,hz,ev0,Event.ce]
theorem W4 (a:Act) (b:Bool) (d1:a.dd=1) (hz:chkV V a.a≠0):aA Φ iZ [.agg V.r,.agg a.c,.bool b]=some (.val (.tup [.agg (actV U P V a).1.r,a8 (actV U P V a).2.1,.agg (Event.c (actV U P V a).2.2.1),a8 (actV U P V a).2.2.2])):=by
 rw [aD rfl rfl];have k:=JZ V a.a;have k2:=qqg (V:=V) a.a hz;simp only [NetV.re,Event.ce,ev0] at k k2;cases b<;>simp [pL,NetV.re,Act.ce,d1,k,k2,hz,actV,stpV,Event.ce,ev0]
end
structure NetJ (G:Xf->Prop) (k:Nat) (V:NetV):Prop where
 kk:V.pk.length<=k
 g:V.log.length<=2*k
 hp:∀x∈V.pk,x.hops.length<=k
 top:fK V.ports V.links V.hosts=0
 cl:V.cs.length=V.ports.length
 cg:∀c∈V.cs,G c
 pk:∀x∈V.pk,okB' x.data/\x.data.length<=1000/\(x.done=false->0<=x.pos.switch/\x.pos.switch<V.cs.length)
theorem NetJ.I {G:Xf->Prop} {k:Nat} {V:NetV} (j:NetJ G k V) (hk:k<=900):NetI G V:=by
 obtain ⟨h0,h1,h2,h3⟩:=KK j.top;have hc:=j.cl;have hkk:=j.kk;have hg:=j.g;exact ⟨⟨by omega,by omega,by omega,by omega,by omega,by omega,fun x hx=>by have:=j.hp x hx;omega⟩,by omega,j.top,j.cl,j.cg,j.pk⟩
theorem Ft {ports:List Int} {links:List Link} {hosts:List PortID} (h:fK ports links hosts=0):∀a∈aX links hosts,exB ports a=true:=by
 unfold fK at h;split at h
 ·cases h
 split at h
 ·cases h
 split at h
 ·cases h
 split at h
 ·cases h
 unfold chkA at h;split at h
 ·cases h
 unfold chkB at h;split at h
 ·cases h
 rename_i hn;intro a ha;cases hx:exB ports a with
 | true=>rfl
 | false=>exact absurd (DV.2 ⟨a,ha,by simp [hx]⟩) hn
theorem Hi {ports:List Int} {a:PortID} (h:exB ports a=true):0<=a.switch/\a.switch<ports.length:=by
 unfold exB at h;simp only [dD,decide_eq_true_eq] at h;exact ⟨h.1,h.2.1⟩
theorem Na {links:List Link} {hosts:List PortID}:(∀a∈hosts,a∈aX links hosts)/\(∀l∈links,l.a∈aX links hosts/\l.b∈aX links hosts):=by
 unfold aX iK;rw [iI];refine ⟨fun a ha=>List.mem_append_right _ ha,fun l hl=>⟨List.mem_append_left _ (List.mem_flatMap.2 ⟨l,hl,by simp⟩),List.mem_append_left _ (List.mem_flatMap.2 ⟨l,hl,by simp⟩)⟩⟩
theorem qvf (l:List Link) (k:Nat) (d:Bool) (n:Nat):iK (setD l k d) n=iK l n:=by
 unfold iK setD;cases hl:l[k]? with
 | none=>rfl
 | some x=>
  simp only
  induction l generalizing k n with
  | nil=>simp at hl
  | cons a l ih=>cases n with
   | zero=>simp
   | succ n=>cases k with
    | zero=>simp at hl;subst hl;simp
    | succ k=>simp at hl;simp [ih k n hl]
theorem UP (ports:List Int) (l:List Link) (hosts:List PortID) (k:Nat) (d:Bool):fK ports (setD l k d) hosts=fK ports l hosts:=by
 have eD:chkD (setD l k d)=chkD l:=by
  unfold chkD;have:(setD l k d).any (fun l=>decide (l.a.switch=l.b.switch))=l.any (fun l=>decide (l.a.switch=l.b.switch)):=by
   unfold setD;cases hl:l[k]? with
   | none=>rfl
   | some x=>
    simp only
    induction l generalizing k with
    | nil=>simp at hl
    | cons a l ih=>cases k with
     | zero=>simp at hl;subst hl;simp
     | succ k=>simp at hl;simp [ih k hl]
  rw [this]
 have e:aX (setD l k d) hosts=aX l hosts:=by unfold aX;rw [RG,qvf]
 unfold fK chkA chkB chkC;rw [e,eD,RG]
theorem YC {ports:List Int} {links:List Link} {hosts:List PortID} {p:PortID} (h:(gF ports links hosts p).2=0):0<=(gF ports links hosts p).1.switch/\(gF ports links hosts p).1.switch<ports.length:=by
 unfold gF at h ⊢;by_cases z:fK ports links hosts=0
 rotate_left
 ·rw [aE z] at h;exact absurd h z
 have hne:¬fK ports links hosts≠0:=fun hc=>hc z
 rw [QA hne] at h ⊢;by_cases a:eA links (iP p.switch p.port) 0=true
 rotate_left
 ·rw [QA a] at h;cases h
 rw [aE a] at h ⊢;obtain ⟨j,hj,h4,_⟩:=Em a;have e:links.getD (ixF (iP p.switch p.port) links 0).toNat default=links[j]:=by simp [h4,hj]
 rw [e] at h ⊢;have hm:=(Na (links:=links) (hosts:=hosts)).2 _ (Qd hj);have hA:=Hi (Ft z _ hm.1);have hB:=Hi (Ft z _ hm.2);unfold BK at h ⊢;split
 ·rename_i hd;rw [aE hd] at h;cases h
 ·split
  ·exact hB
  ·exact hA
section
variable {G:Xf->Prop} {P:Xf->Int->List Int->Rslt×Xf} {U:NetV->Act->NetV×Int} {V:NetV} {k:Nat}
theorem NetJ.up (j:NetJ G k V):NetJ G (k+1) V:=⟨by have:=j.kk;omega,by have:=j.g;omega,fun x hx=>by have:=j.hp x hx;omega,j.top,j.cl,j.cg,j.pk⟩
theorem NetJ.send (j:NetJ G k V) (h:Int) (b:List Int) (hb:okB' b):NetJ G (k+1) (uU V h b).1:=by
 unfold uU;split
 ·exact j.up
 split
 ·exact j.up
 split
 ·exact j.up
 rename_i h1 h2 h3;obtain ⟨i,rfl⟩:=fP (show 0<=h by omega);have hi:i<V.hosts.length:=by omega
 have hex:=Hi (Ft j.top _ ((Na (links:=V.links)).1 _ (Qd hi)));have hcl:=j.cl;refine ⟨by have:=j.kk;simp [NetV.ev];exact this,by have:=j.g;simp [NetV.ev];omega,?_,j.top,j.cl,j.cg,?_⟩
 ·intro x hx;simp only [NetV.ev,eU,JP] at hx;rcases hx with hx | rfl
  ·have:=j.hp x hx;omega
  ·simp
 ·intro x hx;simp only [NetV.ev,eU,JP] at hx ⊢;rcases hx with hx | rfl
  ·exact j.pk x hx
  ·refine ⟨hb,by simp only;omega,fun _=>?_⟩;simp [hi];omega
theorem NetJ.link (j:NetJ G k V) (h:Int) (d:Bool):NetJ G (k+1) (uT V h d).1:=by
 unfold uT;split
 ·exact j.up
 ·exact ⟨by have:=j.kk;simp [NetV.ev];omega,by have:=j.g;simp [NetV.ev];omega,fun x hx=>by have:=j.hp x hx;omega,by simp only [NetV.ev];rw [UP];exact j.top,j.cl,j.cg,j.pk⟩
theorem NetJ.step {g:Nat} (hP:PrcOk g G P) (j:NetJ G k V) (id:Int):NetJ G (k+1) (stpV P V id).1:=by
 by_cases hz:chkV V id=0
 rotate_left
 ·simp only [stpV,hz,ne_eq,not_false_eq_true,if_true];exact j.up
 obtain ⟨i,rfl,hi,hd⟩:=Gd hz;have hmem:=Qd hi;obtain ⟨hdb,hdl,hpos⟩:=j.pk _ hmem;obtain ⟨hs0,hs1⟩:=hpos hd;obtain ⟨x,hx⟩:∃x,V.pk[i]=x:=⟨_,rfl⟩;rw [hx] at hd hdb hdl hs0 hs1 hmem;obtain ⟨q,hs⟩:=fP hs0;have hk:q<V.cs.length:=by omega
 have hG:=j.cg _ (Qd hk);have hgp:V.pk[i]?.getD default=x:=by simp [hi,hx]
 have hgc:V.cs[q]?.getD default=V.cs[q]:=by simp [hk]
 have hst:(stpV P V i).1=oN V i (P V.cs[q] x.pos.port x.data).1 (P V.cs[q] x.pos.port x.data).2:=by
  simp [stpV,hz,hgp,hs,hgc]
 rw [hst];have hG':=hP.cfg _ x.pos.port _ hG hdb hdl;have hdat:=hP.dat _ x.pos.port _ hG hdb hdl;generalize (P V.cs[q] x.pos.port x.data).1=r at*;generalize (P V.cs[q] x.pos.port x.data).2=c' at*;have hhp:=j.hp x hmem;have hcl:=j.cl;have hmv:(mv V x i r).2.length<=2/\(mv V x i r).1.hops.length<=k+1/\okB' (mv V x i r).1.data/\(mv V x i r).1.data.length<=1000/\((mv V x i r).1.done=false->0<=(mv V x i r).1.pos.switch/\(mv V x i r).1.pos.switch<V.cs.length):=by
  unfold mv;split
  ·simp [mvD,Pk.fin,hop1,hdb,hdl,hhp]
  ·unfold mvP;split
   ·simp [Pk.fin,hop1,hdat,hhp]
   split
   ·rename_i hpe;have:=YC hpe;simp [hop1,hdat,hhp];intro _;omega
   ·simp [Pk.fin,hop1,hdat,hhp]
 unfold oN;have hgd:V.pk.getD i default=x:=by simp [hi,hx]
 rw [hgd];refine ⟨by have:=j.kk;simp;omega,by have:=j.g;simp;omega,?_,j.top,by simp [hcl],?_,?_⟩
 ·intro y hy;rcases Qq hy with hy | rfl
  ·have:=j.hp y hy;omega
  ·exact hmv.2.1
 ·intro c hc;rcases Qq hc with hc | rfl
  ·exact j.cg c hc
  ·exact hG'
 ·intro y hy;simp only [List.length_set];rcases Qq hy with hy | rfl
  ·exact j.pk y hy
  ·exact hmv.2.2
theorem NetJ.act {g:Nat} (hP:PrcOk g G P) (j:NetJ G k V) (a:Act) (hb:okB' a.data) (hU:a.dd=2->NetJ G (k+1) (U V a).1):NetJ G (k+1) (actV U P V a).1:=by
 unfold actV;split
 ·exact j.send _ _ hb
 split
 ·exact j.step hP _
 split
 ·rename_i h;exact hU h
 split
 ·exact j.link _ _
 ·exact j.up
end
@[simp] theorem NetV.r_len (V:NetV):V.r.length=6:=by simp [NetV.re]
def runV (U:NetV->Act->NetV×Int) (P:Xf->Int->List Int->Rslt×Xf) (V:NetV) (l:List Act):NetV:=l.foldl (fun W a=>(actV U P W a).1) V
def RQ (X:Nat->Prop) (N:Nat) (O:List (Nat×AO)) (f:AV) (V:NetV) (r:Option (Rt×AH)):Prop:=
 ∃O' N' n',r=some (.val (.bool true),⟨O',N'⟩)/\NetW O' n' V f (fun j=>X j\/N<=j)/\Fw X N O O' N'
section
variable {O:List (Nat×AO)} {n N g:Nat} {V:NetV} {X:Nat->Prop} {G:Xf->Prop} {P:Xf->Int->List Int->Rslt×Xf} {U:NetV->Act->NetV×Int}
theorem Fp (hP:PrcOk g G P) (hG:∀c,G c->CfgS c) (acts:List Act) (hl:acts.length<=100) (hb:∀a∈acts,okB' a.data/\a.data.length<=1000) (K0:Nat) (hK0:K0<=500) (j:NetJ G K0 V) (b:Bool)
  (hUj:∀a∈acts,a.dd=2->∀k W,k<=900->NetJ G k W->NetJ G (k+1) (U W a).1)
  (hS:∀a∈acts,∀W,NetI G W->aA Φ iZ [.agg W.r,.agg a.c,.bool b]=some (.val (.tup [.agg (actV U P W a).1.r,a8 (actV U P W a).2.1,.agg (Event.c (actV U P W a).2.2.1),a8 (actV U P W a).2.2.2])))
  (hU:∀a∈acts,a.dd=2->∀(O:List (Nat×AO)) (N n C:Nat) (W:NetV) (pv lv:AV) (H:List AV),NetI G W->NetM O n W (.func (.func g) [] []) C pv lv H->Tail O N->NP (NetM.own n C pv lv H) N O n (.func (.func g) [] []) (U W a).1 (a8 (U W a).2) (aI Φ oF [.ptr n 7 0 0,a8 a.a,a8 a.b,.agg [a8 a.upd.switch,.slice 9 (a.upd.ops.map Xc.c)]] ⟨O,N⟩))
  (hw:NetW O n V (.func (.func g) [] []) X) (hT:Tail O N) (hXN:∀j,X j->j<N):
  RQ X N O (.func (.func g) [] []) (runV U P V acts) (aI Φ uE [.ptr n 7 0 0,.agg V.r,.slice 6 (acts.map Act.c),.bool b] ⟨O,N⟩):=by
 rw [dA rfl rfl];have t0:=hT N (Qb _);simp [LS,t0];obtain ⟨C0,pv0,lv0,H0,m0,ho0⟩:=hw;refine fF acts.length (fun i e h=>∃O' N' n' C pv lv H,h=⟨O',N'⟩/\NetM O' n' (runV U P V (acts.take i)) (.func (.func g) [] []) C pv lv H/\(∀j,NetM.own n' C pv lv H j->X j\/N+1<=j)/\look N O'=some (.row 6 [(runV U P V (acts.take i)).r])/\Fw X N O O' N'/\NetJ G (K0+i) (runV U P V (acts.take i))/\
   look 0 e=some (.ptr n' 7 0 0)/\look 2 e=some (.slice 6 (acts.map Act.c))/\look 3 e=some (.bool b)/\look 5 e=some (.ptr N 6 0 0)/\look 9 e=some (a8 i)) (RQ X N O (.func (.func g) [] []) (runV U P V acts)) ?_ ?_ 0 _ _ (Qc _) ?_
 ·rintro i e _ L hi hL ⟨O',N',n',C,pv,lv,H,rfl,m,ho,hN,fw,jj,h0,h2,h3,h5,h9⟩ ih;have hwr:=aL i (by omega);have ha:=Qd hi;obtain ⟨hb1,hb2⟩:=hb _ ha;have I:=jj.I (by omega);have hstep:=hS _ ha _ I;have htk:runV U P V (acts.take (i+1))=(actV U P (runV U P V (acts.take i)) acts[i]).1:=by
   unfold runV;rw [Qh hi,List.foldl_append];rfl
  rw [htk] at ih;have jj':=jj.act hP acts[i] hb1 (hUj _ ha · _ _ (by omega) jj);rw [show K0+i+1=K0+(i+1) by omega] at jj';have hNl:=fw.tl.lt hN;obtain ⟨O2,N2,n2,e2,⟨C2,pv2,lv2,H2,m2,ho2⟩,fw2⟩:=Qy (U:=U) hP I m (fun j h=>h) fw.tl acts[i] hb2 (fun d2 y hy=>by
   have m1:=m.mn (Mn.app (r:=[(N',y)]));exact hU _ ha d2 _ _ _ _ _ _ _ _ I m1 (fw.tl.app1 (Qb _)))
  generalize hW:runV U P V (acts.take i)=W at*;generalize hq:actV U P W acts[i]=q at*;have hNo:∀j,NetM.own n' C pv lv H j->j≠N:=by
   intro j hj;rcases ho j hj with h | h
   ·have:=hXN j h;omega
   ·omega
  have hN2:look N O2=some (.row 6 [W.r]):=by
   rw [fw2.kp N hNl ?_,hN];rintro (h | h)
   ·exact hNo N h rfl
   ·unfold Rs at h;rw [hN] at h;cases h
  have hNl2:=fw2.tl.lt hN2;have hT2:∀k,look (N2+k) O2=none:=fun k=>fw2.tl (N2+k) (by omega)
  have u0:=fw2.tl N2 (Qb _);have hT3:∀k,look (N2+1+k) O2=none:=fun k=>fw2.tl (N2+1+k) (by omega)
  have q0:¬N2=N/\¬N=N2:=by omega
  obtain ⟨q1,q2⟩:=q0;have q3:∀k,¬N2+1+k=N:=fun k=>by omega
  have q4:∀k,¬N=N2+1+k:=fun k=>by omega
  have q5:∀k,(N == N2+1+k)=false:=fun k=>by simp;omega
  have q6:(N2+2 == N2)=false/\(N2 == N2+2)=false:=by simp
  obtain ⟨q7,q8⟩:=q6;rw [Act.ce] at e2;rw [Event.ce] at e2;rw [NetV.re] at hN2;simp only [NetV.re,Act.ce,Event.ce] at hstep;simp [c_12_l0,h0,h2,h3,h5,h9,hi,hL,Act.ce,e2,hN2,hstep,u0,hT3,q1,q2,q3,q4,q5,q7,q8,hwr,NetV.re,Event.ce,aC,aB,aR,bK];have ho3:∀j,NetM.own n2 C2 pv2 lv2 H2 j->X j\/N+1<=j:=by
   intro j hj;rcases ho2 j hj with h | h
   ·exact ho j h
   ·right;omega
  have hNo2:∀j,NetM.own n2 C2 pv2 lv2 H2 j->j≠N:=by
   intro j hj;rcases ho3 j hj with h | h
   ·have:=hXN j h;omega
   ·omega
  have hfw:∀x y z,Fw X N O (setl N x (bW (N2+1+16) (bW (N2+1+14) (bZ (O2++[(N2+1+14,y),(N2+1+16,z)]))))) (N2+1+16+1):=fun x y z=>by
   have f1:Fw X N O O2 N2:=fw.then fw2.kp (fun j hj hx=>by
    rcases hx with h | h
    ·rcases ho j h with h | h
     ·exact .inl h
     ·omega
    ·exact .inr h) fw2.tl fw2.le
   refine (((f1.appL (N2:=N2+1+16+1) ?_ (by omega)).sweep.drop (.inr (by omega))).drop (.inr (by omega))).set (.inr (Qb _));intro p hp;simp at hp;rcases hp with rfl | rfl<;>refine ⟨?_,?_⟩<;>simp only<;>omega
  refine ih _ _ ⟨_,_,n2,C2,pv2,lv2,H2,rfl,m2.fr fun j hj=>?_,ho3,?_,hfw _ _ _,jj',?_,?_,?_,?_,?_⟩
  ·obtain ⟨y,hy,hyr⟩:=m2.nr hj;have hjN:=fw2.tl.lt hy;have j1:=hNo2 j hj;have j2:∀k,¬j=N2+1+k:=fun k=>by omega
   simp [aB,j1,bK,j2,aR,aC,hy,hyr]
  ·simp [aB,bK,q4,aR,aC,hN2,NetV.re]
  all_goals simp [h2,h3,h5]
 ·rintro e _ L hL ⟨O',N',n',C,pv,lv,H,rfl,m,ho,hN,fw,jj,h0,h2,h3,h5,h9⟩;rw [iI] at m hN jj;have I:=jj.I (by omega);have hs:=Pr (runV U P V acts) g I.s (fun c hc=>⟨hP.cc c (I.cg c hc),hG c (I.cg c hc)⟩) (fun x hx=>(I.pk x hx).2.1);have hsn:=fun k=>m.snp (N:=N') k
  rw [NetV.re] at hN hs;simp [c_12_l0,c_12_k1,h0,h2,h5,h9,hL,hN,hs,hsn];exact ⟨_,_,n',rfl,⟨C,pv,lv,H,m,fun j hj=>(ho j hj).imp id fun h=>by omega⟩,fw⟩
 ·refine ⟨_,_,n,C0,pv0,lv0,H0,rfl,?_,fun j hj=> .inl (ho0 j hj),?_,?_,?_,?_,?_,?_,?_,?_⟩
  ·exact m0.mn Mn.app
  ·simp [aC,t0,runV]
  ·exact (Fw.init hT).app (Qb _) (vJ _) (mI _)
  ·exact j
  all_goals simp
end
set_option maxRecDepth 4000
theorem qy7 {O:List (Nat×AO)} {N:Nat} {S:SV} {p:Prg} {c:Xf} (m:StoreM O S p c) (v:CfgV p c) (hT:Tail O N) (t id:Int):
  MDpost N O S p (if delE p c t id=0 then delC c t id else c) (a8 (delE p c t id)) (aI Φ sQ [.ptr S.s 15 0 0,a8 t,a8 id] ⟨O,N⟩):=by
 rw [dA rfl rfl];have hl:=v.rl;have hr:=Hc (N:=N) m hl t id;have hE:delE p c t id=rowX p c t id:=rfl;rw [hE];by_cases z:rowX p c t id=0
 rotate_left
 ·rw [QA z];simp [xY,hr,z];exact ⟨S,O,N,rfl,m,rfl,fun j hj=> .inl hj,fun _ _ _=>rfl,hT,Qb _⟩
 rw [aE z,z];cases hi:inT p t with
 | false=>simp [rowX,hi] at z
 | true=>
 obtain ⟨k,rfl,hk⟩:=D1 hi;have hk':k<c.rows.length:=by omega
 have hrow:iL c (k:Int)=c.rows[k]:=AD hk';cases hx2:rIdx c.rows[k] id with
 | none=>simp [rowX,hi,hrow,hx2] at z
 | some i=>
 obtain ⟨hil,hid⟩:=NT hx2;have hI:rowI p c k id=i:=by simp [rowI,hi,hrow,hx2]
 have hM:delC c (k:Int) id=⟨c.rows.set k (c.rows[k].eraseIdx i),c.Xr,c.Xq,c.Xm⟩:=by
  unfold delC;rw [hrow,hx2];simp
 rw [z,hI] at hr;rw [hM];have hv:=v.at hk;have hsm:=v.small _ (Qd hk');have hs:=m.se;obtain ⟨rid,es1,e1,lr,hle1,⟨hV,g1,g5⟩,ht1⟩:=m.tab hk';obtain ⟨r5,es5,e5,l5,hle5,ht5⟩:=g5.nonempty (by simp;omega);rw [cT] at e5 hle5 ht5;rw [e1] at hs;rw [e5] at g1;have hao:=qw7 m (Ny v.prg);simp only [SV.cells,Prg.e,qI,DW,e1] at hao;obtain ⟨N2,es',e6,n1,n2,h7,h8⟩:=ZT (N:=N+1) l5 rfl hle5 ht5 hil (by omega);have hwi:IntKind.wrap .i64 ((i:Int)+1)=(i:Int)+1:=fG (by omega) (by omega);have hsr:=aP hs lr (by simp);have hs5:=aP hs l5 (by simp);have hr5:=aP lr l5 (by simp);have h5r:=hr5.symm;have hrs:=hsr.symm;simp [xY,hr,hs,lr,hk',g1,hwi,e6,aB,hs5,hr5,hao];have hMl:=m.x.len;have hVl:=m.cm.rl;obtain ⟨iid,esi,e3,li,hle3,hMk,gi,lm⟩:=m.idx hk';have own1:S.own rid:= .inr (.inl (.inl (by rw [e1];rfl)));have own3:S.own S.M[k]:= .inr (.inr (.inr (Qd hMk)));have own4:S.own r5:= .inr (.inl (.inr (.inr (.inr ⟨_,Qd hV,by rw [e5];rfl⟩))));have own5:S.own iid:= .inr (.inr (.inl (by rw [e3];rfl)));have k3:∀A B j,j≠rid->j≠r5->look j O≠some .res->look j (bZ (setl rid A (setl r5 B O)))=look j O:=by
  intro A B j h1 h2 h3;have h0:look j (setl rid A (setl r5 B O))=look j O:=by rw [aB,QA h1,aB,QA h2]
  rw [aR (by rw [h0];exact h3),h0]
 have a1:∀B es,look rid (bZ (setl rid (.row 1 es) (setl r5 B O)))=some (.row 1 es):=by
  intro B es;have h0:look rid (setl rid (.row 1 es) (setl r5 B O))=some (.row 1 es):=by rw [aB,aE rfl,aB,QA hr5,lr];rfl
  rw [aR (by rw [h0];simp),h0]
 have a2:∀A es,look r5 (bZ (setl rid A (setl r5 (.row 5 es) O)))=some (.row 5 es):=by
  intro A es;have h0:look r5 (setl rid A (setl r5 (.row 5 es) O))=some (.row 5 es):=by rw [aB,QA h5r,aB,aE rfl,l5];rfl
  rw [aR (by rw [h0];simp),h0]
 have hT3:∀A B,Tail (bZ (setl rid A (setl r5 B O))) N2:=fun A B=>CU (bV (bV (hT.mono (by omega))))
 generalize hO3:bZ (setl rid (AO.row 1 (es1.set k [AV.row r5 5 0 (c.rows[k].length - 1)])) (setl r5 (AO.row 5 es') O))=O3;have k3':∀j,j≠rid->j≠r5->look j O≠some .res->look j O3=look j O:=fun j h1 h2 h3=>by rw [<- hO3];exact k3 _ _ j h1 h2 h3
 have a1':look rid O3=some (.row 1 (es1.set k [AV.row r5 5 0 (c.rows[k].length - 1)])):=by rw [<- hO3];exact a1 _ _
 have a2':look r5 O3=some (.row 5 es'):=by rw [<- hO3];exact a2 _ _
 have hT3':Tail O3 N2:=by rw [<- hO3];exact hT3 _ _
 clear hO3;have hinc:(c.rows[k].eraseIdx i).Pairwise fun a b=>a.id<b.id:=hv.inc.sublist (List.eraseIdx_sublist _ _)
 have hll:(c.rows[k].eraseIdx i).length=c.rows[k].length - 1:=by rw [List.length_eraseIdx];simp [hil]
 have m5:Mu O3 5 (.row r5 5 0 (c.rows[k].length - 1)) ((c.rows[k].eraseIdx i).map Rw.c):= .row r5 _ es' _ (by simp [hll]) a2' (by simp [hll];omega) (by rw [cT,hll];exact h8);have m1:Mu O3 1 S.v1 ((S.V.set k (.row r5 5 0 (c.rows[k].length - 1))).map fun x=>[x]):=by
  have hmu:=Mu.upd (O':=O3) (id:=rid) (z:=1) (k:=k) (es:=S.V.map fun x=>[x]) (es0:=es1) (y:=[.row r5 5 0 (c.rows[k].length - 1)]) a1' (by rw [cT,hVl];exact hle1) (by rw [cT,hVl];exact ht1);rw [cT,hVl] at hmu;rw [e1,vL];exact hmu
 have ls3:look S.s O3=some (.row 15 [S.cells p]):=by rw [k3' S.s hsr hs5 (by rw [m.s];simp),m.s]
 have li3:look iid O3=some (.row 1 esi):=by
  rw [k3' iid (fun e=>m.ri rid (by rw [e1];rfl) (by rw [e3,e];rfl)) (aP li l5 (by simp)) (by rw [li];simp),li]
 have hri:vid S.v1≠some iid:=fun e=>m.ri iid e (by rw [e3];rfl)
 have hVs:k<(S.V.set k (AV.row r5 5 0 (c.rows[k].length - 1))).length:=by simpa using hV
 have hVk:(S.V.set k (AV.row r5 5 0 (c.rows[k].length - 1)))[k]=AV.row r5 5 0 (c.rows[k].length - 1):=by simp
 have ls4:=ls3;simp only [SV.cells,e3] at ls4;have hrl:c.rows.length<2^40:=by have:=(Ny v.prg).tabs;omega
 have hnv:c.Xr.set k ((c.Xr[k]?).getD 0)=c.Xr:=by
  rw [Qa (by rw [v.nl];exact hk)];simp
 have hcz:esi.take c.rows.length=S.M.map fun x=>[.map x]:=by
  obtain ⟨iid',es0,e9,hl9,hle9,ht9⟩:=m.x.i.nonempty (by simp;omega);rw [e3] at e9;simp only [AV.row.injEq] at e9;obtain ⟨rfl,-⟩:=e9;rw [li] at hl9;cases hl9;rw [cT,hMl] at ht9;exact ht9
 obtain ⟨O4,N4,e7,r1,r2,k4,hT4,hN4⟩:=Kq (k:=k) (n:=c.rows.length) (V:=S.V.set k (.row r5 5 0 (c.rows[k].length - 1))) (l:=c.rows[k].eraseIdx i) (R:=Prg.c p) (es:=esi) hT3' (by omega) hk' hVs ls4 (by simp) li3 hle3 ⟨_,gi⟩ m1 (by rw [hVk];exact m5) hri hinc (by omega);simp [e7];have keep:∀j,S.own j->¬S.chg k j->look j O4=look j O:=by
  intro j hj hc;obtain ⟨w,hw,hwn⟩:=m.own_lk hj;have h3:=k3' j (fun e=>hc (.inr (.inl (by rw [e,e1];rfl)))) (fun e=>hc (.inl ⟨_,Qa hV,by rw [e5,e];rfl⟩)) (by rw [hw];simpa using hwn);rw [k4 j (by have:=hT.lt hw;omega) (fun e=>hc (.inr (.inr (.inr (.inl (by rw [e,e3];rfl)))))),h3]
 have hfr:∀x,look N2 O=some x->x= .res:=fun x hx=>by have:=hT.lt hx;omega
 have up:=m.upd (k:=k) (v':= .row r5 5 0 (c.rows[k].length - 1)) (m':=N2) (l':=c.rows[k].eraseIdx i) (nx:=(c.Xr[k]?).getD 0) (O':=O4) hk' keep
  (m1.fr fun j hj=>by
   obtain ⟨es0,h0⟩:=m1.own hj;exact k4 j (hT3'.lt h0) (fun e=>hri (by rw [hj,e])))
  (by
   rw [hnv];refine m.cm.n.fr fun j hj=>?_
   obtain ⟨es0,h0⟩:=m.cm.n.own hj;have h3:=k3' j (fun e=>m.cm.rn j (by rw [e1,e];rfl) hj) (aP h0 l5 (by simp)) (by rw [h0];simp);rw [k4 j (by have:=hT.lt h0;omega) (fun e=>m.ni j hj (by rw [e3,e];rfl)),h3])
  (by
   have hmu:=Mu.upd (O':=O4) (id:=iid) (z:=1) (k:=k) (es:=S.M.map fun x=>[.map x]) (es0:=esi) (y:=[.map N2]) r1 (by rw [cT,hMl];exact hle3) (by rw [cT,hMl];exact hcz);rw [cT,hMl] at hmu;rw [e3,vL];exact hmu)
  (m5.fr fun j hj=>by
   obtain ⟨es0,h0⟩:=m5.own hj;exact k4 j (hT3'.lt h0) (aP h0 li3 (by simp)))
  r2 (by simp) (fun j hj=> .inl ⟨_,Qa hV,by rw [e5];exact hj⟩) (.inr hfr)
 rw [hnv] at up;refine ⟨S.tab k (.row r5 5 0 (c.rows[k].length - 1)) N2,O4,N4,rfl,up,rfl,?_,?_,hT4,by omega⟩
 ·intro j hj;rcases hj with hj | hj | hj | hj
  ·exact .inl (.inl hj)
  ·rcases hj with hj | hj | hj | ⟨w,hw,hj⟩
   ·exact .inl (.inr (.inl (.inl hj)))
   ·exact .inl (.inr (.inl (.inr (.inl hj))))
   ·exact .inl (.inr (.inl (.inr (.inr (.inl hj)))))
   ·rcases Qq hw with hw | rfl
    ·exact .inl (.inr (.inl (.inr (.inr (.inr ⟨w,hw,hj⟩)))))
    ·cases hj;exact .inl own4
  ·exact .inl (.inr (.inr (.inl hj)))
  ·simp only [SV.tab] at hj;rcases Qq hj with hj | rfl
   ·exact .inl (.inr (.inr (.inr hj)))
   ·exact .inr (by omega)
 ·intro j hj hx;have hx1:¬S.own j:=fun h=>hx (.inl h)
  have hx2:¬look j O=some .res:=fun h=>hx (.inr h)
  rw [k4 j (by omega) (fun e=>hx1 (by rw [e];exact own5)),k3' j (fun e=>hx1 (by rw [e];exact own1)) (fun e=>hx1 (by rw [e];exact own4)) hx2]
theorem MDpost.pre {N N1:Nat} {O O1:List (Nat×AO)} {S:SV} {p:Prg} {c:Xf} {v:AV} {r:Option (Rt×AH)} (hk:Kp (fun _=>False) N O O1) (hN:N<=N1) (h:MDpost N1 O1 S p c v r):MDpost N O S p c v r:=by
 obtain ⟨S',O',N',e,h1,h2,h3,h4,h5,h6⟩:=h;refine ⟨S',O',N',e,h1,h2,fun j hj=>(h3 j hj).imp id fun h=>by omega,?_,h5,by omega⟩;intro j hj hx;rw [h4 j (by omega) fun hc=>hx (hc.imp id fun hc=>?_)]
 ·exact hk j hj (by simp)
 ·show look j O=some .res;rw [<- hk j hj (by simp)];exact hc
theorem qxt {O:List (Nat×AO)} {N:Nat} {S:SV} {p:Prg} {c:Xf} (m:StoreM O S p c) (f:PrgS p) (v:CfgV p c) (s:CfgT c) (hT:Tail O N) (o:Xc) (ho:OpS o):
  MDpost N O S p (xoC p c o) (.tup [a8 (xoI p c o),a8 (xoE p c o)]) (aI Φ sD [.ptr S.s 15 0 0,.agg (Xc.c o)] ⟨O,N⟩):=by
 rw [dA rfl rfl];have t0:=hT N (Qb _);have hk1:Kp (fun _=>False) N O (O++[(N,AO.row 9 [Xc.c o])]):=Kp.app (fun _ _ _=>rfl) (Qb _);have hT1:=hT.app1 (o:=AO.row 9 [Xc.c o]) (Qb N);have m1:StoreM (O++[(N,AO.row 9 [Xc.c o])]) S p c:=m.kp (X:=fun _=>False) hT (Kp.app (fun _ _ _=>rfl) (Qb _)) (by simp);have b1:look N (O++[(N,AO.row 9 [Xc.c o])])=some (.row 9 [Xc.c o]):=by rw [aC,t0];simp
 simp only [Xc.ce2] at b1 hk1 hT1 m1;by_cases z1:o.kind=1
 ·simp only [z1] at b1 hk1 hT1 m1;refine MDpost.pre hk1 (mI N) ?_;obtain ⟨S',O',N',e,h1,h2,h3,h4,h5,h6⟩:=qy8 m1 f v s hT1 o.table o.entry ho.e;have e1:xoE p c o=insE p c o.table o.entry:=by simp [xoE,z1]
  have e2:(if insE p c o.table o.entry=0 then insC c o.table o.entry else c)=xoC p c o:=by simp [xoC,e1,xoD,z1]
  have e3:(if insE p c o.table o.entry=0 then tG c o.table else 0)=xoI p c o:=by simp [xoI,e1,z1]
  rw [e2] at h1;rw [e3,<- e1] at e;simp only [Entry.ce] at e;simp [kK,Xc.ce2,z1,b1,t0,e];exact ⟨S',O',N',rfl,h1,h2,h3,h4,h5,h6⟩
 by_cases z2:o.kind=2
 ·simp only [z2] at b1 hk1 hT1 m1;refine MDpost.pre hk1 (mI N) ?_;obtain ⟨S',O',N',e,h1,h2,h3,h4,h5,h6⟩:=qza m1 f v.rl hT1 o.table o.id o.call ho.c.al;have e1:xoE p c o=modE p c o.table o.id o.call:=by simp [xoE,z2]
  have e2:(if modE p c o.table o.id o.call=0 then modC c o.table o.id o.call else c)=xoC p c o:=by simp [xoC,e1,xoD,z2]
  have e3:xoI p c o=0:=by simp [xoI,z2]
  rw [e2] at h1;rw [<- e1] at e;rw [e3];simp only [Xb.ce] at e;simp [kK,Xc.ce2,z2,b1,t0,e];exact ⟨S',O',N',rfl,h1,h2,h3,h4,h5,h6⟩
 by_cases z3:o.kind=3
 ·simp only [z3] at b1 hk1 hT1 m1;refine MDpost.pre hk1 (mI N) ?_;obtain ⟨S',O',N',e,h1,h2,h3,h4,h5,h6⟩:=qy7 m1 v hT1 o.table o.id;have e1:xoE p c o=delE p c o.table o.id:=by simp [xoE,z3]
  have e2:(if delE p c o.table o.id=0 then delC c o.table o.id else c)=xoC p c o:=by simp [xoC,e1,xoD,z3]
  have e3:xoI p c o=0:=by simp [xoI,z3]
  rw [e2] at h1;rw [<- e1] at e;rw [e3];simp [kK,Xc.ce2,z3,b1,t0,e];exact ⟨S',O',N',rfl,h1,h2,h3,h4,h5,h6⟩
 by_cases z4:o.kind=4
 ·simp only [z4] at b1 hk1 hT1 m1;refine MDpost.pre hk1 (mI N) ?_;obtain ⟨S',O',N',e,h1,h2,h3,h4,h5,h6⟩:=qrm m1 f v.rl v.dl hT1 o.table o.call ho.c.al;have e1:xoE p c o=defE p o.table o.call:=by simp [xoE,z4]
  have e2:(if defE p o.table o.call=0 then defC c o.table o.call else c)=xoC p c o:=by simp [xoC,e1,xoD,z4]
  have e3:xoI p c o=0:=by simp [xoI,z4]
  rw [e2] at h1;rw [<- e1] at e;rw [e3];simp only [Xb.ce] at e;simp [kK,Xc.ce2,z4,b1,t0,e];exact ⟨S',O',N',rfl,h1,h2,h3,h4,h5,h6⟩
 ·have e1:xoE p c o=11:=by simp [xoE,z1,z2,z3,z4]
  have e2:xoC p c o=c:=by simp [xoC,e1]
  have e3:xoI p c o=0:=by simp [xoI,z1]
  rw [e1,e2,e3];refine MDpost.pre hk1 (mI N) ?_;simp [kK,Xc.ce2,z1,z2,z3,z4,b1,t0];exact ⟨S,_,_,rfl,m1,rfl,fun j hj=> .inl hj,Kp.refl,hT1,Qb _⟩
def T' (N:Nat) (O:List (Nat×AO)) (p:Prg) (c:Xf) (r:Option (Rt×AH)):Prop:=
 ∃S O' N',r=some (.val (.ptr S.s 15 0 0),⟨O',N'⟩)/\StoreM O' S p c/\(∀j,S.own j->N<=j)/\Kp (Rs O) N O O'/\Tail O' N'/\N<=N'
theorem UT {O:List (Nat×AO)} {N:Nat} {S:SV} {p:Prg} (op:p.Ok dO) {c:Xf} (m:StoreM O S p c) (v:CfgV p c) (s:CfgT c) (hT:Tail O N):
  T' N O p c (aI Φ nN [.ptr S.s 15 0 0] ⟨O,N⟩):=by
 rw [dA rfl rfl];obtain ⟨S',O',N',e,h1,h2,h3,h4,h5⟩:=Pc p op c (v.u s) v.incs hT m.cm.re;have hs:=m.s;simp only [Prg.e] at e;simp [EO,SV.cells,Prg.e,hs,e];exact ⟨S',O',N',rfl,h1,h2,h3,h4,h5⟩
theorem YW {O:List (Nat×AO)} {N:Nat} {S:SV} {p:Prg} {c:Xf} (m:StoreM O S p c) (hl:c.rows.length=p.Xn.length) (hT:Tail O N):
  aI Φ kX [.ptr S.s 15 0 0,a8 (-1),a8 0,.agg [a8 0,.Xu 1 []]] ⟨O,N⟩=some (.val (a8 8),⟨O++[(N,.row 2 [[a8 0,.Xu 1 []]])],N+1⟩):=by
 rw [dA rfl rfl];have t0:=hT N (Qb _);have m1:StoreM (O++[(N,.row 2 [[a8 0,.Xu 1 []]])]) S p c:=m.kp (X:=fun _=>False) hT (Kp.app (fun _ _ _=>rfl) (Qb _)) (by simp);have hr:=Hc (N:=N+1) m1 hl (-1) 0;have hE:rowX p c (-1) 0=8:=by simp [rowX,inT]
 rw [hE] at hr;simp [mU,t0,hr]
structure CmF (O:List (Nat×AO)) (M:Nat) (S:SV) (l:List Xc) (b2 b6 w T:Nat):Prop where
 fb2:look b2 O=some (.row 1 [[.ptr S.s 15 0 0]])
 fb6:look b6 O=some (.row 1 [[a8 0]])
 fw:look w O=some (.row 9 (l.map Xc.c))
 ft:look T O=some (.tok 1 0)
 n2:¬S.own b2
 n6:¬S.own b6
 nw:¬S.own w
 nt:¬S.own T
 tl:Tail O M
structure CmI (O0:List (Nat×AO)) (M:Nat) (S:SV) (p:Prg) (c:Xf) (l:List Xc) (b2 b6 w T:Nat) (i:Nat) (e:Env) (O:List (Nat×AO)) (N:Nat):Prop where
 tl:Tail O N
 hM:M<=N
 st:∃S',StoreM O S' p (cfgN p c l i)/\S'.s=S.s/\∀j,S'.own j->S.own j\/M<=j
 kp:Kp (fun j=>S.own j\/Rs O0 j\/j=T\/j=b6) M O0 O
 tk:look T O=some (.tok 1 i)
 k6:look b6 O=some (.row 1 [[a8 0]])
 bad:badF p c l 0=badF p (cfgN p c l i) (l.drop i) i
 e2:look 2 e=some (.ptr b2 1 0 0)
 e6:look 6 e=some (.ptr b6 1 0 0)
 e7:look 34 e=some (.row w 9 0 l.length)
 e35:look 35 e=some (a8 l.length)
 e36:look 36 e=some (a8 i)
 e9:look 9 e=some (.app 1 ((List.range i).map fun j=>cI (idN p c l j)) T)
def CmQ (O0:List (Nat×AO)) (M:Nat) (S:SV) (p:Prg) (c:Xf) (l:List Xc) (b6 T:Nat) (r:Option (Ex×St)):Prop:=
 ∃e' S' O' N',r=some (.ret,⟨e',⟨O',N'⟩⟩)/\Tail O' N'/\M<=N'/\S'.s=S.s/\(∀j,S'.own j->S.own j\/M<=j)/\Kp (fun j=>S.own j\/Rs O0 j\/j=T\/j=b6) M O0 O'/\look 6 e'=some (.ptr b6 1 0 0)/\
  match badF p c l 0 with
  | some (k,x)=>look 4 e'=some (.Xu 1 [])/\look 5 e'=some (.int .i64 k)/\look b6 O'=some (.row 1 [[.int .i64 x]])/\∃d,StoreM O' S' p d
  | none=>look 4 e'=some (.app 1 ((List.range l.length).map fun j=>cI (idN p c l j)) T)/\look T O'=some (.tok 1 l.length)/\look 5 e'=some (.int .i64 0)/\look b6 O'=some (.row 1 [[.int .i64 0]])/\StoreM O' S' p (cfgN p c l l.length)
theorem D' (p:Prg) (f:PrgS p) (hp:p.Xn.length<2^40) {c:Xf} (v:CfgV p c) (s:CfgT c) (l:List Xc) (hl64:l.length<=64) (hl:∀o∈l,OpS o) {O0:List (Nat×AO)} {M:Nat} {S:SV} {b2 b6 w T:Nat} (F:CmF O0 M S l b2 b6 w T)
  (e:Env) (O:List (Nat×AO)) (N:Nat) (h0:CmI O0 M S p c l b2 b6 w T 0 e O N):
  CmQ O0 M S p c l b6 T (go Φ (fun o=>o) [.c (.loop c_153_l0),.b 0,.c c_153_k1] .normal ⟨e,⟨O,N⟩⟩):=by
 refine fF l.length (fun i e h=>∃O N,h=⟨O,N⟩/\CmI O0 M S p c l b2 b6 w T i e O N) _ ?_ ?_ 0 e _ (Qc _) ⟨O,N,rfl,h0⟩
 ·rintro i e _ L hi hL ⟨O,N,rfl,I⟩ ih;obtain ⟨S1,m1,es,ho⟩:=I.st;obtain ⟨vi,si⟩:=O6 v s hp l hl i;have t0:=I.tl N (Qb _);have hnx:∀j x,look j O0=some x->x≠ .res->x≠ .tok 1 0->x≠ .row 1 [[a8 0]]->¬S.own j->look j O=some x:=by
   intro j x hx h1 h2 h3 hn;refine I.kp.lk F.tl hx ?_;rintro (h | h | h | h)
   ·exact hn h
   ·have h:look j O0=some .res:=h;rw [hx] at h;exact h1 (Option.some.inj h)
   ·subst h;rw [F.ft] at hx;exact h2 (Option.some.inj hx).symm
   ·subst h;rw [F.fb6] at hx;exact h3 (Option.some.inj hx).symm
  have bw:=hnx w _ F.fw (by simp) (by simp) (by simp) F.nw;have bb:=hnx b2 _ F.fb2 (by simp) (by simp) (by simp) F.n2;have hk1:Kp (fun _=>False) N O (O++[(N,AO.row 9 [Xc.c l[i]])]):=Kp.app (fun _ _ _=>rfl) (Qb _);have m1':StoreM (O++[(N,AO.row 9 [Xc.c l[i]])]) S1 p (cfgN p c l i):=m1.kp (X:=fun _=>False) I.tl (Kp.app (fun _ _ _=>rfl) (Qb _)) (by simp);obtain ⟨S2,O2,N2,e2,x1,x2,x3,x4,x5,x6⟩:=qxt m1' f vi si (I.tl.app1 (o:=AO.row 9 [Xc.c l[i]]) (Qb N)) l[i] (hl _ (Qd hi));have hw:=aL i (by omega);rw [es] at e2 x2;have hM:=I.hM;have ho2:∀j,S2.own j->S.own j\/M<=j:=fun j hj=>by
   rcases x3 j hj with h | h
   ·exact ho j h
   ·exact .inr (by omega)
  have hkp:Kp (fun j=>S.own j\/Rs O0 j\/j=T\/j=b6) M O0 O2:=by
   intro j hj hx;have h0:look j O=look j O0:=I.kp j hj hx;rw [x4 j (by omega),hk1 j (by omega) (by simp),h0];rintro (h | h)
   ·rcases ho j h with h | h
    ·exact hx (.inl h)
    ·omega
   ·have h':look j (O++[(N,AO.row 9 [Xc.c l[i]])])=look j O:=hk1 j (by omega) (by simp);exact hx (.inr (.inl (by show look j O0=_;rw [<- h0,<- h'];exact h)))
  have kpj:∀j x,look j O=some x->x≠ .res->j<M->¬S.own j->look j O2=some x:=by
   intro j x hx hr hj hn;rw [x4 j (by omega),hk1 j (by omega) (by simp),hx];rintro (h | h)
   ·rcases ho j h with h | h
    ·exact hn h
    ·omega
   ·have h':look j (O++[(N,AO.row 9 [Xc.c l[i]])])=look j O:=hk1 j (by omega) (by simp);have:look j (O++[(N,AO.row 9 [Xc.c l[i]])])=some .res:=h;rw [h',hx] at this;exact hr (Option.some.inj this)
  have tM:=F.tl.lt F.ft;have wt:=kpj T _ I.tk (by simp) tM F.nt;have h6:look b6 O2=some (.row 1 [[a8 0]]):=kpj b6 _ I.k6 (by simp) (F.tl.lt F.fb6) F.n6;have hfr:∀t y,t<M->¬S.own t->StoreM (setl t y O2) S2 p (xoC p (cfgN p c l i) l[i]):=fun t y ht hn=>x1.fr fun j hj=>by
   rw [aB,QA];rintro rfl;rcases ho2 _ hj with h | h
   ·exact hn h
   ·omega
  have hb2:badF p (cfgN p c l i) (l.drop i) i=if xoE p (cfgN p c l i) l[i]=0 then badF p (xoC p (cfgN p c l i) l[i]) (l.drop (i+1)) (i+1) else some (i,xoE p (cfgN p c l i) l[i]):=by
   rw [Qi hi,badF]
  have hb:=I.bad;rw [hb2] at hb;simp only [Xc.ce2] at e2;by_cases zi:xoE p (cfgN p c l i) l[i]=0
  ·rw [aE zi,<- NO p c l hi] at hb;rw [zi] at e2;have hr2':List.map (fun j=>cI (idN p c l j)) (List.range (i+1))=List.map (fun j=>cI (idN p c l j)) (List.range i)++[[a8 (xoI p (cfgN p c l i) l[i])]]:=by
    rw [List.range_succ,B5,List.map_singleton];simp [idN,hi,cI]
   generalize hil:List.map (fun j=>cI (idN p c l j)) (List.range i)=il at hr2';have hill:il.length=i:=by rw [<- hil];simp
   have e9:=I.e9;rw [hil] at e9;have h8:(i+1)*8<=70368744177664:=by omega
   simp [c_153_l0,I.e2,I.e7,I.e35,I.e36,e9,hi,bw,bb,t0,aC,Xc.ce2,e2,wt,hill,h8,hw];have hbT:¬b6=T:=by
    intro h;have h1:=F.fb6;rw [h,F.ft] at h1;cases h1
   have hcs:cfgN p c l (i+1)=xoC p (cfgN p c l i) l[i]:=NO p c l hi;refine ih _ _ ⟨_,_,rfl,⟨bV x5,by omega,⟨S2,?_,x2,ho2⟩,?_,?_,?_,hb,?_,?_,?_,?_,?_,?_⟩⟩
   ·rw [hcs];exact hfr T _ tM F.nt
   ·exact hkp.setl (.inr (.inr (.inr (.inl rfl))))
   ·simp [aB,wt]
   ·rw [aB,QA hbT];exact h6
   ·simp [I.e2]
   ·simp [I.e6]
   ·simp [I.e7]
   ·simp [I.e35]
   ·simp
   ·simp [hr2']
  ·rw [QA zi] at hb;simp [c_153_l0,I.e2,I.e6,I.e7,I.e35,I.e36,hi,bw,bb,t0,aC,Xc.ce2,e2,zi,h6];refine ⟨_,S2,_,_,rfl,bV x5,by omega,x2,ho2,hkp.setl (.inr (.inr (.inr (.inr rfl)))),by simp [I.e6],?_⟩;rw [hb];exact ⟨by simp,by simp,by simp [aB,h6],_,hfr b6 _ (F.tl.lt F.fb6) F.n6⟩
 ·rintro e _ L hL ⟨O,N,rfl,I⟩;obtain ⟨S1,m1,es,ho⟩:=I.st;have hb:=I.bad;rw [DU,badF] at hb;have k6:=I.k6;simp [c_153_l0,c_153_k1,I.e6,I.e35,I.e36,I.e9,hL,k6];have hbT:¬T=b6:=by
   intro h;have h1:=F.fb6;rw [<- h,F.ft] at h1;cases h1
  have hM:=I.hM;refine ⟨_,S1,_,_,rfl,bV I.tl,I.hM,es,ho,I.kp.setl (.inr (.inr (.inr (.inr rfl)))),by simp [I.e6],?_⟩;rw [hb];refine ⟨by simp,by rw [aB,QA hbT];exact I.tk,by simp,by simp [aB,k6],m1.fr fun j hj=>?_⟩;rw [aB,QA];rintro rfl;rcases ho _ hj with h | h
  ·exact F.n6 h
  ·have:=F.tl.lt F.fb6;omega
def cmA1:Xv:=match bG.code with | .seq a _=>a | _=> .skip
def cmA2:Xv:=match bG.code with | .seq _ (.seq a _)=>a | _=> .skip
def cmA3:Xv:=match bG.code with | .seq _ (.seq _ (.seq a _))=>a | _=> .skip
def cmA4:Xv:=match bG.code with | .seq _ (.seq _ (.seq _ (.seq a _)))=>a | _=> .skip
def cmB:Xv:=match bG.code with | .seq _ (.seq _ (.seq _ (.seq _ (.dfr _ _ b))))=>b | _=> .skip
def cmO:List Xw:=[⟨some 27,none,.mkfunc (.func gR) [] [.t 6,.t 7,.t 2]⟩]
theorem X4:bG.code= .seq cmA1 (.seq cmA2 (.seq cmA3 (.seq cmA4 (.dfr cmO 27 cmB)))):=rfl
theorem cm1 {O:List (Nat×AO)} {N s:Nat} (hT:Tail O N) (w:AV):∃e,dP Φ cmA1 ⟨dI 0 [.ptr s 15 0 0,w],⟨O,N⟩⟩=some (.normal,⟨e,⟨O++[(N,.row 1 [[.ptr s 15 0 0]])]++[(N+1,.row 1 [[a8 0]])],N+2⟩⟩)/\look 1 e=some w/\look 2 e=some (.ptr N 1 0 0)/\look 6 e=some (.ptr (N+1) 1 0 0):=by
 have t0:=hT N (Qb _);have t1:=hT (N+1) (by omega);rw [GC];simp [cmA1,bG,t0,t1]
theorem cm2 {O:List (Nat×AO)} {N N' s b:Nat} {O':List (Nat×AO)} {e:Env} {s2:Nat} (hT':Tail O' N') (h:aI Φ nN [.ptr s 15 0 0] ⟨O,N⟩=some (.val (.ptr s2 15 0 0),⟨O',N'⟩)) (h2:look 2 e=some (.ptr b 1 0 0)) (hb:look b O=some (.row 1 [[.ptr s 15 0 0]])) {w x6:AV} (h1:look 1 e=some w) (h6:look 6 e=some x6):
  ∃e',dP Φ cmA2 ⟨e,⟨O,N⟩⟩=some (.normal,⟨e',⟨O'++[(N',.row 1 [[.ptr s2 15 0 0]])],N'+1⟩⟩)/\look 1 e'=some w/\look 2 e'=some (.ptr b 1 0 0)/\look 6 e'=some x6/\look 7 e'=some (.ptr N' 1 0 0):=by
 have t0:=hT' N' (Qb _);rw [GC];simp [cmA2,bG,t0,h,h2,hb,h1,h6]
theorem cm3 {O:List (Nat×AO)} {N b b7:Nat} {S:SV} {p:Prg} {c:Xf} {s2:Nat} (m:StoreM O S p c) (hl:c.rows.length=p.Xn.length) (hT:Tail O N) {e:Env} (h2:look 2 e=some (.ptr b 1 0 0)) (h7:look 7 e=some (.ptr b7 1 0 0)) (hb:look b O=some (.row 1 [[.ptr S.s 15 0 0]])) (hb7:look b7 O=some (.row 1 [[.ptr s2 15 0 0]])) {w x6:AV} (h1:look 1 e=some w) (h6:look 6 e=some x6):
  ∃e',dP Φ cmA3 ⟨e,⟨O,N⟩⟩=some (.normal,⟨e',⟨O++[(N,.row 2 [[a8 0,.Xu 1 []]])],N+1⟩⟩)/\look 1 e'=some w/\look 2 e'=some (.ptr b 1 0 0)/\look 6 e'=some x6/\look 7 e'=some (.ptr b7 1 0 0):=by
 have t0:=hT N (Qb _);have hm:=YW m hl hT;rw [GC];simp [cmA3,bG,aC,hm,h2,h7,hb,hb7,h1,h6]
theorem cm4 {O:List (Nat×AO)} {N:Nat} {l:List Xc} {e:Env} (h1:look 1 e=some (.slice 9 (l.map Xc.c))) {x6 x2 x7:AV} (h2:look 2 e=some x2) (h6:look 6 e=some x6) (h7:look 7 e=some x7) (hl:¬64<l.length):
  ∃e',dP Φ cmA4 ⟨e,⟨O,N⟩⟩=some (.normal,⟨e',⟨O,N⟩⟩)/\look 1 e'=some (.slice 9 (l.map Xc.c))/\look 2 e'=some x2/\look 6 e'=some x6/\look 7 e'=some x7:=by
 have hl':¬(64:Int)<(l.length:Int):=by omega
 rw [GC];simp [cmA4,bG,h1,h2,h6,h7,hl']
theorem cm4b {O:List (Nat×AO)} {N b6:Nat} {l:List Xc} {e:Env} (h1:look 1 e=some (.slice 9 (l.map Xc.c))) (h6:look 6 e=some (.ptr b6 1 0 0)) (hb6:look b6 O=some (.row 1 [[a8 0]])) (hl:64<l.length):
  ∃e',dP Φ cmA4 ⟨e,⟨O,N⟩⟩=some (.ret,⟨e',⟨setl b6 (.row 1 [[a8 12]]) O,N⟩⟩)/\look 4 e'=some (.Xu 1 [])/\look 5 e'=some (a8 (-1))/\look 6 e'=some (.ptr b6 1 0 0):=by
 have hl':(64:Int)<(l.length:Int):=by omega
 rw [GC];simp [cmA4,bG,h1,h6,hl',hb6]
theorem Ad {O:List (Nat×AO)} {N b6:Nat} {a7 a2:AV} (hb6:look b6 O=some (.row 1 [[a8 0]])):cloI Φ bG .niliface [.ptr b6 1 0 0,a7,a2] ⟨O,N⟩=some ⟨O,N⟩:=by
 unfold cloI;rw [GC];simp [bG,recE,hb6]
theorem B' {O:List (Nat×AO)} {N b6 b7 b2 s s2:Nat} {x:Int} {cs cs0:List AV} (hx:x≠0) (hb6:look b6 O=some (.row 1 [[a8 x]])) (hb7:look b7 O=some (.row 1 [[.ptr s2 15 0 0]])) (hb2:look b2 O=some (.row 1 [[.ptr s 15 0 0]])) (hs2:look s2 O=some (.row 15 [cs])) (hs:look s O=some (.row 15 [cs0])) (hc:cs.length=15) (hc0:cs0.length=15):
  cloI Φ bG .niliface [.ptr b6 1 0 0,.ptr b7 1 0 0,.ptr b2 1 0 0] ⟨O,N⟩=some ⟨setl s (.row 15 [cs]) O,N⟩:=by
 unfold cloI;rw [GC];have t:cs.take 15=cs:=Qo (by omega);have t2:cs0.drop 15=[]:=List.drop_eq_nil_of_le (by omega);simp [bG,recE,hb6,hx,hb7,hb2,hs2,hs,hc,hc0,t,t2]
theorem cm5 (p:Prg) (f:PrgS p) (hp:p.Xn.length<2^40) {c:Xf} (v:CfgV p c) (s:CfgT c) (l:List Xc) (hl64:l.length<=64) (hl:∀o∈l,OpS o) {O:List (Nat×AO)} {N:Nat} {S:SV} {b2 b6:Nat} {e:Env} (hT:Tail O N) (m:StoreM O S p c) (h1:look 1 e=some (.slice 9 (l.map Xc.c))) (h2:look 2 e=some (.ptr b2 1 0 0)) (h6:look 6 e=some (.ptr b6 1 0 0)) (hb2:look b2 O=some (.row 1 [[.ptr S.s 15 0 0]])) (hb6:look b6 O=some (.row 1 [[a8 0]])) (n2:¬S.own b2) (n6:¬S.own b6):
  CmQ (O++[(N,.row 9 (l.map Xc.c))]++[(N+1,.tok 1 0)]) (N+2) S p c l b6 (N+1) (dP Φ cmB ⟨e,⟨O,N⟩⟩):=by
 have t0:=hT N (Qb _);have t1:=hT (N+1) (by omega);rw [GC];have k1:l.length<4611686018427387904/\(l.length:Int)*120<=140737488355328:=by omega
 simp [cmB,bG,h1,t0,t1,k1];have own:∀j,S.own j->j<N:=fun j hj=>by
  obtain ⟨x,hx,_⟩:=m.own_lk hj;exact hT.lt hx
 have hT1:Tail (O++[(N,AO.row 9 (List.map Xc.c l)),(N+1,AO.tok 1 0)]) (N+2):=by
  have:=(hT.app1 (o:=AO.row 9 (List.map Xc.c l)) (Qb N)).app1 (o:=AO.tok 1 0) (Qb (N+1));simpa using this
 have m1:StoreM (O++[(N,AO.row 9 (List.map Xc.c l)),(N+1,AO.tok 1 0)]) S p c:=m.kp (X:=fun _=>False) hT (Kp.appL (fun _ _ _=>rfl) (by intro q hq;simp at hq;rcases hq with rfl | rfl<;>simp)) (by simp);refine D' p f hp v s l hl64 hl (b2:=b2) (w:=N) ⟨by simp [aC,hb2],by simp [aC,hb6],by simp [t0],by simp [t1],n2,n6,fun h=>by have:=own _ h;omega,fun h=>by have:=own _ h;omega,hT1⟩ _ _ _ ?_;refine ⟨hT1,Qb _,⟨S,by rw [NQ];exact m1,rfl,fun j hj=> .inl hj⟩,Kp.refl,by simp [t1],by simp [aC,hb6],by simp [NQ],?_,?_,?_,?_,?_,?_⟩<;>simp [h2,h6]
def idsA (p:Prg) (c:Xf) (l:List Xc):List (List AV):=(List.range l.length).map fun j=>cI (idN p c l j)
def U' (N:Nat) (O:List (Nat×AO)) (S:SV) (p:Prg) (c:Xf) (l:List Xc) (r:Option (Rt×AH)):Prop:=
 ∃S' O' N',S'.s=S.s/\(∀j,S'.own j->S.own j\/N<=j)/\Kp (fun j=>S.own j\/Rs O j) N O O'/\Tail O' N'/\N<=N'/\
  match badA p c l with
  | some (k,x)=>r=some (.val (.tup [.Xu 1 [],.int .i64 k,.int .i64 x]),⟨O',N'⟩)/\StoreM O' S' p c
  | none=>∃T,r=some (.val (.tup [.app 1 (idsA p c l) T,.int .i64 0,.int .i64 0]),⟨O',N'⟩)/\StoreM O' S' p (cfgN p c l l.length)/\look T O'=some (.tok 1 l.length)/\N<=T/\¬S'.own T
theorem qy5 (p:Prg) (op:p.Ok dO) (hp:p.Xn.length<2^40) {c:Xf} (v:CfgV p c) (s:CfgT c) (l:List Xc) (hl:∀o∈l,OpS o) {O:List (Nat×AO)} {N:Nat} {S:SV} (hT:Tail O N) (m:StoreM O S p c):
  U' N O S p c l (aI Φ nF [.ptr S.s 15 0 0,.slice 9 (l.map Xc.c)] ⟨O,N⟩):=by
 have f:=GE op;have own:∀j,S.own j->j<N:=fun j hj=>by
  obtain ⟨x,hx,_⟩:=m.own_lk hj;exact hT.lt hx
 rw [qzj Φ (d:=bG) rfl rfl,X4];obtain ⟨e1,a1,g1,g2,g6⟩:=cm1 (s:=S.s) hT (.slice 9 (l.map Xc.c));have t0:=hT N (Qb _);have t1:=hT (N+1) (by omega);have hT1:Tail (O++[(N,.row 1 [[.ptr S.s 15 0 0]])]++[(N+1,.row 1 [[a8 0]])]) (N+2):=(hT.app1 (Qb N)).app1 (Qb (N+1));have hk1:Kp (fun _=>False) N O (O++[(N,.row 1 [[.ptr S.s 15 0 0]])]++[(N+1,.row 1 [[a8 0]])]):=(Kp.app Kp.refl (Qb _)).app (mI _);have m1:=m.kp hT hk1 (by simp);have q2:look N (O++[(N,.row 1 [[.ptr S.s 15 0 0]])]++[(N+1,.row 1 [[a8 0]])])=some (.row 1 [[.ptr S.s 15 0 0]]):=by simp [t0]
 have q6:look (N+1) (O++[(N,.row 1 [[.ptr S.s 15 0 0]])]++[(N+1,.row 1 [[a8 0]])])=some (.row 1 [[a8 0]]):=by simp [t1]
 have rs1:∀j,j<N->Rs (O++[(N,.row 1 [[.ptr S.s 15 0 0]])]++[(N+1,.row 1 [[a8 0]])]) j->Rs O j:=fun j hj h=>by
  have:=hk1 j hj (by simp);show look j O=_;rw [<- this];exact h
 generalize O++[(N,.row 1 [[.ptr S.s 15 0 0]])]++[(N+1,.row 1 [[a8 0]])]=H1 at*;obtain ⟨S2,O2,N2,a2,m2,w2,k2,hT2,n2⟩:=UT op m1 v s hT1;obtain ⟨e2,a2',h1,h2,h6,h7⟩:=cm2 hT2 a2 g2 q2 g1 g6;have t2:=hT2 N2 (Qb _);have hk3:Kp (Rs H1) (N+2) H1 (O2++[(N2,.row 1 [[.ptr S2.s 15 0 0]])]):=k2.app (by omega);have hT3:Tail (O2++[(N2,.row 1 [[.ptr S2.s 15 0 0]])]) (N2+1):=hT2.app1 (Qb N2);have m3:=m1.kp hT1 hk3 fun j hj hr=>by
  obtain ⟨x,hx,hne⟩:=m1.own_lk hj;have hr:look j H1=some .res:=hr;rw [hx] at hr;exact hne (Option.some.inj hr)
 have m23:=m2.kp (X:=fun _=>False) hT2 (Kp.app Kp.refl (Qb N2) (o:= .row 1 [[.ptr S2.s 15 0 0]])) (by simp);have q7:look N2 (O2++[(N2,.row 1 [[.ptr S2.s 15 0 0]])])=some (.row 1 [[.ptr S2.s 15 0 0]]):=by simp [t2]
 have r2:=hk3.lk hT1 q2 (by intro h;have h:look N H1=some .res:=h;rw [q2] at h;cases h);have r6:=hk3.lk hT1 q6 (by intro h;have h:look (N+1) H1=some .res:=h;rw [q6] at h;cases h);have own2:∀j,S2.own j->j<N2:=fun j hj=>by
  obtain ⟨x,hx,_⟩:=m2.own_lk hj;exact hT2.lt hx
 generalize O2++[(N2,.row 1 [[.ptr S2.s 15 0 0]])]=H3 at*;obtain ⟨e3,a3,h1,h2,h6,h7⟩:=cm3 m3 v.rl hT3 h2 h7 r2 q7 h1 h6;have hk4:Kp (fun _=>False) (N2+1) H3 (H3++[(N2+1,.row 2 [[a8 0,.Xu 1 []]])]):=Kp.app Kp.refl (Qb _);have hT4:Tail (H3++[(N2+1,.row 2 [[a8 0,.Xu 1 []]])]) (N2+2):=hT3.app1 (Qb _);have m4:=m3.kp hT3 hk4 (by simp);have m24:=m23.kp hT3 hk4 (by simp);have q7:=hk4.lk hT3 q7 (by simp);have r2:=hk4.lk hT3 r2 (by simp);have r6:=hk4.lk hT3 r6 (by simp);have hkO:Kp (Rs O) N O (H3++[(N2+1,.row 2 [[a8 0,.Xu 1 []]])]):=by
  intro j hj hx;rw [hk4 j (by omega) (by simp),hk3 j (by omega) (fun h=>hx (rs1 j hj h)),hk1 j hj (by simp)]
 generalize H3++[(N2+1,.row 2 [[a8 0,.Xu 1 []]])]=H4 at*;by_cases z:64<l.length
 ·obtain ⟨e4,a4,i4,i5,i6⟩:=cm4b (N:=N2+2) h1 h6 r6 z;have hb:badA p c l=some (-1,12):=by simp [badA,(ID p c).2 v,z]
  simp only [uR,a1,a2',a3,a4];refine ⟨S,setl (N+1) (.row 1 [[a8 12]]) H4,N2+2,rfl,fun j hj=> .inl hj,(hkO.mono fun j _ h=> .inr h).setl (.inl (mI N)),bV hT4,by omega,?_⟩;rw [hb];refine ⟨?_,m4.fr fun j hj=>?_⟩
  ·simp [vW,bG,i4,i5,i6,aB,r6]
  ·have:=own j hj;rw [aB,QA (by omega)]
 ·obtain ⟨e4,a4,h1,h2,h6,h7⟩:=cm4 (O:=H4) (N:=N2+2) h1 h2 h6 h7 z;have a5:bJ (aI Φ) none cmO ⟨e4,⟨H4,N2+2⟩⟩=some (.normal,⟨(27,.func (.func gR) [] [.ptr (N+1) 1 0 0,.ptr N2 1 0 0,.ptr N 1 0 0])::e4,⟨H4,N2+2⟩⟩):=by
   simp [cmO,bJ,gG,h2,h6,h7]
  have B:=cm5 p f hp v s l (by omega) hl (e:=(27,.func (.func gR) [] [.ptr (N+1) 1 0 0,.ptr N2 1 0 0,.ptr N 1 0 0])::e4) (b2:=N) (b6:=N+1) hT4 m4 (by simp [h1]) (by simp [h2]) (by simp [h6]) r2 r6 (fun h=>by have:=own _ h;omega) (fun h=>by have:=own _ h;omega);have hk5:Kp (fun _=>False) (N2+2) H4 (H4++[(N2+2,.row 9 (l.map Xc.c))]++[(N2+2+1,.tok 1 0)]):=(Kp.app Kp.refl (Qb _)).app (mI _);have m25:=m24.kp hT4 hk5 (by simp);have q75:=hk5.lk hT4 q7 (by simp);have r25:=hk5.lk hT4 r2 (by simp);have hT5:Tail (H4++[(N2+2,.row 9 (l.map Xc.c))]++[(N2+2+1,.tok 1 0)]) (N2+4):=(hT4.app1 (Qb _)).app1 (Qb _);have hkO5:Kp (Rs O) N O (H4++[(N2+2,.row 9 (l.map Xc.c))]++[(N2+2+1,.tok 1 0)]):=by
   intro j hj hx;rw [hk5 j (by omega) (by simp),hkO j hj hx]
  generalize H4++[(N2+2,.row 9 (l.map Xc.c))]++[(N2+2+1,.tok 1 0)]=H5 at*;obtain ⟨e',S',O',N',hr,hT',hN',es,ho,hk,h6',hm⟩:=B;simp only [uR,a1,a2',a3,a4,a5];rw [hr];have hcl:(look 27 ((27,AV.func (.func gR) [] [.ptr (N+1) 1 0 0,.ptr N2 1 0 0,.ptr N 1 0 0])::e4)).bind tgt=some (gR,[.ptr (N+1) 1 0 0,.ptr N2 1 0 0,.ptr N 1 0 0]):=by simp
  rw [hcl];simp only [show bG.clo=gR from rfl,show bG.ncaps=3 from rfl,BU,w8,and_self,if_true,LB];have hbA:badA p c l=(badF p c l 0).map fun x=>((x.1:Int),x.2):=by simp [badA,(ID p c).2 v,z]
  have hkN:Kp (fun j=>S.own j\/Rs O j) N O O':=by
   intro j hj hx;rw [hk j (by omega) ?_,hkO5 j hj fun h=>hx (.inr h)];rintro (h | h | h | h)
   ·exact hx (.inl h)
   ·have h:look j H5=some .res:=h;rw [hkO5 j hj fun h=>hx (.inr h)] at h;exact hx (.inr h)
   ·omega
   ·omega
  cases hb:badF p c l 0 with
  | some x=>
   obtain ⟨k,x⟩:=x;rw [hb] at hm hbA;obtain ⟨j4,j5,j6,d,md⟩:=hm;have hx:=Fg hb;have kp2:∀j y,look j H5=some y->y≠ .res->N+1<j->j<N2+3->look j O'=some y:=fun j y hy hr h1 h2=>by
    refine hk.lk hT5 hy ?_;rintro (h | h | h | h)
    ·have:=own j h;omega
    ·have h:look j H5=some .res:=h;rw [hy] at h;exact hr (Option.some.inj h)
    ·omega
    ·omega
   have y7:=kp2 N2 _ q75 (by simp) (by omega) (by omega);have y2:look N O'=some (.row 1 [[.ptr S.s 15 0 0]]):=hk.lk hT5 r25 (by
    rintro (h | h | h | h)
    ·have:=own _ h;omega
    ·have h:look N H5=some .res:=h;rw [r25] at h;cases h
    ·omega
    ·omega)
   have m26:StoreM O' S2 p c:=m25.fr fun j hj=>by
    obtain ⟨y,hy,hne⟩:=m25.own_lk hj;have:=w2 j hj;have:=own2 j hj;rw [kp2 j y hy hne (by omega) (by omega),hy]
   have ys:=md.s;rw [es] at ys;have hcl:∀S:SV,(S.cells p).length=15:=fun S=>by simp [SV.cells,Prg.e]
   have cl:=B' (O:=O') (N:=N') hx j6 y7 y2 m26.s ys (hcl _) (hcl _);rw [cl];refine ⟨{ S2 with s:=S.s },setl S.s (.row 15 [S2.cells p]) O',N',rfl,?_,?_,bV hT',by omega,?_⟩
   ·rintro j (rfl | hj)
    ·exact .inl (.inl rfl)
    ·have:=w2 j (.inr hj);exact .inr (by omega)
   ·exact hkN.setl (.inr (.inl (.inl rfl)))
   ·rw [hbA];refine ⟨?_,?_⟩
    ·have n1:¬N+1=S.s:=by have:=own _ (.inl rfl);omega
     simp [vW,bG,j4,j5,j6,h6',aB,n1]
    ·have n1:=own _ (Or.inl (rfl:S.s=S.s));refine ⟨by simp only [aB,if_true,ys,vK];rfl,m26.cm.fr fun j hj=>?_,m26.x.fr fun j hj=>?_,m26.ri,m26.ni⟩
     ·have:=w2 j (.inr (.inl hj));rw [aB,QA (by omega)]
     ·have:=w2 j (.inr (.inr hj));rw [aB,QA (by omega)]
  | none=>
   rw [hb] at hm hbA;obtain ⟨j4,jT,j5,j6,md⟩:=hm;rw [Ad j6];refine ⟨S',O',N',es,fun j hj=>(ho j hj).imp id fun h=>by omega,hkN,hT',by omega,?_⟩;rw [hbA];refine ⟨N2+3,?_,md,jT,by omega,fun h=>?_⟩
   ·simp [vW,bG,j4,j5,j6,h6',idsA]
   ·rcases ho _ h with h | h
    ·have:=own _ h;omega
    ·omega
theorem UX (p:Prg) (op:p.Ok dO) (hc:PC p) (hp:p.Xn.length<2^40) {c:Xf} (s:CfgT c) (l:List Xc) (hl:∀o∈l,OpS o):
  aA Φ I4 [.agg (Prg.c p),.agg (Xf.c c),.slice 9 (l.map Xc.c)]=some (.val (appA p c l)):=by
 rw [aD rfl rfl];obtain ⟨q0,q1,q2,q3,hC,hq,hq2⟩:=cfg4 c;have hT0:Tail [(0,AO.row 4 [[.Xu 1 [],.Xu 1 [],.Xu 2 [],.Xu 1 []]])] 1:=(Tail.nil 0).app1 (Qb 0);rcases XK p op hc c s hT0 with ⟨z,e⟩ | ⟨z,S,O1,N1,e,m1,w1,hk1,hT1,hN1⟩
 ·have hb:badA p c l=some (-1,cfgE p c):=by simp [badA,z]
  rw [show appA p c l= .tup [.agg noC,.slice 1 [],a8 (-1),a8 (cfgE p c)] by simp only [appA,hb]];rw [hC] at e ⊢;simp only [Prg.e] at e;simp [C8,Prg.e,e,hq,hq2,z,noC]
 ·have v:=(ID p c).1 z;have r0:look 0 O1=some (.row 4 [[.Xu 1 [],.Xu 1 [],.Xu 2 [],.Xu 1 []]]):=hk1.lk hT0 rfl (by intro h;cases h);have n0:¬S.own 0:=fun h=>by have:=w1 0 h;omega
  obtain ⟨S2,O2,N2,es,ho,hk2,hT2,hN2,hm⟩:=qy5 p op hp v s l hl hT1 m1;have r02:look 0 O2=some (.row 4 [[.Xu 1 [],.Xu 1 [],.Xu 2 [],.Xu 1 []]]):=hk2.lk hT1 r0 (by
   rintro (h | h)
   ·exact n0 h
   ·have h:look 0 O1=some .res:=h;rw [r0] at h;cases h)
  cases hb:badA p c l with
  | some x=>
   obtain ⟨k,x⟩:=x;rw [hb] at hm;obtain ⟨e2,-⟩:=hm;have hx:=RP hb;rw [show appA p c l= .tup [.agg noC,.slice 1 [],a8 k,a8 x] by simp only [appA,hb]];rw [hC] at e ⊢;simp only [Prg.e] at e;simp [C8,Prg.e,e,e2,hq,hq2,hx,noC,r02,aB]
  | none=>
   rw [hb] at hm;obtain ⟨T,e2,m2,hTk,hTN,hTo⟩:=hm;obtain ⟨v',s'⟩:=O6 v s hp l hl l.length;obtain ⟨u1,u2,u3,u4,U,O3,N3,e3,n3,w3,hk3,hT3,hN3⟩:=qy6 (v'.u s') hT2 m2;rw [es] at e3;have r03:=hk3.lk hT2 r02 (by simp);have hT3k:=hk3.lk hT2 hTk (by simp);rw [show appA p c l= .tup [.agg (Xf.c (cfgN p c l l.length)),.slice 1 (idsA p c l),a8 0,a8 0] by simp only [appA,hb];rfl];have hil:(idsA p c l).length=l.length:=by simp [idsA]
   have T0:¬T=0:=by omega
   simp only [Prg.e,Xf.ce c] at e;generalize idsA p c l=il at*;have n3':CfgM (setl 0 (AO.row 4 [[u1,u2,u3,u4]]) O3) u1 u2 u3 u4 U (cfgN p c l l.length):=n3.fr fun j hj=>by
    have:=w3 j hj;rw [aB,QA (by omega)]
   have a1:=n3'.snpR (n:=34) (N:=N3);have a2:=n3'.snpN (n:=34) (N:=N3);have a3:=n3'.snpD (n:=34) (N:=N3);have a4:=n3'.snpG (n:=34) (N:=N3);simp [C8,Prg.e,e,e2,e3,r03,aB,a1,a2,a3,a4,Xf.ce]
def updP (p:Prg) (V:NetV) (a:Act):NetV×Int:=
 if a.a<1\/3<a.a\/a.b<0 then (V,9)
 else if a.upd.switch<0\/(V.cs.length:Int)<=a.upd.switch then (V,8)
 else match badA p (V.cs.getD a.upd.switch.toNat default) a.upd.ops with
  | some x=>(V,x.2)
  | none=>(NetV.ev { V with cs:=V.cs.set a.upd.switch.toNat (cfgN p (V.cs.getD a.upd.switch.toNat default) a.upd.ops a.upd.ops.length) } ⟨5,a.a,a.b,0⟩,0)
def updV (V:NetV) (a:Act):NetV×Int:=updP pF V a
theorem qrw {p:Prg} (hpr:aA Φ lR []=some (.val (.agg (Prg.c p)))) (f:PrgS p) (hv:∀t∈p.Xn,∀v∈t.Yc.args,ok32 0 v) (hc0:PC p) (hp:p.Xn.length<2^40) (V:NetV) (a:Act) (s:NetS V) (hc:∀c∈V.cs,CfgT c) (hll:a.upd.ops.length<2^40) (hl:∀o∈a.upd.ops,OpS o):aA Φ uJ [.agg V.r,a8 a.a,a8 a.b,.agg [a8 a.upd.switch,.slice 9 (a.upd.ops.map Xc.c)]]=some (.val (.tup [.agg (updP p V a).1.r,a8 (updP p V a).2])):=by
 rw [aD rfl rfl];unfold updP;by_cases z:a.a<1\/3<a.a\/a.b<0
 ·by_cases z1:a.a<1
  ·simp [mZ,NetV.re,z1]
  by_cases z2:3<a.a
  ·simp [mZ,NetV.re,z1,z2]
  have z3:a.b<0:=by omega
  simp [mZ,NetV.re,z1,z2,z3]
 simp only [not_or] at z;obtain ⟨z1,z2,z3⟩:=z;by_cases z4:a.upd.switch<0
 ·simp [mZ,NetV.re,z1,z2,z3,z4]
 obtain ⟨k,hk⟩:=fP (show 0<=a.upd.switch by omega);by_cases z5:V.cs.length<=k
 ·simp [mZ,NetV.re,z1,z2,z3,hk,z5]
 have hkl:k<V.cs.length:=by omega
 have h1:=U5 p f hv hc0 hp (hc _ (Qd hkl)) a.upd.ops hll hl;have hgd:V.cs[k]?.getD default=V.cs[k]:=by simp [hkl]
 have hcl:=s.c;cases hA:badA p V.cs[k] a.upd.ops with
 | some x=>
  obtain ⟨j,e⟩:=x;have he:=RP hA;rw [show appA p V.cs[k] a.upd.ops= .tup [.agg noC,.slice 1 [],a8 j,a8 e] by simp only [appA,hA]] at h1;rw [Xf.e4] at h1;simp only [Prg.e] at h1 hpr;simp [mZ,NetV.re,z1,z2,z3,hk,z5,hkl,hgd,hpr,h1,noC,hA,he,Xf.e4,Prg.e]
 | none=>
  rw [show appA p V.cs[k] a.upd.ops= .tup [.agg (Xf.c (cfgN p V.cs[k] a.upd.ops a.upd.ops.length)),.slice 1 (idsA p V.cs[k] a.upd.ops),a8 0,a8 0] by simp only [appA,hA];rfl] at h1;obtain ⟨c',hc'⟩:∃c',cfgN p V.cs[k] a.upd.ops a.upd.ops.length=c':=⟨_,rfl⟩;rw [hc'] at h1;have hlg:=s.g;have b2:V.log.length*32<=70368744177664:=by omega
  have b3:(V.log.length+1)*32<=70368744177664:=by omega
  have n1:¬V.cs=[]:=by intro h;rw [h] at hkl;simp at hkl
  have b1:V.cs.length*96<=70368744177664:=by omega
  have a4:=alC V.cs;rw [Xf.e4,Xf.e4] at h1;simp only [Prg.e] at h1 hpr;simp [mZ,NetV.re,z1,z2,z3,hk,z5,hkl,hgd,hpr,h1,hA,hc',b1,a4,n1,b2,b3,al4,iD,NX hkl,NH,lP,NetV.ev,Event.c,Xf.e4,Prg.e]
theorem qqf (V:NetV) (a:Act) (s:NetS V) (hc:∀c∈V.cs,CfgT c) (hll:a.upd.ops.length<2^40) (hl:∀o∈a.upd.ops,OpS o):aA Φ uJ [.agg V.r,a8 a.a,a8 a.b,.agg [a8 a.upd.switch,.slice 9 (a.upd.ops.map Xc.c)]]=some (.val (.tup [.agg (updV V a).1.r,a8 (updV V a).2])):=
 qrw KS (GE LF) ST pcF (by decide) V a s hc hll hl
section
variable {O:List (Nat×AO)} {n N g:Nat} {V:NetV} {C:Nat} {pv lv:AV} {H:List AV} {X:Nat->Prop} {p:Prg}
theorem VW (hpr:aA Φ A2 []=some (.val (.agg (Prg.c p)))) (op:p.Ok dO) (hc0:PC p) (hp:p.Xn.length<2^40) (m:NetM O n V (.func (.func g) [] []) C pv lv H) (hX:∀j,NetM.own n C pv lv H j->X j) (hT:Tail O N) (s:NetS V) (hc:∀c∈V.cs,CfgT c) (a:Act) (hl:∀o∈a.upd.ops,OpS o):
  NP X N O n (.func (.func g) [] []) (updP p V a).1 (a8 (updP p V a).2) (aI Φ oF [.ptr n 7 0 0,a8 a.a,a8 a.b,.agg [a8 a.upd.switch,.slice 9 (a.upd.ops.map Xc.c)]] ⟨O,N⟩):=by
 rw [dA rfl rfl];have h:=m.row;have hm:=fun O N=>KP (O:=O) (N:=N) (n:=n) (V:=V) (cv:= .row C 4 0 V.cs.length) (pv:=pv) (lv:=lv) (g:=g)
 rw [jH] at h hm;have t0:=hT N (Qb _);have hn:=hT.lt h;have q0:¬N=n/\¬n=N:=by omega
 obtain ⟨q1,q2⟩:=q0;have hR:∀(v:Int) (y:AO),NP X N O n (.func (.func g) [] []) V (a8 v) (some (.val (a8 v),⟨O++[(N,y)],N+1⟩)):=fun v y=>⟨_,_,rfl,⟨C,pv,lv,H,m.mn Mn.app,fun j hj=> .inl (hX j hj)⟩,(Fw.init hT).app (Qb _) (vJ _) (mI _)⟩
 unfold updP;by_cases z:a.a<1\/3<a.a\/a.b<0
 ·rw [aE z];by_cases z1:a.a<1
  ·simp [mY,hm,h,t0,q1,q2,aC,aB,z1];exact hR _ _
  by_cases z2:3<a.a
  ·simp [mY,hm,h,t0,q1,q2,aC,aB,z1,z2];exact hR _ _
  have z3:a.b<0:=by omega
  simp [mY,hm,h,t0,q1,q2,aC,aB,z1,z2,z3];exact hR _ _
 rw [QA z];simp only [not_or] at z;obtain ⟨z1,z2,z3⟩:=z;by_cases z4:a.upd.switch<0
 ·simp [mY,hm,h,t0,q1,q2,aC,aB,z1,z2,z3,z4];exact hR _ _
 obtain ⟨k,hk⟩:=fP (show 0<=a.upd.switch by omega);by_cases z5:V.cs.length<=k
 ·simp [mY,hm,h,t0,q1,q2,aC,aB,z1,z2,z3,hk,z5];exact hR _ _
 have hkl:k<V.cs.length:=by omega
 have h1:=UX p op hc0 hp (hc _ (Qd hkl)) a.upd.ops hl;have hgd:V.cs[k]?.getD default=V.cs[k]:=by simp [hkl]
 have hC:=m.cf;have hT':∀k,look (N+1+k) O=none:=fun k=>hT (N+1+k) (by omega)
 have ltC:=hT.lt hC;have u1:C≠n:=aP hC m.row (by simp);have u2:=u1.symm;have q3:¬N=C/\¬C=N:=by omega
 obtain ⟨q5,q6⟩:=q3;have q7:∀k,¬N+1+k=n:=fun k=>by omega
 have q8:∀k,¬n=N+1+k:=fun k=>by omega
 have q11:∀k,¬N+1+k=C:=fun k=>by omega
 have q12:∀k,¬C=N+1+k:=fun k=>by omega
 have q13:∀k,¬N=N+1+k:=fun k=>by omega
 have q14:∀k,¬N+1+k=N:=fun k=>by omega
 have q15:∀k,(n == N+1+k)=false:=fun k=>by simp;omega
 have q17:∀k,(C == N+1+k)=false:=fun k=>by simp;omega
 have q16:∀k,(N == N+1+k)=false:=fun k=>by simp;omega
 have hfw:∀y z,Fw X N O (bW (N+1+9) (bZ (O++[(N,y),(N+1+9,z)]))) (N+1+9+1):=fun y z=>by
  refine ((Fw.appL (N2:=N+1+9+1) (Fw.init hT) ?_ (by omega)).sweep.drop (.inr (by omega)));intro p hp;simp at hp;rcases hp with rfl | rfl<;>refine ⟨?_,?_⟩<;>simp only<;>omega
 cases hA:badA p V.cs[k] a.upd.ops with
 | some x=>
  obtain ⟨j,e⟩:=x;have he:=RP hA;rw [show appA p V.cs[k] a.upd.ops= .tup [.agg noC,.slice 1 [],a8 j,a8 e] by simp only [appA,hA]] at h1;rw [Xf.e4] at h1;simp only [Prg.e] at h1 hpr;simp [mY,hm,h,hC,t0,q1,q2,aC,aB,aR,bK,hT',u1,u2,q5,q6,q7,q8,q11,q12,q13,q14,q15,q16,q17,z1,z2,z3,hk,z5,hkl,hgd,hpr,h1,noC,hA,he,Xf.e4,Prg.e];refine ⟨_,_,rfl,⟨C,pv,lv,H,m.fr fun j hj=>?_,fun j hj=> .inl (hX j hj)⟩,hfw _ _⟩;obtain ⟨y,hy,hyr⟩:=m.nr hj;have hjN:=hT.lt hy;have j1:∀k,¬j=N+1+k:=fun k=>by omega
  simp [bK,j1,aR,aC,hy,hyr]
 | none=>
  rw [show appA p V.cs[k] a.upd.ops= .tup [.agg (Xf.c (cfgN p V.cs[k] a.upd.ops a.upd.ops.length)),.slice 1 (idsA p V.cs[k] a.upd.ops),a8 0,a8 0] by simp only [appA,hA];rfl] at h1;obtain ⟨c',hc'⟩:∃c',cfgN p V.cs[k] a.upd.ops a.upd.ops.length=c':=⟨_,rfl⟩;rw [hc'] at h1;rw [Xf.e4,Xf.e4] at h1;simp only [Prg.e] at h1 hpr;simp [mY,hm,h,hC,t0,q1,q2,aC,aB,aR,bK,hT',u1,u2,q5,q6,q7,q8,q11,q12,q13,q14,q15,q16,q17,z1,z2,z3,hk,z5,hkl,hgd,hpr,h1,hA,hc',Xf.e4,Prg.e];have m2:=m.setC (k:=k) (c:=c') (O':=setl C (AO.row 4 ((V.cs.map Xf.c).set k (Xf.c c'))) (bW (N+1+9) (bZ (O++[(N,AO.row 2 [[AV.int IntKind.i64 ↑k,AV.slice 9 (List.map Xc.c a.upd.ops)]]),(N+1+9,AO.row 4 [[AV.slice 1 (List.map (cS 5 Rw.c) c'.rows),AV.slice 1 (List.map cI c'.Xr),AV.slice 2 (List.map Xb.c c'.Xq),AV.slice 1 (List.map (cS 1 c32) c'.Xm)]])])))) (by simp [aB,bK,q12,aR,aC,hC]) (fun j y hj hy hne=>by
   have hjN:=hT.lt hj;have j1:∀k,¬j=N+1+k:=fun k=>by omega
   simp [aB,hne,bK,j1,aR,aC,hj,hy])
  have f2:=(hfw (AO.row 2 [[AV.int IntKind.i64 ↑k,AV.slice 9 (List.map Xc.c a.upd.ops)]]) (AO.row 4 [[AV.slice 1 (List.map (cS 5 Rw.c) c'.rows),AV.slice 1 (List.map cI c'.Xr),AV.slice 2 (List.map Xb.c c'.Xq),AV.slice 1 (List.map (cS 1 c32) c'.Xm)]])).set (t:=C) (y:=AO.row 4 ((V.cs.map Xf.c).set k (Xf.c c'))) (.inl (hX C (.inr (.inl rfl))));rw [Xf.e4] at m2 f2;refine KI m2 f2.tl s.g ?_;intro O' N' lv' m' hl' hk' hT2 hN;simp;exact ⟨_,_,rfl,⟨C,pv,lv',H,m',OI hX hl' (by omega)⟩,f2.then hk' (OJ hX) hT2 hN⟩
theorem Dw (m:NetM O n V (.func (.func g) [] []) C pv lv H) (hX:∀j,NetM.own n C pv lv H j->X j) (hT:Tail O N) (s:NetS V) (hc:∀c∈V.cs,CfgT c) (a:Act) (hl:∀o∈a.upd.ops,OpS o):
  NP X N O n (.func (.func g) [] []) (updV V a).1 (a8 (updV V a).2) (aI Φ oF [.ptr n 7 0 0,a8 a.a,a8 a.b,.agg [a8 a.upd.switch,.slice 9 (a.upd.ops.map Xc.c)]] ⟨O,N⟩):=
 VW Oq LF pcF (by decide) m hX hT s hc a hl
end
theorem NetJ.upd {k:Nat} {V:NetV} (j:NetJ (fun c=>CfgV pF c/\CfgT c) k V) (a:Act) (hl:∀o∈a.upd.ops,OpS o):NetJ (fun c=>CfgV pF c/\CfgT c) (k+1) (updV V a).1:=by
 unfold updV updP;split
 ·exact j.up
 split
 ·exact j.up
 split
 ·exact j.up
 rename_i h1 h2 _ _;have hs:a.upd.switch.toNat<V.cs.length:=by omega
 have hg:V.cs.getD a.upd.switch.toNat default=V.cs[a.upd.switch.toNat]:=by simp [hs]
 rw [hg];obtain ⟨v,t⟩:=j.cg _ (Qd hs);have hN:=O6 v t (by decide) a.upd.ops hl a.upd.ops.length;refine ⟨by have:=j.kk;simp [NetV.ev];omega,by have:=j.g;simp [NetV.ev];omega,fun x hx=>by have:=j.hp x hx;omega,j.top,by simp [NetV.ev,j.cl],?_,fun x hx=>by simpa [NetV.ev] using j.pk x hx⟩;intro c hc;simp only [NetV.ev] at hc;rcases Qq hc with hc | rfl
 ·exact j.cg c hc
 ·exact hN
def eF (b:Bool) (k0 t0 t1 f0 f1 f2 m0 m1 m2 m3:Int) (pay:List Int):Envt:=⟨[true,b,true],[[k0],[t0,t1],[f0,f1,f2]],[m0,m1,m2,m3],pay⟩
theorem wrU32 {x:Int} (h:0<=x) (h2:x<=4294967295):IntKind.wrap .u32 x=x:=by
 simp [IntKind.wrap,IntKind.bits,IntKind.signed];omega
theorem TV (v:Int) (hv:ok32 0 v) (k:Nat) (hk:k<=32):aA Φ rX [.int .u32 v,a8 k]=some (.val (.int .u32 (v % 2^k))):=by
 rw [aD rfl rfl];have hv1:=hv.1;have hv2:=hv.2;have hc:IntKind.wrap .u64 v=v:=GL (by omega) (by omega);have hp0:(0:Int)<2^k:=Int.pow_pos (by decide);have hm0:=Int.emod_nonneg v (Int.ne_of_gt hp0);have hm1:v % 2^k<=v:=by have:=Int.emod_lt_of_pos v hp0;by_cases q:v<2^k;rw [Int.emod_eq_of_lt hv1 q];omega;omega
 have hc2:IntKind.wrap .u32 (v % 2^k)=v % 2^k:=wrU32 hm0 (by omega);have ht:Int.tmod v (2^k)=v % 2^k:=JM hv1;have hz:¬((2:Int)^k=0):=Int.ne_of_gt hp0;have hc3:IntKind.wrap .u64 (v % 2^k)=v % 2^k:=GL (by omega) (by omega);generalize hX:v % 2^k=X;simp [EF];refine (iJ k (fun i e=>look 0 e=some (.int .u32 v)/\look 1 e=some (a8 k)/\look 5 e=some (.int .u64 (2^i))/\look 6 e=some (a8 i)) (fun i=>some (Rt.val (.int .u32 X))) ?_ ?_ 0 _ (Qc _) ?_).trans (by simp)
 ·rintro i e L hi hL ⟨h0,h1,h5,h6⟩ ih;have hw:=aL i (by omega);have hp:=S5 (i:=i) (by omega);simp [c_195_l0,h1,h5,h6,hi,hw,hp];exact ih _ ⟨by simp [h0],by simp [h1],by simp,by simp⟩
 ·rintro e L hL ⟨h0,h1,h5,h6⟩;simp [c_195_l0,c_195_k1,h0,h1,h5,h6,hL,hc,hz,ht,hc2,hc3,<- hX]
 ·simp
theorem Oe (e:Envt) (h f:Int):aA Φ rV [.agg (Envt.c e),.agg [a8 h,a8 f]]=some (.val (.bool (if h= -1 then (at? e.metaF f).isSome else ((at? e.Ya h).bind fun l=>at? l f).isSome))):=by
 rw [aD rfl rfl];by_cases hm:h= -1
 ·subst hm;by_cases f0:f<0
  ·have:¬0<=f:=by omega
   simp [fR,Envt.c,this,p6 f0]
  by_cases f1:(e.metaF.length:Int)<=f
  ·have h1:0<=f:=by omega
   have h2:¬f<e.metaF.length:=by omega
   simp [fR,Envt.c,h1,h2,p5 f1]
  obtain ⟨k,rfl⟩:=fP (show 0<=f by omega);have hk:k<e.metaF.length:=by omega
  simp [fR,Envt.c,hk]
 by_cases h0:h<0
 ·have:¬0<=h:=by omega
  simp [fR,Envt.c,hm,this,p6 h0]
 by_cases h1:(e.Ya.length:Int)<=h
 ·have h2:0<=h:=by omega
  have h3:¬h<e.Ya.length:=by omega
  simp [fR,Envt.c,hm,h2,h3,p5 h1]
 obtain ⟨m,rfl⟩:=fP (show 0<=h by omega);have hmk:m<e.Ya.length:=by omega
 by_cases f0:f<0
 ·have:¬0<=f:=by omega
  simp [fR,Envt.c,hm,hmk,this,p6 f0,cS]
 by_cases f1:(e.Ya[m].length:Int)<=f
 ·have h1:0<=f:=by omega
  have h2:¬f<e.Ya[m].length:=by omega
  simp [fR,Envt.c,hm,hmk,h1,h2,p5 f1,cS]
 obtain ⟨k,rfl⟩:=fP (show 0<=f by omega);have hk:k<e.Ya[m].length:=by omega
 simp [fR,Envt.c,hm,hmk,hk,cS]
theorem Py (e:Envt) (h:Int):aA Φ rW [.agg (Envt.c e),a8 h]=some (.val (.bool ((at? e.valid h).getD false))):=by
 rw [aD rfl rfl];by_cases h0:h<0
 ·have:¬0<=h:=by omega
  simp [qU,Envt.c,this,p6 h0]
 by_cases h1:(e.valid.length:Int)<=h
 ·have h2:0<=h:=by omega
  have h3:¬h<e.valid.length:=by omega
  simp [qU,Envt.c,h2,h3,p5 h1]
 obtain ⟨m,rfl⟩:=fP (show 0<=h by omega);have hmk:m<e.valid.length:=by omega
 simp [qU,Envt.c,hmk,cB]
def eGet (e:Envt) (h f:Int):Int:=if h= -1 then (at? e.metaF f).getD 0 else if (at? e.valid h).getD false then ((at? e.Ya h).bind fun l=>at? l f).getD 0 else 0
theorem Envt.ce (e:Envt):e.c=[.slice 1 (e.valid.map cB),.slice 1 (e.Ya.map (cS 1 c32)),.slice 1 (e.metaF.map c32),.slice 1 (e.payload.map c8)]:=rfl
theorem RO {α:Type} {l:List α} {i:Int} {x:α} (h:at? l i=some x):∃k:Nat,i=k/\∃hk:k<l.length,l[k]=x:=by
 unfold at? at h;split at h
 ·cases h
 ·obtain ⟨hk,e⟩:=Qm.1 h;exact ⟨i.toNat,by omega,hk,e⟩
theorem Aq (e:Envt) (h f:Int):aA Φ zH [.agg (Envt.c e),.agg [a8 h,a8 f]]=some (.val (.int .u32 (eGet e h f))):=by
 rw [aD rfl rfl];have h1:=Oe e h f;have h2:=Py e h;rw [Envt.ce] at h1 h2;unfold eGet;by_cases hm:h= -1
 ·rw [aE hm] at h1 ⊢;subst hm;cases q:at? e.metaF f with
  | none=>
   rw [q] at h1;simp [kN,Envt.ce,h1]
  | some v=>
   obtain ⟨k,rfl,hk,rfl⟩:=RO q;rw [q] at h1;simp [kN,Envt.ce,h1,hk,c32]
 rw [QA hm] at h1 ⊢;cases q:(at? e.Ya h).bind fun l=>at? l f with
 | none=>
  rw [q] at h1;simp [kN,Envt.ce,h1]
 | some v=>
  rw [q] at h1;obtain ⟨l,q1,q2⟩:=Qt.1 q;obtain ⟨m,rfl,hmk,rfl⟩:=RO q1;obtain ⟨k,rfl,hk,rfl⟩:=RO q2;cases z:(at? e.valid (m:Int)).getD false with
  | false=>
   rw [z] at h2;simp [kN,Envt.ce,h1,h2,hm]
  | true=>
   rw [z] at h2;simp [kN,Envt.ce,h1,h2,hm,hmk,hk,c32,cS]
theorem Cq (a:AV) (h:AH):aI Φ cC [a] h=go Φ (finC iU.results) [.c iU.body] .normal ⟨dI 0 [a],h⟩:=dA rfl rfl
def eSet (h f:Int) (v:Int) (e:Envt):Envt:=
 if h= -1 then { e with metaF:=e.metaF.set f.toNat v } else if (at? e.valid h).getD false then { e with Ya:=e.Ya.set h.toNat ((e.Ya.getD h.toNat []).set f.toNat v) } else e
section
variable (p:Prg) (b:Bool) (k0 t0 t1 f0 f1 f2 m0 m1 m2 m3:Int) (pay:List Int)
theorem fSet (h f:Int) (w:Nat) (hw:wid p h f=w) (hw1:1<=w) (hw2:w<=32) (v:Int) (hv:ok32 0 v) (hpl:pay.length<2^40)
  (hr:(h= -1/\(f=0\/f=1\/f=2\/f=3))\/(h=0/\f=0)\/(h=1/\(f=0\/f=1))):
  aA Φ iX [.agg (Prg.c p),.agg (eF b k0 t0 t1 f0 f1 f2 m0 m1 m2 m3 pay).c,.agg [a8 h,a8 f],.int .u32 v]=some (.val (.agg (eSet h f (v % 2^w) (eF b k0 t0 t1 f0 f1 f2 m0 m1 m2 m3 pay)).c)):=by
 rw [aD rfl rfl];have h1:=Oe (eF b k0 t0 t1 f0 f1 f2 m0 m1 m2 m3 pay) h f;have h2:=Py (eF b k0 t0 t1 f0 f1 f2 m0 m1 m2 m3 pay) h;have h3:=Ea p h f;have h4:=TV v hv w hw2;rw [hw] at h3;rw [Envt.ce] at h1 h2;rw [Prg.e] at h3;simp only [eF] at h1 h2;have b1:pay.length<=70368744177664:=by omega
 have w0:¬w=0:=by omega
 have al:d9 1 (pay.map c8)=true:=fX 1 c8 pay fun x=>by simp
 have w1:IntKind.wrap .i64 1=1:=rfl;have w2:IntKind.wrap .i64 2=2:=rfl;have w3:IntKind.wrap .i64 3=3:=rfl;have w4:IntKind.wrap .i64 (1+1)=2:=rfl;have w5:IntKind.wrap .i64 (2+1)=3:=rfl;simp [E5,iU,c_191_l0,c_191_k1,Cq,Envt.ce,eF,Prg.e,cS,c32,cB,b1,w1,w2,w3,w4,w5,al,aC,aB,aR,bK,iD];rw [fA];simp [c_191_l0,c_191_k1,b1,w1,w2,w3,w4,w5,al,aC,aB,aR,bK,iD];rw [fA];simp [c_191_l0,c_191_k1,b1,w1,w2,w3,w4,w5,al,aC,aB,aR,bK,iD];rw [fA];simp [c_191_l0,c_191_k1,b1,w1,w2,w3,w4,w5,al,aC,aB,aR,bK,iD];rw [fA];simp [c_191_l0,c_191_k1,b1,w1,w2,w3,w4,w5,al,aC,aB,aR,bK,iD];rcases hr with ⟨rfl,rfl | rfl | rfl | rfl⟩ | ⟨rfl,rfl⟩ | ⟨rfl,rfl | rfl⟩
 any_goals cases b
 all_goals simp [at?,cS,c32,cB] at h1 h2
 all_goals simp [h1,h2,h3,h4,w0,eSet,at?,eF,Envt.ce,cS,c32,cB,aC,aB,aR,bK]
end
section
variable (p:Prg) (b:Bool) (k0 t0 t1 f0 f1 f2 m0 m1 m2 m3:Int) (pay:List Int)
theorem Am (hpl:pay.length<2^40):aA Φ cC [.agg (eF b k0 t0 t1 f0 f1 f2 m0 m1 m2 m3 pay).c]=some (.val (.agg (eF b k0 t0 t1 f0 f1 f2 m0 m1 m2 m3 pay).c)):=by
 rw [aD rfl rfl];have b1:pay.length<=70368744177664:=by omega
 have al:d9 1 (pay.map c8)=true:=fX 1 c8 pay fun x=>by simp
 have w1:IntKind.wrap .i64 1=1:=rfl;have w2:IntKind.wrap .i64 2=2:=rfl;have w3:IntKind.wrap .i64 3=3:=rfl;have w4:IntKind.wrap .i64 (1+1)=2:=rfl;have w5:IntKind.wrap .i64 (2+1)=3:=rfl;simp [iU,Envt.ce,eF,cS,c32,cB];rw [fA];simp [c_191_l0,c_191_k1,b1,w1,w2,w3,w4,w5,al,aC,aB,aR,bK,iD];rw [fA];simp [c_191_l0,c_191_k1,b1,w1,w2,w3,w4,w5,al,aC,aB,aR,bK,iD];rw [fA];simp [c_191_l0,c_191_k1,b1,w1,w2,w3,w4,w5,al,aC,aB,aR,bK,iD];rw [fA];simp [c_191_l0,c_191_k1,b1,w1,w2,w3,w4,w5,al,aC,aB,aR,bK,iD]
theorem fVal (d:Bool) (hpl:pay.length<2^40):aA Φ nW [.agg (eF b k0 t0 t1 f0 f1 f2 m0 m1 m2 m3 pay).c,a8 1,.bool d]=some (.val (.agg (eF d k0 0 0 f0 f1 f2 m0 m1 m2 m3 pay).c)):=by
 rw [aD rfl rfl];have b1:pay.length<=70368744177664:=by omega
 have al:d9 1 (pay.map c8)=true:=fX 1 c8 pay fun x=>by simp
 have w1:IntKind.wrap .i64 1=1:=rfl;have w2:IntKind.wrap .i64 2=2:=rfl;have w3:IntKind.wrap .i64 3=3:=rfl;have w4:IntKind.wrap .i64 (1+1)=2:=rfl;have w5:IntKind.wrap .i64 (2+1)=3:=rfl;simp [FH,iU,Cq,Envt.ce,eF,cS,c32,cB];rw [fA];simp [c_191_l0,c_191_k1,b1,w1,w2,w3,w4,w5,al,aC,aB,aR,bK,iD];rw [fA];simp [c_191_l0,c_191_k1,b1,w1,w2,w3,w4,w5,al,aC,aB,aR,bK,iD];rw [fA];simp [c_191_l0,c_191_k1,b1,w1,w2,w3,w4,w5,al,aC,aB,aR,bK,iD];rw [fA];simp [c_191_l0,c_191_k1,b1,w1,w2,w3,w4,w5,al,aC,aB,aR,bK,iD]
theorem fAdd (hpl:pay.length<2^40) (hh:1<p.Xp.length):aA Φ sL [.agg (Prg.c p),.agg (eF b k0 t0 t1 f0 f1 f2 m0 m1 m2 m3 pay).c,a8 1]=some (.val (.agg (if b then eF b k0 t0 t1 f0 f1 f2 m0 m1 m2 m3 pay else eF true k0 0 0 f0 f1 f2 m0 m1 m2 m3 pay).c)):=by
 rw [aD rfl rfl];have h1:=Am b k0 t0 t1 f0 f1 f2 m0 m1 m2 m3 pay hpl;have h2:=fVal b k0 t0 t1 f0 f1 f2 m0 m1 m2 m3 pay true hpl;have hh':¬p.Xp.length<=1:=by omega
 rw [Envt.ce] at h1;rw [Envt.ce,Envt.ce] at h2;simp [eF,cS,c32,cB] at h1 h2;cases b<;>simp [EZ,Envt.ce,eF,Prg.e,cS,c32,cB,h1,h2,hh,hh']
theorem fRem (hpl:pay.length<2^40) (hh:1<p.Xp.length):aA Φ sN [.agg (Prg.c p),.agg (eF b k0 t0 t1 f0 f1 f2 m0 m1 m2 m3 pay).c,a8 1]=some (.val (.agg (eF false k0 0 0 f0 f1 f2 m0 m1 m2 m3 pay).c)):=by
 rw [aD rfl rfl];have h2:=fVal b k0 t0 t1 f0 f1 f2 m0 m1 m2 m3 pay false hpl;have hh':¬p.Xp.length<=1:=by omega
 rw [Envt.ce,Envt.ce] at h2;simp [eF,cS,c32,cB] at h2;simp [F0,Envt.ce,eF,Prg.e,cS,c32,cB,h2,hh,hh']
end
section
variable (p:Prg) (nm:List UInt8) (hp:p.Xm=[⟨nm,16,16⟩]) (l:List Int) (hl:l.length=16) (i:Int) (hi:ok32 0 i)
include hp hl hi
theorem Ob:aA Φ sY [.agg (Prg.c p),.slice 1 [[.slice 1 (l.map c32)]],a8 0,.int .u32 i]=some (.val (.bool (decide (i<16)))):=by
 rw [aD rfl rfl];have hw:IntKind.wrap .i64 i=i:=by
  have h1:=hi.1;have h2:=hi.2;obtain ⟨k,rfl⟩:=fP h1;exact fG (by omega) (by omega)
 by_cases z:i<16
 ·simp [yB,Prg.e,Xh.e,hp,hl,hw,z]
 ·simp [yB,Prg.e,Xh.e,hp,hl,hw,z]
theorem ZF:aA Φ zK [.agg (Prg.c p),.slice 1 [[.slice 1 (l.map c32)]],a8 0,.int .u32 i]=some (.val (.int .u32 (l.getD i.toNat 0))):=by
 rw [aD rfl rfl];have h1:=Ob p nm hp l hl i hi;have hi1:=hi.1;simp only [Prg.e] at h1;by_cases z:i<16
 ·obtain ⟨k,rfl⟩:=fP hi1;have hk:k<l.length:=by omega
  simp [z] at h1;simp [xP,Prg.e,h1,hk,c32]
 ·have hk:l.length<=i.toNat:=by omega
  simp [z] at h1;simp [xP,Prg.e,h1,hk]
theorem XG (v:Int) (hv:ok32 0 v):aA Φ kY [.agg (Prg.c p),.slice 1 [[.slice 1 (l.map c32)]],a8 0,.int .u32 i,.int .u32 v]=some (.val (.slice 1 [[.slice 1 ((l.set i.toNat (v % 65536)).map c32)]])):=by
 rw [aD rfl rfl];have h1:=Ob p nm hp l hl i hi;have hi1:=hi.1;have hv1:=hv.1;have hv2:=hv.2;have hc:IntKind.wrap .u64 v=v:=GL (by omega) (by omega);have hm0:0<=v % 65536:=by omega
 have hc2:IntKind.wrap .u32 (v % 65536)=v % 65536:=wrU32 hm0 (by omega);have ht:Int.tmod v 65536=v % 65536:=JM hv1;have hc3:IntKind.wrap .u64 (v % 65536)=v % 65536:=GL (by omega) (by omega);have w1:IntKind.wrap .i64 1=1:=rfl;have n1:¬l=[]:=by intro h;simp [h] at hl
 have b1:l.length*4<=70368744177664:=by omega
 simp only [Prg.e,hp] at h1;simp [F1,Prg.e,hp];rw [fA];simp [c_270_l0,c_270_k3,w1,n1,b1,hl,aC,aB,aR,bK,iD];rw [fA];simp [c_270_l0,c_270_k3,w1,n1,b1,hl,aC,aB,aR,bK,iD];have hwd:aA Φ nE [.agg [.str nm,a8 16,a8 16]]=some (.val (a8 16)):=by
  rw [aD rfl rfl];simp [mQ]
 by_cases z:i<16
 rotate_left
 ·have hk:l.length<=i.toNat:=by omega
  have hs:(l.map c32).set i.toNat (c32 (v % 65536))=l.map c32:=T9 (by simpa using hk);rw [hs];simp [z] at h1;have hl3:(l.map c32).take 16=l.map c32:=Qo (by simp [hl]);have hid:=fun H:AH=>CZ (g:=c32) (n:=38) (H:=H) (fun x=>by simp [c32]) l
  simp [h1,hl,aC,aB,iD,hl3,hid]
 obtain ⟨k,rfl⟩:=fP hi1;have hk:k<l.length:=by omega
 have hk16:k<16:=by omega
 simp [hk16,Xh.e] at h1;simp [h1,hwd,Xh.e];refine (iJ 16 (fun j e=>look 2 e=some (a8 0)/\look 3 e=some (.int .u32 k)/\look 4 e=some (.int .u32 v)/\look 5 e=some (.iptr 9 [Prg.c p] 0 0)/\look 11 e=some (.row 2 1 0 1)/\look 13 e=some (.int .u64 (2^j))/\look 14 e=some (a8 j)) (fun _=>some (Rt.val (.slice 1 [[.slice 1 ((l.map c32).set k (c32 (v % 65536)))]]))) ?_ ?_ 0 _ (Qc _) ?_).trans ?_
 ·rintro j e L hj hL ⟨g2,g3,g4,g5,g11,g13,g14⟩ ih;have hw:=aL j (by omega);have hp2:=S5 (i:=j) (by omega);have hj':(j:Int)<16:=by omega
  rw [Prg.e] at g5;simp [c_270_l1,g2,g5,g13,g14,hp,Xh.e,hj,hw,hp2];exact ih _ ⟨by simp [g2],by simp [g3],by simp [g4],by simp [g5,Prg.e,hp],by simp [g11],by simp,by simp⟩
 ·rintro e L hL ⟨g2,g3,g4,g5,g11,g13,g14⟩;rw [Prg.e] at g5;have g13':look 13 e=some (.int .u64 65536):=g13;have hl2:((l.map c32).set k [.int .u32 (v % 65536)]).take 16=(l.map c32).set k [.int .u32 (v % 65536)]:=Qo (by simp [hl]);have hsn:∀H:AH,mapO (mapO (snap 38 H)) ((l.map c32).set k [.int .u32 (v % 65536)])=some ((l.map c32).set k [.int .u32 (v % 65536)]):=fun H=>by
   rw [SF (n:=38) (H:=H) (g:=c32) (fun x=>by simp [c32]) hk];simp
  simp [c_270_l1,c_270_k2,g2,g3,g4,g5,g11,g13',g14,hp,Xh.e,hL,hk,hk16,hc,ht,hc2,hc3,hl,aC,aB,hl2,hsn,c32]
 ·simp [Prg.e,hp,Xh.e]
 ·rfl
end
def GS (c:Xf):Prop:=CfgT c/\∀l∈c.rows,l.length<2^39
def ScG (G:Xf->Prop) (x:Option Rt):Prop:=∃(r:Rslt) (c':Xf),x=some (.val (.tup [.agg (Rslt.c r),.agg (Xf.c c')]))/\G c'/\okB' r.data/\r.data.length<=1000
theorem alB (l:List Int):d9 1 (l.map c8)=true:=fX 1 c8 l fun x=>by simp [c8]
theorem TU (l:List Int) (k:Nat):(l.map c8).drop k=(l.drop k).map c8:=by simp
theorem wr32 (x:Int):0<=IntKind.wrap .u32 x/\IntKind.wrap .u32 x<=4294967295:=by
 simp [IntKind.wrap,IntKind.bits,IntKind.signed];omega
theorem Af {g:Nat} {G:Xf->Prop} (h:∀c s d,G c->okB' d->d.length<=1000->ScG G (aA Φ g [.agg (Xf.c c),.agg [a8 s,.slice 1 (d.map c8)]])) (hc:∀c,G c->CfgC c):∃P,PrcOk g G P:=by
 have key:∀x:Xf×Int×List Int,∃q:Rslt×Xf,G x.1->okB' x.2.2->x.2.2.length<=1000->aA Φ g [.agg (Xf.c x.1),.agg [a8 x.2.1,.slice 1 (x.2.2.map c8)]]=some (.val (.tup [.agg (Rslt.c q.1),.agg (Xf.c q.2)]))/\G q.2/\okB' q.1.data/\q.1.data.length<=1000:=by
  intro x;by_cases a:G x.1/\okB' x.2.2/\x.2.2.length<=1000
  ·obtain ⟨r,c',e,h1,h2,h3⟩:=h x.1 x.2.1 x.2.2 a.1 a.2.1 a.2.2;exact ⟨(r,c'),fun _ _ _=>⟨e,h1,h2,h3⟩⟩
  ·exact ⟨default,fun h1 h2 h3=>absurd ⟨h1,h2,h3⟩ a⟩
 refine ⟨fun c s d=>(key (c,s,d)).choose,⟨fun c s d h1 h2 h3=>?_,fun c s d h1 h2 h3=>?_,fun c s d h1 h2 h3=>?_,hc⟩⟩
 ·exact ((key (c,s,d)).choose_spec h1 h2 h3).1
 ·exact ((key (c,s,d)).choose_spec h1 h2 h3).2.1
 ·exact ((key (c,s,d)).choose_spec h1 h2 h3).2.2
def rd (x n:Int):Int:=IntKind.wrap .u32 ((IntKind.wrap .u64 x).tmod n)
theorem LA (x n:Int):ok32 0 (rd x n):=wr32 _
def sc (p:Prg) (ps:List Fld):AV:= .agg (Prg.c p++[.slice 2 (ps.map Fld.c)])
def evA (p:Prg) (ps:List Fld) (n:List Xe) (e:Envt) (args:List Int) (v:Int):Prop:=aA Φ rM [.slice 3 (n.map Xe.c),sc p ps,.agg e.c,.slice 1 (args.map c32)]=some (.val (.int .u32 v))
structure EI (e:Envt):Prop where
 x:∃b k0 t0 t1 f0 f1 f2 m0 m1 m2 m3 pay,e=eF b k0 t0 t1 f0 f1 f2 m0 m1 m2 m3 pay/\(m2=0\/m2=1)/\(ok32 0 k0/\ok32 0 t0/\ok32 0 t1/\ok32 0 f0/\ok32 0 f1/\ok32 0 f2/\ok32 0 m0/\ok32 0 m1/\ok32 0 m3)/\okB' pay/\pay.length<=1000
def evL (p:Prg) (ps:List Fld) (n:List Xe) (args:List Int):Prop:=∀e,EI e->∃v,ok32 0 v/\evA p ps n e args v
def psV:Fld:=⟨[118,101,114,115,105,111,110],8⟩
def psP:Fld:=⟨[112,111,114,116],8⟩
def psL:Fld:=⟨[108,97,98,101,108],8⟩
section
variable (b:Bool) (k0 t0 t1 f0 f1 f2 m0 m1 m2 m3:Int) (pay:List Int) (a0 a1:Int)
theorem ev0n:evA pF [psV] [] (eF b k0 t0 t1 f0 f1 f2 m0 m1 m2 m3 pay) [a0] 0:=dT (n:=200) (by kernel_rfl)
theorem ev0p:evA pF [psV] [⟨3,0,0⟩] (eF b k0 t0 t1 f0 f1 f2 m0 m1 m2 m3 pay) [a0] (rd a0 256):=dT (n:=200) (by kernel_rfl)
theorem ev0c:evA pF [psV] [⟨1,2,8⟩] (eF b k0 t0 t1 f0 f1 f2 m0 m1 m2 m3 pay) [a0] 2:=dT (n:=200) (by kernel_rfl)
theorem ev0i:evA pF [psV] [⟨2,-1,0⟩] (eF b k0 t0 t1 f0 f1 f2 m0 m1 m2 m3 pay) [a0] (rd m0 256):=dT (n:=200) (by kernel_rfl)
theorem ev0a:evA pF [psV] [⟨9,0,0⟩,⟨2,-1,3⟩,⟨1,1,16⟩] (eF b k0 t0 t1 f0 f1 f2 m0 m1 m2 m3 pay) [a0] (rd (IntKind.wrap .u64 (rd m3 65536)+1) 65536):=dT (n:=200) (by kernel_rfl)
theorem ev2n:evA pF [psP,psL] [] (eF b k0 t0 t1 f0 f1 f2 m0 m1 m2 m3 pay) [a0,a1] 0:=dT (n:=200) (by kernel_rfl)
theorem ev2p:evA pF [psP,psL] [⟨3,0,0⟩] (eF b k0 t0 t1 f0 f1 f2 m0 m1 m2 m3 pay) [a0,a1] (rd a0 256):=dT (n:=200) (by kernel_rfl)
theorem ev2q:evA pF [psP,psL] [⟨3,1,0⟩] (eF b k0 t0 t1 f0 f1 f2 m0 m1 m2 m3 pay) [a0,a1] (rd a1 256):=dT (n:=200) (by kernel_rfl)
theorem ev3n:evA pF [psP] [] (eF b k0 t0 t1 f0 f1 f2 m0 m1 m2 m3 pay) [a0] 0:=dT (n:=200) (by kernel_rfl)
theorem ev3p:evA pF [psP] [⟨3,0,0⟩] (eF b k0 t0 t1 f0 f1 f2 m0 m1 m2 m3 pay) [a0] (rd a0 256):=dT (n:=200) (by kernel_rfl)
theorem ev3c:evA pF [psP] [⟨1,1,8⟩] (eF b k0 t0 t1 f0 f1 f2 m0 m1 m2 m3 pay) [a0] 1:=dT (n:=200) (by kernel_rfl)
theorem ev4n:evA pF [] [] (eF b k0 t0 t1 f0 f1 f2 m0 m1 m2 m3 pay) [] 0:=dT (n:=200) (by kernel_rfl)
theorem ev4c:evA pF [] [⟨1,1,1⟩] (eF b k0 t0 t1 f0 f1 f2 m0 m1 m2 m3 pay) [] 1:=dT (n:=200) (by kernel_rfl)
end
section
variable (k0 t0 t1 f0 f1 f2 m0 m1 m2 m3:Int) (pay:List Int) (b:Bool)
theorem evT:evA pF [] [⟨4,1,0⟩] (eF true k0 t0 t1 f0 f1 f2 m0 m1 m2 m3 pay) [] 1:=dT (n:=200) (by kernel_rfl)
theorem evF0:evA pF [] [⟨4,1,0⟩] (eF false k0 t0 t1 f0 f1 f2 m0 m1 m2 m3 pay) [] 0:=dT (n:=200) (by kernel_rfl)
theorem evD0:evA pF [] [⟨15,0,0⟩,⟨2,-1,2⟩,⟨1,0,1⟩] (eF b k0 t0 t1 f0 f1 f2 m0 m1 0 m3 pay) [] 1:=dT (n:=200) (by kernel_rfl)
theorem evD1:evA pF [] [⟨15,0,0⟩,⟨2,-1,2⟩,⟨1,0,1⟩] (eF b k0 t0 t1 f0 f1 f2 m0 m1 1 m3 pay) [] 0:=dT (n:=200) (by kernel_rfl)
end
theorem evQ0 {e:Envt} (h:EI e):∃t:Bool,evA pF [] [⟨4,1,0⟩] e [] (if t then 1 else 0):=by
 obtain ⟨b,k0,t0,t1,f0,f1,f2,m0,m1,m2,m3,pay,rfl,-⟩:=h.x;cases b
 ·exact ⟨false,evF0 ..⟩
 ·exact ⟨true,evT ..⟩
theorem evQ1 {e:Envt} (h:EI e):∃t:Bool,evA pF [] [⟨15,0,0⟩,⟨2,-1,2⟩,⟨1,0,1⟩] e [] (if t then 1 else 0):=by
 obtain ⟨b,k0,t0,t1,f0,f1,f2,m0,m1,m2,m3,pay,rfl,rfl | rfl,-⟩:=h.x
 ·exact ⟨true,evD0 ..⟩
 ·exact ⟨false,evD1 ..⟩
theorem ok00:ok32 0 0:=by simp [ok32]
theorem m256 (v:Int) (n:Int) (h:0<n) (hn:n<=4294967296):ok32 0 (v % n):=⟨Int.emod_nonneg _ (by omega),by have:=Int.emod_lt_of_pos v h;omega⟩
theorem EI.set {p:Prg} {e:Envt} (i:EI e) (hw:∀f:Int,0<=f->f<=3->wid p (-1) f=if f=2 then 1 else if f=3 then 16 else 8) (hw0:wid p 0 0=8) (hw1:∀f:Int,0<=f->f<=1->wid p 1 f=8) (h f:Int) (hr:(h= -1/\(f=0\/f=1\/f=2\/f=3))\/(h=0/\f=0)\/(h=1/\(f=0\/f=1))) (v:Int) (hv:ok32 0 v):
  ∃e',EI e'/\aA Φ iX [.agg (Prg.c p),.agg e.c,.agg [a8 h,a8 f],.int .u32 v]=some (.val (.agg e'.c)):=by
 obtain ⟨b,k0,t0,t1,f0,f1,f2,m0,m1,m2,m3,pay,rfl,hm,⟨o1,o2,o3,o4,o5,o6,o7,o8,o9⟩,hb,hpl⟩:=i.x;have c8:=m256 v 256 (by decide) (by decide);have c16:=m256 v 65536 (by decide) (by decide);have key:=fun w hw h1 h2=>fSet p b k0 t0 t1 f0 f1 f2 m0 m1 m2 m3 pay h f w hw h1 h2 v hv (by omega) hr
 rcases hr with ⟨rfl,rfl | rfl | rfl | rfl⟩ | ⟨rfl,rfl⟩ | ⟨rfl,rfl | rfl⟩
 ·exact ⟨_,⟨b,k0,t0,t1,f0,f1,f2,v % 256,m1,m2,m3,pay,rfl,hm,⟨o1,o2,o3,o4,o5,o6,c8,o8,o9⟩,hb,hpl⟩,key 8 (hw 0 (by decide) (by decide)) (by decide) (by decide)⟩
 ·exact ⟨_,⟨b,k0,t0,t1,f0,f1,f2,m0,v % 256,m2,m3,pay,rfl,hm,⟨o1,o2,o3,o4,o5,o6,o7,c8,o9⟩,hb,hpl⟩,key 8 (hw 1 (by decide) (by decide)) (by decide) (by decide)⟩
 ·exact ⟨_,⟨b,k0,t0,t1,f0,f1,f2,m0,m1,v % 2,m3,pay,rfl,by omega,⟨o1,o2,o3,o4,o5,o6,o7,o8,o9⟩,hb,hpl⟩,key 1 (hw 2 (by decide) (by decide)) (by decide) (by decide)⟩
 ·exact ⟨_,⟨b,k0,t0,t1,f0,f1,f2,m0,m1,m2,v % 65536,pay,rfl,hm,⟨o1,o2,o3,o4,o5,o6,o7,o8,c16⟩,hb,hpl⟩,key 16 (hw 3 (by decide) (by decide)) (by decide) (by decide)⟩
 ·exact ⟨_,⟨b,v % 256,t0,t1,f0,f1,f2,m0,m1,m2,m3,pay,rfl,hm,⟨c8,o2,o3,o4,o5,o6,o7,o8,o9⟩,hb,hpl⟩,key 8 hw0 (by decide) (by decide)⟩
 ·cases b
  ·exact ⟨_,⟨false,k0,t0,t1,f0,f1,f2,m0,m1,m2,m3,pay,rfl,hm,⟨o1,o2,o3,o4,o5,o6,o7,o8,o9⟩,hb,hpl⟩,key 8 (hw1 0 (by decide) (by decide)) (by decide) (by decide)⟩
  ·exact ⟨_,⟨true,k0,v % 256,t1,f0,f1,f2,m0,m1,m2,m3,pay,rfl,hm,⟨o1,c8,o3,o4,o5,o6,o7,o8,o9⟩,hb,hpl⟩,key 8 (hw1 0 (by decide) (by decide)) (by decide) (by decide)⟩
 ·cases b
  ·exact ⟨_,⟨false,k0,t0,t1,f0,f1,f2,m0,m1,m2,m3,pay,rfl,hm,⟨o1,o2,o3,o4,o5,o6,o7,o8,o9⟩,hb,hpl⟩,key 8 (hw1 1 (by decide) (by decide)) (by decide) (by decide)⟩
  ·exact ⟨_,⟨true,k0,t0,v % 256,f0,f1,f2,m0,m1,m2,m3,pay,rfl,hm,⟨o1,o2,c8,o4,o5,o6,o7,o8,o9⟩,hb,hpl⟩,key 8 (hw1 1 (by decide) (by decide)) (by decide) (by decide)⟩
theorem EI.add {p:Prg} {e:Envt} (i:EI e) (hh:1<p.Xp.length):∃e',EI e'/\aA Φ sL [.agg (Prg.c p),.agg e.c,a8 1]=some (.val (.agg e'.c)):=by
 obtain ⟨b,k0,t0,t1,f0,f1,f2,m0,m1,m2,m3,pay,rfl,hm,⟨o1,o2,o3,o4,o5,o6,o7,o8,o9⟩,hb,hpl⟩:=i.x;have key:=fAdd p b k0 t0 t1 f0 f1 f2 m0 m1 m2 m3 pay (by omega) hh;cases b
 ·exact ⟨_,⟨true,k0,0,0,f0,f1,f2,m0,m1,m2,m3,pay,rfl,hm,⟨o1,ok00,ok00,o4,o5,o6,o7,o8,o9⟩,hb,hpl⟩,key⟩
 ·exact ⟨_,i,key⟩
theorem EI.rem {p:Prg} {e:Envt} (i:EI e) (hh:1<p.Xp.length):∃e',EI e'/\aA Φ sN [.agg (Prg.c p),.agg e.c,a8 1]=some (.val (.agg e'.c)):=by
 obtain ⟨b,k0,t0,t1,f0,f1,f2,m0,m1,m2,m3,pay,rfl,hm,⟨o1,o2,o3,o4,o5,o6,o7,o8,o9⟩,hb,hpl⟩:=i.x;exact ⟨_,⟨false,k0,0,0,f0,f1,f2,m0,m1,m2,m3,pay,rfl,hm,⟨o1,ok00,ok00,o4,o5,o6,o7,o8,o9⟩,hb,hpl⟩,fRem p b k0 t0 t1 f0 f1 f2 m0 m1 m2 m3 pay (by omega) hh⟩
def RI (l:List Int):Prop:=l.length=16/\∀v∈l,0<=v/\v<=65535
theorem RI.get {l:List Int} (h:RI l) (k:Nat):ok32 0 (l.getD k 0):=by
 rw [JL];cases q:l[k]? with
 | none=>simp [ok32]
 | some v=>have:=h.2 v (Qe q);simp [ok32];omega
theorem RI.set {l:List Int} (h:RI l) (k:Nat) (v:Int):RI (l.set k (v % 65536)):=
 ⟨by simp [h.1],fun x hx=>by
  rcases Qq hx with hx | rfl
  ·exact h.2 x hx
  ·omega⟩
structure FX (p:Prg):Prop where
 hw:∀f:Int,0<=f->f<=3->wid p (-1) f=if f=2 then 1 else if f=3 then 16 else 8
 hw0:wid p 0 0=8
 hw1:∀f:Int,0<=f->f<=1->wid p 1 f=8
 hh:1<p.Xp.length
 rg:∃nm,p.Xm=[⟨nm,16,16⟩]
structure StX (p:Prg) (ps:List Fld) (args:List Int) (s:Xg):Prop where
 i:evL p ps s.index args
 v:evL p ps s.value args
 k:((s.kind=1\/s.kind=4/\s.Yf=0)/\((s.dst.header= -1/\(s.dst.field=0\/s.dst.field=1\/s.dst.field=2\/s.dst.field=3))\/(s.dst.header=0/\s.dst.field=0)\/(s.dst.header=1/\(s.dst.field=0\/s.dst.field=1))))\/((s.kind=2\/s.kind=3)/\s.header=1)\/(s.kind=5/\s.Yf=0)
def XQ (r:Option Rt):Prop:=∃e' l',EI e'/\RI l'/\r=some (.val (.tup [.agg (Envt.c e'),.slice 1 [[.slice 1 (l'.map c32)]]]))
theorem O8 {p:Prg} (F:FX p) (a:Nat) (A:Action) (hA:p.Xy[a]? =some A) (args:List Int) (hck:aA Φ j9 [.agg (Prg.c p),a8 a]=some (.val (.tup [a8 0,a8 0])))
  (hcc:aA Φ iY [.agg (Prg.c p),.agg (Xb.c ⟨a,args⟩)]=some (.val (a8 0))) (hs:∀s∈A.body,StX p A.params args s) (hbl:A.body.length<2^40) (e:Envt) (ie:EI e) (l:List Int) (il:RI l):
  XQ (aA Φ nK [.agg (Prg.c p),.agg (Xb.c ⟨a,args⟩),.agg e.c,.slice 1 [[.slice 1 (l.map c32)]]]):=by
 rw [aD rfl rfl];obtain ⟨ha,hA'⟩:=Qm.1 hA;obtain ⟨nm,hr⟩:=F.rg;have hsc:aA Φ zJ [.agg (Prg.c p),a8 a]=some (.val (.agg (Prg.c p++[.slice 2 (A.params.map Fld.c)]))):=by
  rw [aD rfl rfl];simp [EY,Prg.e,ha,hA',Action.e]
 simp only [Prg.e,Xb.ce] at hck hcc hsc;simp [EJ,Prg.e,Xb.ce,Envt.ce,hck,hcc,hsc,ha,hA',Action.e];refine fF A.body.length (fun i ev h=>∃e l n,EI e/\RI l/\2<=n/\h=⟨[(0,.row 4 [Envt.c e]),(1,.row 4 [[.Xu 1 [],.Xu 1 [],.Xu 1 [],.Xu 1 []]])],n⟩/\look 3 ev=some (.slice 1 [[.slice 1 (l.map c32)]])/\look 4 ev=some (.iptr 9 [Prg.c p] 0 0)/\look 5 ev=some (.iptr 2 [Xb.c ⟨a,args⟩] 0 0)/\look 6 ev=some (.ptr 0 4 0 0)/\look 8 ev=some (.ptr 1 4 0 0)/\look 12 ev=some (.iptr 10 [Prg.c p++[.slice 2 (A.params.map Fld.c)]] 0 0)/\look 13 ev=some (.slice 7 (A.body.map Xg.c))/\look 14 ev=some (a8 i)) XQ ?_ ?_ 0 _ _ (Qc _) ?_
 ·rintro i ev _ L hi hL ⟨e,l,n,ie,il,hn,rfl,h3,h4,h5,h6,h8,h12,h13,h14⟩ ih;have hw:=aL i (by omega);obtain ⟨xi,xv,xk⟩:=hs _ (Qd hi);obtain ⟨s,hse⟩:∃s,A.body[i]=s:=⟨_,rfl⟩;rw [hse] at xi xv xk;obtain ⟨vi,oi,ei⟩:=xi e ie;obtain ⟨vv,ov,ev'⟩:=xv e ie;have n0:¬n=0:=by omega
  have n1:¬n=1:=by omega
  have n0':¬0=n:=by omega
  have n1':¬1=n:=by omega
  unfold evA sc at ei ev';rw [Envt.ce] at ei ev';simp only [Prg.e,qI,DW] at ei ev' h4 h12;rw [Xb.ce] at h5;rcases xk with ⟨hk | ⟨hk,hrg⟩,hd⟩ | ⟨hk | hk,hh⟩ | ⟨hk,hrg⟩
  ·obtain ⟨e',ie',he'⟩:=ie.set (p:=p) F.hw F.hw0 F.hw1 _ _ hd vv ov;rw [Envt.ce,Envt.ce] at he';simp only [Prg.e] at he';simp [c_205_l0,Xg.e,Envt.ce,h3,h4,h5,h6,h8,h12,h13,h14,hi,hse,hL,ei,ev',hk,he',hw,n0,n1,n0',n1',aB];refine ih _ _ ⟨e',l,_,ie',il,?_,by rw [Envt.ce],?_,?_,?_,?_,?_,?_,?_,?_⟩;exact LQ hn
   all_goals simp [*,Prg.e,Xb.ce]
  ·have hrd:=ZF p nm hr l il.1 vi oi;simp only [Prg.e] at hrd;obtain ⟨e',ie',he'⟩:=ie.set (p:=p) F.hw F.hw0 F.hw1 _ _ hd (l.getD vi.toNat 0) (il.get _);rw [Envt.ce,Envt.ce] at he';simp only [Prg.e] at he';rw [JL] at hrd he';simp [c_205_l0,Xg.e,Envt.ce,h3,h4,h5,h6,h8,h12,h13,h14,hi,hse,hL,ei,ev',hk,he',hrd,hrg,hw,n0,n1,n0',n1',aB];refine ih _ _ ⟨e',l,_,ie',il,?_,by rw [Envt.ce],?_,?_,?_,?_,?_,?_,?_,?_⟩;exact LQ hn
   all_goals simp [*,Prg.e,Xb.ce]
  ·obtain ⟨e',ie',he'⟩:=ie.add (p:=p) F.hh;rw [Envt.ce,Envt.ce] at he';simp only [Prg.e] at he';simp [c_205_l0,Xg.e,Envt.ce,h3,h4,h5,h6,h8,h12,h13,h14,hi,hse,hL,ei,ev',hk,he',hh,hw,n0,n1,n0',n1',aB];refine ih _ _ ⟨e',l,_,ie',il,?_,by rw [Envt.ce],?_,?_,?_,?_,?_,?_,?_,?_⟩;exact LQ hn
   all_goals simp [*,Prg.e,Xb.ce]
  ·obtain ⟨e',ie',he'⟩:=ie.rem (p:=p) F.hh;rw [Envt.ce,Envt.ce] at he';simp only [Prg.e] at he';simp [c_205_l0,Xg.e,Envt.ce,h3,h4,h5,h6,h8,h12,h13,h14,hi,hse,hL,ei,ev',hk,he',hh,hw,n0,n1,n0',n1',aB];refine ih _ _ ⟨e',l,_,ie',il,?_,by rw [Envt.ce],?_,?_,?_,?_,?_,?_,?_,?_⟩;exact LQ hn
   all_goals simp [*,Prg.e,Xb.ce]
  ·have hwr:=XG p nm hr l il.1 vi oi vv ov;simp only [Prg.e] at hwr;simp [c_205_l0,Xg.e,Envt.ce,h3,h4,h5,h6,h8,h12,h13,h14,hi,hse,hL,ei,ev',hk,hwr,hrg,hw,n0,n1,n0',n1',aB];refine ih _ _ ⟨e,l.set vi.toNat (vv % 65536),_,ie,il.set _ _,?_,by rw [Envt.ce],?_,?_,?_,?_,?_,?_,?_,?_⟩;exact LQ hn
   all_goals simp [*,Prg.e,Xb.ce]
 ·rintro ev _ L hL ⟨e,l,n,ie,il,hn,rfl,h3,h4,h5,h6,h8,h12,h13,h14⟩;simp [c_205_l0,c_205_k1,Envt.ce,h3,h6,h8,h13,h14,hL,aB];exact ⟨e,l,ie,il,by simp [Envt.ce,cS]⟩
 ·exact ⟨e,l,3,ie,il,by omega,by rw [Envt.ce],by simp [cS],by simp [Prg.e],by simp [Xb.ce],by simp,by simp,by simp [Prg.e],by simp,by simp⟩
end Go.Av
