/-
 One act on the reference, with scripted packets.
-/
import Derived.Test.YtknmfocedphgmaaGreatNC1
set_option linter.unusedVariables false
set_option linter.unusedSimpArgs false
set_option linter.constructorNameAsVariable false
namespace Go.Av
set_option maxRecDepth 8000
theorem Act.ce (x:Act):x.c=[.int .i64 x.dd,.int .i64 x.a,.int .i64 x.b,.slice 1 (x.data.map c8),.int .i64 x.upd.switch,.slice 9 (x.upd.ops.map Xc.c)]:=rfl
section
variable {V:NetV} {G:Xf->Prop} {P:Xf->Int->List Int->Rslt×Xf} {U:NetV->Act->NetV×Int}
theorem qz8 (s:NetS V) (a:Act) (b:Bool) (d0:a.dd=0):qac Φ f_21 [.agg V.r,.agg a.c,.bool b]=some (.val (.tup [.agg (actV U P V a).1.r,.int .i64 (actV U P V a).2.1,.agg (Event.c (actV U P V a).2.2.1),.int .i64 (actV U P V a).2.2.2])):=by
 rw [qaa (fn:=c_21) rfl rfl];have k:=qo1 V a.a a.data s;simp only [NetV.re] at k;simp [c_21,NetV.re,Act.ce,d0,k,actV,ev0,Event.ce]
theorem qz9 (s:NetS V) (a:Act) (b:Bool) (d3:a.dd=3):qac Φ f_21 [.agg V.r,.agg a.c,.bool b]=some (.val (.tup [.agg (actV U P V a).1.r,.int .i64 (actV U P V a).2.1,.agg (Event.c (actV U P V a).2.2.1),.int .i64 (actV U P V a).2.2.2])):=by
 rw [qaa (fn:=c_21) rfl rfl];have k:=ql2 V a.a (decide (a.b=1)) s;simp only [NetV.re] at k;simp [c_21,NetV.re,Act.ce,d3,k,actV,ev0,Event.ce]
theorem qaaa (a:Act) (b:Bool) (d0:a.dd≠0) (d1:a.dd≠1) (d2:a.dd≠2) (d3:a.dd≠3):qac Φ f_21 [.agg V.r,.agg a.c,.bool b]=some (.val (.tup [.agg (actV U P V a).1.r,.int .i64 (actV U P V a).2.1,.agg (Event.c (actV U P V a).2.2.1),.int .i64 (actV U P V a).2.2.2])):=by
 rw [qaa (fn:=c_21) rfl rfl];simp [c_21,NetV.re,Act.ce,d0,d1,d2,d3,actV,ev0,Event.ce]
theorem qnu (id:Int) (hz:chkV V id≠0):qac Φ f_50 [.agg V.r,.int .i64 id]=some (.val (.tup [.agg V.r,.agg (Event.c ev0),.int .i64 (chkV V id)])):=by
 rw [qaa (fn:=c_50) rfl rfl];have k:=qcs V id;simp only [NetV.re] at k;simp [c_50,NetV.re,k,hz,ev0,Event.ce]
theorem qxz (a:Act) (b:Bool) (d1:a.dd=1) (hz:chkV V a.a≠0):qac Φ f_21 [.agg V.r,.agg a.c,.bool b]=some (.val (.tup [.agg (actV U P V a).1.r,.int .i64 (actV U P V a).2.1,.agg (Event.c (actV U P V a).2.2.1),.int .i64 (actV U P V a).2.2.2])):=by
 rw [qaa (fn:=c_21) rfl rfl];have k:=qcs V a.a;have k2:=qnu (V:=V) a.a hz;simp only [NetV.re,Event.ce,ev0] at k k2;cases b<;>simp [c_21,NetV.re,Act.ce,d1,k,k2,hz,actV,stpV,Event.ce,ev0]
theorem qxy (hP:PrcOk f_13 G P) (I:NetI G V) (a:Act) (d1:a.dd=1):qac Φ f_21 [.agg V.r,.agg a.c,.bool true]=some (.val (.tup [.agg (actV U P V a).1.r,.int .i64 (actV U P V a).2.1,.agg (Event.c (actV U P V a).2.2.1),.int .i64 (actV U P V a).2.2.2])):=by
 by_cases hz:chkV V a.a=0
 rotate_left
 ·exact qxz a true d1 hz
 rw [qaa (fn:=c_21) rfl rfl];have k:=qcs V a.a;obtain ⟨i,hai,hi,hd⟩:=qpp hz;have hmem:=Qd hi;obtain ⟨hdb,hdl,hpos⟩:=I.pk _ hmem;obtain ⟨hs0,hs1⟩:=hpos hd;obtain ⟨x,hx⟩:∃x,V.pk[i]=x:=⟨_,rfl⟩;rw [hx] at hd hdb hdl hs0 hs1 hmem;obtain ⟨j,hs⟩:=QAe hs0;have hk:j<V.cs.length:=by omega
 have hG:=I.cg _ (Qd hk);have hgp:V.pk[i]?.getD default=x:=by simp [hi,hx]
 have hgc:V.cs[j]?.getD default=V.cs[j]:=by simp [hk]
 have hrun:=hP.run _ x.pos.port _ hG hdb hdl;have hmv:=qoz V i hi x hx j hs hk (P V.cs[j] x.pos.port x.data).1 (P V.cs[j] x.pos.port x.data).2 I.s hd;simp only [NetV.re,Xf.e4,Rslt.ce,Event.ce] at hrun hmv;rw [hz] at k;simp only [NetV.re] at k;rw [hai] at k;simp [c_21,NetV.re,Act.ce,d1,k,hai,hi,hx,hs,hk,hd,Pk.ce,Xf.e4,hrun,hmv,actV,stpV,hai ▸ hz,hgp,hgc,Event.ce]
theorem qaab (hP:PrcOk f_13 G P) (I:NetI G V) (a:Act) (d2:a.dd≠2):qac Φ f_21 [.agg V.r,.agg a.c,.bool true]=some (.val (.tup [.agg (actV U P V a).1.r,.int .i64 (actV U P V a).2.1,.agg (Event.c (actV U P V a).2.2.1),.int .i64 (actV U P V a).2.2.2])):=by
 by_cases d0:a.dd=0
 ·exact qz8 I.s a true d0
 by_cases d1:a.dd=1
 ·exact qxy hP I a d1
 by_cases d3:a.dd=3
 ·exact qz9 I.s a true d3
 exact qaaa a true d0 d1 d2 d3
end
structure NetJ (G:Xf->Prop) (k:Nat) (V:NetV):Prop where
 kk:V.pk.length<=k
 g:V.log.length<=2*k
 hp:∀x∈V.pk,x.hops.length<=k
 top:qa2 V.ports V.links V.hosts=0
 cl:V.cs.length=V.ports.length
 cg:∀c∈V.cs,G c
 pk:∀x∈V.pk,okB' x.data/\x.data.length<=1000/\(x.done=false->0<=x.pos.switch/\x.pos.switch<V.cs.length)
theorem NetJ.I {G:Xf->Prop} {k:Nat} {V:NetV} (j:NetJ G k V) (hk:k<=900):NetI G V:=by
 obtain ⟨h0,h1,h2,h3⟩:=qjh j.top;have hc:=j.cl;have hkk:=j.kk;have hg:=j.g;exact ⟨⟨by omega,by omega,by omega,by omega,by omega,by omega,fun x hx=>by have:=j.hp x hx;omega⟩,by omega,j.top,j.cl,j.cg,j.pk⟩
theorem qnx {ports:List Int} {links:List Link} {hosts:List PortID} (h:qa2 ports links hosts=0):∀a∈qaj links hosts,exB ports a=true:=by
 unfold qa2 at h;split at h
 ·cases h
 split at h
 ·cases h
 split at h
 ·cases h
 split at h
 ·cases h
 unfold chkA at h;split at h
 ·cases h
 unfold chkB at h;split at h
 ·cases h
 rename_i hn;intro a ha;cases hx:exB ports a with
 | true=>rfl
 | false=>exact absurd (QCh.2 ⟨a,ha,by simp [hx]⟩) hn
theorem qtb {ports:List Int} {a:PortID} (h:exB ports a=true):0<=a.switch/\a.switch<ports.length:=by
 unfold exB at h;simp only [QAa,decide_eq_true_eq] at h;exact ⟨h.1,h.2.1⟩
theorem qqe {links:List Link} {hosts:List PortID}:(∀a∈hosts,a∈qaj links hosts)/\(∀l∈links,l.a∈qaj links hosts/\l.b∈qaj links hosts):=by
 unfold qaj qbt;rw [QAl];refine ⟨fun a ha=>List.mem_append_right _ ha,fun l hl=>⟨List.mem_append_left _ (List.mem_flatMap.2 ⟨l,hl,by simp⟩),List.mem_append_left _ (List.mem_flatMap.2 ⟨l,hl,by simp⟩)⟩⟩
theorem qrk (l:List Link) (k:Nat) (d:Bool) (n:Nat):qbt (setD l k d) n=qbt l n:=by
 unfold qbt setD;cases hl:l[k]? with
 | none=>rfl
 | some x=>
  simp only
  induction l generalizing k n with
  | nil=>simp at hl
  | cons a l ih=>cases n with
   | zero=>simp
   | succ n=>cases k with
    | zero=>simp at hl;subst hl;simp
    | succ k=>simp at hl;simp [ih k n hl]
theorem qv3 (ports:List Int) (l:List Link) (hosts:List PortID) (k:Nat) (d:Bool):qa2 ports (setD l k d) hosts=qa2 ports l hosts:=by
 have eD:chkD (setD l k d)=chkD l:=by
  unfold chkD;have:(setD l k d).any (fun l=>decide (l.a.switch=l.b.switch))=l.any (fun l=>decide (l.a.switch=l.b.switch)):=by
   unfold setD;cases hl:l[k]? with
   | none=>rfl
   | some x=>
    simp only
    induction l generalizing k with
    | nil=>simp at hl
    | cons a l ih=>cases k with
     | zero=>simp at hl;subst hl;simp
     | succ k=>simp at hl;simp [ih k hl]
  rw [this]
 have e:qaj (setD l k d) hosts=qaj l hosts:=by unfold qaj;rw [qje,qrk]
 unfold qa2 chkA chkB chkC;rw [e,eD,qje]
theorem qzi {ports:List Int} {links:List Link} {hosts:List PortID} {p:PortID} (h:(qbx ports links hosts p).2=0):0<=(qbx ports links hosts p).1.switch/\(qbx ports links hosts p).1.switch<ports.length:=by
 unfold qbx at h ⊢;by_cases z:qa2 ports links hosts=0
 rotate_left
 ·rw [QAb z] at h;exact absurd h z
 have hne:¬qa2 ports links hosts≠0:=fun hc=>hc z
 rw [QA hne] at h ⊢;by_cases a:qaq links (qb6 p.switch p.port) 0=true
 rotate_left
 ·rw [QA a] at h;cases h
 rw [QAb a] at h ⊢;obtain ⟨j,hj,h4,_⟩:=qlt a;have e:links.getD (ixF (qb6 p.switch p.port) links 0).toNat default=links[j]:=by simp [h4,hj]
 rw [e] at h ⊢;have hm:=(qqe (links:=links) (hosts:=hosts)).2 _ (Qd hj);have hA:=qtb (qnx z _ hm.1);have hB:=qtb (qnx z _ hm.2);unfold qf4 at h ⊢;split
 ·rename_i hd;rw [QAb hd] at h;cases h
 ·split
  ·exact hB
  ·exact hA
section
variable {G:Xf->Prop} {P:Xf->Int->List Int->Rslt×Xf} {U:NetV->Act->NetV×Int} {V:NetV} {k:Nat}
theorem NetJ.up (j:NetJ G k V):NetJ G (k+1) V:=⟨by have:=j.kk;omega,by have:=j.g;omega,fun x hx=>by have:=j.hp x hx;omega,j.top,j.cl,j.cg,j.pk⟩
theorem NetJ.send (j:NetJ G k V) (h:Int) (b:List Int) (hb:okB' b):NetJ G (k+1) (qd8 V h b).1:=by
 unfold qd8;split
 ·exact j.up
 split
 ·exact j.up
 split
 ·exact j.up
 rename_i h1 h2 h3;obtain ⟨i,rfl⟩:=QAe (show 0<=h by omega);have hi:i<V.hosts.length:=by omega
 have hex:=qtb (qnx j.top _ ((qqe (links:=V.links)).1 _ (Qd hi)));have hcl:=j.cl;refine ⟨by have:=j.kk;simp [NetV.ev];exact this,by have:=j.g;simp [NetV.ev];omega,?_,j.top,j.cl,j.cg,?_⟩
 ·intro x hx;simp only [NetV.ev,QAd,List.mem_singleton] at hx;rcases hx with hx | rfl
  ·have:=j.hp x hx;omega
  ·simp
 ·intro x hx;simp only [NetV.ev,QAd,List.mem_singleton] at hx ⊢;rcases hx with hx | rfl
  ·exact j.pk x hx
  ·refine ⟨hb,by simp only;omega,fun _=>?_⟩;simp [hi];omega
theorem NetJ.link (j:NetJ G k V) (h:Int) (d:Bool):NetJ G (k+1) (qd6 V h d).1:=by
 unfold qd6;split
 ·exact j.up
 ·exact ⟨by have:=j.kk;simp [NetV.ev];omega,by have:=j.g;simp [NetV.ev];omega,fun x hx=>by have:=j.hp x hx;omega,by simp only [NetV.ev];rw [qv3];exact j.top,j.cl,j.cg,j.pk⟩
theorem NetJ.step {g:Nat} (hP:PrcOk g G P) (j:NetJ G k V) (id:Int):NetJ G (k+1) (stpV P V id).1:=by
 by_cases hz:chkV V id=0
 rotate_left
 ·simp only [stpV,hz,ne_eq,not_false_eq_true,if_true];exact j.up
 obtain ⟨i,rfl,hi,hd⟩:=qpp hz;have hmem:=Qd hi;obtain ⟨hdb,hdl,hpos⟩:=j.pk _ hmem;obtain ⟨hs0,hs1⟩:=hpos hd;obtain ⟨x,hx⟩:∃x,V.pk[i]=x:=⟨_,rfl⟩;rw [hx] at hd hdb hdl hs0 hs1 hmem;obtain ⟨q,hs⟩:=QAe hs0;have hk:q<V.cs.length:=by omega
 have hG:=j.cg _ (Qd hk);have hgp:V.pk[i]?.getD default=x:=by simp [hi,hx]
 have hgc:V.cs[q]?.getD default=V.cs[q]:=by simp [hk]
 have hst:(stpV P V i).1=qda V i (P V.cs[q] x.pos.port x.data).1 (P V.cs[q] x.pos.port x.data).2:=by
  simp [stpV,hz,hgp,hs,hgc]
 rw [hst];have hG':=hP.cfg _ x.pos.port _ hG hdb hdl;have hdat:=hP.dat _ x.pos.port _ hG hdb hdl;generalize (P V.cs[q] x.pos.port x.data).1=r at*;generalize (P V.cs[q] x.pos.port x.data).2=c' at*;have hhp:=j.hp x hmem;have hcl:=j.cl;have hmv:(mv V x i r).2.length<=2/\(mv V x i r).1.hops.length<=k+1/\okB' (mv V x i r).1.data/\(mv V x i r).1.data.length<=1000/\((mv V x i r).1.done=false->0<=(mv V x i r).1.pos.switch/\(mv V x i r).1.pos.switch<V.cs.length):=by
  unfold mv;split
  ·simp [mvD,Pk.fin,hop1,hdb,hdl,hhp]
  ·unfold mvP;split
   ·simp [Pk.fin,hop1,hdat,hhp]
   split
   ·rename_i hpe;have:=qzi hpe;simp [hop1,hdat,hhp];intro _;omega
   ·simp [Pk.fin,hop1,hdat,hhp]
 unfold qda;have hgd:V.pk.getD i default=x:=by simp [hi,hx]
 rw [hgd];refine ⟨by have:=j.kk;simp;omega,by have:=j.g;simp;omega,?_,j.top,by simp [hcl],?_,?_⟩
 ·intro y hy;rcases Qq hy with hy | rfl
  ·have:=j.hp y hy;omega
  ·exact hmv.2.1
 ·intro c hc;rcases Qq hc with hc | rfl
  ·exact j.cg c hc
  ·exact hG'
 ·intro y hy;simp only [List.length_set];rcases Qq hy with hy | rfl
  ·exact j.pk y hy
  ·exact hmv.2.2
theorem NetJ.act {g:Nat} (hP:PrcOk g G P) (j:NetJ G k V) (a:Act) (hb:okB' a.data) (hU:a.dd=2->NetJ G (k+1) (U V a).1):NetJ G (k+1) (actV U P V a).1:=by
 unfold actV;split
 ·exact j.send _ _ hb
 split
 ·exact j.step hP _
 split
 ·rename_i h;exact hU h
 split
 ·exact j.link _ _
 ·exact j.up
end
@[simp] theorem NetV.r_len (V:NetV):V.r.length=6:=by simp [NetV.re]
def runV (U:NetV->Act->NetV×Int) (P:Xf->Int->List Int->Rslt×Xf) (V:NetV) (l:List Act):NetV:=l.foldl (fun W a=>(actV U P W a).1) V
def RQ (X:Nat->Prop) (N:Nat) (O:List (Nat×AO)) (f:AV) (V:NetV) (r:Option (Rt×AH)):Prop:=
 ∃O' N' n',r=some (.val (.bool true),⟨O',N'⟩)/\NetW O' n' V f (fun j=>X j\/N<=j)/\Fw X N O O' N'
section
variable {O:List (Nat×AO)} {n N g:Nat} {V:NetV} {X:Nat->Prop} {G:Xf->Prop} {P:Xf->Int->List Int->Rslt×Xf} {U:NetV->Act->NetV×Int}
theorem qzx (hP:PrcOk g G P) (hG:∀c,G c->CfgS c) (acts:List Act) (hl:acts.length<=100) (hb:∀a∈acts,okB' a.data/\a.data.length<=1000) (K0:Nat) (hK0:K0<=500) (j:NetJ G K0 V) (b:Bool)
  (hUj:∀a∈acts,a.dd=2->∀k W,k<=900->NetJ G k W->NetJ G (k+1) (U W a).1)
  (hS:∀a∈acts,∀W,NetI G W->qac Φ f_21 [.agg W.r,.agg a.c,.bool b]=some (.val (.tup [.agg (actV U P W a).1.r,.int .i64 (actV U P W a).2.1,.agg (Event.c (actV U P W a).2.2.1),.int .i64 (actV U P W a).2.2.2])))
  (hU:∀a∈acts,a.dd=2->∀(O:List (Nat×AO)) (N n C:Nat) (W:NetV) (pv lv:AV) (H:List AV),NetI G W->NetM O n W (.func (.func g) [] []) C pv lv H->Tail O N->NP (NetM.own n C pv lv H) N O n (.func (.func g) [] []) (U W a).1 (.int .i64 (U W a).2) (qah Φ f_41 [.ptr n 7 0 0,.int .i64 a.a,.int .i64 a.b,.agg [.int .i64 a.upd.switch,.slice 9 (a.upd.ops.map Xc.c)]] ⟨O,N⟩))
  (hw:NetW O n V (.func (.func g) [] []) X) (hT:Tail O N) (hXN:∀j,X j->j<N):
  RQ X N O (.func (.func g) [] []) (runV U P V acts) (qah Φ f_12 [.ptr n 7 0 0,.agg V.r,.slice 6 (acts.map Act.c),.bool b] ⟨O,N⟩):=by
 rw [qaz (fn:=c_12) rfl rfl];have t0:=hT N (Qb _);simp [c_12,t0];obtain ⟨C0,pv0,lv0,H0,m0,ho0⟩:=hw;refine qgd acts.length (fun i e h=>∃O' N' n' C pv lv H,h=⟨O',N'⟩/\NetM O' n' (runV U P V (acts.take i)) (.func (.func g) [] []) C pv lv H/\(∀j,NetM.own n' C pv lv H j->X j\/N+1<=j)/\look N O'=some (.row 6 [(runV U P V (acts.take i)).r])/\Fw X N O O' N'/\NetJ G (K0+i) (runV U P V (acts.take i))/\
   look 0 e=some (.ptr n' 7 0 0)/\look 2 e=some (.slice 6 (acts.map Act.c))/\look 3 e=some (.bool b)/\look 5 e=some (.ptr N 6 0 0)/\look 9 e=some (.int .i64 i)) (RQ X N O (.func (.func g) [] []) (runV U P V acts)) ?_ ?_ 0 _ _ (Qc _) ?_
 ·rintro i e _ L hi hL ⟨O',N',n',C,pv,lv,H,rfl,m,ho,hN,fw,jj,h0,h2,h3,h5,h9⟩ ih;have hwr:=qal i (by omega);have ha:=Qd hi;obtain ⟨hb1,hb2⟩:=hb _ ha;have I:=jj.I (by omega);have hstep:=hS _ ha _ I;have htk:runV U P V (acts.take (i+1))=(actV U P (runV U P V (acts.take i)) acts[i]).1:=by
   unfold runV;rw [Qh hi,List.foldl_append];rfl
  rw [htk] at ih;have jj':=jj.act hP acts[i] hb1 (hUj _ ha · _ _ (by omega) jj);rw [show K0+i+1=K0+(i+1) by omega] at jj';have hNl:=fw.tl.lt hN;obtain ⟨O2,N2,n2,e2,⟨C2,pv2,lv2,H2,m2,ho2⟩,fw2⟩:=qaaw (U:=U) hP I m (fun j h=>h) fw.tl acts[i] hb2 (fun d2 y hy=>by
   have m1:=m.mn (Mn.app (r:=[(N',y)]));exact hU _ ha d2 _ _ _ _ _ _ _ _ I m1 (fw.tl.app1 (Qb _)))
  generalize hW:runV U P V (acts.take i)=W at*;generalize hq:actV U P W acts[i]=q at*;have hNo:∀j,NetM.own n' C pv lv H j->j≠N:=by
   intro j hj;rcases ho j hj with h | h
   ·have:=hXN j h;omega
   ·omega
  have hN2:look N O2=some (.row 6 [W.r]):=by
   rw [fw2.kp N hNl ?_,hN];rintro (h | h)
   ·exact hNo N h rfl
   ·unfold Rs at h;rw [hN] at h;cases h
  have hNl2:=fw2.tl.lt hN2;have hT2:∀k,look (N2+k) O2=none:=fun k=>fw2.tl (N2+k) (by omega)
  have u0:=fw2.tl N2 (Qb _);have hT3:∀k,look (N2+1+k) O2=none:=fun k=>fw2.tl (N2+1+k) (by omega)
  have q0:¬N2=N/\¬N=N2:=by omega
  obtain ⟨q1,q2⟩:=q0;have q3:∀k,¬N2+1+k=N:=fun k=>by omega
  have q4:∀k,¬N=N2+1+k:=fun k=>by omega
  have q5:∀k,(N == N2+1+k)=false:=fun k=>by simp;omega
  have q6:(N2+2 == N2)=false/\(N2 == N2+2)=false:=by simp
  obtain ⟨q7,q8⟩:=q6;rw [Act.ce] at e2;rw [Event.ce] at e2;rw [NetV.re] at hN2;simp only [NetV.re,Act.ce,Event.ce] at hstep;simp [c_12_l0,h0,h2,h3,h5,h9,hi,hL,Act.ce,e2,hN2,hstep,u0,hT3,q1,q2,q3,q4,q5,q7,q8,hwr,NetV.re,Event.ce,qaf,qad,qan,qbd];have ho3:∀j,NetM.own n2 C2 pv2 lv2 H2 j->X j\/N+1<=j:=by
   intro j hj;rcases ho2 j hj with h | h
   ·exact ho j h
   ·right;omega
  have hNo2:∀j,NetM.own n2 C2 pv2 lv2 H2 j->j≠N:=by
   intro j hj;rcases ho3 j hj with h | h
   ·have:=hXN j h;omega
   ·omega
  have hfw:∀x y z,Fw X N O (setl N x (qay (N2+1+16) (qay (N2+1+14) (qau (O2++[(N2+1+14,y),(N2+1+16,z)]))))) (N2+1+16+1):=fun x y z=>by
   have f1:Fw X N O O2 N2:=fw.then fw2.kp (fun j hj hx=>by
    rcases hx with h | h
    ·rcases ho j h with h | h
     ·exact .inl h
     ·omega
    ·exact .inr h) fw2.tl fw2.le
   refine (((f1.appL (N2:=N2+1+16+1) ?_ (by omega)).sweep.drop (.inr (by omega))).drop (.inr (by omega))).set (.inr (Qb _));intro p hp;simp at hp;rcases hp with rfl | rfl<;>refine ⟨?_,?_⟩<;>simp only<;>omega
  refine ih _ _ ⟨_,_,n2,C2,pv2,lv2,H2,rfl,m2.fr fun j hj=>?_,ho3,?_,hfw _ _ _,jj',?_,?_,?_,?_,?_⟩
  ·obtain ⟨y,hy,hyr⟩:=m2.nr hj;have hjN:=fw2.tl.lt hy;have j1:=hNo2 j hj;have j2:∀k,¬j=N2+1+k:=fun k=>by omega
   simp [qad,j1,qbd,j2,qan,qaf,hy,hyr]
  ·simp [qad,qbd,q4,qan,qaf,hN2,NetV.re]
  all_goals simp [h2,h3,h5]
 ·rintro e _ L hL ⟨O',N',n',C,pv,lv,H,rfl,m,ho,hN,fw,jj,h0,h2,h3,h5,h9⟩;rw [QAl] at m hN jj;have I:=jj.I (by omega);have hs:=qzy (runV U P V acts) g I.s (fun c hc=>⟨hP.cc c (I.cg c hc),hG c (I.cg c hc)⟩) (fun x hx=>(I.pk x hx).2.1);have hsn:=fun k=>m.snp (N:=N') k
  rw [NetV.re] at hN hs;simp [c_12_l0,c_12_k1,h0,h2,h5,h9,hL,hN,hs,hsn];exact ⟨_,_,n',rfl,⟨C,pv,lv,H,m,fun j hj=>(ho j hj).imp id fun h=>by omega⟩,fw⟩
 ·refine ⟨_,_,n,C0,pv0,lv0,H0,rfl,?_,fun j hj=> .inl (ho0 j hj),?_,?_,?_,?_,?_,?_,?_,?_⟩
  ·exact m0.mn Mn.app
  ·simp [qaf,t0,runV]
  ·exact (Fw.init hT).app (Qb _) (QBa _) (QBj _)
  ·exact j
  all_goals simp
end
def GS (c:Xf):Prop:=CfgT c/\∀l∈c.rows,l.length<2^39
def ScG (G:Xf->Prop) (x:Option Rt):Prop:=∃(r:Rslt) (c':Xf),x=some (.val (.tup [.agg (Rslt.c r),.agg (Xf.c c')]))/\G c'/\okB' r.data/\r.data.length<=1000
def ScQ (_:Xf) (_:List Int) (x:Option Rt):Prop:=∃(r:Rslt) (c':Xf),x=some (.val (.tup [.agg (Rslt.c r),.agg (Xf.c c')]))/\GS c'/\okB' r.data/\r.data.length<=1000
theorem alB (l:List Int):qa7 1 (l.map c8)=true:=qce 1 c8 l fun x=>by simp [c8]
theorem wr32 (x:Int):0<=IntKind.wrap .u32 x/\IntKind.wrap .u32 x<=4294967295:=by
 simp [IntKind.wrap,IntKind.bits,IntKind.signed];omega
theorem qfu {c:Xf} (h:GS c) {v:Int} (hv:0<=v/\v<=4294967295):GS ⟨c.rows,c.Xr,c.Xq,[[v]]⟩:=
 ⟨⟨h.1.rl,h.1.rs,h.1.nl,h.1.dl,h.1.ds,by simp,by simp [ok32];exact hv⟩,h.2⟩
theorem qqt {c:Xf} {d0 d:List Int} {p v:Int} (hc:GS c) (hv:0<=v/\v<=4294967295) (hd:okB' d) (hl:d.length<=1000):ScQ c d0 (some (.val (.tup [.agg [.bool false,.int .i64 p,.slice 1 (d.map c8),.slice 3 []],.agg [.slice 1 (c.rows.map (cS 5 Rw.c)),.slice 1 (c.Xr.map cI),.slice 2 (c.Xq.map Xb.c),.slice 1 [[.slice 1 [[.int .u32 v]]]]]]))):=
 ⟨⟨false,p,d,[]⟩,⟨c.rows,c.Xr,c.Xq,[[v]]⟩,by simp [Rslt.ce,Xf.e4,c32,cS],qfu hc hv,hd,hl⟩
theorem qxk (c:Xf) (s:Int) (d:List Int) (hc:GS c) (hd:okB' d) (hl:d.length<=1000):ScQ c d (qac Φ f_13 [.agg (Xf.c c),.agg [.int .i64 s,.slice 1 (d.map c8)]]):=by
 rw [qaa (fn:=c_13) rfl rfl];cases hg:c.Xm with
 | nil=>
  cases d with
  | nil=>
   simp [c_13,Xf.e4,hg];refine ⟨⟨true,1,[1],[]⟩,⟨c.rows,c.Xr,c.Xq,[[1]]⟩,?_,qfu hc (by decide),by simp [okB'],by simp⟩;simp [Rslt.ce,Xf.e4,c8,c32,cS]
  | cons a d=>
   have hl1:d.length<=70368744177664:=by simp at hl;omega
   have z1:(1:Int)<=(d.length:Int)+1:=by omega
   have z0:¬(d.length:Int)+1=0:=by omega
   have hd':okB' d:=fun x hx=>hd x (QAj _ hx)
   by_cases z:a.tmod 5=4
   ·simp [c_13,Xf.e4,hg,c8,z0,z1,z];refine ⟨⟨true,1,[1],[]⟩,⟨c.rows,c.Xr,c.Xq,[[1]]⟩,?_,qfu hc (by decide),by simp [okB'],by simp⟩;simp [Rslt.ce,Xf.e4,c8,c32,cS]
   ·simp [c_13,Xf.e4,hg,c8,z0,z1,z,alB,hl1];exact qqt (v:=1) hc (by decide) hd' (by simp at hl;omega)
 | cons r rs=>cases r with
  | nil=>
   cases d with
   | nil=>
    simp [c_13,Xf.e4,hg,cS];refine ⟨⟨true,1,[1],[]⟩,⟨c.rows,c.Xr,c.Xq,[[1]]⟩,?_,qfu hc (by decide),by simp [okB'],by simp⟩;simp [Rslt.ce,Xf.e4,c8,c32,cS]
   | cons a d=>
    have hl1:d.length<=70368744177664:=by simp at hl;omega
    have z1:(1:Int)<=(d.length:Int)+1:=by omega
    have z0:¬(d.length:Int)+1=0:=by omega
    have hd':okB' d:=fun x hx=>hd x (QAj _ hx)
    by_cases z:a.tmod 5=4
    ·simp [c_13,Xf.e4,hg,c8,z0,z1,z,cS];refine ⟨⟨true,1,[1],[]⟩,⟨c.rows,c.Xr,c.Xq,[[1]]⟩,?_,qfu hc (by decide),by simp [okB'],by simp⟩;simp [Rslt.ce,Xf.e4,c8,c32,cS]
    ·simp [c_13,Xf.e4,hg,c8,z0,z1,z,alB,hl1,cS];exact qqt (v:=1) hc (by decide) hd' (by simp at hl;omega)
  | cons x xs=>
   cases d with
   | nil=>
    simp [c_13,Xf.e4,hg,cS,c32];refine ⟨⟨true,1,[1],[]⟩,⟨c.rows,c.Xr,c.Xq,[[IntKind.wrap .u32 (x+IntKind.wrap .u32 0)]]⟩,?_,qfu hc (wr32 _),by simp [okB'],by simp⟩;simp [Rslt.ce,Xf.e4,c8,c32,cS]
   | cons a d=>
    have hl1:d.length<=70368744177664:=by simp at hl;omega
    have z1:(1:Int)<=(d.length:Int)+1:=by omega
    have z0:¬(d.length:Int)+1=0:=by omega
    have hd':okB' d:=fun x hx=>hd x (QAj _ hx)
    by_cases z:a.tmod 5=4
    ·simp [c_13,Xf.e4,hg,c8,z0,z1,z,cS,c32];refine ⟨⟨true,1,[1],[]⟩,⟨c.rows,c.Xr,c.Xq,[[IntKind.wrap .u32 (x+IntKind.wrap .u32 ((d.length:Int)+1))]]⟩,?_,qfu hc (wr32 _),by simp [okB'],by simp⟩;simp [Rslt.ce,Xf.e4,c8,c32,cS]
    ·simp [c_13,Xf.e4,hg,c8,z0,z1,z,alB,hl1,cS,c32];exact qqt hc (wr32 _) hd' (by simp at hl;omega)
theorem qabx {g:Nat} {G:Xf->Prop} (h:∀c s d,G c->okB' d->d.length<=1000->ScG G (qac Φ g [.agg (Xf.c c),.agg [.int .i64 s,.slice 1 (d.map c8)]])) (hc:∀c,G c->CfgC c):∃P,PrcOk g G P:=by
 have key:∀x:Xf×Int×List Int,∃q:Rslt×Xf,G x.1->okB' x.2.2->x.2.2.length<=1000->qac Φ g [.agg (Xf.c x.1),.agg [.int .i64 x.2.1,.slice 1 (x.2.2.map c8)]]=some (.val (.tup [.agg (Rslt.c q.1),.agg (Xf.c q.2)]))/\G q.2/\okB' q.1.data/\q.1.data.length<=1000:=by
  intro x;by_cases a:G x.1/\okB' x.2.2/\x.2.2.length<=1000
  ·obtain ⟨r,c',e,h1,h2,h3⟩:=h x.1 x.2.1 x.2.2 a.1 a.2.1 a.2.2;exact ⟨(r,c'),fun _ _ _=>⟨e,h1,h2,h3⟩⟩
  ·exact ⟨default,fun h1 h2 h3=>absurd ⟨h1,h2,h3⟩ a⟩
 refine ⟨fun c s d=>(key (c,s,d)).choose,⟨fun c s d h1 h2 h3=>?_,fun c s d h1 h2 h3=>?_,fun c s d h1 h2 h3=>?_,hc⟩⟩
 ·exact ((key (c,s,d)).choose_spec h1 h2 h3).1
 ·exact ((key (c,s,d)).choose_spec h1 h2 h3).2.1
 ·exact ((key (c,s,d)).choose_spec h1 h2 h3).2.2
theorem qqu:∃P,PrcOk f_13 GS P:=qabx (fun c s d h1 h2 h3=>qxk c s d h1 h2 h3) fun _ h=>cfgCT h.1 h.2
def LgQ (ports:List Int) (links:List Link) (hosts:List PortID) (cs:List Xf) (acts:List Act) (x:Option Rt):Prop:=
 ∃b,x=some (.val (.bool b))/\(b=false->ports.length<=20/\links.length<=40/\hosts.length<=20/\cs.length<=20/\acts.length<=40/\∀a∈acts,a.data.length<=600/\a.upd.ops.length<=70)
theorem qwq (ports:List Int) (links:List Link) (hosts:List PortID) (cs:List Xf) (acts:List Act) (h5:∀c∈cs,c.rows.length<2^40):
  LgQ ports links hosts cs acts (qac Φ f_7 [.agg [.slice 1 (ports.map cI),.slice 5 (links.map Link.c),.slice 2 (hosts.map PortID.c)],.slice 4 (cs.map Xf.c),.slice 6 (acts.map Act.c)]):=by
 rw [qaa (fn:=c_7) rfl rfl];by_cases a1:20<ports.length
 ·exact ⟨true,by simp [c_7,a1],by simp⟩
 by_cases a2:40<links.length
 ·exact ⟨true,by simp [c_7,a1,a2],by simp⟩
 by_cases a3:20<hosts.length
 ·exact ⟨true,by simp [c_7,a1,a2,a3],by simp⟩
 by_cases a4:20<cs.length
 ·exact ⟨true,by simp [c_7,a1,a2,a3,a4],by simp⟩
 by_cases a5:40<acts.length
 ·exact ⟨true,by simp [c_7,a1,a2,a3,a4,a5],by simp⟩
 simp [c_7,a1,a2,a3,a4,a5];refine qnp cs.length (fun i e=>look 1 e=some (.slice 4 (cs.map Xf.c))/\look 2 e=some (.slice 6 (acts.map Act.c))/\look 8 e=some (.int .i64 i)/\∃q:Int,look 7 e=some (.int .i64 q)) (LgQ ports links hosts cs acts) ?_ ?_ 0 _ (Qc _) ?_
 ·rintro i e L hi hL ⟨q1,q2,q8,q,q7⟩ ih;have hw:=qal i (by omega);simp [c_7_l2,q1,q2,q7,q8,hi,hL];obtain ⟨rows,hrows⟩:∃rows,cs[i].rows=rows:=⟨_,rfl⟩;have hrl:rows.length<2^40:=by rw [<- hrows];exact h5 _ (Qd hi)
  refine qnp rows.length (fun k e=>look 1 e=some (.slice 4 (cs.map Xf.c))/\look 2 e=some (.slice 6 (acts.map Act.c))/\look 8 e=some (.int .i64 i)/\look 9 e=some (.int .i64 k)/\∃q:Int,look 7 e=some (.int .i64 q)) (LgQ ports links hosts cs acts) ?_ ?_ 0 _ (Qc _) ?_
  ·rintro k e' L' hk hL' ⟨p1,p2,p8,p9,q,p7⟩ ih';have hw':=qal k (by omega);have hgk:(rows.map fun r=>cS 5 Rw.c r)[k]? =some [.slice 5 (rows[k].map Rw.c)]:=by simp [hk,cS]
   simp [c_7_l0,p1,p2,p7,p8,p9,hi,hk,hL',hw',Xf.c,hrows,hgk,cS];exact ih' _ ⟨by simp [p1],by simp [p2],by simp [p8],by simp,IntKind.wrap .i64 (q+(rows[k].length:Int)),by simp⟩
  ·rintro e' L' hL' ⟨p1,p2,p8,p9,q,p7⟩;simp [c_7_l0,c_7_k1,p1,p2,p7,p8,p9,hi,hL',Xf.c,hrows,hw];exact ih _ ⟨by simp [p1],by simp [p2],by simp,q,by simp [p7]⟩
  ·simp [q1,q2,q7,q8]
 ·rintro e L hL ⟨q1,q2,q8,q,q7⟩;simp [c_7_l2,c_7_k5,q1,q2,q7,q8,hL];refine qnp acts.length (fun i e=>look 2 e=some (.slice 6 (acts.map Act.c))/\look 7 e=some (.int .i64 q)/\look 10 e=some (.int .i64 i)/\∀a∈acts.take i,a.data.length<=600/\a.upd.ops.length<=70) (LgQ ports links hosts cs acts) ?_ ?_ 0 _ (Qc _) ?_
  ·rintro i e L hi hL ⟨q2,q7,q10,hall⟩ ih;have hw:=qal i (by omega);by_cases z1:600<acts[i].data.length
   ·simp [c_7_l3,q2,q10,hi,hL,Act.ce,z1];exact ⟨true,rfl,by simp⟩
   by_cases z2:70<acts[i].upd.ops.length
   ·simp [c_7_l3,q2,q10,hi,hL,Act.ce,z1,z2];exact ⟨true,rfl,by simp⟩
   simp [c_7_l3,q2,q10,hi,hL,Act.ce,z1,z2,hw];refine ih _ ⟨by simp [q2],by simp [q7],by simp,?_⟩;intro a ha;rw [Qh hi] at ha;rcases QAd.1 ha with ha | ha
   ·exact hall a ha
   ·simp at ha;subst ha;omega
  ·rintro e L hL ⟨q2,q7,q10,hall⟩;rw [QAl] at hall;simp [c_7_l3,c_7_k4,q2,q7,q10,hL];exact ⟨_,rfl,fun _=>⟨by omega,by omega,by omega,by omega,by omega,hall⟩⟩
  ·simp [q2,q7]
 ·simp
end Go.Av
