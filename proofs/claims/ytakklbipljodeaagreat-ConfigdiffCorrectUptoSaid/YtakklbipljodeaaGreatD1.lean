/-
 The difference of two configurations, as plain lists of operations.
-/
import Derived.Test.YtakklbipljodeaaGreatY1
import Derived.Test.YtakklbipljodeaaGreatW30K
set_option linter.unusedVariables false
set_option linter.unusedSimpArgs false
set_option linter.constructorNameAsVariable false
namespace Go.Av
set_option maxRecDepth 4000
def delO (t:Int) (r:Rw):TableOp:=⟨3,t,r.id,noE,noCl⟩
def modO (t:Int) (r:Rw) (c:ActionCall):TableOp:=⟨2,t,r.id,noE,c⟩
def insO (t:Int) (r:Rw):TableOp:=⟨1,t,0,r.entry,noCl⟩
def setO (t:Int) (c:ActionCall):TableOp:=⟨4,t,0,noE,c⟩
def delG (t:Int):List Rw->Nat->List Nat->List TableOp
 | [],_,_=>[]
 | r::x,i,[]=>delO t r::delG t x (i+1) []
 | r::x,i,s::ss=>if s=i then delG t x (i+1) ss else delO t r::delG t x (i+1) (s::ss)
def modG (t:Int) (x:List Rw):List Nat->List Rw->List TableOp
 | s::ss,r::y=>match x[s]? with
  | some q=>if q.entry.call=r.entry.call then modG t x ss y else modO t q r.entry.call::modG t x ss y
  | none=>modG t x ss y
 | _,_=>[]
def tabG (t:Int) (x y:List Rw) (da db:ActionCall):List TableOp:=
 delG t x 0 (qbi x 0 y)++(modG t x (qbi x 0 y) y++((y.drop (qbi x 0 y).length).map (insO t)++(if da=db then [] else [setO t db])))
theorem qhy (a:List Rw):∀(b:List Rw) (f:Nat),(qbi a f b).length<=b.length
 | [],_=>by simp [qbi]
 | y::b,f=>by
  rw [qbi];cases atF a y.entry with
  | none=>simp
  | some i=>
   simp only;split
   ·simp only [List.length_cons];have:=qhy a b (i+1);omega
   ·simp
theorem qi2 (a:List Rw):∀(b:List Rw) (f:Nat),∀i∈qbi a f b,f<=i/\i<a.length
 | [],_,i,h=>by simp [qbi] at h
 | y::b,f,i,h=>by
  rw [qbi] at h;cases hx:atF a y.entry with
  | none=>rw [hx] at h;simp at h
  | some j=>
   rw [hx] at h;have hj:j<a.length:=(List.findIdx?_eq_some_iff_getElem.1 hx).1;simp only at h;split at h
   ·rcases List.mem_cons.1 h with rfl | h
    ·exact ⟨by assumption,hj⟩
    ·have:=qi2 a b (j+1) i h;omega
   ·simp at h
theorem qmd (a:List Rw):∀(b:List Rw) (f:Nat),(qbi a f b).Pairwise (· < ·)
 | [],_=>by simp [qbi]
 | y::b,f=>by
  rw [qbi];cases hx:atF a y.entry with
  | none=>simp
  | some j=>
   simp only;split
   ·rw [List.pairwise_cons];exact ⟨fun i hi=>by have:=(qi2 a b (j+1) i hi).1;omega,qmd a b (j+1)⟩
   ·simp
theorem sk_tr {a b x:Entry} (h1:sk a x=true) (h2:sk b x=true):sk a b=true:=by
 unfold sk at*;simp only [decide_eq_true_eq] at*;exact ⟨h1.1.trans h2.1.symm,h1.2.trans h2.2.symm⟩
def opsD (p:Prg) (a b:Config):Nat->List TableOp
 | 0=>[]
 | t+1=>opsD p a b t++tabG t (qak a t) (qak b t) (qa9 a t) (qa9 b t)
def insN (l:List TableOp) (t:Int):Nat:=(l.filter fun o=>decide (o.kind=1/\o.table=t)).length
def qgn (p:Prg) (a:Config) (l:List TableOp):Bool:=(List.range p.tables.length).any fun t=>decide (1073741824 - qbr a t<insN l t)
def qeb (p:Prg) (a b:Config):AV:=
 if cfgE p a≠0 then .tup [.slice 9 [],.int .i64 (cfgE p a)] else if cfgE p b≠0 then .tup [.slice 9 [],.int .i64 (cfgE p b)]
 else if 64<(opsD p a b p.tables.length).length then .tup [.slice 9 [],.int .i64 12]
 else if qgn p a (opsD p a b p.tables.length) then .tup [.slice 9 [],.int .i64 13]
 else .tup [.slice 9 ((opsD p a b p.tables.length).map TableOp.c),.int .i64 0]
theorem qkb (x y:ActionCall) (h:x.args.length<2^40):qab Φ f_103 [.agg (ActionCall.c x),.agg (ActionCall.c y)]=some (.val (.bool (decide (x=y)))):=by
 rw [qaa (fn:=c_103) rfl rfl];have hee:=qaa4 ⟨[],0,x⟩ ⟨[],0,y⟩ ⟨by simp,h⟩;have e:decide ((⟨[],0,x⟩:Entry)=⟨[],0,y⟩)=decide (x=y):=by simp
 rw [e] at hee;simp only [Entry.ce,List.map_nil] at hee;simp [c_103,ActionCall.ce,hee]
theorem qic (x:ActionCall) (h:x.args.length<2^40):qab Φ f_104 [.agg (ActionCall.c x)]=some (.val (.agg (ActionCall.c x))):=by
 rw [qaa (fn:=c_104) rfl rfl];have h4:x.args.length*4<=70368744177664:=by omega
 by_cases z:x.args=[]
 ·simp [c_104,ActionCall.ce,z]
 ·simp [c_104,ActionCall.ce,h4,z]
theorem qqq (x:Entry) (hx:EntS x):qab Φ f_105 [.agg (Entry.c x)]=some (.val (.agg (Entry.c x))):=by
 rw [qaa (fn:=c_105) rfl rfl];have hc:=qic x.call hx.al;have h8:x.keys.length*8<=70368744177664:=by have:=hx.kl;omega
 simp only [ActionCall.ce] at hc;by_cases z:x.keys=[]
 ·simp [c_105,Entry.ce,z,hc]
 ·simp [c_105,Entry.ce,h8,z,hc]
theorem qabs (l:List TableOp) (t:Int) {i:Nat} (hi:i<l.length):insN (l.take (i+1)) t=insN (l.take i) t+if l[i].kind=1/\l[i].table=t then 1 else 0:=by
 unfold insN;rw [Qh hi,List.filter_append,List.length_append];by_cases z:l[i].kind=1/\l[i].table=t<;>simp [z]
theorem qaho (l:List TableOp) (t:Int):insN l t<=l.length:=List.length_filter_le _ _
theorem qxa (l:List TableOp) (hl:l.length<2^40) (t:Int):qab Φ f_106 [.slice 9 (l.map TableOp.c),.int .i64 t]=some (.val (.int .i64 (insN l t:Nat))):=by
 rw [qaa (fn:=c_106) rfl rfl];simp [c_106];refine qav l.length (fun _=>[]) 0 (fun i e=>look 1 e=some (.int .i64 t)/\look 5 e=some (.int .i64 (insN (l.take i) t:Nat))/\look 8 e=some (.slice 9 (l.map TableOp.c))/\look 9 e=some (.int .i64 l.length)/\look 10 e=some (.int .i64 i)) (fun _=>some (Rt.val (.int .i64 (insN l t:Nat)))) ?_ ?_ 0 _ _ (Qc _) (Qc _) ?_
 ·rintro i e n L hi hL - ⟨h1,h5,h8,h9,h10⟩ ih;have hw:=qaf i (by omega);have hs:=qabs l t hi;have hb:=qaho (l.take i) t;rw [List.length_take] at hb;have hw2:IntKind.wrap .i64 ((insN (l.take i) t:Nat)+1)=(((insN (l.take i) t)+1:Nat):Int):=qa5 (by omega) (by omega);by_cases z1:l[i].kind=1
  ·by_cases z2:l[i].table=t
   ·rw [if_pos ⟨z1,z2⟩] at hs;simp [c_106_l0,TableOp.ce2,h1,h5,h8,h9,h10,hi,hL,z1,z2,hw,hw2];exact ih _ _ (Qc _) ⟨by simp [h1],by simp [hs],by simp [h8,TableOp.ce2],by simp [h9],by simp⟩
   ·rw [if_neg (fun h=>z2 h.2)] at hs;simp [c_106_l0,TableOp.ce2,h1,h5,h8,h9,h10,hi,hL,z1,z2,hw];exact ih _ _ (Qc _) ⟨by simp [h1],by simp [hs,h5],by simp [h8,TableOp.ce2],by simp [h9],by simp⟩
  ·rw [if_neg (fun h=>z1 h.1)] at hs;simp [c_106_l0,TableOp.ce2,h1,h5,h8,h9,h10,hi,hL,z1,hw];exact ih _ _ (Qc _) ⟨by simp [h1],by simp [hs,h5],by simp [h8,TableOp.ce2],by simp [h9],by simp⟩
 ·rintro e n L hL - ⟨h1,h5,h8,h9,h10⟩;rw [List.take_length] at h5;simp [c_106_l0,c_106_k1,h5,h9,h10,hL]
 ·simp [insN]
def OutB (O:List (Nat×AO)) (B:Nat) (out:List TableOp):Prop:=(out=[]/\look B O=some (.row 1 [[.fslice 9 []]]))\/∃T,look B O=some (.row 1 [[.app 9 (out.map TableOp.c) T]])/\look T O=some (.tok 9 out.length)
def isTok (O:List (Nat×AO)) (j:Nat):Prop:=∃z f,look j O=some (.tok z f)
def qajm (N:Nat) (O:List (Nat×AO)) (B:Nat) (out:List TableOp) (r:Option (Rt×AH)):Prop:=
 ∃O' N',r=some (.val (.tup []),⟨O',N'⟩)/\OutB O' B out/\Kp (fun j=>j=B\/isTok O j) N O O'/\Tail O' N'/\N<=N'
theorem qajp {O:List (Nat×AO)} {N:Nat} (hT:Tail O N) {B:Nat} {out:List TableOp} (hB:OutB O B out) (hol:out.length<2^38) (t:Int) {o:TableOp} {w:List AV} (hw:OpL o w):
  qajm N O B (out++[⟨o.kind,t,o.id,o.entry,o.call⟩]) (qam Φ f_102 [.agg w,.iptr 1 [[.int .i64 t]] 0 0,.ptr B 1 0 0] ⟨O,N⟩):=by
 obtain ⟨k,a,ca,rfl,h1,h2,h3,-,-⟩:=hw.ex;have e1:=fun H=>h1.snp (n:=39) (H:=H) (by simp)
 have e2:=fun H=>h2.snp (n:=39) (H:=H) (by simp)
 have e3:=fun H=>h3.snp (n:=39) (H:=H) (by simp)
 have g1:bor 40 k=false:=by rcases h1 with rfl | ⟨rfl,-⟩<;>simp
 have g2:bor 40 a=false:=by rcases h2 with rfl | ⟨rfl,-⟩<;>simp
 have g3:bor 40 ca=false:=by rcases h3 with rfl | ⟨rfl,-⟩<;>simp
 rw [qbs (fn:=c_102) rfl rfl];have t0:=hT N (Qb _);have t1:=hT (N+1) (by omega);have h120:(out.length+1)*120<=70368744177664:=by omega
 rcases hB with ⟨rfl,hB⟩ | ⟨T,hB,hk⟩
 ·have hlt:=hT.lt hB;have d0:¬B=N:=by omega
  have d0':¬N=B:=by omega
  have d1:¬B=N+1:=by omega
  have d1':¬N+1=B:=by omega
  simp [c_102,t0,t1,hB,qai,qad,d0,d0',d1,d1',nne N,nbq N,e1,e2,e3,g1,g2,g3];refine ⟨_,_,rfl,.inr ⟨N+1,by simp [qad,qai,hB,TableOp.ce2],by simp [qad,qai,t1,d1',nne N]⟩,Kp.setl (Kp.apps ?_) (.inr (.inl rfl)),qap (hT.apps (by omega) ?_),by omega⟩
  ·simp only [List.mem_cons,List.not_mem_nil,or_false];rintro x (rfl | rfl)<;>simp
  ·simp only [List.mem_cons,List.not_mem_nil,or_false];rintro x (rfl | rfl)<;>simp only<;>omega
 ·have hlt:=hT.lt hB;have hlT:=hT.lt hk;have d0:¬B=N:=by omega
  have d0':¬N=B:=by omega
  have d2:¬T=N:=by omega
  have d2':¬N=T:=by omega
  have hBT:¬B=T:=qau hB hk (by simp);have hBT':¬T=B:=fun h=>hBT h.symm
  simp [c_102,t0,t1,hB,hk,qai,qad,d0,d0',d2,d2',hBT,hBT',nne N,nbq N,e1,e2,e3,g1,g2,g3,h120];refine ⟨_,_,rfl,.inr ⟨T,by simp [qad,qai,hB,hBT,TableOp.ce2],by simp [qad,qai,hk,hBT']⟩,Kp.setl (Kp.setl (Kp.apps (by simp)) (.inr (.inr ⟨_,_,hk⟩))) (.inr (.inl rfl)),qap (qap (hT.apps (by omega) (by simp))),by omega⟩
structure DfE (n t:Nat) (x y:List Rw) (same:List Nat) (b3 b4 b5 B:Nat) (e:Env):Prop where
 e3:look 3 e=some (.ptr b3 9 0 0)
 e4:look 4 e=some (.ptr b4 4 0 0)
 e5:look 5 e=some (.ptr b5 4 0 0)
 e10:look 10 e=some (.ptr B 1 0 0)
 e11:look 11 e=some (.iptr 1 [[.int .i64 t]] 0 0)
 e12:look 12 e=some (.slice 5 (x.map Rw.c))
 e13:look 13 e=some (.slice 5 (y.map Rw.c))
 e14:look 14 e=some (.slice 1 (same.map cN))
 e15:look 15 e=some (.func (.func f_102) [] [.iptr 1 [[.int .i64 t]] 0 0,.ptr B 1 0 0])
 e39:look 39 e=some (.int .i64 n)
 e40:look 40 e=some (.int .i64 t)
structure DfO (p:Prg) (a b:Config) (b3 b4 b5 B:Nat) (out:List TableOp) (O:List (Nat×AO)) (N:Nat):Prop where
 tl:Tail O N
 ob:OutB O B out
 l3:look b3 O=some (.row 9 [Prg.c p])
 l4:look b4 O=some (.row 4 [Config.c a])
 l5:look b5 O=some (.row 4 [Config.c b])
 n3:b3≠B
 n4:b4≠B
 n5:b5≠B
theorem DfO.mono {p:Prg} {a b:Config} {b3 b4 b5 B:Nat} {out:List TableOp} {O:List (Nat×AO)} {N N':Nat} (h:DfO p a b b3 b4 b5 B out O N) (hn:N<=N'):DfO p a b b3 b4 b5 B out O N':=⟨h.tl.mono hn,h.ob,h.l3,h.l4,h.l5,h.n3,h.n4,h.n5⟩
theorem DfO.add {p:Prg} {a b:Config} {b3 b4 b5 B:Nat} {out:List TableOp} {O:List (Nat×AO)} {N:Nat} (h:DfO p a b b3 b4 b5 B out O N) (hol:out.length<2^38) (t:Int) {o:TableOp} {w:List AV} (hw:OpL o w):
  ∃O' N',qam Φ f_102 [.agg w,.iptr 1 [[.int .i64 t]] 0 0,.ptr B 1 0 0] ⟨O,N⟩=some (.val (.tup []),⟨O',N'⟩)/\DfO p a b b3 b4 b5 B (out++[⟨o.kind,t,o.id,o.entry,o.call⟩]) O' N':=by
 obtain ⟨O',N',e,hb,hk,hT,hN⟩:=qajp h.tl h.ob hol t hw;have kp:∀j z es,j≠B->look j O=some (.row z es)->look j O'=some (.row z es):=fun j z es hj hl=>by
  rw [hk j (h.tl.lt hl),hl];rintro (hc | ⟨z',f,hc⟩)
  ·exact hj hc
  ·rw [hl] at hc;cases hc
 exact ⟨O',N',e,hT,hb,kp _ _ _ h.n3 h.l3,kp _ _ _ h.n4 h.l4,kp _ _ _ h.n5 h.l5,h.n3,h.n4,h.n5⟩
theorem delG_nil (t:Int) (r:Rw) (x:List Rw) (i:Nat):delG t (r::x) i []=delO t r::delG t x (i+1) []:=rfl
theorem qiy (t:Int):∀(x:List Rw) (i:Nat) (ss:List Nat),(delG t x i ss).length<=x.length
 | [],_,_=>by simp [delG]
 | r::x,i,[]=>by rw [delG];simp only [List.length_cons];have:=qiy t x (i+1) [];omega
 | r::x,i,s::ss=>by
  rw [delG];split
  ·have:=qiy t x (i+1) ss;simp only [List.length_cons];omega
  ·simp only [List.length_cons];have:=qiy t x (i+1) (s::ss);omega
theorem df0 {β:Type} {fin:Option (Ex×St)->Option β} (p:Prg) (a b:Config) (n t:Nat) (x y:List Rw) (same:List Nat) (hx:x.length<2^37) (hs:same.length<2^37) (hs2:∀s∈same,s<2^40) {b3 b4 b5 B:Nat} (out:List TableOp) (hol:out.length<2^37) {K:List Go.Av.Fr} {R:Option β}
  (hK:∀e O N,DfE n t x y same b3 b4 b5 B e->DfO p a b b3 b4 b5 B (out++delG t x 0 same) O N->go Φ fin K .normal ⟨e,⟨O,N⟩⟩=R) (e0:Env)
  (O:List (Nat×AO)) (N:Nat) (hE:DfE n t x y same b3 b4 b5 B e0) (hO:DfO p a b b3 b4 b5 B out O N) (h57:look 57 e0=some (.slice 5 (x.map Rw.c))) (h58:look 58 e0=some (.int .i64 x.length)) (h59:look 59 e0=some (.int .i64 0)) (h16:look 16 e0=some (.int .i64 0)):
  go Φ fin (.c (.loop c_40_l0):: .b 2::K) .normal ⟨e0,⟨O,N⟩⟩=R:=by
 refine qcm x.length (fun i e h=>∃O N k o,h=⟨O,N⟩/\DfE n t x y same b3 b4 b5 B e/\DfO p a b b3 b4 b5 B o O N/\o.length<=out.length+i/\o++delG t (x.drop i) i (same.drop k)=out++delG t x 0 same/\k<=same.length/\k<=i/\look 16 e=some (.int .i64 (k:Nat))/\look 57 e=some (.slice 5 (x.map Rw.c))/\look 58 e=some (.int .i64 x.length)/\look 59 e=some (.int .i64 i))
  (fun _=>R) ?_ ?_ 0 _ _ (Qc _) ⟨O,N,0,out,rfl,hE,hO,by omega,by simp,Qc _,Qc _,h16,h57,h58,h59⟩
 ·rintro i e _ L hi hL ⟨O,N,k,o,rfl,hE,hO,hol2,hd,hkl,hki,h16,h57,h58,h59⟩ ih;have hw:=qaf i (by omega);have hwk:=qaf k (by omega);have t0:=hO.tl N (Qb _);rw [Qi hi] at hd;have hadd:=fun M (hM:N<=M)=>(hO.mono hM).add (by omega) t (o:=⟨3,0,x[i].id,noE,noCl⟩) (w:=[.int .i64 3,.int .i64 0,.int .i64 x[i].id,.fslice 2 [],.int .i64 0,.int .i64 0,.fslice 1 [],.int .i64 0,.fslice 1 []]) ⟨_,_,_,rfl,.nil,.nil,.nil,by simp,by simp⟩
  by_cases hk:k<same.length
  ·rw [Qi hk,delG] at hd;by_cases hq:same[k]=i
   ·rw [if_pos hq] at hd;simp [c_40_l0,Rw.ce,hE.e12,hE.e13,hE.e14,hE.e15,h16,h57,h58,h59,hi,hL,hk,cN,hq,t0,qai,qad,hw,hwk];exact ih _ _ ⟨_,_,k+1,o,rfl,⟨by simp [hE.e3],by simp [hE.e4],by simp [hE.e5],by simp [hE.e10],by simp [hE.e11],by simp [hE.e12,Rw.ce],by simp [hE.e13],by simp [hE.e14,cN],by simp [hE.e15],by simp [hE.e39],by simp [hE.e40]⟩,hO.mono (Nat.le_succ _),by omega,hd,by omega,by omega,by simp,by simp [h57,Rw.ce],by simp [h58],by simp⟩
   ·rw [if_neg hq] at hd;obtain ⟨O',N',ea,hO'⟩:=hadd (N+1) (by omega);have hq':¬((same[k]:Int)=(i:Int)):=by omega
    simp [c_40_l0,Rw.ce,hE.e12,hE.e13,hE.e14,hE.e15,h16,h57,h58,h59,hi,hL,hk,cN,hq',t0,qai,qad,hw,hwk,ea];refine ih _ _ ⟨_,_,k,_,rfl,⟨by simp [hE.e3],by simp [hE.e4],by simp [hE.e5],by simp [hE.e10],by simp [hE.e11],by simp [hE.e12,Rw.ce],by simp [hE.e13],by simp [hE.e14,cN],by simp [hE.e15],by simp [hE.e39],by simp [hE.e40]⟩,hO',by simp;omega,?_,hkl,by omega,by simp [h16],by simp [h57,Rw.ce],by simp [h58],by simp⟩;rw [<- hd,Qi hk];simp [delO]
  ·have hn:same.drop k=[]:=List.drop_eq_nil_of_le (by omega);rw [hn,delG_nil] at hd;obtain ⟨O',N',ea,hO'⟩:=hadd (N+1) (by omega);have hk':¬((k:Int)<(same.length:Int)):=by omega
   simp [c_40_l0,Rw.ce,hE.e12,hE.e13,hE.e14,hE.e15,h16,h57,h58,h59,hi,hL,hk,t0,qai,qad,hw,hwk,ea];refine ih _ _ ⟨_,_,k,_,rfl,⟨by simp [hE.e3],by simp [hE.e4],by simp [hE.e5],by simp [hE.e10],by simp [hE.e11],by simp [hE.e12,Rw.ce],by simp [hE.e13],by simp [hE.e14],by simp [hE.e15],by simp [hE.e39],by simp [hE.e40]⟩,hO',by simp;omega,?_,hkl,by omega,by simp [h16],by simp [h57,Rw.ce],by simp [h58],by simp⟩;rw [<- hd,hn];simp [delO]
 ·rintro e _ L hL ⟨O,N,k,o,rfl,hE,hO,hol2,hd,hkl,hki,h16,h57,h58,h59⟩;have hz:delG t (x.drop x.length) x.length (same.drop k)=[]:=by rw [List.drop_length];cases same.drop k<;>rfl
  rw [hz,List.append_nil] at hd;subst hd;simp [c_40_l0,h58,h59,hL];exact hK _ _ _ ⟨by simp [hE.e3],by simp [hE.e4],by simp [hE.e5],by simp [hE.e10],by simp [hE.e11],by simp [hE.e12],by simp [hE.e13],by simp [hE.e14],by simp [hE.e15],by simp [hE.e39],by simp [hE.e40]⟩ hO
theorem qok (t:Int) (x:List Rw):∀(ss:List Nat) (y:List Rw),(modG t x ss y).length<=ss.length
 | [],_=>by simp [modG]
 | s::ss,[]=>by simp [modG]
 | s::ss,r::y=>by
  have ih:=qok t x ss y;rw [modG];cases x[s]? with
  | none=>simp only [List.length_cons];omega
  | some q=>
   simp only;split<;>simp only [List.length_cons]<;>omega
theorem qab0 {t:Int} {x:List Rw} {s:Nat} {ss:List Nat} {r:Rw} {y:List Rw} (hs:s<x.length):modG t x (s::ss) (r::y)=if x[s].entry.call=r.entry.call then modG t x ss y else modO t x[s] r.entry.call::modG t x ss y:=by
 rw [modG,Qa hs]
theorem df1 {β:Type} {fin:Option (Ex×St)->Option β} (p:Prg) (a b:Config) (n t:Nat) (x y:List Rw) (same:List Nat) (hs:same.length<2^37) (hs2:∀s∈same,s<x.length) (hsy:same.length<=y.length) (hxa:∀r∈x,r.entry.call.args.length<2^40) (hya:∀r∈y,r.entry.call.args.length<2^40)
    {b3 b4 b5 B:Nat} (out:List TableOp) (hol:out.length<2^37) {K:List Go.Av.Fr} {R:Option β}
    (hK:∀e O N,DfE n t x y same b3 b4 b5 B e->DfO p a b b3 b4 b5 B (out++modG t x same y) O N->go Φ fin K .normal ⟨e,⟨O,N⟩⟩=R) (e0:Env)
    (O:List (Nat×AO)) (N:Nat) (hE:DfE n t x y same b3 b4 b5 B e0) (hO:DfO p a b b3 b4 b5 B out O N) (h84:look 84 e0=some (.slice 1 (same.map cN))) (h85:look 85 e0=some (.int .i64 same.length)) (h86:look 86 e0=some (.int .i64 0)):
    go Φ fin (.c (.loop c_40_l1):: .b 4::K) .normal ⟨e0,⟨O,N⟩⟩=R:=by
  refine qcm same.length (fun i e h=>∃O N o,h=⟨O,N⟩/\DfE n t x y same b3 b4 b5 B e/\DfO p a b b3 b4 b5 B o O N/\o.length<=out.length+i/\o++modG t x (same.drop i) (y.drop i)=out++modG t x same y/\look 84 e=some (.slice 1 (same.map cN))/\look 85 e=some (.int .i64 same.length)/\look 86 e=some (.int .i64 i))
    (fun _=>R) ?_ ?_ 0 _ _ (Qc _) ⟨O,N,out,rfl,hE,hO,by omega,by simp,h84,h85,h86⟩
  · rintro i e _ L hi hL ⟨O,N,o,rfl,hE,hO,hol2,hd,h84,h85,h86⟩ ih
    have hw:=qaf i (by omega);have hiy:i<y.length:=by omega
    have hsx:=hs2 same[i] (Qd hi);rw [Qi hi,Qi hiy,qab0 hsx] at hd;have he:=qkb x[same[i]].entry.call y[i].entry.call (hxa _ (Qd hsx));have hc:=qic y[i].entry.call (hya _ (Qd hiy));simp only [ActionCall.ce] at he hc;have hadd:=hO.add (by omega) t (o:=⟨2,0,x[same[i]].id,noE,y[i].entry.call⟩) (w:=[.int .i64 2,.int .i64 0,.int .i64 x[same[i]].id,.fslice 2 [],.int .i64 0,.int .i64 0,.fslice 1 [],.int .i64 y[i].entry.call.action,.slice 1 (y[i].entry.call.args.map c32)]) ⟨_,_,_,rfl,.nil,.nil,.sl,by simp,fun _ _=>rfl⟩;by_cases q:x[same[i]].entry.call=y[i].entry.call
    · rw [if_pos q] at hd
      rw [decide_eq_true q] at he;simp [c_40_l1,Rw.ce,hE.e12,hE.e13,hE.e15,h84,h85,h86,hi,hiy,hL,cN,hsx,he,hw];exact ih _ _ ⟨_,_,o,rfl,⟨by simp [hE.e3],by simp [hE.e4],by simp [hE.e5],by simp [hE.e10],by simp [hE.e11],by simp [hE.e12,Rw.ce],by simp [hE.e13,Rw.ce],by simp [hE.e14,cN],by simp [hE.e15],by simp [hE.e39],by simp [hE.e40]⟩,hO,by omega,hd,by simp [h84,cN],by simp [h85],by simp⟩
    · rw [if_neg q] at hd
      rw [decide_eq_false q] at he;obtain ⟨O',N',ea,hO'⟩:=hadd;simp [c_40_l1,Rw.ce,hE.e12,hE.e13,hE.e15,h84,h85,h86,hi,hiy,hL,cN,hsx,he,hc,ea,hw];refine ih _ _ ⟨_,_,_,rfl,⟨by simp [hE.e3],by simp [hE.e4],by simp [hE.e5],by simp [hE.e10],by simp [hE.e11],by simp [hE.e12,Rw.ce],by simp [hE.e13,Rw.ce],by simp [hE.e14,cN],by simp [hE.e15],by simp [hE.e39],by simp [hE.e40]⟩,hO',by simp;omega,?_,by simp [h84,cN],by simp [h85],by simp⟩;rw [<- hd];simp [modO]
  · rintro e _ L hL ⟨O,N,o,rfl,hE,hO,hol2,hd,h84,h85,h86⟩
    have hz:modG t x (same.drop same.length) (y.drop same.length)=[]:=by rw [List.drop_length,modG];simp
    rw [hz,List.append_nil] at hd;subst hd;simp [c_40_l1,h85,h86,hL];exact hK _ _ _ ⟨by simp [hE.e3],by simp [hE.e4],by simp [hE.e5],by simp [hE.e10],by simp [hE.e11],by simp [hE.e12],by simp [hE.e13],by simp [hE.e14],by simp [hE.e15],by simp [hE.e39],by simp [hE.e40]⟩ hO
theorem df2 {β:Type} {fin:Option (Ex×St)->Option β} (p:Prg) (a b:Config) (n t:Nat) (x y:List Rw) (same:List Nat) {z:List Rw} (hz:z.length<2^37) (hzs:∀r∈z,EntS r.entry)
    {b3 b4 b5 B:Nat} (out:List TableOp) (hol:out.length<2^37) {K:List Go.Av.Fr} {R:Option β}
    (hK:∀e O N,DfE n t x y same b3 b4 b5 B e->DfO p a b b3 b4 b5 B (out++z.map (insO t)) O N->go Φ fin K .normal ⟨e,⟨O,N⟩⟩=R) (e0:Env)
    (O:List (Nat×AO)) (N:Nat) (hE:DfE n t x y same b3 b4 b5 B e0) (hO:DfO p a b b3 b4 b5 B out O N) (h124:look 124 e0=some (.slice 5 (z.map Rw.c))) (h125:look 125 e0=some (.int .i64 z.length)) (h126:look 126 e0=some (.int .i64 0)):
    go Φ fin (.c (.loop c_40_l2):: .b 6::K) .normal ⟨e0,⟨O,N⟩⟩=R:=by
  refine qcm z.length (fun i e h=>∃O N o,h=⟨O,N⟩/\DfE n t x y same b3 b4 b5 B e/\DfO p a b b3 b4 b5 B o O N/\o=out++(z.take i).map (insO t)/\look 124 e=some (.slice 5 (z.map Rw.c))/\look 125 e=some (.int .i64 z.length)/\look 126 e=some (.int .i64 i))
    (fun _=>R) ?_ ?_ 0 _ _ (Qc _) ⟨O,N,out,rfl,hE,hO,by simp,h124,h125,h126⟩
  · rintro i e _ L hi hL ⟨O,N,o,rfl,hE,hO,hd,h124,h125,h126⟩ ih
    have hw:=qaf i (by omega);have hc:=qqq z[i].entry (hzs _ (Qd hi));simp only [Entry.ce] at hc;have t0:=hO.tl N (Qb _);have hol2:o.length<2^38:=by rw [hd];simp;omega
    obtain ⟨O',N',ea,hO'⟩:=(hO.mono (Nat.le_succ N)).add hol2 t (o:=⟨1,0,0,z[i].entry,noCl⟩) (w:=[.int .i64 1,.int .i64 0,.int .i64 0,.slice 2 (z[i].entry.keys.map KeyMatch.c),.int .i64 z[i].entry.priority,.int .i64 z[i].entry.call.action,.slice 1 (z[i].entry.call.args.map c32),.int .i64 0,.fslice 1 []]) ⟨_,_,_,rfl,.sl,.sl,.nil,fun _=>⟨rfl,rfl⟩,by simp⟩;simp [c_40_l2,Rw.ce,hE.e15,h124,h125,h126,hi,hL,t0,qai,qad,hc,ea,hw];refine ih _ _ ⟨_,_,_,rfl,⟨by simp [hE.e3],by simp [hE.e4],by simp [hE.e5],by simp [hE.e10],by simp [hE.e11],by simp [hE.e12],by simp [hE.e13],by simp [hE.e14],by simp [hE.e15],by simp [hE.e39],by simp [hE.e40]⟩,hO',?_,by simp [h124,Rw.ce],by simp [h125],by simp⟩;rw [hd,Qh hi,List.map_append,List.append_assoc];rfl
  · rintro e _ L hL ⟨O,N,o,rfl,hE,hO,hd,h124,h125,h126⟩
    rw [List.take_length] at hd;subst hd;simp [c_40_l2,h125,h126,hL];exact hK _ _ _ ⟨by simp [hE.e3],by simp [hE.e4],by simp [hE.e5],by simp [hE.e10],by simp [hE.e11],by simp [hE.e12],by simp [hE.e13],by simp [hE.e14],by simp [hE.e15],by simp [hE.e39],by simp [hE.e40]⟩ hO
theorem df3 {β:Type} {fin:Option (Ex×St)->Option β} (p:Prg) (a b:Config) (n t:Nat) (x y:List Rw) (same:List Nat) (ha:t<a.defaults.length) (hb:t<b.defaults.length) (hal:a.defaults[t].args.length<2^40) (hbl:b.defaults[t].args.length<2^40)
    {b3 b4 b5 B:Nat} (out:List TableOp) (hol:out.length<2^38) {K:List Go.Av.Fr} {R:Option β}
    (hK:∀e O N,DfE n t x y same b3 b4 b5 B e->DfO p a b b3 b4 b5 B (out++(if a.defaults[t]=b.defaults[t] then [] else [setO t b.defaults[t]])) O N->go Φ fin K .normal ⟨e,⟨O,N⟩⟩=R) (e:Env)
    (O:List (Nat×AO)) (N:Nat) (hE:DfE n t x y same b3 b4 b5 B e) (hO:DfO p a b b3 b4 b5 B out O N):
    go Φ fin (.c c_40_k3::K) .normal ⟨e,⟨O,N⟩⟩=R:=by
  have he:=qkb a.defaults[t] b.defaults[t] hal;have hc:=qic b.defaults[t] hbl;have hl4:=hO.l4;have hl5:=hO.l5;rw [Config.ce] at hl4 hl5;simp only [ActionCall.ce] at he hc;by_cases q:a.defaults[t]=b.defaults[t]
  · rw [if_pos q,List.append_nil] at hK
    rw [decide_eq_true q] at he;simp [c_40_k3,ActionCall.ce,hE.e4,hE.e5,hE.e11,hE.e15,hl4,hl5,ha,hb,he];exact hK _ _ _ ⟨by simp [hE.e3],by simp [hE.e4],by simp [hE.e5],by simp [hE.e10],by simp [hE.e11],by simp [hE.e12],by simp [hE.e13],by simp [hE.e14],by simp [hE.e15],by simp [hE.e39],by simp [hE.e40]⟩ hO
  · rw [if_neg q] at hK
    rw [decide_eq_false q] at he;obtain ⟨O',N',ea,hO'⟩:=hO.add hol t (o:=⟨4,0,0,noE,b.defaults[t]⟩) (w:=[.int .i64 4,.int .i64 0,.int .i64 0,.fslice 2 [],.int .i64 0,.int .i64 0,.fslice 1 [],.int .i64 b.defaults[t].action,.slice 1 (b.defaults[t].args.map c32)]) ⟨_,_,_,rfl,.nil,.nil,.sl,by simp,fun _ _=>rfl⟩;simp [c_40_k3,ActionCall.ce,hE.e4,hE.e5,hE.e11,hE.e15,hl4,hl5,ha,hb,he,hc,ea];exact hK _ _ _ ⟨by simp [hE.e3],by simp [hE.e4],by simp [hE.e5],by simp [hE.e10],by simp [hE.e11],by simp [hE.e12],by simp [hE.e13],by simp [hE.e14],by simp [hE.e15],by simp [hE.e39],by simp [hE.e40]⟩ hO'
theorem qxw {p:Prg} {t:Int} {x:Entry} (hi:inT p t=true) (h:entE p t x=0):0<=x.priority/\x.priority<=255:=by
 obtain ⟨k,rfl,hk⟩:=qeg hi;unfold entE at h;split at h
 ·exact absurd h (by assumption)
 rw [qet,Qa hk] at h;simp only at h;split at h
 ·cases h
 cases hf:fe (entG p p.tables[k] x) p.tables[k].keys.length 0 with
 | some e=>
  rw [hf] at h;simp only [Option.getD_some] at h;obtain ⟨i,_,hx⟩:=qds hf;unfold entG at hx;split at hx
  ·split at hx
   ·cases hx
   ·cases hx;exact absurd h (by assumption)
  ·cases hx
 | none=>
  rw [hf] at h;simp only [Option.getD_none] at h;unfold entF at h;split at h
  ·cases h
  split at h
  ·cases h
  omega
theorem qaf0 (t:Int) (x y:List Rw) (da db:ActionCall):(tabG t x y da db).length<=x.length+2*y.length+1:=by
 unfold tabG;have h1:=qiy t x 0 (qbi x 0 y);have h2:=qok t x (qbi x 0 y) y;have h3:=qhy x y 0;simp only [List.length_append,List.length_map,List.length_drop];split<;>simp<;>omega
structure DfB (n:Nat) (t:Nat) (b3 b4 b5 B:Nat) (e:Env):Prop where
 e3:look 3 e=some (.ptr b3 9 0 0)
 e4:look 4 e=some (.ptr b4 4 0 0)
 e5:look 5 e=some (.ptr b5 4 0 0)
 e10:look 10 e=some (.ptr B 1 0 0)
 e39:look 39 e=some (.int .i64 n)
 e40:look 40 e=some (.int .i64 t)
theorem qon {p:Prg} {a b:Config} (va:CfgV p a) (vb:CfgV p b):∀t,t<=p.tables.length->(opsD p a b t).length<=769*t
 | 0,_=>by simp [opsD]
 | t+1,h=>by
  have ih:=qon va vb t (by omega);have ha:t<a.rows.length:=by rw [va.rl];omega
  have hb:t<b.rows.length:=by rw [vb.rl];omega
  have h1:=va.small a.rows[t] (Qd ha);have h2:=vb.small b.rows[t] (Qd hb);have h3:=qaf0 t (qak a t) (qak b t) (qa9 a t) (qa9 b t);rw [qaz ha,qaz hb] at h3;rw [opsD,List.length_append,qaz ha,qaz hb];omega
theorem df7 {β:Type} {fin:Option (Ex×St)->Option β} (p:Prg) {a b:Config} (va:CfgV p a) (vb:CfgV p b) (sa:CfgT a) (sb:CfgT b) (hp:p.tables.length<2^26) {b3 b4 b5 B:Nat} {K:List Go.Av.Fr} {R:Option β}
  (hK:∀e O N,DfB a.rows.length p.tables.length b3 b4 b5 B e->DfO p a b b3 b4 b5 B (opsD p a b p.tables.length) O N->go Φ fin K .normal ⟨e,⟨O,N⟩⟩=R) (e0:Env)
  (O:List (Nat×AO)) (N:Nat) (hE:DfB a.rows.length 0 b3 b4 b5 B e0) (hO:DfO p a b b3 b4 b5 B [] O N):
  go Φ fin (.c (.loop c_40_l7):: .b 0::K) .normal ⟨e0,⟨O,N⟩⟩=R:=by
 refine qcm p.tables.length (fun t e h=>∃O N,h=⟨O,N⟩/\DfB a.rows.length t b3 b4 b5 B e/\DfO p a b b3 b4 b5 B (opsD p a b t) O N) (fun _=>R) ?_ ?_ 0 _ _ (Qc _) ⟨O,N,rfl,hE,hO⟩
 ·rintro t e _ L ht hL ⟨O,N,rfl,hE,hO⟩ ih;have hw:=qaf t (by omega);have hta:t<a.rows.length:=by rw [va.rl];exact ht
  have htb:t<b.rows.length:=by rw [vb.rl];exact ht
  have hda:t<a.defaults.length:=by rw [va.dl];exact ht
  have hdb:t<b.defaults.length:=by rw [vb.dl];exact ht
  have xs:=va.small a.rows[t] (Qd hta);have ys:=vb.small b.rows[t] (Qd htb);have xr:=(sa.rs a.rows[t] (Qd hta)).2;have yr:=(sb.rs b.rows[t] (Qd htb)).2;have hva:=va.at ht;have hvb:=vb.at ht;have kx:∀r∈a.rows[t],KeyS r.entry/\r.entry.keys.length<2^40:=fun r hr=>by
   have:=qxw (qdu ht) (hva.ent r hr);exact ⟨⟨(xr r hr).ks,this.1,this.2⟩,(xr r hr).kl⟩
  have ky:∀r∈b.rows[t],KeyS r.entry/\r.entry.keys.length<2^40:=fun r hr=>by
   have:=qxw (qdu ht) (hvb.ent r hr);exact ⟨⟨(yr r hr).ks,this.1,this.2⟩,(yr r hr).kl⟩
  have kk:=qahp a.rows[t] b.rows[t] (by omega) (by omega) kx ky hva.uniq;have hsl:=qhy a.rows[t] b.rows[t] 0;have hsg:=qi2 a.rows[t] b.rows[t] 0;have hol:=qon va vb t (by omega);have hdl:=qiy t a.rows[t] 0 (qbi a.rows[t] 0 b.rows[t]);have hml:=qok t a.rows[t] (qbi a.rows[t] 0 b.rows[t]) b.rows[t];have hl4:=hO.l4;have hl5:=hO.l5;rw [Config.ce] at hl4 hl5;have t0:=hO.tl N (Qb _);have n4:¬N=b4:=by have:=hO.tl.lt hl4;omega
  have n5:¬N=b5:=by have:=hO.tl.lt hl5;omega
  have hlt:(t:Int)<(a.rows.length:Int):=by omega
  generalize hsm:qbi a.rows[t] 0 b.rows[t]=same at*;have hdr:qak a (t:Int)=a.rows[t]:=qaz hta;have hdr2:qak b (t:Int)=b.rows[t]:=qaz htb;have hdd:qa9 a (t:Int)=a.defaults[t]:=by simp [qa9,qet,Qa hda]
  have hdd2:qa9 b (t:Int)=b.defaults[t]:=by simp [qa9,qet,Qa hdb]
  have hoD:opsD p a b (t+1)=opsD p a b t++(delG t a.rows[t] 0 same++(modG t a.rows[t] same b.rows[t]++((b.rows[t].drop same.length).map (insO t)++(if a.defaults[t]=b.defaults[t] then [] else [setO t b.defaults[t]])))):=by
   rw [opsD,hdr,hdr2,hdd,hdd2,tabG,hsm]
  simp [c_40_l7,hE.e4,hE.e5,hE.e10,hE.e39,hE.e40,hlt,hta,htb,hL,t0,qai,qad,hl4,hl5,n4,n5,cSe,kk];refine df0 p a b a.rows.length t a.rows[t] b.rows[t] same (by omega) (by omega) (fun s hs=>by have:=hsg s hs;omega) (opsD p a b t) (by omega) ?_ _ O (N+1) ⟨by simp [hE.e3],by simp [hE.e4],by simp [hE.e5],by simp [hE.e10],by simp,by simp,by simp,by simp,by simp,by simp [hE.e39],by simp [hE.e40]⟩ (hO.mono (Nat.le_succ _)) (by simp) (by simp) (by simp) (by simp);intro e1 O1 N1 hE1 hO1;simp [c_40_k5,hE1.e14];refine df1 p a b a.rows.length t a.rows[t] b.rows[t] same (by omega) (fun s hs=>(hsg s hs).2) hsl (fun r hr=>(xr r hr).al) (fun r hr=>(yr r hr).al) _ (by rw [List.length_append];omega) ?_ _ O1 N1 ⟨by simp [hE1.e3],by simp [hE1.e4],by simp [hE1.e5],by simp [hE1.e10],by simp [hE1.e11],by simp [hE1.e12],by simp [hE1.e13],by simp [hE1.e14],by simp [hE1.e15],by simp [hE1.e39],by simp [hE1.e40]⟩ hO1 (by simp) (by simp) (by simp);intro e2 O2 N2 hE2 hO2;have htk:List.take (b.rows[t].length - same.length) (List.drop same.length (List.map Rw.c b.rows[t]))=(b.rows[t].drop same.length).map Rw.c:=by
   rw [Qo (by simp),List.map_drop]
  simp [c_40_k4,hE2.e13,hE2.e14,hsl,htk];have hzl:(b.rows[t].drop same.length).length=b.rows[t].length - same.length:=List.length_drop;refine df2 p a b a.rows.length t a.rows[t] b.rows[t] same (z:=b.rows[t].drop same.length) (by omega) (fun r hr=>yr r (List.mem_of_mem_drop hr)) _ (by rw [List.length_append,List.length_append];omega) ?_ _ O2 N2 ⟨by simp [hE2.e3],by simp [hE2.e4],by simp [hE2.e5],by simp [hE2.e10],by simp [hE2.e11],by simp [hE2.e12],by simp [hE2.e13],by simp [hE2.e14],by simp [hE2.e15],by simp [hE2.e39],by simp [hE2.e40]⟩ hO2 (by simp) (by simp [hzl]) (by simp);intro e3 O3 N3 hE3 hO3;refine df3 p a b a.rows.length t a.rows[t] b.rows[t] same hda hdb (sa.ds _ (Qd hda)).1 (sb.ds _ (Qd hdb)).1 _ (by simp only [List.length_append,List.length_map];omega) ?_ _ O3 N3 hE3 hO3;intro e4 O4 N4 hE4 hO4;simp [c_40_k6,hE4.e40,hw];refine ih _ _ ⟨_,_,rfl,⟨by simp [hE4.e3],by simp [hE4.e4],by simp [hE4.e5],by simp [hE4.e10],by simp [hE4.e39],by simp⟩,?_⟩;rw [hoD];simpa only [List.append_assoc] using hO4
 ·rintro e _ L hL ⟨O,N,rfl,hE,hO⟩;have hlt:¬((p.tables.length:Int)<(a.rows.length:Int)):=by rw [va.rl];omega
  simp [c_40_l7,hE.e39,hE.e40,hlt,hL];exact hK _ _ _ ⟨by simp [hE.e3],by simp [hE.e4],by simp [hE.e5],by simp [hE.e10],by simp [hE.e39],by simp [hE.e40]⟩ hO
def qm8 (a:Config) (l:List TableOp) (t:Nat):Bool:=decide (1073741824 - qbr a t<insN l t)
theorem qabj (p:Prg) (a:Config) (l:List TableOp):qgn p a l=qa0 (List.range p.tables.length) (qm8 a l) 0:=by
 unfold qgn qa0;rw [List.drop_zero];rfl
def outV (v:AV) (out:List TableOp):Prop:=(out=[]/\v= .fslice 9 [])\/∃T,v= .app 9 (out.map TableOp.c) T
theorem qaes {v:AV} {out:List TableOp} (h:outV v out) {n:Nat} {H:AH}:snap (n+1) H v=some (.slice 9 (out.map TableOp.c)):=by
 rcases h with ⟨rfl,rfl⟩ | ⟨T,rfl⟩<;>simp
theorem qaer {v:AV} {out:List TableOp} (h:outV v out):lenOf v=some out.length:=by
 rcases h with ⟨rfl,rfl⟩ | ⟨T,rfl⟩<;>simp [lenOf]
theorem qxt (p:Prg) (f:PrgS p) (hc:(pre p.control).length<2^40 - 1) (hp:p.tables.length<2^26) {a b:Config} (sa:CfgT a) (sb:CfgT b):
  qab Φ f_40 [.agg (Prg.c p),.agg (Config.c a),.agg (Config.c b)]=some (.val (qeb p a b)):=by
 rw [qaa (fn:=c_40) rfl rfl];have k1:=qqn p f hc a sa;have k2:=qqn p f hc b sb;by_cases z1:cfgE p a=0
 rotate_left
 ·have hR:qeb p a b= .tup [.slice 9 [],.int .i64 (cfgE p a)]:=by simp [qeb,z1]
  rw [hR];simp only [Prg.e,Config.ce] at k1;simp [c_40,Prg.e,Config.ce,k1,z1]
 by_cases z2:cfgE p b=0
 rotate_left
 ·have hR:qeb p a b= .tup [.slice 9 [],.int .i64 (cfgE p b)]:=by simp [qeb,z1,z2]
  rw [hR];simp only [Prg.e,Config.ce] at k1 k2;simp [c_40,Prg.e,Config.ce,k1,k2,z1,z2]
 have va:=(qcv p a).1 z1;have vb:=(qcv p b).1 z2;generalize hR:qeb p a b=R;simp only [Prg.e,Config.ce] at k1 k2;simp [c_40,Prg.e,Config.ce,k1,k2,z1,z2];refine df7 p va vb sa sb hp (b3:=0) (b4:=1) (b5:=2) (B:=3) ?_ _ _ 4 ⟨by simp,by simp,by simp,by simp,by simp,by simp⟩ ⟨fun j hj=>qzi (by simp;omega),.inl ⟨rfl,by simp⟩,by simp [Prg.e],by simp [Config.ce],by simp [Config.ce],by decide,by decide,by decide⟩;intro e O N hE hO;have hlen:=qon va vb p.tables.length (Qb _);generalize hout:opsD p a b p.tables.length=out at*;have hl4:=hO.l4;rw [Config.ce] at hl4;obtain ⟨v,hv,hov⟩:∃v,look 3 O=some (.row 1 [[v]])/\outV v out:=by
  rcases hO.ob with ⟨h1,h2⟩ | ⟨T,h1,h2⟩
  ·exact ⟨_,h2,.inl ⟨h1,rfl⟩⟩
  ·exact ⟨_,h1,.inr ⟨T,rfl⟩⟩
 have hvl:=qaer hov;have hsn:=fun n H=>qaes hov (n:=n) (H:=H)
 by_cases z3:64<out.length
 ·have hR':R= .tup [.slice 9 [],.int .i64 12]:=by rw [<- hR];simp [qeb,z1,z2,hout,z3]
  rw [hR'];have z3':(64:Int)<(out.length:Int):=by omega
  simp [c_40_k10,hE.e10,hv,hvl,z3',-lenOf]
 have z3':¬(64:Int)<(out.length:Int):=by omega
 have hR':R=if qa0 (List.range p.tables.length) (qm8 a out) 0 then .tup [.slice 9 [],.int .i64 13] else .tup [.slice 9 (out.map TableOp.c),.int .i64 0]:=by
  rw [<- hR,<- qabj];simp [qeb,z1,z2,hout,z3]
 rw [hR'];simp [c_40_k10,hE.e4,hE.e10,hv,hvl,hl4,z3',-lenOf];refine qcm p.tables.length (fun i e h=>∃N,h=⟨O,N⟩/\look 10 e=some (.ptr 3 1 0 0)/\look 163 e=some (.slice 1 (a.nextID.map cI))/\look 164 e=some (.int .i64 a.nextID.length)/\look 165 e=some (.int .i64 i)) (fun i=>some (Rt.val (if qa0 (List.range p.tables.length) (qm8 a out) i then .tup [.slice 9 [],.int .i64 13] else .tup [.slice 9 (out.map TableOp.c),.int .i64 0]))) ?_ ?_ 0 _ _ (Qc _) ⟨N,rfl,by simp [hE.e10],by simp,by simp,by simp⟩
 ·rintro i e _ L hi hL ⟨N,rfl,h10,h163,h164,h165⟩ ih;have hw:=qaf i (by omega);have hin:i<a.nextID.length:=by rw [va.nl];exact hi
  have hv2:=va.at hi;have n0:=hv2.nx0;have n1:=hv2.nx1;have hws:IntKind.wrap .i64 (1073741824 - a.nextID[i])=1073741824 - a.nextID[i]:=qa5 (by omega) (by omega);have hins:=qxa out (by omega) i;have hnx:qbr a (i:Int)=a.nextID[i]:=qep hin;by_cases z:1073741824 - a.nextID[i]<(insN out i:Int)
  ·rw [qey (by simpa using hi) (by simp [qm8,hnx];exact z)];simp [c_40_l8,h10,h163,h164,h165,hin,hv,hsn,hins,cI,hws,z]
  ·rw [qc9 (by simpa using hi) (by simp [qm8,hnx];omega)];simp [c_40_l8,h10,h163,h164,h165,hin,hL,hv,hsn,hins,cI,hws,z,hw];refine (ih _ _ ⟨N,rfl,by simp [h10],by simp [h163,cI],by simp [h164],by simp⟩).trans (by simp)
 ·rintro e _ L hL ⟨N,rfl,h10,h163,h164,h165⟩;have hnl:¬((p.tables.length:Int)<(a.nextID.length:Int)):=by rw [va.nl];omega
  have he:qa0 (List.range p.tables.length) (qm8 a out) p.tables.length=false:=by
   unfold qa0;rw [List.drop_of_length_le (by simp)];rfl
  rw [he];simp [c_40_l8,c_40_k9,h10,h164,h165,hnl,hL,hv,hsn]
def kd (x:TableOp):Nat:=if 1<=x.kind/\x.kind<=4 then x.kind.toNat else 0
structure RtE (a b:Config) (t:Nat) (x y:List Rw) (ks:List Nat) (out:List TableOp) (e:Env):Prop where
 e0:look 0 e=some (.int .i64 t)
 e4:look 4 e=some (.iptr 4 [Config.c a] 0 0)
 e5:look 5 e=some (.iptr 4 [Config.c b] 0 0)
 e7:look 7 e=some (.slice 5 (x.map Rw.c))
 e8:look 8 e=some (.slice 5 (y.map Rw.c))
 e9:look 9 e=some (.slice 1 (ks.map cN))
 e10:look 10 e=some (.app 9 (out.map TableOp.c) 0)
theorem qk5 (l m:List TableOp) (t:Int):insN (l++m) t=insN l t+insN m t:=by simp [insN]
theorem qm1 (t:Int):∀(x:List Rw) (i:Nat) (ss:List Nat),∀o∈delG t x i ss,o.kind≠1
 | [],_,_,o,h=>by simp [delG] at h
 | r::x,i,[],o,h=>by
  rw [delG_nil] at h;rcases List.mem_cons.1 h with rfl | h
  ·simp [delO]
  ·exact qm1 t x (i+1) [] o h
 | r::x,i,s::ss,o,h=>by
  rw [delG] at h;split at h
  ·exact qm1 t x (i+1) ss o h
  ·rcases List.mem_cons.1 h with rfl | h
   ·simp [delO]
   ·exact qm1 t x (i+1) (s::ss) o h
theorem qnd (t:Int) (x:List Rw):∀(ss:List Nat) (y:List Rw),∀o∈modG t x ss y,o.kind≠1
 | [],_,o,h=>by simp [modG] at h
 | s::ss,[],o,h=>by simp [modG] at h
 | s::ss,r::y,o,h=>by
  rw [modG] at h;cases hx:x[s]? with
  | none=>rw [hx] at h;exact qnd t x ss y o h
  | some q=>
   rw [hx] at h;simp only at h;split at h
   ·exact qnd t x ss y o h
   ·rcases List.mem_cons.1 h with rfl | h
    ·simp [modO]
    ·exact qnd t x ss y o h
theorem qmb {l:List TableOp} {t:Int} (h:∀o∈l,o.kind≠1):insN l t=0:=by
 unfold insN;rw [List.length_eq_zero_iff,List.filter_eq_nil_iff];intro o ho hc;simp only [decide_eq_true_eq] at hc;exact h o ho hc.1
theorem qad7 (t s:Int) (z:List Rw):insN (z.map (insO t)) s=if t=s then z.length else 0:=by
 unfold insN;by_cases h:t=s
 ·rw [if_pos h,List.filter_eq_self.2]
  ·simp
  ·intro o ho;obtain ⟨r,_,rfl⟩:=List.mem_map.1 ho;simp [insO,h]
 ·rw [if_neg h,List.length_eq_zero_iff,List.filter_eq_nil_iff];intro o ho hc;obtain ⟨r,_,rfl⟩:=List.mem_map.1 ho;simp [insO] at hc;exact h hc
theorem qab7 {p:Prg} {a b:Config} (va:CfgV p a) (vb:CfgV p b) (sb:CfgT b):∀n,n<=p.tables.length->∀o∈opsD p a b n,OpS o
 | 0,_,o,h=>by simp [opsD] at h
 | n+1,hn,o,h=>by
  have hb:n<b.rows.length:=by rw [vb.rl];omega
  have yr:=(sb.rs b.rows[n] (Qd hb)).2;rw [opsD] at h;rcases List.mem_append.1 h with h | h
  ·exact qab7 va vb sb n (by omega) o h
  have hd:=qag0 sb n;rw [qaz hb] at h;unfold tabG at h;simp only [List.mem_append] at h;rcases h with h | h | h | h
  ·have del:∀(x:List Rw) (i:Nat) (ss:List Nat),∀o∈delG n x i ss,OpS o:=by
    intro x
    induction x with
    | nil=>intro i ss o h;simp [delG] at h
    | cons r x ih=>
     intro i ss o h;cases ss with
     | nil=>
      rw [delG_nil] at h;rcases List.mem_cons.1 h with rfl | h
      ·exact ⟨qtr,qpq⟩
      ·exact ih _ _ o h
     | cons s ss=>
      rw [delG] at h;split at h
      ·exact ih _ _ o h
      ·rcases List.mem_cons.1 h with rfl | h
       ·exact ⟨qtr,qpq⟩
       ·exact ih _ _ o h
   exact del _ _ _ o h
  ·have mod:∀(x:List Rw) (ss:List Nat) (y:List Rw),(∀r∈y,rowS r)->∀o∈modG n x ss y,OpS o:=by
    intro x ss
    induction ss with
    | nil=>intro y _ o h;simp [modG] at h
    | cons s ss ih=>
     intro y hy o h;cases y with
     | nil=>simp [modG] at h
     | cons r y=>
      rw [modG] at h;have hy':∀r∈y,rowS r:=fun q hq=>hy q (by simp [hq])
      cases hx:x[s]? with
      | none=>rw [hx] at h;exact ih y hy' o h
      | some q=>
       rw [hx] at h;simp only at h;split at h
       ·exact ih y hy' o h
       ·rcases List.mem_cons.1 h with rfl | h
        ·have:=hy r (by simp);exact ⟨qtr,⟨this.al,this.ar⟩⟩
        ·exact ih y hy' o h
   exact mod _ _ _ yr o h
  ·obtain ⟨r,hr,rfl⟩:=List.mem_map.1 h;exact ⟨yr r (List.mem_of_mem_drop hr),qpq⟩
  ·split at h
   ·simp at h
   ·simp at h;subst h;exact ⟨qtr,hd⟩
theorem qade {a:List Rw} (hu:a.Pairwise fun x y=>sk x.entry y.entry=false) {i:Nat} (hi:i<a.length) {x:Entry} (h:sk a[i].entry x=true):atF a x=some i:=by
 unfold atF;rw [List.findIdx?_eq_some_iff_getElem];refine ⟨hi,h,fun j hj=>?_⟩;cases hb:sk a[j].entry x with
 | false=>simp
 | true=>
  have h1:=sk_tr hb h;rw [List.pairwise_iff_getElem.1 hu j i (by omega) hi hj] at h1;cases h1
theorem qais (x:Entry):sk x x=true:=by simp [sk]
theorem qse {a:List Rw} (hu:a.Pairwise fun x y=>sk x.entry y.entry=false):∀(b:List Rw) (f:Nat),f+b.length<=a.length->(∀k (h:k<b.length) (h2:f+k<a.length),sk a[f+k].entry b[k].entry=true)->qbi a f b=List.range' f b.length
 | [],f,_,_=>by simp [qbi]
 | y::b,f,hl,hs=>by
  simp only [List.length_cons] at hl;have h0:=hs 0 (by simp) (by omega);simp only [Nat.add_zero,List.getElem_cons_zero] at h0;rw [qbi,qade hu (by omega) h0];simp only [Qb,if_true,List.length_cons,List.range'_succ];rw [qse hu b (f+1) (by omega) fun k h h2=>by
   have:=hs (k+1) (by simp;omega) (by omega);simp only [List.getElem_cons_succ] at this;have e:f+1+k=f+(k+1):=by omega
   simp only [e];exact this]
theorem quc (t:Int):∀(x:List Rw) (i:Nat),delG t x i (List.range' i x.length)=[]
 | [],_=>by simp [delG]
 | r::x,i=>by
  simp only [List.length_cons,List.range'_succ];rw [delG,if_pos rfl];exact quc t x (i+1)
theorem ql2 (t:Int):∀(x:List Rw) (i:Nat) (ss:List Nat),delG t x i ss=[]->x.length<=ss.length/\ss.take x.length=List.range' i x.length
 | [],_,ss,_=>by simp
 | r::x,i,[],h=>by rw [_root_.Go.Av.delG_nil] at h;cases h
 | r::x,i,s::ss,h=>by
  rw [delG] at h;split at h
  ·rename_i hs;subst hs;obtain ⟨h1,h2⟩:=ql2 t x (s+1) ss h;refine ⟨by simp;omega,?_⟩;simp only [List.length_cons,List.take_succ_cons,List.range'_succ,h2]
  ·cases h
theorem qoj (t:Int) (x:List Rw):∀(ss:List Nat) (y:List Rw),ss.length<=y.length->((∀k (h:k<ss.length) (h2:k<y.length),∀q,x[ss[k]]? =some q->q.entry.call=y[k].entry.call)↔modG t x ss y=[])
 | [],y,_=>by simp [modG]
 | s::ss,[],h=>by simp at h
 | s::ss,r::y,h=>by
  have ih:=qoj t x ss y (by simpa using h);rw [modG];cases hx:x[s]? with
  | none=>
   simp only;rw [<- ih];constructor
   ·intro hh k h1 h2 q hq;exact hh (k+1) (by simp;omega) (by simp;omega) q (by simpa using hq)
   ·intro hh k h1 h2 q hq;cases k with
    | zero=>simp only [List.getElem_cons_zero] at hq;rw [hx] at hq;cases hq
    | succ k=>exact hh k (by simpa using h1) (by simpa using h2) q (by simpa using hq)
  | some q0=>
   simp only;by_cases hc:q0.entry.call=r.entry.call
   ·rw [if_pos hc,<- ih];constructor
    ·intro hh k h1 h2 q hq;exact hh (k+1) (by simp;omega) (by simp;omega) q (by simpa using hq)
    ·intro hh k h1 h2 q hq;cases k with
     | zero=>simp only [List.getElem_cons_zero] at hq ⊢;rw [hx] at hq;cases hq;exact hc
     | succ k=>exact hh k (by simpa using h1) (by simpa using h2) q (by simpa using hq)
   ·rw [if_neg hc];constructor
    ·intro hh;exact absurd (hh 0 (by simp) (by simp) q0 (by simpa using hx)) hc
    ·intro hh;cases hh
theorem qmc (a:List Rw):∀(b:List Rw) (f k:Nat) (h:k<(qbi a f b).length) (h2:k<b.length),atF a b[k].entry=some (qbi a f b)[k]
 | [],f,k,h,h2=>by simp at h2
 | y::b,f,k,h,h2=>by
  have hd:qbi a f (y::b)=match atF a y.entry with
   | some i=>if f<=i then i::qbi a (i+1) b else []
   | none=>[]:=rfl
  cases hx:atF a y.entry with
  | none=>rw [hx] at hd;simp only at hd;rw [hd] at h;simp at h
  | some i=>
   rw [hx] at hd;simp only at hd;by_cases hf:f<=i
   ·rw [if_pos hf] at hd;cases k with
    | zero=>simp only [hd,List.getElem_cons_zero];exact hx
    | succ k=>
     simp only [hd,List.getElem_cons_succ];exact qmc a b (i+1) k (by rw [hd] at h;simpa using h) (by simpa using h2)
   ·rw [if_neg hf] at hd;rw [hd] at h;simp at h
theorem qxu (x y:List Rw):enR x=enR y↔x.length=y.length/\∀k (h:k<x.length) (h2:k<y.length),x[k].entry=y[k].entry:=by
 unfold enR;constructor
 ·intro h;have hl:x.length=y.length:=by simpa using congrArg List.length h
  refine ⟨hl,fun k h1 h2=>?_⟩;have:=congrArg (fun l=>l[k]?) h;simpa [Qa h1,Qa h2] using this
 ·rintro ⟨hl,h⟩;refine List.ext_getElem (by simpa using hl) fun k h1 h2=>?_
  simp only [List.getElem_map];exact h k (by simpa using h1) (by simpa using h2)
theorem qaf1 {t:Int} {x y:List Rw} (hu:x.Pairwise fun a b=>sk a.entry b.entry=false) (da db:ActionCall):tabG t x y da db=[]↔enR x=enR y/\da=db:=by
 have hkl:=qhy x y 0;have hkg:=qi2 x y 0;constructor
 ·intro h;unfold tabG at h;simp only [List.append_eq_nil_iff] at h;obtain ⟨h1,h2,h3,h4⟩:=h;obtain ⟨d1,d2⟩:=ql2 t x 0 _ h1;have h3':y.length<=(qbi x 0 y).length:=by simpa [List.drop_eq_nil_iff] using h3
  have hm:=(qoj t x (qbi x 0 y) y hkl).2 h2;have hinc:=qmd x y 0;have hlx:(qbi x 0 y).length<=x.length:=by
   refine Decidable.byContradiction fun hc=>?_
   have hk:x.length<(qbi x 0 y).length:=by omega
   have hb:=(hkg _ (Qd hk)).2;cases hxl:x.length with
   | zero=>omega
   | succ m=>
    have hm':m<(qbi x 0 y).length:=by omega
    have e1:(qbi x 0 y)[m]=m:=by
     have:=congrArg (fun l=>l[m]?) d2;simp only [List.getElem?_take] at this;rw [if_pos (by omega),Qa hm',List.getElem?_range' (by omega)] at this;simpa using this
    have:=List.pairwise_iff_getElem.1 hinc m x.length hm' hk (by omega);omega
  have hxy:x.length=y.length:=by omega
  have hks:qbi x 0 y=List.range' 0 x.length:=by rw [<- d2,Qo (by omega)]
  refine ⟨(qxu x y).2 ⟨hxy,fun k k1 k2=>?_⟩,?_⟩
  ·have hkk:k<(qbi x 0 y).length:=by omega
   have hg:=qmc x y 0 k hkk k2;have hv:(qbi x 0 y)[k]=k:=by
    have:=congrArg (fun l=>l[k]?) hks;rw [Qa hkk,List.getElem?_range' (by omega)] at this;simpa using this
   rw [hv] at hg;obtain ⟨_,hs,_⟩:=List.findIdx?_eq_some_iff_getElem.1 hg;have hcall:=hm k hkk k2 x[k] (by rw [hv];exact Qa k1);unfold sk at hs;simp only [decide_eq_true_eq] at hs;cases hxe:x[k].entry with
   | mk ks pr cl=>
    cases hye:y[k].entry with
    | mk ks' pr' cl'=>
     rw [hxe,hye] at hs hcall;simp only at hs hcall;rw [hs.1,hs.2,hcall]
  ·by_cases hd:da=db
   ·exact hd
   ·rw [if_neg hd] at h4;cases h4
 ·rintro ⟨h1,rfl⟩;obtain ⟨hl,he⟩:=(qxu x y).1 h1;have hk:qbi x 0 y=List.range' 0 y.length:=qse hu y 0 (by omega) fun k h h2=>by
   have:=he k (by omega) h;simp only [Nat.zero_add];rw [this];exact qais _
  unfold tabG;rw [hk,<- hl,quc,List.length_range',List.drop_eq_nil_of_le (by omega)];have hm:=(qoj t x (List.range' 0 x.length) y (by simp;omega)).1 fun k h h2 q hq=>by
   rw [List.getElem_range'] at hq;simp only [Nat.zero_add,Nat.one_mul] at hq;have h3:k<x.length:=by simpa using h
   rw [Qa h3] at hq;cases hq;rw [he k h3 h2]
  rw [hm];simp
def perm (a b:List Rw):Bool:=decide ((a.map Rw.entry).Perm (b.map Rw.entry))
def rem (us:List Bool) (b:List Rw):List Entry:=((us.zip b).filter fun p=> !p.1).map fun p=>p.2.entry
def qagl (p:List Rw×List Rw):Bool:= !perm p.1 p.2
def same (a b:List (List Rw)):Bool:=decide (a.length=b.length)&& !qa0 (a.zip b) qagl 0
def mv (a b:Config):Config:=⟨b.rows,b.nextID,b.defaults,a.registers⟩
theorem qaef (a b:Config):qab Φ f_46 [.agg (Config.c a),.agg (Config.c b)]=some (.val (.agg (Config.c (mv a b)))):=by
 rw [qaa (fn:=c_46) rfl rfl];simp [c_46,Config.ce,mv]
theorem qoo {p:Prg} {a b:Config} (va:CfgV p a) (vb:CfgV p b):∀n,n<=p.tables.length->(opsD p a b n=[]↔∀t,t<n->enR (qak a t)=enR (qak b t)/\qa9 a t=qa9 b t)
 | 0,_=>by simp [opsD]
 | n+1,hn=>by
  have ih:=qoo va vb n (by omega);have ha:n<a.rows.length:=by rw [va.rl];omega
  have hu:(qak a n).Pairwise fun x y=>sk x.entry y.entry=false:=by rw [qaz ha];exact (va.at (by omega)).uniq
  rw [opsD,List.append_eq_nil_iff,ih,qaf1 hu];constructor
  ·rintro ⟨h1,h2⟩ t ht;by_cases q:t<n
   ·exact h1 t q
   ·have:t=n:=by omega
    subst this;exact h2
  ·intro h;exact ⟨fun t ht=>h t (by omega),h n (by omega)⟩
theorem quk (x y:List (List Rw)):enRR x=enRR y↔x.length=y.length/\∀k (h:k<x.length) (h2:k<y.length),enR x[k]=enR y[k]:=by
 unfold enRR;constructor
 ·intro h;have hl:x.length=y.length:=by simpa using congrArg List.length h
  refine ⟨hl,fun k h1 h2=>?_⟩;have:=congrArg (fun l=>l[k]?) h;simpa [Qa h1,Qa h2] using this
 ·rintro ⟨hl,h⟩;refine List.ext_getElem (by simpa using hl) fun k h1 h2=>?_
  simp only [List.getElem_map];exact h k (by simpa using h1) (by simpa using h2)
theorem qah8 {p:Prg} {a b:Config} (va:CfgV p a) (vb:CfgV p b):opsD p a b p.tables.length=[]↔qhl a (mv a b)=true:=by
 rw [qoo va vb _ (Qb _)];have h1:=va.rl;have h2:=vb.rl;have h3:=va.dl;have h4:=vb.dl;have hq:qhl a (mv a b)=true↔enRR a.rows=enRR b.rows/\a.defaults=b.defaults:=by
  unfold qhl mv;rw [Bool.and_eq_true,Bool.and_eq_true];exact ⟨fun h=>⟨of_decide_eq_true h.1,of_decide_eq_true h.2.1⟩,fun h=>⟨decide_eq_true h.1,decide_eq_true h.2,decide_eq_true rfl⟩⟩
 rw [hq];constructor
 ·intro h;refine ⟨(quk _ _).2 ⟨by omega,fun k k1 k2=>?_⟩,?_⟩
  ·have:=(h k (by omega)).1
   rwa [qaz k1,qaz k2] at this
  ·refine List.ext_getElem (by omega) fun k k1 k2=>?_
   have:=(h k (by omega)).2;simpa [qa9,qet,Qa k1,Qa k2] using this
 ·rintro ⟨h5,h6⟩ t ht;have k1:t<a.rows.length:=by omega
  have k2:t<b.rows.length:=by omega
  refine ⟨?_,by unfold qa9;rw [h6]⟩;rw [qaz k1,qaz k2];exact ((quk _ _).1 h5).2 t k1 k2
theorem qad1 {p:Prg} {a:Config} (va:CfgV p a):qgn p a []=false:=by
 unfold qgn;rw [List.any_eq_false];intro t ht;have ht':t<p.tables.length:=by simpa using ht
 have h1:t<a.nextID.length:=by rw [va.nl];exact ht'
 have:=(va.at ht').nx1;rw [qep h1];simp [insN];omega
theorem setA {α:Type} {l:List α} {k:Nat} {z:α} (hk:k<l.length) (t:Nat):at? (l.set k z) (t:Int)=if t=k then some z else at? l (t:Int):=by
 rw [qet,qet,List.getElem?_set];by_cases h:k=t
 ·subst h;simp [hk]
 ·rw [if_neg h,if_neg (fun e=>h e.symm)]
theorem que {p:Prg} {a b:Config} (va:CfgV p a) (vb:CfgV p b) {L:List TableOp} (hL:opsD p a b p.tables.length=L) (h1:L.length<=64) (hf:qgn p a L=false):qeb p a b= .tup [.slice 9 (L.map TableOp.c),.int .i64 0]:=by
 have z1:=(qcv p a).2 va;have z2:=(qcv p b).2 vb;unfold qeb;rw [if_neg (by simpa using z1),if_neg (by simpa using z2),hL,if_neg (by omega),hf];rfl
def okF (p:Prg):Config->List TableOp->Prop
 | _,[]=>True
 | c,o::l=>xoE p c o=0/\okF p (xoC p c o) l
theorem qi9 (p:Prg) (c:Config) (o:TableOp) (l:List TableOp):xoF p c (o::l)=xoF p (xoC p c o) l:=rfl
theorem qno (p:Prg) (c:Config) (l m:List TableOp):xoF p c (l++m)=xoF p (xoF p c l) m:=by simp [xoF]
theorem qkl (p:Prg):∀(c:Config) (l m:List TableOp),okF p c l->okF p (xoF p c l) m->okF p c (l++m)
 | _,[],_,_,h=>h
 | c,o::l,m,h,h2=>⟨h.1,qkl p (xoC p c o) l m h.2 h2⟩
theorem qh9 {p:Prg}:∀{c:Config} (l:List TableOp),CfgV p c->CfgV p (xoF p c l)
 | _,[],v=>v
 | _,o::l,v=>qh9 l (qi8 v o)
theorem qtz (p:Prg):∀(c:Config) (l:List TableOp) (i:Nat),okF p c l->badF p c l i=none
 | _,[],_,_=>rfl
 | c,o::l,i,h=>by rw [badF,if_pos h.1];exact qtz p _ l _ h.2
def setR (c:Config) (t:Nat) (l:List Rw):Config:=⟨c.rows.set t l,c.nextID,c.defaults,c.registers⟩
theorem qli (c:Config) (t:Nat) (l m:List Rw):setR (setR c t l) t m=setR c t m:=by simp [setR]
theorem qfv {c:Config} {t:Nat} (h:t<c.rows.length) (l:List Rw):qak (setR c t l) t=l:=by
 unfold qak setR;rw [setA h,if_pos rfl];rfl
theorem qsw {c:Config} {t:Nat} (h:t<c.rows.length):setR c t (qak c t)=c:=by
 rw [qaz h];simp [setR]
theorem qye {u w:List Rw} {r:Rw} (h:(u++r::w).Pairwise fun a b=>a.id<b.id):rIdx (u++r::w) r.id=some u.length:=by
 unfold rIdx;rw [List.findIdx?_eq_some_iff_getElem];refine ⟨by simp,by simp,fun j hj=>?_⟩;rw [List.getElem_append_left hj];rw [List.pairwise_append] at h;have:=h.2.2 u[j] (Qd hj) r (by simp);simp;omega
theorem qabo {p:Prg} {c:Config} (v:CfgV p c) {t:Nat} (ht:t<p.tables.length):(qak c t).Pairwise fun a b=>a.id<b.id:=by
 rw [qaz (by rw [v.rl];exact ht)];exact (v.at ht).inc
theorem qud {p:Prg} {c:Config} (v:CfgV p c) {t:Nat} (ht:t<p.tables.length) {u w:List Rw} {r:Rw} (h:qak c t=u++r::w):xoE p c (delO t r)=0/\xoC p c (delO t r)=setR c t (u++w):=by
 have hid:=qabo v ht;rw [h] at hid;have hr:=qye hid;rw [<- h] at hr;have he:xoE p c (delO t r)=0:=by
  simp [xoE,delO,delE,qdu ht,hr]
 refine ⟨he,?_⟩;unfold xoC;rw [if_pos he];simp only [xoD,delO,delC,hr];rw [if_neg (by decide),if_neg (by decide),if_pos trivial];simp only [setR,Int.toNat_natCast,h];rw [List.eraseIdx_append_of_length_le (Qb _)];simp
theorem qaee {p:Prg} {c:Config} (v:CfgV p c) {t:Nat} (ht:t<p.tables.length) {u w:List Rw} {r:Rw} (h:qak c t=u++r::w) {x:ActionCall} (hx:qa7 p t x=0):xoE p c (modO t r x)=0/\xoC p c (modO t r x)=setR c t (u++qbe x r::w):=by
 have hid:=qabo v ht;rw [h] at hid;have hr:=qye hid;rw [<- h] at hr;have he:xoE p c (modO t r x)=0:=by
  simp [xoE,modO,modE,qdu ht,hr,hx]
 refine ⟨he,?_⟩;unfold xoC;rw [if_pos he];simp only [xoD,modO,modC,hr];rw [if_neg (by decide),if_pos trivial];simp only [setR,Int.toNat_natCast,h];have hm:(u++r::w).modify u.length (qbe x)=u++qbe x r::w:=by
  rw [List.modify_eq_take_cons_drop (by simp)];simp
 rw [hm]
def pick:List Rw->Nat->List Nat->List Rw
 | [],_,_=>[]
 | _::x,i,[]=>pick x (i+1) []
 | r::x,i,s::ss=>if s=i then r::pick x (i+1) ss else pick x (i+1) (s::ss)
theorem qvb:∀(x:List Rw) (i:Nat),pick x i []=[]
 | [],_=>rfl
 | _::x,i=>by rw [pick];exact qvb x (i+1)
theorem qnk {p:Prg} {t:Nat} (ht:t<p.tables.length):∀(x:List Rw) (i:Nat) (ss:List Nat) (c:Config) (kp:List Rw),CfgV p c->qak c t=kp++x->okF p c (delG t x i ss)/\xoF p c (delG t x i ss)=setR c t (kp++pick x i ss)
 | [],i,ss,c,kp,v,h=>by
  simp only [delG,pick];refine ⟨trivial,?_⟩;rw [<- h,qsw (by rw [v.rl];exact ht)];rfl
 | r::x,i,[],c,kp,v,h=>by
  rw [delG,pick];obtain ⟨h1,h2⟩:=qud v ht h;have hl:t<c.rows.length:=by rw [v.rl];exact ht
  have ih:=qnk ht x (i+1) [] (xoC p c (delO t r)) kp (qi8 v _) (by rw [h2,qfv hl]);exact ⟨⟨h1,ih.1⟩,by rw [qi9,ih.2,h2,qli]⟩
 | r::x,i,s::ss,c,kp,v,h=>by
  rw [delG,pick];by_cases hs:s=i
  ·rw [if_pos hs,if_pos hs];have ih:=qnk ht x (i+1) ss c (kp++[r]) v (by rw [h];simp);exact ⟨ih.1,by rw [ih.2];simp⟩
  ·rw [if_neg hs,if_neg hs];obtain ⟨h1,h2⟩:=qud v ht h;have hl:t<c.rows.length:=by rw [v.rl];exact ht
   have ih:=qnk ht x (i+1) (s::ss) (xoC p c (delO t r)) kp (qi8 v _) (by rw [h2,qfv hl]);exact ⟨⟨h1,ih.1⟩,by rw [qi9,ih.2,h2,qli]⟩
theorem qop:∀(x:List Rw) (i:Nat) (ss:List Nat),ss.Pairwise (· < ·)->(∀s∈ss,i<=s/\s<i+x.length)->(pick x i ss).map some=ss.map fun s=>x[s - i]?
 | [],i,ss,_,h=>by
  cases ss with
  | nil=>rfl
  | cons s ss=>have:=h s (by simp);simp at this;omega
 | r::x,i,[],_,_=>by rw [pick,qvb];rfl
 | r::x,i,s::ss,hp,h=>by
  rw [List.pairwise_cons] at hp;rw [pick];have sh:∀q,i+1<=q->(r::x)[q - i]? =x[q - (i+1)]? :=fun q hq=>by
   rw [show q - i=(q - (i+1))+1 by omega,List.getElem?_cons_succ]
  by_cases hs:s=i
  ·subst hs;rw [if_pos rfl,List.map_cons,List.map_cons,qop x (s+1) ss hp.2 fun q hq=>by
    have:=hp.1 q hq;have:=h q (by simp [hq]);simp at this;omega]
   rw [Nat.sub_self,List.getElem?_cons_zero];congr 1;exact List.map_congr_left fun q hq=>(sh q (by have:=hp.1 q hq;omega)).symm
  ·have hsi:=h s (by simp);rw [if_neg hs,qop x (i+1) (s::ss) (List.pairwise_cons.2 hp) fun q hq=>by
    rcases List.mem_cons.1 hq with rfl | hq2
    ·have:=h q hq;simp at this;omega
    ·have:=hp.1 q hq2;have:=h q hq;simp at this;omega]
   exact List.map_congr_left fun q hq=>(sh q (by
    rcases List.mem_cons.1 hq with rfl | hq2
    ·omega
    ·have:=hp.1 q hq2;omega)).symm
def modP (t:Int):List Rw->List Rw->List TableOp
 | q::P,r::y=>if q.entry.call=r.entry.call then modP t P y else modO t q r.entry.call::modP t P y
 | _,_=>[]
theorem qabz (t:Int) (X:List Rw):∀(ss:List Nat) (P y:List Rw),P.map some=(ss.map fun s=>X[s]?)->modG t X ss y=modP t P y
 | [],P,y,h=>by
  have:P=[]:=by simpa using h
  subst this;cases y<;>simp [modG,modP]
 | s::ss,[],y,h=>by simp at h
 | s::ss,q::P,[],h=>by simp [modG,modP]
 | s::ss,q::P,r::y,h=>by
  simp only [List.map_cons,List.cons.injEq] at h;rw [modG,<- h.1,modP,qabz t X ss P y h.2]
theorem qrr {p:Prg} {t:Nat} (ht:t<p.tables.length):∀(P y:List Rw) (c:Config) (dn:List Rw),CfgV p c->qak c t=dn++P->P.length<=y.length->(∀k (h:k<P.length) (h2:k<y.length),sk P[k].entry y[k].entry=true)->(∀r∈y,qa7 p t r.entry.call=0)->
  okF p c (modP t P y)/\∃P',xoF p c (modP t P y)=setR c t (dn++P')/\enR P'=enR (y.take P.length)
 | [],y,c,dn,v,h,_,_,_=>by
  simp only [modP,List.length_nil,List.take_zero];refine ⟨trivial,[],?_,rfl⟩;rw [<- h,qsw (by rw [v.rl];exact ht)];rfl
 | q::P,[],c,dn,v,h,hl,_,_=>by simp at hl
 | q::P,r::y,c,dn,v,h,hl,hs,hc=>by
  rw [modP];have h0:=hs 0 (by simp) (by simp);simp only [List.getElem_cons_zero,sk,decide_eq_true_eq] at h0;have hrest:∀k (h:k<P.length) (h2:k<y.length),sk P[k].entry y[k].entry=true:=fun k h h2=>hs (k+1) (by simp;omega) (by simp;omega)
  have hcr:∀r∈y,qa7 p t r.entry.call=0:=fun x hx=>hc x (by simp [hx])
  by_cases hq:q.entry.call=r.entry.call
  ·rw [if_pos hq];obtain ⟨i1,P',i2,i3⟩:=qrr ht P y c (dn++[q]) v (by rw [h];simp) (by simpa using hl) hrest hcr;refine ⟨i1,q::P',by rw [i2];simp,?_⟩;have he:q.entry=r.entry:=by
    obtain ⟨⟨k1,k2,k3⟩⟩:=q.entry.casesOn (motive:=fun e=>PLift (e.keys=e.keys/\e.priority=e.priority/\e.call=e.call)) (fun _ _ _=>⟨rfl,rfl,rfl⟩);cases hqe:q.entry;cases hre:r.entry;rw [hqe,hre] at h0 hq;simp only at h0 hq;rw [h0.1,h0.2,hq]
   simp only [enR,List.map_cons,List.length_cons,List.take_succ_cons,he];unfold enR at i3;rw [i3]
  ·rw [if_neg hq];obtain ⟨h1,h2⟩:=qaee v ht h (x:=r.entry.call) (hc r (by simp));have hlt:t<c.rows.length:=by rw [v.rl];exact ht
   obtain ⟨i1,P',i2,i3⟩:=qrr ht P y (xoC p c (modO t q r.entry.call)) (dn++[qbe r.entry.call q]) (qi8 v _) (by rw [h2,qfv hlt];simp) (by simpa using hl) hrest hcr;refine ⟨⟨h1,i1⟩,qbe r.entry.call q::P',by rw [qi9,i2,h2,qli];simp,?_⟩;have he:(qbe r.entry.call q).entry=r.entry:=by
    cases hre:r.entry;rw [hre] at h0;simp only [qbe,h0.1,h0.2]
   simp only [enR,List.map_cons,List.length_cons,List.take_succ_cons,he];unfold enR at i3;rw [i3]
end Go.Av
