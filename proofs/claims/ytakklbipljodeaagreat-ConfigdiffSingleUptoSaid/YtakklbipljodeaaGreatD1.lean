/-
 The difference of two configurations, as plain lists of operations.
-/
import Derived.Test.YtakklbipljodeaaGreatY1
set_option linter.unusedVariables false
set_option linter.unusedSimpArgs false
set_option linter.constructorNameAsVariable false
namespace Go.Av
set_option maxRecDepth 4000
def delO (t:Int) (r:Rw):TableOp:=⟨3,t,r.id,noE,noCl⟩
def modO (t:Int) (r:Rw) (c:ActionCall):TableOp:=⟨2,t,r.id,noE,c⟩
def insO (t:Int) (r:Rw):TableOp:=⟨1,t,0,r.entry,noCl⟩
def setO (t:Int) (c:ActionCall):TableOp:=⟨4,t,0,noE,c⟩
def delG (t:Int):List Rw->Nat->List Nat->List TableOp
 | [],_,_=>[]
 | r::x,i,[]=>delO t r::delG t x (i+1) []
 | r::x,i,s::ss=>if s=i then delG t x (i+1) ss else delO t r::delG t x (i+1) (s::ss)
def delR (t:Int) (ks:List Nat):List Rw->Nat->List TableOp
 | [],_=>[]
 | r::x,i=>if ks.contains i then delR t ks x (i+1) else delO t r::delR t ks x (i+1)
def modG (t:Int) (x:List Rw):List Nat->List Rw->List TableOp
 | s::ss,r::y=>match x[s]? with
  | some q=>if q.entry.call=r.entry.call then modG t x ss y else modO t q r.entry.call::modG t x ss y
  | none=>modG t x ss y
 | _,_=>[]
def tabG (t:Int) (x y:List Rw) (da db:ActionCall):List TableOp:=
 delG t x 0 (qaz x 0 y)++(modG t x (qaz x 0 y) y++((y.drop (qaz x 0 y).length).map (insO t)++(if da=db then [] else [setO t db])))
theorem qhm (a:List Rw):∀(b:List Rw) (f:Nat),(qaz a f b).length<=b.length
 | [],_=>by simp [qaz]
 | y::b,f=>by
  rw [qaz];cases atF a y.entry with
  | none=>simp
  | some i=>
   simp only;split
   ·simp only [List.length_cons];have:=qhm a b (i+1);omega
   ·simp
theorem qio (a:List Rw):∀(b:List Rw) (f:Nat),∀i∈qaz a f b,f<=i/\i<a.length
 | [],_,i,h=>by simp [qaz] at h
 | y::b,f,i,h=>by
  rw [qaz] at h;cases hx:atF a y.entry with
  | none=>rw [hx] at h;simp at h
  | some j=>
   rw [hx] at h;have hj:j<a.length:=(List.findIdx?_eq_some_iff_getElem.1 hx).1;simp only at h;split at h
   ·rcases List.mem_cons.1 h with rfl | h
    ·exact ⟨by assumption,hj⟩
    ·have:=qio a b (j+1) i h;omega
   ·simp at h
theorem qmp (a:List Rw):∀(b:List Rw) (f:Nat),(qaz a f b).Pairwise (· < ·)
 | [],_=>by simp [qaz]
 | y::b,f=>by
  rw [qaz];cases hx:atF a y.entry with
  | none=>simp
  | some j=>
   simp only;split
   ·rw [List.pairwise_cons];exact ⟨fun i hi=>by have:=(qio a b (j+1) i hi).1;omega,qmp a b (j+1)⟩
   ·simp
theorem qpn (t:Int):∀(x:List Rw) (i:Nat) (pre ss:List Nat),(∀s∈pre,s<i)->(∀s∈ss,i<=s)->ss.Pairwise (· < ·)->delG t x i ss=delR t (pre++ss) x i
 | [],_,_,_,_,_,_=>by simp [delG,delR]
 | r::x,i,pre,[],hp,_,_=>by
  have hc:(pre++[]).contains i=false:=by
   simp only [List.append_nil,List.contains_eq_any_beq,List.any_eq_false,beq_iff_eq];intro s hs h;have:=hp s hs;omega
  rw [delG,delR,hc];simp only [Bool.false_eq_true,if_false];rw [qpn t x (i+1) pre [] (fun s hs=>by have:=hp s hs;omega) (by simp) (by simp)]
 | r::x,i,pre,s::ss,hp,hs,hw=>by
  rw [List.pairwise_cons] at hw;rw [delG,delR];by_cases h:s=i
  ·have hc:(pre++s::ss).contains i=true:=by simp [h]
   rw [if_pos h,hc,if_pos rfl];have:=qpn t x (i+1) (pre++[s]) ss (fun q hq=>by
    rcases List.mem_append.1 hq with hq | hq
    ·have:=hp q hq;omega
    ·simp at hq;omega) (fun q hq=>by have:=hw.1 q hq;omega) hw.2
   rw [this];simp
  ·have hsi:i<s:=by have:=hs s (by simp);omega
   have hc:(pre++s::ss).contains i=false:=by
    simp only [List.contains_eq_any_beq,List.any_eq_false,beq_iff_eq];intro q hq hqi;rcases List.mem_append.1 hq with hq | hq
    ·have:=hp q hq;omega
    ·rcases List.mem_cons.1 hq with rfl | hq
     ·omega
     ·have:=hw.1 q hq;omega
   rw [if_neg h,hc];simp only [Bool.false_eq_true,if_false];rw [qpn t x (i+1) pre (s::ss) (fun q hq=>by have:=hp q hq;omega) (fun q hq=>by
    rcases List.mem_cons.1 hq with rfl | hq
    ·omega
    ·have:=hw.1 q hq;omega) (List.pairwise_cons.2 hw)]
def qd9 (a:List Rw) (f:Nat) (x:Entry):Option Nat:=((a.drop f).findIdx? fun r=>sk r.entry x).map (· +f)
def qh2 (a:List Rw):Nat->List Rw->List Nat
 | _,[]=>[]
 | f,y::b=>match qd9 a f y.entry with
  | some i=>i::qh2 a (i+1) b
  | none=>[]
theorem sk_tr {a b x:Entry} (h1:sk a x=true) (h2:sk b x=true):sk a b=true:=by
 unfold sk at*;simp only [decide_eq_true_eq] at*;exact ⟨h1.1.trans h2.1.symm,h1.2.trans h2.2.symm⟩
theorem qacm {a:List Rw} (hu:a.Pairwise fun x y=>sk x.entry y.entry=false) (f:Nat) (x:Entry):qd9 a f x=match atF a x with
  | some i=>if f<=i then some i else none
  | none=>none:=by
 unfold qd9;cases hx:atF a x with
 | none=>
  have hn:=List.findIdx?_eq_none_iff.1 hx;have:(a.drop f).findIdx? (fun r=>sk r.entry x)=none:=List.findIdx?_eq_none_iff.2 fun r hr=>hn r (List.mem_of_mem_drop hr)
  rw [this];rfl
 | some i=>
  obtain ⟨hi,h1,h2⟩:=List.findIdx?_eq_some_iff_getElem.1 hx;simp only;by_cases hf:f<=i
  ·rw [if_pos hf];have:(a.drop f).findIdx? (fun r=>sk r.entry x)=some (i - f):=by
    rw [List.findIdx?_eq_some_iff_getElem];refine ⟨by simp;omega,?_,?_⟩
    ·simp only [List.getElem_drop];have:f+(i - f)=i:=by omega
     simp only [this];exact h1
    ·intro j hj;simp only [List.getElem_drop];exact h2 (f+j) (by omega)
   rw [this];simp only [Option.map_some,Option.some.injEq];omega
  ·rw [if_neg hf];have:(a.drop f).findIdx? (fun r=>sk r.entry x)=none:=by
    rw [List.findIdx?_eq_none_iff];intro r hr;obtain ⟨j,hj,rfl⟩:=Qn.1 hr;rw [List.getElem_drop];have hjl:f+j<a.length:=by simp at hj;omega
    cases hb:sk a[f+j].entry x with
    | false=>rfl
    | true=>
     have h3:=sk_tr h1 hb;have h4:=List.pairwise_iff_getElem.1 hu i (f+j) hi hjl (by omega);rw [h4] at h3;cases h3
   rw [this];rfl
theorem qud {a:List Rw} (hu:a.Pairwise fun x y=>sk x.entry y.entry=false):∀(b:List Rw) (f:Nat),qh2 a f b=qaz a f b
 | [],_=>rfl
 | y::b,f=>by
  rw [qh2,qaz,qacm hu];cases atF a y.entry with
  | none=>rfl
  | some i=>
   simp only;by_cases h:f<=i
   ·rw [if_pos h,if_pos h];simp only;rw [qud hu b (i+1)]
   ·rw [if_neg h,if_neg h]
def opsD (p:Prg) (a b:Config):Nat->List TableOp
 | 0=>[]
 | t+1=>opsD p a b t++tabG t (qak a t) (qak b t) (qbt a t) (qbt b t)
def insN (l:List TableOp) (t:Int):Nat:=(l.filter fun o=>decide (o.kind=1/\o.table=t)).length
def qgg (p:Prg) (a:Config) (l:List TableOp):Bool:=(List.range p.tables.length).any fun t=>decide (1073741824 - qc2 a t<insN l t)
def qc1 (p:Prg) (a b:Config):AV:=
 if cfgE p a≠0 then .tup [.slice 9 [],.int .i64 (cfgE p a)] else if cfgE p b≠0 then .tup [.slice 9 [],.int .i64 (cfgE p b)]
 else if 64<(opsD p a b p.tables.length).length then .tup [.slice 9 [],.int .i64 12]
 else if qgg p a (opsD p a b p.tables.length) then .tup [.slice 9 [],.int .i64 13]
 else .tup [.slice 9 ((opsD p a b p.tables.length).map TableOp.c),.int .i64 0]
theorem qj2 (x y:ActionCall) (h:x.args.length<2^40):qab Φ f_103 [.agg (ActionCall.c x),.agg (ActionCall.c y)]=some (.val (.bool (decide (x=y)))):=by
 rw [qaa (fn:=c_103) rfl rfl];have hee:=qmg ⟨[],0,x⟩ ⟨[],0,y⟩ ⟨by simp,h⟩;have e:decide ((⟨[],0,x⟩:Entry)=⟨[],0,y⟩)=decide (x=y):=by simp
 rw [e] at hee;simp only [Entry.ce,List.map_nil] at hee;simp [c_103,ActionCall.ce,hee]
theorem qhx (x:ActionCall) (h:x.args.length<2^40):qab Φ f_104 [.agg (ActionCall.c x)]=some (.val (.agg (ActionCall.c x))):=by
 rw [qaa (fn:=c_104) rfl rfl];have h4:x.args.length*4<=70368744177664:=by omega
 by_cases z:x.args=[]
 ·simp [c_104,ActionCall.ce,z]
 ·simp [c_104,ActionCall.ce,h4,z]
theorem qqy (x:Entry) (hx:EntS x):qab Φ f_105 [.agg (Entry.c x)]=some (.val (.agg (Entry.c x))):=by
 rw [qaa (fn:=c_105) rfl rfl];have hc:=qhx x.call hx.al;have h8:x.keys.length*8<=70368744177664:=by have:=hx.kl;omega
 simp only [ActionCall.ce] at hc;by_cases z:x.keys=[]
 ·simp [c_105,Entry.ce,z,hc]
 ·simp [c_105,Entry.ce,h8,z,hc]
theorem qaab (l:List TableOp) (t:Int) {i:Nat} (hi:i<l.length):insN (l.take (i+1)) t=insN (l.take i) t+if l[i].kind=1/\l[i].table=t then 1 else 0:=by
 unfold insN;rw [Qh hi,List.filter_append,List.length_append];by_cases z:l[i].kind=1/\l[i].table=t<;>simp [z]
theorem qafu (l:List TableOp) (t:Int):insN l t<=l.length:=List.length_filter_le _ _
theorem qwf (l:List TableOp) (hl:l.length<2^40) (t:Int):qab Φ f_106 [.slice 9 (l.map TableOp.c),.int .i64 t]=some (.val (.int .i64 (insN l t:Nat))):=by
 rw [qaa (fn:=c_106) rfl rfl];simp [c_106];refine qay l.length (fun _=>[]) 0 (fun i e=>look 1 e=some (.int .i64 t)/\look 5 e=some (.int .i64 (insN (l.take i) t:Nat))/\look 8 e=some (.slice 9 (l.map TableOp.c))/\look 9 e=some (.int .i64 l.length)/\look 10 e=some (.int .i64 i)) (fun _=>some (Rt.val (.int .i64 (insN l t:Nat)))) ?_ ?_ 0 _ _ (Qc _) (Qc _) ?_
 ·rintro i e n L hi hL - ⟨h1,h5,h8,h9,h10⟩ ih;have hw:=qaf i (by omega);have hs:=qaab l t hi;have hb:=qafu (l.take i) t;rw [List.length_take] at hb;have hw2:IntKind.wrap .i64 ((insN (l.take i) t:Nat)+1)=(((insN (l.take i) t)+1:Nat):Int):=qa4 (by omega) (by omega);by_cases z1:l[i].kind=1
  ·by_cases z2:l[i].table=t
   ·rw [if_pos ⟨z1,z2⟩] at hs;simp [c_106_l0,TableOp.ce2,h1,h5,h8,h9,h10,hi,hL,z1,z2,hw,hw2];exact ih _ _ (Qc _) ⟨by simp [h1],by simp [hs],by simp [h8,TableOp.ce2],by simp [h9],by simp⟩
   ·rw [if_neg (fun h=>z2 h.2)] at hs;simp [c_106_l0,TableOp.ce2,h1,h5,h8,h9,h10,hi,hL,z1,z2,hw];exact ih _ _ (Qc _) ⟨by simp [h1],by simp [hs,h5],by simp [h8,TableOp.ce2],by simp [h9],by simp⟩
  ·rw [if_neg (fun h=>z1 h.1)] at hs;simp [c_106_l0,TableOp.ce2,h1,h5,h8,h9,h10,hi,hL,z1,hw];exact ih _ _ (Qc _) ⟨by simp [h1],by simp [hs,h5],by simp [h8,TableOp.ce2],by simp [h9],by simp⟩
 ·rintro e n L hL - ⟨h1,h5,h8,h9,h10⟩;rw [List.take_length] at h5;simp [c_106_l0,c_106_k1,h5,h9,h10,hL]
 ·simp [insN]
def OutB (O:List (Nat×AO)) (B:Nat) (out:List TableOp):Prop:=(out=[]/\look B O=some (.row 1 [[.fslice 9 []]]))\/∃T,look B O=some (.row 1 [[.app 9 (out.map TableOp.c) T]])/\look T O=some (.tok 9 out.length)
def isTok (O:List (Nat×AO)) (j:Nat):Prop:=∃z f,look j O=some (.tok z f)
def qahl (N:Nat) (O:List (Nat×AO)) (B:Nat) (out:List TableOp) (r:Option (Rt×AH)):Prop:=
 ∃O' N',r=some (.val (.tup []),⟨O',N'⟩)/\OutB O' B out/\Kp (fun j=>j=B\/isTok O j) N O O'/\Tail O' N'/\N<=N'
theorem qahn {O:List (Nat×AO)} {N:Nat} (hT:Tail O N) {B:Nat} {out:List TableOp} (hB:OutB O B out) (hol:out.length<2^38) (t:Int) {o:TableOp} {w:List AV} (hw:OpL o w):
  qahl N O B (out++[⟨o.kind,t,o.id,o.entry,o.call⟩]) (qar Φ f_102 [.agg w,.iptr 1 [[.int .i64 t]] 0 0,.ptr B 1 0 0] ⟨O,N⟩):=by
 obtain ⟨k,a,ca,rfl,h1,h2,h3,-,-⟩:=hw.ex;have e1:=fun H=>h1.snp (n:=39) (H:=H) (by simp)
 have e2:=fun H=>h2.snp (n:=39) (H:=H) (by simp)
 have e3:=fun H=>h3.snp (n:=39) (H:=H) (by simp)
 have g1:bor 40 k=false:=by rcases h1 with rfl | ⟨rfl,-⟩<;>simp
 have g2:bor 40 a=false:=by rcases h2 with rfl | ⟨rfl,-⟩<;>simp
 have g3:bor 40 ca=false:=by rcases h3 with rfl | ⟨rfl,-⟩<;>simp
 rw [qek (fn:=c_102) rfl rfl];have t0:=hT N (Qb _);have t1:=hT (N+1) (by omega);have h120:(out.length+1)*120<=70368744177664:=by omega
 rcases hB with ⟨rfl,hB⟩ | ⟨T,hB,hk⟩
 ·have hlt:=hT.lt hB;have d0:¬B=N:=by omega
  have d0':¬N=B:=by omega
  have d1:¬B=N+1:=by omega
  have d1':¬N+1=B:=by omega
  simp [c_102,t0,t1,hB,qbr,qa3,d0,d0',d1,d1',nne N,nbq N,e1,e2,e3,g1,g2,g3];refine ⟨_,_,rfl,.inr ⟨N+1,by simp [qa3,qbr,hB,TableOp.ce2],by simp [qa3,qbr,t1,d1',nne N]⟩,Kp.setl (Kp.apps ?_) (.inr (.inl rfl)),qdi (hT.apps (by omega) ?_),by omega⟩
  ·simp only [List.mem_cons,List.not_mem_nil,or_false];rintro x (rfl | rfl)<;>simp
  ·simp only [List.mem_cons,List.not_mem_nil,or_false];rintro x (rfl | rfl)<;>simp only<;>omega
 ·have hlt:=hT.lt hB;have hlT:=hT.lt hk;have d0:¬B=N:=by omega
  have d0':¬N=B:=by omega
  have d2:¬T=N:=by omega
  have d2':¬N=T:=by omega
  have hBT:¬B=T:=qca hB hk (by simp);have hBT':¬T=B:=fun h=>hBT h.symm
  simp [c_102,t0,t1,hB,hk,qbr,qa3,d0,d0',d2,d2',hBT,hBT',nne N,nbq N,e1,e2,e3,g1,g2,g3,h120];refine ⟨_,_,rfl,.inr ⟨T,by simp [qa3,qbr,hB,hBT,TableOp.ce2],by simp [qa3,qbr,hk,hBT']⟩,Kp.setl (Kp.setl (Kp.apps (by simp)) (.inr (.inr ⟨_,_,hk⟩))) (.inr (.inl rfl)),qdi (qdi (hT.apps (by omega) (by simp))),by omega⟩
structure DfE (n t:Nat) (x y:List Rw) (same:List Nat) (b3 b4 b5 B:Nat) (e:Env):Prop where
 e3:look 3 e=some (.ptr b3 9 0 0)
 e4:look 4 e=some (.ptr b4 4 0 0)
 e5:look 5 e=some (.ptr b5 4 0 0)
 e10:look 10 e=some (.ptr B 1 0 0)
 e11:look 11 e=some (.iptr 1 [[.int .i64 t]] 0 0)
 e12:look 12 e=some (.slice 5 (x.map Rw.c))
 e13:look 13 e=some (.slice 5 (y.map Rw.c))
 e14:look 14 e=some (.slice 1 (same.map cN))
 e15:look 15 e=some (.func (.func f_102) [] [.iptr 1 [[.int .i64 t]] 0 0,.ptr B 1 0 0])
 e39:look 39 e=some (.int .i64 n)
 e40:look 40 e=some (.int .i64 t)
structure DfO (p:Prg) (a b:Config) (b3 b4 b5 B:Nat) (out:List TableOp) (O:List (Nat×AO)) (N:Nat):Prop where
 tl:Tail O N
 ob:OutB O B out
 l3:look b3 O=some (.row 9 [Prg.c p])
 l4:look b4 O=some (.row 4 [Config.c a])
 l5:look b5 O=some (.row 4 [Config.c b])
 n3:b3≠B
 n4:b4≠B
 n5:b5≠B
theorem DfO.mono {p:Prg} {a b:Config} {b3 b4 b5 B:Nat} {out:List TableOp} {O:List (Nat×AO)} {N N':Nat} (h:DfO p a b b3 b4 b5 B out O N) (hn:N<=N'):DfO p a b b3 b4 b5 B out O N':=⟨h.tl.mono hn,h.ob,h.l3,h.l4,h.l5,h.n3,h.n4,h.n5⟩
theorem DfO.add {p:Prg} {a b:Config} {b3 b4 b5 B:Nat} {out:List TableOp} {O:List (Nat×AO)} {N:Nat} (h:DfO p a b b3 b4 b5 B out O N) (hol:out.length<2^38) (t:Int) {o:TableOp} {w:List AV} (hw:OpL o w):
  ∃O' N',qar Φ f_102 [.agg w,.iptr 1 [[.int .i64 t]] 0 0,.ptr B 1 0 0] ⟨O,N⟩=some (.val (.tup []),⟨O',N'⟩)/\DfO p a b b3 b4 b5 B (out++[⟨o.kind,t,o.id,o.entry,o.call⟩]) O' N':=by
 obtain ⟨O',N',e,hb,hk,hT,hN⟩:=qahn h.tl h.ob hol t hw;have kp:∀j z es,j≠B->look j O=some (.row z es)->look j O'=some (.row z es):=fun j z es hj hl=>by
  rw [hk j (h.tl.lt hl),hl];rintro (hc | ⟨z',f,hc⟩)
  ·exact hj hc
  ·rw [hl] at hc;cases hc
 exact ⟨O',N',e,hT,hb,kp _ _ _ h.n3 h.l3,kp _ _ _ h.n4 h.l4,kp _ _ _ h.n5 h.l5,h.n3,h.n4,h.n5⟩
theorem delG_nil (t:Int) (r:Rw) (x:List Rw) (i:Nat):delG t (r::x) i []=delO t r::delG t x (i+1) []:=rfl
theorem qgt (t:Int):∀(x:List Rw) (i:Nat) (ss:List Nat),(delG t x i ss).length<=x.length
 | [],_,_=>by simp [delG]
 | r::x,i,[]=>by rw [delG];simp only [List.length_cons];have:=qgt t x (i+1) [];omega
 | r::x,i,s::ss=>by
  rw [delG];split
  ·have:=qgt t x (i+1) ss;simp only [List.length_cons];omega
  ·simp only [List.length_cons];have:=qgt t x (i+1) (s::ss);omega
theorem df0 {β:Type} {fin:Option (Ex×St)->Option β} (p:Prg) (a b:Config) (n t:Nat) (x y:List Rw) (same:List Nat) (hx:x.length<2^37) (hs:same.length<2^37) (hs2:∀s∈same,s<2^40) {b3 b4 b5 B:Nat} (out:List TableOp) (hol:out.length<2^37) {K:List Go.Av.Fr} {R:Option β}
  (hK:∀e O N,DfE n t x y same b3 b4 b5 B e->DfO p a b b3 b4 b5 B (out++delG t x 0 same) O N->go Φ fin K .normal ⟨e,⟨O,N⟩⟩=R) (e0:Env)
  (O:List (Nat×AO)) (N:Nat) (hE:DfE n t x y same b3 b4 b5 B e0) (hO:DfO p a b b3 b4 b5 B out O N) (h57:look 57 e0=some (.slice 5 (x.map Rw.c))) (h58:look 58 e0=some (.int .i64 x.length)) (h59:look 59 e0=some (.int .i64 0)) (h16:look 16 e0=some (.int .i64 0)):
  go Φ fin (.c (.loop c_40_l0):: .b 2::K) .normal ⟨e0,⟨O,N⟩⟩=R:=by
 refine qbb x.length (fun i e h=>∃O N k o,h=⟨O,N⟩/\DfE n t x y same b3 b4 b5 B e/\DfO p a b b3 b4 b5 B o O N/\o.length<=out.length+i/\o++delG t (x.drop i) i (same.drop k)=out++delG t x 0 same/\k<=same.length/\k<=i/\look 16 e=some (.int .i64 (k:Nat))/\look 57 e=some (.slice 5 (x.map Rw.c))/\look 58 e=some (.int .i64 x.length)/\look 59 e=some (.int .i64 i))
  (fun _=>R) ?_ ?_ 0 _ _ (Qc _) ⟨O,N,0,out,rfl,hE,hO,by omega,by simp,Qc _,Qc _,h16,h57,h58,h59⟩
 ·rintro i e _ L hi hL ⟨O,N,k,o,rfl,hE,hO,hol2,hd,hkl,hki,h16,h57,h58,h59⟩ ih;have hw:=qaf i (by omega);have hwk:=qaf k (by omega);have t0:=hO.tl N (Qb _);rw [Qi hi] at hd;have hadd:=fun M (hM:N<=M)=>(hO.mono hM).add (by omega) t (o:=⟨3,0,x[i].id,noE,noCl⟩) (w:=[.int .i64 3,.int .i64 0,.int .i64 x[i].id,.fslice 2 [],.int .i64 0,.int .i64 0,.fslice 1 [],.int .i64 0,.fslice 1 []]) ⟨_,_,_,rfl,.nil,.nil,.nil,by simp,by simp⟩
  by_cases hk:k<same.length
  ·rw [Qi hk,delG] at hd;by_cases hq:same[k]=i
   ·rw [if_pos hq] at hd;simp [c_40_l0,Rw.ce,hE.e12,hE.e13,hE.e14,hE.e15,h16,h57,h58,h59,hi,hL,hk,cN,hq,t0,qbr,qa3,hw,hwk];exact ih _ _ ⟨_,_,k+1,o,rfl,⟨by simp [hE.e3],by simp [hE.e4],by simp [hE.e5],by simp [hE.e10],by simp [hE.e11],by simp [hE.e12,Rw.ce],by simp [hE.e13],by simp [hE.e14,cN],by simp [hE.e15],by simp [hE.e39],by simp [hE.e40]⟩,hO.mono (Nat.le_succ _),by omega,hd,by omega,by omega,by simp,by simp [h57,Rw.ce],by simp [h58],by simp⟩
   ·rw [if_neg hq] at hd;obtain ⟨O',N',ea,hO'⟩:=hadd (N+1) (by omega);have hq':¬((same[k]:Int)=(i:Int)):=by omega
    simp [c_40_l0,Rw.ce,hE.e12,hE.e13,hE.e14,hE.e15,h16,h57,h58,h59,hi,hL,hk,cN,hq',t0,qbr,qa3,hw,hwk,ea];refine ih _ _ ⟨_,_,k,_,rfl,⟨by simp [hE.e3],by simp [hE.e4],by simp [hE.e5],by simp [hE.e10],by simp [hE.e11],by simp [hE.e12,Rw.ce],by simp [hE.e13],by simp [hE.e14,cN],by simp [hE.e15],by simp [hE.e39],by simp [hE.e40]⟩,hO',by simp;omega,?_,hkl,by omega,by simp [h16],by simp [h57,Rw.ce],by simp [h58],by simp⟩;rw [<- hd,Qi hk];simp [delO]
  ·have hn:same.drop k=[]:=List.drop_eq_nil_of_le (by omega);rw [hn,delG_nil] at hd;obtain ⟨O',N',ea,hO'⟩:=hadd (N+1) (by omega);have hk':¬((k:Int)<(same.length:Int)):=by omega
   simp [c_40_l0,Rw.ce,hE.e12,hE.e13,hE.e14,hE.e15,h16,h57,h58,h59,hi,hL,hk,t0,qbr,qa3,hw,hwk,ea];refine ih _ _ ⟨_,_,k,_,rfl,⟨by simp [hE.e3],by simp [hE.e4],by simp [hE.e5],by simp [hE.e10],by simp [hE.e11],by simp [hE.e12,Rw.ce],by simp [hE.e13],by simp [hE.e14],by simp [hE.e15],by simp [hE.e39],by simp [hE.e40]⟩,hO',by simp;omega,?_,hkl,by omega,by simp [h16],by simp [h57,Rw.ce],by simp [h58],by simp⟩;rw [<- hd,hn];simp [delO]
 ·rintro e _ L hL ⟨O,N,k,o,rfl,hE,hO,hol2,hd,hkl,hki,h16,h57,h58,h59⟩;have hz:delG t (x.drop x.length) x.length (same.drop k)=[]:=by rw [List.drop_length];cases same.drop k<;>rfl
  rw [hz,List.append_nil] at hd;subst hd;simp [c_40_l0,h58,h59,hL];exact hK _ _ _ ⟨by simp [hE.e3],by simp [hE.e4],by simp [hE.e5],by simp [hE.e10],by simp [hE.e11],by simp [hE.e12],by simp [hE.e13],by simp [hE.e14],by simp [hE.e15],by simp [hE.e39],by simp [hE.e40]⟩ hO
theorem qlk (t:Int) (x:List Rw):∀(ss:List Nat) (y:List Rw),(modG t x ss y).length<=ss.length
 | [],_=>by simp [modG]
 | s::ss,[]=>by simp [modG]
 | s::ss,r::y=>by
  have ih:=qlk t x ss y;rw [modG];cases x[s]? with
  | none=>simp only [List.length_cons];omega
  | some q=>
   simp only;split<;>simp only [List.length_cons]<;>omega
theorem qsh {t:Int} {x:List Rw} {s:Nat} {ss:List Nat} {r:Rw} {y:List Rw} (hs:s<x.length):modG t x (s::ss) (r::y)=if x[s].entry.call=r.entry.call then modG t x ss y else modO t x[s] r.entry.call::modG t x ss y:=by
 rw [modG,Qa hs]
theorem df1 {β:Type} {fin:Option (Ex×St)->Option β} (p:Prg) (a b:Config) (n t:Nat) (x y:List Rw) (same:List Nat) (hs:same.length<2^37) (hs2:∀s∈same,s<x.length) (hsy:same.length<=y.length) (hxa:∀r∈x,r.entry.call.args.length<2^40) (hya:∀r∈y,r.entry.call.args.length<2^40)
    {b3 b4 b5 B:Nat} (out:List TableOp) (hol:out.length<2^37) {K:List Go.Av.Fr} {R:Option β}
    (hK:∀e O N,DfE n t x y same b3 b4 b5 B e->DfO p a b b3 b4 b5 B (out++modG t x same y) O N->go Φ fin K .normal ⟨e,⟨O,N⟩⟩=R) (e0:Env)
    (O:List (Nat×AO)) (N:Nat) (hE:DfE n t x y same b3 b4 b5 B e0) (hO:DfO p a b b3 b4 b5 B out O N) (h84:look 84 e0=some (.slice 1 (same.map cN))) (h85:look 85 e0=some (.int .i64 same.length)) (h86:look 86 e0=some (.int .i64 0)):
    go Φ fin (.c (.loop c_40_l1):: .b 4::K) .normal ⟨e0,⟨O,N⟩⟩=R:=by
  refine qbb same.length (fun i e h=>∃O N o,h=⟨O,N⟩/\DfE n t x y same b3 b4 b5 B e/\DfO p a b b3 b4 b5 B o O N/\o.length<=out.length+i/\o++modG t x (same.drop i) (y.drop i)=out++modG t x same y/\look 84 e=some (.slice 1 (same.map cN))/\look 85 e=some (.int .i64 same.length)/\look 86 e=some (.int .i64 i))
    (fun _=>R) ?_ ?_ 0 _ _ (Qc _) ⟨O,N,out,rfl,hE,hO,by omega,by simp,h84,h85,h86⟩
  · rintro i e _ L hi hL ⟨O,N,o,rfl,hE,hO,hol2,hd,h84,h85,h86⟩ ih
    have hw:=qaf i (by omega);have hiy:i<y.length:=by omega
    have hsx:=hs2 same[i] (Qd hi);rw [Qi hi,Qi hiy,qsh hsx] at hd;have he:=qj2 x[same[i]].entry.call y[i].entry.call (hxa _ (Qd hsx));have hc:=qhx y[i].entry.call (hya _ (Qd hiy));simp only [ActionCall.ce] at he hc;have hadd:=hO.add (by omega) t (o:=⟨2,0,x[same[i]].id,noE,y[i].entry.call⟩) (w:=[.int .i64 2,.int .i64 0,.int .i64 x[same[i]].id,.fslice 2 [],.int .i64 0,.int .i64 0,.fslice 1 [],.int .i64 y[i].entry.call.action,.slice 1 (y[i].entry.call.args.map c32)]) ⟨_,_,_,rfl,.nil,.nil,.sl,by simp,fun _ _=>rfl⟩;by_cases q:x[same[i]].entry.call=y[i].entry.call
    · rw [if_pos q] at hd
      rw [decide_eq_true q] at he;simp [c_40_l1,Rw.ce,hE.e12,hE.e13,hE.e15,h84,h85,h86,hi,hiy,hL,cN,hsx,he,hw];exact ih _ _ ⟨_,_,o,rfl,⟨by simp [hE.e3],by simp [hE.e4],by simp [hE.e5],by simp [hE.e10],by simp [hE.e11],by simp [hE.e12,Rw.ce],by simp [hE.e13,Rw.ce],by simp [hE.e14,cN],by simp [hE.e15],by simp [hE.e39],by simp [hE.e40]⟩,hO,by omega,hd,by simp [h84,cN],by simp [h85],by simp⟩
    · rw [if_neg q] at hd
      rw [decide_eq_false q] at he;obtain ⟨O',N',ea,hO'⟩:=hadd;simp [c_40_l1,Rw.ce,hE.e12,hE.e13,hE.e15,h84,h85,h86,hi,hiy,hL,cN,hsx,he,hc,ea,hw];refine ih _ _ ⟨_,_,_,rfl,⟨by simp [hE.e3],by simp [hE.e4],by simp [hE.e5],by simp [hE.e10],by simp [hE.e11],by simp [hE.e12,Rw.ce],by simp [hE.e13,Rw.ce],by simp [hE.e14,cN],by simp [hE.e15],by simp [hE.e39],by simp [hE.e40]⟩,hO',by simp;omega,?_,by simp [h84,cN],by simp [h85],by simp⟩;rw [<- hd];simp [modO]
  · rintro e _ L hL ⟨O,N,o,rfl,hE,hO,hol2,hd,h84,h85,h86⟩
    have hz:modG t x (same.drop same.length) (y.drop same.length)=[]:=by rw [List.drop_length,modG];simp
    rw [hz,List.append_nil] at hd;subst hd;simp [c_40_l1,h85,h86,hL];exact hK _ _ _ ⟨by simp [hE.e3],by simp [hE.e4],by simp [hE.e5],by simp [hE.e10],by simp [hE.e11],by simp [hE.e12],by simp [hE.e13],by simp [hE.e14],by simp [hE.e15],by simp [hE.e39],by simp [hE.e40]⟩ hO
theorem df2 {β:Type} {fin:Option (Ex×St)->Option β} (p:Prg) (a b:Config) (n t:Nat) (x y:List Rw) (same:List Nat) {z:List Rw} (hz:z.length<2^37) (hzs:∀r∈z,EntS r.entry)
    {b3 b4 b5 B:Nat} (out:List TableOp) (hol:out.length<2^37) {K:List Go.Av.Fr} {R:Option β}
    (hK:∀e O N,DfE n t x y same b3 b4 b5 B e->DfO p a b b3 b4 b5 B (out++z.map (insO t)) O N->go Φ fin K .normal ⟨e,⟨O,N⟩⟩=R) (e0:Env)
    (O:List (Nat×AO)) (N:Nat) (hE:DfE n t x y same b3 b4 b5 B e0) (hO:DfO p a b b3 b4 b5 B out O N) (h124:look 124 e0=some (.slice 5 (z.map Rw.c))) (h125:look 125 e0=some (.int .i64 z.length)) (h126:look 126 e0=some (.int .i64 0)):
    go Φ fin (.c (.loop c_40_l2):: .b 6::K) .normal ⟨e0,⟨O,N⟩⟩=R:=by
  refine qbb z.length (fun i e h=>∃O N o,h=⟨O,N⟩/\DfE n t x y same b3 b4 b5 B e/\DfO p a b b3 b4 b5 B o O N/\o=out++(z.take i).map (insO t)/\look 124 e=some (.slice 5 (z.map Rw.c))/\look 125 e=some (.int .i64 z.length)/\look 126 e=some (.int .i64 i))
    (fun _=>R) ?_ ?_ 0 _ _ (Qc _) ⟨O,N,out,rfl,hE,hO,by simp,h124,h125,h126⟩
  · rintro i e _ L hi hL ⟨O,N,o,rfl,hE,hO,hd,h124,h125,h126⟩ ih
    have hw:=qaf i (by omega);have hc:=qqy z[i].entry (hzs _ (Qd hi));simp only [Entry.ce] at hc;have t0:=hO.tl N (Qb _);have hol2:o.length<2^38:=by rw [hd];simp;omega
    obtain ⟨O',N',ea,hO'⟩:=(hO.mono (Nat.le_succ N)).add hol2 t (o:=⟨1,0,0,z[i].entry,noCl⟩) (w:=[.int .i64 1,.int .i64 0,.int .i64 0,.slice 2 (z[i].entry.keys.map KeyMatch.c),.int .i64 z[i].entry.priority,.int .i64 z[i].entry.call.action,.slice 1 (z[i].entry.call.args.map c32),.int .i64 0,.fslice 1 []]) ⟨_,_,_,rfl,.sl,.sl,.nil,fun _=>⟨rfl,rfl⟩,by simp⟩;simp [c_40_l2,Rw.ce,hE.e15,h124,h125,h126,hi,hL,t0,qbr,qa3,hc,ea,hw];refine ih _ _ ⟨_,_,_,rfl,⟨by simp [hE.e3],by simp [hE.e4],by simp [hE.e5],by simp [hE.e10],by simp [hE.e11],by simp [hE.e12],by simp [hE.e13],by simp [hE.e14],by simp [hE.e15],by simp [hE.e39],by simp [hE.e40]⟩,hO',?_,by simp [h124,Rw.ce],by simp [h125],by simp⟩;rw [hd,Qh hi,List.map_append,List.append_assoc];rfl
  · rintro e _ L hL ⟨O,N,o,rfl,hE,hO,hd,h124,h125,h126⟩
    rw [List.take_length] at hd;subst hd;simp [c_40_l2,h125,h126,hL];exact hK _ _ _ ⟨by simp [hE.e3],by simp [hE.e4],by simp [hE.e5],by simp [hE.e10],by simp [hE.e11],by simp [hE.e12],by simp [hE.e13],by simp [hE.e14],by simp [hE.e15],by simp [hE.e39],by simp [hE.e40]⟩ hO
theorem df3 {β:Type} {fin:Option (Ex×St)->Option β} (p:Prg) (a b:Config) (n t:Nat) (x y:List Rw) (same:List Nat) (ha:t<a.defaults.length) (hb:t<b.defaults.length) (hal:a.defaults[t].args.length<2^40) (hbl:b.defaults[t].args.length<2^40)
    {b3 b4 b5 B:Nat} (out:List TableOp) (hol:out.length<2^38) {K:List Go.Av.Fr} {R:Option β}
    (hK:∀e O N,DfE n t x y same b3 b4 b5 B e->DfO p a b b3 b4 b5 B (out++(if a.defaults[t]=b.defaults[t] then [] else [setO t b.defaults[t]])) O N->go Φ fin K .normal ⟨e,⟨O,N⟩⟩=R) (e:Env)
    (O:List (Nat×AO)) (N:Nat) (hE:DfE n t x y same b3 b4 b5 B e) (hO:DfO p a b b3 b4 b5 B out O N):
    go Φ fin (.c c_40_k3::K) .normal ⟨e,⟨O,N⟩⟩=R:=by
  have he:=qj2 a.defaults[t] b.defaults[t] hal;have hc:=qhx b.defaults[t] hbl;have hl4:=hO.l4;have hl5:=hO.l5;rw [Config.ce] at hl4 hl5;simp only [ActionCall.ce] at he hc;by_cases q:a.defaults[t]=b.defaults[t]
  · rw [if_pos q,List.append_nil] at hK
    rw [decide_eq_true q] at he;simp [c_40_k3,ActionCall.ce,hE.e4,hE.e5,hE.e11,hE.e15,hl4,hl5,ha,hb,he];exact hK _ _ _ ⟨by simp [hE.e3],by simp [hE.e4],by simp [hE.e5],by simp [hE.e10],by simp [hE.e11],by simp [hE.e12],by simp [hE.e13],by simp [hE.e14],by simp [hE.e15],by simp [hE.e39],by simp [hE.e40]⟩ hO
  · rw [if_neg q] at hK
    rw [decide_eq_false q] at he;obtain ⟨O',N',ea,hO'⟩:=hO.add hol t (o:=⟨4,0,0,noE,b.defaults[t]⟩) (w:=[.int .i64 4,.int .i64 0,.int .i64 0,.fslice 2 [],.int .i64 0,.int .i64 0,.fslice 1 [],.int .i64 b.defaults[t].action,.slice 1 (b.defaults[t].args.map c32)]) ⟨_,_,_,rfl,.nil,.nil,.sl,by simp,fun _ _=>rfl⟩;simp [c_40_k3,ActionCall.ce,hE.e4,hE.e5,hE.e11,hE.e15,hl4,hl5,ha,hb,he,hc,ea];exact hK _ _ _ ⟨by simp [hE.e3],by simp [hE.e4],by simp [hE.e5],by simp [hE.e10],by simp [hE.e11],by simp [hE.e12],by simp [hE.e13],by simp [hE.e14],by simp [hE.e15],by simp [hE.e39],by simp [hE.e40]⟩ hO'
theorem qw2 {p:Prg} {t:Int} {x:Entry} (hi:inT p t=true) (h:entE p t x=0):0<=x.priority/\x.priority<=255:=by
 obtain ⟨k,rfl,hk⟩:=qfb hi;unfold entE at h;split at h
 ·exact absurd h (by assumption)
 rw [qeo,Qa hk] at h;simp only at h;split at h
 ·cases h
 cases hf:fe (entG p p.tables[k] x) p.tables[k].keys.length 0 with
 | some e=>
  rw [hf] at h;simp only [Option.getD_some] at h;obtain ⟨i,_,hx⟩:=qec hf;unfold entG at hx;split at hx
  ·split at hx
   ·cases hx
   ·cases hx;exact absurd h (by assumption)
  ·cases hx
 | none=>
  rw [hf] at h;simp only [Option.getD_none] at h;unfold entF at h;split at h
  ·cases h
  split at h
  ·cases h
  omega
theorem qvm (t:Int) (x y:List Rw) (da db:ActionCall):(tabG t x y da db).length<=x.length+2*y.length+1:=by
 unfold tabG;have h1:=qgt t x 0 (qaz x 0 y);have h2:=qlk t x (qaz x 0 y) y;have h3:=qhm x y 0;simp only [List.length_append,List.length_map,List.length_drop];split<;>simp<;>omega
structure DfB (n:Nat) (t:Nat) (b3 b4 b5 B:Nat) (e:Env):Prop where
 e3:look 3 e=some (.ptr b3 9 0 0)
 e4:look 4 e=some (.ptr b4 4 0 0)
 e5:look 5 e=some (.ptr b5 4 0 0)
 e10:look 10 e=some (.ptr B 1 0 0)
 e39:look 39 e=some (.int .i64 n)
 e40:look 40 e=some (.int .i64 t)
theorem qir {p:Prg} {a b:Config} (va:CfgV p a) (vb:CfgV p b):∀t,t<=p.tables.length->(opsD p a b t).length<=769*t
 | 0,_=>by simp [opsD]
 | t+1,h=>by
  have ih:=qir va vb t (by omega);have ha:t<a.rows.length:=by rw [va.rl];omega
  have hb:t<b.rows.length:=by rw [vb.rl];omega
  have h1:=va.small a.rows[t] (Qd ha);have h2:=vb.small b.rows[t] (Qd hb);have h3:=qvm t (qak a t) (qak b t) (qbt a t) (qbt b t);rw [qax ha,qax hb] at h3;rw [opsD,List.length_append,qax ha,qax hb];omega
theorem df7 {β:Type} {fin:Option (Ex×St)->Option β} (p:Prg) {a b:Config} (va:CfgV p a) (vb:CfgV p b) (sa:CfgT a) (sb:CfgT b) (hp:p.tables.length<2^26) {b3 b4 b5 B:Nat} {K:List Go.Av.Fr} {R:Option β}
  (hK:∀e O N,DfB a.rows.length p.tables.length b3 b4 b5 B e->DfO p a b b3 b4 b5 B (opsD p a b p.tables.length) O N->go Φ fin K .normal ⟨e,⟨O,N⟩⟩=R) (e0:Env)
  (O:List (Nat×AO)) (N:Nat) (hE:DfB a.rows.length 0 b3 b4 b5 B e0) (hO:DfO p a b b3 b4 b5 B [] O N):
  go Φ fin (.c (.loop c_40_l7):: .b 0::K) .normal ⟨e0,⟨O,N⟩⟩=R:=by
 refine qbb p.tables.length (fun t e h=>∃O N,h=⟨O,N⟩/\DfB a.rows.length t b3 b4 b5 B e/\DfO p a b b3 b4 b5 B (opsD p a b t) O N) (fun _=>R) ?_ ?_ 0 _ _ (Qc _) ⟨O,N,rfl,hE,hO⟩
 ·rintro t e _ L ht hL ⟨O,N,rfl,hE,hO⟩ ih;have hw:=qaf t (by omega);have hta:t<a.rows.length:=by rw [va.rl];exact ht
  have htb:t<b.rows.length:=by rw [vb.rl];exact ht
  have hda:t<a.defaults.length:=by rw [va.dl];exact ht
  have hdb:t<b.defaults.length:=by rw [vb.dl];exact ht
  have xs:=va.small a.rows[t] (Qd hta);have ys:=vb.small b.rows[t] (Qd htb);have xr:=(sa.rs a.rows[t] (Qd hta)).2;have yr:=(sb.rs b.rows[t] (Qd htb)).2;have hva:=va.at ht;have hvb:=vb.at ht;have kx:∀r∈a.rows[t],KeyS r.entry/\r.entry.keys.length<2^40:=fun r hr=>by
   have:=qw2 (qf3 ht) (hva.ent r hr);exact ⟨⟨(xr r hr).ks,this.1,this.2⟩,(xr r hr).kl⟩
  have ky:∀r∈b.rows[t],KeyS r.entry/\r.entry.keys.length<2^40:=fun r hr=>by
   have:=qw2 (qf3 ht) (hvb.ent r hr);exact ⟨⟨(yr r hr).ks,this.1,this.2⟩,(yr r hr).kl⟩
  have kk:=qafv a.rows[t] b.rows[t] (by omega) (by omega) kx ky hva.uniq;have hsl:=qhm a.rows[t] b.rows[t] 0;have hsg:=qio a.rows[t] b.rows[t] 0;have hol:=qir va vb t (by omega);have hdl:=qgt t a.rows[t] 0 (qaz a.rows[t] 0 b.rows[t]);have hml:=qlk t a.rows[t] (qaz a.rows[t] 0 b.rows[t]) b.rows[t];have hl4:=hO.l4;have hl5:=hO.l5;rw [Config.ce] at hl4 hl5;have t0:=hO.tl N (Qb _);have n4:¬N=b4:=by have:=hO.tl.lt hl4;omega
  have n5:¬N=b5:=by have:=hO.tl.lt hl5;omega
  have hlt:(t:Int)<(a.rows.length:Int):=by omega
  generalize hsm:qaz a.rows[t] 0 b.rows[t]=same at*;have hdr:qak a (t:Int)=a.rows[t]:=qax hta;have hdr2:qak b (t:Int)=b.rows[t]:=qax htb;have hdd:qbt a (t:Int)=a.defaults[t]:=by simp [qbt,qeo,Qa hda]
  have hdd2:qbt b (t:Int)=b.defaults[t]:=by simp [qbt,qeo,Qa hdb]
  have hoD:opsD p a b (t+1)=opsD p a b t++(delG t a.rows[t] 0 same++(modG t a.rows[t] same b.rows[t]++((b.rows[t].drop same.length).map (insO t)++(if a.defaults[t]=b.defaults[t] then [] else [setO t b.defaults[t]])))):=by
   rw [opsD,hdr,hdr2,hdd,hdd2,tabG,hsm]
  simp [c_40_l7,hE.e4,hE.e5,hE.e10,hE.e39,hE.e40,hlt,hta,htb,hL,t0,qbr,qa3,hl4,hl5,n4,n5,cSe,kk];refine df0 p a b a.rows.length t a.rows[t] b.rows[t] same (by omega) (by omega) (fun s hs=>by have:=hsg s hs;omega) (opsD p a b t) (by omega) ?_ _ O (N+1) ⟨by simp [hE.e3],by simp [hE.e4],by simp [hE.e5],by simp [hE.e10],by simp,by simp,by simp,by simp,by simp,by simp [hE.e39],by simp [hE.e40]⟩ (hO.mono (Nat.le_succ _)) (by simp) (by simp) (by simp) (by simp);intro e1 O1 N1 hE1 hO1;simp [c_40_k5,hE1.e14];refine df1 p a b a.rows.length t a.rows[t] b.rows[t] same (by omega) (fun s hs=>(hsg s hs).2) hsl (fun r hr=>(xr r hr).al) (fun r hr=>(yr r hr).al) _ (by rw [List.length_append];omega) ?_ _ O1 N1 ⟨by simp [hE1.e3],by simp [hE1.e4],by simp [hE1.e5],by simp [hE1.e10],by simp [hE1.e11],by simp [hE1.e12],by simp [hE1.e13],by simp [hE1.e14],by simp [hE1.e15],by simp [hE1.e39],by simp [hE1.e40]⟩ hO1 (by simp) (by simp) (by simp);intro e2 O2 N2 hE2 hO2;have htk:List.take (b.rows[t].length - same.length) (List.drop same.length (List.map Rw.c b.rows[t]))=(b.rows[t].drop same.length).map Rw.c:=by
   rw [Qo (by simp),List.map_drop]
  simp [c_40_k4,hE2.e13,hE2.e14,hsl,htk];have hzl:(b.rows[t].drop same.length).length=b.rows[t].length - same.length:=List.length_drop;refine df2 p a b a.rows.length t a.rows[t] b.rows[t] same (z:=b.rows[t].drop same.length) (by omega) (fun r hr=>yr r (List.mem_of_mem_drop hr)) _ (by rw [List.length_append,List.length_append];omega) ?_ _ O2 N2 ⟨by simp [hE2.e3],by simp [hE2.e4],by simp [hE2.e5],by simp [hE2.e10],by simp [hE2.e11],by simp [hE2.e12],by simp [hE2.e13],by simp [hE2.e14],by simp [hE2.e15],by simp [hE2.e39],by simp [hE2.e40]⟩ hO2 (by simp) (by simp [hzl]) (by simp);intro e3 O3 N3 hE3 hO3;refine df3 p a b a.rows.length t a.rows[t] b.rows[t] same hda hdb (sa.ds _ (Qd hda)).1 (sb.ds _ (Qd hdb)).1 _ (by simp only [List.length_append,List.length_map];omega) ?_ _ O3 N3 hE3 hO3;intro e4 O4 N4 hE4 hO4;simp [c_40_k6,hE4.e40,hw];refine ih _ _ ⟨_,_,rfl,⟨by simp [hE4.e3],by simp [hE4.e4],by simp [hE4.e5],by simp [hE4.e10],by simp [hE4.e39],by simp⟩,?_⟩;rw [hoD];simpa only [List.append_assoc] using hO4
 ·rintro e _ L hL ⟨O,N,rfl,hE,hO⟩;have hlt:¬((p.tables.length:Int)<(a.rows.length:Int)):=by rw [va.rl];omega
  simp [c_40_l7,hE.e39,hE.e40,hlt,hL];exact hK _ _ _ ⟨by simp [hE.e3],by simp [hE.e4],by simp [hE.e5],by simp [hE.e10],by simp [hE.e39],by simp [hE.e40]⟩ hO
def qnx (a:Config) (l:List TableOp) (t:Nat):Bool:=decide (1073741824 - qc2 a t<insN l t)
theorem qz5 (p:Prg) (a:Config) (l:List TableOp):qgg p a l=qam (List.range p.tables.length) (qnx a l) 0:=by
 unfold qgg qam;rw [List.drop_zero];rfl
def outV (v:AV) (out:List TableOp):Prop:=(out=[]/\v= .fslice 9 [])\/∃T,v= .app 9 (out.map TableOp.c) T
theorem qac5 {v:AV} {out:List TableOp} (h:outV v out) {n:Nat} {H:AH}:snap (n+1) H v=some (.slice 9 (out.map TableOp.c)):=by
 rcases h with ⟨rfl,rfl⟩ | ⟨T,rfl⟩<;>simp
theorem qac4 {v:AV} {out:List TableOp} (h:outV v out):lenOf v=some out.length:=by
 rcases h with ⟨rfl,rfl⟩ | ⟨T,rfl⟩<;>simp [lenOf]
theorem qnr (p:Prg) (f:PrgS p) (hc:(pre p.control).length<2^40 - 1) (hp:p.tables.length<2^26) {a b:Config} (sa:CfgT a) (sb:CfgT b):
  qab Φ f_40 [.agg (Prg.c p),.agg (Config.c a),.agg (Config.c b)]=some (.val (qc1 p a b)):=by
 rw [qaa (fn:=c_40) rfl rfl];have k1:=qwz p f hc a sa;have k2:=qwz p f hc b sb;by_cases z1:cfgE p a=0
 rotate_left
 ·have hR:qc1 p a b= .tup [.slice 9 [],.int .i64 (cfgE p a)]:=by simp [qc1,z1]
  rw [hR];simp only [Prg.e,Config.ce] at k1;simp [c_40,Prg.e,Config.ce,k1,z1]
 by_cases z2:cfgE p b=0
 rotate_left
 ·have hR:qc1 p a b= .tup [.slice 9 [],.int .i64 (cfgE p b)]:=by simp [qc1,z1,z2]
  rw [hR];simp only [Prg.e,Config.ce] at k1 k2;simp [c_40,Prg.e,Config.ce,k1,k2,z1,z2]
 have va:=(qcf p a).1 z1;have vb:=(qcf p b).1 z2;generalize hR:qc1 p a b=R;simp only [Prg.e,Config.ce] at k1 k2;simp [c_40,Prg.e,Config.ce,k1,k2,z1,z2];refine df7 p va vb sa sb hp (b3:=0) (b4:=1) (b5:=2) (B:=3) ?_ _ _ 4 ⟨by simp,by simp,by simp,by simp,by simp,by simp⟩ ⟨fun j hj=>qyg (by simp;omega),.inl ⟨rfl,by simp⟩,by simp [Prg.e],by simp [Config.ce],by simp [Config.ce],by decide,by decide,by decide⟩;intro e O N hE hO;have hlen:=qir va vb p.tables.length (Qb _);generalize hout:opsD p a b p.tables.length=out at*;have hl4:=hO.l4;rw [Config.ce] at hl4;obtain ⟨v,hv,hov⟩:∃v,look 3 O=some (.row 1 [[v]])/\outV v out:=by
  rcases hO.ob with ⟨h1,h2⟩ | ⟨T,h1,h2⟩
  ·exact ⟨_,h2,.inl ⟨h1,rfl⟩⟩
  ·exact ⟨_,h1,.inr ⟨T,rfl⟩⟩
 have hvl:=qac4 hov;have hsn:=fun n H=>qac5 hov (n:=n) (H:=H)
 by_cases z3:64<out.length
 ·have hR':R= .tup [.slice 9 [],.int .i64 12]:=by rw [<- hR];simp [qc1,z1,z2,hout,z3]
  rw [hR'];have z3':(64:Int)<(out.length:Int):=by omega
  simp [c_40_k10,hE.e10,hv,hvl,z3',-lenOf]
 have z3':¬(64:Int)<(out.length:Int):=by omega
 have hR':R=if qam (List.range p.tables.length) (qnx a out) 0 then .tup [.slice 9 [],.int .i64 13] else .tup [.slice 9 (out.map TableOp.c),.int .i64 0]:=by
  rw [<- hR,<- qz5];simp [qc1,z1,z2,hout,z3]
 rw [hR'];simp [c_40_k10,hE.e4,hE.e10,hv,hvl,hl4,z3',-lenOf];refine qbb p.tables.length (fun i e h=>∃N,h=⟨O,N⟩/\look 10 e=some (.ptr 3 1 0 0)/\look 163 e=some (.slice 1 (a.nextID.map cI))/\look 164 e=some (.int .i64 a.nextID.length)/\look 165 e=some (.int .i64 i)) (fun i=>some (Rt.val (if qam (List.range p.tables.length) (qnx a out) i then .tup [.slice 9 [],.int .i64 13] else .tup [.slice 9 (out.map TableOp.c),.int .i64 0]))) ?_ ?_ 0 _ _ (Qc _) ⟨N,rfl,by simp [hE.e10],by simp,by simp,by simp⟩
 ·rintro i e _ L hi hL ⟨N,rfl,h10,h163,h164,h165⟩ ih;have hw:=qaf i (by omega);have hin:i<a.nextID.length:=by rw [va.nl];exact hi
  have hv2:=va.at hi;have n0:=hv2.nx0;have n1:=hv2.nx1;have hws:IntKind.wrap .i64 (1073741824 - a.nextID[i])=1073741824 - a.nextID[i]:=qa4 (by omega) (by omega);have hins:=qwf out (by omega) i;have hnx:qc2 a (i:Int)=a.nextID[i]:=qd1 hin;by_cases z:1073741824 - a.nextID[i]<(insN out i:Int)
  ·rw [qdp (by simpa using hi) (by simp [qnx,hnx];exact z)];simp [c_40_l8,h10,h163,h164,h165,hin,hv,hsn,hins,cI,hws,z]
  ·rw [qcd (by simpa using hi) (by simp [qnx,hnx];omega)];simp [c_40_l8,h10,h163,h164,h165,hin,hL,hv,hsn,hins,cI,hws,z,hw];refine (ih _ _ ⟨N,rfl,by simp [h10],by simp [h163,cI],by simp [h164],by simp⟩).trans (by simp)
 ·rintro e _ L hL ⟨N,rfl,h10,h163,h164,h165⟩;have hnl:¬((p.tables.length:Int)<(a.nextID.length:Int)):=by rw [va.nl];omega
  have he:qam (List.range p.tables.length) (qnx a out) p.tables.length=false:=by
   unfold qam;rw [List.drop_of_length_le (by simp)];rfl
  rw [he];simp [c_40_l8,c_40_k9,h10,h164,h165,hnl,hL,hv,hsn]
def kd (x:TableOp):Nat:=if 1<=x.kind/\x.kind<=4 then x.kind.toNat else 0
def cnt (l:List TableOp) (j:Nat):Nat:=(l.filter fun x=>kd x == j).length
def cnts (l:List TableOp):List AV:=[.int .i64 (cnt l 0),.int .i64 (cnt l 1),.int .i64 (cnt l 2),.int .i64 (cnt l 3),.int .i64 (cnt l 4)]
theorem qab1 {l:List TableOp} {i:Nat} (hi:i<l.length) (j:Nat):cnt (l.take (i+1)) j=cnt (l.take i) j+if kd l[i]=j then 1 else 0:=by
 unfold cnt;rw [Qh hi,List.filter_append,List.length_append];by_cases h:kd l[i]=j<;>simp [h]
theorem qzo (l:List TableOp) (j:Nat):cnt l j<=l.length:=List.length_filter_le _ _
theorem qacl (x:TableOp):(x.kind=1/\kd x=1)\/(x.kind=2/\kd x=2)\/(x.kind=3/\kd x=3)\/(x.kind=4/\kd x=4)\/(¬1<=x.kind/\x.kind<1/\¬x.kind>4/\kd x=0)\/(1<=x.kind/\¬x.kind<1/\¬x.kind<=4/\x.kind>4/\kd x=0):=by
 unfold kd;by_cases h:1<=x.kind/\x.kind<=4
 ·rw [if_pos h];omega
 ·rw [if_neg h];omega
theorem qab2 {l:List TableOp} (hl:l.length<2^40) {i:Nat} (hi:i<l.length) (j:Nat):IntKind.wrap .i64 ((cnt (l.take i) j:Int)+1)=((cnt (l.take i) j+1:Nat):Int):=by
 have:=qzo (l.take i) j;rw [List.length_take] at this;exact qa4 (by omega) (by omega)
theorem qp7 (l:List TableOp) (hl:l.length<2^40):qab Φ f_108 [.slice 9 (l.map TableOp.c)]=some (.val (.agg (cnts l))):=by
  rw [qaa (fn:=c_108) rfl rfl];simp [c_108];refine qbb l.length (fun i e h=>look 2 e=some (.ptr 0 5 0 0)/\look 3 e=some (.ptr 1 5 0 0)/\look 0 e=some (.slice 9 (l.map TableOp.c))/\look 4 e=some (.int .i64 i)/\
     h=⟨[(0,AO.row 5 [cnts []]),(1,AO.row 5 [cnts (l.take i)])],2⟩) (fun _=>_) ?_ ?_ 0 _ _ (Qc _) ?_
  · rintro i e _ L hi hL ⟨h2,h3,h6,h8,rfl⟩ ih
    have hw:=qaf i (by omega);have hc:=qab2 hl hi;have hs:=qab1 hi;rcases qacl l[i] with ⟨k1,k2⟩ | ⟨k1,k2⟩ | ⟨k1,k2⟩ | ⟨k1,k2⟩ | ⟨k1,k3,k4,k2⟩ | ⟨k1,k3,k4,k5,k2⟩
    all_goals
      simp [c_108_l0,TableOp.c,cnts,h2,h3,h6,h8,hi,hL,hw,hc, *]
  · rintro e _ L hL ⟨h2,h3,h6,h8,rfl⟩
    simp [c_108_l0,c_108_k1,cnts, *]
  · simp [cnts,cnt]
theorem qaaf {a:List Rw} {i:Nat} (hi:i<a.length) {x:Entry} (h:sk a[i].entry x=true):qd9 a i x=some i:=by
 unfold qd9;rw [Qi hi,List.findIdx?_cons,h];simp
theorem qyf {a:List Rw} {i:Nat} (hi:i<a.length) {x:Entry} (h:sk a[i].entry x=false):qd9 a i x=qd9 a (i+1) x:=by
 unfold qd9;rw [Qi hi,List.findIdx?_cons,h];simp only [Bool.false_eq_true,if_false,Option.map_map];congr 1;funext j;simp only [Function.comp_apply];omega
theorem qaae (a:List Rw) (x:Entry):qd9 a a.length x=none:=by unfold qd9;simp
def kiV (o:Option Nat):Int:=match o with
 | some i=>(i:Int)
 | none=> -1
theorem qyu (a:List Rw) (ha:a.length<2^40) (hs:∀r∈a,r.entry.keys.length<2^40) (f:Nat) (hf:f<=a.length) (x:Entry):
  qab Φ f_266 [.slice 5 (a.map Rw.c),.int .i64 f,.agg (Entry.c x)]=some (.val (.int .i64 (kiV (qd9 a f x)))):=by
 rw [qaa (fn:=c_266) rfl rfl];simp [c_266,Entry.ce];refine qan a.length (fun i e=>qd9 a i x=qd9 a f x/\look 0 e=some (.slice 5 (a.map Rw.c))/\look 5 e=some (.iptr 4 [Entry.c x] 0 0)/\look 7 e=some (.int .i64 i)) (fun _=>some (Rt.val (.int .i64 (kiV (qd9 a f x))))) ?_ ?_ f _ hf ?_
 ·rintro i e L hi hL ⟨he,h0,h5,h7⟩ ih;have hw:=qaf i (by omega);have hsk:=qaa6 a[i].entry x (hs _ (Qd hi));rw [Entry.ce] at h5;cases hb:sk a[i].entry x with
  | true=>
   rw [qaaf hi hb] at he;rw [hb] at hsk;simp [c_266_l0,Rw.ce,h0,h5,h7,hi,hL,hsk,<- he,kiV]
  | false=>
   rw [qyf hi hb] at he;rw [hb] at hsk;simp [c_266_l0,Rw.ce,h0,h5,h7,hi,hL,hsk,hw];exact ih _ ⟨he,by simp [h0,Rw.ce],by simp [h5,Entry.ce],by simp⟩
 ·rintro e L hL ⟨he,h0,h5,h7⟩;rw [qaae] at he;simp [c_266_l0,c_266_k1,h0,h7,hL,<- he,kiV]
 ·simp [Entry.ce]
theorem qu0 (l:List Nat) (hl:l.length<2^40) (n:Nat):qab Φ f_189 [.slice 1 (l.map cN),.int .i64 n]=some (.val (.bool (l.contains n))):=by
 rw [qaa (fn:=c_189) rfl rfl];have hR:l.contains n=qam l (fun s=>decide (s=n)) 0:=by
  simp only [qam,List.drop_zero,List.contains_eq_any_beq];congr 1;funext s;rw [Bool.eq_iff_iff];simp;exact eq_comm
 rw [hR];simp [c_189];refine qan l.length (fun i e=>look 0 e=some (.slice 1 (l.map cN))/\look 1 e=some (.int .i64 n)/\look 5 e=some (.int .i64 i)) (fun i=>some (Rt.val (.bool (qam l (fun s=>decide (s=n)) i)))) ?_ ?_ 0 _ (Qc _) ?_
 ·rintro i e L hi hL ⟨h0,h1,h5⟩ ih;have hw:=qaf i (by omega);by_cases z:l[i]=n
  ·rw [qdp hi (by simp [z])];simp [c_189_l0,cN,h0,h1,h5,hi,hL,z]
  ·rw [qcd hi (by simp [z])];have z':¬((l[i]:Int)=(n:Int)):=by omega
   simp [c_189_l0,cN,h0,h1,h5,hi,hL,z,hw];refine (ih _ ⟨by simp [h0,cN],by simp [h1],by simp⟩).trans (by simp)
 ·rintro e L hL ⟨h0,h1,h5⟩;have he:qam l (fun s=>decide (s=n)) l.length=false:=by unfold qam;rw [List.drop_length];rfl
  rw [he];simp [c_189_l0,c_189_k1,h0,h5,hL]
 ·simp
theorem qadj (a b:List Rw) (ha:a.length<2^40) (hb:b.length<2^40) (hs:∀r∈a,r.entry.keys.length<2^40):qab Φ f_188 [.slice 5 (a.map Rw.c),.slice 5 (b.map Rw.c)]=some (.val (.slice 1 ((qh2 a 0 b).map cN))):=by
 rw [qaa (fn:=c_188) rfl rfl];simp [c_188];refine qbb b.length (fun i e h=>∃(N:Nat) (f:Nat) (out:List Nat),h=⟨[(0,.tok 1 i)],N⟩/\1<=N/\out.length=i/\f<=a.length/\qh2 a 0 b=out++qh2 a f (b.drop i)/\look 0 e=some (.slice 5 (a.map Rw.c))/\look 1 e=some (.slice 5 (b.map Rw.c))/\look 5 e=some (.app 1 (out.map cN) 0)/\look 6 e=some (.int .i64 f)/\look 7 e=some (.int .i64 i))
  (fun _=>some (Rt.val (.slice 1 ((qh2 a 0 b).map cN)))) ?_ ?_ 0 _ _ (Qc _) ⟨1,0,[],rfl,Qb _,rfl,Qc _,by simp,by simp,by simp,by simp,by simp,by simp⟩
 ·rintro i e _ L hi hL ⟨N,f,out,rfl,hN,hol,hf,hk,h0,h1,h5,h6,h7⟩ ih;have hw:=qaf i (by omega);have hki:=qyu a ha hs f hf b[i].entry;simp only [Entry.ce] at hki;rw [Qi hi,qh2] at hk;have hbd:(i+1)*8<=70368744177664:=by omega
  cases hx:qd9 a f b[i].entry with
  | none=>
   rw [hx] at hk hki;simp only [kiV,List.append_nil] at hk hki;simp [c_188_l0,Rw.ce,h0,h1,h5,h6,h7,hi,hL,hki,hk]
  | some j=>
   rw [hx] at hk hki;simp only [kiV] at hk hki;have hj:j<a.length:=by
    unfold qd9 at hx;rw [Qs] at hx;obtain ⟨m,hm,rfl⟩:=hx;have:=(List.findIdx?_eq_some_iff_getElem.1 hm).1;simp at this;omega
   have hwj:=qaf j (by omega);have hj0:¬((j:Int)<0):=by omega
   simp [c_188_l0,Rw.ce,h0,h1,h5,h6,h7,hi,hL,hki,hj0,hol,hbd,hw,hwj];exact ih _ _ ⟨_,j+1,out++[j],rfl,by omega,by simp [hol],by omega,by rw [hk];simp,by simp [h0],by simp [h1,Rw.ce],by simp [cN],by simp,by simp⟩
 ·rintro e _ L hL ⟨N,f,out,rfl,hN,hol,hf,hk,h0,h1,h5,h6,h7⟩;rw [List.drop_length,qh2,List.append_nil] at hk;simp [c_188_l0,c_188_k1,h1,h5,h7,hL,hk]
structure RtE (a b:Config) (t:Nat) (x y:List Rw) (ks:List Nat) (out:List TableOp) (e:Env):Prop where
 e0:look 0 e=some (.int .i64 t)
 e4:look 4 e=some (.iptr 4 [Config.c a] 0 0)
 e5:look 5 e=some (.iptr 4 [Config.c b] 0 0)
 e7:look 7 e=some (.slice 5 (x.map Rw.c))
 e8:look 8 e=some (.slice 5 (y.map Rw.c))
 e9:look 9 e=some (.slice 1 (ks.map cN))
 e10:look 10 e=some (.app 9 (out.map TableOp.c) 0)
theorem rt0 {β:Type} {fin:Option (Ex×St)->Option β} {a b:Config} {t:Nat} {x y:List Rw} {ks:List Nat} (hx:x.length<2^37) (hks:ks.length<2^37) {K:List Go.Av.Fr} {R:Option β}
  (hK:∀e N,1<=N->RtE a b t x y ks (delR t ks x 0) e->go Φ fin K .normal ⟨e,⟨[(0,.tok 9 (delR t ks x 0).length)],N⟩⟩=R) (e:Env) (N:Nat) (hN:1<=N) (hE:RtE a b t x y ks [] e) (h11:look 11 e=some (.int .i64 0)):
  go Φ fin (.c (.loop c_107_l0):: .b 0::K) .normal ⟨e,⟨[(0,.tok 9 0)],N⟩⟩=R:=by
 refine qbb x.length (fun i e h=>∃(N:Nat) (out:List TableOp),h=⟨[(0,.tok 9 out.length)],N⟩/\1<=N/\RtE a b t x y ks out e/\out.length<=i/\out++delR t ks (x.drop i) i=delR t ks x 0/\look 11 e=some (.int .i64 i)) (fun _=>R) ?_ ?_ 0 _ _ (Qc _) ⟨N,[],rfl,hN,hE,by simp,by simp,h11⟩
 ·rintro i e _ L hi hL ⟨N,out,rfl,hN,hE,hol,hd,h11⟩ ih;have hw:=qaf i (by omega);have hc:=qu0 ks (by omega) i;have h120:(out.length+1)*120<=70368744177664:=by omega
  rw [Qi hi,delR] at hd;cases hb:ks.contains i with
  | true=>
   rw [hb] at hc hd;simp only [if_true] at hd;simp [c_107_l0,hE.e7,hE.e9,h11,hi,hL,hc,hw];exact ih _ _ ⟨N,out,rfl,hN,⟨by simp [hE.e0],by simp [hE.e4],by simp [hE.e5],by simp [hE.e7],by simp [hE.e8],by simp [hE.e9],by simp [hE.e10]⟩,by omega,hd,by simp⟩
  | false=>
   rw [hb] at hc hd;simp only [Bool.false_eq_true,if_false] at hd;simp [c_107_l0,Rw.ce,hE.e0,hE.e7,hE.e9,hE.e10,h11,hi,hL,hc,h120,hw];exact ih _ _ ⟨_,out++[delO t x[i]],by simp;rfl,by omega,⟨by simp [hE.e0],by simp [hE.e4],by simp [hE.e5],by simp [hE.e7,Rw.ce],by simp [hE.e8],by simp [hE.e9],by simp [delO,TableOp.ce2,noE,noCl]⟩,by simp;omega,by rw [<- hd];simp,by simp⟩
 ·rintro e _ L hL ⟨N,out,rfl,hN,hE,hol,hd,h11⟩;rw [List.drop_length,delR,List.append_nil] at hd;subst hd;simp [c_107_l0,hE.e7,h11,hL];exact hK _ _ hN ⟨by simp [hE.e0],by simp [hE.e4],by simp [hE.e5],by simp [hE.e7],by simp [hE.e8],by simp [hE.e9],by simp [hE.e10]⟩
theorem rt1 {β:Type} {fin:Option (Ex×St)->Option β} {a b:Config} {t:Nat} {x y:List Rw} {ks:List Nat} (hks:ks.length<2^37) (hs2:∀s∈ks,s<x.length) (hsy:ks.length<=y.length) (hxa:∀r∈x,r.entry.call.args.length<2^40) (out0:List TableOp) (hol0:out0.length<2^37) {K:List Go.Av.Fr} {R:Option β}
  (hK:∀e N,1<=N->RtE a b t x y ks (out0++modG t x ks y) e->go Φ fin K .normal ⟨e,⟨[(0,.tok 9 (out0++modG t x ks y).length)],N⟩⟩=R) (e:Env) (N:Nat) (hN:1<=N) (hE:RtE a b t x y ks out0 e) (h12:look 12 e=some (.int .i64 0)):
  go Φ fin (.c (.loop c_107_l1):: .b 2::K) .normal ⟨e,⟨[(0,.tok 9 out0.length)],N⟩⟩=R:=by
 refine qbb ks.length (fun i e h=>∃(N:Nat) (out:List TableOp),h=⟨[(0,.tok 9 out.length)],N⟩/\1<=N/\RtE a b t x y ks out e/\out.length<=out0.length+i/\out++modG t x (ks.drop i) (y.drop i)=out0++modG t x ks y/\look 12 e=some (.int .i64 i)) (fun _=>R) ?_ ?_ 0 _ _ (Qc _) ⟨N,out0,rfl,hN,hE,by omega,by simp,h12⟩
 ·rintro i e _ L hi hL ⟨N,out,rfl,hN,hE,hol,hd,h12⟩ ih;have hw:=qaf i (by omega);have hiy:i<y.length:=by omega
  have hsx:=hs2 ks[i] (Qd hi);rw [Qi hi,Qi hiy,qsh hsx] at hd;have he:=qmx x[ks[i]].entry.call y[i].entry.call (hxa _ (Qd hsx));simp only [ActionCall.ce] at he;have h120:(out.length+1)*120<=70368744177664:=by omega
  by_cases q:x[ks[i]].entry.call=y[i].entry.call
  ·rw [if_pos q] at hd;rw [decide_eq_true q] at he;simp [c_107_l1,Rw.ce,hE.e7,hE.e8,hE.e9,h12,hi,hiy,hL,cN,hsx,he,hw];exact ih _ _ ⟨N,out,rfl,hN,⟨by simp [hE.e0],by simp [hE.e4],by simp [hE.e5],by simp [hE.e7,Rw.ce],by simp [hE.e8,Rw.ce],by simp [hE.e9,cN],by simp [hE.e10]⟩,by omega,hd,by simp⟩
  ·rw [if_neg q] at hd;rw [decide_eq_false q] at he;simp [c_107_l1,Rw.ce,hE.e0,hE.e7,hE.e8,hE.e9,hE.e10,h12,hi,hiy,hL,cN,hsx,he,h120,hw];exact ih _ _ ⟨_,out++[modO t x[ks[i]] y[i].entry.call],by simp;rfl,by omega,⟨by simp [hE.e0],by simp [hE.e4],by simp [hE.e5],by simp [hE.e7,Rw.ce],by simp [hE.e8,Rw.ce],by simp [hE.e9,cN],by simp [modO,TableOp.ce2,noE]⟩,by simp;omega,by rw [<- hd];simp,by simp⟩
 ·rintro e _ L hL ⟨N,out,rfl,hN,hE,hol,hd,h12⟩;have hz:modG t x (ks.drop ks.length) (y.drop ks.length)=[]:=by rw [List.drop_length,modG];simp
  rw [hz,List.append_nil] at hd;subst hd;simp [c_107_l1,hE.e9,h12,hL];simpa using hK _ _ hN ⟨by simp [hE.e0],by simp [hE.e4],by simp [hE.e5],by simp [hE.e7],by simp [hE.e8],by simp [hE.e9],by simp [hE.e10]⟩
theorem rt2 {β:Type} {fin:Option (Ex×St)->Option β} {a b:Config} {t:Nat} {x y:List Rw} {ks:List Nat} (hy:y.length<2^37) (hsy:ks.length<=y.length) (out0:List TableOp) (hol0:out0.length<2^37) {K:List Go.Av.Fr} {R:Option β}
  (hK:∀e N,1<=N->RtE a b t x y ks (out0++(y.drop ks.length).map (insO t)) e->go Φ fin K .normal ⟨e,⟨[(0,.tok 9 (out0++(y.drop ks.length).map (insO t)).length)],N⟩⟩=R) (e:Env) (N:Nat) (hN:1<=N) (hE:RtE a b t x y ks out0 e) (h13:look 13 e=some (.int .i64 ks.length)):
  go Φ fin (.c (.loop c_107_l2):: .b 4::K) .normal ⟨e,⟨[(0,.tok 9 out0.length)],N⟩⟩=R:=by
 refine qbb y.length (fun i e h=>∃(N:Nat) (out:List TableOp),h=⟨[(0,.tok 9 out.length)],N⟩/\1<=N/\RtE a b t x y ks out e/\out.length<=out0.length+i/\out++(y.drop i).map (insO t)=out0++(y.drop ks.length).map (insO t)/\look 13 e=some (.int .i64 i)) (fun _=>R) ?_ ?_ ks.length _ _ hsy ⟨N,out0,rfl,hN,hE,by omega,rfl,h13⟩
 ·rintro i e _ L hi hL ⟨N,out,rfl,hN,hE,hol,hd,h13⟩ ih;have hw:=qaf i (by omega);have h120:(out.length+1)*120<=70368744177664:=by omega
  rw [Qi hi,List.map_cons] at hd;simp [c_107_l2,Rw.ce,hE.e0,hE.e8,hE.e10,h13,hi,hL,h120,hw];exact ih _ _ ⟨_,out++[insO t y[i]],by simp;rfl,by omega,⟨by simp [hE.e0],by simp [hE.e4],by simp [hE.e5],by simp [hE.e7],by simp [hE.e8,Rw.ce],by simp [hE.e9],by simp [insO,TableOp.ce2,noCl]⟩,by simp;omega,by rw [<- hd];simp,by simp⟩
 ·rintro e _ L hL ⟨N,out,rfl,hN,hE,hol,hd,h13⟩;rw [List.drop_length,List.map_nil,List.append_nil] at hd;subst hd;simp [c_107_l2,hE.e8,h13,hL];simpa using hK _ _ hN ⟨by simp [hE.e0],by simp [hE.e4],by simp [hE.e5],by simp [hE.e7],by simp [hE.e8],by simp [hE.e9],by simp [hE.e10]⟩
def tabO (a b:Config) (t:Nat):List TableOp:=tabG t (qak a t) (qak b t) (qbt a t) (qbt b t)
theorem qagr {p:Prg} {a b:Config} (va:CfgV p a) (vb:CfgV p b) (sa:CfgT a) (sb:CfgT b) {t:Nat} (ht:t<p.tables.length):
  qab Φ f_107 [.int .i64 t,.agg (Config.c a),.agg (Config.c b)]=some (.val (.slice 9 ((tabO a b t).map TableOp.c))):=by
 rw [qaa (fn:=c_107) rfl rfl];have hta:t<a.rows.length:=by rw [va.rl];exact ht
 have htb:t<b.rows.length:=by rw [vb.rl];exact ht
 have hda:t<a.defaults.length:=by rw [va.dl];exact ht
 have hdb:t<b.defaults.length:=by rw [vb.dl];exact ht
 have xs:=va.small a.rows[t] (Qd hta);have ys:=vb.small b.rows[t] (Qd htb);have xr:=(sa.rs a.rows[t] (Qd hta)).2;have yr:=(sb.rs b.rows[t] (Qd htb)).2;have hva:=va.at ht;have kk:=qadj a.rows[t] b.rows[t] (by omega) (by omega) (fun r hr=>(xr r hr).kl);rw [qud hva.uniq] at kk;have hsl:=qhm a.rows[t] b.rows[t] 0;have hsg:=qio a.rows[t] b.rows[t] 0;have hinc:=qmp a.rows[t] b.rows[t] 0;have hR:tabO a b t=delG t a.rows[t] 0 (qaz a.rows[t] 0 b.rows[t])++(modG t a.rows[t] (qaz a.rows[t] 0 b.rows[t]) b.rows[t]++((b.rows[t].drop (qaz a.rows[t] 0 b.rows[t]).length).map (insO t)++(if a.defaults[t]=b.defaults[t] then [] else [setO t b.defaults[t]]))):=by
  simp only [tabO,qax hta,qax htb,tabG,qbt,qeo,Qa hda,Qa hdb,Option.getD_some]
 rw [hR];generalize qaz a.rows[t] 0 b.rows[t]=ks at*;have hdel:delG t a.rows[t] 0 ks=delR t ks a.rows[t] 0:=by
  have:=qpn t a.rows[t] 0 [] ks (by simp) (by simp) hinc;simpa using this
 have hdl:=qgt t a.rows[t] 0 ks;have hml:=qlk t a.rows[t] ks b.rows[t];rw [hdel] at hdl ⊢;have he:=qmx a.defaults[t] b.defaults[t] (sa.ds _ (Qd hda)).1;simp only [ActionCall.ce] at he;generalize hQ:some (Rt.val _)=Q;simp [c_107,Config.ce,cSe,hta,htb,kk];refine rt0 (a:=a) (b:=b) (t:=t) (x:=a.rows[t]) (y:=b.rows[t]) (ks:=ks) (by omega) (by omega) ?_ _ 1 (Qb _) ⟨by simp,by simp [Config.ce],by simp [Config.ce],by simp,by simp,by simp,by simp⟩ (by simp);intro e1 N1 hN1 hE1;simp [c_107_k5];refine rt1 (a:=a) (b:=b) (t:=t) (by omega) (fun s hs=>(hsg s hs).2) hsl (fun r hr=>(xr r hr).al) _ (by omega) ?_ _ N1 hN1 ⟨by simp [hE1.e0],by simp [hE1.e4],by simp [hE1.e5],by simp [hE1.e7],by simp [hE1.e8],by simp [hE1.e9],by simp [hE1.e10]⟩ (by simp);intro e2 N2 hN2 hE2;simp [c_107_k4,hE2.e9];have h0:=(show ((delR t ks a.rows[t] 0).length+(modG t a.rows[t] ks b.rows[t]).length)=(delR t ks a.rows[t] 0++modG t a.rows[t] ks b.rows[t]).length by rw [List.length_append]);rw [h0];refine rt2 (a:=a) (b:=b) (t:=t) (x:=a.rows[t]) (y:=b.rows[t]) (ks:=ks) (by omega) hsl (delR t ks a.rows[t] 0++modG t a.rows[t] ks b.rows[t]) (by rw [List.length_append];omega) ?_ _ N2 hN2 ⟨by simp [hE2.e0],by simp [hE2.e4],by simp [hE2.e5],by simp [hE2.e7],by simp [hE2.e8],by simp [hE2.e9],by simp [hE2.e10]⟩ (by simp);intro e3 N3 hN3 hE3;have e4:=hE3.e4;have e5:=hE3.e5;rw [Config.ce] at e4 e5;have h120:((delR t ks a.rows[t] 0++modG t a.rows[t] ks b.rows[t]++List.map (insO ↑t) (List.drop ks.length b.rows[t])).length+1)*120<=70368744177664:=by
  simp only [List.length_append,List.length_map,List.length_drop];omega
 have e10:=hE3.e10;have hgoal:delR t ks a.rows[t] 0++(modG t a.rows[t] ks b.rows[t]++(List.map (insO ↑t) (List.drop ks.length b.rows[t])++(if a.defaults[t]=b.defaults[t] then [] else [setO t b.defaults[t]])))=delR t ks a.rows[t] 0++modG t a.rows[t] ks b.rows[t]++List.map (insO ↑t) (List.drop ks.length b.rows[t])++(if a.defaults[t]=b.defaults[t] then [] else [setO t b.defaults[t]]):=by
  simp only [List.append_assoc]
 rw [hgoal] at hQ;generalize delR t ks a.rows[t] 0++modG t a.rows[t] ks b.rows[t]++List.map (insO ↑t) (List.drop ks.length b.rows[t])=out at*;rw [<- hQ];by_cases q:a.defaults[t]=b.defaults[t]
 ·rw [decide_eq_true q] at he;rw [if_pos q,List.append_nil];simp [c_107_k3,ActionCall.ce,hE3.e0,e4,e5,e10,hda,hdb,he]
 ·rw [decide_eq_false q] at he;rw [if_neg q];simp [c_107_k3,ActionCall.ce,hE3.e0,e4,e5,e10,hda,hdb,he,h120,setO,TableOp.ce2,noE]
theorem qld (l m:List TableOp) (t:Int):insN (l++m) t=insN l t+insN m t:=by simp [insN]
theorem qj3 (t:Int):∀(x:List Rw) (i:Nat) (ss:List Nat),∀o∈delG t x i ss,o.kind≠1
 | [],_,_,o,h=>by simp [delG] at h
 | r::x,i,[],o,h=>by
  rw [delG_nil] at h;rcases List.mem_cons.1 h with rfl | h
  ·simp [delO]
  ·exact qj3 t x (i+1) [] o h
 | r::x,i,s::ss,o,h=>by
  rw [delG] at h;split at h
  ·exact qj3 t x (i+1) ss o h
  ·rcases List.mem_cons.1 h with rfl | h
   ·simp [delO]
   ·exact qj3 t x (i+1) (s::ss) o h
theorem qkd (t:Int) (x:List Rw):∀(ss:List Nat) (y:List Rw),∀o∈modG t x ss y,o.kind≠1
 | [],_,o,h=>by simp [modG] at h
 | s::ss,[],o,h=>by simp [modG] at h
 | s::ss,r::y,o,h=>by
  rw [modG] at h;cases hx:x[s]? with
  | none=>rw [hx] at h;exact qkd t x ss y o h
  | some q=>
   rw [hx] at h;simp only at h;split at h
   ·exact qkd t x ss y o h
   ·rcases List.mem_cons.1 h with rfl | h
    ·simp [modO]
    ·exact qkd t x ss y o h
theorem qmo {l:List TableOp} {t:Int} (h:∀o∈l,o.kind≠1):insN l t=0:=by
 unfold insN;rw [List.length_eq_zero_iff,List.filter_eq_nil_iff];intro o ho hc;simp only [decide_eq_true_eq] at hc;exact h o ho hc.1
theorem qov {l:List TableOp} (h:∀o∈l,o.kind≠1):cnt l 1=0:=by
 unfold cnt;rw [List.length_eq_zero_iff,List.filter_eq_nil_iff];intro o ho hc;simp only [beq_iff_eq] at hc;unfold kd at hc;have:=h o ho;split at hc<;>omega
theorem qqw (l m:List TableOp) (j:Nat):cnt (l++m) j=cnt l j+cnt m j:=by simp [cnt]
theorem qacj (t s:Int) (z:List Rw):insN (z.map (insO t)) s=if t=s then z.length else 0:=by
 unfold insN;by_cases h:t=s
 ·rw [if_pos h,List.filter_eq_self.2]
  ·simp
  ·intro o ho;obtain ⟨r,_,rfl⟩:=List.mem_map.1 ho;simp [insO,h]
 ·rw [if_neg h,List.length_eq_zero_iff,List.filter_eq_nil_iff];intro o ho hc;obtain ⟨r,_,rfl⟩:=List.mem_map.1 ho;simp [insO] at hc;exact h hc
theorem qae3 (t:Int) (z:List Rw):cnt (z.map (insO t)) 1=z.length:=by
 unfold cnt;rw [List.filter_eq_self.2]
 ·simp
 ·intro o ho;obtain ⟨r,_,rfl⟩:=List.mem_map.1 ho;simp [insO,kd]
theorem qaee (t s:Int) (x y:List Rw) (da db:ActionCall):insN (tabG t x y da db) s=if t=s then cnt (tabG t x y da db) 1 else 0:=by
 have h4:∀o∈(if da=db then [] else [setO t db]),o.kind≠1:=by
  intro o ho;split at ho
  ·simp at ho
  ·simp at ho;subst ho;simp [setO]
 unfold tabG;rw [qld,qld,qld,qmo (qj3 t x 0 _),qmo (qkd t x _ y),qmo h4,qacj];rw [qqw,qqw,qqw,qov (qj3 t x 0 _),qov (qkd t x _ y),qov h4,qae3];simp
theorem quq (p:Prg) (a b:Config) (s:Nat):∀n,insN (opsD p a b n) s=if s<n then cnt (tabO a b s) 1 else 0
 | 0=>by simp [opsD,insN]
 | n+1=>by
  rw [opsD,qld,quq p a b s n,qaee];by_cases h:s<n
  ·have h2:¬((n:Int)=(s:Int)):=by omega
   rw [if_pos h,if_neg h2,if_pos (by omega),Nat.add_zero]
  ·by_cases h3:n=s
   ·subst h3;rw [if_neg h,if_pos rfl,if_pos (by omega)];simp [tabO]
   ·have h2:¬((n:Int)=(s:Int)):=by omega
    rw [if_neg h,if_neg h2,if_neg (by omega)]
end Go.Av
