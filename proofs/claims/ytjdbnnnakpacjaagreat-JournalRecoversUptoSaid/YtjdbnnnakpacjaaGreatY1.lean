/-
  Lemmas for the law.
-/
import Derived.Test.YtjdbnnnakpacjaaGreatX3
import Derived.Test.YtjdbnnnakpacjaaGreatW27K
set_option linter.unusedVariables false
set_option linter.unusedSimpArgs false
set_option linter.constructorNameAsVariable false
namespace Go.Av
set_option maxRecDepth 4000
theorem qs5 {p:Prg} {c:Xf} {l:List Xc} (h:badA p c l=none):l.length<=64:=by
 unfold badA at h;by_cases z:cfgE p c=0
 case neg=>simp [z] at h
 by_cases z2:64<l.length
 ·simp [z,z2] at h
 ·omega
theorem qz0 {p:Prg} {c:Xf} {l:List Xc} (h:badA p c l=none):cfgE p c=0:=by
 by_cases z:cfgE p c=0
 ·exact z
 ·simp [badA,z] at h
structure Ren where
 t:Int
 old:Int
 new:Int
def Ren.c (x:Ren):List AV:=[.int .i64 x.t,.int .i64 x.old,.int .i64 x.new]
theorem Xc.eq_iff (x y:Xc):x=y↔x.kind=y.kind/\x.table=y.table/\x.id=y.id/\x.entry=y.entry/\x.call=y.call:=by
 cases x;cases y;simp
structure CfgF (c:Xf):Prop where
 rl:c.rows.length<2^40
 rs:∀l∈c.rows,l.length<2^40/\∀r∈l,r.entry.sm
 dl:c.Xq.length<2^40
 ds:∀x∈c.Xq,x.args.length<2^40
 gl:c.Xm.length<2^40
 gs:∀x∈c.Xm,x.length<2^40
structure UndS (u:Xc):Prop where
 op:OpS u
 pos:u.kind=1->0<u.id
 zero:u.kind=4->u.id=0
theorem qyo {p:Prg} {c:Xf} {t:Int} {x:Entry} (h:insE p c t x=0):inT p t=true/\(qcm c t).any (fun y=>sk y.entry x)=false/\qe0 c t<1073741824:=by
 unfold insE at h;cases hi:inT p t with
 | false=>rw [QAa hi] at h;cases h
 | true=>
 rw [QA (by rw [hi];decide)] at h;split at h
 ·rename_i h1;exact absurd h h1
 split at h
 ·cases h
 rename_i h2;split at h
 ·cases h
 rename_i h3;exact ⟨rfl,by simpa using h2,by omega⟩
def okF (p:Prg):Xf->List Xc->Prop
 | _,[]=>True
 | c,o::l=>xoE p c o=0/\okF p (xoC p c o) l
theorem qvh (p:Prg) (c:Xf) (o:Xc) (l:List Xc):xoF p c (o::l)=xoF p (xoC p c o) l:=rfl
theorem qacb {p:Prg}:∀{c:Xf} (l:List Xc),CfgV p c->CfgV p (xoF p c l)
 | _,[],v=>v
 | _,o::l,v=>qacb l (qp7 v o)
theorem quh (p:Prg):∀(c:Xf) (l:List Xc) (i:Nat),badF p c l i=none->okF p c l
 | _,[],_,_=>trivial
 | c,o::l,i,h=>by
  rw [badF] at h;by_cases q:xoE p c o=0
  ·rw [QAa q] at h;exact ⟨q,quh p _ l _ h⟩
  ·rw [QA q] at h;cases h
theorem qta (p:Prg) (c:Xf) (l:List Xc):cfgN p c l l.length=xoF p c l:=by unfold cfgN;rw [QAk]
theorem qack {p:Prg} {c:Xf} {l:List Xc} (h:badA p c l=none):okF p c l:=by
 have z:=qz0 h;have h64:=qs5 h;unfold badA at h;rw [QA (by simpa using z),QA (by omega)] at h;simp only [Option.map_eq_none_iff] at h;exact quh p c l 0 h
def be2 (v:Int):List Int:=[v / 256 % 256,v % 256]
def be4 (v:Int):List Int:=[v / 16777216 % 256,v / 65536 % 256,v / 256 % 256,v % 256]
def qb2 (n:Int):Bool:=decide (0<=n)&&decide (n<=65535)
def idI (n:Int):Bool:=decide (0<=n)&&decide (n<=2147483647)
def qcq (c:Xb):Bool:=qb2 c.action&&decide (c.args.length<=255)
def opE (o:Xc):Bool:=qb2 o.table&&(if o.kind=1 then qb2 o.entry.Xt&&(decide (o.entry.keys.length<=255)&&qcq o.entry.call) else if o.kind=2 then idI o.id&&qcq o.call else if o.kind=3 then idI o.id else if o.kind=4 then qcq o.call else false)
def keyB (k:Xi):List Int:=be4 k.value++be4 k.mask
def qct (l:List Int):List Int:=(l.map be4).flatten
def qb1 (l:List Xi):List Int:=(l.map keyB).flatten
def qcn (c:Xb):List Int:=be2 c.action++((c.args.length:Int)::qct c.args)
def opB (o:Xc):List Int:=o.kind::(be2 o.table++(if o.kind=1 then be2 o.entry.Xt++((o.entry.keys.length:Int)::(qb1 o.entry.keys++qcn o.entry.call)) else if o.kind=2 then be4 o.id++qcn o.call else if o.kind=3 then be4 o.id else qcn o.call))
def opsB (l:List Xc):List Int:=(l.map opB).flatten
def encB (l:List Xc):List Int:=if l.length<=64/\∀o∈l,opE o=true then (l.length:Int)::opsB l else []
@[ext] structure Stt where
 b:List Int
 e:Int
def num:Nat->List Int->Int
 | 1,a::_=>a
 | 2,a::b::_=>256*a+b
 | 4,a::b::c::d::_=>256*(256*(256*a+b)+c)+d
 | _,_=>0
def rdN (n:Nat) (s:Stt):Stt×Int:=if s.e=0 then (if s.b.length<n then (⟨s.b,3⟩,0) else (⟨s.b.drop n,0⟩,num n s.b)) else (s,0)
def rdI (s:Stt):Stt×Int:=(if (rdN 4 s).2>2147483647 then ⟨(rdN 4 s).1.b,5⟩ else (rdN 4 s).1,(rdN 4 s).2)
def qbq:Nat->Stt->Stt×List Int
 | 0,s=>(s,[])
 | n+1,s=>if s.e=0 then ((qbq n (rdN 4 s).1).1,(rdN 4 s).2::(qbq n (rdN 4 s).1).2) else (s,[])
def qe8 (s:Stt):Stt×Xi:=((rdN 4 (rdN 4 s).1).1,⟨(rdN 4 s).2,(rdN 4 (rdN 4 s).1).2⟩)
def qck:Nat->Stt->Stt×List Xi
 | 0,s=>(s,[])
 | n+1,s=>if s.e=0 then ((qck n (qe8 s).1).1,(qe8 s).2::(qck n (qe8 s).1).2) else (s,[])
def qbr (s:Stt):Stt×Xb:=
 let p:=rdN 2 s
 let q:=rdN 1 p.1
 let r:=qbq q.2.toNat q.1
 (r.1,⟨p.2,r.2⟩)
def qe5 (s:Stt):Stt×Entry:=
 let p:=rdN 2 s
 let q:=rdN 1 p.1
 let r:=qck q.2.toNat q.1
 let c:=qbr r.1
 (c.1,⟨r.2,p.2,c.2⟩)
def qc9:Xb:=⟨0,[]⟩
def qcw:Entry:=⟨[],0,qc9⟩
def qel (p:Stt×Int):Stt:=if p.1.e=0/\(p.2<1\/4<p.2) then ⟨p.1.b,5⟩ else p.1
def qcl (k t:Int) (s:Stt):Stt×Xc:=
 if s.e≠0 then (s,⟨k,t,0,qcw,qc9⟩)
 else if k=1 then ((qe5 s).1,⟨k,t,0,(qe5 s).2,qc9⟩)
 else if k=2 then ((if (rdI s).1.e=0 then (qbr (rdI s).1).1 else (rdI s).1),⟨k,t,(rdI s).2,qcw,if (rdI s).1.e=0 then (qbr (rdI s).1).2 else qc9⟩)
 else if k=3 then ((rdI s).1,⟨k,t,(rdI s).2,qcw,qc9⟩)
 else ((qbr s).1,⟨k,t,0,qcw,(qbr s).2⟩)
def rdOp (s:Stt):Stt×Xc:=
 let p:=rdN 1 s
 let q:=rdN 2 (qel p)
 qcl p.2 q.2 q.1
def qdh:Nat->Stt->Stt×List Xc
 | 0,s=>(s,[])
 | n+1,s=>if s.e=0 then ((qdh n (rdOp s).1).1,(rdOp s).2::(qdh n (rdOp s).1).2) else (s,[])
def cntS (p:Stt×Int):Stt:=if 64<p.2 then ⟨p.1.b,5⟩ else p.1
def endE (s:Stt):Int:=if s.e=0/\s.b≠[] then 4 else s.e
def decB (b:List Int):List Xc×Int:=
 let p:=rdN 1 ⟨b,0⟩
 let r:=qdh p.2.toNat (cntS p)
 (if endE r.1=0 then r.2 else [],endE r.1)
theorem qkg (v:Int) (r:List Int):rdN 1 ⟨v::r,0⟩=(⟨r,0⟩,v):=by simp [rdN,num]
theorem qkh {v:Int} (h:qb2 v=true) (r:List Int):rdN 2 ⟨be2 v++r,0⟩=(⟨r,0⟩,v):=by
 simp [qb2] at h;have e:256*(v / 256 % 256)+v % 256=v:=by omega
 simp [rdN,num,be2,e]
theorem qpk {v:Int} (h:0<=v/\v<=4294967295) (r:List Int):rdN 4 ⟨be4 v++r,0⟩=(⟨r,0⟩,v):=by
 have e:256*(256*(256*(v / 16777216 % 256)+v / 65536 % 256)+v / 256 % 256)+v % 256=v:=by omega
 simp [rdN,num,be4,e]
theorem qabt {v:Int} (h:idI v=true) (r:List Int):rdI ⟨be4 v++r,0⟩=(⟨r,0⟩,v):=by
 simp [idI] at h;have h2:¬(2147483647:Int)<v:=by omega
 simp [rdI,qpk (v:=v) (by omega),h2]
theorem qrx:∀(l:List Int),(∀x∈l,0<=x/\x<=4294967295)->∀r,qbq l.length ⟨qct l++r,0⟩=(⟨r,0⟩,l)
 | [],_,r=>by simp [qbq,qct]
 | x::l,h,r=>by
  have:=qrx l (fun y hy=>h y (QAo _ hy)) r;have h4:=qpk (h x (QAz ..)) (qct l++r);simp [qbq,qct] at this h4 ⊢;simp [h4,this]
def okK (k:Xi):Prop:=(0<=k.value/\k.value<=4294967295)/\(0<=k.mask/\k.mask<=4294967295)
theorem qry:∀(l:List Xi),(∀x∈l,okK x)->∀r,qck l.length ⟨qb1 l++r,0⟩=(⟨r,0⟩,l)
 | [],_,r=>by simp [qck,qb1]
 | x::l,h,r=>by
  have:=qry l (fun y hy=>h y (QAo _ hy)) r;have hx:=h x (QAz ..);have h4:=qpk hx.1 (be4 x.mask++(qb1 l++r));have h5:=qpk hx.2 (qb1 l++r);simp [qck,qb1,keyB,qe8] at this h4 h5 ⊢;simp [h4,h5,this]
def okC (c:Xb):Prop:=∀x∈c.args,0<=x/\x<=4294967295
theorem qmi {c:Xb} (h:qcq c=true) (ho:okC c) (r:List Int):qbr ⟨qcn c++r,0⟩=(⟨r,0⟩,c):=by
 simp [qcq] at h;have h2:=qkh h.1 ((c.args.length:Int)::(qct c.args++r));have h3:=qrx c.args ho r;simp [qbr,qcn,h2,qkg,h3]
def okO (o:Xc):Prop:=(∀x∈o.entry.keys,okK x)/\okC o.entry.call/\okC o.call
def okB (l:List Int):Prop:=∀x∈l,0<=x/\x<=255
theorem rd_e {n:Nat} {s:Stt} (h:(rdN n s).1.e=0):s.e=0:=by
 unfold rdN at h;split at h
 ·assumption
 ·exact h
theorem qy3 {n:Nat} {s:Stt} (h:(rdN n s).1.e=0):n<=s.b.length/\rdN n s=(⟨s.b.drop n,0⟩,num n s.b):=by
 have he:=rd_e h;unfold rdN at h ⊢;rw [QAa he] at h ⊢;by_cases q:s.b.length<n
 ·rw [QAa q] at h;simp at h
 ·rw [QA q];exact ⟨by omega,rfl⟩
theorem qoc {l:List Int} (h:okB l) (n:Nat):okB (l.drop n):=fun x hx=>h x (QAu hx)
theorem qbd {n:Nat} {s:Stt} (h:okB s.b):okB (rdN n s).1.b:=by
 unfold rdN;split
 ·split
  ·exact h
  ·exact qoc h n
 ·exact h
theorem qaku {s:Stt} (hb:okB s.b) (h:(rdN 1 s).1.e=0):s.b=(rdN 1 s).2::(rdN 1 s).1.b/\0<=(rdN 1 s).2/\(rdN 1 s).2<=255:=by
 obtain ⟨h1,h2⟩:=qy3 h;rw [h2]
 match hs:s.b,h1 with
 | a::l,_=>rw [hs] at hb;simp [num];exact hb a (by simp)
theorem qakv {s:Stt} (hb:okB s.b) (h:(rdN 2 s).1.e=0):s.b=be2 (rdN 2 s).2++(rdN 2 s).1.b/\qb2 (rdN 2 s).2=true:=by
 obtain ⟨h1,h2⟩:=qy3 h;rw [h2]
 match hs:s.b,h1 with
 | a::b::l,_=>
  rw [hs] at hb;have ha:=hb a (by simp);have hb:=hb b (by simp);simp [num,be2,qb2];omega
theorem qakw {s:Stt} (hb:okB s.b) (h:(rdN 4 s).1.e=0):s.b=be4 (rdN 4 s).2++(rdN 4 s).1.b/\0<=(rdN 4 s).2/\(rdN 4 s).2<=4294967295:=by
 obtain ⟨h1,h2⟩:=qy3 h;rw [h2]
 match hs:s.b,h1 with
 | a::b::c::d::l,_=>
  rw [hs] at hb;have ha:=hb a (by simp);have hb':=hb b (by simp);have hc:=hb c (by simp);have hd:=hb d (by simp);simp [num,be4];omega
theorem qjo {s:Stt} (hb:okB s.b):okB (qe8 s).1.b:=qbd (qbd hb)
theorem qpl:∀(n:Nat) {s:Stt},okB s.b->okB (qbq n s).1.b
 | 0,_,hb=>hb
 | n+1,s,hb=>by
  unfold qbq;by_cases q:s.e=0
  ·simp only [QAa q];exact qpl n (qbd hb)
  ·simp only [QA q];exact hb
theorem qle:∀(n:Nat) {s:Stt},okB s.b->okB (qck n s).1.b
 | 0,_,hb=>hb
 | n+1,s,hb=>by
  unfold qck;by_cases q:s.e=0
  ·simp only [QAa q];exact qle n (qjo hb)
  ·simp only [QA q];exact hb
theorem qlc {s:Stt} (hb:okB s.b):okB (qbr s).1.b:=qpl _ (qbd (qbd hb))
theorem qv7 {s:Stt} (hb:okB s.b):okB (qe5 s).1.b:=qlc (qle _ (qbd (qbd hb)))
theorem qki {s:Stt} (hb:okB s.b):okB (rdI s).1.b:=by
 unfold rdI;simp only;split
 ·exact qbd hb
 ·exact qbd hb
theorem qy2 {k t:Int} {s:Stt} (hb:okB s.b):okB (qcl k t s).1.b:=by
 unfold qcl;split
 ·exact hb
 split
 ·exact qv7 hb
 split
 ·simp only;split
  ·exact qlc (qki hb)
  ·exact qki hb
 split
 ·exact qki hb
 ·exact qlc hb
theorem qmb {p:Stt×Int} (h:okB p.1.b):okB (qel p).b:=by
 unfold qel;split<;>exact h
theorem qex {s:Stt} (hb:okB s.b):okB (rdOp s).1.b:=qy2 (qbd (qmb (qbd hb)))
def fnv1 (h c:Int):Int:=ixor .u32 h c*16777619 % 4294967296
def fnvL (h:Int) (b:List Int):Int:=b.foldl fnv1 h
def fnv (b:List Int):Int:=fnvL 2166136261 b
def frB (b:List Int):List Int:=be4 b.length++(b++be4 (fnv (be4 b.length++b)))
def unfB (b:List Int):List Int×Int×Int:=
 if b.length<8 then ([],0,3) else
 if (b.length:Int) - 8<num 4 b then ([],0,3) else
 if fnv (b.take (4+(num 4 b).toNat))≠num 4 (b.drop (4+(num 4 b).toNat)) then ([],0,24) else ((b.drop 4).take (num 4 b).toNat,num 4 b+8,0)
theorem qac4 (h c:Int):0<=fnv1 h c/\fnv1 h c<=4294967295:=by unfold fnv1;omega
theorem qt2:∀(b:List Int) (h:Int),0<=h/\h<=4294967295->0<=fnvL h b/\fnvL h b<=4294967295
 | [],_,hh=>hh
 | c::b,h,_=>qt2 b (fnv1 h c) (qac4 h c)
theorem qaf3 (b:List Int):0<=fnv b/\fnv b<=4294967295:=qt2 b _ (by omega)
theorem qqs {v:Int} (h:0<=v/\v<=4294967295) (r:List Int):num 4 (be4 v++r)=v:=by
 simp [num,be4];omega
theorem qug {b:List Int} (hb:okB b) (h:4<=b.length):0<=num 4 b/\num 4 b<=4294967295:=by
 match b,h with
 | x::y::z::w::l,_=>
  have h1:=hb x (by simp);have h2:=hb y (by simp);have h3:=hb z (by simp);have h4:=hb w (by simp);simp [num];omega
theorem qem (v:Int):(be4 v).length=4:=rfl
theorem qg3 (b:List Int):(frB b).length=b.length+8:=by simp [frB,qem];omega
theorem qalw (b r:List Int) (h:(b.length:Int)<=4294967295):unfB (frB b++r)=(b,(b.length:Int)+8,0):=by
 have hl:(frB b++r).length=b.length+8+r.length:=by rw [QAc,qg3]
 have hn:num 4 (frB b++r)=b.length:=by
  rw [frB,QAi,qqs (by omega)]
 have ht:(frB b++r).take (4+b.length)=be4 b.length++b:=by
  rw [frB,<- QAi,QAi,QAy (by simp [qem])];exact Qo (by simp [qem]<;>omega)
 have hd:(frB b++r).drop (4+b.length)=be4 (fnv (be4 b.length++b))++r:=by
  rw [frB,<- QAi,QAi,List.drop_append_of_le_length (by simp [qem])];rw [List.drop_of_length_le (by simp [qem]<;>omega)];rfl
 have hb:((frB b++r).drop 4).take b.length=b:=by
  rw [frB,QAi,List.drop_append_of_le_length (by simp [qem]),List.drop_of_length_le (by simp [qem]),QAj,QAi,QAy (Qb _)];exact Qo (Qb _)
 unfold unfB;rw [QA (by omega),hn,QA (by omega),QCd,ht,hd,qqs (qaf3 _),QA (by simp),hb]
theorem qaih (b:List Int) (h:(b.length:Int)<=4294967295) {n:Nat} (hn:n<b.length+8):unfB ((frB b).take n)=([],0,3):=by
 have hl:((frB b).take n).length=n:=by rw [QAp,qg3];omega
 unfold unfB;by_cases q:n<8
 ·rw [QAa (by omega)]
 ·rw [QA (by omega)];have hm:num 4 ((frB b).take n)=b.length:=by
   rw [frB,List.take_append,Qo (by rw [qem];omega),qqs (by omega)]
  rw [hm,QAa (by omega)]
theorem qalx {b body:List Int} {n:Int} (hb:okB b) (h:unfB b=(body,n,0)):8<=n/\n<=b.length/\(body.length:Int)+8=n/\okB body:=by
 unfold unfB at h;by_cases q:b.length<8
 ·rw [QAa q] at h;simp at h
 rw [QA q] at h;have hr:=qug hb (by omega);by_cases q2:(b.length:Int) - 8<num 4 b
 ·rw [QAa q2] at h;simp at h
 rw [QA q2] at h;by_cases q3:fnv (b.take (4+(num 4 b).toNat))≠num 4 (b.drop (4+(num 4 b).toNat))
 ·rw [QAa q3] at h;simp at h
 rw [QA q3] at h;simp only [Prod.mk.injEq,and_true] at h;obtain ⟨rfl,rfl⟩:=h;refine ⟨by omega,by omega,?_,?_⟩
 ·rw [QAp,List.length_drop];omega
 ·intro x hx;exact hb x (QAu (Qu hx))
structure LgV where
 c:Xf
 b:List Int
 n:Nat
def cmt (p:Prg) (g:LgV) (l:List Xc):LgV:=⟨xoF p g.c l,g.b++frB (encB l),g.n+1⟩
def opn (p:Prg):Nat->LgV->Int->List Int->Option LgV×Int×Int
 | 0,g,u,_=>(some g,u,0)
 | k+1,g,u,r=>
  if r=[] then (some g,u,0) else
  if (unfB r).2.2≠0 then (some g,u,0) else
  if (decB (unfB r).1).2≠0 then (none,u,(decB (unfB r).1).2) else
  match badA p g.c (decB (unfB r).1).1 with
  | some x=>(none,u,x.2)
  | none=>opn p k (cmt p g (decB (unfB r).1).1) (u+(unfB r).2.1) (r.drop (unfB r).2.1.toNat)
def clnO (o:Xc):Xc:=if o.kind=1 then ⟨1,o.table,0,o.entry,qc9⟩ else if o.kind=2 then ⟨2,o.table,o.id,qcw,o.call⟩ else if o.kind=3 then ⟨3,o.table,o.id,qcw,qc9⟩ else ⟨o.kind,o.table,0,qcw,o.call⟩
theorem qabu {o:Xc} (h:opE o=true) (ho:okO o) (r:List Int):rdOp ⟨opB o++r,0⟩=(⟨r,0⟩,clnO o):=by
 obtain ⟨o1,o2,o3⟩:=ho;have hk:1<=o.kind/\o.kind<=4:=by
  by_cases k1:o.kind=1
  ·omega
  by_cases k2:o.kind=2
  ·omega
  by_cases k3:o.kind=3
  ·omega
  by_cases k4:o.kind=4
  ·omega
  ·simp [opE,k1,k2,k3,k4] at h
 have hs:∀s:Stt,s.e=0->qel (s,o.kind)=s:=by
  intro s _;simp only [qel];rw [QA (by omega)]
 unfold opE at h;rw [QAd] at h;obtain ⟨ht,h⟩:=h;by_cases k1:o.kind=1
 ·simp [k1] at h;have h2:=qkh ht (be2 o.entry.Xt++((o.entry.keys.length:Int)::(qb1 o.entry.keys++(qcn o.entry.call++r))));have h3:=qkh h.1 ((o.entry.keys.length:Int)::(qb1 o.entry.keys++(qcn o.entry.call++r)));have h4:=qry o.entry.keys o1 (qcn o.entry.call++r);have h5:=qmi h.2.2 o2 r;simp [k1] at hs;simp [rdOp,opB,k1,qkg,hs,h2,qcl,qe5,h3,h4,h5,clnO]
 by_cases k2:o.kind=2
 ·simp [k2] at h;have h2:=qkh ht (be4 o.id++(qcn o.call++r));have h3:=qabt h.1 (qcn o.call++r);have h5:=qmi h.2 o3 r;simp [k2] at hs;simp [rdOp,opB,k2,qkg,hs,h2,qcl,h3,h5,clnO]
 by_cases k3:o.kind=3
 ·simp [k3] at h;have h2:=qkh ht (be4 o.id++r);have h3:=qabt h r;simp [k3] at hs;simp [rdOp,opB,k3,qkg,hs,h2,qcl,h3,clnO]
 ·have k4:o.kind=4:=by omega
  simp [k4] at h;have h2:=qkh ht (qcn o.call++r);have h5:=qmi h o3 r;simp [k4] at hs;simp [rdOp,opB,k4,qkg,hs,h2,qcl,h5,clnO]
theorem qpo:∀(l:List Xc),(∀o∈l,opE o=true)->(∀o∈l,okO o)->∀r,qdh l.length ⟨opsB l++r,0⟩=(⟨r,0⟩,l.map clnO)
 | [],_,_,r=>by simp [qdh,opsB]
 | x::l,h,ho,r=>by
  have:=qpo l (fun y hy=>h y (QAo _ hy)) (fun y hy=>ho y (QAo _ hy)) r;have h4:=qabu (h x (QAz ..)) (ho x (QAz ..)) (opsB l++r);simp [qdh,opsB] at this h4 ⊢;simp [h4,this]
theorem qacv {l:List Xc} (h64:l.length<=64) (h:∀o∈l,opE o=true) (ho:∀o∈l,okO o):decB (encB l)=(l.map clnO,0):=by
 unfold encB;rw [QAa ⟨h64,h⟩];have:=qpo l h ho [];simp at this;have c:cntS (⟨opsB l,0⟩,(l.length:Int))=⟨opsB l,0⟩:=by
  simp only [cntS];rw [QA (by omega)]
 simp [decB,qkg,c,this,endE]
theorem qkq (o:Xc):(clnO o).kind=o.kind:=by
 unfold clnO;split
 ·simp [*]
 split
 ·simp [*]
 split
 ·simp [*]
 ·rfl
theorem qi8 (o:Xc):(clnO o).table=o.table:=by
 unfold clnO
 repeat' split
 all_goals rfl
theorem qagv (o:Xc):opB (clnO o)=opB o:=by
 unfold opB;rw [qkq,qi8];by_cases k1:o.kind=1
 ·simp [k1,clnO]
 by_cases k2:o.kind=2
 ·simp [k2,clnO]
 by_cases k3:o.kind=3
 ·simp [k3,clnO]
 ·simp [k1,k2,k3,clnO]
theorem qagy (o:Xc):opE (clnO o)=opE o:=by
 unfold opE;rw [qkq,qi8];by_cases k1:o.kind=1
 ·simp [k1,clnO]
 by_cases k2:o.kind=2
 ·simp [k2,clnO]
 by_cases k3:o.kind=3
 ·simp [k3,clnO]
 ·simp [k1,k2,k3,clnO]
theorem qac0 (l:List Xc):encB (l.map clnO)=encB l:=by
 unfold encB opsB;simp [List.map_map,Function.comp_def,qagv,qagy]
theorem qxi (p:Prg) (c:Xf) (o:Xc):xoE p c (clnO o)=xoE p c o:=by
 unfold xoE;rw [qkq,qi8];by_cases k1:o.kind=1
 ·simp [k1,clnO]
 by_cases k2:o.kind=2
 ·simp [k2,clnO]
 by_cases k3:o.kind=3
 ·simp [k3,clnO]
 ·simp [k1,k2,k3,clnO]
theorem qxh (p:Prg) (c:Xf) (o:Xc):xoC p c (clnO o)=xoC p c o:=by
 unfold xoC xoD;rw [qxi,qkq,qi8];by_cases k1:o.kind=1
 ·simp [k1,clnO]
 by_cases k2:o.kind=2
 ·simp [k2,clnO]
 by_cases k3:o.kind=3
 ·simp [k3,clnO]
 ·simp [k1,k2,k3,clnO]
theorem qxj (p:Prg):∀(l:List Xc) (c:Xf),xoF p c (l.map clnO)=xoF p c l
 | [],_=>rfl
 | o::l,c=>by rw [QBj,qvh,qvh,qxh,qxj p l]
theorem qs7 (p:Prg):∀(l:List Xc) (c:Xf) (i:Nat),badF p c (l.map clnO) i=badF p c l i
 | [],_,_=>rfl
 | o::l,c,i=>by rw [QBj,badF,badF,qxi,qxh,qs7 p l]
theorem qacj (p:Prg) (c:Xf) (l:List Xc):badA p c (l.map clnO)=badA p c l:=by
 unfold badA;rw [QAb,qs7]
theorem qafi (p:Prg) (g:LgV) (l:List Xc):cmt p g (l.map clnO)=cmt p g l:=by
 unfold cmt;rw [qxj,qac0]
theorem PrgV.acts {p:Prg} (v:PrgV p):p.actions.length<=16:=by
 have h:=v.lim;unfold limD at h
 repeat' split at h
 all_goals first | omega | cases h
theorem PrgV.pars {p:Prg} (v:PrgV p) {k:Nat} (hk:k<p.actions.length):p.actions[k].params.length<=4:=by
 have h:=v.act;unfold qe6 at h;have:=(fe_all.1 h) k hk;simp only [Qa hk,QAs] at this;have hE:(actE p k).2=0:=by
  refine Decidable.byContradiction fun hc=>?_
  rw [QAa hc] at this;cases this
 unfold actE at hE;rw [qfo,Qa hk] at hE;simp only at hE;split at hE
 ·rename_i hc;exact absurd hE hc
 rename_i hc;refine Decidable.byContradiction fun hn=>hc ?_
 unfold actD;split
 ·simp
 ·rw [QAa (by omega)];simp
theorem qlw {p:Prg} (v:PrgV p) {t:Int} {c:Xb} (h:qbp p t c=0):qcq c=true:=by
 unfold qbp at h;split at h
 ·cases h
 unfold qfz at h;by_cases i0:c.action<0
 ·rw [qdq i0] at h;cases h
 by_cases i1:(p.actions.length:Int)<=c.action
 ·rw [qdp i1] at h;cases h
 obtain ⟨k,hk⟩:∃k:Nat,c.action=k:=⟨c.action.toNat,by omega⟩;have hkl:k<p.actions.length:=by omega
 have h16:=v.acts;have hp:=v.pars hkl;rw [hk,qfo,Qa hkl] at h;simp only at h;split at h
 ·cases h
 rename_i hl;simp [qcq,qb2];omega
theorem qaal {p:Prg} {t:Int} {x:Entry} (h:entE p t x=0):x.keys.length<=6/\0<=x.Xt/\x.Xt<=255/\qbp p t x.call=0:=by
 have hT:=qtv h;have ho:tOk p t=true:=by simp [tOk,hT]
 obtain ⟨k,hk,rfl,o⟩:=qkj ho;unfold entE at h;rw [QA (by simpa using hT),qfo,Qa hk] at h;simp only at h;split at h
 ·cases h
 rename_i hl;have hk6:=o.keys;cases q:fe (entG p p.Xn[k] x) p.Xn[k].keys.length 0 with
 | some e=>
  exfalso;rw [q] at h;simp only [QAx] at h;subst h;obtain ⟨i,hi,hx⟩:=qii q;unfold entG at hx;split at hx
  ·split at hx
   ·cases hx
   ·rename_i hne;simp only [Option.some.injEq] at hx;exact hne hx
  ·cases hx
 | none=>
  rw [q] at h;simp only [QCg] at h;unfold entF at h;split at h
  ·cases h
  split at h
  ·cases h
  split at h
  ·cases h
  refine ⟨by omega,by omega,by omega,?_⟩;unfold qbp;exact h
theorem qakf {p:Prg} {c:Xf} (v:CfgV p c) {o:Xc} (h:xoE p c o=0):opE o=true:=by
 have vp:=qmt v.prg;have h12:=vp.tabs;have tb:∀{t:Int},inT p t=true->qb2 t=true:=by
  intro t ht;obtain ⟨k,rfl,hk⟩:=qep ht;simp [qb2];omega
 have idr:∀{t id:Int},inT p t=true->rIdx (qcm c t) id≠none->idI id=true:=by
  intro t id ht hr;obtain ⟨k,rfl,hk⟩:=qep ht;have vt:=v.at hk;rw [qdy (by rw [v.rl];exact hk)] at hr;cases hq:rIdx (c.rows[k]'(by rw [v.rl];exact hk)) id with
  | none=>exact absurd hq hr
  | some i=>
   obtain ⟨hil,hid⟩:=qjk hq;have h1:=vt.pos _ (Qd hil);have h2:=vt.lt _ (Qd hil);have h3:=vt.nx1;simp [idI];omega
 unfold xoE at h;unfold opE;by_cases k1:o.kind=1
 ·rw [QAa k1] at h;obtain ⟨hi,_,_⟩:=qyo h;have he:entE p o.table o.entry=0:=by
   unfold insE at h;rw [QA (by simp [hi])] at h;refine Decidable.byContradiction fun hc=>?_
   rw [QAa hc] at h;exact hc h
  obtain ⟨f1,f2,f3,f4⟩:=qaal he;have h5:=qlw vp f4;have hp:qb2 o.entry.Xt=true:=by simp [qb2];omega
  simp [k1,tb hi,hp,h5];omega
 rw [QA k1] at h;by_cases k2:o.kind=2
 ·rw [QAa k2] at h;unfold modE at h;split at h
  ·cases h
  rename_i hi;split at h
  ·cases h
  rename_i hr;have hi':inT p o.table=true:=by simpa using hi
  simp [k2,tb hi',idr hi' hr,qlw vp h]
 rw [QA k2] at h;by_cases k3:o.kind=3
 ·rw [QAa k3] at h;unfold delE at h;split at h
  ·cases h
  rename_i hi;split at h
  ·cases h
  rename_i hr;have hi':inT p o.table=true:=by simpa using hi
  simp [k3,tb hi',idr hi' hr]
 rw [QA k3] at h;by_cases k4:o.kind=4
 ·rw [QAa k4] at h;unfold defE at h;split at h
  ·cases h
  rename_i hi;have hi':inT p o.table=true:=by simpa using hi
  simp [k4,tb hi',qlw vp h]
 ·rw [QA k4] at h;cases h
theorem qw5 {p:Prg}:∀{c:Xf} (l:List Xc),CfgV p c->okF p c l->∀o∈l,opE o=true
 | _,[],_,_,o,h=>by cases h
 | c,x::l,v,h,o,ho=>by
  rcases QAe.1 ho with rfl | ho
  ·exact qakf v h.1
  ·exact qw5 l (qp7 v x) h.2 o ho
def frs (G:List (List Xc)):List Int:=(G.map fun l=>frB (encB l)).flatten
def cmts (p:Prg) (g:LgV) (G:List (List Xc)):LgV:=G.foldl (cmt p) g
def okG (p:Prg):LgV->List (List Xc)->Prop
 | _,[]=>True
 | g,l::G=>badA p g.c l=none/\okG p (cmt p g l) G
def kOf:List (List Xc)->Nat->Nat
 | [],_=>0
 | l::G,n=>if (frB (encB l)).length<=n then kOf G (n - (frB (encB l)).length)+1 else 0
theorem qf3 (l:List Xc) (G:List (List Xc)):frs (l::G)=frB (encB l)++frs G:=rfl
theorem qqk (G H:List (List Xc)):frs (G++H)=frs G++frs H:=by simp [frs]
theorem qiy (p:Prg):∀(G:List (List Xc)) (g:LgV),(cmts p g G).b=g.b++frs G
 | [],g=>by simp [cmts,frs]
 | l::G,g=>by
  have:=qiy p G (cmt p g l);rw [show cmts p g (l::G)=cmts p (cmt p g l) G from rfl,this,qf3];simp [cmt]
theorem qz9 (p:Prg):∀(G:List (List Xc)) (g:LgV),(cmts p g G).n=g.n+G.length
 | [],g=>by simp [cmts]
 | l::G,g=>by
  have:=qz9 p G (cmt p g l);rw [show cmts p g (l::G)=cmts p (cmt p g l) G from rfl,this];simp [cmt];omega
theorem qtg (p:Prg) (g:LgV) (G H:List (List Xc)):cmts p g (G++H)=cmts p (cmts p g G) H:=by simp [cmts]
theorem qqt {p:Prg}:∀{g:LgV} (G H:List (List Xc)),okG p g G->okG p (cmts p g G) H->okG p g (G++H)
 | _,[],_,_,h=>h
 | _,_::G,H,h,h2=>⟨h.1,qqt G H h.2 h2⟩
theorem qui {p:Prg}:∀{g:LgV} (G:List (List Xc)) (k:Nat),okG p g G->okG p g (G.take k)
 | _,[],k,h=>by simp [okG]
 | _,l::G,0,h=>trivial
 | _,l::G,k+1,h=>⟨h.1,qui G k h.2⟩
theorem qtt {l:List Xc} (h:∀o∈l,opE o=true) (h64:l.length<=64):(encB l).length<=300000:=by
 unfold encB;rw [QAa ⟨h64,h⟩];have:∀(l:List Xc),(∀o∈l,opE o=true)->(opsB l).length<=4000*l.length:=by
  intro l
  induction l with
  | nil=>simp [opsB]
  | cons x l ih=>
   intro h;have h1:=ih fun o ho=>h o (by simp [ho])
   have h2:(opB x).length<=4000:=by
    have hx:=h x (by simp);have hc:∀c:Xb,qcq c=true->(qcn c).length<=1100:=by
     intro c hc;have ha:∀l:List Int,(qct l).length=4*l.length:=by
      intro l
      induction l with
      | nil=>rfl
      | cons y l ih=>simp [qct,be4] at ih ⊢;omega
     simp [qcq] at hc;simp [qcn,be2,ha];omega
    have hk:∀l:List Xi,(qb1 l).length=8*l.length:=by
     intro l
     induction l with
     | nil=>rfl
     | cons y l ih=>simp [qb1,keyB,be4] at ih ⊢;omega
    unfold opE at hx;unfold opB;by_cases k1:x.kind=1
    ·simp [k1] at hx;have:=hc _ hx.2.2.2;simp [k1,be2,hk];omega
    by_cases k2:x.kind=2
    ·simp [k2] at hx;have:=hc _ hx.2.2;simp [k2,be2,be4];omega
    by_cases k3:x.kind=3
    ·simp [k3,be2,be4]
    by_cases k4:x.kind=4
    ·simp [k4] at hx;have:=hc _ hx.2;simp [k4,be2];omega
    ·simp [k1,k2,k3,k4] at hx
   simp [opsB] at h1 ⊢;omega
 have:=this l h;simp;omega
theorem cmt_v {p:Prg} {g:LgV} (v:CfgV p g.c) (l:List Xc):CfgV p (cmt p g l).c:=qacb l v
theorem fr_ok {p:Prg} {g:LgV} (v:CfgV p g.c) {l:List Xc} (h:badA p g.c l=none):l.length<=64/\(∀o∈l,opE o=true)/\((encB l).length:Int)<=300000:=by
 have h64:=qs5 h;have hE:=qw5 l v (qack h);exact ⟨h64,hE,by have:=qtt hE h64;omega⟩
theorem qod {p:Prg}:∀(G:List (List Xc)) (g:LgV) (u:Int) (n k:Nat),CfgV p g.c->okG p g G->(∀l∈G,∀o∈l,okO o)->((frs G).take n).length<=k->
  opn p k g u ((frs G).take n)=(some (cmts p g (G.take (kOf G n))),u+(frs (G.take (kOf G n))).length,0)
 | [],g,u,n,k,_,_,_,_=>by
  cases k<;>simp [frs,opn,kOf,cmts]
 | l::G,g,u,n,k,v,h,ho,hk=>by
  obtain ⟨h64,hE,hl⟩:=fr_ok v h.1;have hF:=qg3 (encB l);by_cases q:(frB (encB l)).length<=n
  ·have ht:(frs (l::G)).take n=frB (encB l)++(frs G).take (n - (frB (encB l)).length):=by
    rw [qf3,List.take_append,Qo q]
   rw [ht] at hk ⊢;rw [QAc] at hk;obtain ⟨m,rfl⟩:∃m,k=m+1:=⟨k - 1,by omega⟩;have hne:¬(frB (encB l)++(frs G).take (n - (frB (encB l)).length)=[]):=by
    intro hn;have:=congrArg List.length hn;rw [QAc,hF] at this;simp at this
   have hd:(frB (encB l)++(frs G).take (n - (frB (encB l)).length)).drop (((encB l).length:Int)+8).toNat=(frs G).take (n - (frB (encB l)).length):=by
    rw [show (((encB l).length:Int)+8).toNat=(frB (encB l)).length by rw [hF];omega];simp
   rw [opn,QA hne,qalw _ _ (by omega),qacv h64 hE (ho l (by simp))];simp only [ne_eq,not_true,if_false,qacj,h.1,qafi,hd];rw [qod G (cmt p g l) _ _ m (cmt_v v l) h.2 (fun x hx=>ho x (by simp [hx])) (by omega)];have hk1:kOf (l::G) n=kOf G (n - (frB (encB l)).length)+1:=by rw [kOf,QAa q]
   rw [hk1,List.take_succ_cons,qf3,QAc];refine Prod.ext rfl (Prod.ext ?_ rfl);simp only;omega
  ·have ht:(frs (l::G)).take n=(frB (encB l)).take n:=by
    rw [qf3,QAy (by omega)]
   rw [ht] at hk ⊢;rw [QAp,hF] at hk;simp only [kOf,QA q,List.take_zero];cases k with
   | zero=>simp [opn,cmts,frs]
   | succ k=>
    have hu:=qaih (encB l) (by omega) (n:=n) (by omega);rw [opn];by_cases hz:(frB (encB l)).take n=[]
    ·rw [QAa hz];simp [cmts,frs]
    ·rw [QA hz,hu];simp [cmts,frs]
theorem qt7:∀(G:List (List Xc)) (n:Nat),kOf G n<=G.length
 | [],_=>Qb _
 | l::G,n=>by
  unfold kOf;split
  ·have:=qt7 G (n - (frB (encB l)).length);simp;omega
  ·omega
theorem qaa8:∀(G:List (List Xc)) (n j:Nat),j<=kOf G n->(frs (G.take j)).length<=n
 | [],n,j,_=>by simp [frs]
 | l::G,n,0,_=>by simp [frs]
 | l::G,n,j+1,h=>by
  unfold kOf at h;split at h
  ·rename_i q;have:=qaa8 G (n - (frB (encB l)).length) j (by omega);rw [List.take_succ_cons,qf3,QAc];omega
  ·omega
theorem qww:∀(G:List (List Xc)) (n:Nat),kOf G n<G.length->n<(frs (G.take (kOf G n+1))).length
 | [],_,h=>by simp at h
 | l::G,n,h=>by
  unfold kOf at h ⊢;split
  ·rename_i q;rw [QAa q] at h;have:=qww G (n - (frB (encB l)).length) (by simpa using h);rw [List.take_succ_cons,qf3,QAc];omega
  ·rename_i q;simp [frs];omega
theorem qwv:∀(G:List (List Xc)) (n:Nat),(frs G).length<=n->kOf G n=G.length
 | [],_,_=>rfl
 | l::G,n,h=>by
  rw [qf3,QAc] at h;unfold kOf;rw [QAa (by omega),qwv G _ (by omega)];rfl
theorem qs6 {p:Prg} {c:Xf} (v:CfgV p c):badA p c []=none:=by
 unfold badA;rw [QA (by simpa using (qf7 p c).2 v),QA (by simp)];rfl
theorem qaaa {p:Prg}:∀(G:List (List Xc)) {g:LgV},CfgV p g.c->CfgV p (cmts p g G).c
 | [],_,v=>v
 | l::G,_,v=>qaaa G (cmt_v v l)
theorem qabo {p:Prg} {g:LgV} (G:List (List Xc)) (v:CfgV p g.c) (h:okG p g G) (ho:∀l∈G,∀o∈l,okO o) (k:Nat) (hk:(frs (G++[[]])).length<=k):
  opn p k g 0 (frs (G++[[]]))=(some (cmt p (cmts p g G) []),((frs (G++[[]])).length:Int),0):=by
 have h2:okG p g (G++[[]]):=qqt _ _ h ⟨qs6 (qaaa G v),trivial⟩;have ho2:∀l∈G++[[]],∀o∈l,okO o:=by
  intro l hl o hx;rcases QAf.1 hl with hl | hl
  ·exact ho l hl o hx
  ·simp at hl;subst hl;cases hx
 have:=qod (G++[[]]) g 0 (frs (G++[[]])).length k v h2 ho2 (by rw [Qo (Qb _)];exact hk);rw [qwv _ _ (Qb _),Qo (Qb _),Qo (Qb _),qtg] at this;rw [this];refine Prod.ext rfl (Prod.ext ?_ rfl);simp
theorem PrgV.regs {p:Prg} (v:PrgV p) {k:Nat} (hk:k<p.Xm.length):regE p.Xm[k]=0:=by
 have:=(fe_all.1 v.reg) k hk;simp only [Qa hk,QAs] at this;have hE:qid p k p.Xm[k]=0:=by
  refine Decidable.byContradiction fun hc=>?_
  rw [QA hc] at this;cases this
 unfold qid at hE;refine Decidable.byContradiction fun hc=>?_
 rw [QAa hc] at hE;exact hc hE
theorem PrgV.tblz {p:Prg} (v:PrgV p) {k:Nat} (hk:k<p.Xn.length):(tblE p k).2=0:=by
 have:=(fe_all.1 v.tbl) k hk;simp only [Qa hk,QAs] at this;refine Decidable.byContradiction fun hc=>?_
 rw [QAa hc] at this;cases this
theorem qaep {p:Prg} {k:Nat} (hk:k<p.Xn.length) (h:(tblE p k).2=0):qbp p k p.Xn[k].dflt=0:=by
 have ho:tOk p k=true:=by simp [tOk,h]
 unfold tblE at h;rw [qfo,Qa hk] at h;dsimp only at h;split at h
 ·cases h
 split at h
 ·cases h
 split at h
 ·cases h
 split at h
 ·rename_i hc;exact absurd h hc
 split at h
 ·rename_i hc;exact absurd h hc
 rename_i hc;have ht:qjp p p.Xn[k]=0:=by simpa using hc
 unfold qjp at ht;split at ht
 ·rename_i e he;exfalso;subst ht;obtain ⟨i,_,hx⟩:=qii he;rw [Qt] at hx;obtain ⟨a,_,hx⟩:=hx;split at hx
  ·cases hx
  ·split at hx<;>cases hx
 split at ht
 ·rename_i hcon;unfold qbp;have hA:tAl p k p.Xn[k].dflt.action=true:=by
   unfold tAl;rw [ho,qfo,Qa hk];simp at hcon ⊢;exact hcon
  rw [QA (by simp [hA])];exact ht
 ·cases ht
theorem qadh (w:Int):0<=qce w:=by
 unfold qce;split
 ·exact Int.le_refl 0
 ·have:(0:Int)<2^w.toNat:=Int.pow_pos (by decide);omega
theorem qaaj {p:Prg} (h:(prgD p).1=0):CfgV p (qbl p):=by
 have v:=qmt h;refine ⟨h,by simp [qbl],by simp [qbl],by simp [qbl],?_,?_⟩
 ·intro k tb l nx d h1 h2 h3 h4;obtain ⟨hk,rfl⟩:=Qm.1 h1;simp [qbl,hk] at h2 h3 h4;subst h2 h3 h4;have hz:=v.tblz hk;obtain ⟨k',hk',hkk,o⟩:=qkj (p:=p) (t:=(k:Int)) (by simp [tOk,hz]);have:k'=k:=by omega
  subst this;have:=o.size;exact ⟨by simp;omega,by simp,by simp,by simp,by decide,by decide,by simp,by simp,qaep hk hz⟩
 ·unfold conE;rw [QA (by simp [qbl,newR])];have e1:fe (szG p (qbl p).Xm) (qbl p).Xm.length 0=none:=by
   refine fe_all.2 fun i hi=>?_
   have hi2:i<p.Xm.length:=by simpa [qbl,newR] using hi
   have hr:=v.regs hi2;have hs:¬(p.Xm[i].size<1\/64<p.Xm[i].size):=by
    intro hc;unfold regE at hr;split at hr
    ·cases hr
    split at hr
    ·cases hr
    first | (rw [QAa hc] at hr;cases hr) | cases hr
   simp [szG,qbl,newR,hi2,regN,hs];omega
  have e2:fe (vlG p (qbl p).Xm) (qbl p).Xm.length 0=none:=by
   refine fe_all.2 fun i hi=>?_
   have hi2:i<p.Xm.length:=by simpa [qbl,newR] using hi
   have hm:=qadh p.Xm[i].width;simp [vlG,qbl,newR,hi2];intro _;omega
  rw [e1,e2];rfl
def cSt (s:Stt):List AV:=[.slice 1 (s.b.map c8),.int .i64 s.e]
theorem qat (s:Stt):cSt s=[.slice 1 (s.b.map c8),.int .i64 s.e]:=by simp [cSt]
theorem c8e (x:Int):c8 x=[.int .u8 x]:=by simp [c8]
theorem qado (b:List Int) (h:0<b.length):num 1 b=b[0]:=by
 match b,h with
 | a::l,_=>simp [num]
theorem qadp (b:List Int) (h:1<b.length):num 2 b=256*b[0]+b[1]:=by
 match b,h with
 | a::c::l,_=>simp [num]
theorem quf (b:List Int) (h:3<b.length):num 4 b=256*(256*(256*b[0]+b[1])+b[2])+b[3]:=by
 match b,h with
 | a::c::d::e::l,_=>simp [num]
theorem qca:∀a b:List (Nat×AO),qao (a++b)=qao a++qao b
 | [],b=>by simp
 | (u,x)::a,b=>by
  have:=qca a b;cases x<;>simp [qao,this]
theorem qcp {x:Int} (h:0<=x/\x<=4294967295):IntKind.wrap .u32 x=x:=by
 unfold IntKind.wrap;simp [IntKind.bits,IntKind.signed];omega
theorem qha {s:Stt} (hb:okB s.b):0<=(rdN 1 s).2/\(rdN 1 s).2<=255:=by
 by_cases h:(rdN 1 s).1.e=0
 ·exact (qaku hb h).2
 ·have:(rdN 1 s).2=0:=by
   unfold rdN at h ⊢;split
   ·split
    ·rfl
    ·rename_i q1 q2;rw [QAa q1,QA q2] at h;simp at h
   ·rfl
  omega
theorem qqx {s:Stt} (hb:okB s.b):0<=(rdN 2 s).2/\(rdN 2 s).2<=65535:=by
 by_cases h:(rdN 2 s).1.e=0
 ·have:=(qakv hb h).2;simp [qb2] at this;exact this
 ·have:(rdN 2 s).2=0:=by
   unfold rdN at h ⊢;split
   ·split
    ·rfl
    ·rename_i q1 q2;rw [QAa q1,QA q2] at h;simp at h
   ·rfl
  omega
theorem qnc {s:Stt} (hb:okB s.b):0<=(rdN 4 s).2/\(rdN 4 s).2<=4294967295:=by
 by_cases h:(rdN 4 s).1.e=0
 ·exact (qakw hb h).2
 ·have:(rdN 4 s).2=0:=by
   unfold rdN at h ⊢;split
   ·split
    ·rfl
    ·rename_i q1 q2;rw [QAa q1,QA q2] at h;simp at h
   ·rfl
  omega
def cC (c:Xb):List AV:=[.int .i64 c.action,.slice 1 (c.args.map c32)]
theorem cC_e (c:Xb):cC c=[.int .i64 c.action,.slice 1 (c.args.map c32)]:=by simp [cC]
theorem qmv (x:Int):c32 x=[.int .u32 x]:=by simp [c32]
theorem qhl {n:Nat} {s:Stt} (h:s.e≠0):qbq n s=(s,[]):=by
 cases n with
 | zero=>rfl
 | succ n=>simp [qbq,h]
theorem qjn {n:Nat} {s:Stt} (h:s.e=0):qbq (n+1) s=((qbq n (rdN 4 s).1).1,(rdN 4 s).2::(qbq n (rdN 4 s).1).2):=by
 simp [qbq,h]
theorem Xi.ceJ (x:Xi):Xi.c x=[.int .u32 x.value,.int .u32 x.mask]:=by simp [Xi.c]
theorem qhm {n:Nat} {s:Stt} (h:s.e≠0):qck n s=(s,[]):=by
 cases n with
 | zero=>rfl
 | succ n=>simp [qck,h]
theorem qmj {n:Nat} {s:Stt} (h:s.e=0):qck (n+1) s=((qck n (qe8 s).1).1,(qe8 s).2::(qck n (qe8 s).1).2):=by
 simp [qck,h]
theorem Xc.ce (x:Xc):Xc.c x=[.int .i64 x.kind,.int .i64 x.table,.int .i64 x.id,.slice 2 (x.entry.keys.map Xi.c),.int .i64 x.entry.Xt,.int .i64 x.entry.call.action,.slice 1 (x.entry.call.args.map c32),.int .i64 x.call.action,.slice 1 (x.call.args.map c32)]:=by simp [Xc.c]
theorem qnd {n:Nat} {s:Stt} (h:s.e≠0):rdN n s=(s,0):=by simp [rdN,h]
theorem qpp {n:Nat} {s:Stt} (h:s.e≠0):qdh n s=(s,[]):=by
 cases n with
 | zero=>rfl
 | succ n=>simp [qdh,h]
theorem qey {n:Nat} {s:Stt} (h:s.e=0):qdh (n+1) s=((qdh n (rdOp s).1).1,(rdOp s).2::(qdh n (rdOp s).1).2):=by
 simp [qdh,h]
def RD (x:Nat×Stt×List Xc):Option Rt:=
 some (.val (.tup [.slice 9 ((if endE (qdh x.1 x.2.1).1=0 then x.2.2++(qdh x.1 x.2.1).2 else []).map Xc.c),.int .i64 (endE (qdh x.1 x.2.1).1)]))
theorem qth {p:Stt×Int} (h:okB p.1.b):okB (cntS p).b:=by
 unfold cntS;split<;>exact h
theorem qgo {v x:Int} (hv:0<=v/\v<16777216) (hx:0<=x/\x<=255):ior .u32 (ishl .u32 v 8) x=256*v+x:=by
 obtain ⟨n,rfl⟩:∃n:Nat,v=(n:Int):=⟨v.toNat,by omega⟩;obtain ⟨b,rfl⟩:∃b:Nat,x=(b:Int):=⟨x.toNat,by omega⟩;have e1:ishl .u32 (n:Int) 8=((n*256:Nat):Int):=by
  unfold ishl;have:((n:Int)*2^(min (8:Int).toNat (IntKind.bits .u32)))=((n*256:Nat):Int):=by
   have:(2:Int)^(min (8:Int).toNat (IntKind.bits .u32))=256:=by decide
   rw [this];omega
  rw [this,qcp (by omega)]
 rw [e1];unfold ior;have h2:(BitVec.ofInt (IntKind.bits .u32) ((n*256:Nat):Int) ||| BitVec.ofInt (IntKind.bits .u32) (b:Int)).toNat=256*n+b:=by
  rw [BitVec.toNat_or];rw [BitVec.ofInt_natCast,BitVec.ofInt_natCast,QCb,QCb];have hbits:IntKind.bits .u32=32:=rfl;rw [hbits,QBx (by omega),QBx (by omega)];have:=Nat.shiftLeft_add_eq_or_of_lt (b:=b) (i:=8) (by omega) n;rw [Nat.shiftLeft_eq] at this;rw [show n*256=n*2^8 by rfl,<- this];omega
 rw [h2,qcp (by omega)];omega
theorem qsq (s:Stt) (hb:okB s.b) (T:List (Nat×AO)) (N:Nat):qah Φ f_122 [.ptr 0 2 0 0,.int .i64 1] ⟨(0,.row 2 [cSt s])::T,N⟩=some (.val (.int .u32 (rdN 1 s).2),⟨(0,.row 2 [cSt (rdN 1 s).1])::T,N⟩):=by
 rw [qau (fn:=c_122) rfl rfl];by_cases q:s.e=0
 rotate_left
 ·simp [c_122,qat,rdN,q]
 by_cases q1:s.b.length<1
 ·have q1':(s.b.length:Int)<1:=by omega
  simp [c_122,qat,rdN,q,q1,q1']
 obtain ⟨b,e⟩:=s;simp only at q q1 hb;have q2:¬((b.length:Int)<1):=by omega
 have q3:(1:Int)<=b.length:=by omega
 have q4:1<=b.length:=by omega
 have i0:0<b.length:=by omega
 have h0:=hb _ (Qd i0);have w0:IntKind.wrap .u32 b[0]=b[0]:=qcp (by omega);have k0:IntKind.wrap .i64 0=0:=by decide
 have k1:IntKind.wrap .i64 1=1:=by decide
 have k2:IntKind.wrap .i64 2=2:=by decide
 have k3:IntKind.wrap .i64 3=3:=by decide
 have k4:IntKind.wrap .i64 4=4:=by decide
 simp [c_122,qat,rdN,q,q1,q2,q3,q4,qado b i0];rw [qar];simp [c_122_l0,c8e,k0,k1,k2,k3,k4,i0,w0,q4];rw [qar];simp [c_122_l0,c_122_k1,q3,q4];have x0:ior .u32 (ishl .u32 0 8) b[0]=b[0]:=by rw [qgo (by omega) (by omega)];omega
 have fin:ior .u32 (ishl .u32 0 8) b[0]=b[0]:=by rw [x0]
 exact ⟨fin,Qo (by simp)⟩
theorem qx9 (s:Stt) (hb:okB s.b) (T:List (Nat×AO)) (N:Nat):qah Φ f_122 [.ptr 0 2 0 0,.int .i64 2] ⟨(0,.row 2 [cSt s])::T,N⟩=some (.val (.int .u32 (rdN 2 s).2),⟨(0,.row 2 [cSt (rdN 2 s).1])::T,N⟩):=by
 rw [qau (fn:=c_122) rfl rfl];by_cases q:s.e=0
 rotate_left
 ·simp [c_122,qat,rdN,q]
 by_cases q1:s.b.length<2
 ·have q1':(s.b.length:Int)<2:=by omega
  simp [c_122,qat,rdN,q,q1,q1']
 obtain ⟨b,e⟩:=s;simp only at q q1 hb;have q2:¬((b.length:Int)<2):=by omega
 have q3:(2:Int)<=b.length:=by omega
 have q4:2<=b.length:=by omega
 have i0:0<b.length:=by omega
 have h0:=hb _ (Qd i0);have w0:IntKind.wrap .u32 b[0]=b[0]:=qcp (by omega);have i1:1<b.length:=by omega
 have h1:=hb _ (Qd i1);have w1:IntKind.wrap .u32 b[1]=b[1]:=qcp (by omega);have k0:IntKind.wrap .i64 0=0:=by decide
 have k1:IntKind.wrap .i64 1=1:=by decide
 have k2:IntKind.wrap .i64 2=2:=by decide
 have k3:IntKind.wrap .i64 3=3:=by decide
 have k4:IntKind.wrap .i64 4=4:=by decide
 simp [c_122,qat,rdN,q,q1,q2,q3,q4,qadp b i1];rw [qar];simp [c_122_l0,c8e,k0,k1,k2,k3,k4,i0,w0,i1,w1,q4];rw [qar];simp [c_122_l0,c8e,k0,k1,k2,k3,k4,i0,w0,i1,w1,q4];rw [qar];simp [c_122_l0,c_122_k1,q3,q4];have x0:ior .u32 (ishl .u32 0 8) b[0]=b[0]:=by rw [qgo (by omega) (by omega)];omega
 have x1:ior .u32 (ishl .u32 (b[0]) 8) b[1]=256*(b[0])+b[1]:=qgo (by omega) (by omega);have fin:ior .u32 (ishl .u32 (ior .u32 (ishl .u32 0 8) b[0]) 8) b[1]=256*(b[0])+b[1]:=by rw [x0,x1]
 exact ⟨fin,Qo (by simp)⟩
theorem qku (s:Stt) (hb:okB s.b) (T:List (Nat×AO)) (N:Nat):qah Φ f_122 [.ptr 0 2 0 0,.int .i64 4] ⟨(0,.row 2 [cSt s])::T,N⟩=some (.val (.int .u32 (rdN 4 s).2),⟨(0,.row 2 [cSt (rdN 4 s).1])::T,N⟩):=by
 rw [qau (fn:=c_122) rfl rfl];by_cases q:s.e=0
 rotate_left
 ·simp [c_122,qat,rdN,q]
 by_cases q1:s.b.length<4
 ·have q1':(s.b.length:Int)<4:=by omega
  simp [c_122,qat,rdN,q,q1,q1']
 obtain ⟨b,e⟩:=s;simp only at q q1 hb;have q2:¬((b.length:Int)<4):=by omega
 have q3:(4:Int)<=b.length:=by omega
 have q4:4<=b.length:=by omega
 have i0:0<b.length:=by omega
 have h0:=hb _ (Qd i0);have w0:IntKind.wrap .u32 b[0]=b[0]:=qcp (by omega);have i1:1<b.length:=by omega
 have h1:=hb _ (Qd i1);have w1:IntKind.wrap .u32 b[1]=b[1]:=qcp (by omega);have i2:2<b.length:=by omega
 have h2:=hb _ (Qd i2);have w2:IntKind.wrap .u32 b[2]=b[2]:=qcp (by omega);have i3:3<b.length:=by omega
 have h3:=hb _ (Qd i3);have w3:IntKind.wrap .u32 b[3]=b[3]:=qcp (by omega);have k0:IntKind.wrap .i64 0=0:=by decide
 have k1:IntKind.wrap .i64 1=1:=by decide
 have k2:IntKind.wrap .i64 2=2:=by decide
 have k3:IntKind.wrap .i64 3=3:=by decide
 have k4:IntKind.wrap .i64 4=4:=by decide
 simp [c_122,qat,rdN,q,q1,q2,q3,q4,quf b i3];rw [qar];simp [c_122_l0,c8e,k0,k1,k2,k3,k4,i0,w0,i1,w1,i2,w2,i3,w3,q4];rw [qar];simp [c_122_l0,c8e,k0,k1,k2,k3,k4,i0,w0,i1,w1,i2,w2,i3,w3,q4];rw [qar];simp [c_122_l0,c8e,k0,k1,k2,k3,k4,i0,w0,i1,w1,i2,w2,i3,w3,q4];rw [qar];simp [c_122_l0,c8e,k0,k1,k2,k3,k4,i0,w0,i1,w1,i2,w2,i3,w3,q4];rw [qar];simp [c_122_l0,c_122_k1,q3,q4];have x0:ior .u32 (ishl .u32 0 8) b[0]=b[0]:=by rw [qgo (by omega) (by omega)];omega
 have x1:ior .u32 (ishl .u32 (b[0]) 8) b[1]=256*(b[0])+b[1]:=qgo (by omega) (by omega);have x2:ior .u32 (ishl .u32 (256*(b[0])+b[1]) 8) b[2]=256*(256*(b[0])+b[1])+b[2]:=qgo (by omega) (by omega);have x3:ior .u32 (ishl .u32 (256*(256*(b[0])+b[1])+b[2]) 8) b[3]=256*(256*(256*(b[0])+b[1])+b[2])+b[3]:=qgo (by omega) (by omega);have fin:ior .u32 (ishl .u32 (ior .u32 (ishl .u32 (ior .u32 (ishl .u32 (ior .u32 (ishl .u32 0 8) b[0]) 8) b[1]) 8) b[2]) 8) b[3]=256*(256*(256*(b[0])+b[1])+b[2])+b[3]:=by rw [x0,x1,x2,x3]
 exact ⟨fin,Qo (by simp)⟩
theorem dreq (s:Stt) (ok:Bool) (c:Int) (T:List (Nat×AO)) (N:Nat):qah Φ f_123 [.ptr 0 2 0 0,.bool ok,.int .i64 c] ⟨(0,.row 2 [cSt s])::T,N⟩=
  some (.val (.tup []),⟨(0,.row 2 [cSt (if s.e=0/\ok=false then ⟨s.b,c⟩ else s)])::T,N⟩):=by
 rw [qau (fn:=c_123) rfl rfl];by_cases q:s.e=0
 ·cases ok<;>simp [c_123,qat,q]
 ·cases ok<;>simp [c_123,qat,q]
theorem qur {n:Nat} {s:Stt} (h:(rdN n s).1.e≠0):(rdN n s).2=0:=by
 unfold rdN at h ⊢;split
 ·split
  ·rfl
  ·rename_i q1 q2;rw [QAa q1,QA q2] at h;simp at h
 ·rfl
theorem did (s:Stt) (hb:okB s.b) (T:List (Nat×AO)) (N:Nat):qah Φ f_194 [.ptr 0 2 0 0] ⟨(0,.row 2 [cSt s])::T,N⟩=some (.val (.int .i64 (rdI s).2),⟨(0,.row 2 [cSt (rdI s).1])::T,N⟩):=by
 rw [qau (fn:=c_194) rfl rfl];have h4:=qku s hb T N;have hr:=qnc hb;have hw:IntKind.wrap .i64 (rdN 4 s).2=(rdN 4 s).2:=qbb (by omega) (by omega);have hq:=dreq (rdN 4 s).1 (decide ((rdN 4 s).2<=2147483647)) 5 T N;have e:(if (rdN 4 s).1.e=0/\decide ((rdN 4 s).2<=2147483647)=false then (⟨(rdN 4 s).1.b,5⟩:Stt) else (rdN 4 s).1)=(rdI s).1:=by
  simp only [rdI];by_cases z:(rdN 4 s).1.e=0
  ·by_cases y:(rdN 4 s).2<=2147483647
   ·have y':¬(2147483647<(rdN 4 s).2):=by omega
    simp [z,y,y']
   ·simp [z,y]
  ·have:=qur z;simp [z,this]
 rw [e] at hq;simp [c_194,h4,hq,hw,rdI]
theorem qef {α:Type} (f:α->α->Bool):∀l:List α,(∀x∈l,f x x=true)->eqL f l l=true
 | [],_=>by simp [eqL]
 | x::r,h=>by simp [eqL,h x (QAz ..),qef f r (fun y hy=>h y (QAo _ hy))]
theorem qbi (n:Nat) (k:IntKind) (v:Int):avEq (n+1) (.int k v) (.int k v)=true:=by unfold avEq;simp
theorem qgx (n z:Nat):avEq (n+1) (.Xu z []) (.Xu z [])=true:=by unfold avEq;simp [eqL]
theorem qs4 (n z:Nat) (es:List (List AV)) (t:Nat) (h:eqL (eqL (avEq n)) es es=true):avEq (n+1) (.app z es t) (.app z es t)=true:=by unfold avEq;simp [h]
theorem qhp (z:Nat) (cs:List AV) (h:∀x∈cs,avEq 40 x x=true):aoEq (some (.row z [cs])) (some (.row z [cs]))=true:=by
 have h1:=qef (avEq 40) cs h;unfold aoEq;simp [qaf,eqL,h1]
theorem qzw (a:Int) (l:List Int) (t:Nat):aoEq (some (.row 2 [[.int .i64 a,.app 1 (l.map c32) t]])) (some (.row 2 [[.int .i64 a,.app 1 (l.map c32) t]]))=true:=by
 apply qhp;intro x hx;simp at hx;rcases hx with rfl | rfl
 ·exact qbi 39 _ _
 ·refine qs4 39 _ _ _ (qef _ _ ?_);intro x hx;obtain ⟨y,_,rfl⟩:=QAv.1 hx;rw [qmv];exact qef _ _ (by simp;exact qbi 38 _ _)
theorem qxn (a:Int):aoEq (some (.row 2 [[.int .i64 a,.Xu 1 []]])) (some (.row 2 [[.int .i64 a,.Xu 1 []]]))=true:=by
 apply qhp;intro x hx;simp at hx;rcases hx with rfl | rfl
 ·exact qbi 39 _ _
 ·exact qgx 39 _
theorem qhw {Φ:FuncId->Option AFun} {β:Type} {fin:Option (Ex×St)->Option β} {σ:Type} (m:σ->Nat) (Inv:σ->Env->AH->Prop) (R:σ->Option β->Prop) {b:Xv} {K:List Fr}
  (step:∀x e h L,(∀j s,go Φ fin L (.exit j) s=go Φ fin K (.exit j) s)->Inv x e h->(∀y e' h',m y<m x->Inv y e' h'->R y (go Φ fin L .normal ⟨e',h'⟩))->R x (go Φ fin (.c b::L) .normal ⟨e,h⟩)):
  ∀x e h,Inv x e h->R x (go Φ fin (.c (.loop b)::K) .normal ⟨e,h⟩):=by
 have key:∀n x e h,m x<=n->Inv x e h->R x (go Φ fin (.c (.loop b)::K) .normal ⟨e,h⟩):=by
  intro n
  induction n with
  | zero=>
   intro x e h hn hi;rw [qar];exact step x e h _ (fun j s=>by simp) hi fun y e' h' hlt=>by omega
  | succ n ih=>
   intro x e h hn hi;rw [qar];exact step x e h _ (fun j s=>by simp) hi fun y e' h' hlt hy=>ih y e' h' (by omega) hy
 intro x e h hi;exact key (m x) x e h (Qb _) hi
theorem qpf {Φ:FuncId->Option AFun} {β:Type} {fin:Option (Ex×St)->Option β} {b:Xv} {K:List Fr} {s:St} (Q:Option β->Prop)
  (h:∀L,(∀j s,go Φ fin L (.exit j) s=go Φ fin K (.exit j) s)->(∀s,go Φ fin L .normal s=go Φ fin (.c (.loop b)::K) .normal s)->Q (go Φ fin (.c b::L) .normal s)):
  Q (go Φ fin (.c (.loop b)::K) .normal s):=by
 rw [qar];exact h _ (fun j s=>by simp) (fun s=>rfl)
def DC (T:List (Nat×AO)) (p t:Nat) (a:Int) (x:Nat×Stt×List Int) (r:Option (Rt×AH)):Prop:=
 ∃N,t<N/\r=some (.val (.agg [.int .i64 a,.app 1 ((x.2.2++(qbq x.1 x.2.1).2).map c32) t]),
  ⟨(0,.row 2 [cSt (qbq x.1 x.2.1).1])::(T++[(p,.row 2 [[.int .i64 a,.app 1 ((x.2.2++(qbq x.1 x.2.1).2).map c32) t]]),(p+1,.row 2 [[.int .i64 a,.app 1 ((x.2.2++(qbq x.1 x.2.1).2).map c32) t]]),(t,.tok 1 (x.2.2.length+(qbq x.1 x.2.1).2.length))]),N⟩)
theorem qx7 (T:List (Nat×AO)) (p:Nat) (hp:1<=p) (hT:Tail T p) (hS:qao T=T) (a:Int) (t:Nat) (ht:p+1<t) (k:Nat) (s:Stt) (acc:List Int) (hb:okB s.b) (hk:acc.length+k<=255) (e:Env) (N:Nat) (hN:t<N)
  (h0:look 0 e=some (.ptr 0 2 0 0)) (h2:look 2 e=some (.ptr p 2 0 0)) (h3:look 3 e=some (.ptr (p+1) 2 0 0)) (h4:look 4 e=some (.int .u32 k)):
  DC T p t a (k,s,acc) (go Φ (finC [.cell 2 true 2]) [.c (.loop c_193_l0),.b 0,.c c_193_k1] .normal
   ⟨e,⟨(0,.row 2 [cSt s])::(T++[(p,.row 2 [[.int .i64 0,.Xu 1 []]]),(p+1,.row 2 [[.int .i64 a,.app 1 (acc.map c32) t]]),(t,.tok 1 acc.length)]),N⟩⟩):=by
 refine qhw (fun x:Nat×Stt×List Int=>x.1) (fun x e h=>okB x.2.1.b/\x.2.2.length+x.1<=255/\look 0 e=some (.ptr 0 2 0 0)/\look 2 e=some (.ptr p 2 0 0)/\look 3 e=some (.ptr (p+1) 2 0 0)/\look 4 e=some (.int .u32 x.1)/\
  ∃N,t<N/\h=⟨(0,.row 2 [cSt x.2.1])::(T++[(p,.row 2 [[.int .i64 0,.Xu 1 []]]),(p+1,.row 2 [[.int .i64 a,.app 1 (x.2.2.map c32) t]]),(t,.tok 1 x.2.2.length)]),N⟩) (DC T p t a) ?_ (k,s,acc) e _ ⟨hb,hk,h0,h2,h3,h4,N,hN,rfl⟩
 rintro ⟨k,s,acc⟩ e _ L hL ⟨hb,hk,h0,h2,h3,h4,N,hN,rfl⟩ ih;simp only at hb hk h4 ih;have hpp:=hT p (Qb _);have hp1:=hT (p+1) (by omega);have htt:=hT t (by omega);have p0:¬(0=p):=by omega
 have p0':¬(p=0):=by omega
 have t0:¬(0=t):=by omega
 have t1:¬(p=t):=by omega
 have t2:¬(p+1=t):=by omega
 have hNr:=hT (N+27) (by omega);have e1:¬(p=N+27):=by omega
 have e2:¬(p+1=N+27):=by omega
 have e3:¬(t=N+27):=by omega
 cases k with
 | zero=>
  refine ⟨N,hN,?_⟩;simp [c_193_l0,c_193_k1,qbq,qat,h0,h2,h3,h4,hL,hpp,hp1,htt,p0,p0',t0,t1,t2]
 | succ k=>
  have q:(0:Int)<(k:Int)+1:=by omega
  by_cases z:s.e=0
  rotate_left
  ·refine ⟨N,hN,?_⟩;simp [c_193_l0,c_193_k1,qhl z,qat,h0,h2,h3,h4,hL,hpp,hp1,htt,p0,p0',t0,t1,t2,z,q]
  have hnum:=qku s hb;simp only [qat,z] at hnum;have ha:=qzw a acc t;have hw:IntKind.wrap .u32 (k:Int)=(k:Int):=qcp (by omega);have hlen:((acc.length:Nat)+1)*4<=70368744177664:=by omega
  have:=ih (k,(rdN 4 s).1,acc++[(rdN 4 s).2]);simp only [DC,qjn z] at this ⊢;simp [c_193_l0,qat,h0,h2,h3,h4,hL,hpp,hp1,htt,p0,p0',t0,t1,t2,z,q,hnum,ha,hS,qca,hw,hNr,e1,e2,e3,hlen];refine Exists.imp (fun N2 g=>⟨g.1,g.2.trans (by simp [qat];omega)⟩) (this _ _ (QAt k) ⟨qbd hb,by simp;omega,by simp [h0],by simp [h2],by simp [h3],by simp,N+27+1,by omega,by simp [qat,qmv]⟩)
def ArgV (X:AV) (l:List Int):Prop:=(X= .Xu 1 []/\l=[])\/∃t,X= .app 1 (l.map c32) t
structure HExt (p:Nat) (E:List (Nat×AO)) (N:Nat):Prop where
 le:p<=N
 lo:∀j,j<p->look j E=none
 hi:Tail E N
 sw:qao E=E
def DQ (T:List (Nat×AO)) (p:Nat) (a:Int) (n:Nat) (s:Stt) (r:Option (Rt×AH)):Prop:=
 ∃X E N,r=some (.val (.agg [.int .i64 a,X]),⟨(0,.row 2 [cSt (qbq n s).1])::(T++E),N⟩)/\HExt p E N/\ArgV X (qbq n s).2
theorem qace {T:List (Nat×AO)} {p t:Nat} {a:Int} {m:Nat} {s:Stt} {r:Option (Rt×AH)} (ht:p+1<t) (z:s.e=0) (h:DC T p t a (m,(rdN 4 s).1,[(rdN 4 s).2]) r):DQ T p a (m+1) s r:=by
 obtain ⟨N,h1,h2⟩:=h;refine ⟨_,[(p,.row 2 [[.int .i64 a,.app 1 (([(rdN 4 s).2]++(qbq m (rdN 4 s).1).2).map c32) t]]),(p+1,.row 2 [[.int .i64 a,.app 1 (([(rdN 4 s).2]++(qbq m (rdN 4 s).1).2).map c32) t]]),(t,.tok 1 (1+(qbq m (rdN 4 s).1).2.length))],N,h2.trans (by simp [qjn z];rfl),⟨by omega,?_,?_,by simp⟩,.inr ⟨t,by simp [qjn z]⟩⟩
 ·intro j hj;have:¬p=j:=by omega
  have:¬p+1=j:=by omega
  have:¬t=j:=by omega
  simp [*]
 ·intro j hj;have:¬p=j:=by omega
  have:¬p+1=j:=by omega
  have:¬t=j:=by omega
  simp [*]
theorem qwj {T:List (Nat×AO)} {p:Nat} {a:Int} {n:Nat} {s:Stt} (h:qbq n s=(s,[])):
  DQ T p a n s (some (.val (.agg [.int .i64 a,.Xu 1 []]),⟨(0,.row 2 [[.slice 1 (s.b.map c8),.int .i64 s.e]])::(T++[(p,.row 2 [[.int .i64 a,.Xu 1 []]]),(p+1,.row 2 [[.int .i64 a,.Xu 1 []]])]),p+1+1⟩)):=by
 refine ⟨.Xu 1 [],[(p,.row 2 [[.int .i64 a,.Xu 1 []]]),(p+1,.row 2 [[.int .i64 a,.Xu 1 []]])],p+1+1,by simp [h,qat],⟨by omega,?_,?_,by simp⟩,.inl ⟨rfl,by simp [h]⟩⟩
 ·intro j hj;have:¬p=j:=by omega
  have:¬p+1=j:=by omega
  simp [*]
 ·intro j hj;have:¬p=j:=by omega
  have:¬p+1=j:=by omega
  simp [*]
theorem dcall (s:Stt) (hb:okB s.b) (T:List (Nat×AO)) (p:Nat) (hp:1<=p) (hT:Tail T p) (hS:qao T=T):
  DQ T p (rdN 2 s).2 (rdN 1 (rdN 2 s).1).2.toNat (rdN 1 (rdN 2 s).1).1 (qah Φ f_193 [.ptr 0 2 0 0] ⟨(0,.row 2 [cSt s])::T,p⟩):=by
 have hn2:=qx9 s hb;have hb2:okB (rdN 2 s).1.b:=qbd hb;have hn1:=qsq _ hb2;have hb1:okB (rdN 1 (rdN 2 s).1).1.b:=qbd hb2;have hrng:=qha hb2;have hr2:=qqx hb;have hw2:IntKind.wrap .i64 (rdN 2 s).2=(rdN 2 s).2:=qbb (by omega) (by omega);obtain ⟨n,hn⟩:∃n:Nat,(rdN 1 (rdN 2 s).1).2=(n:Int):=⟨_,(QCm hrng.1).symm⟩;rw [hn] at hn1 hrng;have hpp:=hT p (Qb _);have hp1:=hT (p+1) (by omega);have p0:¬(0=p):=by omega
 have p0':¬(p=0):=by omega
 rw [qau (fn:=c_193) rfl rfl,hn,QCd];simp only [qat] at hn1 hn2;generalize (rdN 1 (rdN 2 s).1).1=s1 at*;generalize (rdN 2 s).2=a at*;simp [c_193,qat,hn2,hn1,hw2,hpp,hp1,p0,p0'];refine qpf (DQ T p a n s1) fun L hL hX=>?_
 by_cases q:n=0
 ·subst q;simp [c_193_l0,c_193_k1,hL,hpp,hp1,p0,p0'];exact qwj (by simp [qbq])
 obtain ⟨m,rfl⟩:∃m,n=m+1:=⟨n - 1,by omega⟩;have q':(0:Int)<(m:Int)+1:=by omega
 by_cases z:s1.e=0
 rotate_left
 ·simp [c_193_l0,c_193_k1,hL,hpp,hp1,p0,p0',q',z];exact qwj (qhl z)
 have hnum:=qku _ hb1;simp only [qat,z] at hnum;have ha:=qxn a;have hw:IntKind.wrap .u32 (m:Int)=(m:Int):=qcp (by omega);have hp29:=hT (p+1+1+27) (by omega);have e1:¬(p=p+1+1+27):=by omega
 have e2:¬(p+1=p+1+1+27):=by omega
 have e3:¬(p+1+1+27=p):=by omega
 have e4:¬(p+1+1+27=p+1):=by omega
 simp [c_193_l0,qat,hpp,hp1,p0,p0',z,q',hnum,ha,hS,qca,hw,hp29,e1,e2,e3,e4];rw [hX];refine qace (t:=p+1+1+27) (by omega) z ?_;have key:=fun e N hN=>qx7 T p hp hT hS a (p+1+1+27) (by omega) m (rdN 4 s1).1 [(rdN 4 s1).2] (qbd hb1) (by simp;omega) e N hN
 simp only [qat,qmv,QBj,QBl] at key;exact key _ (p+1+1+27+1) (by omega) (by simp) (by simp) (by simp) (by simp)
end Go.Av
