/-
  Lemmas for the law.
-/
import Derived.Test.YtjdbnnnakpacjaaGreatX4
import Derived.Test.YtjdbnnnakpacjaaGreatW27K
import Derived.Test.YtjdbnnnakpacjaaGreatW28K
set_option linter.unusedVariables false
set_option linter.unusedSimpArgs false
set_option linter.constructorNameAsVariable false
namespace Go.Av
set_option maxRecDepth 4000
structure Ren where
 t:Int
 old:Int
 new:Int
def Ren.c (x:Ren):List AV:=[.int .i64 x.t,.int .i64 x.old,.int .i64 x.new]
theorem Xc.eq_iff (x y:Xc):x=y↔x.kind=y.kind/\x.table=y.table/\x.id=y.id/\x.entry=y.entry/\x.call=y.call:=by
 cases x;cases y;simp
structure CfgF (c:Xf):Prop where
 rl:c.rows.length<2^40
 rs:∀l∈c.rows,l.length<2^40/\∀r∈l,r.entry.sm
 dl:c.Xq.length<2^40
 ds:∀x∈c.Xq,x.args.length<2^40
 gl:c.Xm.length<2^40
 gs:∀x∈c.Xm,x.length<2^40
structure UndS (u:Xc):Prop where
 op:OpS u
 pos:u.kind=1->0<u.id
 zero:u.kind=4->u.id=0
theorem qalb (p:Prg) (c:Xf) (o:Xc) (l:List Xc):xoF p c (o::l)=xoF p (xoC p c o) l:=rfl
theorem qy1 (p:Prg) (c:Xf) (l:List Xc):cfgN p c l l.length=xoF p c l:=by unfold cfgN;rw [QAh]
def be2 (v:Int):List Int:=[v / 256 % 256,v % 256]
def be4 (v:Int):List Int:=[v / 16777216 % 256,v / 65536 % 256,v / 256 % 256,v % 256]
def qdd (n:Int):Bool:=decide (0<=n)&&decide (n<=65535)
def idI (n:Int):Bool:=decide (0<=n)&&decide (n<=2147483647)
def qcy (c:Xb):Bool:=qdd c.action&&decide (c.args.length<=255)
def opE (o:Xc):Bool:=qdd o.table&&(if o.kind=1 then qdd o.entry.Xt&&(decide (o.entry.keys.length<=255)&&qcy o.entry.call) else if o.kind=2 then idI o.id&&qcy o.call else if o.kind=3 then idI o.id else if o.kind=4 then qcy o.call else false)
def keyB (k:Xi):List Int:=be4 k.value++be4 k.mask
def qc4 (l:List Int):List Int:=(l.map be4).flatten
def qce (l:List Xi):List Int:=(l.map keyB).flatten
def qde (c:Xb):List Int:=be2 c.action++((c.args.length:Int)::qc4 c.args)
def opB (o:Xc):List Int:=o.kind::(be2 o.table++(if o.kind=1 then be2 o.entry.Xt++((o.entry.keys.length:Int)::(qce o.entry.keys++qde o.entry.call)) else if o.kind=2 then be4 o.id++qde o.call else if o.kind=3 then be4 o.id else qde o.call))
def opsB (l:List Xc):List Int:=(l.map opB).flatten
def encB (l:List Xc):List Int:=if l.length<=64/\∀o∈l,opE o=true then (l.length:Int)::opsB l else []
@[ext] structure Stt where
 b:List Int
 e:Int
def num:Nat->List Int->Int
 | 1,a::_=>a
 | 2,a::b::_=>256*a+b
 | 4,a::b::c::d::_=>256*(256*(256*a+b)+c)+d
 | _,_=>0
def rdN (n:Nat) (s:Stt):Stt×Int:=if s.e=0 then (if s.b.length<n then (⟨s.b,3⟩,0) else (⟨s.b.drop n,0⟩,num n s.b)) else (s,0)
def rdI (s:Stt):Stt×Int:=(if (rdN 4 s).2>2147483647 then ⟨(rdN 4 s).1.b,5⟩ else (rdN 4 s).1,(rdN 4 s).2)
def qk3:Nat->Stt->Stt×List Int
 | 0,s=>(s,[])
 | n+1,s=>if s.e=0 then ((qk3 n (rdN 4 s).1).1,(rdN 4 s).2::(qk3 n (rdN 4 s).1).2) else (s,[])
def qr4 (s:Stt):Stt×Xb:=
 let p:=rdN 2 s
 let q:=rdN 1 p.1
 let r:=qk3 q.2.toNat q.1
 (r.1,⟨p.2,r.2⟩)
def okK (k:Xi):Prop:=(0<=k.value/\k.value<=4294967295)/\(0<=k.mask/\k.mask<=4294967295)
def okC (c:Xb):Prop:=∀x∈c.args,0<=x/\x<=4294967295
def okO (o:Xc):Prop:=(∀x∈o.entry.keys,okK x)/\okC o.entry.call/\okC o.call
def okB (l:List Int):Prop:=∀x∈l,0<=x/\x<=255
theorem rd_e {n:Nat} {s:Stt} (h:(rdN n s).1.e=0):s.e=0:=by
 unfold rdN at h;split at h
 ·assumption
 ·exact h
theorem rd_in {n:Nat} {s:Stt} (h:(rdN n s).1.e=0):n<=s.b.length/\rdN n s=(⟨s.b.drop n,0⟩,num n s.b):=by
 have he:=rd_e h;unfold rdN at h ⊢;rw [QAa he] at h ⊢;by_cases q:s.b.length<n
 ·rw [QAa q] at h;simp at h
 ·rw [QA q];exact ⟨by omega,rfl⟩
theorem qz1 {l:List Int} (h:okB l) (n:Nat):okB (l.drop n):=fun x hx=>h x (QAq hx)
theorem qagh {s:Stt} (hb:okB s.b) (h:(rdN 4 s).1.e=0):s.b=be4 (rdN 4 s).2++(rdN 4 s).1.b/\0<=(rdN 4 s).2/\(rdN 4 s).2<=4294967295:=by
 obtain ⟨h1,h2⟩:=rd_in h;rw [h2]
 match hs:s.b,h1 with
 | a::b::c::d::l,_=>
  rw [hs] at hb;have ha:=hb a (by simp);have hb':=hb b (by simp);have hc:=hb c (by simp);have hd:=hb d (by simp);simp [num,be4];omega
def fnv1 (h c:Int):Int:=ixor .u32 h c*16777619 % 4294967296
def fnvL (h:Int) (b:List Int):Int:=b.foldl fnv1 h
def fnv (b:List Int):Int:=fnvL 2166136261 b
def frB (b:List Int):List Int:=be4 b.length++(b++be4 (fnv (be4 b.length++b)))
def unfB (b:List Int):List Int×Int×Int:=
 if b.length<8 then ([],0,3) else
 if (b.length:Int) - 8<num 4 b then ([],0,3) else
 if fnv (b.take (4+(num 4 b).toNat))≠num 4 (b.drop (4+(num 4 b).toNat)) then ([],0,24) else ((b.drop 4).take (num 4 b).toNat,num 4 b+8,0)
theorem qzf (h c:Int):0<=fnv1 h c/\fnv1 h c<=4294967295:=by unfold fnv1;omega
theorem qrm:∀(b:List Int) (h:Int),0<=h/\h<=4294967295->0<=fnvL h b/\fnvL h b<=4294967295
 | [],_,hh=>hh
 | c::b,h,_=>qrm b (fnv1 h c) (qzf h c)
theorem qab8 (b:List Int):0<=fnv b/\fnv b<=4294967295:=qrm b _ (by omega)
theorem qua {v:Int} (h:0<=v/\v<=4294967295) (r:List Int):num 4 (be4 v++r)=v:=by
 simp [num,be4];omega
theorem qz0 {b:List Int} (hb:okB b) (h:4<=b.length):0<=num 4 b/\num 4 b<=4294967295:=by
 match b,h with
 | x::y::z::w::l,_=>
  have h1:=hb x (by simp);have h2:=hb y (by simp);have h3:=hb z (by simp);have h4:=hb w (by simp);simp [num];omega
theorem qeh (v:Int):(be4 v).length=4:=rfl
theorem qll (b:List Int):(frB b).length=b.length+8:=by simp [frB,qeh];omega
theorem qahg (b r:List Int) (h:(b.length:Int)<=4294967295):unfB (frB b++r)=(b,(b.length:Int)+8,0):=by
 have hl:(frB b++r).length=b.length+8+r.length:=by rw [QAd,qll]
 have hn:num 4 (frB b++r)=b.length:=by
  rw [frB,QAl,qua (by omega)]
 have ht:(frB b++r).take (4+b.length)=be4 b.length++b:=by
  rw [frB,<- QAl,QAl,QBk (by simp [qeh])];exact Qo (by simp [qeh]<;>omega)
 have hd:(frB b++r).drop (4+b.length)=be4 (fnv (be4 b.length++b))++r:=by
  rw [frB,<- QAl,QAl,List.drop_append_of_le_length (by simp [qeh])];rw [List.drop_of_length_le (by simp [qeh]<;>omega)];rfl
 have hb:((frB b++r).drop 4).take b.length=b:=by
  rw [frB,QAl,List.drop_append_of_le_length (by simp [qeh]),List.drop_of_length_le (by simp [qeh]),QAo,QAl,QBk (Qb _)];exact Qo (Qb _)
 unfold unfB;rw [QA (by omega),hn,QA (by omega),Int.toNat_natCast,ht,hd,qua (qab8 _),QA (by simp),hb]
structure LgV where
 c:Xf
 b:List Int
 n:Nat
def cmt (p:Prg) (g:LgV) (l:List Xc):LgV:=⟨xoF p g.c l,g.b++frB (encB l),g.n+1⟩
theorem PrgV.acts {p:Prg} (v:PrgV p):p.actions.length<=16:=by
 have h:=v.lim;unfold limD at h
 repeat' split at h
 all_goals first | omega | cases h
def frs (G:List (List Xc)):List Int:=(G.map fun l=>frB (encB l)).flatten
theorem qakp (l:List Xc) (G:List (List Xc)):frs (l::G)=frB (encB l)++frs G:=rfl
theorem qzb {l:List Xc} (h:∀o∈l,opE o=true) (h64:l.length<=64):(encB l).length<=300000:=by
 unfold encB;rw [QAa ⟨h64,h⟩];have:∀(l:List Xc),(∀o∈l,opE o=true)->(opsB l).length<=4000*l.length:=by
  intro l
  induction l with
  | nil=>simp [opsB]
  | cons x l ih=>
   intro h;have h1:=ih fun o ho=>h o (by simp [ho])
   have h2:(opB x).length<=4000:=by
    have hx:=h x (by simp);have hc:∀c:Xb,qcy c=true->(qde c).length<=1100:=by
     intro c hc;have ha:∀l:List Int,(qc4 l).length=4*l.length:=by
      intro l
      induction l with
      | nil=>rfl
      | cons y l ih=>simp [qc4,be4] at ih ⊢;omega
     simp [qcy] at hc;simp [qde,be2,ha];omega
    have hk:∀l:List Xi,(qce l).length=8*l.length:=by
     intro l
     induction l with
     | nil=>rfl
     | cons y l ih=>simp [qce,keyB,be4] at ih ⊢;omega
    unfold opE at hx;unfold opB;by_cases k1:x.kind=1
    ·simp [k1] at hx;have:=hc _ hx.2.2.2;simp [k1,be2,hk];omega
    by_cases k2:x.kind=2
    ·simp [k2] at hx;have:=hc _ hx.2.2;simp [k2,be2,be4];omega
    by_cases k3:x.kind=3
    ·simp [k3,be2,be4]
    by_cases k4:x.kind=4
    ·simp [k4] at hx;have:=hc _ hx.2;simp [k4,be2];omega
    ·simp [k1,k2,k3,k4] at hx
   simp [opsB] at h1 ⊢;omega
 have:=this l h;simp;omega
def cSt (s:Stt):List AV:=[.slice 1 (s.b.map c8),.int .i64 s.e]
theorem qm6 (s:Stt):cSt s=[.slice 1 (s.b.map c8),.int .i64 s.e]:=by simp [cSt]
theorem c8e (x:Int):c8 x=[.int .u8 x]:=by simp [c8]
theorem qrw (b:List Int) (h:3<b.length):num 4 b=256*(256*(256*b[0]+b[1])+b[2])+b[3]:=by
 match b,h with
 | a::c::d::e::l,_=>simp [num]
theorem qdm {x:Int} (h:0<=x/\x<=4294967295):IntKind.wrap .u32 x=x:=by
 unfold IntKind.wrap;simp [IntKind.bits,IntKind.signed];omega
theorem qadb {s:Stt} (hb:okB s.b):0<=(rdN 4 s).2/\(rdN 4 s).2<=4294967295:=by
 by_cases h:(rdN 4 s).1.e=0
 ·exact (qagh hb h).2
 ·have:(rdN 4 s).2=0:=by
   unfold rdN at h ⊢;split
   ·split
    ·rfl
    ·rename_i q1 q2;rw [QAa q1,QA q2] at h;simp at h
   ·rfl
  omega
def cC (c:Xb):List AV:=[.int .i64 c.action,.slice 1 (c.args.map c32)]
theorem cC_e (c:Xb):cC c=[.int .i64 c.action,.slice 1 (c.args.map c32)]:=by simp [cC]
theorem qus (x:Int):c32 x=[.int .u32 x]:=by simp [c32]
theorem Xi.ceJ (x:Xi):Xi.c x=[.int .u32 x.value,.int .u32 x.mask]:=by simp [Xi.c]
theorem Xc.ce (x:Xc):Xc.c x=[.int .i64 x.kind,.int .i64 x.table,.int .i64 x.id,.slice 2 (x.entry.keys.map Xi.c),.int .i64 x.entry.Xt,.int .i64 x.entry.call.action,.slice 1 (x.entry.call.args.map c32),.int .i64 x.call.action,.slice 1 (x.call.args.map c32)]:=by simp [Xc.c]
theorem qia {v x:Int} (hv:0<=v/\v<16777216) (hx:0<=x/\x<=255):ior .u32 (ishl .u32 v 8) x=256*v+x:=by
 obtain ⟨n,rfl⟩:∃n:Nat,v=(n:Int):=⟨v.toNat,by omega⟩;obtain ⟨b,rfl⟩:∃b:Nat,x=(b:Int):=⟨x.toNat,by omega⟩;have e1:ishl .u32 (n:Int) 8=((n*256:Nat):Int):=by
  unfold ishl;have:((n:Int)*2^(min (8:Int).toNat (IntKind.bits .u32)))=((n*256:Nat):Int):=by
   have:(2:Int)^(min (8:Int).toNat (IntKind.bits .u32))=256:=by decide
   rw [this];omega
  rw [this,qdm (by omega)]
 rw [e1];unfold ior;have h2:(BitVec.ofInt (IntKind.bits .u32) ((n*256:Nat):Int) ||| BitVec.ofInt (IntKind.bits .u32) (b:Int)).toNat=256*n+b:=by
  rw [BitVec.toNat_or];rw [BitVec.ofInt_natCast,BitVec.ofInt_natCast,QC,QC];have hbits:IntKind.bits .u32=32:=rfl;rw [hbits,QBv (by omega),QBv (by omega)];have:=Nat.shiftLeft_add_eq_or_of_lt (b:=b) (i:=8) (by omega) n;rw [Nat.shiftLeft_eq] at this;rw [show n*256=n*2^8 by rfl,<- this];omega
 rw [h2,qdm (by omega)];omega
theorem dnum4 (s:Stt) (hb:okB s.b) (T:List (Nat×AO)) (N:Nat):qah Φ f_122 [.ptr 0 2 0 0,.int .i64 4] ⟨(0,.row 2 [cSt s])::T,N⟩=some (.val (.int .u32 (rdN 4 s).2),⟨(0,.row 2 [cSt (rdN 4 s).1])::T,N⟩):=by
 rw [qav (fn:=c_122) rfl rfl];by_cases q:s.e=0
 rotate_left
 ·simp [c_122,qm6,rdN,q]
 by_cases q1:s.b.length<4
 ·have q1':(s.b.length:Int)<4:=by omega
  simp [c_122,qm6,rdN,q,q1,q1']
 obtain ⟨b,e⟩:=s;simp only at q q1 hb;have q2:¬((b.length:Int)<4):=by omega
 have q3:(4:Int)<=b.length:=by omega
 have q4:4<=b.length:=by omega
 have i0:0<b.length:=by omega
 have h0:=hb _ (Qd i0);have w0:IntKind.wrap .u32 b[0]=b[0]:=qdm (by omega);have i1:1<b.length:=by omega
 have h1:=hb _ (Qd i1);have w1:IntKind.wrap .u32 b[1]=b[1]:=qdm (by omega);have i2:2<b.length:=by omega
 have h2:=hb _ (Qd i2);have w2:IntKind.wrap .u32 b[2]=b[2]:=qdm (by omega);have i3:3<b.length:=by omega
 have h3:=hb _ (Qd i3);have w3:IntKind.wrap .u32 b[3]=b[3]:=qdm (by omega);have k0:IntKind.wrap .i64 0=0:=by decide
 have k1:IntKind.wrap .i64 1=1:=by decide
 have k2:IntKind.wrap .i64 2=2:=by decide
 have k3:IntKind.wrap .i64 3=3:=by decide
 have k4:IntKind.wrap .i64 4=4:=by decide
 simp [c_122,qm6,rdN,q,q1,q2,q3,q4,qrw b i3];rw [qas];simp [c_122_l0,c8e,k0,k1,k2,k3,k4,i0,w0,i1,w1,i2,w2,i3,w3,q4];rw [qas];simp [c_122_l0,c8e,k0,k1,k2,k3,k4,i0,w0,i1,w1,i2,w2,i3,w3,q4];rw [qas];simp [c_122_l0,c8e,k0,k1,k2,k3,k4,i0,w0,i1,w1,i2,w2,i3,w3,q4];rw [qas];simp [c_122_l0,c8e,k0,k1,k2,k3,k4,i0,w0,i1,w1,i2,w2,i3,w3,q4];rw [qas];simp [c_122_l0,c_122_k1,q3,q4];have x0:ior .u32 (ishl .u32 0 8) b[0]=b[0]:=by rw [qia (by omega) (by omega)];omega
 have x1:ior .u32 (ishl .u32 (b[0]) 8) b[1]=256*(b[0])+b[1]:=qia (by omega) (by omega);have x2:ior .u32 (ishl .u32 (256*(b[0])+b[1]) 8) b[2]=256*(256*(b[0])+b[1])+b[2]:=qia (by omega) (by omega);have x3:ior .u32 (ishl .u32 (256*(256*(b[0])+b[1])+b[2]) 8) b[3]=256*(256*(256*(b[0])+b[1])+b[2])+b[3]:=qia (by omega) (by omega);have fin:ior .u32 (ishl .u32 (ior .u32 (ishl .u32 (ior .u32 (ishl .u32 (ior .u32 (ishl .u32 0 8) b[0]) 8) b[1]) 8) b[2]) 8) b[3]=256*(256*(256*(b[0])+b[1])+b[2])+b[3]:=by rw [x0,x1,x2,x3]
 exact ⟨fin,Qo (by simp)⟩
theorem dreq (s:Stt) (ok:Bool) (c:Int) (T:List (Nat×AO)) (N:Nat):qah Φ f_123 [.ptr 0 2 0 0,.bool ok,.int .i64 c] ⟨(0,.row 2 [cSt s])::T,N⟩=
  some (.val (.tup []),⟨(0,.row 2 [cSt (if s.e=0/\ok=false then ⟨s.b,c⟩ else s)])::T,N⟩):=by
 rw [qav (fn:=c_123) rfl rfl];by_cases q:s.e=0
 ·cases ok<;>simp [c_123,qm6,q]
 ·cases ok<;>simp [c_123,qm6,q]
theorem qaac {n:Nat} {s:Stt} (h:(rdN n s).1.e≠0):(rdN n s).2=0:=by
 unfold rdN at h ⊢;split
 ·split
  ·rfl
  ·rename_i q1 q2;rw [QAa q1,QA q2] at h;simp at h
 ·rfl
theorem did (s:Stt) (hb:okB s.b) (T:List (Nat×AO)) (N:Nat):qah Φ f_194 [.ptr 0 2 0 0] ⟨(0,.row 2 [cSt s])::T,N⟩=some (.val (.int .i64 (rdI s).2),⟨(0,.row 2 [cSt (rdI s).1])::T,N⟩):=by
 rw [qav (fn:=c_194) rfl rfl];have h4:=dnum4 s hb T N;have hr:=qadb hb;have hw:IntKind.wrap .i64 (rdN 4 s).2=(rdN 4 s).2:=qbu (by omega) (by omega);have hq:=dreq (rdN 4 s).1 (decide ((rdN 4 s).2<=2147483647)) 5 T N;have e:(if (rdN 4 s).1.e=0/\decide ((rdN 4 s).2<=2147483647)=false then (⟨(rdN 4 s).1.b,5⟩:Stt) else (rdN 4 s).1)=(rdI s).1:=by
  simp only [rdI];by_cases z:(rdN 4 s).1.e=0
  ·by_cases y:(rdN 4 s).2<=2147483647
   ·have y':¬(2147483647<(rdN 4 s).2):=by omega
    simp [z,y,y']
   ·simp [z,y]
  ·have:=qaac z;simp [z,this]
 rw [e] at hq;simp [c_194,h4,hq,hw,rdI]
theorem qf9 {α:Type} (f:α->α->Bool):∀l:List α,(∀x∈l,f x x=true)->eqL f l l=true
 | [],_=>by simp [eqL]
 | x::r,h=>by simp [eqL,h x (QBl ..),qf9 f r (fun y hy=>h y (QAr _ hy))]
theorem qec (n:Nat) (k:IntKind) (v:Int):avEq (n+1) (.int k v) (.int k v)=true:=by unfold avEq;simp
theorem qwq (z:Nat) (cs:List AV) (h:∀x∈cs,avEq 40 x x=true):aoEq (some (.row z [cs])) (some (.row z [cs]))=true:=by
 have h1:=qf9 (avEq 40) cs h;unfold aoEq;simp [qaf,eqL,h1]
theorem qkw {Φ:FuncId->Option AFun} {β:Type} {fin:Option (Ex×St)->Option β} {σ:Type} (m:σ->Nat) (Inv:σ->Env->AH->Prop) (R:σ->Option β->Prop) {b:Xv} {K:List Fr}
  (step:∀x e h L,(∀j s,go Φ fin L (.exit j) s=go Φ fin K (.exit j) s)->Inv x e h->(∀y e' h',m y<m x->Inv y e' h'->R y (go Φ fin L .normal ⟨e',h'⟩))->R x (go Φ fin (.c b::L) .normal ⟨e,h⟩)):
  ∀x e h,Inv x e h->R x (go Φ fin (.c (.loop b)::K) .normal ⟨e,h⟩):=by
 have key:∀n x e h,m x<=n->Inv x e h->R x (go Φ fin (.c (.loop b)::K) .normal ⟨e,h⟩):=by
  intro n
  induction n with
  | zero=>
   intro x e h hn hi;rw [qas];exact step x e h _ (fun j s=>by simp) hi fun y e' h' hlt=>by omega
  | succ n ih=>
   intro x e h hn hi;rw [qas];exact step x e h _ (fun j s=>by simp) hi fun y e' h' hlt hy=>ih y e' h' (by omega) hy
 intro x e h hi;exact key (m x) x e h (Qb _) hi
structure HExt (p:Nat) (E:List (Nat×AO)) (N:Nat):Prop where
 le:p<=N
 lo:∀j,j<p->look j E=none
 hi:Tail E N
 sw:qaz E=E
theorem qaix (s:Stt):(qr4 s).1=(qk3 (rdN 1 (rdN 2 s).1).2.toNat (rdN 1 (rdN 2 s).1).1).1:=rfl
theorem qah1 (s:Stt):(qr4 s).2.args=(qk3 (rdN 1 (rdN 2 s).1).2.toNat (rdN 1 (rdN 2 s).1).1).2:=rfl
theorem qaiw (s:Stt):(qr4 s).2.action=(rdN 2 s).2:=rfl
theorem Tail.three {T E:List (Nat×AO)} {p N:Nat} (hT:Tail T p) (a b:AO) (hE:Tail E N) (h:p+2<=N):Tail (T++(p,a)::(p+1,b)::E) N:=by
 intro j hj;have h1:=hT j (by omega);have h2:=hE j hj;have n1:¬p=j:=by omega
 have n2:¬p+1=j:=by omega
 simp [h1,h2,n1,n2]
theorem qax {t:Nat} {x y:AO}:∀{O:List (Nat×AO)},look t O=some x->look t (setl t y O)=some y
 | [],h=>by simp at h
 | (u,z)::r,h=>by
  by_cases hu:u=t
  ·subst hu;simp
  ·simp [hu] at h;simp [hu,qax h]
theorem qb6 {t j:Nat} {y:AO} (hj:j≠t):∀{O:List (Nat×AO)},look j (setl t y O)=look j O
 | []=>by simp
 | (u,z)::r=>by
  by_cases hu:u=t
  ·subst hu;have:¬u=j:=fun h=>hj h.symm
   simp [this]
  ·by_cases hv:u=j
   ·subst hv;simp [hu]
   ·simp [hu,hv,qb6 hj]
theorem qcx {t:Nat} {y z:AO}:∀{O:List (Nat×AO)},setl t z (setl t y O)=setl t z O
 | []=>by simp
 | (u,w)::r=>by
  by_cases hu:u=t
  ·subst hu;simp
  ·simp [hu,qcx]
theorem qfp {t:Nat} {x y:AO}:∀{O r:List (Nat×AO)},look t O=some x->setl t y (O++r)=setl t y O++r
 | [],_,h=>by simp at h
 | (u,w)::o,r,h=>by
  by_cases hu:u=t
  ·subst hu;simp
  ·simp [hu] at h;simp [hu,qfp h]
theorem qd6 {t N:Nat} {y:AO} {O:List (Nat×AO)} (h:Tail O N) (ht:t<N):Tail (setl t y O) N:=by
 intro j hj;rw [qb6 (by omega)];exact h j hj
theorem wr8u (v:Int):IntKind.wrap .u8 v=v % 256:=by simp [IntKind.wrap,IntKind.bits,IntKind.signed]
theorem ishr0 (v:Int):ishr .i64 v 0=v:=by
 unfold ishr;have:(2:Int)^(min (0:Int).toNat (IntKind.bits .i64))=1:=by decide
 rw [this,Int.fdiv_one]
theorem ishr8 (v:Int):ishr .i64 v 8=v / 256:=by
 unfold ishr;have:(2:Int)^(min (8:Int).toNat (IntKind.bits .i64))=256:=by decide
 rw [this,QAz _ (by decide)]
theorem qafp (v:Int):ishr .i64 v 16=v / 65536:=by
 unfold ishr;have:(2:Int)^(min (16:Int).toNat (IntKind.bits .i64))=65536:=by decide
 rw [this,QAz _ (by decide)]
theorem qafq (v:Int):ishr .i64 v 24=v / 16777216:=by
 unfold ishr;have:(2:Int)^(min (24:Int).toNat (IntKind.bits .i64))=16777216:=by decide
 rw [this,QAz _ (by decide)]
theorem qul {O:List (Nat×AO)} {N t:Nat} {E:List (List AV)} {v:Int} (h:look t O=some (.tok 1 E.length)) (hE:E.length<=1099511627776):
  qah Φ f_129 [.app 1 E t,.int .i64 v,.int .i64 2] ⟨O,N⟩=some (.val (.app 1 (E++[[.int .u8 (v / 256 % 256)],[.int .u8 (v % 256)]]) t),⟨setl t (.tok 1 (E.length+2)) O,N⟩):=by
 rw [qav (fn:=c_129) rfl rfl];have k1:IntKind.wrap .i64 1=1:=by decide
 have k0:IntKind.wrap .i64 0=0:=by decide
 have k8:IntKind.wrap .i64 8=8:=by decide
 have km:IntKind.wrap .i64 (-1)= -1:=by decide
 have l1:E.length+1<=70368744177664:=by omega
 have l2:E.length+1+1<=70368744177664:=by omega
 simp [c_129,k1];rw [qas];simp [c_129_l0,k0,k8,h,l1,wr8u];rw [qas];simp [c_129_l0,k0,km,qax h,l2,wr8u];rw [qas];simp [c_129_l0,c_129_k1];exact ⟨⟨by rw [ishr8],by rw [ishr0]⟩,qcx⟩
theorem qmy {O:List (Nat×AO)} {N t:Nat} {E:List (List AV)} {v:Int} (h:look t O=some (.tok 1 E.length)) (hE:E.length<=1099511627776):
  qah Φ f_129 [.app 1 E t,.int .i64 v,.int .i64 4] ⟨O,N⟩=some (.val (.app 1 (E++[[.int .u8 (v / 16777216 % 256)],[.int .u8 (v / 65536 % 256)],[.int .u8 (v / 256 % 256)],[.int .u8 (v % 256)]]) t),⟨setl t (.tok 1 (E.length+4)) O,N⟩):=by
 rw [qav (fn:=c_129) rfl rfl];have k3:IntKind.wrap .i64 3=3:=by decide
 have k2:IntKind.wrap .i64 2=2:=by decide
 have k1:IntKind.wrap .i64 1=1:=by decide
 have k0:IntKind.wrap .i64 0=0:=by decide
 have k8:IntKind.wrap .i64 8=8:=by decide
 have k16:IntKind.wrap .i64 16=16:=by decide
 have k24:IntKind.wrap .i64 24=24:=by decide
 have km:IntKind.wrap .i64 (-1)= -1:=by decide
 have l1:E.length+1<=70368744177664:=by omega
 have l2:E.length+1+1<=70368744177664:=by omega
 have l3:E.length+1+1+1<=70368744177664:=by omega
 have l4:E.length+1+1+1+1<=70368744177664:=by omega
 simp [c_129,k3];rw [qas];simp [c_129_l0,k2,k24,h,l1,wr8u];rw [qas];simp [c_129_l0,k1,k16,qax h,l2,wr8u,qcx];rw [qas];simp [c_129_l0,k0,k8,qax h,l3,wr8u,qcx];rw [qas];simp [c_129_l0,k0,km,qax h,l4,wr8u,qcx];rw [qas];simp [c_129_l0,c_129_k1];exact ⟨by rw [qafq],by rw [qafp],by rw [ishr8],by rw [ishr0]⟩
def AQ (t N:Nat) (E:List (List AV)) (r:Option (Rt×AH)):Prop:=
 ∃O' N',r=some (.val (.app 1 E t),⟨O',N'⟩)/\N<=N'/\Tail O' N'/\look t O'=some (.tok 1 E.length)
theorem qm1 {l:List Int} {i:Nat} (hi:i<l.length):qc4 (l.take (i+1))=qc4 (l.take i)++be4 l[i]:=by
 unfold qc4;rw [Qh hi,QBg,List.flatten_append];simp
theorem qhv:∀l:List Int,(qc4 l).length=4*l.length
 | []=>by simp [qc4]
 | x::l=>by
  have:=qhv l;have e:qc4 (x::l)=be4 x++qc4 l:=by simp [qc4]
  rw [e,QAd,this];simp [be4];omega
theorem qm3 (v:Int):(be4 v).map c8=[[.int .u8 (v / 16777216 % 256)],[.int .u8 (v / 65536 % 256)],[.int .u8 (v / 256 % 256)],[.int .u8 (v % 256)]]:=by simp [be4,c8e]
theorem qm2 (v:Int):(be2 v).map c8=[[.int .u8 (v / 256 % 256)],[.int .u8 (v % 256)]]:=by simp [be2,c8e]
theorem quk {N0 N t:Nat} {E:List (List AV)} {l:List Int} (ht:t<N) (hE:E.length<=549755814900) (hl:l.length<=255) (ho:∀x∈l,0<=x/\x<=4294967295) (hN0:N0<=N)
  (e:Env) (O:List (Nat×AO)) (hT:Tail O N) (h:look t O=some (.tok 1 E.length)) (h0:look 0 e=some (.app 1 E t)) (h19:look 19 e=some (.slice 1 (l.map c32))) (h20:look 20 e=some (.int .i64 l.length)) (h21:look 21 e=some (.int .i64 0)):
  AQ t N0 (E++(qc4 l).map c8) (go Φ (finC [.tmp 4]) [.c (.loop c_130_l0),.b 0,.c c_130_k1] .normal ⟨e,⟨O,N⟩⟩):=by
 refine qkw (fun i:Nat=>l.length - i) (fun i e h=>i<=l.length/\look 0 e=some (.app 1 (E++(qc4 (l.take i)).map c8) t)/\look 19 e=some (.slice 1 (l.map c32))/\look 20 e=some (.int .i64 l.length)/\look 21 e=some (.int .i64 i)/\
  ∃O,Tail O N/\look t O=some (.tok 1 (E++(qc4 (l.take i)).map c8).length)/\h=⟨O,N⟩) (fun _=>AQ t N0 (E++(qc4 l).map c8)) ?_ 0 e _ ⟨Qc _,by simp [h0,qc4],h19,h20,by simp [h21],O,hT,by simp [h,qc4],rfl⟩
 rintro i e _ L hL ⟨hi,h0,h19,h20,h21,O,hT,h,rfl⟩ ih;rcases Qv i l.length with hlt | hge
 ·have hw:=qap i (by omega);have hx:=ho _ (Qd hlt);have hx64:IntKind.wrap .i64 l[i]=l[i]:=qbu (by omega) (by omega);have hlen:(E++(qc4 (l.take i)).map c8).length<=1099511627776:=by
   rw [QAd,QAb,qhv,QAx];omega
  have h4:=qmy (N:=N) (v:=l[i]) h hlen;simp [c_130_l0,h0,h19,h20,h21,hlt,hL,qus,hx64,hw,h4];refine ih (i+1) _ _ (by omega) ⟨hlt,?_,by simp [h19,qus],by simp [h20],by simp,_,qd6 hT ht,?_,rfl⟩
  ·simp [qm1 hlt,qm3]
  ·rw [qax h];simp [qm1 hlt,be4];omega
 ·have hi':i=l.length:=by omega
  subst hi';simp [c_130_l0,c_130_k1,h0,h19,h20,h21,hL];refine ⟨O,N,by simp,hN0,hT,?_⟩;rw [h];simp
theorem quj {O:List (Nat×AO)} {N t:Nat} {E:List (List AV)} {c:Xb} (h:look t O=some (.tok 1 E.length)) (hT:Tail O N) (ht:t<N) (hE:E.length<=549755813888) (ha:c.args.length<=255) (ho:okC c):
  AQ t N (E++(qde c).map c8) (qah Φ f_130 [.app 1 E t,.agg (cC c)] ⟨O,N⟩):=by
 rw [qav (fn:=c_130) rfl rfl];have hN:=hT N (Qb _);have hw:IntKind.wrap .u8 (c.args.length:Int)=(c.args.length:Int):=by rw [wr8u];omega
 have h2:=qul (O:=O++[(N,.row 2 [cC c])]) (N:=N+1) (t:=t) (E:=E) (v:=c.action) (by rw [qay,h];rfl) (by omega);have hl:E.length+2+1<=70368744177664:=by omega
 have hne:¬N=t:=by omega
 have hne':¬t=N:=by omega
 simp only [cC_e,qfp h] at h2;simp [c_130,cC_e,hN,h2,qay,qax h,qb6 hne,qfp (qax h),qcx,hl,hw];have hl:=fun e h1 h2 h3 h4=>quk (N0:=N) (N:=N+1) (t:=t) (E:=E++[[.int .u8 (c.action / 256 % 256)],[.int .u8 (c.action % 256)],[.int .u8 c.args.length]]) (l:=c.args) (Nat.lt_succ_of_lt ht) (by rw [QAd];simp only [QAk,QAn];omega) ha ho (QBe N) e
  (setl t (.tok 1 (E.length+2+1)) O++[(N,.row 2 [[.int .i64 c.action,.slice 1 (c.args.map c32)]])]) ((qd6 hT ht).app _) (by rw [qay,qax h];simp) h1 h2 h3 h4
 have e:E++(qde c).map c8=(E++[[.int .u8 (c.action / 256 % 256)],[.int .u8 (c.action % 256)],[.int .u8 c.args.length]])++(qc4 c.args).map c8:=by
  simp [qde,be2,c8e]
 rw [e];exact hl _ (by simp) (by simp) (by simp) (by simp)
def opC1:Xv:=match c_64.body with | .seq a _=>a | c=>c
def opC2:Xv:=match c_64.body with | .seq _ (.seq a _)=>a | c=>c
def opC3:Xv:=match c_64.body with | .seq _ (.seq _ a)=>a | c=>c
theorem qaf2:c_64.body= .seq opC1 (.seq opC2 opC3):=rfl
theorem qtu (n z:Nat) (es:List (List AV)) (h:eqL (eqL (avEq n)) es es=true):avEq (n+1) (.slice z es) (.slice z es)=true:=by unfold avEq;simp [h]
theorem qabc (o:Xc):aoEq (some (.row 9 [Xc.c o])) (some (.row 9 [Xc.c o]))=true:=by
 apply qwq;intro x hx;have hk:∀l:List Xi,avEq 40 (.slice 2 (l.map Xi.c)) (.slice 2 (l.map Xi.c))=true:=by
  intro l;refine qtu 39 _ _ (qf9 _ _ ?_);intro x hx;obtain ⟨y,_,rfl⟩:=QAv.1 hx;rw [Xi.ceJ];exact qf9 _ _ (by simp;exact ⟨qec 38 _ _,qec 38 _ _⟩)
 have ha:∀l:List Int,avEq 40 (.slice 1 (l.map c32)) (.slice 1 (l.map c32))=true:=by
  intro l;refine qtu 39 _ _ (qf9 _ _ ?_);intro x hx;obtain ⟨y,_,rfl⟩:=QAv.1 hx;rw [qus];exact qf9 _ _ (by simp;exact qec 38 _ _)
 rw [Xc.ce] at hx;simp only [QAg,QAu,or_false] at hx;rcases hx with rfl | rfl | rfl | rfl | rfl | rfl | rfl | rfl | rfl
 case _=>exact qec 39 _ _
 case _=>exact qec 39 _ _
 case _=>exact qec 39 _ _
 case _=>exact hk _
 case _=>exact qec 39 _ _
 case _=>exact qec 39 _ _
 case _=>exact ha _
 case _=>exact qec 39 _ _
 case _=>exact ha _
def opT (o:Xc):List Int:=be2 o.table++(if o.kind=1 then be2 o.entry.Xt++((o.entry.keys.length:Int)::(qce o.entry.keys++qde o.entry.call)) else if o.kind=2 then be4 o.id++qde o.call else if o.kind=3 then be4 o.id else qde o.call)
theorem qaf1 (o:Xc):opB o=o.kind::opT o:=rfl
theorem ql6 {t z f:Nat}:∀{O:List (Nat×AO)},look t O=some (.tok z f)->look t (qaz O)=some (.tok z f)
 | [],h=>by simp at h
 | (u,w)::r,h=>by
  by_cases hu:u=t
  ·subst hu;simp at h;subst h;simp
  ·simp [hu] at h;have:=ql6 h;cases w<;>simp [hu,this]
theorem qlx {N:Nat}:∀{O:List (Nat×AO)},Tail O N->Tail (qaz O) N
 | [],h=>by simpa using h
 | (u,w)::r,h=>by
  have hr:Tail r N:=by
   intro j hj;have:=h j hj;by_cases hu:u=j
   ·subst hu;simp at this
   ·simpa [hu] using this
  have ih:=qlx hr;intro j hj;have hu:¬u=j:=by
   intro hu;subst hu;have:=h u hj;simp at this
  have:=ih j hj;cases w<;>simp [hu,this]
theorem qvp {l:List Xi} {i:Nat} (hi:i<l.length):qce (l.take (i+1))=qce (l.take i)++(be4 l[i].value++be4 l[i].mask):=by
 unfold qce;rw [Qh hi,QBg,List.flatten_append];simp [keyB]
theorem qhz:∀l:List Xi,(qce l).length=8*l.length
 | []=>by simp [qce]
 | x::l=>by
  have:=qhz l;have e:qce (x::l)=keyB x++qce l:=by simp [qce]
  rw [e,QAd,this];simp [keyB,be4];omega
theorem Tail.ltJ {O:List (Nat×AO)} {N t:Nat} {x:AO} (hT:Tail O N) (h:look t O=some x):t<N:=by
 rcases Qv t N with h1 | h1
 ·exact h1
 ·rw [hT t h1] at h;cases h
theorem qyt {N0 t p:Nat} {E:List (List AV)} {o:Xc} (hpt:p≠t) (hE:E.length<=274877916944) (hl:o.entry.keys.length<=255) (ho:∀x∈o.entry.keys,okK x) (ha:o.entry.call.args.length<=255) (ho2:okC o.entry.call)
  (e:Env) (O:List (Nat×AO)) (N:Nat) (hN0:N0<=N) (hT:Tail O N) (h:look t O=some (.tok 1 E.length)) (hp:look p O=some (.row 9 [Xc.c o]))
  (h0:look 0 e=some (.app 1 E t)) (h3:look 3 e=some (.ptr p 9 0 0)) (h36:look 36 e=some (.slice 2 (o.entry.keys.map Xi.c))) (h37:look 37 e=some (.int .i64 o.entry.keys.length)) (h38:look 38 e=some (.int .i64 0)):
  AQ t N0 (E++((qce o.entry.keys).map c8++(qde o.entry.call).map c8)) (go Φ (finC [.tmp 4]) [.c (.loop c_64_l0),.b 1,.c c_64_k1,.b 0,.c c_64_k2] .normal ⟨e,⟨O,N⟩⟩):=by
 refine qkw (fun i:Nat=>o.entry.keys.length - i) (fun i e h=>i<=o.entry.keys.length/\look 0 e=some (.app 1 (E++(qce (o.entry.keys.take i)).map c8) t)/\look 3 e=some (.ptr p 9 0 0)/\look 36 e=some (.slice 2 (o.entry.keys.map Xi.c))/\look 37 e=some (.int .i64 o.entry.keys.length)/\look 38 e=some (.int .i64 i)/\
  ∃O N,N0<=N/\Tail O N/\look t O=some (.tok 1 (E++(qce (o.entry.keys.take i)).map c8).length)/\look p O=some (.row 9 [Xc.c o])/\h=⟨O,N⟩) (fun _=>AQ t N0 (E++((qce o.entry.keys).map c8++(qde o.entry.call).map c8))) ?_ 0 e _ ⟨Qc _,by simp [h0,qce],h3,h36,h37,by simp [h38],O,N,hN0,hT,by simp [h,qce],hp,rfl⟩
 rintro i e _ L hL ⟨hi,h0,h3,h36,h37,h38,O,N,hN0,hT,h,hp,rfl⟩ ih;have htN:=hT.ltJ h;have hpN:=hT.ltJ hp;have hlenT:(E++(qce (o.entry.keys.take i)).map c8).length<=274877926944:=by
  rw [QAd,QAb,qhz,QAx];omega
 rcases Qv i o.entry.keys.length with hlt | hge
 ·have hw:=qap i (by omega);obtain ⟨hx,hy⟩:=ho _ (Qd hlt);have hx64:IntKind.wrap .i64 o.entry.keys[i].value=o.entry.keys[i].value:=qbu (by omega) (by omega);have hy64:IntKind.wrap .i64 o.entry.keys[i].mask=o.entry.keys[i].mask:=qbu (by omega) (by omega);have hNN:=hT N (Qb _);have hNt:¬N=t:=by omega
  have hNp:¬N=p:=by omega
  have hD2:E++(qce (o.entry.keys.take (i+1))).map c8=(E++(qce (o.entry.keys.take i)).map c8)++((be4 o.entry.keys[i].value).map c8++(be4 o.entry.keys[i].mask).map c8):=by
   rw [qvp hlt];simp
  generalize E++(qce (o.entry.keys.take i)).map c8=D at*;have h4:=qmy (O:=O++[(N,.row 2 [[.int .u32 o.entry.keys[i].value,.int .u32 o.entry.keys[i].mask]])]) (N:=N+1) (v:=o.entry.keys[i].value) (by rw [qay,h];rfl) (by omega:D.length<=1099511627776);have h5:=qmy (O:=setl t (.tok 1 (D.length+4)) O++[(N,.row 2 [[.int .u32 o.entry.keys[i].value,.int .u32 o.entry.keys[i].mask]])]) (N:=N+1) (t:=t) (v:=o.entry.keys[i].mask)
   (E:=D++[[.int .u8 (o.entry.keys[i].value / 16777216 % 256)],[.int .u8 (o.entry.keys[i].value / 65536 % 256)],[.int .u8 (o.entry.keys[i].value / 256 % 256)],[.int .u8 (o.entry.keys[i].value % 256)]])
   (by rw [qay,qax h,QAd];rfl) (by rw [QAd];simp only [QAk,QAn];omega)
  rw [qfp h] at h4;rw [qfp (qax h)] at h5;simp only [qcx,QAl,QAm,QAo] at h5;have hl2:look N (setl t (.tok 1 (D.length+4)) O)=none:=by rw [qb6 hNt];exact hNN
  simp [c_64_l0,h0,h3,h36,h37,h38,hlt,hL,Xi.ceJ,hx64,hy64,hw,hNN,h4,h5,hl2];refine ih (i+1) _ _ (by omega) ⟨hlt,?_,by simp [h3],by simp [h36,Xi.ceJ],by simp [h37],by simp,_,N+1,by omega,(qd6 hT htN).app _,?_,?_,rfl⟩
  ·simp [hD2,qm3]
  ·rw [qay,qax h,hD2];simp [be4]
  ·rw [qay,qb6 hpt,hp];rfl
 ·have hi':i=o.entry.keys.length:=by omega
  subst hi';obtain ⟨O',N',hc,g1,g2,g3⟩:=quj (N:=N) (c:=o.entry.call) h hT htN (by omega) ha ho2;simp only [cC_e,QAh] at hc;rw [Xc.ce] at hp;rw [QAh] at h0;simp [c_64_l0,c_64_k1,h0,h3,h36,h37,h38,hL,hp,hc];rw [QAh] at g3;exact ⟨O',N',by simp,by omega,g2,by simpa using g3⟩
theorem qtt {O:List (Nat×AO)} {N0 N t p:Nat} {E:List (List AV)} {o:Xc} (h:look t O=some (.tok 1 E.length)) (hp:look p O=some (.row 9 [Xc.c o])) (hpt:p≠t) (hT:Tail O N) (ht:t<N) (hN0:N0<=N) (hE:E.length<=274877906944) (he:opE o=true) (ho:okO o)
  (e:Env) (h0:look 0 e=some (.app 1 E t)) (h3:look 3 e=some (.ptr p 9 0 0)):
  AQ t N0 (E++(opT o).map c8) (go Φ (finC [.tmp 4]) [.c opC3] .normal ⟨e,⟨O,N⟩⟩):=by
 obtain ⟨o1,o2,o3⟩:=ho;unfold opE at he;rw [QAc] at he;obtain ⟨he1,he2⟩:=he;have h2:=qul (N:=N) (v:=o.table) h (by omega);rw [Xc.ce] at hp;by_cases c3:o.kind=3
 ·have h4:=qmy (O:=setl t (.tok 1 (E.length+2)) O) (N:=N) (t:=t) (E:=E++[[.int .u8 (o.table / 256 % 256)],[AV.int .u8 (o.table % 256)]]) (v:=o.id) (by rw [qax h];simp) (by simp;omega);rw [c3] at hp;simp [opC3,c_64,h0,h3,hp,h2,qb6 hpt,h4,qcx];refine ⟨_,N,by simp [opT,c3,qm2,qm3];rfl,hN0,qd6 hT ht,?_⟩;rw [qax h];simp [opT,c3,be2,be4]
 have hlk2:look t (setl t (.tok 1 (E.length+2)) O)=some (.tok 1 (E++[[AV.int .u8 (o.table / 256 % 256)],[AV.int .u8 (o.table % 256)]]).length):=by rw [qax h];simp
 by_cases c4:o.kind=4
 ·simp [c4] at he2;simp [qcy] at he2;obtain ⟨O',N',hc,g1,g2,g3⟩:=quj (N:=N) (c:=o.call) hlk2 (qd6 hT ht) ht (by simp;omega) he2.2 o3;simp only [cC_e] at hc;rw [c4] at hp;simp [opC3,c_64,c_64_k2,h0,h3,hp,h2,qb6 hpt,hc];have e2:E++(opT o).map c8=(E++[[AV.int .u8 (o.table / 256 % 256)],[AV.int .u8 (o.table % 256)]])++(qde o.call).map c8:=by simp [opT,c4,qm2]
  rw [e2];exact ⟨O',N',by simp,by omega,g2,g3⟩
 by_cases c2:o.kind=2
 ·simp [c2] at he2;obtain ⟨hi,he3⟩:=he2;simp [qcy] at he3;have h4:=qmy (N:=N+1) (v:=o.id) hlk2 (by simp;omega);have hlk4:look t (setl t (.tok 1 (E.length+6)) O)=some (.tok 1 (E++[[AV.int .u8 (o.table / 256 % 256)],[AV.int .u8 (o.table % 256)],[AV.int .u8 (o.id / 16777216 % 256)],[AV.int .u8 (o.id / 65536 % 256)],[AV.int .u8 (o.id / 256 % 256)],[AV.int .u8 (o.id % 256)]]).length):=by rw [qax h];simp
  obtain ⟨O',N',hc,g1,g2,g3⟩:=quj (N:=N+1) (c:=o.call) hlk4 ((qd6 hT ht).mono (QBe N)) (Nat.lt_succ_of_lt ht) (by simp;omega) he3.2 o3;simp only [cC_e] at hc;have ha:=qabc o;rw [Xc.ce,c2] at ha;rw [c2] at hp;simp [opC3,c_64,h0,h3,hp,h2,qb6 hpt,h4,qcx,hc,ha];have e2:E++(opT o).map c8=(E++[[AV.int .u8 (o.table / 256 % 256)],[AV.int .u8 (o.table % 256)],[AV.int .u8 (o.id / 16777216 % 256)],[AV.int .u8 (o.id / 65536 % 256)],[AV.int .u8 (o.id / 256 % 256)],[AV.int .u8 (o.id % 256)]])++(qde o.call).map c8:=by simp [opT,c2,qm2,qm3]
  rw [e2];exact ⟨qaz O',N',by simp,by omega,qlx g2,ql6 g3⟩
 have c1:o.kind=1:=by
  by_cases c1:o.kind=1
  ·exact c1
  ·simp [c1,c2,c3,c4] at he2
 simp [c1] at he2;obtain ⟨hpr,hkl,hca⟩:=he2;simp [qcy] at hca;have h3':=qul (N:=N) (v:=o.entry.Xt) hlk2 (by simp;omega);have hlk4:look t (setl t (.tok 1 (E.length+4)) O)=some (.tok 1 (E++[[AV.int .u8 (o.table / 256 % 256)],[AV.int .u8 (o.table % 256)],[AV.int .u8 (o.entry.Xt / 256 % 256)],[AV.int .u8 (o.entry.Xt % 256)]]).length):=by rw [qax h];simp
 have hw:IntKind.wrap .u8 (o.entry.keys.length:Int)=(o.entry.keys.length:Int):=by rw [wr8u];omega
 have hl:E.length+4+1<=70368744177664:=by omega
 have hE5:E++(opT o).map c8=(E++[[AV.int .u8 (o.table / 256 % 256)],[AV.int .u8 (o.table % 256)],[AV.int .u8 (o.entry.Xt / 256 % 256)],[AV.int .u8 (o.entry.Xt % 256)],[AV.int .u8 (o.entry.keys.length:Int)]])++((qce o.entry.keys).map c8++(qde o.entry.call).map c8):=by
  simp [opT,c1,qm2,c8e]
 have key:=fun e O N a b c d f g k m n=>qyt (N0:=N0) (t:=t) (p:=p) (E:=E++[[AV.int .u8 (o.table / 256 % 256)],[AV.int .u8 (o.table % 256)],[AV.int .u8 (o.entry.Xt / 256 % 256)],[AV.int .u8 (o.entry.Xt % 256)],[AV.int .u8 (o.entry.keys.length:Int)]]) (o:=o) hpt (by simp;omega) hkl o1 hca.2 o2 e O N a b c d f g k m n
 have hp':=hp;rw [c1] at hp';rw [hE5];simp [opC3,c_64,h0,h3,hp',h2,qb6 hpt,h3',qcx,qax h,hl,hw];simp only [QAl,QAm,QAo] at key;exact key _ _ N hN0 (qd6 hT ht) (by rw [qax h];simp) (by rw [qb6 hpt];exact hp) (by simp) (by simp [h3]) (by simp) (by simp) (by simp)
def BV (B:AV) (E:List (List AV)) (O:List (Nat×AO)):Prop:=B= .Xu 1 E\/∃t,B= .app 1 E t/\look t O=some (.tok 1 E.length)
theorem qrx {o:Xc} (he:opE o=true):1<=o.kind/\o.kind<=4:=by
 by_cases k1:o.kind=1
 ·omega
 by_cases k2:o.kind=2
 ·omega
 by_cases k3:o.kind=3
 ·omega
 by_cases k4:o.kind=4
 ·omega
 ·simp [opE,k1,k2,k3,k4] at he
theorem aop {O:List (Nat×AO)} {N:Nat} {B:AV} {E:List (List AV)} {o:Xc} (hB:BV B E O) (hT:Tail O N) (hE:E.length<=274877906900) (he:opE o=true) (ho:okO o):
  ∃t,AQ t N (E++(opB o).map c8) (qah Φ f_64 [B,.agg (Xc.c o)] ⟨O,N⟩):=by
 have hk:=qrx he;have hw:IntKind.wrap .u8 o.kind=o.kind:=by rw [wr8u];omega
 have hl:E.length+1<=70368744177664:=by omega
 have hNN:=hT N (Qb _);have e2:E++(opB o).map c8=(E++[[AV.int .u8 o.kind]])++(opT o).map c8:=by simp [qaf1,c8e]
 rw [qav (fn:=c_64) rfl rfl,e2,qaf2];have hres:c_64.results=[.tmp 4]:=rfl;rw [hres];rcases hB with rfl | ⟨t,rfl,h⟩
 ·refine ⟨N+1,?_⟩;have hN1:=hT (N+1) (by omega);have key:=fun e a b=>qtt (O:=O++[(N,.row 9 [Xc.c o]),(N+1,.tok 1 (E.length+1))]) (N0:=N) (N:=N+1+1) (t:=N+1) (p:=N) (E:=E++[[AV.int .u8 o.kind]]) (o:=o) (by simp [qay,hN1]) (by simp [qay,hNN]) (by omega)
   (by have:=(hT.app (.row 9 [Xc.c o])).app (.tok 1 (E.length+1));simpa using this) (by omega) (by omega) (by simp;omega) he ho e a b
  simp [opC1,opC2,c_64,Xc.ce,hNN,hN1,hw,hl];simp only [Xc.ce,QAl,QAm,QAo] at key;exact key _ (by simp) (by simp)
 ·refine ⟨t,?_⟩;have htN:=hT.ltJ h;have hNt:¬N=t:=by omega
  have key:=fun e a b=>qtt (O:=setl t (.tok 1 (E.length+1)) O++[(N,.row 9 [Xc.c o])]) (N0:=N) (N:=N+1) (t:=t) (p:=N) (E:=E++[[AV.int .u8 o.kind]]) (o:=o) (by rw [qay,qax h];simp) (by rw [qay,qb6 hNt,hNN];simp) hNt
   ((qd6 hT htN).app _) (by omega) (by omega) (by simp;omega) he ho e a b
  simp [opC1,opC2,c_64,Xc.ce,hNN,hw,hl,qay,h,qfp h];simp only [Xc.ce,QAl,QAm,QAo] at key;exact key _ (by simp) (by simp)
theorem qrq (n:Int):qad Φ f_127 [.int .i64 n]=some (.val (.bool (qdd n))):=by
 rw [qaa (fn:=c_127) rfl rfl];by_cases q:0<=n<;>simp [c_127,qdd,q]
theorem qxs (c:Xb):qad Φ f_128 [.agg (cC c)]=some (.val (.bool (qcy c))):=by
 rw [qaa (fn:=c_128) rfl rfl];have h:=qrq c.action;cases q:qdd c.action with
 | false=>rw [q] at h;simp [c_128,cC_e,qcy,h,q]
 | true=>rw [q] at h;simp [c_128,cC_e,qcy,h,q]
theorem qvo (o:Xc):qad Φ f_63 [.agg (Xc.c o)]=some (.val (.bool (opE o))):=by
 rw [qaa (fn:=c_63) rfl rfl];have h1:=qrq o.table;have h2:=qrq o.entry.Xt;have h3:=qxs o.entry.call;have h4:=qxs o.call;simp only [cC_e] at h3 h4;have hid:idI o.id=(decide (0<=o.id)&&decide (o.id<=2147483647)):=rfl;by_cases c1:o.kind=1
 ·have e:opE o=(qdd o.table&&(qdd o.entry.Xt&&(decide (o.entry.keys.length<=255)&&qcy o.entry.call))):=by simp [opE,c1]
  rw [e];by_cases qi:0<=o.id<;>cases q1:qdd o.table<;>cases q2:qdd o.entry.Xt<;>by_cases q3:o.entry.keys.length<=255<;>rw [q1] at h1<;>rw [q2] at h2<;>simp [c_63,Xc.ce,c1,qi,h1,h2,h3,q3]
 by_cases c2:o.kind=2
 ·have e:opE o=(qdd o.table&&(idI o.id&&qcy o.call)):=by simp [opE,c2]
  rw [e,hid];by_cases qi:0<=o.id<;>by_cases qj:o.id<=2147483647<;>cases q1:qdd o.table<;>rw [q1] at h1<;>simp [c_63,Xc.ce,c2,qi,qj,h1,h4]
 by_cases c3:o.kind=3
 ·have e:opE o=(qdd o.table&&idI o.id):=by simp [opE,c3]
  rw [e,hid];by_cases qi:0<=o.id<;>by_cases qj:o.id<=2147483647<;>cases q1:qdd o.table<;>rw [q1] at h1<;>simp [c_63,Xc.ce,c3,qi,qj,h1]
 by_cases c4:o.kind=4
 ·have e:opE o=(qdd o.table&&qcy o.call):=by simp [opE,c4]
  rw [e];by_cases qi:0<=o.id<;>cases q1:qdd o.table<;>rw [q1] at h1<;>simp [c_63,Xc.ce,c4,qi,h1,h4]
 ·have e:opE o=false:=by simp [opE,c1,c2,c3,c4]
  rw [e];by_cases qi:0<=o.id<;>simp [c_63,Xc.ce,c1,c2,c3,c4,qi]
theorem qacz {o:Xc} (h:opE o=true):(opB o).length<=4000:=by
 unfold opE at h;rw [QAc] at h;obtain ⟨_,h⟩:=h;have hcall:∀c:Xb,qcy c=true->(qde c).length<=1100:=by
  intro c hc;simp [qcy] at hc;simp only [qde,be2,QAd,QAk,QAn,qhv];omega
 unfold opB;by_cases c1:o.kind=1
 ·simp [c1] at h;have:=hcall _ h.2.2;rw [QAa c1];simp only [be2,QAd,QAk,QAn,qhz];omega
 by_cases c2:o.kind=2
 ·simp [c2] at h;have:=hcall _ h.2;rw [QA c1,QAa c2];simp only [be2,be4,QAd,QAk,QAn];omega
 by_cases c3:o.kind=3
 ·rw [QA c1,QA c2,QAa c3];simp only [be2,be4,QAd,QAk,QAn];omega
 by_cases c4:o.kind=4
 ·simp [c4] at h;have:=hcall _ h;rw [QA c1,QA c2,QA c3];simp only [be2,QAd,QAk,QAn];omega
 ·simp [c1,c2,c3,c4] at h
theorem qx6 {l:List Xc} {i:Nat} (hi:i<l.length):opsB (l.take (i+1))=opsB (l.take i)++opB l[i]:=by
 unfold opsB;rw [Qh hi,QBg,List.flatten_append];simp
theorem qrz:∀{l:List Xc},(∀o∈l,opE o=true)->(opsB l).length<=4000*l.length
 | [],_=>by simp [opsB]
 | x::l,h=>by
  have h1:=qrz (l:=l) (fun y hy=>h y (QAr _ hy));have h2:=qacz (h x (QBl ..));have e:opsB (x::l)=opB x++opsB l:=by simp [opsB]
  rw [e,QAd,QAk];omega
theorem qabz {l:List Xc} (hl:l.length<=64) (h:∀o∈l.take l.length,opE o=true):encB l=(l.length:Int)::opsB l:=by
 rw [QAh] at h;unfold encB;rw [QAa ⟨hl,h⟩]
theorem qza {l:List Xc} {i:Nat} (hi:i<l.length) (h:opE l[i]=false):encB l=[]:=by
 unfold encB;rw [QA];intro q;have:=q.2 _ (Qd hi);rw [h] at this;cases this
theorem qt2 (l:List Xc) (ho:∀o∈l,okO o):qad Φ f_24 [.slice 9 (l.map Xc.c)]=some (.val (.slice 1 ((encB l).map c8))):=by
 rw [qaa (fn:=c_24) rfl rfl];by_cases q:64<l.length
 ·have:encB l=[]:=by unfold encB;rw [QA (by omega)]
  simp [c_24,q,this]
 have hl:l.length<=64:=by omega
 have hw:IntKind.wrap .u8 (l.length:Int)=(l.length:Int):=by rw [wr8u];omega
 simp [c_24,q,hw];refine qkw (fun i:Nat=>l.length - i) (fun i e h=>i<=l.length/\(∀o∈l.take i,opE o=true)/\look 13 e=some (.slice 9 (l.map Xc.c))/\look 14 e=some (.int .i64 l.length)/\look 15 e=some (.int .i64 i)/\
  ∃B O N,look 3 e=some B/\BV B (([(l.length:Int)]++opsB (l.take i)).map c8) O/\Tail O N/\h=⟨O,N⟩) (fun _ (r:Option Rt)=>r=some (Rt.val (AV.slice 1 ((encB l).map c8)))) ?_ 0 _ _ ⟨Qc _,by simp,by simp,by simp,by simp,.Xu 1 [[.int .u8 (l.length:Int)]],[],0,by simp,.inl (by simp [opsB,c8e]),Tail.nil 0,rfl⟩
 rintro i e _ L hL ⟨hi,hp,h13,h14,h15,B,O,N,h3,hB,hT,rfl⟩ ih;have hNN:=hT N (Qb _);rcases Qv i l.length with hlt | hge
 ·have hwi:=qap i (by omega);have hen:=qvo l[i];rw [Xc.ce] at hen;cases hq:opE l[i] with
  | false=>
   rw [hq] at hen;simp [c_24_l0,Xc.ce,h3,h13,h14,h15,hL,hlt,hNN,hen,qza hlt hq]
  | true=>
   rw [hq] at hen;have hlen:((([(l.length:Int)]++opsB (l.take i)).map c8).length)<=274877906900:=by
    have:=qrz hp;rw [QAx] at this;rw [QAb,QAd];simp only [QAk,QAn];omega
   have hB2:BV B (([(l.length:Int)]++opsB (l.take i)).map c8) (O++[(N,.row 9 [Xc.c l[i]])]):=by
    rcases hB with h | ⟨t,h,h2⟩
    ·exact .inl h
    ·exact .inr ⟨t,h,by rw [qay,h2];rfl⟩
   obtain ⟨t,O',N',hc,g1,g2,g3⟩:=aop (N:=N+1) hB2 (hT.app _) hlen hq (ho _ (Qd hlt));rw [Xc.ce] at hc;simp [c_24_l0,Xc.ce,h3,h13,h14,h15,hL,hlt,hNN,hen,hc,hwi];have hE2:([(l.length:Int)]++opsB (l.take (i+1))).map c8=([(l.length:Int)]++opsB (l.take i)).map c8++(opB l[i]).map c8:=by
    rw [qx6 hlt];simp
   refine ih (i+1) _ _ (by omega) ⟨hlt,?_,by simp [h13,Xc.ce],by simp [h14],by simp,.app 1 (([(l.length:Int)]++opsB (l.take i)).map c8++(opB l[i]).map c8) t,O',N',by simp,by rw [hE2];exact .inr ⟨t,rfl,g3⟩,g2,rfl⟩
   ·intro o ho';rw [Qh hlt] at ho';rcases QAf.1 ho' with h | h
    ·exact hp o h
    ·simp at h;rw [h];exact hq
 ·have hi':i=l.length:=by omega
  subst hi';rw [qabz hl hp];rw [QAh] at hB;rcases hB with rfl | ⟨t,rfl,h2⟩
  ·simp [c_24_l0,c_24_k1,h3,h13,h14,h15,hL]
  ·simp [c_24_l0,c_24_k1,h3,h13,h14,h15,hL]
def qm4 (o:Xc):Bool:=decide (300<o.entry.keys.length) || (decide (300<o.entry.call.args.length) || decide (300<o.call.args.length))
def qf0 (l:List Xc):Bool:=decide (80<l.length) || qci l qm4 0
theorem qs9 (l:List Xc) (hb:l.length<2^40):qad Φ f_55 [.slice 9 (l.map Xc.c)]=some (.val (.bool (qf0 l))):=by
 rw [qaa (fn:=c_55) rfl rfl];by_cases q:80<l.length
 ·simp [c_55,qf0,q]
 simp [c_55,qf0,q];refine qdg l.length (fun i e=>look 0 e=some (.slice 9 (l.map Xc.c))/\look 3 e=some (.int .i64 i)) (fun i=>some (Rt.val (AV.bool (qci l qm4 i)))) ?_ ?_ 0 _ (Qc _) ?_
 ·rintro i e L hi hL ⟨h0,h3⟩ ih;have hw:=qap i (by omega);cases hb:qm4 l[i] with
  | true=>
   rw [qoe hi hb];unfold qm4 at hb;by_cases y0:300<l[i].entry.keys.length
   ·simp [c_55_l0,Xc.ce,h0,h3,hi,hL,y0]
   by_cases y1:300<l[i].entry.call.args.length
   ·simp [c_55_l0,Xc.ce,h0,h3,hi,hL,y0,y1]
   simp [y0,y1] at hb;simp [c_55_l0,Xc.ce,h0,h3,hi,hL,y0,y1,hb]
  | false=>
   rw [qhu hi hb];unfold qm4 at hb;simp only [QBf,decide_eq_false_iff_not] at hb;obtain ⟨y0,y1,y2⟩:=hb;simp [c_55_l0,Xc.ce,h0,h3,hi,hL,y0,y1,y2,hw];exact ih _ ⟨by simp [h0,Xc.ce],by simp⟩
 ·rintro e L hL ⟨h0,h3⟩;rw [qlc];simp [c_55_l0,c_55_k1,h0,h3,hL]
 ·simp
def b2sV (h:AH) (o:Option AV):Option (AV×AH):=match o with
 | some v=>evOp [(0,v)] 0 h (.b2s (.t 0))
 | none=>none
theorem qafj {e:Env} {nx:Nat} {h:AH} {n:Nat}:evOp e nx h (.b2s (.t n))=b2sV h (look n e):=by
 cases hl:look n e with
 | none=>simp only [evOp,evX,hl,b2sV]
 | some v=>simp only [evOp,evX,hl,b2sV,look,if_true]
theorem qab1 {call:qak} {e:Env} {nx:Nat} {h:AH} {n:Nat}:qab call e nx h (.b2s (.t n))=qbf (b2sV h (look n e)):=by rw [qne,qafj]
def strB (l:List Int):List UInt8:=l.map fun n=>UInt8.ofNat n.toNat
theorem qt5 (F:List AV->Option UInt8) (hF:∀n,F (c8 n)=some (UInt8.ofNat n.toNat)):∀l:List Int,mapO F (l.map c8)=some (strB l)
 | []=>rfl
 | a::l=>by simp only [QBo,mapO,hF,qt5 F hF l,strB]
theorem quq (h:AH) (z:Nat) (l:List Int):b2sV h (some (.slice z (l.map c8)))=some (.str (strB l),h):=by
 simp only [b2sV,evOp,evX,look,if_true,qcg];rw [qt5 _ (fun n=>rfl)]
theorem qfh (v:Int):okB (be4 v):=by
 intro x hx;simp [be4] at hx;omega
theorem qoi (v:Int):okB (be2 v):=by
 intro x hx;simp [be2] at hx;omega
theorem qe0 {a b:List Int} (ha:okB a) (hb:okB b):okB (a++b):=by
 intro x hx;rcases QAf.1 hx with h | h
 ·exact ha x h
 ·exact hb x h
theorem qjv {a:Int} {b:List Int} (ha:0<=a/\a<=255) (hb:okB b):okB (a::b):=by
 intro x hx;rcases QAg.1 hx with rfl | h
 ·exact ha
 ·exact hb x h
theorem qwr (l:List Int):okB (qc4 l):=by
 intro x hx;unfold qc4 at hx;obtain ⟨y,hy,hx⟩:=QBb.1 hx;obtain ⟨v,_,rfl⟩:=QAv.1 hy;exact qfh v x hx
theorem qxu (l:List Xi):okB (qce l):=by
 intro x hx;unfold qce at hx;obtain ⟨y,hy,hx⟩:=QBb.1 hx;obtain ⟨v,_,rfl⟩:=QAv.1 hy;exact qe0 (qfh _) (qfh _) x hx
theorem qkf {c:Xb} (h:qcy c=true):okB (qde c):=by
 simp [qcy] at h;exact qe0 (qoi _) (qjv (by omega) (qwr _))
theorem qac0 {o:Xc} (h:opE o=true):okB (opB o):=by
 have hk:=qrx h;unfold opE at h;rw [QAc] at h;refine qjv (by omega) (qe0 (qoi _) ?_);obtain ⟨_,h⟩:=h;by_cases c1:o.kind=1
 ·rw [QAa c1] at h ⊢;simp only [QAc,decide_eq_true_eq] at h;exact qe0 (qoi _) (qjv (by omega) (qe0 (qxu _) (qkf h.2.2)))
 rw [QA c1] at h ⊢;by_cases c2:o.kind=2
 ·rw [QAa c2] at h ⊢;simp only [QAc] at h;exact qe0 (qfh _) (qkf h.2)
 rw [QA c2] at h ⊢;by_cases c3:o.kind=3
 ·rw [QAa c3];exact qfh _
 rw [QA c3] at h ⊢;by_cases c4:o.kind=4
 ·rw [QAa c4] at h;exact qkf h
 ·omega
theorem qrf (l:List Xc):okB (encB l):=by
 unfold encB;split
 ·rename_i h;refine qjv (by omega) ?_;intro x hx;unfold opsB at hx;obtain ⟨y,hy,hx⟩:=QBb.1 hx;obtain ⟨o,ho,rfl⟩:=QAv.1 hy;exact qac0 (h.2 o ho) x hx
 ·intro x hx;cases hx
theorem qvn (v:Int) (k:Nat) (h:k<=32):ishr .u32 v (k:Int)=v.fdiv (2^k):=by
 unfold ishr;rw [show min (k:Int).toNat (IntKind.bits .u32)=k by simp [IntKind.bits];omega]
theorem qafr (v:Int):ishr .u32 v 8=v / 256:=by
 rw [show (8:Int)=((8:Nat):Int) by rfl,qvn v 8 (by decide)];rw [QAz _ (by decide)];rfl
theorem qacj (v:Int):ishr .u32 v 16=v / 65536:=by
 rw [show (16:Int)=((16:Nat):Int) by rfl,qvn v 16 (by decide)];rw [QAz _ (by decide)];rfl
theorem qack (v:Int):ishr .u32 v 24=v / 16777216:=by
 rw [show (24:Int)=((24:Nat):Int) by rfl,qvn v 24 (by decide)];rw [QAz _ (by decide)];rfl
theorem kword (v:Int) (O:List (Nat×AO)) (N:Nat):qah Φ f_125 [.int .u32 v] ⟨O,N⟩=some (.val (.Xu 1 ((be4 v).map c8)),⟨O,N⟩):=by
 rw [qav (fn:=c_125) rfl rfl];simp [c_125,qafr,qacj,qack,wr8u,be4,c8e]
theorem qt3 (b:List Int) (hb:okB b) (hl:4<=b.length) (h40:b.length<2^40):qad Φ f_60 [.slice 1 (b.map c8)]=some (.val (.int .u32 (num 4 b))):=by
 rw [qaa (fn:=c_60) rfl rfl];have q2:¬((b.length:Int)<4):=by omega
 have q3:(4:Int)<=b.length:=by omega
 have i0:0<b.length:=by omega
 have h0:=hb _ (Qd i0);have w0:IntKind.wrap .u32 b[0]=b[0]:=qdm (by omega);have i1:1<b.length:=by omega
 have h1:=hb _ (Qd i1);have w1:IntKind.wrap .u32 b[1]=b[1]:=qdm (by omega);have i2:2<b.length:=by omega
 have h2:=hb _ (Qd i2);have w2:IntKind.wrap .u32 b[2]=b[2]:=qdm (by omega);have i3:3<b.length:=by omega
 have h3:=hb _ (Qd i3);have w3:IntKind.wrap .u32 b[3]=b[3]:=qdm (by omega);have k0:IntKind.wrap .i64 0=0:=by decide
 have k1:IntKind.wrap .i64 1=1:=by decide
 have k2:IntKind.wrap .i64 2=2:=by decide
 have k3:IntKind.wrap .i64 3=3:=by decide
 have k4:IntKind.wrap .i64 4=4:=by decide
 simp [c_60,q2,q3,hl,qrw b i3];rw [qas];simp [c_60_l0,c8e,k0,k1,k2,k3,k4,i0,w0,i1,w1,i2,w2,i3,w3,hl];rw [qas];simp [c_60_l0,c8e,k0,k1,k2,k3,k4,i0,w0,i1,w1,i2,w2,i3,w3,hl];rw [qas];simp [c_60_l0,c8e,k0,k1,k2,k3,k4,i0,w0,i1,w1,i2,w2,i3,w3,hl];rw [qas];simp [c_60_l0,c8e,k0,k1,k2,k3,k4,i0,w0,i1,w1,i2,w2,i3,w3,hl];rw [qas];simp [c_60_l0,c_60_k1,q3,hl];have x0:ior .u32 (ishl .u32 0 8) b[0]=b[0]:=by rw [qia (by omega) (by omega)];omega
 have x1:ior .u32 (ishl .u32 (b[0]) 8) b[1]=256*(b[0])+b[1]:=qia (by omega) (by omega);have x2:ior .u32 (ishl .u32 (256*(b[0])+b[1]) 8) b[2]=256*(256*(b[0])+b[1])+b[2]:=qia (by omega) (by omega);have x3:ior .u32 (ishl .u32 (256*(256*(b[0])+b[1])+b[2]) 8) b[3]=256*(256*(256*(b[0])+b[1])+b[2])+b[3]:=qia (by omega) (by omega);have fin:ior .u32 (ishl .u32 (ior .u32 (ishl .u32 (ior .u32 (ishl .u32 (ior .u32 (ishl .u32 0 8) b[0]) 8) b[1]) 8) b[2]) 8) b[3]=256*(256*(256*(b[0])+b[1])+b[2])+b[3]:=by rw [x0,x1,x2,x3]
 exact fin
theorem qp0 {t:Nat} {y:AO}:∀{O:List (Nat×AO)},look t O=some y->setl t y O=O
 | [],_=>by simp
 | (u,w)::r,h=>by
  by_cases hu:u=t
  ·subst hu;simp at h;subst h;simp
  ·simp [hu] at h;simp [hu,qp0 h]
theorem kadd (h c k:Int) (O:List (Nat×AO)) (N t:Nat) (hc:0<=c/\c<=255) (ht:look t O=some (.row 2 [[.int .u32 h,.int .i64 k]])):
  qah Φ f_195 [.ptr t 2 0 0,.int .u8 c] ⟨O,N⟩=some (.val (.tup []),⟨setl t (.row 2 [[.int .u32 (fnv1 h c),.int .i64 k]]) O,N⟩):=by
 rw [qav (fn:=c_195) rfl rfl];have w:IntKind.wrap .u32 c=c:=qdm (by omega);have e:IntKind.wrap .u32 (ixor .u32 h c*16777619)=fnv1 h c:=by
  simp [IntKind.wrap,IntKind.bits,IntKind.signed,fnv1]
 simp [c_195,ht,w,e]
theorem qzg (h:Int) (a b:List Int):fnvL h (a++b)=fnvL (fnvL h a) b:=by simp [fnvL]
theorem qxh (h:Int) {b:List Int} {i:Nat} (hi:i<b.length):fnvL h (b.take (i+1))=fnv1 (fnvL h (b.take i)) b[i]:=by
 rw [Qh hi,qzg];rfl
theorem qafw (b:List Int) (hb:okB b) (h40:b.length<2^40) (h:Int) (O:List (Nat×AO)) (N t:Nat) (ht:look t O=some (.row 2 [[.int .u32 h,.int .i64 0]])):
  qah Φ f_126 [.ptr t 2 0 0,.slice 1 (b.map c8)] ⟨O,N⟩=some (.val (.tup []),⟨setl t (.row 2 [[.int .u32 (fnvL h b),.int .i64 b.length]]) O,N⟩):=by
 rw [qav (fn:=c_126) rfl rfl];simp [c_126,ht];refine qeq b.length (fun i e hh=>hh=⟨setl t (.row 2 [[.int .u32 (fnvL h (b.take i)),.int .i64 0]]) O,N⟩/\look 0 e=some (.ptr t 2 0 0)/\look 1 e=some (.slice 1 (b.map c8))/\look 4 e=some (.func (.func f_195) [.ptr t 2 0 0] [])/\look 11 e=some (.slice 1 (b.map c8))/\look 12 e=some (.int .i64 b.length)/\look 13 e=some (.int .i64 i))
  (fun _=>some (Rt.val (.tup []),(⟨setl t (.row 2 [[.int .u32 (fnvL h b),.int .i64 b.length]]) O,N⟩:AH))) ?_ ?_ 0 _ _ (Qc _) ?_
 ·rintro i e hh L hi hL ⟨rfl,h0,h1,h4,h11,h12,h13⟩ ih;have hw:=qap i (by omega);have hx:=hb _ (Qd hi);have ka:=kadd (fnvL h (b.take i)) b[i] 0 (setl t (.row 2 [[.int .u32 (fnvL h (b.take i)),.int .i64 0]]) O) N t hx (by rw [qax ht]);rw [qcx,<- qxh h hi] at ka;simp [c_126_l0,h4,h11,h12,h13,hi,hw,c8e,ka];exact ih _ _ ⟨rfl,by simp [h0],by simp [h1],by simp [h4],by simp [h11],by simp [h12],by simp⟩
 ·rintro e hh L hL ⟨rfl,h0,h1,h4,h11,h12,h13⟩;have hw:IntKind.wrap .i64 (b.length:Int)=(b.length:Int):=qbu (by omega) (by omega);have hl:look t (setl t (.row 2 [[.int .u32 (fnvL h b),.int .i64 0]]) O)=some (.row 2 [[.int .u32 (fnvL h b),.int .i64 0]]):=qax ht;rw [Qo (Qb _)];simp [c_126_l0,c_126_k1,h0,h1,h12,h13,hL,hl,hw,qcx]
 ·exact ⟨by simp [fnvL];exact (qp0 ht).symm,by simp,by simp,by simp,by simp,by simp,by simp⟩
theorem kfnv (b:List Int) (hb:okB b) (h40:b.length<2^40):qad Φ f_61 [.slice 1 (b.map c8)]=some (.val (.int .u32 (fnv b))):=by
 rw [qaa (fn:=c_61) rfl rfl];have kw:=qafw b hb h40 2166136261 [(0,.row 2 [[.int .u32 2166136261,.int .i64 0]])] 1 0 (by simp);simp [c_61,kw,fnv]
theorem al8 (b:List Int):qcm 1 (b.map c8)=true:=qcn 1 c8 b fun x=>by simp [c8]
theorem qvs (a b:List Int):a.map c8++b.map c8=(a++b).map c8:=by simp
theorem qafv (b:List Int) (hb:okB b) (hl:b.length<=1000000):qad Φ f_59 [.slice 1 (b.map c8)]=some (.val (.slice 1 ((frB b).map c8))):=by
 rw [qaa (fn:=c_59) rfl rfl];have hw:IntKind.wrap .u32 (b.length:Int)=(b.length:Int):=qdm (by omega);have k1:=fun O N=>kword (b.length:Int) O N
 have ho:okB (be4 b.length++b):=qe0 (qfh _) hb;have k2:=kfnv (be4 b.length++b) ho (by simp [qeh];omega);have k3:=fun O N=>kword (fnv (be4 b.length++b)) O N
 have a1:=al8 b;have a2:=al8 (be4 (fnv (be4 b.length++b)));have n4:∀v,(be4 v).length=4:=qeh;have nF:=qeh (fnv (be4 b.length++b));have z1:∀v,¬(be4 v).map c8=[]:=fun v=>by simp [be4]
 have hR:(frB b).map c8=((be4 b.length).map c8++b.map c8)++(be4 (fnv (be4 b.length++b))).map c8:=by simp [frB]
 rw [hR];rw [<- qvs] at k2;have m1:(4+b.length)<=70368744177664:=by omega
 have m2:(4+b.length+4)<=70368744177664:=by omega
 generalize be4 (fnv (be4 b.length++b))=F at*;generalize fnv (be4 b.length++b)=f at*;simp [c_59,hw,k1,k2,k3,a1,a2,n4,nF,z1,m1,m2]
theorem qo8 {x:Int} (h:0<=x/\x<18446744073709551616):IntKind.wrap .u64 x=x:=by
 simp [IntKind.wrap,IntKind.bits,IntKind.signed];omega
theorem qaey (l:List Int) (h:l.length<2^40):qad Φ f_62 [.slice 1 (l.map c8)]=some (.val (.slice 1 (l.map c8))):=
 qd8 (bytes:=1) rfl _ (qcn 1 c8 l fun x=>by simp [c8]) (by rw [QAb];omega)
theorem qzq (b:List Int) (hb:okB b) (h40:b.length<2^40):qad Φ f_23 [.slice 1 (b.map c8)]=some (.val (.tup [.slice 1 ((unfB b).1.map c8),.int .i64 (unfB b).2.1,.int .i64 (unfB b).2.2])):=by
 rw [qaa (fn:=c_23) rfl rfl];unfold unfB;by_cases q:b.length<8
 ·have q':(b.length:Int)<8:=by omega
  simp [c_23,q,q']
 have q':¬(b.length:Int)<8:=by omega
 have k1:=qt3 b hb (by omega) h40;have hr:=qz0 hb (by omega);have w0:IntKind.wrap .u64 (b.length:Int)=(b.length:Int):=qo8 (by omega);have w1:IntKind.wrap .u64 ((b.length:Int) - 8)=(b.length:Int) - 8:=qo8 (by omega);rw [QA q];obtain ⟨n,hn⟩:∃n:Nat,num 4 b=n:=⟨(num 4 b).toNat,by omega⟩;rw [hn] at k1 hr ⊢;have w2:IntKind.wrap .u64 (n:Int)=(n:Int):=qo8 (by omega);by_cases q2:(b.length:Int) - 8<(n:Int)
 ·rw [QAa q2];simp [c_23,q',k1,w0,w1,w2,q2]
 rw [QA q2];rw [Int.toNat_natCast];have w3:IntKind.wrap .i64 (n:Int)=(n:Int):=qbu (by omega) (by omega);have w4:IntKind.wrap .i64 (4+(n:Int))=4+(n:Int):=qbu (by omega) (by omega);have w5:IntKind.wrap .i64 (4+(n:Int)+4)=(n:Int)+8:=(qbu (by omega) (by omega)).trans (by omega);have ht:okB (b.take (4+n)):=fun x hx=>hb x (Qu hx)
 have hd:okB (b.drop (4+n)):=qz1 hb _;have k2:=kfnv (b.take (4+n)) ht (by simp;omega);have k3:=qt3 (b.drop (4+n)) hd (by simp;omega) (by simp;omega);have k4:=qaey ((b.drop 4).take n) (by simp;omega);rw [QBd] at k2;rw [List.map_drop] at k3;rw [QBd,List.map_drop] at k4;have c1:(0:Int)<=4+(n:Int)/\4+(n:Int)<=(b.length:Int):=by omega
 have c4:(4:Int)<=4+(n:Int):=by omega
 have t4:(4+(n:Int)).toNat=4+n:=by omega
 have x3:4+n - 4=n:=by omega
 have x4:((b.map c8).drop (4+n)).take (b.length - (4+n))=(b.map c8).drop (4+n):=Qo (by simp);by_cases z:fnv (b.take (4+n))=num 4 (b.drop (4+n))
 ·rw [QA (by simpa using z)];rw [z] at k2;generalize num 4 (b.drop (4+n))=F at*;simp [c_23,q',k1,w0,w1,w2,w3,w4,w5,q2,k2,k3,k4,c1,c4,t4,x3,x4]
 ·rw [QAa (by simpa using z)];generalize fnv (b.take (4+n))=E at*;generalize num 4 (b.drop (4+n))=F at*;simp [c_23,q',k1,w0,w1,w2,w3,w4,q2,k2,k3,c1,c4,t4,x4,z]
def lg0 (p:Prg):LgV:=⟨qdb p,[],0⟩
theorem qx3 {o:Xc} (h:OpS o):okO o:=by
 have c:∀v:Int,ok32 0 v->0<=v/\v<=4294967295:=fun v h=>by unfold ok32 at h;omega
 exact ⟨fun k hk=>⟨c _ (h.e.ks k hk).1,c _ (h.e.ks k hk).2⟩,fun v hv=>c _ (h.e.ar v hv),fun v hv=>c _ (h.c.ar v hv)⟩
theorem qkm (l:List Xc):(encB l).length<=300000:=by
 by_cases q:l.length<=64/\∀o∈l,opE o=true
 ·exact qzb q.2 q.1
 ·unfold encB;rw [QA q];simp
end Go.Av
