/-
  Lemmas for the law.
-/
import Derived.Test.YtjdbnnnakpacjaaGreatX1
import Derived.Test.YtjdbnnnakpacjaaGreatW27K
set_option linter.unusedVariables false
set_option linter.unusedSimpArgs false
set_option linter.constructorNameAsVariable false
namespace Go.Av
set_option maxRecDepth 4000
structure Ren where
 t:Int
 old:Int
 new:Int
def Ren.c (x:Ren):List AV:=[.int .i64 x.t,.int .i64 x.old,.int .i64 x.new]
theorem Xc.eq_iff (x y:Xc):x=y↔x.kind=y.kind/\x.table=y.table/\x.id=y.id/\x.entry=y.entry/\x.call=y.call:=by
 cases x;cases y;simp
structure CfgF (c:Xf):Prop where
 rl:c.rows.length<2^40
 rs:∀l∈c.rows,l.length<2^40/\∀r∈l,r.entry.sm
 dl:c.Xq.length<2^40
 ds:∀x∈c.Xq,x.args.length<2^40
 gl:c.Xm.length<2^40
 gs:∀x∈c.Xm,x.length<2^40
structure UndS (u:Xc):Prop where
 op:OpS u
 pos:u.kind=1->0<u.id
 zero:u.kind=4->u.id=0
theorem qapi (p:Prg) (c:Xf) (o:Xc) (l:List Xc):xoF p c (o::l)=xoF p (xoC p c o) l:=rfl
theorem qnu (p:Prg) (c:Xf) (l:List Xc):cfgN p c l l.length=xoF p c l:=by unfold cfgN;rw [QAf]
def be2 (v:Int):List Int:=[v / 256 % 256,v % 256]
def be4 (v:Int):List Int:=[v / 16777216 % 256,v / 65536 % 256,v / 256 % 256,v % 256]
def qcd (n:Int):Bool:=decide (0<=n)&&decide (n<=65535)
def idI (n:Int):Bool:=decide (0<=n)&&decide (n<=2147483647)
def qbv (c:Xb):Bool:=qcd c.action&&decide (c.args.length<=255)
def opE (o:Xc):Bool:=qcd o.table&&(if o.kind=1 then qcd o.entry.Xt&&(decide (o.entry.keys.length<=255)&&qbv o.entry.call) else if o.kind=2 then idI o.id&&qbv o.call else if o.kind=3 then idI o.id else if o.kind=4 then qbv o.call else false)
def keyB (k:Xi):List Int:=be4 k.value++be4 k.mask
def qci (l:List Int):List Int:=(l.map be4).flatten
def qby (l:List Xi):List Int:=(l.map keyB).flatten
def qcn (c:Xb):List Int:=be2 c.action++((c.args.length:Int)::qci c.args)
def opB (o:Xc):List Int:=o.kind::(be2 o.table++(if o.kind=1 then be2 o.entry.Xt++((o.entry.keys.length:Int)::(qby o.entry.keys++qcn o.entry.call)) else if o.kind=2 then be4 o.id++qcn o.call else if o.kind=3 then be4 o.id else qcn o.call))
def opsB (l:List Xc):List Int:=(l.map opB).flatten
def encB (l:List Xc):List Int:=if l.length<=64/\∀o∈l,opE o=true then (l.length:Int)::opsB l else []
@[ext] structure Stt where
 b:List Int
 e:Int
def num:Nat->List Int->Int
 | 1,a::_=>a
 | 2,a::b::_=>256*a+b
 | 4,a::b::c::d::_=>256*(256*(256*a+b)+c)+d
 | _,_=>0
def rdN (n:Nat) (s:Stt):Stt×Int:=if s.e=0 then (if s.b.length<n then (⟨s.b,3⟩,0) else (⟨s.b.drop n,0⟩,num n s.b)) else (s,0)
def rdI (s:Stt):Stt×Int:=(if (rdN 4 s).2>2147483647 then ⟨(rdN 4 s).1.b,5⟩ else (rdN 4 s).1,(rdN 4 s).2)
def ql9:Nat->Stt->Stt×List Int
 | 0,s=>(s,[])
 | n+1,s=>if s.e=0 then ((ql9 n (rdN 4 s).1).1,(rdN 4 s).2::(ql9 n (rdN 4 s).1).2) else (s,[])
def qub (s:Stt):Stt×Xb:=
 let p:=rdN 2 s
 let q:=rdN 1 p.1
 let r:=ql9 q.2.toNat q.1
 (r.1,⟨p.2,r.2⟩)
def okK (k:Xi):Prop:=(0<=k.value/\k.value<=4294967295)/\(0<=k.mask/\k.mask<=4294967295)
def okC (c:Xb):Prop:=∀x∈c.args,0<=x/\x<=4294967295
def okO (o:Xc):Prop:=(∀x∈o.entry.keys,okK x)/\okC o.entry.call/\okC o.call
def okB (l:List Int):Prop:=∀x∈l,0<=x/\x<=255
theorem rd_e {n:Nat} {s:Stt} (h:(rdN n s).1.e=0):s.e=0:=by
 unfold rdN at h;split at h
 ·assumption
 ·exact h
theorem rd_in {n:Nat} {s:Stt} (h:(rdN n s).1.e=0):n<=s.b.length/\rdN n s=(⟨s.b.drop n,0⟩,num n s.b):=by
 have he:=rd_e h;unfold rdN at h ⊢;rw [QAa he] at h ⊢;by_cases q:s.b.length<n
 ·rw [QAa q] at h;simp at h
 ·rw [QA q];exact ⟨by omega,rfl⟩
theorem qakg {s:Stt} (hb:okB s.b) (h:(rdN 4 s).1.e=0):s.b=be4 (rdN 4 s).2++(rdN 4 s).1.b/\0<=(rdN 4 s).2/\(rdN 4 s).2<=4294967295:=by
 obtain ⟨h1,h2⟩:=rd_in h;rw [h2]
 match hs:s.b,h1 with
 | a::b::c::d::l,_=>
  rw [hs] at hb;have ha:=hb a (by simp);have hb':=hb b (by simp);have hc:=hb c (by simp);have hd:=hb d (by simp);simp [num,be4];omega
def fnv1 (h c:Int):Int:=ixor .u32 h c*16777619 % 4294967296
def fnvL (h:Int) (b:List Int):Int:=b.foldl fnv1 h
def fnv (b:List Int):Int:=fnvL 2166136261 b
def frB (b:List Int):List Int:=be4 b.length++(b++be4 (fnv (be4 b.length++b)))
theorem qaca (h c:Int):0<=fnv1 h c/\fnv1 h c<=4294967295:=by unfold fnv1;omega
theorem qtm:∀(b:List Int) (h:Int),0<=h/\h<=4294967295->0<=fnvL h b/\fnvL h b<=4294967295
 | [],_,hh=>hh
 | c::b,h,_=>qtm b (fnv1 h c) (qaca h c)
theorem qp4 (b:List Int):0<=fnv b/\fnv b<=4294967295:=qtm b _ (by omega)
theorem qg6 (v:Int):(be4 v).length=4:=rfl
theorem qmu (b:List Int):(frB b).length=b.length+8:=by simp [frB,qg6];omega
structure LgV where
 c:Xf
 b:List Int
 n:Nat
def cmt (p:Prg) (g:LgV) (l:List Xc):LgV:=⟨xoF p g.c l,g.b++frB (encB l),g.n+1⟩
theorem PrgV.acts {p:Prg} (v:PrgV p):p.actions.length<=16:=by
 have h:=v.lim;unfold limD at h
 repeat' split at h
 all_goals first | omega | cases h
def frs (G:List (List Xc)):List Int:=(G.map fun l=>frB (encB l)).flatten
theorem qaow (l:List Xc) (G:List (List Xc)):frs (l::G)=frB (encB l)++frs G:=rfl
theorem qab5 {l:List Xc} (h:∀o∈l,opE o=true) (h64:l.length<=64):(encB l).length<=300000:=by
 unfold encB;rw [QAa ⟨h64,h⟩];have:∀(l:List Xc),(∀o∈l,opE o=true)->(opsB l).length<=4000*l.length:=by
  intro l
  induction l with
  | nil=>simp [opsB]
  | cons x l ih=>
   intro h;have h1:=ih fun o ho=>h o (by simp [ho])
   have h2:(opB x).length<=4000:=by
    have hx:=h x (by simp);have hc:∀c:Xb,qbv c=true->(qcn c).length<=1100:=by
     intro c hc;have ha:∀l:List Int,(qci l).length=4*l.length:=by
      intro l
      induction l with
      | nil=>rfl
      | cons y l ih=>simp [qci,be4] at ih ⊢;omega
     simp [qbv] at hc;simp [qcn,be2,ha];omega
    have hk:∀l:List Xi,(qby l).length=8*l.length:=by
     intro l
     induction l with
     | nil=>rfl
     | cons y l ih=>simp [qby,keyB,be4] at ih ⊢;omega
    unfold opE at hx;unfold opB;by_cases k1:x.kind=1
    ·simp [k1] at hx;have:=hc _ hx.2.2.2;simp [k1,be2,hk];omega
    by_cases k2:x.kind=2
    ·simp [k2] at hx;have:=hc _ hx.2.2;simp [k2,be2,be4];omega
    by_cases k3:x.kind=3
    ·simp [k3,be2,be4]
    by_cases k4:x.kind=4
    ·simp [k4] at hx;have:=hc _ hx.2;simp [k4,be2];omega
    ·simp [k1,k2,k3,k4] at hx
   simp [opsB] at h1 ⊢;omega
 have:=this l h;simp;omega
theorem PrgV.regs {p:Prg} (v:PrgV p) {k:Nat} (hk:k<p.Xm.length):regE p.Xm[k]=0:=by
 have:=(fe_all.1 v.reg) k hk;simp only [Qa hk,QAi] at this;have hE:qfw p k p.Xm[k]=0:=by
  refine Decidable.byContradiction fun hc=>?_
  rw [QA hc] at this;cases this
 unfold qfw at hE;refine Decidable.byContradiction fun hc=>?_
 rw [QAa hc] at hE;exact hc hE
theorem PrgV.tblz {p:Prg} (v:PrgV p) {k:Nat} (hk:k<p.Xn.length):(tblE p k).2=0:=by
 have:=(fe_all.1 v.tbl) k hk;simp only [Qa hk,QAi] at this;refine Decidable.byContradiction fun hc=>?_
 rw [QAa hc] at this;cases this
theorem qaef {p:Prg} {k:Nat} (hk:k<p.Xn.length) (h:(tblE p k).2=0):qbg p k p.Xn[k].dflt=0:=by
 have ho:tOk p k=true:=by simp [tOk,h]
 unfold tblE at h;rw [qiz,Qa hk] at h;dsimp only at h;split at h
 ·cases h
 split at h
 ·cases h
 split at h
 ·cases h
 split at h
 ·rename_i hc;exact absurd h hc
 split at h
 ·rename_i hc;exact absurd h hc
 rename_i hc;have ht:qhx p p.Xn[k]=0:=by simpa using hc
 unfold qhx at ht;split at ht
 ·rename_i e he;exfalso;subst ht;obtain ⟨i,_,hx⟩:=qd7 he;rw [Qt] at hx;obtain ⟨a,_,hx⟩:=hx;split at hx
  ·cases hx
  ·split at hx<;>cases hx
 split at ht
 ·rename_i hcon;unfold qbg;have hA:tAl p k p.Xn[k].dflt.action=true:=by
   unfold tAl;rw [ho,qiz,Qa hk];simp at hcon ⊢;exact hcon
  rw [QA (by simp [hA])];exact ht
 ·cases ht
theorem qacl (w:Int):0<=qbh w:=by
 unfold qbh;split
 ·exact Int.le_refl 0
 ·have:(0:Int)<2^w.toNat:=Int.pow_pos (by decide);omega
theorem qai5 {p:Prg} (h:(prgD p).1=0):CfgV p (qbw p):=by
 have v:=qpu h;refine ⟨h,by simp [qbw],by simp [qbw],by simp [qbw],?_,?_⟩
 ·intro k tb l nx d h1 h2 h3 h4;obtain ⟨hk,rfl⟩:=Qm.1 h1;simp [qbw,hk] at h2 h3 h4;subst h2 h3 h4;have hz:=v.tblz hk;obtain ⟨k',hk',hkk,o⟩:=qg1 (p:=p) (t:=(k:Int)) (by simp [tOk,hz]);have:k'=k:=by omega
  subst this;have:=o.size;exact ⟨by simp;omega,by simp,by simp,by simp,by decide,by decide,by simp,by simp,qaef hk hz⟩
 ·unfold conE;rw [QA (by simp [qbw,newR])];have e1:fe (szG p (qbw p).Xm) (qbw p).Xm.length 0=none:=by
   refine fe_all.2 fun i hi=>?_
   have hi2:i<p.Xm.length:=by simpa [qbw,newR] using hi
   have hr:=v.regs hi2;have hs:¬(p.Xm[i].size<1\/64<p.Xm[i].size):=by
    intro hc;unfold regE at hr;split at hr
    ·cases hr
    split at hr
    ·cases hr
    first | (rw [QAa hc] at hr;cases hr) | cases hr
   simp [szG,qbw,newR,hi2,regN,hs];omega
  have e2:fe (vlG p (qbw p).Xm) (qbw p).Xm.length 0=none:=by
   refine fe_all.2 fun i hi=>?_
   have hi2:i<p.Xm.length:=by simpa [qbw,newR] using hi
   have hm:=qacl p.Xm[i].width;simp [vlG,qbw,newR,hi2];intro _;omega
  rw [e1,e2];rfl
def cSt (s:Stt):List AV:=[.slice 1 (s.b.map c8),.int .i64 s.e]
theorem qol (s:Stt):cSt s=[.slice 1 (s.b.map c8),.int .i64 s.e]:=by simp [cSt]
theorem c8e (x:Int):c8 x=[.int .u8 x]:=by simp [c8]
theorem qact (b:List Int) (h:3<b.length):num 4 b=256*(256*(256*b[0]+b[1])+b[2])+b[3]:=by
 match b,h with
 | a::c::d::e::l,_=>simp [num]
theorem qds {x:Int} (h:0<=x/\x<=4294967295):IntKind.wrap .u32 x=x:=by
 unfold IntKind.wrap;simp [IntKind.bits,IntKind.signed];omega
theorem qagw {s:Stt} (hb:okB s.b):0<=(rdN 4 s).2/\(rdN 4 s).2<=4294967295:=by
 by_cases h:(rdN 4 s).1.e=0
 ·exact (qakg hb h).2
 ·have:(rdN 4 s).2=0:=by
   unfold rdN at h ⊢;split
   ·split
    ·rfl
    ·rename_i q1 q2;rw [QAa q1,QA q2] at h;simp at h
   ·rfl
  omega
def cC (c:Xb):List AV:=[.int .i64 c.action,.slice 1 (c.args.map c32)]
theorem cC_e (c:Xb):cC c=[.int .i64 c.action,.slice 1 (c.args.map c32)]:=by simp [cC]
theorem qmm (x:Int):c32 x=[.int .u32 x]:=by simp [c32]
theorem Xi.ceJ (x:Xi):Xi.c x=[.int .u32 x.value,.int .u32 x.mask]:=by simp [Xi.c]
theorem Xc.ce (x:Xc):Xc.c x=[.int .i64 x.kind,.int .i64 x.table,.int .i64 x.id,.slice 2 (x.entry.keys.map Xi.c),.int .i64 x.entry.Xt,.int .i64 x.entry.call.action,.slice 1 (x.entry.call.args.map c32),.int .i64 x.call.action,.slice 1 (x.call.args.map c32)]:=by simp [Xc.c]
theorem qsm {v x:Int} (hv:0<=v/\v<16777216) (hx:0<=x/\x<=255):ior .u32 (ishl .u32 v 8) x=256*v+x:=by
 obtain ⟨n,rfl⟩:∃n:Nat,v=(n:Int):=⟨v.toNat,by omega⟩;obtain ⟨b,rfl⟩:∃b:Nat,x=(b:Int):=⟨x.toNat,by omega⟩;have e1:ishl .u32 (n:Int) 8=((n*256:Nat):Int):=by
  unfold ishl;have:((n:Int)*2^(min (8:Int).toNat (IntKind.bits .u32)))=((n*256:Nat):Int):=by
   have:(2:Int)^(min (8:Int).toNat (IntKind.bits .u32))=256:=by decide
   rw [this];omega
  rw [this,qds (by omega)]
 rw [e1];unfold ior;have h2:(BitVec.ofInt (IntKind.bits .u32) ((n*256:Nat):Int) ||| BitVec.ofInt (IntKind.bits .u32) (b:Int)).toNat=256*n+b:=by
  rw [BitVec.toNat_or];rw [QBs,QBs,QAw,QAw];have hbits:IntKind.bits .u32=32:=rfl;rw [hbits,QAx (by omega),QAx (by omega)];have:=Nat.shiftLeft_add_eq_or_of_lt (b:=b) (i:=8) (by omega) n;rw [Nat.shiftLeft_eq] at this;rw [show n*256=n*2^8 by rfl,<- this];omega
 rw [h2,qds (by omega)];omega
theorem dnum4 (s:Stt) (hb:okB s.b) (T:List (Nat×AO)) (N:Nat):qak Φ f_122 [.ptr 0 2 0 0,.int .i64 4] ⟨(0,.row 2 [cSt s])::T,N⟩=some (.val (.int .u32 (rdN 4 s).2),⟨(0,.row 2 [cSt (rdN 4 s).1])::T,N⟩):=by
 rw [qaz (fn:=c_122) rfl rfl];by_cases q:s.e=0
 rotate_left
 ·simp [c_122,qol,rdN,q]
 by_cases q1:s.b.length<4
 ·have q1':(s.b.length:Int)<4:=by omega
  simp [c_122,qol,rdN,q,q1,q1']
 obtain ⟨b,e⟩:=s;simp only at q q1 hb;have q2:¬((b.length:Int)<4):=by omega
 have q3:(4:Int)<=b.length:=by omega
 have q4:4<=b.length:=by omega
 have i0:0<b.length:=by omega
 have h0:=hb _ (Qd i0);have w0:IntKind.wrap .u32 b[0]=b[0]:=qds (by omega);have i1:1<b.length:=by omega
 have h1:=hb _ (Qd i1);have w1:IntKind.wrap .u32 b[1]=b[1]:=qds (by omega);have i2:2<b.length:=by omega
 have h2:=hb _ (Qd i2);have w2:IntKind.wrap .u32 b[2]=b[2]:=qds (by omega);have i3:3<b.length:=by omega
 have h3:=hb _ (Qd i3);have w3:IntKind.wrap .u32 b[3]=b[3]:=qds (by omega);have k0:IntKind.wrap .i64 0=0:=by decide
 have k1:IntKind.wrap .i64 1=1:=by decide
 have k2:IntKind.wrap .i64 2=2:=by decide
 have k3:IntKind.wrap .i64 3=3:=by decide
 have k4:IntKind.wrap .i64 4=4:=by decide
 simp [c_122,qol,rdN,q,q1,q2,q3,q4,qact b i3];rw [qap];simp [c_122_l0,c8e,k0,k1,k2,k3,k4,i0,w0,i1,w1,i2,w2,i3,w3,q4];rw [qap];simp [c_122_l0,c8e,k0,k1,k2,k3,k4,i0,w0,i1,w1,i2,w2,i3,w3,q4];rw [qap];simp [c_122_l0,c8e,k0,k1,k2,k3,k4,i0,w0,i1,w1,i2,w2,i3,w3,q4];rw [qap];simp [c_122_l0,c8e,k0,k1,k2,k3,k4,i0,w0,i1,w1,i2,w2,i3,w3,q4];rw [qap];simp [c_122_l0,c_122_k1,q3,q4];have x0:ior .u32 (ishl .u32 0 8) b[0]=b[0]:=by rw [qsm (by omega) (by omega)];omega
 have x1:ior .u32 (ishl .u32 (b[0]) 8) b[1]=256*(b[0])+b[1]:=qsm (by omega) (by omega);have x2:ior .u32 (ishl .u32 (256*(b[0])+b[1]) 8) b[2]=256*(256*(b[0])+b[1])+b[2]:=qsm (by omega) (by omega);have x3:ior .u32 (ishl .u32 (256*(256*(b[0])+b[1])+b[2]) 8) b[3]=256*(256*(256*(b[0])+b[1])+b[2])+b[3]:=qsm (by omega) (by omega);have fin:ior .u32 (ishl .u32 (ior .u32 (ishl .u32 (ior .u32 (ishl .u32 (ior .u32 (ishl .u32 0 8) b[0]) 8) b[1]) 8) b[2]) 8) b[3]=256*(256*(256*(b[0])+b[1])+b[2])+b[3]:=by rw [x0,x1,x2,x3]
 exact ⟨fin,Qo (by simp)⟩
theorem dreq (s:Stt) (ok:Bool) (c:Int) (T:List (Nat×AO)) (N:Nat):qak Φ f_123 [.ptr 0 2 0 0,.bool ok,.int .i64 c] ⟨(0,.row 2 [cSt s])::T,N⟩=
  some (.val (.tup []),⟨(0,.row 2 [cSt (if s.e=0/\ok=false then ⟨s.b,c⟩ else s)])::T,N⟩):=by
 rw [qaz (fn:=c_123) rfl rfl];by_cases q:s.e=0
 ·cases ok<;>simp [c_123,qol,q]
 ·cases ok<;>simp [c_123,qol,q]
theorem qac8 {n:Nat} {s:Stt} (h:(rdN n s).1.e≠0):(rdN n s).2=0:=by
 unfold rdN at h ⊢;split
 ·split
  ·rfl
  ·rename_i q1 q2;rw [QAa q1,QA q2] at h;simp at h
 ·rfl
theorem did (s:Stt) (hb:okB s.b) (T:List (Nat×AO)) (N:Nat):qak Φ f_194 [.ptr 0 2 0 0] ⟨(0,.row 2 [cSt s])::T,N⟩=some (.val (.int .i64 (rdI s).2),⟨(0,.row 2 [cSt (rdI s).1])::T,N⟩):=by
 rw [qaz (fn:=c_194) rfl rfl];have h4:=dnum4 s hb T N;have hr:=qagw hb;have hw:IntKind.wrap .i64 (rdN 4 s).2=(rdN 4 s).2:=qa6 (by omega) (by omega);have hq:=dreq (rdN 4 s).1 (decide ((rdN 4 s).2<=2147483647)) 5 T N;have e:(if (rdN 4 s).1.e=0/\decide ((rdN 4 s).2<=2147483647)=false then (⟨(rdN 4 s).1.b,5⟩:Stt) else (rdN 4 s).1)=(rdI s).1:=by
  simp only [rdI];by_cases z:(rdN 4 s).1.e=0
  ·by_cases y:(rdN 4 s).2<=2147483647
   ·have y':¬(2147483647<(rdN 4 s).2):=by omega
    simp [z,y,y']
   ·simp [z,y]
  ·have:=qac8 z;simp [z,this]
 rw [e] at hq;simp [c_194,h4,hq,hw,rdI]
theorem qfk {α:Type} (f:α->α->Bool):∀l:List α,(∀x∈l,f x x=true)->eqL f l l=true
 | [],_=>by simp [eqL]
 | x::r,h=>by simp [eqL,h x (QCa ..),qfk f r (fun y hy=>h y (QAv _ hy))]
theorem qd2 (n:Nat) (k:IntKind) (v:Int):avEq (n+1) (.int k v) (.int k v)=true:=by unfold avEq;simp
theorem qqw (z:Nat) (cs:List AV) (h:∀x∈cs,avEq 40 x x=true):aoEq (some (.row z [cs])) (some (.row z [cs]))=true:=by
 have h1:=qfk (avEq 40) cs h;unfold aoEq;simp [qah,eqL,h1]
theorem qjg {Φ:FuncId->Option AFun} {β:Type} {fin:Option (Ex×St)->Option β} {σ:Type} (m:σ->Nat) (Inv:σ->Env->AH->Prop) (R:σ->Option β->Prop) {b:Xv} {K:List Fr}
  (step:∀x e h L,(∀j s,go Φ fin L (.exit j) s=go Φ fin K (.exit j) s)->Inv x e h->(∀y e' h',m y<m x->Inv y e' h'->R y (go Φ fin L .normal ⟨e',h'⟩))->R x (go Φ fin (.c b::L) .normal ⟨e,h⟩)):
  ∀x e h,Inv x e h->R x (go Φ fin (.c (.loop b)::K) .normal ⟨e,h⟩):=by
 have key:∀n x e h,m x<=n->Inv x e h->R x (go Φ fin (.c (.loop b)::K) .normal ⟨e,h⟩):=by
  intro n
  induction n with
  | zero=>
   intro x e h hn hi;rw [qap];exact step x e h _ (fun j s=>by simp) hi fun y e' h' hlt=>by omega
  | succ n ih=>
   intro x e h hn hi;rw [qap];exact step x e h _ (fun j s=>by simp) hi fun y e' h' hlt hy=>ih y e' h' (by omega) hy
 intro x e h hi;exact key (m x) x e h (Qb _) hi
structure HExt (p:Nat) (E:List (Nat×AO)) (N:Nat):Prop where
 le:p<=N
 lo:∀j,j<p->look j E=none
 hi:Tail E N
 sw:qa2 E=E
theorem qam3 (s:Stt):(qub s).1=(ql9 (rdN 1 (rdN 2 s).1).2.toNat (rdN 1 (rdN 2 s).1).1).1:=rfl
theorem qal7 (s:Stt):(qub s).2.args=(ql9 (rdN 1 (rdN 2 s).1).2.toNat (rdN 1 (rdN 2 s).1).1).2:=rfl
theorem qam2 (s:Stt):(qub s).2.action=(rdN 2 s).2:=rfl
theorem Tail.three {T E:List (Nat×AO)} {p N:Nat} (hT:Tail T p) (a b:AO) (hE:Tail E N) (h:p+2<=N):Tail (T++(p,a)::(p+1,b)::E) N:=by
 intro j hj;have h1:=hT j (by omega);have h2:=hE j hj;have n1:¬p=j:=by omega
 have n2:¬p+1=j:=by omega
 simp [h1,h2,n1,n2]
theorem qa3 {t:Nat} {x y:AO}:∀{O:List (Nat×AO)},look t O=some x->look t (setl t y O)=some y
 | [],h=>by simp at h
 | (u,z)::r,h=>by
  by_cases hu:u=t
  ·subst hu;simp
  ·simp [hu] at h;simp [hu,qa3 h]
theorem qco {t j:Nat} {y:AO} (hj:j≠t):∀{O:List (Nat×AO)},look j (setl t y O)=look j O
 | []=>by simp
 | (u,z)::r=>by
  by_cases hu:u=t
  ·subst hu;have:¬u=j:=fun h=>hj h.symm
   simp [this]
  ·by_cases hv:u=j
   ·subst hv;simp [hu]
   ·simp [hu,hv,qco hj]
theorem qdf {t:Nat} {y z:AO}:∀{O:List (Nat×AO)},setl t z (setl t y O)=setl t z O
 | []=>by simp
 | (u,w)::r=>by
  by_cases hu:u=t
  ·subst hu;simp
  ·simp [hu,qdf]
theorem qgl {t:Nat} {x y:AO}:∀{O r:List (Nat×AO)},look t O=some x->setl t y (O++r)=setl t y O++r
 | [],_,h=>by simp at h
 | (u,w)::o,r,h=>by
  by_cases hu:u=t
  ·subst hu;simp
  ·simp [hu] at h;simp [hu,qgl h]
theorem qd9 {t N:Nat} {y:AO} {O:List (Nat×AO)} (h:Tail O N) (ht:t<N):Tail (setl t y O) N:=by
 intro j hj;rw [qco (by omega)];exact h j hj
theorem wr8u (v:Int):IntKind.wrap .u8 v=v % 256:=by simp [IntKind.wrap,IntKind.bits,IntKind.signed]
theorem ishr0 (v:Int):ishr .i64 v 0=v:=by
 unfold ishr;have:(2:Int)^(min (0:Int).toNat (IntKind.bits .i64))=1:=by decide
 rw [this,Int.fdiv_one]
theorem ishr8 (v:Int):ishr .i64 v 8=v / 256:=by
 unfold ishr;have:(2:Int)^(min (8:Int).toNat (IntKind.bits .i64))=256:=by decide
 rw [this,QBl _ (by decide)]
theorem qajo (v:Int):ishr .i64 v 16=v / 65536:=by
 unfold ishr;have:(2:Int)^(min (16:Int).toNat (IntKind.bits .i64))=65536:=by decide
 rw [this,QBl _ (by decide)]
theorem qajp (v:Int):ishr .i64 v 24=v / 16777216:=by
 unfold ishr;have:(2:Int)^(min (24:Int).toNat (IntKind.bits .i64))=16777216:=by decide
 rw [this,QBl _ (by decide)]
theorem qw0 {O:List (Nat×AO)} {N t:Nat} {E:List (List AV)} {v:Int} (h:look t O=some (.tok 1 E.length)) (hE:E.length<=1099511627776):
  qak Φ f_129 [.app 1 E t,.int .i64 v,.int .i64 2] ⟨O,N⟩=some (.val (.app 1 (E++[[.int .u8 (v / 256 % 256)],[.int .u8 (v % 256)]]) t),⟨setl t (.tok 1 (E.length+2)) O,N⟩):=by
 rw [qaz (fn:=c_129) rfl rfl];have k1:IntKind.wrap .i64 1=1:=by decide
 have k0:IntKind.wrap .i64 0=0:=by decide
 have k8:IntKind.wrap .i64 8=8:=by decide
 have km:IntKind.wrap .i64 (-1)= -1:=by decide
 have l1:E.length+1<=70368744177664:=by omega
 have l2:E.length+1+1<=70368744177664:=by omega
 simp [c_129,k1];rw [qap];simp [c_129_l0,k0,k8,h,l1,wr8u];rw [qap];simp [c_129_l0,k0,km,qa3 h,l2,wr8u];rw [qap];simp [c_129_l0,c_129_k1];exact ⟨⟨by rw [ishr8],by rw [ishr0]⟩,qdf⟩
theorem qoh {O:List (Nat×AO)} {N t:Nat} {E:List (List AV)} {v:Int} (h:look t O=some (.tok 1 E.length)) (hE:E.length<=1099511627776):
  qak Φ f_129 [.app 1 E t,.int .i64 v,.int .i64 4] ⟨O,N⟩=some (.val (.app 1 (E++[[.int .u8 (v / 16777216 % 256)],[.int .u8 (v / 65536 % 256)],[.int .u8 (v / 256 % 256)],[.int .u8 (v % 256)]]) t),⟨setl t (.tok 1 (E.length+4)) O,N⟩):=by
 rw [qaz (fn:=c_129) rfl rfl];have k3:IntKind.wrap .i64 3=3:=by decide
 have k2:IntKind.wrap .i64 2=2:=by decide
 have k1:IntKind.wrap .i64 1=1:=by decide
 have k0:IntKind.wrap .i64 0=0:=by decide
 have k8:IntKind.wrap .i64 8=8:=by decide
 have k16:IntKind.wrap .i64 16=16:=by decide
 have k24:IntKind.wrap .i64 24=24:=by decide
 have km:IntKind.wrap .i64 (-1)= -1:=by decide
 have l1:E.length+1<=70368744177664:=by omega
 have l2:E.length+1+1<=70368744177664:=by omega
 have l3:E.length+1+1+1<=70368744177664:=by omega
 have l4:E.length+1+1+1+1<=70368744177664:=by omega
 simp [c_129,k3];rw [qap];simp [c_129_l0,k2,k24,h,l1,wr8u];rw [qap];simp [c_129_l0,k1,k16,qa3 h,l2,wr8u,qdf];rw [qap];simp [c_129_l0,k0,k8,qa3 h,l3,wr8u,qdf];rw [qap];simp [c_129_l0,k0,km,qa3 h,l4,wr8u,qdf];rw [qap];simp [c_129_l0,c_129_k1];exact ⟨by rw [qajp],by rw [qajo],by rw [ishr8],by rw [ishr0]⟩
def AQ (t N:Nat) (E:List (List AV)) (r:Option (Rt×AH)):Prop:=
 ∃O' N',r=some (.val (.app 1 E t),⟨O',N'⟩)/\N<=N'/\Tail O' N'/\look t O'=some (.tok 1 E.length)
theorem qkh {l:List Int} {i:Nat} (hi:i<l.length):qci (l.take (i+1))=qci (l.take i)++be4 l[i]:=by
 unfold qci;rw [Qh hi,QAu,List.flatten_append];simp
theorem qfe:∀l:List Int,(qci l).length=4*l.length
 | []=>by simp [qci]
 | x::l=>by
  have:=qfe l;have e:qci (x::l)=be4 x++qci l:=by simp [qci]
  rw [e,QAe,this];simp [be4];omega
theorem qep (v:Int):(be4 v).map c8=[[.int .u8 (v / 16777216 % 256)],[.int .u8 (v / 65536 % 256)],[.int .u8 (v / 256 % 256)],[.int .u8 (v % 256)]]:=by simp [be4,c8e]
theorem qff (v:Int):(be2 v).map c8=[[.int .u8 (v / 256 % 256)],[.int .u8 (v % 256)]]:=by simp [be2,c8e]
theorem qwz {N0 N t:Nat} {E:List (List AV)} {l:List Int} (ht:t<N) (hE:E.length<=549755814900) (hl:l.length<=255) (ho:∀x∈l,0<=x/\x<=4294967295) (hN0:N0<=N)
  (e:Env) (O:List (Nat×AO)) (hT:Tail O N) (h:look t O=some (.tok 1 E.length)) (h0:look 0 e=some (.app 1 E t)) (h19:look 19 e=some (.slice 1 (l.map c32))) (h20:look 20 e=some (.int .i64 l.length)) (h21:look 21 e=some (.int .i64 0)):
  AQ t N0 (E++(qci l).map c8) (go Φ (finC [.tmp 4]) [.c (.loop c_130_l0),.b 0,.c c_130_k1] .normal ⟨e,⟨O,N⟩⟩):=by
 refine qjg (fun i:Nat=>l.length - i) (fun i e h=>i<=l.length/\look 0 e=some (.app 1 (E++(qci (l.take i)).map c8) t)/\look 19 e=some (.slice 1 (l.map c32))/\look 20 e=some (.int .i64 l.length)/\look 21 e=some (.int .i64 i)/\
  ∃O,Tail O N/\look t O=some (.tok 1 (E++(qci (l.take i)).map c8).length)/\h=⟨O,N⟩) (fun _=>AQ t N0 (E++(qci l).map c8)) ?_ 0 e _ ⟨Qc _,by simp [h0,qci],h19,h20,by simp [h21],O,hT,by simp [h,qci],rfl⟩
 rintro i e _ L hL ⟨hi,h0,h19,h20,h21,O,hT,h,rfl⟩ ih;rcases Qv i l.length with hlt | hge
 ·have hw:=qaf i (by omega);have hx:=ho _ (Qd hlt);have hx64:IntKind.wrap .i64 l[i]=l[i]:=qa6 (by omega) (by omega);have hlen:(E++(qci (l.take i)).map c8).length<=1099511627776:=by
   rw [QAe,QAc,qfe,QAd];omega
  have h4:=qoh (N:=N) (v:=l[i]) h hlen;simp [c_130_l0,h0,h19,h20,h21,hlt,hL,qmm,hx64,hw,h4];refine ih (i+1) _ _ (by omega) ⟨hlt,?_,by simp [h19,qmm],by simp [h20],by simp,_,qd9 hT ht,?_,rfl⟩
  ·simp [qkh hlt,qep]
  ·rw [qa3 h];simp [qkh hlt,be4];omega
 ·have hi':i=l.length:=by omega
  subst hi';simp [c_130_l0,c_130_k1,h0,h19,h20,h21,hL];refine ⟨O,N,by simp,hN0,hT,?_⟩;rw [h];simp
theorem qwy {O:List (Nat×AO)} {N t:Nat} {E:List (List AV)} {c:Xb} (h:look t O=some (.tok 1 E.length)) (hT:Tail O N) (ht:t<N) (hE:E.length<=549755813888) (ha:c.args.length<=255) (ho:okC c):
  AQ t N (E++(qcn c).map c8) (qak Φ f_130 [.app 1 E t,.agg (cC c)] ⟨O,N⟩):=by
 rw [qaz (fn:=c_130) rfl rfl];have hN:=hT N (Qb _);have hw:IntKind.wrap .u8 (c.args.length:Int)=(c.args.length:Int):=by rw [wr8u];omega
 have h2:=qw0 (O:=O++[(N,.row 2 [cC c])]) (N:=N+1) (t:=t) (E:=E) (v:=c.action) (by rw [qa5,h];rfl) (by omega);have hl:E.length+2+1<=70368744177664:=by omega
 have hne:¬N=t:=by omega
 have hne':¬t=N:=by omega
 simp only [cC_e,qgl h] at h2;simp [c_130,cC_e,hN,h2,qa5,qa3 h,qco hne,qgl (qa3 h),qdf,hl,hw];have hl:=fun e h1 h2 h3 h4=>qwz (N0:=N) (N:=N+1) (t:=t) (E:=E++[[.int .u8 (c.action / 256 % 256)],[.int .u8 (c.action % 256)],[.int .u8 c.args.length]]) (l:=c.args) (Nat.lt_succ_of_lt ht) (by rw [QAe];simp only [QAl,QAq];omega) ha ho (QBg N) e
  (setl t (.tok 1 (E.length+2+1)) O++[(N,.row 2 [[.int .i64 c.action,.slice 1 (c.args.map c32)]])]) ((qd9 hT ht).app _) (by rw [qa5,qa3 h];simp) h1 h2 h3 h4
 have e:E++(qcn c).map c8=(E++[[.int .u8 (c.action / 256 % 256)],[.int .u8 (c.action % 256)],[.int .u8 c.args.length]])++(qci c.args).map c8:=by
  simp [qcn,be2,c8e]
 rw [e];exact hl _ (by simp) (by simp) (by simp) (by simp)
def opC1:Xv:=match c_64.body with | .seq a _=>a | c=>c
def opC2:Xv:=match c_64.body with | .seq _ (.seq a _)=>a | c=>c
def opC3:Xv:=match c_64.body with | .seq _ (.seq _ a)=>a | c=>c
theorem qaj1:c_64.body= .seq opC1 (.seq opC2 opC3):=rfl
theorem qpx (n z:Nat) (es:List (List AV)) (h:eqL (eqL (avEq n)) es es=true):avEq (n+1) (.slice z es) (.slice z es)=true:=by unfold avEq;simp [h]
theorem qaeu (o:Xc):aoEq (some (.row 9 [Xc.c o])) (some (.row 9 [Xc.c o]))=true:=by
 apply qqw;intro x hx;have hk:∀l:List Xi,avEq 40 (.slice 2 (l.map Xi.c)) (.slice 2 (l.map Xi.c))=true:=by
  intro l;refine qpx 39 _ _ (qfk _ _ ?_);intro x hx;obtain ⟨y,_,rfl⟩:=QAr.1 hx;rw [Xi.ceJ];exact qfk _ _ (by simp;exact ⟨qd2 38 _ _,qd2 38 _ _⟩)
 have ha:∀l:List Int,avEq 40 (.slice 1 (l.map c32)) (.slice 1 (l.map c32))=true:=by
  intro l;refine qpx 39 _ _ (qfk _ _ ?_);intro x hx;obtain ⟨y,_,rfl⟩:=QAr.1 hx;rw [qmm];exact qfk _ _ (by simp;exact qd2 38 _ _)
 rw [Xc.ce] at hx;simp only [QAj,QAy,or_false] at hx;rcases hx with rfl | rfl | rfl | rfl | rfl | rfl | rfl | rfl | rfl
 case _=>exact qd2 39 _ _
 case _=>exact qd2 39 _ _
 case _=>exact qd2 39 _ _
 case _=>exact hk _
 case _=>exact qd2 39 _ _
 case _=>exact qd2 39 _ _
 case _=>exact ha _
 case _=>exact qd2 39 _ _
 case _=>exact ha _
def opT (o:Xc):List Int:=be2 o.table++(if o.kind=1 then be2 o.entry.Xt++((o.entry.keys.length:Int)::(qby o.entry.keys++qcn o.entry.call)) else if o.kind=2 then be4 o.id++qcn o.call else if o.kind=3 then be4 o.id else qcn o.call)
theorem qaaj (o:Xc):opB o=o.kind::opT o:=rfl
theorem qnj {t z f:Nat}:∀{O:List (Nat×AO)},look t O=some (.tok z f)->look t (qa2 O)=some (.tok z f)
 | [],h=>by simp at h
 | (u,w)::r,h=>by
  by_cases hu:u=t
  ·subst hu;simp at h;subst h;simp
  ·simp [hu] at h;have:=qnj h;cases w<;>simp [hu,this]
theorem qm8 {N:Nat}:∀{O:List (Nat×AO)},Tail O N->Tail (qa2 O) N
 | [],h=>by simpa using h
 | (u,w)::r,h=>by
  have hr:Tail r N:=by
   intro j hj;have:=h j hj;by_cases hu:u=j
   ·subst hu;simp at this
   ·simpa [hu] using this
  have ih:=qm8 hr;intro j hj;have hu:¬u=j:=by
   intro hu;subst hu;have:=h u hj;simp at this
  have:=ih j hj;cases w<;>simp [hu,this]
theorem qo2 {l:List Xi} {i:Nat} (hi:i<l.length):qby (l.take (i+1))=qby (l.take i)++(be4 l[i].value++be4 l[i].mask):=by
 unfold qby;rw [Qh hi,QAu,List.flatten_append];simp [keyB]
theorem qfn:∀l:List Xi,(qby l).length=8*l.length
 | []=>by simp [qby]
 | x::l=>by
  have:=qfn l;have e:qby (x::l)=keyB x++qby l:=by simp [qby]
  rw [e,QAe,this];simp [keyB,be4];omega
theorem Tail.ltJ {O:List (Nat×AO)} {N t:Nat} {x:AO} (hT:Tail O N) (h:look t O=some x):t<N:=by
 rcases Qv t N with h1 | h1
 ·exact h1
 ·rw [hT t h1] at h;cases h
theorem qabr {N0 t p:Nat} {E:List (List AV)} {o:Xc} (hpt:p≠t) (hE:E.length<=274877916944) (hl:o.entry.keys.length<=255) (ho:∀x∈o.entry.keys,okK x) (ha:o.entry.call.args.length<=255) (ho2:okC o.entry.call)
  (e:Env) (O:List (Nat×AO)) (N:Nat) (hN0:N0<=N) (hT:Tail O N) (h:look t O=some (.tok 1 E.length)) (hp:look p O=some (.row 9 [Xc.c o]))
  (h0:look 0 e=some (.app 1 E t)) (h3:look 3 e=some (.ptr p 9 0 0)) (h36:look 36 e=some (.slice 2 (o.entry.keys.map Xi.c))) (h37:look 37 e=some (.int .i64 o.entry.keys.length)) (h38:look 38 e=some (.int .i64 0)):
  AQ t N0 (E++((qby o.entry.keys).map c8++(qcn o.entry.call).map c8)) (go Φ (finC [.tmp 4]) [.c (.loop c_64_l0),.b 1,.c c_64_k1,.b 0,.c c_64_k2] .normal ⟨e,⟨O,N⟩⟩):=by
 refine qjg (fun i:Nat=>o.entry.keys.length - i) (fun i e h=>i<=o.entry.keys.length/\look 0 e=some (.app 1 (E++(qby (o.entry.keys.take i)).map c8) t)/\look 3 e=some (.ptr p 9 0 0)/\look 36 e=some (.slice 2 (o.entry.keys.map Xi.c))/\look 37 e=some (.int .i64 o.entry.keys.length)/\look 38 e=some (.int .i64 i)/\
  ∃O N,N0<=N/\Tail O N/\look t O=some (.tok 1 (E++(qby (o.entry.keys.take i)).map c8).length)/\look p O=some (.row 9 [Xc.c o])/\h=⟨O,N⟩) (fun _=>AQ t N0 (E++((qby o.entry.keys).map c8++(qcn o.entry.call).map c8))) ?_ 0 e _ ⟨Qc _,by simp [h0,qby],h3,h36,h37,by simp [h38],O,N,hN0,hT,by simp [h,qby],hp,rfl⟩
 rintro i e _ L hL ⟨hi,h0,h3,h36,h37,h38,O,N,hN0,hT,h,hp,rfl⟩ ih;have htN:=hT.ltJ h;have hpN:=hT.ltJ hp;have hlenT:(E++(qby (o.entry.keys.take i)).map c8).length<=274877926944:=by
  rw [QAe,QAc,qfn,QAd];omega
 rcases Qv i o.entry.keys.length with hlt | hge
 ·have hw:=qaf i (by omega);obtain ⟨hx,hy⟩:=ho _ (Qd hlt);have hx64:IntKind.wrap .i64 o.entry.keys[i].value=o.entry.keys[i].value:=qa6 (by omega) (by omega);have hy64:IntKind.wrap .i64 o.entry.keys[i].mask=o.entry.keys[i].mask:=qa6 (by omega) (by omega);have hNN:=hT N (Qb _);have hNt:¬N=t:=by omega
  have hNp:¬N=p:=by omega
  have hD2:E++(qby (o.entry.keys.take (i+1))).map c8=(E++(qby (o.entry.keys.take i)).map c8)++((be4 o.entry.keys[i].value).map c8++(be4 o.entry.keys[i].mask).map c8):=by
   rw [qo2 hlt];simp
  generalize E++(qby (o.entry.keys.take i)).map c8=D at*;have h4:=qoh (O:=O++[(N,.row 2 [[.int .u32 o.entry.keys[i].value,.int .u32 o.entry.keys[i].mask]])]) (N:=N+1) (v:=o.entry.keys[i].value) (by rw [qa5,h];rfl) (by omega:D.length<=1099511627776);have h5:=qoh (O:=setl t (.tok 1 (D.length+4)) O++[(N,.row 2 [[.int .u32 o.entry.keys[i].value,.int .u32 o.entry.keys[i].mask]])]) (N:=N+1) (t:=t) (v:=o.entry.keys[i].mask)
   (E:=D++[[.int .u8 (o.entry.keys[i].value / 16777216 % 256)],[.int .u8 (o.entry.keys[i].value / 65536 % 256)],[.int .u8 (o.entry.keys[i].value / 256 % 256)],[.int .u8 (o.entry.keys[i].value % 256)]])
   (by rw [qa5,qa3 h,QAe];rfl) (by rw [QAe];simp only [QAl,QAq];omega)
  rw [qgl h] at h4;rw [qgl (qa3 h)] at h5;simp only [qdf,QBk,QAp,QBf] at h5;have hl2:look N (setl t (.tok 1 (D.length+4)) O)=none:=by rw [qco hNt];exact hNN
  simp [c_64_l0,h0,h3,h36,h37,h38,hlt,hL,Xi.ceJ,hx64,hy64,hw,hNN,h4,h5,hl2];refine ih (i+1) _ _ (by omega) ⟨hlt,?_,by simp [h3],by simp [h36,Xi.ceJ],by simp [h37],by simp,_,N+1,by omega,(qd9 hT htN).app _,?_,?_,rfl⟩
  ·simp [hD2,qep]
  ·rw [qa5,qa3 h,hD2];simp [be4]
  ·rw [qa5,qco hpt,hp];rfl
 ·have hi':i=o.entry.keys.length:=by omega
  subst hi';obtain ⟨O',N',hc,g1,g2,g3⟩:=qwy (N:=N) (c:=o.entry.call) h hT htN (by omega) ha ho2;simp only [cC_e,QAf] at hc;rw [Xc.ce] at hp;rw [QAf] at h0;simp [c_64_l0,c_64_k1,h0,h3,h36,h37,h38,hL,hp,hc];rw [QAf] at g3;exact ⟨O',N',by simp,by omega,g2,by simpa using g3⟩
theorem qv7 {O:List (Nat×AO)} {N0 N t p:Nat} {E:List (List AV)} {o:Xc} (h:look t O=some (.tok 1 E.length)) (hp:look p O=some (.row 9 [Xc.c o])) (hpt:p≠t) (hT:Tail O N) (ht:t<N) (hN0:N0<=N) (hE:E.length<=274877906944) (he:opE o=true) (ho:okO o)
  (e:Env) (h0:look 0 e=some (.app 1 E t)) (h3:look 3 e=some (.ptr p 9 0 0)):
  AQ t N0 (E++(opT o).map c8) (go Φ (finC [.tmp 4]) [.c opC3] .normal ⟨e,⟨O,N⟩⟩):=by
 obtain ⟨o1,o2,o3⟩:=ho;unfold opE at he;rw [QAb] at he;obtain ⟨he1,he2⟩:=he;have h2:=qw0 (N:=N) (v:=o.table) h (by omega);rw [Xc.ce] at hp;by_cases c3:o.kind=3
 ·have h4:=qoh (O:=setl t (.tok 1 (E.length+2)) O) (N:=N) (t:=t) (E:=E++[[.int .u8 (o.table / 256 % 256)],[AV.int .u8 (o.table % 256)]]) (v:=o.id) (by rw [qa3 h];simp) (by simp;omega);rw [c3] at hp;simp [opC3,c_64,h0,h3,hp,h2,qco hpt,h4,qdf];refine ⟨_,N,by simp [opT,c3,qff,qep];rfl,hN0,qd9 hT ht,?_⟩;rw [qa3 h];simp [opT,c3,be2,be4]
 have hlk2:look t (setl t (.tok 1 (E.length+2)) O)=some (.tok 1 (E++[[AV.int .u8 (o.table / 256 % 256)],[AV.int .u8 (o.table % 256)]]).length):=by rw [qa3 h];simp
 by_cases c4:o.kind=4
 ·simp [c4] at he2;simp [qbv] at he2;obtain ⟨O',N',hc,g1,g2,g3⟩:=qwy (N:=N) (c:=o.call) hlk2 (qd9 hT ht) ht (by simp;omega) he2.2 o3;simp only [cC_e] at hc;rw [c4] at hp;simp [opC3,c_64,c_64_k2,h0,h3,hp,h2,qco hpt,hc];have e2:E++(opT o).map c8=(E++[[AV.int .u8 (o.table / 256 % 256)],[AV.int .u8 (o.table % 256)]])++(qcn o.call).map c8:=by simp [opT,c4,qff]
  rw [e2];exact ⟨O',N',by simp,by omega,g2,g3⟩
 by_cases c2:o.kind=2
 ·simp [c2] at he2;obtain ⟨hi,he3⟩:=he2;simp [qbv] at he3;have h4:=qoh (N:=N+1) (v:=o.id) hlk2 (by simp;omega);have hlk4:look t (setl t (.tok 1 (E.length+6)) O)=some (.tok 1 (E++[[AV.int .u8 (o.table / 256 % 256)],[AV.int .u8 (o.table % 256)],[AV.int .u8 (o.id / 16777216 % 256)],[AV.int .u8 (o.id / 65536 % 256)],[AV.int .u8 (o.id / 256 % 256)],[AV.int .u8 (o.id % 256)]]).length):=by rw [qa3 h];simp
  obtain ⟨O',N',hc,g1,g2,g3⟩:=qwy (N:=N+1) (c:=o.call) hlk4 ((qd9 hT ht).mono (QBg N)) (Nat.lt_succ_of_lt ht) (by simp;omega) he3.2 o3;simp only [cC_e] at hc;have ha:=qaeu o;rw [Xc.ce,c2] at ha;rw [c2] at hp;simp [opC3,c_64,h0,h3,hp,h2,qco hpt,h4,qdf,hc,ha];have e2:E++(opT o).map c8=(E++[[AV.int .u8 (o.table / 256 % 256)],[AV.int .u8 (o.table % 256)],[AV.int .u8 (o.id / 16777216 % 256)],[AV.int .u8 (o.id / 65536 % 256)],[AV.int .u8 (o.id / 256 % 256)],[AV.int .u8 (o.id % 256)]])++(qcn o.call).map c8:=by simp [opT,c2,qff,qep]
  rw [e2];exact ⟨qa2 O',N',by simp,by omega,qm8 g2,qnj g3⟩
 have c1:o.kind=1:=by
  by_cases c1:o.kind=1
  ·exact c1
  ·simp [c1,c2,c3,c4] at he2
 simp [c1] at he2;obtain ⟨hpr,hkl,hca⟩:=he2;simp [qbv] at hca;have h3':=qw0 (N:=N) (v:=o.entry.Xt) hlk2 (by simp;omega);have hlk4:look t (setl t (.tok 1 (E.length+4)) O)=some (.tok 1 (E++[[AV.int .u8 (o.table / 256 % 256)],[AV.int .u8 (o.table % 256)],[AV.int .u8 (o.entry.Xt / 256 % 256)],[AV.int .u8 (o.entry.Xt % 256)]]).length):=by rw [qa3 h];simp
 have hw:IntKind.wrap .u8 (o.entry.keys.length:Int)=(o.entry.keys.length:Int):=by rw [wr8u];omega
 have hl:E.length+4+1<=70368744177664:=by omega
 have hE5:E++(opT o).map c8=(E++[[AV.int .u8 (o.table / 256 % 256)],[AV.int .u8 (o.table % 256)],[AV.int .u8 (o.entry.Xt / 256 % 256)],[AV.int .u8 (o.entry.Xt % 256)],[AV.int .u8 (o.entry.keys.length:Int)]])++((qby o.entry.keys).map c8++(qcn o.entry.call).map c8):=by
  simp [opT,c1,qff,c8e]
 have key:=fun e O N a b c d f g k m n=>qabr (N0:=N0) (t:=t) (p:=p) (E:=E++[[AV.int .u8 (o.table / 256 % 256)],[AV.int .u8 (o.table % 256)],[AV.int .u8 (o.entry.Xt / 256 % 256)],[AV.int .u8 (o.entry.Xt % 256)],[AV.int .u8 (o.entry.keys.length:Int)]]) (o:=o) hpt (by simp;omega) hkl o1 hca.2 o2 e O N a b c d f g k m n
 have hp':=hp;rw [c1] at hp';rw [hE5];simp [opC3,c_64,h0,h3,hp',h2,qco hpt,h3',qdf,qa3 h,hl,hw];simp only [QBk,QAp,QBf] at key;exact key _ _ N hN0 (qd9 hT ht) (by rw [qa3 h];simp) (by rw [qco hpt];exact hp) (by simp) (by simp [h3]) (by simp) (by simp) (by simp)
def BV (B:AV) (E:List (List AV)) (O:List (Nat×AO)):Prop:=B= .Xu 1 E\/∃t,B= .app 1 E t/\look t O=some (.tok 1 E.length)
theorem qn3 {o:Xc} (he:opE o=true):1<=o.kind/\o.kind<=4:=by
 by_cases k1:o.kind=1
 ·omega
 by_cases k2:o.kind=2
 ·omega
 by_cases k3:o.kind=3
 ·omega
 by_cases k4:o.kind=4
 ·omega
 ·simp [opE,k1,k2,k3,k4] at he
theorem aop {O:List (Nat×AO)} {N:Nat} {B:AV} {E:List (List AV)} {o:Xc} (hB:BV B E O) (hT:Tail O N) (hE:E.length<=274877906900) (he:opE o=true) (ho:okO o):
  ∃t,AQ t N (E++(opB o).map c8) (qak Φ f_64 [B,.agg (Xc.c o)] ⟨O,N⟩):=by
 have hk:=qn3 he;have hw:IntKind.wrap .u8 o.kind=o.kind:=by rw [wr8u];omega
 have hl:E.length+1<=70368744177664:=by omega
 have hNN:=hT N (Qb _);have e2:E++(opB o).map c8=(E++[[AV.int .u8 o.kind]])++(opT o).map c8:=by simp [qaaj,c8e]
 rw [qaz (fn:=c_64) rfl rfl,e2,qaj1];have hres:c_64.results=[.tmp 4]:=rfl;rw [hres];rcases hB with rfl | ⟨t,rfl,h⟩
 ·refine ⟨N+1,?_⟩;have hN1:=hT (N+1) (by omega);have key:=fun e a b=>qv7 (O:=O++[(N,.row 9 [Xc.c o]),(N+1,.tok 1 (E.length+1))]) (N0:=N) (N:=N+1+1) (t:=N+1) (p:=N) (E:=E++[[AV.int .u8 o.kind]]) (o:=o) (by simp [qa5,hN1]) (by simp [qa5,hNN]) (by omega)
   (by have:=(hT.app (.row 9 [Xc.c o])).app (.tok 1 (E.length+1));simpa using this) (by omega) (by omega) (by simp;omega) he ho e a b
  simp [opC1,opC2,c_64,Xc.ce,hNN,hN1,hw,hl];simp only [Xc.ce,QBk,QAp,QBf] at key;exact key _ (by simp) (by simp)
 ·refine ⟨t,?_⟩;have htN:=hT.ltJ h;have hNt:¬N=t:=by omega
  have key:=fun e a b=>qv7 (O:=setl t (.tok 1 (E.length+1)) O++[(N,.row 9 [Xc.c o])]) (N0:=N) (N:=N+1) (t:=t) (p:=N) (E:=E++[[AV.int .u8 o.kind]]) (o:=o) (by rw [qa5,qa3 h];simp) (by rw [qa5,qco hNt,hNN];simp) hNt
   ((qd9 hT htN).app _) (by omega) (by omega) (by simp;omega) he ho e a b
  simp [opC1,opC2,c_64,Xc.ce,hNN,hw,hl,qa5,h,qgl h];simp only [Xc.ce,QBk,QAp,QBf] at key;exact key _ (by simp) (by simp)
theorem qtu (n:Int):qab Φ f_127 [.int .i64 n]=some (.val (.bool (qcd n))):=by
 rw [qaa (fn:=c_127) rfl rfl];by_cases q:0<=n<;>simp [c_127,qcd,q]
theorem qz8 (c:Xb):qab Φ f_128 [.agg (cC c)]=some (.val (.bool (qbv c))):=by
 rw [qaa (fn:=c_128) rfl rfl];have h:=qtu c.action;cases q:qcd c.action with
 | false=>rw [q] at h;simp [c_128,cC_e,qbv,h,q]
 | true=>rw [q] at h;simp [c_128,cC_e,qbv,h,q]
theorem qxy (o:Xc):qab Φ f_63 [.agg (Xc.c o)]=some (.val (.bool (opE o))):=by
 rw [qaa (fn:=c_63) rfl rfl];have h1:=qtu o.table;have h2:=qtu o.entry.Xt;have h3:=qz8 o.entry.call;have h4:=qz8 o.call;simp only [cC_e] at h3 h4;have hid:idI o.id=(decide (0<=o.id)&&decide (o.id<=2147483647)):=rfl;by_cases c1:o.kind=1
 ·have e:opE o=(qcd o.table&&(qcd o.entry.Xt&&(decide (o.entry.keys.length<=255)&&qbv o.entry.call))):=by simp [opE,c1]
  rw [e];by_cases qi:0<=o.id<;>cases q1:qcd o.table<;>cases q2:qcd o.entry.Xt<;>by_cases q3:o.entry.keys.length<=255<;>rw [q1] at h1<;>rw [q2] at h2<;>simp [c_63,Xc.ce,c1,qi,h1,h2,h3,q3]
 by_cases c2:o.kind=2
 ·have e:opE o=(qcd o.table&&(idI o.id&&qbv o.call)):=by simp [opE,c2]
  rw [e,hid];by_cases qi:0<=o.id<;>by_cases qj:o.id<=2147483647<;>cases q1:qcd o.table<;>rw [q1] at h1<;>simp [c_63,Xc.ce,c2,qi,qj,h1,h4]
 by_cases c3:o.kind=3
 ·have e:opE o=(qcd o.table&&idI o.id):=by simp [opE,c3]
  rw [e,hid];by_cases qi:0<=o.id<;>by_cases qj:o.id<=2147483647<;>cases q1:qcd o.table<;>rw [q1] at h1<;>simp [c_63,Xc.ce,c3,qi,qj,h1]
 by_cases c4:o.kind=4
 ·have e:opE o=(qcd o.table&&qbv o.call):=by simp [opE,c4]
  rw [e];by_cases qi:0<=o.id<;>cases q1:qcd o.table<;>rw [q1] at h1<;>simp [c_63,Xc.ce,c4,qi,h1,h4]
 ·have e:opE o=false:=by simp [opE,c1,c2,c3,c4]
  rw [e];by_cases qi:0<=o.id<;>simp [c_63,Xc.ce,c1,c2,c3,c4,qi]
theorem qwo {o:Xc} (h:opE o=true):(opB o).length<=4000:=by
 unfold opE at h;rw [QAb] at h;obtain ⟨_,h⟩:=h;have hcall:∀c:Xb,qbv c=true->(qcn c).length<=1100:=by
  intro c hc;simp [qbv] at hc;simp only [qcn,be2,QAe,QAl,QAq,qfe];omega
 unfold opB;by_cases c1:o.kind=1
 ·simp [c1] at h;have:=hcall _ h.2.2;rw [QAa c1];simp only [be2,QAe,QAl,QAq,qfn];omega
 by_cases c2:o.kind=2
 ·simp [c2] at h;have:=hcall _ h.2;rw [QA c1,QAa c2];simp only [be2,be4,QAe,QAl,QAq];omega
 by_cases c3:o.kind=3
 ·rw [QA c1,QA c2,QAa c3];simp only [be2,be4,QAe,QAl,QAq];omega
 by_cases c4:o.kind=4
 ·simp [c4] at h;have:=hcall _ h;rw [QA c1,QA c2,QA c3];simp only [be2,QAe,QAl,QAq];omega
 ·simp [c1,c2,c3,c4] at h
theorem qrl {l:List Xc} {i:Nat} (hi:i<l.length):opsB (l.take (i+1))=opsB (l.take i)++opB l[i]:=by
 unfold opsB;rw [Qh hi,QAu,List.flatten_append];simp
theorem qn4:∀{l:List Xc},(∀o∈l,opE o=true)->(opsB l).length<=4000*l.length
 | [],_=>by simp [opsB]
 | x::l,h=>by
  have h1:=qn4 (l:=l) (fun y hy=>h y (QAv _ hy));have h2:=qwo (h x (QCa ..));have e:opsB (x::l)=opB x++opsB l:=by simp [opsB]
  rw [e,QAe,QAl];omega
theorem qwa {l:List Xc} (hl:l.length<=64) (h:∀o∈l.take l.length,opE o=true):encB l=(l.length:Int)::opsB l:=by
 rw [QAf] at h;unfold encB;rw [QAa ⟨hl,h⟩]
theorem qte {l:List Xc} {i:Nat} (hi:i<l.length) (h:opE l[i]=false):encB l=[]:=by
 unfold encB;rw [QA];intro q;have:=q.2 _ (Qd hi);rw [h] at this;cases this
theorem qaf3 (l:List Xc) (ho:∀o∈l,okO o):qab Φ f_24 [.slice 9 (l.map Xc.c)]=some (.val (.slice 1 ((encB l).map c8))):=by
 rw [qaa (fn:=c_24) rfl rfl];by_cases q:64<l.length
 ·have:encB l=[]:=by unfold encB;rw [QA (by omega)]
  simp [c_24,q,this]
 have hl:l.length<=64:=by omega
 have hw:IntKind.wrap .u8 (l.length:Int)=(l.length:Int):=by rw [wr8u];omega
 simp [c_24,q,hw];refine qjg (fun i:Nat=>l.length - i) (fun i e h=>i<=l.length/\(∀o∈l.take i,opE o=true)/\look 13 e=some (.slice 9 (l.map Xc.c))/\look 14 e=some (.int .i64 l.length)/\look 15 e=some (.int .i64 i)/\
  ∃B O N,look 3 e=some B/\BV B (([(l.length:Int)]++opsB (l.take i)).map c8) O/\Tail O N/\h=⟨O,N⟩) (fun _ (r:Option Rt)=>r=some (Rt.val (AV.slice 1 ((encB l).map c8)))) ?_ 0 _ _ ⟨Qc _,by simp,by simp,by simp,by simp,.Xu 1 [[.int .u8 (l.length:Int)]],[],0,by simp,.inl (by simp [opsB,c8e]),Tail.nil 0,rfl⟩
 rintro i e _ L hL ⟨hi,hp,h13,h14,h15,B,O,N,h3,hB,hT,rfl⟩ ih;have hNN:=hT N (Qb _);rcases Qv i l.length with hlt | hge
 ·have hwi:=qaf i (by omega);have hen:=qxy l[i];rw [Xc.ce] at hen;cases hq:opE l[i] with
  | false=>
   rw [hq] at hen;simp [c_24_l0,Xc.ce,h3,h13,h14,h15,hL,hlt,hNN,hen,qte hlt hq]
  | true=>
   rw [hq] at hen;have hlen:((([(l.length:Int)]++opsB (l.take i)).map c8).length)<=274877906900:=by
    have:=qn4 hp;rw [QAd] at this;rw [QAc,QAe];simp only [QAl,QAq];omega
   have hB2:BV B (([(l.length:Int)]++opsB (l.take i)).map c8) (O++[(N,.row 9 [Xc.c l[i]])]):=by
    rcases hB with h | ⟨t,h,h2⟩
    ·exact .inl h
    ·exact .inr ⟨t,h,by rw [qa5,h2];rfl⟩
   obtain ⟨t,O',N',hc,g1,g2,g3⟩:=aop (N:=N+1) hB2 (hT.app _) hlen hq (ho _ (Qd hlt));rw [Xc.ce] at hc;simp [c_24_l0,Xc.ce,h3,h13,h14,h15,hL,hlt,hNN,hen,hc,hwi];have hE2:([(l.length:Int)]++opsB (l.take (i+1))).map c8=([(l.length:Int)]++opsB (l.take i)).map c8++(opB l[i]).map c8:=by
    rw [qrl hlt];simp
   refine ih (i+1) _ _ (by omega) ⟨hlt,?_,by simp [h13,Xc.ce],by simp [h14],by simp,.app 1 (([(l.length:Int)]++opsB (l.take i)).map c8++(opB l[i]).map c8) t,O',N',by simp,by rw [hE2];exact .inr ⟨t,rfl,g3⟩,g2,rfl⟩
   ·intro o ho';rw [Qh hlt] at ho';rcases QAg.1 ho' with h | h
    ·exact hp o h
    ·simp at h;rw [h];exact hq
 ·have hi':i=l.length:=by omega
  subst hi';rw [qwa hl hp];rw [QAf] at hB;rcases hB with rfl | ⟨t,rfl,h2⟩
  ·simp [c_24_l0,c_24_k1,h3,h13,h14,h15,hL]
  ·simp [c_24_l0,c_24_k1,h3,h13,h14,h15,hL]
theorem rnum0 (v:Int) (O:List (Nat×AO)) (N:Nat):qak Φ f_210 [.int .i64 v,.int .i64 0] ⟨O,N⟩=some (.val (.Xu 1 []),⟨O,N⟩):=by
 rw [qaz (fn:=c_210) rfl rfl];simp [c_210]
theorem qaap {v:Int} (h:0<=v/\v<=4294967295):IntKind.wrap .i64 (v.tdiv 256)=v / 256:=by
 rw [QCe h.1];exact qa6 (by omega) (by omega)
theorem qaax {v:Int} (h:0<=v/\v<=4294967295):IntKind.wrap .u8 (v.tmod 256)=v % 256:=by
 rw [QCd h.1,wr8u];omega
theorem qme {v:Int} (h:0<=v/\v<=4294967295) (n:Nat) (hn:n<=3) (O:List (Nat×AO)) (N:Nat) (E:List (List AV)) (hT:Tail O N) (hE:E.length<=10)
  (ih:qak Φ f_210 [.int .i64 (v / 256),.int .i64 n] ⟨O,N⟩=some (.val (.app 1 E N),⟨O++[(N,.tok 1 E.length)],N+1⟩)):
  qak Φ f_210 [.int .i64 v,.int .i64 ((n:Int)+1)] ⟨O,N⟩=some (.val (.app 1 (E++[[.int .u8 (v % 256)]]) N),⟨O++[(N,.tok 1 (E.length+1))],N+1⟩):=by
 rw [qaz (fn:=c_210) rfl rfl];have hNN:=hT N (Qb _);have hw:IntKind.wrap .i64 (n:Int)=(n:Int):=qa6 (by omega) (by omega);have hz:¬((n:Int)+1=0):=by omega
 have hl:E.length+1<=70368744177664:=by omega
 simp [c_210,hz,qaap h,qaax h,ih,hw,hNN,hl]
theorem rnum1 {v:Int} (h:0<=v/\v<=4294967295) (O:List (Nat×AO)) (N:Nat) (hT:Tail O N):qak Φ f_210 [.int .i64 v,.int .i64 1] ⟨O,N⟩=some (.val (.app 1 [[.int .u8 (v % 256)]] N),⟨O++[(N,.tok 1 1)],N+1⟩):=by
 rw [qaz (fn:=c_210) rfl rfl];have hNN:=hT N (Qb _);have h0:=rnum0 (v / 256) O N;have k0:IntKind.wrap .i64 0=0:=by decide
 simp [c_210,qaap h,qaax h,h0,k0,hNN]
theorem qye {v:Int} (h:0<=v/\v<=4294967295) (O:List (Nat×AO)) (N:Nat) (hT:Tail O N):qak Φ f_210 [.int .i64 v,.int .i64 2] ⟨O,N⟩=some (.val (.app 1 ((be2 v).map c8) N),⟨O++[(N,.tok 1 2)],N+1⟩):=by
 have h1:=rnum1 (v:=v / 256) (by omega) O N hT;have h2:=qme h 1 (by omega) O N _ hT (by simp) h1;have e:(be2 v).map c8=[[AV.int .u8 (v / 256 % 256)]]++[[.int .u8 (v % 256)]]:=by simp [be2,c8e]
 rw [e];exact h2
theorem rnum4 {v:Int} (h:0<=v/\v<=4294967295) (O:List (Nat×AO)) (N:Nat) (hT:Tail O N):qak Φ f_210 [.int .i64 v,.int .i64 4] ⟨O,N⟩=some (.val (.app 1 ((be4 v).map c8) N),⟨O++[(N,.tok 1 4)],N+1⟩):=by
 have h2:=qye (v:=v / 256 / 256) (by omega) O N hT;have h3:=qme (v:=v / 256) (by omega) 2 (by omega) O N _ hT (by simp [be2]) h2;have h4:=qme h 3 (by omega) O N _ hT (by simp [be2]) h3;have e:(be4 v).map c8=(be2 (v / 256 / 256)).map c8++[[AV.int .u8 (v / 256 % 256)]]++[[.int .u8 (v % 256)]]:=by
  simp [be4,be2,c8e];omega
 rw [e];exact h4
theorem pnum2 {v:Int} (h:0<=v/\v<=4294967295):qab Φ f_210 [.int .i64 v,.int .i64 2]=some (.val (.slice 1 ((be2 v).map c8))):=by
 unfold qab;have:=qye h [] 0 (Tail.nil 0);rw [show H0=⟨[],0⟩ from rfl,this];simp [qeg,qah]
theorem qsq {v:Int} (h:0<=v/\v<=4294967295):qab Φ f_210 [.int .i64 v,.int .i64 4]=some (.val (.slice 1 ((be4 v).map c8))):=by
 unfold qab;have:=rnum4 h [] 0 (Tail.nil 0);rw [show H0=⟨[],0⟩ from rfl,this];simp [qeg,qah]
theorem qup (n:Int):qab Φ f_208 [.int .i64 n]=some (.val (.bool (qcd n))):=by
 rw [qaa (fn:=c_208) rfl rfl];by_cases q:0<=n<;>simp [c_208,qcd,q]
theorem qaav (c:Xb):qab Φ f_209 [.agg (cC c)]=some (.val (.bool (qbv c))):=by
 rw [qaa (fn:=c_209) rfl rfl];have h:=qup c.action;cases q:qcd c.action with
 | false=>rw [q] at h;simp [c_209,cC_e,qbv,h,q]
 | true=>rw [q] at h;simp [c_209,cC_e,qbv,h,q]
theorem qya (o:Xc):qab Φ f_142 [.agg (Xc.c o)]=some (.val (.bool (opE o))):=by
 rw [qaa (fn:=c_142) rfl rfl];have h1:=qup o.table;have h2:=qup o.entry.Xt;have h3:=qaav o.entry.call;have h4:=qaav o.call;simp only [cC_e] at h3 h4;have hid:idI o.id=(decide (0<=o.id)&&decide (o.id<=2147483647)):=rfl;cases q1:qcd o.table with
 | false=>
  have e:opE o=false:=by simp [opE,q1]
  rw [e];rw [q1] at h1;simp [c_142,Xc.ce,h1]
 | true=>
 rw [q1] at h1;by_cases c1:o.kind=1
 ·have e:opE o=(qcd o.entry.Xt&&(decide (o.entry.keys.length<=255)&&qbv o.entry.call)):=by simp [opE,c1,q1]
  rw [e];by_cases qi:0<=o.id<;>cases q2:qcd o.entry.Xt<;>by_cases q3:o.entry.keys.length<=255<;>rw [q2] at h2<;>simp [c_142,Xc.ce,c1,qi,h1,h2,h3,q3]
 by_cases c2:o.kind=2
 ·have e:opE o=(idI o.id&&qbv o.call):=by simp [opE,c2,q1]
  rw [e,hid];by_cases qi:0<=o.id<;>by_cases qj:o.id<=2147483647<;>simp [c_142,Xc.ce,c2,qi,qj,h1,h4]
 by_cases c3:o.kind=3
 ·have e:opE o=idI o.id:=by simp [opE,c3,q1]
  rw [e,hid];by_cases qi:0<=o.id<;>by_cases qj:o.id<=2147483647<;>simp [c_142,Xc.ce,c3,qi,qj,h1]
 by_cases c4:o.kind=4
 ·have e:opE o=qbv o.call:=by simp [opE,c4,q1]
  rw [e];by_cases qi:0<=o.id<;>simp [c_142,Xc.ce,c4,qi,h1,h4]
 ·have e:opE o=false:=by simp [opE,c1,c2,c3,c4]
  rw [e];by_cases qi:0<=o.id<;>simp [c_142,Xc.ce,c1,c2,c3,c4,qi,h1]
theorem qy5 (c:Xb):aoEq (some (.row 2 [[.int .i64 c.action,.slice 1 (c.args.map c32)]])) (some (.row 2 [[.int .i64 c.action,.slice 1 (c.args.map c32)]]))=true:=by
 apply qqw;intro x hx;simp only [QAj,QAy,or_false] at hx;rcases hx with rfl | rfl
 ·exact qd2 39 _ _
 ·refine qpx 39 _ _ (qfk _ _ ?_);intro x hx;obtain ⟨y,_,rfl⟩:=QAr.1 hx;rw [qmm];exact qfk _ _ (by simp;exact qd2 38 _ _)
theorem qpc (c:Xb) (hc:qbv c=true) (ho:okC c):qab Φ f_211 [.agg (cC c)]=some (.val (.slice 1 ((qcn c).map c8))):=by
 simp [qbv,qcd] at hc;rw [qaa (fn:=c_211) rfl rfl];have h2:=qye (v:=c.action) (by omega);have hw:IntKind.wrap .u8 (c.args.length:Int)=(c.args.length:Int):=by rw [wr8u];omega
 have ha:=qy5 c;have h2':=h2 [(0,.row 2 [[.int .i64 c.action,.slice 1 (c.args.map c32)]]),(14,.res)] 15 (by
  intro j hj;have a:¬0=j:=by omega
  have b:¬14=j:=by omega
  simp [a,b])
 simp only [qff] at h2';simp [c_211,cC_e,h2',hw,ha];have e2:(qcn c).map c8=([[AV.int .u8 (c.action / 256 % 256)],[AV.int .u8 (c.action % 256)],[AV.int .u8 c.args.length]]:List (List AV))++(qci c.args).map c8:=by simp [qcn,be2,c8e]
 rw [e2];refine qcr c.args.length (fun i e h=>look 1 e=some (.ptr 0 2 0 0)/\look 4 e=some (.int .i64 i)/\look 3 e=some (.app 1 (([[AV.int .u8 (c.action / 256 % 256)],[AV.int .u8 (c.action % 256)],[AV.int .u8 c.args.length]]:List (List AV))++(qci (c.args.take i)).map c8) 15)/\
  ∃T N,Tail T N/\16<=N/\h=⟨(0,.row 2 [[.int .i64 c.action,.slice 1 (c.args.map c32)]])::(15,.tok 1 (3+4*i))::T,N⟩) (fun _=>_) ?_ ?_ 0 _ _ (Qc _) ?_
 ·rintro i e _ L hi hL ⟨h1,h4,h3,T,N,hT,hN,rfl⟩ ih;have hwi:=qaf i (by omega);have hx:=ho _ (Qd hi);have hx64:IntKind.wrap .i64 c.args[i]=c.args[i]:=qa6 (by omega) (by omega);have hp:=rnum4 hx ((0,.row 2 [[.int .i64 c.action,.slice 1 (c.args.map c32)]])::(15,.tok 1 (3+4*i))::T) N (by
   intro j hj;have a:¬0=j:=by omega
   have b:¬15=j:=by omega
   simp [a,b,hT j hj])
  simp only [qep,QAp] at hp;have hlen:(qci (c.args.take i)).length=4*i:=by rw [qfe,QAd];omega
  have e3:3+4*i=4*i+1+1+1:=by omega
  have l1:4*i+1+1+1+4<=70368744177664:=by omega
  have hE:(([[AV.int .u8 (c.action / 256 % 256)],[AV.int .u8 (c.action % 256)],[AV.int .u8 c.args.length]]:List (List AV))++(qci (c.args.take i)).map c8).length=3+4*i:=by
   rw [QAe,QAc,hlen];simp only [QAl,QAq]
  have hE2:([[AV.int .u8 (c.action / 256 % 256)],[AV.int .u8 (c.action % 256)],[AV.int .u8 c.args.length]]:List (List AV))++(qci (c.args.take (i+1))).map c8=(([[AV.int .u8 (c.action / 256 % 256)],[AV.int .u8 (c.action % 256)],[AV.int .u8 c.args.length]]:List (List AV))++(qci (c.args.take i)).map c8)++(be4 c.args[i]).map c8:=by
   rw [qkh hi];simp
  rw [hE2] at ih;generalize ([[AV.int .u8 (c.action / 256 % 256)],[AV.int .u8 (c.action % 256)],[AV.int .u8 c.args.length]]:List (List AV))++(qci (c.args.take i)).map c8=D at*;have l2:3+4*i+4<=70368744177664:=by omega
  simp [c_211_l0,h1,h3,h4,hi,hL,qmm,hx64,hp,hwi,hE,l2];exact (ih _ _ ⟨by simp [h1],by simp,by simp [qep],T++[(N,.tok 1 4)],N+1,hT.app _,by omega,by simp [qmm];omega⟩).trans (by simp)
 ·rintro e _ L hL ⟨h1,h4,h3,T,N,hT,hN,rfl⟩;rw [QAf] at h3;simp [c_211_l0,c_211_k1,h1,h3,h4,hL]
 ·simp [qci];exact ⟨[],16,Tail.nil 16,Qb _,rfl,rfl⟩
theorem qlo {c:Xb} (hc:qbv c=true):(qcn c).length<=1100:=by
 simp [qbv] at hc;simp only [qcn,be2,QAe,QAl,QAq,qfe];omega
theorem qadj (o:Xc) (E:List (List AV)) (hE:E.length<=1000000) (hkl:o.entry.keys.length<=255) (o1:∀x∈o.entry.keys,okK x) (hca:qbv o.entry.call=true) (o2:okC o.entry.call) (e:Env) (N:Nat)
  (h1:look 1 e=some (.ptr 0 9 0 0)) (h3:look 3 e=some (.app 1 E 1)) (h4:look 4 e=some (.int .i64 0)):
  go Φ (finP [.tmp 2]) [.c (.loop c_143_l0),.b 0,.c c_143_k1,.c c_143_k2] .normal ⟨e,⟨[(0,.row 9 [Xc.c o]),(1,.tok 1 E.length)],N⟩⟩=
   some (.val (.slice 1 (E++((qby o.entry.keys).map c8++(qcn o.entry.call).map c8)))):=by
 refine qcr o.entry.keys.length (fun i e h=>look 1 e=some (.ptr 0 9 0 0)/\look 3 e=some (.app 1 (E++(qby (o.entry.keys.take i)).map c8) 1)/\look 4 e=some (.int .i64 i)/\
  h=⟨[(0,.row 9 [Xc.c o]),(1,.tok 1 (E++(qby (o.entry.keys.take i)).map c8).length)],N⟩) (fun _=>_) ?_ ?_ 0 _ _ (Qc _) ⟨h1,by simp [h3,qby],by simp [h4],by simp [qby]⟩
 ·rintro i e _ L hi hL ⟨h1,h3,h4,rfl⟩ ih;have hwi:=qaf i (by omega);obtain ⟨hx,hy⟩:=o1 _ (Qd hi);have hx64:IntKind.wrap .i64 o.entry.keys[i].value=o.entry.keys[i].value:=qa6 (by omega) (by omega);have hy64:IntKind.wrap .i64 o.entry.keys[i].mask=o.entry.keys[i].mask:=qa6 (by omega) (by omega);have hp:=qsq hx;have hq:=qsq hy;simp only [qep] at hp hq;have hlenT:(E++(qby (o.entry.keys.take i)).map c8).length<=1002040:=by
   rw [QAe,QAc,qfn,QAd];omega
  have hE2:E++(qby (o.entry.keys.take (i+1))).map c8=(E++(qby (o.entry.keys.take i)).map c8)++((be4 o.entry.keys[i].value).map c8++(be4 o.entry.keys[i].mask).map c8):=by
   rw [qo2 hi];simp
  rw [hE2] at ih;generalize E++(qby (o.entry.keys.take i)).map c8=D at*;have l2:D.length+4<=70368744177664:=by omega
  have l3:D.length+4+4<=70368744177664:=by omega
  simp [c_143_l0,Xc.ce,Xi.ceJ,h1,h3,h4,hi,hL,hx64,hy64,hp,hq,hwi,l2,l3];exact (ih _ _ ⟨by simp [h1],by simp [qep],by simp,by simp [Xc.ce,Xi.ceJ,be4]⟩).trans (by simp)
 ·rintro e _ L hL ⟨h1,h3,h4,rfl⟩;rw [QAf] at h3 ⊢;have hc:=qpc o.entry.call hca o2;simp only [cC_e] at hc;have hlen:E.length+(qby o.entry.keys).length+(qcn o.entry.call).length<=70368744177664:=by
   have:=qlo hca;rw [qfn];omega
  simp [c_143_l0,c_143_k1,Xc.ce,h1,h3,h4,hL,hc,hlen]
theorem ropB (o:Xc) (he:opE o=true) (ho:okO o):qab Φ f_143 [.agg (Xc.c o)]=some (.val (.slice 1 ((opB o).map c8))):=by
 have hk:=qn3 he;obtain ⟨o1,o2,o3⟩:=ho;unfold opE at he;rw [QAb] at he;obtain ⟨he1,he2⟩:=he;have he1':=he1;simp [qcd] at he1';have hw:IntKind.wrap .u8 o.kind=o.kind:=by rw [wr8u];omega
 have h2:=pnum2 (v:=o.table) (by omega);simp only [qff] at h2;rw [qaa (fn:=c_143) rfl rfl,qaaj];by_cases c3:o.kind=3
 ·simp [c3,idI] at he2;have h4:=qsq (v:=o.id) (by omega);simp only [qep] at h4;rw [c3] at hw;simp [c_143,c_143_k2,Xc.ce,c3,hw,h2,h4,opT,qff,qep,c8e]
 by_cases c4:o.kind=4
 ·simp [c4] at he2;have hc:=qpc o.call he2 o3;simp only [cC_e] at hc;rw [c4] at hw;have hlen:3+(qcn o.call).length<=70368744177664:=by have:=qlo he2;omega
  simp [c_143,c_143_k2,Xc.ce,c4,hw,h2,hc,opT,qff,c8e,hlen]
 by_cases c2:o.kind=2
 ·simp [c2,idI] at he2;have hc:=qpc o.call he2.2 o3;simp only [cC_e] at hc;have h4:=qsq (v:=o.id) (by omega);simp only [qep] at h4;rw [c2] at hw;have hlen:7+(qcn o.call).length<=70368744177664:=by have:=qlo he2.2;omega
  simp [c_143,c_143_k2,Xc.ce,c2,hw,h2,h4,hc,opT,qff,qep,c8e,hlen]
 have c1:o.kind=1:=by omega
 simp [c1] at he2;obtain ⟨hpr,hkl,hca⟩:=he2;simp [qcd] at hpr;have hc:=qpc o.entry.call hca o2;simp only [cC_e] at hc;have h3:=pnum2 (v:=o.entry.Xt) (by omega);simp only [qff] at h3;rw [c1] at hw;have hwl:IntKind.wrap .u8 (o.entry.keys.length:Int)=(o.entry.keys.length:Int):=by rw [wr8u];omega
 simp [c_143,Xc.ce,c1,hw,h2,h3,hc,opT,qff,qep,c8e,hwl];have key:=fun e N a b c=>qadj o [[AV.int .u8 1],[AV.int .u8 (o.table / 256 % 256)],[AV.int .u8 (o.table % 256)],[AV.int .u8 (o.entry.Xt / 256 % 256)],[AV.int .u8 (o.entry.Xt % 256)],[AV.int .u8 o.entry.keys.length]] (by simp) hkl o1 hca o2 e N a b c
 simp only [Xc.ce,c1] at key;exact (key _ _ (by simp) (by simp) (by simp)).trans (by simp)
end Go.Av
