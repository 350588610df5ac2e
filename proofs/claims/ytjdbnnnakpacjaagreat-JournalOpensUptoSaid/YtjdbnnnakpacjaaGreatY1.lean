/-
  Lemmas for the law.
-/
import Derived.Test.YtjdbnnnakpacjaaGreatV4
import Derived.Test.YtjdbnnnakpacjaaGreatFunsAU
import Derived.KernelRfl
set_option linter.unusedVariables false
set_option linter.unusedSimpArgs false
namespace Go.Av
set_option maxRecDepth 4000
structure Ren where
 t:Int
 old:Int
 new:Int
def Ren.c (x:Ren):List AV:=[a8 x.t,a8 x.old,a8 x.new]
theorem Xc.eq_iff (x y:Xc):x=y↔x.kind=y.kind/\x.table=y.table/\x.id=y.id/\x.entry=y.entry/\x.call=y.call:=by
 cases x;cases y;simp
structure CfgF (c:Xf):Prop where
 rl:c.rows.length<2^40
 rs:∀l∈c.rows,l.length<2^40/\∀r∈l,r.entry.sm
 dl:c.Xq.length<2^40
 ds:∀x∈c.Xq,x.args.length<2^40
 gl:c.Xm.length<2^40
 gs:∀x∈c.Xm,x.length<2^40
structure UndS (u:Xc):Prop where
 op:OpS u
 pos:u.kind=1->0<u.id
 zero:u.kind=4->u.id=0
theorem a2N (p:Prg) (c:Xf) (o:Xc) (l:List Xc):xoF p c (o::l)=xoF p (xoC p c o) l:=rfl
theorem Uh (p:Prg) (c:Xf) (l:List Xc):cfgN p c l l.length=xoF p c l:=by unfold cfgN;rw [i9]
def be2 (v:Int):List Int:=[v / 256 % 256,v % 256]
def be4 (v:Int):List Int:=[v / 16777216 % 256,v / 65536 % 256,v / 256 % 256,v % 256]
def iY (n:Int):Bool:=decide (0<=n)&&decide (n<=65535)
def idI (n:Int):Bool:=decide (0<=n)&&decide (n<=2147483647)
def iJ (c:Xb):Bool:=iY c.Xz&&decide (c.args.length<=255)
def opE (o:Xc):Bool:=iY o.table&&(if o.kind=1 then iY o.entry.Xt&&(decide (o.entry.keys.length<=255)&&iJ o.entry.call) else if o.kind=2 then idI o.id&&iJ o.call else if o.kind=3 then idI o.id else if o.kind=4 then iJ o.call else false)
def keyB (k:Xi):List Int:=be4 k.value++be4 k.Ye
def iN (l:List Int):List Int:=(l.map be4).flatten
def fT (l:List Xi):List Int:=(l.map keyB).flatten
def j9 (c:Xb):List Int:=be2 c.Xz++((c.args.length:Int)::iN c.args)
def opB (o:Xc):List Int:=o.kind::(be2 o.table++(if o.kind=1 then be2 o.entry.Xt++((o.entry.keys.length:Int)::(fT o.entry.keys++j9 o.entry.call)) else if o.kind=2 then be4 o.id++j9 o.call else if o.kind=3 then be4 o.id else j9 o.call))
def opsB (l:List Xc):List Int:=(l.map opB).flatten
def encB (l:List Xc):List Int:=if l.length<=64/\∀o∈l,opE o=true then (l.length:Int)::opsB l else []
@[ext] structure Stt where
 b:List Int
 e:Int
def num:Nat->List Int->Int
 | 1,a::_=>a
 | 2,a::b::_=>256*a+b
 | 4,a::b::c::d::_=>256*(256*(256*a+b)+c)+d
 | _,_=>0
def rdN (n:Nat) (s:Stt):Stt×Int:=if s.e=0 then (if s.b.length<n then (⟨s.b,3⟩,0) else (⟨s.b.drop n,0⟩,num n s.b)) else (s,0)
def rdI (s:Stt):Stt×Int:=(if (rdN 4 s).2>2147483647 then ⟨(rdN 4 s).1.b,5⟩ else (rdN 4 s).1,(rdN 4 s).2)
def gB:Nat->Stt->Stt×List Int
 | 0,s=>(s,[])
 | n+1,s=>if s.e=0 then ((gB n (rdN 4 s).1).1,(rdN 4 s).2::(gB n (rdN 4 s).1).2) else (s,[])
def oB (s:Stt):Stt×Xi:=((rdN 4 (rdN 4 s).1).1,⟨(rdN 4 s).2,(rdN 4 (rdN 4 s).1).2⟩)
def kI:Nat->Stt->Stt×List Xi
 | 0,s=>(s,[])
 | n+1,s=>if s.e=0 then ((kI n (oB s).1).1,(oB s).2::(kI n (oB s).1).2) else (s,[])
def fX (s:Stt):Stt×Xb:=
 let p:=rdN 2 s
 let q:=rdN 1 p.1
 let r:=gB q.2.toNat q.1
 (r.1,⟨p.2,r.2⟩)
def zO (s:Stt):Stt×Entry:=
 let p:=rdN 2 s
 let q:=rdN 1 p.1
 let r:=kI q.2.toNat q.1
 let c:=fX r.1
 (c.1,⟨r.2,p.2,c.2⟩)
def gX:Xb:=⟨0,[]⟩
def jV:Entry:=⟨[],0,gX⟩
def kE (p:Stt×Int):Stt:=if p.1.e=0/\(p.2<1\/4<p.2) then ⟨p.1.b,5⟩ else p.1
def iX (k t:Int) (s:Stt):Stt×Xc:=
 if s.e≠0 then (s,⟨k,t,0,jV,gX⟩)
 else if k=1 then ((zO s).1,⟨k,t,0,(zO s).2,gX⟩)
 else if k=2 then ((if (rdI s).1.e=0 then (fX (rdI s).1).1 else (rdI s).1),⟨k,t,(rdI s).2,jV,if (rdI s).1.e=0 then (fX (rdI s).1).2 else gX⟩)
 else if k=3 then ((rdI s).1,⟨k,t,(rdI s).2,jV,gX⟩)
 else ((fX s).1,⟨k,t,0,jV,(fX s).2⟩)
def rdOp (s:Stt):Stt×Xc:=
 let p:=rdN 1 s
 let q:=rdN 2 (kE p)
 iX p.2 q.2 q.1
def oC:Nat->Stt->Stt×List Xc
 | 0,s=>(s,[])
 | n+1,s=>if s.e=0 then ((oC n (rdOp s).1).1,(rdOp s).2::(oC n (rdOp s).1).2) else (s,[])
def cntS (p:Stt×Int):Stt:=if 64<p.2 then ⟨p.1.b,5⟩ else p.1
def endE (s:Stt):Int:=if s.e=0/\s.b≠[] then 4 else s.e
def decB (b:List Int):List Xc×Int:=
 let p:=rdN 1 ⟨b,0⟩
 let r:=oC p.2.toNat (cntS p)
 (if endE r.1=0 then r.2 else [],endE r.1)
def okK (k:Xi):Prop:=(0<=k.value/\k.value<=4294967295)/\(0<=k.Ye/\k.Ye<=4294967295)
def okC (c:Xb):Prop:=∀x∈c.args,0<=x/\x<=4294967295
def okO (o:Xc):Prop:=(∀x∈o.entry.keys,okK x)/\okC o.entry.call/\okC o.call
def okB (l:List Int):Prop:=∀x∈l,0<=x/\x<=255
variable {s:Stt} {n:Nat}
theorem rd_e (h:(rdN n s).1.e=0):s.e=0:=by
 unfold rdN at h;split at h
 ·assumption
 ·exact h
theorem OA (h:(rdN n s).1.e=0):n<=s.b.length/\rdN n s=(⟨s.b.drop n,0⟩,num n s.b):=by
 have he:=rd_e h;unfold rdN at h ⊢;rw [aB he] at h ⊢;by_cases q:s.b.length<n
 ·rw [aB q] at h;simp at h
 ·rw [QA q];exact ⟨by omega,rfl⟩
theorem UE {l:List Int} (h:okB l) (n:Nat):okB (l.drop n):=fun x hx=>h x (A4 hx)
theorem eK (h:okB s.b):okB (rdN n s).1.b:=by
 unfold rdN;split
 ·split
  ·exact h
  ·exact UE h n
 ·exact h
theorem Pm (hb:okB s.b) (h:(rdN 1 s).1.e=0):s.b=(rdN 1 s).2::(rdN 1 s).1.b/\0<=(rdN 1 s).2/\(rdN 1 s).2<=255:=by
 obtain ⟨h1,h2⟩:=OA h;rw [h2]
 match hs:s.b,h1 with
 | a::l,_=>rw [hs] at hb;simp [num];exact hb a (by simp)
theorem Pn (hb:okB s.b) (h:(rdN 2 s).1.e=0):s.b=be2 (rdN 2 s).2++(rdN 2 s).1.b/\iY (rdN 2 s).2=true:=by
 obtain ⟨h1,h2⟩:=OA h;rw [h2]
 match hs:s.b,h1 with
 | a::b::l,_=>
  rw [hs] at hb;have ha:=hb a (by simp);have hb:=hb b (by simp);simp [num,be2,iY];omega
theorem Po (hb:okB s.b) (h:(rdN 4 s).1.e=0):s.b=be4 (rdN 4 s).2++(rdN 4 s).1.b/\0<=(rdN 4 s).2/\(rdN 4 s).2<=4294967295:=by
 obtain ⟨h1,h2⟩:=OA h;rw [h2]
 match hs:s.b,h1 with
 | a::b::c::d::l,_=>
  rw [hs] at hb;have ha:=hb a (by simp);have hb':=hb b (by simp);have hc:=hb c (by simp);have hd:=hb d (by simp);simp [num,be4];omega
theorem QR (hb:okB s.b):okB (oB s).1.b:=eK (eK hb)
theorem qqo:∀(n:Nat) {s:Stt},okB s.b->okB (gB n s).1.b
 | 0,_,hb=>hb
 | n+1,s,hb=>by
  unfold gB;by_cases q:s.e=0
  ·simp only [aB q];exact qqo n (eK hb)
  ·simp only [QA q];exact hb
theorem Th:∀(n:Nat) {s:Stt},okB s.b->okB (kI n s).1.b
 | 0,_,hb=>hb
 | n+1,s,hb=>by
  unfold kI;by_cases q:s.e=0
  ·simp only [aB q];exact Th n (QR hb)
  ·simp only [QA q];exact hb
theorem Tf (hb:okB s.b):okB (fX s).1.b:=qqo _ (eK (eK hb))
theorem qxl (hb:okB s.b):okB (zO s).1.b:=Tf (Th _ (eK (eK hb)))
theorem RI (hb:okB s.b):okB (rdI s).1.b:=by
 unfold rdI;simp only;split
 ·exact eK hb
 ·exact eK hb
theorem ZN {k t:Int} (hb:okB s.b):okB (iX k t s).1.b:=by
 unfold iX;split
 ·exact hb
 split
 ·exact qxl hb
 split
 ·simp only;split
  ·exact Tf (RI hb)
  ·exact RI hb
 split
 ·exact RI hb
 ·exact Tf hb
theorem XK {p:Stt×Int} (h:okB p.1.b):okB (kE p).b:=by
 unfold kE;split<;>exact h
theorem FW (hb:okB s.b):okB (rdOp s).1.b:=ZN (eK (XK (eK hb)))
def fnv1 (h c:Int):Int:=ixor .u32 h c*16777619 % 4294967296
def fnvL (h:Int) (b:List Int):Int:=b.foldl fnv1 h
def fnv (b:List Int):Int:=fnvL 2166136261 b
def frB (b:List Int):List Int:=be4 b.length++(b++be4 (fnv (be4 b.length++b)))
def unfB (b:List Int):List Int×Int×Int:=
 if b.length<8 then ([],0,3) else
 if (b.length:Int) - 8<num 4 b then ([],0,3) else
 if fnv (b.take (4+(num 4 b).toNat))≠num 4 (b.drop (4+(num 4 b).toNat)) then ([],0,24) else ((b.drop 4).take (num 4 b).toNat,num 4 b+8,0)
theorem Ef (h c:Int):0<=fnv1 h c/\fnv1 h c<=4294967295:=by unfold fnv1;omega
theorem qu6:∀(b:List Int) (h:Int),0<=h/\h<=4294967295->0<=fnvL h b/\fnvL h b<=4294967295
 | [],_,hh=>hh
 | c::b,h,_=>qu6 b (fnv1 h c) (Ef h c)
theorem UN (b:List Int):0<=fnv b/\fnv b<=4294967295:=qu6 b _ (by omega)
variable {v:Int}
theorem Jb (h:0<=v/\v<=4294967295) (r:List Int):num 4 (be4 v++r)=v:=by
 simp [num,be4];omega
variable {b:List Int}
theorem Ut (hb:okB b) (h:4<=b.length):0<=num 4 b/\num 4 b<=4294967295:=by
 match b,h with
 | x::y::z::w::l,_=>
  have h1:=hb x (by simp);have h2:=hb y (by simp);have h3:=hb z (by simp);have h4:=hb w (by simp);simp [num];omega
theorem OW (v:Int):(be4 v).length=4:=rfl
theorem Y5 (b:List Int):(frB b).length=b.length+8:=by simp [frB,OW];omega
theorem TQ {body:List Int} {n:Int} (hb:okB b) (h:unfB b=(body,n,0)):8<=n/\n<=b.length/\(body.length:Int)+8=n/\okB body:=by
 unfold unfB at h;by_cases q:b.length<8
 ·rw [aB q] at h;simp at h
 rw [QA q] at h;have hr:=Ut hb (by omega);by_cases q2:(b.length:Int) - 8<num 4 b
 ·rw [aB q2] at h;simp at h
 rw [QA q2] at h;by_cases q3:fnv (b.take (4+(num 4 b).toNat))≠num 4 (b.drop (4+(num 4 b).toNat))
 ·rw [aB q3] at h;simp at h
 rw [QA q3] at h;simp only [Prod.mk.injEq,and_true] at h;obtain ⟨rfl,rfl⟩:=h;refine ⟨by omega,by omega,?_,?_⟩
 ·rw [fU,WW];omega
 ·intro x hx;exact hb x (A4 (Qu hx))
structure LgV where
 c:Xf
 b:List Int
 n:Nat
def cmt (p:Prg) (g:LgV) (l:List Xc):LgV:=⟨xoF p g.c l,g.b++frB (encB l),g.n+1⟩
def opn (p:Prg):Nat->LgV->Int->List Int->Option LgV×Int×Int
 | 0,g,u,_=>(some g,u,0)
 | k+1,g,u,r=>
  if r=[] then (some g,u,0) else
  if (unfB r).2.2≠0 then (some g,u,0) else
  if (decB (unfB r).1).2≠0 then (none,u,(decB (unfB r).1).2) else
  match badA p g.c (decB (unfB r).1).1 with
  | some x=>(none,u,x.2)
  | none=>opn p k (cmt p g (decB (unfB r).1).1) (u+(unfB r).2.1) (r.drop (unfB r).2.1.toNat)
theorem PrgV.acts {p:Prg} (v:PrgV p):p.Xy.length<=16:=by
 have h:=v.lim;unfold limD at h
 repeat' split at h
 all_goals first | omega | cases h
def frs (G:List (List Xc)):List Int:=(G.map fun l=>frB (encB l)).flatten
theorem a2B (l:List Xc) (G:List (List Xc)):frs (l::G)=frB (encB l)++frs G:=rfl
variable {l:List Xc}
theorem Ea (h:∀o∈l,opE o=true) (h64:l.length<=64):(encB l).length<=300000:=by
 unfold encB;rw [aB ⟨h64,h⟩];have:∀(l:List Xc),(∀o∈l,opE o=true)->(opsB l).length<=4000*l.length:=by
  intro l
  induction l with
  | nil=>simp [opsB]
  | cons x l ih=>
   intro h;have h1:=ih fun o ho=>h o (by simp [ho])
   have h2:(opB x).length<=4000:=by
    have hx:=h x (by simp);have hc:∀c:Xb,iJ c=true->(j9 c).length<=1100:=by
     intro c hc;have ha:∀l:List Int,(iN l).length=4*l.length:=by
      intro l
      induction l with
      | nil=>rfl
      | cons y l ih=>simp [iN,be4] at ih ⊢;omega
     simp [iJ] at hc;simp [j9,be2,ha];omega
    have hk:∀l:List Xi,(fT l).length=8*l.length:=by
     intro l
     induction l with
     | nil=>rfl
     | cons y l ih=>simp [fT,keyB,be4] at ih ⊢;omega
    unfold opE at hx;unfold opB;by_cases k1:x.kind=1
    ·simp [k1] at hx;have:=hc _ hx.2.2.2;simp [k1,be2,hk];omega
    by_cases k2:x.kind=2
    ·simp [k2] at hx;have:=hc _ hx.2.2;simp [k2,be2,be4];omega
    by_cases k3:x.kind=3
    ·simp [k3,be2,be4]
    by_cases k4:x.kind=4
    ·simp [k4] at hx;have:=hc _ hx.2;simp [k4,be2];omega
    ·simp [k1,k2,k3,k4] at hx
   simp [opsB] at h1 ⊢;omega
 have:=this l h;simp;omega
theorem PrgV.regs {p:Prg} (v:PrgV p) {k:Nat} (hk:k<p.Xm.length):regE p.Xm[k]=0:=by
 have:=(fe_all.1 v.reg) k hk;simp only [Qa hk,iW] at this;have hE:yQ p k p.Xm[k]=0:=by
  refine Decidable.byContradiction fun hc=>?_
  rw [QA hc] at this;cases this
 unfold yQ at hE;refine Decidable.byContradiction fun hc=>?_
 rw [aB hc] at hE;exact hc hE
theorem PrgV.tblz {p:Prg} (v:PrgV p) {k:Nat} (hk:k<p.Xn.length):(tblE p k).2=0:=by
 have:=(fe_all.1 v.tbl) k hk;simp only [Qa hk,iW] at this;refine Decidable.byContradiction fun hc=>?_
 rw [aB hc] at this;cases this
theorem Hm {p:Prg} {k:Nat} (hk:k<p.Xn.length) (h:(tblE p k).2=0):fD p k p.Xn[k].Yc=0:=by
 have ho:tOk p k=true:=by simp [tOk,h]
 unfold tblE at h;rw [P2,Qa hk] at h;dsimp only at h;split at h
 ·cases h
 split at h
 ·cases h
 split at h
 ·cases h
 split at h
 ·rename_i hc;exact absurd h hc
 split at h
 ·rename_i hc;exact absurd h hc
 rename_i hc;have ht:GA p p.Xn[k]=0:=by simpa using hc
 unfold GA at ht;split at ht
 ·rename_i e he;exfalso;subst ht;obtain ⟨i,_,hx⟩:=zN he;rw [Qt] at hx;obtain ⟨a,_,hx⟩:=hx;split at hx
  ·cases hx
  ·split at hx<;>cases hx
 split at ht
 ·rename_i hcon;unfold fD;have hA:tAl p k p.Xn[k].Yc.Xz=true:=by
   unfold tAl;rw [ho,P2,Qa hk];simp at hcon ⊢;exact hcon
  rw [QA (by simp [hA])];exact ht
 ·cases ht
theorem Dh (w:Int):0<=eC w:=by
 unfold eC;split
 ·exact Int.le_refl 0
 ·have:(0:Int)<2^w.toNat:=Int.pow_pos (by decide);omega
theorem Nb {p:Prg} (h:(prgD p).1=0):CfgV p (gA p):=by
 have v:=Vh h;refine ⟨h,by simp [gA],by simp [gA],by simp [gA],?_,?_⟩
 ·intro k tb l nx d h1 h2 h3 h4;obtain ⟨hk,rfl⟩:=Qm.1 h1;simp [gA,hk] at h2 h3 h4;subst h2 h3 h4;have hz:=v.tblz hk;obtain ⟨k',hk',hkk,o⟩:=I5 (p:=p) (t:=(k:Int)) (by simp [tOk,hz]);have:k'=k:=by omega
  subst this;have:=o.size;exact ⟨by simp;omega,by simp,by simp,by simp,by decide,by decide,by simp,by simp,Hm hk hz⟩
 ·unfold conE;rw [QA (by simp [gA,newR])];have e1:fe (szG p (gA p).Xm) (gA p).Xm.length 0=none:=by
   refine fe_all.2 fun i hi=>?_
   have hi2:i<p.Xm.length:=by simpa [gA,newR] using hi
   have hr:=v.regs hi2;have hs:¬(p.Xm[i].size<1\/64<p.Xm[i].size):=by
    intro hc;unfold regE at hr;split at hr
    ·cases hr
    split at hr
    ·cases hr
    first | (rw [aB hc] at hr;cases hr) | cases hr
   simp [szG,gA,newR,hi2,regN,hs];omega
  have e2:fe (vlG p (gA p).Xm) (gA p).Xm.length 0=none:=by
   refine fe_all.2 fun i hi=>?_
   have hi2:i<p.Xm.length:=by simpa [gA,newR] using hi
   have hm:=Dh p.Xm[i].Yd;simp [vlG,gA,newR,hi2];intro _;omega
  rw [e1,e2];rfl
def cSt (s:Stt):List AV:=[.slice 1 (s.b.map c8),a8 s.e]
theorem aU (s:Stt):cSt s=[.slice 1 (s.b.map c8),a8 s.e]:=by simp [cSt]
theorem c8e (x:Int):c8 x=[.int .u8 x]:=by simp [c8]
variable {x:Int}
theorem wr8 (h:0<=x/\x<=255):IntKind.wrap .i64 x=x:=bJ (by omega) (by omega)
theorem qvj (b:List Int) (h:0<b.length):num 1 b=b[0]:=by
 match b,h with
 | a::l,_=>simp [num]
theorem qvk (b:List Int) (h:1<b.length):num 2 b=256*b[0]+b[1]:=by
 match b,h with
 | a::c::l,_=>simp [num]
theorem XU (b:List Int) (h:3<b.length):num 4 b=256*(256*(256*b[0]+b[1])+b[2])+b[3]:=by
 match b,h with
 | a::c::d::e::l,_=>simp [num]
theorem YR (s:Stt) (hb:okB s.b):a9 Φ dT [.agg (cSt s),a8 1]=some (.val (.tup [.agg (cSt (rdN 1 s).1),a8 (rdN 1 s).2])):=by
 rw [aA rfl rfl];by_cases q:s.e=0
 rotate_left
 ·simp [gH,aU,rdN,q]
 by_cases q1:s.b.length<1
 ·have q1':(s.b.length:Int)<1:=by omega
  simp [gH,aU,rdN,q,q1,q1']
 obtain ⟨b,e⟩:=s;simp only at q q1 hb;have q2:¬((b.length:Int)<1):=by omega
 have q3:(1:Int)<=b.length:=by omega
 have i0:0<b.length:=by omega
 have h0:=hb _ (Qd i0);have w0:=wr8 h0;have k0:IntKind.wrap .i64 0=0:=by decide
 have k1:IntKind.wrap .i64 1=1:=by decide
 have k2:IntKind.wrap .i64 2=2:=by decide
 have k3:IntKind.wrap .i64 3=3:=by decide
 have k4:IntKind.wrap .i64 4=4:=by decide
 simp [gH,aU,rdN,q,q1,q2,qvj b i0];rw [bG];simp [c_145_l0,c8e,k0,k1,i0,w0];rw [bG];simp [c_145_k1,q3];exact Qo (by simp)
theorem Yg (s:Stt) (hb:okB s.b):a9 Φ dT [.agg (cSt s),a8 2]=some (.val (.tup [.agg (cSt (rdN 2 s).1),a8 (rdN 2 s).2])):=by
 rw [aA rfl rfl];by_cases q:s.e=0
 rotate_left
 ·simp [gH,aU,rdN,q]
 by_cases q1:s.b.length<2
 ·have q1':(s.b.length:Int)<2:=by omega
  simp [gH,aU,rdN,q,q1,q1']
 obtain ⟨b,e⟩:=s;simp only at q q1 hb;have q2:¬((b.length:Int)<2):=by omega
 have q3:(2:Int)<=b.length:=by omega
 have i0:0<b.length:=by omega
 have h0:=hb _ (Qd i0);have w0:=wr8 h0;have i1:1<b.length:=by omega
 have h1:=hb _ (Qd i1);have w1:=wr8 h1;have k0:IntKind.wrap .i64 0=0:=by decide
 have k1:IntKind.wrap .i64 1=1:=by decide
 have k2:IntKind.wrap .i64 2=2:=by decide
 have k3:IntKind.wrap .i64 3=3:=by decide
 have k4:IntKind.wrap .i64 4=4:=by decide
 have x1:IntKind.wrap .i64 (256*b[0])=256*b[0]:=bJ (by omega) (by omega);have y1:IntKind.wrap .i64 (256*b[0]+b[1])=256*b[0]+b[1]:=bJ (by omega) (by omega);simp [gH,aU,rdN,q,q1,q2,qvk b i1];rw [bG];simp [c_145_l0,c8e,k0,k1,i0,w0];rw [bG];simp [c8e,k2,i1,w1];rw [bG];simp [c_145_k1,q3];have fin:IntKind.wrap .i64 (IntKind.wrap .i64 (256*b[0])+b[1])=256*b[0]+b[1]:=by rw [x1,y1]
 exact ⟨Qo (by simp),fin⟩
theorem P4 (s:Stt) (hb:okB s.b):a9 Φ dT [.agg (cSt s),a8 4]=some (.val (.tup [.agg (cSt (rdN 4 s).1),a8 (rdN 4 s).2])):=by
 rw [aA rfl rfl];by_cases q:s.e=0
 rotate_left
 ·simp [gH,aU,rdN,q]
 by_cases q1:s.b.length<4
 ·have q1':(s.b.length:Int)<4:=by omega
  simp [gH,aU,rdN,q,q1,q1']
 obtain ⟨b,e⟩:=s;simp only at q q1 hb;have q2:¬((b.length:Int)<4):=by omega
 have q3:(4:Int)<=b.length:=by omega
 have i0:0<b.length:=by omega
 have h0:=hb _ (Qd i0);have w0:=wr8 h0;have i1:1<b.length:=by omega
 have h1:=hb _ (Qd i1);have w1:=wr8 h1;have i2:2<b.length:=by omega
 have h2:=hb _ (Qd i2);have w2:=wr8 h2;have i3:3<b.length:=by omega
 have h3:=hb _ (Qd i3);have w3:=wr8 h3;have k0:IntKind.wrap .i64 0=0:=by decide
 have k1:IntKind.wrap .i64 1=1:=by decide
 have k2:IntKind.wrap .i64 2=2:=by decide
 have k3:IntKind.wrap .i64 3=3:=by decide
 have k4:IntKind.wrap .i64 4=4:=by decide
 have x1:IntKind.wrap .i64 (256*b[0])=256*b[0]:=bJ (by omega) (by omega);have y1:IntKind.wrap .i64 (256*b[0]+b[1])=256*b[0]+b[1]:=bJ (by omega) (by omega);have x2:IntKind.wrap .i64 (256*(256*b[0]+b[1]))=256*(256*b[0]+b[1]):=bJ (by omega) (by omega);have y2:IntKind.wrap .i64 (256*(256*b[0]+b[1])+b[2])=256*(256*b[0]+b[1])+b[2]:=bJ (by omega) (by omega);have x3:IntKind.wrap .i64 (256*(256*(256*b[0]+b[1])+b[2]))=256*(256*(256*b[0]+b[1])+b[2]):=bJ (by omega) (by omega);have y3:IntKind.wrap .i64 (256*(256*(256*b[0]+b[1])+b[2])+b[3])=256*(256*(256*b[0]+b[1])+b[2])+b[3]:=bJ (by omega) (by omega);simp [gH,aU,rdN,q,q1,q2,XU b i3];rw [bG];simp [c_145_l0,c8e,k0,k1,i0,w0];rw [bG];simp [c8e,k2,i1,w1];rw [bG];simp [c8e,k3,i2,w2];rw [bG];simp [c8e,k4,i3,w3];rw [bG];simp [c_145_k1,q3];have fin:IntKind.wrap .i64 (IntKind.wrap .i64 (256*IntKind.wrap .i64 (IntKind.wrap .i64 (256*IntKind.wrap .i64 (IntKind.wrap .i64 (256*b[0])+b[1]))+b[2]))+b[3])=256*(256*(256*b[0]+b[1])+b[2])+b[3]:=by rw [x1,y1,x2,y2,x3,y3]
 exact ⟨Qo (by simp),fin⟩
theorem yG:∀a b:List (Nat×AO),bX (a++b)=bX a++bX b
 | [],b=>by simp
 | (u,x)::a,b=>by
  have:=yG a b;cases x<;>simp [bX,this]
theorem gQ (h:0<=x/\x<=4294967295):IntKind.wrap .u32 x=x:=by
 unfold IntKind.wrap;simp [IntKind.bits,IntKind.signed];omega
theorem FY (hb:okB s.b):0<=(rdN 1 s).2/\(rdN 1 s).2<=255:=by
 by_cases h:(rdN 1 s).1.e=0
 ·exact (Pm hb h).2
 ·have:(rdN 1 s).2=0:=by
   unfold rdN at h ⊢;split
   ·split
    ·rfl
    ·rename_i q1 q2;rw [aB q1,QA q2] at h;simp at h
   ·rfl
  omega
theorem Vi (hb:okB s.b):0<=(rdN 2 s).2/\(rdN 2 s).2<=65535:=by
 by_cases h:(rdN 2 s).1.e=0
 ·have:=(Pn hb h).2;simp [iY] at this;exact this
 ·have:(rdN 2 s).2=0:=by
   unfold rdN at h ⊢;split
   ·split
    ·rfl
    ·rename_i q1 q2;rw [aB q1,QA q2] at h;simp at h
   ·rfl
  omega
theorem FZ (hb:okB s.b):0<=(rdN 4 s).2/\(rdN 4 s).2<=4294967295:=by
 by_cases h:(rdN 4 s).1.e=0
 ·exact (Po hb h).2
 ·have:(rdN 4 s).2=0:=by
   unfold rdN at h ⊢;split
   ·split
    ·rfl
    ·rename_i q1 q2;rw [aB q1,QA q2] at h;simp at h
   ·rfl
  omega
theorem Me (s:Stt) (hb:okB s.b):a9 Φ CY [.agg (cSt s)]=some (.val (.tup [.agg (cSt (rdI s).1),a8 (rdI s).2])):=by
 rw [aA rfl rfl];have h4:=P4 s hb;simp only [aU] at h4;by_cases q:2147483647<(rdN 4 s).2
 ·simp [AW,aU,h4,rdI,q]
 ·simp [AW,aU,h4,rdI,q]
variable {I:Type} {K:List Fr}
theorem qsv {Φ:FuncId->Option AFun} {fin:Option (Ex×St)->Option I} {b:Xv} {s:St} {R:Option I}
  (h:∀L,(∀j s,go Φ fin L (.exit j) s=go Φ fin K (.exit j) s)->(∀s,go Φ fin L .normal s=go Φ fin (.c (.loop b)::K) .normal s)->go Φ fin (.c b::L) .normal s=R):
  go Φ fin (.c (.loop b)::K) .normal s=R:=by
 rw [bG];exact h _ (fun j s=>by simp) (fun s=>rfl)
def cC (c:Xb):List AV:=[a8 c.Xz,.slice 1 (c.args.map c32)]
theorem cC_e (c:Xb):cC c=[a8 c.Xz,.slice 1 (c.args.map c32)]:=by simp [cC]
theorem I7 (x:Int):c32 x=[.int .u32 x]:=by simp [c32]
theorem QL (h:s.e≠0):gB n s=(s,[]):=by
 cases n with
 | zero=>rfl
 | succ n=>simp [gB,h]
theorem QQ (h:s.e=0):gB (n+1) s=((gB n (rdN 4 s).1).1,(rdN 4 s).2::(gB n (rdN 4 s).1).2):=by
 simp [gB,h]
def RC (a:Int) (x:Nat×Stt×List Int):Option Rt:=some (.val (.tup [.agg (cSt (gB x.1 x.2.1).1),.agg (cC ⟨a,x.2.2++(gB x.1 x.2.1).2⟩)]))
theorem ZM (a:Int) (n:Nat) (hn:n<=255) (k:Nat) (s:Stt) (acc:List Int) (hb:okB s.b) (hk:acc.length+k=n) (e:Env) (T:List (Nat×AO)) (N:Nat) (X:List AV)
  (h1:look 1 e=some (.ptr 0 2 0 0)) (h2:look 2 e=some (.ptr 1 2 0 0)) (h3:look 3 e=some (.ptr 2 2 0 0)) (h4:look 4 e=some (.ptr 3 2 0 0)) (h5:look 5 e=some (a8 n)) (h6:look 6 e=some (a8 acc.length))
  (hT:Tail T N) (hN:6<=N) (hS:bX T=T):
  go Φ (finP [.cell 2 true 2,.cell 3 true 2]) [.c (.loop c_214_l0),.b 0,.c c_214_k1] .normal
   ⟨e,⟨(0,.row 2 [cSt s])::(1,.row 2 [[.Xu 1 [],a8 0]])::(2,.row 2 [[a8 0,.Xu 1 []]])::(3,.row 2 [[a8 a,.app 1 (acc.map c32) 5]])::(4,.row 2 [X])::(5,.tok 1 acc.length)::T,N⟩⟩=RC a (k,s,acc):=by
 refine R0 (fun x:Nat×Stt×List Int=>x.1) (fun x e h=>okB x.2.1.b/\x.2.2.length+x.1=n/\look 1 e=some (.ptr 0 2 0 0)/\look 2 e=some (.ptr 1 2 0 0)/\look 3 e=some (.ptr 2 2 0 0)/\look 4 e=some (.ptr 3 2 0 0)/\
  look 5 e=some (a8 n)/\look 6 e=some (a8 x.2.2.length)/\∃X T N,Tail T N/\6<=N/\bX T=T/\h=⟨(0,.row 2 [cSt x.2.1])::(1,.row 2 [[.Xu 1 [],a8 0]])::(2,.row 2 [[a8 0,.Xu 1 []]])::(3,.row 2 [[a8 a,.app 1 (x.2.2.map c32) 5]])::(4,.row 2 [X])::(5,.tok 1 x.2.2.length)::T,N⟩)
  (RC a) ?_ (k,s,acc) e _ ⟨hb,hk,h1,h2,h3,h4,h5,h6,X,T,N,hT,hN,hS,rfl⟩
 rintro ⟨k,s,acc⟩ e _ L hL ⟨hb,hk,h1,h2,h3,h4,h5,h6,X,T,N,hT,hN,hS,rfl⟩ ih;simp only at hb hk h6 ih;have hw:IntKind.wrap .i64 ((acc.length:Int)+1)=((acc.length+1:Nat):Int):=bJ (by omega) (by omega);have hNN:=hT N (Qb _);have n0:¬(0=N):=by omega
 have n1:¬(1=N):=by omega
 have n2:¬(2=N):=by omega
 have n3:¬(3=N):=by omega
 have n4:¬(4=N):=by omega
 have n5:¬(5=N):=by omega
 cases k with
 | zero=>
  have q:¬((acc.length:Int)<n):=by omega
  simp [c_214_l0,c_214_k1,aU,cC_e,RC,gB,h1,h2,h3,h4,h5,h6,hL,q,hS]
 | succ k=>
  have q:(acc.length:Int)<n:=by omega
  by_cases z:s.e=0
  rotate_left
  ·simp [c_214_l0,c_214_k1,aU,cC_e,RC,QL z,h1,h2,h3,h4,h5,h6,hL,q,hS,z]
  have hr:=P4 s hb;simp only [aU,z] at hr;have hu:=gQ (FZ hb);have hlen:((acc.length:Nat)+1)*4<=70368744177664:=by omega
  simp [c_214_l0,aU,h1,h4,h5,h6,q,z,hr,hNN,n0,n1,n2,n3,n4,n5,hu,hw,hlen];refine (ih (k,(rdN 4 s).1,acc++[(rdN 4 s).2]) _ _ (pJ k) ⟨eK hb,by simp;omega,by simp [h1],by simp [h2],by simp [h3],by simp [h4],by simp [h5],by simp,X,
   T++[(N,.row 2 [[.slice 1 ((rdN 4 s).1.b.map c8),a8 (rdN 4 s).1.e]])],N+1,hT.app _,by omega,by simp [yG,hS],by simp [aU,I7]⟩).trans (by simp [RC,QQ z])
theorem QS (s:Stt) (hb:okB s.b):a9 Φ vL [.agg (cSt s)]=some (.val (.tup [.agg (cSt (fX s).1),.agg (cC (fX s).2)])):=by
 rw [aA rfl rfl];have hr2:=Yg s hb;have hb2:okB (rdN 2 s).1.b:=eK hb;have hr1:=YR _ hb2;have hb1:okB (rdN 1 (rdN 2 s).1).1.b:=eK hb2;have hrng:=FY hb2;have hr4:=P4 _ hb1;have hu:=gQ (FZ hb1);have hw0:IntKind.wrap .i64 1=1:=by decide
 simp only [fX,aU] at hr2 hr1 hr4 ⊢;obtain ⟨n,hn⟩:∃n:Nat,(rdN 1 (rdN 2 s).1).2=(n:Int):=⟨_,(Q8 hrng.1).symm⟩;rw [hn] at hr1 hrng;simp [K8,hr2,hr1,hn];refine qsv fun L hL hX=>?_
 by_cases q:n=0
 ·subst q;simp [c_214_l0,c_214_k1,gB,cC_e,hL]
 obtain ⟨m,rfl⟩:∃m,n=m+1:=⟨n - 1,by omega⟩;have q':(0:Int)<(m:Int)+1:=by omega
 by_cases z:(rdN 1 (rdN 2 s).1).1.e=0
 rotate_left
 ·simp [c_214_l0,c_214_k1,QL z,cC_e,q',z,hL]
 rw [z] at hr4;simp [c_214_l0,q',z,hr4,hu,hw0];rw [hX];have:=ZM (rdN 2 s).2 (m+1) (by omega) m (rdN 4 (rdN 1 (rdN 2 s).1).1).1 [(rdN 4 (rdN 1 (rdN 2 s).1).1).2] (eK hb1) (by simp;omega);simp only [aU,I7,u9,QB] at this;refine (this _ [] 6 _ ?_ ?_ ?_ ?_ ?_ ?_ (Tail.nil 6) (Qb _) (by simp)).trans ?_
 ·simp
 ·simp
 ·simp
 ·simp
 ·simp
 ·simp
 ·simp [RC,QQ z,aU,cC_e]
def cE (x:Entry):List AV:=[.slice 2 (x.keys.map Xi.c),a8 x.Xt,a8 x.call.Xz,.slice 1 (x.call.args.map c32)]
theorem cE_e (x:Entry):cE x=[.slice 2 (x.keys.map Xi.c),a8 x.Xt,a8 x.call.Xz,.slice 1 (x.call.args.map c32)]:=by simp [cE]
theorem Xi.ceJ (x:Xi):Xi.c x=[.int .u32 x.value,.int .u32 x.Ye]:=by simp [Xi.c]
theorem QM (h:s.e≠0):kI n s=(s,[]):=by
 cases n with
 | zero=>rfl
 | succ n=>simp [kI,h]
theorem U3 (h:s.e=0):kI (n+1) s=((kI n (oB s).1).1,(oB s).2::(kI n (oB s).1).2):=by
 simp [kI,h]
def RE (p:Int) (x:Nat×Stt×List Xi):Option Rt:=some (.val (.tup [.agg (cSt (fX (kI x.1 x.2.1).1).1),.agg (cE ⟨x.2.2++(kI x.1 x.2.1).2,p,(fX (kI x.1 x.2.1).1).2⟩)]))
theorem qxo (p:Int) (n:Nat) (hn:n<=255) (k:Nat) (s:Stt) (acc:List Xi) (hb:okB s.b) (hk:acc.length+k=n) (e:Env) (T:List (Nat×AO)) (N:Nat) (X:List AV)
  (h1:look 1 e=some (.ptr 0 2 0 0)) (h2:look 2 e=some (.ptr 1 2 0 0)) (h3:look 3 e=some (.ptr 2 4 0 0)) (h4:look 4 e=some (.ptr 3 4 0 0)) (h5:look 5 e=some (a8 n)) (h6:look 6 e=some (a8 acc.length))
  (hT:Tail T N) (hN:6<=N) (hS:bX T=T):
  go Φ (finP [.cell 2 true 2,.cell 3 true 4]) [.c (.loop c_212_l0),.b 0,.c c_212_k1] .normal
   ⟨e,⟨(0,.row 2 [cSt s])::(1,.row 2 [[.Xu 1 [],a8 0]])::(2,.row 4 [[.Xu 2 [],a8 0,a8 0,.Xu 1 []]])::(3,.row 4 [[.app 2 (acc.map Xi.c) 5,a8 p,a8 0,.Xu 1 []]])::(4,.row 2 [X])::(5,.tok 2 acc.length)::T,N⟩⟩=RE p (k,s,acc):=by
 refine R0 (fun x:Nat×Stt×List Xi=>x.1) (fun x e h=>okB x.2.1.b/\x.2.2.length+x.1=n/\look 1 e=some (.ptr 0 2 0 0)/\look 2 e=some (.ptr 1 2 0 0)/\look 3 e=some (.ptr 2 4 0 0)/\look 4 e=some (.ptr 3 4 0 0)/\
  look 5 e=some (a8 n)/\look 6 e=some (a8 x.2.2.length)/\∃X T N,Tail T N/\6<=N/\bX T=T/\h=⟨(0,.row 2 [cSt x.2.1])::(1,.row 2 [[.Xu 1 [],a8 0]])::(2,.row 4 [[.Xu 2 [],a8 0,a8 0,.Xu 1 []]])::(3,.row 4 [[.app 2 (x.2.2.map Xi.c) 5,a8 p,a8 0,.Xu 1 []]])::(4,.row 2 [X])::(5,.tok 2 x.2.2.length)::T,N⟩)
  (RE p) ?_ (k,s,acc) e _ ⟨hb,hk,h1,h2,h3,h4,h5,h6,X,T,N,hT,hN,hS,rfl⟩
 rintro ⟨k,s,acc⟩ e _ L hL ⟨hb,hk,h1,h2,h3,h4,h5,h6,X,T,N,hT,hN,hS,rfl⟩ ih;simp only at hb hk h6 ih;have hw:IntKind.wrap .i64 ((acc.length:Int)+1)=((acc.length+1:Nat):Int):=bJ (by omega) (by omega);have hNN:=hT N (Qb _);have n0:¬(0=N):=by omega
 have n1:¬(1=N):=by omega
 have n2:¬(2=N):=by omega
 have n3:¬(3=N):=by omega
 have n4:¬(4=N):=by omega
 have n5:¬(5=N):=by omega
 cases k with
 | zero=>
  have q:¬((acc.length:Int)<n):=by omega
  have hc:=QS s hb;simp only [aU,cC_e] at hc;simp [c_212_l0,c_212_k1,aU,cE_e,RE,kI,h1,h2,h3,h4,h5,h6,hL,q,hS,hc]
 | succ k=>
  have q:(acc.length:Int)<n:=by omega
  by_cases z:s.e=0
  rotate_left
  ·have hc:=QS s hb;simp only [aU,cC_e] at hc;simp [c_212_l0,c_212_k1,aU,cE_e,RE,QM z,h1,h2,h3,h4,h5,h6,hL,q,hS,z,hc]
  have hb1:okB (rdN 4 s).1.b:=eK hb;have hr:=P4 s hb;have hr2:=P4 _ hb1;simp only [aU,z] at hr hr2;have hu:=gQ (FZ hb);have hu2:=gQ (FZ hb1);have hlen:((acc.length:Nat)+1)*8<=70368744177664:=by omega
  simp [c_212_l0,aU,h1,h4,h5,h6,q,z,hr,hr2,hNN,n0,n1,n2,n3,n4,n5,hu,hu2,hw,hlen];refine (ih (k,(oB s).1,acc++[(oB s).2]) _ _ (pJ k) ⟨QR hb,by simp;omega,by simp [h1],by simp [h2],by simp [h3],by simp [h4],by simp [h5],by simp,X,
   T++[(N,.row 2 [[.slice 1 ((oB s).1.b.map c8),a8 (oB s).1.e]])],N+1,hT.app _,by omega,by simp [yG,hS],by simp [aU,Xi.ceJ,oB]⟩).trans (by simp [RE,U3 z])
theorem ZV (s:Stt) (hb:okB s.b):a9 Φ CX [.agg (cSt s)]=some (.val (.tup [.agg (cSt (zO s).1),.agg (cE (zO s).2)])):=by
 rw [aA rfl rfl];have hr2:=Yg s hb;have hb2:okB (rdN 2 s).1.b:=eK hb;have hr1:=YR _ hb2;have hb1:okB (rdN 1 (rdN 2 s).1).1.b:=eK hb2;have hrng:=FY hb2;have hr4:=P4 _ hb1;have hb4:okB (rdN 4 (rdN 1 (rdN 2 s).1).1).1.b:=eK hb1;have hr5:=P4 _ hb4;have hu:=gQ (FZ hb1);have hu2:=gQ (FZ hb4);have hw0:IntKind.wrap .i64 1=1:=by decide
 simp only [zO,aU] at hr2 hr1 hr4 hr5 ⊢;obtain ⟨n,hn⟩:∃n:Nat,(rdN 1 (rdN 2 s).1).2=(n:Int):=⟨_,(Q8 hrng.1).symm⟩;rw [hn] at hr1 hrng;simp [K7,hr2,hr1,hn];refine qsv fun L hL hX=>?_
 by_cases q:n=0
 ·subst q;have hc:=QS _ hb1;simp only [aU,cC_e] at hc;simp [c_212_l0,c_212_k1,kI,cE_e,hL,hc]
 obtain ⟨m,rfl⟩:∃m,n=m+1:=⟨n - 1,by omega⟩;have q':(0:Int)<(m:Int)+1:=by omega
 by_cases z:(rdN 1 (rdN 2 s).1).1.e=0
 rotate_left
 ·have hc:=QS _ hb1;simp only [aU,cC_e] at hc;simp [c_212_l0,c_212_k1,QM z,cE_e,q',z,hL,hc]
 rw [z] at hr4;simp [c_212_l0,q',z,hr4,hr5,hu,hu2,hw0];rw [hX];have:=qxo (rdN 2 s).2 (m+1) (by omega) m (oB (rdN 1 (rdN 2 s).1).1).1 [(oB (rdN 1 (rdN 2 s).1).1).2] (QR hb1) (by simp;omega);simp only [aU,Xi.ceJ,u9,QB] at this;refine (this _ [] 6 _ ?_ ?_ ?_ ?_ ?_ ?_ (Tail.nil 6) (Qb _) (by simp)).trans ?_
 ·simp
 ·simp
 ·simp
 ·simp
 ·simp
 ·simp
 ·simp [RE,U3 z,aU,cE_e]
theorem Xc.ce (x:Xc):Xc.c x=[a8 x.kind,a8 x.table,a8 x.id,.slice 2 (x.entry.keys.map Xi.c),a8 x.entry.Xt,a8 x.entry.call.Xz,.slice 1 (x.entry.call.args.map c32),a8 x.call.Xz,.slice 1 (x.call.args.map c32)]:=by simp [Xc.c]
theorem OZ (h:s.e≠0):rdN n s=(s,0):=by simp [rdN,h]
theorem Mf (s:Stt) (hb:okB s.b):a9 Φ C7 [.agg (cSt s)]=some (.val (.tup [.agg (cSt (rdOp s).1),.agg (Xc.c (rdOp s).2)])):=by
 rw [aA rfl rfl];have hr1:=YR s hb;have hb1:okB (rdN 1 s).1.b:=eK hb;have hbk:okB (kE (rdN 1 s)).b:=XK hb1;have hr2:=Yg _ hbk;have hb2:okB (rdN 2 (kE (rdN 1 s))).1.b:=eK hbk;have hE:=ZV _ hb2;have hI:=Me _ hb2;have hbI:okB (rdI (rdN 2 (kE (rdN 1 s))).1).1.b:=RI hb2;have hCI:=QS _ hbI;have hC:=QS _ hb2;simp only [rdOp];simp only [aU,cE_e,cC_e] at hr1 hr2 hE hI hCI hC ⊢;by_cases z1:(rdN 1 s).1.e=0
 ·by_cases k1:(rdN 1 s).2<1
  ·have hk:kE (rdN 1 s)=⟨(rdN 1 s).1.b,5⟩:=by simp [kE,z1,k1]
   rw [hk] at hr2 ⊢;rw [OZ (n:=2) (s:=⟨(rdN 1 s).1.b,5⟩) (by simp)] at hr2 ⊢;simp only at hr2;simp [gI,hr1,hr2,z1,k1,iX,Xc.ce,jV,gX]
  by_cases k2:4<(rdN 1 s).2
  ·have hk:kE (rdN 1 s)=⟨(rdN 1 s).1.b,5⟩:=by simp [kE,z1,k2]
   rw [hk] at hr2 ⊢;rw [OZ (n:=2) (s:=⟨(rdN 1 s).1.b,5⟩) (by simp)] at hr2 ⊢;simp only at hr2;simp [gI,hr1,hr2,z1,k1,k2,iX,Xc.ce,jV,gX]
  have hk:kE (rdN 1 s)=(rdN 1 s).1:=by simp [kE,z1,k1,k2]
  rw [hk] at hr2 hE hI hCI hC ⊢;rw [z1] at hr2;by_cases z2:(rdN 2 (rdN 1 s).1).1.e=0
  rotate_left
  ·simp [gI,hr1,hr2,z1,k1,k2,z2,iX,Xc.ce,jV,gX]
  rw [z2] at hE hI hC;by_cases c1:(rdN 1 s).2=1
  ·rw [c1] at hr1;simp [gI,hr1,hr2,z1,z2,c1,hE,iX,Xc.ce,gX]
  by_cases c4:(rdN 1 s).2=4
  ·rw [c4] at hr1;simp [gI,hr1,hr2,z1,z2,c4,hC,iX,Xc.ce,jV,gX]
  by_cases c3:(rdN 1 s).2=3
  ·rw [c3] at hr1;simp [gI,hr1,hr2,z1,z2,c3,hI,iX,Xc.ce,jV,gX]
  have c2:(rdN 1 s).2=2:=by omega
  rw [c2] at hr1;by_cases z3:(rdI (rdN 2 (rdN 1 s).1).1).1.e=0
  ·rw [z3] at hCI;simp [gI,hr1,hr2,z1,z2,c2,hI,z3,hCI,iX,Xc.ce,jV,gX]
  ·simp [gI,hr1,hr2,z1,z2,c2,hI,z3,iX,Xc.ce,jV,gX]
 ·have hk:kE (rdN 1 s)=(rdN 1 s).1:=by simp [kE,z1]
  rw [hk] at hr2 ⊢;rw [OZ (n:=2) z1] at hr2 ⊢;simp [gI,hr1,hr2,z1,iX,Xc.ce,jV,gX]
theorem Ti (h:s.e≠0):oC n s=(s,[]):=by
 cases n with
 | zero=>rfl
 | succ n=>simp [oC,h]
theorem FS (h:s.e=0):oC (n+1) s=((oC n (rdOp s).1).1,(rdOp s).2::(oC n (rdOp s).1).2):=by
 simp [oC,h]
def RD (x:Nat×Stt×List Xc):Option Rt:=
 some (.val (.tup [.slice 9 ((if endE (oC x.1 x.2.1).1=0 then x.2.2++(oC x.1 x.2.1).2 else []).map Xc.c),a8 (endE (oC x.1 x.2.1).1)]))
theorem Fs (s:Stt) (acc:List Xc) (e:Env) (h4:look 4 e=some (.ptr 0 2 0 0)) (h6:look 6 e=some (.app 9 (acc.map Xc.c) 1)) (o:AO) (T:List (Nat×AO)) (N:Nat) (hS:bX ((1,o)::T)=(1,o)::T):
  go Φ (finP [.tmp 2,.tmp 3]) [.c c_72_k1] .normal ⟨e,⟨(0,.row 2 [[.slice 1 (s.b.map c8),a8 s.e]])::(1,o)::T,N⟩⟩=some (.val (.tup [.slice 9 ((if endE s=0 then acc else []).map Xc.c),a8 (endE s)])):=by
 by_cases z:s.e=0
 rotate_left
 ·have:endE s=s.e:=by simp [endE,z]
  simp [c_72_k1,h4,z,this]
 by_cases q:s.b=[]
 ·have:endE s=0:=by simp [endE,z,q]
  simp [c_72_k1,h4,h6,z,this,q]
 ·have:endE s=4:=by simp [endE,z,q]
  have hl:0<s.b.length:=List.length_pos_iff.2 q;simp [c_72_k1,h4,z,this,hl]
theorem Bi (n:Nat) (hn:n<=255) (k:Nat) (s:Stt) (acc:List Xc) (hb:okB s.b) (hk:acc.length+k=n) (e:Env) (T:List (Nat×AO)) (N:Nat)
  (h4:look 4 e=some (.ptr 0 2 0 0)) (h5:look 5 e=some (a8 n)) (h6:look 6 e=some (.app 9 (acc.map Xc.c) 1)) (h7:look 7 e=some (a8 acc.length))
  (hT:Tail T N) (hN:2<=N) (hS:bX T=T):
  go Φ (finP [.tmp 2,.tmp 3]) [.c (.loop c_72_l0),.b 0,.c c_72_k1] .normal ⟨e,⟨(0,.row 2 [cSt s])::(1,.tok 9 acc.length)::T,N⟩⟩=RD (k,s,acc):=by
 refine R0 (fun x:Nat×Stt×List Xc=>x.1) (fun x e h=>okB x.2.1.b/\x.2.2.length+x.1=n/\look 4 e=some (.ptr 0 2 0 0)/\
  look 5 e=some (a8 n)/\look 6 e=some (.app 9 (x.2.2.map Xc.c) 1)/\look 7 e=some (a8 x.2.2.length)/\∃T N,Tail T N/\2<=N/\bX T=T/\h=⟨(0,.row 2 [cSt x.2.1])::(1,.tok 9 x.2.2.length)::T,N⟩)
  RD ?_ (k,s,acc) e _ ⟨hb,hk,h4,h5,h6,h7,T,N,hT,hN,hS,rfl⟩
 rintro ⟨k,s,acc⟩ e _ L hL ⟨hb,hk,h4,h5,h6,h7,T,N,hT,hN,hS,rfl⟩ ih;simp only at hb hk h6 h7 ih;have hw:IntKind.wrap .i64 ((acc.length:Int)+1)=((acc.length+1:Nat):Int):=bJ (by omega) (by omega);have hNN:=hT N (Qb _);have hN1:=hT (N+1) (by omega);have n0:¬(0=N):=by omega
 have n1:¬(1=N):=by omega
 have m0:¬(N=0):=by omega
 have m1:¬(1=N+1):=by omega
 have hend:∀e:Env,look 4 e=some (.ptr 0 2 0 0)->look 6 e=some (.app 9 (acc.map Xc.c) 1)->go Φ (finP [.tmp 2,.tmp 3]) [.c c_72_k1] .normal ⟨e,⟨(0,.row 2 [[.slice 1 (s.b.map c8),a8 s.e]])::(1,.tok 9 acc.length)::T,N⟩⟩=some (.val (.tup [.slice 9 ((if endE s=0 then acc else []).map Xc.c),a8 (endE s)])):=
  fun e a b=>Fs s acc e a b _ T N (by simp [hS])
 cases k with
 | zero=>
  have q:¬((acc.length:Int)<n):=by omega
  simp [c_72_l0,aU,h5,h7,hL,q];refine (hend _ (by simp [h4]) (by simp [h6])).trans (by simp [RD,oC])
 | succ k=>
  have q:(acc.length:Int)<n:=by omega
  by_cases z:s.e=0
  rotate_left
  ·simp [c_72_l0,aU,h4,h5,h7,hL,q,z];refine (hend _ (by simp [h4]) (by simp [h6])).trans (by simp [RD,Ti z])
  have hr:=Mf s hb;simp only [aU,z,Xc.ce] at hr;have hlen:((acc.length:Nat)+1)*120<=70368744177664:=by omega
  simp [c_72_l0,aU,h4,h5,h6,h7,q,z,hr,hNN,hN1,n0,n1,m0,hw,hlen];refine (ih (k,(rdOp s).1,acc++[(rdOp s).2]) _ _ (pJ k) ⟨FW hb,by simp;omega,by simp [h4],by simp [h5],by simp [Xc.ce],by simp,
   T++[(N,.row 2 [[.slice 1 ((rdOp s).1.b.map c8),a8 (rdOp s).1.e]]),(N+1,.row 9 [Xc.c (rdOp s).2])],N+2,?_,by omega,by simp [yG,hS],by simp [aU,Xc.ce]⟩).trans (by simp [RD,FS z])
  have:=(hT.app (.row 2 [[.slice 1 ((rdOp s).1.b.map c8),a8 (rdOp s).1.e]])).app (.row 9 [Xc.c (rdOp s).2]);simpa using this
theorem Ui {p:Stt×Int} (h:okB p.1.b):okB (cntS p).b:=by
 unfold cntS;split<;>exact h
theorem qz5 (b:List Int) (hb:okB b):a9 Φ H9 [.slice 1 (b.map c8)]=some (.val (.tup [.slice 9 ((decB b).1.map Xc.c),a8 (decB b).2])):=by
 rw [aA rfl rfl];have hr1:=YR ⟨b,0⟩ hb;have hb1:okB (rdN 1 ⟨b,0⟩).1.b:=eK hb;have hrng:=FY (s:=⟨b,0⟩) hb;obtain ⟨n,hn⟩:∃n:Nat,(rdN 1 ⟨b,0⟩).2=(n:Int):=⟨_,(Q8 hrng.1).symm⟩;rw [hn] at hr1 hrng;simp only [aU] at hr1;have key:=Bi n (by omega) n (cntS (rdN 1 ⟨b,0⟩)) [] (Ui hb1) (by simp);simp only [aU,cntS,hn,QB,mI] at key;by_cases q:64<(n:Int)
 ·simp only [aB q] at key;simp [N8,hr1,q];refine (key _ [] 2 ?_ ?_ ?_ ?_ (Tail.nil 2) (Qb _) (by simp)).trans ?_
  ·simp
  ·simp
  ·simp
  ·simp
  ·simp [RD,decB,cntS,hn,q]
 ·simp only [QA q] at key;simp [N8,hr1,q];refine (key _ [] 2 ?_ ?_ ?_ ?_ (Tail.nil 2) (Qb _) (by simp)).trans ?_
  ·simp
  ·simp
  ·simp
  ·simp
  ·simp [RD,decB,cntS,hn,q]
theorem EU (hv:0<=v/\v<16777216) (hx:0<=x/\x<=255):ior .u32 (ishl .u32 v 8) x=256*v+x:=by
 obtain ⟨n,rfl⟩:∃n:Nat,v=(n:Int):=⟨v.toNat,by omega⟩;obtain ⟨b,rfl⟩:∃b:Nat,x=(b:Int):=⟨x.toNat,by omega⟩;have e1:ishl .u32 (n:Int) 8=((n*256:Nat):Int):=by
  unfold ishl;have:((n:Int)*2^(min (8:Int).toNat (IntKind.bits .u32)))=((n*256:Nat):Int):=by
   have:(2:Int)^(min (8:Int).toNat (IntKind.bits .u32))=256:=by decide
   rw [this];omega
  rw [this,gQ (by omega)]
 rw [e1];unfold ior;have h2:(BitVec.ofInt (IntKind.bits .u32) ((n*256:Nat):Int) ||| BitVec.ofInt (IntKind.bits .u32) (b:Int)).toNat=256*n+b:=by
  rw [BitVec.toNat_or];rw [Q5,Q5,A5,A5];have hbits:IntKind.bits .u32=32:=rfl;rw [hbits,zG (by omega),zG (by omega)];have:=Nat.shiftLeft_add_eq_or_of_lt (b:=b) (i:=8) (by omega) n;rw [Nat.shiftLeft_eq] at this;rw [show n*256=n*2^8 by rfl,<- this];omega
 rw [h2,gQ (by omega)];omega
theorem YT (s:Stt) (hb:okB s.b) (T:List (Nat×AO)) (N:Nat):aN Φ dJ [.ptr 0 2 0 0,a8 1] ⟨(0,.row 2 [cSt s])::T,N⟩=some (.val (.int .u32 (rdN 1 s).2),⟨(0,.row 2 [cSt (rdN 1 s).1])::T,N⟩):=by
 rw [dW rfl rfl];by_cases q:s.e=0
 rotate_left
 ·simp [gG,aU,rdN,q]
 by_cases q1:s.b.length<1
 ·have q1':(s.b.length:Int)<1:=by omega
  simp [gG,aU,rdN,q,q1,q1']
 obtain ⟨b,e⟩:=s;simp only at q q1 hb;have q2:¬((b.length:Int)<1):=by omega
 have q3:(1:Int)<=b.length:=by omega
 have q4:1<=b.length:=by omega
 have i0:0<b.length:=by omega
 have h0:=hb _ (Qd i0);have w0:IntKind.wrap .u32 b[0]=b[0]:=gQ (by omega);have k0:IntKind.wrap .i64 0=0:=by decide
 have k1:IntKind.wrap .i64 1=1:=by decide
 have k2:IntKind.wrap .i64 2=2:=by decide
 have k3:IntKind.wrap .i64 3=3:=by decide
 have k4:IntKind.wrap .i64 4=4:=by decide
 simp [gG,aU,rdN,q,q1,q2,q3,q4,qvj b i0];rw [bG];simp [c_122_l0,c8e,k1,w0,q4];rw [bG];simp [c_122_k1,q3];have x0:ior .u32 (ishl .u32 0 8) b[0]=b[0]:=by rw [EU (by omega) (by omega)];omega
 have fin:ior .u32 (ishl .u32 0 8) b[0]=b[0]:=by rw [x0]
 exact ⟨fin,Qo (by simp)⟩
theorem Yv (s:Stt) (hb:okB s.b) (T:List (Nat×AO)) (N:Nat):aN Φ dJ [.ptr 0 2 0 0,a8 2] ⟨(0,.row 2 [cSt s])::T,N⟩=some (.val (.int .u32 (rdN 2 s).2),⟨(0,.row 2 [cSt (rdN 2 s).1])::T,N⟩):=by
 rw [dW rfl rfl];by_cases q:s.e=0
 rotate_left
 ·simp [gG,aU,rdN,q]
 by_cases q1:s.b.length<2
 ·have q1':(s.b.length:Int)<2:=by omega
  simp [gG,aU,rdN,q,q1,q1']
 obtain ⟨b,e⟩:=s;simp only at q q1 hb;have q2:¬((b.length:Int)<2):=by omega
 have q3:(2:Int)<=b.length:=by omega
 have q4:2<=b.length:=by omega
 have i0:0<b.length:=by omega
 have h0:=hb _ (Qd i0);have w0:IntKind.wrap .u32 b[0]=b[0]:=gQ (by omega);have i1:1<b.length:=by omega
 have h1:=hb _ (Qd i1);have w1:IntKind.wrap .u32 b[1]=b[1]:=gQ (by omega);have k0:IntKind.wrap .i64 0=0:=by decide
 have k1:IntKind.wrap .i64 1=1:=by decide
 have k2:IntKind.wrap .i64 2=2:=by decide
 have k3:IntKind.wrap .i64 3=3:=by decide
 have k4:IntKind.wrap .i64 4=4:=by decide
 simp [gG,aU,rdN,q,q1,q2,q3,q4,qvk b i1];rw [bG];simp [c_122_l0,c8e,k1,w0,q4];rw [bG];simp [c8e,k2,w1,q4];rw [bG];simp [c_122_k1,q3];have x0:ior .u32 (ishl .u32 0 8) b[0]=b[0]:=by rw [EU (by omega) (by omega)];omega
 have x1:ior .u32 (ishl .u32 (b[0]) 8) b[1]=256*(b[0])+b[1]:=EU (by omega) (by omega);have fin:ior .u32 (ishl .u32 (ior .u32 (ishl .u32 0 8) b[0]) 8) b[1]=256*(b[0])+b[1]:=by rw [x0,x1]
 exact ⟨fin,Qo (by simp)⟩
theorem P7 (s:Stt) (hb:okB s.b) (T:List (Nat×AO)) (N:Nat):aN Φ dJ [.ptr 0 2 0 0,a8 4] ⟨(0,.row 2 [cSt s])::T,N⟩=some (.val (.int .u32 (rdN 4 s).2),⟨(0,.row 2 [cSt (rdN 4 s).1])::T,N⟩):=by
 rw [dW rfl rfl];by_cases q:s.e=0
 rotate_left
 ·simp [gG,aU,rdN,q]
 by_cases q1:s.b.length<4
 ·have q1':(s.b.length:Int)<4:=by omega
  simp [gG,aU,rdN,q,q1,q1']
 obtain ⟨b,e⟩:=s;simp only at q q1 hb;have q2:¬((b.length:Int)<4):=by omega
 have q3:(4:Int)<=b.length:=by omega
 have q4:4<=b.length:=by omega
 have i0:0<b.length:=by omega
 have h0:=hb _ (Qd i0);have w0:IntKind.wrap .u32 b[0]=b[0]:=gQ (by omega);have i1:1<b.length:=by omega
 have h1:=hb _ (Qd i1);have w1:IntKind.wrap .u32 b[1]=b[1]:=gQ (by omega);have i2:2<b.length:=by omega
 have h2:=hb _ (Qd i2);have w2:IntKind.wrap .u32 b[2]=b[2]:=gQ (by omega);have i3:3<b.length:=by omega
 have h3:=hb _ (Qd i3);have w3:IntKind.wrap .u32 b[3]=b[3]:=gQ (by omega);have k0:IntKind.wrap .i64 0=0:=by decide
 have k1:IntKind.wrap .i64 1=1:=by decide
 have k2:IntKind.wrap .i64 2=2:=by decide
 have k3:IntKind.wrap .i64 3=3:=by decide
 have k4:IntKind.wrap .i64 4=4:=by decide
 simp [gG,aU,rdN,q,q1,q2,q3,q4,XU b i3];rw [bG];simp [c_122_l0,c8e,k1,w0,q4];rw [bG];simp [c8e,k2,w1,q4];rw [bG];simp [c8e,k3,w2,q4];rw [bG];simp [c8e,k4,w3,q4];rw [bG];simp [c_122_k1,q3];have x0:ior .u32 (ishl .u32 0 8) b[0]=b[0]:=by rw [EU (by omega) (by omega)];omega
 have x1:ior .u32 (ishl .u32 (b[0]) 8) b[1]=256*(b[0])+b[1]:=EU (by omega) (by omega);have x2:ior .u32 (ishl .u32 (256*(b[0])+b[1]) 8) b[2]=256*(256*(b[0])+b[1])+b[2]:=EU (by omega) (by omega);have x3:ior .u32 (ishl .u32 (256*(256*(b[0])+b[1])+b[2]) 8) b[3]=256*(256*(256*(b[0])+b[1])+b[2])+b[3]:=EU (by omega) (by omega);have fin:ior .u32 (ishl .u32 (ior .u32 (ishl .u32 (ior .u32 (ishl .u32 (ior .u32 (ishl .u32 0 8) b[0]) 8) b[1]) 8) b[2]) 8) b[3]=256*(256*(256*(b[0])+b[1])+b[2])+b[3]:=by rw [x0,x1,x2,x3]
 exact ⟨fin,Qo (by simp)⟩
theorem dreq (s:Stt) (ok:Bool) (c:Int) (T:List (Nat×AO)) (N:Nat):aN Φ iF [.ptr 0 2 0 0,.bool ok,a8 c] ⟨(0,.row 2 [cSt s])::T,N⟩=
  some (.val (.tup []),⟨(0,.row 2 [cSt (if s.e=0/\ok=false then ⟨s.b,c⟩ else s)])::T,N⟩):=by
 rw [dW rfl rfl];by_cases q:s.e=0
 ·cases ok<;>simp [A9,aU,q]
 ·cases ok<;>simp [A9,aU,q]
theorem qvv (h:(rdN n s).1.e≠0):(rdN n s).2=0:=by
 unfold rdN at h ⊢;split
 ·split
  ·rfl
  ·rename_i q1 q2;rw [aB q1,QA q2] at h;simp at h
 ·rfl
theorem did (s:Stt) (hb:okB s.b) (T:List (Nat×AO)) (N:Nat):aN Φ qZ [.ptr 0 2 0 0] ⟨(0,.row 2 [cSt s])::T,N⟩=some (.val (a8 (rdI s).2),⟨(0,.row 2 [cSt (rdI s).1])::T,N⟩):=by
 rw [dW rfl rfl];have h4:=P7 s hb T N;have hr:=FZ hb;have hw:IntKind.wrap .i64 (rdN 4 s).2=(rdN 4 s).2:=bJ (by omega) (by omega);have hq:=dreq (rdN 4 s).1 (decide ((rdN 4 s).2<=2147483647)) 5 T N;have e:(if (rdN 4 s).1.e=0/\decide ((rdN 4 s).2<=2147483647)=false then (⟨(rdN 4 s).1.b,5⟩:Stt) else (rdN 4 s).1)=(rdI s).1:=by
  simp only [rdI];by_cases z:(rdN 4 s).1.e=0
  ·by_cases y:(rdN 4 s).2<=2147483647
   ·have y':¬(2147483647<(rdN 4 s).2):=by omega
    simp [z,y,y']
   ·simp [z,y]
  ·have:=qvv z;simp [z,this]
 rw [e] at hq;simp [K2,h4,hq,hw,rdI]
theorem zI {α:Type} (f:α->α->Bool):∀l:List α,(∀x∈l,f x x=true)->eqL f l l=true
 | [],_=>by simp [eqL]
 | x::r,h=>by simp [eqL,h x (QE ..),zI f r (fun y hy=>h y (FO _ hy))]
theorem iZ (n:Nat) (k:IntKind) (v:Int):avEq (n+1) (.int k v) (.int k v)=true:=by unfold avEq;simp
theorem R6 (n z:Nat):avEq (n+1) (.Xu z []) (.Xu z [])=true:=by unfold avEq;simp [eqL]
theorem que (n z:Nat) (es:List (List AV)) (t:Nat) (h:eqL (eqL (avEq n)) es es=true):avEq (n+1) (.app z es t) (.app z es t)=true:=by unfold avEq;simp [h]
theorem QU (z:Nat) (cs:List AV) (h:∀x∈cs,avEq 40 x x=true):aoEq (some (.row z [cs])) (some (.row z [cs]))=true:=by
 have h1:=zI (avEq 40) cs h;unfold aoEq;simp [bE,eqL,h1]
theorem Ad (a:Int) (l:List Int) (t:Nat):aoEq (some (.row 2 [[a8 a,.app 1 (l.map c32) t]])) (some (.row 2 [[a8 a,.app 1 (l.map c32) t]]))=true:=by
 apply QU;intro x hx;simp at hx;rcases hx with rfl | rfl
 ·exact iZ 39 _ _
 ·refine que 39 _ _ _ (zI _ _ ?_);intro x hx;obtain ⟨y,_,rfl⟩:=kY.1 hx;rw [I7];exact zI _ _ (by simp;exact iZ 38 _ _)
theorem qyu (a:Int):aoEq (some (.row 2 [[a8 a,.Xu 1 []]])) (some (.row 2 [[a8 a,.Xu 1 []]]))=true:=by
 apply QU;intro x hx;simp at hx;rcases hx with rfl | rfl
 ·exact iZ 39 _ _
 ·exact R6 39 _
section
variable {Φ:FuncId->Option AFun} {fin:Option (Ex×St)->Option I}
include Φ fin
theorem QP {C:Type} (m:C->Nat) (Inv:C->Env->AH->Prop) (R:C->Option I->Prop) {b:Xv}
  (step:∀x e h L,(∀j s,go Φ fin L (.exit j) s=go Φ fin K (.exit j) s)->Inv x e h->(∀y e' h',m y<m x->Inv y e' h'->R y (go Φ fin L .normal ⟨e',h'⟩))->R x (go Φ fin (.c b::L) .normal ⟨e,h⟩)):
  ∀x e h,Inv x e h->R x (go Φ fin (.c (.loop b)::K) .normal ⟨e,h⟩):=by
 have key:∀n x e h,m x<=n->Inv x e h->R x (go Φ fin (.c (.loop b)::K) .normal ⟨e,h⟩):=by
  intro n
  induction n with
  | zero=>
   intro x e h hn hi;rw [bG];exact step x e h _ (fun j s=>by simp) hi fun y e' h' hlt=>by omega
  | succ n ih=>
   intro x e h hn hi;rw [bG];exact step x e h _ (fun j s=>by simp) hi fun y e' h' hlt hy=>ih y e' h' (by omega) hy
 intro x e h hi;exact key (m x) x e h (Qb _) hi
theorem qqg {b:Xv} {s:St} (Q:Option I->Prop)
  (h:∀L,(∀j s,go Φ fin L (.exit j) s=go Φ fin K (.exit j) s)->(∀s,go Φ fin L .normal s=go Φ fin (.c (.loop b)::K) .normal s)->Q (go Φ fin (.c b::L) .normal s)):
  Q (go Φ fin (.c (.loop b)::K) .normal s):=by
 rw [bG];exact h _ (fun j s=>by simp) (fun s=>rfl)
end
def DC (T:List (Nat×AO)) (p t:Nat) (a:Int) (x:Nat×Stt×List Int) (r:Option (Rt×AH)):Prop:=
 ∃N,t<N/\r=some (.val (.agg [a8 a,.app 1 ((x.2.2++(gB x.1 x.2.1).2).map c32) t]),
  ⟨(0,.row 2 [cSt (gB x.1 x.2.1).1])::(T++[(p,.row 2 [[a8 a,.app 1 ((x.2.2++(gB x.1 x.2.1).2).map c32) t]]),(p+1,.row 2 [[a8 a,.app 1 ((x.2.2++(gB x.1 x.2.1).2).map c32) t]]),(t,.tok 1 (x.2.2.length+(gB x.1 x.2.1).2.length))]),N⟩)
theorem qzd (T:List (Nat×AO)) (p:Nat) (hp:1<=p) (hT:Tail T p) (hS:bX T=T) (a:Int) (t:Nat) (ht:p+1<t) (k:Nat) (s:Stt) (acc:List Int) (hb:okB s.b) (hk:acc.length+k<=255) (e:Env) (N:Nat) (hN:t<N)
  (h0:look 0 e=some (.ptr 0 2 0 0)) (h2:look 2 e=some (.ptr p 2 0 0)) (h3:look 3 e=some (.ptr (p+1) 2 0 0)) (h4:look 4 e=some (.int .u32 k)):
  DC T p t a (k,s,acc) (go Φ (finC [.cell 2 true 2]) [.c (.loop c_193_l0),.b 0,.c c_193_k1] .normal
   ⟨e,⟨(0,.row 2 [cSt s])::(T++[(p,.row 2 [[a8 0,.Xu 1 []]]),(p+1,.row 2 [[a8 a,.app 1 (acc.map c32) t]]),(t,.tok 1 acc.length)]),N⟩⟩):=by
 refine QP (fun x:Nat×Stt×List Int=>x.1) (fun x e h=>okB x.2.1.b/\x.2.2.length+x.1<=255/\look 0 e=some (.ptr 0 2 0 0)/\look 2 e=some (.ptr p 2 0 0)/\look 3 e=some (.ptr (p+1) 2 0 0)/\look 4 e=some (.int .u32 x.1)/\
  ∃N,t<N/\h=⟨(0,.row 2 [cSt x.2.1])::(T++[(p,.row 2 [[a8 0,.Xu 1 []]]),(p+1,.row 2 [[a8 a,.app 1 (x.2.2.map c32) t]]),(t,.tok 1 x.2.2.length)]),N⟩) (DC T p t a) ?_ (k,s,acc) e _ ⟨hb,hk,h0,h2,h3,h4,N,hN,rfl⟩
 rintro ⟨k,s,acc⟩ e _ L hL ⟨hb,hk,h0,h2,h3,h4,N,hN,rfl⟩ ih;simp only at hb hk h4 ih;have hpp:=hT p (Qb _);have hp1:=hT (p+1) (by omega);have htt:=hT t (by omega);have p0:¬(0=p):=by omega
 have p0':¬(p=0):=by omega
 have t0:¬(0=t):=by omega
 have t1:¬(p=t):=by omega
 have t2:¬(p+1=t):=by omega
 have hNr:=hT (N+27) (by omega);have e1:¬(p=N+27):=by omega
 have e2:¬(p+1=N+27):=by omega
 have e3:¬(t=N+27):=by omega
 cases k with
 | zero=>
  refine ⟨N,hN,?_⟩;simp [c_193_l0,c_193_k1,gB,aU,h2,h3,h4,hL,hpp,hp1,p0,p0']
 | succ k=>
  have q:(0:Int)<(k:Int)+1:=by omega
  by_cases z:s.e=0
  rotate_left
  ·refine ⟨N,hN,?_⟩;simp [c_193_l0,c_193_k1,QL z,aU,h0,h2,h3,h4,hL,hpp,hp1,p0,p0',z,q]
  have hnum:=P7 s hb;simp only [aU,z] at hnum;have ha:=Ad a acc t;have hw:IntKind.wrap .u32 (k:Int)=(k:Int):=gQ (by omega);have hlen:((acc.length:Nat)+1)*4<=70368744177664:=by omega
  have:=ih (k,(rdN 4 s).1,acc++[(rdN 4 s).2]);simp only [DC,QQ z] at this ⊢;simp [c_193_l0,aU,h0,h3,h4,hp1,htt,p0',t0,t1,t2,z,q,hnum,ha,hS,yG,hw,hNr,e1,hlen];refine Exists.imp (fun N2 g=>⟨g.1,g.2.trans (by simp [aU];omega)⟩) (this _ _ (pJ k) ⟨eK hb,by simp;omega,by simp [h0],by simp [h2],by simp [h3],by simp,N+27+1,by omega,by simp [aU,I7]⟩)
def ArgV (X:AV) (l:List Int):Prop:=(X= .Xu 1 []/\l=[])\/∃t,X= .app 1 (l.map c32) t
structure HExt (p:Nat) (E:List (Nat×AO)) (N:Nat):Prop where
 le:p<=N
 lo:∀j,j<p->look j E=none
 hi:Tail E N
 sw:bX E=E
def DQ (T:List (Nat×AO)) (p:Nat) (a:Int) (n:Nat) (s:Stt) (r:Option (Rt×AH)):Prop:=
 ∃X E N,r=some (.val (.agg [a8 a,X]),⟨(0,.row 2 [cSt (gB n s).1])::(T++E),N⟩)/\HExt p E N/\ArgV X (gB n s).2
variable {t p:Nat} {T:List (Nat×AO)} {a:Int}
theorem Ca {m:Nat} {r:Option (Rt×AH)} (ht:p+1<t) (z:s.e=0) (h:DC T p t a (m,(rdN 4 s).1,[(rdN 4 s).2]) r):DQ T p a (m+1) s r:=by
 obtain ⟨N,h1,h2⟩:=h;refine ⟨_,[(p,.row 2 [[a8 a,.app 1 (([(rdN 4 s).2]++(gB m (rdN 4 s).1).2).map c32) t]]),(p+1,.row 2 [[a8 a,.app 1 (([(rdN 4 s).2]++(gB m (rdN 4 s).1).2).map c32) t]]),(t,.tok 1 (1+(gB m (rdN 4 s).1).2.length))],N,h2.trans (by simp [QQ z];rfl),⟨by omega,?_,?_,by simp⟩,.inr ⟨t,by simp [QQ z]⟩⟩
 ·intro j hj;have:¬p=j:=by omega
  have:¬p+1=j:=by omega
  have:¬t=j:=by omega
  simp [*]
 ·intro j hj;have:¬p=j:=by omega
  have:¬p+1=j:=by omega
  have:¬t=j:=by omega
  simp [*]
theorem qxx (h:gB n s=(s,[])):
  DQ T p a n s (some (.val (.agg [a8 a,.Xu 1 []]),⟨(0,.row 2 [[.slice 1 (s.b.map c8),a8 s.e]])::(T++[(p,.row 2 [[a8 a,.Xu 1 []]]),(p+1,.row 2 [[a8 a,.Xu 1 []]])]),p+1+1⟩)):=by
 refine ⟨.Xu 1 [],[(p,.row 2 [[a8 a,.Xu 1 []]]),(p+1,.row 2 [[a8 a,.Xu 1 []]])],p+1+1,by simp [h,aU],⟨by omega,?_,?_,by simp⟩,.inl ⟨rfl,by simp [h]⟩⟩
 ·intro j hj;have:¬p=j:=by omega
  have:¬p+1=j:=by omega
  simp [*]
 ·intro j hj;have:¬p=j:=by omega
  have:¬p+1=j:=by omega
  simp [*]
theorem dcall (s:Stt) (hb:okB s.b) (T:List (Nat×AO)) (p:Nat) (hp:1<=p) (hT:Tail T p) (hS:bX T=T):
  DQ T p (rdN 2 s).2 (rdN 1 (rdN 2 s).1).2.toNat (rdN 1 (rdN 2 s).1).1 (aN Φ lF [.ptr 0 2 0 0] ⟨(0,.row 2 [cSt s])::T,p⟩):=by
 have hn2:=Yv s hb;have hb2:okB (rdN 2 s).1.b:=eK hb;have hn1:=YT _ hb2;have hb1:okB (rdN 1 (rdN 2 s).1).1.b:=eK hb2;have hrng:=FY hb2;have hr2:=Vi hb;have hw2:IntKind.wrap .i64 (rdN 2 s).2=(rdN 2 s).2:=bJ (by omega) (by omega);obtain ⟨n,hn⟩:∃n:Nat,(rdN 1 (rdN 2 s).1).2=(n:Int):=⟨_,(Q8 hrng.1).symm⟩;rw [hn] at hn1 hrng;have hpp:=hT p (Qb _);have hp1:=hT (p+1) (by omega);have p0:¬(0=p):=by omega
 have p0':¬(p=0):=by omega
 rw [dW rfl rfl,hn,S9];simp only [aU] at hn1 hn2;generalize (rdN 1 (rdN 2 s).1).1=s1 at*;generalize (rdN 2 s).2=a at*;simp [K1,aU,hn2,hn1,hw2,hpp,hp1,p0,p0'];refine qqg (DQ T p a n s1) fun L hL hX=>?_
 by_cases q:n=0
 ·subst q;simp [c_193_l0,c_193_k1,hL,hpp,hp1,p0,p0'];exact qxx (by simp [gB])
 obtain ⟨m,rfl⟩:∃m,n=m+1:=⟨n - 1,by omega⟩;have q':(0:Int)<(m:Int)+1:=by omega
 by_cases z:s1.e=0
 rotate_left
 ·simp [c_193_l0,c_193_k1,hL,hpp,hp1,p0,p0',q',z];exact qxx (QL z)
 have hnum:=P7 _ hb1;simp only [aU,z] at hnum;have ha:=qyu a;have hw:IntKind.wrap .u32 (m:Int)=(m:Int):=gQ (by omega);have hp29:=hT (p+1+1+27) (by omega);have e1:¬(p=p+1+1+27):=by omega
 have e2:¬(p+1=p+1+1+27):=by omega
 have e3:¬(p+1+1+27=p):=by omega
 have e4:¬(p+1+1+27=p+1):=by omega
 simp [c_193_l0,hp1,p0',z,q',hnum,ha,hS,yG,hw,hp29,e1];rw [hX];refine Ca (t:=p+1+1+27) (by omega) z ?_;have key:=fun e N hN=>qzd T p hp hT hS a (p+1+1+27) (by omega) m (rdN 4 s1).1 [(rdN 4 s1).2] (eK hb1) (by simp;omega) e N hN
 simp only [aU,I7,u9,QB] at key;exact key _ (p+1+1+27+1) (by omega) (by simp) (by simp) (by simp) (by simp)
def KeyV (X:AV) (l:List Xi):Prop:=(X= .Xu 2 []/\l=[])\/∃t,X= .app 2 (l.map Xi.c) t
def OQ (T:List (Nat×AO)) (p:Nat) (o:Xc) (s:Stt) (r:Option (Rt×AH)):Prop:=
 ∃KX X1 X2 E N,r=some (.val (.agg [a8 o.kind,a8 o.table,a8 o.id,KX,a8 o.entry.Xt,a8 o.entry.call.Xz,X1,a8 o.call.Xz,X2]),⟨(0,.row 2 [cSt s])::(T++E),N⟩)/\
  HExt p E N/\KeyV KX o.entry.keys/\ArgV X1 o.entry.call.args/\ArgV X2 o.call.args
theorem a1x (s:Stt):(fX s).1=(gB (rdN 1 (rdN 2 s).1).2.toNat (rdN 1 (rdN 2 s).1).1).1:=rfl
theorem qor (s:Stt):(fX s).2.args=(gB (rdN 1 (rdN 2 s).1).2.toNat (rdN 1 (rdN 2 s).1).1).2:=rfl
theorem a1w (s:Stt):(fX s).2.Xz=(rdN 2 s).2:=rfl
theorem Wv (s:Stt) (hb:okB s.b) (T:List (Nat×AO)) (p:Nat) (hp:1<=p) (hT:Tail T p) (hS:bX T=T):
  ∃X E N,aN Φ lF [.ptr 0 2 0 0] ⟨(0,.row 2 [cSt s])::T,p⟩=some (.val (.agg [a8 (fX s).2.Xz,X]),⟨(0,.row 2 [cSt (fX s).1])::(T++E),N⟩)/\HExt p E N/\ArgV X (fX s).2.args:=
 dcall s hb T p hp hT hS
theorem Tail.three {T E:List (Nat×AO)} {p N:Nat} (hT:Tail T p) (a b:AO) (hE:Tail E N) (h:p+2<=N):Tail (T++(p,a)::(p+1,b)::E) N:=by
 intro j hj;have h1:=hT j (by omega);have h2:=hE j hj;have n1:¬p=j:=by omega
 have n2:¬p+1=j:=by omega
 simp [h1,h2,n1,n2]
theorem TK (T:List (Nat×AO)) (p:Nat) (hp:1<=p) (hT:Tail T p) (hS:bX T=T) (s:Stt) (hb:okB s.b) (tb pr:Int) (keys:List Xi) (KX:AV) (hK:KeyV KX keys) (Z:List AV) (hZ:Z.length=9)
  (E1:List (Nat×AO)) (N:Nat) (hN:p+2<=N) (hE1:Tail E1 N) (hE2:∀j,j<=p+1->look j E1=none) (hE3:bX E1=E1) (e:Env)
  (h0:look 0 e=some (.ptr 0 2 0 0)) (h2:look 2 e=some (.ptr p 9 0 0)) (h3:look 3 e=some (.ptr (p+1) 9 0 0)):
  OQ T p ⟨1,tb,0,⟨keys,pr,(fX s).2⟩,gX⟩ (fX s).1 (go Φ (finC [.cell 2 true 9]) [.c c_124_k1,.b 0,.c c_124_k2] .normal
   ⟨e,⟨(0,.row 2 [cSt s])::(T++(p,.row 9 [Z])::(p+1,.row 9 [[a8 1,a8 tb,a8 0,KX,a8 pr,a8 0,.Xu 1 [],a8 0,.Xu 1 []]])::E1),N⟩⟩):=by
 obtain ⟨X,E,N2,hc,hx,hv⟩:=Wv s hb (T++(p,.row 9 [Z])::(p+1,.row 9 [[a8 1,a8 tb,a8 0,KX,a8 pr,a8 0,.Xu 1 [],a8 0,.Xu 1 []]])::E1) N (by omega) (hT.three _ _ hE1 hN) (by simp [yG,hS,hE3]);have hpp:=hT p (Qb _);have hp1:=hT (p+1) (by omega);have p0:¬(0=p):=by omega
 have p0':¬(p=0):=by omega
 simp only [aU,tY,jM] at hc;refine ⟨KX,X,.Xu 1 [],(p,.row 9 [[a8 1,a8 tb,a8 0,KX,a8 pr,a8 (fX s).2.Xz,X,a8 0,.Xu 1 []]])::(p+1,.row 9 [[a8 1,a8 tb,a8 0,KX,a8 pr,a8 (fX s).2.Xz,X,a8 0,.Xu 1 []]])::(E1++E),N2,?_,⟨by have:=hx.le;omega,?_,?_,by simp [yG,hE3,hx.sw]⟩,hK,hv,.inl ⟨rfl,rfl⟩⟩
 ·simp [c_124_k1,c_124_k2,aU,h0,h2,h3,hc,hpp,hp1,p0,p0',hZ,gX]
 ·intro j hj;have n1:¬p=j:=by omega
  have n2:¬p+1=j:=by omega
  have:=hE2 j (by omega);have h4:=hx.lo j (by omega);simp [n1,n2,this,h4]
 ·intro j hj;have hle:=hx.le;have n1:¬p=j:=by omega
  have n2:¬p+1=j:=by omega
  have:=hE1 j (by omega);have h4:=hx.hi j hj;simp [n1,n2,this,h4]
theorem Ae (tb pr:Int) (l:List Xi) (t:Nat):aoEq (some (.row 9 [[a8 1,a8 tb,a8 0,.app 2 (l.map Xi.c) t,a8 pr,a8 0,.Xu 1 [],a8 0,.Xu 1 []]]))
  (some (.row 9 [[a8 1,a8 tb,a8 0,.app 2 (l.map Xi.c) t,a8 pr,a8 0,.Xu 1 [],a8 0,.Xu 1 []]]))=true:=by
 apply QU;intro x hx;simp only [fI,tZ,or_false] at hx;rcases hx with rfl | rfl | rfl | rfl | rfl | rfl | rfl | rfl | rfl
 case _=>exact iZ 39 _ _
 case _=>exact iZ 39 _ _
 case _=>exact iZ 39 _ _
 case _=>
  refine que 39 _ _ _ (zI _ _ ?_);intro x hx;obtain ⟨y,_,rfl⟩:=kY.1 hx;rw [Xi.ceJ];exact zI _ _ (by simp;exact ⟨iZ 38 _ _,iZ 38 _ _⟩)
 case _=>exact iZ 39 _ _
 case _=>exact iZ 39 _ _
 case _=>exact R6 39 _
 case _=>exact iZ 39 _ _
 case _=>exact R6 39 _
theorem qyv (tb pr:Int):aoEq (some (.row 9 [[a8 1,a8 tb,a8 0,.Xu 2 [],a8 pr,a8 0,.Xu 1 [],a8 0,.Xu 1 []]]))
  (some (.row 9 [[a8 1,a8 tb,a8 0,.Xu 2 [],a8 pr,a8 0,.Xu 1 [],a8 0,.Xu 1 []]]))=true:=by
 apply QU;intro x hx;simp only [fI,tZ,or_false] at hx;rcases hx with rfl | rfl | rfl | rfl | rfl | rfl | rfl | rfl | rfl
 case _=>exact iZ 39 _ _
 case _=>exact iZ 39 _ _
 case _=>exact iZ 39 _ _
 case _=>exact R6 39 _
 case _=>exact iZ 39 _ _
 case _=>exact iZ 39 _ _
 case _=>exact R6 39 _
 case _=>exact iZ 39 _ _
 case _=>exact R6 39 _
def KQ (T:List (Nat×AO)) (p:Nat) (tb pr:Int) (x:Nat×Stt×List Xi) (r:Option (Rt×AH)):Prop:=
 OQ T p ⟨1,tb,0,⟨x.2.2++(kI x.1 x.2.1).2,pr,(fX (kI x.1 x.2.1).1).2⟩,gX⟩ (fX (kI x.1 x.2.1).1).1 r
theorem Kw (T:List (Nat×AO)) (p:Nat) (hp:1<=p) (hT:Tail T p) (hS:bX T=T) (tb pr:Int) (Z:List AV) (hZ:Z.length=9) (t:Nat) (ht:p+1<t) (k:Nat) (s:Stt) (acc:List Xi) (hb:okB s.b) (hk:acc.length+k<=255) (e:Env) (N:Nat) (hN:t<N)
  (h0:look 0 e=some (.ptr 0 2 0 0)) (h2:look 2 e=some (.ptr p 9 0 0)) (h3:look 3 e=some (.ptr (p+1) 9 0 0)) (h4:look 4 e=some (.int .u32 k)):
  KQ T p tb pr (k,s,acc) (go Φ (finC [.cell 2 true 9]) [.c (.loop c_124_l0),.b 1,.c c_124_k1,.b 0,.c c_124_k2] .normal
   ⟨e,⟨(0,.row 2 [cSt s])::(T++[(p,.row 9 [Z]),(p+1,.row 9 [[a8 1,a8 tb,a8 0,.app 2 (acc.map Xi.c) t,a8 pr,a8 0,.Xu 1 [],a8 0,.Xu 1 []]]),(t,.tok 2 acc.length)]),N⟩⟩):=by
 refine QP (fun x:Nat×Stt×List Xi=>x.1) (fun x e h=>okB x.2.1.b/\x.2.2.length+x.1<=255/\look 0 e=some (.ptr 0 2 0 0)/\look 2 e=some (.ptr p 9 0 0)/\look 3 e=some (.ptr (p+1) 9 0 0)/\look 4 e=some (.int .u32 x.1)/\
  ∃N,t<N/\h=⟨(0,.row 2 [cSt x.2.1])::(T++[(p,.row 9 [Z]),(p+1,.row 9 [[a8 1,a8 tb,a8 0,.app 2 (x.2.2.map Xi.c) t,a8 pr,a8 0,.Xu 1 [],a8 0,.Xu 1 []]]),(t,.tok 2 x.2.2.length)]),N⟩) (KQ T p tb pr) ?_ (k,s,acc) e _ ⟨hb,hk,h0,h2,h3,h4,N,hN,rfl⟩
 rintro ⟨k,s,acc⟩ e _ L hL ⟨hb,hk,h0,h2,h3,h4,N,hN,rfl⟩ ih;simp only at hb hk h4 ih;have hpp:=hT p (Qb _);have hp1:=hT (p+1) (by omega);have htt:=hT t (by omega);have p0:¬(0=p):=by omega
 have p0':¬(p=0):=by omega
 have t0:¬(0=t):=by omega
 have t1:¬(p=t):=by omega
 have t2:¬(p+1=t):=by omega
 have hNr:=hT (N+56) (by omega);have e1:¬(p=N+56):=by omega
 have e2:¬(p+1=N+56):=by omega
 have e3:¬(t=N+56):=by omega
 have hTl:Tail [(t,AO.tok 2 acc.length)] N:=by
  intro j hj;have:¬t=j:=by omega
  simp [this]
 have hLo:∀j,j<=p+1->look j [(t,AO.tok 2 acc.length)]=none:=by
  intro j hj;have:¬t=j:=by omega
  simp [this]
 have hend:=fun (e:Env) (a:look 0 e=some (.ptr 0 2 0 0)) (b:look 2 e=some (.ptr p 9 0 0)) (c:look 3 e=some (.ptr (p+1) 9 0 0))=>
  TK T p hp hT hS s hb tb pr acc (.app 2 (acc.map Xi.c) t) (.inr ⟨t,rfl⟩) Z hZ [(t,.tok 2 acc.length)] N (by omega) hTl hLo (by simp) e a b c
 simp only [aU] at hend;cases k with
 | zero=>
  simp only [KQ,kI,MO];simp [c_124_l0,aU,h4,hL];exact hend _ (by simp [h0]) (by simp [h2]) (by simp [h3])
 | succ k=>
  have q:(0:Int)<(k:Int)+1:=by omega
  by_cases z:s.e=0
  rotate_left
  ·simp only [KQ,QM z,MO];simp [c_124_l0,aU,h0,h4,hL,z,q];exact hend _ (by simp [h0]) (by simp [h2]) (by simp [h3])
  have hb4:okB (rdN 4 s).1.b:=eK hb;have hnum:=P7 s hb;have hnum2:=P7 _ hb4;simp only [aU,z] at hnum hnum2;have ha:=Ae tb pr acc t;have hw:IntKind.wrap .u32 (k:Int)=(k:Int):=gQ (by omega);have hlen:((acc.length:Nat)+1)*8<=70368744177664:=by omega
  have:=ih (k,(oB s).1,acc++[(oB s).2]);simp only [KQ,U3 z,tY,jM,sZ] at this ⊢;simp [c_124_l0,aU,h0,h3,h4,hp1,htt,p0',t0,t1,t2,z,q,hnum,hnum2,ha,hS,yG,hw,hNr,e1,hlen];exact this _ _ (pJ k) ⟨QR hb,by simp;omega,by simp [h0],by simp [h2],by simp [h3],by simp,N+56+1,by omega,by simp [aU,Xi.ceJ,oB]⟩
theorem XD (h:s.e≠0):fX s=(s,gX):=by
 simp [fX,OZ h,QL h,gX]
theorem qxk (h:s.e≠0):zO s=(s,jV):=by
 simp [zO,OZ h,QM h,XD h,jV]
theorem qyl (h:s.e≠0):rdI s=(s,0):=by
 simp [rdI,OZ h]
theorem Lf (t:Int) (s:Stt):iX 1 t s=((zO s).1,⟨1,t,0,(zO s).2,gX⟩):=by
 by_cases h:s.e=0
 ·simp [iX,h]
 ·simp [iX,h,qxk h]
theorem Lg (t:Int) (s:Stt):iX 2 t s=((fX (rdI s).1).1,⟨2,t,(rdI s).2,jV,(fX (rdI s).1).2⟩):=by
 by_cases h:s.e=0
 ·by_cases g:(rdI s).1.e=0
  ·simp [iX,h,g]
  ·simp [iX,h,g,XD g]
 ·simp [iX,h,qyl h,XD h]
theorem Lh (t:Int) (s:Stt):iX 3 t s=((rdI s).1,⟨3,t,(rdI s).2,jV,gX⟩):=by
 by_cases h:s.e=0
 ·simp [iX,h]
 ·simp [iX,h,qyl h]
theorem Li (t:Int) (s:Stt):iX 4 t s=((fX s).1,⟨4,t,0,jV,(fX s).2⟩):=by
 by_cases h:s.e=0
 ·simp [iX,h]
 ·simp [iX,h,XD h]
theorem Le (k t:Int) (h:s.e≠0):iX k t s=(s,⟨k,t,0,jV,gX⟩):=by simp [iX,h]
variable {N:Nat}
theorem XY {T:List (Nat×AO)} (x y:List AV) (E:List (Nat×AO)) (hN:p+2<=N) (h:HExt (p+2) E N):HExt p ((p,.row 9 [x])::(p+1,.row 9 [y])::E) N:=by
 refine ⟨by omega,?_,?_,by simp [h.sw]⟩
 ·intro j hj;have n1:¬p=j:=by omega
  have n2:¬p+1=j:=by omega
  have:=h.lo j (by omega);simp [n1,n2,this]
 ·intro j hj;have n1:¬p=j:=by omega
  have n2:¬p+1=j:=by omega
  have:=h.hi j hj;simp [n1,n2,this]
theorem qub (p:Nat):HExt p [] p:=⟨Qb _,fun _ _=>rfl,fun _ _=>rfl,by simp⟩
theorem dop (s:Stt) (hb:okB s.b) (T:List (Nat×AO)) (p:Nat) (hp:1<=p) (hT:Tail T p) (hS:bX T=T):
  OQ T p (rdOp s).2 (rdOp s).1 (aN Φ v6 [.ptr 0 2 0 0] ⟨(0,.row 2 [cSt s])::T,p⟩):=by
 have hb1:okB (rdN 1 s).1.b:=eK hb;have hbk:okB (kE (rdN 1 s)).b:=XK hb1;have hb2:okB (rdN 2 (kE (rdN 1 s))).1.b:=eK hbk;have hn1:=YT s hb;have hn2:=Yv (kE (rdN 1 s)) hbk;have hrng:=FY hb;have hr2:=Vi hbk;have hw1:IntKind.wrap .i64 (rdN 1 s).2=(rdN 1 s).2:=bJ (by omega) (by omega);have hw2:IntKind.wrap .i64 (rdN 2 (kE (rdN 1 s))).2=(rdN 2 (kE (rdN 1 s))).2:=bJ (by omega) (by omega);have hpp:=hT p (Qb _);have hp1:=hT (p+1) (by omega);have p0:¬(0=p):=by omega
 have p0':¬(p=0):=by omega
 rw [dW rfl rfl];simp only [rdOp];have hq:∀(ok:Bool),ok=(decide (1<=(rdN 1 s).2)&&decide ((rdN 1 s).2<=4))->∀T N,aN Φ iF [.ptr 0 2 0 0,.bool ok,a8 5] ⟨(0,.row 2 [cSt (rdN 1 s).1])::T,N⟩=
   some (.val (.tup []),⟨(0,.row 2 [cSt (kE (rdN 1 s))])::T,N⟩):=by
  rintro ok rfl T N;rw [dreq];simp only [kE];by_cases a:(rdN 1 s).1.e=0
  ·by_cases b:1<=(rdN 1 s).2
   ·by_cases c:(rdN 1 s).2<=4
    ·have d:¬((rdN 1 s).2<1):=by omega
     have d':¬(4<(rdN 1 s).2):=by omega
     simp [a,b,c,d,d']
    ·have d':4<(rdN 1 s).2:=by omega
     simp [a,b,c,d']
   ·have d:(rdN 1 s).2<1:=by omega
    simp [a,b,d]
  ·simp [a]
 have hkn:¬(1<=(rdN 1 s).2/\(rdN 1 s).2<=4)->(kE (rdN 1 s)).e≠0:=by
  intro h;simp only [kE];split
  ·simp
  ·rename_i g;simp only [not_and,not_or] at g;intro h0;exact h (by have:=g h0;omega)
 simp only [aU] at hn1 hn2 hq;generalize rdN 1 s=pk at*;obtain ⟨s1,k⟩:=pk;simp only at*;generalize kE (s1,k)=s2 at*;by_cases c1:k=1
 ·subst c1;have hqt:=hq true (by simp);rw [Lf];have hb3:okB (rdN 2 (rdN 2 s2).1).1.b:=eK hb2;have hb4:okB (rdN 1 (rdN 2 (rdN 2 s2).1).1).1.b:=eK hb3;have hn3:=Yv _ hb2;have hn4:=YT _ hb3;have hrg4:=FY hb3;have hrg3:=Vi hb2;have hw3:IntKind.wrap .i64 (rdN 2 (rdN 2 s2).1).2=(rdN 2 (rdN 2 s2).1).2:=bJ (by omega) (by omega);simp only [zO];obtain ⟨n,hn⟩:∃n:Nat,(rdN 1 (rdN 2 (rdN 2 s2).1).1).2=(n:Int):=⟨_,(Q8 hrg4.1).symm⟩;rw [hn,S9];rw [hn] at hn4 hrg4;simp only [aU] at hn3 hn4;generalize (rdN 1 (rdN 2 (rdN 2 s2).1).1).1=s4 at*;generalize (rdN 2 (rdN 2 s2).1).2=pr at*;generalize (rdN 2 s2).2=tb at*;simp [kZ,aU,hn1,hn2,hn3,hn4,hw1,hw2,hw3,hqt,hpp,hp1,p0,p0'];have hend:=fun (e:Env) (a:look 0 e=some (.ptr 0 2 0 0)) (b:look 2 e=some (.ptr p 9 0 0)) (c:look 3 e=some (.ptr (p+1) 9 0 0))=>
   TK T p hp hT hS s4 hb4 tb pr [] (.Xu 2 []) (.inl ⟨rfl,rfl⟩) [a8 0,a8 0,a8 0,.Xu 2 [],a8 0,a8 0,.Xu 1 [],a8 0,.Xu 1 []] rfl [] (p+1+1) (by omega) (fun _ _=>rfl) (fun _ _=>rfl) (by simp) e a b c
  simp only [aU] at hend;refine qqg (OQ T p _ _) fun L hL hX=>?_
  by_cases q:n=0
  ·subst q;simp [c_124_l0,hL,kI];exact hend _ (by simp) (by simp) (by simp)
  obtain ⟨m,rfl⟩:∃m,n=m+1:=⟨n - 1,by omega⟩;have q':(0:Int)<(m:Int)+1:=by omega
  by_cases z:s4.e=0
  rotate_left
  ·simp [c_124_l0,hL,q',z,QM z];exact hend _ (by simp) (by simp) (by simp)
  have hb5:okB (rdN 4 s4).1.b:=eK hb4;have hnum:=P7 s4 hb4;have hnum2:=P7 _ hb5;simp only [aU,z] at hnum hnum2;have ha:=qyv tb pr;have hw:IntKind.wrap .u32 (m:Int)=(m:Int):=gQ (by omega);have hp58:=hT (p+1+1+56) (by omega);have e1:¬(p=p+1+1+56):=by omega
  have e2:¬(p+1=p+1+1+56):=by omega
  have e3:¬(p+1+1+56=p):=by omega
  have e4:¬(p+1+1+56=p+1):=by omega
  simp [c_124_l0,hp1,p0',z,q',hnum,hnum2,ha,hS,yG,hw,hp58,e1];rw [hX];have key:=fun e N hN=>Kw T p hp hT hS tb pr [a8 0,a8 0,a8 0,.Xu 2 [],a8 0,a8 0,.Xu 1 [],a8 0,.Xu 1 []] rfl (p+1+1+56) (by omega) m (oB s4).1 [(oB s4).2] (QR hb4) (by simp;omega) e N hN
  simp only [KQ,aU,Xi.ceJ,u9,QB,jM,sZ] at key;simp only [U3 z];exact key _ (p+1+1+56+1) (by omega) (by simp) (by simp) (by simp) (by simp)
 by_cases c2:k=2
 ·subst c2;have hqt:=hq true (by simp);have hi:=did _ hb2;have hbI:okB (rdI (rdN 2 s2).1).1.b:=RI hb2;rw [Lg];obtain ⟨X,E,N,hc,hx,hv⟩:=Wv _ hbI (T++[(p,.row 9 [[a8 0,a8 0,a8 0,.Xu 2 [],a8 0,a8 0,.Xu 1 [],a8 0,.Xu 1 []]]),(p+1,.row 9 [[a8 2,a8 (rdN 2 s2).2,a8 (rdI (rdN 2 s2).1).2,.Xu 2 [],a8 0,a8 0,.Xu 1 [],a8 0,.Xu 1 []]])]) (p+1+1) (by omega)
   (hT.three _ _ (fun _ _=>rfl) (Qb _)) (by simp [yG,hS])
  simp only [aU,tY,jM,sZ] at hc hi;refine ⟨.Xu 2 [],.Xu 1 [],X,(p,.row 9 [[a8 2,a8 (rdN 2 s2).2,a8 (rdI (rdN 2 s2).1).2,.Xu 2 [],a8 0,a8 0,.Xu 1 [],a8 (fX (rdI (rdN 2 s2).1).1).2.Xz,X]])::
   (p+1,.row 9 [[a8 2,a8 (rdN 2 s2).2,a8 (rdI (rdN 2 s2).1).2,.Xu 2 [],a8 0,a8 0,.Xu 1 [],a8 (fX (rdI (rdN 2 s2).1).1).2.Xz,X]])::E,N,?_,XY (T:=T) _ _ _ (by have:=hx.le;omega) hx,.inl ⟨rfl,rfl⟩,.inl ⟨rfl,rfl⟩,hv⟩
  simp [kZ,c_124_k2,aU,hn1,hn2,hw1,hw2,hqt,hi,hc,hpp,hp1,p0,p0',jV,gX]
 by_cases c3:k=3
 ·subst c3;have hqt:=hq true (by simp);have hi:=did _ hb2;simp only [aU] at hi;rw [Lh];refine ⟨.Xu 2 [],.Xu 1 [],.Xu 1 [],(p,.row 9 [[a8 3,a8 (rdN 2 s2).2,a8 (rdI (rdN 2 s2).1).2,.Xu 2 [],a8 0,a8 0,.Xu 1 [],a8 0,.Xu 1 []]])::
   (p+1,.row 9 [[a8 3,a8 (rdN 2 s2).2,a8 (rdI (rdN 2 s2).1).2,.Xu 2 [],a8 0,a8 0,.Xu 1 [],a8 0,.Xu 1 []]])::[],p+1+1,?_,XY (T:=T) _ _ _ (by omega) (qub _),.inl ⟨rfl,rfl⟩,.inl ⟨rfl,rfl⟩,.inl ⟨rfl,rfl⟩⟩
  simp [kZ,c_124_k2,aU,hn1,hn2,hw1,hw2,hqt,hi,hpp,hp1,p0,p0',jV,gX]
 by_cases c4:k=4
 ·subst c4;have hqt:=hq true (by simp);rw [Li];obtain ⟨X,E,N,hc,hx,hv⟩:=Wv _ hb2 (T++[(p,.row 9 [[a8 0,a8 0,a8 0,.Xu 2 [],a8 0,a8 0,.Xu 1 [],a8 0,.Xu 1 []]]),(p+1,.row 9 [[a8 4,a8 (rdN 2 s2).2,a8 0,.Xu 2 [],a8 0,a8 0,.Xu 1 [],a8 0,.Xu 1 []]])]) (p+1+1) (by omega)
   (hT.three _ _ (fun _ _=>rfl) (Qb _)) (by simp [yG,hS])
  simp only [aU,tY,jM,sZ] at hc;refine ⟨.Xu 2 [],.Xu 1 [],X,(p,.row 9 [[a8 4,a8 (rdN 2 s2).2,a8 0,.Xu 2 [],a8 0,a8 0,.Xu 1 [],a8 (fX (rdN 2 s2).1).2.Xz,X]])::
   (p+1,.row 9 [[a8 4,a8 (rdN 2 s2).2,a8 0,.Xu 2 [],a8 0,a8 0,.Xu 1 [],a8 (fX (rdN 2 s2).1).2.Xz,X]])::E,N,?_,XY (T:=T) _ _ _ (by have:=hx.le;omega) hx,.inl ⟨rfl,rfl⟩,.inl ⟨rfl,rfl⟩,hv⟩
  simp [kZ,c_124_k2,aU,hn1,hn2,hw1,hw2,hqt,hc,hpp,hp1,p0,p0',jV,gX]
 ·have hz:=hkn (by omega);rw [Le _ _ (by rw [OZ hz];exact hz)];refine ⟨.Xu 2 [],.Xu 1 [],.Xu 1 [],(p,.row 9 [[a8 k,a8 (rdN 2 s2).2,a8 0,.Xu 2 [],a8 0,a8 0,.Xu 1 [],a8 0,.Xu 1 []]])::
   (p+1,.row 9 [[a8 k,a8 (rdN 2 s2).2,a8 0,.Xu 2 [],a8 0,a8 0,.Xu 1 [],a8 0,.Xu 1 []]])::[],p+1+1,?_,XY (T:=T) _ _ _ (by omega) (qub _),.inl ⟨rfl,rfl⟩,.inl ⟨rfl,rfl⟩,.inl ⟨rfl,rfl⟩⟩
  by_cases d1:1<=k
  ·have d2:¬(k<=4):=by omega
   have hqt:=hq false (by simp [d2]);simp [kZ,c_124_k2,aU,hn1,hn2,hw1,hw2,hqt,d1,d2,c1,c2,c3,c4,hpp,hp1,p0,p0',jV,gX]
  ·have hqt:=hq false (by simp [d1]);simp [kZ,c_124_k2,aU,hn1,hn2,hw1,hw2,hqt,d1,c1,c2,c3,c4,hpp,hp1,p0,p0',jV,gX]
theorem Dx (s:Stt) (acc:List Xc) (e:Env) (h4:look 4 e=some (.ptr 0 2 0 0)) (h6:look 6 e=some (.app 9 (acc.map Xc.c) 1)) (T:List (Nat×AO)) (N:Nat) (hS:bX T=T):
  go Φ (finP [.tmp 2,.tmp 3]) [.c c_57_k1] .normal ⟨e,⟨(0,.row 2 [[.slice 1 (s.b.map c8),a8 s.e]])::T,N⟩⟩=some (.val (.tup [.slice 9 ((if endE s=0 then acc else []).map Xc.c),a8 (endE s)])):=by
 by_cases z:s.e=0
 rotate_left
 ·have:endE s=s.e:=by simp [endE,z]
  have hq:=dreq s;simp only [aU,z,false_and,if_false] at hq;simp [c_57_k1,h4,z,this,hq]
 by_cases q:s.b=[]
 ·have:endE s=0:=by simp [endE,z,q]
  have hq:=dreq s true 4 T N;simp only [aU,z,q,QB,reduceCtorEq,and_false,if_false] at hq;simp [c_57_k1,h4,h6,z,this,q,hq]
 ·have:endE s=4:=by simp [endE,z,q]
  have hl:¬(s.b.length=0):=by simpa using q
  have hq:=dreq s false 4 T N;simp only [aU,z,and_self,if_true] at hq;simp [c_57_k1,h4,z,this,hl,hq]
theorem Ax (n:Nat) (hn:n<=255) (k:Nat) (s:Stt) (acc:List Xc) (hb:okB s.b) (hk:acc.length+k=n) (e:Env) (T:List (Nat×AO)) (N:Nat)
  (h4:look 4 e=some (.ptr 0 2 0 0)) (h5:look 5 e=some (a8 n)) (h6:look 6 e=some (.app 9 (acc.map Xc.c) 1)) (h7:look 7 e=some (a8 acc.length))
  (hT:Tail T N) (hN:2<=N) (hS:bX T=T):
  go Φ (finP [.tmp 2,.tmp 3]) [.c (.loop c_57_l0),.b 0,.c c_57_k1] .normal ⟨e,⟨(0,.row 2 [cSt s])::(1,.tok 9 acc.length)::T,N⟩⟩=RD (k,s,acc):=by
 refine R0 (fun x:Nat×Stt×List Xc=>x.1) (fun x e h=>okB x.2.1.b/\x.2.2.length+x.1=n/\look 4 e=some (.ptr 0 2 0 0)/\
  look 5 e=some (a8 n)/\look 6 e=some (.app 9 (x.2.2.map Xc.c) 1)/\look 7 e=some (a8 x.2.2.length)/\∃T N,Tail T N/\2<=N/\bX T=T/\h=⟨(0,.row 2 [cSt x.2.1])::(1,.tok 9 x.2.2.length)::T,N⟩)
  RD ?_ (k,s,acc) e _ ⟨hb,hk,h4,h5,h6,h7,T,N,hT,hN,hS,rfl⟩
 rintro ⟨k,s,acc⟩ e _ L hL ⟨hb,hk,h4,h5,h6,h7,T,N,hT,hN,hS,rfl⟩ ih;simp only at hb hk h6 h7 ih;have hw:IntKind.wrap .i64 ((acc.length:Int)+1)=((acc.length+1:Nat):Int):=bJ (by omega) (by omega);have hend:=fun (e:Env) (a:look 4 e=some (.ptr 0 2 0 0)) (b:look 6 e=some (.app 9 (acc.map Xc.c) 1))=>Dx s acc e a b ((1,.tok 9 acc.length)::T) N (by simp [hS])
 cases k with
 | zero=>
  have q:¬((acc.length:Int)<n):=by omega
  simp [c_57_l0,aU,h5,h7,hL,q];refine (hend _ (by simp [h4]) (by simp [h6])).trans (by simp [RD,oC])
 | succ k=>
  have q:(acc.length:Int)<n:=by omega
  by_cases z:s.e=0
  rotate_left
  ·simp [c_57_l0,aU,h4,h5,h7,hL,q,z];refine (hend _ (by simp [h4]) (by simp [h6])).trans (by simp [RD,Ti z])
  obtain ⟨KX,X1,X2,E,N2,hc,hx,hK,hA1,hA2⟩:=dop s hb ((1,.tok 9 acc.length)::T) N (by omega) (by
   intro j hj;have n1:¬1=j:=by omega
   simp [n1,hT j hj]) (by simp [hS])
  have hlen:((acc.length:Nat)+1)*120<=70368744177664:=by omega
  simp only [aU,z,jM] at hc;have hT2:Tail (T++E) N2:=by
   intro j hj;have h1:=hT j (by have:=hx.le;omega);have h2:=hx.hi j hj;simp [h1,h2]
  have hN2:2<=N2:=by have:=hx.le;omega
  have hS2:bX (T++E)=T++E:=by simp [yG,hS,hx.sw]
  rcases hK with ⟨rfl,hk0⟩ | ⟨tk,rfl⟩<;>rcases hA1 with ⟨rfl,ha0⟩ | ⟨t1,rfl⟩<;>rcases hA2 with ⟨rfl,hb0⟩ | ⟨t2,rfl⟩
  ·simp [c_57_l0,aU,h4,h5,h6,h7,q,z,hc,hw,hlen];exact (ih (k,(rdOp s).1,acc++[(rdOp s).2]) _ _ (pJ k) ⟨FW hb,by simp;omega,by simp [h4],by simp [h5],by simp [Xc.ce,hk0,ha0,hb0],by simp,T++E,N2,hT2,hN2,hS2,by simp [aU]⟩).trans (by simp [RD,FS z])
  ·simp [c_57_l0,aU,h4,h5,h6,h7,q,z,hc,hw,hlen];exact (ih (k,(rdOp s).1,acc++[(rdOp s).2]) _ _ (pJ k) ⟨FW hb,by simp;omega,by simp [h4],by simp [h5],by simp [Xc.ce,hk0,ha0],by simp,T++E,N2,hT2,hN2,hS2,by simp [aU]⟩).trans (by simp [RD,FS z])
  ·simp [c_57_l0,aU,h4,h5,h6,h7,q,z,hc,hw,hlen];exact (ih (k,(rdOp s).1,acc++[(rdOp s).2]) _ _ (pJ k) ⟨FW hb,by simp;omega,by simp [h4],by simp [h5],by simp [Xc.ce,hk0,hb0],by simp,T++E,N2,hT2,hN2,hS2,by simp [aU]⟩).trans (by simp [RD,FS z])
  ·simp [c_57_l0,aU,h4,h5,h6,h7,q,z,hc,hw,hlen];exact (ih (k,(rdOp s).1,acc++[(rdOp s).2]) _ _ (pJ k) ⟨FW hb,by simp;omega,by simp [h4],by simp [h5],by simp [Xc.ce,hk0],by simp,T++E,N2,hT2,hN2,hS2,by simp [aU]⟩).trans (by simp [RD,FS z])
  ·simp [c_57_l0,aU,h4,h5,h6,h7,q,z,hc,hw,hlen];exact (ih (k,(rdOp s).1,acc++[(rdOp s).2]) _ _ (pJ k) ⟨FW hb,by simp;omega,by simp [h4],by simp [h5],by simp [Xc.ce,ha0,hb0],by simp,T++E,N2,hT2,hN2,hS2,by simp [aU]⟩).trans (by simp [RD,FS z])
  ·simp [c_57_l0,aU,h4,h5,h6,h7,q,z,hc,hw,hlen];exact (ih (k,(rdOp s).1,acc++[(rdOp s).2]) _ _ (pJ k) ⟨FW hb,by simp;omega,by simp [h4],by simp [h5],by simp [Xc.ce,ha0],by simp,T++E,N2,hT2,hN2,hS2,by simp [aU]⟩).trans (by simp [RD,FS z])
  ·simp [c_57_l0,aU,h4,h5,h6,h7,q,z,hc,hw,hlen];exact (ih (k,(rdOp s).1,acc++[(rdOp s).2]) _ _ (pJ k) ⟨FW hb,by simp;omega,by simp [h4],by simp [h5],by simp [Xc.ce,hb0],by simp,T++E,N2,hT2,hN2,hS2,by simp [aU]⟩).trans (by simp [RD,FS z])
  ·simp [c_57_l0,aU,h4,h5,h6,h7,q,z,hc,hw,hlen];exact (ih (k,(rdOp s).1,acc++[(rdOp s).2]) _ _ (pJ k) ⟨FW hb,by simp;omega,by simp [h4],by simp [h5],by simp [Xc.ce],by simp,T++E,N2,hT2,hN2,hS2,by simp [aU]⟩).trans (by simp [RD,FS z])
theorem qzc (b:List Int) (hb:okB b):a9 Φ GV [.slice 1 (b.map c8)]=some (.val (.tup [.slice 9 ((decB b).1.map Xc.c),a8 (decB b).2])):=by
 rw [aA rfl rfl];have hn1:=YT ⟨b,0⟩ hb;have hb1:okB (rdN 1 ⟨b,0⟩).1.b:=eK hb;have hrng:=FY (s:=⟨b,0⟩) hb;have hw1:IntKind.wrap .i64 (rdN 1 ⟨b,0⟩).2=(rdN 1 ⟨b,0⟩).2:=bJ (by omega) (by omega);have key:=fun n hn hk=>Ax n hn n (cntS (rdN 1 ⟨b,0⟩)) [] (Ui hb1) hk
 have hq:∀(ok:Bool),ok=decide ((rdN 1 ⟨b,0⟩).2<=64)->∀T N,aN Φ iF [.ptr 0 2 0 0,.bool ok,a8 5] ⟨(0,.row 2 [cSt (rdN 1 ⟨b,0⟩).1])::T,N⟩=
   some (.val (.tup []),⟨(0,.row 2 [cSt (cntS (rdN 1 ⟨b,0⟩))])::T,N⟩):=by
  rintro ok rfl T N;rw [dreq];simp only [cntS];by_cases a:(rdN 1 ⟨b,0⟩).1.e=0
  ·by_cases c:(rdN 1 ⟨b,0⟩).2<=64
   ·have d:¬(64<(rdN 1 ⟨b,0⟩).2):=by omega
    simp [a,c,d]
   ·have d:64<(rdN 1 ⟨b,0⟩).2:=by omega
    simp [a,c,d]
  ·have:=qvv a;simp [a,this]
 have hdec:decB b=(if endE (oC (rdN 1 ⟨b,0⟩).2.toNat (cntS (rdN 1 ⟨b,0⟩))).1=0 then (oC (rdN 1 ⟨b,0⟩).2.toNat (cntS (rdN 1 ⟨b,0⟩))).2 else [],endE (oC (rdN 1 ⟨b,0⟩).2.toNat (cntS (rdN 1 ⟨b,0⟩))).1):=rfl;rw [hdec];simp only [aU,QB,mI] at hn1 hq key;generalize cntS (rdN 1 ⟨b,0⟩)=s2 at*;obtain ⟨n,hn⟩:∃n:Nat,(rdN 1 ⟨b,0⟩).2=(n:Int):=⟨_,(Q8 hrng.1).symm⟩;rw [hn] at hn1 hrng hw1 hq;rw [hn,S9];have hq':=hq (decide (n<=64)) (decide_eq_decide.2 (by omega));simp [SI,hn1,hw1,hq'];refine (key n (by omega) (by simp) _ [] 2 ?_ ?_ ?_ ?_ (Tail.nil 2) (Qb _) (by simp)).trans ?_
 ·simp
 ·simp
 ·simp
 ·simp
 ·simp [RD]
theorem lL {t:Nat} {x y:AO}:∀{O:List (Nat×AO)},look t O=some x->look t (setl t y O)=some y
 | [],h=>by simp at h
 | (u,z)::r,h=>by
  by_cases hu:u=t
  ·subst hu;simp
  ·simp [hu] at h;simp [hu,lL h]
theorem EL {t j:Nat} {y:AO} (hj:j≠t):∀{O:List (Nat×AO)},look j (setl t y O)=look j O
 | []=>by simp
 | (u,z)::r=>by
  by_cases hu:u=t
  ·subst hu;have:¬u=j:=fun h=>hj h.symm
   simp [this]
  ·by_cases hv:u=j
   ·subst hv;simp [hu]
   ·simp [hu,hv,EL hj]
theorem zM {t:Nat} {y z:AO}:∀{O:List (Nat×AO)},setl t z (setl t y O)=setl t z O
 | []=>by simp
 | (u,w)::r=>by
  by_cases hu:u=t
  ·subst hu;simp
  ·simp [hu,zM]
theorem R2 {t:Nat} {x y:AO}:∀{O r:List (Nat×AO)},look t O=some x->setl t y (O++r)=setl t y O++r
 | [],_,h=>by simp at h
 | (u,w)::o,r,h=>by
  by_cases hu:u=t
  ·subst hu;simp
  ·simp [hu] at h;simp [hu,R2 h]
variable {O:List (Nat×AO)}
theorem HJ {y:AO} (h:Tail O N) (ht:t<N):Tail (setl t y O) N:=by
 intro j hj;rw [EL (by omega)];exact h j hj
theorem wr8u (v:Int):IntKind.wrap .u8 v=v % 256:=by simp [IntKind.wrap,IntKind.bits,IntKind.signed]
theorem ishr0 (v:Int):ishr .i64 v 0=v:=by
 unfold ishr;have:(2:Int)^(min (0:Int).toNat (IntKind.bits .i64))=1:=by decide
 rw [this,Int.fdiv_one]
theorem ishr8 (v:Int):ishr .i64 v 8=v / 256:=by
 unfold ishr;have:(2:Int)^(min (8:Int).toNat (IntKind.bits .i64))=256:=by decide
 rw [this,Q4 _ (by decide)]
theorem Oh (v:Int):ishr .i64 v 16=v / 65536:=by
 unfold ishr;have:(2:Int)^(min (16:Int).toNat (IntKind.bits .i64))=65536:=by decide
 rw [this,Q4 _ (by decide)]
theorem Oi (v:Int):ishr .i64 v 24=v / 16777216:=by
 unfold ishr;have:(2:Int)^(min (24:Int).toNat (IntKind.bits .i64))=16777216:=by decide
 rw [this,Q4 _ (by decide)]
variable {E:List (List AV)}
section
variable (h:look t O=some (.tok 1 E.length)) (hE:E.length<=1099511627776)
include h hE
theorem Yt:
  aN Φ fB [.app 1 E t,a8 v,a8 2] ⟨O,N⟩=some (.val (.app 1 (E++[[.int .u8 (v / 256 % 256)],[.int .u8 (v % 256)]]) t),⟨setl t (.tok 1 (E.length+2)) O,N⟩):=by
 rw [dW rfl rfl];have k1:IntKind.wrap .i64 1=1:=by decide
 have k0:IntKind.wrap .i64 0=0:=by decide
 have k8:IntKind.wrap .i64 8=8:=by decide
 have km:IntKind.wrap .i64 (-1)= -1:=by decide
 have l1:E.length+1<=70368744177664:=by omega
 have l2:E.length+1+1<=70368744177664:=by omega
 simp [AB,k1];rw [bG];simp [c_129_l0,k0,k8,h,l1,wr8u];rw [bG];simp [k0,km,lL h,l2,wr8u];rw [bG];simp [c_129_k1];exact ⟨⟨by rw [ishr8],by rw [ishr0]⟩,zM⟩
theorem UV:
  aN Φ fB [.app 1 E t,a8 v,a8 4] ⟨O,N⟩=some (.val (.app 1 (E++[[.int .u8 (v / 16777216 % 256)],[.int .u8 (v / 65536 % 256)],[.int .u8 (v / 256 % 256)],[.int .u8 (v % 256)]]) t),⟨setl t (.tok 1 (E.length+4)) O,N⟩):=by
 rw [dW rfl rfl];have k3:IntKind.wrap .i64 3=3:=by decide
 have k2:IntKind.wrap .i64 2=2:=by decide
 have k1:IntKind.wrap .i64 1=1:=by decide
 have k0:IntKind.wrap .i64 0=0:=by decide
 have k8:IntKind.wrap .i64 8=8:=by decide
 have k16:IntKind.wrap .i64 16=16:=by decide
 have k24:IntKind.wrap .i64 24=24:=by decide
 have km:IntKind.wrap .i64 (-1)= -1:=by decide
 have l1:E.length+1<=70368744177664:=by omega
 have l2:E.length+1+1<=70368744177664:=by omega
 have l3:E.length+1+1+1<=70368744177664:=by omega
 have l4:E.length+1+1+1+1<=70368744177664:=by omega
 simp [AB,k3];rw [bG];simp [c_129_l0,k2,k24,h,l1,wr8u];rw [bG];simp [k1,k16,lL h,l2,wr8u,zM];rw [bG];simp [k0,k8,lL h,l3,wr8u,zM];rw [bG];simp [k0,km,lL h,l4,wr8u,zM];rw [bG];simp [c_129_k1];exact ⟨by rw [Oi],by rw [Oh],by rw [ishr8],by rw [ishr0]⟩
end
def AQ (t N:Nat) (E:List (List AV)) (r:Option (Rt×AH)):Prop:=
 ∃O' N',r=some (.val (.app 1 E t),⟨O',N'⟩)/\N<=N'/\Tail O' N'/\look t O'=some (.tok 1 E.length)
variable {i:Nat}
theorem Sr {l:List Int} (hi:i<l.length):iN (l.take (i+1))=iN (l.take i)++be4 l[i]:=by
 unfold iN;rw [Qh hi,u7,List.flatten_append];simp
theorem TU:∀l:List Int,(iN l).length=4*l.length
 | []=>by simp [iN]
 | x::l=>by
  have:=TU l;have e:iN (x::l)=be4 x++iN l:=by simp [iN]
  rw [e,jE,this];simp [be4];omega
theorem zQ (v:Int):(be4 v).map c8=[[.int .u8 (v / 16777216 % 256)],[.int .u8 (v / 65536 % 256)],[.int .u8 (v / 256 % 256)],[.int .u8 (v % 256)]]:=by simp [be4,c8e]
theorem ES (v:Int):(be2 v).map c8=[[.int .u8 (v / 256 % 256)],[.int .u8 (v % 256)]]:=by simp [be2,c8e]
variable {N0:Nat}
theorem qys {l:List Int} (ht:t<N) (hE:E.length<=549755814900) (hl:l.length<=255) (ho:∀x∈l,0<=x/\x<=4294967295) (hN0:N0<=N)
  (e:Env) (O:List (Nat×AO)) (hT:Tail O N) (h:look t O=some (.tok 1 E.length)) (h0:look 0 e=some (.app 1 E t)) (h19:look 19 e=some (.slice 1 (l.map c32))) (h20:look 20 e=some (a8 l.length)) (h21:look 21 e=some (a8 0)):
  AQ t N0 (E++(iN l).map c8) (go Φ (finC [.tmp 4]) [.c (.loop c_130_l0),.b 0,.c c_130_k1] .normal ⟨e,⟨O,N⟩⟩):=by
 refine QP (fun i:Nat=>l.length - i) (fun i e h=>i<=l.length/\look 0 e=some (.app 1 (E++(iN (l.take i)).map c8) t)/\look 19 e=some (.slice 1 (l.map c32))/\look 20 e=some (a8 l.length)/\look 21 e=some (a8 i)/\
  ∃O,Tail O N/\look t O=some (.tok 1 (E++(iN (l.take i)).map c8).length)/\h=⟨O,N⟩) (fun _=>AQ t N0 (E++(iN l).map c8)) ?_ 0 e _ ⟨Qc _,by simp [h0,iN],h19,h20,by simp [h21],O,hT,by simp [h,iN],rfl⟩
 rintro i e _ L hL ⟨hi,h0,h19,h20,h21,O,hT,h,rfl⟩ ih;rcases Qv i l.length with hlt | hge
 ·have hw:=aL i (by omega);have hx:=ho _ (Qd hlt);have hx64:IntKind.wrap .i64 l[i]=l[i]:=bJ (by omega) (by omega);have hlen:(E++(iN (l.take i)).map c8).length<=1099511627776:=by
   rw [jE,dQ,TU,fU];omega
  have h4:=UV (N:=N) (v:=l[i]) h hlen;simp [c_130_l0,h0,h19,h20,h21,hlt,I7,hx64,hw,h4];refine ih (i+1) _ _ (by omega) ⟨hlt,?_,by simp [h19],by simp [h20],by simp,_,HJ hT ht,?_,rfl⟩
  ·simp [Sr hlt,zQ]
  ·rw [lL h];simp [Sr hlt,be4];omega
 ·have hi':i=l.length:=by omega
  subst hi';simp [c_130_l0,c_130_k1,h0,h20,h21,hL];refine ⟨O,N,by simp,hN0,hT,?_⟩;rw [h];simp
variable {c:Xb}
theorem Ys (h:look t O=some (.tok 1 E.length)) (hT:Tail O N) (ht:t<N) (hE:E.length<=549755813888) (ha:c.args.length<=255) (ho:okC c):
  AQ t N (E++(j9 c).map c8) (aN Φ nJ [.app 1 E t,.agg (cC c)] ⟨O,N⟩):=by
 rw [dW rfl rfl];have hN:=hT N (Qb _);have hw:IntKind.wrap .u8 (c.args.length:Int)=(c.args.length:Int):=by rw [wr8u];omega
 have h2:=Yt (O:=O++[(N,.row 2 [cC c])]) (N:=N+1) (t:=t) (E:=E) (v:=c.Xz) (by rw [lK,h];rfl) (by omega);have hl:E.length+2+1<=70368744177664:=by omega
 have hne:¬N=t:=by omega
 have hne':¬t=N:=by omega
 simp only [cC_e,R2 h] at h2;simp [J7,cC_e,hN,h2,lK,lL h,EL hne,R2 (lL h),zM,hl,hw];have hl:=fun e h1 h2 h3 h4=>qys (N0:=N) (N:=N+1) (t:=t) (E:=E++[[.int .u8 (c.Xz / 256 % 256)],[.int .u8 (c.Xz % 256)],[.int .u8 c.args.length]]) (l:=c.args) (Nat.lt_succ_of_lt ht) (by rw [jE];simp only [mH,mI];omega) ha ho (xT N) e
  (setl t (.tok 1 (E.length+2+1)) O++[(N,.row 2 [[a8 c.Xz,.slice 1 (c.args.map c32)]])]) ((HJ hT ht).app _) (by rw [lK,lL h];simp) h1 h2 h3 h4
 have e:E++(j9 c).map c8=(E++[[.int .u8 (c.Xz / 256 % 256)],[.int .u8 (c.Xz % 256)],[.int .u8 c.args.length]])++(iN c.args).map c8:=by
  simp [j9,be2,c8e]
 rw [e];exact hl _ (by simp) (by simp) (by simp) (by simp)
def opC1:Xv:=match kD.body with | .seq a _=>a | c=>c
def opC2:Xv:=match kD.body with | .seq _ (.seq a _)=>a | c=>c
def opC3:Xv:=match kD.body with | .seq _ (.seq _ a)=>a | c=>c
theorem Oy:kD.body= .seq opC1 (.seq opC2 opC3):=rfl
theorem Vs (n z:Nat) (es:List (List AV)) (h:eqL (eqL (avEq n)) es es=true):avEq (n+1) (.slice z es) (.slice z es)=true:=by unfold avEq;simp [h]
theorem Hw (o:Xc):aoEq (some (.row 9 [Xc.c o])) (some (.row 9 [Xc.c o]))=true:=by
 apply QU;intro x hx;have hk:∀l:List Xi,avEq 40 (.slice 2 (l.map Xi.c)) (.slice 2 (l.map Xi.c))=true:=by
  intro l;refine Vs 39 _ _ (zI _ _ ?_);intro x hx;obtain ⟨y,_,rfl⟩:=kY.1 hx;rw [Xi.ceJ];exact zI _ _ (by simp;exact ⟨iZ 38 _ _,iZ 38 _ _⟩)
 have ha:∀l:List Int,avEq 40 (.slice 1 (l.map c32)) (.slice 1 (l.map c32))=true:=by
  intro l;refine Vs 39 _ _ (zI _ _ ?_);intro x hx;obtain ⟨y,_,rfl⟩:=kY.1 hx;rw [I7];exact zI _ _ (by simp;exact iZ 38 _ _)
 rw [Xc.ce] at hx;simp only [fI,tZ,or_false] at hx;rcases hx with rfl | rfl | rfl | rfl | rfl | rfl | rfl | rfl | rfl
 case _=>exact iZ 39 _ _
 case _=>exact iZ 39 _ _
 case _=>exact iZ 39 _ _
 case _=>exact hk _
 case _=>exact iZ 39 _ _
 case _=>exact iZ 39 _ _
 case _=>exact ha _
 case _=>exact iZ 39 _ _
 case _=>exact ha _
def opT (o:Xc):List Int:=be2 o.table++(if o.kind=1 then be2 o.entry.Xt++((o.entry.keys.length:Int)::(fT o.entry.keys++j9 o.entry.call)) else if o.kind=2 then be4 o.id++j9 o.call else if o.kind=3 then be4 o.id else j9 o.call)
theorem TJ (o:Xc):opB o=o.kind::opT o:=rfl
theorem qoo {t z f:Nat}:∀{O:List (Nat×AO)},look t O=some (.tok z f)->look t (bX O)=some (.tok z f)
 | [],h=>by simp at h
 | (u,w)::r,h=>by
  by_cases hu:u=t
  ·subst hu;simp at h;subst h;simp
  ·simp [hu] at h;have:=qoo h;cases w<;>simp [hu,this]
theorem qod {N:Nat}:∀{O:List (Nat×AO)},Tail O N->Tail (bX O) N
 | [],h=>by simpa using h
 | (u,w)::r,h=>by
  have hr:Tail r N:=by
   intro j hj;have:=h j hj;by_cases hu:u=j
   ·subst hu;simp at this
   ·simpa [hu] using this
  have ih:=qod hr;intro j hj;have hu:¬u=j:=by
   intro hu;subst hu;have:=h u hj;simp at this
  have:=ih j hj;cases w<;>simp [hu,this]
theorem qqb {l:List Xi} (hi:i<l.length):fT (l.take (i+1))=fT (l.take i)++(be4 l[i].value++be4 l[i].Ye):=by
 unfold fT;rw [Qh hi,u7,List.flatten_append];simp [keyB]
theorem TS:∀l:List Xi,(fT l).length=8*l.length
 | []=>by simp [fT]
 | x::l=>by
  have:=TS l;have e:fT (x::l)=keyB x++fT l:=by simp [fT]
  rw [e,jE,this];simp [keyB,be4];omega
theorem Tail.ltJ {O:List (Nat×AO)} {N t:Nat} {x:AO} (hT:Tail O N) (h:look t O=some x):t<N:=by
 rcases Qv t N with h1 | h1
 ·exact h1
 ·rw [hT t h1] at h;cases h
variable {o:Xc}
theorem Cd (hpt:p≠t) (hE:E.length<=274877916944) (hl:o.entry.keys.length<=255) (ho:∀x∈o.entry.keys,okK x) (ha:o.entry.call.args.length<=255) (ho2:okC o.entry.call)
  (e:Env) (O:List (Nat×AO)) (N:Nat) (hN0:N0<=N) (hT:Tail O N) (h:look t O=some (.tok 1 E.length)) (hp:look p O=some (.row 9 [Xc.c o]))
  (h0:look 0 e=some (.app 1 E t)) (h3:look 3 e=some (.ptr p 9 0 0)) (h36:look 36 e=some (.slice 2 (o.entry.keys.map Xi.c))) (h37:look 37 e=some (a8 o.entry.keys.length)) (h38:look 38 e=some (a8 0)):
  AQ t N0 (E++((fT o.entry.keys).map c8++(j9 o.entry.call).map c8)) (go Φ (finC [.tmp 4]) [.c (.loop c_64_l0),.b 1,.c c_64_k1,.b 0,.c c_64_k2] .normal ⟨e,⟨O,N⟩⟩):=by
 refine QP (fun i:Nat=>o.entry.keys.length - i) (fun i e h=>i<=o.entry.keys.length/\look 0 e=some (.app 1 (E++(fT (o.entry.keys.take i)).map c8) t)/\look 3 e=some (.ptr p 9 0 0)/\look 36 e=some (.slice 2 (o.entry.keys.map Xi.c))/\look 37 e=some (a8 o.entry.keys.length)/\look 38 e=some (a8 i)/\
  ∃O N,N0<=N/\Tail O N/\look t O=some (.tok 1 (E++(fT (o.entry.keys.take i)).map c8).length)/\look p O=some (.row 9 [Xc.c o])/\h=⟨O,N⟩) (fun _=>AQ t N0 (E++((fT o.entry.keys).map c8++(j9 o.entry.call).map c8))) ?_ 0 e _ ⟨Qc _,by simp [h0,fT],h3,h36,h37,by simp [h38],O,N,hN0,hT,by simp [h,fT],hp,rfl⟩
 rintro i e _ L hL ⟨hi,h0,h3,h36,h37,h38,O,N,hN0,hT,h,hp,rfl⟩ ih;have htN:=hT.ltJ h;have hpN:=hT.ltJ hp;have hlenT:(E++(fT (o.entry.keys.take i)).map c8).length<=274877926944:=by
  rw [jE,dQ,TS,fU];omega
 rcases Qv i o.entry.keys.length with hlt | hge
 ·have hw:=aL i (by omega);obtain ⟨hx,hy⟩:=ho _ (Qd hlt);have hx64:IntKind.wrap .i64 o.entry.keys[i].value=o.entry.keys[i].value:=bJ (by omega) (by omega);have hy64:IntKind.wrap .i64 o.entry.keys[i].Ye=o.entry.keys[i].Ye:=bJ (by omega) (by omega);have hNN:=hT N (Qb _);have hNt:¬N=t:=by omega
  have hNp:¬N=p:=by omega
  have hD2:E++(fT (o.entry.keys.take (i+1))).map c8=(E++(fT (o.entry.keys.take i)).map c8)++((be4 o.entry.keys[i].value).map c8++(be4 o.entry.keys[i].Ye).map c8):=by
   rw [qqb hlt];simp
  generalize E++(fT (o.entry.keys.take i)).map c8=D at*;have h4:=UV (O:=O++[(N,.row 2 [[.int .u32 o.entry.keys[i].value,.int .u32 o.entry.keys[i].Ye]])]) (N:=N+1) (v:=o.entry.keys[i].value) (by rw [lK,h];rfl) (by omega:D.length<=1099511627776);have h5:=UV (O:=setl t (.tok 1 (D.length+4)) O++[(N,.row 2 [[.int .u32 o.entry.keys[i].value,.int .u32 o.entry.keys[i].Ye]])]) (N:=N+1) (t:=t) (v:=o.entry.keys[i].Ye)
   (E:=D++[[.int .u8 (o.entry.keys[i].value / 16777216 % 256)],[.int .u8 (o.entry.keys[i].value / 65536 % 256)],[.int .u8 (o.entry.keys[i].value / 256 % 256)],[.int .u8 (o.entry.keys[i].value % 256)]])
   (by rw [lK,lL h,jE];rfl) (by rw [jE];simp only [mH,mI];omega)
  rw [R2 h] at h4;rw [R2 (lL h)] at h5;simp only [zM,tY,jM,sZ] at h5;have hl2:look N (setl t (.tok 1 (D.length+4)) O)=none:=by rw [EL hNt];exact hNN
  simp [c_64_l0,h0,h36,h37,h38,hlt,Xi.ceJ,hx64,hy64,hw,hNN,h4,h5,hl2];refine ih (i+1) _ _ (by omega) ⟨hlt,?_,by simp [h3],by simp [h36],by simp [h37],by simp,_,N+1,by omega,(HJ hT htN).app _,?_,?_,rfl⟩
  ·simp [hD2,zQ]
  ·rw [lK,lL h,hD2];simp [be4]
  ·rw [lK,EL hpt,hp];rfl
 ·have hi':i=o.entry.keys.length:=by omega
  subst hi';obtain ⟨O',N',hc,g1,g2,g3⟩:=Ys (N:=N) (c:=o.entry.call) h hT htN (by omega) ha ho2;simp only [cC_e,i9] at hc;rw [Xc.ce] at hp;rw [i9] at h0;simp [c_64_l0,c_64_k1,h0,h3,h37,h38,hL,hp,hc];rw [i9] at g3;exact ⟨O',N',by simp,by omega,g2,by simpa using g3⟩
theorem qxz (h:look t O=some (.tok 1 E.length)) (hp:look p O=some (.row 9 [Xc.c o])) (hpt:p≠t) (hT:Tail O N) (ht:t<N) (hN0:N0<=N) (hE:E.length<=274877906944) (he:opE o=true) (ho:okO o)
  (e:Env) (h0:look 0 e=some (.app 1 E t)) (h3:look 3 e=some (.ptr p 9 0 0)):
  AQ t N0 (E++(opT o).map c8) (go Φ (finC [.tmp 4]) [.c opC3] .normal ⟨e,⟨O,N⟩⟩):=by
 obtain ⟨o1,o2,o3⟩:=ho;unfold opE at he;rw [eB] at he;obtain ⟨he1,he2⟩:=he;have h2:=Yt (N:=N) (v:=o.table) h (by omega);rw [Xc.ce] at hp;by_cases c3:o.kind=3
 ·have h4:=UV (O:=setl t (.tok 1 (E.length+2)) O) (N:=N) (t:=t) (E:=E++[[.int .u8 (o.table / 256 % 256)],[AV.int .u8 (o.table % 256)]]) (v:=o.id) (by rw [lL h];simp) (by simp;omega);rw [c3] at hp;simp [opC3,kD,h0,h3,hp,h2,EL hpt,h4,zM];refine ⟨_,N,by simp [opT,c3,ES,zQ];rfl,hN0,HJ hT ht,?_⟩;rw [lL h];simp [opT,c3,be2,be4]
 have hlk2:look t (setl t (.tok 1 (E.length+2)) O)=some (.tok 1 (E++[[AV.int .u8 (o.table / 256 % 256)],[AV.int .u8 (o.table % 256)]]).length):=by rw [lL h];simp
 by_cases c4:o.kind=4
 ·simp [c4] at he2;simp [iJ] at he2;obtain ⟨O',N',hc,g1,g2,g3⟩:=Ys (N:=N) (c:=o.call) hlk2 (HJ hT ht) ht (by simp;omega) he2.2 o3;simp only [cC_e] at hc;rw [c4] at hp;simp [opC3,kD,c_64_k2,h0,h3,hp,h2,EL hpt,hc];have e2:E++(opT o).map c8=(E++[[AV.int .u8 (o.table / 256 % 256)],[AV.int .u8 (o.table % 256)]])++(j9 o.call).map c8:=by simp [opT,c4,ES]
  rw [e2];exact ⟨O',N',by simp,by omega,g2,g3⟩
 by_cases c2:o.kind=2
 ·simp [c2] at he2;obtain ⟨hi,he3⟩:=he2;simp [iJ] at he3;have h4:=UV (N:=N+1) (v:=o.id) hlk2 (by simp;omega);have hlk4:look t (setl t (.tok 1 (E.length+6)) O)=some (.tok 1 (E++[[AV.int .u8 (o.table / 256 % 256)],[AV.int .u8 (o.table % 256)],[AV.int .u8 (o.id / 16777216 % 256)],[AV.int .u8 (o.id / 65536 % 256)],[AV.int .u8 (o.id / 256 % 256)],[AV.int .u8 (o.id % 256)]]).length):=by rw [lL h];simp
  obtain ⟨O',N',hc,g1,g2,g3⟩:=Ys (N:=N+1) (c:=o.call) hlk4 ((HJ hT ht).mono (xT N)) (Nat.lt_succ_of_lt ht) (by simp;omega) he3.2 o3;simp only [cC_e] at hc;have ha:=Hw o;rw [Xc.ce,c2] at ha;rw [c2] at hp;simp [opC3,kD,h0,h3,hp,h2,EL hpt,h4,zM,hc,ha];have e2:E++(opT o).map c8=(E++[[AV.int .u8 (o.table / 256 % 256)],[AV.int .u8 (o.table % 256)],[AV.int .u8 (o.id / 16777216 % 256)],[AV.int .u8 (o.id / 65536 % 256)],[AV.int .u8 (o.id / 256 % 256)],[AV.int .u8 (o.id % 256)]])++(j9 o.call).map c8:=by simp [opT,c2,ES,zQ]
  rw [e2];exact ⟨bX O',N',by simp,by omega,qod g2,qoo g3⟩
 have c1:o.kind=1:=by
  by_cases c1:o.kind=1
  ·exact c1
  ·simp [c1,c2,c3,c4] at he2
 simp [c1] at he2;obtain ⟨hpr,hkl,hca⟩:=he2;simp [iJ] at hca;have h3':=Yt (N:=N) (v:=o.entry.Xt) hlk2 (by simp;omega);have hlk4:look t (setl t (.tok 1 (E.length+4)) O)=some (.tok 1 (E++[[AV.int .u8 (o.table / 256 % 256)],[AV.int .u8 (o.table % 256)],[AV.int .u8 (o.entry.Xt / 256 % 256)],[AV.int .u8 (o.entry.Xt % 256)]]).length):=by rw [lL h];simp
 have hw:IntKind.wrap .u8 (o.entry.keys.length:Int)=(o.entry.keys.length:Int):=by rw [wr8u];omega
 have hl:E.length+4+1<=70368744177664:=by omega
 have hE5:E++(opT o).map c8=(E++[[AV.int .u8 (o.table / 256 % 256)],[AV.int .u8 (o.table % 256)],[AV.int .u8 (o.entry.Xt / 256 % 256)],[AV.int .u8 (o.entry.Xt % 256)],[AV.int .u8 (o.entry.keys.length:Int)]])++((fT o.entry.keys).map c8++(j9 o.entry.call).map c8):=by
  simp [opT,c1,ES,c8e]
 have key:=fun e O N a b c d f g k m n=>Cd (N0:=N0) (t:=t) (p:=p) (E:=E++[[AV.int .u8 (o.table / 256 % 256)],[AV.int .u8 (o.table % 256)],[AV.int .u8 (o.entry.Xt / 256 % 256)],[AV.int .u8 (o.entry.Xt % 256)],[AV.int .u8 (o.entry.keys.length:Int)]]) (o:=o) hpt (by simp;omega) hkl o1 hca.2 o2 e O N a b c d f g k m n
 have hp':=hp;rw [c1] at hp';rw [hE5];simp [opC3,kD,h0,h3,hp',h2,EL hpt,h3',zM,lL h,hl,hw];simp only [tY,jM,sZ] at key;exact key _ _ N hN0 (HJ hT ht) (by rw [lL h];simp) (by rw [EL hpt];exact hp) (by simp) (by simp [h3]) (by simp) (by simp) (by simp)
def BV (B:AV) (E:List (List AV)) (O:List (Nat×AO)):Prop:=B= .Xu 1 E\/∃t,B= .app 1 E t/\look t O=some (.tok 1 E.length)
theorem Uu (he:opE o=true):1<=o.kind/\o.kind<=4:=by
 by_cases k1:o.kind=1
 ·omega
 by_cases k2:o.kind=2
 ·omega
 by_cases k3:o.kind=3
 ·omega
 by_cases k4:o.kind=4
 ·omega
 ·simp [opE,k1,k2,k3,k4] at he
theorem aop {B:AV} (hB:BV B E O) (hT:Tail O N) (hE:E.length<=274877906900) (he:opE o=true) (ho:okO o):
  ∃t,AQ t N (E++(opB o).map c8) (aN Φ GZ [B,.agg (Xc.c o)] ⟨O,N⟩):=by
 have hk:=Uu he;have hw:IntKind.wrap .u8 o.kind=o.kind:=by rw [wr8u];omega
 have hl:E.length+1<=70368744177664:=by omega
 have hNN:=hT N (Qb _);have e2:E++(opB o).map c8=(E++[[AV.int .u8 o.kind]])++(opT o).map c8:=by simp [TJ,c8e]
 rw [dW rfl rfl,e2,Oy];have hres:kD.results=[.tmp 4]:=rfl;rw [hres];rcases hB with rfl | ⟨t,rfl,h⟩
 ·refine ⟨N+1,?_⟩;have hN1:=hT (N+1) (by omega);have key:=fun e a b=>qxz (O:=O++[(N,.row 9 [Xc.c o]),(N+1,.tok 1 (E.length+1))]) (N0:=N) (N:=N+1+1) (t:=N+1) (p:=N) (E:=E++[[AV.int .u8 o.kind]]) (o:=o) (by simp [lK,hN1]) (by simp [lK,hNN]) (by omega)
   (by have:=(hT.app (.row 9 [Xc.c o])).app (.tok 1 (E.length+1));simpa using this) (by omega) (by omega) (by simp;omega) he ho e a b
  simp [opC1,opC2,kD,Xc.ce,hNN,hN1,hw,hl];simp only [Xc.ce,tY,jM,sZ] at key;exact key _ (by simp) (by simp)
 ·refine ⟨t,?_⟩;have htN:=hT.ltJ h;have hNt:¬N=t:=by omega
  have key:=fun e a b=>qxz (O:=setl t (.tok 1 (E.length+1)) O++[(N,.row 9 [Xc.c o])]) (N0:=N) (N:=N+1) (t:=t) (p:=N) (E:=E++[[AV.int .u8 o.kind]]) (o:=o) (by rw [lK,lL h];simp) (by rw [lK,EL hNt,hNN];simp) hNt
   ((HJ hT htN).app _) (by omega) (by omega) (by simp;omega) he ho e a b
  simp [opC1,opC2,kD,Xc.ce,hNN,hw,hl,lK,h,R2 h];simp only [Xc.ce,tY,jM,sZ] at key;exact key _ (by simp) (by simp)
theorem Yi (n:Int):a9 Φ jR [a8 n]=some (.val (.bool (iY n))):=by
 rw [aA rfl rfl];by_cases q:0<=n<;>simp [J6,iY,q]
theorem TF (c:Xb):a9 Φ qI [.agg (cC c)]=some (.val (.bool (iJ c))):=by
 rw [aA rfl rfl];have h:=Yi c.Xz;cases q:iY c.Xz with
 | false=>rw [q] at h;simp [AA,cC_e,iJ,h,q]
 | true=>rw [q] at h;simp [AA,cC_e,iJ,h,q]
theorem qzv (o:Xc):a9 Φ NS [.agg (Xc.c o)]=some (.val (.bool (opE o))):=by
 rw [aA rfl rfl];have h1:=Yi o.table;have h2:=Yi o.entry.Xt;have h3:=TF o.entry.call;have h4:=TF o.call;simp only [cC_e] at h3 h4;have hid:idI o.id=(decide (0<=o.id)&&decide (o.id<=2147483647)):=rfl;by_cases c1:o.kind=1
 ·have e:opE o=(iY o.table&&(iY o.entry.Xt&&(decide (o.entry.keys.length<=255)&&iJ o.entry.call))):=by simp [opE,c1]
  rw [e];by_cases qi:0<=o.id<;>cases q1:iY o.table<;>cases q2:iY o.entry.Xt<;>by_cases q3:o.entry.keys.length<=255<;>rw [q1] at h1<;>rw [q2] at h2<;>simp [xY,Xc.ce,c1,qi,h1,h2,h3,q3]
 by_cases c2:o.kind=2
 ·have e:opE o=(iY o.table&&(idI o.id&&iJ o.call)):=by simp [opE,c2]
  rw [e,hid];by_cases qi:0<=o.id<;>by_cases qj:o.id<=2147483647<;>cases q1:iY o.table<;>rw [q1] at h1<;>simp [xY,Xc.ce,c2,qi,qj,h1,h4]
 by_cases c3:o.kind=3
 ·have e:opE o=(iY o.table&&idI o.id):=by simp [opE,c3]
  rw [e,hid];by_cases qi:0<=o.id<;>by_cases qj:o.id<=2147483647<;>cases q1:iY o.table<;>rw [q1] at h1<;>simp [xY,Xc.ce,c3,qi,qj,h1]
 by_cases c4:o.kind=4
 ·have e:opE o=(iY o.table&&iJ o.call):=by simp [opE,c4]
  rw [e];by_cases qi:0<=o.id<;>cases q1:iY o.table<;>rw [q1] at h1<;>simp [xY,Xc.ce,c4,qi,h1,h4]
 ·have e:opE o=false:=by simp [opE,c1,c2,c3,c4]
  rw [e];by_cases qi:0<=o.id<;>simp [xY,Xc.ce,c1,c2,c3,c4,qi]
theorem qyh (h:opE o=true):(opB o).length<=4000:=by
 unfold opE at h;rw [eB] at h;obtain ⟨_,h⟩:=h;have hcall:∀c:Xb,iJ c=true->(j9 c).length<=1100:=by
  intro c hc;simp [iJ] at hc;simp only [j9,be2,jE,mH,mI,TU];omega
 unfold opB;by_cases c1:o.kind=1
 ·simp [c1] at h;have:=hcall _ h.2.2;rw [aB c1];simp only [be2,jE,mH,mI,TS];omega
 by_cases c2:o.kind=2
 ·simp [c2] at h;have:=hcall _ h.2;rw [QA c1,aB c2];simp only [be2,be4,jE,mH,mI];omega
 by_cases c3:o.kind=3
 ·rw [QA c1,QA c2,aB c3];simp only [be2,be4,jE,mH,mI];omega
 by_cases c4:o.kind=4
 ·simp [c4] at h;have:=hcall _ h;rw [QA c1,QA c2,QA c3];simp only [be2,jE,mH,mI];omega
 ·simp [c1,c2,c3,c4] at h
theorem qs0 (hi:i<l.length):opsB (l.take (i+1))=opsB (l.take i)++opB l[i]:=by
 unfold opsB;rw [Qh hi,u7,List.flatten_append];simp
theorem Uv:∀{l:List Xc},(∀o∈l,opE o=true)->(opsB l).length<=4000*l.length
 | [],_=>by simp [opsB]
 | x::l,h=>by
  have h1:=Uv (l:=l) (fun y hy=>h y (FO _ hy));have h2:=qyh (h x (QE ..));have e:opsB (x::l)=opB x++opsB l:=by simp [opsB]
  rw [e,jE,mH];omega
theorem qx2 (hl:l.length<=64) (h:∀o∈l.take l.length,opE o=true):encB l=(l.length:Int)::opsB l:=by
 rw [i9] at h;unfold encB;rw [aB ⟨hl,h⟩]
theorem quy (hi:i<l.length) (h:opE l[i]=false):encB l=[]:=by
 unfold encB;rw [QA];intro q;have:=q.2 _ (Qd hi);rw [h] at this;cases this
theorem Jv (l:List Xc) (ho:∀o∈l,okO o):a9 Φ NK [.slice 9 (l.map Xc.c)]=some (.val (.slice 1 ((encB l).map c8))):=by
 rw [aA rfl rfl];by_cases q:64<l.length
 ·have:encB l=[]:=by unfold encB;rw [QA (by omega)]
  simp [MS,q,this]
 have hl:l.length<=64:=by omega
 have hw:IntKind.wrap .u8 (l.length:Int)=(l.length:Int):=by rw [wr8u];omega
 simp [MS,q,hw];refine QP (fun i:Nat=>l.length - i) (fun i e h=>i<=l.length/\(∀o∈l.take i,opE o=true)/\look 13 e=some (.slice 9 (l.map Xc.c))/\look 14 e=some (a8 l.length)/\look 15 e=some (a8 i)/\
  ∃B O N,look 3 e=some B/\BV B (([(l.length:Int)]++opsB (l.take i)).map c8) O/\Tail O N/\h=⟨O,N⟩) (fun _ (r:Option Rt)=>r=some (Rt.val (AV.slice 1 ((encB l).map c8)))) ?_ 0 _ _ ⟨Qc _,by simp,by simp,by simp,by simp,.Xu 1 [[.int .u8 (l.length:Int)]],[],0,by simp,.inl (by simp [opsB,c8e]),Tail.nil 0,rfl⟩
 rintro i e _ L hL ⟨hi,hp,h13,h14,h15,B,O,N,h3,hB,hT,rfl⟩ ih;have hNN:=hT N (Qb _);rcases Qv i l.length with hlt | hge
 ·have hwi:=aL i (by omega);have hen:=qzv l[i];rw [Xc.ce] at hen;cases hq:opE l[i] with
  | false=>
   rw [hq] at hen;simp [c_24_l0,Xc.ce,h13,h14,h15,hlt,hNN,hen,quy hlt hq]
  | true=>
   rw [hq] at hen;have hlen:((([(l.length:Int)]++opsB (l.take i)).map c8).length)<=274877906900:=by
    have:=Uv hp;rw [fU] at this;rw [dQ,jE];simp only [mH,mI];omega
   have hB2:BV B (([(l.length:Int)]++opsB (l.take i)).map c8) (O++[(N,.row 9 [Xc.c l[i]])]):=by
    rcases hB with h | ⟨t,h,h2⟩
    ·exact .inl h
    ·exact .inr ⟨t,h,by rw [lK,h2];rfl⟩
   obtain ⟨t,O',N',hc,g1,g2,g3⟩:=aop (N:=N+1) hB2 (hT.app _) hlen hq (ho _ (Qd hlt));rw [Xc.ce] at hc;simp [c_24_l0,Xc.ce,h3,h13,h14,h15,hlt,hNN,hen,hc,hwi];have hE2:([(l.length:Int)]++opsB (l.take (i+1))).map c8=([(l.length:Int)]++opsB (l.take i)).map c8++(opB l[i]).map c8:=by
    rw [qs0 hlt];simp
   refine ih (i+1) _ _ (by omega) ⟨hlt,?_,by simp [h13],by simp [h14],by simp,.app 1 (([(l.length:Int)]++opsB (l.take i)).map c8++(opB l[i]).map c8) t,O',N',by simp,by rw [hE2];exact .inr ⟨t,rfl,g3⟩,g2,rfl⟩
   ·intro o ho';rw [Qh hlt] at ho';rcases gP.1 ho' with h | h
    ·exact hp o h
    ·simp at h;rw [h];exact hq
 ·have hi':i=l.length:=by omega
  subst hi';rw [qx2 hl hp];rw [i9] at hB;rcases hB with rfl | ⟨t,rfl,h2⟩
  ·simp [c_24_l0,c_24_k1,h3,h14,h15,hL]
  ·simp [c_24_l0,c_24_k1,h3,h14,h15,hL]
theorem rnum0 (v:Int) (O:List (Nat×AO)) (N:Nat):aN Φ cG [a8 v,a8 0] ⟨O,N⟩=some (.val (.Xu 1 []),⟨O,N⟩):=by
 rw [dW rfl rfl];simp [uJ]
section
variable (h:0<=v/\v<=4294967295)
include h
theorem T8:IntKind.wrap .i64 (v.tdiv 256)=v / 256:=by
 rw [WK h.1];exact bJ (by omega) (by omega)
theorem TO:IntKind.wrap .u8 (v.tmod 256)=v % 256:=by
 rw [WJ h.1,wr8u];omega
theorem Ub (n:Nat) (hn:n<=3) (O:List (Nat×AO)) (N:Nat) (E:List (List AV)) (hT:Tail O N) (hE:E.length<=10)
  (ih:aN Φ cG [a8 (v / 256),a8 n] ⟨O,N⟩=some (.val (.app 1 E N),⟨O++[(N,.tok 1 E.length)],N+1⟩)):
  aN Φ cG [a8 v,a8 ((n:Int)+1)] ⟨O,N⟩=some (.val (.app 1 (E++[[.int .u8 (v % 256)]]) N),⟨O++[(N,.tok 1 (E.length+1))],N+1⟩):=by
 rw [dW rfl rfl];have hNN:=hT N (Qb _);have hw:IntKind.wrap .i64 (n:Int)=(n:Int):=bJ (by omega) (by omega);have hz:¬((n:Int)+1=0):=by omega
 have hl:E.length+1<=70368744177664:=by omega
 simp [uJ,hz,T8 h,TO h,ih,hw,hNN,hl]
theorem rnum1 (O:List (Nat×AO)) (N:Nat) (hT:Tail O N):aN Φ cG [a8 v,a8 1] ⟨O,N⟩=some (.val (.app 1 [[.int .u8 (v % 256)]] N),⟨O++[(N,.tok 1 1)],N+1⟩):=by
 rw [dW rfl rfl];have hNN:=hT N (Qb _);have h0:=rnum0 (v / 256) O N;have k0:IntKind.wrap .i64 0=0:=by decide
 simp [uJ,T8 h,TO h,h0,k0,hNN]
theorem OC (O:List (Nat×AO)) (N:Nat) (hT:Tail O N):aN Φ cG [a8 v,a8 2] ⟨O,N⟩=some (.val (.app 1 ((be2 v).map c8) N),⟨O++[(N,.tok 1 2)],N+1⟩):=by
 have h1:=rnum1 (v:=v / 256) (by omega) O N hT;have h2:=Ub h 1 (by omega) O N _ hT (by simp) h1;have e:(be2 v).map c8=[[AV.int .u8 (v / 256 % 256)]]++[[.int .u8 (v % 256)]]:=by simp [be2,c8e]
 rw [e];exact h2
theorem rnum4 (O:List (Nat×AO)) (N:Nat) (hT:Tail O N):aN Φ cG [a8 v,a8 4] ⟨O,N⟩=some (.val (.app 1 ((be4 v).map c8) N),⟨O++[(N,.tok 1 4)],N+1⟩):=by
 have h2:=OC (v:=v / 256 / 256) (by omega) O N hT;have h3:=Ub (v:=v / 256) (by omega) 2 (by omega) O N _ hT (by simp [be2]) h2;have h4:=Ub h 3 (by omega) O N _ hT (by simp [be2]) h3;have e:(be4 v).map c8=(be2 (v / 256 / 256)).map c8++[[AV.int .u8 (v / 256 % 256)]]++[[.int .u8 (v % 256)]]:=by
  simp [be4,be2,c8e];omega
 rw [e];exact h4
theorem pnum2:a9 Φ cG [a8 v,a8 2]=some (.val (.slice 1 ((be2 v).map c8))):=by
 unfold a9;have:=OC h [] 0 (Tail.nil 0);rw [show H0=⟨[],0⟩ from rfl,this];simp [wS,bE]
theorem YZ:a9 Φ cG [a8 v,a8 4]=some (.val (.slice 1 ((be4 v).map c8))):=by
 unfold a9;have:=rnum4 h [] 0 (Tail.nil 0);rw [show H0=⟨[],0⟩ from rfl,this];simp [wS,bE]
end
theorem Yh (n:Int):a9 Φ rB [a8 n]=some (.val (.bool (iY n))):=by
 rw [aA rfl rfl];by_cases q:0<=n<;>simp [K5,iY,q]
theorem TA (c:Xb):a9 Φ rC [.agg (cC c)]=some (.val (.bool (iJ c))):=by
 rw [aA rfl rfl];have h:=Yh c.Xz;cases q:iY c.Xz with
 | false=>rw [q] at h;simp [AU,cC_e,iJ,h,q]
 | true=>rw [q] at h;simp [AU,cC_e,iJ,h,q]
theorem ZP (o:Xc):a9 Φ C5 [.agg (Xc.c o)]=some (.val (.bool (opE o))):=by
 rw [aA rfl rfl];have h1:=Yh o.table;have h2:=Yh o.entry.Xt;have h3:=TA o.entry.call;have h4:=TA o.call;simp only [cC_e] at h3 h4;have hid:idI o.id=(decide (0<=o.id)&&decide (o.id<=2147483647)):=rfl;cases q1:iY o.table with
 | false=>
  have e:opE o=false:=by simp [opE,q1]
  rw [e];rw [q1] at h1;simp [l8,Xc.ce,h1]
 | true=>
 rw [q1] at h1;by_cases c1:o.kind=1
 ·have e:opE o=(iY o.entry.Xt&&(decide (o.entry.keys.length<=255)&&iJ o.entry.call)):=by simp [opE,c1,q1]
  rw [e];by_cases qi:0<=o.id<;>cases q2:iY o.entry.Xt<;>by_cases q3:o.entry.keys.length<=255<;>rw [q2] at h2<;>simp [l8,Xc.ce,c1,qi,h1,h2,h3,q3]
 by_cases c2:o.kind=2
 ·have e:opE o=(idI o.id&&iJ o.call):=by simp [opE,c2,q1]
  rw [e,hid];by_cases qi:0<=o.id<;>by_cases qj:o.id<=2147483647<;>simp [l8,Xc.ce,c2,qi,qj,h1,h4]
 by_cases c3:o.kind=3
 ·have e:opE o=idI o.id:=by simp [opE,c3,q1]
  rw [e,hid];by_cases qi:0<=o.id<;>by_cases qj:o.id<=2147483647<;>simp [l8,Xc.ce,c3,qi,qj,h1]
 by_cases c4:o.kind=4
 ·have e:opE o=iJ o.call:=by simp [opE,c4,q1]
  rw [e];by_cases qi:0<=o.id<;>simp [l8,Xc.ce,c4,qi,h1,h4]
 ·have e:opE o=false:=by simp [opE,c1,c2,c3,c4]
  rw [e];by_cases qi:0<=o.id<;>simp [l8,Xc.ce,c1,c2,c3,c4,qi,h1]
theorem Ac (c:Xb):aoEq (some (.row 2 [[a8 c.Xz,.slice 1 (c.args.map c32)]])) (some (.row 2 [[a8 c.Xz,.slice 1 (c.args.map c32)]]))=true:=by
 apply QU;intro x hx;simp only [fI,tZ,or_false] at hx;rcases hx with rfl | rfl
 ·exact iZ 39 _ _
 ·refine Vs 39 _ _ (zI _ _ ?_);intro x hx;obtain ⟨y,_,rfl⟩:=kY.1 hx;rw [I7];exact zI _ _ (by simp;exact iZ 38 _ _)
theorem YQ (c:Xb) (hc:iJ c=true) (ho:okC c):a9 Φ rD [.agg (cC c)]=some (.val (.slice 1 ((j9 c).map c8))):=by
 simp [iJ,iY] at hc;rw [aA rfl rfl];have h2:=OC (v:=c.Xz) (by omega);have hw:IntKind.wrap .u8 (c.args.length:Int)=(c.args.length:Int):=by rw [wr8u];omega
 have ha:=Ac c;have h2':=h2 [(0,.row 2 [[a8 c.Xz,.slice 1 (c.args.map c32)]]),(14,.res)] 15 (by
  intro j hj;have a:¬0=j:=by omega
  have b:¬14=j:=by omega
  simp [a,b])
 simp only [ES] at h2';simp [K6,cC_e,h2',hw,ha];have e2:(j9 c).map c8=([[AV.int .u8 (c.Xz / 256 % 256)],[AV.int .u8 (c.Xz % 256)],[AV.int .u8 c.args.length]]:List (List AV))++(iN c.args).map c8:=by simp [j9,be2,c8e]
 rw [e2];refine tC c.args.length (fun i e h=>look 1 e=some (.ptr 0 2 0 0)/\look 4 e=some (a8 i)/\look 3 e=some (.app 1 (([[AV.int .u8 (c.Xz / 256 % 256)],[AV.int .u8 (c.Xz % 256)],[AV.int .u8 c.args.length]]:List (List AV))++(iN (c.args.take i)).map c8) 15)/\
  ∃T N,Tail T N/\16<=N/\h=⟨(0,.row 2 [[a8 c.Xz,.slice 1 (c.args.map c32)]])::(15,.tok 1 (3+4*i))::T,N⟩) (fun _=>_) ?_ ?_ 0 _ _ (Qc _) ?_
 ·rintro i e _ L hi hL ⟨h1,h4,h3,T,N,hT,hN,rfl⟩ ih;have hwi:=aL i (by omega);have hx:=ho _ (Qd hi);have hx64:IntKind.wrap .i64 c.args[i]=c.args[i]:=bJ (by omega) (by omega);have hp:=rnum4 hx ((0,.row 2 [[a8 c.Xz,.slice 1 (c.args.map c32)]])::(15,.tok 1 (3+4*i))::T) N (by
   intro j hj;have a:¬0=j:=by omega
   have b:¬15=j:=by omega
   simp [a,b,hT j hj])
  simp only [zQ,jM] at hp;have hlen:(iN (c.args.take i)).length=4*i:=by rw [TU,fU];omega
  have e3:3+4*i=4*i+1+1+1:=by omega
  have l1:4*i+1+1+1+4<=70368744177664:=by omega
  have hE:(([[AV.int .u8 (c.Xz / 256 % 256)],[AV.int .u8 (c.Xz % 256)],[AV.int .u8 c.args.length]]:List (List AV))++(iN (c.args.take i)).map c8).length=3+4*i:=by
   rw [jE,dQ,hlen];simp only [mH,mI]
  have hE2:([[AV.int .u8 (c.Xz / 256 % 256)],[AV.int .u8 (c.Xz % 256)],[AV.int .u8 c.args.length]]:List (List AV))++(iN (c.args.take (i+1))).map c8=(([[AV.int .u8 (c.Xz / 256 % 256)],[AV.int .u8 (c.Xz % 256)],[AV.int .u8 c.args.length]]:List (List AV))++(iN (c.args.take i)).map c8)++(be4 c.args[i]).map c8:=by
   rw [Sr hi];simp
  rw [hE2] at ih;generalize ([[AV.int .u8 (c.Xz / 256 % 256)],[AV.int .u8 (c.Xz % 256)],[AV.int .u8 c.args.length]]:List (List AV))++(iN (c.args.take i)).map c8=D at*;have l2:3+4*i+4<=70368744177664:=by omega
  simp [c_211_l0,h1,h3,h4,hi,I7,hx64,hp,hwi,hE,l2];exact (ih _ _ ⟨by simp [h1],by simp,by simp [zQ],T++[(N,.tok 1 4)],N+1,hT.app _,by omega,by simp;omega⟩).trans (by simp)
 ·rintro e _ L hL ⟨h1,h4,h3,T,N,hT,hN,rfl⟩;rw [i9] at h3;simp [c_211_l0,c_211_k1,h1,h3,h4,hL]
 ·simp [iN];exact ⟨[],16,Tail.nil 16,Qb _,rfl,rfl⟩
theorem Tq (hc:iJ c=true):(j9 c).length<=1100:=by
 simp [iJ] at hc;simp only [j9,be2,jE,mH,mI,TU];omega
theorem Ep (o:Xc) (E:List (List AV)) (hE:E.length<=1000000) (hkl:o.entry.keys.length<=255) (o1:∀x∈o.entry.keys,okK x) (hca:iJ o.entry.call=true) (o2:okC o.entry.call) (e:Env) (N:Nat)
  (h1:look 1 e=some (.ptr 0 9 0 0)) (h3:look 3 e=some (.app 1 E 1)) (h4:look 4 e=some (a8 0)):
  go Φ (finP [.tmp 2]) [.c (.loop c_143_l0),.b 0,.c c_143_k1,.c c_143_k2] .normal ⟨e,⟨[(0,.row 9 [Xc.c o]),(1,.tok 1 E.length)],N⟩⟩=
   some (.val (.slice 1 (E++((fT o.entry.keys).map c8++(j9 o.entry.call).map c8)))):=by
 refine tC o.entry.keys.length (fun i e h=>look 1 e=some (.ptr 0 9 0 0)/\look 3 e=some (.app 1 (E++(fT (o.entry.keys.take i)).map c8) 1)/\look 4 e=some (a8 i)/\
  h=⟨[(0,.row 9 [Xc.c o]),(1,.tok 1 (E++(fT (o.entry.keys.take i)).map c8).length)],N⟩) (fun _=>_) ?_ ?_ 0 _ _ (Qc _) ⟨h1,by simp [h3,fT],by simp [h4],by simp [fT]⟩
 ·rintro i e _ L hi hL ⟨h1,h3,h4,rfl⟩ ih;have hwi:=aL i (by omega);obtain ⟨hx,hy⟩:=o1 _ (Qd hi);have hx64:IntKind.wrap .i64 o.entry.keys[i].value=o.entry.keys[i].value:=bJ (by omega) (by omega);have hy64:IntKind.wrap .i64 o.entry.keys[i].Ye=o.entry.keys[i].Ye:=bJ (by omega) (by omega);have hp:=YZ hx;have hq:=YZ hy;simp only [zQ] at hp hq;have hlenT:(E++(fT (o.entry.keys.take i)).map c8).length<=1002040:=by
   rw [jE,dQ,TS,fU];omega
  have hE2:E++(fT (o.entry.keys.take (i+1))).map c8=(E++(fT (o.entry.keys.take i)).map c8)++((be4 o.entry.keys[i].value).map c8++(be4 o.entry.keys[i].Ye).map c8):=by
   rw [qqb hi];simp
  rw [hE2] at ih;generalize E++(fT (o.entry.keys.take i)).map c8=D at*;have l2:D.length+4<=70368744177664:=by omega
  have l3:D.length+4+4<=70368744177664:=by omega
  simp [c_143_l0,Xc.ce,Xi.ceJ,h1,h3,h4,hi,hx64,hy64,hp,hq,hwi,l2,l3];exact (ih _ _ ⟨by simp [h1],by simp [zQ],by simp,by simp [Xc.ce,be4]⟩).trans (by simp)
 ·rintro e _ L hL ⟨h1,h3,h4,rfl⟩;rw [i9] at h3 ⊢;have hc:=YQ o.entry.call hca o2;simp only [cC_e] at hc;have hlen:E.length+(fT o.entry.keys).length+(j9 o.entry.call).length<=70368744177664:=by
   have:=Tq hca;rw [TS];omega
  simp [c_143_l0,c_143_k1,Xc.ce,h1,h3,h4,hL,hc,hlen]
theorem ropB (o:Xc) (he:opE o=true) (ho:okO o):a9 Φ C6 [.agg (Xc.c o)]=some (.val (.slice 1 ((opB o).map c8))):=by
 have hk:=Uu he;obtain ⟨o1,o2,o3⟩:=ho;unfold opE at he;rw [eB] at he;obtain ⟨he1,he2⟩:=he;have he1':=he1;simp [iY] at he1';have hw:IntKind.wrap .u8 o.kind=o.kind:=by rw [wr8u];omega
 have h2:=pnum2 (v:=o.table) (by omega);simp only [ES] at h2;rw [aA rfl rfl,TJ];by_cases c3:o.kind=3
 ·simp [c3,idI] at he2;have h4:=YZ (v:=o.id) (by omega);simp only [zQ] at h4;rw [c3] at hw;simp [pP,c_143_k2,Xc.ce,c3,hw,h2,h4,opT,ES,zQ,c8e]
 by_cases c4:o.kind=4
 ·simp [c4] at he2;have hc:=YQ o.call he2 o3;simp only [cC_e] at hc;rw [c4] at hw;have hlen:3+(j9 o.call).length<=70368744177664:=by have:=Tq he2;omega
  simp [pP,c_143_k2,Xc.ce,c4,hw,h2,hc,opT,ES,c8e,hlen]
 by_cases c2:o.kind=2
 ·simp [c2,idI] at he2;have hc:=YQ o.call he2.2 o3;simp only [cC_e] at hc;have h4:=YZ (v:=o.id) (by omega);simp only [zQ] at h4;rw [c2] at hw;have hlen:7+(j9 o.call).length<=70368744177664:=by have:=Tq he2.2;omega
  simp [pP,c_143_k2,Xc.ce,c2,hw,h2,h4,hc,opT,ES,zQ,c8e,hlen]
 have c1:o.kind=1:=by omega
 simp [c1] at he2;obtain ⟨hpr,hkl,hca⟩:=he2;simp [iY] at hpr;have hc:=YQ o.entry.call hca o2;simp only [cC_e] at hc;have h3:=pnum2 (v:=o.entry.Xt) (by omega);simp only [ES] at h3;rw [c1] at hw;have hwl:IntKind.wrap .u8 (o.entry.keys.length:Int)=(o.entry.keys.length:Int):=by rw [wr8u];omega
 simp [pP,Xc.ce,c1,hw,h2,h3,opT,ES,c8e,hwl];have key:=fun e N a b c=>Ep o [[AV.int .u8 1],[AV.int .u8 (o.table / 256 % 256)],[AV.int .u8 (o.table % 256)],[AV.int .u8 (o.entry.Xt / 256 % 256)],[AV.int .u8 (o.entry.Xt % 256)],[AV.int .u8 o.entry.keys.length]] (by simp) hkl o1 hca o2 e N a b c
 simp only [Xc.ce,c1] at key;exact (key _ _ (by simp) (by simp) (by simp)).trans (by simp)
theorem qqp:∀(n:Nat) {s:Stt},okB s.b->(gB n s).2.length<=n/\∀x∈(gB n s).2,0<=x/\x<=4294967295
 | 0,_,_=>by simp [gB]
 | n+1,s,hb=>by
  by_cases z:s.e=0
  ·rw [QQ z];obtain ⟨h1,h2⟩:=qqp n (s:=(rdN 4 s).1) (eK hb);refine ⟨by simp;exact h1,?_⟩;intro x hx;rcases fI.1 hx with rfl | hx
   ·exact FZ hb
   ·exact h2 x hx
  ·rw [QL z];simp
theorem qqq:∀(n:Nat) {s:Stt},okB s.b->(kI n s).2.length<=n/\∀x∈(kI n s).2,okK x
 | 0,_,_=>by simp [kI]
 | n+1,s,hb=>by
  by_cases z:s.e=0
  ·rw [U3 z];obtain ⟨h1,h2⟩:=qqq n (s:=(oB s).1) (QR hb);refine ⟨by simp;exact h1,?_⟩;intro x hx;rcases fI.1 hx with rfl | hx
   ·exact ⟨FZ hb,FZ (eK hb)⟩
   ·exact h2 x hx
  ·rw [QM z];simp
def smC (c:Xb):Prop:=c.args.length<2^40/\okC c
theorem Tg (hb:okB s.b):smC (fX s).2:=by
 have hb1:okB (rdN 2 s).1.b:=eK hb;obtain ⟨h1,h2⟩:=qqp (rdN 1 (rdN 2 s).1).2.toNat (s:=(rdN 1 (rdN 2 s).1).1) (eK hb1);have:=FY hb1;exact ⟨by rw [qor];omega,by unfold okC;rw [qor];exact h2⟩
theorem UC:smC gX:=⟨by simp [gX],by simp [okC,gX]⟩
def smE (x:Entry):Prop:=x.keys.length<2^40/\(∀k∈x.keys,okK k)/\smC x.call
theorem qxm (hb:okB s.b):smE (zO s).2:=by
 have hb1:okB (rdN 2 s).1.b:=eK hb;have hb2:okB (rdN 1 (rdN 2 s).1).1.b:=eK hb1;obtain ⟨h1,h2⟩:=qqq (rdN 1 (rdN 2 s).1).2.toNat hb2;have:=FY hb1;refine ⟨?_,h2,Tg (Th _ hb2)⟩;show (kI (rdN 1 (rdN 2 s).1).2.toNat (rdN 1 (rdN 2 s).1).1).2.length<_;omega
theorem XI:smE jV:=⟨by simp [jV],by simp [jV],UC⟩
def smO (o:Xc):Prop:=smE o.entry/\smC o.call
theorem Fq (hb:okB s.b):smO (rdOp s).2:=by
 have b2:okB (rdN 2 (kE (rdN 1 s))).1.b:=eK (XK (eK hb));unfold rdOp iX;simp only;split
 ·exact ⟨XI,UC⟩
 split
 ·exact ⟨qxm b2,UC⟩
 split
 ·refine ⟨XI,?_⟩;simp only;split
  ·exact Tg (RI b2)
  ·exact UC
 split
 ·exact ⟨XI,UC⟩
 ·exact ⟨XI,Tg b2⟩
theorem qs7:∀(n:Nat) {s:Stt},okB s.b->(oC n s).2.length<=n/\∀x∈(oC n s).2,smO x
 | 0,_,_=>by simp [oC]
 | n+1,s,hb=>by
  by_cases z:s.e=0
  ·rw [FS z];obtain ⟨h1,h2⟩:=qs7 n (s:=(rdOp s).1) (FW hb);refine ⟨by simp;exact h1,?_⟩;intro x hx;rcases fI.1 hx with rfl | hx
   ·exact Fq hb
   ·exact h2 x hx
  ·rw [Ti z];simp
theorem Uj (hb:okB b):(decB b).1.length<=255/\∀x∈(decB b).1,smO x:=by
 have hb1:okB (cntS (rdN 1 ⟨b,0⟩)).b:=Ui (eK hb);obtain ⟨h1,h2⟩:=qs7 (rdN 1 ⟨b,0⟩).2.toNat hb1;have:=FY (s:=⟨b,0⟩) hb;unfold decB;simp only;split
 ·exact ⟨by omega,h2⟩
 ·simp
def UW (o:Xc):Bool:=decide (300<o.entry.keys.length) || (decide (300<o.entry.call.args.length) || decide (300<o.call.args.length))
def HZ (l:List Xc):Bool:=decide (80<l.length) || mK l UW 0
theorem qw9 (l:List Xc) (hb:l.length<2^40):a9 Φ NQ [.slice 9 (l.map Xc.c)]=some (.val (.bool (HZ l))):=by
 rw [aA rfl rfl];by_cases q:80<l.length
 ·simp [MY,HZ,q]
 simp [MY,HZ,q];refine fJ l.length (fun i e=>look 0 e=some (.slice 9 (l.map Xc.c))/\look 3 e=some (a8 i)) (fun i=>some (Rt.val (AV.bool (mK l UW i)))) ?_ ?_ 0 _ (Qc _) ?_
 ·rintro i e L hi hL ⟨h0,h3⟩ ih;have hw:=aL i (by omega);cases hb:UW l[i] with
  | true=>
   rw [UH hi hb];unfold UW at hb;by_cases y0:300<l[i].entry.keys.length
   ·simp [c_55_l0,Xc.ce,h0,h3,hi,y0]
   by_cases y1:300<l[i].entry.call.args.length
   ·simp [c_55_l0,Xc.ce,h0,h3,hi,y0,y1]
   simp [y0,y1] at hb;simp [c_55_l0,Xc.ce,h0,h3,hi,y0,y1,hb]
  | false=>
   rw [HN hi hb];unfold UW at hb;simp only [GE,decide_eq_false_iff_not] at hb;obtain ⟨y0,y1,y2⟩:=hb;simp [c_55_l0,Xc.ce,h0,h3,hi,y0,y1,y2,hw];exact ih _ ⟨by simp [h0],by simp⟩
 ·rintro e L hL ⟨h0,h3⟩;rw [RA];simp [c_55_l0,c_55_k1,h0,h3,hL]
 ·simp
end Go.Av
