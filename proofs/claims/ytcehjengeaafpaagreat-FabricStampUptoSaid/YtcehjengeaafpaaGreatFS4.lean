/-
 The rows that the laws of the fabric insert are valid.
-/
import Derived.Test.YtcehjengeaafpaaGreatLK6
set_option linter.all false
namespace Go.Av
set_option maxRecDepth 8000
structure G8 (k:Xh):Prop where
 v:by8 k.value
 m:by8 k.Yd
 s:k.value.toNat&&& k.Yd.toNat=k.value.toNat
theorem GT {x:Int} (h:by8 x):fits x 8=true:=by
 have:=h.2;simp [fits,wBad,h.2]
theorem keyK8 {k:Xh} (g:G8 k) {kind:Int} (h1:kind=1->k.Yd=255) (h2:kind≠2):keyK k kind 8=0:=by
 unfold keyK;rw [QA (by rw [GT g.v,GT g.m];simp),QA (by simp [g.s]),QA (by rintro ⟨a,b⟩;exact b (h1 a)),QA (by rintro ⟨a,_⟩;exact h2 a)]
theorem It {t:Int} {tb:Tbl} {x:Entry} (h1:(tblE pF t).2=0) (h2:at? pF.Xm t=some tb) (h3:x.keys.length=tb.keys.length) (h4:∀i,i<tb.keys.length->entG pF tb x i=none) (h5:entF pF t x=0):entE pF t x=0:=by
 unfold entE;rw [QA (by simp [h1]),h2];simp only;rw [QA (by simp [h3]),fe_all.2 h4];exact h5
def tb0:Tbl:=⟨[105,110,103,114,101,115,115],[⟨⟨-1,0⟩,1⟩],[0,4],⟨4,[]⟩,16⟩
def tb2:Tbl:=⟨[112,97,116,104],[⟨⟨-1,0⟩,3⟩,⟨⟨1,0⟩,3⟩,⟨⟨1,1⟩,3⟩,⟨⟨2,0⟩,3⟩,⟨⟨2,1⟩,3⟩,⟨⟨2,2⟩,3⟩],[2,3,4],⟨4,[]⟩,256⟩
theorem G8.ex {x:Int} (h:by8 x):G8 ⟨x,255⟩:=⟨h,⟨(by decide:(0:Int)<=255),(by decide:(255:Int)<256)⟩,by
 have:=DT x.toNat 8;show x.toNat&&& (255:Int).toNat=x.toNat;rw [show (255:Int).toNat=2^8 - 1 by decide,this];obtain ⟨_,_⟩:=h;omega⟩
theorem G8.free:G8 ⟨0,0⟩:=⟨⟨by decide,by decide⟩,⟨by decide,by decide⟩,by decide⟩
theorem call0 {ver:Int} (h:by8 ver):iL pF ⟨0,[ver]⟩=0:=by
 show errO (fe (fun i=>match ([ver]:List Int)[i]?,([⟨[118,101,114,115,105,111,110],8⟩]:List Fld)[i]? with | some v,some f=>if fits v f.Yc then none else some 9 | _,_=>none) 1 0)=0;rw [fe_all.2 ?_]
 ·rfl
 ·intro i hi;have:i=0:=by omega
  subst this;simp [GT h]
theorem call2 {a b:Int} (ha:by8 a) (hb:by8 b):iL pF ⟨2,[a,b]⟩=0:=by
 show errO (fe (fun i=>match ([a,b]:List Int)[i]?,([⟨[112,111,114,116],8⟩,⟨[108,97,98,101,108],8⟩]:List Fld)[i]? with | some v,some f=>if fits v f.Yc then none else some 9 | _,_=>none) 2 0)=0;rw [fe_all.2 ?_]
 ·rfl
 ·intro i hi
  match i,hi with
  | 0,_=>simp [GT ha]
  | 1,_=>simp [GT hb]
theorem ent0 {port ver:Int} (hp:by8 port) (hv:by8 ver):entE pF 0 (r1F port ver).entry=0:=by
 refine It (tb:=tb0) (by kernel_rfl) rfl rfl (fun i hi=>?_) ?_
 ·have:i=0:=by simp [tb0] at hi;omega
  subst this;have hw:wid pF (-1) 0=8:=by kernel_rfl
  simp [entG,r1F,tb0,hw,keyK8 (G8.ex hp)]
 ·have ha:tAl pF 0 0=true:=by kernel_rfl
  simp [entF,r1F,ha,call0 hv]
def x2F (k0 k1 k2 k3 k4 k5:Xh) (pr a b:Int):Entry:=⟨[k0,k1,k2,k3,k4,k5],pr,⟨2,[a,b]⟩⟩
theorem ent2 {k0 k1 k2 k3 k4 k5:Xh} (h0:G8 k0) (h1:G8 k1) (h2:G8 k2) (h3:G8 k3) (h4:G8 k4) (h5:G8 k5) {pr a b:Int} (hp:pr=0\/pr=7) (ha:by8 a) (hb:by8 b):entE pF 2 (x2F k0 k1 k2 k3 k4 k5 pr a b)=0:=by
 refine It (tb:=tb2) (by kernel_rfl) rfl rfl (fun i hi=>?_) ?_
 ·have w0:wid pF (-1) 0=8:=by kernel_rfl
  have w1:wid pF 1 0=8:=by kernel_rfl
  have w2:wid pF 1 1=8:=by kernel_rfl
  have w3:wid pF 2 0=8:=by kernel_rfl
  have w4:wid pF 2 1=8:=by kernel_rfl
  have w5:wid pF 2 2=8:=by kernel_rfl
  have kk:∀{k:Xh},G8 k->keyK k 3 8=0:=fun g=>keyK8 g (fun h=>absurd h (by decide)) (by decide)
  simp [tb2] at hi
  match i,hi with
  | 0,_=>simp [entG,x2F,tb2,w0,kk h0]
  | 1,_=>simp [entG,x2F,tb2,w1,kk h1]
  | 2,_=>simp [entG,x2F,tb2,w2,kk h2]
  | 3,_=>simp [entG,x2F,tb2,w3,kk h3]
  | 4,_=>simp [entG,x2F,tb2,w4,kk h4]
  | 5,_=>simp [entG,x2F,tb2,w5,kk h5]
 ·have hal:tAl pF 2 2=true:=by kernel_rfl
  have hk:rH pF 2=3:=by kernel_rfl
  rcases hp with rfl | rfl
  ·simp [entF,x2F,hal,hk,call2 ha hb]
  ·simp [entF,x2F,hal,hk,call2 ha hb]
def c1F (port ver:Int):Xe:=insC (lU pF) 0 (r1F port ver).entry
def c2F (port ver:Int) (x:Entry):Xe:=insC (c1F port ver) 2 x
theorem cfg0:CfgV pF (lU pF):=(G3 _ _).1 (by kernel_rfl)
theorem ins0 {port ver:Int} (hp:by8 port) (hv:by8 ver):insE pF (lU pF) 0 (r1F port ver).entry=0:=by
 unfold insE;rw [QA (by decide),QA (by simp [ent0 hp hv])];rfl
theorem ins2 {port ver:Int} {x:Entry} (h:entE pF 2 x=0):insE pF (c1F port ver) 2 x=0:=by
 unfold insE;rw [QA (by decide),QA (by simp [h])];rfl
theorem cfg1 {port ver:Int} (hp:by8 port) (hv:by8 ver):CfgV pF (c1F port ver):=My cfg0 (ins0 hp hv)
theorem cfg2 {port ver:Int} {x:Entry} (hp:by8 port) (hv:by8 ver) (h:entE pF 2 x=0):CfgV pF (c2F port ver x):=My (cfg1 hp hv) (ins2 h)
theorem DS (port ver:Int) (x:Entry):(c2F port ver x).rows=[[r1F port ver],[],[⟨1,x⟩]]:=rfl
theorem dfl2 (port ver:Int) (x:Entry):(c2F port ver x).Xp=dF4:=rfl
def v6 (x:Int):Prop:=0<=x/\x<18446744073709551616
theorem Nl {v:Int} (h:v6 v):(BitVec.ofInt 64 v).toNat=v.toNat:=by
 obtain ⟨h1,h2⟩:=h;rw [BitVec.toNat_ofInt];have e:((2^64:Nat):Int)=18446744073709551616:=by decide
 rw [e];omega
theorem DP {a b:Int} (ha:v6 a) (hb:v6 b):iand .u64 a b=((a.toNat&&& b.toNat:Nat):Int):=by
  unfold iand;show IntKind.wrap .u64 ((BitVec.ofInt 64 a&&& BitVec.ofInt 64 b).toNat:Int)=_;have hlt:=(BitVec.ofInt 64 a&&& BitVec.ofInt 64 b).isLt;rw [D3 (by omega) (by have e:(2:Nat)^64=18446744073709551616:=(by decide);omega),E1,Nl ha,Nl hb]
def prt (n:Nat) (k:Nat):Nat:=n / 2^k % 256
theorem J7 (a b k:Nat):prt (a&&& b) k=prt a k&&& prt b k:=by
 unfold prt;rw [Nat.and_div_two_pow,show 256=2^8 by decide,Nat.and_mod_two_pow]
theorem Mc {x:Int} (h:v6 x) (k:Nat) (hk:k<64):iand .u32 (IntKind.wrap .u32 (ishr .u64 x k)) 255=(prt x.toNat k:Nat):=by
 obtain ⟨n,rfl⟩:=mP h.1;have hs:ishr .u64 (n:Int) k=((n / 2^k:Nat):Int):=by
  unfold ishr;rw [show min ((k:Int)).toNat (IntKind.bits .u64)=k by simp [IntKind.bits];omega];rw [K9 _ (uI (r9 (by decide)))];rw [Int.natCast_ediv,oG]
 rw [hs];have hw:IntKind.wrap .u32 ((n / 2^k:Nat):Int)=((n / 2^k % 4294967296:Nat):Int):=by
  have e1:(2:Int)^32=4294967296:=rfl;simp only [IntKind.wrap,IntKind.bits,IntKind.signed,AN,e1];rw [QA (by simp)];rfl
 rw [hw];have:=IE (v:=((n / 2^k % 4294967296:Nat):Int)) (k:=8) ⟨by omega,by omega⟩ (by decide);rw [show (2:Int)^8 - 1=255 by decide,show (2:Int)^8=256 by decide] at this;rw [this];unfold prt;simp only [qY];omega
theorem prt8 (n k:Nat):by8 (prt n k:Nat):=by
 unfold prt;constructor<;>omega
theorem xor0 {a b:Nat} (h:a^^^b=0):a=b:=by
 have:=congrArg (fun x=>x^^^b) h;simpa [Nat.xor_assoc] using this
theorem mts8 {k:Xh} (g:G8 k) {x:Int} (hx:by8 x):qJ k x↔x.toNat&&& k.Yd.toNat=k.value.toNat:=by
 have o:∀{y:Int},by8 y->ok32 0 y:=fun h=>⟨h.1,by have:=h.2;omega⟩
 have hx2:ok32 0 (ixor .u32 x k.value):=by
  have:=Cq (k:=8) (by decide) (show 0<=x/\x<2^8 from hx) (show 0<=k.value/\k.value<2^8 from g.v);exact ⟨this.1,by have:=this.2;omega⟩
 unfold qJ;rw [G7 hx2 (o g.m),Cr (o hx) (o g.v),qY,Nat.and_xor_distrib_right,g.s];constructor
 ·intro h;have h2:(x.toNat&&& k.Yd.toNat)^^^k.value.toNat=0:=by exact_mod_cast h
  exact xor0 h2
 ·intro h;rw [h,Nat.xor_self];rfl
theorem PH {s t u:Int} (hs:by8 s) (ht:by8 t) (hu:by8 u):prt (s*65536+t*256+u).toNat 16=s.toNat/\prt (s*65536+t*256+u).toNat 8=t.toNat/\prt (s*65536+t*256+u).toNat 0=u.toNat:=by
 obtain ⟨_,_⟩:=hs;obtain ⟨_,_⟩:=ht;obtain ⟨_,_⟩:=hu;unfold prt;simp;omega
theorem low24 (a b:Nat):a&&& 16777215=b&&& 16777215↔prt a 16=prt b 16/\prt a 8=prt b 8/\prt a 0=prt b 0:=by
 have e:=DT a 24;have f:=DT b 24;rw [show 2^24 - 1=16777215 by decide] at e f;rw [e,f];unfold prt;simp;omega
def keyF (V M k:Nat):Xh:=⟨(prt (V&&& M) k:Nat),(prt M k:Nat)⟩
theorem ag (a b:Nat):(a&&& b)&&& b=a&&& b:=by rw [Nat.and_assoc,Nat.and_self]
theorem D8 (V M k:Nat):G8 (keyF V M k):=⟨prt8 _ _,prt8 _ _,by
 simp only [keyF,qY,J7];exact ag _ _⟩
theorem PG {port ver s t u:Int} (hp:by8 port) (hv:by8 ver) (hs:by8 s) (ht:by8 t) (hu:by8 u) (V M:Nat) (a b:Int):
  mtF (x2F ⟨port,255⟩ ⟨ver,255⟩ ⟨0,255⟩ (keyF V M 16) (keyF V M 8) (keyF V M 0) 7 a b) [port,ver,0,s,t,u]=decide (((s*65536+t*256+u).toNat&&& M)&&& 16777215=(V&&& M)&&& 16777215):=by
 obtain ⟨e1,e2,e3⟩:=PH hs ht hu;have hself:∀x,qJ ⟨x,255⟩ x:=fun x=>by unfold qJ;rw [Jb,Mv]
 have k1:=mts8 (D8 V M 16) hs;have k2:=mts8 (D8 V M 8) ht;have k3:=mts8 (D8 V M 0) hu;simp only [keyF,qY] at k1 k2 k3;have hl:=low24 ((s*65536+t*256+u).toNat&&& M) (V&&& M);rw [J7 _ M 16,J7 _ M 8,J7 _ M 0,e1,e2,e3] at hl;simp only [mtF,x2F,mts,keyF];rw [a8 (hself _),a8 (hself _),a8 (hself _)];by_cases q1:s.toNat&&& prt M 16=prt (V&&& M) 16
 ·rw [a8 (k1.2 q1)];by_cases q2:t.toNat&&& prt M 8=prt (V&&& M) 8
  ·rw [a8 (k2.2 q2)];by_cases q3:u.toNat&&& prt M 0=prt (V&&& M) 0
   ·rw [a8 (k3.2 q3)];simp [hl.2 ⟨q1,q2,q3⟩]
   ·rw [QA (fun h=>q3 (k3.1 h))];have:¬((s*65536+t*256+u).toNat&&& M)&&& 16777215=(V&&& M)&&& 16777215:=fun h=>q3 (hl.1 h).2.2
    simp [this]
  ·rw [QA (fun h=>q2 (k2.1 h))];have:¬((s*65536+t*256+u).toNat&&& M)&&& 16777215=(V&&& M)&&& 16777215:=fun h=>q2 (hl.1 h).2.1
   simp [this]
 ·rw [QA (fun h=>q1 (k1.1 h))];have:¬((s*65536+t*256+u).toNat&&& M)&&& 16777215=(V&&& M)&&& 16777215:=fun h=>q1 (hl.1 h).1
  simp [this]
set_option maxRecDepth 4000
theorem wrapE (n:Int):IntKind.wrap .u32 n=n % 2^32:=by
 simp [IntKind.wrap,IntKind.bits,IntKind.signed]
theorem XC {k n:Nat} (h:k<=n):(2:Int)^k∣2^n:=⟨2^(n - k),by rw [<- Int.pow_add];congr 1;omega⟩
theorem Cd (n:Int) {k:Nat} (h:k<=32):IntKind.wrap .u32 n % 2^k=n % 2^k:=by
 rw [wrapE,Int.emod_emod_of_dvd _ (XC h)]
theorem Dw (n:Int):ok32 0 (IntKind.wrap .u32 n):=by
 rw [wrapE];exact ⟨Int.emod_nonneg _ (by decide),by have:=Int.emod_lt_of_pos n (show (0:Int)<2^32 by decide);omega⟩
theorem GC {w:Int} (h1:1<=w) (h2:w<=32):bF w=2^w.toNat - 1:=by
 have:wBad w=false:=by simp [wBad];omega
 simp [bF,this]
theorem oK {v w:Int} (hv:ok32 0 v) (h1:1<=w) (h2:w<=32):iand .u32 v (bF w)=v % 2^w.toNat:=by
 rw [GC h1 h2,IE hv (by omega)]
theorem U0 {v:Int} (hv:ok32 0 v):inot .u32 v=4294967295 - v:=by
 have h1:=hv.1;have h2:=hv.2;unfold inot;show IntKind.wrap .u32 ((BitVec.ofInt 32 (if IntKind.signed .u32=true then -1 else IntKind.max .u32)^^^BitVec.ofInt 32 v).toNat:Int)=_;have e:BitVec.ofInt 32 (if IntKind.signed .u32=true then -1 else IntKind.max .u32)=BitVec.allOnes 32:=by decide
 rw [e,BitVec.allOnes_xor,BitVec.toNat_not,C0 hv];rw [v7];omega
theorem RC {a b w:Int} (h1:1<=w) (h2:w<=32):a9 Φ 394 [.int .u32 a,.int .u32 b,.int .i64 w]=some (.val (.int .u32 ((a+b) % 2^w.toNat))):=by
 rw [aC rfl rfl];have h:=oK (Dw (a+b)) h1 h2;rw [Cd _ (by omega)] at h;simp [yV,jI,h]
theorem RJ {a b w:Int} (h1:1<=w) (h2:w<=32):a9 Φ 395 [.int .u32 a,.int .u32 b,.int .i64 w]=some (.val (.int .u32 ((a - b) % 2^w.toNat))):=by
 rw [aC rfl rfl];have h:=oK (Dw (a - b)) h1 h2;rw [Cd _ (by omega)] at h;simp [yW,jI,h]
theorem RF {a w:Int} (h:fitW a w):a9 Φ 390 [.int .u32 a,.int .i64 w]=some (.val (.int .u32 (2^w.toNat - 1 - a))):=by
 rw [aC rfl rfl];obtain ⟨h1,h2,h3⟩:=h;have ho:=mB h3 (show w.toNat<=32 by omega);have hn:ok32 0 (4294967295 - a):=⟨by have:=ho.2;omega,by have:=ho.1;omega⟩;have h:=oK hn h1 h2;have e:(4294967295 - a) % 2^w.toNat=2^w.toNat - 1 - a:=by
  have e1:(4294967296:Int)=2^w.toNat*2^(32 - w.toNat):=by
   rw [<- Int.pow_add,show w.toNat+(32 - w.toNat)=32 by omega];rfl
  have e2:4294967295 - a=(2^w.toNat - 1 - a)+2^w.toNat*(2^(32 - w.toNat) - 1):=by
   rw [Int.mul_sub,<- e1];omega
  rw [e2,Int.add_mul_emod_self_left];exact DZ (by omega) (by omega)
 rw [e] at h;simp [yR,jI,U0 ho,h]
theorem RG {a n w:Int} (h1:1<=w) (h2:w<=32) (h3:0<=n) (h4:n<=31):a9 Φ 391 [.int .u32 a,.int .i64 n,.int .i64 w]=some (.val (.int .u32 (a*2^n.toNat % 2^w.toNat))):=by
 rw [aC rfl rfl];have e:ishl .u32 a n=IntKind.wrap .u32 (a*2^n.toNat):=by
  unfold ishl;rw [show min n.toNat (IntKind.bits .u32)=n.toNat by simp [IntKind.bits];omega]
 have h:=oK (Dw (a*2^n.toNat)) h1 h2;rw [Cd _ (by omega)] at h;have hn:¬n<0:=by omega
 simp [yS,jI,hn,h3,e,h]
theorem Df {a n:Int} (ha:0<=a) (h3:0<=n) (h4:n<=32):ishr .u32 a n=a / 2^n.toNat:=by
 unfold ishr;rw [show min n.toNat (IntKind.bits .u32)=n.toNat by simp [IntKind.bits];omega];exact K9 _ (uI (r9 (by decide)))
theorem RH {a n w:Int} (h:fitW a w) (h3:0<=n) (h4:n<=31):a9 Φ 392 [.int .u32 a,.int .i64 n,.int .i64 w]=some (.val (.int .u32 (a / 2^n.toNat))):=by
 rw [aC rfl rfl];obtain ⟨h1,h2,h5⟩:=h;have ho:=mB h5 (show w.toNat<=32 by omega);have h:=oK ho h1 h2;rw [DZ h5.1 h5.2] at h;have hn:¬n<0:=by omega
 simp [yT,jI,hn,h3,h,Df h5.1 h3 (by omega)]
theorem aw (w:Int):a9 Φ 263 [.slice 1 [[.int .i64 w]]]=some (.val (.bool (!wBad w))):=by
 rw [aC rfl rfl];simp [mF];rw [cW];by_cases h1:w<1
 ·simp [aG,h1,wBad]
 by_cases h2:32<w
 ·simp [aG,h1,h2,wBad]
 have w1:IntKind.wrap .i64 1=1:=rfl;simp [aG,h1,h2,wBad,w1];rw [cW];simp [aG,dO]
theorem az (w u:Int):a9 Φ 263 [.slice 1 [[.int .i64 w],[.int .i64 u]]]=some (.val (.bool (!wBad w&& !wBad u))):=by
 rw [aC rfl rfl];have w1:IntKind.wrap .i64 1=1:=rfl;have w2:IntKind.wrap .i64 2=2:=rfl;simp [mF];rw [cW];by_cases h1:w<1
 ·simp [aG,h1,wBad]
 by_cases h2:32<w
 ·simp [aG,h1,h2,wBad]
 simp [aG,h1,h2,wBad,w1];rw [cW];by_cases h3:u<1
 ·simp [aG,h3,wBad]
 by_cases h4:32<u
 ·simp [aG,h3,h4,wBad]
 simp [aG,h3,h4,wBad,w2];rw [cW];simp [aG,dO]
theorem M0 {a n u:Int} (ha:ok32 0 a) (h1:1<=u) (h2:u<=32) (h3:0<=n) (h4:n+u<=32):a9 Φ 393 [.int .u32 a,.int .i64 n,.int .i64 u]=some (.val (.int .u32 (a / 2^n.toNat % 2^u.toNat))):=by
 rw [aC rfl rfl];have hb:wBad u=false:=by simp [wBad];omega
 have hv:=aw u;rw [hb] at hv;have hd:=Do (k:=32) (a:=a) ⟨ha.1,by have:=ha.2;omega⟩ n.toNat;have h:=oK (mB hd (Qb _)) h1 h2;have hn:¬n<0:=by omega
 have hw:IntKind.wrap .i64 (32 - u)=32 - u:=cU;have hg:¬32 - u<n:=by omega
 simp [yU,jI,hv,hn,h3,hw,hg,h,Df ha.1 h3 (by omega)]
theorem RD {a w b u:Int} (ha:fitW a w) (hb:fitW b u) (h:w+u<=32):a9 Φ 396 [.int .u32 a,.int .i64 w,.int .u32 b,.int .i64 u]=some (.val (.tup [.int .u32 (a*2^u.toNat+b),.bool true])):=by
 rw [aC rfl rfl];obtain ⟨w1,w2,a1⟩:=ha;obtain ⟨u1,u2,b1⟩:=hb;have q1:wBad w=false:=by simp [wBad];omega
 have q2:wBad u=false:=by simp [wBad];omega
 have hv:=az w u;rw [q1,q2] at hv;have ha:=oK (mB a1 (show w.toNat<=32 by omega)) w1 w2;have hb:=oK (mB b1 (show u.toNat<=32 by omega)) u1 u2;rw [DZ a1.1 a1.2] at ha;rw [DZ b1.1 b1.2] at hb;have hc:=Ls a1 b1;rw [<- show (w+u).toNat=w.toNat+u.toNat by omega] at hc;have hc2:=mB hc (show (w+u).toNat<=32 by omega);have hs:ishl .u32 a u=a*2^u.toNat:=by
  unfold ishl;rw [show min u.toNat (IntKind.bits .u32)=u.toNat by simp [IntKind.bits];omega];have:=Int.mul_nonneg a1.1 (uI ((r9 (by decide):(0:Int)<2^u.toNat)));exact v7 this (by have:=hc2.2;omega)
 have ho:ior .u32 (a*2^u.toNat) b=a*2^u.toNat+b:=by
  have hm:=Int.mul_nonneg a1.1 (uI ((r9 (by decide):(0:Int)<2^u.toNat)));rw [De ⟨hm,by have:=hc2.2;omega⟩ (mB b1 (by omega))];have e1:(a*2^u.toNat).toNat=2^u.toNat*a.toNat:=by
   have e:a*2^u.toNat=((2^u.toNat*a.toNat:Nat):Int):=by
    rw [Int.natCast_mul,oG,H8 a1.1,Int.mul_comm]
   rw [e,qY]
  rw [e1,<- Nat.two_pow_add_eq_or_of_lt ((CW b1.1).1 b1.2)];rw [Int.natCast_add,Int.natCast_mul,oG,H8 a1.1,H8 b1.1,Int.mul_comm]
 have hw:IntKind.wrap .i64 (w+u)=w+u:=cU;have hg:¬32<w+u:=by omega
 have hu:0<=u:=by omega
 simp [yX,jI,hv,hw,hg,ha,hb,hs,ho,hu]
theorem lS {α:Type} {l:List α} {i:Int} {x:α} (h:at? l i=some x):∃k:Nat,i=k/\∃hk:k<l.length,l[k]=x:=by
 unfold at? at h;split at h
 ·cases h
 ·obtain ⟨hk,e⟩:=Qm.1 h;exact ⟨i.toNat,by omega,hk,e⟩
structure EV (p:Prg) (e:Envt):Prop extends Shp p e where
 fm:∀(i:Nat) (v:Int),e.metaF[i]? =some v->0<=v/\v<2^(wid p (-1) i).toNat
 ff:∀(h i:Nat) (l:List Int) (v:Int),e.Xz[h]? =some l->l[i]? =some v->0<=v/\v<2^(wid p h i).toNat
 z:∀(h:Nat) (l:List Int),e.valid[h]? =some false->e.Xz[h]? =some l->∀v∈l,v=0
theorem CY (n:Nat):(0:Int)<2^n:=r9 (by decide)
theorem Ni (v:Int) (n:Nat):0<=v % 2^n/\v % 2^n<2^n:=⟨Int.emod_nonneg _ (Int.ne_of_gt (CY n)),Int.emod_lt_of_pos _ (CY n)⟩
theorem Shp.put {p:Prg} {e:Envt} (s:Shp p e) (h f v:Int):Shp p (ePut h f v e):=by
 unfold ePut;split
 ·exact ⟨s.v,s.f,by simp [s.m],s.g⟩
 ·refine ⟨s.v,by simp [s.f],s.m,fun i h1 h2=>?_⟩;have h1':i<e.Xz.length:=by simpa using h1
  have:=s.g i h1' h2;simp only [List.getElem_set];split
  ·rename_i q;subst q;simp [tE,h1',this]
  ·exact this
theorem EV.put {p:Prg} {e:Envt} (s:EV p e) {h f v:Int} (hs:eHas e h f=true) (hv:0<=v/\v<2^(wid p h f).toNat):EV p (ePut h f v e):=by
 refine ⟨s.toShp.put h f v,?_,?_,?_⟩
 ·unfold ePut;split
  ·rename_i q;subst q;simp only [eHas,if_true] at hs;obtain ⟨x,hx⟩:=tG.1 hs;obtain ⟨k,rfl,hk,rfl⟩:=lS hx;intro i v' hi;simp only [qY,List.getElem?_set] at hi;split at hi
   ·rename_i q;subst q;simp [hk] at hi;rw [<- hi];exact hv
   ·exact s.fm i v' hi
  ·exact s.fm
 ·unfold ePut;split
  ·exact s.ff
  ·rename_i q;simp only [eHas,QA q,bE] at hs;obtain ⟨x,hx⟩:=tG.1 hs.2;obtain ⟨l,hx1,hx2⟩:=Qt.1 hx;obtain ⟨m,rfl,hm,rfl⟩:=lS hx1;obtain ⟨k,rfl,hk,rfl⟩:=lS hx2;intro h' i l' v' hl hi;simp only [qY,List.getElem?_set] at hl;split at hl
   ·rename_i q2;subst q2;simp [hm,tE] at hl;subst hl;simp only [List.getElem?_set] at hi;split at hi
    ·rename_i q3;subst q3;simp [hk] at hi;rw [<- hi];exact hv
    ·exact s.ff m i _ v' (Qa hm) hi
   ·exact s.ff h' i l' v' hl hi
 ·unfold ePut;split
  ·exact s.z
  ·rename_i q;simp only [eHas,QA q,bE] at hs;intro h' l' hv' hl;simp only [List.getElem?_set] at hl;split at hl
   ·rename_i q2;subst q2;have h1:=hs.1;obtain ⟨x,hx⟩:=tG.1 hs.2;obtain ⟨l,hx1,hx2⟩:=Qt.1 hx;obtain ⟨m,rfl,hm,rfl⟩:=lS hx1;simp at hv';simp [hv'] at h1
   ·exact s.z h' l' hv' hl
theorem EV.set {p:Prg} {e:Envt} (s:EV p e) (h f v:Int):EV p (eSet p e h f v):=by
 unfold eSet;split
 ·exact s
 ·rename_i q;simp only [not_or,Bool.not_eq_false] at q;exact s.put q.2 (Ni v _)
theorem EV.sw {p:Prg} {e:Envt} (s:EV p e) (h:Nat) (b:Bool):EV p (eSw e h b):=by
 refine ⟨⟨by simp [eSw,s.v],by simp [eSw,s.f],s.m,fun i h1 h2=>?_⟩,s.fm,?_,?_⟩
 ·have h1':i<e.Xz.length:=by simpa [eSw] using h1
  have:=s.g i h1' h2;simp only [eSw,List.getElem_set];split
  ·rename_i q;subst q;simp [tE,h1',this]
  ·exact this
 ·intro h' i l' v' hl hi;simp only [eSw,List.getElem?_set] at hl;split at hl
  ·split at hl
   ·cases hl;rw [List.getElem?_map] at hi;obtain ⟨x,_,rfl⟩:=Qs.1 hi;exact ⟨Int.le_refl _,CY _⟩
   ·cases hl
  ·exact s.ff h' i l' v' hl hi
 ·intro h' l' hv' hl;simp only [eSw,List.getElem?_set] at hl hv';split at hl
  ·split at hl
   ·cases hl;intro v hv;obtain ⟨x,_,rfl⟩:=iN.1 hv;rfl
   ·cases hl
  ·rename_i q;rw [QA q] at hv';exact s.z h' l' hv' hl
theorem EV.add {p:Prg} {e:Envt} (s:EV p e) (h:Int):EV p (eAdd p e h):=by
 unfold eAdd;split
 ·exact s.sw _ _
 ·exact s
theorem EV.rem {p:Prg} {e:Envt} (s:EV p e) (h:Int):EV p (eRem p e h):=by
 unfold eRem;split
 ·exact s.sw _ _
 ·exact s
theorem EV.new (p:Prg):EV p (eNew p):=by
 refine ⟨⟨by simp [eNew],by simp [eNew],by simp [eNew],fun i h1 h2=>by simp [eNew]⟩,?_,?_,?_⟩
 ·intro i v hi;simp only [eNew,List.getElem?_map] at hi;obtain ⟨x,_,rfl⟩:=Qs.1 hi;exact ⟨Int.le_refl _,CY _⟩
 ·intro h i l v hl hi;simp only [eNew,List.getElem?_map] at hl;obtain ⟨x,_,rfl⟩:=Qs.1 hl;rw [List.getElem?_map] at hi;obtain ⟨x,_,rfl⟩:=Qs.1 hi;exact ⟨Int.le_refl _,CY _⟩
 ·intro h l _ hl v hv;simp only [eNew,List.getElem?_map] at hl;obtain ⟨x,_,rfl⟩:=Qs.1 hl;obtain ⟨x,_,rfl⟩:=iN.1 hv;rfl
theorem Kf (d:List Int) (k:Nat):0<=nI d k/\nI d k<=1:=by
 unfold nI;omega
theorem Ds (d:List Int) (i:Nat):∀w,0<=rdN d i w/\rdN d i w<2^w
 | 0=>by simp [rdN]
 | w+1=>by
  have ih:=Ds d i w;have hb:=Kf d (i+w);simp only [rdN,Int.pow_succ];omega
theorem Dr (d:List Int):∀(l:List Fld) (i:Nat),(rdF d i l).length=l.length
 | [],_=>rfl
 | f::r,i=>by simp [rdF,Dr d r]
theorem Mi (d:List Int):∀(l:List Fld) (i k:Nat) (v:Int),(rdF d i l)[k]? =some v->∃f,l[k]? =some f/\0<=v/\v<2^f.Yc.toNat
 | [],_,k,v,h=>by simp [rdF] at h
 | f::r,i,0,v,h=>by
  simp only [rdF,List.getElem?_cons_zero,Option.some.injEq] at h;subst h;exact ⟨f,rfl,Ds d i _⟩
 | f::r,i,k+1,v,h=>by
  simp only [rdF,List.getElem?_cons_succ] at h ⊢;exact Mi d r _ k v h
theorem Nz {p:Prg} {h i:Nat} {g:Xi} {f:Fld} (hg:p.Xo[h]? =some g) (hf:g.Xz[i]? =some f) (hw:1<=f.Yc/\f.Yc<=32):wid p h i=f.Yc:=by
 have q:¬((h:Int)= -1):=by omega
 have w0:wBad f.Yc=false:=by simp [wBad];omega
 simp [wid,decl,q,hg,hf,w0]
theorem EV.exH {p:Prg} (hw:∀g∈p.Xo,∀f∈g.Xz,1<=f.Yc/\f.Yc<=32) {d:List Int} {x y:Envt×Nat} {h:Int} (s:EV p x.1) (hx:exH p d x h=some y):EV p y.1:=by
 unfold Go.Av.exH at hx;split at hx
 ·cases hx
 rename_i g hg;split at hx
 ·cases hx
 cases hx;obtain ⟨m,rfl,hm,rfl⟩:=lS hg;refine ⟨⟨by simp [s.v],by simp [s.f],s.m,fun i h1 h2=>?_⟩,s.fm,?_,?_⟩
 ·have h1':i<x.1.Xz.length:=by simpa using h1
  have:=s.g i h1' h2;simp only [List.getElem_set,qY];split
  ·rename_i q;subst q;rw [Dr]
  ·exact this
 ·intro h' i l' v' hl hi;simp only [List.getElem?_set,qY] at hl;split at hl
  ·rename_i q;subst q;split at hl
   ·cases hl;obtain ⟨f,hf,k1,k2⟩:=Mi _ _ _ _ _ hi;rw [Nz (Qa hm) hf (hw _ (Qd hm) _ (Qe hf))];exact ⟨k1,k2⟩
   ·cases hl
  ·exact s.ff h' i l' v' hl hi
 ·intro h' l' hv' hl;simp only [List.getElem?_set,qY] at hl hv';split at hl
  ·rename_i q;subst q;rw [a8 rfl] at hv';split at hv'<;>simp at hv'
  ·rename_i q;rw [QA q] at hv';exact s.z h' l' hv' hl
theorem EV.exHs {p:Prg} (hw:∀g∈p.Xo,∀f∈g.Xz,1<=f.Yc/\f.Yc<=32) {d:List Int}:∀(l:List Int) {x y:Envt×Nat},EV p x.1->exHs p d l x=some y->EV p y.1
 | [],x,y,s,h=>by cases h;exact s
 | a::l,x,y,s,h=>by
  obtain ⟨u,h1,h2⟩:=Qt.1 h;exact EV.exHs hw l (EV.exH hw s h1) h2
theorem EV.pay {p:Prg} {e:Envt} (s:EV p e) (l:List Int):EV p { e with payload:=l }:=⟨⟨s.v,s.f,s.m,s.g⟩,s.fm,s.ff,s.z⟩
theorem FC {p:Prg} (hw:∀g∈p.Xo,∀f∈g.Xz,1<=f.Yc/\f.Yc<=32) {d:List Int}:∀(n:Nat) (s:Int) {x:Envt×Nat} {e:Envt},EV p x.1->prF p d n s x=some e->EV p e/\∃k,e.payload=d.drop k
 | 0,s,x,e,_,h=>by cases h
 | n+1,s,x,e,v,h=>by
  simp only [prF] at h;split at h
  ·cases h;exact ⟨v.pay _,_,rfl⟩
  ·split at h
   ·cases h
   ·obtain ⟨u,h1,h2⟩:=Qt.1 h;exact FC hw n _ (v.exHs hw _ h1) h2
theorem FD {p:Prg} (hw:∀g∈p.Xo,∀f∈g.Xz,1<=f.Yc/\f.Yc<=32) {d:List Int} {e:Envt} (h:prs p d=some e):EV p e/\d.length<=512/\∃k,e.payload=d.drop k:=by
 unfold prs at h;split at h
 ·cases h
 ·obtain ⟨h1,h2⟩:=FC hw _ _ (EV.new p) h;exact ⟨h1,by omega,h2⟩
theorem Envt.ce (e:Envt):e.c=[.slice 1 (e.valid.map cB),.slice 1 (e.Xz.map (cS 1 c32)),.slice 1 (e.metaF.map c32),.slice 1 (e.payload.map c8)]:=rfl
theorem En (l:List (List AV)) (i:Int):a9 Φ 275 [.slice 1 l,.int .i64 i]=some (.val (.bool (decide (0<=i/\i<l.length)))):=by
 rw [aC rfl rfl];by_cases h:0<=i
 ·obtain ⟨k,rfl⟩:=mP h;by_cases h2:k<l.length<;>simp [sD,h2]
 ·simp [sD,h]
theorem W6 (l:List (List AV)) (i:Int):a9 Φ 405 [.slice 1 l,.int .i64 i]=some (.val (.bool (decide (0<=i/\i<l.length)))):=by
 rw [aC rfl rfl];by_cases h:0<=i
 ·obtain ⟨k,rfl⟩:=mP h;by_cases h2:k<l.length<;>simp [sP,h2]
 ·simp [sP,h]
theorem W7 (l:List (List AV)) (i:Int):a9 Φ 404 [.slice 2 l,.int .i64 i]=some (.val (.bool (decide (0<=i/\i<l.length)))):=by
 rw [aC rfl rfl];by_cases h:0<=i
 ·obtain ⟨k,rfl⟩:=mP h;by_cases h2:k<l.length<;>simp [sO,h2]
 ·simp [sO,h]
theorem CM {α:Type} (l:List α) (i:Int):(at? l i).isSome=decide (0<=i/\i<l.length):=by
 by_cases h0:i<0
 ·have:¬0<=i:=by omega
  simp [iC h0,this]
 by_cases h1:(l.length:Int)<=i
 ·have:¬i<l.length:=by omega
  simp [iK h1,this]
 obtain ⟨m,rfl⟩:=mP (show 0<=i by omega);have hm:m<l.length:=by omega
 simp [hm]
theorem EN (l:List Bool) (i:Int):a9 Φ 277 [.slice 1 (l.map cB),.int .i64 i]=some (.val (.bool ((at? l i).getD false))):=by
 rw [aC rfl rfl];by_cases h0:i<0
 ·simp [pO,h0,iC h0]
 by_cases h1:(l.length:Int)<=i
 ·simp [pO,h0,h1,iK h1]
 obtain ⟨m,rfl⟩:=mP (show 0<=i by omega);have hm:m<l.length:=by omega
 have hm2:¬l.length<=m:=by omega
 simp [pO,hm,hm2,cB]
theorem rD (a b:AV) (h:AH):aD Φ 276 [a,b] h=go Φ (finC bO.results) [.c bO.body] .normal ⟨iE 0 [a,b],h⟩:=cP rfl rfl
def elL (e:Envt) (h:Int):List Int:=if h= -1 then e.metaF else (at? e.Xz h).getD []
theorem TE (e:Envt) (h f:Int):a9 Φ 173 [.agg (Envt.c e),.agg [.int .i64 h,.int .i64 f]]=some (.val (.tup [.slice 1 ((elL e h).map c32),.bool (eHas e h f)])):=by
 rw [aC rfl rfl];have hi:=En;by_cases hm:h= -1
 ·subst hm;simp [dI,Envt.ce,hi,elL,eHas,CM]
 have hv:=EN e.valid h;by_cases h0:h<0
 ·rw [iC h0] at hv;simp [dI,Envt.ce,hm,elL,eHas,rD,bO,h0,iC h0,hv]
 by_cases h1:(e.Xz.length:Int)<=h
 ·simp [dI,Envt.ce,hm,elL,eHas,rD,bO,h0,h1,iK h1,hv];cases (at? e.valid h).getD false<;>simp [hi]
 obtain ⟨m,rfl⟩:=mP (show 0<=h by omega);have hmk:m<e.Xz.length:=by omega
 have hm2:¬e.Xz.length<=m:=by omega
 cases q:(at? e.valid (m:Int)).getD false<;>rw [q] at hv<;>(try simp at q)<;>simp [dI,Envt.ce,elL,eHas,hm,rD,bO,hm2,hmk,cS,hv,hi,CM,q]
theorem JH (e:Envt) (h f:Int):a9 Φ 279 [.agg (Envt.c e),.agg [.int .i64 h,.int .i64 f]]=some (.val (.int .u32 (eGet e h f))):=by
 rw [aC rfl rfl];have h1:=TE e h f;rw [Envt.ce] at h1;cases q:eHas e h f with
 | false=>
  rw [q] at h1;have:eGet e h f=0:=by
   unfold eGet eHas at*;split
   ·rename_i hm;rw [a8 hm] at q;cases z:at? e.metaF f with
    | none=>rfl
    | some v=>rw [z] at q;cases q
   ·rename_i hm;rw [QA hm] at q;split
    ·rename_i hv;rw [hv,CH] at q;cases z:(at? e.Xz h).bind fun l=>at? l f with
     | none=>rfl
     | some v=>rw [z] at q;cases q
    ·rfl
  simp [sE,Envt.ce,h1,this]
 | true=>
  rw [q] at h1;have:∃k:Nat,f=k/\∃hk:k<(elL e h).length,(elL e h)[k]=eGet e h f:=by
   unfold eGet eHas elL at*;split
   ·rename_i hm;rw [a8 hm] at q;obtain ⟨v,hv⟩:=tG.1 q;obtain ⟨k,rfl,hk,rfl⟩:=lS hv;exact ⟨k,rfl,hk,by simp [hv]⟩
   ·rename_i hm;rw [QA hm] at q;simp only [bE] at q;rw [a8 q.1];obtain ⟨v,hv⟩:=tG.1 q.2;obtain ⟨l,h2,h3⟩:=Qt.1 hv;obtain ⟨k,rfl,hk,rfl⟩:=lS h3;exact ⟨k,rfl,by simp [h2,hk],by simp [h2,hk]⟩
  obtain ⟨k,rfl,hk,he⟩:=this;simp [sE,Envt.ce,h1,hk,he,c32]
theorem Lw {p:Prg} {e:Envt} (v:EV p e) (hw:∀h f,wid p h f<=32) (h f:Int):ok32 0 (eGet e h f):=by
 unfold eGet;split
 ·cases z:at? e.metaF f with
  | none=>simp [ok32]
  | some x=>
   obtain ⟨k,rfl,hk,rfl⟩:=lS z;have:=v.fm k _ (Qa hk);have hw:=hw (-1) k;exact mB this (by omega)
 ·split
  ·cases z:(at? e.Xz h).bind fun l=>at? l f with
   | none=>simp [ok32]
   | some x=>
    obtain ⟨l,h2,h3⟩:=Qt.1 z;obtain ⟨m,rfl,hm,rfl⟩:=lS h2;obtain ⟨k,rfl,hk,rfl⟩:=lS h3;have:=v.ff m k _ _ (Qa hm) (Qa hk);have hw:=hw m k;exact mB this (by omega)
  ·simp [ok32]
theorem JP (p:Prg) (h f:Int):0<=wid p h f/\wid p h f<=32:=by
 unfold wid;split
 ·split
  ·simp
  ·rename_i w _ q;have:=uZ (by simpa using q);omega
 ·simp
set_option maxRecDepth 6000
theorem un_ok (x:Xd) (hx:ari x.op=1) (a w:Int) (ha:fitW a w) (hc:(comb x w 0 0).2=0):a9 Φ 360 [.agg (Xd.c x),.agg [.int .u32 a,.int .i64 w]]=some (.val (.agg [.int .u32 (xUn x a w),.int .i64 (comb x w 0 0).1])):=by
 rw [aC rfl rfl];obtain ⟨op,n,u⟩:=x;have hf:=ha;obtain ⟨w1,w2,a1⟩:=ha;rcases Lz hx with o | o | o | o<;>simp only at o<;>subst o
 ·have e:comb ⟨5,n,u⟩ w 0 0=(w,0):=by simp [comb,ari]
  simp [nZ,Xd.e,RF hf,xUn,e]
 ·have e:(0<=n/\n<=31)/\(comb ⟨6,n,u⟩ w 0 0).1=w:=by
   unfold comb at*;rw [a8 (by simp)] at hc ⊢;split
   ·rename_i c;rw [a8 c] at hc;cases hc
   ·exact ⟨by simp only at*;omega,rfl⟩
  simp [nZ,Xd.e,RG w1 w2 e.1.1 e.1.2,xUn,e.2]
 ·have e:(0<=n/\n<=31)/\(comb ⟨7,n,u⟩ w 0 0).1=w:=by
   unfold comb at*;rw [a8 (by simp)] at hc ⊢;split
   ·rename_i c;rw [a8 c] at hc;cases hc
   ·exact ⟨by simp only at*;omega,rfl⟩
  simp [nZ,Xd.e,RH hf e.1.1 e.1.2,xUn,e.2]
 ·have e:(0<=n/\n+u<=32/\1<=u/\u<=32)/\(comb ⟨8,n,u⟩ w 0 0).1=u:=by
   unfold comb at*;rw [QA (by simp),a8 rfl] at hc ⊢;split
   ·rename_i c;rw [a8 c] at hc;cases hc
   rename_i c;rw [QA c] at hc;split
   ·rename_i c;rw [a8 c] at hc;cases hc
   ·rename_i c2;simp only [not_or,AM] at c c2;have:=uZ c2.1;exact ⟨by omega,rfl⟩
  simp [nZ,Xd.e,M0 (mB a1 (by omega)) e.1.2.2.1 e.1.2.2.2 e.1.1 e.1.2.1,xUn,e.2]
theorem Lk (b:Bool):a9 Φ 397 [.bool b]=some (.val (.agg [.int .u32 (if b then 1 else 0),.int .i64 1])):=by
 rw [aC rfl rfl];cases b<;>simp [yY]
theorem VL (x:Xd) (hx:ari x.op=2) (a b w u:Int) (ha:fitW a w) (hb:fitW b u) (hc:(comb x w u 0).2=0):a9 Φ 361 [.int .i64 x.op,.agg [.int .u32 a,.int .i64 w],.agg [.int .u32 b,.int .i64 u]]=some (.val (.agg [.int .u32 (xBin x.op a b w u),.int .i64 (comb x w u 0).1])):=by
 rw [aC rfl rfl];obtain ⟨op,n,z⟩:=x;have o:=Ma hx;obtain ⟨w1,w2,a1⟩:=id ha;simp only at o;by_cases o14:op=14
 ·subst o14;have e:(comb ⟨14,n,z⟩ w u 0).1=w+u/\1<=w+u/\w+u<=32:=by
   unfold comb at*;rw [QA (by simp),QA (by simp),a8 rfl] at hc ⊢;exact DJ hc
  have hw:IntKind.wrap .i64 (w+u)=w+u:=cU;simp [gJ,RD ha hb e.2.2,xBin,e.1,hw]
 have e:w=u/\(comb ⟨op,n,z⟩ w u 0).1=if op=15\/op=16 then 1 else w:=by
  unfold comb at*;rw [QA (by simp;omega),QA (by simp;omega),QA o14,QA (by simp;omega)] at hc ⊢;split
  ·rename_i c;rw [a8 c] at hc;cases hc
  ·rename_i c;refine ⟨Decidable.byContradiction fun q=>c ⟨hx,q⟩,?_⟩;simp only;split<;>rfl
 obtain ⟨rfl,e⟩:=e;rw [e];have t1:=Lk (decide (a=b));have t2:=Lk (decide (a<b));have:op=9\/op=10\/op=11\/op=12\/op=13\/op=15\/op=16:=by omega
 rcases this with rfl | rfl | rfl | rfl | rfl | rfl | rfl
 ·simp [gJ,RC w1 w2,xBin]
 ·simp [gJ,RJ w1 w2,xBin]
 ·simp [gJ,xBin]
 ·simp [gJ,xBin]
 ·simp [gJ,xBin]
 ·simp at t1;simp [gJ,xBin,t1]
 ·simp at t2;simp [gJ,xBin,t2]
def mchC (p:Prg) (ps:List Fld) (e:Envt) (args:List Int) (l:List Xd) (i:Int):List AV:=
 Prg.c p++[.slice 2 (ps.map Fld.c)]++e.c++[.slice 1 (args.map c32),.slice 3 (l.map Xd.c),.int .i64 i]
theorem tA (p:Prg) (ps:List Fld) (e:Envt) (args:List Int) (l:List Xd) (i:Int):mchC p ps e args l i=(nC p [.slice 2 (ps.map Fld.c),.slice 1 (e.valid.map cB),.slice 1 (e.Xz.map (cS 1 c32)),.slice 1 (e.metaF.map c32),.slice 1 (e.payload.map c8),.slice 1 (args.map c32),.slice 3 (l.map Xd.c),.int .i64 i]):=by
  simp [mchC,Prg.e,Envt.ce]
theorem ld_ok (p:Prg) (ps:List Fld) (e:Envt) (args:List Int) (l:List Xd) (i:Int) (x:Xd) (hx:ari x.op=0) (hc:(prim p ps x).2=0) (hg:∀h f,ok32 0 (eGet e h f)) (ha:∀v∈args,ok32 0 v):
  a9 Φ 359 [.iptr 17 [mchC p ps e args l i] 0 0,.agg (Xd.c x)]=some (.val (.agg [.int .u32 (xLd e args x (prim p ps x).1),.int .i64 (prim p ps x).1])):=by
 rw [aC rfl rfl];have hp:=Gv p ps x;have hw:=Ep hc;simp only [scC,Prg.e,mD,pA] at hp;rw [hc] at hp;obtain ⟨op,n,z⟩:=x;have ho:op=1\/op=2\/op=3\/op=4:=by
  simp only [ari] at hx;split at hx
  ·omega
  split at hx
  ·cases hx
  split at hx
  ·cases hx
  split at hx<;>cases hx
 simp only [Xd.e] at hp;have hz:ok32 0 0:=by simp [ok32]
 rcases ho with rfl | rfl | rfl | rfl
 ·have e:prim p ps ⟨1,n,z⟩=(z,0)/\0<=n/\n<2^z.toNat:=by
   simp only [prim,if_true] at hc ⊢;split
   ·rename_i c;rw [a8 c] at hc;cases hc
   rename_i c;rw [QA c] at hc;split
   ·rename_i c;rw [a8 c] at hc;cases hc
   ·exact ⟨rfl,by omega,by omega⟩
  obtain ⟨e,n0,n1⟩:=e;rw [e] at hp hw ⊢;have hn:ok32 0 n:=mB (k:=z.toNat) ⟨n0,n1⟩ (by simp only at hw;omega);have hi:=oK hn hw.1 hw.2;have hwr:IntKind.wrap .u32 n=n:=v7 hn.1 (by have:=hn.2;omega);simp at hp;simp [l9,tA,Xd.e,hp,jI,hwr,hi,xLd]
 ·have pe:prim p ps ⟨2,n,z⟩=match decl p n z with | some w=>wide w | none=>(0,8):=by simp [prim];rfl
  have e:∃w,prim p ps ⟨2,n,z⟩=(w,0):=by
   rw [pe] at hc ⊢;split
   ·rename_i w q;rw [q] at hc;exact ⟨w,Prod.ext (DJ hc).1 hc⟩
   ·rename_i q;rw [q] at hc;cases hc
  obtain ⟨w,e2⟩:=e;rw [e2] at hp hw ⊢;have hi:=oK (hg n z) hw.1 hw.2;have h2:=JH e n z;rw [Envt.ce] at h2;simp only at hp;simp [l9,tA,Xd.e,hp,jI,h2,hi,xLd]
 ·have pe:prim p ps ⟨3,n,z⟩=match at? ps n with | some f=>wide f.Yc | none=>(0,8):=by simp [prim];rfl
  have e:∃w,0<=n/\prim p ps ⟨3,n,z⟩=(w,0):=by
   rw [pe] at hc ⊢;split
   ·rename_i w q;rw [q] at hc;obtain ⟨k,rfl,_⟩:=lS q;exact ⟨_,by omega,Prod.ext (DJ hc).1 hc⟩
   ·rename_i q;rw [q] at hc;cases hc
  obtain ⟨w,n0,e2⟩:=e;rw [e2] at hp hw ⊢;obtain ⟨k,rfl⟩:=mP n0;simp only at hp;by_cases hk:k<args.length
  ·have hi:=oK (ha _ (Qd hk)) hw.1 hw.2;simp [l9,tA,Xd.e,hp,jI,hk,hi,xLd,c32]
  ·have hi:=oK hz hw.1 hw.2;simp [l9,tA,Xd.e,hp,jI,hk,hi,xLd]
 ·have pe:prim p ps ⟨4,n,z⟩=if (at? p.Xo n).isSome then (1,0) else (0,8):=by simp [prim]
  have e:0<=n/\prim p ps ⟨4,n,z⟩=(1,0):=by
   rw [pe] at hc ⊢;split
   ·rename_i q;rw [CM] at q;simp only [decide_eq_true_eq] at q;exact ⟨q.1,rfl⟩
   ·rename_i q;rw [QA q] at hc;cases hc
  obtain ⟨n0,e2⟩:=e;rw [e2] at hp hw ⊢;obtain ⟨k,rfl⟩:=mP n0;have h1:ok32 0 1:=by simp [ok32]
  have hi0:=oK hz (w:=1) (by decide) (by decide);have hi1:=oK h1 (w:=1) (by decide) (by decide);simp only at hp;by_cases hk:k<e.valid.length
  ·cases q:e.valid[k]<;>simp [l9,tA,Xd.e,hp,jI,hk,q,hi0,hi1,xLd,cB]
  ·simp [l9,tA,Xd.e,hp,jI,hk,hi0,xLd]
theorem oE (a b:List (Nat×AO)):bW (a++b)=bW a++bW b:=by
 induction a with
 | nil=>simp
 | cons x a ih=>
  obtain ⟨u,w⟩:=x;cases w<;>simp [ih]
def NR (O:List (Nat×AO)):Prop:=bW O=O
theorem NR.app {a b:List (Nat×AO)} (h:NR a) (h2:NR b):NR (a++b):=by
 unfold NR at*;rw [oE,h,h2]
theorem A1:NR []:=rfl
theorem bV {u:Nat} {x:AO} {r:List (Nat×AO)} (hx:x≠ .res) (h:NR r):NR ((u,x)::r):=by
 unfold NR at*;cases x<;>simp_all
theorem NR.one {u:Nat} {x:AO} (hx:x≠ .res):NR [(u,x)]:=bV hx A1
theorem EJ {u:Nat} {x:AO} {r:List (Nat×AO)} (h:NR ((u,x)::r)):x≠ .res/\NR r:=by
 have hl:∀l:List (Nat×AO),(bW l).length<=l.length:=by
  intro l
  induction l with
  | nil=>simp
  | cons a l ih=>
   obtain ⟨v,y⟩:=a;cases y<;>simp<;>omega
 unfold NR at*;cases x with
 | res=>
  have:=hl r;rw [LS] at h;rw [h] at this;simp at this;omega
 | _=>simp at h;exact ⟨by simp,h⟩
theorem NR.setl {t:Nat} {y:AO} (hy:y≠ .res):∀{O:List (Nat×AO)},NR O->NR (setl t y O)
 | [],h=>h
 | (u,x)::r,h=>by
  obtain ⟨h1,h2⟩:=EJ h;by_cases q:u=t
  ·subst q;rw [R4];exact bV hy h2
  ·rw [NQ _ _ _ _ _ q];exact bV h1 (NR.setl hy h2)
theorem NR.sw {O:List (Nat×AO)} (h:NR O) (t z:Nat) (es:List (List AV)):bW (Go.Av.setl t (.row z es) O)=Go.Av.setl t (.row z es) O:=h.setl (by simp)
theorem NR.eq {O:List (Nat×AO)} (h:NR O):bW O=O:=h
theorem NR.dropl {t:Nat}:∀{O:List (Nat×AO)},NR O->NR (dropl t O)
 | [],h=>h
 | (u,x)::r,h=>by
  obtain ⟨h1,h2⟩:=EJ h;by_cases q:u=t
  ·subst q;rw [MC];exact h2
  ·rw [KP _ _ _ _ q];exact bV h1 (NR.dropl h2)
def EvP (p:Prg) (ps:List Fld) (e:Envt) (args:List Int) (l:List Xd) (id N:Nat) (O:List (Nat×AO)) (v w:Int) (j:Nat) (r:Option (Rt×AH)):Prop:=
 ∃O' N',r=some (.val (.agg [.int .u32 v,.int .i64 w]),⟨O',N'⟩)/\look id O'=some (.row 17 [mchC p ps e args l j])/\Kp (fun j=>j=id) N O O'/\Tail O' N'/\N<=N'/\NR O'
def evlA:Xu:=match cH.body with | .seq a _=>a | c=>c
def evlB:Xu:=match cH.body with | .seq _ (.seq a _)=>a | c=>c
def evlC:Xu:=match cH.body with | .seq _ (.seq _ (.seq a _))=>a | c=>c
def evlR:Xu:=match cH.body with | .seq _ (.seq _ (.seq _ a))=>a | c=>c
theorem SE:cH.body= .seq evlA (.seq evlB (.seq evlC evlR)):=rfl
section
variable (p:Prg) (ps:List Fld) (e:Envt) (args:List Int) (l:List Xd)
theorem PA {O:List (Nat×AO)} {N id i:Nat} (hl:l.length<2^40) (hT:Tail O N) (hN:NR O) (hm:look id O=some (.row 17 [mchC p ps e args l i])) (hi:i<l.length) {Q:Option (Rt×AH)->Prop}
  (h:∀E O1,look 0 E=some (.ptr id 17 0 0)->look 2 E=some (.ptr N 2 0 0)->look 3 E=some (.iptr 3 [Xd.c l[i]] 0 0)->look N O1=some (.row 2 [[.int .u32 0,.int .i64 0]])->look id O1=some (.row 17 [mchC p ps e args l (i+1:Nat)])->
   Kp (fun j=>j=id) N O O1->Tail O1 (N+5)->NR O1->Q (go Φ (finC cH.results) [.c evlR] .normal ⟨E,⟨O1,N+5⟩⟩)):
  Q (aD Φ 294 [.ptr id 17 0 0] ⟨O,N⟩):=by
 rw [cP rfl rfl,SE];rw [tA] at hm;have t0:=hT N (Qb _);have t1:=hT (N+1) (by omega);have t4:=hT (N+1+3) (by omega);have n4:¬N=N+1+3/\¬N+1+3=N:=by omega
 have n5:¬N+1+3+1=N+1+3/\¬N+1+3=N+1+3+1:=by omega
 have f0:=aY hT hm (Qb N);have f4:=aY (n:=N+1+3) hT hm (by omega);have hw:=aH i (by omega);have hb:(id == N+1+3)=false:=by simp;omega
 have hx:l[i]=⟨l[i].op,l[i].n,l[i].w⟩:=rfl;simp [evlA,evlB,evlC,cH,t0,t1,t4,n4,n5,aA,a7,oE,show bW O=O from hN,hm,hi,Xd.e,f0,f4,hw,hb];refine h _ _ ?_ ?_ ?_ ?_ ?_ ?_ ?_ ?_
 ·simp
 ·simp
 ·simp [Xd.e]
 ·simp [a7,aA,t0,f0]
 ·simp [a7,aA,hm,tA]
 ·exact (Kp.app Kp.refl (Qb _)).setl (.inr rfl)
 ·exact aK ((hT.app1 (Qb _)).mono (by omega))
 ·exact (hN.app (.one (by simp))).setl (by simp)
variable (hg:∀h f,ok32 0 (eGet e h f)) (ha:∀v∈args,ok32 0 v) (hl:l.length<2^40)
include hg ha hl
theorem ev_ok:∀(n i:Nat) (w:Int) (j:Nat),chk p ps l n i= .ok (w,j)->∀(O:List (Nat×AO)) (N id:Nat),Tail O N->NR O->look id O=some (.row 17 [mchC p ps e args l i])->
  EvP p ps e args l id N O (evx p ps l e args n i).1 w j (aD Φ 294 [.ptr id 17 0 0] ⟨O,N⟩)
 | 0,i,w,j,h,O,N,id,hT,hN,hm=>by cases h
 | n+1,i,w,j,h,O,N,id,hT,hN,hm=>by
  have ih:=ev_ok n;simp only [chk] at h;simp only [evx];cases hx:l[i]? with
  | none=>rw [hx] at h;cases h
  | some x=>
  rw [hx] at h;simp only at h ⊢;obtain ⟨hi,hxe⟩:=Qm.1 hx;refine PA p ps e args l (Q:=EvP p ps e args l id N O _ w j) hl hT hN hm hi fun E O1 h0 h2 h3 hO hm1 hk1 hT1 hN1=>?_
  rw [hxe,Xd.e] at h3;have hidN:id<N:=hT.lt hm;have nid:¬id=N/\¬N=id:=by omega
  have hA:=Cf x.op;split at h
  ·cases h
  rename_i a0;split at h
  ·rename_i k0;split at h
   ·rename_i k1;cases h;rw [k0] at hA;have hld:=ld_ok p ps e args l (i+1:Nat) x k0 k1 hg ha;rw [tA] at hld hm1;rw [Xd.e] at hld;rw [a8 k0];simp at hld hm1;simp [evlR,cH,h0,h2,h3,hA,hm1,hld,hO,a7];refine ⟨_,_,rfl,?_,hk1.setl (.inl (Qb _)),aK hT1,by omega,hN1.setl (by simp)⟩;rw [a7,QA nid.1,hm1,tA];simp
   ·cases h
  rename_i k0;rw [QA k0];split at h
  ·cases h
  rename_i a i1 h1;obtain ⟨e1,f1⟩:=BU p ps l e args n (i+1) a i1 h1;rw [e1];split at h
  ·rename_i k1;rw [a8 k1];split at h
   ·rename_i k2;cases h;rw [k1] at hA;obtain ⟨O2,N2,r2,m2,kp2,T2,l2,nr2⟩:=ih (i+1) a j h1 O1 (N+5+1) id (hT1.mono (by omega)) hN1 hm1;have hu:=un_ok x k1 _ a f1 k2;rw [Xd.e] at hu;have hO2:look N O2=some (.row 2 [[.int .u32 0,.int .i64 0]]):=by rw [kp2 N (by omega) (by omega),hO]
    simp [evlR,cH,h0,h2,h3,hA,r2,hu,hO2,a7,nr2.eq,nr2.sw];refine ⟨_,_,rfl,?_,(hk1.trans kp2 (by omega)).setl (.inl (Qb _)),aK T2,by omega,nr2.setl (by simp)⟩;rw [a7,QA nid.1,m2]
   ·cases h
  rename_i k1;rw [QA k1];split at h
  ·cases h
  rename_i b i2 h2';obtain ⟨e2,f2⟩:=BU p ps l e args n i1 b i2 h2';rw [e2];split at h
  ·rename_i k2;rw [a8 k2];split at h
   ·rename_i k3;cases h;rw [k2] at hA;obtain ⟨O2,N2,r2,m2,kp2,T2,l2,nr2⟩:=ih (i+1) a i1 h1 O1 (N+5) id hT1 hN1 hm1;obtain ⟨O3,N3,r3,m3,kp3,T3,l3,nr3⟩:=ih i1 b j h2' O2 (N2+1) id (T2.mono (by omega)) nr2 m2;have hu:=VL x k2 _ _ a b f1 f2 k3;have hO3:look N O3=some (.row 2 [[.int .u32 0,.int .i64 0]]):=by rw [kp3 N (by omega) (by omega),kp2 N (by omega) (by omega),hO]
    have u2:=T2 N2 (Qb _);have u3:=T3 N3 (Qb _);simp [evlR,cH,h0,h2,h3,hA,r2,r3,hu,hO3,a7,u2,u3];refine ⟨_,_,rfl,?_,((hk1.trans kp2 (by omega)).trans kp3 (by omega)).setl (.inl (Qb _)),aK (T3.mono (by omega)),by omega,nr3.setl (by simp)⟩;rw [a7,QA nid.1,m3]
   ·cases h
  rename_i k2;rw [QA k2];split at h
  ·cases h
  rename_i c i3 h3';obtain ⟨e3,f3⟩:=BU p ps l e args n i2 c i3 h3';rw [e3];split at h
  rotate_left
  ·cases h
  rename_i k3;cases h;have o17:=Lo a0 k0 k1 k2;rw [o17] at hA;have hA3:ari 17=3:=by decide
  rw [hA3] at hA;rw [o17] at h3;obtain ⟨O2,N2,r2,m2,kp2,T2,l2,nr2⟩:=ih (i+1) a i1 h1 O1 (N+5) id hT1 hN1 hm1;obtain ⟨O3,N3,r3,m3,kp3,T3,l3,nr3⟩:=ih i1 b i2 h2' O2 (N2+1) id (T2.mono (by omega)) nr2 m2;obtain ⟨O4,N4,r4,m4,kp4,T4,l4,nr4⟩:=ih i2 c j h3' O3 (N3+1) id (T3.mono (by omega)) nr3 m3;have hO4:look N O4=some (.row 2 [[.int .u32 0,.int .i64 0]]):=by rw [kp4 N (by omega) (by omega),kp3 N (by omega) (by omega),kp2 N (by omega) (by omega),hO]
  have u2:=T2 N2 (Qb _);have u3:=T3 N3 (Qb _);have u4:=T4 N4 (Qb _);have hcw:(comb x a b c).1=b/\b=c:=by
   unfold comb at*;rw [QA (by omega),QA (by omega),QA (by omega),a8 o17] at k3 ⊢;split
   ·rename_i q;rw [a8 q] at k3;cases k3
   ·exact ⟨rfl,by omega⟩
  rw [hcw.1];have fin:∀y:List AV,y=[.int .u32 (if (evx p ps l e args n (i+1)).1=1 then (evx p ps l e args n i1).1 else (evx p ps l e args n i2).1),.int .i64 b]->EvP p ps e args l id N O (if (evx p ps l e args n (i+1)).1=1 then (evx p ps l e args n i1).1 else (evx p ps l e args n i2).1) b j
    (some (.val (.agg y),⟨setl N (.row 2 [y]) O4,N4+1⟩)):=fun y hy=>by
   rw [hy];refine ⟨_,_,rfl,?_,(((hk1.trans kp2 (by omega)).trans kp3 (by omega)).trans kp4 (by omega)).setl (.inl (Qb _)),aK (T4.mono (by omega)),by omega,nr4.setl (by simp)⟩;rw [a7,QA nid.1,m4]
  by_cases z:(evx p ps l e args n (i+1)).1=1
  ·rw [z] at r2;have:=fin [.int .u32 (evx p ps l e args n i1).1,.int .i64 b] (by rw [a8 z]);simp [evlR,cH,h0,h2,h3,hA,r2,r3,r4,hO4,a7,u2,u3,u4];exact this
  ·have:=fin [.int .u32 (evx p ps l e args n i2).1,.int .i64 c] (by rw [QA z,hcw.2]);simp [evlR,cH,h0,h2,h3,hA,r2,r3,r4,hO4,a7,u2,u3,u4,z];rw [QA z] at this;exact this
end
theorem EZ (p:Prg) (ps:List Fld) (e:Envt) (args:List Int) (l:List Xd) (hg:∀h f,ok32 0 (eGet e h f)) (ha:∀v∈args,ok32 0 v):
  a9 Φ 180 [.slice 3 (l.map Xd.c),.agg (scC p ps),.agg e.c,.slice 1 (args.map c32)]=some (.val (.int .u32 (evl p ps l e args))):=by
 rw [aC rfl rfl];have hE:=Dy p ps l;unfold evl;simp only [scC,Prg.e,mD,pA] at hE;by_cases z:(exE p ps l).2=0
 ·rw [z] at hE;rw [a8 z];obtain ⟨w,j,hl,hc⟩:∃w j,l.length<=24/\chk p ps l (l.length+1) 0= .ok (w,j):=by
   unfold exE at z;split at z
   ·cases z
   split at z
   ·rename_i x q;exact absurd z (GL p ps l _ _ _ q)
   ·rename_i w i q;exact ⟨w,i,by omega,q⟩
  obtain ⟨O',N',hr,_,_,_,_⟩:=ev_ok p ps e args l hg ha (by omega) (l.length+1) 0 w j hc [(0,.row 17 [mchC p ps e args l (0:Nat)])] 1 0 (Tail_cons_iff.2 ⟨by omega,Tail.nil _⟩) (.one (by simp)) (by simp);rw [tA] at hr;simp at hr;simp [rX,scC,Prg.e,Envt.ce,hE,hr]
 ·rw [QA z];have z':¬(exE p ps l).2=0:=z;simp [rX,scC,Prg.e,Envt.ce,hE,z']
structure RL (O:List (Nat×AO)) (B:Nat) (A:List AV) (L:List (List Int)):Prop where
 len:A.length=L.length
 row:∀(k:Nat) (x:AV) (l:List Int),A[k]? =some x->L[k]? =some l->(l=[]/\x= .Xt 1 [])\/∃id,x= .row id 1 0 l.length/\look id O=some (.row 1 (l.map c32))/\B<=id
 inj:∀(k k' id:Nat) (n n':Nat),A[k]? =some (.row id 1 0 n)->A[k']? =some (.row id 1 0 n')->k=k'
theorem RL.nil {O:List (Nat×AO)} {B:Nat}:RL O B [] []:=⟨rfl,by simp,by simp⟩
theorem RL.fr {O O':List (Nat×AO)} {B:Nat} {A:List AV} {L:List (List Int)} (h:RL O B A L) (hf:∀(j:Nat) (l:List Int),B<=j->look j O=some (.row 1 (l.map c32))->look j O'=some (.row 1 (l.map c32))):RL O' B A L:=by
 refine ⟨h.len,fun k x l hx hl=>?_,h.inj⟩;rcases h.row k x l hx hl with h | ⟨id,h1,h2,h3⟩
 ·exact .inl h
 ·exact .inr ⟨id,h1,hf id _ h3 h2,h3⟩
theorem RL.lt {O:List (Nat×AO)} {B n:Nat} (hT:Tail O n) {A:List AV} {L:List (List Int)} (h:RL O B A L) {k id m:Nat} (hx:A[k]? =some (.row id 1 0 m)):id<n:=by
 have hk:k<A.length:=(Qm.1 hx).1;have hk2:k<L.length:=by rw [<- h.len];exact hk
 rcases h.row k _ _ hx (Qa hk2) with ⟨_,h2⟩ | ⟨id',h1,h2,_⟩
 ·cases h2
 ·cases h1;exact hT.lt h2
theorem RL.snoc {O O':List (Nat×AO)} {B n:Nat} {A:List AV} {L:List (List Int)} (h:RL O B A L) (hT:Tail O n) (hf:∀(j:Nat) (l:List Int),B<=j->look j O=some (.row 1 (l.map c32))->look j O'=some (.row 1 (l.map c32))) {id:Nat} {l:List Int} (hid:n<=id) (hB:B<=id)
  (hl:look id O'=some (.row 1 (l.map c32))):RL O' B (A++[.row id 1 0 l.length]) (L++[l]):=by
 have h':=h.fr hf;refine ⟨by simp [h.len],fun k x y hx hy=>?_,fun k k' i m m' hx hx'=>?_⟩
 ·rw [List.getElem?_append] at hx hy;rw [h.len] at hx;split at hx
  ·rename_i q;rw [a8 q] at hy;exact h'.row k x y hx hy
  ·rename_i q;rw [QA q] at hy;cases hk:k - L.length with
   | zero=>simp [hk] at hx hy;subst hx hy;exact .inr ⟨id,rfl,hl,hB⟩
   | succ j=>simp [hk] at hx
 ·have key:∀j m,(A++[.row id 1 0 l.length])[j]? =some (.row i 1 0 m)->(j<A.length/\i<n)\/(j=A.length/\i=id):=fun j m hj=>by
   rw [List.getElem?_append] at hj;split at hj
   ·rename_i q;exact .inl ⟨q,h.lt hT hj⟩
   ·rename_i q;cases hk:j - A.length with
    | zero=>simp [hk] at hj;exact .inr ⟨by omega,hj.1.symm⟩
    | succ j=>simp [hk] at hj
  rcases key k m hx with ⟨a1,a2⟩ | ⟨a1,a2⟩<;>rcases key k' m' hx' with ⟨b1,b2⟩ | ⟨b1,b2⟩
  ·rw [Ql a1] at hx;rw [Ql b1] at hx';exact h.inj k k' i m m' hx hx'
  ·omega
  ·omega
  ·omega
theorem RL.snoc0 {O O':List (Nat×AO)} {B:Nat} {A:List AV} {L:List (List Int)} (h:RL O B A L) (hf:∀(j:Nat) (l:List Int),B<=j->look j O=some (.row 1 (l.map c32))->look j O'=some (.row 1 (l.map c32))):RL O' B (A++[.Xt 1 []]) (L++[[]]):=by
 have h':=h.fr hf;refine ⟨by simp [h.len],fun k x y hx hy=>?_,fun k k' i m m' hx hx'=>?_⟩
 ·rw [List.getElem?_append] at hx hy;rw [h.len] at hx;split at hx
  ·rename_i q;rw [a8 q] at hy;exact h'.row k x y hx hy
  ·rename_i q;rw [QA q] at hy;cases hk:k - L.length with
   | zero=>simp [hk] at hx hy;subst hx hy;exact .inl ⟨rfl,rfl⟩
   | succ j=>simp [hk] at hx
 ·have key:∀j m,(A++[.Xt 1 []])[j]? =some (.row i 1 0 m)->j<A.length:=fun j m hj=>by
   rw [List.getElem?_append] at hj;split at hj
   ·assumption
   ·rename_i q;cases hk:j - A.length with
    | zero=>simp [hk] at hj
    | succ j=>simp [hk] at hj
  have k1:=key k m hx;have k2:=key k' m' hx';rw [Ql k1] at hx;rw [Ql k2] at hx';exact h.inj k k' i m m' hx hx'
theorem RL.set {O:List (Nat×AO)} {B:Nat} {A:List AV} {L:List (List Int)} (h:RL O B A L) {k id m:Nat} (hx:A[k]? =some (.row id 1 0 m)) (l':List Int) (hl':l'.length=m):RL (setl id (.row 1 (l'.map c32)) O) B A (L.set k l'):=by
 have hk:k<A.length:=(Qm.1 hx).1;have hk2:k<L.length:=by rw [<- h.len];exact hk
 refine ⟨by simp [h.len],fun j x l hj hl=>?_,h.inj⟩;rcases h.row k _ _ hx (Qa hk2) with ⟨_,h2⟩ | ⟨id',h1,h2,h3⟩
 ·cases h2
 cases h1;rw [List.getElem?_set] at hl;split at hl
 ·rename_i q;subst q;cases hl;rw [hx] at hj;cases hj;exact .inr ⟨id,by rw [hl'],by rw [a7,a8 rfl,h2];rfl,h3⟩
 ·rename_i q;rcases h.row j x l hj hl with h | ⟨id2,g1,g2,g3⟩
  ·exact .inl h
  ·refine .inr ⟨id2,g1,?_,g3⟩;have:¬id2=id:=fun e=>q (by subst e;subst g1;exact (h.inj j k id2 _ _ hj hx).symm)
   rw [a7,QA this,g2]
theorem RL.snp {O:List (Nat×AO)} {B N:Nat} (n:Nat) {A:List AV} {L:List (List Int)} (h:RL O B A L):mapO (mapO (snap (n+2) ⟨O,N⟩)) (A.map fun x=>[x])=some (L.map (cS 1 c32)):=by
 have key:∀(A:List AV) (L:List (List Int)),A.length=L.length->(∀(k:Nat) (x:AV) (l:List Int),A[k]? =some x->L[k]? =some l->(l=[]/\x= .Xt 1 [])\/∃id,x= .row id 1 0 l.length/\look id O=some (.row 1 (l.map c32))/\B<=id)->
   mapO (mapO (snap (n+2) ⟨O,N⟩)) (A.map fun x=>[x])=some (L.map (cS 1 c32)):=by
  intro A
  induction A with
  | nil=>
   intro L hl _;cases L with
   | nil=>rfl
   | cons=>cases hl
  | cons x A ih=>
   intro L hl hr;cases L with
   | nil=>cases hl
   | cons l L=>
    have ih:=ih L (by simpa using hl) fun k y z hy hz=>hr (k+1) y z (by simpa using hy) (by simpa using hz)
    have h0:=hr 0 x l rfl rfl;have e:mapO (snap (n+2) ⟨O,N⟩) [x]=some (cS 1 c32 l):=by
     rcases h0 with ⟨rfl,rfl⟩ | ⟨id,rfl,h2,_⟩
     ·simp [mapO,cS]
     ·have:=mL (g:=c32) (n:=n+1) (H:=⟨O,N⟩) (fun x=>by simp [c32]) l;have ht:(l.map c32).take l.length=l.map c32:=Qo (by simp);simp [mapO,cS,h2,this,ht]
    rw [jL,jL,mapO,e];simp only [ih]
 exact key A L h.len h.row
def DupP (N:Nat) (O:List (Nat×AO)) (L:List (List Int)) (r:Option (Rt×AH)):Prop:=
 ∃O' N' A,r=some (.val (.row N 1 0 L.length),⟨O',N'⟩)/\look N O'=some (.row 1 (A.map fun x=>[x]))/\RL O' (N+1) A L/\Kp (fun _=>False) N O O'/\Tail O' N'/\N<N'/\NR O'
theorem US {O:List (Nat×AO)} {N:Nat} (hT:Tail O N) (hN:NR O) (L:List (List Int)) (hL:L.length<2^40) (hl:∀l∈L,l.length<2^40):
  DupP N O L (aD Φ 387 [.slice 1 (L.map (cS 1 c32))] ⟨O,N⟩):=by
 rw [cP rfl rfl];have t0:=hT N (Qb _);have b1:(L.length:Int)<4611686018427387904:=by omega
 have b2:(L.length:Int)*24<=140737488355328:=by omega
 simp [yQ,t0,b1,b2];refine eQ L.length (fun i e h=>∃O' N' A,h=⟨O',N'⟩/\A.length=i/\look N O'=some (.row 1 ((A++List.replicate (L.length - i) (.Xt 1 [])).map fun x=>[x]))/\RL O' (N+1) A (L.take i)/\Kp (fun _=>False) N O O'/\Tail O' N'/\N<N'/\NR O'/\
  look 3 e=some (.row N 1 0 L.length)/\look 9 e=some (.slice 1 (L.map (cS 1 c32)))/\look 10 e=some (.int .i64 L.length)/\look 11 e=some (.int .i64 i)) (DupP N O L) ?_ ?_ 0 _ _ (Qc _) ?_
 ·rintro i e _ K hi hK ⟨O',N',A,rfl,hA,hl0,hr,hk,hT',hlt,hN',h3,h9,h10,h11⟩ ih;have hw:=aH i (by omega);have t0:=hT' N' (Qb _);have hll:=hl _ (Qd hi);generalize hx:L[i]=x at hll;have b1:(x.length:Int)<4611686018427387904:=by omega
  have b2:(x.length:Int)*4<=140737488355328:=by omega
  have n1:¬N=N'/\¬N'=N:=by omega
  have al:jK 1 (x.map c32)=true:=p6 1 c32 x fun x=>by simp
  have hd:L.length - i=(L.length - (i+1))+1:=by omega
  have hAi:i<A.length+(L.length - i):=by omega
  have hAl:A.length+(L.length - i)=L.length:=by omega
  rw [hd] at hl0;have hcs:(L.map (cS 1 c32))[i]? =some (cS 1 c32 x):=by rw [List.getElem?_map,Qa hi,hx];rfl
  simp [gP,h3,h9,h10,h11,hi,hx,cS,b1,b2,t0,n1,aA,a7,hl0,hA,al,hw];have hlo:∀j y,N+1<=j->look j O'=some y->look j (Go.Av.setl N' (.row 1 (x.map c32)) (Go.Av.setl N (.row 1 (List.map (fun x=>[x]) A++(List.replicate (L.length - (i+1)+1) [AV.Xt 1 []]).set 0 [AV.row N' 1 0 x.length])) (O'++[(N',.row 1 (List.replicate x.length [.int .u32 0]))])))=some y:=fun j y hj hy=>by
   have f:=aY hT' hy (Qb N');have:¬j=N:=by omega
   simp [a7,aA,f,this,hy]
  refine ih _ _ ⟨_,_,A++[.row N' 1 0 x.length],rfl,by simp [hA],?_,?_,?_,?_,by omega,?_,by simp [h3],by simp [h9],by simp [h10],by simp⟩
  ·simp [a7,aA,n1,hl0,CB]
  ·rw [Qh hi,hx];refine hr.snoc hT' (fun j l hj h=>hlo j _ hj h) (Qb _) (by omega) ?_;simp [a7,aA,t0,n1]
  ·refine Kp.setl (Kp.setl (Kp.app hk (by omega)) (.inl (Qb _))) (.inl (by omega))
  ·exact aK (aK (hT'.app1 (Qb _)))
  ·exact ((hN'.app (.one (by simp))).setl (by simp)).setl (by simp)
 ·rintro e _ K hK ⟨O',N',A,rfl,hA,hl0,hr,hk,hT',hlt,hN',h3,h9,h10,h11⟩;simp [gP,lI,h3,h10,h11,hK];refine ⟨O',N',A,rfl,?_,?_,hk,hT',hlt,hN'⟩
  ·simpa using hl0
  ·simpa using hr
 ·refine ⟨_,_,[],rfl,rfl,?_,by simpa using RL.nil,Kp.app Kp.refl (Qb _),hT.app1 (Qb _),by omega,hN.app (.one (by simp)),by simp,by simp,by simp,by simp⟩;simp [aA,t0]
theorem OI {O:List (Nat×AO)} {N:Nat} (hT:Tail O N) (hN:NR O) (L:List (List Int)) (hL:L.length<2^40) (hl:∀l∈L,l.length<2^40):
  DupP N O L (aD Φ 287 [.slice 1 (L.map (cS 1 c32))] ⟨O,N⟩):=by
 rw [cP rfl rfl];have t0:=hT N (Qb _);have b1:(L.length:Int)<4611686018427387904:=by omega
 have b2:(L.length:Int)*24<=140737488355328:=by omega
 simp [wQ,t0,b1,b2];refine eQ L.length (fun i e h=>∃O' N' A,h=⟨O',N'⟩/\A.length=i/\look N O'=some (.row 1 ((A++List.replicate (L.length - i) (.Xt 1 [])).map fun x=>[x]))/\RL O' (N+1) A (L.take i)/\Kp (fun _=>False) N O O'/\Tail O' N'/\N<N'/\NR O'/\
  look 3 e=some (.row N 1 0 L.length)/\look 9 e=some (.slice 1 (L.map (cS 1 c32)))/\look 10 e=some (.int .i64 L.length)/\look 11 e=some (.int .i64 i)) (DupP N O L) ?_ ?_ 0 _ _ (Qc _) ?_
 ·rintro i e _ K hi hK ⟨O',N',A,rfl,hA,hl0,hr,hk,hT',hlt,hN',h3,h9,h10,h11⟩ ih;have hw:=aH i (by omega);have t0:=hT' N' (Qb _);have hll:=hl _ (Qd hi);generalize hx:L[i]=x at hll;have b1:(x.length:Int)<4611686018427387904:=by omega
  have b2:(x.length:Int)*4<=140737488355328:=by omega
  have n1:¬N=N'/\¬N'=N:=by omega
  have al:jK 1 (x.map c32)=true:=p6 1 c32 x fun x=>by simp
  have hd:L.length - i=(L.length - (i+1))+1:=by omega
  have hAi:i<A.length+(L.length - i):=by omega
  have hAl:A.length+(L.length - i)=L.length:=by omega
  rw [hd] at hl0;have hcs:(L.map (cS 1 c32))[i]? =some (cS 1 c32 x):=by rw [List.getElem?_map,Qa hi,hx];rfl
  simp [gB,h3,h9,h10,h11,hi,hx,cS,b1,b2,t0,n1,aA,a7,hl0,hA,al,hw];have hlo:∀j y,N+1<=j->look j O'=some y->look j (Go.Av.setl N' (.row 1 (x.map c32)) (Go.Av.setl N (.row 1 (List.map (fun x=>[x]) A++(List.replicate (L.length - (i+1)+1) [AV.Xt 1 []]).set 0 [AV.row N' 1 0 x.length])) (O'++[(N',.row 1 (List.replicate x.length [.int .u32 0]))])))=some y:=fun j y hj hy=>by
   have f:=aY hT' hy (Qb N');have:¬j=N:=by omega
   simp [a7,aA,f,this,hy]
  refine ih _ _ ⟨_,_,A++[.row N' 1 0 x.length],rfl,by simp [hA],?_,?_,?_,?_,by omega,?_,by simp [h3],by simp [h9],by simp [h10],by simp⟩
  ·simp [a7,aA,n1,hl0,CB]
  ·rw [Qh hi,hx];refine hr.snoc hT' (fun j l hj h=>hlo j _ hj h) (Qb _) (by omega) ?_;simp [a7,aA,t0,n1]
  ·refine Kp.setl (Kp.setl (Kp.app hk (by omega)) (.inl (Qb _))) (.inl (by omega))
  ·exact aK (aK (hT'.app1 (Qb _)))
  ·exact ((hN'.app (.one (by simp))).setl (by simp)).setl (by simp)
 ·rintro e _ K hK ⟨O',N',A,rfl,hA,hl0,hr,hk,hT',hlt,hN',h3,h9,h10,h11⟩;simp [gB,kW,h3,h10,h11,hK];refine ⟨O',N',A,rfl,?_,?_,hk,hT',hlt,hN'⟩
  ·simpa using hl0
  ·simpa using hr
 ·refine ⟨_,_,[],rfl,rfl,?_,by simpa using RL.nil,Kp.app Kp.refl (Qb _),hT.app1 (Qb _),by omega,hN.app (.one (by simp)),by simp,by simp,by simp,by simp⟩;simp [aA,t0]
theorem S9 (L:List (List Int)) (hL:L.length<2^40) (hl:∀l∈L,l.length<2^40):a9 Φ 287 [.slice 1 (L.map (cS 1 c32))]=some (.val (.slice 1 (L.map (cS 1 c32)))):=by
 obtain ⟨O',N',A,hr,hl0,hA,_⟩:=OI (O:=[]) (N:=0) (Tail.nil 0) A1 L hL hl;have hn:=hA.len;have hs:=hA.snp (N:=N') 37;unfold a9;rw [show H0=⟨[],0⟩ from rfl,hr];have ht:(A.map fun x=>[x]).take L.length=A.map fun x=>[x]:=Qo (by simp [hn])
 simp at hs;simp [oP,hl0,hn,ht,hs]
def hasR (p:Prg) (rs:List (List Int)) (r i:Int):Bool:=match at? p.Xl r,at? rs r with
 | some g,some l=>decide (i<g.size)&&decide (i<l.length)
 | _,_=>false
theorem F7 (p:Prg) (rs:List (List Int)) (r i:Int) (hi:ok32 0 i):a9 Φ 386 [.agg (Prg.c p++[.slice 1 (rs.map (cS 1 c32))]),.int .i64 r,.int .u32 i]=some (.val (.bool (hasR p rs r i))):=by
 rw [aC rfl rfl];have hw:IntKind.wrap .i64 i=i:=cU (by have:=hi.1;omega) (by have:=hi.2;omega);unfold hasR;by_cases h0:r<0
 ·simp [mI,Prg.e,h0,iC h0]
 by_cases h1:(p.Xl.length:Int)<=r
 ·simp [mI,Prg.e,h0,h1,iK h1]
 by_cases h2:(rs.length:Int)<=r
 ·obtain ⟨m,rfl⟩:=mP (show 0<=r by omega);have hm:m<p.Xl.length:=by omega
  have hm2:¬p.Xl.length<=m:=by omega
  have hm3:rs.length<=m:=by omega
  simp [mI,Prg.e,hm,hm2,hm3]
 obtain ⟨m,rfl⟩:=mP (show 0<=r by omega);have hm:m<p.Xl.length:=by omega
 have hm2:¬p.Xl.length<=m:=by omega
 have hm3:m<rs.length:=by omega
 have hm4:¬rs.length<=m:=by omega
 by_cases z:i<p.Xl[m].size
 ·simp [mI,Prg.e,Xg.e,hm,hm2,hm3,hm4,hw,z,cS]
 ·simp [mI,Prg.e,Xg.e,hm,hm2,hm3,hm4,hw,z,cS]
theorem Kl {p:Prg} {rs:List (List Int)} {r i:Int} (hi:0<=i) (h:hasR p rs r i=true):∃(m k:Nat) (h1:m<p.Xl.length) (h2:m<rs.length) (h3:k<rs[m].length),r=m/\i=k/\i<p.Xl[m].size:=by
 unfold hasR at h;split at h
 ·rename_i g l hg hl;simp only [bE,decide_eq_true_eq] at h;obtain ⟨m,rfl,hm,rfl⟩:=lS hg;obtain ⟨m',e,hm',rfl⟩:=lS hl;have:m=m':=by omega
  subst this;exact ⟨m,i.toNat,hm,hm',by omega,rfl,by omega,h.1⟩
 ·cases h
theorem QY (p:Prg) (rs:List (List Int)) (r i:Int) (hi:ok32 0 i):a9 Φ 355 [.agg (Prg.c p),.slice 1 (rs.map (cS 1 c32)),.int .i64 r,.int .u32 i]=some (.val (.int .u32 (rGet p rs r i))):=by
 rw [aC rfl rfl];have hh:=F7 p rs r i hi;simp only [Prg.e,mD,pA] at hh;cases q:hasR p rs r i with
 | false=>
  have:rGet p rs r i=0:=by
   unfold rGet hasR at*;split
   ·rename_i g l hg hl;rw [hg,hl] at q;simp only [Bool.and_eq_false_iff,decide_eq_false_iff_not] at q;split
    ·rw [iK (by omega)];rfl
    ·rfl
   ·rfl
  rw [q] at hh;simp [sK,Prg.e,hh,this]
 | true=>
  obtain ⟨m,k,h1,h2,h3,rfl,rfl,h4⟩:=Kl hi.1 q;rw [q] at hh;have:rGet p rs m k=rs[m][k]:=by simp [rGet,h1,h2,h3,h4]
  simp [sK,Prg.e,hh,this,h2,h3,cS,c32]
theorem NP (p:Prg) (rs:List (List Int)) (hL:rs.length<2^40) (hl:∀l∈rs,l.length<2^40) (r i v:Int) (hi:ok32 0 i) (hv:ok32 0 v):a9 Φ 356 [.agg (Prg.c p),.slice 1 (rs.map (cS 1 c32)),.int .i64 r,.int .u32 i,.int .u32 v]=some (.val (.slice 1 ((rSet p rs r i v).map (cS 1 c32)))):=by
 rw [aC rfl rfl];have hh:=F7 p rs r i hi;simp only [Prg.e,mD,pA] at hh;obtain ⟨O',N',A,hr,hl0,hA,_,hT,hlt,_⟩:=US (O:=[]) (N:=0) (Tail.nil 0) A1 rs hL hl;have hn:=hA.len;have ht:(A.map fun x=>[x]).take rs.length=A.map fun x=>[x]:=Qo (by simp [hn])
 cases q:hasR p rs r i with
 | false=>
  have e:rSet p rs r i v=rs:=by
   unfold rSet hasR at*;split
   ·rename_i g l hg hl;rw [hg,hl] at q;simp only [Bool.and_eq_false_iff,decide_eq_false_iff_not] at q;split
    ·rename_i z;obtain ⟨m,rfl,hm,rfl⟩:=lS hl;have:rs[m].length<=i.toNat:=by omega
     rw [List.set_eq_of_length_le this];simp
    ·rfl
   ·rfl
  rw [q] at hh;have hs:=hA.snp (N:=N') 37;simp at hs;rw [e];simp [pW,Prg.e,hr,hh,hl0,hn,ht,hs]
 | true=>
  obtain ⟨m,k,h1,h2,h3,rfl,rfl,h4⟩:=Kl hi.1 q;rw [q] at hh;have hmA:m<A.length:=by omega
  rcases hA.row m _ _ (Qa hmA) (Qa h2) with ⟨z,_⟩ | ⟨id,hx,hlk,hB⟩
  ·rw [z] at h3;simp at h3
  have hxA:A[m]? =some (.row id 1 0 rs[m].length):=by rw [Qa hmA,hx]
  have hid:¬id=0/\¬0=id:=by omega
  have hmk:=jI p.Xl[m].Yc;cases z:wBad p.Xl[m].Yc with
  | true=>
   have e:rSet p rs m k v=rs:=by simp [rSet,h1,h2,z]
   have hm0:bF p.Xl[m].Yc=0:=by simp [bF,z]
   have hs:=hA.snp (N:=N') 37;simp at hs;rw [hm0] at hmk;rw [e];simp [pW,Prg.e,Xg.e,hr,hh,h1,hmk,hl0,hn,ht,hs]
  | false=>
   have e:rSet p rs m k v=rs.set m (rs[m].set k (v % 2^p.Xl[m].Yc.toNat)):=by simp [rSet,h1,h2,z,h4]
   have hw:=uZ z;have hp:=B2 (show p.Xl[m].Yc.toNat<=32 by omega);have hm0:0<bF p.Xl[m].Yc:=by
    rw [GC hw.1 hw.2];have:(2:Int)^1<=2^p.Xl[m].Yc.toNat:=by
     rw [<- oG,<- oG];exact Int.ofNat_le.2 (uD (by decide) (by omega))
    omega
   have hi2:=oK hv hw.1 hw.2;have hs':=(hA.set hxA (rs[m].set k (v % 2^p.Xl[m].Yc.toNat)) (by simp)).snp (N:=N') 37;have hst:(rs[m].map c32).set k [AV.int .u32 (v % 2^p.Xl[m].Yc.toNat)]=(rs[m].set k (v % 2^p.Xl[m].Yc.toNat)).map c32:=by rw [qZ];simp [c32]
   simp only [Nat.reduceAdd] at hs';have hAm:A[m]? =some (.row id 1 0 rs[m].length):=hxA;rw [e];simp [pW,Prg.e,Xg.e,hr,hh,h1,hmk,hm0,hl0,hn,hx,h2,h3,hlk,a7,hid,hi2];rw [show (c32 rs[m][k]).tail=[] from rfl,hst,ht,hs'];simp
theorem uT {t:Nat} {x y:AO} {L:List (Nat×AO)}:∀{O:List (Nat×AO)},look t O=some x->setl t y (O++L)=setl t y O++L
 | [],h=>by cases h
 | (u,w)::r,h=>by
  by_cases q:u=t
  ·subst q;simp
  ·rw [jG _ _ _ _ q] at h;simp [q,uT h]
theorem IO {t:Nat} {x:AO} {L:List (Nat×AO)}:∀{O:List (Nat×AO)},look t O=some x->dropl t (O++L)=dropl t O++L
 | [],h=>by cases h
 | (u,w)::r,h=>by
  by_cases q:u=t
  ·subst q;simp
  ·rw [jG _ _ _ _ q] at h;simp [q,IO h]
def NRw (O:List (Nat×AO)) (B:Nat) (X:AV) (es:List (List AV)):Prop:=(es=[]/\X= .Xt 1 [])\/∃id,X= .row id 1 0 es.length/\look id O=some (.row 1 es)/\B<=id/\es≠[]
theorem NRw.fr {O O':List (Nat×AO)} {B:Nat} {X:AV} {es:List (List AV)} (h:NRw O B X es) (hf:∀j,B<=j->look j O=some (.row 1 es)->look j O'=some (.row 1 es)):NRw O' B X es:=by
 rcases h with h | ⟨id,h1,h2,h3,h4⟩
 ·exact .inl h
 ·exact .inr ⟨id,h1,hf id h3 h2,h3,h4⟩
theorem NRw.snp {O:List (Nat×AO)} {B N n:Nat} {X:AV} {es:List (List AV)} (h:NRw O B X es) {es':List (List AV)} (hs:mapO (mapO (snap n ⟨O,N⟩)) es=some es'):snap (n+1) ⟨O,N⟩ X=some (.slice 1 es'):=by
 rcases h with ⟨rfl,rfl⟩ | ⟨id,rfl,h2,_⟩
 ·simp [mapO] at hs;subst hs;simp
 ·simp [h2,hs]
structure EM (O:List (Nat×AO)) (B:Nat) (V F M:AV) (A:List AV) (e:Envt):Prop where
 v:NRw O B V (e.valid.map cB)
 m:NRw O B M (e.metaF.map c32)
 f:NRw O B F (A.map fun x=>[x])
 r:RL O B A e.Xz
 mne:∀(k id n n':Nat),A[k]? =some (.row id 1 0 n)->M≠ .row id 1 0 n'
theorem Zt (a:AV) (h:AH):aD Φ 270 [a] h=go Φ (finC pK.results) [.c pK.body] .normal ⟨iE 0 [a],h⟩:=cP rfl rfl
theorem Zu (a:AV) (h:AH):aD Φ 271 [a] h=go Φ (finC pL.results) [.c pL.body] .normal ⟨iE 0 [a],h⟩:=cP rfl rfl
theorem MK (l:List Bool):anyL (fun c=> !flat aE c) (l.map cB).flatten=false:=by
 refine Dk fun x hx=>?_
 obtain ⟨y,hy,hx⟩:=tJ.1 hx;obtain ⟨b,_,rfl⟩:=iN.1 hy;simp [cB] at hx;subst hx;rfl
theorem ML (l:List Int):anyL (fun c=> !flat aE c) (l.map c32).flatten=false:=by
 refine Dk fun x hx=>?_
 obtain ⟨y,hy,hx⟩:=tJ.1 hx;obtain ⟨b,_,rfl⟩:=iN.1 hy;simp [c32] at hx;subst hx;rfl
theorem PY (l:List Bool) (hl:l.length<2^40) (nx:Nat) (H:AH):nH (aD Φ) 270 [.Xt 1 [[.slice 1 (l.map cB)]]] nx H=if l=[] then some (.val (.Xt 1 []),H) else some (.val (.row nx 1 0 l.length),H.put nx (.row 1 (l.map cB))):=by
 have w1:IntKind.wrap .i64 1=1:=rfl;have hb:l.length<=70368744177664:=by omega
 have al:jK 1 (l.map cB)=true:=p6 1 cB l fun x=>by simp
 have hs:mapO (mapO (snap aE ⟨[(0,.row 1 (l.map cB))],1⟩)) (l.map cB)=some (l.map cB):=mL (g:=cB) (fun x=>by simp [cB]) l;unfold nH;rw [show mapO (snap aE H) [AV.Xt 1 [[.slice 1 (l.map cB)]]]=some [AV.slice 1 [[.slice 1 (l.map cB)]]] by simp];simp only;rw [Zt];simp [pK];rw [cW];by_cases z:l=[]
 ·subst z;simp [cF,w1];rw [cW];simp [cF,g7]
 ·rw [QA z];simp [cF,w1,z,al,hb];rw [cW];have hf:=MK l;rw [show aE=40 from rfl] at hs hf;simp [cF,g7,hs,hf]
theorem Kn (l:List Int) (hl:l.length<2^40) (nx:Nat) (H:AH):nH (aD Φ) 271 [.Xt 1 [[.slice 1 (l.map c32)]]] nx H=if l=[] then some (.val (.Xt 1 []),H) else some (.val (.row nx 1 0 l.length),H.put nx (.row 1 (l.map c32))):=by
 have w1:IntKind.wrap .i64 1=1:=rfl;have hb:l.length*4<=70368744177664:=by omega
 have al:jK 1 (l.map c32)=true:=p6 1 c32 l fun x=>by simp
 have hs:mapO (mapO (snap aE ⟨[(0,.row 1 (l.map c32))],1⟩)) (l.map c32)=some (l.map c32):=mL (g:=c32) (fun x=>by simp [c32]) l;unfold nH;rw [show mapO (snap aE H) [AV.Xt 1 [[.slice 1 (l.map c32)]]]=some [AV.slice 1 [[.slice 1 (l.map c32)]]] by simp];simp only;rw [Zu];simp [pL];rw [cW];by_cases z:l=[]
 ·subst z;simp [cG,w1];rw [cW];simp [cG,g9]
 ·rw [QA z];simp [cG,w1,z,al,hb];rw [cW];have hf:=ML l;rw [show aE=40 from rfl] at hs hf;simp [cG,g9,hs,hf]
theorem PZ (l:List Int) (hl:l.length<2^40):a9 Φ 272 [.slice 1 [[.slice 1 (l.map c8)]]]=some (.val (.slice 1 (l.map c8))):=by
 rw [aC rfl rfl];have w1:IntKind.wrap .i64 1=1:=rfl;have hb:l.length<=70368744177664:=by omega
 have al:jK 1 (l.map c8)=true:=p6 1 c8 l fun x=>by simp
 simp [wK];rw [cW];simp [gA,w1,al,hb];rw [cW];simp [gA,kT]
def clR (V F M:AV) (pay:List Int):AV:= .agg [V,F,M,.slice 1 (pay.map c8)]
def ClP (N:Nat) (O:List (Nat×AO)) (e:Envt) (r:Option (Rt×AH)):Prop:=
 ∃O' N' V F M A,r=some (.val (clR V F M e.payload),⟨O',N'⟩)/\EM O' N V F M A e/\Kp (fun _=>False) N O O'/\Tail O' N'/\N<=N'/\NR O'
structure EvS (e:Envt):Prop where
 v:e.valid.length<2^40
 f:e.Xz.length<2^40
 g:∀l∈e.Xz,l.length<2^40
 m:e.metaF.length<2^40
 p:e.payload.length<2^40
def z4:List AV:=[.Xt 1 [],.Xt 1 [],.Xt 1 [],.Xt 1 []]
structure CI (O0:List (Nat×AO)) (N:Nat) (e:Envt) (a b i:Nat) (E:Env) (O':List (Nat×AO)) (N':Nat) (V F M:AV) (A:List AV):Prop where
 e2:look 2 E=some (.ptr a 4 0 0)
 e3:look 3 E=some (.ptr b 4 0 0)
 e20:look 20 E=some (.slice 1 (e.Xz.map (cS 1 c32)))
 e21:look 21 E=some (.int .i64 e.Xz.length)
 e22:look 22 E=some (.int .i64 i)
 la:look a O'=some (.row 4 [z4])
 lb:look b O'=some (.row 4 [[V,F,M,.slice 1 (e.payload.map c8)]])
 v:NRw O' N V (e.valid.map cB)
 m:NRw O' N M (e.metaF.map c32)
 f:NRw O' N F (A.map fun x=>[x])
 r:RL O' N A (e.Xz.take i)
 mne:∀(k id n n':Nat),A[k]? =some (.row id 1 0 n)->M≠ .row id 1 0 n'
 kp:Kp (fun _=>False) N O0 O'
 t:Tail O' N'
 nr:NR O'
 hN:N<=N'
 an:N<=a
 bn:N<=b
theorem RL.head {O:List (Nat×AO)} {B:Nat} {A:List AV} {L:List (List Int)} (h:RL O B A L) {es:List (List AV)} (he:∀x∈es,(∃b,x=[.bool b])\/∃k n,x=[.int k n]) (hA:(A.map fun x=>[x])=es):es=[]:=by
 cases A with
 | nil=>exact hA.symm
 | cons a A=>
  exfalso;subst hA;have h1:=he [a] (by simp);cases L with
  | nil=>have:=h.len;simp at this
  | cons l L=>
   rcases h.row 0 a l rfl rfl with ⟨_,rfl⟩ | ⟨id,rfl,_⟩<;>rcases h1 with ⟨b,h⟩ | ⟨k,n,h⟩<;>simp at h
theorem Lu {O0:List (Nat×AO)} {N:Nat} {e:Envt} {a b i:Nat} {E E':Env} {O' O1:List (Nat×AO)} {N':Nat} {V F M X:AV} {A:List AV} {L:List (Nat×AO)} (h:CI O0 N e a b i E O' N' V F M A) (hi:i<e.Xz.length) {x:List Int} (hx:e.Xz[i]=x)
  (hE:∀t,t=2\/t=3\/t=20\/t=21->look t E'=look t E) (hE2:look 22 E'=some (.int .i64 (i+1:Nat)))
  (hb:look b O1=some (.row 4 [[V,.row (N'+32) 1 0 (A.length+1),M,.slice 1 (e.payload.map c8)]]))
  (hk:∀j y,look j O'=some y->j≠b->(∀n,F≠ .row j 1 0 n)->look j O1=some y) (hkp:∀j,j<N->look j O1=look j O') (hT1:Tail O1 N') (hn1:NR O1)
  (hX:(x=[]/\X= .Xt 1 []/\L=[(N'+31,.row 1 [[X]]),(N'+32,.row 1 ((A++[X]).map fun x=>[x]))])\/
   (x≠[]/\X= .row (N'+30) 1 0 x.length/\L=[(N'+30,.row 1 (x.map c32)),(N'+31,.row 1 [[X]]),(N'+32,.row 1 ((A++[X]).map fun x=>[x]))])):
  CI O0 N e a b (i+1) E' (O1++L) (N'+33) V (.row (N'+32) 1 0 (A.length+1)) M (A++[X]):=by
 obtain ⟨e2,e3,e20,e21,e22,la,lb,v,m,f,r,mne,kp,hT,nr,hN,an,bn⟩:=h;have ab:a≠b:=aF la lb (by simp [z4]);have app:∀j y,look j O1=some y->look j (O1++L)=some y:=fun j y h=>by rw [aA,h];rfl
 have key:∀(es:List (List AV)),(∀x∈es,(∃b,x=[.bool b])\/∃k n,x=[.int k n])->∀j,look j O'=some (.row 1 es)->es≠[]->look j (O1++L)=some (.row 1 es):=fun es he j hj hne=>by
  refine app j _ (hk j _ hj (aF hj lb (by simp)) fun n hF=>?_);rcases f with ⟨_,hF2⟩ | ⟨id,hF2,lF,_,_⟩
  ·rw [hF2] at hF;cases hF
  ·rw [hF2] at hF;cases hF;rw [lF] at hj;injection hj with hj
   injection hj with _ hj
   exact hne (r.head he hj)
 have hL2:look (N'+32) (O1++L)=some (.row 1 ((A++[X]).map fun x=>[x])):=by
  rw [aA,hT1 _ (by omega)];rcases hX with ⟨_,_,rfl⟩ | ⟨_,_,rfl⟩<;>simp
 have tk:e.Xz.take (i+1)=e.Xz.take i++[x]:=by rw [Qh hi,hx]
 have rf:∀(j:Nat) (l:List Int),N<=j->look j O'=some (.row 1 (l.map c32))->look j (O1++L)=some (.row 1 (l.map c32)):=fun j l _ hj=>by
  by_cases z:l.map c32=[]
  ·refine app j _ (hk j _ hj (aF hj lb (by simp)) fun n hF=>?_);rcases f with ⟨_,hF2⟩ | ⟨id,hF2,lF,_,hne⟩
   ·rw [hF2] at hF;cases hF
   ·rw [hF2] at hF;cases hF;rw [lF,z] at hj;injection hj with hj
    injection hj with _ hj
    exact hne hj
  ·exact key _ (fun x hx=>by obtain ⟨y,_,rfl⟩:=iN.1 hx;exact .inr ⟨_,_,rfl⟩) j hj z
 refine ⟨by rw [hE 2 (by simp),e2],by rw [hE 3 (by simp),e3],by rw [hE 20 (by simp),e20],by rw [hE 21 (by simp),e21],hE2,?_,app b _ hb,?_,?_,?_,?_,?_,?_,?_,?_,by omega,an,bn⟩
 ·refine app a _ (hk a _ la ab fun n hF=>?_);rcases f with ⟨_,hF2⟩ | ⟨id,hF2,lF,_,_⟩
  ·rw [hF2] at hF;cases hF
  ·rw [hF2] at hF;cases hF;rw [lF] at la;cases la
 ·rcases v with v | ⟨id,h1,h2,h3,h4⟩
  ·exact .inl v
  ·exact .inr ⟨id,h1,key _ (fun x hx=>by obtain ⟨y,_,rfl⟩:=iN.1 hx;exact .inl ⟨_,rfl⟩) id h2 h4,h3,h4⟩
 ·rcases m with m | ⟨id,h1,h2,h3,h4⟩
  ·exact .inl m
  ·exact .inr ⟨id,h1,key _ (fun x hx=>by obtain ⟨y,_,rfl⟩:=iN.1 hx;exact .inr ⟨_,_,rfl⟩) id h2 h4,h3,h4⟩
 ·exact .inr ⟨N'+32,by simp,hL2,by omega,by simp⟩
 ·rw [tk];rcases hX with ⟨rfl,rfl,_⟩ | ⟨_,rfl,rfl⟩
  ·exact r.snoc0 rf
  ·refine r.snoc hT rf (by omega) (by omega) ?_;rw [aA,hT1 _ (by omega)];simp
 ·intro k id n n' hk2 hM;rw [List.getElem?_append] at hk2;split at hk2
  ·exact mne k id n n' hk2 hM
  ·rcases m with ⟨_,hm⟩ | ⟨id',hm,lm,_⟩
   ·rw [hm] at hM;cases hM
   ·rw [hm] at hM;cases hM;have:=hT.lt lm;cases hkk:k - A.length with
    | zero=>
     rw [hkk] at hk2;simp at hk2;rcases hX with ⟨_,rfl,_⟩ | ⟨_,rfl,_⟩
     ·cases hk2
     ·cases hk2;omega
    | succ j=>rw [hkk] at hk2;simp at hk2
 ·intro j hj hx2;rw [aA];have h1:=kp j hj hx2;rw [hkp j hj,h1];cases hz:look j O0 with
  | some y=>rfl
  | none=>
   rcases hX with ⟨_,_,rfl⟩ | ⟨_,_,rfl⟩<;>simp<;>(repeat rw [jG _ _ _ _ (by omega)])<;>rfl
 ·rcases hX with ⟨_,_,rfl⟩ | ⟨_,_,rfl⟩<;>simp only [Tail_append_iff,Tail_cons_iff]<;>exact ⟨hT1.mono (by omega),by omega,by omega,by first | exact Tail.nil _ | exact ⟨by omega,Tail.nil _⟩⟩
 ·rcases hX with ⟨_,_,rfl⟩ | ⟨_,_,rfl⟩
  ·exact hn1.app (bV (by simp) (.one (by simp)))
  ·exact hn1.app (bV (by simp) (bV (by simp) (.one (by simp))))
theorem T5 {O0:List (Nat×AO)} {N:Nat} {e:Envt} (s:EvS e) {a b:Nat} {E:Env} {O':List (Nat×AO)} {N':Nat} {V F M:AV} {A:List AV} (h:CI O0 N e a b 0 E O' N' V F M A):
  ClP N O0 e (go Φ (finC kB.results) [.c (.loop aU),.b 0,.c cD] .normal ⟨E,⟨O',N'⟩⟩):=by
 refine eQ e.Xz.length (fun i E h=>∃O' N' V F M A,h=⟨O',N'⟩/\CI O0 N e a b i E O' N' V F M A) _ ?_ ?_ 0 _ _ (Qc _) ⟨_,_,_,_,_,_,rfl,h⟩
 ·rintro i E _ K hi hK ⟨O',N',V,F,M,A,rfl,h⟩ ih;have hw:IntKind.wrap .i64 ((i:Int)+1)=((i+1:Nat):Int):=cU (by omega) (by have:=s.f;omega);have t:∀k,look (N'+k) O'=none:=fun k=>h.t _ (by omega)
  have t0:=h.t N' (Qb _);have h0:=h;obtain ⟨e2,e3,e20,e21,e22,la,lb,v,m,f,r,mne,kp,hT,nr,hN,an,bn⟩:=h;generalize hx:e.Xz[i]=x;have jU:=Kn x (by rw [<- hx];exact s.g _ (Qd hi));have fb:=fun k=>aY (n:=N'+k) hT lb (by omega)
  have bq:∀k,(b == N'+k)=false:=fun k=>by have:=fb k;simp;omega
  have hfl:=s.f;have hE:∀(E2:Env),(∀t,t=2\/t=3\/t=20\/t=21->look t E2=look t E)->∀t,t=2\/t=3\/t=20\/t=21->look t E2=look t E:=fun _ h=>h
  rcases f with ⟨hA,rfl⟩ | ⟨id,rfl,lF,hid,hne⟩
  ·have hA':A=[]:=by simpa using hA
   subst hA';have fin:∀{E2:Env} {Y:List AV} {L:List (Nat×AO)} {X:AV},(∀t,t=2\/t=3\/t=20\/t=21->look t E2=look t E)->look 22 E2=some (.int .i64 (i+1:Nat))->Y=[V,.row (N'+32) 1 0 1,M,.slice 1 (e.payload.map c8)]->
     ((x=[]/\X= .Xt 1 []/\L=[(N'+31,.row 1 [[X]]),(N'+32,.row 1 [[X]])])\/(x≠[]/\X= .row (N'+30) 1 0 x.length/\L=[(N'+30,.row 1 (x.map c32)),(N'+31,.row 1 [[X]]),(N'+32,.row 1 [[X]])]))->
     ClP N O0 e (go Φ (finC kB.results) K .normal ⟨E2,⟨setl b (.row 4 [Y]) O'++L,N'+33⟩⟩):=fun {E2 Y L X} hE hE2 hY hX=>
    ih _ _ ⟨_,_,V,_,M,_,rfl,Lu h0 hi hx hE hE2 (by rw [a7,a8 rfl,lb,hY];rfl) (fun j y hj hjb _=>by rw [a7,QA hjb,hj]) (fun j hj=>by rw [a7,QA (by omega)]) (aK hT) (nr.setl (by simp)) hX⟩
   by_cases zx:x=[]
   ·simp [zx] at jU;have hx':=hx;rw [zx] at hx';simp [aU,e2,e3,e20,e21,e22,hi,hx',cS,hw,t0,t,d7,jU,lb,aA,a7,oE,nr.eq,nr.sw,eZ,fb,bq,uT lb];exact fin (by rintro t (rfl | rfl | rfl | rfl)<;>simp) (by simp) rfl (.inl ⟨zx,rfl,rfl⟩)
   ·simp [zx] at jU;simp [aU,e2,e3,e20,e21,e22,hi,hx,cS,hw,t0,t,d7,jU,lb,aA,a7,oE,nr.eq,nr.sw,eZ,fb,bq,uT lb];exact fin (by rintro t (rfl | rfl | rfl | rfl)<;>simp) (by simp) rfl (.inr ⟨zx,rfl,rfl⟩)
  ·have ib:¬id=b/\¬b=id:=by
    have:=aF lF lb (by simp);exact ⟨this,fun e=>this e.symm⟩
   have fi:=fun k=>aY (n:=N'+k) hT lF (by omega)
   have iq:∀k,(id == N'+k)=false:=fun k=>by have:=fi k;simp;omega
   have hb:(A.length+1)*24<=70368744177664:=by have:=r.len;simp at this;omega
   have lb1:look b (dropl id O')=_:=(iR ib.2 O').trans lb;have fin:∀{E2:Env} {Y:List AV} {L:List (Nat×AO)} {X:AV},(∀t,t=2\/t=3\/t=20\/t=21->look t E2=look t E)->look 22 E2=some (.int .i64 (i+1:Nat))->Y=[V,.row (N'+32) 1 0 (A.length+1),M,.slice 1 (e.payload.map c8)]->
     ((x=[]/\X= .Xt 1 []/\L=[(N'+31,.row 1 [[X]]),(N'+32,.row 1 ((A.map fun x=>[x])++[[X]]))])\/(x≠[]/\X= .row (N'+30) 1 0 x.length/\L=[(N'+30,.row 1 (x.map c32)),(N'+31,.row 1 [[X]]),(N'+32,.row 1 ((A.map fun x=>[x])++[[X]]))]))->
     ClP N O0 e (go Φ (finC kB.results) K .normal ⟨E2,⟨setl b (.row 4 [Y]) (dropl id O')++L,N'+33⟩⟩):=fun {E2 Y L X} hE hE2 hY hX=>
    ih _ _ ⟨_,_,V,_,M,_,rfl,Lu h0 hi hx hE hE2 (by rw [a7,a8 rfl,lb1,hY];rfl) (fun j y hj hjb hjF=>by
     have:j≠id:=fun e=>hjF _ (by rw [e])
     rw [a7,QA hjb,iR this,hj]) (fun j hj=>by rw [a7,QA (by omega),iR (by omega)]) (aK (uN hT)) (nr.dropl.setl (by simp)) (by simpa using hX)⟩
   by_cases zx:x=[]
   ·simp [zx] at jU;have hx':=hx;rw [zx] at hx';simp [aU,e2,e3,e20,e21,e22,hi,hx',cS,hw,t0,t,d7,jU,lb,lF,aA,a7,iR,oE,nr.eq,eZ,fb,bq,ib,fi,iq,hb,IO lF,uT lb1,nr.dropl.sw];exact fin (by rintro t (rfl | rfl | rfl | rfl)<;>simp) (by simp) rfl (.inl ⟨zx,rfl,rfl⟩)
   ·simp [zx] at jU;simp [aU,e2,e3,e20,e21,e22,hi,hx,cS,hw,t0,t,d7,jU,lb,lF,aA,a7,iR,oE,nr.eq,eZ,fb,bq,ib,fi,iq,hb,IO lF,uT lb1,nr.dropl.sw];exact fin (by rintro t (rfl | rfl | rfl | rfl)<;>simp) (by simp) rfl (.inr ⟨zx,rfl,rfl⟩)
 ·rintro E _ K hK ⟨O',N',V,F,M,A,rfl,h⟩;obtain ⟨e2,e3,e20,e21,e22,la,lb,v,m,f,r,mne,kp,hT,nr,hN,an,bn⟩:=h;rw [iS] at r;have ab:a≠b:=aF la lb (by simp [z4]);have ba:¬b=a:=fun e=>ab e.symm
  rw [z4] at la;simp [kB,aU,cD,e2,e3,e20,e21,e22,la,lb,a7] at hK ⊢;simp [cD,hK,e2,e3,la,lb,a7];have ne:∀{es:List (List AV)} {j:Nat},look j O'=some (.row 1 es)->look j (setl a (.row 4 [[V,F,M,.slice 1 (e.payload.map c8)]]) O')=some (.row 1 es):=fun {es j} h=>by
   rw [a7,QA (aF h la (by simp)),h]
  exact ⟨_,_,V,F,M,A,rfl,⟨v.fr fun j _ h=>ne h,m.fr fun j _ h=>ne h,f.fr fun j _ h=>ne h,r.fr fun j l _ h=>ne h,mne⟩,kp.setl (.inl an),aK hT,hN,nr.setl (by simp)⟩
theorem Bo {O:List (Nat×AO)} {N:Nat} (hT:Tail O N) (hN:NR O) (e:Envt) (s:EvS e):ClP N O e (aD Φ 171 [.agg e.c] ⟨O,N⟩):=by
 rw [cP rfl rfl];have t:∀k,look (N+k) O=none:=fun k=>hT _ (by omega)
 have t0:=hT N (Qb _);have jB:=PY e.valid s.v;have jU:=Kn e.metaF s.m;have jP:=PZ e.payload s.p;have bq:∀k,0<k->(N == N+k)=false/\(N+k == N)=false:=fun k hk=>by simp;omega
 have fin:∀{E2:Env} {V M:AV} {x:List AV} {L:List (Nat×AO)},look 2 E2=some (.ptr (N+1) 4 0 0)->look 3 E2=some (.ptr (N+5) 4 0 0)->look 20 E2=some (.slice 1 (e.Xz.map (cS 1 c32)))->look 21 E2=some (.int .i64 e.Xz.length)->look 22 E2=some (.int .i64 (0:Nat))->
   look (N+1) L=some (.row 4 [z4])->look (N+5) L=some (.row 4 [[V,.Xt 1 [],M,.slice 1 (e.payload.map c8)]])->NRw L N V (e.valid.map cB)->NRw L N M (e.metaF.map c32)->(∀j,j<N->look j L=none)->Tail L (N+16)->NR L->
   ClP N O e (go Φ (finC kB.results) [.c (.loop aU),.b 0,.c cD] .normal ⟨E2,⟨O++L,N+16⟩⟩):=fun {E2 V M x L} h2 h3 h20 h21 h22 hl1 hl5 hv hm hlt hTL hNL=>
  have hw:∀j y,N<=j->look j L=some y->look j (O++L)=some y:=fun j y hj hl=>by rw [aA,hT j hj,hl];rfl
  T5 s (a:=N+1) (b:=N+5) (A:=[]) ⟨h2,h3,h20,h21,h22,hw _ _ (by omega) hl1,hw _ _ (by omega) hl5,hv.fr fun j h1 h2=>hw _ _ h1 h2,hm.fr fun j h1 h2=>hw _ _ h1 h2,.inl ⟨rfl,rfl⟩,by simpa using RL.nil,by simp,fun j hj _=>by
   rw [aA,hlt j hj];simp,Tail_append_iff.2 ⟨hT.mono (by omega),hTL⟩,hN.app hNL,by omega,by omega,by omega⟩
 have lt1:∀{u j:Nat} {y:AO} {r:List (Nat×AO)},j<u->look j r=none->look j ((u,y)::r)=none:=fun {u j y r} h1 h2=>by rw [jG _ _ _ _ (by omega),h2]
 have ne1:∀k j,j<N->N+k≠j:=fun k j h=>by omega
 have lt6:∀k,k<16->N+k<N+16:=fun k h=>by omega
 by_cases zv:e.valid=[]<;>by_cases zm:e.metaF=[]<;>simp [zv] at jB<;>simp [zm] at jU
 all_goals
  simp [kB,Envt.ce,t0,t,d7,zv,zm,jB,jU,jP,aA,a7,oE,hN.eq,eZ,bq]
 ·refine fin (V:= .Xt 1 []) (M:= .Xt 1 []) (x:=[]) (by simp) (by simp) (by simp) (by simp) (by simp) (by simp [z4]) (by simp) (.inl ⟨by simp [zv],rfl⟩) (.inl ⟨by simp [zm],rfl⟩) ?_ ?_ ?_
  ·intro j hj
   repeat first | exact IW _ | refine (jG _ _ _ _ (ne1 0 _ hj)).trans ?_ | refine (jG _ _ _ _ (ne1 _ _ hj)).trans ?_
  ·simp only [Tail_cons_iff];exact ⟨lt6 0 (by decide),lt6 1 (by decide),lt6 _ (by decide),Tail.nil _⟩
  ·exact bV (by simp) (bV (by simp) (bV (by simp) (A1)))
 ·refine fin (V:= .Xt 1 []) (M:= .row (N+15) 1 0 e.metaF.length) (x:=[]) (by simp) (by simp) (by simp) (by simp) (by simp) (by simp [z4]) (by simp) (.inl ⟨by simp [zv],rfl⟩) (.inr ⟨N+15,by simp,by simp,by omega,by simpa using zm⟩) ?_ ?_ ?_
  ·intro j hj
   repeat first | exact IW _ | refine (jG _ _ _ _ (ne1 0 _ hj)).trans ?_ | refine (jG _ _ _ _ (ne1 _ _ hj)).trans ?_
  ·simp only [Tail_cons_iff];exact ⟨lt6 0 (by decide),lt6 1 (by decide),lt6 _ (by decide),lt6 _ (by decide),Tail.nil _⟩
  ·exact bV (by simp) (bV (by simp) (bV (by simp) (bV (by simp) (A1))))
 ·refine fin (V:= .row (N+11) 1 0 e.valid.length) (M:= .Xt 1 []) (x:=[]) (by simp) (by simp) (by simp) (by simp) (by simp) (by simp [z4]) (by simp) (.inr ⟨N+11,by simp,by simp,by omega,by simpa using zv⟩) (.inl ⟨by simp [zm],rfl⟩) ?_ ?_ ?_
  ·intro j hj
   repeat first | exact IW _ | refine (jG _ _ _ _ (ne1 0 _ hj)).trans ?_ | refine (jG _ _ _ _ (ne1 _ _ hj)).trans ?_
  ·simp only [Tail_cons_iff];exact ⟨lt6 0 (by decide),lt6 1 (by decide),lt6 _ (by decide),lt6 _ (by decide),Tail.nil _⟩
  ·exact bV (by simp) (bV (by simp) (bV (by simp) (bV (by simp) (A1))))
 ·refine fin (V:= .row (N+11) 1 0 e.valid.length) (M:= .row (N+15) 1 0 e.metaF.length) (x:=[]) (by simp) (by simp) (by simp) (by simp) (by simp) (by simp [z4]) (by simp) (.inr ⟨N+11,by simp,by simp,by omega,by simpa using zv⟩) (.inr ⟨N+15,by simp,by simp,by omega,by simpa using zm⟩) ?_ ?_ ?_
  ·intro j hj
   repeat first | exact IW _ | refine (jG _ _ _ _ (ne1 0 _ hj)).trans ?_ | refine (jG _ _ _ _ (ne1 _ _ hj)).trans ?_
  ·simp only [Tail_cons_iff];exact ⟨lt6 0 (by decide),lt6 1 (by decide),lt6 _ (by decide),lt6 _ (by decide),lt6 _ (by decide),Tail.nil _⟩
  ·exact bV (by simp) (bV (by simp) (bV (by simp) (bV (by simp) (bV (by simp) (A1)))))
theorem NRw.len {O:List (Nat×AO)} {B:Nat} {X:AV} {es:List (List AV)} (h:NRw O B X es):lenOf X=some es.length:=by
 rcases h with ⟨rfl,rfl⟩ | ⟨id,rfl,_⟩<;>rfl
theorem NRw.sU {O:List (Nat×AO)} {B N:Nat} {X:AV} {l:List Int} (h:NRw O B X (l.map c32)):snap 40 ⟨O,N⟩ X=some (.slice 1 (l.map c32)):=h.snp (n:=39) (mL (g:=c32) (fun x=>by simp [c32]) l)
theorem NRw.sB {O:List (Nat×AO)} {B N:Nat} {X:AV} {l:List Bool} (h:NRw O B X (l.map cB)):snap 40 ⟨O,N⟩ X=some (.slice 1 (l.map cB)):=h.snp (n:=39) (mL (g:=cB) (fun x=>by simp [cB]) l)
theorem aW {O L:List (Nat×AO)} {j:Nat} {y:AO} (h:look j O=some y):look j (O++L)=some y:=by rw [aA,h];rfl
theorem EM.app {O:List (Nat×AO)} {B:Nat} {V F M:AV} {A:List AV} {e:Envt} (h:EM O B V F M A e) (L:List (Nat×AO)):EM (O++L) B V F M A e:=
 ⟨h.v.fr fun _ _ h=>aW h,h.m.fr fun _ _ h=>aW h,h.f.fr fun _ _ h=>aW h,h.r.fr fun _ _ _ h=>aW h,h.mne⟩
def ElP (N:Nat) (O:List (Nat×AO)) (M:AV) (A:List AV) (e:Envt) (h f:Int) (r:Option (Rt×AH)):Prop:=
 ∃X L N',r=some (.val (.tup [X,.bool (eHas e h f)]),⟨O++L,N'⟩)/\Tail (O++L) N'/\NR (O++L)/\N<=N'/\(eHas e h f=true->(h= -1/\X=M)\/∃k:Nat,h=k/\A[k]? =some X)
theorem NX {O:List (Nat×AO)} {N B:Nat} (hT:Tail O N) (hN:NR O) {V F M:AV} {A:List AV} {e:Envt} (m:EM O B V F M A e) (h f:Int) (P:AV):
  ElP N O M A e h f (aD Φ 173 [.agg [V,F,M,P],.agg [.int .i64 h,.int .i64 f]] ⟨O,N⟩):=by
 rw [cP rfl rfl];have t0:=hT N (Qb _);have t1:=hT (N+1) (by omega);have n1:¬N=N+1:=by omega
 have hi:=En;have fin:∀{X:AV} {x y:AO} {b:Bool},b=eHas e h f->x≠ .res->y≠ .res->(eHas e h f=true->(h= -1/\X=M)\/∃k:Nat,h=k/\A[k]? =some X)->ElP N O M A e h f (some (.val (.tup [X,.bool b]),⟨O++[(N,x),(N+1,y)],N+2⟩)):=fun {X x y b} hb hx hy hh=>by
  rw [hb];exact ⟨X,_,_,rfl,Tail_append_iff.2 ⟨hT.mono (by omega),Tail_cons_iff.2 ⟨by omega,Tail_cons_iff.2 ⟨by omega,Tail.nil _⟩⟩⟩,hN.app (bV hx (.one hy)),by omega,hh⟩
 by_cases hm:h= -1
 ·subst hm;have sM:=fun L n=>NRw.sU (N:=n) (m.app L).m
  have e1:eHas e (-1) f=decide (0<=f/\f<(e.metaF.map c32).length):=by simp [eHas,CM]
  simp [dI,t0,t1,n1,sM,hi,aA];exact fin (by rw [e1];simp) (by simp) (by simp) fun _=> .inl ⟨rfl,rfl⟩
 have sV:=fun L n=>NRw.sB (N:=n) (m.app L).v
 have hv:=EN e.valid h;have hlF:=m.f.len;rw [cQ,m.r.len] at hlF;have out:(at? e.Xz h)=none->eHas e h f=false:=fun z=>by simp [eHas,hm,z]
 by_cases h0:h<0
 ·have z:=out (iC h0);rw [iC h0] at hv;simp at hv;simp [dI,t0,t1,n1,sV,hi,aA,hm,rD,bO,h0,hv,hlF,-lenOf];exact fin (by rw [z]) (by simp) (by simp) fun q=>by rw [z] at q;cases q
 by_cases h1:(e.Xz.length:Int)<=h
 ·have z:=out (iK h1);cases q:(at? e.valid h).getD false with
  | false=>
   rw [q] at hv;simp [dI,t0,t1,n1,sV,hi,aA,hm,rD,bO,h0,h1,hv,hlF,-lenOf];exact fin (by rw [z]) (by simp) (by simp) fun q=>by rw [z] at q;cases q
  | true=>
   rw [q] at hv;have hi0:=En [] f;have e0:decide (0<=f/\f<(([]:List (List AV)).length:Int))=false:=by simp
   rw [e0] at hi0;simp [dI,t0,t1,n1,sV,hi0,aA,hm,rD,bO,h0,h1,hv,hlF,-lenOf];exact fin (by rw [z]) (by simp) (by simp) fun q=>by rw [z] at q;cases q
 obtain ⟨k,rfl⟩:=mP (show 0<=h by omega);have hk:k<e.Xz.length:=by omega
 have hk2:¬e.Xz.length<=k:=by omega
 have hkA:k<A.length:=by rw [m.r.len];exact hk
 rcases m.f with ⟨hA,rfl⟩ | ⟨id,rfl,lF,hid,hne⟩
 ·simp at hA;rw [hA] at hkA;simp at hkA
 have fi:=aY hT lF (Qb N);have fi1:=aY (n:=N+1) hT lF (by omega);have hAk:A[k]? =some A[k]:=Qa hkA;have sA:∀L n,snap 40 ⟨O++L,n⟩ A[k]=some (.slice 1 (e.Xz[k].map c32)):=fun L n=>by
  have:=(m.app L).r.row k _ _ hAk (Qa hk);rcases this with ⟨z,h⟩ | ⟨id,h,hl,_⟩
  ·rw [h,z];simp
  ·have h2:=mL (g:=c32) (n:=39) (H:=⟨O++L,n⟩) (fun x=>by simp [c32]) e.Xz[k];have ht:(e.Xz[k].map c32).take e.Xz[k].length=e.Xz[k].map c32:=Qo (by simp);rw [h];simp [hl,ht,h2]
 have hlA:=m.r.len;have e1:eHas e k f=((at? e.valid k).getD false&&decide (0<=f/\f<(e.Xz[k].map c32).length)):=by simp [eHas,hm,hk,CM]
 cases q:(at? e.valid (k:Int)).getD false with
 | false=>
  rw [q] at hv e1;simp [dI,t0,t1,n1,sV,sA,hi,aA,hm,rD,bO,hk,hk2,hv,hlA,lF,fi,fi1];exact fin (by rw [e1];rfl) (by simp) (by simp) fun _=> .inr ⟨k,rfl,hAk⟩
 | true=>
  rw [q] at hv e1;simp [dI,t0,t1,n1,sV,sA,hi,aA,hm,rD,bO,hk,hk2,hv,hlA,lF,fi,fi1];exact fin (by rw [e1];simp) (by simp) (by simp) fun _=> .inr ⟨k,rfl,hAk⟩
end Go.Av
