/-
 Lookup: lookup.Best over mutable rows.
-/
import Derived.Test.YtcehjengeaafpaaGreatQ10
import Derived.KernelRfl
set_option linter.all false
namespace Go.Av
set_option maxRecDepth 4000
theorem nne6 (N:Nat):¬N=N+1/\¬N=N+1+1/\¬N=N+1+1+1/\¬N=N+1+1+1+1/\¬N=N+1+1+1+1+1/\¬N=N+1+1+1+1+1+1/\¬N+1=N/\¬N+1=N+1+1/\¬N+1=N+1+1+1/\¬N+1=N+1+1+1+1/\¬N+1=N+1+1+1+1+1/\¬N+1=N+1+1+1+1+1+1/\¬N+1+1=N/\¬N+1+1=N+1/\¬N+1+1=N+1+1+1/\¬N+1+1=N+1+1+1+1/\¬N+1+1=N+1+1+1+1+1/\¬N+1+1=N+1+1+1+1+1+1/\¬N+1+1+1=N/\¬N+1+1+1=N+1/\¬N+1+1+1=N+1+1/\¬N+1+1+1=N+1+1+1+1/\¬N+1+1+1=N+1+1+1+1+1/\¬N+1+1+1=N+1+1+1+1+1+1/\¬N+1+1+1+1=N/\¬N+1+1+1+1=N+1/\¬N+1+1+1+1=N+1+1/\¬N+1+1+1+1=N+1+1+1/\¬N+1+1+1+1=N+1+1+1+1+1/\¬N+1+1+1+1=N+1+1+1+1+1+1/\¬N+1+1+1+1+1=N/\¬N+1+1+1+1+1=N+1/\¬N+1+1+1+1+1=N+1+1/\¬N+1+1+1+1+1=N+1+1+1/\¬N+1+1+1+1+1=N+1+1+1+1/\¬N+1+1+1+1+1=N+1+1+1+1+1+1/\¬N+1+1+1+1+1+1=N/\¬N+1+1+1+1+1+1=N+1/\¬N+1+1+1+1+1+1=N+1+1/\¬N+1+1+1+1+1+1=N+1+1+1/\¬N+1+1+1+1+1+1=N+1+1+1+1/\¬N+1+1+1+1+1+1=N+1+1+1+1+1:=by
 omega
def VX (N:Nat) (O:List (Nat×AO)) (o:Option Rw) (r:Option (Rt×AH)):Prop:=
 ∃O' N',r=some (.val (.tup [.agg (rowV o),.bool o.isSome]),⟨O',N'⟩)/\Kp (fun _=>False) N O O'/\Tail O' N'/\N<=N'
theorem SL (p:Prg) (f:PrgS p) (k:Nat) (hk:k<p.Xm.length) (key:List Int) {O:List (Nat×AO)} {N:Nat} (hT:Tail O N) {L:AV} {l:List Rw} (hL:Re O 5 L (l.map Rw.c)) (hll:l.length<2^40) (hl:∀x∈l,EntS x.entry):
  VX N O (bstP p k l key) (aD Φ 178 [.agg (Prg.c p),.int .i64 k,L,.slice 1 (key.map c32)] ⟨O,N⟩):=by
 rw [cP rfl rfl];have t0:=hT N (Qb _);have t1:=hT (N+1) (by omega);have t2:=hT (N+1+1) (by omega);have t3:=hT (N+1+1+1) (by omega);have t4:=hT (N+1+1+1+1) (by omega);have t5:=hT (N+1+1+1+1+1) (by omega);have hlt:¬((k:Int)<0):=by omega
 have hge:¬((p.Xm.length:Int)<=(k:Int)):=by omega
 have hbs:(l.find? fun r=>mtF r.entry key&& !(l.any fun x=>mtF x.entry key&&prc p k x r))=bstP p k l key:=rfl;have hT6:Tail (O++[(N,.row 9 [Prg.c p]),(N+1,.row 1 [[.int .i64 k]]),(N+1+1,.row 1 [[L]]),(N+1+1+1,.row 1 [[.slice 1 (key.map c32)]]),(N+1+1+1+1,.row 5 [zRow]),(N+1+1+1+1+1,.row 1 [[.func (.func 280) [] [.ptr (N+1+1+1) 1 0 0]]])]) (N+1+1+1+1+1+1):=hT.apps (by omega) (by simp only [iW,List.not_mem_nil,or_false];rintro x (rfl | rfl | rfl | rfl | rfl | rfl)<;>simp only<;>omega);have hk6:Kp (fun _=>False) N O (O++[(N,.row 9 [Prg.c p]),(N+1,.row 1 [[.int .i64 k]]),(N+1+1,.row 1 [[L]]),(N+1+1+1,.row 1 [[.slice 1 (key.map c32)]]),(N+1+1+1+1,.row 5 [zRow]),(N+1+1+1+1+1,.row 1 [[.func (.func 280) [] [.ptr (N+1+1+1) 1 0 0]]])]):=Kp.apps (by simp only [iW,List.not_mem_nil,or_false];rintro x (rfl | rfl | rfl | rfl | rfl | rfl)<;>simp only<;>omega);have own:∀j,vid L=some j->j<N:=fun j hj=>by
  cases hL with
  | row id _ es0 n hn hl hle ht=>cases hj;exact hT.lt hl
  | sl=>cases hj
  | fs=>cases hj
  | ap=>cases hj
 have b0:look N (O++[(N,.row 9 [Prg.c p]),(N+1,.row 1 [[.int .i64 k]]),(N+1+1,.row 1 [[L]]),(N+1+1+1,.row 1 [[.slice 1 (key.map c32)]]),(N+1+1+1+1,.row 5 [zRow]),(N+1+1+1+1+1,.row 1 [[.func (.func 280) [] [.ptr (N+1+1+1) 1 0 0]]])])=some (.row 9 [Prg.c p]):=by simp [aA,t0]
 have b1:look (N+1) (O++[(N,.row 9 [Prg.c p]),(N+1,.row 1 [[.int .i64 k]]),(N+1+1,.row 1 [[L]]),(N+1+1+1,.row 1 [[.slice 1 (key.map c32)]]),(N+1+1+1+1,.row 5 [zRow]),(N+1+1+1+1+1,.row 1 [[.func (.func 280) [] [.ptr (N+1+1+1) 1 0 0]]])])=some (.row 1 [[.int .i64 k]]):=by simp [aA,t1,nne6 N]
 have b2:look (N+1+1) (O++[(N,.row 9 [Prg.c p]),(N+1,.row 1 [[.int .i64 k]]),(N+1+1,.row 1 [[L]]),(N+1+1+1,.row 1 [[.slice 1 (key.map c32)]]),(N+1+1+1+1,.row 5 [zRow]),(N+1+1+1+1+1,.row 1 [[.func (.func 280) [] [.ptr (N+1+1+1) 1 0 0]]])])=some (.row 1 [[L]]):=by simp [aA,t2,nne6 N]
 have b3:look (N+1+1+1) (O++[(N,.row 9 [Prg.c p]),(N+1,.row 1 [[.int .i64 k]]),(N+1+1,.row 1 [[L]]),(N+1+1+1,.row 1 [[.slice 1 (key.map c32)]]),(N+1+1+1+1,.row 5 [zRow]),(N+1+1+1+1+1,.row 1 [[.func (.func 280) [] [.ptr (N+1+1+1) 1 0 0]]])])=some (.row 1 [[.slice 1 (key.map c32)]]):=by simp [aA,t3,nne6 N]
 have b4:look (N+1+1+1+1) (O++[(N,.row 9 [Prg.c p]),(N+1,.row 1 [[.int .i64 k]]),(N+1+1,.row 1 [[L]]),(N+1+1+1,.row 1 [[.slice 1 (key.map c32)]]),(N+1+1+1+1,.row 5 [zRow]),(N+1+1+1+1+1,.row 1 [[.func (.func 280) [] [.ptr (N+1+1+1) 1 0 0]]])])=some (.row 5 [zRow]):=by simp [aA,t4,nne6 N]
 have b5:look (N+1+1+1+1+1) (O++[(N,.row 9 [Prg.c p]),(N+1,.row 1 [[.int .i64 k]]),(N+1+1,.row 1 [[L]]),(N+1+1+1,.row 1 [[.slice 1 (key.map c32)]]),(N+1+1+1+1,.row 5 [zRow]),(N+1+1+1+1+1,.row 1 [[.func (.func 280) [] [.ptr (N+1+1+1) 1 0 0]]])])=some (.row 1 [[.func (.func 280) [] [.ptr (N+1+1+1) 1 0 0]]]):=by simp [aA,t5,nne6 N]
 have hL6:Re (O++[(N,.row 9 [Prg.c p]),(N+1,.row 1 [[.int .i64 k]]),(N+1+1,.row 1 [[L]]),(N+1+1+1,.row 1 [[.slice 1 (key.map c32)]]),(N+1+1+1+1,.row 5 [zRow]),(N+1+1+1+1+1,.row 1 [[.func (.func 280) [] [.ptr (N+1+1+1) 1 0 0]]])]) 5 L (l.map Rw.c):=hL.fr fun j hj=>hk6 j (own j hj) (by simp)
 obtain ⟨O7,N7,e7,k7,hT7,hN7⟩:=Mq hT6 hL6 hll (g:=283) (caps:=[.ptr (N+1+1+1+1+1) 1 0 0,.ptr (N+1+1) 1 0 0,.ptr N 9 0 0,.ptr (N+1) 1 0 0])
  (caps':=[.iptr 1 [[F1 key]] 0 0,.iptr 1 [[.slice 5 (l.map Rw.c)]] 0 0,.iptr 9 [Prg.c p] 0 0,.iptr 1 [[.int .i64 k]] 0 0]) (fun r=>mtF r.entry key&& !(l.any fun x=>mtF x.entry key&&prc p k x r))
  (fun O' N' h=>by
   have c0:=(h N (by omega)).trans b0;have c1:=(h (N+1) (by omega)).trans b1;have c2:=(h (N+1+1) (by omega)).trans b2;have c3:=(h (N+1+1+1) (by omega)).trans b3;have c5:=(h (N+1+1+1+1+1) (by omega)).trans b5;have hL':Re O' 5 L (l.map Rw.c):=hL6.fr fun j hj=>h j (by have:=own j hj;omega)
   have cl:=hL'.snp (N:=N') (n:=38) (mL (n:=38) (H:=⟨O',N'⟩) (fun x=>Ew x) l);rw [Prg.e] at c0 ⊢;simp [c0,c1,c2,c3,c5,cl,F1])
  (fun r hr=>OM p f k key l hl hll r (hl r hr))
 rw [hbs] at e7;have u7:=hT7 N7 (Qb _);have d4:=k7.lk hT6 b4 (by simp);have e4:¬N7=(N+1+1+1+1):=by omega
 have e4':¬(N+1+1+1+1)=N7:=by omega
 simp only [Prg.e,zRow] at e7 d4;cases hb:bstP p k l key with
 | some r=>
  have hr:EntS r.entry:=hl r (KB hb);have kc:=Ka r hr;rw [hb] at e7;simp only [Rw.ce] at e7 kc;simp [rV,Prg.e,t0,t1,t2,t3,t4,t5,aA,a7,nne6 N,hlt,hge,hL.cells,-AV.cells,frzB,e7,u7,d4,kc,e4,e4'];refine ⟨_,_,by simp [rowV,Rw.ce];rfl,?_,aK (hT7.mono (Nat.le_succ _)),by omega⟩;exact Kp.setl (hk6.trans k7 (by omega)) (.inl (by omega))
 | none=>
  have kc:=OG;rw [hb] at e7;simp only [Rw.ce,noE,zRow,oJ] at e7 kc;simp [rV,Prg.e,t0,t1,t2,t3,t4,t5,aA,a7,nne6 N,hlt,hge,hL.cells,-AV.cells,frzB,e7,u7,d4,kc,e4,e4'];refine ⟨_,_,by simp [rowV,Rw.ce,noE];rfl,?_,aK (hT7.mono (Nat.le_succ _)),by omega⟩;exact Kp.setl (hk6.trans k7 (by omega)) (.inl (by omega))
theorem TO (p:Prg) (t:Int) (a:Rw):prc p t a a=false:=by simp [prc]
theorem Dp (p:Prg) (t:Int) (a b:Rw):prc p t a b=true↔b.entry.Xs<a.entry.Xs\/(a.entry.Xs=b.entry.Xs/\(pfxZ p t b.entry<pfxZ p t a.entry\/(pfxZ p t a.entry=pfxZ p t b.entry/\a.id<b.id))):=by
 unfold prc;split
 ·simp;omega
 ·split
  ·simp;omega
  ·simp;omega
theorem XF (p:Prg) (t:Int) (a b c:Rw) (h1:prc p t a b=true) (h2:prc p t b c=true):prc p t a c=true:=by
 rw [Dp] at*;omega
theorem TP (p:Prg) (t:Int) (a b:Rw) (h:a.id≠b.id):prc p t a b=true\/prc p t b a=true:=by
 rw [Dp,Dp];omega
theorem VS (p:Prg) (t:Int) (l:List Rw) (hl:l.Pairwise fun a b=>a.id<b.id) (key:List Int):bstP p t l key=Fb (fun r=>mtF r.entry key) (prc p t) l:=by
 refine SK (TO p t) (XF p t) l fun a ha b hb hab=>TP p t a b fun hid=>hab ?_
 obtain ⟨i,hi,rfl⟩:=Qn.1 ha;obtain ⟨j,hj,rfl⟩:=Qn.1 hb;rw [H3] at hl;rcases Nat.lt_trichotomy i j with h | h | h
 ·have:=hl i j hi hj h;omega
 ·subst h;rfl
 ·have:=hl j i hj hi h;omega
def rv (o:Option Rw):List AV:=match o with
 | some x=>Rw.c x
 | none=>zRow
def oB (p:Prg) (t:Int) (key:List Int) (l:List Rw):Option Rw:=l.foldl (qE (fun r=>mtF r.entry key) (prc p t)) none
theorem ON {α:Type} (m:α->Bool) (pr:α->α->Bool) (o:Option α) (r:α):qE m pr o r=some r\/qE m pr o r=o:=by
 unfold qE;generalize (m r&&(match o with | none=>true | some b=>pr r b))=c;cases c<;>simp
theorem Kj {α:Type} (m:α->Bool) (pr:α->α->Bool):∀(l:List α) (o:Option α) (x:α),l.foldl (qE m pr) o=some x->x∈l\/o=some x
 | [],o,x,h=> .inr h
 | a::l,o,x,h=>by
  rw [E5] at h;rcases Kj m pr l _ x h with h | h
  ·exact .inl (QB _ h)
  ·rcases ON m pr o a with e | e
   ·rw [e] at h;rw [Option.some.inj h];exact .inl (by simp)
   ·rw [e] at h;exact .inr h
structure MS where
 e:Envt
 rs:List (List Int)
 hits:List Hit
def keyX (p:Prg) (t:Int) (e:Envt):List Int:=match at? p.Xm t with
 | none=>[]
 | some x=>x.keys.map fun k=>iand .u32 (eGet e k.field.header k.field.field) (bF (wid p k.field.header k.field.field))
def selX (p:Prg) (c:Xe) (t:Int) (e:Envt):Option Rw:=oB p t (keyX p t e) ((at? c.rows t).getD [])
def calX (c:Xe) (t:Int) (o:Option Rw):Xb:=match o with
 | some x=>x.entry.call
 | none=>(at? c.Xp t).getD ⟨0,[]⟩
def apX (p:Prg) (c:Xe) (t:Int) (s:MS):MS×Bool:=
 let o:=selX p c t s.e
 let y:=exeX p (calX c t o) s.e s.rs
 (⟨y.1,y.2,s.hits++[⟨t,(o.map (·.id)).getD 0,(calX c t o).Xy⟩]⟩,o.isSome)
def ndX (p:Prg) (c:Xe) (f:List Xa->MS->MS) (s:MS) (x:Xa):MS:=
 if x.kind=2 then f (if evl p [] x.cond s.e []=1 then x.thn else x.els) s
 else let y:=apX p c x.table s;f (if y.2 then x.thn else x.els) y.1
def ctX (p:Prg) (c:Xe):Nat->List Xa->MS->MS
 | 0,_,s=>s
 | n+1,l,s=>l.foldl (ndX p c (ctX p c n)) s
def resX (p:Prg) (s:MS):Rslt:=if (at? s.e.metaF 2).getD 0=1\/512<(emi p s.e).length then ⟨true,0,[],s.hits⟩ else ⟨false,(at? s.e.metaF 1).getD 0,emi p s.e,s.hits⟩
def noR:Rslt:=⟨true,0,[],[]⟩
def runX (p:Prg) (c:Xe) (k:Packet):Option (Rslt×List (List Int)):=if k.port<0\/255<k.port then none else match prs p k.data with
 | none=>none
 | some e=>
  let s:=ctX p c (nest p.Ya) p.Ya ⟨eSet p e (-1) 0 k.port,c.Xl,[]⟩
  some (resX p s,s.rs)
def runL (p:Prg) (c:Xe):List Packet->List Rslt×Xe
 | []=>([],c)
 | k::l=>match runX p c k with
  | none=>(noR::(runL p c l).1,(runL p c l).2)
  | some (r,rs)=>(r::(runL p { c with Xl:=rs } l).1,(runL p { c with Xl:=rs } l).2)
theorem v7 {n:Int} (h1:0<=n:=by omega) (h2:n<4294967296:=by omega):IntKind.wrap .u32 n=n:=by
 have e1:(2:Int)^32=4294967296:=rfl;simp only [IntKind.wrap,IntKind.bits,IntKind.signed,AN,e1];rw [QA (by simp)];omega
theorem WB {v:Int} (h:ok32 0 v):BitVec.ofInt 32 v=BitVec.ofNat 32 v.toNat:=by
 obtain ⟨h1,h2⟩:=h;apply BitVec.eq_of_toNat_eq;simp;omega
theorem C0 {v:Int} (h:ok32 0 v):(BitVec.ofInt 32 v).toNat=v.toNat:=by
 rw [WB h,CC,AJ (by have:=h.1;have:=h.2;omega)]
theorem G7 {v m:Int} (hv:ok32 0 v) (hm:ok32 0 m):iand .u32 v m=((v.toNat&&& m.toNat:Nat):Int):=by
 unfold iand;show IntKind.wrap .u32 ((BitVec.ofInt 32 v&&& BitVec.ofInt 32 m).toNat:Int)=_;have hlt:=(BitVec.ofInt 32 v&&& BitVec.ofInt 32 m).isLt;rw [v7,E1,C0 hv,C0 hm]
theorem De {v m:Int} (hv:ok32 0 v) (hm:ok32 0 m):ior .u32 v m=((v.toNat ||| m.toNat:Nat):Int):=by
 unfold ior;show IntKind.wrap .u32 ((BitVec.ofInt 32 v ||| BitVec.ofInt 32 m).toNat:Int)=_;have hlt:=(BitVec.ofInt 32 v ||| BitVec.ofInt 32 m).isLt;rw [v7,BitVec.toNat_or,C0 hv,C0 hm]
theorem Cr {v m:Int} (hv:ok32 0 v) (hm:ok32 0 m):ixor .u32 v m=((v.toNat^^^m.toNat:Nat):Int):=by
 unfold ixor;show IntKind.wrap .u32 ((BitVec.ofInt 32 v^^^BitVec.ofInt 32 m).toNat:Int)=_;have hlt:=(BitVec.ofInt 32 v^^^BitVec.ofInt 32 m).isLt;rw [v7,BitVec.toNat_xor,C0 hv,C0 hm]
theorem oG (k:Nat):((2^k:Nat):Int)=2^k:=by rw [Int.natCast_pow];rfl
theorem B2 {k:Nat} (h:k<=32):(2:Int)^k<=4294967296:=by
 have:=uD (n:=2) (by decide) h;rw [<- oG];have e:(2:Nat)^32=4294967296:=by decide
 omega
theorem IE {v:Int} (hv:ok32 0 v) {k:Nat} (hk:k<=32):iand .u32 v (2^k - 1)=v % 2^k:=by
 have h1:=B2 hk;have h0:(0:Int)<2^k:=r9 (by decide);have hm:ok32 0 ((2:Int)^k - 1):=⟨by omega,by omega⟩;have e:((2:Int)^k - 1).toNat=2^k - 1:=by have:=oG k;omega
 rw [G7 hv hm,e,DT,Int.natCast_emod,oG,H8 hv.1]
theorem CW {v:Int} {k:Nat} (h0:0<=v):v<2^k↔v.toNat<2^k:=by
 have:=oG k;omega
theorem mB {v:Int} {k:Nat} (h:0<=v/\v<2^k) (hk:k<=32):ok32 0 v:=⟨h.1,by have:=B2 hk;omega⟩
theorem PR {a b:Int} {k:Nat} (hk:k<=32) (ha:0<=a/\a<2^k) (hb:0<=b/\b<2^k):0<=iand .u32 a b/\iand .u32 a b<2^k:=by
 rw [G7 (mB ha hk) (mB hb hk)];have:=Nat.and_lt_two_pow a.toNat ((CW hb.1).1 hb.2);have e:=oG k;omega
theorem U1 {a b:Int} {k:Nat} (hk:k<=32) (ha:0<=a/\a<2^k) (hb:0<=b/\b<2^k):0<=ior .u32 a b/\ior .u32 a b<2^k:=by
 rw [De (mB ha hk) (mB hb hk)];have:=Nat.or_lt_two_pow ((CW ha.1).1 ha.2) ((CW hb.1).1 hb.2);have e:=oG k;omega
theorem Cq {a b:Int} {k:Nat} (hk:k<=32) (ha:0<=a/\a<2^k) (hb:0<=b/\b<2^k):0<=ixor .u32 a b/\ixor .u32 a b<2^k:=by
 rw [Cr (mB ha hk) (mB hb hk)];have:=Nat.xor_lt_two_pow ((CW ha.1).1 ha.2) ((CW hb.1).1 hb.2);have e:=oG k;omega
theorem G9 (v:Int) (n:Nat):0<=v % 2^n/\v % 2^n<2^n:=⟨Int.emod_nonneg _ (Int.ne_of_gt (r9 (by decide))),Int.emod_lt_of_pos _ (r9 (by decide))⟩
theorem Do {a:Int} {k:Nat} (ha:0<=a/\a<2^k) (n:Nat):0<=a / 2^n/\a / 2^n<2^k:=by
 have h0:(0:Int)<2^n:=r9 (by decide);refine ⟨Int.ediv_nonneg ha.1 (uI h0),?_⟩;have:=Int.ediv_le_self (2^n) ha.1;omega
theorem Ls {a b:Int} {k n:Nat} (ha:0<=a/\a<2^k) (hb:0<=b/\b<2^n):0<=a*2^n+b/\a*2^n+b<2^(k+n):=by
 have h0:(0:Int)<2^n:=r9 (by decide);have h1:=Int.mul_nonneg ha.1 (uI h0);have h2:(a+1)*2^n<=2^k*2^n:=Int.mul_le_mul_of_nonneg_right (by omega) (uI h0);rw [Int.add_mul,Int.one_mul] at h2;rw [Int.pow_add];omega
theorem uZ {w:Int} (h:wBad w=false):1<=w/\w<=32:=by
 simp only [wBad,AG,decide_eq_false_iff_not] at h;omega
theorem DJ {w:Int} (h:(wide w).2=0):(wide w).1=w/\1<=w/\w<=32:=by
 unfold wide at*;cases q:wBad w with
 | true=>rw [q] at h;simp at h
 | false=>simp;exact uZ q
theorem Ep {p:Prg} {ps:List Fld} {x:Xd} (h:(prim p ps x).2=0):1<=(prim p ps x).1/\(prim p ps x).1<=32:=by
 unfold prim at*;split
 ·rename_i c;rw [a8 c] at h;split
  ·rename_i c2;rw [a8 c2] at h;cases h
  ·rename_i c2;rw [QA c2] at h;split
   ·rename_i c3;rw [a8 c3] at h;cases h
   ·exact uZ (by simpa using c2)
 rename_i c;rw [QA c] at h;split
 ·rename_i c;rw [a8 c] at h;split
  ·rename_i w q;rw [q] at h;have:=DJ h;omega
  ·rename_i q;rw [q] at h;cases h
 rename_i c;rw [QA c] at h;split
 ·rename_i c;rw [a8 c] at h;split
  ·rename_i w q;rw [q] at h;have:=DJ h;omega
  ·rename_i q;rw [q] at h;cases h
 rename_i c;rw [QA c] at h;split
 ·simp
 ·rename_i q;rw [QA q] at h;cases h
def fitW (v w:Int):Prop:=1<=w/\w<=32/\0<=v/\v<2^w.toNat
theorem Lz {o:Int} (h:ari o=1):o=5\/o=6\/o=7\/o=8:=by
 unfold ari at h;split at h
 ·cases h
 split at h
 ·omega
 split at h
 ·cases h
 split at h<;>cases h
theorem Ma {o:Int} (h:ari o=2):9<=o/\o<=16:=by
 unfold ari at h;split at h
 ·cases h
 split at h
 ·cases h
 split at h
 ·assumption
 split at h<;>cases h
theorem Lo {o:Int} (h0:¬ari o<0) (h:¬ari o=0) (h1:¬ari o=1) (h2:¬ari o=2):o=17:=by
 unfold ari at h0 h h1 h2;split at h
 ·exact absurd rfl h
 rename_i q1;rw [QA q1] at h0 h1 h2;split at h1
 ·exact absurd rfl h1
 rename_i q2;rw [QA q2] at h0 h2;split at h2
 ·exact absurd rfl h2
 rename_i q3;rw [QA q3] at h0;split at h0
 ·assumption
 ·exact absurd (by decide) h0
theorem Y6 {x:Xd} {a w:Int} (hx:ari x.op=1) (ha:fitW a w) (h:(comb x w 0 0).2=0):fitW (xUn x a w) (comb x w 0 0).1:=by
 obtain ⟨w1,w2,a1⟩:=ha;have hp:(0:Int)<2^w.toNat:=r9 (by decide);rcases Lz hx with o | o | o | o
 ·have e:comb x w 0 0=(w,0):=by simp [comb,o,ari]
  rw [e];simp only [xUn,o,if_true];exact ⟨w1,w2,by omega⟩
 ·have e:(comb x w 0 0).1=w:=by
   unfold comb at*;rw [a8 (by omega)] at h ⊢;split
   ·rename_i c;rw [a8 c] at h;cases h
   ·rfl
  rw [e];simp only [xUn,o,if_true];rw [QA (by decide)];exact ⟨w1,w2,G9 _ _⟩
 ·have e:(comb x w 0 0).1=w:=by
   unfold comb at*;rw [a8 (by omega)] at h ⊢;split
   ·rename_i c;rw [a8 c] at h;cases h
   ·rfl
  rw [e];simp only [xUn,o,if_true];rw [QA (by decide),QA (by decide)];exact ⟨w1,w2,Do a1 _⟩
 ·have e:(comb x w 0 0).1=x.w/\1<=x.w/\x.w<=32:=by
   unfold comb at*;rw [QA (by omega),a8 o] at h ⊢;split
   ·rename_i c;rw [a8 c] at h;cases h
   rename_i c;rw [QA c] at h;split
   ·rename_i c;rw [a8 c] at h;cases h
   ·rename_i c;simp only [not_or,AM] at c;exact ⟨rfl,uZ c.1⟩
  rw [e.1];simp only [xUn,o];rw [QA (by decide),QA (by decide),QA (by decide)];exact ⟨e.2.1,e.2.2,G9 _ _⟩
theorem SN {x:Xd} {a b w u:Int} (hx:ari x.op=2) (ha:fitW a w) (hb:fitW b u) (h:(comb x w u 0).2=0):fitW (xBin x.op a b w u) (comb x w u 0).1:=by
 obtain ⟨w1,w2,a1⟩:=ha;obtain ⟨u1,u2,b1⟩:=hb;have o:=Ma hx;by_cases o14:x.op=14
 ·have e:(comb x w u 0).1=w+u/\1<=w+u/\w+u<=32:=by
   unfold comb at*;rw [QA (by omega),QA (by omega),a8 o14] at h ⊢;exact DJ h
  rw [e.1];simp only [xBin,o14];refine ⟨e.2.1,e.2.2,?_⟩;have:=Ls a1 b1;rw [show (w+u).toNat=w.toNat+u.toNat by omega];simpa using this
 have e:w=u/\(comb x w u 0).1=if x.op=15\/x.op=16 then 1 else w:=by
  unfold comb at*;rw [QA (by omega),QA (by omega),QA o14,QA (by omega)] at h ⊢;split
  ·rename_i c;rw [a8 c] at h;cases h
  ·rename_i c;refine ⟨Decidable.byContradiction fun q=>c ⟨hx,q⟩,?_⟩;split<;>rfl
 obtain ⟨rfl,e⟩:=e;rw [e];have k:w.toNat<=32:=by omega
 by_cases o15:x.op=15
 ·simp only [xBin,o15,true_or,if_true];refine ⟨by decide,by decide,?_⟩;simp;split<;>simp
 by_cases o16:x.op=16
 ·simp only [xBin,o16,or_true,if_true];refine ⟨by decide,by decide,?_⟩;simp;split<;>simp
 rw [QA (by omega)];refine ⟨w1,w2,?_⟩;unfold xBin;split
 ·exact G9 _ _
 split
 ·exact G9 _ _
 split
 ·exact PR k a1 b1
 split
 ·exact U1 k a1 b1
 split
 ·exact Cq k a1 b1
 ·omega
theorem WU {x:Xd} {a b c w u v:Int} (hx:x.op=17) (hb:fitW b u) (hc:fitW c v) (h:(comb x w u v).2=0):fitW (if a=1 then b else c) (comb x w u v).1:=by
 have e:u=v/\(comb x w u v).1=u:=by
  unfold comb at*;rw [QA (by omega),QA (by omega),QA (by omega),a8 hx] at h ⊢;split
  ·rename_i q;rw [a8 q] at h;cases h
  ·rename_i q;exact ⟨by omega,rfl⟩
 obtain ⟨rfl,e⟩:=e;rw [e];split
 ·exact hb
 ·exact hc
theorem BU (p:Prg) (ps:List Fld) (l:List Xd) (e:Envt) (args:List Int):∀(n i:Nat) (w:Int) (j:Nat),chk p ps l n i= .ok (w,j)->(evx p ps l e args n i).2=(w,j)/\fitW (evx p ps l e args n i).1 w
 | 0,i,w,j,h=>by cases h
 | n+1,i,w,j,h=>by
  simp only [chk] at h;simp only [evx];cases hx:l[i]? with
  | none=>rw [hx] at h;cases h
  | some x=>
   rw [hx] at h;simp only at h ⊢;split at h
   ·cases h
   rename_i h0;split at h
   ·rename_i k0;rw [a8 k0];split at h
    ·rename_i k1;cases h;exact ⟨rfl,(Ep k1).1,(Ep k1).2,G9 _ _⟩
    ·cases h
   rename_i k0;rw [QA k0];split at h
   ·cases h
   rename_i a i1 h1;obtain ⟨e1,f1⟩:=BU p ps l e args n (i+1) a i1 h1;rw [e1];split at h
   ·rename_i k1;rw [a8 k1];split at h
    ·rename_i k2;cases h;exact ⟨rfl,Y6 k1 f1 k2⟩
    ·cases h
   rename_i k1;rw [QA k1];split at h
   ·cases h
   rename_i b i2 h2;obtain ⟨e2,f2⟩:=BU p ps l e args n i1 b i2 h2;rw [e2];split at h
   ·rename_i k2;rw [a8 k2];split at h
    ·rename_i k3;cases h;exact ⟨rfl,SN k2 f1 f2 k3⟩
    ·cases h
   rename_i k2;rw [QA k2];split at h
   ·cases h
   rename_i c i3 h3;obtain ⟨e3,f3⟩:=BU p ps l e args n i2 c i3 h3;rw [e3];split at h
   ·rename_i k3;cases h;exact ⟨rfl,WU (Lo h0 k0 k1 k2) f2 f3 k3⟩
   ·cases h
theorem GL (p:Prg) (ps:List Fld) (l:List Xd):∀(n i:Nat) (x:Int),chk p ps l n i= .error x->x≠0
 | 0,i,x,h=>by cases h;decide
 | n+1,i,x,h=>by
  simp only [chk] at h;split at h
  ·cases h;decide
  split at h
  ·cases h;decide
  split at h
  ·split at h
   ·cases h
   ·cases h;assumption
  split at h
  ·rename_i q;cases h;exact GL p ps l n _ _ q
  split at h
  ·split at h
   ·cases h
   ·cases h;assumption
  split at h
  ·rename_i q;cases h;exact GL p ps l n _ _ q
  split at h
  ·split at h
   ·cases h
   ·cases h;assumption
  split at h
  ·rename_i q;cases h;exact GL p ps l n _ _ q
  split at h
  ·cases h
  ·cases h;assumption
theorem SF (p:Prg) (ps:List Fld) (l:List Xd) (e:Envt) (args:List Int) (h:(exE p ps l).2=0):fitW (evl p ps l e args) (exE p ps l).1:=by
 unfold evl;rw [a8 h];unfold exE at*;split at h
 ·cases h
 rename_i q;rw [QA q];split at h
 ·rename_i er q2;exact absurd h (GL p ps l _ _ _ q2)
 ·rename_i w i q2;split at h
  ·cases h
  ·rename_i q3;rw [QA q3];exact (BU p ps l e args _ _ _ _ q2).2
theorem JF (p:Prg) (ps:List Fld) (l:List Xd) (e:Envt) (args:List Int):ok32 0 (evl p ps l e args):=by
 by_cases h:(exE p ps l).2=0
 ·obtain ⟨h1,h2,h3⟩:=SF p ps l e args h;exact mB h3 (by omega)
 ·unfold evl;rw [QA h];exact ⟨Int.le_refl _,by decide⟩
def pF:Prg:=⟨[102,97,98,114,105,99],
 [⟨[98,97,115,101],[⟨[107,105,110,100],8⟩]⟩,⟨[116,97,103],[⟨[118,101,114,115,105,111,110],8⟩,⟨[108,97,98,101,108],8⟩]⟩,⟨[102,108,111,119],[⟨[115,114,99],8⟩,⟨[100,115,116],8⟩,⟨[116,121,112,101],8⟩]⟩],
 [⟨[105,110],8⟩,⟨[111,117,116],8⟩,⟨[100,114,111,112],1⟩,⟨[99,111,117,110,116],16⟩],
 [⟨[115,101,101,110],16,16⟩],
 [⟨[115,116,97,109,112],[⟨[118,101,114,115,105,111,110],8⟩],[⟨2,⟨0,0⟩,0,1,[],[]⟩,⟨1,⟨1,0⟩,0,0,[],[⟨3,0,0⟩]⟩,⟨1,⟨0,0⟩,0,0,[],[⟨1,2,8⟩]⟩,⟨4,⟨-1,3⟩,0,0,[⟨2,-1,0⟩],[]⟩,⟨5,⟨0,0⟩,0,0,[⟨2,-1,0⟩],[⟨9,0,0⟩,⟨2,-1,3⟩,⟨1,1,16⟩]⟩]⟩,⟨[112,97,115,115],[],[]⟩,⟨[102,111,114,119,97,114,100],[⟨[112,111,114,116],8⟩,⟨[108,97,98,101,108],8⟩],[⟨1,⟨-1,1⟩,0,0,[],[⟨3,0,0⟩]⟩,⟨1,⟨1,1⟩,0,0,[],[⟨3,1,0⟩]⟩]⟩,⟨[100,101,108,105,118,101,114],[⟨[112,111,114,116],8⟩],[⟨1,⟨-1,1⟩,0,0,[],[⟨3,0,0⟩]⟩,⟨3,⟨0,0⟩,0,1,[],[]⟩,⟨1,⟨0,0⟩,0,0,[],[⟨1,1,8⟩]⟩]⟩,⟨[100,114,111,112],[],[⟨1,⟨-1,2⟩,0,0,[],[⟨1,1,1⟩]⟩]⟩],
 [⟨[105,110,103,114,101,115,115],[⟨⟨-1,0⟩,1⟩],[0,4],⟨4,[]⟩,16⟩,⟨[116,114,117,110,107],[⟨⟨-1,0⟩,1⟩],[1,4],⟨4,[]⟩,16⟩,⟨[112,97,116,104],[⟨⟨-1,0⟩,3⟩,⟨⟨1,0⟩,3⟩,⟨⟨1,1⟩,3⟩,⟨⟨2,0⟩,3⟩,⟨⟨2,1⟩,3⟩,⟨⟨2,2⟩,3⟩],[2,3,4],⟨4,[]⟩,256⟩],
 [⟨[115,116,97,114,116],[0],true,⟨0,0⟩,[⟨1,255,2⟩,⟨2,255,1⟩],-2⟩,⟨[116,97,103,103,101,100],[1],false,⟨0,0⟩,[],2⟩,⟨[102,108,111,119,115],[2],false,⟨0,0⟩,[],-1⟩],
 [.mk 2 0 [⟨4,1,0⟩] [.mk 1 1 [] [] []] [.mk 1 0 [] [] []],.mk 2 0 [⟨15,0,0⟩,⟨2,-1,2⟩,⟨1,0,1⟩] [.mk 1 2 [] [] []] []],
 [0,1,2]⟩
theorem zG {Φ:FuncId->Option AFun} {f:FuncId} {xs:List AV} {n:Nat} {r:Rt} (h:oP (evF Φ n f xs H0)=some r):a9 Φ f xs=some r:=by
 unfold a9;cases hc:evF Φ n f xs H0 with
 | none=>rw [hc] at h;cases h
 | some p=>rw [Jy Φ hc,<- hc];exact h
theorem Mo:a9 Φ 25 []=some (.val (.agg (Prg.c pF))):=zG (n:=100) (by kernel_rfl)
theorem UT:a9 Φ 33 []=some (.val (.agg (Prg.c pF))):=zG (n:=100) (by kernel_rfl)
theorem pcF1:a9 Φ 70 [.agg (Prg.c pF)]=some (.val (.agg (dgC (prgD pF)))):=zG (n:=200) (by kernel_rfl)
theorem pcF2:a9 Φ 21 [.agg (Prg.c pF)]=some (.val (.agg (dgC (prgD pF)))):=zG (n:=200) (by kernel_rfl)
theorem pcF:PC pF:=⟨pcF1,pcF2⟩
theorem JW:pF.Ok iH:=by
 have e:=CN;simp [pF,Prg.Ok,oT,okL,Xi.Ok,Fld.Ok,Xg.Ok,Action.Ok,Xf.Ok,Tbl.Ok,Xb.Ok,Xc.Ok,Xj.Ok,Xa.Ok,Xa.Oks,Xd.Ok,FieldRef.Ok,Xk.Ok,okI,ok32,okT];omega
theorem pF_hv:∀t∈pF.Xm,∀v∈t.Yb.args,ok32 0 v:=by simp [pF]
theorem Mf:(prgD pF).1=0:=by kernel_rfl
set_option maxRecDepth 8000
def eG (b1 b2 b3:Bool) (k0 t0 t1 f0 f1 f2 m0 m1 m2 m3:Int) (pay:List Int):Envt:=⟨[b1,b2,b3],[[k0],[t0,t1],[f0,f1,f2]],[m0,m1,m2,m3],pay⟩
def by8 (x:Int):Prop:=0<=x/\x<256
theorem bits8 {b:Int} (h0:0<=b) (h1:b<256):2*(2*(2*(2*(2*(2*(2*(2*0+b / 128 % 2)+b / 64 % 2)+b / 32 % 2)+b / 16 % 2)+b / 8 % 2)+b / 4 % 2)+b / 2 % 2)+b / 1 % 2=b:=by omega
theorem rd8 {d:List Int} {k:Nat} {b:Int} (h:d[k]? =some b) (hb:by8 b):rdN d (8*k) 8=b:=by
 have g:∀j,j<8->nI d (8*k+j)=b / 2^(7 - j) % 2:=fun j hj=>by
  unfold nI;rw [show (8*k+j) / 8=k by omega,show 7 - (8*k+j) % 8=7 - j by omega,tE,h];rfl
 show 2*(2*(2*(2*(2*(2*(2*(2*0+nI d (8*k+0))+nI d (8*k+1))+nI d (8*k+2))+nI d (8*k+3))+nI d (8*k+4))+nI d (8*k+5))+nI d (8*k+6))+nI d (8*k+7)=b;rw [g 0 (by decide),g 1 (by decide),g 2 (by decide),g 3 (by decide),g 4 (by decide),g 5 (by decide),g 6 (by decide),g 7 (by decide)];exact bits8 hb.1 hb.2
section
variable {d:List Int} {k0:Int}
theorem exF0 (h0:d[0]? =some k0) (hb:by8 k0):exHs pF d [0] (eNew pF,0)=some (eG true false false k0 0 0 0 0 0 0 0 0 0 [],8):=by
 have hl:¬8*d.length<0+8:=by have:=(Qm.1 h0).1;omega
 have e:exHs pF d [0] (eNew pF,0)=if 8*d.length<0+8 then none else some (eG true false false (rdN d 0 8) 0 0 0 0 0 0 0 0 0 [],8):=by
  simp only [exHs,exH];show (if 8*d.length<0+8 then none else _:Option (Envt×Nat)).bind _=_;by_cases q:8*d.length<0+8
  ·rw [a8 q,a8 q];rfl
  ·rw [QA q,QA q];rfl
 rw [e,QA hl,rd8 (k:=0) h0 hb]
theorem exF1 {t0 t1:Int} (h1:d[1]? =some t0) (b1:by8 t0) (h2:d[2]? =some t1) (b2:by8 t1):exHs pF d [1] (eG true false false k0 0 0 0 0 0 0 0 0 0 [],8)=some (eG true true false k0 t0 t1 0 0 0 0 0 0 0 [],24):=by
 have hl:¬8*d.length<8+16:=by have:=(Qm.1 h2).1;omega
 have e:exHs pF d [1] (eG true false false k0 0 0 0 0 0 0 0 0 0 [],8)=if 8*d.length<8+16 then none else some (eG true true false k0 (rdN d 8 8) (rdN d 16 8) 0 0 0 0 0 0 0 [],24):=by
  simp only [exHs,exH];show (if 8*d.length<8+16 then none else _:Option (Envt×Nat)).bind _=_;by_cases q:8*d.length<8+16
  ·rw [a8 q,a8 q];rfl
  ·rw [QA q,QA q];rfl
 rw [e,QA hl,rd8 (k:=1) h1 b1,rd8 (k:=2) h2 b2]
theorem exF2 {n:Nat} {b:Bool} {t0 t1 f0 f1 f2:Int} (h1:d[n]? =some f0) (b1:by8 f0) (h2:d[n+1]? =some f1) (b2:by8 f1) (h3:d[n+2]? =some f2) (b3:by8 f2):
  exHs pF d [2] (eG true b false k0 t0 t1 0 0 0 0 0 0 0 [],8*n)=some (eG true b true k0 t0 t1 f0 f1 f2 0 0 0 0 [],8*n+24):=by
 have hl:¬8*d.length<8*n+24:=by have:=(Qm.1 h3).1;omega
 have e:exHs pF d [2] (eG true b false k0 t0 t1 0 0 0 0 0 0 0 [],8*n)=if 8*d.length<8*n+24 then none else some (eG true b true k0 t0 t1 (rdN d (8*n) 8) (rdN d (8*n+8) 8) (rdN d (8*n+8+8) 8) 0 0 0 0 [],8*n+24):=by
  simp only [exHs,exH];show (if 8*d.length<8*n+24 then none else _:Option (Envt×Nat)).bind _=_;by_cases q:8*d.length<8*n+24
  ·rw [a8 q,a8 q];rfl
  ·rw [QA q,QA q];rfl
 rw [e,QA hl,rd8 h1 b1,show 8*n+8=8*(n+1) by omega,rd8 h2 b2,show 8*(n+1)+8=8*(n+2) by omega,rd8 h3 b3]
end
theorem GA {p:Prg} {d:List Int} {n:Nat} {s:Int} {x:Envt×Nat} {t:Xc} {r:Int} {y:Envt×Nat} (hs:s≠-1) (ht:at? p.Xw s=some t) (hx:exHs p d t.extract x=some y) (hr:nxS t y.1=r):prF p d (n+1) s x=prF p d n r y:=by
 rw [prF,QA hs,ht];simp only;rw [hx,fB,hr]
theorem Me {p:Prg} {d:List Int} {n:Nat} {x:Envt×Nat}:prF p d (n+1) (-1) x=some { x.1 with payload:=d.drop (x.2 / 8) }:=by rw [prF,a8 rfl]
def st0:Xc:=⟨[115,116,97,114,116],[0],true,⟨0,0⟩,[⟨1,255,2⟩,⟨2,255,1⟩],-2⟩
def st1:Xc:=⟨[116,97,103,103,101,100],[1],false,⟨0,0⟩,[],2⟩
def st2:Xc:=⟨[102,108,111,119,115],[2],false,⟨0,0⟩,[],-1⟩
theorem C2:pF.Xw=[st0,st1,st2]:=rfl
theorem prs_1 {s t u:Int} (hs:by8 s) (ht:by8 t) (hu:by8 u) (pay:List Int) (hp:pay.length<=500):prs pF (1::s::t::u::pay)=some (eG true false true 1 0 0 s t u 0 0 0 0 pay):=by
 have hl:¬512<(1::s::t::u::pay:List Int).length:=by simp;omega
 have a0:=exF0 (d:=1::s::t::u::pay) (k0:=1) rfl ⟨by decide,by decide⟩;have a2:=exF2 (d:=1::s::t::u::pay) (n:=1) (b:=false) (k0:=1) (t0:=0) (t1:=0) rfl hs rfl ht rfl hu;unfold prs;rw [QA hl,C2];show prF pF _ 4 0 (eNew pF,0)=_;rw [GA (t:=st0) (r:=2) (by decide) (by rw [C2];rfl) a0 (by kernel_rfl),GA (t:=st2) (r:= -1) (by decide) (by rw [C2];rfl) a2 (by kernel_rfl),Me];simp [eG]
theorem prs_2 {v l s t u:Int} (hv:by8 v) (hl:by8 l) (hs:by8 s) (ht:by8 t) (hu:by8 u) (pay:List Int) (hp:pay.length<=500):prs pF (2::v::l::s::t::u::pay)=some (eG true true true 2 v l s t u 0 0 0 0 pay):=by
 have hl':¬512<(2::v::l::s::t::u::pay:List Int).length:=by simp;omega
 have a0:=exF0 (d:=2::v::l::s::t::u::pay) (k0:=2) rfl ⟨by decide,by decide⟩;have a1:=exF1 (d:=2::v::l::s::t::u::pay) (k0:=2) rfl hv rfl hl;have a2:=exF2 (d:=2::v::l::s::t::u::pay) (n:=3) (b:=true) (k0:=2) (t0:=v) (t1:=l) rfl hs rfl ht rfl hu;unfold prs;rw [QA hl',C2];show prF pF _ 4 0 (eNew pF,0)=_;rw [GA (t:=st0) (r:=1) (by decide) (by rw [C2];rfl) a0 (by kernel_rfl),GA (t:=st1) (r:=2) (by decide) (by rw [C2];rfl) a1 (by kernel_rfl),GA (t:=st2) (r:= -1) (by decide) (by rw [C2];rfl) a2 (by kernel_rfl),Me];simp [eG]
theorem sel1 (p:Prg) (t:Int) (key:List Int) (r:Rw):oB p t key [r]=if mtF r.entry key then some r else none:=by
 simp [oB,qE]
theorem ctE (c:Xe) (n:Nat) (b:Bool) (s:MS):ctX pF c n (if b=true then [] else []) s=s:=by
 cases b<;>cases n<;>rfl
def ifX:List Xd:=[⟨4,1,0⟩]
def pgX:List Xd:=[⟨15,0,0⟩,⟨2,-1,2⟩,⟨1,0,1⟩]
def JY (c:Xe) (s:MS):MS:=if evl pF [] pgX s.e []=1 then (apX pF c 2 s).1 else s
theorem EH (c:Xe) (s:MS):ctX pF c (nest pF.Ya) pF.Ya s=JY c (if evl pF [] ifX s.e []=1 then (apX pF c 1 s).1 else (apX pF c 0 s).1):=by
 have hn:nest pF.Ya=2:=by kernel_rfl
 have h1:∀(t:Int) (s:MS),ctX pF c 1 [.mk 1 t [] [] []] s=(apX pF c t s).1:=fun t s=>by
  show (let y:=apX pF c t s;ctX pF c 0 (if y.2 then [] else []) y.1)=_;exact ctE c 0 _ _
 rw [hn];show ndX pF c (ctX pF c 1) (ndX pF c (ctX pF c 1) s (.mk 2 0 ifX [.mk 1 1 [] [] []] [.mk 1 0 [] [] []])) (.mk 2 0 pgX [.mk 1 2 [] [] []] [])=_;have e1:ndX pF c (ctX pF c 1) s (.mk 2 0 ifX [.mk 1 1 [] [] []] [.mk 1 0 [] [] []])=if evl pF [] ifX s.e []=1 then (apX pF c 1 s).1 else (apX pF c 0 s).1:=by
  show ctX pF c 1 (if evl pF [] ifX s.e []=1 then [.mk 1 1 [] [] []] else [.mk 1 0 [] [] []]) s=_;by_cases q:evl pF [] ifX s.e []=1
  ·rw [a8 q,a8 q,h1]
  ·rw [QA q,QA q,h1]
 rw [e1];generalize (if evl pF [] ifX s.e []=1 then (apX pF c 1 s).1 else (apX pF c 0 s).1)=s;show ctX pF c 1 (if evl pF [] pgX s.e []=1 then [.mk 1 2 [] [] []] else []) s=_;unfold JY;by_cases q:evl pF [] pgX s.e []=1
 ·rw [a8 q,a8 q,h1]
 ·rw [QA q,QA q];rfl
section
variable (b1 b2 b3:Bool) (k0 t0 t1 f0 f1 f2 m0 m1 m2 m3:Int) (pay:List Int) (rs:List (List Int))
theorem if_t:evl pF [] ifX (eG b1 true b3 k0 t0 t1 f0 f1 f2 m0 m1 m2 m3 pay) []=1:=by kernel_rfl
theorem if_f:evl pF [] ifX (eG b1 false b3 k0 t0 t1 f0 f1 f2 m0 m1 m2 m3 pay) []=0:=by kernel_rfl
theorem go_t:evl pF [] pgX (eG b1 b2 b3 k0 t0 t1 f0 f1 f2 m0 m1 0 m3 pay) []=1:=by kernel_rfl
theorem go_f:evl pF [] pgX (eG b1 b2 b3 k0 t0 t1 f0 f1 f2 m0 m1 1 m3 pay) []=0:=by kernel_rfl
theorem EQ (x:Int):eSet pF (eG b1 b2 b3 k0 t0 t1 f0 f1 f2 m0 m1 m2 m3 pay) (-1) 0 x=eG b1 b2 b3 k0 t0 t1 f0 f1 f2 (x % 256) m1 m2 m3 pay:=by kernel_rfl
theorem key0:keyX pF 0 (eG b1 b2 b3 k0 t0 t1 f0 f1 f2 m0 m1 m2 m3 pay)=[iand .u32 m0 255]:=by kernel_rfl
theorem key2:keyX pF 2 (eG true true true k0 t0 t1 f0 f1 f2 m0 m1 m2 m3 pay)=[iand .u32 m0 255,iand .u32 t0 255,iand .u32 t1 255,iand .u32 f0 255,iand .u32 f1 255,iand .u32 f2 255]:=by kernel_rfl
theorem ET:exeX pF ⟨4,[]⟩ (eG b1 b2 b3 k0 t0 t1 f0 f1 f2 m0 m1 m2 m3 pay) rs=(eG b1 b2 b3 k0 t0 t1 f0 f1 f2 m0 m1 1 m3 pay,rs):=by kernel_rfl
theorem fwd_x (a b:Int):exeX pF ⟨2,[a,b]⟩ (eG true true true k0 t0 t1 f0 f1 f2 m0 m1 m2 m3 pay) rs=(eG true true true k0 t0 (b % 256 % 256) f0 f1 f2 m0 (a % 256 % 256) m2 m3 pay,rs):=by kernel_rfl
def cnt (ver:Int):Int:=(exeX pF ⟨0,[ver]⟩ (eG true false true k0 t0 t1 f0 f1 f2 m0 m1 m2 m3 pay) rs).1.metaF.getD 3 0
theorem VK (ver:Int):(exeX pF ⟨0,[ver]⟩ (eG true false true k0 t0 t1 f0 f1 f2 m0 m1 m2 m3 pay) rs).1=eG true true true 2 (ver % 256 % 256) 0 f0 f1 f2 m0 m1 m2 (cnt k0 t0 t1 f0 f1 f2 m0 m1 m2 m3 pay rs ver) pay:=by kernel_rfl
theorem emi_x:emi pF (eG true true true k0 t0 t1 f0 f1 f2 m0 m1 m2 m3 pay)=[byt (eX k0 8),byt (eX t0 8),byt (eX t1 8),byt (eX f0 8),byt (eX f1 8),byt (eX f2 8)]++pay:=by kernel_rfl
end
theorem m8 {x:Int} (h:by8 x):x % 256=x:=by obtain ⟨_,_⟩:=h;omega
theorem i8 {x:Int} (h:by8 x):iand .u32 x 255=x:=by
 have:=IE (v:=x) (k:=8) ⟨h.1,by have:=h.2;omega⟩ (by decide);rw [show (2:Int)^8 - 1=255 by decide,show (2:Int)^8=256 by decide,m8 h] at this;exact this
theorem b2i_d (y:Int):b2i (decide (y % 2=1))=y % 2:=by
 by_cases h:y % 2=1
 ·rw [decide_eq_true h,h];rfl
 ·rw [decide_eq_false h];show (0:Int)=_;omega
theorem byt8 {x:Int} (h:by8 x):byt (eX x 8)=x:=by
 show 2*(2*(2*(2*(2*(2*(2*(2*0+b2i (decide (x / 2^7 % 2=1)))+b2i (decide (x / 2^6 % 2=1)))+b2i (decide (x / 2^5 % 2=1)))+b2i (decide (x / 2^4 % 2=1)))+b2i (decide (x / 2^3 % 2=1)))+b2i (decide (x / 2^2 % 2=1)))+b2i (decide (x / 2^1 % 2=1)))+b2i (decide (x / 2^0 % 2=1))=x;simp only [b2i_d];exact bits8 h.1 h.2
theorem Jb (x:Int):ixor .u32 x x=0:=by
 unfold ixor;rw [BitVec.xor_self];rfl
theorem Mv (x:Int):iand .u32 0 x=0:=by
 unfold iand;show IntKind.wrap .u32 ((0#32&&& BitVec.ofInt 32 x).toNat:Int)=0;rw [BitVec.zero_and];rfl
def r1F (port ver:Int):Rw:=⟨1,⟨[⟨port,255⟩],0,⟨0,[ver]⟩⟩⟩
theorem mt1 {port:Int} (h:by8 port) (ver:Int):mtF (r1F port ver).entry [iand .u32 port 255]=true:=by
 have:qJ ⟨port,255⟩ port:=by unfold qJ;rw [Jb,Mv]
 simp [mtF,r1F,mts,i8 h,this]
def dF4:List Xb:=[⟨4,[]⟩,⟨4,[]⟩,⟨4,[]⟩]
theorem UX {ver lab s t u m0 m1 m3:Int} (hv:by8 ver) (hl:by8 lab) (hs:by8 s) (ht:by8 t) (hu:by8 u) (pay:List Int) (hpl:pay.length<=500) (rs:List (List Int)) (hits:List Hit):
  resX pF ⟨eG true true true 2 ver lab s t u m0 m1 0 m3 pay,rs,hits⟩=⟨false,m1,2::ver::lab::s::t::u::pay,hits⟩:=by
 have e:=emi_x 2 ver lab s t u m0 m1 0 m3 pay;rw [byt8 hv,byt8 hl,byt8 hs,byt8 ht,byt8 hu,byt8 ⟨by decide,by decide⟩] at e;unfold resX;simp only [e];rw [QA (by
  simp [eG,at?];omega)]
 rfl
theorem Kg (b1 b2 b3:Bool) (k0 t0 t1 f0 f1 f2 m0 m1 m3:Int) (pay:List Int) (rs:List (List Int)) (hits:List Hit):resX pF ⟨eG b1 b2 b3 k0 t0 t1 f0 f1 f2 m0 m1 1 m3 pay,rs,hits⟩=⟨true,0,[],hits⟩:=by
 unfold resX;rw [a8 (.inl rfl)]
theorem NO {c:Xe} {port ver s t u:Int} {x2:Entry} {to lab:Int} (hr:c.rows=[[r1F port ver],[],[⟨1,x2⟩]]) (hd:c.Xp=dF4) (h2:x2.call=⟨2,[to,lab]⟩)
  (hp:by8 port) (hv:by8 ver) (hs:by8 s) (ht:by8 t) (hu:by8 u) (hto:by8 to) (hl:by8 lab) (pay:List Int) (hpl:pay.length<=500):
  ∃rs hits,runX pF c ⟨port,1::s::t::u::pay⟩=some (if mtF x2 [port,ver,0,s,t,u] then ⟨false,to,2::ver::lab::s::t::u::pay,hits⟩ else ⟨true,0,[],hits⟩,rs):=by
 unfold runX;rw [QA (by obtain ⟨_,_⟩:=hp;simp only;omega)];simp only [prs_1 hs ht hu pay hpl];rw [EQ,m8 hp,EH,QA (by rw [if_f];decide)];have a1:selX pF c 0 (eG true false true 1 0 0 s t u port 0 0 0 pay)=some (r1F port ver):=by
  unfold selX;rw [hr,key0];show oB pF 0 _ [r1F port ver]=_;rw [sel1,mt1 hp,a8 rfl]
 have e1:(apX pF c 0 ⟨eG true false true 1 0 0 s t u port 0 0 0 pay,c.Xl,[]⟩).1.e=eG true true true 2 ver 0 s t u port 0 0 (cnt 1 0 0 s t u port 0 0 0 pay c.Xl ver) pay:=by
  unfold apX;simp only [a1,calX];have:=VK 1 0 0 s t u port 0 0 0 pay c.Xl ver;rw [m8 hv,m8 hv] at this;exact this
 generalize hm:(apX pF c 0 ⟨eG true false true 1 0 0 s t u port 0 0 0 pay,c.Xl,[]⟩).1=M at*;obtain ⟨e,rs,hits⟩:=M;simp only at e1;subst e1;generalize cnt 1 0 0 s t u port 0 0 0 pay c.Xl ver=m3;unfold JY;rw [a8 (by rw [go_t])];have a2:selX pF c 2 (eG true true true 2 ver 0 s t u port 0 0 m3 pay)=if mtF x2 [port,ver,0,s,t,u] then some ⟨1,x2⟩ else none:=by
  unfold selX;rw [hr,key2,i8 hp,i8 hv,i8 hs,i8 ht,i8 hu,i8 ⟨Int.le_refl _,by decide⟩];show oB pF 2 _ [⟨1,x2⟩]=_;rw [sel1]
 by_cases q:mtF x2 [port,ver,0,s,t,u]=true
 ·rw [a8 q] at a2;simp only [q,if_true];simp only [apX,a2,calX,h2,fwd_x,m8 hto,m8 hl];exact ⟨rs,_,congrArg some (Prod.ext (UX hv hl hs ht hu pay hpl _ _) rfl)⟩
 ·rw [QA q] at a2;have hc:calX c 2 none=⟨4,[]⟩:=by unfold calX;rw [hd];rfl
  simp only [q,apX,a2,hc,ET];exact ⟨rs,_,congrArg some (Prod.ext (Kg ..) rfl)⟩
theorem NN {c:Xe} {l0 l2:List Rw} {port v l s t u:Int} (hr:c.rows=[l0,[],l2]) (hd:c.Xp=dF4) (hp:by8 port) (hv:by8 v) (hl:by8 l) (hs:by8 s) (ht:by8 t) (hu:by8 u) (pay:List Int) (hpl:pay.length<=500):
  ∃rs hits,runX pF c ⟨port,2::v::l::s::t::u::pay⟩=some (⟨true,0,[],hits⟩,rs):=by
 unfold runX;rw [QA (by obtain ⟨_,_⟩:=hp;simp only;omega)];simp only [prs_2 hv hl hs ht hu pay hpl];rw [EQ,m8 hp,EH,a8 (by rw [if_t])];have a1:selX pF c 1 (eG true true true 2 v l s t u port 0 0 0 pay)=none:=by
  unfold selX;rw [hr];rfl
 have hc:calX c 1 none=⟨4,[]⟩:=by unfold calX;rw [hd];rfl
 simp only [apX,a1,hc,ET];unfold JY;rw [QA (by rw [go_f];decide)];exact ⟨_,_,congrArg some (Prod.ext (Kg ..) rfl)⟩
theorem Kp.appL {O O':List (Nat×AO)} {N:Nat} {X:Nat->Prop} (h:Kp X N O O') {r:List (Nat×AO)} (hr:∀p∈r,N<=p.1):Kp X N O (O'++r):=by
 intro j hj hx;have:look j r=none:=by
  induction r with
  | nil=>rfl
  | cons p r ih=>
   have h1:=hr p (by simp);have:¬p.1=j:=by omega
   simp only [look,QA this];exact ih fun q hq=>hr q (by simp [hq])
 rw [aA,h j hj hx,this];simp
structure RowsR (O:List (Nat×AO)) (v:AV) (A:List AV) (R:List (List Rw)):Prop where
 v:Re O 1 v (A.map fun x=>[x])
 len:A.length=R.length
 at_:∀(k:Nat) (x:AV) (l:List Rw),A[k]? =some x->R[k]? =some l->Re O 5 x (l.map Rw.c)
theorem Re.own {O:List (Nat×AO)} {z j:Nat} {v:AV} {es:List (List AV)} (h:Re O z v es) (hj:vid v=some j):∃x,look j O=some x:=by
 cases h with
 | sl=>cases hj
 | fs=>cases hj
 | ap=>cases hj
 | row id _ es0 n hn hl hle ht=>cases hj;exact ⟨_,hl⟩
theorem Re.kp {O O':List (Nat×AO)} {z N:Nat} {v:AV} {es:List (List AV)} {X:Nat->Prop} (h:Re O z v es) (hT:Tail O N) (hk:Kp X N O O') (hx:∀j,X j->look j O=none\/N<=j):Re O' z v es:=by
 refine h.fr fun j hj=>?_
 obtain ⟨x,hl⟩:=h.own hj;refine hk j (hT.lt hl) fun hc=>?_
 rcases hx j hc with h1 | h1
 ·rw [hl] at h1;cases h1
 ·have:=hT.lt hl;omega
theorem Mu.own {O:List (Nat×AO)} {z j:Nat} {v:AV} {es:List (List AV)} (h:Mu O z v es) (hj:vid v=some j):∃es0,look j O=some (.row z es0):=by
 cases h with
 | nilF=>cases hj
 | nilA=>cases hj
 | row id _ es0 n hn hl hle ht=>cases hj;exact ⟨_,hl⟩
structure RowsW (O:List (Nat×AO)) (N:Nat) (V:List AV) (R:List (List Rw)):Prop where
 len:V.length=R.length
 mu:∀(k:Nat) (v:AV) (l:List Rw),V[k]? =some v->R[k]? =some l->Mu O 5 v (l.map Rw.c)
 fresh:∀v∈V,∀j,vid v=some j->N<=j
 inj:∀(k k':Nat) (v v':AV) (i:Nat),V[k]? =some v->V[k']? =some v'->vid v=some i->vid v'=some i->k=k'
 na:∀v∈V,∀z es t,v≠ .app z es t
theorem RowsW.nil {O:List (Nat×AO)} {N:Nat}:RowsW O N [] []:=⟨rfl,by simp,by simp,by simp,by simp⟩
theorem RowsW.own {O:List (Nat×AO)} {N:Nat} {V:List AV} {R:List (List Rw)} (h:RowsW O N V R) {v:AV} {j:Nat} (hv:v∈V) (hj:vid v=some j):∃es0,look j O=some (.row 5 es0):=by
 obtain ⟨k,hk,rfl⟩:=Qn.1 hv;have hk2:k<R.length:=by rw [<- h.len];exact hk
 exact (h.mu k _ _ (Qa hk) (Qa hk2)).own hj
theorem RowsW.fr {O O':List (Nat×AO)} {N:Nat} {V:List AV} {R:List (List Rw)} (h:RowsW O N V R) (hf:∀j es0,look j O=some (.row 5 es0)->look j O'=look j O):RowsW O' N V R:=by
 refine ⟨h.len,?_,h.fresh,h.inj,h.na⟩;intro k v l hv hl;have hm:=h.mu k v l hv hl;refine hm.fr fun j hj=>?_
 obtain ⟨es0,h0⟩:=hm.own hj;exact hf j es0 h0
theorem RowsW.snoc {O O':List (Nat×AO)} {N N':Nat} {V:List AV} {R:List (List Rw)} {w:AV} {l:List Rw} (h:RowsW O N V R) (hT:Tail O N') (hN:N<=N') (hf:∀j es0,look j O=some (.row 5 es0)->look j O'=look j O) (hw:Mu O' 5 w (l.map Rw.c)) (hn:∀j,vid w=some j->N'<=j) (ha:∀z es t,w≠ .app z es t):RowsW O' N (V++[w]) (R++[l]):=by
 have h':=h.fr hf;have hlt:∀v∈V,∀j,vid v=some j->j<N':=by
  intro v hv j hj;obtain ⟨es0,h0⟩:=h.own hv hj;exact hT.lt h0
 have hlen:=h.len;refine ⟨by simp [hlen],?_,?_,?_,fun v hv=>by rcases eI.1 hv with hv | hv;exact h.na v hv;simp at hv;subst hv;exact ha⟩
 ·intro k v l' hv hl;by_cases hk:k<V.length
  ·rw [Ql hk] at hv;rw [Ql (by omega)] at hl;exact h'.mu k v l' hv hl
  ·have hk':k=V.length:=by
    have:=(Qm.1 hv).1;simp at this;omega
   subst hk';rw [Qp (by omega)] at hv;rw [Qp (by omega),hlen] at hl;simp at hv hl;subst hv hl;exact hw
 ·intro v hv j hj;rcases eI.1 hv with hv | hv
  ·exact h.fresh v hv j hj
  ·simp at hv;subst hv;have:=hn j hj;omega
 ·intro k k' v v' i hv hv' hi hi';have hb:=(Qm.1 hv).1;have hb':=(Qm.1 hv').1;simp at hb hb';by_cases hk:k<V.length
  ·by_cases hk':k'<V.length
   ·rw [Ql hk] at hv;rw [Ql hk'] at hv';exact h.inj k k' v v' i hv hv' hi hi'
   ·rw [Ql hk] at hv;rw [Qp (by omega)] at hv';have:k' - V.length=0:=by omega
    rw [this] at hv';simp at hv';subst hv';have h1:=hlt v (Qe hv) i hi;have h2:=hn i hi';omega
  ·by_cases hk':k'<V.length
   ·rw [Ql hk'] at hv';rw [Qp (by omega)] at hv;have:k - V.length=0:=by omega
    rw [this] at hv;simp at hv;subst hv;have h1:=hlt v' (Qe hv') i hi';have h2:=hn i hi;omega
   ·omega
section
variable {I:Type} {fin:Option (Ex×St)->Option I}
theorem SW (R:List (List Rw)) (hR:R.length<2^40) (hs:∀l∈R,l.length<2^39/\∀r∈l,rowS r) (v w2:AV) (A:List AV) (b:Nat) (K:List Fr) (Q:Option I->Prop) (e:Env) (O:List (Nat×AO)) (N:Nat) (hT:Tail O N) (hv:RowsR O v A R)
  (hb:look b O=some (.row 4 [[.Xt 1 [],w2,.Xt 2 [],.Xt 1 []]])) (h3:look 3 e=some (.ptr b 4 0 0)) (h18:look 18 e=some v) (h19:look 19 e=some (.int .i64 R.length)) (h20:look 20 e=some (.int .i64 0))
  (hK:∀e' O' N' w V,Mu O' 1 w (V.map fun x=>[x])->(∀j,vid w=some j->N<=j)->RowsW O' N V R->Kp (fun j=>j=b) N O O'->Tail O' N'->N<=N'->look b O'=some (.row 4 [[w,w2,.Xt 2 [],.Xt 1 []]])->
   look 1 e'=look 1 e->look 2 e'=look 2 e->look 3 e'=look 3 e->Q (go Φ fin K .normal ⟨e',⟨O',N'⟩⟩)):
  Q (go Φ fin (.c (.loop eO):: .b 0::K) .normal ⟨e,⟨O,N⟩⟩):=by
 have hAb:∀(k:Nat) (x:AV) j,A[k]? =some x->vid x=some j->j≠b:=by
  intro k x j hx hj;have hk:k<R.length:=by
   have:=(Qm.1 hx).1;rw [hv.len] at this;exact this
  have:=hv.at_ k x _ hx (Qa hk);cases this with
  | sl=>cases hj
  | fs=>cases hj
  | ap=>cases hj
  | row id _ es0 n hn hl hle ht=>cases hj;exact aF hl hb (by simp)
 have hvb:∀j,vid v=some j->j≠b:=by
  intro j hj;cases hv.v with
  | sl=>cases hj
  | fs=>cases hj
  | ap=>cases hj
  | row id _ es0 n hn hl hle ht=>cases hj;exact aF hl hb (by simp)
 refine eQ R.length (fun i e' h=>∃O' N' w V,h=⟨O',N'⟩/\((i=0/\w= .Xt 1 []/\V=[])\/∃id,w= .row id 1 0 i/\look id O'=some (.row 1 (V.map fun x=>[x]))/\N<=id)/\RowsW O' N V (R.take i)/\Kp (fun j=>j=b) N O O'/\Tail O' N'/\N<=N'/\
   look b O'=some (.row 4 [[w,w2,.Xt 2 [],.Xt 1 []]])/\look 3 e'=some (.ptr b 4 0 0)/\look 18 e'=some v/\look 19 e'=some (.int .i64 R.length)/\look 20 e'=some (.int .i64 i)/\
   look 1 e'=look 1 e/\look 2 e'=look 2 e) Q ?_ ?_ 0 _ _ (Qc _) ?_
 ·rintro i e' _ L hi hL ⟨O',N',w,V,rfl,hw,hV,hk,hT',hN,hb',h3,h18,h19,h20,g1,g2⟩ ih;have hw1:=aH i (by omega);have hA:i<A.length:=by rw [hv.len];exact hi
  have hlen:=hV.len;have hVl:V.length=i:=by rw [hlen];simp;omega
  have hri:=hs _ (Qd hi);have hbN:b<N:=hT.lt hb;have hx:Re O' 5 A[i] (R[i].map Rw.c):=by
   have h0:=hv.at_ i _ _ (Qa hA) (Qa hi);refine h0.fr fun j hj=>?_
   obtain ⟨x,hl⟩:=h0.own hj;exact hk j (hT.lt hl) (hAb i _ j (Qa hA) hj)
  have hxl:=hx.len;have hxc:=hx.cells;have hv':Re O' 1 v (A.map fun x=>[x]):=by
   refine hv.v.fr fun j hj=>?_
   obtain ⟨x,hl⟩:=hv.v.own hj;exact hk j (hT.lt hl) (hvb j hj)
  have after:∀e1,look 1 e1=look 1 e->look 2 e1=look 2 e->look 3 e1=some (.ptr b 4 0 0)->look 18 e1=some v->look 19 e1=some (.int .i64 R.length)->look 20 e1=some (.int .i64 i)->
    ∀e2 O2 N2 w',Mu O2 5 w' (R[i].map Rw.c)->(∀j,vid w'=some j->N'<=j)->(∀z es t,w'≠ .app z es t)->Kp (fun _=>False) N' O' O2->Tail O2 N2->N'<=N2->look 6 e2=some w'->look 1 e2=look 1 e1->look 2 e2=look 2 e1->look 3 e2=look 3 e1->look 18 e2=look 18 e1->look 19 e2=look 19 e1->look 20 e2=look 20 e1->
    Q (go Φ fin (.c iA:: .b 1:: .c iB::L) .normal ⟨e2,⟨O2,N2⟩⟩):=by
   intro e1 f1 f2 f3 f18 f19 f20 e2 O2 N2 w' hmu hnew hna hk2 hT2 hN2 d6 d1 d2 d3 d18 d19 d20;rw [f1] at d1;rw [f2] at d2;rw [f3] at d3;rw [f18] at d18;rw [f19] at d19;rw [f20] at d20;have hb2:look b O2=some (.row 4 [[w,w2,.Xt 2 [],.Xt 1 []]]):=hk2.lk hT' hb' (by simp);have hmc:=hmu.cells;have t0:=hT2 N2 (Qb _);have t1:=hT2 (N2+1) (by omega);have hbN2:b<N2:=by omega
   have q0:¬N2=b:=by omega
   have q1:¬N2+1=b:=by omega
   have q2:¬b=N2:=by omega
   have q3:¬b=N2+1:=by omega
   have hkk:Kp (fun j=>j=b) N O O2:=hk.trans (hk2.mono fun _ _ h=>h.elim) hN;have h5:∀(j:Nat) (es0:List (List AV)),look j O'=some (.row 5 es0)->look j O2=some (.row 5 es0):=fun j es0 hj=>hk2.lk hT' hj (by simp)
   rcases hw with ⟨rfl,rfl,rfl⟩ | ⟨id,rfl,hlk,hid⟩
   ·simp [iA,iB,d3,d6,d20,t0,t1,aA,hb2,wr1,hmc,-AV.cells];refine ih _ _ ⟨_,_,.row (N2+1) 1 0 1,[w'],rfl,.inr ⟨N2+1,rfl,?_,by omega⟩,?_,?_,?_,by omega,?_,?_,?_,?_,?_,?_,?_⟩
    ·simp [a7,q1,t1]
    ·rw [Qh hi];refine RowsW.snoc (V:=[]) hV hT' hN ?_ (hmu.fr ?_) hnew hna
     ·intro j es0 hj;have hj2:=h5 j es0 hj;have:=aF hj2 hb2 (by simp);simp [a7,aA,this,hj2,hj]
     ·intro j hj;obtain ⟨es0,hj2⟩:=hmu.own hj;have:=aF hj2 hb2 (by simp);simp [a7,aA,this,hj2]
    ·exact Kp.setl (Kp.appL hkk (by simp;omega)) (.inr rfl)
    ·exact aK (by simp [Tail_append_iff,Tail_cons_iff,FR];exact ⟨hT2.mono (by omega),by omega⟩)
    ·simp [a7,aA,hb2]
    all_goals simp [*]
   ·have hl2:look id O2=some (.row 1 (V.map fun x=>[x])):=hk2.lk hT' hlk (by simp);have hbi:=aF hb2 hl2 (by simp);have hd1:look (N2+1) (dropl id (O2++[(N2,.row 1 [[w']])]))=none:=uL _ (by simp [t1]);have hd2:look b (dropl id (O2++[(N2,.row 1 [[w']])]))=some (.row 4 [[.row id 1 0 i,w2,.Xt 2 [],.Xt 1 []]]):=by rw [iR hbi,aA,hb2];rfl
    have hc:(i+1)*24<=70368744177664:=by omega
    simp [iA,iB,d3,d6,d20,t0,aA,hb2,hw1,hl2,hVl,hd1,hd2,hc,hmc,-AV.cells];refine ih _ _ ⟨_,_,.row (N2+1) 1 0 (i+1),V++[w'],rfl,.inr ⟨N2+1,rfl,?_,by omega⟩,?_,?_,?_,by omega,?_,?_,?_,?_,?_,?_,?_⟩
    ·simp [a7,q1,hd1]
    ·rw [Qh hi];refine RowsW.snoc hV hT' hN ?_ (hmu.fr ?_) hnew hna
     ·intro j es0 hj;have hj2:=h5 j es0 hj;have n1:=aF hj2 hb2 (by simp);have n2:=aF hj2 hl2 (by simp);simp [a7,aA,iR n2,n1,hj2,hj]
     ·intro j hj;obtain ⟨es0,hj2⟩:=hmu.own hj;have n1:=aF hj2 hb2 (by simp);have n2:=aF hj2 hl2 (by simp);simp [a7,aA,iR n2,n1,hj2]
    ·exact Kp.setl (Kp.appL (Kp.drop (Kp.appL hkk (by simp;omega)) (.inl hid)) (by simp;omega)) (.inr rfl)
    ·refine aK ?_;rw [Tail_append_iff];exact ⟨uN (by simp [Tail_append_iff,Tail_cons_iff,FR];exact ⟨hT2.mono (by omega),by omega⟩),by simp [Tail_cons_iff,FR]⟩
    ·simp [a7,aA,hd2]
    all_goals simp [*]
  cases hv' with
  | row id' _ es0 n hn hl' hle ht=>
   have h0:es0[i]? =some [A[i]]:=by
    have h:(es0.take (A.map fun x=>[x]).length)[i]? =(A.map fun x=>[x])[i]? :=by rw [ht]
    rw [List.getElem?_take_of_lt (by simpa using hA)] at h;rw [h];simp [hA]
   simp [eO,h18,h19,h20,hi,hA,hn,hl',h0,hxl,-lenOf];refine Lt R[i] hri.2 hri.1 A[i] _ _ _ O' N' hT' hx ?_ ?_ ?_ ?_ (after _ ?_ ?_ ?_ ?_ ?_ ?_)<;>simp [*]
  | _=>
   simp [eO,h18,h19,h20,hi,hA,hxl,-lenOf];refine Lt R[i] hri.2 hri.1 A[i] _ _ _ O' N' hT' hx ?_ ?_ ?_ ?_ (after _ ?_ ?_ ?_ ?_ ?_ ?_)<;>simp [*]
 ·rintro e' _ L hL ⟨O',N',w,V,rfl,hw,hV,hk,hT',hN,hb',h3,h18,h19,h20,g1,g2⟩;simp [eO,h19,h20,hL];rw [iS] at hV;refine hK _ O' N' w V ?_ ?_ hV hk hT' hN hb' ?_ ?_ ?_
  ·rcases hw with ⟨hz,rfl,rfl⟩ | ⟨id,rfl,hlk,hid⟩
   ·exact .nilF
   ·exact .row id _ _ _ (by simp [hV.len]) hlk (Qb _) (by rw [iS])
  ·rcases hw with ⟨hz,rfl,rfl⟩ | ⟨id,rfl,hlk,hid⟩
   ·intro j hj;cases hj
   ·intro j hj;cases hj;exact hid
  ·simp [g1]
  ·simp [g2]
  ·simp [*]
 ·exact ⟨O,N,.Xt 1 [],[],rfl,.inl ⟨rfl,rfl,rfl⟩,by simpa using RowsW.nil,fun _ _ _=>rfl,hT,Qb _,hb,h3,h18,h19,h20,rfl,rfl⟩
end
theorem BO {α:Type} {f:α->List AV} {l:List α} {i:Nat} {es0:List (List AV)} (hi:i<l.length) (ht:es0.take (l.map f).length=l.map f):es0[i]? =some (f l[i]):=by
 have h:(es0.take (l.map f).length)[i]? =(l.map f)[i]? :=by rw [ht]
 rw [List.getElem?_take_of_lt (by simpa using hi)] at h;rw [h];simp [hi]
def Im (z:Nat) (v:AV) (es:List (List AV)):Prop:=v= .slice z es\/v= .Xt z es\/∃t,v= .app z es t
theorem Im.len {z:Nat} {v:AV} {es:List (List AV)} (h:Im z v es):lenOf v=some es.length:=by
 rcases h with rfl | rfl | ⟨t,rfl⟩<;>rfl
section
variable {I:Type} {fin:Option (Ex×St)->Option I}
theorem ST (D:List Xb) (hD:D.length<2^40) (hs:∀d∈D,d.args.length<2^40) (v w1 w2:AV) (b:Nat) (K:List Fr) (Q:Option I->Prop) (e:Env) (O:List (Nat×AO)) (N:Nat) (hT:Tail O N) (hv:Re O 2 v (D.map Xb.c))
  (hb:look b O=some (.row 4 [[w1,w2,.Xt 2 [],.Xt 1 []]])) (h3:look 3 e=some (.ptr b 4 0 0)) (h44:look 44 e=some v) (h45:look 45 e=some (.int .i64 D.length)) (h46:look 46 e=some (.int .i64 0))
  (hK:∀e' O' N' w,Mu O' 2 w (D.map Xb.c)->(∀j,vid w=some j->N<=j)->Kp (fun j=>j=b) N O O'->Tail O' N'->N<=N'->look b O'=some (.row 4 [[w1,w2,w,.Xt 1 []]])->
   look 1 e'=look 1 e->look 2 e'=look 2 e->look 3 e'=look 3 e->Q (go Φ fin K .normal ⟨e',⟨O',N'⟩⟩)):
  Q (go Φ fin (.c (.loop bU):: .b 4::K) .normal ⟨e,⟨O,N⟩⟩):=by
 have hvb:∀j,vid v=some j->j≠b:=by
  intro j hj;cases hv with
  | sl=>cases hj
  | fs=>cases hj
  | ap=>cases hj
  | row id _ es0 n hn hl hle ht=>cases hj;exact aF hl hb (by simp)
 refine eQ D.length (fun i e' h=>∃O' N' w,h=⟨O',N'⟩/\((i=0/\w= .Xt 2 [])\/∃id,w= .row id 2 0 i/\look id O'=some (.row 2 ((D.map Xb.c).take i))/\N<=id)/\Kp (fun j=>j=b) N O O'/\Tail O' N'/\N<=N'/\
   look b O'=some (.row 4 [[w1,w2,w,.Xt 1 []]])/\look 3 e'=some (.ptr b 4 0 0)/\look 44 e'=some v/\look 45 e'=some (.int .i64 D.length)/\look 46 e'=some (.int .i64 i)/\
   look 1 e'=look 1 e/\look 2 e'=look 2 e) Q ?_ ?_ 0 _ _ (Qc _) ?_
 ·rintro i e' _ L hi hL ⟨O',N',w,rfl,hw,hk,hT',hN,hb',h3,h44,h45,h46,g1,g2⟩ ih;have hw1:=aH i (by omega);have hbN:b<N:=hT.lt hb;have hc:=Cj D[i] (hs _ (Qd hi));simp only [Xb.ce] at hc;have t0:=hT' N' (Qb _);have t1:=hT' (N'+1) (by omega);have q1:¬N'+1=b:=by omega
  have hm:min i D.length=i:=by omega
  have hbd:(i+1)*32<=70368744177664:=by omega
  have htk:(D.map Xb.c).take (i+1)=(D.map Xb.c).take i++[Xb.c D[i]]:=q6 hi;rw [Xb.ce] at htk;have hv':Re O' 2 v (D.map Xb.c):=by
   refine hv.fr fun j hj=>?_
   obtain ⟨x,hl⟩:=hv.own hj;exact hk j (hT.lt hl) (hvb j hj)
  rcases hw with ⟨rfl,rfl⟩ | ⟨id,rfl,hlk,hid⟩
  ·have htk1:(D.map Xb.c).take 1=[[.int .i64 D[0].Xy,.slice 1 (D[0].args.map c32)]]:=by simpa using htk
   cases hv' with
   | row id' _ es0 n hn hl' hle ht=>
    have h0:=BO hi ht;simp [bU,Xb.ce,h3,h44,h45,h46,hi,hc,t0,t1,hn,hl',h0,wr1,aA,hb'];refine ih _ _ ⟨_,_,.row (N'+1) 2 0 (0+1),rfl,.inr ⟨N'+1,rfl,?_,by omega⟩,Kp.setl (Kp.app hk (by omega)) (.inr rfl),aK (hT'.app1 (by omega)),by omega,?_,?_,?_,?_,?_,?_,?_⟩
    ·simp [a7,q1,t1,htk1]
    ·simp [a7,aA,hb']
    all_goals simp [*]
   | _=>
    simp [bU,Xb.ce,h3,h44,h45,h46,hi,hc,t0,t1,wr1,aA,hb'];refine ih _ _ ⟨_,_,.row (N'+1) 2 0 (0+1),rfl,.inr ⟨N'+1,rfl,?_,by omega⟩,Kp.setl (Kp.app hk (by omega)) (.inr rfl),aK (hT'.app1 (by omega)),by omega,?_,?_,?_,?_,?_,?_,?_⟩
    ·simp [a7,q1,t1,htk1]
    ·simp [a7,aA,hb']
    all_goals simp [*]
  ·have hbi:=aF hb' hlk (by simp);have hd1:look (N'+1) (dropl id O')=none:=uL _ t1;have hd2:look b (dropl id O')=some (.row 4 [[w1,w2,.row id 2 0 i,.Xt 1 []]]):=by rw [iR hbi,hb']
   cases hv' with
   | row id' _ es0 n hn hl' hle ht=>
    have h0:=BO hi ht;simp [bU,Xb.ce,h3,h44,h45,h46,hi,hc,t0,hn,hl',h0,hw1,aA,hb',hlk,hm,hbd,hd1,hd2];refine ih _ _ ⟨_,_,.row (N'+1) 2 0 (i+1),rfl,.inr ⟨N'+1,rfl,?_,by omega⟩,Kp.setl (Kp.app (Kp.drop hk (.inl hid)) (by omega)) (.inr rfl),aK ((uN hT').app1 (by omega)),by omega,?_,?_,?_,?_,?_,?_,?_⟩
    ·simp [a7,q1,hd1,htk]
    ·simp [a7,aA,hd2]
    all_goals simp [*]
   | _=>
    simp [bU,Xb.ce,h3,h44,h45,h46,hi,hc,t0,hw1,aA,hb',hlk,hm,hbd,hd1,hd2];refine ih _ _ ⟨_,_,.row (N'+1) 2 0 (i+1),rfl,.inr ⟨N'+1,rfl,?_,by omega⟩,Kp.setl (Kp.app (Kp.drop hk (.inl hid)) (by omega)) (.inr rfl),aK ((uN hT').app1 (by omega)),by omega,?_,?_,?_,?_,?_,?_,?_⟩
    ·simp [a7,q1,hd1,htk]
    ·simp [a7,aA,hd2]
    all_goals simp [*]
 ·rintro e' _ L hL ⟨O',N',w,rfl,hw,hk,hT',hN,hb',h3,h44,h45,h46,g1,g2⟩;simp [bU,h45,h46,hL];refine hK _ O' N' w ?_ ?_ hk hT' hN hb' ?_ ?_ ?_
  ·rcases hw with ⟨hz,rfl⟩ | ⟨id,rfl,hlk,hid⟩
   ·have:D=[]:=Qg hz;subst this;exact .nilF
   ·rw [Qo (by simp)] at hlk;exact .row id _ _ _ (by simp) hlk (Qb _) (by rw [iS])
  ·rcases hw with ⟨hz,rfl⟩ | ⟨id,rfl,hlk,hid⟩
   ·intro j hj;cases hj
   ·intro j hj;cases hj;exact hid
  ·simp [g1]
  ·simp [g2]
  ·simp [*]
 ·exact ⟨O,N,.Xt 2 [],rfl,.inl ⟨rfl,rfl⟩,fun _ _ _=>rfl,hT,Qb _,hb,h3,h44,h45,h46,rfl,rfl⟩
theorem SU (G:List (List Int)) (hG:G.length<2^40) (hs:∀l∈G,l.length<2^40) (v w1 w2 w3:AV) (b:Nat) (K:List Fr) (Q:Option I->Prop) (e:Env) (O:List (Nat×AO)) (N:Nat) (hT:Tail O N) (hv:Im 1 v (G.map (cS 1 c32)))
  (hb:look b O=some (.row 4 [[w1,w2,w3,.Xt 1 []]])) (h3:look 3 e=some (.ptr b 4 0 0)) (h59:look 59 e=some v) (h60:look 60 e=some (.int .i64 G.length)) (h61:look 61 e=some (.int .i64 0))
  (hK:∀e' O' N' w,(w= .Xt 1 (G.map (cS 1 c32))\/∃t,w= .app 1 (G.map (cS 1 c32)) t)->Kp (fun j=>j=b) N O O'->Tail O' N'->N<=N'->look b O'=some (.row 4 [[w1,w2,w3,w]])->
   look 1 e'=look 1 e->look 2 e'=look 2 e->look 3 e'=look 3 e->Q (go Φ fin K .normal ⟨e',⟨O',N'⟩⟩)):
  Q (go Φ fin (.c (.loop eP):: .b 6::K) .normal ⟨e,⟨O,N⟩⟩):=by
 refine eQ G.length (fun i e' h=>∃O' N' w,h=⟨O',N'⟩/\((i=0/\w= .Xt 1 [])\/∃id,w= .app 1 ((G.map (cS 1 c32)).take i) id/\look id O'=some (.tok 1 i)/\N<=id)/\Kp (fun j=>j=b) N O O'/\Tail O' N'/\N<=N'/\
   look b O'=some (.row 4 [[w1,w2,w3,w]])/\look 3 e'=some (.ptr b 4 0 0)/\look 59 e'=some v/\look 60 e'=some (.int .i64 G.length)/\look 61 e'=some (.int .i64 i)/\
   look 1 e'=look 1 e/\look 2 e'=look 2 e) Q ?_ ?_ 0 _ _ (Qc _) ?_
 ·rintro i e' _ L hi hL ⟨O',N',w,rfl,hw,hk,hT',hN,hb',h3,h59,h60,h61,g1,g2⟩ ih;have hw1:=aH i (by omega);have hbN:b<N:=hT.lt hb;have hc:=DM G[i] (hs _ (Qd hi));have t0:=hT' N' (Qb _);have q0:¬N'=b:=by omega
  have q1:¬b=N':=by omega
  have hm:min i G.length=i:=by omega
  have hbd:(i+1)*24<=70368744177664:=by omega
  have htk:(G.map (cS 1 c32)).take (i+1)=(G.map (cS 1 c32)).take i++[cS 1 c32 G[i]]:=q6 hi;rw [cSe] at htk;rcases hw with ⟨rfl,rfl⟩ | ⟨id,rfl,hlk,hid⟩
  ·have htk1:(G.map (cS 1 c32)).take 1=[[.slice 1 (G[0].map c32)]]:=by simpa using htk
   rcases hv with rfl | rfl | ⟨t,rfl⟩
   all_goals
    simp [eP,cSe,h3,h59,h60,h61,hi,hc,t0,wr1,aA,hb'];refine ih _ _ ⟨_,_,.app 1 [[.slice 1 (G[0].map c32)]] N',rfl,.inr ⟨N',by rw [htk1],?_,by omega⟩,Kp.setl (Kp.app hk (by omega)) (.inr rfl),aK (hT'.app1 (by omega)),by omega,?_,?_,?_,?_,?_,?_,?_⟩
    ·simp [a7,q0,t0]
    ·simp [a7,aA,hb']
    all_goals simp [*]
  ·have hbi:=aF hb' hlk (by simp);have hib:¬id=b:=fun h=>hbi h.symm
   rcases hv with rfl | rfl | ⟨t,rfl⟩
   all_goals
    simp [eP,cSe,h3,h59,h60,h61,hi,hc,hw1,a7,hb',hbi,hlk,hm,hbd];refine ih _ _ ⟨_,_,.app 1 ((G.map (cS 1 c32)).take i++[[.slice 1 (G[i].map c32)]]) id,rfl,.inr ⟨id,by rw [htk],?_,hid⟩,Kp.setl (Kp.setl hk (.inl hid)) (.inr rfl),aK (aK hT'),by omega,?_,?_,?_,?_,?_,?_,?_⟩
    ·simp [a7,hlk,hib]
    ·simp [a7,hbi,hb']
    all_goals simp [*]
 ·rintro e' _ L hL ⟨O',N',w,rfl,hw,hk,hT',hN,hb',h3,h59,h60,h61,g1,g2⟩;simp [eP,h60,h61,hL];refine hK _ O' N' w ?_ hk hT' hN hb' ?_ ?_ ?_
  ·rcases hw with ⟨hz,rfl⟩ | ⟨id,rfl,hlk,hid⟩
   ·have:G=[]:=Qg hz;subst this;exact .inl rfl
   ·right;exact ⟨id,by rw [Qo (by simp)]⟩
  ·simp [g1]
  ·simp [g2]
  ·simp [*]
 ·exact ⟨O,N,.Xt 1 [],rfl,.inl ⟨rfl,rfl⟩,fun _ _ _=>rfl,hT,Qb _,hb,h3,h59,h60,h61,rfl,rfl⟩
end
structure CfgR (O:List (Nat×AO)) (v1 v2 v3 v4:AV) (A:List AV) (c:Xe):Prop where
 r:RowsR O v1 A c.rows
 n:Re O 1 v2 (c.Xq.map cI)
 d:Re O 2 v3 (c.Xp.map Xb.c)
 g:Im 1 v4 (c.Xl.map (cS 1 c32))
structure CfgU (c:Xe):Prop where
 t:CfgT c
 u:∀l∈c.rows,l.length<2^39
theorem CfgR.kp {O O':List (Nat×AO)} {v1 v2 v3 v4:AV} {A:List AV} {c:Xe} {N:Nat} {X:Nat->Prop} (h:CfgR O v1 v2 v3 v4 A c) (hT:Tail O N) (hk:Kp X N O O') (hx:∀j,X j->look j O=none\/N<=j):CfgR O' v1 v2 v3 v4 A c:=
 ⟨⟨h.r.v.kp hT hk hx,h.r.len,fun k x l ha hl=>(h.r.at_ k x l ha hl).kp hT hk hx⟩,h.n.kp hT hk hx,h.d.kp hT hk hx,h.g⟩
def VY (N:Nat) (O:List (Nat×AO)) (c:Xe) (r:Option (Rt×AH)):Prop:=
 ∃w1 w2 w3 w4 V O' N',r=some (.val (.agg [w1,w2,w3,w4]),⟨O',N'⟩)/\CfgM O' w1 w2 w3 w4 V c/\(∀j,CfgM.own w1 w2 w3 V j->N<=j)/\Kp (fun _=>False) N O O'/\Tail O' N'/\N<=N'
theorem Fh (c:Xe) (s:CfgU c) {v1 v2 v3 v4:AV} {A:List AV} {O:List (Nat×AO)} {N:Nat} (hT:Tail O N) (h:CfgR O v1 v2 v3 v4 A c):VY N O c (aD Φ 82 [.agg [v1,v2,v3,v4]] ⟨O,N⟩):=by
 rw [cP rfl rfl];have t0:=hT N (Qb _);have t1:=hT (N+1) (by omega);have hT1:Tail (O++[(N,AO.row 4 [[v1,v2,v3,v4]]),(N+1,AO.row 4 [[.Xt 1 [],.Xt 1 [],.Xt 2 [],.Xt 1 []]])]) (N+1+1):=by
  rw [Tail_append_iff,Tail_cons_iff,Tail_cons_iff];exact ⟨hT.mono (by omega),by omega,by omega,Tail.nil _⟩
 have hk1:Kp (fun _=>False) N O (O++[(N,AO.row 4 [[v1,v2,v3,v4]]),(N+1,AO.row 4 [[.Xt 1 [],.Xt 1 [],.Xt 2 [],.Xt 1 []]])]):=Kp.appL (fun _ _ _=>rfl) (by simp);have hR1:=h.kp hT hk1 (by simp);have hc1:=hR1.n.cells;have c1:=h.r.v.cells;have c2:=h.n.cells;have c3:=h.d.cells;have c4:AV.cells v4=some [v4]:=by rcases h.g with e | e | ⟨t,e⟩<;>subst e<;>rfl
 simp [EF,t0,t1];generalize hO1:O++[(N,AO.row 4 [[v1,v2,v3,v4]]),(N+1,AO.row 4 [[.Xt 1 [],.Xt 1 [],.Xt 2 [],.Xt 1 []]])]=O1 at hT1 hk1 hR1 ⊢;have lb1:look N O1=some (.row 4 [[v1,v2,v3,v4]]):=by rw [<- hO1];simp [t0]
 have lb2:look (N+1) O1=some (.row 4 [[.Xt 1 [],.Xt 1 [],.Xt 2 [],.Xt 1 []]]):=by rw [<- hO1];simp [t1]
 obtain ⟨w2,o2,e2,m2,fw2⟩:=SZ hT1 hR1.n s.t.nl;rw [e2];have n1:¬N+1+1=N:=by omega
 have t2:=hT1 (N+1+1) (Qb _);have t3:=hT1 (N+1+1+1) (by omega);have m2c:=m2.cells;have l1:=h.r.v.len;rw [cQ,h.r.len] at l1;simp [t3,aA,lb1,m2c,l1,-AV.cells,-lenOf];have hT2:Tail (O1++[(N+1+1,o2),(N+1+1+1,AO.row 4 [[.Xt 1 [],w2,.Xt 2 [],.Xt 1 []]])]) (N+1+1+1+1):=by
  rw [Tail_append_iff,Tail_cons_iff,Tail_cons_iff];exact ⟨hT1.mono (by omega),by omega,by omega,Tail.nil _⟩
 have hk2:Kp (fun _=>False) (N+1+1) O1 (O1++[(N+1+1,o2),(N+1+1+1,AO.row 4 [[.Xt 1 [],w2,.Xt 2 [],.Xt 1 []]])]):=Kp.appL (fun _ _ _=>rfl) (by simp);have hR2:=hR1.kp hT1 hk2 (by simp);have lb3:look (N+1+1+1) (O1++[(N+1+1,o2),(N+1+1+1,AO.row 4 [[.Xt 1 [],w2,.Xt 2 [],.Xt 1 []]])])=some (.row 4 [[.Xt 1 [],w2,.Xt 2 [],.Xt 1 []]]):=by
  have:¬N+1+1=N+1+1+1:=by omega
  rw [aA,t3];simp
 have m2':Mu (O1++[(N+1+1,o2),(N+1+1+1,AO.row 4 [[.Xt 1 [],w2,.Xt 2 [],.Xt 1 []]])]) 1 w2 (c.Xq.map cI):=by
  refine m2.fr fun j hj=>?_
  obtain ⟨es0,hl⟩:=m2.own hj;have hlt:=(hT1.app1 (o:=o2) (Qb _)).lt hl;have:¬N+1+1+1=j:=by omega
  rw [show O1++[(N+1+1,o2),(N+1+1+1,AO.row 4 [[.Xt 1 [],w2,.Xt 2 [],.Xt 1 []]])]=(O1++[(N+1+1,o2)])++[(N+1+1+1,AO.row 4 [[.Xt 1 [],w2,.Xt 2 [],.Xt 1 []]])] by simp];rw [aA (b:=[(N+1+1+1,_)])];simp [this]
 have lc1:look N (O1++[(N+1+1,o2),(N+1+1+1,AO.row 4 [[.Xt 1 [],w2,.Xt 2 [],.Xt 1 []]])])=some (.row 4 [[v1,v2,v3,v4]]):=by rw [aA,lb1];rfl
 have lc2:look (N+1) (O1++[(N+1+1,o2),(N+1+1+1,AO.row 4 [[.Xt 1 [],w2,.Xt 2 [],.Xt 1 []]])])=some (.row 4 [[.Xt 1 [],.Xt 1 [],.Xt 2 [],.Xt 1 []]]):=by rw [aA,lb2];rfl
 have hk12:=hk1.trans hk2 (by omega);generalize O1++[(N+1+1,o2),(N+1+1+1,AO.row 4 [[.Xt 1 [],w2,.Xt 2 [],.Xt 1 []]])]=O2 at hT2 hR2 lb3 m2' lc1 lc2 hk12 ⊢;refine SW c.rows s.t.rl (fun l hl=>⟨s.u l hl,(s.t.rs l hl).2⟩) v1 w2 A (N+1+1+1) _ _ _ O2 _ hT2 hR2.r lb3 ?_ ?_ ?_ ?_ ?_
 ·simp
 ·simp
 ·simp
 ·simp
 intro e3 O3 N3 w1 V mw1 fw1 hV hk3 hT3 hN3 lb3' g1 g2 g3;simp at g1 g2 g3;have hx:∀j,j=N+1+1+1->look j O1=none\/N+1+1<=j:=fun j hj=> .inr (by omega)
 have ld1:look N O3=some (.row 4 [[v1,v2,v3,v4]]):=hk3.lk hT2 lc1 (by omega);have ld2:look (N+1) O3=some (.row 4 [[.Xt 1 [],.Xt 1 [],.Xt 2 [],.Xt 1 []]]):=hk3.lk hT2 lc2 (by omega);have hk13:Kp (fun _=>False) N O O3:=fun j hj _=>(hk3 j (by omega) (by omega)).trans (hk12 j hj (by simp))
 have hR3:=h.kp hT hk13 (by simp);have m23:Mu O3 1 w2 (c.Xq.map cI):=by
  refine m2'.fr fun j hj=>?_
  obtain ⟨es0,hl⟩:=m2'.own hj;exact hk3 j (hT2.lt hl) (aF hl lb3 (by simp))
 have l3:=h.d.len;simp [n6,g1,ld1,l3,-lenOf];refine ST c.Xp s.t.dl (fun d hd=>(s.t.ds d hd).1) v3 w1 w2 (N+1+1+1) _ _ _ O3 N3 hT3 hR3.d lb3' ?_ ?_ ?_ ?_ ?_
 ·simp [g3]
 ·simp
 ·simp
 ·simp
 intro e4 O4 N4 w3 mw3 fw3 hk4 hT4 hN4 lb4 f1 f2 f3;simp at f1 f2 f3;have le1:look N O4=some (.row 4 [[v1,v2,v3,v4]]):=hk4.lk hT3 ld1 (by omega);have le2:look (N+1) O4=some (.row 4 [[.Xt 1 [],.Xt 1 [],.Xt 2 [],.Xt 1 []]]):=hk4.lk hT3 ld2 (by omega);have m24:Mu O4 1 w2 (c.Xq.map cI):=by
  refine m23.fr fun j hj=>?_
  obtain ⟨es0,hl⟩:=m23.own hj;exact hk4 j (hT3.lt hl) (aF hl lb3' (by simp))
 have m14:Mu O4 1 w1 (V.map fun x=>[x]):=by
  refine mw1.fr fun j hj=>?_
  obtain ⟨es0,hl⟩:=mw1.own hj;exact hk4 j (hT3.lt hl) (aF hl lb3' (by simp))
 have hV4:RowsW O4 (N+1+1+1+1) V c.rows:=hV.fr fun j es0 hl=>hk4 j (hT3.lt hl) (aF hl lb3' (by simp))
 have l4:lenOf v4=some c.Xl.length:=by have:=h.g.len;rw [cQ] at this;exact this
 simp [mZ,f1,g1,le1,l4,-lenOf];refine SU c.Xl s.t.gl (fun l hl=>(s.t.gs l hl).1) v4 w1 w2 w3 (N+1+1+1) _ _ _ O4 N4 hT4 h.g lb4 ?_ ?_ ?_ ?_ ?_
 ·simp [f3,g3]
 ·simp
 ·simp
 ·simp
 intro e5 O5 N5 w4 mw4 hk5 hT5 hN5 lb5 d1 d2 d3;simp at d1 d2 d3;have lf2:look (N+1) O5=some (.row 4 [[.Xt 1 [],.Xt 1 [],.Xt 2 [],.Xt 1 []]]):=hk5.lk hT4 le2 (by omega);simp [mY,d2,d3,f2,f3,g2,g3,lb5,lf2,a7];refine ⟨w1,w2,w3,w4,V,_,N5,rfl,?_,?_,?_,aK hT5,by omega⟩
 ·have keep:∀j z es0,z≠4->look j O4=some (.row z es0)->look j (setl (N+1) (.row 4 [[w1,w2,w3,w4]]) O5)=look j O4:=by
   intro j z es0 hz hl;have h5:=hk5 j (hT4.lt hl) (aF hl lb4 (by simp [hz]));have hl5:look j O5=some (.row z es0):=by rw [h5,hl]
   rw [a7,QA (aF hl5 lf2 (by simp [hz])),h5]
  refine ⟨m14.fr fun j hj=>?_,hV4.len,?_,m24.fr fun j hj=>?_,mw3.fr fun j hj=>?_,mw4,?_,hV4.inj,hV4.na⟩
  ·obtain ⟨es0,hl⟩:=m14.own hj;exact keep j 1 es0 (by decide) hl
  ·intro k v l hv hl;refine (hV4.mu k v l hv hl).fr fun j hj=>?_
   obtain ⟨es0,hl⟩:=(hV4.mu k v l hv hl).own hj;exact keep j 5 es0 (by decide) hl
  ·obtain ⟨es0,hl⟩:=m24.own hj;exact keep j 1 es0 (by decide) hl
  ·obtain ⟨es0,hl⟩:=mw3.own hj;exact keep j 2 es0 (by decide) hl
  ·intro i h1 h2;have:=fw1 i h1;obtain ⟨es0,hl⟩:=m2'.own h2;have:=hT2.lt hl;omega
 ·intro j hj;rcases hj with hj | hj | hj | ⟨v,hv,hj⟩
  ·have:=fw1 j hj;omega
  ·have:=fw2 j hj;omega
  ·have:=fw3 j hj;omega
  ·have:=hV4.fresh v hv j hj;omega
 ·intro j hj _;rw [a7,QA (by omega),hk5 j (by omega) (by omega),hk4 j (by omega) (by omega),hk3 j (by omega) (by omega)];exact hk12 j hj (by simp)
def t8:List Rw->Nat->List (AV×AV)
 | [],_=>[]
 | r::l,n=>(.int .i64 r.id,.int .i64 n)::t8 l (n+1)
def ents (l:List Rw):List (AV×AV):=t8 l 0
theorem Ha (r:Rw):∀(l:List Rw) (n:Nat),t8 (l++[r]) n=t8 l n++[(.int .i64 r.id,.int .i64 ((n+l.length:Nat):Int))]
 | [],n=>by simp [t8]
 | a::l,n=>by
  have ih:=Ha r l (n+1);simp only [mD,t8,ih,tK];rw [show n+1+l.length=n+(l.length+1) by omega]
theorem Iu (l:List Rw) (r:Rw):ents (l++[r])=ents l++[(.int .i64 r.id,.int .i64 (l.length:Nat))]:=by
 unfold ents;rw [Ha,QC]
theorem Cx (x:Int) (v:AV):∀(l:List Rw) (n:Nat),(∀r∈l,r.id≠x)->putA .i (.int .i64 x) v (t8 l n)=some (t8 l n++[(.int .i64 x,v)])
 | [],n,_=>rfl
 | r::l,n,h=>by
  have ih:=Cx x v l (n+1) fun r hr=>h r (by simp [hr])
  have h1:¬x=r.id:=fun e=>h r (by simp) e.symm
  simp only [t8,putA,eqKd,if_true];have:(x == r.id)=false:=by simpa using h1
  rw [this];simp only [ih,uF,mD]
def EL (N:Nat) (O:List (Nat×AO)) (iid k:Nat) (es:List (List AV)) (l:List Rw) (r:Option (Rt×AH)):Prop:=
 ∃O' N',r=some (.val (.tup []),⟨O',N'⟩)/\look iid O'=some (.row 1 (es.set k [.map N]))/\look N O'=some (.map (ents l))/\Kp (fun j=>j=iid) N O O'/\Tail O' N'/\N<N'
theorem KJ {O:List (Nat×AO)} {N sid iid k:Nat} {v1 v2 v3 v4:AV} {R:List AV} {V:List AV} {l:List Rw} {es:List (List AV)} {n:Nat} (hT:Tail O N) (hl:l.length<2^39) (hk:k<n) (hVk:k<V.length)
  (hs:look sid O=some (.row 15 [v1::v2::v3::v4::(R++[.row iid 1 0 n,.bool true])])) (hR:R.length=9) (hi:look iid O=some (.row 1 es)) (hn:n<=es.length) (hes:∃x,es[k]? =some [x])
  (h1:Mu O 1 v1 (V.map fun x=>[x])) (h5:Mu O 5 V[k] (l.map Rw.c)) (hri:vid v1≠some iid) (hinc:l.Pairwise fun a b=>a.id<b.id) (hk39:k<2^40):
  EL N O iid k es l (aD Φ 136 [.ptr sid 15 0 0,.int .i64 k] ⟨O,N⟩):=by
 rw [cP rfl rfl];obtain ⟨r0,r1,r2,r3,r4,r5,r6,r7,r8,rfl⟩:∃r0 r1 r2 r3 r4 r5 r6 r7 r8,R=[r0,r1,r2,r3,r4,r5,r6,r7,r8]:=by
  match R,hR with
  | [r0,r1,r2,r3,r4,r5,r6,r7,r8],_=>exact ⟨_,_,_,_,_,_,_,_,_,rfl⟩
 obtain ⟨x,hx⟩:=hes;have t0:=hT N (Qb _);have hsi:=aF hs hi (by simp);have fi:=aY hT hi (Qb N);have fs:=aY hT hs (Qb N);obtain ⟨rid,es1,e1,hl1,hle1,ht1⟩:=h1.nonempty (by simp;omega);subst e1;have hrid:¬rid=iid:=fun e=>hri (by rw [e];rfl)
 have fr:=aY hT hl1 (Qb N);have g1:es1[k]? =some [V[k]]:=BO hVk ht1;have hkn:k<V.length:=hVk;have hken:k<es.length:=by omega
 have h5l:=h5.len;rw [cQ] at h5l;simp [vG,hs,hi,t0,aA,hk,hx,a7,hsi,fi,fs,hl1,hrid,g1,hVk,h5l,-lenOf];have hT1:Tail (setl iid (AO.row 1 (es.set k [.map N])) (O++[(N,AO.map [])])) (N+1):=aK (hT.app1 (Qb _));have hk1:Kp (fun j=>j=iid) N O (setl iid (AO.row 1 (es.set k [.map N])) (O++[(N,AO.map [])])):=Kp.setl (Kp.app (fun _ _ _=>rfl) (Qb _)) (.inr rfl);have a1:look iid (setl iid (AO.row 1 (es.set k [.map N])) (O++[(N,AO.map [])]))=some (.row 1 (es.set k [.map N])):=by simp [a7,aA,hi]
 have a2:look N (setl iid (AO.row 1 (es.set k [.map N])) (O++[(N,AO.map [])]))=some (.map []):=by simp [a7,fi,t0]
 generalize setl iid (AO.row 1 (es.set k [.map N])) (O++[(N,AO.map [])])=O1 at hT1 hk1 a1 a2 ⊢;have a3:look sid O1=some (.row 15 [AV.row rid 1 0 V.length::v2::v3::v4::([r0,r1,r2,r3,r4,r5,r6,r7,r8]++[.row iid 1 0 n,.bool true])]):=by
  rw [hk1 sid (hT.lt hs) hsi,hs];simp
 have h51:Mu O1 5 V[k] (l.map Rw.c):=by
  refine h5.fr fun j hj=>?_
  obtain ⟨es0,hl0⟩:=h5.own hj;exact hk1 j (hT.lt hl0) (aF hl0 hi (by simp))
 refine eQ l.length (fun i e h=>∃O' N',h=⟨O',N'⟩/\Kp (fun j=>j=N) (N+1) O1 O'/\Tail O' N'/\N+1<=N'/\look N O'=some (.map (ents (l.take i)))/\look 0 e=some (.ptr sid 15 0 0)/\look 1 e=some (.int .i64 k)/\look 20 e=some V[k]/\look 21 e=some (.int .i64 l.length)/\look 22 e=some (.int .i64 i)) (EL N O iid k es l) ?_ ?_ 0 _ _ (Qc _) ?_
 ·rintro i e _ L hi' hL ⟨O',N',rfl,hk',hT',hN',b2,e0,e1,e20,e21,e22⟩ ih;have hw1:=aH i (by omega);have u0:=hT' N' (Qb _);have fN:¬N'=N:=by omega
  have b1:look iid O'=some (.row 1 (es.set k [.map N])):=hk'.lk hT1 a1 (by omega);have b3:=hk'.lk hT1 a3 (by omega);have b4:(es.set k [AV.map N])[k]? =some [.map N]:=by rw [List.getElem?_set_self hken]
  have hne:∀r∈l.take i,r.id≠l[i].id:=by
   intro r hr;rw [KA] at hr;obtain ⟨m,hm,rfl⟩:=hr;have:=H3.1 hinc m i (by omega) hi' (by omega);omega
  have hp:=Cx l[i].id (.int .i64 i) (l.take i) 0 hne;have hml:min i l.length=i:=by omega
  have hsn:ents (l.take (i+1))=ents (l.take i)++[(.int .i64 l[i].id,.int .i64 (i:Nat))]:=by
   rw [Qh hi',Iu,uE,hml]
  rw [show t8 (l.take i) 0=ents (l.take i) from rfl] at hp;have h5':Mu O' 5 V[k] (l.map Rw.c):=by
   refine h51.fr fun j hj=>?_
   obtain ⟨es0,hl0⟩:=h51.own hj;exact hk' j (hT1.lt hl0) (aF hl0 a2 (by simp))
  obtain ⟨r5',es5,ev,hl5,hle5,ht5⟩:=h5'.nonempty (by simp;omega);have g5:=BO hi' ht5;rw [ev] at e20;have f1:=aY hT' b1 (Qb N');have f3:=aY hT' b3 (Qb N');simp [fE,Rw.ce,e0,e1,e20,e21,e22,hi',hl5,g5,u0,b3,b1,hken,hk,b2,hp,hw1];refine ih _ _ ⟨_,_,rfl,Kp.setl hk' (.inr rfl),aK (hT'.mono (by omega)),by omega,?_,?_,?_,?_,?_,?_⟩
  ·simp [a7,b2,hsn]
  all_goals simp [*]
 ·rintro e _ L hL ⟨O',N',rfl,hk',hT',hN',b2,e0,e1,e20,e21,e22⟩;simp [fE,e21,e22,hL];refine ⟨O',N',rfl,hk'.lk hT1 a1 (by omega),?_,?_,hT',by omega⟩
  ·rw [b2,iS]
  ·intro j hj hx;rw [hk' j (by omega) (by omega)];exact hk1 j hj hx
 ·refine ⟨O1,N+1,rfl,fun _ _ _=>rfl,hT1,Qb _,a2,?_,?_,?_,?_,?_⟩<;>simp
structure SV where
 s:Nat
 v1:AV
 v2:AV
 v3:AV
 v4:AV
 vi:AV
 V:List AV
 M:List Nat
def SV.cells (S:SV) (p:Prg):List AV:=S.v1::S.v2::S.v3::S.v4::(Prg.c p++[S.vi,.bool true])
structure IdxM (O:List (Nat×AO)) (vi:AV) (M:List Nat) (R:List (List Rw)):Prop where
 i:Mu O 1 vi (M.map fun m=>[.map m])
 len:M.length=R.length
 m:∀(k m:Nat) (l:List Rw),M[k]? =some m->R[k]? =some l->look m O=some (.map (ents l))
 nd:∀(k k' m:Nat),M[k]? =some m->M[k']? =some m->k=k'
structure StoreM (O:List (Nat×AO)) (S:SV) (p:Prg) (c:Xe):Prop where
 s:look S.s O=some (.row 15 [S.cells p])
 cm:CfgM O S.v1 S.v2 S.v3 S.v4 S.V c
 x:IdxM O S.vi S.M c.rows
 ri:∀i,vid S.v1=some i->vid S.vi=some i->False
 ni:∀i,vid S.v2=some i->vid S.vi=some i->False
def SV.own (S:SV) (j:Nat):Prop:=j=S.s\/CfgM.own S.v1 S.v2 S.v3 S.V j\/vid S.vi=some j\/j∈S.M
theorem IdxM.fr {O O':List (Nat×AO)} {vi:AV} {M:List Nat} {R:List (List Rw)} (h:IdxM O vi M R) (hf:∀j,vid vi=some j\/j∈M->look j O'=look j O):IdxM O' vi M R:=
 ⟨h.i.fr fun j hj=>hf j (.inl hj),h.len,fun k m l hm hl=>by rw [hf m (.inr (Qe hm))];exact h.m k m l hm hl,h.nd⟩
theorem StoreM.fr {O O':List (Nat×AO)} {S:SV} {p:Prg} {c:Xe} (h:StoreM O S p c) (hf:∀j,S.own j->look j O'=look j O):StoreM O' S p c:=
 ⟨by rw [hf _ (.inl rfl)];exact h.s,h.cm.fr fun j hj=>hf j (.inr (.inl hj)),h.x.fr fun j hj=>hf j (.inr (.inr hj)),h.ri,h.ni⟩
theorem CfgM.own_lk {O:List (Nat×AO)} {v1 v2 v3 v4:AV} {V:List AV} {c:Xe} (h:CfgM O v1 v2 v3 v4 V c) {j:Nat} (hj:CfgM.own v1 v2 v3 V j):∃z es,look j O=some (.row z es)/\(z=1\/z=2\/z=5):=by
 rcases hj with hj | hj | hj | ⟨v,hv,hj⟩
 ·obtain ⟨es,hl⟩:=h.r.own hj;exact ⟨1,es,hl,.inl rfl⟩
 ·obtain ⟨es,hl⟩:=h.n.own hj;exact ⟨1,es,hl,.inl rfl⟩
 ·obtain ⟨es,hl⟩:=h.d.own hj;exact ⟨2,es,hl,.inr (.inl rfl)⟩
 ·obtain ⟨k,hk,rfl⟩:=Qn.1 hv;have hk2:k<c.rows.length:=by rw [<- h.rl];exact hk
  obtain ⟨es,hl⟩:=(h.rv k _ _ (Qa hk) (Qa hk2)).own hj;exact ⟨5,es,hl,.inr (.inr rfl)⟩
theorem IdxM.own_lk {O:List (Nat×AO)} {vi:AV} {M:List Nat} {R:List (List Rw)} (h:IdxM O vi M R) {j:Nat} (hj:j∈M):∃es,look j O=some (.map es):=by
 obtain ⟨k,hk,rfl⟩:=Qn.1 hj;have hk2:k<R.length:=by rw [<- h.len];exact hk
 exact ⟨_,h.m k _ _ (Qa hk) (Qa hk2)⟩
theorem StoreM.own_lk {O:List (Nat×AO)} {S:SV} {p:Prg} {c:Xe} (h:StoreM O S p c) {j:Nat} (hj:S.own j):∃x,look j O=some x/\x≠ .res:=by
 rcases hj with rfl | hj | hj | hj
 ·exact ⟨_,h.s,by simp⟩
 ·obtain ⟨z,es,hl,_⟩:=h.cm.own_lk hj;exact ⟨_,hl,by simp⟩
 ·obtain ⟨es,hl⟩:=h.x.i.own hj;exact ⟨_,hl,by simp⟩
 ·obtain ⟨es,hl⟩:=h.x.own_lk hj;exact ⟨_,hl,by simp⟩
theorem StoreM.kp {O O':List (Nat×AO)} {N:Nat} {X:Nat->Prop} {S:SV} {p:Prg} {c:Xe} (h:StoreM O S p c) (hT:Tail O N) (hk:Kp X N O O') (hx:∀j,S.own j->¬X j):StoreM O' S p c:=by
 refine h.fr fun j hj=>?_
 obtain ⟨x,hl,_⟩:=h.own_lk hj;exact hk j (hT.lt hl) (hx j hj)
theorem CfgM.re {O:List (Nat×AO)} {v1 v2 v3 v4:AV} {V:List AV} {c:Xe} (h:CfgM O v1 v2 v3 v4 V c):CfgR O v1 v2 v3 v4 V c:=
 ⟨⟨h.r.re,h.rl,fun k x l hx hl=>(h.rv k x l hx hl).re⟩,h.n.re,h.d.re,by rcases h.g with e | ⟨t,e⟩;exact .inr (.inl e);exact .inr (.inr ⟨t,e⟩)⟩
theorem CfgR.imm {O:List (Nat×AO)} (c:Xe):CfgR O (.slice 1 (c.rows.map (cS 5 Rw.c))) (.slice 1 (c.Xq.map cI)) (.slice 2 (c.Xp.map Xb.c)) (.slice 1 (c.Xl.map (cS 1 c32))) (c.rows.map fun l=> .slice 5 (l.map Rw.c)) c:=by
 refine ⟨⟨?_,by simp,?_⟩,.sl _,.sl _,.inl rfl⟩
 ·have:(c.rows.map fun l=>AV.slice 5 (l.map Rw.c)).map (fun x=>[x])=c.rows.map (cS 5 Rw.c):=by
   rw [List.map_map];rfl
  rw [this];exact .sl _
 ·intro k x l hx hl;rw [List.getElem?_map,hl] at hx;cases hx;exact .sl _
def Rs (O:List (Nat×AO)) (j:Nat):Prop:=look j O=some .res
def EI (N:Nat) (O:List (Nat×AO)) (p:Prg) (c:Xe) (r:Option (Rt×AH)):Prop:=
 ∃S O' N',r=some (.val (.ptr S.s 15 0 0),⟨O',N'⟩)/\StoreM O' S p c/\(∀j,S.own j->N<=j)/\Kp (Rs O) N O O'/\Tail O' N'/\N<=N'
theorem U6 (p:Prg) (op:p.Ok iH) (c:Xe) (u:CfgU c) (hinc:∀l∈c.rows,l.Pairwise fun a b=>a.id<b.id) {v1 v2 v3 v4:AV} {A:List AV} {O:List (Nat×AO)} {N:Nat} (hT:Tail O N) (h:CfgR O v1 v2 v3 v4 A c):
  EI N O p c (aD Φ 71 [.agg (Prg.c p),.agg [v1,v2,v3,v4]] ⟨O,N⟩):=by
 rw [cP rfl rfl];have hcl:=NC p op;simp only [Prg.e] at hcl;have t0:=hT N (Qb _);have t13:=hT (N+1+12) (by omega);have n13:¬N=N+1+12:=by omega
 simp [EB,Prg.e,t0,aA];have hT1:Tail (O++[(N,AO.row 4 [[v1,v2,v3,v4]]),(N+1+12,AO.res)]) (N+1+12+1):=by
  rw [Tail_append_iff,Tail_cons_iff,Tail_cons_iff];exact ⟨hT.mono (by omega),by omega,by omega,Tail.nil _⟩
 have hk1:Kp (fun _=>False) N O (O++[(N,AO.row 4 [[v1,v2,v3,v4]]),(N+1+12,AO.res)]):=Kp.appL (fun _ _ _=>rfl) (by simp;omega);have hres:look (N+1+12) (O++[(N,AO.row 4 [[v1,v2,v3,v4]]),(N+1+12,AO.res)])=some .res:=by simp [t13,n13]
 obtain ⟨w1,w2,w3,w4,V,O2,N2,e2,m2,f2,hk2,hT2,hN2⟩:=Fh c u hT1 (h.kp hT hk1 (by simp));have hres2:look (N+1+12) O2=some .res:=hk2.lk hT1 hres (by simp);rw [e2];have hs1:∀cs,look (N+1+12) (bW (setl (N+1+12) (.row 15 cs) O2))=some (.row 15 cs):=fun cs=>by
  rw [mJ (by simp [a7,hres2])];simp [a7,hres2]
 have hs2:∀cs,Tail (bW (setl (N+1+12) (.row 15 cs) O2)) N2:=fun cs=>HL (aK hT2)
 have hs3:∀cs,look N2 (bW (setl (N+1+12) (.row 15 cs) O2))=none:=fun cs=>hs2 cs _ (Qb _)
 have hs4:∀cs z es j,z≠15->look j O2=some (.row z es)->look j (bW (setl (N+1+12) (.row 15 cs) O2))=some (.row z es):=fun cs z es j hz hl=>by
  have hne:j≠N+1+12:=aF hl hres2 (by simp);rw [mJ (by simp [a7,hne,hl])];simp [a7,hne,hl]
 have hs5:∀cs,Kp (Rs O) N O (bW (setl (N+1+12) (.row 15 cs) O2)):=fun cs j hj hx=>by
  have hne:j≠N+1+12:=by omega
  have h2:look j O2=look j O:=(hk2 j (by omega) (by simp)).trans (hk1 j hj (by simp));rw [mJ (by rw [a7,QA hne,h2];exact hx),a7,QA hne,h2]
 have n2:¬N2=N+1+12:=by omega
 have l1:=m2.r.len;rw [cQ,m2.rl] at l1;have hrl:=u.t.rl;have b1:(c.rows.length:Int)*8<=140737488355328:=by omega
 have b2:c.rows.length<4611686018427387904:=by omega
 have w1c:=m2.r.cells;simp [hcl,hres2,hs1,hs3,aA,a7,l1,n2,b1,b2,-lenOf,-AV.cells];generalize hO3:setl (N+1+12) _ (_++[(N2,AO.row 1 (List.replicate c.rows.length [AV.nilmap]))])=O3;have hT3:Tail O3 (N2+1):=by rw [<- hO3];exact aK ((hs2 _).app1 (Qb _))
 have hk3:Kp (Rs O) N O O3:=by rw [<- hO3];exact Kp.setl (Kp.app (hs5 _) (by omega)) (.inl (by omega))
 have ls:look (N+1+12) O3=some (.row 15 [w1::w2::w3::w4::(Prg.c p++[.row N2 1 0 c.rows.length,.bool true])]):=by
  rw [<- hO3,a7,a8 rfl,aA,hs1,Prg.e];rfl
 have li:look N2 O3=some (.row 1 (List.replicate c.rows.length [AV.nilmap])):=by
  rw [<- hO3,a7,QA n2,aA,hs3];simp
 have lo:∀z es j,z≠15->look j O2=some (.row z es)->look j O3=look j O2:=fun z es j hz hl=>by
  have hne:j≠N+1+12:=aF hl hres2 (by simp);rw [<- hO3,a7,QA hne,aA,hs4 _ z es j hz hl,hl];rfl
 have m3:CfgM O3 w1 w2 w3 w4 V c:=m2.fr fun j hj=>by
  obtain ⟨z,es,hl,hz⟩:=m2.own_lk hj;exact lo z es j (by omega) hl
 clear hO3;have fo:∀j,CfgM.own w1 w2 w3 V j->j≠N2:=fun j hj=>by
  obtain ⟨z,es,hl,hz⟩:=m2.own_lk hj;have:=hT2.lt hl;omega
 refine eQ c.rows.length (fun i e h=>∃(O':List (Nat×AO)) (N':Nat) (M:List Nat),h=⟨O',N'⟩/\Kp (fun j=>j=N2) (N2+1) O3 O'/\Tail O' N'/\N2+1<=N'/\look N2 O'=some (.row 1 (M.map (fun m=>[AV.map m])++List.replicate (c.rows.length - i) [AV.nilmap]))/\M.length=i/\
   (∀(k m:Nat) (l:List Rw),M[k]? =some m->c.rows[k]? =some l->look m O'=some (.map (ents l)))/\(∀m∈M,N2+1<=m)/\(∀(k k' m:Nat),M[k]? =some m->M[k']? =some m->k=k')/\
   look 5 e=some (.ptr (N+1+12) 15 0 0)/\look 28 e=some (.int .i64 c.rows.length)/\look 29 e=some (.int .i64 i)) (EI N O p c) ?_ ?_ 0 _ _ (Qc _) ?_
 ·rintro i e _ L hi hL ⟨O',N',M,rfl,hk',hT',hN',ln,hMl,hMe,hMf,hMn,e5,e28,e29⟩ ih;have hw:=aH i (by omega);have hVi:i<V.length:=by rw [m2.rl];exact hi
  have ls':=hk'.lk hT3 ls (by omega);have m3':CfgM O' w1 w2 w3 w4 V c:=m3.fr fun j hj=>by
   obtain ⟨z,es,hl,hz⟩:=m3.own_lk hj;exact hk' j (hT3.lt hl) (fo j hj)
  have hes:(M.map (fun m=>[AV.map m])++List.replicate (c.rows.length - i) [AV.nilmap]).length=c.rows.length:=by simp [hMl];omega
  have hr:=KJ (k:=i) (n:=c.rows.length) (V:=V) (l:=c.rows[i]) (R:=Prg.c p) hT' (u.u _ (Qd hi)) hi hVi ls' (by simp) ln (Nat.le_of_eq hes.symm) ?_ m3'.r (m3'.rv i _ _ (Qa hVi) (Qa hi)) ?_ (hinc _ (Qd hi)) (by omega)
  rotate_left
  ·refine ⟨.nilmap,?_⟩;rw [Qp (by simp;omega),List.getElem?_replicate,a8 (by simp [hMl];omega)]
  ·intro hc;exact fo N2 (.inl hc) rfl
  obtain ⟨O4,N4,e4,r1,r2,hk4,hT4,hN4⟩:=hr;simp [jD,e5,e28,e29,hi,e4,hw];refine ih _ _ ⟨O4,N4,M++[N'],rfl,?_,hT4,by omega,?_,by simp [hMl],?_,?_,?_,?_,?_,?_⟩
  ·intro j hj hx;rw [hk4 j (by omega) hx,hk' j hj hx]
  ·rw [r1];congr 1;have hd:c.rows.length - i=(c.rows.length - (i+1))+1:=by omega
   rw [hd,CB,List.set_append_right _ _ (by simp [hMl])];simp [hMl]
  ·intro k m l hm hl;by_cases hk:k<M.length
   ·rw [Ql hk] at hm;have h0:=hMe k m l hm hl;exact hk4.lk hT' h0 (by have:=hMf m (Qe hm);omega)
   ·have hb:=(Qm.1 hm).1;simp at hb;have hk:k=M.length:=by omega
    subst hk;rw [Qp (by omega)] at hm;simp at hm;subst hm;rw [hMl,Qa hi] at hl;cases hl;exact r2
  ·intro m hm;rcases eI.1 hm with hm | hm
   ·exact hMf m hm
   ·simp at hm;omega
  ·intro k k' m hm hm';have hb:=(Qm.1 hm).1;have hb':=(Qm.1 hm').1;simp at hb hb';have hlt:∀m,m∈M->m<N':=fun m hm=>by
    obtain ⟨q,hq,rfl⟩:=Qn.1 hm;exact hT'.lt (hMe q _ _ (Qa hq) (Qa (by omega)))
   by_cases hk:k<M.length
   ·by_cases hk':k'<M.length
    ·rw [Ql hk] at hm;rw [Ql hk'] at hm';exact hMn k k' m hm hm'
    ·rw [Ql hk] at hm;rw [Qp (by omega),show k' - M.length=0 by omega] at hm';simp at hm';have:=hlt m (Qe hm);omega
   ·by_cases hk':k'<M.length
    ·rw [Ql hk'] at hm';rw [Qp (by omega),show k - M.length=0 by omega] at hm;simp at hm;have:=hlt m (Qe hm');omega
    ·omega
  ·simp [e5]
  ·simp [e28]
  ·simp
 ·rintro e _ L hL ⟨O',N',M,rfl,hk',hT',hN',ln,hMl,hMe,hMf,hMn,e5,e28,e29⟩;simp [jD,mW,e5,e28,e29,hL];have ls':=hk'.lk hT3 ls (by omega);have m3':CfgM O' w1 w2 w3 w4 V c:=m3.fr fun j hj=>by
   obtain ⟨z,es,hl,hz⟩:=m3.own_lk hj;exact hk' j (hT3.lt hl) (fo j hj)
  refine ⟨⟨N+1+12,w1,w2,w3,w4,.row N2 1 0 c.rows.length,V,M⟩,O',N',rfl,⟨ls',m3',⟨?_,hMl,hMe,hMn⟩,?_,?_⟩,?_,?_,hT',by omega⟩
  ·rw [Nat.sub_self,List.replicate_zero,v8] at ln;exact .row N2 _ _ _ (by simp [hMl]) ln (Qb _) (by rw [iS])
  ·intro j h1 h2;cases h2;exact fo _ (.inl h1) rfl
  ·intro j h1 h2;cases h2;exact fo _ (.inr (.inl h1)) rfl
  ·intro j hj;rcases hj with rfl | hj | hj | hj
   ·simp only;omega
   ·have:=f2 j hj;omega
   ·cases hj;omega
   ·have:=hMf j hj;omega
  ·intro j hj hx;rw [hk' j (by omega) (by omega)];exact hk3 j hj hx
 ·exact ⟨O3,N2+1,[],rfl,fun _ _ _=>rfl,hT3,Qb _,by simpa using li,rfl,by simp,by simp,by simp,by simp,by simp,by simp⟩
theorem G1 {O:List (Nat×AO)} {n p:Nat} {o:AO} (h:Tail O n) (hp:p<n):Tail (O++[(p,o)]) n:=by
 rw [Tail_append_iff,Tail_cons_iff];exact ⟨h,hp,Tail.nil _⟩
theorem Hm {n:Nat} {H:AH} {I:Type} (x:List AV) (h:mapO (snap n H) x=some x) (l:List I):mapO (mapO (snap n H)) (l.map fun _=>x)=some (l.map fun _=>x):=mL (g:=fun _=>x) (fun _=>h) l
theorem O8 (p:Prg) (f:PrgS p) (hd:∀t∈p.Xm,t.Yb.args.length<2^40):a9 Φ 72 [.agg (Prg.c p)]=some (.val (.agg (Xe.c (lU p)))):=by
 rw [aC rfl rfl,O6];have ht:=f.t;have h:=W9 p f;simp only [Prg.e] at h;generalize (newR p).map (cS 1 c32)=W at h ⊢;generalize hQ:(fun r:Option Rt=>r=some (Rt.val (.agg [.slice 1 (p.Xm.map fun _=>[.slice 5 []]),.slice 1 (p.Xm.map fun _=>[.int .i64 1]),.slice 2 (p.Xm.map fun t=>[.int .i64 t.Yb.Xy,.slice 1 (t.Yb.args.map c32)]),.slice 1 W])))=Q;have hq:∀r,Q r=(r=some (Rt.val (.agg [.slice 1 (p.Xm.map fun _=>[.slice 5 []]),.slice 1 (p.Xm.map fun _=>[.int .i64 1]),.slice 2 (p.Xm.map fun t=>[.int .i64 t.Yb.Xy,.slice 1 (t.Yb.args.map c32)]),.slice 1 W]))):=fun r=>by rw [<- hQ]
 rw [<- hq];clear hQ;simp [EC,Prg.e,h];refine eQ p.Xm.length (fun i e h=>∃(O':List (Nat×AO)) (N':Nat) (w1 w2 w3:AV),h=⟨O',N'⟩/\Tail O' N'/\look 0 O'=some (.row 4 [[.Xt 1 [],.Xt 1 [],.Xt 2 [],.Xt 1 []]])/\look 1 O'=some (.row 4 [[w1,w2,w3,.slice 1 W]])/\
   ((i=0/\w1= .Xt 1 []/\w2= .Xt 1 []/\w3= .Xt 2 [])\/∃a b t,w1= .row a 1 0 i/\look a O'=some (.row 1 ((p.Xm.map fun _=>[AV.slice 5 []]).take i))/\w2= .row b 1 0 i/\look b O'=some (.row 1 ((p.Xm.map fun _=>[AV.int .i64 1]).take i))/\a≠b/\
    w3= .app 2 ((p.Xm.map fun t=>[AV.int .i64 t.Yb.Xy,.slice 1 (t.Yb.args.map c32)]).take i) t/\look t O'=some (.tok 2 i))/\
   look 2 e=some (.ptr 0 4 0 0)/\look 3 e=some (.ptr 1 4 0 0)/\look 10 e=some (.slice 6 (p.Xm.map Tbl.c))/\look 11 e=some (.int .i64 p.Xm.length)/\look 12 e=some (.int .i64 i)) Q ?_ ?_ 0 _ _ (Qc _) ?_
 ·rintro i e _ L hi hL ⟨O',N',w1,w2,w3,rfl,hT',l0,l1,hw,e2,e3,e10,e11,e12⟩ ih;have hw1:=aH i (by omega);have hc:=Cj p.Xm[i].Yb (hd _ (Qd hi));simp only [Xb.ce] at hc;have t0:=hT' N' (Qb _);have t1:=hT' (N'+1) (by omega);have t2:=hT' (N'+2) (by omega);have t3:=hT' (N'+3) (by omega);have hTm:Tail O' (N'+1+1+1+1):=hT'.mono (by omega);have nz:¬N'=0:=by have:=hT'.lt l1;omega
  have f0:=aY hT' l0 (Qb N');have f1:=aY hT' l1 (Qb N');have g1:¬1=N'+1/\¬N'+1=1:=by omega
  have g2:¬1=N'+2/\¬N'+2=1:=by omega
  have g3:¬1=N'+3/\¬N'+3=1:=by omega
  have g4:¬0=N'+1/\¬0=N'+2/\¬0=N'+3:=by omega
  have s1:∀{I:Type} (g:Tbl->I),(p.Xm.map g).take (i+1)=(p.Xm.map g).take i++[g p.Xm[i]]:=fun g=>q6 hi
  rcases hw with ⟨rfl,rfl,rfl,rfl⟩ | ⟨a,b,t,rfl,la,rfl,lb,hab,rfl,lt⟩
  ·have s2:∀{I:Type} (g:Tbl->I),(p.Xm.map g).take 1=[g p.Xm[0]]:=fun g=>by simpa using s1 g
   simp [hU,Tbl.e,e3,e10,e11,e12,hi,hc,t0,t1,t2,t3,wr1,aA,a7,l1];refine ih _ _ ⟨_,_,.row (N'+1) 1 0 1,.row (N'+1+1) 1 0 1,.app 2 _ (N'+1+1+1),rfl,?_,?_,?_,.inr ⟨N'+1,N'+1+1,N'+1+1+1,rfl,?_,rfl,?_,by omega,by rw [s1],?_⟩,?_,?_,?_,?_,?_⟩
   ·repeat' first | exact hTm | apply aK | apply uN | apply G1 | omega
   ·simp [aA,a7,l0,nz]
   ·simp [aA,a7,l1]
   ·simp [aA,a7,t1,s2,nz]
   ·simp [aA,a7,t2,s2]
   ·simp [aA,a7,t3]
   all_goals simp [e2,e3,e10,e11]
  ·have i0:0≠a:=aF l0 la (by simp);have i1:1≠a:=aF l1 la (by simp);have i2:0≠b:=aF l0 lb (by simp);have i3:1≠b:=aF l1 lb (by simp);have i4:t≠a:=aF lt la (by simp);have i5:t≠b:=aF lt lb (by simp);have i6:0≠t:=aF l0 lt (by simp);have i7:1≠t:=aF l1 lt (by simp);have fa:=aY hT' la (Qb N');have fa1:=aY (n:=N'+1) hT' la (by omega);have fb:=aY hT' lb (Qb N');have fb1:=aY (n:=N'+1) hT' lb (by omega);have fb2:=aY (n:=N'+1+1) hT' lb (by omega);have fc1:=aY (n:=N'+1) hT' lt (by omega);have fc2:=aY (n:=N'+1+1) hT' lt (by omega);have hm:min i p.Xm.length=i:=by omega
   have j0:=i0.symm;have j1:=i1.symm;have j2:=i2.symm;have j3:=i3.symm;have j4:=i4.symm;have j5:=i5.symm;have j6:=i6.symm;have j7:=i7.symm;have hba:b≠a:=fun e=>hab e.symm
   have c1:(i+1)*24<=70368744177664:=by omega
   have c2:(i+1)*8<=70368744177664:=by omega
   have c3:(i+1)*32<=70368744177664:=by omega
   simp [hU,Tbl.e,e3,e10,e11,e12,hi,hc,t0,t1,t2,hw1,aA,a7,iR,uL,l1,la,lb,lt,i1,i3,i4,i5,i7,j3,j7,nz,fa1,fb1,fb2,fc1,fc2,hba,hm,c1,c2,c3];refine ih _ _ ⟨_,_,.row (N'+1) 1 0 (i+1),.row (N'+1+1) 1 0 (i+1),.app 2 _ t,rfl,?_,?_,?_,.inr ⟨N'+1,N'+1+1,t,rfl,?_,rfl,?_,by omega,by rw [s1],?_⟩,?_,?_,?_,?_,?_⟩
   ·have hTn:Tail O' (N'+1+1+1):=hT'.mono (by omega)
    repeat' first | exact hTm | exact hTn | apply aK | apply uN | apply G1 | omega
   ·simp [aA,a7,iR,l0,nz,i0,i2,i6]
   ·simp [aA,a7,iR,l1,i1,i3,i7]
   ·simp [aA,a7,iR,uL,t1,s1,nz,fb1,fc1]
   ·simp [aA,a7,iR,uL,t2,s1,nz,fb2,fc2]
   ·simp [aA,a7,iR,lt,i4,i5,j7]
   all_goals simp [e2,e3,e10,e11]
 ·rintro e _ L hL ⟨O',N',w1,w2,w3,rfl,hT',l0,l1,hw,e2,e3,e10,e11,e12⟩;simp [hU,mX,e2,e3,e11,e12,hL,l1,l0,a7];rw [hq];rcases hw with ⟨hz,rfl,rfl,rfl⟩ | ⟨a,b,t,rfl,la,rfl,lb,hab,rfl,lt⟩
  ·have:p.Xm=[]:=Qg hz;simp [this]
  ·rw [Qo (by simp)] at la lb;have i0:¬a=0:=fun e=>aF l0 la (by simp) e.symm
   have i2:¬b=0:=fun e=>aF l0 lb (by simp) e.symm
   have r1:=fun H=>Hm (n:=38) (H:=H) [AV.slice 5 []] (by simp) p.Xm
   have r2:=fun H=>Hm (n:=38) (H:=H) [AV.int .i64 1] (by simp) p.Xm
   have ht1:∀{I:Type} (g:Tbl->I),(p.Xm.map g).take p.Xm.length=p.Xm.map g:=fun g=>Qo (by simp)
   simp [la,lb,a7,i0,i2,ht1,r1,r2]
 ·refine ⟨_,_,.Xt 1 [],.Xt 1 [],.Xt 2 [],rfl,?_,?_,?_,.inl ⟨rfl,rfl,rfl,rfl⟩,?_,?_,?_,?_,?_⟩
  all_goals simp [Tail_cons_iff,FR]
end Go.Av
