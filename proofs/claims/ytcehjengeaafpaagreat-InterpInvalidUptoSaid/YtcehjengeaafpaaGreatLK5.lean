/-
 Lookup: the row that none beats.
-/
import Derived.Test.YtcehjengeaafpaaGreatPX8
set_option linter.unusedVariables false
set_option linter.unusedSimpArgs false
set_option linter.constructorNameAsVariable false
namespace Go.Av
set_option maxRecDepth 4000
def F1 (key:List Int):AV:= .func (.func dO) [] [.iptr 1 [[.slice 1 (key.map c32)]] 0 0]
theorem qy8 (p:Prg) (f:PrgS p) (t:Int) (key:List Int) (x r:Rw) (hx:EntS x.entry) (hr:EntS r.entry):
  a8 Φ tJ [.agg (Rw.c x),.iptr 1 [[F1 key]] 0 0,.iptr 9 [Prg.c p] 0 0,.iptr 1 [[a7 t]] 0 0,.iptr 5 [Rw.c r] 0 0]=some (.val (.bool (mtF x.entry key&&prc p t x r))):=by
 rw [aA rfl rfl];have k1:=Zv x hx key;have k2:=qvf p f t x r hx hr;simp only [Prg.e,Rw.ce] at k1 k2;cases z:mtF x.entry key<;>rw [z] at k1<;>simp [ID,F1,Prg.e,Rw.ce,k1,k2]
theorem fany {Z:Type} (Q:Z->Bool):∀l:List Z,(l.find? Q).isSome=l.any Q
 | []=>rfl
 | a::l=>by rw [List.find?_cons,EZ];cases h:Q a<;>simp [fany Q l]
theorem YI (p:Prg) (f:PrgS p) (t:Int) (key:List Int) (l:List Rw) (hl:∀x∈l,EntS x.entry) (hll:l.length<2^40) (r:Rw) (hr:EntS r.entry):
  a8 Φ pJ [.agg (Rw.c r),.iptr 1 [[F1 key]] 0 0,.iptr 1 [[.slice 5 (l.map Rw.c)]] 0 0,.iptr 9 [Prg.c p] 0 0,.iptr 1 [[a7 t]] 0 0]=
   some (.val (.bool (mtF r.entry key&& !(l.any fun x=>mtF x.entry key&&prc p t x r)))):=by
 rw [aA rfl rfl];have k1:=Zv r hr key;have kf:=fun N=>qwc (O:=[]) (N:=N) (fun _ _=>rfl) (.sl (l.map Rw.c)) hll (g:=tJ) (caps:=[.iptr 1 [[F1 key]] 0 0,.iptr 9 [Prg.c p] 0 0,.iptr 1 [[a7 t]] 0 0,.iptr 5 [Rw.c r] 0 0]) (caps':=[.iptr 1 [[F1 key]] 0 0,.iptr 9 [Prg.c p] 0 0,.iptr 1 [[a7 t]] 0 0,.iptr 5 [Rw.c r] 0 0]) (fun x=>mtF x.entry key&&prc p t x r)
  (fun O' N' _=>by simp [F1,Prg.e,Rw.ce]) (fun x hx=>qy8 p f t key x r (hl x hx) hr)
 have ha:(l.find? fun x=>mtF x.entry key&&prc p t x r).isSome=l.any fun x=>mtF x.entry key&&prc p t x r:=fany _ l
 cases z:mtF r.entry key with
 | false=>
  rw [z] at k1;simp only [Rw.ce] at k1;simp [rY,F1,Prg.e,Rw.ce,k1]
 | true=>
  rw [z] at k1;obtain ⟨O',N',e,hk,hT',hN'⟩:=kf 0;rw [ha] at e;have u0:=hT' N' (Qb _);simp only [Rw.ce,Prg.e,F1] at k1 e;cases q:l.find? (fun x=>mtF x.entry key&&prc p t x r) with
  | some x=>
   rw [q] at e;simp only [Rw.ce] at e;simp [rY,F1,Prg.e,Rw.ce,k1,e,u0,aH,aC]
  | none=>
   rw [q] at e;simp only [zRow] at e;simp [rY,F1,Prg.e,Rw.ce,k1,e,u0,aH,aC]
def bstP (p:Prg) (t:Int) (l:List Rw) (key:List Int):Option Rw:=WK (fun r=>mtF r.entry key) (prc p t) l
def rowV (o:Option Rw):List AV:=match o with
 | some x=>Rw.c x
 | none=>Rw.c ⟨0,noE⟩
theorem Zy (r:Rw) (hr:EntS r.entry):a8 Φ tK [.agg (Rw.c r)]=some (.val (.agg (Rw.c r))):=by
 rw [aA rfl rfl];have k1:=qzh r.entry.keys hr.kl;have k2:=Tf r.entry.call.args hr.al;simp [IE,Rw.ce,k1,k2]
theorem Z6:a8 Φ tK [.agg (Rw.c ⟨0,noE⟩)]=some (.val (.agg (Rw.c ⟨0,noE⟩))):=Zy _ noE_s
theorem nne6 (N:Nat):¬N=N+1/\¬N=N+1+1/\¬N=N+1+1+1/\¬N=N+1+1+1+1/\¬N=N+1+1+1+1+1/\¬N=N+1+1+1+1+1+1/\¬N+1=N/\¬N+1=N+1+1/\¬N+1=N+1+1+1/\¬N+1=N+1+1+1+1/\¬N+1=N+1+1+1+1+1/\¬N+1=N+1+1+1+1+1+1/\¬N+1+1=N/\¬N+1+1=N+1/\¬N+1+1=N+1+1+1/\¬N+1+1=N+1+1+1+1/\¬N+1+1=N+1+1+1+1+1/\¬N+1+1=N+1+1+1+1+1+1/\¬N+1+1+1=N/\¬N+1+1+1=N+1/\¬N+1+1+1=N+1+1/\¬N+1+1+1=N+1+1+1+1/\¬N+1+1+1=N+1+1+1+1+1/\¬N+1+1+1=N+1+1+1+1+1+1/\¬N+1+1+1+1=N/\¬N+1+1+1+1=N+1/\¬N+1+1+1+1=N+1+1/\¬N+1+1+1+1=N+1+1+1/\¬N+1+1+1+1=N+1+1+1+1+1/\¬N+1+1+1+1=N+1+1+1+1+1+1/\¬N+1+1+1+1+1=N/\¬N+1+1+1+1+1=N+1/\¬N+1+1+1+1+1=N+1+1/\¬N+1+1+1+1+1=N+1+1+1/\¬N+1+1+1+1+1=N+1+1+1+1/\¬N+1+1+1+1+1=N+1+1+1+1+1+1/\¬N+1+1+1+1+1+1=N/\¬N+1+1+1+1+1+1=N+1/\¬N+1+1+1+1+1+1=N+1+1/\¬N+1+1+1+1+1+1=N+1+1+1/\¬N+1+1+1+1+1+1=N+1+1+1+1/\¬N+1+1+1+1+1+1=N+1+1+1+1+1:=by
 omega
def Jp (N:Nat) (O:List (Nat×AO)) (o:Option Rw) (r:Option (Rt×AH)):Prop:=
 ∃O' N',r=some (.val (.tup [.agg (rowV o),.bool o.isSome]),⟨O',N'⟩)/\Kp (fun _=>False) N O O'/\Tail O' N'/\N<=N'
theorem Cz (p:Prg) (f:PrgS p) (k:Nat) (hk:k<p.Xm.length) (key:List Int) {O:List (Nat×AO)} {N:Nat} (hT:Tail O N) {L:AV} {l:List Rw} (hL:Re O 5 L (l.map Rw.c)) (hll:l.length<2^40) (hl:∀x∈l,EntS x.entry):
  Jp N O (bstP p k l key) (aQ Φ p6 [.agg (Prg.c p),a7 k,L,.slice 1 (key.map c32)] ⟨O,N⟩):=by
 rw [eI rfl rfl];have t0:=hT N (Qb _);have t1:=hT (N+1) (by omega);have t2:=hT (N+1+1) (by omega);have t3:=hT (N+1+1+1) (by omega);have t4:=hT (N+1+1+1+1) (by omega);have t5:=hT (N+1+1+1+1+1) (by omega);have hlt:¬((k:Int)<0):=by omega
 have hge:¬((p.Xm.length:Int)<=(k:Int)):=by omega
 have hbs:(l.find? fun r=>mtF r.entry key&& !(l.any fun x=>mtF x.entry key&&prc p k x r))=bstP p k l key:=rfl;have hT6:Tail (O++[(N,.row 9 [Prg.c p]),(N+1,.row 1 [[a7 k]]),(N+1+1,.row 1 [[L]]),(N+1+1+1,.row 1 [[.slice 1 (key.map c32)]]),(N+1+1+1+1,.row 5 [zRow]),(N+1+1+1+1+1,.row 1 [[.func (.func dO) [] [.ptr (N+1+1+1) 1 0 0]]])]) (N+1+1+1+1+1+1):=hT.apps (by omega) (by simp only [iW,List.not_mem_nil,or_false];rintro x (rfl | rfl | rfl | rfl | rfl | rfl)<;>simp only<;>omega);have hk6:Kp (fun _=>False) N O (O++[(N,.row 9 [Prg.c p]),(N+1,.row 1 [[a7 k]]),(N+1+1,.row 1 [[L]]),(N+1+1+1,.row 1 [[.slice 1 (key.map c32)]]),(N+1+1+1+1,.row 5 [zRow]),(N+1+1+1+1+1,.row 1 [[.func (.func dO) [] [.ptr (N+1+1+1) 1 0 0]]])]):=Kp.apps (by simp only [iW,List.not_mem_nil,or_false];rintro x (rfl | rfl | rfl | rfl | rfl | rfl)<;>simp only<;>omega);have own:∀j,vid L=some j->j<N:=fun j hj=>by
  cases hL with
  | row id _ es0 n hn hl hle ht=>cases hj;exact hT.lt hl
  | sl=>cases hj
  | fs=>cases hj
  | ap=>cases hj
 have b0:look N (O++[(N,.row 9 [Prg.c p]),(N+1,.row 1 [[a7 k]]),(N+1+1,.row 1 [[L]]),(N+1+1+1,.row 1 [[.slice 1 (key.map c32)]]),(N+1+1+1+1,.row 5 [zRow]),(N+1+1+1+1+1,.row 1 [[.func (.func dO) [] [.ptr (N+1+1+1) 1 0 0]]])])=some (.row 9 [Prg.c p]):=by simp [aH,t0]
 have b1:look (N+1) (O++[(N,.row 9 [Prg.c p]),(N+1,.row 1 [[a7 k]]),(N+1+1,.row 1 [[L]]),(N+1+1+1,.row 1 [[.slice 1 (key.map c32)]]),(N+1+1+1+1,.row 5 [zRow]),(N+1+1+1+1+1,.row 1 [[.func (.func dO) [] [.ptr (N+1+1+1) 1 0 0]]])])=some (.row 1 [[a7 k]]):=by simp [aH,t1,nne6 N]
 have b2:look (N+1+1) (O++[(N,.row 9 [Prg.c p]),(N+1,.row 1 [[a7 k]]),(N+1+1,.row 1 [[L]]),(N+1+1+1,.row 1 [[.slice 1 (key.map c32)]]),(N+1+1+1+1,.row 5 [zRow]),(N+1+1+1+1+1,.row 1 [[.func (.func dO) [] [.ptr (N+1+1+1) 1 0 0]]])])=some (.row 1 [[L]]):=by simp [aH,t2,nne6 N]
 have b3:look (N+1+1+1) (O++[(N,.row 9 [Prg.c p]),(N+1,.row 1 [[a7 k]]),(N+1+1,.row 1 [[L]]),(N+1+1+1,.row 1 [[.slice 1 (key.map c32)]]),(N+1+1+1+1,.row 5 [zRow]),(N+1+1+1+1+1,.row 1 [[.func (.func dO) [] [.ptr (N+1+1+1) 1 0 0]]])])=some (.row 1 [[.slice 1 (key.map c32)]]):=by simp [aH,t3,nne6 N]
 have b4:look (N+1+1+1+1) (O++[(N,.row 9 [Prg.c p]),(N+1,.row 1 [[a7 k]]),(N+1+1,.row 1 [[L]]),(N+1+1+1,.row 1 [[.slice 1 (key.map c32)]]),(N+1+1+1+1,.row 5 [zRow]),(N+1+1+1+1+1,.row 1 [[.func (.func dO) [] [.ptr (N+1+1+1) 1 0 0]]])])=some (.row 5 [zRow]):=by simp [aH,t4,nne6 N]
 have b5:look (N+1+1+1+1+1) (O++[(N,.row 9 [Prg.c p]),(N+1,.row 1 [[a7 k]]),(N+1+1,.row 1 [[L]]),(N+1+1+1,.row 1 [[.slice 1 (key.map c32)]]),(N+1+1+1+1,.row 5 [zRow]),(N+1+1+1+1+1,.row 1 [[.func (.func dO) [] [.ptr (N+1+1+1) 1 0 0]]])])=some (.row 1 [[.func (.func dO) [] [.ptr (N+1+1+1) 1 0 0]]]):=by simp [aH,t5,nne6 N]
 have hL6:Re (O++[(N,.row 9 [Prg.c p]),(N+1,.row 1 [[a7 k]]),(N+1+1,.row 1 [[L]]),(N+1+1+1,.row 1 [[.slice 1 (key.map c32)]]),(N+1+1+1+1,.row 5 [zRow]),(N+1+1+1+1+1,.row 1 [[.func (.func dO) [] [.ptr (N+1+1+1) 1 0 0]]])]) 5 L (l.map Rw.c):=hL.fr fun j hj=>hk6 j (own j hj) (by simp)
 obtain ⟨O7,N7,e7,k7,hT7,hN7⟩:=qwc hT6 hL6 hll (g:=pJ) (caps:=[.ptr (N+1+1+1+1+1) 1 0 0,.ptr (N+1+1) 1 0 0,.ptr N 9 0 0,.ptr (N+1) 1 0 0])
  (caps':=[.iptr 1 [[F1 key]] 0 0,.iptr 1 [[.slice 5 (l.map Rw.c)]] 0 0,.iptr 9 [Prg.c p] 0 0,.iptr 1 [[a7 k]] 0 0]) (fun r=>mtF r.entry key&& !(l.any fun x=>mtF x.entry key&&prc p k x r))
  (fun O' N' h=>by
   have c0:=(h N (by omega)).trans b0;have c1:=(h (N+1) (by omega)).trans b1;have c2:=(h (N+1+1) (by omega)).trans b2;have c3:=(h (N+1+1+1) (by omega)).trans b3;have c5:=(h (N+1+1+1+1+1) (by omega)).trans b5;have hL':Re O' 5 L (l.map Rw.c):=hL6.fr fun j hj=>h j (by have:=own j hj;omega)
   have cl:=hL'.snp (N:=N') (n:=38) (r9 (n:=38) (H:=⟨O',N'⟩) (fun x=>Nk x) l);rw [Prg.e] at c0 ⊢;simp [c0,c1,c2,c3,c5,cl,F1])
  (fun r hr=>YI p f k key l hl hll r (hl r hr))
 rw [hbs] at e7;have u7:=hT7 N7 (Qb _);have d4:=k7.lk hT6 b4 (by simp);have e4:¬N7=(N+1+1+1+1):=by omega
 have e4':¬(N+1+1+1+1)=N7:=by omega
 simp only [Prg.e,zRow] at e7 d4;cases hb:bstP p k l key with
 | some r=>
  have hr:EntS r.entry:=hl r (X7 hb);have kc:=Zy r hr;rw [hb] at e7;simp only [Rw.ce] at e7 kc;simp [yD,Prg.e,t0,t1,t2,t3,t4,t5,aH,aC,nne6 N,hlt,hge,hL.cells,-AV.cells,frzB,e7,u7,d4,kc,e4,e4'];refine ⟨_,_,by simp [rowV,Rw.ce];rfl,?_,d6 (hT7.mono (Nat.le_succ _)),by omega⟩;exact Kp.setl (hk6.trans k7 (by omega)) (.inl (by omega))
 | none=>
  have kc:=Z6;rw [hb] at e7;simp only [Rw.ce,noE,zRow,nW] at e7 kc;simp [yD,Prg.e,t0,t1,t2,t3,t4,t5,aH,aC,nne6 N,hlt,hge,hL.cells,-AV.cells,frzB,e7,u7,d4,kc,e4,e4'];refine ⟨_,_,by simp [rowV,Rw.ce,noE];rfl,?_,d6 (hT7.mono (Nat.le_succ _)),by omega⟩;exact Kp.setl (hk6.trans k7 (by omega)) (.inl (by omega))
theorem Ft (p:Prg) (t:Int) (a:Rw):prc p t a a=false:=by simp [prc]
theorem Rx (p:Prg) (t:Int) (a b:Rw):prc p t a b=true↔b.entry.Xs<a.entry.Xs\/(a.entry.Xs=b.entry.Xs/\(pfxZ p t b.entry<pfxZ p t a.entry\/(pfxZ p t a.entry=pfxZ p t b.entry/\a.id<b.id))):=by
 unfold prc;split
 ·simp;omega
 ·split
  ·simp;omega
  ·simp;omega
theorem Kj (p:Prg) (t:Int) (a b c:Rw) (h1:prc p t a b=true) (h2:prc p t b c=true):prc p t a c=true:=by
 rw [Rx] at*;omega
theorem Fu (p:Prg) (t:Int) (a b:Rw) (h:a.id≠b.id):prc p t a b=true\/prc p t b a=true:=by
 rw [Rx,Rx];omega
theorem Ka (p:Prg) (t:Int) (l:List Rw) (hl:l.Pairwise fun a b=>a.id<b.id) (key:List Int):bstP p t l key=Ty (fun r=>mtF r.entry key) (prc p t) l:=by
 refine Cy (Ft p t) (Kj p t) l fun a ha b hb hab=>Fu p t a b fun hid=>hab ?_
 obtain ⟨i,hi,rfl⟩:=Qn.1 ha;obtain ⟨j,hj,rfl⟩:=Qn.1 hb;rw [X6] at hl;rcases Nat.lt_trichotomy i j with h | h | h
 ·have:=hl i j hi hj h;omega
 ·subst h;rfl
 ·have:=hl j i hj hi h;omega
def rv (o:Option Rw):List AV:=match o with
 | some x=>Rw.c x
 | none=>zRow
def oB (p:Prg) (t:Int) (key:List Int) (l:List Rw):Option Rw:=l.foldl (vP (fun r=>mtF r.entry key) (prc p t)) none
theorem YJ {Z:Type} (m:Z->Bool) (pr:Z->Z->Bool) (o:Option Z) (r:Z):vP m pr o r=some r\/vP m pr o r=o:=by
 unfold vP;generalize (m r&&(match o with | none=>true | some b=>pr r b))=c;cases c<;>simp
theorem Zq {Z:Type} (m:Z->Bool) (pr:Z->Z->Bool):∀(l:List Z) (o:Option Z) (x:Z),l.foldl (vP m pr) o=some x->x∈l\/o=some x
 | [],o,x,h=> .inr h
 | a::l,o,x,h=>by
  rw [PU] at h;rcases Zq m pr l _ x h with h | h
  ·exact .inl (ET _ h)
  ·rcases YJ m pr o a with e | e
   ·rw [e] at h;rw [Option.some.inj h];exact .inl (by simp)
   ·rw [e] at h;exact .inr h
structure MS where
 e:Envt
 rs:List (List Int)
 hits:List Hit
def keyX (p:Prg) (t:Int) (e:Envt):List Int:=match at? p.Xm t with
 | none=>[]
 | some x=>x.keys.map fun k=>iand .u32 (eGet e k.field.header k.field.field) (cD (wid p k.field.header k.field.field))
def selX (p:Prg) (c:Xe) (t:Int) (e:Envt):Option Rw:=oB p t (keyX p t e) ((at? c.rows t).getD [])
def calX (c:Xe) (t:Int) (o:Option Rw):Xb:=match o with
 | some x=>x.entry.call
 | none=>(at? c.Xp t).getD ⟨0,[]⟩
def apX (p:Prg) (c:Xe) (t:Int) (s:MS):MS×Bool:=
 let o:=selX p c t s.e
 let y:=exeX p (calX c t o) s.e s.rs
 (⟨y.1,y.2,s.hits++[⟨t,(o.map (·.id)).getD 0,(calX c t o).Xy⟩]⟩,o.isSome)
def ndX (p:Prg) (c:Xe) (f:List Xa->MS->MS) (s:MS) (x:Xa):MS:=
 if x.kind=2 then f (if evl p [] x.cond s.e []=1 then x.thn else x.els) s
 else let y:=apX p c x.table s;f (if y.2 then x.thn else x.els) y.1
def ctX (p:Prg) (c:Xe):Nat->List Xa->MS->MS
 | 0,_,s=>s
 | n+1,l,s=>l.foldl (ndX p c (ctX p c n)) s
def resX (p:Prg) (s:MS):Rslt:=if (at? s.e.metaF 2).getD 0=1\/512<(emi p s.e).length then ⟨true,0,[],s.hits⟩ else ⟨false,(at? s.e.metaF 1).getD 0,emi p s.e,s.hits⟩
def noR:Rslt:=⟨true,0,[],[]⟩
def runX (p:Prg) (c:Xe) (k:Packet):Option (Rslt×List (List Int)):=if k.port<0\/255<k.port then none else match prs p k.data with
 | none=>none
 | some e=>
  let s:=ctX p c (nest p.Ya) p.Ya ⟨eSet p e (-1) 0 k.port,c.Xl,[]⟩
  some (resX p s,s.rs)
def runL (p:Prg) (c:Xe):List Packet->List Rslt×Xe
 | []=>([],c)
 | k::l=>match runX p c k with
  | none=>(noR::(runL p c l).1,(runL p c l).2)
  | some (r,rs)=>(r::(runL p { c with Xl:=rs } l).1,(runL p { c with Xl:=rs } l).2)
structure RV (p:Prg) (rs:List (List Int)):Prop where
 n:rs.length=p.Xl.length
 l:∀(i:Nat) (g:Xg) (x:List Int),p.Xl[i]? =some g->rs[i]? =some x->(x.length:Int)=g.size/\∀v∈x,0<=v/\v<2^g.Yc.toNat
theorem RV.set {p:Prg} {rs:List (List Int)} (h:RV p rs) (r i v:Int):RV p (rSet p rs r i v):=by
 unfold rSet;split
 ·rename_i g x hg hx;split
  ·refine ⟨by simp [h.n],fun j g' x' hg' hx'=>?_⟩;obtain ⟨k,rfl,hk,rfl⟩:=kO hx;simp only [GH,List.getElem?_set] at hx';split at hx'
   ·rename_i q;subst q;simp [hk] at hx';subst hx';rw [qT,hg'] at hg;obtain rfl:=Option.some.inj hg;obtain ⟨h1,h2⟩:=h.l k _ _ hg' (Qa hk);refine ⟨by simpa using h1,fun u hu=>?_⟩;rcases Qq hu with hu | rfl
    ·exact h2 u hu
    ·exact qwn v _
   ·exact h.l j g' x' hg' hx'
  ·exact h
 ·exact h
theorem RV.get {p:Prg} {rs:List (List Int)} (h:RV p rs) (hw:∀g∈p.Xl,g.Yc<=32) (r i:Int):0<=rGet p rs r i/\rGet p rs r i<=4294967295:=by
 unfold rGet;split
 ·rename_i g x hg hx;split
  ·cases q:at? x i with
   | none=>simp
   | some v=>
    obtain ⟨k,rfl,hk,rfl⟩:=kO hx;rw [qT] at hg;obtain ⟨_,h2⟩:=h.l k g _ hg (Qa hk);obtain ⟨j,_,hj,rfl⟩:=kO q;obtain ⟨h3,h4⟩:=h2 _ (Qd hj);have h5:=hw g (Qe hg);have:(2:Int)^g.Yc.toNat<=2^32:=by
     have:=DV (n:=2) (by decide) (show g.Yc.toNat<=32 by omega)
     exact_mod_cast this
    simp only [jO];omega
  ·simp
 ·simp
theorem W1 {p:Prg} {ps:List Fld} {args:List Int} {x:Envt×List (List Int)} (s:Xf) (h1:EV p x.1) (h2:RV p x.2):EV p (stmX p ps args x s).1/\RV p (stmX p ps args x s).2:=by
 unfold stmX;split
 ·exact ⟨h1.set _ _ _,h2⟩
 split
 ·exact ⟨h1.add _,h2⟩
 split
 ·exact ⟨h1.rem _,h2⟩
 split
 ·exact ⟨h1.set _ _ _,h2⟩
 ·exact ⟨h1,h2.set _ _ _⟩
theorem qw1 {p:Prg} {ps:List Fld} {args:List Int}:∀(l:List Xf) {x:Envt×List (List Int)},EV p x.1->RV p x.2->EV p (l.foldl (stmX p ps args) x).1/\RV p (l.foldl (stmX p ps args) x).2
 | [],x,h1,h2=>⟨h1,h2⟩
 | s::l,x,h1,h2=>qw1 l (W1 s h1 h2).1 (W1 s h1 h2).2
theorem qv9 {p:Prg} (c:Xb) {e:Envt} {rs:List (List Int)} (h1:EV p e) (h2:RV p rs):EV p (exeX p c e rs).1/\RV p (exeX p c e rs).2:=by
 unfold exeX;split
 ·exact ⟨h1,h2⟩
 ·exact qw1 _ h1 h2
structure SV' (p:Prg) (s:MS):Prop where
 e:EV p s.e
 r:RV p s.rs
theorem SV'.ap {p:Prg} {c:Xe} {t:Int} {s:MS} (h:SV' p s):SV' p (apX p c t s).1:=⟨(qv9 _ h.e h.r).1,(qv9 _ h.e h.r).2⟩
theorem SV'.nd {p:Prg} {c:Xe} {f:List Xa->MS->MS} (hf:∀l s,SV' p s->SV' p (f l s)) {s:MS} (h:SV' p s) (x:Xa):SV' p (ndX p c f s x):=by
 unfold ndX;split
 ·exact hf _ _ h
 ·exact hf _ _ h.ap
theorem Pq {Z I:Type} {P:I->Prop} {f:I->Z->I} (hf:∀b a,P b->P (f b a)):∀(l:List Z) (b:I),P b->P (l.foldl f b)
 | [],_,h=>h
 | a::l,b,h=>Pq hf l _ (hf b a h)
theorem SV'.ct {p:Prg} {c:Xe}:∀(n:Nat) (l:List Xa) (s:MS),SV' p s->SV' p (ctX p c n l s)
 | 0,_,_,h=>h
 | n+1,l,s,h=>Pq (P:=SV' p) (fun _ x hb=>SV'.nd (SV'.ct n) hb x) l s h
def apl (l:List Xa):List Int:=((pre l).filter appl).map (·.table)
theorem apl_nil:apl []=[]:=rfl
theorem YF (x:Xa) (l:List Xa):apl (x::l)=apl [x]++apl l:=by
 simp [apl,pre]
theorem Dz (x:Xa):apl [x]=(if appl x then [x.table] else [])++(apl x.thn++apl x.els):=by
 obtain ⟨k,t,c,a,b⟩:=x;simp only [apl,pre,pre1,PV,Xa.table,Xa.thn,Xa.els];cases q:appl (.mk k t c a b)<;>simp [List.filter_cons,q,Xa.table]
def HS (s s':MS) (l:List Int):Prop:=∃hs,s'.hits=s.hits++hs/\(hs.map (·.table)).Sublist l
theorem HS.refl {s:MS} {l:List Int}:HS s s l:=⟨[],by simp,List.nil_sublist _⟩
theorem HS.trans {s s' s'':MS} {l m:List Int} (h:HS s s' l) (h2:HS s' s'' m):HS s s'' (l++m):=by
 obtain ⟨a,e1,k1⟩:=h;obtain ⟨b,e2,k2⟩:=h2;exact ⟨a++b,by rw [e2,e1,DW],by rw [EX];exact k1.append k2⟩
theorem HS.mono {s s':MS} {l m:List Int} (h:HS s s' l) (hm:l.Sublist m):HS s s' m:=by
 obtain ⟨a,e1,k1⟩:=h;exact ⟨a,e1,k1.trans hm⟩
theorem Oi {x:Xa} {l:List Xa} {y:Xa} (hx:x∈l) (hy:y=x\/y∈pre x.thn\/y∈pre x.els):y∈pre l:=by
 induction l with
 | nil=>cases hx
 | cons a l ih=>
  simp only [pre,gI];rcases iW.1 hx with rfl | h
  ·left;obtain ⟨k,t,c,p,q⟩:=x;simp only [pre1,iW,gI];exact hy
  ·exact .inr (ih h)
theorem Ua {p:Prg} {c:Xe}:∀(n:Nat) (l:List Xa) (s:MS),(∀x∈pre l,x.kind=2\/appl x=true)->HS s (ctX p c n l s) (apl l)
 | 0,_,_,_=>HS.refl
 | n+1,l,s,hk=>by
  simp only [ctX]
  induction l generalizing s with
  | nil=>exact HS.refl
  | cons x l ih=>
   rw [PU,YF];refine HS.trans ?_ (ih _ fun y hy=>hk y (by simp only [pre,gI];exact .inr hy));have kt:=fun s=>Ua (p:=p) (c:=c) n x.thn s fun y hy=>hk y (Oi (by simp) (.inr (.inl hy)))
   have ke:=fun s=>Ua (p:=p) (c:=c) n x.els s fun y hy=>hk y (Oi (by simp) (.inr (.inr hy)))
   rw [Dz];have both:∀(b:Prop) [Decidable b] (s:MS),HS s (ctX p c n (if b then x.thn else x.els) s) (apl x.thn++apl x.els):=fun b _ s=>by
    split
    ·exact (kt s).mono (List.sublist_append_left _ _)
    ·exact (ke s).mono (List.sublist_append_right _ _)
   unfold ndX;split
   ·exact (both _ _).mono (List.sublist_append_right _ _)
   ·rename_i h2;have ha:appl x=true:=(hk x (Oi (by simp) (.inl rfl))).resolve_left h2;rw [a9 ha];exact HS.trans ⟨[_],rfl,List.Sublist.refl _⟩ (both _ _)
set_option maxRecDepth 6000
structure PWd (p:Prg):Prop where
 hl:p.Xo.length<2^40
 hf:∀h∈p.Xo,h.Xz.length<2^40
 ml:p.Xn.length<2^40
 m0:0<p.Xn.length
 rl:p.Xl.length<2^40
 rz:∀g∈p.Xl,g.size<2^40
 rw':∀g∈p.Xl,g.Yc<=32
structure XV (p:Prg) (e:Envt) (rs:List (List Int)):Prop where
 ev:EV p e
 rv:RV p rs
 pl:e.payload.length<2^40
theorem XV.evs {p:Prg} (w:PWd p) {e:Envt} {rs:List (List Int)} (x:XV p e rs):EvS e:=by
 refine ⟨by rw [x.ev.v];exact w.hl,by rw [x.ev.f];exact w.hl,fun l hl=>?_,by rw [x.ev.m];exact w.ml,x.pl⟩;obtain ⟨i,hi,rfl⟩:=Qn.1 hl;have h2:i<p.Xo.length:=by rw [<- x.ev.f];exact hi
 rw [x.ev.g i hi h2];exact w.hf _ (Qd h2)
theorem XV.m0 {p:Prg} (w:PWd p) {e:Envt} {rs:List (List Int)} (x:XV p e rs):e.metaF≠[]:=fun h=>by
 have:=x.ev.m;have:=w.m0;rw [h] at*;simp at*;omega
theorem XV.hs {p:Prg} {e:Envt} {rs:List (List Int)} (x:XV p e rs):e.Xz.length=e.valid.length:=by rw [x.ev.f,x.ev.v]
theorem XV.g {p:Prg} {e:Envt} {rs:List (List Int)} (x:XV p e rs) (h f:Int):ok32 0 (eGet e h f):=qv6 x.ev (fun h f=>(WI p h f).2) h f
theorem XV.r1 {p:Prg} (w:PWd p) {e:Envt} {rs:List (List Int)} (x:XV p e rs):rs.length<2^40:=by rw [x.rv.n];exact w.rl
theorem XV.r2 {p:Prg} (w:PWd p) {e:Envt} {rs:List (List Int)} (x:XV p e rs):∀l∈rs,l.length<2^40:=fun l hl=>by
 obtain ⟨i,hi,rfl⟩:=Qn.1 hl;have h2:i<p.Xl.length:=by rw [<- x.rv.n];exact hi
 have:=(x.rv.l i _ _ (Qa h2) (Qa hi)).1;have:=w.rz _ (Qd h2);omega
theorem Rv (p:Prg) (e:Envt) (h f v:Int):(eSet p e h f v).payload=e.payload:=by
 unfold eSet ePut;split
 ·rfl
 ·split<;>rfl
theorem Fo {p:Prg} {ps:List Fld} {args:List Int} (x:Envt×List (List Int)) (s:Xf):(stmX p ps args x s).1.payload=x.1.payload:=by
 unfold stmX;split
 ·exact Rv ..
 split
 ·unfold eAdd;split<;>rfl
 split
 ·unfold eRem;split<;>rfl
 split
 ·exact Rv ..
 ·rfl
theorem XV.stm {p:Prg} {ps:List Fld} {args:List Int} {x:Envt×List (List Int)} (h:XV p x.1 x.2) (s:Xf):XV p (stmX p ps args x s).1 (stmX p ps args x s).2:=
 ⟨(W1 s h.ev h.rv).1,(W1 s h.ev h.rv).2,by rw [Fo];exact h.pl⟩
theorem Kh (e:Envt) (s:EvS e):a8 Φ eG [.agg e.c]=some (.val (.agg e.c)):=by
 obtain ⟨O',N',V,F,M,A,hr,em,_⟩:=Po (Tail.nil 0) KL e s;have:=em.snp (N:=N');unfold a8;rw [show H0=⟨[],0⟩ from rfl,hr];show (match snap 40 ⟨O',N'⟩ (clR V F M e.payload) with | some r'=>some (Rt.val r') | none=>none)=_;unfold clR;rw [show (40:Nat)=39+1 from rfl,Rq,this];rfl
def stC (p:Prg) (ps:List Fld) (args:List Int) (e:Envt) (rs:List (List Int)):List AV:=
 Prg.c p++[.slice 2 (ps.map Fld.c),.slice 1 (args.map c32)]++e.c++[.slice 1 (rs.map (cS 1 c32))]
theorem st_e (p:Prg) (ps:List Fld) (args:List Int) (e:Envt) (rs:List (List Int)):stC p ps args e rs=(nI p [.slice 2 (ps.map Fld.c),.slice 1 (args.map c32),.slice 1 (e.valid.map cB),.slice 1 (e.Xz.map (cS 1 c32)),.slice 1 (e.metaF.map c32),.slice 1 (e.payload.map c8),.slice 1 (rs.map (cS 1 c32))]):=by
  simp [stC,Prg.e,Envt.ce]
theorem W6 (p:Prg) (ps:List Fld) (args:List Int) (e:Envt) (rs:List (List Int)) (l:List Xd) (hg:∀h f,ok32 0 (eGet e h f)) (ha:∀v∈args,ok32 0 v):
  a8 Φ mP [.iptr 16 [stC p ps args e rs] 0 0,.slice 3 (l.map Xd.c)]=some (.val (.int .u32 (evl p ps l e args))):=by
 rw [aA rfl rfl];have h:=qzx p ps e args l hg ha;simp only [scC,Prg.e,n9,wE,Envt.ce] at h;simp [J4,st_e,h]
def StP (p:Prg) (ps:List Fld) (args:List Int) (id N:Nat) (O:List (Nat×AO)) (x:Envt×List (List Int)) (r:Option (Rt×AH)):Prop:=
 ∃O' N',r=some (.val (.tup []),⟨O',N'⟩)/\look id O'=some (.row 16 [stC p ps args x.1 x.2])/\Kp (fun j=>j=id) N O O'/\Tail O' N'/\N<=N'/\NR O'
section
variable {p:Prg} (w:PWd p) (ps:List Fld) {args:List Int} (ha:∀v∈args,ok32 0 v) {e:Envt} {rs:List (List Int)} (x:XV p e rs) (s:Xf) {O:List (Nat×AO)} {N id:Nat} (hT:Tail O N) (hN:NR O) (hm:look id O=some (.row 16 [stC p ps args e rs]))
include w ha x hT hN hm
omit w ha x in
theorem SJ (y:Envt×List (List Int)) (o:AO) (ho:o≠ .res):StP p ps args id N O y (some (.val (.tup []),⟨setl id (.row 16 [stC p ps args y.1 y.2]) (O++[(N,o)]),N+1⟩)):=by
 have f0:=eX hT hm (Qb N);refine ⟨_,_,rfl,?_,(Kp.app Kp.refl (Qb _)).setl (.inr rfl),d6 (hT.app1 (Qb _)),by omega,(hN.app (.one ho)).setl (by simp)⟩;rw [aC,a9 rfl,aH,hm];rfl
theorem qyp:StP p ps args id N O (eSet p e s.dst.header s.dst.field (evl p ps s.value e args),rs) (aQ Φ tN [.ptr id 16 0 0,.agg s.c] ⟨O,N⟩):=by
 rw [eI rfl rfl];have fin:=SJ ps (args:=args) hT hN hm (eSet p e s.dst.header s.dst.field (evl p ps s.value e args),rs) (.row 7 [s.c]) (by simp);have t0:=hT N (Qb _);have f0:=eX hT hm (Qb N);have h1:=W6 p ps args e rs s.value x.g ha;have h2:=Ts p e (x.evs w) (x.m0 w) s.dst.header s.dst.field (evl p ps s.value e args) (W9 ..);generalize hE:eSet p e s.dst.header s.dst.field (evl p ps s.value e args)=E at*;rw [st_e] at h1 hm fin;rw [Envt.ce,Envt.ce] at h2;simp only [Prg.e] at h2;rw [Xf.e] at fin;simp [IG,Xf.e,t0,aH,hm,f0,h1,h2];exact fin
omit ha in
theorem Hg:StP p ps args id N O (eAdd p e s.header,rs) (aQ Φ tO [.ptr id 16 0 0,.agg s.c] ⟨O,N⟩):=by
 rw [eI rfl rfl];have fin:=SJ ps (args:=args) hT hN hm (eAdd p e s.header,rs) (.row 7 [s.c]) (by simp);have t0:=hT N (Qb _);have f0:=eX hT hm (Qb N);have h2:=Jr p e (x.evs w) (x.m0 w) x.hs s.header;generalize hE:eAdd p e s.header=E at*;rw [st_e] at hm fin;rw [Envt.ce,Envt.ce] at h2;simp only [Prg.e] at h2;rw [Xf.e] at fin;simp [IH,Xf.e,t0,aH,hm,f0,h2];exact fin
omit ha in
theorem Iz:StP p ps args id N O (eRem p e s.header,rs) (aQ Φ tP [.ptr id 16 0 0,.agg s.c] ⟨O,N⟩):=by
 rw [eI rfl rfl];have fin:=SJ ps (args:=args) hT hN hm (eRem p e s.header,rs) (.row 7 [s.c]) (by simp);have t0:=hT N (Qb _);have f0:=eX hT hm (Qb N);have h2:=Mx p e (x.evs w) (x.m0 w) x.hs s.header;generalize hE:eRem p e s.header=E at*;rw [st_e] at hm fin;rw [Envt.ce,Envt.ce] at h2;simp only [Prg.e] at h2;rw [Xf.e] at fin;simp [II,Xf.e,t0,aH,hm,f0,h2];exact fin
theorem Bm:StP p ps args id N O (eSet p e s.dst.header s.dst.field (rGet p rs s.Ye (evl p ps s.index e args)),rs) (aQ Φ tQ [.ptr id 16 0 0,.agg s.c] ⟨O,N⟩):=by
 rw [eI rfl rfl];have fin:=SJ ps (args:=args) hT hN hm (eSet p e s.dst.header s.dst.field (rGet p rs s.Ye (evl p ps s.index e args)),rs) (.row 7 [s.c]) (by simp);have t0:=hT N (Qb _);have f0:=eX hT hm (Qb N);have h1:=W6 p ps args e rs s.index x.g ha;have h3:=Bz p rs s.Ye (evl p ps s.index e args) (W9 ..);have hr:=x.rv.get w.rw' s.Ye (evl p ps s.index e args);generalize hv:rGet p rs s.Ye (evl p ps s.index e args)=v at*;have h2:=Ts p e (x.evs w) (x.m0 w) s.dst.header s.dst.field v hr;generalize hE:eSet p e s.dst.header s.dst.field v=E at*;rw [st_e] at h1 hm fin;rw [Envt.ce,Envt.ce] at h2;simp only [Prg.e] at h2 h3;rw [Xf.e] at fin;simp [IJ,Xf.e,t0,aH,hm,f0,h1,h2,h3];exact fin
theorem YY:StP p ps args id N O (e,rSet p rs s.Ye (evl p ps s.index e args) (evl p ps s.value e args)) (aQ Φ tR [.ptr id 16 0 0,.agg s.c] ⟨O,N⟩):=by
 rw [eI rfl rfl];have fin:=SJ ps (args:=args) hT hN hm (e,rSet p rs s.Ye (evl p ps s.index e args) (evl p ps s.value e args)) (.row 7 [s.c]) (by simp);have t0:=hT N (Qb _);have f0:=eX hT hm (Qb N);have h1:=W6 p ps args e rs s.index x.g ha;have h2:=W6 p ps args e rs s.value x.g ha;have h3:=YQ p rs (x.r1 w) (x.r2 w) s.Ye (evl p ps s.index e args) (evl p ps s.value e args) (W9 ..) (W9 ..);generalize hE:rSet p rs s.Ye (evl p ps s.index e args) (evl p ps s.value e args)=E at*;rw [st_e] at h1 h2 hm fin;simp only [Prg.e] at h3;rw [Xf.e] at fin;simp [IK,Xf.e,t0,aH,hm,f0,h1,h2,h3];exact fin
end
theorem vK {Z:Type} {f:Nat->Option Z} {N:Nat} {x:Z}:∀{i},fe f N i=some x->∃k,k<N/\f k=some x:=by
 have key:∀n i,n+i=N->feF f n i=some x->∃k,k<N/\f k=some x:=by
  intro n
  induction n with
  | zero=>intro i _ h;cases h
  | succ n ih=>
   intro i hi h;simp only [feF] at h;cases q:f i with
   | some y=>rw [q] at h;cases h;exact ⟨i,by omega,q⟩
   | none=>rw [q] at h;exact ih (i+1) (by omega) h
 intro i h;unfold fe at h;by_cases z:i<=N
 ·exact key (N - i) i (by omega) h
 ·rw [show N - i=0 by omega] at h;cases h
theorem wF {Z I:Type} {l:List Z} {g:Nat->Z->Option I} (h:fe (fun i=>(l[i]?).bind (g i)) l.length 0=none) {i:Nat} (hi:i<l.length):g i l[i]=none:=by
 have:=fe_all.1 h i hi;rw [Qa hi] at this;exact this
theorem E1 {Z:Type} {c:Prop} [Decidable c] {x:Z} (h:(if c then none else some x)=none):c:=by
 by_cases q:c
 ·exact q
 ·rw [QA q] at h;cases h
structure VFields (l:List Fld):Prop where
 w:∀f∈l,1<=f.Yc/\f.Yc<=32
theorem qz4 {l:List Fld} {i:Nat} {f:Fld} (h:fldE l i f=0):1<=f.Yc/\f.Yc<=32:=by
 unfold fldE at h;split at h
 ·cases h
 split at h
 ·cases h
 rename_i hb;simp only [wBad,DX,decide_eq_true_eq,not_or] at hb;omega
structure VProg (p:Prg):Prop where
 hl:p.Xo.length<=8
 rl:p.Xl.length<=4
 al:p.Xx.length<=16
 tl:p.Xm.length<=12
 hd:∀h∈p.Xo,hdrE h=0
 ml:p.Xn.length<=12
 mw:∀f∈p.Xn,1<=f.Yc/\f.Yc<=32
 m3:∀i,i<3->p.Xn[i]? =some (kY i)
 rg:∀r∈p.Xl,regE r=0
 ac:∀i:Nat,i<p.Xx.length->(actE p i).2=0
 tb:∀i:Nat,i<p.Xm.length->(tblE p i).2=0
 pa:(parE p).2.2=0
 ct:(ctlE p).2=0
 dp:(depE p).2=0
theorem P6 {Z:Type} {a b:Option Z} (h:a.or b=none):a=none/\b=none:=by
 cases a with
 | some x=>cases h
 | none=>exact ⟨rfl,h⟩
theorem PN {a b:Option Dg} (ha:∀d,a=some d->d.1≠0) (hb:∀d,b=some d->d.1≠0):∀d,a.or b=some d->d.1≠0:=fun d h=>by
 cases a with
 | some x=>exact ha d h
 | none=>exact hb d h
theorem Gg {p:Prg}:∀d,limD p=some d->d.1≠0:=fun d h=>by
 unfold limD at h
 repeat (split at h; · cases h;decide)
 cases h
theorem Ek {p:Prg}:∀d,hdrD p=some d->d.1≠0:=fun d h=>by
 obtain ⟨k,hk,e⟩:=vK h;rw [Qa hk] at e;simp only [eM] at e;split at e
 ·cases e
 ·cases e;assumption
theorem Ib {p:Prg}:∀d,regD p=some d->d.1≠0:=fun d h=>by
 obtain ⟨k,hk,e⟩:=vK h;rw [Qa hk] at e;simp only [eM] at e;split at e
 ·cases e
 ·cases e;assumption
theorem Gj {p:Prg}:∀d,metD p=some d->d.1≠0:=fun d h=>by
 unfold metD at h;split at h
 ·cases h;decide
 split at h
 ·rename_i e;cases h;obtain ⟨k,hk,e⟩:=vK e;rw [Qa hk] at e;simp only [eM] at e;split at e
  ·cases e
  ·cases e;assumption
 ·obtain ⟨k,hk,e⟩:=vK h;split at e
  ·cases e
  ·cases e;simp
theorem Z8 {p:Prg}:∀d,pY p=some d->d.1≠0:=fun d h=>by
 obtain ⟨k,hk,e⟩:=vK h;rw [Qa hk] at e;simp only [eM] at e;split at e
 ·cases e;assumption
 split at e
 ·cases e;simp
 ·cases e
theorem Je {p:Prg}:∀d,tblD p=some d->d.1≠0:=fun d h=>by
 obtain ⟨k,hk,e⟩:=vK h;rw [Qa hk] at e;simp only [eM] at e;split at e
 ·cases e;assumption
 split at e
 ·cases e;simp
 ·cases e
theorem Fk {p:Prg}:∀d,floD p=some d->d.1≠0:=fun d h=>by
 unfold floD at h;split at h
 ·cases h;assumption
 split at h
 ·cases h;assumption
 split at h
 ·cases h;assumption
 ·cases h
theorem vprog {p:Prg} (h:(prgD p).1=0):VProg p:=by
 have ho:((((((limD p).or (hdrD p)).or (metD p)).or (regD p)).or (pY p)).or (tblD p)).or (floD p)=none:=by
  unfold prgD at h;cases q:((((((limD p).or (hdrD p)).or (metD p)).or (regD p)).or (pY p)).or (tblD p)).or (floD p) with
  | none=>rfl
  | some d=>
   rw [q] at h;exact absurd h (PN (PN (PN (PN (PN (PN Gg Ek) Gj) Ib) Z8) Je) Fk d q)
 obtain ⟨ho,h7⟩:=P6 ho;obtain ⟨ho,h6⟩:=P6 ho;obtain ⟨ho,h5⟩:=P6 ho;obtain ⟨ho,h4⟩:=P6 ho;obtain ⟨ho,h3⟩:=P6 ho;obtain ⟨h1,h2⟩:=P6 ho;have l1:p.Xo.length<=8/\p.Xl.length<=4/\p.Xx.length<=16/\p.Xm.length<=12:=by
  unfold limD at h1
  repeat (split at h1; · cases h1)
  omega
 have f7:(parE p).2.2=0/\(ctlE p).2=0/\(depE p).2=0:=by
  unfold floD at h7
  repeat (split at h7; · cases h7)
  rename_i a b c;exact ⟨Decidable.not_not.1 a,Decidable.not_not.1 b,Decidable.not_not.1 c⟩
 have m3:p.Xn.length<=12/\(∀f∈p.Xn,1<=f.Yc/\f.Yc<=32)/\∀i,i<3->p.Xn[i]? =some (kY i):=by
  unfold metD at h3;split at h3
  ·cases h3
  rename_i hlen;split at h3
  ·cases h3
  rename_i hn;refine ⟨by omega,fun f hf=>?_,fun i hi=>?_⟩
  ·obtain ⟨i,hi,rfl⟩:=Qn.1 hf;exact qz4 (E1 (wF hn hi))
  ·exact E1 (fe_all.1 h3 i hi)
 refine ⟨l1.1,l1.2.1,l1.2.2.1,l1.2.2.2,fun h hh=>?_,m3.1,m3.2.1,m3.2.2,fun r hr=>?_,fun i hi=>?_,fun i hi=>?_,f7.1,f7.2.1,f7.2.2⟩
 ·obtain ⟨i,hi,rfl⟩:=Qn.1 hh;have:=E1 (wF h2 hi);unfold uR at this;split at this
  ·exact absurd this (by assumption)
  ·rename_i q;exact Decidable.not_not.1 q
 ·obtain ⟨i,hi,rfl⟩:=Qn.1 hr;have:=E1 (wF h4 hi);unfold wQ at this;split at this
  ·exact absurd this (by assumption)
  ·rename_i q;exact Decidable.not_not.1 q
 ·have:=wF h5 hi;split at this
  ·cases this
  ·rename_i q;exact Decidable.not_not.1 q
 ·have:=wF h6 hi;split at this
  ·cases this
  ·rename_i q;exact Decidable.not_not.1 q
theorem Ra {f:Nat->Option (Int×Int)} {N:Nat} (hf:∀i x,f i=some x->x.2≠0) (h:((fe f N 0).getD (0,0)).2=0):fe f N 0=none:=by
 cases q:fe f N 0 with
 | none=>rfl
 | some x=>
  rw [q] at h;obtain ⟨k,_,e⟩:=vK q;exact absurd h (hf k x e)
theorem qz5 {l:List Fld} (h:D5 l=none):∀f∈l,1<=f.Yc/\f.Yc<=32:=fun f hf=>by
 obtain ⟨i,hi,rfl⟩:=Qn.1 hf;have:=wF h hi;unfold er at this;split at this
 ·rename_i q;exact qz4 q
 ·cases this
theorem Zp {l:List Fld} {e:Int} (h:D5 l=some e):e≠0:=by
 obtain ⟨k,hk,q⟩:=vK h;rw [Qa hk] at q;simp only [eM] at q;unfold er at q;split at q
 ·cases q
 ·cases q;assumption
structure VHdr (h:Xi):Prop where
 n:1<=h.Xz.length/\h.Xz.length<=12
 w:∀f∈h.Xz,1<=f.Yc/\f.Yc<=32
 s:wSum h.Xz % 8=0
theorem vhdr {h:Xi} (e:hdrE h=0):VHdr h:=by
 unfold hdrE at e;split at e
 ·cases e
 split at e
 ·cases e
 split at e
 ·cases e
 rename_i a b c;split at e
 ·rename_i q;exact absurd e (Zp q)
 ·rename_i q;split at e
  ·rename_i s;exact ⟨by omega,qz5 q,s⟩
  ·cases e
structure VAct (p:Prg) (a:Action):Prop where
 pl:a.params.length<=4
 bl:a.body.length<=12
 pw:∀f∈a.params,1<=f.Yc/\f.Yc<=32
 st:∀s∈a.body,stmE p a.params s=0
theorem vact {p:Prg} {i:Nat} (hi:i<p.Xx.length) (e:(actE p i).2=0):VAct p p.Xx[i]:=by
 unfold actE at e;rw [show at? p.Xx (i:Int)=some p.Xx[i] by simp [hi]] at e;simp only at e;generalize p.Xx[i]=a at*;split at e
 ·exact absurd e (by assumption)
 rename_i hd;simp only [ne_eq,Decidable.not_not] at hd;unfold actD at hd;split at hd
 ·cases hd
 split at hd
 ·cases hd
 rename_i _ hl;have hf:D5 a.params=none:=by
  cases q:D5 a.params with
  | none=>rfl
  | some x=>rw [q] at hd;exact absurd hd (Zp q)
 have hb:=Ra (fun k x h=>by
  cases q:a.body[k]? with
  | none=>rw [q] at h;cases h
  | some s=>
   rw [q] at h;simp only [eM] at h;split at h
   ·cases h
   ·cases h;assumption) e
 refine ⟨by omega,by omega,qz5 hf,fun s hs=>?_⟩;obtain ⟨k,hk,rfl⟩:=Qn.1 hs;exact E1 (wF hb hk)
structure VTbl (p:Prg) (x:Tbl):Prop where
 kl:x.keys.length<=6
 sz:1<=x.size/\x.size<=256
 kw:∀k∈x.keys,wid p k.field.header k.field.field≠0
 kk:∀k∈x.keys,k.kind=1\/k.kind=2\/k.kind=3
 ac:∀a∈x.Xx,0<=a/\a<p.Xx.length
 df:j9 p x.Yb=0
structure VCtl (p:Prg):Prop where
 n:(pre p.Ya).length<=24
 d:nest p.Ya<=6
 e:∀(i:Nat) (h:i<(pre p.Ya).length),iD p ((pre p.Ya).take i) (pre p.Ya)[i]=0
theorem vctl {p:Prg} (e:(ctlE p).2=0):VCtl p:=by
 unfold ctlE at e;split at e
 ·cases e
 split at e
 ·cases e
 rename_i a b;have hn:=Ra (fun k x h=>by
  cases q:(pre p.Ya)[k]? with
  | none=>rw [q] at h;cases h
  | some s=>
   rw [q] at h;simp only [eM] at h;split at h
   ·cases h
   ·cases h;assumption) e
 exact ⟨by omega,by omega,fun i h=>E1 (wF hn h)⟩
theorem VCtl.one {p:Prg} (v:VCtl p) {i j:Nat} {x y:Xa} (hij:i<j) (hx:(pre p.Ya)[i]? =some x) (hy:(pre p.Ya)[j]? =some y) (ax:appl x=true) (ay:appl y=true):x.table≠y.table:=by
 obtain ⟨hj,rfl⟩:=Qm.1 hy;have:=v.e j hj;unfold iD at this;have hk:(pre p.Ya)[j].kind=1\/(pre p.Ya)[j].kind=3:=by
  unfold appl at ay;simpa using ay
 have h2:¬(pre p.Ya)[j].kind=2:=by omega
 rw [QA h2,a9 hk] at this;split at this
 ·cases this
 split at this
 ·cases this
 rename_i hn;intro ht;refine hn (GI.2 ⟨x,?_,by simp [ax,ht]⟩);rw [List.mem_take_iff_getElem];obtain ⟨hi,rfl⟩:=Qm.1 hx;exact ⟨i,by omega,rfl⟩
theorem vdep {p:Prg} (e:(depE p).2=0):p.Xr.length<=8/\∀d∈p.Xr,0<=d/\d<p.Xo.length:=by
 unfold depE at e;split at e
 ·cases e
 rename_i a;have hn:=Ra (fun k x h=>by
  cases q:p.Xr[k]? with
  | none=>rw [q] at h;cases h
  | some s=>
   rw [q] at h;simp only [eM] at h;split at h
   ·cases h;simp
   split at h
   ·cases h;simp
   ·cases h) e
 refine ⟨by omega,fun d hd=>?_⟩;obtain ⟨k,hk,rfl⟩:=Qn.1 hd;have:=wF hn hk;split at this
 ·cases this
 ·omega
structure VSt (p:Prg) (s:Nat) (x:Xc):Prop where
 el:x.extract.length<=4
 cl:x.cases.length<=8
 ex:∀h∈x.extract,0<=h/\h<p.Xo.length
 on:x.select=true->wid p x.on.header x.on.field≠0
 cs:∀c∈x.cases,jL p s c.next=true
 df:jL p s x.Yb=true
 cm:∀c∈x.cases,c.value.toNat&&& c.Yd.toNat=c.value.toNat
theorem vst {p:Prg} {s:Nat} {x:Xc} (e:(stE p s x).2=0):VSt p s x:=by
 unfold stE at e;split at e
 ·cases e
 split at e
 ·cases e
 split at e
 ·cases e
 split at e
 ·cases e
 rename_i h1 h2 h3 h4;split at e
 ·rename_i y q;obtain ⟨k,hk,q2⟩:=vK q;rw [Qa hk] at q2;simp only [eM] at q2;split at q2
  ·cases q2
  ·cases q2;exact absurd e (by assumption)
 ·rename_i q;split at e
  ·rename_i hdf;refine ⟨by omega,by omega,fun h hh=>?_,fun hs hz=>h3 ⟨hs,hz⟩,fun c hc=>?_,hdf,fun c hc=>?_⟩
   ·by_cases q1:h<0
    ·exact absurd (GI.2 ⟨h,hh,by simp [q1]⟩) h2
    by_cases q2:(p.Xo.length:Int)<=h
    ·exact absurd (GI.2 ⟨h,hh,by simp [q2]⟩) h2
    ·omega
   ·obtain ⟨k,hk,rfl⟩:=Qn.1 hc;have hz:=E1 (wF q hk);unfold mZ at hz;split at hz
    ·cases hz
    split at hz
    ·cases hz
    split at hz
    ·assumption
    ·cases hz
   ·obtain ⟨k,hk,rfl⟩:=Qn.1 hc;have hz:=E1 (wF q hk);unfold mZ at hz;split at hz
    ·cases hz
    split at hz
    ·cases hz
    ·rename_i hz2;exact Decidable.of_not_not hz2
  ·cases e
structure VPar (p:Prg):Prop where
 n:1<=p.Xw.length/\p.Xw.length<=12
 s:∀(i:Nat) (h:i<p.Xw.length),VSt p i p.Xw[i]
theorem vpar {p:Prg} (e:(parE p).2.2=0):VPar p:=by
 unfold parE at e;split at e
 ·cases e
 split at e
 ·cases e
 rename_i h1 h2;refine ⟨by omega,fun i hi=>vst ?_⟩;cases q:(fe (fun s=>(p.Xw[s]?).bind fun x=>if idS x.name=false then some ((s:Int),(-1:Int),(6:Int)) else if dupN Xc.name p.Xw s x then some ((s:Int),-1,7) else if (stE p s x).2=0 then none else some ((s:Int),(stE p s x).1,(stE p s x).2)) p.Xw.length 0) with
 | some y=>
  rw [q] at e;obtain ⟨k,hk,q2⟩:=vK q;rw [Qa hk] at q2;simp only [eM] at q2;split at q2
  ·cases q2;cases e
  split at q2
  ·cases q2;cases e
  split at q2
  ·cases q2
  ·cases q2;exact absurd e (by assumption)
 | none=>
  have:=wF q hi;split at this
  ·cases this
  split at this
  ·cases this
  exact E1 this
theorem XZ {p:Prg} {s:Nat} {n:Int} (h:jL p s n=true):n= -1\/n= -2\/∃k:Nat,n=k/\s<k/\k<p.Xw.length:=by
 unfold jL at h;simp only [DX,dJ,decide_eq_true_eq] at h;rcases h with (h | h) | h
 ·exact .inl h
 ·exact .inr (.inl h)
 ·exact .inr (.inr ⟨n.toNat,by omega,by omega,by omega⟩)
structure VStm (p:Prg) (ps:List Fld) (s:Xf):Prop where
 k:s.kind=1\/s.kind=2\/s.kind=3\/s.kind=4\/s.kind=5
 a:s.kind=1->∃w,decl p s.dst.header s.dst.field=some w/\valE p ps s.value w=0
 h:s.kind=2\/s.kind=3->0<=s.header/\s.header<p.Xo.length
 r:s.kind=4->∃r w,at? p.Xl s.Ye=some r/\decl p s.dst.header s.dst.field=some w/\(exE p ps s.index).2=0/\w=r.Yc
 w:s.kind=5->∃r,at? p.Xl s.Ye=some r/\(exE p ps s.index).2=0/\valE p ps s.value r.Yc=0
theorem vstm {p:Prg} {ps:List Fld} {s:Xf} (e:stmE p ps s=0):VStm p ps s:=by
 unfold stmE at e;split at e
 ·rename_i k1;refine ⟨.inl k1,fun _=>?_,fun h=>by omega,fun h=>by omega,fun h=>by omega⟩;split at e
  ·cases e
  ·rename_i w q;exact ⟨w,q,e⟩
 split at e
 ·rename_i _ k23;refine ⟨by omega,fun h=>by omega,fun _=>?_,fun h=>by omega,fun h=>by omega⟩;split at e
  ·rename_i q;obtain ⟨x,hx⟩:=DU.1 q;unfold at? at hx;split at hx
   ·cases hx
   ·obtain ⟨hk,_⟩:=Qm.1 hx;omega
  ·cases e
 split at e
 ·rename_i _ _ k4;refine ⟨by omega,fun h=>by omega,fun h=>by omega,fun _=>?_,fun h=>by omega⟩;split at e
  ·rename_i r w q1 q2;split at e
   ·rename_i q3;split at e
    ·rename_i q4;exact ⟨r,w,q1,q2,q3,q4⟩
    ·cases e
   ·exact absurd e (by assumption)
  ·cases e
 split at e
 ·rename_i _ _ _ k5;refine ⟨by omega,fun h=>by omega,fun h=>by omega,fun h=>by omega,fun _=>?_⟩;split at e
  ·rename_i r q1;split at e
   ·rename_i q3;exact ⟨r,q1,q3,e⟩
   ·exact absurd e (by assumption)
  ·cases e
 ·cases e
theorem XV.fold {p:Prg} {ps:List Fld} {args:List Int}:∀(l:List Xf) {x:Envt×List (List Int)},XV p x.1 x.2->XV p (l.foldl (stmX p ps args) x).1 (l.foldl (stmX p ps args) x).2
 | [],_,h=>h
 | s::l,_,h=>XV.fold l (h.stm s)
structure ELoop (p:Prg) (ps:List Fld) (args:List Int) (body:List Xf) (y:Envt×List (List Int)) (i:Nat) (E:Env) (O:List (Nat×AO)) (N:Nat):Prop where
 e8:look 8 E=some (.ptr 0 4 0 0)
 e10:look 10 E=some (.ptr 1 16 0 0)
 e65:look 65 E=some (.slice 7 (body.map Xf.c))
 e66:look 66 E=some (a7 body.length)
 e67:look 67 E=some (a7 i)
 l0:look 0 O=some (.row 4 [z4])
 l1:look 1 O=some (.row 16 [stC p ps args ((body.take i).foldl (stmX p ps args) y).1 ((body.take i).foldl (stmX p ps args) y).2])
 t:Tail O N
 nr:NR O
 n2:2<=N
theorem ZW {p:Prg} (w:PWd p) (ps:List Fld) {args:List Int} (ha:∀v∈args,ok32 0 v) (body:List Xf) (hb:body.length<2^40) (hk:∀s∈body,s.kind=1\/s.kind=2\/s.kind=3\/s.kind=4\/s.kind=5)
    {y:Envt×List (List Int)} (x:XV p y.1 y.2) {E:Env} {O:List (Nat×AO)} {N:Nat} (h:ELoop p ps args body y 0 E O N):
    go Φ (finP lT.results) [.c (.loop c_179_l0),.b 0,.c c_179_k1] .normal ⟨E,⟨O,N⟩⟩=some (.val (.tup [.agg (body.foldl (stmX p ps args) y).1.c,.slice 1 ((body.foldl (stmX p ps args) y).2.map (cS 1 c32))])):=by
  generalize hR:some (Rt.val (.tup [.agg (body.foldl (stmX p ps args) y).1.c,.slice 1 ((body.foldl (stmX p ps args) y).2.map (cS 1 c32))]))=R;refine gL body.length (fun i E h=>∃O N,h=⟨O,N⟩/\ELoop p ps args body y i E O N) (fun r=>r=R) ?_ ?_ 0 _ _ (Qc _) ⟨_,_,rfl,h⟩
  · rintro i E _ K hi hK ⟨O,N,rfl,h⟩ ih
    have hw:=aM i (by omega);obtain ⟨e8,e10,e65,e66,e67,l0,l1,T,nr,n2⟩:=h;have xi:=XV.fold (ps:=ps) (args:=args) (body.take i) x;have tk:body.take (i+1)=body.take i++[body[i]]:=Qh hi;have hks:=hk _ (Qd hi);have t0:=T N (Qb _);have T1:Tail O (N+1):=T.mono (by omega);generalize hs:body[i]=s at*;have next:∀{E2:Env} {f:Nat} {z:Envt×List (List Int)},StP p ps args 1 (N+1) O z (aQ Φ f [.ptr 1 16 0 0,.agg s.c] ⟨O,N+1⟩)->z=stmX p ps args ((body.take i).foldl (stmX p ps args) y) s->
        ∃O2 N2,aQ Φ f [.ptr 1 16 0 0,.agg s.c] ⟨O,N+1⟩=some (.val (.tup []),⟨O2,N2⟩)/\∀E2,look 8 E2=look 8 E->look 10 E2=look 10 E->look 65 E2=look 65 E->look 66 E2=look 66 E->look 67 E2=some (a7 (i+1:Nat))->go Φ (finP lT.results) K .normal ⟨E2,⟨O2,N2⟩⟩=R:=fun {E2 f z} ⟨O2,N2,hr,h1,h2,h3,h4,h5⟩ hz=>
      ⟨O2,N2,hr,fun E2 g8 g10 g65 g66 g67=>ih _ _ ⟨O2,N2,rfl,g8.trans e8,g10.trans e10,g65.trans e65,g66.trans e66,g67,by rw [h2 0 (by omega) (by omega),l0],by rw [h1,hz,tk,List.foldl_append];rfl,h3,h5,by omega⟩⟩
    have hxs:body[i]=s:=hs;rcases hks with k | k | k | k | k
    · obtain ⟨O2,N2,hr,fin⟩:=next (E2:=E) (qyp w ps ha xi s T1 nr l1) (by simp [stmX,k])
      rw [Xf.e] at hr;rw [k] at hr;simp [c_179_l0,Xf.e,e10,e65,e66,e67,hi,hxs,t0,k,hr,hw];exact fin _ (by simp) (by simp) (by simp) (by simp) (by simp)
    · obtain ⟨O2,N2,hr,fin⟩:=next (E2:=E) (Hg w ps xi s T1 nr l1) (by simp [stmX,k])
      rw [Xf.e] at hr;rw [k] at hr;simp [c_179_l0,Xf.e,e10,e65,e66,e67,hi,hxs,t0,k,hr,hw];exact fin _ (by simp) (by simp) (by simp) (by simp) (by simp)
    · obtain ⟨O2,N2,hr,fin⟩:=next (E2:=E) (Iz w ps xi s T1 nr l1) (by simp [stmX,k])
      rw [Xf.e] at hr;rw [k] at hr;simp [c_179_l0,Xf.e,e10,e65,e66,e67,hi,hxs,t0,k,hr,hw];exact fin _ (by simp) (by simp) (by simp) (by simp) (by simp)
    · obtain ⟨O2,N2,hr,fin⟩:=next (E2:=E) (Bm w ps ha xi s T1 nr l1) (by simp [stmX,k])
      rw [Xf.e] at hr;rw [k] at hr;simp [c_179_l0,Xf.e,e10,e65,e66,e67,hi,hxs,t0,k,hr,hw];exact fin _ (by simp) (by simp) (by simp) (by simp) (by simp)
    · obtain ⟨O2,N2,hr,fin⟩:=next (E2:=E) (YY w ps ha xi s T1 nr l1) (by simp [stmX,k])
      rw [Xf.e] at hr;rw [k] at hr;simp [c_179_l0,Xf.e,e10,e65,e66,e67,hi,hxs,t0,k,hr,hw];exact fin _ (by simp) (by simp) (by simp) (by simp) (by simp)
  · rintro E _ K hK ⟨O,N,rfl,e8,e10,e65,e66,e67,l0,l1,T,nr,n2⟩
    rw [jQ] at l1;generalize body.foldl (stmX p ps args) y=z at*;rw [st_e] at l1;rw [z4] at l0;have n0:¬N=0/\¬N=1:=by omega
    rw [<- hR];simp [lT] at hK;simp [lT,c_179_l0,c_179_k1,Envt.ce,e8,e10,e66,e67,hK,l0,l1,aC,nr.eq,nr.sw]
theorem Kq {p:Prg} (f:PrgS p) (w:PWd p) (c:Xb) (hc1:(actE p c.Xy).2=0) (hc2:j9 p c=0) (ha:∀v∈c.args,ok32 0 v) (hal:c.args.length<2^40) {e:Envt} {rs:List (List Int)} (x:XV p e rs):
  a8 Φ sP [.agg p.c,.agg c.c,.agg e.c,.slice 1 (rs.map (cS 1 c32))]=some (.val (.tup [.agg (exeX p c e rs).1.c,.slice 1 ((exeX p c e rs).2.map (cS 1 c32))])):=by
 rw [aA rfl rfl];have h1:=Kh e (x.evs w);have h2:=Du rs (x.r1 w) (x.r2 w);have h3:=qvv p f c.Xy;have h4:=VA p f c hal;rw [hc2] at h4;rw [hc1] at h3;have hA:∃k:Nat,c.Xy=k/\∃hk:k<p.Xx.length,True:=by
  unfold actE at hc1;cases q:at? p.Xx c.Xy with
  | none=>rw [q] at hc1;cases hc1
  | some a=>obtain ⟨k,e,hk,_⟩:=kO q;exact ⟨k,e,hk,trivial⟩
 obtain ⟨k,hk,hkl,_⟩:=hA;obtain ⟨act,args⟩:=c;simp only at hk ha hal;subst hk;have hv:=vact hkl hc1;have hbl:=hv.bl;have hkk:∀s∈p.Xx[k].body,s.kind=1\/s.kind=2\/s.kind=3\/s.kind=4\/s.kind=5:=fun s hs=>(vstm (hv.st s hs)).k
 have hX:exeX p ⟨k,args⟩ e rs=p.Xx[k].body.foldl (stmX p p.Xx[k].params args) (e,rs):=by simp [exeX,hkl]
 rw [hX];have lp:∀(E:Env) (O:List (Nat×AO)) (N:Nat),ELoop p p.Xx[k].params args p.Xx[k].body (e,rs) 0 E O N->_:=fun E O N hh=>ZW w p.Xx[k].params ha p.Xx[k].body (by omega) hkk (y:=(e,rs)) x hh
 generalize p.Xx[k].body.foldl (stmX p p.Xx[k].params args) (e,rs)=z at*;have hact:p.Xx[k]=⟨p.Xx[k].name,p.Xx[k].params,p.Xx[k].body⟩:=rfl;simp only [Prg.e,Xb.e] at h3 h4;rw [Envt.ce] at h1;simp [lT,Prg.e,Xb.e,Action.e,Envt.ce,h1,h2,h3,h4,hkl];refine (lp _ _ _ ⟨?_,?_,?_,?_,?_,?_,?_,?_,?_,?_⟩).trans ?_
 ·simp
 ·simp
 ·simp
 ·simp
 ·simp
 ·simp [z4]
 ·simp [st_e]
 ·exact Tail_cons_iff.2 ⟨by omega,Tail_cons_iff.2 ⟨by omega,Tail.nil _⟩⟩
 ·exact dU (by simp) (.one (by simp))
 ·omega
 ·simp [Envt.ce]
theorem ior1 {v x:Int} (hv:0<=v/\v<2147483648) (hx:0<=x/\x<=1):ior .u32 (ishl .u32 v 1) x=2*v+x:=by
 have e1:ishl .u32 v 1=2*v:=by
  unfold ishl;have:(2:Int)^(min (1:Int).toNat (IntKind.bits .u32))=2:=by decide
  rw [this,L0 (by omega) (by omega)];omega
 rw [e1,Sm ⟨by omega,by omega⟩ ⟨by omega,by omega⟩];have:=Nat.shiftLeft_add_eq_or_of_lt (b:=x.toNat) (i:=1) (by omega) v.toNat;rw [Nat.shiftLeft_eq] at this;rw [show (2*v).toNat=v.toNat*2^1 by omega,<- this];omega
theorem Db:∀b:Fin 256,∀k:Fin 8,IntKind.wrap .u32 (iand .u8 (ishr .u8 ((b.1:Nat):Int) (7 - ((k.1:Nat):Int))) 1)=((b.1 / 2^(7 - k.1) % 2:Nat):Int):=by decide+kernel
def rdr (d:List Int) (t pos:Nat):AO:= .row 3 [[.app 1 (d.map c8) t,a7 pos,.bool true]]
def bOk (d:List Int):Prop:=∀x∈d,0<=x/\x<256
theorem Jv {d:List Int} (hd:bOk d) {q:Nat} (hq:q / 8<d.length):IntKind.wrap .u32 (iand .u8 (ishr .u8 d[q / 8] (7 - ((q % 8:Nat):Int))) 1)=KY d q:=by
 have h:=hd _ (Qd hq);obtain ⟨b,hb⟩:=nU h.1;rw [hb] at h;have:=Db ⟨b,by omega⟩ ⟨q % 8,Nat.mod_lt _ (by decide)⟩;simp only at this;rw [hb,this];unfold KY;rw [vB,Qa hq,jO,hb];rw [<- qS];omega
theorem UQ (d p:AV):a8 Φ pR [.iptr 3 [[d,p,.bool true]] 0 0]=some (.val (.bool true)):=by
 rw [aA rfl rfl];simp [J3]
theorem qwx (d:List Int) (pos:Nat) (hd:d.length<=512) (hp:pos<=8*d.length):a8 Φ uE [.iptr 3 [[.slice 1 (d.map c8),a7 pos,.bool true]] 0 0]=some (.val (a7 ((8*d.length - pos:Nat):Int))):=by
 rw [aA rfl rfl];have e1:IntKind.wrap .i64 (8*(d.length:Int))=8*(d.length:Int):=cN (by omega) (by omega);have e2:IntKind.wrap .i64 (8*(d.length:Int) - pos)=((8*d.length - pos:Nat):Int):=by rw [cN (by omega) (by omega)];omega
 simp [JE,UQ,e1,e2]
theorem Wo {t:Nat} {x y:AO}:∀{l:List (Nat×AO)},setl t y (setl t x l)=setl t y l
 | []=>rfl
 | (u,z)::r=>by
  by_cases h:u=t
  ·subst h;simp
  ·simp [h,Wo (l:=r)]
theorem qwy {t:Nat} {x:AO}:∀{l:List (Nat×AO)},look t l=some x->setl t x l=l
 | [],_=>rfl
 | (u,z)::r,h=>by
  by_cases hu:u=t
  ·subst hu;simp at h;subst h;simp
  ·rw [jI _ _ _ _ hu] at h;simp [hu,qwy h]
theorem U' {O:List (Nat×AO)} {N id t q:Nat} {d:List Int} (hn:look id O=some (rdr d t q)) (hd:bOk d) (hl:d.length<=512) {w:Nat} (h1:1<=w) (h2:w<=32) (hw:q+w<=8*d.length):
  aQ Φ uF [.ptr id 3 0 0,a7 w] ⟨O,N⟩=some (.val (.tup [.int .u32 (rdN d q w),a7 0]),⟨setl id (rdr d t (q+w)) O,N⟩):=by
 rw [eI rfl rfl];have hr:=qwx d q hl (by omega);have a1:¬w<1:=by omega
 have a2:¬32<w:=by omega
 have a3:¬8*d.length - q<w:=by omega
 have a1':¬w=0:=by omega
 have hn':=hn;unfold rdr at hn';simp [JG,hn',UQ,hr,a1,a1',a2,a3];generalize hR:some (Rt.val (.tup [.int .u32 (rdN d q w),a7 0]),(⟨setl id (rdr d t (q+w)) O,N⟩:AH))=R;refine (K8 w (fun k e h=>look 0 e=some (.ptr id 3 0 0)/\look 6 e=some (.int .u32 (rdN d q k))/\look 24 e=some (a7 w)/\look 25 e=some (a7 k)/\h=⟨setl id (rdr d t (q+k)) O,N⟩)
  (fun k=>R) ?_ ?_ 0 _ _ (Qc _) ?_)
 ·rintro k e _ L hk hL ⟨h0,h6,h24,h25,rfl⟩ ih;have hs:look id (setl id (rdr d t (q+k)) O)=some (rdr d t (q+k)):=by rw [aC,a9 rfl,hn];rfl
  have hqk:(q+k) / 8<d.length:=by omega
  have hb:=Jv hd hqk;have hf:=Sq d q k;have hp:(2:Int)^k<=2^31:=by
   rw [<- qS,<- qS];exact Int.ofNat_le.2 (DV (by decide) (by omega))
  have hst:=ior1 (v:=rdN d q k) (x:=KY d (q+k)) ⟨hf.1,by have:=hf.2;omega⟩ (qt1 d (q+k));have hw1:=aM k (by omega);have hw2:IntKind.wrap .i64 (((q+k:Nat):Int)+1)=((q+(k+1):Nat):Int):=by rw [cN (by omega) (by omega)];omega
  have d1:IntKind.wrap .i64 (((q+k:Nat):Int) / 8)=(((q+k) / 8:Nat):Int):=by
   have:((q+k:Nat):Int) / 8=(((q+k) / 8:Nat):Int):=rfl;rw [this,cN (by omega) (by omega)]
  have d2:IntKind.wrap .i64 (7 - ((q+k:Nat):Int).tmod 8)=7 - (((q+k) % 8:Nat):Int):=by
   have:((q+k:Nat):Int).tmod 8=(((q+k) % 8:Nat):Int):=rfl;rw [this,cN (by omega) (by omega)]
  have d3:(q+k) % 8<=7:=by omega
  have hrd:rdN d q (k+1)=2*rdN d q k+KY d (q+k):=rfl;have hk2:q+(k+1)=q+k+1:=by omega
  rw [hk2] at hw2;generalize hQ:(q+k:Nat)=Q at hs d1 d2 d3 hw2 hqk hb hst hrd hk2 ⊢;generalize hQ8:Q / 8=Q8 at d1 hqk hb;generalize hQ7:Q % 8=Q7 at d2 d3 hb;have d4:(Q7:Int)<=7:=by omega
  have hs':=hs;unfold rdr at hs';simp [c_383_l0,rdr,c8,h0,h6,h24,h25,hk,hL,hs',hw1,hw2,d1,d2,d3,d4,hqk,hb,hst,Wo];refine ih _ _ ⟨by simp [h0],by simp [hrd],by simp [h24],by simp,?_⟩;simp [rdr,hk2]
 ·rintro e _ L hL ⟨h0,h6,h24,h25,rfl⟩;rw [<- hR];simp [c_383_l0,c_383_k1,h0,h6,h24,h25,hL]
 ·simp [rdN,qwy hn]
def rstV (d:List Int) (q N:Nat):AV:=if q % 8=0 then .app 1 ((d.drop (q / 8)).map c8) N else .Xt 1 []
def rstE (q:Nat):Int:=if q % 8=0 then 0 else 10
def rstL (d:List Int) (q N:Nat):List (Nat×AO):=if q % 8=0 then [(N,.tok 1 (d.length - q / 8))] else []
theorem qub {O:List (Nat×AO)} {N id t q:Nat} {d:List Int} (hT:Tail O N) (hN:NR O) (hn:look id O=some (rdr d t q)) (hl:d.length<=512) (hq:q<=8*d.length):
  aQ Φ pI [.ptr id 3 0 0] ⟨O,N⟩=some (.val (.tup [rstV d q N,a7 (rstE q)]),⟨O++rstL d q N,if q % 8=0 then N+1 else N⟩):=by
 rw [eI rfl rfl];have hn':=hn;unfold rdr at hn';have hT':=hT N (Qb _);have d1:IntKind.wrap .i64 ((q:Int) / 8)=((q / 8:Nat):Int):=by
  have:(q:Int) / 8=((q / 8:Nat):Int):=rfl;rw [this,cN (by omega) (by omega)]
 have d2:(q:Int).tmod 8=((q % 8:Nat):Int):=rfl;by_cases z:q % 8=0
 ·have hp:q / 8<=d.length:=by omega
  have z2:((q % 8:Nat):Int)=0:=by omega
  have hb:d.length - q / 8<=70368744177664:=by omega
  rw [z2] at d2;generalize hR:some (Rt.val (.tup [rstV d q N,a7 (rstE q)]),(⟨O++rstL d q N,if q % 8=0 then N+1 else N⟩:AH))=R;generalize hu:q / 8=u at d1 hp hb;have tk:((d.drop u).map c8).take (d.length - u)=(d.drop u).map c8:=Qo (by simp);simp [yP,hn',UQ,d1,d2,hp,hT',hb,<- List.map_drop,tk];rw [<- hR];simp [rstV,rstE,rstL,z,hu]
 ·have z2:¬((q:Int).tmod 8=0):=by rw [d2];omega
  have z3:¬8∣q:=fun h=>z (Nat.mod_eq_zero_of_dvd h)
  simp [yP,hn',UQ,z2,z,z3,rstV,rstE,rstL]
theorem Nf {O:List (Nat×AO)} {N:Nat} {d:List Int} {q:Nat} (h:Tail O N):Tail (O++rstL d q N) (if q % 8=0 then N+1 else N):=by
 unfold rstL;split
 ·exact Tail_append_iff.2 ⟨h.mono (by omega),Tail_cons_iff.2 ⟨by omega,Tail.nil _⟩⟩
 ·simpa using h
theorem Nd {O:List (Nat×AO)} {N:Nat} {d:List Int} {q:Nat} (h:NR O):NR (O++rstL d q N):=by
 unfold rstL;split
 ·exact h.app (.one (by simp))
 ·simpa using h
theorem Gq {O:List (Nat×AO)} {N:Nat} {d:List Int} (hT:Tail O N) (hl:d.length<=512):
  aQ Φ tE [.slice 1 (d.map c8)] ⟨O,N⟩=some (.val (.ptr (N+1) 3 0 0),⟨O++[(N,.tok 1 d.length),(N+1,rdr d N 0)],N+2⟩):=by
 rw [eI rfl rfl];have hT':=hT N (Qb _);have hT2:=hT (N+1) (by omega);have hb:d.length<=70368744177664:=by omega
 have tk:(d.map c8).take d.length=d.map c8:=Qo (by simp);simp [I9,hT',hT2,hb,rdr,tk]
end Go.Av
