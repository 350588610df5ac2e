/-
 The check of an expression: the program's answer.
-/
import Derived.Test.YtcehjengeaafpaaGreatK1
set_option linter.unusedVariables false
set_option linter.unusedSimpArgs false
set_option linter.constructorNameAsVariable false
namespace Go.Av
set_option maxRecDepth 4000
def chkR (r:Except Int (Int×Nat)) (x:Option Rt):Prop:=match r with
 | .error e=>e≠0/\∃a b,x=some (.val (.tup [.int .i64 a,.int .i64 b,.int .i64 e]))
 | .ok (w,j)=>x=some (.val (.tup [.int .i64 w,.int .i64 j,.int .i64 0]))
theorem Be {w:Int} (h:(wide w).2=0):1<=(wide w).1/\(wide w).1<=32:=by
 unfold wide at h ⊢;cases q:wBad w with
 | true=>rw [q] at h;simp at h
 | false=>simp;exact wBad_false.1 q
theorem qw0 {p:Prg} {ps:List Fld} {x:Xd} (h:(prim p ps x).2=0):1<=(prim p ps x).1/\(prim p ps x).1<=32:=by
 unfold prim at h ⊢;by_cases o1:x.op=1
 ·simp only [o1,if_true] at h ⊢;cases q:wBad x.w with
  | true=>rw [q] at h;simp at h
  | false=>
   rw [q] at h;by_cases r:x.n<0\/2^x.w.toNat - 1<x.n
   ·simp [r] at h
   ·simp [r];exact wBad_false.1 q
 by_cases o2:x.op=2
 ·simp only [o2,if_true] at h ⊢;cases q:decl p x.n x.w with
  | none=>rw [q] at h;simp at h
  | some w=>rw [q] at h;exact Be h
 by_cases o3:x.op=3
 ·simp only [o3,if_true] at h ⊢;cases q:at? ps x.n with
  | none=>rw [q] at h;simp at h
  | some f=>rw [q] at h;exact Be h
 simp only [o1,o2,o3,if_false] at h ⊢;cases q:(at? p.Xo x.n).isSome with
 | true=>simp
 | false=>rw [q] at h;simp at h
theorem Aq {x:Xd} {a b c:Int} (ha:1<=a/\a<=32) (hb:ari x.op=3\/x.op=14->1<=b/\b<=32) (h:(comb x a b c).2=0):1<=(comb x a b c).1/\(comb x a b c).1<=32:=by
 unfold comb at h ⊢;by_cases o6:x.op=6\/x.op=7
 ·simp only [a8 o6] at h ⊢;by_cases r:x.n<0\/31<x.n
  ·simp [r] at h
  ·simpa [r] using ha
 simp only [QA o6] at h ⊢;by_cases o8:x.op=8
 ·simp only [a8 o8] at h ⊢;by_cases r:x.n<0
  ·simp [r] at h
  simp only [QA r] at h ⊢;by_cases r2:wBad x.w\/a - x.w<x.n
  ·simp [r2] at h
  ·simp only [QA r2];have:wBad x.w=false:=by
    cases q:wBad x.w with
    | true=>exact absurd (.inl q) r2
    | false=>rfl
   exact wBad_false.1 this
 simp only [QA o8] at h ⊢;by_cases o14:x.op=14
 ·simp only [a8 o14] at h ⊢;exact Be h
 simp only [QA o14] at h ⊢;by_cases o17:x.op=17
 ·simp only [a8 o17] at h ⊢;by_cases r:a≠1\/b≠c
  ·simp [r] at h
  ·simp only [QA r];exact hb (.inl (by simp [o17,ari]))
 simp only [QA o17] at h ⊢;by_cases r:ari x.op=2/\a≠b
 ·rw [a8 r] at h;simp at h
 simp only [QA r] at h ⊢;by_cases r2:x.op=15\/x.op=16
 ·simp [r2]
 ·simpa [r2] using ha
theorem E4 {p:Prg} {ps:List Fld} {l:List Xd}:∀{n i w j},chk p ps l n i= .ok (w,j)->(1<=w/\w<=32)/\i<j/\j<=l.length
 | 0,i,w,j,h=>by simp [chk] at h
 | n+1,i,w,j,h=>by
  simp only [chk] at h;cases hx:l[i]? with
  | none=>rw [hx] at h;simp at h
  | some x=>
   have hi:i<l.length:=by
    obtain ⟨hi,_⟩:=Qm.1 hx;exact hi
   rw [hx] at h;simp only at h;split at h
   ·cases h
   split at h
   ·split at h
    ·rename_i hp;cases h;exact ⟨qw0 hp,by omega,by omega⟩
    ·cases h
   split at h
   ·cases h
   ·rename_i a i1 h1;obtain ⟨ra,r1,r2⟩:=E4 h1;split at h
    ·rename_i hk;split at h
     ·rename_i hc;cases h;refine ⟨Aq ra ?_ hc,by omega,r2⟩;intro hh;rcases hh with hh | hh
      ·omega
      ·rw [hh] at hk;simp [ari] at hk
     ·cases h
    split at h
    ·cases h
    ·rename_i b i2 h2;obtain ⟨rb,s1,s2⟩:=E4 h2;split at h
     ·split at h
      ·rename_i hc;cases h;exact ⟨Aq ra (fun _=>rb) hc,by omega,s2⟩
      ·cases h
     split at h
     ·cases h
     ·rename_i c i3 h3;obtain ⟨_,t1,t2⟩:=E4 h3;split at h
      ·rename_i hc;cases h;exact ⟨Aq ra (fun _=>rb) hc,by omega,t2⟩
      ·cases h
theorem Bx (w e:Int) (j:Nat):chkR (if e=0 then .ok (w,j) else .error e) (some (.val (.tup [a7 w,a7 j,a7 e]))):=by
 by_cases z:e=0
 ·subst z;simp [chkR]
 ·simp [chkR,z]
theorem qxo (op:Int):ari op= -1\/ari op=0\/ari op=1\/ari op=2\/ari op=3:=by
 unfold ari;split
 ·exact .inr (.inl rfl)
 split
 ·exact .inr (.inr (.inl rfl))
 split
 ·exact .inr (.inr (.inr (.inl rfl)))
 split
 ·exact .inr (.inr (.inr (.inr rfl)))
 ·exact .inl rfl
theorem KB (p:Prg) (ps:List Fld) (l:List Xd) (hl:l.length<2^40):∀n i,l.length - i<n->i<=l.length->chkR (chk p ps l n i) (aB Φ qA [.agg (scC p ps),.slice 3 (l.map Xd.c),a7 (i:Nat)])
 | 0,i,h,hle=>by omega
 | n+1,i,h,hle=>by
  rw [aD rfl rfl];by_cases hi:i<l.length
  rotate_left
  ·have:i=l.length:=by omega
   subst this;simp [chk,chkR,fX,aV]
  have ih1:=KB p ps l hl n (i+1) (by omega) (by omega);have hA:=Bu l[i].op;have hP:=Gx p ps l[i];have hw:IntKind.wrap .i64 ((i:Int)+1)=(i:Int)+1:=cT (by omega) (by omega);have e1:((i+1:Nat):Int)=(i:Int)+1:=by omega
  rw [e1] at ih1;simp only [aV,Xd.e] at ih1 hP;simp only [chk,Qa hi];rcases qxo l[i].op with k | k | k | k | k
  ·rw [k] at hA;simp [chkR,fX,aV,Xd.e,hi,Qf.2 hi,hA,k]
  ·rw [k] at hA;by_cases z:(prim p ps l[i]).2=0
   ·rw [z] at hP;simp [chkR,fX,aV,Xd.e,hi,Qf.2 hi,hA,k,hP,z,hw]
   ·simp [chkR,fX,aV,Xd.e,hi,Qf.2 hi,hA,k,hP,z,hw]
  ·rw [k] at hA;simp [fX,aV,Xd.e,hi,Qf.2 hi,hA,k,hw];rw [cL];cases h1:chk p ps l n (i+1) with
   | error e=>
    rw [h1] at ih1;obtain ⟨he,a,b,hc⟩:=ih1;simp [c_357_l0,chkR,hc,he]
   | ok q=>
    obtain ⟨a,i1⟩:=q;rw [h1] at ih1;obtain ⟨ra,r1,r2⟩:=E4 h1;have hC:=Ar l[i] a 0 0 (by omega) (by omega);simp only [Xd.e] at hC;simp only [chkR] at ih1;simp [c_357_l0,ih1];rw [cL];simp [wr1,c_357_k1,hi,Xd.e,hC];exact Bx _ _ _
  ·rw [k] at hA;simp [fX,aV,Xd.e,hi,Qf.2 hi,hA,k,hw];rw [cL];cases h1:chk p ps l n (i+1) with
   | error e=>
    rw [h1] at ih1;obtain ⟨he,a,b,hc⟩:=ih1;simp [c_357_l0,chkR,hc,he]
   | ok q=>
    obtain ⟨a,i1⟩:=q;rw [h1] at ih1;obtain ⟨ra,r1,r2⟩:=E4 h1;simp only [chkR] at ih1;simp [c_357_l0,ih1];rw [cL];have ih2:=KB p ps l hl n i1 (by omega) (by omega);simp only [aV] at ih2;cases h2:chk p ps l n i1 with
    | error e=>
     rw [h2] at ih2;obtain ⟨he,x,y,hc⟩:=ih2;simp [chkR,hc,he,wr1]
    | ok q=>
     obtain ⟨b,i2⟩:=q;rw [h2] at ih2;obtain ⟨rb,s1,s2⟩:=E4 h2;simp only [chkR] at ih2;have hC:=Ar l[i] a b 0 (by omega) (by omega);simp only [Xd.e] at hC;simp [ih2,wr1];rw [cL];simp [wr2,c_357_k1,hi,Xd.e,hC];exact Bx _ _ _
  ·rw [k] at hA;simp [fX,aV,Xd.e,hi,Qf.2 hi,hA,k,hw];rw [cL];cases h1:chk p ps l n (i+1) with
   | error e=>
    rw [h1] at ih1;obtain ⟨he,a,b,hc⟩:=ih1;simp [c_357_l0,chkR,hc,he]
   | ok q=>
    obtain ⟨a,i1⟩:=q;rw [h1] at ih1;obtain ⟨ra,r1,r2⟩:=E4 h1;simp only [chkR] at ih1;simp [c_357_l0,ih1];rw [cL];have ih2:=KB p ps l hl n i1 (by omega) (by omega);simp only [aV] at ih2;cases h2:chk p ps l n i1 with
    | error e=>
     rw [h2] at ih2;obtain ⟨he,x,y,hc⟩:=ih2;simp [chkR,hc,he,wr1]
    | ok q=>
     obtain ⟨b,i2⟩:=q;rw [h2] at ih2;obtain ⟨rb,s1,s2⟩:=E4 h2;simp only [chkR] at ih2;simp [ih2,wr1];rw [cL];have ih3:=KB p ps l hl n i2 (by omega) (by omega);simp only [aV] at ih3;cases h3:chk p ps l n i2 with
     | error e=>
      rw [h3] at ih3;obtain ⟨he,x,y,hc⟩:=ih3;simp [chkR,hc,he,wr2]
     | ok q=>
      obtain ⟨c,i3⟩:=q;rw [h3] at ih3;simp only [chkR] at ih3;have hC:=Ar l[i] a b c (by omega) (by omega);simp only [Xd.e] at hC;simp [ih3,wr2];rw [cL];simp [wr3,c_357_k1,hi,Xd.e,hC];exact Bx _ _ _
theorem OC (p:Prg) (ps:List Fld) (l:List Xd):aB Φ jR [.slice 3 (l.map Xd.c),.agg (scC p ps)]=some (.val (.tup [a7 (exE p ps l).1,a7 (exE p ps l).2])):=by
 rw [aD rfl rfl];by_cases h:24<l.length
 ·simp [lK,aV,h,exE]
 have hc:=KB p ps l (by omega) (l.length+1) 0 (by omega) (by omega);simp only [aV,Int.ofNat_zero] at hc;cases q:chk p ps l (l.length+1) 0 with
 | error e=>
  rw [q] at hc;obtain ⟨he,a,b,hc⟩:=hc;simp [lK,aV,h,exE,q,hc,he]
 | ok r=>
  obtain ⟨w,j⟩:=r;rw [q] at hc;simp only [chkR] at hc;by_cases hj:j<l.length
  ·simp [lK,aV,h,exE,q,hc,hj]
  ·simp [lK,aV,h,exE,q,hc,hj]
def eGet (e:Envt) (h f:Int):Int:=if h= -1 then (at? e.metaF f).getD 0 else if (at? e.valid h).getD false then ((at? e.Xz h).bind fun l=>at? l f).getD 0 else 0
def eHas (e:Envt) (h f:Int):Bool:=if h= -1 then (at? e.metaF f).isSome else (at? e.valid h).getD false&&((at? e.Xz h).bind fun l=>at? l f).isSome
def ePut (h f:Int) (v:Int) (e:Envt):Envt:=
 if h= -1 then { e with metaF:=e.metaF.set f.toNat v } else { e with Xz:=e.Xz.set h.toNat ((e.Xz.getD h.toNat []).set f.toNat v) }
def eSet (p:Prg) (e:Envt) (h f v:Int):Envt:=if wid p h f=0\/eHas e h f=false then e else ePut h f (v % 2^(wid p h f).toNat) e
def eSw (e:Envt) (h:Nat) (b:Bool):Envt:={ e with valid:=e.valid.set h b,Xz:=e.Xz.set h ((e.Xz.getD h []).map fun _=>0) }
def eAdd (p:Prg) (e:Envt) (h:Int):Envt:=if (at? p.Xo h).isSome/\at? e.valid h=some false then eSw e h.toNat true else e
def eRem (p:Prg) (e:Envt) (h:Int):Envt:=if (at? p.Xo h).isSome/\(at? e.valid h).isSome then eSw e h.toNat false else e
def eNew (p:Prg):Envt:=⟨p.Xo.map fun _=>false,p.Xo.map fun h=>h.Xz.map fun _=>0,p.Xn.map fun _=>0,[]⟩
structure Shp (p:Prg) (e:Envt):Prop where
 v:e.valid.length=p.Xo.length
 f:e.Xz.length=p.Xo.length
 m:e.metaF.length=p.Xn.length
 g:∀i (h1:i<e.Xz.length) (h2:i<p.Xo.length),e.Xz[i].length=p.Xo[i].Xz.length
def xLd (e:Envt) (args:List Int) (x:Xd) (w:Int):Int:=
 (if x.op=1 then x.n else if x.op=2 then eGet e x.n x.w else if x.op=3 then (at? args x.n).getD 0 else if (at? e.valid x.n).getD false then 1 else 0) % 2^w.toNat
def xUn (x:Xd) (a w:Int):Int:=
 if x.op=5 then 2^w.toNat - 1 - a else if x.op=6 then a*2^x.n.toNat % 2^w.toNat else if x.op=7 then a / 2^x.n.toNat else a / 2^x.n.toNat % 2^x.w.toNat
def xBin (op a b w u:Int):Int:=
 if op=9 then (a+b) % 2^w.toNat else if op=10 then (a - b) % 2^w.toNat else if op=11 then iand .u32 a b else if op=12 then ior .u32 a b else if op=13 then ixor .u32 a b
 else if op=14 then a*2^u.toNat+b else if op=15 then (if a=b then 1 else 0) else if a<b then 1 else 0
def evx (p:Prg) (ps:List Fld) (l:List Xd) (e:Envt) (args:List Int):Nat->Nat->Int×Int×Nat
 | 0,i=>(0,0,i)
 | n+1,i=>match l[i]? with
  | none=>(0,0,i)
  | some x=>
   if ari x.op=0 then (xLd e args x (prim p ps x).1,(prim p ps x).1,i+1)
   else
    let a:=evx p ps l e args n (i+1)
    if ari x.op=1 then (xUn x a.1 a.2.1,(comb x a.2.1 0 0).1,a.2.2)
    else
     let b:=evx p ps l e args n a.2.2
     if ari x.op=2 then (xBin x.op a.1 b.1 a.2.1 b.2.1,(comb x a.2.1 b.2.1 0).1,b.2.2)
     else
      let c:=evx p ps l e args n b.2.2
      (if a.1=1 then b.1 else c.1,(comb x a.2.1 b.2.1 c.2.1).1,c.2.2)
def evl (p:Prg) (ps:List Fld) (l:List Xd) (e:Envt) (args:List Int):Int:=if (exE p ps l).2=0 then (evx p ps l e args (l.length+1) 0).1 else 0
def rGet (p:Prg) (rs:List (List Int)) (r i:Int):Int:=match at? p.Xl r,at? rs r with
 | some g,some l=>if i<g.size then (at? l i).getD 0 else 0
 | _,_=>0
def rSet (p:Prg) (rs:List (List Int)) (r i v:Int):List (List Int):=match at? p.Xl r,at? rs r with
 | some g,some l=>if i<g.size/\wBad g.Yc=false then rs.set r.toNat (l.set i.toNat (v % 2^g.Yc.toNat)) else rs
 | _,_=>rs
def stmX (p:Prg) (ps:List Fld) (args:List Int) (x:Envt×List (List Int)) (s:Xf):Envt×List (List Int):=
 if s.kind=1 then (eSet p x.1 s.dst.header s.dst.field (evl p ps s.value x.1 args),x.2)
 else if s.kind=2 then (eAdd p x.1 s.header,x.2)
 else if s.kind=3 then (eRem p x.1 s.header,x.2)
 else if s.kind=4 then (eSet p x.1 s.dst.header s.dst.field (rGet p x.2 s.Ye (evl p ps s.index x.1 args)),x.2)
 else (x.1,rSet p x.2 s.Ye (evl p ps s.index x.1 args) (evl p ps s.value x.1 args))
def exeX (p:Prg) (c:Xb) (e:Envt) (rs:List (List Int)):Envt×List (List Int):=match at? p.Xx c.Xy with
 | none=>(e,rs)
 | some a=>a.body.foldl (stmX p a.params c.args) (e,rs)
theorem EX {n:Int} (h1:0<=n) (h2:n<4294967296):IntKind.wrap .u32 n=n:=by
 have e1:(2:Int)^32=4294967296:=rfl;simp only [IntKind.wrap,IntKind.bits,IntKind.signed,J0,e1];rw [QA (by simp)];omega
theorem XZ {v:Int} (h:ok32 0 v):BitVec.ofInt 32 v=BitVec.ofNat 32 v.toNat:=by
 obtain ⟨h1,h2⟩:=h;apply BitVec.eq_of_toNat_eq;simp;omega
theorem GA {v:Int} (h:ok32 0 v):(BitVec.ofInt 32 v).toNat=v.toNat:=by
 rw [XZ h,M7,IW (by have:=h.1;have:=h.2;omega)]
theorem NA {v m:Int} (hv:ok32 0 v) (hm:ok32 0 m):iand .u32 v m=((v.toNat&&& m.toNat:Nat):Int):=by
 unfold iand;show IntKind.wrap .u32 ((BitVec.ofInt 32 v&&& BitVec.ofInt 32 m).toNat:Int)=_;have hlt:=(BitVec.ofInt 32 v&&& BitVec.ofInt 32 m).isLt;rw [EX (by omega) (by omega),BitVec.toNat_and,GA hv,GA hm]
theorem Dd {v m:Int} (hv:ok32 0 v) (hm:ok32 0 m):ior .u32 v m=((v.toNat ||| m.toNat:Nat):Int):=by
 unfold ior;show IntKind.wrap .u32 ((BitVec.ofInt 32 v ||| BitVec.ofInt 32 m).toNat:Int)=_;have hlt:=(BitVec.ofInt 32 v ||| BitVec.ofInt 32 m).isLt;rw [EX (by omega) (by omega),BitVec.toNat_or,GA hv,GA hm]
theorem Ix {v m:Int} (hv:ok32 0 v) (hm:ok32 0 m):ixor .u32 v m=((v.toNat^^^m.toNat:Nat):Int):=by
 unfold ixor;show IntKind.wrap .u32 ((BitVec.ofInt 32 v^^^BitVec.ofInt 32 m).toNat:Int)=_;have hlt:=(BitVec.ofInt 32 v^^^BitVec.ofInt 32 m).isLt;rw [EX (by omega) (by omega),BitVec.toNat_xor,GA hv,GA hm]
theorem nG (k:Nat):((2^k:Nat):Int)=2^k:=by rw [Int.natCast_pow];rfl
theorem En {k:Nat} (h:k<=32):(2:Int)^k<=4294967296:=by
 have:=QB (n:=2) (by decide) h;rw [<- nG];have e:(2:Nat)^32=4294967296:=by decide
 omega
theorem Ib {v:Int} (hv:ok32 0 v) {k:Nat} (hk:k<=32):iand .u32 v (2^k - 1)=v % 2^k:=by
 have h1:=En hk;have h0:(0:Int)<2^k:=s9 (by decide);have hm:ok32 0 ((2:Int)^k - 1):=⟨by omega,by omega⟩;have e:((2:Int)^k - 1).toNat=2^k - 1:=by have:=nG k;omega
 rw [NA hv hm,e,Nat.and_two_pow_sub_one_eq_mod,Int.natCast_emod,nG,M0 hv.1]
theorem HQ {v:Int} {k:Nat} (h0:0<=v):v<2^k↔v.toNat<2^k:=by
 have:=nG k;omega
theorem kE {v:Int} {k:Nat} (h:0<=v/\v<2^k) (hk:k<=32):ok32 0 v:=⟨h.1,by have:=En hk;omega⟩
theorem PX {a b:Int} {k:Nat} (hk:k<=32) (ha:0<=a/\a<2^k) (hb:0<=b/\b<2^k):0<=iand .u32 a b/\iand .u32 a b<2^k:=by
 rw [NA (kE ha hk) (kE hb hk)];have:=Nat.and_lt_two_pow a.toNat ((HQ hb.1).1 hb.2);have e:=nG k;omega
theorem V4 {a b:Int} {k:Nat} (hk:k<=32) (ha:0<=a/\a<2^k) (hb:0<=b/\b<2^k):0<=ior .u32 a b/\ior .u32 a b<2^k:=by
 rw [Dd (kE ha hk) (kE hb hk)];have:=Nat.or_lt_two_pow ((HQ ha.1).1 ha.2) ((HQ hb.1).1 hb.2);have e:=nG k;omega
theorem Iw {a b:Int} {k:Nat} (hk:k<=32) (ha:0<=a/\a<2^k) (hb:0<=b/\b<2^k):0<=ixor .u32 a b/\ixor .u32 a b<2^k:=by
 rw [Ix (kE ha hk) (kE hb hk)];have:=Nat.xor_lt_two_pow ((HQ ha.1).1 ha.2) ((HQ hb.1).1 hb.2);have e:=nG k;omega
theorem KG (v:Int) (n:Nat):0<=v % 2^n/\v % 2^n<2^n:=⟨Int.emod_nonneg _ (Int.ne_of_gt (s9 (by decide))),Int.emod_lt_of_pos _ (s9 (by decide))⟩
theorem Cy {a:Int} {k:Nat} (ha:0<=a/\a<2^k) (n:Nat):0<=a / 2^n/\a / 2^n<2^k:=by
 have h0:(0:Int)<2^n:=s9 (by decide);refine ⟨Int.ediv_nonneg ha.1 (B9 h0),?_⟩;have:=Int.ediv_le_self (2^n) ha.1;omega
theorem Lc {a b:Int} {k n:Nat} (ha:0<=a/\a<2^k) (hb:0<=b/\b<2^n):0<=a*2^n+b/\a*2^n+b<2^(k+n):=by
 have h0:(0:Int)<2^n:=s9 (by decide);have h1:=Int.mul_nonneg ha.1 (B9 h0);have h2:(a+1)*2^n<=2^k*2^n:=Int.mul_le_mul_of_nonneg_right (by omega) (B9 h0);rw [Int.add_mul,Int.one_mul] at h2;rw [Int.pow_add];omega
theorem EL {w:Int} (h:wBad w=false):1<=w/\w<=32:=by
 simp only [wBad,F4,decide_eq_false_iff_not] at h;omega
theorem IH {w:Int} (h:(wide w).2=0):(wide w).1=w/\1<=w/\w<=32:=by
 unfold wide at*;cases q:wBad w with
 | true=>rw [q] at h;simp at h
 | false=>simp;exact EL q
theorem Ea {p:Prg} {ps:List Fld} {x:Xd} (h:(prim p ps x).2=0):1<=(prim p ps x).1/\(prim p ps x).1<=32:=by
 unfold prim at*;split
 ·rename_i c;rw [a8 c] at h;split
  ·rename_i c2;rw [a8 c2] at h;cases h
  ·rename_i c2;rw [QA c2] at h;split
   ·rename_i c3;rw [a8 c3] at h;cases h
   ·exact EL (by simpa using c2)
 rename_i c;rw [QA c] at h;split
 ·rename_i c;rw [a8 c] at h;split
  ·rename_i w q;rw [q] at h;have:=IH h;omega
  ·rename_i q;rw [q] at h;cases h
 rename_i c;rw [QA c] at h;split
 ·rename_i c;rw [a8 c] at h;split
  ·rename_i w q;rw [q] at h;have:=IH h;omega
  ·rename_i q;rw [q] at h;cases h
 rename_i c;rw [QA c] at h;split
 ·simp
 ·rename_i q;rw [QA q] at h;cases h
def fitW (v w:Int):Prop:=1<=w/\w<=32/\0<=v/\v<2^w.toNat
theorem Kw {o:Int} (h:ari o=1):o=5\/o=6\/o=7\/o=8:=by
 unfold ari at h;split at h
 ·cases h
 split at h
 ·omega
 split at h
 ·cases h
 split at h<;>cases h
theorem Kx {o:Int} (h:ari o=2):9<=o/\o<=16:=by
 unfold ari at h;split at h
 ·cases h
 split at h
 ·cases h
 split at h
 ·assumption
 split at h<;>cases h
theorem Ky {o:Int} (h0:¬ari o<0) (h:¬ari o=0) (h1:¬ari o=1) (h2:¬ari o=2):o=17:=by
 unfold ari at h0 h h1 h2;split at h
 ·exact absurd rfl h
 rename_i q1;rw [QA q1] at h0 h1 h2;split at h1
 ·exact absurd rfl h1
 rename_i q2;rw [QA q2] at h0 h2;split at h2
 ·exact absurd rfl h2
 rename_i q3;rw [QA q3] at h0;split at h0
 ·assumption
 ·exact absurd (by decide) h0
theorem V' {x:Xd} {a w:Int} (hx:ari x.op=1) (ha:fitW a w) (h:(comb x w 0 0).2=0):fitW (xUn x a w) (comb x w 0 0).1:=by
 obtain ⟨w1,w2,a1⟩:=ha;have hp:(0:Int)<2^w.toNat:=s9 (by decide);rcases Kw hx with o | o | o | o
 ·have e:comb x w 0 0=(w,0):=by simp [comb,o,ari]
  rw [e];simp only [xUn,o,if_true];exact ⟨w1,w2,by omega⟩
 ·have e:(comb x w 0 0).1=w:=by
   unfold comb at*;rw [a8 (by omega)] at h ⊢;split
   ·rename_i c;rw [a8 c] at h;cases h
   ·rfl
  rw [e];simp only [xUn,o,if_true];rw [QA (by decide)];exact ⟨w1,w2,KG _ _⟩
 ·have e:(comb x w 0 0).1=w:=by
   unfold comb at*;rw [a8 (by omega)] at h ⊢;split
   ·rename_i c;rw [a8 c] at h;cases h
   ·rfl
  rw [e];simp only [xUn,o,if_true];rw [QA (by decide),QA (by decide)];exact ⟨w1,w2,Cy a1 _⟩
 ·have e:(comb x w 0 0).1=x.w/\1<=x.w/\x.w<=32:=by
   unfold comb at*;rw [QA (by omega),a8 o] at h ⊢;split
   ·rename_i c;rw [a8 c] at h;cases h
   rename_i c;rw [QA c] at h;split
   ·rename_i c;rw [a8 c] at h;cases h
   ·rename_i c;simp only [not_or,MD] at c;exact ⟨rfl,EL c.1⟩
  rw [e.1];simp only [xUn,o];rw [QA (by decide),QA (by decide),QA (by decide)];exact ⟨e.2.1,e.2.2,KG _ _⟩
theorem U1 {x:Xd} {a b w u:Int} (hx:ari x.op=2) (ha:fitW a w) (hb:fitW b u) (h:(comb x w u 0).2=0):fitW (xBin x.op a b w u) (comb x w u 0).1:=by
 obtain ⟨w1,w2,a1⟩:=ha;obtain ⟨u1,u2,b1⟩:=hb;have o:=Kx hx;by_cases o14:x.op=14
 ·have e:(comb x w u 0).1=w+u/\1<=w+u/\w+u<=32:=by
   unfold comb at*;rw [QA (by omega),QA (by omega),a8 o14] at h ⊢;exact IH h
  rw [e.1];simp only [xBin,o14];refine ⟨e.2.1,e.2.2,?_⟩;have:=Lc a1 b1;rw [show (w+u).toNat=w.toNat+u.toNat by omega];simpa using this
 have e:w=u/\(comb x w u 0).1=if x.op=15\/x.op=16 then 1 else w:=by
  unfold comb at*;rw [QA (by omega),QA (by omega),QA o14,QA (by omega)] at h ⊢;split
  ·rename_i c;rw [a8 c] at h;cases h
  ·rename_i c;refine ⟨Decidable.byContradiction fun q=>c ⟨hx,q⟩,?_⟩;split<;>rfl
 obtain ⟨rfl,e⟩:=e;rw [e];have k:w.toNat<=32:=by omega
 by_cases o15:x.op=15
 ·simp only [xBin,o15,true_or,if_true];refine ⟨by decide,by decide,?_⟩;simp;split<;>simp
 by_cases o16:x.op=16
 ·simp only [xBin,o16,or_true,if_true];refine ⟨by decide,by decide,?_⟩;simp;split<;>simp
 rw [QA (by omega)];refine ⟨w1,w2,?_⟩;unfold xBin;split
 ·exact KG _ _
 split
 ·exact KG _ _
 split
 ·exact PX k a1 b1
 split
 ·exact V4 k a1 b1
 split
 ·exact Iw k a1 b1
 ·omega
theorem YG {x:Xd} {a b c w u v:Int} (hx:x.op=17) (hb:fitW b u) (hc:fitW c v) (h:(comb x w u v).2=0):fitW (if a=1 then b else c) (comb x w u v).1:=by
 have e:u=v/\(comb x w u v).1=u:=by
  unfold comb at*;rw [QA (by omega),QA (by omega),QA (by omega),a8 hx] at h ⊢;split
  ·rename_i q;rw [a8 q] at h;cases h
  ·rename_i q;exact ⟨by omega,rfl⟩
 obtain ⟨rfl,e⟩:=e;rw [e];split
 ·exact hb
 ·exact hc
theorem GD (p:Prg) (ps:List Fld) (l:List Xd) (e:Envt) (args:List Int):∀(n i:Nat) (w:Int) (j:Nat),chk p ps l n i= .ok (w,j)->(evx p ps l e args n i).2=(w,j)/\fitW (evx p ps l e args n i).1 w
 | 0,i,w,j,h=>by cases h
 | n+1,i,w,j,h=>by
  simp only [chk] at h;simp only [evx];cases hx:l[i]? with
  | none=>rw [hx] at h;cases h
  | some x=>
   rw [hx] at h;simp only at h ⊢;split at h
   ·cases h
   rename_i h0;split at h
   ·rename_i k0;rw [a8 k0];split at h
    ·rename_i k1;cases h;exact ⟨rfl,(Ea k1).1,(Ea k1).2,KG _ _⟩
    ·cases h
   rename_i k0;rw [QA k0];split at h
   ·cases h
   rename_i a i1 h1;obtain ⟨e1,f1⟩:=GD p ps l e args n (i+1) a i1 h1;rw [e1];split at h
   ·rename_i k1;rw [a8 k1];split at h
    ·rename_i k2;cases h;exact ⟨rfl,V' k1 f1 k2⟩
    ·cases h
   rename_i k1;rw [QA k1];split at h
   ·cases h
   rename_i b i2 h2;obtain ⟨e2,f2⟩:=GD p ps l e args n i1 b i2 h2;rw [e2];split at h
   ·rename_i k2;rw [a8 k2];split at h
    ·rename_i k3;cases h;exact ⟨rfl,U1 k2 f1 f2 k3⟩
    ·cases h
   rename_i k2;rw [QA k2];split at h
   ·cases h
   rename_i c i3 h3;obtain ⟨e3,f3⟩:=GD p ps l e args n i2 c i3 h3;rw [e3];split at h
   ·rename_i k3;cases h;exact ⟨rfl,YG (Ky h0 k0 k1 k2) f2 f3 k3⟩
   ·cases h
theorem KT (p:Prg) (ps:List Fld) (l:List Xd):∀(n i:Nat) (x:Int),chk p ps l n i= .error x->x≠0
 | 0,i,x,h=>by cases h;decide
 | n+1,i,x,h=>by
  simp only [chk] at h;split at h
  ·cases h;decide
  split at h
  ·cases h;decide
  split at h
  ·split at h
   ·cases h
   ·cases h;assumption
  split at h
  ·rename_i q;cases h;exact KT p ps l n _ _ q
  split at h
  ·split at h
   ·cases h
   ·cases h;assumption
  split at h
  ·rename_i q;cases h;exact KT p ps l n _ _ q
  split at h
  ·split at h
   ·cases h
   ·cases h;assumption
  split at h
  ·rename_i q;cases h;exact KT p ps l n _ _ q
  split at h
  ·cases h
  ·cases h;assumption
theorem UM (p:Prg) (ps:List Fld) (l:List Xd) (e:Envt) (args:List Int) (h:(exE p ps l).2=0):fitW (evl p ps l e args) (exE p ps l).1:=by
 unfold evl;rw [a8 h];unfold exE at*;split at h
 ·cases h
 rename_i q;rw [QA q];split at h
 ·rename_i er q2;exact absurd h (KT p ps l _ _ _ q2)
 ·rename_i w i q2;split at h
  ·cases h
  ·rename_i q3;rw [QA q3];exact (GD p ps l e args _ _ _ _ q2).2
theorem OB (p:Prg) (ps:List Fld) (l:List Xd) (e:Envt) (args:List Int):ok32 0 (evl p ps l e args):=by
 by_cases h:(exE p ps l).2=0
 ·obtain ⟨h1,h2,h3⟩:=UM p ps l e args h;exact kE h3 (by omega)
 ·unfold evl;rw [QA h];exact ⟨Int.le_refl _,by decide⟩
theorem wrapE (n:Int):IntKind.wrap .u32 n=n % 2^32:=by
 simp [IntKind.wrap,IntKind.bits,IntKind.signed]
theorem YX {k n:Nat} (h:k<=n):(2:Int)^k∣2^n:=⟨2^(n - k),by rw [<- Int.pow_add];congr 1;omega⟩
theorem Br (n:Int) {k:Nat} (h:k<=32):IntKind.wrap .u32 n % 2^k=n % 2^k:=by
 rw [wrapE,Int.emod_emod_of_dvd _ (YX h)]
theorem Dp (n:Int):ok32 0 (IntKind.wrap .u32 n):=by
 rw [wrapE];exact ⟨Int.emod_nonneg _ (by decide),by have:=Int.emod_lt_of_pos n (show (0:Int)<2^32 by decide);omega⟩
theorem NW {w:Int} (h1:1<=w) (h2:w<=32):cN w=2^w.toNat - 1:=by
 have:wBad w=false:=by simp [wBad];omega
 simp [cN,this]
theorem nC {v w:Int} (hv:ok32 0 v) (h1:1<=w) (h2:w<=32):iand .u32 v (cN w)=v % 2^w.toNat:=by
 rw [NW h1 h2,Ib hv (by omega)]
theorem UZ {v:Int} (hv:ok32 0 v):inot .u32 v=4294967295 - v:=by
 have h1:=hv.1;have h2:=hv.2;unfold inot;show IntKind.wrap .u32 ((BitVec.ofInt 32 (if IntKind.signed .u32=true then -1 else IntKind.max .u32)^^^BitVec.ofInt 32 v).toNat:Int)=_;have e:BitVec.ofInt 32 (if IntKind.signed .u32=true then -1 else IntKind.max .u32)=BitVec.allOnes 32:=by decide
 rw [e,BitVec.allOnes_xor,BitVec.toNat_not,GA hv];rw [EX (by omega) (by omega)];omega
theorem TT {a b w:Int} (h1:1<=w) (h2:w<=32):aB Φ vM [.int .u32 a,.int .u32 b,a7 w]=some (.val (.int .u32 ((a+b) % 2^w.toNat))):=by
 rw [aD rfl rfl];have h:=nC (Dp (a+b)) h1 h2;rw [Br _ (by omega)] at h;simp [DI,gE,h]
theorem TY {a b w:Int} (h1:1<=w) (h2:w<=32):aB Φ vN [.int .u32 a,.int .u32 b,a7 w]=some (.val (.int .u32 ((a - b) % 2^w.toNat))):=by
 rw [aD rfl rfl];have h:=nC (Dp (a - b)) h1 h2;rw [Br _ (by omega)] at h;simp [DJ,gE,h]
theorem TV {a w:Int} (h:fitW a w):aB Φ vI [.int .u32 a,a7 w]=some (.val (.int .u32 (2^w.toNat - 1 - a))):=by
 rw [aD rfl rfl];obtain ⟨h1,h2,h3⟩:=h;have ho:=kE h3 (show w.toNat<=32 by omega);have hn:ok32 0 (4294967295 - a):=⟨by have:=ho.2;omega,by have:=ho.1;omega⟩;have h:=nC hn h1 h2;have e:(4294967295 - a) % 2^w.toNat=2^w.toNat - 1 - a:=by
  have e1:(4294967296:Int)=2^w.toNat*2^(32 - w.toNat):=by
   rw [<- Int.pow_add,show w.toNat+(32 - w.toNat)=32 by omega];rfl
  have e2:4294967295 - a=(2^w.toNat - 1 - a)+2^w.toNat*(2^(32 - w.toNat) - 1):=by
   rw [Int.mul_sub,<- e1];omega
  rw [e2,Int.add_mul_emod_self_left];exact IV (by omega) (by omega)
 rw [e] at h;simp [DE,gE,UZ ho,h]
theorem TW {a n w:Int} (h1:1<=w) (h2:w<=32) (h3:0<=n) (h4:n<=31):aB Φ vJ [.int .u32 a,a7 n,a7 w]=some (.val (.int .u32 (a*2^n.toNat % 2^w.toNat))):=by
 rw [aD rfl rfl];have e:ishl .u32 a n=IntKind.wrap .u32 (a*2^n.toNat):=by
  unfold ishl;rw [show min n.toNat (IntKind.bits .u32)=n.toNat by simp [IntKind.bits];omega]
 have h:=nC (Dp (a*2^n.toNat)) h1 h2;rw [Br _ (by omega)] at h;have hn:¬n<0:=by omega
 simp [DF,gE,hn,h3,e,h]
theorem De {a n:Int} (ha:0<=a) (h3:0<=n) (h4:n<=32):ishr .u32 a n=a / 2^n.toNat:=by
 unfold ishr;rw [show min n.toNat (IntKind.bits .u32)=n.toNat by simp [IntKind.bits];omega];exact Int.fdiv_eq_ediv_of_nonneg _ (B9 (s9 (by decide)))
theorem TX {a n w:Int} (h:fitW a w) (h3:0<=n) (h4:n<=31):aB Φ vK [.int .u32 a,a7 n,a7 w]=some (.val (.int .u32 (a / 2^n.toNat))):=by
 rw [aD rfl rfl];obtain ⟨h1,h2,h5⟩:=h;have ho:=kE h5 (show w.toNat<=32 by omega);have h:=nC ho h1 h2;rw [IV h5.1 h5.2] at h;have hn:¬n<0:=by omega
 simp [DG,gE,hn,h3,h,De h5.1 h3 (by omega)]
theorem qvx (w:Int):aB Φ eD [.slice 1 [[a7 w]]]=some (.val (.bool (!wBad w))):=by
 rw [aD rfl rfl];simp [jG];rw [cL];by_cases h1:w<1
 ·simp [c_263_l0,h1,wBad]
 by_cases h2:32<w
 ·simp [c_263_l0,h1,h2,wBad]
 have w1:IntKind.wrap .i64 1=1:=rfl;simp [c_263_l0,h1,h2,wBad,w1];rw [cL];simp [c_263_l0,c_263_k1]
theorem qvy (w u:Int):aB Φ eD [.slice 1 [[a7 w],[a7 u]]]=some (.val (.bool (!wBad w&& !wBad u))):=by
 rw [aD rfl rfl];have w1:IntKind.wrap .i64 1=1:=rfl;have w2:IntKind.wrap .i64 2=2:=rfl;simp [jG];rw [cL];by_cases h1:w<1
 ·simp [c_263_l0,h1,wBad]
 by_cases h2:32<w
 ·simp [c_263_l0,h1,h2,wBad]
 simp [c_263_l0,h1,h2,wBad,w1];rw [cL];by_cases h3:u<1
 ·simp [c_263_l0,h3,wBad]
 by_cases h4:32<u
 ·simp [c_263_l0,h3,h4,wBad]
 simp [c_263_l0,h3,h4,wBad,w2];rw [cL];simp [c_263_l0,c_263_k1]
theorem qxs {a n u:Int} (ha:ok32 0 a) (h1:1<=u) (h2:u<=32) (h3:0<=n) (h4:n+u<=32):aB Φ vL [.int .u32 a,a7 n,a7 u]=some (.val (.int .u32 (a / 2^n.toNat % 2^u.toNat))):=by
 rw [aD rfl rfl];have hb:wBad u=false:=by simp [wBad];omega
 have hv:=qvx u;rw [hb] at hv;have hd:=Cy (k:=32) (a:=a) ⟨ha.1,by have:=ha.2;omega⟩ n.toNat;have h:=nC (kE hd (Qb _)) h1 h2;have hn:¬n<0:=by omega
 have hw:IntKind.wrap .i64 (32 - u)=32 - u:=cT (by omega) (by omega);have hg:¬32 - u<n:=by omega
 simp [DH,gE,hv,hn,h3,hw,hg,h,De ha.1 h3 (by omega)]
theorem TU {a w b u:Int} (ha:fitW a w) (hb:fitW b u) (h:w+u<=32):aB Φ vO [.int .u32 a,a7 w,.int .u32 b,a7 u]=some (.val (.tup [.int .u32 (a*2^u.toNat+b),.bool true])):=by
 rw [aD rfl rfl];obtain ⟨w1,w2,a1⟩:=ha;obtain ⟨u1,u2,b1⟩:=hb;have q1:wBad w=false:=by simp [wBad];omega
 have q2:wBad u=false:=by simp [wBad];omega
 have hv:=qvy w u;rw [q1,q2] at hv;have ha:=nC (kE a1 (show w.toNat<=32 by omega)) w1 w2;have hb:=nC (kE b1 (show u.toNat<=32 by omega)) u1 u2;rw [IV a1.1 a1.2] at ha;rw [IV b1.1 b1.2] at hb;have hc:=Lc a1 b1;rw [<- show (w+u).toNat=w.toNat+u.toNat by omega] at hc;have hc2:=kE hc (show (w+u).toNat<=32 by omega);have hs:ishl .u32 a u=a*2^u.toNat:=by
  unfold ishl;rw [show min u.toNat (IntKind.bits .u32)=u.toNat by simp [IntKind.bits];omega];have:=Int.mul_nonneg a1.1 (B9 ((s9 (by decide):(0:Int)<2^u.toNat)));exact EX this (by have:=hc2.2;omega)
 have ho:ior .u32 (a*2^u.toNat) b=a*2^u.toNat+b:=by
  have hm:=Int.mul_nonneg a1.1 (B9 ((s9 (by decide):(0:Int)<2^u.toNat)));rw [Dd ⟨hm,by have:=hc2.2;omega⟩ (kE b1 (by omega))];have e1:(a*2^u.toNat).toNat=2^u.toNat*a.toNat:=by
   have e:a*2^u.toNat=((2^u.toNat*a.toNat:Nat):Int):=by
    rw [Int.natCast_mul,nG,M0 a1.1,Int.mul_comm]
   rw [e,AY]
  rw [e1,<- Nat.two_pow_add_eq_or_of_lt ((HQ b1.1).1 b1.2)];rw [Int.natCast_add,Int.natCast_mul,nG,M0 a1.1,M0 b1.1,Int.mul_comm]
 have hw:IntKind.wrap .i64 (w+u)=w+u:=cT (by omega) (by omega);have hg:¬32<w+u:=by omega
 have hu:0<=u:=by omega
 simp [DK,gE,hv,hw,hg,ha,hb,hs,ho,hu]
theorem FieldRef.e (x:FieldRef):FieldRef.c x=[a7 x.header,a7 x.field]:=by simp [FieldRef.c]
theorem S1 (p:Prg) (h i:Int):aB Φ qB [.agg (Prg.c p),.agg [a7 h,a7 i]]=some (.val (match decl p h i with
  | some w=> .tup [.int .i64 w,.bool true]
  | none=> .tup [.int .i64 0,.bool false])):=by
 rw [aD rfl rfl,Cx];by_cases hm:h= -1
 ·subst hm;by_cases i0:i<0
  ·rw [show dI p (-1) i=none by simp [dI,gA i0]];simp [eY,Prg.e,i0]
  by_cases i1:(p.Xn.length:Int)<=i
  ·rw [show dI p (-1) i=none by simp [dI,iK i1]];simp [eY,Prg.e,i0,i1]
  obtain ⟨k,rfl⟩:∃k:Nat,i=k:=⟨i.toNat,by omega⟩;have hk:k<p.Xn.length:=by omega
  rw [show dI p (-1) k=some p.Xn[k] by simp [dI,hk]];simp [eY,Prg.e,i0,i1,hk,Fld.e]
 by_cases h0:h<0
 ·rw [show dI p h i=none by simp [dI,hm,gA h0]];simp [eY,Prg.e,hm,h0]
 by_cases h1:(p.Xo.length:Int)<=h
 ·rw [show dI p h i=none by simp [dI,hm,iK h1]];simp [eY,Prg.e,hm,h0,h1]
 obtain ⟨m,rfl⟩:∃k:Nat,h=k:=⟨h.toNat,by omega⟩;have hk:m<p.Xo.length:=by omega
 by_cases i0:i<0
 ·rw [show dI p m i=none by simp [dI,hm,hk,gA i0]];simp [eY,Prg.e,hm,hk,Qf.2 hk,i0,Xi.e]
 by_cases i1:(p.Xo[m].Xz.length:Int)<=i
 ·rw [show dI p m i=none by simp [dI,hm,hk,iK i1]];simp [eY,Prg.e,hm,hk,Qf.2 hk,i0,i1,Xi.e]
 obtain ⟨k,rfl⟩:∃k:Nat,i=k:=⟨i.toNat,by omega⟩;have hk2:k<p.Xo[m].Xz.length:=by omega
 rw [show dI p m k=some p.Xo[m].Xz[k] by simp [dI,hm,hk,hk2]];simp [eY,Prg.e,hm,hk,Qf.2 hk,hk2,Qf.2 hk2,Xi.e,Fld.e]
theorem WE (p:Prg) (ps:List Fld) (l:List Xd) (w:Int):aB Φ mP [.agg (scC p ps),.slice 3 (l.map Xd.c),a7 w]=some (.val (a7 (valE p ps l w))):=by
 rw [aD rfl rfl];have h:=OC p ps l;simp only [aV] at h;by_cases z:(exE p ps l).2=0
 ·rw [z] at h;by_cases y:(exE p ps l).1=w
  ·simp [oV,aV,h,valE,z,y]
  ·simp [oV,aV,h,valE,z,y]
 ·simp [oV,aV,h,valE,z]
theorem Hn {Z:Type} {l:List Z} {i:Int}:(at? l i).isSome=(!(decide (i<0) || decide ((l.length:Int)<=i))):=by
 by_cases h0:i<0
 ·simp [gA h0,h0]
 by_cases h1:(l.length:Int)<=i
 ·simp [iK h1,h1]
 obtain ⟨k,rfl⟩:∃k:Nat,i=k:=⟨i.toNat,by omega⟩;have:k<l.length:=by omega
 simp [this,h0]
theorem X9 (p:Prg) (ps:List Fld) (s:Xf):aB Φ uO [.agg (scC p ps),.agg (Xf.c s)]=some (.val (a7 (stmE p ps s))):=by
 rw [aD rfl rfl];have hd:=S1 p s.dst.header s.dst.field;have hi:=OC p ps s.index;simp only [Prg.e] at hd;simp only [aV] at hi;have hr:(s.Ye<0/\at? p.Xl s.Ye=none)\/(¬s.Ye<0/\(p.Xl.length:Int)<=s.Ye/\at? p.Xl s.Ye=none)\/∃k:Nat,∃h:k<p.Xl.length,s.Ye=k/\at? p.Xl s.Ye=some p.Xl[k]:=by
  by_cases h0:s.Ye<0
  ·exact .inl ⟨h0,gA h0⟩
  by_cases h1:(p.Xl.length:Int)<=s.Ye
  ·exact .inr (.inl ⟨h0,h1,iK h1⟩)
  obtain ⟨k,hk⟩:∃k:Nat,s.Ye=k:=⟨s.Ye.toNat,by omega⟩;exact .inr (.inr ⟨k,by omega,hk,by rw [hk];simp⟩)
 have hx:∀w,aB Φ mP [.agg (scC p ps),.slice 3 (s.value.map Xd.c),a7 w]=some (.val (a7 (valE p ps s.value w))):=WE p ps s.value;simp only [aV] at hx;have hd':aB Φ qB [.agg (mW p []),.agg [a7 s.dst.header,a7 s.dst.field]]=
   some (.val (.tup [a7 ((decl p s.dst.header s.dst.field).getD 0),.bool (decl p s.dst.header s.dst.field).isSome])):=by
  rw [hd];cases decl p s.dst.header s.dst.field<;>rfl
 clear hd;by_cases k1:s.kind=1
 ·rcases hr with ⟨r0,rn⟩ | ⟨r0,r1,rn⟩ | ⟨m,hm,rk,rn⟩<;>cases qd:decl p s.dst.header s.dst.field<;>rw [qd] at hd'
  ·simp [aP,aV,Xf.e,hd',stmE,qd,k1,BA.2 r0]
  ·simp [aP,aV,Xf.e,hd',stmE,qd,k1,BA.2 r0,hx]
  ·simp [aP,aV,Xf.e,hd',stmE,qd,k1,nT.1 r0,nT.2 r1]
  ·simp [aP,aV,Xf.e,hd',stmE,qd,k1,nT.1 r0,nT.2 r1,hx]
  ·simp [aP,aV,Xf.e,hd',stmE,qd,k1,rk,hm]
  ·simp [aP,aV,Xf.e,hd',stmE,qd,k1,rk,hm,hx]
 by_cases k2:s.kind=2
 ·have e:stmE p ps s=if (at? p.Xo s.header).isSome then 0 else 8:=by simp [stmE,k2]
  rw [e,Hn];by_cases h0:s.header<0<;>by_cases h1:(p.Xo.length:Int)<=s.header<;>rcases hr with ⟨r0,rn⟩ | ⟨r0,r1,rn⟩ | ⟨m,hm,rk,rn⟩
  all_goals first
   | simp [aP,aV,Xf.e,hd',k2,BA.2 r0,h0,h1]
   | simp [aP,aV,Xf.e,hd',k2,nT.1 r0,nT.2 r1,h0,h1]
   | simp [aP,aV,Xf.e,hd',k2,rk,hm,h0,h1]
 by_cases k3:s.kind=3
 ·have e:stmE p ps s=if (at? p.Xo s.header).isSome then 0 else 8:=by simp [stmE,k3]
  rw [e,Hn];by_cases h0:s.header<0<;>by_cases h1:(p.Xo.length:Int)<=s.header<;>rcases hr with ⟨r0,rn⟩ | ⟨r0,r1,rn⟩ | ⟨m,hm,rk,rn⟩
  all_goals first
   | simp [aP,aV,Xf.e,hd',k3,BA.2 r0,h0,h1]
   | simp [aP,aV,Xf.e,hd',k3,nT.1 r0,nT.2 r1,h0,h1]
   | simp [aP,aV,Xf.e,hd',k3,rk,hm,h0,h1]
 by_cases k4:s.kind=4
 ·rcases hr with ⟨r0,rn⟩ | ⟨r0,r1,rn⟩ | ⟨m,hm,rk,rn⟩
  ·simp [aP,aV,Xf.e,hd',stmE,k4,BA.2 r0,rn]
  ·simp [aP,aV,Xf.e,hd',stmE,k4,nT.1 r0,nT.2 r1,rn]
  ·rw [rk] at rn;cases qd:decl p s.dst.header s.dst.field with
   | none=>rw [qd] at hd';simp [aP,aV,Xf.e,hd',stmE,k4,rk,hm,rn,qd]
   | some w=>
    rw [qd] at hd';by_cases z:(exE p ps s.index).2=0
    ·rw [z] at hi;by_cases y:w=p.Xl[m].Yc
     ·simp [aP,aV,Xf.e,Xg.e,hd',stmE,k4,rk,hm,rn,qd,hi,z,y]
     ·simp [aP,aV,Xf.e,Xg.e,hd',stmE,k4,rk,hm,rn,qd,hi,z,y]
    ·simp [aP,aV,Xf.e,hd',stmE,k4,rk,hm,rn,qd,hi,z]
 by_cases k5:s.kind=5
 ·rcases hr with ⟨r0,rn⟩ | ⟨r0,r1,rn⟩ | ⟨m,hm,rk,rn⟩
  ·simp [aP,aV,Xf.e,hd',stmE,k5,BA.2 r0,rn]
  ·simp [aP,aV,Xf.e,hd',stmE,k5,nT.1 r0,nT.2 r1,rn]
  ·rw [rk] at rn;by_cases z:(exE p ps s.index).2=0
   ·rw [z] at hi;simp [aP,aV,Xf.e,Xg.e,hd',stmE,k5,rk,hm,rn,hi,z,hx]
   ·simp [aP,aV,Xf.e,hd',stmE,k5,rk,hm,rn,hi,z]
 rcases hr with ⟨r0,rn⟩ | ⟨r0,r1,rn⟩ | ⟨m,hm,rk,rn⟩
 ·simp [aP,aV,Xf.e,hd',stmE,k1,k2,k3,k4,k5,BA.2 r0]
 ·simp [aP,aV,Xf.e,hd',stmE,k1,k2,k3,k4,k5,nT.1 r0,nT.2 r1]
 ·simp [aP,aV,Xf.e,hd',stmE,k1,k2,k3,k4,k5,rk,hm]
theorem QL (g:Fld) (s:List UInt8) (w:Int):aB Φ jX [.agg (Fld.c g),.iptr 2 [[.str s,a7 w]] 0 0]=some (.val (.bool (decide (g.name=s)))):=by
 rw [aD rfl rfl];simp [D5,Fld.e]
theorem Zg (l:List Fld) (s:List UInt8) (w:Int) (hl:l.length<2^40):aB Φ vS [.slice 2 (l.map Fld.c),.func (.func jX) [] [.iptr 2 [[.str s,a7 w]] 0 0]]=some (.val (a7 (ix (fun g=>decide (g.name=s)) l 0))):=by
 rw [aD rfl rfl];simp [DQ];refine (mT l.length (fun i e=>look 0 e=some (.slice 2 (l.map Fld.c))/\look 1 e=some (.func (.func jX) [] [.iptr 2 [[.str s,a7 w]] 0 0])/\look 7 e=some (a7 l.length)/\look 8 e=some (a7 i))
  (fun i=>some (.val (a7 (ix (fun g=>decide (g.name=s)) l i)))) ?_ ?_ 0 _ (Qc _) ?_).trans (by simp)
 ·rintro i e L hi hL ⟨h0,h1,h7,h8⟩ ih;have hw:=aQ i (by omega);have hd:=QL l[i] s w;simp only [Fld.e] at hd;by_cases z:l[i].name=s
  ·rw [KP hi (by simpa using z)];rw [decide_eq_true z] at hd;simp [c_402_l0,Fld.e,h0,h1,h7,h8,hi,hd]
  ·rw [KK hi (by simpa using z)];simp [c_402_l0,Fld.e,h0,h1,h7,h8,hi,hd,z,hw];exact ih _ ⟨by simp [h0],by simp [h1],by simp [h7],by simp⟩
 ·rintro e L hL ⟨h0,h1,h7,h8⟩;rw [KO];simp [c_402_l0,c_402_k1,h7,h8,hL]
 ·simp
theorem Vt (l:List Fld) (s:List UInt8) (w:Int) (hl:l.length<2^40):aB Φ vC [.slice 2 (l.map Fld.c),.func (.func jX) [] [.iptr 2 [[.str s,a7 w]] 0 0]]=some (.val (.bool (l.any fun g=>decide (g.name=s)))):=by
 rw [aD rfl rfl];have h:=Zg l s w hl;have e:=OI (p:=fun g:Fld=>decide (g.name=s)) (l:=l);simp [D4,h];rw [<- e]
def actG (l:List Fld) (i:Nat):Option Int:=(l[i]?).bind fun f=>er (fldE l i f)
theorem TI (a:Action) (hn:a.name.length<2^40) (hl:a.params.length<2^40) (hf:∀f∈a.params,f.name.length<2^40):aB Φ uN [.agg (Action.c a)]=some (.val (a7 (actD a))):=by
 rw [aD rfl rfl];have n1:=E1 a.name hn;cases q1:idS a.name with
 | false=>rw [q1] at n1;simp [lO,Action.e,n1,actD,q1]
 | true=>
 rw [q1] at n1;by_cases z0:4<a.params.length
 ·simp [lO,Action.e,n1,actD,q1,z0]
 by_cases z1:12<a.body.length
 ·simp [lO,Action.e,n1,actD,q1,z0,z1]
 have hE:actD a=errO (fe (actG a.params) a.params.length 0):=by simp [actD,q1,z0,z1]<;>rfl
 rw [hE];simp [lO,Action.e,n1,z0,z1];refine eS a.params.length (fun _=>[]) 0 (fun i e=>look 1 e=some (.iptr 3 [[.str a.name,.slice 2 (a.params.map Fld.c),.slice 7 (a.body.map Xf.c)]] 0 0)/\look 22 e=some (.slice 2 (a.params.map Fld.c))/\look 23 e=some (a7 a.params.length)/\look 24 e=some (a7 i))
  (fun i=>some (Rt.val (a7 (errO (fe (actG a.params) a.params.length i))))) ?_ ?_ 0 _ 0 (Qc _) (Qb _) ?_
 ·rintro i e n L hi hL _ ⟨h1,h22,h23,h24⟩ ih;have hw:=aQ i (by omega);have nf:=E1 a.params[i].name (hf _ (Qd hi));have hi':i<=a.params.length:=by omega
  have hc:=Vt (a.params.take i) a.params[i].name a.params[i].Yc (by simp;omega);rw [show (a.params.take i).any (fun g=>decide (g.name=a.params[i].name))=dupN Fld.name a.params i a.params[i] from rfl,B8] at hc;cases p1:idS a.params[i].name with
  | false=>
   rw [p1] at nf;rw [bT (x:=6) hi (by simp [actG,hi,fldE,p1,er])];simp [c_313_l0,Fld.e,h22,h23,h24,hi,nf]
  | true=>
  rw [p1] at nf;by_cases w1:a.params[i].Yc<1
  ·rw [bT (x:=10) hi (by simp [actG,hi,fldE,p1,wBad,w1,er])];simp [c_313_l0,Fld.e,h22,h23,h24,hi,nf,w1]
  by_cases w2:32<a.params[i].Yc
  ·rw [bT (x:=10) hi (by simp [actG,hi,fldE,p1,wBad,w2,er])];simp [c_313_l0,Fld.e,h22,h23,h24,hi,nf,w1,w2]
  cases p3:dupN Fld.name a.params i a.params[i] with
  | true=>
   rw [p3] at hc;rw [bT (x:=7) hi (by simp [actG,hi,fldE,p1,wBad,w1,w2,p3,er])];simp [c_313_l0,Fld.e,h1,h22,h23,h24,hi,nf,w1,w2,hi',hc]
  | false=>
   rw [p3] at hc;rw [fJ hi (by simp [actG,hi,fldE,p1,wBad,w1,w2,p3])];simp [c_313_l0,Fld.e,h1,h22,h23,h24,hi,nf,w1,w2,hi',hc,hw];exact ih _ _ (Qc _) ⟨by simp [h1],by simp [h22],by simp [h23],by simp⟩
 ·rintro e n L hL _ ⟨h1,h22,h23,h24⟩;rw [gM];simp [c_313_l0,c_313_k1,h23,h24,hL]
 ·simp
def KX (p:Prg) (a:Action) (k:Nat):Option (Int×Int):=(a.body[k]?).bind fun s=>if stmE p a.params s=0 then none else some ((k:Int),stmE p a.params s)
theorem Ku (p:Prg) (f:PrgS p) (i:Int):aB Φ pF [.agg (Prg.c p),a7 i]=some (.val (.tup [a7 (actE p i).1,a7 (actE p i).2])):=by
 rw [aD rfl rfl];by_cases i0:i<0
 ·simp [lH,Prg.e,i0,actE,gA i0]
 by_cases i1:(p.Xx.length:Int)<=i
 ·simp [lH,Prg.e,i0,i1,actE,iK i1]
 obtain ⟨k,rfl⟩:∃k:Nat,i=k:=⟨i.toNat,by omega⟩;have hk:k<p.Xx.length:=by omega
 have hm:=Qd hk;have hd:=TI p.Xx[k] (f.an _ hm) (f.ap _ hm) (f.apn _ hm);simp only [Action.e] at hd;by_cases z:actD p.Xx[k]=0
 rotate_left
 ·simp [lH,Prg.e,Action.e,hk,Qf.2 hk,hd,z,actE]
 rw [z] at hd;have hE:actE p k=(fe (KX p p.Xx[k]) p.Xx[k].body.length 0).getD (0,0):=by simp [actE,hk,z]<;>rfl
 rw [hE];simp [lH,Prg.e,Action.e,hk,Qf.2 hk,hd];have hb:=f.ab _ hm;refine eS p.Xx[k].body.length (fun _=>[]) 0 (fun i e=>look 7 e=some (.iptr 10 [scC p p.Xx[k].params] 0 0)/\look 35 e=some (.slice 7 (p.Xx[k].body.map Xf.c))/\look 36 e=some (a7 p.Xx[k].body.length)/\look 37 e=some (a7 i))
  (fun i=>some (Rt.val (.tup [a7 ((fe (KX p p.Xx[k]) p.Xx[k].body.length i).getD (0,0)).1,a7 ((fe (KX p p.Xx[k]) p.Xx[k].body.length i).getD (0,0)).2]))) ?_ ?_ 0 _ _ (Qc _) (Qc _) ?_
 ·rintro i e n L hi hL _ ⟨h7,h35,h36,h37⟩ ih;have hw:=aQ i (by omega);have hs:=X9 p p.Xx[k].params p.Xx[k].body[i];simp only [Xf.e,aV] at hs;rw [aV] at h7;by_cases y:stmE p p.Xx[k].params p.Xx[k].body[i]=0
  ·rw [y] at hs;rw [fJ hi (by simp [KX,hi,y])];simp [c_218_l0,Xf.e,h7,h35,h36,h37,hi,hs,hw];exact ih _ _ (Qc _) ⟨by simp [h7,aV],by simp [h35],by simp [h36],by simp⟩
  ·rw [bT (x:=((i:Int),stmE p p.Xx[k].params p.Xx[k].body[i])) hi (by simp [KX,hi,y])];simp [c_218_l0,Xf.e,h7,h35,h36,h37,hi,hs,y]
 ·rintro e n L hL _ ⟨h7,h35,h36,h37⟩;rw [gM];simp [c_218_l0,c_218_k1,h36,h37,hL]
 ·simp [aV]
def OZ (ar:List Int) (ps:List Fld) (i:Nat):Option Int:=match ar[i]?,ps[i]? with
  | some v,some f=>if fits v f.Yc then none else some 9
  | _,_=>none
theorem NG (p:Prg) (f:PrgS p) (c:Xb) (hc:c.args.length<2^40):aB Φ jL [.agg (Prg.c p),.agg (Xb.c c)]=some (.val (a7 (l5 p c))):=by
 rw [aD rfl rfl];by_cases i0:c.Xy<0
 ·simp [lE,Prg.e,Xb.e,i0,l5,gA i0]
 by_cases i1:(p.Xx.length:Int)<=c.Xy
 ·simp [lE,Prg.e,Xb.e,i0,i1,l5,iK i1]
 obtain ⟨k,hk0⟩:∃k:Nat,c.Xy=k:=⟨c.Xy.toNat,by omega⟩;have hk:k<p.Xx.length:=by omega
 by_cases z:c.args.length=p.Xx[k].params.length
 rotate_left
 ·simp [lE,Prg.e,Xb.e,Action.e,hk0,hk,Qf.2 hk,l5,z]
 have hE:l5 p c=errO (fe (OZ c.args p.Xx[k].params) c.args.length 0):=by simp [l5,hk0,hk,z]<;>rfl
 rw [hE];simp [lE,Prg.e,Xb.e,Action.e,hk0,hk,Qf.2 hk,z];rw [<- z];refine mT c.args.length (fun i e=>look 5 e=some (.slice 2 (p.Xx[k].params.map Fld.c))/\look 33 e=some (.slice 1 (c.args.map c32))/\look 34 e=some (a7 c.args.length)/\look 35 e=some (a7 i))
  (fun i=>some (Rt.val (a7 (errO (fe (OZ c.args p.Xx[k].params) c.args.length i))))) ?_ ?_ 0 _ (Qc _) ?_
 ·rintro i e L hi hL ⟨h5,h33,h34,h35⟩ ih;have hw:=aQ i (by omega);have hi2:i<p.Xx[k].params.length:=by omega
  have hf:=I4 c.args[i] p.Xx[k].params[i].Yc;cases y:fits c.args[i] p.Xx[k].params[i].Yc with
  | true=>
   rw [y] at hf;rw [fJ hi (by simp [OZ,hi,hi2,y])];simp [c_144_l0,Fld.e,c32,h5,h33,h34,h35,hi,hi2,hf,hw];exact ih _ ⟨by simp [h5],by simp [h33],by simp [h34],by simp⟩
  | false=>
   rw [y] at hf;rw [bT (x:=9) hi (by simp [OZ,hi,hi2,y])];simp [c_144_l0,Fld.e,c32,h5,h33,h34,h35,hi,hi2,hf]
 ·rintro e L hL ⟨h5,h33,h34,h35⟩;rw [gM];simp [c_144_l0,c_144_k1,h34,h35,hL]
 ·simp [z]
@[simp] theorem Rx (O:List (Nat×AO)) (n id:Nat):IE ⟨O,n⟩ (.map id)=match look id O with
  | some (.map es)=>some es
  | _=>none:=by simp only [IE,AH.get]<;>rfl
@[simp] theorem kdOk_i (k:IntKind) (x:Int):kdOk .i (.int k x)=true:=by simp [kdOk]
@[simp] theorem kdOk_s (x:List UInt8):kdOk .s (.str x)=true:=by simp [kdOk]
def setM (l:List Int):List (AV×AV):=l.map fun a=>(a7 a,.bool true)
def setS (l:List (List UInt8)):List (AV×AV):=l.map fun a=>(.str a,.bool true)
theorem Bl (k:Int):∀l:List Int,fP .i (a7 k) (setM l)=some (if l.contains k then some (.bool true) else none)
 | []=>by simp [setM,fP]
 | a::l=>by
  have ih:=Bl k l;unfold setM at ih ⊢;by_cases h:k=a
  ·subst h;simp [fP]
  ·simp [fP,h,ih]
theorem Jo (k:Int):∀l:List Int,l.contains k=false->putA .i (a7 k) (.bool true) (setM l)=some (setM (l++[k]))
 | [],_=>by simp [setM,putA]
 | a::l,h=>by
  simp only [List.contains_cons,F4,beq_eq_false_iff_ne,ne_eq] at h;have ih:=Jo k l h.2;unfold setM at ih ⊢;simp [putA,h.1,ih]
theorem Ik (k:List UInt8):∀l:List (List UInt8),fP .s (.str k) (setS l)=some (if l.contains k then some (.bool true) else none)
 | []=>by simp [setS,fP]
 | a::l=>by
  have ih:=Ik k l;unfold setS at ih ⊢;by_cases h:k=a
  ·subst h;simp [fP]
  ·simp [fP,h,ih]
theorem Jp (k:List UInt8):∀l:List (List UInt8),l.contains k=false->putA .s (.str k) (.bool true) (setS l)=some (setS (l++[k]))
 | [],_=>by simp [setS,putA]
 | a::l,h=>by
  simp only [List.contains_cons,F4,beq_eq_false_iff_ne,ne_eq] at h;have ih:=Jp k l h.2;unfold setS at ih ⊢;simp [putA,h.1,ih]
theorem PZ (l:List Fld) (i:Int):aB Φ uG [.slice 2 (l.map Fld.c),a7 i]=some (.val (.agg (match at? l i with | some f=>Fld.c f | none=>[.str [],a7 0]))):=by
 rw [aD rfl rfl];by_cases i0:i<0
 ·simp [oL,i0,gA i0]
 by_cases i1:(l.length:Int)<=i
 ·simp [oL,i0,i1,iK i1]
 obtain ⟨k,rfl⟩:∃k:Nat,i=k:=⟨i.toNat,by omega⟩;have hk:k<l.length:=by omega
 simp [oL,hk,Qf.2 hk,Fld.e]
theorem Q0 (l:List Xi) (i:Int):aB Φ uX [.slice 2 (l.map Xi.c),a7 i]=some (.val (.agg (match at? l i with | some f=>Xi.c f | none=>[.str [],.slice 2 []]))):=by
 rw [aD rfl rfl];by_cases i0:i<0
 ·simp [oS,i0,gA i0]
 by_cases i1:(l.length:Int)<=i
 ·simp [oS,i0,i1,iK i1]
 obtain ⟨k,rfl⟩:∃k:Nat,i=k:=⟨i.toNat,by omega⟩;have hk:k<l.length:=by omega
 simp [oS,hk,Qf.2 hk,Xi.e]
def EP (p:Prg) (h:Int):List Fld:=((if h= -1 then some p.Xn else (at? p.Xo h).map (·.Xz))).getD []
theorem qyj (p:Prg) (h:Int):aB Φ uH [.agg (Prg.c p),a7 h]=some (.val (.slice 2 ((EP p h).map Fld.c))):=by
 rw [aD rfl rfl];by_cases hm:h= -1
 ·simp [oM,Prg.e,hm,EP]
 have ha:=Q0 p.Xo h;cases q:at? p.Xo h with
 | none=>
  rw [q] at ha;simp [oM,Prg.e,hm,EP,ha,q]
 | some x=>
  rw [q] at ha;simp only [Xi.e] at ha;simp [oM,Prg.e,hm,EP,ha,q]
theorem qx7 (p:Prg) (h i:Int):decl p h i=(at? (EP p h) i).map (·.Yc):=by
 unfold decl EP;cases (if h= -1 then some p.Xn else (at? p.Xo h).map (·.Xz)) with
 | some l=>rfl
 | none=>
  have:at? ([]:List Fld) i=none:=by unfold at?;split<;>simp
  simp [this]
theorem IG (p:Prg) (h i:Int):aB Φ g0 [.agg (Prg.c p),.agg [a7 h,a7 i]]=some (.val (a7 (wid p h i))):=by
 rw [aD rfl rfl];have hf:=qyj p h;have ha:=PZ (EP p h) i;have hd:=qx7 p h i;simp only [Prg.e] at hf;cases q:at? (EP p h) i with
 | none=>
  rw [q] at ha hd;have hm:=gE 0;rw [show cN 0=0 from rfl] at hm;simp [oE,Prg.e,hf,ha,hm,wid,hd]
 | some f=>
  rw [q] at ha hd;simp only [Fld.e] at ha;have hm:=gE f.Yc;cases w:wBad f.Yc with
  | true=>
   rw [show cN f.Yc=0 by simp [cN,w]] at hm;simp [oE,Prg.e,hf,ha,hm,wid,hd,w]
  | false=>
   have:¬cN f.Yc=0:=by
    obtain ⟨w1,w2⟩:=wBad_false.1 w;have:(2:Int)^1<=2^f.Yc.toNat:=by
     have:=QB (n:=2) (by omega) (show 1<=f.Yc.toNat by omega)
     exact_mod_cast this
    simp only [cN,w];simp;omega
   simp [oE,Prg.e,hf,ha,hm,wid,hd,w,this]
theorem qz0 (p:Prg) (h i:Int):0<=wid p h i/\wid p h i<=32:=by
 unfold wid;split
 ·rename_i w _;cases q:wBad w with
  | true=>simp
  | false=>have:=wBad_false.1 q;simp;omega
 ·simp
def keyG (p:Prg) (x:Tbl) (i:Nat):Option (Int×Int):=(x.keys[i]?).bind fun k=>
 if wid p k.field.header k.field.field=0 then some ((i:Int),8) else if k.kind=1\/k.kind=2\/k.kind=3 then none else some ((i:Int),11)
def GG (p:Prg) (x:Tbl):Int×Int:=if 1<x.keys.countP (fun k=>decide (k.kind=2)) then (-2,7) else if 64<(kWid p x).sum then (-2,10) else (0,0)
theorem Gs (p:Prg) (x:Tbl):∀i,i<=x.keys.length->0<=((kWid p x).take i).sum/\((kWid p x).take i).sum<=32*i:=by
 intro i
 induction i with
 | zero=>intro _;simp
 | succ i ih=>
  intro hi;have:=ih (by omega);have hl:i<(kWid p x).length:=by simp [kWid];omega
  rw [Qh hl,List.sum_append,M4];have hr:=qz0 p x.keys[i].field.header x.keys[i].field.field;have he:(kWid p x)[i]=wid p x.keys[i].field.header x.keys[i].field.field:=by simp [kWid]
  rw [he];omega
theorem RC (p:Prg) (x:Tbl) (hl:x.keys.length<2^40):aB Φ uA [.agg (Prg.c p),.agg (Tbl.c x)]=some (.val (.tup [a7 (A4 p x).1,a7 (A4 p x).2])):=by
 rw [aD rfl rfl];have hE:A4 p x=(fe (keyG p x) x.keys.length 0).getD (GG p x):=by
  unfold A4 keyE;show (match fe (keyG p x) x.keys.length 0 with | some e=>e | none=>GG p x)=_;cases fe (keyG p x) x.keys.length 0<;>rfl
 rw [hE];simp [C2,Prg.e,Tbl.e];refine eS x.keys.length (fun _=>[]) 0 (fun i e=>look 2 e=some (.iptr 9 [Prg.c p] 0 0)/\look 6 e=some (a7 ((x.keys.take i).countP fun k=>decide (k.kind=2):Nat))/\look 7 e=some (a7 ((kWid p x).take i).sum)/\look 12 e=some (.slice 3 (x.keys.map Xk.c))/\look 13 e=some (a7 x.keys.length)/\look 14 e=some (a7 i))
  (fun i=>some (Rt.val (.tup [a7 ((fe (keyG p x) x.keys.length i).getD (GG p x)).1,a7 ((fe (keyG p x) x.keys.length i).getD (GG p x)).2]))) ?_ ?_ 0 _ 0 (Qc _) (Qb _) ?_
 ·rintro i e n L hi hL _ ⟨h2,h6,h7,h12,h13,h14⟩ ih;have hw:=aQ i (by omega);have hv:=IG p x.keys[i].field.header x.keys[i].field.field;simp only [Prg.e] at hv;rw [Prg.e] at h2;by_cases z:wid p x.keys[i].field.header x.keys[i].field.field=0
  ·rw [z] at hv;rw [bT (x:=((i:Int),8)) hi (by simp [keyG,hi,z])];simp [c_238_l0,Xk.e,h2,h12,h13,h14,hi,hv]
  have hs:=Gs p x (i+1) (by omega);have hs0:=Gs p x i (by omega);have he:((kWid p x).take (i+1)).sum=((kWid p x).take i).sum+wid p x.keys[i].field.header x.keys[i].field.field:=by
   have hl:i<(kWid p x).length:=by simp [kWid];omega
   rw [Qh hl,List.sum_append,M4];congr 1;simp [kWid]
  have hw7:IntKind.wrap .i64 (((kWid p x).take i).sum+wid p x.keys[i].field.header x.keys[i].field.field)=((kWid p x).take (i+1)).sum:=by rw [<- he];exact cT (by omega) (by omega)
  have hc:(x.keys.take (i+1)).countP (fun k=>decide (k.kind=2))=(x.keys.take i).countP (fun k=>decide (k.kind=2))+if x.keys[i].kind=2 then 1 else 0:=by
   rw [Qh hi,List.countP_append];congr 1;simp [List.countP_cons]
  have hcl:(x.keys.take i).countP (fun k=>decide (k.kind=2))<=i:=by
   have:=List.countP_le_length (l:=x.keys.take i) (p:=fun k=>decide (k.kind=2));simp at this;omega
  have hw6:IntKind.wrap .i64 (((x.keys.take i).countP (fun k=>decide (k.kind=2)):Nat)+1:Int)=(((x.keys.take i).countP (fun k=>decide (k.kind=2))+1:Nat):Int):=cT (by omega) (by omega);by_cases k2:x.keys[i].kind=2
  ·rw [fJ hi (by simp [keyG,hi,z,k2])];rw [a8 k2] at hc;simp [c_238_l0,Xk.e,h2,h6,h7,h12,h13,h14,hi,hv,z,k2,hw7,hw6,hw];exact ih _ _ (Qc _) ⟨by simp [h2,Prg.e],by simp [hc],by simp,by simp [h12],by simp [h13],by simp⟩
  rw [QA k2] at hc;by_cases k1:x.keys[i].kind=1
  ·rw [fJ hi (by simp [keyG,hi,z,k1])];simp [c_238_l0,Xk.e,h2,h7,h12,h13,h14,hi,hv,z,k1,hw7,hw];exact ih _ _ (Qc _) ⟨by simp [h2,Prg.e],by simp [hc,h6],by simp,by simp [h12],by simp [h13],by simp⟩
  by_cases k3:x.keys[i].kind=3
  ·rw [fJ hi (by simp [keyG,hi,z,k3])];simp [c_238_l0,Xk.e,h2,h7,h12,h13,h14,hi,hv,z,k3,hw7,hw];exact ih _ _ (Qc _) ⟨by simp [h2,Prg.e],by simp [hc,h6],by simp,by simp [h12],by simp [h13],by simp⟩
  ·rw [bT (x:=((i:Int),11)) hi (by simp [keyG,hi,z,k1,k2,k3])];simp [c_238_l0,Xk.e,h2,h12,h13,h14,hi,hv,z,k1,k2,k3]
 ·rintro e n L hL _ ⟨h2,h6,h7,h12,h13,h14⟩;rw [gM];have ht:(kWid p x).take x.keys.length=kWid p x:=by rw [Qo];simp [kWid]
  rw [ht] at h7;rw [kW] at h6;by_cases y1:1<x.keys.countP (fun k=>decide (k.kind=2))
  ·simp [c_238_l0,c_238_k1,h6,h13,h14,hL,GG,y1]
  by_cases y2:64<(kWid p x).sum
  ·simp [c_238_l0,c_238_k1,h6,h7,h13,h14,hL,GG,y1,y2]
  ·simp [c_238_l0,c_238_k1,h6,h7,h13,h14,hL,GG,y1,y2]
 ·simp [Prg.e]
def ET (d:List Int) (k:Nat):Int:=d.getD (k / 8) 0 / 2^(7 - k % 8) % 2
def rdN (d:List Int) (i:Nat):Nat->Int
 | 0=>0
 | w+1=>2*rdN d i w+ET d (i+w)
def rdF (d:List Int):Nat->List Fld->List Int
 | _,[]=>[]
 | i,f::r=>rdN d i f.Yc.toNat::rdF d (i+f.Yc.toNat) r
def exH (p:Prg) (d:List Int) (x:Envt×Nat) (h:Int):Option (Envt×Nat):=match at? p.Xo h with
 | none=>none
 | some g=>if 8*d.length<x.2+(wSum g.Xz).toNat then none else
  some ({ x.1 with valid:=x.1.valid.set h.toNat true,Xz:=x.1.Xz.set h.toNat (rdF d x.2 g.Xz) },x.2+(wSum g.Xz).toNat)
def exHs (p:Prg) (d:List Int):List Int->Envt×Nat->Option (Envt×Nat)
 | [],x=>some x
 | h::r,x=>(exH p d x h).bind (exHs p d r)
def nxS (s:Xc) (e:Envt):Int:=if s.select then ((s.cases.find? fun c=>decide (iand .u32 (eGet e s.on.header s.on.field) c.Yd=c.value)).map (·.next)).getD s.Yb else s.Yb
def prF (p:Prg) (d:List Int):Nat->Int->Envt×Nat->Option Envt
 | 0,_,_=>none
 | n+1,s,x=>if s= -1 then some { x.1 with payload:=d.drop (x.2 / 8) } else match at? p.Xw s with
  | none=>none
  | some t=>(exHs p d t.extract x).bind fun y=>prF p d n (nxS t y.1) y
def prs (p:Prg) (d:List Int):Option Envt:=if 512<d.length then none else prF p d (p.Xw.length+1) 0 (eNew p,0)
def gP (v:Int):Nat->List Bool
 | 0=>[]
 | w+1=>decide (v / 2^w % 2=1)::gP v w
def nI:List Fld->List Int->List Bool
 | f::r,v::l=>gP v f.Yc.toNat++nI r l
 | _,_=>[]
def zZ (p:Prg) (e:Envt):List Bool:=(p.Xr.map fun h=>if (at? e.valid h).getD false then nI (((at? p.Xo h).map (·.Xz)).getD []) ((at? e.Xz h).getD []) else []).flatten
def b2i (b:Bool):Int:=if b then 1 else 0
def byt (l:List Bool):Int:=l.foldl (fun n b=>2*n+b2i b) 0
def byts:Nat->List Bool->List Int
 | 0,_=>[]
 | n+1,l=>byt (l.take 8)::byts n (l.drop 8)
def emi (p:Prg) (e:Envt):List Int:=byts ((zZ p e).length / 8) (zZ p e)++e.payload
end Go.Av
