/-
 The check of an expression: the program's answer.
-/
import Derived.Test.YtcehjengeaafpaaGreatK1
set_option linter.unusedVariables false
set_option linter.unusedSimpArgs false
set_option linter.constructorNameAsVariable false
namespace Go.Av
set_option maxRecDepth 4000
def chkR (r:Except Int (Int×Nat)) (x:Option Rt):Prop:=match r with
 | .error e=>e≠0/\∃a b,x=some (.val (.tup [.int .i64 a,.int .i64 b,.int .i64 e]))
 | .ok (w,j)=>x=some (.val (.tup [.int .i64 w,.int .i64 j,.int .i64 0]))
theorem Cb {w:Int} (h:(wide w).2=0):1<=(wide w).1/\(wide w).1<=32:=by
 unfold wide at h ⊢;cases q:wBad w with
 | true=>rw [q] at h;simp at h
 | false=>simp;exact wBad_false.1 q
theorem qxb {p:Prg} {ps:List Fld} {x:Xd} (h:(prim p ps x).2=0):1<=(prim p ps x).1/\(prim p ps x).1<=32:=by
 unfold prim at h ⊢;by_cases o1:x.op=1
 ·simp only [o1,if_true] at h ⊢;cases q:wBad x.w with
  | true=>rw [q] at h;simp at h
  | false=>
   rw [q] at h;by_cases r:x.n<0\/2^x.w.toNat - 1<x.n
   ·simp [r] at h
   ·simp [r];exact wBad_false.1 q
 by_cases o2:x.op=2
 ·simp only [o2,if_true] at h ⊢;cases q:decl p x.n x.w with
  | none=>rw [q] at h;simp at h
  | some w=>rw [q] at h;exact Cb h
 by_cases o3:x.op=3
 ·simp only [o3,if_true] at h ⊢;cases q:at? ps x.n with
  | none=>rw [q] at h;simp at h
  | some f=>rw [q] at h;exact Cb h
 simp only [o1,o2,o3,if_false] at h ⊢;cases q:(at? p.Xo x.n).isSome with
 | true=>simp
 | false=>rw [q] at h;simp at h
theorem Bo {x:Xd} {a b c:Int} (ha:1<=a/\a<=32) (hb:ari x.op=3\/x.op=14->1<=b/\b<=32) (h:(comb x a b c).2=0):1<=(comb x a b c).1/\(comb x a b c).1<=32:=by
 unfold comb at h ⊢;by_cases o6:x.op=6\/x.op=7
 ·simp only [a8 o6] at h ⊢;by_cases r:x.n<0\/31<x.n
  ·simp [r] at h
  ·simpa [r] using ha
 simp only [QA o6] at h ⊢;by_cases o8:x.op=8
 ·simp only [a8 o8] at h ⊢;by_cases r:x.n<0
  ·simp [r] at h
  simp only [QA r] at h ⊢;by_cases r2:wBad x.w\/a - x.w<x.n
  ·simp [r2] at h
  ·simp only [QA r2];have:wBad x.w=false:=by
    cases q:wBad x.w with
    | true=>exact absurd (.inl q) r2
    | false=>rfl
   exact wBad_false.1 this
 simp only [QA o8] at h ⊢;by_cases o14:x.op=14
 ·simp only [a8 o14] at h ⊢;exact Cb h
 simp only [QA o14] at h ⊢;by_cases o17:x.op=17
 ·simp only [a8 o17] at h ⊢;by_cases r:a≠1\/b≠c
  ·simp [r] at h
  ·simp only [QA r];exact hb (.inl (by simp [o17,ari]))
 simp only [QA o17] at h ⊢;by_cases r:ari x.op=2/\a≠b
 ·rw [a8 r] at h;simp at h
 simp only [QA r] at h ⊢;by_cases r2:x.op=15\/x.op=16
 ·simp [r2]
 ·simpa [r2] using ha
theorem E5 {p:Prg} {ps:List Fld} {l:List Xd}:∀{n i w j},chk p ps l n i= .ok (w,j)->(1<=w/\w<=32)/\i<j/\j<=l.length
 | 0,i,w,j,h=>by simp [chk] at h
 | n+1,i,w,j,h=>by
  simp only [chk] at h;cases hx:l[i]? with
  | none=>rw [hx] at h;simp at h
  | some x=>
   have hi:i<l.length:=by
    obtain ⟨hi,_⟩:=Qm.1 hx;exact hi
   rw [hx] at h;simp only at h;split at h
   ·cases h
   split at h
   ·split at h
    ·rename_i hp;cases h;exact ⟨qxb hp,by omega,by omega⟩
    ·cases h
   split at h
   ·cases h
   ·rename_i a i1 h1;obtain ⟨ra,r1,r2⟩:=E5 h1;split at h
    ·rename_i hk;split at h
     ·rename_i hc;cases h;refine ⟨Bo ra ?_ hc,by omega,r2⟩;intro hh;rcases hh with hh | hh
      ·omega
      ·rw [hh] at hk;simp [ari] at hk
     ·cases h
    split at h
    ·cases h
    ·rename_i b i2 h2;obtain ⟨rb,s1,s2⟩:=E5 h2;split at h
     ·split at h
      ·rename_i hc;cases h;exact ⟨Bo ra (fun _=>rb) hc,by omega,s2⟩
      ·cases h
     split at h
     ·cases h
     ·rename_i c i3 h3;obtain ⟨_,t1,t2⟩:=E5 h3;split at h
      ·rename_i hc;cases h;exact ⟨Bo ra (fun _=>rb) hc,by omega,t2⟩
      ·cases h
theorem Dc (w e:Int) (j:Nat):chkR (if e=0 then .ok (w,j) else .error e) (some (.val (.tup [a7 w,a7 j,a7 e]))):=by
 by_cases z:e=0
 ·subst z;simp [chkR]
 ·simp [chkR,z]
theorem qxx (op:Int):ari op= -1\/ari op=0\/ari op=1\/ari op=2\/ari op=3:=by
 unfold ari;split
 ·exact .inr (.inl rfl)
 split
 ·exact .inr (.inr (.inl rfl))
 split
 ·exact .inr (.inr (.inr (.inl rfl)))
 split
 ·exact .inr (.inr (.inr (.inr rfl)))
 ·exact .inl rfl
theorem KJ (p:Prg) (ps:List Fld) (l:List Xd) (hl:l.length<2^40):∀n i,l.length - i<n->i<=l.length->chkR (chk p ps l n i) (aB Φ qC [.agg (scC p ps),.slice 3 (l.map Xd.c),a7 (i:Nat)])
 | 0,i,h,hle=>by omega
 | n+1,i,h,hle=>by
  rw [aD rfl rfl];by_cases hi:i<l.length
  rotate_left
  ·have:i=l.length:=by omega
   subst this;simp [chk,chkR,fW,aV]
  have ih1:=KJ p ps l hl n (i+1) (by omega) (by omega);have hA:=Cz l[i].op;have hP:=Hj p ps l[i];have hw:IntKind.wrap .i64 ((i:Int)+1)=(i:Int)+1:=cM (by omega) (by omega);have e1:((i+1:Nat):Int)=(i:Int)+1:=by omega
  rw [e1] at ih1;simp only [aV,Xd.e] at ih1 hP;simp only [chk,Qa hi];rcases qxx l[i].op with k | k | k | k | k
  ·rw [k] at hA;simp [chkR,fW,aV,Xd.e,hi,Qf.2 hi,hA,k]
  ·rw [k] at hA;by_cases z:(prim p ps l[i]).2=0
   ·rw [z] at hP;simp [chkR,fW,aV,Xd.e,hi,Qf.2 hi,hA,k,hP,z,hw]
   ·simp [chkR,fW,aV,Xd.e,hi,Qf.2 hi,hA,k,hP,z,hw]
  ·rw [k] at hA;simp [fW,aV,Xd.e,hi,Qf.2 hi,hA,k,hw];rw [cL];cases h1:chk p ps l n (i+1) with
   | error e=>
    rw [h1] at ih1;obtain ⟨he,a,b,hc⟩:=ih1;simp [c_357_l0,chkR,hc,he]
   | ok q=>
    obtain ⟨a,i1⟩:=q;rw [h1] at ih1;obtain ⟨ra,r1,r2⟩:=E5 h1;have hC:=Bp l[i] a 0 0 (by omega) (by omega);simp only [Xd.e] at hC;simp only [chkR] at ih1;simp [c_357_l0,ih1];rw [cL];simp [wr1,c_357_k1,hi,Xd.e,hC];exact Dc _ _ _
  ·rw [k] at hA;simp [fW,aV,Xd.e,hi,Qf.2 hi,hA,k,hw];rw [cL];cases h1:chk p ps l n (i+1) with
   | error e=>
    rw [h1] at ih1;obtain ⟨he,a,b,hc⟩:=ih1;simp [c_357_l0,chkR,hc,he]
   | ok q=>
    obtain ⟨a,i1⟩:=q;rw [h1] at ih1;obtain ⟨ra,r1,r2⟩:=E5 h1;simp only [chkR] at ih1;simp [c_357_l0,ih1];rw [cL];have ih2:=KJ p ps l hl n i1 (by omega) (by omega);simp only [aV] at ih2;cases h2:chk p ps l n i1 with
    | error e=>
     rw [h2] at ih2;obtain ⟨he,x,y,hc⟩:=ih2;simp [chkR,hc,he,wr1]
    | ok q=>
     obtain ⟨b,i2⟩:=q;rw [h2] at ih2;obtain ⟨rb,s1,s2⟩:=E5 h2;simp only [chkR] at ih2;have hC:=Bp l[i] a b 0 (by omega) (by omega);simp only [Xd.e] at hC;simp [ih2,wr1];rw [cL];simp [wr2,c_357_k1,hi,Xd.e,hC];exact Dc _ _ _
  ·rw [k] at hA;simp [fW,aV,Xd.e,hi,Qf.2 hi,hA,k,hw];rw [cL];cases h1:chk p ps l n (i+1) with
   | error e=>
    rw [h1] at ih1;obtain ⟨he,a,b,hc⟩:=ih1;simp [c_357_l0,chkR,hc,he]
   | ok q=>
    obtain ⟨a,i1⟩:=q;rw [h1] at ih1;obtain ⟨ra,r1,r2⟩:=E5 h1;simp only [chkR] at ih1;simp [c_357_l0,ih1];rw [cL];have ih2:=KJ p ps l hl n i1 (by omega) (by omega);simp only [aV] at ih2;cases h2:chk p ps l n i1 with
    | error e=>
     rw [h2] at ih2;obtain ⟨he,x,y,hc⟩:=ih2;simp [chkR,hc,he,wr1]
    | ok q=>
     obtain ⟨b,i2⟩:=q;rw [h2] at ih2;obtain ⟨rb,s1,s2⟩:=E5 h2;simp only [chkR] at ih2;simp [ih2,wr1];rw [cL];have ih3:=KJ p ps l hl n i2 (by omega) (by omega);simp only [aV] at ih3;cases h3:chk p ps l n i2 with
     | error e=>
      rw [h3] at ih3;obtain ⟨he,x,y,hc⟩:=ih3;simp [chkR,hc,he,wr2]
     | ok q=>
      obtain ⟨c,i3⟩:=q;rw [h3] at ih3;simp only [chkR] at ih3;have hC:=Bp l[i] a b c (by omega) (by omega);simp only [Xd.e] at hC;simp [ih3,wr2];rw [cL];simp [wr3,c_357_k1,hi,Xd.e,hC];exact Dc _ _ _
theorem OL (p:Prg) (ps:List Fld) (l:List Xd):aB Φ jQ [.slice 3 (l.map Xd.c),.agg (scC p ps)]=some (.val (.tup [a7 (exE p ps l).1,a7 (exE p ps l).2])):=by
 rw [aD rfl rfl];by_cases h:24<l.length
 ·simp [lK,aV,h,exE]
 have hc:=KJ p ps l (by omega) (l.length+1) 0 (by omega) (by omega);simp only [aV,Int.ofNat_zero] at hc;cases q:chk p ps l (l.length+1) 0 with
 | error e=>
  rw [q] at hc;obtain ⟨he,a,b,hc⟩:=hc;simp [lK,aV,h,exE,q,hc,he]
 | ok r=>
  obtain ⟨w,j⟩:=r;rw [q] at hc;simp only [chkR] at hc;by_cases hj:j<l.length
  ·simp [lK,aV,h,exE,q,hc,hj]
  ·simp [lK,aV,h,exE,q,hc,hj]
def eGet (e:Envt) (h f:Int):Int:=if h= -1 then (at? e.metaF f).getD 0 else if (at? e.valid h).getD false then ((at? e.Xz h).bind fun l=>at? l f).getD 0 else 0
def eHas (e:Envt) (h f:Int):Bool:=if h= -1 then (at? e.metaF f).isSome else (at? e.valid h).getD false&&((at? e.Xz h).bind fun l=>at? l f).isSome
def ePut (h f:Int) (v:Int) (e:Envt):Envt:=
 if h= -1 then { e with metaF:=e.metaF.set f.toNat v } else { e with Xz:=e.Xz.set h.toNat ((e.Xz.getD h.toNat []).set f.toNat v) }
def eSet (p:Prg) (e:Envt) (h f v:Int):Envt:=if wid p h f=0\/eHas e h f=false then e else ePut h f (v % 2^(wid p h f).toNat) e
def eSw (e:Envt) (h:Nat) (b:Bool):Envt:={ e with valid:=e.valid.set h b,Xz:=e.Xz.set h ((e.Xz.getD h []).map fun _=>0) }
def eAdd (p:Prg) (e:Envt) (h:Int):Envt:=if (at? p.Xo h).isSome/\at? e.valid h=some false then eSw e h.toNat true else e
def eRem (p:Prg) (e:Envt) (h:Int):Envt:=if (at? p.Xo h).isSome/\(at? e.valid h).isSome then eSw e h.toNat false else e
def eNew (p:Prg):Envt:=⟨p.Xo.map fun _=>false,p.Xo.map fun h=>h.Xz.map fun _=>0,p.Xn.map fun _=>0,[]⟩
structure Shp (p:Prg) (e:Envt):Prop where
 v:e.valid.length=p.Xo.length
 f:e.Xz.length=p.Xo.length
 m:e.metaF.length=p.Xn.length
 g:∀i (h1:i<e.Xz.length) (h2:i<p.Xo.length),e.Xz[i].length=p.Xo[i].Xz.length
def xLd (e:Envt) (args:List Int) (x:Xd) (w:Int):Int:=
 (if x.op=1 then x.n else if x.op=2 then eGet e x.n x.w else if x.op=3 then (at? args x.n).getD 0 else if (at? e.valid x.n).getD false then 1 else 0) % 2^w.toNat
def xUn (x:Xd) (a w:Int):Int:=
 if x.op=5 then 2^w.toNat - 1 - a else if x.op=6 then a*2^x.n.toNat % 2^w.toNat else if x.op=7 then a / 2^x.n.toNat else a / 2^x.n.toNat % 2^x.w.toNat
def xBin (op a b w u:Int):Int:=
 if op=9 then (a+b) % 2^w.toNat else if op=10 then (a - b) % 2^w.toNat else if op=11 then iand .u32 a b else if op=12 then ior .u32 a b else if op=13 then ixor .u32 a b
 else if op=14 then a*2^u.toNat+b else if op=15 then (if a=b then 1 else 0) else if a<b then 1 else 0
def evx (p:Prg) (ps:List Fld) (l:List Xd) (e:Envt) (args:List Int):Nat->Nat->Int×Int×Nat
 | 0,i=>(0,0,i)
 | n+1,i=>match l[i]? with
  | none=>(0,0,i)
  | some x=>
   if ari x.op=0 then (xLd e args x (prim p ps x).1,(prim p ps x).1,i+1)
   else
    let a:=evx p ps l e args n (i+1)
    if ari x.op=1 then (xUn x a.1 a.2.1,(comb x a.2.1 0 0).1,a.2.2)
    else
     let b:=evx p ps l e args n a.2.2
     if ari x.op=2 then (xBin x.op a.1 b.1 a.2.1 b.2.1,(comb x a.2.1 b.2.1 0).1,b.2.2)
     else
      let c:=evx p ps l e args n b.2.2
      (if a.1=1 then b.1 else c.1,(comb x a.2.1 b.2.1 c.2.1).1,c.2.2)
def evl (p:Prg) (ps:List Fld) (l:List Xd) (e:Envt) (args:List Int):Int:=if (exE p ps l).2=0 then (evx p ps l e args (l.length+1) 0).1 else 0
def rGet (p:Prg) (rs:List (List Int)) (r i:Int):Int:=match at? p.Xl r,at? rs r with
 | some g,some l=>if i<g.size then (at? l i).getD 0 else 0
 | _,_=>0
def rSet (p:Prg) (rs:List (List Int)) (r i v:Int):List (List Int):=match at? p.Xl r,at? rs r with
 | some g,some l=>if i<g.size/\wBad g.Yc=false then rs.set r.toNat (l.set i.toNat (v % 2^g.Yc.toNat)) else rs
 | _,_=>rs
def stmX (p:Prg) (ps:List Fld) (args:List Int) (x:Envt×List (List Int)) (s:Xf):Envt×List (List Int):=
 if s.kind=1 then (eSet p x.1 s.dst.header s.dst.field (evl p ps s.value x.1 args),x.2)
 else if s.kind=2 then (eAdd p x.1 s.header,x.2)
 else if s.kind=3 then (eRem p x.1 s.header,x.2)
 else if s.kind=4 then (eSet p x.1 s.dst.header s.dst.field (rGet p x.2 s.Ye (evl p ps s.index x.1 args)),x.2)
 else (x.1,rSet p x.2 s.Ye (evl p ps s.index x.1 args) (evl p ps s.value x.1 args))
def exeX (p:Prg) (c:Xb) (e:Envt) (rs:List (List Int)):Envt×List (List Int):=match at? p.Xx c.Xy with
 | none=>(e,rs)
 | some a=>a.body.foldl (stmX p a.params c.args) (e,rs)
theorem EX {n:Int} (h1:0<=n) (h2:n<4294967296):IntKind.wrap .u32 n=n:=by
 have e1:(2:Int)^32=4294967296:=rfl;simp only [IntKind.wrap,IntKind.bits,IntKind.signed,J6,e1];rw [QA (by simp)];omega
theorem Z9 {v:Int} (h:ok32 0 v):BitVec.ofInt 32 v=BitVec.ofNat 32 v.toNat:=by
 obtain ⟨h1,h2⟩:=h;apply BitVec.eq_of_toNat_eq;simp;omega
theorem GH {v:Int} (h:ok32 0 v):(BitVec.ofInt 32 v).toNat=v.toNat:=by
 rw [Z9 h,MG,J2 (by have:=h.1;have:=h.2;omega)]
theorem NL {v m:Int} (hv:ok32 0 v) (hm:ok32 0 m):iand .u32 v m=((v.toNat&&& m.toNat:Nat):Int):=by
 unfold iand;show IntKind.wrap .u32 ((BitVec.ofInt 32 v&&& BitVec.ofInt 32 m).toNat:Int)=_;have hlt:=(BitVec.ofInt 32 v&&& BitVec.ofInt 32 m).isLt;rw [EX (by omega) (by omega),BitVec.toNat_and,GH hv,GH hm]
theorem Dr {v m:Int} (hv:ok32 0 v) (hm:ok32 0 m):ior .u32 v m=((v.toNat ||| m.toNat:Nat):Int):=by
 unfold ior;show IntKind.wrap .u32 ((BitVec.ofInt 32 v ||| BitVec.ofInt 32 m).toNat:Int)=_;have hlt:=(BitVec.ofInt 32 v ||| BitVec.ofInt 32 m).isLt;rw [EX (by omega) (by omega),BitVec.toNat_or,GH hv,GH hm]
theorem Ks {v m:Int} (hv:ok32 0 v) (hm:ok32 0 m):ixor .u32 v m=((v.toNat^^^m.toNat:Nat):Int):=by
 unfold ixor;show IntKind.wrap .u32 ((BitVec.ofInt 32 v^^^BitVec.ofInt 32 m).toNat:Int)=_;have hlt:=(BitVec.ofInt 32 v^^^BitVec.ofInt 32 m).isLt;rw [EX (by omega) (by omega),BitVec.toNat_xor,GH hv,GH hm]
theorem nE (k:Nat):((2^k:Nat):Int)=2^k:=by rw [Int.natCast_pow];rfl
theorem Fs {k:Nat} (h:k<=32):(2:Int)^k<=4294967296:=by
 have:=B6 (n:=2) (by decide) h;rw [<- nE];have e:(2:Nat)^32=4294967296:=by decide
 omega
theorem Im {v:Int} (hv:ok32 0 v) {k:Nat} (hk:k<=32):iand .u32 v (2^k - 1)=v % 2^k:=by
 have h1:=Fs hk;have h0:(0:Int)<2^k:=sC (by decide);have hm:ok32 0 ((2:Int)^k - 1):=⟨by omega,by omega⟩;have e:((2:Int)^k - 1).toNat=2^k - 1:=by have:=nE k;omega
 rw [NL hv hm,e,Nat.and_two_pow_sub_one_eq_mod,Int.natCast_emod,nE,MB hv.1]
theorem I5 {v:Int} {k:Nat} (h0:0<=v):v<2^k↔v.toNat<2^k:=by
 have:=nE k;omega
theorem iY {v:Int} {k:Nat} (h:0<=v/\v<2^k) (hk:k<=32):ok32 0 v:=⟨h.1,by have:=Fs hk;omega⟩
theorem RT {a b:Int} {k:Nat} (hk:k<=32) (ha:0<=a/\a<2^k) (hb:0<=b/\b<2^k):0<=iand .u32 a b/\iand .u32 a b<2^k:=by
 rw [NL (iY ha hk) (iY hb hk)];have:=Nat.and_lt_two_pow a.toNat ((I5 hb.1).1 hb.2);have e:=nE k;omega
theorem VO {a b:Int} {k:Nat} (hk:k<=32) (ha:0<=a/\a<2^k) (hb:0<=b/\b<2^k):0<=ior .u32 a b/\ior .u32 a b<2^k:=by
 rw [Dr (iY ha hk) (iY hb hk)];have:=Nat.or_lt_two_pow ((I5 ha.1).1 ha.2) ((I5 hb.1).1 hb.2);have e:=nE k;omega
theorem Kr {a b:Int} {k:Nat} (hk:k<=32) (ha:0<=a/\a<2^k) (hb:0<=b/\b<2^k):0<=ixor .u32 a b/\ixor .u32 a b<2^k:=by
 rw [Ks (iY ha hk) (iY hb hk)];have:=Nat.xor_lt_two_pow ((I5 ha.1).1 ha.2) ((I5 hb.1).1 hb.2);have e:=nE k;omega
theorem KN (v:Int) (n:Nat):0<=v % 2^n/\v % 2^n<2^n:=⟨Int.emod_nonneg _ (Int.ne_of_gt (sC (by decide))),Int.emod_lt_of_pos _ (sC (by decide))⟩
theorem Ea {a:Int} {k:Nat} (ha:0<=a/\a<2^k) (n:Nat):0<=a / 2^n/\a / 2^n<2^k:=by
 have h0:(0:Int)<2^n:=sC (by decide);refine ⟨Int.ediv_nonneg ha.1 (BB h0),?_⟩;have:=Int.ediv_le_self (2^n) ha.1;omega
theorem Mf {a b:Int} {k n:Nat} (ha:0<=a/\a<2^k) (hb:0<=b/\b<2^n):0<=a*2^n+b/\a*2^n+b<2^(k+n):=by
 have h0:(0:Int)<2^n:=sC (by decide);have h1:=Int.mul_nonneg ha.1 (BB h0);have h2:(a+1)*2^n<=2^k*2^n:=Int.mul_le_mul_of_nonneg_right (by omega) (BB h0);rw [Int.add_mul,Int.one_mul] at h2;rw [Int.pow_add];omega
theorem AC {w:Int} (h:wBad w=false):1<=w/\w<=32:=by
 simp only [wBad,F4,decide_eq_false_iff_not] at h;omega
theorem IQ {w:Int} (h:(wide w).2=0):(wide w).1=w/\1<=w/\w<=32:=by
 unfold wide at*;cases q:wBad w with
 | true=>rw [q] at h;simp at h
 | false=>simp;exact AC q
theorem Ff {p:Prg} {ps:List Fld} {x:Xd} (h:(prim p ps x).2=0):1<=(prim p ps x).1/\(prim p ps x).1<=32:=by
 unfold prim at*;split
 ·rename_i c;rw [a8 c] at h;split
  ·rename_i c2;rw [a8 c2] at h;cases h
  ·rename_i c2;rw [QA c2] at h;split
   ·rename_i c3;rw [a8 c3] at h;cases h
   ·exact AC (by simpa using c2)
 rename_i c;rw [QA c] at h;split
 ·rename_i c;rw [a8 c] at h;split
  ·rename_i w q;rw [q] at h;have:=IQ h;omega
  ·rename_i q;rw [q] at h;cases h
 rename_i c;rw [QA c] at h;split
 ·rename_i c;rw [a8 c] at h;split
  ·rename_i w q;rw [q] at h;have:=IQ h;omega
  ·rename_i q;rw [q] at h;cases h
 rename_i c;rw [QA c] at h;split
 ·simp
 ·rename_i q;rw [QA q] at h;cases h
def fitW (v w:Int):Prop:=1<=w/\w<=32/\0<=v/\v<2^w.toNat
theorem Lz {o:Int} (h:ari o=1):o=5\/o=6\/o=7\/o=8:=by
 unfold ari at h;split at h
 ·cases h
 split at h
 ·omega
 split at h
 ·cases h
 split at h<;>cases h
theorem Ma {o:Int} (h:ari o=2):9<=o/\o<=16:=by
 unfold ari at h;split at h
 ·cases h
 split at h
 ·cases h
 split at h
 ·assumption
 split at h<;>cases h
theorem Mb {o:Int} (h0:¬ari o<0) (h:¬ari o=0) (h1:¬ari o=1) (h2:¬ari o=2):o=17:=by
 unfold ari at h0 h h1 h2;split at h
 ·exact absurd rfl h
 rename_i q1;rw [QA q1] at h0 h1 h2;split at h1
 ·exact absurd rfl h1
 rename_i q2;rw [QA q2] at h0 h2;split at h2
 ·exact absurd rfl h2
 rename_i q3;rw [QA q3] at h0;split at h0
 ·assumption
 ·exact absurd (by decide) h0
theorem Aq {x:Xd} {a w:Int} (hx:ari x.op=1) (ha:fitW a w) (h:(comb x w 0 0).2=0):fitW (xUn x a w) (comb x w 0 0).1:=by
 obtain ⟨w1,w2,a1⟩:=ha;have hp:(0:Int)<2^w.toNat:=sC (by decide);rcases Lz hx with o | o | o | o
 ·have e:comb x w 0 0=(w,0):=by simp [comb,o,ari]
  rw [e];simp only [xUn,o,if_true];exact ⟨w1,w2,by omega⟩
 ·have e:(comb x w 0 0).1=w:=by
   unfold comb at*;rw [a8 (by omega)] at h ⊢;split
   ·rename_i c;rw [a8 c] at h;cases h
   ·rfl
  rw [e];simp only [xUn,o,if_true];rw [QA (by decide)];exact ⟨w1,w2,KN _ _⟩
 ·have e:(comb x w 0 0).1=w:=by
   unfold comb at*;rw [a8 (by omega)] at h ⊢;split
   ·rename_i c;rw [a8 c] at h;cases h
   ·rfl
  rw [e];simp only [xUn,o,if_true];rw [QA (by decide),QA (by decide)];exact ⟨w1,w2,Ea a1 _⟩
 ·have e:(comb x w 0 0).1=x.w/\1<=x.w/\x.w<=32:=by
   unfold comb at*;rw [QA (by omega),a8 o] at h ⊢;split
   ·rename_i c;rw [a8 c] at h;cases h
   rename_i c;rw [QA c] at h;split
   ·rename_i c;rw [a8 c] at h;cases h
   ·rename_i c;simp only [not_or,QD] at c;exact ⟨rfl,AC c.1⟩
  rw [e.1];simp only [xUn,o];rw [QA (by decide),QA (by decide),QA (by decide)];exact ⟨e.2.1,e.2.2,KN _ _⟩
theorem TM {x:Xd} {a b w u:Int} (hx:ari x.op=2) (ha:fitW a w) (hb:fitW b u) (h:(comb x w u 0).2=0):fitW (xBin x.op a b w u) (comb x w u 0).1:=by
 obtain ⟨w1,w2,a1⟩:=ha;obtain ⟨u1,u2,b1⟩:=hb;have o:=Ma hx;by_cases o14:x.op=14
 ·have e:(comb x w u 0).1=w+u/\1<=w+u/\w+u<=32:=by
   unfold comb at*;rw [QA (by omega),QA (by omega),a8 o14] at h ⊢;exact IQ h
  rw [e.1];simp only [xBin,o14];refine ⟨e.2.1,e.2.2,?_⟩;have:=Mf a1 b1;rw [show (w+u).toNat=w.toNat+u.toNat by omega];simpa using this
 have e:w=u/\(comb x w u 0).1=if x.op=15\/x.op=16 then 1 else w:=by
  unfold comb at*;rw [QA (by omega),QA (by omega),QA o14,QA (by omega)] at h ⊢;split
  ·rename_i c;rw [a8 c] at h;cases h
  ·rename_i c;refine ⟨Decidable.byContradiction fun q=>c ⟨hx,q⟩,?_⟩;split<;>rfl
 obtain ⟨rfl,e⟩:=e;rw [e];have k:w.toNat<=32:=by omega
 by_cases o15:x.op=15
 ·simp only [xBin,o15,true_or,if_true];refine ⟨by decide,by decide,?_⟩;simp;split<;>simp
 by_cases o16:x.op=16
 ·simp only [xBin,o16,or_true,if_true];refine ⟨by decide,by decide,?_⟩;simp;split<;>simp
 rw [QA (by omega)];refine ⟨w1,w2,?_⟩;unfold xBin;split
 ·exact KN _ _
 split
 ·exact KN _ _
 split
 ·exact RT k a1 b1
 split
 ·exact VO k a1 b1
 split
 ·exact Kr k a1 b1
 ·omega
theorem YE {x:Xd} {a b c w u v:Int} (hx:x.op=17) (hb:fitW b u) (hc:fitW c v) (h:(comb x w u v).2=0):fitW (if a=1 then b else c) (comb x w u v).1:=by
 have e:u=v/\(comb x w u v).1=u:=by
  unfold comb at*;rw [QA (by omega),QA (by omega),QA (by omega),a8 hx] at h ⊢;split
  ·rename_i q;rw [a8 q] at h;cases h
  ·rename_i q;exact ⟨by omega,rfl⟩
 obtain ⟨rfl,e⟩:=e;rw [e];split
 ·exact hb
 ·exact hc
theorem GK (p:Prg) (ps:List Fld) (l:List Xd) (e:Envt) (args:List Int):∀(n i:Nat) (w:Int) (j:Nat),chk p ps l n i= .ok (w,j)->(evx p ps l e args n i).2=(w,j)/\fitW (evx p ps l e args n i).1 w
 | 0,i,w,j,h=>by cases h
 | n+1,i,w,j,h=>by
  simp only [chk] at h;simp only [evx];cases hx:l[i]? with
  | none=>rw [hx] at h;cases h
  | some x=>
   rw [hx] at h;simp only at h ⊢;split at h
   ·cases h
   rename_i h0;split at h
   ·rename_i k0;rw [a8 k0];split at h
    ·rename_i k1;cases h;exact ⟨rfl,(Ff k1).1,(Ff k1).2,KN _ _⟩
    ·cases h
   rename_i k0;rw [QA k0];split at h
   ·cases h
   rename_i a i1 h1;obtain ⟨e1,f1⟩:=GK p ps l e args n (i+1) a i1 h1;rw [e1];split at h
   ·rename_i k1;rw [a8 k1];split at h
    ·rename_i k2;cases h;exact ⟨rfl,Aq k1 f1 k2⟩
    ·cases h
   rename_i k1;rw [QA k1];split at h
   ·cases h
   rename_i b i2 h2;obtain ⟨e2,f2⟩:=GK p ps l e args n i1 b i2 h2;rw [e2];split at h
   ·rename_i k2;rw [a8 k2];split at h
    ·rename_i k3;cases h;exact ⟨rfl,TM k2 f1 f2 k3⟩
    ·cases h
   rename_i k2;rw [QA k2];split at h
   ·cases h
   rename_i c i3 h3;obtain ⟨e3,f3⟩:=GK p ps l e args n i2 c i3 h3;rw [e3];split at h
   ·rename_i k3;cases h;exact ⟨rfl,YE (Mb h0 k0 k1 k2) f2 f3 k3⟩
   ·cases h
theorem L4 (p:Prg) (ps:List Fld) (l:List Xd):∀(n i:Nat) (x:Int),chk p ps l n i= .error x->x≠0
 | 0,i,x,h=>by cases h;decide
 | n+1,i,x,h=>by
  simp only [chk] at h;split at h
  ·cases h;decide
  split at h
  ·cases h;decide
  split at h
  ·split at h
   ·cases h
   ·cases h;assumption
  split at h
  ·rename_i q;cases h;exact L4 p ps l n _ _ q
  split at h
  ·split at h
   ·cases h
   ·cases h;assumption
  split at h
  ·rename_i q;cases h;exact L4 p ps l n _ _ q
  split at h
  ·split at h
   ·cases h
   ·cases h;assumption
  split at h
  ·rename_i q;cases h;exact L4 p ps l n _ _ q
  split at h
  ·cases h
  ·cases h;assumption
theorem VB (p:Prg) (ps:List Fld) (l:List Xd) (e:Envt) (args:List Int) (h:(exE p ps l).2=0):fitW (evl p ps l e args) (exE p ps l).1:=by
 unfold evl;rw [a8 h];unfold exE at*;split at h
 ·cases h
 rename_i q;rw [QA q];split at h
 ·rename_i er q2;exact absurd h (L4 p ps l _ _ _ q2)
 ·rename_i w i q2;split at h
  ·cases h
  ·rename_i q3;rw [QA q3];exact (GK p ps l e args _ _ _ _ q2).2
theorem OK (p:Prg) (ps:List Fld) (l:List Xd) (e:Envt) (args:List Int):ok32 0 (evl p ps l e args):=by
 by_cases h:(exE p ps l).2=0
 ·obtain ⟨h1,h2,h3⟩:=VB p ps l e args h;exact iY h3 (by omega)
 ·unfold evl;rw [QA h];exact ⟨Int.le_refl _,by decide⟩
theorem wrapE (n:Int):IntKind.wrap .u32 n=n % 2^32:=by
 simp [IntKind.wrap,IntKind.bits,IntKind.signed]
theorem ZI {k n:Nat} (h:k<=n):(2:Int)^k∣2^n:=⟨2^(n - k),by rw [<- Int.pow_add];congr 1;omega⟩
theorem Cw (n:Int) {k:Nat} (h:k<=32):IntKind.wrap .u32 n % 2^k=n % 2^k:=by
 rw [wrapE,Int.emod_emod_of_dvd _ (ZI h)]
theorem Er (n:Int):ok32 0 (IntKind.wrap .u32 n):=by
 rw [wrapE];exact ⟨Int.emod_nonneg _ (by decide),by have:=Int.emod_lt_of_pos n (show (0:Int)<2^32 by decide);omega⟩
theorem KT {w:Int} (h1:1<=w) (h2:w<=32):cP w=2^w.toNat - 1:=by
 have:wBad w=false:=by simp [wBad];omega
 simp [cP,this]
theorem nB {v w:Int} (hv:ok32 0 v) (h1:1<=w) (h2:w<=32):iand .u32 v (cP w)=v % 2^w.toNat:=by
 rw [KT h1 h2,Im hv (by omega)]
theorem VN {v:Int} (hv:ok32 0 v):inot .u32 v=4294967295 - v:=by
 have h1:=hv.1;have h2:=hv.2;unfold inot;show IntKind.wrap .u32 ((BitVec.ofInt 32 (if IntKind.signed .u32=true then -1 else IntKind.max .u32)^^^BitVec.ofInt 32 v).toNat:Int)=_;have e:BitVec.ofInt 32 (if IntKind.signed .u32=true then -1 else IntKind.max .u32)=BitVec.allOnes 32:=by decide
 rw [e,BitVec.allOnes_xor,BitVec.toNat_not,GH hv];rw [EX (by omega) (by omega)];omega
theorem UE {a b w:Int} (h1:1<=w) (h2:w<=32):aB Φ vN [.int .u32 a,.int .u32 b,a7 w]=some (.val (.int .u32 ((a+b) % 2^w.toNat))):=by
 rw [aD rfl rfl];have h:=nB (Er (a+b)) h1 h2;rw [Cw _ (by omega)] at h;simp [DK,gH,h]
theorem TJ {a b w:Int} (h1:1<=w) (h2:w<=32):aB Φ vO [.int .u32 a,.int .u32 b,a7 w]=some (.val (.int .u32 ((a - b) % 2^w.toNat))):=by
 rw [aD rfl rfl];have h:=nB (Er (a - b)) h1 h2;rw [Cw _ (by omega)] at h;simp [DL,gH,h]
theorem TG {a w:Int} (h:fitW a w):aB Φ vJ [.int .u32 a,a7 w]=some (.val (.int .u32 (2^w.toNat - 1 - a))):=by
 rw [aD rfl rfl];obtain ⟨h1,h2,h3⟩:=h;have ho:=iY h3 (show w.toNat<=32 by omega);have hn:ok32 0 (4294967295 - a):=⟨by have:=ho.2;omega,by have:=ho.1;omega⟩;have h:=nB hn h1 h2;have e:(4294967295 - a) % 2^w.toNat=2^w.toNat - 1 - a:=by
  have e1:(4294967296:Int)=2^w.toNat*2^(32 - w.toNat):=by
   rw [<- Int.pow_add,show w.toNat+(32 - w.toNat)=32 by omega];rfl
  have e2:4294967295 - a=(2^w.toNat - 1 - a)+2^w.toNat*(2^(32 - w.toNat) - 1):=by
   rw [Int.mul_sub,<- e1];omega
  rw [e2,Int.add_mul_emod_self_left];exact J1 (by omega) (by omega)
 rw [e] at h;simp [DG,gH,VN ho,h]
theorem TH {a n w:Int} (h1:1<=w) (h2:w<=32) (h3:0<=n) (h4:n<=31):aB Φ vK [.int .u32 a,a7 n,a7 w]=some (.val (.int .u32 (a*2^n.toNat % 2^w.toNat))):=by
 rw [aD rfl rfl];have e:ishl .u32 a n=IntKind.wrap .u32 (a*2^n.toNat):=by
  unfold ishl;rw [show min n.toNat (IntKind.bits .u32)=n.toNat by simp [IntKind.bits];omega]
 have h:=nB (Er (a*2^n.toNat)) h1 h2;rw [Cw _ (by omega)] at h;have hn:¬n<0:=by omega
 simp [DH,gH,hn,h3,e,h]
theorem Ds {a n:Int} (ha:0<=a) (h3:0<=n) (h4:n<=32):ishr .u32 a n=a / 2^n.toNat:=by
 unfold ishr;rw [show min n.toNat (IntKind.bits .u32)=n.toNat by simp [IntKind.bits];omega];exact Int.fdiv_eq_ediv_of_nonneg _ (BB (sC (by decide)))
theorem TI {a n w:Int} (h:fitW a w) (h3:0<=n) (h4:n<=31):aB Φ vL [.int .u32 a,a7 n,a7 w]=some (.val (.int .u32 (a / 2^n.toNat))):=by
 rw [aD rfl rfl];obtain ⟨h1,h2,h5⟩:=h;have ho:=iY h5 (show w.toNat<=32 by omega);have h:=nB ho h1 h2;rw [J1 h5.1 h5.2] at h;have hn:¬n<0:=by omega
 simp [DI,gH,hn,h3,h,Ds h5.1 h3 (by omega)]
theorem qv6 (w:Int):aB Φ eE [.slice 1 [[a7 w]]]=some (.val (.bool (!wBad w))):=by
 rw [aD rfl rfl];simp [jF];rw [cL];by_cases h1:w<1
 ·simp [c_263_l0,h1,wBad]
 by_cases h2:32<w
 ·simp [c_263_l0,h1,h2,wBad]
 have w1:IntKind.wrap .i64 1=1:=rfl;simp [c_263_l0,h1,h2,wBad,w1];rw [cL];simp [c_263_l0,c_263_k1]
theorem qv7 (w u:Int):aB Φ eE [.slice 1 [[a7 w],[a7 u]]]=some (.val (.bool (!wBad w&& !wBad u))):=by
 rw [aD rfl rfl];have w1:IntKind.wrap .i64 1=1:=rfl;have w2:IntKind.wrap .i64 2=2:=rfl;simp [jF];rw [cL];by_cases h1:w<1
 ·simp [c_263_l0,h1,wBad]
 by_cases h2:32<w
 ·simp [c_263_l0,h1,h2,wBad]
 simp [c_263_l0,h1,h2,wBad,w1];rw [cL];by_cases h3:u<1
 ·simp [c_263_l0,h3,wBad]
 by_cases h4:32<u
 ·simp [c_263_l0,h3,h4,wBad]
 simp [c_263_l0,h3,h4,wBad,w2];rw [cL];simp [c_263_l0,c_263_k1]
theorem qx1 {a n u:Int} (ha:ok32 0 a) (h1:1<=u) (h2:u<=32) (h3:0<=n) (h4:n+u<=32):aB Φ vM [.int .u32 a,a7 n,a7 u]=some (.val (.int .u32 (a / 2^n.toNat % 2^u.toNat))):=by
 rw [aD rfl rfl];have hb:wBad u=false:=by simp [wBad];omega
 have hv:=qv6 u;rw [hb] at hv;have hd:=Ea (k:=32) (a:=a) ⟨ha.1,by have:=ha.2;omega⟩ n.toNat;have h:=nB (iY hd (Qb _)) h1 h2;have hn:¬n<0:=by omega
 have hw:IntKind.wrap .i64 (32 - u)=32 - u:=cM (by omega) (by omega);have hg:¬32 - u<n:=by omega
 simp [DJ,gH,hv,hn,h3,hw,hg,h,Ds ha.1 h3 (by omega)]
theorem TF {a w b u:Int} (ha:fitW a w) (hb:fitW b u) (h:w+u<=32):aB Φ vP [.int .u32 a,a7 w,.int .u32 b,a7 u]=some (.val (.tup [.int .u32 (a*2^u.toNat+b),.bool true])):=by
 rw [aD rfl rfl];obtain ⟨w1,w2,a1⟩:=ha;obtain ⟨u1,u2,b1⟩:=hb;have q1:wBad w=false:=by simp [wBad];omega
 have q2:wBad u=false:=by simp [wBad];omega
 have hv:=qv7 w u;rw [q1,q2] at hv;have ha:=nB (iY a1 (show w.toNat<=32 by omega)) w1 w2;have hb:=nB (iY b1 (show u.toNat<=32 by omega)) u1 u2;rw [J1 a1.1 a1.2] at ha;rw [J1 b1.1 b1.2] at hb;have hc:=Mf a1 b1;rw [<- show (w+u).toNat=w.toNat+u.toNat by omega] at hc;have hc2:=iY hc (show (w+u).toNat<=32 by omega);have hs:ishl .u32 a u=a*2^u.toNat:=by
  unfold ishl;rw [show min u.toNat (IntKind.bits .u32)=u.toNat by simp [IntKind.bits];omega];have:=Int.mul_nonneg a1.1 (BB ((sC (by decide):(0:Int)<2^u.toNat)));exact EX this (by have:=hc2.2;omega)
 have ho:ior .u32 (a*2^u.toNat) b=a*2^u.toNat+b:=by
  have hm:=Int.mul_nonneg a1.1 (BB ((sC (by decide):(0:Int)<2^u.toNat)));rw [Dr ⟨hm,by have:=hc2.2;omega⟩ (iY b1 (by omega))];have e1:(a*2^u.toNat).toNat=2^u.toNat*a.toNat:=by
   have e:a*2^u.toNat=((2^u.toNat*a.toNat:Nat):Int):=by
    rw [Int.natCast_mul,nE,MB a1.1,Int.mul_comm]
   rw [e,B7]
  rw [e1,<- Nat.two_pow_add_eq_or_of_lt ((I5 b1.1).1 b1.2)];rw [Int.natCast_add,Int.natCast_mul,nE,MB a1.1,MB b1.1,Int.mul_comm]
 have hw:IntKind.wrap .i64 (w+u)=w+u:=cM (by omega) (by omega);have hg:¬32<w+u:=by omega
 have hu:0<=u:=by omega
 simp [DM,gH,hv,hw,hg,ha,hb,hs,ho,hu]
theorem FieldRef.e (x:FieldRef):FieldRef.c x=[a7 x.header,a7 x.field]:=by simp [FieldRef.c]
theorem TR (p:Prg) (h i:Int):aB Φ qD [.agg (Prg.c p),.agg [a7 h,a7 i]]=some (.val (match decl p h i with
  | some w=> .tup [.int .i64 w,.bool true]
  | none=> .tup [.int .i64 0,.bool false])):=by
 rw [aD rfl rfl,Dz];by_cases hm:h= -1
 ·subst hm;by_cases i0:i<0
  ·rw [show dJ p (-1) i=none by simp [dJ,gC i0]];simp [eV,Prg.e,i0]
  by_cases i1:(p.Xn.length:Int)<=i
  ·rw [show dJ p (-1) i=none by simp [dJ,iJ i1]];simp [eV,Prg.e,i0,i1]
  obtain ⟨k,rfl⟩:∃k:Nat,i=k:=⟨i.toNat,by omega⟩;have hk:k<p.Xn.length:=by omega
  rw [show dJ p (-1) k=some p.Xn[k] by simp [dJ,hk]];simp [eV,Prg.e,i0,i1,hk,Fld.e]
 by_cases h0:h<0
 ·rw [show dJ p h i=none by simp [dJ,hm,gC h0]];simp [eV,Prg.e,hm,h0]
 by_cases h1:(p.Xo.length:Int)<=h
 ·rw [show dJ p h i=none by simp [dJ,hm,iJ h1]];simp [eV,Prg.e,hm,h0,h1]
 obtain ⟨m,rfl⟩:∃k:Nat,h=k:=⟨h.toNat,by omega⟩;have hk:m<p.Xo.length:=by omega
 by_cases i0:i<0
 ·rw [show dJ p m i=none by simp [dJ,hm,hk,gC i0]];simp [eV,Prg.e,hm,hk,Qf.2 hk,i0,Xi.e]
 by_cases i1:(p.Xo[m].Xz.length:Int)<=i
 ·rw [show dJ p m i=none by simp [dJ,hm,hk,iJ i1]];simp [eV,Prg.e,hm,hk,Qf.2 hk,i0,i1,Xi.e]
 obtain ⟨k,rfl⟩:∃k:Nat,i=k:=⟨i.toNat,by omega⟩;have hk2:k<p.Xo[m].Xz.length:=by omega
 rw [show dJ p m k=some p.Xo[m].Xz[k] by simp [dJ,hm,hk,hk2]];simp [eV,Prg.e,hm,hk,Qf.2 hk,hk2,Qf.2 hk2,Xi.e,Fld.e]
theorem XZ (p:Prg) (ps:List Fld) (l:List Xd) (w:Int):aB Φ mP [.agg (scC p ps),.slice 3 (l.map Xd.c),a7 w]=some (.val (a7 (valE p ps l w))):=by
 rw [aD rfl rfl];have h:=OL p ps l;simp only [aV] at h;by_cases z:(exE p ps l).2=0
 ·rw [z] at h;by_cases y:(exE p ps l).1=w
  ·simp [oY,aV,h,valE,z,y]
  ·simp [oY,aV,h,valE,z,y]
 ·simp [oY,aV,h,valE,z]
theorem Iv {Z:Type} {l:List Z} {i:Int}:(at? l i).isSome=(!(decide (i<0) || decide ((l.length:Int)<=i))):=by
 by_cases h0:i<0
 ·simp [gC h0,h0]
 by_cases h1:(l.length:Int)<=i
 ·simp [iJ h1,h1]
 obtain ⟨k,rfl⟩:∃k:Nat,i=k:=⟨i.toNat,by omega⟩;have:k<l.length:=by omega
 simp [this,h0]
theorem WP (p:Prg) (ps:List Fld) (s:Xf):aB Φ uP [.agg (scC p ps),.agg (Xf.c s)]=some (.val (a7 (stmE p ps s))):=by
 rw [aD rfl rfl];have hd:=TR p s.dst.header s.dst.field;have hi:=OL p ps s.index;simp only [Prg.e] at hd;simp only [aV] at hi;have hr:(s.Ye<0/\at? p.Xl s.Ye=none)\/(¬s.Ye<0/\(p.Xl.length:Int)<=s.Ye/\at? p.Xl s.Ye=none)\/∃k:Nat,∃h:k<p.Xl.length,s.Ye=k/\at? p.Xl s.Ye=some p.Xl[k]:=by
  by_cases h0:s.Ye<0
  ·exact .inl ⟨h0,gC h0⟩
  by_cases h1:(p.Xl.length:Int)<=s.Ye
  ·exact .inr (.inl ⟨h0,h1,iJ h1⟩)
  obtain ⟨k,hk⟩:∃k:Nat,s.Ye=k:=⟨s.Ye.toNat,by omega⟩;exact .inr (.inr ⟨k,by omega,hk,by rw [hk];simp⟩)
 have hx:∀w,aB Φ mP [.agg (scC p ps),.slice 3 (s.value.map Xd.c),a7 w]=some (.val (a7 (valE p ps s.value w))):=XZ p ps s.value;simp only [aV] at hx;have hd':aB Φ qD [.agg (mW p []),.agg [a7 s.dst.header,a7 s.dst.field]]=
   some (.val (.tup [a7 ((decl p s.dst.header s.dst.field).getD 0),.bool (decl p s.dst.header s.dst.field).isSome])):=by
  rw [hd];cases decl p s.dst.header s.dst.field<;>rfl
 clear hd;by_cases k1:s.kind=1
 ·rcases hr with ⟨r0,rn⟩ | ⟨r0,r1,rn⟩ | ⟨m,hm,rk,rn⟩<;>cases qd:decl p s.dst.header s.dst.field<;>rw [qd] at hd'
  ·simp [aO,aV,Xf.e,hd',stmE,qd,k1,BC.2 r0]
  ·simp [aO,aV,Xf.e,hd',stmE,qd,k1,BC.2 r0,hx]
  ·simp [aO,aV,Xf.e,hd',stmE,qd,k1,nR.1 r0,nR.2 r1]
  ·simp [aO,aV,Xf.e,hd',stmE,qd,k1,nR.1 r0,nR.2 r1,hx]
  ·simp [aO,aV,Xf.e,hd',stmE,qd,k1,rk,hm]
  ·simp [aO,aV,Xf.e,hd',stmE,qd,k1,rk,hm,hx]
 by_cases k2:s.kind=2
 ·have e:stmE p ps s=if (at? p.Xo s.header).isSome then 0 else 8:=by simp [stmE,k2]
  rw [e,Iv];by_cases h0:s.header<0<;>by_cases h1:(p.Xo.length:Int)<=s.header<;>rcases hr with ⟨r0,rn⟩ | ⟨r0,r1,rn⟩ | ⟨m,hm,rk,rn⟩
  all_goals first
   | simp [aO,aV,Xf.e,hd',k2,BC.2 r0,h0,h1]
   | simp [aO,aV,Xf.e,hd',k2,nR.1 r0,nR.2 r1,h0,h1]
   | simp [aO,aV,Xf.e,hd',k2,rk,hm,h0,h1]
 by_cases k3:s.kind=3
 ·have e:stmE p ps s=if (at? p.Xo s.header).isSome then 0 else 8:=by simp [stmE,k3]
  rw [e,Iv];by_cases h0:s.header<0<;>by_cases h1:(p.Xo.length:Int)<=s.header<;>rcases hr with ⟨r0,rn⟩ | ⟨r0,r1,rn⟩ | ⟨m,hm,rk,rn⟩
  all_goals first
   | simp [aO,aV,Xf.e,hd',k3,BC.2 r0,h0,h1]
   | simp [aO,aV,Xf.e,hd',k3,nR.1 r0,nR.2 r1,h0,h1]
   | simp [aO,aV,Xf.e,hd',k3,rk,hm,h0,h1]
 by_cases k4:s.kind=4
 ·rcases hr with ⟨r0,rn⟩ | ⟨r0,r1,rn⟩ | ⟨m,hm,rk,rn⟩
  ·simp [aO,aV,Xf.e,hd',stmE,k4,BC.2 r0,rn]
  ·simp [aO,aV,Xf.e,hd',stmE,k4,nR.1 r0,nR.2 r1,rn]
  ·rw [rk] at rn;cases qd:decl p s.dst.header s.dst.field with
   | none=>rw [qd] at hd';simp [aO,aV,Xf.e,hd',stmE,k4,rk,hm,rn,qd]
   | some w=>
    rw [qd] at hd';by_cases z:(exE p ps s.index).2=0
    ·rw [z] at hi;by_cases y:w=p.Xl[m].Yc
     ·simp [aO,aV,Xf.e,Xg.e,hd',stmE,k4,rk,hm,rn,qd,hi,z,y]
     ·simp [aO,aV,Xf.e,Xg.e,hd',stmE,k4,rk,hm,rn,qd,hi,z,y]
    ·simp [aO,aV,Xf.e,hd',stmE,k4,rk,hm,rn,qd,hi,z]
 by_cases k5:s.kind=5
 ·rcases hr with ⟨r0,rn⟩ | ⟨r0,r1,rn⟩ | ⟨m,hm,rk,rn⟩
  ·simp [aO,aV,Xf.e,hd',stmE,k5,BC.2 r0,rn]
  ·simp [aO,aV,Xf.e,hd',stmE,k5,nR.1 r0,nR.2 r1,rn]
  ·rw [rk] at rn;by_cases z:(exE p ps s.index).2=0
   ·rw [z] at hi;simp [aO,aV,Xf.e,Xg.e,hd',stmE,k5,rk,hm,rn,hi,z,hx]
   ·simp [aO,aV,Xf.e,hd',stmE,k5,rk,hm,rn,hi,z]
 rcases hr with ⟨r0,rn⟩ | ⟨r0,r1,rn⟩ | ⟨m,hm,rk,rn⟩
 ·simp [aO,aV,Xf.e,hd',stmE,k1,k2,k3,k4,k5,BC.2 r0]
 ·simp [aO,aV,Xf.e,hd',stmE,k1,k2,k3,k4,k5,nR.1 r0,nR.2 r1]
 ·simp [aO,aV,Xf.e,hd',stmE,k1,k2,k3,k4,k5,rk,hm]
theorem Q1 (g:Fld) (s:List UInt8) (w:Int):aB Φ jW [.agg (Fld.c g),.iptr 2 [[.str s,a7 w]] 0 0]=some (.val (.bool (decide (g.name=s)))):=by
 rw [aD rfl rfl];simp [D7,Fld.e]
theorem Zi (l:List Fld) (s:List UInt8) (w:Int) (hl:l.length<2^40):aB Φ vT [.slice 2 (l.map Fld.c),.func (.func jW) [] [.iptr 2 [[.str s,a7 w]] 0 0]]=some (.val (a7 (ix (fun g=>decide (g.name=s)) l 0))):=by
 rw [aD rfl rfl];simp [DS];refine (mQ l.length (fun i e=>look 0 e=some (.slice 2 (l.map Fld.c))/\look 1 e=some (.func (.func jW) [] [.iptr 2 [[.str s,a7 w]] 0 0])/\look 7 e=some (a7 l.length)/\look 8 e=some (a7 i))
  (fun i=>some (.val (a7 (ix (fun g=>decide (g.name=s)) l i)))) ?_ ?_ 0 _ (Qc _) ?_).trans (by simp)
 ·rintro i e L hi hL ⟨h0,h1,h7,h8⟩ ih;have hw:=aP i (by omega);have hd:=Q1 l[i] s w;simp only [Fld.e] at hd;by_cases z:l[i].name=s
  ·rw [KZ hi (by simpa using z)];rw [decide_eq_true z] at hd;simp [c_402_l0,Fld.e,h0,h1,h7,h8,hi,hd]
  ·rw [KS hi (by simpa using z)];simp [c_402_l0,Fld.e,h0,h1,h7,h8,hi,hd,z,hw];exact ih _ ⟨by simp [h0],by simp [h1],by simp [h7],by simp⟩
 ·rintro e L hL ⟨h0,h1,h7,h8⟩;rw [KY];simp [c_402_l0,c_402_k1,h7,h8,hL]
 ·simp
theorem Wx (l:List Fld) (s:List UInt8) (w:Int) (hl:l.length<2^40):aB Φ vD [.slice 2 (l.map Fld.c),.func (.func jW) [] [.iptr 2 [[.str s,a7 w]] 0 0]]=some (.val (.bool (l.any fun g=>decide (g.name=s)))):=by
 rw [aD rfl rfl];have h:=Zi l s w hl;have e:=OQ (p:=fun g:Fld=>decide (g.name=s)) (l:=l);simp [D6,h];rw [<- e]
def actG (l:List Fld) (i:Nat):Option Int:=(l[i]?).bind fun f=>er (fldE l i f)
theorem U2 (a:Action) (hn:a.name.length<2^40) (hl:a.params.length<2^40) (hf:∀f∈a.params,f.name.length<2^40):aB Φ uO [.agg (Action.c a)]=some (.val (a7 (actD a))):=by
 rw [aD rfl rfl];have n1:=DY a.name hn;cases q1:idS a.name with
 | false=>rw [q1] at n1;simp [lO,Action.e,n1,actD,q1]
 | true=>
 rw [q1] at n1;by_cases z0:4<a.params.length
 ·simp [lO,Action.e,n1,actD,q1,z0]
 by_cases z1:12<a.body.length
 ·simp [lO,Action.e,n1,actD,q1,z0,z1]
 have hE:actD a=errO (fe (actG a.params) a.params.length 0):=by simp [actD,q1,z0,z1]<;>rfl
 rw [hE];simp [lO,Action.e,n1,z0,z1];refine eS a.params.length (fun _=>[]) 0 (fun i e=>look 1 e=some (.iptr 3 [[.str a.name,.slice 2 (a.params.map Fld.c),.slice 7 (a.body.map Xf.c)]] 0 0)/\look 22 e=some (.slice 2 (a.params.map Fld.c))/\look 23 e=some (a7 a.params.length)/\look 24 e=some (a7 i))
  (fun i=>some (Rt.val (a7 (errO (fe (actG a.params) a.params.length i))))) ?_ ?_ 0 _ 0 (Qc _) (Qb _) ?_
 ·rintro i e n L hi hL _ ⟨h1,h22,h23,h24⟩ ih;have hw:=aP i (by omega);have nf:=DY a.params[i].name (hf _ (Qd hi));have hi':i<=a.params.length:=by omega
  have hc:=Wx (a.params.take i) a.params[i].name a.params[i].Yc (by simp;omega);rw [show (a.params.take i).any (fun g=>decide (g.name=a.params[i].name))=dupN Fld.name a.params i a.params[i] from rfl,zI] at hc;cases p1:idS a.params[i].name with
  | false=>
   rw [p1] at nf;rw [bS (x:=6) hi (by simp [actG,hi,fldE,p1,er])];simp [c_313_l0,Fld.e,h22,h23,h24,hi,nf]
  | true=>
  rw [p1] at nf;by_cases w1:a.params[i].Yc<1
  ·rw [bS (x:=10) hi (by simp [actG,hi,fldE,p1,wBad,w1,er])];simp [c_313_l0,Fld.e,h22,h23,h24,hi,nf,w1]
  by_cases w2:32<a.params[i].Yc
  ·rw [bS (x:=10) hi (by simp [actG,hi,fldE,p1,wBad,w2,er])];simp [c_313_l0,Fld.e,h22,h23,h24,hi,nf,w1,w2]
  cases p3:dupN Fld.name a.params i a.params[i] with
  | true=>
   rw [p3] at hc;rw [bS (x:=7) hi (by simp [actG,hi,fldE,p1,wBad,w1,w2,p3,er])];simp [c_313_l0,Fld.e,h1,h22,h23,h24,hi,nf,w1,w2,hi',hc]
  | false=>
   rw [p3] at hc;rw [fI hi (by simp [actG,hi,fldE,p1,wBad,w1,w2,p3])];simp [c_313_l0,Fld.e,h1,h22,h23,h24,hi,nf,w1,w2,hi',hc,hw];exact ih _ _ (Qc _) ⟨by simp [h1],by simp [h22],by simp [h23],by simp⟩
 ·rintro e n L hL _ ⟨h1,h22,h23,h24⟩;rw [gM];simp [c_313_l0,c_313_k1,h23,h24,hL]
 ·simp
def LB (p:Prg) (a:Action) (k:Nat):Option (Int×Int):=(a.body[k]?).bind fun s=>if stmE p a.params s=0 then none else some ((k:Int),stmE p a.params s)
theorem Lx (p:Prg) (f:PrgS p) (i:Int):aB Φ pH [.agg (Prg.c p),a7 i]=some (.val (.tup [a7 (actE p i).1,a7 (actE p i).2])):=by
 rw [aD rfl rfl];by_cases i0:i<0
 ·simp [lH,Prg.e,i0,actE,gC i0]
 by_cases i1:(p.Xx.length:Int)<=i
 ·simp [lH,Prg.e,i0,i1,actE,iJ i1]
 obtain ⟨k,rfl⟩:∃k:Nat,i=k:=⟨i.toNat,by omega⟩;have hk:k<p.Xx.length:=by omega
 have hm:=Qd hk;have hd:=U2 p.Xx[k] (f.an _ hm) (f.ap _ hm) (f.apn _ hm);simp only [Action.e] at hd;by_cases z:actD p.Xx[k]=0
 rotate_left
 ·simp [lH,Prg.e,Action.e,hk,Qf.2 hk,hd,z,actE]
 rw [z] at hd;have hE:actE p k=(fe (LB p p.Xx[k]) p.Xx[k].body.length 0).getD (0,0):=by simp [actE,hk,z]<;>rfl
 rw [hE];simp [lH,Prg.e,Action.e,hk,Qf.2 hk,hd];have hb:=f.ab _ hm;refine eS p.Xx[k].body.length (fun _=>[]) 0 (fun i e=>look 7 e=some (.iptr 10 [scC p p.Xx[k].params] 0 0)/\look 35 e=some (.slice 7 (p.Xx[k].body.map Xf.c))/\look 36 e=some (a7 p.Xx[k].body.length)/\look 37 e=some (a7 i))
  (fun i=>some (Rt.val (.tup [a7 ((fe (LB p p.Xx[k]) p.Xx[k].body.length i).getD (0,0)).1,a7 ((fe (LB p p.Xx[k]) p.Xx[k].body.length i).getD (0,0)).2]))) ?_ ?_ 0 _ _ (Qc _) (Qc _) ?_
 ·rintro i e n L hi hL _ ⟨h7,h35,h36,h37⟩ ih;have hw:=aP i (by omega);have hs:=WP p p.Xx[k].params p.Xx[k].body[i];simp only [Xf.e,aV] at hs;rw [aV] at h7;by_cases y:stmE p p.Xx[k].params p.Xx[k].body[i]=0
  ·rw [y] at hs;rw [fI hi (by simp [LB,hi,y])];simp [c_218_l0,Xf.e,h7,h35,h36,h37,hi,hs,hw];exact ih _ _ (Qc _) ⟨by simp [h7,aV],by simp [h35],by simp [h36],by simp⟩
  ·rw [bS (x:=((i:Int),stmE p p.Xx[k].params p.Xx[k].body[i])) hi (by simp [LB,hi,y])];simp [c_218_l0,Xf.e,h7,h35,h36,h37,hi,hs,y]
 ·rintro e n L hL _ ⟨h7,h35,h36,h37⟩;rw [gM];simp [c_218_l0,c_218_k1,h36,h37,hL]
 ·simp [aV]
def OX (ar:List Int) (ps:List Fld) (i:Nat):Option Int:=match ar[i]?,ps[i]? with
  | some v,some f=>if fits v f.Yc then none else some 9
  | _,_=>none
theorem NQ (p:Prg) (f:PrgS p) (c:Xb) (hc:c.args.length<2^40):aB Φ jK [.agg (Prg.c p),.agg (Xb.c c)]=some (.val (a7 (kZ p c))):=by
 rw [aD rfl rfl];by_cases i0:c.Xy<0
 ·simp [lE,Prg.e,Xb.e,i0,kZ,gC i0]
 by_cases i1:(p.Xx.length:Int)<=c.Xy
 ·simp [lE,Prg.e,Xb.e,i0,i1,kZ,iJ i1]
 obtain ⟨k,hk0⟩:∃k:Nat,c.Xy=k:=⟨c.Xy.toNat,by omega⟩;have hk:k<p.Xx.length:=by omega
 by_cases z:c.args.length=p.Xx[k].params.length
 rotate_left
 ·simp [lE,Prg.e,Xb.e,Action.e,hk0,hk,Qf.2 hk,kZ,z]
 have hE:kZ p c=errO (fe (OX c.args p.Xx[k].params) c.args.length 0):=by simp [kZ,hk0,hk,z]<;>rfl
 rw [hE];simp [lE,Prg.e,Xb.e,Action.e,hk0,hk,Qf.2 hk,z];rw [<- z];refine mQ c.args.length (fun i e=>look 5 e=some (.slice 2 (p.Xx[k].params.map Fld.c))/\look 33 e=some (.slice 1 (c.args.map c32))/\look 34 e=some (a7 c.args.length)/\look 35 e=some (a7 i))
  (fun i=>some (Rt.val (a7 (errO (fe (OX c.args p.Xx[k].params) c.args.length i))))) ?_ ?_ 0 _ (Qc _) ?_
 ·rintro i e L hi hL ⟨h5,h33,h34,h35⟩ ih;have hw:=aP i (by omega);have hi2:i<p.Xx[k].params.length:=by omega
  have hf:=IC c.args[i] p.Xx[k].params[i].Yc;cases y:fits c.args[i] p.Xx[k].params[i].Yc with
  | true=>
   rw [y] at hf;rw [fI hi (by simp [OX,hi,hi2,y])];simp [c_144_l0,Fld.e,c32,h5,h33,h34,h35,hi,hi2,hf,hw];exact ih _ ⟨by simp [h5],by simp [h33],by simp [h34],by simp⟩
  | false=>
   rw [y] at hf;rw [bS (x:=9) hi (by simp [OX,hi,hi2,y])];simp [c_144_l0,Fld.e,c32,h5,h33,h34,h35,hi,hi2,hf]
 ·rintro e L hL ⟨h5,h33,h34,h35⟩;rw [gM];simp [c_144_l0,c_144_k1,h34,h35,hL]
 ·simp [z]
@[simp] theorem Ru (O:List (Nat×AO)) (n id:Nat):IM ⟨O,n⟩ (.map id)=match look id O with
  | some (.map es)=>some es
  | _=>none:=by simp only [IM,AH.get]<;>rfl
@[simp] theorem kdOk_i (k:IntKind) (x:Int):kdOk .i (.int k x)=true:=by simp [kdOk]
@[simp] theorem kdOk_s (x:List UInt8):kdOk .s (.str x)=true:=by simp [kdOk]
def setM (l:List Int):List (AV×AV):=l.map fun a=>(a7 a,.bool true)
def setS (l:List (List UInt8)):List (AV×AV):=l.map fun a=>(.str a,.bool true)
theorem Cl (k:Int):∀l:List Int,fL .i (a7 k) (setM l)=some (if l.contains k then some (.bool true) else none)
 | []=>by simp [setM,fL]
 | a::l=>by
  have ih:=Cl k l;unfold setM at ih ⊢;by_cases h:k=a
  ·subst h;simp [fL]
  ·simp [fL,h,ih]
theorem Kq (k:Int):∀l:List Int,l.contains k=false->putA .i (a7 k) (.bool true) (setM l)=some (setM (l++[k]))
 | [],_=>by simp [setM,putA]
 | a::l,h=>by
  simp only [List.contains_cons,F4,beq_eq_false_iff_ne,ne_eq] at h;have ih:=Kq k l h.2;unfold setM at ih ⊢;simp [putA,h.1,ih]
theorem Jn (k:List UInt8):∀l:List (List UInt8),fL .s (.str k) (setS l)=some (if l.contains k then some (.bool true) else none)
 | []=>by simp [setS,fL]
 | a::l=>by
  have ih:=Jn k l;unfold setS at ih ⊢;by_cases h:k=a
  ·subst h;simp [fL]
  ·simp [fL,h,ih]
theorem Lg (k:List UInt8):∀l:List (List UInt8),l.contains k=false->putA .s (.str k) (.bool true) (setS l)=some (setS (l++[k]))
 | [],_=>by simp [setS,putA]
 | a::l,h=>by
  simp only [List.contains_cons,F4,beq_eq_false_iff_ne,ne_eq] at h;have ih:=Lg k l h.2;unfold setS at ih ⊢;simp [putA,h.1,ih]
theorem QO (l:List Fld) (i:Int):aB Φ uH [.slice 2 (l.map Fld.c),a7 i]=some (.val (.agg (match at? l i with | some f=>Fld.c f | none=>[.str [],a7 0]))):=by
 rw [aD rfl rfl];by_cases i0:i<0
 ·simp [oN,i0,gC i0]
 by_cases i1:(l.length:Int)<=i
 ·simp [oN,i0,i1,iJ i1]
 obtain ⟨k,rfl⟩:∃k:Nat,i=k:=⟨i.toNat,by omega⟩;have hk:k<l.length:=by omega
 simp [oN,hk,Qf.2 hk,Fld.e]
theorem QP (l:List Xi) (i:Int):aB Φ uY [.slice 2 (l.map Xi.c),a7 i]=some (.val (.agg (match at? l i with | some f=>Xi.c f | none=>[.str [],.slice 2 []]))):=by
 rw [aD rfl rfl];by_cases i0:i<0
 ·simp [oU,i0,gC i0]
 by_cases i1:(l.length:Int)<=i
 ·simp [oU,i0,i1,iJ i1]
 obtain ⟨k,rfl⟩:∃k:Nat,i=k:=⟨i.toNat,by omega⟩;have hk:k<l.length:=by omega
 simp [oU,hk,Qf.2 hk,Xi.e]
def EP (p:Prg) (h:Int):List Fld:=((if h= -1 then some p.Xn else (at? p.Xo h).map (·.Xz))).getD []
theorem qyu (p:Prg) (h:Int):aB Φ uI [.agg (Prg.c p),a7 h]=some (.val (.slice 2 ((EP p h).map Fld.c))):=by
 rw [aD rfl rfl];by_cases hm:h= -1
 ·simp [oO,Prg.e,hm,EP]
 have ha:=QP p.Xo h;cases q:at? p.Xo h with
 | none=>
  rw [q] at ha;simp [oO,Prg.e,hm,EP,ha,q]
 | some x=>
  rw [q] at ha;simp only [Xi.e] at ha;simp [oO,Prg.e,hm,EP,ha,q]
theorem qyg (p:Prg) (h i:Int):decl p h i=(at? (EP p h) i).map (·.Yc):=by
 unfold decl EP;cases (if h= -1 then some p.Xn else (at? p.Xo h).map (·.Xz)) with
 | some l=>rfl
 | none=>
  have:at? ([]:List Fld) i=none:=by unfold at?;split<;>simp
  simp [this]
theorem IP (p:Prg) (h i:Int):aB Φ fZ [.agg (Prg.c p),.agg [a7 h,a7 i]]=some (.val (a7 (wid p h i))):=by
 rw [aD rfl rfl];have hf:=qyu p h;have ha:=QO (EP p h) i;have hd:=qyg p h i;simp only [Prg.e] at hf;cases q:at? (EP p h) i with
 | none=>
  rw [q] at ha hd;have hm:=gH 0;rw [show cP 0=0 from rfl] at hm;simp [oG,Prg.e,hf,ha,hm,wid,hd]
 | some f=>
  rw [q] at ha hd;simp only [Fld.e] at ha;have hm:=gH f.Yc;cases w:wBad f.Yc with
  | true=>
   rw [show cP f.Yc=0 by simp [cP,w]] at hm;simp [oG,Prg.e,hf,ha,hm,wid,hd,w]
  | false=>
   have:¬cP f.Yc=0:=by
    obtain ⟨w1,w2⟩:=wBad_false.1 w;have:(2:Int)^1<=2^f.Yc.toNat:=by
     have:=B6 (n:=2) (by omega) (show 1<=f.Yc.toNat by omega)
     exact_mod_cast this
    simp only [cP,w];simp;omega
   simp [oG,Prg.e,hf,ha,hm,wid,hd,w,this]
theorem QG (p:Prg) (h i:Int):0<=wid p h i/\wid p h i<=32:=by
 unfold wid;split
 ·rename_i w _;cases q:wBad w with
  | true=>simp
  | false=>have:=wBad_false.1 q;simp;omega
 ·simp
def keyG (p:Prg) (x:Tbl) (i:Nat):Option (Int×Int):=(x.keys[i]?).bind fun k=>
 if wid p k.field.header k.field.field=0 then some ((i:Int),8) else if k.kind=1\/k.kind=2\/k.kind=3 then none else some ((i:Int),11)
def GN (p:Prg) (x:Tbl):Int×Int:=if 1<x.keys.countP (fun k=>decide (k.kind=2)) then (-2,7) else if 64<(kWid p x).sum then (-2,10) else (0,0)
theorem Hv (p:Prg) (x:Tbl):∀i,i<=x.keys.length->0<=((kWid p x).take i).sum/\((kWid p x).take i).sum<=32*i:=by
 intro i
 induction i with
 | zero=>intro _;simp
 | succ i ih=>
  intro hi;have:=ih (by omega);have hl:i<(kWid p x).length:=by simp [kWid];omega
  rw [Qh hl,List.sum_append,MD];have hr:=QG p x.keys[i].field.header x.keys[i].field.field;have he:(kWid p x)[i]=wid p x.keys[i].field.header x.keys[i].field.field:=by simp [kWid]
  rw [he];omega
theorem S0 (p:Prg) (x:Tbl) (hl:x.keys.length<2^40):aB Φ uB [.agg (Prg.c p),.agg (Tbl.c x)]=some (.val (.tup [a7 (AF p x).1,a7 (AF p x).2])):=by
 rw [aD rfl rfl];have hE:AF p x=(fe (keyG p x) x.keys.length 0).getD (GN p x):=by
  unfold AF keyE;show (match fe (keyG p x) x.keys.length 0 with | some e=>e | none=>GN p x)=_;cases fe (keyG p x) x.keys.length 0<;>rfl
 rw [hE];simp [C4,Prg.e,Tbl.e];refine eS x.keys.length (fun _=>[]) 0 (fun i e=>look 2 e=some (.iptr 9 [Prg.c p] 0 0)/\look 6 e=some (a7 ((x.keys.take i).countP fun k=>decide (k.kind=2):Nat))/\look 7 e=some (a7 ((kWid p x).take i).sum)/\look 12 e=some (.slice 3 (x.keys.map Xk.c))/\look 13 e=some (a7 x.keys.length)/\look 14 e=some (a7 i))
  (fun i=>some (Rt.val (.tup [a7 ((fe (keyG p x) x.keys.length i).getD (GN p x)).1,a7 ((fe (keyG p x) x.keys.length i).getD (GN p x)).2]))) ?_ ?_ 0 _ 0 (Qc _) (Qb _) ?_
 ·rintro i e n L hi hL _ ⟨h2,h6,h7,h12,h13,h14⟩ ih;have hw:=aP i (by omega);have hv:=IP p x.keys[i].field.header x.keys[i].field.field;simp only [Prg.e] at hv;rw [Prg.e] at h2;by_cases z:wid p x.keys[i].field.header x.keys[i].field.field=0
  ·rw [z] at hv;rw [bS (x:=((i:Int),8)) hi (by simp [keyG,hi,z])];simp [c_238_l0,Xk.e,h2,h12,h13,h14,hi,hv]
  have hs:=Hv p x (i+1) (by omega);have hs0:=Hv p x i (by omega);have he:((kWid p x).take (i+1)).sum=((kWid p x).take i).sum+wid p x.keys[i].field.header x.keys[i].field.field:=by
   have hl:i<(kWid p x).length:=by simp [kWid];omega
   rw [Qh hl,List.sum_append,MD];congr 1;simp [kWid]
  have hw7:IntKind.wrap .i64 (((kWid p x).take i).sum+wid p x.keys[i].field.header x.keys[i].field.field)=((kWid p x).take (i+1)).sum:=by rw [<- he];exact cM (by omega) (by omega)
  have hc:(x.keys.take (i+1)).countP (fun k=>decide (k.kind=2))=(x.keys.take i).countP (fun k=>decide (k.kind=2))+if x.keys[i].kind=2 then 1 else 0:=by
   rw [Qh hi,List.countP_append];congr 1;simp [List.countP_cons]
  have hcl:(x.keys.take i).countP (fun k=>decide (k.kind=2))<=i:=by
   have:=List.countP_le_length (l:=x.keys.take i) (p:=fun k=>decide (k.kind=2));simp at this;omega
  have hw6:IntKind.wrap .i64 (((x.keys.take i).countP (fun k=>decide (k.kind=2)):Nat)+1:Int)=(((x.keys.take i).countP (fun k=>decide (k.kind=2))+1:Nat):Int):=cM (by omega) (by omega);by_cases k2:x.keys[i].kind=2
  ·rw [fI hi (by simp [keyG,hi,z,k2])];rw [a8 k2] at hc;simp [c_238_l0,Xk.e,h2,h6,h7,h12,h13,h14,hi,hv,z,k2,hw7,hw6,hw];exact ih _ _ (Qc _) ⟨by simp [h2,Prg.e],by simp [hc],by simp,by simp [h12],by simp [h13],by simp⟩
  rw [QA k2] at hc;by_cases k1:x.keys[i].kind=1
  ·rw [fI hi (by simp [keyG,hi,z,k1])];simp [c_238_l0,Xk.e,h2,h7,h12,h13,h14,hi,hv,z,k1,hw7,hw];exact ih _ _ (Qc _) ⟨by simp [h2,Prg.e],by simp [hc,h6],by simp,by simp [h12],by simp [h13],by simp⟩
  by_cases k3:x.keys[i].kind=3
  ·rw [fI hi (by simp [keyG,hi,z,k3])];simp [c_238_l0,Xk.e,h2,h7,h12,h13,h14,hi,hv,z,k3,hw7,hw];exact ih _ _ (Qc _) ⟨by simp [h2,Prg.e],by simp [hc,h6],by simp,by simp [h12],by simp [h13],by simp⟩
  ·rw [bS (x:=((i:Int),11)) hi (by simp [keyG,hi,z,k1,k2,k3])];simp [c_238_l0,Xk.e,h2,h12,h13,h14,hi,hv,z,k1,k2,k3]
 ·rintro e n L hL _ ⟨h2,h6,h7,h12,h13,h14⟩;rw [gM];have ht:(kWid p x).take x.keys.length=kWid p x:=by rw [Qo];simp [kWid]
  rw [ht] at h7;rw [kW] at h6;by_cases y1:1<x.keys.countP (fun k=>decide (k.kind=2))
  ·simp [c_238_l0,c_238_k1,h6,h13,h14,hL,GN,y1]
  by_cases y2:64<(kWid p x).sum
  ·simp [c_238_l0,c_238_k1,h6,h7,h13,h14,hL,GN,y1,y2]
  ·simp [c_238_l0,c_238_k1,h6,h7,h13,h14,hL,GN,y1,y2]
 ·simp [Prg.e]
def ET (d:List Int) (k:Nat):Int:=d.getD (k / 8) 0 / 2^(7 - k % 8) % 2
def rdN (d:List Int) (i:Nat):Nat->Int
 | 0=>0
 | w+1=>2*rdN d i w+ET d (i+w)
def rdF (d:List Int):Nat->List Fld->List Int
 | _,[]=>[]
 | i,f::r=>rdN d i f.Yc.toNat::rdF d (i+f.Yc.toNat) r
def exH (p:Prg) (d:List Int) (x:Envt×Nat) (h:Int):Option (Envt×Nat):=match at? p.Xo h with
 | none=>none
 | some g=>if 8*d.length<x.2+(wSum g.Xz).toNat then none else
  some ({ x.1 with valid:=x.1.valid.set h.toNat true,Xz:=x.1.Xz.set h.toNat (rdF d x.2 g.Xz) },x.2+(wSum g.Xz).toNat)
def exHs (p:Prg) (d:List Int):List Int->Envt×Nat->Option (Envt×Nat)
 | [],x=>some x
 | h::r,x=>(exH p d x h).bind (exHs p d r)
def nxS (s:Xc) (e:Envt):Int:=if s.select then ((s.cases.find? fun c=>decide (iand .u32 (eGet e s.on.header s.on.field) c.Yd=c.value)).map (·.next)).getD s.Yb else s.Yb
def prF (p:Prg) (d:List Int):Nat->Int->Envt×Nat->Option Envt
 | 0,_,_=>none
 | n+1,s,x=>if s= -1 then some { x.1 with payload:=d.drop (x.2 / 8) } else match at? p.Xw s with
  | none=>none
  | some t=>(exHs p d t.extract x).bind fun y=>prF p d n (nxS t y.1) y
def prs (p:Prg) (d:List Int):Option Envt:=if 512<d.length then none else prF p d (p.Xw.length+1) 0 (eNew p,0)
def gN (v:Int):Nat->List Bool
 | 0=>[]
 | w+1=>decide (v / 2^w % 2=1)::gN v w
def nH:List Fld->List Int->List Bool
 | f::r,v::l=>gN v f.Yc.toNat++nH r l
 | _,_=>[]
def AD (p:Prg) (e:Envt):List Bool:=(p.Xr.map fun h=>if (at? e.valid h).getD false then nH (((at? p.Xo h).map (·.Xz)).getD []) ((at? e.Xz h).getD []) else []).flatten
def b2i (b:Bool):Int:=if b then 1 else 0
def byt (l:List Bool):Int:=l.foldl (fun n b=>2*n+b2i b) 0
def byts:Nat->List Bool->List Int
 | 0,_=>[]
 | n+1,l=>byt (l.take 8)::byts n (l.drop 8)
def emi (p:Prg) (e:Envt):List Int:=byts ((AD p e).length / 8) (AD p e)++e.payload
end Go.Av
