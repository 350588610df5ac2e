/-
 What a program does with a packet, in plain Lean: packets keep their shape, and their values fit.
-/
import Derived.Test.YtcehjengeaafpaaGreatK8
set_option linter.unusedVariables false
set_option linter.unusedSimpArgs false
set_option linter.constructorNameAsVariable false
namespace Go.Av
theorem iG {Z:Type} {l:List Z} {i:Int} {x:Z} (h:at? l i=some x):∃k:Nat,i=k/\∃hk:k<l.length,l[k]=x:=by
 unfold at? at h;split at h
 ·cases h
 ·obtain ⟨hk,e⟩:=Qm.1 h;exact ⟨i.toNat,by omega,hk,e⟩
structure EV (p:Prg) (e:Envt):Prop extends Shp p e where
 fm:∀(i:Nat) (v:Int),e.metaF[i]? =some v->0<=v/\v<2^(wid p (-1) i).toNat
 ff:∀(h i:Nat) (l:List Int) (v:Int),e.Xz[h]? =some l->l[i]? =some v->0<=v/\v<2^(wid p h i).toNat
 z:∀(h:Nat) (l:List Int),e.valid[h]? =some false->e.Xz[h]? =some l->∀v∈l,v=0
theorem I7 (n:Nat):(0:Int)<2^n:=sC (by decide)
theorem Ms (v:Int) (n:Nat):0<=v % 2^n/\v % 2^n<2^n:=⟨Int.emod_nonneg _ (Int.ne_of_gt (I7 n)),Int.emod_lt_of_pos _ (I7 n)⟩
theorem Shp.put {p:Prg} {e:Envt} (s:Shp p e) (h f v:Int):Shp p (ePut h f v e):=by
 unfold ePut;split
 ·exact ⟨s.v,s.f,by simp [s.m],s.g⟩
 ·refine ⟨s.v,by simp [s.f],s.m,fun i h1 h2=>?_⟩;have h1':i<e.Xz.length:=by simpa using h1
  have:=s.g i h1' h2;simp only [List.getElem_set];split
  ·rename_i q;subst q;simp [zA,h1',this]
  ·exact this
theorem EV.put {p:Prg} {e:Envt} (s:EV p e) {h f v:Int} (hs:eHas e h f=true) (hv:0<=v/\v<2^(wid p h f).toNat):EV p (ePut h f v e):=by
 refine ⟨s.toShp.put h f v,?_,?_,?_⟩
 ·unfold ePut;split
  ·rename_i q;subst q;simp only [eHas,if_true] at hs;obtain ⟨x,hx⟩:=xZ.1 hs;obtain ⟨k,rfl,hk,rfl⟩:=iG hx;intro i v' hi;simp only [B7,List.getElem?_set] at hi;split at hi
   ·rename_i q;subst q;simp [hk] at hi;rw [<- hi];exact hv
   ·exact s.fm i v' hi
  ·exact s.fm
 ·unfold ePut;split
  ·exact s.ff
  ·rename_i q;simp only [eHas,QA q,cE] at hs;obtain ⟨x,hx⟩:=xZ.1 hs.2;obtain ⟨l,hx1,hx2⟩:=Qt.1 hx;obtain ⟨m,rfl,hm,rfl⟩:=iG hx1;obtain ⟨k,rfl,hk,rfl⟩:=iG hx2;intro h' i l' v' hl hi;simp only [B7,List.getElem?_set] at hl;split at hl
   ·rename_i q2;subst q2;simp [hm,zA] at hl;subst hl;simp only [List.getElem?_set] at hi;split at hi
    ·rename_i q3;subst q3;simp [hk] at hi;rw [<- hi];exact hv
    ·exact s.ff m i _ v' (Qa hm) hi
   ·exact s.ff h' i l' v' hl hi
 ·unfold ePut;split
  ·exact s.z
  ·rename_i q;simp only [eHas,QA q,cE] at hs;intro h' l' hv' hl;simp only [List.getElem?_set] at hl;split at hl
   ·rename_i q2;subst q2;have h1:=hs.1;obtain ⟨x,hx⟩:=xZ.1 hs.2;obtain ⟨l,hx1,hx2⟩:=Qt.1 hx;obtain ⟨m,rfl,hm,rfl⟩:=iG hx1;simp at hv';simp [hv'] at h1
   ·exact s.z h' l' hv' hl
theorem EV.set {p:Prg} {e:Envt} (s:EV p e) (h f v:Int):EV p (eSet p e h f v):=by
 unfold eSet;split
 ·exact s
 ·rename_i q;simp only [not_or,Bool.not_eq_false] at q;exact s.put q.2 (Ms v _)
theorem EV.sw {p:Prg} {e:Envt} (s:EV p e) (h:Nat) (b:Bool):EV p (eSw e h b):=by
 refine ⟨⟨by simp [eSw,s.v],by simp [eSw,s.f],s.m,fun i h1 h2=>?_⟩,s.fm,?_,?_⟩
 ·have h1':i<e.Xz.length:=by simpa [eSw] using h1
  have:=s.g i h1' h2;simp only [eSw,List.getElem_set];split
  ·rename_i q;subst q;simp [zA,h1',this]
  ·exact this
 ·intro h' i l' v' hl hi;simp only [eSw,List.getElem?_set] at hl;split at hl
  ·split at hl
   ·cases hl;rw [List.getElem?_map] at hi;obtain ⟨x,_,rfl⟩:=Qs.1 hi;exact ⟨Int.le_refl _,I7 _⟩
   ·cases hl
  ·exact s.ff h' i l' v' hl hi
 ·intro h' l' hv' hl;simp only [eSw,List.getElem?_set] at hl hv';split at hl
  ·split at hl
   ·cases hl;intro v hv;obtain ⟨x,_,rfl⟩:=iO.1 hv;rfl
   ·cases hl
  ·rename_i q;rw [QA q] at hv';exact s.z h' l' hv' hl
theorem EV.add {p:Prg} {e:Envt} (s:EV p e) (h:Int):EV p (eAdd p e h):=by
 unfold eAdd;split
 ·exact s.sw _ _
 ·exact s
theorem EV.rem {p:Prg} {e:Envt} (s:EV p e) (h:Int):EV p (eRem p e h):=by
 unfold eRem;split
 ·exact s.sw _ _
 ·exact s
theorem EV.new (p:Prg):EV p (eNew p):=by
 refine ⟨⟨by simp [eNew],by simp [eNew],by simp [eNew],fun i h1 h2=>by simp [eNew]⟩,?_,?_,?_⟩
 ·intro i v hi;simp only [eNew,List.getElem?_map] at hi;obtain ⟨x,_,rfl⟩:=Qs.1 hi;exact ⟨Int.le_refl _,I7 _⟩
 ·intro h i l v hl hi;simp only [eNew,List.getElem?_map] at hl;obtain ⟨x,_,rfl⟩:=Qs.1 hl;rw [List.getElem?_map] at hi;obtain ⟨x,_,rfl⟩:=Qs.1 hi;exact ⟨Int.le_refl _,I7 _⟩
 ·intro h l _ hl v hv;simp only [eNew,List.getElem?_map] at hl;obtain ⟨x,_,rfl⟩:=Qs.1 hl;obtain ⟨x,_,rfl⟩:=iO.1 hv;rfl
theorem Lf (d:List Int) (k:Nat):0<=ET d k/\ET d k<=1:=by
 unfold ET;omega
theorem Ei (d:List Int) (i:Nat):∀w,0<=rdN d i w/\rdN d i w<2^w
 | 0=>by simp [rdN]
 | w+1=>by
  have ih:=Ei d i w;have hb:=Lf d (i+w);simp only [rdN,Int.pow_succ];omega
theorem Eh (d:List Int):∀(l:List Fld) (i:Nat),(rdF d i l).length=l.length
 | [],_=>rfl
 | f::r,i=>by simp [rdF,Eh d r]
theorem Nb (d:List Int):∀(l:List Fld) (i k:Nat) (v:Int),(rdF d i l)[k]? =some v->∃f,l[k]? =some f/\0<=v/\v<2^f.Yc.toNat
 | [],_,k,v,h=>by simp [rdF] at h
 | f::r,i,0,v,h=>by
  simp only [rdF,List.getElem?_cons_zero,Option.some.injEq] at h;subst h;exact ⟨f,rfl,Ei d i _⟩
 | f::r,i,k+1,v,h=>by
  simp only [rdF,List.getElem?_cons_succ] at h ⊢;exact Nb d r _ k v h
theorem Mk {p:Prg} {h i:Nat} {g:Xi} {f:Fld} (hg:p.Xo[h]? =some g) (hf:g.Xz[i]? =some f) (hw:1<=f.Yc/\f.Yc<=32):wid p h i=f.Yc:=by
 have q:¬((h:Int)= -1):=by omega
 have w0:wBad f.Yc=false:=by simp [wBad];omega
 simp [wid,decl,q,hg,hf,w0]
theorem EV.exH {p:Prg} (hw:∀g∈p.Xo,∀f∈g.Xz,1<=f.Yc/\f.Yc<=32) {d:List Int} {x y:Envt×Nat} {h:Int} (s:EV p x.1) (hx:exH p d x h=some y):EV p y.1:=by
 unfold Go.Av.exH at hx;split at hx
 ·cases hx
 rename_i g hg;split at hx
 ·cases hx
 cases hx;obtain ⟨m,rfl,hm,rfl⟩:=iG hg;refine ⟨⟨by simp [s.v],by simp [s.f],s.m,fun i h1 h2=>?_⟩,s.fm,?_,?_⟩
 ·have h1':i<x.1.Xz.length:=by simpa using h1
  have:=s.g i h1' h2;simp only [List.getElem_set,B7];split
  ·rename_i q;subst q;rw [Eh]
  ·exact this
 ·intro h' i l' v' hl hi;simp only [List.getElem?_set,B7] at hl;split at hl
  ·rename_i q;subst q;split at hl
   ·cases hl;obtain ⟨f,hf,k1,k2⟩:=Nb _ _ _ _ _ hi;rw [Mk (Qa hm) hf (hw _ (Qd hm) _ (Qe hf))];exact ⟨k1,k2⟩
   ·cases hl
  ·exact s.ff h' i l' v' hl hi
 ·intro h' l' hv' hl;simp only [List.getElem?_set,B7] at hl hv';split at hl
  ·rename_i q;subst q;rw [a8 rfl] at hv';split at hv'<;>simp at hv'
  ·rename_i q;rw [QA q] at hv';exact s.z h' l' hv' hl
theorem EV.exHs {p:Prg} (hw:∀g∈p.Xo,∀f∈g.Xz,1<=f.Yc/\f.Yc<=32) {d:List Int}:∀(l:List Int) {x y:Envt×Nat},EV p x.1->exHs p d l x=some y->EV p y.1
 | [],x,y,s,h=>by cases h;exact s
 | a::l,x,y,s,h=>by
  obtain ⟨u,h1,h2⟩:=Qt.1 h;exact EV.exHs hw l (EV.exH hw s h1) h2
theorem EV.pay {p:Prg} {e:Envt} (s:EV p e) (l:List Int):EV p { e with payload:=l }:=⟨⟨s.v,s.f,s.m,s.g⟩,s.fm,s.ff,s.z⟩
theorem Oh {p:Prg} (hw:∀g∈p.Xo,∀f∈g.Xz,1<=f.Yc/\f.Yc<=32) {d:List Int}:∀(n:Nat) (s:Int) {x:Envt×Nat} {e:Envt},EV p x.1->prF p d n s x=some e->EV p e/\∃k,e.payload=d.drop k
 | 0,s,x,e,_,h=>by cases h
 | n+1,s,x,e,v,h=>by
  simp only [prF] at h;split at h
  ·cases h;exact ⟨v.pay _,_,rfl⟩
  ·split at h
   ·cases h
   ·obtain ⟨u,h1,h2⟩:=Qt.1 h;exact Oh hw n _ (v.exHs hw _ h1) h2
theorem Oi {p:Prg} (hw:∀g∈p.Xo,∀f∈g.Xz,1<=f.Yc/\f.Yc<=32) {d:List Int} {e:Envt} (h:prs p d=some e):EV p e/\d.length<=512/\∃k,e.payload=d.drop k:=by
 unfold prs at h;split at h
 ·cases h
 ·obtain ⟨h1,h2⟩:=Oh hw _ _ (EV.new p) h;exact ⟨h1,by omega,h2⟩
set_option maxRecDepth 4000
theorem Envt.ce (e:Envt):e.c=[.slice 1 (e.valid.map cB),.slice 1 (e.Xz.map (cS 1 c32)),.slice 1 (e.metaF.map c32),.slice 1 (e.payload.map c8)]:=rfl
theorem Fe (l:List (List AV)) (i:Int):aB Φ pP [.slice 1 l,a7 i]=some (.val (.bool (decide (0<=i/\i<l.length)))):=by
 rw [aD rfl rfl];by_cases h:0<=i
 ·obtain ⟨k,rfl⟩:=l9 h;by_cases h2:k<l.length<;>simp [sZ,h2]
 ·simp [sZ,h]
theorem YG (l:List (List AV)) (i:Int):aB Φ vV [.slice 1 l,a7 i]=some (.val (.bool (decide (0<=i/\i<l.length)))):=by
 rw [aD rfl rfl];by_cases h:0<=i
 ·obtain ⟨k,rfl⟩:=l9 h;by_cases h2:k<l.length<;>simp [tH,h2]
 ·simp [tH,h]
theorem Z4 (l:List (List AV)) (i:Int):aB Φ vU [.slice 2 l,a7 i]=some (.val (.bool (decide (0<=i/\i<l.length)))):=by
 rw [aD rfl rfl];by_cases h:0<=i
 ·obtain ⟨k,rfl⟩:=l9 h;by_cases h2:k<l.length<;>simp [tG,h2]
 ·simp [tG,h]
theorem HO {Z:Type} (l:List Z) (i:Int):(at? l i).isSome=decide (0<=i/\i<l.length):=by
 by_cases h0:i<0
 ·have:¬0<=i:=by omega
  simp [gC h0,this]
 by_cases h1:(l.length:Int)<=i
 ·have:¬i<l.length:=by omega
  simp [iJ h1,this]
 obtain ⟨m,rfl⟩:=l9 (show 0<=i by omega);have hm:m<l.length:=by omega
 simp [hm]
theorem Nr (l:List Bool) (i:Int):aB Φ uJ [.slice 1 (l.map cB),a7 i]=some (.val (.bool ((at? l i).getD false))):=by
 rw [aD rfl rfl];by_cases h0:i<0
 ·simp [oP,h0,gC h0]
 by_cases h1:(l.length:Int)<=i
 ·simp [oP,h0,h1,iJ h1]
 obtain ⟨m,rfl⟩:=l9 (show 0<=i by omega);have hm:m<l.length:=by omega
 have hm2:¬l.length<=m:=by omega
 simp [oP,hm,hm2,cB]
theorem rX (a b:AV) (h:AH):aH Φ jM [a,b] h=go Φ (finC bZ.results) [.c bZ.body] .normal ⟨dV 0 [a,b],h⟩:=d6 rfl rfl
def elL (e:Envt) (h:Int):List Int:=if h= -1 then e.metaF else (at? e.Xz h).getD []
theorem V5 (e:Envt) (h f:Int):aB Φ i9 [.agg (Envt.c e),.agg [a7 h,a7 f]]=some (.val (.tup [.slice 1 ((elL e h).map c32),.bool (eHas e h f)])):=by
 rw [aD rfl rfl];have hi:=Fe;by_cases hm:h= -1
 ·subst hm;simp [dP,Envt.ce,hi,elL,eHas,HO]
 have hv:=Nr e.valid h;by_cases h0:h<0
 ·rw [gC h0] at hv;simp [dP,Envt.ce,hm,elL,eHas,rX,bZ,h0,gC h0,hv]
 by_cases h1:(e.Xz.length:Int)<=h
 ·simp [dP,Envt.ce,hm,elL,eHas,rX,bZ,h0,h1,iJ h1,hv];cases (at? e.valid h).getD false<;>simp [hi]
 obtain ⟨m,rfl⟩:=l9 (show 0<=h by omega);have hmk:m<e.Xz.length:=by omega
 have hm2:¬e.Xz.length<=m:=by omega
 cases q:(at? e.valid (m:Int)).getD false<;>rw [q] at hv<;>(try simp at q)<;>simp [dP,Envt.ce,elL,eHas,hm,rX,bZ,hm2,hmk,cS,hv,hi,HO,q]
theorem ON (e:Envt) (h f:Int):aB Φ jN [.agg (Envt.c e),.agg [a7 h,a7 f]]=some (.val (.int .u32 (eGet e h f))):=by
 rw [aD rfl rfl];have h1:=V5 e h f;rw [Envt.ce] at h1;cases q:eHas e h f with
 | false=>
  rw [q] at h1;have:eGet e h f=0:=by
   unfold eGet eHas at*;split
   ·rename_i hm;rw [a8 hm] at q;cases z:at? e.metaF f with
    | none=>rfl
    | some v=>rw [z] at q;cases q
   ·rename_i hm;rw [QA hm] at q;split
    ·rename_i hv;rw [hv,HH] at q;cases z:(at? e.Xz h).bind fun l=>at? l f with
     | none=>rfl
     | some v=>rw [z] at q;cases q
    ·rfl
  simp [t6,Envt.ce,h1,this]
 | true=>
  rw [q] at h1;have:∃k:Nat,f=k/\∃hk:k<(elL e h).length,(elL e h)[k]=eGet e h f:=by
   unfold eGet eHas elL at*;split
   ·rename_i hm;rw [a8 hm] at q;obtain ⟨v,hv⟩:=xZ.1 q;obtain ⟨k,rfl,hk,rfl⟩:=iG hv;exact ⟨k,rfl,hk,by simp [hv]⟩
   ·rename_i hm;rw [QA hm] at q;simp only [cE] at q;rw [a8 q.1];obtain ⟨v,hv⟩:=xZ.1 q.2;obtain ⟨l,h2,h3⟩:=Qt.1 hv;obtain ⟨k,rfl,hk,rfl⟩:=iG h3;exact ⟨k,rfl,by simp [h2,hk],by simp [h2,hk]⟩
  obtain ⟨k,rfl,hk,he⟩:=this;simp [t6,Envt.ce,h1,hk,he,c32]
theorem Mj {p:Prg} {e:Envt} (v:EV p e) (hw:∀h f,wid p h f<=32) (h f:Int):ok32 0 (eGet e h f):=by
 unfold eGet;split
 ·cases z:at? e.metaF f with
  | none=>simp [ok32]
  | some x=>
   obtain ⟨k,rfl,hk,rfl⟩:=iG z;have:=v.fm k _ (Qa hk);have hw:=hw (-1) k;exact iY this (by omega)
 ·split
  ·cases z:(at? e.Xz h).bind fun l=>at? l f with
   | none=>simp [ok32]
   | some x=>
    obtain ⟨l,h2,h3⟩:=Qt.1 z;obtain ⟨m,rfl,hm,rfl⟩:=iG h2;obtain ⟨k,rfl,hk,rfl⟩:=iG h3;have:=v.ff m k _ _ (Qa hm) (Qa hk);have hw:=hw m k;exact iY this (by omega)
  ·simp [ok32]
theorem OV (p:Prg) (h f:Int):0<=wid p h f/\wid p h f<=32:=by
 unfold wid;split
 ·split
  ·simp
  ·rename_i w _ q;have:=AC (by simpa using q);omega
 ·simp
set_option maxRecDepth 6000
theorem un_ok (x:Xd) (hx:ari x.op=1) (a w:Int) (ha:fitW a w) (hc:(comb x w 0 0).2=0):aB Φ v8 [.agg (Xd.c x),.agg [.int .u32 a,a7 w]]=some (.val (.agg [.int .u32 (xUn x a w),a7 (comb x w 0 0).1])):=by
 rw [aD rfl rfl];obtain ⟨op,n,u⟩:=x;have hf:=ha;obtain ⟨w1,w2,a1⟩:=ha;rcases Lz hx with o | o | o | o<;>simp only at o<;>subst o
 ·have e:comb ⟨5,n,u⟩ w 0 0=(w,0):=by simp [comb,ari]
  simp [lQ,Xd.e,TG hf,xUn,e]
 ·have e:(0<=n/\n<=31)/\(comb ⟨6,n,u⟩ w 0 0).1=w:=by
   unfold comb at*;rw [a8 (by simp)] at hc ⊢;split
   ·rename_i c;rw [a8 c] at hc;cases hc
   ·exact ⟨by simp only at*;omega,rfl⟩
  simp [lQ,Xd.e,TH w1 w2 e.1.1 e.1.2,xUn,e.2]
 ·have e:(0<=n/\n<=31)/\(comb ⟨7,n,u⟩ w 0 0).1=w:=by
   unfold comb at*;rw [a8 (by simp)] at hc ⊢;split
   ·rename_i c;rw [a8 c] at hc;cases hc
   ·exact ⟨by simp only at*;omega,rfl⟩
  simp [lQ,Xd.e,TI hf e.1.1 e.1.2,xUn,e.2]
 ·have e:(0<=n/\n+u<=32/\1<=u/\u<=32)/\(comb ⟨8,n,u⟩ w 0 0).1=u:=by
   unfold comb at*;rw [QA (by simp),a8 rfl] at hc ⊢;split
   ·rename_i c;rw [a8 c] at hc;cases hc
   rename_i c;rw [QA c] at hc;split
   ·rename_i c;rw [a8 c] at hc;cases hc
   ·rename_i c2;simp only [not_or,QD] at c c2;have:=AC c2.1;exact ⟨by omega,rfl⟩
  simp [lQ,Xd.e,qx1 (iY a1 (by omega)) e.1.2.2.1 e.1.2.2.2 e.1.1 e.1.2.1,xUn,e.2]
theorem Li (b:Bool):aB Φ qM [.bool b]=some (.val (.agg [.int .u32 (if b then 1 else 0),a7 1])):=by
 rw [aD rfl rfl];cases b<;>simp [DN]
theorem XO (x:Xd) (hx:ari x.op=2) (a b w u:Int) (ha:fitW a w) (hb:fitW b u) (hc:(comb x w u 0).2=0):aB Φ v9 [a7 x.op,.agg [.int .u32 a,a7 w],.agg [.int .u32 b,a7 u]]=some (.val (.agg [.int .u32 (xBin x.op a b w u),a7 (comb x w u 0).1])):=by
 rw [aD rfl rfl];obtain ⟨op,n,z⟩:=x;have o:=Ma hx;obtain ⟨w1,w2,a1⟩:=id ha;simp only at o;by_cases o14:op=14
 ·subst o14;have e:(comb ⟨14,n,z⟩ w u 0).1=w+u/\1<=w+u/\w+u<=32:=by
   unfold comb at*;rw [QA (by simp),QA (by simp),a8 rfl] at hc ⊢;exact IQ hc
  have hw:IntKind.wrap .i64 (w+u)=w+u:=cM (by omega) (by omega);simp [eU,TF ha hb e.2.2,xBin,e.1,hw]
 have e:w=u/\(comb ⟨op,n,z⟩ w u 0).1=if op=15\/op=16 then 1 else w:=by
  unfold comb at*;rw [QA (by simp;omega),QA (by simp;omega),QA o14,QA (by simp;omega)] at hc ⊢;split
  ·rename_i c;rw [a8 c] at hc;cases hc
  ·rename_i c;refine ⟨Decidable.byContradiction fun q=>c ⟨hx,q⟩,?_⟩;simp only;split<;>rfl
 obtain ⟨rfl,e⟩:=e;rw [e];have t1:=Li (decide (a=b));have t2:=Li (decide (a<b));have:op=9\/op=10\/op=11\/op=12\/op=13\/op=15\/op=16:=by omega
 rcases this with rfl | rfl | rfl | rfl | rfl | rfl | rfl
 ·simp [eU,UE w1 w2,xBin]
 ·simp [eU,TJ w1 w2,xBin]
 ·simp [eU,xBin]
 ·simp [eU,xBin]
 ·simp [eU,xBin]
 ·simp at t1;simp [eU,xBin,t1]
 ·simp at t2;simp [eU,xBin,t2]
def mchC (p:Prg) (ps:List Fld) (e:Envt) (args:List Int) (l:List Xd) (i:Int):List AV:=
 Prg.c p++[.slice 2 (ps.map Fld.c)]++e.c++[.slice 1 (args.map c32),.slice 3 (l.map Xd.c),a7 i]
theorem wH (p:Prg) (ps:List Fld) (e:Envt) (args:List Int) (l:List Xd) (i:Int):mchC p ps e args l i=(mW p [.slice 2 (ps.map Fld.c),.slice 1 (e.valid.map cB),.slice 1 (e.Xz.map (cS 1 c32)),.slice 1 (e.metaF.map c32),.slice 1 (e.payload.map c8),.slice 1 (args.map c32),.slice 3 (l.map Xd.c),a7 i]):=by
  simp [mchC,Prg.e,Envt.ce]
theorem ld_ok (p:Prg) (ps:List Fld) (e:Envt) (args:List Int) (l:List Xd) (i:Int) (x:Xd) (hx:ari x.op=0) (hc:(prim p ps x).2=0) (hg:∀h f,ok32 0 (eGet e h f)) (ha:∀v∈args,ok32 0 v):
  aB Φ v7 [.iptr 17 [mchC p ps e args l i] 0 0,.agg (Xd.c x)]=some (.val (.agg [.int .u32 (xLd e args x (prim p ps x).1),a7 (prim p ps x).1])):=by
 rw [aD rfl rfl];have hp:=Hj p ps x;have hw:=Ff hc;simp only [scC,Prg.e,iU,rT] at hp;rw [hc] at hp;obtain ⟨op,n,z⟩:=x;have ho:op=1\/op=2\/op=3\/op=4:=by
  simp only [ari] at hx;split at hx
  ·omega
  split at hx
  ·cases hx
  split at hx
  ·cases hx
  split at hx<;>cases hx
 simp only [Xd.e] at hp;have hz:ok32 0 0:=by simp [ok32]
 rcases ho with rfl | rfl | rfl | rfl
 ·have e:prim p ps ⟨1,n,z⟩=(z,0)/\0<=n/\n<2^z.toNat:=by
   simp only [prim,if_true] at hc ⊢;split
   ·rename_i c;rw [a8 c] at hc;cases hc
   rename_i c;rw [QA c] at hc;split
   ·rename_i c;rw [a8 c] at hc;cases hc
   ·exact ⟨rfl,by omega,by omega⟩
  obtain ⟨e,n0,n1⟩:=e;rw [e] at hp hw ⊢;have hn:ok32 0 n:=iY (k:=z.toNat) ⟨n0,n1⟩ (by simp only at hw;omega);have hi:=nB hn hw.1 hw.2;have hwr:IntKind.wrap .u32 n=n:=EX hn.1 (by have:=hn.2;omega);simp at hp;simp [hS,wH,Xd.e,hp,gH,hwr,hi,xLd]
 ·have pe:prim p ps ⟨2,n,z⟩=match decl p n z with | some w=>wide w | none=>(0,8):=by simp [prim];rfl
  have e:∃w,prim p ps ⟨2,n,z⟩=(w,0):=by
   rw [pe] at hc ⊢;split
   ·rename_i w q;rw [q] at hc;exact ⟨w,Prod.ext (IQ hc).1 hc⟩
   ·rename_i q;rw [q] at hc;cases hc
  obtain ⟨w,e2⟩:=e;rw [e2] at hp hw ⊢;have hi:=nB (hg n z) hw.1 hw.2;have h2:=ON e n z;rw [Envt.ce] at h2;simp only at hp;simp [hS,wH,Xd.e,hp,gH,h2,hi,xLd]
 ·have pe:prim p ps ⟨3,n,z⟩=match at? ps n with | some f=>wide f.Yc | none=>(0,8):=by simp [prim];rfl
  have e:∃w,0<=n/\prim p ps ⟨3,n,z⟩=(w,0):=by
   rw [pe] at hc ⊢;split
   ·rename_i w q;rw [q] at hc;obtain ⟨k,rfl,_⟩:=iG q;exact ⟨_,by omega,Prod.ext (IQ hc).1 hc⟩
   ·rename_i q;rw [q] at hc;cases hc
  obtain ⟨w,n0,e2⟩:=e;rw [e2] at hp hw ⊢;obtain ⟨k,rfl⟩:=l9 n0;simp only at hp;by_cases hk:k<args.length
  ·have hi:=nB (ha _ (Qd hk)) hw.1 hw.2;simp [hS,wH,Xd.e,hp,gH,hk,hi,xLd,c32]
  ·have hi:=nB hz hw.1 hw.2;simp [hS,wH,Xd.e,hp,gH,hk,hi,xLd]
 ·have pe:prim p ps ⟨4,n,z⟩=if (at? p.Xo n).isSome then (1,0) else (0,8):=by simp [prim]
  have e:0<=n/\prim p ps ⟨4,n,z⟩=(1,0):=by
   rw [pe] at hc ⊢;split
   ·rename_i q;rw [HO] at q;simp only [decide_eq_true_eq] at q;exact ⟨q.1,rfl⟩
   ·rename_i q;rw [QA q] at hc;cases hc
  obtain ⟨n0,e2⟩:=e;rw [e2] at hp hw ⊢;obtain ⟨k,rfl⟩:=l9 n0;have h1:ok32 0 1:=by simp [ok32]
  have hi0:=nB hz (w:=1) (by decide) (by decide);have hi1:=nB h1 (w:=1) (by decide) (by decide);simp only at hp;by_cases hk:k<e.valid.length
  ·cases q:e.valid[k]<;>simp [hS,wH,Xd.e,hp,gH,hk,q,hi0,hi1,xLd,cB]
  ·simp [hS,wH,Xd.e,hp,gH,hk,hi0,xLd]
theorem aE (t:Nat) (a b:List (Nat×AO)):look t (a++b)=(look t a).or (look t b):=HM t a b
theorem aA (j t:Nat) (y:AO):∀O:List (Nat×AO),look j (setl t y O)=if j=t then (look t O).map (fun _=>y) else look j O
 | []=>by simp
 | (u,w)::r=>by
  have ih:=aA j t y r;by_cases hu:u=t
  ·subst hu;by_cases hj:j=u
   ·subst hj;simp
   ·have:¬u=j:=fun h=>hj h.symm
    simp [hj,this]
  ·by_cases hj:j=t
   ·subst hj;simp [hu];simpa using ih
   ·by_cases hv:u=j
    ·subst hv;simp [hu]
    ·simp [hu,hv,hj];simpa [hj] using ih
theorem yJ {j t:Nat} (h:j≠t):∀O:List (Nat×AO),look j (dropl t O)=look j O
 | []=>by simp
 | (u,w)::r=>by
  have ih:=yJ h r;by_cases hu:u=t
  ·subst hu;have:¬u=j:=fun e=>h e.symm
   simp [this]
  ·by_cases hv:u=j
   ·subst hv;simp [hu]
   ·simp [hu,hv,ih]
theorem Bb {j t:Nat}:∀O:List (Nat×AO),look j O=none->look j (dropl t O)=none
 | [],_=>by simp
 | (u,w)::r,h=>by
  by_cases hv:u=j
  ·subst hv;simp at h
  ·simp [hv] at h;have ih:=Bb (t:=t) r h;by_cases hu:u=t
   ·subst hu;simpa using h
   ·simp [hu,hv,ih]
section
variable (z t i o n:Nat) (es:List (List AV))
@[simp] theorem Vy:lenOf (.slice z es)=some es.length:=rfl
@[simp] theorem Vw:lenOf (.Xt z es)=some es.length:=rfl
@[simp] theorem Vv:lenOf (.app z es t)=some es.length:=rfl
@[simp] theorem Vx:lenOf (.row t z o n)=some n:=rfl
@[simp] theorem Ss (cs:List AV):AV.cells (.agg cs)=some cs:=rfl
@[simp] theorem Su (k:IntKind) (x:Int):AV.cells (.int k x)=some [.int k x]:=rfl
@[simp] theorem Rn (b:Bool):AV.cells (.bool b)=some [.bool b]:=rfl
@[simp] theorem Sx (b:List UInt8):AV.cells (.str b)=some [.str b]:=rfl
@[simp] theorem Pu:AV.cells .nilptr=some [.nilptr]:=rfl
@[simp] theorem Pt:AV.cells .nilmap=some [.nilmap]:=rfl
@[simp] theorem Ue:AV.cells (.slice z es)=some [.slice z es]:=rfl
@[simp] theorem Uc:AV.cells (.Xt z es)=some [.Xt z es]:=rfl
@[simp] theorem Vl:AV.cells (.app z es t)=some [.app z es t]:=rfl
@[simp] theorem Ud:AV.cells (.row t z o n)=some [.row t z o n]:=rfl
@[simp] theorem Sw:AV.cells (.ptr t z o n)=some [.ptr t z o n]:=rfl
@[simp] theorem Rp:AV.cells (.iptr z es o n)=some [.iptr z es o n]:=rfl
@[simp] theorem Sv:AV.cells (.map t)=some [.map t]:=rfl
@[simp] theorem Ro (f:Fn) (a b:List AV):AV.cells (.func f a b)=some [.func f a b]:=rfl
end
theorem Tail_append_iff {a b:List (Nat×AO)} {n:Nat}:Tail (a++b) n↔Tail a n/\Tail b n:=by
 constructor
 ·intro h;refine ⟨fun j hj=>?_,fun j hj=>?_⟩
  ·have:=h j hj;rw [aE] at this;cases hl:look j a with
   | none=>rfl
   | some x=>rw [hl] at this;cases this
  ·have:=h j hj;rw [aE] at this;cases hl:look j a with
   | none=>rw [hl] at this;simpa using this
   | some x=>rw [hl] at this;cases this
 ·rintro ⟨h1,h2⟩ j hj;rw [aE,h1 j hj,h2 j hj];rfl
theorem Tail_cons_iff {u n:Nat} {x:AO} {r:List (Nat×AO)}:Tail ((u,x)::r) n↔u<n/\Tail r n:=by
 constructor
 ·intro h;have hu:u<n:=by
   refine Decidable.byContradiction fun hc=>?_
   have:=h u (by omega);simp at this
  refine ⟨hu,fun j hj=>?_⟩;have:=h j hj;have hne:¬u=j:=by omega
  simpa [hne] using this
 ·rintro ⟨h1,h2⟩ j hj;have hne:¬u=j:=by omega
  simp [hne,h2 j hj]
theorem bW {t n:Nat} {y:AO} {O:List (Nat×AO)} (h:Tail O n):Tail (setl t y O) n:=by
 intro j hj;rw [aA];split
 ·rename_i e;rw [<- e,h j hj];rfl
 ·exact h j hj
theorem Gt {t n:Nat} {O:List (Nat×AO)} (h:Tail O n):Tail (dropl t O) n:=fun j hj=>Bb _ (h j hj)
theorem Tail.lt {O:List (Nat×AO)} {n j:Nat} {x:AO} (h:Tail O n) (hl:look j O=some x):j<n:=by
 refine Decidable.byContradiction fun hc=>?_
 rw [h j (by omega)] at hl;cases hl
def Kp (X:Nat->Prop) (N:Nat) (O O':List (Nat×AO)):Prop:=∀j,j<N->¬X j->look j O'=look j O
theorem Kp.refl {X:Nat->Prop} {N:Nat} {O:List (Nat×AO)}:Kp X N O O:=fun _ _ _=>rfl
theorem Kp.trans {X:Nat->Prop} {N N':Nat} {O O' O'':List (Nat×AO)} (h:Kp X N O O') (h2:Kp X N' O' O'') (hn:N<=N'):Kp X N O O'':=
 fun j hj hx=>(h2 j (by omega) hx).trans (h j hj hx)
theorem Kp.mono {X Y:Nat->Prop} {N:Nat} {O O':List (Nat×AO)} (h:Kp X N O O') (hx:∀j,j<N->X j->Y j):Kp Y N O O':=
 fun j hj hy=>h j hj fun hc=>hy (hx j hj hc)
section
variable {Φ:FuncId->Option AFun} {I:Type} {fin:Option (Ex×St)->Option I}
theorem loopQ {U:Type} (m:U->Nat) (Inv:U->Env->AH->Prop) (R:U->Option I->Prop) {b:Xu} {K:List Go.Av.Fr}
  (step:∀x e h L,(∀j s,go Φ fin L (.exit j) s=go Φ fin K (.exit j) s)->Inv x e h->(∀y e' h',m y<m x->Inv y e' h'->R y (go Φ fin L .normal ⟨e',h'⟩))->R x (go Φ fin (.c b::L) .normal ⟨e,h⟩)):
  ∀x e h,Inv x e h->R x (go Φ fin (.c (.loop b)::K) .normal ⟨e,h⟩):=by
 have key:∀n x e h,m x<=n->Inv x e h->R x (go Φ fin (.c (.loop b)::K) .normal ⟨e,h⟩):=by
  intro n
  induction n with
  | zero=>
   intro x e h hn hi;rw [cL];exact step x e h _ (fun j s=>by simp) hi fun y e' h' hlt=>by omega
  | succ n ih=>
   intro x e h hn hi;rw [cL];exact step x e h _ (fun j s=>by simp) hi fun y e' h' hlt hy=>ih y e' h' (by omega) hy
 intro x e h hi;exact key (m x) x e h (Qb _) hi
theorem eF (N:Nat) (Inv:Nat->Env->AH->Prop) (Q:Option I->Prop) {b:Xu} {K:List Go.Av.Fr}
  (step:∀i e h L,i<N->(∀j s,go Φ fin L (.exit j) s=go Φ fin K (.exit j) s)->Inv i e h->(∀e' h',Inv (i+1) e' h'->Q (go Φ fin L .normal ⟨e',h'⟩))->Q (go Φ fin (.c b::L) .normal ⟨e,h⟩))
  (last:∀e h L,(∀j s,go Φ fin L (.exit j) s=go Φ fin K (.exit j) s)->Inv N e h->Q (go Φ fin (.c b::L) .normal ⟨e,h⟩)):
  ∀i e h,i<=N->Inv i e h->Q (go Φ fin (.c (.loop b)::K) .normal ⟨e,h⟩):=by
 intro i e h hi hinv;refine loopQ (U:={ i:Nat // i<=N }) (fun x=>N - x.1) (fun x=>Inv x.1) (fun _=>Q) ?_ ⟨i,hi⟩ e h hinv;intro ⟨i,hi⟩ e h L hL hinv ih;rcases Nat.lt_or_eq_of_le hi with hlt | heq
 ·exact step i e h L hlt hL hinv fun e' h' hi'=>ih ⟨i+1,hlt⟩ e' h' (by simp;omega) hi'
 ·subst heq;exact last e h L hL hinv
end
def vid:AV->Option Nat
 | .row id _ _ _=>some id
 | _=>none
inductive Mu (O:List (Nat×AO)) (z:Nat):AV->List (List AV)->Prop
 | nilF:Mu O z (.Xt z []) []
 | nilA (t:Nat):Mu O z (.app z [] t) []
 | row (id:Nat) (es es0:List (List AV)) (n:Nat) (hn:n=es.length) (hl:look id O=some (.row z es0)) (hle:es.length<=es0.length) (ht:es0.take es.length=es):Mu O z (.row id z 0 n) es
theorem Mu.len {O:List (Nat×AO)} {z:Nat} {v:AV} {es:List (List AV)} (h:Mu O z v es):lenOf v=some es.length:=by
 cases h with
 | nilF=>rfl
 | nilA=>rfl
 | row id _ es0 n hn=>subst hn;rfl
theorem Mu.fr {O O':List (Nat×AO)} {z:Nat} {v:AV} {es:List (List AV)} (h:Mu O z v es) (hf:∀j,vid v=some j->look j O'=look j O):Mu O' z v es:=by
 cases h with
 | nilF=>exact .nilF
 | nilA=>exact .nilA _
 | row id _ es0 n hn hl hle ht=>exact .row id es es0 n hn (by rw [hf id rfl,hl]) hle ht
theorem Mu.snp {O:List (Nat×AO)} {z N n:Nat} {v:AV} {es:List (List AV)} (h:Mu O z v es):snap (n+1) ⟨O,N⟩ v=(mapO (mapO (snap n ⟨O,N⟩)) es).map (.slice z):=by
 cases h with
 | nilF=>simp
 | nilA=>simp
 | row id _ es0 k hn hl hle ht=>
  subst hn;simp [hl,hle,ht]
inductive Re (O:List (Nat×AO)) (z:Nat):AV->List (List AV)->Prop
 | sl (es:List (List AV)):Re O z (.slice z es) es
 | fs (es:List (List AV)):Re O z (.Xt z es) es
 | ap (es:List (List AV)) (t:Nat):Re O z (.app z es t) es
 | row (id:Nat) (es es0:List (List AV)) (n:Nat) (hn:n=es.length) (hl:look id O=some (.row z es0)) (hle:es.length<=es0.length) (ht:es0.take es.length=es):Re O z (.row id z 0 n) es
theorem Mu.re {O:List (Nat×AO)} {z:Nat} {v:AV} {es:List (List AV)} (h:Mu O z v es):Re O z v es:=by
 cases h with
 | nilF=>exact .fs []
 | nilA=>exact .ap [] _
 | row id _ es0 n hn hl hle ht=>exact .row id es es0 n hn hl hle ht
theorem Re.fr {O O':List (Nat×AO)} {z:Nat} {v:AV} {es:List (List AV)} (h:Re O z v es) (hf:∀j,vid v=some j->look j O'=look j O):Re O' z v es:=by
 cases h with
 | sl=>exact .sl es
 | fs=>exact .fs es
 | ap=>exact .ap es _
 | row id _ es0 n hn hl hle ht=>exact .row id es es0 n hn (by rw [hf id rfl,hl]) hle ht
theorem Re.len {O:List (Nat×AO)} {z:Nat} {v:AV} {es:List (List AV)} (h:Re O z v es):lenOf v=some es.length:=by
 cases h with
 | sl=>rfl
 | fs=>rfl
 | ap=>rfl
 | row id _ es0 n hn=>subst hn;rfl
theorem Re.snp {O:List (Nat×AO)} {z N n:Nat} {v:AV} {es:List (List AV)} (h:Re O z v es) (he:mapO (mapO (snap n ⟨O,N⟩)) es=some es):snap (n+1) ⟨O,N⟩ v=some (.slice z es):=by
 cases h with
 | sl=>simp
 | fs=>simp
 | ap=>simp
 | row id _ es0 k hn hl hle ht=>
  subst hn;simp [hl,hle,ht,he]
theorem Re.cells {O:List (Nat×AO)} {z:Nat} {v:AV} {es:List (List AV)} (h:Re O z v es):v.cells=some [v]:=by
 cases h<;>rfl
theorem Mu.cells {O:List (Nat×AO)} {z:Nat} {v:AV} {es:List (List AV)} (h:Mu O z v es):v.cells=some [v]:=h.re.cells
def EW (p:Prg) (x:Tbl) (i:Nat):Option Int:=(x.Xx[i]?).bind fun a=>if a<0\/(p.Xx.length:Int)<=a then some (8:Int) else if (x.Xx.take i).contains a then some 7 else none
def GS (p:Prg) (x:Tbl):Int:=if x.Xx.contains x.Yb.Xy then kZ p x.Yb else 8
theorem SF (p:Prg) (x:Tbl):IU p x=(fe (EW p x) x.Xx.length 0).getD (GS p x):=by
 unfold IU;show (match fe (EW p x) x.Xx.length 0 with | some e=>e | none=>GS p x)=_;cases fe (EW p x) x.Xx.length 0<;>rfl
theorem SG (p:Prg) (f:PrgS p) (x:Tbl) (hl:x.Xx.length<2^40) (hg:x.Yb.args.length<2^40):aB Φ uC [.agg (Prg.c p),.agg (Tbl.c x)]=some (.val (a7 (IU p x))):=by
 rw [aD rfl rfl,SF];simp [C5,Prg.e,Tbl.e];refine G7 x.Xx.length (fun i e H=>look 2 e=some (.iptr 9 [Prg.c p] 0 0)/\look 3 e=some (.iptr 6 [Tbl.c x] 0 0)/\look 5 e=some (.map 0)/\look 10 e=some (.slice 1 (x.Xx.map cI))/\look 11 e=some (a7 x.Xx.length)/\look 12 e=some (a7 i)/\
   H=⟨[(0,.map (setM (x.Xx.take i)))],1⟩)
  (fun i=>some (Rt.val (a7 ((fe (EW p x) x.Xx.length i).getD (GS p x))))) ?_ ?_ 0 _ _ (Qc _) ?_
 ·rintro i e _ L hi hL ⟨h2,h3,h5,h10,h11,h12,rfl⟩ ih;have hw:=aP i (by omega);rw [Prg.e] at h2;by_cases z0:x.Xx[i]<0
  ·rw [bS (x:=8) hi (by simp [EW,hi,z0])];simp [c_239_l0,cI,h10,h11,h12,hi,z0]
  by_cases z1:(p.Xx.length:Int)<=x.Xx[i]
  ·rw [bS (x:=8) hi (by simp [EW,hi,z0,z1])];simp [c_239_l0,cI,h2,h10,h11,h12,hi,z0,z1]
  have hfnd:=Cl x.Xx[i] (x.Xx.take i);cases q:(x.Xx.take i).contains x.Xx[i] with
  | true=>
   rw [q] at hfnd;rw [bS (x:=7) hi (by simp only [EW,Qa hi,gI];rw [QA (by omega),q];rfl)];simp [c_239_l0,cI,h2,h5,h10,h11,h12,hi,z0,z1,hfnd]
  | false=>
   rw [q] at hfnd;have hput:=Kq x.Xx[i] (x.Xx.take i) q;rw [<- Qh hi] at hput;rw [fI hi (by simp only [EW,Qa hi,gI];rw [QA (by omega),q];rfl)];simp [c_239_l0,cI,h2,h5,h10,h11,h12,hi,z0,z1,hfnd,hput,hw];exact ih _ _ ⟨by simp [h2,Prg.e],by simp [h3],by simp [h5],by simp [h10],by simp [h11],by simp,rfl⟩
 ·rintro e _ L hL ⟨h2,h3,h5,h10,h11,h12,rfl⟩;rw [gM,kW];have hfnd:=Cl x.Yb.Xy x.Xx;have hc:=NQ p f x.Yb hg;simp only [Prg.e,Xb.e] at hc;rw [Prg.e] at h2;rw [Tbl.e] at h3;cases q:x.Xx.contains x.Yb.Xy with
  | true=>
   rw [q] at hfnd;rw [show GS p x=kZ p x.Yb by simp only [GS,q];rfl];simp [c_239_l0,c_239_k1,h2,h3,h5,h11,h12,hL,hfnd,hc]
  | false=>
   rw [q] at hfnd;rw [show GS p x=8 by simp only [GS,q];rfl];simp [c_239_l0,c_239_k1,h3,h5,h11,h12,hL,hfnd]
 ·simp [Prg.e,Tbl.e,setM]
theorem Ep (p:Prg) (f:PrgS p) (t:Int):aB Φ lU [.agg (Prg.c p),a7 t]=some (.val (.tup [a7 (tblE p t).1,a7 (tblE p t).2])):=by
 rw [aD rfl rfl];by_cases i0:t<0
 ·simp [dO,Prg.e,i0,tblE,gC i0]
 by_cases i1:(p.Xm.length:Int)<=t
 ·simp [dO,Prg.e,i0,i1,tblE,iJ i1]
 obtain ⟨k,rfl⟩:∃k:Nat,t=k:=⟨t.toNat,by omega⟩;have hk:k<p.Xm.length:=by omega
 have hm:=Qd hk;have n1:=DY p.Xm[k].name (f.tn _ hm);have h1:=S0 p p.Xm[k] (f.tk _ hm);have h2:=SG p f p.Xm[k] (f.ta _ hm) (f.tg _ hm);simp only [Prg.e,Tbl.e] at h1 h2;cases q1:idS p.Xm[k].name with
 | false=>rw [q1] at n1;simp [dO,Prg.e,Tbl.e,hk,Qf.2 hk,n1,tblE,q1]
 | true=>
 rw [q1] at n1;by_cases z0:6<p.Xm[k].keys.length
 ·simp [dO,Prg.e,Tbl.e,hk,Qf.2 hk,n1,tblE,q1,z0]
 by_cases z1:16<p.Xm[k].Xx.length
 ·simp [dO,Prg.e,Tbl.e,hk,Qf.2 hk,n1,tblE,q1,z0,z1]
 by_cases z2:p.Xm[k].size<1
 ·simp [dO,Prg.e,Tbl.e,hk,Qf.2 hk,n1,tblE,q1,z0,z1,z2]
 by_cases z3:256<p.Xm[k].size
 ·simp [dO,Prg.e,Tbl.e,hk,Qf.2 hk,n1,tblE,q1,z0,z1,z2,z3]
 by_cases y1:(AF p p.Xm[k]).2=0
 rotate_left
 ·simp [dO,Prg.e,Tbl.e,hk,Qf.2 hk,n1,tblE,q1,z0,z1,z2,z3,h1,y1]
 rw [y1] at h1;by_cases y2:IU p p.Xm[k]=0
 ·rw [y2] at h2;simp [dO,Prg.e,Tbl.e,hk,Qf.2 hk,n1,tblE,q1,z0,z1,z2,z3,h1,y1,h2,y2]
 ·simp [dO,Prg.e,Tbl.e,hk,Qf.2 hk,n1,tblE,q1,z0,z1,z2,z3,h1,y1,h2,y2]
theorem qx4 (x y:BitVec 32):x&&& ~~~y=0#32↔x&&& y=x:=by
 constructor
 ·intro h;apply BitVec.eq_of_getLsbD_eq;intro i hi;have:=congrArg (·.getLsbD i) h;simp [hi] at this ⊢;exact this
 ·intro h;apply BitVec.eq_of_getLsbD_eq;intro i hi;have:=congrArg (·.getLsbD i) h;simp [hi] at this ⊢;exact this
theorem Au {n:Int} (h1:0<=n) (h2:n<4294967296):IntKind.wrap .u32 n=n:=by
 have e1:(2:Int)^32=4294967296:=rfl;simp only [IntKind.wrap,IntKind.bits,IntKind.signed,J6,e1];rw [QA (by simp)];omega
theorem Mv {v:Int} (h:ok32 0 v):BitVec.ofInt 32 v=BitVec.ofNat 32 v.toNat:=by
 obtain ⟨h1,h2⟩:=h;apply BitVec.eq_of_toNat_eq;simp;omega
theorem Gh {v m:Int} (hv:ok32 0 v) (hm:ok32 0 m):GC .u32 v m=0↔v.toNat&&& m.toNat=v.toNat:=by
 have hv2:=hv.2;have hm2:=hm.2;unfold GC;show IntKind.wrap .u32 ((BitVec.ofInt 32 v&&& ~~~BitVec.ofInt 32 m).toNat:Int)=0↔_;have hlt:=(BitVec.ofInt 32 v&&& ~~~BitVec.ofInt 32 m).isLt;rw [Au (by omega) (by omega)];rw [show (((BitVec.ofInt 32 v&&& ~~~BitVec.ofInt 32 m).toNat:Int)=0)↔(BitVec.ofInt 32 v&&& ~~~BitVec.ofInt 32 m)=0#32 by
  rw [<- BitVec.toNat_inj];simp only [MG];omega]
 rw [qx4,Mv hv,Mv hm,<- BitVec.toNat_inj,BitVec.toNat_and,MG,MG,J2 (by omega),J2 (by omega)]
theorem Di (p:Prg) (s:Nat) (n:Int):aB Φ qE [.agg (Prg.c p),a7 s,a7 n]=some (.val (.bool (nJ p s n))):=by
 rw [aD rfl rfl];by_cases n1:n= -1
 ·simp [lS,Prg.e,nJ,n1]
 by_cases n2:n= -2
 ·simp [lS,Prg.e,nJ,n2]
 by_cases n3:(s:Int)<n
 ·simp [lS,Prg.e,nJ,n1,n2,n3]
 ·simp [lS,Prg.e,nJ,n1,n2,n3]
theorem QY (p:Prg) (s:Nat) (hs:s<p.Xw.length) (c:Xj) (h1:ok32 0 c.value) (h2:ok32 0 c.Yd):aB Φ vE [.agg (Prg.c p),a7 s,.agg (Xj.c c)]=some (.val (a7 (qU p s p.Xw[s] c))):=by
 rw [aD rfl rfl];have hw:=IP p p.Xw[s].on.header p.Xw[s].on.field;have f1:=IC c.value (wid p p.Xw[s].on.header p.Xw[s].on.field);have f2:=IC c.Yd (wid p p.Xw[s].on.header p.Xw[s].on.field);have hl:=Di p s c.next;have ha:=Gh h1 h2;simp only [Prg.e] at hw hl;cases q1:fits c.value (wid p p.Xw[s].on.header p.Xw[s].on.field) with
 | false=>rw [q1] at f1;simp [jH,Prg.e,Xj.e,Xc.e,hs,hw,f1,qU,q1]
 | true=>
 rw [q1] at f1;cases q2:fits c.Yd (wid p p.Xw[s].on.header p.Xw[s].on.field) with
 | false=>rw [q2] at f2;simp [jH,Prg.e,Xj.e,Xc.e,hs,hw,f1,f2,qU,q1,q2]
 | true=>
 rw [q2] at f2;by_cases z:GC .u32 c.value c.Yd=0
 ·have z':=ha.1 z;cases q3:nJ p s c.next with
  | true=>rw [q3] at hl;simp [jH,Prg.e,Xj.e,Xc.e,hs,hw,f1,f2,hl,qU,q1,q2,q3,z,z']
  | false=>rw [q3] at hl;simp [jH,Prg.e,Xj.e,Xc.e,hs,hw,f1,f2,hl,qU,q1,q2,q3,z,z']
 ·have z':¬(c.value.toNat&&& c.Yd.toNat=c.value.toNat):=fun h=>z (ha.2 h)
  simp [jH,Prg.e,Xj.e,Xc.e,hs,hw,f1,f2,qU,q1,q2,z,z']
def EO (p:Prg) (s:Nat) (x:Xc) (i:Nat):Option (Int×Int):=(x.cases[i]?).bind fun c=>if qU p s x c=0 then none else some ((i:Int),qU p s x c)
def stF (p:Prg) (s:Nat) (x:Xc):Int×Int:=if nJ p s x.Yb then (0,0) else (-1,14)
def stK (p:Prg) (s:Nat) (x:Xc):Int×Int:=
 if x.select=true/\wid p x.on.header x.on.field=0 then (-1,8)
 else if x.select=false/\0<x.cases.length then (-1,11)
 else (fe (EO p s x) x.cases.length 0).getD (stF p s x)
theorem ZX (p:Prg) (s:Nat) (x:Xc):stE p s x=if 4<x.extract.length\/8<x.cases.length then (-1,12)
  else if x.extract.any (fun h=>decide (h<0) || decide ((p.Xo.length:Int)<=h)) then (-1,8) else stK p s x:=by
 unfold stE stK;show (if _ then _ else if _ then _ else if _ then _ else if _ then _ else (match fe (EO p s x) x.cases.length 0 with | some e=>e | none=>stF p s x))=_;cases fe (EO p s x) x.cases.length 0<;>rfl
theorem A' (p:Prg) (s:Nat) (hs:s<p.Xw.length) (hv:∀c∈p.Xw[s].cases,ok32 0 c.value/\ok32 0 c.Yd) (hl:p.Xw[s].cases.length<2^40) (e:Env) (n:Nat)
  (h1:look 1 e=some (a7 s)) (h2:look 2 e=some (.iptr 9 [Prg.c p] 0 0)) (h6:look 6 e=some (.iptr 7 [Xc.c p.Xw[s]] 0 0)):
  go Φ (finP [.tmp 4,.tmp 5]) [.c c_315_k3] .normal ⟨e,⟨[],n⟩⟩=some (.val (.tup [a7 (stK p s p.Xw[s]).1,a7 (stK p s p.Xw[s]).2])):=by
 have hw:=IP p p.Xw[s].on.header p.Xw[s].on.field;simp only [Prg.e] at hw;rw [Prg.e] at h2;rw [Xc.e] at h6;cases q:p.Xw[s].select with
 | true=>
  rw [q] at h6;by_cases z:wid p p.Xw[s].on.header p.Xw[s].on.field=0
  ·rw [z] at hw;simp [c_315_k3,h2,h6,hw,stK,q,z]
  rw [show stK p s p.Xw[s]=(fe (EO p s p.Xw[s]) p.Xw[s].cases.length 0).getD (stF p s p.Xw[s]) by simp [stK,q,z]];simp [c_315_k3,h2,h6,hw,z];refine eS p.Xw[s].cases.length (fun _=>[]) 0 (fun i e=>look 1 e=some (a7 s)/\look 2 e=some (.iptr 9 [Prg.c p] 0 0)/\look 6 e=some (.iptr 7 [Xc.c p.Xw[s]] 0 0)/\look 65 e=some (.slice 3 (p.Xw[s].cases.map Xj.c))/\look 66 e=some (a7 p.Xw[s].cases.length)/\look 67 e=some (a7 i))
   (fun i=>some (Rt.val (.tup [a7 ((fe (EO p s p.Xw[s]) p.Xw[s].cases.length i).getD (stF p s p.Xw[s])).1,a7 ((fe (EO p s p.Xw[s]) p.Xw[s].cases.length i).getD (stF p s p.Xw[s])).2]))) ?_ ?_ 0 _ _ (Qc _) (Qc _) ?_
  ·rintro i e n L hi hL _ ⟨h1,h2,h6,h65,h66,h67⟩ ih;have hw:=aP i (by omega);have hc:=hv _ (Qd hi);have hE:=QY p s hs p.Xw[s].cases[i] hc.1 hc.2;simp only [Prg.e,Xj.e] at hE;rw [Prg.e] at h2;by_cases y:qU p s p.Xw[s] p.Xw[s].cases[i]=0
   ·rw [y] at hE;rw [fI hi (by simp [EO,hi,y])];simp [c_315_l1,Xj.e,h1,h2,h65,h66,h67,hi,hE,hw];exact ih _ _ (Qc _) ⟨by simp [h1],by simp [h2,Prg.e],by simp [h6],by simp [h65],by simp [h66],by simp⟩
   ·rw [bS (x:=((i:Int),qU p s p.Xw[s] p.Xw[s].cases[i])) hi (by simp [EO,hi,y])];simp [c_315_l1,Xj.e,h1,h2,h65,h66,h67,hi,hE,y]
  ·rintro e n L hL _ ⟨h1,h2,h6,h65,h66,h67⟩;rw [gM];have hd:=Di p s p.Xw[s].Yb;simp only [Prg.e] at hd;rw [Prg.e] at h2;rw [Xc.e] at h6;cases y:nJ p s p.Xw[s].Yb with
   | true=>rw [y] at hd;simp [c_315_l1,c_315_k2,h1,h2,h6,h66,h67,hL,hd,stF,y]
   | false=>rw [y] at hd;simp [c_315_l1,c_315_k2,h1,h2,h6,h66,h67,hL,hd,stF,y]
  ·simp [h1,h2,h6,Prg.e,Xc.e,q]
 | false=>
  rw [q] at h6;by_cases z:0<p.Xw[s].cases.length
  ·simp [c_315_k3,h6,stK,q,z]
  have z0:p.Xw[s].cases.length=0:=by omega
  rw [show stK p s p.Xw[s]=stF p s p.Xw[s] by simp [stK,q,z0,gM]];simp [c_315_k3,h6,z0];rw [cL];have hd:=Di p s p.Xw[s].Yb;simp only [Prg.e] at hd;cases y:nJ p s p.Xw[s].Yb with
  | true=>rw [y] at hd;simp [c_315_l1,c_315_k2,h1,h2,h6,hd,stF,y]
  | false=>rw [y] at hd;simp [c_315_l1,c_315_k2,h1,h2,h6,hd,stF,y]
theorem ZY (p:Prg) (f:PrgS p) (s:Nat) (hs:s<p.Xw.length):aB Φ uQ [.agg (Prg.c p),a7 s]=some (.val (.tup [a7 (stE p s p.Xw[s]).1,a7 (stE p s p.Xw[s]).2])):=by
 rw [aD rfl rfl,ZX];by_cases z0:4<p.Xw[s].extract.length
 ·simp [oT,Prg.e,Xc.e,hs,z0]
 by_cases z1:8<p.Xw[s].cases.length
 ·simp [oT,Prg.e,Xc.e,hs,z0,z1]
 rw [QA (by omega)];generalize hX:(if p.Xw[s].extract.any (fun h=>decide (h<0) || decide ((p.Xo.length:Int)<=h))=true then ((-1:Int),(8:Int)) else stK p s p.Xw[s])=X;simp [oT,Prg.e,Xc.e,hs,z0,z1];refine (Dl p.Xw[s].extract (fun h=>decide (h<0) || decide ((p.Xo.length:Int)<=h)) (some (Rt.val (.tup [a7 (-1),a7 8]))) (some (Rt.val (.tup [a7 (stK p s p.Xw[s]).1,a7 (stK p s p.Xw[s]).2])))
  (fun i e H=>look 1 e=some (a7 s)/\look 2 e=some (.iptr 9 [Prg.c p] 0 0)/\look 6 e=some (.iptr 7 [Xc.c p.Xw[s]] 0 0)/\look 28 e=some (.slice 1 (p.Xw[s].extract.map cI))/\look 29 e=some (a7 p.Xw[s].extract.length)/\look 30 e=some (a7 i)/\∃n,H=⟨[],n⟩) ?_ ?_ ?_ _ _ ?_).trans ?_
 ·rintro i e _ L hi hL ⟨h1,h2,h6,h28,h29,h30,n,rfl⟩ hb;rw [Prg.e] at h2;simp only [zH,decide_eq_true_eq] at hb;by_cases y0:p.Xw[s].extract[i]<0
  ·simp [c_315_l0,cI,h28,h29,h30,hi,y0]
  ·have y1:(p.Xo.length:Int)<=p.Xw[s].extract[i]:=by omega
   simp [c_315_l0,cI,h2,h28,h29,h30,hi,y0,y1]
 ·rintro i e _ L X hi hL ⟨h1,h2,h6,h28,h29,h30,n,rfl⟩ hb ih;have hw:=aP i (by omega);rw [Prg.e] at h2;simp only [F4,decide_eq_false_iff_not] at hb;simp [c_315_l0,cI,h2,h28,h29,h30,hi,hb,hw];exact ih _ _ ⟨by simp [h1],by simp [h2,Prg.e],by simp [h6],by simp [h28],by simp [h29],by simp,n,rfl⟩
 ·rintro e _ L hL ⟨h1,h2,h6,h28,h29,h30,n,rfl⟩;simp [c_315_l0,h29,h30,hL];refine A' p s hs (fun c hc=>f.sv _ (Qd hs) c hc) (f.sc _ (Qd hs)) _ _ ?_ ?_ ?_
  ·simp [h1]
  ·simp [h2]
  ·simp [h6]
 ·simp [Prg.e,Xc.e]
 ·rw [<- hX];cases p.Xw[s].extract.any (fun h=>decide (h<0) || decide ((p.Xo.length:Int)<=h))<;>rfl
theorem KD {Z I:Type} [BEq I] [LawfulBEq I] [DecidableEq I] (f:Z->I) (a:I):∀l:List Z,(l.map f).contains a=l.any fun y=>decide (f y=a)
 | []=>by simp
 | x::l=>by
  have ih:=KD f a l;simp only [nA,List.contains_cons,F7,ih];congr 1;by_cases h:a=f x
  ·subst h;simp
  ·have h2:¬f x=a:=fun e=>h e.symm
   simp [h,h2]
def parG (p:Prg) (s:Nat):Option (Int×Int×Int):=(p.Xw[s]?).bind fun x=>if idS x.name=false then some ((s:Int),(-1:Int),(6:Int)) else if dupN Xc.name p.Xw s x then some ((s:Int),-1,7)
  else if (stE p s x).2=0 then none else some ((s:Int),(stE p s x).1,(stE p s x).2)
def tup3 (x:Int×Int×Int):Rt:= .val (.tup [a7 x.1,a7 x.2.1,a7 x.2.2])
theorem My (p:Prg) (f:PrgS p):aB Φ pJ [.agg (Prg.c p)]=some (tup3 (parE p)):=by
 rw [aD rfl rfl];by_cases z0:p.Xw.length=0
 ·simp [oI,Prg.e,z0,parE,tup3]
 by_cases z1:12<p.Xw.length
 ·simp [oI,Prg.e,z0,z1,parE,tup3]
 have hE:parE p=(fe (parG p) p.Xw.length 0).getD (0,0,0):=by unfold parE;rw [QA z0,QA z1];rfl
 rw [hE];simp [oI,Prg.e,z0,z1];refine eS p.Xw.length (fun i=>[(0,.map (setS ((p.Xw.map (·.name)).take i)))]) 1 (fun i e=>look 1 e=some (.iptr 9 [Prg.c p] 0 0)/\look 5 e=some (.map 0)/\look 22 e=some (.slice 7 (p.Xw.map Xc.c))/\look 23 e=some (a7 p.Xw.length)/\look 24 e=some (a7 i))
  (fun i=>some (tup3 ((fe (parG p) p.Xw.length i).getD (0,0,0)))) ?_ ?_ 0 _ 1 (Qc _) (Qb _) ?_
 ·rintro i e n L hi hL hn ⟨h1,h5,h22,h23,h24⟩ ih;have hw:=aP i (by omega);have hn0:¬(0=n):=by omega
  have hn1:¬(n=0):=by omega
  have nf:=DY p.Xw[i].name (f.sn _ (Qd hi));have hs:=ZY p f i hi;simp only [Prg.e] at hs;rw [Prg.e] at h1;cases q1:idS p.Xw[i].name with
  | false=>
   rw [q1] at nf;rw [bS (x:=((i:Int),-1,6)) hi (by simp [parG,hi,q1])];simp [c_221_l0,Xc.e,h22,h23,h24,hi,hn0,nf,tup3]
  | true=>
  rw [q1] at nf;have hd:((p.Xw.map (·.name)).take i).contains p.Xw[i].name=dupN Xc.name p.Xw i p.Xw[i]:=by
   rw [<- zI,KD];rfl
  have hfnd:=Jn p.Xw[i].name ((p.Xw.map (·.name)).take i);rw [hd] at hfnd;cases q2:dupN Xc.name p.Xw i p.Xw[i] with
  | true=>
   rw [q2] at hfnd;rw [bS (x:=((i:Int),-1,7)) hi (by simp [parG,hi,q1,q2])];simp [c_221_l0,Xc.e,h5,h22,h23,h24,hi,hn0,nf,hfnd,tup3]
  | false=>
   rw [q2] at hfnd hd;have hput:=Lg p.Xw[i].name ((p.Xw.map (·.name)).take i) hd;rw [show (p.Xw.map (·.name)).take i++[p.Xw[i].name]=(p.Xw.map (·.name)).take (i+1) from (DX hi).symm] at hput;by_cases y:(stE p i p.Xw[i]).2=0
   ·rw [y] at hs;rw [fI hi (by simp [parG,hi,q1,q2,y])];simp [c_221_l0,Xc.e,h1,h5,h22,h23,h24,hi,hn0,nf,hfnd,hput,hs,hw];exact ih _ _ (by omega) ⟨by simp [h1,Prg.e],by simp [h5],by simp [h22],by simp [h23],by simp⟩
   ·rw [bS (x:=((i:Int),(stE p i p.Xw[i]).1,(stE p i p.Xw[i]).2)) hi (by simp [parG,hi,q1,q2,y])];simp [c_221_l0,Xc.e,h1,h5,h22,h23,h24,hi,hn0,nf,hfnd,hput,hs,y,tup3]
 ·rintro e n L hL hn ⟨h1,h5,h22,h23,h24⟩;rw [gM];simp [c_221_l0,c_221_k1,h23,h24,hL,tup3]
 ·simp [Prg.e]
theorem qy7 (l:List Int) (x:Int) (hl:l.length<2^40):aB Φ vF [.slice 1 (l.map cI),a7 x]=some (.val (a7 (ix (fun s=>decide (x=s)) l 0))):=by
 rw [aD rfl rfl];simp [D9];refine (mQ l.length (fun i e=>look 0 e=some (.slice 1 (l.map cI))/\look 1 e=some (a7 x)/\look 7 e=some (a7 l.length)/\look 8 e=some (a7 i))
  (fun i=>some (.val (a7 (ix (fun s=>decide (x=s)) l i)))) ?_ ?_ 0 _ (Qc _) ?_).trans (by simp)
 ·rintro i e L hi hL ⟨h0,h1,h7,h8⟩ ih;have hw:=aP i (by omega);by_cases z:x=l[i]
  ·rw [KZ hi (by simpa using z)];simp [c_375_l0,cI,h0,h1,h7,h8,hi,<- z]
  ·rw [KS hi (by simpa using z)];simp [c_375_l0,cI,h0,h1,h7,h8,hi,z,hw];exact ih _ ⟨by simp [h0],by simp [h1],by simp [h7],by simp⟩
 ·rintro e L hL ⟨h0,h1,h7,h8⟩;rw [KY];simp [c_375_l0,c_375_k1,h7,h8,hL]
 ·simp
theorem Yt (l:List Int) (x:Int) (hl:l.length<2^40):aB Φ uU [.slice 1 (l.map cI),a7 x]=some (.val (.bool (l.contains x))):=by
 rw [aD rfl rfl];have h:=qy7 l x hl;have e:=OQ (p:=fun s=>decide (x=s)) (l:=l);have e2:l.contains x=l.any fun s=>decide (x=s):=by
  have:=KD (fun y:Int=>y) x l;rw [List.map_id'] at this;rw [this];congr 1;funext y;simp [eq_comm]
 simp [CT,h];have e3:=e.trans e2.symm;simpa using e3
def depG (p:Prg) (i:Nat):Option (Int×Int):=(p.Xr[i]?).bind fun h=>if h<0\/(p.Xo.length:Int)<=h then some ((i:Int),(8:Int)) else if (p.Xr.take i).contains h then some ((i:Int),7) else none
theorem Mi (p:Prg) (f:PrgS p):aB Φ pK [.agg (Prg.c p)]=some (.val (.tup [a7 (depE p).1,a7 (depE p).2])):=by
 rw [aD rfl rfl];by_cases z1:8<p.Xr.length
 ·simp [sS,Prg.e,z1,depE]
 have hE:depE p=(fe (depG p) p.Xr.length 0).getD (0,0):=by unfold depE;rw [QA z1];rfl
 rw [hE];simp [sS,Prg.e,z1];refine mQ p.Xr.length (fun i e=>look 1 e=some (.iptr 9 [Prg.c p] 0 0)/\look 11 e=some (.slice 1 (p.Xr.map cI))/\look 12 e=some (a7 p.Xr.length)/\look 13 e=some (a7 i))
  (fun i=>some (Rt.val (.tup [a7 ((fe (depG p) p.Xr.length i).getD (0,0)).1,a7 ((fe (depG p) p.Xr.length i).getD (0,0)).2]))) ?_ ?_ 0 _ (Qc _) ?_
 ·rintro i e L hi hL ⟨h1,h11,h12,h13⟩ ih;have hw:=aP i (by omega);have hi':i<=p.Xr.length:=by omega
  rw [Prg.e] at h1;by_cases y0:p.Xr[i]<0
  ·rw [bS (x:=((i:Int),8)) hi (by simp [depG,hi,y0])];simp [c_223_l0,cI,h11,h12,h13,hi,y0]
  by_cases y1:(p.Xo.length:Int)<=p.Xr[i]
  ·rw [bS (x:=((i:Int),8)) hi (by simp [depG,hi,y0,y1])];simp [c_223_l0,cI,h1,h11,h12,h13,hi,y0,y1]
  have hc:=Yt (p.Xr.take i) p.Xr[i] (by simp;omega);rw [zI] at hc;cases q:(p.Xr.take i).contains p.Xr[i] with
  | true=>
   rw [q] at hc;rw [bS (x:=((i:Int),7)) hi (by simp only [depG,Qa hi,gI];rw [QA (by omega),q];rfl)];simp [c_223_l0,cI,h1,h11,h12,h13,hi,hi',y0,y1,hc]
  | false=>
   rw [q] at hc;rw [fI hi (by simp only [depG,Qa hi,gI];rw [QA (by omega),q];rfl)];simp [c_223_l0,cI,h1,h11,h12,h13,hi,hi',y0,y1,hc,hw];exact ih _ ⟨by simp [h1,Prg.e],by simp [h11],by simp [h12],by simp⟩
 ·rintro e L hL ⟨h1,h11,h12,h13⟩;rw [gM];simp [c_223_l0,c_223_k1,h12,h13,hL]
 ·simp [Prg.e]
@[simp] theorem Xa.kind_mk (k t:Int) (c:List Xd) (a b:List Xa):(Xa.mk k t c a b).kind=k:=by simp [Xa.kind]
@[simp] theorem Xa.table_mk (k t:Int) (c:List Xd) (a b:List Xa):(Xa.mk k t c a b).table=t:=by simp [Xa.table]
@[simp] theorem Xa.cond_mk (k t:Int) (c:List Xd) (a b:List Xa):(Xa.mk k t c a b).cond=c:=by simp [Xa.cond]
@[simp] theorem Xa.thn_mk (k t:Int) (c:List Xd) (a b:List Xa):(Xa.mk k t c a b).thn=a:=by simp [Xa.thn]
@[simp] theorem Xa.els_mk (k t:Int) (c:List Xd) (a b:List Xa):(Xa.mk k t c a b).els=b:=by simp [Xa.els]
theorem qv3 (k t:Int) (c:List Xd) (a b:List Xa):aB Φ uT [.agg (Xa.c (.mk k t c a b))]=some (.val (.bool (appl (.mk k t c a b)))):=by
 rw [aD rfl rfl];by_cases k1:k=1
 ·simp [tB,Xa.e,appl,k1]
 ·simp [tB,Xa.e,appl,k1]
def iK (p:Prg) (us:List Int) (x:Xa):Int:=
 if x.kind=2 then (if (exE p [] x.cond).2=0 then (if (exE p [] x.cond).1=1 then 0 else 10) else (exE p [] x.cond).2)
 else if x.kind=1\/x.kind=3 then (if x.table<0\/(p.Xm.length:Int)<=x.table then 8
  else if us.contains x.table then 7
  else if x.kind=1/\0<x.thn.length+x.els.length then 5 else 0)
 else 11
def IV (us:List Int) (x:Xa):Int:=if us.contains x.table then 7 else if x.kind=1/\0<x.thn.length+x.els.length then 5 else 0
theorem R5 {p:Prg} (k t:Int) (c:List Xd) (a b:List Xa) (us:List Int) (ha:a.length<2^40) (hb:b.length<2^40) (hu:us.length<2^40) (e:Env)
  (h4:look 4 e=some (.iptr 5 [Xa.c (.mk k t c a b)] 0 0)) (h27:look 27 e=some (.slice 1 (us.map cI))) (h28:look 28 e=some (a7 us.length)) (h29:look 29 e=some (a7 0)):
  go Φ (finP [.tmp 6]) [.c (.loop c_320_l0),.b 1,.c c_320_k1,.b 0,.c c_320_k2] .normal ⟨e,⟨[],0⟩⟩=some (.val (a7 (IV us (.mk k t c a b)))):=by
 have hc:=KD (fun y:Int=>y) t us;rw [List.map_id'] at hc;refine (Dl us (fun y=>decide (y=t)) (some (Rt.val (a7 7))) (some (Rt.val (a7 (if k=1/\0<a.length+b.length then 5 else 0))))
  (fun i e H=>look 4 e=some (.iptr 5 [Xa.c (.mk k t c a b)] 0 0)/\look 27 e=some (.slice 1 (us.map cI))/\look 28 e=some (a7 us.length)/\look 29 e=some (a7 i)/\H=⟨[],0⟩) ?_ ?_ ?_ _ _ ⟨h4,h27,h28,h29,rfl⟩).trans ?_
 ·rintro i e _ L hi hL ⟨h4,h27,h28,h29,rfl⟩ hb;simp only [decide_eq_true_eq] at hb;rw [Xa.e] at h4;simp [c_320_l0,cI,h4,h27,h28,h29,hi,hb]
 ·rintro i e _ L X hi hL ⟨h4,h27,h28,h29,rfl⟩ hb ih;have hw:=aP i (by omega);simp only [decide_eq_false_iff_not] at hb;rw [Xa.e] at h4;simp [c_320_l0,cI,h4,h27,h28,h29,hi,hb,hw];exact ih _ _ ⟨by simp [h4,Xa.e],by simp [h27],by simp [h28],by simp,rfl⟩
 ·rintro e _ L hL ⟨h4,h27,h28,h29,rfl⟩;rw [Xa.e] at h4;have hw:IntKind.wrap .i64 ((a.length:Int)+b.length)=(a.length:Int)+b.length:=cM (by omega) (by omega);by_cases k1:k=1
  ·by_cases z:0<a.length+b.length
   ·have z':(0:Int)<(a.length:Int)+b.length:=by omega
    simp [c_320_l0,c_320_k1,c_320_k2,h4,h28,h29,hL,hw,k1,z,z']
   ·have z':¬(0:Int)<(a.length:Int)+b.length:=by omega
    have za:a.length=0:=by omega
    have zb:b.length=0:=by omega
    simp [c_320_l0,c_320_k1,c_320_k2,h4,h28,h29,hL,k1,za,zb];rw [show IntKind.wrap .i64 0=0 by decide];simp [Qg za,Qg zb]
  ·simp [c_320_l0,c_320_k1,c_320_k2,h4,h28,h29,hL,k1]
 ·unfold IV;simp only [Xa.table_mk,Xa.kind_mk,Xa.thn_mk,Xa.els_mk,hc];cases us.any (fun y=>decide (y=t))<;>rfl
theorem R4 (p:Prg) (k t:Int) (c:List Xd) (a b:List Xa) (us:List Int) (ha:a.length<2^40) (hb:b.length<2^40) (hu:us.length<2^40):
  aB Φ uS [.agg (Prg.c p),.agg (Xa.c (.mk k t c a b)),.slice 1 (us.map cI)]=some (.val (a7 (iK p us (.mk k t c a b)))):=by
 rw [aD rfl rfl];have hV:=R5 (p:=p) k t c a b us ha hb hu;simp only [Xa.e] at hV;by_cases k1:k=1
 ·by_cases t0:t<0
  ·simp [dQ,c_320_k2,Xa.e,Prg.e,iK,k1,t0]
  by_cases t1:(p.Xm.length:Int)<=t
  ·simp [dQ,c_320_k2,Xa.e,Prg.e,iK,k1,t0,t1]
  have e:iK p us (.mk k t c a b)=IV us (.mk k t c a b):=by simp [iK,IV,k1,t0,t1]
  rw [e];simp [dQ,Xa.e,Prg.e,k1,t0,t1];rw [hV]
  all_goals simp [k1]
 by_cases k3:k=3
 ·by_cases t0:t<0
  ·simp [dQ,c_320_k2,Xa.e,Prg.e,iK,k3,t0]
  by_cases t1:(p.Xm.length:Int)<=t
  ·simp [dQ,c_320_k2,Xa.e,Prg.e,iK,k3,t0,t1]
  have e:iK p us (.mk k t c a b)=IV us (.mk k t c a b):=by simp [iK,IV,k3,t0,t1]
  rw [e];simp [dQ,Xa.e,Prg.e,k3,t0,t1];rw [hV]
  all_goals simp [k3]
 by_cases k2:k=2
 ·have hx:=OL p [] c;simp only [aV,yF] at hx;by_cases z:(exE p [] c).2=0
  ·rw [z] at hx;by_cases y:(exE p [] c).1=1
   ·rw [y] at hx;simp [dQ,c_320_k2,Xa.e,Prg.e,iK,k2,hx,z,y]
   ·simp [dQ,c_320_k2,Xa.e,Prg.e,iK,k2,hx,z,y]
  ·simp [dQ,c_320_k2,Xa.e,Prg.e,iK,k2,hx,z]
 ·simp [dQ,c_320_k2,Xa.e,Prg.e,iK,k1,k2,k3]
end Go.Av
