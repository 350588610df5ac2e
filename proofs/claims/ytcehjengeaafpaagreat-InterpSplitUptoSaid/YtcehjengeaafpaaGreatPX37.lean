/-
 A valid configuration of a valid program: what the contracts need.
-/
import Derived.Test.YtcehjengeaafpaaGreatPX27
set_option linter.unusedVariables false
set_option linter.unusedSimpArgs false
set_option linter.constructorNameAsVariable false
namespace Go.Av
set_option maxRecDepth 8000
theorem Kf {p:Prg} (v:VProg p) {c:Xb} (h:kZ p c=0):(actE p c.Xy).2=0:=by
 unfold kZ at h;split at h
 ·cases h
 ·rename_i a ha;obtain ⟨i,hi,hl,_⟩:=iG ha;rw [hi];exact v.ac i hl
theorem Q6 {p:Prg} {t:Nat} (ht:t<p.Xm.length) {x:Entry} (h:entE p t x=0):kZ p x.call=0:=by
 unfold entE at h;split at h
 ·exact absurd h (by assumption)
 rw [nK,Qa ht] at h;simp only at h;split at h
 ·cases h
 have hf:fe (entG p p.Xm[t] x) p.Xm[t].keys.length 0=none->entF p t x=0:=fun q=>by rw [q] at h;exact h
 cases q:fe (entG p p.Xm[t] x) p.Xm[t].keys.length 0 with
 | some y=>
  rw [q] at h;simp only [jC] at h;subst h;obtain ⟨i,_,hi⟩:=r9 q;exfalso;unfold entG at hi;split at hi
  ·split at hi
   ·cases hi
   ·rename_i hz;injection hi with hi
    exact hz hi
  ·cases hi
 | none=>
  have:=hf q;unfold entF at this;split at this
  ·cases this
  split at this
  ·cases this
  split at this
  ·cases this
  split at this
  ·cases this
  ·exact this
theorem rv_of {p:Prg} (v:VProg p) {rs:List (List Int)} (h:conE p rs=0) (hs:∀l∈rs,∀v∈l,ok32 0 v):RV p rs:=by
 unfold conE at h;split at h
 ·cases h
 rename_i hn;have hn:rs.length=p.Xl.length:=Decidable.of_not_not hn;have h1:∀i,i<rs.length->szG p rs i=none:=by
  refine fe_all.1 ?_;cases q:fe (szG p rs) rs.length 0 with
  | none=>rfl
  | some y=>
   rw [q] at h;simp only [jC] at h;subst h;obtain ⟨i,_,hi⟩:=r9 q;unfold szG at hi;split at hi
   ·split at hi<;>cases hi
   ·cases hi
 rw [fe_all.2 h1,MK] at h;have h2:∀i,i<rs.length->vlG p rs i=none:=by
  refine fe_all.1 ?_;cases q:fe (vlG p rs) rs.length 0 with
  | none=>rfl
  | some y=>
   rw [q] at h;simp only [jC] at h;subst h;obtain ⟨i,_,hi⟩:=r9 q;unfold vlG at hi;split at hi
   ·split at hi<;>cases hi
   ·cases hi
 refine ⟨hn,fun i g x hg hx=>?_⟩;obtain ⟨hi,rfl⟩:=Qm.1 hx;obtain ⟨hi2,rfl⟩:=Qm.1 hg;have a1:=h1 i hi;have a2:=h2 i hi;unfold szG at a1;unfold vlG at a2;rw [hx,hg] at a1 a2;simp only at a1 a2;have hr:=v.rg _ (Qd hi2);unfold regE at hr;split at hr
 ·cases hr
 split at hr
 ·cases hr
 rename_i hwb;have hw:=AC (MJ.2 hwb);refine ⟨yH a1,fun y hy=>⟨(hs _ (Qd hi) y hy).1,?_⟩⟩;split at a2
 ·cases a2
 ·rename_i hany;by_cases z:cP p.Xl[i].Yc<y
  ·exact absurd (zF.2 ⟨y,hy,by simp [z]⟩) hany
  ·rw [KT hw.1 hw.2] at z;omega
theorem OH {B:Nat}:∀(n:Nat) (l:List Xa),SizeOf.sizeOf l<=n->(∀x∈l,Xa.Ok B x)->∀x∈pre l,Xa.Ok B x
 | 0,l,h,_,x,hx=>by
  cases l with
  | nil=>simp [pre] at hx
  | cons y l=>simp at h
 | n+1,[],_,_,x,hx=>by simp [pre] at hx
 | n+1,.mk k t c a b::l,h,ho,x,hx=>by
  simp only [pre,pre1,iU,fV,fG] at hx;have hy:=ho _ (MF ..);have hy2:=hy;simp only [Xa.Ok,Xa.oks_eq] at hy2;simp only [List.cons.sizeOf_spec,Xa.mk.sizeOf_spec] at h;rcases hx with rfl | (hx | hx) | hx
  ·exact hy
  ·exact OH n a (by omega) hy2.2.2.2.1.2 x hx
  ·exact OH n b (by omega) hy2.2.2.2.2.2 x hx
  ·exact OH n l (by omega) (fun z hz=>ho z (zB _ hz)) x hx
theorem Z7 {p:Prg} {l:List Xa} {x:Xa} (hn:yU p l x=0):NdV p x:=by
 unfold yU at hn;by_cases h2:x.kind=2
 ·exact .inl h2
 rw [QA h2] at hn;by_cases h13:x.kind=1\/x.kind=3
 ·rw [a8 h13] at hn;by_cases ht:x.table<0\/(p.Xm.length:Int)<=x.table
  ·rw [a8 ht] at hn;cases hn
  rw [QA ht] at hn;refine .inr ⟨?_,x.table.toNat,by omega,by omega⟩;rcases h13 with h | h
  ·right;have h5:¬(0<x.thn.length+x.els.length):=fun h5=>by
    split at hn
    ·cases hn
    ·rw [a8 ⟨h,h5⟩] at hn;cases hn
   have hz:x.thn.length=0/\x.els.length=0:=by omega
   exact ⟨h,Qg hz.1,Qg hz.2⟩
  ·exact .inl h
 ·rw [QA h13] at hn;cases hn
theorem QZ {x:Xa} (h:Xa.Ok gG x):x.cond.length<2^40:=by
 obtain ⟨k,t,c,a,b⟩:=x;simp only [Xa.Ok,okL] at h;have:=zX;have:=h.2.2.1.1;simp only [Xa.cond];omega
theorem YQ {p:Prg} (fs:PrgS p) (v:VProg p):CtV p:=by
 have vc:=vctl v.ct;refine ⟨fun x hx=>?_,by have:=vc.n;omega,by have:=vc.d;omega⟩;have hok:=OH (B:=gG) _ _ (Qb _) fs.co x hx;obtain ⟨i,hi,rfl⟩:=Qn.1 hx;exact ⟨Z7 (vc.e i hi),QZ hok⟩
theorem pk_of {p:Prg} (fs:PrgS p) (v:VProg p):PKp p:=by
 refine ⟨fs,⟨fs.h,fs.hl,fs.m,?_,fs.r,fun g hg=>?_,fun g hg=>?_⟩,v.hd,fun t ht=>by simp only [tOk,decide_eq_true_eq];exact v.tb t ht,v.dp,v.pa⟩
 ·have:=v.m3 0 (by decide);exact (Qm.1 this).1
 ·have:=v.rg g hg;unfold regE at this;split at this
  ·cases this
  split at this
  ·cases this
  split at this
  ·cases this
  ·omega
 ·have:=v.rg g hg;unfold regE at this;split at this
  ·cases this
  split at this
  ·cases this
  ·rename_i hwb;exact (AC (MJ.2 hwb)).2
theorem Dd {p:Prg} (fs:PrgS p) {c:Xe} (ct:CfgT c) (h:cfgE p c=0):(PKp p/\CtV p)/\CF p c/\RV p c.Xl:=by
 have cv:=(Cd p c).1 h;have v:=vprog cv.prg;refine ⟨⟨pk_of fs v,YQ fs v⟩,⟨cv.rl,cv.dl,fun l hl=>?_,fun d hd=>?_⟩,rv_of v cv.con fun l hl=>(ct.gs l hl).2⟩
 ·obtain ⟨k,hk,rfl⟩:=Qn.1 hl;have hkt:k<p.Xm.length:=by rw [<- cv.rl];exact hk
  have tv:=CfgV.at cv hkt;have hs:=ct.rs _ hl;refine ⟨hs.1,fun x hx=>⟨hs.2 x hx,?_⟩,tv.inc⟩;have hc:=Q6 hkt (tv.ent x hx);exact ⟨Kf v hc,hc,(hs.2 x hx).ar,(hs.2 x hx).al⟩
 ·obtain ⟨k,hk,rfl⟩:=Qn.1 hd;have hkt:k<p.Xm.length:=by rw [<- cv.dl];exact hk
  have tv:=CfgV.at cv hkt;have hs:=ct.ds _ hd;have hc:kZ p c.Xp[k]=0:=by
   have:=tv.Yb;unfold kK at this;split at this
   ·cases this
   ·exact this
  exact ⟨Kf v hc,hc,hs.2,hs.1⟩
def L9 (r:Option Rt):Prop:=∃b,r=some (.val (.bool b))
theorem XY {p:Prg} (fs:PrgS p) {c:Xe} (cs:CS c):L9 (aB Φ FG [.agg p.c,.agg c.c]):=by
 rw [aD rfl rfl];simp [F8,Prg.c,Xe.c];refine eF c.rows.length (fun i E H=>look 2 E=some (.iptr 9 [p.c] 0 0)/\look 3 E=some (.iptr 4 [c.c] 0 0)/\look 7 E=some (a7 i)/\look 6 E=some (a7 0)/\(∃n,look 5 E=some (a7 n))/\H.objs=[]) L9 ?_ ?_ 0 _ _ (Qc _) ?_
 rotate_left 2
 ·exact ⟨by simp [Prg.c],by simp [Xe.c],by simp,by simp,⟨0,by simp⟩,rfl⟩
 ·rintro i E ⟨objs,n⟩ K hi hK ⟨e2,e3,e7,e6,⟨m,e5⟩,h⟩ ih;cases h;have hw:IntKind.wrap .i64 ((i:Int)+1)=((i+1:Nat):Int):=cM (by omega) (by have:=cs.r;omega);simp only [Xe.c] at e3;simp [c_11_l0,cS,e3,e7,e5,hi,hw];refine ih _ _ ?_;exact ⟨by simp [e2],by simp [e3,Xe.c],by simp,by simp [e6],⟨IntKind.wrap .i64 (m+c.rows[i].length),by simp⟩,rfl⟩
 ·rintro E ⟨objs,n⟩ K hK ⟨e2,e3,e7,e6,⟨m,e5⟩,h⟩;cases h;simp only [Xe.c] at e3;simp [F8,c_11_l0,e3,e7] at hK ⊢;rw [hK];simp [c_11_k3];refine eF p.Xx.length (fun i E H=>look 2 E=some (.iptr 9 [p.c] 0 0)/\look 3 E=some (.iptr 4 [c.c] 0 0)/\look 8 E=some (a7 i)/\(∃n,look 5 E=some (a7 n))/\(∃n,look 6 E=some (a7 n))/\H.objs=[]) L9 ?_ ?_ 0 _ _ (Qc _) ?_
  rotate_left 2
  ·exact ⟨by simp [e2],by simp [e3,Xe.c],by simp,⟨m,by simp [e5]⟩,⟨0,by simp [e6]⟩,rfl⟩
  ·rintro i E ⟨objs,n⟩ K hi hK ⟨e2,e3,e8,⟨m,e5⟩,⟨m2,e6⟩,h⟩ ih;cases h;have hw:IntKind.wrap .i64 ((i:Int)+1)=((i+1:Nat):Int):=cM (by omega) (by have:=fs.a;omega);rw [Prg.c] at e2;simp [c_11_l1,Action.e,e2,e8,e6,hi,hw];refine ih _ _ ?_;exact ⟨by simp [e2,Prg.c],by simp [e3],by simp,⟨m,by simp [e5]⟩,⟨IntKind.wrap .i64 (m2+p.Xx[i].body.length),by simp⟩,rfl⟩
  ·rintro E ⟨objs,n⟩ K hK ⟨e2,e3,e8,⟨m,e5⟩,⟨m2,e6⟩,h⟩;cases h;rw [Prg.c] at e2;simp only [Xe.c] at e3;simp [c_11_l1,e2,e8] at hK ⊢;rw [hK];by_cases z1:60<m
   ·simp [c_11_k2,e2,e3,e5,e6,z1];exact ⟨_,rfl⟩
   by_cases z2:60<m2
   ·simp [c_11_k2,e2,e3,e5,e6,z1,z2];exact ⟨_,rfl⟩
   by_cases z3:12<p.Xo.length
   ·simp [c_11_k2,e2,e3,e5,e6,z1,z2,z3];exact ⟨_,rfl⟩
   by_cases z4:16<p.Xm.length
   ·simp [c_11_k2,e2,e3,e5,e6,z1,z2,z3,z4];exact ⟨_,rfl⟩
   by_cases z5:16<p.Xw.length
   ·simp [c_11_k2,e2,e3,e5,e6,z1,z2,z3,z4,z5];exact ⟨_,rfl⟩
   by_cases z6:30<p.Ya.length
   ·simp [c_11_k2,e2,e3,e5,e6,z1,z2,z3,z4,z5,z6];exact ⟨_,rfl⟩
   ·simp [c_11_k2,e2,e3,e5,e6,z1,z2,z3,z4,z5,z6];exact ⟨_,rfl⟩
def b2sV (h:AH) (o:Option AV):Option (AV×AH):=match o with
 | some v=>evOp [(0,v)] 0 h (.b2s (.t 0))
 | none=>none
theorem YT {e:Env} {nx:Nat} {h:AH} {n:Nat}:evOp e nx h (.b2s (.t n))=b2sV h (look n e):=by
 cases hl:look n e with
 | none=>simp only [evOp,evX,hl,b2sV]
 | some v=>simp only [evOp,evX,hl,b2sV,look,if_true]
theorem V9 {call:aS} {e:Env} {nx:Nat} {h:AH} {n:Nat}:aC call e nx h (.b2s (.t n))=d7 (b2sV h (look n e)):=by rw [Hr,YT]
def strB (l:List Int):List UInt8:=l.map fun n=>UInt8.ofNat n.toNat
theorem Mm (F:List AV->Option UInt8) (hF:∀n,F (c8 n)=some (UInt8.ofNat n.toNat)):∀l:List Int,mapO F (l.map c8)=some (strB l)
 | []=>rfl
 | a::l=>by simp only [nA,mapO,hF,Mm F hF l,strB]
theorem qv5 (h:AH) (z:Nat) (l:List Int):b2sV h (some (.slice z (l.map c8)))=some (.str (strB l),h):=by
 simp only [b2sV,evOp,evX,look,if_true,gO];rw [Mm _ (fun n=>rfl)]
theorem qws (l:List Int):aB Φ FL [.slice 1 (l.map c8),.slice 1 (l.map c8)]=some (.val (.bool true)):=by
 rw [aD rfl rfl];have s1:=fun h=>qv5 h 1 l
 simp [J9,s1,V9,-Hr]
theorem qyk (l:List Hit) (hl:l.length<2^40):aB Φ FM [.slice 3 (l.map Hit.c),.slice 3 (l.map Hit.c)]=some (.val (.bool true)):=by
 rw [aD rfl rfl];simp [FA];refine eF l.length (fun i E H=>look 0 E=some (.slice 3 (l.map Hit.c))/\look 1 E=some (.slice 3 (l.map Hit.c))/\look 5 E=some (a7 i)/\H.objs=[]) (fun (r:Option Rt)=>r=some (.val (.bool true))) ?_ ?_ 0 _ _ (Qc _) ?_
 rotate_left 2
 ·exact ⟨by simp,by simp,by simp,rfl⟩
 ·rintro i E ⟨objs,n⟩ K hi hK ⟨e0,e1,e5,h⟩ ih;cases h;have hw:=aP i (by omega);simp [c_40_l0,Hit.c,e0,e1,e5,hi,hw];refine ih _ _ ?_;exact ⟨by simp [e0],by simp [e1],by simp,rfl⟩
 ·rintro E ⟨objs,n⟩ K hK ⟨e0,e1,e5,h⟩;cases h;simp [FA,c_40_l0,e0,e5] at hK ⊢;rw [hK];simp [c_40_k1]
theorem RF (r:Rslt) (hl:r.hits.length<2^40):aB Φ FH [.agg r.c,.agg r.c]=some (.val (.bool true)):=by
 rw [aD rfl rfl];have h1:=qws r.data;have h2:=qyk r.hits hl;simp [J8,Rslt.c,h1,h2]
theorem qzx {p:Prg} (cv:CtV p) {c:Xe} {k:Packet} {r:Rslt} {rs:List (List Int)} (h:runX p c k=some (r,rs)):r.hits.length<2^30:=by
 unfold runX at h;split at h
 ·cases h
 split at h
 ·cases h
 ·cases h;have hk:∀x∈pre p.Ya,x.kind=2\/appl x=true:=fun x hx=>by
   rcases (cv.n x hx).1 with h | ⟨h | h,_⟩
   ·exact .inl h
   ·right;simp [appl,h]
   ·right;simp [appl,h.1]
  rename_i e _;have:=Lv (p:=p) (c:=c) (nest p.Ya) p.Ya ⟨eSet p e (-1) 0 k.port,c.Xl,[]⟩ hk;have hl:=cv.l;unfold resX;simp only [J3] at this;split<;>simp only<;>omega
structure Cs26 (p:Prg) (c:Xe) (k:Packet):Prop where
 fs:PrgS p
 ct:CfgT c
 cs:CS c
 sc:CfgS c
 hc:(pre p.Ya).length<2^40 - 1
 kb:bOk k.data
 kl:k.data.length<2^40
def x26 (p:Prg) (c:Xe) (k:Packet):AV:= .agg (p.c++(c.c++k.c))
end Go.Av
