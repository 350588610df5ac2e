/-
 Bits are written: the program's answer.
-/
import Derived.Test.YtcehjengeaafpaaGreatPX15
set_option linter.unusedVariables false
set_option linter.unusedSimpArgs false
set_option linter.constructorNameAsVariable false
namespace Go.Av
set_option maxRecDepth 6000
structure WM (O:List (Nat×AO)) (id:Nat) (D:AV) (bs:List Bool):Prop where
 l:look id O=some (.row 3 [[D,a7 bs.length,.bool true]])
 d:NRw O 0 D ((wdat bs).map c8)
def NB (z:Nat) (es:List (List AV)):Prop:=∀l:List Int,AO.row z es≠AO.row 1 (l.map c8)
def Fr1 (id:Nat) (O O':List (Nat×AO)):Prop:=∀j z es,NB z es->j≠id->look j O=some (.row z es)->look j O'=some (.row z es)
def WrP (id N:Nat) (O:List (Nat×AO)) (bs:List Bool) (r:Option (Rt×AH)):Prop:=
 ∃O' N' D,r=some (.val (a7 0),⟨O',N'⟩)/\WM O' id D bs/\Fr1 id O O'/\Tail O' N'/\NR O'/\N<=N'
structure WBI (id N:Nat) (O:List (Nat×AO)) (v:Int) (w:Nat) (bs:List Bool) (i:Nat) (E:Env) (O':List (Nat×AO)) (N':Nat) (D:AV):Prop where
 e0:look 0 E=some (.ptr id 3 0 0)
 e1:look 1 E=some (.int .u32 v)
 e2:look 2 E=some (a7 w)
 e31:look 31 E=some (a7 w)
 e32:look 32 E=some (a7 i)
 m:WM O' id D (bs++(jK v w).take i)
 f:Fr1 id O O'
 t:Tail O' N'
 r:NR O'
 n:N<=N'
theorem Ju {v:Int} {w i:Nat} (hv:0<=v/\v<2^w) (hw:w<=32) (hi:i<w):IntKind.wrap .u8 (iand .u32 (ishr .u32 v ((w - 1 - i:Nat):Int)) 1)=b2i ((jK v w)[i]'(by rw [OK];exact hi)):=by
 rw [Sn hv.1 (by omega) (by omega),Yl];have h2:=mY (Sh hv (w - 1 - i)) hw;rw [show ((w - 1 - i:Nat):Int).toNat=w - 1 - i by omega];have h3:=Yx h2 (k:=1) (by decide);rw [show ((2:Int)^1 - 1)=1 by decide,show ((2:Int)^1)=2 by decide] at h3;rw [h3];generalize v / 2^(w - 1 - i)=x;by_cases z:x % 2=1
 ·rw [z];decide
 ·rw [show x % 2=0 by omega];decide
theorem Jm {id N:Nat} {O:List (Nat×AO)} {v:Int} {w:Nat} {bs:List Bool} (hv:0<=v/\v<2^w) (hw:w<=32) (hb:bs.length+w<2^40) {E:Env} {O':List (Nat×AO)} {N':Nat} {D:AV} (h:WBI id N O v w bs 0 E O' N' D):
  WrP id N O (bs++jK v w) (go Φ (finC oP.results) [.c (.loop c_364_l0),.b 1,.c c_364_k1] .normal ⟨E,⟨O',N'⟩⟩):=by
 refine gL w (fun i E h=>∃O' N' D,h=⟨O',N'⟩/\WBI id N O v w bs i E O' N' D) _ ?_ ?_ 0 _ _ (Qc _) ⟨_,_,_,rfl,h⟩
 ·rintro i E _ K hi hK ⟨O',N',D,rfl,h⟩ ih;obtain ⟨e0,e1,e2,e31,e32,m,f,t,r,n⟩:=h;have hil:i<(jK v w).length:=by rw [OK];exact hi
  have hbe:=Ju hv hw hi;have htk:(jK v w).take (i+1)=(jK v w).take i++[(jK v w)[i]]:=Qh hil;have hlen:(bs++(jK v w).take i).length=bs.length+i:=by simp [OK];omega
  have hap:bs++(jK v w).take (i+1)=(bs++(jK v w).take i)++[(jK v w)[i]]:=by rw [htk,DW]
  generalize (jK v w)[i]=b at hbe htk hap;generalize hcs:bs++(jK v w).take i=cs at*;have hw1:=aM i (by omega);have hw2:IntKind.wrap .i64 (((cs.length:Nat):Int)+1)=((cs.length+1:Nat):Int):=cN (by omega) (by omega);have hw3:IntKind.wrap .i64 ((w:Int) - 1)=((w - 1:Nat):Int):=by rw [cN (by omega) (by omega)];omega
  have hw4:IntKind.wrap .i64 (((w - 1:Nat):Int) - i)=((w - 1 - i:Nat):Int):=by rw [cN (by omega) (by omega)];omega
  have d1:IntKind.wrap .i64 ((cs.length:Int) / 8)=((cs.length / 8:Nat):Int):=by
   have:(cs.length:Int) / 8=((cs.length / 8:Nat):Int):=rfl;rw [this,cN (by omega) (by omega)]
  have d2:IntKind.wrap .i64 (7 - ((cs.length % 8:Nat):Int))=7 - ((cs.length % 8:Nat):Int):=cN (by omega) (by omega);have d0:(cs.length:Int).tmod 8=((cs.length % 8:Nat):Int):=rfl;have hor:=Ep (k:=cs.length % 8) (Nat.mod_lt _ (by decide)) (Z3 cs) (qy5 b);have ps:=Dl cs b;have pl:=Dk cs;have pg:=Dj cs;have pe:=Jo cs;obtain ⟨li,ld⟩:=m;have tt:∀k,look (N'+k) O'=none:=fun k=>t _ (by omega)
  have t0:=t N' (Qb _);have fin:∀{E2:Env} {H2:List (Nat×AO)} {N2:Nat} {D2:AV},(∀j,j=0\/j=1\/j=2\/j=31->look j E2=look j E)->look 32 E2=some (a7 (i+1:Nat))->WM H2 id D2 (cs++[b])->Fr1 id O' H2->Tail H2 N2->NR H2->N'<=N2->
    WrP id N O (bs++jK v w) (go Φ (finC oP.results) K .normal ⟨E2,⟨H2,N2⟩⟩):=fun {E2 H2 N2 D2} hE h32 hm hf ht hr hn=>
   ih _ _ ⟨_,_,D2,rfl,by rw [hE 0 (by simp),e0],by rw [hE 1 (by simp),e1],by rw [hE 2 (by simp),e2],by rw [hE 31 (by simp),e31],h32,by rw [hap];exact hm,fun j z es h1 h2 h3=>hf j z es h1 h2 (f j z es h1 h2 h3),ht,hr,by omega⟩
  have wd:∀{H2:List (Nat×AO)} {dd n:Nat},n=(wdat (cs++[b])).length->look id H2=some (.row 3 [[.row dd 1 0 n,a7 (cs.length+1),.bool true]])->look dd H2=some (.row 1 ((wdat (cs++[b])).map c8))->WM H2 id (.row dd 1 0 n) (cs++[b]):=fun {H2 dd n} hn h1 h2=>
   ⟨by rw [h1];simp,.inr ⟨dd,by rw [hn];simp,h2,Qc _,fun h=>by
    have:=congrArg List.length h;rw [qN,KE] at this;simp at this;omega⟩⟩
  have wl:(wdat (cs++[b])).length=cs.length / 8+1:=by rw [<- ps,List.length_set,pl]
  by_cases z:cs.length % 8=0
  ·rw [a9 z] at pe;have lt2:∀k,k<2->N'+k<N'+2:=fun k h=>by omega
   rcases ld with ⟨hz,rfl⟩ | ⟨dd,rfl,ld,_,hne⟩
   ·have hc0:cs=[]:=by
     have:=congrArg List.length hz;rw [qN,KE] at this;simp at this;exact Qg (by omega)
    subst hc0;have hor0:ior .u8 0 (ishl .u8 (b2i b) 7)=b2i b*128:=by cases b<;>decide
    have hwb:wdat ([]++[b])=[b2i b*128]:=by rw [Zm];simp [byts,D9,byt]
    have fi:=fun k=>eX (n:=N'+k) t li (by omega)
    simp only [List.length_nil] at li hw2 d1 d2;have w0:IntKind.wrap .i64 0=0:=rfl;have w1:IntKind.wrap .i64 1=1:=rfl;have w7:IntKind.wrap .i64 7=7:=rfl;have iq:∀k,(id == N'+k)=false:=fun k=>by simp [fi k]
    simp [c_364_l0,e0,e1,e2,e31,e32,hi,li,aC,aH,hw1,hw3,hw4,hbe,t0,tt,fW,fi,iq,w0,w1,w7,pU,r.eq,r.sw,FP li,gB,hor0];refine fin (by rintro j (rfl | rfl | rfl | rfl)<;>simp) (by simp) (wd (dd:=N'+1) (n:=1) (by rw [hwb];rfl) ?_ ?_) ?_ ?_ ?_ (L7 _ _)
    ·rw [aC,a9 rfl,aH,aC,a9 rfl,li];rfl
    ·rw [aC,QA (fi 1).2,aH,aC,QA (fi 1).2,tt,hwb];simp [c8]
    ·intro j z es h1 h2 h3;rw [aC,QA h2,aH,aC,QA h2,h3];rfl
    ·exact d6 (Tail_append_iff.2 ⟨d6 (t.mono (by omega)),Tail_cons_iff.2 ⟨lt2 0 (by decide),Tail_cons_iff.2 ⟨lt2 1 (by decide),Tail.nil _⟩⟩⟩)
    ·exact NR.setl (by simp) ((NR.setl (by simp) r).app (dU (by simp) (.one (by simp))))
   ·have idd:¬id=dd/\¬dd=id:=by
     have:=cW li ld (by simp);exact ⟨this,fun e=>this e.symm⟩
    have fi:=fun k=>eX (n:=N'+k) t li (by omega)
    have fd:=fun k=>eX (n:=N'+k) t ld (by omega)
    have li1:look id (dropl dd O')=_:=(E6 idd.1 O').trans li;have hcat:(wdat cs).map c8++[[AV.int .u8 0]]=(wpre cs).map c8:=by rw [pe,EX];rfl
    have hlt:cs.length / 8<(wpre cs).length:=by omega
    have iq:∀k,(id == N'+k)=false:=fun k=>by simp [fi k]
    have hbd:(wdat cs).length+1<=70368744177664:=by rw [KE];omega
    have hlt3:((cs.length / 8:Nat):Int)<((wdat cs).length:Int)+1:=by rw [KE];omega
    have w7:IntKind.wrap .i64 7=7:=rfl;have wl8:(wdat cs).length=cs.length / 8:=by rw [KE];omega
    generalize hm8:cs.length / 8=m8 at*;rw [z] at hor d2 d0 ps pg;simp only [Int.ofNat_zero,Nat.sub_zero,Int.sub_zero] at hor ps pg;simp [c_364_l0,c8,e0,e1,e2,e31,e32,hi,li,ld,aC,aH,E6,d0,hw1,hw2,hw3,hw4,d1,d2,hbe,idd,iq,hlt,pg,hor,gB,r.eq,t0,tt,fW,fi,fd,hcat,hbd,hlt3,w7,pU,VC ld,FP li1];rw [show (2:Int)^8=256 by decide] at hor;have es:((wpre cs).map c8).set m8 [.int .u8 (ior .u8 (D9 cs*256) (ishl .u8 (b2i b) 7))]=(wdat (cs++[b])).map c8:=by rw [<- ps,DY,hor];rfl
    rw [es];refine fin (by rintro j (rfl | rfl | rfl | rfl)<;>simp) (by simp) (wd (dd:=N'+1) (n:=(wdat cs).length+1) (by rw [wl,wl8]) ?_ ?_) ?_ ?_ ?_ (L7 _ _)
    ·rw [aC,a9 rfl,aH,aC,a9 rfl,li1];rfl
    ·rw [aC,QA (fi 1).2,aH,aC,QA (fi 1).2,Nz _ (tt 1)];simp
    ·intro j z es h1 h2 h3;rw [aC,QA h2,aH,aC,QA h2,E6 (cW h3 ld (h1 _)),h3];rfl
    ·exact d6 (Tail_append_iff.2 ⟨d6 (Vb (t.mono (by omega))),Tail_cons_iff.2 ⟨lt2 0 (by decide),Tail_cons_iff.2 ⟨lt2 1 (by decide),Tail.nil _⟩⟩⟩)
    ·exact NR.setl (by simp) ((NR.setl (by simp) (NR.dropl r)).app (dU (by simp) (.one (by simp))))
  ·rw [QA z] at pe;rcases ld with ⟨hz,_⟩ | ⟨dd,rfl,ld,_,hne⟩
   ·exfalso;have:=congrArg List.length hz;rw [qN,KE] at this;simp at this;omega
   have zi:¬((cs.length % 8:Nat):Int)=0:=by omega
   have idd:¬id=dd/\¬dd=id:=by
    have:=cW li ld (by simp);exact ⟨this,fun e=>this e.symm⟩
   rw [pe] at ps pl pg;have hlt:cs.length / 8<(wdat cs).length:=by omega
   have iq:(id == dd)=false:=by simp [idd]
   have q7:(cs.length % 8:Nat)<=7:=by omega
   have q7':((cs.length % 8:Nat):Int)<=7:=by omega
   generalize hm8:cs.length / 8=m8 at*;generalize hk8:cs.length % 8=k8 at*;simp [c_364_l0,c8,e0,e1,e2,e31,e32,hi,li,ld,aC,d0,z,hw1,hw2,hw3,hw4,d1,d2,hbe,idd,iq,hlt,pg,q7,q7',hor,gB,r.eq,r.sw];have es:((wdat cs).map c8).set m8 [.int .u8 ((2*D9 cs+b2i b)*2^(7 - k8))]=(wdat (cs++[b])).map c8:=by rw [<- ps,DY];rfl
   rw [es];refine fin (by rintro j (rfl | rfl | rfl | rfl)<;>simp) (by simp) (wd (dd:=dd) (n:=(wdat cs).length) (by rw [wl,pl]) ?_ ?_) ?_ (d6 (d6 t)) (NR.setl (by simp) (NR.setl (by simp) r)) (Qb _)
   ·rw [aC,a9 rfl,aC,QA idd.1,li];rfl
   ·rw [aC,QA idd.2,aC,a9 rfl,ld];rfl
   ·intro j z es h1 h2 h3;rw [aC,QA h2,aC,QA (cW h3 ld (h1 _)),h3]
 ·rintro E _ K hK ⟨O',N',D,rfl,h⟩;obtain ⟨e0,e1,e2,e31,e32,m,f,t,r,n⟩:=h;rw [Qo (by rw [OK];exact Qb _)] at m;simp [oP,c_364_l0,c_364_k1,e31,e32] at hK ⊢;simp [c_364_k1,hK];exact ⟨O',N',D,rfl,m,f,t,r,n⟩
theorem qus {id N:Nat} {O:List (Nat×AO)} {v:Int} {w:Nat} {bs:List Bool} (h1:1<=w) (hw:w<=32) (hv:0<=v/\v<2^w) (hb:bs.length+w<2^40) {D:AV} (m:WM O id D bs) (t:Tail O N) (r:NR O):
  WrP id N O (bs++jK v w) (aQ Φ kK [.ptr id 3 0 0,.int .u32 v,a7 w] ⟨O,N⟩):=by
 rw [eI rfl rfl];have hf:=P2 v w;have hfit:fits v w=true:=by
  have wb:wBad (w:Int)=false:=by simp [wBad];omega
  have:=hv.2;simp [fits,cD,wb];omega
 rw [hfit] at hf;have a1:¬(w:Int)<1:=by omega
 have a2:¬32<w:=by omega
 have a3:¬w=0:=by omega
 have li:=m.l;simp [oP,li,a1,a2,a3,hf];refine Jm hv hw hb (D:=D) ?_;exact ⟨by simp,by simp,by simp,by simp,by simp,by simpa using m,fun j z es _ _ h=>h,t,r,Qb _⟩
theorem qwo {O:List (Nat×AO)} {N:Nat} (hT:Tail O N):aQ Φ pK [] ⟨O,N⟩=some (.val (.ptr N 3 0 0),⟨O++[(N,.row 3 [[.Xt 1 [],a7 0,.bool true]])],N+1⟩):=by
 rw [eI rfl rfl];have t0:=hT N (Qb _);simp [IM,t0]
theorem Nw {O:List (Nat×AO)} {N:Nat} (hT:Tail O N):WM (O++[(N,.row 3 [[.Xt 1 [],a7 0,.bool true]])]) N (.Xt 1 []) []:=
 ⟨by rw [aH,hT N (Qb _)];simp,.inl ⟨by rw [qut];rfl,rfl⟩⟩
def BtP (N:Nat) (O:List (Nat×AO)) (bs:List Bool) (r:Option (Rt×AH)):Prop:=
 ∃L N',r=some (.val (.tup [.app 1 ((wdat bs).map c8) N,a7 0]),⟨O++L,N'⟩)/\Tail (O++L) N'/\NR (O++L)/\N<=N'/\look N (O++L)=some (.tok 1 (wdat bs).length)
theorem Qy {id N:Nat} {O:List (Nat×AO)} {bs:List Bool} {D:AV} (m:WM O id D bs) (t:Tail O N) (r:NR O) (z:bs.length % 8=0) (hb:bs.length<2^40):BtP N O bs (aQ Φ mK [.ptr id 3 0 0] ⟨O,N⟩):=by
 rw [eI rfl rfl];have t0:=t N (Qb _);have d0:(bs.length:Int).tmod 8=0:=by
  have:(bs.length:Int).tmod 8=((bs.length % 8:Nat):Int):=rfl;rw [this,z];rfl
 have hl:(wdat bs).length<=70368744177664:=by rw [KE];omega
 obtain ⟨li,ld⟩:=m;have fin:BtP N O bs (some (.val (.tup [.app 1 ((wdat bs).map c8) N,a7 0]),⟨O++[(N,.tok 1 (wdat bs).length)],N+1⟩)):=
  ⟨_,_,rfl,Tail_append_iff.2 ⟨t.mono (by omega),Tail_cons_iff.2 ⟨by omega,Tail.nil _⟩⟩,r.app (.one (by simp)),by omega,by rw [aH,t0];simp⟩
 rcases ld with ⟨hz,rfl⟩ | ⟨dd,rfl,ld,_,hne⟩
 ·have hw:wdat bs=[]:=by simpa using hz
  rw [hw] at fin;simp [yU,li,d0,t0];simpa using fin
 ·have hb2:∀l:List Int,anyL (bor 40) (l.map c8).flatten=false:=by
   intro l
   induction l with
   | nil=>simp
   | cons x l ih=>simp [c8];exact ih
  have hs:mapO (qQ ⟨O,N⟩) ((wdat bs).map c8)=some ((wdat bs).map c8):=r9 (g:=c8) (n:=40) (H:=⟨O,N⟩) (fun x=>by simp [c8]) (wdat bs);have al:kX 1 ((wdat bs).map c8)=true:=K1 1 c8 _ fun x=>by simp
  simp [yU,li,d0,t0,ld,hl,hb2,hs,al];exact fin
theorem Od:∀(l:List Fld) (v:List Int) (i:Nat) (h1:i<l.length) (h2:i<v.length),qV (l.take (i+1)) (v.take (i+1))=qV (l.take i) (v.take i)++jK v[i] l[i].Yc.toNat
 | f::l,x::v,0,_,_=>by simp [qV]
 | f::l,x::v,i+1,h1,h2=>by
  simp only [List.take_succ_cons,qV,List.getElem_cons_succ,DW];rw [Od l v i (by simpa using h1) (by simpa using h2)]
theorem RY:∀(l:List Fld) (v:List Int),v.length=l.length->(qV l v).length=wN l
 | [],[],_=>rfl
 | f::l,x::v,h=>by
  simp only [qV,qM,OK,wN,nV,PX];rw [RY l v (by simpa using h)];rfl
def fitF (l:List Fld) (v:List Int):Prop:=v.length=l.length/\∀(i:Nat) (h1:i<l.length) (h2:i<v.length),0<=v[i]/\v[i]<2^l[i].Yc.toNat
theorem Ks:a8 Φ CD [.slice 1 [[a7 0],[a7 0]]]=some (.val (a7 0)):=by
 rw [aA rfl rfl];have w1:IntKind.wrap .i64 1=1:=rfl;have w2:IntKind.wrap .i64 2=2:=rfl;simp [JU];rw [bY];simp [c_401_l0,w1];rw [bY];simp [c_401_l0,w1,w2];rw [bY];simp [c_401_l0,c_401_k1]
structure PKI (l:List Fld) (v:List Int) (id i:Nat) (E:Env) (O:List (Nat×AO)) (N:Nat) (D:AV):Prop where
 e1:look 1 E=some (.slice 1 (l.map fun f=>[a7 f.Yc]))
 e6:look 6 E=some (.ptr id 3 0 0)
 e7:look 7 E=some (a7 0)
 e16:look 16 E=some (.slice 1 (v.map c32))
 e17:look 17 E=some (a7 l.length)
 e18:look 18 E=some (a7 i)
 m:WM O id D (qV (l.take i) (v.take i))
 t:Tail O N
 r:NR O
theorem Fm {l:List Fld} {v:List Int} (hl:l.length<=12) (hw:∀f∈l,1<=f.Yc/\f.Yc<=32) (hs:wN l % 8=0) (fv:fitF l v):∃b,a8 Φ BT [.slice 1 (v.map c32),.slice 1 (l.map fun f=>[a7 f.Yc])]=some (.val (.tup [b,a7 0])):=by
 rw [aA rfl rfl];have nw:=qwo (O:=[]) (N:=0) (Tail.nil _);obtain ⟨fl,fv⟩:=fv;have hwN:∀i,wN (l.take i)<=384:=by
  have aux:∀l:List Fld,(∀f∈l,1<=f.Yc/\f.Yc<=32)->wN l<=32*l.length:=by
   intro l
   induction l with
   | nil=>intro _;simp [wN]
   | cons f l ih=>
    intro h;have h1:=ih fun g hg=>h g (by simp [hg])
    have h2:=h f (by simp);simp only [wN,nV,PX,EW] at h1 ⊢;omega
  intro i;have:=aux (l.take i) fun f hf=>hw f (Qu hf)
  have h2:(l.take i).length<=l.length:=by rw [iA];omega
  omega
 simp [z8,fl,nw];refine gL l.length (fun i E h=>∃O N D id,h=⟨O,N⟩/\PKI l v id i E O N D) (fun (r:Option Rt)=>∃b,r=some (.val (.tup [b,a7 0]))) ?_ ?_ 0 _ _ (Qc _) ?_
 rotate_left 2
 ·refine ⟨_,_,.Xt 1 [],0,rfl,?_⟩;exact ⟨by simp,by simp,by simp,by simp,by simp,by simp,by simpa [qV] using Nw (O:=[]) (N:=0) (Tail.nil _),Tail_cons_iff.2 ⟨by omega,Tail.nil _⟩,.one (by simp)⟩
 ·rintro i E _ K hi hK ⟨O,N,D,id,rfl,h⟩ ih;obtain ⟨e1,e6,e7,e16,e17,e18,m,t,r⟩:=h;have hiv:i<v.length:=by omega
  have hw1:=aM i (by omega);have hf:=hw l[i] (Qd hi);have st:=Od l v i hi hiv;have ln:=RY (l.take i) (v.take i) (by simp [fl]);have hN:=hwN i;obtain ⟨O2,N2,D2,hr,m2,_,t2,r2,_⟩:=qus (w:=l[i].Yc.toNat) (v:=v[i]) (by omega) (by omega) (fv i hi hiv) (by omega) m t r;rw [show ((l[i].Yc.toNat:Nat):Int)=l[i].Yc by omega] at hr;rw [<- st] at m2;have f0:=Ks;generalize hx:l[i]=x at*;generalize hy:v[i]=y at*;simp [c_363_l0,c32,e1,e6,e7,e16,e17,e18,hi,hiv,hx,hy,hw1,hr,f0];refine ih _ _ ⟨O2,N2,D2,id,rfl,?_⟩;exact ⟨by simp [e1],by simp [e6],by simp,by simp [e16],by simp [e17],by simp,m2,t2,r2⟩
 ·rintro E _ K hK ⟨O,N,D,id,rfl,h⟩;obtain ⟨e1,e6,e7,e16,e17,e18,m,t,r⟩:=h;rw [jQ,Qo (by omega)] at m;have ln:=RY l v fl;have hN:=hwN l.length;rw [jQ] at hN;obtain ⟨L,N2,hr,-,-,-,-⟩:=Qy m t r (by omega) (by omega);simp [z8,c_363_l0,e17,e18] at hK ⊢;simp [c_363_k1,hK,e6,hr]
structure HWI (l:List Fld) (v:List Int) (id N:Nat) (O:List (Nat×AO)) (bs:List Bool) (i:Nat) (E:Env) (O':List (Nat×AO)) (N':Nat) (D:AV):Prop where
 e1:look 1 E=some (.slice 1 (v.map c32))
 e2:look 2 E=some (.ptr id 3 0 0)
 e44:look 44 E=some (.slice 2 (l.map Fld.c))
 e45:look 45 E=some (a7 l.length)
 e46:look 46 E=some (a7 i)
 m:WM O' id D (bs++qV (l.take i) (v.take i))
 f:Fr1 id O O'
 t:Tail O' N'
 r:NR O'
 n:N<=N'
theorem wN_12 {l:List Fld} (hl:l.length<=12) (hw:∀f∈l,1<=f.Yc/\f.Yc<=32) (i:Nat):wN (l.take i)<=384:=by
 have aux:∀l:List Fld,(∀f∈l,1<=f.Yc/\f.Yc<=32)->wN l<=32*l.length:=by
  intro l
  induction l with
  | nil=>intro _;simp [wN]
  | cons f l ih=>
   intro h;have h1:=ih fun g hg=>h g (by simp [hg])
   have h2:=h f (by simp);simp only [wN,nV,PX,EW] at h1 ⊢;omega
 have:=aux (l.take i) fun f hf=>hw f (Qu hf)
 have h2:(l.take i).length<=l.length:=by rw [iA];omega
 omega
theorem Fz {l:List Fld} {v:List Int} (hl:l.length<=12) (hw:∀f∈l,1<=f.Yc/\f.Yc<=32) (fv:fitF l v) {id N:Nat} {O:List (Nat×AO)} {bs:List Bool} (hb:bs.length<2^39) {E:Env} {O':List (Nat×AO)} {N':Nat} {D:AV} (h:HWI l v id N O bs 0 E O' N' D):
  WrP id N O (bs++qV l v) (go Φ (finC s5.results) [.c (.loop c_298_l0),.b 0,.c c_298_k1] .normal ⟨E,⟨O',N'⟩⟩):=by
 obtain ⟨fl,fv⟩:=fv;refine gL l.length (fun i E h=>∃O' N' D,h=⟨O',N'⟩/\HWI l v id N O bs i E O' N' D) _ ?_ ?_ 0 _ _ (Qc _) ⟨_,_,_,rfl,h⟩
 ·rintro i E _ K hi hK ⟨O',N',D,rfl,h⟩ ih;obtain ⟨e1,e2,e44,e45,e46,m,f,t,r,n⟩:=h;have hiv:i<v.length:=by omega
  have hw1:=aM i (by omega);have hf:=hw l[i] (Qd hi);have st:=Od l v i hi hiv;have ln:=RY (l.take i) (v.take i) (by simp [fl]);have hN:=wN_12 hl hw i;have t0:=t N' (Qb _);obtain ⟨O2,N2,D2,hr,m2,f2,t2,r2,n2⟩:=qus (N:=N'+1) (w:=l[i].Yc.toNat) (v:=v[i]) (by omega) (by omega) (fv i hi hiv) (by rw [qM];omega) m (t.mono (by omega)) r;rw [show ((l[i].Yc.toNat:Nat):Int)=l[i].Yc by omega] at hr;rw [DW,<- st] at m2;generalize hx:l[i]=x at*;generalize hy:v[i]=y at*;simp [c_298_l0,Fld.c,c32,e1,e2,e44,e45,e46,hi,hiv,hx,hy,hw1,t0,hr];refine ih _ _ ⟨O2,N2,D2,rfl,?_⟩;exact ⟨by simp [e1],by simp [e2],by simp [e44],by simp [e45],by simp,m2,fun j z es h1 h2 h3=>f2 j z es h1 h2 (f j z es h1 h2 h3),t2,r2,by omega⟩
 ·rintro E _ K hK ⟨O',N',D,rfl,h⟩;obtain ⟨e1,e2,e44,e45,e46,m,f,t,r,n⟩:=h;rw [jQ,Qo (by omega)] at m;simp [s5,c_298_l0,e45,e46] at hK ⊢;simp [c_298_k1,hK];exact ⟨O',N',D,rfl,m,f,t,r,n⟩
theorem XU {h:Xi} (hn:h.name.length<2^40) (hf:∀f∈h.Xz,f.name.length<2^40) (e:hdrE h=0) {v:List Int} (fv:fitF h.Xz v) {id N:Nat} {O:List (Nat×AO)} {bs:List Bool} (hb:bs.length<2^39) (hz:bs.length % 8=0) {D:AV} (m:WM O id D bs) (t:Tail O N) (r:NR O):
  WrP id N O (bs++qV h.Xz v) (aQ Φ tT [.agg h.c,.slice 1 (v.map c32),.ptr id 3 0 0] ⟨O,N⟩):=by
 rw [eI rfl rfl];have vh:=vhdr e;have hc:=P3 h hn hf;rw [e] at hc;have hwd:=Pv h (by have:=vh.n;omega);have hs:wN h.Xz % 8=0:=by have:=vh.s;rw [SO vh.w] at this;omega
 obtain ⟨b,hp⟩:=Fm vh.n.2 vh.w hs fv;have t0:=t N (Qb _);have t1:Tail (O++[(N,.row 2 [h.c])]) (N+1):=Tail_append_iff.2 ⟨t.mono (by omega),Tail_cons_iff.2 ⟨by omega,Tail.nil _⟩⟩;have r1:NR (O++[(N,.row 2 [h.c])]):=r.app (.one (by simp));have m1:WM (O++[(N,.row 2 [h.c])]) id D bs:=⟨cH m.l,m.d.fr fun j _ hj=>cH hj⟩;obtain ⟨L,N2,hr,t2,r2,n2,-⟩:=Qy m1 t1 r1 hz (by omega);have l2:look N ((O++[(N,.row 2 [h.c])])++L)=some (.row 2 [h.c]):=cH (by rw [aH,t0];simp);have m2:WM ((O++[(N,.row 2 [h.c])])++L) id D bs:=⟨cH m1.l,m1.d.fr fun j _ hj=>cH hj⟩;have f2:Fr1 id O ((O++[(N,.row 2 [h.c])])++L):=fun j z es _ _ hj=>cH (cH hj)
 generalize (O++[(N,.row 2 [h.c])])++L=O2 at*;have fl:=fv.1;rw [Xi.c] at hc hwd hr l2;simp [s5,Xi.c,t0,hc,hr,l2,fl,hwd,hp];refine Fz vh.n.2 vh.w fv hb (D:=D) ?_;exact ⟨by simp,by simp,by simp,by simp,by simp,by simpa [qV] using m2,f2,t2,r2,by omega⟩
def bH (p:Prg) (e:Envt) (h:Int):List Bool:=if (at? e.valid h).getD false then qV (((at? p.Xo h).map (·.Xz)).getD []) ((at? e.Xz h).getD []) else []
theorem qwd {p:Prg} (hd:∀h∈p.Xo,hdrE h=0) {e:Envt} (ev:EV p e) {m:Nat} (h1:m<p.Xo.length) (h2:m<e.Xz.length):fitF p.Xo[m].Xz e.Xz[m]:=by
 refine ⟨ev.g m h2 h1,fun i k1 k2=>?_⟩;have vh:=vhdr (hd _ (Qd h1));have:=ev.ff m i _ _ (Qa h2) (Qa k2);rw [qw6 (Qa h1) (Qa k1) (vh.w _ (Qd k1))] at this;exact this
theorem Js {p:Prg} (hd:∀h∈p.Xo,hdrE h=0) {e:Envt} (ev:EV p e) {h:Int} (h0:0<=h/\h<p.Xo.length):(bH p e h).length<=384/\(bH p e h).length % 8=0:=by
 obtain ⟨m,rfl⟩:=nU h0.1;have h1:m<p.Xo.length:=by omega
 have h2:m<e.Xz.length:=by rw [ev.f];exact h1
 have vh:=vhdr (hd _ (Qd h1));have hs:wN p.Xo[m].Xz % 8=0:=by have:=vh.s;rw [SO vh.w] at this;omega
 have hN:=wN_12 vh.n.2 vh.w p.Xo[m].Xz.length;rw [jQ] at hN;unfold bH;split
 ·rw [qT,qT,Qa h1,Qa h2];simp only [L8,jO];rw [RY _ _ (qwd hd ev h1 h2).1];exact ⟨hN,hs⟩
 ·simp
def EmP (id N:Nat) (O:List (Nat×AO)) (bs:List Bool) (r:Option (Rt×AH)):Prop:=
 ∃O' N' D,r=some (.val (.tup []),⟨O',N'⟩)/\WM O' id D bs/\Fr1 id O O'/\Tail O' N'/\NR O'/\N<=N'
theorem ZX {p:Prg} (fs:PrgS p) (hd:∀h∈p.Xo,hdrE h=0) {e:Envt} (ev:EV p e) {h:Int} (h0:0<=h/\h<p.Xo.length) {id c N:Nat} {O:List (Nat×AO)} {bs:List Bool} (hb:bs.length<2^39) (hz:bs.length % 8=0) {D:AV} (m:WM O id D bs) (lc:look c O=some (.row 1 [[.ptr id 3 0 0]])) (t:Tail O N) (r:NR O):
  EmP id N O (bs++bH p e h) (aQ Φ tS [a7 h,.iptr 4 [e.c] 0 0,.iptr 9 [p.c] 0 0,.ptr c 1 0 0] ⟨O,N⟩):=by
 rw [eI rfl rfl];obtain ⟨k,rfl⟩:=nU h0.1;have h1:k<p.Xo.length:=by omega
 have h2:k<e.Xz.length:=by rw [ev.f];exact h1
 have h3:k<e.valid.length:=by rw [ev.v];exact h1
 have hm:=Qd h1;cases q:e.valid[k] with
 | false=>
  have hbH:bH p e k=[]:=by
   unfold bH;rw [qT,Qa h3,q];rfl
  rw [hbH,PV];simp [yT,Envt.ce,Prg.c,cB,h3,q];exact ⟨O,N,D,rfl,m,fun j z es _ _ h=>h,t,r,Qb _⟩
 | true=>
  have hbH:bH p e k=qV p.Xo[k].Xz e.Xz[k]:=by
   unfold bH;rw [qT,qT,qT,Qa h3,Qa h1,Qa h2,q];rfl
  rw [hbH];obtain ⟨O2,N2,D2,hr,m2,f2,t2,r2,n2⟩:=XU (fs.hn _ hm) (fs.hf _ hm) (hd _ hm) (qwd hd ev h1 h2) hb hz m t r;generalize hx:p.Xo[k]=x at*;generalize hy:e.Xz[k]=y at*;rw [Xi.c] at hr;simp [yT,Envt.ce,Prg.c,Xi.c,cB,cS,h1,h2,h3,q,hx,hy,lc,hr];exact ⟨O2,N2,D2,rfl,m2,f2,t2,r2,n2⟩
def bD (p:Prg) (e:Envt) (i:Nat):List Bool:=((p.Xr.take i).map (bH p e)).flatten
theorem qvz (p:Prg) (e:Envt) {i:Nat} (hi:i<p.Xr.length):bD p e (i+1)=bD p e i++bH p e p.Xr[i]:=by
 unfold bD;rw [Qh hi,EX,List.flatten_append];simp
theorem Td {p:Prg} (hd:∀h∈p.Xo,hdrE h=0) {e:Envt} (ev:EV p e) (hdp:∀h∈p.Xr,0<=h/\h<p.Xo.length):∀i,i<=p.Xr.length->(bD p e i).length<=384*i/\(bD p e i).length % 8=0
 | 0,_=>by simp [bD]
 | i+1,h=>by
  have ih:=Td hd ev hdp i (by omega);have hb:=Js hd ev (hdp _ (Qd (show i<p.Xr.length by omega)));rw [qvz p e (by omega),qM];omega
structure EI2 (p:Prg) (e:Envt) (i:Nat) (E:Env) (O:List (Nat×AO)) (N:Nat) (D:AV):Prop where
 e3:look 3 E=some (.iptr 4 [e.c] 0 0)
 e5:look 5 E=some (.ptr 1 1 0 0)
 e6:look 6 E=some (.func (.func tS) [] [.iptr 4 [e.c] 0 0,.iptr 9 [p.c] 0 0,.ptr 1 1 0 0])
 e18:look 18 E=some (.slice 1 (p.Xr.map cI))
 e19:look 19 E=some (a7 p.Xr.length)
 e20:look 20 E=some (a7 i)
 m:WM O 0 D (bD p e i)
 l:look 1 O=some (.row 1 [[.ptr 0 3 0 0]])
 t:Tail O N
 r:NR O
theorem qv8 {p:Prg} (fs:PrgS p) (w:PWd p) (hd:∀h∈p.Xo,hdrE h=0) (hp:(depE p).2=0) {e:Envt} (ev:EV p e) (pl:e.payload.length<2^40):
  a8 Φ p7 [.agg p.c,.agg e.c]=some (.val (.slice 1 ((emi p e).map c8))):=by
 rw [aA rfl rfl];have ha:=qw8 fs w hd hp ev pl;have nw:=qwo (O:=[]) (N:=0) (Tail.nil _);rw [Prg.c,Envt.ce] at ha;simp [yG,Prg.c,Envt.ce,ha,nw,vM];have vd:=vdep hp;have hdp:=vd.2;have hdl:p.Xr.length<=8:=vd.1;refine gL p.Xr.length (fun i E h=>∃O N D,h=⟨O,N⟩/\EI2 p e i E O N D) (fun (r:Option Rt)=>r=some (.val (.slice 1 ((emi p e).map c8)))) ?_ ?_ 0 _ _ (Qc _) ?_
 rotate_left 2
 ·refine ⟨_,_,.Xt 1 [],rfl,?_⟩;refine ⟨by simp [Envt.ce],by simp,by simp [Envt.ce,Prg.c],by simp,by simp,by simp,?_,by simp,?_,?_⟩
  ·exact ⟨by simp [bD],.inl ⟨by simp [bD,qut],rfl⟩⟩
  ·exact Tail_cons_iff.2 ⟨by omega,Tail_cons_iff.2 ⟨by omega,Tail.nil _⟩⟩
  ·exact dU (by simp) (.one (by simp))
 ·rintro i E _ K hi hK ⟨O,N,D,rfl,h⟩ ih;obtain ⟨e3,e5,e6,e18,e19,e20,m,l,t,r⟩:=h;have hw1:=aM i (by omega);have ln:=Td hd ev hdp i (by omega);obtain ⟨O2,N2,D2,hr,m2,f2,t2,r2,n2⟩:=ZX fs hd ev (hdp _ (Qd hi)) (by omega) ln.2 m l t r;rw [<- qvz p e hi] at m2;have l2:=f2 1 1 _ (fun l h=>by cases l<;>simp [c8] at h) (by decide) l;generalize hx:p.Xr[i]=x at*;simp [c_183_l0,cI,e3,e5,e6,e18,e19,e20,hi,hx,hw1,hr];refine ih _ _ ⟨O2,N2,D2,rfl,?_⟩;exact ⟨by simp [e3],by simp [e5],by simp [e6],by simp [e18],by simp [e19],by simp,m2,l2,t2,r2⟩
 ·rintro E _ K hK ⟨O,N,D,rfl,h⟩;obtain ⟨e3,e5,e6,e18,e19,e20,m,l,t,r⟩:=h;have ln:=Td hd ev hdp p.Xr.length (Qb _);have hE:bD p e p.Xr.length=FU p e:=by
   unfold bD FU;rw [jQ];rfl
  rw [hE] at m ln;have hw:wdat (FU p e)=byts ((FU p e).length / 8) (FU p e):=by unfold wdat;rw [a9 ln.2,PV]
  obtain ⟨L,N2,hr,t2,r2,n2,lk2⟩:=Qy m t r ln.2 (by omega);have hem:emi p e=wdat (FU p e)++e.payload:=by rw [hw];rfl
  have hbd:(wdat (FU p e)).length+e.payload.length<=70368744177664:=by rw [KE];omega
  rw [hem];rw [Envt.ce] at e3;simp [yG,c_183_l0,e19,e20] at hK ⊢;simp [c_183_k1,hK,e3,e5,l,hr,lk2,hbd]
theorem Im {p:Prg} (fs:PrgS p) (w:PWd p) (hd:∀h∈p.Xo,hdrE h=0) (hp:(depE p).2=0) {e:Envt} (ev:EV p e) (pl:e.payload.length<2^40):
  a8 Φ A5 [.agg p.c,.agg e.c]=some (.val (a7 (emi p e).length)):=by
 rw [aA rfl rfl];have h:=qv8 fs w hd hp ev pl;rw [Prg.c,Envt.ce] at h;simp [GY,Prg.c,Envt.ce,h]
theorem Jh {p:Prg} (fs:PrgS p) {t:Nat} (ht:t<p.Xm.length) (q:tOk p t=true) (e:Envt):a8 Φ sO [.agg p.c,a7 t,.agg e.c]=some (.val (.slice 1 ((keyX p t e).map c32))):=by
 rw [aA rfl rfl];have hwd:=Wp p fs t ht q;have kl:p.Xm[t].keys.length<2^40:=fs.tk _ (Qd ht);have hk:keyX p t e=p.Xm[t].keys.map fun k=>iand .u32 (eGet e k.field.header k.field.field) (cD (wid p k.field.header k.field.field)):=by
  unfold keyX;rw [qT,Qa ht]
 have hkw:kWid p p.Xm[t]=p.Xm[t].keys.map fun k=>wid p k.field.header k.field.field:=rfl
 rw [Prg.c,hkw] at hwd;rw [hk];generalize hx:p.Xm[t]=x at*;generalize hK:(x.keys.map fun k=>iand .u32 (eGet e k.field.header k.field.field) (cD (wid p k.field.header k.field.field)))=ks at*;simp [yC,Prg.c,Envt.ce,hwd];have ksl:ks.length=x.keys.length:=by rw [<- hK];simp
 refine gL x.keys.length (fun i E h=>∃O N,h=⟨O,N⟩/\look 3 E=some (.iptr 9 [p.c] 0 0)/\look 5 E=some (.iptr 4 [e.c] 0 0)/\look 1 E=some (a7 t)/\look 12 E=some (.slice 1 (x.keys.map (cI ∘ fun k=>wid p k.field.header k.field.field)))/\look 13 E=some (a7 x.keys.length)/\look 14 E=some (a7 i)/\look 7 E=some (.app 1 ((ks.take i).map c32) 0)/\look 0 O=some (.tok 1 i)) (fun (r:Option Rt)=>r=some (.val (.slice 1 (ks.map c32)))) ?_ ?_ 0 _ _ (Qc _) ?_
 rotate_left 2
 ·exact ⟨_,_,rfl,by simp [Prg.c],by simp [Envt.ce],by simp,by simp,by simp,by simp,by simp,by simp⟩
 ·rintro i E _ K hi hKK ⟨O,N,rfl,e3,e5,e1,e12,e13,e14,e7,l0⟩ ih;have hw1:=aM i (by omega);have hg:=WC e x.keys[i].field.header x.keys[i].field.field;have hm:=j6 (wid p x.keys[i].field.header x.keys[i].field.field);have htw:ks.take (i+1)=ks.take i++[iand .u32 (eGet e x.keys[i].field.header x.keys[i].field.field) (cD (wid p x.keys[i].field.header x.keys[i].field.field))]:=by
   rw [Qh (by omega)];subst hK;simp
  have hmin:min i ks.length=i:=by omega
  have bd:(i+1)*4<=70368744177664:=by omega
  rw [Prg.c] at e3;rw [Envt.ce] at e5 hg;generalize hy:x.keys[i]=y at*;simp [c_177_l0,Tbl.c,Xk.c,FieldRef.c,cI,e3,e5,e1,e12,e13,e14,e7,hi,ht,hx,hy,hw1,hg,hm,l0,hmin,bd];refine ih _ _ ⟨_,_,rfl,?_⟩;exact ⟨by simp [e3,Prg.c],by simp [e5,Envt.ce],by simp [e1],by simp [e12],by simp [e13],by simp,by simp [htw,c32],by rw [aC,a9 rfl,l0];rfl⟩
 ·rintro E _ K hKK ⟨O,N,rfl,e3,e5,e1,e12,e13,e14,e7,l0⟩;rw [Qo (by omega)] at e7;simp [yC,c_177_l0,e13,e14] at hKK ⊢;simp [c_177_k1,hKK,e7]
theorem qy9 {p:Prg} (fs:PrgS p) {t:Nat} (ht:t<p.Xm.length) (key:List Int) {l:List Rw} (hll:l.length<2^40) (hl:∀x∈l,EntS x.entry) (hp:l.Pairwise fun a b=>a.id<b.id):
  a8 Φ p6 [.agg p.c,a7 t,.slice 5 (l.map Rw.c),.slice 1 (key.map c32)]=some (.val (.tup [.agg (rowV (oB p t key l)),.bool (oB p t key l).isSome])):=by
 obtain ⟨O',N',hr,-⟩:=Cz p fs t ht key (O:=[]) (N:=0) (Tail.nil _) (Re.sl (l.map Rw.c)) hll hl;have hb:bstP p t l key=oB p t key l:=Ka p t l hp key;rw [hb] at hr;unfold a8;rw [show H0=(⟨[],0⟩:AH) from rfl,hr];cases oB p t key l with
 | none=>simp [rA,rowV,Rw.ce]
 | some r=>simp [rA,rowV,Rw.ce]
set_option maxRecDepth 8000
theorem XV.exe {p:Prg} (c:Xb) {e:Envt} {rs:List (List Int)} (h:XV p e rs):XV p (exeX p c e rs).1 (exeX p c e rs).2:=by
 unfold exeX;split
 ·exact h
 ·rename_i a _;have aux:∀(l:List Xf) (x:Envt×List (List Int)),XV p x.1 x.2->XV p (l.foldl (stmX p a.params c.args) x).1 (l.foldl (stmX p a.params c.args) x).2:=by
   intro l
   induction l with
   | nil=>intro x h;exact h
   | cons s l ih=>intro x h;exact ih _ (h.stm s)
  exact aux _ (e,rs) h
structure CallV (p:Prg) (k:Xb):Prop where
 a:(actE p k.Xy).2=0
 c:j9 p k=0
 v:∀v∈k.args,ok32 0 v
 l:k.args.length<2^40
structure CF (p:Prg) (c:Xe):Prop where
 rl:c.rows.length=p.Xm.length
 dl:c.Xp.length=p.Xm.length
 rs:∀l∈c.rows,l.length<2^40/\(∀x∈l,EntS x.entry/\CallV p x.entry.call)/\l.Pairwise fun a b=>a.id<b.id
 dc:∀d∈c.Xp,CallV p d
structure PKp (p:Prg):Prop where
 fs:PrgS p
 w:PWd p
 hd:∀h∈p.Xo,hdrE h=0
 tb:∀t:Nat,t<p.Xm.length->tOk p t=true
 dp:(depE p).2=0
 pa:(parE p).2.2=0
def mC (p:Prg) (c:Xe) (e:Envt) (rs:List (List Int)) (hv:AV):List AV:=
  ((.slice 1 (e.valid.map cB))::(.slice 1 (e.Xz.map (cS 1 c32)))::(.slice 1 (e.metaF.map c32))::(.slice 1 (e.payload.map c8))::(.slice 1 (rs.map (cS 1 c32)))::hv::nI p [.slice 1 (c.rows.map (cS 5 Rw.c)),.slice 1 (c.Xq.map cI),.slice 2 (c.Xp.map Xb.c),.slice 1 (c.Xl.map (cS 1 c32))])
def HV (O:List (Nat×AO)) (h:List Hit) (hv:AV):Prop:=(h=[]/\hv= .Xt 3 [])\/∃tk,hv= .app 3 (h.map Hit.c) tk/\look tk O=some (.tok 3 h.length)
structure MM (p:Prg) (c:Xe) (id:Nat) (O:List (Nat×AO)) (s:MS) (hv:AV):Prop where
 l:look id O=some (.row 19 [mC p c s.e s.rs hv])
 h:HV O s.hits hv
def FrM (id:Nat) (O O':List (Nat×AO)):Prop:=∀j z es,j≠id->look j O=some (.row z es)->look j O'=some (.row z es)
theorem FrM.trans {id:Nat} {O O' O'':List (Nat×AO)} (h:FrM id O O') (h2:FrM id O' O''):FrM id O O'':=fun j z es h1 h3=>h2 j z es h1 (h j z es h1 h3)
def ApP (p:Prg) (c:Xe) (id N:Nat) (O:List (Nat×AO)) (s':MS) (v:AV) (r:Option (Rt×AH)):Prop:=
 ∃O' N' hv,r=some (.val v,⟨O',N'⟩)/\MM p c id O' s' hv/\FrM id O O'/\Tail O' N'/\NR O'/\N<=N'
theorem Fy {O:List (Nat×AO)} {N n:Nat} {h:List Hit} {hv:AV} (x:HV O h hv):snap (n+1) ⟨O,N⟩ hv=some (.slice 3 (h.map Hit.c)):=by
 rcases x with ⟨rfl,rfl⟩ | ⟨tk,rfl,_⟩<;>simp
theorem apA {id N M k1 k2:Nat} {O:List (Nat×AO)} {x:AO} {z1 z2 z3 z4:Nat} {e1 e2 e3 e4:List (List AV)} {f:Nat} (li:look id O=some x) (T:Tail O N) (R:NR O) (h1:N+k1<M) (h2:N+k2<M) (h3:k1≠k2):
  let O':=setl id (.row z3 e3) (setl id (.row z2 e2) (setl id (.row z1 e1) (O++[(N+k1,.row z4 e4)]))++[(N+k2,.tok 3 f)])
  look id O'=some (.row z3 e3)/\look (N+k2) O'=some (.tok 3 f)/\FrM id O O'/\Tail O' M/\NR O':=by
 have hi:=T.lt li;have tt:∀k,look (N+k) O=none:=fun k=>T _ (by omega)
 refine ⟨?_,?_,?_,?_,?_⟩
 ·rw [aC,a9 rfl,aH,aC,a9 rfl,aC,a9 rfl,cH li];rfl
 ·rw [aC,QA (by omega),aH,aC,QA (by omega),aC,QA (by omega),aH,tt,jI _ _ _ _ (by omega)];simp
 ·intro j z es hj hl;rw [aC,QA hj,aH,aC,QA hj,aC,QA hj,cH hl];rfl
 ·exact d6 (Tail_append_iff.2 ⟨d6 (d6 (Tail_append_iff.2 ⟨T.mono (by omega),Tail_cons_iff.2 ⟨h1,Tail.nil _⟩⟩)),Tail_cons_iff.2 ⟨h2,Tail.nil _⟩⟩)
 ·exact NR.setl (by simp) ((NR.setl (by simp) (NR.setl (by simp) (R.app (.one (by simp))))).app (.one (by simp)))
theorem apB {id N M k1 tk:Nat} {O:List (Nat×AO)} {x:AO} {y z1 z2 z3 z4:Nat} {e1 e2 e3 e4:List (List AV)} {f:Nat} (li:look id O=some x) (lt:look tk O=some (.tok 3 y)) (hne:tk≠id) (T:Tail O N) (R:NR O) (h1:N+k1<M):
  let O':=setl id (.row z3 e3) (setl tk (.tok 3 f) (setl id (.row z2 e2) (setl id (.row z1 e1) (O++[(N+k1,.row z4 e4)]))))
  look id O'=some (.row z3 e3)/\look tk O'=some (.tok 3 f)/\FrM id O O'/\Tail O' M/\NR O':=by
 refine ⟨?_,?_,?_,?_,?_⟩
 ·rw [aC,a9 rfl,aC,QA hne.symm,aC,a9 rfl,aC,a9 rfl,cH li];rfl
 ·rw [aC,QA hne,aC,a9 rfl,aC,QA hne,aC,QA hne,cH lt];rfl
 ·intro j z es hj hl;rw [aC,QA hj,aC,QA (cW hl lt (by simp)),aC,QA hj,aC,QA hj,cH hl]
 ·exact d6 (d6 (d6 (d6 (Tail_append_iff.2 ⟨T.mono (by omega),Tail_cons_iff.2 ⟨h1,Tail.nil _⟩⟩))))
 ·exact NR.setl (by simp) (NR.setl (by simp) (NR.setl (by simp) (NR.setl (by simp) (R.app (.one (by simp))))))
theorem Zu {p:Prg} (k:PKp p) {c:Xe} (cf:CF p c) {t:Nat} (ht:t<p.Xm.length) {id N:Nat} {O:List (Nat×AO)} {s:MS} {hv:AV} (m:MM p c id O s hv) (xv:XV p s.e s.rs) (hl:s.hits.length<2^30) (T:Tail O N) (R:NR O):
  ApP p c id N O (apX p c t s).1 (.bool (apX p c t s).2) (aQ Φ kD [.ptr id 19 0 0,a7 t] ⟨O,N⟩):=by
 rw [eI rfl rfl];obtain ⟨e,rs,hits⟩:=s;obtain ⟨li,lh⟩:=m;simp only at li lh xv hl;have hk:=Jh k.fs ht (k.tb t ht) e;have htr:t<c.rows.length:=by rw [cf.rl];exact ht
 have htd:t<c.Xp.length:=by rw [cf.dl];exact ht
 obtain ⟨r1,r2,r3⟩:=cf.rs _ (Qd htr);have hb:=qy9 k.fs ht (keyX p t e) r1 (fun x hx=>(r2 x hx).1) r3;have hsel:selX p c t e=oB p t (keyX p t e) c.rows[t]:=by simp [selX,htr]
 have hcal:CallV p (calX c t (selX p c t e)):=by
  unfold calX;split
  ·rename_i x hx;rw [hsel] at hx;rcases Zq _ _ _ _ _ hx with h | h
   ·exact (r2 x h).2
   ·cases h
  ·rw [qT,Qa htd];exact cf.dc _ (Qd htd)
 have hex:=Kq k.fs k.w (calX c t (selX p c t e)) hcal.a hcal.c hcal.v hcal.l xv;have hap:apX p c t ⟨e,rs,hits⟩=(⟨(exeX p (calX c t (selX p c t e)) e rs).1,(exeX p (calX c t (selX p c t e)) e rs).2,hits++[⟨t,((selX p c t e).map (·.id)).getD 0,(calX c t (selX p c t e)).Xy⟩]⟩,(selX p c t e).isSome):=rfl;rw [hap];generalize exeX p (calX c t (selX p c t e)) e rs=y at*;obtain ⟨e2,rs2⟩:=y;rw [<- hsel] at hb;have hdef:selX p c t e=none->calX c t (selX p c t e)=c.Xp[t]:=fun h=>by
  rw [h];simp [calX,htd]
 have hrow:∀x,selX p c t e=some x->calX c t (selX p c t e)=x.entry.call:=fun x h=>by rw [h];rfl
 generalize selX p c t e=o at*;generalize hcl:calX c t o=cl at*;generalize keyX p t e=ks at*;generalize hrw:c.rows[t]=rw at*;generalize hdf:c.Xp[t]=df at*;have t0:∀k,look (N+k) O=none:=fun k=>T _ (by omega)
 have t00:=T N (Qb _);have fi:=fun k=>eX (n:=N+k) T li (by omega)
 have fi0:=eX (n:=N) T li (by omega);have iq:∀k,(id == N+k)=false/\(N+k == id)=false:=fun k=>by simp [fi k]
 have iq0:(id == N)=false/\(N == id)=false:=by simp [fi0]
 rw [mC] at li;rw [Prg.c] at hk hex hb;simp only [Envt.ce] at hk hex;have lt8:N+7<N+8:=by omega
 have lt9:∀k,k<9->N+k<N+9:=fun k h=>by omega
 have ft:∀{tk y:Nat},look tk O=some (.tok 3 y)->∀k,¬tk=N+k/\¬N+k=tk:=fun h k=>eX T h (by omega)
 have idt:∀{tk y:Nat},look tk O=some (.tok 3 y)->¬id=tk/\¬tk=id:=fun h=>by
  have:=cW li h (by simp);exact ⟨this,fun e=>this e.symm⟩
 have bd:(hits.length+1)*24<=70368744177664:=by omega
 cases o with
 | none=>
  have hcd:=hdef rfl;subst hcd;simp only [rowV,Option.isSome_none,Rw.ce,noE] at hb;rw [Xb.c] at hex;rcases lh with ⟨rfl,rfl⟩ | ⟨tk,rfl,lt⟩
  ·simp [nY,li,hk,cS,htr,htd,hrw,hdf,hb,hex,Xb.c,t0,t00,fW,aH,aC,fi,fi0,iq,iq0,gB,pU,R.eq];obtain ⟨a1,a2,a3,a4,a5⟩:=apA li T R (lt9 7 (by decide)) (lt9 8 (by decide)) (by decide);exact ⟨_,_,_,rfl,⟨a1,.inr ⟨_,rfl,a2⟩⟩,a3,a4,a5,L7 _ _⟩
  ·have ft:=ft lt;have idt:=idt lt;simp [nY,li,hk,cS,htr,htd,hrw,hdf,hb,hex,Xb.c,t0,t00,fW,aH,aC,fi,fi0,iq,iq0,gB,pU,R.eq,lt,ft,idt,bd];obtain ⟨a1,a2,a3,a4,a5⟩:=apB li lt idt.2 T R lt8;exact ⟨_,_,_,rfl,⟨a1,.inr ⟨tk,by simp [Hit.c],by simpa using a2⟩⟩,a3,a4,a5,L7 _ _⟩
 | some x=>
  have hcd:=hrow x rfl;subst hcd;simp only [rowV,Option.isSome_some,Rw.ce] at hb;rw [Xb.c] at hex;rcases lh with ⟨rfl,rfl⟩ | ⟨tk,rfl,lt⟩
  ·simp [nY,li,hk,cS,htr,htd,hrw,hdf,hb,hex,Xb.c,t0,t00,fW,aH,aC,fi,fi0,iq,iq0,gB,pU,R.eq];obtain ⟨a1,a2,a3,a4,a5⟩:=apA li T R (lt9 7 (by decide)) (lt9 8 (by decide)) (by decide);exact ⟨_,_,_,rfl,⟨a1,.inr ⟨_,rfl,a2⟩⟩,a3,a4,a5,L7 _ _⟩
  ·have ft:=ft lt;have idt:=idt lt;simp [nY,li,hk,cS,htr,htd,hrw,hdf,hb,hex,Xb.c,t0,t00,fW,aH,aC,fi,fi0,iq,iq0,gB,pU,R.eq,lt,ft,idt,bd];obtain ⟨a1,a2,a3,a4,a5⟩:=apB li lt idt.2 T R lt8;exact ⟨_,_,_,rfl,⟨a1,.inr ⟨tk,by simp [Hit.c],by simpa using a2⟩⟩,a3,a4,a5,L7 _ _⟩
def mS (p:Prg) (c:Xe) (s:MS):List AV:=mC p c s.e s.rs (.slice 3 (s.hits.map Hit.c))
theorem MM.snp {p:Prg} {c:Xe} {id N:Nat} {O:List (Nat×AO)} {s:MS} {hv:AV} (m:MM p c id O s hv):snap 40 ⟨O,N⟩ (.ptr id 19 0 0)=some (.iptr 19 [mS p c s] 0 0):=by
 have h1:=m.l;have h2:=Fy (N:=N) (n:=38) m.h;rw [mC] at h1;simp [h1,h2,mS,mC]
theorem qwk {p:Prg} {c:Xe} (s:MS) (f:Int):a8 Φ sR [.iptr 19 [mS p c s] 0 0,a7 f]=some (.val (.int .u32 (eGet s.e (-1) f))):=by
 rw [aA rfl rfl];have h:=WC s.e (-1) f;rw [Envt.ce] at h;simp [GX,mS,mC,h]
theorem Jg {p:Prg} {c:Xe} {s:MS} (xv:XV p s.e s.rs) (cond:List Xd):a8 Φ mA [.iptr 19 [mS p c s] 0 0,.slice 3 (cond.map Xd.c)]=some (.val (.bool (decide (evl p [] cond s.e []=1)))):=by
 rw [aA rfl rfl];have he:=qzx p [] s.e [] cond xv.g (by simp);rw [Envt.ce] at he;simp [scC,Prg.c] at he;simp [GN,mS,mC,he]
def RsP (y:Rslt) (N:Nat) (O:List (Nat×AO)) (r:Option (Rt×AH)):Prop:=
 ∃L N' v1 v2 v3 v4,r=some (.val (.agg [v1,v2,v3,v4]),⟨O++L,N'⟩)/\Tail (O++L) N'/\NR (O++L)/\N<=N'/\∀(O2:List (Nat×AO)) (n n2:Nat),snap (n+1) ⟨O2,n2⟩ v1=some (.bool y.drop)/\snap (n+1) ⟨O2,n2⟩ v2=some (a7 y.port)/\snap (n+1) ⟨O2,n2⟩ v3=some (.slice 1 (y.data.map c8))/\snap (n+1) ⟨O2,n2⟩ v4=some (.slice 3 (y.hits.map Hit.c))
theorem XO {p:Prg} (k:PKp p) {c:Xe} {id N:Nat} {O:List (Nat×AO)} {s:MS} {hv:AV} (m:MM p c id O s hv) (xv:XV p s.e s.rs) (T:Tail O N) (R:NR O):
  RsP (resX p s) N O (aQ Φ sI [.ptr id 19 0 0] ⟨O,N⟩):=by
 rw [eI rfl rfl];have t0:=T N (Qb _);have sn:=fun L n=>MM.snp (N:=n) (⟨cH (L:=L) m.l,by
  rcases m.h with h | ⟨tk,h1,h2⟩
  ·exact .inl h
  ·exact .inr ⟨tk,h1,cH h2⟩⟩:MM p c id (O++L) s hv)
 have m1:=qwk (p:=p) (c:=c) s 1;have m2:=qwk (p:=p) (c:=c) s 2;have em:=qv8 k.fs k.w k.hd k.dp xv.ev xv.pl;have sz:=Im k.fs k.w k.hd k.dp xv.ev xv.pl;have li:=m.l;have fi:=eX (n:=N) T li (Qb _);rw [mC] at li;rw [Prg.c,Envt.ce] at em sz;have w1:IntKind.wrap .i64 (eGet s.e (-1) 1)=eGet s.e (-1) 1:=by
  have:=xv.g (-1) 1;exact cN (by have:=this.1;omega) (by have:=this.2;omega)
 have g1:(at? s.e.metaF 1).getD 0=eGet s.e (-1) 1:=by simp [eGet]
 have g2:(at? s.e.metaF 2).getD 0=eGet s.e (-1) 2:=by simp [eGet]
 have fin:∀{x:AO} {v1 v2 v3 v4:AV},x≠ .res->(∀(O2:List (Nat×AO)) (n n2:Nat),snap (n+1) ⟨O2,n2⟩ v1=some (.bool (resX p s).drop)/\snap (n+1) ⟨O2,n2⟩ v2=some (a7 (resX p s).port)/\snap (n+1) ⟨O2,n2⟩ v3=some (.slice 1 ((resX p s).data.map c8))/\snap (n+1) ⟨O2,n2⟩ v4=some (.slice 3 ((resX p s).hits.map Hit.c)))->RsP (resX p s) N O (some (Rt.val (.agg [v1,v2,v3,v4]),(⟨O++[(N,x)],N+1⟩:AH))):=fun {x v1 v2 v3 v4} hx h=>
  ⟨_,_,_,_,_,_,rfl,Tail_append_iff.2 ⟨T.mono (by omega),Tail_cons_iff.2 ⟨by omega,Tail.nil _⟩⟩,R.app (.one hx),by omega,h⟩
 unfold resX at*;rw [g1,g2] at*;rcases m.h with ⟨h0,rfl⟩ | ⟨tk,rfl,_⟩
 ·by_cases z:eGet s.e (-1) 2=1
  ·rw [a9 (.inl z)] at*;simp [jR,t0,sn,m2,z,aH,aC,li,fi,gB];exact fin (by simp) (by intro O2 n n2;simp [h0])
  ·by_cases z2:512<(emi p s.e).length
   ·rw [a9 (.inr z2)] at*;simp [jR,t0,sn,m2,z,z2,sz,aH,aC,li,fi,gB];exact fin (by simp) (by intro O2 n n2;simp [h0])
   ·rw [QA (by simp [z,z2])] at*;simp [jR,t0,sn,m1,m2,z,z2,sz,em,w1,aH,aC,li,fi,gB];exact fin (by simp) (by intro O2 n n2;simp [h0])
 ·by_cases z:eGet s.e (-1) 2=1
  ·rw [a9 (.inl z)] at*;simp [jR,t0,sn,m2,z,aH,aC,li,fi,gB];exact fin (by simp) (by intro O2 n n2;simp)
  ·by_cases z2:512<(emi p s.e).length
   ·rw [a9 (.inr z2)] at*;simp [jR,t0,sn,m2,z,z2,sz,aH,aC,li,fi,gB];exact fin (by simp) (by intro O2 n n2;simp)
   ·rw [QA (by simp [z,z2])] at*;simp [jR,t0,sn,m1,m2,z,z2,sz,em,w1,aH,aC,li,fi,gB];exact fin (by simp) (by intro O2 n n2;simp)
def fA (id:Nat):AV:= .func (.func kD) [.ptr id 19 0 0] []
def fT (id:Nat):AV:= .func (.func mA) [.ptr id 19 0 0] []
def NdV (p:Prg) (x:Xa):Prop:=x.kind=2\/((x.kind=3\/x.kind=1/\x.thn=[]/\x.els=[])/\∃t:Nat,x.table=t/\t<p.Xm.length)
def lst (X:AV) (l:List Xa):Prop:=(l=[]/\X= .Xt 5 [])\/X= .slice 5 (l.map Xa.c)
def BrP (p:Prg) (c:Xe) (id N:Nat) (O:List (Nat×AO)) (s':MS) (l:List Xa) (r:Option (Rt×AH)):Prop:=
 ∃O' N' hv X,r=some (.val X,⟨O',N'⟩)/\lst X l/\MM p c id O' s' hv/\FrM id O O'/\Tail O' N'/\NR O'/\N<=N'
theorem MM.app {p:Prg} {c:Xe} {id:Nat} {O:List (Nat×AO)} {s:MS} {hv:AV} (m:MM p c id O s hv) (L:List (Nat×AO)):MM p c id (O++L) s hv:=⟨cH m.l,by
 rcases m.h with h | ⟨tk,h1,h2⟩
 ·exact .inl h
 ·exact .inr ⟨tk,h1,cH h2⟩⟩
section
variable {p:Prg} (pk:PKp p) {c:Xe} (cf:CF p c) {id N:Nat} {O:List (Nat×AO)} {s:MS} {hv:AV} (m:MM p c id O s hv) (xv:XV p s.e s.rs) (hl:s.hits.length<2^30) (T:Tail O N) (R:NR O)
include pk cf m xv hl T R
theorem Jx (k:Int) {t:Nat} (ht:t<p.Xm.length) (cd:List Xd) (a b:List Xa):
  BrP p c id N O (apX p c t s).1 [] (aQ Φ uM [.agg (Xa.c (.mk k t cd a b)),.agg [fA id,fT id]] ⟨O,N⟩):=by
 rw [eI rfl rfl];have t0:∀k,look (N+k) O=none:=fun k=>T _ (by omega)
 have t00:=T N (Qb _);have l2:N+1<N+1+1:=by omega
 have T1:∀(x y:AO),Tail (O++[(N,x),(N+1,y)]) (N+1+1):=fun x y=>Tail_append_iff.2 ⟨T.mono (by omega),Tail_cons_iff.2 ⟨by omega,Tail_cons_iff.2 ⟨l2,Tail.nil _⟩⟩⟩
 have R1:∀(z z2:Nat) (x y:List (List AV)),NR (O++[(N,.row z x),(N+1,.row z2 y)]):=fun z z2 x y=>R.app (dU (by simp) (.one (by simp)))
 obtain ⟨O2,N2,hv2,hr,m2,f2,t2,r2,n2⟩:=Zu pk cf ht (m.app [(N,.row 5 [Xa.c (.mk k t cd a b)]),(N+1,.row 2 [[fA id,fT id]])]) xv hl (T1 _ _) (R1 _ _ _ _);rw [Xa.e,fA,fT] at hr;simp [JZ,Xa.e,fA,fT,t0,t00,aH,hr];exact ⟨O2,N2,hv2,_,rfl,.inl ⟨rfl,rfl⟩,m2,fun j z es h1 h2=>f2 j z es h1 (cH h2),t2,r2,by omega⟩
theorem Jz (k:Int) {t:Nat} (ht:t<p.Xm.length) (cd:List Xd) (a b:List Xa):
  BrP p c id N O (apX p c t s).1 (if (apX p c t s).2 then a else b) (aQ Φ uN [.agg (Xa.c (.mk k t cd a b)),.agg [fA id,fT id]] ⟨O,N⟩):=by
 rw [eI rfl rfl];have t0:∀k,look (N+k) O=none:=fun k=>T _ (by omega)
 have t00:=T N (Qb _);have l2:N+1<N+1+1:=by omega
 have T1:∀(x y:AO),Tail (O++[(N,x),(N+1,y)]) (N+1+1):=fun x y=>Tail_append_iff.2 ⟨T.mono (by omega),Tail_cons_iff.2 ⟨by omega,Tail_cons_iff.2 ⟨l2,Tail.nil _⟩⟩⟩
 have R1:∀(z z2:Nat) (x y:List (List AV)),NR (O++[(N,.row z x),(N+1,.row z2 y)]):=fun z z2 x y=>R.app (dU (by simp) (.one (by simp)))
 obtain ⟨O2,N2,hv2,hr,m2,f2,t2,r2,n2⟩:=Zu pk cf ht (m.app [(N,.row 5 [Xa.c (.mk k t cd a b)]),(N+1,.row 2 [[fA id,fT id]])]) xv hl (T1 _ _) (R1 _ _ _ _);have hN:=T.lt m.l;have lN:=f2 N 5 [Xa.c (.mk k t cd a b)] (by omega) (by rw [aH,t00];simp);rw [Xa.e,fA,fT] at hr;rw [Xa.e] at lN;cases q:(apX p c t s).2 with
 | true=>
  rw [q] at hr;simp [zD,Xa.e,fA,fT,t0,t00,aH,hr,lN];exact ⟨O2,N2,hv2,_,rfl,.inr rfl,m2,fun j z es h1 h2=>f2 j z es h1 (cH h2),t2,r2,by omega⟩
 | false=>
  rw [q] at hr;simp [zD,Xa.e,fA,fT,t0,t00,aH,hr,lN];exact ⟨O2,N2,hv2,_,rfl,.inr rfl,m2,fun j z es h1 h2=>f2 j z es h1 (cH h2),t2,r2,by omega⟩
omit pk cf hl in
theorem Jy (k t:Int) (cd:List Xd) (hcd:cd.length<2^40) (a b:List Xa):
  BrP p c id N O s (if evl p [] cd s.e []=1 then a else b) (aQ Φ CM [.agg (Xa.c (.mk k t cd a b)),.agg [fA id,fT id]] ⟨O,N⟩):=by
 rw [eI rfl rfl];have t0:∀k,look (N+k) O=none:=fun k=>T _ (by omega)
 have t00:=T N (Qb _);have hN:=T.lt m.l;have bd:cd.length*24<=70368744177664:=by omega
 have iq:∀k,(id == N+k)=false/\(N+k == id)=false:=fun k=>by simp;omega
 have iq0:(id == N)=false/\(N == id)=false:=by simp;omega
 have te:=Jg (c:=c) xv cd;have sn:=fun L n=>(m.app L).snp (N:=n)
 have bq:∀k,0<k->(N == N+k)=false/\(N+k == N)=false:=fun k hk=>by simp;omega
 have lt13:∀k,k<13->N+k<N+13:=fun k h=>by omega
 have fin:∀{X:AV} {l:List Xa} {z z2 f:Nat} {x y:List (List AV)},lst X l->BrP p c id N O s l (some (.val X,⟨O++[(N,.row z x),(N+1,.row z2 y),(N+12,.tok 3 f)],N+13⟩)):=fun {X l z z2 f x y} h=>
  ⟨_,_,hv,X,rfl,h,m.app _,fun j z es _ hj=>cH hj,Tail_append_iff.2 ⟨T.mono (by omega),Tail_cons_iff.2 ⟨lt13 0 (by decide),Tail_cons_iff.2 ⟨lt13 1 (by decide),Tail_cons_iff.2 ⟨lt13 12 (by decide),Tail.nil _⟩⟩⟩⟩,R.app (dU (by simp) (dU (by simp) (.one (by simp)))),by omega⟩
 by_cases q:evl p [] cd s.e []=1
 ·simp [zE,Xa.e,fA,fT,t0,t00,fW,aH,aC,pU,R.eq,gB,bd,iq,iq0,sn,te,bq,q];exact fin (.inr rfl)
 ·simp [zE,Xa.e,fA,fT,t0,t00,fW,aH,aC,pU,R.eq,gB,bd,iq,iq0,sn,te,bq,q];exact fin (.inr rfl)
end
theorem qv4 (p:Prg) (c:Xe):∀(n:Nat) (s:MS),ctX p c n [] s=s
 | 0,_=>rfl
 | _+1,_=>rfl
theorem ZR (k t:Int) (cd:List Xd) (a b:List Xa):a8 Φ B4 [.agg (Xa.c (.mk k t cd a b))]=some (.val (if k=1 then .iface 413 (.agg (Xa.c (.mk k t cd a b))) else if k=3 then .iface 414 (.agg (Xa.c (.mk k t cd a b))) else if k=2 then .iface 415 (.agg (Xa.c (.mk k t cd a b))) else .iface 417 (.agg []))):=by
 rw [aA rfl rfl];by_cases h1:k=1
 ·simp [oJ,Xa.e,h1]
 by_cases h3:k=3
 ·simp [oJ,Xa.e,h3]
 by_cases h2:k=2
 ·simp [oJ,Xa.e,h2]
 ·simp [oJ,Xa.e,h1,h2,h3]
def XS (p:Prg) (s:MS):Prop:=XV p s.e s.rs
theorem XS.ap {p:Prg} {c:Xe} {t:Int} {s:MS} (h:XS p s):XS p (apX p c t s).1:=XV.exe _ h
theorem XS.nd {p:Prg} {c:Xe} {f:List Xa->MS->MS} (hf:∀l s,XS p s->XS p (f l s)) {s:MS} (h:XS p s) (x:Xa):XS p (ndX p c f s x):=by
 unfold ndX;split
 ·exact hf _ _ h
 ·exact hf _ _ h.ap
theorem XS.ct {p:Prg} {c:Xe}:∀(n:Nat) (l:List Xa) (s:MS),XS p s->XS p (ctX p c n l s)
 | 0,_,_,h=>h
 | n+1,l,s,h=>Pq (P:=XS p) (fun _ x hb=>XS.nd (XS.ct n) hb x) l s h
theorem Rk {x y:Xa} (hy:y∈pre1 x):∀{l:List Xa},x∈l->y∈pre l
 | [],h=>by cases h
 | z::l,h=>by
  simp only [pre,gI];rcases iW.1 h with h | h
  ·subst h;exact .inl hy
  ·exact .inr (Rk hy h)
theorem UU {x:Xa}:∀{l:List Xa},x∈l->1+EH x<=nest l
 | [],h=>by cases h
 | z::l,h=>by
  simp only [nest];rcases iW.1 h with h | h
  ·subst h;exact Nat.le_max_left _ _
  ·exact r5 (UU h) (Nat.le_max_right _ _)
theorem Dy:∀(l:List Xa),(apl l).length<=(pre l).length:=fun l=>by
 unfold apl;rw [qN];exact List.length_filter_le _ _
theorem Em {p:Prg} {c:Xe} (n:Nat) (l:List Xa) (s:MS) (h:∀x∈pre l,x.kind=2\/appl x=true):(ctX p c n l s).hits.length<=s.hits.length+(pre l).length:=by
 obtain ⟨hs,h1,h2⟩:=Ua (p:=p) (c:=c) n l s h;have:=h2.length_le;have h3:=Dy l;rw [h1,qM];rw [qN] at this;omega
theorem qtt:∀l:List Xa,l.length<=(pre l).length
 | []=>by simp
 | x::l=>by
  have ih:=qtt l;obtain ⟨k,t,c,a,b⟩:=x;simp only [pre,pre1,qM,EW];omega
theorem aoW (id:Nat):aoEq (some (AO.row 2 [[.func (.func kD) [.ptr id 19 0 0] [],.func (.func mA) [.ptr id 19 0 0] []]])) (some (AO.row 2 [[.func (.func kD) [.ptr id 19 0 0] [],.func (.func mA) [.ptr id 19 0 0] []]]))=true:=by
 simp [aoEq,eqL,avEq,aT]
def WkP (p:Prg) (c:Xe) (id N:Nat) (O:List (Nat×AO)) (s':MS) (r:Option (Rt×AH)):Prop:=
 ∃O' N' hv,r=some (.val (.tup []),⟨O',N'⟩)/\MM p c id O' s' hv/\FrM id O O'/\Tail O' N'/\NR O'/\N<=N'
theorem qw5 {p:Prg} (pk:PKp p) {c:Xe} (cf:CF p c) {id:Nat}:∀(n:Nat) (l:List Xa) (X:AV) (O:List (Nat×AO)) (N:Nat) (s:MS) (hv:AV),nest l<=n->(∀x∈pre l,NdV p x/\x.cond.length<2^40)->lst X l->MM p c id O s hv->XS p s->s.hits.length+(pre l).length<2^30->Tail O N->NR O->
  WkP p c id N O (ctX p c n l s) (aQ Φ kH [.agg [fA id,fT id],X] ⟨O,N⟩)
 | n,[],X,O,N,s,hv,hn,hv2,hX,m,xs,hh,T,R=>by
  rw [qv4,eI rfl rfl];have t00:=T N (Qb _);have fin:∀{x:List (List AV)} {z:Nat},WkP p c id N O s (some (.val (.tup []),⟨O++[(N,.row z x)],N+1⟩)):=fun {x z}=>
   ⟨_,_,hv,rfl,m.app _,fun j z es _ hj=>cH hj,Tail_append_iff.2 ⟨T.mono (by omega),Tail_cons_iff.2 ⟨by omega,Tail.nil _⟩⟩,R.app (.one (by simp)),by omega⟩
  rcases hX with ⟨_,rfl⟩ | rfl
  ·simp [rP,fA,fT,t00,aH];rw [bY];simp [c_176_l0];exact fin
  ·simp [rP,fA,fT,t00,aH];rw [bY];simp [c_176_l0];exact fin
 | 0,x::l,X,O,N,s,hv,hn,hv2,hX,m,xs,hh,T,R=>by
  simp only [nest] at hn;omega
 | n+1,x0::l0,X,O,N,s,hv,hn,hv2,hX,m,xs,hh,T,R=>by
  have hX':X= .slice 5 ((x0::l0).map Xa.c):=by
   rcases hX with ⟨h,_⟩ | h
   ·cases h
   ·exact h
  subst hX';generalize hll:x0::l0=l at*;have hlp:l.length<=(pre l).length:=qtt l;have hkd:∀x∈pre l,x.kind=2\/appl x=true:=fun x hx=>by
   rcases (hv2 x hx).1 with h | ⟨h | h,_⟩
   ·exact .inl h
   ·right;simp [appl,h]
   ·right;simp [appl,h.1]
  rw [eI rfl rfl];have t00:=T N (Qb _);simp [rP,fA,fT,t00,aH];refine gL l.length (fun i E h=>∃O' N' hv',h=⟨O',N'⟩/\look 2 E=some (.ptr N 2 0 0)/\look 6 E=some (.slice 5 (l.map Xa.c))/\look 7 E=some (a7 l.length)/\look 8 E=some (a7 i)/\look N O'=some (.row 2 [[fA id,fT id]])/\MM p c id O' (ctX p c (n+1) (l.take i) s) hv'/\FrM id O O'/\Tail O' N'/\NR O'/\N<N') (fun r=>WkP p c id N O (ctX p c (n+1) l s) r) ?_ ?_ 0 _ _ (Qc _) ?_
  rotate_left 2
  ·refine ⟨_,_,hv,rfl,by simp,by simp,by simp,by simp,by rw [aH,t00];simp [fA,fT],?_,fun j z es _ hj=>cH hj,Tail_append_iff.2 ⟨T.mono (by omega),Tail_cons_iff.2 ⟨by omega,Tail.nil _⟩⟩,R.app (.one (by simp)),by omega⟩;rw [List.take_zero,qv4];exact m.app _
  ·rintro i E _ K hi hK ⟨O',N',hv',rfl,e2,e6,e7,e8,lN,m',f',T',R',n'⟩ ih;have hmem:=Qd hi;have hsplit:pre l=pre (l.take i)++(pre1 l[i]++pre (l.drop (i+1))):=by
    rw [show pre1 l[i]++pre (l.drop (i+1))=pre (l[i]::l.drop (i+1)) by simp [pre],<- Qi hi,<- K9,ER]
   have hl1:=congrArg List.length hsplit;rw [qM,qM] at hl1;have hhi:=Em (p:=p) (c:=c) (n+1) (l.take i) s fun x hx=>hkd x (by rw [hsplit];exact List.mem_append_left _ hx)
   have xi:XS p (ctX p c (n+1) (l.take i) s):=XS.ct _ _ _ xs;have hstep:ctX p c (n+1) (l.take (i+1)) s=ndX p c (ctX p c n) (ctX p c (n+1) (l.take i) s) l[i]:=by
    simp only [ctX];rw [Qh hi,List.foldl_append];rfl
   have hw1:=aM i (by omega);have hne:=UU hmem;have hself:l[i]∈pre1 l[i]:=by
    generalize l[i]=x;obtain ⟨k,t,cd,a,b⟩:=x;simp [pre1]
   obtain ⟨hnv,hcd⟩:=hv2 _ (Rk hself hmem);have hsub:∀y∈pre1 l[i],NdV p y/\y.cond.length<2^40:=fun y hy=>hv2 y (Rk hy hmem)
   generalize hx:l[i]=x at*;obtain ⟨k,t,cd,a,b⟩:=x;simp only [Xa.cond] at hcd;simp only [EH] at hne;simp only [pre1,EW,qM] at hl1;generalize ctX p c (n+1) (l.take i) s=si at*;have t0:=T' N' (Qb _);have hwr:=ZR k t cd a b;have next:∀{E2:Env} {s2:MS} {O3:List (Nat×AO)} {N3:Nat} {hv3:AV},(∀j,j=2\/j=6\/j=7->look j E2=look j E)->look 8 E2=some (a7 (i+1:Nat))->ndX p c (ctX p c n) si (.mk k t cd a b)=s2->MM p c id O3 s2 hv3->FrM id O' O3->Tail O3 N3->NR O3->N'<=N3->WkP p c id N O (ctX p c (n+1) l s) (go Φ (finC []) K .normal ⟨E2,⟨O3,N3⟩⟩):=fun {E2 s2 O3 N3 hv3} hE h8 hs hm hf ht hr hn3=>
    ih _ _ ⟨O3,N3,hv3,rfl,by rw [hE 2 (by simp),e2],by rw [hE 6 (by simp),e6],by rw [hE 7 (by simp),e7],h8,hf N 2 _ (by have:=T.lt m.l;omega) lN,by rw [hstep,hs];exact hm,FrM.trans f' hf,ht,hr,by omega⟩
   have T1:Tail O' (N'+1+1):=T'.mono (by omega);have below:∀{O2:List (Nat×AO)} {N2:Nat} {s2:MS} {hv2' X2:AV} {l2:List Xa},lst X2 l2->nest l2<=n->(∀x∈pre l2,NdV p x/\x.cond.length<2^40)->MM p c id O2 s2 hv2'->XS p s2->s2.hits.length+(pre l2).length<2^30->Tail O2 N2->NR O2->WkP p c id N2 O2 (ctX p c n l2 s2) (aQ Φ kH [.agg [fA id,fT id],X2] ⟨O2,N2⟩):=fun {O2 N2 s2 hv2' X2 l2} h1 h2 h3 h4 h5 h6 h7 h8=>qw5 pk cf n l2 X2 O2 N2 s2 hv2' h2 h3 h1 h4 h5 h6 h7 h8
   have ha:nest a<=n:=by omega
   have hb:nest b<=n:=by omega
   have hpa:∀x∈pre a,NdV p x/\x.cond.length<2^40:=fun y hy=>hsub y (by simp [pre1,hy])
   have hpb:∀x∈pre b,NdV p x/\x.cond.length<2^40:=fun y hy=>hsub y (by simp [pre1,hy])
   have hap1:∀t':Int,(apX p c t' si).1.hits.length=si.hits.length+1:=fun t'=>by simp [apX]
   have lN1:=lN;rw [fA,fT] at lN1;simp only [NdV,Xa.kind,Xa.thn,Xa.els,Xa.table] at hnv;rcases hnv with rfl | ⟨rfl | ⟨rfl,rfl,rfl⟩,t',rfl,ht'⟩
   ·obtain ⟨O2,N2,hv2',X2,hr,hX2,m2,f2,t2,r2,n2⟩:=Jy m' xi T1 R' 2 t cd hcd a b;obtain ⟨O3,N3,hv3,hr3,m3,f3,t3,r3,n3⟩:=below hX2 (by split<;>assumption) (by split<;>assumption) m2 xi (by split<;>omega) t2 r2;rw [fA,fT] at hr hr3;rw [QA (by decide),QA (by decide),a9 rfl] at hwr;rw [Xa.e] at hr hwr;have lN2:=f2 N 2 _ (by have:=T.lt m.l;omega) lN1;simp [c_176_l0,Xa.e,e2,e6,e7,e8,hi,hx,hw1,lN1,t0,hwr,hr,hr3,gB,R'.eq,r2.eq,r3.eq,lN2,aoW];refine next (by rintro j (rfl | rfl | rfl)<;>simp) (by simp) ?_ m3 (FrM.trans f2 f3) t3 r3 (by omega)
    rfl
   ·obtain ⟨O2,N2,hv2',X2,hr,hX2,m2,f2,t2,r2,n2⟩:=Jz pk cf m' xi (by omega) T1 R' 3 ht' cd a b;obtain ⟨O3,N3,hv3,hr3,m3,f3,t3,r3,n3⟩:=below hX2 (by split<;>assumption) (by split<;>assumption) m2 (XS.ap xi) (by rw [hap1];split<;>omega) t2 r2;rw [fA,fT] at hr hr3;rw [QA (by decide),a9 rfl] at hwr;rw [Xa.e] at hr hwr;have lN2:=f2 N 2 _ (by have:=T.lt m.l;omega) lN1;simp [c_176_l0,Xa.e,e2,e6,e7,e8,hi,hx,hw1,lN1,t0,hwr,hr,hr3,gB,R'.eq,r2.eq,r3.eq,lN2,aoW];refine next (by rintro j (rfl | rfl | rfl)<;>simp) (by simp) ?_ m3 (FrM.trans f2 f3) t3 r3 (by omega)
    rfl
   ·obtain ⟨O2,N2,hv2',X2,hr,hX2,m2,f2,t2,r2,n2⟩:=Jx pk cf m' xi (by omega) T1 R' 1 ht' cd [] [];obtain ⟨O3,N3,hv3,hr3,m3,f3,t3,r3,n3⟩:=below hX2 (by simp [nest]) (by simp [pre]) m2 (XS.ap xi) (by rw [hap1];simp [pre];omega) t2 r2;rw [fA,fT] at hr hr3;rw [a9 rfl] at hwr;rw [Xa.e] at hr hwr;simp only [nW] at hr hwr;have lN2:=f2 N 2 _ (by have:=T.lt m.l;omega) lN1;simp [c_176_l0,Xa.e,e2,e6,e7,e8,hi,hx,hw1,lN1,t0,hwr,hr,hr3,gB,R'.eq,r2.eq,r3.eq,lN2,aoW];refine next (by rintro j (rfl | rfl | rfl)<;>simp) (by simp) ?_ m3 (FrM.trans f2 f3) t3 r3 (by omega)
    show ctX p c n (if (apX p c t' si).2=true then [] else []) (apX p c t' si).1=_;split<;>rfl
  ·rintro E _ K hK ⟨O',N',hv',rfl,e2,e6,e7,e8,lN,m',f',T',R',n'⟩;rw [jQ] at m';simp [c_176_l0,e7,e8] at hK ⊢;simp [hK];exact ⟨O',N',hv',rfl,m',f',T',R',by omega⟩
theorem ZQ {p:Prg} (pk:PKp p) {c:Xe} (cf:CF p c) {id:Nat} (l:List Xa) {O:List (Nat×AO)} {N:Nat} {s:MS} {hv:AV} (hk:∀x∈pre l,NdV p x/\x.cond.length<2^40) (m:MM p c id O s hv) (xs:XS p s) (hh:s.hits.length+(pre l).length<2^30) (T:Tail O N) (R:NR O):
  WkP p c id N O (ctX p c (nest l) l s) (aQ Φ sH [.slice 5 (l.map Xa.c),fA id,fT id] ⟨O,N⟩):=by
 rw [eI rfl rfl];obtain ⟨O2,N2,hv2,hr,m2,f2,t2,r2,n2⟩:=qw5 pk cf (nest l) l (.slice 5 (l.map Xa.c)) O N s hv (Qb _) hk (.inr rfl) m xs hh T R;rw [fA,fT] at hr;simp [GM,fA,fT,hr];exact ⟨O2,N2,hv2,rfl,m2,f2,t2,r2,n2⟩
theorem Wv (rs:List (List Int)) (h:rs.length<2^40) (h2:∀l∈rs,l.length<2^40):a8 Φ CQ [.slice 1 (rs.map (cS 1 c32))]=some (.val (.slice 1 (rs.map (cS 1 c32)))):=by
 rw [aA rfl rfl];simp [LL];refine gL rs.length (fun i E h=>∃O N,h=⟨O,N⟩/\look 6 E=some (.slice 1 (rs.map (cS 1 c32)))/\look 7 E=some (a7 rs.length)/\look 8 E=some (a7 i)/\look 3 E=some (.app 1 ((rs.take i).map (cS 1 c32)) 0)/\look 0 O=some (.tok 1 i)) (fun (r:Option Rt)=>r=some (.val (.slice 1 (rs.map (cS 1 c32))))) ?_ ?_ 0 _ _ (Qc _) ?_
 rotate_left 2
 ·exact ⟨_,_,rfl,by simp,by simp,by simp,by simp,by simp⟩
 ·rintro i E _ K hi hK ⟨O,N,rfl,e6,e7,e8,e3,l0⟩ ih;have hw1:=aM i (by omega);have hc:=Tf rs[i] (h2 _ (Qd hi));have htw:rs.take (i+1)=rs.take i++[rs[i]]:=Qh hi;have hmin:min i rs.length=i:=by omega
  have bd:(i+1)*24<=70368744177664:=by omega
  generalize hx:rs[i]=x at*;simp [c_99_l0,cS,e6,e7,e8,e3,hi,hx,hw1,hc,l0,hmin,bd];refine ih _ _ ⟨_,_,rfl,?_⟩;exact ⟨by simp [e6],by simp [e7],by simp,by simp [htw,cS],by rw [aC,a9 rfl,l0];rfl⟩
 ·rintro E _ K hK ⟨O,N,rfl,e6,e7,e8,e3,l0⟩;rw [jQ] at e3;simp [LL,c_99_l0,e7,e8] at hK ⊢;simp [c_99_k1,hK,e3]
end Go.Av
