/-
 An action is executed: the reference's answer.
-/
import Derived.Test.YtcehjengeaafpaaGreatTX4B
set_option linter.all false
namespace Go.Av
set_option maxRecDepth 8000
theorem Nj {p:Prg} (f:PrgS p) (w:PWd p) (c:Xb) (hc1:(actE p c.Xy).2=0) (hc2:nV p c=0) (ha:∀v∈c.args,ok32 0 v) (hal:c.args.length<2^40) {e:Envt} {rs:List (List Int)} (x:XV p e rs):
  a8 Φ 164 [.agg p.c,.agg c.c,.agg e.c,.slice 1 (rs.map (cS 1 c32))]=some (.val (.tup [.agg (exeX p c e rs).1.c,.slice 1 ((exeX p c e rs).2.map (cS 1 c32))])):=by
 rw [aB rfl rfl];have h3:=wx p f c.Xy;have h4:=UF p f c hal ha;rw [hc2] at h4;rw [hc1] at h3;have hA:∃k:Nat,c.Xy=k/\∃hk:k<p.Xx.length,True:=by
  unfold actE at hc1;cases q:at? p.Xx c.Xy with
  | none=>rw [q] at hc1;cases hc1
  | some a=>obtain ⟨k,e,hk,_⟩:=iX q;exact ⟨k,e,hk,trivial⟩
 obtain ⟨k,hk,hkl,_⟩:=hA;obtain ⟨act,args⟩:=c;simp only at hk ha hal;subst hk;have hv:=vact hkl hc1;have hbl:=hv.bl;have hkk:∀s∈p.Xx[k].body,s.kind=1\/s.kind=2\/s.kind=3\/s.kind=4\/s.kind=5:=fun s hs=>(vstm (hv.st s hs)).k
 have hX:exeX p ⟨k,args⟩ e rs=p.Xx[k].body.foldl (stmX p p.Xx[k].params args) (e,rs):=by simp [exeX,hkl]
 have hsc:=xe p k hkl;rw [hX];generalize hps:p.Xx[k].params=ps at*;generalize hbd:p.Xx[k].body=body at*;simp only [Prg.e,Xb.e,aE] at h3 h4 hsc;generalize hR:some (Rt.val (.tup [.agg (body.foldl (stmX p ps args) (e,rs)).1.c,.slice 1 ((body.foldl (stmX p ps args) (e,rs)).2.map (cS 1 c32))]))=R;simp [B5,Prg.e,Xb.e,Envt.ce,h3,h4,hsc,hkl,hbd,Action.e];refine cC body.length (fun i E h=>∃n,2<=n/\h=⟨[(0,.row 4 [((body.take i).foldl (stmX p ps args) (e,rs)).1.c]),(1,.row 4 [z4])],n⟩/\look 3 E=some (.slice 1 (((body.take i).foldl (stmX p ps args) (e,rs)).2.map (cS 1 c32)))/\look 4 E=some (.iptr 9 [p.c] 0 0)/\look 5 E=some (.iptr 2 [Xb.c ⟨k,args⟩] 0 0)/\look 6 E=some (.ptr 0 4 0 0)/\look 8 E=some (.ptr 1 4 0 0)/\look 12 E=some (.iptr 10 [scC p ps] 0 0)/\look 13 E=some (.slice 7 (body.map Xf.c))/\look 14 E=some (a7 i)) (fun r=>r=R) ?_ ?_ 0 _ _ (Qc _) ?_
 ·rintro i E _ L hi hL ⟨n,hn,rfl,h3,h4,h5,h6,h8,h12,h13,h14⟩ ih;have hw:=aF i (by omega);have xi:=XV.fold (ps:=ps) (args:=args) (body.take i) (x:=(e,rs)) x;have tk:body.take (i+1)=body.take i++[body[i]]:=Qh hi;have hks:=hkk _ (Qd hi);have n0:¬n=0:=by omega
  have n1:¬n=1:=by omega
  have n0':¬0=n:=by omega
  have n1':¬1=n:=by omega
  generalize hs:body[i]=s at*;have step:∀{E2:Env} {m:Nat} {z:Envt×List (List Int)},2<=m->z=stmX p ps args ((body.take i).foldl (stmX p ps args) (e,rs)) s->look 3 E2=some (.slice 1 (z.2.map (cS 1 c32)))->(∀t,t=4\/t=5\/t=6\/t=8\/t=12\/t=13->look t E2=look t E)->look 14 E2=some (a7 (i+1:Nat))->
    go Φ (finP B5.results) L .normal ⟨E2,⟨[(0,.row 4 [z.1.c]),(1,.row 4 [z4])],m⟩⟩=R:=fun {E2 m z} hm hz g3 hE g14=>by
   have hfold:(body.take (i+1)).foldl (stmX p ps args) (e,rs)=z:=by rw [tk,OI,hz];rfl
   exact ih _ _ ⟨m,hm,by rw [hfold],by rw [hfold];exact g3,by rw [hE 4 (by simp),h4],by rw [hE 5 (by simp),h5],by rw [hE 6 (by simp),h6],by rw [hE 8 (by simp),h8],by rw [hE 12 (by simp),h12],by rw [hE 13 (by simp),h13],g14⟩
  generalize (body.take i).foldl (stmX p ps args) (e,rs)=y at*;obtain ⟨ye,yr⟩:=y;simp only at xi h3 step;have ei:=ko p ps ye args s.index xi.g ha;have ev:=ko p ps ye args s.value xi.g ha;have oi:=NX p ps s.index ye args;have ov:=NX p ps s.value ye args;simp only [aE,Envt.ce] at ei ev h12;rw [Xb.e] at h5;rw [Prg.e] at h4;have hEE:∀{E2:Env},look 4 E2=look 4 E->look 5 E2=look 5 E->look 6 E2=look 6 E->look 8 E2=look 8 E->look 12 E2=look 12 E->look 13 E2=look 13 E->∀t,t=4\/t=5\/t=6\/t=8\/t=12\/t=13->look t E2=look t E:=fun {E2} a1 a2 a3 a4 a5 a6 t ht=>by
   rcases ht with rfl | rfl | rfl | rfl | rfl | rfl<;>assumption
  rcases hks with hk | hk | hk | hk | hk
  ·have q:=ku p ye (xi.evs w) (xi.m0 w) s.dst.header s.dst.field (evl p ps s.value ye args) ov;rw [Envt.ce] at q;generalize hz:eSet p ye s.dst.header s.dst.field (evl p ps s.value ye args)=z at*;rw [Envt.ce] at q;simp only [Prg.e] at q;have st:=fun E2 m=>step (E2:=E2) (m:=m) (z:=(z,yr))
   simp only [Envt.ce,z4] at st;simp [bR,Xf.e,Envt.ce,z4,h3,h4,h5,h6,h8,h12,h13,h14,hi,hs,hL,ei,ev,hk,q,hw,n0,n1,n0',n1',aA];refine st _ _ ?_ (by simp [stmX,hk,hz]) ?_ (hEE ?_ ?_ ?_ ?_ ?_ ?_) ?_
   all_goals first | omega | simp [h3]
  ·have q:=Hy p ye (xi.evs w) (xi.m0 w) xi.hs s.header;rw [Envt.ce] at q;generalize hz:eAdd p ye s.header=z at*;rw [Envt.ce] at q;simp only [Prg.e] at q;have st:=fun E2 m=>step (E2:=E2) (m:=m) (z:=(z,yr))
   simp only [Envt.ce,z4] at st;simp [bR,Xf.e,Envt.ce,z4,h3,h4,h5,h6,h8,h12,h13,h14,hi,hs,hL,ei,ev,hk,q,hw,n0,n1,n0',n1',aA];refine st _ _ ?_ (by simp [stmX,hk,hz]) ?_ (hEE ?_ ?_ ?_ ?_ ?_ ?_) ?_
   all_goals first | omega | simp [h3]
  ·have q:=Ie p ye (xi.evs w) (xi.m0 w) xi.hs s.header;rw [Envt.ce] at q;generalize hz:eRem p ye s.header=z at*;rw [Envt.ce] at q;simp only [Prg.e] at q;have st:=fun E2 m=>step (E2:=E2) (m:=m) (z:=(z,yr))
   simp only [Envt.ce,z4] at st;simp [bR,Xf.e,Envt.ce,z4,h3,h4,h5,h6,h8,h12,h13,h14,hi,hs,hL,ei,ev,hk,q,hw,n0,n1,n0',n1',aA];refine st _ _ ?_ (by simp [stmX,hk,hz]) ?_ (hEE ?_ ?_ ?_ ?_ ?_ ?_) ?_
   all_goals first | omega | simp [h3]
  ·have q0:=Ic p yr s.Ye (evl p ps s.index ye args) oi;have hr:=xi.rv.get w.rw' s.Ye (evl p ps s.index ye args);generalize hy:rGet p yr s.Ye (evl p ps s.index ye args)=y at*;simp only [Prg.e] at q0;have q:=ku p ye (xi.evs w) (xi.m0 w) s.dst.header s.dst.field y hr;rw [Envt.ce] at q;generalize hz:eSet p ye s.dst.header s.dst.field y=z at*;rw [Envt.ce] at q;simp only [Prg.e] at q;have st:=fun E2 m=>step (E2:=E2) (m:=m) (z:=(z,yr))
   simp only [Envt.ce,z4] at st;simp [bR,Xf.e,Envt.ce,z4,h3,h4,h5,h6,h8,h12,h13,h14,hi,hs,hL,ei,ev,hk,q,q0,hw,n0,n1,n0',n1',aA];refine st _ _ ?_ (by simp [stmX,hk,hy,hz]) ?_ (hEE ?_ ?_ ?_ ?_ ?_ ?_) ?_
   all_goals first | omega | simp [h3]
  ·have q:=Cv p yr (xi.r1 w) (xi.r2 w) s.Ye (evl p ps s.index ye args) (evl p ps s.value ye args) oi ov;generalize hz:rSet p yr s.Ye (evl p ps s.index ye args) (evl p ps s.value ye args)=z at*;simp only [Prg.e] at q;have st:=fun E2 m=>step (E2:=E2) (m:=m) (z:=(ye,z))
   simp only [Envt.ce,z4] at st;simp [bR,Xf.e,Envt.ce,z4,h3,h4,h5,h6,h8,h12,h13,h14,hi,hs,hL,ei,ev,hk,q,hw,n0,n1,n0',n1',aA];refine st _ _ ?_ (by simp [stmX,hk,hz]) ?_ (hEE ?_ ?_ ?_ ?_ ?_ ?_) ?_
   all_goals first | omega | simp [h3]
 ·rintro E _ L hL ⟨n,hn,rfl,h3,h4,h5,h6,h8,h12,h13,h14⟩;rw [fF] at h3 ⊢;generalize body.foldl (stmX p ps args) (e,rs)=y at*;rw [<- hR];simp [bR,pW,Envt.ce,z4,h3,h6,h8,h13,h14,hL,aA]
 ·exact ⟨3,by omega,by simp [Envt.ce,z4],by simp,by simp [Prg.e],by simp [Xb.e],by simp,by simp,by simp [aE],by simp,by simp⟩
set_option maxRecDepth 6000
theorem ior1 {v x:Int} (hv:0<=v/\v<2147483648) (hx:0<=x/\x<=1):ior .u32 (ishl .u32 v 1) x=2*v+x:=by
 have e1:ishl .u32 v 1=2*v:=by
  unfold ishl;have:(2:Int)^(min (1:Int).toNat (IntKind.bits .u32))=2:=by decide
  rw [this,sQ];omega
 rw [e1,ir ⟨by omega,by omega⟩ ⟨by omega,by omega⟩];have:=Nat.shiftLeft_add_eq_or_of_lt (b:=x.toNat) (i:=1) (by omega) v.toNat;rw [Nat.shiftLeft_eq] at this;rw [show (2*v).toNat=v.toNat*2^1 by omega,<- this];omega
theorem Hu:∀b:Fin 256,∀k:Fin 8,IntKind.wrap .u32 (iand .u8 (ishr .u8 ((b.1:Nat):Int) (7 - ((k.1:Nat):Int))) 1)=((b.1 / 2^(7 - k.1) % 2:Nat):Int):=by decide+kernel
def rdr (d:List Int) (t pos:Nat):AO:= .row 3 [[.app 1 (d.map c8) t,a7 pos,.bool true]]
def bOk (d:List Int):Prop:=∀x∈d,0<=x/\x<256
theorem Ow {d:List Int} (hd:bOk d) {q:Nat} (hq:q / 8<d.length):IntKind.wrap .u32 (iand .u8 (ishr .u8 d[q / 8] (7 - ((q % 8:Nat):Int))) 1)=zT d q:=by
 have h:=hd _ (Qd hq);obtain ⟨b,hb⟩:=f9 h.1;rw [hb] at h;have:=Hu ⟨b,by omega⟩ ⟨q % 8,Nat.mod_lt _ (by decide)⟩;simp only at this;rw [hb,this];unfold zT;rw [vZ,Qa hq,nO,hb];rw [<- uS];omega
theorem U8 (d p:AV):a8 Φ 349 [.iptr 3 [[d,p,.bool true]] 0 0]=some (.val (.bool true)):=by
 rw [aB rfl rfl];simp [I8]
theorem P6 (d:List Int) (pos:Nat) (hd:d.length<=512) (hp:pos<=8*d.length):a8 Φ 381 [.iptr 3 [[.slice 1 (d.map c8),a7 pos,.bool true]] 0 0]=some (.val (a7 ((8*d.length - pos:Nat):Int))):=by
 rw [aB rfl rfl];have e1:IntKind.wrap .i64 (8*(d.length:Int))=8*(d.length:Int):=aQ;have e2:IntKind.wrap .i64 (8*(d.length:Int) - pos)=((8*d.length - pos:Nat):Int):=by rw [aQ];omega
 simp [IM,U8,e1,e2]
theorem rc {t:Nat} {x y:AO}:∀{l:List (Nat×AO)},setl t y (setl t x l)=setl t y l
 | []=>rfl
 | (u,z)::r=>by
  by_cases h:u=t
  ·subst h;simp
  ·simp [h,rc (l:=r)]
theorem Q0 {t:Nat} {x:AO}:∀{l:List (Nat×AO)},look t l=some x->setl t x l=l
 | [],_=>rfl
 | (u,z)::r,h=>by
  by_cases hu:u=t
  ·subst hu;simp at h;subst h;simp
  ·rw [j9 _ _ _ _ hu] at h;simp [hu,Q0 h]
theorem Fw {O:List (Nat×AO)} {N id t q:Nat} {d:List Int} (hn:look id O=some (rdr d t q)) (hd:bOk d) (hl:d.length<=512) {w:Nat} (h1:1<=w) (h2:w<=32) (hw:q+w<=8*d.length):
  aG Φ 383 [.ptr id 3 0 0,a7 w] ⟨O,N⟩=some (.val (.tup [.int .u32 (rdN d q w),a7 0]),⟨setl id (rdr d t (q+w)) O,N⟩):=by
 rw [eQ rfl rfl];have hr:=P6 d q hl (by omega);have a1:¬w<1:=by omega
 have a2:¬32<w:=by omega
 have a3:¬8*d.length - q<w:=by omega
 have a1':¬w=0:=by omega
 have hn':=hn;unfold rdr at hn';simp [IP,hn',U8,hr,a1,a1',a2,a3];generalize hR:some (Rt.val (.tup [.int .u32 (rdN d q w),a7 0]),(⟨setl id (rdr d t (q+w)) O,N⟩:AH))=R;refine (JK w (fun k e h=>look 0 e=some (.ptr id 3 0 0)/\look 6 e=some (.int .u32 (rdN d q k))/\look 24 e=some (a7 w)/\look 25 e=some (a7 k)/\h=⟨setl id (rdr d t (q+k)) O,N⟩)
  (fun k=>R) ?_ ?_ 0 _ _ (Qc _) ?_)
 ·rintro k e _ L hk hL ⟨h0,h6,h24,h25,rfl⟩ ih;have hs:look id (setl id (rdr d t (q+k)) O)=some (rdr d t (q+k)):=by rw [aA,a9 rfl,hn];rfl
  have hqk:(q+k) / 8<d.length:=by omega
  have hb:=Ow hd hqk;have hf:=SN d q k;have hp:(2:Int)^k<=2^31:=by
   rw [<- uS,<- uS];exact MF.2 (AM (by decide) (by omega))
  have hst:=ior1 (v:=rdN d q k) (x:=zT d (q+k)) ⟨hf.1,by have:=hf.2;omega⟩ (gv d (q+k));have hw1:=aF k (by omega);have hw2:IntKind.wrap .i64 (((q+k:Nat):Int)+1)=((q+(k+1):Nat):Int):=by rw [aQ];omega
  have d1:IntKind.wrap .i64 (((q+k:Nat):Int) / 8)=(((q+k) / 8:Nat):Int):=by
   have:((q+k:Nat):Int) / 8=(((q+k) / 8:Nat):Int):=rfl;rw [this,aQ]
  have d2:IntKind.wrap .i64 (7 - ((q+k:Nat):Int).tmod 8)=7 - (((q+k) % 8:Nat):Int):=by
   have:((q+k:Nat):Int).tmod 8=(((q+k) % 8:Nat):Int):=rfl;rw [this,aQ]
  have d3:(q+k) % 8<=7:=by omega
  have hrd:rdN d q (k+1)=2*rdN d q k+zT d (q+k):=rfl;have hk2:q+(k+1)=q+k+1:=by omega
  rw [hk2] at hw2;generalize hQ:(q+k:Nat)=Q at hs d1 d2 d3 hw2 hqk hb hst hrd hk2 ⊢;generalize hQ8:Q / 8=Q8 at d1 hqk hb;generalize hQ7:Q % 8=Q7 at d2 d3 hb;have d4:(Q7:Int)<=7:=by omega
  have hs':=hs;unfold rdr at hs';simp [mD,rdr,c8,h0,h6,h24,h25,hk,hL,hs',hw1,hw2,d1,d2,d3,d4,hqk,hb,hst,rc];refine ih _ _ ⟨by simp [h0],by simp [hrd],by simp [h24],by simp,?_⟩;simp [rdr,hk2]
 ·rintro e _ L hL ⟨h0,h6,h24,h25,rfl⟩;rw [<- hR];simp [mD,rW,h0,h6,h24,h25,hL]
 ·simp [rdN,Q0 hn]
def rstV (d:List Int) (q N:Nat):AV:=if q % 8=0 then .app 1 ((d.drop (q / 8)).map c8) N else .Xt 1 []
def rstE (q:Nat):Int:=if q % 8=0 then 0 else 10
def rstL (d:List Int) (q N:Nat):List (Nat×AO):=if q % 8=0 then [(N,.tok 1 (d.length - q / 8))] else []
theorem xd {O:List (Nat×AO)} {N id t q:Nat} {d:List Int} (hT:Tail O N) (hN:NR O) (hn:look id O=some (rdr d t q)) (hl:d.length<=512) (hq:q<=8*d.length):
  aG Φ 269 [.ptr id 3 0 0] ⟨O,N⟩=some (.val (.tup [rstV d q N,a7 (rstE q)]),⟨O++rstL d q N,if q % 8=0 then N+1 else N⟩):=by
 rw [eQ rfl rfl];have hn':=hn;unfold rdr at hn';have hT':=hT N (Qb _);have d1:IntKind.wrap .i64 ((q:Int) / 8)=((q / 8:Nat):Int):=by
  have:(q:Int) / 8=((q / 8:Nat):Int):=rfl;rw [this,aQ]
 have d2:(q:Int).tmod 8=((q % 8:Nat):Int):=rfl;by_cases z:q % 8=0
 ·have hp:q / 8<=d.length:=by omega
  have z2:((q % 8:Nat):Int)=0:=by omega
  have hb:d.length - q / 8<=70368744177664:=by omega
  rw [z2] at d2;generalize hR:some (Rt.val (.tup [rstV d q N,a7 (rstE q)]),(⟨O++rstL d q N,if q % 8=0 then N+1 else N⟩:AH))=R;generalize hu:q / 8=u at d1 hp hb;have tk:((d.drop u).map c8).take (d.length - u)=(d.drop u).map c8:=Qo (by simp);simp [BM,hn',U8,d1,d2,hp,hT',hb,<- List.map_drop,tk];rw [<- hR];simp [rstV,rstE,rstL,z,hu]
 ·have z2:¬((q:Int).tmod 8=0):=by rw [d2];omega
  have z3:¬8∣q:=fun h=>z (Nat.mod_eq_zero_of_dvd h)
  simp [BM,hn',U8,z2,z,z3,rstV,rstE,rstL]
theorem Ta {O:List (Nat×AO)} {N:Nat} {d:List Int} {q:Nat} (h:Tail O N):Tail (O++rstL d q N) (if q % 8=0 then N+1 else N):=by
 unfold rstL;split
 ·exact Tail_append_iff.2 ⟨h.mono (by omega),Tail_cons_iff.2 ⟨by omega,Tail.nil _⟩⟩
 ·simpa using h
theorem Sz {O:List (Nat×AO)} {N:Nat} {d:List Int} {q:Nat} (h:NR O):NR (O++rstL d q N):=by
 unfold rstL;split
 ·exact h.app (.one (by simp))
 ·simpa using h
theorem Le {O:List (Nat×AO)} {N:Nat} {d:List Int} (hT:Tail O N) (hl:d.length<=512):
  aG Φ 266 [.slice 1 (d.map c8)] ⟨O,N⟩=some (.val (.ptr (N+1) 3 0 0),⟨O++[(N,.tok 1 d.length),(N+1,rdr d N 0)],N+2⟩):=by
 rw [eQ rfl rfl];have hT':=hT N (Qb _);have hT2:=hT (N+1) (by omega);have hb:d.length<=70368744177664:=by omega
 have tk:(d.map c8).take d.length=d.map c8:=Qo (by simp);simp [GU,hT',hT2,hb,rdr,tk]
def wN (l:List Fld):Nat:=(l.map fun f=>f.Yc.toNat).sum
theorem OB:∀{l:List Fld},(∀f∈l,1<=f.Yc/\f.Yc<=32)->wSum l=(wN l:Nat)
 | [],_=>rfl
 | f::r,h=>by
  have ih:=OB (l:=r) fun g hg=>h g (by simp [hg])
  have:=(h f (by simp)).1;simp only [wSum,wN,uP,MD] at ih ⊢;omega
theorem RB (a b:List Fld):wN (a++b)=wN a+wN b:=by simp [wN]
theorem jw (d:List Int):∀(a b:List Fld) (i:Nat),rdF d i (a++b)=rdF d i a++rdF d (i+wN a) b
 | [],b,i=>by simp [rdF,wN]
 | f::a,b,i=>by
  simp only [oY,rdF,jw d a b,wN,uP,MD,cZ]
theorem L5 {l:List Fld} (k:Nat):wN (l.take k)<=wN l:=by
 have:=RB (l.take k) (l.drop k);rw [AK] at this;omega
theorem km {l:List Fld} {k:Nat} (hk:k<l.length):wN (l.take (k+1))=wN (l.take k)+l[k].Yc.toNat:=by
 rw [Qh hk,RB];simp [wN]
theorem Hv {h:Xi} (hn:h.name.length<2^40) (hf:∀f∈h.Xz,f.name.length<2^40) (e:hdrE h=0):a8 Φ 382 [.agg (Xi.c h)]=some (.val (a7 (wN h.Xz:Nat))):=by
 have v:=vhdr e;have hc:=NJ h hn hf;have h1:=fu h (by have:=v.n;omega);have h2:=R3 (h.Xz.map (·.Yc)) (by simp;have:=v.n;omega) (fun x hx=>by obtain ⟨f,hf,rfl⟩:=iU.1 hx;exact v.w f hf);rw [E1] at h2;have h3:(h.Xz.map (·.Yc)).sum=wSum h.Xz:=rfl;rw [h3,OB v.w] at h2;have h4:((fun x=>[AV.int IntKind.i64 x]) ∘ fun x:Fld=>x.Yc)=fun f:Fld=>[AV.int IntKind.i64 f.Yc]:=rfl
 rw [h4] at h2;rw [e] at hc;rw [Xi.c] at hc h1;rw [Xi.c,aB rfl rfl];simp [IO,hc,h1,h2]
def HRP (id t q:Nat) (d:List Int) (l:List Fld) (N:Nat) (O:List (Nat×AO)) (r:Option (Rt×AH)):Prop:=
 ∃O' N' tk,r=some (.val (.tup [.app 1 ((rdF d q l).map c32) tk,a7 0]),⟨O',N'⟩)/\look id O'=some (rdr d t (q+wN l))/\look tk O'=some (.tok 1 l.length)/\N<=tk/\Kp (fun j=>j=id) N O O'/\Tail O' N'/\NR O'/\N<=N'
def HRS (N:Nat) (O:List (Nat×AO)) (r:Option (Rt×AH)):Prop:=
 ∃L N',r=some (.val (.tup [.Xt 1 [],a7 3]),⟨O++L,N'⟩)/\Kp (fun _=>False) N O (O++L)/\Tail (O++L) N'/\NR (O++L)/\N<=N'
structure HRI (id t q tk:Nat) (d:List Int) (l:List Fld) (N:Nat) (O:List (Nat×AO)) (k:Nat) (e:Env) (O':List (Nat×AO)) (N':Nat):Prop where
 e1:look 1 e=some (.ptr id 3 0 0)
 e9:look 9 e=some (.app 1 ((rdF d q (l.take k)).map c32) tk)
 e32:look 32 e=some (.slice 2 (l.map Fld.c))
 e33:look 33 e=some (a7 l.length)
 e34:look 34 e=some (a7 k)
 li:look id O'=some (rdr d t (q+wN (l.take k)))
 lt:look tk O'=some (.tok 1 k)
 hk:Kp (fun j=>j=id) N O O'
 hT:Tail O' N'
 hN:NR O'
 hn:N<=N'
 tn:N<=tk
theorem Z3 {id t q tk N:Nat} {d:List Int} {l:List Fld} {O:List (Nat×AO)} (hd:bOk d) (hl:d.length<=512) (hw:∀f∈l,1<=f.Yc/\f.Yc<=32) (hln:l.length<2^40) (hs:q+wN l<=8*d.length) {e:Env} {O':List (Nat×AO)} {N':Nat} (h:HRI id t q tk d l N O 0 e O' N'):
  HRP id t q d l N O (go Φ (finC t6.results) [.c (.loop i7),.b 0,.c i6] .normal ⟨e,⟨O',N'⟩⟩):=by
 refine cC l.length (fun k e h=>∃O' N',h=⟨O',N'⟩/\HRI id t q tk d l N O k e O' N') _ ?_ ?_ 0 _ _ (Qc _) ⟨_,_,rfl,h⟩
 ·rintro k e _ K hk hK ⟨O',N',rfl,h⟩ ih;obtain ⟨e1,e9,e32,e33,e34,li,lt,kp,hT,hN,hn,tn⟩:=h;have hw1:=aF k (by omega);have hf:=hw l[k] (Qd hk);have st:=km hk;have le:=L5 (l:=l) (k+1);have t0:=hT N' (Qb _);have hrb:=Fw (O:=O') (N:=N'+1) (id:=id) (w:=l[k].Yc.toNat) li hd hl (by omega) (by omega) (by omega);have hwd:((l[k].Yc.toNat:Nat):Int)=l[k].Yc:=by omega
  rw [hwd] at hrb;have tid:tk≠id:=aW lt li (by simp [rdr]);have lt2:look tk (setl id (rdr d t (q+wN (l.take k)+l[k].Yc.toNat)) O')=some (.tok 1 k):=by
   rw [aA,QA tid];exact lt
  have rf:rdF d q (l.take (k+1))=rdF d q (l.take k)++[rdN d (q+wN (l.take k)) l[k].Yc.toNat]:=by
   rw [Qh hk,jw];rfl
  have hln2:(rdF d q (l.take k)).length=k:=by rw [VI];simp;omega
  have hbd:(k+1)*4<=70368744177664:=by omega
  have fin:∀{E2:Env},(∀j,j=1\/j=32\/j=33->look j E2=look j e)->look 9 E2=some (.app 1 ((rdF d q (l.take k)).map c32++[c32 (rdN d (q+wN (l.take k)) l[k].Yc.toNat)]) tk)->look 34 E2=some (a7 (k+1:Nat))->
    HRP id t q d l N O (go Φ (finC t6.results) K .normal ⟨E2,⟨setl tk (.tok 1 (k+1)) (setl id (rdr d t (q+wN (l.take k)+l[k].Yc.toNat)) O'),N'+1⟩⟩):=fun {E2} hE h9 h34=>by
   refine ih _ _ ⟨_,_,rfl,by rw [hE 1 (by simp),e1],?_,by rw [hE 32 (by simp),e32],by rw [hE 33 (by simp),e33],h34,?_,?_,?_,?_,?_,by omega,tn⟩
   ·rw [h9,rf,yZ];rfl
   ·rw [aA,QA tid.symm,aA,a9 rfl,li,st,cZ];rfl
   ·rw [aA,a9 rfl,lt2];rfl
   ·exact (kp.setl (.inr rfl)).setl (.inl tn)
   ·exact bB (bB (hT.mono (by omega)))
   ·exact (hN.setl (by simp [rdr])).setl (by simp)
  have hg:(l.map Fld.c)[k]? =some (Fld.c l[k]):=by simp [hk]
  generalize hx:l[k]=x at*;simp only [Fld.c] at*;simp [i7,e1,e9,e32,e33,e34,hk,hK,t0,hw1,hx,Fld.c,hrb,lt2,hln2,hbd];exact fin (by rintro j (rfl | rfl | rfl)<;>simp) (by simp [c32]) (by simp)
 ·rintro e _ K hK ⟨O',N',rfl,h⟩;obtain ⟨e1,e9,e32,e33,e34,li,lt,kp,hT,hN,hn,tn⟩:=h;rw [fF] at e9 li;simp [t6,i7,i6,e1,e9,e32,e33,e34] at hK ⊢;simp [i6,hK,e9];exact ⟨O',N',tk,rfl,li,lt,tn,kp,hT,hN,hn⟩
theorem Nd {N j:Nat} {d:List Int} {q:Nat} (h:j<N):look j (rstL d q N)=none:=by
 unfold rstL;split
 ·rw [j9 _ _ _ _ (by omega)];rfl
 ·rfl
theorem Ei {O:List (Nat×AO)} {N id t q:Nat} {d:List Int} (hT:Tail O N) (hN:NR O) (hi:look id O=some (rdr d t q)) (hd:bOk d) (hl:d.length<=512) (hq:q<=8*d.length) {h:Xi} (hn:h.name.length<2^40) (hf:∀f∈h.Xz,f.name.length<2^40) (e:hdrE h=0):
  if 8*d.length<q+wN h.Xz then HRS N O (aG Φ 348 [.agg (Xi.c h),.ptr id 3 0 0] ⟨O,N⟩) else HRP id t q d h.Xz N O (aG Φ 348 [.agg (Xi.c h),.ptr id 3 0 0] ⟨O,N⟩):=by
 rw [eQ rfl rfl];have v:=vhdr e;have hc:=NJ h hn hf;have hb:=Hv hn hf e;rw [e] at hc;have t0:=hT N (Qb _);have hi1:look id (O++[(N,.row 2 [Xi.c h])])=some (rdr d t q):=bL hi;have hT1:Tail (O++[(N,.row 2 [Xi.c h])]) (N+1):=Tail_append_iff.2 ⟨hT.mono (by omega),Tail_cons_iff.2 ⟨by omega,Tail.nil _⟩⟩;have hN1:NR (O++[(N,.row 2 [Xi.c h])]):=hN.app (.one (by simp));have hr:=xd hT1 hN1 hi1 hl hq;have hT2:=Ta (d:=d) (q:=q) hT1;have hN2:=Sz (N:=N+1) (d:=d) (q:=q) hN1;have hi2:look id ((O++[(N,.row 2 [Xi.c h])])++rstL d q (N+1))=some (rdr d t q):=bL hi1;have l0:look N ((O++[(N,.row 2 [Xi.c h])])++rstL d q (N+1))=some (.row 2 [Xi.c h]):=bL (by rw [aC,t0];simp);have hE:∀(x:AV),rstE q≠1:=fun _=>by unfold rstE;split<;>decide
 have hrem:=P6 d q hl hq;generalize hM:(if q % 8=0 then N+1+1 else N+1)=M at hr hT2;have hMN:N+1<=M:=by rw [<- hM];split<;>omega
 generalize hO:(O++[(N,.row 2 [Xi.c h])])++rstL d q (N+1)=O2 at hr hT2 hN2 hi2 l0;have hkp:∀j,j<N->look j O2=look j O:=fun j hj=>by
  rw [<- hO,aC,aC,Nd (by omega),j9 _ _ _ _ (by omega)];cases look j O<;>rfl
 have hO2:∃L,O2=O++L:=⟨_,by rw [<- hO,AN]⟩;generalize rstE q=E0 at hr hE;generalize rstV d q (N+1)=V0 at hr;have hE1:¬E0=1:=hE .nilptr;have hi3:=hi2;unfold rdr at hi3;have tM:=hT2 M (Qb _);rw [Xi.c] at hc hb hr l0;have cmp:((8*d.length - q:Nat):Int)<(wN h.Xz:Int)↔8*d.length<q+wN h.Xz:=by omega
 by_cases z:8*d.length<q+wN h.Xz
 ·rw [a9 z];have z1:8*d.length - q<wN h.Xz:=by omega
  simp [t6,Xi.c,t0,hc,hb,hr,hE1,hi3,hrem,l0,z1];obtain ⟨L,rfl⟩:=hO2;exact ⟨L,M,rfl,fun j hj _=>hkp j hj,hT2,hN2,by omega⟩
 ·rw [QA z];have z1:¬8*d.length - q<wN h.Xz:=by omega
  simp [t6,Xi.c,t0,hc,hb,hr,hE1,hi3,hrem,l0,aC,z1,tM];refine Z3 (tk:=M) (l:=h.Xz) (q:=q) hd hl v.w (by have:=v.n;omega) (Nat.le_of_not_lt z) ?_;refine ⟨by simp,by simp [rdF],by simp,by simp,by simp,by simpa [wN] using bL hi2,by rw [aC,tM];simp,?_,Tail_append_iff.2 ⟨hT2.mono (by omega),Tail_cons_iff.2 ⟨by omega,Tail.nil _⟩⟩,hN2.app (.one (by simp)),by omega,by omega⟩;intro j hj hx;rw [aC,hkp j hj,j9 _ _ _ _ (by omega)];cases look j O<;>rfl
def RE (O:List (Nat×AO)) (B iv jf:Nat) (a:AV) (l:List Int):Prop:=
 (l=[]/\a= .Xt 1 [])\/(∃id,a= .row id 1 0 l.length/\look id O=some (.row 1 (l.map c32))/\B<=id/\id≠iv/\id≠jf)\/∃tk,a= .app 1 (l.map c32) tk
structure PE (O:List (Nat×AO)) (B iv jf im:Nat) (A:List AV) (e:Envt):Prop where
 lv:look iv O=some (.row 1 (e.valid.map cB))
 lf:look jf O=some (.row 1 (A.map fun x=>[x]))
 lm:look im O=some (.row 1 (e.metaF.map c32))
 d:iv≠jf/\im≠iv/\im≠jf
 b:B<=iv/\B<=jf/\B<=im
 len:A.length=e.Xz.length
 r:∀(k:Nat) (a:AV) (l:List Int),A[k]? =some a->e.Xz[k]? =some l->RE O B iv jf a l
theorem RE.fr {O O':List (Nat×AO)} {B iv jf:Nat} {a:AV} {l:List Int} (h:RE O B iv jf a l) (hf:∀j es,B<=j->j≠iv->j≠jf->look j O=some (.row 1 es)->look j O'=some (.row 1 es)):RE O' B iv jf a l:=by
 rcases h with h | ⟨id,h1,h2,h3,h4,h5⟩ | h
 ·exact .inl h
 ·exact .inr (.inl ⟨id,h1,hf id _ h3 h4 h5 h2,h3,h4,h5⟩)
 ·exact .inr (.inr h)
theorem PE.fr {O O':List (Nat×AO)} {B iv jf im:Nat} {A:List AV} {e:Envt} (h:PE O B iv jf im A e) (hf:∀j es,B<=j->look j O=some (.row 1 es)->look j O'=some (.row 1 es)):PE O' B iv jf im A e:=
 ⟨hf _ _ h.b.1 h.lv,hf _ _ h.b.2.1 h.lf,hf _ _ h.b.2.2 h.lm,h.d,h.b,h.len,fun k a l h1 h2=>(h.r k a l h1 h2).fr fun j es h3 _ _ h4=>hf j es h3 h4⟩
theorem PE.app {O:List (Nat×AO)} {B iv jf im:Nat} {A:List AV} {e:Envt} (h:PE O B iv jf im A e) (L:List (Nat×AO)):PE (O++L) B iv jf im A e:=h.fr fun _ _ _ h=>bL h
theorem PE.setV {O:List (Nat×AO)} {B iv jf im:Nat} {A:List AV} {e:Envt} (h:PE O B iv jf im A e) (v:List Bool):PE (setl iv (.row 1 (v.map cB)) O) B iv jf im A { e with valid:=v }:=by
 refine ⟨by rw [aA,a9 rfl,h.lv];rfl,by rw [aA,QA h.d.1.symm,h.lf],by rw [aA,QA h.d.2.1,h.lm],h.d,h.b,h.len,fun k a l h1 h2=>(h.r k a l h1 h2).fr fun j es _ h3 _ h4=>?_⟩;rw [aA,QA h3,h4]
theorem PE.setF {O:List (Nat×AO)} {B iv jf im:Nat} {A:List AV} {e:Envt} (h:PE O B iv jf im A e) {k:Nat} (hk:k<A.length) {a:AV} {l:List Int} (ha:RE O B iv jf a l):PE (setl jf (.row 1 ((A.set k a).map fun x=>[x])) O) B iv jf im (A.set k a) { e with Xz:=e.Xz.set k l }:=by
 have fr:∀j es,B<=j->j≠iv->j≠jf->look j O=some (.row 1 es)->look j (setl jf (.row 1 ((A.set k a).map fun x=>[x])) O)=some (.row 1 es):=fun j es _ _ h3 h4=>by rw [aA,QA h3,h4]
 refine ⟨by rw [aA,QA h.d.1,h.lv],by rw [aA,a9 rfl,h.lf];rfl,by rw [aA,QA h.d.2.2,h.lm],h.d,h.b,by simp [h.len],fun i x y h1 h2=>?_⟩;simp only [List.getElem?_set] at h1 h2;by_cases q:k=i
 ·subst q;rw [a9 rfl,a9 hk] at h1;rw [a9 rfl,a9 (by rw [<- h.len];exact hk)] at h2;cases h1;cases h2;exact ha.fr fr
 ·rw [QA q] at h1 h2;exact (h.r i x y h1 h2).fr fr
theorem RE.snp {O:List (Nat×AO)} {B iv jf N:Nat} {a:AV} {l:List Int} (h:RE O B iv jf a l) (n:Nat):snap (n+2) ⟨O,N⟩ a=some (.slice 1 (l.map c32)):=by
 have hm:=tA (g:=c32) (n:=n+1) (H:=⟨O,N⟩) (fun x=>by simp [c32]) l;rcases h with ⟨rfl,rfl⟩ | ⟨id,rfl,h2,_⟩ | ⟨tk,rfl⟩
 ·simp
 ·simp [h2,hm]
 ·simp
theorem PE.snpF {O:List (Nat×AO)} {B iv jf im N:Nat} {A:List AV} {e:Envt} (h:PE O B iv jf im A e) (n:Nat):mapO (mapO (snap (n+2) ⟨O,N⟩)) (A.map fun x=>[x])=some (e.Xz.map (cS 1 c32)):=by
 have aux:∀(A:List AV) (L:List (List Int)),A.length=L.length->(∀(k:Nat) (a:AV) (l:List Int),A[k]? =some a->L[k]? =some l->RE O B iv jf a l)->mapO (mapO (snap (n+2) ⟨O,N⟩)) (A.map fun x=>[x])=some (L.map (cS 1 c32)):=by
  intro A
  induction A with
  | nil=>intro L hl _;cases L with | nil=>rfl | cons _ _=>simp at hl
  | cons a A ih=>
   intro L hl h;cases L with
   | nil=>simp at hl
   | cons l L=>
    have h1:=(h 0 a l rfl rfl).snp (N:=N) n;have h2:=ih L (by simpa using hl) fun k a l h3 h4=>h (k+1) a l h3 h4
    simp only [uP,mapO,h1,h2,cS]
 exact aux A e.Xz h.len h.r
theorem PE.snp {O:List (Nat×AO)} {B iv jf im N:Nat} {A:List AV} {e:Envt} (h:PE O B iv jf im A e) (m:Nat):mapO (snap (m+3) ⟨O,N⟩) [.row iv 1 0 e.valid.length,.row jf 1 0 e.Xz.length,.row im 1 0 e.metaF.length]=some [.slice 1 (e.valid.map cB),.slice 1 (e.Xz.map (cS 1 c32)),.slice 1 (e.metaF.map c32)]:=by
 have h1:=tA (g:=cB) (n:=m+2) (H:=⟨O,N⟩) (fun x=>by simp [cB]) e.valid;have h2:=tA (g:=c32) (n:=m+2) (H:=⟨O,N⟩) (fun x=>by simp [c32]) e.metaF;have h3:=h.snpF (N:=N) m;have h4:(A.map fun x=>[x]).take e.Xz.length=A.map fun x=>[x]:=Qo (by simp [h.len])
 have h5:(e.valid.map cB).take e.valid.length=e.valid.map cB:=Qo (by simp);have h6:(e.metaF.map c32).take e.metaF.length=e.metaF.map c32:=Qo (by simp);have h7:e.Xz.length<=A.length:=by rw [h.len];exact Qb _
 simp [mapO,h.lv,h.lf,h.lm,h1,h2,h3,h4,h5,h6,h7]
def NewP (p:Prg) (N:Nat) (O:List (Nat×AO)) (r:Option (Rt×AH)):Prop:=
 ∃O' N' iv jf im A,r=some (.val (.agg [.row iv 1 0 p.Xo.length,.row jf 1 0 p.Xo.length,.row im 1 0 p.Xn.length,.Xt 1 []]),⟨O',N'⟩)/\PE O' N iv jf im A (eNew p)/\Kp (fun _=>False) N O O'/\Tail O' N'/\NR O'/\N<=N'
def zQ (p:Prg) (i:Nat):Envt:=⟨p.Xo.map fun _=>false,(p.Xo.take i).map (fun h=>h.Xz.map fun _=>0)++(p.Xo.drop i).map (fun _=>[]),p.Xn.map fun _=>0,[]⟩
theorem ZK (p:Prg):zQ p p.Xo.length=eNew p:=by simp [zQ,eNew]
theorem Y2 (p:Prg) {i:Nat} (hi:i<p.Xo.length):{ zQ p i with Xz:=(zQ p i).Xz.set i (p.Xo[i].Xz.map fun _=>0) }=zQ p (i+1):=by
 have h1:(p.Xo.take i).length=i:=by simp;omega
 simp only [zQ,Envt.mk.injEq,true_and,and_true];rw [Qi hi,Qh hi,uP,List.set_append_right _ _ (by rw [tH,h1];exact Qb _),tH,h1,Nat.sub_self,List.set_cons_zero,yZ,AN];rfl
structure NI (p:Prg) (N:Nat) (O:List (Nat×AO)) (a b c iv jf im i:Nat) (E:Env) (O':List (Nat×AO)) (N':Nat) (A:List AV):Prop where
 e1:look 1 E=some (.ptr a 9 0 0)
 e2:look 2 E=some (.ptr b 4 0 0)
 e3:look 3 E=some (.ptr c 4 0 0)
 e20:look 20 E=some (a7 p.Xo.length)
 e21:look 21 E=some (a7 i)
 la:look a O'=some (.row 9 [p.c])
 lb:look b O'=some (.row 4 [z4])
 lc:look c O'=some (.row 4 [[.row iv 1 0 p.Xo.length,.row jf 1 0 p.Xo.length,.row im 1 0 p.Xn.length,.Xt 1 []]])
 pe:PE O' N iv jf im A (zQ p i)
 kp:Kp (fun _=>False) N O O'
 hT:Tail O' N'
 hN:NR O'
 hn:N<=N'
 bn:N<=b
theorem ZL {p:Prg} (w:PWd p) {N:Nat} {O:List (Nat×AO)} {a b c iv jf im:Nat} {E:Env} {O':List (Nat×AO)} {N':Nat} {A:List AV} (h:NI p N O a b c iv jf im 0 E O' N' A):
  NewP p N O (go Φ (finC wV.results) [.c (.loop gR),.b 0,.c gQ] .normal ⟨E,⟨O',N'⟩⟩):=by
 refine cC p.Xo.length (fun i E h=>∃O' N' A,h=⟨O',N'⟩/\NI p N O a b c iv jf im i E O' N' A) _ ?_ ?_ 0 _ _ (Qc _) ⟨_,_,_,rfl,h⟩
 ·rintro i E _ K hi hK ⟨O',N',A,rfl,h⟩ ih;obtain ⟨e1,e2,e3,e20,e21,la,lb,lc,pe,kp,hT,hN,hn,bn⟩:=h;have hw:IntKind.wrap .i64 ((i:Int)+1)=((i+1:Nat):Int):=aQ (by omega) (by have:=w.hl;omega);have t:∀k,look (N'+k) O'=none:=fun k=>hT _ (by omega)
  have t0:=hT N' (Qb _);generalize hx:p.Xo[i]=x;have hf:x.Xz.length<2^40:=by rw [<- hx];exact w.hf _ (Qd hi)
  have b1:(x.Xz.length:Int)*4<=140737488355328/\(x.Xz.length:Int)<4611686018427387904:=by omega
  have lf:=pe.lf;have fj:=fun k=>eR (n:=N'+k) hT lf (by omega)
  have fa:=fun k=>eR (n:=N'+k) hT la (by omega)
  have fc:=fun k=>eR (n:=N'+k) hT lc (by omega)
  have jq:∀k,(jf == N'+k)=false/\(N'+k == jf)=false:=fun k=>by have:=fj k;simp;omega
  have aq:∀k,(a == N'+k)=false/\(N'+k == a)=false:=fun k=>by have:=fa k;simp;omega
  have cq:∀k,(c == N'+k)=false/\(N'+k == c)=false:=fun k=>by have:=fc k;simp;omega
  have hA:A.length=p.Xo.length:=by rw [pe.len];simp [zQ];omega
  have hrep:List.replicate x.Xz.length [AV.int .u32 0]=(x.Xz.map fun _=>(0:Int)).map c32:=by
   rw [E1];exact (MB ..).symm
  rw [Prg.c] at la;simp [gR,Xi.c,e1,e2,e3,e20,e21,hi,hx,hw,t0,t,cZ,la,lc,lf,aC,aA,nG,hN.eq,eY,b1,fj,fa,fc,jq,aq,cq,hA,uU lf,hN.sw];have hk:i<A.length:=by rw [hA];exact hi
  have lo:∀j y,look j O'=some y->j≠jf->look j (setl jf (.row 1 ((A.set i (.row (N'+34) 1 0 x.Xz.length)).map fun x=>[x])) O'++[(N'+34,.row 1 ((x.Xz.map fun _=>(0:Int)).map c32))])=some y:=fun j y h1 h2=>by
   rw [aC,aA,QA h2,h1];rfl
  have lv:=pe.lv;have fv:=eR (n:=N'+34) hT lv (by omega);have pe2:=(pe.app [(N'+34,.row 1 ((x.Xz.map fun _=>(0:Int)).map c32))]).setF hk (a:= .row (N'+34) 1 0 x.Xz.length) (l:=x.Xz.map fun _=>0) (.inr (.inl ⟨N'+34,by simp,by rw [aC,t];simp,by omega,fv.2,(fj 34).2⟩));have ne3:∀k j,j<N->N'+k≠j:=fun k j h=>by omega
  have lt3:N'+34<N'+35:=by omega
  subst hx;rw [Y2 p hi,uU lf] at pe2;refine ih _ _ ⟨_,_,A.set i (.row (N'+34) 1 0 p.Xo[i].Xz.length),rfl,by simp [e1],by simp [e2],by simp [e3],by simp [e20],by simp,?_,?_,?_,?_,?_,?_,?_,by omega,bn⟩
  rotate_left 3
  ·rw [hrep,<- uX];exact pe2
  ·intro j hj _;rw [aC,aA,QA (by have:=pe.b;omega),kp j hj (by simp),j9 _ _ _ _ (ne3 _ _ hj)];cases look j O<;>rfl
  ·exact Tail_append_iff.2 ⟨bB (hT.mono (by omega)),Tail_cons_iff.2 ⟨lt3,Tail.nil _⟩⟩
  ·exact (hN.setl (by simp)).app (.one (by simp))
  all_goals
   rw [hrep,<- uX]
  ·exact lo _ _ la (aW la lf (by simp))
  ·exact lo _ _ lb (aW lb lf (by simp))
  ·exact lo _ _ lc (aW lc lf (by simp))
 ·rintro E _ K hK ⟨O',N',A,rfl,h⟩;obtain ⟨e1,e2,e3,e20,e21,la,lb,lc,pe,kp,hT,hN,hn,bn⟩:=h;rw [ZK] at pe;have cb:¬c=b/\¬b=c:=by
   have:=aW lc lb (by simp [z4]);exact ⟨this,fun e=>this e.symm⟩
  rw [z4] at lb;simp [wV,gR,gQ,e1,e2,e3,e20,e21,lb,lc,aA] at hK ⊢;simp [gQ,hK,e2,e3,lb,lc,aA];refine ⟨_,_,iv,jf,im,A,rfl,pe.fr fun j es _ hj=>?_,kp.setl (.inl bn),bB hT,hN.setl (by simp),hn⟩;rw [aA,QA (aW hj lb (by simp)),hj]
theorem Jy {O:List (Nat×AO)} {N:Nat} (hT:Tail O N) (hN:NR O) {p:Prg} (w:PWd p):NewP p N O (aG Φ 264 [.agg p.c] ⟨O,N⟩):=by
 rw [eQ rfl rfl];have t:∀k,look (N+k) O=none:=fun k=>hT _ (by omega)
 have t0:=hT N (Qb _);have b1:p.Xo.length<=140737488355328:=by have:=w.hl;omega
 have b2:(p.Xo.length:Int)*24<=140737488355328/\(p.Xo.length:Int)<4611686018427387904:=by have:=w.hl;omega
 have b3:(p.Xn.length:Int)*4<=140737488355328/\(p.Xn.length:Int)<4611686018427387904:=by have:=w.ml;omega
 have bq:∀k,0<k->(N == N+k)=false/\(N+k == N)=false:=fun k hk=>by simp;omega
 simp [wV,Prg.c,t0,t,cZ,aC,aA,nG,hN.eq,eY,b1,b2,b3,bq,uK];have lt1:∀{u j:Nat} {y:AO} {r:List (Nat×AO)},j<u->look j r=none->look j ((u,y)::r)=none:=fun {u j y r} h1 h2=>by rw [j9 _ _ _ _ (by omega),h2]
 refine ZL w (a:=N) (b:=N+1) (c:=N+5) (iv:=N+10) (jf:=N+14) (im:=N+18) (A:=p.Xo.map fun _=> .Xt 1 []) ⟨by simp,by simp,by simp,by simp,by simp,?_,?_,?_,?_,?_,?_,?_,by omega,by omega⟩
 ·simp [aC,t0,Prg.c]
 ·simp [aC,t,z4]
 ·simp [aC,t]
 ·have r1:∀{G:Type} (l:List G) (x:List AV),List.replicate l.length x=l.map fun _=>x:=fun l x=>(MB ..).symm
  refine ⟨?_,?_,?_,by omega,by omega,by simp [zQ],?_⟩
  ·simp [aC,t,zQ,r1,cB]
  ·simp [aC,t,zQ,r1]
  ·simp [aC,t,zQ,r1,c32]
  ·intro k a l h1 h2;refine .inl ?_;simp only [zQ,OK,zA,yY,List.drop_zero,List.getElem?_map] at h1 h2;obtain ⟨_,_,rfl⟩:=Qs.1 h1;obtain ⟨_,_,rfl⟩:=Qs.1 h2;exact ⟨rfl,rfl⟩
 ·intro j hj _;rw [aC];have ne1:∀k,N+k≠j:=fun k=>by omega
  rw [show ∀(x:AO) r,look j ((N,x)::r)=look j r from fun x r=>j9 _ _ _ _ (ne1 0)]
  repeat rw [j9 _ _ _ _ (ne1 _)]
  cases look j O<;>rfl
 ·have lt6:∀k,k<19->N+k<N+19:=fun k h=>by omega
  simp only [Tail_append_iff,Tail_cons_iff];exact ⟨hT.mono (by omega),lt6 0 (by decide),lt6 _ (by decide),lt6 _ (by decide),lt6 _ (by decide),lt6 _ (by decide),lt6 _ (by decide),Tail.nil _⟩
 ·exact hN.app (bO (by simp) (bO (by simp) (bO (by simp) (bO (by simp) (bO (by simp) (.one (by simp)))))))
def Fx (id iv jf:Nat) (j:Nat):Prop:=j=id\/j=iv\/j=jf
def ExtP (id t:Nat) (d:List Int) (B iv jf im N:Nat) (O:List (Nat×AO)) (y:Option (Envt×Nat)) (r:Option (Rt×AH)):Prop:=
 ∃O' N',Kp (Fx id iv jf) N O O'/\Tail O' N'/\NR O'/\N<=N'/\match y with
 | none=>r=some (.val (.int .i64 3),⟨O',N'⟩)
 | some x=>r=some (.val (.int .i64 0),⟨O',N'⟩)/\∃A,PE O' B iv jf im A x.1/\look id O'=some (rdr d t x.2)/\x.2<=8*d.length
structure XI (p:Prg) (s:Xc) (id t:Nat) (d:List Int) (B iv jf im:Nat) (P:AV) (N:Nat) (O:List (Nat×AO)) (a b c:Nat) (y:Option (Envt×Nat)) (i:Nat) (E:Env) (O':List (Nat×AO)) (N':Nat) (A:List AV) (x:Envt×Nat):Prop where
 e3:look 3 E=some (.ptr id 3 0 0)
 e4:look 4 E=some (.ptr a 9 0 0)
 e5:look 5 E=some (.ptr b 7 0 0)
 e6:look 6 E=some (.ptr c 4 0 0)
 e14:look 14 E=some (.slice 1 (s.extract.map cI))
 e15:look 15 E=some (a7 s.extract.length)
 e16:look 16 E=some (a7 i)
 la:look a O'=some (.row 9 [p.c])
 lc:look c O'=some (.row 4 [[.row iv 1 0 p.Xo.length,.row jf 1 0 p.Xo.length,.row im 1 0 p.Xn.length,P]])
 li:look id O'=some (rdr d t x.2)
 q:x.2<=8*d.length
 pe:PE O' B iv jf im A x.1
 v:x.1.valid.length=p.Xo.length
 f:x.1.Xz.length=p.Xo.length
 hy:y=exHs p d (s.extract.drop i) x
 kp:Kp (Fx id iv jf) N O O'
 hT:Tail O' N'
 hN:NR O'
 hn:N<=N'
theorem Ec {p:Prg} (fs:PrgS p) (hd:∀h∈p.Xo,hdrE h=0) {s:Xc} (hs:∀h∈s.extract,0<=h/\h<p.Xo.length) (hsl:s.extract.length<2^40) {id t:Nat} {d:List Int} (hb:bOk d) (hl:d.length<=512) {B iv jf im:Nat} {P:AV} {N:Nat} {O:List (Nat×AO)} {a b c:Nat} {y:Option (Envt×Nat)} {E:Env} {O':List (Nat×AO)} {N':Nat} {A:List AV} {x:Envt×Nat}
  (h:XI p s id t d B iv jf im P N O a b c y 0 E O' N' A x):ExtP id t d B iv jf im N O y (go Φ (finC wW.results) [.c (.loop eC),.b 0,.c gS] .normal ⟨E,⟨O',N'⟩⟩):=by
 refine cC s.extract.length (fun i E h=>∃O' N' A x,h=⟨O',N'⟩/\XI p s id t d B iv jf im P N O a b c y i E O' N' A x) _ ?_ ?_ 0 _ _ (Qc _) ⟨_,_,_,_,rfl,h⟩
 ·rintro i E _ K hi hK ⟨O',N',A,x,rfl,h⟩ ih;obtain ⟨e3,e4,e5,e6,e14,e15,e16,la,lc,li,q,pe,v,f,hy,kp,hT,hN,hn⟩:=h;have hw:=aF i (by omega);obtain ⟨h0,h1⟩:=hs _ (Qd hi);rw [Qi hi,exHs] at hy;generalize hx:s.extract[i]=z at*;obtain ⟨m,rfl⟩:=f9 h0;have hm:m<p.Xo.length:=by omega
  have hg:p.Xo[m]∈p.Xo:=Qd hm;have vh:=vhdr (hd _ hg);have wn:(wSum p.Xo[m].Xz).toNat=wN p.Xo[m].Xz:=by rw [OB vh.w];rfl
  rw [exH,oV,Qa hm] at hy;simp only [wn] at hy;have rd:=Ei hT hN li hb hl q (fs.hn _ hg) (fs.hf _ hg) (hd _ hg);generalize hgx:p.Xo[m]=g at*;rw [Prg.c] at la;by_cases z:8*d.length<x.2+wN g.Xz
  ·rw [a9 z] at rd hy;obtain ⟨L,N1,hr,kp1,T1,R1,n1⟩:=rd;rw [hy];rw [Xi.c] at hr;simp [eC,Xi.c,cI,e3,e4,e5,e6,e14,e15,e16,hi,hx,hm,hgx,hw,la,lc,hr];exact ⟨_,_,fun j hj hf=>(kp1 j (by omega) (by simp)).trans (kp j hj hf),T1,R1,by omega,rfl⟩
  ·rw [QA z] at rd hy;obtain ⟨O1,N1,tk,hr,li1,lt1,tn,kp1,T1,R1,n1⟩:=rd;rw [dI] at hy;have hfr:∀j es,B<=j->look j O'=some (.row 1 es)->look j O1=some (.row 1 es):=fun j es _ hj=>by
    rw [kp1 j (hT.lt hj) (aW hj li (by simp [rdr])),hj]
   have pe1:=pe.fr hfr;have la1:look a O1=_:=(kp1 a (hT.lt la) (aW la li (by simp [rdr]))).trans la;have lc1:look c O1=_:=(kp1 c (hT.lt lc) (aW lc li (by simp [rdr]))).trans lc;rw [Xi.c] at hr;have lv:=pe1.lv;have lf:=pe1.lf;have cv:¬c=iv/\¬iv=c:=by
    have:=aW lc1 lv (by simp);exact ⟨this,fun e=>this e.symm⟩
   have cf:¬c=jf/\¬jf=c:=by
    have:=aW lc1 lf (by simp);exact ⟨this,fun e=>this e.symm⟩
   have hcb:∀b:Bool,(cB b).tail=[]:=fun b=>rfl
   have sw2:∀x y,eT (setl jf (.row 1 x) (setl iv (.row 1 y) O1))=setl jf (.row 1 x) (setl iv (.row 1 y) O1):=fun x y=>NR.setl (by simp) (NR.setl (by simp) R1)
   have cvb:(c == iv)=false:=by simp [cv]
   have d1:=pe.d.1;have d2:=pe.d.1.symm;have hA:A.length=p.Xo.length:=by rw [pe.len,f]
   simp [eC,Xi.c,cI,e3,e4,e5,e6,e14,e15,e16,hi,hx,hm,hgx,hw,la,lc,la1,lc1,hr,lv,lf,aA,cv,cf,d1,d2,hA,v,eY,R1.eq,cvb,hcb,sw2];have pe2:=(pe1.setV (x.1.valid.set m true)).setF (k:=m) (a:= .app 1 ((rdF d x.2 g.Xz).map c32) tk) (l:=rdF d x.2 g.Xz) (by rw [hA];exact hm) (.inr (.inr ⟨tk,rfl⟩));have hne:∀{j:Nat} {z:Nat} {es:List (List AV)},z≠1->look j O1=some (.row z es)->look j (setl jf (.row 1 ((A.set m (.app 1 ((rdF d x.2 g.Xz).map c32) tk)).map fun x=>[x])) (setl iv (.row 1 ((x.1.valid.set m true).map cB)) O1))=some (.row z es):=fun {j z es} hz hj=>by
    rw [aA,QA (aW hj lf (by simp [hz])),aA,QA (aW hj lv (by simp [hz])),hj]
   have es1:(x.1.valid.map cB).set m [AV.bool true]=(x.1.valid.set m true).map cB:=by rw [uX];rfl
   have es2:(A.map fun x=>[x]).set m [AV.app 1 ((rdF d x.2 g.Xz).map c32) tk]=(A.set m (AV.app 1 ((rdF d x.2 g.Xz).map c32) tk)).map fun x=>[x]:=by rw [uX]
   refine ih _ _ ⟨_,_,A.set m (.app 1 ((rdF d x.2 g.Xz).map c32) tk),_,rfl,by simp [e3],by simp [e4],by simp [e5],by simp [e6],by simp [e14],by simp [e15],by simp,?_,?_,?_,?_,?_,?_,?_,hy,?_,?_,?_,by omega⟩
   all_goals try rw [es1,es2]
   ·exact hne (by decide) la1
   ·exact hne (by decide) lc1
   ·exact hne (by decide) li1
   ·simp only;omega
   ·exact pe2
   ·simp [v]
   ·simp [f]
   ·intro j hj hf;have h3:¬j=jf/\¬j=iv/\¬j=id:=⟨fun e=>hf (.inr (.inr e)),fun e=>hf (.inr (.inl e)),fun e=>hf (.inl e)⟩;rw [aA,QA h3.1,aA,QA h3.2.1,kp1 j (by omega) h3.2.2,kp j hj hf]
   ·exact bB (bB (T1.mono (by omega)))
   ·exact NR.setl (by simp) (NR.setl (by simp) R1)
 ·rintro E _ K hK ⟨O',N',A,x,rfl,h⟩;obtain ⟨e3,e4,e5,e6,e14,e15,e16,la,lc,li,q,pe,v,f,hy,kp,hT,hN,hn⟩:=h;rw [QB,exHs] at hy;simp [wW,eC,gS,e15,e16] at hK ⊢;simp [gS,hK];subst hy;exact ⟨O',N',kp,hT,hN,hn,rfl,A,pe,li,q⟩
theorem Rj {p:Prg} (fs:PrgS p) (hd:∀h∈p.Xo,hdrE h=0) {s:Xc} (hs:∀h∈s.extract,0<=h/\h<p.Xo.length) (hsl:s.extract.length<2^40) {id t:Nat} {d:List Int} (hb:bOk d) (hl:d.length<=512) {B iv jf im:Nat} {P:AV} {N:Nat} {O:List (Nat×AO)} {A:List AV} {x:Envt×Nat}
  (hT:Tail O N) (hN:NR O) (li:look id O=some (rdr d t x.2)) (q:x.2<=8*d.length) (pe:PE O B iv jf im A x.1) (v:x.1.valid.length=p.Xo.length) (f:x.1.Xz.length=p.Xo.length):
  ExtP id t d B iv jf im N O (exHs p d s.extract x) (aG Φ 267 [.agg p.c,.agg s.c,.agg [.row iv 1 0 p.Xo.length,.row jf 1 0 p.Xo.length,.row im 1 0 p.Xn.length,P],.ptr id 3 0 0] ⟨O,N⟩):=by
 rw [eQ rfl rfl];have tt:∀k,look (N+k) O=none:=fun k=>hT _ (by omega)
 have t0:=hT N (Qb _);have lt3:∀k,k<3->N+k<N+3:=fun k h=>by omega
 simp [wW,Xc.c,t0,tt,cZ,aC];refine Ec fs hd (s:=s) (P:=P) (a:=N) (b:=N+1) (c:=N+2) hs hsl hb hl (A:=A) (x:=x) ⟨by simp,by simp,by simp,by simp,by simp,by simp,by simp,?_,?_,bL li,q,pe.app _,v,f,rfl,?_,?_,?_,by omega⟩
 ·simp [aC,t0]
 ·simp [aC,tt]
 ·intro j hj _;have ne1:∀k,N+k≠j:=fun k=>by omega
  rw [aC,show ∀(x:AO) r,look j ((N,x)::r)=look j r from fun x r=>j9 _ _ _ _ (ne1 0),j9 _ _ _ _ (ne1 _),j9 _ _ _ _ (ne1 _)];cases look j O<;>rfl
 ·simp only [Tail_append_iff,Tail_cons_iff];exact ⟨hT.mono (by omega),lt3 0 (by decide),lt3 1 (by decide),lt3 2 (by decide),Tail.nil _⟩
 ·exact hN.app (bO (by simp) (bO (by simp) (.one (by simp))))
theorem Gm {v c m:Nat} (h:c&&& m=c):(v^^^c)&&& m=0↔v&&& m=c:=by
 rw [Nat.and_xor_distrib_right,h];constructor
 ·intro e;have:((v&&& m)^^^c)^^^c=0^^^c:=by rw [e]
  rwa [Nat.xor_assoc,Nat.xor_self,Nat.xor_zero,Nat.zero_xor] at this
 ·intro e;rw [e,Nat.xor_self]
theorem Lu {v c m:Int} (hv:ok32 0 v) (hc:ok32 0 c) (hm:ok32 0 m) (h:c.toNat&&& m.toNat=c.toNat):iand .u32 (ixor .u32 v c) m=0↔iand .u32 v m=c:=by
 have hx:ok32 0 (ixor .u32 v c):=by
  have:=vt (k:=32) (by decide) (a:=v) (b:=c) ⟨hv.1,by have:=hv.2;omega⟩ ⟨hc.1,by have:=hc.2;omega⟩;exact nW this (by decide)
 rw [UM hx hm,UM hv hm,vu hv hc];have:=Gm (v:=v.toNat) h;have h0:=hc.1;simp only [uW];omega
def nxF (s:Xc) (v:Int) (l:List Xj):Int:=((l.find? fun c=>decide (iand .u32 v c.Yd=c.value)).map (·.next)).getD s.Yb
structure NxI (s:Xc) (v R:Int) (i:Nat) (E:Env) (h:AH):Prop where
 e2:look 2 E=some (.iptr 7 [s.c] 0 0)
 e5:look 5 E=some (.int .u32 v)
 e15:look 15 E=some (.slice 3 (s.cases.map Xj.c))
 e16:look 16 E=some (a7 s.cases.length)
 e17:look 17 E=some (a7 i)
 r:R=nxF s v (s.cases.drop i)
 h:h.objs=[]
theorem Lf {s:Xc} {e:Envt} (hv:ok32 0 (eGet e s.on.header s.on.field)) (hl:s.cases.length<2^40) (hc:∀c∈s.cases,ok32 0 c.value/\ok32 0 c.Yd) (hm:∀c∈s.cases,c.value.toNat&&& c.Yd.toNat=c.value.toNat):
  a8 Φ 268 [.agg s.c,.agg e.c]=some (.val (a7 (nxS s e))):=by
 rw [aB rfl rfl];have hg:=VV e s.on.header s.on.field;rw [Envt.ce] at hg;unfold nxS;generalize eGet e s.on.header s.on.field=v at hg hv;cases q:s.select with
 | false=>simp [BL,l9,Xc.c,Envt.ce,q]
 | true=>
  rw [a9 rfl];simp [BL,Xc.c,Envt.ce,q,hg];refine cC s.cases.length (fun i E h=>NxI s v (nxF s v s.cases) i E h) (fun (r:Option Rt)=>r=some (.val (a7 (nxF s v s.cases)))) ?_ ?_ 0 _ _ (Qc _) ?_
  rotate_left 2
  ·exact ⟨by simp [Xc.c,q],by simp,by simp,by simp,by simp,rfl,rfl⟩
  ·rintro i E ⟨objs,n⟩ K hi hK h ih;obtain ⟨e2,e5,e15,e16,e17,r,h⟩:=h;cases h;have hw:=aF i (by omega);have hci:=hc _ (Qd hi);have hmi:=hm _ (Qd hi);rw [Qi hi] at r;generalize hx:s.cases[i]=x at*;have hs:=Lu hv hci.1 hci.2 hmi;rw [Xc.c] at e2;by_cases z:iand .u32 v x.Yd=x.value
   ·have z1:=hs.2 z;have:nxF s v s.cases=x.next:=by rw [r];simp [nxF,z]
    simp [gT,Xj.c,e2,e5,e15,e16,e17,hi,hx,hw,z1,this]
   ·have z1:¬iand .u32 (ixor .u32 v x.value) x.Yd=0:=fun h=>z (hs.1 h)
    have:nxF s v s.cases=nxF s v (s.cases.drop (i+1)):=by rw [r];simp [nxF,z]
    simp [gT,Xj.c,e2,e5,e15,e16,e17,hi,hx,hw,z1];refine ih _ _ ?_;exact ⟨by simp [e2,Xc.c],by simp [e5],by simp [e15],by simp [e16],by simp,this,rfl⟩
  ·rintro E ⟨objs,n⟩ K hK h;obtain ⟨e2,e5,e15,e16,e17,r,h⟩:=h;cases h;rw [QB] at r;rw [Xc.c] at e2;simp [gT,e16,e17] at hK ⊢;simp [l9,hK,e2,r];rfl
theorem Bh {p:Prg} (fs:PrgS p) (hd:∀h∈p.Xo,hdrE h=0) (hp:(parE p).2.2=0) (d:List Int):
  a8 Φ 265 [.agg p.c,.slice 1 (d.map c8)]=some (.val (a7 (if 512<d.length then 4 else 0))):=by
 rw [aB rfl rfl];have hc:=OY p fs;rw [Prg.c] at hc;simp [GT,Prg.c,hc,tup3,hp];refine cC p.Xo.length (fun i E h=>look 19 E=some (.slice 2 (p.Xo.map Xi.c))/\look 20 E=some (a7 p.Xo.length)/\look 21 E=some (a7 i)/\look 1 E=some (.slice 1 (d.map c8))/\h.objs=[]) (fun (r:Option Rt)=>r=some (.val (a7 (if 512<d.length then 4 else 0)))) ?_ ?_ 0 _ _ (Qc _) ?_
 rotate_left 2
 ·exact ⟨by simp,by simp,by simp,by simp,rfl⟩
 ·rintro i E ⟨objs,n⟩ K hi hK ⟨e19,e20,e21,e1,h⟩ ih;cases h;have hw:IntKind.wrap .i64 ((i:Int)+1)=((i+1:Nat):Int):=aQ (by omega) (by have:=fs.h;omega);have hg:=Qd hi;generalize hx:p.Xo[i]=g at*;have hh:=NJ g (fs.hn _ hg) (fs.hf _ hg);rw [hd _ hg,Xi.c] at hh;simp [l8,Xi.c,e19,e20,e21,hi,hx,hw,hh];refine ih _ _ ?_;exact ⟨by simp [e19],by simp [e20],by simp,by simp [e1],rfl⟩
 ·rintro E ⟨objs,n⟩ K hK ⟨e19,e20,e21,e1,h⟩;cases h;simp [l8,e20,e21] at hK ⊢;by_cases z:512<d.length<;>simp [qZ,hK,e1,z]
def PEo (p:Prg) (O:List (Nat×AO)) (B:Nat) (V F M:AV) (e:Envt):Prop:=∃iv jf im A,V= .row iv 1 0 p.Xo.length/\F= .row jf 1 0 p.Xo.length/\M= .row im 1 0 p.Xn.length/\PE O B iv jf im A e/\e.valid.length=p.Xo.length/\e.Xz.length=p.Xo.length/\e.metaF.length=p.Xn.length
theorem PEo.snp {p:Prg} {O:List (Nat×AO)} {B:Nat} {V F M:AV} {e:Envt} (h:PEo p O B V F M e) (N m:Nat):snap (m+3) ⟨O,N⟩ V=some (.slice 1 (e.valid.map cB))/\snap (m+3) ⟨O,N⟩ F=some (.slice 1 (e.Xz.map (cS 1 c32)))/\snap (m+3) ⟨O,N⟩ M=some (.slice 1 (e.metaF.map c32)):=by
 obtain ⟨iv,jf,im,A,rfl,rfl,rfl,pe,h1,h2,h3⟩:=h;have:=pe.snp (N:=N) m;rw [h1,h2,h3] at this;cases q1:snap (m+3) ⟨O,N⟩ (.row iv 1 0 p.Xo.length)<;>cases q2:snap (m+3) ⟨O,N⟩ (.row jf 1 0 p.Xo.length)<;>cases q3:snap (m+3) ⟨O,N⟩ (.row im 1 0 p.Xn.length)<;>simp only [mapO,q1,q2,q3] at this
 all_goals first | cases this | skip
 exact ⟨rfl,rfl,rfl⟩
def Sn3 (O:List (Nat×AO)) (V F M:AV) (e:Envt):Prop:=∀N,(snap 39 ⟨O,N⟩ V=some (.slice 1 (e.valid.map cB))/\snap 39 ⟨O,N⟩ F=some (.slice 1 (e.Xz.map (cS 1 c32)))/\snap 39 ⟨O,N⟩ M=some (.slice 1 (e.metaF.map c32)))/\
 (snap 38 ⟨O,N⟩ V=some (.slice 1 (e.valid.map cB))/\snap 38 ⟨O,N⟩ F=some (.slice 1 (e.Xz.map (cS 1 c32)))/\snap 38 ⟨O,N⟩ M=some (.slice 1 (e.metaF.map c32)))
theorem PEo.sn3 {p:Prg} {O:List (Nat×AO)} {B:Nat} {V F M:AV} {e:Envt} (h:PEo p O B V F M e):Sn3 O V F M e:=fun N=>⟨h.snp N 36,h.snp N 35⟩
theorem PEo.fr {p:Prg} {O O':List (Nat×AO)} {B:Nat} {V F M:AV} {e:Envt} (h:PEo p O B V F M e) (hf:∀j es,B<=j->look j O=some (.row 1 es)->look j O'=some (.row 1 es)):PEo p O' B V F M e:=by
 obtain ⟨iv,jf,im,A,rfl,rfl,rfl,pe,h1,h2,h3⟩:=h;exact ⟨iv,jf,im,A,rfl,rfl,rfl,pe.fr hf,h1,h2,h3⟩
theorem gh {p:Prg} {d:List Int}:∀(l:List Int) {x y:Envt×Nat},exHs p d l x=some y->y.1.valid.length=x.1.valid.length/\y.1.Xz.length=x.1.Xz.length/\y.1.metaF=x.1.metaF/\y.1.payload=x.1.payload
 | [],x,y,h=>by cases h;exact ⟨rfl,rfl,rfl,rfl⟩
 | a::l,x,y,h=>by
  obtain ⟨u,h1,h2⟩:=Qt.1 h;have ih:=gh l h2;unfold exH at h1;split at h1
  ·cases h1
  split at h1
  ·cases h1
  ·cases h1;simpa using ih
theorem kz {p:Prg} (hd:∀h∈p.Xo,hdrE h=0) {d:List Int}:∀(l:List Int) {x y:Envt×Nat},x.2 % 8=0->exHs p d l x=some y->y.2 % 8=0
 | [],x,y,q,h=>by cases h;exact q
 | a::l,x,y,q,h=>by
  obtain ⟨u,h1,h2⟩:=Qt.1 h;refine kz hd l ?_ h2;unfold exH at h1;split at h1
  ·cases h1
  rename_i g hg;split at h1
  ·cases h1
  ·cases h1;obtain ⟨m,rfl,hm,rfl⟩:=iX hg;have v:=vhdr (hd _ (Qd hm));have:=v.s;simp only;omega
def RunP (p:Prg) (R:Option Envt) (r:Option Rt):Prop:=match R with
 | some e=>∃l,r=some (.val (.tup [.agg e.c,.slice 1 l,.int .i64 0]))
 | none=>∃l c,c≠0/\r=some (.val (.tup [.agg (eNew p).c,.slice 1 l,.int .i64 c]))
structure RI (p:Prg) (d:List Int) (R:Option Envt) (c id t tk n:Nat) (E:Env) (O:List (Nat×AO)) (N:Nat) (V F M:AV) (L:List Int) (s:Int) (x:Envt×Nat):Prop where
 e1:look 2 E=some (.iptr 9 [p.c] 0 0)
 e4:look 4 E=some (.ptr 0 4 0 0)
 e7:look 7 E=some (.ptr c 4 0 0)
 e9:look 9 E=some (.ptr id 3 0 0)
 e10:look 10 E=some (.app 1 (L.map cI) tk)
 e11:look 11 E=some (a7 s)
 l0:look 0 O=some (.row 4 [z4])
 lc:look c O=some (.row 4 [[V,F,M,.Xt 1 []]])
 li:look id O=some (rdr d t x.2)
 lt:look tk O=some (.tok 1 L.length)
 pe:PEo p O 1 V F M x.1
 q:x.2<=8*d.length/\x.2 % 8=0
 pl:x.1.payload=[]
 hT:Tail O N
 hN:NR O
 hL:L.length+n<=p.Xw.length+1
 hR:R=prF p d n s x
 hs:s= -1\/s= -2\/∃k:Nat,s=k/\k<p.Xw.length/\p.Xw.length+1<=n+k
 n0:0<n
 ev:EV p x.1
 c0:¬c=0/\¬0=c
theorem ky {p:Prg} (w:PWd p) {O:List (Nat×AO)} {N:Nat} (hT:Tail O N) (hN:NR O) (l0:look 0 O=some (.row 4 [z4])):
  ∃O' N' V F M,aG Φ 264 [.agg p.c] ⟨O,N⟩=some (.val (.agg [V,F,M,.Xt 1 []]),⟨O',N'⟩)/\look 0 O'=some (.row 4 [z4])/\PEo p O' N V F M (eNew p)/\Kp (fun _=>False) N O O'/\Tail O' N'/\NR O'/\N<=N'/\
   Sn3 (setl 0 (.row 4 [[V,F,M,.Xt 1 []]]) O') V F M (eNew p):=by
 obtain ⟨O',N',iv,jf,im,A,hr,pe,kp,T,R,hn⟩:=Jy hT hN w;have l0':look 0 O'=some (.row 4 [z4]):=by rw [kp 0 (hT.lt l0) (by simp),l0]
 have po:PEo p O' N (.row iv 1 0 p.Xo.length) (.row jf 1 0 p.Xo.length) (.row im 1 0 p.Xn.length) (eNew p):=⟨iv,jf,im,A,rfl,rfl,rfl,pe,by simp [eNew],by simp [eNew],by simp [eNew]⟩;exact ⟨O',N',_,_,_,hr,l0',po,kp,T,R,hn,(po.fr fun j es _ hj=>by rw [aA,QA (aW hj l0' (by simp)),hj]).sn3⟩
theorem tq {p:Prg} {k:Nat} {s:Xc} (v:VSt p k s) (e:Envt):oW p k (nxS s e)=true:=by
 unfold nxS;split
 ·cases q:s.cases.find? fun c=>decide (iand .u32 (eGet e s.on.header s.on.field) c.Yd=c.value) with
  | none=>exact v.df
  | some c=>exact v.cs c (WO q)
 ·exact v.df
theorem Gs {p:Prg} (fs:PrgS p) (w:PWd p) (hd:∀h∈p.Xo,hdrE h=0) (vp:VPar p) {d:List Int} (hb:bOk d) (hl:d.length<=512) {R:Option Envt} {c id t tk n:Nat} {E:Env} {O:List (Nat×AO)} {N:Nat} {V F M:AV} {L:List Int} {s:Int} {x:Envt×Nat} (h:RI p d R c id t tk n E O N V F M L s x):
  RunP p R (go Φ (finP pY.results) [.c (.loop cJ),.b 0,.c cH] .normal ⟨E,⟨O,N⟩⟩):=by
 refine KZ (Z:=Nat) (fun n=>n) (fun n E h=>∃O N V F M L s x,h=⟨O,N⟩/\RI p d R c id t tk n E O N V F M L s x) (fun _ r=>RunP p R r) ?_ n E _ ⟨_,_,_,_,_,_,_,_,rfl,h⟩;rintro n E _ K hK ⟨O,N,V,F,M,L,s,x,rfl,h⟩ ih;obtain ⟨e1,e4,e7,e9,e10,e11,l0,lc,li,lt,pe,q,pl,hT,hN,hL,hR,hs,n0,ev,c0⟩:=h;rcases hs with rfl | rfl | ⟨k,rfl,hk,hkn⟩
 ·have hRR:R=some { x.1 with payload:=d.drop (x.2 / 8) }:=by
   obtain ⟨m,rfl⟩:∃m,n=m+1:=⟨n - 1,by omega⟩;rw [hR,prF,a9 rfl]
  have hr:=xd hT hN li hl q.1;rw [rstV,rstE,rstL,a9 q.2,a9 q.2,a9 q.2,a9 q.2] at hr;rw [z4] at l0;have sn:=(pe.fr (O':=setl 0 (AO.row 4 [[V,F,M,.app 1 ((d.drop (x.2 / 8)).map c8) N]]) (setl c (AO.row 4 [[V,F,M,.app 1 ((d.drop (x.2 / 8)).map c8) N]]) (O++[(N,.tok 1 (d.length - x.2 / 8))]))) fun j es _ hj=>by rw [aA,QA (aW hj l0 (by simp)),aA,QA (aW hj lc (by simp)),bL hj]).sn3;unfold Sn3 at sn;generalize hQ:(d.drop (x.2 / 8))=rs at*;simp [pY,cJ,cH,e11] at hK ⊢;simp [cH,hK,e4,e7,e10,e11,e9,hr,aC,l0,lc,aA,c0,sn];rw [hRR];exact ⟨_,rfl⟩
 ·have hRR:R=none:=by
   obtain ⟨m,rfl⟩:∃m,n=m+1:=⟨n - 1,by omega⟩;rw [hR,prF,QA (by decide),cY (by decide)]
  obtain ⟨O1,N1,V1,F1,M1,hr,l1,-,-,-,-,-,sn⟩:=ky w hT hN l0;rw [Prg.c] at hr e1;rw [z4] at l1;unfold Sn3 at sn;simp [pY,cJ,cH,e11] at hK ⊢;simp [cH,hK,e1,e4,e10,e11,e9,hr,l1,aA,sn];rw [hRR];exact ⟨_,15,by decide,rfl⟩
 ·have ck0:¬(k:Int)<0:=by omega
  have lL:(L.length+1)*8<=70368744177664:=by have:=vp.n;omega
  have ctk:¬c=tk/\¬tk=c:=by
   have:=aW lc lt (by simp);exact ⟨this,fun e=>this e.symm⟩
  have ztk:¬0=tk/\¬tk=0:=by
   have:=aW l0 lt (by simp);exact ⟨this,fun e=>this e.symm⟩
  have itk:¬id=tk:=aW li lt (by simp [rdr]);obtain ⟨O1,hO1⟩:∃O1,setl tk (.tok 1 (L.length+1)) O=O1:=⟨_,rfl⟩;have fr1:∀{j:Nat} {y:AO},j≠tk->look j O=some y->look j O1=some y:=fun {j y} h1 h2=>by rw [<- hO1,aA,QA h1,h2]
  have lc1:=fr1 ctk.1 lc;have l01:=fr1 ztk.1 l0;have li1:=fr1 itk li;have lt1:look tk O1=some (.tok 1 (L.length+1)):=by rw [<- hO1,aA,a9 rfl,lt];rfl
  have T1:Tail O1 N:=by rw [<- hO1];exact bB hT
  have R1:NR O1:=by rw [<- hO1];exact NR.setl (by simp) hN
  have pe1:PEo p O1 1 V F M x.1:=pe.fr fun j es _ hj=>fr1 (aW hj lt (by simp)) hj
  have vs:=vp.s k hk;have hmem:=Qd hk;have hle:=fun e=>tq vs e
  obtain ⟨m,rfl⟩:∃m,n=m+1:=⟨n - 1,by omega⟩;rw [prF,QA (by omega),oV,Qa hk] at hR;simp only at hR;obtain ⟨iv,jf,im,A,hV,hF,hM,pe2,p1,p2,p3⟩:=pe1;have hex:=Rj fs hd (s:=p.Xw[k]) vs.ex (fs.se _ hmem) hb hl (P:= .Xt 1 []) (x:=x) T1 R1 li1 q.1 pe2 p1 p2;rw [<- hV,<- hF,<- hM] at hex;have hcs:=fs.sv _ hmem;have hcl:=fs.sc _ hmem;have hcm:=vs.cm;generalize hst:p.Xw[k]=st at*;obtain ⟨O2,N2,kp,T2,R2,n2,hex⟩:=hex;have nF:∀{j z:Nat} {es:List (List AV)},z≠1->z≠3->look j O1=some (.row z es)->¬Fx id iv jf j:=fun {j z es} h1 h3 hj hf=>by
   rcases hf with hf | hf | hf
   ·exact aW hj li1 (by simp [rdr,h3]) hf
   ·exact aW hj pe2.lv (by simp [h1]) hf
   ·exact aW hj pe2.lf (by simp [h1]) hf
  have l02:look 0 O2=some (.row 4 [z4]):=by rw [kp 0 (T1.lt l01) (nF (by decide) (by decide) l01),l01]
  have lc2:look c O2=_:=(kp c (T1.lt lc1) (nF (by decide) (by decide) lc1)).trans lc1;have lt2:look tk O2=some (.tok 1 (L.length+1)):=by
   rw [kp tk (T1.lt lt1) (fun hf=>?_),lt1];rcases hf with hf | hf | hf
   ·exact aW lt1 li1 (by simp [rdr]) hf
   ·exact aW lt1 pe2.lv (by simp) hf
   ·exact aW lt1 pe2.lf (by simp) hf
  cases hy:exHs p d st.extract x with
  | none=>
   rw [hy] at hex hR;simp only at hex;obtain ⟨O3,N3,V3,F3,M3,hr,l3,-,-,-,-,-,sn⟩:=ky w T2 R2 l02;rw [Prg.c] at hr hex e1;rw [Xc.c] at hex;rw [z4] at l3;unfold Sn3 at sn;simp [pY,cJ,Xc.c,e11,ck0,hk,hst,e10,lt,e1,e4,e7,e9,lc1,lL,hO1,hex,hr,l3,aA,sn];rw [hR];exact ⟨_,3,by decide,rfl⟩
  | some y=>
   rw [hy] at hex hR;obtain ⟨hex,A2,pe3,li2,qy⟩:=hex;obtain ⟨g1,g2,g3,g4⟩:=gh _ hy;have g5:=kz hd _ q.2 hy;have ev2:EV p y.1:=ev.exHs (fun g hg f hf=>(vhdr (hd g hg)).w f hf) _ hy;have nx:=Lf (s:=st) (e:=y.1) (jk ev2 (fun h f=>(DL p h f).2) _ _) hcl hcs hcm;have po:PEo p O2 1 V F M y.1:=⟨iv,jf,im,A2,hV,hF,hM,pe3,by rw [g1,p1],by rw [g2,p2],by rw [g3,p3]⟩;have sn:=po.sn3;unfold Sn3 at sn;have pl2:=g4.trans pl;rw [dI] at hR;rw [Prg.c] at hex e1;rw [Xc.c] at hex nx;rw [Envt.ce,pl2] at nx;simp only [zA] at nx;simp [cJ,Xc.c,e11,ck0,hk,hst,e10,lt,e1,e4,e7,e9,lc1,lc2,lL,hO1,hex,sn,nx];have hl2:=sy (hle y.1);refine ih m _ _ (by omega) ⟨O2,N2,V,F,M,L++[(k:Int)],nxS st y.1,y,rfl,?_⟩;refine ⟨by simp [e1,Prg.c],by simp [e4],by simp [e7],by simp [e9],by simp [cI],by simp,l02,lc2,li2,by simpa using lt2,po,⟨qy,g5⟩,pl2,T2,R2,by simp;omega,hR,?_,by omega,ev2,c0⟩;rcases hl2 with h | h | ⟨j,h1,h2,h3⟩
   ·exact .inl h
   ·exact .inr (.inl h)
   ·exact .inr (.inr ⟨j,h1,h3,by omega⟩)
theorem Tb {p:Prg} (fs:PrgS p) (w:PWd p) (hd:∀h∈p.Xo,hdrE h=0) (hp:(parE p).2.2=0) {d:List Int} (hb:bOk d):RunP p (prs p d) (a8 Φ 170 [.agg p.c,.slice 1 (d.map c8)]):=by
 rw [aB rfl rfl];have vp:=vpar hp;have T1:Tail [(0,AO.row 4 [z4])] 1:=Tail_cons_iff.2 ⟨by omega,Tail.nil _⟩;obtain ⟨O1,N1,V,F,M,hr,l0,po,kp,T,R,n1,-⟩:=ky w T1 (.one (by simp)) rfl;have rf:=Bh fs hd hp d;have tt:=T N1 (Qb _);have n0:¬0=N1/\¬N1=0:=by omega
 rw [Prg.c] at hr rf;rw [z4] at hr l0;by_cases hl:512<d.length
 ·rw [a9 hl] at rf;rw [prs,a9 hl];have sn:=(po.fr (O':=setl 0 (AO.row 4 [[V,F,M,.Xt 1 []]]) (O1++[(N1,.row 4 [[V,F,M,.Xt 1 []]])])) fun j es _ hj=>by rw [aA,QA (aW hj l0 (by simp)),bL hj]).sn3;unfold Sn3 at sn;simp [pY,Prg.c,hr,rf,tt,aC,aA,n0,l0,sn];exact ⟨_,4,by decide,rfl⟩
 ·rw [QA hl] at rf;rw [prs,QA hl];have nr:=Le (O:=O1++[(N1,.row 4 [[V,F,M,.Xt 1 []]])]) (N:=N1+1) (d:=d) (Tail_append_iff.2 ⟨T.mono (by omega),Tail_cons_iff.2 ⟨by omega,Tail.nil _⟩⟩) (by omega);have tk:∀k,look (N1+k) O1=none:=fun k=>T _ (by omega)
  simp [pY,Prg.c,hr,rf,tt,tk,aC,aA,n0,l0,nr,cZ];have n1p:1<=p.Xw.length:=vp.n.1;refine Gs fs w hd vp hb (by omega) (c:=N1) (id:=N1+2) (t:=N1+1) (tk:=N1+3) (n:=p.Xw.length+1) (V:=V) (F:=F) (M:=M) (L:=[]) (s:=0) (x:=(eNew p,0)) ?_;have lt4:∀k,k<4->N1+k<N1+4:=fun k h=>by omega
  refine ⟨by simp [Prg.c],by simp,by simp,by simp,by simp,by simp,?_,?_,?_,?_,?_,by simp,by simp [eNew],?_,?_,by simp,rfl,.inr (.inr ⟨0,rfl,by omega,by omega⟩),by omega,EV.new p,by omega⟩
  ·rw [aC,l0];rfl
  ·simp [aC,tt]
  ·simp [aC,tk]
  ·simp [aC,tk]
  ·exact po.fr fun j es _ hj=>bL hj
  ·simp only [Tail_append_iff,Tail_cons_iff];exact ⟨T.mono (by omega),lt4 0 (by decide),lt4 1 (by decide),lt4 2 (by decide),lt4 3 (by decide),Tail.nil _⟩
  ·exact R.app (bO (by simp) (bO (by simp) (bO (by simp [rdr]) (.one (by simp)))))
def ParP (p:Prg) (R:Option Envt) (r:Option Rt):Prop:=match R with
 | some e=>r=some (.val (.tup [.agg e.c,.int .i64 0]))
 | none=>∃c,c≠0/\r=some (.val (.tup [.agg (eNew p).c,.int .i64 c]))
theorem Fl {p:Prg} (fs:PrgS p) (w:PWd p) (hd:∀h∈p.Xo,hdrE h=0) (hp:(parE p).2.2=0) {d:List Int} (hb:bOk d):ParP p (prs p d) (a8 Φ 102 [.agg p.c,.slice 1 (d.map c8)]):=by
 rw [aB rfl rfl];have h:=Tb fs w hd hp hb;rw [Prg.c] at h;cases q:prs p d with
 | some e=>
  rw [q] at h;obtain ⟨l,h⟩:=h;rw [Envt.ce] at h;simp only [ParP];simp [AU,Prg.c,h,Envt.ce]
 | none=>
  rw [q] at h;obtain ⟨l,c,hc,h⟩:=h;rw [Envt.ce] at h;refine ⟨c,hc,?_⟩;simp [AU,Prg.c,h,Envt.ce]
theorem Di {p:Prg} {h f v:Int} (h0:0<=v/\v<2^(wid p h f).toNat):v<=bC (wid p h f):=by
 have hw:=DL p h f;by_cases z:wid p h f=0
 ·rw [z] at h0 ⊢;simp at h0;have:bC 0=0:=by decide
  omega
 ·rw [NL (by omega) (by omega)];omega
theorem PF {p:Prg} {h:Int} {l:List Int} (hl:l.length<2^40) (hv:∀(i:Nat) (v:Int),l[i]? =some v->0<=v/\v<2^(wid p h i).toNat):a8 Φ 399 [.agg p.c,a7 h,.slice 1 (l.map c32)]=some (.val (.bool true)):=by
 rw [aB rfl rfl];simp [J3,Prg.c];refine cC l.length (fun i E H=>look 9 E=some (.slice 1 (l.map c32))/\look 10 E=some (a7 l.length)/\look 11 E=some (a7 i)/\look 1 E=some (a7 h)/\look 3 E=some (.iptr 9 [p.c] 0 0)/\H.objs=[]) (fun (r:Option Rt)=>r=some (.val (.bool true))) ?_ ?_ 0 _ _ (Qc _) ?_
 rotate_left 2
 ·exact ⟨by simp,by simp,by simp,by simp,by simp [Prg.c],rfl⟩
 ·rintro i E ⟨objs,n⟩ K hi hK ⟨e9,e10,e11,e1,e3,hH⟩ ih;cases hH;have hw:=aF i (by omega);have hwd:=O8 p h i;have hm:=nZ (wid p h i);have hle:¬bC (wid p h i)<l[i]:=by
   have:=Di (hv i l[i] (Qa hi));omega
  rw [Prg.c] at hwd e3;generalize hx:l[i]=x at*;simp [mH,c32,e9,e10,e11,e1,e3,hi,hx,hw,hwd,hm,hle];refine ih _ _ ?_;exact ⟨by simp [e9],by simp [e10],by simp,by simp [e1],by simp [e3,Prg.c],rfl⟩
 ·rintro E ⟨objs,n⟩ K hK ⟨e9,e10,e11,e1,e3,hH⟩;cases hH;simp [mH,e10,e11] at hK ⊢;simp [s5,hK]
theorem Ed {l:List Int} (hl:l.length<2^40) (hz:∀v∈l,v=0):a8 Φ 400 [.slice 1 (l.map c32)]=some (.val (.bool true)):=by
 rw [aB rfl rfl];have h1:a8 Φ 409 [.int .u32 0]=some (.val (.bool false)):=by
  rw [aB rfl rfl];simp [J9]
 have h2:a8 Φ 410 [.slice 1 (l.map c32),.func (.func 409) [] []]=some (.val (a7 (-1))):=by
  rw [aB rfl rfl];simp [JA];refine cC l.length (fun i E H=>look 0 E=some (.slice 1 (l.map c32))/\look 1 E=some (.func (.func 409) [] [])/\look 7 E=some (a7 l.length)/\look 8 E=some (a7 i)/\H.objs=[]) (fun (r:Option Rt)=>r=some (.val (a7 (-1)))) ?_ ?_ 0 _ _ (Qc _) ?_
  rotate_left 2
  ·exact ⟨by simp,by simp,by simp,by simp,rfl⟩
  ·rintro i E ⟨objs,n⟩ K hi hK ⟨e0,e1,e7,e8,hH⟩ ih;cases hH;have hw:=aF i (by omega);have hx:=hz _ (Qd hi);simp [mK,c32,e0,e1,e7,e8,hi,hx,hw,h1];refine ih _ _ ?_;exact ⟨by simp [e0],by simp [e1],by simp [e7],by simp,rfl⟩
  ·rintro E ⟨objs,n⟩ K hK ⟨e0,e1,e7,e8,hH⟩;cases hH;simp [mK,e7,e8] at hK ⊢;simp [s9,hK]
 have h3:a8 Φ 408 [.slice 1 (l.map c32),.func (.func 409) [] []]=some (.val (.bool false)):=by
  rw [aB rfl rfl];simp [J8,h2]
 simp [J4,h3]
theorem YT {p:Prg} (w:PWd p) {e:Envt} (ev:EV p e):a8 Φ 398 [.agg p.c,.agg e.c]=some (.val (.bool true)):=by
 rw [aB rfl rfl];simp [J2,Prg.c,Envt.ce,ev.v,ev.f,ev.m];refine cC e.Xz.length (fun i E H=>look 2 E=some (.iptr 9 [p.c] 0 0)/\look 33 E=some (.slice 1 (e.Xz.map (cS 1 c32)))/\look 34 E=some (a7 e.Xz.length)/\look 35 E=some (a7 i)/\H.objs=[]) (fun (r:Option Rt)=>r=some (.val (.bool true))) ?_ ?_ 0 _ _ (Qc _) ?_
 rotate_left 2
 ·exact ⟨by simp [Prg.c],by simp,by simp [ev.f],by simp,rfl⟩
 ·rintro i E ⟨objs,n⟩ K hi hK ⟨e2,e33,e34,e35,hH⟩ ih;cases hH;have hi2:i<p.Xo.length:=by rw [<- ev.f];exact hi
  have hw:IntKind.wrap .i64 ((i:Int)+1)=((i+1:Nat):Int):=aQ (by omega) (by have:=w.hl;omega);have hg:=ev.g i hi hi2;rw [Prg.c] at e2;simp [mG,cS,Xi.c,e2,e33,e34,e35,hi,hi2,hw,hg];refine ih _ _ ?_;exact ⟨by simp [e2,Prg.c],by simp [e33],by simp [e34],by simp,rfl⟩
 ·rintro E ⟨objs,n⟩ K hK ⟨e2,e33,e34,e35,hH⟩;cases hH;simp [mG,e34,e35] at hK ⊢;simp [rZ,hK]
theorem Dz {p:Prg} (w:PWd p) {e:Envt} (ev:EV p e) (pl:e.payload.length<2^40):a8 Φ 362 [.agg p.c,.agg e.c]=some (.val (a7 0)):=by
 rw [aB rfl rfl];have h1:=YT w ev;have h2:=PF (p:=p) (h:= -1) (l:=e.metaF) (by rw [ev.m];exact w.ml) ev.fm;have hfl:e.Xz.length<2^40:=by rw [ev.f];exact w.hl
 have hgl:∀(i:Nat) (h:i<e.Xz.length),e.Xz[i].length<2^40:=fun i h=>by
  rw [ev.g i h (by rw [<- ev.f];exact h)];exact w.hf _ (Qd _)
 rw [Envt.ce,Prg.c] at h1;rw [Prg.c] at h2;simp [IC,Prg.c,Envt.ce,h1,h2];refine cC e.Xz.length (fun i E H=>look 2 E=some (.iptr 9 [p.c] 0 0)/\look 3 E=some (.iptr 4 [e.c] 0 0)/\look 19 E=some (.slice 1 (e.Xz.map (cS 1 c32)))/\look 20 E=some (a7 e.Xz.length)/\look 21 E=some (a7 i)/\H.objs=[]) (fun (r:Option Rt)=>r=some (.val (a7 0))) ?_ ?_ 0 _ _ (Qc _) ?_
 rotate_left 2
 ·exact ⟨by simp [Prg.c],by simp [Envt.ce],by simp,by simp,by simp,rfl⟩
 ·rintro i E ⟨objs,n⟩ K hi hK ⟨e2,e3,e19,e20,e21,hH⟩ ih;cases hH;have hw:=aF i (by omega);have hf:=PF (p:=p) (h:=i) (l:=e.Xz[i]) (hgl i hi) (fun k v hk=>ev.ff i k _ v (Qa hi) hk);rw [Prg.c] at e2 hf;simp [lX,cS,e2,e3,e19,e20,e21,hi,hw,hf];refine ih _ _ ?_;exact ⟨by simp [e2,Prg.c],by simp [e3],by simp [e19],by simp [e20],by simp,rfl⟩
 ·rintro E ⟨objs,n⟩ K hK ⟨e2,e3,e19,e20,e21,hH⟩;cases hH;rw [Envt.ce] at e3;simp [lX,e20,e21] at hK ⊢;simp [rP,hK,e3];refine cC e.Xz.length (fun i E H=>look 3 E=some (.iptr 4 [e.c] 0 0)/\look 33 E=some (.slice 1 (e.Xz.map (cS 1 c32)))/\look 34 E=some (a7 e.Xz.length)/\look 35 E=some (a7 i)/\H.objs=[]) (fun (r:Option Rt)=>r=some (.val (a7 0))) ?_ ?_ 0 _ _ (Qc _) ?_
  rotate_left 2
  ·exact ⟨by simp [e3,Envt.ce],by simp,by simp,by simp,rfl⟩
  ·rintro i E ⟨objs,n⟩ K hi hK ⟨e3,e33,e34,e35,hH⟩ ih;cases hH;have hw:=aF i (by omega);have hiv:i<e.valid.length:=by rw [ev.v,<- ev.f];exact hi
   rw [Envt.ce] at e3;have next:∀{E2:Env} {m:Nat},(∀j,j=3\/j=33\/j=34->look j E2=look j E)->look 35 E2=some (a7 (i+1:Nat))->_:=fun {E2 m} hE h35=>ih E2 ⟨[],m⟩ ⟨by rw [hE 3 (by simp),e3,Envt.ce],by rw [hE 33 (by simp),e33],by rw [hE 34 (by simp),e34],h35,rfl⟩
   cases q:e.valid[i] with
   | true=>
    simp [i9,cS,cB,e3,e33,e34,e35,hi,hw,hiv,q];exact next (by rintro j (rfl | rfl | rfl)<;>simp) (by simp)
   | false=>
    have hz:=Ed (hgl i hi) (ev.z i _ (by rw [Qa hiv,q]) (Qa hi));simp [i9,cS,cB,e3,e33,e34,e35,hi,hw,hiv,q,hz];exact next (by rintro j (rfl | rfl | rfl)<;>simp) (by simp)
  ·rintro E ⟨objs,n⟩ K hK ⟨e3,e33,e34,e35,hH⟩;cases hH;simp [i9,e34,e35] at hK ⊢;simp [rO,hK]
theorem Y4 {p:Prg} (fs:PrgS p) (w:PWd p) (hd:∀h∈p.Xo,hdrE h=0) (hp:(depE p).2=0) {e:Envt} (ev:EV p e) (pl:e.payload.length<2^40):a8 Φ 295 [.agg p.c,.agg e.c]=some (.val (.bool true)):=by
 rw [aB rfl rfl];have hc:=PD p fs;have he:=Dz w ev pl;rw [hp] at hc;rw [Prg.c] at hc he;simp [HB,Prg.c,Envt.ce,hc];refine cC p.Xo.length (fun i E h=>look 17 E=some (.slice 2 (p.Xo.map Xi.c))/\look 18 E=some (a7 p.Xo.length)/\look 19 E=some (a7 i)/\look 2 E=some (.iptr 9 [p.c] 0 0)/\look 3 E=some (.iptr 4 [e.c] 0 0)/\h.objs=[]) (fun (r:Option Rt)=>r=some (.val (.bool true))) ?_ ?_ 0 _ _ (Qc _) ?_
 rotate_left 2
 ·exact ⟨by simp,by simp,by simp,by simp [Prg.c],by simp [Envt.ce],rfl⟩
 ·rintro i E ⟨objs,n⟩ K hi hK ⟨e17,e18,e19,e2,e3,h⟩ ih;cases h;have hw:IntKind.wrap .i64 ((i:Int)+1)=((i+1:Nat):Int):=aQ (by omega) (by have:=fs.h;omega);have hg:=Qd hi;generalize hx:p.Xo[i]=g at*;have hh:=NJ g (fs.hn _ hg) (fs.hf _ hg);rw [hd _ hg,Xi.c] at hh;simp [lG,Xi.c,e17,e18,e19,hi,hx,hw,hh];refine ih _ _ ?_;exact ⟨by simp [e17],by simp [e18],by simp,by simp [e2],by simp [e3],rfl⟩
 ·rintro E ⟨objs,n⟩ K hK ⟨e17,e18,e19,e2,e3,h⟩;cases h;rw [Envt.ce] at he e3;rw [Prg.c] at e2;simp [lG,e18,e19] at hK ⊢;simp [r9,hK,e2,e3,he]
def wdat (bs:List Bool):List Int:=byts (bs.length / 8) bs++(if bs.length % 8=0 then [] else [byt (bs.drop (8*(bs.length / 8)))*2^(8 - bs.length % 8)])
theorem LG:∀(m:Nat) (l:List Bool),(byts m l).length=m
 | 0,_=>rfl
 | m+1,l=>by simp [byts,LG m]
theorem ut:∀(m:Nat) (a b:List Bool),8*m<=a.length->byts m (a++b)=byts m a
 | 0,_,_,_=>rfl
 | m+1,a,b,h=>by
  simp only [byts];rw [List.take_append_of_le_length (by omega),TC (by omega),ut m _ _ (by rw [DW];omega)]
theorem dm:∀(m:Nat) (l:List Bool),byts (m+1) l=byts m l++[byt ((l.drop (8*m)).take 8)]
 | 0,l=>by simp [byts]
 | m+1,l=>by
  rw [byts,dm m,byts];simp only [oY,F5];rw [show 8+8*m=8*(m+1) by omega]
theorem ur (l:List Bool) (b:Bool):byt (l++[b])=2*byt l+b2i b:=by simp [byt,OI]
theorem QK (b:Bool):0<=b2i b/\b2i b<=1:=by cases b<;>simp [b2i]
theorem P9:∀(l:List Bool) (a:Int),0<=a->0<=l.foldl (fun n b=>2*n+b2i b) a/\l.foldl (fun n b=>2*n+b2i b) a<(a+1)*2^l.length
 | [],a,h=>by simp;omega
 | b::l,a,h=>by
  have hb:=QK b;have ih:=P9 l (2*a+b2i b) (by omega);refine ⟨ih.1,Int.lt_of_lt_of_le ih.2 ?_⟩;rw [AQ,Int.pow_succ,show (a+1)*(2^l.length*2)=(2*a+2)*2^l.length by rw [Int.mul_comm (2^l.length) 2,<- Int.mul_assoc];congr 1;omega];exact Int.mul_le_mul_of_nonneg_right (by omega) (zB (yR _))
theorem PA (l:List Bool):0<=byt l/\byt l<2^l.length:=by
 have:=P9 l 0 (by omega);simpa [byt] using this
theorem Cc:∀k:Fin 8,∀v:Fin 128,∀b:Fin 2,v.1<2^k.1->ior .u8 (((v.1*2^(8 - k.1):Nat):Int)) (ishl .u8 ((b.1:Nat):Int) (7 - ((k.1:Nat):Int)))=(((2*v.1+b.1)*2^(7 - k.1):Nat):Int):=by decide+kernel
theorem Hw {k:Nat} (hk:k<8) {v b:Int} (hv:0<=v/\v<2^k) (hb:0<=b/\b<=1):ior .u8 (v*2^(8 - k)) (ishl .u8 b (7 - (k:Int)))=(2*v+b)*2^(7 - k):=by
 obtain ⟨n,rfl⟩:=f9 hv.1;obtain ⟨c,rfl⟩:=f9 hb.1;have h1:n<2^k:=by have:=hv.2;rw [<- uS] at this;omega
 have h2:2^k<=2^7:=AM (by decide) (by omega);have:=Cc ⟨k,hk⟩ ⟨n,by omega⟩ ⟨c,by omega⟩ h1;simp only [Int.natCast_mul,Int.natCast_add,uS] at this;exact this
theorem JN (bs:List Bool):(wdat bs).length=(bs.length+7) / 8:=by
 unfold wdat;rw [sR,LG];split<;>simp<;>omega
theorem wu:wdat []=[]:=by simp [wdat,byts]
def CZ (bs:List Bool):Int:=byt (bs.drop (8*(bs.length / 8)))
theorem Cj (bs:List Bool):0<=CZ bs/\CZ bs<2^(bs.length % 8):=by
 have:=PA (bs.drop (8*(bs.length / 8)));rw [DW,show bs.length - 8*(bs.length / 8)=bs.length % 8 by omega] at this;exact this
theorem uj (bs:List Bool) (b:Bool):wdat (bs++[b])=byts (bs.length / 8) bs++[(2*CZ bs+b2i b)*2^(7 - bs.length % 8)]:=by
 have e1:=ut (bs.length / 8) bs [b] (by omega);have e2:byt ((bs++[b]).drop (8*(bs.length / 8)))=2*CZ bs+b2i b:=by
  rw [TC (by omega),ur];rfl
 unfold wdat;rw [sR,TE];by_cases z:(bs.length+1) % 8=0
 ·rw [a9 z,KC,show (bs.length+1) / 8=bs.length / 8+1 by omega,dm,e1,Qo (by rw [DW,sR,TE];omega),e2,show 7 - bs.length % 8=0 by omega];simp
 ·rw [QA z,show (bs.length+1) / 8=bs.length / 8 by omega,e1,e2,show 8 - (bs.length+1) % 8=7 - bs.length % 8 by omega]
def wpre (bs:List Bool):List Int:=byts (bs.length / 8) bs++[CZ bs*2^(8 - bs.length % 8)]
theorem Oi (bs:List Bool):wpre bs=if bs.length % 8=0 then wdat bs++[0] else wdat bs:=by
 unfold wpre wdat;split
 ·rename_i z;have:bs.drop (8*(bs.length / 8))=[]:=List.drop_eq_nil_of_le (by omega);simp [CZ,this,byt]
 ·rfl
theorem Gi (bs:List Bool):(wpre bs).length=bs.length / 8+1:=by simp [wpre,LG]
theorem Gh (bs:List Bool) (h:bs.length / 8<(wpre bs).length):(wpre bs)[bs.length / 8]=CZ bs*2^(8 - bs.length % 8):=by
 simp [wpre,LG]
theorem Gj (bs:List Bool) (b:Bool):(wpre bs).set (bs.length / 8) ((2*CZ bs+b2i b)*2^(7 - bs.length % 8))=wdat (bs++[b]):=by
 rw [uj,wpre,List.set_append_right _ _ (by rw [LG];exact Qb _),LG,Nat.sub_self];rfl
theorem ED (v:Int):∀w,(iQ v w).length=w
 | 0=>rfl
 | w+1=>by simp [iQ,ED v w]
theorem dk (v:Int):∀(w i:Nat) (h:i<(iQ v w).length),(iQ v w)[i]=decide (v / 2^(w - 1 - i) % 2=1)
 | 0,i,h=>by simp [iQ] at h
 | w+1,0,_=>rfl
 | w+1,i+1,h=>by
  simp only [iQ,List.getElem_cons_succ];rw [dk v w i,show w+1 - 1 - (i+1)=w - 1 - i by omega]
structure WM (O:List (Nat×AO)) (id:Nat) (D:AV) (bs:List Bool):Prop where
 l:look id O=some (.row 3 [[D,a7 bs.length,.bool true]])
 d:NRw O 0 D ((wdat bs).map c8)
def NB (z:Nat) (es:List (List AV)):Prop:=∀l:List Int,AO.row z es≠AO.row 1 (l.map c8)
def Fr1 (id:Nat) (O O':List (Nat×AO)):Prop:=∀j z es,NB z es->j≠id->look j O=some (.row z es)->look j O'=some (.row z es)
def WrP (id N:Nat) (O:List (Nat×AO)) (bs:List Bool) (r:Option (Rt×AH)):Prop:=
 ∃O' N' D,r=some (.val (a7 0),⟨O',N'⟩)/\WM O' id D bs/\Fr1 id O O'/\Tail O' N'/\NR O'/\N<=N'
structure WBI (id N:Nat) (O:List (Nat×AO)) (v:Int) (w:Nat) (bs:List Bool) (i:Nat) (E:Env) (O':List (Nat×AO)) (N':Nat) (D:AV):Prop where
 e0:look 0 E=some (.ptr id 3 0 0)
 e1:look 1 E=some (.int .u32 v)
 e2:look 2 E=some (a7 w)
 e31:look 31 E=some (a7 w)
 e32:look 32 E=some (a7 i)
 m:WM O' id D (bs++(iQ v w).take i)
 f:Fr1 id O O'
 t:Tail O' N'
 r:NR O'
 n:N<=N'
theorem Ov {v:Int} {w i:Nat} (hv:0<=v/\v<2^w) (hw:w<=32) (hi:i<w):IntKind.wrap .u8 (iand .u32 (ishr .u32 v ((w - 1 - i:Nat):Int)) 1)=b2i ((iQ v w)[i]'(by rw [ED];exact hi)):=by
 rw [SJ hv.1 (by omega) (by omega),dk];have h2:=nW (V6 hv (w - 1 - i)) hw;rw [show ((w - 1 - i:Nat):Int).toNat=w - 1 - i by omega];have h3:=sd h2 (k:=1) (by decide);rw [show ((2:Int)^1 - 1)=1 by decide,show ((2:Int)^1)=2 by decide] at h3;rw [h3];generalize v / 2^(w - 1 - i)=x;by_cases z:x % 2=1
 ·rw [z];decide
 ·rw [show x % 2=0 by omega];decide
theorem Og {id N:Nat} {O:List (Nat×AO)} {v:Int} {w:Nat} {bs:List Bool} (hv:0<=v/\v<2^w) (hw:w<=32) (hb:bs.length+w<2^40) {E:Env} {O':List (Nat×AO)} {N':Nat} {D:AV} (h:WBI id N O v w bs 0 E O' N' D):
  WrP id N O (bs++iQ v w) (go Φ (finC vQ.results) [.c (.loop cU),.b 1,.c iA] .normal ⟨E,⟨O',N'⟩⟩):=by
 refine cC w (fun i E h=>∃O' N' D,h=⟨O',N'⟩/\WBI id N O v w bs i E O' N' D) _ ?_ ?_ 0 _ _ (Qc _) ⟨_,_,_,rfl,h⟩
 ·rintro i E _ K hi hK ⟨O',N',D,rfl,h⟩ ih;obtain ⟨e0,e1,e2,e31,e32,m,f,t,r,n⟩:=h;have hil:i<(iQ v w).length:=by rw [ED];exact hi
  have hbe:=Ov hv hw hi;have htk:(iQ v w).take (i+1)=(iQ v w).take i++[(iQ v w)[i]]:=Qh hil;have hlen:(bs++(iQ v w).take i).length=bs.length+i:=by simp [ED];omega
  have hap:bs++(iQ v w).take (i+1)=(bs++(iQ v w).take i)++[(iQ v w)[i]]:=by rw [htk,AN]
  generalize (iQ v w)[i]=b at hbe htk hap;generalize hcs:bs++(iQ v w).take i=cs at*;have hw1:=aF i (by omega);have hw2:IntKind.wrap .i64 (((cs.length:Nat):Int)+1)=((cs.length+1:Nat):Int):=aQ;have hw3:IntKind.wrap .i64 ((w:Int) - 1)=((w - 1:Nat):Int):=by rw [aQ];omega
  have hw4:IntKind.wrap .i64 (((w - 1:Nat):Int) - i)=((w - 1 - i:Nat):Int):=by rw [aQ];omega
  have d1:IntKind.wrap .i64 ((cs.length:Int) / 8)=((cs.length / 8:Nat):Int):=by
   have:(cs.length:Int) / 8=((cs.length / 8:Nat):Int):=rfl;rw [this,aQ]
  have d2:IntKind.wrap .i64 (7 - ((cs.length % 8:Nat):Int))=7 - ((cs.length % 8:Nat):Int):=aQ;have d0:(cs.length:Int).tmod 8=((cs.length % 8:Nat):Int):=rfl;have hor:=Hw (k:=cs.length % 8) (Nat.mod_lt _ (by decide)) (Cj cs) (QK b);have ps:=Gj cs b;have pl:=Gi cs;have pg:=Gh cs;have pe:=Oi cs;obtain ⟨li,ld⟩:=m;have tt:∀k,look (N'+k) O'=none:=fun k=>t _ (by omega)
  have t0:=t N' (Qb _);have fin:∀{E2:Env} {H2:List (Nat×AO)} {N2:Nat} {D2:AV},(∀j,j=0\/j=1\/j=2\/j=31->look j E2=look j E)->look 32 E2=some (a7 (i+1:Nat))->WM H2 id D2 (cs++[b])->Fr1 id O' H2->Tail H2 N2->NR H2->N'<=N2->
    WrP id N O (bs++iQ v w) (go Φ (finC vQ.results) K .normal ⟨E2,⟨H2,N2⟩⟩):=fun {E2 H2 N2 D2} hE h32 hm hf ht hr hn=>
   ih _ _ ⟨_,_,D2,rfl,by rw [hE 0 (by simp),e0],by rw [hE 1 (by simp),e1],by rw [hE 2 (by simp),e2],by rw [hE 31 (by simp),e31],h32,by rw [hap];exact hm,fun j z es h1 h2 h3=>hf j z es h1 h2 (f j z es h1 h2 h3),ht,hr,by omega⟩
  have wd:∀{H2:List (Nat×AO)} {dd n:Nat},n=(wdat (cs++[b])).length->look id H2=some (.row 3 [[.row dd 1 0 n,a7 (cs.length+1),.bool true]])->look dd H2=some (.row 1 ((wdat (cs++[b])).map c8))->WM H2 id (.row dd 1 0 n) (cs++[b]):=fun {H2 dd n} hn h1 h2=>
   ⟨by rw [h1];simp,.inr ⟨dd,by rw [hn];simp,h2,Qc _,fun h=>by
    have:=congrArg List.length h;rw [tH,JN] at this;simp at this;omega⟩⟩
  have wl:(wdat (cs++[b])).length=cs.length / 8+1:=by rw [<- ps,List.length_set,pl]
  by_cases z:cs.length % 8=0
  ·rw [a9 z] at pe;have lt2:∀k,k<2->N'+k<N'+2:=fun k h=>by omega
   rcases ld with ⟨hz,rfl⟩ | ⟨dd,rfl,ld,_,hne⟩
   ·have hc0:cs=[]:=by
     have:=congrArg List.length hz;rw [tH,JN] at this;simp at this;exact Qg (by omega)
    subst hc0;have hor0:ior .u8 0 (ishl .u8 (b2i b) 7)=b2i b*128:=by cases b<;>decide
    have hwb:wdat ([]++[b])=[b2i b*128]:=by rw [uj];simp [byts,CZ,byt]
    have fi:=fun k=>eR (n:=N'+k) t li (by omega)
    simp only [KB] at li hw2 d1 d2;have w0:IntKind.wrap .i64 0=0:=rfl;have w1:IntKind.wrap .i64 1=1:=rfl;have w7:IntKind.wrap .i64 7=7:=rfl;have iq:∀k,(id == N'+k)=false:=fun k=>by simp [fi k]
    simp [cU,e0,e1,e2,e31,e32,hi,li,aA,aC,hw1,hw3,hw4,hbe,t0,tt,cZ,fi,iq,w0,w1,w7,nG,r.eq,r.sw,uU li,eY,hor0];refine fin (by rintro j (rfl | rfl | rfl | rfl)<;>simp) (by simp) (wd (dd:=N'+1) (n:=1) (by rw [hwb];rfl) ?_ ?_) ?_ ?_ ?_ (KA _ _)
    ·rw [aA,a9 rfl,aC,aA,a9 rfl,li];rfl
    ·rw [aA,QA (fi 1).2,aC,aA,QA (fi 1).2,tt,hwb];simp [c8]
    ·intro j z es h1 h2 h3;rw [aA,QA h2,aC,aA,QA h2,h3];rfl
    ·exact bB (Tail_append_iff.2 ⟨bB (t.mono (by omega)),Tail_cons_iff.2 ⟨lt2 0 (by decide),Tail_cons_iff.2 ⟨lt2 1 (by decide),Tail.nil _⟩⟩⟩)
    ·exact NR.setl (by simp) ((NR.setl (by simp) r).app (bO (by simp) (.one (by simp))))
   ·have idd:¬id=dd/\¬dd=id:=by
     have:=aW li ld (by simp);exact ⟨this,fun e=>this e.symm⟩
    have fi:=fun k=>eR (n:=N'+k) t li (by omega)
    have fd:=fun k=>eR (n:=N'+k) t ld (by omega)
    have li1:look id (dropl dd O')=_:=(jA idd.1 O').trans li;have hcat:(wdat cs).map c8++[[AV.int .u8 0]]=(wpre cs).map c8:=by rw [pe,yZ];rfl
    have hlt:cs.length / 8<(wpre cs).length:=by omega
    have iq:∀k,(id == N'+k)=false:=fun k=>by simp [fi k]
    have hbd:(wdat cs).length+1<=70368744177664:=by rw [JN];omega
    have hlt3:((cs.length / 8:Nat):Int)<((wdat cs).length:Int)+1:=by rw [JN];omega
    have w7:IntKind.wrap .i64 7=7:=rfl;have wl8:(wdat cs).length=cs.length / 8:=by rw [JN];omega
    generalize hm8:cs.length / 8=m8 at*;rw [z] at hor d2 d0 ps pg;simp only [Int.ofNat_zero,Nat.sub_zero,Int.sub_zero] at hor ps pg;simp [cU,c8,e0,e1,e2,e31,e32,hi,li,ld,aA,aC,jA,d0,hw1,hw2,hw3,hw4,d1,d2,hbe,idd,iq,hlt,pg,hor,eY,r.eq,t0,tt,cZ,fi,fd,hcat,hbd,hlt3,w7,nG,D8 ld,uU li1];rw [show (2:Int)^8=256 by decide] at hor;have es:((wpre cs).map c8).set m8 [.int .u8 (ior .u8 (CZ cs*256) (ishl .u8 (b2i b) 7))]=(wdat (cs++[b])).map c8:=by rw [<- ps,uX,hor];rfl
    rw [es];refine fin (by rintro j (rfl | rfl | rfl | rfl)<;>simp) (by simp) (wd (dd:=N'+1) (n:=(wdat cs).length+1) (by rw [wl,wl8]) ?_ ?_) ?_ ?_ ?_ (KA _ _)
    ·rw [aA,a9 rfl,aC,aA,a9 rfl,li1];rfl
    ·rw [aA,QA (fi 1).2,aC,aA,QA (fi 1).2,Zb _ (tt 1)];simp
    ·intro j z es h1 h2 h3;rw [aA,QA h2,aC,aA,QA h2,jA (aW h3 ld (h1 _)),h3];rfl
    ·exact bB (Tail_append_iff.2 ⟨bB (JF (t.mono (by omega))),Tail_cons_iff.2 ⟨lt2 0 (by decide),Tail_cons_iff.2 ⟨lt2 1 (by decide),Tail.nil _⟩⟩⟩)
    ·exact NR.setl (by simp) ((NR.setl (by simp) (NR.dropl r)).app (bO (by simp) (.one (by simp))))
  ·rw [QA z] at pe;rcases ld with ⟨hz,_⟩ | ⟨dd,rfl,ld,_,hne⟩
   ·exfalso;have:=congrArg List.length hz;rw [tH,JN] at this;simp at this;omega
   have zi:¬((cs.length % 8:Nat):Int)=0:=by omega
   have idd:¬id=dd/\¬dd=id:=by
    have:=aW li ld (by simp);exact ⟨this,fun e=>this e.symm⟩
   rw [pe] at ps pl pg;have hlt:cs.length / 8<(wdat cs).length:=by omega
   have iq:(id == dd)=false:=by simp [idd]
   have q7:(cs.length % 8:Nat)<=7:=by omega
   have q7':((cs.length % 8:Nat):Int)<=7:=by omega
   generalize hm8:cs.length / 8=m8 at*;generalize hk8:cs.length % 8=k8 at*;simp [cU,c8,e0,e1,e2,e31,e32,hi,li,ld,aA,d0,z,hw1,hw2,hw3,hw4,d1,d2,hbe,idd,iq,hlt,pg,q7,q7',hor,eY,r.eq,r.sw];have es:((wdat cs).map c8).set m8 [.int .u8 ((2*CZ cs+b2i b)*2^(7 - k8))]=(wdat (cs++[b])).map c8:=by rw [<- ps,uX];rfl
   rw [es];refine fin (by rintro j (rfl | rfl | rfl | rfl)<;>simp) (by simp) (wd (dd:=dd) (n:=(wdat cs).length) (by rw [wl,pl]) ?_ ?_) ?_ (bB (bB t)) (NR.setl (by simp) (NR.setl (by simp) r)) (Qb _)
   ·rw [aA,a9 rfl,aA,QA idd.1,li];rfl
   ·rw [aA,QA idd.2,aA,a9 rfl,ld];rfl
   ·intro j z es h1 h2 h3;rw [aA,QA h2,aA,QA (aW h3 ld (h1 _)),h3]
 ·rintro E _ K hK ⟨O',N',D,rfl,h⟩;obtain ⟨e0,e1,e2,e31,e32,m,f,t,r,n⟩:=h;rw [Qo (by rw [ED];exact Qb _)] at m;simp [vQ,cU,iA,e31,e32] at hK ⊢;simp [iA,hK];exact ⟨O',N',D,rfl,m,f,t,r,n⟩
theorem wt {id N:Nat} {O:List (Nat×AO)} {v:Int} {w:Nat} {bs:List Bool} (h1:1<=w) (hw:w<=32) (hv:0<=v/\v<2^w) (hb:bs.length+w<2^40) {D:AV} (m:WM O id D bs) (t:Tail O N) (r:NR O):
  WrP id N O (bs++iQ v w) (aG Φ 364 [.ptr id 3 0 0,.int .u32 v,a7 w] ⟨O,N⟩):=by
 rw [eQ rfl rfl];have hf:=NH v w;have hfit:fits v w=true:=by
  have wb:wBad (w:Int)=false:=by simp [wBad];omega
  have:=hv.2;simp [fits,bC,wb];omega
 rw [hfit] at hf;have a1:¬(w:Int)<1:=by omega
 have a2:¬32<w:=by omega
 have a3:¬w=0:=by omega
 have li:=m.l;simp [vQ,li,a1,a2,a3,hf];refine Og hv hw hb (D:=D) ?_;exact ⟨by simp,by simp,by simp,by simp,by simp,by simpa using m,fun j z es _ _ h=>h,t,r,Qb _⟩
theorem PZ {O:List (Nat×AO)} {N:Nat} (hT:Tail O N):aG Φ 296 [] ⟨O,N⟩=some (.val (.ptr N 3 0 0),⟨O++[(N,.row 3 [[.Xt 1 [],a7 0,.bool true]])],N+1⟩):=by
 rw [eQ rfl rfl];have t0:=hT N (Qb _);simp [HC,t0]
theorem Ur {O:List (Nat×AO)} {N:Nat} (hT:Tail O N):WM (O++[(N,.row 3 [[.Xt 1 [],a7 0,.bool true]])]) N (.Xt 1 []) []:=
 ⟨by rw [aC,hT N (Qb _)];simp,.inl ⟨by rw [wu];rfl,rfl⟩⟩
def BtP (N:Nat) (O:List (Nat×AO)) (bs:List Bool) (r:Option (Rt×AH)):Prop:=
 ∃L N',r=some (.val (.tup [.app 1 ((wdat bs).map c8) N,a7 0]),⟨O++L,N'⟩)/\Tail (O++L) N'/\NR (O++L)/\N<=N'/\look N (O++L)=some (.tok 1 (wdat bs).length)
theorem ge {id N:Nat} {O:List (Nat×AO)} {bs:List Bool} {D:AV} (m:WM O id D bs) (t:Tail O N) (r:NR O) (z:bs.length % 8=0) (hb:bs.length<2^40):BtP N O bs (aG Φ 299 [.ptr id 3 0 0] ⟨O,N⟩):=by
 rw [eQ rfl rfl];have t0:=t N (Qb _);have d0:(bs.length:Int).tmod 8=0:=by
  have:(bs.length:Int).tmod 8=((bs.length % 8:Nat):Int):=rfl;rw [this,z];rfl
 have hl:(wdat bs).length<=70368744177664:=by rw [JN];omega
 obtain ⟨li,ld⟩:=m;have fin:BtP N O bs (some (.val (.tup [.app 1 ((wdat bs).map c8) N,a7 0]),⟨O++[(N,.tok 1 (wdat bs).length)],N+1⟩)):=
  ⟨_,_,rfl,Tail_append_iff.2 ⟨t.mono (by omega),Tail_cons_iff.2 ⟨by omega,Tail.nil _⟩⟩,r.app (.one (by simp)),by omega,by rw [aC,t0];simp⟩
 rcases ld with ⟨hz,rfl⟩ | ⟨dd,rfl,ld,_,hne⟩
 ·have hw:wdat bs=[]:=by simpa using hz
  rw [hw] at fin;simp [BR,li,d0,t0];simpa using fin
 ·have hb2:∀l:List Int,anyL (bor 40) (l.map c8).flatten=false:=by
   intro l
   induction l with
   | nil=>simp
   | cons x l ih=>simp [c8];exact ih
  have hs:mapO (w6 ⟨O,N⟩) ((wdat bs).map c8)=some ((wdat bs).map c8):=tA (g:=c8) (n:=40) (H:=⟨O,N⟩) (fun x=>by simp [c8]) (wdat bs);have al:jD 1 ((wdat bs).map c8)=true:=vU 1 c8 _ fun x=>by simp
  simp [BR,li,d0,t0,ld,hl,hb2,hs,al];exact fin
theorem TY:∀(l:List Fld) (v:List Int) (i:Nat) (h1:i<l.length) (h2:i<v.length),oD (l.take (i+1)) (v.take (i+1))=oD (l.take i) (v.take i)++iQ v[i] l[i].Yc.toNat
 | f::l,x::v,0,_,_=>by simp [oD]
 | f::l,x::v,i+1,h1,h2=>by
  simp only [List.take_succ_cons,oD,List.getElem_cons_succ,AN];rw [TY l v i (by simpa using h1) (by simpa using h2)]
theorem MP:∀(l:List Fld) (v:List Int),v.length=l.length->(oD l v).length=wN l
 | [],[],_=>rfl
 | f::l,x::v,h=>by
  simp only [oD,sR,ED,wN,uP,MD];rw [MP l v (by simpa using h)];rfl
def fitF (l:List Fld) (v:List Int):Prop:=v.length=l.length/\∀(i:Nat) (h1:i<l.length) (h2:i<v.length),0<=v[i]/\v[i]<2^l[i].Yc.toNat
theorem Rk:a8 Φ 401 [.slice 1 [[a7 0],[a7 0]]]=some (.val (a7 0)):=by
 rw [aB rfl rfl];have w1:IntKind.wrap .i64 1=1:=rfl;have w2:IntKind.wrap .i64 2=2:=rfl;simp [J5];rw [aT];simp [iD,w1];rw [aT];simp [iD,w1,w2];rw [aT];simp [iD,s6]
structure PKI (l:List Fld) (v:List Int) (id i:Nat) (E:Env) (O:List (Nat×AO)) (N:Nat) (D:AV):Prop where
 e1:look 1 E=some (.slice 1 (l.map fun f=>[a7 f.Yc]))
 e6:look 6 E=some (.ptr id 3 0 0)
 e7:look 7 E=some (a7 0)
 e16:look 16 E=some (.slice 1 (v.map c32))
 e17:look 17 E=some (a7 l.length)
 e18:look 18 E=some (a7 i)
 m:WM O id D (oD (l.take i) (v.take i))
 t:Tail O N
 r:NR O
theorem Ln {l:List Fld} {v:List Int} (hl:l.length<=12) (hw:∀f∈l,1<=f.Yc/\f.Yc<=32) (hs:wN l % 8=0) (fv:fitF l v):∃b,a8 Φ 363 [.slice 1 (v.map c32),.slice 1 (l.map fun f=>[a7 f.Yc])]=some (.val (.tup [b,a7 0])):=by
 rw [aB rfl rfl];have nw:=PZ (O:=[]) (N:=0) (Tail.nil _);obtain ⟨fl,fv⟩:=fv;have hwN:∀i,wN (l.take i)<=384:=by
  have aux:∀l:List Fld,(∀f∈l,1<=f.Yc/\f.Yc<=32)->wN l<=32*l.length:=by
   intro l
   induction l with
   | nil=>intro _;simp [wN]
   | cons f l ih=>
    intro h;have h1:=ih fun g hg=>h g (by simp [hg])
    have h2:=h f (by simp);simp only [wN,uP,MD,AQ] at h1 ⊢;omega
  intro i;have:=aux (l.take i) fun f hf=>hw f (Qu hf)
  have h2:(l.take i).length<=l.length:=by rw [iF];omega
  omega
 simp [C2,fl,nw];refine cC l.length (fun i E h=>∃O N D id,h=⟨O,N⟩/\PKI l v id i E O N D) (fun (r:Option Rt)=>∃b,r=some (.val (.tup [b,a7 0]))) ?_ ?_ 0 _ _ (Qc _) ?_
 rotate_left 2
 ·refine ⟨_,_,.Xt 1 [],0,rfl,?_⟩;exact ⟨by simp,by simp,by simp,by simp,by simp,by simp,by simpa [oD] using Ur (O:=[]) (N:=0) (Tail.nil _),Tail_cons_iff.2 ⟨by omega,Tail.nil _⟩,.one (by simp)⟩
 ·rintro i E _ K hi hK ⟨O,N,D,id,rfl,h⟩ ih;obtain ⟨e1,e6,e7,e16,e17,e18,m,t,r⟩:=h;have hiv:i<v.length:=by omega
  have hw1:=aF i (by omega);have hf:=hw l[i] (Qd hi);have st:=TY l v i hi hiv;have ln:=MP (l.take i) (v.take i) (by simp [fl]);have hN:=hwN i;obtain ⟨O2,N2,D2,hr,m2,_,t2,r2,_⟩:=wt (w:=l[i].Yc.toNat) (v:=v[i]) (by omega) (by omega) (fv i hi hiv) (by omega) m t r;rw [show ((l[i].Yc.toNat:Nat):Int)=l[i].Yc by omega] at hr;rw [<- st] at m2;have f0:=Rk;generalize hx:l[i]=x at*;generalize hy:v[i]=y at*;simp [lY,c32,e1,e6,e7,e16,e17,e18,hi,hiv,hx,hy,hw1,hr,f0];refine ih _ _ ⟨O2,N2,D2,id,rfl,?_⟩;exact ⟨by simp [e1],by simp [e6],by simp,by simp [e16],by simp [e17],by simp,m2,t2,r2⟩
 ·rintro E _ K hK ⟨O,N,D,id,rfl,h⟩;obtain ⟨e1,e6,e7,e16,e17,e18,m,t,r⟩:=h;rw [fF,Qo (by omega)] at m;have ln:=MP l v fl;have hN:=hwN l.length;rw [fF] at hN;obtain ⟨L,N2,hr,-,-,-,-⟩:=ge m t r (by omega) (by omega);simp [C2,lY,e17,e18] at hK ⊢;simp [rQ,hK,e6,hr]
structure HWI (l:List Fld) (v:List Int) (id N:Nat) (O:List (Nat×AO)) (bs:List Bool) (i:Nat) (E:Env) (O':List (Nat×AO)) (N':Nat) (D:AV):Prop where
 e1:look 1 E=some (.slice 1 (v.map c32))
 e2:look 2 E=some (.ptr id 3 0 0)
 e44:look 44 E=some (.slice 2 (l.map Fld.c))
 e45:look 45 E=some (a7 l.length)
 e46:look 46 E=some (a7 i)
 m:WM O' id D (bs++oD (l.take i) (v.take i))
 f:Fr1 id O O'
 t:Tail O' N'
 r:NR O'
 n:N<=N'
theorem wN_12 {l:List Fld} (hl:l.length<=12) (hw:∀f∈l,1<=f.Yc/\f.Yc<=32) (i:Nat):wN (l.take i)<=384:=by
 have aux:∀l:List Fld,(∀f∈l,1<=f.Yc/\f.Yc<=32)->wN l<=32*l.length:=by
  intro l
  induction l with
  | nil=>intro _;simp [wN]
  | cons f l ih=>
   intro h;have h1:=ih fun g hg=>h g (by simp [hg])
   have h2:=h f (by simp);simp only [wN,uP,MD,AQ] at h1 ⊢;omega
 have:=aux (l.take i) fun f hf=>hw f (Qu hf)
 have h2:(l.take i).length<=l.length:=by rw [iF];omega
 omega
theorem Jj {l:List Fld} {v:List Int} (hl:l.length<=12) (hw:∀f∈l,1<=f.Yc/\f.Yc<=32) (fv:fitF l v) {id N:Nat} {O:List (Nat×AO)} {bs:List Bool} (hb:bs.length<2^39) {E:Env} {O':List (Nat×AO)} {N':Nat} {D:AV} (h:HWI l v id N O bs 0 E O' N' D):
  WrP id N O (bs++oD l v) (go Φ (finC xY.results) [.c (.loop gV),.b 0,.c lH] .normal ⟨E,⟨O',N'⟩⟩):=by
 obtain ⟨fl,fv⟩:=fv;refine cC l.length (fun i E h=>∃O' N' D,h=⟨O',N'⟩/\HWI l v id N O bs i E O' N' D) _ ?_ ?_ 0 _ _ (Qc _) ⟨_,_,_,rfl,h⟩
 ·rintro i E _ K hi hK ⟨O',N',D,rfl,h⟩ ih;obtain ⟨e1,e2,e44,e45,e46,m,f,t,r,n⟩:=h;have hiv:i<v.length:=by omega
  have hw1:=aF i (by omega);have hf:=hw l[i] (Qd hi);have st:=TY l v i hi hiv;have ln:=MP (l.take i) (v.take i) (by simp [fl]);have hN:=wN_12 hl hw i;have t0:=t N' (Qb _);obtain ⟨O2,N2,D2,hr,m2,f2,t2,r2,n2⟩:=wt (N:=N'+1) (w:=l[i].Yc.toNat) (v:=v[i]) (by omega) (by omega) (fv i hi hiv) (by rw [sR];omega) m (t.mono (by omega)) r;rw [show ((l[i].Yc.toNat:Nat):Int)=l[i].Yc by omega] at hr;rw [AN,<- st] at m2;generalize hx:l[i]=x at*;generalize hy:v[i]=y at*;simp [gV,Fld.c,c32,e1,e2,e44,e45,e46,hi,hiv,hx,hy,hw1,t0,hr];refine ih _ _ ⟨O2,N2,D2,rfl,?_⟩;exact ⟨by simp [e1],by simp [e2],by simp [e44],by simp [e45],by simp,m2,fun j z es h1 h2 h3=>f2 j z es h1 h2 (f j z es h1 h2 h3),t2,r2,by omega⟩
 ·rintro E _ K hK ⟨O',N',D,rfl,h⟩;obtain ⟨e1,e2,e44,e45,e46,m,f,t,r,n⟩:=h;rw [fF,Qo (by omega)] at m;simp [xY,gV,e45,e46] at hK ⊢;simp [lH,hK];exact ⟨O',N',D,rfl,m,f,t,r,n⟩
theorem Ao {h:Xi} (hn:h.name.length<2^40) (hf:∀f∈h.Xz,f.name.length<2^40) (e:hdrE h=0) {v:List Int} (fv:fitF h.Xz v) {id N:Nat} {O:List (Nat×AO)} {bs:List Bool} (hb:bs.length<2^39) (hz:bs.length % 8=0) {D:AV} (m:WM O id D bs) (t:Tail O N) (r:NR O):
  WrP id N O (bs++oD h.Xz v) (aG Φ 298 [.agg h.c,.slice 1 (v.map c32),.ptr id 3 0 0] ⟨O,N⟩):=by
 rw [eQ rfl rfl];have vh:=vhdr e;have hc:=NJ h hn hf;rw [e] at hc;have hwd:=fu h (by have:=vh.n;omega);have hs:wN h.Xz % 8=0:=by have:=vh.s;rw [OB vh.w] at this;omega
 obtain ⟨b,hp⟩:=Ln vh.n.2 vh.w hs fv;have t0:=t N (Qb _);have t1:Tail (O++[(N,.row 2 [h.c])]) (N+1):=Tail_append_iff.2 ⟨t.mono (by omega),Tail_cons_iff.2 ⟨by omega,Tail.nil _⟩⟩;have r1:NR (O++[(N,.row 2 [h.c])]):=r.app (.one (by simp));have m1:WM (O++[(N,.row 2 [h.c])]) id D bs:=⟨bL m.l,m.d.fr fun j _ hj=>bL hj⟩;obtain ⟨L,N2,hr,t2,r2,n2,-⟩:=ge m1 t1 r1 hz (by omega);have l2:look N ((O++[(N,.row 2 [h.c])])++L)=some (.row 2 [h.c]):=bL (by rw [aC,t0];simp);have m2:WM ((O++[(N,.row 2 [h.c])])++L) id D bs:=⟨bL m1.l,m1.d.fr fun j _ hj=>bL hj⟩;have f2:Fr1 id O ((O++[(N,.row 2 [h.c])])++L):=fun j z es _ _ hj=>bL (bL hj)
 generalize (O++[(N,.row 2 [h.c])])++L=O2 at*;have fl:=fv.1;rw [Xi.c] at hc hwd hr l2;simp [xY,Xi.c,t0,hc,hr,l2,fl,hwd,hp];refine Jj vh.n.2 vh.w fv hb (D:=D) ?_;exact ⟨by simp,by simp,by simp,by simp,by simp,by simpa [oD] using m2,f2,t2,r2,by omega⟩
end Go.Av
