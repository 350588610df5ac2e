/-
 The fabric program's actions.
-/
import Derived.Test.YtknmfocedphgmaaGreatNS4
set_option linter.unusedVariables false
set_option linter.unusedSimpArgs false
set_option linter.constructorNameAsVariable false
namespace Go.Av
set_option maxRecDepth 8000
theorem fxF:FX pF where
 hw:=fun f h1 h2=>by
  have:f=0\/f=1\/f=2\/f=3:=by omega
  rcases this with rfl | rfl | rfl | rfl<;>decide
 hw0:=by decide
 hw1:=fun f h1 h2=>by
  have:f=0\/f=1:=by omega
  rcases this with rfl | rfl<;>decide
 hh:=by decide
 rg:=⟨_,rfl⟩
theorem okn {n:Nat} (h:n<=255):ok32 0 (n:Int):=⟨by omega,by omega⟩
theorem L0n (a0:Int):evL pF [psV] [] [a0]:=fun e ie=>by
 obtain ⟨b,k0,t0,t1,f0,f1,f2,m0,m1,m2,m3,pay,rfl,-⟩:=ie.x;exact ⟨((0:Nat):Int),okn (by decide),ev0n ..⟩
theorem L0p (a0:Int):evL pF [psV] [⟨3,0,0⟩] [a0]:=fun e ie=>by
 obtain ⟨b,k0,t0,t1,f0,f1,f2,m0,m1,m2,m3,pay,rfl,-⟩:=ie.x;exact ⟨_,LA _ _,ev0p ..⟩
theorem L0c (a0:Int):evL pF [psV] [⟨1,2,8⟩] [a0]:=fun e ie=>by
 obtain ⟨b,k0,t0,t1,f0,f1,f2,m0,m1,m2,m3,pay,rfl,-⟩:=ie.x;exact ⟨((2:Nat):Int),okn (by decide),ev0c ..⟩
theorem L0i (a0:Int):evL pF [psV] [⟨2,-1,0⟩] [a0]:=fun e ie=>by
 obtain ⟨b,k0,t0,t1,f0,f1,f2,m0,m1,m2,m3,pay,rfl,-⟩:=ie.x;exact ⟨_,LA _ _,ev0i ..⟩
theorem L0a (a0:Int):evL pF [psV] [⟨9,0,0⟩,⟨2,-1,3⟩,⟨1,1,16⟩] [a0]:=fun e ie=>by
 obtain ⟨b,k0,t0,t1,f0,f1,f2,m0,m1,m2,m3,pay,rfl,-⟩:=ie.x;exact ⟨_,LA _ _,ev0a ..⟩
theorem L2n (a0 a1:Int):evL pF [psP,psL] [] [a0,a1]:=fun e ie=>by
 obtain ⟨b,k0,t0,t1,f0,f1,f2,m0,m1,m2,m3,pay,rfl,-⟩:=ie.x;exact ⟨((0:Nat):Int),okn (by decide),ev2n ..⟩
theorem L2p (a0 a1:Int):evL pF [psP,psL] [⟨3,0,0⟩] [a0,a1]:=fun e ie=>by
 obtain ⟨b,k0,t0,t1,f0,f1,f2,m0,m1,m2,m3,pay,rfl,-⟩:=ie.x;exact ⟨_,LA _ _,ev2p ..⟩
theorem L2q (a0 a1:Int):evL pF [psP,psL] [⟨3,1,0⟩] [a0,a1]:=fun e ie=>by
 obtain ⟨b,k0,t0,t1,f0,f1,f2,m0,m1,m2,m3,pay,rfl,-⟩:=ie.x;exact ⟨_,LA _ _,ev2q ..⟩
theorem L3n (a0:Int):evL pF [psP] [] [a0]:=fun e ie=>by
 obtain ⟨b,k0,t0,t1,f0,f1,f2,m0,m1,m2,m3,pay,rfl,-⟩:=ie.x;exact ⟨((0:Nat):Int),okn (by decide),ev3n ..⟩
theorem L3p (a0:Int):evL pF [psP] [⟨3,0,0⟩] [a0]:=fun e ie=>by
 obtain ⟨b,k0,t0,t1,f0,f1,f2,m0,m1,m2,m3,pay,rfl,-⟩:=ie.x;exact ⟨_,LA _ _,ev3p ..⟩
theorem L3c (a0:Int):evL pF [psP] [⟨1,1,8⟩] [a0]:=fun e ie=>by
 obtain ⟨b,k0,t0,t1,f0,f1,f2,m0,m1,m2,m3,pay,rfl,-⟩:=ie.x;exact ⟨((1:Nat):Int),okn (by decide),ev3c ..⟩
theorem L4n:evL pF [] [] []:=fun e ie=>by
 obtain ⟨b,k0,t0,t1,f0,f1,f2,m0,m1,m2,m3,pay,rfl,-⟩:=ie.x;exact ⟨((0:Nat):Int),okn (by decide),ev4n ..⟩
theorem L4c:evL pF [] [⟨1,1,1⟩] []:=fun e ie=>by
 obtain ⟨b,k0,t0,t1,f0,f1,f2,m0,m1,m2,m3,pay,rfl,-⟩:=ie.x;exact ⟨((1:Nat):Int),okn (by decide),ev4c ..⟩
theorem ck0:aA Φ j9 [.agg (Prg.c pF),a8 ((0:Nat):Int)]=some (.val (.tup [a8 0,a8 0])):=dT (n:=200) (by kernel_rfl)
theorem ck1:aA Φ j9 [.agg (Prg.c pF),a8 ((1:Nat):Int)]=some (.val (.tup [a8 0,a8 0])):=dT (n:=200) (by kernel_rfl)
theorem ck2:aA Φ j9 [.agg (Prg.c pF),a8 ((2:Nat):Int)]=some (.val (.tup [a8 0,a8 0])):=dT (n:=200) (by kernel_rfl)
theorem ck3:aA Φ j9 [.agg (Prg.c pF),a8 ((3:Nat):Int)]=some (.val (.tup [a8 0,a8 0])):=dT (n:=200) (by kernel_rfl)
theorem ck4:aA Φ j9 [.agg (Prg.c pF),a8 ((4:Nat):Int)]=some (.val (.tup [a8 0,a8 0])):=dT (n:=200) (by kernel_rfl)
def acF (k:Nat):Action:=pF.Xy.getD k default
theorem st0' (a0:Int):∀s∈(acF 0).body,StX pF (acF 0).params [a0] s:=by
 show ∀s∈[(⟨2,⟨0,0⟩,0,1,[],[]⟩:Xg),⟨1,⟨1,0⟩,0,0,[],[⟨3,0,0⟩]⟩,⟨1,⟨0,0⟩,0,0,[],[⟨1,2,8⟩]⟩,⟨4,⟨-1,3⟩,0,0,[⟨2,-1,0⟩],[]⟩,⟨5,⟨0,0⟩,0,0,[⟨2,-1,0⟩],[⟨9,0,0⟩,⟨2,-1,3⟩,⟨1,1,16⟩]⟩],StX pF [psV] [a0] s;simp only [Q1];exact ⟨⟨L0n a0,L0n a0,.inr (.inl ⟨.inl rfl,rfl⟩)⟩,⟨L0n a0,L0p a0,.inl ⟨.inl rfl,.inr (.inr ⟨rfl,.inl rfl⟩)⟩⟩,⟨L0n a0,L0c a0,.inl ⟨.inl rfl,.inr (.inl ⟨rfl,rfl⟩)⟩⟩,⟨L0i a0,L0n a0,.inl ⟨.inr ⟨rfl,rfl⟩,.inl ⟨rfl,.inr (.inr (.inr rfl))⟩⟩⟩,⟨L0i a0,L0a a0,.inr (.inr ⟨rfl,rfl⟩)⟩,by simp⟩
theorem st1':∀s∈(acF 1).body,StX pF (acF 1).params [] s:=by
 show ∀s∈([]:List Xg),StX pF [] [] s;simp
theorem st2' (a0 a1:Int):∀s∈(acF 2).body,StX pF (acF 2).params [a0,a1] s:=by
 show ∀s∈[(⟨1,⟨-1,1⟩,0,0,[],[⟨3,0,0⟩]⟩:Xg),⟨1,⟨1,1⟩,0,0,[],[⟨3,1,0⟩]⟩],StX pF [psP,psL] [a0,a1] s;simp only [Q1];exact ⟨⟨L2n a0 a1,L2p a0 a1,.inl ⟨.inl rfl,.inl ⟨rfl,.inr (.inl rfl)⟩⟩⟩,⟨L2n a0 a1,L2q a0 a1,.inl ⟨.inl rfl,.inr (.inr ⟨rfl,.inr rfl⟩)⟩⟩,by simp⟩
theorem st3' (a0:Int):∀s∈(acF 3).body,StX pF (acF 3).params [a0] s:=by
 show ∀s∈[(⟨1,⟨-1,1⟩,0,0,[],[⟨3,0,0⟩]⟩:Xg),⟨3,⟨0,0⟩,0,1,[],[]⟩,⟨1,⟨0,0⟩,0,0,[],[⟨1,1,8⟩]⟩],StX pF [psP] [a0] s;simp only [Q1];exact ⟨⟨L3n a0,L3p a0,.inl ⟨.inl rfl,.inl ⟨rfl,.inr (.inl rfl)⟩⟩⟩,⟨L3n a0,L3n a0,.inr (.inl ⟨.inr rfl,rfl⟩)⟩,⟨L3n a0,L3c a0,.inl ⟨.inl rfl,.inr (.inl ⟨rfl,rfl⟩)⟩⟩,by simp⟩
theorem st4':∀s∈(acF 4).body,StX pF (acF 4).params [] s:=by
 show ∀s∈[(⟨1,⟨-1,2⟩,0,0,[],[⟨1,1,1⟩]⟩:Xg)],StX pF [] [] s;simp only [Q1];exact ⟨⟨L4n,L4c,.inl ⟨.inl rfl,.inl ⟨rfl,.inr (.inr (.inl rfl))⟩⟩⟩,by simp⟩
theorem XW {c:Xb} (h:iC pF c=0):∃a:Nat,c.Xz=a/\((a=0\/a=3)/\(∃a0,c.args=[a0])\/(a=1\/a=4)/\c.args=[]\/a=2/\∃a0 a1,c.args=[a0,a1]):=by
 unfold iC at h;split at h
 ·cases h
 rename_i A hA;obtain ⟨k,hk,hkl,rfl⟩:=RO hA;refine ⟨k,hk,?_⟩;split at h
 ·cases h
 rename_i hlen;have hkl':k<5:=hkl;simp only [ne_eq,Decidable.not_not] at hlen;have l1:∀{l:List Int},l.length=1->∃a0,l=[a0]:=fun {l} h=>List.length_eq_one_iff.1 h
 match k,hkl' with
 | 0,_=>exact .inl ⟨.inl rfl,l1 hlen⟩
 | 1,_=>exact .inr (.inl ⟨.inl rfl,PY.1 hlen⟩)
 | 2,_=>
  refine .inr (.inr ⟨rfl,?_⟩)
  match h2:c.args,hlen with
  | [a0,a1],_=>exact ⟨a0,a1,rfl⟩
 | 3,_=>exact .inl ⟨.inr rfl,l1 hlen⟩
 | 4,_=>exact .inr (.inl ⟨.inr rfl,PY.1 hlen⟩)
theorem YF {c:Xb} (h:iC pF c=0) (ha:∀v∈c.args,ok32 0 v) {e:Envt} (ie:EI e) {l:List Int} (il:RI l):
  XQ (aA Φ nK [.agg (Prg.c pF),.agg (Xb.c c),.agg e.c,.slice 1 [[.slice 1 (l.map c32)]]]):=by
 obtain ⟨a,e1,h1⟩:=XW h;have hal:c.args.length<2^40:=by rcases h1 with ⟨_,a0,e2⟩ | ⟨_,e2⟩ | ⟨_,a0,a1,e2⟩<;>rw [e2]<;>simp
 have hc:=QW pF (GE LF) c hal ha;rw [h] at hc;obtain ⟨act,args⟩:=c;simp only at e1 h1;subst e1;rcases h1 with ⟨rfl | rfl,a0,rfl⟩ | ⟨rfl | rfl,rfl⟩ | ⟨rfl,a0,a1,rfl⟩
 ·exact O8 fxF 0 (acF 0) rfl _ ck0 hc (st0' a0) (by decide) e ie l il
 ·exact O8 fxF 3 (acF 3) rfl _ ck3 hc (st3' a0) (by decide) e ie l il
 ·exact O8 fxF 1 (acF 1) rfl _ ck1 hc st1' (by decide) e ie l il
 ·exact O8 fxF 4 (acF 4) rfl _ ck4 hc st4' (by decide) e ie l il
 ·exact O8 fxF 2 (acF 2) rfl _ ck2 hc (st2' a0 a1) (by decide) e ie l il
def ax (x:Int):Int:=IntKind.wrap .u32 ((BitVec.ofInt 32 x&&& BitVec.ofInt 32 255).toNat)
section
variable (b:Bool) (k0 t0 t1 f0 f1 f2 m0 m1 m2 m3:Int) (pay:List Int)
theorem key0:aA Φ gS [.agg (Prg.c pF),a8 ((0:Nat):Int),.agg (eF b k0 t0 t1 f0 f1 f2 m0 m1 m2 m3 pay).c]=some (.val (.slice 1 ([ax m0].map c32))):=dT (n:=200) (by kernel_rfl)
theorem key1:aA Φ gS [.agg (Prg.c pF),a8 ((1:Nat):Int),.agg (eF b k0 t0 t1 f0 f1 f2 m0 m1 m2 m3 pay).c]=some (.val (.slice 1 ([ax m0].map c32))):=dT (n:=200) (by kernel_rfl)
theorem key2t:aA Φ gS [.agg (Prg.c pF),a8 ((2:Nat):Int),.agg (eF true k0 t0 t1 f0 f1 f2 m0 m1 m2 m3 pay).c]=some (.val (.slice 1 ([ax m0,ax t0,ax t1,ax f0,ax f1,ax f2].map c32))):=dT (n:=200) (by kernel_rfl)
theorem key2f:aA Φ gS [.agg (Prg.c pF),a8 ((2:Nat):Int),.agg (eF false k0 t0 t1 f0 f1 f2 m0 m1 m2 m3 pay).c]=some (.val (.slice 1 ([ax m0,0,0,ax f0,ax f1,ax f2].map c32))):=dT (n:=200) (by kernel_rfl)
end
theorem keyF {e:Envt} (ie:EI e) {t:Nat} (ht:t<3):∃key:List Int,aA Φ gS [.agg (Prg.c pF),a8 t,.agg e.c]=some (.val (.slice 1 (key.map c32))):=by
 obtain ⟨b,k0,t0,t1,f0,f1,f2,m0,m1,m2,m3,pay,rfl,-⟩:=ie.x
 match t,ht with
 | 0,_=>exact ⟨_,key0 ..⟩
 | 1,_=>exact ⟨_,key1 ..⟩
 | 2,_=>
  cases b
  ·exact ⟨_,key2f ..⟩
  ·exact ⟨_,key2t ..⟩
theorem qu5 {p:Prg} {t:Int} {c:Xb} (h:eB p t c=0):iC p c=0:=by
 unfold eB at h;split at h
 ·cases h
 ·exact h
theorem qxp {p:Prg} {t:Int} {tb:Tbl} {x:Entry} (ht:at? p.Xn t=some tb) (h:entE p t x=0):iC p x.call=0:=by
 unfold entE at h;split at h
 ·exact absurd h (by assumption)
 rw [ht] at h;simp only at h;split at h
 ·cases h
 cases hf:fe (entG p tb x) tb.keys.length 0 with
 | some e=>
  rw [hf] at h;simp only [tS] at h;subst h;obtain ⟨i,_,hi⟩:=GH hf;unfold entG at hi;split at hi
  ·split at hi
   ·cases hi
   ·rename_i hne;exact absurd (Option.some.inj hi) hne
  ·cases hi
 | none=>
  rw [hf] at h;simp only [LR] at h;unfold entF at h
  repeat (split at h;cases h)
  exact h
def GI (c:Xf):Prop:=CfgV pF c/\CfgT c
def SelQ (r:Option Rt):Prop:=∃(x:Rw) (call:Xb),iC pF call=0/\(∀v∈call.args,ok32 0 v)/\r=some (.val (.tup [.agg (Rw.c x),.agg (Xb.c call)]))
theorem sel_p {p:Prg} (f:PrgS p) {c:Xf} {t:Nat} {key:List Int} {e:Envt} (ht:t<p.Xn.length) (htr:t<c.rows.length) (htd:t<c.Xq.length) (hk:aA Φ gS [.agg (Prg.c p),a8 t,.agg e.c]=some (.val (.slice 1 (key.map c32)))) (hs:c.rows[t].length<2^40) (hx:∀x∈c.rows[t],EntS x.entry):
  aA Φ nJ [.agg (Prg.c p),.agg (Xf.c c),a8 t,.agg e.c]=some (.val (match oB p t key c.rows[t] with
   | some x=> .tup [.agg (Rw.c x),.agg (Xb.c x.entry.call)]
   | none=> .tup [.agg (Rw.c ⟨0,noE⟩),.agg (Xb.c c.Xq[t])])):=by
 rw [aD rfl rfl];have hb:=WD p f t ht key c.rows[t] hs hx;rw [Envt.ce] at hk;simp only [Prg.e] at hk hb;cases ho:oB p t key c.rows[t] with
 | some x=>
  rw [ho] at hb;simp only [rowV,Rw.ce] at hb;simp [wU,Prg.e,Xf.e4,Envt.ce,hk,hb,htr,Rw.ce,Xb.ce,cS]
 | none=>
  rw [ho] at hb;simp only [rowV,Rw.ce] at hb;simp [wU,Prg.e,Xf.e4,Envt.ce,hk,hb,htr,htd,Rw.ce,Xb.ce,cS,noE]
theorem Bn {c:Xf} (g:GI c) {t:Nat} (ht:t<3) {e:Envt} (ie:EI e):SelQ (aA Φ nJ [.agg (Prg.c pF),.agg (Xf.c c),a8 t,.agg e.c]):=by
 obtain ⟨key,hk⟩:=keyF ie ht;obtain ⟨v,s⟩:=g;have ht':t<pF.Xn.length:=ht;have h1:t<c.rows.length:=by rw [v.rl];exact ht
 have h2:t<c.Xq.length:=by rw [v.dl];exact ht
 have h3:t<c.Xr.length:=by rw [v.nl];exact ht
 have hrs:=s.rs _ (Qd h1);have tv:=v.tab t _ _ _ _ (Qa ht') (Qa h1) (Qa h3) (Qa h2);have hS:=sel_p (GE LF) (e:=e) ht' h1 h2 hk hrs.1 (fun x hx=>hrs.2 x hx);cases ho:oB pF t key c.rows[t] with
 | some x=>
  rw [ho] at hS;have hm:=N6 pF t key _ x ho;refine ⟨x,x.entry.call,qxp (t:=t) (tb:=pF.Xn[t]) (by simp [ht']) (tv.ent x hm),(hrs.2 x hm).ar,hS⟩
 | none=>
  rw [ho] at hS;exact ⟨⟨0,noE⟩,c.Xq[t],qu5 tv.Yc,(s.ds _ (Qd h2)).2,hS⟩
def sC (e:Envt) (l:List Int) (hs:List Hit):List AV:=Envt.c e++[.slice 1 [[.slice 1 (l.map c32)]],.slice 3 (hs.map Hit.c)]
theorem sC_e (e:Envt) (l:List Int) (hs:List Hit):sC e l hs=[.slice 1 (e.valid.map cB),.slice 1 (e.Ya.map (cS 1 c32)),.slice 1 (e.metaF.map c32),.slice 1 (e.payload.map c8),.slice 1 [[.slice 1 (l.map c32)]],.slice 3 (hs.map Hit.c)]:=rfl
theorem Hit.ce (x:Hit):x.c=[a8 x.table,a8 x.row,a8 x.Xz]:=rfl
def ApQ (k:Nat) (r:Option Rt):Prop:=∃e' l' hs' tk,EI e'/\RI l'/\hs'.length<=k/\r=some (.val (.tup [.agg (sC e' l' hs'),.bool tk]))
theorem XU {p:Prg} {c:Xf} {t:Nat} {e:Envt} {l:List Int} {hs:List Hit} {k:Nat} (hk:hs.length<=k) (hk1:k<=1000) (h1:SelQ (aA Φ nJ [.agg (Prg.c p),.agg (Xf.c c),a8 t,.agg e.c]))
  (h2:∀call,iC pF call=0->(∀v∈call.args,ok32 0 v)->XQ (aA Φ nK [.agg (Prg.c p),.agg (Xb.c call),.agg e.c,.slice 1 [[.slice 1 (l.map c32)]]])):
  ApQ (k+1) (aA Φ kR [.agg (Prg.c p),.agg (Xf.c c),a8 t,.agg (sC e l hs)]):=by
 rw [aD rfl rfl];obtain ⟨x,call,g1,g2,h1⟩:=h1;obtain ⟨e',l',ie',il',h2⟩:=h2 call g1 g2;rw [Envt.ce] at h1 h2;rw [Envt.ce] at h2;simp only [Prg.e,Xf.e4,Rw.ce,Xb.ce] at h1 h2;have b1:hs.length*24<=70368744177664:=by omega
 have b2:(hs.length+1)*24<=70368744177664:=by omega
 have al3:=fX 3 Hit.c hs fun x=>by simp
 simp [E6,Prg.e,Xf.e4,sC_e,h1,h2,b1,b2,al3];refine ⟨e',l',hs++[⟨t,x.id,call.Xz⟩],decide (0<x.id),ie',il',by simp;exact hk,?_⟩;simp [sC_e,Hit.ce]
theorem UY {c:Xf} (g:GI c) {t:Nat} (ht:t<3) {e:Envt} (ie:EI e) {l:List Int} (il:RI l) {hs:List Hit} {k:Nat} (hk:hs.length<=k) (hk1:k<=1000):
  ApQ (k+1) (aA Φ kR [.agg (Prg.c pF),.agg (Xf.c c),a8 t,.agg (sC e l hs)]):=
 XU hk hk1 (Bn g ht ie) fun call h1 h2=>YF h1 h2 ie il
def ExQ (k:Nat) (r:Option Rt):Prop:=∃e' l' hs',EI e'/\RI l'/\hs'.length<=k/\r=some (.val (.agg (sC e' l' hs')))
def SubX (p:Prg) (c:Xf) (d M:Nat) (b:List Xa):Prop:=∀e l hs k,EI e->RI l->hs.length<=k->k<=M->ExQ (k+d) (aA Φ A9 [.agg (Prg.c p),.agg (Xf.c c),.slice 5 (b.map Xa.c),.agg (sC e l hs)])
def NodeX (p:Prg) (c:Xf) (M:Nat) (x:Xa):Prop:=
 (x.kind=2/\(∀e,EI e->∃t:Bool,evA p [] x.cond e [] (if t then 1 else 0))/\SubX p c 1 M x.thn/\SubX p c 1 M x.els)\/
 (x.kind≠2/\(∀e l hs k,EI e->RI l->hs.length<=k->k<=1000->ApQ (k+1) (aA Φ kR [.agg (Prg.c p),.agg (Xf.c c),a8 x.table,.agg (sC e l hs)]))/\SubX p c 0 M x.thn/\SubX p c 0 M x.els)
theorem Dt {p:Prg} {c:Xf} (M:Nat) (hM:M<=900) (b:List Xa) (hb:∀x∈b,NodeX p c (M+20) x) (hl:b.length<=10):SubX p c b.length M b:=by
 intro e l hs k ie il hk hk9;rw [aD rfl rfl];simp [M8,Prg.e,Xf.e4,sC_e];refine fF b.length (fun i ev h=>∃e l hs n,EI e/\RI l/\hs.length<=k+i/\2<=n/\h=⟨[(0,.row 6 [sC e l hs]),(1,.row 6 [[.Xu 1 [],.Xu 1 [],.Xu 1 [],.Xu 1 [],.Xu 1 [],.Xu 3 []]])],n⟩/\look 2 ev=some (.slice 5 (b.map Xa.c))/\look 4 ev=some (.iptr 9 [Prg.c p] 0 0)/\look 5 ev=some (.iptr 4 [Xf.c c] 0 0)/\look 7 ev=some (.ptr 0 6 0 0)/\look 8 ev=some (.ptr 1 6 0 0)/\look 9 ev=some (a8 i)) (ExQ (k+b.length)) ?_ ?_ 0 _ _ (Qc _) ?_
 ·rintro i ev _ L hi hL ⟨e,l,hs,n,ie,il,hk,hn,rfl,h2,h4,h5,h7,h8,h9⟩ ih;have hw:=aL i (by omega);have hx:=hb _ (Qd hi);obtain ⟨x,hxe⟩:∃x,b[i]=x:=⟨_,rfl⟩;rw [hxe] at hx;obtain ⟨kd,tb,cd,th,el⟩:=x;simp only [NodeX,Xa.kind_mk,Xa.table_mk,Xa.cond_mk,Xa.thn_mk,Xa.els_mk] at hx;simp only [Prg.e,Xf.e4] at h4 h5;rcases hx with ⟨k2,hc,s1,s2⟩ | ⟨k2,ha,s1,s2⟩
  ·obtain ⟨t,ht⟩:=hc e ie;unfold evA sc at ht;rw [Envt.ce] at ht;simp only [Prg.e,qI,DW,DY] at ht;cases t with
   | true=>
    obtain ⟨e',l',hs',ie',il',hk',e1⟩:=s1 e l hs (k+i) ie il hk (by omega);simp only [Prg.e,Xf.e4,sC_e] at e1;simp at ht;simp [c_85_l0,Xa.e,sC_e,h2,h4,h5,h7,h8,h9,hi,hxe,hL,k2,ht,e1,hw];refine ih _ _ ⟨e',l',hs',_,ie',il',by omega,?_,by rw [sC_e],?_,?_,?_,?_,?_,?_⟩;exact hn
    all_goals simp [*,Prg.e,Xf.e4]
   | false=>
    obtain ⟨e',l',hs',ie',il',hk',e1⟩:=s2 e l hs (k+i) ie il hk (by omega);simp only [Prg.e,Xf.e4,sC_e] at e1;simp at ht;simp [c_85_l0,Xa.e,sC_e,h2,h4,h5,h7,h8,h9,hi,hxe,hL,k2,ht,e1,hw];refine ih _ _ ⟨e',l',hs',_,ie',il',by omega,?_,by rw [sC_e],?_,?_,?_,?_,?_,?_⟩;exact hn
    all_goals simp [*,Prg.e,Xf.e4]
  ·obtain ⟨e',l',hs',tk,ie',il',hk',ha'⟩:=ha e l hs (k+i) ie il hk (by omega);simp only [Prg.e,Xf.e4,sC_e] at ha';cases tk with
   | true=>
    obtain ⟨e2,l2,hs2,ie2,il2,hk2,e1⟩:=s1 e' l' hs' (k+i+1) ie' il' hk' (by omega);simp only [Prg.e,Xf.e4,sC_e] at e1;simp [c_85_l0,Xa.e,sC_e,h2,h4,h5,h7,h8,h9,hi,hxe,hL,k2,ha',e1,hw];refine ih _ _ ⟨e2,l2,hs2,_,ie2,il2,by omega,?_,by rw [sC_e],?_,?_,?_,?_,?_,?_⟩;exact hn
    all_goals simp [*,Prg.e,Xf.e4]
   | false=>
    obtain ⟨e2,l2,hs2,ie2,il2,hk2,e1⟩:=s2 e' l' hs' (k+i+1) ie' il' hk' (by omega);simp only [Prg.e,Xf.e4,sC_e] at e1;simp [c_85_l0,Xa.e,sC_e,h2,h4,h5,h7,h8,h9,hi,hxe,hL,k2,ha',e1,hw];refine ih _ _ ⟨e2,l2,hs2,_,ie2,il2,by omega,?_,by rw [sC_e],?_,?_,?_,?_,?_,?_⟩;exact hn
    all_goals simp [*,Prg.e,Xf.e4]
 ·rintro ev _ L hL ⟨e,l,hs,n,ie,il,hk,hn,rfl,h2,h4,h5,h7,h8,h9⟩;simp [c_85_l0,c_85_k1,sC_e,h2,h7,h8,h9,hL,aB];exact ⟨e,l,hs,ie,il,hk,by simp [sC_e,cS]⟩
 ·exact ⟨e,l,hs,2,ie,il,by omega,Qb _,by rw [sC_e],by simp,by simp [Prg.e],by simp [Xf.e4],by simp,by simp,by simp⟩
theorem G' {c:Xf} (g:GI c):SubX pF c 2 800 pF.Yb:=by
 have s0:∀M,M<=900->SubX pF c 0 M []:=fun M hM=>Dt M hM [] (by simp) (by decide)
 have ap:∀(M t:Nat),M<=840->t<3->SubX pF c 1 M [.mk 1 t [] [] []]:=fun M t hM ht=>Dt M (by omega) [.mk 1 t [] [] []] (fun x hx=>by
  simp only [JP] at hx;subst hx;exact .inr ⟨by simp,fun e l hs k ie il hk hk1=>UY g ht ie il hk hk1,s0 _ (by omega),s0 _ (by omega)⟩) (by simp)
 refine Dt 800 (by decide) pF.Yb (fun x hx=>?_) (by decide);have hx':x= .mk 2 0 [⟨4,1,0⟩] [.mk 1 1 [] [] []] [.mk 1 0 [] [] []]\/x= .mk 2 0 [⟨15,0,0⟩,⟨2,-1,2⟩,⟨1,0,1⟩] [.mk 1 2 [] [] []] []:=by
  have:x∈[Xa.mk 2 0 [⟨4,1,0⟩] [.mk 1 1 [] [] []] [.mk 1 0 [] [] []],.mk 2 0 [⟨15,0,0⟩,⟨2,-1,2⟩,⟨1,0,1⟩] [.mk 1 2 [] [] []] []]:=hx;simpa using this
 rcases hx' with rfl | rfl
 ·exact .inl ⟨by simp,fun e ie=>by simpa using evQ0 ie,ap 820 1 (by decide) (by decide),ap 820 0 (by decide) (by decide)⟩
 ·exact .inl ⟨by simp,fun e ie=>by simpa using evQ1 ie,ap 820 2 (by decide) (by decide),fun e l hs k ie il hk hk1=>by
   obtain ⟨e',l',hs',a,b,c,d⟩:=s0 820 (by decide) e l hs k ie il hk hk1;exact ⟨e',l',hs',a,b,by omega,d⟩⟩
def rC (B:List Int) (pos:Nat):List AV:=[.slice 1 (B.map c8),a8 pos]
section
variable (B:List Int) (pos:Nat) (hB:B.length<=1000) (hp:pos<=8*B.length)
include hB hp
theorem Dk:aA Φ t9 [.agg (rC B pos)]=some (.val (a8 ((8*B.length - pos:Nat):Int))):=by
 rw [aD rfl rfl];have w1:IntKind.wrap .i64 (8*(B.length:Int))=((8*B.length:Nat):Int):=by
  rw [show (8*(B.length:Int))=((8*B.length:Nat):Int) by omega];exact fG (by omega) (by omega)
 have w2:IntKind.wrap .i64 (8*(B.length:Int) - (pos:Int))=((8*B.length - pos:Nat):Int):=by
  rw [show (8*(B.length:Int) - (pos:Int))=((8*B.length - pos:Nat):Int) by omega];exact fG (by omega) (by omega)
 simp [FY,rC,w1,w2]
omit hB hp in
theorem vw_ok (w:Nat) (h1:1<=w) (h2:w<=32):aA Φ sX [a8 w]=some (.val (.bool true)):=by
 rw [aD rfl rfl];have h3:(1:Int)<=w:=by omega
 have h4:(w:Int)<=32:=by omega
 simp [FG,h3,h4]
def RBQ (B:List Int) (pos w:Nat) (r:Option Rt):Prop:=∃v,ok32 0 v/\r=some (.val (.tup [.agg (rC B (pos+w)),.int .u32 v,a8 0]))
theorem XV (w:Nat) (h1:1<=w) (h2:w<=32) (h:pos+w<=8*B.length):RBQ B pos w (aA Φ A5 [.agg (rC B pos),a8 w]):=by
 rw [aD rfl rfl];have q1:=vw_ok w h1 h2;have q2:=Dk B pos hB hp;have q3:¬8*B.length - pos<w:=by omega
 rw [rC] at q2;simp [FZ,rC,q1,q2,q3];refine fF w (fun i e h=>∃v n P,ok32 0 v/\2<=n/\P=pos+i/\h=⟨[(0,.row 2 [[.slice 1 (B.map c8),a8 ((P:Nat):Int)]]),(1,.row 2 [[.Xu 1 [],a8 0]])],n⟩/\look 1 e=some (a8 w)/\look 2 e=some (.ptr 0 2 0 0)/\look 4 e=some (.ptr 1 2 0 0)/\look 7 e=some (.int .u32 v)/\look 8 e=some (a8 i)) (RBQ B pos w) ?_ ?_ 0 _ _ (Qc _) ?_
 ·rintro i e _ L hi hL ⟨v,n,P,ov,hn,hP,rfl,g1,g2,g4,g7,g8⟩ ih;have hw:=aL i (by omega);obtain ⟨D,hD⟩:∃D,D=P / 8:=⟨_,rfl⟩;obtain ⟨M,hM⟩:∃M,M=P % 8:=⟨_,rfl⟩;obtain ⟨S,hS⟩:∃S,S=7 - M:=⟨_,rfl⟩;have hb:D<B.length:=by omega
  have hq3:((P:Int) / 8)=D:=by omega
  have hq0:(P:Int).tdiv 8=D:=by rw [LJ (by omega)];omega
  have hwD:IntKind.wrap .i64 (D:Int)=D:=fG (by omega) (by omega);have hr1:(P:Int).tmod 8=M:=by rw [JM (by omega)];omega
  have hr2:((P:Int) % 8)=M:=by omega
  have hs:IntKind.wrap .i64 (7 - (M:Int))=S:=by
   rw [show (7 - (M:Int))=(S:Int) by omega];exact fG (by omega) (by omega)
  have hp1:=aL P (by omega);have hn0:¬((S:Int)<0):=by omega
  simp [c_360_l0,g1,g2,g4,g7,g8,hi,hw,hq0,hq3,hwD,hr1,hr2,hs,hp1,hb,hL,aB,c8,hn0];exact ih _ _ ⟨_,_,P+1,wr32 _,hn,by omega,rfl,by simp [g1],by simp [g2],by simp [g4],by simp;rfl,by simp⟩
 ·rintro e _ L hL ⟨v,n,P,ov,hn,hP,rfl,g1,g2,g4,g7,g8⟩;subst hP;simp [c_360_l0,c_360_k1,g1,g2,g4,g7,g8,hL,aB];exact ⟨v,ov,by simp [rC]⟩
 ·exact ⟨0,2,pos,ok00,Qb _,by simp,by simp,by simp,by simp,by simp,by simp,by simp⟩
end
theorem Z1 (B:List Int) (hB:B.length<=1000):aA Φ sG [.slice 1 (B.map c8)]=some (.val (.agg (rC B 0))):=by
 rw [aD rfl rfl];have b1:B.length<=70368744177664:=by omega
 have al:=alB B;simp [EU,rC,b1,al]
theorem ZJ (B:List Int) (hB:B.length<=1000) (k:Nat) (hk:k<=B.length):aA Φ sJ [.agg (rC B (8*k))]=some (.val (.tup [.slice 1 ((B.drop k).map c8),a8 0])):=by
 rw [aD rfl rfl];have b1:B.length - k<=70368744177664:=by omega
 have al:=alB (B.drop k);rw [<- TU] at al;have ht:List.take (B.length - k) (List.drop k (List.map c8 B))=List.drop k (List.map c8 B):=Qo (by simp);obtain ⟨P,hP⟩:∃P,P=8*k:=⟨_,rfl⟩;rw [<- hP];have hq3:((P:Int) / 8)=k:=by omega
 have hq0:(P:Int).tdiv 8=k:=by rw [LJ (by omega)];omega
 have hwD:IntKind.wrap .i64 (k:Int)=k:=fG (by omega) (by omega);have hr1:(P:Int).tmod 8=0:=by rw [JM (by omega)];omega
 have hr2:((P:Int) % 8)=0:=by omega
 simp [EW,rC,hq0,hq3,hwD,hr1,hr2,hk,b1,al,ht]
def wS (l:List Fld):Nat:=(l.map fun f=>f.Yd.toNat).sum
theorem K' (l:List Fld) (f:Fld):wS (l++[f])=wS l+f.Yd.toNat:=by simp [wS]
theorem qy1 (l:List Fld) (i:Nat):wS (l.take i)<=wS l:=by
 have:wS l=wS (l.take i)+wS (l.drop i):=by
  unfold wS;rw [<- List.sum_append,<- B5,List.take_append_drop]
 omega
section
variable (h:Xj) (hc:aA Φ dM [.agg (Xj.c h)]=some (.val (a8 0))) (hb:aA Φ lF [.agg (Xj.c h)]=some (.val (a8 (wS h.Ya:Nat))))
 (hw:∀f∈h.Ya,1<=f.Yd/\f.Yd<=32) (hl:h.Ya.length<=100) (B:List Int) (pos:Nat) (hB:B.length<=1000) (hp:pos<=8*B.length)
include hc hb hw hl hB hp
omit hw hl in
theorem qvk (hs:8*B.length<pos+wS h.Ya):aA Φ fV [.agg (Xj.c h),.agg (rC B pos)]=some (.val (.tup [.agg (rC B pos),.slice 1 [],a8 3])):=by
 rw [aD rfl rfl];have q2:=Dk B pos hB hp;have q3:8*B.length - pos<wS h.Ya:=by omega
 rw [rC] at q2;simp only [Xj.e] at hc hb;simp [xZ,rC,Xj.e,hc,hb,q2,q3]
def RdQ (h:Xj) (B:List Int) (pos:Nat) (r:Option Rt):Prop:=∃vals:List Int,vals.length=h.Ya.length/\(∀v∈vals,ok32 0 v)/\r=some (.val (.tup [.agg (rC B (pos+wS h.Ya)),.slice 1 (vals.map c32),a8 0]))
theorem VK (hs:pos+wS h.Ya<=8*B.length):RdQ h B pos (aA Φ fV [.agg (Xj.c h),.agg (rC B pos)]):=by
 rw [aD rfl rfl];have q2:=Dk B pos hB hp;have q3:¬8*B.length - pos<wS h.Ya:=by omega
 rw [rC] at q2;simp only [Xj.e] at hc hb;simp [xZ,rC,Xj.e,hc,hb,q2,q3];refine fF h.Ya.length (fun i e hp=>∃(vals:List Int) (n P:Nat),vals.length=i/\(∀v∈vals,ok32 0 v)/\P=pos+wS (h.Ya.take i)/\3<=n/\hp=⟨[(0,.row 2 [[.slice 1 (B.map c8),a8 P]]),(1,.row 2 [[.Xu 1 [],a8 0]]),(2,.tok 1 i)],n⟩/\look 2 e=some (.iptr 2 [Xj.c h] 0 0)/\look 3 e=some (.ptr 0 2 0 0)/\look 4 e=some (.ptr 1 2 0 0)/\look 8 e=some (.app 1 (vals.map c32) 2)/\look 9 e=some (a8 i)) (RdQ h B pos) ?_ ?_ 0 _ _ (Qc _) ?_
 ·rintro i e _ L hi hL ⟨vals,n,P,hv,ov,hP,hn,rfl,g2,g3,g4,g8,g9⟩ ih;have hwr:=aL i (by omega);obtain ⟨w1,w2⟩:=hw _ (Qd hi);have htk:wS (h.Ya.take (i+1))=wS (h.Ya.take i)+h.Ya[i].Yd.toNat:=by rw [Qh hi,K']
  have hle:=qy1 h.Ya (i+1);obtain ⟨k,hk⟩:=fP (show 0<=h.Ya[i].Yd by omega);rw [hk] at htk w1 w2;simp only [Int.toNat_natCast] at htk;obtain ⟨v,okv,hr⟩:=XV B P hB (by omega) k (by omega) (by omega) (by omega);obtain ⟨P',hP'⟩:∃P',P'=P+k:=⟨_,rfl⟩;simp only [rC,<- hP'] at hr;simp only [Xj.e] at g2;have hfs:(i+1)*4<=70368744177664:=by omega
  have n0:¬n=0/\¬n=1/\¬n=2/\¬n+10=0/\¬n+10=1/\¬n+10=2/\¬0=n+10/\¬1=n+10/\¬2=n+10:=by omega
  obtain ⟨z1,z2,z3,z4,z5,z6,z7,z8,z9⟩:=n0;simp [c_316_l0,Fld.e,g2,g3,g4,g8,g9,hi,hk,hr,hwr,hv,hfs,z1,z2,z3,z4,z5,z6,z7,z8,z9,aC,aB,aR,bK];refine ih _ _ ⟨vals++[v],_,P',by simp [hv],fun x hx=>?_,by omega,?_,by rfl,by simp [g2,Xj.e],by simp [g3],by simp [g4],by simp [c32],by simp⟩
  ·rcases eU.1 hx with hx | hx
   ·exact ov x hx
   ·rw [JP.1 hx];exact okv
  ·omega
 ·rintro e _ L hL ⟨vals,n,P,hv,ov,hP,hn,rfl,g2,g3,g4,g8,g9⟩;rw [iI] at hP;subst hP;simp [c_316_l0,c_316_k1,Xj.e,g2,g3,g4,g8,g9,hL,aB];exact ⟨vals,hv,ov,by simp [rC]⟩
 ·exact ⟨[],3,pos,rfl,by simp,by simp [wS],Qb _,by simp,by simp [Xj.e],by simp,by simp,by simp,by simp⟩
end
def eG (v0 v1 v2:Bool) (k0 t0 t1 f0 f1 f2 m0 m1 m2 m3:Int) (pay:List Int):Envt:=⟨[v0,v1,v2],[[k0],[t0,t1],[f0,f1,f2]],[m0,m1,m2,m3],pay⟩
def eX (k:Nat) (vals:List Int) (e:Envt):Envt:={ e with valid:=e.valid.set k true,Ya:=e.Ya.set k vals }
section
variable (p:Prg) (x:Xd) (h:Xj) (k:Nat) (hx:x.extract=[(k:Int)]) (hh:p.Xp[k]? =some h) (B:List Int) (pos:Nat)
variable (v0 v1 v2:Bool) (k0 t0 t1 f0 f1 f2 m0 m1 m2 m3:Int) (pay:List Int)
include hx hh
theorem VD (hr:aA Φ fV [.agg (Xj.c h),.agg (rC B pos)]=some (.val (.tup [.agg (rC B pos),.slice 1 [],a8 3]))) (e:Envt):
  aA Φ nQ [.agg (Prg.c p),.agg (Xd.c x),.agg e.c,.agg (rC B pos)]=some (.val (.tup [.agg e.c,.agg (rC B pos),a8 3])):=by
 rw [aD rfl rfl];obtain ⟨hk,hk'⟩:=Qm.1 hh;simp only [rC,Xj.e] at hr;simp [wZ,Prg.e,Xd.e,Envt.ce,rC,hx];rw [fA];simp [c_252_l0,c_252_k1,cI,Xj.e,hk,hk',hr,aC,aB,aR,bK]
theorem YG (hk3:k<3) (hpl:pay.length<2^40) (vals:List Int) (pos':Nat) (hr:aA Φ fV [.agg (Xj.c h),.agg (rC B pos)]=some (.val (.tup [.agg (rC B pos'),.slice 1 (vals.map c32),a8 0]))):
  aA Φ nQ [.agg (Prg.c p),.agg (Xd.c x),.agg (eG v0 v1 v2 k0 t0 t1 f0 f1 f2 m0 m1 m2 m3 pay).c,.agg (rC B pos)]=some (.val (.tup [.agg (eX k vals (eG v0 v1 v2 k0 t0 t1 f0 f1 f2 m0 m1 m2 m3 pay)).c,.agg (rC B pos'),a8 0])):=by
 rw [aD rfl rfl];obtain ⟨hk,hk'⟩:=Qm.1 hh;have b1:pay.length<=70368744177664:=by omega
 have al:d9 1 (pay.map c8)=true:=fX 1 c8 pay fun x=>by simp
 have w1:IntKind.wrap .i64 1=1:=rfl;have w2:IntKind.wrap .i64 2=2:=rfl;have w3:IntKind.wrap .i64 3=3:=rfl;have w4:IntKind.wrap .i64 (1+1)=2:=rfl;have w5:IntKind.wrap .i64 (2+1)=3:=rfl;simp only [rC,Xj.e] at hr;simp [wZ,Prg.e,Xd.e,Envt.ce,rC,hx,eG,cS,c32,cB];rw [fA];simp [c_252_l0,c_252_k1,cI,Xj.e,hk,hk',hr,Cq,iU,cS,c32,cB,aC,aB,aR,bK];rw [fA];simp [c_191_l0,c_191_k1,b1,w1,w2,w3,w4,w5,al,aC,aB,aR,bK,iD];rw [fA];simp [c_191_l0,c_191_k1,b1,w1,w2,w3,w4,w5,al,aC,aB,aR,bK,iD];rw [fA];simp [c_191_l0,c_191_k1,b1,w1,w2,w3,w4,w5,al,aC,aB,aR,bK,iD];rw [fA];simp [c_191_l0,c_191_k1,b1,w1,w2,w3,w4,w5,al,aC,aB,aR,bK,iD];have hk012:k=0\/k=1\/k=2:=by omega
 rcases hk012 with rfl | rfl | rfl
 all_goals simp [eX,w1,cS,c32,cB,aC,aB,aR,bK]
 all_goals rw [fA]
 all_goals simp [c_252_l0,c_252_k1,w1,cS,c32,cB,aC,aB,aR,bK]
end
def TrQ (x:Xd) (r:Option Rt):Prop:=∃n:Int,(n=x.Yc\/(x.select=true/\∃c∈x.cases,n=c.next))/\r=some (.val (a8 n))
theorem Bv (x:Xd) (e:Envt) (hl:x.cases.length<=1000):TrQ x (aA Φ sH [.agg (Xd.c x),.agg e.c]):=by
 rw [aD rfl rfl];have hg:=Aq e x.on.header x.on.field;rw [Envt.ce] at hg;generalize eGet e x.on.header x.on.field=g at*;simp [EV,Xd.e,Envt.ce];refine fF x.cases.length (fun i ev h=>∃n,h=⟨[],n⟩/\look 2 ev=some (.iptr 7 [Xd.c x] 0 0)/\look 3 ev=some (.iptr 4 [Envt.c e] 0 0)/\look 5 ev=some (a8 i)) (TrQ x) ?_ ?_ 0 _ _ (Qc _) ?_
 ·rintro i ev _ L hi hL ⟨n,rfl,h2,h3,h5⟩ ih;have hw:=aL i (by omega);rw [Xd.e] at h2;rw [Envt.ce] at h3;cases hs:x.select with
  | false=>
   rw [hs] at h2;simp [c_253_l0,c_253_k1,h2,h3,h5,hi,hL];exact ⟨x.Yc,.inl rfl,rfl⟩
  | true=>
   rw [hs] at h2;by_cases hm:iand IntKind.u32 g x.cases[i].Ye=x.cases[i].value
   ·simp [c_253_l0,Xk.e,h2,h3,h5,hi,hL,hg,hm];exact ⟨_,.inr ⟨hs,_,Qd hi,rfl⟩,rfl⟩
   ·simp [c_253_l0,Xk.e,h2,h3,h5,hi,hL,hg,hm,hw];exact ih _ _ ⟨_,rfl,by simp [h2,Xd.e,hs],by simp [h3,Envt.ce],by simp⟩
 ·rintro ev _ L hL ⟨n,rfl,h2,h3,h5⟩;rw [Xd.e] at h2;simp [c_253_l0,c_253_k1,h2,h5,hL];exact ⟨x.Yc,.inl rfl,rfl⟩
 ·exact ⟨_,rfl,by simp [Xd.e],by simp [Envt.ce],by simp⟩
theorem Y' {p:Prg} (B:List Int) (h1:aA Φ yY [.agg (Prg.c p)]=some (.val (.tup [a8 0,a8 0,a8 0]))) (h2:∀h∈p.Xp,aA Φ dM [.agg (Xj.c h)]=some (.val (a8 0))) (hl:p.Xp.length<=1000):
  aA Φ nP [.agg (Prg.c p),.slice 1 (B.map c8)]=some (.val (a8 (if 512<B.length then 4 else 0))):=by
 rw [aD rfl rfl];simp only [Prg.e] at h1;generalize hX:(if 512<B.length then (4:Int) else 0)=X;simp [ET,Prg.e,h1];refine (iJ p.Xp.length (fun i e=>look 1 e=some (.slice 1 (B.map c8))/\look 2 e=some (.iptr 9 [Prg.c p] 0 0)/\look 8 e=some (a8 i)) (fun _=>some (Rt.val (a8 X))) ?_ ?_ 0 _ (Qc _) ?_).trans rfl
 ·rintro i e L hi hL ⟨g1,g2,g8⟩ ih;have hw:=aL i (by omega);have hc:=h2 _ (Qd hi);rw [Prg.e] at g2;rw [Xj.e] at hc;simp [c_249_l0,Xj.e,g2,g8,hi,hw,hc];exact ih _ ⟨by simp [g1],by simp [g2,Prg.e],by simp⟩
 ·rintro e L hL ⟨g1,g2,g8⟩;rw [Prg.e] at g2;by_cases z:512<B.length
  ·rw [aE z] at hX;simp [c_249_l0,c_249_k1,g1,g2,g8,hL,z,<- hX]
  ·rw [QA z] at hX;simp [c_249_l0,c_249_k1,g1,g2,g8,hL,z,<- hX]
 ·simp [Prg.e]
theorem ck18:aA Φ yY [.agg (Prg.c pF)]=some (.val (.tup [a8 0,a8 0,a8 0])):=dT (n:=200) (by kernel_rfl)
def hdF (k:Nat):Xj:=pF.Xp.getD k default
theorem hc0:aA Φ dM [.agg (Xj.c (hdF 0))]=some (.val (a8 0)):=dT (n:=200) (by kernel_rfl)
theorem hc1:aA Φ dM [.agg (Xj.c (hdF 1))]=some (.val (a8 0)):=dT (n:=200) (by kernel_rfl)
theorem hc2:aA Φ dM [.agg (Xj.c (hdF 2))]=some (.val (a8 0)):=dT (n:=200) (by kernel_rfl)
theorem hb0:aA Φ lF [.agg (Xj.c (hdF 0))]=some (.val (a8 (8:Nat))):=dT (n:=200) (by kernel_rfl)
theorem hb1:aA Φ lF [.agg (Xj.c (hdF 1))]=some (.val (a8 (16:Nat))):=dT (n:=200) (by kernel_rfl)
theorem hb2:aA Φ lF [.agg (Xj.c (hdF 2))]=some (.val (a8 (24:Nat))):=dT (n:=200) (by kernel_rfl)
theorem new12:aA Φ jA [.agg (Prg.c pF)]=some (.val (.agg (eG false false false 0 0 0 0 0 0 0 0 0 0 []).c)):=dT (n:=200) (by kernel_rfl)
theorem Ox:∀h∈pF.Xp,aA Φ dM [.agg (Xj.c h)]=some (.val (a8 0)):=by
 intro h hh;have:h∈[hdF 0,hdF 1,hdF 2]:=hh;simp only [fJ,tT,or_false] at this;rcases this with rfl | rfl | rfl
 ·exact hc0
 ·exact hc1
 ·exact hc2
theorem Z' (B:List Int):aA Φ nP [.agg (Prg.c pF),.slice 1 (B.map c8)]=some (.val (a8 (if 512<B.length then 4 else 0))):=Y' B ck18 Ox (by decide)
def ReadR (k:Nat) (B:List Int) (pos:Nat):Prop:=
 (aA Φ fV [.agg (Xj.c (hdF k)),.agg (rC B pos)]=some (.val (.tup [.agg (rC B pos),.slice 1 [],a8 3])))\/
 (pos+8*(k+1)<=8*B.length/\∃vals:List Int,vals.length=k+1/\(∀v∈vals,ok32 0 v)/\aA Φ fV [.agg (Xj.c (hdF k)),.agg (rC B pos)]=some (.val (.tup [.agg (rC B (pos+8*(k+1))),.slice 1 (vals.map c32),a8 0])))
theorem hw_pF (k:Nat) (hk:k<3):∀f∈(hdF k).Ya,1<=f.Yd/\f.Yd<=32:=by
 have h8:∀h∈pF.Xp,∀f∈h.Ya,f.Yd=8:=by decide
 intro f hf;have hm:hdF k∈pF.Xp:=by
  match k,hk with
  | 0,_=>exact H9
  | 1,_=>exact vI _ H9
  | 2,_=>exact vI _ (vI _ H9)
 rw [h8 _ hm f hf];decide
theorem readR (k:Nat) (hk:k<3) (B:List Int) (pos:Nat) (hB:B.length<=1000) (hp:pos<=8*B.length):ReadR k B pos:=by
 have key:∀(hc:aA Φ dM [.agg (Xj.c (hdF k))]=some (.val (a8 0))) (hb:aA Φ lF [.agg (Xj.c (hdF k))]=some (.val (a8 (wS (hdF k).Ya:Nat)))) (hw:wS (hdF k).Ya=8*(k+1)) (hl:(hdF k).Ya.length=k+1),ReadR k B pos:=by
  intro hc hb hw hl;by_cases z:8*B.length<pos+wS (hdF k).Ya
  ·exact .inl (qvk _ hc hb B pos hB hp z)
  ·obtain ⟨vals,h1,h2,h3⟩:=VK _ hc hb (hw_pF k hk) (by omega) B pos hB hp (by omega);rw [hw] at h3;exact .inr ⟨by omega,vals,by omega,h2,h3⟩
 match k,hk with
 | 0,_=>exact key hc0 hb0 rfl rfl
 | 1,_=>exact key hc1 hb1 rfl rfl
 | 2,_=>exact key hc2 hb2 rfl rfl
def staF (k:Nat):Xd:=pF.Xx.getD k default
def sI (q:Nat):Int:=if q=3 then -1 else if q=4 then -2 else q
structure SInv (B:List Int) (q:Nat) (e:Envt) (pos:Nat):Prop where
 x:∃v0 v1 v2 k0 t0 t1 f0 f1 f2,e=eG v0 v1 v2 k0 t0 t1 f0 f1 f2 0 0 0 0 []/\(ok32 0 k0/\ok32 0 t0/\ok32 0 t1/\ok32 0 f0/\ok32 0 f1/\ok32 0 f2)/\(1<=q->v0=true)/\(q=3->v2=true)
 j:∃j,pos=8*j
 p:pos<=8*B.length
theorem len1 {l:List Int} (h:l.length=0+1):∃a,l=[a]:=List.length_eq_one_iff.1 h
theorem len2 {l:List Int} (h:l.length=1+1):∃a b,l=[a,b]:=by
 match l,h with
 | [a,b],_=>exact ⟨a,b,rfl⟩
theorem len3 {l:List Int} (h:l.length=2+1):∃a b c,l=[a,b,c]:=by
 match l,h with
 | [a,b,c],_=>exact ⟨a,b,c,rfl⟩
theorem UF {B:List Int} {q:Nat} {e:Envt} {pos:Nat} (s:SInv B q e pos) (hq:q<3) {vals:List Int} (hv:vals.length=q+1) (ho:∀v∈vals,ok32 0 v) {pos':Nat} (hp:pos'=pos+8*(q+1)) (hp':pos'<=8*B.length) (q':Nat) (hq':q<q') (h3:q'=3->q=2):SInv B q' (eX q vals e) pos':=by
 obtain ⟨v0,v1,v2,k0,t0,t1,f0,f1,f2,rfl,⟨o1,o2,o3,o4,o5,o6⟩,hv0,hv2⟩:=s.x;obtain ⟨j,hj⟩:=s.j;refine ⟨?_,⟨j+(q+1),by omega⟩,hp'⟩;have hq012:q=0\/q=1\/q=2:=by omega
 rcases hq012 with rfl | rfl | rfl
 ·obtain ⟨a,rfl⟩:=len1 hv;exact ⟨true,v1,v2,a,t0,t1,f0,f1,f2,rfl,⟨ho a (by simp),o2,o3,o4,o5,o6⟩,fun _=>rfl,fun h=>absurd (h3 h) (by decide)⟩
 ·obtain ⟨a,b,rfl⟩:=len2 hv;exact ⟨v0,true,v2,k0,a,b,f0,f1,f2,rfl,⟨o1,ho a (by simp),ho b (by simp),o4,o5,o6⟩,fun _=>hv0 (Qb _),fun h=>absurd (h3 h) (by decide)⟩
 ·obtain ⟨a,b,c,rfl⟩:=len3 hv;exact ⟨v0,v1,true,k0,t0,t1,a,b,c,rfl,⟨o1,o2,o3,ho a (by simp),ho b (by simp),ho c (by simp)⟩,fun _=>hv0 (by decide),fun _=>rfl⟩
theorem Bw (q:Nat) (hq:q<3) (e:Envt):∃q':Nat,q<q'/\q'<=4/\(q'=3->q=2)/\aA Φ sH [.agg (Xd.c (staF q)),.agg e.c]=some (.val (a8 (sI q'))):=by
 obtain ⟨n,hn,h⟩:=Bv (staF q) e (by
  match q,hq with
  | 0,_=>decide
  | 1,_=>decide
  | 2,_=>decide)
 match q,hq with
 | 0,_=>
  have:n= -2\/n=2\/n=1:=by
   rcases hn with rfl | ⟨_,c,hc,rfl⟩
   ·exact .inl rfl
   ·have hc':c∈[(⟨1,255,2⟩:Xk),⟨2,255,1⟩]:=hc;simp only [fJ,tT,or_false] at hc';rcases hc' with rfl | rfl
    ·exact .inr (.inl rfl)
    ·exact .inr (.inr rfl)
  rcases this with rfl | rfl | rfl
  ·exact ⟨4,by omega,by omega,by omega,h⟩
  ·exact ⟨2,by omega,by omega,by omega,h⟩
  ·exact ⟨1,by omega,by omega,by omega,h⟩
 | 1,_=>
  have:n=2:=by
   rcases hn with rfl | ⟨hs,_⟩
   ·rfl
   ·exact absurd hs (by decide)
  subst this;exact ⟨2,by omega,by omega,by omega,h⟩
 | 2,_=>
  have:n= -1:=by
   rcases hn with rfl | ⟨hs,_⟩
   ·rfl
   ·exact absurd hs (by decide)
  subst this;exact ⟨3,by omega,by omega,by omega,h⟩
def RunQ (r:Option Rt):Prop:=∃(e:Envt) (f:Int) (sts:List Int),(f=0->EI e)/\r=some (.val (.tup [.agg (Envt.c e),.slice 1 (sts.map cI),a8 f]))
def e00:Envt:=eG false false false 0 0 0 0 0 0 0 0 0 0 []
theorem ZR {p:Prg} (B:List Int) (hB:B.length<=1000) (hBo:okB' B) (hac:aA Φ nP [.agg (Prg.c p),.slice 1 (B.map c8)]=some (.val (a8 (if 512<B.length then 4 else 0))))
  (hnw:aA Φ jA [.agg (Prg.c p)]=some (.val (.agg e00.c))) (hst:∀q,q<3->p.Xx[q]? =some (staF q)) (hhd:∀q,q<3->p.Xp[q]? =some (hdF q)) (hsx:∀q,q<3->(staF q).extract=[(q:Int)]):
  RunQ (aA Φ nH [.agg (Prg.c p),.slice 1 (B.map c8)]):=by
 rw [aD rfl rfl];have hnr:=Z1 B hB;rw [Envt.ce] at hnw;simp only [Prg.e] at hac hnw;by_cases z:512<B.length
 ·rw [aE z] at hac;simp [wQ,Prg.e,hac,hnw];exact ⟨e00,4,[],fun h=>absurd h (by decide),by simp [Envt.ce]⟩
 rw [QA z] at hac;simp only [rC] at hnr;simp [wQ,Prg.e,hac,hnw,hnr];refine Hg (Z:=Nat) (fun q=>5 - q) (fun q ev h=>q<=4/\∃(e:Envt) (pos:Nat) (l:List Int) (n:Nat),SInv B q e pos/\l.length<=q/\4<=n/\h=⟨[(0,.row 4 [[.Xu 1 [],.Xu 1 [],.Xu 1 [],.Xu 1 []]]),(1,.row 4 [Envt.c e]),(2,.row 2 [rC B pos]),(3,.tok 1 l.length)],n⟩/\look 2 ev=some (.iptr 9 [Prg.c p] 0 0)/\look 4 ev=some (.ptr 0 4 0 0)/\look 8 ev=some (.ptr 1 4 0 0)/\look 9 ev=some (.ptr 2 2 0 0)/\look 10 ev=some (.app 1 (l.map cI) 3)/\look 11 ev=some (a8 (sI q))) (fun _ r=>RunQ r) ?_ 0 _ _ ?_
 ·rintro q ev _ L hL ⟨hq4,e,pos,l,n,s,hl,hn,rfl,g2,g4,g8,g9,g10,g11⟩ ih;rw [Prg.e] at g2;by_cases hq:q<3
  ·have hs0:sI q=q:=by simp [sI];omega
   rw [hs0] at g11;obtain ⟨hk,hk'⟩:=Qm.1 (hst q hq);have hr:=readR q hq B pos hB s.p;have hla:(l.length+1)*8<=70368744177664:=by omega
   rcases hr with hr | ⟨hle,vals,hvl,hvo,hr⟩
   ·have hx:=VD p (staF q) (hdF q) q (hsx q hq) (hhd q hq) B pos hr e;rw [Envt.ce,Xd.e] at hx;simp only [Prg.e,rC] at hx;simp [c_190_l0,Xd.e,Envt.ce,rC,g2,g4,g8,g9,g10,g11,hk,hk',hx,hla,hnw,aB];exact ⟨e00,3,l++[(q:Int)],fun h=>absurd h (by decide),by simp [Envt.ce,cI]⟩
   ·have s':=s;obtain ⟨v0,v1,v2,k0,t0,t1,f0,f1,f2,rfl,-⟩:=s.x;have hx:=YG p (staF q) (hdF q) q (hsx q hq) (hhd q hq) B pos v0 v1 v2 k0 t0 t1 f0 f1 f2 0 0 0 0 [] hq (by simp) vals _ hr;obtain ⟨q',h1,h2,h3,htr⟩:=Bw q hq (eX q vals (eG v0 v1 v2 k0 t0 t1 f0 f1 f2 0 0 0 0 []));have sn:=UF s' hq hvl hvo rfl hle q' h1 h3;generalize eX q vals (eG v0 v1 v2 k0 t0 t1 f0 f1 f2 0 0 0 0 [])=e' at*;generalize eG v0 v1 v2 k0 t0 t1 f0 f1 f2 0 0 0 0 []=e at*;obtain ⟨pos',hpos'⟩:∃pos',pos+8*(q+1)=pos':=⟨_,rfl⟩;rw [hpos'] at hx sn;rw [Envt.ce,Envt.ce,Xd.e] at hx;rw [Envt.ce,Xd.e] at htr;simp only [Prg.e,rC] at hx;simp [c_190_l0,Xd.e,Envt.ce,rC,g2,g4,g8,g9,g10,g11,hk,hk',hx,htr,hla,hL,aB];refine ih q' _ _ (by omega) ⟨h2,e',pos',l++[(q:Int)],_,sn,by simp;omega,hn,by simp [Envt.ce,rC],by simp [g2,Prg.e],by simp [g4],by simp [g8],by simp [g9],by simp [cI],by simp⟩
  ·have hq34:q=3\/q=4:=by omega
   rcases hq34 with rfl | rfl
   ·have hs0:sI 3= -1:=rfl;rw [hs0] at g11;obtain ⟨v0,v1,v2,k0,t0,t1,f0,f1,f2,rfl,⟨o1,o2,o3,o4,o5,o6⟩,hv0,hv2⟩:=s.x;obtain ⟨j,rfl⟩:=s.j;have hp:=s.p;have hre:=ZJ B hB j (by omega);have e1:=hv0 (by decide);have e2:=hv2 rfl;subst e1 e2;obtain ⟨P,hP⟩:∃P,8*j=P:=⟨_,rfl⟩;rw [hP] at hre;simp only [rC] at hre;simp [c_190_l0,c_190_k1,Envt.ce,rC,hP,g2,g4,g8,g9,g10,g11,hre,hL,aB];refine ⟨eF v1 k0 t0 t1 f0 f1 f2 0 0 0 0 (B.drop j),0,l,fun _=>⟨v1,k0,t0,t1,f0,f1,f2,0,0,0,0,B.drop j,rfl,.inl rfl,⟨o1,o2,o3,o4,o5,o6,ok00,ok00,ok00⟩,fun x hx=>hBo x (B4 hx),by simp;omega⟩,?_⟩;simp [Envt.ce,eF,eG]
   ·have hs0:sI 4= -2:=rfl;rw [hs0] at g11;simp [c_190_l0,c_190_k1,Envt.ce,hnw,g2,g4,g8,g9,g10,g11,hL,aB];exact ⟨e00,15,l,fun h=>absurd h (by decide),by simp [Envt.ce]⟩
 ·refine ⟨by decide,e00,0,[],4,⟨⟨false,false,false,0,0,0,0,0,0,rfl,⟨ok00,ok00,ok00,ok00,ok00,ok00⟩,fun h=>absurd h (by decide),fun h=>absurd h (by decide)⟩,⟨0,rfl⟩,Qc _⟩,by simp,Qb _,by simp [Envt.ce,rC],by simp [Prg.e],by simp,by simp,by simp,by simp,by simp [sI]⟩
theorem YB {p:Prg} {B:List Int} (h:RunQ (aA Φ nH [.agg (Prg.c p),.slice 1 (B.map c8)])):∃(e:Envt) (f:Int),(f=0->EI e)/\aA Φ nB [.agg (Prg.c p),.slice 1 (B.map c8)]=some (.val (.tup [.agg (Envt.c e),a8 f])):=by
 obtain ⟨e,f,sts,h1,h2⟩:=h;refine ⟨e,f,h1,?_⟩;rw [aD rfl rfl];rw [Envt.ce] at h2;simp only [Prg.e] at h2;simp [E4,Prg.e,Envt.ce,h2,aB]
theorem V5 (B:List Int) (hB:B.length<=1000) (hBo:okB' B):∃(e:Envt) (f:Int),(f=0->EI e)/\aA Φ nB [.agg (Prg.c pF),.slice 1 (B.map c8)]=some (.val (.tup [.agg (Envt.c e),a8 f])):=by
 have c3:∀{Q:Nat->Prop},Q 0->Q 1->Q 2->∀q,q<3->Q q:=fun h0 h1 h2 q hq=>by
  have:q=0\/q=1\/q=2:=by omega
  rcases this with rfl | rfl | rfl
  ·exact h0
  ·exact h1
  ·exact h2
 exact YB (ZR B hB hBo (Z' B) new12 (c3 rfl rfl rfl) (c3 rfl rfl rfl) (c3 rfl rfl rfl))
def IsI (r:Option Rt):Prop:=∃f:Int,r=some (.val (a8 f))
theorem Oo (p:Prg) (h f:Int):∃k:Nat,k<=32/\wid p h f=k:=by
 unfold wid;cases decl p h f with
 | none=>exact ⟨0,by decide,rfl⟩
 | some w=>
  simp only;cases q:wBad w with
  | true=>exact ⟨0,by decide,rfl⟩
  | false=>
   obtain ⟨w1,w2⟩:=wBad_false.1 q;exact ⟨w.toNat,by omega,by simp;omega⟩
structure EnS (e:Envt):Prop where
 vl:e.valid.length=e.Ya.length
 fl:e.Ya.length<=1000
 rl:∀l∈e.Ya,l.length<=1000/\∀v∈l,ok32 0 v
 ml:e.metaF.length<=1000
 mo:∀v∈e.metaF,ok32 0 v
section
variable {p:Prg} {e:Envt} (s:EnS e)
include s
theorem Y3 (ev:Env) (n:Nat) (h3:look 3 ev=some (.iptr 4 [Envt.c e] 0 0)):IsI (go Φ (finP [.tmp 4]) [.c c_197_k8] .normal ⟨ev,⟨[],n⟩⟩):=by
 simp [c_197_k8];refine fF e.Ya.length (fun i ev h=>∃n,h=⟨[],n⟩/\look 3 ev=some (.iptr 4 [Envt.c e] 0 0)/\look 8 ev=some (a8 i)) IsI ?_ ?_ 0 _ _ (Qc _) ?_
 ·rintro i ev _ L hi hL ⟨n,rfl,h3,h8⟩ ih;have hw:IntKind.wrap .i64 ((i:Int)+1)=((i+1:Nat):Int):=fG (by omega) (by have:=s.fl;omega);have hv:i<e.valid.length:=by rw [s.vl];exact hi
  rw [Envt.ce] at h3;simp [c_197_l6,h3,h8,hi,hL];refine fF e.Ya[i].length (fun j ev h=>∃n,h=⟨[],n⟩/\look 3 ev=some (.iptr 4 [Envt.c e] 0 0)/\look 8 ev=some (a8 i)/\look 9 ev=some (a8 j)) IsI ?_ ?_ 0 _ _ (Qc _) ?_
  ·rintro j ev _ M hj hM ⟨n,rfl,h3,h8,h9⟩ ih2;have hw2:IntKind.wrap .i64 ((j:Int)+1)=((j+1:Nat):Int):=fG (by omega) (by have:=(s.rl _ (Qd hi)).1;omega);rw [Envt.ce] at h3;cases z:e.valid[i] with
   | true=>
    simp [c_197_l4,h3,h8,h9,hi,hj,hv,hM,cS,cB,c32,z,hw2];exact ih2 _ _ ⟨_,rfl,by simp [h3,Envt.ce],by simp [h8],by simp⟩
   | false=>
    by_cases z2:e.Ya[i][j]=0
    ·simp [c_197_l4,h3,h8,h9,hi,hj,hv,hM,cS,cB,c32,z,z2,hw2];exact ih2 _ _ ⟨_,rfl,by simp [h3,Envt.ce],by simp [h8],by simp⟩
    ·simp [c_197_l4,h3,h8,h9,hi,hj,hv,hM,cS,cB,c32,z,z2,hw2];exact ⟨5,rfl⟩
  ·rintro ev _ M hM ⟨n,rfl,h3,h8,h9⟩;rw [Envt.ce] at h3;simp [c_197_l4,c_197_k5,h3,h8,h9,hi,hM,cS,hw];exact ih _ _ ⟨_,rfl,by simp [h3,Envt.ce],by simp⟩
  ·exact ⟨_,rfl,by simp [h3,Envt.ce],by simp [h8],by simp⟩
 ·rintro ev _ L hL ⟨n,rfl,h3,h8⟩;rw [Envt.ce] at h3;simp [c_197_l6,c_197_k7,h3,h8,hL];exact ⟨0,rfl⟩
 ·exact ⟨_,rfl,by simp [h3],by simp⟩
theorem Y2 (ev:Env) (n:Nat) (h2:look 2 ev=some (.iptr 9 [Prg.c p] 0 0)) (h3:look 3 ev=some (.iptr 4 [Envt.c e] 0 0)):IsI (go Φ (finP [.tmp 4]) [.c c_197_k9] .normal ⟨ev,⟨[],n⟩⟩):=by
 simp [c_197_k9];refine fF e.metaF.length (fun i ev h=>∃n,h=⟨[],n⟩/\look 2 ev=some (.iptr 9 [Prg.c p] 0 0)/\look 3 ev=some (.iptr 4 [Envt.c e] 0 0)/\look 7 ev=some (a8 i)) IsI ?_ ?_ 0 _ _ (Qc _) ?_
 ·rintro i ev _ L hi hL ⟨n,rfl,h2,h3,h7⟩ ih;have hw:IntKind.wrap .i64 ((i:Int)+1)=((i+1:Nat):Int):=fG (by omega) (by have:=s.ml;omega);have q1:=Ea p (-1) i;obtain ⟨k,hk,hwk⟩:=Oo p (-1) i;rw [hwk] at q1;have q2:=Dc _ (s.mo _ (Qd hi)) k hk;rw [Envt.ce] at h3;simp only [Prg.e] at h2 q1;by_cases z:e.metaF[i]<2^k
  ·simp [c_197_l3,h2,h3,h7,hi,hL,q1,q2,c32,z,hw];exact ih _ _ ⟨_,rfl,by simp [h2,Prg.e],by simp [h3,Envt.ce],by simp⟩
  ·simp [c_197_l3,h2,h3,h7,hi,hL,q1,q2,c32,z,hw];exact ⟨9,rfl⟩
 ·rintro ev _ L hL ⟨n,rfl,h2,h3,h7⟩;have hc:=Y3 s;rw [Envt.ce] at h3;simp [c_197_l3,h3,h7,hL];exact hc _ _ (by simp [h3,Envt.ce])
 ·exact ⟨_,rfl,by simp [h2],by simp [h3],by simp⟩
theorem UC (hz:aA Φ zG [.agg (Prg.c p),.agg e.c]=some (.val (.bool true))):IsI (aA Φ rY [.agg (Prg.c p),.agg e.c]):=by
 rw [aD rfl rfl];rw [Envt.ce] at hz;simp only [Prg.e] at hz;simp [EG,Prg.e,Envt.ce,hz];refine fF e.Ya.length (fun i ev h=>∃n,h=⟨[],n⟩/\look 2 ev=some (.iptr 9 [Prg.c p] 0 0)/\look 3 ev=some (.iptr 4 [Envt.c e] 0 0)/\look 5 ev=some (a8 i)) IsI ?_ ?_ 0 _ _ (Qc _) ?_
 ·rintro i ev _ L hi hL ⟨n,rfl,h2,h3,h5⟩ ih;have hw:IntKind.wrap .i64 ((i:Int)+1)=((i+1:Nat):Int):=fG (by omega) (by have:=s.fl;omega);rw [Envt.ce] at h3;simp [c_197_l2,h3,h5,hi,hL];refine fF e.Ya[i].length (fun j ev h=>∃n,h=⟨[],n⟩/\look 2 ev=some (.iptr 9 [Prg.c p] 0 0)/\look 3 ev=some (.iptr 4 [Envt.c e] 0 0)/\look 5 ev=some (a8 i)/\look 6 ev=some (a8 j)) IsI ?_ ?_ 0 _ _ (Qc _) ?_
  ·rintro j ev _ M hj hM ⟨n,rfl,h2,h3,h5,h6⟩ ih2;have hro:=s.rl _ (Qd hi);have hw2:=aL j (by omega);have q1:=Ea p i j;obtain ⟨k,hk,hwk⟩:=Oo p i j;rw [hwk] at q1;have q2:=Dc _ (hro.2 _ (Qd hj)) k hk;rw [Envt.ce] at h3;simp only [Prg.e] at h2 q1;by_cases z:e.Ya[i][j]<2^k
   ·simp [c_197_l0,h2,h3,h5,h6,hi,hj,hM,q1,q2,cS,c32,z,hw2];exact ih2 _ _ ⟨_,rfl,by simp [h2,Prg.e],by simp [h3,Envt.ce],by simp [h5],by simp⟩
   ·simp [c_197_l0,h2,h3,h5,h6,hi,hj,hM,q1,q2,cS,c32,z,hw2];exact ⟨9,rfl⟩
  ·rintro ev _ M hM ⟨n,rfl,h2,h3,h5,h6⟩;rw [Envt.ce] at h3;simp [c_197_l0,c_197_k1,h3,h5,h6,hi,hM,cS,hw];exact ih _ _ ⟨_,rfl,by simp [h2],by simp [h3,Envt.ce],by simp⟩
  ·exact ⟨_,rfl,by simp [h2],by simp [h3,Envt.ce],by simp [h5],by simp⟩
 ·rintro ev _ L hL ⟨n,rfl,h2,h3,h5⟩;have hc:=Y2 (p:=p) s;rw [Envt.ce] at h3;simp [c_197_l2,h3,h5,hL];exact hc _ _ (by simp [h2]) (by simp [h3,Envt.ce])
 ·exact ⟨_,rfl,by simp [Prg.e],by simp [Envt.ce],by simp⟩
end
def WQ (N:Nat) (r:Option Rt):Prop:=∃(L':List Bool) (f:Int),L'.length<=N/\r=some (.val (.tup [.agg [.slice 1 (L'.map cB)],a8 f]))
theorem alBo (l:List Bool):d9 1 (l.map cB)=true:=fX 1 cB l fun x=>by simp
theorem XF (L:List Bool) (hL:L.length<=100000) (v:Int) (hv:ok32 0 v) (k:Nat) (h1:1<=k) (h2:k<=32):WQ (L.length+k) (aA Φ sK [.agg [.slice 1 (L.map cB)],.int .u32 v,a8 k]):=by
 rw [aD rfl rfl];have q1:=vw_ok k h1 h2;have q2:=RE v k hv;have b1:L.length<=70368744177664:=by omega
 have al:=alBo L;have hw0:IntKind.wrap .i64 ((k:Int) - 1)=((k - 1:Nat):Int):=by
  rw [show ((k:Int) - 1)=((k - 1:Nat):Int) by omega];exact fG (by omega) (by omega)
 cases z:fits v k with
 | false=>
  rw [z] at q2;simp [xH,q1,q2];exact ⟨L,9,by omega,by simp⟩
 | true=>
  rw [z] at q2;simp [xH,q1,q2,b1,al,hw0,aB];refine fF k (fun i e h=>∃(l:List Bool) (n:Nat),l.length=L.length+i/\2<=n/\h=⟨[(0,.row 1 [[.Xu 1 []]]),(1,.tok 1 l.length)],n⟩/\look 1 e=some (.int .u32 v)/\look 6 e=some (.ptr 0 1 0 0)/\look 8 e=some (.app 1 (l.map cB) 1)/\look 9 e=some (a8 ((k:Int) - 1 - i))) (WQ (L.length+k)) ?_ ?_ 0 _ _ (Qc _) ?_
  ·rintro i e _ M hi hM ⟨l,n,hl,hn,rfl,g1,g6,g8,g9⟩ ih;obtain ⟨j,hj⟩:∃j:Nat,(k:Int) - 1 - i=j:=⟨k - 1 - i,by omega⟩;rw [hj] at g9;have hwr:IntKind.wrap .i64 ((j:Int) - 1)=(k:Int) - 1 - ((i+1:Nat):Int):=by
    have:(j:Int) - 1=(k:Int) - 1 - ((i+1:Nat):Int):=by omega
    rw [this];by_cases z0:j=0
    ·rw [show (k:Int) - 1 - ((i+1:Nat):Int)= -1 by omega];rfl
    ·rw [show (k:Int) - 1 - ((i+1:Nat):Int)=((j - 1:Nat):Int) by omega];exact fG (by omega) (by omega)
   have b2:l.length+1<=70368744177664:=by omega
   have j0:¬(j:Int)<0:=by omega
   simp [c_257_l0,g1,g6,g8,g9,b2,j0,hwr,aB];exact ih _ _ ⟨l++[decide ((ishr IntKind.u32 v j).tmod 2=1)],n,by simp [hl];omega,hn,by simp,by simp [g1],by simp [g6],by simp [cB],by simp⟩
  ·rintro e _ M hM ⟨l,n,hl,hn,rfl,g1,g6,g8,g9⟩;have e1:(k:Int) - 1 - k= -1:=by omega
   rw [e1] at g9;simp [c_257_l0,c_257_k1,g6,g8,g9,hM,aB];exact ⟨l,0,by omega,by simp⟩
  ·exact ⟨L,2,rfl,Qb _,by simp,by simp,by simp,by simp,by simp;omega⟩
theorem TN (h:Xj) (hc:aA Φ dM [.agg (Xj.c h)]=some (.val (a8 0))) (hw:∀f∈h.Ya,1<=f.Yd/\f.Yd<=32) (hl:h.Ya.length<=100) (vals:List Int) (hv:∀v∈vals,ok32 0 v) (hvl:vals.length<=100) (L:List Bool) (hL:L.length<=90000):
  WQ (L.length+3200) (aA Φ yV [.agg (Xj.c h),.slice 1 (vals.map c32),.agg [.slice 1 (L.map cB)]]):=by
 rw [aD rfl rfl];simp only [Xj.e] at hc;by_cases z:vals.length=h.Ya.length
 rotate_left
 ·simp [wR,Xj.e,hc,z];exact ⟨L,2,by omega,by simp⟩
 simp [wR,Xj.e,hc,z,aB];refine fF vals.length (fun i e hp=>∃(l:List Bool) (n:Nat),l.length<=L.length+32*i/\2<=n/\hp=⟨[(0,.row 1 [[.Xu 1 []]]),(1,.row 1 [[.slice 1 (l.map cB)]])],n⟩/\look 1 e=some (.slice 1 (vals.map c32))/\look 3 e=some (.iptr 2 [Xj.c h] 0 0)/\look 5 e=some (.iptr 1 [[.slice 1 (L.map cB)]] 0 0)/\look 6 e=some (.ptr 0 1 0 0)/\look 9 e=some (.ptr 1 1 0 0)/\look 10 e=some (a8 i)) (WQ (L.length+3200)) ?_ ?_ 0 _ _ (Qc _) ?_
 ·rintro i e _ M hi hM ⟨l,n,hll,hn,rfl,g1,g3,g5,g6,g9,g10⟩ ih;have hwr:=aL i (by omega);have hif:i<h.Ya.length:=by omega
  obtain ⟨w1,w2⟩:=hw _ (Qd hif);obtain ⟨k,hk⟩:=fP (show 0<=h.Ya[i].Yd by omega);rw [hk] at w1 w2;obtain ⟨L',f,hL',hr⟩:=XF l (by omega) vals[i] (hv _ (Qd hi)) k (by omega) (by omega);simp only [Xj.e] at g3;have n0:¬n=0/\¬n=1/\¬n+11=0/\¬n+11=1/\¬0=n+11/\¬1=n+11:=by omega
  obtain ⟨z1,z2,z3,z4,z5,z6⟩:=n0;by_cases zf:f=0
  ·subst zf;simp [c_200_l0,Fld.e,g1,g3,g5,g6,g9,g10,hi,hif,hk,hr,hwr,c32,z1,z2,z3,z4,z5,z6,aC,aB,aR,bK];refine ih _ _ ⟨L',_,by omega,?_,by rfl,by simp [g1],by simp [g3,Xj.e],by simp [g5],by simp [g6],by simp [g9],by simp⟩;omega
  ·simp [c_200_l0,Fld.e,g1,g3,g5,g6,g9,g10,hi,hif,hk,hr,hwr,c32,zf,z1,z2,z3,z4,z5,z6,aC,aB,aR,bK];exact ⟨L,f,by omega,by simp⟩
 ·rintro e _ M hM ⟨l,n,hll,hn,rfl,g1,g3,g5,g6,g9,g10⟩;simp [c_200_l0,c_200_k1,g1,g6,g9,g10,hM,aB];exact ⟨l,0,by omega,by simp⟩
 ·exact ⟨L,2,by omega,Qb _,by simp,by simp,by simp [Xj.e],by simp,by simp,by simp,by simp⟩
def BQ (N:Nat) (r:Option Rt):Prop:=∃(l:List Int) (f:Int),okB' l/\l.length<=N/\r=some (.val (.tup [.slice 1 (l.map c8),a8 f]))
theorem wr8 (x:Int):0<=IntKind.wrap .u8 x/\IntKind.wrap .u8 x<=255:=by
 simp [IntKind.wrap,IntKind.bits,IntKind.signed];omega
theorem Pl {l:List Int} (h:okB' l) (k:Nat) (x:Int):okB' (l.set k (IntKind.wrap .u8 x)):=fun y hy=>by
 rcases Qq hy with hy | rfl
 ·exact h y hy
 ·exact wr8 x
theorem U8 (L:List Bool) (hL:L.length<=100000):BQ L.length (aA Φ yW [.agg [.slice 1 (L.map cB)]]):=by
 rw [aD rfl rfl];obtain ⟨M,hM⟩:∃M,M=L.length % 8:=⟨_,rfl⟩;obtain ⟨D,hD⟩:∃D,D=L.length / 8:=⟨_,rfl⟩;have hr1:(L.length:Int).tmod 8=M:=by rw [JM (by omega)];omega
 have hr2:((L.length:Int) % 8)=M:=by omega
 have hq0:(L.length:Int).tdiv 8=D:=by rw [LJ (by omega)];omega
 have hq3:((L.length:Int) / 8)=D:=by omega
 have hwD:IntKind.wrap .i64 (D:Int)=D:=fG (by omega) (by omega);by_cases z:M=0
 rotate_left
 ·simp [wT,hr1,hr2,z];exact ⟨[],10,by simp [okB'],by simp,by simp⟩
 have hDb:D<4611686018427387904/\D<=140737488355328:=by omega
 have hrep:∀D:Nat,List.replicate D [AV.int IntKind.u8 0]=(List.replicate D (0:Int)).map c8:=fun D=>by simp [c8]
 simp [wT,hr1,hr2,hq0,hq3,hwD,z,hDb];rw [hrep];refine fF L.length (fun i e h=>∃(l:List Int) (n:Nat),l.length=D/\okB' l/\h=⟨[(0,.row 1 (l.map c8))],n⟩/\look 1 e=some (.iptr 1 [[.slice 1 (L.map cB)]] 0 0)/\look 4 e=some (.row 0 1 0 D)/\look 5 e=some (a8 i)) (BQ L.length) ?_ ?_ 0 _ _ (Qc _) ?_
 ·rintro i e _ K hi hK ⟨l,n,hl,ho,rfl,g1,g4,g5⟩ ih;have hwr:=aL i (by omega);obtain ⟨j,hj⟩:∃j,j=i / 8:=⟨_,rfl⟩;have hjl:j<l.length:=by omega
  have hjD:j<D:=by omega
  have e0:(i:Int).tdiv 8=j:=by rw [LJ (by omega)];omega
  have e3:((i:Int) / 8)=j:=by omega
  have eD:IntKind.wrap .i64 (j:Int)=j:=fG (by omega) (by omega);have hm:∀x:Int,(l.map c8).set j [AV.int IntKind.u8 x]=(l.set j x).map c8:=fun x=>by simp [c8]
  cases q:L[i] with
  | true=>
   simp [c_201_l0,g1,g4,g5,hi,hK,e0,e3,eD,hjl,hjD,hl,cB,c8,q,hwr,aB];refine ih _ _ ⟨l.set j (IntKind.wrap .u8 (IntKind.wrap .u8 (2*l[j])+1)),n,by simp [hl],Pl ho _ _,by rw [<- hm],by simp [g1],by simp [g4],by simp⟩
  | false=>
   simp [c_201_l0,g1,g4,g5,hi,hK,e0,e3,eD,hjl,hjD,hl,cB,c8,q,hwr,aB];refine ih _ _ ⟨l.set j (IntKind.wrap .u8 (2*l[j])),n,by simp [hl],Pl ho _ _,by rw [<- hm],by simp [g1],by simp [g4],by simp⟩
 ·rintro e _ K hK ⟨l,n,hl,ho,rfl,g1,g4,g5⟩;have htk:(l.map c8).take D=l.map c8:=Qo (by simp [hl]);have hid:=fun H:AH=>CZ (g:=c8) (n:=38) (H:=H) (fun x=>by simp [c8]) l
  simp [c_201_l0,c_201_k1,g1,g4,g5,hK,hl,htk,hid];exact ⟨l,0,ho,by omega,by simp⟩
 ·exact ⟨List.replicate D 0,1,by simp,fun x hx=>by rw [PX hx];decide,by simp,by simp,by simp,by simp⟩
def EmQ (r:Option Rt):Prop:=∃l:List Int,okB' l/\l.length<=200000/\r=some (.val (.slice 1 (l.map c8)))
theorem I' {p:Prg} {e:Envt} (hck:aA Φ yT [.agg (Prg.c p)]=some (.val (.tup [a8 0,a8 0]))) (hce:IsI (aA Φ rY [.agg (Prg.c p),.agg e.c])) (hh:∀h∈p.Xp,aA Φ dM [.agg (Xj.c h)]=some (.val (a8 0))/\(∀f∈h.Ya,1<=f.Yd/\f.Yd<=32)/\h.Ya.length<=100)
  (hl:p.Xp.length<=20) (s:EnS e) (hfl:e.Ya.length=p.Xp.length) (hrl:∀l∈e.Ya,l.length<=100) (hd:p.Xs.length<=20) (hdv:∀d∈p.Xs,0<=d/\d<p.Xp.length) (hpl:e.payload.length<=1000) (hpo:okB' e.payload):
  EmQ (aA Φ kQ [.agg (Prg.c p),.agg e.c]):=by
 rw [aD rfl rfl];obtain ⟨fc,hce⟩:=hce;rw [Envt.ce] at hce;simp only [Prg.e] at hck hce;by_cases zc:fc=0
 rotate_left
 ·simp [wJ,Prg.e,Envt.ce,hck,hce,zc];exact ⟨[],by simp [okB'],by simp,by simp⟩
 subst zc;simp [wJ,Prg.e,Envt.ce,hck,hce];refine fF p.Xp.length (fun i ev h=>∃n,h=⟨[],n⟩/\look 2 ev=some (.iptr 9 [Prg.c p] 0 0)/\look 3 ev=some (.iptr 4 [Envt.c e] 0 0)/\look 7 ev=some (a8 i)) EmQ ?_ ?_ 0 _ _ (Qc _) ?_
 ·rintro i ev _ L hi hL ⟨n,rfl,h2,h3,h7⟩ ih;have hw:=aL i (by omega);have hc:=(hh _ (Qd hi)).1;simp only [Xj.e] at hc;rw [Prg.e] at h2;simp [c_136_l0,Xj.e,h2,h7,hi,hL,hc,hw];exact ih _ _ ⟨_,rfl,by simp [h2,Prg.e],by simp [h3],by simp⟩
 ·rintro ev _ L hL ⟨n,rfl,h2,h3,h7⟩;have hnw:aA Φ yU []=some (.val (.agg [.slice 1 []])):=by
   rw [aD rfl rfl];simp [EH]
  rw [Prg.e] at h2;simp [c_136_l0,c_136_k3,h2,h7,hL,hnw];refine fF p.Xs.length (fun i ev h=>∃(l:List Bool) (m:Nat),l.length<=3200*i/\n<m/\h=⟨[(n,.row 1 [[.slice 1 (l.map cB)]])],m⟩/\look 2 ev=some (.iptr 9 [Prg.c p] 0 0)/\look 3 ev=some (.iptr 4 [Envt.c e] 0 0)/\look 8 ev=some (.ptr n 1 0 0)/\look 9 ev=some (a8 i)) EmQ ?_ ?_ 0 _ _ (Qc _) ?_
  ·rintro i ev _ M hi hM ⟨l,m,hll,hnm,rfl,h2,h3,h8,h9⟩ ih;have hw:=aL i (by omega);obtain ⟨d1,d2⟩:=hdv _ (Qd hi);obtain ⟨k,hk⟩:=fP d1;have hkh:k<p.Xp.length:=by omega
   have hkf:k<e.Ya.length:=by omega
   have hkv:k<e.valid.length:=by rw [s.vl];exact hkf
   obtain ⟨c1,c2,c3⟩:=hh _ (Qd hkh);obtain ⟨L',f,hL',hwr⟩:=TN p.Xp[k] c1 c2 c3 e.Ya[k] (s.rl _ (Qd hkf)).2 (hrl _ (Qd hkf)) l (by omega);rw [Prg.e] at h2;rw [Envt.ce] at h3;simp only [Xj.e] at hwr;have n0:¬m=n/\¬n=m/\¬m+11=n/\¬n=m+11:=by omega
   obtain ⟨z1,z2,z3,z4⟩:=n0;have z5:∀k,¬m+k=n:=fun k=>by omega
   have z6:∀k,¬n=m+k:=fun k=>by omega
   have z7:∀k,(n == m+k)=false:=fun k=>by simp;omega
   cases hv:e.valid[k] with
   | true=>
    simp [c_136_l1,Xj.e,h2,h3,h8,h9,hi,hM,hw,cI,cB,cS,hk,hkh,hkf,hkv,hv,hwr,z1,z2,z3,z4,z5,z6,z7,aC,aB,aR,bK];refine ih _ _ ⟨L',_,by omega,?_,by rfl,by simp [h2,Prg.e],by simp [h3,Envt.ce,cS],by simp [h8],by simp⟩;omega
   | false=>
    simp [c_136_l1,Xj.e,h2,h3,h8,h9,hi,hM,hw,cI,cB,cS,hk,hkh,hkf,hkv,hv,aC,aB,aR,bK];exact ih _ _ ⟨l,_,by omega,hnm,by rfl,by simp [h2,Prg.e],by simp [h3,Envt.ce,cS],by simp [h8],by simp⟩
  ·rintro ev _ M hM ⟨l,m,hll,hnm,rfl,h2,h3,h8,h9⟩;obtain ⟨b,f,ob,hbl,hby⟩:=U8 l (by omega);rw [Prg.e] at h2;rw [Envt.ce] at h3;have b1:b.length<=70368744177664:=by omega
   have b2:b.length+e.payload.length<=70368744177664:=by omega
   have al1:=alB b;have al2:=alB e.payload;have z1:¬m=n:=by omega
   have z2:¬n=m:=by omega
   simp [c_136_l1,c_136_k2,h2,h3,h8,h9,hM,hby,b1,b2,al1,al2,z1,z2,aC,aB];exact ⟨b++e.payload,fun x hx=>by
    rcases eU.1 hx with hx | hx
    ·exact ob x hx
    ·exact hpo x hx,by simp;omega,by simp⟩
  ·exact ⟨[],_,by simp,vJ _,by simp,by simp [h2,Prg.e],by simp [h3],by simp,by simp⟩
 ·exact ⟨_,rfl,by simp [Prg.e],by simp [Envt.ce],by simp⟩
theorem Bo (b:Bool) (k0 t0 t1 f0 f1 f2 m0 m1 m2 m3:Int) (pay:List Int):aA Φ zG [.agg (Prg.c pF),.agg (eF b k0 t0 t1 f0 f1 f2 m0 m1 m2 m3 pay).c]=some (.val (.bool true)):=dT (n:=200) (by kernel_rfl)
theorem ck19:aA Φ yT [.agg (Prg.c pF)]=some (.val (.tup [a8 0,a8 0])):=dT (n:=200) (by kernel_rfl)
theorem EI.ens {e:Envt} (i:EI e):EnS e:=by
 obtain ⟨b,k0,t0,t1,f0,f1,f2,m0,m1,m2,m3,pay,rfl,hm,⟨o1,o2,o3,o4,o5,o6,o7,o8,o9⟩,hb,hpl⟩:=i.x;have om:ok32 0 m2:=by rcases hm with rfl | rfl<;>simp [ok32]
 exact ⟨rfl,by simp [eF],by simp [eF,o1,o2,o3,o4,o5,o6],by simp [eF],by simp [eF,o7,o8,o9,om]⟩
theorem XC {e:Envt} (i:EI e):EmQ (aA Φ kQ [.agg (Prg.c pF),.agg e.c]):=by
 have s:=i.ens;obtain ⟨b,k0,t0,t1,f0,f1,f2,m0,m1,m2,m3,pay,rfl,hm,ho,hb,hpl⟩:=i.x;have hw8:∀h∈pF.Xp,(∀f∈h.Ya,f.Yd=8)/\h.Ya.length<=100:=by decide
 exact I' ck19 (UC s (Bo ..)) (fun h hh=>⟨Ox h hh,fun f hf=>by rw [(hw8 h hh).1 f hf];decide,(hw8 h hh).2⟩) (by decide) s rfl (by simp [eF]) (by decide) (by decide) hpl hb
theorem Ra (l:List Int):conE pF [l]=if l.length=16 then (if l.any (fun v=>decide (65535<v)) then 9 else 0) else 2:=by
 have e1:szG pF [l] 0=if (l.length:Int)=16 then none else some 2:=rfl
 have e2:vlG pF [l] 0=if l.any (fun v=>decide (fC 16<v))=true then some 9 else none:=rfl
 have e3:fC 16=65535:=by decide
 rw [e3] at e2;unfold conE;rw [QA (by show ¬(1≠1);simp)];by_cases z:l.length=16
 ·have z':(l.length:Int)=16:=by omega
  rw [aE z'] at e1;have f1:fe (szG pF [l]) [l].length 0=none:=by rw [gA (show 0<[l].length by simp) e1];exact jG
  rw [f1,aE z];cases q:l.any (fun v=>decide (65535<v)) with
  | true=>
   rw [q] at e2;rw [fB (show 0<[l].length by simp) e2];rfl
  | false=>
   rw [q] at e2;have f2:fe (vlG pF [l]) [l].length 0=none:=by rw [gA (show 0<[l].length by simp) e2];exact jG
   rw [f2];rfl
 ·have z':¬(l.length:Int)=16:=by omega
  rw [QA z'] at e1;rw [fB (show 0<[l].length by simp) e1,QA z];rfl
theorem ZH {c:Xf} (g:GI c):∃l,c.Xm=[l]/\RI l:=by
 have h:=g.1.con;have hl1:c.Xm.length=1:=by
  unfold conE at h;split at h
  ·cases h
  rename_i hl;simp only [ne_eq,Decidable.not_not] at hl;exact hl
 obtain ⟨l,hc⟩:=List.length_eq_one_iff.1 hl1;have hg:=(g.2.gs l (by rw [hc];simp)).2;rw [hc,Ra] at h;split at h
 ·rename_i h16;split at h
  ·cases h
  rename_i hn;refine ⟨l,hc,h16,fun v hv=>⟨(hg v hv).1,?_⟩⟩;by_cases q:65535<v
  ·exact absurd (DV.2 ⟨v,hv,by simpa using q⟩) hn
  ·omega
 ·cases h
theorem WF {c:Xf} (g:GI c) {l:List Int} (r:RI l):GI { c with Xm:=[l] }:=by
 obtain ⟨v,s⟩:=g;refine ⟨⟨v.prg,v.rl,v.nl,v.dl,v.tab,?_⟩,⟨s.rl,s.rs,s.nl,s.dl,s.ds,by simp,fun l' hl'=>?_⟩⟩
 ·rw [Ra,aE r.1,QA];intro h;obtain ⟨v,hv,hq⟩:=DV.1 h;have:=(r.2 v hv).2;simp at hq;omega
 ·simp only [JP] at hl';subst hl';refine ⟨by have:=r.1;omega,fun v hv=>?_⟩;have:=r.2 v hv;simp only [ok32];omega
theorem Xf.regs (c:Xf) {l:List Int} (h:c.Xm=[l]):Xf.c c=[.slice 1 (c.rows.map (cS 5 Rw.c)),.slice 1 (c.Xr.map cI),.slice 2 (c.Xq.map Xb.c),.slice 1 [[.slice 1 (l.map c32)]]]:=by rw [Xf.e4,h];rfl
def StQ (l:List Int) (r:Option Rt):Prop:=r=some (.val (.tup [.agg [.slice 1 [],.slice 1 [],.slice 1 [],.slice 1 [],.slice 1 [],.slice 3 []],.bool false]))\/∃e,EI e/\r=some (.val (.tup [.agg (sC e l []),.bool true]))
theorem Z4 {p:Prg} {c:Xf} {l:List Int} (hc:c.Xm=[l]) (s:Int) (B:List Int) (h1:aA Φ uM [.agg (Prg.c p)]=some (.val (.agg (dgC (prgD p))))) (h0:(prgD p).1=0) (h2:aA Φ uH [.agg (Prg.c p),.agg (Xf.c c)]=some (.val (a8 0)))
  (h3:∃(e:Envt) (f:Int),(f=0->EI e)/\aA Φ nB [.agg (Prg.c p),.slice 1 (B.map c8)]=some (.val (.tup [.agg (Envt.c e),a8 f]))) (F:FX p):
  StQ l (aA Φ CQ [.agg (Prg.c p),.agg (Xf.c c),.agg [a8 s,.slice 1 (B.map c8)]]):=by
 rw [aD rfl rfl];rw [Xf.regs c hc] at h2 ⊢;obtain ⟨e,f,hf,h3⟩:=h3;rw [Envt.ce] at h3;simp only [Prg.e,dgC] at h1 h2 h3;by_cases s0:s<0
 ·simp [yG,Prg.e,h1,h0,h2,s0];exact .inl rfl
 by_cases s1:255<s
 ·simp [yG,Prg.e,h1,h0,h2,s0,s1];exact .inl rfl
 by_cases zf:f=0
 rotate_left
 ·simp [yG,Prg.e,h1,h0,h2,s0,s1,h3,zf];exact .inl rfl
 subst zf;obtain ⟨e',ie',hs⟩:=(hf rfl).set (p:=p) F.hw F.hw0 F.hw1 (-1) 0 (.inl ⟨rfl,.inl rfl⟩) (IntKind.wrap .u32 s) (wr32 s);rw [Envt.ce,Envt.ce] at hs;simp only [Prg.e] at hs;simp [yG,Prg.e,h1,h0,h2,s0,s1,h3,hs];exact .inr ⟨e',ie',by simp [sC_e]⟩
def FiQ (c:Xf) (r:Option Rt):Prop:=∃(x:Rslt) (l:List Int),(x.drop=false->0<=x.port)/\RI l/\okB' x.data/\x.data.length<=1000/\r=some (.val (.tup [.agg (Rslt.c x),.agg (Xf.c { c with Xm:=[l] })]))
theorem VE {p:Prg} {c:Xf} {e:Envt} {l:List Int} {hs:List Hit} (hc:∃l0,c.Xm=[l0]) (ie:EI e) (il:RI l) (hem:EmQ (aA Φ kQ [.agg (Prg.c p),.agg e.c])):
  FiQ c (aA Φ CR [.agg (Prg.c p),.agg (Xf.c c),.agg (sC e l hs)]):=by
 rw [aD rfl rfl];obtain ⟨l0,hc⟩:=hc;rw [Xf.regs c hc];obtain ⟨out,oo,ol,hem⟩:=hem;rw [Envt.ce] at hem;simp only [Prg.e] at hem;have hR:∀x:Rslt,Xf.c { c with Xm:=[l] }=[.slice 1 (c.rows.map (cS 5 Rw.c)),.slice 1 (c.Xr.map cI),.slice 2 (c.Xq.map Xb.c),.slice 1 [[.slice 1 (l.map c32)]]]:=fun x=>Xf.regs { c with Xm:=[l] } rfl
 obtain ⟨b,k0,t0,t1,f0,f1,f2,m0,m1,m2,m3,pay,rfl,hm,⟨_,_,_,_,_,_,_,o8,_⟩,-⟩:=ie.x;have hm1:0<=IntKind.wrap .i64 m1:=by
  have h1:=o8.1;have h2:=o8.2;obtain ⟨k,rfl⟩:=fP h1;rw [fG (by omega) (by omega)];exact h1
 simp [eF,cS,cB,c32] at hem;by_cases d:m2=1
 ·subst d;simp [C7,Prg.e,sC_e,eF,cS,cB,c32,hem,aB];refine ⟨⟨true,0,[],hs⟩,l,(fun h=>by cases h),il,by simp [okB'],by simp,?_⟩;rw [hR ⟨true,0,[],hs⟩];simp [Rslt.ce,cS,c32]
 ·have d0:m2=0:=by omega
  subst d0;by_cases z:512<out.length
  ·simp [C7,Prg.e,sC_e,eF,cS,cB,c32,hem,z,aB];refine ⟨⟨true,0,[],hs⟩,l,(fun h=>by cases h),il,by simp [okB'],by simp,?_⟩;rw [hR ⟨true,0,[],hs⟩];simp [Rslt.ce,cS,c32]
  ·simp [C7,Prg.e,sC_e,eF,cS,cB,c32,hem,z,aB];refine ⟨⟨false,IntKind.wrap .i64 m1,out,hs⟩,l,(fun _=>hm1),il,oo,by simp only;omega,?_⟩;rw [hR ⟨true,0,[],hs⟩];simp [Rslt.ce,cS,c32]
theorem ZS {p:Prg} {c:Xf} {l:List Int} (hc:c.Xm=[l]) (il:RI l) (s:Int) (B:List Int) (h1:StQ l (aA Φ CQ [.agg (Prg.c p),.agg (Xf.c c),.agg [a8 s,.slice 1 (B.map c8)]])) (h2:SubX p c 2 800 p.Yb)
  (h3:∀e l hs,EI e->RI l->FiQ c (aA Φ CR [.agg (Prg.c p),.agg (Xf.c c),.agg (sC e l hs)])):
  FiQ c (aA Φ lT [.agg (Prg.c p),.agg (Xf.c c),.agg [a8 s,.slice 1 (B.map c8)]]):=by
 rw [aD rfl rfl];have hcc:({ c with Xm:=[l] }:Xf)=c:=by rw [<- hc]
 rcases h1 with h1 | ⟨e,ie,h1⟩
 ·rw [Xf.regs c hc] at h1 ⊢;simp only [Prg.e] at h1;simp [HE,Prg.e,h1,aB];refine ⟨⟨true,0,[],[]⟩,l,(fun h=>by cases h),il,by simp [okB'],by simp,?_⟩;rw [hcc,Xf.regs c hc];simp [Rslt.ce]
 ·obtain ⟨e2,l2,hs2,ie2,il2,-,h2⟩:=h2 e l [] 0 ie il (by simp) (by decide);obtain ⟨x,l3,px,il3,ox,olx,h3⟩:=h3 e2 l2 hs2 ie2 il2;refine ⟨x,l3,px,il3,ox,olx,?_⟩;rw [Rslt.ce,Xf.regs { c with Xm:=[l3] } rfl] at h3 ⊢;rw [Xf.regs c hc] at h1 h2 h3 ⊢;simp only [Prg.e,sC_e] at h1 h2 h3;simp only [DY] at h1 h2;simp [HE,Prg.e,h1,h2,h3,aB]
theorem Nn {c:Xf} (g:GI c) (s:Int) (B:List Int) (hB:B.length<=1000) (hBo:okB' B):FiQ c (aA Φ lT [.agg (Prg.c pF),.agg (Xf.c c),.agg [a8 s,.slice 1 (B.map c8)]]):=by
 obtain ⟨l,hc,il⟩:=ZH g;have h2:=RF pF (GE LF) ST pcF c g.2;rw [(ID pF c).2 g.1] at h2;exact ZS hc il s B (Z4 hc s B pcF.2 ZD h2 (V5 B hB hBo) fxF) (G' g) fun e l' hs ie il'=>VE ⟨l,hc⟩ ie il' (XC ie)
theorem VN {p:Prg} {c:Xf} {s:Int} {B:List Int} (hp:aA Φ lR []=some (.val (.agg (Prg.c p)))) (h:FiQ c (aA Φ lT [.agg (Prg.c p),.agg (Xf.c c),.agg [a8 s,.slice 1 (B.map c8)]])):
  FiQ c (aA Φ dX [.agg (Xf.c c),.agg [a8 s,.slice 1 (B.map c8)]]):=by
 rw [aD rfl rfl];obtain ⟨x,l,px,il,ox,ol,h⟩:=h;refine ⟨x,l,px,il,ox,ol,?_⟩;rw [Rslt.ce,Xf.regs { c with Xm:=[l] } rfl] at h ⊢;rw [Xf.e4] at h ⊢;simp only [Prg.e] at hp h;simp [HD,hp,h,aB]
theorem GI.cc {c:Xf} (g:GI c):CfgC c:=by
 obtain ⟨v,s⟩:=g;refine ⟨s.rl,fun l hl=>⟨?_,fun r hr=>⟨((s.rs l hl).2 r hr).kl,((s.rs l hl).2 r hr).al⟩⟩,s.nl,s.dl,fun d hd=>(s.ds d hd).1,s.gl,fun l hl=>(s.gs l hl).1⟩;obtain ⟨k,hk,rfl⟩:=Qn.1 hl;have hk3:k<pF.Xn.length:=by rw [<- v.rl];exact hk
 have h2:k<c.Xq.length:=by rw [v.dl];exact hk3
 have h3:k<c.Xr.length:=by rw [v.nl];exact hk3
 have tv:=(v.tab k _ _ _ _ (Qa hk3) (Qa hk) (Qa h3) (Qa h2)).size;have hs:∀tb∈pF.Xn,tb.size<=256:=by decide
 have:=hs _ (Qd hk3);omega
theorem Ib:∃P,PrcOk dX GI P:=by
 refine Af (fun c s d g hd hl=>?_) fun c g=>?_
 ·obtain ⟨x,l,_,il,ox,ol,h⟩:=VN KS (Nn g s d hl hd);exact ⟨x,_,h,WF g il,ox,ol⟩
 ·exact g.cc
def LgQ (ports:List Int) (links:List Link) (hosts:List PortID) (cs:List Xf) (acts:List Act) (x:Option Rt):Prop:=
 ∃b,x=some (.val (.bool b))/\(b=false->ports.length<=20/\links.length<=40/\hosts.length<=20/\cs.length<=20/\acts.length<=40/\∀a∈acts,a.data.length<=600/\a.upd.ops.length<=70)
theorem En (ports:List Int) (links:List Link) (hosts:List PortID) (cs:List Xf) (acts:List Act) (h5:∀c∈cs,c.rows.length<2^40):
  LgQ ports links hosts cs acts (aA Φ MS [.agg [.slice 1 (ports.map cI),.slice 5 (links.map Link.c),.slice 2 (hosts.map PortID.c)],.slice 4 (cs.map Xf.c),.slice 6 (acts.map Act.c)]):=by
 rw [aD rfl rfl];by_cases a1:20<ports.length
 ·exact ⟨true,by simp [HJ,a1],by simp⟩
 by_cases a2:40<links.length
 ·exact ⟨true,by simp [HJ,a1,a2],by simp⟩
 by_cases a3:20<hosts.length
 ·exact ⟨true,by simp [HJ,a1,a2,a3],by simp⟩
 by_cases a4:20<cs.length
 ·exact ⟨true,by simp [HJ,a1,a2,a3,a4],by simp⟩
 by_cases a5:40<acts.length
 ·exact ⟨true,by simp [HJ,a1,a2,a3,a4,a5],by simp⟩
 simp [HJ,a1,a2,a3,a4,a5];refine Fb cs.length (fun i e=>look 1 e=some (.slice 4 (cs.map Xf.c))/\look 2 e=some (.slice 6 (acts.map Act.c))/\look 8 e=some (a8 i)/\∃q:Int,look 7 e=some (a8 q)) (LgQ ports links hosts cs acts) ?_ ?_ 0 _ (Qc _) ?_
 ·rintro i e L hi hL ⟨q1,q2,q8,q,q7⟩ ih;have hw:=aL i (by omega);simp [c_7_l2,q1,q2,q7,q8,hi,hL];obtain ⟨rows,hrows⟩:∃rows,cs[i].rows=rows:=⟨_,rfl⟩;have hrl:rows.length<2^40:=by rw [<- hrows];exact h5 _ (Qd hi)
  refine Fb rows.length (fun k e=>look 1 e=some (.slice 4 (cs.map Xf.c))/\look 2 e=some (.slice 6 (acts.map Act.c))/\look 8 e=some (a8 i)/\look 9 e=some (a8 k)/\∃q:Int,look 7 e=some (a8 q)) (LgQ ports links hosts cs acts) ?_ ?_ 0 _ (Qc _) ?_
  ·rintro k e' L' hk hL' ⟨p1,p2,p8,p9,q,p7⟩ ih';have hw':=aL k (by omega);have hgk:(rows.map fun r=>cS 5 Rw.c r)[k]? =some [.slice 5 (rows[k].map Rw.c)]:=by simp [hk,cS]
   simp [c_7_l0,p1,p2,p7,p8,p9,hi,hk,hL',hw',Xf.c,hrows,hgk,cS];exact ih' _ ⟨by simp [p1],by simp [p2],by simp [p8],by simp,IntKind.wrap .i64 (q+(rows[k].length:Int)),by simp⟩
  ·rintro e' L' hL' ⟨p1,p2,p8,p9,q,p7⟩;simp [c_7_l0,c_7_k1,p1,p2,p7,p8,p9,hi,hL',Xf.c,hrows,hw];exact ih _ ⟨by simp [p1],by simp [p2],by simp,q,by simp [p7]⟩
  ·simp [q1,q2,q7,q8]
 ·rintro e L hL ⟨q1,q2,q8,q,q7⟩;simp [c_7_l2,c_7_k5,q1,q2,q7,q8,hL];refine Fb acts.length (fun i e=>look 2 e=some (.slice 6 (acts.map Act.c))/\look 7 e=some (a8 q)/\look 10 e=some (a8 i)/\∀a∈acts.take i,a.data.length<=600/\a.upd.ops.length<=70) (LgQ ports links hosts cs acts) ?_ ?_ 0 _ (Qc _) ?_
  ·rintro i e L hi hL ⟨q2,q7,q10,hall⟩ ih;have hw:=aL i (by omega);by_cases z1:600<acts[i].data.length
   ·simp [c_7_l3,q2,q10,hi,hL,Act.ce,z1];exact ⟨true,rfl,by simp⟩
   by_cases z2:70<acts[i].upd.ops.length
   ·simp [c_7_l3,q2,q10,hi,hL,Act.ce,z1,z2];exact ⟨true,rfl,by simp⟩
   simp [c_7_l3,q2,q10,hi,hL,Act.ce,z1,z2,hw];refine ih _ ⟨by simp [q2],by simp [q7],by simp,?_⟩;intro a ha;rw [Qh hi] at ha;rcases eU.1 ha with ha | ha
   ·exact hall a ha
   ·simp at ha;subst ha;omega
  ·rintro e L hL ⟨q2,q7,q10,hall⟩;rw [iI] at hall;simp [c_7_l3,c_7_k4,q2,q7,q10,hL];exact ⟨_,rfl,fun _=>⟨by omega,by omega,by omega,by omega,by omega,hall⟩⟩
  ·simp [q2,q7]
 ·simp
end Go.Av
