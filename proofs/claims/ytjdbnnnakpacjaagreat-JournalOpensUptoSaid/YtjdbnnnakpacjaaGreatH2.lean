/-
 Configurations and stores in mutable memory.
-/
import Derived.Test.YtjdbnnnakpacjaaGreatE1K
import Derived.Test.YtjdbnnnakpacjaaGreatFunsAU
import Derived.KernelRfl
set_option linter.unusedVariables false
set_option linter.unusedSimpArgs false
namespace Go.Av
theorem qye {α:Type} {f:α->Option α}:∀{l:List α},(∀x∈l,f x=some x)->mapO f l=some l
 | [],_=>rfl
 | a::l,h=>by
  have h1:=h a (by simp);have h2:=qye (f:=f) (l:=l) fun x hx=>h x (by simp [hx])
  simp only [mapO,h1,h2]
variable {n:Nat} {H:AH} {α:Type}
theorem HI {g:α->List AV} (h:∀x,mapO (snap n H) (g x)=some (g x)) (l:List α):mapO (mapO (snap n H)) (l.map g)=some (l.map g):=by
 refine qye fun x hx=>?_
 obtain ⟨y,_,rfl⟩:=kY.1 hx;exact h y
theorem YS (r:Rw):mapO (snap (n+1) H) (Rw.c r)=some (Rw.c r):=by simp [Rw.c]
theorem Pd (x:Int):mapO (snap (n+1) H) (cI x)=some (cI x):=by simp [cI]
theorem qwh (x:Xb):mapO (snap (n+1) H) (Xb.c x)=some (Xb.c x):=by simp [Xb.c]
structure CfgM (O:List (Nat×AO)) (v1 v2 v3 v4:AV) (V:List AV) (c:Xf):Prop where
 r:Mu O 1 v1 (V.map fun v=>[v])
 rl:V.length=c.rows.length
 rv:∀(k:Nat) (v:AV) (l:List Rw),V[k]? =some v->c.rows[k]? =some l->Mu O 5 v (l.map Rw.c)
 n:Mu O 1 v2 (c.Xr.map cI)
 d:Mu O 2 v3 (c.Xq.map Xb.c)
 g:v4= .Xu 1 (c.Xm.map (cS 1 c32))\/∃t,v4= .app 1 (c.Xm.map (cS 1 c32)) t
 rn:∀i,vid v1=some i->vid v2=some i->False
 vi:∀(k k':Nat) (v v':AV) (i:Nat),V[k]? =some v->V[k']? =some v'->vid v=some i->vid v'=some i->k=k'
 va:∀v∈V,∀z es t,v≠ .app z es t
def CfgM.own (v1 v2 v3:AV) (V:List AV) (j:Nat):Prop:=vid v1=some j\/vid v2=some j\/vid v3=some j\/∃v∈V,vid v=some j
theorem CfgM.fr {O O':List (Nat×AO)} {v1 v2 v3 v4:AV} {V:List AV} {c:Xf} (h:CfgM O v1 v2 v3 v4 V c) (hf:∀j,CfgM.own v1 v2 v3 V j->look j O'=look j O):CfgM O' v1 v2 v3 v4 V c:=by
 refine ⟨h.r.fr fun j hj=>hf j (.inl hj),h.rl,?_,h.n.fr fun j hj=>hf j (.inr (.inl hj)),h.d.fr fun j hj=>hf j (.inr (.inr (.inl hj))),h.g,h.rn,h.vi,h.va⟩;intro k v l hv hl;exact (h.rv k v l hv hl).fr fun j hj=>hf j (.inr (.inr (.inr ⟨v,Qe hv,hj⟩)))
theorem qsw {α I:Type} {f:α->Option I}:∀{l:List α} {m:List I},l.length=m.length->(∀(k:Nat) (x:α) (y:I),l[k]? =some x->m[k]? =some y->f x=some y)->mapO f l=some m
 | [],[],_,_=>rfl
 | [],_::_,h,_=>by simp at h
 | _::_,[],h,_=>by simp at h
 | a::l,b::m,h,hf=>by
  have h1:=hf 0 a b (by simp) (by simp);have h2:=qsw (f:=f) (l:=l) (m:=m) (by simpa using h) fun k x y hx hy=>hf (k+1) x y (by simpa using hx) (by simpa using hy)
  simp only [mapO,h1,h2]
theorem CfgM.snpR {O:List (Nat×AO)} {v1 v2 v3 v4:AV} {V:List AV} {c:Xf} {n N:Nat} (h:CfgM O v1 v2 v3 v4 V c):snap (n+4) ⟨O,N⟩ v1=some (.slice 1 (c.rows.map (cS 5 Rw.c))):=by
 have e1:mapO (mapO (snap (n+3) ⟨O,N⟩)) (V.map fun v=>[v])=some (c.rows.map (cS 5 Rw.c)):=by
  refine qsw (by simp [h.rl]) ?_;intro k x y hx hy;rw [List.getElem?_map] at hx hy;cases hv:V[k]? with
  | none=>rw [hv] at hx;cases hx
  | some v=>
   cases hl:c.rows[k]? with
   | none=>rw [hl] at hy;cases hy
   | some l=>
    rw [hv] at hx;rw [hl] at hy;cases hx;cases hy;have:=(h.rv k v l hv hl).snp (N:=N) (n:=n+2);simp only [mapO,this,HI (n:=n+2) (H:=⟨O,N⟩) (fun x=>YS x) l,A6,cS]
 have k1:=h.r.snp (N:=N) (n:=n+3);rw [e1] at k1;exact k1
theorem CfgM.snpN {O:List (Nat×AO)} {v1 v2 v3 v4:AV} {V:List AV} {c:Xf} {n N:Nat} (h:CfgM O v1 v2 v3 v4 V c):snap (n+4) ⟨O,N⟩ v2=some (.slice 1 (c.Xr.map cI)):=by
 have k2:=h.n.snp (N:=N) (n:=n+3);rw [HI (n:=n+3) (H:=⟨O,N⟩) (fun x=>Pd x)] at k2;exact k2
theorem CfgM.snpD {O:List (Nat×AO)} {v1 v2 v3 v4:AV} {V:List AV} {c:Xf} {n N:Nat} (h:CfgM O v1 v2 v3 v4 V c):snap (n+4) ⟨O,N⟩ v3=some (.slice 2 (c.Xq.map Xb.c)):=by
 have k3:=h.d.snp (N:=N) (n:=n+3);rw [HI (n:=n+3) (H:=⟨O,N⟩) (fun x=>qwh x)] at k3;exact k3
theorem CfgM.snpG {O:List (Nat×AO)} {v1 v2 v3 v4:AV} {V:List AV} {c:Xf} {n N:Nat} (h:CfgM O v1 v2 v3 v4 V c):snap (n+4) ⟨O,N⟩ v4=some (.slice 1 (c.Xm.map (cS 1 c32))):=by
 rcases h.g with hg | ⟨t,hg⟩<;>subst hg<;>simp
@[simp] theorem a0o (b x:Bool) (H:AH):FV b H (some (.val (.bool x)))=some (.val (.bool x),H):=by cases b<;>simp
@[simp] theorem a0t (b:Bool) (k:IntKind) (x:Int) (H:AH):FV b H (some (.val (.int k x)))=some (.val (.int k x),H):=by cases b<;>simp
variable {O O':List (Nat×AO)} {N k N':Nat} {X:Nat->Prop}
set_option maxRecDepth 4000
theorem TD (hK:Kp X N O O') (hT:Tail O' N') (hN:N<=N') (o:AO):Kp X N O (O'++[(N'+k,o)])/\Tail (O'++[(N'+k,o)]) (N'+k+1)/\look (N'+k) (O'++[(N'+k,o)])=some o:=by
 refine ⟨?_,?_,?_⟩
 ·intro j hj hx;have:¬N'+k=j:=by omega
  rw [aV,hK j hj hx];simp [this]
 ·rw [Tail_append_iff,s5];exact ⟨hT.mono (by omega),by omega,Tail.nil _⟩
 ·rw [aV,hT _ (by omega)];simp
variable {id:Nat}
theorem hp_mv (hK:Kp X N O O') (hT:Tail O' N') (hN:N<=N') (hid:N<=id) (o:AO):Kp X N O (eG id O'++[(N'+k,o)])/\Tail (eG id O'++[(N'+k,o)]) (N'+k+1)/\look (N'+k) (eG id O'++[(N'+k,o)])=some o:=by
 have h1:Kp X N O (eG id O'):=by
  intro j hj hx;rw [mD (by omega),hK j hj hx]
 exact TD h1 (OG hT) hN o
variable {l:List Rw} {i j:Nat} {es0:List (List AV)} {x:AO}
theorem TB (hi:i<l.length) (ht:es0.take (l.map Rw.c).length=l.map Rw.c):es0[i]? =some (Rw.c l[i]):=by
 have h:(es0.take (l.map Rw.c).length)[i]? =(l.map Rw.c)[i]? :=by rw [ht]
 rw [List.getElem?_take_of_lt (by simpa using hi)] at h;rw [h];simp [hi]
section
variable {I:Type} {fin:Option (Ex×St)->Option I}
theorem qx1 (l:List Rw) (hs:∀r∈l,rowS r) (hl:l.length<2^39) (v:AV) (K:List Fr) (Q:Option I->Prop) (e:Env) (O:List (Nat×AO)) (N:Nat) (hT:Tail O N) (hv:Re O 5 v (l.map Rw.c))
  (h6:look 6 e=some (.Xu 5 [])) (h24:look 24 e=some v) (h25:look 25 e=some (a8 l.length)) (h26:look 26 e=some (a8 0))
  (hK:∀e' O' N' w,Mu O' 5 w (l.map Rw.c)->(∀j,vid w=some j->N<=j)->(∀z es t,w≠ .app z es t)->Kp (fun _=>False) N O O'->Tail O' N'->N<=N'->look 6 e'=some w->
   look 1 e'=look 1 e->look 2 e'=look 2 e->look 3 e'=look 3 e->look 18 e'=look 18 e->look 19 e'=look 19 e->look 20 e'=look 20 e->Q (go Φ fin K .normal ⟨e',⟨O',N'⟩⟩)):
  Q (go Φ fin (.c (.loop c_92_l0):: .b 2::K) .normal ⟨e,⟨O,N⟩⟩):=by
 refine I4 l.length (fun i e' h=>∃O' N' w,h=⟨O',N'⟩/\((i=0/\w= .Xu 5 [])\/∃id,w= .row id 5 0 i/\look id O'=some (.row 5 ((l.take i).map Rw.c))/\N<=id)/\Kp (fun _=>False) N O O'/\Tail O' N'/\N<=N'/\look 6 e'=some w/\look 24 e'=some v/\look 25 e'=some (a8 l.length)/\look 26 e'=some (a8 i)/\
   look 1 e'=look 1 e/\look 2 e'=look 2 e/\look 3 e'=look 3 e/\look 18 e'=look 18 e/\look 19 e'=look 19 e/\look 20 e'=look 20 e) Q ?_ ?_ 0 _ _ (Qc _) ?_
 ·rintro i e' _ L hi hL ⟨O',N',w,rfl,hw,hk,hT',hN,h6,h24,h25,h26,g1,g2,g3,g18,g19,g20⟩ ih;have hw1:=aL i (by omega);have hc:=It l[i] (hs _ (Qd hi));have hT0:=hT' N' (Qb _);have hT1:=hT' (N'+1) (by omega);have hm:min i l.length=i:=by omega
  have hd1:∀id,look (N'+1) (eG id O')=none:=fun id=>LJ _ hT1
  have htk:(l.map Rw.c).take (i+1)=(l.map Rw.c).take i++[Rw.c l[i]]:=jS hi;rw [Rw.ce] at htk;have hb:(i+1)*72<=70368744177664:=by omega
  simp only [Rw.ce] at hc;have hv':Re O' 5 v (l.map Rw.c):=by
   refine hv.fr fun j hj=>?_
   cases hv with
   | row id _ es0 n hn hl hle ht=>cases hj;exact hk j (hT.lt hl) (by simp)
   | sl=>cases hj
   | fs=>cases hj
   | ap=>cases hj
  have hw0:min i (l.map Rw.c).length=i:=by simp;omega
  rcases hw with ⟨rfl,rfl⟩ | ⟨id,rfl,hlk,hid⟩
  ·obtain ⟨a1,a2,a3⟩:=TD (k:=1) hk hT' hN (.row 5 ((l.take (0+1)).map Rw.c));cases hv' with
   | row id' _ es0 n hn hl' hle ht=>
    have h0:=TB hi ht;simp [c_92_l0,Rw.ce,h6,h24,h25,h26,hi,hc,hT0,hT1,hn,hl',h0,wr1];refine ih _ _ ⟨_,N'+1+1,.row (N'+1) 5 0 (0+1),by simp at htk;simp [htk],.inr ⟨N'+1,rfl,a3,by omega⟩,a1,a2,by omega,?_,?_,?_,?_,?_,?_,?_,?_,?_,?_⟩<;>simp [*]
   | _=>
    simp [c_92_l0,Rw.ce,h6,h24,h25,h26,hi,hc,hT0,hT1,wr1];refine ih _ _ ⟨_,N'+1+1,.row (N'+1) 5 0 (0+1),by simp at htk;simp [htk],.inr ⟨N'+1,rfl,a3,by omega⟩,a1,a2,by omega,?_,?_,?_,?_,?_,?_,?_,?_,?_,?_⟩<;>simp [*]
  ·obtain ⟨a1,a2,a3⟩:=hp_mv (k:=1) hk hT' hN hid (.row 5 ((l.take (i+1)).map Rw.c));cases hv' with
   | row id' _ es0 n hn hl' hle ht=>
    have h0:=TB hi ht;simp [c_92_l0,Rw.ce,h6,h24,h25,h26,hi,hc,hT0,hn,hl',h0,hw1,hlk,hb,hm,hd1];refine ih _ _ ⟨_,N'+1+1,.row (N'+1) 5 0 (i+1),by simp [htk],.inr ⟨N'+1,rfl,a3,by omega⟩,a1,a2,by omega,?_,?_,?_,?_,?_,?_,?_,?_,?_,?_⟩<;>simp [*]
   | _=>
    simp [c_92_l0,Rw.ce,h6,h24,h25,h26,hi,hc,hT0,hw1,hlk,hb,hm,hd1];refine ih _ _ ⟨_,N'+1+1,.row (N'+1) 5 0 (i+1),by simp [htk],.inr ⟨N'+1,rfl,a3,by omega⟩,a1,a2,by omega,?_,?_,?_,?_,?_,?_,?_,?_,?_,?_⟩<;>simp [*]
 ·rintro e' _ L hL ⟨O',N',w,rfl,hw,hk,hT',hN,h6,h24,h25,h26,g1,g2,g3,g18,g19,g20⟩;simp [c_92_l0,h25,h26,hL];refine hK _ O' N' w ?_ ?_ ?_ hk hT' hN ?_ ?_ ?_ ?_ ?_ ?_ ?_<;>try simp [h6,g1,g2,g3,g18,g19,g20]
  ·rcases hw with ⟨hz,rfl⟩ | ⟨id,rfl,hlk,hid⟩
   ·have:l=[]:=Qg hz;subst this;exact .nilF
   ·rw [i9] at hlk;exact .row id _ _ _ (by simp) hlk (Qb _) (by rw [i9])
  ·rcases hw with ⟨hz,rfl⟩ | ⟨id,rfl,hlk,hid⟩
   ·intro j hj;cases hj
   ·intro j hj;cases hj;exact hid
  ·rcases hw with ⟨hz,rfl⟩ | ⟨id,rfl,hlk,hid⟩<;>intro z es t ht<;>cases ht
 ·exact ⟨O,N,.Xu 5 [],rfl,.inl ⟨rfl,rfl⟩,fun _ _ _=>rfl,hT,Qb _,h6,h24,h25,h26,rfl,rfl,rfl,rfl,rfl,rfl⟩
end
section
variable {O O':List (Nat×AO)} {N N' n id:Nat} {X:Nat->Prop} {o y:AO}
theorem Kp.app (h:Kp X N O O') (hn:N<=n):Kp X N O (O'++[(n,o)]):=by
 intro j hj hx;have:¬n=j:=by omega
 rw [aV,h j hj hx];simp [this]
theorem Kp.drop (h:Kp X N O O') (hn:N<=id\/X id):Kp X N O (eG id O'):=by
 intro j hj hx;rw [mD (by rintro rfl;rcases hn with hn | hn;omega;exact hx hn),h j hj hx]
theorem Kp.setl (h:Kp X N O O') (hn:N<=id\/X id):Kp X N O (setl id y O'):=by
 intro j hj hx;rw [aG,QA (by rintro rfl;rcases hn with hn | hn;omega;exact hx hn),h j hj hx]
theorem Tail.app1 (h:Tail O' N') (hn:N'<=n):Tail (O'++[(n,o)]) (n+1):=by
 rw [Tail_append_iff,s5];exact ⟨h.mono (by omega),by omega,Tail.nil _⟩
theorem Kp.lk (h:Kp X N O O') (hT:Tail O N) {j:Nat} {x:AO} (hl:look j O=some x) (hx:¬X j):look j O'=some x:=by
 rw [h j (hT.lt hl) hx,hl]
theorem b8 {y:AO} (h1:look id O=some x) (h2:look j O=some y) (h:x≠y):id≠j:=by
 rintro rfl;rw [h1] at h2;cases h2;exact h rfl
theorem oN (hT:Tail O N) (h1:look j O=some x) (hn:N<=n):¬j=n/\¬n=j:=by
 have:=hT.lt h1;omega
end
theorem Re.src {O:List (Nat×AO)} {z N:Nat} {v:AV} {es:List (List AV)} (h:Re O z v es):kF ⟨O,N⟩ v=some es:=by
 cases h with
 | sl=>rfl
 | fs=>rfl
 | ap=>rfl
 | row id _ es0 n hn hl hle ht=>
  subst hn;simp [hl,hle,ht]
variable {v:AV}
theorem Ij (hT:Tail O N) {l:List Int} (h:Re O 1 v (l.map cI)) (hl:l.length<2^40):
  ∃w o,aN Φ gJ [v] ⟨O,N⟩=some (.val w,⟨O++[(N,o)],N+1⟩)/\Mu (O++[(N,o)]) 1 w (l.map cI)/\∀j,vid w=some j->N<=j:=by
 have hr:Φ gJ=some (.rule (yM 1 8 .row)):=rfl;rw [Su Φ hr];have hN:=hT N (Qb _);have hs:=h.src (N:=N);have hlen:=h.len;cases l with
 | nil=>
  refine ⟨.app 1 [] N,.tok 1 0,?_,.nilA _,fun j hj=>by cases hj⟩;simp only [yM,hlen,QB,mI];simp only [QB] at hs;simp only [hs,evR];simp [hN]
 | cons x l=>
  have ha:kS 1 ((x::l).map cI)=true:=sK 1 cI (x::l) fun x=>by simp
  refine ⟨.row N 1 0 ((x::l).map cI).length,.row 1 ((x::l).map cI),?_,?_,fun j hj=>by cases hj;omega⟩
  ·have hb:((x::l).map cI).length*8<=2^46:=by rw [dQ];omega
   have hne:(x::l).map cI≠[]:=by simp
   simp only [yM,hlen,dQ,mH,evR];have e0:evOp [(5,.Xu 1 []),(6,v)] N ⟨O,N⟩ (.append .row 1 8 (.t 5) (.t 6))=some (.row N 1 0 ((x::l).map cI).length,(AH.mk O N).put N (.row 1 ((x::l).map cI))):=by
    simp only [evOp,evX,look];simp only [show ¬(5:Nat)=6 by decide,if_true,if_false,hs,ha];simp only [mI,GH,sZ,true_or,true_and];rw [aB ⟨hne,hb⟩]
   rw [e0];simp [hN]
  ·exact .row N _ _ _ rfl (by rw [aV,hN];simp) (Qb _) (by rw [i9])
theorem Kp.appL {O O':List (Nat×AO)} {N:Nat} {X:Nat->Prop} (h:Kp X N O O') {r:List (Nat×AO)} (hr:∀p∈r,N<=p.1):Kp X N O (O'++r):=by
 intro j hj hx;have:look j r=none:=by
  induction r with
  | nil=>rfl
  | cons p r ih=>
   have h1:=hr p (by simp);have:¬p.1=j:=by omega
   simp only [look,QA this];exact ih fun q hq=>hr q (by simp [hq])
 rw [aV,h j hj hx,this];simp
structure RowsR (O:List (Nat×AO)) (v:AV) (A:List AV) (R:List (List Rw)):Prop where
 v:Re O 1 v (A.map fun x=>[x])
 len:A.length=R.length
 at_:∀(k:Nat) (x:AV) (l:List Rw),A[k]? =some x->R[k]? =some l->Re O 5 x (l.map Rw.c)
theorem Re.own {O:List (Nat×AO)} {z j:Nat} {v:AV} {es:List (List AV)} (h:Re O z v es) (hj:vid v=some j):∃x,look j O=some x:=by
 cases h with
 | sl=>cases hj
 | fs=>cases hj
 | ap=>cases hj
 | row id _ es0 n hn hl hle ht=>cases hj;exact ⟨_,hl⟩
theorem Re.kp {O O':List (Nat×AO)} {z N:Nat} {v:AV} {es:List (List AV)} {X:Nat->Prop} (h:Re O z v es) (hT:Tail O N) (hk:Kp X N O O') (hx:∀j,X j->look j O=none\/N<=j):Re O' z v es:=by
 refine h.fr fun j hj=>?_
 obtain ⟨x,hl⟩:=h.own hj;refine hk j (hT.lt hl) fun hc=>?_
 rcases hx j hc with h1 | h1
 ·rw [hl] at h1;cases h1
 ·have:=hT.lt hl;omega
theorem Mu.own {O:List (Nat×AO)} {z j:Nat} {v:AV} {es:List (List AV)} (h:Mu O z v es) (hj:vid v=some j):∃es0,look j O=some (.row z es0):=by
 cases h with
 | nilF=>cases hj
 | nilA=>cases hj
 | row id _ es0 n hn hl hle ht=>cases hj;exact ⟨_,hl⟩
structure RowsW (O:List (Nat×AO)) (N:Nat) (V:List AV) (R:List (List Rw)):Prop where
 len:V.length=R.length
 mu:∀(k:Nat) (v:AV) (l:List Rw),V[k]? =some v->R[k]? =some l->Mu O 5 v (l.map Rw.c)
 fresh:∀v∈V,∀j,vid v=some j->N<=j
 inj:∀(k k':Nat) (v v':AV) (i:Nat),V[k]? =some v->V[k']? =some v'->vid v=some i->vid v'=some i->k=k'
 na:∀v∈V,∀z es t,v≠ .app z es t
theorem RowsW.nil {O:List (Nat×AO)} {N:Nat}:RowsW O N [] []:=⟨rfl,by simp,by simp,by simp,by simp⟩
theorem RowsW.own {O:List (Nat×AO)} {N:Nat} {V:List AV} {R:List (List Rw)} (h:RowsW O N V R) {v:AV} {j:Nat} (hv:v∈V) (hj:vid v=some j):∃es0,look j O=some (.row 5 es0):=by
 obtain ⟨k,hk,rfl⟩:=Qn.1 hv;have hk2:k<R.length:=by rw [<- h.len];exact hk
 exact (h.mu k _ _ (Qa hk) (Qa hk2)).own hj
theorem RowsW.fr {O O':List (Nat×AO)} {N:Nat} {V:List AV} {R:List (List Rw)} (h:RowsW O N V R) (hf:∀j es0,look j O=some (.row 5 es0)->look j O'=look j O):RowsW O' N V R:=by
 refine ⟨h.len,?_,h.fresh,h.inj,h.na⟩;intro k v l hv hl;have hm:=h.mu k v l hv hl;refine hm.fr fun j hj=>?_
 obtain ⟨es0,h0⟩:=hm.own hj;exact hf j es0 h0
theorem RowsW.snoc {O O':List (Nat×AO)} {N N':Nat} {V:List AV} {R:List (List Rw)} {w:AV} {l:List Rw} (h:RowsW O N V R) (hT:Tail O N') (hN:N<=N') (hf:∀j es0,look j O=some (.row 5 es0)->look j O'=look j O) (hw:Mu O' 5 w (l.map Rw.c)) (hn:∀j,vid w=some j->N'<=j) (ha:∀z es t,w≠ .app z es t):RowsW O' N (V++[w]) (R++[l]):=by
 have h':=h.fr hf;have hlt:∀v∈V,∀j,vid v=some j->j<N':=by
  intro v hv j hj;obtain ⟨es0,h0⟩:=h.own hv hj;exact hT.lt h0
 have hlen:=h.len;refine ⟨by simp [hlen],?_,?_,?_,fun v hv=>by rcases gP.1 hv with hv | hv;exact h.na v hv;simp at hv;subst hv;exact ha⟩
 ·intro k v l' hv hl;by_cases hk:k<V.length
  ·rw [Ql hk] at hv;rw [Ql (by omega)] at hl;exact h'.mu k v l' hv hl
  ·have hk':k=V.length:=by
    have:=(Qm.1 hv).1;simp at this;omega
   subst hk';rw [Qp (by omega)] at hv;rw [Qp (by omega),hlen] at hl;simp at hv hl;subst hv hl;exact hw
 ·intro v hv j hj;rcases gP.1 hv with hv | hv
  ·exact h.fresh v hv j hj
  ·simp at hv;subst hv;have:=hn j hj;omega
 ·intro k k' v v' i hv hv' hi hi';have hb:=(Qm.1 hv).1;have hb':=(Qm.1 hv').1;simp at hb hb';by_cases hk:k<V.length
  ·by_cases hk':k'<V.length
   ·rw [Ql hk] at hv;rw [Ql hk'] at hv';exact h.inj k k' v v' i hv hv' hi hi'
   ·rw [Ql hk] at hv;rw [Qp (by omega)] at hv';have:k' - V.length=0:=by omega
    rw [this] at hv';simp at hv';subst hv';have h1:=hlt v (Qe hv) i hi;have h2:=hn i hi';omega
  ·by_cases hk':k'<V.length
   ·rw [Ql hk'] at hv';rw [Qp (by omega)] at hv;have:k - V.length=0:=by omega
    rw [this] at hv;simp at hv;subst hv;have h1:=hlt v' (Qe hv') i hi';have h2:=hn i hi;omega
   ·omega
section
variable {I:Type} {fin:Option (Ex×St)->Option I}
theorem Ig (R:List (List Rw)) (hR:R.length<2^40) (hs:∀l∈R,l.length<2^39/\∀r∈l,rowS r) (v w2:AV) (A:List AV) (b:Nat) (K:List Fr) (Q:Option I->Prop) (e:Env) (O:List (Nat×AO)) (N:Nat) (hT:Tail O N) (hv:RowsR O v A R)
  (hb:look b O=some (.row 4 [[.Xu 1 [],w2,.Xu 2 [],.Xu 1 []]])) (h3:look 3 e=some (.ptr b 4 0 0)) (h18:look 18 e=some v) (h19:look 19 e=some (a8 R.length)) (h20:look 20 e=some (a8 0))
  (hK:∀e' O' N' w V,Mu O' 1 w (V.map fun x=>[x])->(∀j,vid w=some j->N<=j)->RowsW O' N V R->Kp (fun j=>j=b) N O O'->Tail O' N'->N<=N'->look b O'=some (.row 4 [[w,w2,.Xu 2 [],.Xu 1 []]])->
   look 1 e'=look 1 e->look 2 e'=look 2 e->look 3 e'=look 3 e->Q (go Φ fin K .normal ⟨e',⟨O',N'⟩⟩)):
  Q (go Φ fin (.c (.loop c_92_l3):: .b 0::K) .normal ⟨e,⟨O,N⟩⟩):=by
 have hAb:∀(k:Nat) (x:AV) j,A[k]? =some x->vid x=some j->j≠b:=by
  intro k x j hx hj;have hk:k<R.length:=by
   have:=(Qm.1 hx).1;rw [hv.len] at this;exact this
  have:=hv.at_ k x _ hx (Qa hk);cases this with
  | sl=>cases hj
  | fs=>cases hj
  | ap=>cases hj
  | row id _ es0 n hn hl hle ht=>cases hj;exact b8 hl hb (by simp)
 have hvb:∀j,vid v=some j->j≠b:=by
  intro j hj;cases hv.v with
  | sl=>cases hj
  | fs=>cases hj
  | ap=>cases hj
  | row id _ es0 n hn hl hle ht=>cases hj;exact b8 hl hb (by simp)
 refine I4 R.length (fun i e' h=>∃O' N' w V,h=⟨O',N'⟩/\((i=0/\w= .Xu 1 []/\V=[])\/∃id,w= .row id 1 0 i/\look id O'=some (.row 1 (V.map fun x=>[x]))/\N<=id)/\RowsW O' N V (R.take i)/\Kp (fun j=>j=b) N O O'/\Tail O' N'/\N<=N'/\
   look b O'=some (.row 4 [[w,w2,.Xu 2 [],.Xu 1 []]])/\look 3 e'=some (.ptr b 4 0 0)/\look 18 e'=some v/\look 19 e'=some (a8 R.length)/\look 20 e'=some (a8 i)/\
   look 1 e'=look 1 e/\look 2 e'=look 2 e) Q ?_ ?_ 0 _ _ (Qc _) ?_
 ·rintro i e' _ L hi hL ⟨O',N',w,V,rfl,hw,hV,hk,hT',hN,hb',h3,h18,h19,h20,g1,g2⟩ ih;have hw1:=aL i (by omega);have hA:i<A.length:=by rw [hv.len];exact hi
  have hlen:=hV.len;have hVl:V.length=i:=by rw [hlen];simp;omega
  have hri:=hs _ (Qd hi);have hbN:b<N:=hT.lt hb;have hx:Re O' 5 A[i] (R[i].map Rw.c):=by
   have h0:=hv.at_ i _ _ (Qa hA) (Qa hi);refine h0.fr fun j hj=>?_
   obtain ⟨x,hl⟩:=h0.own hj;exact hk j (hT.lt hl) (hAb i _ j (Qa hA) hj)
  have hxl:=hx.len;have hxc:=hx.cells;have hv':Re O' 1 v (A.map fun x=>[x]):=by
   refine hv.v.fr fun j hj=>?_
   obtain ⟨x,hl⟩:=hv.v.own hj;exact hk j (hT.lt hl) (hvb j hj)
  have after:∀e1,look 1 e1=look 1 e->look 2 e1=look 2 e->look 3 e1=some (.ptr b 4 0 0)->look 18 e1=some v->look 19 e1=some (a8 R.length)->look 20 e1=some (a8 i)->
    ∀e2 O2 N2 w',Mu O2 5 w' (R[i].map Rw.c)->(∀j,vid w'=some j->N'<=j)->(∀z es t,w'≠ .app z es t)->Kp (fun _=>False) N' O' O2->Tail O2 N2->N'<=N2->look 6 e2=some w'->look 1 e2=look 1 e1->look 2 e2=look 2 e1->look 3 e2=look 3 e1->look 18 e2=look 18 e1->look 19 e2=look 19 e1->look 20 e2=look 20 e1->
    Q (go Φ fin (.c c_92_k1:: .b 1:: .c c_92_k2::L) .normal ⟨e2,⟨O2,N2⟩⟩):=by
   intro e1 f1 f2 f3 f18 f19 f20 e2 O2 N2 w' hmu hnew hna hk2 hT2 hN2 d6 d1 d2 d3 d18 d19 d20;rw [f1] at d1;rw [f2] at d2;rw [f3] at d3;rw [f18] at d18;rw [f19] at d19;rw [f20] at d20;have hb2:look b O2=some (.row 4 [[w,w2,.Xu 2 [],.Xu 1 []]]):=hk2.lk hT' hb' (by simp);have hmc:=hmu.cells;have t0:=hT2 N2 (Qb _);have t1:=hT2 (N2+1) (by omega);have hbN2:b<N2:=by omega
   have q0:¬N2=b:=by omega
   have q1:¬N2+1=b:=by omega
   have q2:¬b=N2:=by omega
   have q3:¬b=N2+1:=by omega
   have hkk:Kp (fun j=>j=b) N O O2:=hk.trans (hk2.mono fun _ _ h=>h.elim) hN;have h5:∀(j:Nat) (es0:List (List AV)),look j O'=some (.row 5 es0)->look j O2=some (.row 5 es0):=fun j es0 hj=>hk2.lk hT' hj (by simp)
   rcases hw with ⟨rfl,rfl,rfl⟩ | ⟨id,rfl,hlk,hid⟩
   ·simp [c_92_k1,c_92_k2,d3,d6,d20,t0,t1,aV,hb2,wr1,hmc,-AV.cells];refine ih _ _ ⟨_,_,.row (N2+1) 1 0 1,[w'],rfl,.inr ⟨N2+1,rfl,?_,by omega⟩,?_,?_,?_,by omega,?_,?_,?_,?_,?_,?_,?_⟩
    ·simp [aG,q1,t1]
    ·rw [Qh hi];refine RowsW.snoc (V:=[]) hV hT' hN ?_ (hmu.fr ?_) hnew hna
     ·intro j es0 hj;have hj2:=h5 j es0 hj;have:=b8 hj2 hb2 (by simp);simp [aG,aV,this,hj2,hj]
     ·intro j hj;obtain ⟨es0,hj2⟩:=hmu.own hj;have:=b8 hj2 hb2 (by simp);simp [aG,aV,this,hj2]
    ·exact Kp.setl (Kp.appL hkk (by simp;omega)) (.inr rfl)
    ·exact cY (by simp [Tail_append_iff,s5,LK];exact ⟨hT2.mono (by omega),by omega⟩)
    ·simp [aG,aV,hb2]
    all_goals simp [*]
   ·have hl2:look id O2=some (.row 1 (V.map fun x=>[x])):=hk2.lk hT' hlk (by simp);have hbi:=b8 hb2 hl2 (by simp);have hd1:look (N2+1) (eG id (O2++[(N2,.row 1 [[w']])]))=none:=LJ _ (by simp [t1]);have hd2:look b (eG id (O2++[(N2,.row 1 [[w']])]))=some (.row 4 [[.row id 1 0 i,w2,.Xu 2 [],.Xu 1 []]]):=by rw [mD hbi,aV,hb2];rfl
    have hc:(i+1)*24<=70368744177664:=by omega
    simp [c_92_k1,c_92_k2,d3,d6,d20,t0,aV,hb2,hw1,hl2,hVl,hd1,hd2,hc,hmc,-AV.cells];refine ih _ _ ⟨_,_,.row (N2+1) 1 0 (i+1),V++[w'],rfl,.inr ⟨N2+1,rfl,?_,by omega⟩,?_,?_,?_,by omega,?_,?_,?_,?_,?_,?_,?_⟩
    ·simp [aG,q1,hd1]
    ·rw [Qh hi];refine RowsW.snoc hV hT' hN ?_ (hmu.fr ?_) hnew hna
     ·intro j es0 hj;have hj2:=h5 j es0 hj;have n1:=b8 hj2 hb2 (by simp);have n2:=b8 hj2 hl2 (by simp);simp [aG,aV,mD n2,n1,hj2,hj]
     ·intro j hj;obtain ⟨es0,hj2⟩:=hmu.own hj;have n1:=b8 hj2 hb2 (by simp);have n2:=b8 hj2 hl2 (by simp);simp [aG,aV,mD n2,n1,hj2]
    ·exact Kp.setl (Kp.appL (Kp.drop (Kp.appL hkk (by simp;omega)) (.inl hid)) (by simp;omega)) (.inr rfl)
    ·refine cY ?_;rw [Tail_append_iff];exact ⟨OG (by simp [Tail_append_iff,s5,LK];exact ⟨hT2.mono (by omega),by omega⟩),by simp [s5,LK]⟩
    ·simp [aG,aV,hd2]
    all_goals simp [*]
  cases hv' with
  | row id' _ es0 n hn hl' hle ht=>
   have h0:es0[i]? =some [A[i]]:=by
    have h:(es0.take (A.map fun x=>[x]).length)[i]? =(A.map fun x=>[x])[i]? :=by rw [ht]
    rw [List.getElem?_take_of_lt (by simpa using hA)] at h;rw [h];simp [hA]
   simp [c_92_l3,h18,h19,h20,hi,hA,hn,hl',h0,hxl,-lenOf];refine qx1 R[i] hri.2 hri.1 A[i] _ _ _ O' N' hT' hx ?_ ?_ ?_ ?_ (after _ ?_ ?_ ?_ ?_ ?_ ?_)<;>simp [*]
  | _=>
   simp [c_92_l3,h18,h19,h20,hi,hA,hxl,-lenOf];refine qx1 R[i] hri.2 hri.1 A[i] _ _ _ O' N' hT' hx ?_ ?_ ?_ ?_ (after _ ?_ ?_ ?_ ?_ ?_ ?_)<;>simp [*]
 ·rintro e' _ L hL ⟨O',N',w,V,rfl,hw,hV,hk,hT',hN,hb',h3,h18,h19,h20,g1,g2⟩;simp [c_92_l3,h19,h20,hL];rw [i9] at hV;refine hK _ O' N' w V ?_ ?_ hV hk hT' hN hb' ?_ ?_ ?_
  ·rcases hw with ⟨hz,rfl,rfl⟩ | ⟨id,rfl,hlk,hid⟩
   ·exact .nilF
   ·exact .row id _ _ _ (by simp [hV.len]) hlk (Qb _) (by rw [i9])
  ·rcases hw with ⟨hz,rfl,rfl⟩ | ⟨id,rfl,hlk,hid⟩
   ·intro j hj;cases hj
   ·intro j hj;cases hj;exact hid
  ·simp [g1]
  ·simp [g2]
  ·simp [*]
 ·exact ⟨O,N,.Xu 1 [],[],rfl,.inl ⟨rfl,rfl,rfl⟩,by simpa using RowsW.nil,fun _ _ _=>rfl,hT,Qb _,hb,h3,h18,h19,h20,rfl,rfl⟩
end
theorem HM {f:α->List AV} {l:List α} (hi:i<l.length) (ht:es0.take (l.map f).length=l.map f):es0[i]? =some (f l[i]):=by
 have h:(es0.take (l.map f).length)[i]? =(l.map f)[i]? :=by rw [ht]
 rw [List.getElem?_take_of_lt (by simpa using hi)] at h;rw [h];simp [hi]
def Im (z:Nat) (v:AV) (es:List (List AV)):Prop:=v= .slice z es\/v= .Xu z es\/∃t,v= .app z es t
theorem Im.len {z:Nat} {v:AV} {es:List (List AV)} (h:Im z v es):lenOf v=some es.length:=by
 rcases h with rfl | rfl | ⟨t,rfl⟩<;>rfl
section
variable {I:Type} {fin:Option (Ex×St)->Option I}
theorem Ic (D:List Xb) (hD:D.length<2^40) (hs:∀d∈D,d.args.length<2^40) (v w1 w2:AV) (b:Nat) (K:List Fr) (Q:Option I->Prop) (e:Env) (O:List (Nat×AO)) (N:Nat) (hT:Tail O N) (hv:Re O 2 v (D.map Xb.c))
  (hb:look b O=some (.row 4 [[w1,w2,.Xu 2 [],.Xu 1 []]])) (h3:look 3 e=some (.ptr b 4 0 0)) (h44:look 44 e=some v) (h45:look 45 e=some (a8 D.length)) (h46:look 46 e=some (a8 0))
  (hK:∀e' O' N' w,Mu O' 2 w (D.map Xb.c)->(∀j,vid w=some j->N<=j)->Kp (fun j=>j=b) N O O'->Tail O' N'->N<=N'->look b O'=some (.row 4 [[w1,w2,w,.Xu 1 []]])->
   look 1 e'=look 1 e->look 2 e'=look 2 e->look 3 e'=look 3 e->Q (go Φ fin K .normal ⟨e',⟨O',N'⟩⟩)):
  Q (go Φ fin (.c (.loop c_92_l4):: .b 4::K) .normal ⟨e,⟨O,N⟩⟩):=by
 have hvb:∀j,vid v=some j->j≠b:=by
  intro j hj;cases hv with
  | sl=>cases hj
  | fs=>cases hj
  | ap=>cases hj
  | row id _ es0 n hn hl hle ht=>cases hj;exact b8 hl hb (by simp)
 refine I4 D.length (fun i e' h=>∃O' N' w,h=⟨O',N'⟩/\((i=0/\w= .Xu 2 [])\/∃id,w= .row id 2 0 i/\look id O'=some (.row 2 ((D.map Xb.c).take i))/\N<=id)/\Kp (fun j=>j=b) N O O'/\Tail O' N'/\N<=N'/\
   look b O'=some (.row 4 [[w1,w2,w,.Xu 1 []]])/\look 3 e'=some (.ptr b 4 0 0)/\look 44 e'=some v/\look 45 e'=some (a8 D.length)/\look 46 e'=some (a8 i)/\
   look 1 e'=look 1 e/\look 2 e'=look 2 e) Q ?_ ?_ 0 _ _ (Qc _) ?_
 ·rintro i e' _ L hi hL ⟨O',N',w,rfl,hw,hk,hT',hN,hb',h3,h44,h45,h46,g1,g2⟩ ih;have hw1:=aL i (by omega);have hbN:b<N:=hT.lt hb;have hc:=UD D[i] (hs _ (Qd hi));simp only [Xb.ce] at hc;have t0:=hT' N' (Qb _);have t1:=hT' (N'+1) (by omega);have q1:¬N'+1=b:=by omega
  have hm:min i D.length=i:=by omega
  have hbd:(i+1)*32<=70368744177664:=by omega
  have htk:(D.map Xb.c).take (i+1)=(D.map Xb.c).take i++[Xb.c D[i]]:=jS hi;rw [Xb.ce] at htk;have hv':Re O' 2 v (D.map Xb.c):=by
   refine hv.fr fun j hj=>?_
   obtain ⟨x,hl⟩:=hv.own hj;exact hk j (hT.lt hl) (hvb j hj)
  rcases hw with ⟨rfl,rfl⟩ | ⟨id,rfl,hlk,hid⟩
  ·have htk1:(D.map Xb.c).take 1=[[a8 D[0].Xz,.slice 1 (D[0].args.map c32)]]:=by simpa using htk
   cases hv' with
   | row id' _ es0 n hn hl' hle ht=>
    have h0:=HM hi ht;simp [c_92_l4,Xb.ce,h3,h44,h45,h46,hi,hc,t0,t1,hn,hl',h0,wr1,aV,hb'];refine ih _ _ ⟨_,_,.row (N'+1) 2 0 (0+1),rfl,.inr ⟨N'+1,rfl,?_,by omega⟩,Kp.setl (Kp.app hk (by omega)) (.inr rfl),cY (hT'.app1 (by omega)),by omega,?_,?_,?_,?_,?_,?_,?_⟩
    ·simp [aG,q1,t1,htk1]
    ·simp [aG,aV,hb']
    all_goals simp [*]
   | _=>
    simp [c_92_l4,Xb.ce,h3,h44,h45,h46,hi,hc,t0,t1,wr1,aV,hb'];refine ih _ _ ⟨_,_,.row (N'+1) 2 0 (0+1),rfl,.inr ⟨N'+1,rfl,?_,by omega⟩,Kp.setl (Kp.app hk (by omega)) (.inr rfl),cY (hT'.app1 (by omega)),by omega,?_,?_,?_,?_,?_,?_,?_⟩
    ·simp [aG,q1,t1,htk1]
    ·simp [aG,aV,hb']
    all_goals simp [*]
  ·have hbi:=b8 hb' hlk (by simp);have hd1:look (N'+1) (eG id O')=none:=LJ _ t1;have hd2:look b (eG id O')=some (.row 4 [[w1,w2,.row id 2 0 i,.Xu 1 []]]):=by rw [mD hbi,hb']
   cases hv' with
   | row id' _ es0 n hn hl' hle ht=>
    have h0:=HM hi ht;simp [c_92_l4,Xb.ce,h3,h44,h45,h46,hi,hc,t0,hn,hl',h0,hw1,aV,hb',hlk,hm,hbd,hd1,hd2];refine ih _ _ ⟨_,_,.row (N'+1) 2 0 (i+1),rfl,.inr ⟨N'+1,rfl,?_,by omega⟩,Kp.setl (Kp.app (Kp.drop hk (.inl hid)) (by omega)) (.inr rfl),cY ((OG hT').app1 (by omega)),by omega,?_,?_,?_,?_,?_,?_,?_⟩
    ·simp [aG,q1,hd1,htk]
    ·simp [aG,aV,hd2]
    all_goals simp [*]
   | _=>
    simp [c_92_l4,Xb.ce,h3,h44,h45,h46,hi,hc,t0,hw1,aV,hb',hlk,hm,hbd,hd1,hd2];refine ih _ _ ⟨_,_,.row (N'+1) 2 0 (i+1),rfl,.inr ⟨N'+1,rfl,?_,by omega⟩,Kp.setl (Kp.app (Kp.drop hk (.inl hid)) (by omega)) (.inr rfl),cY ((OG hT').app1 (by omega)),by omega,?_,?_,?_,?_,?_,?_,?_⟩
    ·simp [aG,q1,hd1,htk]
    ·simp [aG,aV,hd2]
    all_goals simp [*]
 ·rintro e' _ L hL ⟨O',N',w,rfl,hw,hk,hT',hN,hb',h3,h44,h45,h46,g1,g2⟩;simp [c_92_l4,h45,h46,hL];refine hK _ O' N' w ?_ ?_ hk hT' hN hb' ?_ ?_ ?_
  ·rcases hw with ⟨hz,rfl⟩ | ⟨id,rfl,hlk,hid⟩
   ·have:D=[]:=Qg hz;subst this;exact .nilF
   ·rw [Qo (by simp)] at hlk;exact .row id _ _ _ (by simp) hlk (Qb _) (by rw [i9])
  ·rcases hw with ⟨hz,rfl⟩ | ⟨id,rfl,hlk,hid⟩
   ·intro j hj;cases hj
   ·intro j hj;cases hj;exact hid
  ·simp [g1]
  ·simp [g2]
  ·simp [*]
 ·exact ⟨O,N,.Xu 2 [],rfl,.inl ⟨rfl,rfl⟩,fun _ _ _=>rfl,hT,Qb _,hb,h3,h44,h45,h46,rfl,rfl⟩
theorem Ie (G:List (List Int)) (hG:G.length<2^40) (hs:∀l∈G,l.length<2^40) (v w1 w2 w3:AV) (b:Nat) (K:List Fr) (Q:Option I->Prop) (e:Env) (O:List (Nat×AO)) (N:Nat) (hT:Tail O N) (hv:Im 1 v (G.map (cS 1 c32)))
  (hb:look b O=some (.row 4 [[w1,w2,w3,.Xu 1 []]])) (h3:look 3 e=some (.ptr b 4 0 0)) (h59:look 59 e=some v) (h60:look 60 e=some (a8 G.length)) (h61:look 61 e=some (a8 0))
  (hK:∀e' O' N' w,(w= .Xu 1 (G.map (cS 1 c32))\/∃t,w= .app 1 (G.map (cS 1 c32)) t)->Kp (fun j=>j=b) N O O'->Tail O' N'->N<=N'->look b O'=some (.row 4 [[w1,w2,w3,w]])->
   look 1 e'=look 1 e->look 2 e'=look 2 e->look 3 e'=look 3 e->Q (go Φ fin K .normal ⟨e',⟨O',N'⟩⟩)):
  Q (go Φ fin (.c (.loop c_92_l5):: .b 6::K) .normal ⟨e,⟨O,N⟩⟩):=by
 refine I4 G.length (fun i e' h=>∃O' N' w,h=⟨O',N'⟩/\((i=0/\w= .Xu 1 [])\/∃id,w= .app 1 ((G.map (cS 1 c32)).take i) id/\look id O'=some (.tok 1 i)/\N<=id)/\Kp (fun j=>j=b) N O O'/\Tail O' N'/\N<=N'/\
   look b O'=some (.row 4 [[w1,w2,w3,w]])/\look 3 e'=some (.ptr b 4 0 0)/\look 59 e'=some v/\look 60 e'=some (a8 G.length)/\look 61 e'=some (a8 i)/\
   look 1 e'=look 1 e/\look 2 e'=look 2 e) Q ?_ ?_ 0 _ _ (Qc _) ?_
 ·rintro i e' _ L hi hL ⟨O',N',w,rfl,hw,hk,hT',hN,hb',h3,h59,h60,h61,g1,g2⟩ ih;have hw1:=aL i (by omega);have hbN:b<N:=hT.lt hb;have hc:=Wt G[i] (hs _ (Qd hi));have t0:=hT' N' (Qb _);have q0:¬N'=b:=by omega
  have q1:¬b=N':=by omega
  have hm:min i G.length=i:=by omega
  have hbd:(i+1)*24<=70368744177664:=by omega
  have htk:(G.map (cS 1 c32)).take (i+1)=(G.map (cS 1 c32)).take i++[cS 1 c32 G[i]]:=jS hi;rw [cSe] at htk;rcases hw with ⟨rfl,rfl⟩ | ⟨id,rfl,hlk,hid⟩
  ·have htk1:(G.map (cS 1 c32)).take 1=[[.slice 1 (G[0].map c32)]]:=by simpa using htk
   rcases hv with rfl | rfl | ⟨t,rfl⟩
   all_goals
    simp [c_92_l5,cSe,h3,h59,h60,h61,hi,hc,t0,wr1,aV,hb'];refine ih _ _ ⟨_,_,.app 1 [[.slice 1 (G[0].map c32)]] N',rfl,.inr ⟨N',by rw [htk1],?_,by omega⟩,Kp.setl (Kp.app hk (by omega)) (.inr rfl),cY (hT'.app1 (by omega)),by omega,?_,?_,?_,?_,?_,?_,?_⟩
    ·simp [aG,q0,t0]
    ·simp [aG,aV,hb']
    all_goals simp [*]
  ·have hbi:=b8 hb' hlk (by simp);have hib:¬id=b:=fun h=>hbi h.symm
   rcases hv with rfl | rfl | ⟨t,rfl⟩
   all_goals
    simp [c_92_l5,cSe,h3,h59,h60,h61,hi,hc,hw1,aG,hb',hbi,hlk,hm,hbd];refine ih _ _ ⟨_,_,.app 1 ((G.map (cS 1 c32)).take i++[[.slice 1 (G[i].map c32)]]) id,rfl,.inr ⟨id,by rw [htk],?_,hid⟩,Kp.setl (Kp.setl hk (.inl hid)) (.inr rfl),cY (cY hT'),by omega,?_,?_,?_,?_,?_,?_,?_⟩
    ·simp [aG,hlk,hib]
    ·simp [aG,hbi,hb']
    all_goals simp [*]
 ·rintro e' _ L hL ⟨O',N',w,rfl,hw,hk,hT',hN,hb',h3,h59,h60,h61,g1,g2⟩;simp [c_92_l5,h60,h61,hL];refine hK _ O' N' w ?_ hk hT' hN hb' ?_ ?_ ?_
  ·rcases hw with ⟨hz,rfl⟩ | ⟨id,rfl,hlk,hid⟩
   ·have:G=[]:=Qg hz;subst this;exact .inl rfl
   ·right;exact ⟨id,by rw [Qo (by simp)]⟩
  ·simp [g1]
  ·simp [g2]
  ·simp [*]
 ·exact ⟨O,N,.Xu 1 [],rfl,.inl ⟨rfl,rfl⟩,fun _ _ _=>rfl,hT,Qb _,hb,h3,h59,h60,h61,rfl,rfl⟩
end
structure CfgR (O:List (Nat×AO)) (v1 v2 v3 v4:AV) (A:List AV) (c:Xf):Prop where
 r:RowsR O v1 A c.rows
 n:Re O 1 v2 (c.Xr.map cI)
 d:Re O 2 v3 (c.Xq.map Xb.c)
 g:Im 1 v4 (c.Xm.map (cS 1 c32))
structure CfgU (c:Xf):Prop where
 t:CfgT c
 u:∀l∈c.rows,l.length<2^39
theorem CfgR.kp {O O':List (Nat×AO)} {v1 v2 v3 v4:AV} {A:List AV} {c:Xf} {N:Nat} {X:Nat->Prop} (h:CfgR O v1 v2 v3 v4 A c) (hT:Tail O N) (hk:Kp X N O O') (hx:∀j,X j->look j O=none\/N<=j):CfgR O' v1 v2 v3 v4 A c:=
 ⟨⟨h.r.v.kp hT hk hx,h.r.len,fun k x l ha hl=>(h.r.at_ k x l ha hl).kp hT hk hx⟩,h.n.kp hT hk hx,h.d.kp hT hk hx,h.g⟩
def SZ (N:Nat) (O:List (Nat×AO)) (c:Xf) (r:Option (Rt×AH)):Prop:=
 ∃w1 w2 w3 w4 V O' N',r=some (.val (.agg [w1,w2,w3,w4]),⟨O',N'⟩)/\CfgM O' w1 w2 w3 w4 V c/\(∀j,CfgM.own w1 w2 w3 V j->N<=j)/\Kp (fun _=>False) N O O'/\Tail O' N'/\N<=N'
variable {v1 v2 v3 v4:AV} {A:List AV}
theorem Zf (c:Xf) (s:CfgU c) (hT:Tail O N) (h:CfgR O v1 v2 v3 v4 A c):SZ N O c (aN Φ oL [.agg [v1,v2,v3,v4]] ⟨O,N⟩):=by
 rw [dW rfl rfl];have t0:=hT N (Qb _);have t1:=hT (N+1) (by omega);have hT1:Tail (O++[(N,AO.row 4 [[v1,v2,v3,v4]]),(N+1,AO.row 4 [[.Xu 1 [],.Xu 1 [],.Xu 2 [],.Xu 1 []]])]) (N+1+1):=by
  rw [Tail_append_iff,s5,s5];exact ⟨hT.mono (by omega),by omega,by omega,Tail.nil _⟩
 have hk1:Kp (fun _=>False) N O (O++[(N,AO.row 4 [[v1,v2,v3,v4]]),(N+1,AO.row 4 [[.Xu 1 [],.Xu 1 [],.Xu 2 [],.Xu 1 []]])]):=Kp.appL (fun _ _ _=>rfl) (by simp);have hR1:=h.kp hT hk1 (by simp);have hc1:=hR1.n.cells;have c1:=h.r.v.cells;have c2:=h.n.cells;have c3:=h.d.cells;have c4:AV.cells v4=some [v4]:=by rcases h.g with e | e | ⟨t,e⟩<;>subst e<;>rfl
 simp [SW,t0,t1];generalize hO1:O++[(N,AO.row 4 [[v1,v2,v3,v4]]),(N+1,AO.row 4 [[.Xu 1 [],.Xu 1 [],.Xu 2 [],.Xu 1 []]])]=O1 at hT1 hk1 hR1 ⊢;have lb1:look N O1=some (.row 4 [[v1,v2,v3,v4]]):=by rw [<- hO1];simp [t0]
 have lb2:look (N+1) O1=some (.row 4 [[.Xu 1 [],.Xu 1 [],.Xu 2 [],.Xu 1 []]]):=by rw [<- hO1];simp [t1]
 obtain ⟨w2,o2,e2,m2,fw2⟩:=Ij hT1 hR1.n s.t.nl;rw [e2];have n1:¬N+1+1=N:=by omega
 have t2:=hT1 (N+1+1) (Qb _);have t3:=hT1 (N+1+1+1) (by omega);have m2c:=m2.cells;have l1:=h.r.v.len;rw [dQ,h.r.len] at l1;simp [t3,aV,lb1,m2c,l1,-AV.cells,-lenOf];have hT2:Tail (O1++[(N+1+1,o2),(N+1+1+1,AO.row 4 [[.Xu 1 [],w2,.Xu 2 [],.Xu 1 []]])]) (N+1+1+1+1):=by
  rw [Tail_append_iff,s5,s5];exact ⟨hT1.mono (by omega),by omega,by omega,Tail.nil _⟩
 have hk2:Kp (fun _=>False) (N+1+1) O1 (O1++[(N+1+1,o2),(N+1+1+1,AO.row 4 [[.Xu 1 [],w2,.Xu 2 [],.Xu 1 []]])]):=Kp.appL (fun _ _ _=>rfl) (by simp);have hR2:=hR1.kp hT1 hk2 (by simp);have lb3:look (N+1+1+1) (O1++[(N+1+1,o2),(N+1+1+1,AO.row 4 [[.Xu 1 [],w2,.Xu 2 [],.Xu 1 []]])])=some (.row 4 [[.Xu 1 [],w2,.Xu 2 [],.Xu 1 []]]):=by
  have:¬N+1+1=N+1+1+1:=by omega
  rw [aV,t3];simp
 have m2':Mu (O1++[(N+1+1,o2),(N+1+1+1,AO.row 4 [[.Xu 1 [],w2,.Xu 2 [],.Xu 1 []]])]) 1 w2 (c.Xr.map cI):=by
  refine m2.fr fun j hj=>?_
  obtain ⟨es0,hl⟩:=m2.own hj;have hlt:=(hT1.app1 (o:=o2) (Qb _)).lt hl;have:¬N+1+1+1=j:=by omega
  rw [show O1++[(N+1+1,o2),(N+1+1+1,AO.row 4 [[.Xu 1 [],w2,.Xu 2 [],.Xu 1 []]])]=(O1++[(N+1+1,o2)])++[(N+1+1+1,AO.row 4 [[.Xu 1 [],w2,.Xu 2 [],.Xu 1 []]])] by simp];rw [aV (b:=[(N+1+1+1,_)])];simp [this]
 have lc1:look N (O1++[(N+1+1,o2),(N+1+1+1,AO.row 4 [[.Xu 1 [],w2,.Xu 2 [],.Xu 1 []]])])=some (.row 4 [[v1,v2,v3,v4]]):=by rw [aV,lb1];rfl
 have lc2:look (N+1) (O1++[(N+1+1,o2),(N+1+1+1,AO.row 4 [[.Xu 1 [],w2,.Xu 2 [],.Xu 1 []]])])=some (.row 4 [[.Xu 1 [],.Xu 1 [],.Xu 2 [],.Xu 1 []]]):=by rw [aV,lb2];rfl
 have hk12:=hk1.trans hk2 (by omega);generalize O1++[(N+1+1,o2),(N+1+1+1,AO.row 4 [[.Xu 1 [],w2,.Xu 2 [],.Xu 1 []]])]=O2 at hT2 hR2 lb3 m2' lc1 lc2 hk12 ⊢;refine Ig c.rows s.t.rl (fun l hl=>⟨s.u l hl,(s.t.rs l hl).2⟩) v1 w2 A (N+1+1+1) _ _ _ O2 _ hT2 hR2.r lb3 ?_ ?_ ?_ ?_ ?_
 ·simp
 ·simp
 ·simp
 ·simp
 intro e3 O3 N3 w1 V mw1 fw1 hV hk3 hT3 hN3 lb3' g1 g2 g3;simp at g1 g2 g3;have hx:∀j,j=N+1+1+1->look j O1=none\/N+1+1<=j:=fun j hj=> .inr (by omega)
 have ld1:look N O3=some (.row 4 [[v1,v2,v3,v4]]):=hk3.lk hT2 lc1 (by omega);have ld2:look (N+1) O3=some (.row 4 [[.Xu 1 [],.Xu 1 [],.Xu 2 [],.Xu 1 []]]):=hk3.lk hT2 lc2 (by omega);have hk13:Kp (fun _=>False) N O O3:=fun j hj _=>(hk3 j (by omega) (by omega)).trans (hk12 j hj (by simp))
 have hR3:=h.kp hT hk13 (by simp);have m23:Mu O3 1 w2 (c.Xr.map cI):=by
  refine m2'.fr fun j hj=>?_
  obtain ⟨es0,hl⟩:=m2'.own hj;exact hk3 j (hT2.lt hl) (b8 hl lb3 (by simp))
 have l3:=h.d.len;simp [c_92_k8,g1,ld1,l3,-lenOf];refine Ic c.Xq s.t.dl (fun d hd=>(s.t.ds d hd).1) v3 w1 w2 (N+1+1+1) _ _ _ O3 N3 hT3 hR3.d lb3' ?_ ?_ ?_ ?_ ?_
 ·simp [g3]
 ·simp
 ·simp
 ·simp
 intro e4 O4 N4 w3 mw3 fw3 hk4 hT4 hN4 lb4 f1 f2 f3;simp at f1 f2 f3;have le1:look N O4=some (.row 4 [[v1,v2,v3,v4]]):=hk4.lk hT3 ld1 (by omega);have le2:look (N+1) O4=some (.row 4 [[.Xu 1 [],.Xu 1 [],.Xu 2 [],.Xu 1 []]]):=hk4.lk hT3 ld2 (by omega);have m24:Mu O4 1 w2 (c.Xr.map cI):=by
  refine m23.fr fun j hj=>?_
  obtain ⟨es0,hl⟩:=m23.own hj;exact hk4 j (hT3.lt hl) (b8 hl lb3' (by simp))
 have m14:Mu O4 1 w1 (V.map fun x=>[x]):=by
  refine mw1.fr fun j hj=>?_
  obtain ⟨es0,hl⟩:=mw1.own hj;exact hk4 j (hT3.lt hl) (b8 hl lb3' (by simp))
 have hV4:RowsW O4 (N+1+1+1+1) V c.rows:=hV.fr fun j es0 hl=>hk4 j (hT3.lt hl) (b8 hl lb3' (by simp))
 have l4:lenOf v4=some c.Xm.length:=by have:=h.g.len;rw [dQ] at this;exact this
 simp [c_92_k7,f1,g1,le1,l4,-lenOf];refine Ie c.Xm s.t.gl (fun l hl=>(s.t.gs l hl).1) v4 w1 w2 w3 (N+1+1+1) _ _ _ O4 N4 hT4 h.g lb4 ?_ ?_ ?_ ?_ ?_
 ·simp [f3,g3]
 ·simp
 ·simp
 ·simp
 intro e5 O5 N5 w4 mw4 hk5 hT5 hN5 lb5 d1 d2 d3;simp at d1 d2 d3;have lf2:look (N+1) O5=some (.row 4 [[.Xu 1 [],.Xu 1 [],.Xu 2 [],.Xu 1 []]]):=hk5.lk hT4 le2 (by omega);simp [c_92_k6,d2,d3,f2,f3,g2,g3,lb5,lf2,aG];refine ⟨w1,w2,w3,w4,V,_,N5,rfl,?_,?_,?_,cY hT5,by omega⟩
 ·have keep:∀j z es0,z≠4->look j O4=some (.row z es0)->look j (setl (N+1) (.row 4 [[w1,w2,w3,w4]]) O5)=look j O4:=by
   intro j z es0 hz hl;have h5:=hk5 j (hT4.lt hl) (b8 hl lb4 (by simp [hz]));have hl5:look j O5=some (.row z es0):=by rw [h5,hl]
   rw [aG,QA (b8 hl5 lf2 (by simp [hz])),h5]
  refine ⟨m14.fr fun j hj=>?_,hV4.len,?_,m24.fr fun j hj=>?_,mw3.fr fun j hj=>?_,mw4,?_,hV4.inj,hV4.na⟩
  ·obtain ⟨es0,hl⟩:=m14.own hj;exact keep j 1 es0 (by decide) hl
  ·intro k v l hv hl;refine (hV4.mu k v l hv hl).fr fun j hj=>?_
   obtain ⟨es0,hl⟩:=(hV4.mu k v l hv hl).own hj;exact keep j 5 es0 (by decide) hl
  ·obtain ⟨es0,hl⟩:=m24.own hj;exact keep j 1 es0 (by decide) hl
  ·obtain ⟨es0,hl⟩:=mw3.own hj;exact keep j 2 es0 (by decide) hl
  ·intro i h1 h2;have:=fw1 i h1;obtain ⟨es0,hl⟩:=m2'.own h2;have:=hT2.lt hl;omega
 ·intro j hj;rcases hj with hj | hj | hj | ⟨v,hv,hj⟩
  ·have:=fw1 j hj;omega
  ·have:=fw2 j hj;omega
  ·have:=fw3 j hj;omega
  ·have:=hV4.fresh v hv j hj;omega
 ·intro j hj _;rw [aG,QA (by omega),hk5 j (by omega) (by omega),hk4 j (by omega) (by omega),hk3 j (by omega) (by omega)];exact hk12 j hj (by simp)
def sQ:List Rw->Nat->List (AV×AV)
 | [],_=>[]
 | r::l,n=>(.int .i64 r.id,.int .i64 n)::sQ l (n+1)
def ents (l:List Rw):List (AV×AV):=sQ l 0
theorem qpz (r:Rw):∀(l:List Rw) (n:Nat),sQ (l++[r]) n=sQ l n++[(a8 r.id,a8 ((n+l.length:Nat):Int))]
 | [],n=>by simp [sQ]
 | a::l,n=>by
  have ih:=qpz r l (n+1);simp only [jM,sQ,ih,mH];rw [show n+1+l.length=n+(l.length+1) by omega]
theorem qsi (l:List Rw) (r:Rw):ents (l++[r])=ents l++[(a8 r.id,a8 (l.length:Nat))]:=by
 unfold ents;rw [qpz,GH]
theorem Uw (x:Int) (v:AV):∀(l:List Rw) (n:Nat),(∀r∈l,r.id≠x)->putA .i (a8 x) v (sQ l n)=some (sQ l n++[(a8 x,v)])
 | [],n,_=>rfl
 | r::l,n,h=>by
  have ih:=Uw x v l (n+1) fun r hr=>h r (by simp [hr])
  have h1:¬x=r.id:=fun e=>h r (by simp) e.symm
  simp only [sQ,putA,eqKd,if_true];have:(x == r.id)=false:=by simpa using h1
  rw [this];simp only [ih,A6,jM]
theorem qp4 (x:Int):∀(l:List Rw) (n:Nat),gY .i (a8 x) (sQ l n)=some ((rIdx l x).map fun i=> a8 ((i+n:Nat):Int))
 | [],n=>rfl
 | r::l,n=>by
  have ih:=qp4 x l (n+1);unfold rIdx at ih ⊢;simp only [sQ,gY,eqKd,if_true,List.findIdx?_cons];by_cases h:x=r.id
  ·subst h;simp
  ·have h':(x == r.id)=false:=by simpa using h
   have h'':¬r.id=x:=fun e=>h e.symm
   rw [h'];simp only [ih,h'',decide_false,Option.map_map,kC,if_false];congr 2;funext i;simp only [Function.comp_apply];rw [show i+(n+1)=i+1+n by omega]
theorem Y' (x:Int) (l:List Rw):gY .i (a8 x) (ents l)=some ((rIdx l x).map fun (i:Nat)=> a8 (i:Int)):=qp4 x l 0
def T5 (N:Nat) (O:List (Nat×AO)) (iid k:Nat) (es:List (List AV)) (l:List Rw) (r:Option (Rt×AH)):Prop:=
 ∃O' N',r=some (.val (.tup []),⟨O',N'⟩)/\look iid O'=some (.row 1 (es.set k [.map N]))/\look N O'=some (.map (ents l))/\Kp (fun j=>j=iid) N O O'/\Tail O' N'/\N<N'
variable {es:List (List AV)}
theorem qqs {sid iid:Nat} {R:List AV} {V:List AV} (hT:Tail O N) (hl:l.length<2^39) (hk:k<n) (hVk:k<V.length)
  (hs:look sid O=some (.row 15 [v1::v2::v3::v4::(R++[.row iid 1 0 n,.bool true])])) (hR:R.length=9) (hi:look iid O=some (.row 1 es)) (hn:n<=es.length) (hes:∃x,es[k]? =some [x])
  (h1:Mu O 1 v1 (V.map fun x=>[x])) (h5:Mu O 5 V[k] (l.map Rw.c)) (hri:vid v1≠some iid) (hinc:l.Pairwise fun a b=>a.id<b.id) (hk39:k<2^40):
  T5 N O iid k es l (aN Φ qM [.ptr sid 15 0 0,a8 k] ⟨O,N⟩):=by
 rw [dW rfl rfl];obtain ⟨r0,r1,r2,r3,r4,r5,r6,r7,r8,rfl⟩:∃r0 r1 r2 r3 r4 r5 r6 r7 r8,R=[r0,r1,r2,r3,r4,r5,r6,r7,r8]:=by
  match R,hR with
  | [r0,r1,r2,r3,r4,r5,r6,r7,r8],_=>exact ⟨_,_,_,_,_,_,_,_,_,rfl⟩
 obtain ⟨x,hx⟩:=hes;have t0:=hT N (Qb _);have hsi:=b8 hs hi (by simp);have fi:=oN hT hi (Qb N);have fs:=oN hT hs (Qb N);obtain ⟨rid,es1,e1,hl1,hle1,ht1⟩:=h1.nonempty (by simp;omega);subst e1;have hrid:¬rid=iid:=fun e=>hri (by rw [e];rfl)
 have fr:=oN hT hl1 (Qb N);have g1:es1[k]? =some [V[k]]:=HM hVk ht1;have hkn:k<V.length:=hVk;have hken:k<es.length:=by omega
 have h5l:=h5.len;rw [dQ] at h5l;simp [JH,hs,hi,t0,aV,hk,hx,aG,hsi,fi,fs,hl1,hrid,g1,hVk,h5l,-lenOf];have hT1:Tail (setl iid (AO.row 1 (es.set k [.map N])) (O++[(N,AO.map [])])) (N+1):=cY (hT.app1 (Qb _));have hk1:Kp (fun j=>j=iid) N O (setl iid (AO.row 1 (es.set k [.map N])) (O++[(N,AO.map [])])):=Kp.setl (Kp.app (fun _ _ _=>rfl) (Qb _)) (.inr rfl);have a1:look iid (setl iid (AO.row 1 (es.set k [.map N])) (O++[(N,AO.map [])]))=some (.row 1 (es.set k [.map N])):=by simp [aG,aV,hi]
 have a2:look N (setl iid (AO.row 1 (es.set k [.map N])) (O++[(N,AO.map [])]))=some (.map []):=by simp [aG,fi,t0]
 generalize setl iid (AO.row 1 (es.set k [.map N])) (O++[(N,AO.map [])])=O1 at hT1 hk1 a1 a2 ⊢;have a3:look sid O1=some (.row 15 [AV.row rid 1 0 V.length::v2::v3::v4::([r0,r1,r2,r3,r4,r5,r6,r7,r8]++[.row iid 1 0 n,.bool true])]):=by
  rw [hk1 sid (hT.lt hs) hsi,hs];simp
 have h51:Mu O1 5 V[k] (l.map Rw.c):=by
  refine h5.fr fun j hj=>?_
  obtain ⟨es0,hl0⟩:=h5.own hj;exact hk1 j (hT.lt hl0) (b8 hl0 hi (by simp))
 refine I4 l.length (fun i e h=>∃O' N',h=⟨O',N'⟩/\Kp (fun j=>j=N) (N+1) O1 O'/\Tail O' N'/\N+1<=N'/\look N O'=some (.map (ents (l.take i)))/\look 0 e=some (.ptr sid 15 0 0)/\look 1 e=some (a8 k)/\look 20 e=some V[k]/\look 21 e=some (a8 l.length)/\look 22 e=some (a8 i)) (T5 N O iid k es l) ?_ ?_ 0 _ _ (Qc _) ?_
 ·rintro i e _ L hi' hL ⟨O',N',rfl,hk',hT',hN',b2,e0,e1,e20,e21,e22⟩ ih;have hw1:=aL i (by omega);have u0:=hT' N' (Qb _);have fN:¬N'=N:=by omega
  have b1:look iid O'=some (.row 1 (es.set k [.map N])):=hk'.lk hT1 a1 (by omega);have b3:=hk'.lk hT1 a3 (by omega);have b4:(es.set k [AV.map N])[k]? =some [.map N]:=by rw [List.getElem?_set_self hken]
  have hne:∀r∈l.take i,r.id≠l[i].id:=by
   intro r hr;rw [List.mem_take_iff_getElem] at hr;obtain ⟨m,hm,rfl⟩:=hr;have:=MK.1 hinc m i (by omega) hi' (by omega);omega
  have hp:=Uw l[i].id (a8 i) (l.take i) 0 hne;have hml:min i l.length=i:=by omega
  have hsn:ents (l.take (i+1))=ents (l.take i)++[(a8 l[i].id,a8 (i:Nat))]:=by
   rw [Qh hi',qsi,fU,hml]
  rw [show sQ (l.take i) 0=ents (l.take i) from rfl] at hp;have h5':Mu O' 5 V[k] (l.map Rw.c):=by
   refine h51.fr fun j hj=>?_
   obtain ⟨es0,hl0⟩:=h51.own hj;exact hk' j (hT1.lt hl0) (b8 hl0 a2 (by simp))
  obtain ⟨r5',es5,ev,hl5,hle5,ht5⟩:=h5'.nonempty (by simp;omega);have g5:=HM hi' ht5;rw [ev] at e20;have f1:=oN hT' b1 (Qb N');have f3:=oN hT' b3 (Qb N');simp [c_154_l0,Rw.ce,e0,e1,e20,e21,e22,hi',hl5,g5,u0,b3,b1,hken,hk,b2,hp,hw1];refine ih _ _ ⟨_,_,rfl,Kp.setl hk' (.inr rfl),cY (hT'.mono (by omega)),by omega,?_,?_,?_,?_,?_,?_⟩
  ·simp [aG,b2,hsn]
  all_goals simp [*]
 ·rintro e _ L hL ⟨O',N',rfl,hk',hT',hN',b2,e0,e1,e20,e21,e22⟩;simp [c_154_l0,e21,e22,hL];refine ⟨O',N',rfl,hk'.lk hT1 a1 (by omega),?_,?_,hT',by omega⟩
  ·rw [b2,i9]
  ·intro j hj hx;rw [hk' j (by omega) (by omega)];exact hk1 j hj hx
 ·refine ⟨O1,N+1,rfl,fun _ _ _=>rfl,hT1,Qb _,a2,?_,?_,?_,?_,?_⟩<;>simp
structure SV where
 s:Nat
 v1:AV
 v2:AV
 v3:AV
 v4:AV
 vi:AV
 V:List AV
 M:List Nat
def SV.cells (S:SV) (p:Prg):List AV:=S.v1::S.v2::S.v3::S.v4::(Prg.c p++[S.vi,.bool true])
structure IdxM (O:List (Nat×AO)) (vi:AV) (M:List Nat) (R:List (List Rw)):Prop where
 i:Mu O 1 vi (M.map fun m=>[.map m])
 len:M.length=R.length
 m:∀(k m:Nat) (l:List Rw),M[k]? =some m->R[k]? =some l->look m O=some (.map (ents l))
 nd:∀(k k' m:Nat),M[k]? =some m->M[k']? =some m->k=k'
structure StoreM (O:List (Nat×AO)) (S:SV) (p:Prg) (c:Xf):Prop where
 s:look S.s O=some (.row 15 [S.cells p])
 cm:CfgM O S.v1 S.v2 S.v3 S.v4 S.V c
 x:IdxM O S.vi S.M c.rows
 ri:∀i,vid S.v1=some i->vid S.vi=some i->False
 ni:∀i,vid S.v2=some i->vid S.vi=some i->False
def SV.own (S:SV) (j:Nat):Prop:=j=S.s\/CfgM.own S.v1 S.v2 S.v3 S.V j\/vid S.vi=some j\/j∈S.M
theorem IdxM.fr {O O':List (Nat×AO)} {vi:AV} {M:List Nat} {R:List (List Rw)} (h:IdxM O vi M R) (hf:∀j,vid vi=some j\/j∈M->look j O'=look j O):IdxM O' vi M R:=
 ⟨h.i.fr fun j hj=>hf j (.inl hj),h.len,fun k m l hm hl=>by rw [hf m (.inr (Qe hm))];exact h.m k m l hm hl,h.nd⟩
theorem StoreM.fr {O O':List (Nat×AO)} {S:SV} {p:Prg} {c:Xf} (h:StoreM O S p c) (hf:∀j,S.own j->look j O'=look j O):StoreM O' S p c:=
 ⟨by rw [hf _ (.inl rfl)];exact h.s,h.cm.fr fun j hj=>hf j (.inr (.inl hj)),h.x.fr fun j hj=>hf j (.inr (.inr hj)),h.ri,h.ni⟩
theorem CfgM.own_lk {O:List (Nat×AO)} {v1 v2 v3 v4:AV} {V:List AV} {c:Xf} (h:CfgM O v1 v2 v3 v4 V c) {j:Nat} (hj:CfgM.own v1 v2 v3 V j):∃z es,look j O=some (.row z es)/\(z=1\/z=2\/z=5):=by
 rcases hj with hj | hj | hj | ⟨v,hv,hj⟩
 ·obtain ⟨es,hl⟩:=h.r.own hj;exact ⟨1,es,hl,.inl rfl⟩
 ·obtain ⟨es,hl⟩:=h.n.own hj;exact ⟨1,es,hl,.inl rfl⟩
 ·obtain ⟨es,hl⟩:=h.d.own hj;exact ⟨2,es,hl,.inr (.inl rfl)⟩
 ·obtain ⟨k,hk,rfl⟩:=Qn.1 hv;have hk2:k<c.rows.length:=by rw [<- h.rl];exact hk
  obtain ⟨es,hl⟩:=(h.rv k _ _ (Qa hk) (Qa hk2)).own hj;exact ⟨5,es,hl,.inr (.inr rfl)⟩
theorem IdxM.own_lk {O:List (Nat×AO)} {vi:AV} {M:List Nat} {R:List (List Rw)} (h:IdxM O vi M R) {j:Nat} (hj:j∈M):∃es,look j O=some (.map es):=by
 obtain ⟨k,hk,rfl⟩:=Qn.1 hj;have hk2:k<R.length:=by rw [<- h.len];exact hk
 exact ⟨_,h.m k _ _ (Qa hk) (Qa hk2)⟩
theorem StoreM.own_lk {O:List (Nat×AO)} {S:SV} {p:Prg} {c:Xf} (h:StoreM O S p c) {j:Nat} (hj:S.own j):∃x,look j O=some x/\x≠ .res:=by
 rcases hj with rfl | hj | hj | hj
 ·exact ⟨_,h.s,by simp⟩
 ·obtain ⟨z,es,hl,_⟩:=h.cm.own_lk hj;exact ⟨_,hl,by simp⟩
 ·obtain ⟨es,hl⟩:=h.x.i.own hj;exact ⟨_,hl,by simp⟩
 ·obtain ⟨es,hl⟩:=h.x.own_lk hj;exact ⟨_,hl,by simp⟩
theorem StoreM.kp {O O':List (Nat×AO)} {N:Nat} {X:Nat->Prop} {S:SV} {p:Prg} {c:Xf} (h:StoreM O S p c) (hT:Tail O N) (hk:Kp X N O O') (hx:∀j,S.own j->¬X j):StoreM O' S p c:=by
 refine h.fr fun j hj=>?_
 obtain ⟨x,hl,_⟩:=h.own_lk hj;exact hk j (hT.lt hl) (hx j hj)
theorem CfgM.re {O:List (Nat×AO)} {v1 v2 v3 v4:AV} {V:List AV} {c:Xf} (h:CfgM O v1 v2 v3 v4 V c):CfgR O v1 v2 v3 v4 V c:=
 ⟨⟨h.r.re,h.rl,fun k x l hx hl=>(h.rv k x l hx hl).re⟩,h.n.re,h.d.re,by rcases h.g with e | ⟨t,e⟩;exact .inr (.inl e);exact .inr (.inr ⟨t,e⟩)⟩
theorem CfgR.imm {O:List (Nat×AO)} (c:Xf):CfgR O (.slice 1 (c.rows.map (cS 5 Rw.c))) (.slice 1 (c.Xr.map cI)) (.slice 2 (c.Xq.map Xb.c)) (.slice 1 (c.Xm.map (cS 1 c32))) (c.rows.map fun l=> .slice 5 (l.map Rw.c)) c:=by
 refine ⟨⟨?_,by simp,?_⟩,.sl _,.sl _,.inl rfl⟩
 ·have:(c.rows.map fun l=>AV.slice 5 (l.map Rw.c)).map (fun x=>[x])=c.rows.map (cS 5 Rw.c):=by
   rw [List.map_map];rfl
  rw [this];exact .sl _
 ·intro k x l hx hl;rw [List.getElem?_map,hl] at hx;cases hx;exact .sl _
def Rs (O:List (Nat×AO)) (j:Nat):Prop:=look j O=some .res
def T1 (N:Nat) (O:List (Nat×AO)) (p:Prg) (c:Xf) (r:Option (Rt×AH)):Prop:=
 ∃S O' N',r=some (.val (.ptr S.s 15 0 0),⟨O',N'⟩)/\StoreM O' S p c/\(∀j,S.own j->N<=j)/\Kp (Rs O) N O O'/\Tail O' N'/\N<=N'
theorem qyb (p:Prg) (op:p.Ok fL) (c:Xf) (u:CfgU c) (hinc:∀l∈c.rows,l.Pairwise fun a b=>a.id<b.id) (hT:Tail O N) (h:CfgR O v1 v2 v3 v4 A c):
  T1 N O p c (aN Φ yE [.agg (Prg.c p),.agg [v1,v2,v3,v4]] ⟨O,N⟩):=by
 rw [dW rfl rfl];have hcl:=qs1 p op;simp only [Prg.e] at hcl;have t0:=hT N (Qb _);have t13:=hT (N+1+12) (by omega);have n13:¬N=N+1+12:=by omega
 simp [ST,Prg.e,t0,aV];have hT1:Tail (O++[(N,AO.row 4 [[v1,v2,v3,v4]]),(N+1+12,AO.res)]) (N+1+12+1):=by
  rw [Tail_append_iff,s5,s5];exact ⟨hT.mono (by omega),by omega,by omega,Tail.nil _⟩
 have hk1:Kp (fun _=>False) N O (O++[(N,AO.row 4 [[v1,v2,v3,v4]]),(N+1+12,AO.res)]):=Kp.appL (fun _ _ _=>rfl) (by simp;omega);have hres:look (N+1+12) (O++[(N,AO.row 4 [[v1,v2,v3,v4]]),(N+1+12,AO.res)])=some .res:=by simp [t13,n13]
 obtain ⟨w1,w2,w3,w4,V,O2,N2,e2,m2,f2,hk2,hT2,hN2⟩:=Zf c u hT1 (h.kp hT hk1 (by simp));have hres2:look (N+1+12) O2=some .res:=hk2.lk hT1 hres (by simp);rw [e2];have hs1:∀cs,look (N+1+12) (bX (setl (N+1+12) (.row 15 cs) O2))=some (.row 15 cs):=fun cs=>by
  rw [fK (by simp [aG,hres2])];simp [aG,hres2]
 have hs2:∀cs,Tail (bX (setl (N+1+12) (.row 15 cs) O2)) N2:=fun cs=>OH (cY hT2)
 have hs3:∀cs,look N2 (bX (setl (N+1+12) (.row 15 cs) O2))=none:=fun cs=>hs2 cs _ (Qb _)
 have hs4:∀cs z es j,z≠15->look j O2=some (.row z es)->look j (bX (setl (N+1+12) (.row 15 cs) O2))=some (.row z es):=fun cs z es j hz hl=>by
  have hne:j≠N+1+12:=b8 hl hres2 (by simp);rw [fK (by simp [aG,hne,hl])];simp [aG,hne,hl]
 have hs5:∀cs,Kp (Rs O) N O (bX (setl (N+1+12) (.row 15 cs) O2)):=fun cs j hj hx=>by
  have hne:j≠N+1+12:=by omega
  have h2:look j O2=look j O:=(hk2 j (by omega) (by simp)).trans (hk1 j hj (by simp));rw [fK (by rw [aG,QA hne,h2];exact hx),aG,QA hne,h2]
 have n2:¬N2=N+1+12:=by omega
 have l1:=m2.r.len;rw [dQ,m2.rl] at l1;have hrl:=u.t.rl;have b1:(c.rows.length:Int)*8<=140737488355328:=by omega
 have b2:c.rows.length<4611686018427387904:=by omega
 have w1c:=m2.r.cells;simp [hcl,hres2,hs1,hs3,aV,aG,l1,n2,b1,b2,-lenOf,-AV.cells];generalize hO3:setl (N+1+12) _ (_++[(N2,AO.row 1 (List.replicate c.rows.length [AV.nilmap]))])=O3;have hT3:Tail O3 (N2+1):=by rw [<- hO3];exact cY ((hs2 _).app1 (Qb _))
 have hk3:Kp (Rs O) N O O3:=by rw [<- hO3];exact Kp.setl (Kp.app (hs5 _) (by omega)) (.inl (by omega))
 have ls:look (N+1+12) O3=some (.row 15 [w1::w2::w3::w4::(Prg.c p++[.row N2 1 0 c.rows.length,.bool true])]):=by
  rw [<- hO3,aG,aB rfl,aV,hs1,Prg.e];rfl
 have li:look N2 O3=some (.row 1 (List.replicate c.rows.length [AV.nilmap])):=by
  rw [<- hO3,aG,QA n2,aV,hs3];simp
 have lo:∀z es j,z≠15->look j O2=some (.row z es)->look j O3=look j O2:=fun z es j hz hl=>by
  have hne:j≠N+1+12:=b8 hl hres2 (by simp);rw [<- hO3,aG,QA hne,aV,hs4 _ z es j hz hl,hl];rfl
 have m3:CfgM O3 w1 w2 w3 w4 V c:=m2.fr fun j hj=>by
  obtain ⟨z,es,hl,hz⟩:=m2.own_lk hj;exact lo z es j (by omega) hl
 clear hO3;have fo:∀j,CfgM.own w1 w2 w3 V j->j≠N2:=fun j hj=>by
  obtain ⟨z,es,hl,hz⟩:=m2.own_lk hj;have:=hT2.lt hl;omega
 refine I4 c.rows.length (fun i e h=>∃(O':List (Nat×AO)) (N':Nat) (M:List Nat),h=⟨O',N'⟩/\Kp (fun j=>j=N2) (N2+1) O3 O'/\Tail O' N'/\N2+1<=N'/\look N2 O'=some (.row 1 (M.map (fun m=>[AV.map m])++List.replicate (c.rows.length - i) [AV.nilmap]))/\M.length=i/\
   (∀(k m:Nat) (l:List Rw),M[k]? =some m->c.rows[k]? =some l->look m O'=some (.map (ents l)))/\(∀m∈M,N2+1<=m)/\(∀(k k' m:Nat),M[k]? =some m->M[k']? =some m->k=k')/\
   look 5 e=some (.ptr (N+1+12) 15 0 0)/\look 28 e=some (a8 c.rows.length)/\look 29 e=some (a8 i)) (T1 N O p c) ?_ ?_ 0 _ _ (Qc _) ?_
 ·rintro i e _ L hi hL ⟨O',N',M,rfl,hk',hT',hN',ln,hMl,hMe,hMf,hMn,e5,e28,e29⟩ ih;have hw:=aL i (by omega);have hVi:i<V.length:=by rw [m2.rl];exact hi
  have ls':=hk'.lk hT3 ls (by omega);have m3':CfgM O' w1 w2 w3 w4 V c:=m3.fr fun j hj=>by
   obtain ⟨z,es,hl,hz⟩:=m3.own_lk hj;exact hk' j (hT3.lt hl) (fo j hj)
  have hes:(M.map (fun m=>[AV.map m])++List.replicate (c.rows.length - i) [AV.nilmap]).length=c.rows.length:=by simp [hMl];omega
  have hr:=qqs (k:=i) (n:=c.rows.length) (V:=V) (l:=c.rows[i]) (R:=Prg.c p) hT' (u.u _ (Qd hi)) hi hVi ls' (by simp) ln (Nat.le_of_eq hes.symm) ?_ m3'.r (m3'.rv i _ _ (Qa hVi) (Qa hi)) ?_ (hinc _ (Qd hi)) (by omega)
  rotate_left
  ·refine ⟨.nilmap,?_⟩;rw [Qp (by simp;omega),List.getElem?_replicate,aB (by simp [hMl];omega)]
  ·intro hc;exact fo N2 (.inl hc) rfl
  obtain ⟨O4,N4,e4,r1,r2,hk4,hT4,hN4⟩:=hr;simp [c_88_l0,e5,e28,e29,hi,e4,hw];refine ih _ _ ⟨O4,N4,M++[N'],rfl,?_,hT4,by omega,?_,by simp [hMl],?_,?_,?_,?_,?_,?_⟩
  ·intro j hj hx;rw [hk4 j (by omega) hx,hk' j hj hx]
  ·rw [r1];congr 1;have hd:c.rows.length - i=(c.rows.length - (i+1))+1:=by omega
   rw [hd,WO,List.set_append_right _ _ (by simp [hMl])];simp [hMl]
  ·intro k m l hm hl;by_cases hk:k<M.length
   ·rw [Ql hk] at hm;have h0:=hMe k m l hm hl;exact hk4.lk hT' h0 (by have:=hMf m (Qe hm);omega)
   ·have hb:=(Qm.1 hm).1;simp at hb;have hk:k=M.length:=by omega
    subst hk;rw [Qp (by omega)] at hm;simp at hm;subst hm;rw [hMl,Qa hi] at hl;cases hl;exact r2
  ·intro m hm;rcases gP.1 hm with hm | hm
   ·exact hMf m hm
   ·simp at hm;omega
  ·intro k k' m hm hm';have hb:=(Qm.1 hm).1;have hb':=(Qm.1 hm').1;simp at hb hb';have hlt:∀m,m∈M->m<N':=fun m hm=>by
    obtain ⟨q,hq,rfl⟩:=Qn.1 hm;exact hT'.lt (hMe q _ _ (Qa hq) (Qa (by omega)))
   by_cases hk:k<M.length
   ·by_cases hk':k'<M.length
    ·rw [Ql hk] at hm;rw [Ql hk'] at hm';exact hMn k k' m hm hm'
    ·rw [Ql hk] at hm;rw [Qp (by omega),show k' - M.length=0 by omega] at hm';simp at hm';have:=hlt m (Qe hm);omega
   ·by_cases hk':k'<M.length
    ·rw [Ql hk'] at hm';rw [Qp (by omega),show k - M.length=0 by omega] at hm;simp at hm;have:=hlt m (Qe hm');omega
    ·omega
  ·simp [e5]
  ·simp [e28]
  ·simp
 ·rintro e _ L hL ⟨O',N',M,rfl,hk',hT',hN',ln,hMl,hMe,hMf,hMn,e5,e28,e29⟩;simp [c_88_l0,c_88_k1,e5,e28,e29,hL];have ls':=hk'.lk hT3 ls (by omega);have m3':CfgM O' w1 w2 w3 w4 V c:=m3.fr fun j hj=>by
   obtain ⟨z,es,hl,hz⟩:=m3.own_lk hj;exact hk' j (hT3.lt hl) (fo j hj)
  refine ⟨⟨N+1+12,w1,w2,w3,w4,.row N2 1 0 c.rows.length,V,M⟩,O',N',rfl,⟨ls',m3',⟨?_,hMl,hMe,hMn⟩,?_,?_⟩,?_,?_,hT',by omega⟩
  ·rw [Nat.sub_self,List.replicate_zero,MO] at ln;exact .row N2 _ _ _ (by simp [hMl]) ln (Qb _) (by rw [i9])
  ·intro j h1 h2;cases h2;exact fo _ (.inl h1) rfl
  ·intro j h1 h2;cases h2;exact fo _ (.inr (.inl h1)) rfl
  ·intro j hj;rcases hj with rfl | hj | hj | hj
   ·simp only;omega
   ·have:=f2 j hj;omega
   ·cases hj;omega
   ·have:=hMf j hj;omega
  ·intro j hj hx;rw [hk' j (by omega) (by omega)];exact hk3 j hj hx
 ·exact ⟨O3,N2+1,[],rfl,fun _ _ _=>rfl,hT3,Qb _,by simpa using li,rfl,by simp,by simp,by simp,by simp,by simp,by simp⟩
theorem OL {p:Nat} {o:AO} (h:Tail O n) (hp:p<n):Tail (O++[(p,o)]) n:=by
 rw [Tail_append_iff,s5];exact ⟨h,hp,Tail.nil _⟩
theorem qqh {I:Type} (x:List AV) (h:mapO (snap n H) x=some x) (l:List I):mapO (mapO (snap n H)) (l.map fun _=>x)=some (l.map fun _=>x):=HI (g:=fun _=>x) (fun _=>h) l
theorem Dz (p:Prg) (f:PrgS p) (hd:∀t∈p.Xn,t.Yc.args.length<2^40):a9 Φ yA [.agg (Prg.c p)]=some (.val (.agg (Xf.c (gA p)))):=by
 rw [aA rfl rfl,qux];have ht:=f.t;have h:=Ow p f;simp only [Prg.e] at h;generalize (newR p).map (cS 1 c32)=W at h ⊢;generalize hQ:(fun r:Option Rt=>r=some (Rt.val (.agg [.slice 1 (p.Xn.map fun _=>[.slice 5 []]),.slice 1 (p.Xn.map fun _=>[a8 1]),.slice 2 (p.Xn.map fun t=>[a8 t.Yc.Xz,.slice 1 (t.Yc.args.map c32)]),.slice 1 W])))=Q;have hq:∀r,Q r=(r=some (Rt.val (.agg [.slice 1 (p.Xn.map fun _=>[.slice 5 []]),.slice 1 (p.Xn.map fun _=>[a8 1]),.slice 2 (p.Xn.map fun t=>[a8 t.Yc.Xz,.slice 1 (t.Yc.args.map c32)]),.slice 1 W]))):=fun r=>by rw [<- hQ]
 rw [<- hq];clear hQ;simp [SF,Prg.e,h];refine I4 p.Xn.length (fun i e h=>∃(O':List (Nat×AO)) (N':Nat) (w1 w2 w3:AV),h=⟨O',N'⟩/\Tail O' N'/\look 0 O'=some (.row 4 [[.Xu 1 [],.Xu 1 [],.Xu 2 [],.Xu 1 []]])/\look 1 O'=some (.row 4 [[w1,w2,w3,.slice 1 W]])/\
   ((i=0/\w1= .Xu 1 []/\w2= .Xu 1 []/\w3= .Xu 2 [])\/∃a b t,w1= .row a 1 0 i/\look a O'=some (.row 1 ((p.Xn.map fun _=>[AV.slice 5 []]).take i))/\w2= .row b 1 0 i/\look b O'=some (.row 1 ((p.Xn.map fun _=>[a8 1]).take i))/\a≠b/\
    w3= .app 2 ((p.Xn.map fun t=>[a8 t.Yc.Xz,.slice 1 (t.Yc.args.map c32)]).take i) t/\look t O'=some (.tok 2 i))/\
   look 2 e=some (.ptr 0 4 0 0)/\look 3 e=some (.ptr 1 4 0 0)/\look 10 e=some (.slice 6 (p.Xn.map Tbl.c))/\look 11 e=some (a8 p.Xn.length)/\look 12 e=some (a8 i)) Q ?_ ?_ 0 _ _ (Qc _) ?_
 ·rintro i e _ L hi hL ⟨O',N',w1,w2,w3,rfl,hT',l0,l1,hw,e2,e3,e10,e11,e12⟩ ih;have hw1:=aL i (by omega);have hc:=UD p.Xn[i].Yc (hd _ (Qd hi));simp only [Xb.ce] at hc;have t0:=hT' N' (Qb _);have t1:=hT' (N'+1) (by omega);have t2:=hT' (N'+2) (by omega);have t3:=hT' (N'+3) (by omega);have hTm:Tail O' (N'+1+1+1+1):=hT'.mono (by omega);have nz:¬N'=0:=by have:=hT'.lt l1;omega
  have f0:=oN hT' l0 (Qb N');have f1:=oN hT' l1 (Qb N');have g1:¬1=N'+1/\¬N'+1=1:=by omega
  have g2:¬1=N'+2/\¬N'+2=1:=by omega
  have g3:¬1=N'+3/\¬N'+3=1:=by omega
  have g4:¬0=N'+1/\¬0=N'+2/\¬0=N'+3:=by omega
  have s1:∀{I:Type} (g:Tbl->I),(p.Xn.map g).take (i+1)=(p.Xn.map g).take i++[g p.Xn[i]]:=fun g=>jS hi
  rcases hw with ⟨rfl,rfl,rfl,rfl⟩ | ⟨a,b,t,rfl,la,rfl,lb,hab,rfl,lt⟩
  ·have s2:∀{I:Type} (g:Tbl->I),(p.Xn.map g).take 1=[g p.Xn[0]]:=fun g=>by simpa using s1 g
   simp [c_38_l0,Tbl.e,e3,e10,e11,e12,hi,hc,t0,t1,t2,t3,wr1,aV,aG,l1];refine ih _ _ ⟨_,_,.row (N'+1) 1 0 1,.row (N'+1+1) 1 0 1,.app 2 _ (N'+1+1+1),rfl,?_,?_,?_,.inr ⟨N'+1,N'+1+1,N'+1+1+1,rfl,?_,rfl,?_,by omega,by rw [s1],?_⟩,?_,?_,?_,?_,?_⟩
   ·repeat' first | exact hTm | apply cY | apply OG | apply OL | omega
   ·simp [aV,aG,l0,nz]
   ·simp [aV,aG,l1]
   ·simp [aV,aG,t1,s2,nz]
   ·simp [aV,aG,t2,s2]
   ·simp [aV,aG,t3]
   all_goals simp [e2,e3,e10,e11]
  ·have i0:0≠a:=b8 l0 la (by simp);have i1:1≠a:=b8 l1 la (by simp);have i2:0≠b:=b8 l0 lb (by simp);have i3:1≠b:=b8 l1 lb (by simp);have i4:t≠a:=b8 lt la (by simp);have i5:t≠b:=b8 lt lb (by simp);have i6:0≠t:=b8 l0 lt (by simp);have i7:1≠t:=b8 l1 lt (by simp);have fa:=oN hT' la (Qb N');have fa1:=oN (n:=N'+1) hT' la (by omega);have fb:=oN hT' lb (Qb N');have fb1:=oN (n:=N'+1) hT' lb (by omega);have fb2:=oN (n:=N'+1+1) hT' lb (by omega);have fc1:=oN (n:=N'+1) hT' lt (by omega);have fc2:=oN (n:=N'+1+1) hT' lt (by omega);have hm:min i p.Xn.length=i:=by omega
   have j0:=i0.symm;have j1:=i1.symm;have j2:=i2.symm;have j3:=i3.symm;have j4:=i4.symm;have j5:=i5.symm;have j6:=i6.symm;have j7:=i7.symm;have hba:b≠a:=fun e=>hab e.symm
   have c1:(i+1)*24<=70368744177664:=by omega
   have c2:(i+1)*8<=70368744177664:=by omega
   have c3:(i+1)*32<=70368744177664:=by omega
   simp [c_38_l0,Tbl.e,e3,e10,e11,e12,hi,hc,t0,t1,t2,hw1,aV,aG,mD,LJ,l1,la,lb,lt,i1,i3,i4,i5,i7,j3,j7,nz,fa1,fb1,fb2,fc1,fc2,hba,hm,c1,c2,c3];refine ih _ _ ⟨_,_,.row (N'+1) 1 0 (i+1),.row (N'+1+1) 1 0 (i+1),.app 2 _ t,rfl,?_,?_,?_,.inr ⟨N'+1,N'+1+1,t,rfl,?_,rfl,?_,by omega,by rw [s1],?_⟩,?_,?_,?_,?_,?_⟩
   ·have hTn:Tail O' (N'+1+1+1):=hT'.mono (by omega)
    repeat' first | exact hTm | exact hTn | apply cY | apply OG | apply OL | omega
   ·simp [aV,aG,mD,l0,nz,i0,i2,i6]
   ·simp [aV,aG,mD,l1,i1,i3,i7]
   ·simp [aV,aG,mD,LJ,t1,s1,nz,fb1,fc1]
   ·simp [aV,aG,mD,LJ,t2,s1,nz,fb2,fc2]
   ·simp [aV,aG,mD,lt,i4,i5,j7]
   all_goals simp [e2,e3,e10,e11]
 ·rintro e _ L hL ⟨O',N',w1,w2,w3,rfl,hT',l0,l1,hw,e2,e3,e10,e11,e12⟩;simp [c_38_l0,c_38_k1,e2,e3,e11,e12,hL,l1,l0,aG];rw [hq];rcases hw with ⟨hz,rfl,rfl,rfl⟩ | ⟨a,b,t,rfl,la,rfl,lb,hab,rfl,lt⟩
  ·have:p.Xn=[]:=Qg hz;simp [this]
  ·rw [Qo (by simp)] at la lb;have i0:¬a=0:=fun e=>b8 l0 la (by simp) e.symm
   have i2:¬b=0:=fun e=>b8 l0 lb (by simp) e.symm
   have r1:=fun H=>qqh (n:=38) (H:=H) [AV.slice 5 []] (by simp) p.Xn
   have r2:=fun H=>qqh (n:=38) (H:=H) [a8 1] (by simp) p.Xn
   have ht1:∀{I:Type} (g:Tbl->I),(p.Xn.map g).take p.Xn.length=p.Xn.map g:=fun g=>Qo (by simp)
   simp [la,lb,aG,i0,i2,ht1,r1,r2]
 ·refine ⟨_,_,.Xu 1 [],.Xu 1 [],.Xu 2 [],rfl,?_,?_,?_,.inl ⟨rfl,rfl,rfl,rfl⟩,?_,?_,?_,?_,?_⟩
  all_goals simp [s5,LK]
variable {p:Prg} {t:Int}
theorem Cy {tb:Tbl} (h:(tblE p t).2=0) (ht:at? p.Xn t=some tb):tb.size<=256:=by
 unfold tblE at h;rw [ht] at h;simp only at h;split at h
 ·cases h
 split at h
 ·cases h
 split at h
 ·cases h
 ·omega
theorem Eb {x:Entry} (h:entE p t x=0):(tblE p t).2=0:=by
 unfold entE at h;refine Decidable.byContradiction fun hc=>?_
 rw [aB hc] at h;exact hc h
theorem CfgV.small {p:Prg} {c:Xf} (v:CfgV p c):∀l∈c.rows,l.length<=256:=by
 intro l hl;obtain ⟨k,hk,rfl⟩:=Qn.1 hl;have hkt:k<p.Xn.length:=by rw [<- v.rl];exact hk
 have hv:=v.at hkt;by_cases h0:c.rows[k].length=0
 ·omega
 have he:=hv.ent _ (Qd (show 0<c.rows[k].length by omega));have hs:=Cy (Eb he) (by rw [P2];exact Qa hkt);have:=hv.size;omega
theorem CfgV.u {p:Prg} {c:Xf} (v:CfgV p c) (s:CfgT c):CfgU c:=⟨s,fun l hl=>by have:=v.small l hl;omega⟩
theorem CfgV.incs {p:Prg} {c:Xf} (v:CfgV p c):∀l∈c.rows,l.Pairwise fun a b=>a.id<b.id:=by
 intro l hl;obtain ⟨k,hk,rfl⟩:=Qn.1 hl;have hkt:k<p.Xn.length:=by rw [<- v.rl];exact hk
 exact (v.at hkt).inc
def Cb (N:Nat) (O:List (Nat×AO)) (p:Prg) (c:Xf) (r:Option (Rt×AH)):Prop:=
 (cfgE p c≠0/\r=some (.val (.tup [.nilptr,a8 (cfgE p c)]),⟨O,N⟩))\/
 (cfgE p c=0/\∃S O' N',r=some (.val (.tup [.ptr S.s 15 0 0,a8 0]),⟨O',N'⟩)/\StoreM O' S p c/\(∀j,S.own j->N<=j)/\Kp (Rs O) N O O'/\Tail O' N'/\N<=N')
theorem qxy (p:Prg) (op:p.Ok fL) (hc:(pre p.Yb).length<2^40 - 1) (c:Xf) (s:CfgT c) (hT:Tail O N):
  Cb N O p c (aN Φ t9 [.agg (Prg.c p),.agg (Xf.c c)] ⟨O,N⟩):=by
 rw [dW rfl rfl];have f:=HL op;have hk:=Ii p f hc c s;simp only [Prg.e,Xf.ce] at hk;by_cases z:cfgE p c=0
 ·have v:=(QV p c).1 z;obtain ⟨S,O',N',e,h1,h2,h3,h4,h5⟩:=qyb p op c (v.u s) v.incs hT (CfgR.imm (O:=O) c);rw [z] at hk;simp only [Prg.e] at e;simp [MX,Prg.e,Xf.ce,hk,e];exact .inr ⟨z,S,O',N',rfl,h1,h2,h3,h4,h5⟩
 ·simp [MX,Prg.e,Xf.ce,hk,z];exact .inl ⟨z,rfl⟩
theorem T6 (op:p.Ok fL):CfgT (gA p):=by
 have f:=HL op;have e:=TZ;have ht:=f.t;have hr:=f.r;obtain ⟨_,_,_,_,_,o5,_⟩:=op;refine ⟨by simpa [gA] using ht,?_,by simpa [gA] using ht,by simpa [gA] using ht,?_,by simpa [gA,newR] using hr,?_⟩
 ·intro l hl;simp [gA] at hl;obtain ⟨_,_,rfl⟩:=hl;simp
 ·intro d hd;simp [gA] at hd;obtain ⟨t,ht,rfl⟩:=hd;have:=o5.2 t ht;simp only [Tbl.Ok,Xb.Ok] at this;exact ⟨by have:=this.2.2.2.1.2.1;omega,fun v hv=>this.2.2.2.1.2.2 v hv⟩
 ·intro l hl;simp [gA,newR] at hl;obtain ⟨r,_,rfl⟩:=hl;have:=Ks r;refine ⟨by simp;omega,?_⟩;intro v hv;have:=WL hv;subst this;exact ⟨by omega,by omega⟩
variable {c:Xf} {S:SV}
theorem qsa (u:CfgU c) (hT:Tail O N) (m:StoreM O S p c):SZ N O c (aN Φ EG [.ptr S.s 15 0 0] ⟨O,N⟩):=by
 rw [dW rfl rfl];have t0:=hT N (Qb _);have hs:=m.s;simp only [SV.cells,Prg.e,jM,sZ] at hs;have fs:=oN hT hs (Qb N);have hk1:Kp (fun _=>False) N O (O++[(N,AO.row 4 [[.Xu 1 [],.Xu 1 [],.Xu 2 [],.Xu 1 []]])]):=Kp.app (fun _ _ _=>rfl) (Qb _);have hT1:=hT.app1 (o:=AO.row 4 [[.Xu 1 [],.Xu 1 [],.Xu 2 [],.Xu 1 []]]) (Qb N);obtain ⟨w1,w2,w3,w4,V,O',N',e,h1,h2,h3,h4,h5⟩:=Zf c u hT1 (m.cm.re.kp hT hk1 (by simp));have ln:look N O'=some (.row 4 [[.Xu 1 [],.Xu 1 [],.Xu 2 [],.Xu 1 []]]):=h3.lk hT1 (by rw [aV,t0];simp) (by simp);simp [SG,t0,aV,hs,e,ln,aG];refine ⟨w1,w2,w3,w4,V,_,N',rfl,?_,fun j hj=>by have:=h2 j hj;omega,?_,cY h4,by omega⟩
 ·refine h1.fr fun j hj=>?_
  have:=h2 j hj;rw [aG,QA (by omega)]
 ·intro j hj hx;rw [aG,QA (by omega),h3 j (by omega) hx,aV,show look j [(N,AO.row 4 [[.Xu 1 [],.Xu 1 [],.Xu 2 [],.Xu 1 []]])]=none by simp [look];omega];simp
theorem CfgT.s {c:Xf} (t:CfgT c):CfgS c:=
 ⟨t.rl,fun l hl=>⟨(t.rs l hl).1,fun r hr=>⟨((t.rs l hl).2 r hr).kl,((t.rs l hl).2 r hr).al⟩⟩,t.nl,t.dl,fun d hd=>(t.ds d hd).1,t.gl,fun l hl=>(t.gs l hl).1⟩
theorem Yu (op:p.Ok fL):∀t∈p.Xn,∀v∈t.Yc.args,ok32 0 v:=by
 intro t ht v hv;have:=op.2.2.2.2.2.1.2 t ht;simp only [Tbl.Ok,Xb.Ok] at this;exact this.2.2.2.1.2.2 v hv
section
variable {O:List (Nat×AO)} {N:Nat} {S:SV} {p:Prg} {c:Xf}
theorem StoreM.se (m:StoreM O S p c):look S.s O=some (.row 15 [(S.v1::S.v2::S.v3::S.v4::mN p [S.vi,.bool true])]):=by
 have hs:=m.s;simp only [SV.cells,Prg.e,jM,sZ] at hs;exact hs
theorem StoreM.l1 (m:StoreM O S p c):lenOf S.v1=some c.rows.length:=by
 have:=m.cm.r.len;rw [dQ,m.cm.rl] at this;exact this
theorem Vf (m:StoreM O S p c) (hl:c.rows.length=p.Xn.length) (t:Int):aN Φ qP [.ptr S.s 15 0 0,a8 t] ⟨O,N⟩=some (.val (.bool (inT p t)),⟨O,N⟩):=by
 rw [dW rfl rfl];have hs:=m.se;have l1:=m.l1;by_cases z:0<=t
 ·simp [AK,hs,l1,z,inT,hl,-lenOf]
 ·simp [AK,z,inT,-lenOf]
def rowI (p:Prg) (c:Xf) (t id:Int):Int:=if inT p t then ((rIdx (kT c t) id).map fun (j:Nat)=>(j:Int)).getD 0 else 0
def rowX (p:Prg) (c:Xf) (t id:Int):Int:=if inT p t=false then 8 else if rIdx (kT c t) id=none then 8 else 0
theorem StoreM.idx (m:StoreM O S p c) {k:Nat} (hk:k<c.rows.length):∃id es0,S.vi= .row id 1 0 c.rows.length/\look id O=some (.row 1 es0)/\c.rows.length<=es0.length/\∃hM:k<S.M.length,es0[k]? =some [.map (S.M[k])]/\look (S.M[k]) O=some (.map (ents c.rows[k])):=by
 have hl:=m.x.len;obtain ⟨id,es0,e,hl1,hle,ht⟩:=m.x.i.nonempty (by simp;omega);rw [dQ,hl] at e hle;have hM:k<S.M.length:=by omega
 refine ⟨id,es0,e,hl1,hle,hM,HM hM ht,m.x.m k _ _ (Qa hM) (Qa hk)⟩
theorem StoreM.tab (m:StoreM O S p c) {k:Nat} (hk:k<c.rows.length):∃id es0,S.v1= .row id 1 0 c.rows.length/\look id O=some (.row 1 es0)/\c.rows.length<=es0.length/\(∃hV:k<S.V.length,es0[k]? =some [S.V[k]]/\Mu O 5 S.V[k] (c.rows[k].map Rw.c))/\es0.take c.rows.length=S.V.map fun x=>[x]:=by
 have hl:=m.cm.rl;obtain ⟨id,es0,e,hl1,hle,ht⟩:=m.cm.r.nonempty (by simp;omega);have ht':=ht;rw [dQ,hl] at e hle ht';have hV:k<S.V.length:=by omega
 refine ⟨id,es0,e,hl1,hle,⟨hV,HM hV ht,m.cm.rv k _ _ (Qa hV) (Qa hk)⟩,ht'⟩
theorem Wz (m:StoreM O S p c) (hl:c.rows.length=p.Xn.length) (t id:Int):aN Φ qN [.ptr S.s 15 0 0,a8 t,a8 id] ⟨O,N⟩=some (.val (.tup [a8 (rowI p c t id),a8 (rowX p c t id)]),⟨O,N⟩):=by
 rw [dW rfl rfl];have hs:=m.se;have ht:=Vf (N:=N) m hl t;cases z:inT p t with
 | false=>
  rw [z] at ht;simp [uD,hs,ht,rowI,rowX,z]
 | true=>
  rw [z] at ht;obtain ⟨k,rfl,hk⟩:=HS z;have hk':k<c.rows.length:=by omega
  obtain ⟨iid,es0,e,hi,hle,hM,g1,g2⟩:=m.idx hk';rw [e] at hs;have hf:=Y' id c.rows[k];have hke:k<es0.length:=by omega
  have hrow:kT c (k:Int)=c.rows[k]:=EM hk';cases hx:rIdx c.rows[k] id with
  | none=>
   rw [hx] at hf;simp [uD,hs,ht,hi,hk',g1,g2,hf,rowI,rowX,z,hrow,hx]
  | some i=>
   rw [hx] at hf;simp [uD,hs,ht,hi,hk',g1,g2,hf,rowI,rowX,z,hrow,hx]
end
def MDpost (N:Nat) (O:List (Nat×AO)) (S:SV) (p:Prg) (c':Xf) (v:AV) (r:Option (Rt×AH)):Prop:=
 ∃S' O' N',r=some (.val v,⟨O',N'⟩)/\StoreM O' S' p c'/\S'.s=S.s/\(∀j,S'.own j->S.own j\/N<=j)/\Kp (fun j=>S.own j\/Rs O j) N O O'/\Tail O' N'/\N<=N'
theorem Mu.upd {O':List (Nat×AO)} {id z k:Nat} {es es0:List (List AV)} {y:List AV} (hl:look id O'=some (.row z (es0.set k y))) (hle:es.length<=es0.length) (ht:es0.take es.length=es):Mu O' z (.row id z 0 es.length) (es.set k y):=
 .row id _ _ _ (by simp) hl (by simpa using hle) (by rw [List.length_set,List.take_set,ht])
theorem qti (m:StoreM O S p c) (f:PrgS p) (hl:c.rows.length=p.Xn.length) (hd:c.Xq.length=p.Xn.length) (hT:Tail O N) (t:Int) (x:Xb) (hx:x.args.length<2^40):
  MDpost N O S p (if defE p t x=0 then defC c t x else c) (a8 (defE p t x)) (aN Φ HC [.ptr S.s 15 0 0,a8 t,.agg (Xb.c x)] ⟨O,N⟩):=by
 rw [dW rfl rfl];have t0:=hT N (Qb _);have hk1:Kp (fun j=>S.own j\/Rs O j) N O (O++[(N,AO.row 2 [Xb.c x])]):=Kp.app (fun _ _ _=>rfl) (Qb _);have hT1:=hT.app1 (o:=AO.row 2 [Xb.c x]) (Qb N);have m1:StoreM (O++[(N,AO.row 2 [Xb.c x])]) S p c:=m.kp (X:=fun _=>False) hT (Kp.app (fun _ _ _=>rfl) (Qb _)) (by simp);have b1:look N (O++[(N,AO.row 2 [Xb.c x])])=some (.row 2 [Xb.c x]):=by rw [aV,t0];simp
 have same:MDpost N O S p c (a8 (defE p t x)) (some (.val (a8 (defE p t x)),⟨O++[(N,AO.row 2 [Xb.c x])],N+1⟩)):=
  ⟨S,_,_,rfl,m1,rfl,fun j hj=> .inl hj,hk1,hT1,by omega⟩
 have hs:=m1.se;have ht:=Vf (N:=N+1) m1 hl t;have hc:=Vb p f t x hx;have hcl:=UD x hx;simp only [Prg.e] at hc;simp only [Xb.ce] at b1 hs ht hc hcl same;cases z:inT p t with
 | false=>
  have hE:defE p t x=8:=by simp [defE,z]
  rw [z] at ht;rw [hE] at same ⊢;simp [GL,Xb.ce,t0,hs,ht];exact same
 | true=>
  have hE:defE p t x=fD p t x:=by simp [defE,z]
  rw [z] at ht;rw [hE] at same ⊢;by_cases q:fD p t x=0
  ·obtain ⟨k,rfl,hk⟩:=HS z;have hk':k<c.Xq.length:=by omega
   obtain ⟨did,es0,e,hi,hle,htk⟩:=m1.cm.d.nonempty (by simp;omega);rw [dQ] at e hle;rw [e] at hs;have hke:k<es0.length:=by omega
   have g1:=HM hk' htk;rw [q] at hc ⊢;simp only [Xb.ce] at hi;simp [GL,Xb.ce,t0,hs,ht,hc,hcl,b1,hk',hi,g1];have hown:S.own did:= .inr (.inl (.inr (.inr (.inl (by rw [e];rfl)))));refine ⟨S,_,_,rfl,?_,rfl,fun j hj=> .inl hj,Kp.setl (by simpa only [Xb.ce] using hk1) (.inr (.inl hown)),cY (by simpa only [Xb.ce] using hT1),by omega⟩;simp only [<- Xb.ce] at hi ⊢;have keep:∀j o,look j (O++[(N,AO.row 2 [Xb.c x])])=some o->(∀es,o≠ .row 2 es)->look j (setl did (.row 2 (es0.set k (Xb.c x))) (O++[(N,AO.row 2 [Xb.c x])]))=look j (O++[(N,AO.row 2 [Xb.c x])]):=by
    intro j o ho hne;have hji:=b8 ho hi (hne _);rw [aG,QA hji]
   have kmu:∀z v es,z≠2->Mu (O++[(N,AO.row 2 [Xb.c x])]) z v es->Mu (setl did (.row 2 (es0.set k (Xb.c x))) (O++[(N,AO.row 2 [Xb.c x])])) z v es:=by
    intro z v es hz hm;refine hm.fr fun j hj=>?_
    obtain ⟨es1,h1⟩:=hm.own hj;exact keep j _ h1 (by intro es2 h2;cases h2;exact hz rfl)
   refine ⟨?_,⟨kmu _ _ _ (by decide) m1.cm.r,m1.cm.rl,fun a v l hv hl=>kmu _ _ _ (by decide) (m1.cm.rv a v l hv hl),kmu _ _ _ (by decide) m1.cm.n,?_,m1.cm.g,m1.cm.rn,m1.cm.vi,m1.cm.va⟩,⟨kmu _ _ _ (by decide) m1.x.i,m1.x.len,?_,m1.x.nd⟩,m1.ri,m1.ni⟩
   ·rw [keep S.s _ m1.s (by simp)];exact m1.s
   ·have hmu:Mu (setl did (.row 2 (es0.set k (Xb.c x))) (O++[(N,AO.row 2 [Xb.c x])])) 2 (.row did 2 0 (c.Xq.map Xb.c).length) ((c.Xq.map Xb.c).set k (Xb.c x)):=
     Mu.upd (by rw [aG,aB rfl,hi];rfl) (by simpa using hle) htk
    rw [e];rw [<- QG,dQ] at hmu;exact hmu
   ·intro a b l ha hl2;have h0:=m1.x.m a b l ha hl2;rw [keep b _ h0 (by simp)];exact h0
  ·simp [GL,Xb.ce,t0,hs,ht,hc,b1,q];exact same
theorem qsh:∀(l l':List Rw) (n:Nat),l.length=l'.length->(∀(j:Nat) (h1:j<l.length) (h2:j<l'.length),l[j].id=l'[j].id)->sQ l n=sQ l' n
 | [],[],n,_,_=>rfl
 | [],_::_,n,h,_=>by simp at h
 | _::_,[],n,h,_=>by simp at h
 | a::l,b::l',n,h,hi=>by
  have h0:=hi 0 (by simp) (by simp);simp at h0;simp only [sQ,h0];rw [qsh l l' (n+1) (by simpa using h) fun j h1 h2=>by
   have:=hi (j+1) (by simp;omega) (by simp;omega);simpa using this]
theorem Ec {l':List Rw} (h:l.length=l'.length) (hi:∀(j:Nat) (h1:j<l.length) (h2:j<l'.length),l[j].id=l'[j].id):ents l=ents l':=qsh l l' 0 h hi
def SV.chg (S:SV) (k j:Nat):Prop:=(∃v,S.V[k]? =some v/\vid v=some j)\/vid S.v1=some j\/vid S.v2=some j\/vid S.vi=some j\/S.M[k]? =some j
def SV.tab (S:SV) (k:Nat) (v:AV) (m:Nat):SV:=⟨S.s,S.v1,S.v2,S.v3,S.v4,S.vi,S.V.set k v,S.M.set k m⟩
section
variable {O O':List (Nat×AO)} {S:SV} {p:Prg} {c:Xf} {k:Nat}
theorem StoreM.vrow (m:StoreM O S p c) {j:Nat} {v:AV} {i:Nat} (hv:S.V[j]? =some v) (hi:vid v=some i):∃es,look i O=some (.row 5 es):=by
 have hj:=(Qm.1 hv).1;exact (m.cm.rv j v _ hv (Qa (by rw [<- m.cm.rl];exact hj))).own hi
theorem StoreM.mmap (m:StoreM O S p c) {j i:Nat} (hv:S.M[j]? =some i):∃es,look i O=some (.map es):=by
 have hj:=(Qm.1 hv).1;exact ⟨_,m.x.m j i _ hv (Qa (by rw [<- m.x.len];exact hj))⟩
theorem StoreM.upd (m:StoreM O S p c) (hk:k<c.rows.length) {v':AV} {m':Nat} {l':List Rw} {nx:Int}
  (keep:∀j,S.own j->¬S.chg k j->look j O'=look j O)
  (h1:Mu O' 1 S.v1 ((S.V.set k v').map fun x=>[x])) (h2:Mu O' 1 S.v2 ((c.Xr.set k nx).map cI)) (h3:Mu O' 1 S.vi ((S.M.set k m').map fun x=>[.map x])) (h4:Mu O' 5 v' (l'.map Rw.c)) (h5:look m' O'=some (.map (ents l')))
  (h6:∀z es t,v'≠ .app z es t) (d1:∀i,vid v'=some i->(∃v,S.V[k]? =some v/\vid v=some i)\/∀x,look i O=some x->x= .res) (d2:S.M[k]? =some m'\/∀x,look m' O=some x->x= .res):
  StoreM O' (S.tab k v' m') p ⟨c.rows.set k l',c.Xr.set k nx,c.Xq,c.Xm⟩:=by
 have hVl:=m.cm.rl;have hMl:=m.x.len;have ks:look S.s O'=look S.s O:=by
  refine keep S.s (.inl rfl) ?_;rintro (⟨v,hv,hi⟩ | hi | hi | hi | hi)
  ·obtain ⟨es,hl⟩:=m.vrow hv hi;exact b8 m.s hl (by simp) rfl
  ·obtain ⟨es,hl⟩:=m.cm.r.own hi;exact b8 m.s hl (by simp) rfl
  ·obtain ⟨es,hl⟩:=m.cm.n.own hi;exact b8 m.s hl (by simp) rfl
  ·obtain ⟨es,hl⟩:=m.x.i.own hi;exact b8 m.s hl (by simp) rfl
  ·obtain ⟨es,hl⟩:=m.mmap hi;exact b8 m.s hl (by simp) rfl
 have kv:∀(j:Nat) (v:AV) (i:Nat),j≠k->S.V[j]? =some v->vid v=some i->look i O'=look i O:=by
  intro j v i hj hv hi;obtain ⟨es0,hl0⟩:=m.vrow hv hi;refine keep i (.inr (.inl (.inr (.inr (.inr ⟨v,Qe hv,hi⟩))))) ?_;rintro (⟨w,hw,hi'⟩ | hi' | hi' | hi' | hi')
  ·exact hj (m.cm.vi j k v w i hv hw hi hi')
  ·obtain ⟨es,hl⟩:=m.cm.r.own hi';exact b8 hl0 hl (by simp) rfl
  ·obtain ⟨es,hl⟩:=m.cm.n.own hi';exact b8 hl0 hl (by simp) rfl
  ·obtain ⟨es,hl⟩:=m.x.i.own hi';exact b8 hl0 hl (by simp) rfl
  ·obtain ⟨es,hl⟩:=m.mmap hi';exact b8 hl0 hl (by simp) rfl
 have km:∀(j i:Nat),j≠k->S.M[j]? =some i->look i O'=look i O:=by
  intro j i hj hv;obtain ⟨es0,hl0⟩:=m.mmap hv;refine keep i (.inr (.inr (.inr (Qe hv)))) ?_;rintro (⟨w,hw,hi'⟩ | hi' | hi' | hi' | hi')
  ·obtain ⟨es,hl⟩:=m.vrow hw hi';exact b8 hl0 hl (by simp) rfl
  ·obtain ⟨es,hl⟩:=m.cm.r.own hi';exact b8 hl0 hl (by simp) rfl
  ·obtain ⟨es,hl⟩:=m.cm.n.own hi';exact b8 hl0 hl (by simp) rfl
  ·obtain ⟨es,hl⟩:=m.x.i.own hi';exact b8 hl0 hl (by simp) rfl
  ·exact hj (m.x.nd j k i hv hi')
 have kd:Mu O' 2 S.v3 (c.Xq.map Xb.c):=by
  refine m.cm.d.fr fun i hi=>?_
  obtain ⟨es0,hl0⟩:=m.cm.d.own hi;refine keep i (.inr (.inl (.inr (.inr (.inl hi))))) ?_;rintro (⟨w,hw,hi'⟩ | hi' | hi' | hi' | hi')
  ·obtain ⟨es,hl⟩:=m.vrow hw hi';exact b8 hl0 hl (by simp) rfl
  ·obtain ⟨es,hl⟩:=m.cm.r.own hi';exact b8 hl0 hl (by simp) rfl
  ·obtain ⟨es,hl⟩:=m.cm.n.own hi';exact b8 hl0 hl (by simp) rfl
  ·obtain ⟨es,hl⟩:=m.x.i.own hi';exact b8 hl0 hl (by simp) rfl
  ·obtain ⟨es,hl⟩:=m.mmap hi';exact b8 hl0 hl (by simp) rfl
 have other:∀(j:Nat) (v:AV) (i:Nat),j≠k->S.V[j]? =some v->vid v=some i->vid v'=some i->False:=by
  intro j v i hj hv hi hi';rcases d1 i hi' with ⟨w,hw,hw'⟩ | hf
  ·exact hj (m.cm.vi j k v w i hv hw hi hw')
  ·obtain ⟨es,hl⟩:=m.vrow hv hi;have:=hf _ hl;cases this
 refine ⟨?_,⟨h1,by simp [SV.tab,hVl],?_,h2,kd,m.cm.g,m.cm.rn,?_,?_⟩,⟨h3,by simp [SV.tab,hMl],?_,?_⟩,m.ri,m.ni⟩
 ·show look S.s O'=_;rw [ks];exact m.s
 ·intro j v l hv hl;simp only [SV.tab] at hv;by_cases hj:k=j
  ·subst hj;rw [List.getElem?_set_self (by omega)] at hv hl;cases hv;cases hl;exact h4
  ·rw [List.getElem?_set_ne hj] at hv hl;have h0:=m.cm.rv j v l hv hl;exact h0.fr fun i hi=>kv j v i (fun e=>hj e.symm) hv hi
 ·intro a b v w i ha hb hi hi';simp only [SV.tab] at ha hb;by_cases hka:k=a
  ·by_cases hkb:k=b
   ·omega
   ·subst hka;rw [List.getElem?_set_self (by omega)] at ha;rw [List.getElem?_set_ne hkb] at hb;cases ha;exact (other b w i (fun e=>hkb e.symm) hb hi' hi).elim
  ·by_cases hkb:k=b
   ·subst hkb;rw [List.getElem?_set_self (by omega)] at hb;rw [List.getElem?_set_ne hka] at ha;cases hb;exact (other a v i (fun e=>hka e.symm) ha hi hi').elim
   ·rw [List.getElem?_set_ne hka] at ha;rw [List.getElem?_set_ne hkb] at hb;exact m.cm.vi a b v w i ha hb hi hi'
 ·intro v hv;simp only [SV.tab] at hv;rcases Qq hv with hv | rfl
  ·exact m.cm.va v hv
  ·exact h6
 ·intro j i l hi hl;simp only [SV.tab] at hi;by_cases hj:k=j
  ·subst hj;rw [List.getElem?_set_self (by omega)] at hi hl;cases hi;cases hl;exact h5
  ·rw [List.getElem?_set_ne hj] at hi hl;rw [km j i (fun e=>hj e.symm) hi];exact m.x.m j i l hi hl
 ·intro a b i ha hb;simp only [SV.tab] at ha hb;have oth:∀j,j≠k->S.M[j]? =some m'->False:=by
   intro j hj hv;rcases d2 with h0 | hf
   ·exact hj (m.x.nd j k m' hv h0)
   ·obtain ⟨es,hl⟩:=m.mmap hv;have:=hf _ hl;cases this
  by_cases hka:k=a
  ·by_cases hkb:k=b
   ·omega
   ·subst hka;rw [List.getElem?_set_self (by omega)] at ha;rw [List.getElem?_set_ne hkb] at hb;cases ha;exact (oth b (fun e=>hkb e.symm) hb).elim
  ·by_cases hkb:k=b
   ·subst hkb;rw [List.getElem?_set_self (by omega)] at hb;rw [List.getElem?_set_ne hka] at ha;cases hb;exact (oth a (fun e=>hka e.symm) ha).elim
   ·rw [List.getElem?_set_ne hka] at ha;rw [List.getElem?_set_ne hkb] at hb;exact m.x.nd a b i ha hb
end
theorem Es {id:Int} {x:Xb}:modE p c t id x=if rowX p c t id=0 then fD p t x else rowX p c t id:=by
 unfold modE rowX;split
 ·simp
 split
 ·simp
 ·simp
theorem ZL (m:StoreM O S p c) (f:PrgS p) (hl:c.rows.length=p.Xn.length) (hT:Tail O N) (t id:Int) (x:Xb) (hx:x.args.length<2^40):
  MDpost N O S p (if modE p c t id x=0 then modC c t id x else c) (a8 (modE p c t id x)) (aN Φ yF [.ptr S.s 15 0 0,a8 t,a8 id,.agg (Xb.c x)] ⟨O,N⟩):=by
 rw [dW rfl rfl];have t0:=hT N (Qb _);have hk1:Kp (fun j=>S.own j\/Rs O j) N O (O++[(N,AO.row 2 [Xb.c x])]):=Kp.app (fun _ _ _=>rfl) (Qb _);have hT1:=hT.app1 (o:=AO.row 2 [Xb.c x]) (Qb N);have m1:StoreM (O++[(N,AO.row 2 [Xb.c x])]) S p c:=m.kp (X:=fun _=>False) hT (Kp.app (fun _ _ _=>rfl) (Qb _)) (by simp);have b1:look N (O++[(N,AO.row 2 [Xb.c x])])=some (.row 2 [Xb.c x]):=by rw [aV,t0];simp
 have same:MDpost N O S p c (a8 (modE p c t id x)) (some (.val (a8 (modE p c t id x)),⟨O++[(N,AO.row 2 [Xb.c x])],N+1⟩)):=
  ⟨S,_,_,rfl,m1,rfl,fun j hj=> .inl hj,hk1,hT1,by omega⟩
 have hs:=m1.se;have hr:=Wz (N:=N+1) m1 hl t id;have hc:=Vb p f t x hx;have hcl:=UD x hx;have hE:=Es (p:=p) (c:=c) (t:=t) (id:=id) (x:=x);simp only [Prg.e] at hc;simp only [Xb.ce] at b1 hs hr hc hcl same;by_cases z:rowX p c t id=0
 rotate_left
 ·rw [QA z] at hE;rw [hE] at same ⊢;simp [BL,Xb.ce,t0,hr,z];exact same
 rw [aB z] at hE;by_cases q:fD p t x=0
 rotate_left
 ·rw [hE] at same ⊢;simp [BL,Xb.ce,t0,hr,hs,z,b1,hc,q];exact same
 have hE0:modE p c t id x=0:=by rw [hE,q]
 rw [hE0] at same ⊢;cases hi:inT p t with
 | false=>simp [rowX,hi] at z
 | true=>
 obtain ⟨k,rfl,hk⟩:=HS hi;have hk':k<c.rows.length:=by omega
 have hrow:kT c (k:Int)=c.rows[k]:=EM hk';cases hx2:rIdx c.rows[k] id with
 | none=>simp [rowX,hi,hrow,hx2] at z
 | some i=>
 obtain ⟨hil,hid⟩:=U1 hx2;have hI:rowI p c k id=i:=by simp [rowI,hi,hrow,hx2]
 have hM:modC c (k:Int) id x=⟨c.rows.set k (c.rows[k].modify i (jU x)),c.Xr,c.Xq,c.Xm⟩:=by
  unfold modC;rw [hrow,hx2];simp
 rw [z,hI] at hr;obtain ⟨rid,es1,e1,lr,hle1,⟨hV,g1,g5⟩,ht1⟩:=m1.tab hk';obtain ⟨r5,es5,e5,l5,hle5,ht5⟩:=g5.nonempty (by simp;omega);rw [dQ] at e5 hle5;rw [e1] at hs;rw [e5] at g1;have g2:=HM hil ht5;have hi5:i<es5.length:=by omega
 have hlr:=lr;have hl5:=l5;simp only [Xb.ce] at hlr hl5;rw [q] at hc;rw [aB rfl,hM];simp [BL,Xb.ce,t0,hr,hs,b1,hc,hcl,hlr,hk',g1,hl5,hil,g2,Rw.ce];simp only [<- Xb.ce] at hl5 ⊢;have ho:S.own r5:= .inr (.inl (.inr (.inr (.inr ⟨S.V[k],Qd hV,by rw [e5];rfl⟩))));have hch:∀j,¬S.chg k j->j≠r5:=fun j hj e=>hj (.inl ⟨S.V[k],Qa hV,by rw [e5,e];rfl⟩)
 have hMl:=m1.x.len;have hMk:k<S.M.length:=by omega
 have hnx:k<c.Xr.length\/c.Xr.length<=k:=by omega
 have keep:∀j,j≠r5->look j (setl r5 (.row 5 (es5.set i [a8 c.rows[k][i].id,.slice 2 (c.rows[k][i].entry.keys.map Xi.c),a8 c.rows[k][i].entry.Xt,a8 x.Xz,.slice 1 (x.args.map c32)])) (O++[(N,AO.row 2 [Xb.c x])]))=look j (O++[(N,AO.row 2 [Xb.c x])]):=fun j hj=>by rw [aG,QA hj]
 have kmu:∀z v es,z≠5->Mu (O++[(N,AO.row 2 [Xb.c x])]) z v es->Mu (setl r5 (.row 5 (es5.set i [a8 c.rows[k][i].id,.slice 2 (c.rows[k][i].entry.keys.map Xi.c),a8 c.rows[k][i].entry.Xt,a8 x.Xz,.slice 1 (x.args.map c32)])) (O++[(N,AO.row 2 [Xb.c x])])) z v es:=by
  intro z v es hz hm;refine hm.fr fun j hj=>?_
  obtain ⟨es1,h1⟩:=hm.own hj;exact keep j (b8 h1 l5 (by simp [hz]))
 have up:=m1.upd (k:=k) (v':=S.V[k]) (m':=S.M[k]) (l':=c.rows[k].modify i (jU x)) (nx:=(c.Xr[k]?).getD 0) (O':=setl r5 (.row 5 (es5.set i [a8 c.rows[k][i].id,.slice 2 (c.rows[k][i].entry.keys.map Xi.c),a8 c.rows[k][i].entry.Xt,a8 x.Xz,.slice 1 (x.args.map c32)])) (O++[(N,AO.row 2 [Xb.c x])])) hk'
  (fun j _ hj=>keep j (hch j hj)) (by simpa using kmu _ _ _ (by decide) m1.cm.r)
  (by
   have hset:c.Xr.set k ((c.Xr[k]?).getD 0)=c.Xr:=by
    rcases hnx with h | h
    ·rw [Qa h];simp
    ·rw [List.set_eq_of_length_le h]
   rw [hset];exact kmu _ _ _ (by decide) m1.cm.n)
  (by simpa using kmu _ _ _ (by decide) m1.x.i)
  (by
   have hmu:=Mu.upd (O':=setl r5 (.row 5 (es5.set i [a8 c.rows[k][i].id,.slice 2 (c.rows[k][i].entry.keys.map Xi.c),a8 c.rows[k][i].entry.Xt,a8 x.Xz,.slice 1 (x.args.map c32)])) (O++[(N,AO.row 2 [Xb.c x])])) (id:=r5) (z:=5) (k:=i) (es:=c.rows[k].map Rw.c) (es0:=es5)
    (y:=[a8 c.rows[k][i].id,.slice 2 (c.rows[k][i].entry.keys.map Xi.c),a8 c.rows[k][i].entry.Xt,a8 x.Xz,.slice 1 (x.args.map c32)]) (by rw [aG,aB rfl,l5];rfl) (by simpa using hle5) ht5
   have hlist:(c.rows[k].map Rw.c).set i [a8 c.rows[k][i].id,.slice 2 (c.rows[k][i].entry.keys.map Xi.c),a8 c.rows[k][i].entry.Xt,a8 x.Xz,.slice 1 (x.args.map c32)]=(c.rows[k].modify i (jU x)).map Rw.c:=by
    refine List.ext_getElem (by simp) fun j h1 h2=>?_
    rw [List.getElem_set,WY,WY,Q7];split
    ·rename_i e;subst e;simp [Rw.ce,jU]
    ·simp
   rw [hlist,dQ] at hmu;rw [e5];exact hmu)
  (by
   have h0:=m1.x.m k _ _ (Qa hMk) (Qa hk');have hents:ents (c.rows[k].modify i (jU x))=ents c.rows[k]:=Ec (by simp) fun j h1 h2=>by
    rw [Q7];split<;>rfl
   rw [keep _ (b8 h0 l5 (by simp)),h0,hents])
  (m1.cm.va _ (Qd hV)) (fun i hi=> .inl ⟨_,Qa hV,hi⟩) (.inl (Qa hMk))
 have htab:S.tab k S.V[k] S.M[k]=S:=by
  cases S;simp [SV.tab]
 rw [htab] at up;have hset:c.Xr.set k ((c.Xr[k]?).getD 0)=c.Xr:=by
  rcases hnx with h | h
  ·rw [Qa h];simp
  ·rw [List.set_eq_of_length_le h]
 rw [hset] at up;exact ⟨S,_,_,rfl,up,rfl,fun j hj=> .inl hj,Kp.setl hk1 (.inr (.inl ho)),cY hT1,by omega⟩
theorem Og (r:Rw) (x:Entry) (hb:r.entry.keys.length<2^40):a9 Φ lD [.agg (Rw.c r),.iptr 4 [Entry.c x] 0 0]=some (.val (.bool (sk r.entry x))):=by
 rw [aA rfl rfl];have h:=T7 r.entry x hb;simp [JJ,Rw.ce,Entry.ce,h]
theorem Em (l:List Rw) (x:Entry) (hl:l.length<2^40) (hs:∀r∈l,r.entry.keys.length<2^40):a9 Φ vP [.slice 5 (l.map Rw.c),.func (.func lD) [] [.iptr 4 [Entry.c x] 0 0]]=some (.val (a8 (ix (fun r=>sk r.entry x) l 0))):=by
 rw [aA rfl rfl];simp [B2];refine (fJ l.length (fun i e=>look 0 e=some (.slice 5 (l.map Rw.c))/\look 1 e=some (.func (.func lD) [] [.iptr 4 [Entry.c x] 0 0])/\look 7 e=some (a8 l.length)/\look 8 e=some (a8 i))
  (fun i=>some (.val (a8 (ix (fun r=>sk r.entry x) l i)))) ?_ ?_ 0 _ (Qc _) ?_).trans (by simp)
 ·rintro i e L hi hL ⟨h0,h1,h7,h8⟩ ih;have hw:=aL i (by omega);have hd:=Og l[i] x (hs _ (Qd hi));simp only [Rw.ce,Entry.ce] at hd h1;cases z:sk l[i].entry x with
  | true=>
   rw [HY hi (by simpa using z)];rw [z] at hd;simp [c_223_l0,Rw.ce,h0,h1,h7,h8,hi,hd]
  | false=>
   rw [HT hi (by simpa using z)];rw [z] at hd;simp [c_223_l0,Rw.ce,h0,h1,h7,h8,hi,hd,hw];exact ih _ ⟨by simp [h0],by simp [h1,Entry.ce],by simp [h7],by simp⟩
 ·rintro e L hL ⟨h0,h1,h7,h8⟩;rw [HX];simp [c_223_l0,c_223_k1,h7,h8,hL]
 ·simp
theorem Dt (l:List Rw) (x:Entry) (hl:l.length<2^40) (hs:∀r∈l,r.entry.keys.length<2^40):a9 Φ nL [.slice 5 (l.map Rw.c),.func (.func lD) [] [.iptr 4 [Entry.c x] 0 0]]=some (.val (.bool (l.any fun r=>sk r.entry x))):=by
 rw [aA rfl rfl];have h:=Em l x hl hs;simp only [Entry.ce] at h;rw [<- P0];simp [AL,Entry.ce,h]
theorem ZK (m:StoreM O S p c) (f:PrgS p) (v:CfgV p c) (s:CfgT c) (hT:Tail O N) (t:Int) (x:Entry) (hx:EntS x):
  MDpost N O S p (if insE p c t x=0 then insC c t x else c) (.tup [a8 (if insE p c t x=0 then wR c t else 0),a8 (insE p c t x)]) (aN Φ EJ [.ptr S.s 15 0 0,a8 t,.agg (Entry.c x)] ⟨O,N⟩):=by
 rw [dW rfl rfl];have t0:=hT N (Qb _);have hl:=v.rl;have hk1:Kp (fun j=>S.own j\/Rs O j) N O (O++[(N,AO.row 4 [Entry.c x])]):=Kp.app (fun _ _ _=>rfl) (Qb _);have hT1:=hT.app1 (o:=AO.row 4 [Entry.c x]) (Qb N);have m1:StoreM (O++[(N,AO.row 4 [Entry.c x])]) S p c:=m.kp (X:=fun _=>False) hT (Kp.app (fun _ _ _=>rfl) (Qb _)) (by simp);have b1:look N (O++[(N,AO.row 4 [Entry.c x])])=some (.row 4 [Entry.c x]):=by rw [aV,t0];simp
 have same:insE p c t x≠0->MDpost N O S p (if insE p c t x=0 then insC c t x else c) (.tup [a8 (if insE p c t x=0 then wR c t else 0),a8 (insE p c t x)]) (some (.val (.tup [a8 0,a8 (insE p c t x)]),⟨O++[(N,AO.row 4 [Entry.c x])],N+1⟩)):=by
  intro h;rw [QA h,QA h];exact ⟨S,_,_,rfl,m1,rfl,fun j hj=> .inl hj,hk1,hT1,by omega⟩
 have hs:=m1.se;have ht:=Vf (N:=N+1) m1 hl t;have he:=qx3 p f t x hx;simp only [Prg.e] at he;simp only [Entry.ce] at b1 hs ht he same;cases z:inT p t with
 | false=>
  have hE:insE p c t x=8:=by simp [insE,z]
  rw [z] at ht;have same:=same (by rw [hE];decide);rw [hE] at same ⊢;simp [t6,Entry.ce,t0,hs,ht];simpa using same
 | true=>
 obtain ⟨k,rfl,hk⟩:=HS z;have hk':k<c.rows.length:=by omega
 have hkn:k<c.Xr.length:=by rw [v.nl];exact hk
 have hrow:kT c (k:Int)=c.rows[k]:=EM hk';have hnx:wR c (k:Int)=c.Xr[k]:=X9 hkn;have hsz:US p (k:Int)=p.Xn[k].size:=Tl hk;have hE:insE p c k x=if entE p k x≠0 then entE p k x else if (c.rows[k].any fun y=>sk y.entry x)=true then 7 else if p.Xn[k].size<=c.rows[k].length\/1073741824<=c.Xr[k] then 13 else 0:=by
  unfold insE;rw [z,hrow,hnx,hsz];simp
 rw [z] at ht;by_cases y:entE p k x=0
 rotate_left
 ·rw [aB y] at hE;have same:=same (by rw [hE];exact y);rw [hE] at same ⊢;simp [t6,Entry.ce,t0,hs,ht,b1,he,y];simpa [y] using same
 rw [QA (by simpa using y)] at hE;rw [y] at he;obtain ⟨rid,es1,e1,lr,hle1,⟨hV,g1,g5⟩,ht1⟩:=m1.tab hk';have hsl:=s.rs _ (Qd hk');have hcon:=Dt c.rows[k] x hsl.1 fun r hr=>(hsl.2 r hr).kl
 have hsnp:=fun n=>g5.snp (N:=N+1) (n:=n)
 have hsn2:∀n,snap (n+2) ⟨O++[(N,AO.row 4 [Entry.c x])],N+1⟩ S.V[k]=some (.slice 5 (c.rows[k].map Rw.c)):=fun n=>by
  rw [hsnp (n+1),HI (n:=n+1) (fun x=>YS x)];rfl
 have hsn3:=hsn2 38;rw [e1] at hs;simp only [Entry.ce] at hcon hsn3 lr;cases w:c.rows[k].any fun y=>sk y.entry x with
 | true=>
  rw [aB w] at hE;have same:=same (by rw [hE];decide);rw [w] at hcon;rw [hE] at same ⊢;simp [t6,Entry.ce,t0,hs,ht,b1,he,lr,hk',g1,hsn3,hcon];simpa using same
 | false=>
 rw [QA (by rw [w];decide)] at hE;rw [w] at hcon;have hvl:=g5.len;rw [dQ] at hvl;obtain ⟨nid,esn,e2,ln,hle2,ht2⟩:=m1.cm.n.nonempty (by simp;omega);rw [dQ] at e2 hle2;have gn:=HM hkn ht2;rw [cIe] at gn;rw [e2] at hs;simp only [Entry.ce] at ln;have hkt:=hk;by_cases u:p.Xn[k].size<=c.rows[k].length
 ·rw [aB (.inl u)] at hE;have same:=same (by rw [hE];decide);rw [hE] at same ⊢;simp [t6,Entry.ce,Tbl.e,t0,hs,ht,b1,he,lr,hk',g1,hsn3,hcon,hvl,ln,hkn,gn,hkt,u,-lenOf];simpa using same
 by_cases q:1073741824<=c.Xr[k]
 ·rw [aB (.inr q)] at hE;have same:=same (by rw [hE];decide);rw [hE] at same ⊢;simp [t6,Entry.ce,Tbl.e,t0,hs,ht,b1,he,lr,hk',g1,hsn3,hcon,hvl,ln,hkn,gn,hkt,u,q,-lenOf];simpa using same
 rw [QA (by omega)] at hE;rw [hE];have hM:=m1.x.len;obtain ⟨iid,esi,e3,li,hle3,hMk,gi,lm⟩:=m1.idx hk';rw [e3] at hs;simp only [Entry.ce] at li lm;have hv:=v.at hk;have hput:=Uw c.Xr[k] (a8 (c.rows[k].length:Nat)) c.rows[k] 0 fun r hr=>by have:=hv.lt r hr;omega
 rw [show sQ c.rows[k] 0=ents c.rows[k] from rfl] at hput;have hce:=qsc x hx.al hx.kl;simp only [Entry.ce] at hce;simp [t6,Entry.ce,Tbl.e,t0,hs,ht,b1,he,lr,hk',g1,hsn3,hcon,hvl,ln,hkn,gn,hkt,u,q,li,lm,gi,hput,-lenOf,-Ej];generalize hO2:setl S.M[k] (AO.map (ents c.rows[k]++[(AV.int IntKind.i64 c.Xr[k],AV.int IntKind.i64 (c.rows[k].length:Nat))])) (O++[(N,AO.row 4 [[AV.slice 2 (List.map Xi.c x.keys),AV.int IntKind.i64 x.Xt,AV.int IntKind.i64 x.call.Xz,AV.slice 1 (List.map c32 x.call.args)]])])=O2;rw [<- Entry.ce] at hO2;have hlm:look S.M[k] (O++[(N,AO.row 4 [Entry.c x])])=some (.map (ents c.rows[k])):=m1.x.m k _ _ (Qa hMk) (Qa hk');have k2:∀j,j≠S.M[k]->look j O2=look j (O++[(N,AO.row 4 [Entry.c x])]):=fun j hj=>by rw [<- hO2,aG,QA hj]
 have hT2:Tail O2 (N+1):=by rw [<- hO2];exact cY hT1
 have kr:∀j z es,look j (O++[(N,AO.row 4 [Entry.c x])])=some (.row z es)->look j O2=some (.row z es):=fun j z es hj=>by rw [k2 j (b8 hj hlm (by simp)),hj]
 have ls2:=kr S.s _ _ (by simp only [Entry.ce];exact hs);have lr2:=kr rid _ _ (by simp only [Entry.ce];exact lr);have ln2:=kr nid _ _ (by simp only [Entry.ce];exact ln);have lb2:=kr N _ _ (by simp only [Entry.ce];exact b1);have lm2:look S.M[k] O2=some (.map (ents c.rows[k]++[(AV.int IntKind.i64 c.Xr[k],AV.int IntKind.i64 (c.rows[k].length:Nat))])):=by rw [<- hO2,aG,aB rfl,hlm];rfl
 clear hO2;have u0:=hT2 (N+1+112) (by omega);have fsx:=oN (n:=N+1+112) hT2 ls2 (by omega);have frx:=oN (n:=N+1+112) hT2 lr2 (by omega);have fnx:=oN (n:=N+1+112) hT2 ln2 (by omega);have fnb:¬N=N+1+112/\¬N+1+112=N:=by omega
 have hrn:¬rid=nid:=fun e=>m1.cm.rn rid (by rw [e1];rfl) (by rw [e2,e];rfl)
 have hnr:¬nid=rid:=fun e=>hrn e.symm
 have hwr:IntKind.wrap .i64 (c.Xr[k]+1)=c.Xr[k]+1:=bJ (by have:=hv.nx0;omega) (by omega);have hsr:=b8 ls2 lr2 (by simp);have hsn:=b8 ls2 ln2 (by simp);have hrs:=hsr.symm;have hns:=hsn.symm;have hbeq:(S.s == N+1+112)=false:=by simp [fsx]
 have hkl1:k<es1.length:=by omega
 have hkln:k<esn.length:=by omega
 have hci:insC c (k:Int) x=⟨c.rows.set k (c.rows[k]++[⟨c.Xr[k],x⟩]),c.Xr.set k (c.Xr[k]+1),c.Xq,c.Xm⟩:=by
  unfold insC;rw [hrow,hnx];simp
 have hsnoc:ents (c.rows[k]++[⟨c.Xr[k],x⟩])=ents c.rows[k]++[(AV.int IntKind.i64 c.Xr[k],AV.int IntKind.i64 (c.rows[k].length:Nat))]:=qsi _ _;have hVl:=m1.cm.rl;have fin:∀(O':List (Nat×AO)) (N':Nat) (v':AV),Tail O' N'->N<=N'->look rid O'=some (.row 1 (es1.set k [v']))->look nid O'=some (.row 1 (esn.set k [a8 (c.Xr[k]+1)]))->
   (∀j,j<N+1->j≠rid->j≠nid->(∀i,vid S.V[k]=some i->j≠i)->look j O2≠some .res->look j O'=look j O2)->Mu O' 5 v' ((c.rows[k]++[Rw.mk c.Xr[k] x]).map Rw.c)->(∀z es t,v'≠ .app z es t)->(∀i,vid v'=some i->vid S.V[k]=some i\/N+1<=i)->
   MDpost N O S p (insC c (k:Int) x) (.tup [a8 (wR c (k:Int)),a8 0]) (some (.val (.tup [a8 c.Xr[k],a8 0]),⟨O',N'⟩)):=by
  intro O' N' v' hT' hN' a1 a2 a3 a4 a5 a6;rw [hnx,hci];have own1:S.own rid:= .inr (.inl (.inl (by rw [e1];rfl)));have own2:S.own nid:= .inr (.inl (.inr (.inl (by rw [e2];rfl))));have own3:S.own S.M[k]:= .inr (.inr (.inr (Qd hMk)));have own4:∀i,vid S.V[k]=some i->S.own i:=fun i hi=> .inr (.inl (.inr (.inr (.inr ⟨_,Qd hV,hi⟩))))
  have keep:∀j,S.own j->¬S.chg k j->look j O'=look j (O++[(N,AO.row 4 [Entry.c x])]):=by
   intro j hj hc;obtain ⟨w,hw,hwn⟩:=m1.own_lk hj;have h2:look j O2=some w:=by
    rw [k2 j (fun e=>hc (.inr (.inr (.inr (.inr (by rw [e];exact Qa hMk)))))),hw]
   rw [a3 j (hT1.lt hw) (fun e=>hc (.inr (.inl (by rw [e,e1];rfl)))) (fun e=>hc (.inr (.inr (.inl (by rw [e,e2];rfl))))) (fun i hi e=>hc (.inl ⟨_,Qa hV,by rw [e];exact hi⟩)) (by rw [h2];simpa using hwn),h2,hw]
  have h5no:∀i,vid S.V[k]=some i->∃es,look i (O++[(N,AO.row 4 [Entry.c x])])=some (.row 5 es):=fun i hi=>m1.vrow (Qa hV) hi
  have up:=m1.upd (k:=k) (v':=v') (m':=S.M[k]) (l':=c.rows[k]++[⟨c.Xr[k],x⟩]) (nx:=c.Xr[k]+1) (O':=O') hk' keep
   (by
    have hmu:=Mu.upd (O':=O') (id:=rid) (z:=1) (k:=k) (es:=S.V.map fun x=>[x]) (es0:=es1) (y:=[v']) a1 (by rw [dQ,hVl];exact hle1) (by rw [dQ,hVl];exact ht1);rw [dQ,hVl] at hmu;rw [e1,QG];exact hmu)
   (by
    have hmu:=Mu.upd (O':=O') (id:=nid) (z:=1) (k:=k) (es:=c.Xr.map cI) (es0:=esn) (y:=[a8 (c.Xr[k]+1)]) a2 (by rw [dQ];exact hle2) ht2;rw [dQ] at hmu;rw [e2,QG,cIe];exact hmu)
   (by
    have hmm:S.M.set k S.M[k]=S.M:=by simp
    rw [hmm];refine m1.x.i.fr fun i hi=>?_
    obtain ⟨es0,hl0⟩:=m1.x.i.own hi;have h2:=kr i _ _ hl0;rw [a3 i (hT1.lt hl0) (fun e=>m1.ri i (by rw [e,e1];rfl) hi) (fun e=>m1.ni i (by rw [e,e2];rfl) hi) (fun i' hi' e=>by obtain ⟨es5,h5⟩:=h5no i' hi';exact b8 hl0 h5 (by simp) e) (by rw [h2];simp),h2,hl0])
   a4
   (by
    rw [hsnoc,<- lm2];refine a3 _ (hT1.lt hlm) (fun e=>?_) (fun e=>?_) (fun i hi e=>?_) (by rw [lm2];simp)
    ·exact b8 lm2 lr2 (by simp) e
    ·exact b8 lm2 ln2 (by simp) e
    ·obtain ⟨es5,h5⟩:=h5no i hi;exact b8 lm2 (kr i _ _ h5) (by simp) e)
   a5
   (fun i hi=>by
    rcases a6 i hi with h | h
    ·exact .inl ⟨_,Qa hV,h⟩
    ·exact .inr fun w hw=>by have:=hT1.lt hw;omega)
   (.inl (Qa hMk))
  refine ⟨S.tab k v' S.M[k],O',N',rfl,up,rfl,?_,?_,hT',hN'⟩
  ·intro j hj;rcases hj with hj | hj | hj | hj
   ·exact .inl (.inl hj)
   ·rcases hj with hj | hj | hj | ⟨w,hw,hj⟩
    ·exact .inl (.inr (.inl (.inl hj)))
    ·exact .inl (.inr (.inl (.inr (.inl hj))))
    ·exact .inl (.inr (.inl (.inr (.inr (.inl hj)))))
    ·rcases Qq hw with hw | rfl
     ·exact .inl (.inr (.inl (.inr (.inr (.inr ⟨w,hw,hj⟩)))))
     ·rcases a6 j hj with h | h
      ·exact .inl (own4 j h)
      ·exact .inr (by omega)
   ·exact .inl (.inr (.inr (.inl hj)))
   ·simp only [SV.tab] at hj;rcases Qq hj with hj | rfl
    ·exact .inl (.inr (.inr (.inr hj)))
    ·exact .inl own3
  ·intro j hj hx;have hx1:¬S.own j:=fun h=>hx (.inl h)
   have hx2:¬look j O=some .res:=fun h=>hx (.inr h)
   have h1:=hk1 j hj hx;have h2:=k2 j (fun e=>hx1 (by rw [e];exact own3));rw [a3 j (by omega) (fun e=>hx1 (by rw [e];exact own1)) (fun e=>hx1 (by rw [e];exact own2)) (fun i hi e=>hx1 (by rw [e];exact own4 i hi)) (by rw [h2,h1];exact hx2),h2,h1]
 cases hVk:S.V[k] with
 | Xu z es=>
  rw [hVk] at g5 g1;have hl0:c.rows[k]=[]/\z=5/\es=[]:=by
   generalize hgen:c.rows[k].map Rw.c=gl at g5;cases g5;exact ⟨by simpa using hgen,rfl,rfl⟩
  obtain ⟨hl0,rfl,rfl⟩:=hl0;simp [ls2,lr2,ln2,lb2,u0,aV,aG,fK,fsx,frx,fnx,fnb,hk',hkn,g1,hce,gn,hnr,hwr,hbeq,hsr];refine fin _ (N+1+112+1) (.row (N+1+112) 5 0 1) ?_ (by omega) ?_ ?_ ?_ ?_ (by simp) (by intro i hi;cases hi;right;omega)
  ·refine cY (OH (cY ?_));exact OL (hT2.mono (by omega)) (pJ _)
  ·simp [aG,fK,aV,lr2,hrn]
  ·simp [aG,fK,aV,ln2,hnr]
  ·intro j hj b1 b2 b3 b4;have hj2:¬N+1+112=j:=by omega
   have hi:look j (setl rid (AO.row 1 (es1.set k [.row (N+1+112) 5 0 1])) (O2++[(N+1+112,AO.row 5 [[AV.int IntKind.i64 c.Xr[k],AV.slice 2 (List.map Xi.c x.keys),AV.int IntKind.i64 x.Xt,AV.int IntKind.i64 x.call.Xz,AV.slice 1 (List.map c32 x.call.args)]])]))=look j O2:=by
    rw [aG,QA b1,aV];simp [look,hj2]
   rw [aG,QA b2,fK (by rw [hi];exact b4),hi]
  ·refine .row (N+1+112) _ [Rw.c (Rw.mk c.Xr[k] x)] _ (by simp [hl0]) ?_ (by simp [hl0]) (by simp [hl0]);simp [aG,fK,fnx,frx,u0,Rw.ce]
 | row id5 z off n=>
  rw [hVk] at g5 g1;have hg:z=5/\off=0/\n=c.rows[k].length/\∃es5,look id5 (O++[(N,AO.row 4 [Entry.c x])])=some (.row 5 es5)/\c.rows[k].length<=es5.length/\es5.take c.rows[k].length=c.rows[k].map Rw.c:=by
   generalize hgen:c.rows[k].map Rw.c=gl at g5;have hlen:gl.length=c.rows[k].length:=by rw [<- hgen];simp
   cases g5 with
   | row _ _ es5 _ hn hl5 hle5 ht5=>exact ⟨rfl,rfl,by omega,es5,hl5,by omega,by rw [<- hlen];exact ht5⟩
  obtain ⟨rfl,rfl,rfl,es5,hl5,hle5,ht5⟩:=hg;have l52:=kr _ _ _ hl5;have f5:=oN (n:=N+1+112) hT2 l52 (by omega);have h5s:=b8 l52 ls2 (by simp);have h5r:=b8 l52 lr2 (by simp);have h5n:=b8 l52 ln2 (by simp);have hs5:=h5s.symm;have hr5:=h5r.symm;have hn5:=h5n.symm;have h5b:=b8 l52 lb2 (by simp);have hb5:=h5b.symm;have hq5:(S.s == id5)=false:=by simpa using hs5
  have hbd:(c.rows[k].length+1)*72<=70368744177664:=by have:=v.small _ (Qd hk');omega
  have hls:=v.small _ (Qd hk');have hres:look (N+1+112) (O2++[(N+1+112,AO.res)])=some .res:=by rw [aV,u0];simp
  have hdr:look (N+1+112) (eG id5 (O2++[(N+1+112,AO.res)]))=some .res:=by rw [mD (fun e=>f5.2 e),hres]
  by_cases hfull:c.rows[k].length=es5.length
  ·have hbd2:(es5.length+1)*72<=70368744177664:=by rw [<- hfull];exact hbd
   simp [ls2,lr2,ln2,lb2,u0,aV,aG,fK,mD,fsx,frx,fnx,fnb,hk',hkn,g1,hce,gn,hnr,hwr,hbeq,hsr,l52,f5,hs5,hr5,hn5,hq5,hbd2,hfull,hdr];refine fin _ (N+1+112+1) (.row (N+1+112) 5 0 (es5.length+1)) ?_ (by omega) ?_ ?_ ?_ ?_ (by simp) (by intro i hi;cases hi;right;omega)
   ·refine cY (OH (cY (cY (OG ?_))));exact OL (hT2.mono (by omega)) (pJ _)
   ·simp [aG,fK,aV,mD,lr2,hrn,frx,hr5]
   ·simp [aG,fK,aV,mD,ln2,hnr,fnx,hn5]
   ·intro j hj b1 b2 b3 b4;have hj2:¬N+1+112=j:=by omega
    have hj3:¬j=N+1+112:=by omega
    have hj5:j≠id5:=b3 id5 (by rw [hVk];rfl);have hi:∀A B,look j (setl rid A (setl (N+1+112) B (eG id5 (O2++[(N+1+112,AO.res)]))))=look j O2:=by
     intro A B;rw [aG,QA b1,aG,QA hj3,mD hj5,aV];simp [look,hj2]
    rw [aG,QA b2,fK (by rw [hi];exact b4),hi]
   ·have htk:es5=c.rows[k].map Rw.c:=by rw [<- ht5,hfull,i9]
    refine .row (N+1+112) _ (es5++[Rw.c (Rw.mk c.Xr[k] x)]) _ (by simp [hfull]) ?_ (by simp [htk]) (by simp [htk,Qo]);simp [aG,fK,hdr,fnx,frx,Rw.ce]
  ·have hlt:c.rows[k].length<es5.length:=by omega
   have hlt2:c.rows[k].length+1<=es5.length:=by omega
   have hne:¬es5.length=c.rows[k].length:=by omega
   simp [ls2,lr2,ln2,lb2,u0,aV,aG,fK,fsx,frx,fnx,fnb,hk',hkn,g1,hce,gn,hnr,hwr,hsr,l52,f5,hs5,hr5,hn5,hq5,hbd,hfull,hlt2];refine fin _ (N+1+112+1) (.row id5 5 0 (c.rows[k].length+1)) ?_ (by omega) ?_ ?_ ?_ ?_ (by simp) (by intro i hi;cases hi;left;rw [hVk];rfl)
   ·refine cY (OH (cY (cY ?_)));exact OL (hT2.mono (by omega)) (pJ _)
   ·simp [aG,fK,aV,lr2,hrn,hr5]
   ·simp [aG,fK,aV,ln2,hnr,hn5]
   ·intro j hj b1 b2 b3 b4;have hj2:¬N+1+112=j:=by omega
    have hj5:j≠id5:=b3 id5 (by rw [hVk];rfl);have hi:∀A B,look j (setl rid A (setl id5 B (O2++[(N+1+112,AO.res)])))=look j O2:=by
     intro A B;rw [aG,QA b1,aG,QA hj5,aV];simp [look,hj2]
    rw [aG,QA b2,fK (by rw [hi];exact b4),hi]
   ·refine .row id5 _ (es5.take c.rows[k].length++Rw.c (Rw.mk c.Xr[k] x)::es5.drop (c.rows[k].length+1)) _ (by simp) ?_ (by simp;omega) ?_
    ·simp [aG,fK,aV,l52,h5r,h5n,Rw.ce]
    ·rw [dQ,jE,List.length_singleton,u7,ht5];have hll:(c.rows[k].map Rw.c).length=c.rows[k].length:=by simp
     rw [List.take_append,hll,Qo (by rw [hll];omega),show c.rows[k].length+1 - c.rows[k].length=1 by omega];simp
 | app z es t=>exact absurd hVk (m1.cm.va _ (Qd hV) _ _ _)
 | _=>rw [hVk] at g5;cases g5
theorem RZ {f:Nat->Option α} {Q:α->Prop} (h:∀i x,f i=some x->Q x) {x:α} (hx:fe f N 0=some x):Q x:=by
 obtain ⟨k,_,hk⟩:=zN hx;exact h k x hk
variable {d:Dg}
theorem Kb (h:limD p=some d):d.1≠0:=by
 unfold limD at h
 repeat' split at h
 all_goals first | (cases h;simp;done) | cases h
theorem Jo (h:hdrD p=some d):d.1≠0:=by
 refine RZ (Q:=fun d:Dg=>d.1≠0) (fun i x hx=>?_) h;rw [Qt] at hx;obtain ⟨a,_,hx⟩:=hx;split at hx
 ·cases hx
 ·cases hx;assumption
theorem Kf (h:metD p=some d):d.1≠0:=by
 unfold metD at h;split at h
 ·cases h;simp
 split at h
 ·rename_i d' hd';cases h;refine RZ (Q:=fun d:Dg=>d.1≠0) (fun i x hx=>?_) hd';rw [Qt] at hx;obtain ⟨a,_,hx⟩:=hx;split at hx
  ·cases hx
  ·cases hx;assumption
 ·refine RZ (Q:=fun d:Dg=>d.1≠0) (fun i x hx=>?_) h;split at hx
  ·cases hx
  ·cases hx;simp
theorem Ko (h:regD p=some d):d.1≠0:=by
 refine RZ (Q:=fun d:Dg=>d.1≠0) (fun i x hx=>?_) h;rw [Qt] at hx;obtain ⟨a,_,hx⟩:=hx;split at hx
 ·cases hx
 ·cases hx;assumption
theorem Gk (h:s8 p=some d):d.1≠0:=by
 refine RZ (Q:=fun d:Dg=>d.1≠0) (fun i x hx=>?_) h;rw [Qt] at hx;obtain ⟨a,_,hx⟩:=hx;split at hx
 ·cases hx;assumption
 ·split at hx
  ·cases hx;simp
  ·cases hx
theorem My (h:tblD p=some d):d.1≠0:=by
 refine RZ (Q:=fun d:Dg=>d.1≠0) (fun i x hx=>?_) h;rw [Qt] at hx;obtain ⟨a,_,hx⟩:=hx;split at hx
 ·cases hx;assumption
 ·split at hx
  ·cases hx;simp
  ·cases hx
theorem Hr (h:floD p=some d):d.1≠0:=by
 unfold floD at h;split at h
 ·cases h;assumption
 split at h
 ·cases h;assumption
 split at h
 ·cases h;assumption
 ·cases h
structure PrgV (p:Prg):Prop where
 lim:limD p=none
 hdr:hdrD p=none
 met:metD p=none
 reg:regD p=none
 act:s8 p=none
 tbl:tblD p=none
 flo:floD p=none
theorem Vh (h:(prgD p).1=0):PrgV p:=by
 unfold prgD at h;cases h1:limD p with
 | some d=>rw [h1] at h;exact absurd h (Kb h1)
 | none=>
 cases h2:hdrD p with
 | some d=>rw [h1,h2] at h;exact absurd h (Jo h2)
 | none=>
 cases h3:metD p with
 | some d=>rw [h1,h2,h3] at h;exact absurd h (Kf h3)
 | none=>
 cases h4:regD p with
 | some d=>rw [h1,h2,h3,h4] at h;exact absurd h (Ko h4)
 | none=>
 cases h5:s8 p with
 | some d=>rw [h1,h2,h3,h4,h5] at h;exact absurd h (Gk h5)
 | none=>
 cases h6:tblD p with
 | some d=>rw [h1,h2,h3,h4,h5,h6] at h;exact absurd h (My h6)
 | none=>
 cases h7:floD p with
 | some d=>rw [h1,h2,h3,h4,h5,h6,h7] at h;exact absurd h (Hr h7)
 | none=>exact ⟨h1,h2,h3,h4,h5,h6,h7⟩
theorem PrgV.nest {p:Prg} (v:PrgV p):nest p.Yb<=6:=by
 have h:=v.flo;unfold floD at h;split at h
 ·cases h
 split at h
 ·cases h
 rename_i h1;refine Decidable.byContradiction fun hc=>h1 ?_
 unfold ctlE;split
 ·simp
 ·rw [aB (by omega)];simp
theorem PrgV.tabs {p:Prg} (v:PrgV p):p.Xn.length<=12:=by
 have h:=v.lim;unfold limD at h
 repeat' split at h
 all_goals first | omega | cases h
theorem M4 {α:Type} (f:α->α->Bool):∀l:List α,(∀x∈l,f x x=true)->eqL f l l=true
 | [],_=>by simp [eqL]
 | x::r,h=>by simp [eqL,h x (QE ..),M4 f r (fun y hy=>h y (FO _ hy))]
def Rf (n:Nat) (v:AV):Prop:=avEq n v v=true
theorem Rf.int (n:Nat) (k:IntKind) (v:Int):Rf (n+1) (.int k v):=by unfold Rf avEq;simp
theorem Rf.bool (n:Nat) (b:Bool):Rf (n+1) (.bool b):=by unfold Rf avEq;simp
theorem Rf.str (n:Nat) (b:List UInt8):Rf (n+1) (.str b):=by unfold Rf avEq;simp
theorem Rf.row (n a b c d:Nat):Rf (n+1) (.row a b c d):=by unfold Rf avEq;simp
theorem Rf.slice (n z:Nat) (es:List (List AV)) (h:∀e∈es,∀c∈e,Rf n c):Rf (n+1) (.slice z es):=by
 have:=M4 (eqL (avEq n)) es fun e he=>M4 (avEq n) e (h e he)
 unfold Rf avEq;simp [this]
theorem Rf.Xu (n z:Nat) (es:List (List AV)) (h:∀e∈es,∀c∈e,Rf n c):Rf (n+1) (.Xu z es):=by
 have:=M4 (eqL (avEq n)) es fun e he=>M4 (avEq n) e (h e he)
 unfold Rf avEq;simp [this]
theorem Rf.app (n z t:Nat) (es:List (List AV)) (h:∀e∈es,∀c∈e,Rf n c):Rf (n+1) (.app z es t):=by
 have:=M4 (eqL (avEq n)) es fun e he=>M4 (avEq n) e (h e he)
 unfold Rf avEq;simp [this]
theorem Rf.map {α:Type} (n z:Nat) (f:α->List AV) (l:List α) (h:∀x∈l,∀c∈f x,Rf n c):Rf (n+1) (.slice z (l.map f)):=by
 refine Rf.slice n z _ fun e he=>?_
 obtain ⟨x,hx,rfl⟩:=kY.1 he;exact h x hx
theorem Vm (n:Nat) (x:Xe):∀c∈Xe.c x,Rf (n+1) c:=by
 simp [Xe.c,Rf.int]
theorem Wy (n:Nat) (x:Fld):∀c∈Fld.c x,Rf (n+1) c:=by
 simp [Fld.c,Rf.int,Rf.str]
theorem rf_I (n:Nat) (x:Int):∀c∈cI x,Rf (n+1) c:=by simp [cI,Rf.int]
theorem OB (n:Nat) (x:Int):∀c∈c32 x,Rf (n+1) c:=by simp [c32,Rf.int]
theorem Wx:∀(k:Nat) (l:List Xa),nest l<=k->Rf (k+3) (.slice 5 (l.map Xa.c))
 | 0,l,h=>by
  cases l with
  | nil=>exact Rf.slice _ _ _ (by simp)
  | cons x l=>simp only [nest] at h;omega
 | k+1,l,h=>by
  have key:∀x∈l,G8 x<=k:=by
   intro x hx;have:∀l:List Xa,x∈l->1+G8 x<=nest l:=by
    intro l
    induction l with
    | nil=>intro h;cases h
    | cons y l ih=>
     intro h;simp only [nest];rcases fI.1 h with rfl | h
     ·omega
     ·have:=ih h;omega
   have:=this l hx;omega
  refine Rf.map _ _ _ _ fun x hx=>?_
  have hk:=key x hx;cases x with
  | mk kd t cnd a b=>
   simp only [G8] at hk;rw [Xa.ce];intro c hc;simp only [fI,tZ,or_false] at hc;rcases hc with rfl | rfl | rfl | rfl | rfl
   ·exact Rf.int _ _ _
   ·exact Rf.int _ _ _
   ·exact Rf.map _ _ _ _ fun x _=>Vm _ x
   ·exact Wx k a (by omega)
   ·exact Wx k b (by omega)
theorem Ra (v:PrgV p):∀c∈Prg.c p,Rf 40 c:=by
 rw [Prg.ce];intro c hc;simp only [fI,tZ,or_false] at hc;rcases hc with rfl | rfl | rfl | rfl | rfl | rfl | rfl | rfl | rfl
 ·exact Rf.str _ _
 ·refine Rf.map _ _ _ _ fun x _=>?_
  simp only [Xj.c,fI,tZ,or_false];rintro c (rfl | rfl)
  ·exact Rf.str _ _
  ·exact Rf.map _ _ _ _ fun x _=>Wy _ x
 ·exact Rf.map _ _ _ _ fun x _=>Wy _ x
 ·refine Rf.map _ _ _ _ fun x _=>?_
  simp [Xh.c,Rf.int,Rf.str]
 ·refine Rf.map _ _ _ _ fun x _=>?_
  rw [Action.ce];simp only [fI,tZ,or_false];rintro c (rfl | rfl | rfl)
  ·exact Rf.str _ _
  ·exact Rf.map _ _ _ _ fun x _=>Wy _ x
  ·refine Rf.map _ _ _ _ fun x _=>?_
   rw [Xg.ce];simp only [fI,tZ,or_false];rintro c (rfl | rfl | rfl | rfl | rfl | rfl | rfl)
   ·exact Rf.int _ _ _
   ·exact Rf.int _ _ _
   ·exact Rf.int _ _ _
   ·exact Rf.int _ _ _
   ·exact Rf.int _ _ _
   ·exact Rf.map _ _ _ _ fun x _=>Vm _ x
   ·exact Rf.map _ _ _ _ fun x _=>Vm _ x
 ·refine Rf.map _ _ _ _ fun x _=>?_
  rw [Tbl.ce];simp only [fI,tZ,or_false];rintro c (rfl | rfl | rfl | rfl | rfl | rfl)
  ·exact Rf.str _ _
  ·exact Rf.map _ _ _ _ fun x _=>by simp [Xl.c,Rf.int]
  ·exact Rf.map _ _ _ _ fun x _=>rf_I _ x
  ·exact Rf.int _ _ _
  ·exact Rf.map _ _ _ _ fun x _=>OB _ x
  ·exact Rf.int _ _ _
 ·refine Rf.map _ _ _ _ fun x _=>?_
  rw [Xd.ce];simp only [fI,tZ,or_false];rintro c (rfl | rfl | rfl | rfl | rfl | rfl | rfl)
  ·exact Rf.str _ _
  ·exact Rf.map _ _ _ _ fun x _=>rf_I _ x
  ·exact Rf.bool _ _
  ·exact Rf.int _ _ _
  ·exact Rf.int _ _ _
  ·exact Rf.map _ _ _ _ fun x _=>by simp [Xk.c,Rf.int]
  ·exact Rf.int _ _ _
 ·have:=v.nest;exact Wx 37 p.Yb (by omega)
 ·exact Rf.map _ _ _ _ fun x _=>rf_I _ x
theorem Z1 {z:Nat} (h:Mu O z v es):Rf (n+1) v:=by
 cases h with
 | nilF=>exact Rf.Xu _ _ _ (by simp)
 | nilA=>exact Rf.app _ _ _ _ (by simp)
 | row=>exact Rf.row _ _ _ _ _
theorem qyw (m:StoreM O S p c) (v:PrgV p):aoEq (some (.row 15 [S.cells p])) (some (.row 15 [S.cells p]))=true:=by
 have h:∀x∈S.cells p,avEq 40 x x=true:=by
  intro x hx;simp only [SV.cells,fI,gP,tZ,or_false] at hx;rcases hx with rfl | rfl | rfl | rfl | hx | rfl | rfl
  ·exact Z1 m.cm.r
  ·exact Z1 m.cm.n
  ·exact Z1 m.cm.d
  ·rcases m.cm.g with e | ⟨t,e⟩<;>rw [e]
   ·refine Rf.Xu _ _ _ fun e he=>?_
    obtain ⟨l,_,rfl⟩:=kY.1 he;simp only [cS,fI,tZ,or_false];rintro c rfl;exact Rf.map _ _ _ _ fun x _=>OB _ x
   ·refine Rf.app _ _ _ _ fun e he=>?_
    obtain ⟨l,_,rfl⟩:=kY.1 he;simp only [cS,fI,tZ,or_false];rintro c rfl;exact Rf.map _ _ _ _ fun x _=>OB _ x
  ·exact Ra v x hx
  ·exact Z1 m.x.i
  ·exact Rf.bool _ _
 have h1:=M4 (avEq 40) _ h;unfold aoEq;simp [bE,eqL,h1]
theorem Tk {t:Nat} {y z:AO}:∀{O:List (Nat×AO)},setl t z (setl t y O)=setl t z O
 | []=>by simp
 | (u,w)::r=>by
  by_cases hu:u=t
  ·subst hu;simp
  ·simp [hu,Tk]
theorem Mk (hl:look id O=some (.row 5 es)) (hn:n=l.length) (hle:n<=es.length) (ht:es.take n=l.map Rw.c) (hi:i<n) (hb:n<2^39):
  ∃N' es',aN Φ qQ [.row id 5 0 n,a8 i,a8 ((i:Int)+1)] ⟨O,N⟩=some (.val (.row id 5 0 (n - 1)),⟨setl id (.row 5 es') O,N'⟩)/\N<=N'/\N'<=N+1/\n - 1<=es'.length/\es'.take (n - 1)=(l.eraseIdx i).map Rw.c:=by
 rw [dW rfl rfl];have hi1:(i:Int)+1=((i+1:Nat):Int):=by omega
 have a1:i+1<=n:=by omega
 have a2:i<=i+1:=by omega
 have a3:i<=n:=by omega
 have a4:i+1<=es.length:=by omega
 have a5:i<=es.length:=by omega
 have hne:¬i=i+1:=by omega
 rw [hi1];have b1:(0:Int)<=(i:Int)+1:=by omega
 have b2:(i:Int)+1<=(n:Int):=by omega
 have b3:(i:Int)+1<=(es.length:Int):=by omega
 have c1:i+(n - (i+1))=n - 1:=by omega
 have c2:min (n - (i+1)) (es.length - (i+1))=n - (i+1):=by omega
 have c3:i+(n - (i+1))<=es.length:=by omega
 have c4:i+1+(n - (i+1))<=es.length:=by omega
 have c5:¬i=es.length:=by omega
 have c6:(((n - 1:Nat):Int))<=(n:Int):=by omega
 have c7:n - 1<=n:=by omega
 have c9:¬(i:Int)=(i:Int)+1:=by omega
 have c8:(i:Int)<=(i:Int)+1:=by omega
 have c10:n<=es.length+1:=by omega
 have hys:(es.drop (i+1)).take (n - (i+1))=(l.drop (i+1)).map Rw.c:=by
  rw [<- List.drop_take,ht,GG]
 have c11:kS 5 ((es.drop (i+1)).take (n - (i+1)))=true:=by rw [hys];exact sK 5 Rw.c _ fun x=>by simp
 have hE1l:(es.take i++((es.drop (i+1)).take (n - (i+1))++es.drop (n - 1))).length=es.length:=by
  simp only [jE,fU,WW];omega
 have hE1t:(es.take i++((es.drop (i+1)).take (n - (i+1))++es.drop (n - 1))).take (n - 1)=(l.eraseIdx i).map Rw.c:=by
  have hti:es.take i=(l.take i).map Rw.c:=by
   have:(es.take n).take i=es.take i:=by rw [List.take_take,Nat.min_eq_left (by omega)]
   rw [<- this,ht,pK]
  rw [hys,hti,List.eraseIdx_eq_take_drop_succ,u7,<- tY,List.take_append_of_le_length (by simp;omega)];exact Qo (by simp;omega)
 have d1:((n - 1:Nat):Int)<=(es.length:Int):=by omega
 have d2:(n:Int)<=(es.length:Int):=by omega
 have d3:n - 1+(n - (n - 1))<=es.length:=by omega
 have d4:¬n - 1=n:=by omega
 have fin:∀N',N<=N'->N'<=N+1->∀(E1 D:List (List AV)),E1.length=es.length->E1.take (n - 1)=(l.eraseIdx i).map Rw.c->
   ∃N2 es',(setl id (AO.row 5 (E1.take (n - 1)++(List.replicate (n - (n - 1)) [a8 0,.Xu 2 [],a8 0,a8 0,.Xu 1 []]++D))) O=setl id (AO.row 5 es') O/\N'=N2)/\N<=N2/\N2<=N+1/\n<=es'.length+1/\es'.take (n - 1)=(l.eraseIdx i).map Rw.c:=by
  intro N' h1 h2 E1 D h3 h4;refine ⟨N',_,⟨rfl,rfl⟩,h1,h2,?_,?_⟩
  ·simp only [jE,fU,List.length_replicate];omega
  ·rw [List.take_append_of_le_length (by simp;omega),List.take_take,Nat.min_self,h4]
 by_cases hfull:n=es.length
 ·have hf2:=eq_true hfull;simp [AM,hl,hle,a1,a3,b1,b2,hf2,c1,c2,c5,c8,c9];rw [aB ⟨c10,c11⟩];generalize es.take i++((es.drop (i+1)).take (n - (i+1))++es.drop (n - 1))=E1 at hE1l hE1t ⊢;simp [aG,hl,hE1l,c6,c7,d2,Tk,hle];exact fin N (Qb _) (by omega) E1 _ hE1l hE1t
 ·have hf2:=eq_false hfull;simp [AM,hl,hle,a1,a3,b1,b2,hf2,c1,c2,c5,c8,c9];rw [aB ⟨c10,c11⟩];generalize es.take i++((es.drop (i+1)).take (n - (i+1))++es.drop (n - 1))=E1 at hE1l hE1t ⊢;simp [aG,hl,hE1l,c6,c7,d2,Tk,hle];exact fin (N+1) (by omega) (by omega) E1 _ hE1l hE1t
theorem ZJ (m:StoreM O S p c) (v:CfgV p c) (hT:Tail O N) (t id:Int):
  MDpost N O S p (if delE p c t id=0 then delC c t id else c) (a8 (delE p c t id)) (aN Φ HB [.ptr S.s 15 0 0,a8 t,a8 id] ⟨O,N⟩):=by
 rw [dW rfl rfl];have hl:=v.rl;have hr:=Wz (N:=N) m hl t id;have hE:delE p c t id=rowX p c t id:=rfl;rw [hE];by_cases z:rowX p c t id=0
 rotate_left
 ·rw [QA z];simp [NF,hr,z];exact ⟨S,O,N,rfl,m,rfl,fun j hj=> .inl hj,fun _ _ _=>rfl,hT,Qb _⟩
 rw [aB z,z];cases hi:inT p t with
 | false=>simp [rowX,hi] at z
 | true=>
 obtain ⟨k,rfl,hk⟩:=HS hi;have hk':k<c.rows.length:=by omega
 have hrow:kT c (k:Int)=c.rows[k]:=EM hk';cases hx2:rIdx c.rows[k] id with
 | none=>simp [rowX,hi,hrow,hx2] at z
 | some i=>
 obtain ⟨hil,hid⟩:=U1 hx2;have hI:rowI p c k id=i:=by simp [rowI,hi,hrow,hx2]
 have hM:delC c (k:Int) id=⟨c.rows.set k (c.rows[k].eraseIdx i),c.Xr,c.Xq,c.Xm⟩:=by
  unfold delC;rw [hrow,hx2];simp
 rw [z,hI] at hr;rw [hM];have hv:=v.at hk;have hsm:=v.small _ (Qd hk');have hs:=m.se;obtain ⟨rid,es1,e1,lr,hle1,⟨hV,g1,g5⟩,ht1⟩:=m.tab hk';obtain ⟨r5,es5,e5,l5,hle5,ht5⟩:=g5.nonempty (by simp;omega);rw [dQ] at e5 hle5 ht5;rw [e1] at hs;rw [e5] at g1;have hao:=qyw m (Vh v.prg);simp only [SV.cells,Prg.e,jM,sZ,e1] at hao;obtain ⟨N2,es',e6,n1,n2,h7,h8⟩:=Mk (N:=N+1) l5 rfl hle5 ht5 hil (by omega);have hwi:IntKind.wrap .i64 ((i:Int)+1)=(i:Int)+1:=bJ (by omega) (by omega);have hsr:=b8 hs lr (by simp);have hs5:=b8 hs l5 (by simp);have hr5:=b8 lr l5 (by simp);have h5r:=hr5.symm;have hrs:=hsr.symm;simp [NF,hr,hs,lr,hk',g1,hwi,e6,aG,hs5,hr5,hao];have hMl:=m.x.len;have hVl:=m.cm.rl;obtain ⟨iid,esi,e3,li,hle3,hMk,gi,lm⟩:=m.idx hk';have own1:S.own rid:= .inr (.inl (.inl (by rw [e1];rfl)));have own3:S.own S.M[k]:= .inr (.inr (.inr (Qd hMk)));have own4:S.own r5:= .inr (.inl (.inr (.inr (.inr ⟨_,Qd hV,by rw [e5];rfl⟩))));have own5:S.own iid:= .inr (.inr (.inl (by rw [e3];rfl)));have k3:∀A B j,j≠rid->j≠r5->look j O≠some .res->look j (bX (setl rid A (setl r5 B O)))=look j O:=by
  intro A B j h1 h2 h3;have h0:look j (setl rid A (setl r5 B O))=look j O:=by rw [aG,QA h1,aG,QA h2]
  rw [fK (by rw [h0];exact h3),h0]
 have a1:∀B es,look rid (bX (setl rid (.row 1 es) (setl r5 B O)))=some (.row 1 es):=by
  intro B es;have h0:look rid (setl rid (.row 1 es) (setl r5 B O))=some (.row 1 es):=by rw [aG,aB rfl,aG,QA hr5,lr];rfl
  rw [fK (by rw [h0];simp),h0]
 have a2:∀A es,look r5 (bX (setl rid A (setl r5 (.row 5 es) O)))=some (.row 5 es):=by
  intro A es;have h0:look r5 (setl rid A (setl r5 (.row 5 es) O))=some (.row 5 es):=by rw [aG,QA h5r,aG,aB rfl,l5];rfl
  rw [fK (by rw [h0];simp),h0]
 have hT3:∀A B,Tail (bX (setl rid A (setl r5 B O))) N2:=fun A B=>OH (cY (cY (hT.mono (by omega))))
 generalize hO3:bX (setl rid (AO.row 1 (es1.set k [AV.row r5 5 0 (c.rows[k].length - 1)])) (setl r5 (AO.row 5 es') O))=O3;have k3':∀j,j≠rid->j≠r5->look j O≠some .res->look j O3=look j O:=fun j h1 h2 h3=>by rw [<- hO3];exact k3 _ _ j h1 h2 h3
 have a1':look rid O3=some (.row 1 (es1.set k [AV.row r5 5 0 (c.rows[k].length - 1)])):=by rw [<- hO3];exact a1 _ _
 have a2':look r5 O3=some (.row 5 es'):=by rw [<- hO3];exact a2 _ _
 have hT3':Tail O3 N2:=by rw [<- hO3];exact hT3 _ _
 clear hO3;have hinc:(c.rows[k].eraseIdx i).Pairwise fun a b=>a.id<b.id:=hv.inc.sublist (List.eraseIdx_sublist _ _)
 have hll:(c.rows[k].eraseIdx i).length=c.rows[k].length - 1:=by rw [List.length_eraseIdx];simp [hil]
 have m5:Mu O3 5 (.row r5 5 0 (c.rows[k].length - 1)) ((c.rows[k].eraseIdx i).map Rw.c):= .row r5 _ es' _ (by simp [hll]) a2' (by simp [hll];omega) (by rw [dQ,hll];exact h8);have m1:Mu O3 1 S.v1 ((S.V.set k (.row r5 5 0 (c.rows[k].length - 1))).map fun x=>[x]):=by
  have hmu:=Mu.upd (O':=O3) (id:=rid) (z:=1) (k:=k) (es:=S.V.map fun x=>[x]) (es0:=es1) (y:=[.row r5 5 0 (c.rows[k].length - 1)]) a1' (by rw [dQ,hVl];exact hle1) (by rw [dQ,hVl];exact ht1);rw [dQ,hVl] at hmu;rw [e1,QG];exact hmu
 have ls3:look S.s O3=some (.row 15 [S.cells p]):=by rw [k3' S.s hsr hs5 (by rw [m.s];simp),m.s]
 have li3:look iid O3=some (.row 1 esi):=by
  rw [k3' iid (fun e=>m.ri rid (by rw [e1];rfl) (by rw [e3,e];rfl)) (b8 li l5 (by simp)) (by rw [li];simp),li]
 have hri:vid S.v1≠some iid:=fun e=>m.ri iid e (by rw [e3];rfl)
 have hVs:k<(S.V.set k (AV.row r5 5 0 (c.rows[k].length - 1))).length:=by simpa using hV
 have hVk:(S.V.set k (AV.row r5 5 0 (c.rows[k].length - 1)))[k]=AV.row r5 5 0 (c.rows[k].length - 1):=by simp
 have ls4:=ls3;simp only [SV.cells,e3] at ls4;have hrl:c.rows.length<2^40:=by have:=(Vh v.prg).tabs;omega
 have hnv:c.Xr.set k ((c.Xr[k]?).getD 0)=c.Xr:=by
  rw [Qa (by rw [v.nl];exact hk)];simp
 have hcz:esi.take c.rows.length=S.M.map fun x=>[.map x]:=by
  obtain ⟨iid',es0,e9,hl9,hle9,ht9⟩:=m.x.i.nonempty (by simp;omega);rw [e3] at e9;simp only [AV.row.injEq] at e9;obtain ⟨rfl,-⟩:=e9;rw [li] at hl9;cases hl9;rw [dQ,hMl] at ht9;exact ht9
 obtain ⟨O4,N4,e7,r1,r2,k4,hT4,hN4⟩:=qqs (k:=k) (n:=c.rows.length) (V:=S.V.set k (.row r5 5 0 (c.rows[k].length - 1))) (l:=c.rows[k].eraseIdx i) (R:=Prg.c p) (es:=esi) hT3' (by omega) hk' hVs ls4 (by simp) li3 hle3 ⟨_,gi⟩ m1 (by rw [hVk];exact m5) hri hinc (by omega);simp [e7];have keep:∀j,S.own j->¬S.chg k j->look j O4=look j O:=by
  intro j hj hc;obtain ⟨w,hw,hwn⟩:=m.own_lk hj;have h3:=k3' j (fun e=>hc (.inr (.inl (by rw [e,e1];rfl)))) (fun e=>hc (.inl ⟨_,Qa hV,by rw [e5,e];rfl⟩)) (by rw [hw];simpa using hwn);rw [k4 j (by have:=hT.lt hw;omega) (fun e=>hc (.inr (.inr (.inr (.inl (by rw [e,e3];rfl)))))),h3]
 have hfr:∀x,look N2 O=some x->x= .res:=fun x hx=>by have:=hT.lt hx;omega
 have up:=m.upd (k:=k) (v':= .row r5 5 0 (c.rows[k].length - 1)) (m':=N2) (l':=c.rows[k].eraseIdx i) (nx:=(c.Xr[k]?).getD 0) (O':=O4) hk' keep
  (m1.fr fun j hj=>by
   obtain ⟨es0,h0⟩:=m1.own hj;exact k4 j (hT3'.lt h0) (fun e=>hri (by rw [hj,e])))
  (by
   rw [hnv];refine m.cm.n.fr fun j hj=>?_
   obtain ⟨es0,h0⟩:=m.cm.n.own hj;have h3:=k3' j (fun e=>m.cm.rn j (by rw [e1,e];rfl) hj) (b8 h0 l5 (by simp)) (by rw [h0];simp);rw [k4 j (by have:=hT.lt h0;omega) (fun e=>m.ni j hj (by rw [e3,e];rfl)),h3])
  (by
   have hmu:=Mu.upd (O':=O4) (id:=iid) (z:=1) (k:=k) (es:=S.M.map fun x=>[.map x]) (es0:=esi) (y:=[.map N2]) r1 (by rw [dQ,hMl];exact hle3) (by rw [dQ,hMl];exact hcz);rw [dQ,hMl] at hmu;rw [e3,QG];exact hmu)
  (m5.fr fun j hj=>by
   obtain ⟨es0,h0⟩:=m5.own hj;exact k4 j (hT3'.lt h0) (b8 h0 li3 (by simp)))
  r2 (by simp) (fun j hj=> .inl ⟨_,Qa hV,by rw [e5];exact hj⟩) (.inr hfr)
 rw [hnv] at up;refine ⟨S.tab k (.row r5 5 0 (c.rows[k].length - 1)) N2,O4,N4,rfl,up,rfl,?_,?_,hT4,by omega⟩
 ·intro j hj;rcases hj with hj | hj | hj | hj
  ·exact .inl (.inl hj)
  ·rcases hj with hj | hj | hj | ⟨w,hw,hj⟩
   ·exact .inl (.inr (.inl (.inl hj)))
   ·exact .inl (.inr (.inl (.inr (.inl hj))))
   ·exact .inl (.inr (.inl (.inr (.inr (.inl hj)))))
   ·rcases Qq hw with hw | rfl
    ·exact .inl (.inr (.inl (.inr (.inr (.inr ⟨w,hw,hj⟩)))))
    ·cases hj;exact .inl own4
  ·exact .inl (.inr (.inr (.inl hj)))
  ·simp only [SV.tab] at hj;rcases Qq hj with hj | rfl
   ·exact .inl (.inr (.inr (.inr hj)))
   ·exact .inr (by omega)
 ·intro j hj hx;have hx1:¬S.own j:=fun h=>hx (.inl h)
  have hx2:¬look j O=some .res:=fun h=>hx (.inr h)
  rw [k4 j (by omega) (fun e=>hx1 (by rw [e];exact own5)),k3' j (fun e=>hx1 (by rw [e];exact own1)) (fun e=>hx1 (by rw [e];exact own4)) hx2]
end Go.Av
