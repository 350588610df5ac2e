/-
 The journal's Open.
-/
import Derived.Test.YtjdbnnnakpacjaaGreatJC1
set_option linter.unusedVariables false
set_option linter.unusedSimpArgs false
set_option linter.constructorNameAsVariable false
namespace Go.Av
set_option maxRecDepth 4000
theorem qzu {o:Xc} (h:smO o):OpS o:=by
 have c:∀v:Int,0<=v/\v<=4294967295->ok32 0 v:=fun v h=>by unfold ok32;omega
 exact ⟨⟨h.1.1,fun m hm=>⟨c _ (h.1.2.1 m hm).1,c _ (h.1.2.1 m hm).2⟩,h.1.2.2.1,fun v hv=>c _ (h.1.2.2.2 v hv)⟩,⟨h.2.1,fun v hv=>c _ (h.2.2 v hv)⟩⟩
def RJ (N:Nat) (O:List (Nat×AO)) (t:Nat) (R:AV) (p:Prg) (g:LgV) (b:List Int) (r:Option (Rt×AH)):Prop:=
  ∃O' N' R',N<=N'/\Tail O' N'/\(∀j,tid R'=some j->tid R=some j\/N<=j)/\Kp (fun j=>j=t\/tid R=some j\/Rs O j) N O O'/\
    (((decB b).2≠0/\r=some (.val (.int .i64 (decB b).2),⟨O',N'⟩)/\LogM O' t R' p g)\/
     ((decB b).2=0/\∃x,badA p g.c (decB b).1=some x/\r=some (.val (.int .i64 x.2),⟨O',N'⟩)/\LogM O' t R' p g)\/
     ((decB b).2=0/\badA p g.c (decB b).1=none/\r=some (.val (.int .i64 0),⟨O',N'⟩)/\LogM O' t R' p (cmt p g (decB b).1)))
theorem qyu (p:Prg) (op:p.Ok qaz) (hc:(pre p.control).length<2^40 - 1) (hp:p.Xn.length<2^40) {g:LgV} (s:CfgT g.c) (hn:g.n<2^40) (hb:g.b.length<2^40) {b:List Int} (hbb:okB b)
    {O:List (Nat×AO)} {N t:Nat} {R:AV} (hT:Tail O N) (m:LogM O t R p g):RJ N O t R p g b (qah Φ f_70 [.ptr t 16 0 0,.slice 1 (b.map c8)] ⟨O,N⟩):=by
  rw [qau (fn:=c_70) rfl rfl];have k1:=qx6 b hbb;obtain ⟨_,r2⟩:=qtn hbb;by_cases z:(decB b).2=0
  rotate_left
  · simp [c_70,k1,z]
    exact ⟨O,N,R,Qb _,hT,fun j hj=> .inl hj,Kp.refl,.inl ⟨z,rfl,m⟩⟩
  obtain ⟨O',N',R',hN',hT',hR',hk,hcj⟩:=qk5 p op hc hp s hn hb (fun o ho=>qzu (r2 o ho)) (.inl rfl) hT m;rw [z] at k1;cases hA:badA p g.c (decB b).1 with
  | some x=>
    obtain ⟨k,x⟩:=x;rw [hA] at hcj;obtain ⟨hr,m'⟩:=hcj;simp [c_70,k1,hr];exact ⟨O',N',R',hN',hT',hR',hk,.inr (.inl ⟨z,(k,x),hA,rfl,m'⟩)⟩
  | none=>
    rw [hA] at hcj;obtain ⟨hr,m'⟩:=hcj;simp [c_70,k1,hr];exact ⟨O',N',R',hN',hT',hR',hk,.inr (.inr ⟨z,hA,rfl,m'⟩)⟩
def OpQ (N0:Nat) (O0:List (Nat×AO)) (t:Nat) (p:Prg) (out:Option LgV×Int×Int) (r:Option (Rt×AH)):Prop:=
 ∃O' N',N0<=N'/\Tail O' N'/\Kp (Rs O0) N0 O0 O'/\
  match out.1 with
  | some g'=>∃R',r=some (.val (.tup [.ptr t 16 0 0,.int .i64 out.2.1,.int .i64 out.2.2]),⟨O',N'⟩)/\LogM O' t R' p g'/\(∀j,tid R'=some j->N0<=j)/\LgS p g' (2^21)
  | none=>r=some (.val (.tup [.nilptr,.int .i64 out.2.1,.int .i64 out.2.2]),⟨O',N'⟩)
structure OpI (N0:Nat) (O0:List (Nat×AO)) (t:Nat) (p:Prg) (b:List Int) (x:LgV×Nat) (e:Env) (h:AH):Prop where
 ex:∃R O N,h=⟨O,N⟩/\N0<=N/\Tail O N/\LogM O t R p x.1/\Kp (Rs O0) N0 O0 O/\(∀j,tid R=some j->N0<=j)
 u:x.2<=b.length
 s:∃i,8*i+(b.length - x.2)<=2^24/\LgS p x.1 i
 e1:look 1 e=some (.slice 1 (b.map c8))
 e4:look 4 e=some (.ptr t 16 0 0)
 e5:look 5 e=some (.int .i64 (x.2:Nat))
theorem qabn (p:Prg) (op:p.Ok qaz) (hc:(pre p.control).length<2^40 - 1) (hp:p.Xn.length<2^40) {b:List Int} (hbb:okB b) (hbl:b.length<=2^24) {N0 t:Nat} {O0:List (Nat×AO)} (ht:N0<=t):
  ∀x e h,OpI N0 O0 t p b x e h->∀k,b.length - x.2<=k->OpQ N0 O0 t p (opn p k x.1 x.2 (b.drop x.2)) (go Φ (finC [.tmp 4,.tmp 5,.tmp 6]) [.c (.loop c_29_l0),.b 0,.c c_29_k1] .normal ⟨e,h⟩):=by
 refine loopQ (fun x:LgV×Nat=>b.length - x.2) (OpI N0 O0 t p b) (fun x r=>∀k,b.length - x.2<=k->OpQ N0 O0 t p (opn p k x.1 x.2 (b.drop x.2)) r) ?_;rintro ⟨g,u⟩ e h L hL I ih k hk;obtain ⟨⟨R,O,N,rfl,hN,hT,m,hkp,hR⟩,hu,⟨i,hi,S⟩,e1,e4,e5⟩:=I;simp only at*;by_cases q:u<b.length
 rotate_left
 ·have hu2:u=b.length:=by omega
  subst hu2;have ho:opn p k g (b.length:Nat) (b.drop b.length)=(some g,((b.length:Nat):Int),0):=by cases k<;>simp [opn]
  rw [ho];simp [c_29_l0,c_29_k1,e1,e4,e5,hL];exact ⟨O,N,hN,hT,hkp,R,rfl,m,hR,S.mono (by omega)⟩
 obtain ⟨k,rfl⟩:∃n,k=n+1:=⟨k - 1,by omega⟩;have hne:¬b.drop u=[]:=by
  intro h;have:=congrArg List.length h;simp at this;omega
 have hod:okB (b.drop u):=qoc hbb u;have k1:=qadf (b.drop u) hod (by simp;omega);rw [List.map_drop] at k1;have x4:((b.map c8).drop u).take (b.length - u)=(b.map c8).drop u:=Qo (by simp);have c1:(u:Int)<(b.length:Int):=by omega
 have c2:(0:Int)<=(u:Int)/\(u:Int)<=(b.length:Int):=by omega
 rw [opn,QA hne];by_cases z1:(unfB (b.drop u)).2.2=0
 rotate_left
 ·rw [QAa z1];simp [c_29_l0,c_29_k1,e1,e4,e5,c1,c2,x4,k1,z1,hL];exact ⟨O,N,hN,hT,hkp,R,rfl,m,hR,S.mono (by omega)⟩
 obtain ⟨body,n,hU⟩:∃body n,unfB (b.drop u)=(body,n,0):=⟨(unfB (b.drop u)).1,(unfB (b.drop u)).2.1,by rw [<- z1]⟩;obtain ⟨n8,nl,nb,hob⟩:=qalx hod hU;rw [List.length_drop] at nl;rw [hU] at k1;rw [hU];simp only [ne_eq,not_true,if_false] at k1 ⊢;have gn:=S.n;have gb:=S.b;obtain ⟨O',N',R',hN',hT',hR',hk',hcj⟩:=qyu p op hc hp S.s (by omega) (by omega) hob hT m;have hkp':Kp (Rs O0) N0 O0 O':=by
  intro j hj hx;rw [hk' j (by omega) ?_,hkp j hj hx];rintro (h | h | h)
  ·omega
  ·have:=hR j h;omega
  ·unfold Rs at h;rw [hkp j hj hx] at h;exact hx h
 have hR2:∀j,tid R'=some j->N0<=j:=fun j hj=>by
  rcases hR' j hj with h | h
  ·exact hR j h
  ·omega
 rcases hcj with ⟨y1,hr,m'⟩ | ⟨y1,x,hA,hr,m'⟩ | ⟨y1,hA,hr,m'⟩
 ·rw [QAa y1];simp [c_29_l0,c_29_k1,e1,e4,e5,c1,c2,x4,k1,hr,y1,hL];exact ⟨O',N',by omega,hT',hkp',rfl⟩
 ·rw [QA (by simpa using y1),hA];have hx:x.2≠0:=qj3 (k:=x.1) (e:=x.2) hA;simp [c_29_l0,c_29_k1,e1,e4,e5,c1,c2,x4,k1,hr,hx,hL];exact ⟨O',N',by omega,hT',hkp',rfl⟩
 ·rw [QA (by simpa using y1),hA];have hw:IntKind.wrap .i64 ((u:Int)+n)=((u+n.toNat:Nat):Int):=(qbb (by omega) (by omega)).trans (by omega);have hd:(b.drop u).drop n.toNat=b.drop (u+n.toNat):=by rw [QBv]
  have hu2:(u:Int)+n=((u+n.toNat:Nat):Int):=by omega
  simp only [hd,hu2];obtain ⟨u',hu'⟩:∃u',u+n.toNat=u':=⟨_,rfl⟩;rw [hu'] at hw ⊢;have S':=S.cmt hp (l:=(decB body).1) (fun o ho=>qzu ((qtn hob).2 o ho));simp [c_29_l0,e1,e4,e5,c1,c2,x4,k1,hr,hw];exact ih (cmt p g (decB body).1,u') _ _ (by simp only;omega) ⟨⟨R',O',N',rfl,by omega,hT',m',hkp',hR2⟩,by simp only;omega,⟨i+1,by simp only;omega,S'⟩,by simp [e1],by simp [e4],by simp⟩ k (by simp only;omega)
theorem qw7 (p:Prg) (op:p.Ok qaz) (hc:(pre p.control).length<2^40 - 1) {b:List Int} (hbb:okB b) (hbl:b.length<=2^24) (z:(prgD p).1=0) {O:List (Nat×AO)} {N:Nat} (hT:Tail O N):
  OpQ N O (N+2) p (opn p b.length (lg0 p) 0 b) (qah Φ f_29 [.agg (Prg.c p),.slice 1 (b.map c8)] ⟨O,N⟩):=by
 have f:=qfh op;rw [qau (fn:=c_29) rfl rfl];have t0:=hT N (Qb _);have hT1:Tail (O++[(N,.row 9 [Prg.c p])]) (N+1):=hT.app1 (Qb _);have k1:=qud p op hc z hT1;have hT2:Tail (O++[(N,AO.row 9 [Prg.c p]),(N+1,.row 9 [Prg.c p]),(N+1+1,.row 16 [qdr p (qbl p) (.Xu 1 []) 0])]) (N+1+2):=Tail_append_iff.2 ⟨hT.mono (by omega),by simp [qa1,qcg];omega⟩;have t2:=hT (N+2) (by omega);have hm:LogM (O++[(N,AO.row 9 [Prg.c p]),(N+1,.row 9 [Prg.c p]),(N+1+1,.row 16 [qdr p (qbl p) (.Xu 1 []) 0])]) (N+2) (.Xu 1 []) p (lg0 p):=⟨by simp [qag,t2,lg0],.inl ⟨rfl,rfl⟩⟩;have hk:Kp (Rs O) N O (O++[(N,AO.row 9 [Prg.c p]),(N+1,.row 9 [Prg.c p]),(N+1+1,.row 16 [qdr p (qbl p) (.Xu 1 []) 0])]):=by
  intro j hj _;rw [qag];have:look j [(N,AO.row 9 [Prg.c p]),(N+1,.row 9 [Prg.c p]),(N+1+1,.row 16 [qdr p (qbl p) (.Xu 1 []) 0])]=none:=by
   have a1:¬N=j:=by omega
   have a2:¬N+1=j:=by omega
   have a3:¬N+1+1=j:=by omega
   simp [look,a1,a2,a3]
  rw [this];simp
 have hl:=qabn p op hc f.t hbb hbl (N0:=N) (t:=N+2) (O0:=O) (by omega) (lg0 p,0);simp only [Prg.e,QAi,QAh,QAj] at k1 hT2 hm hk;simp [c_29,Prg.e,t0,k1];exact hl _ _ ⟨⟨_,_,_,rfl,by omega,hT2,hm,hk,by simp [tid]⟩,by simp,⟨0,by simp;omega,lg0_s op z 0⟩,by simp,by simp,by simp⟩ b.length (by simp)
def StC (O:List (Nat×AO)) (e:List AV) (c:Xf):Prop:=∃u1 u2 u3 u4 U,e=[u1,u2,u3,u4]/\CfgM O u1 u2 u3 u4 U c
structure StL (O:List (Nat×AO)) (Es:List (List AV)) (cs:List Xf):Prop where
 len:Es.length=cs.length
 at_:∀(i:Nat) e c,Es[i]? =some e->cs[i]? =some c->StC O e c
def Old (O O':List (Nat×AO)):Prop:=∀j z es,look j O=some (.row z es)->(z=1\/z=2\/z=5)->look j O'=look j O
theorem StC.fr {O O':List (Nat×AO)} {e:List AV} {c:Xf} (h:StC O e c) (hf:Old O O'):StC O' e c:=by
 obtain ⟨u1,u2,u3,u4,U,rfl,m⟩:=h;refine ⟨u1,u2,u3,u4,U,rfl,m.fr fun j hj=>?_⟩;obtain ⟨z,es,h1,h2⟩:=m.own_lk hj;exact hf j z es h1 h2
theorem StL.fr {O O':List (Nat×AO)} {Es:List (List AV)} {cs:List Xf} (h:StL O Es cs) (hf:Old O O'):StL O' Es cs:=
 ⟨h.len,fun i e c h1 h2=>(h.at_ i e c h1 h2).fr hf⟩
theorem StL.app {O:List (Nat×AO)} {Es:List (List AV)} {cs:List Xf} {e:List AV} {c:Xf} (h:StL O Es cs) (hc:StC O e c):StL O (Es++[e]) (cs++[c]):=by
 refine ⟨by simp [h.len],fun i x y h1 h2=>?_⟩;by_cases hi:i<Es.length
 ·rw [Ql hi] at h1;rw [Ql (by rw [<- h.len];exact hi)] at h2;exact h.at_ i x y h1 h2
 ·rw [Qp (by omega)] at h1;rw [Qp (by rw [<- h.len];omega)] at h2;have hl:=h.len;by_cases h0:i - Es.length=0
  ·rw [h0] at h1;rw [show i - cs.length=0 by omega] at h2;simp at h1 h2;subst h1 h2;exact hc
  ·rw [Qk (by simp;omega)] at h1;cases h1
def sts (p:Prg) (G:List (List Xc)):List Xf:=(List.range (G.length+1)).map fun i=>(cmts p (lg0 p) (G.take i)).c
def eds (G:List (List Xc)):List Int:=(List.range (G.length+1)).map fun i=>((frs (G.take i)).length:Int)
theorem qr6 {α:Type} (G:List α) (l:α):∀i∈List.range (G.length+1),(G++[l]).take i=G.take i:=by
 intro i hi;have:i<G.length+1:=by simpa using hi
 exact QAy (by omega)
theorem qaic (p:Prg) (G:List (List Xc)) (l:List Xc):sts p (G++[l])=sts p G++[(cmts p (lg0 p) (G++[l])).c]:=by
 unfold sts;rw [QAc,QCf,List.range_succ,QBb];congr 1
 ·exact List.map_congr_left fun i hi=>by rw [qr6 G l i hi]
 ·rw [List.map_singleton,Qo (by simp)]
theorem qafr (G:List (List Xc)) (l:List Xc):eds (G++[l])=eds G++[((frs (G++[l])).length:Int)]:=by
 unfold eds;rw [QAc,QCf,List.range_succ,QBb];congr 1
 ·exact List.map_congr_left fun i hi=>by rw [qr6 G l i hi]
 ·rw [List.map_singleton,Qo (by simp)]
theorem qaid (p:Prg) {G:List (List Xc)} {i:Nat} (hi:i<=G.length):(sts p G)[i]? =some (cmts p (lg0 p) (G.take i)).c:=by
 have:i<G.length+1:=by omega
 simp [sts,List.getElem?_range this]
theorem qmy {G:List (List Xc)} {i:Nat} (hi:i<=G.length):(eds G)[i]? =some ((frs (G.take i)).length:Int):=by
 have:i<G.length+1:=by omega
 simp [eds,List.getElem?_range this]
theorem qgy (G:List (List Xc)):(eds G).length=G.length+1:=by simp [eds]
theorem qxc (p:Prg) (G:List (List Xc)):(sts p G).length=G.length+1:=by simp [sts]
structure RcH (p:Prg) (L G:List (List Xc)) (R:AV) (s T:Nat) (Es:List (List AV)) (O:List (Nat×AO)) (N i:Nat):Prop where
 tail:Tail O N
 ok:okG p (lg0 p) G
 sub:∀l∈G,l∈L
 fS:LgS p (cmts p (lg0 p) G) i
 gl:G.length<=i
 m:LogM O 1 R p (cmts p (lg0 p) G)
 fs:look s O=some (.row 4 Es)
 st:StL O Es (sts p G)
 fT:look T O=some (.tok 1 (G.length+1))
 RT:tid R≠some T
structure RcE (p:Prg) (L G:List (List Xc)) (s T:Nat) (cut:Int) (e:Env):Prop where
 e1:look 1 e=some (.slice 1 (L.map (cS 9 Xc.c)))
 e2:look 2 e=some (.int .i64 cut)
 e3:look 3 e=some (.iptr 9 [Prg.c p] 0 0)
 e7:look 7 e=some (.ptr 1 16 0 0)
 e9:look 9 e=some (.app 1 ((eds G).map cI) T)
 e10:look 10 e=some (.row s 4 0 (G.length+1))
theorem qrs {O O':List (Nat×AO)} {N t:Nat} {R:AV} {p:Prg} {g:LgV} {n:Nat} (hT:Tail O N) (m:LogM O t R p g) (hk:Kp (fun j=>j=t\/tid R=some j\/Rs O j) N O O') (_:n=n):Old O O':=by
 intro j z es hj hz;refine hk j (hT.lt hj) ?_;rintro (h | h | h)
 ·subst h;rw [m.row] at hj;cases hj;simp at hz
 ·rcases m.rcd with ⟨rfl,_⟩ | ⟨T,rfl,h2⟩
  ·cases h
  ·simp only [tid,Option.some.injEq] at h;subst h;rw [hj] at h2;cases h2
 ·unfold Rs at h;rw [hj] at h;cases h
theorem qhy {O O':List (Nat×AO)} {N:Nat} (hT:Tail O N) (hk:Kp (Rs O) N O O'):Old O O':=by
 intro j z es hj _;refine hk j (hT.lt hj) fun h=>?_
 unfold Rs at h;rw [hj] at h;cases h
theorem Old.trans {O O' O'':List (Nat×AO)} (h:Old O O') (h2:Old O' O''):Old O O'':=fun j z es hj hz=>by
 have:=h j z es hj hz;rw [h2 j z es (by rw [this,hj]) hz,this]
theorem qaha (p:Prg) (op:p.Ok qaz) (hc:(pre p.control).length<2^40 - 1) (L:List (List Xc)) (cut:Int) (hL:L.length<=12) (hl:∀l∈L,∀o∈l,OpS o) {K:List Fr} {X:Option Rt}
    (last:∀G R s T Es O N e,RcH p L G R s T Es O N L.length->RcE p L G s T cut e->go Φ (finP [.tmp 6]) K .normal ⟨e,⟨O,N⟩⟩=X)
    {G0:List (List Xc)} {R0:AV} {s0 T0:Nat} {Es0:List (List AV)} {O0:List (Nat×AO)} {N0:Nat} {e0:Env} (h0:RcH p L G0 R0 s0 T0 Es0 O0 N0 0) (he:RcE p L G0 s0 T0 cut e0) (h11:look 11 e0=some (.int .i64 0)):
    go Φ (finP [.tmp 6]) (.c (.loop c_8_l0):: .b 0::K) .normal ⟨e0,⟨O0,N0⟩⟩=X:=by
  have hp:=(qfh op).t;refine qdt L.length (fun i e h=>∃G R s T Es O N,h=⟨O,N⟩/\RcH p L G R s T Es O N i/\RcE p L G s T cut e/\look 11 e=some (.int .i64 i)) (fun _=>X) ?_ ?_ 0 _ _ (Qc _) ⟨G0,R0,s0,T0,Es0,O0,N0,rfl,h0,he,h11⟩
  · rintro i e h K' hi hK ⟨G,R,s,T,Es,O,N,rfl,H,E,e11⟩ ih
    have hw:=qal i (by omega);have hli:∀o∈L[i],OpS o:=hl _ (Qd hi);have gn:=H.fS.n;have gb:=H.fS.b;obtain ⟨O1,N1,R1,hN1,hT1,hR1,hk1,hcj⟩:=qk5 p op hc hp H.fS.s (by omega) (by omega) hli (.inl rfl) H.tail H.m;have e1:=E.e1;have e7:=E.e7;have e9:=E.e9;have e10:=E.e10;have old1:=qrs (n:=0) H.tail H.m hk1 rfl;have hs1:look s O1=some (.row 4 Es):=hk1.lk H.tail H.fs (by
      rintro (h | h | h)
      · have h2:=H.fs;rw [h,H.m.row] at h2;cases h2
      · rcases H.m.rcd with ⟨h3,_⟩ | ⟨T',h3,h2⟩
        · rw [h3] at h;cases h
        · rw [h3] at h;simp only [tid,Option.some.injEq] at h;subst h;rw [H.fs] at h2;cases h2
      · unfold Rs at h;rw [H.fs] at h;cases h)
    have hT1':look T O1=some (.tok 1 (G.length+1)):=hk1.lk H.tail H.fT (by
      rintro (h | h | h)
      · have h2:=H.fT;rw [h,H.m.row] at h2;cases h2
      · exact H.RT h
      · unfold Rs at h;rw [H.fT] at h;cases h)
    have lT:=H.tail.lt H.fT;have hRT1:tid R1≠some T:=fun h=>by
      rcases hR1 T h with h | h
      · exact H.RT h
      · omega
    cases hA:badA p (cmts p (lg0 p) G).c L[i] with
    | some x=>
      obtain ⟨k,x⟩:=x;have hx:=qj3 hA;rw [hA] at hcj;obtain ⟨hr,m1⟩:=hcj;simp [c_8_l0,e1,e7,e11,hi,cSe,hr,hx,hw];refine ih _ _ ⟨G,R1,s,T,Es,O1,N1,rfl,⟨hT1,H.ok,H.sub,H.fS.mono (QBh _),by have:=H.gl;omega,m1,hs1,H.st.fr old1,hT1',hRT1⟩,⟨by simp [e1],by simp [E.e2],by simp [E.e3],by simp [e7],by simp [e9],by simp [e10]⟩,by simp⟩
    | none=>
      rw [hA] at hcj;obtain ⟨hr,m1⟩:=hcj;have S':=H.fS.cmt hp hli;have gb':=S'.b;have hG:cmt p (cmts p (lg0 p) G) L[i]=cmts p (lg0 p) (G++[L[i]]):=by rw [qtg];rfl
      rw [hG] at m1 S' gb';obtain ⟨w1,w2,w3,w4,V,O2,N2,hr2,cm,hown,hk2,hT2,hN2⟩:=qh6 p op hc S'.v S'.s hT1 m1;have hs2:=hk2.lk hT1 hs1 (by intro h;unfold Rs at h;rw [hs1] at h;cases h);have hT2':=hk2.lk hT1 hT1' (by intro h;unfold Rs at h;rw [hT1'] at h;cases h);have ls2:=hT2.lt hs2;have lT2:=hT2.lt hT2';have t2:∀k,look (N2+k) O2=none:=fun k=>hT2 (N2+k) (by omega)
      have t20:=hT2 N2 (Qb _);have esl:Es.length=G.length+1:=by rw [H.st.len,qxc]
      have gl:=H.gl;have z1:¬N2=s:=by omega
      have z2:¬s=N2:=by omega
      have z3:¬N2+1=s:=by omega
      have z4:¬s=N2+1:=by omega
      have c1:(G.length+1+1)*96<=70368744177664:=by omega
      have c2:(G.length+1+1)*8<=70368744177664:=by omega
      have d1:look (N2+1) (qbg s (O2++[(N2,AO.row 4 [[w1,w2,w3,w4]])]))=none:=by
        refine qcy _ ?_;rw [qag,t2 1];simp
      obtain ⟨O3,hO3⟩:∃O3,qbg s (O2++[(N2,AO.row 4 [[w1,w2,w3,w4]])])++[(N2+1,AO.row 4 (Es++[[w1,w2,w3,w4]]))]=O3:=⟨_,rfl⟩;have g3:∀j x,look j O2=some x->j≠s->look j O3=some x:=by
        intro j x hj hs;rw [<- hO3,qag,qb5 hs,qag,hj];rfl
      have hT3:Tail O3 (N2+2):=by
        rw [<- hO3];refine Tail_append_iff.2 ⟨qdz (Tail_append_iff.2 ⟨hT2.mono (by omega),by simp [qa1,qcg]⟩),by simp [qa1,qcg]⟩
      have n1s:(1:Nat)≠s:=qan m1.row hs1 (by simp);have nTs:T≠s:=qan hT2' hs2 (by simp);have old2:Old O1 O2:=qhy hT1 hk2;have old3:Old O2 O3:=by
        intro j z es hj hz;refine (g3 j _ hj ?_).trans hj.symm;rintro rfl;rw [hs2] at hj;cases hj;simp at hz
      have m2:LogM O2 1 R1 p (cmts p (lg0 p) (G++[L[i]])):=by
        refine m1.fr (hk2 1 (hT1.lt m1.row) fun h=>?_) fun j hj=>?_
        · unfold Rs at h;rw [m1.row] at h;cases h
        · rcases m1.rcd with ⟨h3,_⟩ | ⟨T',h3,h4⟩
          · rw [h3] at hj;cases hj
          · rw [h3] at hj
            simp only [tid,Option.some.injEq] at hj;subst hj;exact hk2 _ (hT1.lt h4) fun h=>by unfold Rs at h;rw [h4] at h;cases h
      have m3:LogM O3 1 R1 p (cmts p (lg0 p) (G++[L[i]])):=by
        refine m2.fr ((g3 1 _ m2.row n1s).trans m2.row.symm) fun j hj=>?_
        rcases m2.rcd with ⟨h3,_⟩ | ⟨T',h3,h4⟩
        · rw [h3] at hj;cases hj
        · rw [h3] at hj
          simp only [tid,Option.some.injEq] at hj;subst hj;exact (g3 _ _ h4 (qan h4 hs2 (by simp))).trans h4.symm
      have hb3:=qiv (N:=N2+2) hT3 (by omega) m3;rw [qiy] at hb3;simp only [show (lg0 p).b=[] from rfl,QAj] at hb3;have hT3':=g3 T _ hT2' nTs;have hs3:look (N2+1) O3=some (.row 4 (Es++[[w1,w2,w3,w4]])):=by rw [<- hO3];simp [d1]
      have ln:((frs (G++[L[i]])).length:Int)=((frs (G++[L[i]])).length:Nat):=rfl;have nT:T≠N2+1:=by omega
      simp [c_8_l0,e1,e7,e9,e10,e11,hi,cSe,hr,hr2,hw,t20,t2,qag,hs2,z1,z2,z3,z4,esl,c1,c2,qgy,d1];rw [show N2+1+1=N2+2 by omega,hO3];simp [hb3,hT3',qgy,c2,e11,hw];have f4:∀j,j≠T->look j (setl T (.tok 1 (G.length+1+1)) O3)=look j O3:=fun j hj=>by rw [qab,QA hj]
      have old4:Old O3 (setl T (.tok 1 (G.length+1+1)) O3):=by
        intro j z es hj hz;refine f4 j ?_;rintro rfl;rw [hT3'] at hj;cases hj
      refine ih _ ⟨setl T (.tok 1 (G.length+1+1)) O3,N2+2+1⟩ ⟨G++[L[i]],R1,N2+1,T,Es++[[w1,w2,w3,w4]],_,_,rfl,⟨qai (hT3.mono (by omega)),qqt _ _ H.ok ⟨hA,trivial⟩,?_,S',?_,?_,?_,?_,?_,hRT1⟩,⟨by simp [e1],by simp [E.e2],by simp [E.e3],by simp [e7],?_,?_⟩,by simp⟩
      · intro l hl'
        rcases QAf.1 hl' with h | h
        · exact H.sub l h
        · simp at h;subst h;exact Qd hi
      · simp;omega
      · refine m3.fr (f4 1 ?_) fun j hj=>f4 j fun h=>hRT1 (by rw [<- h];exact hj)
        intro h;rw [<- h,m3.row] at hT3';cases hT3'
      · rw [f4 _ (Ne.symm nT)];exact hs3
      · rw [qaic]
        exact ((H.st.fr (old1.trans (old2.trans old3))).app ⟨w1,w2,w3,w4,V,rfl,cm.fr fun j hj=>by
          obtain ⟨z,es,h1,h2⟩:=cm.own_lk hj;exact old3 j z es h1 h2⟩).fr old4
      · rw [qab,QAa rfl,hT3'];simp
      · rw [qafr];simp [cIe]
      · simp
  · rintro e h K' hK ⟨G,R,s,T,Es,O,N,rfl,H,E,e11⟩
    have e1:=E.e1;simp [c_8_l0,e1,e11,hK];exact last G R s T Es O N _ H ⟨by simp [e1],by simp [E.e2],by simp [E.e3],by simp [E.e7],by simp [E.e9],by simp [E.e10]⟩
theorem Mu.rf {O:List (Nat×AO)} {z n:Nat} {v:AV} {es:List (List AV)} (h:Mu O z v es):Rf (n+1) v:=by
 cases h with
 | nilF=>exact Rf.Xu _ _ _ (by simp)
 | nilA=>exact Rf.app _ _ _ _ (by simp)
 | row=>exact Rf.row _ _ _ _ _
theorem qae4 {O:List (Nat×AO)} {Es:List (List AV)} {cs:List Xf} (h:StL O Es cs):aoEq (some (.row 4 Es)) (some (.row 4 Es))=true:=by
 have key:∀e∈Es,∀v∈e,Rf 40 v:=by
  intro e he v hv;obtain ⟨i,hi,rfl⟩:=Qn.1 he;have hc:i<cs.length:=by rw [<- h.len];exact hi
  obtain ⟨u1,u2,u3,u4,U,hu,m⟩:=h.at_ i _ _ (Qa hi) (Qa hc);rw [hu] at hv;simp only [QAe,QAr,or_false] at hv;have hreg:∀e∈cs[i].Xm.map (cS 1 c32),∀c∈e,Rf 39 c:=by
   intro e he c hc;obtain ⟨l,_,rfl⟩:=QAv.1 he;rw [cSe] at hc;simp only [QAe,QAr,or_false] at hc;subst hc;exact Rf.map _ _ _ _ fun x _=>qsx _ x
  rcases hv with rfl | rfl | rfl | rfl
  ·exact m.r.rf
  ·exact m.n.rf
  ·exact m.d.rf
  ·rcases m.g with rfl | ⟨t,rfl⟩
   ·exact Rf.Xu _ _ _ hreg
   ·exact Rf.app _ _ _ _ hreg
 have:=qfq (eqL (avEq 40)) Es fun e he=>qfq (avEq 40) e (key e he)
 simp only [aoEq,beq_self_eq_true,Bool.true_and];exact this
theorem LogM.sw {O:List (Nat×AO)} {t:Nat} {R:AV} {p:Prg} {g:LgV} (m:LogM O t R p g):LogM (qao O) t R p g:=by
 refine m.fr (qaw (by rw [m.row];simp)) fun j hj=>qaw ?_
 rcases m.rcd with ⟨rfl,_⟩ | ⟨T,rfl,h⟩
 ·cases hj
 ·simp only [tid,Option.some.injEq] at hj;subst hj;rw [h];simp
theorem qabj (O:List (Nat×AO)):Old O (qao O):=fun j z es hj _=>qaw (by rw [hj];simp)
theorem qws {G:List (List Xc)}:okB (frs G):=by
 intro x hx;obtain ⟨l,hl,hx⟩:=QBc.1 hx;obtain ⟨o,_,rfl⟩:=QAv.1 hl;exact (qfm (qf6 _) (qfm (qtu o) (qf6 _))) x hx
theorem qvd (G:List (List Xc)) (k:Nat):(frs G).take (frs (G.take k)).length=frs (G.take k):=by
 have h:frs G=frs (G.take k)++frs (G.drop k):=by rw [<- qqk,QBm]
 rw [h,QAy (Qb _),QAk]
structure RkE (p:Prg) (G:List (List Xc)) (s T n k:Nat) (e:Env):Prop where
 e3:look 3 e=some (.iptr 9 [Prg.c p] 0 0)
 e9:look 9 e=some (.app 1 ((eds G).map cI) T)
 e10:look 10 e=some (.row s 4 0 (G.length+1))
 e15:look 15 e=some (.slice 1 ((frs G).map c8))
 e16:look 16 e=some (.int .i64 (n:Nat))
 e17:look 17 e=some (.int .i64 (k:Nat))
theorem rc_k2 (p:Prg) (op:p.Ok qaz) (hc:(pre p.control).length<2^40 - 1) (z:(prgD p).1=0) {L G:List (List Xc)} (hL:L.length<=12) (hl:∀l∈L,∀o∈l,OpS o) {R:AV} {s T:Nat} {Es:List (List AV)} {O:List (Nat×AO)} {N n:Nat} {e:Env}
  (H:RcH p L G R s T Es O N L.length) (hn:n<=(frs G).length) (E:RkE p G s T n (kOf G n) e):
  go Φ (finP [.tmp 6]) [.c c_8_k2] .normal ⟨e,⟨O,N⟩⟩=some (.val (.bool true)):=by
 have hp:=(qfh op).t;have e3:=E.e3;have e9:=E.e9;have e10:=E.e10;have e15:=E.e15;have e16:=E.e16;have e17:=E.e17;rw [Prg.e] at e3;have hbs:(frs G).length<=300008*12:=by
  have:=H.fS.b;rw [qiy] at this;simp only [show (lg0 p).b=[] from rfl,QAj] at this;omega
 have v0:CfgV p (lg0 p).c:=qaaj z;have hoG:∀l∈G,∀o∈l,okO o:=fun l hlG o ho=>qabi (hl l (H.sub l hlG) o ho)
 have hK:=qt7 G n;have hop:=qod G (lg0 p) 0 n ((frs G).take n).length v0 H.ok hoG (Qb _);obtain ⟨k,hk⟩:∃k,kOf G n=k:=⟨_,rfl⟩;rw [hk] at hop hK e17;obtain ⟨O1,N1,hN1,hT1,hk1,hm1⟩:=qw7 p op hc (b:=(frs G).take n) (fun x hx=>qws x (Qu hx)) (by rw [QAp];omega) z H.tail;rw [hop] at hm1;obtain ⟨R1,hr1,m1,hR1,S1⟩:=hm1;have g1n:(cmts p (lg0 p) (G.take k)).n=k:=by
  rw [qz9,QAp];show 0+_=k;omega
 have g1b:(cmts p (lg0 p) (G.take k)).b=frs (G.take k):=by rw [qiy];rfl
 have hst:=H.st;have h1s:=H.tail.lt H.fs;have old1:=qhy H.tail hk1;have hs1:look s O1=some (.row 4 Es):=hk1.lk H.tail H.fs (by intro h;unfold Rs at h;rw [H.fs] at h;cases h);have hfk:(frs (G.take k)).length<=(frs G).length:=by
  have:=congrArg List.length (qvd G k);rw [QAp] at this;omega
 generalize hg':cmts p (lg0 p) (G.take k)=g' at*;have hkE:k<Es.length:=by rw [hst.len,qxc];omega
 have hEk:Es[k]? =some Es[k]:=Qa hkE;have hck:(sts p G)[k]? =some g'.c:=by rw [qaid p (by omega),hg']
 obtain ⟨u1,u2,u3,u4,U,hu,cu⟩:=hst.at_ k _ _ hEk hck;rw [hu] at hEk;have scu:StC O [u1,u2,u3,u4] g'.c:=⟨u1,u2,u3,u4,U,rfl,cu⟩;have hT1':Tail O1 (N1+1):=hT1.mono (by omega);obtain ⟨w1,w2,w3,w4,V,O2,N2,hr2,cw,hown2,hk2,hT2,hN2⟩:=qh6 p op hc S1.v S1.s hT1' m1;have old2:=qhy hT1' hk2;have hs2:look s O2=some (.row 4 Es):=hk2.lk hT1' hs1 (by intro h;unfold Rs at h;rw [hs1] at h;cases h);have keep:∀{O O':List (Nat×AO)} {N t:Nat} {R:AV} {g:LgV},Tail O N->Kp (Rs O) N O O'->LogM O t R p g->LogM O' t R p g:=by
  intro O O' N t R g hT hk m;refine m.fr (hk _ (hT.lt m.row) fun h=>?_) fun j hj=>?_
  ·unfold Rs at h;rw [m.row] at h;cases h
  ·rcases m.rcd with ⟨h3,_⟩ | ⟨T',h3,h4⟩
   ·rw [h3] at hj;cases hj
   ·rw [h3] at hj;simp only [tid,Option.some.injEq] at hj;subst hj;exact hk _ (hT.lt h4) fun h=>by unfold Rs at h;rw [h4] at h;cases h
 have m2:=keep hT1' hk2 m1;have scu2:=scu.fr (old1.trans old2);obtain ⟨_,_,_,_,U2,hq,cu2⟩:=scu2;simp only [List.cons.injEq,and_true] at hq;obtain ⟨rfl,rfl,rfl,rfl⟩:=hq;have keq:=qzi g'.c g'.c S1.s.s;rw [decide_eq_true rfl] at keq;have a1:=cw.snpR (n:=35) (N:=N2);have a2:=cw.snpN (n:=35) (N:=N2);have a3:=cw.snpD (n:=35) (N:=N2);have a4:=cw.snpG (n:=35) (N:=N2);have d1:=cu2.snpR (n:=35) (N:=N2);have d2:=cu2.snpN (n:=35) (N:=N2);have d3:=cu2.snpD (n:=35) (N:=N2);have d4:=cu2.snpG (n:=35) (N:=N2);have gb1:=S1.b;have gn1:=S1.n;have kb2:=qiv (N:=N2) hT2 (by omega) m2;have kl1:=qabb (N:=N1+1) m1;rw [g1b] at kb2;rw [g1n] at kl1;have hao:=qae4 hst;have hed:=qmy (G:=G) (i:=k) (by omega);have hT2s:Tail (qao O2) (N2+1):=qdn (hT2.mono (by omega));obtain ⟨O3,N3,R3,hN3,hT3,hR3,hk3,hc3⟩:=qk5 p op hc hp (l:=[]) (v:= .Xu 9 []) S1.s (by omega) (by omega) (by simp) (.inr ⟨rfl,rfl⟩) hT2s m2.sw;rw [qs6 S1.v] at hc3;obtain ⟨hr3,m3⟩:=hc3;have ls2:=hT2.lt hs2;have old3:=qrs (n:=0) hT2s m2.sw hk3 rfl;have hs2s:look s (qao O2)=some (.row 4 Es):=(qaw (by rw [hs2];simp)).trans hs2;have tidge:∀j,tid R1=some j->N<=j:=hR1;have hs3:look s O3=some (.row 4 Es):=hk3.lk hT2s hs2s (by
  rintro (h | h | h)
  ·omega
  ·have:=tidge s h;omega
  ·unfold Rs at h;rw [hs2s] at h;cases h)
 have g3b:(cmt p g' []).b=frs (G.take k++[[]]):=by
  rw [qqk];simp only [cmt,g1b];simp [frs]
 have g3n:(cmt p g' []).n=k+1:=by simp [cmt,g1n]
 have g3c:(cmt p g' []).c=g'.c:=rfl;have el:=qi9 [];have hfl:(frs (G.take k++[[]])).length=(frs (G.take k)).length+((encB []).length+8):=by
  rw [qqk,QAc];simp [frs,qg3]
 have hT3':Tail O3 (N3+1):=hT3.mono (by omega);have kb3:=qiv (N:=N3+1) hT3' (by rw [g3b];omega) m3;rw [g3b] at kb3;have hT3'':Tail O3 (N3+1+1):=hT3.mono (by omega);have hok:okG p (lg0 p) (G.take k):=qui G k H.ok;have hop2:=qabo (G.take k) v0 hok (fun l hlG o ho=>hoG l (Qu hlG) o ho) (frs (G.take k++[[]])).length (Qb _);rw [hg'] at hop2;obtain ⟨O4,N4,hN4,hT4,hk4,hm4⟩:=qw7 p op hc (b:=frs (G.take k++[[]])) qws (by omega) z hT3'';rw [hop2] at hm4;obtain ⟨R4,hr4,m4,hR4,S4⟩:=hm4;have old4:=qhy hT3'' hk4;have hs4:look s O4=some (.row 4 Es):=hk4.lk hT3'' hs3 (by intro h;unfold Rs at h;rw [hs3] at h;cases h);have m34:=keep hT3'' hk4 m3;have hT4s:Tail (qao O4) (N4+1):=qdn (hT4.mono (by omega));have kb4:=qiv (N:=N4+1) hT4s (by rw [g3b];omega) m34.sw;rw [g3b] at kb4;have hT4s':Tail (qao O4) (N4+1+1):=hT4s.mono (by omega);have kl4:=qabb (N:=N4+1+1) m4.sw;rw [g3n] at kl4;obtain ⟨x1,x2,x3,x4,V5,O5,N5,hr5,cx,_,hk5,hT5,_⟩:=qh6 p op hc S4.v S4.s hT4s' m4.sw;have hs4s:look s (qao O4)=some (.row 4 Es):=(qaw (by rw [hs4];simp)).trans hs4;have hs5:look s O5=some (.row 4 Es):=hk5.lk hT4s' hs4s (by intro h;unfold Rs at h;rw [hs4s] at h;cases h);have scu5:=scu.fr ((((((old1.trans old2).trans (qabj O2)).trans old3).trans old4).trans (qabj O4)).trans (qhy hT4s' hk5));obtain ⟨_,_,_,_,U5,hq,cu5⟩:=scu5;simp only [List.cons.injEq,and_true] at hq;obtain ⟨rfl,rfl,rfl,rfl⟩:=hq;rw [g3c] at cx;have b1:=cx.snpR (n:=35) (N:=N5);have b2:=cx.snpN (n:=35) (N:=N5);have b3:=cx.snpD (n:=35) (N:=N5);have b4:=cx.snpG (n:=35) (N:=N5);have f1:=cu5.snpR (n:=35) (N:=N5);have f2:=cu5.snpN (n:=35) (N:=N5);have f3:=cu5.snpD (n:=35) (N:=N5);have f4:=cu5.snpG (n:=35) (N:=N5);simp only [Prg.e] at hr1 hr4;rw [Xf.ce] at keq;have kt:((frs G).take n).map c8=((frs G).map c8).take n:=QBa;rw [kt] at hr1;have c1:(0:Int)<=(n:Int)/\(n:Int)<=((frs G).length:Int):=by omega
 have c2:(0:Int)<=((frs (G.take k)).length:Int)/\((frs (G.take k)).length:Int)<=((frs G).length:Int):=by omega
 have hw:=qal k (by omega);have w8:((frs G).map c8).take (frs (G.take k)).length=(frs (G.take k)).map c8:=by rw [<- QBa,qvd]
 have s1:=fun h=>qxs h 1 (frs (G.take k))
 have hed2:∀h:k<(eds G).length,(eds G)[k]=((frs (G.take k)).length:Int):=fun h=>(Qm.1 hed).2
 have hdec:∀n:Nat,((n:Int)=(n:Int))=True:=fun n=>eq_self _
 have c3:(k:Int)<(G.length:Int)+1:=by omega
 have c4:k<G.length+1:=by omega
 generalize frs (G.take k++[[]])=F3 at*;generalize frs (G.take k)=F1 at*;simp [c_8_k2,e3,e9,e10,e15,e16,e17,c1,c2,c3,c4,hr1,hed,hed2,cIe,kl1,hu,hkE,hr2,hs2,hEk,keq,a1,a2,a3,a4,d1,d2,d3,d4,kb2,w8,hs1,hao,qafw,s1,-qo2,qgy,hr3,kb3,hr4,kb4,kl4,hr5,hs4s,hs5,b1,b2,b3,b4,f1,f2,f3,f4,hw,qng]
theorem qaig (x:Int):0<=IntKind.wrap .u64 x/\IntKind.wrap .u64 x<18446744073709551616:=by
 simp only [IntKind.wrap,IntKind.bits,IntKind.signed];simp;omega
theorem rc_k3 (p:Prg) (op:p.Ok qaz) (hc:(pre p.control).length<2^40 - 1) (z:(prgD p).1=0) {L G:List (List Xc)} (hL:L.length<=12) (hl:∀l∈L,∀o∈l,OpS o) {R:AV} {s T:Nat} {Es:List (List AV)} {O:List (Nat×AO)} {N:Nat} {cut:Int} {e:Env}
  (H:RcH p L G R s T Es O N L.length) (E:RcE p L G s T cut e):
  go Φ (finP [.tmp 6]) [.c c_8_k3] .normal ⟨e,⟨O,N⟩⟩=some (.val (.bool true)):=by
 have e2:=E.e2;have e3:=E.e3;have e7:=E.e7;have e9:=E.e9;have e10:=E.e10;have hbs:(frs G).length<=300008*12:=by
  have:=H.fS.b;rw [qiy] at this;simp only [show (lg0 p).b=[] from rfl,QAj] at this;omega
 have gl:=H.gl;have kb:=qiv H.tail (by rw [qiy];simp only [show (lg0 p).b=[] from rfl,QAj];omega) H.m;rw [qiy] at kb;simp only [show (lg0 p).b=[] from rfl,QAj] at kb;obtain ⟨u0,u1⟩:=qaig cut;obtain ⟨n,hn⟩:∃n:Nat,(IntKind.wrap .u64 cut).tmod ((frs G).length+1:Int)=n:=by
  refine ⟨((IntKind.wrap .u64 cut).tmod ((frs G).length+1:Int)).toNat,?_⟩;rw [QCm];exact Int.tmod_nonneg _ u0
 have hnl:n<=(frs G).length:=by
  have:(IntKind.wrap .u64 cut).tmod ((frs G).length+1:Int)<((frs G).length+1:Int):=Int.tmod_lt_of_pos _ (by omega);omega
 have w1:IntKind.wrap .i64 (((frs G).length:Int)+1)=((frs G).length:Int)+1:=qbb (by omega) (by omega);have w2:IntKind.wrap .u64 (((frs G).length:Int)+1)=((frs G).length:Int)+1:=qnh (by omega);have w3:IntKind.wrap .i64 (n:Int)=(n:Int):=qbb (by omega) (by omega);have w4:IntKind.wrap .i64 ((G.length:Int)+1 - 1)=(G.length:Int):=(qbb (by omega) (by omega)).trans (by omega);have w4':IntKind.wrap .i64 (G.length:Int)=(G.length:Int):=qbb (by omega) (by omega);have hed:=qmy (G:=G) (i:=G.length) (Qb _);rw [Qo (Qb _)] at hed;have hed2:∀h:G.length<(eds G).length,(eds G)[G.length]=((frs G).length:Int):=fun h=>(Qm.1 hed).2
 have H1:RcH p L G R s T Es O (N+1) L.length:={ H with tail:=H.tail.mono (by omega) };have k2:=fun e (E:RkE p G s T n (kOf G n) e)=>rc_k2 p op hc z hL hl H1 hnl E
 have hz:¬((frs G).length:Int)+1=0:=by omega
 have c0:(G.length:Int)<(G.length:Int)+1:=by omega
 generalize hX:some (Rt.val (.bool true))=X at k2 ⊢;simp [c_8_k3,e2,e7,e9,kb,qgy,w1,w2,w3,w4,w4',hed,hed2,cIe,hn,hz,c0];have hK:=qt7 G n;refine qdt (kOf G n) (fun i e h=>h=⟨O,N+1⟩/\RkE p G s T n i e) (fun _=>X) ?_ ?_ 0 _ _ (Qc _) ⟨rfl,⟨by simp [e3],by simp [e9],by simp [e10],by simp,by simp,by simp⟩⟩
 ·rintro i e h K' hi hK' ⟨rfl,E'⟩ ih;have f3:=E'.e3;have f9:=E'.e9;have f10:=E'.e10;have f15:=E'.e15;have f16:=E'.e16;have f17:=E'.e17;have hw:=qal i (by omega);have hin:=qaa8 G n (i+1) (by omega);have hed:=qmy (G:=G) (i:=i+1) (by omega);have hed2:∀h:i+1<(eds G).length,(eds G)[i+1]=((frs (G.take (i+1))).length:Int):=fun h=>(Qm.1 hed).2
  have c1:(i:Int)<(G.length:Int):=by omega
  have c2:i<G.length:=by omega
  have c3:((frs (G.take (i+1))).length:Int)<=(n:Int):=by omega
  have c4:(0:Int)<=(i:Int)+1:=by omega
  simp [c_8_l1,f9,f16,f17,hw,qgy,c1,c2,hed,hed2,cIe,c3,hin,c4];exact ih _ _ ⟨rfl,⟨by simp [f3],by simp [f9],by simp [f10],by simp [f15],by simp [f16],by simp⟩⟩
 ·rintro e h K' hK' ⟨rfl,E'⟩;obtain ⟨i,hi⟩:∃i,kOf G n=i:=⟨_,rfl⟩;have f3:=E'.e3;have f9:=E'.e9;have f10:=E'.e10;have f15:=E'.e15;have f16:=E'.e16;have f17:=E'.e17;have hout:=qww G n;rw [hi] at f17 hout hK;have hw:=qal i (by omega);have c4:(0:Int)<=(i:Int)+1:=by omega
  by_cases q:i<G.length
  ·have hed:=qmy (G:=G) (i:=i+1) (by omega);have hed2:∀h:i+1<(eds G).length,(eds G)[i+1]=((frs (G.take (i+1))).length:Int):=fun h=>(Qm.1 hed).2
   have c1:(i:Int)<(G.length:Int):=by omega
   have c3:¬((frs (G.take (i+1))).length:Int)<=(n:Int):=by have:=hout q;omega
   have c3':¬(frs (G.take (i+1))).length<=n:=by have:=hout q;omega
   simp [c_8_l1,f9,f16,f17,hw,qgy,c1,q,hed,hed2,cIe,c3,c3',c4,hK'];exact k2 _ ⟨by simp [f3],by simp [f9],by simp [f10],by simp [f15],by simp [f16],by simp [f17,hi]⟩
  ·have c1:¬(i:Int)<(G.length:Int):=by omega
   simp [c_8_l1,f9,f16,f17,hw,qgy,c1,q,cIe,hK'];exact k2 _ ⟨by simp [f3],by simp [f9],by simp [f10],by simp [f15],by simp [f16],by simp [f17,hi]⟩
theorem qlu (p:Prg) (L:List (List Xc)) (cut:Int) (op:p.Ok qaz) (oL:okL qaz (okL qaz (Xc.Ok qaz)) L) (_oc:okI qaz cut) (hc:(pre p.control).length<2^40 - 1):
  qad Φ f_8 [.agg (Prg.c p),.slice 1 (L.map (cS 9 Xc.c)),.int .i64 cut]=some (.val (.bool true)):=by
 obtain ⟨oL',oo⟩:=oL;have f:=qfh op;have e26:=qd6;have hl:∀l∈L,∀o∈l,OpS o:=fun l hl o ho=>qai2 ((oo l hl).2 o ho)
 obtain ⟨b,hb,hb2⟩:=qalu p f L (by omega) (fun l hl=>by have:=(oo l hl).1;omega);rw [qaa (fn:=c_8) rfl rfl];by_cases z:(prgD p).1=0
 rotate_left
 ·have k1:=qabg p f hc z [] 0 rfl;simp only [Prg.e,QAj] at hb k1;cases b with
  | true=>simp [c_8,Prg.e,hb,k1,z,qng]
  | false=>simp [c_8,Prg.e,hb,k1,z,qng]
 have k1:=qud p op hc z (Tail.nil 0);cases b with
 | true=>
  simp only [Prg.e,QAj] at hb k1;simp [c_8,Prg.e,hb,k1,qng]
 | false=>
 obtain ⟨_,h12,_⟩:=hb2 rfl;have S0:=lg0_s op z 0;obtain ⟨O,hO⟩:∃O,[(0,AO.row 9 [Prg.c p]),(1,AO.row 16 [qdr p (qbl p) (.Xu 1 []) 0]),(2,AO.tok 1 0)]=O:=⟨_,rfl⟩;have hT:Tail O 3:=by rw [<- hO];simp [qa1,qcg]
 have m:LogM O 1 (.Xu 1 []) p (lg0 p):=⟨by rw [<- hO];simp [lg0],.inl ⟨rfl,rfl⟩⟩;obtain ⟨w1,w2,w3,w4,V,O2,N2,hr2,cm,hown,hk2,hT2,hN2⟩:=qh6 p op hc S0.v S0.s hT m;have hO2:look 2 O=some (.tok 1 0):=by rw [<- hO];simp
 have t2:=hk2.lk hT hO2 (by intro h;unfold Rs at h;rw [hO2] at h;cases h);have r2:=hk2.lk hT m.row (by intro h;unfold Rs at h;rw [m.row] at h;cases h);simp only [Prg.e,QAj] at hb k1;generalize hX:some (Rt.val (.bool true))=X;simp only [Prg.e] at hO;have t20:=hT2 N2 (Qb _);have t21:∀k,look (N2+k) O2=none:=fun k=>hT2 (N2+k) (by omega)
 have l2:=hT2.lt t2;have z1:¬2=N2:=by omega
 have z2:¬2=N2+1:=by omega
 have z3:¬N2=2:=by omega
 have z4:¬N2+1=2:=by omega
 simp [c_8,Prg.e,hb,k1];rw [hO];simp [hr2,t20,t21,qag,z1,z2,z3,z4,t2];obtain ⟨O3,hO3⟩:∃O3,setl 2 (AO.tok 1 1) (O2++[(N2,AO.row 4 [[w1,w2,w3,w4]]),(N2+1,AO.row 4 [[w1,w2,w3,w4]])])=O3:=⟨_,rfl⟩;have g3:∀j x,look j O2=some x->j≠2->look j O3=some x:=by
  intro j x hj hs;rw [<- hO3,qab,QA hs,qag,hj];rfl
 have r2:LogM O2 1 (.Xu 1 []) p (lg0 p):=m.fr (r2.trans m.row.symm) (fun j hj=>by simp [tid] at hj);have m3:LogM O3 1 (.Xu 1 []) p (lg0 p):=r2.fr ((g3 1 _ r2.row (by decide)).trans r2.row.symm) (fun j hj=>by simp [tid] at hj);have old:Old O2 O3:=by
  intro j z es hj hz;refine (g3 j _ hj ?_).trans hj.symm;rintro rfl;rw [t2] at hj;cases hj
 have st:StL O3 [[w1,w2,w3,w4]] (sts p []):=by
  have:=StL.app (O:=O3) (Es:=[]) (cs:=[]) ⟨rfl,fun i e c h=>by simp at h⟩ (StC.fr ⟨w1,w2,w3,w4,V,rfl,cm⟩ old);exact this
 rw [hO3,<- hX];refine qaha p op hc L cut h12 hl (fun G R s T Es O N e H E=>rc_k3 p op hc z h12 hl H E) (G0:=[]) (R0:= .Xu 1 []) (s0:=N2+1) (T0:=2) (Es0:=[[w1,w2,w3,w4]]) ⟨?_,trivial,by simp,S0,by simp,m3,?_,st,?_,by simp [tid]⟩ ⟨by simp,by simp,by simp [Prg.e],by simp,by simp [eds,frs,cIe],by simp⟩ (by simp)
 ·rw [<- hO3];exact qai (Tail_append_iff.2 ⟨hT2.mono (by omega),by simp [qa1,qcg];omega⟩)
 ·rw [<- hO3,qab,QA (by omega),qag,t21 1];simp
 ·rw [<- hO3,qab,QAa rfl,qag,t2];simp
end Go.Av
