/-
 checksum: numbers of four bytes, the hash.
-/
import Derived.Test.YtjdbnnnakpacjaaGreatJ9
set_option linter.unusedVariables false
set_option linter.unusedSimpArgs false
set_option linter.constructorNameAsVariable false
namespace Go.Av
set_option maxRecDepth 4000
theorem qyq (v:Int) (k:Nat) (h:k<=32):ishr .u32 v (k:Int)=v.fdiv (2^k):=by
 unfold ishr;rw [show min (k:Int).toNat (IntKind.bits .u32)=k by simp [IntKind.bits];omega]
theorem qaj3 (v:Int):ishr .u32 v 8=v / 256:=by
 rw [show (8:Int)=((8:Nat):Int) by rfl,qyq v 8 (by decide)];rw [QBe _ (by decide)];rfl
theorem qage (v:Int):ishr .u32 v 16=v / 65536:=by
 rw [show (16:Int)=((16:Nat):Int) by rfl,qyq v 16 (by decide)];rw [QBe _ (by decide)];rfl
theorem qagf (v:Int):ishr .u32 v 24=v / 16777216:=by
 rw [show (24:Int)=((24:Nat):Int) by rfl,qyq v 24 (by decide)];rw [QBe _ (by decide)];rfl
theorem kword (v:Int) (O:List (Nat×AO)) (N:Nat):qah Φ f_125 [.int .u32 v] ⟨O,N⟩=some (.val (.Xu 1 ((be4 v).map c8)),⟨O,N⟩):=by
 rw [qau (fn:=c_125) rfl rfl];simp [c_125,qaj3,qage,qagf,wr8u,be4,c8e]
theorem qwx (b:List Int) (hb:okB b) (hl:4<=b.length) (h40:b.length<2^40):qad Φ f_60 [.slice 1 (b.map c8)]=some (.val (.int .u32 (num 4 b))):=by
 rw [qaa (fn:=c_60) rfl rfl];have q2:¬((b.length:Int)<4):=by omega
 have q3:(4:Int)<=b.length:=by omega
 have i0:0<b.length:=by omega
 have h0:=hb _ (Qd i0);have w0:IntKind.wrap .u32 b[0]=b[0]:=qcp (by omega);have i1:1<b.length:=by omega
 have h1:=hb _ (Qd i1);have w1:IntKind.wrap .u32 b[1]=b[1]:=qcp (by omega);have i2:2<b.length:=by omega
 have h2:=hb _ (Qd i2);have w2:IntKind.wrap .u32 b[2]=b[2]:=qcp (by omega);have i3:3<b.length:=by omega
 have h3:=hb _ (Qd i3);have w3:IntKind.wrap .u32 b[3]=b[3]:=qcp (by omega);have k0:IntKind.wrap .i64 0=0:=by decide
 have k1:IntKind.wrap .i64 1=1:=by decide
 have k2:IntKind.wrap .i64 2=2:=by decide
 have k3:IntKind.wrap .i64 3=3:=by decide
 have k4:IntKind.wrap .i64 4=4:=by decide
 simp [c_60,q2,q3,hl,quf b i3];rw [qar];simp [c_60_l0,c8e,k0,k1,k2,k3,k4,i0,w0,i1,w1,i2,w2,i3,w3,hl];rw [qar];simp [c_60_l0,c8e,k0,k1,k2,k3,k4,i0,w0,i1,w1,i2,w2,i3,w3,hl];rw [qar];simp [c_60_l0,c8e,k0,k1,k2,k3,k4,i0,w0,i1,w1,i2,w2,i3,w3,hl];rw [qar];simp [c_60_l0,c8e,k0,k1,k2,k3,k4,i0,w0,i1,w1,i2,w2,i3,w3,hl];rw [qar];simp [c_60_l0,c_60_k1,q3,hl];have x0:ior .u32 (ishl .u32 0 8) b[0]=b[0]:=by rw [qgo (by omega) (by omega)];omega
 have x1:ior .u32 (ishl .u32 (b[0]) 8) b[1]=256*(b[0])+b[1]:=qgo (by omega) (by omega);have x2:ior .u32 (ishl .u32 (256*(b[0])+b[1]) 8) b[2]=256*(256*(b[0])+b[1])+b[2]:=qgo (by omega) (by omega);have x3:ior .u32 (ishl .u32 (256*(256*(b[0])+b[1])+b[2]) 8) b[3]=256*(256*(256*(b[0])+b[1])+b[2])+b[3]:=qgo (by omega) (by omega);have fin:ior .u32 (ishl .u32 (ior .u32 (ishl .u32 (ior .u32 (ishl .u32 (ior .u32 (ishl .u32 0 8) b[0]) 8) b[1]) 8) b[2]) 8) b[3]=256*(256*(256*(b[0])+b[1])+b[2])+b[3]:=by rw [x0,x1,x2,x3]
 exact fin
theorem qr2 {t:Nat} {y:AO}:∀{O:List (Nat×AO)},look t O=some y->setl t y O=O
 | [],_=>by simp
 | (u,w)::r,h=>by
  by_cases hu:u=t
  ·subst hu;simp at h;subst h;simp
  ·simp [hu] at h;simp [hu,qr2 h]
theorem kadd (h c k:Int) (O:List (Nat×AO)) (N t:Nat) (hc:0<=c/\c<=255) (ht:look t O=some (.row 2 [[.int .u32 h,.int .i64 k]])):
  qah Φ f_195 [.ptr t 2 0 0,.int .u8 c] ⟨O,N⟩=some (.val (.tup []),⟨setl t (.row 2 [[.int .u32 (fnv1 h c),.int .i64 k]]) O,N⟩):=by
 rw [qau (fn:=c_195) rfl rfl];have w:IntKind.wrap .u32 c=c:=qcp (by omega);have e:IntKind.wrap .u32 (ixor .u32 h c*16777619)=fnv1 h c:=by
  simp [IntKind.wrap,IntKind.bits,IntKind.signed,fnv1]
 simp [c_195,ht,w,e]
theorem qac5 (h:Int) (a b:List Int):fnvL h (a++b)=fnvL (fnvL h a) b:=by simp [fnvL]
theorem qaav (h:Int) {b:List Int} {i:Nat} (hi:i<b.length):fnvL h (b.take (i+1))=fnv1 (fnvL h (b.take i)) b[i]:=by
 rw [Qh hi,qac5];rfl
theorem qaj8 (b:List Int) (hb:okB b) (h40:b.length<2^40) (h:Int) (O:List (Nat×AO)) (N t:Nat) (ht:look t O=some (.row 2 [[.int .u32 h,.int .i64 0]])):
  qah Φ f_126 [.ptr t 2 0 0,.slice 1 (b.map c8)] ⟨O,N⟩=some (.val (.tup []),⟨setl t (.row 2 [[.int .u32 (fnvL h b),.int .i64 b.length]]) O,N⟩):=by
 rw [qau (fn:=c_126) rfl rfl];simp [c_126,ht];refine qdt b.length (fun i e hh=>hh=⟨setl t (.row 2 [[.int .u32 (fnvL h (b.take i)),.int .i64 0]]) O,N⟩/\look 0 e=some (.ptr t 2 0 0)/\look 1 e=some (.slice 1 (b.map c8))/\look 4 e=some (.func (.func f_195) [.ptr t 2 0 0] [])/\look 11 e=some (.slice 1 (b.map c8))/\look 12 e=some (.int .i64 b.length)/\look 13 e=some (.int .i64 i))
  (fun _=>some (Rt.val (.tup []),(⟨setl t (.row 2 [[.int .u32 (fnvL h b),.int .i64 b.length]]) O,N⟩:AH))) ?_ ?_ 0 _ _ (Qc _) ?_
 ·rintro i e hh L hi hL ⟨rfl,h0,h1,h4,h11,h12,h13⟩ ih;have hw:=qal i (by omega);have hx:=hb _ (Qd hi);have ka:=kadd (fnvL h (b.take i)) b[i] 0 (setl t (.row 2 [[.int .u32 (fnvL h (b.take i)),.int .i64 0]]) O) N t hx (by rw [qa0 ht]);rw [qdg,<- qaav h hi] at ka;simp [c_126_l0,h4,h11,h12,h13,hi,hw,c8e,ka];exact ih _ _ ⟨rfl,by simp [h0],by simp [h1],by simp [h4],by simp [h11],by simp [h12],by simp⟩
 ·rintro e hh L hL ⟨rfl,h0,h1,h4,h11,h12,h13⟩;have hw:IntKind.wrap .i64 (b.length:Int)=(b.length:Int):=qbb (by omega) (by omega);have hl:look t (setl t (.row 2 [[.int .u32 (fnvL h b),.int .i64 0]]) O)=some (.row 2 [[.int .u32 (fnvL h b),.int .i64 0]]):=qa0 ht;rw [Qo (Qb _)];simp [c_126_l0,c_126_k1,h0,h1,h12,h13,hL,hl,hw,qdg]
 ·exact ⟨by simp [fnvL];exact (qr2 ht).symm,by simp,by simp,by simp,by simp,by simp,by simp⟩
theorem kfnv (b:List Int) (hb:okB b) (h40:b.length<2^40):qad Φ f_61 [.slice 1 (b.map c8)]=some (.val (.int .u32 (fnv b))):=by
 rw [qaa (fn:=c_61) rfl rfl];have kw:=qaj8 b hb h40 2166136261 [(0,.row 2 [[.int .u32 2166136261,.int .i64 0]])] 1 0 (by simp);simp [c_61,kw,fnv]
theorem al8 (b:List Int):qc7 1 (b.map c8)=true:=qc8 1 c8 b fun x=>by simp [c8]
theorem qyv (a b:List Int):a.map c8++b.map c8=(a++b).map c8:=by simp
theorem qaj7 (b:List Int) (hb:okB b) (hl:b.length<=1000000):qad Φ f_59 [.slice 1 (b.map c8)]=some (.val (.slice 1 ((frB b).map c8))):=by
 rw [qaa (fn:=c_59) rfl rfl];have hw:IntKind.wrap .u32 (b.length:Int)=(b.length:Int):=qcp (by omega);have k1:=fun O N=>kword (b.length:Int) O N
 have ho:okB (be4 b.length++b):=qfm (qf6 _) hb;have k2:=kfnv (be4 b.length++b) ho (by simp [qem];omega);have k3:=fun O N=>kword (fnv (be4 b.length++b)) O N
 have a1:=al8 b;have a2:=al8 (be4 (fnv (be4 b.length++b)));have n4:∀v,(be4 v).length=4:=qem;have nF:=qem (fnv (be4 b.length++b));have z1:∀v,¬(be4 v).map c8=[]:=fun v=>by simp [be4]
 have hR:(frB b).map c8=((be4 b.length).map c8++b.map c8)++(be4 (fnv (be4 b.length++b))).map c8:=by simp [frB]
 rw [hR];rw [<- qyv] at k2;have m1:(4+b.length)<=70368744177664:=by omega
 have m2:(4+b.length+4)<=70368744177664:=by omega
 generalize be4 (fnv (be4 b.length++b))=F at*;generalize fnv (be4 b.length++b)=f at*;simp [c_59,hw,k1,k2,k3,a1,a2,n4,nF,z1,m1,m2]
theorem qnh {x:Int} (h:0<=x/\x<18446744073709551616):IntKind.wrap .u64 x=x:=by
 simp [IntKind.wrap,IntKind.bits,IntKind.signed];omega
theorem qai7 (l:List Int) (h:l.length<2^40):qad Φ f_62 [.slice 1 (l.map c8)]=some (.val (.slice 1 (l.map c8))):=
 qes (bytes:=1) rfl _ (qc8 1 c8 l fun x=>by simp [c8]) (by rw [QAb];omega)
theorem qadf (b:List Int) (hb:okB b) (h40:b.length<2^40):qad Φ f_23 [.slice 1 (b.map c8)]=some (.val (.tup [.slice 1 ((unfB b).1.map c8),.int .i64 (unfB b).2.1,.int .i64 (unfB b).2.2])):=by
 rw [qaa (fn:=c_23) rfl rfl];unfold unfB;by_cases q:b.length<8
 ·have q':(b.length:Int)<8:=by omega
  simp [c_23,q,q']
 have q':¬(b.length:Int)<8:=by omega
 have k1:=qwx b hb (by omega) h40;have hr:=qug hb (by omega);have w0:IntKind.wrap .u64 (b.length:Int)=(b.length:Int):=qnh (by omega);have w1:IntKind.wrap .u64 ((b.length:Int) - 8)=(b.length:Int) - 8:=qnh (by omega);rw [QA q];obtain ⟨n,hn⟩:∃n:Nat,num 4 b=n:=⟨(num 4 b).toNat,by omega⟩;rw [hn] at k1 hr ⊢;have w2:IntKind.wrap .u64 (n:Int)=(n:Int):=qnh (by omega);by_cases q2:(b.length:Int) - 8<(n:Int)
 ·rw [QAa q2];simp [c_23,q',k1,w0,w1,w2,q2]
 rw [QA q2];rw [QCd];have w3:IntKind.wrap .i64 (n:Int)=(n:Int):=qbb (by omega) (by omega);have w4:IntKind.wrap .i64 (4+(n:Int))=4+(n:Int):=qbb (by omega) (by omega);have w5:IntKind.wrap .i64 (4+(n:Int)+4)=(n:Int)+8:=(qbb (by omega) (by omega)).trans (by omega);have ht:okB (b.take (4+n)):=fun x hx=>hb x (Qu hx)
 have hd:okB (b.drop (4+n)):=qoc hb _;have k2:=kfnv (b.take (4+n)) ht (by simp;omega);have k3:=qwx (b.drop (4+n)) hd (by simp;omega) (by simp;omega);have k4:=qai7 ((b.drop 4).take n) (by simp;omega);rw [QBa] at k2;rw [List.map_drop] at k3;rw [QBa,List.map_drop] at k4;have c1:(0:Int)<=4+(n:Int)/\4+(n:Int)<=(b.length:Int):=by omega
 have c4:(4:Int)<=4+(n:Int):=by omega
 have t4:(4+(n:Int)).toNat=4+n:=by omega
 have x3:4+n - 4=n:=by omega
 have x4:((b.map c8).drop (4+n)).take (b.length - (4+n))=(b.map c8).drop (4+n):=Qo (by simp);by_cases z:fnv (b.take (4+n))=num 4 (b.drop (4+n))
 ·rw [QA (by simpa using z)];rw [z] at k2;generalize num 4 (b.drop (4+n))=F at*;simp [c_23,q',k1,w0,w1,w2,w3,w4,w5,q2,k2,k3,k4,c1,c4,t4,x3,x4]
 ·rw [QAa (by simpa using z)];generalize fnv (b.take (4+n))=E at*;generalize num 4 (b.drop (4+n))=F at*;simp [c_23,q',k1,w0,w1,w2,w3,w4,q2,k2,k3,c1,c4,t4,x4,z]
def lg0 (p:Prg):LgV:=⟨qbl p,[],0⟩
theorem qabi {o:Xc} (h:OpS o):okO o:=by
 have c:∀v:Int,ok32 0 v->0<=v/\v<=4294967295:=fun v h=>by unfold ok32 at h;omega
 exact ⟨fun k hk=>⟨c _ (h.e.ks k hk).1,c _ (h.e.ks k hk).2⟩,fun v hv=>c _ (h.e.ar v hv),fun v hv=>c _ (h.c.ar v hv)⟩
theorem qi9 (l:List Xc):(encB l).length<=300000:=by
 by_cases q:l.length<=64/\∀o∈l,opE o=true
 ·exact qtt q.2 q.1
 ·unfold encB;rw [QA q];simp
def qdr (p:Prg) (c:Xf) (R:AV) (n:Nat):List AV:= .bool true::(Prg.c p++(Xf.c c++[R,.int .i64 n]))
theorem qc4 (p:Prg) (c:Xf) (R:AV) (n:Nat):qdr p c R n=[.bool true,.str p.name,.slice 2 (p.Xp.map Xj.c),.slice 2 (p.Xo.map Fld.c),.slice 3 (p.Xm.map Xh.c),.slice 3 (p.actions.map Action.c),.slice 6 (p.Xn.map Tbl.c),.slice 7 (p.states.map Xd.c),.slice 5 (p.control.map Xa.c),.slice 1 (p.Xs.map cI),
  .slice 1 (c.rows.map (cS 5 Rw.c)),.slice 1 (c.Xr.map cI),.slice 2 (c.Xq.map Xb.c),.slice 1 (c.Xm.map (cS 1 c32)),R,.int .i64 n]:=by
 simp [qdr,Prg.e,Xf.ce]
def tid:AV->Option Nat
 | .app _ _ T=>some T
 | _=>none
structure LogM (O:List (Nat×AO)) (t:Nat) (R:AV) (p:Prg) (g:LgV):Prop where
 row:look t O=some (.row 16 [qdr p g.c R g.n])
 rcd:(R= .Xu 1 []/\g.b=[])\/∃T,R= .app 1 (g.b.map c8) T/\look T O=some (.tok 1 g.b.length)
theorem LogM.fr {O O':List (Nat×AO)} {t:Nat} {R:AV} {p:Prg} {g:LgV} (m:LogM O t R p g) (h:look t O'=look t O) (h2:∀j,tid R=some j->look j O'=look j O):LogM O' t R p g:=by
 refine ⟨by rw [h];exact m.row,?_⟩;rcases m.rcd with h3 | ⟨T,rfl,h4⟩
 ·exact .inl h3
 ·exact .inr ⟨T,rfl,by rw [h2 T rfl];exact h4⟩
theorem LogM.src {O:List (Nat×AO)} {t:Nat} {R:AV} {p:Prg} {g:LgV} (m:LogM O t R p g) (H:AH):qc0 H R=some (g.b.map c8)/\lenOf R=some g.b.length/\snap 38 H R=some (.slice 1 (g.b.map c8)):=by
 rcases m.rcd with ⟨rfl,h⟩ | ⟨T,rfl,h⟩
 ·rw [h];exact ⟨rfl,rfl,by simp⟩
 ·exact ⟨rfl,by simp,by simp⟩
theorem qud (p:Prg) (op:p.Ok qaz) (hc:(pre p.control).length<2^40 - 1) (he:(prgD p).1=0) {O:List (Nat×AO)} {n:Nat} (hT:Tail O n):
  qah Φ f_17 [.agg (Prg.c p)] ⟨O,n⟩=some (.val (.tup [.ptr (n+1) 16 0 0,.int .i64 0]),⟨O++[(n,.row 9 [Prg.c p]),(n+1,.row 16 [qdr p (qbl p) (.Xu 1 []) 0])],n+2⟩):=by
 have f:=qfh op;rw [qau (fn:=c_17) rfl rfl];have t0:=hT n (Qb _);have t1:=hT (n+1) (by omega);have h:=qi3 p f hc;have sT:=qaai op;have h2:=qacy p f fun t ht=>(sT.ds t.dflt (by simp [qbl];exact ⟨t,ht,rfl⟩)).1
 have h3:=qrt p op;simp only [Prg.e,dgC,Xf.ce] at h h2 h3;simp [c_17,Prg.e,qc4,t0,t1,h,h2,h3,he]
theorem qabg (p:Prg) (f:PrgS p) (hc:(pre p.control).length<2^40 - 1) (he:¬(prgD p).1=0) (O:List (Nat×AO)) (n:Nat) (hO:look n O=none):
  qah Φ f_17 [.agg (Prg.c p)] ⟨O,n⟩=some (.val (.tup [.nilptr,.int .i64 (prgD p).1]),⟨O++[(n,.row 9 [Prg.c p])],n+1⟩):=by
 rw [qau (fn:=c_17) rfl rfl];have h:=qi3 p f hc;simp only [Prg.e,dgC] at h;simp [c_17,Prg.e,hO,h,he]
theorem qabb {O:List (Nat×AO)} {N t:Nat} {R:AV} {p:Prg} {g:LgV} (m:LogM O t R p g):qah Φ f_22 [.ptr t 16 0 0] ⟨O,N⟩=some (.val (.int .i64 g.n),⟨O,N⟩):=by
 rw [qau (fn:=c_22) rfl rfl];have h:=m.row;rw [qc4] at h;simp [c_22,h]
theorem qiv {O:List (Nat×AO)} {N t:Nat} {R:AV} {p:Prg} {g:LgV} (hT:Tail O N) (hb:g.b.length<2^40) (m:LogM O t R p g):
  qah Φ f_21 [.ptr t 16 0 0] ⟨O,N⟩=some (.val (.slice 1 (g.b.map c8)),⟨O,N+1⟩):=by
 rw [qau (fn:=c_21) rfl rfl];have h:=m.row;rw [qc4] at h;have t0:=hT N (Qb _);have k1:g.b.length<4611686018427387904/\(g.b.length:Int)<=140737488355328:=by omega
 have hO:Tail (O++[(N,AO.row 1 (g.b.map c8))]) (N+1):=hT.app1 (Qb N);have fz:qfe ⟨O++[(N,AO.row 1 (g.b.map c8))],N+1⟩ N 1 0 g.b.length=some (.slice 1 (g.b.map c8)):=by
  have hg:AH.get ⟨O++[(N,AO.row 1 (g.b.map c8))],N+1⟩ N=some (.row 1 (g.b.map c8)):=by simp [AH.get,t0]
  have hb:anyL (bor qaf) (g.b.map c8).flatten=false:=by
   have:∀l:List Int,anyL (bor qaf) (l.map c8).flatten=false:=by
    intro l
    induction l with
    | nil=>simp
    | cons x l ih=>simp [c8];exact ih
   exact this _
  have hs:mapO (mapO (snap qaf ⟨O++[(N,AO.row 1 (g.b.map c8))],N+1⟩)) (g.b.map c8)=some (g.b.map c8):=qfl (g:=c8) (fun x=>by simp [c8]) g.b;have ht:((g.b.map c8).drop 0).take g.b.length=g.b.map c8:=Qo (by simp);unfold qfe;rw [hg];simp only;rw [QAa ⟨trivial,by simp,hb⟩,ht,hs];rfl
 rcases m.rcd with ⟨rfl,hz⟩ | ⟨T,rfl,hz⟩
 ·rw [hz] at k1 hO fz ⊢;simp at fz;simp [c_21,h,t0,fz,qag]
 ·simp [c_21,h,t0,k1,fz,qag]
def jcA1:Xv:=match c_20.code with | .seq a _=>a | _=> .skip
def jcA2:Xv:=match c_20.code with | .seq _ (.seq a _)=>a | _=> .skip
def jcA3:Xv:=match c_20.code with | .seq _ (.seq _ (.seq a _))=>a | _=> .skip
def jcB:Xv:=match c_20.code with | .seq _ (.seq _ (.seq _ (.dfr _ _ b)))=>b | _=> .skip
def jcO:List Xw:=[⟨some 21,none,.mkfunc (.func f_58) [] [.t 6,.t 7,.t 2]⟩]
theorem qagi:c_20.code= .seq jcA1 (.seq jcA2 (.seq jcA3 (.dfr jcO 21 jcB))):=rfl
def OpV (v:AV) (l:List Xc):Prop:=v= .slice 9 (l.map Xc.c)\/(v= .Xu 9 []/\l=[])
theorem OpV.snp {v:AV} {l:List Xc} (h:OpV v l) (n:Nat) (H:AH):snap (n+1) H v=some (.slice 9 (l.map Xc.c)):=by
 rcases h with rfl | ⟨rfl,rfl⟩<;>simp
theorem OpV.nb {v:AV} {l:List Xc} (h:OpV v l) (n:Nat):bor (n+1) v=false:=by
 rcases h with rfl | ⟨rfl,rfl⟩<;>simp
theorem jc1 {O:List (Nat×AO)} {N t:Nat} (hT:Tail O N) (w:AV):∃e,qa6 Φ jcA1 ⟨qbw 0 [.ptr t 16 0 0,w],⟨O,N⟩⟩=some (.normal,⟨e,⟨O++[(N,.row 1 [[.ptr t 16 0 0]])]++[(N+1,.row 1 [[.int .i64 0]])],N+2⟩⟩)/\look 1 e=some w/\look 2 e=some (.ptr N 1 0 0)/\look 6 e=some (.ptr (N+1) 1 0 0):=by
 have t0:=hT N (Qb _);have t1:=hT (N+1) (by omega);rw [qb4];simp [jcA1,c_20,t0,t1]
theorem jc2 {O:List (Nat×AO)} {N t b:Nat} {R:AV} {p:Prg} {g:LgV} {e:Env} (m:LogM O t R p g) (h2:look 2 e=some (.ptr b 1 0 0)) (hb:look b O=some (.row 1 [[.ptr t 16 0 0]])) {w x6:AV} (h1:look 1 e=some w) (h6:look 6 e=some x6):
  ∃e',qa6 Φ jcA2 ⟨e,⟨O,N⟩⟩=some (.normal,⟨e',⟨O,N⟩⟩)/\look 1 e'=some w/\look 2 e'=some (.ptr b 1 0 0)/\look 6 e'=some x6:=by
 have h:=m.row;rw [qc4] at h;rw [qb4];simp [jcA2,c_20,h,h1,h2,h6,hb]
theorem jc3 {O:List (Nat×AO)} {N t b:Nat} {R:AV} {p:Prg} {g:LgV} {e:Env} (hT:Tail O N) (m:LogM O t R p g) (h2:look 2 e=some (.ptr b 1 0 0)) (hb:look b O=some (.row 1 [[.ptr t 16 0 0]])) {w x6:AV} (h1:look 1 e=some w) (h6:look 6 e=some x6):
  ∃e',qa6 Φ jcA3 ⟨e,⟨O,N⟩⟩=some (.normal,⟨e',⟨O++[(N,.row 4 [Xf.c g.c])],N+1⟩⟩)/\look 1 e'=some w/\look 2 e'=some (.ptr b 1 0 0)/\look 6 e'=some x6/\look 7 e'=some (.ptr N 4 0 0):=by
 have h:=m.row;rw [qc4] at h;have t0:=hT N (Qb _);rw [qb4];simp [jcA3,c_20,h,h1,h2,h6,hb,t0,Xf.ce]
def qjg:Xf:=⟨[],[],[],[]⟩
section
variable (p:Prg) (op:p.Ok qaz) (hc:(pre p.control).length<2^40 - 1) (hp:p.Xn.length<2^40) {g:LgV} (s:CfgT g.c) {l:List Xc} (hl:∀o∈l,OpS o) {v:AV} (hv:OpV v l)
  {O:List (Nat×AO)} {N t b2 b6:Nat} {R:AV} (hT:Tail O N) (m:LogM O t R p g) {e:Env} (h1:look 1 e=some v) (h2:look 2 e=some (.ptr b2 1 0 0)) (h6:look 6 e=some (.ptr b6 1 0 0))
  (hb2:look b2 O=some (.row 1 [[.ptr t 16 0 0]])) (hb6:look b6 O=some (.row 1 [[.int .i64 0]])) (n6:b6≠b2)
include op hc hp s hl hv m h1 h2 h6 hb2 hb6 n6
theorem qagh {k x:Int} (hA:badA p g.c l=some (k,x)):
  ∃e' O',qa6 Φ jcB ⟨e,⟨O,N⟩⟩=some (.ret,⟨e',⟨O',N⟩⟩)/\look 4 e'=some (.Xu 1 [])/\look 5 e'=some (.int .i64 k)/\look 6 e'=some (.ptr b6 1 0 0)/\O'=setl b6 (.row 1 [[.int .i64 x]]) (setl b6 (.row 1 [[.int .i64 x]]) (setl t (.row 16 [qdr p qjg R g.n]) O)):=by
 have h:=m.row;rw [qc4] at h;have n1:b6≠t:=qan hb6 h (by simp);have n2:b2≠t:=qan hb2 h (by simp);have n3:=n1.symm;have n4:=n2.symm;have n5:=n6.symm;have hx:=qj3 hA;have k1:=qs2 p op hc hp s l hl;rw [show appA p g.c l= .tup [.agg noC,.slice 1 [],.int .i64 k,.int .i64 x] by simp only [appA,hA]] at k1;simp only [Prg.e,Xf.ce,noC] at k1;have sn:=hv.snp;have nb:=hv.nb;rw [qb4];simp [jcB,c_20,h,h1,h2,h6,hb2,hb6,sn,nb,k1,hx,qab,n1,n2,n3,n4,n5,n6,qc4,qjg];exact ⟨_,_,⟨rfl,rfl⟩,by simp,by simp,by simp [h6],rfl⟩
include hT in
theorem qaj4 (hA:badA p g.c l=none) (hn:g.n<2^40) (hb:g.b.length<2^40):
  ∃e' O' N' R',qa6 Φ jcB ⟨e,⟨O,N⟩⟩=some (.ret,⟨e',⟨O',N'⟩⟩)/\look 4 e'=some (.slice 1 (idsA p g.c l))/\look 5 e'=some (.int .i64 0)/\look 6 e'=some (.ptr b6 1 0 0)/\N<=N'/\Tail O' N'/\LogM O' t R' p (cmt p g l)/\(∀j,tid R'=some j->tid R=some j\/N<=j)/\Kp (fun j=>j=t\/j=b6\/tid R=some j\/Rs O j) N O O'/\look b6 O'=some (.row 1 [[.int .i64 0]]):=by
 have h:=m.row;rw [qc4] at h;have n1:b6≠t:=qan hb6 h (by simp);have n2:b2≠t:=qan hb2 h (by simp);have n3:=n1.symm;have n4:=n2.symm;have n5:=n6.symm;have k1:=qs2 p op hc hp s l hl;rw [show appA p g.c l= .tup [.agg (Xf.c (cfgN p g.c l l.length)),.slice 1 (idsA p g.c l),.int .i64 0,.int .i64 0] by simp only [appA,hA];rfl,qta] at k1;have k2:=qagg l fun o ho=>qabi (hl o ho)
 have k3:=qaj7 (encB l) (qtu l) (by have:=qi9 l;omega);have hw:IntKind.wrap .i64 ((g.n:Int)+1)=((g.n+1:Nat):Int):=qbb (by omega) (by omega);have a2:=al8 (frB (encB l));have nF:(frB (encB l)).length<=300008:=by rw [qg3];have:=qi9 l;omega
 have nF0:¬(frB (encB l)).map c8=[]:=by
  intro hh;have:=congrArg List.length hh;rw [QAb,qg3] at this;simp at this
 have m1:(frB (encB l)).length<=70368744177664:=by omega
 have m2:g.b.length+(frB (encB l)).length<=70368744177664:=by omega
 have sn:=hv.snp;have nb:=hv.nb;have hT':∀k,look (N+k) O=none:=fun k=>hT (N+k) (by omega)
 have l2:=hT.lt hb2;have l6:=hT.lt hb6;have lt:=hT.lt h;have q2:∀k,¬N+k=b2:=fun k=>by omega
 have q6:∀k,¬N+k=b6:=fun k=>by omega
 have qt:∀k,¬N+k=t:=fun k=>by omega
 have p2:∀k,¬b2=N+k:=fun k=>by omega
 have p6:∀k,¬b6=N+k:=fun k=>by omega
 have pt:∀k,¬t=N+k:=fun k=>by omega
 have r2:∀k,(b2 == N+k)=false:=fun k=>by simp;omega
 have rt:∀k,(t == N+k)=false:=fun k=>by simp;omega
 have hR:=m.rcd;simp only [cmt];generalize xoF p g.c l=d at*;generalize frB (encB l)=F at*;generalize idsA p g.c l=il at*;simp only [Prg.e,Xf.ce] at k1;rw [qb4];rcases hR with ⟨rfl,hz⟩ | ⟨T,rfl,hz⟩
 ·simp [jcB,c_20,h,h1,h2,h6,hb2,hb6,sn,nb,k1,k2,k3,hw,a2,nF0,m1,qab,n1,n2,n3,n4,n5,n6,qc4,hT',qag,q2,q6,qt,p2,p6,pt,r2,rt,qaw];refine ⟨_,_,_,⟨rfl,rfl,rfl⟩,by simp,by simp,by simp [h6],by omega,?_,.app 1 (F.map c8) (N+52),⟨?_,.inr ⟨N+52,by simp [hz],?_⟩⟩,?_,?_,?_⟩
  ·refine qai (qai (qdn (qai (Tail_append_iff.2 ⟨qai (qai (hT.mono (by omega))),?_⟩))));simp [qa1,qcg]
  ·simp [qab,qag,qaw,h,hb6,hT',n1,n3,p6,pt,q6,qt,qc4]
  ·simp [qab,qag,qaw,h,hb6,hT',n1,n3,p6,pt,q6,qt,hz]
  ·intro j hj;simp [tid] at hj;right;omega
  ·intro j hj hx;have j1:¬j=t:=fun h=>hx (.inl h)
   have j2:¬j=b6:=fun h=>hx (.inr (.inl h))
   have j3:¬look j O=some .res:=fun h=>hx (.inr (.inr (.inr h)))
   have j4:¬N+52=j:=by omega
   cases hlo:look j O with
   | none=>simp [qab,qag,qaw,j1,j2,j4,hlo]
   | some y=>
    have j5:¬y= .res:=fun hh=>j3 (by rw [hlo,hh])
    simp [qab,qag,qaw,j1,j2,j4,hlo,j5]
  ·simp [qab,qag,qaw,h,hb6,n1,n3]
 ·have u1:T≠t:=qan hz h (by simp);have u2:T≠b6:=qan hz hb6 (by simp);have u3:T≠b2:=qan hz hb2 (by simp);have u4:=u1.symm;have u5:=u2.symm;have u6:=u3.symm;have lT:=hT.lt hz;have qT:∀k,¬N+k=T:=fun k=>by omega
  have pT:∀k,¬T=N+k:=fun k=>by omega
  have rT:∀k,(T == N+k)=false:=fun k=>by simp;omega
  have r3:(b2 == T)=false:=by simpa using u6
  have r4:(t == T)=false:=by simpa using u4
  simp [jcB,c_20,h,h1,h2,h6,hb2,hb6,sn,nb,k1,k2,k3,hw,a2,nF0,m1,m2,qab,n1,n2,n3,n4,n5,n6,qc4,hT',qag,q2,q6,qt,p2,p6,pt,r2,rt,qaw,hz,u1,u2,u3,u4,u5,u6,qT,pT,rT,r3,r4];refine ⟨_,_,_,⟨rfl,rfl,rfl⟩,by simp,by simp,by simp [h6],by omega,?_,.app 1 ((g.b++F).map c8) T,⟨?_,.inr ⟨T,rfl,?_⟩⟩,?_,?_,?_⟩
  ·refine qai (qai (qdn (qai (qai (Tail_append_iff.2 ⟨qai (qai (hT.mono (by omega))),?_⟩)))));simp [qa1,qcg]
  ·simp [qab,qag,qaw,h,hb6,hT',n1,n3,p6,pt,q6,qt,u1,u2,u4,u5,qc4]
  ·simp [qab,qag,qaw,h,hb6,hz,hT',n1,n3,p6,pt,q6,qt,u1,u2,u4,u5]
  ·intro j hj;simp [tid] at hj;left;simp [tid,hj]
  ·intro j hj hx;have j1:¬j=t:=fun h=>hx (.inl h)
   have j2:¬j=b6:=fun h=>hx (.inr (.inl h))
   have j3:¬look j O=some .res:=fun h=>hx (.inr (.inr (.inr h)))
   have j4:¬N+52=j:=by omega
   have j6:¬j=T:=fun h=>hx (.inr (.inr (.inl (by simp [tid,h]))))
   cases hlo:look j O with
   | none=>simp [qab,qag,qaw,j1,j2,j4,j6,hlo]
   | some y=>
    have j5:¬y= .res:=fun hh=>j3 (by rw [hlo,hh])
    simp [qab,qag,qaw,j1,j2,j4,j6,hlo,j5]
  ·simp [qab,qag,qaw,h,hb6,n1,n3,u2,u5]
end
theorem qaj5 {O:List (Nat×AO)} {N b6:Nat} {a7 a2:AV} (hb6:look b6 O=some (.row 1 [[.int .i64 0]])):cloI Φ c_20 .niliface [.ptr b6 1 0 0,a7,a2] ⟨O,N⟩=some ⟨O,N⟩:=by
 unfold cloI;rw [qb4];simp [c_20,recE,hb6]
theorem qaj6 {O:List (Nat×AO)} {N b6 b7 b2 t:Nat} {x:Int} {p:Prg} {c c0:Xf} {R:AV} {n:Nat} (hx:x≠0) (hb6:look b6 O=some (.row 1 [[.int .i64 x]])) (hb7:look b7 O=some (.row 4 [Xf.c c])) (hb2:look b2 O=some (.row 1 [[.ptr t 16 0 0]])) (ht:look t O=some (.row 16 [qdr p c0 R n])):
  cloI Φ c_20 .niliface [.ptr b6 1 0 0,.ptr b7 4 0 0,.ptr b2 1 0 0] ⟨O,N⟩=some ⟨setl t (.row 16 [qdr p c R n]) O,N⟩:=by
 unfold cloI;rw [qb4];rw [qc4] at ht;rw [Xf.ce] at hb7;simp [c_20,recE,hb6,hx,hb7,hb2,ht,qc4]
def CJ (N:Nat) (O:List (Nat×AO)) (t:Nat) (R:AV) (p:Prg) (g:LgV) (l:List Xc) (r:Option (Rt×AH)):Prop:=
 ∃O' N' R',N<=N'/\Tail O' N'/\(∀j,tid R'=some j->tid R=some j\/N<=j)/\Kp (fun j=>j=t\/tid R=some j\/Rs O j) N O O'/\
  match badA p g.c l with
  | some (k,x)=>r=some (.val (.tup [.Xu 1 [],.int .i64 k,.int .i64 x]),⟨O',N'⟩)/\LogM O' t R' p g
  | none=>r=some (.val (.tup [.slice 1 (idsA p g.c l),.int .i64 0,.int .i64 0]),⟨O',N'⟩)/\LogM O' t R' p (cmt p g l)
theorem qk5 (p:Prg) (op:p.Ok qaz) (hc:(pre p.control).length<2^40 - 1) (hp:p.Xn.length<2^40) {g:LgV} (s:CfgT g.c) (hn:g.n<2^40) (hb:g.b.length<2^40) {l:List Xc} (hl:∀o∈l,OpS o) {v:AV} (hv:OpV v l)
    {O:List (Nat×AO)} {N t:Nat} {R:AV} (hT:Tail O N) (m:LogM O t R p g):CJ N O t R p g l (qah Φ f_20 [.ptr t 16 0 0,v] ⟨O,N⟩):=by
  rw [qlx Φ (d:=c_20) rfl rfl,qagi];obtain ⟨e1,a1,g1,g2,g6⟩:=jc1 (t:=t) hT v;have t0:=hT N (Qb _);have t1:=hT (N+1) (by omega);have lt:=hT.lt m.row;have hT1:Tail (O++[(N,.row 1 [[.ptr t 16 0 0]])]++[(N+1,.row 1 [[.int .i64 0]])]) (N+2):=(hT.app1 (Qb N)).app1 (Qb (N+1));have hk1:Kp (fun _=>False) N O (O++[(N,.row 1 [[.ptr t 16 0 0]])]++[(N+1,.row 1 [[.int .i64 0]])]):=(Kp.app Kp.refl (Qb _)).app (QBh _);have tl:∀{O:List (Nat×AO)} {N:Nat},Tail O N->LogM O t R p g->∀j,tid R=some j->j<N:=by
    intro O N hT m j hj;rcases m.rcd with ⟨rfl,_⟩ | ⟨T,rfl,h⟩
    · simp [tid] at hj
    · simp [tid] at hj;subst hj;exact hT.lt h
  have m1:=m.fr (hk1 t lt (by simp)) (fun j hj=>hk1 j (tl hT m j hj) (by simp));have q2:look N (O++[(N,.row 1 [[.ptr t 16 0 0]])]++[(N+1,.row 1 [[.int .i64 0]])])=some (.row 1 [[.ptr t 16 0 0]]):=by simp [t0]
  have q6:look (N+1) (O++[(N,.row 1 [[.ptr t 16 0 0]])]++[(N+1,.row 1 [[.int .i64 0]])])=some (.row 1 [[.int .i64 0]]):=by simp [t1]
  generalize O++[(N,.row 1 [[.ptr t 16 0 0]])]++[(N+1,.row 1 [[.int .i64 0]])]=H1 at*;obtain ⟨e2,a2,i1,i2,i6⟩:=jc2 (N:=N+2) m1 g2 q2 g1 g6;obtain ⟨e3,a3,h1,h2,h6,h7⟩:=jc3 hT1 m1 i2 q2 i1 i6;have t2:=hT1 (N+2) (Qb _);have hk2:Kp (fun _=>False) (N+2) H1 (H1++[(N+2,.row 4 [Xf.c g.c])]):=Kp.app Kp.refl (Qb _);have hT2:Tail (H1++[(N+2,.row 4 [Xf.c g.c])]) (N+3):=hT1.app1 (Qb _);have m2:=m1.fr (hk2 t (by omega) (by simp)) (fun j hj=>hk2 j (tl hT1 m1 j hj) (by simp));have q2:=hk2.lk hT1 q2 (by simp);have q6:=hk2.lk hT1 q6 (by simp);have q7:look (N+2) (H1++[(N+2,.row 4 [Xf.c g.c])])=some (.row 4 [Xf.c g.c]):=by simp [t2]
  have hkO:Kp (fun _=>False) N O (H1++[(N+2,.row 4 [Xf.c g.c])]):=hk1.trans hk2 (by omega);generalize H1++[(N+2,.row 4 [Xf.c g.c])]=H2 at*;have a4:qaq (qah Φ) none jcO ⟨e3,⟨H2,N+3⟩⟩=some (.normal,⟨(21,.func (.func f_58) [] [.ptr (N+1) 1 0 0,.ptr (N+2) 4 0 0,.ptr N 1 0 0])::e3,⟨H2,N+3⟩⟩):=by
    simp [jcO,qaq,qbh,h2,h6,h7]
  have hcl:(look 21 ((21,AV.func (.func f_58) [] [.ptr (N+1) 1 0 0,.ptr (N+2) 4 0 0,.ptr N 1 0 0])::e3)).bind tgt=some (f_58,[.ptr (N+1) 1 0 0,.ptr (N+2) 4 0 0,.ptr N 1 0 0]):=by simp
  have z1:N+1≠N:=by omega
  unfold CJ;cases hA:badA p g.c l with
  | some x=>
    obtain ⟨k,x⟩:=x;have hx:=qj3 hA;obtain ⟨e4,O4,a5,j4,j5,j6,rfl⟩:=qagh (N:=N+3) (e:=(21,.func (.func f_58) [] [.ptr (N+1) 1 0 0,.ptr (N+2) 4 0 0,.ptr N 1 0 0])::e3) p op hc hp s hl hv m2 (by simp [h1]) (by simp [h2]) (by simp [h6]) q2 q6 z1 hA;simp only [qdv,a1,a2,a3,a4];rw [a5,hcl];simp only [show c_20.clo=f_58 from rfl,show c_20.ncaps=3 from rfl,QAn,QAq,and_self,if_true,qhh];have n1:N+1≠t:=by omega
    have n2:N≠t:=by omega
    have n3:N+2≠t:=by omega
    have n4:t≠N+1:=by omega
    have r:=m2.row;have y6:look (N+1) (setl (N+1) (.row 1 [[.int .i64 x]]) (setl (N+1) (.row 1 [[.int .i64 x]]) (setl t (.row 16 [qdr p qjg R g.n]) H2)))=some (.row 1 [[.int .i64 x]]):=by simp [qab,n1,q6]
    have y7:look (N+2) (setl (N+1) (.row 1 [[.int .i64 x]]) (setl (N+1) (.row 1 [[.int .i64 x]]) (setl t (.row 16 [qdr p qjg R g.n]) H2)))=some (.row 4 [Xf.c g.c]):=by simp [qab,n3,q7]
    have y2:look N (setl (N+1) (.row 1 [[.int .i64 x]]) (setl (N+1) (.row 1 [[.int .i64 x]]) (setl t (.row 16 [qdr p qjg R g.n]) H2)))=some (.row 1 [[.ptr t 16 0 0]]):=by simp [qab,n2,q2]
    have yt:look t (setl (N+1) (.row 1 [[.int .i64 x]]) (setl (N+1) (.row 1 [[.int .i64 x]]) (setl t (.row 16 [qdr p qjg R g.n]) H2)))=some (.row 16 [qdr p qjg R g.n]):=by simp [qab,n4,r]
    rw [qaj6 hx y6 y7 y2 yt];refine ⟨setl t (.row 16 [qdr p g.c R g.n]) (setl (N+1) (.row 1 [[.int .i64 x]]) (setl (N+1) (.row 1 [[.int .i64 x]]) (setl t (.row 16 [qdr p qjg R g.n]) H2))),N+3,R,by omega,qai (qai (qai (qai hT2))),fun j hj=> .inl hj,?_,?_,?_⟩
    · intro j hj hx
      have e1:j≠t:=fun h=>hx (.inl h)
      rw [qab,QA e1,qab,QA (by omega),qab,QA (by omega),qab,QA e1];exact hkO j hj (by simp)
    · simp [qej,c_20,j4,j5,j6,qab,n1,q6]
    · refine ⟨by simp [qab,n4,r],?_⟩
      rcases m2.rcd with hz | ⟨T,rfl,hz⟩
      · exact .inl hz
      · refine .inr ⟨T,rfl,?_⟩
        have u1:T≠t:=qan hz r (by simp);have u2:T≠N+1:=qan hz q6 (by simp);rw [qab,QA u1,qab,QA u2,qab,QA u2,qab,QA u1,hz]
  | none=>
    obtain ⟨e4,O4,N4,R4,a5,j4,j5,j6,hN4,hT4,m4,hR4,hk4,y6⟩:=qaj4 (N:=N+3) (e:=(21,.func (.func f_58) [] [.ptr (N+1) 1 0 0,.ptr (N+2) 4 0 0,.ptr N 1 0 0])::e3) p op hc hp s hl hv hT2 m2 (by simp [h1]) (by simp [h2]) (by simp [h6]) q2 q6 z1 hA hn hb;simp only [qdv,a1,a2,a3,a4];rw [a5,hcl];simp only [show c_20.clo=f_58 from rfl,show c_20.ncaps=3 from rfl,QAn,QAq,and_self,if_true,qhh];rw [qaj5 y6];refine ⟨O4,N4,R4,by omega,hT4,fun j hj=>(hR4 j hj).imp id fun h=>by omega,?_,?_,m4⟩
    · intro j hj hx
      rw [hk4 j (by omega) ?_,hkO j hj (by simp)];rintro (h | h | h | h)
      · exact hx (.inl h)
      · omega
      · exact hx (.inr (.inl h))
      · have h:look j H2=some .res:=h
        rw [hkO j hj (by simp)] at h;exact hx (.inr (.inr h))
    · simp [qej,c_20,j4,j5,j6,y6]
def qai1 (N:Nat) (O:List (Nat×AO)) (c:Xf) (r:Option (Rt×AH)):Prop:=
 ∃w1 w2 w3 w4 V O' N',r=some (.val (.agg [w1,w2,w3,w4]),⟨O',N'⟩)/\CfgM O' w1 w2 w3 w4 V c/\(∀j,CfgM.own w1 w2 w3 V j->N<=j)/\Kp (Rs O) N O O'/\Tail O' N'/\N<=N'
theorem qh6 (p:Prg) (op:p.Ok qaz) (hc:(pre p.control).length<2^40 - 1) {g:LgV} (v:CfgV p g.c) (s:CfgT g.c) {O:List (Nat×AO)} {N t:Nat} {R:AV} (hT:Tail O N) (m:LogM O t R p g):
  qai1 N O g.c (qah Φ f_31 [.ptr t 16 0 0] ⟨O,N⟩):=by
 rw [qau (fn:=c_31) rfl rfl];have t0:=hT N (Qb _);have h:=m.row;rw [qc4] at h;have hk0:Kp (fun _=>False) N O (O++[(N,AO.row 4 [[.Xu 1 [],.Xu 1 [],.Xu 2 [],.Xu 1 []]])]):=Kp.app (fun _ _ _=>rfl) (Qb _);have hT0:=hT.app1 (o:=AO.row 4 [[.Xu 1 [],.Xu 1 [],.Xu 2 [],.Xu 1 []]]) (Qb N);have rN:look N (O++[(N,AO.row 4 [[.Xu 1 [],.Xu 1 [],.Xu 2 [],.Xu 1 []]])])=some (.row 4 [[.Xu 1 [],.Xu 1 [],.Xu 2 [],.Xu 1 []]]):=by simp [t0]
 rcases qwk p op hc g.c s hT0 with ⟨z,_⟩ | ⟨_,S,O1,N1,e,m1,w1,hk1,hT1,hN1⟩
 ·exact absurd ((qf7 p g.c).2 v) z
 obtain ⟨u1,u2,u3,u4,U,O2,N2,e2,n2,w2,hk2,hT2,hN2⟩:=qq7 (v.u s) hT1 m1;have r1:=hk1.lk hT0 rN (by intro h;unfold Rs at h;rw [rN] at h;cases h);have r2:=hk2.lk hT1 r1 (by simp);simp only [Prg.e,Xf.ce] at e;simp [c_31,h,t0,qag,e,e2,r2,qab];refine ⟨u1,u2,u3,u4,U,_,N2,rfl,?_,fun j hj=>by have:=w2 j hj;omega,?_,qai hT2,by omega⟩
 ·refine n2.fr fun j hj=>?_
  have:=w2 j hj;rw [qab,QA (by omega)]
 ·intro j hj hx;rw [qab,QA (by omega),hk2 j (by omega) (by simp),hk1 j (by omega) ?_,hk0 j hj (by simp)];intro hr;unfold Rs at hr;rw [hk0 j hj (by simp)] at hr;exact hx hr
theorem qad4 (l m:List Int) (hb:l.length<2^40):qad Φ f_75 [.slice 1 (l.map cI),.slice 1 (m.map cI)]=some (.val (.bool (decide (l=m)))):=by
 rw [qaa (fn:=c_75) rfl rfl];by_cases q1:l.length=m.length
 rotate_left
 ·have:l≠m:=fun h=>q1 (by rw [h])
  simp [c_75,q1,this]
 simp [c_75,q1];refine (qcj l.length (fun i e=>look 0 e=some (.slice 1 (l.map cI))/\look 1 e=some (.slice 1 (m.map cI))/\look 12 e=some (.int .i64 l.length)/\look 13 e=some (.int .i64 i))
  (fun i=>some (Rt.val (AV.bool (qch l m i)))) ?_ ?_ 0 _ (Qc _) ?_).trans (by simp [qch])
 ·rintro i e L hi hL ⟨h0,h1,h12,h13⟩ ih;have hi2:i<m.length:=by omega
  have hw:=qal i (by omega);by_cases c:l[i]=m[i]
  ·rw [qd8 hi hi2 c];simp [c_75_l0,cIe,hi,hi2,hL,h0,h1,h12,h13,hw,c];exact ih _ ⟨by simp [h0],by simp [h1],by simp [h12],by simp⟩
  ·rw [qd0 hi hi2 c];simp [c_75_l0,cIe,hi,hi2,hL,h0,h1,h12,h13,c]
 ·rintro e L hL ⟨h0,h1,h12,h13⟩;rw [qd7 q1];simp [c_75_l0,c_75_k1, *]
 ·simp [q1]
theorem qu7 (l m:List Int) (hb:l.length<2^40):qad Φ f_80 [.slice 1 (l.map c32),.slice 1 (m.map c32)]=some (.val (.bool (decide (l=m)))):=by
 rw [qaa (fn:=c_80) rfl rfl];by_cases q1:l.length=m.length
 rotate_left
 ·have:l≠m:=fun h=>q1 (by rw [h])
  simp [c_80,q1,this]
 simp [c_80,q1];refine (qcj l.length (fun i e=>look 0 e=some (.slice 1 (l.map c32))/\look 1 e=some (.slice 1 (m.map c32))/\look 12 e=some (.int .i64 l.length)/\look 13 e=some (.int .i64 i))
  (fun i=>some (Rt.val (AV.bool (qch l m i)))) ?_ ?_ 0 _ (Qc _) ?_).trans (by simp [qch])
 ·rintro i e L hi hL ⟨h0,h1,h12,h13⟩ ih;have hi2:i<m.length:=by omega
  have hw:=qal i (by omega);by_cases c:l[i]=m[i]
  ·rw [qd8 hi hi2 c];simp [c_80_l0,c32e,hi,hi2,hL,h0,h1,h12,h13,hw,c];exact ih _ ⟨by simp [h0],by simp [h1],by simp [h12],by simp⟩
  ·rw [qd0 hi hi2 c];simp [c_80_l0,c32e,hi,hi2,hL,h0,h1,h12,h13,c]
 ·rintro e L hL ⟨h0,h1,h12,h13⟩;rw [qd7 q1];simp [c_80_l0,c_80_k1, *]
 ·simp [q1]
theorem qajj (l m:List (List Int)) (hb:l.length<2^40) (hf:∀x∈l,∀y∈m,qad Φ f_79 [.slice 1 (x.map c32),.slice 1 (y.map c32)]=some (.val (.bool (decide (x=y))))):
   qad Φ f_78 [.slice 1 (l.map (cS 1 c32)),.slice 1 (m.map (cS 1 c32)),.func (.func f_79) [] []]=some (.val (.bool (decide (l=m)))):=by
  rw [qaa (fn:=c_78) rfl rfl];by_cases q1:l.length=m.length
  rotate_left
  · have:l≠m:=fun h=>q1 (by rw [h])
    simp [c_78,q1,this]
  simp [c_78,q1];refine (qcj l.length (fun i e=>look 1 e=some (.slice 1 (m.map (cS 1 c32)))/\look 2 e=some (.func (.func f_79) [] [])/\look 15 e=some (.slice 1 (l.map (cS 1 c32)))/\look 16 e=some (.int .i64 l.length)/\look 17 e=some (.int .i64 i))
    (fun i=>some (Rt.val (AV.bool (qch l m i)))) ?_ ?_ 0 _ (Qc _) ?_).trans (by simp [qch])
  · rintro i e L hi hL ⟨h1,h2,h15,h16,h17⟩ ih
    have hi2:i<m.length:=by omega
    have hw:=qal i (by omega);have hee:=hf _ (Qd hi) _ (Qd hi2);by_cases c:l[i]=m[i]
    · rw [decide_eq_true c] at hee
      rw [qd8 hi hi2 c];simp [c_78_l0,cSe,hi,hi2,hL,h1,h2,h15,h16,h17,hw,hee];refine (ih _ ⟨by simp [h1],by simp [h2],by simp [h15],by simp [h16],by simp⟩).trans (by simp)
    · rw [decide_eq_false c] at hee
      rw [qd0 hi hi2 c];simp [c_78_l0,cSe,hi,hi2,hL,h1,h2,h15,h16,h17,hee]
  · rintro e L hL ⟨h1,h2,h15,h16,h17⟩
    rw [qd7 q1];simp [c_78_l0,c_78_k1, *]
  · simp [q1]
theorem qafs (l m:List (List Rw)) (hb:l.length<2^40) (hf:∀x∈l,∀y∈m,qad Φ f_74 [.slice 5 (x.map Rw.c),.slice 5 (y.map Rw.c)]=some (.val (.bool (decide (x=y))))):
   qad Φ f_73 [.slice 1 (l.map (cS 5 Rw.c)),.slice 1 (m.map (cS 5 Rw.c)),.func (.func f_74) [] []]=some (.val (.bool (decide (l=m)))):=by
  rw [qaa (fn:=c_73) rfl rfl];by_cases q1:l.length=m.length
  rotate_left
  · have:l≠m:=fun h=>q1 (by rw [h])
    simp [c_73,q1,this]
  simp [c_73,q1];refine (qcj l.length (fun i e=>look 1 e=some (.slice 1 (m.map (cS 5 Rw.c)))/\look 2 e=some (.func (.func f_74) [] [])/\look 15 e=some (.slice 1 (l.map (cS 5 Rw.c)))/\look 16 e=some (.int .i64 l.length)/\look 17 e=some (.int .i64 i))
    (fun i=>some (Rt.val (AV.bool (qch l m i)))) ?_ ?_ 0 _ (Qc _) ?_).trans (by simp [qch])
  · rintro i e L hi hL ⟨h1,h2,h15,h16,h17⟩ ih
    have hi2:i<m.length:=by omega
    have hw:=qal i (by omega);have hee:=hf _ (Qd hi) _ (Qd hi2);by_cases c:l[i]=m[i]
    · rw [decide_eq_true c] at hee
      rw [qd8 hi hi2 c];simp [c_73_l0,cSe,hi,hi2,hL,h1,h2,h15,h16,h17,hw,hee];refine (ih _ ⟨by simp [h1],by simp [h2],by simp [h15],by simp [h16],by simp⟩).trans (by simp)
    · rw [decide_eq_false c] at hee
      rw [qd0 hi hi2 c];simp [c_73_l0,cSe,hi,hi2,hL,h1,h2,h15,h16,h17,hee]
  · rintro e L hL ⟨h1,h2,h15,h16,h17⟩
    rw [qd7 q1];simp [c_73_l0,c_73_k1, *]
  · simp [q1]
theorem qajh (l m:List Xb) (hb:l.length<2^40) (hf:∀x∈l,∀y∈m,qad Φ f_77 [.agg (Xb.c x),.agg (Xb.c y)]=some (.val (.bool (decide (x=y))))):
   qad Φ f_76 [.slice 2 (l.map Xb.c),.slice 2 (m.map Xb.c),.func (.func f_77) [] []]=some (.val (.bool (decide (l=m)))):=by
  rw [qaa (fn:=c_76) rfl rfl];by_cases q1:l.length=m.length
  rotate_left
  · have:l≠m:=fun h=>q1 (by rw [h])
    simp [c_76,q1,this]
  simp [c_76,q1];refine (qdt l.length (fun i e h=>look 1 e=some (.slice 2 (m.map Xb.c))/\look 2 e=some (.func (.func f_77) [] [])/\look 15 e=some (.slice 2 (l.map Xb.c))/\look 16 e=some (.int .i64 l.length)/\look 17 e=some (.int .i64 i)/\∃objs N,Tail objs N/\h=⟨objs,N⟩)
    (fun i=>some (Rt.val (AV.bool (qch l m i)))) ?_ ?_ 0 _ _ (Qc _) ?_).trans (by simp [qch])
  · rintro i e _ L hi hL ⟨h1,h2,h15,h16,h17,objs,N,hN,rfl⟩ ih
    have hi2:i<m.length:=by omega
    have hw:=qal i (by omega);have hNN:=hN N (Qb _);have hN1:=hN (N+1) (by omega);have hee:=hf _ (Qd hi) _ (Qd hi2);simp only [Xb.ce] at hee;by_cases c:l[i]=m[i]
    · rw [decide_eq_true c] at hee
      rw [qd8 hi hi2 c];simp [c_76_l0,Xb.ce,hi,hi2,hL,h1,h2,h15,h16,h17,hNN,hN1,hw,hee];refine (ih _ _ ⟨by simp [h1],by simp [h2],by simp [h15],by simp [h16],by simp,_,_,(hN.app _).app _,by simp;exact ⟨rfl,rfl⟩⟩).trans (by simp)
    · rw [decide_eq_false c] at hee
      rw [qd0 hi hi2 c];simp [c_76_l0,Xb.ce,hi,hi2,hL,h1,h2,h15,h16,h17,hNN,hN1,hee]
  · rintro e _ L hL ⟨h1,h2,h15,h16,h17,objs,N,hN,rfl⟩
    rw [qd7 q1];simp [c_76_l0,c_76_k1, *]
  · simp [q1]
    exact Tail.nil 0
theorem qaji (l m:List Rw) (hb:l.length<2^40) (hf:∀x∈l,∀y∈m,qad Φ f_148 [.agg (Rw.c x),.agg (Rw.c y)]=some (.val (.bool (decide (x=y))))):
   qad Φ f_147 [.slice 5 (l.map Rw.c),.slice 5 (m.map Rw.c),.func (.func f_148) [] []]=some (.val (.bool (decide (l=m)))):=by
  rw [qaa (fn:=c_147) rfl rfl];by_cases q1:l.length=m.length
  rotate_left
  · have:l≠m:=fun h=>q1 (by rw [h])
    simp [c_147,q1,this]
  simp [c_147,q1];refine (qdt l.length (fun i e h=>look 1 e=some (.slice 5 (m.map Rw.c))/\look 2 e=some (.func (.func f_148) [] [])/\look 15 e=some (.slice 5 (l.map Rw.c))/\look 16 e=some (.int .i64 l.length)/\look 17 e=some (.int .i64 i)/\∃objs N,Tail objs N/\h=⟨objs,N⟩)
    (fun i=>some (Rt.val (AV.bool (qch l m i)))) ?_ ?_ 0 _ _ (Qc _) ?_).trans (by simp [qch])
  · rintro i e _ L hi hL ⟨h1,h2,h15,h16,h17,objs,N,hN,rfl⟩ ih
    have hi2:i<m.length:=by omega
    have hw:=qal i (by omega);have hNN:=hN N (Qb _);have hN1:=hN (N+1) (by omega);have hee:=hf _ (Qd hi) _ (Qd hi2);simp only [Rw.ce] at hee;by_cases c:l[i]=m[i]
    · rw [decide_eq_true c] at hee
      rw [qd8 hi hi2 c];simp [c_147_l0,Rw.ce,hi,hi2,hL,h1,h2,h15,h16,h17,hNN,hN1,hw,hee];refine (ih _ _ ⟨by simp [h1],by simp [h2],by simp [h15],by simp [h16],by simp,_,_,(hN.app _).app _,by simp;exact ⟨rfl,rfl⟩⟩).trans (by simp)
    · rw [decide_eq_false c] at hee
      rw [qd0 hi hi2 c];simp [c_147_l0,Rw.ce,hi,hi2,hL,h1,h2,h15,h16,h17,hNN,hN1,hee]
  · rintro e _ L hL ⟨h1,h2,h15,h16,h17,objs,N,hN,rfl⟩
    rw [qd7 q1];simp [c_147_l0,c_147_k1, *]
  · simp [q1]
    exact Tail.nil 0
theorem qzh (x y:Xb) (h:x.args.length<2^40):qad Φ f_77 [.agg (Xb.c x),.agg (Xb.c y)]=some (.val (.bool (decide (x=y)))):=by
 have ee:decide (x=y)=decide (x.action=y.action/\x.args=y.args):=decide_eq_decide.2 (Xb.eq_iff x y);rw [ee,qaa (fn:=c_77) rfl rfl];have ha:=qu7 x.args y.args h;by_cases q:x.action=y.action
 ·simp [c_77,Xb.ce,ha,q]
 ·simp [c_77,Xb.ce,ha,q]
theorem qaei (x y:List Int) (h:x.length<2^40):qad Φ f_79 [.slice 1 (x.map c32),.slice 1 (y.map c32)]=some (.val (.bool (decide (x=y)))):=by
 rw [qaa (fn:=c_79) rfl rfl];have ha:=qu7 x y h;simp [c_79,ha]
theorem qaej (x y:Rw) (h:x.entry.sm):qad Φ f_148 [.agg (Rw.c x),.agg (Rw.c y)]=some (.val (.bool (decide (x=y)))):=by
 have ee:decide (x=y)=decide (x.id=y.id/\x.entry=y.entry):=decide_eq_decide.2 (Rw.eq_iff x y);rw [ee,qaa (fn:=c_148) rfl rfl];have ha:=qaah x.entry y.entry h;simp only [Entry.ce] at ha;by_cases q:x.id=y.id
 ·simp [c_148,Rw.ce,ha,q]
 ·simp [c_148,Rw.ce,ha,q]
theorem qab3 (x y:List Rw) (h:x.length<2^40) (hs:∀r∈x,r.entry.sm):qad Φ f_74 [.slice 5 (x.map Rw.c),.slice 5 (y.map Rw.c)]=some (.val (.bool (decide (x=y)))):=by
 rw [qaa (fn:=c_74) rfl rfl];have ha:=qaji x y h (fun a h1 b _=>qaej a b (hs a h1));simp [c_74,ha]
theorem qzi (a b:Xf) (f:CfgS a):qad Φ f_32 [.agg (Xf.c a),.agg (Xf.c b)]=some (.val (.bool (decide (a=b)))):=by
 have ee:decide (a=b)=decide (a.rows=b.rows/\a.Xr=b.Xr/\a.Xq=b.Xq/\a.Xm=b.Xm):=decide_eq_decide.2 (Xf.eq_iff a b);rw [ee,qaa (fn:=c_32) rfl rfl];have h1:=qafs a.rows b.rows f.rl (fun x hx y _=>qab3 x y (f.rs x hx).1 (f.rs x hx).2);have h2:=qad4 a.Xr b.Xr f.nl;have h3:=qajh a.Xq b.Xq f.dl (fun x hx y _=>qzh x y (f.ds x hx));have h4:=qajj a.Xm b.Xm f.gl (fun x hx y _=>qaei x y (f.gs x hx));by_cases q1:a.rows=b.rows
 rotate_left
 ·simp [c_32,Xf.ce,h1,h2,h3,h4,q1]
 rw [q1] at h1;by_cases q2:a.Xr=b.Xr
 rotate_left
 ·simp [c_32,Xf.ce,h1,h2,h3,h4,q1,q2]
 rw [q2] at h2;by_cases q3:a.Xq=b.Xq
 rotate_left
 ·simp [c_32,Xf.ce,h1,h2,h3,h4,q1,q2,q3]
 rw [q3] at h3;simp [c_32,Xf.ce,h1,h2,h3,h4,q1,q2,q3]
def lgP (p:Prg) (g:LgV):AV:= .iptr 16 [qdr p g.c (.slice 1 (g.b.map c8)) g.n] 0 0
theorem lgP_e (p:Prg) (g:LgV):lgP p g= .iptr 16 [[.bool true,.str p.name,.slice 2 (p.Xp.map Xj.c),.slice 2 (p.Xo.map Fld.c),.slice 3 (p.Xm.map Xh.c),.slice 3 (p.actions.map Action.c),.slice 6 (p.Xn.map Tbl.c),.slice 7 (p.states.map Xd.c),.slice 5 (p.control.map Xa.c),.slice 1 (p.Xs.map cI),
  .slice 1 (g.c.rows.map (cS 5 Rw.c)),.slice 1 (g.c.Xr.map cI),.slice 2 (g.c.Xq.map Xb.c),.slice 1 (g.c.Xm.map (cS 1 c32)),.slice 1 (g.b.map c8),.int .i64 g.n]] 0 0:=by
 simp only [lgP,qc4]
theorem LogM.snp {O:List (Nat×AO)} {N t n:Nat} {R:AV} {p:Prg} {g:LgV} (m:LogM O t R p g):snap (n+2) ⟨O,N⟩ (.ptr t 16 0 0)=some (lgP p g):=by
 have h:=m.row;rw [qc4] at h;rw [lgP_e];rcases m.rcd with ⟨rfl,hz⟩ | ⟨T,rfl,hz⟩
 ·simp [h,hz]
 ·simp [h]
theorem qalu (p:Prg) (f:PrgS p) (L:List (List Xc)) (hL:L.length<2^40) (hl:∀l∈L,l.length<2^40):
  ∃b,qad Φ f_18 [.agg (Prg.c p),.slice 1 (L.map (cS 9 Xc.c))]=some (.val (.bool b))/\(b=false->(pre p.control).length<=60/\L.length<=12/\∀l∈L,qgp l=false):=by
 obtain ⟨r,hr,hrb⟩:=qwg p f;rw [qaa (fn:=c_18) rfl rfl];simp only [Prg.e] at hr;cases r with
 | true=>exact ⟨true,by simp [c_18,Prg.e,hr],by simp⟩
 | false=>
 by_cases z:12<L.length
 ·have z':(12:Int)<L.length:=by omega
  exact ⟨true,by simp [c_18,Prg.e,hr,z,z'],by simp⟩
 have z':¬(12:Int)<L.length:=by omega
 refine ⟨L.any qgp,?_,fun h=>⟨hrb rfl,by omega,fun l hl=>by simpa using List.any_eq_false.1 h l hl⟩⟩;generalize hX:some (Rt.val (.bool (L.any qgp)))=X;simp [c_18,Prg.e,hr,z,z'];rw [<- hX];refine (qa4 L.length (fun _=>[]) 0 (fun i e=>look 1 e=some (.slice 1 (L.map (cS 9 Xc.c)))/\look 5 e=some (.int .i64 i))
  (fun i=>some (Rt.val (.bool (qc1 L qgp i)))) ?_ ?_ 0 _ _ (Qc _) (Qc _) ?_).trans (by simp [qnz])
 ·rintro i e n K hi hK _ ⟨h1,h5⟩ ih;have hw:=qal i (by omega);have hg:=qvx L[i] (hl _ (Qd hi));cases hq:qgp L[i] with
  | true=>
   rw [hq] at hg;rw [qp9 hi hq];simp [c_18_l0,h1,h5,hi,cSe,hg]
  | false=>
   rw [hq] at hg;rw [qit hi hq];generalize hX:some (Rt.val (.bool (qc1 L qgp (i+1))))=X at ih ⊢;simp [c_18_l0,h1,h5,hi,cSe,hg,hw];exact ih _ _ (Qc _) ⟨by simp [h1],by simp⟩
 ·rintro e n K hK _ ⟨h1,h5⟩;rw [qmu];simp [c_18_l0,c_18_k1,h1,h5,hK]
 ·simp
structure LgS (p:Prg) (g:LgV) (i:Nat):Prop where
 v:CfgV p g.c
 s:CfgT g.c
 n:g.n<=i
 b:g.b.length<=300008*i
theorem LgS.cmt {p:Prg} {g:LgV} {i:Nat} (h:LgS p g i) (hp:p.Xn.length<2^40) {l:List Xc} (hl:∀o∈l,OpS o):LgS p (cmt p g l) (i+1):=by
 obtain ⟨v,s⟩:=qmx h.v h.s hp l hl l.length;rw [qta] at v s;have:=h.n;have:=h.b;have:=qi9 l;refine ⟨v,s,by simp only [Go.Av.cmt];omega,?_⟩;simp only [Go.Av.cmt,QAc,qg3];omega
theorem LgS.mono {p:Prg} {g:LgV} {i j:Nat} (h:LgS p g i) (hij:i<=j):LgS p g j:=⟨h.v,h.s,by have:=h.n;omega,by have:=h.b;omega⟩
theorem lg0_s {p:Prg} (op:p.Ok qaz) (h:(prgD p).1=0) (i:Nat):LgS p (lg0 p) i:=⟨qaaj h,qaai op,by simp [lg0],by simp [lg0]⟩
end Go.Av
