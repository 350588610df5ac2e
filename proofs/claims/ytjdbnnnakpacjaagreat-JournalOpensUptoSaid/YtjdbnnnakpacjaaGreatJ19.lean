/-
 The laws JournalEncodes and JournalDecodes return true for all arguments.
-/
import Derived.Test.YtjdbnnnakpacjaaGreatY1
import Derived.Test.YtjdbnnnakpacjaaGreatW28K
set_option linter.unusedVariables false
set_option linter.unusedSimpArgs false
namespace Go.Av
set_option maxRecDepth 4000
theorem Ld (l:List Xc) (ho:∀o∈l,okO o):a9 Φ NV [.slice 9 (l.map Xc.c)]=some (.val (.slice 1 ((encB l).map c8))):=by
 rw [aA rfl rfl];by_cases q:64<l.length
 ·have:encB l=[]:=by unfold encB;rw [QA (by omega)]
  simp [N6,q,this]
 have hl:l.length<=64:=by omega
 have hw:IntKind.wrap .u8 (l.length:Int)=(l.length:Int):=by rw [wr8u];omega
 simp [N6,q,hw];refine QP (fun i:Nat=>l.length - i) (fun i e h=>i<=l.length/\(∀o∈l.take i,opE o=true)/\look 0 e=some (.slice 9 (l.map Xc.c))/\look 4 e=some (a8 i)/\
  ∃B O N,look 3 e=some B/\BV B (([(l.length:Int)]++opsB (l.take i)).map c8) O/\Tail O N/\h=⟨O,N⟩) (fun _ (r:Option Rt)=>r=some (Rt.val (AV.slice 1 ((encB l).map c8)))) ?_ 0 _ _ ⟨Qc _,by simp,by simp,by simp,.Xu 1 [[.int .u8 (l.length:Int)]],[],0,by simp,.inl (by simp [opsB,c8e]),Tail.nil 0,rfl⟩
 rintro i e _ L hL ⟨hi,hp,h0,h4,B,O,N,h3,hB,hT,rfl⟩ ih;have hNN:=hT N (Qb _);rcases Qv i l.length with hlt | hge
 ·have hwi:=aL i (by omega);have hen:=ZP l[i];rw [Xc.ce] at hen;cases hq:opE l[i] with
  | false=>
   rw [hq] at hen;simp [c_69_l0,Xc.ce,h0,h4,hL,hlt,hen,quy hlt hq]
  | true=>
   rw [hq] at hen;have hlen:((([(l.length:Int)]++opsB (l.take i)).map c8).length)+(opB l[i]).length<=70368744177664:=by
    have:=Uv hp;rw [fU] at this;have h2:=qyh hq;rw [dQ,jE];simp only [mH,mI];omega
   have hop:=ropB l[i] hq (ho _ (Qd hlt));rw [Xc.ce] at hop;have hE2:([(l.length:Int)]++opsB (l.take (i+1))).map c8=([(l.length:Int)]++opsB (l.take i)).map c8++(opB l[i]).map c8:=by
    rw [qs0 hlt];simp
   have hp2:∀o∈l.take (i+1),opE o=true:=by
    intro o ho';rw [Qh hlt] at ho';rcases gP.1 ho' with h | h
    ·exact hp o h
    ·simp at h;rw [h];exact hq
   have ih':=ih (i+1);rw [hE2] at ih';generalize ([(l.length:Int)]++opsB (l.take i)).map c8=D at*;rcases hB with rfl | ⟨t,rfl,ht⟩
   ·simp [c_69_l0,Xc.ce,h0,h3,h4,hL,hlt,hen,hop,hwi,hlen,hNN];exact ih' _ _ (by omega) ⟨hlt,hp2,by simp [h0,Xc.ce],by simp,.app 1 (D++(opB l[i]).map c8) N,O++[(N,.tok 1 (D.length+(opB l[i]).length))],N+1,by simp,.inr ⟨N,rfl,by simp [lK,hNN]⟩,hT.app _,rfl⟩
   ·simp [c_69_l0,Xc.ce,h0,h3,h4,hL,hlt,hen,hop,hwi,hlen,ht];exact ih' _ _ (by omega) ⟨hlt,hp2,by simp [h0,Xc.ce],by simp,.app 1 (D++(opB l[i]).map c8) t,setl t (.tok 1 (D.length+(opB l[i]).length)) O,N,by simp,.inr ⟨t,rfl,by rw [lL ht];simp⟩,HJ hT (hT.ltJ ht),rfl⟩
 ·have hi':i=l.length:=by omega
  subst hi';rw [qx2 hl hp];rw [i9] at hB;rcases hB with rfl | ⟨t,rfl,h2⟩
  ·simp [c_69_l0,c_69_k1,h0,h3,h4,hL]
  ·simp [c_69_l0,c_69_k1,h0,h3,h4,hL]
def b2sV (h:AH) (o:Option AV):Option (AV×AH):=match o with
 | some v=>evOp [(0,v)] 0 h (.b2s (.t 0))
 | none=>none
variable {e:Env} {n nx:Nat} {h:AH}
theorem Ob:evOp e nx h (.b2s (.t n))=b2sV h (look n e):=by
 cases hl:look n e with
 | none=>simp only [evOp,evX,hl,b2sV]
 | some v=>simp only [evOp,evX,hl,b2sV,look,if_true]
theorem Vw {call:fS}:aI call e nx h (.b2s (.t n))=eW (b2sV h (look n e)):=by rw [X6,Ob]
def strB (l:List Int):List UInt8:=l.map fun n=>UInt8.ofNat n.toNat
theorem qyc (F:List AV->Option UInt8) (hF:∀n,F (c8 n)=some (UInt8.ofNat n.toNat)):∀l:List Int,mapO F (l.map c8)=some (strB l)
 | []=>rfl
 | a::l=>by simp only [u9,mapO,hF,qyc F hF l,strB]
theorem X0 (h:AH) (z:Nat) (l:List Int):b2sV h (some (.slice z (l.map c8)))=some (.str (strB l),h):=by
 simp only [b2sV,evOp,evX,look,if_true,kF];rw [qyc _ (fun n=>rfl)]
theorem LY (v:Int):okB (be4 v):=by
 intro x hx;simp [be4] at hx;omega
theorem Vu (v:Int):okB (be2 v):=by
 intro x hx;simp [be2] at hx;omega
variable {b:List Int}
theorem LW {a:List Int} (ha:okB a) (hb:okB b):okB (a++b):=by
 intro x hx;rcases gP.1 hx with h | h
 ·exact ha x h
 ·exact hb x h
theorem XV {a:Int} (ha:0<=a/\a<=255) (hb:okB b):okB (a::b):=by
 intro x hx;rcases fI.1 hx with rfl | h
 ·exact ha
 ·exact hb x h
theorem Af (l:List Int):okB (iN l):=by
 intro x hx;unfold iN at hx;obtain ⟨y,hy,hx⟩:=GF.1 hx;obtain ⟨v,_,rfl⟩:=kY.1 hy;exact LY v x hx
theorem Bm (l:List Xi):okB (fT l):=by
 intro x hx;unfold fT at hx;obtain ⟨y,hy,hx⟩:=GF.1 hx;obtain ⟨v,_,rfl⟩:=kY.1 hy;exact LW (LY _) (LY _) x hx
theorem Ts {c:Xb} (h:iJ c=true):okB (j9 c):=by
 simp [iJ] at h;exact LW (Vu _) (XV (by omega) (Af _))
variable {o:Xc}
theorem Jg (h:opE o=true):okB (opB o):=by
 have hk:=Uu h;unfold opE at h;rw [eB] at h;refine XV (by omega) (LW (Vu _) ?_);obtain ⟨_,h⟩:=h;by_cases c1:o.kind=1
 ·rw [aB c1] at h ⊢;simp only [eB,decide_eq_true_eq] at h;exact LW (Vu _) (XV (by omega) (LW (Bm _) (Ts h.2.2)))
 rw [QA c1] at h ⊢;by_cases c2:o.kind=2
 ·rw [aB c2] at h ⊢;simp only [eB] at h;exact LW (LY _) (Ts h.2)
 rw [QA c2] at h ⊢;by_cases c3:o.kind=3
 ·rw [aB c3];exact LY _
 rw [QA c3] at h ⊢;by_cases c4:o.kind=4
 ·rw [aB c4] at h;exact Ts h
 ·omega
theorem quz (l:List Xc):okB (encB l):=by
 unfold encB;split
 ·rename_i h;refine XV (by omega) ?_;intro x hx;unfold opsB at hx;obtain ⟨y,hy,hx⟩:=GF.1 hx;obtain ⟨o,ho,rfl⟩:=kY.1 hy;exact Jg (h.2 o ho) x hx
 ·intro x hx;cases hx
theorem Yx (v:Int) (k:Nat) (h:k<=32):ishr .u32 v (k:Int)=v.fdiv (2^k):=by
 unfold ishr;rw [show min (k:Int).toNat (IntKind.bits .u32)=k by simp [IntKind.bits];omega]
theorem Oj (v:Int):ishr .u32 v 8=v / 256:=by
 rw [show (8:Int)=((8:Nat):Int) by rfl,Yx v 8 (by decide)];rw [Q4 _ (by decide)];rfl
theorem Jt (v:Int):ishr .u32 v 16=v / 65536:=by
 rw [show (16:Int)=((16:Nat):Int) by rfl,Yx v 16 (by decide)];rw [Q4 _ (by decide)];rfl
theorem Ju (v:Int):ishr .u32 v 24=v / 16777216:=by
 rw [show (24:Int)=((24:Nat):Int) by rfl,Yx v 24 (by decide)];rw [Q4 _ (by decide)];rfl
theorem kword (v:Int) (O:List (Nat×AO)) (N:Nat):aN Φ qG [.int .u32 v] ⟨O,N⟩=some (.val (.Xu 1 ((be4 v).map c8)),⟨O,N⟩):=by
 rw [dW rfl rfl];simp [J4,Oj,Jt,Ju,wr8u,be4,c8e]
theorem qya (b:List Int) (hb:okB b) (hl:4<=b.length) (h40:b.length<2^40):a9 Φ GX [.slice 1 (b.map c8)]=some (.val (.int .u32 (num 4 b))):=by
 rw [aA rfl rfl];have q2:¬((b.length:Int)<4):=by omega
 have q3:(4:Int)<=b.length:=by omega
 have i0:0<b.length:=by omega
 have h0:=hb _ (Qd i0);have w0:IntKind.wrap .u32 b[0]=b[0]:=gQ (by omega);have i1:1<b.length:=by omega
 have h1:=hb _ (Qd i1);have w1:IntKind.wrap .u32 b[1]=b[1]:=gQ (by omega);have i2:2<b.length:=by omega
 have h2:=hb _ (Qd i2);have w2:IntKind.wrap .u32 b[2]=b[2]:=gQ (by omega);have i3:3<b.length:=by omega
 have h3:=hb _ (Qd i3);have w3:IntKind.wrap .u32 b[3]=b[3]:=gQ (by omega);have k0:IntKind.wrap .i64 0=0:=by decide
 have k1:IntKind.wrap .i64 1=1:=by decide
 have k2:IntKind.wrap .i64 2=2:=by decide
 have k3:IntKind.wrap .i64 3=3:=by decide
 have k4:IntKind.wrap .i64 4=4:=by decide
 simp [SK,q3,hl,XU b i3];rw [bG];simp [c_60_l0,c8e,k1,w0,hl];rw [bG];simp [c8e,k2,w1,hl];rw [bG];simp [c8e,k3,w2,hl];rw [bG];simp [c8e,k4,w3,hl];rw [bG];simp [c_60_k1];have x0:ior .u32 (ishl .u32 0 8) b[0]=b[0]:=by rw [EU (by omega) (by omega)];omega
 have x1:ior .u32 (ishl .u32 (b[0]) 8) b[1]=256*(b[0])+b[1]:=EU (by omega) (by omega);have x2:ior .u32 (ishl .u32 (256*(b[0])+b[1]) 8) b[2]=256*(256*(b[0])+b[1])+b[2]:=EU (by omega) (by omega);have x3:ior .u32 (ishl .u32 (256*(256*(b[0])+b[1])+b[2]) 8) b[3]=256*(256*(256*(b[0])+b[1])+b[2])+b[3]:=EU (by omega) (by omega);have fin:ior .u32 (ishl .u32 (ior .u32 (ishl .u32 (ior .u32 (ishl .u32 (ior .u32 (ishl .u32 0 8) b[0]) 8) b[1]) 8) b[2]) 8) b[3]=256*(256*(256*(b[0])+b[1])+b[2])+b[3]:=by rw [x0,x1,x2,x3]
 exact fin
theorem qtb {t:Nat} {y:AO}:∀{O:List (Nat×AO)},look t O=some y->setl t y O=O
 | [],_=>by simp
 | (u,w)::r,h=>by
  by_cases hu:u=t
  ·subst hu;simp at h;subst h;simp
  ·simp [hu] at h;simp [hu,qtb h]
theorem kadd (h c k:Int) (O:List (Nat×AO)) (N t:Nat) (hc:0<=c/\c<=255) (ht:look t O=some (.row 2 [[.int .u32 h,a8 k]])):
  aN Φ r9 [.ptr t 2 0 0,.int .u8 c] ⟨O,N⟩=some (.val (.tup []),⟨setl t (.row 2 [[.int .u32 (fnv1 h c),a8 k]]) O,N⟩):=by
 rw [dW rfl rfl];have w:IntKind.wrap .u32 c=c:=gQ (by omega);have e:IntKind.wrap .u32 (ixor .u32 h c*16777619)=fnv1 h c:=by
  simp [IntKind.wrap,IntKind.bits,IntKind.signed,fnv1]
 simp [K3,ht,w,e]
theorem Eg (h:Int) (a b:List Int):fnvL h (a++b)=fnvL (fnvL h a) b:=by simp [fnvL]
theorem qsl (h:Int) {i:Nat} (hi:i<b.length):fnvL h (b.take (i+1))=fnv1 (fnvL h (b.take i)) b[i]:=by
 rw [Qh hi,Eg];rfl
theorem Ot (b:List Int) (hb:okB b) (h40:b.length<2^40) (h:Int) (O:List (Nat×AO)) (N t:Nat) (ht:look t O=some (.row 2 [[.int .u32 h,a8 0]])):
  aN Φ qH [.ptr t 2 0 0,.slice 1 (b.map c8)] ⟨O,N⟩=some (.val (.tup []),⟨setl t (.row 2 [[.int .u32 (fnvL h b),a8 b.length]]) O,N⟩):=by
 rw [dW rfl rfl];simp [J5];refine tC b.length (fun i e hh=>hh=⟨setl t (.row 2 [[.int .u32 (fnvL h (b.take i)),a8 0]]) O,N⟩/\look 0 e=some (.ptr t 2 0 0)/\look 1 e=some (.slice 1 (b.map c8))/\look 4 e=some (.func (.func r9) [.ptr t 2 0 0] [])/\look 11 e=some (.slice 1 (b.map c8))/\look 12 e=some (a8 b.length)/\look 13 e=some (a8 i))
  (fun _=>some (Rt.val (.tup []),(⟨setl t (.row 2 [[.int .u32 (fnvL h b),a8 b.length]]) O,N⟩:AH))) ?_ ?_ 0 _ _ (Qc _) ?_
 ·rintro i e hh L hi hL ⟨rfl,h0,h1,h4,h11,h12,h13⟩ ih;have hw:=aL i (by omega);have hx:=hb _ (Qd hi);have ka:=kadd (fnvL h (b.take i)) b[i] 0 (setl t (.row 2 [[.int .u32 (fnvL h (b.take i)),a8 0]]) O) N t hx (by rw [lL ht]);rw [zM,<- qsl h hi] at ka;simp [c_126_l0,h4,h11,h12,h13,hi,hw,c8e,ka];exact ih _ _ ⟨rfl,by simp [h0],by simp [h1],by simp [h4],by simp [h11],by simp [h12],by simp⟩
 ·rintro e hh L hL ⟨rfl,h0,h1,h4,h11,h12,h13⟩;have hw:IntKind.wrap .i64 (b.length:Int)=(b.length:Int):=bJ (by omega) (by omega);have hl:look t (setl t (.row 2 [[.int .u32 (fnvL h b),a8 0]]) O)=some (.row 2 [[.int .u32 (fnvL h b),a8 0]]):=lL ht;rw [Qo (Qb _)];simp [c_126_l0,c_126_k1,h0,h1,h12,h13,hL,hl,hw,zM]
 ·exact ⟨by simp [fnvL];exact (qtb ht).symm,by simp,by simp,by simp,by simp,by simp,by simp⟩
theorem kfnv (b:List Int) (hb:okB b) (h40:b.length<2^40):a9 Φ GY [.slice 1 (b.map c8)]=some (.val (.int .u32 (fnv b))):=by
 rw [aA rfl rfl];have kw:=Ot b hb h40 2166136261 [(0,.row 2 [[.int .u32 2166136261,a8 0]])] 1 0 (by simp);simp [SL,kw,fnv]
theorem al8 (b:List Int):kS 1 (b.map c8)=true:=sK 1 c8 b fun x=>by simp [c8]
theorem qqi (a b:List Int):a.map c8++b.map c8=(a++b).map c8:=by simp
theorem Oq (b:List Int) (hb:okB b) (hl:b.length<=1000000):a9 Φ GW [.slice 1 (b.map c8)]=some (.val (.slice 1 ((frB b).map c8))):=by
 rw [aA rfl rfl];have hw:IntKind.wrap .u32 (b.length:Int)=(b.length:Int):=gQ (by omega);have k1:=fun O N=>kword (b.length:Int) O N
 have ho:okB (be4 b.length++b):=LW (LY _) hb;have k2:=kfnv (be4 b.length++b) ho (by simp [OW];omega);have k3:=fun O N=>kword (fnv (be4 b.length++b)) O N
 have a1:=al8 b;have a2:=al8 (be4 (fnv (be4 b.length++b)));have n4:∀v,(be4 v).length=4:=OW;have nF:=OW (fnv (be4 b.length++b));have z1:∀v,¬(be4 v).map c8=[]:=fun v=>by simp [be4]
 have hR:(frB b).map c8=((be4 b.length).map c8++b.map c8)++(be4 (fnv (be4 b.length++b))).map c8:=by simp [frB]
 rw [hR];rw [<- qqi] at k2;have m1:(4+b.length)<=70368744177664:=by omega
 have m2:(4+b.length+4)<=70368744177664:=by omega
 generalize be4 (fnv (be4 b.length++b))=F at*;generalize fnv (be4 b.length++b)=f at*;simp [SJ,hw,k1,k2,k3,a1,a2,n4,nF,z1,m1,m2]
theorem Rv (n m:Nat) (hn:n<2^32) (hm:m<2^32):ixor .u32 (n:Int) (m:Int)=((n^^^m:Nat):Int):=by
 have hx:n^^^m<2^32:=Nat.xor_lt_two_pow hn hm;unfold ixor;rw [Q5,Q5,BitVec.toNat_xor,A5,A5];rw [show IntKind.bits .u32=32 by rfl,zG hn,zG hm];exact gQ (by omega)
variable {x:Int}
theorem RO (h:0<=x/\x<18446744073709551616):IntKind.wrap .u64 x=x:=by
 simp [IntKind.wrap,IntKind.bits,IntKind.signed];omega
theorem Rx (n m:Nat) (hn:n<2^32) (hm:m<2^32):ixor .u64 (n:Int) (m:Int)=((n^^^m:Nat):Int):=by
 have hx:n^^^m<2^32:=Nat.xor_lt_two_pow hn hm;unfold ixor;rw [Q5,Q5,BitVec.toNat_xor,A5,A5];rw [show IntKind.bits .u64=64 by rfl,zG (by omega),zG (by omega)];exact RO (by omega)
theorem fnv64 {h c:Int} (hh:0<=h/\h<=4294967295) (hc:0<=c/\c<=255):IntKind.wrap .u64 (ixor .u64 h c*16777619)=ixor .u32 h c*16777619/\0<=ixor .u32 h c*16777619:=by
 obtain ⟨n,rfl⟩:∃n:Nat,h=n:=⟨h.toNat,by omega⟩;obtain ⟨m,rfl⟩:∃m:Nat,c=m:=⟨c.toNat,by omega⟩;have hx:n^^^m<2^32:=Nat.xor_lt_two_pow (by omega) (by omega);rw [Rx n m (by omega) (by omega),Rv n m (by omega) (by omega)];exact ⟨RO (by omega),by omega⟩
theorem rfnv (b:List Int) (hb:okB b) (h40:b.length<2^40):a9 Φ v7 [.slice 1 (b.map c8)]=some (.val (.int .u32 (fnv b))):=by
 rw [aA rfl rfl];simp [JE];refine dK b.length (fun _=>[]) 0 (fun i e=>look 0 e=some (.slice 1 (b.map c8))/\look 3 e=some (.int .u64 (fnv (b.take i)))/\look 4 e=some (a8 i))
  (fun _=>some (Rt.val (.int .u32 (fnv b)))) ?_ ?_ 0 _ _ (Qc _) (Qc _) ?_
 ·rintro i e n K hi hK _ ⟨h0,h3,h4⟩ ih;have hw:=aL i (by omega);have hx:=hb _ (Qd hi);have w8:IntKind.wrap .u64 b[i]=b[i]:=RO (by omega);have hr:=UN (b.take i);obtain ⟨e1,e2⟩:=fnv64 hr hx;have hs:fnv (b.take (i+1))=fnv1 (fnv (b.take i)) b[i]:=qsl _ hi;have e3:(ixor .u32 (fnv (b.take i)) b[i]*16777619).tmod 4294967296=fnv (b.take (i+1)):=by
   rw [WJ e2,hs];rfl
  generalize hX:some (Rt.val (.int .u32 (fnv b)))=X at ih ⊢;simp [c_141_l0,h0,h3,h4,hi,hw,c8e,w8,e1,e3];exact ih _ _ (Qc _) ⟨by simp [h0],by simp,by simp⟩
 ·rintro e n K hK _ ⟨h0,h3,h4⟩;rw [Qo (Qb _)] at h3;have hr:=UN b;have hw:IntKind.wrap .u32 (fnv b)=fnv b:=gQ hr;simp [c_141_l0,c_141_k1,h0,h3,h4,hK,hw]
 ·simp [fnv,fnvL]
theorem rbig (v:Int) (hv:0<=v/\v<=4294967295):a9 Φ qK [.int .u32 v]=some (.val (.slice 1 ((be4 v).map c8))):=by
 rw [aA rfl rfl];have q1:IntKind.wrap .u32 (v.tdiv 16777216)=v / 16777216:=by rw [WK hv.1];exact gQ (by omega)
 have q2:IntKind.wrap .u32 (v.tdiv 65536)=v / 65536:=by rw [WK hv.1];exact gQ (by omega)
 have q3:IntKind.wrap .u32 (v.tdiv 256)=v / 256:=by rw [WK hv.1];exact gQ (by omega)
 simp [JD,q1,q2,q3,wr8u,be4,c8e]
theorem Mc (b:List Int) (hb:okB b) (hl:4<=b.length) (h40:b.length<2^40):a9 Φ v8 [.slice 1 (b.map c8)]=some (.val (a8 (num 4 b))):=by
 rw [aA rfl rfl];have i0:0<b.length:=by omega
 have i1:1<b.length:=by omega
 have i2:2<b.length:=by omega
 have i3:3<b.length:=by omega
 have h0:=hb _ (Qd i0);have h1:=hb _ (Qd i1);have h2:=hb _ (Qd i2);have h3:=hb _ (Qd i3);have w0:IntKind.wrap .i64 b[0]=b[0]:=bJ (by omega) (by omega);have w1:IntKind.wrap .i64 b[1]=b[1]:=bJ (by omega) (by omega);have w2:IntKind.wrap .i64 b[2]=b[2]:=bJ (by omega) (by omega);have w3:IntKind.wrap .i64 b[3]=b[3]:=bJ (by omega) (by omega);have p0:IntKind.wrap .i64 ((16777216:Int)*b[0])=(16777216:Int)*b[0]:=bJ (by omega) (by omega);have p1:IntKind.wrap .i64 ((65536:Int)*b[1])=(65536:Int)*b[1]:=bJ (by omega) (by omega);have p2:IntKind.wrap .i64 ((256:Int)*b[2])=(256:Int)*b[2]:=bJ (by omega) (by omega);have s1:IntKind.wrap .i64 ((16777216:Int)*b[0]+(65536:Int)*b[1])=(16777216:Int)*b[0]+(65536:Int)*b[1]:=bJ (by omega) (by omega);have s2:IntKind.wrap .i64 ((16777216:Int)*b[0]+(65536:Int)*b[1]+(256:Int)*b[2])=(16777216:Int)*b[0]+(65536:Int)*b[1]+(256:Int)*b[2]:=bJ (by omega) (by omega);have s3:IntKind.wrap .i64 ((16777216:Int)*b[0]+(65536:Int)*b[1]+(256:Int)*b[2]+b[3])=num 4 b:=by
  rw [XU b i3];refine (bJ (by omega) (by omega)).trans ?_;omega
 have k0:IntKind.wrap .i64 0=0:=by decide
 have k1:IntKind.wrap .i64 1=1:=by decide
 have k2:IntKind.wrap .i64 2=2:=by decide
 have k3:IntKind.wrap .i64 3=3:=by decide
 simp [JF,c8e,i0,i1,i2,i3,w0,w1,w2,w3,p0,p1,p2,s1,s2,s3]
theorem Rc (b:List Int) (hb:okB b) (hl:b.length<=1000000):a9 Φ H6 [.slice 1 (b.map c8)]=some (.val (.slice 1 ((frB b).map c8))):=by
 rw [aA rfl rfl];have hw:IntKind.wrap .u32 (b.length:Int)=(b.length:Int):=gQ (by omega);have k1:=rbig (b.length:Int) (by omega);have ho:okB (be4 b.length++b):=LW (LY _) hb;have k2:=rfnv (be4 b.length++b) ho (by simp [OW];omega);have k3:=rbig (fnv (be4 b.length++b)) (UN _);have a0:=al8 (be4 b.length);have a1:=al8 b;have a2:=al8 (be4 (fnv (be4 b.length++b)));have n4:∀v,(be4 v).length=4:=OW;have nF:=OW (fnv (be4 b.length++b));have z1:∀v,¬(be4 v).map c8=[]:=fun v=>by simp [be4]
 have hR:(frB b).map c8=((be4 b.length).map c8++b.map c8)++(be4 (fnv (be4 b.length++b))).map c8:=by simp [frB]
 rw [hR];rw [<- qqi] at k2;have m1:(4+b.length)<=70368744177664:=by omega
 have m2:(4+b.length+4)<=70368744177664:=by omega
 generalize be4 (fnv (be4 b.length++b))=F at*;generalize fnv (be4 b.length++b)=f at*;simp [SO,hw,k1,k2,k3,a0,a1,a2,n4,nF,m1,m2]
theorem qwk:∀{a b:List Int},okB a->okB b->strB a=strB b->a=b
 | [],[],_,_,_=>rfl
 | [],y::b,_,_,h=>by simp [strB] at h
 | x::a,[],_,_,h=>by simp [strB] at h
 | x::a,y::b,ha,hb,h=>by
  simp only [strB,u9,List.cons.injEq] at h;have h1:=ha x (by simp);have h2:=hb y (by simp);have hx:x=y:=by
   have:=congrArg UInt8.toNat h.1;simp at this;omega
  rw [hx,qwk (a:=a) (b:=b) (fun z hz=>ha z (by simp [hz])) (fun z hz=>hb z (by simp [hz])) h.2]
theorem Ia (hb:okB b) (hl:b.length=4):be4 (num 4 b)=b:=by
 match b,hl with
 | [x,y,z,w],_=>
  have h1:=hb x (by simp);have h2:=hb y (by simp);have h3:=hb z (by simp);have h4:=hb w (by simp);simp [num,be4];omega
theorem Bs (b:List Int) (h:4<=b.length):num 4 (b.take 4)=num 4 b:=by
 match b,h with
 | x::y::z::w::l,_=>rfl
theorem Mw {v:Int} (hv:0<=v/\v<=4294967295) (hb:okB b) (hl:4<=b.length):(strB (be4 v)=strB (b.take 4))↔v=num 4 b:=by
 have hk:okB (b.take 4):=fun x hx=>hb x (Qu hx)
 have hn:=Bs b hl;constructor
 ·intro h;have:=qwk (LY v) hk h;rw [<- hn,<- this];have:=Jb hv [];rw [MO] at this;exact this.symm
 ·intro h;rw [h,<- hn,Ia hk (by simp;omega)]
theorem Gp (b:List Int) (hb:okB b) (h40:b.length<2^40):a9 Φ H8 [.slice 1 (b.map c8)]=some (.val (.tup [.slice 1 ((unfB b).1.map c8),a8 (unfB b).2.1,a8 (unfB b).2.2])):=by
 rw [aA rfl rfl];unfold unfB;by_cases q:b.length<8
 ·have q':(b.length:Int)<8:=by omega
  simp [BK,q,q']
 have q':¬(b.length:Int)<8:=by omega
 have k1:=Mc b hb (by omega) h40;have hr:=Ut hb (by omega);have w1:IntKind.wrap .i64 ((b.length:Int) - 8)=(b.length:Int) - 8:=bJ (by omega) (by omega);rw [QA q];by_cases q2:(b.length:Int) - 8<num 4 b
 ·rw [aB q2];simp [BK,q',k1,w1,q2]
 rw [QA q2];obtain ⟨n,hn⟩:∃n:Nat,num 4 b=n:=⟨(num 4 b).toNat,by omega⟩;rw [hn] at k1 q2 hr ⊢;rw [S9];have w2:IntKind.wrap .i64 ((n:Int)+4)=4+(n:Int):=(bJ (by omega) (by omega)).trans (by omega);have w3:IntKind.wrap .i64 ((n:Int)+8)=8+(n:Int):=(bJ (by omega) (by omega)).trans (by omega);have ht:okB (b.take (4+n)):=fun x hx=>hb x (Qu hx)
 have hd:okB (b.drop (4+n)):=UE hb _;have k2:=rfnv (b.take (4+n)) ht (by simp;omega);have k3:=rbig (fnv (b.take (4+n))) (UN _);have hc:=Mw (v:=fnv (b.take (4+n))) (b:=b.drop (4+n)) (UN _) hd (by simp;omega);have b1:=X0;rw [pK] at k2;have c1:(0:Int)<=4+(n:Int)/\4+(n:Int)<=(b.length:Int):=by omega
 have c2:(0:Int)<=4+(n:Int)/\4+(n:Int)<=8+(n:Int)/\8+(n:Int)<=(b.length:Int):=by omega
 have c3:(0:Int)<=8+(n:Int)/\8+(n:Int)<=(b.length:Int):=by omega
 have c4:(4:Int)<=4+(n:Int):=by omega
 have c5:4+(n:Int)<=8+(n:Int):=by omega
 have t4:(4+(n:Int)).toNat=4+n:=by omega
 have t8:(8+(n:Int)).toNat=8+n:=by omega
 have m3:(8+n) - (4+n)=4:=by omega
 have x1:((b.map c8).drop (4+n)).take 4=((b.drop (4+n)).take 4).map c8:=by rw [pK,GG]
 have x2:((b.map c8).drop 4).take n=((b.drop 4).take n).map c8:=by rw [pK,GG]
 have x3:4+n - 4=n:=by omega
 have s1:=fun h=>X0 h 1 (be4 (fnv (b.take (4+n))))
 have s2:=fun h=>X0 h 1 ((b.drop (4+n)).take 4)
 have al:=al8 ((b.drop 4).take n);have am:((b.drop 4).take n).length<=70368744177664:=by simp;omega
 by_cases z:fnv (b.take (4+n))=num 4 (b.drop (4+n))
 ·have hz:=hc.2 z;rw [QA (by simpa using z)];clear hc z hd ht;rw [hz] at s1;generalize fnv (b.take (4+n))=F at*;generalize be4 F=E at*;generalize (b.drop (4+n)).take 4=G at*;generalize (b.drop 4).take n=B at*;simp [BK,q',k1,w1,q2,w2,w3,k2,k3,c1,c2,c3,c4,c5,t4,t8,m3,x1,x2,x3,Vw,s1,s2,al,am,-X6];omega
 ·have hz:¬strB (be4 (fnv (b.take (4+n))))=strB ((b.drop (4+n)).take 4):=fun h=>z (hc.1 h)
  rw [aB (by simpa using z)];clear hc z hd ht;generalize fnv (b.take (4+n))=F at*;generalize be4 F=E at*;generalize (b.drop (4+n)).take 4=G at*;simp [BK,q',k1,w1,q2,w2,w3,k2,k3,c1,c2,c3,c4,c5,t4,t8,m3,x1,Vw,s1,s2,hz,-X6]
theorem Ni (l:List Int) (h:l.length<2^40):a9 Φ NR [.slice 1 (l.map c8)]=some (.val (.slice 1 (l.map c8))):=
 LO (bytes:=1) rfl _ (sK 1 c8 l fun x=>by simp [c8]) (by rw [dQ];omega)
theorem De (b:List Int) (hb:okB b) (h40:b.length<2^40):a9 Φ NJ [.slice 1 (b.map c8)]=some (.val (.tup [.slice 1 ((unfB b).1.map c8),a8 (unfB b).2.1,a8 (unfB b).2.2])):=by
 rw [aA rfl rfl];unfold unfB;by_cases q:b.length<8
 ·have q':(b.length:Int)<8:=by omega
  simp [B3,q,q']
 have q':¬(b.length:Int)<8:=by omega
 have k1:=qya b hb (by omega) h40;have hr:=Ut hb (by omega);have w0:IntKind.wrap .u64 (b.length:Int)=(b.length:Int):=RO (by omega);have w1:IntKind.wrap .u64 ((b.length:Int) - 8)=(b.length:Int) - 8:=RO (by omega);rw [QA q];obtain ⟨n,hn⟩:∃n:Nat,num 4 b=n:=⟨(num 4 b).toNat,by omega⟩;rw [hn] at k1 hr ⊢;have w2:IntKind.wrap .u64 (n:Int)=(n:Int):=RO (by omega);by_cases q2:(b.length:Int) - 8<(n:Int)
 ·rw [aB q2];simp [B3,q',k1,w0,w1,w2,q2]
 rw [QA q2];rw [S9];have w3:IntKind.wrap .i64 (n:Int)=(n:Int):=bJ (by omega) (by omega);have w4:IntKind.wrap .i64 (4+(n:Int))=4+(n:Int):=bJ (by omega) (by omega);have w5:IntKind.wrap .i64 (4+(n:Int)+4)=(n:Int)+8:=(bJ (by omega) (by omega)).trans (by omega);have ht:okB (b.take (4+n)):=fun x hx=>hb x (Qu hx)
 have hd:okB (b.drop (4+n)):=UE hb _;have k2:=kfnv (b.take (4+n)) ht (by simp;omega);have k3:=qya (b.drop (4+n)) hd (by simp;omega) (by simp;omega);have k4:=Ni ((b.drop 4).take n) (by simp;omega);rw [pK] at k2;rw [GG] at k3;rw [pK,GG] at k4;have c1:(0:Int)<=4+(n:Int)/\4+(n:Int)<=(b.length:Int):=by omega
 have c4:(4:Int)<=4+(n:Int):=by omega
 have t4:(4+(n:Int)).toNat=4+n:=by omega
 have x3:4+n - 4=n:=by omega
 have x4:((b.map c8).drop (4+n)).take (b.length - (4+n))=(b.map c8).drop (4+n):=Qo (by simp);by_cases z:fnv (b.take (4+n))=num 4 (b.drop (4+n))
 ·rw [QA (by simpa using z)];rw [z] at k2;generalize num 4 (b.drop (4+n))=F at*;simp [B3,q',k1,w0,w1,w2,w3,w4,w5,q2,k2,k3,k4,c1,c4,t4,x3,x4]
 ·rw [aB (by simpa using z)];generalize fnv (b.take (4+n))=E at*;generalize num 4 (b.drop (4+n))=F at*;simp [B3,q',k1,w0,w1,w2,w3,w4,q2,k2,k3,c1,c4,t4,x4,z]
def rlC (p:Prg) (g:LgV):List AV:=Prg.c p++(Xf.c g.c++[.slice 1 (g.b.map c8),a8 g.n])
variable (p:Prg)
theorem sV (g:LgV):rlC p g=(mN p [.slice 1 (g.c.rows.map (cS 5 Rw.c)),.slice 1 (g.c.Xr.map cI),.slice 2 (g.c.Xq.map Xb.c),.slice 1 (g.c.Xm.map (cS 1 c32)),.slice 1 (g.b.map c8),a8 g.n]):=by
 simp [rlC,Prg.e,Xf.ce]
def noLg:List AV:=[.str [],.slice 2 [],.slice 2 [],.slice 3 [],.slice 3 [],.slice 6 [],.slice 7 [],.slice 5 [],.slice 1 [],.slice 1 [],.slice 1 [],.slice 2 [],.slice 1 [],.slice 1 [],a8 0]
def lg0 (p:Prg):LgV:=⟨gA p,[],0⟩
theorem rlnew (f:PrgS p) (hv:∀t∈p.Xn,∀v∈t.Yc.args,ok32 0 v) (hc:(pre p.Yb).length<2^40 - 1):
  a9 Φ NL [.agg (Prg.c p)]=some (.val (if (prgD p).1=0 then .tup [.agg (rlC p (lg0 p)),a8 0] else .tup [.agg noLg,a8 (prgD p).1])):=by
 rw [aA rfl rfl];have h1:=Zt p f hv hc;have h2:=Ch p f;simp only [Prg.e,Xf.ce,dgC] at h1 h2;by_cases z:(prgD p).1=0
 ·rw [aB z];simp [MT,Prg.e,h1,h2,z,sV,lg0]
 ·rw [QA z];simp [MT,Prg.e,h1,z,noLg]
theorem TI (h:OpS o):okO o:=by
 have c:∀v:Int,ok32 0 v->0<=v/\v<=4294967295:=fun v h=>by unfold ok32 at h;omega
 exact ⟨fun k hk=>⟨c _ (h.e.ks k hk).1,c _ (h.e.ks k hk).2⟩,fun v hv=>c _ (h.e.ar v hv),fun v hv=>c _ (h.c.ar v hv)⟩
theorem U9 (l:List Xc):(encB l).length<=300000:=by
 by_cases q:l.length<=64/\∀o∈l,opE o=true
 ·exact Ea q.2 q.1
 ·unfold encB;rw [QA q];simp
def cmR (p:Prg) (g:LgV) (l:List Xc):AV:=match badA p g.c l with
 | some (k,e)=> .tup [.agg (rlC p g),.slice 1 [],.int .i64 k,.int .i64 e]
 | none=> .tup [.agg (rlC p (cmt p g l)),.slice 1 (idsA p g.c l),.int .i64 0,.int .i64 0]
variable {g:LgV}
theorem Ga (op:p.Ok fL) (hv:∀t∈p.Xn,∀v∈t.Yc.args,ok32 0 v) (hc:(pre p.Yb).length<2^40 - 1) (hp:p.Xn.length<2^40) (s:CfgT g.c) (hb:g.b.length<2^40) (hn:g.n<2^40) (l:List Xc) (ol:l.length<2^40) (hl:∀o∈l,OpS o):
  a9 Φ NM [.agg (rlC p g),.slice 9 (l.map Xc.c)]=some (.val (cmR p g l)):=by
 rw [aA rfl rfl];have k1:=Bf p (HL op) hv hc hp s l ol hl;have k2:=Ld l fun o ho=>TI (hl o ho)
 have k3:=Rc (encB l) (quz l) (by have:=U9 l;omega);unfold cmR;cases hA:badA p g.c l with
 | some x=>
  obtain ⟨k,x⟩:=x;have hx:=LX hA;rw [show appA p g.c l= .tup [.agg noC,.slice 1 [],a8 k,a8 x] by simp only [appA,hA]] at k1;simp only [Prg.e,Xf.ce,noC] at k1;simp [MU,sV,k1,hx]
 | none=>
  rw [show appA p g.c l= .tup [.agg (Xf.c (cfgN p g.c l l.length)),.slice 1 (idsA p g.c l),a8 0,a8 0] by simp only [appA,hA];rfl,Uh] at k1;have hw:IntKind.wrap .i64 ((g.n:Int)+1)=((g.n+1:Nat):Int):=bJ (by omega) (by omega);have a1:=al8 g.b;have a2:=al8 (frB (encB l));have nF:(frB (encB l)).length<=300008:=by rw [Y5];have:=U9 l;omega
  have m1:g.b.length<=70368744177664:=by omega
  have m2:g.b.length+(frB (encB l)).length<=70368744177664:=by omega
  simp only [cmt];generalize xoF p g.c l=d at*;generalize frB (encB l)=F at*;generalize idsA p g.c l=il at*;simp only [Prg.e,Xf.ce] at k1;simp [MU,sV,k1,k2,k3,hw,a1,a2,m1,m2]
def oS (p:Prg) (c:Xf) (R:AV) (n:Nat):List AV:= .bool true::(Prg.c p++(Xf.c c++[R,a8 n]))
theorem tG (c:Xf) (R:AV) (n:Nat):oS p c R n=((.bool true)::mN p [.slice 1 (c.rows.map (cS 5 Rw.c)),.slice 1 (c.Xr.map cI),.slice 2 (c.Xq.map Xb.c),.slice 1 (c.Xm.map (cS 1 c32)),R,a8 n]):=by
 simp [oS,Prg.e,Xf.ce]
def tid:AV->Option Nat
 | .app _ _ T=>some T
 | _=>none
structure LogM (O:List (Nat×AO)) (t:Nat) (R:AV) (p:Prg) (g:LgV):Prop where
 row:look t O=some (.row 16 [oS p g.c R g.n])
 rcd:(R= .Xu 1 []/\g.b=[])\/∃T,R= .app 1 (g.b.map c8) T/\look T O=some (.tok 1 g.b.length)
theorem LogM.fr {O O':List (Nat×AO)} {t:Nat} {R:AV} {p:Prg} {g:LgV} (m:LogM O t R p g) (h:look t O'=look t O) (h2:∀j,tid R=some j->look j O'=look j O):LogM O' t R p g:=by
 refine ⟨by rw [h];exact m.row,?_⟩;rcases m.rcd with h3 | ⟨T,rfl,h4⟩
 ·exact .inl h3
 ·exact .inr ⟨T,rfl,by rw [h2 T rfl];exact h4⟩
theorem LogM.src {O:List (Nat×AO)} {t:Nat} {R:AV} {p:Prg} {g:LgV} (m:LogM O t R p g) (H:AH):kF H R=some (g.b.map c8)/\lenOf R=some g.b.length/\snap 38 H R=some (.slice 1 (g.b.map c8)):=by
 rcases m.rcd with ⟨rfl,h⟩ | ⟨T,rfl,h⟩
 ·rw [h];exact ⟨rfl,rfl,by simp⟩
 ·exact ⟨rfl,by simp,by simp⟩
variable {O:List (Nat×AO)}
theorem Dl (op:p.Ok fL) (hc:(pre p.Yb).length<2^40 - 1) (he:(prgD p).1=0) (hT:Tail O n):
  aN Φ CD [.agg (Prg.c p)] ⟨O,n⟩=some (.val (.tup [.ptr (n+1) 16 0 0,a8 0]),⟨O++[(n,.row 9 [Prg.c p]),(n+1,.row 16 [oS p (gA p) (.Xu 1 []) 0])],n+2⟩):=by
 have f:=HL op;rw [dW rfl rfl];have t0:=hT n (Qb _);have t1:=hT (n+1) (by omega);have h:=Sg p f hc;have sT:=T6 op;have h2:=Dz p f fun t ht=>(sT.ds t.Yc (by simp [gA];exact ⟨t,ht,rfl⟩)).1
 have h3:=qs1 p op;simp only [Prg.e,dgC,Xf.ce] at h h2 h3;simp [MR,Prg.e,tG,t0,t1,h,h2,h3,he]
theorem Br (f:PrgS p) (hc:(pre p.Yb).length<2^40 - 1) (he:¬(prgD p).1=0) (O:List (Nat×AO)) (n:Nat) (hO:look n O=none):
  aN Φ CD [.agg (Prg.c p)] ⟨O,n⟩=some (.val (.tup [.nilptr,a8 (prgD p).1]),⟨O++[(n,.row 9 [Prg.c p])],n+1⟩):=by
 rw [dW rfl rfl];have h:=Sg p f hc;simp only [Prg.e,dgC] at h;simp [MR,Prg.e,hO,h,he]
def jcA1:Xv:=match dR.code with | .seq a _=>a | _=> .skip
def jcA2:Xv:=match dR.code with | .seq _ (.seq a _)=>a | _=> .skip
def jcA3:Xv:=match dR.code with | .seq _ (.seq _ (.seq a _))=>a | _=> .skip
def jcB:Xv:=match dR.code with | .seq _ (.seq _ (.seq _ (.dfr _ _ b)))=>b | _=> .skip
def jcO:List Xw:=[⟨some 21,none,.mkfunc (.func lJ) [] [.t 6,.t 7,.t 2]⟩]
theorem Jx:dR.code= .seq jcA1 (.seq jcA2 (.seq jcA3 (.dfr jcO 21 jcB))):=rfl
def OpV (v:AV) (l:List Xc):Prop:=v= .slice 9 (l.map Xc.c)\/(v= .Xu 9 []/\l=[])
theorem OpV.snp {v:AV} {l:List Xc} (h:OpV v l) (n:Nat) (H:AH):snap (n+1) H v=some (.slice 9 (l.map Xc.c)):=by
 rcases h with rfl | ⟨rfl,rfl⟩<;>simp
theorem OpV.nb {v:AV} {l:List Xc} (h:OpV v l) (n:Nat):bor (n+1) v=false:=by
 rcases h with rfl | ⟨rfl,rfl⟩<;>simp
variable {N t:Nat}
theorem jc1 (hT:Tail O N) (w:AV):∃e,dN Φ jcA1 ⟨fW 0 [.ptr t 16 0 0,w],⟨O,N⟩⟩=some (.normal,⟨e,⟨O++[(N,.row 1 [[.ptr t 16 0 0]])]++[(N+1,.row 1 [[a8 0]])],N+2⟩⟩)/\look 1 e=some w/\look 2 e=some (.ptr N 1 0 0)/\look 6 e=some (.ptr (N+1) 1 0 0):=by
 have t0:=hT N (Qb _);have t1:=hT (N+1) (by omega);rw [oM];simp [jcA1,dR,t0,t1]
variable {R w x6:AV}
theorem jc2 {b:Nat} {p:Prg} (m:LogM O t R p g) (h2:look 2 e=some (.ptr b 1 0 0)) (hb:look b O=some (.row 1 [[.ptr t 16 0 0]])) (h1:look 1 e=some w) (h6:look 6 e=some x6):
  ∃e',dN Φ jcA2 ⟨e,⟨O,N⟩⟩=some (.normal,⟨e',⟨O,N⟩⟩)/\look 1 e'=some w/\look 2 e'=some (.ptr b 1 0 0)/\look 6 e'=some x6:=by
 have h:=m.row;rw [tG] at h;rw [oM];simp [jcA2,dR,h,h1,h2,h6,hb]
theorem jc3 {b:Nat} {p:Prg} (hT:Tail O N) (m:LogM O t R p g) (h2:look 2 e=some (.ptr b 1 0 0)) (hb:look b O=some (.row 1 [[.ptr t 16 0 0]])) (h1:look 1 e=some w) (h6:look 6 e=some x6):
  ∃e',dN Φ jcA3 ⟨e,⟨O,N⟩⟩=some (.normal,⟨e',⟨O++[(N,.row 4 [Xf.c g.c])],N+1⟩⟩)/\look 1 e'=some w/\look 2 e'=some (.ptr b 1 0 0)/\look 6 e'=some x6/\look 7 e'=some (.ptr N 4 0 0):=by
 have h:=m.row;rw [tG] at h;have t0:=hT N (Qb _);rw [oM];simp [jcA3,dR,h,h1,h2,h6,hb,t0,Xf.ce]
def MA:Xf:=⟨[],[],[],[]⟩
section
variable (p:Prg) (op:p.Ok fL) (hc:(pre p.Yb).length<2^40 - 1) (hp:p.Xn.length<2^40) {g:LgV} (s:CfgT g.c) {l:List Xc} (hl:∀o∈l,OpS o) {v:AV} (hv:OpV v l)
  {O:List (Nat×AO)} {N t b2 b6:Nat} {R:AV} (hT:Tail O N) (m:LogM O t R p g) {e:Env} (h1:look 1 e=some v) (h2:look 2 e=some (.ptr b2 1 0 0)) (h6:look 6 e=some (.ptr b6 1 0 0))
  (hb2:look b2 O=some (.row 1 [[.ptr t 16 0 0]])) (hb6:look b6 O=some (.row 1 [[a8 0]])) (n6:b6≠b2)
include op hc hp s hl hv m h1 h2 h6 hb2 hb6 n6
theorem Jw {k:Int} (hA:badA p g.c l=some (k,x)):
  ∃e' O',dN Φ jcB ⟨e,⟨O,N⟩⟩=some (.ret,⟨e',⟨O',N⟩⟩)/\look 4 e'=some (.Xu 1 [])/\look 5 e'=some (a8 k)/\look 6 e'=some (.ptr b6 1 0 0)/\O'=setl b6 (.row 1 [[a8 x]]) (setl b6 (.row 1 [[a8 x]]) (setl t (.row 16 [oS p MA R g.n]) O)):=by
 have h:=m.row;rw [tG] at h;have n1:b6≠t:=b8 hb6 h (by simp);have n2:b2≠t:=b8 hb2 h (by simp);have n3:=n1.symm;have n4:=n2.symm;have n5:=n6.symm;have hx:=LX hA;have k1:=quc p op hc hp s l hl;rw [show appA p g.c l= .tup [.agg noC,.slice 1 [],a8 k,a8 x] by simp only [appA,hA]] at k1;simp only [Prg.e,Xf.ce,noC] at k1;have sn:=hv.snp;have nb:=hv.nb;rw [oM];simp [jcB,dR,h,h1,h2,h6,hb2,hb6,sn,nb,k1,hx,aG,n1,n2,n3,n4,n5,n6,tG,MA];exact ⟨_,_,⟨rfl,rfl⟩,by simp,by simp,by simp [h6],rfl⟩
include hT in
theorem Om (hA:badA p g.c l=none) (hn:g.n<2^40) (hb:g.b.length<2^40):
  ∃e' O' N' R',dN Φ jcB ⟨e,⟨O,N⟩⟩=some (.ret,⟨e',⟨O',N'⟩⟩)/\look 4 e'=some (.slice 1 (idsA p g.c l))/\look 5 e'=some (a8 0)/\look 6 e'=some (.ptr b6 1 0 0)/\N<=N'/\Tail O' N'/\LogM O' t R' p (cmt p g l)/\(∀j,tid R'=some j->tid R=some j\/N<=j)/\Kp (fun j=>j=t\/j=b6\/tid R=some j\/Rs O j) N O O'/\look b6 O'=some (.row 1 [[a8 0]]):=by
 have h:=m.row;rw [tG] at h;have n1:b6≠t:=b8 hb6 h (by simp);have n2:b2≠t:=b8 hb2 h (by simp);have n3:=n1.symm;have n4:=n2.symm;have n5:=n6.symm;have k1:=quc p op hc hp s l hl;rw [show appA p g.c l= .tup [.agg (Xf.c (cfgN p g.c l l.length)),.slice 1 (idsA p g.c l),a8 0,a8 0] by simp only [appA,hA];rfl,Uh] at k1;have k2:=Jv l fun o ho=>TI (hl o ho)
 have k3:=Oq (encB l) (quz l) (by have:=U9 l;omega);have hw:IntKind.wrap .i64 ((g.n:Int)+1)=((g.n+1:Nat):Int):=bJ (by omega) (by omega);have a2:=al8 (frB (encB l));have nF:(frB (encB l)).length<=300008:=by rw [Y5];have:=U9 l;omega
 have nF0:¬(frB (encB l)).map c8=[]:=by
  intro hh;have:=congrArg List.length hh;rw [dQ,Y5] at this;simp at this
 have m1:(frB (encB l)).length<=70368744177664:=by omega
 have m2:g.b.length+(frB (encB l)).length<=70368744177664:=by omega
 have sn:=hv.snp;have nb:=hv.nb;have hT':∀k,look (N+k) O=none:=fun k=>hT (N+k) (by omega)
 have l2:=hT.lt hb2;have l6:=hT.lt hb6;have lt:=hT.lt h;have q2:∀k,¬N+k=b2:=fun k=>by omega
 have q6:∀k,¬N+k=b6:=fun k=>by omega
 have qt:∀k,¬N+k=t:=fun k=>by omega
 have p2:∀k,¬b2=N+k:=fun k=>by omega
 have p6:∀k,¬b6=N+k:=fun k=>by omega
 have pt:∀k,¬t=N+k:=fun k=>by omega
 have r2:∀k,(b2 == N+k)=false:=fun k=>by simp;omega
 have rt:∀k,(t == N+k)=false:=fun k=>by simp;omega
 have hR:=m.rcd;simp only [cmt];generalize xoF p g.c l=d at*;generalize frB (encB l)=F at*;generalize idsA p g.c l=il at*;simp only [Prg.e,Xf.ce] at k1;rw [oM];rcases hR with ⟨rfl,hz⟩ | ⟨T,rfl,hz⟩
 ·simp [jcB,dR,h,h1,h2,h6,hb2,hb6,sn,nb,k1,k2,k3,hw,a2,nF0,m1,aG,n1,n2,n3,n4,n5,n6,tG,hT',aV,q2,q6,qt,p2,p6,pt,r2,rt,fK];refine ⟨_,_,_,⟨rfl,rfl,rfl⟩,by simp,by simp,by simp [h6],by omega,?_,.app 1 (F.map c8) (N+52),⟨?_,.inr ⟨N+52,by simp [hz],?_⟩⟩,?_,?_,?_⟩
  ·refine cY (cY (OH (cY (Tail_append_iff.2 ⟨cY (cY (hT.mono (by omega))),?_⟩))));simp [s5,LK]
  ·simp [aG,aV,fK,h,hb6,hT',n1,n3,p6,pt,q6,qt,tG]
  ·simp [aG,aV,fK,h,hb6,hT',n1,n3,p6,pt,q6,qt,hz]
  ·intro j hj;simp [tid] at hj;right;omega
  ·intro j hj hx;have j1:¬j=t:=fun h=>hx (.inl h)
   have j2:¬j=b6:=fun h=>hx (.inr (.inl h))
   have j3:¬look j O=some .res:=fun h=>hx (.inr (.inr (.inr h)))
   have j4:¬N+52=j:=by omega
   cases hlo:look j O with
   | none=>simp [aG,aV,fK,j1,j2,j4,hlo]
   | some y=>
    have j5:¬y= .res:=fun hh=>j3 (by rw [hlo,hh])
    simp [aG,aV,fK,j1,j2,j4,hlo,j5]
  ·simp [aG,aV,fK,h,hb6,n1,n3]
 ·have u1:T≠t:=b8 hz h (by simp);have u2:T≠b6:=b8 hz hb6 (by simp);have u3:T≠b2:=b8 hz hb2 (by simp);have u4:=u1.symm;have u5:=u2.symm;have u6:=u3.symm;have lT:=hT.lt hz;have qT:∀k,¬N+k=T:=fun k=>by omega
  have pT:∀k,¬T=N+k:=fun k=>by omega
  have rT:∀k,(T == N+k)=false:=fun k=>by simp;omega
  have r3:(b2 == T)=false:=by simpa using u6
  have r4:(t == T)=false:=by simpa using u4
  simp [jcB,dR,h,h1,h2,h6,hb2,hb6,sn,nb,k1,k2,k3,hw,a2,nF0,m1,m2,aG,n1,n2,n3,n4,n5,n6,tG,hT',aV,q2,q6,qt,p2,p6,pt,r2,rt,fK,hz,u1,u2,u3,u4,u5,u6,qT,pT,rT,r3,r4];refine ⟨_,_,_,⟨rfl,rfl,rfl⟩,by simp,by simp,by simp [h6],by omega,?_,.app 1 ((g.b++F).map c8) T,⟨?_,.inr ⟨T,rfl,?_⟩⟩,?_,?_,?_⟩
  ·refine cY (cY (OH (cY (cY (Tail_append_iff.2 ⟨cY (cY (hT.mono (by omega))),?_⟩)))));simp [s5,LK]
  ·simp [aG,aV,fK,h,hb6,hT',n1,n3,p6,pt,q6,qt,u1,u2,u4,u5,tG]
  ·simp [aG,aV,fK,h,hb6,hz,hT',n1,n3,p6,pt,q6,qt,u1,u2,u4,u5]
  ·intro j hj;simp [tid] at hj;left;simp [tid,hj]
  ·intro j hj hx;have j1:¬j=t:=fun h=>hx (.inl h)
   have j2:¬j=b6:=fun h=>hx (.inr (.inl h))
   have j3:¬look j O=some .res:=fun h=>hx (.inr (.inr (.inr h)))
   have j4:¬N+52=j:=by omega
   have j6:¬j=T:=fun h=>hx (.inr (.inr (.inl (by simp [tid,h]))))
   cases hlo:look j O with
   | none=>simp [aG,aV,fK,j1,j2,j4,j6,hlo]
   | some y=>
    have j5:¬y= .res:=fun hh=>j3 (by rw [hlo,hh])
    simp [aG,aV,fK,j1,j2,j4,j6,hlo,j5]
  ·simp [aG,aV,fK,h,hb6,n1,n3,u2,u5]
end
variable {b6:Nat}
theorem On {a7 a2:AV} (hb6:look b6 O=some (.row 1 [[a8 0]])):cloI Φ dR .niliface [.ptr b6 1 0 0,a7,a2] ⟨O,N⟩=some ⟨O,N⟩:=by
 unfold cloI;rw [oM];simp [dR,recE,hb6]
theorem Oo {b7 b2:Nat} {p:Prg} {c c0:Xf} (hx:x≠0) (hb6:look b6 O=some (.row 1 [[a8 x]])) (hb7:look b7 O=some (.row 4 [Xf.c c])) (hb2:look b2 O=some (.row 1 [[.ptr t 16 0 0]])) (ht:look t O=some (.row 16 [oS p c0 R n])):
  cloI Φ dR .niliface [.ptr b6 1 0 0,.ptr b7 4 0 0,.ptr b2 1 0 0] ⟨O,N⟩=some ⟨setl t (.row 16 [oS p c R n]) O,N⟩:=by
 unfold cloI;rw [oM];rw [tG] at ht;rw [Xf.ce] at hb7;simp [dR,recE,hb6,hx,hb7,hb2,ht,tG]
def CJ (N:Nat) (O:List (Nat×AO)) (t:Nat) (R:AV) (p:Prg) (g:LgV) (l:List Xc) (r:Option (Rt×AH)):Prop:=
 ∃O' N' R',N<=N'/\Tail O' N'/\(∀j,tid R'=some j->tid R=some j\/N<=j)/\Kp (fun j=>j=t\/tid R=some j\/Rs O j) N O O'/\
  match badA p g.c l with
  | some (k,x)=>r=some (.val (.tup [.Xu 1 [],.int .i64 k,.int .i64 x]),⟨O',N'⟩)/\LogM O' t R' p g
  | none=>r=some (.val (.tup [.slice 1 (idsA p g.c l),.int .i64 0,.int .i64 0]),⟨O',N'⟩)/\LogM O' t R' p (cmt p g l)
theorem qzw (op:p.Ok fL) (hc:(pre p.Yb).length<2^40 - 1) (hp:p.Xn.length<2^40) (s:CfgT g.c) (hn:g.n<2^40) (hb:g.b.length<2^40) {l:List Xc} (hl:∀o∈l,OpS o) {v:AV} (hv:OpV v l)
    {O:List (Nat×AO)} {N t:Nat} {R:AV} (hT:Tail O N) (m:LogM O t R p g):CJ N O t R p g l (aN Φ GN [.ptr t 16 0 0,v] ⟨O,N⟩):=by
  rw [Ta Φ (d:=dR) rfl rfl,Jx];obtain ⟨e1,a1,g1,g2,g6⟩:=jc1 (t:=t) hT v;have t0:=hT N (Qb _);have t1:=hT (N+1) (by omega);have lt:=hT.lt m.row;have hT1:Tail (O++[(N,.row 1 [[.ptr t 16 0 0]])]++[(N+1,.row 1 [[a8 0]])]) (N+2):=(hT.app1 (Qb N)).app1 (Qb (N+1));have hk1:Kp (fun _=>False) N O (O++[(N,.row 1 [[.ptr t 16 0 0]])]++[(N+1,.row 1 [[a8 0]])]):=(Kp.app Kp.refl (Qb _)).app (xT _);have tl:∀{O:List (Nat×AO)} {N:Nat},Tail O N->LogM O t R p g->∀j,tid R=some j->j<N:=by
    intro O N hT m j hj;rcases m.rcd with ⟨rfl,_⟩ | ⟨T,rfl,h⟩
    · simp [tid] at hj
    · simp [tid] at hj;subst hj;exact hT.lt h
  have m1:=m.fr (hk1 t lt (by simp)) (fun j hj=>hk1 j (tl hT m j hj) (by simp));have q2:look N (O++[(N,.row 1 [[.ptr t 16 0 0]])]++[(N+1,.row 1 [[a8 0]])])=some (.row 1 [[.ptr t 16 0 0]]):=by simp [t0]
  have q6:look (N+1) (O++[(N,.row 1 [[.ptr t 16 0 0]])]++[(N+1,.row 1 [[a8 0]])])=some (.row 1 [[a8 0]]):=by simp [t1]
  generalize O++[(N,.row 1 [[.ptr t 16 0 0]])]++[(N+1,.row 1 [[a8 0]])]=H1 at*;obtain ⟨e2,a2,i1,i2,i6⟩:=jc2 (N:=N+2) m1 g2 q2 g1 g6;obtain ⟨e3,a3,h1,h2,h6,h7⟩:=jc3 hT1 m1 i2 q2 i1 i6;have t2:=hT1 (N+2) (Qb _);have hk2:Kp (fun _=>False) (N+2) H1 (H1++[(N+2,.row 4 [Xf.c g.c])]):=Kp.app Kp.refl (Qb _);have hT2:Tail (H1++[(N+2,.row 4 [Xf.c g.c])]) (N+3):=hT1.app1 (Qb _);have m2:=m1.fr (hk2 t (by omega) (by simp)) (fun j hj=>hk2 j (tl hT1 m1 j hj) (by simp));have q2:=hk2.lk hT1 q2 (by simp);have q6:=hk2.lk hT1 q6 (by simp);have q7:look (N+2) (H1++[(N+2,.row 4 [Xf.c g.c])])=some (.row 4 [Xf.c g.c]):=by simp [t2]
  have hkO:Kp (fun _=>False) N O (H1++[(N+2,.row 4 [Xf.c g.c])]):=hk1.trans hk2 (by omega);generalize H1++[(N+2,.row 4 [Xf.c g.c])]=H2 at*;have a4:bQ (aN Φ) none jcO ⟨e3,⟨H2,N+3⟩⟩=some (.normal,⟨(21,.func (.func lJ) [] [.ptr (N+1) 1 0 0,.ptr (N+2) 4 0 0,.ptr N 1 0 0])::e3,⟨H2,N+3⟩⟩):=by
    simp [jcO,bQ,gV,h2,h6,h7]
  have hcl:(look 21 ((21,AV.func (.func lJ) [] [.ptr (N+1) 1 0 0,.ptr (N+2) 4 0 0,.ptr N 1 0 0])::e3)).bind tgt=some (lJ,[.ptr (N+1) 1 0 0,.ptr (N+2) 4 0 0,.ptr N 1 0 0]):=by simp
  have z1:N+1≠N:=by omega
  unfold CJ;cases hA:badA p g.c l with
  | some x=>
    obtain ⟨k,x⟩:=x;have hx:=LX hA;obtain ⟨e4,O4,a5,j4,j5,j6,rfl⟩:=Jw (N:=N+3) (e:=(21,.func (.func lJ) [] [.ptr (N+1) 1 0 0,.ptr (N+2) 4 0 0,.ptr N 1 0 0])::e3) p op hc hp s hl hv m2 (by simp [h1]) (by simp [h2]) (by simp [h6]) q2 q6 z1 hA;simp only [sN,a1,a2,a3,a4];rw [a5,hcl];simp only [show dR.clo=lJ from rfl,show dR.ncaps=3 from rfl,mH,mI,and_self,if_true,G6];have n1:N+1≠t:=by omega
    have n2:N≠t:=by omega
    have n3:N+2≠t:=by omega
    have n4:t≠N+1:=by omega
    have r:=m2.row;have y6:look (N+1) (setl (N+1) (.row 1 [[a8 x]]) (setl (N+1) (.row 1 [[a8 x]]) (setl t (.row 16 [oS p MA R g.n]) H2)))=some (.row 1 [[a8 x]]):=by simp [aG,n1,q6]
    have y7:look (N+2) (setl (N+1) (.row 1 [[a8 x]]) (setl (N+1) (.row 1 [[a8 x]]) (setl t (.row 16 [oS p MA R g.n]) H2)))=some (.row 4 [Xf.c g.c]):=by simp [aG,n3,q7]
    have y2:look N (setl (N+1) (.row 1 [[a8 x]]) (setl (N+1) (.row 1 [[a8 x]]) (setl t (.row 16 [oS p MA R g.n]) H2)))=some (.row 1 [[.ptr t 16 0 0]]):=by simp [aG,n2,q2]
    have yt:look t (setl (N+1) (.row 1 [[a8 x]]) (setl (N+1) (.row 1 [[a8 x]]) (setl t (.row 16 [oS p MA R g.n]) H2)))=some (.row 16 [oS p MA R g.n]):=by simp [aG,n4,r]
    rw [Oo hx y6 y7 y2 yt];refine ⟨setl t (.row 16 [oS p g.c R g.n]) (setl (N+1) (.row 1 [[a8 x]]) (setl (N+1) (.row 1 [[a8 x]]) (setl t (.row 16 [oS p MA R g.n]) H2))),N+3,R,by omega,cY (cY (cY (cY hT2))),fun j hj=> .inl hj,?_,?_,?_⟩
    · intro j hj hx
      have e1:j≠t:=fun h=>hx (.inl h)
      rw [aG,QA e1,aG,QA (by omega),aG,QA (by omega),aG,QA e1];exact hkO j hj (by simp)
    · simp [sS,dR,j4,j5,j6,aG,n1,q6]
    · refine ⟨by simp [aG,n4,r],?_⟩
      rcases m2.rcd with hz | ⟨T,rfl,hz⟩
      · exact .inl hz
      · refine .inr ⟨T,rfl,?_⟩
        have u1:T≠t:=b8 hz r (by simp);have u2:T≠N+1:=b8 hz q6 (by simp);rw [aG,QA u1,aG,QA u2,aG,QA u2,aG,QA u1,hz]
  | none=>
    obtain ⟨e4,O4,N4,R4,a5,j4,j5,j6,hN4,hT4,m4,hR4,hk4,y6⟩:=Om (N:=N+3) (e:=(21,.func (.func lJ) [] [.ptr (N+1) 1 0 0,.ptr (N+2) 4 0 0,.ptr N 1 0 0])::e3) p op hc hp s hl hv hT2 m2 (by simp [h1]) (by simp [h2]) (by simp [h6]) q2 q6 z1 hA hn hb;simp only [sN,a1,a2,a3,a4];rw [a5,hcl];simp only [show dR.clo=lJ from rfl,show dR.ncaps=3 from rfl,mH,mI,and_self,if_true,G6];rw [On y6];refine ⟨O4,N4,R4,by omega,hT4,fun j hj=>(hR4 j hj).imp id fun h=>by omega,?_,?_,m4⟩
    · intro j hj hx
      rw [hk4 j (by omega) ?_,hkO j hj (by simp)];rintro (h | h | h | h)
      · exact hx (.inl h)
      · omega
      · exact hx (.inr (.inl h))
      · have h:look j H2=some .res:=h
        rw [hkO j hj (by simp)] at h;exact hx (.inr (.inr h))
    · simp [sS,dR,j4,j5,j6,y6]
def Ng (N:Nat) (O:List (Nat×AO)) (c:Xf) (r:Option (Rt×AH)):Prop:=
 ∃w1 w2 w3 w4 V O' N',r=some (.val (.agg [w1,w2,w3,w4]),⟨O',N'⟩)/\CfgM O' w1 w2 w3 w4 V c/\(∀j,CfgM.own w1 w2 w3 V j->N<=j)/\Kp (Rs O) N O O'/\Tail O' N'/\N<=N'
theorem Gt (l m:List Int) (hb:l.length<2^40):a9 Φ NX [.slice 1 (l.map cI),.slice 1 (m.map cI)]=some (.val (.bool (decide (l=m)))):=by
 rw [aA rfl rfl];by_cases q1:l.length=m.length
 rotate_left
 ·have:l≠m:=fun h=>q1 (by rw [h])
  simp [NA,q1,this]
 simp [NA,q1];refine (fJ l.length (fun i e=>look 0 e=some (.slice 1 (l.map cI))/\look 1 e=some (.slice 1 (m.map cI))/\look 12 e=some (a8 l.length)/\look 13 e=some (a8 i))
  (fun i=>some (Rt.val (AV.bool (kG l m i)))) ?_ ?_ 0 _ (Qc _) ?_).trans (by simp [kG])
 ·rintro i e L hi hL ⟨h0,h1,h12,h13⟩ ih;have hi2:i<m.length:=by omega
  have hw:=aL i (by omega);by_cases c:l[i]=m[i]
  ·rw [HE hi hi2 c];simp [c_75_l0,cIe,hi,hi2,hL,h0,h1,h12,h13,hw,c];exact ih _ ⟨by simp [h0],by simp [h1],by simp [h12],by simp⟩
  ·rw [HH hi hi2 c];simp [c_75_l0,cIe,hi,hi2,hL,h0,h1,h12,h13,c]
 ·rintro e L hL ⟨h0,h1,h12,h13⟩;rw [HD q1];simp [c_75_l0,c_75_k1, *]
 ·simp [q1]
theorem qwf (l m:List Int) (hb:l.length<2^40):a9 Φ HA [.slice 1 (l.map c32),.slice 1 (m.map c32)]=some (.val (.bool (decide (l=m)))):=by
 rw [aA rfl rfl];by_cases q1:l.length=m.length
 rotate_left
 ·have:l≠m:=fun h=>q1 (by rw [h])
  simp [NE,q1,this]
 simp [NE,q1];refine (fJ l.length (fun i e=>look 0 e=some (.slice 1 (l.map c32))/\look 1 e=some (.slice 1 (m.map c32))/\look 12 e=some (a8 l.length)/\look 13 e=some (a8 i))
  (fun i=>some (Rt.val (AV.bool (kG l m i)))) ?_ ?_ 0 _ (Qc _) ?_).trans (by simp [kG])
 ·rintro i e L hi hL ⟨h0,h1,h12,h13⟩ ih;have hi2:i<m.length:=by omega
  have hw:=aL i (by omega);by_cases c:l[i]=m[i]
  ·rw [HE hi hi2 c];simp [c_80_l0,c32e,hi,hi2,hL,h0,h1,h12,h13,hw,c];exact ih _ ⟨by simp [h0],by simp [h1],by simp [h12],by simp⟩
  ·rw [HH hi hi2 c];simp [c_80_l0,c32e,hi,hi2,hL,h0,h1,h12,h13,c]
 ·rintro e L hL ⟨h0,h1,h12,h13⟩;rw [HD q1];simp [c_80_l0,c_80_k1, *]
 ·simp [q1]
theorem Na (l m:List (List Int)) (hb:l.length<2^40) (hf:∀x∈l,∀y∈m,a9 Φ yD [.slice 1 (x.map c32),.slice 1 (y.map c32)]=some (.val (.bool (decide (x=y))))):
   a9 Φ NZ [.slice 1 (l.map (cS 1 c32)),.slice 1 (m.map (cS 1 c32)),.func (.func yD) [] []]=some (.val (.bool (decide (l=m)))):=by
  rw [aA rfl rfl];by_cases q1:l.length=m.length
  rotate_left
  · have:l≠m:=fun h=>q1 (by rw [h])
    simp [ND,q1,this]
  simp [ND,q1];refine (fJ l.length (fun i e=>look 1 e=some (.slice 1 (m.map (cS 1 c32)))/\look 2 e=some (.func (.func yD) [] [])/\look 15 e=some (.slice 1 (l.map (cS 1 c32)))/\look 16 e=some (a8 l.length)/\look 17 e=some (a8 i))
    (fun i=>some (Rt.val (AV.bool (kG l m i)))) ?_ ?_ 0 _ (Qc _) ?_).trans (by simp [kG])
  · rintro i e L hi hL ⟨h1,h2,h15,h16,h17⟩ ih
    have hi2:i<m.length:=by omega
    have hw:=aL i (by omega);have hee:=hf _ (Qd hi) _ (Qd hi2);by_cases c:l[i]=m[i]
    · rw [decide_eq_true c] at hee
      rw [HE hi hi2 c];simp [c_78_l0,cSe,hi,hi2,hL,h1,h2,h15,h16,h17,hw,hee];refine (ih _ ⟨by simp [h1],by simp [h2],by simp [h15],by simp [h16],by simp⟩).trans (by simp)
    · rw [decide_eq_false c] at hee
      rw [HH hi hi2 c];simp [c_78_l0,cSe,hi,hi2,hL,h1,h2,h15,h16,h17,hee]
  · rintro e L hL ⟨h1,h2,h15,h16,h17⟩
    rw [HD q1];simp [c_78_l0,c_78_k1, *]
  · simp [q1]
theorem Ho (l m:List (List Rw)) (hb:l.length<2^40) (hf:∀x∈l,∀y∈m,a9 Φ yB [.slice 5 (x.map Rw.c),.slice 5 (y.map Rw.c)]=some (.val (.bool (decide (x=y))))):
   a9 Φ NW [.slice 1 (l.map (cS 5 Rw.c)),.slice 1 (m.map (cS 5 Rw.c)),.func (.func yB) [] []]=some (.val (.bool (decide (l=m)))):=by
  rw [aA rfl rfl];by_cases q1:l.length=m.length
  rotate_left
  · have:l≠m:=fun h=>q1 (by rw [h])
    simp [N9,q1,this]
  simp [N9,q1];refine (fJ l.length (fun i e=>look 1 e=some (.slice 1 (m.map (cS 5 Rw.c)))/\look 2 e=some (.func (.func yB) [] [])/\look 15 e=some (.slice 1 (l.map (cS 5 Rw.c)))/\look 16 e=some (a8 l.length)/\look 17 e=some (a8 i))
    (fun i=>some (Rt.val (AV.bool (kG l m i)))) ?_ ?_ 0 _ (Qc _) ?_).trans (by simp [kG])
  · rintro i e L hi hL ⟨h1,h2,h15,h16,h17⟩ ih
    have hi2:i<m.length:=by omega
    have hw:=aL i (by omega);have hee:=hf _ (Qd hi) _ (Qd hi2);by_cases c:l[i]=m[i]
    · rw [decide_eq_true c] at hee
      rw [HE hi hi2 c];simp [c_73_l0,cSe,hi,hi2,hL,h1,h2,h15,h16,h17,hw,hee];refine (ih _ ⟨by simp [h1],by simp [h2],by simp [h15],by simp [h16],by simp⟩).trans (by simp)
    · rw [decide_eq_false c] at hee
      rw [HH hi hi2 c];simp [c_73_l0,cSe,hi,hi2,hL,h1,h2,h15,h16,h17,hee]
  · rintro e L hL ⟨h1,h2,h15,h16,h17⟩
    rw [HD q1];simp [c_73_l0,c_73_k1, *]
  · simp [q1]
theorem Ns (l m:List Xb) (hb:l.length<2^40) (hf:∀x∈l,∀y∈m,a9 Φ yC [.agg (Xb.c x),.agg (Xb.c y)]=some (.val (.bool (decide (x=y))))):
   a9 Φ NY [.slice 2 (l.map Xb.c),.slice 2 (m.map Xb.c),.func (.func yC) [] []]=some (.val (.bool (decide (l=m)))):=by
  rw [aA rfl rfl];by_cases q1:l.length=m.length
  rotate_left
  · have:l≠m:=fun h=>q1 (by rw [h])
    simp [NB,q1,this]
  simp [NB,q1];refine (tC l.length (fun i e h=>look 1 e=some (.slice 2 (m.map Xb.c))/\look 2 e=some (.func (.func yC) [] [])/\look 15 e=some (.slice 2 (l.map Xb.c))/\look 16 e=some (a8 l.length)/\look 17 e=some (a8 i)/\∃objs N,Tail objs N/\h=⟨objs,N⟩)
    (fun i=>some (Rt.val (AV.bool (kG l m i)))) ?_ ?_ 0 _ _ (Qc _) ?_).trans (by simp [kG])
  · rintro i e _ L hi hL ⟨h1,h2,h15,h16,h17,objs,N,hN,rfl⟩ ih
    have hi2:i<m.length:=by omega
    have hw:=aL i (by omega);have hNN:=hN N (Qb _);have hN1:=hN (N+1) (by omega);have hee:=hf _ (Qd hi) _ (Qd hi2);simp only [Xb.ce] at hee;by_cases c:l[i]=m[i]
    · rw [decide_eq_true c] at hee
      rw [HE hi hi2 c];simp [c_76_l0,Xb.ce,hi,hi2,hL,h1,h2,h15,h16,h17,hNN,hN1,hw,hee];refine (ih _ _ ⟨by simp [h1],by simp [h2],by simp [h15],by simp [h16],by simp,_,_,(hN.app _).app _,by simp;exact ⟨rfl,rfl⟩⟩).trans (by simp)
    · rw [decide_eq_false c] at hee
      rw [HH hi hi2 c];simp [c_76_l0,Xb.ce,hi,hi2,hL,h1,h2,h15,h16,h17,hNN,hN1,hee]
  · rintro e _ L hL ⟨h1,h2,h15,h16,h17,objs,N,hN,rfl⟩
    rw [HD q1];simp [c_76_l0,c_76_k1, *]
  · simp [q1]
    exact Tail.nil 0
theorem Nt (l m:List Rw) (hb:l.length<2^40) (hf:∀x∈l,∀y∈m,a9 Φ nK [.agg (Rw.c x),.agg (Rw.c y)]=some (.val (.bool (decide (x=y))))):
   a9 Φ C8 [.slice 5 (l.map Rw.c),.slice 5 (m.map Rw.c),.func (.func nK) [] []]=some (.val (.bool (decide (l=m)))):=by
  rw [aA rfl rfl];by_cases q1:l.length=m.length
  rotate_left
  · have:l≠m:=fun h=>q1 (by rw [h])
    simp [AD,q1,this]
  simp [AD,q1];refine (tC l.length (fun i e h=>look 1 e=some (.slice 5 (m.map Rw.c))/\look 2 e=some (.func (.func nK) [] [])/\look 15 e=some (.slice 5 (l.map Rw.c))/\look 16 e=some (a8 l.length)/\look 17 e=some (a8 i)/\∃objs N,Tail objs N/\h=⟨objs,N⟩)
    (fun i=>some (Rt.val (AV.bool (kG l m i)))) ?_ ?_ 0 _ _ (Qc _) ?_).trans (by simp [kG])
  · rintro i e _ L hi hL ⟨h1,h2,h15,h16,h17,objs,N,hN,rfl⟩ ih
    have hi2:i<m.length:=by omega
    have hw:=aL i (by omega);have hNN:=hN N (Qb _);have hN1:=hN (N+1) (by omega);have hee:=hf _ (Qd hi) _ (Qd hi2);simp only [Rw.ce] at hee;by_cases c:l[i]=m[i]
    · rw [decide_eq_true c] at hee
      rw [HE hi hi2 c];simp [c_147_l0,Rw.ce,hi,hi2,hL,h1,h2,h15,h16,h17,hNN,hN1,hw,hee];refine (ih _ _ ⟨by simp [h1],by simp [h2],by simp [h15],by simp [h16],by simp,_,_,(hN.app _).app _,by simp;exact ⟨rfl,rfl⟩⟩).trans (by simp)
    · rw [decide_eq_false c] at hee
      rw [HH hi hi2 c];simp [c_147_l0,Rw.ce,hi,hi2,hL,h1,h2,h15,h16,h17,hNN,hN1,hee]
  · rintro e _ L hL ⟨h1,h2,h15,h16,h17,objs,N,hN,rfl⟩
    rw [HD q1];simp [c_147_l0,c_147_k1, *]
  · simp [q1]
    exact Tail.nil 0
theorem G' (x y:Xb) (h:x.args.length<2^40):a9 Φ yC [.agg (Xb.c x),.agg (Xb.c y)]=some (.val (.bool (decide (x=y)))):=by
 have ee:decide (x=y)=decide (x.Xz=y.Xz/\x.args=y.args):=decide_eq_decide.2 (Xb.eq_iff x y);rw [ee,aA rfl rfl];have ha:=qwf x.args y.args h;by_cases q:x.Xz=y.Xz
 ·simp [NC,Xb.ce,ha,q]
 ·simp [NC,Xb.ce,ha,q]
theorem Hg (x y:List Int) (h:x.length<2^40):a9 Φ yD [.slice 1 (x.map c32),.slice 1 (y.map c32)]=some (.val (.bool (decide (x=y)))):=by
 rw [aA rfl rfl];have ha:=qwf x y h;simp [SQ,ha]
theorem Hh (x y:Rw) (h:x.entry.sm):a9 Φ nK [.agg (Rw.c x),.agg (Rw.c y)]=some (.val (.bool (decide (x=y)))):=by
 have ee:decide (x=y)=decide (x.id=y.id/\x.entry=y.entry):=decide_eq_decide.2 (Rw.eq_iff x y);rw [ee,aA rfl rfl];have ha:=Az x.entry y.entry h;simp only [Entry.ce] at ha;by_cases q:x.id=y.id
 ·simp [AE,Rw.ce,ha,q]
 ·simp [AE,Rw.ce,ha,q]
theorem Cx (x y:List Rw) (h:x.length<2^40) (hs:∀r∈x,r.entry.sm):a9 Φ yB [.slice 5 (x.map Rw.c),.slice 5 (y.map Rw.c)]=some (.val (.bool (decide (x=y)))):=by
 rw [aA rfl rfl];have ha:=Nt x y h (fun a h1 b _=>Hh a b (hs a h1));simp [SP,ha]
theorem J' (a b:Xf) (f:CfgS a):a9 Φ NO [.agg (Xf.c a),.agg (Xf.c b)]=some (.val (.bool (decide (a=b)))):=by
 have ee:decide (a=b)=decide (a.rows=b.rows/\a.Xr=b.Xr/\a.Xq=b.Xq/\a.Xm=b.Xm):=decide_eq_decide.2 (Xf.eq_iff a b);rw [ee,aA rfl rfl];have h1:=Ho a.rows b.rows f.rl (fun x hx y _=>Cx x y (f.rs x hx).1 (f.rs x hx).2);have h2:=Gt a.Xr b.Xr f.nl;have h3:=Ns a.Xq b.Xq f.dl (fun x hx y _=>G' x y (f.ds x hx));have h4:=Na a.Xm b.Xm f.gl (fun x hx y _=>Hg x y (f.gs x hx));by_cases q1:a.rows=b.rows
 rotate_left
 ·simp [BJ,Xf.ce,h1,h2,h3,h4,q1]
 rw [q1] at h1;by_cases q2:a.Xr=b.Xr
 rotate_left
 ·simp [BJ,Xf.ce,h1,h2,h3,h4,q1,q2]
 rw [q2] at h2;by_cases q3:a.Xq=b.Xq
 rotate_left
 ·simp [BJ,Xf.ce,h1,h2,h3,h4,q1,q2,q3]
 rw [q3] at h3;simp [BJ,Xf.ce,h1,h2,h3,h4,q1,q2,q3]
def lgP (p:Prg) (g:LgV):AV:= .iptr 16 [oS p g.c (.slice 1 (g.b.map c8)) g.n] 0 0
theorem UZ (g:LgV):lgP p g= .iptr 16 [((.bool true)::mN p [.slice 1 (g.c.rows.map (cS 5 Rw.c)),.slice 1 (g.c.Xr.map cI),.slice 2 (g.c.Xq.map Xb.c),.slice 1 (g.c.Xm.map (cS 1 c32)),.slice 1 (g.b.map c8),a8 g.n])] 0 0:=by
 simp only [lgP,tG]
theorem LogM.snp {O:List (Nat×AO)} {N t n:Nat} {R:AV} {p:Prg} {g:LgV} (m:LogM O t R p g):snap (n+2) ⟨O,N⟩ (.ptr t 16 0 0)=some (lgP p g):=by
 have h:=m.row;rw [tG] at h;rw [UZ];rcases m.rcd with ⟨rfl,hz⟩ | ⟨T,rfl,hz⟩
 ·simp [h,hz]
 ·simp [h]
theorem Ka {p:Prg}:aN Φ GP [lgP p g] ⟨O,N⟩=some (.val (a8 g.n),⟨O,N⟩):=by
 rw [dW rfl rfl,UZ];simp [SC]
theorem frz8 (hT:Tail O N) (b:List Int):zR ⟨O++[(N,AO.row 1 (b.map c8))],N+1⟩ N 1 0 b.length=some (.slice 1 (b.map c8)):=by
 have t0:=hT N (Qb _);have hg:AH.get ⟨O++[(N,AO.row 1 (b.map c8))],N+1⟩ N=some (.row 1 (b.map c8)):=by simp [AH.get,t0]
 have hb:anyL (bor bE) (b.map c8).flatten=false:=by
  have:∀l:List Int,anyL (bor bE) (l.map c8).flatten=false:=by
   intro l
   induction l with
   | nil=>simp
   | cons x l ih=>simp [c8];exact ih
  exact this _
 have hs:mapO (mapO (snap bE ⟨O++[(N,AO.row 1 (b.map c8))],N+1⟩)) (b.map c8)=some (b.map c8):=HI (g:=c8) (fun x=>by simp [c8]) b;have ht:((b.map c8).drop 0).take b.length=b.map c8:=Qo (by simp);unfold zR;rw [hg];simp only;rw [aB ⟨trivial,by simp,hb⟩,ht,hs];rfl
theorem Ai {p:Prg} (hT:Tail O N) (hb:g.b.length<2^40):
  aN Φ GO [lgP p g] ⟨O,N⟩=some (.val (.slice 1 (g.b.map c8)),⟨O,N+1⟩):=by
 rw [dW rfl rfl,UZ];have t0:=hT N (Qb _);have k1:g.b.length<4611686018427387904/\(g.b.length:Int)<=140737488355328:=by omega
 have fz:=frz8 hT g.b;simp [SB,t0,k1,fz,aV]
theorem qxa (op:p.Ok fL) (hc:(pre p.Yb).length<2^40 - 1) (v:CfgV p g.c) (s:CfgT g.c) (hT:Tail O N):
  Ng N O g.c (aN Φ GR [lgP p g] ⟨O,N⟩):=by
 rw [dW rfl rfl,UZ];have t0:=hT N (Qb _);have hk0:Kp (fun _=>False) N O (O++[(N,AO.row 4 [[.Xu 1 [],.Xu 1 [],.Xu 2 [],.Xu 1 []]])]):=Kp.app (fun _ _ _=>rfl) (Qb _);have hT0:=hT.app1 (o:=AO.row 4 [[.Xu 1 [],.Xu 1 [],.Xu 2 [],.Xu 1 []]]) (Qb N);have rN:look N (O++[(N,AO.row 4 [[.Xu 1 [],.Xu 1 [],.Xu 2 [],.Xu 1 []]])])=some (.row 4 [[.Xu 1 [],.Xu 1 [],.Xu 2 [],.Xu 1 []]]):=by simp [t0]
 rcases qxy p op hc g.c s hT0 with ⟨z,_⟩ | ⟨_,S,O1,N1,e,m1,w1,hk1,hT1,hN1⟩
 ·exact absurd ((QV p g.c).2 v) z
 obtain ⟨u1,u2,u3,u4,U,O2,N2,e2,n2,w2,hk2,hT2,hN2⟩:=qsa (v.u s) hT1 m1;have r1:=hk1.lk hT0 rN (by intro h;unfold Rs at h;rw [rN] at h;cases h);have r2:=hk2.lk hT1 r1 (by simp);simp only [Prg.e,Xf.ce] at e;simp [SE,t0,aV,e,e2,r2,aG];refine ⟨u1,u2,u3,u4,U,_,N2,rfl,?_,fun j hj=>by have:=w2 j hj;omega,?_,cY hT2,by omega⟩
 ·refine n2.fr fun j hj=>?_
  have:=w2 j hj;rw [aG,QA (by omega)]
 ·intro j hj hx;rw [aG,QA (by omega),hk2 j (by omega) (by simp),hk1 j (by omega) ?_,hk0 j hj (by simp)];intro hr;unfold Rs at hr;rw [hk0 j hj (by simp)] at hr;exact hx hr
theorem Rp (f:PrgS p) (L:List (List Xc)) (hL:L.length<2^40) (hl:∀l∈L,l.length<2^40):
  ∃b,a9 Φ NH [.agg (Prg.c p),.slice 1 (L.map (cS 9 Xc.c))]=some (.val (.bool b))/\(b=false->(pre p.Yb).length<=60/\L.length<=12/\∀l∈L,HZ l=false):=by
 obtain ⟨r,hr,hrb⟩:=qxv p f;rw [aA rfl rfl];simp only [Prg.e] at hr;cases r with
 | true=>exact ⟨true,by simp [GJ,Prg.e,hr],by simp⟩
 | false=>
 by_cases z:12<L.length
 ·have z':(12:Int)<L.length:=by omega
  exact ⟨true,by simp [GJ,Prg.e,hr,z,z'],by simp⟩
 have z':¬(12:Int)<L.length:=by omega
 refine ⟨L.any HZ,?_,fun h=>⟨hrb rfl,by omega,fun l hl=>by simpa using List.any_eq_false.1 h l hl⟩⟩;generalize hX:some (Rt.val (.bool (L.any HZ)))=X;simp [GJ,Prg.e,hr,z,z'];rw [<- hX];refine (dK L.length (fun _=>[]) 0 (fun i e=>look 1 e=some (.slice 1 (L.map (cS 9 Xc.c)))/\look 5 e=some (a8 i))
  (fun i=>some (Rt.val (.bool (mK L HZ i)))) ?_ ?_ 0 _ _ (Qc _) (Qc _) ?_).trans (by simp [R5])
 ·rintro i e n K hi hK _ ⟨h1,h5⟩ ih;have hw:=aL i (by omega);have hg:=qw9 L[i] (hl _ (Qd hi));cases hq:HZ L[i] with
  | true=>
   rw [hq] at hg;rw [UH hi hq];simp [c_18_l0,h1,h5,hi,cSe,hg]
  | false=>
   rw [hq] at hg;rw [HN hi hq];generalize hX:some (Rt.val (.bool (mK L HZ (i+1))))=X at ih ⊢;simp [c_18_l0,h1,h5,hi,cSe,hg,hw];exact ih _ _ (Qc _) ⟨by simp [h1],by simp⟩
 ·rintro e n K hK _ ⟨h1,h5⟩;rw [RA];simp [c_18_l0,c_18_k1,h1,h5,hK]
 ·simp
theorem Mj (op:p.Ok fL) (hc:(pre p.Yb).length<2^40 - 1) (v:CfgV p g.c) (s:CfgT g.c) (hb:g.b.length<2^40):a9 Φ NN [lgP p g,.agg (rlC p g)]=some (.val (.bool true)):=by
 rw [aA rfl rfl,sV];have k1:=Ai (p:=p) (g:=g) (Tail.nil 1) hb;have k2:=fun {O N}=>Ka (O:=O) (N:=N) (p:=p) (g:=g)
 obtain ⟨w1,w2,w3,w4,V,O',N',e,cm,_,_,_,_⟩:=qxa p op hc v s (O:=[]) (N:=2) (Tail.nil 2);have k3:=J' g.c g.c s.s;rw [decide_eq_true rfl] at k3;have s1:=fun h=>X0 h 1 g.b
 have a1:=cm.snpR (n:=35) (N:=N');have a2:=cm.snpN (n:=35) (N:=N');have a3:=cm.snpD (n:=35) (N:=N');have a4:=cm.snpG (n:=35) (N:=N');rw [Xf.ce] at k3;simp [SD,k1,k2,e,k3,a1,a2,a3,a4,Vw,s1,-X6]
structure LgS (p:Prg) (g:LgV) (i:Nat):Prop where
 v:CfgV p g.c
 s:CfgT g.c
 n:g.n<=i
 b:g.b.length<=300008*i
theorem LgS.cmt {p:Prg} {g:LgV} {i:Nat} (h:LgS p g i) (hp:p.Xn.length<2^40) {l:List Xc} (hl:∀o∈l,OpS o):LgS p (cmt p g l) (i+1):=by
 obtain ⟨v,s⟩:=UK h.v h.s hp l hl l.length;rw [Uh] at v s;have:=h.n;have:=h.b;have:=U9 l;refine ⟨v,s,by simp only [Go.Av.cmt];omega,?_⟩;simp only [Go.Av.cmt,jE,Y5];omega
theorem LgS.mono {p:Prg} {g:LgV} {i j:Nat} (h:LgS p g i) (hij:i<=j):LgS p g j:=⟨h.v,h.s,by have:=h.n;omega,by have:=h.b;omega⟩
theorem lg0_s {p:Prg} (op:p.Ok fL) (h:(prgD p).1=0) (i:Nat):LgS p (lg0 p) i:=⟨Nb h,T6 op,by simp [lg0],by simp [lg0]⟩
theorem lk13 {j k:Nat} {y c c2:AO} (hT:Tail O N) (hy:look j O=some y) (hn:y≠ .res) (h2:j≠t):look j (setl t c (eG (N+k) (bX (O++[(N+k,c2)]))))=some y:=by
 have hj:=hT.lt hy;have h3:j≠N+k:=by omega
 have h4:look j (O++[(N+k,c2)])=some y:=by rw [aV,hy];rfl
 rw [aG,QA h2,mD h3,fK (by rw [h4];simpa using hn),h4]
theorem LogM.k13 {O:List (Nat×AO)} {N k t u:Nat} {R:AV} {p:Prg} {g:LgV} {y c c2:AO} (hT:Tail O N) (m:LogM O t R p g) (hu:look u O=some y) (h1:∀l,y≠ .row 16 l) (h2:∀n,y≠ .tok 1 n):LogM (setl u c (eG (N+k) (bX (O++[(N+k,c2)])))) t R p g:=by
 have n1:t≠u:=b8 m.row hu (fun h=>h1 _ h.symm);refine m.fr ?_ fun j hj=>?_
 ·rw [lk13 hT m.row (by simp) n1,m.row]
 ·rcases m.rcd with ⟨rfl,_⟩ | ⟨T,rfl,hz⟩
  ·cases hj
  ·simp only [tid,Option.some.injEq] at hj;subst hj;have n2:T≠u:=b8 hz hu (fun h=>h2 _ h.symm);rw [lk13 hT hz (by simp) n2,hz]
theorem YL (h:smO o):OpS o:=by
 have c:∀v:Int,0<=v/\v<=4294967295->ok32 0 v:=fun v h=>by unfold ok32;omega
 exact ⟨⟨h.1.1,fun m hm=>⟨c _ (h.1.2.1 m hm).1,c _ (h.1.2.1 m hm).2⟩,h.1.2.2.1,fun v hv=>c _ (h.1.2.2.2 v hv)⟩,⟨h.2.1,fun v hv=>c _ (h.2.2 v hv)⟩⟩
def RJ (N:Nat) (O:List (Nat×AO)) (t:Nat) (R:AV) (p:Prg) (g:LgV) (b:List Int) (r:Option (Rt×AH)):Prop:=
  ∃O' N' R',N<=N'/\Tail O' N'/\(∀j,tid R'=some j->tid R=some j\/N<=j)/\Kp (fun j=>j=t\/tid R=some j\/Rs O j) N O O'/\
    (((decB b).2≠0/\r=some (.val (a8 (decB b).2),⟨O',N'⟩)/\LogM O' t R' p g)\/
     ((decB b).2=0/\∃x,badA p g.c (decB b).1=some x/\r=some (.val (a8 x.2),⟨O',N'⟩)/\LogM O' t R' p g)\/
     ((decB b).2=0/\badA p g.c (decB b).1=none/\r=some (.val (a8 0),⟨O',N'⟩)/\LogM O' t R' p (cmt p g (decB b).1)))
theorem qzz (op:p.Ok fL) (hc:(pre p.Yb).length<2^40 - 1) (hp:p.Xn.length<2^40) (s:CfgT g.c) (hn:g.n<2^40) (hb:g.b.length<2^40) (hbb:okB b)
    {O:List (Nat×AO)} {N t:Nat} {R:AV} (hT:Tail O N) (m:LogM O t R p g):RJ N O t R p g b (aN Φ H7 [.ptr t 16 0 0,.slice 1 (b.map c8)] ⟨O,N⟩):=by
  rw [dW rfl rfl];have k1:=qzc b hbb;obtain ⟨_,r2⟩:=Uj hbb;by_cases z:(decB b).2=0
  rotate_left
  · simp [GK,k1,z]
    exact ⟨O,N,R,Qb _,hT,fun j hj=> .inl hj,Kp.refl,.inl ⟨z,rfl,m⟩⟩
  obtain ⟨O',N',R',hN',hT',hR',hk,hcj⟩:=qzw p op hc hp s hn hb (fun o ho=>YL (r2 o ho)) (.inl rfl) hT m;rw [z] at k1;cases hA:badA p g.c (decB b).1 with
  | some x=>
    obtain ⟨k,x⟩:=x;rw [hA] at hcj;obtain ⟨hr,m'⟩:=hcj;simp [GK,k1,hr];exact ⟨O',N',R',hN',hT',hR',hk,.inr (.inl ⟨z,(k,x),hA,rfl,m'⟩)⟩
  | none=>
    rw [hA] at hcj;obtain ⟨hr,m'⟩:=hcj;simp [GK,k1,hr];exact ⟨O',N',R',hN',hT',hR',hk,.inr (.inr ⟨z,hA,rfl,m'⟩)⟩
def OpQ (N0:Nat) (O0:List (Nat×AO)) (t:Nat) (p:Prg) (out:Option LgV×Int×Int) (r:Option (Rt×AH)):Prop:=
 ∃O' N',N0<=N'/\Tail O' N'/\Kp (Rs O0) N0 O0 O'/\
  match out.1 with
  | some g'=>∃R',r=some (.val (.tup [.ptr t 16 0 0,.int .i64 out.2.1,.int .i64 out.2.2]),⟨O',N'⟩)/\LogM O' t R' p g'/\(∀j,tid R'=some j->N0<=j)/\LgS p g' (2^21)
  | none=>r=some (.val (.tup [.nilptr,.int .i64 out.2.1,.int .i64 out.2.2]),⟨O',N'⟩)
structure OpI (N0:Nat) (O0:List (Nat×AO)) (t:Nat) (p:Prg) (b:List Int) (x:LgV×Nat) (e:Env) (h:AH):Prop where
 ex:∃R O N,h=⟨O,N⟩/\N0<=N/\Tail O N/\LogM O t R p x.1/\Kp (Rs O0) N0 O0 O/\(∀j,tid R=some j->N0<=j)
 u:x.2<=b.length
 s:∃i,8*i+(b.length - x.2)<=2^24/\LgS p x.1 i
 e1:look 1 e=some (.slice 1 (b.map c8))
 e4:look 4 e=some (.ptr t 16 0 0)
 e5:look 5 e=some (a8 (x.2:Nat))
theorem Bw (op:p.Ok fL) (hc:(pre p.Yb).length<2^40 - 1) (hp:p.Xn.length<2^40) (hbb:okB b) (hbl:b.length<=2^24) {N0:Nat} {O0:List (Nat×AO)} (ht:N0<=t):
  ∀x e h,OpI N0 O0 t p b x e h->∀k,b.length - x.2<=k->OpQ N0 O0 t p (opn p k x.1 x.2 (b.drop x.2)) (go Φ (finC [.tmp 4,.tmp 5,.tmp 6]) [.c (.loop c_29_l0),.b 0,.c c_29_k1] .normal ⟨e,h⟩):=by
 refine Yy (fun x:LgV×Nat=>b.length - x.2) (OpI N0 O0 t p b) (fun x r=>∀k,b.length - x.2<=k->OpQ N0 O0 t p (opn p k x.1 x.2 (b.drop x.2)) r) ?_;rintro ⟨g,u⟩ e h L hL I ih k hk;obtain ⟨⟨R,O,N,rfl,hN,hT,m,hkp,hR⟩,hu,⟨i,hi,S⟩,e1,e4,e5⟩:=I;simp only at*;by_cases q:u<b.length
 rotate_left
 ·have hu2:u=b.length:=by omega
  subst hu2;have ho:opn p k g (b.length:Nat) (b.drop b.length)=(some g,((b.length:Nat):Int),0):=by cases k<;>simp [opn]
  rw [ho];simp [c_29_l0,c_29_k1,e1,e4,e5,hL];exact ⟨O,N,hN,hT,hkp,R,rfl,m,hR,S.mono (by omega)⟩
 obtain ⟨k,rfl⟩:∃n,k=n+1:=⟨k - 1,by omega⟩;have hne:¬b.drop u=[]:=by
  intro h;have:=congrArg List.length h;simp at this;omega
 have hod:okB (b.drop u):=UE hbb u;have k1:=De (b.drop u) hod (by simp;omega);rw [GG] at k1;have x4:((b.map c8).drop u).take (b.length - u)=(b.map c8).drop u:=Qo (by simp);have c1:(u:Int)<(b.length:Int):=by omega
 have c2:(0:Int)<=(u:Int)/\(u:Int)<=(b.length:Int):=by omega
 rw [opn,QA hne];by_cases z1:(unfB (b.drop u)).2.2=0
 rotate_left
 ·rw [aB z1];simp [c_29_l0,c_29_k1,e1,e4,e5,c1,c2,x4,k1,z1,hL];exact ⟨O,N,hN,hT,hkp,R,rfl,m,hR,S.mono (by omega)⟩
 obtain ⟨body,n,hU⟩:∃body n,unfB (b.drop u)=(body,n,0):=⟨(unfB (b.drop u)).1,(unfB (b.drop u)).2.1,by rw [<- z1]⟩;obtain ⟨n8,nl,nb,hob⟩:=TQ hod hU;rw [WW] at nl;rw [hU] at k1;rw [hU];simp only [ne_eq,not_true,if_false] at k1 ⊢;have gn:=S.n;have gb:=S.b;obtain ⟨O',N',R',hN',hT',hR',hk',hcj⟩:=qzz p op hc hp S.s (by omega) (by omega) hob hT m;have hkp':Kp (Rs O0) N0 O0 O':=by
  intro j hj hx;rw [hk' j (by omega) ?_,hkp j hj hx];rintro (h | h | h)
  ·omega
  ·have:=hR j h;omega
  ·unfold Rs at h;rw [hkp j hj hx] at h;exact hx h
 have hR2:∀j,tid R'=some j->N0<=j:=fun j hj=>by
  rcases hR' j hj with h | h
  ·exact hR j h
  ·omega
 rcases hcj with ⟨y1,hr,m'⟩ | ⟨y1,x,hA,hr,m'⟩ | ⟨y1,hA,hr,m'⟩
 ·rw [aB y1];simp [c_29_l0,c_29_k1,e1,e4,e5,c1,c2,x4,k1,hr,y1,hL];exact ⟨O',N',by omega,hT',hkp',rfl⟩
 ·rw [QA (by simpa using y1),hA];have hx:x.2≠0:=LX (k:=x.1) (e:=x.2) hA;simp [c_29_l0,c_29_k1,e1,e4,e5,c1,c2,x4,k1,hr,hx,hL];exact ⟨O',N',by omega,hT',hkp',rfl⟩
 ·rw [QA (by simpa using y1),hA];have hw:IntKind.wrap .i64 ((u:Int)+n)=((u+n.toNat:Nat):Int):=(bJ (by omega) (by omega)).trans (by omega);have hd:(b.drop u).drop n.toNat=b.drop (u+n.toNat):=by rw [IO]
  have hu2:(u:Int)+n=((u+n.toNat:Nat):Int):=by omega
  simp only [hd,hu2];obtain ⟨u',hu'⟩:∃u',u+n.toNat=u':=⟨_,rfl⟩;rw [hu'] at hw ⊢;have S':=S.cmt hp (l:=(decB body).1) (fun o ho=>YL ((Uj hob).2 o ho));simp [c_29_l0,e1,e4,e5,c1,c2,x4,k1,hr,hw];exact ih (cmt p g (decB body).1,u') _ _ (by simp only;omega) ⟨⟨R',O',N',rfl,by omega,hT',m',hkp',hR2⟩,by simp only;omega,⟨i+1,by simp only;omega,S'⟩,by simp [e1],by simp [e4],by simp⟩ k (by simp only;omega)
theorem Kz (op:p.Ok fL) (hc:(pre p.Yb).length<2^40 - 1) (hbb:okB b) (hbl:b.length<=2^24) (z:(prgD p).1=0) (hT:Tail O N):
  OpQ N O (N+2) p (opn p b.length (lg0 p) 0 b) (aN Φ DX [.agg (Prg.c p),.slice 1 (b.map c8)] ⟨O,N⟩):=by
 have f:=HL op;rw [dW rfl rfl];have t0:=hT N (Qb _);have hT1:Tail (O++[(N,.row 9 [Prg.c p])]) (N+1):=hT.app1 (Qb _);have k1:=Dl p op hc z hT1;have hT2:Tail (O++[(N,AO.row 9 [Prg.c p]),(N+1,.row 9 [Prg.c p]),(N+1+1,.row 16 [oS p (gA p) (.Xu 1 []) 0])]) (N+1+2):=Tail_append_iff.2 ⟨hT.mono (by omega),by simp [s5,LK];omega⟩;have t2:=hT (N+2) (by omega);have hm:LogM (O++[(N,AO.row 9 [Prg.c p]),(N+1,.row 9 [Prg.c p]),(N+1+1,.row 16 [oS p (gA p) (.Xu 1 []) 0])]) (N+2) (.Xu 1 []) p (lg0 p):=⟨by simp [aV,t2,lg0],.inl ⟨rfl,rfl⟩⟩;have hk:Kp (Rs O) N O (O++[(N,AO.row 9 [Prg.c p]),(N+1,.row 9 [Prg.c p]),(N+1+1,.row 16 [oS p (gA p) (.Xu 1 []) 0])]):=by
  intro j hj _;rw [aV];have:look j [(N,AO.row 9 [Prg.c p]),(N+1,.row 9 [Prg.c p]),(N+1+1,.row 16 [oS p (gA p) (.Xu 1 []) 0])]=none:=by
   have a1:¬N=j:=by omega
   have a2:¬N+1=j:=by omega
   have a3:¬N+1+1=j:=by omega
   simp [look,a1,a2,a3]
  rw [this];simp
 have hl:=Bw p op hc f.t hbb hbl (N0:=N) (t:=N+2) (O0:=O) (by omega) (lg0 p,0);simp only [Prg.e,tY,jM,sZ] at k1 hT2 hm hk;simp [MV,Prg.e,t0,k1];exact hl _ _ ⟨⟨_,_,_,rfl,by omega,hT2,hm,hk,by simp [tid]⟩,by simp,⟨0,by simp;omega,lg0_s op z 0⟩,by simp,by simp,by simp⟩ b.length (by simp)
def oR (p:Prg) (out:Option LgV×Int×Int):AV:=match out.1 with
 | some g=> .tup [.agg (rlC p g),.int .i64 out.2.1,.int .i64 out.2.2]
 | none=> .tup [.agg noLg,.int .i64 out.2.1,.int .i64 out.2.2]
def zLg:List AV:=[.str [],.Xu 2 [],.Xu 2 [],.Xu 3 [],.Xu 3 [],.Xu 6 [],.Xu 7 [],.Xu 5 [],.Xu 1 [],.Xu 1 [],.Xu 1 [],.Xu 2 [],.Xu 1 [],.Xu 1 [],a8 0]
structure RoI (p:Prg) (b:List Int) (x:LgV×Nat) (e:Env) (h:AH):Prop where
 ex:∃n,h=⟨[(0,.row 15 [zLg]),(1,.row 15 [rlC p x.1])],n⟩/\2<=n
 u:x.2<=b.length
 s:∃i,8*i+(b.length - x.2)<=2^24/\LgS p x.1 i
 e1:look 1 e=some (.slice 1 (b.map c8))
 e4:look 4 e=some (.ptr 0 15 0 0)
 e7:look 7 e=some (.ptr 1 15 0 0)
 e9:look 9 e=some (a8 (x.2:Nat))
theorem ZS (op:p.Ok fL) (hc:(pre p.Yb).length<2^40 - 1) (hp:p.Xn.length<2^40) (hbb:okB b) (hbl:b.length<=2^24):
  ∀x e h,RoI p b x e h->∀k,b.length - x.2<=k->go Φ (finP [.cell 4 true 15,.tmp 5,.tmp 6]) [.c (.loop c_30_l0),.b 0,.c c_30_k1] .normal ⟨e,h⟩=some (.val (oR p (opn p k x.1 x.2 (b.drop x.2)))):=by
 have hv:=Yu op;refine Yy (fun x:LgV×Nat=>b.length - x.2) (RoI p b) (fun (x:LgV×Nat) (r:Option Rt)=>∀k,b.length - x.2<=k->r=some (.val (oR p (opn p k x.1 x.2 (b.drop x.2))))) ?_;rintro ⟨g,u⟩ e h L hL I ih k hk;obtain ⟨⟨N,rfl,hN⟩,hu,⟨i,hi,S⟩,e1,e4,e7,e9⟩:=I;simp only at*;have n0:¬0=N:=by omega
 have n1:¬1=N:=by omega
 have n2:¬N=0:=by omega
 have n3:¬N=1:=by omega
 by_cases q:u<b.length
 rotate_left
 ·have hu2:u=b.length:=by omega
  subst hu2;have ho:opn p k g (b.length:Nat) (b.drop b.length)=(some g,((b.length:Nat):Int),0):=by cases k<;>simp [opn]
  rw [ho];simp [c_30_l0,c_30_k1,e1,e4,e7,e9,hL,oR,sV,zLg]
 obtain ⟨k,rfl⟩:∃n,k=n+1:=⟨k - 1,by omega⟩;have hne:¬b.drop u=[]:=by
  intro h;have:=congrArg List.length h;simp at this;omega
 have hod:okB (b.drop u):=UE hbb u;have k1:=Gp (b.drop u) hod (by simp;omega);rw [GG] at k1;have x4:((b.map c8).drop u).take (b.length - u)=(b.map c8).drop u:=Qo (by simp);have c1:(u:Int)<(b.length:Int):=by omega
 have c2:(0:Int)<=(u:Int)/\(u:Int)<=(b.length:Int):=by omega
 rw [opn,QA hne];by_cases z1:(unfB (b.drop u)).2.2=0
 rotate_left
 ·rw [aB z1];simp [c_30_l0,c_30_k1,e1,e4,e7,e9,c1,c2,x4,k1,z1,hL,oR,sV,zLg]
 obtain ⟨body,n,hU⟩:∃body n,unfB (b.drop u)=(body,n,0):=⟨(unfB (b.drop u)).1,(unfB (b.drop u)).2.1,by rw [<- z1]⟩;obtain ⟨n8,nl,nb,hob⟩:=TQ hod hU;rw [WW] at nl;rw [hU] at k1;rw [hU];simp only [ne_eq,not_true,if_false] at k1 ⊢;have gn:=S.n;have gb:=S.b;have k2:=qz5 body hob;obtain ⟨dl,r2⟩:=Uj hob;by_cases y1:(decB body).2=0
 rotate_left
 ·rw [aB y1];simp [c_30_l0,c_30_k1,e1,e4,e7,e9,c1,c2,x4,k1,k2,y1,hL,oR,sV,zLg,noLg]
 rw [QA (by simpa using y1)];rw [y1] at k2;have k3:=Ga p op hv hc hp S.s (by omega) (by omega) (decB body).1 (by omega) (fun o ho=>YL (r2 o ho));unfold cmR at k3;cases hA:badA p g.c (decB body).1 with
 | some x=>
  obtain ⟨q',x⟩:=x;have hx:=LX hA;rw [hA] at k3;simp only [sV] at k3;simp [c_30_l0,c_30_k1,e1,e4,e7,e9,c1,c2,x4,k1,k2,k3,hx,hL,oR,sV,zLg,noLg,n0,n1,n2,n3]
 | none=>
  rw [hA] at k3;simp only [sV] at k3;have hw:IntKind.wrap .i64 ((u:Int)+n)=((u+n.toNat:Nat):Int):=(bJ (by omega) (by omega)).trans (by omega);have hd:(b.drop u).drop n.toNat=b.drop (u+n.toNat):=by rw [IO]
  have hu2:(u:Int)+n=((u+n.toNat:Nat):Int):=by omega
  simp only [hd,hu2];obtain ⟨u',hu'⟩:∃u',u+n.toNat=u':=⟨_,rfl⟩;rw [hu'] at hw ⊢;have S':=S.cmt hp (l:=(decB body).1) (fun o ho=>YL (r2 o ho));generalize hX:some (Rt.val (oR p (opn p k (cmt p g (decB body).1) (u':Int) (b.drop u'))))=X;simp [c_30_l0,e1,e4,e7,e9,c1,c2,x4,k1,k2,k3,hw,sV,zLg,n0,n1,n2,n3];rw [<- hX];exact ih (cmt p g (decB body).1,u') _ _ (by simp only;omega) ⟨⟨_,by simp only [sV,zLg];rfl,by omega⟩,by simp only;omega,⟨i+1,by simp only;omega,S'⟩,by simp [e1],by simp [e4],by simp [e7],by simp⟩ k (by simp only;omega)
theorem Er (op:p.Ok fL) (hc:(pre p.Yb).length<2^40 - 1) (hbb:okB b) (hbl:b.length<=2^24) (z:(prgD p).1=0):
  a9 Φ GQ [.agg (Prg.c p),.slice 1 (b.map c8)]=some (.val (oR p (opn p b.length (lg0 p) 0 b))):=by
 have f:=HL op;rw [aA rfl rfl];have r0:=rlnew p f (Yu op) hc;rw [aB z] at r0;have hl:=ZS p op hc f.t hbb hbl (lg0 p,0);generalize hX:some (Rt.val (oR p (opn p b.length (lg0 p) 0 b)))=X;simp only [Prg.e,sV] at r0;simp [MW,Prg.e,r0];rw [<- hX];exact hl _ _ ⟨⟨_,by simp only [sV,zLg];rfl,by omega⟩,by simp,⟨0,by simp;omega,lg0_s op z 0⟩,by simp,by simp,by simp,by simp⟩ b.length (by simp)
variable {out:Option LgV×Int×Int}
theorem Jc {p:Prg} (h:out.1=none):oR p out= .tup [.agg noLg,a8 out.2.1,a8 out.2.2]:=by unfold oR;rw [h]
theorem Jd {p:Prg} (h:out.1=some g):oR p out= .tup [.agg (rlC p g),a8 out.2.1,a8 out.2.2]:=by unfold oR;rw [h]
theorem opn_e (p:Prg):∀(k:Nat) (g:LgV) (u:Int) (r:List Int),((opn p k g u r).1=none->(opn p k g u r).2.2≠0)/\((opn p k g u r).1≠none->(opn p k g u r).2.2=0)
 | 0,g,u,r=>by simp [opn]
 | k+1,g,u,r=>by
  rw [opn];split
  ·simp
  split
  ·simp
  split
  ·rename_i h;simp;exact h
  cases hA:badA p g.c (decB (unfB r).1).1 with
  | some x=>simp;exact LX (k:=x.1) (e:=x.2) hA
  | none=>exact opn_e p k _ _ _
theorem qxd (f:PrgS p) (hc:(pre p.Yb).length<2^40 - 1) (he:¬(prgD p).1=0) (b:List Int) (O:List (Nat×AO)) (n:Nat) (hO:look n O=none) (hO1:look (n+1) O=none):
  aN Φ DX [.agg (Prg.c p),.slice 1 (b.map c8)] ⟨O,n⟩=some (.val (.tup [.nilptr,a8 0,a8 (prgD p).1]),⟨O++[(n,.row 9 [Prg.c p]),(n+1,.row 9 [Prg.c p])],n+2⟩):=by
 rw [dW rfl rfl];have hl:look (n+1) (O++[(n,.row 9 [Prg.c p])])=none:=by
  rw [lK,hO1];simp [look]
 have h:=Br p f hc he (O++[(n,.row 9 [Prg.c p])]) (n+1) hl;simp only [Prg.e] at h;simp [MV,Prg.e,hO,h,he]
theorem qxp (f:PrgS p) (hv:∀t∈p.Xn,∀v∈t.Yc.args,ok32 0 v) (hc:(pre p.Yb).length<2^40 - 1) (he:¬(prgD p).1=0) (b:List Int):
  a9 Φ GQ [.agg (Prg.c p),.slice 1 (b.map c8)]=some (.val (.tup [.agg noLg,a8 0,a8 (prgD p).1])):=by
 rw [aA rfl rfl];have r0:=rlnew p f hv hc;rw [QA he] at r0;simp only [Prg.e,noLg] at r0;simp [MW,Prg.e,r0,he,noLg]
theorem qox (b:List Int) (op:p.Ok fL) (ob:okL fL (ok8 fL) b):a9 Φ Zd [.agg (Prg.c p),.slice 1 (b.map c8)]=some (.val (.bool true)):=by
 have f:=HL op;have hv:=Yu op;have hbb:okB b:=fun x hx=>ob.2 x hx
 obtain ⟨w,hb,hb2⟩:=Rp p f [] (by simp) (by simp);rw [QB] at hb;rw [aA rfl rfl];cases w with
 | true=>
  simp only [Prg.e] at hb;simp [N7,Prg.e,hb,RN]
 | false=>
 obtain ⟨hpre,_,_⟩:=hb2 rfl;have hc:(pre p.Yb).length<2^40 - 1:=by omega
 by_cases q:3000<b.length
 ·simp only [Prg.e] at hb;simp [N7,Prg.e,hb,q,RN]
 by_cases z:(prgD p).1=0
 rotate_left
 ·have k1:=qxd p f hc z b [] 0 rfl rfl;have k2:=qxp p f hv hc z b;simp only [Prg.e,noLg] at hb k1 k2;simp [N7,Prg.e,hb,q,k1,k2,z,RN]
 have k1:=Kz p op hc hbb (by omega) z (Tail.nil 0);have k2:=Er p op hc hbb (by omega) z;obtain ⟨e1,e2⟩:=opn_e p b.length (lg0 p) 0 b;generalize opn p b.length (lg0 p) 0 b=out at*;obtain ⟨og,u,e⟩:=out;simp only at e1 e2;obtain ⟨O,N,hN,hT,hk,hm⟩:=k1;have t0:=hT N (Qb _);cases og with
 | none=>
  have he:=e1 rfl;rw [Jc rfl] at k2;simp only at hm;simp only [Prg.e,noLg] at hb hm k2;simp [N7,Prg.e,hb,q,hm,k2,he,RN,aV,aG,mD,t0]
 | some g=>
  have he:=e2 (by simp);subst he;rw [Jd rfl] at k2;obtain ⟨R,hr,m,hR,S⟩:=hm;have gb:=S.b;have ks:=Mj p op hc S.v S.s (by omega);have hrow:=m.row;rw [tG] at hrow;simp only [UZ,sV] at ks;simp only [Prg.e,sV] at hb hr k2;rcases m.rcd with ⟨rfl,hz⟩ | ⟨T,rfl,hz⟩
  ·simp only [hz,QB] at ks k2;simp [N7,Prg.e,hb,q,hr,k2,hrow,ks,RN,aV,aG,mD,t0]
  ·simp [N7,Prg.e,hb,q,hr,k2,hrow,ks,RN,aV,aG,mD,t0]
end Go.Av
