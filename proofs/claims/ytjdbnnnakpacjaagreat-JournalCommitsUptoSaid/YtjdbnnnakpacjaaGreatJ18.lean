/-
 What is decoded is in range; comparison of a list with itself; the bound of the law.
-/
import Derived.Test.YtjdbnnnakpacjaaGreatY1
import Derived.Test.YtjdbnnnakpacjaaGreatW28K
set_option linter.unusedVariables false
set_option linter.unusedSimpArgs false
set_option linter.constructorNameAsVariable false
namespace Go.Av
set_option maxRecDepth 4000
def qok (o:Xc):Bool:=decide (300<o.entry.keys.length) || (decide (300<o.entry.call.args.length) || decide (300<o.call.args.length))
def qgw (l:List Xc):Bool:=decide (80<l.length) || qcg l qok 0
theorem qvo (l:List Xc) (hb:l.length<2^40):qab Φ f_55 [.slice 9 (l.map Xc.c)]=some (.val (.bool (qgw l))):=by
 rw [qaa (fn:=c_55) rfl rfl];by_cases q:80<l.length
 ·simp [c_55,qgw,q]
 simp [c_55,qgw,q];refine qay l.length (fun i e=>look 0 e=some (.slice 9 (l.map Xc.c))/\look 3 e=some (.int .i64 i)) (fun i=>some (Rt.val (AV.bool (qcg l qok i)))) ?_ ?_ 0 _ (Qc _) ?_
 ·rintro i e L hi hL ⟨h0,h3⟩ ih;have hw:=qaf i (by omega);cases hb:qok l[i] with
  | true=>
   rw [qjz hi hb];unfold qok at hb;by_cases y0:300<l[i].entry.keys.length
   ·simp [c_55_l0,Xc.ce,h0,h3,hi,hL,y0]
   by_cases y1:300<l[i].entry.call.args.length
   ·simp [c_55_l0,Xc.ce,h0,h3,hi,hL,y0,y1]
   simp [y0,y1] at hb;simp [c_55_l0,Xc.ce,h0,h3,hi,hL,y0,y1,hb]
  | false=>
   rw [qey hi hb];unfold qok at hb;simp only [QB,decide_eq_false_iff_not] at hb;obtain ⟨y0,y1,y2⟩:=hb;simp [c_55_l0,Xc.ce,h0,h3,hi,hL,y0,y1,y2,hw];exact ih _ ⟨by simp [h0,Xc.ce],by simp⟩
 ·rintro e L hL ⟨h0,h3⟩;rw [qip];simp [c_55_l0,c_55_k1,h0,h3,hL]
 ·simp
theorem qagv (l:List Xc) (ho:∀o∈l,okO o):qab Φ f_69 [.slice 9 (l.map Xc.c)]=some (.val (.slice 1 ((encB l).map c8))):=by
 rw [qaa (fn:=c_69) rfl rfl];by_cases q:64<l.length
 ·have:encB l=[]:=by unfold encB;rw [QA (by omega)]
  simp [c_69,q,this]
 have hl:l.length<=64:=by omega
 have hw:IntKind.wrap .u8 (l.length:Int)=(l.length:Int):=by rw [wr8u];omega
 simp [c_69,q,hw];refine qjg (fun i:Nat=>l.length - i) (fun i e h=>i<=l.length/\(∀o∈l.take i,opE o=true)/\look 0 e=some (.slice 9 (l.map Xc.c))/\look 4 e=some (.int .i64 i)/\
  ∃B O N,look 3 e=some B/\BV B (([(l.length:Int)]++opsB (l.take i)).map c8) O/\Tail O N/\h=⟨O,N⟩) (fun _ (r:Option Rt)=>r=some (Rt.val (AV.slice 1 ((encB l).map c8)))) ?_ 0 _ _ ⟨Qc _,by simp,by simp,by simp,.Xu 1 [[.int .u8 (l.length:Int)]],[],0,by simp,.inl (by simp [opsB,c8e]),Tail.nil 0,rfl⟩
 rintro i e _ L hL ⟨hi,hp,h0,h4,B,O,N,h3,hB,hT,rfl⟩ ih;have hNN:=hT N (Qb _);rcases Qv i l.length with hlt | hge
 ·have hwi:=qaf i (by omega);have hen:=qya l[i];rw [Xc.ce] at hen;cases hq:opE l[i] with
  | false=>
   rw [hq] at hen;simp [c_69_l0,Xc.ce,h0,h4,hL,hlt,hen,qte hlt hq]
  | true=>
   rw [hq] at hen;have hlen:((([(l.length:Int)]++opsB (l.take i)).map c8).length)+(opB l[i]).length<=70368744177664:=by
    have:=qn4 hp;rw [QAd] at this;have h2:=qwo hq;rw [QAc,QAe];simp only [QAl,QAq];omega
   have hop:=ropB l[i] hq (ho _ (Qd hlt));rw [Xc.ce] at hop;have hE2:([(l.length:Int)]++opsB (l.take (i+1))).map c8=([(l.length:Int)]++opsB (l.take i)).map c8++(opB l[i]).map c8:=by
    rw [qrl hlt];simp
   have hp2:∀o∈l.take (i+1),opE o=true:=by
    intro o ho';rw [Qh hlt] at ho';rcases QAg.1 ho' with h | h
    ·exact hp o h
    ·simp at h;rw [h];exact hq
   have ih':=ih (i+1);rw [hE2] at ih';generalize ([(l.length:Int)]++opsB (l.take i)).map c8=D at*;rcases hB with rfl | ⟨t,rfl,ht⟩
   ·simp [c_69_l0,Xc.ce,h0,h3,h4,hL,hlt,hen,hop,hwi,hlen,hNN];exact ih' _ _ (by omega) ⟨hlt,hp2,by simp [h0,Xc.ce],by simp,.app 1 (D++(opB l[i]).map c8) N,O++[(N,.tok 1 (D.length+(opB l[i]).length))],N+1,by simp,.inr ⟨N,rfl,by simp [qa5,hNN]⟩,hT.app _,rfl⟩
   ·simp [c_69_l0,Xc.ce,h0,h3,h4,hL,hlt,hen,hop,hwi,hlen,ht];exact ih' _ _ (by omega) ⟨hlt,hp2,by simp [h0,Xc.ce],by simp,.app 1 (D++(opB l[i]).map c8) t,setl t (.tok 1 (D.length+(opB l[i]).length)) O,N,by simp,.inr ⟨t,rfl,by rw [qa3 ht];simp⟩,qd9 hT (hT.ltJ ht),rfl⟩
 ·have hi':i=l.length:=by omega
  subst hi';rw [qwa hl hp];rw [QAf] at hB;rcases hB with rfl | ⟨t,rfl,h2⟩
  ·simp [c_69_l0,c_69_k1,h0,h3,h4,hL]
  ·simp [c_69_l0,c_69_k1,h0,h3,h4,hL]
def b2sV (h:AH) (o:Option AV):Option (AV×AH):=match o with
 | some v=>evOp [(0,v)] 0 h (.b2s (.t 0))
 | none=>none
theorem qajh {e:Env} {nx:Nat} {h:AH} {n:Nat}:evOp e nx h (.b2s (.t n))=b2sV h (look n e):=by
 cases hl:look n e with
 | none=>simp only [evOp,evX,hl,b2sV]
 | some v=>simp only [evOp,evX,hl,b2sV,look,if_true]
theorem qafj {call:qao} {e:Env} {nx:Nat} {h:AH} {n:Nat}:qad call e nx h (.b2s (.t n))=qbm (b2sV h (look n e)):=by rw [qot,qajh]
def strB (l:List Int):List UInt8:=l.map fun n=>UInt8.ofNat n.toNat
theorem qwj (F:List AV->Option UInt8) (hF:∀n,F (c8 n)=some (UInt8.ofNat n.toNat)):∀l:List Int,mapO F (l.map c8)=some (strB l)
 | []=>rfl
 | a::l=>by simp only [QBt,mapO,hF,qwj F hF l,strB]
theorem qw4 (h:AH) (z:Nat) (l:List Int):b2sV h (some (.slice z (l.map c8)))=some (.str (strB l),h):=by
 simp only [b2sV,evOp,evX,look,if_true,qcz];rw [qwj _ (fun n=>rfl)]
theorem qg7 (v:Int):okB (be4 v):=by
 intro x hx;simp [be4] at hx;omega
theorem qpz (v:Int):okB (be2 v):=by
 intro x hx;simp [be2] at hx;omega
theorem qgk {a b:List Int} (ha:okB a) (hb:okB b):okB (a++b):=by
 intro x hx;rcases QAg.1 hx with h | h
 ·exact ha x h
 ·exact hb x h
theorem qk0 {a:Int} {b:List Int} (ha:0<=a/\a<=255) (hb:okB b):okB (a::b):=by
 intro x hx;rcases QAj.1 hx with rfl | h
 ·exact ha
 ·exact hb x h
theorem qy6 (l:List Int):okB (qci l):=by
 intro x hx;unfold qci at hx;obtain ⟨y,hy,hx⟩:=QBn.1 hx;obtain ⟨v,_,rfl⟩:=QAr.1 hy;exact qg7 v x hx
theorem qaaa (l:List Xi):okB (qby l):=by
 intro x hx;unfold qby at hx;obtain ⟨y,hy,hx⟩:=QBn.1 hx;obtain ⟨v,_,rfl⟩:=QAr.1 hy;exact qgk (qg7 _) (qg7 _) x hx
theorem qlp {c:Xb} (h:qbv c=true):okB (qcn c):=by
 simp [qbv] at h;exact qgk (qpz _) (qk0 (by omega) (qy6 _))
theorem qagl {o:Xc} (h:opE o=true):okB (opB o):=by
 have hk:=qn3 h;unfold opE at h;rw [QAb] at h;refine qk0 (by omega) (qgk (qpz _) ?_);obtain ⟨_,h⟩:=h;by_cases c1:o.kind=1
 ·rw [QAa c1] at h ⊢;simp only [QAb,decide_eq_true_eq] at h;exact qgk (qpz _) (qk0 (by omega) (qgk (qaaa _) (qlp h.2.2)))
 rw [QA c1] at h ⊢;by_cases c2:o.kind=2
 ·rw [QAa c2] at h ⊢;simp only [QAb] at h;exact qgk (qg7 _) (qlp h.2)
 rw [QA c2] at h ⊢;by_cases c3:o.kind=3
 ·rw [QAa c3];exact qg7 _
 rw [QA c3] at h ⊢;by_cases c4:o.kind=4
 ·rw [QAa c4] at h;exact qlp h
 ·omega
theorem qtf (l:List Xc):okB (encB l):=by
 unfold encB;split
 ·rename_i h;refine qk0 (by omega) ?_;intro x hx;unfold opsB at hx;obtain ⟨y,hy,hx⟩:=QBn.1 hx;obtain ⟨o,ho,rfl⟩:=QAr.1 hy;exact qagl (h.2 o ho) x hx
 ·intro x hx;cases hx
theorem qxx (v:Int) (k:Nat) (h:k<=32):ishr .u32 v (k:Int)=v.fdiv (2^k):=by
 unfold ishr;rw [show min (k:Int).toNat (IntKind.bits .u32)=k by simp [IntKind.bits];omega]
theorem qajq (v:Int):ishr .u32 v 8=v / 256:=by
 rw [show (8:Int)=((8:Nat):Int) by rfl,qxx v 8 (by decide)];rw [QBl _ (by decide)];rfl
theorem qaf1 (v:Int):ishr .u32 v 16=v / 65536:=by
 rw [show (16:Int)=((16:Nat):Int) by rfl,qxx v 16 (by decide)];rw [QBl _ (by decide)];rfl
theorem qaf2 (v:Int):ishr .u32 v 24=v / 16777216:=by
 rw [show (24:Int)=((24:Nat):Int) by rfl,qxx v 24 (by decide)];rw [QBl _ (by decide)];rfl
theorem kword (v:Int) (O:List (Nat×AO)) (N:Nat):qak Φ f_125 [.int .u32 v] ⟨O,N⟩=some (.val (.Xu 1 ((be4 v).map c8)),⟨O,N⟩):=by
 rw [qaz (fn:=c_125) rfl rfl];simp [c_125,qajq,qaf1,qaf2,wr8u,be4,c8e]
theorem qrv {t:Nat} {y:AO}:∀{O:List (Nat×AO)},look t O=some y->setl t y O=O
 | [],_=>by simp
 | (u,w)::r,h=>by
  by_cases hu:u=t
  ·subst hu;simp at h;subst h;simp
  ·simp [hu] at h;simp [hu,qrv h]
theorem kadd (h c k:Int) (O:List (Nat×AO)) (N t:Nat) (hc:0<=c/\c<=255) (ht:look t O=some (.row 2 [[.int .u32 h,.int .i64 k]])):
  qak Φ f_195 [.ptr t 2 0 0,.int .u8 c] ⟨O,N⟩=some (.val (.tup []),⟨setl t (.row 2 [[.int .u32 (fnv1 h c),.int .i64 k]]) O,N⟩):=by
 rw [qaz (fn:=c_195) rfl rfl];have w:IntKind.wrap .u32 c=c:=qds (by omega);have e:IntKind.wrap .u32 (ixor .u32 h c*16777619)=fnv1 h c:=by
  simp [IntKind.wrap,IntKind.bits,IntKind.signed,fnv1]
 simp [c_195,ht,w,e]
theorem qacb (h:Int) (a b:List Int):fnvL h (a++b)=fnvL (fnvL h a) b:=by simp [fnvL]
theorem qq7 (h:Int) {b:List Int} {i:Nat} (hi:i<b.length):fnvL h (b.take (i+1))=fnv1 (fnvL h (b.take i)) b[i]:=by
 rw [Qh hi,qacb];rfl
theorem qajw (b:List Int) (hb:okB b) (h40:b.length<2^40) (h:Int) (O:List (Nat×AO)) (N t:Nat) (ht:look t O=some (.row 2 [[.int .u32 h,.int .i64 0]])):
  qak Φ f_126 [.ptr t 2 0 0,.slice 1 (b.map c8)] ⟨O,N⟩=some (.val (.tup []),⟨setl t (.row 2 [[.int .u32 (fnvL h b),.int .i64 b.length]]) O,N⟩):=by
 rw [qaz (fn:=c_126) rfl rfl];simp [c_126,ht];refine qcr b.length (fun i e hh=>hh=⟨setl t (.row 2 [[.int .u32 (fnvL h (b.take i)),.int .i64 0]]) O,N⟩/\look 0 e=some (.ptr t 2 0 0)/\look 1 e=some (.slice 1 (b.map c8))/\look 4 e=some (.func (.func f_195) [.ptr t 2 0 0] [])/\look 11 e=some (.slice 1 (b.map c8))/\look 12 e=some (.int .i64 b.length)/\look 13 e=some (.int .i64 i))
  (fun _=>some (Rt.val (.tup []),(⟨setl t (.row 2 [[.int .u32 (fnvL h b),.int .i64 b.length]]) O,N⟩:AH))) ?_ ?_ 0 _ _ (Qc _) ?_
 ·rintro i e hh L hi hL ⟨rfl,h0,h1,h4,h11,h12,h13⟩ ih;have hw:=qaf i (by omega);have hx:=hb _ (Qd hi);have ka:=kadd (fnvL h (b.take i)) b[i] 0 (setl t (.row 2 [[.int .u32 (fnvL h (b.take i)),.int .i64 0]]) O) N t hx (by rw [qa3 ht]);rw [qdf,<- qq7 h hi] at ka;simp [c_126_l0,h4,h11,h12,h13,hi,hw,c8e,ka];exact ih _ _ ⟨rfl,by simp [h0],by simp [h1],by simp [h4],by simp [h11],by simp [h12],by simp⟩
 ·rintro e hh L hL ⟨rfl,h0,h1,h4,h11,h12,h13⟩;have hw:IntKind.wrap .i64 (b.length:Int)=(b.length:Int):=qa6 (by omega) (by omega);have hl:look t (setl t (.row 2 [[.int .u32 (fnvL h b),.int .i64 0]]) O)=some (.row 2 [[.int .u32 (fnvL h b),.int .i64 0]]):=qa3 ht;rw [Qo (Qb _)];simp [c_126_l0,c_126_k1,h0,h1,h12,h13,hL,hl,hw,qdf]
 ·exact ⟨by simp [fnvL];exact (qrv ht).symm,by simp,by simp,by simp,by simp,by simp,by simp⟩
theorem kfnv (b:List Int) (hb:okB b) (h40:b.length<2^40):qab Φ f_61 [.slice 1 (b.map c8)]=some (.val (.int .u32 (fnv b))):=by
 rw [qaa (fn:=c_61) rfl rfl];have kw:=qajw b hb h40 2166136261 [(0,.row 2 [[.int .u32 2166136261,.int .i64 0]])] 1 0 (by simp);simp [c_61,kw,fnv]
theorem al8 (b:List Int):qch 1 (b.map c8)=true:=qb7 1 c8 b fun x=>by simp [c8]
theorem qo7 (a b:List Int):a.map c8++b.map c8=(a++b).map c8:=by simp
theorem qajv (b:List Int) (hb:okB b) (hl:b.length<=1000000):qab Φ f_59 [.slice 1 (b.map c8)]=some (.val (.slice 1 ((frB b).map c8))):=by
 rw [qaa (fn:=c_59) rfl rfl];have hw:IntKind.wrap .u32 (b.length:Int)=(b.length:Int):=qds (by omega);have k1:=fun O N=>kword (b.length:Int) O N
 have ho:okB (be4 b.length++b):=qgk (qg7 _) hb;have k2:=kfnv (be4 b.length++b) ho (by simp [qg6];omega);have k3:=fun O N=>kword (fnv (be4 b.length++b)) O N
 have a1:=al8 b;have a2:=al8 (be4 (fnv (be4 b.length++b)));have n4:∀v,(be4 v).length=4:=qg6;have nF:=qg6 (fnv (be4 b.length++b));have z1:∀v,¬(be4 v).map c8=[]:=fun v=>by simp [be4]
 have hR:(frB b).map c8=((be4 b.length).map c8++b.map c8)++(be4 (fnv (be4 b.length++b))).map c8:=by simp [frB]
 rw [hR];rw [<- qo7] at k2;have m1:(4+b.length)<=70368744177664:=by omega
 have m2:(4+b.length+4)<=70368744177664:=by omega
 generalize be4 (fnv (be4 b.length++b))=F at*;generalize fnv (be4 b.length++b)=f at*;simp [c_59,hw,k1,k2,k3,a1,a2,n4,nF,z1,m1,m2]
theorem qaln (n m:Nat) (hn:n<2^32) (hm:m<2^32):ixor .u32 (n:Int) (m:Int)=((n^^^m:Nat):Int):=by
 have hx:n^^^m<2^32:=Nat.xor_lt_two_pow hn hm;unfold ixor;rw [QBs,QBs,BitVec.toNat_xor,QAw,QAw];rw [show IntKind.bits .u32=32 by rfl,QAx hn,QAx hm];exact qds (by omega)
theorem qqt {x:Int} (h:0<=x/\x<18446744073709551616):IntKind.wrap .u64 x=x:=by
 simp [IntKind.wrap,IntKind.bits,IntKind.signed];omega
theorem qalo (n m:Nat) (hn:n<2^32) (hm:m<2^32):ixor .u64 (n:Int) (m:Int)=((n^^^m:Nat):Int):=by
 have hx:n^^^m<2^32:=Nat.xor_lt_two_pow hn hm;unfold ixor;rw [QBs,QBs,BitVec.toNat_xor,QAw,QAw];rw [show IntKind.bits .u64=64 by rfl,QAx (by omega),QAx (by omega)];exact qqt (by omega)
theorem fnv64 {h c:Int} (hh:0<=h/\h<=4294967295) (hc:0<=c/\c<=255):IntKind.wrap .u64 (ixor .u64 h c*16777619)=ixor .u32 h c*16777619/\0<=ixor .u32 h c*16777619:=by
 obtain ⟨n,rfl⟩:∃n:Nat,h=n:=⟨h.toNat,by omega⟩;obtain ⟨m,rfl⟩:∃m:Nat,c=m:=⟨c.toNat,by omega⟩;have hx:n^^^m<2^32:=Nat.xor_lt_two_pow (by omega) (by omega);rw [qalo n m (by omega) (by omega),qaln n m (by omega) (by omega)];exact ⟨qqt (by omega),by omega⟩
theorem rfnv (b:List Int) (hb:okB b) (h40:b.length<2^40):qab Φ f_141 [.slice 1 (b.map c8)]=some (.val (.int .u32 (fnv b))):=by
 rw [qaa (fn:=c_141) rfl rfl];simp [c_141];refine qau b.length (fun _=>[]) 0 (fun i e=>look 0 e=some (.slice 1 (b.map c8))/\look 3 e=some (.int .u64 (fnv (b.take i)))/\look 4 e=some (.int .i64 i))
  (fun _=>some (Rt.val (.int .u32 (fnv b)))) ?_ ?_ 0 _ _ (Qc _) (Qc _) ?_
 ·rintro i e n K hi hK _ ⟨h0,h3,h4⟩ ih;have hw:=qaf i (by omega);have hx:=hb _ (Qd hi);have w8:IntKind.wrap .u64 b[i]=b[i]:=qqt (by omega);have hr:=qp4 (b.take i);obtain ⟨e1,e2⟩:=fnv64 hr hx;have hs:fnv (b.take (i+1))=fnv1 (fnv (b.take i)) b[i]:=qq7 _ hi;have e3:(ixor .u32 (fnv (b.take i)) b[i]*16777619).tmod 4294967296=fnv (b.take (i+1)):=by
   rw [QCd e2,hs];rfl
  generalize hX:some (Rt.val (.int .u32 (fnv b)))=X at ih ⊢;simp [c_141_l0,h0,h3,h4,hi,hw,c8e,w8,e1,e3];exact ih _ _ (Qc _) ⟨by simp [h0],by simp,by simp⟩
 ·rintro e n K hK _ ⟨h0,h3,h4⟩;rw [Qo (Qb _)] at h3;have hr:=qp4 b;have hw:IntKind.wrap .u32 (fnv b)=fnv b:=qds hr;simp [c_141_l0,c_141_k1,h0,h3,h4,hK,hw]
 ·simp [fnv,fnvL]
theorem rbig (v:Int) (hv:0<=v/\v<=4294967295):qab Φ f_140 [.int .u32 v]=some (.val (.slice 1 ((be4 v).map c8))):=by
 rw [qaa (fn:=c_140) rfl rfl];have q1:IntKind.wrap .u32 (v.tdiv 16777216)=v / 16777216:=by rw [QCe hv.1];exact qds (by omega)
 have q2:IntKind.wrap .u32 (v.tdiv 65536)=v / 65536:=by rw [QCe hv.1];exact qds (by omega)
 have q3:IntKind.wrap .u32 (v.tdiv 256)=v / 256:=by rw [QCe hv.1];exact qds (by omega)
 simp [c_140,q1,q2,q3,wr8u,be4,c8e]
theorem qakz (b:List Int) (hb:okB b) (hl:b.length<=1000000):qab Φ f_68 [.slice 1 (b.map c8)]=some (.val (.slice 1 ((frB b).map c8))):=by
 rw [qaa (fn:=c_68) rfl rfl];have hw:IntKind.wrap .u32 (b.length:Int)=(b.length:Int):=qds (by omega);have k1:=rbig (b.length:Int) (by omega);have ho:okB (be4 b.length++b):=qgk (qg7 _) hb;have k2:=rfnv (be4 b.length++b) ho (by simp [qg6];omega);have k3:=rbig (fnv (be4 b.length++b)) (qp4 _);have a0:=al8 (be4 b.length);have a1:=al8 b;have a2:=al8 (be4 (fnv (be4 b.length++b)));have n4:∀v,(be4 v).length=4:=qg6;have nF:=qg6 (fnv (be4 b.length++b));have z1:∀v,¬(be4 v).map c8=[]:=fun v=>by simp [be4]
 have hR:(frB b).map c8=((be4 b.length).map c8++b.map c8)++(be4 (fnv (be4 b.length++b))).map c8:=by simp [frB]
 rw [hR];rw [<- qo7] at k2;have m1:(4+b.length)<=70368744177664:=by omega
 have m2:(4+b.length+4)<=70368744177664:=by omega
 generalize be4 (fnv (be4 b.length++b))=F at*;generalize fnv (be4 b.length++b)=f at*;simp [c_68,hw,k1,k2,k3,a0,a1,a2,n4,nF,z1,m1,m2]
def rlC (p:Prg) (g:LgV):List AV:=Prg.c p++(Xf.c g.c++[.slice 1 (g.b.map c8),.int .i64 g.n])
theorem qeo (p:Prg) (g:LgV):rlC p g=[.str p.name,.slice 2 (p.Xp.map Xj.c),.slice 2 (p.Xo.map Fld.c),.slice 3 (p.Xm.map Xh.c),.slice 3 (p.actions.map Action.c),.slice 6 (p.Xn.map Tbl.c),.slice 7 (p.states.map Xd.c),.slice 5 (p.control.map Xa.c),.slice 1 (p.Xs.map cI),
  .slice 1 (g.c.rows.map (cS 5 Rw.c)),.slice 1 (g.c.Xr.map cI),.slice 2 (g.c.Xq.map Xb.c),.slice 1 (g.c.Xm.map (cS 1 c32)),.slice 1 (g.b.map c8),.int .i64 g.n]:=by
 simp [rlC,Prg.e,Xf.ce]
def noLg:List AV:=[.str [],.slice 2 [],.slice 2 [],.slice 3 [],.slice 3 [],.slice 6 [],.slice 7 [],.slice 5 [],.slice 1 [],.slice 1 [],.slice 1 [],.slice 2 [],.slice 1 [],.slice 1 [],.int .i64 0]
def lg0 (p:Prg):LgV:=⟨qbw p,[],0⟩
theorem rlnew (p:Prg) (f:PrgS p) (hv:∀t∈p.Xn,∀v∈t.dflt.args,ok32 0 v) (hc:(pre p.control).length<2^40 - 1):
  qab Φ f_25 [.agg (Prg.c p)]=some (.val (if (prgD p).1=0 then .tup [.agg (rlC p (lg0 p)),.int .i64 0] else .tup [.agg noLg,.int .i64 (prgD p).1])):=by
 rw [qaa (fn:=c_25) rfl rfl];have h1:=qlk p f hv hc;have h2:=qaay p f;simp only [Prg.e,Xf.ce,dgC] at h1 h2;by_cases z:(prgD p).1=0
 ·rw [QAa z];simp [c_25,Prg.e,h1,h2,z,qeo,lg0]
 ·rw [QA z];simp [c_25,Prg.e,h1,z,noLg]
theorem qaai {o:Xc} (h:OpS o):okO o:=by
 have c:∀v:Int,ok32 0 v->0<=v/\v<=4294967295:=fun v h=>by unfold ok32 at h;omega
 exact ⟨fun k hk=>⟨c _ (h.e.ks k hk).1,c _ (h.e.ks k hk).2⟩,fun v hv=>c _ (h.e.ar v hv),fun v hv=>c _ (h.c.ar v hv)⟩
theorem qh2 (l:List Xc):(encB l).length<=300000:=by
 by_cases q:l.length<=64/\∀o∈l,opE o=true
 ·exact qab5 q.2 q.1
 ·unfold encB;rw [QA q];simp
def cmR (p:Prg) (g:LgV) (l:List Xc):AV:=match badA p g.c l with
 | some (k,e)=> .tup [.agg (rlC p g),.slice 1 [],.int .i64 k,.int .i64 e]
 | none=> .tup [.agg (rlC p (cmt p g l)),.slice 1 (idsA p g.c l),.int .i64 0,.int .i64 0]
theorem qadg (p:Prg) (op:p.Ok qbe) (hv:∀t∈p.Xn,∀v∈t.dflt.args,ok32 0 v) (hc:(pre p.control).length<2^40 - 1) (hp:p.Xn.length<2^40) {g:LgV} (s:CfgT g.c) (hb:g.b.length<2^40) (hn:g.n<2^40) (l:List Xc) (ol:l.length<2^40) (hl:∀o∈l,OpS o):
  qab Φ f_26 [.agg (rlC p g),.slice 9 (l.map Xc.c)]=some (.val (cmR p g l)):=by
 rw [qaa (fn:=c_26) rfl rfl];have k1:=qaat p (qg4 op) hv hc hp s l ol hl;have k2:=qagv l fun o ho=>qaai (hl o ho)
 have k3:=qakz (encB l) (qtf l) (by have:=qh2 l;omega);unfold cmR;cases hA:badA p g.c l with
 | some x=>
  obtain ⟨k,x⟩:=x;have hx:=qj3 hA;rw [show appA p g.c l= .tup [.agg noC,.slice 1 [],.int .i64 k,.int .i64 x] by simp only [appA,hA]] at k1;simp only [Prg.e,Xf.ce,noC] at k1;simp [c_26,qeo,k1,hx]
 | none=>
  rw [show appA p g.c l= .tup [.agg (Xf.c (cfgN p g.c l l.length)),.slice 1 (idsA p g.c l),.int .i64 0,.int .i64 0] by simp only [appA,hA];rfl,qnu] at k1;have hw:IntKind.wrap .i64 ((g.n:Int)+1)=((g.n+1:Nat):Int):=qa6 (by omega) (by omega);have a1:=al8 g.b;have a2:=al8 (frB (encB l));have nF:(frB (encB l)).length<=300008:=by rw [qmu];have:=qh2 l;omega
  have m1:g.b.length<=70368744177664:=by omega
  have m2:g.b.length+(frB (encB l)).length<=70368744177664:=by omega
  simp only [cmt];generalize xoF p g.c l=d at*;generalize frB (encB l)=F at*;generalize idsA p g.c l=il at*;simp only [Prg.e,Xf.ce] at k1;simp [c_26,qeo,k1,k2,k3,hw,a1,a2,m1,m2]
def qe1 (p:Prg) (c:Xf) (R:AV) (n:Nat):List AV:= .bool true::(Prg.c p++(Xf.c c++[R,.int .i64 n]))
theorem qcv (p:Prg) (c:Xf) (R:AV) (n:Nat):qe1 p c R n=[.bool true,.str p.name,.slice 2 (p.Xp.map Xj.c),.slice 2 (p.Xo.map Fld.c),.slice 3 (p.Xm.map Xh.c),.slice 3 (p.actions.map Action.c),.slice 6 (p.Xn.map Tbl.c),.slice 7 (p.states.map Xd.c),.slice 5 (p.control.map Xa.c),.slice 1 (p.Xs.map cI),
  .slice 1 (c.rows.map (cS 5 Rw.c)),.slice 1 (c.Xr.map cI),.slice 2 (c.Xq.map Xb.c),.slice 1 (c.Xm.map (cS 1 c32)),R,.int .i64 n]:=by
 simp [qe1,Prg.e,Xf.ce]
def tid:AV->Option Nat
 | .app _ _ T=>some T
 | _=>none
structure LogM (O:List (Nat×AO)) (t:Nat) (R:AV) (p:Prg) (g:LgV):Prop where
 row:look t O=some (.row 16 [qe1 p g.c R g.n])
 rcd:(R= .Xu 1 []/\g.b=[])\/∃T,R= .app 1 (g.b.map c8) T/\look T O=some (.tok 1 g.b.length)
theorem LogM.fr {O O':List (Nat×AO)} {t:Nat} {R:AV} {p:Prg} {g:LgV} (m:LogM O t R p g) (h:look t O'=look t O) (h2:∀j,tid R=some j->look j O'=look j O):LogM O' t R p g:=by
 refine ⟨by rw [h];exact m.row,?_⟩;rcases m.rcd with h3 | ⟨T,rfl,h4⟩
 ·exact .inl h3
 ·exact .inr ⟨T,rfl,by rw [h2 T rfl];exact h4⟩
theorem LogM.src {O:List (Nat×AO)} {t:Nat} {R:AV} {p:Prg} {g:LgV} (m:LogM O t R p g) (H:AH):qcz H R=some (g.b.map c8)/\lenOf R=some g.b.length/\snap 38 H R=some (.slice 1 (g.b.map c8)):=by
 rcases m.rcd with ⟨rfl,h⟩ | ⟨T,rfl,h⟩
 ·rw [h];exact ⟨rfl,rfl,by simp⟩
 ·exact ⟨rfl,by simp,by simp⟩
theorem qacp (p:Prg) (op:p.Ok qbe) (hc:(pre p.control).length<2^40 - 1) (he:(prgD p).1=0) {O:List (Nat×AO)} {n:Nat} (hT:Tail O n):
  qak Φ f_17 [.agg (Prg.c p)] ⟨O,n⟩=some (.val (.tup [.ptr (n+1) 16 0 0,.int .i64 0]),⟨O++[(n,.row 9 [Prg.c p]),(n+1,.row 16 [qe1 p (qbw p) (.Xu 1 []) 0])],n+2⟩):=by
 have f:=qg4 op;rw [qaz (fn:=c_17) rfl rfl];have t0:=hT n (Qb _);have t1:=hT (n+1) (by omega);have h:=qi6 p f hc;have sT:=qzn op;have h2:=qab4 p f fun t ht=>(sT.ds t.dflt (by simp [qbw];exact ⟨t,ht,rfl⟩)).1
 have h3:=qrm p op;simp only [Prg.e,dgC,Xf.ce] at h h2 h3;simp [c_17,Prg.e,qcv,t0,t1,h,h2,h3,he]
theorem qaag (p:Prg) (f:PrgS p) (hc:(pre p.control).length<2^40 - 1) (he:¬(prgD p).1=0) (O:List (Nat×AO)) (n:Nat) (hO:look n O=none):
  qak Φ f_17 [.agg (Prg.c p)] ⟨O,n⟩=some (.val (.tup [.nilptr,.int .i64 (prgD p).1]),⟨O++[(n,.row 9 [Prg.c p])],n+1⟩):=by
 rw [qaz (fn:=c_17) rfl rfl];have h:=qi6 p f hc;simp only [Prg.e,dgC] at h;simp [c_17,Prg.e,hO,h,he]
def jcA1:Xv:=match c_20.code with | .seq a _=>a | _=> .skip
def jcA2:Xv:=match c_20.code with | .seq _ (.seq a _)=>a | _=> .skip
def jcA3:Xv:=match c_20.code with | .seq _ (.seq _ (.seq a _))=>a | _=> .skip
def jcB:Xv:=match c_20.code with | .seq _ (.seq _ (.seq _ (.dfr _ _ b)))=>b | _=> .skip
def jcO:List Xw:=[⟨some 21,none,.mkfunc (.func f_58) [] [.t 6,.t 7,.t 2]⟩]
theorem qaf5:c_20.code= .seq jcA1 (.seq jcA2 (.seq jcA3 (.dfr jcO 21 jcB))):=rfl
def OpV (v:AV) (l:List Xc):Prop:=v= .slice 9 (l.map Xc.c)\/(v= .Xu 9 []/\l=[])
theorem OpV.snp {v:AV} {l:List Xc} (h:OpV v l) (n:Nat) (H:AH):snap (n+1) H v=some (.slice 9 (l.map Xc.c)):=by
 rcases h with rfl | ⟨rfl,rfl⟩<;>simp
theorem OpV.nb {v:AV} {l:List Xc} (h:OpV v l) (n:Nat):bor (n+1) v=false:=by
 rcases h with rfl | ⟨rfl,rfl⟩<;>simp
theorem jc1 {O:List (Nat×AO)} {N t:Nat} (hT:Tail O N) (w:AV):∃e,qa9 Φ jcA1 ⟨qb1 0 [.ptr t 16 0 0,w],⟨O,N⟩⟩=some (.normal,⟨e,⟨O++[(N,.row 1 [[.ptr t 16 0 0]])]++[(N+1,.row 1 [[.int .i64 0]])],N+2⟩⟩)/\look 1 e=some w/\look 2 e=some (.ptr N 1 0 0)/\look 6 e=some (.ptr (N+1) 1 0 0):=by
 have t0:=hT N (Qb _);have t1:=hT (N+1) (by omega);rw [qb9];simp [jcA1,c_20,t0,t1]
theorem jc2 {O:List (Nat×AO)} {N t b:Nat} {R:AV} {p:Prg} {g:LgV} {e:Env} (m:LogM O t R p g) (h2:look 2 e=some (.ptr b 1 0 0)) (hb:look b O=some (.row 1 [[.ptr t 16 0 0]])) {w x6:AV} (h1:look 1 e=some w) (h6:look 6 e=some x6):
  ∃e',qa9 Φ jcA2 ⟨e,⟨O,N⟩⟩=some (.normal,⟨e',⟨O,N⟩⟩)/\look 1 e'=some w/\look 2 e'=some (.ptr b 1 0 0)/\look 6 e'=some x6:=by
 have h:=m.row;rw [qcv] at h;rw [qb9];simp [jcA2,c_20,h,h1,h2,h6,hb]
theorem jc3 {O:List (Nat×AO)} {N t b:Nat} {R:AV} {p:Prg} {g:LgV} {e:Env} (hT:Tail O N) (m:LogM O t R p g) (h2:look 2 e=some (.ptr b 1 0 0)) (hb:look b O=some (.row 1 [[.ptr t 16 0 0]])) {w x6:AV} (h1:look 1 e=some w) (h6:look 6 e=some x6):
  ∃e',qa9 Φ jcA3 ⟨e,⟨O,N⟩⟩=some (.normal,⟨e',⟨O++[(N,.row 4 [Xf.c g.c])],N+1⟩⟩)/\look 1 e'=some w/\look 2 e'=some (.ptr b 1 0 0)/\look 6 e'=some x6/\look 7 e'=some (.ptr N 4 0 0):=by
 have h:=m.row;rw [qcv] at h;have t0:=hT N (Qb _);rw [qb9];simp [jcA3,c_20,h,h1,h2,h6,hb,t0,Xf.ce]
def qjh:Xf:=⟨[],[],[],[]⟩
section
variable (p:Prg) (op:p.Ok qbe) (hc:(pre p.control).length<2^40 - 1) (hp:p.Xn.length<2^40) {g:LgV} (s:CfgT g.c) {l:List Xc} (hl:∀o∈l,OpS o) {v:AV} (hv:OpV v l)
  {O:List (Nat×AO)} {N t b2 b6:Nat} {R:AV} (hT:Tail O N) (m:LogM O t R p g) {e:Env} (h1:look 1 e=some v) (h2:look 2 e=some (.ptr b2 1 0 0)) (h6:look 6 e=some (.ptr b6 1 0 0))
  (hb2:look b2 O=some (.row 1 [[.ptr t 16 0 0]])) (hb6:look b6 O=some (.row 1 [[.int .i64 0]])) (n6:b6≠b2)
include op hc hp s hl hv m h1 h2 h6 hb2 hb6 n6
theorem qaf4 {k x:Int} (hA:badA p g.c l=some (k,x)):
  ∃e' O',qa9 Φ jcB ⟨e,⟨O,N⟩⟩=some (.ret,⟨e',⟨O',N⟩⟩)/\look 4 e'=some (.Xu 1 [])/\look 5 e'=some (.int .i64 k)/\look 6 e'=some (.ptr b6 1 0 0)/\O'=setl b6 (.row 1 [[.int .i64 x]]) (setl b6 (.row 1 [[.int .i64 x]]) (setl t (.row 16 [qe1 p qjh R g.n]) O)):=by
 have h:=m.row;rw [qcv] at h;have n1:b6≠t:=qan hb6 h (by simp);have n2:b2≠t:=qan hb2 h (by simp);have n3:=n1.symm;have n4:=n2.symm;have n5:=n6.symm;have hx:=qj3 hA;have k1:=qsv p op hc hp s l hl;rw [show appA p g.c l= .tup [.agg noC,.slice 1 [],.int .i64 k,.int .i64 x] by simp only [appA,hA]] at k1;simp only [Prg.e,Xf.ce,noC] at k1;have sn:=hv.snp;have nb:=hv.nb;rw [qb9];simp [jcB,c_20,h,h1,h2,h6,hb2,hb6,sn,nb,k1,hx,qac,n1,n2,n3,n4,n5,n6,qcv,qjh];exact ⟨_,_,⟨rfl,rfl⟩,by simp,by simp,by simp [h6],rfl⟩
include hT in
theorem qajs (hA:badA p g.c l=none) (hn:g.n<2^40) (hb:g.b.length<2^40):
  ∃e' O' N' R',qa9 Φ jcB ⟨e,⟨O,N⟩⟩=some (.ret,⟨e',⟨O',N'⟩⟩)/\look 4 e'=some (.slice 1 (idsA p g.c l))/\look 5 e'=some (.int .i64 0)/\look 6 e'=some (.ptr b6 1 0 0)/\N<=N'/\Tail O' N'/\LogM O' t R' p (cmt p g l)/\(∀j,tid R'=some j->tid R=some j\/N<=j)/\Kp (fun j=>j=t\/j=b6\/tid R=some j\/Rs O j) N O O'/\look b6 O'=some (.row 1 [[.int .i64 0]]):=by
 have h:=m.row;rw [qcv] at h;have n1:b6≠t:=qan hb6 h (by simp);have n2:b2≠t:=qan hb2 h (by simp);have n3:=n1.symm;have n4:=n2.symm;have n5:=n6.symm;have k1:=qsv p op hc hp s l hl;rw [show appA p g.c l= .tup [.agg (Xf.c (cfgN p g.c l l.length)),.slice 1 (idsA p g.c l),.int .i64 0,.int .i64 0] by simp only [appA,hA];rfl,qnu] at k1;have k2:=qaf3 l fun o ho=>qaai (hl o ho)
 have k3:=qajv (encB l) (qtf l) (by have:=qh2 l;omega);have hw:IntKind.wrap .i64 ((g.n:Int)+1)=((g.n+1:Nat):Int):=qa6 (by omega) (by omega);have a2:=al8 (frB (encB l));have nF:(frB (encB l)).length<=300008:=by rw [qmu];have:=qh2 l;omega
 have nF0:¬(frB (encB l)).map c8=[]:=by
  intro hh;have:=congrArg List.length hh;rw [QAc,qmu] at this;simp at this
 have m1:(frB (encB l)).length<=70368744177664:=by omega
 have m2:g.b.length+(frB (encB l)).length<=70368744177664:=by omega
 have sn:=hv.snp;have nb:=hv.nb;have hT':∀k,look (N+k) O=none:=fun k=>hT (N+k) (by omega)
 have l2:=hT.lt hb2;have l6:=hT.lt hb6;have lt:=hT.lt h;have q2:∀k,¬N+k=b2:=fun k=>by omega
 have q6:∀k,¬N+k=b6:=fun k=>by omega
 have qt:∀k,¬N+k=t:=fun k=>by omega
 have p2:∀k,¬b2=N+k:=fun k=>by omega
 have p6:∀k,¬b6=N+k:=fun k=>by omega
 have pt:∀k,¬t=N+k:=fun k=>by omega
 have r2:∀k,(b2 == N+k)=false:=fun k=>by simp;omega
 have rt:∀k,(t == N+k)=false:=fun k=>by simp;omega
 have hR:=m.rcd;simp only [cmt];generalize xoF p g.c l=d at*;generalize frB (encB l)=F at*;generalize idsA p g.c l=il at*;simp only [Prg.e,Xf.ce] at k1;rw [qb9];rcases hR with ⟨rfl,hz⟩ | ⟨T,rfl,hz⟩
 ·simp [jcB,c_20,h,h1,h2,h6,hb2,hb6,sn,nb,k1,k2,k3,hw,a2,nF0,m1,qac,n1,n2,n3,n4,n5,n6,qcv,hT',qai,q2,q6,qt,p2,p6,pt,r2,rt,qav];refine ⟨_,_,_,⟨rfl,rfl,rfl⟩,by simp,by simp,by simp [h6],by omega,?_,.app 1 (F.map c8) (N+52),⟨?_,.inr ⟨N+52,by simp [hz],?_⟩⟩,?_,?_,?_⟩
  ·refine qaj (qaj (qdl (qaj (Tail_append_iff.2 ⟨qaj (qaj (hT.mono (by omega))),?_⟩))));simp [qa7,qcw]
  ·simp [qac,qai,qav,h,hb6,hT',n1,n3,p6,pt,q6,qt,qcv]
  ·simp [qac,qai,qav,h,hb6,hT',n1,n3,p6,pt,q6,qt,hz]
  ·intro j hj;simp [tid] at hj;right;omega
  ·intro j hj hx;have j1:¬j=t:=fun h=>hx (.inl h)
   have j2:¬j=b6:=fun h=>hx (.inr (.inl h))
   have j3:¬look j O=some .res:=fun h=>hx (.inr (.inr (.inr h)))
   have j4:¬N+52=j:=by omega
   cases hlo:look j O with
   | none=>simp [qac,qai,qav,j1,j2,j4,hlo]
   | some y=>
    have j5:¬y= .res:=fun hh=>j3 (by rw [hlo,hh])
    simp [qac,qai,qav,j1,j2,j4,hlo,j5]
  ·simp [qac,qai,qav,h,hb6,n1,n3]
 ·have u1:T≠t:=qan hz h (by simp);have u2:T≠b6:=qan hz hb6 (by simp);have u3:T≠b2:=qan hz hb2 (by simp);have u4:=u1.symm;have u5:=u2.symm;have u6:=u3.symm;have lT:=hT.lt hz;have qT:∀k,¬N+k=T:=fun k=>by omega
  have pT:∀k,¬T=N+k:=fun k=>by omega
  have rT:∀k,(T == N+k)=false:=fun k=>by simp;omega
  have r3:(b2 == T)=false:=by simpa using u6
  have r4:(t == T)=false:=by simpa using u4
  simp [jcB,c_20,h,h1,h2,h6,hb2,hb6,sn,nb,k1,k2,k3,hw,a2,nF0,m1,m2,qac,n1,n2,n3,n4,n5,n6,qcv,hT',qai,q2,q6,qt,p2,p6,pt,r2,rt,qav,hz,u1,u2,u3,u4,u5,u6,qT,pT,rT,r3,r4];refine ⟨_,_,_,⟨rfl,rfl,rfl⟩,by simp,by simp,by simp [h6],by omega,?_,.app 1 ((g.b++F).map c8) T,⟨?_,.inr ⟨T,rfl,?_⟩⟩,?_,?_,?_⟩
  ·refine qaj (qaj (qdl (qaj (qaj (Tail_append_iff.2 ⟨qaj (qaj (hT.mono (by omega))),?_⟩)))));simp [qa7,qcw]
  ·simp [qac,qai,qav,h,hb6,hT',n1,n3,p6,pt,q6,qt,u1,u2,u4,u5,qcv]
  ·simp [qac,qai,qav,h,hb6,hz,hT',n1,n3,p6,pt,q6,qt,u1,u2,u4,u5]
  ·intro j hj;simp [tid] at hj;left;simp [tid,hj]
  ·intro j hj hx;have j1:¬j=t:=fun h=>hx (.inl h)
   have j2:¬j=b6:=fun h=>hx (.inr (.inl h))
   have j3:¬look j O=some .res:=fun h=>hx (.inr (.inr (.inr h)))
   have j4:¬N+52=j:=by omega
   have j6:¬j=T:=fun h=>hx (.inr (.inr (.inl (by simp [tid,h]))))
   cases hlo:look j O with
   | none=>simp [qac,qai,qav,j1,j2,j4,j6,hlo]
   | some y=>
    have j5:¬y= .res:=fun hh=>j3 (by rw [hlo,hh])
    simp [qac,qai,qav,j1,j2,j4,j6,hlo,j5]
  ·simp [qac,qai,qav,h,hb6,n1,n3,u2,u5]
end
theorem qajt {O:List (Nat×AO)} {N b6:Nat} {a7 a2:AV} (hb6:look b6 O=some (.row 1 [[.int .i64 0]])):cloI Φ c_20 .niliface [.ptr b6 1 0 0,a7,a2] ⟨O,N⟩=some ⟨O,N⟩:=by
 unfold cloI;rw [qb9];simp [c_20,recE,hb6]
theorem qaju {O:List (Nat×AO)} {N b6 b7 b2 t:Nat} {x:Int} {p:Prg} {c c0:Xf} {R:AV} {n:Nat} (hx:x≠0) (hb6:look b6 O=some (.row 1 [[.int .i64 x]])) (hb7:look b7 O=some (.row 4 [Xf.c c])) (hb2:look b2 O=some (.row 1 [[.ptr t 16 0 0]])) (ht:look t O=some (.row 16 [qe1 p c0 R n])):
  cloI Φ c_20 .niliface [.ptr b6 1 0 0,.ptr b7 4 0 0,.ptr b2 1 0 0] ⟨O,N⟩=some ⟨setl t (.row 16 [qe1 p c R n]) O,N⟩:=by
 unfold cloI;rw [qb9];rw [qcv] at ht;rw [Xf.ce] at hb7;simp [c_20,recE,hb6,hx,hb7,hb2,ht,qcv]
def CJ (N:Nat) (O:List (Nat×AO)) (t:Nat) (R:AV) (p:Prg) (g:LgV) (l:List Xc) (r:Option (Rt×AH)):Prop:=
 ∃O' N' R',N<=N'/\Tail O' N'/\(∀j,tid R'=some j->tid R=some j\/N<=j)/\Kp (fun j=>j=t\/tid R=some j\/Rs O j) N O O'/\
  match badA p g.c l with
  | some (k,x)=>r=some (.val (.tup [.Xu 1 [],.int .i64 k,.int .i64 x]),⟨O',N'⟩)/\LogM O' t R' p g
  | none=>r=some (.val (.tup [.slice 1 (idsA p g.c l),.int .i64 0,.int .i64 0]),⟨O',N'⟩)/\LogM O' t R' p (cmt p g l)
theorem qxz (p:Prg) (op:p.Ok qbe) (hc:(pre p.control).length<2^40 - 1) (hp:p.Xn.length<2^40) {g:LgV} (s:CfgT g.c) (hn:g.n<2^40) (hb:g.b.length<2^40) {l:List Xc} (hl:∀o∈l,OpS o) {v:AV} (hv:OpV v l)
    {O:List (Nat×AO)} {N t:Nat} {R:AV} (hT:Tail O N) (m:LogM O t R p g):CJ N O t R p g l (qak Φ f_20 [.ptr t 16 0 0,v] ⟨O,N⟩):=by
  rw [qlq Φ (d:=c_20) rfl rfl,qaf5];obtain ⟨e1,a1,g1,g2,g6⟩:=jc1 (t:=t) hT v;have t0:=hT N (Qb _);have t1:=hT (N+1) (by omega);have lt:=hT.lt m.row;have hT1:Tail (O++[(N,.row 1 [[.ptr t 16 0 0]])]++[(N+1,.row 1 [[.int .i64 0]])]) (N+2):=(hT.app1 (Qb N)).app1 (Qb (N+1));have hk1:Kp (fun _=>False) N O (O++[(N,.row 1 [[.ptr t 16 0 0]])]++[(N+1,.row 1 [[.int .i64 0]])]):=(Kp.app Kp.refl (Qb _)).app (QBg _);have tl:∀{O:List (Nat×AO)} {N:Nat},Tail O N->LogM O t R p g->∀j,tid R=some j->j<N:=by
    intro O N hT m j hj;rcases m.rcd with ⟨rfl,_⟩ | ⟨T,rfl,h⟩
    · simp [tid] at hj
    · simp [tid] at hj;subst hj;exact hT.lt h
  have m1:=m.fr (hk1 t lt (by simp)) (fun j hj=>hk1 j (tl hT m j hj) (by simp));have q2:look N (O++[(N,.row 1 [[.ptr t 16 0 0]])]++[(N+1,.row 1 [[.int .i64 0]])])=some (.row 1 [[.ptr t 16 0 0]]):=by simp [t0]
  have q6:look (N+1) (O++[(N,.row 1 [[.ptr t 16 0 0]])]++[(N+1,.row 1 [[.int .i64 0]])])=some (.row 1 [[.int .i64 0]]):=by simp [t1]
  generalize O++[(N,.row 1 [[.ptr t 16 0 0]])]++[(N+1,.row 1 [[.int .i64 0]])]=H1 at*;obtain ⟨e2,a2,i1,i2,i6⟩:=jc2 (N:=N+2) m1 g2 q2 g1 g6;obtain ⟨e3,a3,h1,h2,h6,h7⟩:=jc3 hT1 m1 i2 q2 i1 i6;have t2:=hT1 (N+2) (Qb _);have hk2:Kp (fun _=>False) (N+2) H1 (H1++[(N+2,.row 4 [Xf.c g.c])]):=Kp.app Kp.refl (Qb _);have hT2:Tail (H1++[(N+2,.row 4 [Xf.c g.c])]) (N+3):=hT1.app1 (Qb _);have m2:=m1.fr (hk2 t (by omega) (by simp)) (fun j hj=>hk2 j (tl hT1 m1 j hj) (by simp));have q2:=hk2.lk hT1 q2 (by simp);have q6:=hk2.lk hT1 q6 (by simp);have q7:look (N+2) (H1++[(N+2,.row 4 [Xf.c g.c])])=some (.row 4 [Xf.c g.c]):=by simp [t2]
  have hkO:Kp (fun _=>False) N O (H1++[(N+2,.row 4 [Xf.c g.c])]):=hk1.trans hk2 (by omega);generalize H1++[(N+2,.row 4 [Xf.c g.c])]=H2 at*;have a4:qat (qak Φ) none jcO ⟨e3,⟨H2,N+3⟩⟩=some (.normal,⟨(21,.func (.func f_58) [] [.ptr (N+1) 1 0 0,.ptr (N+2) 4 0 0,.ptr N 1 0 0])::e3,⟨H2,N+3⟩⟩):=by
    simp [jcO,qat,qbl,h2,h6,h7]
  have hcl:(look 21 ((21,AV.func (.func f_58) [] [.ptr (N+1) 1 0 0,.ptr (N+2) 4 0 0,.ptr N 1 0 0])::e3)).bind tgt=some (f_58,[.ptr (N+1) 1 0 0,.ptr (N+2) 4 0 0,.ptr N 1 0 0]):=by simp
  have z1:N+1≠N:=by omega
  unfold CJ;cases hA:badA p g.c l with
  | some x=>
    obtain ⟨k,x⟩:=x;have hx:=qj3 hA;obtain ⟨e4,O4,a5,j4,j5,j6,rfl⟩:=qaf4 (N:=N+3) (e:=(21,.func (.func f_58) [] [.ptr (N+1) 1 0 0,.ptr (N+2) 4 0 0,.ptr N 1 0 0])::e3) p op hc hp s hl hv m2 (by simp [h1]) (by simp [h2]) (by simp [h6]) q2 q6 z1 hA;simp only [qdv,a1,a2,a3,a4];rw [a5,hcl];simp only [show c_20.clo=f_58 from rfl,show c_20.ncaps=3 from rfl,QAl,QAq,and_self,if_true,qhr];have n1:N+1≠t:=by omega
    have n2:N≠t:=by omega
    have n3:N+2≠t:=by omega
    have n4:t≠N+1:=by omega
    have r:=m2.row;have y6:look (N+1) (setl (N+1) (.row 1 [[.int .i64 x]]) (setl (N+1) (.row 1 [[.int .i64 x]]) (setl t (.row 16 [qe1 p qjh R g.n]) H2)))=some (.row 1 [[.int .i64 x]]):=by simp [qac,n1,q6]
    have y7:look (N+2) (setl (N+1) (.row 1 [[.int .i64 x]]) (setl (N+1) (.row 1 [[.int .i64 x]]) (setl t (.row 16 [qe1 p qjh R g.n]) H2)))=some (.row 4 [Xf.c g.c]):=by simp [qac,n3,q7]
    have y2:look N (setl (N+1) (.row 1 [[.int .i64 x]]) (setl (N+1) (.row 1 [[.int .i64 x]]) (setl t (.row 16 [qe1 p qjh R g.n]) H2)))=some (.row 1 [[.ptr t 16 0 0]]):=by simp [qac,n2,q2]
    have yt:look t (setl (N+1) (.row 1 [[.int .i64 x]]) (setl (N+1) (.row 1 [[.int .i64 x]]) (setl t (.row 16 [qe1 p qjh R g.n]) H2)))=some (.row 16 [qe1 p qjh R g.n]):=by simp [qac,n4,r]
    rw [qaju hx y6 y7 y2 yt];refine ⟨setl t (.row 16 [qe1 p g.c R g.n]) (setl (N+1) (.row 1 [[.int .i64 x]]) (setl (N+1) (.row 1 [[.int .i64 x]]) (setl t (.row 16 [qe1 p qjh R g.n]) H2))),N+3,R,by omega,qaj (qaj (qaj (qaj hT2))),fun j hj=> .inl hj,?_,?_,?_⟩
    · intro j hj hx
      have e1:j≠t:=fun h=>hx (.inl h)
      rw [qac,QA e1,qac,QA (by omega),qac,QA (by omega),qac,QA e1];exact hkO j hj (by simp)
    · simp [qem,c_20,j4,j5,j6,qac,n1,q6]
    · refine ⟨by simp [qac,n4,r],?_⟩
      rcases m2.rcd with hz | ⟨T,rfl,hz⟩
      · exact .inl hz
      · refine .inr ⟨T,rfl,?_⟩
        have u1:T≠t:=qan hz r (by simp);have u2:T≠N+1:=qan hz q6 (by simp);rw [qac,QA u1,qac,QA u2,qac,QA u2,qac,QA u1,hz]
  | none=>
    obtain ⟨e4,O4,N4,R4,a5,j4,j5,j6,hN4,hT4,m4,hR4,hk4,y6⟩:=qajs (N:=N+3) (e:=(21,.func (.func f_58) [] [.ptr (N+1) 1 0 0,.ptr (N+2) 4 0 0,.ptr N 1 0 0])::e3) p op hc hp s hl hv hT2 m2 (by simp [h1]) (by simp [h2]) (by simp [h6]) q2 q6 z1 hA hn hb;simp only [qdv,a1,a2,a3,a4];rw [a5,hcl];simp only [show c_20.clo=f_58 from rfl,show c_20.ncaps=3 from rfl,QAl,QAq,and_self,if_true,qhr];rw [qajt y6];refine ⟨O4,N4,R4,by omega,hT4,fun j hj=>(hR4 j hj).imp id fun h=>by omega,?_,?_,m4⟩
    · intro j hj hx
      rw [hk4 j (by omega) ?_,hkO j hj (by simp)];rintro (h | h | h | h)
      · exact hx (.inl h)
      · omega
      · exact hx (.inr (.inl h))
      · have h:look j H2=some .res:=h
        rw [hkO j hj (by simp)] at h;exact hx (.inr (.inr h))
    · simp [qem,c_20,j4,j5,j6,y6]
def qaio (N:Nat) (O:List (Nat×AO)) (c:Xf) (r:Option (Rt×AH)):Prop:=
 ∃w1 w2 w3 w4 V O' N',r=some (.val (.agg [w1,w2,w3,w4]),⟨O',N'⟩)/\CfgM O' w1 w2 w3 w4 V c/\(∀j,CfgM.own w1 w2 w3 V j->N<=j)/\Kp (Rs O) N O O'/\Tail O' N'/\N<=N'
theorem qadw (l m:List Int) (hb:l.length<2^40):qab Φ f_75 [.slice 1 (l.map cI),.slice 1 (m.map cI)]=some (.val (.bool (decide (l=m)))):=by
 rw [qaa (fn:=c_75) rfl rfl];by_cases q1:l.length=m.length
 rotate_left
 ·have:l≠m:=fun h=>q1 (by rw [h])
  simp [c_75,q1,this]
 simp [c_75,q1];refine (qay l.length (fun i e=>look 0 e=some (.slice 1 (l.map cI))/\look 1 e=some (.slice 1 (m.map cI))/\look 12 e=some (.int .i64 l.length)/\look 13 e=some (.int .i64 i))
  (fun i=>some (Rt.val (AV.bool (qbx l m i)))) ?_ ?_ 0 _ (Qc _) ?_).trans (by simp [qbx])
 ·rintro i e L hi hL ⟨h0,h1,h12,h13⟩ ih;have hi2:i<m.length:=by omega
  have hw:=qaf i (by omega);by_cases c:l[i]=m[i]
  ·rw [qdn hi hi2 c];simp [c_75_l0,cIe,hi,hi2,hL,h0,h1,h12,h13,hw,c];exact ih _ ⟨by simp [h0],by simp [h1],by simp [h12],by simp⟩
  ·rw [qc5 hi hi2 c];simp [c_75_l0,cIe,hi,hi2,hL,h0,h1,h12,h13,c]
 ·rintro e L hL ⟨h0,h1,h12,h13⟩;rw [qdm q1];simp [c_75_l0,c_75_k1, *]
 ·simp [q1]
theorem quv (l m:List Int) (hb:l.length<2^40):qab Φ f_80 [.slice 1 (l.map c32),.slice 1 (m.map c32)]=some (.val (.bool (decide (l=m)))):=by
 rw [qaa (fn:=c_80) rfl rfl];by_cases q1:l.length=m.length
 rotate_left
 ·have:l≠m:=fun h=>q1 (by rw [h])
  simp [c_80,q1,this]
 simp [c_80,q1];refine (qay l.length (fun i e=>look 0 e=some (.slice 1 (l.map c32))/\look 1 e=some (.slice 1 (m.map c32))/\look 12 e=some (.int .i64 l.length)/\look 13 e=some (.int .i64 i))
  (fun i=>some (Rt.val (AV.bool (qbx l m i)))) ?_ ?_ 0 _ (Qc _) ?_).trans (by simp [qbx])
 ·rintro i e L hi hL ⟨h0,h1,h12,h13⟩ ih;have hi2:i<m.length:=by omega
  have hw:=qaf i (by omega);by_cases c:l[i]=m[i]
  ·rw [qdn hi hi2 c];simp [c_80_l0,c32e,hi,hi2,hL,h0,h1,h12,h13,hw,c];exact ih _ ⟨by simp [h0],by simp [h1],by simp [h12],by simp⟩
  ·rw [qc5 hi hi2 c];simp [c_80_l0,c32e,hi,hi2,hL,h0,h1,h12,h13,c]
 ·rintro e L hL ⟨h0,h1,h12,h13⟩;rw [qdm q1];simp [c_80_l0,c_80_k1, *]
 ·simp [q1]
theorem qai4 (l m:List (List Int)) (hb:l.length<2^40) (hf:∀x∈l,∀y∈m,qab Φ f_79 [.slice 1 (x.map c32),.slice 1 (y.map c32)]=some (.val (.bool (decide (x=y))))):
   qab Φ f_78 [.slice 1 (l.map (cS 1 c32)),.slice 1 (m.map (cS 1 c32)),.func (.func f_79) [] []]=some (.val (.bool (decide (l=m)))):=by
  rw [qaa (fn:=c_78) rfl rfl];by_cases q1:l.length=m.length
  rotate_left
  · have:l≠m:=fun h=>q1 (by rw [h])
    simp [c_78,q1,this]
  simp [c_78,q1];refine (qay l.length (fun i e=>look 1 e=some (.slice 1 (m.map (cS 1 c32)))/\look 2 e=some (.func (.func f_79) [] [])/\look 15 e=some (.slice 1 (l.map (cS 1 c32)))/\look 16 e=some (.int .i64 l.length)/\look 17 e=some (.int .i64 i))
    (fun i=>some (Rt.val (AV.bool (qbx l m i)))) ?_ ?_ 0 _ (Qc _) ?_).trans (by simp [qbx])
  · rintro i e L hi hL ⟨h1,h2,h15,h16,h17⟩ ih
    have hi2:i<m.length:=by omega
    have hw:=qaf i (by omega);have hee:=hf _ (Qd hi) _ (Qd hi2);by_cases c:l[i]=m[i]
    · rw [decide_eq_true c] at hee
      rw [qdn hi hi2 c];simp [c_78_l0,cSe,hi,hi2,hL,h1,h2,h15,h16,h17,hw,hee];refine (ih _ ⟨by simp [h1],by simp [h2],by simp [h15],by simp [h16],by simp⟩).trans (by simp)
    · rw [decide_eq_false c] at hee
      rw [qc5 hi hi2 c];simp [c_78_l0,cSe,hi,hi2,hL,h1,h2,h15,h16,h17,hee]
  · rintro e L hL ⟨h1,h2,h15,h16,h17⟩
    rw [qdm q1];simp [c_78_l0,c_78_k1, *]
  · simp [q1]
theorem qafg (l m:List (List Rw)) (hb:l.length<2^40) (hf:∀x∈l,∀y∈m,qab Φ f_74 [.slice 5 (x.map Rw.c),.slice 5 (y.map Rw.c)]=some (.val (.bool (decide (x=y))))):
   qab Φ f_73 [.slice 1 (l.map (cS 5 Rw.c)),.slice 1 (m.map (cS 5 Rw.c)),.func (.func f_74) [] []]=some (.val (.bool (decide (l=m)))):=by
  rw [qaa (fn:=c_73) rfl rfl];by_cases q1:l.length=m.length
  rotate_left
  · have:l≠m:=fun h=>q1 (by rw [h])
    simp [c_73,q1,this]
  simp [c_73,q1];refine (qay l.length (fun i e=>look 1 e=some (.slice 1 (m.map (cS 5 Rw.c)))/\look 2 e=some (.func (.func f_74) [] [])/\look 15 e=some (.slice 1 (l.map (cS 5 Rw.c)))/\look 16 e=some (.int .i64 l.length)/\look 17 e=some (.int .i64 i))
    (fun i=>some (Rt.val (AV.bool (qbx l m i)))) ?_ ?_ 0 _ (Qc _) ?_).trans (by simp [qbx])
  · rintro i e L hi hL ⟨h1,h2,h15,h16,h17⟩ ih
    have hi2:i<m.length:=by omega
    have hw:=qaf i (by omega);have hee:=hf _ (Qd hi) _ (Qd hi2);by_cases c:l[i]=m[i]
    · rw [decide_eq_true c] at hee
      rw [qdn hi hi2 c];simp [c_73_l0,cSe,hi,hi2,hL,h1,h2,h15,h16,h17,hw,hee];refine (ih _ ⟨by simp [h1],by simp [h2],by simp [h15],by simp [h16],by simp⟩).trans (by simp)
    · rw [decide_eq_false c] at hee
      rw [qc5 hi hi2 c];simp [c_73_l0,cSe,hi,hi2,hL,h1,h2,h15,h16,h17,hee]
  · rintro e L hL ⟨h1,h2,h15,h16,h17⟩
    rw [qdm q1];simp [c_73_l0,c_73_k1, *]
  · simp [q1]
theorem qai2 (l m:List Xb) (hb:l.length<2^40) (hf:∀x∈l,∀y∈m,qab Φ f_77 [.agg (Xb.c x),.agg (Xb.c y)]=some (.val (.bool (decide (x=y))))):
   qab Φ f_76 [.slice 2 (l.map Xb.c),.slice 2 (m.map Xb.c),.func (.func f_77) [] []]=some (.val (.bool (decide (l=m)))):=by
  rw [qaa (fn:=c_76) rfl rfl];by_cases q1:l.length=m.length
  rotate_left
  · have:l≠m:=fun h=>q1 (by rw [h])
    simp [c_76,q1,this]
  simp [c_76,q1];refine (qcr l.length (fun i e h=>look 1 e=some (.slice 2 (m.map Xb.c))/\look 2 e=some (.func (.func f_77) [] [])/\look 15 e=some (.slice 2 (l.map Xb.c))/\look 16 e=some (.int .i64 l.length)/\look 17 e=some (.int .i64 i)/\∃objs N,Tail objs N/\h=⟨objs,N⟩)
    (fun i=>some (Rt.val (AV.bool (qbx l m i)))) ?_ ?_ 0 _ _ (Qc _) ?_).trans (by simp [qbx])
  · rintro i e _ L hi hL ⟨h1,h2,h15,h16,h17,objs,N,hN,rfl⟩ ih
    have hi2:i<m.length:=by omega
    have hw:=qaf i (by omega);have hNN:=hN N (Qb _);have hN1:=hN (N+1) (by omega);have hee:=hf _ (Qd hi) _ (Qd hi2);simp only [Xb.ce] at hee;by_cases c:l[i]=m[i]
    · rw [decide_eq_true c] at hee
      rw [qdn hi hi2 c];simp [c_76_l0,Xb.ce,hi,hi2,hL,h1,h2,h15,h16,h17,hNN,hN1,hw,hee];refine (ih _ _ ⟨by simp [h1],by simp [h2],by simp [h15],by simp [h16],by simp,_,_,(hN.app _).app _,by simp;exact ⟨rfl,rfl⟩⟩).trans (by simp)
    · rw [decide_eq_false c] at hee
      rw [qc5 hi hi2 c];simp [c_76_l0,Xb.ce,hi,hi2,hL,h1,h2,h15,h16,h17,hNN,hN1,hee]
  · rintro e _ L hL ⟨h1,h2,h15,h16,h17,objs,N,hN,rfl⟩
    rw [qdm q1];simp [c_76_l0,c_76_k1, *]
  · simp [q1]
    exact Tail.nil 0
theorem qai3 (l m:List Rw) (hb:l.length<2^40) (hf:∀x∈l,∀y∈m,qab Φ f_148 [.agg (Rw.c x),.agg (Rw.c y)]=some (.val (.bool (decide (x=y))))):
   qab Φ f_147 [.slice 5 (l.map Rw.c),.slice 5 (m.map Rw.c),.func (.func f_148) [] []]=some (.val (.bool (decide (l=m)))):=by
  rw [qaa (fn:=c_147) rfl rfl];by_cases q1:l.length=m.length
  rotate_left
  · have:l≠m:=fun h=>q1 (by rw [h])
    simp [c_147,q1,this]
  simp [c_147,q1];refine (qcr l.length (fun i e h=>look 1 e=some (.slice 5 (m.map Rw.c))/\look 2 e=some (.func (.func f_148) [] [])/\look 15 e=some (.slice 5 (l.map Rw.c))/\look 16 e=some (.int .i64 l.length)/\look 17 e=some (.int .i64 i)/\∃objs N,Tail objs N/\h=⟨objs,N⟩)
    (fun i=>some (Rt.val (AV.bool (qbx l m i)))) ?_ ?_ 0 _ _ (Qc _) ?_).trans (by simp [qbx])
  · rintro i e _ L hi hL ⟨h1,h2,h15,h16,h17,objs,N,hN,rfl⟩ ih
    have hi2:i<m.length:=by omega
    have hw:=qaf i (by omega);have hNN:=hN N (Qb _);have hN1:=hN (N+1) (by omega);have hee:=hf _ (Qd hi) _ (Qd hi2);simp only [Rw.ce] at hee;by_cases c:l[i]=m[i]
    · rw [decide_eq_true c] at hee
      rw [qdn hi hi2 c];simp [c_147_l0,Rw.ce,hi,hi2,hL,h1,h2,h15,h16,h17,hNN,hN1,hw,hee];refine (ih _ _ ⟨by simp [h1],by simp [h2],by simp [h15],by simp [h16],by simp,_,_,(hN.app _).app _,by simp;exact ⟨rfl,rfl⟩⟩).trans (by simp)
    · rw [decide_eq_false c] at hee
      rw [qc5 hi hi2 c];simp [c_147_l0,Rw.ce,hi,hi2,hL,h1,h2,h15,h16,h17,hNN,hN1,hee]
  · rintro e _ L hL ⟨h1,h2,h15,h16,h17,objs,N,hN,rfl⟩
    rw [qdm q1];simp [c_147_l0,c_147_k1, *]
  · simp [q1]
    exact Tail.nil 0
theorem qyq (x y:Xb) (h:x.args.length<2^40):qab Φ f_77 [.agg (Xb.c x),.agg (Xb.c y)]=some (.val (.bool (decide (x=y)))):=by
 have ee:decide (x=y)=decide (x.action=y.action/\x.args=y.args):=decide_eq_decide.2 (Xb.eq_iff x y);rw [ee,qaa (fn:=c_77) rfl rfl];have ha:=quv x.args y.args h;by_cases q:x.action=y.action
 ·simp [c_77,Xb.ce,ha,q]
 ·simp [c_77,Xb.ce,ha,q]
theorem qad9 (x y:List Int) (h:x.length<2^40):qab Φ f_79 [.slice 1 (x.map c32),.slice 1 (y.map c32)]=some (.val (.bool (decide (x=y)))):=by
 rw [qaa (fn:=c_79) rfl rfl];have ha:=quv x y h;simp [c_79,ha]
theorem qaea (x y:Rw) (h:x.entry.sm):qab Φ f_148 [.agg (Rw.c x),.agg (Rw.c y)]=some (.val (.bool (decide (x=y)))):=by
 have ee:decide (x=y)=decide (x.id=y.id/\x.entry=y.entry):=decide_eq_decide.2 (Rw.eq_iff x y);rw [ee,qaa (fn:=c_148) rfl rfl];have ha:=qzm x.entry y.entry h;simp only [Entry.ce] at ha;by_cases q:x.id=y.id
 ·simp [c_148,Rw.ce,ha,q]
 ·simp [c_148,Rw.ce,ha,q]
theorem qabf (x y:List Rw) (h:x.length<2^40) (hs:∀r∈x,r.entry.sm):qab Φ f_74 [.slice 5 (x.map Rw.c),.slice 5 (y.map Rw.c)]=some (.val (.bool (decide (x=y)))):=by
 rw [qaa (fn:=c_74) rfl rfl];have ha:=qai3 x y h (fun a h1 b _=>qaea a b (hs a h1));simp [c_74,ha]
theorem qyr (a b:Xf) (f:CfgS a):qab Φ f_32 [.agg (Xf.c a),.agg (Xf.c b)]=some (.val (.bool (decide (a=b)))):=by
 have ee:decide (a=b)=decide (a.rows=b.rows/\a.Xr=b.Xr/\a.Xq=b.Xq/\a.Xm=b.Xm):=decide_eq_decide.2 (Xf.eq_iff a b);rw [ee,qaa (fn:=c_32) rfl rfl];have h1:=qafg a.rows b.rows f.rl (fun x hx y _=>qabf x y (f.rs x hx).1 (f.rs x hx).2);have h2:=qadw a.Xr b.Xr f.nl;have h3:=qai2 a.Xq b.Xq f.dl (fun x hx y _=>qyq x y (f.ds x hx));have h4:=qai4 a.Xm b.Xm f.gl (fun x hx y _=>qad9 x y (f.gs x hx));by_cases q1:a.rows=b.rows
 rotate_left
 ·simp [c_32,Xf.ce,h1,h2,h3,h4,q1]
 rw [q1] at h1;by_cases q2:a.Xr=b.Xr
 rotate_left
 ·simp [c_32,Xf.ce,h1,h2,h3,h4,q1,q2]
 rw [q2] at h2;by_cases q3:a.Xq=b.Xq
 rotate_left
 ·simp [c_32,Xf.ce,h1,h2,h3,h4,q1,q2,q3]
 rw [q3] at h3;simp [c_32,Xf.ce,h1,h2,h3,h4,q1,q2,q3]
def lgP (p:Prg) (g:LgV):AV:= .iptr 16 [qe1 p g.c (.slice 1 (g.b.map c8)) g.n] 0 0
theorem qmz (p:Prg) (g:LgV):lgP p g= .iptr 16 [[.bool true,.str p.name,.slice 2 (p.Xp.map Xj.c),.slice 2 (p.Xo.map Fld.c),.slice 3 (p.Xm.map Xh.c),.slice 3 (p.actions.map Action.c),.slice 6 (p.Xn.map Tbl.c),.slice 7 (p.states.map Xd.c),.slice 5 (p.control.map Xa.c),.slice 1 (p.Xs.map cI),
  .slice 1 (g.c.rows.map (cS 5 Rw.c)),.slice 1 (g.c.Xr.map cI),.slice 2 (g.c.Xq.map Xb.c),.slice 1 (g.c.Xm.map (cS 1 c32)),.slice 1 (g.b.map c8),.int .i64 g.n]] 0 0:=by
 simp only [lgP,qcv]
theorem LogM.snp {O:List (Nat×AO)} {N t n:Nat} {R:AV} {p:Prg} {g:LgV} (m:LogM O t R p g):snap (n+2) ⟨O,N⟩ (.ptr t 16 0 0)=some (lgP p g):=by
 have h:=m.row;rw [qcv] at h;rw [qmz];rcases m.rcd with ⟨rfl,hz⟩ | ⟨T,rfl,hz⟩
 ·simp [h,hz]
 ·simp [h]
theorem qaf8 {O:List (Nat×AO)} {N:Nat} {p:Prg} {g:LgV}:qak Φ f_22 [lgP p g] ⟨O,N⟩=some (.val (.int .i64 g.n),⟨O,N⟩):=by
 rw [qaz (fn:=c_22) rfl rfl,qmz];simp [c_22]
theorem frz8 {O:List (Nat×AO)} {N:Nat} (hT:Tail O N) (b:List Int):qe4 ⟨O++[(N,AO.row 1 (b.map c8))],N+1⟩ N 1 0 b.length=some (.slice 1 (b.map c8)):=by
 have t0:=hT N (Qb _);have hg:AH.get ⟨O++[(N,AO.row 1 (b.map c8))],N+1⟩ N=some (.row 1 (b.map c8)):=by simp [AH.get,t0]
 have hb:anyL (bor qah) (b.map c8).flatten=false:=by
  have:∀l:List Int,anyL (bor qah) (l.map c8).flatten=false:=by
   intro l
   induction l with
   | nil=>simp
   | cons x l ih=>simp [c8];exact ih
  exact this _
 have hs:mapO (mapO (snap qah ⟨O++[(N,AO.row 1 (b.map c8))],N+1⟩)) (b.map c8)=some (b.map c8):=qdz (g:=c8) (fun x=>by simp [c8]) b;have ht:((b.map c8).drop 0).take b.length=b.map c8:=Qo (by simp);unfold qe4;rw [hg];simp only;rw [QAa ⟨trivial,by simp,hb⟩,ht,hs];rfl
theorem qy9 {O:List (Nat×AO)} {N:Nat} {p:Prg} {g:LgV} (hT:Tail O N) (hb:g.b.length<2^40):
  qak Φ f_21 [lgP p g] ⟨O,N⟩=some (.val (.slice 1 (g.b.map c8)),⟨O,N+1⟩):=by
 rw [qaz (fn:=c_21) rfl rfl,qmz];have t0:=hT N (Qb _);have k1:g.b.length<4611686018427387904/\(g.b.length:Int)<=140737488355328:=by omega
 have fz:=frz8 hT g.b;simp [c_21,t0,k1,fz,qai]
theorem qvp (p:Prg) (op:p.Ok qbe) (hc:(pre p.control).length<2^40 - 1) {g:LgV} (v:CfgV p g.c) (s:CfgT g.c) {O:List (Nat×AO)} {N:Nat} (hT:Tail O N):
  qaio N O g.c (qak Φ f_31 [lgP p g] ⟨O,N⟩):=by
 rw [qaz (fn:=c_31) rfl rfl,qmz];have t0:=hT N (Qb _);have hk0:Kp (fun _=>False) N O (O++[(N,AO.row 4 [[.Xu 1 [],.Xu 1 [],.Xu 2 [],.Xu 1 []]])]):=Kp.app (fun _ _ _=>rfl) (Qb _);have hT0:=hT.app1 (o:=AO.row 4 [[.Xu 1 [],.Xu 1 [],.Xu 2 [],.Xu 1 []]]) (Qb N);have rN:look N (O++[(N,AO.row 4 [[.Xu 1 [],.Xu 1 [],.Xu 2 [],.Xu 1 []]])])=some (.row 4 [[.Xu 1 [],.Xu 1 [],.Xu 2 [],.Xu 1 []]]):=by simp [t0]
 rcases qv6 p op hc g.c s hT0 with ⟨z,_⟩ | ⟨_,S,O1,N1,e,m1,w1,hk1,hT1,hN1⟩
 ·exact absurd ((qgc p g.c).2 v) z
 obtain ⟨u1,u2,u3,u4,U,O2,N2,e2,n2,w2,hk2,hT2,hN2⟩:=qqv (v.u s) hT1 m1;have r1:=hk1.lk hT0 rN (by intro h;unfold Rs at h;rw [rN] at h;cases h);have r2:=hk2.lk hT1 r1 (by simp);simp only [Prg.e,Xf.ce] at e;simp [c_31,t0,qai,e,e2,r2,qac];refine ⟨u1,u2,u3,u4,U,_,N2,rfl,?_,fun j hj=>by have:=w2 j hj;omega,?_,qaj hT2,by omega⟩
 ·refine n2.fr fun j hj=>?_
  have:=w2 j hj;rw [qac,QA (by omega)]
 ·intro j hj hx;rw [qac,QA (by omega),hk2 j (by omega) (by simp),hk1 j (by omega) ?_,hk0 j hj (by simp)];intro hr;unfold Rs at hr;rw [hk0 j hj (by simp)] at hr;exact hx hr
theorem qtt (l m:List Int) (hb:l.length<2^40):qab Φ f_27 [.slice 1 (l.map cI),.slice 1 (m.map cI)]=some (.val (.bool (decide (l=m)))):=by
 rw [qaa (fn:=c_27) rfl rfl];by_cases h:l.length=m.length
 rotate_left
 ·have hne:l≠m:=fun e=>h (by rw [e])
  have h2:¬((l.length:Int)=(m.length:Int)):=by omega
  simp [c_27,hne,h2]
 have h2:(l.length:Int)=(m.length:Int):=by omega
 simp [c_27,h2];refine (qau l.length (fun _=>[]) 0 (fun i e=>look 0 e=some (.slice 1 (l.map cI))/\look 1 e=some (.slice 1 (m.map cI))/\look 5 e=some (.int .i64 i))
  (fun i=>some (Rt.val (.bool (qbx l m i)))) ?_ ?_ 0 _ _ (Qc _) (Qc _) ?_).trans (by simp [qvi])
 ·rintro i e n K hi hK _ ⟨h0,h1,h5⟩ ih;have hi2:i<m.length:=by omega
  have hw:=qaf i (by omega);by_cases hx:l[i]=m[i]
  ·rw [qdn hi hi2 hx];generalize hX:some (Rt.val (.bool (qbx l m (i+1))))=X at ih ⊢;simp [c_27_l0,h0,h1,h5,hi,hi2,cIe,hx,hw];exact ih _ _ (Qc _) ⟨by simp [h0],by simp [h1],by simp⟩
  ·rw [qc5 hi hi2 hx];simp [c_27_l0,h0,h1,h5,hi,hi2,cIe,hx]
 ·rintro e n K hK _ ⟨h0,h1,h5⟩;rw [qdm h];simp [c_27_l0,c_27_k1,h0,h1,h5,hK]
 ·simp
theorem qalj (p:Prg) (f:PrgS p) (L:List (List Xc)) (hL:L.length<2^40) (hl:∀l∈L,l.length<2^40):
  ∃b,qab Φ f_18 [.agg (Prg.c p),.slice 1 (L.map (cS 9 Xc.c))]=some (.val (.bool b))/\(b=false->(pre p.control).length<=60/\L.length<=12/\∀l∈L,qgw l=false):=by
 obtain ⟨r,hr,hrb⟩:=qv4 p f;rw [qaa (fn:=c_18) rfl rfl];simp only [Prg.e] at hr;cases r with
 | true=>exact ⟨true,by simp [c_18,Prg.e,hr],by simp⟩
 | false=>
 by_cases z:12<L.length
 ·have z':(12:Int)<L.length:=by omega
  exact ⟨true,by simp [c_18,Prg.e,hr,z,z'],by simp⟩
 have z':¬(12:Int)<L.length:=by omega
 refine ⟨L.any qgw,?_,fun h=>⟨hrb rfl,by omega,fun l hl=>by simpa using List.any_eq_false.1 h l hl⟩⟩;generalize hX:some (Rt.val (.bool (L.any qgw)))=X;simp [c_18,Prg.e,hr,z,z'];rw [<- hX];refine (qau L.length (fun _=>[]) 0 (fun i e=>look 1 e=some (.slice 1 (L.map (cS 9 Xc.c)))/\look 5 e=some (.int .i64 i))
  (fun i=>some (Rt.val (.bool (qcg L qgw i)))) ?_ ?_ 0 _ _ (Qc _) (Qc _) ?_).trans (by simp [qg5])
 ·rintro i e n K hi hK _ ⟨h1,h5⟩ ih;have hw:=qaf i (by omega);have hg:=qvo L[i] (hl _ (Qd hi));cases hq:qgw L[i] with
  | true=>
   rw [hq] at hg;rw [qjz hi hq];simp [c_18_l0,h1,h5,hi,cSe,hg]
  | false=>
   rw [hq] at hg;rw [qey hi hq];generalize hX:some (Rt.val (.bool (qcg L qgw (i+1))))=X at ih ⊢;simp [c_18_l0,h1,h5,hi,cSe,hg,hw];exact ih _ _ (Qc _) ⟨by simp [h1],by simp⟩
 ·rintro e n K hK _ ⟨h1,h5⟩;rw [qip];simp [c_18_l0,c_18_k1,h1,h5,hK]
 ·simp
theorem qws (p:Prg) (op:p.Ok qbe) (hc:(pre p.control).length<2^40 - 1) {g:LgV} (v:CfgV p g.c) (s:CfgT g.c) (hb:g.b.length<2^40):qab Φ f_28 [lgP p g,.agg (rlC p g)]=some (.val (.bool true)):=by
 rw [qaa (fn:=c_28) rfl rfl,qeo];have k1:=qy9 (p:=p) (g:=g) (Tail.nil 1) hb;have k2:=fun {O N}=>qaf8 (O:=O) (N:=N) (p:=p) (g:=g)
 obtain ⟨w1,w2,w3,w4,V,O',N',e,cm,_,_,_,_⟩:=qvp p op hc v s (O:=[]) (N:=2) (Tail.nil 2);have k3:=qyr g.c g.c s.s;rw [decide_eq_true rfl] at k3;have s1:=fun h=>qw4 h 1 g.b
 have a1:=cm.snpR (n:=35) (N:=N');have a2:=cm.snpN (n:=35) (N:=N');have a3:=cm.snpD (n:=35) (N:=N');have a4:=cm.snpG (n:=35) (N:=N');rw [Xf.ce] at k3;simp [c_28,k1,k2,e,k3,a1,a2,a3,a4,qafj,s1,-qot]
end Go.Av
