/-
 The reference's reader of bits.
-/
import Derived.Test.YtknmfocedphgmaaGreatH12
set_option linter.unusedVariables false
set_option linter.unusedSimpArgs false
set_option linter.constructorNameAsVariable false
namespace Go.Av
set_option maxRecDepth 8000
def rC (B:List Int) (pos:Nat):List AV:=[.slice 1 (B.map c8),.int .i64 pos]
section
variable (B:List Int) (pos:Nat) (hB:B.length<=1000) (hp:pos<=8*B.length)
include hB hp
theorem qkq:qac Φ f_359 [.agg (rC B pos)]=some (.val (.int .i64 ((8*B.length - pos:Nat):Int))):=by
 rw [qad (fn:=c_359) rfl rfl];have w1:IntKind.wrap .i64 (8*(B.length:Int))=((8*B.length:Nat):Int):=by
  rw [show (8*(B.length:Int))=((8*B.length:Nat):Int) by omega];exact qbr (by omega) (by omega)
 have w2:IntKind.wrap .i64 (8*(B.length:Int) - (pos:Int))=((8*B.length - pos:Nat):Int):=by
  rw [show (8*(B.length:Int) - (pos:Int))=((8*B.length - pos:Nat):Int) by omega];exact qbr (by omega) (by omega)
 simp [c_359,rC,w1,w2]
omit hB hp in
theorem vw_ok (w:Nat) (h1:1<=w) (h2:w<=32):qac Φ f_317 [.int .i64 w]=some (.val (.bool true)):=by
 rw [qad (fn:=c_317) rfl rfl];have h3:(1:Int)<=w:=by omega
 have h4:(w:Int)<=32:=by omega
 simp [c_317,h3,h4]
def RBQ (B:List Int) (pos w:Nat) (r:Option Rt):Prop:=∃v,ok32 0 v/\r=some (.val (.tup [.agg (rC B (pos+w)),.int .u32 v,.int .i64 0]))
theorem qabk (w:Nat) (h1:1<=w) (h2:w<=32) (h:pos+w<=8*B.length):RBQ B pos w (qac Φ f_360 [.agg (rC B pos),.int .i64 w]):=by
 rw [qad (fn:=c_360) rfl rfl];have q1:=vw_ok w h1 h2;have q2:=qkq B pos hB hp;have q3:¬8*B.length - pos<w:=by omega
 rw [rC] at q2;simp [c_360,rC,q1,q2,q3];refine qbk w (fun i e h=>∃v n P,ok32 0 v/\2<=n/\P=pos+i/\h=⟨[(0,.row 2 [[.slice 1 (B.map c8),.int .i64 ((P:Nat):Int)]]),(1,.row 2 [[.Xu 1 [],.int .i64 0]])],n⟩/\look 1 e=some (.int .i64 w)/\look 2 e=some (.ptr 0 2 0 0)/\look 4 e=some (.ptr 1 2 0 0)/\look 7 e=some (.int .u32 v)/\look 8 e=some (.int .i64 i)) (RBQ B pos w) ?_ ?_ 0 _ _ (Qc _) ?_
 ·rintro i e _ L hi hL ⟨v,n,P,ov,hn,hP,rfl,g1,g2,g4,g7,g8⟩ ih;have hw:=qao i (by omega);obtain ⟨D,hD⟩:∃D,D=P / 8:=⟨_,rfl⟩;obtain ⟨M,hM⟩:∃M,M=P % 8:=⟨_,rfl⟩;obtain ⟨S,hS⟩:∃S,S=7 - M:=⟨_,rfl⟩;have hb:D<B.length:=by omega
  have hq3:((P:Int) / 8)=D:=by omega
  have hq0:(P:Int).tdiv 8=D:=by rw [QBf (by omega)];omega
  have hwD:IntKind.wrap .i64 (D:Int)=D:=qbr (by omega) (by omega);have hr1:(P:Int).tmod 8=M:=by rw [QAz (by omega)];omega
  have hr2:((P:Int) % 8)=M:=by omega
  have hs:IntKind.wrap .i64 (7 - (M:Int))=S:=by
   rw [show (7 - (M:Int))=(S:Int) by omega];exact qbr (by omega) (by omega)
  have hp1:=qao P (by omega);have hn0:¬((S:Int)<0):=by omega
  simp [c_360_l0,g1,g2,g4,g7,g8,hi,hw,hq0,hq3,hwD,hr1,hr2,hs,hp1,hb,hL,qaa,c8,hn0];exact ih _ _ ⟨_,_,P+1,wr32 _,hn,by omega,rfl,by simp [g1],by simp [g2],by simp [g4],by simp;rfl,by simp⟩
 ·rintro e _ L hL ⟨v,n,P,ov,hn,hP,rfl,g1,g2,g4,g7,g8⟩;subst hP;simp [c_360_l0,c_360_k1,g1,g2,g4,g7,g8,hL,qaa];exact ⟨v,ov,by simp [rC]⟩
 ·exact ⟨0,2,pos,ok00,Qb _,by simp,by simp,by simp,by simp,by simp,by simp,by simp⟩
end
theorem qac0 (B:List Int) (hB:B.length<=1000):qac Φ f_251 [.slice 1 (B.map c8)]=some (.val (.agg (rC B 0))):=by
 rw [qad (fn:=c_251) rfl rfl];have b1:B.length<=70368744177664:=by omega
 have al:=alB B;simp [c_251,rC,b1,al]
theorem qadp (B:List Int) (hB:B.length<=1000) (k:Nat) (hk:k<=B.length):qac Φ f_254 [.agg (rC B (8*k))]=some (.val (.tup [.slice 1 ((B.drop k).map c8),.int .i64 0])):=by
 rw [qad (fn:=c_254) rfl rfl];have b1:B.length - k<=70368744177664:=by omega
 have al:=alB (B.drop k);rw [<- qw5] at al;have ht:List.take (B.length - k) (List.drop k (List.map c8 B))=List.drop k (List.map c8 B):=Qo (by simp);obtain ⟨P,hP⟩:∃P,P=8*k:=⟨_,rfl⟩;rw [<- hP];have hq3:((P:Int) / 8)=k:=by omega
 have hq0:(P:Int).tdiv 8=k:=by rw [QBf (by omega)];omega
 have hwD:IntKind.wrap .i64 (k:Int)=k:=qbr (by omega) (by omega);have hr1:(P:Int).tmod 8=0:=by rw [QAz (by omega)];omega
 have hr2:((P:Int) % 8)=0:=by omega
 simp [c_254,rC,hq0,hq3,hwD,hr1,hr2,hk,b1,al,ht]
def wS (l:List Fld):Nat:=(l.map fun f=>f.width.toNat).sum
theorem qaee (l:List Fld) (f:Fld):wS (l++[f])=wS l+f.width.toNat:=by simp [wS]
theorem qvl (l:List Fld) (i:Nat):wS (l.take i)<=wS l:=by
 have:wS l=wS (l.take i)+wS (l.drop i):=by
  unfold wS;rw [<- List.sum_append,<- QCa,List.take_append_drop]
 omega
section
variable (h:Xj) (hc:qac Φ f_198 [.agg (Xj.c h)]=some (.val (.int .i64 0))) (hb:qac Φ f_358 [.agg (Xj.c h)]=some (.val (.int .i64 (wS h.fields:Nat))))
 (hw:∀f∈h.fields,1<=f.width/\f.width<=32) (hl:h.fields.length<=100) (B:List Int) (pos:Nat) (hB:B.length<=1000) (hp:pos<=8*B.length)
include hc hb hw hl hB hp
omit hw hl in
theorem qse (hs:8*B.length<pos+wS h.fields):qac Φ f_316 [.agg (Xj.c h),.agg (rC B pos)]=some (.val (.tup [.agg (rC B pos),.slice 1 [],.int .i64 3])):=by
 rw [qad (fn:=c_316) rfl rfl];have q2:=qkq B pos hB hp;have q3:8*B.length - pos<wS h.fields:=by omega
 rw [rC] at q2;simp only [Xj.e] at hc hb;simp [c_316,rC,Xj.e,hc,hb,q2,q3]
def RdQ (h:Xj) (B:List Int) (pos:Nat) (r:Option Rt):Prop:=∃vals:List Int,vals.length=h.fields.length/\(∀v∈vals,ok32 0 v)/\r=some (.val (.tup [.agg (rC B (pos+wS h.fields)),.slice 1 (vals.map c32),.int .i64 0]))
theorem qy8 (hs:pos+wS h.fields<=8*B.length):RdQ h B pos (qac Φ f_316 [.agg (Xj.c h),.agg (rC B pos)]):=by
 rw [qad (fn:=c_316) rfl rfl];have q2:=qkq B pos hB hp;have q3:¬8*B.length - pos<wS h.fields:=by omega
 rw [rC] at q2;simp only [Xj.e] at hc hb;simp [c_316,rC,Xj.e,hc,hb,q2,q3];refine qbk h.fields.length (fun i e hp=>∃(vals:List Int) (n P:Nat),vals.length=i/\(∀v∈vals,ok32 0 v)/\P=pos+wS (h.fields.take i)/\3<=n/\hp=⟨[(0,.row 2 [[.slice 1 (B.map c8),.int .i64 P]]),(1,.row 2 [[.Xu 1 [],.int .i64 0]]),(2,.tok 1 i)],n⟩/\look 2 e=some (.iptr 2 [Xj.c h] 0 0)/\look 3 e=some (.ptr 0 2 0 0)/\look 4 e=some (.ptr 1 2 0 0)/\look 8 e=some (.app 1 (vals.map c32) 2)/\look 9 e=some (.int .i64 i)) (RdQ h B pos) ?_ ?_ 0 _ _ (Qc _) ?_
 ·rintro i e _ L hi hL ⟨vals,n,P,hv,ov,hP,hn,rfl,g2,g3,g4,g8,g9⟩ ih;have hwr:=qao i (by omega);obtain ⟨w1,w2⟩:=hw _ (Qd hi);have htk:wS (h.fields.take (i+1))=wS (h.fields.take i)+h.fields[i].width.toNat:=by rw [Qh hi,qaee]
  have hle:=qvl h.fields (i+1);obtain ⟨k,hk⟩:=QAc (show 0<=h.fields[i].width by omega);rw [hk] at htk w1 w2;simp only [Int.toNat_natCast] at htk;obtain ⟨v,okv,hr⟩:=qabk B P hB (by omega) k (by omega) (by omega) (by omega);obtain ⟨P',hP'⟩:∃P',P'=P+k:=⟨_,rfl⟩;simp only [rC,<- hP'] at hr;simp only [Xj.e] at g2;have hfs:(i+1)*4<=70368744177664:=by omega
  have n0:¬n=0/\¬n=1/\¬n=2/\¬n+10=0/\¬n+10=1/\¬n+10=2/\¬0=n+10/\¬1=n+10/\¬2=n+10:=by omega
  obtain ⟨z1,z2,z3,z4,z5,z6,z7,z8,z9⟩:=n0;simp [c_316_l0,Fld.e,g2,g3,g4,g8,g9,hi,hk,hr,hwr,hv,hfs,z1,z2,z3,z4,z5,z6,z7,z8,z9,qab,qaa,qaf,qak];refine ih _ _ ⟨vals++[v],_,P',by simp [hv],fun x hx=>?_,by omega,?_,by rfl,by simp [g2,Xj.e],by simp [g3],by simp [g4],by simp [c32],by simp⟩
  ·rcases QAd.1 hx with hx | hx
   ·exact ov x hx
   ·rw [QBn.1 hx];exact okv
  ·omega
 ·rintro e _ L hL ⟨vals,n,P,hv,ov,hP,hn,rfl,g2,g3,g4,g8,g9⟩;rw [QAf] at hP;subst hP;simp [c_316_l0,c_316_k1,Xj.e,g2,g3,g4,g8,g9,hL,qaa];exact ⟨vals,hv,ov,by simp [rC]⟩
 ·exact ⟨[],3,pos,rfl,by simp,by simp [wS],Qb _,by simp,by simp [Xj.e],by simp,by simp,by simp,by simp⟩
end
def eG (v0 v1 v2:Bool) (k0 t0 t1 f0 f1 f2 m0 m1 m2 m3:Int) (pay:List Int):Envt:=⟨[v0,v1,v2],[[k0],[t0,t1],[f0,f1,f2]],[m0,m1,m2,m3],pay⟩
def eX (k:Nat) (vals:List Int) (e:Envt):Envt:={ e with valid:=e.valid.set k true,fields:=e.fields.set k vals }
section
variable (p:Prg) (x:Xd) (h:Xj) (k:Nat) (hx:x.extract=[(k:Int)]) (hh:p.Xp[k]? =some h) (B:List Int) (pos:Nat)
variable (v0 v1 v2:Bool) (k0 t0 t1 f0 f1 f2 m0 m1 m2 m3:Int) (pay:List Int)
include hx hh
theorem qy1 (hr:qac Φ f_316 [.agg (Xj.c h),.agg (rC B pos)]=some (.val (.tup [.agg (rC B pos),.slice 1 [],.int .i64 3]))) (e:Envt):
  qac Φ f_252 [.agg (Prg.c p),.agg (Xd.c x),.agg e.c,.agg (rC B pos)]=some (.val (.tup [.agg e.c,.agg (rC B pos),.int .i64 3])):=by
 rw [qad (fn:=c_252) rfl rfl];obtain ⟨hk,hk'⟩:=Qm.1 hh;simp only [rC,Xj.e] at hr;simp [c_252,Prg.e,Xd.e,Envt.ce,rC,hx];rw [qa3];simp [c_252_l0,c_252_k1,cI,Xj.e,hk,hk',hr,qab,qaa,qaf,qak]
theorem qacb (hk3:k<3) (hpl:pay.length<2^40) (vals:List Int) (pos':Nat) (hr:qac Φ f_316 [.agg (Xj.c h),.agg (rC B pos)]=some (.val (.tup [.agg (rC B pos'),.slice 1 (vals.map c32),.int .i64 0]))):
  qac Φ f_252 [.agg (Prg.c p),.agg (Xd.c x),.agg (eG v0 v1 v2 k0 t0 t1 f0 f1 f2 m0 m1 m2 m3 pay).c,.agg (rC B pos)]=some (.val (.tup [.agg (eX k vals (eG v0 v1 v2 k0 t0 t1 f0 f1 f2 m0 m1 m2 m3 pay)).c,.agg (rC B pos'),.int .i64 0])):=by
 rw [qad (fn:=c_252) rfl rfl];obtain ⟨hk,hk'⟩:=Qm.1 hh;have b1:pay.length<=70368744177664:=by omega
 have al:qa9 1 (pay.map c8)=true:=qa4 1 c8 pay fun x=>by simp
 have w1:IntKind.wrap .i64 1=1:=rfl;have w2:IntKind.wrap .i64 2=2:=rfl;have w3:IntKind.wrap .i64 3=3:=rfl;have w4:IntKind.wrap .i64 (1+1)=2:=rfl;have w5:IntKind.wrap .i64 (2+1)=3:=rfl;simp only [rC,Xj.e] at hr;simp [c_252,Prg.e,Xd.e,Envt.ce,rC,hx,eG,cS,c32,cB];rw [qa3];simp [c_252_l0,c_252_k1,cI,Xj.e,hk,hk',hr,qi0,c_191,cS,c32,cB,qab,qaa,qaf,qak];rw [qa3];simp [c_191_l0,c_191_k1,b1,w1,w2,w3,w4,w5,al,qab,qaa,qaf,qak,qc2];rw [qa3];simp [c_191_l0,c_191_k1,b1,w1,w2,w3,w4,w5,al,qab,qaa,qaf,qak,qc2];rw [qa3];simp [c_191_l0,c_191_k1,b1,w1,w2,w3,w4,w5,al,qab,qaa,qaf,qak,qc2];rw [qa3];simp [c_191_l0,c_191_k1,b1,w1,w2,w3,w4,w5,al,qab,qaa,qaf,qak,qc2];have hk012:k=0\/k=1\/k=2:=by omega
 rcases hk012 with rfl | rfl | rfl
 all_goals simp [eX,w1,cS,c32,cB,qab,qaa,qaf,qak]
 all_goals rw [qa3]
 all_goals simp [c_252_l0,c_252_k1,w1,cS,c32,cB,qab,qaa,qaf,qak]
end
def TrQ (x:Xd) (r:Option Rt):Prop:=∃n:Int,(n=x.dflt\/(x.select=true/\∃c∈x.cases,n=c.next))/\r=some (.val (.int .i64 n))
theorem qahf (x:Xd) (e:Envt) (hl:x.cases.length<=1000):TrQ x (qac Φ f_253 [.agg (Xd.c x),.agg e.c]):=by
 rw [qad (fn:=c_253) rfl rfl];have hg:=qafu e x.on.header x.on.field;rw [Envt.ce] at hg;generalize eGet e x.on.header x.on.field=g at*;simp [c_253,Xd.e,Envt.ce];refine qbk x.cases.length (fun i ev h=>∃n,h=⟨[],n⟩/\look 2 ev=some (.iptr 7 [Xd.c x] 0 0)/\look 3 ev=some (.iptr 4 [Envt.c e] 0 0)/\look 5 ev=some (.int .i64 i)) (TrQ x) ?_ ?_ 0 _ _ (Qc _) ?_
 ·rintro i ev _ L hi hL ⟨n,rfl,h2,h3,h5⟩ ih;have hw:=qao i (by omega);rw [Xd.e] at h2;rw [Envt.ce] at h3;cases hs:x.select with
  | false=>
   rw [hs] at h2;simp [c_253_l0,c_253_k1,h2,h3,h5,hi,hL];exact ⟨x.dflt,.inl rfl,rfl⟩
  | true=>
   rw [hs] at h2;by_cases hm:iand IntKind.u32 g x.cases[i].mask=x.cases[i].value
   ·simp [c_253_l0,Xk.e,h2,h3,h5,hi,hL,hg,hm];exact ⟨_,.inr ⟨hs,_,Qd hi,rfl⟩,rfl⟩
   ·simp [c_253_l0,Xk.e,h2,h3,h5,hi,hL,hg,hm,hw];exact ih _ _ ⟨_,rfl,by simp [h2,Xd.e,hs],by simp [h3,Envt.ce],by simp⟩
 ·rintro ev _ L hL ⟨n,rfl,h2,h3,h5⟩;rw [Xd.e] at h2;simp [c_253_l0,c_253_k1,h2,h5,hL];exact ⟨x.dflt,.inl rfl,rfl⟩
 ·exact ⟨_,rfl,by simp [Xd.e],by simp [Envt.ce],by simp⟩
theorem qaez {p:Prg} (B:List Int) (h1:qac Φ f_212 [.agg (Prg.c p)]=some (.val (.tup [.int .i64 0,.int .i64 0,.int .i64 0]))) (h2:∀h∈p.Xp,qac Φ f_198 [.agg (Xj.c h)]=some (.val (.int .i64 0))) (hl:p.Xp.length<=1000):
  qac Φ f_249 [.agg (Prg.c p),.slice 1 (B.map c8)]=some (.val (.int .i64 (if 512<B.length then 4 else 0))):=by
 rw [qad (fn:=c_249) rfl rfl];simp only [Prg.e] at h1;generalize hX:(if 512<B.length then (4:Int) else 0)=X;simp [c_249,Prg.e,h1];refine (qby p.Xp.length (fun i e=>look 1 e=some (.slice 1 (B.map c8))/\look 2 e=some (.iptr 9 [Prg.c p] 0 0)/\look 8 e=some (.int .i64 i)) (fun _=>some (Rt.val (.int .i64 X))) ?_ ?_ 0 _ (Qc _) ?_).trans rfl
 ·rintro i e L hi hL ⟨g1,g2,g8⟩ ih;have hw:=qao i (by omega);have hc:=h2 _ (Qd hi);rw [Prg.e] at g2;rw [Xj.e] at hc;simp [c_249_l0,Xj.e,g2,g8,hi,hw,hc];exact ih _ ⟨by simp [g1],by simp [g2,Prg.e],by simp⟩
 ·rintro e L hL ⟨g1,g2,g8⟩;rw [Prg.e] at g2;by_cases z:512<B.length
  ·rw [QAa z] at hX;simp [c_249_l0,c_249_k1,g1,g2,g8,hL,z,<- hX]
  ·rw [QA z] at hX;simp [c_249_l0,c_249_k1,g1,g2,g8,hL,z,<- hX]
 ·simp [Prg.e]
theorem ck18:qac Φ f_212 [.agg (Prg.c pF)]=some (.val (.tup [.int .i64 0,.int .i64 0,.int .i64 0])):=qam (n:=200) (by kernel_rfl)
def hdF (k:Nat):Xj:=pF.Xp.getD k default
theorem hc0:qac Φ f_198 [.agg (Xj.c (hdF 0))]=some (.val (.int .i64 0)):=qam (n:=200) (by kernel_rfl)
theorem hc1:qac Φ f_198 [.agg (Xj.c (hdF 1))]=some (.val (.int .i64 0)):=qam (n:=200) (by kernel_rfl)
theorem hc2:qac Φ f_198 [.agg (Xj.c (hdF 2))]=some (.val (.int .i64 0)):=qam (n:=200) (by kernel_rfl)
theorem hb0:qac Φ f_358 [.agg (Xj.c (hdF 0))]=some (.val (.int .i64 (8:Nat))):=qam (n:=200) (by kernel_rfl)
theorem hb1:qac Φ f_358 [.agg (Xj.c (hdF 1))]=some (.val (.int .i64 (16:Nat))):=qam (n:=200) (by kernel_rfl)
theorem hb2:qac Φ f_358 [.agg (Xj.c (hdF 2))]=some (.val (.int .i64 (24:Nat))):=qam (n:=200) (by kernel_rfl)
theorem new12:qac Φ f_250 [.agg (Prg.c pF)]=some (.val (.agg (eG false false false 0 0 0 0 0 0 0 0 0 0 []).c)):=qam (n:=200) (by kernel_rfl)
theorem qs6:∀h∈pF.Xp,qac Φ f_198 [.agg (Xj.c h)]=some (.val (.int .i64 0)):=by
 intro h hh;have:h∈[hdF 0,hdF 1,hdF 2]:=hh;simp only [QAg,QAo,or_false] at this;rcases this with rfl | rfl | rfl
 ·exact hc0
 ·exact hc1
 ·exact hc2
theorem qae0 (B:List Int):qac Φ f_249 [.agg (Prg.c pF),.slice 1 (B.map c8)]=some (.val (.int .i64 (if 512<B.length then 4 else 0))):=qaez B ck18 qs6 (by decide)
def ReadR (k:Nat) (B:List Int) (pos:Nat):Prop:=
 (qac Φ f_316 [.agg (Xj.c (hdF k)),.agg (rC B pos)]=some (.val (.tup [.agg (rC B pos),.slice 1 [],.int .i64 3])))\/
 (pos+8*(k+1)<=8*B.length/\∃vals:List Int,vals.length=k+1/\(∀v∈vals,ok32 0 v)/\qac Φ f_316 [.agg (Xj.c (hdF k)),.agg (rC B pos)]=some (.val (.tup [.agg (rC B (pos+8*(k+1))),.slice 1 (vals.map c32),.int .i64 0])))
theorem hw_pF (k:Nat) (hk:k<3):∀f∈(hdF k).fields,1<=f.width/\f.width<=32:=by
 have h8:∀h∈pF.Xp,∀f∈h.fields,f.width=8:=by decide
 intro f hf;have hm:hdF k∈pF.Xp:=by
  match k,hk with
  | 0,_=>exact QBe
  | 1,_=>exact QAk _ QBe
  | 2,_=>exact QAk _ (QAk _ QBe)
 rw [h8 _ hm f hf];decide
theorem readR (k:Nat) (hk:k<3) (B:List Int) (pos:Nat) (hB:B.length<=1000) (hp:pos<=8*B.length):ReadR k B pos:=by
 have key:∀(hc:qac Φ f_198 [.agg (Xj.c (hdF k))]=some (.val (.int .i64 0))) (hb:qac Φ f_358 [.agg (Xj.c (hdF k))]=some (.val (.int .i64 (wS (hdF k).fields:Nat)))) (hw:wS (hdF k).fields=8*(k+1)) (hl:(hdF k).fields.length=k+1),ReadR k B pos:=by
  intro hc hb hw hl;by_cases z:8*B.length<pos+wS (hdF k).fields
  ·exact .inl (qse _ hc hb B pos hB hp z)
  ·obtain ⟨vals,h1,h2,h3⟩:=qy8 _ hc hb (hw_pF k hk) (by omega) B pos hB hp (by omega);rw [hw] at h3;exact .inr ⟨by omega,vals,by omega,h2,h3⟩
 match k,hk with
 | 0,_=>exact key hc0 hb0 rfl rfl
 | 1,_=>exact key hc1 hb1 rfl rfl
 | 2,_=>exact key hc2 hb2 rfl rfl
def staF (k:Nat):Xd:=pF.states.getD k default
def sI (q:Nat):Int:=if q=3 then -1 else if q=4 then -2 else q
structure SInv (B:List Int) (q:Nat) (e:Envt) (pos:Nat):Prop where
 x:∃v0 v1 v2 k0 t0 t1 f0 f1 f2,e=eG v0 v1 v2 k0 t0 t1 f0 f1 f2 0 0 0 0 []/\(ok32 0 k0/\ok32 0 t0/\ok32 0 t1/\ok32 0 f0/\ok32 0 f1/\ok32 0 f2)/\(1<=q->v0=true)/\(q=3->v2=true)
 j:∃j,pos=8*j
 p:pos<=8*B.length
theorem len1 {l:List Int} (h:l.length=0+1):∃a,l=[a]:=List.length_eq_one_iff.1 h
theorem len2 {l:List Int} (h:l.length=1+1):∃a b,l=[a,b]:=by
 match l,h with
 | [a,b],_=>exact ⟨a,b,rfl⟩
theorem len3 {l:List Int} (h:l.length=2+1):∃a b c,l=[a,b,c]:=by
 match l,h with
 | [a,b,c],_=>exact ⟨a,b,c,rfl⟩
theorem qyx {B:List Int} {q:Nat} {e:Envt} {pos:Nat} (s:SInv B q e pos) (hq:q<3) {vals:List Int} (hv:vals.length=q+1) (ho:∀v∈vals,ok32 0 v) {pos':Nat} (hp:pos'=pos+8*(q+1)) (hp':pos'<=8*B.length) (q':Nat) (hq':q<q') (h3:q'=3->q=2):SInv B q' (eX q vals e) pos':=by
 obtain ⟨v0,v1,v2,k0,t0,t1,f0,f1,f2,rfl,⟨o1,o2,o3,o4,o5,o6⟩,hv0,hv2⟩:=s.x;obtain ⟨j,hj⟩:=s.j;refine ⟨?_,⟨j+(q+1),by omega⟩,hp'⟩;have hq012:q=0\/q=1\/q=2:=by omega
 rcases hq012 with rfl | rfl | rfl
 ·obtain ⟨a,rfl⟩:=len1 hv;exact ⟨true,v1,v2,a,t0,t1,f0,f1,f2,rfl,⟨ho a (by simp),o2,o3,o4,o5,o6⟩,fun _=>rfl,fun h=>absurd (h3 h) (by decide)⟩
 ·obtain ⟨a,b,rfl⟩:=len2 hv;exact ⟨v0,true,v2,k0,a,b,f0,f1,f2,rfl,⟨o1,ho a (by simp),ho b (by simp),o4,o5,o6⟩,fun _=>hv0 (Qb _),fun h=>absurd (h3 h) (by decide)⟩
 ·obtain ⟨a,b,c,rfl⟩:=len3 hv;exact ⟨v0,v1,true,k0,t0,t1,a,b,c,rfl,⟨o1,o2,o3,ho a (by simp),ho b (by simp),ho c (by simp)⟩,fun _=>hv0 (by decide),fun _=>rfl⟩
theorem qahg (q:Nat) (hq:q<3) (e:Envt):∃q':Nat,q<q'/\q'<=4/\(q'=3->q=2)/\qac Φ f_253 [.agg (Xd.c (staF q)),.agg e.c]=some (.val (.int .i64 (sI q'))):=by
 obtain ⟨n,hn,h⟩:=qahf (staF q) e (by
  match q,hq with
  | 0,_=>decide
  | 1,_=>decide
  | 2,_=>decide)
 match q,hq with
 | 0,_=>
  have:n= -2\/n=2\/n=1:=by
   rcases hn with rfl | ⟨_,c,hc,rfl⟩
   ·exact .inl rfl
   ·have hc':c∈[(⟨1,255,2⟩:Xk),⟨2,255,1⟩]:=hc;simp only [QAg,QAo,or_false] at hc';rcases hc' with rfl | rfl
    ·exact .inr (.inl rfl)
    ·exact .inr (.inr rfl)
  rcases this with rfl | rfl | rfl
  ·exact ⟨4,by omega,by omega,by omega,h⟩
  ·exact ⟨2,by omega,by omega,by omega,h⟩
  ·exact ⟨1,by omega,by omega,by omega,h⟩
 | 1,_=>
  have:n=2:=by
   rcases hn with rfl | ⟨hs,_⟩
   ·rfl
   ·exact absurd hs (by decide)
  subst this;exact ⟨2,by omega,by omega,by omega,h⟩
 | 2,_=>
  have:n= -1:=by
   rcases hn with rfl | ⟨hs,_⟩
   ·rfl
   ·exact absurd hs (by decide)
  subst this;exact ⟨3,by omega,by omega,by omega,h⟩
def RunQ (r:Option Rt):Prop:=∃(e:Envt) (f:Int) (sts:List Int),(f=0->EI e)/\r=some (.val (.tup [.agg (Envt.c e),.slice 1 (sts.map cI),.int .i64 f]))
def e00:Envt:=eG false false false 0 0 0 0 0 0 0 0 0 0 []
theorem qadw {p:Prg} (B:List Int) (hB:B.length<=1000) (hBo:okB' B) (hac:qac Φ f_249 [.agg (Prg.c p),.slice 1 (B.map c8)]=some (.val (.int .i64 (if 512<B.length then 4 else 0))))
  (hnw:qac Φ f_250 [.agg (Prg.c p)]=some (.val (.agg e00.c))) (hst:∀q,q<3->p.states[q]? =some (staF q)) (hhd:∀q,q<3->p.Xp[q]? =some (hdF q)) (hsx:∀q,q<3->(staF q).extract=[(q:Int)]):
  RunQ (qac Φ f_190 [.agg (Prg.c p),.slice 1 (B.map c8)]):=by
 rw [qad (fn:=c_190) rfl rfl];have hnr:=qac0 B hB;rw [Envt.ce] at hnw;simp only [Prg.e] at hac hnw;by_cases z:512<B.length
 ·rw [QAa z] at hac;simp [c_190,Prg.e,hac,hnw];exact ⟨e00,4,[],fun h=>absurd h (by decide),by simp [Envt.ce]⟩
 rw [QA z] at hac;simp only [rC] at hnr;simp [c_190,Prg.e,hac,hnw,hnr];refine quv (σ:=Nat) (fun q=>5 - q) (fun q ev h=>q<=4/\∃(e:Envt) (pos:Nat) (l:List Int) (n:Nat),SInv B q e pos/\l.length<=q/\4<=n/\h=⟨[(0,.row 4 [[.Xu 1 [],.Xu 1 [],.Xu 1 [],.Xu 1 []]]),(1,.row 4 [Envt.c e]),(2,.row 2 [rC B pos]),(3,.tok 1 l.length)],n⟩/\look 2 ev=some (.iptr 9 [Prg.c p] 0 0)/\look 4 ev=some (.ptr 0 4 0 0)/\look 8 ev=some (.ptr 1 4 0 0)/\look 9 ev=some (.ptr 2 2 0 0)/\look 10 ev=some (.app 1 (l.map cI) 3)/\look 11 ev=some (.int .i64 (sI q))) (fun _ r=>RunQ r) ?_ 0 _ _ ?_
 ·rintro q ev _ L hL ⟨hq4,e,pos,l,n,s,hl,hn,rfl,g2,g4,g8,g9,g10,g11⟩ ih;rw [Prg.e] at g2;by_cases hq:q<3
  ·have hs0:sI q=q:=by simp [sI];omega
   rw [hs0] at g11;obtain ⟨hk,hk'⟩:=Qm.1 (hst q hq);have hr:=readR q hq B pos hB s.p;have hla:(l.length+1)*8<=70368744177664:=by omega
   rcases hr with hr | ⟨hle,vals,hvl,hvo,hr⟩
   ·have hx:=qy1 p (staF q) (hdF q) q (hsx q hq) (hhd q hq) B pos hr e;rw [Envt.ce,Xd.e] at hx;simp only [Prg.e,rC] at hx;simp [c_190_l0,Xd.e,Envt.ce,rC,g2,g4,g8,g9,g10,g11,hk,hk',hx,hla,hnw,qaa];exact ⟨e00,3,l++[(q:Int)],fun h=>absurd h (by decide),by simp [Envt.ce,cI]⟩
   ·have s':=s;obtain ⟨v0,v1,v2,k0,t0,t1,f0,f1,f2,rfl,-⟩:=s.x;have hx:=qacb p (staF q) (hdF q) q (hsx q hq) (hhd q hq) B pos v0 v1 v2 k0 t0 t1 f0 f1 f2 0 0 0 0 [] hq (by simp) vals _ hr;obtain ⟨q',h1,h2,h3,htr⟩:=qahg q hq (eX q vals (eG v0 v1 v2 k0 t0 t1 f0 f1 f2 0 0 0 0 []));have sn:=qyx s' hq hvl hvo rfl hle q' h1 h3;generalize eX q vals (eG v0 v1 v2 k0 t0 t1 f0 f1 f2 0 0 0 0 [])=e' at*;generalize eG v0 v1 v2 k0 t0 t1 f0 f1 f2 0 0 0 0 []=e at*;obtain ⟨pos',hpos'⟩:∃pos',pos+8*(q+1)=pos':=⟨_,rfl⟩;rw [hpos'] at hx sn;rw [Envt.ce,Envt.ce,Xd.e] at hx;rw [Envt.ce,Xd.e] at htr;simp only [Prg.e,rC] at hx;simp [c_190_l0,Xd.e,Envt.ce,rC,g2,g4,g8,g9,g10,g11,hk,hk',hx,htr,hla,hL,qaa];refine ih q' _ _ (by omega) ⟨h2,e',pos',l++[(q:Int)],_,sn,by simp;omega,hn,by simp [Envt.ce,rC],by simp [g2,Prg.e],by simp [g4],by simp [g8],by simp [g9],by simp [cI],by simp⟩
  ·have hq34:q=3\/q=4:=by omega
   rcases hq34 with rfl | rfl
   ·have hs0:sI 3= -1:=rfl;rw [hs0] at g11;obtain ⟨v0,v1,v2,k0,t0,t1,f0,f1,f2,rfl,⟨o1,o2,o3,o4,o5,o6⟩,hv0,hv2⟩:=s.x;obtain ⟨j,rfl⟩:=s.j;have hp:=s.p;have hre:=qadp B hB j (by omega);have e1:=hv0 (by decide);have e2:=hv2 rfl;subst e1 e2;obtain ⟨P,hP⟩:∃P,8*j=P:=⟨_,rfl⟩;rw [hP] at hre;simp only [rC] at hre;simp [c_190_l0,c_190_k1,Envt.ce,rC,hP,g2,g4,g8,g9,g10,g11,hre,hL,qaa];refine ⟨eF v1 k0 t0 t1 f0 f1 f2 0 0 0 0 (B.drop j),0,l,fun _=>⟨v1,k0,t0,t1,f0,f1,f2,0,0,0,0,B.drop j,rfl,.inl rfl,⟨o1,o2,o3,o4,o5,o6,ok00,ok00,ok00⟩,fun x hx=>hBo x (QAq hx),by simp;omega⟩,?_⟩;simp [Envt.ce,eF,eG]
   ·have hs0:sI 4= -2:=rfl;rw [hs0] at g11;simp [c_190_l0,c_190_k1,Envt.ce,hnw,g2,g4,g8,g9,g10,g11,hL,qaa];exact ⟨e00,15,l,fun h=>absurd h (by decide),by simp [Envt.ce]⟩
 ·refine ⟨by decide,e00,0,[],4,⟨⟨false,false,false,0,0,0,0,0,0,rfl,⟨ok00,ok00,ok00,ok00,ok00,ok00⟩,fun h=>absurd h (by decide),fun h=>absurd h (by decide)⟩,⟨0,rfl⟩,Qc _⟩,by simp,Qb _,by simp [Envt.ce,rC],by simp [Prg.e],by simp,by simp,by simp,by simp,by simp [sI]⟩
theorem qac7 {p:Prg} {B:List Int} (h:RunQ (qac Φ f_190 [.agg (Prg.c p),.slice 1 (B.map c8)])):∃(e:Envt) (f:Int),(f=0->EI e)/\qac Φ f_134 [.agg (Prg.c p),.slice 1 (B.map c8)]=some (.val (.tup [.agg (Envt.c e),.int .i64 f])):=by
 obtain ⟨e,f,sts,h1,h2⟩:=h;refine ⟨e,f,h1,?_⟩;rw [qad (fn:=c_134) rfl rfl];rw [Envt.ce] at h2;simp only [Prg.e] at h2;simp [c_134,Prg.e,Envt.ce,h2,qaa]
theorem qzx (B:List Int) (hB:B.length<=1000) (hBo:okB' B):∃(e:Envt) (f:Int),(f=0->EI e)/\qac Φ f_134 [.agg (Prg.c pF),.slice 1 (B.map c8)]=some (.val (.tup [.agg (Envt.c e),.int .i64 f])):=by
 have c3:∀{Q:Nat->Prop},Q 0->Q 1->Q 2->∀q,q<3->Q q:=fun h0 h1 h2 q hq=>by
  have:q=0\/q=1\/q=2:=by omega
  rcases this with rfl | rfl | rfl
  ·exact h0
  ·exact h1
  ·exact h2
 exact qac7 (qadw B hB hBo (qae0 B) new12 (c3 rfl rfl rfl) (c3 rfl rfl rfl) (c3 rfl rfl rfl))
def IsI (r:Option Rt):Prop:=∃f:Int,r=some (.val (.int .i64 f))
theorem qtt (p:Prg) (h f:Int):∃k:Nat,k<=32/\wid p h f=k:=by
 unfold wid;cases decl p h f with
 | none=>exact ⟨0,by decide,rfl⟩
 | some w=>
  simp only;cases q:wBad w with
  | true=>exact ⟨0,by decide,rfl⟩
  | false=>
   obtain ⟨w1,w2⟩:=wBad_false.1 q;exact ⟨w.toNat,by omega,by simp;omega⟩
structure EnS (e:Envt):Prop where
 vl:e.valid.length=e.fields.length
 fl:e.fields.length<=1000
 rl:∀l∈e.fields,l.length<=1000/\∀v∈l,ok32 0 v
 ml:e.metaF.length<=1000
 mo:∀v∈e.metaF,ok32 0 v
section
variable {p:Prg} {e:Envt} (s:EnS e)
include s
theorem qabt (ev:Env) (n:Nat) (h3:look 3 ev=some (.iptr 4 [Envt.c e] 0 0)):IsI (go Φ (finP [.tmp 4]) [.c c_197_k8] .normal ⟨ev,⟨[],n⟩⟩):=by
 simp [c_197_k8];refine qbk e.fields.length (fun i ev h=>∃n,h=⟨[],n⟩/\look 3 ev=some (.iptr 4 [Envt.c e] 0 0)/\look 8 ev=some (.int .i64 i)) IsI ?_ ?_ 0 _ _ (Qc _) ?_
 ·rintro i ev _ L hi hL ⟨n,rfl,h3,h8⟩ ih;have hw:IntKind.wrap .i64 ((i:Int)+1)=((i+1:Nat):Int):=qbr (by omega) (by have:=s.fl;omega);have hv:i<e.valid.length:=by rw [s.vl];exact hi
  rw [Envt.ce] at h3;simp [c_197_l6,h3,h8,hi,hL];refine qbk e.fields[i].length (fun j ev h=>∃n,h=⟨[],n⟩/\look 3 ev=some (.iptr 4 [Envt.c e] 0 0)/\look 8 ev=some (.int .i64 i)/\look 9 ev=some (.int .i64 j)) IsI ?_ ?_ 0 _ _ (Qc _) ?_
  ·rintro j ev _ M hj hM ⟨n,rfl,h3,h8,h9⟩ ih2;have hw2:IntKind.wrap .i64 ((j:Int)+1)=((j+1:Nat):Int):=qbr (by omega) (by have:=(s.rl _ (Qd hi)).1;omega);rw [Envt.ce] at h3;cases z:e.valid[i] with
   | true=>
    simp [c_197_l4,h3,h8,h9,hi,hj,hv,hM,cS,cB,c32,z,hw2];exact ih2 _ _ ⟨_,rfl,by simp [h3,Envt.ce],by simp [h8],by simp⟩
   | false=>
    by_cases z2:e.fields[i][j]=0
    ·simp [c_197_l4,h3,h8,h9,hi,hj,hv,hM,cS,cB,c32,z,z2,hw2];exact ih2 _ _ ⟨_,rfl,by simp [h3,Envt.ce],by simp [h8],by simp⟩
    ·simp [c_197_l4,h3,h8,h9,hi,hj,hv,hM,cS,cB,c32,z,z2,hw2];exact ⟨5,rfl⟩
  ·rintro ev _ M hM ⟨n,rfl,h3,h8,h9⟩;rw [Envt.ce] at h3;simp [c_197_l4,c_197_k5,h3,h8,h9,hi,hM,cS,hw];exact ih _ _ ⟨_,rfl,by simp [h3,Envt.ce],by simp⟩
  ·exact ⟨_,rfl,by simp [h3,Envt.ce],by simp [h8],by simp⟩
 ·rintro ev _ L hL ⟨n,rfl,h3,h8⟩;rw [Envt.ce] at h3;simp [c_197_l6,c_197_k7,h3,h8,hL];exact ⟨0,rfl⟩
 ·exact ⟨_,rfl,by simp [h3],by simp⟩
theorem qabs (ev:Env) (n:Nat) (h2:look 2 ev=some (.iptr 9 [Prg.c p] 0 0)) (h3:look 3 ev=some (.iptr 4 [Envt.c e] 0 0)):IsI (go Φ (finP [.tmp 4]) [.c c_197_k9] .normal ⟨ev,⟨[],n⟩⟩):=by
 simp [c_197_k9];refine qbk e.metaF.length (fun i ev h=>∃n,h=⟨[],n⟩/\look 2 ev=some (.iptr 9 [Prg.c p] 0 0)/\look 3 ev=some (.iptr 4 [Envt.c e] 0 0)/\look 7 ev=some (.int .i64 i)) IsI ?_ ?_ 0 _ _ (Qc _) ?_
 ·rintro i ev _ L hi hL ⟨n,rfl,h2,h3,h7⟩ ih;have hw:IntKind.wrap .i64 ((i:Int)+1)=((i+1:Nat):Int):=qbr (by omega) (by have:=s.ml;omega);have q1:=qkp p (-1) i;obtain ⟨k,hk,hwk⟩:=qtt p (-1) i;rw [hwk] at q1;have q2:=qjk _ (s.mo _ (Qd hi)) k hk;rw [Envt.ce] at h3;simp only [Prg.e] at h2 q1;by_cases z:e.metaF[i]<2^k
  ·simp [c_197_l3,h2,h3,h7,hi,hL,q1,q2,c32,z,hw];exact ih _ _ ⟨_,rfl,by simp [h2,Prg.e],by simp [h3,Envt.ce],by simp⟩
  ·simp [c_197_l3,h2,h3,h7,hi,hL,q1,q2,c32,z,hw];exact ⟨9,rfl⟩
 ·rintro ev _ L hL ⟨n,rfl,h2,h3,h7⟩;have hc:=qabt s;rw [Envt.ce] at h3;simp [c_197_l3,h3,h7,hL];exact hc _ _ (by simp [h3,Envt.ce])
 ·exact ⟨_,rfl,by simp [h2],by simp [h3],by simp⟩
theorem qyr (hz:qac Φ f_255 [.agg (Prg.c p),.agg e.c]=some (.val (.bool true))):IsI (qac Φ f_197 [.agg (Prg.c p),.agg e.c]):=by
 rw [qad (fn:=c_197) rfl rfl];rw [Envt.ce] at hz;simp only [Prg.e] at hz;simp [c_197,Prg.e,Envt.ce,hz];refine qbk e.fields.length (fun i ev h=>∃n,h=⟨[],n⟩/\look 2 ev=some (.iptr 9 [Prg.c p] 0 0)/\look 3 ev=some (.iptr 4 [Envt.c e] 0 0)/\look 5 ev=some (.int .i64 i)) IsI ?_ ?_ 0 _ _ (Qc _) ?_
 ·rintro i ev _ L hi hL ⟨n,rfl,h2,h3,h5⟩ ih;have hw:IntKind.wrap .i64 ((i:Int)+1)=((i+1:Nat):Int):=qbr (by omega) (by have:=s.fl;omega);rw [Envt.ce] at h3;simp [c_197_l2,h3,h5,hi,hL];refine qbk e.fields[i].length (fun j ev h=>∃n,h=⟨[],n⟩/\look 2 ev=some (.iptr 9 [Prg.c p] 0 0)/\look 3 ev=some (.iptr 4 [Envt.c e] 0 0)/\look 5 ev=some (.int .i64 i)/\look 6 ev=some (.int .i64 j)) IsI ?_ ?_ 0 _ _ (Qc _) ?_
  ·rintro j ev _ M hj hM ⟨n,rfl,h2,h3,h5,h6⟩ ih2;have hro:=s.rl _ (Qd hi);have hw2:=qao j (by omega);have q1:=qkp p i j;obtain ⟨k,hk,hwk⟩:=qtt p i j;rw [hwk] at q1;have q2:=qjk _ (hro.2 _ (Qd hj)) k hk;rw [Envt.ce] at h3;simp only [Prg.e] at h2 q1;by_cases z:e.fields[i][j]<2^k
   ·simp [c_197_l0,h2,h3,h5,h6,hi,hj,hM,q1,q2,cS,c32,z,hw2];exact ih2 _ _ ⟨_,rfl,by simp [h2,Prg.e],by simp [h3,Envt.ce],by simp [h5],by simp⟩
   ·simp [c_197_l0,h2,h3,h5,h6,hi,hj,hM,q1,q2,cS,c32,z,hw2];exact ⟨9,rfl⟩
  ·rintro ev _ M hM ⟨n,rfl,h2,h3,h5,h6⟩;rw [Envt.ce] at h3;simp [c_197_l0,c_197_k1,h3,h5,h6,hi,hM,cS,hw];exact ih _ _ ⟨_,rfl,by simp [h2],by simp [h3,Envt.ce],by simp⟩
  ·exact ⟨_,rfl,by simp [h2],by simp [h3,Envt.ce],by simp [h5],by simp⟩
 ·rintro ev _ L hL ⟨n,rfl,h2,h3,h5⟩;have hc:=qabs (p:=p) s;rw [Envt.ce] at h3;simp [c_197_l2,h3,h5,hL];exact hc _ _ (by simp [h2]) (by simp [h3,Envt.ce])
 ·exact ⟨_,rfl,by simp [Prg.e],by simp [Envt.ce],by simp⟩
end
def WQ (N:Nat) (r:Option Rt):Prop:=∃(L':List Bool) (f:Int),L'.length<=N/\r=some (.val (.tup [.agg [.slice 1 (L'.map cB)],.int .i64 f]))
theorem alBo (l:List Bool):qa9 1 (l.map cB)=true:=qa4 1 cB l fun x=>by simp
theorem qaa4 (L:List Bool) (hL:L.length<=100000) (v:Int) (hv:ok32 0 v) (k:Nat) (h1:1<=k) (h2:k<=32):WQ (L.length+k) (qac Φ f_257 [.agg [.slice 1 (L.map cB)],.int .u32 v,.int .i64 k]):=by
 rw [qad (fn:=c_257) rfl rfl];have q1:=vw_ok k h1 h2;have q2:=qjl v k hv;have b1:L.length<=70368744177664:=by omega
 have al:=alBo L;have hw0:IntKind.wrap .i64 ((k:Int) - 1)=((k - 1:Nat):Int):=by
  rw [show ((k:Int) - 1)=((k - 1:Nat):Int) by omega];exact qbr (by omega) (by omega)
 cases z:fits v k with
 | false=>
  rw [z] at q2;simp [c_257,q1,q2];exact ⟨L,9,by omega,by simp⟩
 | true=>
  rw [z] at q2;simp [c_257,q1,q2,b1,al,hw0,qaa];refine qbk k (fun i e h=>∃(l:List Bool) (n:Nat),l.length=L.length+i/\2<=n/\h=⟨[(0,.row 1 [[.Xu 1 []]]),(1,.tok 1 l.length)],n⟩/\look 1 e=some (.int .u32 v)/\look 6 e=some (.ptr 0 1 0 0)/\look 8 e=some (.app 1 (l.map cB) 1)/\look 9 e=some (.int .i64 ((k:Int) - 1 - i))) (WQ (L.length+k)) ?_ ?_ 0 _ _ (Qc _) ?_
  ·rintro i e _ M hi hM ⟨l,n,hl,hn,rfl,g1,g6,g8,g9⟩ ih;obtain ⟨j,hj⟩:∃j:Nat,(k:Int) - 1 - i=j:=⟨k - 1 - i,by omega⟩;rw [hj] at g9;have hwr:IntKind.wrap .i64 ((j:Int) - 1)=(k:Int) - 1 - ((i+1:Nat):Int):=by
    have:(j:Int) - 1=(k:Int) - 1 - ((i+1:Nat):Int):=by omega
    rw [this];by_cases z0:j=0
    ·rw [show (k:Int) - 1 - ((i+1:Nat):Int)= -1 by omega];rfl
    ·rw [show (k:Int) - 1 - ((i+1:Nat):Int)=((j - 1:Nat):Int) by omega];exact qbr (by omega) (by omega)
   have b2:l.length+1<=70368744177664:=by omega
   have j0:¬(j:Int)<0:=by omega
   simp [c_257_l0,g1,g6,g8,g9,b2,j0,hwr,qaa];exact ih _ _ ⟨l++[decide ((ishr IntKind.u32 v j).tmod 2=1)],n,by simp [hl];omega,hn,by simp,by simp [g1],by simp [g6],by simp [cB],by simp⟩
  ·rintro e _ M hM ⟨l,n,hl,hn,rfl,g1,g6,g8,g9⟩;have e1:(k:Int) - 1 - k= -1:=by omega
   rw [e1] at g9;simp [c_257_l0,c_257_k1,g6,g8,g9,hM,qaa];exact ⟨l,0,by omega,by simp⟩
  ·exact ⟨L,2,rfl,Qb _,by simp,by simp,by simp,by simp,by simp;omega⟩
theorem qwt (h:Xj) (hc:qac Φ f_198 [.agg (Xj.c h)]=some (.val (.int .i64 0))) (hw:∀f∈h.fields,1<=f.width/\f.width<=32) (hl:h.fields.length<=100) (vals:List Int) (hv:∀v∈vals,ok32 0 v) (hvl:vals.length<=100) (L:List Bool) (hL:L.length<=90000):
  WQ (L.length+3200) (qac Φ f_200 [.agg (Xj.c h),.slice 1 (vals.map c32),.agg [.slice 1 (L.map cB)]]):=by
 rw [qad (fn:=c_200) rfl rfl];simp only [Xj.e] at hc;by_cases z:vals.length=h.fields.length
 rotate_left
 ·simp [c_200,Xj.e,hc,z];exact ⟨L,2,by omega,by simp⟩
 simp [c_200,Xj.e,hc,z,qaa];refine qbk vals.length (fun i e hp=>∃(l:List Bool) (n:Nat),l.length<=L.length+32*i/\2<=n/\hp=⟨[(0,.row 1 [[.Xu 1 []]]),(1,.row 1 [[.slice 1 (l.map cB)]])],n⟩/\look 1 e=some (.slice 1 (vals.map c32))/\look 3 e=some (.iptr 2 [Xj.c h] 0 0)/\look 5 e=some (.iptr 1 [[.slice 1 (L.map cB)]] 0 0)/\look 6 e=some (.ptr 0 1 0 0)/\look 9 e=some (.ptr 1 1 0 0)/\look 10 e=some (.int .i64 i)) (WQ (L.length+3200)) ?_ ?_ 0 _ _ (Qc _) ?_
 ·rintro i e _ M hi hM ⟨l,n,hll,hn,rfl,g1,g3,g5,g6,g9,g10⟩ ih;have hwr:=qao i (by omega);have hif:i<h.fields.length:=by omega
  obtain ⟨w1,w2⟩:=hw _ (Qd hif);obtain ⟨k,hk⟩:=QAc (show 0<=h.fields[i].width by omega);rw [hk] at w1 w2;obtain ⟨L',f,hL',hr⟩:=qaa4 l (by omega) vals[i] (hv _ (Qd hi)) k (by omega) (by omega);simp only [Xj.e] at g3;have n0:¬n=0/\¬n=1/\¬n+11=0/\¬n+11=1/\¬0=n+11/\¬1=n+11:=by omega
  obtain ⟨z1,z2,z3,z4,z5,z6⟩:=n0;by_cases zf:f=0
  ·subst zf;simp [c_200_l0,Fld.e,g1,g3,g5,g6,g9,g10,hi,hif,hk,hr,hwr,c32,z1,z2,z3,z4,z5,z6,qab,qaa,qaf,qak];refine ih _ _ ⟨L',_,by omega,?_,by rfl,by simp [g1],by simp [g3,Xj.e],by simp [g5],by simp [g6],by simp [g9],by simp⟩;omega
  ·simp [c_200_l0,Fld.e,g1,g3,g5,g6,g9,g10,hi,hif,hk,hr,hwr,c32,zf,z1,z2,z3,z4,z5,z6,qab,qaa,qaf,qak];exact ⟨L,f,by omega,by simp⟩
 ·rintro e _ M hM ⟨l,n,hll,hn,rfl,g1,g3,g5,g6,g9,g10⟩;simp [c_200_l0,c_200_k1,g1,g6,g9,g10,hM,qaa];exact ⟨l,0,by omega,by simp⟩
 ·exact ⟨L,2,by omega,Qb _,by simp,by simp,by simp [Xj.e],by simp,by simp,by simp,by simp⟩
def BQ (N:Nat) (r:Option Rt):Prop:=∃(l:List Int) (f:Int),okB' l/\l.length<=N/\r=some (.val (.tup [.slice 1 (l.map c8),.int .i64 f]))
theorem wr8 (x:Int):0<=IntKind.wrap .u8 x/\IntKind.wrap .u8 x<=255:=by
 simp [IntKind.wrap,IntKind.bits,IntKind.signed];omega
theorem qtg {l:List Int} (h:okB' l) (k:Nat) (x:Int):okB' (l.set k (IntKind.wrap .u8 x)):=fun y hy=>by
 rcases Qq hy with hy | rfl
 ·exact h y hy
 ·exact wr8 x
theorem qyo (L:List Bool) (hL:L.length<=100000):BQ L.length (qac Φ f_201 [.agg [.slice 1 (L.map cB)]]):=by
 rw [qad (fn:=c_201) rfl rfl];obtain ⟨M,hM⟩:∃M,M=L.length % 8:=⟨_,rfl⟩;obtain ⟨D,hD⟩:∃D,D=L.length / 8:=⟨_,rfl⟩;have hr1:(L.length:Int).tmod 8=M:=by rw [QAz (by omega)];omega
 have hr2:((L.length:Int) % 8)=M:=by omega
 have hq0:(L.length:Int).tdiv 8=D:=by rw [QBf (by omega)];omega
 have hq3:((L.length:Int) / 8)=D:=by omega
 have hwD:IntKind.wrap .i64 (D:Int)=D:=qbr (by omega) (by omega);by_cases z:M=0
 rotate_left
 ·simp [c_201,hr1,hr2,z];exact ⟨[],10,by simp [okB'],by simp,by simp⟩
 have hDb:D<4611686018427387904/\D<=140737488355328:=by omega
 have hrep:∀D:Nat,List.replicate D [AV.int IntKind.u8 0]=(List.replicate D (0:Int)).map c8:=fun D=>by simp [c8]
 simp [c_201,hr1,hr2,hq0,hq3,hwD,z,hDb];rw [hrep];refine qbk L.length (fun i e h=>∃(l:List Int) (n:Nat),l.length=D/\okB' l/\h=⟨[(0,.row 1 (l.map c8))],n⟩/\look 1 e=some (.iptr 1 [[.slice 1 (L.map cB)]] 0 0)/\look 4 e=some (.row 0 1 0 D)/\look 5 e=some (.int .i64 i)) (BQ L.length) ?_ ?_ 0 _ _ (Qc _) ?_
 ·rintro i e _ K hi hK ⟨l,n,hl,ho,rfl,g1,g4,g5⟩ ih;have hwr:=qao i (by omega);obtain ⟨j,hj⟩:∃j,j=i / 8:=⟨_,rfl⟩;have hjl:j<l.length:=by omega
  have hjD:j<D:=by omega
  have e0:(i:Int).tdiv 8=j:=by rw [QBf (by omega)];omega
  have e3:((i:Int) / 8)=j:=by omega
  have eD:IntKind.wrap .i64 (j:Int)=j:=qbr (by omega) (by omega);have hm:∀x:Int,(l.map c8).set j [AV.int IntKind.u8 x]=(l.set j x).map c8:=fun x=>by simp [c8]
  cases q:L[i] with
  | true=>
   simp [c_201_l0,g1,g4,g5,hi,hK,e0,e3,eD,hjl,hjD,hl,cB,c8,q,hwr,qaa];refine ih _ _ ⟨l.set j (IntKind.wrap .u8 (IntKind.wrap .u8 (2*l[j])+1)),n,by simp [hl],qtg ho _ _,by rw [<- hm],by simp [g1],by simp [g4],by simp⟩
  | false=>
   simp [c_201_l0,g1,g4,g5,hi,hK,e0,e3,eD,hjl,hjD,hl,cB,c8,q,hwr,qaa];refine ih _ _ ⟨l.set j (IntKind.wrap .u8 (2*l[j])),n,by simp [hl],qtg ho _ _,by rw [<- hm],by simp [g1],by simp [g4],by simp⟩
 ·rintro e _ K hK ⟨l,n,hl,ho,rfl,g1,g4,g5⟩;have htk:(l.map c8).take D=l.map c8:=Qo (by simp [hl]);have hid:=fun H:AH=>qen (g:=c8) (n:=38) (H:=H) (fun x=>by simp [c8]) l
  simp [c_201_l0,c_201_k1,g1,g4,g5,hK,hl,htk,hid];exact ⟨l,0,ho,by omega,by simp⟩
 ·exact ⟨List.replicate D 0,1,by simp,fun x hx=>by rw [QC hx];decide,by simp,by simp,by simp,by simp⟩
def EmQ (r:Option Rt):Prop:=∃l:List Int,okB' l/\l.length<=200000/\r=some (.val (.slice 1 (l.map c8)))
theorem qaff {p:Prg} {e:Envt} (hck:qac Φ f_196 [.agg (Prg.c p)]=some (.val (.tup [.int .i64 0,.int .i64 0]))) (hce:IsI (qac Φ f_197 [.agg (Prg.c p),.agg e.c])) (hh:∀h∈p.Xp,qac Φ f_198 [.agg (Xj.c h)]=some (.val (.int .i64 0))/\(∀f∈h.fields,1<=f.width/\f.width<=32)/\h.fields.length<=100)
  (hl:p.Xp.length<=20) (s:EnS e) (hfl:e.fields.length=p.Xp.length) (hrl:∀l∈e.fields,l.length<=100) (hd:p.Xs.length<=20) (hdv:∀d∈p.Xs,0<=d/\d<p.Xp.length) (hpl:e.payload.length<=1000) (hpo:okB' e.payload):
  EmQ (qac Φ f_136 [.agg (Prg.c p),.agg e.c]):=by
 rw [qad (fn:=c_136) rfl rfl];obtain ⟨fc,hce⟩:=hce;rw [Envt.ce] at hce;simp only [Prg.e] at hck hce;by_cases zc:fc=0
 rotate_left
 ·simp [c_136,Prg.e,Envt.ce,hck,hce,zc];exact ⟨[],by simp [okB'],by simp,by simp⟩
 subst zc;simp [c_136,Prg.e,Envt.ce,hck,hce];refine qbk p.Xp.length (fun i ev h=>∃n,h=⟨[],n⟩/\look 2 ev=some (.iptr 9 [Prg.c p] 0 0)/\look 3 ev=some (.iptr 4 [Envt.c e] 0 0)/\look 7 ev=some (.int .i64 i)) EmQ ?_ ?_ 0 _ _ (Qc _) ?_
 ·rintro i ev _ L hi hL ⟨n,rfl,h2,h3,h7⟩ ih;have hw:=qao i (by omega);have hc:=(hh _ (Qd hi)).1;simp only [Xj.e] at hc;rw [Prg.e] at h2;simp [c_136_l0,Xj.e,h2,h7,hi,hL,hc,hw];exact ih _ _ ⟨_,rfl,by simp [h2,Prg.e],by simp [h3],by simp⟩
 ·rintro ev _ L hL ⟨n,rfl,h2,h3,h7⟩;have hnw:qac Φ f_199 []=some (.val (.agg [.slice 1 []])):=by
   rw [qad (fn:=c_199) rfl rfl];simp [c_199]
  rw [Prg.e] at h2;simp [c_136_l0,c_136_k3,h2,h7,hL,hnw];refine qbk p.Xs.length (fun i ev h=>∃(l:List Bool) (m:Nat),l.length<=3200*i/\n<m/\h=⟨[(n,.row 1 [[.slice 1 (l.map cB)]])],m⟩/\look 2 ev=some (.iptr 9 [Prg.c p] 0 0)/\look 3 ev=some (.iptr 4 [Envt.c e] 0 0)/\look 8 ev=some (.ptr n 1 0 0)/\look 9 ev=some (.int .i64 i)) EmQ ?_ ?_ 0 _ _ (Qc _) ?_
  ·rintro i ev _ M hi hM ⟨l,m,hll,hnm,rfl,h2,h3,h8,h9⟩ ih;have hw:=qao i (by omega);obtain ⟨d1,d2⟩:=hdv _ (Qd hi);obtain ⟨k,hk⟩:=QAc d1;have hkh:k<p.Xp.length:=by omega
   have hkf:k<e.fields.length:=by omega
   have hkv:k<e.valid.length:=by rw [s.vl];exact hkf
   obtain ⟨c1,c2,c3⟩:=hh _ (Qd hkh);obtain ⟨L',f,hL',hwr⟩:=qwt p.Xp[k] c1 c2 c3 e.fields[k] (s.rl _ (Qd hkf)).2 (hrl _ (Qd hkf)) l (by omega);rw [Prg.e] at h2;rw [Envt.ce] at h3;simp only [Xj.e] at hwr;have n0:¬m=n/\¬n=m/\¬m+11=n/\¬n=m+11:=by omega
   obtain ⟨z1,z2,z3,z4⟩:=n0;have z5:∀k,¬m+k=n:=fun k=>by omega
   have z6:∀k,¬n=m+k:=fun k=>by omega
   have z7:∀k,(n == m+k)=false:=fun k=>by simp;omega
   cases hv:e.valid[k] with
   | true=>
    simp [c_136_l1,Xj.e,h2,h3,h8,h9,hi,hM,hw,cI,cB,cS,hk,hkh,hkf,hkv,hv,hwr,z1,z2,z3,z4,z5,z6,z7,qab,qaa,qaf,qak];refine ih _ _ ⟨L',_,by omega,?_,by rfl,by simp [h2,Prg.e],by simp [h3,Envt.ce,cS],by simp [h8],by simp⟩;omega
   | false=>
    simp [c_136_l1,Xj.e,h2,h3,h8,h9,hi,hM,hw,cI,cB,cS,hk,hkh,hkf,hkv,hv,qab,qaa,qaf,qak];exact ih _ _ ⟨l,_,by omega,hnm,by rfl,by simp [h2,Prg.e],by simp [h3,Envt.ce,cS],by simp [h8],by simp⟩
  ·rintro ev _ M hM ⟨l,m,hll,hnm,rfl,h2,h3,h8,h9⟩;obtain ⟨b,f,ob,hbl,hby⟩:=qyo l (by omega);rw [Prg.e] at h2;rw [Envt.ce] at h3;have b1:b.length<=70368744177664:=by omega
   have b2:b.length+e.payload.length<=70368744177664:=by omega
   have al1:=alB b;have al2:=alB e.payload;have z1:¬m=n:=by omega
   have z2:¬n=m:=by omega
   simp [c_136_l1,c_136_k2,h2,h3,h8,h9,hM,hby,b1,b2,al1,al2,z1,z2,qab,qaa];exact ⟨b++e.payload,fun x hx=>by
    rcases QAd.1 hx with hx | hx
    ·exact ob x hx
    ·exact hpo x hx,by simp;omega,by simp⟩
  ·exact ⟨[],_,by simp,QAu _,by simp,by simp [h2,Prg.e],by simp [h3],by simp,by simp⟩
 ·exact ⟨_,rfl,by simp [Prg.e],by simp [Envt.ce],by simp⟩
theorem qag6 (b:Bool) (k0 t0 t1 f0 f1 f2 m0 m1 m2 m3:Int) (pay:List Int):qac Φ f_255 [.agg (Prg.c pF),.agg (eF b k0 t0 t1 f0 f1 f2 m0 m1 m2 m3 pay).c]=some (.val (.bool true)):=qam (n:=200) (by kernel_rfl)
theorem ck19:qac Φ f_196 [.agg (Prg.c pF)]=some (.val (.tup [.int .i64 0,.int .i64 0])):=qam (n:=200) (by kernel_rfl)
theorem EI.ens {e:Envt} (i:EI e):EnS e:=by
 obtain ⟨b,k0,t0,t1,f0,f1,f2,m0,m1,m2,m3,pay,rfl,hm,⟨o1,o2,o3,o4,o5,o6,o7,o8,o9⟩,hb,hpl⟩:=i.x;have om:ok32 0 m2:=by rcases hm with rfl | rfl<;>simp [ok32]
 exact ⟨rfl,by simp [eF],by simp [eF,o1,o2,o3,o4,o5,o6],by simp [eF],by simp [eF,o7,o8,o9,om]⟩
theorem qab3 {e:Envt} (i:EI e):EmQ (qac Φ f_136 [.agg (Prg.c pF),.agg e.c]):=by
 have s:=i.ens;obtain ⟨b,k0,t0,t1,f0,f1,f2,m0,m1,m2,m3,pay,rfl,hm,ho,hb,hpl⟩:=i.x;have hw8:∀h∈pF.Xp,(∀f∈h.fields,f.width=8)/\h.fields.length<=100:=by decide
 exact qaff ck19 (qyr s (qag6 ..)) (fun h hh=>⟨qs6 h hh,fun f hf=>by rw [(hw8 h hh).1 f hf];decide,(hw8 h hh).2⟩) (by decide) s rfl (by simp [eF]) (by decide) (by decide) hpl hb
theorem qv8 (l:List Int):conE pF [l]=if l.length=16 then (if l.any (fun v=>decide (65535<v)) then 9 else 0) else 2:=by
 have e1:szG pF [l] 0=if (l.length:Int)=16 then none else some 2:=rfl
 have e2:vlG pF [l] 0=if l.any (fun v=>decide (qbt 16<v))=true then some 9 else none:=rfl
 have e3:qbt 16=65535:=by decide
 rw [e3] at e2;unfold conE;rw [QA (by show ¬(1≠1);simp)];by_cases z:l.length=16
 ·have z':(l.length:Int)=16:=by omega
  rw [QAa z'] at e1;have f1:fe (szG pF [l]) [l].length 0=none:=by rw [qbf (show 0<[l].length by simp) e1];exact qb7
  rw [f1,QAa z];cases q:l.any (fun v=>decide (65535<v)) with
  | true=>
   rw [q] at e2;rw [qbj (show 0<[l].length by simp) e2];rfl
  | false=>
   rw [q] at e2;have f2:fe (vlG pF [l]) [l].length 0=none:=by rw [qbf (show 0<[l].length by simp) e2];exact qb7
   rw [f2];rfl
 ·have z':¬(l.length:Int)=16:=by omega
  rw [QA z'] at e1;rw [qbj (show 0<[l].length by simp) e1,QA z];rfl
theorem qadn {c:Xf} (g:GI c):∃l,c.Xm=[l]/\RI l:=by
 have h:=g.1.con;have hl1:c.Xm.length=1:=by
  unfold conE at h;split at h
  ·cases h
  rename_i hl;simp only [ne_eq,Decidable.not_not] at hl;exact hl
 obtain ⟨l,hc⟩:=List.length_eq_one_iff.1 hl1;have hg:=(g.2.gs l (by rw [hc];simp)).2;rw [hc,qv8] at h;split at h
 ·rename_i h16;split at h
  ·cases h
  rename_i hn;refine ⟨l,hc,h16,fun v hv=>⟨(hg v hv).1,?_⟩⟩;by_cases q:65535<v
  ·exact absurd (QB.2 ⟨v,hv,by simpa using q⟩) hn
  ·omega
 ·cases h
theorem qz4 {c:Xf} (g:GI c) {l:List Int} (r:RI l):GI { c with Xm:=[l] }:=by
 obtain ⟨v,s⟩:=g;refine ⟨⟨v.prg,v.rl,v.nl,v.dl,v.tab,?_⟩,⟨s.rl,s.rs,s.nl,s.dl,s.ds,by simp,fun l' hl'=>?_⟩⟩
 ·rw [qv8,QAa r.1,QA];intro h;obtain ⟨v,hv,hq⟩:=QB.1 h;have:=(r.2 v hv).2;simp at hq;omega
 ·simp only [QBn] at hl';subst hl';refine ⟨by have:=r.1;omega,fun v hv=>?_⟩;have:=r.2 v hv;simp only [ok32];omega
theorem Xf.regs (c:Xf) {l:List Int} (h:c.Xm=[l]):Xf.c c=[.slice 1 (c.rows.map (cS 5 Rw.c)),.slice 1 (c.Xr.map cI),.slice 2 (c.Xq.map Xb.c),.slice 1 [[.slice 1 (l.map c32)]]]:=by rw [Xf.e4,h];rfl
def StQ (l:List Int) (r:Option Rt):Prop:=r=some (.val (.tup [.agg [.slice 1 [],.slice 1 [],.slice 1 [],.slice 1 [],.slice 1 [],.slice 3 []],.bool false]))\/∃e,EI e/\r=some (.val (.tup [.agg (sC e l []),.bool true]))
theorem qad9 {p:Prg} {c:Xf} {l:List Int} (hc:c.Xm=[l]) (s:Int) (B:List Int) (h1:qac Φ f_88 [.agg (Prg.c p)]=some (.val (.agg (dgC (prgD p))))) (h0:(prgD p).1=0) (h2:qac Φ f_40 [.agg (Prg.c p),.agg (Xf.c c)]=some (.val (.int .i64 0)))
  (h3:∃(e:Envt) (f:Int),(f=0->EI e)/\qac Φ f_134 [.agg (Prg.c p),.slice 1 (B.map c8)]=some (.val (.tup [.agg (Envt.c e),.int .i64 f]))) (F:FX p):
  StQ l (qac Φ f_83 [.agg (Prg.c p),.agg (Xf.c c),.agg [.int .i64 s,.slice 1 (B.map c8)]]):=by
 rw [qad (fn:=c_83) rfl rfl];rw [Xf.regs c hc] at h2 ⊢;obtain ⟨e,f,hf,h3⟩:=h3;rw [Envt.ce] at h3;simp only [Prg.e,dgC] at h1 h2 h3;by_cases s0:s<0
 ·simp [c_83,Prg.e,h1,h0,h2,s0];exact .inl rfl
 by_cases s1:255<s
 ·simp [c_83,Prg.e,h1,h0,h2,s0,s1];exact .inl rfl
 by_cases zf:f=0
 rotate_left
 ·simp [c_83,Prg.e,h1,h0,h2,s0,s1,h3,zf];exact .inl rfl
 subst zf;obtain ⟨e',ie',hs⟩:=(hf rfl).set (p:=p) F.hw F.hw0 F.hw1 (-1) 0 (.inl ⟨rfl,.inl rfl⟩) (IntKind.wrap .u32 s) (wr32 s);rw [Envt.ce,Envt.ce] at hs;simp only [Prg.e] at hs;simp [c_83,Prg.e,h1,h0,h2,s0,s1,h3,hs];exact .inr ⟨e',ie',by simp [sC_e]⟩
def FiQ (c:Xf) (r:Option Rt):Prop:=∃(x:Rslt) (l:List Int),(x.drop=false->0<=x.port)/\RI l/\okB' x.data/\x.data.length<=1000/\r=some (.val (.tup [.agg (Rslt.c x),.agg (Xf.c { c with Xm:=[l] })]))
theorem qy2 {p:Prg} {c:Xf} {e:Envt} {l:List Int} {hs:List Hit} (hc:∃l0,c.Xm=[l0]) (ie:EI e) (il:RI l) (hem:EmQ (qac Φ f_136 [.agg (Prg.c p),.agg e.c])):
  FiQ c (qac Φ f_84 [.agg (Prg.c p),.agg (Xf.c c),.agg (sC e l hs)]):=by
 rw [qad (fn:=c_84) rfl rfl];obtain ⟨l0,hc⟩:=hc;rw [Xf.regs c hc];obtain ⟨out,oo,ol,hem⟩:=hem;rw [Envt.ce] at hem;simp only [Prg.e] at hem;have hR:∀x:Rslt,Xf.c { c with Xm:=[l] }=[.slice 1 (c.rows.map (cS 5 Rw.c)),.slice 1 (c.Xr.map cI),.slice 2 (c.Xq.map Xb.c),.slice 1 [[.slice 1 (l.map c32)]]]:=fun x=>Xf.regs { c with Xm:=[l] } rfl
 obtain ⟨b,k0,t0,t1,f0,f1,f2,m0,m1,m2,m3,pay,rfl,hm,⟨_,_,_,_,_,_,_,o8,_⟩,-⟩:=ie.x;have hm1:0<=IntKind.wrap .i64 m1:=by
  have h1:=o8.1;have h2:=o8.2;obtain ⟨k,rfl⟩:=QAc h1;rw [qbr (by omega) (by omega)];exact h1
 simp [eF,cS,cB,c32] at hem;by_cases d:m2=1
 ·subst d;simp [c_84,Prg.e,sC_e,eF,cS,cB,c32,hem,qaa];refine ⟨⟨true,0,[],hs⟩,l,(fun h=>by cases h),il,by simp [okB'],by simp,?_⟩;rw [hR ⟨true,0,[],hs⟩];simp [Rslt.ce,cS,c32]
 ·have d0:m2=0:=by omega
  subst d0;by_cases z:512<out.length
  ·simp [c_84,Prg.e,sC_e,eF,cS,cB,c32,hem,z,qaa];refine ⟨⟨true,0,[],hs⟩,l,(fun h=>by cases h),il,by simp [okB'],by simp,?_⟩;rw [hR ⟨true,0,[],hs⟩];simp [Rslt.ce,cS,c32]
  ·simp [c_84,Prg.e,sC_e,eF,cS,cB,c32,hem,z,qaa];refine ⟨⟨false,IntKind.wrap .i64 m1,out,hs⟩,l,(fun _=>hm1),il,oo,by simp only;omega,?_⟩;rw [hR ⟨true,0,[],hs⟩];simp [Rslt.ce,cS,c32]
theorem qadx {p:Prg} {c:Xf} {l:List Int} (hc:c.Xm=[l]) (il:RI l) (s:Int) (B:List Int) (h1:StQ l (qac Φ f_83 [.agg (Prg.c p),.agg (Xf.c c),.agg [.int .i64 s,.slice 1 (B.map c8)]])) (h2:SubX p c 2 800 p.control)
  (h3:∀e l hs,EI e->RI l->FiQ c (qac Φ f_84 [.agg (Prg.c p),.agg (Xf.c c),.agg (sC e l hs)])):
  FiQ c (qac Φ f_38 [.agg (Prg.c p),.agg (Xf.c c),.agg [.int .i64 s,.slice 1 (B.map c8)]]):=by
 rw [qad (fn:=c_38) rfl rfl];have hcc:({ c with Xm:=[l] }:Xf)=c:=by rw [<- hc]
 rcases h1 with h1 | ⟨e,ie,h1⟩
 ·rw [Xf.regs c hc] at h1 ⊢;simp only [Prg.e] at h1;simp [c_38,Prg.e,h1,qaa];refine ⟨⟨true,0,[],[]⟩,l,(fun h=>by cases h),il,by simp [okB'],by simp,?_⟩;rw [hcc,Xf.regs c hc];simp [Rslt.ce]
 ·obtain ⟨e2,l2,hs2,ie2,il2,-,h2⟩:=h2 e l [] 0 ie il (by simp) (by decide);obtain ⟨x,l3,px,il3,ox,olx,h3⟩:=h3 e2 l2 hs2 ie2 il2;refine ⟨x,l3,px,il3,ox,olx,?_⟩;rw [Rslt.ce,Xf.regs { c with Xm:=[l3] } rfl] at h3 ⊢;rw [Xf.regs c hc] at h1 h2 h3 ⊢;simp only [Prg.e,sC_e] at h1 h2 h3;simp only [QCh] at h1 h2;simp [c_38,Prg.e,h1,h2,h3,qaa]
theorem qrj {c:Xf} (g:GI c) (s:Int) (B:List Int) (hB:B.length<=1000) (hBo:okB' B):FiQ c (qac Φ f_38 [.agg (Prg.c pF),.agg (Xf.c c),.agg [.int .i64 s,.slice 1 (B.map c8)]]):=by
 obtain ⟨l,hc,il⟩:=qadn g;have h2:=qz2 pF (qfy qni) pF_hv pcF c g.2;rw [(qe9 pF c).2 g.1] at h2;exact qadx hc il s B (qad9 hc s B pcF.2 qadd h2 (qzx B hB hBo) fxF) (qafc g) fun e l' hs ie il'=>qy2 ⟨l,hc⟩ ie il' (qab3 ie)
theorem qzb {p:Prg} {c:Xf} {s:Int} {B:List Int} (hp:qac Φ f_26 []=some (.val (.agg (Prg.c p)))) (h:FiQ c (qac Φ f_38 [.agg (Prg.c p),.agg (Xf.c c),.agg [.int .i64 s,.slice 1 (B.map c8)]])):
  FiQ c (qac Φ f_10 [.agg (Xf.c c),.agg [.int .i64 s,.slice 1 (B.map c8)]]):=by
 rw [qad (fn:=c_10) rfl rfl];obtain ⟨x,l,px,il,ox,ol,h⟩:=h;refine ⟨x,l,px,il,ox,ol,?_⟩;rw [Rslt.ce,Xf.regs { c with Xm:=[l] } rfl] at h ⊢;rw [Xf.e4] at h ⊢;simp only [Prg.e] at hp h;simp [c_10,hp,h,qaa]
theorem GI.cc {c:Xf} (g:GI c):CfgC c:=by
 obtain ⟨v,s⟩:=g;refine ⟨s.rl,fun l hl=>⟨?_,fun r hr=>⟨((s.rs l hl).2 r hr).kl,((s.rs l hl).2 r hr).al⟩⟩,s.nl,s.dl,fun d hd=>(s.ds d hd).1,s.gl,fun l hl=>(s.gs l hl).1⟩;obtain ⟨k,hk,rfl⟩:=Qn.1 hl;have hk3:k<pF.Xn.length:=by rw [<- v.rl];exact hk
 have h2:k<c.Xq.length:=by rw [v.dl];exact hk3
 have h3:k<c.Xr.length:=by rw [v.nl];exact hk3
 have tv:=(v.tab k _ _ _ _ (Qa hk3) (Qa hk) (Qa h3) (Qa h2)).size;have hs:∀tb∈pF.Xn,tb.size<=256:=by decide
 have:=hs _ (Qd hk3);omega
theorem qm8:∃P,PrcOk f_10 GI P:=by
 refine qagc (fun c s d g hd hl=>?_) fun c g=>?_
 ·obtain ⟨x,l,_,il,ox,ol,h⟩:=qzb qtn (qrj g s d hl hd);exact ⟨x,_,h,qz4 g il,ox,ol⟩
 ·exact g.cc
def LgQ (ports:List Int) (links:List Link) (hosts:List PortID) (cs:List Xf) (acts:List Act) (x:Option Rt):Prop:=
 ∃b,x=some (.val (.bool b))/\(b=false->ports.length<=20/\links.length<=40/\hosts.length<=20/\cs.length<=20/\acts.length<=40/\∀a∈acts,a.data.length<=600/\a.upd.ops.length<=70)
theorem qze (ports:List Int) (links:List Link) (hosts:List PortID) (cs:List Xf) (acts:List Act) (h5:∀c∈cs,c.rows.length<2^40):
  LgQ ports links hosts cs acts (qac Φ f_7 [.agg [.slice 1 (ports.map cI),.slice 5 (links.map Link.c),.slice 2 (hosts.map PortID.c)],.slice 4 (cs.map Xf.c),.slice 6 (acts.map Act.c)]):=by
 rw [qad (fn:=c_7) rfl rfl];by_cases a1:20<ports.length
 ·exact ⟨true,by simp [c_7,a1],by simp⟩
 by_cases a2:40<links.length
 ·exact ⟨true,by simp [c_7,a1,a2],by simp⟩
 by_cases a3:20<hosts.length
 ·exact ⟨true,by simp [c_7,a1,a2,a3],by simp⟩
 by_cases a4:20<cs.length
 ·exact ⟨true,by simp [c_7,a1,a2,a3,a4],by simp⟩
 by_cases a5:40<acts.length
 ·exact ⟨true,by simp [c_7,a1,a2,a3,a4,a5],by simp⟩
 simp [c_7,a1,a2,a3,a4,a5];refine qoa cs.length (fun i e=>look 1 e=some (.slice 4 (cs.map Xf.c))/\look 2 e=some (.slice 6 (acts.map Act.c))/\look 8 e=some (.int .i64 i)/\∃q:Int,look 7 e=some (.int .i64 q)) (LgQ ports links hosts cs acts) ?_ ?_ 0 _ (Qc _) ?_
 ·rintro i e L hi hL ⟨q1,q2,q8,q,q7⟩ ih;have hw:=qao i (by omega);simp [c_7_l2,q1,q2,q7,q8,hi,hL];obtain ⟨rows,hrows⟩:∃rows,cs[i].rows=rows:=⟨_,rfl⟩;have hrl:rows.length<2^40:=by rw [<- hrows];exact h5 _ (Qd hi)
  refine qoa rows.length (fun k e=>look 1 e=some (.slice 4 (cs.map Xf.c))/\look 2 e=some (.slice 6 (acts.map Act.c))/\look 8 e=some (.int .i64 i)/\look 9 e=some (.int .i64 k)/\∃q:Int,look 7 e=some (.int .i64 q)) (LgQ ports links hosts cs acts) ?_ ?_ 0 _ (Qc _) ?_
  ·rintro k e' L' hk hL' ⟨p1,p2,p8,p9,q,p7⟩ ih';have hw':=qao k (by omega);have hgk:(rows.map fun r=>cS 5 Rw.c r)[k]? =some [.slice 5 (rows[k].map Rw.c)]:=by simp [hk,cS]
   simp [c_7_l0,p1,p2,p7,p8,p9,hi,hk,hL',hw',Xf.c,hrows,hgk,cS];exact ih' _ ⟨by simp [p1],by simp [p2],by simp [p8],by simp,IntKind.wrap .i64 (q+(rows[k].length:Int)),by simp⟩
  ·rintro e' L' hL' ⟨p1,p2,p8,p9,q,p7⟩;simp [c_7_l0,c_7_k1,p1,p2,p7,p8,p9,hi,hL',Xf.c,hrows,hw];exact ih _ ⟨by simp [p1],by simp [p2],by simp,q,by simp [p7]⟩
  ·simp [q1,q2,q7,q8]
 ·rintro e L hL ⟨q1,q2,q8,q,q7⟩;simp [c_7_l2,c_7_k5,q1,q2,q7,q8,hL];refine qoa acts.length (fun i e=>look 2 e=some (.slice 6 (acts.map Act.c))/\look 7 e=some (.int .i64 q)/\look 10 e=some (.int .i64 i)/\∀a∈acts.take i,a.data.length<=600/\a.upd.ops.length<=70) (LgQ ports links hosts cs acts) ?_ ?_ 0 _ (Qc _) ?_
  ·rintro i e L hi hL ⟨q2,q7,q10,hall⟩ ih;have hw:=qao i (by omega);by_cases z1:600<acts[i].data.length
   ·simp [c_7_l3,q2,q10,hi,hL,Act.ce,z1];exact ⟨true,rfl,by simp⟩
   by_cases z2:70<acts[i].upd.ops.length
   ·simp [c_7_l3,q2,q10,hi,hL,Act.ce,z1,z2];exact ⟨true,rfl,by simp⟩
   simp [c_7_l3,q2,q10,hi,hL,Act.ce,z1,z2,hw];refine ih _ ⟨by simp [q2],by simp [q7],by simp,?_⟩;intro a ha;rw [Qh hi] at ha;rcases QAd.1 ha with ha | ha
   ·exact hall a ha
   ·simp at ha;subst ha;omega
  ·rintro e L hL ⟨q2,q7,q10,hall⟩;rw [QAf] at hall;simp [c_7_l3,c_7_k4,q2,q7,q10,hL];exact ⟨_,rfl,fun _=>⟨by omega,by omega,by omega,by omega,by omega,hall⟩⟩
  ·simp [q2,q7]
 ·simp
end Go.Av
