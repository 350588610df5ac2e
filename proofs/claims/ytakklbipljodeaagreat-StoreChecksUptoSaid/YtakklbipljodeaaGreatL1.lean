/-
 Identifiers, widths: the reference's answers.
-/
import Derived.Test.YtakklbipljodeaaGreatK18
set_option linter.unusedVariables false
set_option linter.unusedSimpArgs false
set_option linter.constructorNameAsVariable false
namespace Go.Av
set_option maxRecDepth 4000
theorem qn6 (c:Int):qab Φ f_267 [.int .u8 c]=some (.val (.bool (letC c))):=by
 rw [qaa (fn:=c_267) rfl rfl]
 by_cases h1:97≤c<;>by_cases h2:c≤122<;>by_cases h3:65≤c<;>simp [c_267,letC,h1,h2,h3]
theorem qte (c:Int):qab Φ f_268 [.int .u8 c]=some (.val (.bool (digI c))):=by
 rw [qaa (fn:=c_268) rfl rfl]
 by_cases h1:48≤c<;>simp [c_268,digI,h1]
theorem qdr (s:List UInt8) (hs:s.length<2^40):qab Φ f_194 [.str s]=some (.val (.bool (idS s))):=by
 rw [qaa (fn:=c_194) rfl rfl]
 by_cases h0:s.length=0
 ·have:s=[]:=List.eq_nil_of_length_eq_zero h0
  subst this
  simp [c_194,idS]
 have hp:0<s.length:=by omega
 have hne:¬s=[]:=by intro h;subst h;simp at h0
 rw [qs5 hp]
 by_cases h16:16<s.length
 ·simp [c_194,hne,h16,Nat.not_le.2 h16]
 have hl:=qn6 (s[0].toNat:Int)
 cases q:letC (s[0].toNat:Int) with
 | false=>
  rw [q] at hl
  simp [c_194,hne,hp,h16,hl,q]
 | true=>
  rw [q] at hl
  generalize hX:(decide (s.length≤16)&&(true&&s.all fun b=>idC b.toNat))=X
  simp [c_194,hne,hp,h16,hl]
  refine (qc7 s (fun b=> !idC b.toNat) (some (Rt.val (.bool false))) (some (Rt.val (.bool true)))
   (fun i e H=>look 0 e=some (.str s)∧look 3 e=some (.int .i64 i)∧H=⟨[],0⟩) ?_ ?_ ?_ _ _ ?_).trans ?_
  ·rintro i e _ L hi hL ⟨h0,h3,rfl⟩ hb
   have g1:=qn6 (s[i].toNat:Int)
   have g2:=qte (s[i].toNat:Int)
   cases z1:letC (s[i].toNat:Int) with
   | true=>simp [idC,z1] at hb
   | false=>
    cases z2:digI (s[i].toNat:Int) with
    | true=>simp [idC,z1,z2] at hb
    | false=>
     rw [z1] at g1
     rw [z2] at g2
     simp only [idC,z1,z2,Bool.false_or,Bool.not_eq_true',decide_eq_false_iff_not] at hb
     simp [c_194_l0,h0,h3,hi,hL,g1,g2,hb]
  ·rintro i e _ L X hi hL ⟨h0,h3,rfl⟩ hb ih
   have hw:IntKind.wrap .i64 ((i:Int)+1)=((i+1:Nat):Int):=qad (by omega) (by omega)
   have g1:=qn6 (s[i].toNat:Int)
   have g2:=qte (s[i].toNat:Int)
   cases z1:letC (s[i].toNat:Int) with
   | true=>
    rw [z1] at g1
    simp [c_194_l0,h0,h3,hi,hL,g1,hw]
    exact ih _ _ ⟨by simp [h0],by simp,rfl⟩
   | false=>
    rw [z1] at g1
    cases z2:digI (s[i].toNat:Int) with
    | true=>
     rw [z2] at g2
     simp [c_194_l0,h0,h3,hi,hL,g1,g2,hw]
     exact ih _ _ ⟨by simp [h0],by simp,rfl⟩
    | false=>
     rw [z2] at g2
     simp only [idC,z1,z2,Bool.false_or,Bool.not_eq_false',decide_eq_true_eq] at hb
     rw [hb] at g1 g2
     simp [c_194_l0,h0,h3,hi,hL,g1,g2,hb,hw]
     exact ih _ _ ⟨by simp [h0],by simp,rfl⟩
  ·rintro e _ L hL ⟨h0,h3,rfl⟩
   simp [c_194_l0,c_194_k1,h0,h3,hL]
  ·simp
  ·rw [← hX]
   have:(s.any fun b=> !idC b.toNat)= !(s.all fun b=>idC b.toNat):=by
    rw [List.not_all_eq_any_not]
   rw [this]
   have h16':decide (s.length≤16)=true:=by simpa using h16
   rw [h16']
   cases s.all fun b=>idC b.toNat<;>rfl
theorem qlg {n:Int} (h1:0≤n) (h2:n<18446744073709551616):IntKind.wrap .u64 n=n:=by
 have e1:(2:Int)^64=18446744073709551616:=rfl
 simp only [IntKind.wrap,IntKind.bits,IntKind.signed,Bool.false_and,e1]
 rw [if_neg (by simp)]
 omega
theorem qtd {i:Nat} (h:i<63):IntKind.wrap .u64 (2*2^i)=2^(i+1):=by
 have h1:(2:Int)^(i+1)=2*2^i:=by rw [Int.pow_succ];omega
 have h2:(2:Int)^i≤2^62:=by
  have:=Nat.pow_le_pow_right (n:=2) (by omega) (show i≤62 by omega)
  exact_mod_cast this
 have h0:(0:Int)<2^i:=by
  have:=Nat.pow_pos (a:=2) (n:=i) (by omega)
  exact_mod_cast this
 have h3:(2:Int)^62=4611686018427387904:=rfl
 rw [h1]
 exact qlg (by omega) (by omega)
theorem qh7 (w:Int):qab Φ f_309 [.int .i64 w]=some (.val (.bool (!wBad w))):=by
 rw [qaa (fn:=c_309) rfl rfl]
 by_cases h1:w<1
 ·simp [c_309,wBad,h1,Int.not_le.2 h1]
 ·by_cases h2:32<w
  ·simp [c_309,wBad,h1,Int.not_lt.1 h1,h2,Int.not_le.2 h2]
  ·simp [c_309,wBad,h1,Int.not_lt.1 h1,h2,Int.not_lt.1 h2]
theorem qjo (n:Nat) (hn:n<63):qab Φ f_310 [.int .i64 n]=some (.val (.int .u64 (2^n))):=by
 rw [qaa (fn:=c_310) rfl rfl]
 simp [c_310]
 refine (qaw n (fun i e=>look 0 e=some (.int .i64 n)∧look 3 e=some (.int .u64 (2^i))∧look 4 e=some (.int .i64 i)) (fun i=>some (Rt.val (.int .u64 (2^n)))) ?_ ?_ 0 _ (Nat.zero_le _) ?_).trans (by simp)
 ·rintro i e L hi hL ⟨h0,h3,h4⟩ ih
  have hw:IntKind.wrap .i64 ((i:Int)+1)=((i+1:Nat):Int):=qad (by omega) (by omega)
  have hp:=qtd (i:=i) (by omega)
  simp [c_310_l0,h0,h3,h4,hi,hL,hw,hp]
  exact ih _ ⟨by simp [h0],by simp,by simp⟩
 ·rintro e L hL ⟨h0,h3,h4⟩
  simp [c_310_l0,c_310_k1,h0,h3,h4,hL]
 ·simp
theorem ql9 (v w:Int) (hv:ok32 0 v):qab Φ f_254 [.int .u32 v,.int .i64 w]=some (.val (.bool (fits v w))):=by
 rw [qaa (fn:=c_254) rfl rfl]
 have h1:=qh7 w
 have hv1:=hv.1
 have hv2:=hv.2
 have hc:IntKind.wrap .u64 v=v:=qlg (by omega) (by omega)
 cases q:wBad w with
 | true=>
  rw [q] at h1
  simp [c_254,h1,fits,q]
 | false=>
  rw [q] at h1
  obtain ⟨w1,w2⟩:=wBad_false.1 q
  obtain ⟨k,rfl⟩:∃k:Nat,w=k:=⟨w.toNat,by omega⟩
  have h2:=qjo k (by omega)
  simp [c_254,h1,h2,hc,fits,q]
theorem qjq (v:Int) (hv:ok32 0 v) (k:Nat) (hk:k≤32):qab Φ f_157 [.int .u32 v,.int .i64 k]=some (.val (.bool (decide (v<2^k)))):=by
 rw [qaa (fn:=c_157) rfl rfl]
 have hv1:=hv.1
 have hv2:=hv.2
 have hc:IntKind.wrap .u64 v=v:=qlg (by omega) (by omega)
 generalize hX:decide (v<2^k)=X
 simp [c_157]
 refine (qaw k (fun i e=>look 0 e=some (.int .u32 v)∧look 1 e=some (.int .i64 k)∧look 5 e=some (.int .u64 (2^i))∧look 6 e=some (.int .i64 i)) (fun i=>some (Rt.val (.bool X))) ?_ ?_ 0 _ (Nat.zero_le _) ?_).trans (by simp)
 ·rintro i e L hi hL ⟨h0,h1,h5,h6⟩ ih
  have hw:IntKind.wrap .i64 ((i:Int)+1)=((i+1:Nat):Int):=qad (by omega) (by omega)
  have hp:=qtd (i:=i) (by omega)
  simp [c_157_l0,h0,h1,h5,h6,hi,hL,hw,hp]
  exact ih _ ⟨by simp [h0],by simp [h1],by simp,by simp⟩
 ·rintro e L hL ⟨h0,h1,h5,h6⟩
  simp [c_157_l0,c_157_k1,h0,h1,h5,h6,hL,hc,← hX]
 ·simp
theorem qo4 (p:Prg) (h i:Int):qab Φ f_323 [.agg (Prg.c p),.agg [.int .i64 h,.int .i64 i]]=some (.val (.int .i64 (wid p h i))):=by
 rw [qaa (fn:=c_323) rfl rfl]
 have tail:∀(l:List Fld),(∀j:Int,decl p h j=(at? l j).map (·.width))→(i<0∧wid p h i=0)∨(¬i<0∧(l.length:Int)≤i∧wid p h i=0)∨∃k:Nat,∃hk:k<l.length,i=k∧((l[k].width<1∧wid p h i=0)∨(¬l[k].width<1∧32<l[k].width∧wid p h i=0)∨(¬l[k].width<1∧¬32<l[k].width∧wid p h i=l[k].width)):=by
  intro l hd
  by_cases i0:i<0
  ·exact .inl ⟨i0,by simp [wid,hd,qbk i0]⟩
  by_cases i1:(l.length:Int)≤i
  ·exact .inr (.inl ⟨i0,i1,by simp [wid,hd,qbj i1]⟩)
  obtain ⟨k,hk⟩:∃k:Nat,i=k:=⟨i.toNat,by omega⟩
  refine .inr (.inr ⟨k,by omega,hk,?_⟩)
  have hk2:k<l.length:=by omega
  have e:wid p h i=if wBad l[k].width then 0 else l[k].width:=by simp [wid,hd,hk,hk2]
  by_cases w1:l[k].width<1
  ·exact .inl ⟨w1,by rw [e];simp [wBad,w1]⟩
  by_cases w2:32<l[k].width
  ·exact .inr (.inl ⟨w1,w2,by rw [e];simp [wBad,w2]⟩)
  ·exact .inr (.inr ⟨w1,w2,by rw [e];simp [wBad,w1,w2]⟩)
 by_cases h0:0≤h
 ·have hm:¬h= -1:=by omega
  have hm2:¬h< -1:=by omega
  by_cases h1:(p.headers.length:Int)≤h
  ·rw [show wid p h i=0 by simp [wid,decl,hm,qbj h1]]
   simp [c_323,Prg.e,h0,h1]
  obtain ⟨m,rfl⟩:∃k:Nat,h=k:=⟨h.toNat,by omega⟩
  have hk:m<p.headers.length:=by omega
  rcases tail p.headers[m].fields (by intro j;simp [decl,hm,hk]) with ⟨i0,e⟩ | ⟨i0,i1,e⟩ | ⟨k,hk2,rfl,⟨w1,e⟩ | ⟨w1,w2,e⟩ | ⟨w1,w2,e⟩⟩
  ·rw [e];simp [c_323,Prg.e,Header.e,Fld.e,hk,Nat.not_le.2 hk,hm2,i0]
  ·rw [e];simp [c_323,Prg.e,Header.e,Fld.e,hk,Nat.not_le.2 hk,hm2,i0,i1]
  ·rw [e];simp [c_323,Prg.e,Header.e,Fld.e,hk,Nat.not_le.2 hk,hm2,hk2,Nat.not_le.2 hk2,w1]
  ·rw [e];simp [c_323,Prg.e,Header.e,Fld.e,hk,Nat.not_le.2 hk,hm2,hk2,Nat.not_le.2 hk2,w1,w2]
  ·rw [e];simp [c_323,Prg.e,Header.e,Fld.e,hk,Nat.not_le.2 hk,hm2,hk2,Nat.not_le.2 hk2,w1,w2]
 by_cases hm:h= -1
 ·subst hm
  rcases tail p.metadata (by intro j;simp [decl]) with ⟨i0,e⟩ | ⟨i0,i1,e⟩ | ⟨k,hk2,rfl,⟨w1,e⟩ | ⟨w1,w2,e⟩ | ⟨w1,w2,e⟩⟩
  ·rw [e];simp [c_323,Prg.e,Fld.e,i0]
  ·rw [e];simp [c_323,Prg.e,Fld.e,i0,i1]
  ·rw [e];simp [c_323,Prg.e,Fld.e,hk2,Nat.not_le.2 hk2,w1]
  ·rw [e];simp [c_323,Prg.e,Fld.e,hk2,Nat.not_le.2 hk2,w1,w2]
  ·rw [e];simp [c_323,Prg.e,Fld.e,hk2,Nat.not_le.2 hk2,w1,w2]
 ·have hm2:h< -1:=by omega
  rw [show wid p h i=0 by simp [wid,decl,hm,qbk (show h<0 by omega)]]
  simp [c_323,Prg.e,h0,hm2]
theorem qo5 (p:Prg) (h i:Int):qab Φ f_306 [.agg (Prg.c p),.agg [.int .i64 h,.int .i64 i]]=some (.val (.int .i64 (wid p h i))):=by
 rw [qaa (fn:=c_306) rfl rfl]
 have tail:∀(l:List Fld),(∀j:Int,decl p h j=(at? l j).map (·.width))→(i<0∧wid p h i=0)∨(¬i<0∧(l.length:Int)≤i∧wid p h i=0)∨∃k:Nat,∃hk:k<l.length,i=k∧((l[k].width<1∧wid p h i=0)∨(¬l[k].width<1∧32<l[k].width∧wid p h i=0)∨(¬l[k].width<1∧¬32<l[k].width∧wid p h i=l[k].width)):=by
  intro l hd
  by_cases i0:i<0
  ·exact .inl ⟨i0,by simp [wid,hd,qbk i0]⟩
  by_cases i1:(l.length:Int)≤i
  ·exact .inr (.inl ⟨i0,i1,by simp [wid,hd,qbj i1]⟩)
  obtain ⟨k,hk⟩:∃k:Nat,i=k:=⟨i.toNat,by omega⟩
  refine .inr (.inr ⟨k,by omega,hk,?_⟩)
  have hk2:k<l.length:=by omega
  have e:wid p h i=if wBad l[k].width then 0 else l[k].width:=by simp [wid,hd,hk,hk2]
  by_cases w1:l[k].width<1
  ·exact .inl ⟨w1,by rw [e];simp [wBad,w1]⟩
  by_cases w2:32<l[k].width
  ·exact .inr (.inl ⟨w1,w2,by rw [e];simp [wBad,w2]⟩)
  ·exact .inr (.inr ⟨w1,w2,by rw [e];simp [wBad,w1,w2]⟩)
 by_cases h0:0≤h
 ·have hm:¬h= -1:=by omega
  have hm2:¬h< -1:=by omega
  by_cases h1:(p.headers.length:Int)≤h
  ·rw [show wid p h i=0 by simp [wid,decl,hm,qbj h1]]
   simp [c_306,Prg.e,h0,h1]
  obtain ⟨m,rfl⟩:∃k:Nat,h=k:=⟨h.toNat,by omega⟩
  have hk:m<p.headers.length:=by omega
  rcases tail p.headers[m].fields (by intro j;simp [decl,hm,hk]) with ⟨i0,e⟩ | ⟨i0,i1,e⟩ | ⟨k,hk2,rfl,⟨w1,e⟩ | ⟨w1,w2,e⟩ | ⟨w1,w2,e⟩⟩
  ·rw [e];simp [c_306,Prg.e,Header.e,Fld.e,hk,Nat.not_le.2 hk,hm2,i0]
  ·rw [e];simp [c_306,Prg.e,Header.e,Fld.e,hk,Nat.not_le.2 hk,hm2,i0,i1]
  ·rw [e];simp [c_306,Prg.e,Header.e,Fld.e,hk,Nat.not_le.2 hk,hm2,hk2,Nat.not_le.2 hk2,w1]
  ·rw [e];simp [c_306,Prg.e,Header.e,Fld.e,hk,Nat.not_le.2 hk,hm2,hk2,Nat.not_le.2 hk2,w1,w2]
  ·rw [e];simp [c_306,Prg.e,Header.e,Fld.e,hk,Nat.not_le.2 hk,hm2,hk2,Nat.not_le.2 hk2,w1,w2]
 by_cases hm:h= -1
 ·subst hm
  rcases tail p.metadata (by intro j;simp [decl]) with ⟨i0,e⟩ | ⟨i0,i1,e⟩ | ⟨k,hk2,rfl,⟨w1,e⟩ | ⟨w1,w2,e⟩ | ⟨w1,w2,e⟩⟩
  ·rw [e];simp [c_306,Prg.e,Fld.e,i0]
  ·rw [e];simp [c_306,Prg.e,Fld.e,i0,i1]
  ·rw [e];simp [c_306,Prg.e,Fld.e,hk2,Nat.not_le.2 hk2,w1]
  ·rw [e];simp [c_306,Prg.e,Fld.e,hk2,Nat.not_le.2 hk2,w1,w2]
  ·rw [e];simp [c_306,Prg.e,Fld.e,hk2,Nat.not_le.2 hk2,w1,w2]
 ·have hm2:h< -1:=by omega
  rw [show wid p h i=0 by simp [wid,decl,hm,qbk (show h<0 by omega)]]
  simp [c_306,Prg.e,h0,hm2]
end Go.Av
namespace Go.Av
set_option maxRecDepth 4000
def fxO {α:Type} (q:α→Bool) (l:List α) (j:Nat):Option Int:=fe (fun k=>(l[k]?).bind fun f=>if q f then some (k:Int) else none) l.length j
theorem qnu {α:Type} {q:α→Bool} {l:List α} {i:Nat} (hi:i<l.length) (h:q l[i]=true):fxO q l i=some (i:Int):=by
 unfold fxO
 rw [qah (x:=(i:Int)) hi (by simp [hi,h])]
theorem qqv {α:Type} {q:α→Bool} {l:List α} {i:Nat} (hi:i<l.length) (h:q l[i]=false):fxO q l i=fxO q l (i+1):=by
 unfold fxO
 rw [qap hi (by simp [hi,h])]
theorem qaa2 {α:Type} {q:α→Bool} {l:List α}:fxO q l l.length=none:=by
 unfold fxO
 rw [qaz]
theorem qqu {α:Type} {q:α→Bool} {l:List α} {i:Nat} (hi:i<l.length) (h:q l[i]=true):∀n j,n+j=i→∃k:Nat,fxO q l j=some (k:Int)∧(decide ((k:Int)<i)=qcf (l.take i) q j)
 | 0,j,e=>by
  have:j=i:=by omega
  subst this
  refine ⟨j,qnu hi h,?_⟩
  have:=qk0 (l:=l.take j) (p:=q)
  rw [show (l.take j).length=j by simp;omega] at this
  rw [this]
  simp
 | n+1,j,e=>by
  have hj:j<l.length:=by omega
  have hj2:j<(l.take i).length:=by simp;omega
  have e1:(l.take i)[j]=l[j]:=by simp
  cases z:q l[j] with
  | true=>
   refine ⟨j,qnu hj z,?_⟩
   rw [qnl hj2 (by rw [e1];exact z)]
   simp;omega
  | false=>
   obtain ⟨k,k1,k2⟩:=qqu hi h n (j+1) (by omega)
   refine ⟨k,by rw [qqv hj z];exact k1,?_⟩
   rw [qfa hj2 (by rw [e1];exact z)]
   exact k2
def fxT (o:Option Int):AV:=match o with
 | some k=> .tup [.int .i64 k,.bool true]
 | none=> .tup [.int .i64 0,.bool false]
theorem qpo (h:Header) (nm:List UInt8) (hl:h.fields.length<2^40):qab Φ f_269 [.agg (Header.c h),.str nm]=some (.val (fxT (fxO (fun f:Fld=>decide (f.name=nm)) h.fields 0))):=by
 rw [qaa (fn:=c_269) rfl rfl]
 simp [c_269,Header.e]
 refine qaw h.fields.length (fun i e=>look 1 e=some (.str nm)∧look 2 e=some (.iptr 2 [Header.c h] 0 0)∧look 6 e=some (.int .i64 i))
  (fun i=>some (Rt.val (fxT (fxO (fun f:Fld=>decide (f.name=nm)) h.fields i)))) ?_ ?_ 0 _ (Nat.zero_le _) ?_
 ·rintro i e L hi hL ⟨h1,h2,h6⟩ ih
  have hw:IntKind.wrap .i64 ((i:Int)+1)=((i+1:Nat):Int):=qad (by omega) (by omega)
  rw [Header.e] at h2
  by_cases z:h.fields[i].name=nm
  ·rw [qnu hi (by simpa using z)]
   simp [c_269_l0,Fld.e,h1,h2,h6,hi,hL,z,fxT]
  ·rw [qqv hi (by simpa using z)]
   simp [c_269_l0,Fld.e,h1,h2,h6,hi,hL,z,hw]
   exact ih _ ⟨by simp [h1],by simp [h2,Header.e],by simp⟩
 ·rintro e L hL ⟨h1,h2,h6⟩
  rw [qaa2]
  rw [Header.e] at h2
  simp [c_269_l0,c_269_k1,h1,h2,h6,hL,fxT]
 ·simp [Header.e]
theorem qng (l:List Fld) (h:∀k,k<l.length→fldE l k (l.getD k default)=0):∀i,i≤l.length→0≤wSum (l.take i)∧wSum (l.take i)≤32*i:=by
 intro i
 induction i with
 | zero=>intro _;simp [wSum]
 | succ i ih=>
  intro hi
  have h1:=ih (by omega)
  have hk:=h i (by omega)
  rw [List.getD_eq_getElem?_getD,List.getElem?_eq_getElem (by omega),Option.getD_some] at hk
  have hb:wBad l[i].width=false:=by
   cases q:wBad l[i].width with
   | false=>rfl
   | true=>
    simp only [fldE,q] at hk
    split at hk
    ·omega
    ·simp at hk
  have:=wBad_false.1 hb
  rw [qky (by omega)]
  omega
theorem qvv {l:List Fld} {i k:Nat} (hk:k<i) (hi:i≤l.length):fldE (l.take i) k ((l.take i).getD k default)=fldE l k (l.getD k default):=by
 have e1:(l.take i).getD k default=l.getD k default:=by
  rw [List.getD_eq_getElem?_getD,List.getD_eq_getElem?_getD,List.getElem?_take,if_pos hk]
 rw [e1]
 unfold fldE dupN
 rw [List.take_take,Nat.min_eq_left (by omega)]
theorem qyv (h:Header) (hn:h.name.length<2^40) (hf:∀f∈h.fields,f.name.length<2^40):qab Φ f_196 [.agg (Header.c h)]=some (.val (.int .i64 (hdrE h))):=by
 rw [qaa (fn:=c_196) rfl rfl]
 have n1:=qdr h.name hn
 cases q1:idS h.name with
 | false=>rw [q1] at n1;simp [c_196,Header.e,n1,hdrE,q1]
 | true=>
 rw [q1] at n1
 by_cases z0:h.fields.length=0
 ·simp [c_196,Header.e,n1,hdrE,q1,z0]
 by_cases z1:12<h.fields.length
 ·simp [c_196,Header.e,n1,hdrE,q1,z0,z1]
 have hE:hdrE h=hdrR h.fields 0:=by simp [hdrE,q1,z0,z1,hdrR,qjf];rfl
 rw [hE]
 simp [c_196,Header.e,n1,z0,z1]
 refine qau h.fields.length (fun _=>[]) 0 (fun i e=>look 1 e=some (.iptr 2 [Header.c h] 0 0)∧look 3 e=some (.int .i64 (wSum (h.fields.take i)))∧look 4 e=some (.int .i64 i)∧
   ∀k,k<i→fldE h.fields k (h.fields.getD k default)=0)
  (fun i=>some (Rt.val (.int .i64 (hdrR h.fields i)))) ?_ ?_ 0 _ 0 (Nat.zero_le _) (Nat.le_refl _) ?_
 ·rintro i e n L hi hL _ ⟨h1,h3,h4,hz⟩ ih
  have hw:IntKind.wrap .i64 ((i:Int)+1)=((i+1:Nat):Int):=qad (by omega) (by omega)
  have nf:=qdr h.fields[i].name (hf _ (List.getElem_mem hi))
  have ni:=qpo h h.fields[i].name (by omega)
  obtain ⟨at',k1,k2⟩:=qqu (q:=fun f:Fld=>decide (f.name=h.fields[i].name)) hi (by simp) i 0 (by omega)
  rw [k1] at ni
  rw [qhl,show (h.fields.take i).any (fun f=>decide (f.name=h.fields[i].name))=dupN Fld.name h.fields i h.fields[i] from rfl] at k2
  simp only [fxT,Header.e] at ni
  rw [Header.e] at h1
  cases p1:idS h.fields[i].name with
  | false=>
   rw [p1] at nf
   rw [qeq hi (by simp [fldE,p1])]
   simp [c_196_l0,Fld.e,h1,h3,h4,hi,hL,nf,ni,fldE,p1]
  | true=>
  rw [p1] at nf
  by_cases w1:h.fields[i].width<1
  ·rw [qeq hi (by simp [fldE,p1,wBad,w1])]
   simp [c_196_l0,Fld.e,h1,h3,h4,hi,hL,nf,ni,fldE,p1,wBad,w1]
  by_cases w2:32<h.fields[i].width
  ·rw [qeq hi (by simp [fldE,p1,wBad,w2])]
   simp [c_196_l0,Fld.e,h1,h3,h4,hi,hL,nf,ni,fldE,p1,wBad,w1,w2]
  cases p3:dupN Fld.name h.fields i h.fields[i] with
  | true=>
   rw [p3] at k2
   have k3:at'<i:=by simpa using k2
   rw [qeq hi (by simp [fldE,p1,wBad,w1,w2,p3])]
   simp [c_196_l0,Fld.e,h1,h3,h4,hi,hL,nf,ni,fldE,p1,wBad,w1,w2,p3,k3]
  | false=>
   rw [p3] at k2
   have k3:¬at'<i:=by simpa using k2
   have hz':∀k,k<i+1→fldE h.fields k (h.fields.getD k default)=0:=by
    intro k hk
    rcases Nat.lt_succ_iff_lt_or_eq.1 hk with hlt | rfl
    ·exact hz k hlt
    ·rw [List.getD_eq_getElem?_getD,List.getElem?_eq_getElem hi,Option.getD_some]
     simp [fldE,p1,wBad,w1,w2,p3]
   have hs:=qng (h.fields.take (i+1)) (by intro k hk;simp at hk;rw [qvv (by omega) (by omega)];exact hz' k (by omega)) (i+1) (by simp;omega)
   rw [List.take_take,Nat.min_self,qky hi] at hs
   have hw3:IntKind.wrap .i64 (wSum (h.fields.take i)+h.fields[i].width)=wSum (h.fields.take i)+h.fields[i].width:=qad (by omega) (by omega)
   rw [qor hi (by simp [fldE,p1,wBad,w1,w2,p3])]
   simp [c_196_l0,Fld.e,h1,h3,h4,hi,hL,nf,ni,w1,w2,k3,hw,hw3]
   exact ih _ _ (Nat.zero_le _) ⟨by simp [h1,Header.e],by simp [qky hi],by simp,hz'⟩
 ·rintro e n L hL _ ⟨h1,h3,h4,hz⟩
  have hs:=(qng h.fields hz h.fields.length (Nat.le_refl _)).1
  rw [List.take_length] at h3 hs
  have e3:wSum h.fields % 8=(wSum h.fields).tmod 8:=(Int.tmod_eq_emod_of_nonneg hs).symm
  rw [qqz,e3]
  rw [Header.e] at h1
  by_cases z:(wSum h.fields).tmod 8=0
  ·simp [c_196_l0,c_196_k1,h1,h3,h4,hL,z]
  ·simp [c_196_l0,c_196_k1,h1,h3,h4,hL,z]
 ·simp [Header.e,wSum]
theorem qy2 (r:Register) (hs:r.name.length<2^40):qab Φ f_198 [.agg (Register.c r)]=some (.val (.int .i64 (regE r))):=by
 rw [qaa (fn:=c_198) rfl rfl]
 have h1:=qdr r.name hs
 cases q1:idS r.name with
 | false=>rw [q1] at h1;simp [c_198,Register.e,h1,regE,q1]
 | true=>
  rw [q1] at h1
  by_cases w1:r.width<1
  ·simp [c_198,Register.e,h1,regE,q1,wBad,w1]
  by_cases w2:32<r.width
  ·simp [c_198,Register.e,h1,regE,q1,wBad,w1,w2]
  by_cases z1:r.size<1
  ·simp [c_198,Register.e,h1,regE,q1,wBad,w1,w2,z1]
  by_cases z2:64<r.size
  ·simp [c_198,Register.e,h1,regE,q1,wBad,w1,w2,z1,z2]
  simp [c_198,Register.e,h1,regE,q1,wBad,w1,w2,z1,z2]
end Go.Av
