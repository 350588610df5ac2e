/-
 Small facts on heaps; the entry of nothing.
-/
import Derived.Test.YtakklbipljodeaaGreatSD5
set_option linter.unusedVariables false
set_option linter.unusedSimpArgs false
set_option linter.constructorNameAsVariable false
namespace Go.Av
def noE:Entry:=⟨[],0,⟨0,[]⟩⟩
theorem noE_s:EntS noE:=⟨by simp [noE],by simp [noE],by simp [noE],by simp [noE]⟩
theorem lk_ge {j:Nat}:∀{L:List (Nat×AO)},(∀x∈L,j<x.1)->look j L=none
 | [],_=>rfl
 | (u,w)::r,h=>by
  have:=h (u,w) (by simp);have hr:=lk_ge (L:=r) fun x hx=>h x (by simp [hx])
  have hu:¬u=j:=by simp only at this;omega
  simp [look,hu,hr]
theorem lk_lt {j:Nat}:∀{L:List (Nat×AO)},(∀x∈L,x.1<j)->look j L=none
 | [],_=>rfl
 | (u,w)::r,h=>by
  have:=h (u,w) (by simp);have hr:=lk_lt (L:=r) fun x hx=>h x (by simp [hx])
  have hu:¬u=j:=by simp only at this;omega
  simp [look,hu,hr]
theorem Kp.apps {X:Nat->Prop} {N:Nat} {O L:List (Nat×AO)} (h:∀x∈L,N<=x.1):Kp X N O (O++L):=fun j hj _=>by
 rw [qah,lk_ge (L:=L) fun x hx=>by have:=h x hx;omega];cases look j O<;>rfl
theorem Tail.apps {N M:Nat} {O L:List (Nat×AO)} (hT:Tail O N) (hn:N<=M) (h:∀x∈L,x.1<M):Tail (O++L) M:=fun j hj=>by
 rw [qah,hT j (by omega),lk_lt (L:=L) fun x hx=>by have:=h x hx;omega];rfl
set_option maxRecDepth 4000
def osum (a:Nat):Nat->Nat
 | 0=>0
 | i+1=>osum a i+a / 2^i % 2
theorem qqt (a:Nat):∀i,osum a i<=i
 | 0=>Qb _
 | i+1=>by have:=qqt a i;simp only [osum];omega
def qk6 (v:Int):Int:=(osum v.toNat 32:Nat)
theorem qad3 (n:Nat):iand .u32 (n:Int) 1=(n:Int) % 2:=by
 unfold iand;have e3:(BitVec.ofInt 32 (n:Int)&&& BitVec.ofInt 32 1).toNat=((n:Int) % 4294967296).toNat % 2:=by
  rw [BitVec.toNat_and];have:(BitVec.ofInt 32 1).toNat=2^1 - 1:=rfl;rw [this,Nat.and_two_pow_sub_one_eq_mod,BitVec.toNat_ofInt];rfl
 rw [show IntKind.bits .u32=32 from rfl,e3];simp only [IntKind.wrap,IntKind.bits,IntKind.signed];simp;omega
theorem qagc (n i:Nat) (h:i<32):ishr .u32 (n:Int) (i:Int)=((n / 2^i:Nat):Int):=by
 unfold ishr;have:min (i:Int).toNat IntKind.u32.bits=i:=by simp [IntKind.bits];omega
 rw [this,Int.fdiv_eq_ediv_of_nonneg _ (by exact Int.le_of_lt (Int.pow_pos (by decide)))];rw [Int.natCast_ediv,Int.natCast_pow];rfl
theorem qafn (n:Nat) (hn:n<2^32):qab Φ f_311 [.int .u32 (n:Int)]=some (.val (.int .i64 (osum n 32:Nat))):=by
 rw [qaa (fn:=c_311) rfl rfl];simp [c_311];refine qau 32 (fun i e=>look 0 e=some (.int .u32 (n:Int))/\look 3 e=some (.int .i64 (osum n i:Nat))/\look 5 e=some (.int .i64 i)) (fun _=>some (Rt.val (.int .i64 (osum n 32:Nat)))) ?_ ?_ 0 _ (Qc _) ?_
 ·rintro i e L hi hL ⟨h0,h3,h5⟩ ih;have hw:=qag i (by omega);have hb:=qqt n i;have h1:=qagc n i hi;have h2:=qad3 (n / 2^i);have hq:osum n (i+1)=osum n i+n / 2^i % 2:=rfl;generalize n / 2^i=q at*;have hc:IntKind.wrap .i64 ((q:Int) % 2)=(q:Int) % 2:=qa6 (by omega) (by omega);have hs:IntKind.wrap .i64 ((osum n i:Nat)+((q:Int) % 2))=((osum n (i+1):Nat):Int):=by
   rw [qa6 (by omega) (by omega),hq];omega
  have hi':(i:Int)<32:=by omega
  simp [c_311_l0,h0,h3,h5,hi',hL,h1,h2,hc,hs,hw];exact ih _ ⟨by simp [h0],by simp,by simp⟩
 ·rintro e L hL ⟨h0,h3,h5⟩;simp [c_311_l0,c_311_k1,h3,h5,hL]
 ·simp [osum]
theorem qac0 (n:Nat) (hn:n<2^32):qab Φ f_312 [.int .u32 (n:Int)]=some (.val (.int .i64 (osum n 32:Nat))):=by
 rw [qaa (fn:=c_312) rfl rfl];simp [c_312];refine qau 32 (fun i e=>look 0 e=some (.int .u32 ((n / 2^i:Nat):Int))/\look 3 e=some (.int .i64 (osum n i:Nat))/\look 4 e=some (.int .i64 i)) (fun _=>some (Rt.val (.int .i64 (osum n 32:Nat)))) ?_ ?_ 0 _ (Qc _) ?_
 ·rintro i e L hi hL ⟨h0,h3,h5⟩ ih;have hw:=qag i (by omega);have hb:=qqt n i;have hq:osum n (i+1)=osum n i+n / 2^i % 2:=rfl;have hd:n / 2^(i+1)=n / 2^i / 2:=by rw [Nat.pow_succ,Nat.div_div_eq_div_mul]
  have hle:n / 2^i<=n:=Nat.div_le_self _ _;generalize n / 2^i=q at*;have hm:(q:Int).tmod 2=(q:Int) % 2:=Int.tmod_eq_emod_of_nonneg (by omega);have hv:(q:Int).tdiv 2=(q:Int) / 2:=Int.tdiv_eq_ediv_of_nonneg (by omega);have hc:IntKind.wrap .i64 ((q:Int) % 2)=(q:Int) % 2:=qa6 (by omega) (by omega);have hs:IntKind.wrap .i64 ((osum n i:Nat)+((q:Int) % 2))=((osum n (i+1):Nat):Int):=by
   rw [qa6 (by omega) (by omega),hq];omega
  have hu:IntKind.wrap .u32 ((q:Int) / 2)=(q:Int) / 2:=by
   have e:(2:Int)^32=4294967296:=rfl;simp [IntKind.wrap,IntKind.bits,IntKind.signed,e];omega
  have hi':(i:Int)<32:=by omega
  simp [c_312_l0,h0,h3,h5,hi',hL,hm,hv,hc,hs,hu,hw];exact ih _ ⟨by simp [hd],by simp,by simp⟩
 ·rintro e L hL ⟨h0,h3,h5⟩;simp [c_312_l0,c_312_k1,h3,h5,hL]
 ·simp [osum]
theorem qaca {v:Int} (h:ok32 0 v):qab Φ f_311 [.int .u32 v]=some (.val (.int .i64 (qk6 v))):=by
 obtain ⟨h1,h2⟩:=h;obtain ⟨n,rfl⟩:∃n:Nat,v=n:=⟨v.toNat,by omega⟩;have:=qafn n (by omega);simpa [qk6] using this
theorem qaam {v:Int} (h:ok32 0 v):qab Φ f_312 [.int .u32 v]=some (.val (.int .i64 (qk6 v))):=by
 obtain ⟨h1,h2⟩:=h;obtain ⟨n,rfl⟩:∃n:Nat,v=n:=⟨v.toNat,by omega⟩;have:=qac0 n (by omega);simpa [qk6] using this
def pfx:List TableKey->List KeyMatch->Int
 | [],_=>0
 | k::ks,xs=>if k.kind=2 then (match xs with | m::_=>qk6 m.mask | []=>0) else pfx ks (xs.drop 1)
def pfxZ (p:Prg) (t:Int) (x:Entry):Int:=match at? p.tables t with
 | some tb=>pfx tb.keys x.keys
 | none=>0
theorem quh (k:TableKey) (ks:List TableKey) (xs:List KeyMatch):pfx (k::ks) xs=if k.kind=2 then (match xs with | m::_=>qk6 m.mask | []=>0) else pfx ks (xs.drop 1):=rfl
theorem qw4 {ks:List TableKey} {xs:List KeyMatch} {i:Nat} (hi:i<ks.length) (h:ks[i].kind=2):pfx (ks.drop i) (xs.drop i)=if hx:i<xs.length then qk6 xs[i].mask else 0:=by
 rw [Qi hi,quh,if_pos h];by_cases hx:i<xs.length
 ·rw [dif_pos hx,Qi hx]
 ·rw [dif_neg hx,List.drop_eq_nil_of_le (by omega)]
theorem qui {ks:List TableKey} {xs:List KeyMatch} {i:Nat} (hi:i<ks.length) (h:¬ks[i].kind=2):pfx (ks.drop i) (xs.drop i)=pfx (ks.drop (i+1)) (xs.drop (i+1)):=by
 rw [Qi hi,quh,if_neg h,List.drop_drop]
theorem qw3 (ks:List TableKey) (xs:List KeyMatch):pfx (ks.drop ks.length) xs=0:=by simp [pfx]
theorem qr3 (p:Prg) (f:PrgS p) (t:Int) (x:Entry) (hx:EntS x):qab Φ f_255 [.agg (Prg.c p),.int .i64 t,.agg (Entry.c x)]=some (.val (.int .i64 (pfxZ p t x))):=by
 rw [qaa (fn:=c_255) rfl rfl];by_cases i0:t<0
 ·simp [c_255,Prg.e,Entry.ce,pfxZ,qbp i0,i0]
 by_cases i1:(p.tables.length:Int)<=t
 ·simp [c_255,Prg.e,Entry.ce,pfxZ,qbo i1,i0,i1]
 obtain ⟨k,rfl⟩:∃k:Nat,t=k:=⟨t.toNat,by omega⟩;have hk:k<p.tables.length:=by omega
 have hR:pfxZ p k x=pfx p.tables[k].keys x.keys:=by rw [pfxZ,qhl,Qa hk]
 rw [hR];generalize hQ:pfx p.tables[k].keys x.keys=Q;have hkl:=f.tk p.tables[k] (Qd hk);simp [c_255,Prg.e,Entry.ce,Tbl.e,i0,i1,hk];refine qat p.tables[k].keys.length (fun _=>[]) 0 (fun i e=>pfx (p.tables[k].keys.drop i) (x.keys.drop i)=Q/\look 5 e=some (.iptr 4 [Entry.c x] 0 0)/\look 23 e=some (.slice 3 (p.tables[k].keys.map TableKey.c))/\look 24 e=some (.int .i64 p.tables[k].keys.length)/\look 25 e=some (.int .i64 i)) (fun _=>some (Rt.val (.int .i64 Q))) ?_ ?_ 0 _ _ (Qc _) (Qc _) ?_
 ·rintro i e n L hi hL - ⟨he,h5,h23,h24,h25⟩ ih;have hw:=qag i (by omega);rw [Entry.ce] at h5;by_cases z:p.tables[k].keys[i].kind=2
  ·rw [qw4 hi z] at he;by_cases q:i<x.keys.length
   ·rw [dif_pos q] at he;have ho:=qaca (hx.ks x.keys[i] (Qd q)).2;simp [c_255_l0,TableKey.e,KeyMatch.ce,h5,h23,h24,h25,hi,hL,z,q,ho,he]
   ·rw [dif_neg q] at he;simp [c_255_l0,TableKey.e,KeyMatch.ce,h5,h23,h24,h25,hi,hL,z,q,<- he]
  ·rw [qui hi z] at he;simp [c_255_l0,TableKey.e,h5,h23,h24,h25,hi,hL,z,hw];exact ih _ _ (Qc _) ⟨he,by simp [h5,Entry.ce],by simp [h23,TableKey.e],by simp [h24],by simp⟩
 ·rintro e n L hL - ⟨he,h5,h23,h24,h25⟩;rw [qw3] at he;simp [c_255_l0,c_255_k1,h23,h24,h25,hL,<- he]
 ·exact ⟨by simpa using hQ,by simp [Entry.ce],by simp,by simp,by simp⟩
theorem qpw (p:Prg) (f:PrgS p) (t:Int) (x:Entry) (hx:EntS x):qab Φ f_256 [.agg (Prg.c p),.int .i64 t,.agg (Entry.c x)]=some (.val (.int .i64 (pfxZ p t x))):=by
 rw [qaa (fn:=c_256) rfl rfl];by_cases i0:t<0
 ·simp [c_256,Prg.e,Entry.ce,pfxZ,qbp i0,i0]
 by_cases i1:(p.tables.length:Int)<=t
 ·simp [c_256,Prg.e,Entry.ce,pfxZ,qbo i1,i0,i1]
 obtain ⟨k,rfl⟩:∃k:Nat,t=k:=⟨t.toNat,by omega⟩;have hk:k<p.tables.length:=by omega
 have hR:pfxZ p k x=pfx p.tables[k].keys x.keys:=by rw [pfxZ,qhl,Qa hk]
 rw [hR];generalize hQ:pfx p.tables[k].keys x.keys=Q;have hkl:=f.tk p.tables[k] (Qd hk);simp [c_256,Prg.e,Entry.ce,i0,i1];refine qat p.tables[k].keys.length (fun _=>[]) 0 (fun i e=>pfx (p.tables[k].keys.drop i) (x.keys.drop i)=Q/\look 1 e=some (.int .i64 k)/\look 3 e=some (.iptr 9 [Prg.c p] 0 0)/\look 5 e=some (.iptr 4 [Entry.c x] 0 0)/\look 7 e=some (.int .i64 i)) (fun _=>some (Rt.val (.int .i64 Q))) ?_ ?_ 0 _ _ (Qc _) (Qc _) ?_
 ·rintro i e n L hi hL - ⟨he,h1,h3,h5,h7⟩ ih;have hw:=qag i (by omega);rw [Entry.ce] at h5;rw [Prg.e] at h3;by_cases z:p.tables[k].keys[i].kind=2
  ·rw [qw4 hi z] at he;by_cases q:i<x.keys.length
   ·rw [dif_pos q] at he;have ho:=qaam (hx.ks x.keys[i] (Qd q)).2;have q':¬x.keys.length<=i:=by omega
    simp [c_256_l0,Tbl.e,TableKey.e,KeyMatch.ce,h1,h3,h5,h7,hk,hi,hL,z,q,q',ho,he]
   ·rw [dif_neg q] at he;have q':x.keys.length<=i:=by omega
    simp [c_256_l0,Tbl.e,TableKey.e,KeyMatch.ce,h1,h3,h5,h7,hk,hi,hL,z,q,q',<- he]
  ·rw [qui hi z] at he;simp [c_256_l0,Tbl.e,TableKey.e,h1,h3,h5,h7,hk,hi,hL,z,hw];exact ih _ _ (Qc _) ⟨he,by simp [h1],by simp [h3,Prg.e],by simp [h5,Entry.ce],by simp⟩
 ·rintro e n L hL - ⟨he,h1,h3,h5,h7⟩;rw [qw3] at he;rw [Prg.e] at h3;simp [c_256_l0,c_256_k1,Tbl.e,h1,h3,h7,hk,hL,<- he]
 ·exact ⟨by simpa using hQ,by simp,by simp [Prg.e],by simp [Entry.ce],by simp⟩
def prc (p:Prg) (t:Int) (a b:Rw):Bool:=if a.entry.priority≠b.entry.priority then decide (b.entry.priority<a.entry.priority) else if pfxZ p t a.entry≠pfxZ p t b.entry then decide (pfxZ p t b.entry<pfxZ p t a.entry) else decide (a.id<b.id)
theorem qv2 (p:Prg) (f:PrgS p) (t:Int) (a b:Rw) (ha:EntS a.entry) (hb:EntS b.entry):qab Φ f_171 [.agg (Prg.c p),.int .i64 t,.agg (Rw.c a),.agg (Rw.c b)]=some (.val (.bool (prc p t a b))):=by
 rw [qaa (fn:=c_171) rfl rfl];have k1:=qr3 p f t a.entry ha;have k2:=qr3 p f t b.entry hb;simp only [Prg.e,Entry.ce] at k1 k2;by_cases q1:a.entry.priority=b.entry.priority
 ·rw [q1] at k1;by_cases q2:pfxZ p t a.entry=pfxZ p t b.entry
  ·simp [c_171,Prg.e,Rw.ce,prc,k1,k2,q1,q2]
  ·simp [c_171,Prg.e,Rw.ce,prc,k1,k2,q1,q2]
 ·simp [c_171,Prg.e,Rw.ce,prc,q1]
theorem qu1 (p:Prg) (f:PrgS p) (t:Int) (a b:Rw) (ha:EntS a.entry) (hb:EntS b.entry):qab Φ f_174 [.agg (Prg.c p),.int .i64 t,.agg (Rw.c a),.agg (Rw.c b)]=some (.val (.bool (prc p t a b))):=by
 rw [qaa (fn:=c_174) rfl rfl];have k1:=qpw p f t a.entry ha;have k2:=qpw p f t b.entry hb;simp only [Prg.e,Entry.ce] at k1 k2;by_cases q1:a.entry.priority=b.entry.priority
 ·rw [q1] at k1;by_cases q2:pfxZ p t a.entry=pfxZ p t b.entry
  ·simp [c_174,Prg.e,Rw.ce,prc,k1,k2,q1,q2]
  ·simp [c_174,Prg.e,Rw.ce,prc,k1,k2,q1,q2]
 ·simp [c_174,Prg.e,Rw.ce,prc,k1,k2,q1]
def qgo (m:KeyMatch) (v:Int):Prop:=iand .u32 (ixor .u32 v m.value) m.mask=0
instance (m:KeyMatch) (v:Int):Decidable (qgo m v):=by unfold qgo;infer_instance
def mts:List KeyMatch->List Int->Bool
 | m::ms,v::vs=>if qgo m v then mts ms vs else false
 | _,_=>true
def mtF (x:Entry) (key:List Int):Bool:=decide (x.keys.length=key.length)&&mts x.keys key
theorem qw1 {l:List KeyMatch} {k:List Int} {i:Nat} (h1:i<l.length) (h2:i<k.length) (h:qgo l[i] k[i]):mts (l.drop i) (k.drop i)=mts (l.drop (i+1)) (k.drop (i+1)):=by
 rw [Qi h1,Qi h2,mts,if_pos h]
theorem qua {l:List KeyMatch} {k:List Int} {i:Nat} (h1:i<l.length) (h2:i<k.length) (h:¬qgo l[i] k[i]):mts (l.drop i) (k.drop i)=false:=by
 rw [Qi h1,Qi h2,mts,if_neg h]
theorem qx5 (x:Entry) (hx:x.keys.length<2^40) (key:List Int):qab Φ f_167 [.agg (Entry.c x),.slice 1 (key.map c32)]=some (.val (.bool (mtF x key))):=by
 rw [qaa (fn:=c_167) rfl rfl];by_cases q:x.keys.length=key.length
 rotate_left
 ·have q':¬key.length=x.keys.length:=fun h=>q h.symm
  simp [c_167,Entry.ce,mtF,q,q']
 have hR:mtF x key=mts x.keys key:=by simp [mtF,q]
 rw [hR];generalize hQ:mts x.keys key=Q;simp [c_167,Entry.ce,q];refine qat x.keys.length (fun _=>[]) 0 (fun i e=>mts (x.keys.drop i) (key.drop i)=Q/\look 1 e=some (.slice 1 (key.map c32))/\look 14 e=some (.slice 2 (x.keys.map KeyMatch.c))/\look 15 e=some (.int .i64 x.keys.length)/\look 16 e=some (.int .i64 i)) (fun _=>some (Rt.val (.bool Q))) ?_ ?_ 0 _ _ (Qc _) (Qc _) ?_
 ·rintro i e n L hi hL - ⟨he,h1,h14,h15,h16⟩ ih;have hw:=qag i (by omega);have hk:i<key.length:=by omega
  by_cases z:qgo x.keys[i] key[i]
  ·rw [qw1 hi hk z] at he;unfold qgo at z;simp [c_167_l0,KeyMatch.ce,c32e,h1,h14,h15,h16,hi,hk,hL,z,hw];exact ih _ _ (Qc _) ⟨he,by simp [h1],by simp [h14,KeyMatch.ce],by simp [h15],by simp⟩
  ·rw [qua hi hk z] at he;unfold qgo at z;simp [c_167_l0,KeyMatch.ce,c32e,h1,h14,h15,h16,hi,hk,hL,z,<- he]
 ·rintro e n L hL - ⟨he,h1,h14,h15,h16⟩;rw [q,List.drop_length,List.drop_of_length_le (by omega)] at he;simp [c_167_l0,c_167_k1,h14,h15,h16,hL,<- he,mts]
 ·exact ⟨by simpa using hQ,by simp,by simp,by simp [q],by simp⟩
theorem qwa (x:Entry) (hx:x.keys.length<2^40) (key:List Int):qab Φ f_173 [.agg (Entry.c x),.slice 1 (key.map c32)]=some (.val (.bool (mtF x key))):=by
 rw [qaa (fn:=c_173) rfl rfl];by_cases q:x.keys.length=key.length
 rotate_left
 ·simp [c_173,Entry.ce,mtF,q]
 have hR:mtF x key=mts x.keys key:=by simp [mtF,q]
 rw [hR];generalize hQ:mts x.keys key=Q;simp [c_173,Entry.ce,q];refine qat x.keys.length (fun _=>[]) 0 (fun i e=>mts (x.keys.drop i) (key.drop i)=Q/\look 1 e=some (.slice 1 (key.map c32))/\look 2 e=some (.iptr 4 [Entry.c x] 0 0)/\look 5 e=some (.int .i64 i)) (fun _=>some (Rt.val (.bool Q))) ?_ ?_ 0 _ _ (Qc _) (Qc _) ?_
 ·rintro i e n L hi hL - ⟨he,h1,h2,h5⟩ ih;have hw:=qag i (by omega);have hk:i<key.length:=by omega
  rw [Entry.ce] at h2;by_cases z:qgo x.keys[i] key[i]
  ·rw [qw1 hi hk z] at he;unfold qgo at z;simp [c_173_l0,KeyMatch.ce,c32e,h1,h2,h5,hi,hk,hL,z,hw];exact ih _ _ (Qc _) ⟨he,by simp [h1],by simp [h2,Entry.ce],by simp⟩
  ·rw [qua hi hk z] at he;unfold qgo at z;simp [c_173_l0,KeyMatch.ce,c32e,h1,h2,h5,hi,hk,hL,z,<- he]
 ·rintro e n L hL - ⟨he,h1,h2,h5⟩;rw [q,List.drop_length,List.drop_of_length_le (by omega)] at he;simp [c_173_l0,c_173_k1,h1,h5,q,hL,<- he,mts]
 ·exact ⟨by simpa using hQ,by simp,by simp [Entry.ce],by simp⟩
theorem qtc (r:Rw) (hr:EntS r.entry) (key:List Int):qab Φ f_166 [.agg (Rw.c r),.iptr 1 [[.slice 1 (key.map c32)]] 0 0]=some (.val (.bool (mtF r.entry key))):=by
 rw [qaa (fn:=c_166) rfl rfl];have h:=qx5 r.entry hr.kl key;simp only [Entry.ce] at h;simp [c_166,Rw.ce,h]
def zRow:List AV:=[.int .i64 0,.fslice 2 [],.int .i64 0,.int .i64 0,.fslice 1 []]
def qag7 (N:Nat) (O:List (Nat×AO)) (o:Option Rw) (r:Option (Rt×AH)):Prop:=
 ∃O' N',r=some (.val (.tup [.agg (match o with | some x=>Rw.c x | none=>zRow),.bool o.isSome]),⟨O',N'⟩)/\Kp (fun _=>False) N O O'/\Tail O' N'/\N<=N'
theorem qwp {O:List (Nat×AO)} {N:Nat} (hT:Tail O N) {L:AV} {l:List Rw} (hL:Re O 5 L (l.map Rw.c)) (hll:l.length<2^40) {g:Nat} {caps caps':List AV} (P:Rw->Bool)
  (hcap:∀O' N',(∀j,j<N->look j O'=look j O)->mapO (snap 40 ⟨O',N'⟩) caps=some caps') (hP:∀x∈l,qab Φ g (.agg (Rw.c x)::caps')=some (.val (.bool (P x)))):
  qag7 N O (l.find? P) (qal Φ f_168 [L,.func (.func g) [] caps] ⟨O,N⟩):=by
 rw [qbg (fn:=c_168) rfl rfl];have t0:=hT N (Qb _);have hlen:=hL.len;rw [List.length_map] at hlen;simp [c_168,t0,hlen,-lenOf];generalize hR:l.find? P=R;refine qhs l.length (fun i e h=>∃O' N',h=⟨O',N'⟩/\(l.drop i).find? P=R/\Kp (fun _=>False) N O O'/\Tail O' N'/\N+1<=N'/\look N O'=some (.row 5 [zRow])/\look 1 e=some (.func (.func g) [] caps)/\look 4 e=some (.ptr N 5 0 0)/\look 9 e=some L/\look 10 e=some (.int .i64 l.length)/\look 11 e=some (.int .i64 i)) _ ?_ ?_ 0 _ _ (Qc _) ?_
 ·rintro i e _ K hi hK ⟨O',N',rfl,hf,hk,hT',hN,hb,h1,h4,h9,h10,h11⟩ ih;have hw:=qag i (by omega);have hv':Re O' 5 L (l.map Rw.c):=by
   refine hL.fr fun j hj=>?_
   cases hL with
   | row id _ es0 n hn hl hle ht=>cases hj;exact hk j (hT.lt hl) (by simp)
   | sl=>cases hj
   | fs=>cases hj
   | ap=>cases hj
  have u0:=hT' N' (Qb _);have nN:¬N=N':=by omega
  have hc:=hcap O' (N'+1) fun j hj=>hk j hj (by simp)
  have hp:=hP l[i] (Qd hi);simp only [Rw.ce] at hp;rw [Qi hi,List.find?_cons] at hf;cases hb2:P l[i] with
  | true=>
   rw [hb2] at hf hp;simp only at hf;subst hf;cases hv' with
   | row id' _ es0 n hn hl' hle ht=>
    have h0:=qpg hi ht;simp [c_168_l0,Rw.ce,h1,h4,h9,h10,h11,hi,u0,hn,hl',h0,hc,hp,hb,qad,zRow];exact ⟨_,_,rfl,Kp.setl hk (.inl (Qb _)),qao (hT'.mono (by omega)),by omega⟩
   | _=>
    simp [c_168_l0,Rw.ce,h1,h4,h9,h10,h11,hi,u0,hc,hp,hb,qad,zRow];exact ⟨_,_,rfl,Kp.setl hk (.inl (Qb _)),qao (hT'.mono (by omega)),by omega⟩
  | false=>
   rw [hb2] at hf hp;simp only at hf;cases hv' with
   | row id' _ es0 n hn hl' hle ht=>
    have h0:=qpg hi ht;simp [c_168_l0,Rw.ce,h1,h4,h9,h10,h11,hi,hK,u0,hn,hl',h0,hc,hp,hw];exact ih _ _ ⟨_,_,rfl,hf,hk,hT'.mono (by omega),by omega,by simp [hb,zRow],by simp [h1],by simp [h4],by simp [h9],by simp [h10],by simp⟩
   | _=>
    simp [c_168_l0,Rw.ce,h1,h4,h9,h10,h11,hi,hK,u0,hc,hp,hw];exact ih _ _ ⟨_,_,rfl,hf,hk,hT'.mono (by omega),by omega,by simp [hb,zRow],by simp [h1],by simp [h4],by simp [h9],by simp [h10],by simp⟩
 ·rintro e _ K hK ⟨O',N',rfl,hf,hk,hT',hN,hb,h1,h4,h9,h10,h11⟩;have u0:=hT' N' (Qb _);have nN:¬N'=N:=by omega
  have nN':¬N=N':=by omega
  rw [List.drop_length] at hf;simp only [List.find?_nil] at hf;subst hf;simp [c_168_l0,c_168_k1,h4,h10,h11,hK,u0,hb,qah,qad,nN,nN',zRow];exact ⟨_,_,rfl,Kp.setl (Kp.app hk (by omega)) (.inl (Qb _)),qao (hT'.app1 (Qb _)),by omega⟩
 ·refine ⟨_,_,rfl,by simpa using hR,Kp.app Kp.refl (Qb _),hT.app1 (Qb _),by omega,by simp [qah,t0,zRow],by simp,by simp,by simp,by simp,by simp⟩
def F1 (key:List Int):AV:= .func (.func f_166) [] [.iptr 1 [[.slice 1 (key.map c32)]] 0 0]
theorem qy1 (p:Prg) (f:PrgS p) (t:Int) (key:List Int) (x r:Rw) (hx:EntS x.entry) (hr:EntS r.entry):
  qab Φ f_170 [.agg (Rw.c x),.iptr 1 [[F1 key]] 0 0,.iptr 9 [Prg.c p] 0 0,.iptr 1 [[.int .i64 t]] 0 0,.iptr 5 [Rw.c r] 0 0]=some (.val (.bool (mtF x.entry key&&prc p t x r))):=by
 rw [qaa (fn:=c_170) rfl rfl];have k1:=qtc x hx key;have k2:=qv2 p f t x r hx hr;simp only [Prg.e,Rw.ce] at k1 k2;cases z:mtF x.entry key<;>rw [z] at k1<;>simp [c_170,F1,Prg.e,Rw.ce,k1,k2]
theorem fany {α:Type} (Q:α->Bool):∀l:List α,(l.find? Q).isSome=l.any Q
 | []=>rfl
 | a::l=>by rw [List.find?_cons,List.any_cons];cases h:Q a<;>simp [fany Q l]
theorem qabg (p:Prg) (f:PrgS p) (t:Int) (key:List Int) (l:List Rw) (hl:∀x∈l,EntS x.entry) (hll:l.length<2^40) (r:Rw) (hr:EntS r.entry):
  qab Φ f_169 [.agg (Rw.c r),.iptr 1 [[F1 key]] 0 0,.iptr 1 [[.slice 5 (l.map Rw.c)]] 0 0,.iptr 9 [Prg.c p] 0 0,.iptr 1 [[.int .i64 t]] 0 0]=
   some (.val (.bool (mtF r.entry key&& !(l.any fun x=>mtF x.entry key&&prc p t x r)))):=by
 rw [qaa (fn:=c_169) rfl rfl];have k1:=qtc r hr key;have kf:=fun N=>qwp (O:=[]) (N:=N) (fun _ _=>rfl) (.sl (l.map Rw.c)) hll (g:=f_170) (caps:=[.iptr 1 [[F1 key]] 0 0,.iptr 9 [Prg.c p] 0 0,.iptr 1 [[.int .i64 t]] 0 0,.iptr 5 [Rw.c r] 0 0]) (caps':=[.iptr 1 [[F1 key]] 0 0,.iptr 9 [Prg.c p] 0 0,.iptr 1 [[.int .i64 t]] 0 0,.iptr 5 [Rw.c r] 0 0]) (fun x=>mtF x.entry key&&prc p t x r)
  (fun O' N' _=>by simp [F1,Prg.e,Rw.ce]) (fun x hx=>qy1 p f t key x r (hl x hx) hr)
 have ha:(l.find? fun x=>mtF x.entry key&&prc p t x r).isSome=l.any fun x=>mtF x.entry key&&prc p t x r:=fany _ l
 cases z:mtF r.entry key with
 | false=>
  rw [z] at k1;simp only [Rw.ce] at k1;simp [c_169,F1,Prg.e,Rw.ce,k1]
 | true=>
  rw [z] at k1;obtain ⟨O',N',e,hk,hT',hN'⟩:=kf 0;rw [ha] at e;have u0:=hT' N' (Qb _);simp only [Rw.ce,Prg.e,F1] at k1 e;cases q:l.find? (fun x=>mtF x.entry key&&prc p t x r) with
  | some x=>
   rw [q] at e;simp only [Rw.ce] at e;simp [c_169,F1,Prg.e,Rw.ce,k1,e,u0,qah,qad]
  | none=>
   rw [q] at e;simp only [zRow] at e;simp [c_169,F1,Prg.e,Rw.ce,k1,e,u0,qah,qad]
def bstP (p:Prg) (t:Int) (l:List Rw) (key:List Int):Option Rw:=qsz (fun r=>mtF r.entry key) (prc p t) l
def rowV (o:Option Rw):List AV:=match o with
 | some x=>Rw.c x
 | none=>Rw.c ⟨0,noE⟩
theorem qth (r:Rw) (hr:EntS r.entry):qab Φ f_172 [.agg (Rw.c r)]=some (.val (.agg (Rw.c r))):=by
 rw [qaa (fn:=c_172) rfl rfl];have k1:=qza r.entry.keys hr.kl;have k2:=qo3 r.entry.call.args hr.al;simp [c_172,Rw.ce,k1,k2]
theorem qaa9:qab Φ f_172 [.agg (Rw.c ⟨0,noE⟩)]=some (.val (.agg (Rw.c ⟨0,noE⟩))):=qth _ noE_s
theorem nne6 (N:Nat):¬N=N+1/\¬N=N+1+1/\¬N=N+1+1+1/\¬N=N+1+1+1+1/\¬N=N+1+1+1+1+1/\¬N=N+1+1+1+1+1+1/\¬N+1=N/\¬N+1=N+1+1/\¬N+1=N+1+1+1/\¬N+1=N+1+1+1+1/\¬N+1=N+1+1+1+1+1/\¬N+1=N+1+1+1+1+1+1/\¬N+1+1=N/\¬N+1+1=N+1/\¬N+1+1=N+1+1+1/\¬N+1+1=N+1+1+1+1/\¬N+1+1=N+1+1+1+1+1/\¬N+1+1=N+1+1+1+1+1+1/\¬N+1+1+1=N/\¬N+1+1+1=N+1/\¬N+1+1+1=N+1+1/\¬N+1+1+1=N+1+1+1+1/\¬N+1+1+1=N+1+1+1+1+1/\¬N+1+1+1=N+1+1+1+1+1+1/\¬N+1+1+1+1=N/\¬N+1+1+1+1=N+1/\¬N+1+1+1+1=N+1+1/\¬N+1+1+1+1=N+1+1+1/\¬N+1+1+1+1=N+1+1+1+1+1/\¬N+1+1+1+1=N+1+1+1+1+1+1/\¬N+1+1+1+1+1=N/\¬N+1+1+1+1+1=N+1/\¬N+1+1+1+1+1=N+1+1/\¬N+1+1+1+1+1=N+1+1+1/\¬N+1+1+1+1+1=N+1+1+1+1/\¬N+1+1+1+1+1=N+1+1+1+1+1+1/\¬N+1+1+1+1+1+1=N/\¬N+1+1+1+1+1+1=N+1/\¬N+1+1+1+1+1+1=N+1+1/\¬N+1+1+1+1+1+1=N+1+1+1/\¬N+1+1+1+1+1+1=N+1+1+1+1/\¬N+1+1+1+1+1+1=N+1+1+1+1+1:=by
 omega
def qag5 (N:Nat) (O:List (Nat×AO)) (o:Option Rw) (r:Option (Rt×AH)):Prop:=
 ∃O' N',r=some (.val (.tup [.agg (rowV o),.bool o.isSome]),⟨O',N'⟩)/\Kp (fun _=>False) N O O'/\Tail O' N'/\N<=N'
theorem qad9 (p:Prg) (f:PrgS p) (k:Nat) (hk:k<p.tables.length) (key:List Int) {O:List (Nat×AO)} {N:Nat} (hT:Tail O N) {L:AV} {l:List Rw} (hL:Re O 5 L (l.map Rw.c)) (hll:l.length<2^40) (hl:∀x∈l,EntS x.entry):
  qag5 N O (bstP p k l key) (qal Φ f_83 [.agg (Prg.c p),.int .i64 k,L,.slice 1 (key.map c32)] ⟨O,N⟩):=by
 rw [qbg (fn:=c_83) rfl rfl];have t0:=hT N (Qb _);have t1:=hT (N+1) (by omega);have t2:=hT (N+1+1) (by omega);have t3:=hT (N+1+1+1) (by omega);have t4:=hT (N+1+1+1+1) (by omega);have t5:=hT (N+1+1+1+1+1) (by omega);have hlt:¬((k:Int)<0):=by omega
 have hge:¬((p.tables.length:Int)<=(k:Int)):=by omega
 have hbs:(l.find? fun r=>mtF r.entry key&& !(l.any fun x=>mtF x.entry key&&prc p k x r))=bstP p k l key:=rfl;have hT6:Tail (O++[(N,.row 9 [Prg.c p]),(N+1,.row 1 [[.int .i64 k]]),(N+1+1,.row 1 [[L]]),(N+1+1+1,.row 1 [[.slice 1 (key.map c32)]]),(N+1+1+1+1,.row 5 [zRow]),(N+1+1+1+1+1,.row 1 [[.func (.func f_166) [] [.ptr (N+1+1+1) 1 0 0]]])]) (N+1+1+1+1+1+1):=hT.apps (by omega) (by simp only [List.mem_cons,List.not_mem_nil,or_false];rintro x (rfl | rfl | rfl | rfl | rfl | rfl)<;>simp only<;>omega);have hk6:Kp (fun _=>False) N O (O++[(N,.row 9 [Prg.c p]),(N+1,.row 1 [[.int .i64 k]]),(N+1+1,.row 1 [[L]]),(N+1+1+1,.row 1 [[.slice 1 (key.map c32)]]),(N+1+1+1+1,.row 5 [zRow]),(N+1+1+1+1+1,.row 1 [[.func (.func f_166) [] [.ptr (N+1+1+1) 1 0 0]]])]):=Kp.apps (by simp only [List.mem_cons,List.not_mem_nil,or_false];rintro x (rfl | rfl | rfl | rfl | rfl | rfl)<;>simp only<;>omega);have own:∀j,vid L=some j->j<N:=fun j hj=>by
  cases hL with
  | row id _ es0 n hn hl hle ht=>cases hj;exact hT.lt hl
  | sl=>cases hj
  | fs=>cases hj
  | ap=>cases hj
 have b0:look N (O++[(N,.row 9 [Prg.c p]),(N+1,.row 1 [[.int .i64 k]]),(N+1+1,.row 1 [[L]]),(N+1+1+1,.row 1 [[.slice 1 (key.map c32)]]),(N+1+1+1+1,.row 5 [zRow]),(N+1+1+1+1+1,.row 1 [[.func (.func f_166) [] [.ptr (N+1+1+1) 1 0 0]]])])=some (.row 9 [Prg.c p]):=by simp [qah,t0]
 have b1:look (N+1) (O++[(N,.row 9 [Prg.c p]),(N+1,.row 1 [[.int .i64 k]]),(N+1+1,.row 1 [[L]]),(N+1+1+1,.row 1 [[.slice 1 (key.map c32)]]),(N+1+1+1+1,.row 5 [zRow]),(N+1+1+1+1+1,.row 1 [[.func (.func f_166) [] [.ptr (N+1+1+1) 1 0 0]]])])=some (.row 1 [[.int .i64 k]]):=by simp [qah,t1,nne6 N]
 have b2:look (N+1+1) (O++[(N,.row 9 [Prg.c p]),(N+1,.row 1 [[.int .i64 k]]),(N+1+1,.row 1 [[L]]),(N+1+1+1,.row 1 [[.slice 1 (key.map c32)]]),(N+1+1+1+1,.row 5 [zRow]),(N+1+1+1+1+1,.row 1 [[.func (.func f_166) [] [.ptr (N+1+1+1) 1 0 0]]])])=some (.row 1 [[L]]):=by simp [qah,t2,nne6 N]
 have b3:look (N+1+1+1) (O++[(N,.row 9 [Prg.c p]),(N+1,.row 1 [[.int .i64 k]]),(N+1+1,.row 1 [[L]]),(N+1+1+1,.row 1 [[.slice 1 (key.map c32)]]),(N+1+1+1+1,.row 5 [zRow]),(N+1+1+1+1+1,.row 1 [[.func (.func f_166) [] [.ptr (N+1+1+1) 1 0 0]]])])=some (.row 1 [[.slice 1 (key.map c32)]]):=by simp [qah,t3,nne6 N]
 have b4:look (N+1+1+1+1) (O++[(N,.row 9 [Prg.c p]),(N+1,.row 1 [[.int .i64 k]]),(N+1+1,.row 1 [[L]]),(N+1+1+1,.row 1 [[.slice 1 (key.map c32)]]),(N+1+1+1+1,.row 5 [zRow]),(N+1+1+1+1+1,.row 1 [[.func (.func f_166) [] [.ptr (N+1+1+1) 1 0 0]]])])=some (.row 5 [zRow]):=by simp [qah,t4,nne6 N]
 have b5:look (N+1+1+1+1+1) (O++[(N,.row 9 [Prg.c p]),(N+1,.row 1 [[.int .i64 k]]),(N+1+1,.row 1 [[L]]),(N+1+1+1,.row 1 [[.slice 1 (key.map c32)]]),(N+1+1+1+1,.row 5 [zRow]),(N+1+1+1+1+1,.row 1 [[.func (.func f_166) [] [.ptr (N+1+1+1) 1 0 0]]])])=some (.row 1 [[.func (.func f_166) [] [.ptr (N+1+1+1) 1 0 0]]]):=by simp [qah,t5,nne6 N]
 have hL6:Re (O++[(N,.row 9 [Prg.c p]),(N+1,.row 1 [[.int .i64 k]]),(N+1+1,.row 1 [[L]]),(N+1+1+1,.row 1 [[.slice 1 (key.map c32)]]),(N+1+1+1+1,.row 5 [zRow]),(N+1+1+1+1+1,.row 1 [[.func (.func f_166) [] [.ptr (N+1+1+1) 1 0 0]]])]) 5 L (l.map Rw.c):=hL.fr fun j hj=>hk6 j (own j hj) (by simp)
 obtain ⟨O7,N7,e7,k7,hT7,hN7⟩:=qwp hT6 hL6 hll (g:=f_169) (caps:=[.ptr (N+1+1+1+1+1) 1 0 0,.ptr (N+1+1) 1 0 0,.ptr N 9 0 0,.ptr (N+1) 1 0 0])
  (caps':=[.iptr 1 [[F1 key]] 0 0,.iptr 1 [[.slice 5 (l.map Rw.c)]] 0 0,.iptr 9 [Prg.c p] 0 0,.iptr 1 [[.int .i64 k]] 0 0]) (fun r=>mtF r.entry key&& !(l.any fun x=>mtF x.entry key&&prc p k x r))
  (fun O' N' h=>by
   have c0:=(h N (by omega)).trans b0;have c1:=(h (N+1) (by omega)).trans b1;have c2:=(h (N+1+1) (by omega)).trans b2;have c3:=(h (N+1+1+1) (by omega)).trans b3;have c5:=(h (N+1+1+1+1+1) (by omega)).trans b5;have hL':Re O' 5 L (l.map Rw.c):=hL6.fr fun j hj=>h j (by have:=own j hj;omega)
   have cl:=hL'.snp (N:=N') (n:=38) (qd3 (n:=38) (H:=⟨O',N'⟩) (fun x=>qm6 x) l);rw [Prg.e] at c0 ⊢;simp [c0,c1,c2,c3,c5,cl,F1])
  (fun r hr=>qabg p f k key l hl hll r (hl r hr))
 rw [hbs] at e7;have u7:=hT7 N7 (Qb _);have d4:=k7.lk hT6 b4 (by simp);have e4:¬N7=(N+1+1+1+1):=by omega
 have e4':¬(N+1+1+1+1)=N7:=by omega
 simp only [Prg.e,zRow] at e7 d4;cases hb:bstP p k l key with
 | some r=>
  have hr:EntS r.entry:=hl r (List.mem_of_find?_eq_some hb);have kc:=qth r hr;rw [hb] at e7;simp only [Rw.ce] at e7 kc;simp [c_83,Prg.e,t0,t1,t2,t3,t4,t5,qah,qad,nne6 N,hlt,hge,hL.cells,-AV.cells,frzB,e7,u7,d4,kc,e4,e4'];refine ⟨_,_,by simp [rowV,Rw.ce];rfl,?_,qao (hT7.mono (Nat.le_succ _)),by omega⟩;exact Kp.setl (hk6.trans k7 (by omega)) (.inl (by omega))
 | none=>
  have kc:=qaa9;rw [hb] at e7;simp only [Rw.ce,noE,zRow,List.map_nil] at e7 kc;simp [c_83,Prg.e,t0,t1,t2,t3,t4,t5,qah,qad,nne6 N,hlt,hge,hL.cells,-AV.cells,frzB,e7,u7,d4,kc,e4,e4'];refine ⟨_,_,by simp [rowV,Rw.ce,noE];rfl,?_,qao (hT7.mono (Nat.le_succ _)),by omega⟩;exact Kp.setl (hk6.trans k7 (by omega)) (.inl (by omega))
def lkp (p:Prg) (c:Config) (t:Int) (key:List Int):Option Rw:=if inT p t then bstP p t (qbi c t) key else none
def qag9 (N:Nat) (O:List (Nat×AO)) (o:Option Rw) (r:Option (Rt×AH)):Prop:=
 ∃w O' N',r=some (.val (.tup [.agg w,.bool o.isSome]),⟨O',N'⟩)/\(w=rowV o\/(o=none/\w=zRow))/\Kp (Rs O) N O O'/\Tail O' N'/\N<=N'
theorem qyy {O:List (Nat×AO)} {N:Nat} {S:SV} {p:Prg} {c:Config} (m:StoreM O S p c) (f:PrgS p) (v:CfgV p c) (s:CfgT c) (hT:Tail O N) (t:Int) (key:List Int):
  qag9 N O (lkp p c t key) (qal Φ f_29 [.ptr S.s 15 0 0,.int .i64 t,.slice 1 (key.map c32)] ⟨O,N⟩):=by
 rw [qbg (fn:=c_29) rfl rfl];have t0:=hT N (Qb _);have hT1:Tail (O++[(N,AO.row 5 [zRow])]) (N+1):=hT.app1 (Qb _);have hk1:Kp (fun _=>False) N O (O++[(N,AO.row 5 [zRow])]):=Kp.app Kp.refl (Qb _);have m1:StoreM (O++[(N,AO.row 5 [zRow])]) S p c:=m.kp hT hk1 (by simp);have b1:look N (O++[(N,AO.row 5 [zRow])])=some (.row 5 [zRow]):=by simp [qah,t0]
 have hs:=m1.se;have ht:=qiv (N:=N+1) m1 v.rl t;cases z:inT p t with
 | false=>
  have hR:lkp p c t key=none:=by simp [lkp,z]
  rw [z] at ht;rw [hR];simp only [zRow] at hs ht b1 hT1 hk1;simp [c_29,t0,hs,ht,b1];exact ⟨_,_,_,rfl,.inr ⟨rfl,by simp [zRow]⟩,hk1.mono (fun _ _ h=>h.elim),hT1,by omega⟩
 | true=>
  rw [z] at ht;obtain ⟨k,rfl,hk⟩:=qc6 z;have hk':k<c.rows.length:=by rw [v.rl];exact hk
  obtain ⟨rid,es0,e,hi,hle,⟨hV,g1,g2⟩,_⟩:=m1.tab hk';rw [e] at hs;have hrow:qbi c (k:Int)=c.rows[k]:=qbr hk';have hR:lkp p c k key=bstP p k c.rows[k] key:=by simp [lkp,z,hrow]
  have hll:=(s.rs c.rows[k] (Qd hk'));obtain ⟨O2,N2,e2,k2,hT2,hN2⟩:=qad9 p f k hk key hT1 g2.re hll.1 (fun x hx=>hll.2 x hx);have b2:=k2.lk hT1 b1 (by simp);rw [hR];simp only [zRow,Prg.e] at hs ht b1 b2 e2 hT1 hk1 k2 hi;have rl:(rowV (bstP p k c.rows[k] key)).length=5:=by cases bstP p k c.rows[k] key<;>simp [rowV]
  generalize bstP p k c.rows[k] key=o at*;have rt:rowV o++List.drop 5 [AV.int .i64 0,AV.fslice 2 [],AV.int .i64 0,AV.int .i64 0,AV.fslice 1 []]=rowV o:=by simp
  have rt2:List.take 5 (rowV o)=rowV o:=Qo (by omega);simp [c_29,t0,hs,ht,b1,hi,hk',g1,e2,b2,rl,qad,rt2];refine ⟨_,_,_,rfl,.inl rfl,?_,qao hT2,by omega⟩;exact (Kp.setl (hk1.trans k2 (by omega)) (.inl (Qb _))).mono (fun _ _ h=>h.elim)
theorem qafv (p:Prg) (t:Int) (a:Rw):prc p t a a=false:=by simp [prc]
theorem qqu (p:Prg) (t:Int) (a b:Rw):prc p t a b=true↔b.entry.priority<a.entry.priority\/(a.entry.priority=b.entry.priority/\(pfxZ p t b.entry<pfxZ p t a.entry\/(pfxZ p t a.entry=pfxZ p t b.entry/\a.id<b.id))):=by
 unfold prc;split
 ·simp;omega
 ·split
  ·simp;omega
  ·simp;omega
theorem qaid (p:Prg) (t:Int) (a b c:Rw) (h1:prc p t a b=true) (h2:prc p t b c=true):prc p t a c=true:=by
 rw [qqu] at*;omega
theorem qafw (p:Prg) (t:Int) (a b:Rw) (h:a.id≠b.id):prc p t a b=true\/prc p t b a=true:=by
 rw [qqu,qqu];omega
theorem qahb (p:Prg) (t:Int) (l:List Rw) (hl:l.Pairwise fun a b=>a.id<b.id) (key:List Int):bstP p t l key=qxe (fun r=>mtF r.entry key) (prc p t) l:=by
 refine qad8 (qafv p t) (qaid p t) l fun a ha b hb hab=>qafw p t a b fun hid=>hab ?_
 obtain ⟨i,hi,rfl⟩:=Qn.1 ha;obtain ⟨j,hj,rfl⟩:=Qn.1 hb;rw [List.pairwise_iff_getElem] at hl;rcases Nat.lt_trichotomy i j with h | h | h
 ·have:=hl i j hi hj h;omega
 ·subst h;rfl
 ·have:=hl j i hj hi h;omega
def rv (o:Option Rw):List AV:=match o with
 | some x=>Rw.c x
 | none=>zRow
def oB (p:Prg) (t:Int) (key:List Int) (l:List Rw):Option Rw:=l.foldl (qda (fun r=>mtF r.entry key) (prc p t)) none
theorem qafk (p:Prg) (t:Int) (key:List Int) (l:List Rw) (r:Rw):oB p t key (l++[r])=qda (fun r=>mtF r.entry key) (prc p t) (oB p t key l) r:=by simp [oB]
theorem qabh {α:Type} (m:α->Bool) (pr:α->α->Bool) (o:Option α) (r:α):qda m pr o r=some r\/qda m pr o r=o:=by
 unfold qda;generalize (m r&&(match o with | none=>true | some b=>pr r b))=c;cases c<;>simp
theorem qty {α:Type} (m:α->Bool) (pr:α->α->Bool):∀(l:List α) (o:Option α) (x:α),l.foldl (qda m pr) o=some x->x∈l\/o=some x
 | [],o,x,h=> .inr h
 | a::l,o,x,h=>by
  rw [List.foldl_cons] at h;rcases qty m pr l _ x h with h | h
  ·exact .inl (List.mem_cons_of_mem _ h)
  ·rcases qabh m pr o a with e | e
   ·rw [e] at h;rw [Option.some.inj h];exact .inl (by simp)
   ·rw [e] at h;exact .inr h
theorem qah1 (p:Prg) (t:Int) (key:List Int) (l:List Rw) (x:Rw) (h:oB p t key l=some x):x∈l:=by
 rcases qty _ _ l none x h with h | h
 ·exact h
 ·cases h
theorem qacp (p:Prg) (f:PrgS p) (k:Nat) (hk:k<p.tables.length) (key:List Int) (l:List Rw) (hll:l.length<2^40) (hl:∀x∈l,EntS x.entry):
  qab Φ f_84 [.agg (Prg.c p),.int .i64 k,.slice 5 (l.map Rw.c),.slice 1 (key.map c32)]=some (.val (.tup [.agg (rowV (oB p k key l)),.bool (oB p k key l).isSome])):=by
 rw [qaa (fn:=c_84) rfl rfl];simp [c_84,Prg.e];refine qat l.length (fun i=>[(0,.row 5 [zRow]),(1,.row 5 [rv (oB p k key (l.take i))])]) 2 (fun i e=>look 1 e=some (.int .i64 k)/\look 2 e=some (.slice 5 (l.map Rw.c))/\look 3 e=some (.slice 1 (key.map c32))/\look 4 e=some (.iptr 9 [Prg.c p] 0 0)/\look 8 e=some (.ptr 0 5 0 0)/\look 10 e=some (.ptr 1 5 0 0)/\look 11 e=some (.bool (oB p k key (l.take i)).isSome)/\look 12 e=some (.int .i64 i))
  (fun _=>some (Rt.val (.tup [.agg (rowV (oB p k key l)),.bool (oB p k key l).isSome]))) ?_ ?_ 0 _ _ (Qc _) (Qb _) ?_
 ·rintro i e n L hi hL hn ⟨h1,h2,h3,h4,h8,h10,h11,h12⟩ ih;have hw:=qag i (by omega);have hs:oB p k key (l.take (i+1))=qda (fun r=>mtF r.entry key) (prc p k) (oB p k key (l.take i)) l[i]:=by
   rw [Qh hi,qafk]
  have hm:=qwa l[i].entry (hl _ (Qd hi)).kl key;rw [Prg.e] at h4;simp only [Entry.ce] at hm;have hlt:¬((k:Int)<0):=by omega
  have hlt':(0:Int)<=(k:Int):=by omega
  have fin:∀o,oB p k key (l.take (i+1))=o->∀e',look 1 e'=some (.int .i64 k)->look 2 e'=some (.slice 5 (l.map Rw.c))->look 3 e'=some (.slice 1 (key.map c32))->look 4 e'=some (.iptr 9 [Prg.c p] 0 0)->look 8 e'=some (.ptr 0 5 0 0)->look 10 e'=some (.ptr 1 5 0 0)->look 11 e'=some (.bool o.isSome)->look 12 e'=some (.int .i64 ((i+1:Nat):Int))->∀n',2<=n'->
    go Φ (finP [.cell 8 true 5,.tmp 9]) L .normal ⟨e',⟨[(0,.row 5 [zRow]),(1,.row 5 [rv o])],n'⟩⟩=some (Rt.val (.tup [.agg (rowV (oB p k key l)),.bool (oB p k key l).isSome])):=fun o ho e' g1 g2 g3 g4 g8 g10 g11 g12 n' hn'=>by
   rw [<- ho];exact ih e' n' hn' ⟨g1,g2,g3,g4,g8,g10,by rw [ho];exact g11,g12⟩
  cases ho:oB p k key (l.take i) with
  | none=>
   rw [ho] at hs h11;cases hq:mtF l[i].entry key with
   | false=>
    rw [hq] at hm;have hs':oB p k key (l.take (i+1))=none:=by rw [hs];simp [qda,hq]
    simp [c_84_l0,Rw.ce,h1,h2,h3,h4,h8,h10,h11,h12,hi,hk,hL,hm,hw];exact fin none hs' _ (by simp [h1]) (by simp [h2,Rw.ce]) (by simp [h3]) (by simp [h4,Prg.e]) (by simp [h8]) (by simp [h10]) (by simp [h11]) (by simp) _ (by omega)
   | true=>
    rw [hq] at hm;have hs':oB p k key (l.take (i+1))=some l[i]:=by rw [hs];simp [qda,hq]
    simp [c_84_l0,Rw.ce,h1,h2,h3,h4,h8,h10,h11,h12,hi,hk,hL,hm,hw,rv,zRow];exact fin (some l[i]) hs' _ (by simp [h1]) (by simp [h2,Rw.ce]) (by simp [h3]) (by simp [h4,Prg.e]) (by simp [h8]) (by simp [h10]) (by simp) (by simp) _ (by omega)
  | some x=>
   rw [ho] at hs h11;have hx:=qah1 p k key _ x ho;have hx':x∈l:=Qu hx;have hp:=qu1 p f k l[i] x (hl _ (Qd hi)) (hl x hx');simp only [Rw.ce,Prg.e] at hp;cases hq:mtF l[i].entry key with
   | false=>
    rw [hq] at hm;have hs':oB p k key (l.take (i+1))=some x:=by rw [hs];simp [qda,hq]
    simp [c_84_l0,Rw.ce,h1,h2,h3,h4,h8,h10,h11,h12,hi,hk,hL,hm,hw];exact fin (some x) hs' _ (by simp [h1]) (by simp [h2,Rw.ce]) (by simp [h3]) (by simp [h4,Prg.e]) (by simp [h8]) (by simp [h10]) (by simp [h11]) (by simp) _ (by omega)
   | true=>
    rw [hq] at hm;cases hb:prc p k l[i] x with
    | false=>
     rw [hb] at hp;have hs':oB p k key (l.take (i+1))=some x:=by rw [hs];simp [qda,hq,hb]
     simp [c_84_l0,Rw.ce,h1,h2,h3,h4,h8,h10,h11,h12,hi,hk,hL,hm,hw,rv,zRow,hp];exact fin (some x) hs' _ (by simp [h1]) (by simp [h2,Rw.ce]) (by simp [h3]) (by simp [h4,Prg.e]) (by simp [h8]) (by simp [h10]) (by simp [h11]) (by simp) _ (by omega)
    | true=>
     rw [hb] at hp;have hs':oB p k key (l.take (i+1))=some l[i]:=by rw [hs];simp [qda,hq,hb]
     simp [c_84_l0,Rw.ce,h1,h2,h3,h4,h8,h10,h11,h12,hi,hk,hL,hm,hw,rv,zRow,hp];exact fin (some l[i]) hs' _ (by simp [h1]) (by simp [h2,Rw.ce]) (by simp [h3]) (by simp [h4,Prg.e]) (by simp [h8]) (by simp [h10]) (by simp) (by simp) _ (by omega)
 ·rintro e n L hL hn ⟨h1,h2,h3,h4,h8,h10,h11,h12⟩;rw [List.take_length] at h11 ⊢;cases ho:oB p k key l with
  | none=>
   rw [ho] at h11;simp [c_84_l0,c_84_k1,h2,h8,h10,h11,h12,hL,rv,zRow,rowV,Rw.ce,noE]
  | some x=>
   rw [ho] at h11;simp [c_84_l0,c_84_k1,h2,h8,h10,h11,h12,hL,rv,zRow,rowV,Rw.ce]
 ·simp [oB,Prg.e]
theorem qyh (p:Prg) (f:PrgS p) {c:Config} (v:CfgV p c) (s:CfgT c) (t:Int) (key:List Int):
  qab Φ f_30 [.agg (Prg.c p),.agg (Config.c c),.int .i64 t,.slice 1 (key.map c32)]=some (.val (.tup [.agg (rowV (lkp p c t key)),.bool (lkp p c t key).isSome])):=by
 rw [qaa (fn:=c_30) rfl rfl];by_cases z0:t<0
 ·have hR:lkp p c t key=none:=by simp [lkp,inT];omega
  simp [c_30,Prg.e,Config.ce,hR,z0,rowV,Rw.ce,noE]
 by_cases z1:(p.tables.length:Int)<=t
 ·have hR:lkp p c t key=none:=by simp [lkp,inT];omega
  simp [c_30,Prg.e,Config.ce,hR,z0,z1,rowV,Rw.ce,noE]
 obtain ⟨k,rfl⟩:∃k:Nat,t=k:=⟨t.toNat,by omega⟩;have hk:k<p.tables.length:=by omega
 have hk':k<c.rows.length:=by rw [v.rl];exact hk
 have hll:=s.rs c.rows[k] (Qd hk');have hR:lkp p c k key=oB p k key c.rows[k]:=by
  simp only [lkp,qg4 hk,if_true,qbr hk'];exact qahb p k c.rows[k] (v.at hk).inc key
 have kb:=qacp p f k hk key c.rows[k] hll.1 (fun x hx=>hll.2 x hx);rw [hR];generalize oB p k key c.rows[k]=o at*;have rl:(rowV o).length=5:=by cases o<;>simp [rowV]
 have rt2:List.take 5 (rowV o)=rowV o:=Qo (by omega);simp only [Prg.e] at kb;cases o with
 | none=>
  simp only [rowV,noE,Rw.ce,List.map_nil] at kb;simp [c_30,Prg.e,Config.ce,cSe,z0,z1,hk',kb,rowV,Rw.ce,noE]
 | some x=>
  simp only [rowV,Rw.ce] at kb;simp [c_30,Prg.e,Config.ce,cSe,z0,z1,hk',kb,rowV,Rw.ce]
theorem qab5 {p:Prg} (f:PrgS p) (hv:∀t∈p.tables,∀v∈t.dflt.args,ok32 0 v) {c:Config} (v:CfgV p c) (s:CfgT c) (x:Call25) (hx:Call25S x):
  qab Φ f_27 [.agg (Prg.c p),.agg (Config.c c),.agg (Call25.c x)]=some (.val (.tup [.agg (Config.c (doC p c x)),.int .i64 (doI p c x),.int .i64 (doE p c x)])):=by
 rw [qaa (fn:=c_27) rfl rfl];have h1:=hx.o.e;have h2:=hx.o.c;simp only [Call25.op] at h1 h2;obtain ⟨q0,q1,q2,q3,hC,hq,hq2⟩:=cfg4 c;obtain ⟨r0,r1,r2,r3,hD,hr,hr2⟩:=cfg4 (doC p c x);by_cases z1:x.kind=0
 ·have h:=qyb f hv v s x.table x.entry h1;have e1:doE p c x=insE p c x.table x.entry:=by simp [doE,Call25.mu,Call25.op,xoE,z1]
  have e2:(if insE p c x.table x.entry=0 then insC c x.table x.entry else c)=doC p c x:=by simp [doC,Call25.mu,Call25.op,xoC,xoE,xoD,z1]
  have e3:(if insE p c x.table x.entry=0 then qcd c x.table else 0)=doI p c x:=by simp [doI,Call25.mu,Call25.op,xoI,xoE,z1]
  rw [e2,e3,<- e1] at h;rw [hD,hC] at*;simp only [Prg.e,Entry.ce] at h;simp [c_27,Prg.e,Call25.ce,z1,h,hq,hq2,hr,hr2]
 by_cases z2:x.kind=1
 ·have h:=qyc f hv v s x.table x.id x.call h2.al h2.ar;have e1:doE p c x=modE p c x.table x.id x.call:=by simp [doE,Call25.mu,Call25.op,xoE,z2]
  have e2:(if modE p c x.table x.id x.call=0 then modC c x.table x.id x.call else c)=doC p c x:=by simp [doC,Call25.mu,Call25.op,xoC,xoE,xoD,z2]
  have e3:doI p c x=0:=by simp [doI,Call25.mu,Call25.op,xoI,z2]
  rw [e2,<- e1] at h;rw [e3,hD,hC] at*;simp only [Prg.e,ActionCall.ce] at h;simp [c_27,Prg.e,Call25.ce,z2,h,hq,hq2,hr,hr2]
 by_cases z3:x.kind=2
 ·have h:=qya f hv v s x.table x.id;have e1:doE p c x=delE p c x.table x.id:=by simp [doE,Call25.mu,Call25.op,xoE,z3]
  have e2:(if delE p c x.table x.id=0 then delC c x.table x.id else c)=doC p c x:=by simp [doC,Call25.mu,Call25.op,xoC,xoE,xoD,z3]
  have e3:doI p c x=0:=by simp [doI,Call25.mu,Call25.op,xoI,z3]
  rw [e2,<- e1] at h;rw [e3,hD,hC] at*;simp only [Prg.e] at h;simp [c_27,Prg.e,Call25.ce,z3,h,hq,hq2,hr,hr2]
 by_cases z4:x.kind=3
 ·have h:=qqz f hv v s x.table x.call h2.al h2.ar;have e1:doE p c x=defE p x.table x.call:=by simp [doE,Call25.mu,Call25.op,xoE,z4]
  have e2:(if defE p x.table x.call=0 then defC c x.table x.call else c)=doC p c x:=by simp [doC,Call25.mu,Call25.op,xoC,xoE,xoD,z4]
  have e3:doI p c x=0:=by simp [doI,Call25.mu,Call25.op,xoI,z4]
  rw [e2,<- e1] at h;rw [e3,hD,hC] at*;simp only [Prg.e,ActionCall.ce] at h;simp [c_27,Prg.e,Call25.ce,z4,h,hq,hq2,hr,hr2]
 ·have e1:doE p c x=0:=by simp [doE,Call25.mu,z1,z2,z3,z4]
  have e2:doC p c x=c:=by simp [doC,Call25.mu,z1,z2,z3,z4]
  have e3:doI p c x=0:=by simp [doI,Call25.mu,z1,z2,z3,z4]
  rw [e1,e2,e3,hC];simp [c_27,Prg.e,Call25.ce,z1,z2,z3,z4,hq,hq2]
theorem aoC (c:Config):aoEq (some (.row 4 [Config.c c])) (some (.row 4 [Config.c c]))=true:=by
 have h:∀x∈Config.c c,avEq 40 x x=true:=by
  rw [Config.ce];simp only [List.mem_cons,List.not_mem_nil,or_false];rintro x (rfl | rfl | rfl | rfl)
  ·refine Rf.map _ _ _ _ fun l _=>?_
   simp only [cS,List.mem_cons,List.not_mem_nil,or_false];rintro c rfl;refine Rf.map _ _ _ _ fun r _=>?_
   rw [Rw.ce];simp only [List.mem_cons,List.not_mem_nil,or_false];rintro c (rfl | rfl | rfl | rfl | rfl)
   ·exact Rf.int _ _ _
   ·exact Rf.map _ _ _ _ fun x _=>by simp [KeyMatch.c,Rf.int]
   ·exact Rf.int _ _ _
   ·exact Rf.int _ _ _
   ·exact Rf.map _ _ _ _ fun x _=>qlc _ x
  ·exact Rf.map _ _ _ _ fun x _=>rf_I _ x
  ·refine Rf.map _ _ _ _ fun x _=>?_
   rw [ActionCall.ce];simp only [List.mem_cons,List.not_mem_nil,or_false];rintro c (rfl | rfl)
   ·exact Rf.int _ _ _
   ·exact Rf.map _ _ _ _ fun x _=>qlc _ x
  ·refine Rf.map _ _ _ _ fun l _=>?_
   simp only [cS,List.mem_cons,List.not_mem_nil,or_false];rintro c rfl;exact Rf.map _ _ _ _ fun x _=>qlc _ x
 have h1:=qgi (avEq 40) _ h;unfold aoEq;simp [qai,eqL,h1]
structure RnI (p:Prg) (x:Case25) (s0 B:Nat) (i:Nat) (e:Env) (O:List (Nat×AO)) (N:Nat):Prop where
 tl:Tail O N
 st:∃(S:SV) (c:Config),StoreM O S p c/\S.s=s0/\¬S.own B/\CfgV p c/\CfgT c/\look B O=some (.row 4 [Config.c c])
 e1:look 1 e=some (.iptr 14 [Case25.c x] 0 0)
 e3:look 3 e=some (.ptr s0 15 0 0)
 e4:look 4 e=some (.ptr B 4 0 0)
 e5:look 5 e=some (.int .i64 i)
theorem rn0 (x:Case25) (op:x.p.Ok qa5) (hl60:x.calls.length<=60) (hl:∀o∈x.calls,Call25S o) {s0 B:Nat} {R:Option Rt}
  (hK:∀e O N,RnI x.p x s0 B x.calls.length e O N->go Φ (finP [.tmp 2]) [.c c_4_k1] .normal ⟨e,⟨O,N⟩⟩=R):
  ∀e O N,RnI x.p x s0 B 0 e O N->go Φ (finP [.tmp 2]) [.c (.loop c_4_l0),.b 0,.c c_4_k1] .normal ⟨e,⟨O,N⟩⟩=R:=by
 have f:=qee op;have hp:=f.t;have hv:=qpp op;intro e O N I0;refine qds x.calls.length (fun i e h=>∃O N,h=⟨O,N⟩/\RnI x.p x s0 B i e O N) (fun _=>R) ?_ ?_ 0 e _ (Qc _) ⟨O,N,rfl,I0⟩
 ·rintro i e _ L hi hL ⟨O,N,rfl,I⟩ ih;obtain ⟨S,c,m0,es,nB,v,s,hB⟩:=I.st;have hT0:=I.tl;have hw:=qag i (by omega);have hxo:=hl _ (Qd hi);have e1:=I.e1;rw [Case25.ce] at e1;have u0:=hT0 N (Qb _);have u1:=hT0 (N+1) (by omega);have hBN:=hT0.lt hB;generalize hy:x.calls[i]=y at*;have v1:=qin v y;have s1:=qh4 v s hp y hxo;have km:=qab5 f hv v s y hxo;have hT1:Tail O (N+1+1):=hT0.mono (by omega);obtain ⟨S1,O1,N1,c1,m1,es1,f1,k1,hT2,hN1⟩:=qo5 m0 f v s hT1 y hxo;rw [es] at c1 es1;have nB1:¬S1.own B:=fun h=>by
   rcases f1 B h with h | h
   ·exact nB h
   ·omega
  have hB1:=k1.lk hT1 hB (fun h=>h.elim nB (fun h=>by have h:look B O=some .res:=h;rw [hB] at h;cases h));have hT3:Tail (setl B (.row 4 [Config.c (doC x.p c y)]) O1) N1:=qao hT2;have m2:StoreM (setl B (.row 4 [Config.c (doC x.p c y)]) O1) S1 x.p (doC x.p c y):=m1.fr fun j hj=>by
   rw [qad,if_neg];intro h;exact nB1 (h ▸ hj)
  have hB2:look B (setl B (.row 4 [Config.c (doC x.p c y)]) O1)=some (.row 4 [Config.c (doC x.p c y)]):=by simp [qad,hB1]
  obtain ⟨w,O3,N3,c3,hwo,k3,hT4,hN3⟩:=qyy m2 f v1 s1 hT3 y.table y.key;rw [es1] at c3;have hB3:=k3.lk hT3 hB2 (fun h=>by have h:look B (setl B (.row 4 [Config.c (doC x.p c y)]) O1)=some .res:=h;rw [hB2] at h;cases h);have m3:StoreM O3 S1 x.p (doC x.p c y):=m2.kpR hT3 k3;have kl:=qyh x.p f v1 s1 y.table y.key;have hLn:=fun M=>qaha (N:=M) m3 v1.rl y.table
  have u3:=hT4 N3 (Qb _);have u4:=hT4 (N3+1) (by omega);have kq:=qhu noE noE ⟨by simp [noE],by simp [noE]⟩;simp only [decide_true,Entry.ce,noE,List.map_nil] at kq;have hrl:=v1.rl;generalize hd:doC x.p c y=d at*;have hoS:∀r,lkp x.p d y.table y.key=some r->EntS r.entry:=fun r hr=>by
   unfold lkp at hr;split at hr
   ·have hm:=List.mem_of_find?_eq_some hr;obtain ⟨l,hl1,hl2⟩:=qpv hm;exact (s1.rs l hl1).2 r hl2
   ·cases hr
  have hin:inT x.p y.table=(decide (0<=y.table)&&decide (y.table<x.p.tables.length)):=rfl;rw [es1] at hLn;simp only [Config.ce,Prg.e,Call25.ce] at km c1 hB hB1 c3 kl hB3;generalize lkp x.p d y.table y.key=o at*;by_cases z0:y.table<0
  ·have hn:inT x.p y.table=false:=by rw [hin];simp;omega
   simp only [hn,Bool.false_eq_true,if_false] at hLn;have z1:¬(0<=y.table):=by omega
   rcases hwo with rfl | ⟨ho,rfl⟩
   ·cases o with
    | none=>
     simp only [rowV,Rw.ce,noE,Option.isSome_none,List.map_nil] at c3 kl kq;simp [c_4_l0,e1,I.e3,I.e4,I.e5,hi,hy,hL,u0,u1,u3,u4,qah,qad,Call25.ce,hB,km,c1,hB1,c3,hB3,kl,kq,hLn,hw,z1];exact ih _ _ ⟨_,_,rfl,⟨hT4.mono (by omega),⟨S1,d,m3,es1,nB1,v1,s1,by rw [hB3,Config.ce]⟩,by simp [e1,Case25.ce,Call25.ce],by simp [I.e3],by simp [I.e4],by simp⟩⟩
    | some r=>
     have kq:=qhu r.entry r.entry ⟨(hoS r rfl).kl,(hoS r rfl).al⟩;simp only [decide_true,Entry.ce] at kq;simp only [rowV,Rw.ce,Option.isSome_some] at c3 kl;simp [c_4_l0,e1,I.e3,I.e4,I.e5,hi,hy,hL,u0,u1,u3,u4,qah,qad,Call25.ce,hB,km,c1,hB1,c3,hB3,kl,kq,hLn,hw,z1];exact ih _ _ ⟨_,_,rfl,⟨hT4.mono (by omega),⟨S1,d,m3,es1,nB1,v1,s1,by rw [hB3,Config.ce]⟩,by simp [e1,Case25.ce,Call25.ce],by simp [I.e3],by simp [I.e4],by simp⟩⟩
   ·subst ho;simp only [rowV,Rw.ce,noE,zRow,Option.isSome_none,List.map_nil] at c3 kl kq;simp [c_4_l0,e1,I.e3,I.e4,I.e5,hi,hy,hL,u0,u1,u3,u4,qah,qad,Call25.ce,hB,km,c1,hB1,c3,hB3,kl,kq,hLn,hw,z1];exact ih _ _ ⟨_,_,rfl,⟨hT4.mono (by omega),⟨S1,d,m3,es1,nB1,v1,s1,by rw [hB3,Config.ce]⟩,by simp [e1,Case25.ce,Call25.ce],by simp [I.e3],by simp [I.e4],by simp⟩⟩
  by_cases z2:(x.p.tables.length:Int)<=y.table
  ·have hn:inT x.p y.table=false:=by rw [hin];simp;omega
   simp only [hn,Bool.false_eq_true,if_false] at hLn;have z1:0<=y.table:=by omega
   have z3:¬(y.table<(d.rows.length:Int)):=by omega
   rcases hwo with rfl | ⟨ho,rfl⟩
   ·cases o with
    | none=>
     simp only [rowV,Rw.ce,noE,Option.isSome_none,List.map_nil] at c3 kl kq;simp [c_4_l0,e1,I.e3,I.e4,I.e5,hi,hy,hL,u0,u1,u3,u4,qah,qad,Call25.ce,hB,km,c1,hB1,c3,hB3,kl,kq,hLn,hw,z1,z3];exact ih _ _ ⟨_,_,rfl,⟨hT4.mono (by omega),⟨S1,d,m3,es1,nB1,v1,s1,by rw [hB3,Config.ce]⟩,by simp [e1,Case25.ce,Call25.ce],by simp [I.e3],by simp [I.e4],by simp⟩⟩
    | some r=>
     have kq:=qhu r.entry r.entry ⟨(hoS r rfl).kl,(hoS r rfl).al⟩;simp only [decide_true,Entry.ce] at kq;simp only [rowV,Rw.ce,Option.isSome_some] at c3 kl;simp [c_4_l0,e1,I.e3,I.e4,I.e5,hi,hy,hL,u0,u1,u3,u4,qah,qad,Call25.ce,hB,km,c1,hB1,c3,hB3,kl,kq,hLn,hw,z1,z3];exact ih _ _ ⟨_,_,rfl,⟨hT4.mono (by omega),⟨S1,d,m3,es1,nB1,v1,s1,by rw [hB3,Config.ce]⟩,by simp [e1,Case25.ce,Call25.ce],by simp [I.e3],by simp [I.e4],by simp⟩⟩
   ·subst ho;simp only [rowV,Rw.ce,noE,zRow,Option.isSome_none,List.map_nil] at c3 kl kq;simp [c_4_l0,e1,I.e3,I.e4,I.e5,hi,hy,hL,u0,u1,u3,u4,qah,qad,Call25.ce,hB,km,c1,hB1,c3,hB3,kl,kq,hLn,hw,z1,z3];exact ih _ _ ⟨_,_,rfl,⟨hT4.mono (by omega),⟨S1,d,m3,es1,nB1,v1,s1,by rw [hB3,Config.ce]⟩,by simp [e1,Case25.ce,Call25.ce],by simp [I.e3],by simp [I.e4],by simp⟩⟩
  obtain ⟨k,hk⟩:∃k:Nat,y.table=k:=⟨y.table.toNat,by omega⟩;have hkt:k<d.rows.length:=by omega
  have hn:inT x.p y.table=true:=by rw [hin];simp;omega
  simp only [hn,if_true,hk,qbr hkt] at hLn;simp only [hk] at c1 c3 kl km;have hn':inT x.p (k:Int)=true:=by rw [<- hk];exact hn
  rcases hwo with rfl | ⟨ho,rfl⟩
  ·cases o with
   | none=>
    simp only [rowV,Rw.ce,noE,Option.isSome_none,List.map_nil] at c3 kl kq;simp [c_4_l0,e1,I.e3,I.e4,I.e5,hi,hy,hL,u0,u1,u3,u4,qah,qad,Call25.ce,hB,km,c1,hB1,c3,hB3,kl,kq,hLn,hw,hk,hkt,cSe,hn'];exact ih _ _ ⟨_,_,rfl,⟨hT4.mono (by omega),⟨S1,d,m3,es1,nB1,v1,s1,by rw [hB3,Config.ce]⟩,by simp [e1,Case25.ce,Call25.ce],by simp [I.e3],by simp [I.e4],by simp⟩⟩
   | some r=>
    have kq:=qhu r.entry r.entry ⟨(hoS r rfl).kl,(hoS r rfl).al⟩;simp only [decide_true,Entry.ce] at kq;simp only [rowV,Rw.ce,Option.isSome_some] at c3 kl;simp [c_4_l0,e1,I.e3,I.e4,I.e5,hi,hy,hL,u0,u1,u3,u4,qah,qad,Call25.ce,hB,km,c1,hB1,c3,hB3,kl,kq,hLn,hw,hk,hkt,cSe,hn'];exact ih _ _ ⟨_,_,rfl,⟨hT4.mono (by omega),⟨S1,d,m3,es1,nB1,v1,s1,by rw [hB3,Config.ce]⟩,by simp [e1,Case25.ce,Call25.ce],by simp [I.e3],by simp [I.e4],by simp⟩⟩
  ·subst ho;simp only [rowV,Rw.ce,noE,zRow,Option.isSome_none,List.map_nil] at c3 kl kq;simp [c_4_l0,e1,I.e3,I.e4,I.e5,hi,hy,hL,u0,u1,u3,u4,qah,qad,Call25.ce,hB,km,c1,hB1,c3,hB3,kl,kq,hLn,hw,hk,hkt,cSe,hn'];exact ih _ _ ⟨_,_,rfl,⟨hT4.mono (by omega),⟨S1,d,m3,es1,nB1,v1,s1,by rw [hB3,Config.ce]⟩,by simp [e1,Case25.ce,Call25.ce],by simp [I.e3],by simp [I.e4],by simp⟩⟩
 ·rintro e _ L hL ⟨O,N,rfl,I⟩;have e1:=I.e1;rw [Case25.ce] at e1;simp [c_4_l0,e1,I.e5,hL];exact hK _ _ _ ⟨I.tl,I.st,by simp [I.e1],by simp [I.e3],by simp [I.e4],by simp [I.e5]⟩
theorem rn2 (x:Case25) (op:x.p.Ok qa5) (hc:(pre x.p.control).length<2^40 - 1) {s0 B i:Nat} (e:Env) (O:List (Nat×AO)) (N:Nat) (I:RnI x.p x s0 B i e O N):
  go Φ (finP [.tmp 2]) [.c c_4_k1] .normal ⟨e,⟨O,N⟩⟩=some (.val (.bool true)):=by
 have f:=qee op;obtain ⟨S,c,m0,es,nB,v,s,hB⟩:=I.st;have e1:=I.e1;rw [Case25.ce] at e1;have hT0:=I.tl;have hT1:Tail O (N+1):=hT0.mono (Nat.le_succ _);obtain ⟨w1,w2,w3,w4,V,O1,N1,c1,n1,f1,k1,hT2,hN1⟩:=qc9 (v.u s) hT1 m0;have m1:StoreM O1 S x.p c:=m0.kp hT1 k1 (by simp);obtain ⟨y1,y2,y3,y4,Y,O2,N2,c2,n2,f2,k2,hT3,hN2⟩:=qc9 (v.u s) hT2 m1;rw [es] at c1 c2;have hB1:=k1.lk hT1 hB (by simp);have hB2:=k2.lk hT2 hB1 (by simp);have a1:=n1.snpR (n:=35) (N:=N1);have a2:=n1.snpN (n:=35) (N:=N1);have a3:=n1.snpD (n:=35) (N:=N1);have a4:=n1.snpG (n:=35) (N:=N1);have b1:=n2.snpR (n:=35) (N:=N2);have b2:=n2.snpN (n:=35) (N:=N2);have b3:=n2.snpD (n:=35) (N:=N2);have b4:=n2.snpG (n:=35) (N:=N2);have q1:=qgq c c s.s;have q2:=qwk x.p f hc c s;rw [(qhn x.p c).2 v] at q2;have hao:=aoC c;simp only [decide_true,Config.ce,Prg.e] at q1 q2 hB hB1 hB2 hao;simp [c_4_k1,e1,I.e3,I.e4,c1,c2,hB,hB1,hB2,a1,a2,a3,a4,b1,b2,b3,b4,q1,q2,hao,qdp]
theorem qsi (x:Case25) (o:x.Ok qa5):qab Φ f_4 [.agg (Case25.c x)]=some (.val (.bool true)):=by
 obtain ⟨op,oc,ol⟩:=o;have f:=qee op;have s:=qqa oc;have hv:=qpp op;obtain ⟨b,hb⟩:=qu3 x.p x.cc (qid op) s.s;have hpre:=qq3 x.p x.cc (qid op);have kf:=qpb x.calls;have hbl:=hb;rw [qaa (fn:=c_4) rfl rfl];cases b with
 | false=>
  simp only [Prg.e,Config.ce] at hb;simp [c_4,Case25.ce,hb,qdp]
 | true=>
 have hc:(pre x.p.control).length<2^40 - 1:=by have:=hpre hb;omega
 have kc:=qlb x.p f hv hc x.cc s;simp only [Prg.e,Config.ce] at hb kc;cases hF:fewF x.calls with
 | false=>
  rw [hF] at kf;simp [c_4,Case25.ce,hb,kf,qdp]
 | true=>
 rw [hF] at kf;by_cases z:cfgE x.p x.cc=0
 rotate_left
 ·simp [c_4,Case25.ce,hb,kf,kc,z,qdp]
 rw [z] at kc;have v:=(qhn x.p x.cc).1 z;obtain ⟨S,O1,N1,e,m1,w1,k1,hT1,hN1⟩:=qma x op hc s hbl hF z (O:=[]) (N:=0) (Tail.nil 0);have hl60:=qod hF;have hl:∀o∈x.calls,Call25S o:=fun o ho=>qkk (ol.2 o ho)
 have t1:=hT1 N1 (Qb _);have nB:¬S.own N1:=fun h=>by have:=m1.lt hT1 h;omega
 simp only [Case25.ce] at e;simp [c_4,Case25.ce,hb,kf,kc,e,t1,qah,qad];exact rn0 x op hl60 hl (fun e O N I=>rn2 x op hc e O N I) _ _ _ ⟨hT1.app1 (Qb _),⟨S,x.cc,m1.kp (X:=fun _=>False) hT1 (Kp.app Kp.refl (Qb _)) (by simp),rfl,nB,v,s,by simp [qah,t1,Config.ce]⟩,by simp [Case25.ce],by simp,by simp,by simp⟩
end Go.Av
