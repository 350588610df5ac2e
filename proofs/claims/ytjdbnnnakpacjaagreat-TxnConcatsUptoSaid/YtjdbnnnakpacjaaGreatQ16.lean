/-
 program.each at its types: it copies.
-/
import Derived.Test.YtjdbnnnakpacjaaGreatE1K
set_option linter.unusedVariables false
set_option linter.unusedSimpArgs false
set_option linter.constructorNameAsVariable false
namespace Go.Av
set_option maxRecDepth 4000
theorem qra (l:List Header) (hl:l.length<2^39) (hf:∀x∈l,qac Φ f_105 [.agg (Header.c x)]=some (.val (.agg (Header.c x)))):qac Φ f_104 [.slice 2 (l.map Header.c),.func (.func f_105) [] []]=some (.val (.slice 2 (l.map Header.c))):=by
 rw [qaa (fn:=c_104) rfl rfl];simp [c_104];refine (qa0 l.length (fun i=>[(0,.tok 2 i)]) 1 (fun i e=>look 1 e=some (.func (.func f_105) [] [])/\look 5 e=some (.app 2 ((l.map Header.c).take i) 0)/\look 8 e=some (.slice 2 (l.map Header.c))/\look 9 e=some (.int .i64 l.length)/\look 10 e=some (.int .i64 i))
  (fun _=>some (Rt.val (.slice 2 (l.map Header.c)))) ?_ ?_ 0 _ 1 (Qc _) (Qb _) ?_).trans (by simp)
 ·rintro i e n L hi hL hn ⟨h1,h5,h8,h9,h10⟩ ih;have hw:=qal i (by omega);have hn0:¬(0=n):=by omega
  have hn1:¬(n=0):=by omega
  have hm:min i l.length=i:=by omega
  have hb:∀k,k<=128->(i+1)*k<=70368744177664:=fun k hk=>by
   have:(i+1)*k<=(i+1)*128:=Nat.mul_le_mul_left _ hk;omega
  have hN:=hf _ (Qd hi);simp only [Header.e] at hN;simp [c_104_l0,Header.e,h1,h5,h8,h9,h10,hi,hw,hn0,hm,hb,hN];exact ih _ _ (by omega) ⟨by simp [h1],by simp [qa8 hi,Header.e],by simp [h8],by simp [h9],by simp⟩
 ·rintro e n L hL hn ⟨h1,h5,h8,h9,h10⟩;simp [c_104_l0,c_104_k1,h5,h9,h10,hL]
 ·simp
theorem qmz (l:List Statement) (hl:l.length<2^39) (hf:∀x∈l,qac Φ f_189 [.agg (Statement.c x)]=some (.val (.agg (Statement.c x)))):qac Φ f_188 [.slice 7 (l.map Statement.c),.func (.func f_189) [] []]=some (.val (.slice 7 (l.map Statement.c))):=by
 rw [qaa (fn:=c_188) rfl rfl];simp [c_188];refine (qa0 l.length (fun i=>[(0,.tok 7 i)]) 1 (fun i e=>look 1 e=some (.func (.func f_189) [] [])/\look 5 e=some (.app 7 ((l.map Statement.c).take i) 0)/\look 8 e=some (.slice 7 (l.map Statement.c))/\look 9 e=some (.int .i64 l.length)/\look 10 e=some (.int .i64 i))
  (fun _=>some (Rt.val (.slice 7 (l.map Statement.c)))) ?_ ?_ 0 _ 1 (Qc _) (Qb _) ?_).trans (by simp)
 ·rintro i e n L hi hL hn ⟨h1,h5,h8,h9,h10⟩ ih;have hw:=qal i (by omega);have hn0:¬(0=n):=by omega
  have hn1:¬(n=0):=by omega
  have hm:min i l.length=i:=by omega
  have hb:∀k,k<=128->(i+1)*k<=70368744177664:=fun k hk=>by
   have:(i+1)*k<=(i+1)*128:=Nat.mul_le_mul_left _ hk;omega
  have hN:=hf _ (Qd hi);simp only [Statement.e] at hN;simp [c_188_l0,Statement.e,h1,h5,h8,h9,h10,hi,hw,hn0,hm,hb,hN];exact ih _ _ (by omega) ⟨by simp [h1],by simp [qa8 hi,Statement.e],by simp [h8],by simp [h9],by simp⟩
 ·rintro e n L hL hn ⟨h1,h5,h8,h9,h10⟩;simp [c_188_l0,c_188_k1,h5,h9,h10,hL]
 ·simp
theorem qq9 (l:List Action) (hl:l.length<2^39) (hf:∀x∈l,qac Φ f_109 [.agg (Action.c x)]=some (.val (.agg (Action.c x)))):qac Φ f_108 [.slice 3 (l.map Action.c),.func (.func f_109) [] []]=some (.val (.slice 3 (l.map Action.c))):=by
 rw [qaa (fn:=c_108) rfl rfl];simp [c_108];refine (qa0 l.length (fun i=>[(0,.tok 3 i)]) 1 (fun i e=>look 1 e=some (.func (.func f_109) [] [])/\look 5 e=some (.app 3 ((l.map Action.c).take i) 0)/\look 8 e=some (.slice 3 (l.map Action.c))/\look 9 e=some (.int .i64 l.length)/\look 10 e=some (.int .i64 i))
  (fun _=>some (Rt.val (.slice 3 (l.map Action.c)))) ?_ ?_ 0 _ 1 (Qc _) (Qb _) ?_).trans (by simp)
 ·rintro i e n L hi hL hn ⟨h1,h5,h8,h9,h10⟩ ih;have hw:=qal i (by omega);have hn0:¬(0=n):=by omega
  have hn1:¬(n=0):=by omega
  have hm:min i l.length=i:=by omega
  have hb:∀k,k<=128->(i+1)*k<=70368744177664:=fun k hk=>by
   have:(i+1)*k<=(i+1)*128:=Nat.mul_le_mul_left _ hk;omega
  have hN:=hf _ (Qd hi);simp only [Action.e] at hN;simp [c_108_l0,Action.e,h1,h5,h8,h9,h10,hi,hw,hn0,hm,hb,hN];exact ih _ _ (by omega) ⟨by simp [h1],by simp [qa8 hi,Action.e],by simp [h8],by simp [h9],by simp⟩
 ·rintro e n L hL hn ⟨h1,h5,h8,h9,h10⟩;simp [c_108_l0,c_108_k1,h5,h9,h10,hL]
 ·simp
theorem qsg (l:List Tbl) (hl:l.length<2^39) (hf:∀x∈l,qac Φ f_111 [.agg (Tbl.c x)]=some (.val (.agg (Tbl.c x)))):qac Φ f_110 [.slice 6 (l.map Tbl.c),.func (.func f_111) [] []]=some (.val (.slice 6 (l.map Tbl.c))):=by
 rw [qaa (fn:=c_110) rfl rfl];simp [c_110];refine (qa0 l.length (fun i=>[(0,.tok 6 i)]) 1 (fun i e=>look 1 e=some (.func (.func f_111) [] [])/\look 5 e=some (.app 6 ((l.map Tbl.c).take i) 0)/\look 8 e=some (.slice 6 (l.map Tbl.c))/\look 9 e=some (.int .i64 l.length)/\look 10 e=some (.int .i64 i))
  (fun _=>some (Rt.val (.slice 6 (l.map Tbl.c)))) ?_ ?_ 0 _ 1 (Qc _) (Qb _) ?_).trans (by simp)
 ·rintro i e n L hi hL hn ⟨h1,h5,h8,h9,h10⟩ ih;have hw:=qal i (by omega);have hn0:¬(0=n):=by omega
  have hn1:¬(n=0):=by omega
  have hm:min i l.length=i:=by omega
  have hb:∀k,k<=128->(i+1)*k<=70368744177664:=fun k hk=>by
   have:(i+1)*k<=(i+1)*128:=Nat.mul_le_mul_left _ hk;omega
  have hN:=hf _ (Qd hi);simp only [Tbl.e] at hN;simp [c_110_l0,Tbl.e,h1,h5,h8,h9,h10,hi,hw,hn0,hm,hb,hN];exact ih _ _ (by omega) ⟨by simp [h1],by simp [qa8 hi,Tbl.e],by simp [h8],by simp [h9],by simp⟩
 ·rintro e n L hL hn ⟨h1,h5,h8,h9,h10⟩;simp [c_110_l0,c_110_k1,h5,h9,h10,hL]
 ·simp
theorem qk1 (l:List ParserState) (hl:l.length<2^39) (hf:∀x∈l,qac Φ f_113 [.agg (ParserState.c x)]=some (.val (.agg (ParserState.c x)))):qac Φ f_112 [.slice 7 (l.map ParserState.c),.func (.func f_113) [] []]=some (.val (.slice 7 (l.map ParserState.c))):=by
 rw [qaa (fn:=c_112) rfl rfl];simp [c_112];refine (qa0 l.length (fun i=>[(0,.tok 7 i)]) 1 (fun i e=>look 1 e=some (.func (.func f_113) [] [])/\look 5 e=some (.app 7 ((l.map ParserState.c).take i) 0)/\look 8 e=some (.slice 7 (l.map ParserState.c))/\look 9 e=some (.int .i64 l.length)/\look 10 e=some (.int .i64 i))
  (fun _=>some (Rt.val (.slice 7 (l.map ParserState.c)))) ?_ ?_ 0 _ 1 (Qc _) (Qb _) ?_).trans (by simp)
 ·rintro i e n L hi hL hn ⟨h1,h5,h8,h9,h10⟩ ih;have hw:=qal i (by omega);have hn0:¬(0=n):=by omega
  have hn1:¬(n=0):=by omega
  have hm:min i l.length=i:=by omega
  have hb:∀k,k<=128->(i+1)*k<=70368744177664:=fun k hk=>by
   have:(i+1)*k<=(i+1)*128:=Nat.mul_le_mul_left _ hk;omega
  have hN:=hf _ (Qd hi);simp only [ParserState.e] at hN;simp [c_112_l0,ParserState.e,h1,h5,h8,h9,h10,hi,hw,hn0,hm,hb,hN];exact ih _ _ (by omega) ⟨by simp [h1],by simp [qa8 hi,ParserState.e],by simp [h8],by simp [h9],by simp⟩
 ·rintro e n L hL hn ⟨h1,h5,h8,h9,h10⟩;simp [c_112_l0,c_112_k1,h5,h9,h10,hL]
 ·simp
theorem qeq (l:List ControlNode) (hl:l.length<2^39) (hf:∀x∈l,qac Φ f_115 [.agg (ControlNode.c x)]=some (.val (.agg (ControlNode.c x)))):qac Φ f_114 [.slice 5 (l.map ControlNode.c),.func (.func f_115) [] []]=some (.val (.slice 5 (l.map ControlNode.c))):=by
 rw [qaa (fn:=c_114) rfl rfl];simp [c_114];refine (qa0 l.length (fun i=>[(0,.tok 5 i)]) 1 (fun i e=>look 1 e=some (.func (.func f_115) [] [])/\look 5 e=some (.app 5 ((l.map ControlNode.c).take i) 0)/\look 8 e=some (.slice 5 (l.map ControlNode.c))/\look 9 e=some (.int .i64 l.length)/\look 10 e=some (.int .i64 i))
  (fun _=>some (Rt.val (.slice 5 (l.map ControlNode.c)))) ?_ ?_ 0 _ 1 (Qc _) (Qb _) ?_).trans (by simp)
 ·rintro i e n L hi hL hn ⟨h1,h5,h8,h9,h10⟩ ih;have hw:=qal i (by omega);have hn0:¬(0=n):=by omega
  have hn1:¬(n=0):=by omega
  have hm:min i l.length=i:=by omega
  have hb:∀k,k<=128->(i+1)*k<=70368744177664:=fun k hk=>by
   have:(i+1)*k<=(i+1)*128:=Nat.mul_le_mul_left _ hk;omega
  have hN:=hf _ (Qd hi);obtain ⟨kk,tt,cc,aa,bb,hx⟩:=qgm l[i];rw [hx,ControlNode.ce] at hN;simp [c_114_l0,hx,ControlNode.ce,h1,h5,h8,h9,h10,hi,hw,hn0,hm,hb,hN];exact ih _ _ (by omega) ⟨by simp [h1],by simp [qa8 hi,hx,ControlNode.ce],by simp [h8],by simp [h9],by simp⟩
 ·rintro e n L hL hn ⟨h1,h5,h8,h9,h10⟩;simp [c_114_l0,c_114_k1,h5,h9,h10,hL]
 ·simp
theorem qvp (H:AH):∀l:List Int,mapO (mapO (snap 39 H)) (l.map cI)=some (l.map cI)
 | []=>by simp [mapO]
 | x::l=>by
  have ih:=qvp H l;simp only [List.map_cons,mapO,ih];simp [cI,mapO]
theorem qr6 (l:List Int) (h:l.length<2^40):qac Φ f_116 [.slice 1 (l.map cI)]=some (.val (.slice 1 (l.map cI))):=by
 unfold qac;rw [qjq Φ (g:=qd3 1 8 .row) rfl];cases l with
 | nil=>simp [qd3,lenOf,qcr,evR,qec,H0,AH.put]
 | cons x l=>
  have hb:(l.length+1)*8<=70368744177664:=by simp at h;omega
  have hm:=qvp ⟨[(0,.row 1 ((x::l).map cI))],1⟩ (x::l);simp [cI] at hm;simp [qd3,lenOf,evR,qec,H0,AH.put,hb,cI,hm]
theorem qr5 (l:List Fld) (h:l.length<2^40):qac Φ f_106 [.slice 2 (l.map Fld.c)]=some (.val (.slice 2 (l.map Fld.c))):=
 qeo (bytes:=24) rfl _ (qde 2 Fld.c l fun x=>by simp [Fld.e]) (by rw [List.length_map];omega)
theorem qafk (l:List Register) (h:l.length<2^40):qac Φ f_107 [.slice 3 (l.map Register.c)]=some (.val (.slice 3 (l.map Register.c))):=
 qeo (bytes:=32) rfl _ (qde 3 Register.c l fun x=>by simp [Register.e]) (by rw [List.length_map];omega)
theorem qafm (l:List TableKey) (h:l.length<2^40):qac Φ f_190 [.slice 3 (l.map TableKey.c)]=some (.val (.slice 3 (l.map TableKey.c))):=
 qeo (bytes:=24) rfl _ (qde 3 TableKey.c l fun x=>by simp [TableKey.e]) (by rw [List.length_map];omega)
theorem qafj (l:List SelectCase) (h:l.length<2^40):qac Φ f_191 [.slice 3 (l.map SelectCase.c)]=some (.val (.slice 3 (l.map SelectCase.c))):=
 qeo (bytes:=16) rfl _ (qde 3 SelectCase.c l fun x=>by simp [SelectCase.e]) (by rw [List.length_map];omega)
theorem qr4 (l:List ExprNode) (h:l.length<2^40):qac Φ f_192 [.slice 3 (l.map ExprNode.c)]=some (.val (.slice 3 (l.map ExprNode.c))):=
 qeo (bytes:=24) rfl _ (qde 3 ExprNode.c l fun x=>by simp [ExprNode.c]) (by rw [List.length_map];omega)
theorem qwc (x:Header) (h:x.fields.length<2^40):qac Φ f_105 [.agg (Header.c x)]=some (.val (.agg (Header.c x))):=by
 rw [qaa (fn:=c_105) rfl rfl];have k:=qr5 x.fields h;simp [c_105,Header.e,k]
theorem qq5 (x:Statement) (h:x.index.length<2^40) (h2:x.value.length<2^40):qac Φ f_189 [.agg (Statement.c x)]=some (.val (.agg (Statement.c x))):=by
 rw [qaa (fn:=c_189) rfl rfl];have k:=qr4 x.index h;have k2:=qr4 x.value h2;simp [c_189,Statement.e,k,k2]
theorem qx9 (x:Tbl) (h:x.keys.length<2^40) (h2:x.actions.length<2^40) (h3:x.dflt.args.length<2^40):qac Φ f_111 [.agg (Tbl.c x)]=some (.val (.agg (Tbl.c x))):=by
 rw [qaa (fn:=c_111) rfl rfl];have k:=qafm x.keys h;have k2:=qr6 x.actions h2;have k3:=qr7 x.dflt.args h3;simp [c_111,Tbl.e,k,k2,k3]
theorem qx8 (x:ParserState) (h:x.extract.length<2^40) (h2:x.cases.length<2^40):qac Φ f_113 [.agg (ParserState.c x)]=some (.val (.agg (ParserState.c x))):=by
 rw [qaa (fn:=c_113) rfl rfl];have k:=qr6 x.extract h;have k2:=qafj x.cases h2;simp [c_113,ParserState.e,k,k2]
theorem qwa (x:Action) (h:x.params.length<2^40) (h2:x.body.length<2^39) (h3:∀s∈x.body,s.index.length<2^40/\s.value.length<2^40):qac Φ f_109 [.agg (Action.c x)]=some (.val (.agg (Action.c x))):=by
 rw [qaa (fn:=c_109) rfl rfl];have k:=qr5 x.params h;have k2:=qmz x.body h2 fun s hs=>qq5 s (h3 s hs).1 (h3 s hs).2
 simp [c_109,Action.e,k,k2]
theorem qmu:∀(n:Nat) (x:ControlNode),SizeOf.sizeOf x<=n->ControlNode.Ok qau x->qac Φ f_115 [.agg (ControlNode.c x)]=some (.val (.agg (ControlNode.c x)))
 | 0,x,h,_=>by cases x;simp at h
 | n+1,x,h,ho=>by
  obtain ⟨k,t,c,a,b,rfl⟩:=qgm x;simp only [ControlNode.Ok] at ho;obtain ⟨_,_,hc,⟨ha1,ha2⟩,hb1,hb2⟩:=ho;rw [ControlNode.oks_eq] at ha2 hb2;have e:=qdq;simp at h;have hc1:=hc.1;have k1:=qr4 c (by omega);have k2:=qeq a (by omega) fun y hy=>qmu n y (by have:=List.sizeOf_lt_of_mem hy;omega) (ha2 y hy)
  have k3:=qeq b (by omega) fun y hy=>qmu n y (by have:=List.sizeOf_lt_of_mem hy;omega) (hb2 y hy)
  rw [qaa (fn:=c_115) rfl rfl];simp [c_115,ControlNode.ce,k1,k2,k3]
theorem qze (p:Prg) (op:p.Ok qau):qac Φ f_53 [.agg (Prg.c p)]=some (.val (.agg (Prg.c p))):=by
 have f:=qhs op;obtain ⟨_,o1,o2,o3,o4,o5,o6,o7,o8⟩:=op;have e:=qdq;have k1:=qra p.headers (by have:=o1.1;omega) fun x hx=>qwc x (f.hl x hx)
 have k2:=qr5 p.metadata f.m;have k3:=qafk p.registers f.r;have k4:=qq9 p.actions (by have:=o4.1;omega) fun x hx=>qwa x (f.ap x hx) (by
  have h:=o4.2 x hx;simp only [Action.Ok] at h;have:=h.2.2.1;omega) fun s hs=>⟨f.ai x hx s hs,f.av x hx s hs⟩
 have k5:=qsg p.tables (by have:=o5.1;omega) fun x hx=>qx9 x (f.tk x hx) (f.ta x hx) (f.tg x hx)
 have k6:=qk1 p.states (by have:=o6.1;omega) fun x hx=>qx8 x (f.se x hx) (f.sc x hx)
 have k7:=qeq p.control (by have:=o7.1;omega) fun x hx=>qmu _ x (Qb _) (o7.2 x hx)
 have k8:=qr6 p.deparser f.d;rw [qaa (fn:=c_53) rfl rfl];simp [c_53,Prg.e,k1,k2,k3,k4,k5,k6,k7,k8]
def RegV (T:List (Nat×AO)) (x:AV) (r:Register):Prop:=(x= .fslice 1 []/\regN r=0)\/∃id,1<=id/\x= .row id 1 0 (regN r)/\look id T=some (.row 1 (List.replicate (regN r) [.int .u32 0]))
inductive RegL (T:List (Nat×AO)):List AV->List Register->Prop
 | nil:RegL T [] []
 | snoc {A rs x r} (h:RegL T A rs) (hx:RegV T x r):RegL T (A++[x]) (rs++[r])
theorem RegV.app {T:List (Nat×AO)} {x:AV} {r:Register} (h:RegV T x r) (U:List (Nat×AO)):RegV (T++U) x r:=by
 rcases h with h | ⟨id,h1,h2,h3⟩
 ·exact .inl h
 ·exact .inr ⟨id,h1,h2,by rw [qd4,h3];simp⟩
theorem RegL.app {T:List (Nat×AO)} {A:List AV} {rs:List Register} (h:RegL T A rs) (U:List (Nat×AO)):RegL (T++U) A rs:=by
 induction h with
 | nil=>exact .nil
 | snoc h hx ih=>exact .snoc ih (hx.app U)
theorem RegL.len {T:List (Nat×AO)} {A:List AV} {rs:List Register} (h:RegL T A rs):A.length=rs.length:=by
 induction h with
 | nil=>rfl
 | snoc h hx ih=>simp [ih]
theorem qsy (H:AH) (k:Nat):∀m,mapO (mapO (snap 38 H)) (List.replicate m [AV.int .u32 k])=some (List.replicate m [AV.int .u32 k])
 | 0=>by simp [mapO]
 | m+1=>by
  have ih:=qsy H k m;simp only [List.replicate_succ,mapO,ih];simp
theorem qqm {α β:Type} (f:α->Option β):∀(l:List α) (x:α) (l':List β) (y:β),mapO f l=some l'->f x=some y->mapO f (l++[x])=some (l'++[y])
 | [],x,l',y,h,hy=>by
  simp [mapO] at h;subst h;simp [mapO,hy]
 | a::l,x,l',y,h,hy=>by
  simp only [mapO] at h;cases hb:f a with
  | none=>rw [hb] at h;cases h
  | some b=>
   rw [hb] at h;cases hm:mapO f l with
   | none=>rw [hm] at h;cases h
   | some m=>
    rw [hm] at h;cases h;have ih:=qqm f l x m y hm hy;simp only [List.cons_append,mapO,hb,ih]
theorem RegL.snp {T:List (Nat×AO)} {A:List AV} {rs:List Register} (h:RegL T A rs) (o:AO) (n:Nat):
  mapO (mapO (snap 39 ⟨(0,o)::T,n⟩)) (A.map fun x=>[x])=some (rs.map fun r=>[AV.slice 1 (List.replicate (regN r) [.int .u32 0])]):=by
 induction h with
 | nil=>simp [mapO]
 | snoc h hx ih=>
  rw [List.map_append,List.map_append];refine qqm _ _ _ _ _ ih ?_;rcases hx with ⟨rfl,h0⟩ | ⟨id,h1,rfl,h3⟩
  ·simp [mapO,h0]
  ·have hi:¬(0=id):=by omega
   have hr:=qsy ⟨(0,o)::T,n⟩ 0;simp at hr;simp [mapO,look,hi,h3,hr]
structure TabV (p:Prg) (k:Nat) (tb:Tbl) (l:List Rw) (nx:Int) (d:ActionCall):Prop where
 size:(l.length:Int)<=tb.size
 pos:∀r∈l,0<r.id
 lt:∀r∈l,r.id<nx
 inc:l.Pairwise (fun a b=>a.id<b.id)
 nx0:0<nx
 nx1:nx<=1073741824
 ent:∀r∈l,entE p k r.entry=0
 uniq:l.Pairwise (fun a b=>sk a.entry b.entry=false)
 dflt:qbn p k d=0
theorem qs4 (nx:Int):∀(l:List Rw) (a:Int),(∃b,ordL l a=some b/\b<nx)↔a<nx/\(∀r∈l,a<r.id/\r.id<nx)/\l.Pairwise (fun a b=>a.id<b.id)
 | [],a=>by simp [ordL]
 | r::l,a=>by
  have ih:=qs4 nx l r.id;simp only [ordL];by_cases h:r.id<=a
  ·rw [if_pos h];constructor
   ·rintro ⟨b,hb,_⟩;cases hb
   ·rintro ⟨_,h2,_⟩;have:=(h2 r (by simp)).1;omega
  ·rw [if_neg h,ih,List.pairwise_cons];constructor
   ·rintro ⟨h1,h2,h3⟩;refine ⟨by omega,?_,fun x hx=>(h2 x hx).1,h3⟩;intro x hx;rcases List.mem_cons.1 hx with rfl | hx
    ·exact ⟨by omega,h1⟩
    ·have:=h2 x hx;exact ⟨by omega,this.2⟩
   ·rintro ⟨h1,h2,h3,h4⟩;exact ⟨(h2 r (by simp)).2,fun x hx=>⟨h3 x hx,(h2 x (by simp [hx])).2⟩,h4⟩
theorem qzn (p:Prg) (t:Int) (l:List Rw):(∀i,i<l.length->rowG p t l i=none)↔(∀r∈l,entE p t r.entry=0)/\l.Pairwise (fun a b=>sk a.entry b.entry=false):=by
 have key:∀i (hi:i<l.length),rowG p t l i=none↔entE p t l[i].entry=0/\∀j (hj:j<i),sk l[j].entry l[i].entry=false:=by
  intro i hi;simp only [rowG,Qa hi,Option.bind_some];by_cases h:entE p t l[i].entry=0
  ·rw [if_neg (by simpa using h)];have:((l.take i).any fun y=>sk y.entry l[i].entry)=true↔¬∀j (hj:j<i),sk l[j].entry l[i].entry=false:=by
    rw [List.any_eq_true];constructor
    ·rintro ⟨y,hy,hs⟩ hc;obtain ⟨j,hj,rfl⟩:=Qn.1 hy;simp at hj;have:=hc j (by omega);simp only [List.getElem_take] at hs;rw [this] at hs;cases hs
    ·intro hc;simp only [Classical.not_forall] at hc;obtain ⟨j,hj,hs⟩:=hc;refine ⟨l[j],?_,by simpa using hs⟩;rw [List.mem_take_iff_getElem];exact ⟨j,by omega,rfl⟩
   by_cases hu:∀j (hj:j<i),sk l[j].entry l[i].entry=false
   ·rw [if_neg (by rw [this];exact fun hc=>hc hu)];simp [h];exact hu
   ·rw [if_pos (this.2 hu)];simp [h];simpa using hu
  ·rw [if_pos h];simp [h]
 constructor
 ·intro h;refine ⟨?_,?_⟩
  ·intro r hr;obtain ⟨i,hi,rfl⟩:=Qn.1 hr;exact ((key i hi).1 (h i hi)).1
  ·rw [List.pairwise_iff_getElem];intro i j hi hj hij;exact ((key j hj).1 (h j hj)).2 i hij
 ·rintro ⟨h1,h2⟩ i hi;rw [key i hi];refine ⟨h1 _ (Qd hi),?_⟩;intro j hj;exact List.pairwise_iff_getElem.1 h2 j i (by omega) hi hj
theorem qaej (p:Prg) (t:Int) (l:List Rw) {i:Nat} {x:Int} (h:rowG p t l i=some x):x≠0:=by
 simp only [rowG,Qt] at h;obtain ⟨r,_,hr⟩:=h;split at hr
 ·cases hr;assumption
 ·split at hr
  ·cases hr;decide
  ·cases hr
theorem qqs (p:Prg) (k:Nat) (tb:Tbl) (l:List Rw) (nx:Int) (d:ActionCall):rowE p k tb l nx (qbn p k d)=0↔TabV p k tb l nx d:=by
 have hI:=qs4 nx l 0;have hG:=qzn p k l;rw [<- fe_all] at hG;unfold rowE;by_cases h:tb.size<(l.length:Int)
 ·rw [if_pos h];constructor
  ·intro hc;cases hc
  ·intro hv;have:=hv.size;omega
 rw [if_neg h];cases ho:ordL l 0 with
 | none=>
  rw [ho] at hI;simp only [tabK];constructor
  ·intro hc;cases hc
  ·intro hv;obtain ⟨b,hb,_⟩:=hI.2 ⟨hv.nx0,fun r hr=>⟨hv.pos r hr,hv.lt r hr⟩,hv.inc⟩;cases hb
 | some a=>
  rw [ho] at hI;simp only [tabK];by_cases h1:nx<=a
  ·rw [if_pos h1];constructor
   ·intro hc;cases hc
   ·intro hv;obtain ⟨b,hb,h2⟩:=hI.2 ⟨hv.nx0,fun r hr=>⟨hv.pos r hr,hv.lt r hr⟩,hv.inc⟩;cases hb;omega
  rw [if_neg h1];have hJ:=hI.1 ⟨a,rfl,by omega⟩;by_cases h2:1073741824<nx
  ·rw [if_pos h2];constructor
   ·intro hc;cases hc
   ·intro hv;have:=hv.nx1;omega
  rw [if_neg h2];cases hf:fe (rowG p k l) l.length 0 with
  | some x=>
   have hx:x≠0:=by
    obtain ⟨i,_,hx⟩:=qjb hf;exact qaej p k l hx
   rw [hf] at hG;simp only [Option.getD_some];constructor
   ·intro hc;exact absurd hc hx
   ·intro hv;have:=hG.2 ⟨hv.ent,hv.uniq⟩;cases this
  | none=>
   have hq:=hG.1 hf;simp only [Option.getD_none];constructor
   ·intro hc;exact ⟨by omega,fun r hr=>(hJ.2.1 r hr).1,fun r hr=>(hJ.2.1 r hr).2,hJ.2.2,hJ.1,by omega,hq.1,hq.2,hc⟩
   ·intro hv;exact hv.dflt
structure CfgV (p:Prg) (c:Config):Prop where
 prg:(prgD p).1=0
 rl:c.rows.length=p.tables.length
 nl:c.nextID.length=p.tables.length
 dl:c.defaults.length=p.tables.length
 tab:∀k tb l nx d,p.tables[k]? =some tb->c.rows[k]? =some l->c.nextID[k]? =some nx->c.defaults[k]? =some d->TabV p k tb l nx d
 con:conE p c.registers=0
theorem qagy (p:Prg) (c:Config) {k:Nat} {x:Int} (h:stG p c k=some x):x≠0:=by
 unfold stG at h;split at h
 ·split at h
  ·cases h
  ·cases h;assumption
 ·cases h
theorem qdg (p:Prg) (c:Config):cfgE p c=0↔CfgV p c:=by
 unfold cfgE;by_cases h:(prgD p).1=0
 rotate_left
 ·rw [if_pos h];exact ⟨fun hc=>absurd hc h,fun hv=>absurd hv.prg h⟩
 rw [if_neg (by simpa using h)];by_cases hl:c.rows.length≠p.tables.length\/c.nextID.length≠p.tables.length\/c.defaults.length≠p.tables.length
 ·rw [if_pos hl];constructor
  ·intro hc;cases hc
  ·intro hv;have:=hv.rl;have:=hv.nl;have:=hv.dl;omega
 rw [if_neg hl];have l1:c.rows.length=p.tables.length:=by omega
 have l2:c.nextID.length=p.tables.length:=by omega
 have l3:c.defaults.length=p.tables.length:=by omega
 cases hf:fe (stG p c) p.tables.length 0 with
 | some x=>
  obtain ⟨k,hk,hx⟩:=qjb hf;simp only [Option.getD_some];constructor
  ·intro hc;exact absurd hc (qagy p c hx)
  ·intro hv;have hq:stG p c k=none:=by
    unfold stG;split
    ·rename_i tb l nx d e1 e2 e3 e4;rw [if_pos ((qqs p k tb l nx d).2 (hv.tab k tb l nx d e1 e2 e3 e4))]
    ·rfl
   rw [hq] at hx;cases hx
 | none=>
  simp only [Option.getD_none];have ha:=fe_all.1 hf;constructor
  ·intro hc;refine ⟨h,l1,l2,l3,?_,hc⟩;intro k tb l nx d e1 e2 e3 e4;have hk:=(Qm.1 e1).1;have hq:=ha k hk;simp only [stG,e1,e2,e3,e4] at hq;split at hq
   ·rename_i hz;exact (qqs p k tb l nx d).1 hz
   ·cases hq
  ·intro hv;exact hv.con
def qar (c:Config) (t:Int):List Rw:=(at? c.rows t).getD []
def qdl (c:Config) (t:Int):Int:=(at? c.nextID t).getD 0
def qoc (p:Prg) (t:Int):Int:=((at? p.tables t).map Tbl.size).getD 0
def inT (p:Prg) (t:Int):Bool:=decide (0<=t)&&decide (t<p.tables.length)
def rIdx (l:List Rw) (id:Int):Option Nat:=l.findIdx? fun r=>decide (r.id=id)
def insE (p:Prg) (c:Config) (t:Int) (x:Entry):Int:=
 if inT p t=false then 8 else if entE p t x≠0 then entE p t x else if (qar c t).any (fun y=>sk y.entry x)=true then 7
 else if qoc p t<=(qar c t).length\/1073741824<=qdl c t then 13 else 0
def insC (c:Config) (t:Int) (x:Entry):Config:=⟨c.rows.set t.toNat (qar c t++[⟨qdl c t,x⟩]),c.nextID.set t.toNat (qdl c t+1),c.defaults,c.registers⟩
def modE (p:Prg) (c:Config) (t id:Int) (x:ActionCall):Int:=
 if inT p t=false then 8 else if rIdx (qar c t) id=none then 8 else qbn p t x
def qbq (x:ActionCall) (r:Rw):Rw:=⟨r.id,⟨r.entry.keys,r.entry.priority,x⟩⟩
def modC (c:Config) (t id:Int) (x:ActionCall):Config:=match rIdx (qar c t) id with
 | some i=>⟨c.rows.set t.toNat ((qar c t).modify i (qbq x)),c.nextID,c.defaults,c.registers⟩
 | none=>c
def delE (p:Prg) (c:Config) (t id:Int):Int:=
 if inT p t=false then 8 else if rIdx (qar c t) id=none then 8 else 0
def delC (c:Config) (t id:Int):Config:=match rIdx (qar c t) id with
 | some i=>⟨c.rows.set t.toNat ((qar c t).eraseIdx i),c.nextID,c.defaults,c.registers⟩
 | none=>c
def defE (p:Prg) (t:Int) (x:ActionCall):Int:=if inT p t=false then 8 else qbn p t x
def defC (c:Config) (t:Int) (x:ActionCall):Config:=⟨c.rows,c.nextID,c.defaults.set t.toNat x,c.registers⟩
theorem qc1 {p:Prg} {t:Int} (h:inT p t=true):∃k:Nat,t=k/\k<p.tables.length:=by
 unfold inT at h;simp at h;exact ⟨t.toNat,by omega,by omega⟩
theorem ql2 {p:Prg} {k:Nat} (h:k<p.tables.length):inT p (k:Int)=true:=by
 unfold inT;simp;omega
section
variable {p:Prg} {c:Config} {k:Nat}
theorem qcb (h:k<c.rows.length):qar c (k:Int)=c.rows[k]:=by
 unfold qar;rw [qfv,Qa h];rfl
theorem qka (h:k<c.nextID.length):qdl c (k:Int)=c.nextID[k]:=by
 unfold qdl;rw [qfv,Qa h];rfl
theorem qod (h:k<p.tables.length):qoc p (k:Int)=p.tables[k].size:=by
 unfold qoc;rw [qfv,Qa h];rfl
theorem CfgV.at (v:CfgV p c) (h:k<p.tables.length):TabV p k p.tables[k] (c.rows[k]'(by rw [v.rl];exact h)) (c.nextID[k]'(by rw [v.nl];exact h)) (c.defaults[k]'(by rw [v.dl];exact h)):=
 v.tab k _ _ _ _ (Qa h) (Qa (by rw [v.rl];exact h)) (Qa (by rw [v.nl];exact h)) (Qa (by rw [v.dl];exact h))
theorem CfgV.upd (v:CfgV p c) (h:k<p.tables.length) {l:List Rw} {nx:Int} {d:ActionCall} {R:List (List Rw)} {N:List Int} {D:List ActionCall}
  (hR:R=c.rows.set k l) (hN:N=c.nextID.set k nx) (hD:D=c.defaults.set k d) (t:TabV p k p.tables[k] l nx d):CfgV p ⟨R,N,D,c.registers⟩:=by
 subst hR hN hD;refine ⟨v.prg,by simp [v.rl],by simp [v.nl],by simp [v.dl],?_,v.con⟩;intro j tb l' nx' d' h1 h2 h3 h4;have hl1:=v.rl;have hl2:=v.nl;have hl3:=v.dl;by_cases hj:k=j
 ·subst hj;rw [List.getElem?_set_self (by omega)] at h2 h3 h4;rw [Qa h] at h1;cases h1;cases h2;cases h3;cases h4;exact t
 ·simp only [List.getElem?_set_ne hj] at h2 h3 h4;exact v.tab j _ _ _ _ h1 h2 h3 h4
end
theorem qadt {p:Prg} {c:Config} {t:Int} {x:Entry} (v:CfgV p c) (h:insE p c t x=0):CfgV p (insC c t x):=by
 unfold insE at h;cases hi:inT p t with
 | false=>rw [if_pos hi] at h;cases h
 | true=>
 obtain ⟨k,rfl,hk⟩:=qc1 hi;rw [if_neg (by rw [hi];decide)] at h;have l1:k<c.rows.length:=by rw [v.rl];exact hk
 have l2:k<c.nextID.length:=by rw [v.nl];exact hk
 have l3:k<c.defaults.length:=by rw [v.dl];exact hk
 have hv:=v.at hk;rw [qcb l1,qka l2,qod hk] at h;split at h
 ·rename_i h1;exact absurd h h1
 rename_i h1;split at h
 ·cases h
 rename_i h2;split at h
 ·cases h
 rename_i h3;unfold insC;rw [qcb l1,qka l2];refine v.upd hk (l:=c.rows[k]++[⟨c.nextID[k],x⟩]) (nx:=c.nextID[k]+1) (d:=c.defaults[k]) (by simp) (by simp) (by simp) ?_;have n0:=hv.nx0;refine ⟨by simp;omega,?_,?_,?_,by omega,by omega,?_,?_,hv.dflt⟩
 ·intro r hr;rcases List.mem_append.1 hr with hr | hr
  ·exact hv.pos r hr
  ·simp at hr;subst hr;exact n0
 ·intro r hr;rcases List.mem_append.1 hr with hr | hr
  ·have:=hv.lt r hr;omega
  ·simp at hr;subst hr;simp;omega
 ·rw [List.pairwise_append];exact ⟨hv.inc,by simp,fun a ha b hb=>by simp at hb;subst hb;exact hv.lt a ha⟩
 ·intro r hr;rcases List.mem_append.1 hr with hr | hr
  ·exact hv.ent r hr
  ·simp at hr;subst hr;simpa using h1
 ·rw [List.pairwise_append];refine ⟨hv.uniq,by simp,fun a ha b hb=>?_⟩;simp at hb;subst hb;simp only [List.any_eq_true,not_exists,not_and,Bool.not_eq_true] at h2;exact h2 a ha
theorem qyk (p:Prg) (t:Int) (x:Entry) (y:ActionCall) (h:entE p t x=0) (hc:qbn p t y=0):entE p t ⟨x.keys,x.priority,y⟩=0:=by
 unfold entE at h ⊢;split at h
 ·exact absurd h (by assumption)
 rename_i h1;rw [if_neg h1];cases ht:at? p.tables t with
 | none=>rfl
 | some tb=>
  rw [ht] at h;simp only at h ⊢;split at h
  ·cases h
  rename_i h2;rw [if_neg h2];have he:entG p tb ⟨x.keys,x.priority,y⟩=entG p tb x:=rfl;rw [he];cases hf:fe (entG p tb x) tb.keys.length 0 with
  | some e=>rw [hf] at h;simpa using h
  | none=>
   rw [hf] at h;simp only [Option.getD_none] at h ⊢;unfold entF at h ⊢;unfold qbn at hc;simp only;split at h
   ·cases h
   rename_i a1;rw [if_neg a1];split at h
   ·cases h
   rename_i a2;rw [if_neg a2];split at h
   ·cases h
   rename_i a3;rw [if_neg a3];exact hc
theorem qin {l:List Rw} {id:Int} {i:Nat} (h:rIdx l id=some i):∃hi:i<l.length,l[i].id=id:=by
 unfold rIdx at h;rw [List.findIdx?_eq_some_iff_getElem] at h;obtain ⟨hi,h1,_⟩:=h;exact ⟨hi,by simpa using h1⟩
theorem qad1 {p:Prg} {c:Config} {t id:Int} {x:ActionCall} (v:CfgV p c) (h:modE p c t id x=0):CfgV p (modC c t id x):=by
 unfold modE at h;cases hi:inT p t with
 | false=>rw [if_pos hi] at h;cases h
 | true=>
 obtain ⟨k,rfl,hk⟩:=qc1 hi;rw [if_neg (by rw [hi];decide)] at h;have l1:k<c.rows.length:=by rw [v.rl];exact hk
 have l2:k<c.nextID.length:=by rw [v.nl];exact hk
 have l3:k<c.defaults.length:=by rw [v.dl];exact hk
 have hv:=v.at hk;unfold modC;rw [qcb l1] at h ⊢;cases hx:rIdx c.rows[k] id with
 | none=>simp only;exact v
 | some i=>
  rw [hx,if_neg (by simp)] at h;simp only;obtain ⟨hil,hid⟩:=qin hx;have hm:c.rows[k].modify i (qbq x)=c.rows[k].set i (qbq x c.rows[k][i]):=by
   refine List.ext_getElem (by simp) fun j h1 h2=>?_
   rw [List.getElem_modify,List.getElem_set];split
   ·rename_i e;subst e;rfl
   ·rfl
  refine v.upd hk (l:=c.rows[k].modify i (qbq x)) (nx:=c.nextID[k]) (d:=c.defaults[k]) (by simp) (by simp) (by simp) ?_;have mem:∀r∈c.rows[k].modify i (qbq x),∃r'∈c.rows[k],r.id=r'.id/\entE p k r.entry=0:=by
   intro r hr;rw [hm] at hr;rcases Qq hr with hr | rfl
   ·exact ⟨r,hr,rfl,hv.ent r hr⟩
   ·exact ⟨_,Qd hil,rfl,qyk p k _ x (hv.ent _ (Qd hil)) h⟩
  have get:∀j (hj:j<(c.rows[k].modify i (qbq x)).length),(c.rows[k].modify i (qbq x))[j].id=(c.rows[k][j]'(by simpa using hj)).id/\(c.rows[k].modify i (qbq x))[j].entry.keys=(c.rows[k][j]'(by simpa using hj)).entry.keys/\(c.rows[k].modify i (qbq x))[j].entry.priority=(c.rows[k][j]'(by simpa using hj)).entry.priority:=by
   intro j hj;rw [List.getElem_modify];split<;>simp [qbq]
  refine ⟨by simpa using hv.size,?_,?_,?_,hv.nx0,hv.nx1,?_,?_,hv.dflt⟩
  ·intro r hr;obtain ⟨r',hr',e,_⟩:=mem r hr;rw [e];exact hv.pos r' hr'
  ·intro r hr;obtain ⟨r',hr',e,_⟩:=mem r hr;rw [e];exact hv.lt r' hr'
  ·rw [List.pairwise_iff_getElem];intro a b ha hb hab;rw [(get a ha).1,(get b hb).1];exact List.pairwise_iff_getElem.1 hv.inc a b _ _ hab
  ·intro r hr;obtain ⟨_,_,_,e⟩:=mem r hr;exact e
  ·rw [List.pairwise_iff_getElem];intro a b ha hb hab;have:=List.pairwise_iff_getElem.1 hv.uniq a b (by simpa using ha) (by simpa using hb) hab;unfold sk at this ⊢;rw [(get a ha).2.1,(get a ha).2.2,(get b hb).2.1,(get b hb).2.2];exact this
theorem qac7 {p:Prg} {c:Config} {t id:Int} (v:CfgV p c) (h:delE p c t id=0):CfgV p (delC c t id):=by
 unfold delE at h;cases hi:inT p t with
 | false=>rw [if_pos hi] at h;cases h
 | true=>
 obtain ⟨k,rfl,hk⟩:=qc1 hi;have l1:k<c.rows.length:=by rw [v.rl];exact hk
 have l2:k<c.nextID.length:=by rw [v.nl];exact hk
 have l3:k<c.defaults.length:=by rw [v.dl];exact hk
 have hv:=v.at hk;unfold delC;rw [qcb l1];cases hx:rIdx c.rows[k] id with
 | none=>simp only;exact v
 | some i=>
  simp only;refine v.upd hk (l:=c.rows[k].eraseIdx i) (nx:=c.nextID[k]) (d:=c.defaults[k]) (by simp) (by simp) (by simp) ?_;have hs:=List.eraseIdx_sublist c.rows[k] i;have hsz:=hv.size;have hle:=hs.length_le;exact ⟨by omega,fun r hr=>hv.pos r (hs.subset hr),fun r hr=>hv.lt r (hs.subset hr),hv.inc.sublist hs,hv.nx0,hv.nx1,fun r hr=>hv.ent r (hs.subset hr),hv.uniq.sublist hs,hv.dflt⟩
theorem qac6 {p:Prg} {c:Config} {t:Int} {x:ActionCall} (v:CfgV p c) (h:defE p t x=0):CfgV p (defC c t x):=by
 unfold defE at h;cases hi:inT p t with
 | false=>rw [if_pos hi] at h;cases h
 | true=>
 obtain ⟨k,rfl,hk⟩:=qc1 hi;rw [if_neg (by rw [hi];decide)] at h;have l1:k<c.rows.length:=by rw [v.rl];exact hk
 have l2:k<c.nextID.length:=by rw [v.nl];exact hk
 have l3:k<c.defaults.length:=by rw [v.dl];exact hk
 have hv:=v.at hk;unfold defC;exact v.upd hk (l:=c.rows[k]) (nx:=c.nextID[k]) (d:=x) (by simp) (by simp) (by simp) ⟨hv.size,hv.pos,hv.lt,hv.inc,hv.nx0,hv.nx1,hv.ent,hv.uniq,h⟩
theorem qag (t:Nat) (a b:List (Nat×AO)):look t (a++b)=(look t a).or (look t b):=qd4 t a b
theorem qad (j t:Nat) (y:AO):∀O:List (Nat×AO),look j (setl t y O)=if j=t then (look t O).map (fun _=>y) else look j O
 | []=>by simp
 | (u,w)::r=>by
  have ih:=qad j t y r;by_cases hu:u=t
  ·subst hu;by_cases hj:j=u
   ·subst hj;simp
   ·have:¬u=j:=fun h=>hj h.symm
    simp [hj,this]
  ·by_cases hj:j=t
   ·subst hj;simp [hu];simpa using ih
   ·by_cases hv:u=j
    ·subst hv;simp [hu]
    ·simp [hu,hv,hj];simpa [hj] using ih
theorem qc8 {j t:Nat} (h:j≠t):∀O:List (Nat×AO),look j (qbe t O)=look j O
 | []=>by simp
 | (u,w)::r=>by
  have ih:=qc8 h r;by_cases hu:u=t
  ·subst hu;have:¬u=j:=fun e=>h e.symm
   simp [this]
  ·by_cases hv:u=j
   ·subst hv;simp [hu]
   ·simp [hu,hv,ih]
theorem qeb {j t:Nat}:∀O:List (Nat×AO),look j O=none->look j (qbe t O)=none
 | [],_=>by simp
 | (u,w)::r,h=>by
  by_cases hv:u=j
  ·subst hv;simp at h
  ·simp [hv] at h;have ih:=qeb (t:=t) r h;by_cases hu:u=t
   ·subst hu;simpa using h
   ·simp [hu,hv,ih]
theorem qay {j:Nat}:∀{O:List (Nat×AO)},look j O≠some .res->look j (qax O)=look j O
 | [],_=>by simp
 | (u,w)::r,h=>by
  by_cases hv:u=j
  ·subst hv;simp at h;cases w<;>simp at h ⊢
  ·simp [hv] at h;have ih:=qay h;cases w<;>simp [hv,ih]
section
variable (z t i o n:Nat) (es:List (List AV))
@[simp] theorem qaki:lenOf (.slice z es)=some es.length:=rfl
@[simp] theorem qakg:lenOf (.fslice z es)=some es.length:=rfl
@[simp] theorem qakf:lenOf (.app z es t)=some es.length:=rfl
@[simp] theorem qakh:lenOf (.row t z o n)=some n:=rfl
@[simp] theorem qaix (cs:List AV):AV.cells (.agg cs)=some cs:=rfl
@[simp] theorem qaiy (k:IntKind) (x:Int):AV.cells (.int k x)=some [.int k x]:=rfl
@[simp] theorem qahx (b:Bool):AV.cells (.bool b)=some [.bool b]:=rfl
@[simp] theorem qai1 (b:List UInt8):AV.cells (.str b)=some [.str b]:=rfl
@[simp] theorem qafi:AV.cells .nilptr=some [.nilptr]:=rfl
@[simp] theorem qafh:AV.cells .nilmap=some [.nilmap]:=rfl
@[simp] theorem qaj1:AV.cells (.slice z es)=some [.slice z es]:=rfl
@[simp] theorem qajz:AV.cells (.fslice z es)=some [.fslice z es]:=rfl
@[simp] theorem qajy:AV.cells (.app z es t)=some [.app z es t]:=rfl
@[simp] theorem qaj0:AV.cells (.row t z o n)=some [.row t z o n]:=rfl
@[simp] theorem qai0:AV.cells (.ptr t z o n)=some [.ptr t z o n]:=rfl
@[simp] theorem qahz:AV.cells (.iptr z es o n)=some [.iptr z es o n]:=rfl
@[simp] theorem qaiz:AV.cells (.map t)=some [.map t]:=rfl
@[simp] theorem qahy (f:Fn) (a b:List AV):AV.cells (.func f a b)=some [.func f a b]:=rfl
end
theorem qb7 {a b:List (Nat×AO)} {n:Nat}:Tail (a++b) n↔Tail a n/\Tail b n:=by
 constructor
 ·intro h;refine ⟨fun j hj=>?_,fun j hj=>?_⟩
  ·have:=h j hj;rw [qag] at this;cases hl:look j a with
   | none=>rfl
   | some x=>rw [hl] at this;cases this
  ·have:=h j hj;rw [qag] at this;cases hl:look j a with
   | none=>rw [hl] at this;simpa using this
   | some x=>rw [hl] at this;cases this
 ·rintro ⟨h1,h2⟩ j hj;rw [qag,h1 j hj,h2 j hj];rfl
theorem qbw {u n:Nat} {x:AO} {r:List (Nat×AO)}:Tail ((u,x)::r) n↔u<n/\Tail r n:=by
 constructor
 ·intro h;have hu:u<n:=by
   refine Decidable.byContradiction fun hc=>?_
   have:=h u (by omega);simp at this
  refine ⟨hu,fun j hj=>?_⟩;have:=h j hj;have hne:¬u=j:=by omega
  simpa [hne] using this
 ·rintro ⟨h1,h2⟩ j hj;have hne:¬u=j:=by omega
  simp [hne,h2 j hj]
theorem qh3 {n:Nat}:Tail [] n↔True:=⟨fun _=>trivial,fun _=>Tail.nil n⟩
theorem qaj {t n:Nat} {y:AO} {O:List (Nat×AO)} (h:Tail O n):Tail (setl t y O) n:=by
 intro j hj;rw [qad];split
 ·rename_i e;rw [<- e,h j hj];rfl
 ·exact h j hj
theorem qe0 {t n:Nat} {O:List (Nat×AO)} (h:Tail O n):Tail (qbe t O) n:=fun j hj=>qeb _ (h j hj)
theorem qc3 {n:Nat} {O:List (Nat×AO)} (h:Tail O n):Tail (qax O) n:=by
 intro j hj;rw [qay (by rw [h j hj];simp),h j hj]
theorem Tail.lt {O:List (Nat×AO)} {n j:Nat} {x:AO} (h:Tail O n) (hl:look j O=some x):j<n:=by
 refine Decidable.byContradiction fun hc=>?_
 rw [h j (by omega)] at hl;cases hl
def Kp (X:Nat->Prop) (N:Nat) (O O':List (Nat×AO)):Prop:=∀j,j<N->¬X j->look j O'=look j O
theorem Kp.refl {X:Nat->Prop} {N:Nat} {O:List (Nat×AO)}:Kp X N O O:=fun _ _ _=>rfl
theorem Kp.trans {X:Nat->Prop} {N N':Nat} {O O' O'':List (Nat×AO)} (h:Kp X N O O') (h2:Kp X N' O' O'') (hn:N<=N'):Kp X N O O'':=
 fun j hj hx=>(h2 j (by omega) hx).trans (h j hj hx)
theorem Kp.mono {X Y:Nat->Prop} {N:Nat} {O O':List (Nat×AO)} (h:Kp X N O O') (hx:∀j,j<N->X j->Y j):Kp Y N O O':=
 fun j hj hy=>h j hj fun hc=>hy (hx j hj hc)
section
variable {Φ:FuncId->Option AFun} {β:Type} {fin:Option (Ex×St)->Option β}
theorem loopQ {σ:Type} (m:σ->Nat) (Inv:σ->Env->AH->Prop) (R:σ->Option β->Prop) {b:ACode} {K:List Go.Av.Fr}
  (step:∀x e h L,(∀j s,go Φ fin L (.exit j) s=go Φ fin K (.exit j) s)->Inv x e h->(∀y e' h',m y<m x->Inv y e' h'->R y (go Φ fin L .normal ⟨e',h'⟩))->R x (go Φ fin (.c b::L) .normal ⟨e,h⟩)):
  ∀x e h,Inv x e h->R x (go Φ fin (.c (.loop b)::K) .normal ⟨e,h⟩):=by
 have key:∀n x e h,m x<=n->Inv x e h->R x (go Φ fin (.c (.loop b)::K) .normal ⟨e,h⟩):=by
  intro n
  induction n with
  | zero=>
   intro x e h hn hi;rw [qbo];exact step x e h _ (fun j s=>by simp) hi fun y e' h' hlt=>by omega
  | succ n ih=>
   intro x e h hn hi;rw [qbo];exact step x e h _ (fun j s=>by simp) hi fun y e' h' hlt hy=>ih y e' h' (by omega) hy
 intro x e h hi;exact key (m x) x e h (Qb _) hi
theorem qf2 (N:Nat) (Inv:Nat->Env->AH->Prop) (Q:Option β->Prop) {b:ACode} {K:List Go.Av.Fr}
  (step:∀i e h L,i<N->(∀j s,go Φ fin L (.exit j) s=go Φ fin K (.exit j) s)->Inv i e h->(∀e' h',Inv (i+1) e' h'->Q (go Φ fin L .normal ⟨e',h'⟩))->Q (go Φ fin (.c b::L) .normal ⟨e,h⟩))
  (last:∀e h L,(∀j s,go Φ fin L (.exit j) s=go Φ fin K (.exit j) s)->Inv N e h->Q (go Φ fin (.c b::L) .normal ⟨e,h⟩)):
  ∀i e h,i<=N->Inv i e h->Q (go Φ fin (.c (.loop b)::K) .normal ⟨e,h⟩):=by
 intro i e h hi hinv;refine loopQ (σ:={ i:Nat // i<=N }) (fun x=>N - x.1) (fun x=>Inv x.1) (fun _=>Q) ?_ ⟨i,hi⟩ e h hinv;intro ⟨i,hi⟩ e h L hL hinv ih;rcases Nat.lt_or_eq_of_le hi with hlt | heq
 ·exact step i e h L hlt hL hinv fun e' h' hi'=>ih ⟨i+1,hlt⟩ e' h' (by simp;omega) hi'
 ·subst heq;exact last e h L hL hinv
end
def vid:AV->Option Nat
 | .row id _ _ _=>some id
 | _=>none
inductive Mu (O:List (Nat×AO)) (z:Nat):AV->List (List AV)->Prop
 | nilF:Mu O z (.fslice z []) []
 | nilA (t:Nat):Mu O z (.app z [] t) []
 | row (id:Nat) (es es0:List (List AV)) (n:Nat) (hn:n=es.length) (hl:look id O=some (.row z es0)) (hle:es.length<=es0.length) (ht:es0.take es.length=es):Mu O z (.row id z 0 n) es
theorem Mu.len {O:List (Nat×AO)} {z:Nat} {v:AV} {es:List (List AV)} (h:Mu O z v es):lenOf v=some es.length:=by
 cases h with
 | nilF=>rfl
 | nilA=>rfl
 | row id _ es0 n hn=>subst hn;rfl
theorem Mu.fr {O O':List (Nat×AO)} {z:Nat} {v:AV} {es:List (List AV)} (h:Mu O z v es) (hf:∀j,vid v=some j->look j O'=look j O):Mu O' z v es:=by
 cases h with
 | nilF=>exact .nilF
 | nilA=>exact .nilA _
 | row id _ es0 n hn hl hle ht=>exact .row id es es0 n hn (by rw [hf id rfl,hl]) hle ht
theorem Mu.nonempty {O:List (Nat×AO)} {z:Nat} {v:AV} {es:List (List AV)} (h:Mu O z v es) (hp:0<es.length):∃id es0,v= .row id z 0 es.length/\look id O=some (.row z es0)/\es.length<=es0.length/\es0.take es.length=es:=by
 cases h with
 | nilF=>simp at hp
 | nilA=>simp at hp
 | row id _ es0 n hn hl hle ht=>subst hn;exact ⟨id,es0,rfl,hl,hle,ht⟩
theorem Mu.snp {O:List (Nat×AO)} {z N n:Nat} {v:AV} {es:List (List AV)} (h:Mu O z v es):snap (n+1) ⟨O,N⟩ v=(mapO (mapO (snap n ⟨O,N⟩)) es).map (.slice z):=by
 cases h with
 | nilF=>simp
 | nilA=>simp
 | row id _ es0 k hn hl hle ht=>
  subst hn;simp [hl,hle,ht]
inductive Re (O:List (Nat×AO)) (z:Nat):AV->List (List AV)->Prop
 | sl (es:List (List AV)):Re O z (.slice z es) es
 | fs (es:List (List AV)):Re O z (.fslice z es) es
 | ap (es:List (List AV)) (t:Nat):Re O z (.app z es t) es
 | row (id:Nat) (es es0:List (List AV)) (n:Nat) (hn:n=es.length) (hl:look id O=some (.row z es0)) (hle:es.length<=es0.length) (ht:es0.take es.length=es):Re O z (.row id z 0 n) es
theorem Mu.re {O:List (Nat×AO)} {z:Nat} {v:AV} {es:List (List AV)} (h:Mu O z v es):Re O z v es:=by
 cases h with
 | nilF=>exact .fs []
 | nilA=>exact .ap [] _
 | row id _ es0 n hn hl hle ht=>exact .row id es es0 n hn hl hle ht
theorem Re.fr {O O':List (Nat×AO)} {z:Nat} {v:AV} {es:List (List AV)} (h:Re O z v es) (hf:∀j,vid v=some j->look j O'=look j O):Re O' z v es:=by
 cases h with
 | sl=>exact .sl es
 | fs=>exact .fs es
 | ap=>exact .ap es _
 | row id _ es0 n hn hl hle ht=>exact .row id es es0 n hn (by rw [hf id rfl,hl]) hle ht
theorem Re.len {O:List (Nat×AO)} {z:Nat} {v:AV} {es:List (List AV)} (h:Re O z v es):lenOf v=some es.length:=by
 cases h with
 | sl=>rfl
 | fs=>rfl
 | ap=>rfl
 | row id _ es0 n hn=>subst hn;rfl
theorem Re.snp {O:List (Nat×AO)} {z N n:Nat} {v:AV} {es:List (List AV)} (h:Re O z v es) (he:mapO (mapO (snap n ⟨O,N⟩)) es=some es):snap (n+1) ⟨O,N⟩ v=some (.slice z es):=by
 cases h with
 | sl=>simp
 | fs=>simp
 | ap=>simp
 | row id _ es0 k hn hl hle ht=>
  subst hn;simp [hl,hle,ht,he]
theorem Re.cells {O:List (Nat×AO)} {z:Nat} {v:AV} {es:List (List AV)} (h:Re O z v es):v.cells=some [v]:=by
 cases h<;>rfl
theorem Mu.cells {O:List (Nat×AO)} {z:Nat} {v:AV} {es:List (List AV)} (h:Mu O z v es):v.cells=some [v]:=h.re.cells
theorem qvq {α:Type} {f:α->Option α}:∀{l:List α},(∀x∈l,f x=some x)->mapO f l=some l
 | [],_=>rfl
 | a::l,h=>by
  have h1:=h a (by simp);have h2:=qvq (f:=f) (l:=l) fun x hx=>h x (by simp [hx])
  simp only [mapO,h1,h2]
theorem qhk {α:Type} {g:α->List AV} {n:Nat} {H:AH} (h:∀x,mapO (snap n H) (g x)=some (g x)) (l:List α):mapO (mapO (snap n H)) (l.map g)=some (l.map g):=by
 refine qvq fun x hx=>?_
 obtain ⟨y,_,rfl⟩:=List.mem_map.1 hx;exact h y
theorem qzu {n:Nat} {H:AH} (r:Rw):mapO (snap (n+1) H) (Rw.c r)=some (Rw.c r):=by simp [Rw.c]
theorem qagu {n:Nat} {H:AH} (x:Int):mapO (snap (n+1) H) (cI x)=some (cI x):=by simp [cI]
theorem qab2 {n:Nat} {H:AH} (x:ActionCall):mapO (snap (n+1) H) (ActionCall.c x)=some (ActionCall.c x):=by simp [ActionCall.c]
structure CfgM (O:List (Nat×AO)) (v1 v2 v3 v4:AV) (V:List AV) (c:Config):Prop where
 r:Mu O 1 v1 (V.map fun v=>[v])
 rl:V.length=c.rows.length
 rv:∀(k:Nat) (v:AV) (l:List Rw),V[k]? =some v->c.rows[k]? =some l->Mu O 5 v (l.map Rw.c)
 n:Mu O 1 v2 (c.nextID.map cI)
 d:Mu O 2 v3 (c.defaults.map ActionCall.c)
 g:v4= .fslice 1 (c.registers.map (cS 1 c32))\/∃t,v4= .app 1 (c.registers.map (cS 1 c32)) t
 rn:∀i,vid v1=some i->vid v2=some i->False
 vi:∀(k k':Nat) (v v':AV) (i:Nat),V[k]? =some v->V[k']? =some v'->vid v=some i->vid v'=some i->k=k'
 va:∀v∈V,∀z es t,v≠ .app z es t
def CfgM.own (v1 v2 v3:AV) (V:List AV) (j:Nat):Prop:=vid v1=some j\/vid v2=some j\/vid v3=some j\/∃v∈V,vid v=some j
theorem CfgM.fr {O O':List (Nat×AO)} {v1 v2 v3 v4:AV} {V:List AV} {c:Config} (h:CfgM O v1 v2 v3 v4 V c) (hf:∀j,CfgM.own v1 v2 v3 V j->look j O'=look j O):CfgM O' v1 v2 v3 v4 V c:=by
 refine ⟨h.r.fr fun j hj=>hf j (.inl hj),h.rl,?_,h.n.fr fun j hj=>hf j (.inr (.inl hj)),h.d.fr fun j hj=>hf j (.inr (.inr (.inl hj))),h.g,h.rn,h.vi,h.va⟩;intro k v l hv hl;exact (h.rv k v l hv hl).fr fun j hj=>hf j (.inr (.inr (.inr ⟨v,Qe hv,hj⟩)))
theorem qlc {α β:Type} {f:α->Option β}:∀{l:List α} {m:List β},l.length=m.length->(∀(k:Nat) (x:α) (y:β),l[k]? =some x->m[k]? =some y->f x=some y)->mapO f l=some m
 | [],[],_,_=>rfl
 | [],_::_,h,_=>by simp at h
 | _::_,[],h,_=>by simp at h
 | a::l,b::m,h,hf=>by
  have h1:=hf 0 a b (by simp) (by simp);have h2:=qlc (f:=f) (l:=l) (m:=m) (by simpa using h) fun k x y hx hy=>hf (k+1) x y (by simpa using hx) (by simpa using hy)
  simp only [mapO,h1,h2]
theorem CfgM.snpR {O:List (Nat×AO)} {v1 v2 v3 v4:AV} {V:List AV} {c:Config} {n N:Nat} (h:CfgM O v1 v2 v3 v4 V c):snap (n+4) ⟨O,N⟩ v1=some (.slice 1 (c.rows.map (cS 5 Rw.c))):=by
 have e1:mapO (mapO (snap (n+3) ⟨O,N⟩)) (V.map fun v=>[v])=some (c.rows.map (cS 5 Rw.c)):=by
  refine qlc (by simp [h.rl]) ?_;intro k x y hx hy;rw [List.getElem?_map] at hx hy;cases hv:V[k]? with
  | none=>rw [hv] at hx;cases hx
  | some v=>
   cases hl:c.rows[k]? with
   | none=>rw [hl] at hy;cases hy
   | some l=>
    rw [hv] at hx;rw [hl] at hy;cases hx;cases hy;have:=(h.rv k v l hv hl).snp (N:=N) (n:=n+2);simp only [mapO,this,qhk (n:=n+2) (H:=⟨O,N⟩) (fun x=>qzu x) l,Option.map_some,cS]
 have k1:=h.r.snp (N:=N) (n:=n+3);rw [e1] at k1;exact k1
theorem CfgM.snpN {O:List (Nat×AO)} {v1 v2 v3 v4:AV} {V:List AV} {c:Config} {n N:Nat} (h:CfgM O v1 v2 v3 v4 V c):snap (n+4) ⟨O,N⟩ v2=some (.slice 1 (c.nextID.map cI)):=by
 have k2:=h.n.snp (N:=N) (n:=n+3);rw [qhk (n:=n+3) (H:=⟨O,N⟩) (fun x=>qagu x)] at k2;exact k2
theorem CfgM.snpD {O:List (Nat×AO)} {v1 v2 v3 v4:AV} {V:List AV} {c:Config} {n N:Nat} (h:CfgM O v1 v2 v3 v4 V c):snap (n+4) ⟨O,N⟩ v3=some (.slice 2 (c.defaults.map ActionCall.c)):=by
 have k3:=h.d.snp (N:=N) (n:=n+3);rw [qhk (n:=n+3) (H:=⟨O,N⟩) (fun x=>qab2 x)] at k3;exact k3
theorem CfgM.snpG {O:List (Nat×AO)} {v1 v2 v3 v4:AV} {V:List AV} {c:Config} {n N:Nat} (h:CfgM O v1 v2 v3 v4 V c):snap (n+4) ⟨O,N⟩ v4=some (.slice 1 (c.registers.map (cS 1 c32))):=by
 rcases h.g with hg | ⟨t,hg⟩<;>subst hg<;>simp
@[simp] theorem qafd (b x:Bool) (H:AH):qdz b H (some (.val (.bool x)))=some (.val (.bool x),H):=by cases b<;>simp
@[simp] theorem qagk (b:Bool) (k:IntKind) (x:Int) (H:AH):qdz b H (some (.val (.int k x)))=some (.val (.int k x),H):=by cases b<;>simp
theorem qy1 {O O':List (Nat×AO)} {N N' k:Nat} {X:Nat->Prop} (hK:Kp X N O O') (hT:Tail O' N') (hN:N<=N') (o:AO):Kp X N O (O'++[(N'+k,o)])/\Tail (O'++[(N'+k,o)]) (N'+k+1)/\look (N'+k) (O'++[(N'+k,o)])=some o:=by
 refine ⟨?_,?_,?_⟩
 ·intro j hj hx;have:¬N'+k=j:=by omega
  rw [qag,hK j hj hx];simp [this]
 ·rw [qb7,qbw];exact ⟨hT.mono (by omega),by omega,Tail.nil _⟩
 ·rw [qag,hT _ (by omega)];simp
theorem hp_mv {O O':List (Nat×AO)} {N N' k id:Nat} {X:Nat->Prop} (hK:Kp X N O O') (hT:Tail O' N') (hN:N<=N') (hid:N<=id) (o:AO):Kp X N O (qbe id O'++[(N'+k,o)])/\Tail (qbe id O'++[(N'+k,o)]) (N'+k+1)/\look (N'+k) (qbe id O'++[(N'+k,o)])=some o:=by
 have h1:Kp X N O (qbe id O'):=by
  intro j hj hx;rw [qc8 (by omega),hK j hj hx]
 exact qy1 h1 (qe0 hT) hN o
theorem qyy {l:List Rw} {i:Nat} {es0:List (List AV)} (hi:i<l.length) (ht:es0.take (l.map Rw.c).length=l.map Rw.c):es0[i]? =some (Rw.c l[i]):=by
 have h:(es0.take (l.map Rw.c).length)[i]? =(l.map Rw.c)[i]? :=by rw [ht]
 rw [List.getElem?_take_of_lt (by simpa using hi)] at h;rw [h];simp [hi]
section
variable {β:Type} {fin:Option (Ex×St)->Option β}
theorem qvg (l:List Rw) (hs:∀r∈l,rowS r) (hl:l.length<2^39) (v:AV) (K:List Fr) (Q:Option β->Prop) (e:Env) (O:List (Nat×AO)) (N:Nat) (hT:Tail O N) (hv:Re O 5 v (l.map Rw.c))
  (h6:look 6 e=some (.fslice 5 [])) (h24:look 24 e=some v) (h25:look 25 e=some (.int .i64 l.length)) (h26:look 26 e=some (.int .i64 0))
  (hK:∀e' O' N' w,Mu O' 5 w (l.map Rw.c)->(∀j,vid w=some j->N<=j)->(∀z es t,w≠ .app z es t)->Kp (fun _=>False) N O O'->Tail O' N'->N<=N'->look 6 e'=some w->
   look 1 e'=look 1 e->look 2 e'=look 2 e->look 3 e'=look 3 e->look 18 e'=look 18 e->look 19 e'=look 19 e->look 20 e'=look 20 e->Q (go Φ fin K .normal ⟨e',⟨O',N'⟩⟩)):
  Q (go Φ fin (.c (.loop c_92_l0):: .b 2::K) .normal ⟨e,⟨O,N⟩⟩):=by
 refine qf2 l.length (fun i e' h=>∃O' N' w,h=⟨O',N'⟩/\((i=0/\w= .fslice 5 [])\/∃id,w= .row id 5 0 i/\look id O'=some (.row 5 ((l.take i).map Rw.c))/\N<=id)/\Kp (fun _=>False) N O O'/\Tail O' N'/\N<=N'/\look 6 e'=some w/\look 24 e'=some v/\look 25 e'=some (.int .i64 l.length)/\look 26 e'=some (.int .i64 i)/\
   look 1 e'=look 1 e/\look 2 e'=look 2 e/\look 3 e'=look 3 e/\look 18 e'=look 18 e/\look 19 e'=look 19 e/\look 20 e'=look 20 e) Q ?_ ?_ 0 _ _ (Qc _) ?_
 ·rintro i e' _ L hi hL ⟨O',N',w,rfl,hw,hk,hT',hN,h6,h24,h25,h26,g1,g2,g3,g18,g19,g20⟩ ih;have hw1:=qal i (by omega);have hc:=qac2 l[i] (hs _ (Qd hi));have hT0:=hT' N' (Qb _);have hT1:=hT' (N'+1) (by omega);have hm:min i l.length=i:=by omega
  have hd1:∀id,look (N'+1) (qbe id O')=none:=fun id=>qeb _ hT1
  have htk:(l.map Rw.c).take (i+1)=(l.map Rw.c).take i++[Rw.c l[i]]:=qa8 hi;rw [Rw.ce] at htk;have hb:(i+1)*72<=70368744177664:=by omega
  simp only [Rw.ce] at hc;have hv':Re O' 5 v (l.map Rw.c):=by
   refine hv.fr fun j hj=>?_
   cases hv with
   | row id _ es0 n hn hl hle ht=>cases hj;exact hk j (hT.lt hl) (by simp)
   | sl=>cases hj
   | fs=>cases hj
   | ap=>cases hj
  have hw0:min i (l.map Rw.c).length=i:=by simp;omega
  rcases hw with ⟨rfl,rfl⟩ | ⟨id,rfl,hlk,hid⟩
  ·obtain ⟨a1,a2,a3⟩:=qy1 (k:=1) hk hT' hN (.row 5 ((l.take (0+1)).map Rw.c));cases hv' with
   | row id' _ es0 n hn hl' hle ht=>
    have h0:=qyy hi ht;simp [c_92_l0,Rw.ce,h6,h24,h25,h26,hi,hc,hT0,hT1,hn,hl',h0,wr1];refine ih _ _ ⟨_,N'+1+1,.row (N'+1) 5 0 (0+1),by simp at htk;simp [htk],.inr ⟨N'+1,rfl,a3,by omega⟩,a1,a2,by omega,?_,?_,?_,?_,?_,?_,?_,?_,?_,?_⟩<;>simp [*]
   | _=>
    simp [c_92_l0,Rw.ce,h6,h24,h25,h26,hi,hc,hT0,hT1,wr1];refine ih _ _ ⟨_,N'+1+1,.row (N'+1) 5 0 (0+1),by simp at htk;simp [htk],.inr ⟨N'+1,rfl,a3,by omega⟩,a1,a2,by omega,?_,?_,?_,?_,?_,?_,?_,?_,?_,?_⟩<;>simp [*]
  ·obtain ⟨a1,a2,a3⟩:=hp_mv (k:=1) hk hT' hN hid (.row 5 ((l.take (i+1)).map Rw.c));cases hv' with
   | row id' _ es0 n hn hl' hle ht=>
    have h0:=qyy hi ht;simp [c_92_l0,Rw.ce,h6,h24,h25,h26,hi,hc,hT0,hn,hl',h0,hw1,hlk,hb,hm,hd1];refine ih _ _ ⟨_,N'+1+1,.row (N'+1) 5 0 (i+1),by simp [htk],.inr ⟨N'+1,rfl,a3,by omega⟩,a1,a2,by omega,?_,?_,?_,?_,?_,?_,?_,?_,?_,?_⟩<;>simp [*]
   | _=>
    simp [c_92_l0,Rw.ce,h6,h24,h25,h26,hi,hc,hT0,hw1,hlk,hb,hm,hd1];refine ih _ _ ⟨_,N'+1+1,.row (N'+1) 5 0 (i+1),by simp [htk],.inr ⟨N'+1,rfl,a3,by omega⟩,a1,a2,by omega,?_,?_,?_,?_,?_,?_,?_,?_,?_,?_⟩<;>simp [*]
 ·rintro e' _ L hL ⟨O',N',w,rfl,hw,hk,hT',hN,h6,h24,h25,h26,g1,g2,g3,g18,g19,g20⟩;simp [c_92_l0,h25,h26,hL];refine hK _ O' N' w ?_ ?_ ?_ hk hT' hN ?_ ?_ ?_ ?_ ?_ ?_ ?_<;>try simp [h6,g1,g2,g3,g18,g19,g20]
  ·rcases hw with ⟨hz,rfl⟩ | ⟨id,rfl,hlk,hid⟩
   ·have:l=[]:=Qg hz;subst this;exact .nilF
   ·rw [List.take_length] at hlk;exact .row id _ _ _ (by simp) hlk (Qb _) (by rw [List.take_length])
  ·rcases hw with ⟨hz,rfl⟩ | ⟨id,rfl,hlk,hid⟩
   ·intro j hj;cases hj
   ·intro j hj;cases hj;exact hid
  ·rcases hw with ⟨hz,rfl⟩ | ⟨id,rfl,hlk,hid⟩<;>intro z es t ht<;>cases ht
 ·exact ⟨O,N,.fslice 5 [],rfl,.inl ⟨rfl,rfl⟩,fun _ _ _=>rfl,hT,Qb _,h6,h24,h25,h26,rfl,rfl,rfl,rfl,rfl,rfl⟩
end
section
variable {O O':List (Nat×AO)} {N N' n id:Nat} {X:Nat->Prop} {o y:AO}
theorem Kp.app (h:Kp X N O O') (hn:N<=n):Kp X N O (O'++[(n,o)]):=by
 intro j hj hx;have:¬n=j:=by omega
 rw [qag,h j hj hx];simp [this]
theorem Kp.drop (h:Kp X N O O') (hn:N<=id\/X id):Kp X N O (qbe id O'):=by
 intro j hj hx;rw [qc8 (by rintro rfl;rcases hn with hn | hn;omega;exact hx hn),h j hj hx]
theorem Kp.setl (h:Kp X N O O') (hn:N<=id\/X id):Kp X N O (setl id y O'):=by
 intro j hj hx;rw [qad,if_neg (by rintro rfl;rcases hn with hn | hn;omega;exact hx hn),h j hj hx]
theorem Tail.app1 (h:Tail O' N') (hn:N'<=n):Tail (O'++[(n,o)]) (n+1):=by
 rw [qb7,qbw];exact ⟨h.mono (by omega),by omega,Tail.nil _⟩
theorem Kp.lk (h:Kp X N O O') (hT:Tail O N) {j:Nat} {x:AO} (hl:look j O=some x) (hx:¬X j):look j O'=some x:=by
 rw [h j (hT.lt hl) hx,hl]
theorem qat {j:Nat} {x y:AO} (h1:look id O=some x) (h2:look j O=some y) (h:x≠y):id≠j:=by
 rintro rfl;rw [h1] at h2;cases h2;exact h rfl
theorem qdx {j:Nat} {x:AO} (hT:Tail O N) (h1:look j O=some x) (hn:N<=n):¬j=n/\¬n=j:=by
 have:=hT.lt h1;omega
end
theorem Re.src {O:List (Nat×AO)} {z N:Nat} {v:AV} {es:List (List AV)} (h:Re O z v es):qcr ⟨O,N⟩ v=some es:=by
 cases h with
 | sl=>rfl
 | fs=>rfl
 | ap=>rfl
 | row id _ es0 n hn hl hle ht=>
  subst hn;simp [hl,hle,ht]
theorem qacw {O:List (Nat×AO)} {N:Nat} (hT:Tail O N) {v:AV} {l:List Int} (h:Re O 1 v (l.map cI)) (hl:l.length<2^40):
  ∃w o,qai Φ f_116 [v] ⟨O,N⟩=some (.val w,⟨O++[(N,o)],N+1⟩)/\Mu (O++[(N,o)]) 1 w (l.map cI)/\∀j,vid w=some j->N<=j:=by
 have hr:Φ f_116=some (.rule (qd3 1 8 .row)):=rfl;rw [qjq Φ hr];have hN:=hT N (Qb _);have hs:=h.src (N:=N);have hlen:=h.len;cases l with
 | nil=>
  refine ⟨.app 1 [] N,.tok 1 0,?_,.nilA _,fun j hj=>by cases hj⟩;simp only [qd3,hlen,List.map_nil,List.length_nil];simp only [List.map_nil] at hs;simp only [hs,evR];simp [hN]
 | cons x l=>
  have ha:qcw 1 ((x::l).map cI)=true:=qde 1 cI (x::l) fun x=>by simp
  refine ⟨.row N 1 0 ((x::l).map cI).length,.row 1 ((x::l).map cI),?_,?_,fun j hj=>by cases hj;omega⟩
  ·have hb:((x::l).map cI).length*8<=2^46:=by rw [List.length_map];omega
   have hne:(x::l).map cI≠[]:=by simp
   simp only [qd3,hlen,List.length_map,List.length_cons,evR];have e0:evOp [(5,.fslice 1 []),(6,v)] N ⟨O,N⟩ (.append .row 1 8 (.t 5) (.t 6))=some (.row N 1 0 ((x::l).map cI).length,(AH.mk O N).put N (.row 1 ((x::l).map cI))):=by
    simp only [evOp,evX,look];simp only [show ¬(5:Nat)=6 by decide,if_true,if_false,hs,ha];simp only [List.length_nil,Nat.zero_add,List.nil_append,true_or,true_and];rw [if_pos ⟨hne,hb⟩]
   rw [e0];simp [hN]
  ·exact .row N _ _ _ rfl (by rw [qag,hN];simp) (Qb _) (by rw [List.take_length])
end Go.Av
