/-
 Tables: kinds, widths and the actions that they allow, on both sides.
-/
import Derived.Test.YtakklbipljodeaaGreatSK3
set_option linter.unusedVariables false
set_option linter.unusedSimpArgs false
set_option linter.constructorNameAsVariable false
namespace Go.Av
set_option maxRecDepth 4000
def tOk (p:Prg) (t:Int):Bool:=decide ((tblE p t).2=0)
theorem keyV {p:Prg} {x:Tbl} (h:keyE p x=none):∀k∈x.keys,k.kind=1∨k.kind=2∨k.kind=3:=by
 intro k hk
 obtain ⟨i,hi,rfl⟩:=List.getElem_of_mem hk
 have:=(fe_all.1 h) i hi
 simp [hi] at this
 split at this
 ·cases this
 ·split at this
  ·assumption
  ·cases this
structure TOk (p:Prg) (k:Nat) (hk:k<p.tables.length):Prop where
 keys:p.tables[k].keys.length≤6
 acts:p.tables[k].actions.length≤16
 kinds:∀x∈p.tables[k].keys,x.kind=1∨x.kind=2∨x.kind=3
 size:1≤p.tables[k].size∧p.tables[k].size≤256
theorem qgx {p:Prg} {t:Int} (h:tOk p t=true):∃(k:Nat) (hk:k<p.tables.length),t=k∧TOk p k hk:=by
 simp only [tOk,decide_eq_true_eq] at h
 by_cases i0:t<0
 ·simp [tblE,qbk i0] at h
 by_cases i1:(p.tables.length:Int)≤t
 ·simp [tblE,qbj i1] at h
 obtain ⟨k,rfl⟩:∃k:Nat,t=k:=⟨t.toNat,by omega⟩
 have hk:k<p.tables.length:=by omega
 refine ⟨k,hk,rfl,?_⟩
 unfold tblE at h
 rw [qu5,List.getElem?_eq_getElem hk] at h
 dsimp only at h
 by_cases z0:idS p.tables[k].name=false
 ·rw [if_pos z0] at h;cases h
 rw [if_neg z0] at h
 by_cases z1:6<p.tables[k].keys.length∨16<p.tables[k].actions.length
 ·rw [if_pos z1] at h;cases h
 rw [if_neg z1] at h
 by_cases z2:p.tables[k].size<1∨256<p.tables[k].size
 ·rw [if_pos z2] at h;cases h
 rw [if_neg z2] at h
 by_cases z3:(qej p p.tables[k]).2≠0
 ·rw [if_pos z3] at h;exact absurd h z3
 refine ⟨by omega,by omega,?_,by omega⟩
 unfold qej at z3
 cases q:keyE p p.tables[k] with
 | none=>exact keyV q
 | some e=>
  exfalso
  rw [q] at z3
  dsimp only at z3
  obtain ⟨i,hi,hx⟩:=qed q
  simp only [Option.bind_eq_some_iff] at hx
  obtain ⟨y,_,hy⟩:=hx
  split at hy
  ·cases hy;exact z3 (by simp)
  ·split at hy
   ·cases hy
   ·cases hy;exact z3 (by simp)
theorem qkx (p:Prg) (f:PrgS p) (t:Int):qab Φ f_260 [.agg (Prg.c p),.int .i64 t]=some (.val (.bool (tOk p t))):=by
 rw [qaa (fn:=c_260) rfl rfl]
 have h:=qod p f t
 simp only [Prg.e] at h
 simp [c_260,Prg.e,h,tOk]
theorem qjt (p:Prg) (f:PrgS p) (hv:∀t∈p.tables,∀v∈t.dflt.args,ok32 0 v) (t:Int):qab Φ f_252 [.agg (Prg.c p),.int .i64 t]=some (.val (.bool (tOk p t))):=by
 rw [qaa (fn:=c_252) rfl rfl]
 have h:=qmb p f hv t
 simp only [Prg.e] at h
 simp [c_252,Prg.e,h,tOk]
def kMax:List TableKey→Int→Int
 | [],a=>a
 | k::r,a=>kMax r (max a k.kind)
def qfz (p:Prg) (t:Int):Int:=if tOk p t then (match at? p.tables t with
 | some x=>kMax x.keys 1
 | none=>0) else 0
theorem qv7:∀(l:List TableKey) (a:Int),a=3→(∀x∈l,x.kind=1∨x.kind=2∨x.kind=3)→kMax l a=3
 | [],a,h,_=>h
 | k::r,a,h,hk=>by
  subst h
  have:=hk k (by simp)
  simp only [kMax]
  exact qv7 r _ (by omega) fun x hx=>hk x (by simp [hx])
theorem qzt (p:Prg) (f:PrgS p) (t:Int):qab Φ f_178 [.agg (Prg.c p),.int .i64 t]=some (.val (.int .i64 (qfz p t))):=by
 rw [qaa (fn:=c_178) rfl rfl]
 have h:=qkx p f t
 simp only [Prg.e] at h
 cases q:tOk p t with
 | false=>
  rw [q] at h
  simp [c_178,Prg.e,h,qfz,q]
 | true=>
 rw [q] at h
 obtain ⟨k,hk,rfl,o⟩:=qgx q
 have hK:qfz p (k:Int)=kMax p.tables[k].keys 1:=by simp [qfz,q,hk]
 rw [hK]
 have hb:=o.keys
 simp [c_178,Prg.e,h,hk,Tbl.e]
 refine qau p.tables[k].keys.length (fun _=>[]) 0 (fun i e=>look 17 e=some (.slice 3 (p.tables[k].keys.map TableKey.c))∧look 18 e=some (.int .i64 p.tables[k].keys.length)∧look 19 e=some (.int .i64 i)∧∃a:Int,look 5 e=some (.int .i64 a)∧(a=1∨a=2)∧kMax (p.tables[k].keys.drop i) a=kMax p.tables[k].keys 1)
  (fun _=>some (Rt.val (.int .i64 (kMax p.tables[k].keys 1)))) ?_ ?_ 0 _ 0 (Nat.zero_le _) (Nat.le_refl _) ?_
 ·rintro i e n L hi hL _ ⟨h17,h18,h19,a,h5,ha,hm⟩ ih
  have hw:IntKind.wrap .i64 ((i:Int)+1)=((i+1:Nat):Int):=qad (by omega) (by omega)
  rw [List.drop_eq_getElem_cons hi] at hm
  simp only [kMax] at hm
  have hkk:=o.kinds _ (List.getElem_mem hi)
  by_cases k3:p.tables[k].keys[i].kind=3
  ·have:kMax p.tables[k].keys 1=3:=by
    rw [← hm]
    exact qv7 _ _ (by omega) fun x hx=>o.kinds x (List.mem_of_mem_drop hx)
   rw [this]
   simp [c_178_l0,TableKey.e,h5,h17,h18,h19,hi,hL,k3]
  by_cases k2:p.tables[k].keys[i].kind=2
  ·simp [c_178_l0,TableKey.e,h5,h17,h18,h19,hi,hL,k2,hw]
   exact ih _ _ (Nat.zero_le _) ⟨by simp [h17],by simp [h18],by simp,2,by simp,.inr rfl,by rw [← hm];congr 1;omega⟩
  ·simp [c_178_l0,TableKey.e,h5,h17,h18,h19,hi,hL,k3,k2,hw]
   exact ih _ _ (Nat.zero_le _) ⟨by simp [h17],by simp [h18],by simp,a,by simp [h5],ha,by rw [← hm];congr 1;omega⟩
 ·rintro e n L hL _ ⟨h17,h18,h19,a,h5,ha,hm⟩
  rw [List.drop_length] at hm
  simp only [kMax] at hm
  rw [← hm]
  simp [c_178_l0,c_178_k1,h5,h17,h18,h19,hL]
 ·simp
theorem qyw (p:Prg) (f:PrgS p) (hv:∀t∈p.tables,∀v∈t.dflt.args,ok32 0 v) (t:Int):qab Φ f_251 [.agg (Prg.c p),.int .i64 t]=some (.val (.int .i64 (qfz p t))):=by
 rw [qaa (fn:=c_251) rfl rfl]
 have h:=qjt p f hv t
 simp only [Prg.e] at h
 cases q:tOk p t with
 | false=>
  rw [q] at h
  simp [c_251,Prg.e,h,qfz,q]
 | true=>
 rw [q] at h
 obtain ⟨k,hk,rfl,o⟩:=qgx q
 have hK:qfz p (k:Int)=kMax p.tables[k].keys 1:=by simp [qfz,q,hk]
 rw [hK]
 have hb:=o.keys
 simp [c_251,Prg.e,h]
 refine qau p.tables[k].keys.length (fun _=>[]) 0 (fun i e=>look 2 e=some (.iptr 9 [Prg.c p] 0 0)∧look 1 e=some (.int .i64 k)∧look 6 e=some (.int .i64 i)∧∃a:Int,look 5 e=some (.int .i64 a)∧kMax (p.tables[k].keys.drop i) a=kMax p.tables[k].keys 1)
  (fun _=>some (Rt.val (.int .i64 (kMax p.tables[k].keys 1)))) ?_ ?_ 0 _ 0 (Nat.zero_le _) (Nat.le_refl _) ?_
 ·rintro i e n L hi hL _ ⟨h2,h1,h6,a,h5,hm⟩ ih
  have hw:IntKind.wrap .i64 ((i:Int)+1)=((i+1:Nat):Int):=qad (by omega) (by omega)
  rw [List.drop_eq_getElem_cons hi] at hm
  simp only [kMax] at hm
  rw [Prg.e] at h2
  simp [c_251_l0,TableKey.e,Tbl.e,h1,h2,h5,h6,hk,hi,hL,hw]
  exact ih _ _ (Nat.zero_le _) ⟨by simp [h2,Prg.e],by simp [h1],by simp,max a p.tables[k].keys[i].kind,by simp;split<;>omega,hm⟩
 ·rintro e n L hL _ ⟨h2,h1,h6,a,h5,hm⟩
  rw [List.drop_length] at hm
  simp only [kMax] at hm
  rw [Prg.e] at h2
  rw [← hm]
  simp [c_251_l0,c_251_k1,Tbl.e,h1,h2,h5,h6,hk,hL]
 ·simp [Prg.e]
end Go.Av
namespace Go.Av
set_option maxRecDepth 4000
theorem quz (p:Prg) (f:PrgS p) (k:Nat) (hk:k<p.tables.length) (q:tOk p k=true):qab Φ f_176 [.agg (Prg.c p),.int .i64 k]=some (.val (.slice 1 ((kWid p p.tables[k]).map cI))):=by
 rw [qaa (fn:=c_176) rfl rfl]
 have h:=qkx p f k
 rw [q] at h
 simp only [Prg.e] at h
 obtain ⟨k',hk',e,o⟩:=qgx q
 obtain rfl:k=k':=by omega
 have hb:=o.keys
 have e0:(kWid p p.tables[k]).map cI=p.tables[k].keys.map fun y=>[AV.int .i64 (wid p y.field.header y.field.field)]:=by simp [kWid,cI]
 rw [e0]
 simp [c_176,Prg.e,h,hk,Tbl.e]
 refine (qau p.tables[k].keys.length (fun i=>[(0,.tok 1 i)]) 1 (fun i e=>look 2 e=some (.iptr 9 [Prg.c p] 0 0)∧look 5 e=some (.app 1 ((p.tables[k].keys.map fun y=>[AV.int .i64 (wid p y.field.header y.field.field)]).take i) 0)∧look 17 e=some (.slice 3 (p.tables[k].keys.map TableKey.c))∧look 18 e=some (.int .i64 p.tables[k].keys.length)∧look 19 e=some (.int .i64 i))
  (fun _=>some (Rt.val (.slice 1 (p.tables[k].keys.map fun y=>[AV.int .i64 (wid p y.field.header y.field.field)])))) ?_ ?_ 0 _ 1 (Nat.zero_le _) (Nat.le_refl _) ?_).trans (by simp)
 ·rintro i e n L hi hL hn ⟨h2,h5,h17,h18,h19⟩ ih
  have hw:IntKind.wrap .i64 ((i:Int)+1)=((i+1:Nat):Int):=qad (by omega) (by omega)
  have hv:=qnh p p.tables[k].keys[i].field.header p.tables[k].keys[i].field.field
  simp only [Prg.e] at hv
  rw [Prg.e] at h2
  have hn0:¬(0=n):=by omega
  have hn1:¬(n=0):=by omega
  have hm:min i p.tables[k].keys.length=i:=by omega
  have hb:(i+1)*8≤70368744177664:=by omega
  simp [c_176_l0,TableKey.e,h2,h5,h17,h18,h19,hi,hL,hw,hn0,hn1,hm,hb,hv]
  exact ih _ _ (by omega) ⟨by simp [h2,Prg.e],by simp [h5,qav hi],by simp [h17],by simp [h18],by simp⟩
 ·rintro e n L hL hn ⟨h2,h5,h17,h18,h19⟩
  simp [c_176_l0,c_176_k1,h5,h17,h18,h19,hL]
 ·simp [Prg.e]
theorem qun (p:Prg) (f:PrgS p) (hv:∀t∈p.tables,∀v∈t.dflt.args,ok32 0 v) (k:Nat) (hk:k<p.tables.length) (q:tOk p k=true):qab Φ f_249 [.agg (Prg.c p),.int .i64 k]=some (.val (.slice 1 ((kWid p p.tables[k]).map cI))):=by
 rw [qaa (fn:=c_249) rfl rfl]
 have h:=qjt p f hv k
 rw [q] at h
 simp only [Prg.e] at h
 obtain ⟨k',hk',e,o⟩:=qgx q
 obtain rfl:k=k':=by omega
 have hb:=o.keys
 have e0:(kWid p p.tables[k]).map cI=p.tables[k].keys.map fun y=>[AV.int .i64 (wid p y.field.header y.field.field)]:=by simp [kWid,cI]
 rw [e0]
 simp [c_249,Prg.e,h]
 refine (qau p.tables[k].keys.length (fun i=>[(0,.tok 1 i)]) 1 (fun i e=>look 2 e=some (.iptr 9 [Prg.c p] 0 0)∧look 1 e=some (.int .i64 k)∧look 5 e=some (.app 1 ((p.tables[k].keys.map fun y=>[AV.int .i64 (wid p y.field.header y.field.field)]).take i) 0)∧look 6 e=some (.int .i64 i))
  (fun _=>some (Rt.val (.slice 1 (p.tables[k].keys.map fun y=>[AV.int .i64 (wid p y.field.header y.field.field)])))) ?_ ?_ 0 _ 1 (Nat.zero_le _) (Nat.le_refl _) ?_).trans (by simp)
 ·rintro i e n L hi hL hn ⟨h2,h1,h5,h6⟩ ih
  have hw:IntKind.wrap .i64 ((i:Int)+1)=((i+1:Nat):Int):=qad (by omega) (by omega)
  have hv:=qo5 p p.tables[k].keys[i].field.header p.tables[k].keys[i].field.field
  simp only [Prg.e] at hv
  rw [Prg.e] at h2
  have hn0:¬(0=n):=by omega
  have hn1:¬(n=0):=by omega
  have hm:min i p.tables[k].keys.length=i:=by omega
  have hb:(i+1)*8≤70368744177664:=by omega
  simp [c_249_l0,TableKey.e,Tbl.e,h1,h2,h5,h6,hk,hi,hL,hw,hn0,hn1,hm,hb,hv]
  exact ih _ _ (by omega) ⟨by simp [h2,Prg.e],by simp [h1],by simp [h5,qav hi],by simp⟩
 ·rintro e n L hL hn ⟨h2,h1,h5,h6⟩
  rw [Prg.e] at h2
  simp [c_249_l0,c_249_k1,Tbl.e,h1,h2,h5,h6,hk,hL]
 ·simp [Prg.e]
def tAl (p:Prg) (t a:Int):Bool:=tOk p t&&(match at? p.tables t with
 | some x=>x.actions.any fun s=>decide (s=a)
 | none=>false)
theorem qnd (p:Prg) (f:PrgS p) (t a:Int):qab Φ f_179 [.agg (Prg.c p),.int .i64 t,.int .i64 a]=some (.val (.bool (tAl p t a))):=by
 rw [qaa (fn:=c_179) rfl rfl]
 have h:=qkx p f t
 simp only [Prg.e] at h
 cases q:tOk p t with
 | false=>
  rw [q] at h
  simp [c_179,Prg.e,h,tAl,q]
 | true=>
 rw [q] at h
 obtain ⟨k,hk,rfl,o⟩:=qgx q
 have hK:tAl p (k:Int) a=p.tables[k].actions.any fun s=>decide (s=a):=by simp [tAl,q,hk]
 rw [hK]
 have hb:=o.acts
 simp [c_179,Prg.e,h,hk,Tbl.e]
 refine (qau p.tables[k].actions.length (fun _=>[]) 0 (fun i e=>look 2 e=some (.int .i64 a)∧look 18 e=some (.slice 1 (p.tables[k].actions.map cI))∧look 19 e=some (.int .i64 p.tables[k].actions.length)∧look 20 e=some (.int .i64 i))
  (fun i=>some (Rt.val (.bool ((p.tables[k].actions.drop i).any fun s=>decide (s=a))))) ?_ ?_ 0 _ 0 (Nat.zero_le _) (Nat.le_refl _) ?_).trans (by simp)
 ·rintro i e n L hi hL _ ⟨h2,h18,h19,h20⟩ ih
  have hw:IntKind.wrap .i64 ((i:Int)+1)=((i+1:Nat):Int):=qad (by omega) (by omega)
  rw [List.drop_eq_getElem_cons hi,List.any_cons]
  by_cases z:p.tables[k].actions[i]=a
  ·generalize hX:some (Rt.val (AV.bool (decide (p.tables[k].actions[i]=a) || (p.tables[k].actions.drop (i+1)).any fun s=>decide (s=a))))=X
   simp [c_179_l0,cI,h2,h18,h19,h20,hi,hL,z]
   rw [← hX]
   simp [z]
  ·rw [show (decide (p.tables[k].actions[i]=a) || (p.tables[k].actions.drop (i+1)).any fun s=>decide (s=a))=(p.tables[k].actions.drop (i+1)).any fun s=>decide (s=a) by simp [z]]
   generalize hX:some (Rt.val (AV.bool ((p.tables[k].actions.drop (i+1)).any fun s=>decide (s=a))))=X
   simp [c_179_l0,cI,h2,h18,h19,h20,hi,hL,z,hw]
   rw [← hX]
   exact ih _ _ (Nat.zero_le _) ⟨by simp [h2],by simp [h18,cI],by simp [h19],by simp⟩
 ·rintro e n L hL _ ⟨h2,h18,h19,h20⟩
  simp [c_179_l0,c_179_k1,h2,h18,h19,h20,hL]
 ·simp
theorem qm5 (p:Prg) (f:PrgS p) (hv:∀t∈p.tables,∀v∈t.dflt.args,ok32 0 v) (t a:Int):qab Φ f_155 [.agg (Prg.c p),.int .i64 t,.int .i64 a]=some (.val (.bool (tAl p t a))):=by
 rw [qaa (fn:=c_155) rfl rfl]
 have h:=qjt p f hv t
 simp only [Prg.e] at h
 cases q:tOk p t with
 | false=>
  rw [q] at h
  simp [c_155,Prg.e,h,tAl,q]
 | true=>
 rw [q] at h
 obtain ⟨k,hk,rfl,o⟩:=qgx q
 have hK:tAl p (k:Int) a=p.tables[k].actions.any fun s=>decide (s=a):=by simp [tAl,q,hk]
 have hb:=o.acts
 have hx:=qkt p.tables[k].actions a (by omega)
 rw [hK,← qiw]
 simp [c_155,Prg.e,Tbl.e,h,hk,hx]
end Go.Av
namespace Go.Av
set_option maxRecDepth 4000
def pmI (n k:Nat):Int:=2^k - 2^(k - n)
theorem qaed:∀k:Nat,k<33→∀n:Nat,n<33→n≤k→qf8 .u32 (2^k - 1) (ishr .u32 (2^k - 1) (n:Int))=pmI n k:=by decide+kernel
theorem qyf (n k:Nat) (h:n≤k) (h1:1≤k) (h2:k≤32):qab Φ f_319 [.int .i64 n,.int .i64 k]=some (.val (.int .u32 (pmI n k))):=by
 rw [qaa (fn:=c_319) rfl rfl]
 have hv:=qh9 k
 have hm:=qfk k
 have hw:wBad (k:Int)=false:=wBad_false.2 ⟨by omega,by omega⟩
 have hM:qa7 (k:Int)=2^k - 1:=by simp [qa7,hw]
 rw [hw] at hv
 rw [hM] at hm
 have hp:=qaed k (by omega) n (by omega) h
 have n1:¬((n:Int)<0):=by omega
 have n2:¬((k:Int)<n):=by omega
 simp [c_319,hv,hm,n1,n2]
 exact hp
theorem qae3:∀k:Nat,k<33→∀n:Nat,n<33→n≤k→IntKind.wrap .u32 (IntKind.wrap .u64 (2^k - 2^(k - n)))=pmI n k:=by decide+kernel
theorem qwx (n k:Nat) (h:n≤k) (h1:1≤k) (h2:k≤32):qab Φ f_338 [.int .i64 n,.int .i64 k]=some (.val (.int .u32 (pmI n k))):=by
 rw [qaa (fn:=c_338) rfl rfl]
 have hv:=qh7 k
 have hw:wBad (k:Int)=false:=wBad_false.2 ⟨by omega,by omega⟩
 rw [hw] at hv
 have p1:=qjo k (by omega)
 have p2:=qjo (k - n) (by omega)
 have hs:IntKind.wrap .i64 ((k:Int) - n)=((k - n:Nat):Int):=by
  rw [show (k:Int) - n=((k - n:Nat):Int) by omega]
  exact qad (by omega) (by omega)
 have n1:¬((n:Int)<0):=by omega
 have n2:¬((k:Int)<n):=by omega
 simp [c_338,hv,p1,p2,n1,n2,hs]
 exact qae3 k (by omega) n (by omega) h
def plG (m:Int) (k:Nat) (n:Nat):Option Int:=if pmI n k=m then some (n:Int) else none
def plE (m w:Int):Option Int:=if wBad w then none else fe (plG m w.toNat) (w.toNat+1) 0
def plV (o:Option Int):Rt:= .val (.tup [.int .i64 (o.getD 0),.bool o.isSome])
theorem qabm (m w:Int):qab Φ f_263 [.int .u32 m,.int .i64 w]=some (plV (plE m w)):=by
 rw [qaa (fn:=c_263) rfl rfl]
 have hv:=qh9 w
 cases q:wBad w with
 | true=>
  rw [q] at hv
  simp [c_263,hv,plE,q,plV]
 | false=>
 rw [q] at hv
 obtain ⟨w1,w2⟩:=wBad_false.1 q
 obtain ⟨k,rfl⟩:∃k:Nat,w=k:=⟨w.toNat,by omega⟩
 have hw1:IntKind.wrap .i64 ((k:Int)+1)=((k+1:Nat):Int):=qad (by omega) (by omega)
 have hE:plE m (k:Int)=fe (plG m k) (k+1) 0:=by simp [plE,q]
 rw [hE]
 simp [c_263,hv,hw1]
 refine qau (k+1) (fun _=>[]) 0 (fun i e=>look 0 e=some (.int .u32 m)∧look 1 e=some (.int .i64 k)∧look 12 e=some (.int .i64 ((k:Int)+1))∧look 13 e=some (.int .i64 i))
  (fun i=>some (plV (fe (plG m k) (k+1) i))) ?_ ?_ 0 _ 0 (Nat.zero_le _) (Nat.le_refl _) ?_
 ·rintro i e n L hi hL _ ⟨h0,h1,h12,h13⟩ ih
  have hw:IntKind.wrap .i64 ((i:Int)+1)=((i+1:Nat):Int):=qad (by omega) (by omega)
  have hp:=qyf i k (by omega) (by omega) (by omega)
  have hlt:(i:Int)<(k:Int)+1:=by omega
  by_cases z:pmI i k=m
  ·rw [qah (x:=(i:Int)) hi (by simp [plG,z])]
   subst z
   simp [c_263_l0,h0,h1,h12,h13,hL,hp,hlt,plV]
  ·rw [qap hi (by simp [plG,z])]
   generalize hX:some (plV (fe (plG m k) (k+1) (i+1)))=X
   simp [c_263_l0,h0,h1,h12,h13,hL,hp,hlt,z,hw]
   rw [← hX]
   exact ih _ _ (Nat.zero_le _) ⟨by simp [h0],by simp [h1],by simp [h12],by simp⟩
 ·rintro e n L hL _ ⟨h0,h1,h12,h13⟩
  rw [qaz]
  simp [c_263_l0,c_263_k1,h0,h1,h12,h13,hL,plV]
 ·simp
theorem qy0 (m w:Int):qab Φ f_307 [.int .u32 m,.int .i64 w]=some (plV (plE m w)):=by
 rw [qaa (fn:=c_307) rfl rfl]
 have hv:=qh7 w
 cases q:wBad w with
 | true=>
  rw [q] at hv
  simp [c_307]
  rw [qay]
  by_cases z:0≤w
  ·simp [c_307_l0,c_307_k1,hv,z,plE,q,plV]
  ·simp [c_307_l0,c_307_k1,z,plE,q,plV]
 | false=>
 rw [q] at hv
 obtain ⟨w1,w2⟩:=wBad_false.1 q
 obtain ⟨k,rfl⟩:∃k:Nat,w=k:=⟨w.toNat,by omega⟩
 have hE:plE m (k:Int)=fe (plG m k) (k+1) 0:=by simp [plE,q]
 rw [hE]
 simp [c_307]
 refine qau (k+1) (fun _=>[]) 0 (fun i e=>look 0 e=some (.int .u32 m)∧look 1 e=some (.int .i64 k)∧look 6 e=some (.int .i64 i))
  (fun i=>some (plV (fe (plG m k) (k+1) i))) ?_ ?_ 0 _ 0 (Nat.zero_le _) (Nat.le_refl _) ?_
 ·rintro i e n L hi hL _ ⟨h0,h1,h6⟩ ih
  have hw:IntKind.wrap .i64 ((i:Int)+1)=((i+1:Nat):Int):=qad (by omega) (by omega)
  have hp:=qwx i k (by omega) (by omega) (by omega)
  have hle:i≤k:=by omega
  by_cases z:pmI i k=m
  ·rw [qah (x:=(i:Int)) hi (by simp [plG,z])]
   subst z
   simp [c_307_l0,h0,h1,h6,hL,hv,hp,hle,plV]
  ·rw [qap hi (by simp [plG,z])]
   generalize hX:some (plV (fe (plG m k) (k+1) (i+1)))=X
   simp [c_307_l0,h0,h1,h6,hL,hv,hp,hle,z,hw]
   rw [← hX]
   exact ih _ _ (Nat.zero_le _) ⟨by simp [h0],by simp [h1],by simp⟩
 ·rintro e n L hL _ ⟨h0,h1,h6⟩
  rw [qaz]
  have hgt:¬((k:Int)+1≤(k:Int)):=by omega
  simp [c_307_l0,c_307_k1,h0,h1,h6,hL,hgt,plV]
 ·simp
end Go.Av
namespace Go.Av
set_option maxRecDepth 4000
theorem KeyMatch.ce (m:KeyMatch):KeyMatch.c m=[.int .u32 m.value,.int .u32 m.mask]:=by simp [KeyMatch.c]
def keyK (m:KeyMatch) (kind w:Int):Int:=
 if fits m.value w=false∨fits m.mask w=false then 9
 else if m.value.toNat&&& m.mask.toNat≠m.value.toNat then 5
 else if kind=1∧m.mask≠qa7 w then 11
 else if kind=2∧(plE m.mask w).isSome=false then 11 else 0
theorem qaaq (m:KeyMatch) (kind w:Int) (h1:ok32 0 m.value) (h2:ok32 0 m.mask):qab Φ f_177 [.agg (KeyMatch.c m),.int .i64 kind,.int .i64 w]=some (.val (.int .i64 (keyK m kind w))):=by
 rw [qaa (fn:=c_177) rfl rfl]
 have f1:=qit m.value w
 have f2:=qit m.mask w
 have hm:=qfk w
 have hp:=qabm m.mask w
 have ha:=qkh h1 h2
 unfold keyK
 cases q1:fits m.value w with
 | false=>rw [q1] at f1;simp [c_177,KeyMatch.ce,f1]
 | true=>
 rw [q1] at f1
 cases q2:fits m.mask w with
 | false=>rw [q2] at f2;simp [c_177,KeyMatch.ce,f1,f2]
 | true=>
 rw [q2] at f2
 by_cases z:qf8 .u32 m.value m.mask=0
 rotate_left
 ·have z':¬(m.value.toNat&&& m.mask.toNat=m.value.toNat):=fun h=>z (ha.2 h)
  simp [c_177,KeyMatch.ce,f1,f2,z,z']
 have z':=ha.1 z
 by_cases k1:kind=1
 ·subst k1
  by_cases y:m.mask=qa7 w
  ·rw [y] at f2 z z'
   simp [c_177,KeyMatch.ce,f1,f2,z,z',hm,y]
  ·simp [c_177,KeyMatch.ce,f1,f2,z,z',hm,y]
 by_cases k2:kind=2
 ·subst k2
  cases y:plE m.mask w with
  | none=>rw [y] at hp;simp [plV] at hp;simp [c_177,KeyMatch.ce,f1,f2,z,z',hp]
  | some x=>rw [y] at hp;simp [plV] at hp;simp [c_177,KeyMatch.ce,f1,f2,z,z',hp]
 simp [c_177,KeyMatch.ce,f1,f2,z,z',k1,k2]
theorem qaca (m:KeyMatch) (kind w:Int) (h1:ok32 0 m.value) (h2:ok32 0 m.mask):qab Φ f_250 [.agg (KeyMatch.c m),.int .i64 w,.int .i64 kind]=some (.val (.int .i64 (keyK m kind w))):=by
 rw [qaa (fn:=c_250) rfl rfl]
 have f1:=ql9 m.value w h1
 have f2:=ql9 m.mask w h2
 have hm:=qrl w
 have hp:=qy0 m.mask w
 have ha:=qos h1 h2
 simp [plV] at hp
 unfold keyK
 cases q1:fits m.value w with
 | false=>rw [q1] at f1;simp [c_250,KeyMatch.ce,hp,f1]
 | true=>
 rw [q1] at f1
 cases q2:fits m.mask w with
 | false=>rw [q2] at f2;simp [c_250,KeyMatch.ce,hp,f1,f2]
 | true=>
 rw [q2] at f2
 by_cases z:iand .u32 m.value m.mask=m.value
 rotate_left
 ·have z':¬(m.value.toNat&&& m.mask.toNat=m.value.toNat):=fun h=>z (ha.2 h)
  simp [c_250,KeyMatch.ce,hp,f1,f2,z,z']
 have z':=ha.1 z
 by_cases k1:kind=1
 ·subst k1
  by_cases y:m.mask=qa7 w
  ·rw [y] at hp f2 z z'
   simp [c_250,KeyMatch.ce,hp,f1,f2,z,z',hm,y]
  ·simp [c_250,KeyMatch.ce,hp,f1,f2,z,z',hm,y]
 by_cases k2:kind=2
 ·subst k2
  cases y:plE m.mask w with
  | none=>rw [y] at hp;simp [c_250,KeyMatch.ce,f1,f2,z,z',hp]
  | some x=>rw [y] at hp;simp [c_250,KeyMatch.ce,f1,f2,z,z',hp]
 simp [c_250,KeyMatch.ce,hp,f1,f2,z,z',k1,k2]
end Go.Av
namespace Go.Av
set_option maxRecDepth 4000
structure EntS (x:Entry):Prop where
 kl:x.keys.length<2^40
 ks:∀m∈x.keys,ok32 0 m.value∧ok32 0 m.mask
 al:x.call.args.length<2^40
 ar:∀v∈x.call.args,ok32 0 v
def entF (p:Prg) (t:Int) (x:Entry):Int:=if x.priority<0 then 9 else if 255<x.priority then 9 else if x.priority≠0∧qfz p t≠3 then 11 else if tAl p t x.call.action=false then 8 else qdi p x.call
def entG (p:Prg) (tb:Tbl) (x:Entry) (i:Nat):Option Int:=match x.keys[i]?,tb.keys[i]? with
 | some m,some k=>if keyK m k.kind (wid p k.field.header k.field.field)=0 then none else some (keyK m k.kind (wid p k.field.header k.field.field))
 | _,_=>none
def entE (p:Prg) (t:Int) (x:Entry):Int:=if (tblE p t).2≠0 then (tblE p t).2 else match at? p.tables t with
 | some tb=>if x.keys.length≠tb.keys.length then 2 else (fe (entG p tb x) tb.keys.length 0).getD (entF p t x)
 | none=>0
theorem qaas (p:Prg) (f:PrgS p) (t:Int) (x:Entry) (s:EntS x) (e:Env) (n:Nat) (h1:look 1 e=some (.int .i64 t)) (h3:look 3 e=some (.iptr 9 [Prg.c p] 0 0)) (h5:look 5 e=some (.iptr 4 [Entry.c x] 0 0)):
  go Φ (finP [.tmp 6]) [.c c_86_k1] .normal ⟨e,⟨[],n⟩⟩=some (.val (.int .i64 (entF p t x))):=by
 have hk:=qzt p f t
 have ha:=qnd p f t x.call.action
 have hc:=qlz p f x.call s.al
 simp only [Prg.e,ActionCall.ce] at hk ha hc
 rw [Prg.e] at h3
 rw [Entry.ce] at h5
 unfold entF
 by_cases p0:x.priority<0
 ·simp [c_86_k1,h5,p0]
 by_cases p1:255<x.priority
 ·simp [c_86_k1,h5,p0,p1]
 by_cases p2:x.priority=0
 ·cases q:tAl p t x.call.action with
  | false=>rw [q] at ha;simp [c_86_k1,h1,h3,h5,p2,ha]
  | true=>rw [q] at ha;simp [c_86_k1,h1,h3,h5,p2,ha,hc]
 by_cases p3:qfz p t=3
 ·cases q:tAl p t x.call.action with
  | false=>rw [q] at ha;simp [c_86_k1,h1,h3,h5,p0,p1,p2,p3,hk,ha]
  | true=>rw [q] at ha;simp [c_86_k1,h1,h3,h5,p0,p1,p2,p3,hk,ha,hc]
 ·simp [c_86_k1,h1,h3,h5,p0,p1,p2,p3,hk]
theorem qaar (p:Prg) (f:PrgS p) (t:Int) (x:Entry) (s:EntS x):qab Φ f_86 [.agg (Prg.c p),.int .i64 t,.agg (Entry.c x)]=some (.val (.int .i64 (entE p t x))):=by
 rw [qaa (fn:=c_86) rfl rfl]
 have h:=qod p f t
 simp only [Prg.e] at h
 by_cases z:(tblE p t).2=0
 rotate_left
 ·simp [c_86,Prg.e,Entry.ce,h,z,entE]
 have q:tOk p t=true:=by simp [tOk,z]
 obtain ⟨k,hk,rfl,o⟩:=qgx q
 have hw:=quz p f k hk q
 simp only [Prg.e] at hw
 have hb:=o.keys
 by_cases y:x.keys.length=p.tables[k].keys.length
 rotate_left
 ·simp [c_86,Prg.e,Entry.ce,Tbl.e,hk,h,z,hw,y,entE]
 have hE:entE p (k:Int) x=(fe (entG p p.tables[k] x) p.tables[k].keys.length 0).getD (entF p k x):=by simp [entE,z,hk,y]
 rw [hE]
 simp [c_86,Prg.e,Entry.ce,Tbl.e,hk,h,z,hw,y]
 refine qau p.tables[k].keys.length (fun _=>[]) 0 (fun i e=>look 1 e=some (.int .i64 k)∧look 3 e=some (.iptr 9 [Prg.c p] 0 0)∧look 5 e=some (.iptr 4 [Entry.c x] 0 0)∧look 9 e=some (.slice 3 (p.tables[k].keys.map TableKey.c))∧look 10 e=some (.slice 1 ((kWid p p.tables[k]).map cI))∧look 39 e=some (.slice 2 (x.keys.map KeyMatch.c))∧look 40 e=some (.int .i64 p.tables[k].keys.length)∧look 41 e=some (.int .i64 i))
  (fun i=>some (Rt.val (.int .i64 ((fe (entG p p.tables[k] x) p.tables[k].keys.length i).getD (entF p k x))))) ?_ ?_ 0 _ 0 (Nat.zero_le _) (Nat.le_refl _) ?_
 ·rintro i e n L hi hL _ ⟨h1,h3,h5,h9,h10,h39,h40,h41⟩ ih
  have hi2:i<x.keys.length:=by omega
  have hi3:i<(kWid p p.tables[k]).length:=by simp [kWid];exact hi
  have hkw:(kWid p p.tables[k])[i]=wid p p.tables[k].keys[i].field.header p.tables[k].keys[i].field.field:=by simp [kWid]
  have hw:IntKind.wrap .i64 ((i:Int)+1)=((i+1:Nat):Int):=qad (by omega) (by omega)
  have hm:=s.ks _ (List.getElem_mem hi2)
  have hc:=qaaq x.keys[i] p.tables[k].keys[i].kind (wid p p.tables[k].keys[i].field.header p.tables[k].keys[i].field.field) hm.1 hm.2
  simp only [KeyMatch.ce] at hc
  by_cases v:keyK x.keys[i] p.tables[k].keys[i].kind (wid p p.tables[k].keys[i].field.header p.tables[k].keys[i].field.field)=0
  ·rw [qap hi (by simp [entG,hi,hi2,v])]
   rw [v] at hc
   generalize hX:some (Rt.val (AV.int .i64 ((fe (entG p p.tables[k] x) p.tables[k].keys.length (i+1)).getD (entF p k x))))=X
   simp [c_86_l0,TableKey.e,KeyMatch.ce,cI,h1,h9,h10,h39,h40,h41,hi,hi2,hi3,hkw,hL,hc,hw]
   rw [← hX]
   exact ih _ _ (Nat.zero_le _) ⟨by simp [h1],by simp [h3],by simp [h5],by simp [h9],by simp [h10,cI],by simp [h39],by simp [h40],by simp⟩
  ·rw [qah (x:=keyK x.keys[i] p.tables[k].keys[i].kind (wid p p.tables[k].keys[i].field.header p.tables[k].keys[i].field.field)) hi (by simp [entG,hi,hi2,v])]
   simp [c_86_l0,TableKey.e,KeyMatch.ce,cI,h1,h9,h10,h39,h40,h41,hi,hi2,hi3,hkw,hL,hc,v]
 ·rintro e n L hL _ ⟨h1,h3,h5,h9,h10,h39,h40,h41⟩
  rw [qaz]
  simp [c_86_l0,h39,h40,h41,hL]
  exact qaas p f k x s _ _ (by simp [h1]) (by simp [h3]) (by simp [h5])
 ·simp [Prg.e,Entry.ce]
end Go.Av
namespace Go.Av
set_option maxRecDepth 4000
theorem qys (p:Prg) (f:PrgS p) (hv:∀t∈p.tables,∀v∈t.dflt.args,ok32 0 v) (t:Int) (x:Entry) (s:EntS x) (e:Env) (n:Nat) (h1:look 1 e=some (.int .i64 t)) (h3:look 3 e=some (.iptr 9 [Prg.c p] 0 0)) (h5:look 5 e=some (.iptr 4 [Entry.c x] 0 0)):
  go Φ (finP [.tmp 6]) [.c c_153_k1] .normal ⟨e,⟨[],n⟩⟩=some (.val (.int .i64 (entF p t x))):=by
 have hk:=qyw p f hv t
 have ha:=qm5 p f hv t x.call.action
 have hc:=qkp p f x.call s.al s.ar
 simp only [Prg.e,ActionCall.ce] at hk ha hc
 rw [Prg.e] at h3
 rw [Entry.ce] at h5
 unfold entF
 by_cases p0:x.priority<0
 ·simp [c_153_k1,h5,p0]
 by_cases p1:255<x.priority
 ·simp [c_153_k1,h5,p0,p1]
 by_cases p2:x.priority=0
 ·cases q:tAl p t x.call.action with
  | false=>rw [q] at ha;simp [c_153_k1,h1,h3,h5,p2,ha]
  | true=>rw [q] at ha;simp [c_153_k1,h1,h3,h5,p2,ha,hc]
 have p4:0<x.priority:=by omega
 by_cases p3:qfz p t=3
 ·cases q:tAl p t x.call.action with
  | false=>rw [q] at ha;simp [c_153_k1,h1,h3,h5,p0,p1,p2,p3,p4,hk,ha]
  | true=>rw [q] at ha;simp [c_153_k1,h1,h3,h5,p0,p1,p2,p3,p4,hk,ha,hc]
 ·simp [c_153_k1,h1,h3,h5,p0,p1,p2,p3,p4,hk]
theorem qyr (p:Prg) (f:PrgS p) (hv:∀t∈p.tables,∀v∈t.dflt.args,ok32 0 v) (t:Int) (x:Entry) (s:EntS x):qab Φ f_153 [.agg (Prg.c p),.int .i64 t,.agg (Entry.c x)]=some (.val (.int .i64 (entE p t x))):=by
 rw [qaa (fn:=c_153) rfl rfl]
 have h:=qmb p f hv t
 simp only [Prg.e] at h
 by_cases z:(tblE p t).2=0
 rotate_left
 ·simp [c_153,Prg.e,Entry.ce,h,z,entE]
 have q:tOk p t=true:=by simp [tOk,z]
 obtain ⟨k,hk,rfl,o⟩:=qgx q
 have hw:=qun p f hv k hk q
 simp only [Prg.e] at hw
 have hb:=o.keys
 have hkl:(kWid p p.tables[k]).length=p.tables[k].keys.length:=by simp [kWid]
 by_cases y:x.keys.length=p.tables[k].keys.length
 rotate_left
 ·simp [c_153,Prg.e,Entry.ce,hk,h,z,hw,y,hkl,entE]
 have hE:entE p (k:Int) x=(fe (entG p p.tables[k] x) p.tables[k].keys.length 0).getD (entF p k x):=by simp [entE,z,hk,y]
 rw [hE]
 simp [c_153,Prg.e,Entry.ce,hk,h,z,hw,y,hkl]
 refine qau p.tables[k].keys.length (fun _=>[]) 0 (fun i e=>look 1 e=some (.int .i64 k)∧look 3 e=some (.iptr 9 [Prg.c p] 0 0)∧look 5 e=some (.iptr 4 [Entry.c x] 0 0)∧look 9 e=some (.slice 1 ((kWid p p.tables[k]).map cI))∧look 10 e=some (.int .i64 i))
  (fun i=>some (Rt.val (.int .i64 ((fe (entG p p.tables[k] x) p.tables[k].keys.length i).getD (entF p k x))))) ?_ ?_ 0 _ 0 (Nat.zero_le _) (Nat.le_refl _) ?_
 ·rintro i e n L hi hL _ ⟨h1,h3,h5,h9,h10⟩ ih
  have hi2:i<x.keys.length:=by omega
  have hi3:i<(kWid p p.tables[k]).length:=by omega
  have hkw:(kWid p p.tables[k])[i]=wid p p.tables[k].keys[i].field.header p.tables[k].keys[i].field.field:=by simp [kWid]
  have hw:IntKind.wrap .i64 ((i:Int)+1)=((i+1:Nat):Int):=qad (by omega) (by omega)
  have hm:=s.ks _ (List.getElem_mem hi2)
  have hc:=qaca x.keys[i] p.tables[k].keys[i].kind (wid p p.tables[k].keys[i].field.header p.tables[k].keys[i].field.field) hm.1 hm.2
  simp only [KeyMatch.ce] at hc
  rw [Prg.e] at h3
  rw [Entry.ce] at h5
  by_cases v:keyK x.keys[i] p.tables[k].keys[i].kind (wid p p.tables[k].keys[i].field.header p.tables[k].keys[i].field.field)=0
  ·rw [qap hi (by simp [entG,hi,hi2,v])]
   rw [v] at hc
   generalize hX:some (Rt.val (AV.int .i64 ((fe (entG p p.tables[k] x) p.tables[k].keys.length (i+1)).getD (entF p k x))))=X
   simp [c_153_l0,TableKey.e,Tbl.e,KeyMatch.ce,cI,h1,h3,h5,h9,h10,hk,hkl,hi,hi2,hi3,hkw,hL,hc,hw]
   rw [← hX]
   exact ih _ _ (Nat.zero_le _) ⟨by simp [h1],by simp [h3,Prg.e],by simp [h5,Entry.ce],by simp [h9,cI],by simp⟩
  ·rw [qah (x:=keyK x.keys[i] p.tables[k].keys[i].kind (wid p p.tables[k].keys[i].field.header p.tables[k].keys[i].field.field)) hi (by simp [entG,hi,hi2,v])]
   simp [c_153_l0,TableKey.e,Tbl.e,KeyMatch.ce,cI,h1,h3,h5,h9,h10,hk,hkl,hi,hi2,hi3,hkw,hL,hc,v]
 ·rintro e n L hL _ ⟨h1,h3,h5,h9,h10⟩
  rw [qaz]
  simp [c_153_l0,h9,h10,hkl,hL]
  exact qys p f hv k x s _ _ (by simp [h1]) (by simp [h3]) (by simp [h5])
 ·simp [Prg.e,Entry.ce]
end Go.Av
