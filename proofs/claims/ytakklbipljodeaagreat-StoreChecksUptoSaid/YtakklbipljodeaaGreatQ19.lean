/-
 Initial contents of registers: the program's.
-/
import Derived.Test.YtakklbipljodeaaGreatQ12
import Derived.Test.YtakklbipljodeaaGreatAvD
set_option linter.unusedVariables false
set_option linter.unusedSimpArgs false
set_option linter.constructorNameAsVariable false
namespace Go.Av
set_option maxRecDepth 4000
def RegV (T:List (Nat×AO)) (x:AV) (r:Register):Prop:=(x= .fslice 1 []∧regN r=0)∨∃id,1≤id∧x= .row id 1 0 (regN r)∧look id T=some (.row 1 (List.replicate (regN r) [.int .u32 0]))
inductive RegL (T:List (Nat×AO)):List AV→List Register→Prop
 | nil:RegL T [] []
 | snoc {A rs x r} (h:RegL T A rs) (hx:RegV T x r):RegL T (A++[x]) (rs++[r])
theorem RegV.app {T:List (Nat×AO)} {x:AV} {r:Register} (h:RegV T x r) (U:List (Nat×AO)):RegV (T++U) x r:=by
 rcases h with h | ⟨id,h1,h2,h3⟩
 ·exact .inl h
 ·exact .inr ⟨id,h1,h2,by rw [qc2,h3];simp⟩
theorem RegL.app {T:List (Nat×AO)} {A:List AV} {rs:List Register} (h:RegL T A rs) (U:List (Nat×AO)):RegL (T++U) A rs:=by
 induction h with
 | nil=>exact .nil
 | snoc h hx ih=>exact .snoc ih (hx.app U)
theorem RegL.len {T:List (Nat×AO)} {A:List AV} {rs:List Register} (h:RegL T A rs):A.length=rs.length:=by
 induction h with
 | nil=>rfl
 | snoc h hx ih=>simp [ih]
theorem qq3 (H:AH) (k:Nat):∀m,mapO (mapO (snap 38 H)) (List.replicate m [AV.int .u32 k])=some (List.replicate m [AV.int .u32 k])
 | 0=>by simp [mapO]
 | m+1=>by
  have ih:=qq3 H k m
  simp only [List.replicate_succ,mapO,ih]
  simp [mapO]
theorem qoz {α β:Type} (f:α→Option β):∀(l:List α) (x:α) (l':List β) (y:β),mapO f l=some l'→f x=some y→mapO f (l++[x])=some (l'++[y])
 | [],x,l',y,h,hy=>by
  simp [mapO] at h
  subst h
  simp [mapO,hy]
 | a::l,x,l',y,h,hy=>by
  simp only [mapO] at h
  cases hb:f a with
  | none=>rw [hb] at h;cases h
  | some b=>
   rw [hb] at h
   cases hm:mapO f l with
   | none=>rw [hm] at h;cases h
   | some m=>
    rw [hm] at h
    cases h
    have ih:=qoz f l x m y hm hy
    simp only [List.cons_append,mapO,hb,ih]
theorem RegL.snp {T:List (Nat×AO)} {A:List AV} {rs:List Register} (h:RegL T A rs) (o:AO) (n:Nat):
  mapO (mapO (snap 39 ⟨(0,o)::T,n⟩)) (A.map fun x=>[x])=some (rs.map fun r=>[AV.slice 1 (List.replicate (regN r) [.int .u32 0])]):=by
 induction h with
 | nil=>simp [mapO]
 | snoc h hx ih=>
  rw [List.map_append,List.map_append]
  refine qoz _ _ _ _ _ ih ?_
  rcases hx with ⟨rfl,h0⟩ | ⟨id,h1,rfl,h3⟩
  ·simp [mapO,h0]
  ·have hi:¬(0=id):=by omega
   have hr:=qq3 ⟨(0,o)::T,n⟩ 0
   simp at hr
   simp [mapO,look,hi,h3,hr]
end Go.Av
namespace Go.Av
set_option maxRecDepth 4000
theorem qwb {T:List (Nat×AO)} {n:Nat} (h:∀m,n≤m→look m T=none) (o:AO):∀m,n+1+1≤m→look m (T++[(n+1,o)])=none:=by
 intro m hm
 have:¬(n+1=m):=by omega
 rw [qc2,h m (by omega)]
 simp [look,this]
theorem qad2 (p:Prg) (f:PrgS p):qab Φ f_73 [.agg (Prg.c p)]=some (.val (.slice 1 ((newR p).map (cS 1 c32)))):=by
 rw [qaa (fn:=c_73) rfl rfl]
 have hr:=f.r
 have e0:(newR p).map (cS 1 c32)=p.registers.map fun r=>[AV.slice 1 (List.replicate (regN r) [AV.int .u32 0])]:=by
  simp [newR,cSe,c32]
 rw [e0]
 have b0:(p.registers.length:Int)*24≤140737488355328:=by omega
 have b3:p.registers.length<4611686018427387904:=by omega
 simp [c_73,Prg.e,b0,b3]
 refine qd3 p.registers.length (fun i e h=>∃(A:List AV) (T:List (Nat×AO)) (n:Nat),h=⟨(0,.row 1 (A.map (fun x=>[x])++List.replicate (p.registers.length - i) [AV.fslice 1 []]))::T,n⟩∧1≤n∧(∀m,n≤m→look m T=none)∧RegL T A (p.registers.take i)∧
   look 3 e=some (.row 0 1 0 p.registers.length)∧look 11 e=some (.slice 3 (p.registers.map Register.c))∧look 12 e=some (.int .i64 p.registers.length)∧look 13 e=some (.int .i64 i))
  (fun _=>some (Rt.val (.slice 1 (p.registers.map fun r=>[AV.slice 1 (List.replicate (regN r) [AV.int .u32 0])])))) ?_ ?_ 0 _ _ (Nat.zero_le _) ?_
 ·rintro i e _ L hi hL ⟨A,T,n,rfl,hn,hT,hR,h3,h11,h12,h13⟩ ih
  have hw:IntKind.wrap .i64 ((i:Int)+1)=((i+1:Nat):Int):=qad (by omega) (by omega)
  have hA:A.length=i:=by rw [hR.len];simp;omega
  have hs:=qrr p.registers[i]
  have hN:p.registers.length - i=(p.registers.length - (i+1))+1:=by omega
  rw [hN,List.replicate_succ]
  have hn0:¬(0=n):=by omega
  have hn1:¬(n=0):=by omega
  have hTn:=hT n (Nat.le_refl _)
  have hTn1:=hT (n+1) (by omega)
  have hsn:∀{U:List (Nat×AO)} {x:AV},RegL U A (p.registers.take i)→RegV U x p.registers[i]→RegL U (A++[x]) (p.registers.take (i+1)):=by
   intro U x h1 h2
   rw [List.take_succ_eq_append_getElem hi]
   exact .snoc h1 h2
  simp only [Register.e] at hs
  by_cases z:p.registers[i].size<1∨64<p.registers[i].size
  ·have hz:regN p.registers[i]=0:=by simp [regN,z]
   rw [show (!(decide (p.registers[i].size<1) || decide (64<p.registers[i].size)))=false by rcases z with z | z<;>simp [z]] at hs
   simp [c_73_l0,Register.e,h3,h11,h12,h13,hi,hs,hw,hn0,hn1,hTn,hTn1,hA,hL]
   exact ih _ _ ⟨A++[.fslice 1 []],T,_,by simp;rfl,by omega,fun m hm=>hT m (by omega),hsn hR (.inl ⟨rfl,hz⟩),by simp [h3],by simp [h11],by simp [h12],by simp⟩
  ·obtain ⟨k,hk⟩:∃k:Nat,p.registers[i].size=k:=⟨p.registers[i].size.toNat,by omega⟩
   have hz:regN p.registers[i]=k:=by simp [regN,z];omega
   rw [show (!(decide (p.registers[i].size<1) || decide (64<p.registers[i].size)))=true by simp;omega] at hs
   have b1:(k:Int)*4≤140737488355328:=by omega
   have b2:k<4611686018427387904:=by omega
   rw [hk] at hs
   simp [c_73_l0,Register.e,h3,h11,h12,h13,hi,hs,hk,hw,hn0,hn1,hTn,hTn1,b1,b2,hA,hL]
   refine ih _ _ ⟨A++[.row (n+1) 1 0 k],T++[(n+1,.row 1 (List.replicate k [.int .u32 0]))],n+1+1,by simp,by omega,qwb hT _,hsn (hR.app _) (.inr ⟨n+1,by omega,by rw [hz],by rw [qc2,hTn1,hz];simp⟩),by simp [h3],by simp [h11],by simp [h12],by simp⟩
 ·rintro e _ L hL ⟨A,T,n,rfl,hn,hT,hR,h3,h11,h12,h13⟩
  have hS:=hR.snp (.row 1 (A.map (fun x=>[x])++List.replicate (p.registers.length - p.registers.length) [AV.fslice 1 []])) n
  have hA:A.length=p.registers.length:=by rw [hR.len];simp
  simp at hS
  have hTk:(A.map fun x=>[x]).take p.registers.length=A.map fun x=>[x]:=by
   rw [List.take_of_length_le]
   simp [hA]
  simp [c_73_l0,c_73_k1,h3,h11,h12,h13,hL,hA,hTk,hS]
 ·exact ⟨[],[],1,by simp,by omega,fun _ _=>rfl,by simpa using RegL.nil,by simp,by simp,by simp,by simp⟩
end Go.Av
namespace Go.Av
structure TabV (p:Prg) (k:Nat) (tb:Tbl) (l:List Rw) (nx:Int) (d:ActionCall):Prop where
 size:(l.length:Int)≤tb.size
 pos:∀r∈l,0<r.id
 lt:∀r∈l,r.id<nx
 inc:l.Pairwise (fun a b=>a.id<b.id)
 nx0:0<nx
 nx1:nx≤1073741824
 ent:∀r∈l,entE p k r.entry=0
 uniq:l.Pairwise (fun a b=>sk a.entry b.entry=false)
 dflt:qbs p k d=0
theorem qrb (nx:Int):∀(l:List Rw) (a:Int),(∃b,ordL l a=some b∧b<nx)↔a<nx∧(∀r∈l,a<r.id∧r.id<nx)∧l.Pairwise (fun a b=>a.id<b.id)
 | [],a=>by simp [ordL]
 | r::l,a=>by
  have ih:=qrb nx l r.id
  simp only [ordL]
  by_cases h:r.id≤a
  ·rw [if_pos h]
   constructor
   ·rintro ⟨b,hb,_⟩;cases hb
   ·rintro ⟨_,h2,_⟩
    have:=(h2 r (by simp)).1
    omega
  ·rw [if_neg h,ih,List.pairwise_cons]
   constructor
   ·rintro ⟨h1,h2,h3⟩
    refine ⟨by omega,?_,fun x hx=>(h2 x hx).1,h3⟩
    intro x hx
    rcases List.mem_cons.1 hx with rfl | hx
    ·exact ⟨by omega,h1⟩
    ·have:=h2 x hx;exact ⟨by omega,this.2⟩
   ·rintro ⟨h1,h2,h3,h4⟩
    exact ⟨(h2 r (by simp)).2,fun x hx=>⟨h3 x hx,(h2 x (by simp [hx])).2⟩,h4⟩
theorem qwv (p:Prg) (t:Int) (l:List Rw):(∀i,i<l.length→rowG p t l i=none)↔(∀r∈l,entE p t r.entry=0)∧l.Pairwise (fun a b=>sk a.entry b.entry=false):=by
 have key:∀i (hi:i<l.length),rowG p t l i=none↔entE p t l[i].entry=0∧∀j (hj:j<i),sk l[j].entry l[i].entry=false:=by
  intro i hi
  simp only [rowG,List.getElem?_eq_getElem hi,Option.bind_some]
  by_cases h:entE p t l[i].entry=0
  ·rw [if_neg (by simpa using h)]
   have:((l.take i).any fun y=>sk y.entry l[i].entry)=true↔¬∀j (hj:j<i),sk l[j].entry l[i].entry=false:=by
    rw [List.any_eq_true]
    constructor
    ·rintro ⟨y,hy,hs⟩ hc
     obtain ⟨j,hj,rfl⟩:=List.mem_iff_getElem.1 hy
     simp at hj
     have:=hc j (by omega)
     simp only [List.getElem_take] at hs
     rw [this] at hs;cases hs
    ·intro hc
     simp only [Classical.not_forall] at hc
     obtain ⟨j,hj,hs⟩:=hc
     refine ⟨l[j],?_,by simpa using hs⟩
     rw [List.mem_take_iff_getElem]
     exact ⟨j,by omega,rfl⟩
   by_cases hu:∀j (hj:j<i),sk l[j].entry l[i].entry=false
   ·rw [if_neg (by rw [this];exact fun hc=>hc hu)]
    simp [h];exact hu
   ·rw [if_pos (this.2 hu)]
    simp [h];simpa using hu
  ·rw [if_pos h]
   simp [h]
 constructor
 ·intro h
  refine ⟨?_,?_⟩
  ·intro r hr
   obtain ⟨i,hi,rfl⟩:=List.mem_iff_getElem.1 hr
   exact ((key i hi).1 (h i hi)).1
  ·rw [List.pairwise_iff_getElem]
   intro i j hi hj hij
   exact ((key j hj).1 (h j hj)).2 i hij
 ·rintro ⟨h1,h2⟩ i hi
  rw [key i hi]
  refine ⟨h1 _ (List.getElem_mem hi),?_⟩
  intro j hj
  exact List.pairwise_iff_getElem.1 h2 j i (by omega) hi hj
theorem qacd (p:Prg) (t:Int) (l:List Rw) {i:Nat} {x:Int} (h:rowG p t l i=some x):x≠0:=by
 simp only [rowG,Option.bind_eq_some_iff] at h
 obtain ⟨r,_,hr⟩:=h
 split at hr
 ·cases hr;assumption
 ·split at hr
  ·cases hr;decide
  ·cases hr
theorem qo8 (p:Prg) (k:Nat) (tb:Tbl) (l:List Rw) (nx:Int) (d:ActionCall):rowE p k tb l nx (qbs p k d)=0↔TabV p k tb l nx d:=by
 have hI:=qrb nx l 0
 have hG:=qwv p k l
 rw [← fe_all] at hG
 unfold rowE
 by_cases h:tb.size<(l.length:Int)
 ·rw [if_pos h]
  constructor
  ·intro hc;cases hc
  ·intro hv;have:=hv.size;omega
 rw [if_neg h]
 cases ho:ordL l 0 with
 | none=>
  rw [ho] at hI
  simp only [tabK]
  constructor
  ·intro hc;cases hc
  ·intro hv
   obtain ⟨b,hb,_⟩:=hI.2 ⟨hv.nx0,fun r hr=>⟨hv.pos r hr,hv.lt r hr⟩,hv.inc⟩
   cases hb
 | some a=>
  rw [ho] at hI
  simp only [tabK]
  by_cases h1:nx≤a
  ·rw [if_pos h1]
   constructor
   ·intro hc;cases hc
   ·intro hv
    obtain ⟨b,hb,h2⟩:=hI.2 ⟨hv.nx0,fun r hr=>⟨hv.pos r hr,hv.lt r hr⟩,hv.inc⟩
    cases hb;omega
  rw [if_neg h1]
  have hJ:=hI.1 ⟨a,rfl,by omega⟩
  by_cases h2:1073741824<nx
  ·rw [if_pos h2]
   constructor
   ·intro hc;cases hc
   ·intro hv;have:=hv.nx1;omega
  rw [if_neg h2]
  cases hf:fe (rowG p k l) l.length 0 with
  | some x=>
   have hx:x≠0:=by
    obtain ⟨i,_,hx⟩:=qed hf
    exact qacd p k l hx
   rw [hf] at hG
   simp only [Option.getD_some]
   constructor
   ·intro hc;exact absurd hc hx
   ·intro hv;have:=hG.2 ⟨hv.ent,hv.uniq⟩;cases this
  | none=>
   have hq:=hG.1 hf
   simp only [Option.getD_none]
   constructor
   ·intro hc
    exact ⟨by omega,fun r hr=>(hJ.2.1 r hr).1,fun r hr=>(hJ.2.1 r hr).2,hJ.2.2,hJ.1,by omega,hq.1,hq.2,hc⟩
   ·intro hv;exact hv.dflt
structure CfgV (p:Prg) (c:Config):Prop where
 prg:(prgD p).1=0
 rl:c.rows.length=p.tables.length
 nl:c.nextID.length=p.tables.length
 dl:c.defaults.length=p.tables.length
 tab:∀k tb l nx d,p.tables[k]? =some tb→c.rows[k]? =some l→c.nextID[k]? =some nx→c.defaults[k]? =some d→TabV p k tb l nx d
 con:conE p c.registers=0
theorem qafe (p:Prg) (c:Config) {k:Nat} {x:Int} (h:stG p c k=some x):x≠0:=by
 unfold stG at h
 split at h
 ·split at h
  ·cases h
  ·cases h;assumption
 ·cases h
theorem qoj (p:Prg) (c:Config):cfgE p c=0↔CfgV p c:=by
 unfold cfgE
 by_cases h:(prgD p).1=0
 rotate_left
 ·rw [if_pos h]
  exact ⟨fun hc=>absurd hc h,fun hv=>absurd hv.prg h⟩
 rw [if_neg (by simpa using h)]
 by_cases hl:c.rows.length≠p.tables.length∨c.nextID.length≠p.tables.length∨c.defaults.length≠p.tables.length
 ·rw [if_pos hl]
  constructor
  ·intro hc;cases hc
  ·intro hv
   have:=hv.rl;have:=hv.nl;have:=hv.dl
   omega
 rw [if_neg hl]
 have l1:c.rows.length=p.tables.length:=by omega
 have l2:c.nextID.length=p.tables.length:=by omega
 have l3:c.defaults.length=p.tables.length:=by omega
 cases hf:fe (stG p c) p.tables.length 0 with
 | some x=>
  obtain ⟨k,hk,hx⟩:=qed hf
  simp only [Option.getD_some]
  constructor
  ·intro hc;exact absurd hc (qafe p c hx)
  ·intro hv
   have hq:stG p c k=none:=by
    unfold stG
    split
    ·rename_i tb l nx d e1 e2 e3 e4
     rw [if_pos ((qo8 p k tb l nx d).2 (hv.tab k tb l nx d e1 e2 e3 e4))]
    ·rfl
   rw [hq] at hx;cases hx
 | none=>
  simp only [Option.getD_none]
  have ha:=fe_all.1 hf
  constructor
  ·intro hc
   refine ⟨h,l1,l2,l3,?_,hc⟩
   intro k tb l nx d e1 e2 e3 e4
   have hk:=(List.getElem?_eq_some_iff.1 e1).1
   have hq:=ha k hk
   simp only [stG,e1,e2,e3,e4] at hq
   split at hq
   ·rename_i hz;exact (qo8 p k tb l nx d).1 hz
   ·cases hq
  ·intro hv;exact hv.con
end Go.Av
namespace Go.Av
def qfx (c:Config) (t:Int):List Rw:=(at? c.rows t).getD []
def qq5 (c:Config) (t:Int):Int:=(at? c.nextID t).getD 0
def qae7 (p:Prg) (t:Int):Int:=((at? p.tables t).map Tbl.size).getD 0
def inT (p:Prg) (t:Int):Bool:=decide (0≤t)&&decide (t<p.tables.length)
def rIdx (l:List Rw) (id:Int):Option Nat:=l.findIdx? fun r=>decide (r.id=id)
def insE (p:Prg) (c:Config) (t:Int) (x:Entry):Int:=
 if inT p t=false then 8 else if entE p t x≠0 then entE p t x else if (qfx c t).any (fun y=>sk y.entry x)=true then 7
 else if qae7 p t≤(qfx c t).length∨1073741824≤qq5 c t then 13 else 0
def insC (c:Config) (t:Int) (x:Entry):Config:=⟨c.rows.set t.toNat (qfx c t++[⟨qq5 c t,x⟩]),c.nextID.set t.toNat (qq5 c t+1),c.defaults,c.registers⟩
def modE (p:Prg) (c:Config) (t id:Int) (x:ActionCall):Int:=
 if inT p t=false then 8 else if rIdx (qfx c t) id=none then 8 else qbs p t x
def qaab (x:ActionCall) (r:Rw):Rw:=⟨r.id,⟨r.entry.keys,r.entry.priority,x⟩⟩
def modC (c:Config) (t id:Int) (x:ActionCall):Config:=match rIdx (qfx c t) id with
 | some i=>⟨c.rows.set t.toNat ((qfx c t).modify i (qaab x)),c.nextID,c.defaults,c.registers⟩
 | none=>c
def delE (p:Prg) (c:Config) (t id:Int):Int:=
 if inT p t=false then 8 else if rIdx (qfx c t) id=none then 8 else 0
def delC (c:Config) (t id:Int):Config:=match rIdx (qfx c t) id with
 | some i=>⟨c.rows.set t.toNat ((qfx c t).eraseIdx i),c.nextID,c.defaults,c.registers⟩
 | none=>c
def defE (p:Prg) (t:Int) (x:ActionCall):Int:=if inT p t=false then 8 else qbs p t x
def defC (c:Config) (t:Int) (x:ActionCall):Config:=⟨c.rows,c.nextID,c.defaults.set t.toNat x,c.registers⟩
section
variable {p:Prg} {c:Config} {k:Nat}
theorem CfgV.at (v:CfgV p c) (h:k<p.tables.length):TabV p k p.tables[k] (c.rows[k]'(by rw [v.rl];exact h)) (c.nextID[k]'(by rw [v.nl];exact h)) (c.defaults[k]'(by rw [v.dl];exact h)):=
 v.tab k _ _ _ _ (List.getElem?_eq_getElem h) (List.getElem?_eq_getElem (by rw [v.rl];exact h)) (List.getElem?_eq_getElem (by rw [v.nl];exact h)) (List.getElem?_eq_getElem (by rw [v.dl];exact h))
theorem CfgV.upd (v:CfgV p c) (h:k<p.tables.length) {l:List Rw} {nx:Int} {d:ActionCall} {R:List (List Rw)} {N:List Int} {D:List ActionCall}
  (hR:R=c.rows.set k l) (hN:N=c.nextID.set k nx) (hD:D=c.defaults.set k d) (t:TabV p k p.tables[k] l nx d):CfgV p ⟨R,N,D,c.registers⟩:=by
 subst hR hN hD
 refine ⟨v.prg,by simp [v.rl],by simp [v.nl],by simp [v.dl],?_,v.con⟩
 intro j tb l' nx' d' h1 h2 h3 h4
 have hl1:=v.rl
 have hl2:=v.nl
 have hl3:=v.dl
 by_cases hj:k=j
 ·subst hj
  rw [List.getElem?_set_self (by omega)] at h2 h3 h4
  rw [List.getElem?_eq_getElem h] at h1
  cases h1;cases h2;cases h3;cases h4
  exact t
 ·simp only [List.getElem?_set_ne hj] at h2 h3 h4
  exact v.tab j _ _ _ _ h1 h2 h3 h4
end
end Go.Av
namespace Go.Av
theorem qak (t:Nat) (a b:List (Nat×AO)):look t (a++b)=(look t a).or (look t b):=qc2 t a b
theorem qal (j t:Nat) (y:AO):∀O:List (Nat×AO),look j (setl t y O)=if j=t then (look t O).map (fun _=>y) else look j O
 | []=>by simp
 | (u,w)::r=>by
  have ih:=qal j t y r
  by_cases hu:u=t
  ·subst hu
   by_cases hj:j=u
   ·subst hj;simp
   ·have:¬u=j:=fun h=>hj h.symm
    simp [hj,this]
  ·by_cases hj:j=t
   ·subst hj;simp [hu];simpa using ih
   ·by_cases hv:u=j
    ·subst hv;simp [hu]
    ·simp [hu,hv,hj];simpa [hj] using ih
theorem qcx {j t:Nat} (h:j≠t):∀O:List (Nat×AO),look j (qbb t O)=look j O
 | []=>by simp
 | (u,w)::r=>by
  have ih:=qcx h r
  by_cases hu:u=t
  ·subst hu
   have:¬u=j:=fun e=>h e.symm
   simp [this]
  ·by_cases hv:u=j
   ·subst hv;simp [hu]
   ·simp [hu,hv,ih]
theorem qcs {j t:Nat}:∀O:List (Nat×AO),look j O=none→look j (qbb t O)=none
 | [],_=>by simp
 | (u,w)::r,h=>by
  by_cases hv:u=j
  ·subst hv;simp at h
  ·simp [hv] at h
   have ih:=qcs (t:=t) r h
   by_cases hu:u=t
   ·subst hu;simpa using h
   ·simp [hu,hv,ih]
theorem qho {j:Nat}:∀{O:List (Nat×AO)},look j O≠some .res→look j (qa8 O)=look j O
 | [],_=>by simp
 | (u,w)::r,h=>by
  by_cases hv:u=j
  ·subst hv
   simp at h
   cases w<;>simp at h ⊢
  ·simp [hv] at h
   have ih:=qho h
   cases w<;>simp [hv,ih]
section
variable (z t i o n:Nat) (es:List (List AV))
@[simp] theorem qait:lenOf (.slice z es)=some es.length:=rfl
@[simp] theorem qair:lenOf (.fslice z es)=some es.length:=rfl
@[simp] theorem qaiq:lenOf (.app z es t)=some es.length:=rfl
@[simp] theorem qais:lenOf (.row t z o n)=some n:=rfl
@[simp] theorem qag6 (cs:List AV):AV.cells (.agg cs)=some cs:=rfl
@[simp] theorem qag7 (k:IntKind) (x:Int):AV.cells (.int k x)=some [.int k x]:=rfl
@[simp] theorem qaf7 (b:Bool):AV.cells (.bool b)=some [.bool b]:=rfl
@[simp] theorem qaha (b:List UInt8):AV.cells (.str b)=some [.str b]:=rfl
@[simp] theorem qade:AV.cells .nilptr=some [.nilptr]:=rfl
@[simp] theorem qadd:AV.cells .nilmap=some [.nilmap]:=rfl
@[simp] theorem qaib:AV.cells (.slice z es)=some [.slice z es]:=rfl
@[simp] theorem qah9:AV.cells (.fslice z es)=some [.fslice z es]:=rfl
@[simp] theorem qah8:AV.cells (.app z es t)=some [.app z es t]:=rfl
@[simp] theorem qaia:AV.cells (.row t z o n)=some [.row t z o n]:=rfl
@[simp] theorem qag9:AV.cells (.ptr t z o n)=some [.ptr t z o n]:=rfl
@[simp] theorem qaf9:AV.cells (.iptr z es o n)=some [.iptr z es o n]:=rfl
@[simp] theorem qag8:AV.cells (.map t)=some [.map t]:=rfl
@[simp] theorem qaf8 (f:Fn) (a b:List AV):AV.cells (.func f a b)=some [.func f a b]:=rfl
end
theorem qb1 {a b:List (Nat×AO)} {n:Nat}:Tail (a++b) n↔Tail a n∧Tail b n:=by
 constructor
 ·intro h
  refine ⟨fun j hj=>?_,fun j hj=>?_⟩
  ·have:=h j hj
   rw [qak] at this
   cases hl:look j a with
   | none=>rfl
   | some x=>rw [hl] at this;cases this
  ·have:=h j hj
   rw [qak] at this
   cases hl:look j a with
   | none=>rw [hl] at this;simpa using this
   | some x=>rw [hl] at this;cases this
 ·rintro ⟨h1,h2⟩ j hj
  rw [qak,h1 j hj,h2 j hj]
  rfl
theorem qbh {u n:Nat} {x:AO} {r:List (Nat×AO)}:Tail ((u,x)::r) n↔u<n∧Tail r n:=by
 constructor
 ·intro h
  have hu:u<n:=by
   refine Decidable.byContradiction fun hc=>?_
   have:=h u (by omega)
   simp at this
  refine ⟨hu,fun j hj=>?_⟩
  have:=h j hj
  have hne:¬u=j:=by omega
  simpa [hne] using this
 ·rintro ⟨h1,h2⟩ j hj
  have hne:¬u=j:=by omega
  simp [hne,h2 j hj]
theorem qfp {n:Nat}:Tail [] n↔True:=⟨fun _=>trivial,fun _=>Tail.nil n⟩
theorem qbi {t n:Nat} {y:AO} {O:List (Nat×AO)} (h:Tail O n):Tail (setl t y O) n:=by
 intro j hj
 rw [qal]
 split
 ·rename_i e
  rw [← e,h j hj];rfl
 ·exact h j hj
theorem qeb {t n:Nat} {O:List (Nat×AO)} (h:Tail O n):Tail (qbb t O) n:=fun j hj=>qcs _ (h j hj)
theorem qr3 {n:Nat} {O:List (Nat×AO)} (h:Tail O n):Tail (qa8 O) n:=by
 intro j hj
 rw [qho (by rw [h j hj];simp),h j hj]
theorem Tail.lt {O:List (Nat×AO)} {n j:Nat} {x:AO} (h:Tail O n) (hl:look j O=some x):j<n:=by
 refine Decidable.byContradiction fun hc=>?_
 rw [h j (by omega)] at hl
 cases hl
def Kp (X:Nat→Prop) (N:Nat) (O O':List (Nat×AO)):Prop:=∀j,j<N→¬X j→look j O'=look j O
theorem Kp.refl {X:Nat→Prop} {N:Nat} {O:List (Nat×AO)}:Kp X N O O:=fun _ _ _=>rfl
theorem Kp.trans {X:Nat→Prop} {N N':Nat} {O O' O'':List (Nat×AO)} (h:Kp X N O O') (h2:Kp X N' O' O'') (hn:N≤N'):Kp X N O O'':=
 fun j hj hx=>(h2 j (by omega) hx).trans (h j hj hx)
theorem Kp.mono {X Y:Nat→Prop} {N:Nat} {O O':List (Nat×AO)} (h:Kp X N O O') (hx:∀j,j<N→X j→Y j):Kp Y N O O':=
 fun j hj hy=>h j hj fun hc=>hy (hx j hj hc)
section
variable {Φ:FuncId→Option AFun} {β:Type} {fin:Option (Ex×St)→Option β}
theorem loopQ {σ:Type} (m:σ→Nat) (Inv:σ→Env→AH→Prop) (R:σ→Option β→Prop) {b:ACode} {K:List Go.Av.Fr}
  (step:∀x e h L,(∀j s,go Φ fin L (.exit j) s=go Φ fin K (.exit j) s)→Inv x e h→(∀y e' h',m y<m x→Inv y e' h'→R y (go Φ fin L .normal ⟨e',h'⟩))→R x (go Φ fin (.c b::L) .normal ⟨e,h⟩)):
  ∀x e h,Inv x e h→R x (go Φ fin (.c (.loop b)::K) .normal ⟨e,h⟩):=by
 have key:∀n x e h,m x≤n→Inv x e h→R x (go Φ fin (.c (.loop b)::K) .normal ⟨e,h⟩):=by
  intro n
  induction n with
  | zero=>
   intro x e h hn hi
   rw [qay]
   exact step x e h _ (fun j s=>by simp) hi fun y e' h' hlt=>by omega
  | succ n ih=>
   intro x e h hn hi
   rw [qay]
   exact step x e h _ (fun j s=>by simp) hi fun y e' h' hlt hy=>ih y e' h' (by omega) hy
 intro x e h hi
 exact key (m x) x e h (Nat.le_refl _) hi
theorem qhp (N:Nat) (Inv:Nat→Env→AH→Prop) (Q:Option β→Prop) {b:ACode} {K:List Go.Av.Fr}
  (step:∀i e h L,i<N→(∀j s,go Φ fin L (.exit j) s=go Φ fin K (.exit j) s)→Inv i e h→(∀e' h',Inv (i+1) e' h'→Q (go Φ fin L .normal ⟨e',h'⟩))→Q (go Φ fin (.c b::L) .normal ⟨e,h⟩))
  (last:∀e h L,(∀j s,go Φ fin L (.exit j) s=go Φ fin K (.exit j) s)→Inv N e h→Q (go Φ fin (.c b::L) .normal ⟨e,h⟩)):
  ∀i e h,i≤N→Inv i e h→Q (go Φ fin (.c (.loop b)::K) .normal ⟨e,h⟩):=by
 intro i e h hi hinv
 refine loopQ (σ:={ i:Nat // i≤N }) (fun x=>N - x.1) (fun x=>Inv x.1) (fun _=>Q) ?_ ⟨i,hi⟩ e h hinv
 intro ⟨i,hi⟩ e h L hL hinv ih
 rcases Nat.lt_or_eq_of_le hi with hlt | heq
 ·exact step i e h L hlt hL hinv fun e' h' hi'=>ih ⟨i+1,hlt⟩ e' h' (by simp;omega) hi'
 ·subst heq
  exact last e h L hL hinv
end
def vid:AV→Option Nat
 | .row id _ _ _=>some id
 | _=>none
inductive Mu (O:List (Nat×AO)) (z:Nat):AV→List (List AV)→Prop
 | nilF:Mu O z (.fslice z []) []
 | nilA (t:Nat):Mu O z (.app z [] t) []
 | row (id:Nat) (es es0:List (List AV)) (n:Nat) (hn:n=es.length) (hl:look id O=some (.row z es0)) (hle:es.length≤es0.length) (ht:es0.take es.length=es):Mu O z (.row id z 0 n) es
theorem Mu.len {O:List (Nat×AO)} {z:Nat} {v:AV} {es:List (List AV)} (h:Mu O z v es):lenOf v=some es.length:=by
 cases h with
 | nilF=>rfl
 | nilA=>rfl
 | row id _ es0 n hn=>subst hn;rfl
theorem Mu.fr {O O':List (Nat×AO)} {z:Nat} {v:AV} {es:List (List AV)} (h:Mu O z v es) (hf:∀j,vid v=some j→look j O'=look j O):Mu O' z v es:=by
 cases h with
 | nilF=>exact .nilF
 | nilA=>exact .nilA _
 | row id _ es0 n hn hl hle ht=>exact .row id es es0 n hn (by rw [hf id rfl,hl]) hle ht
theorem Mu.nonempty {O:List (Nat×AO)} {z:Nat} {v:AV} {es:List (List AV)} (h:Mu O z v es) (hp:0<es.length):∃id es0,v= .row id z 0 es.length∧look id O=some (.row z es0)∧es.length≤es0.length∧es0.take es.length=es:=by
 cases h with
 | nilF=>simp at hp
 | nilA=>simp at hp
 | row id _ es0 n hn hl hle ht=>subst hn;exact ⟨id,es0,rfl,hl,hle,ht⟩
theorem Mu.snp {O:List (Nat×AO)} {z N n:Nat} {v:AV} {es:List (List AV)} (h:Mu O z v es):snap (n+1) ⟨O,N⟩ v=(mapO (mapO (snap n ⟨O,N⟩)) es).map (.slice z):=by
 cases h with
 | nilF=>simp
 | nilA=>simp
 | row id _ es0 k hn hl hle ht=>
  subst hn
  simp [hl,hle,ht]
inductive Re (O:List (Nat×AO)) (z:Nat):AV→List (List AV)→Prop
 | sl (es:List (List AV)):Re O z (.slice z es) es
 | fs (es:List (List AV)):Re O z (.fslice z es) es
 | ap (es:List (List AV)) (t:Nat):Re O z (.app z es t) es
 | row (id:Nat) (es es0:List (List AV)) (n:Nat) (hn:n=es.length) (hl:look id O=some (.row z es0)) (hle:es.length≤es0.length) (ht:es0.take es.length=es):Re O z (.row id z 0 n) es
theorem Mu.re {O:List (Nat×AO)} {z:Nat} {v:AV} {es:List (List AV)} (h:Mu O z v es):Re O z v es:=by
 cases h with
 | nilF=>exact .fs []
 | nilA=>exact .ap [] _
 | row id _ es0 n hn hl hle ht=>exact .row id es es0 n hn hl hle ht
theorem Re.fr {O O':List (Nat×AO)} {z:Nat} {v:AV} {es:List (List AV)} (h:Re O z v es) (hf:∀j,vid v=some j→look j O'=look j O):Re O' z v es:=by
 cases h with
 | sl=>exact .sl es
 | fs=>exact .fs es
 | ap=>exact .ap es _
 | row id _ es0 n hn hl hle ht=>exact .row id es es0 n hn (by rw [hf id rfl,hl]) hle ht
theorem Re.len {O:List (Nat×AO)} {z:Nat} {v:AV} {es:List (List AV)} (h:Re O z v es):lenOf v=some es.length:=by
 cases h with
 | sl=>rfl
 | fs=>rfl
 | ap=>rfl
 | row id _ es0 n hn=>subst hn;rfl
theorem Re.snp {O:List (Nat×AO)} {z N n:Nat} {v:AV} {es:List (List AV)} (h:Re O z v es) (he:mapO (mapO (snap n ⟨O,N⟩)) es=some es):snap (n+1) ⟨O,N⟩ v=some (.slice z es):=by
 cases h with
 | sl=>simp
 | fs=>simp
 | ap=>simp
 | row id _ es0 k hn hl hle ht=>
  subst hn
  simp [hl,hle,ht,he]
theorem Re.cells {O:List (Nat×AO)} {z:Nat} {v:AV} {es:List (List AV)} (h:Re O z v es):v.cells=some [v]:=by
 cases h<;>rfl
theorem Mu.cells {O:List (Nat×AO)} {z:Nat} {v:AV} {es:List (List AV)} (h:Mu O z v es):v.cells=some [v]:=h.re.cells
end Go.Av
namespace Go.Av
theorem qs9 {α:Type} {f:α→Option α}:∀{l:List α},(∀x∈l,f x=some x)→mapO f l=some l
 | [],_=>rfl
 | a::l,h=>by
  have h1:=h a (by simp)
  have h2:=qs9 (f:=f) (l:=l) fun x hx=>h x (by simp [hx])
  simp only [mapO,h1,h2]
theorem qg6 {α:Type} {g:α→List AV} {n:Nat} {H:AH} (h:∀x,mapO (snap n H) (g x)=some (g x)) (l:List α):mapO (mapO (snap n H)) (l.map g)=some (l.map g):=by
 refine qs9 fun x hx=>?_
 obtain ⟨y,_,rfl⟩:=List.mem_map.1 hx
 exact h y
theorem qafb {n:Nat} {H:AH} (r:Rw):mapO (snap (n+1) H) (Rw.c r)=some (Rw.c r):=by simp [Rw.c]
theorem qafa {n:Nat} {H:AH} (x:Int):mapO (snap (n+1) H) (cI x)=some (cI x):=by simp [cI]
theorem qzm {n:Nat} {H:AH} (x:ActionCall):mapO (snap (n+1) H) (ActionCall.c x)=some (ActionCall.c x):=by simp [ActionCall.c]
structure CfgM (O:List (Nat×AO)) (v1 v2 v3 v4:AV) (V:List AV) (c:Config):Prop where
 r:Mu O 1 v1 (V.map fun v=>[v])
 rl:V.length=c.rows.length
 rv:∀(k:Nat) (v:AV) (l:List Rw),V[k]? =some v→c.rows[k]? =some l→Mu O 5 v (l.map Rw.c)
 n:Mu O 1 v2 (c.nextID.map cI)
 d:Mu O 2 v3 (c.defaults.map ActionCall.c)
 g:v4= .fslice 1 (c.registers.map (cS 1 c32))∨∃t,v4= .app 1 (c.registers.map (cS 1 c32)) t
 rn:∀i,vid v1=some i→vid v2=some i→False
 vi:∀(k k':Nat) (v v':AV) (i:Nat),V[k]? =some v→V[k']? =some v'→vid v=some i→vid v'=some i→k=k'
 va:∀v∈V,∀z es t,v≠ .app z es t
def CfgM.own (v1 v2 v3:AV) (V:List AV) (j:Nat):Prop:=vid v1=some j∨vid v2=some j∨vid v3=some j∨∃v∈V,vid v=some j
theorem CfgM.fr {O O':List (Nat×AO)} {v1 v2 v3 v4:AV} {V:List AV} {c:Config} (h:CfgM O v1 v2 v3 v4 V c) (hf:∀j,CfgM.own v1 v2 v3 V j→look j O'=look j O):CfgM O' v1 v2 v3 v4 V c:=by
 refine ⟨h.r.fr fun j hj=>hf j (.inl hj),h.rl,?_,h.n.fr fun j hj=>hf j (.inr (.inl hj)),h.d.fr fun j hj=>hf j (.inr (.inr (.inl hj))),h.g,h.rn,h.vi,h.va⟩
 intro k v l hv hl
 exact (h.rv k v l hv hl).fr fun j hj=>hf j (.inr (.inr (.inr ⟨v,List.mem_of_getElem? hv,hj⟩)))
theorem qoy {α β:Type} {f:α→Option β}:∀{l:List α} {m:List β},l.length=m.length→(∀(k:Nat) (x:α) (y:β),l[k]? =some x→m[k]? =some y→f x=some y)→mapO f l=some m
 | [],[],_,_=>rfl
 | [],_::_,h,_=>by simp at h
 | _::_,[],h,_=>by simp at h
 | a::l,b::m,h,hf=>by
  have h1:=hf 0 a b (by simp) (by simp)
  have h2:=qoy (f:=f) (l:=l) (m:=m) (by simpa using h) fun k x y hx hy=>hf (k+1) x y (by simpa using hx) (by simpa using hy)
  simp only [mapO,h1,h2]
theorem CfgM.snpR {O:List (Nat×AO)} {v1 v2 v3 v4:AV} {V:List AV} {c:Config} {n N:Nat} (h:CfgM O v1 v2 v3 v4 V c):snap (n+4) ⟨O,N⟩ v1=some (.slice 1 (c.rows.map (cS 5 Rw.c))):=by
 have e1:mapO (mapO (snap (n+3) ⟨O,N⟩)) (V.map fun v=>[v])=some (c.rows.map (cS 5 Rw.c)):=by
  refine qoy (by simp [h.rl]) ?_
  intro k x y hx hy
  rw [List.getElem?_map] at hx hy
  cases hv:V[k]? with
  | none=>rw [hv] at hx;cases hx
  | some v=>
   cases hl:c.rows[k]? with
   | none=>rw [hl] at hy;cases hy
   | some l=>
    rw [hv] at hx;rw [hl] at hy
    cases hx;cases hy
    have:=(h.rv k v l hv hl).snp (N:=N) (n:=n+2)
    simp only [mapO,this,qg6 (n:=n+2) (H:=⟨O,N⟩) (fun x=>qafb x) l,Option.map_some,cS]
 have k1:=h.r.snp (N:=N) (n:=n+3)
 rw [e1] at k1
 exact k1
theorem CfgM.snpN {O:List (Nat×AO)} {v1 v2 v3 v4:AV} {V:List AV} {c:Config} {n N:Nat} (h:CfgM O v1 v2 v3 v4 V c):snap (n+4) ⟨O,N⟩ v2=some (.slice 1 (c.nextID.map cI)):=by
 have k2:=h.n.snp (N:=N) (n:=n+3)
 rw [qg6 (n:=n+3) (H:=⟨O,N⟩) (fun x=>qafa x)] at k2
 exact k2
theorem CfgM.snpD {O:List (Nat×AO)} {v1 v2 v3 v4:AV} {V:List AV} {c:Config} {n N:Nat} (h:CfgM O v1 v2 v3 v4 V c):snap (n+4) ⟨O,N⟩ v3=some (.slice 2 (c.defaults.map ActionCall.c)):=by
 have k3:=h.d.snp (N:=N) (n:=n+3)
 rw [qg6 (n:=n+3) (H:=⟨O,N⟩) (fun x=>qzm x)] at k3
 exact k3
theorem CfgM.snpG {O:List (Nat×AO)} {v1 v2 v3 v4:AV} {V:List AV} {c:Config} {n N:Nat} (h:CfgM O v1 v2 v3 v4 V c):snap (n+4) ⟨O,N⟩ v4=some (.slice 1 (c.registers.map (cS 1 c32))):=by
 rcases h.g with hg | ⟨t,hg⟩<;>subst hg<;>simp
@[simp] theorem qac9 (b x:Bool) (H:AH):qdu b H (some (.val (.bool x)))=some (.val (.bool x),H):=by cases b<;>simp
@[simp] theorem qaee (b:Bool) (k:IntKind) (x:Int) (H:AH):qdu b H (some (.val (.int k x)))=some (.val (.int k x),H):=by cases b<;>simp
end Go.Av
