/-
 Operations on configurations, as plain functions; they keep configurations valid.
-/
import Derived.Test.YtakklbipljodeaaGreatQ10
set_option linter.unusedVariables false
set_option linter.unusedSimpArgs false
set_option linter.constructorNameAsVariable false
namespace Go.Av
def qcb (c:Config) (t:Int):List Rw:=(at? c.rows t).getD []
def qdw (c:Config) (t:Int):Int:=(at? c.nextID t).getD 0
def qlp (p:Prg) (t:Int):Int:=((at? p.tables t).map Tbl.size).getD 0
def inT (p:Prg) (t:Int):Bool:=decide (0≤t)&&decide (t<p.tables.length)
def rIdx (l:List Rw) (id:Int):Option Nat:=l.findIdx? fun r=>decide (r.id=id)
def insE (p:Prg) (c:Config) (t:Int) (x:Entry):Int:=
 if inT p t=false then 8 else if entE p t x≠0 then entE p t x else if (qcb c t).any (fun y=>sk y.entry x)=true then 7
 else if qlp p t≤(qcb c t).length∨1073741824≤qdw c t then 13 else 0
def insC (c:Config) (t:Int) (x:Entry):Config:=⟨c.rows.set t.toNat (qcb c t++[⟨qdw c t,x⟩]),c.nextID.set t.toNat (qdw c t+1),c.defaults,c.registers⟩
def modE (p:Prg) (c:Config) (t id:Int) (x:ActionCall):Int:=
 if inT p t=false then 8 else if rIdx (qcb c t) id=none then 8 else qba p t x
def qbm (x:ActionCall) (r:Rw):Rw:=⟨r.id,⟨r.entry.keys,r.entry.priority,x⟩⟩
def modC (c:Config) (t id:Int) (x:ActionCall):Config:=match rIdx (qcb c t) id with
 | some i=>⟨c.rows.set t.toNat ((qcb c t).modify i (qbm x)),c.nextID,c.defaults,c.registers⟩
 | none=>c
def delE (p:Prg) (c:Config) (t id:Int):Int:=
 if inT p t=false then 8 else if rIdx (qcb c t) id=none then 8 else 0
def delC (c:Config) (t id:Int):Config:=match rIdx (qcb c t) id with
 | some i=>⟨c.rows.set t.toNat ((qcb c t).eraseIdx i),c.nextID,c.defaults,c.registers⟩
 | none=>c
def defE (p:Prg) (t:Int) (x:ActionCall):Int:=if inT p t=false then 8 else qba p t x
def defC (c:Config) (t:Int) (x:ActionCall):Config:=⟨c.rows,c.nextID,c.defaults.set t.toNat x,c.registers⟩
theorem qe6 {p:Prg} {t:Int} (h:inT p t=true):∃k:Nat,t=k∧k<p.tables.length:=by
 unfold inT at h;simp at h;exact ⟨t.toNat,by omega,by omega⟩
theorem qh4 {p:Prg} {k:Nat} (h:k<p.tables.length):inT p (k:Int)=true:=by
 unfold inT;simp;omega
section
variable {p:Prg} {c:Config} {k:Nat}
theorem qcu (h:k<c.rows.length):qcb c (k:Int)=c.rows[k]:=by
 unfold qcb;rw [qkz,List.getElem?_eq_getElem h];rfl
theorem qhv (h:k<c.nextID.length):qdw c (k:Int)=c.nextID[k]:=by
 unfold qdw;rw [qkz,List.getElem?_eq_getElem h];rfl
theorem qkk (h:k<p.tables.length):qlp p (k:Int)=p.tables[k].size:=by
 unfold qlp;rw [qkz,List.getElem?_eq_getElem h];rfl
theorem CfgV.at (v:CfgV p c) (h:k<p.tables.length):TabV p k p.tables[k] (c.rows[k]'(by rw [v.rl];exact h)) (c.nextID[k]'(by rw [v.nl];exact h)) (c.defaults[k]'(by rw [v.dl];exact h)):=
 v.tab k _ _ _ _ (List.getElem?_eq_getElem h) (List.getElem?_eq_getElem (by rw [v.rl];exact h)) (List.getElem?_eq_getElem (by rw [v.nl];exact h)) (List.getElem?_eq_getElem (by rw [v.dl];exact h))
theorem CfgV.upd (v:CfgV p c) (h:k<p.tables.length) {l:List Rw} {nx:Int} {d:ActionCall} {R:List (List Rw)} {N:List Int} {D:List ActionCall}
  (hR:R=c.rows.set k l) (hN:N=c.nextID.set k nx) (hD:D=c.defaults.set k d) (t:TabV p k p.tables[k] l nx d):CfgV p ⟨R,N,D,c.registers⟩:=by
 subst hR hN hD;refine ⟨v.prg,by simp [v.rl],by simp [v.nl],by simp [v.dl],?_,v.con⟩;intro j tb l' nx' d' h1 h2 h3 h4;have hl1:=v.rl;have hl2:=v.nl;have hl3:=v.dl;by_cases hj:k=j
 ·subst hj;rw [List.getElem?_set_self (by omega)] at h2 h3 h4;rw [List.getElem?_eq_getElem h] at h1;cases h1;cases h2;cases h3;cases h4;exact t
 ·simp only [List.getElem?_set_ne hj] at h2 h3 h4;exact v.tab j _ _ _ _ h1 h2 h3 h4
end
theorem qadc {p:Prg} {c:Config} {t:Int} {x:Entry} (v:CfgV p c) (h:insE p c t x=0):CfgV p (insC c t x):=by
 unfold insE at h;cases hi:inT p t with
 | false=>rw [if_pos hi] at h;cases h
 | true=>
 obtain ⟨k,rfl,hk⟩:=qe6 hi;rw [if_neg (by rw [hi];decide)] at h;have l1:k<c.rows.length:=by rw [v.rl];exact hk
 have l2:k<c.nextID.length:=by rw [v.nl];exact hk
 have l3:k<c.defaults.length:=by rw [v.dl];exact hk
 have hv:=v.at hk;rw [qcu l1,qhv l2,qkk hk] at h;split at h
 ·rename_i h1;exact absurd h h1
 rename_i h1;split at h
 ·cases h
 rename_i h2;split at h
 ·cases h
 rename_i h3;unfold insC;rw [qcu l1,qhv l2];refine v.upd hk (l:=c.rows[k]++[⟨c.nextID[k],x⟩]) (nx:=c.nextID[k]+1) (d:=c.defaults[k]) (by simp) (by simp) (by simp) ?_;have n0:=hv.nx0;refine ⟨by simp;omega,?_,?_,?_,by omega,by omega,?_,?_,hv.dflt⟩
 ·intro r hr;rcases List.mem_append.1 hr with hr | hr
  ·exact hv.pos r hr
  ·simp at hr;subst hr;exact n0
 ·intro r hr;rcases List.mem_append.1 hr with hr | hr
  ·have:=hv.lt r hr;omega
  ·simp at hr;subst hr;simp;omega
 ·rw [List.pairwise_append];exact ⟨hv.inc,by simp,fun a ha b hb=>by simp at hb;subst hb;exact hv.lt a ha⟩
 ·intro r hr;rcases List.mem_append.1 hr with hr | hr
  ·exact hv.ent r hr
  ·simp at hr;subst hr;simpa using h1
 ·rw [List.pairwise_append];refine ⟨hv.uniq,by simp,fun a ha b hb=>?_⟩;simp at hb;subst hb;simp only [List.any_eq_true,not_exists,not_and,Bool.not_eq_true] at h2;exact h2 a ha
theorem qxc (p:Prg) (t:Int) (x:Entry) (y:ActionCall) (h:entE p t x=0) (hc:qba p t y=0):entE p t ⟨x.keys,x.priority,y⟩=0:=by
 unfold entE at h ⊢;split at h
 ·exact absurd h (by assumption)
 rename_i h1;rw [if_neg h1];cases ht:at? p.tables t with
 | none=>rfl
 | some tb=>
  rw [ht] at h;simp only at h ⊢;split at h
  ·cases h
  rename_i h2;rw [if_neg h2];have he:entG p tb ⟨x.keys,x.priority,y⟩=entG p tb x:=rfl;rw [he];cases hf:fe (entG p tb x) tb.keys.length 0 with
  | some e=>rw [hf] at h;simpa using h
  | none=>
   rw [hf] at h;simp only [Option.getD_none] at h ⊢;unfold entF at h ⊢;unfold qba at hc;simp only;split at h
   ·cases h
   rename_i a1;rw [if_neg a1];split at h
   ·cases h
   rename_i a2;rw [if_neg a2];split at h
   ·cases h
   rename_i a3;rw [if_neg a3];exact hc
theorem qhj {l:List Rw} {id:Int} {i:Nat} (h:rIdx l id=some i):∃hi:i<l.length,l[i].id=id:=by
 unfold rIdx at h;rw [List.findIdx?_eq_some_iff_getElem] at h;obtain ⟨hi,h1,_⟩:=h;exact ⟨hi,by simpa using h1⟩
theorem qadm {p:Prg} {c:Config} {t id:Int} {x:ActionCall} (v:CfgV p c) (h:modE p c t id x=0):CfgV p (modC c t id x):=by
 unfold modE at h;cases hi:inT p t with
 | false=>rw [if_pos hi] at h;cases h
 | true=>
 obtain ⟨k,rfl,hk⟩:=qe6 hi;rw [if_neg (by rw [hi];decide)] at h;have l1:k<c.rows.length:=by rw [v.rl];exact hk
 have l2:k<c.nextID.length:=by rw [v.nl];exact hk
 have l3:k<c.defaults.length:=by rw [v.dl];exact hk
 have hv:=v.at hk;unfold modC;rw [qcu l1] at h ⊢;cases hx:rIdx c.rows[k] id with
 | none=>simp only;exact v
 | some i=>
  rw [hx,if_neg (by simp)] at h;simp only;obtain ⟨hil,hid⟩:=qhj hx;have hm:c.rows[k].modify i (qbm x)=c.rows[k].set i (qbm x c.rows[k][i]):=by
   refine List.ext_getElem (by simp) fun j h1 h2=>?_
   rw [List.getElem_modify,List.getElem_set];split
   ·rename_i e;subst e;rfl
   ·rfl
  refine v.upd hk (l:=c.rows[k].modify i (qbm x)) (nx:=c.nextID[k]) (d:=c.defaults[k]) (by simp) (by simp) (by simp) ?_;have mem:∀r∈c.rows[k].modify i (qbm x),∃r'∈c.rows[k],r.id=r'.id∧entE p k r.entry=0:=by
   intro r hr;rw [hm] at hr;rcases List.mem_or_eq_of_mem_set hr with hr | rfl
   ·exact ⟨r,hr,rfl,hv.ent r hr⟩
   ·exact ⟨_,List.getElem_mem hil,rfl,qxc p k _ x (hv.ent _ (List.getElem_mem hil)) h⟩
  have get:∀j (hj:j<(c.rows[k].modify i (qbm x)).length),(c.rows[k].modify i (qbm x))[j].id=(c.rows[k][j]'(by simpa using hj)).id∧(c.rows[k].modify i (qbm x))[j].entry.keys=(c.rows[k][j]'(by simpa using hj)).entry.keys∧(c.rows[k].modify i (qbm x))[j].entry.priority=(c.rows[k][j]'(by simpa using hj)).entry.priority:=by
   intro j hj;rw [List.getElem_modify];split<;>simp [qbm]
  refine ⟨by simpa using hv.size,?_,?_,?_,hv.nx0,hv.nx1,?_,?_,hv.dflt⟩
  ·intro r hr;obtain ⟨r',hr',e,_⟩:=mem r hr;rw [e];exact hv.pos r' hr'
  ·intro r hr;obtain ⟨r',hr',e,_⟩:=mem r hr;rw [e];exact hv.lt r' hr'
  ·rw [List.pairwise_iff_getElem];intro a b ha hb hab;rw [(get a ha).1,(get b hb).1];exact List.pairwise_iff_getElem.1 hv.inc a b _ _ hab
  ·intro r hr;obtain ⟨_,_,_,e⟩:=mem r hr;exact e
  ·rw [List.pairwise_iff_getElem];intro a b ha hb hab;have:=List.pairwise_iff_getElem.1 hv.uniq a b (by simpa using ha) (by simpa using hb) hab;unfold sk at this ⊢;rw [(get a ha).2.1,(get a ha).2.2,(get b hb).2.1,(get b hb).2.2];exact this
theorem qacs {p:Prg} {c:Config} {t id:Int} (v:CfgV p c) (h:delE p c t id=0):CfgV p (delC c t id):=by
 unfold delE at h;cases hi:inT p t with
 | false=>rw [if_pos hi] at h;cases h
 | true=>
 obtain ⟨k,rfl,hk⟩:=qe6 hi;have l1:k<c.rows.length:=by rw [v.rl];exact hk
 have l2:k<c.nextID.length:=by rw [v.nl];exact hk
 have l3:k<c.defaults.length:=by rw [v.dl];exact hk
 have hv:=v.at hk;unfold delC;rw [qcu l1];cases hx:rIdx c.rows[k] id with
 | none=>simp only;exact v
 | some i=>
  simp only;refine v.upd hk (l:=c.rows[k].eraseIdx i) (nx:=c.nextID[k]) (d:=c.defaults[k]) (by simp) (by simp) (by simp) ?_;have hs:=List.eraseIdx_sublist c.rows[k] i;have hsz:=hv.size;have hle:=hs.length_le;exact ⟨by omega,fun r hr=>hv.pos r (hs.subset hr),fun r hr=>hv.lt r (hs.subset hr),hv.inc.sublist hs,hv.nx0,hv.nx1,fun r hr=>hv.ent r (hs.subset hr),hv.uniq.sublist hs,hv.dflt⟩
theorem qacr {p:Prg} {c:Config} {t:Int} {x:ActionCall} (v:CfgV p c) (h:defE p t x=0):CfgV p (defC c t x):=by
 unfold defE at h;cases hi:inT p t with
 | false=>rw [if_pos hi] at h;cases h
 | true=>
 obtain ⟨k,rfl,hk⟩:=qe6 hi;rw [if_neg (by rw [hi];decide)] at h;have l1:k<c.rows.length:=by rw [v.rl];exact hk
 have l2:k<c.nextID.length:=by rw [v.nl];exact hk
 have l3:k<c.defaults.length:=by rw [v.dl];exact hk
 have hv:=v.at hk;unfold defC;exact v.upd hk (l:=c.rows[k]) (nx:=c.nextID[k]) (d:=x) (by simp) (by simp) (by simp) ⟨hv.size,hv.pos,hv.lt,hv.inc,hv.nx0,hv.nx1,hv.ent,hv.uniq,h⟩
theorem qup {α:Type} {f:α→Option α}:∀{l:List α},(∀x∈l,f x=some x)→mapO f l=some l
 | [],_=>rfl
 | a::l,h=>by
  have h1:=h a (by simp);have h2:=qup (f:=f) (l:=l) fun x hx=>h x (by simp [hx])
  simp only [mapO,h1,h2]
theorem qed {α:Type} {g:α→List AV} {n:Nat} {H:AH} (h:∀x,mapO (snap n H) (g x)=some (g x)) (l:List α):mapO (mapO (snap n H)) (l.map g)=some (l.map g):=by
 refine qup fun x hx=>?_
 obtain ⟨y,_,rfl⟩:=List.mem_map.1 hx;exact h y
theorem qoi {n:Nat} {H:AH} (r:Rw):mapO (snap (n+1) H) (Rw.c r)=some (Rw.c r):=by simp [Rw.c]
theorem qahu {n:Nat} {H:AH} (x:Int):mapO (snap (n+1) H) (cI x)=some (cI x):=by simp [cI]
theorem qs4 {n:Nat} {H:AH} (x:ActionCall):mapO (snap (n+1) H) (ActionCall.c x)=some (ActionCall.c x):=by simp [ActionCall.c]
structure CfgM (O:List (Nat×AO)) (v1 v2 v3 v4:AV) (V:List AV) (c:Config):Prop where
 r:Mu O 1 v1 (V.map fun v=>[v])
 rl:V.length=c.rows.length
 rv:∀(k:Nat) (v:AV) (l:List Rw),V[k]? =some v→c.rows[k]? =some l→Mu O 5 v (l.map Rw.c)
 n:Mu O 1 v2 (c.nextID.map cI)
 d:Mu O 2 v3 (c.defaults.map ActionCall.c)
 g:v4= .fslice 1 (c.registers.map (cS 1 c32))∨∃t,v4= .app 1 (c.registers.map (cS 1 c32)) t
 rn:∀i,vid v1=some i→vid v2=some i→False
 vi:∀(k k':Nat) (v v':AV) (i:Nat),V[k]? =some v→V[k']? =some v'→vid v=some i→vid v'=some i→k=k'
 va:∀v∈V,∀z es t,v≠ .app z es t
def CfgM.own (v1 v2 v3:AV) (V:List AV) (j:Nat):Prop:=vid v1=some j∨vid v2=some j∨vid v3=some j∨∃v∈V,vid v=some j
theorem CfgM.fr {O O':List (Nat×AO)} {v1 v2 v3 v4:AV} {V:List AV} {c:Config} (h:CfgM O v1 v2 v3 v4 V c) (hf:∀j,CfgM.own v1 v2 v3 V j→look j O'=look j O):CfgM O' v1 v2 v3 v4 V c:=by
 refine ⟨h.r.fr fun j hj=>hf j (.inl hj),h.rl,?_,h.n.fr fun j hj=>hf j (.inr (.inl hj)),h.d.fr fun j hj=>hf j (.inr (.inr (.inl hj))),h.g,h.rn,h.vi,h.va⟩;intro k v l hv hl;exact (h.rv k v l hv hl).fr fun j hj=>hf j (.inr (.inr (.inr ⟨v,List.mem_of_getElem? hv,hj⟩)))
theorem qp8 {α β:Type} {f:α→Option β}:∀{l:List α} {m:List β},l.length=m.length→(∀(k:Nat) (x:α) (y:β),l[k]? =some x→m[k]? =some y→f x=some y)→mapO f l=some m
 | [],[],_,_=>rfl
 | [],_::_,h,_=>by simp at h
 | _::_,[],h,_=>by simp at h
 | a::l,b::m,h,hf=>by
  have h1:=hf 0 a b (by simp) (by simp);have h2:=qp8 (f:=f) (l:=l) (m:=m) (by simpa using h) fun k x y hx hy=>hf (k+1) x y (by simpa using hx) (by simpa using hy)
  simp only [mapO,h1,h2]
theorem CfgM.snpR {O:List (Nat×AO)} {v1 v2 v3 v4:AV} {V:List AV} {c:Config} {n N:Nat} (h:CfgM O v1 v2 v3 v4 V c):snap (n+4) ⟨O,N⟩ v1=some (.slice 1 (c.rows.map (cS 5 Rw.c))):=by
 have e1:mapO (mapO (snap (n+3) ⟨O,N⟩)) (V.map fun v=>[v])=some (c.rows.map (cS 5 Rw.c)):=by
  refine qp8 (by simp [h.rl]) ?_;intro k x y hx hy;rw [List.getElem?_map] at hx hy;cases hv:V[k]? with
  | none=>rw [hv] at hx;cases hx
  | some v=>
   cases hl:c.rows[k]? with
   | none=>rw [hl] at hy;cases hy
   | some l=>
    rw [hv] at hx;rw [hl] at hy;cases hx;cases hy;have:=(h.rv k v l hv hl).snp (N:=N) (n:=n+2);simp only [mapO,this,qed (n:=n+2) (H:=⟨O,N⟩) (fun x=>qoi x) l,Option.map_some,cS]
 have k1:=h.r.snp (N:=N) (n:=n+3);rw [e1] at k1;exact k1
theorem CfgM.snpN {O:List (Nat×AO)} {v1 v2 v3 v4:AV} {V:List AV} {c:Config} {n N:Nat} (h:CfgM O v1 v2 v3 v4 V c):snap (n+4) ⟨O,N⟩ v2=some (.slice 1 (c.nextID.map cI)):=by
 have k2:=h.n.snp (N:=N) (n:=n+3);rw [qed (n:=n+3) (H:=⟨O,N⟩) (fun x=>qahu x)] at k2;exact k2
theorem CfgM.snpD {O:List (Nat×AO)} {v1 v2 v3 v4:AV} {V:List AV} {c:Config} {n N:Nat} (h:CfgM O v1 v2 v3 v4 V c):snap (n+4) ⟨O,N⟩ v3=some (.slice 2 (c.defaults.map ActionCall.c)):=by
 have k3:=h.d.snp (N:=N) (n:=n+3);rw [qed (n:=n+3) (H:=⟨O,N⟩) (fun x=>qs4 x)] at k3;exact k3
theorem CfgM.snpG {O:List (Nat×AO)} {v1 v2 v3 v4:AV} {V:List AV} {c:Config} {n N:Nat} (h:CfgM O v1 v2 v3 v4 V c):snap (n+4) ⟨O,N⟩ v4=some (.slice 1 (c.registers.map (cS 1 c32))):=by
 rcases h.g with hg | ⟨t,hg⟩<;>subst hg<;>simp
@[simp] theorem qafm (b x:Bool) (H:AH):qd2 b H (some (.val (.bool x)))=some (.val (.bool x),H):=by cases b<;>simp
@[simp] theorem qagx (b:Bool) (k:IntKind) (x:Int) (H:AH):qd2 b H (some (.val (.int k x)))=some (.val (.int k x),H):=by cases b<;>simp
set_option maxRecDepth 4000
def regN (r:Register):Nat:=if r.size<1∨64<r.size then 0 else r.size.toNat
theorem qet {Ψ:FuncId→Option AFun} {f z bytes:Nat} (hf:Ψ f=some (.rule (qd5 z bytes .app))) (es:List (List AV)) (hz:qcc z es=true) (hb:es.length*bytes≤70368744177664):qab Ψ f [.slice z es]=some (.val (.slice z es)):=by
 unfold qab;rw [qjv Ψ hf];cases es with
 | nil=>simp [qd5,lenOf,qcz,evR,qeh,H0,AH.put]
 | cons x es=>
  simp only [List.length_cons] at hb;simp [qd5,lenOf,evR,qeh,H0,AH.put,hz,hb]
theorem qrm (l:List Int) (h:l.length<2^40):qab Φ f_161 [.slice 1 (l.map c32)]=some (.val (.slice 1 (l.map c32))):=
 qet (bytes:=4) rfl _ (qb7 1 c32 l fun x=>by simp [c32]) (by rw [List.length_map];omega)
theorem qafw (l:List KeyMatch) (h:l.length<2^40):qab Φ f_182 [.slice 2 (l.map KeyMatch.c)]=some (.val (.slice 2 (l.map KeyMatch.c))):=
 qet (bytes:=8) rfl _ (qb7 2 KeyMatch.c l fun x=>by simp [KeyMatch.c]) (by rw [List.length_map];omega)
theorem qjw (c:ActionCall) (h:c.args.length<2^40):qab Φ f_74 [.agg (ActionCall.c c)]=some (.val (.agg (ActionCall.c c))):=by
 rw [qaa (fn:=c_74) rfl rfl];have k:=qrm c.args h;simp [c_74,ActionCall.ce,k]
theorem qpr (x:Entry) (h:x.call.args.length<2^40) (h2:x.keys.length<2^40):qab Φ f_90 [.agg (Entry.c x)]=some (.val (.agg (Entry.c x))):=by
 rw [qaa (fn:=c_90) rfl rfl];have k:=qafw x.keys h2;have k2:=qjw x.call h;simp only [ActionCall.ce] at k2;simp [c_90,Entry.ce,k,k2]
theorem qaco (x:Rw) (h:rowS x):qab Φ f_163 [.agg (Rw.c x)]=some (.val (.agg (Rw.c x))):=by
 rw [qaa (fn:=c_163) rfl rfl];have k:=qpr x.entry h.al h.kl;simp only [Entry.ce] at k;simp [c_163,Rw.ce,k]
theorem qqx (l:List Header) (hl:l.length<2^39) (hf:∀x∈l,qab Φ f_213 [.agg (Header.c x)]=some (.val (.agg (Header.c x)))):qab Φ f_212 [.slice 2 (l.map Header.c),.func (.func f_213) [] []]=some (.val (.slice 2 (l.map Header.c))):=by
 rw [qaa (fn:=c_212) rfl rfl];simp [c_212];refine (qaw l.length (fun i=>[(0,.tok 2 i)]) 1 (fun i e=>look 1 e=some (.func (.func f_213) [] [])∧look 5 e=some (.app 2 ((l.map Header.c).take i) 0)∧look 8 e=some (.slice 2 (l.map Header.c))∧look 9 e=some (.int .i64 l.length)∧look 10 e=some (.int .i64 i))
  (fun _=>some (Rt.val (.slice 2 (l.map Header.c)))) ?_ ?_ 0 _ 1 (Nat.zero_le _) (Nat.le_refl _) ?_).trans (by simp)
 ·rintro i e n L hi hL hn ⟨h1,h5,h8,h9,h10⟩ ih;have hw:IntKind.wrap .i64 ((i:Int)+1)=((i+1:Nat):Int):=qac (by omega) (by omega);have hn0:¬(0=n):=by omega
  have hn1:¬(n=0):=by omega
  have hm:min i l.length=i:=by omega
  have hb:∀k,k≤128→(i+1)*k≤70368744177664:=fun k hk=>by
   have:(i+1)*k≤(i+1)*128:=Nat.mul_le_mul_left _ hk;omega
  have hN:=hf _ (List.getElem_mem hi);simp only [Header.e] at hN;simp [c_212_l0,Header.e,h1,h5,h8,h9,h10,hi,hw,hn0,hm,hb,hN];exact ih _ _ (by omega) ⟨by simp [h1],by simp [qa1 hi,Header.e],by simp [h8],by simp [h9],by simp⟩
 ·rintro e n L hL hn ⟨h1,h5,h8,h9,h10⟩;simp [c_212_l0,c_212_k1,h5,h9,h10,hL]
 ·simp
theorem qm0 (l:List Statement) (hl:l.length<2^39) (hf:∀x∈l,qab Φ f_288 [.agg (Statement.c x)]=some (.val (.agg (Statement.c x)))):qab Φ f_287 [.slice 7 (l.map Statement.c),.func (.func f_288) [] []]=some (.val (.slice 7 (l.map Statement.c))):=by
 rw [qaa (fn:=c_287) rfl rfl];simp [c_287];refine (qaw l.length (fun i=>[(0,.tok 7 i)]) 1 (fun i e=>look 1 e=some (.func (.func f_288) [] [])∧look 5 e=some (.app 7 ((l.map Statement.c).take i) 0)∧look 8 e=some (.slice 7 (l.map Statement.c))∧look 9 e=some (.int .i64 l.length)∧look 10 e=some (.int .i64 i))
  (fun _=>some (Rt.val (.slice 7 (l.map Statement.c)))) ?_ ?_ 0 _ 1 (Nat.zero_le _) (Nat.le_refl _) ?_).trans (by simp)
 ·rintro i e n L hi hL hn ⟨h1,h5,h8,h9,h10⟩ ih;have hw:IntKind.wrap .i64 ((i:Int)+1)=((i+1:Nat):Int):=qac (by omega) (by omega);have hn0:¬(0=n):=by omega
  have hn1:¬(n=0):=by omega
  have hm:min i l.length=i:=by omega
  have hb:∀k,k≤128→(i+1)*k≤70368744177664:=fun k hk=>by
   have:(i+1)*k≤(i+1)*128:=Nat.mul_le_mul_left _ hk;omega
  have hN:=hf _ (List.getElem_mem hi);simp only [Statement.e] at hN;simp [c_287_l0,Statement.e,h1,h5,h8,h9,h10,hi,hw,hn0,hm,hb,hN];exact ih _ _ (by omega) ⟨by simp [h1],by simp [qa1 hi,Statement.e],by simp [h8],by simp [h9],by simp⟩
 ·rintro e n L hL hn ⟨h1,h5,h8,h9,h10⟩;simp [c_287_l0,c_287_k1,h5,h9,h10,hL]
 ·simp
theorem qqw (l:List Action) (hl:l.length<2^39) (hf:∀x∈l,qab Φ f_217 [.agg (Action.c x)]=some (.val (.agg (Action.c x)))):qab Φ f_216 [.slice 3 (l.map Action.c),.func (.func f_217) [] []]=some (.val (.slice 3 (l.map Action.c))):=by
 rw [qaa (fn:=c_216) rfl rfl];simp [c_216];refine (qaw l.length (fun i=>[(0,.tok 3 i)]) 1 (fun i e=>look 1 e=some (.func (.func f_217) [] [])∧look 5 e=some (.app 3 ((l.map Action.c).take i) 0)∧look 8 e=some (.slice 3 (l.map Action.c))∧look 9 e=some (.int .i64 l.length)∧look 10 e=some (.int .i64 i))
  (fun _=>some (Rt.val (.slice 3 (l.map Action.c)))) ?_ ?_ 0 _ 1 (Nat.zero_le _) (Nat.le_refl _) ?_).trans (by simp)
 ·rintro i e n L hi hL hn ⟨h1,h5,h8,h9,h10⟩ ih;have hw:IntKind.wrap .i64 ((i:Int)+1)=((i+1:Nat):Int):=qac (by omega) (by omega);have hn0:¬(0=n):=by omega
  have hn1:¬(n=0):=by omega
  have hm:min i l.length=i:=by omega
  have hb:∀k,k≤128→(i+1)*k≤70368744177664:=fun k hk=>by
   have:(i+1)*k≤(i+1)*128:=Nat.mul_le_mul_left _ hk;omega
  have hN:=hf _ (List.getElem_mem hi);simp only [Action.e] at hN;simp [c_216_l0,Action.e,h1,h5,h8,h9,h10,hi,hw,hn0,hm,hb,hN];exact ih _ _ (by omega) ⟨by simp [h1],by simp [qa1 hi,Action.e],by simp [h8],by simp [h9],by simp⟩
 ·rintro e n L hL hn ⟨h1,h5,h8,h9,h10⟩;simp [c_216_l0,c_216_k1,h5,h9,h10,hL]
 ·simp
theorem qrv (l:List Tbl) (hl:l.length<2^39) (hf:∀x∈l,qab Φ f_219 [.agg (Tbl.c x)]=some (.val (.agg (Tbl.c x)))):qab Φ f_218 [.slice 6 (l.map Tbl.c),.func (.func f_219) [] []]=some (.val (.slice 6 (l.map Tbl.c))):=by
 rw [qaa (fn:=c_218) rfl rfl];simp [c_218];refine (qaw l.length (fun i=>[(0,.tok 6 i)]) 1 (fun i e=>look 1 e=some (.func (.func f_219) [] [])∧look 5 e=some (.app 6 ((l.map Tbl.c).take i) 0)∧look 8 e=some (.slice 6 (l.map Tbl.c))∧look 9 e=some (.int .i64 l.length)∧look 10 e=some (.int .i64 i))
  (fun _=>some (Rt.val (.slice 6 (l.map Tbl.c)))) ?_ ?_ 0 _ 1 (Nat.zero_le _) (Nat.le_refl _) ?_).trans (by simp)
 ·rintro i e n L hi hL hn ⟨h1,h5,h8,h9,h10⟩ ih;have hw:IntKind.wrap .i64 ((i:Int)+1)=((i+1:Nat):Int):=qac (by omega) (by omega);have hn0:¬(0=n):=by omega
  have hn1:¬(n=0):=by omega
  have hm:min i l.length=i:=by omega
  have hb:∀k,k≤128→(i+1)*k≤70368744177664:=fun k hk=>by
   have:(i+1)*k≤(i+1)*128:=Nat.mul_le_mul_left _ hk;omega
  have hN:=hf _ (List.getElem_mem hi);simp only [Tbl.e] at hN;simp [c_218_l0,Tbl.e,h1,h5,h8,h9,h10,hi,hw,hn0,hm,hb,hN];exact ih _ _ (by omega) ⟨by simp [h1],by simp [qa1 hi,Tbl.e],by simp [h8],by simp [h9],by simp⟩
 ·rintro e n L hL hn ⟨h1,h5,h8,h9,h10⟩;simp [c_218_l0,c_218_k1,h5,h9,h10,hL]
 ·simp
theorem qk3 (l:List ParserState) (hl:l.length<2^39) (hf:∀x∈l,qab Φ f_221 [.agg (ParserState.c x)]=some (.val (.agg (ParserState.c x)))):qab Φ f_220 [.slice 7 (l.map ParserState.c),.func (.func f_221) [] []]=some (.val (.slice 7 (l.map ParserState.c))):=by
 rw [qaa (fn:=c_220) rfl rfl];simp [c_220];refine (qaw l.length (fun i=>[(0,.tok 7 i)]) 1 (fun i e=>look 1 e=some (.func (.func f_221) [] [])∧look 5 e=some (.app 7 ((l.map ParserState.c).take i) 0)∧look 8 e=some (.slice 7 (l.map ParserState.c))∧look 9 e=some (.int .i64 l.length)∧look 10 e=some (.int .i64 i))
  (fun _=>some (Rt.val (.slice 7 (l.map ParserState.c)))) ?_ ?_ 0 _ 1 (Nat.zero_le _) (Nat.le_refl _) ?_).trans (by simp)
 ·rintro i e n L hi hL hn ⟨h1,h5,h8,h9,h10⟩ ih;have hw:IntKind.wrap .i64 ((i:Int)+1)=((i+1:Nat):Int):=qac (by omega) (by omega);have hn0:¬(0=n):=by omega
  have hn1:¬(n=0):=by omega
  have hm:min i l.length=i:=by omega
  have hb:∀k,k≤128→(i+1)*k≤70368744177664:=fun k hk=>by
   have:(i+1)*k≤(i+1)*128:=Nat.mul_le_mul_left _ hk;omega
  have hN:=hf _ (List.getElem_mem hi);simp only [ParserState.e] at hN;simp [c_220_l0,ParserState.e,h1,h5,h8,h9,h10,hi,hw,hn0,hm,hb,hN];exact ih _ _ (by omega) ⟨by simp [h1],by simp [qa1 hi,ParserState.e],by simp [h8],by simp [h9],by simp⟩
 ·rintro e n L hL hn ⟨h1,h5,h8,h9,h10⟩;simp [c_220_l0,c_220_k1,h5,h9,h10,hL]
 ·simp
theorem qeu (l:List ControlNode) (hl:l.length<2^39) (hf:∀x∈l,qab Φ f_223 [.agg (ControlNode.c x)]=some (.val (.agg (ControlNode.c x)))):qab Φ f_222 [.slice 5 (l.map ControlNode.c),.func (.func f_223) [] []]=some (.val (.slice 5 (l.map ControlNode.c))):=by
 rw [qaa (fn:=c_222) rfl rfl];simp [c_222];refine (qaw l.length (fun i=>[(0,.tok 5 i)]) 1 (fun i e=>look 1 e=some (.func (.func f_223) [] [])∧look 5 e=some (.app 5 ((l.map ControlNode.c).take i) 0)∧look 8 e=some (.slice 5 (l.map ControlNode.c))∧look 9 e=some (.int .i64 l.length)∧look 10 e=some (.int .i64 i))
  (fun _=>some (Rt.val (.slice 5 (l.map ControlNode.c)))) ?_ ?_ 0 _ 1 (Nat.zero_le _) (Nat.le_refl _) ?_).trans (by simp)
 ·rintro i e n L hi hL hn ⟨h1,h5,h8,h9,h10⟩ ih;have hw:IntKind.wrap .i64 ((i:Int)+1)=((i+1:Nat):Int):=qac (by omega) (by omega);have hn0:¬(0=n):=by omega
  have hn1:¬(n=0):=by omega
  have hm:min i l.length=i:=by omega
  have hb:∀k,k≤128→(i+1)*k≤70368744177664:=fun k hk=>by
   have:(i+1)*k≤(i+1)*128:=Nat.mul_le_mul_left _ hk;omega
  have hN:=hf _ (List.getElem_mem hi);obtain ⟨kk,tt,cc,aa,bb,hx⟩:=qc3 l[i];rw [hx,ControlNode.ce] at hN;simp [c_222_l0,hx,ControlNode.ce,h1,h5,h8,h9,h10,hi,hw,hn0,hm,hb,hN];exact ih _ _ (by omega) ⟨by simp [h1],by simp [qa1 hi,hx,ControlNode.ce],by simp [h8],by simp [h9],by simp⟩
 ·rintro e n L hL hn ⟨h1,h5,h8,h9,h10⟩;simp [c_222_l0,c_222_k1,h5,h9,h10,hL]
 ·simp
theorem qun (H:AH):∀l:List Int,mapO (mapO (snap 39 H)) (l.map cI)=some (l.map cI)
 | []=>by simp [mapO]
 | x::l=>by
  have ih:=qun H l;simp only [List.map_cons,mapO,ih];simp [cI,mapO]
theorem qrl (l:List Int) (h:l.length<2^40):qab Φ f_162 [.slice 1 (l.map cI)]=some (.val (.slice 1 (l.map cI))):=by
 unfold qab;rw [qjv Φ (g:=qd5 1 8 .row) rfl];cases l with
 | nil=>simp [qd5,lenOf,qcz,evR,qeh,H0,AH.put]
 | cons x l=>
  have hb:(l.length+1)*8≤70368744177664:=by simp at h;omega
  have hm:=qun ⟨[(0,.row 1 ((x::l).map cI))],1⟩ (x::l);simp [cI] at hm;simp [qd5,lenOf,evR,qeh,H0,AH.put,hb,cI,hm]
theorem qrk (l:List Fld) (h:l.length<2^40):qab Φ f_214 [.slice 2 (l.map Fld.c)]=some (.val (.slice 2 (l.map Fld.c))):=
 qet (bytes:=24) rfl _ (qb7 2 Fld.c l fun x=>by simp [Fld.e]) (by rw [List.length_map];omega)
theorem qafv (l:List Register) (h:l.length<2^40):qab Φ f_215 [.slice 3 (l.map Register.c)]=some (.val (.slice 3 (l.map Register.c))):=
 qet (bytes:=32) rfl _ (qb7 3 Register.c l fun x=>by simp [Register.e]) (by rw [List.length_map];omega)
theorem qafx (l:List TableKey) (h:l.length<2^40):qab Φ f_289 [.slice 3 (l.map TableKey.c)]=some (.val (.slice 3 (l.map TableKey.c))):=
 qet (bytes:=24) rfl _ (qb7 3 TableKey.c l fun x=>by simp [TableKey.e]) (by rw [List.length_map];omega)
theorem qafu (l:List SelectCase) (h:l.length<2^40):qab Φ f_290 [.slice 3 (l.map SelectCase.c)]=some (.val (.slice 3 (l.map SelectCase.c))):=
 qet (bytes:=16) rfl _ (qb7 3 SelectCase.c l fun x=>by simp [SelectCase.e]) (by rw [List.length_map];omega)
theorem qrj (l:List ExprNode) (h:l.length<2^40):qab Φ f_291 [.slice 3 (l.map ExprNode.c)]=some (.val (.slice 3 (l.map ExprNode.c))):=
 qet (bytes:=24) rfl _ (qb7 3 ExprNode.c l fun x=>by simp [ExprNode.c]) (by rw [List.length_map];omega)
theorem qu6 (x:Header) (h:x.fields.length<2^40):qab Φ f_213 [.agg (Header.c x)]=some (.val (.agg (Header.c x))):=by
 rw [qaa (fn:=c_213) rfl rfl];have k:=qrk x.fields h;simp [c_213,Header.e,k]
theorem qqs (x:Statement) (h:x.index.length<2^40) (h2:x.value.length<2^40):qab Φ f_288 [.agg (Statement.c x)]=some (.val (.agg (Statement.c x))):=by
 rw [qaa (fn:=c_288) rfl rfl];have k:=qrj x.index h;have k2:=qrj x.value h2;simp [c_288,Statement.e,k,k2]
theorem qw1 (x:Tbl) (h:x.keys.length<2^40) (h2:x.actions.length<2^40) (h3:x.dflt.args.length<2^40):qab Φ f_219 [.agg (Tbl.c x)]=some (.val (.agg (Tbl.c x))):=by
 rw [qaa (fn:=c_219) rfl rfl];have k:=qafx x.keys h;have k2:=qrl x.actions h2;have k3:=qrm x.dflt.args h3;simp [c_219,Tbl.e,k,k2,k3]
theorem qw0 (x:ParserState) (h:x.extract.length<2^40) (h2:x.cases.length<2^40):qab Φ f_221 [.agg (ParserState.c x)]=some (.val (.agg (ParserState.c x))):=by
 rw [qaa (fn:=c_221) rfl rfl];have k:=qrl x.extract h;have k2:=qafu x.cases h2;simp [c_221,ParserState.e,k,k2]
theorem qu4 (x:Action) (h:x.params.length<2^40) (h2:x.body.length<2^39) (h3:∀s∈x.body,s.index.length<2^40∧s.value.length<2^40):qab Φ f_217 [.agg (Action.c x)]=some (.val (.agg (Action.c x))):=by
 rw [qaa (fn:=c_217) rfl rfl];have k:=qrk x.params h;have k2:=qm0 x.body h2 fun s hs=>qqs s (h3 s hs).1 (h3 s hs).2
 simp [c_217,Action.e,k,k2]
theorem qmx:∀(n:Nat) (x:ControlNode),SizeOf.sizeOf x≤n→ControlNode.Ok qbd x→qab Φ f_223 [.agg (ControlNode.c x)]=some (.val (.agg (ControlNode.c x)))
 | 0,x,h,_=>by cases x;simp at h
 | n+1,x,h,ho=>by
  obtain ⟨k,t,c,a,b,rfl⟩:=qc3 x;simp only [ControlNode.Ok] at ho;obtain ⟨_,_,hc,⟨ha1,ha2⟩,hb1,hb2⟩:=ho;rw [ControlNode.oks_eq] at ha2 hb2;have e:=qdq;simp at h;have hc1:=hc.1;have k1:=qrj c (by omega);have k2:=qeu a (by omega) fun y hy=>qmx n y (by have:=List.sizeOf_lt_of_mem hy;omega) (ha2 y hy)
  have k3:=qeu b (by omega) fun y hy=>qmx n y (by have:=List.sizeOf_lt_of_mem hy;omega) (hb2 y hy)
  rw [qaa (fn:=c_223) rfl rfl];simp [c_223,ControlNode.ce,k1,k2,k3]
theorem qx7 (p:Prg) (op:p.Ok qbd):qab Φ f_139 [.agg (Prg.c p)]=some (.val (.agg (Prg.c p))):=by
 have f:=qlv op;obtain ⟨_,o1,o2,o3,o4,o5,o6,o7,o8⟩:=op;have e:=qdq;have k1:=qqx p.headers (by have:=o1.1;omega) fun x hx=>qu6 x (f.hl x hx)
 have k2:=qrk p.metadata f.m;have k3:=qafv p.registers f.r;have k4:=qqw p.actions (by have:=o4.1;omega) fun x hx=>qu4 x (f.ap x hx) (by
  have h:=o4.2 x hx;simp only [Action.Ok] at h;have:=h.2.2.1;omega) fun s hs=>⟨f.ai x hx s hs,f.av x hx s hs⟩
 have k5:=qrv p.tables (by have:=o5.1;omega) fun x hx=>qw1 x (f.tk x hx) (f.ta x hx) (f.tg x hx)
 have k6:=qk3 p.states (by have:=o6.1;omega) fun x hx=>qw0 x (f.se x hx) (f.sc x hx)
 have k7:=qeu p.control (by have:=o7.1;omega) fun x hx=>qmx _ x (Nat.le_refl _) (o7.2 x hx)
 have k8:=qrl p.deparser f.d;rw [qaa (fn:=c_139) rfl rfl];simp [c_139,Prg.e,k1,k2,k3,k4,k5,k6,k7,k8]
end Go.Av
