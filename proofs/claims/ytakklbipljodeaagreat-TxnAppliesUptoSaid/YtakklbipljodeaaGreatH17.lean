/-
 A store's object is the same as itself: the check's own comparison.
-/
import Derived.Test.YtakklbipljodeaaGreatH15
set_option linter.unusedVariables false
set_option linter.unusedSimpArgs false
set_option linter.constructorNameAsVariable false
namespace Go.Av
set_option maxRecDepth 4000
theorem qly {α:Type} {f:Nat→Option α} {Q:α→Prop} (h:∀i x,f i=some x→Q x) {N:Nat} {x:α} (hx:fe f N 0=some x):Q x:=by
 obtain ⟨k,_,hk⟩:=qd7 hx;exact h k x hk
theorem qadf {p:Prg} {d:Dg} (h:limD p=some d):d.1≠0:=by
 unfold limD at h
 repeat' split at h
 all_goals first | (cases h;simp;done) | cases h
theorem qac8 {p:Prg} {d:Dg} (h:hdrD p=some d):d.1≠0:=by
 refine qly (Q:=fun d:Dg=>d.1≠0) (fun i x hx=>?_) h;rw [Option.bind_eq_some_iff] at hx;obtain ⟨a,_,hx⟩:=hx;split at hx
 ·cases hx
 ·cases hx;assumption
theorem qadi {p:Prg} {d:Dg} (h:metD p=some d):d.1≠0:=by
 unfold metD at h;split at h
 ·cases h;simp
 split at h
 ·rename_i d' hd';cases h;refine qly (Q:=fun d:Dg=>d.1≠0) (fun i x hx=>?_) hd';rw [Option.bind_eq_some_iff] at hx;obtain ⟨a,_,hx⟩:=hx;split at hx
  ·cases hx
  ·cases hx;assumption
 ·refine qly (Q:=fun d:Dg=>d.1≠0) (fun i x hx=>?_) h;split at hx
  ·cases hx
  ·cases hx;simp
theorem qaeg {p:Prg} {d:Dg} (h:regD p=some d):d.1≠0:=by
 refine qly (Q:=fun d:Dg=>d.1≠0) (fun i x hx=>?_) h;rw [Option.bind_eq_some_iff] at hx;obtain ⟨a,_,hx⟩:=hx;split at hx
 ·cases hx
 ·cases hx;assumption
theorem qab2 {p:Prg} {d:Dg} (h:qdp p=some d):d.1≠0:=by
 refine qly (Q:=fun d:Dg=>d.1≠0) (fun i x hx=>?_) h;rw [Option.bind_eq_some_iff] at hx;obtain ⟨a,_,hx⟩:=hx;split at hx
 ·cases hx;assumption
 ·split at hx
  ·cases hx;simp
  ·cases hx
theorem qae5 {p:Prg} {d:Dg} (h:tblD p=some d):d.1≠0:=by
 refine qly (Q:=fun d:Dg=>d.1≠0) (fun i x hx=>?_) h;rw [Option.bind_eq_some_iff] at hx;obtain ⟨a,_,hx⟩:=hx;split at hx
 ·cases hx;assumption
 ·split at hx
  ·cases hx;simp
  ·cases hx
theorem qac1 {p:Prg} {d:Dg} (h:floD p=some d):d.1≠0:=by
 unfold floD at h;split at h
 ·cases h;assumption
 split at h
 ·cases h;assumption
 split at h
 ·cases h;assumption
 ·cases h
structure PrgV (p:Prg):Prop where
 lim:limD p=none
 hdr:hdrD p=none
 met:metD p=none
 reg:regD p=none
 act:qdp p=none
 tbl:tblD p=none
 flo:floD p=none
theorem qub {p:Prg} (h:(prgD p).1=0):PrgV p:=by
 unfold prgD at h;cases h1:limD p with
 | some d=>rw [h1] at h;exact absurd h (qadf h1)
 | none=>
 cases h2:hdrD p with
 | some d=>rw [h1,h2] at h;exact absurd h (qac8 h2)
 | none=>
 cases h3:metD p with
 | some d=>rw [h1,h2,h3] at h;exact absurd h (qadi h3)
 | none=>
 cases h4:regD p with
 | some d=>rw [h1,h2,h3,h4] at h;exact absurd h (qaeg h4)
 | none=>
 cases h5:qdp p with
 | some d=>rw [h1,h2,h3,h4,h5] at h;exact absurd h (qab2 h5)
 | none=>
 cases h6:tblD p with
 | some d=>rw [h1,h2,h3,h4,h5,h6] at h;exact absurd h (qae5 h6)
 | none=>
 cases h7:floD p with
 | some d=>rw [h1,h2,h3,h4,h5,h6,h7] at h;exact absurd h (qac1 h7)
 | none=>exact ⟨h1,h2,h3,h4,h5,h6,h7⟩
theorem PrgV.nest {p:Prg} (v:PrgV p):nest p.control≤6:=by
 have h:=v.flo;unfold floD at h;split at h
 ·cases h
 split at h
 ·cases h
 rename_i h1;refine Decidable.byContradiction fun hc=>h1 ?_
 unfold ctlE;split
 ·simp
 ·rw [if_pos (by omega)];simp
theorem PrgV.tabs {p:Prg} (v:PrgV p):p.tables.length≤12:=by
 have h:=v.lim;unfold limD at h
 repeat' split at h
 all_goals first | omega | cases h
theorem qhc {α:Type} (f:α→α→Bool):∀l:List α,(∀x∈l,f x x=true)→eqL f l l=true
 | [],_=>by simp [eqL]
 | x::r,h=>by simp [eqL,h x (List.mem_cons_self ..),qhc f r (fun y hy=>h y (List.mem_cons_of_mem _ hy))]
def Rf (n:Nat) (v:AV):Prop:=avEq n v v=true
theorem Rf.int (n:Nat) (k:IntKind) (v:Int):Rf (n+1) (.int k v):=by unfold Rf avEq;simp
theorem Rf.bool (n:Nat) (b:Bool):Rf (n+1) (.bool b):=by unfold Rf avEq;simp
theorem Rf.str (n:Nat) (b:List UInt8):Rf (n+1) (.str b):=by unfold Rf avEq;simp
theorem Rf.row (n a b c d:Nat):Rf (n+1) (.row a b c d):=by unfold Rf avEq;simp
theorem Rf.slice (n z:Nat) (es:List (List AV)) (h:∀e∈es,∀c∈e,Rf n c):Rf (n+1) (.slice z es):=by
 have:=qhc (eqL (avEq n)) es fun e he=>qhc (avEq n) e (h e he)
 unfold Rf avEq;simp [this]
theorem Rf.fslice (n z:Nat) (es:List (List AV)) (h:∀e∈es,∀c∈e,Rf n c):Rf (n+1) (.fslice z es):=by
 have:=qhc (eqL (avEq n)) es fun e he=>qhc (avEq n) e (h e he)
 unfold Rf avEq;simp [this]
theorem Rf.app (n z t:Nat) (es:List (List AV)) (h:∀e∈es,∀c∈e,Rf n c):Rf (n+1) (.app z es t):=by
 have:=qhc (eqL (avEq n)) es fun e he=>qhc (avEq n) e (h e he)
 unfold Rf avEq;simp [this]
theorem Rf.map {α:Type} (n z:Nat) (f:α→List AV) (l:List α) (h:∀x∈l,∀c∈f x,Rf n c):Rf (n+1) (.slice z (l.map f)):=by
 refine Rf.slice n z _ fun e he=>?_
 obtain ⟨x,hx,rfl⟩:=List.mem_map.1 he;exact h x hx
theorem qpj (n:Nat) (x:ExprNode):∀c∈ExprNode.c x,Rf (n+1) c:=by
 simp [ExprNode.c,Rf.int]
theorem qsv (n:Nat) (x:Fld):∀c∈Fld.c x,Rf (n+1) c:=by
 simp [Fld.c,Rf.int,Rf.str]
theorem rf_I (n:Nat) (x:Int):∀c∈cI x,Rf (n+1) c:=by simp [cI,Rf.int]
theorem qv6 (n:Nat) (x:Int):∀c∈c32 x,Rf (n+1) c:=by simp [c32,Rf.int]
theorem qsu:∀(k:Nat) (l:List ControlNode),nest l≤k→Rf (k+3) (.slice 5 (l.map ControlNode.c))
 | 0,l,h=>by
  cases l with
  | nil=>exact Rf.slice _ _ _ (by simp)
  | cons x l=>simp only [nest] at h;omega
 | k+1,l,h=>by
  have key:∀x∈l,qg4 x≤k:=by
   intro x hx;have:∀l:List ControlNode,x∈l→1+qg4 x≤nest l:=by
    intro l
    induction l with
    | nil=>intro h;cases h
    | cons y l ih=>
     intro h;simp only [nest];rcases List.mem_cons.1 h with rfl | h
     ·omega
     ·have:=ih h;omega
   have:=this l hx;omega
  refine Rf.map _ _ _ _ fun x hx=>?_
  have hk:=key x hx;cases x with
  | mk kd t cnd a b=>
   simp only [qg4] at hk;rw [ControlNode.ce];intro c hc;simp only [List.mem_cons,List.not_mem_nil,or_false] at hc;rcases hc with rfl | rfl | rfl | rfl | rfl
   ·exact Rf.int _ _ _
   ·exact Rf.int _ _ _
   ·exact Rf.map _ _ _ _ fun x _=>qpj _ x
   ·exact qsu k a (by omega)
   ·exact qsu k b (by omega)
theorem qahl {p:Prg} (v:PrgV p):∀c∈Prg.c p,Rf 40 c:=by
 rw [Prg.ce];intro c hc;simp only [List.mem_cons,List.not_mem_nil,or_false] at hc;rcases hc with rfl | rfl | rfl | rfl | rfl | rfl | rfl | rfl | rfl
 ·exact Rf.str _ _
 ·refine Rf.map _ _ _ _ fun x _=>?_
  simp only [Header.c,List.mem_cons,List.not_mem_nil,or_false];rintro c (rfl | rfl)
  ·exact Rf.str _ _
  ·exact Rf.map _ _ _ _ fun x _=>qsv _ x
 ·exact Rf.map _ _ _ _ fun x _=>qsv _ x
 ·refine Rf.map _ _ _ _ fun x _=>?_
  simp [Register.c,Rf.int,Rf.str]
 ·refine Rf.map _ _ _ _ fun x _=>?_
  rw [Action.ce];simp only [List.mem_cons,List.not_mem_nil,or_false];rintro c (rfl | rfl | rfl)
  ·exact Rf.str _ _
  ·exact Rf.map _ _ _ _ fun x _=>qsv _ x
  ·refine Rf.map _ _ _ _ fun x _=>?_
   rw [Statement.ce];simp only [List.mem_cons,List.not_mem_nil,or_false];rintro c (rfl | rfl | rfl | rfl | rfl | rfl | rfl)
   ·exact Rf.int _ _ _
   ·exact Rf.int _ _ _
   ·exact Rf.int _ _ _
   ·exact Rf.int _ _ _
   ·exact Rf.int _ _ _
   ·exact Rf.map _ _ _ _ fun x _=>qpj _ x
   ·exact Rf.map _ _ _ _ fun x _=>qpj _ x
 ·refine Rf.map _ _ _ _ fun x _=>?_
  rw [Tbl.ce];simp only [List.mem_cons,List.not_mem_nil,or_false];rintro c (rfl | rfl | rfl | rfl | rfl | rfl)
  ·exact Rf.str _ _
  ·exact Rf.map _ _ _ _ fun x _=>by simp [TableKey.c,Rf.int]
  ·exact Rf.map _ _ _ _ fun x _=>rf_I _ x
  ·exact Rf.int _ _ _
  ·exact Rf.map _ _ _ _ fun x _=>qv6 _ x
  ·exact Rf.int _ _ _
 ·refine Rf.map _ _ _ _ fun x _=>?_
  rw [ParserState.ce];simp only [List.mem_cons,List.not_mem_nil,or_false];rintro c (rfl | rfl | rfl | rfl | rfl | rfl | rfl)
  ·exact Rf.str _ _
  ·exact Rf.map _ _ _ _ fun x _=>rf_I _ x
  ·exact Rf.bool _ _
  ·exact Rf.int _ _ _
  ·exact Rf.int _ _ _
  ·exact Rf.map _ _ _ _ fun x _=>by simp [SelectCase.c,Rf.int]
  ·exact Rf.int _ _ _
 ·have:=v.nest;exact qsu 37 p.control (by omega)
 ·exact Rf.map _ _ _ _ fun x _=>rf_I _ x
theorem qrd {O:List (Nat×AO)} {z n:Nat} {v:AV} {es:List (List AV)} (h:Mu O z v es):Rf (n+1) v:=by
 cases h with
 | nilF=>exact Rf.fslice _ _ _ (by simp)
 | nilA=>exact Rf.app _ _ _ _ (by simp)
 | row=>exact Rf.row _ _ _ _ _
theorem qu0 {O:List (Nat×AO)} {S:SV} {p:Prg} {c:Config} (m:StoreM O S p c) (v:PrgV p):aoEq (some (.row 15 [S.cells p])) (some (.row 15 [S.cells p]))=true:=by
 have h:∀x∈S.cells p,avEq 40 x x=true:=by
  intro x hx;simp only [SV.cells,List.mem_cons,List.mem_append,List.not_mem_nil,or_false] at hx;rcases hx with rfl | rfl | rfl | rfl | hx | rfl | rfl
  ·exact qrd m.cm.r
  ·exact qrd m.cm.n
  ·exact qrd m.cm.d
  ·rcases m.cm.g with e | ⟨t,e⟩<;>rw [e]
   ·refine Rf.fslice _ _ _ fun e he=>?_
    obtain ⟨l,_,rfl⟩:=List.mem_map.1 he;simp only [cS,List.mem_cons,List.not_mem_nil,or_false];rintro c rfl;exact Rf.map _ _ _ _ fun x _=>qv6 _ x
   ·refine Rf.app _ _ _ _ fun e he=>?_
    obtain ⟨l,_,rfl⟩:=List.mem_map.1 he;simp only [cS,List.mem_cons,List.not_mem_nil,or_false];rintro c rfl;exact Rf.map _ _ _ _ fun x _=>qv6 _ x
  ·exact qahl v x hx
  ·exact qrd m.x.i
  ·exact Rf.bool _ _
 have h1:=qhc (avEq 40) _ h;unfold aoEq;simp [qah,eqL,h1]
theorem qkj {t:Nat} {y z:AO}:∀{O:List (Nat×AO)},setl t z (setl t y O)=setl t z O
 | []=>by simp
 | (u,w)::r=>by
  by_cases hu:u=t
  ·subst hu;simp
  ·simp [hu,qkj]
theorem qaes {O:List (Nat×AO)} {N id n i:Nat} {es:List (List AV)} {l:List Rw} (hl:look id O=some (.row 5 es)) (hn:n=l.length) (hle:n≤es.length) (ht:es.take n=l.map Rw.c) (hi:i<n) (hb:n<2^39):
  ∃N' es',qak Φ f_93 [.row id 5 0 n,.int .i64 i,.int .i64 ((i:Int)+1)] ⟨O,N⟩=some (.val (.row id 5 0 (n - 1)),⟨setl id (.row 5 es') O,N'⟩)∧N≤N'∧N'≤N+1∧n - 1≤es'.length∧es'.take (n - 1)=(l.eraseIdx i).map Rw.c:=by
 rw [qbs (fn:=c_93) rfl rfl];have hi1:(i:Int)+1=((i+1:Nat):Int):=by omega
 have a1:i+1≤n:=by omega
 have a2:i≤i+1:=by omega
 have a3:i≤n:=by omega
 have a4:i+1≤es.length:=by omega
 have a5:i≤es.length:=by omega
 have hne:¬i=i+1:=by omega
 rw [hi1];have b1:(0:Int)≤(i:Int)+1:=by omega
 have b2:(i:Int)+1≤(n:Int):=by omega
 have b3:(i:Int)+1≤(es.length:Int):=by omega
 have c1:i+(n - (i+1))=n - 1:=by omega
 have c2:min (n - (i+1)) (es.length - (i+1))=n - (i+1):=by omega
 have c3:i+(n - (i+1))≤es.length:=by omega
 have c4:i+1+(n - (i+1))≤es.length:=by omega
 have c5:¬i=es.length:=by omega
 have c6:(((n - 1:Nat):Int))≤(n:Int):=by omega
 have c7:n - 1≤n:=by omega
 have c9:¬(i:Int)=(i:Int)+1:=by omega
 have c8:(i:Int)≤(i:Int)+1:=by omega
 have c10:n≤es.length+1:=by omega
 have hys:(es.drop (i+1)).take (n - (i+1))=(l.drop (i+1)).map Rw.c:=by
  rw [← List.drop_take,ht,List.map_drop]
 have c11:qcc 5 ((es.drop (i+1)).take (n - (i+1)))=true:=by rw [hys];exact qb7 5 Rw.c _ fun x=>by simp
 have hE1l:(es.take i++((es.drop (i+1)).take (n - (i+1))++es.drop (n - 1))).length=es.length:=by
  simp only [List.length_append,List.length_take,List.length_drop];omega
 have hE1t:(es.take i++((es.drop (i+1)).take (n - (i+1))++es.drop (n - 1))).take (n - 1)=(l.eraseIdx i).map Rw.c:=by
  have hti:es.take i=(l.take i).map Rw.c:=by
   have:(es.take n).take i=es.take i:=by rw [List.take_take,Nat.min_eq_left (by omega)]
   rw [← this,ht,List.map_take]
  rw [hys,hti,List.eraseIdx_eq_take_drop_succ,List.map_append,← List.append_assoc,List.take_append_of_le_length (by simp;omega)];exact List.take_of_length_le (by simp;omega)
 have d1:((n - 1:Nat):Int)≤(es.length:Int):=by omega
 have d2:(n:Int)≤(es.length:Int):=by omega
 have d3:n - 1+(n - (n - 1))≤es.length:=by omega
 have d4:¬n - 1=n:=by omega
 have fin:∀N',N≤N'→N'≤N+1→∀(E1 D:List (List AV)),E1.length=es.length→E1.take (n - 1)=(l.eraseIdx i).map Rw.c→
   ∃N2 es',(setl id (AO.row 5 (E1.take (n - 1)++(List.replicate (n - (n - 1)) [AV.int .i64 0,.fslice 2 [],.int .i64 0,.int .i64 0,.fslice 1 []]++D))) O=setl id (AO.row 5 es') O∧N'=N2)∧N≤N2∧N2≤N+1∧n≤es'.length+1∧es'.take (n - 1)=(l.eraseIdx i).map Rw.c:=by
  intro N' h1 h2 E1 D h3 h4;refine ⟨N',_,⟨rfl,rfl⟩,h1,h2,?_,?_⟩
  ·simp only [List.length_append,List.length_take,List.length_replicate];omega
  ·rw [List.take_append_of_le_length (by simp;omega),List.take_take,Nat.min_self,h4]
 by_cases hfull:n=es.length
 ·have hf2:=eq_true hfull;simp [c_93,hl,hle,a1,a3,b1,b2,hf2,c1,c2,c5,c8,c9];rw [if_pos ⟨c10,c11⟩];generalize es.take i++((es.drop (i+1)).take (n - (i+1))++es.drop (n - 1))=E1 at hE1l hE1t ⊢;simp [qae,hl,hE1l,c6,c7,d2,qkj,hle];exact fin N (Nat.le_refl _) (by omega) E1 _ hE1l hE1t
 ·have hf2:=eq_false hfull;simp [c_93,hl,hle,a1,a3,b1,b2,hf2,c1,c2,c5,c8,c9];rw [if_pos ⟨c10,c11⟩];generalize es.take i++((es.drop (i+1)).take (n - (i+1))++es.drop (n - 1))=E1 at hE1l hE1t ⊢;simp [qae,hl,hE1l,c6,c7,d2,qkj,hle];exact fin (N+1) (by omega) (by omega) E1 _ hE1l hE1t
theorem qws {O:List (Nat×AO)} {N:Nat} {S:SV} {p:Prg} {c:Config} (m:StoreM O S p c) (v:CfgV p c) (hT:Tail O N) (t id:Int):
  MDpost N O S p (if delE p c t id=0 then delC c t id else c) (.int .i64 (delE p c t id)) (qak Φ f_35 [.ptr S.s 15 0 0,.int .i64 t,.int .i64 id] ⟨O,N⟩):=by
 rw [qbs (fn:=c_35) rfl rfl];have hl:=v.rl;have hr:=qsy (N:=N) m hl t id;have hE:delE p c t id=rowX p c t id:=rfl;rw [hE];by_cases z:rowX p c t id=0
 rotate_left
 ·rw [if_neg z];simp [c_35,hr,z];exact ⟨S,O,N,rfl,m,rfl,fun j hj=> .inl hj,fun _ _ _=>rfl,hT,Nat.le_refl _⟩
 rw [if_pos z,z];cases hi:inT p t with
 | false=>simp [rowX,hi] at z
 | true=>
 obtain ⟨k,rfl,hk⟩:=qe6 hi;have hk':k<c.rows.length:=by omega
 have hrow:qcb c (k:Int)=c.rows[k]:=qcu hk';cases hx2:rIdx c.rows[k] id with
 | none=>simp [rowX,hi,hrow,hx2] at z
 | some i=>
 obtain ⟨hil,hid⟩:=qhj hx2;have hI:rowI p c k id=i:=by simp [rowI,hi,hrow,hx2]
 have hM:delC c (k:Int) id=⟨c.rows.set k (c.rows[k].eraseIdx i),c.nextID,c.defaults,c.registers⟩:=by
  unfold delC;rw [hrow,hx2];simp
 rw [z,hI] at hr;rw [hM];have hv:=v.at hk;have hsm:=v.small _ (List.getElem_mem hk');have hs:=m.se;obtain ⟨rid,es1,e1,lr,hle1,⟨hV,g1,g5⟩,ht1⟩:=m.tab hk';obtain ⟨r5,es5,e5,l5,hle5,ht5⟩:=g5.nonempty (by simp;omega);rw [List.length_map] at e5 hle5 ht5;rw [e1] at hs;rw [e5] at g1;have hao:=qu0 m (qub v.prg);simp only [SV.cells,Prg.e,List.cons_append,List.nil_append,e1] at hao;obtain ⟨N2,es',e6,n1,n2,h7,h8⟩:=qaes (N:=N+1) l5 rfl hle5 ht5 hil (by omega);have hwi:IntKind.wrap .i64 ((i:Int)+1)=(i:Int)+1:=qac (by omega) (by omega);have hsr:=qau hs lr (by simp);have hs5:=qau hs l5 (by simp);have hr5:=qau lr l5 (by simp);have h5r:=hr5.symm;have hrs:=hsr.symm;simp [c_35,hr,hs,lr,hk',g1,hwi,e6,qae,hs5,hr5,hao];have hMl:=m.x.len;have hVl:=m.cm.rl;obtain ⟨iid,esi,e3,li,hle3,hMk,gi,lm⟩:=m.idx hk';have own1:S.own rid:= .inr (.inl (.inl (by rw [e1];rfl)));have own3:S.own S.M[k]:= .inr (.inr (.inr (List.getElem_mem hMk)));have own4:S.own r5:= .inr (.inl (.inr (.inr (.inr ⟨_,List.getElem_mem hV,by rw [e5];rfl⟩))));have own5:S.own iid:= .inr (.inr (.inl (by rw [e3];rfl)));have k3:∀A B j,j≠rid→j≠r5→look j O≠some .res→look j (qa6 (setl rid A (setl r5 B O)))=look j O:=by
  intro A B j h1 h2 h3;have h0:look j (setl rid A (setl r5 B O))=look j O:=by rw [qae,if_neg h1,qae,if_neg h2]
  rw [qbl (by rw [h0];exact h3),h0]
 have a1:∀B es,look rid (qa6 (setl rid (.row 1 es) (setl r5 B O)))=some (.row 1 es):=by
  intro B es;have h0:look rid (setl rid (.row 1 es) (setl r5 B O))=some (.row 1 es):=by rw [qae,if_pos rfl,qae,if_neg hr5,lr];rfl
  rw [qbl (by rw [h0];simp),h0]
 have a2:∀A es,look r5 (qa6 (setl rid A (setl r5 (.row 5 es) O)))=some (.row 5 es):=by
  intro A es;have h0:look r5 (setl rid A (setl r5 (.row 5 es) O))=some (.row 5 es):=by rw [qae,if_neg h5r,qae,if_pos rfl,l5];rfl
  rw [qbl (by rw [h0];simp),h0]
 have hT3:∀A B,Tail (qa6 (setl rid A (setl r5 B O))) N2:=fun A B=>qfc (qaq (qaq (hT.mono (by omega))))
 generalize hO3:qa6 (setl rid (AO.row 1 (es1.set k [AV.row r5 5 0 (c.rows[k].length - 1)])) (setl r5 (AO.row 5 es') O))=O3;have k3':∀j,j≠rid→j≠r5→look j O≠some .res→look j O3=look j O:=fun j h1 h2 h3=>by rw [← hO3];exact k3 _ _ j h1 h2 h3
 have a1':look rid O3=some (.row 1 (es1.set k [AV.row r5 5 0 (c.rows[k].length - 1)])):=by rw [← hO3];exact a1 _ _
 have a2':look r5 O3=some (.row 5 es'):=by rw [← hO3];exact a2 _ _
 have hT3':Tail O3 N2:=by rw [← hO3];exact hT3 _ _
 clear hO3;have hinc:(c.rows[k].eraseIdx i).Pairwise fun a b=>a.id<b.id:=hv.inc.sublist (List.eraseIdx_sublist _ _)
 have hll:(c.rows[k].eraseIdx i).length=c.rows[k].length - 1:=by rw [List.length_eraseIdx];simp [hil]
 have m5:Mu O3 5 (.row r5 5 0 (c.rows[k].length - 1)) ((c.rows[k].eraseIdx i).map Rw.c):= .row r5 _ es' _ (by simp [hll]) a2' (by simp [hll];omega) (by rw [List.length_map,hll];exact h8);have m1:Mu O3 1 S.v1 ((S.V.set k (.row r5 5 0 (c.rows[k].length - 1))).map fun x=>[x]):=by
  have hmu:=Mu.upd (O':=O3) (id:=rid) (z:=1) (k:=k) (es:=S.V.map fun x=>[x]) (es0:=es1) (y:=[.row r5 5 0 (c.rows[k].length - 1)]) a1' (by rw [List.length_map,hVl];exact hle1) (by rw [List.length_map,hVl];exact ht1);rw [List.length_map,hVl] at hmu;rw [e1,List.map_set];exact hmu
 have ls3:look S.s O3=some (.row 15 [S.cells p]):=by rw [k3' S.s hsr hs5 (by rw [m.s];simp),m.s]
 have li3:look iid O3=some (.row 1 esi):=by
  rw [k3' iid (fun e=>m.ri rid (by rw [e1];rfl) (by rw [e3,e];rfl)) (qau li l5 (by simp)) (by rw [li];simp),li]
 have hri:vid S.v1≠some iid:=fun e=>m.ri iid e (by rw [e3];rfl)
 have hVs:k<(S.V.set k (AV.row r5 5 0 (c.rows[k].length - 1))).length:=by simpa using hV
 have hVk:(S.V.set k (AV.row r5 5 0 (c.rows[k].length - 1)))[k]=AV.row r5 5 0 (c.rows[k].length - 1):=by simp
 have ls4:=ls3;simp only [SV.cells,e3] at ls4;have hrl:c.rows.length<2^40:=by have:=(qub v.prg).tabs;omega
 have hnv:c.nextID.set k ((c.nextID[k]?).getD 0)=c.nextID:=by
  rw [List.getElem?_eq_getElem (by rw [v.nl];exact hk)];simp
 have hcz:esi.take c.rows.length=S.M.map fun x=>[.map x]:=by
  obtain ⟨iid',es0,e9,hl9,hle9,ht9⟩:=m.x.i.nonempty (by simp;omega);rw [e3] at e9;simp only [AV.row.injEq] at e9;obtain ⟨rfl,-⟩:=e9;rw [li] at hl9;cases hl9;rw [List.length_map,hMl] at ht9;exact ht9
 obtain ⟨O4,N4,e7,r1,r2,k4,hT4,hN4⟩:=qoc (k:=k) (n:=c.rows.length) (V:=S.V.set k (.row r5 5 0 (c.rows[k].length - 1))) (l:=c.rows[k].eraseIdx i) (R:=Prg.c p) (es:=esi) hT3' (by omega) hk' hVs ls4 (by simp) li3 hle3 ⟨_,gi⟩ m1 (by rw [hVk];exact m5) hri hinc (by omega);simp [e7];have keep:∀j,S.own j→¬S.chg k j→look j O4=look j O:=by
  intro j hj hc;obtain ⟨w,hw,hwn⟩:=m.own_lk hj;have h3:=k3' j (fun e=>hc (.inr (.inl (by rw [e,e1];rfl)))) (fun e=>hc (.inl ⟨_,List.getElem?_eq_getElem hV,by rw [e5,e];rfl⟩)) (by rw [hw];simpa using hwn);rw [k4 j (by have:=hT.lt hw;omega) (fun e=>hc (.inr (.inr (.inr (.inl (by rw [e,e3];rfl)))))),h3]
 have hfr:∀x,look N2 O=some x→x= .res:=fun x hx=>by have:=hT.lt hx;omega
 have up:=m.upd (k:=k) (v':= .row r5 5 0 (c.rows[k].length - 1)) (m':=N2) (l':=c.rows[k].eraseIdx i) (nx:=(c.nextID[k]?).getD 0) (O':=O4) hk' keep
  (m1.fr fun j hj=>by
   obtain ⟨es0,h0⟩:=m1.own hj;exact k4 j (hT3'.lt h0) (fun e=>hri (by rw [hj,e])))
  (by
   rw [hnv];refine m.cm.n.fr fun j hj=>?_
   obtain ⟨es0,h0⟩:=m.cm.n.own hj;have h3:=k3' j (fun e=>m.cm.rn j (by rw [e1,e];rfl) hj) (qau h0 l5 (by simp)) (by rw [h0];simp);rw [k4 j (by have:=hT.lt h0;omega) (fun e=>m.ni j hj (by rw [e3,e];rfl)),h3])
  (by
   have hmu:=Mu.upd (O':=O4) (id:=iid) (z:=1) (k:=k) (es:=S.M.map fun x=>[.map x]) (es0:=esi) (y:=[.map N2]) r1 (by rw [List.length_map,hMl];exact hle3) (by rw [List.length_map,hMl];exact hcz);rw [List.length_map,hMl] at hmu;rw [e3,List.map_set];exact hmu)
  (m5.fr fun j hj=>by
   obtain ⟨es0,h0⟩:=m5.own hj;exact k4 j (hT3'.lt h0) (qau h0 li3 (by simp)))
  r2 (by simp) (fun j hj=> .inl ⟨_,List.getElem?_eq_getElem hV,by rw [e5];exact hj⟩) (.inr hfr)
 rw [hnv] at up;refine ⟨S.tab k (.row r5 5 0 (c.rows[k].length - 1)) N2,O4,N4,rfl,up,rfl,?_,?_,hT4,by omega⟩
 ·intro j hj;rcases hj with hj | hj | hj | hj
  ·exact .inl (.inl hj)
  ·rcases hj with hj | hj | hj | ⟨w,hw,hj⟩
   ·exact .inl (.inr (.inl (.inl hj)))
   ·exact .inl (.inr (.inl (.inr (.inl hj))))
   ·exact .inl (.inr (.inl (.inr (.inr (.inl hj)))))
   ·rcases List.mem_or_eq_of_mem_set hw with hw | rfl
    ·exact .inl (.inr (.inl (.inr (.inr (.inr ⟨w,hw,hj⟩)))))
    ·cases hj;exact .inl own4
  ·exact .inl (.inr (.inr (.inl hj)))
  ·simp only [SV.tab] at hj;rcases List.mem_or_eq_of_mem_set hj with hj | rfl
   ·exact .inl (.inr (.inr (.inr hj)))
   ·exact .inr (by omega)
 ·intro j hj hx;have hx1:¬S.own j:=fun h=>hx (.inl h)
  have hx2:¬look j O=some .res:=fun h=>hx (.inr h)
  rw [k4 j (by omega) (fun e=>hx1 (by rw [e];exact own5)),k3' j (fun e=>hx1 (by rw [e];exact own1)) (fun e=>hx1 (by rw [e];exact own4)) hx2]
theorem quk {α:Type} {p:α→Bool} {l:List α}:∀n i,n+i=l.length→ix p l i=(((l.drop i).findIdx? p).map fun j=>((i+j:Nat):Int)).getD (-1)
 | 0,i,h=>by
  have:i=l.length:=by omega
  subst this;rw [qga];simp
 | n+1,i,h=>by
  have hi:i<l.length:=by omega
  rw [List.drop_eq_getElem_cons hi,List.findIdx?_cons];cases hp:p l[i] with
  | true=>rw [qgb hi hp];simp
  | false=>
   rw [qe7 hi hp,quk n (i+1) (by omega)];cases (l.drop (i+1)).findIdx? p with
   | none=>rfl
   | some j=>simp;omega
def rIx (l:List Rw) (id:Int):Int:=((rIdx l id).map fun (j:Nat)=>(j:Int)).getD (-1)
theorem qagk (l:List Rw) (id:Int):ix (fun r=>decide (r.id=id)) l 0=rIx l id:=by
 rw [quk l.length 0 (by omega)];simp [rIx,rIdx]
theorem qod (l:List Rw) (id:Int) (hl:l.length<2^40):qab Φ f_165 [.slice 5 (l.map Rw.c),.int .i64 id]=some (.val (.int .i64 (rIx l id))):=by
 rw [qaa (fn:=c_165) rfl rfl,← qagk];simp [c_165];refine qao l.length (fun i e=>look 0 e=some (.slice 5 (l.map Rw.c))∧look 1 e=some (.int .i64 id)∧look 5 e=some (.int .i64 i))
  (fun i=>some (Rt.val (.int .i64 (ix (fun r=>decide (r.id=id)) l i)))) ?_ ?_ 0 _ (Nat.zero_le _) ?_
 ·rintro i e L hi hL ⟨h0,h1,h5⟩ ih;have hw:IntKind.wrap .i64 ((i:Int)+1)=((i+1:Nat):Int):=qac (by omega) (by omega);by_cases z:l[i].id=id
  ·rw [qgb hi (by simpa using z)];simp [c_165_l0,Rw.ce,h0,h1,h5,hi,z]
  ·rw [qe7 hi (by simpa using z)];simp [c_165_l0,Rw.ce,h0,h1,h5,hi,z,hw];exact ih _ ⟨by simp [h0],by simp [h1],by simp⟩
 ·rintro e L hL ⟨h0,h1,h5⟩;rw [qga];simp [c_165_l0,c_165_k1,h0,h5,hL]
 ·simp
theorem qi9 (c:Config) (k:Nat) (l:List Rw) (nx:Int) (hk:k<c.rows.length) (hn:c.nextID.length=c.rows.length) (hl:c.rows.length<2^40):
  qab Φ f_164 [.agg (Config.c c),.int .i64 k,.slice 5 (l.map Rw.c),.int .i64 nx]=some (.val (.agg (Config.c ⟨c.rows.set k l,c.nextID.set k nx,c.defaults,c.registers⟩))):=by
 rw [qaa (fn:=c_164) rfl rfl];generalize hR:c.rows.set k l=R;generalize hNn:c.nextID.set k nx=M;have hRl:R.length=c.rows.length:=by rw [← hR];simp
 have hMl:M.length=c.rows.length:=by rw [← hNn];simp [hn]
 generalize hQ:(fun r:Option Rt=>r=some (Rt.val (.agg (Config.c ⟨R,M,c.defaults,c.registers⟩))))=Q;have hq:∀r,Q r=(r=some (Rt.val (.agg (Config.c ⟨R,M,c.defaults,c.registers⟩)))):=fun r=>by rw [← hQ]
 rw [← hq];clear hQ;simp [c_164,Config.ce];refine qhg c.rows.length (fun i e h=>∃(O':List (Nat×AO)) (N':Nat) (w1 w2:AV),h=⟨O',N'⟩∧Tail O' N'∧look 0 O'=some (.row 4 [[.fslice 1 [],.fslice 1 [],.fslice 2 [],.fslice 1 []]])∧look 1 O'=some (.row 4 [[w1,w2,.slice 2 (c.defaults.map ActionCall.c),.slice 1 (c.registers.map (cS 1 c32))]])∧
   ((i=0∧w1= .fslice 1 []∧w2= .fslice 1 [])∨∃a b,w1= .app 1 ((R.map (cS 5 Rw.c)).take i) a∧look a O'=some (.tok 1 i)∧w2= .app 1 ((M.map cI).take i) b∧look b O'=some (.tok 1 i)∧a≠b)∧
   look 1 e=some (.int .i64 k)∧look 2 e=some (.slice 5 (l.map Rw.c))∧look 3 e=some (.int .i64 nx)∧look 4 e=some (.iptr 4 [Config.c c] 0 0)∧look 8 e=some (.ptr 0 4 0 0)∧look 9 e=some (.ptr 1 4 0 0)∧look 10 e=some (.int .i64 i)) Q ?_ ?_ 0 _ _ (Nat.zero_le _) ?_
 ·rintro i e _ L hi hL ⟨O',N',w1,w2,rfl,hT',l0,l1,hw,e1,e2,e3,e4,e8,e9,e10⟩ ih;have hw1:IntKind.wrap .i64 ((i:Int)+1)=((i+1:Nat):Int):=qac (by omega) (by omega);have i2:i<c.nextID.length:=by omega
  have iR:i<R.length:=by omega
  have iM:i<M.length:=by omega
  have t0:=hT' N' (Nat.le_refl _);have t1:=hT' (N'+1) (by omega);have nz:¬N'=0:=by have:=hT'.lt l1;omega
  have n1:1<N':=hT'.lt l1;have n2:¬N'=1:=by omega
  have n3:¬1=N':=by omega
  have n4:¬0=N':=by omega
  have hTm:Tail O' (N'+1+1):=hT'.mono (by omega);have sR:(R.map (cS 5 Rw.c)).take (i+1)=(R.map (cS 5 Rw.c)).take i++[cS 5 Rw.c R[i]]:=qa1 iR;have sM:(M.map cI).take (i+1)=(M.map cI).take i++[cI M[i]]:=qa1 iM;rw [cSe] at sR;rw [cIe] at sM;rw [Config.ce] at e4;have mR:min i R.length=i:=by omega
  have mM:min i M.length=i:=by omega
  have c1:(i+1)*24≤70368744177664:=by omega
  have c2:(i+1)*8≤70368744177664:=by omega
  by_cases hik:i=k
  ·have vR:R[i]=l:=by simp [← hR,hik]
   have vM:M[i]=nx:=by simp [← hNn,hik]
   rw [vR] at sR;rw [vM] at sM;have d0:(i=k)=True:=eq_true hik;rcases hw with ⟨rfl,rfl,rfl⟩ | ⟨a,b,rfl,la,rfl,lb,hab⟩
   ·have hk0:k=0:=hik.symm;simp [c_164_l0,e1,e2,e3,e4,e9,e10,hi,hk0,t0,t1,wr1,qal,qae,l1,n2,nz];refine ih _ _ ⟨_,_,_,_,rfl,?_,?_,?_,.inr ⟨N',N'+1,by rw [sR],?_,by rw [sM],?_,by omega⟩,?_,?_,?_,?_,?_,?_,?_⟩
    ·repeat' first | exact hTm | apply qaq | apply qg6 | omega
    ·simp [qal,qae,l0]
    ·simp [qal,qae,l1]
    ·simp [qal,qae,n2,t0]
    ·simp [qae,t1,nz]
    all_goals simp [e1,e2,e3,e4,e8,e9,Config.ce,hk0]
   ·have i0:0≠a:=qau l0 la (by simp);have i1:1≠a:=qau l1 la (by simp);have i2:0≠b:=qau l0 lb (by simp);have i3:1≠b:=qau l1 lb (by simp);have j0:=i0.symm;have j1:=i1.symm;have j2:=i2.symm;have j3:=i3.symm;have hba:=hab.symm;simp [c_164_l0,e1,e2,e3,e4,e9,e10,hi,d0,hw1,qae,l1,la,lb,i1,i3,j3,hba,mR,mM,c1,c2];refine ih _ _ ⟨_,_,_,_,rfl,?_,?_,?_,.inr ⟨a,b,by rw [sR],?_,by rw [sM],?_,hab⟩,?_,?_,?_,?_,?_,?_,?_⟩
    ·repeat' first | exact hT' | apply qaq
    ·simp [qae,l0,i0,i2]
    ·simp [qae,l1,i1,i3]
    ·simp [qae,la,j1,hab]
    ·simp [qae,lb,j3,hba]
    all_goals simp [e1,e2,e3,e4,e8,e9,Config.ce]
  ·have vR:R[i]=c.rows[i]:=by simp [← hR,show ¬k=i by omega]
   have vM:M[i]=c.nextID[i]:=by simp [← hNn,show ¬k=i by omega]
   rw [vR] at sR;rw [vM] at sM;have d0:¬(i:Int)=(k:Int):=by omega
   rcases hw with ⟨rfl,rfl,rfl⟩ | ⟨a,b,rfl,la,rfl,lb,hab⟩
   ·have hk0:¬k=0:=fun h=>hik h.symm
    have hk1:¬0=k:=fun h=>hik h
    simp [c_164_l0,cSe,cIe,e1,e4,e9,e10,hi,i2,hk1,t0,t1,wr1,qal,qae,l1,n2,nz];refine ih _ _ ⟨_,_,_,_,rfl,?_,?_,?_,.inr ⟨N',N'+1,by rw [sR],?_,by rw [sM],?_,by omega⟩,?_,?_,?_,?_,?_,?_,?_⟩
    ·repeat' first | exact hTm | apply qaq | apply qg6 | omega
    ·simp [qal,qae,l0]
    ·simp [qal,qae,l1]
    ·simp [qal,qae,n2,t0]
    ·simp [qae,t1,nz]
    all_goals simp [e1,e2,e3,e4,e8,e9,Config.ce]
   ·have i0:0≠a:=qau l0 la (by simp);have i1:1≠a:=qau l1 la (by simp);have i2':0≠b:=qau l0 lb (by simp);have i3:1≠b:=qau l1 lb (by simp);have j0:=i0.symm;have j1:=i1.symm;have j2:=i2'.symm;have j3:=i3.symm;have hba:=hab.symm;simp [c_164_l0,cSe,cIe,e1,e4,e9,e10,hi,i2,d0,hw1,qae,l1,la,lb,i1,i3,j3,hba,mR,mM,c1,c2];refine ih _ _ ⟨_,_,_,_,rfl,?_,?_,?_,.inr ⟨a,b,by rw [sR],?_,by rw [sM],?_,hab⟩,?_,?_,?_,?_,?_,?_,?_⟩
    ·repeat' first | exact hT' | apply qaq
    ·simp [qae,l0,i0,i2']
    ·simp [qae,l1,i1,i3]
    ·simp [qae,la,j1,hab]
    ·simp [qae,lb,j3,hba]
    all_goals simp [e1,e2,e3,e4,e8,e9,Config.ce]
 ·rintro e _ L hL ⟨O',N',w1,w2,rfl,hT',l0,l1,hw,e1,e2,e3,e4,e8,e9,e10⟩;rw [Config.ce] at e4;simp [c_164_l0,c_164_k1,e4,e8,e9,e10,hL,l0,l1,qae];rw [hq];have tR:(R.map (cS 5 Rw.c)).take c.rows.length=R.map (cS 5 Rw.c):=List.take_of_length_le (by simp;omega);have tM:(M.map cI).take c.rows.length=M.map cI:=List.take_of_length_le (by simp;omega);rcases hw with ⟨hz,rfl,rfl⟩ | ⟨a,b,rfl,la,rfl,lb,hab⟩
  ·omega
  ·rw [tR,tM];simp [Config.ce]
 ·refine ⟨_,_,.fslice 1 [],.fslice 1 [],rfl,?_,?_,?_,.inl ⟨rfl,rfl,rfl⟩,?_,?_,?_,?_,?_,?_,?_⟩
  all_goals simp [qbo,qf5,Config.ce]
end Go.Av
