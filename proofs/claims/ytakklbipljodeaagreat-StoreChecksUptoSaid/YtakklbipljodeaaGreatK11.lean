/-
 Widths of fields, tables: the program's answers.
-/
import Derived.Test.YtakklbipljodeaaGreatK7
set_option linter.unusedVariables false
set_option linter.unusedSimpArgs false
set_option linter.constructorNameAsVariable false
namespace Go.Av
set_option maxRecDepth 4000
@[simp] theorem qage (O:List (Nat×AO)) (n id:Nat):qip ⟨O,n⟩ (.map id)=match look id O with
  | some (.map es)=>some es
  | _=>none:=by simp only [qip,AH.get];rfl
@[simp] theorem kdOk_i (k:IntKind) (x:Int):kdOk .i (.int k x)=true:=by simp [kdOk]
@[simp] theorem kdOk_s (x:List UInt8):kdOk .s (.str x)=true:=by simp [kdOk]
def setM (l:List Int):List (AV×AV):=l.map fun a=>(.int .i64 a,.bool true)
def setS (l:List (List UInt8)):List (AV×AV):=l.map fun a=>(.str a,.bool true)
theorem qkw (k:Int):∀l:List Int,qb6 .i (.int .i64 k) (setM l)=some (if l.contains k then some (.bool true) else none)
 | []=>by simp [setM,qb6]
 | a::l=>by
  have ih:=qkw k l
  unfold setM at ih ⊢
  by_cases h:k=a
  ·subst h;simp [qb6]
  ·simp [qb6,h,ih]
theorem qrp (k:Int):∀l:List Int,l.contains k=false→putA .i (.int .i64 k) (.bool true) (setM l)=some (setM (l++[k]))
 | [],_=>by simp [setM,putA]
 | a::l,h=>by
  simp only [List.contains_cons,Bool.or_eq_false_iff,beq_eq_false_iff_ne,ne_eq] at h
  have ih:=qrp k l h.2
  unfold setM at ih ⊢
  simp [putA,h.1,ih]
theorem qo9 (k:List UInt8):∀l:List (List UInt8),qb6 .s (.str k) (setS l)=some (if l.contains k then some (.bool true) else none)
 | []=>by simp [setS,qb6]
 | a::l=>by
  have ih:=qo9 k l
  unfold setS at ih ⊢
  by_cases h:k=a
  ·subst h;simp [qb6]
  ·simp [qb6,h,ih]
theorem qrq (k:List UInt8):∀l:List (List UInt8),l.contains k=false→putA .s (.str k) (.bool true) (setS l)=some (setS (l++[k]))
 | [],_=>by simp [setS,putA]
 | a::l,h=>by
  simp only [List.contains_cons,Bool.or_eq_false_iff,beq_eq_false_iff_ne,ne_eq] at h
  have ih:=qrq k l h.2
  unfold setS at ih ⊢
  simp [putA,h.1,ih]
theorem qxj (l:List Fld) (i:Int):qab Φ f_317 [.slice 2 (l.map Fld.c),.int .i64 i]=some (.val (.agg (match at? l i with | some f=>Fld.c f | none=>[.str [],.int .i64 0]))):=by
 rw [qaa (fn:=c_317) rfl rfl]
 by_cases i0:i<0
 ·simp [c_317,i0,qbk i0]
 by_cases i1:(l.length:Int)≤i
 ·simp [c_317,i0,i1,qbj i1]
 obtain ⟨k,rfl⟩:∃k:Nat,i=k:=⟨i.toNat,by omega⟩
 have hk:k<l.length:=by omega
 simp [c_317,hk,Nat.not_le.2 hk,Fld.e]
theorem qxk (l:List Header) (i:Int):qab Φ f_339 [.slice 2 (l.map Header.c),.int .i64 i]=some (.val (.agg (match at? l i with | some f=>Header.c f | none=>[.str [],.slice 2 []]))):=by
 rw [qaa (fn:=c_339) rfl rfl]
 by_cases i0:i<0
 ·simp [c_339,i0,qbk i0]
 by_cases i1:(l.length:Int)≤i
 ·simp [c_339,i0,i1,qbj i1]
 obtain ⟨k,rfl⟩:∃k:Nat,i=k:=⟨i.toNat,by omega⟩
 have hk:k<l.length:=by omega
 simp [c_339,hk,Nat.not_le.2 hk,Header.e]
def qhy (p:Prg) (h:Int):List Fld:=((if h= -1 then some p.metadata else (at? p.headers h).map (·.fields))).getD []
theorem qvu (p:Prg) (h:Int):qab Φ f_318 [.agg (Prg.c p),.int .i64 h]=some (.val (.slice 2 ((qhy p h).map Fld.c))):=by
 rw [qaa (fn:=c_318) rfl rfl]
 by_cases hm:h= -1
 ·simp [c_318,Prg.e,hm,qhy]
 have ha:=qxk p.headers h
 cases q:at? p.headers h with
 | none=>
  rw [q] at ha
  simp [c_318,Prg.e,hm,qhy,ha,q]
 | some x=>
  rw [q] at ha
  simp only [Header.e] at ha
  simp [c_318,Prg.e,hm,qhy,ha,q]
theorem qvl (p:Prg) (h i:Int):decl p h i=(at? (qhy p h) i).map (·.width):=by
 unfold decl qhy
 cases (if h= -1 then some p.metadata else (at? p.headers h).map (·.fields)) with
 | some l=>rfl
 | none=>
  have:at? ([]:List Fld) i=none:=by unfold at?;split<;>simp
  simp [this]
theorem qnh (p:Prg) (h i:Int):qab Φ f_261 [.agg (Prg.c p),.agg [.int .i64 h,.int .i64 i]]=some (.val (.int .i64 (wid p h i))):=by
 rw [qaa (fn:=c_261) rfl rfl]
 have hf:=qvu p h
 have ha:=qxj (qhy p h) i
 have hd:=qvl p h i
 simp only [Prg.e] at hf
 cases q:at? (qhy p h) i with
 | none=>
  rw [q] at ha hd
  have hm:=qfk 0
  rw [show qa7 0=0 from rfl] at hm
  simp [c_261,Prg.e,hf,ha,hm,wid,hd]
 | some f=>
  rw [q] at ha hd
  simp only [Fld.e] at ha
  have hm:=qfk f.width
  cases w:wBad f.width with
  | true=>
   rw [show qa7 f.width=0 by simp [qa7,w]] at hm
   simp [c_261,Prg.e,hf,ha,hm,wid,hd,w]
  | false=>
   have:¬qa7 f.width=0:=by
    obtain ⟨w1,w2⟩:=wBad_false.1 w
    have:(2:Int)^1≤2^f.width.toNat:=by
     have:=Nat.pow_le_pow_right (n:=2) (by omega) (show 1≤f.width.toNat by omega)
     exact_mod_cast this
    simp only [qa7,w]
    simp
    omega
   simp [c_261,Prg.e,hf,ha,hm,wid,hd,w,this]
theorem qxc (p:Prg) (h i:Int):0≤wid p h i∧wid p h i≤32:=by
 unfold wid
 split
 ·rename_i w _
  cases q:wBad w with
  | true=>simp
  | false=>have:=wBad_false.1 q;simp;omega
 ·simp
def keyG (p:Prg) (x:Tbl) (i:Nat):Option (Int×Int):=(x.keys[i]?).bind fun k=>
 if wid p k.field.header k.field.field=0 then some ((i:Int),8) else if k.kind=1∨k.kind=2∨k.kind=3 then none else some ((i:Int),11)
def qek (p:Prg) (x:Tbl):Int×Int:=if 1<x.keys.countP (fun k=>decide (k.kind=2)) then (-2,7) else if 64<(kWid p x).sum then (-2,10) else (0,0)
theorem qg4 (p:Prg) (x:Tbl):∀i,i≤x.keys.length→0≤((kWid p x).take i).sum∧((kWid p x).take i).sum≤32*i:=by
 intro i
 induction i with
 | zero=>intro _;simp
 | succ i ih=>
  intro hi
  have:=ih (by omega)
  have hl:i<(kWid p x).length:=by simp [kWid];omega
  rw [List.take_succ_eq_append_getElem hl,List.sum_append,List.sum_singleton]
  have hr:=qxc p x.keys[i].field.header x.keys[i].field.field
  have he:(kWid p x)[i]=wid p x.keys[i].field.header x.keys[i].field.field:=by simp [kWid]
  rw [he]
  omega
theorem qx1 (p:Prg) (x:Tbl) (hl:x.keys.length<2^40):qab Φ f_258 [.agg (Prg.c p),.agg (Tbl.c x)]=some (.val (.tup [.int .i64 (qej p x).1,.int .i64 (qej p x).2])):=by
 rw [qaa (fn:=c_258) rfl rfl]
 have hE:qej p x=(fe (keyG p x) x.keys.length 0).getD (qek p x):=by
  unfold qej keyE
  show (match fe (keyG p x) x.keys.length 0 with | some e=>e | none=>qek p x)=_
  cases fe (keyG p x) x.keys.length 0<;>rfl
 rw [hE]
 simp [c_258,Prg.e,Tbl.e]
 refine qau x.keys.length (fun _=>[]) 0 (fun i e=>look 2 e=some (.iptr 9 [Prg.c p] 0 0)∧look 6 e=some (.int .i64 ((x.keys.take i).countP fun k=>decide (k.kind=2):Nat))∧look 7 e=some (.int .i64 ((kWid p x).take i).sum)∧look 12 e=some (.slice 3 (x.keys.map TableKey.c))∧look 13 e=some (.int .i64 x.keys.length)∧look 14 e=some (.int .i64 i))
  (fun i=>some (Rt.val (.tup [.int .i64 ((fe (keyG p x) x.keys.length i).getD (qek p x)).1,.int .i64 ((fe (keyG p x) x.keys.length i).getD (qek p x)).2]))) ?_ ?_ 0 _ 0 (Nat.zero_le _) (Nat.le_refl _) ?_
 ·rintro i e n L hi hL _ ⟨h2,h6,h7,h12,h13,h14⟩ ih
  have hw:IntKind.wrap .i64 ((i:Int)+1)=((i+1:Nat):Int):=qad (by omega) (by omega)
  have hv:=qnh p x.keys[i].field.header x.keys[i].field.field
  simp only [Prg.e] at hv
  rw [Prg.e] at h2
  by_cases z:wid p x.keys[i].field.header x.keys[i].field.field=0
  ·rw [z] at hv
   rw [qah (x:=((i:Int),8)) hi (by simp [keyG,hi,z])]
   simp [c_258_l0,TableKey.e,h2,h6,h7,h12,h13,h14,hi,hL,hv]
  have hs:=qg4 p x (i+1) (by omega)
  have hs0:=qg4 p x i (by omega)
  have he:((kWid p x).take (i+1)).sum=((kWid p x).take i).sum+wid p x.keys[i].field.header x.keys[i].field.field:=by
   have hl:i<(kWid p x).length:=by simp [kWid];omega
   rw [List.take_succ_eq_append_getElem hl,List.sum_append,List.sum_singleton]
   congr 1
   simp [kWid]
  have hw7:IntKind.wrap .i64 (((kWid p x).take i).sum+wid p x.keys[i].field.header x.keys[i].field.field)=((kWid p x).take (i+1)).sum:=by rw [← he];exact qad (by omega) (by omega)
  have hc:(x.keys.take (i+1)).countP (fun k=>decide (k.kind=2))=(x.keys.take i).countP (fun k=>decide (k.kind=2))+if x.keys[i].kind=2 then 1 else 0:=by
   rw [List.take_succ_eq_append_getElem hi,List.countP_append]
   congr 1
   simp [List.countP_cons]
  have hcl:(x.keys.take i).countP (fun k=>decide (k.kind=2))≤i:=by
   have:=List.countP_le_length (l:=x.keys.take i) (p:=fun k=>decide (k.kind=2))
   simp at this;omega
  have hw6:IntKind.wrap .i64 (((x.keys.take i).countP (fun k=>decide (k.kind=2)):Nat)+1:Int)=(((x.keys.take i).countP (fun k=>decide (k.kind=2))+1:Nat):Int):=qad (by omega) (by omega)
  by_cases k2:x.keys[i].kind=2
  ·rw [qap hi (by simp [keyG,hi,z,k2])]
   rw [if_pos k2] at hc
   simp [c_258_l0,TableKey.e,h2,h6,h7,h12,h13,h14,hi,hL,hv,z,k2,hw7,hw6,hw]
   exact ih _ _ (Nat.zero_le _) ⟨by simp [h2,Prg.e],by simp [hc],by simp,by simp [h12],by simp [h13],by simp⟩
  rw [if_neg k2] at hc
  by_cases k1:x.keys[i].kind=1
  ·rw [qap hi (by simp [keyG,hi,z,k1])]
   simp [c_258_l0,TableKey.e,h2,h6,h7,h12,h13,h14,hi,hL,hv,z,k1,hw7,hw]
   exact ih _ _ (Nat.zero_le _) ⟨by simp [h2,Prg.e],by simp [hc,h6],by simp,by simp [h12],by simp [h13],by simp⟩
  by_cases k3:x.keys[i].kind=3
  ·rw [qap hi (by simp [keyG,hi,z,k3])]
   simp [c_258_l0,TableKey.e,h2,h6,h7,h12,h13,h14,hi,hL,hv,z,k3,hw7,hw]
   exact ih _ _ (Nat.zero_le _) ⟨by simp [h2,Prg.e],by simp [hc,h6],by simp,by simp [h12],by simp [h13],by simp⟩
  ·rw [qah (x:=((i:Int),11)) hi (by simp [keyG,hi,z,k1,k2,k3])]
   simp [c_258_l0,TableKey.e,h2,h6,h7,h12,h13,h14,hi,hL,hv,z,k1,k2,k3]
 ·rintro e n L hL _ ⟨h2,h6,h7,h12,h13,h14⟩
  rw [qaz]
  have ht:(kWid p x).take x.keys.length=kWid p x:=by rw [List.take_of_length_le];simp [kWid]
  rw [ht] at h7
  rw [List.take_length] at h6
  by_cases y1:1<x.keys.countP (fun k=>decide (k.kind=2))
  ·simp [c_258_l0,c_258_k1,h6,h7,h12,h13,h14,hL,qek,y1]
  by_cases y2:64<(kWid p x).sum
  ·simp [c_258_l0,c_258_k1,h6,h7,h12,h13,h14,hL,qek,y1,y2]
  ·simp [c_258_l0,c_258_k1,h6,h7,h12,h13,h14,hL,qek,y1,y2]
 ·simp [Prg.e]
end Go.Av
namespace Go.Av
set_option maxRecDepth 4000
def qex (p:Prg) (x:Tbl) (i:Nat):Option Int:=(x.actions[i]?).bind fun a=>if a<0∨(p.actions.length:Int)≤a then some (8:Int) else if (x.actions.take i).contains a then some 7 else none
def qe9 (p:Prg) (x:Tbl):Int:=if x.actions.contains x.dflt.action then qdi p x.dflt else 8
theorem qrx (p:Prg) (x:Tbl):qh8 p x=(fe (qex p x) x.actions.length 0).getD (qe9 p x):=by
 unfold qh8
 show (match fe (qex p x) x.actions.length 0 with | some e=>e | none=>qe9 p x)=_
 cases fe (qex p x) x.actions.length 0<;>rfl
theorem qzq (p:Prg) (f:PrgS p) (x:Tbl) (hl:x.actions.length<2^40) (hg:x.dflt.args.length<2^40):qab Φ f_259 [.agg (Prg.c p),.agg (Tbl.c x)]=some (.val (.int .i64 (qh8 p x))):=by
 rw [qaa (fn:=c_259) rfl rfl,qrx]
 simp [c_259,Prg.e,Tbl.e]
 refine qd3 x.actions.length (fun i e H=>look 2 e=some (.iptr 9 [Prg.c p] 0 0)∧look 3 e=some (.iptr 6 [Tbl.c x] 0 0)∧look 5 e=some (.map 0)∧look 10 e=some (.slice 1 (x.actions.map cI))∧look 11 e=some (.int .i64 x.actions.length)∧look 12 e=some (.int .i64 i)∧
   H=⟨[(0,.map (setM (x.actions.take i)))],1⟩)
  (fun i=>some (Rt.val (.int .i64 ((fe (qex p x) x.actions.length i).getD (qe9 p x))))) ?_ ?_ 0 _ _ (Nat.zero_le _) ?_
 ·rintro i e _ L hi hL ⟨h2,h3,h5,h10,h11,h12,rfl⟩ ih
  have hw:IntKind.wrap .i64 ((i:Int)+1)=((i+1:Nat):Int):=qad (by omega) (by omega)
  rw [Prg.e] at h2
  by_cases z0:x.actions[i]<0
  ·rw [qah (x:=8) hi (by simp [qex,hi,z0])]
   simp [c_259_l0,cI,h2,h5,h10,h11,h12,hi,hL,z0]
  by_cases z1:(p.actions.length:Int)≤x.actions[i]
  ·rw [qah (x:=8) hi (by simp [qex,hi,z0,z1])]
   simp [c_259_l0,cI,h2,h5,h10,h11,h12,hi,hL,z0,z1]
  have hfnd:=qkw x.actions[i] (x.actions.take i)
  cases q:(x.actions.take i).contains x.actions[i] with
  | true=>
   rw [q] at hfnd
   rw [qah (x:=7) hi (by simp only [qex,List.getElem?_eq_getElem hi,Option.bind_some];rw [if_neg (by omega),q];rfl)]
   simp [c_259_l0,cI,h2,h5,h10,h11,h12,hi,hL,z0,z1,hfnd]
  | false=>
   rw [q] at hfnd
   have hput:=qrp x.actions[i] (x.actions.take i) q
   rw [← List.take_succ_eq_append_getElem hi] at hput
   rw [qap hi (by simp only [qex,List.getElem?_eq_getElem hi,Option.bind_some];rw [if_neg (by omega),q];rfl)]
   simp [c_259_l0,cI,h2,h5,h10,h11,h12,hi,hL,z0,z1,hfnd,hput,hw]
   exact ih _ _ ⟨by simp [h2,Prg.e],by simp [h3],by simp [h5],by simp [h10],by simp [h11],by simp,rfl⟩
 ·rintro e _ L hL ⟨h2,h3,h5,h10,h11,h12,rfl⟩
  rw [qaz,List.take_length]
  have hfnd:=qkw x.dflt.action x.actions
  have hc:=qlz p f x.dflt hg
  simp only [Prg.e,ActionCall.e] at hc
  rw [Prg.e] at h2
  rw [Tbl.e] at h3
  cases q:x.actions.contains x.dflt.action with
  | true=>
   rw [q] at hfnd
   rw [show qe9 p x=qdi p x.dflt by simp only [qe9,q];rfl]
   simp [c_259_l0,c_259_k1,h2,h3,h5,h10,h11,h12,hL,hfnd,hc]
  | false=>
   rw [q] at hfnd
   rw [show qe9 p x=8 by simp only [qe9,q];rfl]
   simp [c_259_l0,c_259_k1,h2,h3,h5,h10,h11,h12,hL,hfnd]
 ·simp [Prg.e,Tbl.e,setM]
theorem qod (p:Prg) (f:PrgS p) (t:Int):qab Φ f_175 [.agg (Prg.c p),.int .i64 t]=some (.val (.tup [.int .i64 (tblE p t).1,.int .i64 (tblE p t).2])):=by
 rw [qaa (fn:=c_175) rfl rfl]
 by_cases i0:t<0
 ·simp [c_175,Prg.e,i0,tblE,qbk i0]
 by_cases i1:(p.tables.length:Int)≤t
 ·simp [c_175,Prg.e,i0,i1,tblE,qbj i1]
 obtain ⟨k,rfl⟩:∃k:Nat,t=k:=⟨t.toNat,by omega⟩
 have hk:k<p.tables.length:=by omega
 have hm:=List.getElem_mem hk
 have n1:=qdp p.tables[k].name (f.tn _ hm)
 have h1:=qx1 p p.tables[k] (f.tk _ hm)
 have h2:=qzq p f p.tables[k] (f.ta _ hm) (f.tg _ hm)
 simp only [Prg.e,Tbl.e] at h1 h2
 cases q1:idS p.tables[k].name with
 | false=>rw [q1] at n1;simp [c_175,Prg.e,Tbl.e,hk,Nat.not_le.2 hk,n1,tblE,q1]
 | true=>
 rw [q1] at n1
 by_cases z0:6<p.tables[k].keys.length
 ·simp [c_175,Prg.e,Tbl.e,hk,Nat.not_le.2 hk,n1,tblE,q1,z0]
 by_cases z1:16<p.tables[k].actions.length
 ·simp [c_175,Prg.e,Tbl.e,hk,Nat.not_le.2 hk,n1,tblE,q1,z0,z1]
 by_cases z2:p.tables[k].size<1
 ·simp [c_175,Prg.e,Tbl.e,hk,Nat.not_le.2 hk,n1,tblE,q1,z0,z1,z2]
 by_cases z3:256<p.tables[k].size
 ·simp [c_175,Prg.e,Tbl.e,hk,Nat.not_le.2 hk,n1,tblE,q1,z0,z1,z2,z3]
 by_cases y1:(qej p p.tables[k]).2=0
 rotate_left
 ·simp [c_175,Prg.e,Tbl.e,hk,Nat.not_le.2 hk,n1,tblE,q1,z0,z1,z2,z3,h1,y1]
 rw [y1] at h1
 by_cases y2:qh8 p p.tables[k]=0
 ·rw [y2] at h2
  simp [c_175,Prg.e,Tbl.e,hk,Nat.not_le.2 hk,n1,tblE,q1,z0,z1,z2,z3,h1,y1,h2,y2]
 ·simp [c_175,Prg.e,Tbl.e,hk,Nat.not_le.2 hk,n1,tblE,q1,z0,z1,z2,z3,h1,y1,h2,y2]
end Go.Av
namespace Go.Av
set_option maxRecDepth 4000
theorem qu7 (x y:BitVec 32):x&&& ~~~y=0#32↔x&&& y=x:=by
 constructor
 ·intro h
  apply BitVec.eq_of_getLsbD_eq
  intro i hi
  have:=congrArg (·.getLsbD i) h
  simp [hi] at this ⊢
  exact this
 ·intro h
  apply BitVec.eq_of_getLsbD_eq
  intro i hi
  have:=congrArg (·.getLsbD i) h
  simp [hi] at this ⊢
  exact this
theorem qr1 {n:Int} (h1:0≤n) (h2:n<4294967296):IntKind.wrap .u32 n=n:=by
 have e1:(2:Int)^32=4294967296:=rfl
 simp only [IntKind.wrap,IntKind.bits,IntKind.signed,Bool.false_and,e1]
 rw [if_neg (by simp)]
 omega
theorem qlb {v:Int} (h:ok32 0 v):BitVec.ofInt 32 v=BitVec.ofNat 32 v.toNat:=by
 obtain ⟨h1,h2⟩:=h
 apply BitVec.eq_of_toNat_eq
 simp
 omega
theorem qkh {v m:Int} (hv:ok32 0 v) (hm:ok32 0 m):qf8 .u32 v m=0↔v.toNat&&& m.toNat=v.toNat:=by
 have hv2:=hv.2
 have hm2:=hm.2
 unfold qf8
 show IntKind.wrap .u32 ((BitVec.ofInt 32 v&&& ~~~BitVec.ofInt 32 m).toNat:Int)=0↔_
 have hlt:=(BitVec.ofInt 32 v&&& ~~~BitVec.ofInt 32 m).isLt
 rw [qr1 (by omega) (by omega)]
 rw [show (((BitVec.ofInt 32 v&&& ~~~BitVec.ofInt 32 m).toNat:Int)=0)↔(BitVec.ofInt 32 v&&& ~~~BitVec.ofInt 32 m)=0#32 by
  rw [← BitVec.toNat_inj];simp only [BitVec.toNat_ofNat];omega]
 rw [qu7,qlb hv,qlb hm,← BitVec.toNat_inj,BitVec.toNat_and,BitVec.toNat_ofNat,BitVec.toNat_ofNat,Nat.mod_eq_of_lt (by omega),Nat.mod_eq_of_lt (by omega)]
theorem qos {v m:Int} (hv:ok32 0 v) (hm:ok32 0 m):iand .u32 v m=v↔v.toNat&&& m.toNat=v.toNat:=by
 have hv1:=hv.1
 have hv2:=hv.2
 have hm2:=hm.2
 unfold iand
 show IntKind.wrap .u32 ((BitVec.ofInt 32 v&&& BitVec.ofInt 32 m).toNat:Int)=v↔_
 have hlt:=(BitVec.ofInt 32 v&&& BitVec.ofInt 32 m).isLt
 rw [qr1 (by omega) (by omega),qlb hv,qlb hm,BitVec.toNat_and,BitVec.toNat_ofNat,BitVec.toNat_ofNat,Nat.mod_eq_of_lt (by omega),Nat.mod_eq_of_lt (by omega)]
 omega
theorem ql3 (p:Prg) (s:Nat) (n:Int):qab Φ f_335 [.agg (Prg.c p),.int .i64 s,.int .i64 n]=some (.val (.bool (qdd p s n))):=by
 rw [qaa (fn:=c_335) rfl rfl]
 by_cases n1:n= -1
 ·simp [c_335,Prg.e,qdd,n1]
 by_cases n2:n= -2
 ·simp [c_335,Prg.e,qdd,n2]
 by_cases n3:(s:Int)<n
 ·simp [c_335,Prg.e,qdd,n1,n2,n3]
 ·simp [c_335,Prg.e,qdd,n1,n2,n3]
theorem qxp (p:Prg) (s:Nat) (hs:s<p.states.length) (c:SelectCase) (h1:ok32 0 c.value) (h2:ok32 0 c.mask):qab Φ f_334 [.agg (Prg.c p),.int .i64 s,.agg (SelectCase.c c)]=some (.val (.int .i64 (qdj p s p.states[s] c))):=by
 rw [qaa (fn:=c_334) rfl rfl]
 have hw:=qnh p p.states[s].on.header p.states[s].on.field
 have f1:=qit c.value (wid p p.states[s].on.header p.states[s].on.field)
 have f2:=qit c.mask (wid p p.states[s].on.header p.states[s].on.field)
 have hl:=ql3 p s c.next
 have ha:=qkh h1 h2
 simp only [Prg.e] at hw hl
 cases q1:fits c.value (wid p p.states[s].on.header p.states[s].on.field) with
 | false=>rw [q1] at f1;simp [c_334,Prg.e,SelectCase.e,ParserState.e,hs,hw,f1,qdj,q1]
 | true=>
 rw [q1] at f1
 cases q2:fits c.mask (wid p p.states[s].on.header p.states[s].on.field) with
 | false=>rw [q2] at f2;simp [c_334,Prg.e,SelectCase.e,ParserState.e,hs,hw,f1,f2,qdj,q1,q2]
 | true=>
 rw [q2] at f2
 by_cases z:qf8 .u32 c.value c.mask=0
 ·have z':=ha.1 z
  cases q3:qdd p s c.next with
  | true=>rw [q3] at hl;simp [c_334,Prg.e,SelectCase.e,ParserState.e,hs,hw,f1,f2,hl,qdj,q1,q2,q3,z,z']
  | false=>rw [q3] at hl;simp [c_334,Prg.e,SelectCase.e,ParserState.e,hs,hw,f1,f2,hl,qdj,q1,q2,q3,z,z']
 ·have z':¬(c.value.toNat&&& c.mask.toNat=c.value.toNat):=fun h=>z (ha.2 h)
  simp [c_334,Prg.e,SelectCase.e,ParserState.e,hs,hw,f1,f2,qdj,q1,q2,z,z']
def qcl (p:Prg) (s:Nat) (x:ParserState) (i:Nat):Option (Int×Int):=(x.cases[i]?).bind fun c=>if qdj p s x c=0 then none else some ((i:Int),qdj p s x c)
def stF (p:Prg) (s:Nat) (x:ParserState):Int×Int:=if qdd p s x.dflt then (0,0) else (-1,14)
def stK (p:Prg) (s:Nat) (x:ParserState):Int×Int:=
 if x.select=true∧wid p x.on.header x.on.field=0 then (-1,8)
 else if x.select=false∧0<x.cases.length then (-1,11)
 else (fe (qcl p s x) x.cases.length 0).getD (stF p s x)
theorem qw8 (p:Prg) (s:Nat) (x:ParserState):stE p s x=if 4<x.extract.length∨8<x.cases.length then (-1,12)
  else if x.extract.any (fun h=>decide (h<0) || decide ((p.headers.length:Int)≤h)) then (-1,8) else stK p s x:=by
 unfold stE stK
 show (if _ then _ else if _ then _ else if _ then _ else if _ then _ else (match fe (qcl p s x) x.cases.length 0 with | some e=>e | none=>stF p s x))=_
 cases fe (qcl p s x) x.cases.length 0<;>rfl
theorem qaff (p:Prg) (s:Nat) (hs:s<p.states.length) (hv:∀c∈p.states[s].cases,ok32 0 c.value∧ok32 0 c.mask) (hl:p.states[s].cases.length<2^40) (e:Env) (n:Nat)
  (h1:look 1 e=some (.int .i64 s)) (h2:look 2 e=some (.iptr 9 [Prg.c p] 0 0)) (h6:look 6 e=some (.iptr 7 [ParserState.c p.states[s]] 0 0)):
  go Φ (finP [.tmp 4,.tmp 5]) [.c c_298_k3] .normal ⟨e,⟨[],n⟩⟩=some (.val (.tup [.int .i64 (stK p s p.states[s]).1,.int .i64 (stK p s p.states[s]).2])):=by
 have hw:=qnh p p.states[s].on.header p.states[s].on.field
 simp only [Prg.e] at hw
 rw [Prg.e] at h2
 rw [ParserState.e] at h6
 cases q:p.states[s].select with
 | true=>
  rw [q] at h6
  by_cases z:wid p p.states[s].on.header p.states[s].on.field=0
  ·rw [z] at hw
   simp [c_298_k3,h1,h2,h6,hw,stK,q,z]
  rw [show stK p s p.states[s]=(fe (qcl p s p.states[s]) p.states[s].cases.length 0).getD (stF p s p.states[s]) by simp [stK,q,z]]
  simp [c_298_k3,h1,h2,h6,hw,z]
  refine qau p.states[s].cases.length (fun _=>[]) 0 (fun i e=>look 1 e=some (.int .i64 s)∧look 2 e=some (.iptr 9 [Prg.c p] 0 0)∧look 6 e=some (.iptr 7 [ParserState.c p.states[s]] 0 0)∧look 65 e=some (.slice 3 (p.states[s].cases.map SelectCase.c))∧look 66 e=some (.int .i64 p.states[s].cases.length)∧look 67 e=some (.int .i64 i))
   (fun i=>some (Rt.val (.tup [.int .i64 ((fe (qcl p s p.states[s]) p.states[s].cases.length i).getD (stF p s p.states[s])).1,.int .i64 ((fe (qcl p s p.states[s]) p.states[s].cases.length i).getD (stF p s p.states[s])).2]))) ?_ ?_ 0 _ _ (Nat.zero_le _) (Nat.zero_le _) ?_
  ·rintro i e n L hi hL _ ⟨h1,h2,h6,h65,h66,h67⟩ ih
   have hw:IntKind.wrap .i64 ((i:Int)+1)=((i+1:Nat):Int):=qad (by omega) (by omega)
   have hc:=hv _ (List.getElem_mem hi)
   have hE:=qxp p s hs p.states[s].cases[i] hc.1 hc.2
   simp only [Prg.e,SelectCase.e] at hE
   rw [Prg.e] at h2
   by_cases y:qdj p s p.states[s] p.states[s].cases[i]=0
   ·rw [y] at hE
    rw [qap hi (by simp [qcl,hi,y])]
    simp [c_298_l1,SelectCase.e,h1,h2,h65,h66,h67,hi,hL,hE,hw]
    exact ih _ _ (Nat.zero_le _) ⟨by simp [h1],by simp [h2,Prg.e],by simp [h6],by simp [h65],by simp [h66],by simp⟩
   ·rw [qah (x:=((i:Int),qdj p s p.states[s] p.states[s].cases[i])) hi (by simp [qcl,hi,y])]
    simp [c_298_l1,SelectCase.e,h1,h2,h65,h66,h67,hi,hL,hE,y]
  ·rintro e n L hL _ ⟨h1,h2,h6,h65,h66,h67⟩
   rw [qaz]
   have hd:=ql3 p s p.states[s].dflt
   simp only [Prg.e] at hd
   rw [Prg.e] at h2
   rw [ParserState.e] at h6
   cases y:qdd p s p.states[s].dflt with
   | true=>rw [y] at hd;simp [c_298_l1,c_298_k2,h1,h2,h6,h65,h66,h67,hL,hd,stF,y]
   | false=>rw [y] at hd;simp [c_298_l1,c_298_k2,h1,h2,h6,h65,h66,h67,hL,hd,stF,y]
  ·simp [h1,h2,h6,Prg.e,ParserState.e,q]
 | false=>
  rw [q] at h6
  by_cases z:0<p.states[s].cases.length
  ·simp [c_298_k3,h1,h2,h6,stK,q,z]
  have z0:p.states[s].cases.length=0:=by omega
  rw [show stK p s p.states[s]=stF p s p.states[s] by simp [stK,q,z0,qaz]]
  simp [c_298_k3,h1,h2,h6,z0]
  rw [qay]
  have hd:=ql3 p s p.states[s].dflt
  simp only [Prg.e] at hd
  cases y:qdd p s p.states[s].dflt with
  | true=>rw [y] at hd;simp [c_298_l1,c_298_k2,h1,h2,h6,hd,stF,y]
  | false=>rw [y] at hd;simp [c_298_l1,c_298_k2,h1,h2,h6,hd,stF,y]
theorem qafd (p:Prg) (f:PrgS p) (s:Nat) (hs:s<p.states.length):qab Φ f_298 [.agg (Prg.c p),.int .i64 s]=some (.val (.tup [.int .i64 (stE p s p.states[s]).1,.int .i64 (stE p s p.states[s]).2])):=by
 rw [qaa (fn:=c_298) rfl rfl,qw8]
 by_cases z0:4<p.states[s].extract.length
 ·simp [c_298,Prg.e,ParserState.e,hs,z0]
 by_cases z1:8<p.states[s].cases.length
 ·simp [c_298,Prg.e,ParserState.e,hs,z0,z1]
 rw [if_neg (by omega)]
 generalize hX:(if p.states[s].extract.any (fun h=>decide (h<0) || decide ((p.headers.length:Int)≤h))=true then ((-1:Int),(8:Int)) else stK p s p.states[s])=X
 simp [c_298,Prg.e,ParserState.e,hs,z0,z1]
 refine (qc7 p.states[s].extract (fun h=>decide (h<0) || decide ((p.headers.length:Int)≤h)) (some (Rt.val (.tup [.int .i64 (-1),.int .i64 8]))) (some (Rt.val (.tup [.int .i64 (stK p s p.states[s]).1,.int .i64 (stK p s p.states[s]).2])))
  (fun i e H=>look 1 e=some (.int .i64 s)∧look 2 e=some (.iptr 9 [Prg.c p] 0 0)∧look 6 e=some (.iptr 7 [ParserState.c p.states[s]] 0 0)∧look 28 e=some (.slice 1 (p.states[s].extract.map cI))∧look 29 e=some (.int .i64 p.states[s].extract.length)∧look 30 e=some (.int .i64 i)∧∃n,H=⟨[],n⟩) ?_ ?_ ?_ _ _ ?_).trans ?_
 ·rintro i e _ L hi hL ⟨h1,h2,h6,h28,h29,h30,n,rfl⟩ hb
  rw [Prg.e] at h2
  simp only [Bool.or_eq_true,decide_eq_true_eq] at hb
  by_cases y0:p.states[s].extract[i]<0
  ·simp [c_298_l0,cI,h1,h2,h28,h29,h30,hi,hL,y0]
  ·have y1:(p.headers.length:Int)≤p.states[s].extract[i]:=by omega
   simp [c_298_l0,cI,h1,h2,h28,h29,h30,hi,hL,y0,y1]
 ·rintro i e _ L X hi hL ⟨h1,h2,h6,h28,h29,h30,n,rfl⟩ hb ih
  have hw:IntKind.wrap .i64 ((i:Int)+1)=((i+1:Nat):Int):=qad (by omega) (by omega)
  rw [Prg.e] at h2
  simp only [Bool.or_eq_false_iff,decide_eq_false_iff_not] at hb
  simp [c_298_l0,cI,h1,h2,h28,h29,h30,hi,hL,hb,hw]
  exact ih _ _ ⟨by simp [h1],by simp [h2,Prg.e],by simp [h6],by simp [h28],by simp [h29],by simp,n,rfl⟩
 ·rintro e _ L hL ⟨h1,h2,h6,h28,h29,h30,n,rfl⟩
  simp [c_298_l0,h28,h29,h30,hL]
  refine qaff p s hs (fun c hc=>f.sv _ (List.getElem_mem hs) c hc) (f.sc _ (List.getElem_mem hs)) _ _ ?_ ?_ ?_
  ·simp [h1]
  ·simp [h2]
  ·simp [h6]
 ·simp [Prg.e,ParserState.e]
 ·rw [← hX]
  cases p.states[s].extract.any (fun h=>decide (h<0) || decide ((p.headers.length:Int)≤h))<;>rfl
end Go.Av
