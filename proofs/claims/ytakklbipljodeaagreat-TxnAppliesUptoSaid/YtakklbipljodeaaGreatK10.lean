/-
 Actions and calls: the program's answers.
-/
import Derived.Test.YtakklbipljodeaaGreatK5
set_option linter.unusedVariables false
set_option linter.unusedSimpArgs false
set_option linter.constructorNameAsVariable false
namespace Go.Av
set_option maxRecDepth 4000
theorem qzp (g:Fld) (s:List UInt8) (w:Int):qab Φ f_330 [.agg (Fld.c g),.iptr 2 [[.str s,.int .i64 w]] 0 0]=some (.val (.bool (decide (g.name=s)))):=by
 rw [qaa (fn:=c_330) rfl rfl];simp [c_330,Fld.e]
theorem qtv (l:List Fld) (s:List UInt8) (w:Int) (hl:l.length<2^40):qab Φ f_342 [.slice 2 (l.map Fld.c),.func (.func f_330) [] [.iptr 2 [[.str s,.int .i64 w]] 0 0]]=some (.val (.int .i64 (ix (fun g=>decide (g.name=s)) l 0))):=by
 rw [qaa (fn:=c_342) rfl rfl];simp [c_342];refine (qao l.length (fun i e=>look 0 e=some (.slice 2 (l.map Fld.c))∧look 1 e=some (.func (.func f_330) [] [.iptr 2 [[.str s,.int .i64 w]] 0 0])∧look 7 e=some (.int .i64 l.length)∧look 8 e=some (.int .i64 i))
  (fun i=>some (.val (.int .i64 (ix (fun g=>decide (g.name=s)) l i)))) ?_ ?_ 0 _ (Nat.zero_le _) ?_).trans (by simp)
 ·rintro i e L hi hL ⟨h0,h1,h7,h8⟩ ih;have hw:IntKind.wrap .i64 ((i:Int)+1)=((i+1:Nat):Int):=qac (by omega) (by omega);have hd:=qzp l[i] s w;simp only [Fld.e] at hd;by_cases z:l[i].name=s
  ·rw [qgb hi (by simpa using z)];rw [decide_eq_true z] at hd;simp [c_342_l0,Fld.e,h0,h1,h7,h8,hi,hd]
  ·rw [qe7 hi (by simpa using z)];simp [c_342_l0,Fld.e,h0,h1,h7,h8,hi,hd,z,hw];exact ih _ ⟨by simp [h0],by simp [h1],by simp [h7],by simp⟩
 ·rintro e L hL ⟨h0,h1,h7,h8⟩;rw [qga];simp [c_342_l0,c_342_k1,h7,h8,hL]
 ·simp
theorem qoy (l:List Fld) (s:List UInt8) (w:Int) (hl:l.length<2^40):qab Φ f_329 [.slice 2 (l.map Fld.c),.func (.func f_330) [] [.iptr 2 [[.str s,.int .i64 w]] 0 0]]=some (.val (.bool (l.any fun g=>decide (g.name=s)))):=by
 rw [qaa (fn:=c_329) rfl rfl];have h:=qtv l s w hl;have e:=qid (p:=fun g:Fld=>decide (g.name=s)) (l:=l);simp [c_329,h];rw [← e]
def actG (l:List Fld) (i:Nat):Option Int:=(l[i]?).bind fun f=>er (fldE l i f)
theorem qab3 (a:Action) (hn:a.name.length<2^40) (hl:a.params.length<2^40) (hf:∀f∈a.params,f.name.length<2^40):qab Φ f_296 [.agg (Action.c a)]=some (.val (.int .i64 (actD a))):=by
 rw [qaa (fn:=c_296) rfl rfl];have n1:=qdv a.name hn;cases q1:idS a.name with
 | false=>rw [q1] at n1;simp [c_296,Action.e,n1,actD,q1]
 | true=>
 rw [q1] at n1;by_cases z0:4<a.params.length
 ·simp [c_296,Action.e,n1,actD,q1,z0]
 by_cases z1:12<a.body.length
 ·simp [c_296,Action.e,n1,actD,q1,z0,z1]
 have hE:actD a=errO (fe (actG a.params) a.params.length 0):=by simp [actD,q1,z0,z1];rfl
 rw [hE];simp [c_296,Action.e,n1,z0,z1];refine qaw a.params.length (fun _=>[]) 0 (fun i e=>look 1 e=some (.iptr 3 [[.str a.name,.slice 2 (a.params.map Fld.c),.slice 7 (a.body.map Statement.c)]] 0 0)∧look 22 e=some (.slice 2 (a.params.map Fld.c))∧look 23 e=some (.int .i64 a.params.length)∧look 24 e=some (.int .i64 i))
  (fun i=>some (Rt.val (.int .i64 (errO (fe (actG a.params) a.params.length i))))) ?_ ?_ 0 _ 0 (Nat.zero_le _) (Nat.le_refl _) ?_
 ·rintro i e n L hi hL _ ⟨h1,h22,h23,h24⟩ ih;have hw:IntKind.wrap .i64 ((i:Int)+1)=((i+1:Nat):Int):=qac (by omega) (by omega);have nf:=qdv a.params[i].name (hf _ (List.getElem_mem hi));have hi':i≤a.params.length:=by omega
  have hc:=qoy (a.params.take i) a.params[i].name a.params[i].width (by simp;omega);rw [show (a.params.take i).any (fun g=>decide (g.name=a.params[i].name))=dupN Fld.name a.params i a.params[i] from rfl,List.map_take] at hc;cases p1:idS a.params[i].name with
  | false=>
   rw [p1] at nf;rw [qai (x:=6) hi (by simp [actG,hi,fldE,p1,er])];simp [c_296_l0,Fld.e,h22,h23,h24,hi,nf]
  | true=>
  rw [p1] at nf;by_cases w1:a.params[i].width<1
  ·rw [qai (x:=10) hi (by simp [actG,hi,fldE,p1,wBad,w1,er])];simp [c_296_l0,Fld.e,h22,h23,h24,hi,nf,w1]
  by_cases w2:32<a.params[i].width
  ·rw [qai (x:=10) hi (by simp [actG,hi,fldE,p1,wBad,w2,er])];simp [c_296_l0,Fld.e,h22,h23,h24,hi,nf,w1,w2]
  cases p3:dupN Fld.name a.params i a.params[i] with
  | true=>
   rw [p3] at hc;rw [qai (x:=7) hi (by simp [actG,hi,fldE,p1,wBad,w1,w2,p3,er])];simp [c_296_l0,Fld.e,h1,h22,h23,h24,hi,nf,w1,w2,hi',hc]
  | false=>
   rw [p3] at hc;rw [qap hi (by simp [actG,hi,fldE,p1,wBad,w1,w2,p3])];simp [c_296_l0,Fld.e,h1,h22,h23,h24,hi,nf,w1,w2,hi',hc,hw];exact ih _ _ (Nat.zero_le _) ⟨by simp [h1],by simp [h22],by simp [h23],by simp⟩
 ·rintro e n L hL _ ⟨h1,h22,h23,h24⟩;rw [qa0];simp [c_296_l0,c_296_k1,h23,h24,hL]
 ·simp
def qgy (p:Prg) (a:Action) (k:Nat):Option (Int×Int):=(a.body[k]?).bind fun s=>if stmE p a.params s=0 then none else some ((k:Int),stmE p a.params s)
theorem qab4 (p:Prg) (f:PrgS p) (i:Int):qab Φ f_242 [.agg (Prg.c p),.int .i64 i]=some (.val (.tup [.int .i64 (actE p i).1,.int .i64 (actE p i).2])):=by
 rw [qaa (fn:=c_242) rfl rfl];by_cases i0:i<0
 ·simp [c_242,Prg.e,i0,actE,qbq i0]
 by_cases i1:(p.actions.length:Int)≤i
 ·simp [c_242,Prg.e,i0,i1,actE,qbp i1]
 obtain ⟨k,rfl⟩:∃k:Nat,i=k:=⟨i.toNat,by omega⟩;have hk:k<p.actions.length:=by omega
 have hm:=List.getElem_mem hk;have hd:=qab3 p.actions[k] (f.an _ hm) (f.ap _ hm) (f.apn _ hm);simp only [Action.e] at hd;by_cases z:actD p.actions[k]=0
 rotate_left
 ·simp [c_242,Prg.e,Action.e,hk,Nat.not_le.2 hk,hd,z,actE]
 rw [z] at hd;have hE:actE p k=(fe (qgy p p.actions[k]) p.actions[k].body.length 0).getD (0,0):=by simp [actE,hk,z];rfl
 rw [hE];simp [c_242,Prg.e,Action.e,hk,Nat.not_le.2 hk,hd];have hb:=f.ab _ hm;refine qaw p.actions[k].body.length (fun _=>[]) 0 (fun i e=>look 7 e=some (.iptr 10 [scC p p.actions[k].params] 0 0)∧look 35 e=some (.slice 7 (p.actions[k].body.map Statement.c))∧look 36 e=some (.int .i64 p.actions[k].body.length)∧look 37 e=some (.int .i64 i))
  (fun i=>some (Rt.val (.tup [.int .i64 ((fe (qgy p p.actions[k]) p.actions[k].body.length i).getD (0,0)).1,.int .i64 ((fe (qgy p p.actions[k]) p.actions[k].body.length i).getD (0,0)).2]))) ?_ ?_ 0 _ _ (Nat.zero_le _) (Nat.zero_le _) ?_
 ·rintro i e n L hi hL _ ⟨h7,h35,h36,h37⟩ ih;have hw:IntKind.wrap .i64 ((i:Int)+1)=((i+1:Nat):Int):=qac (by omega) (by omega);have hs:=qae3 p p.actions[k].params p.actions[k].body[i];simp only [Statement.e,qag] at hs;rw [qag] at h7;by_cases y:stmE p p.actions[k].params p.actions[k].body[i]=0
  ·rw [y] at hs;rw [qap hi (by simp [qgy,hi,y])];simp [c_242_l0,Statement.e,h7,h35,h36,h37,hi,hs,hw];exact ih _ _ (Nat.zero_le _) ⟨by simp [h7,qag],by simp [h35],by simp [h36],by simp⟩
  ·rw [qai (x:=((i:Int),stmE p p.actions[k].params p.actions[k].body[i])) hi (by simp [qgy,hi,y])];simp [c_242_l0,Statement.e,h7,h35,h36,h37,hi,hs,y]
 ·rintro e n L hL _ ⟨h7,h35,h36,h37⟩;rw [qa0];simp [c_242_l0,c_242_k1,h36,h37,hL]
 ·simp [qag]
def qik (ar:List Int) (ps:List Fld) (i:Nat):Option Int:=match ar[i]?,ps[i]? with
  | some v,some f=>if fits v f.width then none else some 9
  | _,_=>none
theorem qmz (p:Prg) (f:PrgS p) (c:ActionCall) (hc:c.args.length<2^40):qab Φ f_180 [.agg (Prg.c p),.agg (ActionCall.c c)]=some (.val (.int .i64 (qdm p c))):=by
 rw [qaa (fn:=c_180) rfl rfl];by_cases i0:c.action<0
 ·simp [c_180,Prg.e,ActionCall.e,i0,qdm,qbq i0]
 by_cases i1:(p.actions.length:Int)≤c.action
 ·simp [c_180,Prg.e,ActionCall.e,i0,i1,qdm,qbp i1]
 obtain ⟨k,hk0⟩:∃k:Nat,c.action=k:=⟨c.action.toNat,by omega⟩;have hk:k<p.actions.length:=by omega
 by_cases z:c.args.length=p.actions[k].params.length
 rotate_left
 ·simp [c_180,Prg.e,ActionCall.e,Action.e,hk0,hk,Nat.not_le.2 hk,qdm,z]
 have hE:qdm p c=errO (fe (qik c.args p.actions[k].params) c.args.length 0):=by simp [qdm,hk0,hk,z];rfl
 rw [hE];simp [c_180,Prg.e,ActionCall.e,Action.e,hk0,hk,Nat.not_le.2 hk,z];rw [← z];refine qao c.args.length (fun i e=>look 5 e=some (.slice 2 (p.actions[k].params.map Fld.c))∧look 33 e=some (.slice 1 (c.args.map c32))∧look 34 e=some (.int .i64 c.args.length)∧look 35 e=some (.int .i64 i))
  (fun i=>some (Rt.val (.int .i64 (errO (fe (qik c.args p.actions[k].params) c.args.length i))))) ?_ ?_ 0 _ (Nat.zero_le _) ?_
 ·rintro i e L hi hL ⟨h5,h33,h34,h35⟩ ih;have hw:IntKind.wrap .i64 ((i:Int)+1)=((i+1:Nat):Int):=qac (by omega) (by omega);have hi2:i<p.actions[k].params.length:=by omega
  have hf:=qjk c.args[i] p.actions[k].params[i].width;cases y:fits c.args[i] p.actions[k].params[i].width with
  | true=>
   rw [y] at hf;rw [qap hi (by simp [qik,hi,hi2,y])];simp [c_180_l0,Fld.e,c32,h5,h33,h34,h35,hi,hi2,hf,hw];exact ih _ ⟨by simp [h5],by simp [h33],by simp [h34],by simp⟩
  | false=>
   rw [y] at hf;rw [qai (x:=9) hi (by simp [qik,hi,hi2,y])];simp [c_180_l0,Fld.e,c32,h5,h33,h34,h35,hi,hi2,hf]
 ·rintro e L hL ⟨h5,h33,h34,h35⟩;rw [qa0];simp [c_180_l0,c_180_k1,h34,h35,hL]
 ·simp [z]
@[simp] theorem qaiz (O:List (Nat×AO)) (n id:Nat):qjg ⟨O,n⟩ (.map id)=match look id O with
  | some (.map es)=>some es
  | _=>none:=by simp only [qjg,AH.get];rfl
@[simp] theorem kdOk_i (k:IntKind) (x:Int):kdOk .i (.int k x)=true:=by simp [kdOk]
@[simp] theorem kdOk_s (x:List UInt8):kdOk .s (.str x)=true:=by simp [kdOk]
def setM (l:List Int):List (AV×AV):=l.map fun a=>(.int .i64 a,.bool true)
def setS (l:List (List UInt8)):List (AV×AV):=l.map fun a=>(.str a,.bool true)
theorem qlo (k:Int):∀l:List Int,qb4 .i (.int .i64 k) (setM l)=some (if l.contains k then some (.bool true) else none)
 | []=>by simp [setM,qb4]
 | a::l=>by
  have ih:=qlo k l;unfold setM at ih ⊢;by_cases h:k=a
  ·subst h;simp [qb4]
  ·simp [qb4,h,ih]
theorem qs1 (k:Int):∀l:List Int,l.contains k=false→putA .i (.int .i64 k) (.bool true) (setM l)=some (setM (l++[k]))
 | [],_=>by simp [setM,putA]
 | a::l,h=>by
  simp only [List.contains_cons,Bool.or_eq_false_iff,beq_eq_false_iff_ne,ne_eq] at h;have ih:=qs1 k l h.2;unfold setM at ih ⊢;simp [putA,h.1,ih]
theorem qqj (k:List UInt8):∀l:List (List UInt8),qb4 .s (.str k) (setS l)=some (if l.contains k then some (.bool true) else none)
 | []=>by simp [setS,qb4]
 | a::l=>by
  have ih:=qqj k l;unfold setS at ih ⊢;by_cases h:k=a
  ·subst h;simp [qb4]
  ·simp [qb4,h,ih]
theorem qs2 (k:List UInt8):∀l:List (List UInt8),l.contains k=false→putA .s (.str k) (.bool true) (setS l)=some (setS (l++[k]))
 | [],_=>by simp [setS,putA]
 | a::l,h=>by
  simp only [List.contains_cons,Bool.or_eq_false_iff,beq_eq_false_iff_ne,ne_eq] at h;have ih:=qs2 k l h.2;unfold setS at ih ⊢;simp [putA,h.1,ih]
theorem qzd (l:List Fld) (i:Int):qab Φ f_317 [.slice 2 (l.map Fld.c),.int .i64 i]=some (.val (.agg (match at? l i with | some f=>Fld.c f | none=>[.str [],.int .i64 0]))):=by
 rw [qaa (fn:=c_317) rfl rfl];by_cases i0:i<0
 ·simp [c_317,i0,qbq i0]
 by_cases i1:(l.length:Int)≤i
 ·simp [c_317,i0,i1,qbp i1]
 obtain ⟨k,rfl⟩:∃k:Nat,i=k:=⟨i.toNat,by omega⟩;have hk:k<l.length:=by omega
 simp [c_317,hk,Nat.not_le.2 hk,Fld.e]
theorem qze (l:List Header) (i:Int):qab Φ f_339 [.slice 2 (l.map Header.c),.int .i64 i]=some (.val (.agg (match at? l i with | some f=>Header.c f | none=>[.str [],.slice 2 []]))):=by
 rw [qaa (fn:=c_339) rfl rfl];by_cases i0:i<0
 ·simp [c_339,i0,qbq i0]
 by_cases i1:(l.length:Int)≤i
 ·simp [c_339,i0,i1,qbp i1]
 obtain ⟨k,rfl⟩:∃k:Nat,i=k:=⟨i.toNat,by omega⟩;have hk:k<l.length:=by omega
 simp [c_339,hk,Nat.not_le.2 hk,Header.e]
def qin (p:Prg) (h:Int):List Fld:=((if h= -1 then some p.metadata else (at? p.headers h).map (·.fields))).getD []
theorem qxk (p:Prg) (h:Int):qab Φ f_318 [.agg (Prg.c p),.int .i64 h]=some (.val (.slice 2 ((qin p h).map Fld.c))):=by
 rw [qaa (fn:=c_318) rfl rfl];by_cases hm:h= -1
 ·simp [c_318,Prg.e,hm,qin]
 have ha:=qze p.headers h;cases q:at? p.headers h with
 | none=>
  rw [q] at ha;simp [c_318,Prg.e,hm,qin,ha,q]
 | some x=>
  rw [q] at ha;simp only [Header.e] at ha;simp [c_318,Prg.e,hm,qin,ha,q]
theorem qxb (p:Prg) (h i:Int):decl p h i=(at? (qin p h) i).map (·.width):=by
 unfold decl qin;cases (if h= -1 then some p.metadata else (at? p.headers h).map (·.fields)) with
 | some l=>rfl
 | none=>
  have:at? ([]:List Fld) i=none:=by unfold at?;split<;>simp
  simp [this]
theorem qoo (p:Prg) (h i:Int):qab Φ f_261 [.agg (Prg.c p),.agg [.int .i64 h,.int .i64 i]]=some (.val (.int .i64 (wid p h i))):=by
 rw [qaa (fn:=c_261) rfl rfl];have hf:=qxk p h;have ha:=qzd (qin p h) i;have hd:=qxb p h i;simp only [Prg.e] at hf;cases q:at? (qin p h) i with
 | none=>
  rw [q] at ha hd;have hm:=qf0 0;rw [show qbe 0=0 from rfl] at hm;simp [c_261,Prg.e,hf,ha,hm,wid,hd]
 | some f=>
  rw [q] at ha hd;simp only [Fld.e] at ha;have hm:=qf0 f.width;cases w:wBad f.width with
  | true=>
   rw [show qbe f.width=0 by simp [qbe,w]] at hm;simp [c_261,Prg.e,hf,ha,hm,wid,hd,w]
  | false=>
   have:¬qbe f.width=0:=by
    obtain ⟨w1,w2⟩:=wBad_false.1 w;have:(2:Int)^1≤2^f.width.toNat:=by
     have:=Nat.pow_le_pow_right (n:=2) (by omega) (show 1≤f.width.toNat by omega)
     exact_mod_cast this
    simp only [qbe,w];simp;omega
   simp [c_261,Prg.e,hf,ha,hm,wid,hd,w,this]
theorem qy3 (p:Prg) (h i:Int):0≤wid p h i∧wid p h i≤32:=by
 unfold wid;split
 ·rename_i w _;cases q:wBad w with
  | true=>simp
  | false=>have:=wBad_false.1 q;simp;omega
 ·simp
def keyG (p:Prg) (x:Tbl) (i:Nat):Option (Int×Int):=(x.keys[i]?).bind fun k=>
 if wid p k.field.header k.field.field=0 then some ((i:Int),8) else if k.kind=1∨k.kind=2∨k.kind=3 then none else some ((i:Int),11)
def qeq (p:Prg) (x:Tbl):Int×Int:=if 1<x.keys.countP (fun k=>decide (k.kind=2)) then (-2,7) else if 64<(kWid p x).sum then (-2,10) else (0,0)
theorem qht (p:Prg) (x:Tbl):∀i,i≤x.keys.length→0≤((kWid p x).take i).sum∧((kWid p x).take i).sum≤32*i:=by
 intro i
 induction i with
 | zero=>intro _;simp
 | succ i ih=>
  intro hi;have:=ih (by omega);have hl:i<(kWid p x).length:=by simp [kWid];omega
  rw [List.take_succ_eq_append_getElem hl,List.sum_append,List.sum_singleton];have hr:=qy3 p x.keys[i].field.header x.keys[i].field.field;have he:(kWid p x)[i]=wid p x.keys[i].field.header x.keys[i].field.field:=by simp [kWid]
  rw [he];omega
theorem qz2 (p:Prg) (x:Tbl) (hl:x.keys.length<2^40):qab Φ f_258 [.agg (Prg.c p),.agg (Tbl.c x)]=some (.val (.tup [.int .i64 (qep p x).1,.int .i64 (qep p x).2])):=by
 rw [qaa (fn:=c_258) rfl rfl];have hE:qep p x=(fe (keyG p x) x.keys.length 0).getD (qeq p x):=by
  unfold qep keyE;show (match fe (keyG p x) x.keys.length 0 with | some e=>e | none=>qeq p x)=_;cases fe (keyG p x) x.keys.length 0<;>rfl
 rw [hE];simp [c_258,Prg.e,Tbl.e];refine qaw x.keys.length (fun _=>[]) 0 (fun i e=>look 2 e=some (.iptr 9 [Prg.c p] 0 0)∧look 6 e=some (.int .i64 ((x.keys.take i).countP fun k=>decide (k.kind=2):Nat))∧look 7 e=some (.int .i64 ((kWid p x).take i).sum)∧look 12 e=some (.slice 3 (x.keys.map TableKey.c))∧look 13 e=some (.int .i64 x.keys.length)∧look 14 e=some (.int .i64 i))
  (fun i=>some (Rt.val (.tup [.int .i64 ((fe (keyG p x) x.keys.length i).getD (qeq p x)).1,.int .i64 ((fe (keyG p x) x.keys.length i).getD (qeq p x)).2]))) ?_ ?_ 0 _ 0 (Nat.zero_le _) (Nat.le_refl _) ?_
 ·rintro i e n L hi hL _ ⟨h2,h6,h7,h12,h13,h14⟩ ih;have hw:IntKind.wrap .i64 ((i:Int)+1)=((i+1:Nat):Int):=qac (by omega) (by omega);have hv:=qoo p x.keys[i].field.header x.keys[i].field.field;simp only [Prg.e] at hv;rw [Prg.e] at h2;by_cases z:wid p x.keys[i].field.header x.keys[i].field.field=0
  ·rw [z] at hv;rw [qai (x:=((i:Int),8)) hi (by simp [keyG,hi,z])];simp [c_258_l0,TableKey.e,h2,h12,h13,h14,hi,hv]
  have hs:=qht p x (i+1) (by omega);have hs0:=qht p x i (by omega);have he:((kWid p x).take (i+1)).sum=((kWid p x).take i).sum+wid p x.keys[i].field.header x.keys[i].field.field:=by
   have hl:i<(kWid p x).length:=by simp [kWid];omega
   rw [List.take_succ_eq_append_getElem hl,List.sum_append,List.sum_singleton];congr 1;simp [kWid]
  have hw7:IntKind.wrap .i64 (((kWid p x).take i).sum+wid p x.keys[i].field.header x.keys[i].field.field)=((kWid p x).take (i+1)).sum:=by rw [← he];exact qac (by omega) (by omega)
  have hc:(x.keys.take (i+1)).countP (fun k=>decide (k.kind=2))=(x.keys.take i).countP (fun k=>decide (k.kind=2))+if x.keys[i].kind=2 then 1 else 0:=by
   rw [List.take_succ_eq_append_getElem hi,List.countP_append];congr 1;simp [List.countP_cons]
  have hcl:(x.keys.take i).countP (fun k=>decide (k.kind=2))≤i:=by
   have:=List.countP_le_length (l:=x.keys.take i) (p:=fun k=>decide (k.kind=2));simp at this;omega
  have hw6:IntKind.wrap .i64 (((x.keys.take i).countP (fun k=>decide (k.kind=2)):Nat)+1:Int)=(((x.keys.take i).countP (fun k=>decide (k.kind=2))+1:Nat):Int):=qac (by omega) (by omega);by_cases k2:x.keys[i].kind=2
  ·rw [qap hi (by simp [keyG,hi,z,k2])];rw [if_pos k2] at hc;simp [c_258_l0,TableKey.e,h2,h6,h7,h12,h13,h14,hi,hv,z,k2,hw7,hw6,hw];exact ih _ _ (Nat.zero_le _) ⟨by simp [h2,Prg.e],by simp [hc],by simp,by simp [h12],by simp [h13],by simp⟩
  rw [if_neg k2] at hc;by_cases k1:x.keys[i].kind=1
  ·rw [qap hi (by simp [keyG,hi,z,k1])];simp [c_258_l0,TableKey.e,h2,h7,h12,h13,h14,hi,hv,z,k1,hw7,hw];exact ih _ _ (Nat.zero_le _) ⟨by simp [h2,Prg.e],by simp [hc,h6],by simp,by simp [h12],by simp [h13],by simp⟩
  by_cases k3:x.keys[i].kind=3
  ·rw [qap hi (by simp [keyG,hi,z,k3])];simp [c_258_l0,TableKey.e,h2,h7,h12,h13,h14,hi,hv,z,k3,hw7,hw];exact ih _ _ (Nat.zero_le _) ⟨by simp [h2,Prg.e],by simp [hc,h6],by simp,by simp [h12],by simp [h13],by simp⟩
  ·rw [qai (x:=((i:Int),11)) hi (by simp [keyG,hi,z,k1,k2,k3])];simp [c_258_l0,TableKey.e,h2,h12,h13,h14,hi,hv,z,k1,k2,k3]
 ·rintro e n L hL _ ⟨h2,h6,h7,h12,h13,h14⟩;rw [qa0];have ht:(kWid p x).take x.keys.length=kWid p x:=by rw [List.take_of_length_le];simp [kWid]
  rw [ht] at h7;rw [List.take_length] at h6;by_cases y1:1<x.keys.countP (fun k=>decide (k.kind=2))
  ·simp [c_258_l0,c_258_k1,h6,h13,h14,hL,qeq,y1]
  by_cases y2:64<(kWid p x).sum
  ·simp [c_258_l0,c_258_k1,h6,h7,h13,h14,hL,qeq,y1,y2]
  ·simp [c_258_l0,c_258_k1,h6,h7,h13,h14,hL,qeq,y1,y2]
 ·simp [Prg.e]
def qfa (p:Prg) (x:Tbl) (i:Nat):Option Int:=(x.actions[i]?).bind fun a=>if a<0∨(p.actions.length:Int)≤a then some (8:Int) else if (x.actions.take i).contains a then some 7 else none
def qfn (p:Prg) (x:Tbl):Int:=if x.actions.contains x.dflt.action then qdm p x.dflt else 8
theorem qs9 (p:Prg) (x:Tbl):qix p x=(fe (qfa p x) x.actions.length 0).getD (qfn p x):=by
 unfold qix;show (match fe (qfa p x) x.actions.length 0 with | some e=>e | none=>qfn p x)=_;cases fe (qfa p x) x.actions.length 0<;>rfl
theorem qabq (p:Prg) (f:PrgS p) (x:Tbl) (hl:x.actions.length<2^40) (hg:x.dflt.args.length<2^40):qab Φ f_259 [.agg (Prg.c p),.agg (Tbl.c x)]=some (.val (.int .i64 (qix p x))):=by
 rw [qaa (fn:=c_259) rfl rfl,qs9];simp [c_259,Prg.e,Tbl.e];refine qey x.actions.length (fun i e H=>look 2 e=some (.iptr 9 [Prg.c p] 0 0)∧look 3 e=some (.iptr 6 [Tbl.c x] 0 0)∧look 5 e=some (.map 0)∧look 10 e=some (.slice 1 (x.actions.map cI))∧look 11 e=some (.int .i64 x.actions.length)∧look 12 e=some (.int .i64 i)∧
   H=⟨[(0,.map (setM (x.actions.take i)))],1⟩)
  (fun i=>some (Rt.val (.int .i64 ((fe (qfa p x) x.actions.length i).getD (qfn p x))))) ?_ ?_ 0 _ _ (Nat.zero_le _) ?_
 ·rintro i e _ L hi hL ⟨h2,h3,h5,h10,h11,h12,rfl⟩ ih;have hw:IntKind.wrap .i64 ((i:Int)+1)=((i+1:Nat):Int):=qac (by omega) (by omega);rw [Prg.e] at h2;by_cases z0:x.actions[i]<0
  ·rw [qai (x:=8) hi (by simp [qfa,hi,z0])];simp [c_259_l0,cI,h10,h11,h12,hi,z0]
  by_cases z1:(p.actions.length:Int)≤x.actions[i]
  ·rw [qai (x:=8) hi (by simp [qfa,hi,z0,z1])];simp [c_259_l0,cI,h2,h10,h11,h12,hi,z0,z1]
  have hfnd:=qlo x.actions[i] (x.actions.take i);cases q:(x.actions.take i).contains x.actions[i] with
  | true=>
   rw [q] at hfnd;rw [qai (x:=7) hi (by simp only [qfa,List.getElem?_eq_getElem hi,Option.bind_some];rw [if_neg (by omega),q];rfl)];simp [c_259_l0,cI,h2,h5,h10,h11,h12,hi,z0,z1,hfnd]
  | false=>
   rw [q] at hfnd;have hput:=qs1 x.actions[i] (x.actions.take i) q;rw [← List.take_succ_eq_append_getElem hi] at hput;rw [qap hi (by simp only [qfa,List.getElem?_eq_getElem hi,Option.bind_some];rw [if_neg (by omega),q];rfl)];simp [c_259_l0,cI,h2,h5,h10,h11,h12,hi,z0,z1,hfnd,hput,hw];exact ih _ _ ⟨by simp [h2,Prg.e],by simp [h3],by simp [h5],by simp [h10],by simp [h11],by simp,rfl⟩
 ·rintro e _ L hL ⟨h2,h3,h5,h10,h11,h12,rfl⟩;rw [qa0,List.take_length];have hfnd:=qlo x.dflt.action x.actions;have hc:=qmz p f x.dflt hg;simp only [Prg.e,ActionCall.e] at hc;rw [Prg.e] at h2;rw [Tbl.e] at h3;cases q:x.actions.contains x.dflt.action with
  | true=>
   rw [q] at hfnd;rw [show qfn p x=qdm p x.dflt by simp only [qfn,q];rfl];simp [c_259_l0,c_259_k1,h2,h3,h5,h11,h12,hL,hfnd,hc]
  | false=>
   rw [q] at hfnd;rw [show qfn p x=8 by simp only [qfn,q];rfl];simp [c_259_l0,c_259_k1,h3,h5,h11,h12,hL,hfnd]
 ·simp [Prg.e,Tbl.e,setM]
theorem qpn (p:Prg) (f:PrgS p) (t:Int):qab Φ f_175 [.agg (Prg.c p),.int .i64 t]=some (.val (.tup [.int .i64 (tblE p t).1,.int .i64 (tblE p t).2])):=by
 rw [qaa (fn:=c_175) rfl rfl];by_cases i0:t<0
 ·simp [c_175,Prg.e,i0,tblE,qbq i0]
 by_cases i1:(p.tables.length:Int)≤t
 ·simp [c_175,Prg.e,i0,i1,tblE,qbp i1]
 obtain ⟨k,rfl⟩:∃k:Nat,t=k:=⟨t.toNat,by omega⟩;have hk:k<p.tables.length:=by omega
 have hm:=List.getElem_mem hk;have n1:=qdv p.tables[k].name (f.tn _ hm);have h1:=qz2 p p.tables[k] (f.tk _ hm);have h2:=qabq p f p.tables[k] (f.ta _ hm) (f.tg _ hm);simp only [Prg.e,Tbl.e] at h1 h2;cases q1:idS p.tables[k].name with
 | false=>rw [q1] at n1;simp [c_175,Prg.e,Tbl.e,hk,Nat.not_le.2 hk,n1,tblE,q1]
 | true=>
 rw [q1] at n1;by_cases z0:6<p.tables[k].keys.length
 ·simp [c_175,Prg.e,Tbl.e,hk,Nat.not_le.2 hk,n1,tblE,q1,z0]
 by_cases z1:16<p.tables[k].actions.length
 ·simp [c_175,Prg.e,Tbl.e,hk,Nat.not_le.2 hk,n1,tblE,q1,z0,z1]
 by_cases z2:p.tables[k].size<1
 ·simp [c_175,Prg.e,Tbl.e,hk,Nat.not_le.2 hk,n1,tblE,q1,z0,z1,z2]
 by_cases z3:256<p.tables[k].size
 ·simp [c_175,Prg.e,Tbl.e,hk,Nat.not_le.2 hk,n1,tblE,q1,z0,z1,z2,z3]
 by_cases y1:(qep p p.tables[k]).2=0
 rotate_left
 ·simp [c_175,Prg.e,Tbl.e,hk,Nat.not_le.2 hk,n1,tblE,q1,z0,z1,z2,z3,h1,y1]
 rw [y1] at h1;by_cases y2:qix p p.tables[k]=0
 ·rw [y2] at h2;simp [c_175,Prg.e,Tbl.e,hk,Nat.not_le.2 hk,n1,tblE,q1,z0,z1,z2,z3,h1,y1,h2,y2]
 ·simp [c_175,Prg.e,Tbl.e,hk,Nat.not_le.2 hk,n1,tblE,q1,z0,z1,z2,z3,h1,y1,h2,y2]
end Go.Av
