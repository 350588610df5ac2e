/-
 Actions and calls: the program's answers.
-/
import Derived.Test.YtcehjengeaafpaaGreatK1
set_option linter.all false
namespace Go.Av
set_option maxRecDepth 4000
theorem Dt (g:Fld) (s:List UInt8) (w:Int):a8 Φ 369 [.agg (Fld.c g),.iptr 2 [[.str s,a7 w]] 0 0]=some (.val (.bool (decide (g.name=s)))):=by
 rw [aB rfl rfl];simp [IG,Fld.e]
theorem XH (l:List Fld) (s:List UInt8) (w:Int) (hl:l.length<2^40):a8 Φ 402 [.slice 2 (l.map Fld.c),.func (.func 369) [] [.iptr 2 [[.str s,a7 w]] 0 0]]=some (.val (a7 (ix (fun g=>decide (g.name=s)) l 0))):=by
 rw [aB rfl rfl];simp [J6];refine (dC l.length (fun i e=>look 0 e=some (.slice 2 (l.map Fld.c))/\look 1 e=some (.func (.func 369) [] [.iptr 2 [[.str s,a7 w]] 0 0])/\look 7 e=some (a7 l.length)/\look 8 e=some (a7 i))
  (fun i=>some (.val (a7 (ix (fun g=>decide (g.name=s)) l i)))) ?_ ?_ 0 _ (Qc _) ?_).trans (by simp)
 ·rintro i e L hi hL ⟨h0,h1,h7,h8⟩ ih;have hw:=aF i (by omega);have hd:=Dt l[i] s w;simp only [Fld.e] at hd;by_cases z:l[i].name=s
  ·rw [O6 hi (by simpa using z)];rw [decide_eq_true z] at hd;simp [iE,Fld.e,h0,h1,h7,h8,hi,hd]
  ·rw [NK hi (by simpa using z)];simp [iE,Fld.e,h0,h1,h7,h8,hi,hd,z,hw];exact ih _ ⟨by simp [h0],by simp [h1],by simp [h7],by simp⟩
 ·rintro e L hL ⟨h0,h1,h7,h8⟩;rw [O5];simp [iE,s7,h7,h8,hL]
 ·simp
theorem qut (l:List Fld) (s:List UInt8) (w:Int) (hl:l.length<2^40):a8 Φ 368 [.slice 2 (l.map Fld.c),.func (.func 369) [] [.iptr 2 [[.str s,a7 w]] 0 0]]=some (.val (.bool (l.any fun g=>decide (g.name=s)))):=by
 rw [aB rfl rfl];have h:=XH l s w hl;have e:=NZ (p:=fun g:Fld=>decide (g.name=s)) (l:=l);simp [IF,h];rw [<- e]
def actG (l:List Fld) (i:Nat):Option Int:=(l[i]?).bind fun f=>er (fldE l i f)
theorem Im (a:Action) (hn:a.name.length<2^40) (hl:a.params.length<2^40) (hf:∀f∈a.params,f.name.length<2^40):a8 Φ 313 [.agg (Action.c a)]=some (.val (a7 (actD a))):=by
 rw [aB rfl rfl];have n1:=JE a.name hn;cases q1:idS a.name with
 | false=>rw [q1] at n1;simp [vN,Action.e,n1,actD,q1]
 | true=>
 rw [q1] at n1;by_cases z0:4<a.params.length
 ·simp [vN,Action.e,n1,actD,q1,z0]
 by_cases z1:12<a.body.length
 ·simp [vN,Action.e,n1,actD,q1,z0,z1]
 have hE:actD a=errO (fe (actG a.params) a.params.length 0):=by simp [actD,q1,z0,z1]<;>rfl
 rw [hE];simp [vN,Action.e,n1,z0,z1];refine cV a.params.length (fun _=>[]) 0 (fun i e=>look 1 e=some (.iptr 3 [[.str a.name,.slice 2 (a.params.map Fld.c),.slice 7 (a.body.map Xf.c)]] 0 0)/\look 22 e=some (.slice 2 (a.params.map Fld.c))/\look 23 e=some (a7 a.params.length)/\look 24 e=some (a7 i))
  (fun i=>some (Rt.val (a7 (errO (fe (actG a.params) a.params.length i))))) ?_ ?_ 0 _ 0 (Qc _) (Qb _) ?_
 ·rintro i e n L hi hL _ ⟨h1,h22,h23,h24⟩ ih;have hw:=aF i (by omega);have nf:=JE a.params[i].name (hf _ (Qd hi));have hi':i<=a.params.length:=by omega
  have hc:=qut (a.params.take i) a.params[i].name a.params[i].Yc (by simp;omega);rw [show (a.params.take i).any (fun g=>decide (g.name=a.params[i].name))=dupN Fld.name a.params i a.params[i] from rfl,DY] at hc;cases p1:idS a.params[i].name with
  | false=>
   rw [p1] at nf;rw [aJ (x:=6) hi (by simp [actG,hi,fldE,p1,er])];simp [bX,Fld.e,h22,h23,h24,hi,nf]
  | true=>
  rw [p1] at nf;by_cases w1:a.params[i].Yc<1
  ·rw [aJ (x:=10) hi (by simp [actG,hi,fldE,p1,wBad,w1,er])];simp [bX,Fld.e,h22,h23,h24,hi,nf,w1]
  by_cases w2:32<a.params[i].Yc
  ·rw [aJ (x:=10) hi (by simp [actG,hi,fldE,p1,wBad,w2,er])];simp [bX,Fld.e,h22,h23,h24,hi,nf,w1,w2]
  cases p3:dupN Fld.name a.params i a.params[i] with
  | true=>
   rw [p3] at hc;rw [aJ (x:=7) hi (by simp [actG,hi,fldE,p1,wBad,w1,w2,p3,er])];simp [bX,Fld.e,h1,h22,h23,h24,hi,nf,w1,w2,hi',hc]
  | false=>
   rw [p3] at hc;rw [bP hi (by simp [actG,hi,fldE,p1,wBad,w1,w2,p3])];simp [bX,Fld.e,h1,h22,h23,h24,hi,nf,w1,w2,hi',hc,hw];exact ih _ _ (Qc _) ⟨by simp [h1],by simp [h22],by simp [h23],by simp⟩
 ·rintro e n L hL _ ⟨h1,h22,h23,h24⟩;rw [d6];simp [bX,rF,h23,h24,hL]
 ·simp
def DN (p:Prg) (a:Action) (k:Nat):Option (Int×Int):=(a.body[k]?).bind fun s=>if stmE p a.params s=0 then none else some ((k:Int),stmE p a.params s)
theorem P8 (p:Prg) (f:PrgS p) (i:Int):a8 Φ 218 [.agg (Prg.c p),a7 i]=some (.val (.tup [a7 (actE p i).1,a7 (actE p i).2])):=by
 rw [aB rfl rfl];by_cases i0:i<0
 ·simp [vG,Prg.e,i0,actE,cY i0]
 by_cases i1:(p.Xx.length:Int)<=i
 ·simp [vG,Prg.e,i0,i1,actE,cW i1]
 obtain ⟨k,rfl⟩:∃k:Nat,i=k:=⟨i.toNat,by omega⟩;have hk:k<p.Xx.length:=by omega
 have hm:=Qd hk;have hd:=Im p.Xx[k] (f.an _ hm) (f.ap _ hm) (f.apn _ hm);simp only [Action.e] at hd;by_cases z:actD p.Xx[k]=0
 rotate_left
 ·simp [vG,Prg.e,Action.e,hk,Qf.2 hk,hd,z,actE]
 rw [z] at hd;have hE:actE p k=(fe (DN p p.Xx[k]) p.Xx[k].body.length 0).getD (0,0):=by simp [actE,hk,z]<;>rfl
 rw [hE];simp [vG,Prg.e,Action.e,hk,Qf.2 hk,hd];have hb:=f.ab _ hm;refine cV p.Xx[k].body.length (fun _=>[]) 0 (fun i e=>look 7 e=some (.iptr 10 [scC p p.Xx[k].params] 0 0)/\look 35 e=some (.slice 7 (p.Xx[k].body.map Xf.c))/\look 36 e=some (a7 p.Xx[k].body.length)/\look 37 e=some (a7 i))
  (fun i=>some (Rt.val (.tup [a7 ((fe (DN p p.Xx[k]) p.Xx[k].body.length i).getD (0,0)).1,a7 ((fe (DN p p.Xx[k]) p.Xx[k].body.length i).getD (0,0)).2]))) ?_ ?_ 0 _ _ (Qc _) (Qc _) ?_
 ·rintro i e n L hi hL _ ⟨h7,h35,h36,h37⟩ ih;have hw:=aF i (by omega);have hs:=Nu p p.Xx[k].params p.Xx[k].body[i];simp only [Xf.e,aE] at hs;rw [aE] at h7;by_cases y:stmE p p.Xx[k].params p.Xx[k].body[i]=0
  ·rw [y] at hs;rw [bP hi (by simp [DN,hi,y])];simp [gK,Xf.e,h7,h35,h36,h37,hi,hs,hw];exact ih _ _ (Qc _) ⟨by simp [h7,aE],by simp [h35],by simp [h36],by simp⟩
  ·rw [aJ (x:=((i:Int),stmE p p.Xx[k].params p.Xx[k].body[i])) hi (by simp [DN,hi,y])];simp [gK,Xf.e,h7,h35,h36,h37,hi,hs,y]
 ·rintro e n L hL _ ⟨h7,h35,h36,h37⟩;rw [d6];simp [gK,qO,h36,h37,hL]
 ·simp [aE]
def K3 (ar:List Int) (ps:List Fld) (i:Nat):Option Int:=match ar[i]?,ps[i]? with
  | some v,some f=>if fits v f.Yc then none else some 9
  | _,_=>none
theorem UP (p:Prg) (f:PrgS p) (c:Xb) (hc:c.args.length<2^40):a8 Φ 144 [.agg (Prg.c p),.agg (Xb.c c)]=some (.val (a7 (nV p c))):=by
 rw [aB rfl rfl];by_cases i0:c.Xy<0
 ·simp [vA,Prg.e,Xb.e,i0,nV,cY i0]
 by_cases i1:(p.Xx.length:Int)<=c.Xy
 ·simp [vA,Prg.e,Xb.e,i0,i1,nV,cW i1]
 obtain ⟨k,hk0⟩:∃k:Nat,c.Xy=k:=⟨c.Xy.toNat,by omega⟩;have hk:k<p.Xx.length:=by omega
 by_cases z:c.args.length=p.Xx[k].params.length
 rotate_left
 ·simp [vA,Prg.e,Xb.e,Action.e,hk0,hk,Qf.2 hk,nV,z]
 have hE:nV p c=errO (fe (K3 c.args p.Xx[k].params) c.args.length 0):=by simp [nV,hk0,hk,z]<;>rfl
 rw [hE];simp [vA,Prg.e,Xb.e,Action.e,hk0,hk,Qf.2 hk,z];rw [<- z];refine dC c.args.length (fun i e=>look 5 e=some (.slice 2 (p.Xx[k].params.map Fld.c))/\look 33 e=some (.slice 1 (c.args.map c32))/\look 34 e=some (a7 c.args.length)/\look 35 e=some (a7 i))
  (fun i=>some (Rt.val (a7 (errO (fe (K3 c.args p.Xx[k].params) c.args.length i))))) ?_ ?_ 0 _ (Qc _) ?_
 ·rintro i e L hi hL ⟨h5,h33,h34,h35⟩ ih;have hw:=aF i (by omega);have hi2:i<p.Xx[k].params.length:=by omega
  have hf:=NH c.args[i] p.Xx[k].params[i].Yc;cases y:fits c.args[i] p.Xx[k].params[i].Yc with
  | true=>
   rw [y] at hf;rw [bP hi (by simp [K3,hi,hi2,y])];simp [fX,Fld.e,c32,h5,h33,h34,h35,hi,hi2,hf,hw];exact ih _ ⟨by simp [h5],by simp [h33],by simp [h34],by simp⟩
  | false=>
   rw [y] at hf;rw [aJ (x:=9) hi (by simp [K3,hi,hi2,y])];simp [fX,Fld.e,c32,h5,h33,h34,h35,hi,hi2,hf]
 ·rintro e L hL ⟨h5,h33,h34,h35⟩;rw [d6];simp [fX,pN,h34,h35,hL]
 ·simp [z]
@[simp] theorem a0r (O:List (Nat×AO)) (n id:Nat):NW ⟨O,n⟩ (.map id)=match look id O with
  | some (.map es)=>some es
  | _=>none:=by simp only [NW,AH.get]<;>rfl
@[simp] theorem kdOk_i (k:IntKind) (x:Int):kdOk .i (.int k x)=true:=by simp [kdOk]
@[simp] theorem kdOk_s (x:List UInt8):kdOk .s (.str x)=true:=by simp [kdOk]
def setM (l:List Int):List (AV×AV):=l.map fun a=>(a7 a,.bool true)
def setS (l:List (List UInt8)):List (AV×AV):=l.map fun a=>(.str a,.bool true)
theorem fo (k:Int):∀l:List Int,nL .i (a7 k) (setM l)=some (if l.contains k then some (.bool true) else none)
 | []=>by simp [setM,nL]
 | a::l=>by
  have ih:=fo k l;unfold setM at ih ⊢;by_cases h:k=a
  ·subst h;simp [nL]
  ·simp [nL,h,ih]
theorem xf (k:Int):∀l:List Int,l.contains k=false->putA .i (a7 k) (.bool true) (setM l)=some (setM (l++[k]))
 | [],_=>by simp [setM,putA]
 | a::l,h=>by
  simp only [List.contains_cons,EY,beq_eq_false_iff_ne,ne_eq] at h;have ih:=xf k l h.2;unfold setM at ih ⊢;simp [putA,h.1,ih]
theorem ue (k:List UInt8):∀l:List (List UInt8),nL .s (.str k) (setS l)=some (if l.contains k then some (.bool true) else none)
 | []=>by simp [setS,nL]
 | a::l=>by
  have ih:=ue k l;unfold setS at ih ⊢;by_cases h:k=a
  ·subst h;simp [nL]
  ·simp [nL,h,ih]
theorem xg (k:List UInt8):∀l:List (List UInt8),l.contains k=false->putA .s (.str k) (.bool true) (setS l)=some (setS (l++[k]))
 | [],_=>by simp [setS,putA]
 | a::l,h=>by
  simp only [List.contains_cons,EY,beq_eq_false_iff_ne,ne_eq] at h;have ih:=xg k l h.2;unfold setS at ih ⊢;simp [putA,h.1,ih]
theorem Dc (l:List Fld) (i:Int):a8 Φ 273 [.slice 2 (l.map Fld.c),a7 i]=some (.val (.agg (match at? l i with | some f=>Fld.c f | none=>[.str [],a7 0]))):=by
 rw [aB rfl rfl];by_cases i0:i<0
 ·simp [wZ,i0,cY i0]
 by_cases i1:(l.length:Int)<=i
 ·simp [wZ,i0,i1,cW i1]
 obtain ⟨k,rfl⟩:∃k:Nat,i=k:=⟨i.toNat,by omega⟩;have hk:k<l.length:=by omega
 simp [wZ,hk,Qf.2 hk,Fld.e]
theorem Bx (l:List Xi) (i:Int):a8 Φ 350 [.slice 2 (l.map Xi.c),a7 i]=some (.val (.agg (match at? l i with | some f=>Xi.c f | none=>[.str [],.slice 2 []]))):=by
 rw [aB rfl rfl];by_cases i0:i<0
 ·simp [yD,i0,cY i0]
 by_cases i1:(l.length:Int)<=i
 ·simp [yD,i0,i1,cW i1]
 obtain ⟨k,rfl⟩:∃k:Nat,i=k:=⟨i.toNat,by omega⟩;have hk:k<l.length:=by omega
 simp [yD,hk,Qf.2 hk,Xi.e]
def K4 (p:Prg) (h:Int):List Fld:=((if h= -1 then some p.Xn else (at? p.Xo h).map (·.Xz))).getD []
theorem Ah (p:Prg) (h:Int):a8 Φ 274 [.agg (Prg.c p),a7 h]=some (.val (.slice 2 ((K4 p h).map Fld.c))):=by
 rw [aB rfl rfl];by_cases hm:h= -1
 ·simp [xH,Prg.e,hm,K4]
 have ha:=Bx p.Xo h;cases q:at? p.Xo h with
 | none=>
  rw [q] at ha;simp [xH,Prg.e,hm,K4,ha,q]
 | some x=>
  rw [q] at ha;simp only [Xi.e] at ha;simp [xH,Prg.e,hm,K4,ha,q]
theorem ZI (p:Prg) (h i:Int):decl p h i=(at? (K4 p h) i).map (·.Yc):=by
 unfold decl K4;cases (if h= -1 then some p.Xn else (at? p.Xo h).map (·.Xz)) with
 | some l=>rfl
 | none=>
  have:at? ([]:List Fld) i=none:=by unfold at?;split<;>simp
  simp [this]
theorem O8 (p:Prg) (h i:Int):a8 Φ 172 [.agg (Prg.c p),.agg [a7 h,a7 i]]=some (.val (a7 (wid p h i))):=by
 rw [aB rfl rfl];have hf:=Ah p h;have ha:=Dc (K4 p h) i;have hd:=ZI p h i;simp only [Prg.e] at hf;cases q:at? (K4 p h) i with
 | none=>
  rw [q] at ha hd;have hm:=nZ 0;rw [show bC 0=0 from rfl] at hm;simp [wR,Prg.e,hf,ha,hm,wid,hd]
 | some f=>
  rw [q] at ha hd;simp only [Fld.e] at ha;have hm:=nZ f.Yc;cases w:wBad f.Yc with
  | true=>
   rw [show bC f.Yc=0 by simp [bC,w]] at hm;simp [wR,Prg.e,hf,ha,hm,wid,hd,w]
  | false=>
   have:¬bC f.Yc=0:=by
    obtain ⟨w1,w2⟩:=wBad_false.1 w;have:(2:Int)^1<=2^f.Yc.toNat:=by
     have:=AM (n:=2) (by omega) (show 1<=f.Yc.toNat by omega)
     exact_mod_cast this
    simp only [bC,w];simp;omega
   simp [wR,Prg.e,hf,ha,hm,wid,hd,w,this]
theorem Ci (p:Prg) (h i:Int):0<=wid p h i/\wid p h i<=32:=by
 unfold wid;split
 ·rename_i w _;cases q:wBad w with
  | true=>simp
  | false=>have:=wBad_false.1 q;simp;omega
 ·simp
def keyG (p:Prg) (x:Tbl) (i:Nat):Option (Int×Int):=(x.keys[i]?).bind fun k=>
 if wid p k.field.header k.field.field=0 then some ((i:Int),8) else if k.kind=1\/k.kind=2\/k.kind=3 then none else some ((i:Int),11)
def yV (p:Prg) (x:Tbl):Int×Int:=if 1<x.keys.countP (fun k=>decide (k.kind=2)) then (-2,7) else if 64<(kWid p x).sum then (-2,10) else (0,0)
theorem TZ (p:Prg) (x:Tbl):∀i,i<=x.keys.length->0<=((kWid p x).take i).sum/\((kWid p x).take i).sum<=32*i:=by
 intro i
 induction i with
 | zero=>intro _;simp
 | succ i ih=>
  intro hi;have:=ih (by omega);have hl:i<(kWid p x).length:=by simp [kWid];omega
  rw [Qh hl,MA,M8];have hr:=Ci p x.keys[i].field.header x.keys[i].field.field;have he:(kWid p x)[i]=wid p x.keys[i].field.header x.keys[i].field.field:=by simp [kWid]
  rw [he];omega
theorem Dh (p:Prg) (x:Tbl) (hl:x.keys.length<2^40):a8 Φ 238 [.agg (Prg.c p),.agg (Tbl.c x)]=some (.val (.tup [a7 (yU p x).1,a7 (yU p x).2])):=by
 rw [aB rfl rfl];have hE:yU p x=(fe (keyG p x) x.keys.length 0).getD (yV p x):=by
  unfold yU keyE;show (match fe (keyG p x) x.keys.length 0 with | some e=>e | none=>yV p x)=_;cases fe (keyG p x) x.keys.length 0<;>rfl
 rw [hE];simp [GG,Prg.e,Tbl.e];refine cV x.keys.length (fun _=>[]) 0 (fun i e=>look 2 e=some (.iptr 9 [Prg.c p] 0 0)/\look 6 e=some (a7 ((x.keys.take i).countP fun k=>decide (k.kind=2):Nat))/\look 7 e=some (a7 ((kWid p x).take i).sum)/\look 12 e=some (.slice 3 (x.keys.map Xk.c))/\look 13 e=some (a7 x.keys.length)/\look 14 e=some (a7 i))
  (fun i=>some (Rt.val (.tup [a7 ((fe (keyG p x) x.keys.length i).getD (yV p x)).1,a7 ((fe (keyG p x) x.keys.length i).getD (yV p x)).2]))) ?_ ?_ 0 _ 0 (Qc _) (Qb _) ?_
 ·rintro i e n L hi hL _ ⟨h2,h6,h7,h12,h13,h14⟩ ih;have hw:=aF i (by omega);have hv:=O8 p x.keys[i].field.header x.keys[i].field.field;simp only [Prg.e] at hv;rw [Prg.e] at h2;by_cases z:wid p x.keys[i].field.header x.keys[i].field.field=0
  ·rw [z] at hv;rw [aJ (x:=((i:Int),8)) hi (by simp [keyG,hi,z])];simp [aZ,Xk.e,h2,h12,h13,h14,hi,hv]
  have hs:=TZ p x (i+1) (by omega);have hs0:=TZ p x i (by omega);have he:((kWid p x).take (i+1)).sum=((kWid p x).take i).sum+wid p x.keys[i].field.header x.keys[i].field.field:=by
   have hl:i<(kWid p x).length:=by simp [kWid];omega
   rw [Qh hl,MA,M8];congr 1;simp [kWid]
  have hw7:IntKind.wrap .i64 (((kWid p x).take i).sum+wid p x.keys[i].field.header x.keys[i].field.field)=((kWid p x).take (i+1)).sum:=by rw [<- he];exact aQ
  have hc:(x.keys.take (i+1)).countP (fun k=>decide (k.kind=2))=(x.keys.take i).countP (fun k=>decide (k.kind=2))+if x.keys[i].kind=2 then 1 else 0:=by
   rw [Qh hi,List.countP_append];congr 1;simp [List.countP_cons]
  have hcl:(x.keys.take i).countP (fun k=>decide (k.kind=2))<=i:=by
   have:=List.countP_le_length (l:=x.keys.take i) (p:=fun k=>decide (k.kind=2));simp at this;omega
  have hw6:IntKind.wrap .i64 (((x.keys.take i).countP (fun k=>decide (k.kind=2)):Nat)+1:Int)=(((x.keys.take i).countP (fun k=>decide (k.kind=2))+1:Nat):Int):=aQ;by_cases k2:x.keys[i].kind=2
  ·rw [bP hi (by simp [keyG,hi,z,k2])];rw [a9 k2] at hc;simp [aZ,Xk.e,h2,h6,h7,h12,h13,h14,hi,hv,z,k2,hw7,hw6,hw];exact ih _ _ (Qc _) ⟨by simp [h2,Prg.e],by simp [hc],by simp,by simp [h12],by simp [h13],by simp⟩
  rw [QA k2] at hc;by_cases k1:x.keys[i].kind=1
  ·rw [bP hi (by simp [keyG,hi,z,k1])];simp [aZ,Xk.e,h2,h7,h12,h13,h14,hi,hv,z,k1,hw7,hw];exact ih _ _ (Qc _) ⟨by simp [h2,Prg.e],by simp [hc,h6],by simp,by simp [h12],by simp [h13],by simp⟩
  by_cases k3:x.keys[i].kind=3
  ·rw [bP hi (by simp [keyG,hi,z,k3])];simp [aZ,Xk.e,h2,h7,h12,h13,h14,hi,hv,z,k3,hw7,hw];exact ih _ _ (Qc _) ⟨by simp [h2,Prg.e],by simp [hc,h6],by simp,by simp [h12],by simp [h13],by simp⟩
  ·rw [aJ (x:=((i:Int),11)) hi (by simp [keyG,hi,z,k1,k2,k3])];simp [aZ,Xk.e,h2,h12,h13,h14,hi,hv,z,k1,k2,k3]
 ·rintro e n L hL _ ⟨h2,h6,h7,h12,h13,h14⟩;rw [d6];have ht:(kWid p x).take x.keys.length=kWid p x:=by rw [Qo];simp [kWid]
  rw [ht] at h7;rw [fF] at h6;by_cases y1:1<x.keys.countP (fun k=>decide (k.kind=2))
  ·simp [aZ,gL,h6,h13,h14,hL,yV,y1]
  by_cases y2:64<(kWid p x).sum
  ·simp [aZ,gL,h6,h7,h13,h14,hL,yV,y1,y2]
  ·simp [aZ,gL,h6,h7,h13,h14,hL,yV,y1,y2]
 ·simp [Prg.e]
def zT (d:List Int) (k:Nat):Int:=d.getD (k / 8) 0 / 2^(7 - k % 8) % 2
def rdN (d:List Int) (i:Nat):Nat->Int
 | 0=>0
 | w+1=>2*rdN d i w+zT d (i+w)
def rdF (d:List Int):Nat->List Fld->List Int
 | _,[]=>[]
 | i,f::r=>rdN d i f.Yc.toNat::rdF d (i+f.Yc.toNat) r
def exH (p:Prg) (d:List Int) (x:Envt×Nat) (h:Int):Option (Envt×Nat):=match at? p.Xo h with
 | none=>none
 | some g=>if 8*d.length<x.2+(wSum g.Xz).toNat then none else
  some ({ x.1 with valid:=x.1.valid.set h.toNat true,Xz:=x.1.Xz.set h.toNat (rdF d x.2 g.Xz) },x.2+(wSum g.Xz).toNat)
def exHs (p:Prg) (d:List Int):List Int->Envt×Nat->Option (Envt×Nat)
 | [],x=>some x
 | h::r,x=>(exH p d x h).bind (exHs p d r)
def nxS (s:Xc) (e:Envt):Int:=if s.select then ((s.cases.find? fun c=>decide (iand .u32 (eGet e s.on.header s.on.field) c.Yd=c.value)).map (·.next)).getD s.Yb else s.Yb
def prF (p:Prg) (d:List Int):Nat->Int->Envt×Nat->Option Envt
 | 0,_,_=>none
 | n+1,s,x=>if s= -1 then some { x.1 with payload:=d.drop (x.2 / 8) } else match at? p.Xw s with
  | none=>none
  | some t=>(exHs p d t.extract x).bind fun y=>prF p d n (nxS t y.1) y
def prs (p:Prg) (d:List Int):Option Envt:=if 512<d.length then none else prF p d (p.Xw.length+1) 0 (eNew p,0)
def iQ (v:Int):Nat->List Bool
 | 0=>[]
 | w+1=>decide (v / 2^w % 2=1)::iQ v w
def oD:List Fld->List Int->List Bool
 | f::r,v::l=>iQ v f.Yc.toNat++oD r l
 | _,_=>[]
def uL (p:Prg) (e:Envt):List Bool:=(p.Xr.map fun h=>if (at? e.valid h).getD false then oD (((at? p.Xo h).map (·.Xz)).getD []) ((at? e.Xz h).getD []) else []).flatten
def b2i (b:Bool):Int:=if b then 1 else 0
def byt (l:List Bool):Int:=l.foldl (fun n b=>2*n+b2i b) 0
def byts:Nat->List Bool->List Int
 | 0,_=>[]
 | n+1,l=>byt (l.take 8)::byts n (l.drop 8)
def emi (p:Prg) (e:Envt):List Int:=byts ((uL p e).length / 8) (uL p e)++e.payload
theorem iX {G:Type} {l:List G} {i:Int} {x:G} (h:at? l i=some x):∃k:Nat,i=k/\∃hk:k<l.length,l[k]=x:=by
 unfold at? at h;split at h
 ·cases h
 ·obtain ⟨hk,e⟩:=Qm.1 h;exact ⟨i.toNat,by omega,hk,e⟩
structure EV (p:Prg) (e:Envt):Prop extends Shp p e where
 fm:∀(i:Nat) (v:Int),e.metaF[i]? =some v->0<=v/\v<2^(wid p (-1) i).toNat
 ff:∀(h i:Nat) (l:List Int) (v:Int),e.Xz[h]? =some l->l[i]? =some v->0<=v/\v<2^(wid p h i).toNat
 z:∀(h:Nat) (l:List Int),e.valid[h]? =some false->e.Xz[h]? =some l->∀v∈l,v=0
theorem yR (n:Nat):(0:Int)<2^n:=zY (by decide)
theorem PX (v:Int) (n:Nat):0<=v % 2^n/\v % 2^n<2^n:=⟨Int.emod_nonneg _ (Int.ne_of_gt (yR n)),TJ _ (yR n)⟩
theorem Shp.put {p:Prg} {e:Envt} (s:Shp p e) (h f v:Int):Shp p (ePut h f v e):=by
 unfold ePut;split
 ·exact ⟨s.v,s.f,by simp [s.m],s.g⟩
 ·refine ⟨s.v,by simp [s.f],s.m,fun i h1 h2=>?_⟩;have h1':i<e.Xz.length:=by simpa using h1
  have:=s.g i h1' h2;simp only [TP];split
  ·rename_i q;subst q;simp [vZ,h1',this]
  ·exact this
theorem EV.put {p:Prg} {e:Envt} (s:EV p e) {h f v:Int} (hs:eHas e h f=true) (hv:0<=v/\v<2^(wid p h f).toNat):EV p (ePut h f v e):=by
 refine ⟨s.toShp.put h f v,?_,?_,?_⟩
 ·unfold ePut;split
  ·rename_i q;subst q;simp only [eHas,if_true] at hs;obtain ⟨x,hx⟩:=zX.1 hs;obtain ⟨k,rfl,hk,rfl⟩:=iX hx;intro i v' hi;simp only [uW,List.getElem?_set] at hi;split at hi
   ·rename_i q;subst q;simp [hk] at hi;rw [<- hi];exact hv
   ·exact s.fm i v' hi
  ·exact s.fm
 ·unfold ePut;split
  ·exact s.ff
  ·rename_i q;simp only [eHas,QA q,d7] at hs;obtain ⟨x,hx⟩:=zX.1 hs.2;obtain ⟨l,hx1,hx2⟩:=Qt.1 hx;obtain ⟨m,rfl,hm,rfl⟩:=iX hx1;obtain ⟨k,rfl,hk,rfl⟩:=iX hx2;intro h' i l' v' hl hi;simp only [uW,List.getElem?_set] at hl;split at hl
   ·rename_i q2;subst q2;simp [hm,vZ] at hl;subst hl;simp only [List.getElem?_set] at hi;split at hi
    ·rename_i q3;subst q3;simp [hk] at hi;rw [<- hi];exact hv
    ·exact s.ff m i _ v' (Qa hm) hi
   ·exact s.ff h' i l' v' hl hi
 ·unfold ePut;split
  ·exact s.z
  ·rename_i q;simp only [eHas,QA q,d7] at hs;intro h' l' hv' hl;simp only [List.getElem?_set] at hl;split at hl
   ·rename_i q2;subst q2;have h1:=hs.1;obtain ⟨x,hx⟩:=zX.1 hs.2;obtain ⟨l,hx1,hx2⟩:=Qt.1 hx;obtain ⟨m,rfl,hm,rfl⟩:=iX hx1;simp at hv';simp [hv'] at h1
   ·exact s.z h' l' hv' hl
theorem EV.set {p:Prg} {e:Envt} (s:EV p e) (h f v:Int):EV p (eSet p e h f v):=by
 unfold eSet;split
 ·exact s
 ·rename_i q;simp only [not_or,Bool.not_eq_false] at q;exact s.put q.2 (PX v _)
theorem EV.sw {p:Prg} {e:Envt} (s:EV p e) (h:Nat) (b:Bool):EV p (eSw e h b):=by
 refine ⟨⟨by simp [eSw,s.v],by simp [eSw,s.f],s.m,fun i h1 h2=>?_⟩,s.fm,?_,?_⟩
 ·have h1':i<e.Xz.length:=by simpa [eSw] using h1
  have:=s.g i h1' h2;simp only [eSw,TP];split
  ·rename_i q;subst q;simp [vZ,h1',this]
  ·exact this
 ·intro h' i l' v' hl hi;simp only [eSw,List.getElem?_set] at hl;split at hl
  ·split at hl
   ·cases hl;rw [List.getElem?_map] at hi;obtain ⟨x,_,rfl⟩:=Qs.1 hi;exact ⟨Int.le_refl _,yR _⟩
   ·cases hl
  ·exact s.ff h' i l' v' hl hi
 ·intro h' l' hv' hl;simp only [eSw,List.getElem?_set] at hl hv';split at hl
  ·split at hl
   ·cases hl;intro v hv;obtain ⟨x,_,rfl⟩:=iU.1 hv;rfl
   ·cases hl
  ·rename_i q;rw [QA q] at hv';exact s.z h' l' hv' hl
theorem EV.add {p:Prg} {e:Envt} (s:EV p e) (h:Int):EV p (eAdd p e h):=by
 unfold eAdd;split
 ·exact s.sw _ _
 ·exact s
theorem EV.rem {p:Prg} {e:Envt} (s:EV p e) (h:Int):EV p (eRem p e h):=by
 unfold eRem;split
 ·exact s.sw _ _
 ·exact s
theorem EV.new (p:Prg):EV p (eNew p):=by
 refine ⟨⟨by simp [eNew],by simp [eNew],by simp [eNew],fun i h1 h2=>by simp [eNew]⟩,?_,?_,?_⟩
 ·intro i v hi;simp only [eNew,List.getElem?_map] at hi;obtain ⟨x,_,rfl⟩:=Qs.1 hi;exact ⟨Int.le_refl _,yR _⟩
 ·intro h i l v hl hi;simp only [eNew,List.getElem?_map] at hl;obtain ⟨x,_,rfl⟩:=Qs.1 hl;rw [List.getElem?_map] at hi;obtain ⟨x,_,rfl⟩:=Qs.1 hi;exact ⟨Int.le_refl _,yR _⟩
 ·intro h l _ hl v hv;simp only [eNew,List.getElem?_map] at hl;obtain ⟨x,_,rfl⟩:=Qs.1 hl;obtain ⟨x,_,rfl⟩:=iU.1 hv;rfl
theorem gv (d:List Int) (k:Nat):0<=zT d k/\zT d k<=1:=by
 unfold zT;omega
theorem SN (d:List Int) (i:Nat):∀w,0<=rdN d i w/\rdN d i w<2^w
 | 0=>by simp [rdN]
 | w+1=>by
  have ih:=SN d i w;have hb:=gv d (i+w);simp only [rdN,Int.pow_succ];omega
theorem VI (d:List Int):∀(l:List Fld) (i:Nat),(rdF d i l).length=l.length
 | [],_=>rfl
 | f::r,i=>by simp [rdF,VI d r]
theorem P4 (d:List Int):∀(l:List Fld) (i k:Nat) (v:Int),(rdF d i l)[k]? =some v->∃f,l[k]? =some f/\0<=v/\v<2^f.Yc.toNat
 | [],_,k,v,h=>by simp [rdF] at h
 | f::r,i,0,v,h=>by
  simp only [rdF,List.getElem?_cons_zero,Option.some.injEq] at h;subst h;exact ⟨f,rfl,SN d i _⟩
 | f::r,i,k+1,v,h=>by
  simp only [rdF,List.getElem?_cons_succ] at h ⊢;exact P4 d r _ k v h
theorem Q9 {p:Prg} {h i:Nat} {g:Xi} {f:Fld} (hg:p.Xo[h]? =some g) (hf:g.Xz[i]? =some f) (hw:1<=f.Yc/\f.Yc<=32):wid p h i=f.Yc:=by
 have q:¬((h:Int)= -1):=by omega
 have w0:wBad f.Yc=false:=by simp [wBad];omega
 simp [wid,decl,q,hg,hf,w0]
theorem EV.exH {p:Prg} (hw:∀g∈p.Xo,∀f∈g.Xz,1<=f.Yc/\f.Yc<=32) {d:List Int} {x y:Envt×Nat} {h:Int} (s:EV p x.1) (hx:exH p d x h=some y):EV p y.1:=by
 unfold Go.Av.exH at hx;split at hx
 ·cases hx
 rename_i g hg;split at hx
 ·cases hx
 cases hx;obtain ⟨m,rfl,hm,rfl⟩:=iX hg;refine ⟨⟨by simp [s.v],by simp [s.f],s.m,fun i h1 h2=>?_⟩,s.fm,?_,?_⟩
 ·have h1':i<x.1.Xz.length:=by simpa using h1
  have:=s.g i h1' h2;simp only [TP,uW];split
  ·rename_i q;subst q;rw [VI]
  ·exact this
 ·intro h' i l' v' hl hi;simp only [List.getElem?_set,uW] at hl;split at hl
  ·rename_i q;subst q;split at hl
   ·cases hl;obtain ⟨f,hf,k1,k2⟩:=P4 _ _ _ _ _ hi;rw [Q9 (Qa hm) hf (hw _ (Qd hm) _ (Qe hf))];exact ⟨k1,k2⟩
   ·cases hl
  ·exact s.ff h' i l' v' hl hi
 ·intro h' l' hv' hl;simp only [List.getElem?_set,uW] at hl hv';split at hl
  ·rename_i q;subst q;rw [a9 rfl] at hv';split at hv'<;>simp at hv'
  ·rename_i q;rw [QA q] at hv';exact s.z h' l' hv' hl
theorem EV.exHs {p:Prg} (hw:∀g∈p.Xo,∀f∈g.Xz,1<=f.Yc/\f.Yc<=32) {d:List Int}:∀(l:List Int) {x y:Envt×Nat},EV p x.1->exHs p d l x=some y->EV p y.1
 | [],x,y,s,h=>by cases h;exact s
 | a::l,x,y,s,h=>by
  obtain ⟨u,h1,h2⟩:=Qt.1 h;exact EV.exHs hw l (EV.exH hw s h1) h2
theorem EV.pay {p:Prg} {e:Envt} (s:EV p e) (l:List Int):EV p { e with payload:=l }:=⟨⟨s.v,s.f,s.m,s.g⟩,s.fm,s.ff,s.z⟩
theorem QO {p:Prg} (hw:∀g∈p.Xo,∀f∈g.Xz,1<=f.Yc/\f.Yc<=32) {d:List Int}:∀(n:Nat) (s:Int) {x:Envt×Nat} {e:Envt},EV p x.1->prF p d n s x=some e->EV p e/\∃k,e.payload=d.drop k
 | 0,s,x,e,_,h=>by cases h
 | n+1,s,x,e,v,h=>by
  simp only [prF] at h;split at h
  ·cases h;exact ⟨v.pay _,_,rfl⟩
  ·split at h
   ·cases h
   ·obtain ⟨u,h1,h2⟩:=Qt.1 h;exact QO hw n _ (v.exHs hw _ h1) h2
theorem W0 {p:Prg} (hw:∀g∈p.Xo,∀f∈g.Xz,1<=f.Yc/\f.Yc<=32) {d:List Int} {e:Envt} (h:prs p d=some e):EV p e/\d.length<=512/\∃k,e.payload=d.drop k:=by
 unfold prs at h;split at h
 ·cases h
 ·obtain ⟨h1,h2⟩:=QO hw _ _ (EV.new p) h;exact ⟨h1,by omega,h2⟩
theorem Envt.ce (e:Envt):e.c=[.slice 1 (e.valid.map cB),.slice 1 (e.Xz.map (cS 1 c32)),.slice 1 (e.metaF.map c32),.slice 1 (e.payload.map c8)]:=rfl
theorem ls (l:List (List AV)) (i:Int):a8 Φ 275 [.slice 1 l,a7 i]=some (.val (.bool (decide (0<=i/\i<l.length)))):=by
 rw [aB rfl rfl];by_cases h:0<=i
 ·obtain ⟨k,rfl⟩:=f9 h;by_cases h2:k<l.length<;>simp [BN,h2]
 ·simp [BN,h]
theorem Pw (l:List (List AV)) (i:Int):a8 Φ 405 [.slice 1 l,a7 i]=some (.val (.bool (decide (0<=i/\i<l.length)))):=by
 rw [aB rfl rfl];by_cases h:0<=i
 ·obtain ⟨k,rfl⟩:=f9 h;by_cases h2:k<l.length<;>simp [C5,h2]
 ·simp [C5,h]
theorem Px (l:List (List AV)) (i:Int):a8 Φ 404 [.slice 2 l,a7 i]=some (.val (.bool (decide (0<=i/\i<l.length)))):=by
 rw [aB rfl rfl];by_cases h:0<=i
 ·obtain ⟨k,rfl⟩:=f9 h;by_cases h2:k<l.length<;>simp [C4,h2]
 ·simp [C4,h]
theorem LA {G:Type} (l:List G) (i:Int):(at? l i).isSome=decide (0<=i/\i<l.length):=by
 by_cases h0:i<0
 ·have:¬0<=i:=by omega
  simp [cY h0,this]
 by_cases h1:(l.length:Int)<=i
 ·have:¬i<l.length:=by omega
  simp [cW h1,this]
 obtain ⟨m,rfl⟩:=f9 (show 0<=i by omega);have hm:m<l.length:=by omega
 simp [hm]
theorem QJ (l:List Bool) (i:Int):a8 Φ 277 [.slice 1 (l.map cB),a7 i]=some (.val (.bool ((at? l i).getD false))):=by
 rw [aB rfl rfl];by_cases h0:i<0
 ·simp [xP,h0,cY h0]
 by_cases h1:(l.length:Int)<=i
 ·simp [xP,h0,h1,cW h1]
 obtain ⟨m,rfl⟩:=f9 (show 0<=i by omega);have hm:m<l.length:=by omega
 have hm2:¬l.length<=m:=by omega
 simp [xP,hm,hm2,cB]
theorem A1 (a b:AV) (h:AH):aG Φ 276 [a,b] h=go Φ (finC cP.results) [.c cP.body] .normal ⟨iP 0 [a,b],h⟩:=eQ rfl rfl
def elL (e:Envt) (h:Int):List Int:=if h= -1 then e.metaF else (at? e.Xz h).getD []
theorem Jx (e:Envt) (h f:Int):a8 Φ 173 [.agg (Envt.c e),.agg [a7 h,a7 f]]=some (.val (.tup [.slice 1 ((elL e h).map c32),.bool (eHas e h f)])):=by
 rw [aB rfl rfl];have hi:=ls;by_cases hm:h= -1
 ·subst hm;simp [gE,Envt.ce,hi,elL,eHas,LA]
 have hv:=QJ e.valid h;by_cases h0:h<0
 ·rw [cY h0] at hv;simp [gE,Envt.ce,hm,elL,eHas,A1,cP,h0,cY h0,hv]
 by_cases h1:(e.Xz.length:Int)<=h
 ·simp [gE,Envt.ce,hm,elL,eHas,A1,cP,h0,h1,cW h1,hv];cases (at? e.valid h).getD false<;>simp [hi]
 obtain ⟨m,rfl⟩:=f9 (show 0<=h by omega);have hmk:m<e.Xz.length:=by omega
 have hm2:¬e.Xz.length<=m:=by omega
 cases q:(at? e.valid (m:Int)).getD false<;>rw [q] at hv<;>(try simp at q)<;>simp [gE,Envt.ce,elL,eHas,hm,A1,cP,hm2,hmk,cS,hv,hi,LA,q]
theorem VV (e:Envt) (h f:Int):a8 Φ 279 [.agg (Envt.c e),.agg [a7 h,a7 f]]=some (.val (.int .u32 (eGet e h f))):=by
 rw [aB rfl rfl];have h1:=Jx e h f;rw [Envt.ce] at h1;cases q:eHas e h f with
 | false=>
  rw [q] at h1;have:eGet e h f=0:=by
   unfold eGet eHas at*;split
   ·rename_i hm;rw [a9 hm] at q;cases z:at? e.metaF f with
    | none=>rfl
    | some v=>rw [z] at q;cases q
   ·rename_i hm;rw [QA hm] at q;split
    ·rename_i hv;rw [hv,KD] at q;cases z:(at? e.Xz h).bind fun l=>at? l f with
     | none=>rfl
     | some v=>rw [z] at q;cases q
    ·rfl
  simp [BO,Envt.ce,h1,this]
 | true=>
  rw [q] at h1;have:∃k:Nat,f=k/\∃hk:k<(elL e h).length,(elL e h)[k]=eGet e h f:=by
   unfold eGet eHas elL at*;split
   ·rename_i hm;rw [a9 hm] at q;obtain ⟨v,hv⟩:=zX.1 q;obtain ⟨k,rfl,hk,rfl⟩:=iX hv;exact ⟨k,rfl,hk,by simp [hv]⟩
   ·rename_i hm;rw [QA hm] at q;simp only [d7] at q;rw [a9 q.1];obtain ⟨v,hv⟩:=zX.1 q.2;obtain ⟨l,h2,h3⟩:=Qt.1 hv;obtain ⟨k,rfl,hk,rfl⟩:=iX h3;exact ⟨k,rfl,by simp [h2,hk],by simp [h2,hk]⟩
  obtain ⟨k,rfl,hk,he⟩:=this;simp [BO,Envt.ce,h1,hk,he,c32]
theorem jk {p:Prg} {e:Envt} (v:EV p e) (hw:∀h f,wid p h f<=32) (h f:Int):ok32 0 (eGet e h f):=by
 unfold eGet;split
 ·cases z:at? e.metaF f with
  | none=>simp [ok32]
  | some x=>
   obtain ⟨k,rfl,hk,rfl⟩:=iX z;have:=v.fm k _ (Qa hk);have hw:=hw (-1) k;exact nW this (by omega)
 ·split
  ·cases z:(at? e.Xz h).bind fun l=>at? l f with
   | none=>simp [ok32]
   | some x=>
    obtain ⟨l,h2,h3⟩:=Qt.1 z;obtain ⟨m,rfl,hm,rfl⟩:=iX h2;obtain ⟨k,rfl,hk,rfl⟩:=iX h3;have:=v.ff m k _ _ (Qa hm) (Qa hk);have hw:=hw m k;exact nW this (by omega)
  ·simp [ok32]
theorem DL (p:Prg) (h f:Int):0<=wid p h f/\wid p h f<=32:=by
 unfold wid;split
 ·split
  ·simp
  ·rename_i w _ q;have:=CM (by simpa using q);omega
 ·simp
set_option maxRecDepth 6000
theorem un_ok (x:Xd) (hx:ari x.op=1) (a w:Int) (ha:fitW a w) (hc:(comb x w 0 0).2=0):a8 Φ 360 [.agg (Xd.c x),.agg [.int .u32 a,a7 w]]=some (.val (.agg [.int .u32 (xUn x a w),a7 (comb x w 0 0).1])):=by
 rw [aB rfl rfl];obtain ⟨op,n,u⟩:=x;have hf:=ha;obtain ⟨w1,w2,a1⟩:=ha;rcases jc hx with o | o | o | o<;>simp only at o<;>subst o
 ·have e:comb ⟨5,n,u⟩ w 0 0=(w,0):=by simp [comb,ari]
  simp [vP,Xd.e,Jc hf,xUn,e]
 ·have e:(0<=n/\n<=31)/\(comb ⟨6,n,u⟩ w 0 0).1=w:=by
   unfold comb at*;rw [a9 (by simp)] at hc ⊢;split
   ·rename_i c;rw [a9 c] at hc;cases hc
   ·exact ⟨by simp only at*;omega,rfl⟩
  simp [vP,Xd.e,Ho w1 w2 e.1.1 e.1.2,xUn,e.2]
 ·have e:(0<=n/\n<=31)/\(comb ⟨7,n,u⟩ w 0 0).1=w:=by
   unfold comb at*;rw [a9 (by simp)] at hc ⊢;split
   ·rename_i c;rw [a9 c] at hc;cases hc
   ·exact ⟨by simp only at*;omega,rfl⟩
  simp [vP,Xd.e,Hp hf e.1.1 e.1.2,xUn,e.2]
 ·have e:(0<=n/\n+u<=32/\1<=u/\u<=32)/\(comb ⟨8,n,u⟩ w 0 0).1=u:=by
   unfold comb at*;rw [QA (by simp),a9 rfl] at hc ⊢;split
   ·rename_i c;rw [a9 c] at hc;cases hc
   rename_i c;rw [QA c] at hc;split
   ·rename_i c;rw [a9 c] at hc;cases hc
   ·rename_i c2;simp only [not_or,OJ] at c c2;have:=CM c2.1;exact ⟨by omega,rfl⟩
  simp [vP,Xd.e,ZX (nW a1 (by omega)) e.1.2.2.1 e.1.2.2.2 e.1.1 e.1.2.1,xUn,e.2]
theorem wo (b:Bool):a8 Φ 397 [.bool b]=some (.val (.agg [.int .u32 (if b then 1 else 0),a7 1])):=by
 rw [aB rfl rfl];cases b<;>simp [J1]
theorem Ou (x:Xd) (hx:ari x.op=2) (a b w u:Int) (ha:fitW a w) (hb:fitW b u) (hc:(comb x w u 0).2=0):a8 Φ 361 [a7 x.op,.agg [.int .u32 a,a7 w],.agg [.int .u32 b,a7 u]]=some (.val (.agg [.int .u32 (xBin x.op a b w u),a7 (comb x w u 0).1])):=by
 rw [aB rfl rfl];obtain ⟨op,n,z⟩:=x;have o:=jd hx;obtain ⟨w1,w2,a1⟩:=id ha;simp only at o;by_cases o14:op=14
 ·subst o14;have e:(comb ⟨14,n,z⟩ w u 0).1=w+u/\1<=w+u/\w+u<=32:=by
   unfold comb at*;rw [QA (by simp),QA (by simp),a9 rfl] at hc ⊢;exact EX hc
  have hw:IntKind.wrap .i64 (w+u)=w+u:=aQ;simp [lW,Jb ha hb e.2.2,xBin,e.1,hw]
 have e:w=u/\(comb ⟨op,n,z⟩ w u 0).1=if op=15\/op=16 then 1 else w:=by
  unfold comb at*;rw [QA (by simp;omega),QA (by simp;omega),QA o14,QA (by simp;omega)] at hc ⊢;split
  ·rename_i c;rw [a9 c] at hc;cases hc
  ·rename_i c;refine ⟨Decidable.byContradiction fun q=>c ⟨hx,q⟩,?_⟩;simp only;split<;>rfl
 obtain ⟨rfl,e⟩:=e;rw [e];have t1:=wo (decide (a=b));have t2:=wo (decide (a<b));have:op=9\/op=10\/op=11\/op=12\/op=13\/op=15\/op=16:=by omega
 rcases this with rfl | rfl | rfl | rfl | rfl | rfl | rfl
 ·simp [lW,Ja w1 w2,xBin]
 ·simp [lW,Hq w1 w2,xBin]
 ·simp [lW,xBin]
 ·simp [lW,xBin]
 ·simp [lW,xBin]
 ·simp at t1;simp [lW,xBin,t1]
 ·simp at t2;simp [lW,xBin,t2]
def mchC (p:Prg) (ps:List Fld) (e:Envt) (args:List Int) (l:List Xd) (i:Int):List AV:=
 Prg.c p++[.slice 2 (ps.map Fld.c)]++e.c++[.slice 1 (args.map c32),.slice 3 (l.map Xd.c),a7 i]
theorem CT (p:Prg) (ps:List Fld) (e:Envt) (args:List Int) (l:List Xd) (i:Int):mchC p ps e args l i=(uO p [.slice 2 (ps.map Fld.c),.slice 1 (e.valid.map cB),.slice 1 (e.Xz.map (cS 1 c32)),.slice 1 (e.metaF.map c32),.slice 1 (e.payload.map c8),.slice 1 (args.map c32),.slice 3 (l.map Xd.c),a7 i]):=by
  simp [mchC,Prg.e,Envt.ce]
theorem ld_ok (p:Prg) (ps:List Fld) (e:Envt) (args:List Int) (l:List Xd) (i:Int) (x:Xd) (hx:ari x.op=0) (hc:(prim p ps x).2=0) (hg:∀h f,ok32 0 (eGet e h f)) (ha:∀v∈args,ok32 0 v):
  a8 Φ 359 [.iptr 17 [mchC p ps e args l i] 0 0,.agg (Xd.c x)]=some (.val (.agg [.int .u32 (xLd e args x (prim p ps x).1),a7 (prim p ps x).1])):=by
 rw [aB rfl rfl];have hp:=qt p ps x;have hw:=VZ hc;simp only [scC,Prg.e,oY,yY] at hp;rw [hc] at hp;obtain ⟨op,n,z⟩:=x;have ho:op=1\/op=2\/op=3\/op=4:=by
  simp only [ari] at hx;split at hx
  ·omega
  split at hx
  ·cases hx
  split at hx
  ·cases hx
  split at hx<;>cases hx
 simp only [Xd.e] at hp;have hz:ok32 0 0:=by simp [ok32]
 rcases ho with rfl | rfl | rfl | rfl
 ·have e:prim p ps ⟨1,n,z⟩=(z,0)/\0<=n/\n<2^z.toNat:=by
   simp only [prim,if_true] at hc ⊢;split
   ·rename_i c;rw [a9 c] at hc;cases hc
   rename_i c;rw [QA c] at hc;split
   ·rename_i c;rw [a9 c] at hc;cases hc
   ·exact ⟨rfl,by omega,by omega⟩
  obtain ⟨e,n0,n1⟩:=e;rw [e] at hp hw ⊢;have hn:ok32 0 n:=nW (k:=z.toNat) ⟨n0,n1⟩ (by simp only at hw;omega);have hi:=w4 hn hw.1 hw.2;have hwr:IntKind.wrap .u32 n=n:=sQ hn.1 (by have:=hn.2;omega);simp at hp;simp [rN,CT,Xd.e,hp,nZ,hwr,hi,xLd]
 ·have pe:prim p ps ⟨2,n,z⟩=match decl p n z with | some w=>wide w | none=>(0,8):=by simp [prim];rfl
  have e:∃w,prim p ps ⟨2,n,z⟩=(w,0):=by
   rw [pe] at hc ⊢;split
   ·rename_i w q;rw [q] at hc;exact ⟨w,Prod.ext (EX hc).1 hc⟩
   ·rename_i q;rw [q] at hc;cases hc
  obtain ⟨w,e2⟩:=e;rw [e2] at hp hw ⊢;have hi:=w4 (hg n z) hw.1 hw.2;have h2:=VV e n z;rw [Envt.ce] at h2;simp only at hp;simp [rN,CT,Xd.e,hp,nZ,h2,hi,xLd]
 ·have pe:prim p ps ⟨3,n,z⟩=match at? ps n with | some f=>wide f.Yc | none=>(0,8):=by simp [prim];rfl
  have e:∃w,0<=n/\prim p ps ⟨3,n,z⟩=(w,0):=by
   rw [pe] at hc ⊢;split
   ·rename_i w q;rw [q] at hc;obtain ⟨k,rfl,_⟩:=iX q;exact ⟨_,by omega,Prod.ext (EX hc).1 hc⟩
   ·rename_i q;rw [q] at hc;cases hc
  obtain ⟨w,n0,e2⟩:=e;rw [e2] at hp hw ⊢;obtain ⟨k,rfl⟩:=f9 n0;simp only at hp;by_cases hk:k<args.length
  ·have hi:=w4 (ha _ (Qd hk)) hw.1 hw.2;simp [rN,CT,Xd.e,hp,nZ,hk,hi,xLd,c32]
  ·have hi:=w4 hz hw.1 hw.2;simp [rN,CT,Xd.e,hp,nZ,hk,hi,xLd]
 ·have pe:prim p ps ⟨4,n,z⟩=if (at? p.Xo n).isSome then (1,0) else (0,8):=by simp [prim]
  have e:0<=n/\prim p ps ⟨4,n,z⟩=(1,0):=by
   rw [pe] at hc ⊢;split
   ·rename_i q;rw [LA] at q;simp only [decide_eq_true_eq] at q;exact ⟨q.1,rfl⟩
   ·rename_i q;rw [QA q] at hc;cases hc
  obtain ⟨n0,e2⟩:=e;rw [e2] at hp hw ⊢;obtain ⟨k,rfl⟩:=f9 n0;have h1:ok32 0 1:=by simp [ok32]
  have hi0:=w4 hz (w:=1) (by decide) (by decide);have hi1:=w4 h1 (w:=1) (by decide) (by decide);simp only at hp;by_cases hk:k<e.valid.length
  ·cases q:e.valid[k]<;>simp [rN,CT,Xd.e,hp,nZ,hk,q,hi0,hi1,xLd,cB]
  ·simp [rN,CT,Xd.e,hp,nZ,hk,hi0,xLd]
theorem aC (t:Nat) (a b:List (Nat×AO)):look t (a++b)=(look t a).or (look t b):=ML t a b
theorem aA (j t:Nat) (y:AO):∀O:List (Nat×AO),look j (setl t y O)=if j=t then (look t O).map (fun _=>y) else look j O
 | []=>by simp
 | (u,w)::r=>by
  have ih:=aA j t y r;by_cases hu:u=t
  ·subst hu;by_cases hj:j=u
   ·subst hj;simp
   ·have:¬u=j:=fun h=>hj h.symm
    simp [hj,this]
  ·by_cases hj:j=t
   ·subst hj;simp [hu];simpa using ih
   ·by_cases hv:u=j
    ·subst hv;simp [hu]
    ·simp [hu,hv,hj];simpa [hj] using ih
theorem jA {j t:Nat} (h:j≠t):∀O:List (Nat×AO),look j (dropl t O)=look j O
 | []=>by simp
 | (u,w)::r=>by
  have ih:=jA h r;by_cases hu:u=t
  ·subst hu;have:¬u=j:=fun e=>h e.symm
   simp [this]
  ·by_cases hv:u=j
   ·subst hv;simp [hu]
   ·simp [hu,hv,ih]
theorem Zb {j t:Nat}:∀O:List (Nat×AO),look j O=none->look j (dropl t O)=none
 | [],_=>by simp
 | (u,w)::r,h=>by
  by_cases hv:u=j
  ·subst hv;simp at h
  ·simp [hv] at h;have ih:=Zb (t:=t) r h;by_cases hu:u=t
   ·subst hu;simpa using h
   ·simp [hu,hv,ih]
theorem N5 {j:Nat}:∀{O:List (Nat×AO)},look j O≠some .res->look j (eT O)=look j O
 | [],_=>by simp
 | (u,w)::r,h=>by
  by_cases hv:u=j
  ·subst hv;simp at h;cases w<;>simp at h ⊢
  ·simp [hv] at h;have ih:=N5 h;cases w<;>simp [hv,ih]
section
variable (z t i o n:Nat) (es:List (List AV))
@[simp] theorem a1L:lenOf (.slice z es)=some es.length:=rfl
@[simp] theorem a1J:lenOf (.Xt z es)=some es.length:=rfl
@[simp] theorem a1I:lenOf (.app z es t)=some es.length:=rfl
@[simp] theorem a1K:lenOf (.row t z o n)=some n:=rfl
@[simp] theorem a0U (cs:List AV):AV.cells (.agg cs)=some cs:=rfl
@[simp] theorem a0V (k:IntKind) (x:Int):AV.cells (.int k x)=some [.int k x]:=rfl
@[simp] theorem a0l (b:Bool):AV.cells (.bool b)=some [.bool b]:=rfl
@[simp] theorem a0Y (b:List UInt8):AV.cells (.str b)=some [.str b]:=rfl
@[simp] theorem yj:AV.cells .nilptr=some [.nilptr]:=rfl
@[simp] theorem xq:AV.cells .nilmap=some [.nilmap]:=rfl
@[simp] theorem a1r:AV.cells (.slice z es)=some [.slice z es]:=rfl
@[simp] theorem a1p:AV.cells (.Xt z es)=some [.Xt z es]:=rfl
@[simp] theorem a0R:AV.cells (.app z es t)=some [.app z es t]:=rfl
@[simp] theorem a1q:AV.cells (.row t z o n)=some [.row t z o n]:=rfl
@[simp] theorem a0X:AV.cells (.ptr t z o n)=some [.ptr t z o n]:=rfl
@[simp] theorem a0n:AV.cells (.iptr z es o n)=some [.iptr z es o n]:=rfl
@[simp] theorem a0W:AV.cells (.map t)=some [.map t]:=rfl
@[simp] theorem a0m (f:Fn) (a b:List AV):AV.cells (.func f a b)=some [.func f a b]:=rfl
end
theorem Tail_append_iff {a b:List (Nat×AO)} {n:Nat}:Tail (a++b) n↔Tail a n/\Tail b n:=by
 constructor
 ·intro h;refine ⟨fun j hj=>?_,fun j hj=>?_⟩
  ·have:=h j hj;rw [aC] at this;cases hl:look j a with
   | none=>rfl
   | some x=>rw [hl] at this;cases this
  ·have:=h j hj;rw [aC] at this;cases hl:look j a with
   | none=>rw [hl] at this;simpa using this
   | some x=>rw [hl] at this;cases this
 ·rintro ⟨h1,h2⟩ j hj;rw [aC,h1 j hj,h2 j hj];rfl
theorem Tail_cons_iff {u n:Nat} {x:AO} {r:List (Nat×AO)}:Tail ((u,x)::r) n↔u<n/\Tail r n:=by
 constructor
 ·intro h;have hu:u<n:=by
   refine Decidable.byContradiction fun hc=>?_
   have:=h u (by omega);simp at this
  refine ⟨hu,fun j hj=>?_⟩;have:=h j hj;have hne:¬u=j:=by omega
  simpa [hne] using this
 ·rintro ⟨h1,h2⟩ j hj;have hne:¬u=j:=by omega
  simp [hne,h2 j hj]
theorem bB {t n:Nat} {y:AO} {O:List (Nat×AO)} (h:Tail O n):Tail (setl t y O) n:=by
 intro j hj;rw [aA];split
 ·rename_i e;rw [<- e,h j hj];rfl
 ·exact h j hj
theorem JF {t n:Nat} {O:List (Nat×AO)} (h:Tail O n):Tail (dropl t O) n:=fun j hj=>Zb _ (h j hj)
theorem Tail.lt {O:List (Nat×AO)} {n j:Nat} {x:AO} (h:Tail O n) (hl:look j O=some x):j<n:=by
 refine Decidable.byContradiction fun hc=>?_
 rw [h j (by omega)] at hl;cases hl
def Kp (X:Nat->Prop) (N:Nat) (O O':List (Nat×AO)):Prop:=∀j,j<N->¬X j->look j O'=look j O
theorem Kp.refl {X:Nat->Prop} {N:Nat} {O:List (Nat×AO)}:Kp X N O O:=fun _ _ _=>rfl
theorem Kp.trans {X:Nat->Prop} {N N':Nat} {O O' O'':List (Nat×AO)} (h:Kp X N O O') (h2:Kp X N' O' O'') (hn:N<=N'):Kp X N O O'':=
 fun j hj hx=>(h2 j (by omega) hx).trans (h j hj hx)
theorem Kp.mono {X Y:Nat->Prop} {N:Nat} {O O':List (Nat×AO)} (h:Kp X N O O') (hx:∀j,j<N->X j->Y j):Kp Y N O O':=
 fun j hj hy=>h j hj fun hc=>hy (hx j hj hc)
section
variable {Φ:FuncId->Option AFun} {I:Type} {fin:Option (Ex×St)->Option I}
theorem KZ {Z:Type} (m:Z->Nat) (Inv:Z->Env->AH->Prop) (R:Z->Option I->Prop) {b:Xu} {K:List Go.Av.Fr}
  (step:∀x e h L,(∀j s,go Φ fin L (.exit j) s=go Φ fin K (.exit j) s)->Inv x e h->(∀y e' h',m y<m x->Inv y e' h'->R y (go Φ fin L .normal ⟨e',h'⟩))->R x (go Φ fin (.c b::L) .normal ⟨e,h⟩)):
  ∀x e h,Inv x e h->R x (go Φ fin (.c (.loop b)::K) .normal ⟨e,h⟩):=by
 have key:∀n x e h,m x<=n->Inv x e h->R x (go Φ fin (.c (.loop b)::K) .normal ⟨e,h⟩):=by
  intro n
  induction n with
  | zero=>
   intro x e h hn hi;rw [aT];exact step x e h _ (fun j s=>by simp) hi fun y e' h' hlt=>by omega
  | succ n ih=>
   intro x e h hn hi;rw [aT];exact step x e h _ (fun j s=>by simp) hi fun y e' h' hlt hy=>ih y e' h' (by omega) hy
 intro x e h hi;exact key (m x) x e h (Qb _) hi
theorem cC (N:Nat) (Inv:Nat->Env->AH->Prop) (Q:Option I->Prop) {b:Xu} {K:List Go.Av.Fr}
  (step:∀i e h L,i<N->(∀j s,go Φ fin L (.exit j) s=go Φ fin K (.exit j) s)->Inv i e h->(∀e' h',Inv (i+1) e' h'->Q (go Φ fin L .normal ⟨e',h'⟩))->Q (go Φ fin (.c b::L) .normal ⟨e,h⟩))
  (last:∀e h L,(∀j s,go Φ fin L (.exit j) s=go Φ fin K (.exit j) s)->Inv N e h->Q (go Φ fin (.c b::L) .normal ⟨e,h⟩)):
  ∀i e h,i<=N->Inv i e h->Q (go Φ fin (.c (.loop b)::K) .normal ⟨e,h⟩):=by
 intro i e h hi hinv;refine KZ (Z:={ i:Nat // i<=N }) (fun x=>N - x.1) (fun x=>Inv x.1) (fun _=>Q) ?_ ⟨i,hi⟩ e h hinv;intro ⟨i,hi⟩ e h L hL hinv ih;rcases Nat.lt_or_eq_of_le hi with hlt | heq
 ·exact step i e h L hlt hL hinv fun e' h' hi'=>ih ⟨i+1,hlt⟩ e' h' (by simp;omega) hi'
 ·subst heq;exact last e h L hL hinv
end
def vid:AV->Option Nat
 | .row id _ _ _=>some id
 | _=>none
inductive Mu (O:List (Nat×AO)) (z:Nat):AV->List (List AV)->Prop
 | nilF:Mu O z (.Xt z []) []
 | nilA (t:Nat):Mu O z (.app z [] t) []
 | row (id:Nat) (es es0:List (List AV)) (n:Nat) (hn:n=es.length) (hl:look id O=some (.row z es0)) (hle:es.length<=es0.length) (ht:es0.take es.length=es):Mu O z (.row id z 0 n) es
theorem Mu.len {O:List (Nat×AO)} {z:Nat} {v:AV} {es:List (List AV)} (h:Mu O z v es):lenOf v=some es.length:=by
 cases h with
 | nilF=>rfl
 | nilA=>rfl
 | row id _ es0 n hn=>subst hn;rfl
theorem Mu.fr {O O':List (Nat×AO)} {z:Nat} {v:AV} {es:List (List AV)} (h:Mu O z v es) (hf:∀j,vid v=some j->look j O'=look j O):Mu O' z v es:=by
 cases h with
 | nilF=>exact .nilF
 | nilA=>exact .nilA _
 | row id _ es0 n hn hl hle ht=>exact .row id es es0 n hn (by rw [hf id rfl,hl]) hle ht
theorem Mu.snp {O:List (Nat×AO)} {z N n:Nat} {v:AV} {es:List (List AV)} (h:Mu O z v es):snap (n+1) ⟨O,N⟩ v=(mapO (mapO (snap n ⟨O,N⟩)) es).map (.slice z):=by
 cases h with
 | nilF=>simp
 | nilA=>simp
 | row id _ es0 k hn hl hle ht=>
  subst hn;simp [hl,hle,ht]
inductive Re (O:List (Nat×AO)) (z:Nat):AV->List (List AV)->Prop
 | sl (es:List (List AV)):Re O z (.slice z es) es
 | fs (es:List (List AV)):Re O z (.Xt z es) es
 | ap (es:List (List AV)) (t:Nat):Re O z (.app z es t) es
 | row (id:Nat) (es es0:List (List AV)) (n:Nat) (hn:n=es.length) (hl:look id O=some (.row z es0)) (hle:es.length<=es0.length) (ht:es0.take es.length=es):Re O z (.row id z 0 n) es
theorem Mu.re {O:List (Nat×AO)} {z:Nat} {v:AV} {es:List (List AV)} (h:Mu O z v es):Re O z v es:=by
 cases h with
 | nilF=>exact .fs []
 | nilA=>exact .ap [] _
 | row id _ es0 n hn hl hle ht=>exact .row id es es0 n hn hl hle ht
theorem Re.fr {O O':List (Nat×AO)} {z:Nat} {v:AV} {es:List (List AV)} (h:Re O z v es) (hf:∀j,vid v=some j->look j O'=look j O):Re O' z v es:=by
 cases h with
 | sl=>exact .sl es
 | fs=>exact .fs es
 | ap=>exact .ap es _
 | row id _ es0 n hn hl hle ht=>exact .row id es es0 n hn (by rw [hf id rfl,hl]) hle ht
theorem Re.len {O:List (Nat×AO)} {z:Nat} {v:AV} {es:List (List AV)} (h:Re O z v es):lenOf v=some es.length:=by
 cases h with
 | sl=>rfl
 | fs=>rfl
 | ap=>rfl
 | row id _ es0 n hn=>subst hn;rfl
theorem Re.snp {O:List (Nat×AO)} {z N n:Nat} {v:AV} {es:List (List AV)} (h:Re O z v es) (he:mapO (mapO (snap n ⟨O,N⟩)) es=some es):snap (n+1) ⟨O,N⟩ v=some (.slice z es):=by
 cases h with
 | sl=>simp
 | fs=>simp
 | ap=>simp
 | row id _ es0 k hn hl hle ht=>
  subst hn;simp [hl,hle,ht,he]
theorem Re.cells {O:List (Nat×AO)} {z:Nat} {v:AV} {es:List (List AV)} (h:Re O z v es):v.cells=some [v]:=by
 cases h<;>rfl
theorem Mu.cells {O:List (Nat×AO)} {z:Nat} {v:AV} {es:List (List AV)} (h:Mu O z v es):v.cells=some [v]:=h.re.cells
def zU (p:Prg) (x:Tbl) (i:Nat):Option Int:=(x.Xx[i]?).bind fun a=>if a<0\/(p.Xx.length:Int)<=a then some (8:Int) else if (x.Xx.take i).contains a then some 7 else none
def AF (p:Prg) (x:Tbl):Int:=if x.Xx.contains x.Yb.Xy then nV p x.Yb else 8
theorem wm (p:Prg) (x:Tbl):K6 p x=(fe (zU p x) x.Xx.length 0).getD (AF p x):=by
 unfold K6;show (match fe (zU p x) x.Xx.length 0 with | some e=>e | none=>AF p x)=_;cases fe (zU p x) x.Xx.length 0<;>rfl
theorem Hl (p:Prg) (f:PrgS p) (x:Tbl) (hl:x.Xx.length<2^40) (hg:x.Yb.args.length<2^40):a8 Φ 239 [.agg (Prg.c p),.agg (Tbl.c x)]=some (.val (a7 (K6 p x))):=by
 rw [aB rfl rfl,wm];simp [GH,Prg.e,Tbl.e];refine JK x.Xx.length (fun i e H=>look 2 e=some (.iptr 9 [Prg.c p] 0 0)/\look 3 e=some (.iptr 6 [Tbl.c x] 0 0)/\look 5 e=some (.map 0)/\look 10 e=some (.slice 1 (x.Xx.map cI))/\look 11 e=some (a7 x.Xx.length)/\look 12 e=some (a7 i)/\
   H=⟨[(0,.map (setM (x.Xx.take i)))],1⟩)
  (fun i=>some (Rt.val (a7 ((fe (zU p x) x.Xx.length i).getD (AF p x))))) ?_ ?_ 0 _ _ (Qc _) ?_
 ·rintro i e _ L hi hL ⟨h2,h3,h5,h10,h11,h12,rfl⟩ ih;have hw:=aF i (by omega);rw [Prg.e] at h2;by_cases z0:x.Xx[i]<0
  ·rw [aJ (x:=8) hi (by simp [zU,hi,z0])];simp [bU,cI,h10,h11,h12,hi,z0]
  by_cases z1:(p.Xx.length:Int)<=x.Xx[i]
  ·rw [aJ (x:=8) hi (by simp [zU,hi,z0,z1])];simp [bU,cI,h2,h10,h11,h12,hi,z0,z1]
  have hfnd:=fo x.Xx[i] (x.Xx.take i);cases q:(x.Xx.take i).contains x.Xx[i] with
  | true=>
   rw [q] at hfnd;rw [aJ (x:=7) hi (by simp only [zU,Qa hi,dI];rw [QA (by omega),q];rfl)];simp [bU,cI,h2,h5,h10,h11,h12,hi,z0,z1,hfnd]
  | false=>
   rw [q] at hfnd;have hput:=xf x.Xx[i] (x.Xx.take i) q;rw [<- Qh hi] at hput;rw [bP hi (by simp only [zU,Qa hi,dI];rw [QA (by omega),q];rfl)];simp [bU,cI,h2,h5,h10,h11,h12,hi,z0,z1,hfnd,hput,hw];exact ih _ _ ⟨by simp [h2,Prg.e],by simp [h3],by simp [h5],by simp [h10],by simp [h11],by simp,rfl⟩
 ·rintro e _ L hL ⟨h2,h3,h5,h10,h11,h12,rfl⟩;rw [d6,fF];have hfnd:=fo x.Yb.Xy x.Xx;have hc:=UP p f x.Yb hg;simp only [Prg.e,Xb.e] at hc;rw [Prg.e] at h2;rw [Tbl.e] at h3;cases q:x.Xx.contains x.Yb.Xy with
  | true=>
   rw [q] at hfnd;rw [show AF p x=nV p x.Yb by simp only [AF,q];rfl];simp [bU,kT,h2,h3,h5,h11,h12,hL,hfnd,hc]
  | false=>
   rw [q] at hfnd;rw [show AF p x=8 by simp only [AF,q];rfl];simp [bU,kT,h3,h5,h11,h12,hL,hfnd]
 ·simp [Prg.e,Tbl.e,setM]
theorem ki (p:Prg) (f:PrgS p) (t:Int):a8 Φ 139 [.agg (Prg.c p),a7 t]=some (.val (.tup [a7 (tblE p t).1,a7 (tblE p t).2])):=by
 rw [aB rfl rfl];by_cases i0:t<0
 ·simp [fV,Prg.e,i0,tblE,cY i0]
 by_cases i1:(p.Xm.length:Int)<=t
 ·simp [fV,Prg.e,i0,i1,tblE,cW i1]
 obtain ⟨k,rfl⟩:∃k:Nat,t=k:=⟨t.toNat,by omega⟩;have hk:k<p.Xm.length:=by omega
 have hm:=Qd hk;have n1:=JE p.Xm[k].name (f.tn _ hm);have h1:=Dh p p.Xm[k] (f.tk _ hm);have h2:=Hl p f p.Xm[k] (f.ta _ hm) (f.tg _ hm);simp only [Prg.e,Tbl.e] at h1 h2;cases q1:idS p.Xm[k].name with
 | false=>rw [q1] at n1;simp [fV,Prg.e,Tbl.e,hk,Qf.2 hk,n1,tblE,q1]
 | true=>
 rw [q1] at n1;by_cases z0:6<p.Xm[k].keys.length
 ·simp [fV,Prg.e,Tbl.e,hk,Qf.2 hk,n1,tblE,q1,z0]
 by_cases z1:16<p.Xm[k].Xx.length
 ·simp [fV,Prg.e,Tbl.e,hk,Qf.2 hk,n1,tblE,q1,z0,z1]
 by_cases z2:p.Xm[k].size<1
 ·simp [fV,Prg.e,Tbl.e,hk,Qf.2 hk,n1,tblE,q1,z0,z1,z2]
 by_cases z3:256<p.Xm[k].size
 ·simp [fV,Prg.e,Tbl.e,hk,Qf.2 hk,n1,tblE,q1,z0,z1,z2,z3]
 by_cases y1:(yU p p.Xm[k]).2=0
 rotate_left
 ·simp [fV,Prg.e,Tbl.e,hk,Qf.2 hk,n1,tblE,q1,z0,z1,z2,z3,h1,y1]
 rw [y1] at h1;by_cases y2:K6 p p.Xm[k]=0
 ·rw [y2] at h2;simp [fV,Prg.e,Tbl.e,hk,Qf.2 hk,n1,tblE,q1,z0,z1,z2,z3,h1,y1,h2,y2]
 ·simp [fV,Prg.e,Tbl.e,hk,Qf.2 hk,n1,tblE,q1,z0,z1,z2,z3,h1,y1,h2,y2]
theorem B' (x y:BitVec 32):x&&& ~~~y=0#32↔x&&& y=x:=by
 constructor
 ·intro h;apply BitVec.eq_of_getLsbD_eq;intro i hi;have:=congrArg (·.getLsbD i) h;simp [hi] at this ⊢;exact this
 ·intro h;apply BitVec.eq_of_getLsbD_eq;intro i hi;have:=congrArg (·.getLsbD i) h;simp [hi] at this ⊢;exact this
theorem lz {n:Int} (h1:0<=n:=by omega) (h2:n<4294967296:=by omega):IntKind.wrap .u32 n=n:=by
 have e1:(2:Int)^32=4294967296:=rfl;simp only [IntKind.wrap,IntKind.bits,IntKind.signed,MC,e1];rw [QA (by simp)];omega
theorem VD {v:Int} (h:ok32 0 v):BitVec.ofInt 32 v=BitVec.ofNat 32 v.toNat:=by
 obtain ⟨h1,h2⟩:=h;apply BitVec.eq_of_toNat_eq;simp;omega
theorem od {v m:Int} (hv:ok32 0 v) (hm:ok32 0 m):LP .u32 v m=0↔v.toNat&&& m.toNat=v.toNat:=by
 have hv2:=hv.2;have hm2:=hm.2;unfold LP;show IntKind.wrap .u32 ((BitVec.ofInt 32 v&&& ~~~BitVec.ofInt 32 m).toNat:Int)=0↔_;have hlt:=(BitVec.ofInt 32 v&&& ~~~BitVec.ofInt 32 m).isLt;rw [lz];rw [show (((BitVec.ofInt 32 v&&& ~~~BitVec.ofInt 32 m).toNat:Int)=0)↔(BitVec.ofInt 32 v&&& ~~~BitVec.ofInt 32 m)=0#32 by
  rw [<- BitVec.toNat_inj];simp only [M9];omega]
 rw [B',VD hv,VD hm,<- BitVec.toNat_inj,TQ,M9,M9,QC (by omega),QC (by omega)]
theorem sf {v m:Int} (hv:ok32 0 v) (hm:ok32 0 m):iand .u32 v m=v↔v.toNat&&& m.toNat=v.toNat:=by
 have hv1:=hv.1;have hv2:=hv.2;have hm2:=hm.2;unfold iand;show IntKind.wrap .u32 ((BitVec.ofInt 32 v&&& BitVec.ofInt 32 m).toNat:Int)=v↔_;have hlt:=(BitVec.ofInt 32 v&&& BitVec.ofInt 32 m).isLt;rw [lz,VD hv,VD hm,TQ,M9,M9,QC (by omega),QC (by omega)];omega
theorem gp (p:Prg) (s:Nat) (n:Int):a8 Φ 373 [.agg (Prg.c p),a7 s,a7 n]=some (.val (.bool (oW p s n))):=by
 rw [aB rfl rfl];by_cases n1:n= -1
 ·simp [vR,Prg.e,oW,n1]
 by_cases n2:n= -2
 ·simp [vR,Prg.e,oW,n2]
 by_cases n3:(s:Int)<n
 ·simp [vR,Prg.e,oW,n1,n2,n3]
 ·simp [vR,Prg.e,oW,n1,n2,n3]
theorem Cg (p:Prg) (s:Nat) (hs:s<p.Xw.length) (c:Xj) (h1:ok32 0 c.value) (h2:ok32 0 c.Yd):a8 Φ 372 [.agg (Prg.c p),a7 s,.agg (Xj.c c)]=some (.val (a7 (tD p s p.Xw[s] c))):=by
 rw [aB rfl rfl];have hw:=O8 p p.Xw[s].on.header p.Xw[s].on.field;have f1:=NH c.value (wid p p.Xw[s].on.header p.Xw[s].on.field);have f2:=NH c.Yd (wid p p.Xw[s].on.header p.Xw[s].on.field);have hl:=gp p s c.next;have ha:=od h1 h2;simp only [Prg.e] at hw hl;cases q1:fits c.value (wid p p.Xw[s].on.header p.Xw[s].on.field) with
 | false=>rw [q1] at f1;simp [t7,Prg.e,Xj.e,Xc.e,hs,hw,f1,tD,q1]
 | true=>
 rw [q1] at f1;cases q2:fits c.Yd (wid p p.Xw[s].on.header p.Xw[s].on.field) with
 | false=>rw [q2] at f2;simp [t7,Prg.e,Xj.e,Xc.e,hs,hw,f1,f2,tD,q1,q2]
 | true=>
 rw [q2] at f2;by_cases z:LP .u32 c.value c.Yd=0
 ·have z':=ha.1 z;cases q3:oW p s c.next with
  | true=>rw [q3] at hl;simp [t7,Prg.e,Xj.e,Xc.e,hs,hw,f1,f2,hl,tD,q1,q2,q3,z,z']
  | false=>rw [q3] at hl;simp [t7,Prg.e,Xj.e,Xc.e,hs,hw,f1,f2,hl,tD,q1,q2,q3,z,z']
 ·have z':¬(c.value.toNat&&& c.Yd.toNat=c.value.toNat):=fun h=>z (ha.2 h)
  simp [t7,Prg.e,Xj.e,Xc.e,hs,hw,f1,f2,tD,q1,q2,z,z']
def sF (p:Prg) (s:Nat) (x:Xc) (i:Nat):Option (Int×Int):=(x.cases[i]?).bind fun c=>if tD p s x c=0 then none else some ((i:Int),tD p s x c)
def stF (p:Prg) (s:Nat) (x:Xc):Int×Int:=if oW p s x.Yb then (0,0) else (-1,14)
def stK (p:Prg) (s:Nat) (x:Xc):Int×Int:=
 if x.select=true/\wid p x.on.header x.on.field=0 then (-1,8)
 else if x.select=false/\0<x.cases.length then (-1,11)
 else (fe (sF p s x) x.cases.length 0).getD (stF p s x)
theorem R0 (p:Prg) (s:Nat) (x:Xc):stE p s x=if 4<x.extract.length\/8<x.cases.length then (-1,12)
  else if x.extract.any (fun h=>decide (h<0) || decide ((p.Xo.length:Int)<=h)) then (-1,8) else stK p s x:=by
 unfold stE stK;show (if _ then _ else if _ then _ else if _ then _ else if _ then _ else (match fe (sF p s x) x.cases.length 0 with | some e=>e | none=>stF p s x))=_;cases fe (sF p s x) x.cases.length 0<;>rfl
theorem Uk (p:Prg) (s:Nat) (hs:s<p.Xw.length) (hv:∀c∈p.Xw[s].cases,ok32 0 c.value/\ok32 0 c.Yd) (hl:p.Xw[s].cases.length<2^40) (e:Env) (n:Nat)
  (h1:look 1 e=some (a7 s)) (h2:look 2 e=some (.iptr 9 [Prg.c p] 0 0)) (h6:look 6 e=some (.iptr 7 [Xc.c p.Xw[s]] 0 0)):
  go Φ (finP [.tmp 4,.tmp 5]) [.c cT] .normal ⟨e,⟨[],n⟩⟩=some (.val (.tup [a7 (stK p s p.Xw[s]).1,a7 (stK p s p.Xw[s]).2])):=by
 have hw:=O8 p p.Xw[s].on.header p.Xw[s].on.field;simp only [Prg.e] at hw;rw [Prg.e] at h2;rw [Xc.e] at h6;cases q:p.Xw[s].select with
 | true=>
  rw [q] at h6;by_cases z:wid p p.Xw[s].on.header p.Xw[s].on.field=0
  ·rw [z] at hw;simp [cT,h2,h6,hw,stK,q,z]
  rw [show stK p s p.Xw[s]=(fe (sF p s p.Xw[s]) p.Xw[s].cases.length 0).getD (stF p s p.Xw[s]) by simp [stK,q,z]];simp [cT,h2,h6,hw,z];refine cV p.Xw[s].cases.length (fun _=>[]) 0 (fun i e=>look 1 e=some (a7 s)/\look 2 e=some (.iptr 9 [Prg.c p] 0 0)/\look 6 e=some (.iptr 7 [Xc.c p.Xw[s]] 0 0)/\look 65 e=some (.slice 3 (p.Xw[s].cases.map Xj.c))/\look 66 e=some (a7 p.Xw[s].cases.length)/\look 67 e=some (a7 i))
   (fun i=>some (Rt.val (.tup [a7 ((fe (sF p s p.Xw[s]) p.Xw[s].cases.length i).getD (stF p s p.Xw[s])).1,a7 ((fe (sF p s p.Xw[s]) p.Xw[s].cases.length i).getD (stF p s p.Xw[s])).2]))) ?_ ?_ 0 _ _ (Qc _) (Qc _) ?_
  ·rintro i e n L hi hL _ ⟨h1,h2,h6,h65,h66,h67⟩ ih;have hw:=aF i (by omega);have hc:=hv _ (Qd hi);have hE:=Cg p s hs p.Xw[s].cases[i] hc.1 hc.2;simp only [Prg.e,Xj.e] at hE;rw [Prg.e] at h2;by_cases y:tD p s p.Xw[s] p.Xw[s].cases[i]=0
   ·rw [y] at hE;rw [bP hi (by simp [sF,hi,y])];simp [bY,Xj.e,h1,h2,h65,h66,h67,hi,hE,hw];exact ih _ _ (Qc _) ⟨by simp [h1],by simp [h2,Prg.e],by simp [h6],by simp [h65],by simp [h66],by simp⟩
   ·rw [aJ (x:=((i:Int),tD p s p.Xw[s] p.Xw[s].cases[i])) hi (by simp [sF,hi,y])];simp [bY,Xj.e,h1,h2,h65,h66,h67,hi,hE,y]
  ·rintro e n L hL _ ⟨h1,h2,h6,h65,h66,h67⟩;rw [d6];have hd:=gp p s p.Xw[s].Yb;simp only [Prg.e] at hd;rw [Prg.e] at h2;rw [Xc.e] at h6;cases y:oW p s p.Xw[s].Yb with
   | true=>rw [y] at hd;simp [bY,eJ,h1,h2,h6,h66,h67,hL,hd,stF,y]
   | false=>rw [y] at hd;simp [bY,eJ,h1,h2,h6,h66,h67,hL,hd,stF,y]
  ·simp [h1,h2,h6,Prg.e,Xc.e,q]
 | false=>
  rw [q] at h6;by_cases z:0<p.Xw[s].cases.length
  ·simp [cT,h6,stK,q,z]
  have z0:p.Xw[s].cases.length=0:=by omega
  rw [show stK p s p.Xw[s]=stF p s p.Xw[s] by simp [stK,q,z0,d6]];simp [cT,h6,z0];rw [aT];have hd:=gp p s p.Xw[s].Yb;simp only [Prg.e] at hd;cases y:oW p s p.Xw[s].Yb with
  | true=>rw [y] at hd;simp [bY,eJ,h1,h2,h6,hd,stF,y]
  | false=>rw [y] at hd;simp [bY,eJ,h1,h2,h6,hd,stF,y]
theorem Th (p:Prg) (f:PrgS p) (s:Nat) (hs:s<p.Xw.length):a8 Φ 315 [.agg (Prg.c p),a7 s]=some (.val (.tup [a7 (stE p s p.Xw[s]).1,a7 (stE p s p.Xw[s]).2])):=by
 rw [aB rfl rfl,R0];by_cases z0:4<p.Xw[s].extract.length
 ·simp [yB,Prg.e,Xc.e,hs,z0]
 by_cases z1:8<p.Xw[s].cases.length
 ·simp [yB,Prg.e,Xc.e,hs,z0,z1]
 rw [QA (by omega)];generalize hX:(if p.Xw[s].extract.any (fun h=>decide (h<0) || decide ((p.Xo.length:Int)<=h))=true then ((-1:Int),(8:Int)) else stK p s p.Xw[s])=X;simp [yB,Prg.e,Xc.e,hs,z0,z1];refine (A4 p.Xw[s].extract (fun h=>decide (h<0) || decide ((p.Xo.length:Int)<=h)) (some (Rt.val (.tup [a7 (-1),a7 8]))) (some (Rt.val (.tup [a7 (stK p s p.Xw[s]).1,a7 (stK p s p.Xw[s]).2])))
  (fun i e H=>look 1 e=some (a7 s)/\look 2 e=some (.iptr 9 [Prg.c p] 0 0)/\look 6 e=some (.iptr 7 [Xc.c p.Xw[s]] 0 0)/\look 28 e=some (.slice 1 (p.Xw[s].extract.map cI))/\look 29 e=some (a7 p.Xw[s].extract.length)/\look 30 e=some (a7 i)/\∃n,H=⟨[],n⟩) ?_ ?_ ?_ _ _ ?_).trans ?_
 ·rintro i e _ L hi hL ⟨h1,h2,h6,h28,h29,h30,n,rfl⟩ hb;rw [Prg.e] at h2;simp only [D3,decide_eq_true_eq] at hb;by_cases y0:p.Xw[s].extract[i]<0
  ·simp [eK,cI,h28,h29,h30,hi,y0]
  ·have y1:(p.Xo.length:Int)<=p.Xw[s].extract[i]:=by omega
   simp [eK,cI,h2,h28,h29,h30,hi,y0,y1]
 ·rintro i e _ L X hi hL ⟨h1,h2,h6,h28,h29,h30,n,rfl⟩ hb ih;have hw:=aF i (by omega);rw [Prg.e] at h2;simp only [EY,decide_eq_false_iff_not] at hb;simp [eK,cI,h2,h28,h29,h30,hi,hb,hw];exact ih _ _ ⟨by simp [h1],by simp [h2,Prg.e],by simp [h6],by simp [h28],by simp [h29],by simp,n,rfl⟩
 ·rintro e _ L hL ⟨h1,h2,h6,h28,h29,h30,n,rfl⟩;simp [eK,h29,h30,hL];refine Uk p s hs (fun c hc=>f.sv _ (Qd hs) c hc) (f.sc _ (Qd hs)) _ _ ?_ ?_ ?_
  ·simp [h1]
  ·simp [h2]
  ·simp [h6]
 ·simp [Prg.e,Xc.e]
 ·rw [<- hX];cases p.Xw[s].extract.any (fun h=>decide (h<0) || decide ((p.Xo.length:Int)<=h))<;>rfl
theorem MK {G I:Type} [BEq I] [LawfulBEq I] [DecidableEq I] (f:G->I) (a:I):∀l:List G,(l.map f).contains a=l.any fun y=>decide (f y=a)
 | []=>by simp
 | x::l=>by
  have ih:=MK f a l;simp only [uP,List.contains_cons,DZ,ih];congr 1;by_cases h:a=f x
  ·subst h;simp
  ·have h2:¬f x=a:=fun e=>h e.symm
   simp [h,h2]
def parG (p:Prg) (s:Nat):Option (Int×Int×Int):=(p.Xw[s]?).bind fun x=>if idS x.name=false then some ((s:Int),(-1:Int),(6:Int)) else if dupN Xc.name p.Xw s x then some ((s:Int),-1,7)
  else if (stE p s x).2=0 then none else some ((s:Int),(stE p s x).1,(stE p s x).2)
def tup3 (x:Int×Int×Int):Rt:= .val (.tup [a7 x.1,a7 x.2.1,a7 x.2.2])
theorem OY (p:Prg) (f:PrgS p):a8 Φ 221 [.agg (Prg.c p)]=some (tup3 (parE p)):=by
 rw [aB rfl rfl];by_cases z0:p.Xw.length=0
 ·simp [wT,Prg.e,z0,parE,tup3]
 by_cases z1:12<p.Xw.length
 ·simp [wT,Prg.e,z0,z1,parE,tup3]
 have hE:parE p=(fe (parG p) p.Xw.length 0).getD (0,0,0):=by unfold parE;rw [QA z0,QA z1];rfl
 rw [hE];simp [wT,Prg.e,z0,z1];refine cV p.Xw.length (fun i=>[(0,.map (setS ((p.Xw.map (·.name)).take i)))]) 1 (fun i e=>look 1 e=some (.iptr 9 [Prg.c p] 0 0)/\look 5 e=some (.map 0)/\look 22 e=some (.slice 7 (p.Xw.map Xc.c))/\look 23 e=some (a7 p.Xw.length)/\look 24 e=some (a7 i))
  (fun i=>some (tup3 ((fe (parG p) p.Xw.length i).getD (0,0,0)))) ?_ ?_ 0 _ 1 (Qc _) (Qb _) ?_
 ·rintro i e n L hi hL hn ⟨h1,h5,h22,h23,h24⟩ ih;have hw:=aF i (by omega);have hn0:¬(0=n):=by omega
  have hn1:¬(n=0):=by omega
  have nf:=JE p.Xw[i].name (f.sn _ (Qd hi));have hs:=Th p f i hi;simp only [Prg.e] at hs;rw [Prg.e] at h1;cases q1:idS p.Xw[i].name with
  | false=>
   rw [q1] at nf;rw [aJ (x:=((i:Int),-1,6)) hi (by simp [parG,hi,q1])];simp [cM,Xc.e,h22,h23,h24,hi,hn0,nf,tup3]
  | true=>
  rw [q1] at nf;have hd:((p.Xw.map (·.name)).take i).contains p.Xw[i].name=dupN Xc.name p.Xw i p.Xw[i]:=by
   rw [<- DY,MK];rfl
  have hfnd:=ue p.Xw[i].name ((p.Xw.map (·.name)).take i);rw [hd] at hfnd;cases q2:dupN Xc.name p.Xw i p.Xw[i] with
  | true=>
   rw [q2] at hfnd;rw [aJ (x:=((i:Int),-1,7)) hi (by simp [parG,hi,q1,q2])];simp [cM,Xc.e,h5,h22,h23,h24,hi,hn0,nf,hfnd,tup3]
  | false=>
   rw [q2] at hfnd hd;have hput:=xg p.Xw[i].name ((p.Xw.map (·.name)).take i) hd;rw [show (p.Xw.map (·.name)).take i++[p.Xw[i].name]=(p.Xw.map (·.name)).take (i+1) from (EB hi).symm] at hput;by_cases y:(stE p i p.Xw[i]).2=0
   ·rw [y] at hs;rw [bP hi (by simp [parG,hi,q1,q2,y])];simp [cM,Xc.e,h1,h5,h22,h23,h24,hi,hn0,nf,hfnd,hput,hs,hw];exact ih _ _ (by omega) ⟨by simp [h1,Prg.e],by simp [h5],by simp [h22],by simp [h23],by simp⟩
   ·rw [aJ (x:=((i:Int),(stE p i p.Xw[i]).1,(stE p i p.Xw[i]).2)) hi (by simp [parG,hi,q1,q2,y])];simp [cM,Xc.e,h1,h5,h22,h23,h24,hi,hn0,nf,hfnd,hput,hs,y,tup3]
 ·rintro e n L hL hn ⟨h1,h5,h22,h23,h24⟩;rw [d6];simp [cM,qQ,h23,h24,hL,tup3]
 ·simp [Prg.e]
theorem Aq (l:List Int) (x:Int) (hl:l.length<2^40):a8 Φ 375 [.slice 1 (l.map cI),a7 x]=some (.val (a7 (ix (fun s=>decide (x=s)) l 0))):=by
 rw [aB rfl rfl];simp [II];refine (dC l.length (fun i e=>look 0 e=some (.slice 1 (l.map cI))/\look 1 e=some (a7 x)/\look 7 e=some (a7 l.length)/\look 8 e=some (a7 i))
  (fun i=>some (.val (a7 (ix (fun s=>decide (x=s)) l i)))) ?_ ?_ 0 _ (Qc _) ?_).trans (by simp)
 ·rintro i e L hi hL ⟨h0,h1,h7,h8⟩ ih;have hw:=aF i (by omega);by_cases z:x=l[i]
  ·rw [O6 hi (by simpa using z)];simp [iC,cI,h0,h1,h7,h8,hi,<- z]
  ·rw [NK hi (by simpa using z)];simp [iC,cI,h0,h1,h7,h8,hi,z,hw];exact ih _ ⟨by simp [h0],by simp [h1],by simp [h7],by simp⟩
 ·rintro e L hL ⟨h0,h1,h7,h8⟩;rw [O5];simp [iC,rS,h7,h8,hL]
 ·simp
theorem qx1 (l:List Int) (x:Int) (hl:l.length<2^40):a8 Φ 322 [.slice 1 (l.map cI),a7 x]=some (.val (.bool (l.contains x))):=by
 rw [aB rfl rfl];have h:=Aq l x hl;have e:=NZ (p:=fun s=>decide (x=s)) (l:=l);have e2:l.contains x=l.any fun s=>decide (x=s):=by
  have:=MK (fun y:Int=>y) x l;rw [List.map_id'] at this;rw [this];congr 1;funext y;simp [eq_comm]
 simp [HL,h];have e3:=e.trans e2.symm;simpa using e3
def depG (p:Prg) (i:Nat):Option (Int×Int):=(p.Xr[i]?).bind fun h=>if h<0\/(p.Xo.length:Int)<=h then some ((i:Int),(8:Int)) else if (p.Xr.take i).contains h then some ((i:Int),7) else none
theorem PD (p:Prg) (f:PrgS p):a8 Φ 223 [.agg (Prg.c p)]=some (.val (.tup [a7 (depE p).1,a7 (depE p).2])):=by
 rw [aB rfl rfl];by_cases z1:8<p.Xr.length
 ·simp [BH,Prg.e,z1,depE]
 have hE:depE p=(fe (depG p) p.Xr.length 0).getD (0,0):=by unfold depE;rw [QA z1];rfl
 rw [hE];simp [BH,Prg.e,z1];refine dC p.Xr.length (fun i e=>look 1 e=some (.iptr 9 [Prg.c p] 0 0)/\look 11 e=some (.slice 1 (p.Xr.map cI))/\look 12 e=some (a7 p.Xr.length)/\look 13 e=some (a7 i))
  (fun i=>some (Rt.val (.tup [a7 ((fe (depG p) p.Xr.length i).getD (0,0)).1,a7 ((fe (depG p) p.Xr.length i).getD (0,0)).2]))) ?_ ?_ 0 _ (Qc _) ?_
 ·rintro i e L hi hL ⟨h1,h11,h12,h13⟩ ih;have hw:=aF i (by omega);have hi':i<=p.Xr.length:=by omega
  rw [Prg.e] at h1;by_cases y0:p.Xr[i]<0
  ·rw [aJ (x:=((i:Int),8)) hi (by simp [depG,hi,y0])];simp [cO,cI,h11,h12,h13,hi,y0]
  by_cases y1:(p.Xo.length:Int)<=p.Xr[i]
  ·rw [aJ (x:=((i:Int),8)) hi (by simp [depG,hi,y0,y1])];simp [cO,cI,h1,h11,h12,h13,hi,y0,y1]
  have hc:=qx1 (p.Xr.take i) p.Xr[i] (by simp;omega);rw [DY] at hc;cases q:(p.Xr.take i).contains p.Xr[i] with
  | true=>
   rw [q] at hc;rw [aJ (x:=((i:Int),7)) hi (by simp only [depG,Qa hi,dI];rw [QA (by omega),q];rfl)];simp [cO,cI,h1,h11,h12,h13,hi,hi',y0,y1,hc]
  | false=>
   rw [q] at hc;rw [bP hi (by simp only [depG,Qa hi,dI];rw [QA (by omega),q];rfl)];simp [cO,cI,h1,h11,h12,h13,hi,hi',y0,y1,hc,hw];exact ih _ ⟨by simp [h1,Prg.e],by simp [h11],by simp [h12],by simp⟩
 ·rintro e L hL ⟨h1,h11,h12,h13⟩;rw [d6];simp [cO,qS,h12,h13,hL]
 ·simp [Prg.e]
@[simp] theorem Xa.kind_mk (k t:Int) (c:List Xd) (a b:List Xa):(Xa.mk k t c a b).kind=k:=by simp [Xa.kind]
@[simp] theorem Xa.table_mk (k t:Int) (c:List Xd) (a b:List Xa):(Xa.mk k t c a b).table=t:=by simp [Xa.table]
@[simp] theorem Xa.cond_mk (k t:Int) (c:List Xd) (a b:List Xa):(Xa.mk k t c a b).cond=c:=by simp [Xa.cond]
@[simp] theorem Xa.thn_mk (k t:Int) (c:List Xd) (a b:List Xa):(Xa.mk k t c a b).thn=a:=by simp [Xa.thn]
@[simp] theorem Xa.els_mk (k t:Int) (c:List Xd) (a b:List Xa):(Xa.mk k t c a b).els=b:=by simp [Xa.els]
theorem Y5 (k t:Int) (c:List Xd) (a b:List Xa):a8 Φ 321 [.agg (Xa.c (.mk k t c a b))]=some (.val (.bool (appl (.mk k t c a b)))):=by
 rw [aB rfl rfl];by_cases k1:k=1
 ·simp [BV,Xa.e,appl,k1]
 ·simp [BV,Xa.e,appl,k1]
def sH (p:Prg) (us:List Int) (x:Xa):Int:=
 if x.kind=2 then (if (exE p [] x.cond).2=0 then (if (exE p [] x.cond).1=1 then 0 else 10) else (exE p [] x.cond).2)
 else if x.kind=1\/x.kind=3 then (if x.table<0\/(p.Xm.length:Int)<=x.table then 8
  else if us.contains x.table then 7
  else if x.kind=1/\0<x.thn.length+x.els.length then 5 else 0)
 else 11
def O9 (us:List Int) (x:Xa):Int:=if us.contains x.table then 7 else if x.kind=1/\0<x.thn.length+x.els.length then 5 else 0
theorem Fb {p:Prg} (k t:Int) (c:List Xd) (a b:List Xa) (us:List Int) (ha:a.length<2^40) (hb:b.length<2^40) (hu:us.length<2^40) (e:Env)
  (h4:look 4 e=some (.iptr 5 [Xa.c (.mk k t c a b)] 0 0)) (h27:look 27 e=some (.slice 1 (us.map cI))) (h28:look 28 e=some (a7 us.length)) (h29:look 29 e=some (a7 0)):
  go Φ (finP [.tmp 6]) [.c (.loop bZ),.b 1,.c eL,.b 0,.c aL] .normal ⟨e,⟨[],0⟩⟩=some (.val (a7 (O9 us (.mk k t c a b)))):=by
 have hc:=MK (fun y:Int=>y) t us;rw [List.map_id'] at hc;refine (A4 us (fun y=>decide (y=t)) (some (Rt.val (a7 7))) (some (Rt.val (a7 (if k=1/\0<a.length+b.length then 5 else 0))))
  (fun i e H=>look 4 e=some (.iptr 5 [Xa.c (.mk k t c a b)] 0 0)/\look 27 e=some (.slice 1 (us.map cI))/\look 28 e=some (a7 us.length)/\look 29 e=some (a7 i)/\H=⟨[],0⟩) ?_ ?_ ?_ _ _ ⟨h4,h27,h28,h29,rfl⟩).trans ?_
 ·rintro i e _ L hi hL ⟨h4,h27,h28,h29,rfl⟩ hb;simp only [decide_eq_true_eq] at hb;rw [Xa.e] at h4;simp [bZ,cI,h4,h27,h28,h29,hi,hb]
 ·rintro i e _ L X hi hL ⟨h4,h27,h28,h29,rfl⟩ hb ih;have hw:=aF i (by omega);simp only [decide_eq_false_iff_not] at hb;rw [Xa.e] at h4;simp [bZ,cI,h4,h27,h28,h29,hi,hb,hw];exact ih _ _ ⟨by simp [h4,Xa.e],by simp [h27],by simp [h28],by simp,rfl⟩
 ·rintro e _ L hL ⟨h4,h27,h28,h29,rfl⟩;rw [Xa.e] at h4;have hw:IntKind.wrap .i64 ((a.length:Int)+b.length)=(a.length:Int)+b.length:=aQ;by_cases k1:k=1
  ·by_cases z:0<a.length+b.length
   ·have z':(0:Int)<(a.length:Int)+b.length:=by omega
    simp [bZ,eL,aL,h4,h28,h29,hL,hw,k1,z,z']
   ·have z':¬(0:Int)<(a.length:Int)+b.length:=by omega
    have za:a.length=0:=by omega
    have zb:b.length=0:=by omega
    simp [bZ,eL,aL,h4,h28,h29,hL,k1,za,zb];rw [show IntKind.wrap .i64 0=0 by decide];simp [Qg za,Qg zb]
  ·simp [bZ,eL,aL,h4,h28,h29,hL,k1]
 ·unfold O9;simp only [Xa.table_mk,Xa.kind_mk,Xa.thn_mk,Xa.els_mk,hc];cases us.any (fun y=>decide (y=t))<;>rfl
theorem Fa (p:Prg) (k t:Int) (c:List Xd) (a b:List Xa) (us:List Int) (ha:a.length<2^40) (hb:b.length<2^40) (hu:us.length<2^40):
  a8 Φ 320 [.agg (Prg.c p),.agg (Xa.c (.mk k t c a b)),.slice 1 (us.map cI)]=some (.val (a7 (sH p us (.mk k t c a b)))):=by
 rw [aB rfl rfl];have hV:=Fb (p:=p) k t c a b us ha hb hu;simp only [Xa.e] at hV;by_cases k1:k=1
 ·by_cases t0:t<0
  ·simp [gX,aL,Xa.e,Prg.e,sH,k1,t0]
  by_cases t1:(p.Xm.length:Int)<=t
  ·simp [gX,aL,Xa.e,Prg.e,sH,k1,t0,t1]
  have e:sH p us (.mk k t c a b)=O9 us (.mk k t c a b):=by simp [sH,O9,k1,t0,t1]
  rw [e];simp [gX,Xa.e,Prg.e,k1,t0,t1];rw [hV]
  all_goals simp [k1]
 by_cases k3:k=3
 ·by_cases t0:t<0
  ·simp [gX,aL,Xa.e,Prg.e,sH,k3,t0]
  by_cases t1:(p.Xm.length:Int)<=t
  ·simp [gX,aL,Xa.e,Prg.e,sH,k3,t0,t1]
  have e:sH p us (.mk k t c a b)=O9 us (.mk k t c a b):=by simp [sH,O9,k3,t0,t1]
  rw [e];simp [gX,Xa.e,Prg.e,k3,t0,t1];rw [hV]
  all_goals simp [k3]
 by_cases k2:k=2
 ·have hx:=VT p [] c;simp only [aE,zA] at hx;by_cases z:(exE p [] c).2=0
  ·rw [z] at hx;by_cases y:(exE p [] c).1=1
   ·rw [y] at hx;simp [gX,aL,Xa.e,Prg.e,sH,k2,hx,z,y]
   ·simp [gX,aL,Xa.e,Prg.e,sH,k2,hx,z,y]
  ·simp [gX,aL,Xa.e,Prg.e,sH,k2,hx,z]
 ·simp [gX,aL,Xa.e,Prg.e,sH,k1,k2,k3]
theorem EL:∀a b:List Xa,pre (a++b)=pre a++pre b
 | [],b=>by simp [pre]
 | x::a,b=>by simp [pre,EL a b]
theorem UU {l:List Xa} {i:Nat} (hi:i<l.length):pre (l.take (i+1))=pre (l.take i)++pre1 l[i]:=by
 rw [Qh hi,EL];simp [pre]
theorem ER (k t:Int) (c:List Xd) (a b:List Xa):pre1 (.mk k t c a b)= .mk k t c a b::(pre a++pre b):=by simp [pre1]
theorem Fo (x:Xa):1<=(pre1 x).length:=by
 cases x;rw [ER];simp
theorem CH:∀l:List Xa,l.length<=(pre l).length
 | []=>by simp
 | x::r=>by
  have:=CH r;have:=Fo x;simp [pre];omega
theorem ju {l:List Xa} {i:Nat} (hi:i<l.length):(pre1 l[i]).length<=(pre l).length:=by
 have h:pre l=pre (l.take i)++(pre1 l[i]++pre (l.drop (i+1))):=by
  conv=>lhs;rw [<- AK i l,EL,Qi hi]
  simp [pre]
 rw [h];simp;omega
def tE (l:List Xa):Nat:=match l with
 | []=>0
 | x::r=>max (CV x) (tE r)
theorem iy:∀l:List Xa,l≠[]->nest l=tE l+1
 | [],h=>absurd rfl h
 | [x],_=>by simp [nest,tE];omega
 | x::y::r,_=>by
  have:=iy (y::r) (by simp);rw [nest,tE,this];omega
theorem oe:∀a b:List Xa,tE (a++b)=max (tE a) (tE b)
 | [],b=>by simp [tE]
 | x::a,b=>by rw [oY,tE,oe a b,tE];omega
theorem Z7 {l:List Xa} {i:Nat} (hi:i<l.length):tE (l.take (i+1))=max (tE (l.take i)) (CV l[i]):=by
 rw [Qh hi,oe];simp [tE]
theorem gt (k t:Int) (c:List Xd) (a b:List Xa):CV (.mk k t c a b)=max (nest a) (nest b):=by simp [CV]
mutual
theorem Dm:∀x:Xa,CV x<(pre1 x).length
 | .mk k t c a b=>by
  have h1:=NM a;have h2:=NM b;rw [gt,ER];simp;omega
theorem NM:∀l:List Xa,nest l<=(pre l).length
 | []=>by simp [nest]
 | x::r=>by
  have h1:=Dm x;have h2:=NM r;rw [nest,pre];simp;omega
end
theorem Dn (l:List Xa):tE l<=(pre l).length:=by
 cases l with
 | nil=>simp [tE]
 | cons x r=>have:=iy (x::r) (by simp);have:=NM (x::r);omega
theorem CE (x:Xa):∃k t c a b,x= .mk k t c a b:=by
 cases x with
 | mk k t c a b=>exact ⟨k,t,c,a,b,rfl⟩
theorem iz:∀(n:Nat) (l:List Xa),SizeOf.sizeOf l<=n->(pre l).length<2^40->a8 Φ 317 [.slice 5 (l.map Xa.c)]=some (.val (a7 (nest l:Nat)))
 | 0,l,h,hb=>by cases l<;>simp at h
 | n+1,l,h,hb=>by
  rw [aB rfl rfl];have hll:=CH l;by_cases z:l.length=0
  ·have:l=[]:=Qg z;subst this;simp [BU,nest]
  have hne:l≠[]:=by intro h;subst h;simp at z
  rw [iy l hne];simp [BU,z];refine cV l.length (fun _=>[]) 0 (fun i e=>look 3 e=some (a7 (tE (l.take i):Nat))/\look 9 e=some (.slice 5 (l.map Xa.c))/\look 10 e=some (a7 l.length)/\look 11 e=some (a7 i))
   (fun i=>some (Rt.val (a7 ((tE l:Nat)+1)))) ?_ ?_ 0 _ 0 (Qc _) (Qb _) ?_
  ·rintro i e m L hi hL _ ⟨h3,h9,h10,h11⟩ ih;have hw:=aF i (by omega);obtain ⟨k,t,c,a,b,hx⟩:=CE l[i];have hm:l[i]∈l:=Qd hi;have hs:SizeOf.sizeOf l[i]<SizeOf.sizeOf l:=M6 hm;have hp:=ju hi;rw [hx] at hs hp;rw [ER] at hp;simp at hs hp;have i1:=iz n a (by omega) (by omega);have i2:=iz n b (by omega) (by omega);have hM:=Z7 hi;rw [hx,gt] at hM;simp [lP,h3,h9,h10,h11,hi,hw,hx,Xa.e,i1,i2];refine ih _ _ (Qc _) ⟨?_,by simp [h9],by simp [h10],by simp⟩;simp [hM];split<;>split<;>omega
  ·rintro e m L hL _ ⟨h3,h9,h10,h11⟩;rw [fF] at h3;have:=Dn l;have hw:IntKind.wrap .i64 ((tE l:Int)+1)=(tE l:Int)+1:=aQ;simp [lP,rG,h3,h10,h11,hL,hw]
  ·simp [tE]
theorem wc {Φ:FuncId->Option AFun} {I:Type} {fin:Option (Ex×St)->Option I} (N:Nat) (Inv:Nat->Env->AH->Prop) (Q:Option I->Prop) {b:Xu} {K:List Fr}
  (step:∀i e h L,i<N->(∀j s,go Φ fin L (.exit j) s=go Φ fin K (.exit j) s)->Inv i e h->(∀e' h',Inv (i+1) e' h'->Q (go Φ fin L .normal ⟨e',h'⟩))->Q (go Φ fin (.c b::L) .normal ⟨e,h⟩))
  (last:∀e h L,(∀j s,go Φ fin L (.exit j) s=go Φ fin K (.exit j) s)->Inv N e h->Q (go Φ fin (.c b::L) .normal ⟨e,h⟩)):
  ∀i e h,i<=N->Inv i e h->Q (go Φ fin (.c (.loop b)::K) .normal ⟨e,h⟩):=by
 have key:∀n i e h,N - i<=n->i<=N->Inv i e h->Q (go Φ fin (.c (.loop b)::K) .normal ⟨e,h⟩):=by
  intro n
  induction n with
  | zero=>
   intro i e h hn hi hv;have:i=N:=by omega
   subst this;rw [aT];exact last e h _ (fun j s=>by simp) hv
  | succ n ih=>
   intro i e h hn hi hv;rcases Qv i N with hlt | hge
   ·rw [aT];exact step i e h _ hlt (fun j s=>by simp) hv fun e' h' hv'=>ih (i+1) e' h' (by omega) (by omega) hv'
   ·have:i=N:=by omega
    subst this;rw [aT];exact last e h _ (fun j s=>by simp) hv
 intro i e h hi hv;exact key (N - i) i e h (Qb _) hi hv
def cntF:AV:= .func (.func 374) [] [.ptr 0 1 0 0]
def cntH (c:Int) (m:Nat):AH:=⟨[(0,.row 1 [[a7 c]])],m⟩
theorem ZH (k t:Int) (cd:List Xd) (a b:List Xa) (c:Int) (m:Nat) (hc:0<=c/\c<2^60):aG Φ 374 [.agg (Xa.c (.mk k t cd a b)),.ptr 0 1 0 0] (cntH c m)=some (.val (.bool true),cntH (c+1) m):=by
 rw [eQ rfl rfl];have hw:IntKind.wrap .i64 (c+1)=c+1:=aQ;simp [IH,cntH,Xa.e,hw]
theorem js:∀(n:Nat) (l:List Xa) (c:Int) (m:Nat),1<=m->SizeOf.sizeOf l<=n->0<=c->c+(pre l).length<2^60->(pre l).length<2^40->
  ∃m',m<=m'/\aG Φ 318 [.slice 5 (l.map Xa.c),cntF] (cntH c m)=some (.val (.bool true),cntH (c+(pre l).length) m')
 | 0,l,c,m,_,h,_,_,_=>by cases l<;>simp at h
 | n+1,l,c,m,h1m,h,hc0,hb,hl=>by
  rw [eQ rfl rfl];have hll:=CH l;simp [vO,cntF];refine wc l.length (fun i e H=>look 1 e=some cntF/\look 7 e=some (.slice 5 (l.map Xa.c))/\look 8 e=some (a7 l.length)/\look 9 e=some (a7 i)/\∃m1,m<=m1/\H=cntH (c+(pre (l.take i)).length) m1)
   (fun r=>∃m',m<=m'/\r=some (Rt.val (.bool true),cntH (c+(pre l).length) m')) ?_ ?_ 0 _ _ (Qc _) ?_
  ·rintro i e _ L hi hL ⟨h1,h7,h8,h9,m1,hm1,rfl⟩ ih;have hw:=aF i (by omega);obtain ⟨k,t,cd,a,b,hx⟩:=CE l[i];have hm:l[i]∈l:=Qd hi;have hs:SizeOf.sizeOf l[i]<SizeOf.sizeOf l:=M6 hm;have hp:=ju hi;have ht:=UU hi;have htl:(pre (l.take (i+1))).length<=(pre l).length:=by
    have:pre l=pre (l.take (i+1))++pre (l.drop (i+1)):=by rw [<- EL,AK]
    rw [this];simp
   rw [hx] at hs hp ht;rw [ER] at hp ht;simp at hs hp;have htl2:=htl;rw [ht] at htl2;simp at htl2;obtain ⟨c',hc'⟩:∃c':Int,c'=c+(pre (l.take i)).length:=⟨_,rfl⟩;rw [<- hc'];have e1:=ZH k t cd a b c' (m1+1) (by omega);obtain ⟨m2,hm2,e2⟩:=js n a (c'+1) (m1+1) (by omega) (by omega) (by omega) (by omega) (by omega);obtain ⟨m3,hm3,e3⟩:=js n b (c'+1+(pre a).length) m2 (by omega) (by omega) (by omega) (by omega) (by omega);simp only [cntH,cntF,Xa.e] at e1 e2 e3;have hn0:¬(0=m1):=by omega
   have hn1:¬(m1=0):=by omega
   simp only [cntF] at h1;simp [bK,h1,h7,h8,h9,hi,hw,hx,Xa.e,cntH,hn0,e1,e2,e3];refine ih _ _ ⟨by simp [h1,cntF],by simp [h7],by simp [h8],by simp,m3,by omega,?_⟩;rw [ht,hc'];simp [cntH];omega
  ·rintro e _ L hL ⟨h1,h7,h8,h9,m1,hm1,rfl⟩;rw [fF];refine ⟨m1,hm1,?_⟩;simp [bK,lQ,h8,h9,hL]
  ·simp [cntF,pre];exact ⟨m,Qb _,rfl⟩
theorem Dp (l:List Xa) (hl:(pre l).length<2^40):a8 Φ 316 [.slice 5 (l.map Xa.c)]=some (.val (a7 (pre l).length)):=by
 rw [aB rfl rfl];obtain ⟨m',hm,e⟩:=js _ l 0 1 (Qb _) (Qb _) (by omega) (by omega) hl;simp only [cntH,cntF] at e;simp [HK,e]
structure Wk where
 e:Int
 n:Int
 us:List Int
def wk1 (p:Prg) (w:Wk) (x:Xa):Wk:=if w.e≠0 then w else if sH p w.us x≠0 then ⟨sH p w.us x,w.n,w.us⟩ else ⟨0,w.n+1,if appl x then w.us++[x.table] else w.us⟩
def wk (p:Prg) (w:Wk) (l:List Xa):Wk:=l.foldl (wk1 p) w
theorem SD (p:Prg) (w:Wk) (a b:List Xa):wk p w (a++b)=wk p (wk p w a) b:=by simp [wk]
theorem JU (p:Prg) (w:Wk) (h:w.e≠0):∀l,wk p w l=w
 | []=>rfl
 | x::l=>by
  have:wk1 p w x=w:=by simp [wk1,h]
  show wk p (wk1 p w x) l=w;rw [this];exact JU p w h l
theorem wk_n (p:Prg):∀(l:List Xa) (w:Wk),w.n<=(wk p w l).n/\(wk p w l).n<=w.n+l.length/\(wk p w l).us.length<=w.us.length+l.length
 | [],w=>by simp [wk]
 | x::l,w=>by
  have h:=wk_n p l (wk1 p w x);show w.n<=(wk p (wk1 p w x) l).n/\(wk p (wk1 p w x) l).n<=w.n+(x::l).length/\(wk p (wk1 p w x) l).us.length<=w.us.length+(x::l).length;have h1:w.n<=(wk1 p w x).n/\(wk1 p w x).n<=w.n+1/\(wk1 p w x).us.length<=w.us.length+1:=by
   unfold wk1;split
   ·simp;omega
   split
   ·simp;omega
   ·refine ⟨by simp;omega,by simp,?_⟩;simp only;split<;>simp
  simp only [AQ];omega
def chkF (p:Prg):AV:= .func (.func 319) [] [.iptr 9 [Prg.c p] 0 0,.ptr 2 1 0 0,.ptr 0 1 0 0,.ptr 1 1 0 0]
def ChkH (w:Wk) (m:Nat) (H:AH):Prop:=3<=m/\((w.us=[]/\H=⟨[(0,.row 1 [[a7 w.e]]),(1,.row 1 [[a7 w.n]]),(2,.row 1 [[.Xt 1 []]])],m⟩)\/
 ∃q,3<=q/\q<m/\H=⟨[(0,.row 1 [[a7 w.e]]),(1,.row 1 [[a7 w.n]]),(2,.row 1 [[.app 1 (w.us.map cI) q]]),(q,.tok 1 w.us.length)],m⟩)
theorem J' (p:Prg) (k t:Int) (cd:List Xd) (a b:List Xa) (w:Wk) (m:Nat) (H:AH) (hH:ChkH w m H) (he:w.e=0) (hn:0<=w.n/\w.n<2^60) (hu:w.us.length<2^40 - 1) (ha:a.length<2^40) (hb:b.length<2^40):
  ∃m' H',m<=m'/\ChkH (wk1 p w (.mk k t cd a b)) m' H'/\aG Φ 319 [.agg (Xa.c (.mk k t cd a b)),.iptr 9 [Prg.c p] 0 0,.ptr 2 1 0 0,.ptr 0 1 0 0,.ptr 1 1 0 0] H=some (.val (.bool (decide ((wk1 p w (.mk k t cd a b)).e=0))),H'):=by
 have hw:IntKind.wrap .i64 (w.n+1)=w.n+1:=aQ;have hU:=Fa p k t cd a b w.us ha hb (by omega);have hA:=Y5 k t cd a b;simp only [Prg.e,Xa.e] at hU hA;obtain ⟨h3,⟨hus,rfl⟩ | ⟨q,hq,hqm,rfl⟩⟩:=hH
 ·rw [eQ rfl rfl];rw [hus] at hU;simp only [zA] at hU;by_cases z:sH p [] (.mk k t cd a b)=0
  ·rw [z] at hU;cases qa:appl (.mk k t cd a b) with
   | true=>
    rw [qa] at hA;have hn0:¬(0=m):=by omega
    have hn1:¬(1=m):=by omega
    have hn2:¬(2=m):=by omega
    have hn0':¬(m=0):=by omega
    have hn1':¬(m=1):=by omega
    have hn2':¬(m=2):=by omega
    refine ⟨m+1,⟨[(0,.row 1 [[a7 0]]),(1,.row 1 [[a7 (w.n+1)]]),(2,.row 1 [[.app 1 [[a7 t]] m]]),(m,.tok 1 1)],m+1⟩,Nat.le_succ _,⟨by omega,.inr ⟨m,h3,by omega,by simp [wk1,he,hus,z,qa,cI]⟩⟩,?_⟩;simp [rH,Xa.e,Prg.e,hU,wk1,he,hus,z,qa,hA,hw,hn0,hn1,hn2]
   | false=>
    rw [qa] at hA;refine ⟨m,⟨[(0,.row 1 [[a7 0]]),(1,.row 1 [[a7 (w.n+1)]]),(2,.row 1 [[.Xt 1 []]])],m⟩,Qb _,⟨by omega,.inl ⟨by simp [wk1,he,hus,z,qa],by simp [wk1,he,hus,z,qa]⟩⟩,?_⟩;simp [rH,Xa.e,Prg.e,hU,wk1,he,hus,z,qa,hA,hw]
  ·refine ⟨m,⟨[(0,.row 1 [[a7 (sH p [] (.mk k t cd a b))]]),(1,.row 1 [[a7 w.n]]),(2,.row 1 [[.Xt 1 []]])],m⟩,Qb _,⟨by omega,.inl ⟨by simp [wk1,he,hus,z],by simp [wk1,he,hus,z]⟩⟩,?_⟩;simp [rH,Xa.e,Prg.e,hU,wk1,he,hus,z]
 ·rw [eQ rfl rfl];have q0:¬(0=q):=by omega
  have q1:¬(1=q):=by omega
  have q2:¬(2=q):=by omega
  have q0':¬(q=0):=by omega
  have q1':¬(q=1):=by omega
  have q2':¬(q=2):=by omega
  have hbb:(w.us.length+1)*8<=70368744177664:=by omega
  by_cases z:sH p w.us (.mk k t cd a b)=0
  ·rw [z] at hU;cases qa:appl (.mk k t cd a b) with
   | true=>
    rw [qa] at hA;refine ⟨m,⟨[(0,.row 1 [[a7 0]]),(1,.row 1 [[a7 (w.n+1)]]),(2,.row 1 [[.app 1 ((w.us++[t]).map cI) q]]),(q,.tok 1 (w.us.length+1))],m⟩,Qb _,⟨by omega,.inr ⟨q,hq,hqm,by simp [wk1,he,z,qa]⟩⟩,?_⟩;simp [rH,Xa.e,Prg.e,hU,wk1,he,z,qa,hA,hw,q0,q1,q2,hbb,cI]
   | false=>
    rw [qa] at hA;refine ⟨m,⟨[(0,.row 1 [[a7 0]]),(1,.row 1 [[a7 (w.n+1)]]),(2,.row 1 [[.app 1 (w.us.map cI) q]]),(q,.tok 1 w.us.length)],m⟩,Qb _,⟨by omega,.inr ⟨q,hq,hqm,by simp [wk1,he,z,qa]⟩⟩,?_⟩;simp [rH,Xa.e,Prg.e,hU,wk1,he,z,qa,hA,hw]
  ·refine ⟨m,⟨[(0,.row 1 [[a7 (sH p w.us (.mk k t cd a b))]]),(1,.row 1 [[a7 w.n]]),(2,.row 1 [[.app 1 (w.us.map cI) q]]),(q,.tok 1 w.us.length)],m⟩,Qb _,⟨by omega,.inr ⟨q,hq,hqm,by simp [wk1,he,z]⟩⟩,?_⟩;simp [rH,Xa.e,Prg.e,hU,wk1,he,z]
theorem ga {w:Wk} {m:Nat} {H:AH} (h:ChkH w m H):∃O,H=⟨O,m⟩/\look m O=none/\∀m',m<=m'->ChkH w m' ⟨O,m'⟩:=by
 obtain ⟨h3,⟨hus,rfl⟩ | ⟨q,hq,hqm,rfl⟩⟩:=h
 ·refine ⟨_,rfl,?_,fun m' hm=>⟨by omega,.inl ⟨hus,rfl⟩⟩⟩;have a0:¬(0=m):=by omega
  have a1:¬(1=m):=by omega
  have a2:¬(2=m):=by omega
  simp [a0,a1,a2]
 ·refine ⟨_,rfl,?_,fun m' hm=>⟨by omega,.inr ⟨q,hq,by omega,rfl⟩⟩⟩;have a0:¬(0=m):=by omega
  have a1:¬(1=m):=by omega
  have a2:¬(2=m):=by omega
  have a3:¬(q=m):=by omega
  simp [a0,a1,a2,a3]
def PK (p:Prg) (l:List Xa) (w:Wk) (m:Nat) (r:Option (Rt×AH)):Prop:=∃m' H',m<=m'/\ChkH (wk p w (pre l)) m' H'/\r=some (.val (.bool (decide ((wk p w (pre l)).e=0))),H')
theorem jt (p:Prg):∀(n:Nat) (l:List Xa) (w:Wk) (m:Nat) (H:AH),ChkH w m H->w.e=0->SizeOf.sizeOf l<=n->0<=w.n->w.n+(pre l).length<2^60->w.us.length+(pre l).length<2^40 - 1->
  ∃m' H',m<=m'/\ChkH (wk p w (pre l)) m' H'/\aG Φ 318 [.slice 5 (l.map Xa.c),chkF p] H=some (.val (.bool (decide ((wk p w (pre l)).e=0))),H')
 | 0,l,w,m,H,_,_,h,_,_,_=>by cases l<;>simp at h
 | n+1,l,w,m,H,hH,he,h,hn0,hn1,hu=>by
  have hll:=CH l;obtain ⟨O,rfl,hO,hup⟩:=ga hH;have goal:PK p l w m (go Φ (finC vO.results) [.c vO.body] .normal ⟨iP 0 [.slice 5 (l.map Xa.c),chkF p],⟨O,m⟩⟩):=by
   simp [vO,chkF];refine wc l.length (fun i e H=>look 1 e=some (chkF p)/\look 7 e=some (.slice 5 (l.map Xa.c))/\look 8 e=some (a7 l.length)/\look 9 e=some (a7 i)/\(wk p w (pre (l.take i))).e=0/\∃m1,m<=m1/\ChkH (wk p w (pre (l.take i))) m1 H)
    (PK p l w m) ?_ ?_ 0 _ _ (Qc _) ?_
   ·rintro i e H1 L hi hL ⟨h1,h7,h8,h9,hw0,m1,hm1,hH1⟩ ih;have hw:=aF i (by omega);obtain ⟨k,t,cd,a,b,hx⟩:=CE l[i];have hm:l[i]∈l:=Qd hi;have hs:SizeOf.sizeOf l[i]<SizeOf.sizeOf l:=M6 hm;have ht:=UU hi;have hpl:pre l=pre (l.take (i+1))++pre (l.drop (i+1)):=by rw [<- EL,AK]
    have htl:(pre (l.take (i+1))).length<=(pre l).length:=by rw [hpl];simp
    rw [hx] at hs ht;rw [ER] at ht;simp at hs;have htl2:=htl;rw [ht] at htl2;simp at htl2;obtain ⟨O1,rfl,hO1,hup1⟩:=ga hH1;have r1:=wk_n p (pre (l.take i)) w;have al:=CH a;have bl:=CH b;have e2:wk p w (pre (l.take (i+1)))=wk p (wk p (wk1 p (wk p w (pre (l.take i))) (.mk k t cd a b)) (pre a)) (pre b):=by
     rw [ht,SD];show wk p (wk1 p (wk p w (pre (l.take i))) (.mk k t cd a b)) (pre a++pre b)=_;rw [SD]
    generalize hW:wk p w (pre (l.take i))=W at*;obtain ⟨m2,H2,hm2,hH2,c1⟩:=J' p k t cd a b W (m1+1) _ (hup1 (m1+1) (by omega)) hw0 ⟨by omega,by omega⟩ (by omega) (by omega) (by omega);have r2:(wk1 p W (.mk k t cd a b)).n<=W.n+1/\(wk1 p W (.mk k t cd a b)).us.length<=W.us.length+1/\W.n<=(wk1 p W (.mk k t cd a b)).n:=by
     have:=wk_n p [.mk k t cd a b] W;simp [wk] at this;omega
    simp only [Xa.e,Prg.e] at c1;simp only [chkF,Prg.e] at h1;by_cases y1:(wk1 p W (.mk k t cd a b)).e=0
    rotate_left
    ·-- the node is bad
     have e3:wk p w (pre l)=wk1 p W (.mk k t cd a b):=by
      rw [hpl,SD,e2,JU p _ y1,JU p _ y1,JU p _ y1]
     refine ⟨m2,H2,by omega,by rw [e3];exact hH2,?_⟩;simp [bK,h1,h7,h8,h9,hi,hx,Xa.e,hO1,c1,y1,e3]
    obtain ⟨m3,H3,hm3,hH3,c2⟩:=jt p n a _ m2 H2 hH2 y1 (by omega) (by omega) (by omega) (by omega);have r3:=wk_n p (pre a) (wk1 p W (.mk k t cd a b));simp only [chkF,Prg.e] at c2;generalize hW2:wk p (wk1 p W (.mk k t cd a b)) (pre a)=W2 at*;by_cases y2:W2.e=0
    rotate_left
    ·have e3:wk p w (pre l)=W2:=by
      rw [hpl,SD,e2,JU p _ y2,JU p _ y2]
     refine ⟨m3,H3,by omega,by rw [e3];exact hH3,?_⟩;simp [bK,h1,h7,h8,h9,hi,hx,Xa.e,hO1,c1,c2,y1,y2,e3]
    obtain ⟨m4,H4,hm4,hH4,c3⟩:=jt p n b _ m3 H3 hH3 y2 (by omega) (by omega) (by omega) (by omega);simp only [chkF,Prg.e] at c3;generalize hW3:wk p W2 (pre b)=W3 at*;by_cases y3:W3.e=0
    rotate_left
    ·have e3:wk p w (pre l)=W3:=by
      rw [hpl,SD,e2,JU p _ y3]
     refine ⟨m4,H4,by omega,by rw [e3];exact hH4,?_⟩;simp [bK,h1,h7,h8,h9,hi,hx,Xa.e,hO1,c1,c2,c3,y1,y2,y3,e3]
    simp [bK,h1,h7,h8,h9,hi,hx,Xa.e,hO1,c1,c2,c3,y1,y2,y3,hw];exact ih _ _ ⟨by simp [h1,chkF,Prg.e],by simp [h7],by simp [h8],by simp,by rw [e2];exact y3,m4,by omega,by rw [e2];exact hH4⟩
   ·rintro e H1 L hL ⟨h1,h7,h8,h9,hw0,m1,hm1,hH1⟩;rw [fF] at hw0 hH1;obtain ⟨O1,rfl,hO1,hup1⟩:=ga hH1;refine ⟨m1,_,hm1,hH1,?_⟩;simp [bK,lQ,h8,h9,hL,hw0]
   ·simp [chkF,pre,wk,he];exact ⟨m,Qb _,hH⟩
  obtain ⟨m',H',k1,k2,k3⟩:=goal;exact ⟨m',H',k1,k2,by rw [eQ rfl rfl];exact k3⟩
end Go.Av
