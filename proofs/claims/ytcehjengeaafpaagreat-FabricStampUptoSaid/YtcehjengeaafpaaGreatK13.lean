/-
 Parser states and the deparser: the program's answers.
-/
import Derived.Test.YtcehjengeaafpaaGreatK1
set_option linter.all false
namespace Go.Av
set_option maxRecDepth 4000
theorem LA (x y:BitVec 32):x&&& ~~~y=0#32↔x&&& y=x:=by
 constructor
 ·intro h;apply BitVec.eq_of_getLsbD_eq;intro i hi;have:=congrArg (·.getLsbD i) h;simp [hi] at this ⊢;exact this
 ·intro h;apply BitVec.eq_of_getLsbD_eq;intro i hi;have:=congrArg (·.getLsbD i) h;simp [hi] at this ⊢;exact this
theorem Er {n:Int} (h1:0<=n:=by omega) (h2:n<4294967296:=by omega):IntKind.wrap .u32 n=n:=by
 have e1:(2:Int)^32=4294967296:=rfl;simp only [IntKind.wrap,IntKind.bits,IntKind.signed,AN,e1];rw [QA (by simp)];omega
theorem J6 {v:Int} (h:ok32 0 v):BitVec.ofInt 32 v=BitVec.ofNat 32 v.toNat:=by
 obtain ⟨h1,h2⟩:=h;apply BitVec.eq_of_toNat_eq;simp;omega
theorem Fz {v m:Int} (hv:ok32 0 v) (hm:ok32 0 m):BP .u32 v m=0↔v.toNat&&& m.toNat=v.toNat:=by
 have hv2:=hv.2;have hm2:=hm.2;unfold BP;show IntKind.wrap .u32 ((BitVec.ofInt 32 v&&& ~~~BitVec.ofInt 32 m).toNat:Int)=0↔_;have hlt:=(BitVec.ofInt 32 v&&& ~~~BitVec.ofInt 32 m).isLt;rw [Er];rw [show (((BitVec.ofInt 32 v&&& ~~~BitVec.ofInt 32 m).toNat:Int)=0)↔(BitVec.ofInt 32 v&&& ~~~BitVec.ofInt 32 m)=0#32 by
  rw [<- BitVec.toNat_inj];simp only [CC];omega]
 rw [LA,J6 hv,J6 hm,<- BitVec.toNat_inj,E1,CC,CC,AJ (by omega),AJ (by omega)]
theorem M6 {v m:Int} (hv:ok32 0 v) (hm:ok32 0 m):iand .u32 v m=v↔v.toNat&&& m.toNat=v.toNat:=by
 have hv1:=hv.1;have hv2:=hv.2;have hm2:=hm.2;unfold iand;show IntKind.wrap .u32 ((BitVec.ofInt 32 v&&& BitVec.ofInt 32 m).toNat:Int)=v↔_;have hlt:=(BitVec.ofInt 32 v&&& BitVec.ofInt 32 m).isLt;rw [Er,J6 hv,J6 hm,E1,CC,CC,AJ (by omega),AJ (by omega)];omega
theorem Cs (p:Prg) (s:Nat) (n:Int):a9 Φ 373 [.agg (Prg.c p),.int .i64 s,.int .i64 n]=some (.val (.bool (oS p s n))):=by
 rw [aC rfl rfl];by_cases n1:n= -1
 ·simp [oA,Prg.e,oS,n1]
 by_cases n2:n= -2
 ·simp [oA,Prg.e,oS,n2]
 by_cases n3:(s:Int)<n
 ·simp [oA,Prg.e,oS,n1,n2,n3]
 ·simp [oA,Prg.e,oS,n1,n2,n3]
theorem OT (p:Prg) (s:Nat) (hs:s<p.Xw.length) (c:Xj) (h1:ok32 0 c.value) (h2:ok32 0 c.Yd):a9 Φ 372 [.agg (Prg.c p),.int .i64 s,.agg (Xj.c c)]=some (.val (.int .i64 (qF p s p.Xw[s] c))):=by
 rw [aC rfl rfl];have hw:=DI p p.Xw[s].on.header p.Xw[s].on.field;have f1:=D6 c.value (wid p p.Xw[s].on.header p.Xw[s].on.field);have f2:=D6 c.Yd (wid p p.Xw[s].on.header p.Xw[s].on.field);have hl:=Cs p s c.next;have ha:=Fz h1 h2;simp only [Prg.e] at hw hl;cases q1:fits c.value (wid p p.Xw[s].on.header p.Xw[s].on.field) with
 | false=>rw [q1] at f1;simp [mH,Prg.e,Xj.e,Xc.e,hs,hw,f1,qF,q1]
 | true=>
 rw [q1] at f1;cases q2:fits c.Yd (wid p p.Xw[s].on.header p.Xw[s].on.field) with
 | false=>rw [q2] at f2;simp [mH,Prg.e,Xj.e,Xc.e,hs,hw,f1,f2,qF,q1,q2]
 | true=>
 rw [q2] at f2;by_cases z:BP .u32 c.value c.Yd=0
 ·have z':=ha.1 z;cases q3:oS p s c.next with
  | true=>rw [q3] at hl;simp [mH,Prg.e,Xj.e,Xc.e,hs,hw,f1,f2,hl,qF,q1,q2,q3,z,z']
  | false=>rw [q3] at hl;simp [mH,Prg.e,Xj.e,Xc.e,hs,hw,f1,f2,hl,qF,q1,q2,q3,z,z']
 ·have z':¬(c.value.toNat&&& c.Yd.toNat=c.value.toNat):=fun h=>z (ha.2 h)
  simp [mH,Prg.e,Xj.e,Xc.e,hs,hw,f1,f2,qF,q1,q2,z,z']
def AB (p:Prg) (s:Nat) (x:Xc) (i:Nat):Option (Int×Int):=(x.cases[i]?).bind fun c=>if qF p s x c=0 then none else some ((i:Int),qF p s x c)
def stF (p:Prg) (s:Nat) (x:Xc):Int×Int:=if oS p s x.Yb then (0,0) else (-1,14)
def stK (p:Prg) (s:Nat) (x:Xc):Int×Int:=
 if x.select=true/\wid p x.on.header x.on.field=0 then (-1,8)
 else if x.select=false/\0<x.cases.length then (-1,11)
 else (fe (AB p s x) x.cases.length 0).getD (stF p s x)
theorem Y1 (p:Prg) (s:Nat) (x:Xc):stE p s x=if 4<x.extract.length\/8<x.cases.length then (-1,12)
  else if x.extract.any (fun h=>decide (h<0) || decide ((p.Xo.length:Int)<=h)) then (-1,8) else stK p s x:=by
 unfold stE stK;show (if _ then _ else if _ then _ else if _ then _ else if _ then _ else (match fe (AB p s x) x.cases.length 0 with | some e=>e | none=>stF p s x))=_;cases fe (AB p s x) x.cases.length 0<;>rfl
theorem Y4 (p:Prg) (s:Nat) (hs:s<p.Xw.length) (hv:∀c∈p.Xw[s].cases,ok32 0 c.value/\ok32 0 c.Yd) (hl:p.Xw[s].cases.length<2^40) (e:Env) (n:Nat)
  (h1:look 1 e=some (.int .i64 s)) (h2:look 2 e=some (.iptr 9 [Prg.c p] 0 0)) (h6:look 6 e=some (.iptr 7 [Xc.c p.Xw[s]] 0 0)):
  go Φ (finP [.tmp 4,.tmp 5]) [.c bR] .normal ⟨e,⟨[],n⟩⟩=some (.val (.tup [.int .i64 (stK p s p.Xw[s]).1,.int .i64 (stK p s p.Xw[s]).2])):=by
 have hw:=DI p p.Xw[s].on.header p.Xw[s].on.field;simp only [Prg.e] at hw;rw [Prg.e] at h2;rw [Xc.e] at h6;cases q:p.Xw[s].select with
 | true=>
  rw [q] at h6;by_cases z:wid p p.Xw[s].on.header p.Xw[s].on.field=0
  ·rw [z] at hw;simp [bR,h2,h6,hw,stK,q,z]
  rw [show stK p s p.Xw[s]=(fe (AB p s p.Xw[s]) p.Xw[s].cases.length 0).getD (stF p s p.Xw[s]) by simp [stK,q,z]];simp [bR,h2,h6,hw,z];refine eF p.Xw[s].cases.length (fun _=>[]) 0 (fun i e=>look 1 e=some (.int .i64 s)/\look 2 e=some (.iptr 9 [Prg.c p] 0 0)/\look 6 e=some (.iptr 7 [Xc.c p.Xw[s]] 0 0)/\look 65 e=some (.slice 3 (p.Xw[s].cases.map Xj.c))/\look 66 e=some (.int .i64 p.Xw[s].cases.length)/\look 67 e=some (.int .i64 i))
   (fun i=>some (Rt.val (.tup [.int .i64 ((fe (AB p s p.Xw[s]) p.Xw[s].cases.length i).getD (stF p s p.Xw[s])).1,.int .i64 ((fe (AB p s p.Xw[s]) p.Xw[s].cases.length i).getD (stF p s p.Xw[s])).2]))) ?_ ?_ 0 _ _ (Qc _) (Qc _) ?_
  ·rintro i e n L hi hL _ ⟨h1,h2,h6,h65,h66,h67⟩ ih;have hw:=aH i (by omega);have hc:=hv _ (Qd hi);have hE:=OT p s hs p.Xw[s].cases[i] hc.1 hc.2;simp only [Prg.e,Xj.e] at hE;rw [Prg.e] at h2;by_cases y:qF p s p.Xw[s] p.Xw[s].cases[i]=0
   ·rw [y] at hE;rw [eW hi (by simp [AB,hi,y])];simp [bB,Xj.e,h1,h2,h65,h66,h67,hi,hE,hw];exact ih _ _ (Qc _) ⟨by simp [h1],by simp [h2,Prg.e],by simp [h6],by simp [h65],by simp [h66],by simp⟩
   ·rw [bX (x:=((i:Int),qF p s p.Xw[s] p.Xw[s].cases[i])) hi (by simp [AB,hi,y])];simp [bB,Xj.e,h1,h2,h65,h66,h67,hi,hE,y]
  ·rintro e n L hL _ ⟨h1,h2,h6,h65,h66,h67⟩;rw [iQ];have hd:=Cs p s p.Xw[s].Yb;simp only [Prg.e] at hd;rw [Prg.e] at h2;rw [Xc.e] at h6;cases y:oS p s p.Xw[s].Yb with
   | true=>rw [y] at hd;simp [bB,cK,h1,h2,h6,h66,h67,hL,hd,stF,y]
   | false=>rw [y] at hd;simp [bB,cK,h1,h2,h6,h66,h67,hL,hd,stF,y]
  ·simp [h1,h2,h6,Prg.e,Xc.e,q]
 | false=>
  rw [q] at h6;by_cases z:0<p.Xw[s].cases.length
  ·simp [bR,h6,stK,q,z]
  have z0:p.Xw[s].cases.length=0:=by omega
  rw [show stK p s p.Xw[s]=stF p s p.Xw[s] by simp [stK,q,z0,iQ]];simp [bR,h6,z0];rw [cW];have hd:=Cs p s p.Xw[s].Yb;simp only [Prg.e] at hd;cases y:oS p s p.Xw[s].Yb with
  | true=>rw [y] at hd;simp [bB,cK,h1,h2,h6,hd,stF,y]
  | false=>rw [y] at hd;simp [bB,cK,h1,h2,h6,hd,stF,y]
theorem Y2 (p:Prg) (f:PrgS p) (s:Nat) (hs:s<p.Xw.length):a9 Φ 315 [.agg (Prg.c p),.int .i64 s]=some (.val (.tup [.int .i64 (stE p s p.Xw[s]).1,.int .i64 (stE p s p.Xw[s]).2])):=by
 rw [aC rfl rfl,Y1];by_cases z0:4<p.Xw[s].extract.length
 ·simp [pT,Prg.e,Xc.e,hs,z0]
 by_cases z1:8<p.Xw[s].cases.length
 ·simp [pT,Prg.e,Xc.e,hs,z0,z1]
 rw [QA (by omega)];generalize hX:(if p.Xw[s].extract.any (fun h=>decide (h<0) || decide ((p.Xo.length:Int)<=h))=true then ((-1:Int),(8:Int)) else stK p s p.Xw[s])=X;simp [pT,Prg.e,Xc.e,hs,z0,z1];refine (Cv p.Xw[s].extract (fun h=>decide (h<0) || decide ((p.Xo.length:Int)<=h)) (some (Rt.val (.tup [.int .i64 (-1),.int .i64 8]))) (some (Rt.val (.tup [.int .i64 (stK p s p.Xw[s]).1,.int .i64 (stK p s p.Xw[s]).2])))
  (fun i e H=>look 1 e=some (.int .i64 s)/\look 2 e=some (.iptr 9 [Prg.c p] 0 0)/\look 6 e=some (.iptr 7 [Xc.c p.Xw[s]] 0 0)/\look 28 e=some (.slice 1 (p.Xw[s].extract.map cI))/\look 29 e=some (.int .i64 p.Xw[s].extract.length)/\look 30 e=some (.int .i64 i)/\∃n,H=⟨[],n⟩) ?_ ?_ ?_ _ _ ?_).trans ?_
 ·rintro i e _ L hi hL ⟨h1,h2,h6,h28,h29,h30,n,rfl⟩ hb;rw [Prg.e] at h2;simp only [uG,decide_eq_true_eq] at hb;by_cases y0:p.Xw[s].extract[i]<0
  ·simp [cL,cI,h28,h29,h30,hi,y0]
  ·have y1:(p.Xo.length:Int)<=p.Xw[s].extract[i]:=by omega
   simp [cL,cI,h2,h28,h29,h30,hi,y0,y1]
 ·rintro i e _ L X hi hL ⟨h1,h2,h6,h28,h29,h30,n,rfl⟩ hb ih;have hw:=aH i (by omega);rw [Prg.e] at h2;simp only [AG,decide_eq_false_iff_not] at hb;simp [cL,cI,h2,h28,h29,h30,hi,hb,hw];exact ih _ _ ⟨by simp [h1],by simp [h2,Prg.e],by simp [h6],by simp [h28],by simp [h29],by simp,n,rfl⟩
 ·rintro e _ L hL ⟨h1,h2,h6,h28,h29,h30,n,rfl⟩;simp [cL,h29,h30,hL];refine Y4 p s hs (fun c hc=>f.sv _ (Qd hs) c hc) (f.sc _ (Qd hs)) _ _ ?_ ?_ ?_
  ·simp [h1]
  ·simp [h2]
  ·simp [h6]
 ·simp [Prg.e,Xc.e]
 ·rw [<- hX];cases p.Xw[s].extract.any (fun h=>decide (h<0) || decide ((p.Xo.length:Int)<=h))<;>rfl
theorem HK {α I:Type} [BEq I] [LawfulBEq I] [DecidableEq I] (f:α->I) (a:I):∀l:List α,(l.map f).contains a=l.any fun y=>decide (f y=a)
 | []=>by simp
 | x::l=>by
  have ih:=HK f a l;simp only [jL,List.contains_cons,uH,ih];congr 1;by_cases h:a=f x
  ·subst h;simp
  ·have h2:¬f x=a:=fun e=>h e.symm
   simp [h,h2]
def parG (p:Prg) (s:Nat):Option (Int×Int×Int):=(p.Xw[s]?).bind fun x=>if idS x.name=false then some ((s:Int),(-1:Int),(6:Int)) else if dupN Xc.name p.Xw s x then some ((s:Int),-1,7)
  else if (stE p s x).2=0 then none else some ((s:Int),(stE p s x).1,(stE p s x).2)
def tup3 (x:Int×Int×Int):Rt:= .val (.tup [.int .i64 x.1,.int .i64 x.2.1,.int .i64 x.2.2])
theorem TJ (p:Prg) (f:PrgS p):a9 Φ 221 [.agg (Prg.c p)]=some (tup3 (parE p)):=by
 rw [aC rfl rfl];by_cases z0:p.Xw.length=0
 ·simp [pH,Prg.e,z0,parE,tup3]
 by_cases z1:12<p.Xw.length
 ·simp [pH,Prg.e,z0,z1,parE,tup3]
 have hE:parE p=(fe (parG p) p.Xw.length 0).getD (0,0,0):=by unfold parE;rw [QA z0,QA z1];rfl
 rw [hE];simp [pH,Prg.e,z0,z1];refine eF p.Xw.length (fun i=>[(0,.map (setS ((p.Xw.map (·.name)).take i)))]) 1 (fun i e=>look 1 e=some (.iptr 9 [Prg.c p] 0 0)/\look 5 e=some (.map 0)/\look 22 e=some (.slice 7 (p.Xw.map Xc.c))/\look 23 e=some (.int .i64 p.Xw.length)/\look 24 e=some (.int .i64 i))
  (fun i=>some (tup3 ((fe (parG p) p.Xw.length i).getD (0,0,0)))) ?_ ?_ 0 _ 1 (Qc _) (Qb _) ?_
 ·rintro i e n L hi hL hn ⟨h1,h5,h22,h23,h24⟩ ih;have hw:=aH i (by omega);have hn0:¬(0=n):=by omega
  have hn1:¬(n=0):=by omega
  have nf:=CO p.Xw[i].name (f.sn _ (Qd hi));have hs:=Y2 p f i hi;simp only [Prg.e] at hs;rw [Prg.e] at h1;cases q1:idS p.Xw[i].name with
  | false=>
   rw [q1] at nf;rw [bX (x:=((i:Int),-1,6)) hi (by simp [parG,hi,q1])];simp [bM,Xc.e,h22,h23,h24,hi,hn0,nf,tup3]
  | true=>
  rw [q1] at nf;have hd:((p.Xw.map (·.name)).take i).contains p.Xw[i].name=dupN Xc.name p.Xw i p.Xw[i]:=by
   rw [<- CG,HK];rfl
  have hfnd:=Jh p.Xw[i].name ((p.Xw.map (·.name)).take i);rw [hd] at hfnd;cases q2:dupN Xc.name p.Xw i p.Xw[i] with
  | true=>
   rw [q2] at hfnd;rw [bX (x:=((i:Int),-1,7)) hi (by simp [parG,hi,q1,q2])];simp [bM,Xc.e,h5,h22,h23,h24,hi,hn0,nf,hfnd,tup3]
  | false=>
   rw [q2] at hfnd hd;have hput:=Le p.Xw[i].name ((p.Xw.map (·.name)).take i) hd;rw [show (p.Xw.map (·.name)).take i++[p.Xw[i].name]=(p.Xw.map (·.name)).take (i+1) from (q6 hi).symm] at hput;by_cases y:(stE p i p.Xw[i]).2=0
   ·rw [y] at hs;rw [eW hi (by simp [parG,hi,q1,q2,y])];simp [bM,Xc.e,h1,h5,h22,h23,h24,hi,hn0,nf,hfnd,hput,hs,hw];exact ih _ _ (by omega) ⟨by simp [h1,Prg.e],by simp [h5],by simp [h22],by simp [h23],by simp⟩
   ·rw [bX (x:=((i:Int),(stE p i p.Xw[i]).1,(stE p i p.Xw[i]).2)) hi (by simp [parG,hi,q1,q2,y])];simp [bM,Xc.e,h1,h5,h22,h23,h24,hi,hn0,nf,hfnd,hput,hs,y,tup3]
 ·rintro e n L hL hn ⟨h1,h5,h22,h23,h24⟩;rw [iQ];simp [bM,kJ,h23,h24,hL,tup3]
 ·simp [Prg.e]
theorem M8 (l:List Int) (x:Int) (hl:l.length<2^40):a9 Φ 375 [.slice 1 (l.map cI),.int .i64 x]=some (.val (.int .i64 (ix (fun s=>decide (x=s)) l 0))):=by
 rw [aC rfl rfl];simp [yL];refine (oD l.length (fun i e=>look 0 e=some (.slice 1 (l.map cI))/\look 1 e=some (.int .i64 x)/\look 7 e=some (.int .i64 l.length)/\look 8 e=some (.int .i64 i))
  (fun i=>some (.val (.int .i64 (ix (fun s=>decide (x=s)) l i)))) ?_ ?_ 0 _ (Qc _) ?_).trans (by simp)
 ·rintro i e L hi hL ⟨h0,h1,h7,h8⟩ ih;have hw:=aH i (by omega);by_cases z:x=l[i]
  ·rw [DG hi (by simpa using z)];simp [eC,cI,h0,h1,h7,h8,hi,<- z]
  ·rw [D7 hi (by simpa using z)];simp [eC,cI,h0,h1,h7,h8,hi,z,hw];exact ih _ ⟨by simp [h0],by simp [h1],by simp [h7],by simp⟩
 ·rintro e L hL ⟨h0,h1,h7,h8⟩;rw [DF];simp [eC,lE,h7,h8,hL]
 ·simp
theorem Wq (l:List Int) (x:Int) (hl:l.length<2^40):a9 Φ 322 [.slice 1 (l.map cI),.int .i64 x]=some (.val (.bool (l.contains x))):=by
 rw [aC rfl rfl];have h:=M8 l x hl;have e:=DE (p:=fun s=>decide (x=s)) (l:=l);have e2:l.contains x=l.any fun s=>decide (x=s):=by
  have:=HK (fun y:Int=>y) x l;rw [List.map_id'] at this;rw [this];congr 1;funext y;simp [eq_comm]
 simp [xP,h];have e3:=e.trans e2.symm;simpa using e3
def depG (p:Prg) (i:Nat):Option (Int×Int):=(p.Xr[i]?).bind fun h=>if h<0\/(p.Xo.length:Int)<=h then some ((i:Int),(8:Int)) else if (p.Xr.take i).contains h then some ((i:Int),7) else none
theorem TC (p:Prg) (f:PrgS p):a9 Φ 223 [.agg (Prg.c p)]=some (.val (.tup [.int .i64 (depE p).1,.int .i64 (depE p).2])):=by
 rw [aC rfl rfl];by_cases z1:8<p.Xr.length
 ·simp [s6,Prg.e,z1,depE]
 have hE:depE p=(fe (depG p) p.Xr.length 0).getD (0,0):=by unfold depE;rw [QA z1];rfl
 rw [hE];simp [s6,Prg.e,z1];refine oD p.Xr.length (fun i e=>look 1 e=some (.iptr 9 [Prg.c p] 0 0)/\look 11 e=some (.slice 1 (p.Xr.map cI))/\look 12 e=some (.int .i64 p.Xr.length)/\look 13 e=some (.int .i64 i))
  (fun i=>some (Rt.val (.tup [.int .i64 ((fe (depG p) p.Xr.length i).getD (0,0)).1,.int .i64 ((fe (depG p) p.Xr.length i).getD (0,0)).2]))) ?_ ?_ 0 _ (Qc _) ?_
 ·rintro i e L hi hL ⟨h1,h11,h12,h13⟩ ih;have hw:=aH i (by omega);have hi':i<=p.Xr.length:=by omega
  rw [Prg.e] at h1;by_cases y0:p.Xr[i]<0
  ·rw [bX (x:=((i:Int),8)) hi (by simp [depG,hi,y0])];simp [bN,cI,h11,h12,h13,hi,y0]
  by_cases y1:(p.Xo.length:Int)<=p.Xr[i]
  ·rw [bX (x:=((i:Int),8)) hi (by simp [depG,hi,y0,y1])];simp [bN,cI,h1,h11,h12,h13,hi,y0,y1]
  have hc:=Wq (p.Xr.take i) p.Xr[i] (by simp;omega);rw [CG] at hc;cases q:(p.Xr.take i).contains p.Xr[i] with
  | true=>
   rw [q] at hc;rw [bX (x:=((i:Int),7)) hi (by simp only [depG,Qa hi,fB];rw [QA (by omega),q];rfl)];simp [bN,cI,h1,h11,h12,h13,hi,hi',y0,y1,hc]
  | false=>
   rw [q] at hc;rw [eW hi (by simp only [depG,Qa hi,fB];rw [QA (by omega),q];rfl)];simp [bN,cI,h1,h11,h12,h13,hi,hi',y0,y1,hc,hw];exact ih _ ⟨by simp [h1,Prg.e],by simp [h11],by simp [h12],by simp⟩
 ·rintro e L hL ⟨h1,h11,h12,h13⟩;rw [iQ];simp [bN,kK,h12,h13,hL]
 ·simp [Prg.e]
def nodeU (p:Prg) (us:List Int) (x:Xa):Int:=
 if x.kind=2 then (if (exE p [] x.cond).2=0 then (if (exE p [] x.cond).1=1 then 0 else 10) else (exE p [] x.cond).2)
 else if x.kind=1\/x.kind=3 then (if x.table<0\/(p.Xm.length:Int)<=x.table then 8
  else if us.contains x.table then 7
  else if x.kind=1/\0<x.thn.length+x.els.length then 5 else 0)
 else 11
theorem Gu:∀a b:List Xa,pre (a++b)=pre a++pre b
 | [],b=>by simp [pre]
 | x::a,b=>by simp [pre,Gu a b]
theorem Nk (x:Xa):∃k t c a b,x= .mk k t c a b:=by
 cases x with
 | mk k t c a b=>exact ⟨k,t,c,a,b,rfl⟩
structure Wk where
 e:Int
 n:Int
 us:List Int
def wk1 (p:Prg) (w:Wk) (x:Xa):Wk:=if w.e≠0 then w else if nodeU p w.us x≠0 then ⟨nodeU p w.us x,w.n,w.us⟩ else ⟨0,w.n+1,if appl x then w.us++[x.table] else w.us⟩
def wk (p:Prg) (w:Wk) (l:List Xa):Wk:=l.foldl (wk1 p) w
def dgC (d:Dg):List AV:=[.int .i64 d.1,.int .i64 d.2.1,.int .i64 d.2.2.1,.int .i64 d.2.2.2]
theorem Dq (c:Int):a9 Φ 184 [.int .u8 c]=some (.val (.bool (letC c))):=by
 rw [aC rfl rfl];by_cases h1:97<=c<;>by_cases h2:c<=122<;>by_cases h3:65<=c<;>simp [vQ,letC,h1,h2,h3]
theorem Mg (c:Int):a9 Φ 185 [.int .u8 c]=some (.val (.bool (digI c))):=by
 rw [aC rfl rfl];by_cases h1:48<=c<;>simp [vR,digI,h1]
theorem ND (s:List UInt8) (hs:s.length<2^40):a9 Φ 108 [.str s]=some (.val (.bool (idS s))):=by
 rw [aC rfl rfl];by_cases h0:s.length=0
 ·have:s=[]:=Qg h0;subst this;simp [nM,idS]
 have hp:0<s.length:=by omega
 have hne:¬s=[]:=by intro h;subst h;simp at h0
 rw [Mw hp];by_cases h16:16<s.length
 ·simp [nM,hne,h16,Qf.2 h16]
 have hl:=Dq (s[0].toNat:Int);cases q:letC (s[0].toNat:Int) with
 | false=>
  rw [q] at hl;simp [nM,hne,hp,h16,hl]
 | true=>
  rw [q] at hl;generalize hX:(decide (s.length<=16)&&(true&&s.all fun b=>idC b.toNat))=X;simp [nM,hne,hp,h16,hl];refine (Cv s (fun b=> !idC b.toNat) (some (Rt.val (.bool false))) (some (Rt.val (.bool true)))
   (fun i e H=>look 0 e=some (.str s)/\look 3 e=some (.int .i64 i)/\H=⟨[],0⟩) ?_ ?_ ?_ _ _ ?_).trans ?_
  ·rintro i e _ L hi hL ⟨h0,h3,rfl⟩ hb;have g1:=Dq (s[i].toNat:Int);have g2:=Mg (s[i].toNat:Int);cases z1:letC (s[i].toNat:Int) with
   | true=>simp [idC,z1] at hb
   | false=>
    cases z2:digI (s[i].toNat:Int) with
    | true=>simp [idC,z1,z2] at hb
    | false=>
     rw [z1] at g1;rw [z2] at g2;simp only [idC,z1,z2,AP,rJ,decide_eq_false_iff_not] at hb;simp [bI,h0,h3,hi,g1,g2,hb]
  ·rintro i e _ L X hi hL ⟨h0,h3,rfl⟩ hb ih;have hw:=aH i (by omega);have g1:=Dq (s[i].toNat:Int);have g2:=Mg (s[i].toNat:Int);cases z1:letC (s[i].toNat:Int) with
   | true=>
    rw [z1] at g1;simp [bI,h0,h3,hi,g1,hw];exact ih _ _ ⟨by simp [h0],by simp,rfl⟩
   | false=>
    rw [z1] at g1;cases z2:digI (s[i].toNat:Int) with
    | true=>
     rw [z2] at g2;simp [bI,h0,h3,hi,g1,g2,hw];exact ih _ _ ⟨by simp [h0],by simp,rfl⟩
    | false=>
     rw [z2] at g2;simp only [idC,z1,z2,AP,Bool.not_eq_false',decide_eq_true_eq] at hb;rw [hb] at g1 g2;simp [bI,h0,h3,hi,g1,g2,hb,hw];exact ih _ _ ⟨by simp [h0],by simp,rfl⟩
  ·rintro e _ L hL ⟨h0,h3,rfl⟩;simp [bI,jQ,h0,h3,hL]
  ·simp
  ·rw [<- hX];have:(s.any fun b=> !idC b.toNat)= !(s.all fun b=>idC b.toNat):=by
    rw [List.not_all_eq_any_not]
   rw [this];have h16':decide (s.length<=16)=true:=by simpa using h16
   rw [h16'];cases s.all fun b=>idC b.toNat<;>rfl
theorem D3 {n:Int} (h1:0<=n:=by omega) (h2:n<18446744073709551616:=by omega):IntKind.wrap .u64 n=n:=by
 have e1:(2:Int)^64=18446744073709551616:=rfl;simp only [IntKind.wrap,IntKind.bits,IntKind.signed,AN,e1];rw [QA (by simp)];omega
theorem Md {i:Nat} (h:i<63):IntKind.wrap .u64 (2*2^i)=2^(i+1):=by
 have h1:(2:Int)^(i+1)=2*2^i:=by rw [Int.pow_succ];omega
 have h2:(2:Int)^i<=2^62:=by
  have:=uD (n:=2) (by omega) (show i<=62 by omega)
  exact_mod_cast this
 have h0:(0:Int)<2^i:=by
  have:=Nat.pow_pos (a:=2) (n:=i) (by omega)
  exact_mod_cast this
 have h3:(2:Int)^62=4611686018427387904:=rfl;rw [h1];exact D3
theorem IA (w:Int):a9 Φ 308 [.int .i64 w]=some (.val (.bool (!wBad w))):=by
 rw [aC rfl rfl];by_cases h1:w<1
 ·simp [pS,wBad,h1,tO.2 h1]
 ·by_cases h2:32<w
  ·simp [pS,wBad,h1,nD.1 h1,h2,tO.2 h2]
  ·simp [pS,wBad,h1,nD.1 h1,h2,nD.1 h2]
theorem II (n:Nat) (hn:n<63):a9 Φ 309 [.int .i64 n]=some (.val (.int .u64 (2^n))):=by
 rw [aC rfl rfl];simp [wY];refine (oD n (fun i e=>look 0 e=some (.int .i64 n)/\look 3 e=some (.int .u64 (2^i))/\look 4 e=some (.int .i64 i)) (fun i=>some (Rt.val (.int .u64 (2^n)))) ?_ ?_ 0 _ (Qc _) ?_).trans (by simp)
 ·rintro i e L hi hL ⟨h0,h3,h4⟩ ih;have hw:=aH i (by omega);have hp:=Md (i:=i) (by omega);simp [gE,h0,h3,h4,hi,hw,hp];exact ih _ ⟨by simp [h0],by simp,by simp⟩
 ·rintro e L hL ⟨h0,h3,h4⟩;simp [gE,kY,h0,h3,h4,hL]
 ·simp
theorem Cy (v w:Int) (hv:ok32 0 v):a9 Φ 202 [.int .u32 v,.int .i64 w]=some (.val (.bool (fits v w))):=by
 rw [aC rfl rfl];have h1:=IA w;have hv1:=hv.1;have hv2:=hv.2;have hc:IntKind.wrap .u64 v=v:=D3;cases q:wBad w with
 | true=>
  rw [q] at h1;simp [s5,h1,fits,q]
 | false=>
  rw [q] at h1;obtain ⟨w1,w2⟩:=wBad_false.1 q;obtain ⟨k,rfl⟩:∃k:Nat,w=k:=⟨w.toNat,by omega⟩;have h2:=II k (by omega);simp [s5,h1,h2,hc,fits,q]
theorem KG (v:Int) (hv:ok32 0 v) (k:Nat) (hk:k<=32):a9 Φ 122 [.int .u32 v,.int .i64 k]=some (.val (.bool (decide (v<2^k)))):=by
 rw [aC rfl rfl];have hv1:=hv.1;have hv2:=hv.2;have hc:IntKind.wrap .u64 v=v:=D3;generalize hX:decide (v<2^k)=X;simp [vE];refine (oD k (fun i e=>look 0 e=some (.int .u32 v)/\look 1 e=some (.int .i64 k)/\look 5 e=some (.int .u64 (2^i))/\look 6 e=some (.int .i64 i)) (fun i=>some (Rt.val (.bool X))) ?_ ?_ 0 _ (Qc _) ?_).trans (by simp)
 ·rintro i e L hi hL ⟨h0,h1,h5,h6⟩ ih;have hw:=aH i (by omega);have hp:=Md (i:=i) (by omega);simp [fD,h1,h5,h6,hi,hw,hp];exact ih _ ⟨by simp [h0],by simp [h1],by simp,by simp⟩
 ·rintro e L hL ⟨h0,h1,h5,h6⟩;simp [fD,jT,h0,h1,h5,h6,hL,hc,<- hX]
 ·simp
theorem Jd (p:Prg) (h i:Int):a9 Φ 302 [.agg (Prg.c p),.agg [.int .i64 h,.int .i64 i]]=some (.val (.int .i64 (wid p h i))):=by
 rw [aC rfl rfl];have tail:∀(l:List Fld),(∀j:Int,decl p h j=(at? l j).map (·.Yc))->(i<0/\wid p h i=0)\/(¬i<0/\(l.length:Int)<=i/\wid p h i=0)\/∃k:Nat,∃hk:k<l.length,i=k/\((l[k].Yc<1/\wid p h i=0)\/(¬l[k].Yc<1/\32<l[k].Yc/\wid p h i=0)\/(¬l[k].Yc<1/\¬32<l[k].Yc/\wid p h i=l[k].Yc)):=by
  intro l hd;by_cases i0:i<0
  ·exact .inl ⟨i0,by simp [wid,hd,iC i0]⟩
  by_cases i1:(l.length:Int)<=i
  ·exact .inr (.inl ⟨i0,i1,by simp [wid,hd,iK i1]⟩)
  obtain ⟨k,hk⟩:∃k:Nat,i=k:=⟨i.toNat,by omega⟩;refine .inr (.inr ⟨k,by omega,hk,?_⟩);have hk2:k<l.length:=by omega
  have e:wid p h i=if wBad l[k].Yc then 0 else l[k].Yc:=by simp [wid,hd,hk,hk2]
  by_cases w1:l[k].Yc<1
  ·exact .inl ⟨w1,by rw [e];simp [wBad,w1]⟩
  by_cases w2:32<l[k].Yc
  ·exact .inr (.inl ⟨w1,w2,by rw [e];simp [wBad,w2]⟩)
  ·exact .inr (.inr ⟨w1,w2,by rw [e];simp [wBad,w1,w2]⟩)
 by_cases h0:0<=h
 ·have hm:¬h= -1:=by omega
  have hm2:¬h< -1:=by omega
  by_cases h1:(p.Xo.length:Int)<=h
  ·rw [show wid p h i=0 by simp [wid,decl,hm,iK h1]];simp [cJ,Prg.e,h0,h1]
  obtain ⟨m,rfl⟩:∃k:Nat,h=k:=⟨h.toNat,by omega⟩;have hk:m<p.Xo.length:=by omega
  rcases tail p.Xo[m].Xz (by intro j;simp [decl,hm,hk]) with ⟨i0,e⟩ | ⟨i0,i1,e⟩ | ⟨k,hk2,rfl,⟨w1,e⟩ | ⟨w1,w2,e⟩ | ⟨w1,w2,e⟩⟩
  ·rw [e];simp [cJ,Prg.e,Xi.e,hk,Qf.2 hk,hm2,i0]
  ·rw [e];simp [cJ,Prg.e,Xi.e,hk,Qf.2 hk,hm2,i0,i1]
  ·rw [e];simp [cJ,Prg.e,Xi.e,Fld.e,hk,Qf.2 hk,hm2,hk2,Qf.2 hk2,w1]
  ·rw [e];simp [cJ,Prg.e,Xi.e,Fld.e,hk,Qf.2 hk,hm2,hk2,Qf.2 hk2,w1,w2]
  ·rw [e];simp [cJ,Prg.e,Xi.e,Fld.e,hk,Qf.2 hk,hm2,hk2,Qf.2 hk2,w1,w2]
 by_cases hm:h= -1
 ·subst hm;rcases tail p.Xn (by intro j;simp [decl]) with ⟨i0,e⟩ | ⟨i0,i1,e⟩ | ⟨k,hk2,rfl,⟨w1,e⟩ | ⟨w1,w2,e⟩ | ⟨w1,w2,e⟩⟩
  ·rw [e];simp [cJ,Prg.e,i0]
  ·rw [e];simp [cJ,Prg.e,i0,i1]
  ·rw [e];simp [cJ,Prg.e,Fld.e,hk2,Qf.2 hk2,w1]
  ·rw [e];simp [cJ,Prg.e,Fld.e,hk2,Qf.2 hk2,w1,w2]
  ·rw [e];simp [cJ,Prg.e,Fld.e,hk2,Qf.2 hk2,w1,w2]
 ·have hm2:h< -1:=by omega
  rw [show wid p h i=0 by simp [wid,decl,hm,iC (show h<0 by omega)]];simp [cJ,Prg.e,h0,hm2]
def fxO {α:Type} (q:α->Bool) (l:List α) (j:Nat):Option Int:=fe (fun k=>(l[k]?).bind fun f=>if q f then some (k:Int) else none) l.length j
theorem Mt {α:Type} {q:α->Bool} {l:List α} {i:Nat} (hi:i<l.length) (h:q l[i]=true):fxO q l i=some (i:Int):=by
 unfold fxO;rw [bX (x:=(i:Int)) hi (by simp [hi,h])]
theorem PL {α:Type} {q:α->Bool} {l:List α} {i:Nat} (hi:i<l.length) (h:q l[i]=false):fxO q l i=fxO q l (i+1):=by
 unfold fxO;rw [eW hi (by simp [hi,h])]
theorem F5 {α:Type} {q:α->Bool} {l:List α} {i:Nat} (hi:i<l.length) (h:q l[i]=true):∀n j,n+j=i->∃k:Nat,fxO q l j=some (k:Int)/\(decide ((k:Int)<i)=qA (l.take i) q j)
 | 0,j,e=>by
  have:j=i:=by omega
  subst this;refine ⟨j,Mt hi h,?_⟩;have:=Dl (l:=l.take j) (p:=q);rw [show (l.take j).length=j by simp;omega] at this;rw [this];simp
 | n+1,j,e=>by
  have hj:j<l.length:=by omega
  have hj2:j<(l.take i).length:=by simp;omega
  have e1:(l.take i)[j]=l[j]:=by simp
  cases z:q l[j] with
  | true=>
   refine ⟨j,Mt hj z,?_⟩;rw [Ly hj2 (by rw [e1];exact z)];simp;omega
  | false=>
   obtain ⟨k,k1,k2⟩:=F5 hi h n (j+1) (by omega);refine ⟨k,by rw [PL hj z];exact k1,?_⟩;rw [IK hj2 (by rw [e1];exact z)];exact k2
theorem QW (w:Int):a9 Φ 307 [.int .i64 w]=some (.val (.int .u32 (bF w))):=by
 rw [aC rfl rfl];have h1:=IA w;cases q:wBad w with
 | true=>
  rw [q] at h1;simp [sJ,h1,bF,q]
 | false=>
  rw [q] at h1;obtain ⟨w1,w2⟩:=wBad_false.1 q;obtain ⟨k,rfl⟩:∃k:Nat,w=k:=⟨w.toNat,by omega⟩;have h2:=II k (by omega);have hb:(2:Int)^k<=2^32:=by
   have:=uD (n:=2) (by omega) (show k<=32 by omega)
   exact_mod_cast this
  have h0:(0:Int)<2^k:=by
   have:=Nat.pow_pos (a:=2) (n:=k) (by omega)
   exact_mod_cast this
  have c1:IntKind.wrap .u64 ((2:Int)^k - 1)=2^k - 1:=D3;have c2:IntKind.wrap .u32 ((2:Int)^k - 1)=2^k - 1:=Er;simp [sJ,h1,h2,c1,c2,bF,q]
theorem Bf (p:Prg) (f:PrgS p) (c:Xb) (hc:c.args.length<2^40) (hv:∀v∈c.args,ok32 0 v):a9 Φ 121 [.agg (Prg.c p),.agg (Xb.c c)]=some (.val (.int .i64 (iL p c))):=by
 rw [aC rfl rfl];by_cases i0:c.Xy<0
 ·simp [nO,Prg.e,Xb.e,i0,iL,iC i0]
 by_cases i1:(p.Xx.length:Int)<=c.Xy
 ·simp [nO,Prg.e,Xb.e,i0,i1,iL,iK i1]
 obtain ⟨k,hk0⟩:∃k:Nat,c.Xy=k:=⟨c.Xy.toNat,by omega⟩;have hk:k<p.Xx.length:=by omega
 by_cases z:c.args.length=p.Xx[k].params.length
 rotate_left
 ·simp [nO,Prg.e,Xb.e,Action.e,hk0,hk,Qf.2 hk,iL,z]
 have hE:iL p c=errO (fe (AA c.args p.Xx[k].params) c.args.length 0):=by simp [iL,hk0,hk,z]<;>rfl
 rw [hE];simp [nO,Prg.e,Xb.e,Action.e,hk0,hk,Qf.2 hk,z];rw [<- z];refine oD c.args.length (fun i e=>look 3 e=some (.iptr 2 [Xb.c c] 0 0)/\look 5 e=some (.slice 2 (p.Xx[k].params.map Fld.c))/\look 6 e=some (.int .i64 i))
  (fun i=>some (Rt.val (.int .i64 (errO (fe (AA c.args p.Xx[k].params) c.args.length i))))) ?_ ?_ 0 _ (Qc _) ?_
 ·rintro i e L hi hL ⟨h3,h5,h6⟩ ih;have hw:=aH i (by omega);have hi2:i<p.Xx[k].params.length:=by omega
  have hf:=Cy c.args[i] p.Xx[k].params[i].Yc (hv _ (Qd hi));rw [Xb.e] at h3;cases y:fits c.args[i] p.Xx[k].params[i].Yc with
  | true=>
   rw [y] at hf;rw [eW hi (by simp [AA,hi,hi2,y])];simp [dD,Fld.e,c32,h3,h5,h6,hi,hi2,hf,hw];exact ih _ ⟨by simp [h3,Xb.e],by simp [h5],by simp⟩
  | false=>
   rw [y] at hf;rw [bX (x:=9) hi (by simp [AA,hi,hi2,y])];simp [dD,Fld.e,c32,h3,h5,h6,hi,hi2,hf]
 ·rintro e L hL ⟨h3,h5,h6⟩;rw [iQ];simp [dD,jS,h5,h6,hL,<- z]
 ·simp [Xb.e,hk0]
theorem Bh (l:List Int) (x:Int) (hl:l.length<2^40):a9 Φ 201 [.slice 1 (l.map cI),.int .i64 x]=some (.val (.int .i64 (ix (fun s=>decide (s=x)) l 0))):=by
 rw [aC rfl rfl];simp [vW];refine (oD l.length (fun i e=>look 0 e=some (.slice 1 (l.map cI))/\look 1 e=some (.int .i64 x)/\look 5 e=some (.int .i64 i))
  (fun i=>some (.val (.int .i64 (ix (fun s=>decide (s=x)) l i)))) ?_ ?_ 0 _ (Qc _) ?_).trans (by simp)
 ·rintro i e L hi hL ⟨h0,h1,h5⟩ ih;have hw:=aH i (by omega);by_cases z:l[i]=x
  ·rw [DG hi (by simpa using z)];simp [dK,cI,h0,h1,h5,hi,z]
  ·rw [D7 hi (by simpa using z)];simp [dK,cI,h0,h1,h5,hi,z,hw];exact ih _ ⟨by simp [h0],by simp [h1],by simp⟩
 ·rintro e L hL ⟨h0,h1,h5⟩;rw [DF];simp [dK,kG,h0,h5,hL]
 ·simp
theorem NH (p:Prg) (x:Tbl) (hl:x.keys.length<2^40):a9 Φ 190 [.agg (Prg.c p),.agg (Tbl.c x)]=some (.val (.tup [.int .i64 (qH p x).1,.int .i64 (qH p x).2])):=by
 rw [aC rfl rfl];have hE:qH p x=(fe (keyG p x) x.keys.length 0).getD (qI p x):=by
  unfold qH keyE;show (match fe (keyG p x) x.keys.length 0 with | some e=>e | none=>qI p x)=_;cases fe (keyG p x) x.keys.length 0<;>rfl
 rw [hE];simp [vS,Prg.e,Tbl.e];refine oD x.keys.length (fun i e=>look 2 e=some (.iptr 9 [Prg.c p] 0 0)/\look 3 e=some (.iptr 6 [Tbl.c x] 0 0)/\look 7 e=some (.int .i64 ((x.keys.take i).countP fun k=>decide (k.kind=2):Nat))/\look 6 e=some (.int .i64 ((kWid p x).take i).sum)/\look 8 e=some (.int .i64 i))
  (fun i=>some (Rt.val (.tup [.int .i64 ((fe (keyG p x) x.keys.length i).getD (qI p x)).1,.int .i64 ((fe (keyG p x) x.keys.length i).getD (qI p x)).2]))) ?_ ?_ 0 _ (Qc _) ?_
 ·rintro i e L hi hL ⟨h2,h3,h7,h6,h8⟩ ih;have hw:=aH i (by omega);have hv:=Jd p x.keys[i].field.header x.keys[i].field.field;simp only [Prg.e] at hv;rw [Prg.e] at h2;rw [Tbl.e] at h3;by_cases z:wid p x.keys[i].field.header x.keys[i].field.field=0
  ·rw [z] at hv;rw [bX (x:=((i:Int),8)) hi (by simp [keyG,hi,z])];simp [aP,Xk.e,h2,h3,h8,hi,hv]
  have hs:=HT p x (i+1) (by omega);have hs0:=HT p x i (by omega);have he:((kWid p x).take (i+1)).sum=((kWid p x).take i).sum+wid p x.keys[i].field.header x.keys[i].field.field:=by
   have hl:i<(kWid p x).length:=by simp [kWid];omega
   rw [Qh hl,E4,DX];congr 1;simp [kWid]
  have hw7:IntKind.wrap .i64 (((kWid p x).take i).sum+wid p x.keys[i].field.header x.keys[i].field.field)=((kWid p x).take (i+1)).sum:=by rw [<- he];exact cU
  have hc:(x.keys.take (i+1)).countP (fun k=>decide (k.kind=2))=(x.keys.take i).countP (fun k=>decide (k.kind=2))+if x.keys[i].kind=2 then 1 else 0:=by
   rw [Qh hi,List.countP_append];congr 1;simp [List.countP_cons]
  have hcl:(x.keys.take i).countP (fun k=>decide (k.kind=2))<=i:=by
   have:=List.countP_le_length (l:=x.keys.take i) (p:=fun k=>decide (k.kind=2));simp at this;omega
  have hw6:IntKind.wrap .i64 (((x.keys.take i).countP (fun k=>decide (k.kind=2)):Nat)+1:Int)=(((x.keys.take i).countP (fun k=>decide (k.kind=2))+1:Nat):Int):=cU;by_cases k2:x.keys[i].kind=2
  ·rw [eW hi (by simp [keyG,hi,z,k2])];rw [a8 k2] at hc;simp [aP,Xk.e,h2,h3,h6,h7,h8,hi,hv,z,k2,hw7,hw6,hw];exact ih _ ⟨by simp [h2,Prg.e],by simp [h3,Tbl.e],by simp [hc],by simp,by simp⟩
  rw [QA k2] at hc;by_cases k1:x.keys[i].kind=1
  ·rw [eW hi (by simp [keyG,hi,z,k1])];simp [aP,Xk.e,h2,h3,h6,h8,hi,hv,z,k1,hw7,hw];exact ih _ ⟨by simp [h2,Prg.e],by simp [h3,Tbl.e],by simp [hc,h7],by simp,by simp⟩
  by_cases k3:x.keys[i].kind=3
  ·rw [eW hi (by simp [keyG,hi,z,k3])];simp [aP,Xk.e,h2,h3,h6,h8,hi,hv,z,k3,hw7,hw];exact ih _ ⟨by simp [h2,Prg.e],by simp [h3,Tbl.e],by simp [hc,h7],by simp,by simp⟩
  ·rw [bX (x:=((i:Int),11)) hi (by simp [keyG,hi,z,k1,k2,k3])];simp [aP,Xk.e,h2,h3,h8,hi,hv,z,k1,k2,k3]
 ·rintro e L hL ⟨h2,h3,h7,h6,h8⟩;rw [iQ];have ht:(kWid p x).take x.keys.length=kWid p x:=by rw [Qo];simp [kWid]
  rw [ht] at h6;rw [iS] at h7;rw [Tbl.e] at h3;by_cases y1:1<x.keys.countP (fun k=>decide (k.kind=2))
  ·simp [aP,dJ,h3,h7,h8,hL,qI,y1]
  by_cases y2:64<(kWid p x).sum
  ·simp [aP,dJ,h3,h6,h7,h8,hL,qI,y1,y2]
  ·simp [aP,dJ,h3,h6,h7,h8,hL,qI,y1,y2]
 ·simp [Prg.e,Tbl.e]
theorem Gm (x:Int) (l:List Int):l.contains x=l.any fun s=>decide (s=x):=by
 have:=HK (fun y:Int=>y) x l;rw [List.map_id'] at this;exact this
theorem NM (p:Prg) (f:PrgS p) (x:Tbl) (hl:x.Xx.length<2^40) (hg:x.Yb.args.length<2^40) (hv:∀v∈x.Yb.args,ok32 0 v):a9 Φ 191 [.agg (Prg.c p),.agg (Tbl.c x)]=some (.val (.int .i64 (A8 p x))):=by
 rw [aC rfl rfl,Lj];simp [vT,Prg.e,Tbl.e];refine oD x.Xx.length (fun i e=>look 2 e=some (.iptr 9 [Prg.c p] 0 0)/\look 3 e=some (.iptr 6 [Tbl.c x] 0 0)/\look 5 e=some (.int .i64 i))
  (fun i=>some (Rt.val (.int .i64 ((fe (qW p x) x.Xx.length i).getD (rI p x))))) ?_ ?_ 0 _ (Qc _) ?_
 ·rintro i e L hi hL ⟨h2,h3,h5⟩ ih;have hw:=aH i (by omega);rw [Prg.e] at h2;rw [Tbl.e] at h3;by_cases z0:x.Xx[i]<0
  ·rw [bX (x:=8) hi (by simp [qW,hi,z0])];simp [b7,cI,h3,h5,hi,z0]
  by_cases z1:(p.Xx.length:Int)<=x.Xx[i]
  ·rw [bX (x:=8) hi (by simp [qW,hi,z0,z1])];simp [b7,cI,h2,h3,h5,hi,z0,z1]
  have hx:=Bh x.Xx x.Xx[i] hl;obtain ⟨at',k1,k2⟩:=F5 (q:=fun s:Int=>decide (s=x.Xx[i])) hi (by simp) i 0 (by omega);rw [show ix (fun s=>decide (s=x.Xx[i])) x.Xx 0=(fxO (fun s:Int=>decide (s=x.Xx[i])) x.Xx 0).getD (-1) from rfl,k1] at hx;rw [Ce,<- Gm] at k2;simp only [lY] at hx;cases q:(x.Xx.take i).contains x.Xx[i] with
  | true=>
   rw [q] at k2;have k3:at'<i:=by simpa using k2
   rw [bX (x:=7) hi (by simp only [qW,Qa hi,fB];rw [QA (by omega),q];rfl)];simp [b7,cI,h2,h3,h5,hi,z0,z1,hx,k3]
  | false=>
   rw [q] at k2;have k3:¬at'<i:=by simpa using k2
   rw [eW hi (by simp only [qW,Qa hi,fB];rw [QA (by omega),q];rfl)];simp [b7,cI,h2,h3,h5,hi,z0,z1,hx,k3,hw];exact ih _ ⟨by simp [h2,Prg.e],by simp [h3,Tbl.e],by simp⟩
 ·rintro e L hL ⟨h2,h3,h5⟩;rw [iQ];have hx:=Bh x.Xx x.Yb.Xy hl;have hc:=Bf p f x.Yb hg hv;have ha:=DE (p:=fun s=>decide (s=x.Yb.Xy)) (l:=x.Xx);rw [<- Gm] at ha;simp only [Prg.e,Xb.e] at hc;rw [Prg.e] at h2;rw [Tbl.e] at h3;cases q:x.Xx.contains x.Yb.Xy with
  | true=>
   rw [q] at ha;have ha2:¬ix (fun s=>decide (s=x.Yb.Xy)) x.Xx 0<0:=by simpa using ha
   rw [show rI p x=iL p x.Yb by simp only [rI,q];rfl];simp [b7,fM,h2,h3,h5,hL,hx,ha2,hc]
  | false=>
   rw [q] at ha;have ha2:ix (fun s=>decide (s=x.Yb.Xy)) x.Xx 0<0:=by simpa using ha
   rw [show rI p x=8 by simp only [rI,q];rfl];simp [b7,fM,h3,h5,hL,hx,ha2]
 ·simp [Prg.e,Tbl.e]
theorem Lc (p:Prg) (f:PrgS p) (hv:∀t∈p.Xm,∀v∈t.Yb.args,ok32 0 v) (t:Int):a9 Φ 114 [.agg (Prg.c p),.int .i64 t]=some (.val (.tup [.int .i64 (tblE p t).1,.int .i64 (tblE p t).2])):=by
 rw [aC rfl rfl];by_cases i0:t<0
 ·simp [dA,Prg.e,i0,tblE,iC i0]
 by_cases i1:(p.Xm.length:Int)<=t
 ·simp [dA,Prg.e,i0,i1,tblE,iK i1]
 obtain ⟨k,rfl⟩:∃k:Nat,t=k:=⟨t.toNat,by omega⟩;have hk:k<p.Xm.length:=by omega
 have hm:=Qd hk;have n1:=ND p.Xm[k].name (f.tn _ hm);have h1:=NH p p.Xm[k] (f.tk _ hm);have h2:=NM p f p.Xm[k] (f.ta _ hm) (f.tg _ hm) (hv _ hm);simp only [Prg.e,Tbl.e] at h1 h2;cases q1:idS p.Xm[k].name with
 | false=>rw [q1] at n1;simp [dA,Prg.e,Tbl.e,hk,Qf.2 hk,n1,tblE,q1]
 | true=>
 rw [q1] at n1;by_cases z0:6<p.Xm[k].keys.length
 ·simp [dA,Prg.e,Tbl.e,hk,Qf.2 hk,n1,tblE,q1,z0]
 by_cases z1:16<p.Xm[k].Xx.length
 ·simp [dA,Prg.e,Tbl.e,hk,Qf.2 hk,n1,tblE,q1,z0,z1]
 by_cases z2:p.Xm[k].size<1
 ·simp [dA,Prg.e,Tbl.e,hk,Qf.2 hk,n1,tblE,q1,z0,z1,z2]
 by_cases z3:256<p.Xm[k].size
 ·simp [dA,Prg.e,Tbl.e,hk,Qf.2 hk,n1,tblE,q1,z0,z1,z2,z3]
 by_cases y1:(qH p p.Xm[k]).2=0
 rotate_left
 ·simp [dA,Prg.e,Tbl.e,hk,Qf.2 hk,n1,tblE,q1,z0,z1,z2,z3,h1,y1]
 rw [y1] at h1;by_cases y2:A8 p p.Xm[k]=0
 ·rw [y2] at h2;simp [dA,Prg.e,Tbl.e,hk,Qf.2 hk,n1,tblE,q1,z0,z1,z2,z3,h1,y1,h2,y2]
 ·simp [dA,Prg.e,Tbl.e,hk,Qf.2 hk,n1,tblE,q1,z0,z1,z2,z3,h1,y1,h2,y2]
theorem IZ {α:Type} {f:Nat->Option α} {N:Nat} {x:α}:∀{i},fe f N i=some x->∃k,k<N/\f k=some x:=by
 have key:∀n i,feF f n i=some x->∃k,k<i+n/\f k=some x:=by
  intro n
  induction n with
  | zero=>intro i h;simp [feF] at h
  | succ n ih=>
   intro i h;simp only [feF] at h;cases q:f i with
   | some y=>rw [q] at h;cases h;exact ⟨i,by omega,q⟩
   | none=>
    rw [q] at h;obtain ⟨k,h1,h2⟩:=ih _ h;exact ⟨k,by omega,h2⟩
 intro i h;unfold fe at h;obtain ⟨k,h1,h2⟩:=key _ _ h;by_cases hi:i<=N
 ·exact ⟨k,by omega,h2⟩
 ·rw [show N - i=0 by omega] at h;simp [feF] at h
def sY {α:Type} [DecidableEq α] (l m:List α) (i:Nat):Bool:=decide (l.drop i=m.drop i)
theorem Hc {α:Type} [DecidableEq α] {l m:List α} {i:Nat} (h1:i<l.length) (h2:i<m.length) (h:l[i]=m[i]):sY l m i=sY l m (i+1):=by
 unfold sY;rw [decide_eq_decide,Gc h1 h2];simp [h]
theorem Ge {α:Type} [DecidableEq α] {l m:List α} {i:Nat} (h1:i<l.length) (h2:i<m.length) (h:l[i]≠m[i]):sY l m i=false:=by
 unfold sY;rw [decide_eq_false_iff_not,Gc h1 h2];simp [h]
theorem Hb {α:Type} [DecidableEq α] {l m:List α} (h:l.length=m.length):sY l m l.length=true:=by
 simp [sY,h]
theorem ad (k1 k2:List Xh) (p1 p2:Int) (r1 r2:List AV) (hb:k1.length<2^40):
   a9 Φ 165 [.agg (.slice 2 (k1.map Xh.c):: .int .i64 p1::r1),.agg (.slice 2 (k2.map Xh.c):: .int .i64 p2::r2)]=some (.val (.bool (decide (k1=k2/\p1=p2)))):=by
  rw [aC rfl rfl];by_cases q1:k1.length=k2.length
  rotate_left
  · have:k1≠k2:=fun h=>q1 (by rw [h])
    simp [pD,q1,this]
  by_cases q2:p1=p2
  rotate_left
  · simp [pD,q1,q2]
  subst q2;simp [pD,q1];refine (oD k1.length (fun i e=>look 2 e=some (AV.ptr 0 (r1.length+1+1) 0 0)/\look 3 e=some (AV.ptr 1 (r2.length+1+1) 0 0)/\look 5 e=some (.int .i64 i))
    (fun i=>some (Rt.val (AV.bool (sY k1 k2 i)))) ?_ ?_ 0 _ (Qc _) ?_).trans (by simp [sY])
  · rintro i e L hi hL ⟨h2,h3,h5⟩ ih
    have hi2:i<k2.length:=by omega
    have hw:=aH i (by omega);by_cases c:k1[i]=k2[i]
    · rw [Hc hi hi2 c]
      simp [fI,Xh.c,hi,hi2,h2,h3,h5,hw,c];exact ih _ ⟨by simp [h2],by simp [h3],by simp⟩
    · rw [Ge hi hi2 c]
      have c':(decide (k1[i].value=k2[i].value)&&decide (k1[i].Yd=k2[i].Yd))=false:=by
        simp [Xh.ext_iff] at c ⊢;exact c
      simp [fI,Xh.c,hi,hi2,h2,h3,h5,c']
  · rintro e L hL ⟨h2,h3,h5⟩
    rw [Hb q1];simp [fI,nQ, *]
  · simp
theorem Yw (k1 k2:List Xh) (p1 p2:Int) (r1 r2:List AV) (hb:k1.length<2^40):
   a9 Φ 77 [.agg (.slice 2 (k1.map Xh.c):: .int .i64 p1::r1),.agg (.slice 2 (k2.map Xh.c):: .int .i64 p2::r2)]=some (.val (.bool (decide (k1=k2/\p1=p2)))):=by
  rw [aC rfl rfl];by_cases q2:p1=p2
  rotate_left
  · simp [uK,q2]
  by_cases q1:k1.length=k2.length
  rotate_left
  · have:k1≠k2:=fun h=>q1 (by rw [h])
    simp [uK,q1,this,q2]
  subst q2;simp [uK,q1];refine (zO k1.length (fun i e h=>look 2 e=some (AV.ptr 0 (r1.length+1+1) 0 0)/\look 3 e=some (AV.ptr 1 (r2.length+1+1) 0 0)/\look 22 e=some (.slice 2 (k1.map Xh.c))/\look 23 e=some (.int .i64 k2.length)/\look 24 e=some (.int .i64 i)/\
      HP [(0,AO.row (r1.length+1+1) [.slice 2 (k1.map Xh.c):: .int .i64 p1::r1]),(1,AO.row (r2.length+1+1) [.slice 2 (k2.map Xh.c):: .int .i64 p1::r2])] 2 h)
    (fun i=>some (Rt.val (AV.bool (sY k1 k2 i)))) ?_ ?_ 0 _ _ (Qc _) ?_).trans (by simp [sY])
  · rintro i e _ L hi hL ⟨h2,h3,h22,h23,h24,T,n,hT,rfl⟩ ih
    have hi2:i<k2.length:=by omega
    have hw:=aH i (by omega);have hT':=hT (n+2) (Qb _);by_cases c:k1[i]=k2[i]
    · rw [Hc hi hi2 c]
      simp [jE,Xh.c,hi,hi2,h3,h22,h23,h24,hw,c,hT'];exact ih _ _ ⟨by simp [h2],by simp [h3],by simp [h22],by simp [h23],by simp,HP.next hT⟩
    · rw [Ge hi hi2 c]
      have c':(decide (k1[i].value=k2[i].value)&&decide (k1[i].Yd=k2[i].Yd))=false:=by
        simp [Xh.ext_iff] at c ⊢;exact c
      simp [jE,Xh.c,hi,hi2,h3,h22,h23,h24,c',hT']
  · rintro e _ L hL ⟨h2,h3,h22,h23,h24,T,n,hT,rfl⟩
    rw [Hb q1];simp [jE,pZ, *]
  · simp
    exact HP.mk
def Entry.sm (x:Entry):Prop:=x.keys.length<2^40/\x.call.args.length<2^40
theorem Rw.ce (x:Rw):Rw.c x=[.int .i64 x.id,.slice 2 (x.entry.keys.map Xh.c),.int .i64 x.entry.Xs,.int .i64 x.entry.call.Xy,.slice 1 (x.entry.call.args.map c32)]:=by simp [Rw.c]
theorem cSe {α:Type} (z:Nat) (f:α->List AV) (l:List α):cS z f l=[.slice z (l.map f)]:=by simp [cS]
theorem Xb.ce (x:Xb):Xb.c x=[.int .i64 x.Xy,.slice 1 (x.args.map c32)]:=by simp [Xb.c]
theorem Entry.ce (x:Entry):Entry.c x=[.slice 2 (x.keys.map Xh.c),.int .i64 x.Xs,.int .i64 x.call.Xy,.slice 1 (x.call.args.map c32)]:=by simp [Entry.c]
theorem Xe.ce (x:Xe):Xe.c x=[.slice 1 (x.rows.map (cS 5 Rw.c)),.slice 1 (x.Xq.map cI),.slice 2 (x.Xp.map Xb.c),.slice 1 (x.Xl.map (cS 1 c32))]:=by simp [Xe.c]
theorem cIe (x:Int):cI x=[.int .i64 x]:=by simp [cI]
theorem c32e (x:Int):c32 x=[.int .u32 x]:=by simp [c32]
structure CfgS (a:Xe):Prop where
 rl:a.rows.length<2^40
 rs:∀l∈a.rows,l.length<2^40/\∀r∈l,r.entry.sm
 nl:a.Xq.length<2^40
 dl:a.Xp.length<2^40
 ds:∀d∈a.Xp,d.args.length<2^40
 gl:a.Xl.length<2^40
 gs:∀l∈a.Xl,l.length<2^40
theorem Action.ce (x:Action):Action.c x=[.str x.name,.slice 2 (x.params.map Fld.c),.slice 7 (x.body.map Xf.c)]:=by simp [Action.c]
theorem Xi.ce (x:Xi):Xi.c x=[.str x.name,.slice 2 (x.Xz.map Fld.c)]:=by simp [Xi.c]
theorem Xg.ce (x:Xg):Xg.c x=[.str x.name,.int .i64 x.Yc,.int .i64 x.size]:=by simp [Xg.c]
theorem Xf.ce (x:Xf):Xf.c x=[.int .i64 x.kind,.int .i64 x.dst.header,.int .i64 x.dst.field,.int .i64 x.Ye,.int .i64 x.header,.slice 3 (x.index.map Xd.c),.slice 3 (x.value.map Xd.c)]:=by simp [Xf.c]
theorem Tbl.ce (x:Tbl):Tbl.c x=[.str x.name,.slice 3 (x.keys.map Xk.c),.slice 1 (x.Xx.map cI),.int .i64 x.Yb.Xy,.slice 1 (x.Yb.args.map c32),.int .i64 x.size]:=by simp [Tbl.c]
theorem Xc.ce (x:Xc):Xc.c x=[.str x.name,.slice 1 (x.extract.map cI),.bool x.select,.int .i64 x.on.header,.int .i64 x.on.field,.slice 3 (x.cases.map Xj.c),.int .i64 x.Yb]:=by simp [Xc.c]
theorem Xa.ce (k t:Int) (c:List Xd) (a b:List Xa):Xa.c (.mk k t c a b)=[.int .i64 k,.int .i64 t,.slice 3 (c.map Xd.c),.slice 5 (a.map Xa.c),.slice 5 (b.map Xa.c)]:=by simp [Xa.c,Xa.cs_eq]
theorem Prg.ce (x:Prg):Prg.c x=[.str x.name,.slice 2 (x.Xo.map Xi.c),.slice 2 (x.Xn.map Fld.c),.slice 3 (x.Xl.map Xg.c),.slice 3 (x.Xx.map Action.c),.slice 6 (x.Xm.map Tbl.c),.slice 7 (x.Xw.map Xc.c),.slice 5 (x.Ya.map Xa.c),.slice 1 (x.Xr.map cI)]:=by simp [Prg.c]
def hp0 (p:Prg):AH:=⟨[(0,.row 9 [(nC p [])])],1⟩
structure PrgB (p:Prg):Prop where
 h:p.Xo.length<2^40
 r:p.Xl.length<2^40
 a:p.Xx.length<2^40
 b:∀x∈p.Xx,x.body.length<2^40
 t:p.Xm.length<2^40
 s:p.Xw.length<2^40
 c:p.Ya.length<2^40
 co:∀x∈p.Ya,Xa.Ok iH x
def hp1 (p:Prg) (c:Xe):AH:=⟨[(0,.row 9 [(nC p [])]),(1,.row 4 [[.slice 1 (c.rows.map (cS 5 Rw.c)),.slice 1 (c.Xq.map cI),.slice 2 (c.Xp.map Xb.c),.slice 1 (c.Xl.map (cS 1 c32))]])],2⟩
def tOk (p:Prg) (t:Int):Bool:=decide ((tblE p t).2=0)
theorem keyV {p:Prg} {x:Tbl} (h:keyE p x=none):∀k∈x.keys,k.kind=1\/k.kind=2\/k.kind=3:=by
 intro k hk;obtain ⟨i,hi,rfl⟩:=H7 hk;have:=(fe_all.1 h) i hi;simp [hi] at this;split at this
 ·cases this
 ·split at this
  ·assumption
  ·cases this
structure TOk (p:Prg) (k:Nat) (hk:k<p.Xm.length):Prop where
 keys:p.Xm[k].keys.length<=6
 acts:p.Xm[k].Xx.length<=16
 kinds:∀x∈p.Xm[k].keys,x.kind=1\/x.kind=2\/x.kind=3
 size:1<=p.Xm[k].size/\p.Xm[k].size<=256
theorem zZ {p:Prg} {t:Int} (h:tOk p t=true):∃(k:Nat) (hk:k<p.Xm.length),t=k/\TOk p k hk:=by
 simp only [tOk,decide_eq_true_eq] at h;by_cases i0:t<0
 ·simp [tblE,iC i0] at h
 by_cases i1:(p.Xm.length:Int)<=t
 ·simp [tblE,iK i1] at h
 obtain ⟨k,rfl⟩:∃k:Nat,t=k:=⟨t.toNat,by omega⟩;have hk:k<p.Xm.length:=by omega
 refine ⟨k,hk,rfl,?_⟩;unfold tblE at h;rw [mM,Qa hk] at h;dsimp only at h;by_cases z0:idS p.Xm[k].name=false
 ·rw [a8 z0] at h;cases h
 rw [QA z0] at h;by_cases z1:6<p.Xm[k].keys.length\/16<p.Xm[k].Xx.length
 ·rw [a8 z1] at h;cases h
 rw [QA z1] at h;by_cases z2:p.Xm[k].size<1\/256<p.Xm[k].size
 ·rw [a8 z2] at h;cases h
 rw [QA z2] at h;by_cases z3:(qH p p.Xm[k]).2≠0
 ·rw [a8 z3] at h;exact absurd h z3
 refine ⟨by omega,by omega,?_,by omega⟩;unfold qH at z3;cases q:keyE p p.Xm[k] with
 | none=>exact keyV q
 | some e=>
  exfalso;rw [q] at z3;dsimp only at z3;obtain ⟨i,hi,hx⟩:=IZ q;simp only [Qt] at hx;obtain ⟨y,_,hy⟩:=hx;split at hy
  ·cases hy;exact z3 (by simp)
  ·split at hy
   ·cases hy
   ·cases hy;exact z3 (by simp)
theorem Bk (p:Prg) (f:PrgS p) (t:Int):a9 Φ 240 [.agg (Prg.c p),.int .i64 t]=some (.val (.bool (tOk p t))):=by
 rw [aC rfl rfl];have h:=Nv p f t;simp only [Prg.e] at h;simp [wH,Prg.e,h,tOk]
theorem Al (p:Prg) (f:PrgS p) (hv:∀t∈p.Xm,∀v∈t.Yb.args,ok32 0 v) (t:Int):a9 Φ 200 [.agg (Prg.c p),.int .i64 t]=some (.val (.bool (tOk p t))):=by
 rw [aC rfl rfl];have h:=Lc p f hv t;simp only [Prg.e] at h;simp [vV,Prg.e,h,tOk]
def kMax:List Xk->Int->Int
 | [],a=>a
 | k::r,a=>kMax r (max a k.kind)
def rH (p:Prg) (t:Int):Int:=if tOk p t then (match at? p.Xm t with
 | some x=>kMax x.keys 1
 | none=>0) else 0
theorem ES:∀(l:List Xk) (a:Int),a=3->(∀x∈l,x.kind=1\/x.kind=2\/x.kind=3)->kMax l a=3
 | [],a,h,_=>h
 | k::r,a,h,hk=>by
  subst h;have:=hk k (by simp);simp only [kMax];exact ES r _ (by omega) fun x hx=>hk x (by simp [hx])
theorem RU (p:Prg) (f:PrgS p) (t:Int):a9 Φ 142 [.agg (Prg.c p),.int .i64 t]=some (.val (.int .i64 (rH p t))):=by
 rw [aC rfl rfl];have h:=Bk p f t;simp only [Prg.e] at h;cases q:tOk p t with
 | false=>
  rw [q] at h;simp [rP,Prg.e,h,rH,q]
 | true=>
 rw [q] at h;obtain ⟨k,hk,rfl,o⟩:=zZ q;have hK:rH p (k:Int)=kMax p.Xm[k].keys 1:=by simp [rH,q,hk]
 rw [hK];have hb:=o.keys;simp [rP,Prg.e,h,hk,Tbl.e];refine eF p.Xm[k].keys.length (fun _=>[]) 0 (fun i e=>look 17 e=some (.slice 3 (p.Xm[k].keys.map Xk.c))/\look 18 e=some (.int .i64 p.Xm[k].keys.length)/\look 19 e=some (.int .i64 i)/\∃a:Int,look 5 e=some (.int .i64 a)/\(a=1\/a=2)/\kMax (p.Xm[k].keys.drop i) a=kMax p.Xm[k].keys 1)
  (fun _=>some (Rt.val (.int .i64 (kMax p.Xm[k].keys 1)))) ?_ ?_ 0 _ 0 (Qc _) (Qb _) ?_
 ·rintro i e n L hi hL _ ⟨h17,h18,h19,a,h5,ha,hm⟩ ih;have hw:=aH i (by omega);rw [Qi hi] at hm;simp only [kMax] at hm;have hkk:=o.kinds _ (Qd hi);by_cases k3:p.Xm[k].keys[i].kind=3
  ·have:kMax p.Xm[k].keys 1=3:=by
    rw [<- hm];exact ES _ _ (by omega) fun x hx=>o.kinds x (tH hx)
   rw [this];simp [cC,Xk.e,h17,h18,h19,hi,k3]
  by_cases k2:p.Xm[k].keys[i].kind=2
  ·simp [cC,Xk.e,h17,h18,h19,hi,k2,hw];exact ih _ _ (Qc _) ⟨by simp [h17],by simp [h18],by simp,2,by simp,.inr rfl,by rw [<- hm];congr 1;omega⟩
  ·simp [cC,Xk.e,h17,h18,h19,hi,k3,k2,hw];exact ih _ _ (Qc _) ⟨by simp [h17],by simp [h18],by simp,a,by simp [h5],ha,by rw [<- hm];congr 1;omega⟩
 ·rintro e n L hL _ ⟨h17,h18,h19,a,h5,ha,hm⟩;rw [rK] at hm;simp only [kMax] at hm;rw [<- hm];simp [cC,jX,h5,h18,h19,hL]
 ·simp
theorem QV (p:Prg) (f:PrgS p) (hv:∀t∈p.Xm,∀v∈t.Yb.args,ok32 0 v) (t:Int):a9 Φ 199 [.agg (Prg.c p),.int .i64 t]=some (.val (.int .i64 (rH p t))):=by
 rw [aC rfl rfl];have h:=Al p f hv t;simp only [Prg.e] at h;cases q:tOk p t with
 | false=>
  rw [q] at h;simp [rZ,Prg.e,h,rH,q]
 | true=>
 rw [q] at h;obtain ⟨k,hk,rfl,o⟩:=zZ q;have hK:rH p (k:Int)=kMax p.Xm[k].keys 1:=by simp [rH,q,hk]
 rw [hK];have hb:=o.keys;simp [rZ,Prg.e,h];refine eF p.Xm[k].keys.length (fun _=>[]) 0 (fun i e=>look 2 e=some (.iptr 9 [Prg.c p] 0 0)/\look 1 e=some (.int .i64 k)/\look 6 e=some (.int .i64 i)/\∃a:Int,look 5 e=some (.int .i64 a)/\kMax (p.Xm[k].keys.drop i) a=kMax p.Xm[k].keys 1)
  (fun _=>some (Rt.val (.int .i64 (kMax p.Xm[k].keys 1)))) ?_ ?_ 0 _ 0 (Qc _) (Qb _) ?_
 ·rintro i e n L hi hL _ ⟨h2,h1,h6,a,h5,hm⟩ ih;have hw:=aH i (by omega);rw [Qi hi] at hm;simp only [kMax] at hm;rw [Prg.e] at h2;simp [fQ,Xk.e,Tbl.e,h1,h2,h5,h6,hk,hi,hw];exact ih _ _ (Qc _) ⟨by simp [h2,Prg.e],by simp [h1],by simp,max a p.Xm[k].keys[i].kind,by simp;split<;>omega,hm⟩
 ·rintro e n L hL _ ⟨h2,h1,h6,a,h5,hm⟩;rw [rK] at hm;simp only [kMax] at hm;rw [Prg.e] at h2;rw [<- hm];simp [fQ,kF,Tbl.e,h1,h2,h5,h6,hk,hL]
 ·simp [Prg.e]
theorem Hs (p:Prg) (f:PrgS p) (k:Nat) (hk:k<p.Xm.length) (q:tOk p k=true):a9 Φ 140 [.agg (Prg.c p),.int .i64 k]=some (.val (.slice 1 ((kWid p p.Xm[k]).map cI))):=by
 rw [aC rfl rfl];have h:=Bk p f k;rw [q] at h;simp only [Prg.e] at h;obtain ⟨k',hk',e,o⟩:=zZ q;obtain rfl:k=k':=by omega
 have hb:=o.keys;have e0:(kWid p p.Xm[k]).map cI=p.Xm[k].keys.map fun y=>[AV.int .i64 (wid p y.field.header y.field.field)]:=by simp [kWid,cI]
 rw [e0];simp [vK,Prg.e,h,hk,Tbl.e];refine (eF p.Xm[k].keys.length (fun i=>[(0,.tok 1 i)]) 1 (fun i e=>look 2 e=some (.iptr 9 [Prg.c p] 0 0)/\look 5 e=some (.app 1 ((p.Xm[k].keys.map fun y=>[AV.int .i64 (wid p y.field.header y.field.field)]).take i) 0)/\look 17 e=some (.slice 3 (p.Xm[k].keys.map Xk.c))/\look 18 e=some (.int .i64 p.Xm[k].keys.length)/\look 19 e=some (.int .i64 i))
  (fun _=>some (Rt.val (.slice 1 (p.Xm[k].keys.map fun y=>[AV.int .i64 (wid p y.field.header y.field.field)])))) ?_ ?_ 0 _ 1 (Qc _) (Qb _) ?_).trans (by simp)
 ·rintro i e n L hi hL hn ⟨h2,h5,h17,h18,h19⟩ ih;have hw:=aH i (by omega);have hv:=DI p p.Xm[k].keys[i].field.header p.Xm[k].keys[i].field.field;simp only [Prg.e] at hv;rw [Prg.e] at h2;have hn0:¬(0=n):=by omega
  have hn1:¬(n=0):=by omega
  have hm:min i p.Xm[k].keys.length=i:=by omega
  have hb:(i+1)*8<=70368744177664:=by omega
  simp [fF,Xk.e,h2,h5,h17,h18,h19,hi,hw,hn0,hm,hb,hv];exact ih _ _ (by omega) ⟨by simp [h2,Prg.e],by simp [q6 hi],by simp [h17],by simp [h18],by simp⟩
 ·rintro e n L hL hn ⟨h2,h5,h17,h18,h19⟩;simp [fF,jW,h5,h18,h19,hL]
 ·simp [Prg.e]
theorem LJ (p:Prg) (f:PrgS p) (hv:∀t∈p.Xm,∀v∈t.Yb.args,ok32 0 v) (k:Nat) (hk:k<p.Xm.length) (q:tOk p k=true):a9 Φ 197 [.agg (Prg.c p),.int .i64 k]=some (.val (.slice 1 ((kWid p p.Xm[k]).map cI))):=by
 rw [aC rfl rfl];have h:=Al p f hv k;rw [q] at h;simp only [Prg.e] at h;obtain ⟨k',hk',e,o⟩:=zZ q;obtain rfl:k=k':=by omega
 have hb:=o.keys;have e0:(kWid p p.Xm[k]).map cI=p.Xm[k].keys.map fun y=>[AV.int .i64 (wid p y.field.header y.field.field)]:=by simp [kWid,cI]
 rw [e0];simp [vU,Prg.e,h];refine (eF p.Xm[k].keys.length (fun i=>[(0,.tok 1 i)]) 1 (fun i e=>look 2 e=some (.iptr 9 [Prg.c p] 0 0)/\look 1 e=some (.int .i64 k)/\look 5 e=some (.app 1 ((p.Xm[k].keys.map fun y=>[AV.int .i64 (wid p y.field.header y.field.field)]).take i) 0)/\look 6 e=some (.int .i64 i))
  (fun _=>some (Rt.val (.slice 1 (p.Xm[k].keys.map fun y=>[AV.int .i64 (wid p y.field.header y.field.field)])))) ?_ ?_ 0 _ 1 (Qc _) (Qb _) ?_).trans (by simp)
 ·rintro i e n L hi hL hn ⟨h2,h1,h5,h6⟩ ih;have hw:=aH i (by omega);have hv:=Jd p p.Xm[k].keys[i].field.header p.Xm[k].keys[i].field.field;simp only [Prg.e] at hv;rw [Prg.e] at h2;have hn0:¬(0=n):=by omega
  have hn1:¬(n=0):=by omega
  have hm:min i p.Xm[k].keys.length=i:=by omega
  have hb:(i+1)*8<=70368744177664:=by omega
  simp [fO,Xk.e,Tbl.e,h1,h2,h5,h6,hk,hi,hw,hm,hb,hv];exact ih _ _ (by omega) ⟨by simp [h2,Prg.e],by simp [h1],by simp [q6 hi],by simp⟩
 ·rintro e n L hL hn ⟨h2,h1,h5,h6⟩;rw [Prg.e] at h2;simp [fO,kE,Tbl.e,h1,h2,h5,h6,hk,hL]
 ·simp [Prg.e]
def tAl (p:Prg) (t a:Int):Bool:=tOk p t&&(match at? p.Xm t with
 | some x=>x.Xx.any fun s=>decide (s=a)
 | none=>false)
theorem Hr (p:Prg) (f:PrgS p) (t a:Int):a9 Φ 143 [.agg (Prg.c p),.int .i64 t,.int .i64 a]=some (.val (.bool (tAl p t a))):=by
 rw [aC rfl rfl];have h:=Bk p f t;simp only [Prg.e] at h;cases q:tOk p t with
 | false=>
  rw [q] at h;simp [rQ,Prg.e,h,tAl,q]
 | true=>
 rw [q] at h;obtain ⟨k,hk,rfl,o⟩:=zZ q;have hK:tAl p (k:Int) a=p.Xm[k].Xx.any fun s=>decide (s=a):=by simp [tAl,q,hk]
 rw [hK];have hb:=o.acts;simp [rQ,Prg.e,h,hk,Tbl.e];refine (eF p.Xm[k].Xx.length (fun _=>[]) 0 (fun i e=>look 2 e=some (.int .i64 a)/\look 18 e=some (.slice 1 (p.Xm[k].Xx.map cI))/\look 19 e=some (.int .i64 p.Xm[k].Xx.length)/\look 20 e=some (.int .i64 i))
  (fun i=>some (Rt.val (.bool ((p.Xm[k].Xx.drop i).any fun s=>decide (s=a))))) ?_ ?_ 0 _ 0 (Qc _) (Qb _) ?_).trans (by simp)
 ·rintro i e n L hi hL _ ⟨h2,h18,h19,h20⟩ ih;have hw:=aH i (by omega);rw [Qi hi,uH];by_cases z:p.Xm[k].Xx[i]=a
  ·generalize hX:some (Rt.val (AV.bool (decide (p.Xm[k].Xx[i]=a) || (p.Xm[k].Xx.drop (i+1)).any fun s=>decide (s=a))))=X;simp [dG,cI,h2,h18,h19,h20,hi,z];rw [<- hX];simp [z]
  ·rw [show (decide (p.Xm[k].Xx[i]=a) || (p.Xm[k].Xx.drop (i+1)).any fun s=>decide (s=a))=(p.Xm[k].Xx.drop (i+1)).any fun s=>decide (s=a) by simp [z]];generalize hX:some (Rt.val (AV.bool ((p.Xm[k].Xx.drop (i+1)).any fun s=>decide (s=a))))=X;simp [dG,cI,h2,h18,h19,h20,hi,z,hw];rw [<- hX];exact ih _ _ (Qc _) ⟨by simp [h2],by simp [h18],by simp [h19],by simp⟩
 ·rintro e n L hL _ ⟨h2,h18,h19,h20⟩;simp [dG,jY,h19,h20,hL]
 ·simp
theorem Gw (p:Prg) (f:PrgS p) (hv:∀t∈p.Xm,∀v∈t.Yb.args,ok32 0 v) (t a:Int):a9 Φ 120 [.agg (Prg.c p),.int .i64 t,.int .i64 a]=some (.val (.bool (tAl p t a))):=by
 rw [aC rfl rfl];have h:=Al p f hv t;simp only [Prg.e] at h;cases q:tOk p t with
 | false=>
  rw [q] at h;simp [rO,Prg.e,h,tAl,q]
 | true=>
 rw [q] at h;obtain ⟨k,hk,rfl,o⟩:=zZ q;have hK:tAl p (k:Int) a=p.Xm[k].Xx.any fun s=>decide (s=a):=by simp [tAl,q,hk]
 have hb:=o.acts;have hx:=Bh p.Xm[k].Xx a (by omega);rw [hK,<- DE];simp [rO,Prg.e,Tbl.e,h,hk,hx]
def pmI (n k:Nat):Int:=2^k - 2^(k - n)
theorem XE:∀k:Nat,k<33->∀n:Nat,n<33->n<=k->BP .u32 (2^k - 1) (ishr .u32 (2^k - 1) (n:Int))=pmI n k:=by decide+kernel
theorem QM (n k:Nat) (h:n<=k) (h1:1<=k) (h2:k<=32):a9 Φ 332 [.int .i64 n,.int .i64 k]=some (.val (.int .u32 (pmI n k))):=by
 rw [aC rfl rfl];have hv:=IF k;have hm:=jI k;have hw:wBad (k:Int)=false:=wBad_false.2 ⟨by omega,by omega⟩;have hM:bF (k:Int)=2^k - 1:=by simp [bF,hw]
 rw [hw] at hv;rw [hM] at hm;have hp:=XE k (by omega) n (by omega) h;have n1:¬((n:Int)<0):=by omega
 have n2:¬((k:Int)<n):=by omega
 simp [yC,hv,hm,n1,n2];exact hp
theorem WZ:∀k:Nat,k<33->∀n:Nat,n<33->n<=k->IntKind.wrap .u32 (IntKind.wrap .u64 (2^k - 2^(k - n)))=pmI n k:=by decide+kernel
theorem NL (n k:Nat) (h:n<=k) (h1:1<=k) (h2:k<=32):a9 Φ 366 [.int .i64 n,.int .i64 k]=some (.val (.int .u32 (pmI n k))):=by
 rw [aC rfl rfl];have hv:=IA k;have hw:wBad (k:Int)=false:=wBad_false.2 ⟨by omega,by omega⟩;rw [hw] at hv;have p1:=II k (by omega);have p2:=II (k - n) (by omega);have hs:IntKind.wrap .i64 ((k:Int) - n)=((k - n:Nat):Int):=by
  rw [show (k:Int) - n=((k - n:Nat):Int) by omega];exact cU
 have n1:¬((n:Int)<0):=by omega
 have n2:¬((k:Int)<n):=by omega
 simp [yI,hv,p1,p2,n1,n2,hs];exact WZ k (by omega) n (by omega) h
def plG (m:Int) (k:Nat) (n:Nat):Option Int:=if pmI n k=m then some (n:Int) else none
def plE (m w:Int):Option Int:=if wBad w then none else fe (plG m w.toNat) (w.toNat+1) 0
def plV (o:Option Int):Rt:= .val (.tup [.int .i64 (o.getD 0),.bool o.isSome])
theorem TN (m w:Int):a9 Φ 242 [.int .u32 m,.int .i64 w]=some (plV (plE m w)):=by
 rw [aC rfl rfl];have hv:=IF w;cases q:wBad w with
 | true=>
  rw [q] at hv;simp [s8,hv,plE,q,plV]
 | false=>
 rw [q] at hv;obtain ⟨w1,w2⟩:=wBad_false.1 q;obtain ⟨k,rfl⟩:∃k:Nat,w=k:=⟨w.toNat,by omega⟩;have hw1:=aH k (by omega);have hE:plE m (k:Int)=fe (plG m k) (k+1) 0:=by simp [plE,q]
 rw [hE];simp [s8,hv,hw1];refine eF (k+1) (fun _=>[]) 0 (fun i e=>look 0 e=some (.int .u32 m)/\look 1 e=some (.int .i64 k)/\look 12 e=some (.int .i64 ((k:Int)+1))/\look 13 e=some (.int .i64 i))
  (fun i=>some (plV (fe (plG m k) (k+1) i))) ?_ ?_ 0 _ 0 (Qc _) (Qb _) ?_
 ·rintro i e n L hi hL _ ⟨h0,h1,h12,h13⟩ ih;have hw:=aH i (by omega);have hp:=QM i k (by omega) (by omega) (by omega);have hlt:(i:Int)<(k:Int)+1:=by omega
  by_cases z:pmI i k=m
  ·rw [bX (x:=(i:Int)) hi (by simp [plG,z])];subst z;simp [dN,h0,h1,h12,h13,hp,hlt,plV]
  ·rw [eW hi (by simp [plG,z])];generalize hX:some (plV (fe (plG m k) (k+1) (i+1)))=X;simp [dN,h0,h1,h12,h13,hp,hlt,z,hw];rw [<- hX];exact ih _ _ (Qc _) ⟨by simp [h0],by simp [h1],by simp [h12],by simp⟩
 ·rintro e n L hL _ ⟨h0,h1,h12,h13⟩;rw [iQ];simp [dN,kR,h12,h13,hL,plV]
 ·simp
theorem QX (m w:Int):a9 Φ 306 [.int .u32 m,.int .i64 w]=some (plV (plE m w)):=by
 rw [aC rfl rfl];have hv:=IA w;cases q:wBad w with
 | true=>
  rw [q] at hv;simp [sI];rw [cW];by_cases z:0<=w
  ·simp [bQ,dV,hv,z,plE,q,plV]
  ·simp [bQ,dV,z,plE,q,plV]
 | false=>
 rw [q] at hv;obtain ⟨w1,w2⟩:=wBad_false.1 q;obtain ⟨k,rfl⟩:∃k:Nat,w=k:=⟨w.toNat,by omega⟩;have hE:plE m (k:Int)=fe (plG m k) (k+1) 0:=by simp [plE,q]
 rw [hE];simp [sI];refine eF (k+1) (fun _=>[]) 0 (fun i e=>look 0 e=some (.int .u32 m)/\look 1 e=some (.int .i64 k)/\look 6 e=some (.int .i64 i))
  (fun i=>some (plV (fe (plG m k) (k+1) i))) ?_ ?_ 0 _ 0 (Qc _) (Qb _) ?_
 ·rintro i e n L hi hL _ ⟨h0,h1,h6⟩ ih;have hw:=aH i (by omega);have hp:=NL i k (by omega) (by omega) (by omega);have hle:i<=k:=by omega
  by_cases z:pmI i k=m
  ·rw [bX (x:=(i:Int)) hi (by simp [plG,z])];subst z;simp [bQ,h0,h1,h6,hv,hp,hle,plV]
  ·rw [eW hi (by simp [plG,z])];generalize hX:some (plV (fe (plG m k) (k+1) (i+1)))=X;simp [bQ,h0,h1,h6,hv,hp,hle,z,hw];rw [<- hX];exact ih _ _ (Qc _) ⟨by simp [h0],by simp [h1],by simp⟩
 ·rintro e n L hL _ ⟨h0,h1,h6⟩;rw [iQ];have hgt:¬((k:Int)+1<=(k:Int)):=by omega
  simp [bQ,dV,h1,h6,hL,hgt,plV]
 ·simp
theorem Xh.ce (m:Xh):Xh.c m=[.int .u32 m.value,.int .u32 m.Yd]:=by simp [Xh.c]
def keyK (m:Xh) (kind w:Int):Int:=
 if fits m.value w=false\/fits m.Yd w=false then 9
 else if m.value.toNat&&& m.Yd.toNat≠m.value.toNat then 5
 else if kind=1/\m.Yd≠bF w then 11
 else if kind=2/\(plE m.Yd w).isSome=false then 11 else 0
theorem TD (m:Xh) (kind w:Int) (h1:ok32 0 m.value) (h2:ok32 0 m.Yd):a9 Φ 141 [.agg (Xh.c m),.int .i64 kind,.int .i64 w]=some (.val (.int .i64 (keyK m kind w))):=by
 rw [aC rfl rfl];have f1:=D6 m.value w;have f2:=D6 m.Yd w;have hm:=jI w;have hp:=TN m.Yd w;have ha:=Fz h1 h2;unfold keyK;cases q1:fits m.value w with
 | false=>rw [q1] at f1;simp [fG,Xh.ce,f1]
 | true=>
 rw [q1] at f1;cases q2:fits m.Yd w with
 | false=>rw [q2] at f2;simp [fG,Xh.ce,f1,f2]
 | true=>
 rw [q2] at f2;by_cases z:BP .u32 m.value m.Yd=0
 rotate_left
 ·have z':¬(m.value.toNat&&& m.Yd.toNat=m.value.toNat):=fun h=>z (ha.2 h)
  simp [fG,Xh.ce,f1,f2,z,z']
 have z':=ha.1 z;by_cases k1:kind=1
 ·subst k1;by_cases y:m.Yd=bF w
  ·rw [y] at f2 z z';simp [fG,Xh.ce,f1,f2,z,z',hm,y]
  ·simp [fG,Xh.ce,f1,f2,z,z',hm,y]
 by_cases k2:kind=2
 ·subst k2;cases y:plE m.Yd w with
  | none=>rw [y] at hp;simp [plV] at hp;simp [fG,Xh.ce,f1,f2,z,z',hp]
  | some x=>rw [y] at hp;simp [plV] at hp;simp [fG,Xh.ce,f1,f2,z,z',hp]
 simp [fG,Xh.ce,f1,f2,z,z',k1,k2]
theorem V2 (m:Xh) (kind w:Int) (h1:ok32 0 m.value) (h2:ok32 0 m.Yd):a9 Φ 198 [.agg (Xh.c m),.int .i64 w,.int .i64 kind]=some (.val (.int .i64 (keyK m kind w))):=by
 rw [aC rfl rfl];have f1:=Cy m.value w h1;have f2:=Cy m.Yd w h2;have hm:=QW w;have hp:=QX m.Yd w;have ha:=M6 h1 h2;simp [plV] at hp;unfold keyK;cases q1:fits m.value w with
 | false=>rw [q1] at f1;simp [fP,Xh.ce,hp,f1]
 | true=>
 rw [q1] at f1;cases q2:fits m.Yd w with
 | false=>rw [q2] at f2;simp [fP,Xh.ce,hp,f1,f2]
 | true=>
 rw [q2] at f2;by_cases z:iand .u32 m.value m.Yd=m.value
 rotate_left
 ·have z':¬(m.value.toNat&&& m.Yd.toNat=m.value.toNat):=fun h=>z (ha.2 h)
  simp [fP,Xh.ce,hp,f1,f2,z,z']
 have z':=ha.1 z;by_cases k1:kind=1
 ·subst k1;by_cases y:m.Yd=bF w
  ·rw [y] at hp f2 z z';simp [fP,Xh.ce,hp,f1,f2,z,z',hm,y]
  ·simp [fP,Xh.ce,hp,f1,f2,z,z',hm,y]
 by_cases k2:kind=2
 ·subst k2;cases y:plE m.Yd w with
  | none=>rw [y] at hp;simp [fP,Xh.ce,f1,f2,z,z',hp]
  | some x=>rw [y] at hp;simp [fP,Xh.ce,f1,f2,z,z',hp]
 simp [fP,Xh.ce,hp,f1,f2,z,z',k1,k2]
structure EntS (x:Entry):Prop where
 kl:x.keys.length<2^40
 ks:∀m∈x.keys,ok32 0 m.value/\ok32 0 m.Yd
 al:x.call.args.length<2^40
 ar:∀v∈x.call.args,ok32 0 v
def entF (p:Prg) (t:Int) (x:Entry):Int:=if x.Xs<0 then 9 else if 255<x.Xs then 9 else if x.Xs≠0/\rH p t≠3 then 11 else if tAl p t x.call.Xy=false then 8 else iL p x.call
def entG (p:Prg) (tb:Tbl) (x:Entry) (i:Nat):Option Int:=match x.keys[i]?,tb.keys[i]? with
 | some m,some k=>if keyK m k.kind (wid p k.field.header k.field.field)=0 then none else some (keyK m k.kind (wid p k.field.header k.field.field))
 | _,_=>none
def entE (p:Prg) (t:Int) (x:Entry):Int:=if (tblE p t).2≠0 then (tblE p t).2 else match at? p.Xm t with
 | some tb=>if x.keys.length≠tb.keys.length then 2 else (fe (entG p tb x) tb.keys.length 0).getD (entF p t x)
 | none=>0
theorem TG (p:Prg) (f:PrgS p) (t:Int) (x:Entry) (s:EntS x) (e:Env) (n:Nat) (h1:look 1 e=some (.int .i64 t)) (h3:look 3 e=some (.iptr 9 [Prg.c p] 0 0)) (h5:look 5 e=some (.iptr 4 [Entry.c x] 0 0)):
  go Φ (finP [.tmp 6]) [.c aX] .normal ⟨e,⟨[],n⟩⟩=some (.val (.int .i64 (entF p t x))):=by
 have hk:=RU p f t;have ha:=Hr p f t x.call.Xy;have hc:=IM p f x.call s.al;simp only [Prg.e,Xb.ce] at hk ha hc;rw [Prg.e] at h3;rw [Entry.ce] at h5;unfold entF;by_cases p0:x.Xs<0
 ·simp [aX,h5,p0]
 by_cases p1:255<x.Xs
 ·simp [aX,h5,p0,p1]
 by_cases p2:x.Xs=0
 ·cases q:tAl p t x.call.Xy with
  | false=>rw [q] at ha;simp [aX,h1,h3,h5,p2,ha]
  | true=>rw [q] at ha;simp [aX,h1,h3,h5,p2,ha,hc]
 by_cases p3:rH p t=3
 ·cases q:tAl p t x.call.Xy with
  | false=>rw [q] at ha;simp [aX,h1,h3,h5,p0,p1,p2,p3,hk,ha]
  | true=>rw [q] at ha;simp [aX,h1,h3,h5,p0,p1,p2,p3,hk,ha,hc]
 ·simp [aX,h1,h3,h5,p0,p1,p2,p3,hk]
theorem Mm (p:Prg) (f:PrgS p) (t:Int) (x:Entry) (s:EntS x):a9 Φ 74 [.agg (Prg.c p),.int .i64 t,.agg (Entry.c x)]=some (.val (.int .i64 (entE p t x))):=by
 rw [aC rfl rfl];have h:=Nv p f t;simp only [Prg.e] at h;by_cases z:(tblE p t).2=0
 rotate_left
 ·simp [uJ,Prg.e,Entry.ce,h,z,entE]
 have q:tOk p t=true:=by simp [tOk,z]
 obtain ⟨k,hk,rfl,o⟩:=zZ q;have hw:=Hs p f k hk q;simp only [Prg.e] at hw;have hb:=o.keys;by_cases y:x.keys.length=p.Xm[k].keys.length
 rotate_left
 ·simp [uJ,Prg.e,Entry.ce,Tbl.e,hk,h,z,hw,y,entE]
 have hE:entE p (k:Int) x=(fe (entG p p.Xm[k] x) p.Xm[k].keys.length 0).getD (entF p k x):=by simp [entE,z,hk,y]
 rw [hE];simp [uJ,Prg.e,Entry.ce,Tbl.e,hk,h,z,hw,y];refine eF p.Xm[k].keys.length (fun _=>[]) 0 (fun i e=>look 1 e=some (.int .i64 k)/\look 3 e=some (.iptr 9 [Prg.c p] 0 0)/\look 5 e=some (.iptr 4 [Entry.c x] 0 0)/\look 9 e=some (.slice 3 (p.Xm[k].keys.map Xk.c))/\look 10 e=some (.slice 1 ((kWid p p.Xm[k]).map cI))/\look 39 e=some (.slice 2 (x.keys.map Xh.c))/\look 40 e=some (.int .i64 p.Xm[k].keys.length)/\look 41 e=some (.int .i64 i))
  (fun i=>some (Rt.val (.int .i64 ((fe (entG p p.Xm[k] x) p.Xm[k].keys.length i).getD (entF p k x))))) ?_ ?_ 0 _ 0 (Qc _) (Qb _) ?_
 ·rintro i e n L hi hL _ ⟨h1,h3,h5,h9,h10,h39,h40,h41⟩ ih;have hi2:i<x.keys.length:=by omega
  have hi3:i<(kWid p p.Xm[k]).length:=by simp [kWid];exact hi
  have hkw:(kWid p p.Xm[k])[i]=wid p p.Xm[k].keys[i].field.header p.Xm[k].keys[i].field.field:=by simp [kWid]
  have hw:=aH i (by omega);have hm:=s.ks _ (Qd hi2);have hc:=TD x.keys[i] p.Xm[k].keys[i].kind (wid p p.Xm[k].keys[i].field.header p.Xm[k].keys[i].field.field) hm.1 hm.2;simp only [Xh.ce] at hc;by_cases v:keyK x.keys[i] p.Xm[k].keys[i].kind (wid p p.Xm[k].keys[i].field.header p.Xm[k].keys[i].field.field)=0
  ·rw [eW hi (by simp [entG,hi,hi2,v])];rw [v] at hc;generalize hX:some (Rt.val (AV.int .i64 ((fe (entG p p.Xm[k] x) p.Xm[k].keys.length (i+1)).getD (entF p k x))))=X;simp [i9,Xk.e,Xh.ce,cI,h9,h10,h39,h40,h41,hi,hi2,hi3,hkw,hc,hw];rw [<- hX];exact ih _ _ (Qc _) ⟨by simp [h1],by simp [h3],by simp [h5],by simp [h9],by simp [h10],by simp [h39],by simp [h40],by simp⟩
  ·rw [bX (x:=keyK x.keys[i] p.Xm[k].keys[i].kind (wid p p.Xm[k].keys[i].field.header p.Xm[k].keys[i].field.field)) hi (by simp [entG,hi,hi2,v])];simp [i9,Xk.e,Xh.ce,cI,h9,h10,h39,h40,h41,hi,hi2,hi3,hkw,hc,v]
 ·rintro e n L hL _ ⟨h1,h3,h5,h9,h10,h39,h40,h41⟩;rw [iQ];simp [i9,h40,h41,hL];exact TG p f k x s _ _ (by simp [h1]) (by simp [h3]) (by simp [h5])
 ·simp [Prg.e,Entry.ce]
theorem QT (p:Prg) (f:PrgS p) (hv:∀t∈p.Xm,∀v∈t.Yb.args,ok32 0 v) (t:Int) (x:Entry) (s:EntS x) (e:Env) (n:Nat) (h1:look 1 e=some (.int .i64 t)) (h3:look 3 e=some (.iptr 9 [Prg.c p] 0 0)) (h5:look 5 e=some (.iptr 4 [Entry.c x] 0 0)):
  go Φ (finP [.tmp 6]) [.c aO] .normal ⟨e,⟨[],n⟩⟩=some (.val (.int .i64 (entF p t x))):=by
 have hk:=QV p f hv t;have ha:=Gw p f hv t x.call.Xy;have hc:=Bf p f x.call s.al s.ar;simp only [Prg.e,Xb.ce] at hk ha hc;rw [Prg.e] at h3;rw [Entry.ce] at h5;unfold entF;by_cases p0:x.Xs<0
 ·simp [aO,h5,p0]
 by_cases p1:255<x.Xs
 ·simp [aO,h5,p0,p1]
 by_cases p2:x.Xs=0
 ·cases q:tAl p t x.call.Xy with
  | false=>rw [q] at ha;simp [aO,h1,h3,h5,p2,ha]
  | true=>rw [q] at ha;simp [aO,h1,h3,h5,p2,ha,hc]
 have p4:0<x.Xs:=by omega
 by_cases p3:rH p t=3
 ·cases q:tAl p t x.call.Xy with
  | false=>rw [q] at ha;simp [aO,h1,h3,h5,p0,p1,p2,p3,p4,hk,ha]
  | true=>rw [q] at ha;simp [aO,h1,h3,h5,p0,p1,p2,p3,p4,hk,ha,hc]
 ·simp [aO,h1,h3,h5,p0,p1,p2,p3,p4,hk]
theorem QS (p:Prg) (f:PrgS p) (hv:∀t∈p.Xm,∀v∈t.Yb.args,ok32 0 v) (t:Int) (x:Entry) (s:EntS x):a9 Φ 118 [.agg (Prg.c p),.int .i64 t,.agg (Entry.c x)]=some (.val (.int .i64 (entE p t x))):=by
 rw [aC rfl rfl];have h:=Lc p f hv t;simp only [Prg.e] at h;by_cases z:(tblE p t).2=0
 rotate_left
 ·simp [pB,Prg.e,Entry.ce,h,z,entE]
 have q:tOk p t=true:=by simp [tOk,z]
 obtain ⟨k,hk,rfl,o⟩:=zZ q;have hw:=LJ p f hv k hk q;simp only [Prg.e] at hw;have hb:=o.keys;have hkl:(kWid p p.Xm[k]).length=p.Xm[k].keys.length:=by simp [kWid]
 by_cases y:x.keys.length=p.Xm[k].keys.length
 rotate_left
 ·simp [pB,Prg.e,Entry.ce,hk,h,z,hw,y,hkl,entE]
 have hE:entE p (k:Int) x=(fe (entG p p.Xm[k] x) p.Xm[k].keys.length 0).getD (entF p k x):=by simp [entE,z,hk,y]
 rw [hE];simp [pB,Prg.e,Entry.ce,h,z,hw,y,hkl];refine eF p.Xm[k].keys.length (fun _=>[]) 0 (fun i e=>look 1 e=some (.int .i64 k)/\look 3 e=some (.iptr 9 [Prg.c p] 0 0)/\look 5 e=some (.iptr 4 [Entry.c x] 0 0)/\look 9 e=some (.slice 1 ((kWid p p.Xm[k]).map cI))/\look 10 e=some (.int .i64 i))
  (fun i=>some (Rt.val (.int .i64 ((fe (entG p p.Xm[k] x) p.Xm[k].keys.length i).getD (entF p k x))))) ?_ ?_ 0 _ 0 (Qc _) (Qb _) ?_
 ·rintro i e n L hi hL _ ⟨h1,h3,h5,h9,h10⟩ ih;have hi2:i<x.keys.length:=by omega
  have hi3:i<(kWid p p.Xm[k]).length:=by omega
  have hkw:(kWid p p.Xm[k])[i]=wid p p.Xm[k].keys[i].field.header p.Xm[k].keys[i].field.field:=by simp [kWid]
  have hw:=aH i (by omega);have hm:=s.ks _ (Qd hi2);have hc:=V2 x.keys[i] p.Xm[k].keys[i].kind (wid p p.Xm[k].keys[i].field.header p.Xm[k].keys[i].field.field) hm.1 hm.2;simp only [Xh.ce] at hc;rw [Prg.e] at h3;rw [Entry.ce] at h5;by_cases v:keyK x.keys[i] p.Xm[k].keys[i].kind (wid p p.Xm[k].keys[i].field.header p.Xm[k].keys[i].field.field)=0
  ·rw [eW hi (by simp [entG,hi,hi2,v])];rw [v] at hc;generalize hX:some (Rt.val (AV.int .i64 ((fe (entG p p.Xm[k] x) p.Xm[k].keys.length (i+1)).getD (entF p k x))))=X;simp [dB,Xk.e,Tbl.e,Xh.ce,cI,h1,h3,h5,h9,h10,hk,hkl,hi,hi2,hkw,hc,hw];rw [<- hX];exact ih _ _ (Qc _) ⟨by simp [h1],by simp [h3,Prg.e],by simp [h5,Entry.ce],by simp [h9],by simp⟩
  ·rw [bX (x:=keyK x.keys[i] p.Xm[k].keys[i].kind (wid p p.Xm[k].keys[i].field.header p.Xm[k].keys[i].field.field)) hi (by simp [entG,hi,hi2,v])];simp [dB,Xk.e,Tbl.e,Xh.ce,cI,h1,h3,h5,h9,h10,hk,hkl,hi,hi2,hkw,hc,v]
 ·rintro e n L hL _ ⟨h1,h3,h5,h9,h10⟩;rw [iQ];simp [dB,h9,h10,hkl,hL];exact QT p f hv k x s _ _ (by simp [h1]) (by simp [h3]) (by simp [h5])
 ·simp [Prg.e,Entry.ce]
def iT (p:Prg) (t:Int) (c:Xb):Int:=if tAl p t c.Xy=false then 8 else iL p c
theorem R3 (p:Prg) (f:PrgS p) (t:Int) (c:Xb) (hc:c.args.length<2^40):a9 Φ 167 [.agg (Prg.c p),.int .i64 t,.agg (Xb.c c)]=some (.val (.int .i64 (iT p t c))):=by
 rw [aC rfl rfl];have ha:=Hr p f t c.Xy;have hk:=IM p f c hc;simp only [Prg.e,Xb.ce] at ha hk;cases q:tAl p t c.Xy with
 | false=>rw [q] at ha;simp [rS,Prg.e,Xb.ce,ha,iT,q]
 | true=>rw [q] at ha;simp [rS,Prg.e,Xb.ce,ha,hk,iT,q]
theorem QO (p:Prg) (f:PrgS p) (hv:∀t∈p.Xm,∀v∈t.Yb.args,ok32 0 v) (t:Int) (c:Xb) (hc:c.args.length<2^40) (hr:∀v∈c.args,ok32 0 v):a9 Φ 56 [.agg (Prg.c p),.int .i64 t,.agg (Xb.c c)]=some (.val (.int .i64 (iT p t c))):=by
 rw [aC rfl rfl];have ha:=Gw p f hv t c.Xy;have hk:=Bf p f c hc hr;simp only [Prg.e,Xb.ce] at ha hk;cases q:tAl p t c.Xy with
 | false=>rw [q] at ha;simp [AU,Prg.e,Xb.ce,ha,iT,q]
 | true=>rw [q] at ha;simp [AU,Prg.e,Xb.ce,ha,hk,iT,q]
def sk (x y:Entry):Bool:=decide (x.keys=y.keys/\x.Xs=y.Xs)
theorem EW (x y:Entry) (hb:x.keys.length<2^40):a9 Φ 77 [.agg [.slice 2 (x.keys.map Xh.c),.int .i64 x.Xs,.int .i64 x.call.Xy,.slice 1 (x.call.args.map c32)],.agg [.slice 2 (y.keys.map Xh.c),.int .i64 y.Xs,.int .i64 y.call.Xy,.slice 1 (y.call.args.map c32)]]=some (.val (.bool (sk x y))):=Yw _ _ _ _ _ _ hb
theorem X0 (x y:Entry) (hb:x.keys.length<2^40):a9 Φ 165 [.agg [.slice 2 (x.keys.map Xh.c),.int .i64 x.Xs,.int .i64 x.call.Xy,.slice 1 (x.call.args.map c32)],.agg [.slice 2 (y.keys.map Xh.c),.int .i64 y.Xs,.int .i64 y.call.Xy,.slice 1 (y.call.args.map c32)]]=some (.val (.bool (sk x y))):=ad _ _ _ _ _ _ hb
theorem WH (x r:Rw) (hb:x.entry.keys.length<2^40):a9 Φ 166 [.agg (Rw.c x),.iptr 5 [Rw.c r] 0 0]=some (.val (.bool (sk x.entry r.entry))):=by
 rw [aC rfl rfl];have h:=EW x.entry r.entry hb;simp [vM,Rw.ce,h]
theorem M7 (l:List Rw) (r:Rw) (hl:l.length<2^40) (hs:∀x∈l,x.entry.keys.length<2^40):a9 Φ 145 [.slice 5 (l.map Rw.c),.func (.func 166) [] [.iptr 5 [Rw.c r] 0 0]]=some (.val (.int .i64 (ix (fun x=>sk x.entry r.entry) l 0))):=by
 rw [aC rfl rfl];simp [rR];refine (oD l.length (fun i e=>look 0 e=some (.slice 5 (l.map Rw.c))/\look 1 e=some (.func (.func 166) [] [.iptr 5 [Rw.c r] 0 0])/\look 7 e=some (.int .i64 l.length)/\look 8 e=some (.int .i64 i))
  (fun i=>some (.val (.int .i64 (ix (fun x=>sk x.entry r.entry) l i)))) ?_ ?_ 0 _ (Qc _) ?_).trans (by simp)
 ·rintro i e L hi hL ⟨h0,h1,h7,h8⟩ ih;have hw:=aH i (by omega);have hd:=WH l[i] r (hs _ (Qd hi));simp only [Rw.ce] at hd h1;cases z:sk l[i].entry r.entry with
  | true=>
   rw [DG hi (by simpa using z)];rw [z] at hd;simp [aZ,Rw.ce,h0,h1,h7,h8,hi,hd]
  | false=>
   rw [D7 hi (by simpa using z)];rw [z] at hd;simp [aZ,Rw.ce,h0,h1,h7,h8,hi,hd,hw];exact ih _ ⟨by simp [h0],by simp [h1,Rw.ce],by simp [h7],by simp⟩
 ·rintro e L hL ⟨h0,h1,h7,h8⟩;rw [DF];simp [aZ,fH,h7,h8,hL]
 ·simp
theorem LI (l:List Rw) (r:Rw) (hl:l.length<2^40) (hs:∀x∈l,x.entry.keys.length<2^40):a9 Φ 75 [.slice 5 (l.map Rw.c),.func (.func 166) [] [.iptr 5 [Rw.c r] 0 0]]=some (.val (.bool (l.any fun x=>sk x.entry r.entry))):=by
 rw [aC rfl rfl];have h:=M7 l r hl hs;rw [<- DE];simp [AZ,h]
theorem RS (l:List Rw) (x:Entry) (hl:l.length<2^40) (hs:∀x∈l,x.entry.keys.length<2^40):a9 Φ 119 [.slice 5 (l.map Rw.c),.agg (Entry.c x)]=some (.val (.bool (l.any fun y=>sk y.entry x))):=by
 rw [aC rfl rfl];generalize hY:some (Rt.val (AV.bool (l.any fun y=>sk y.entry x)))=Y;simp [vD,Entry.ce];rw [show Y=some (Rt.val (AV.bool ((l.drop 0).any fun y=>sk y.entry x))) by rw [<- hY];simp];refine oD l.length (fun i e=>look 0 e=some (.slice 5 (l.map Rw.c))/\look 3 e=some (.iptr 4 [Entry.c x] 0 0)/\look 5 e=some (.int .i64 i))
  (fun i=>some (Rt.val (.bool ((l.drop i).any fun y=>sk y.entry x)))) ?_ ?_ 0 _ (Qc _) ?_
 ·rintro i e L hi hL ⟨h0,h3,h5⟩ ih;have hw:=aH i (by omega);have hd:=X0 l[i].entry x (hs _ (Qd hi));rw [Entry.ce] at h3;rw [Qi hi,uH];cases z:sk l[i].entry x with
  | true=>
   rw [z] at hd;rw [CJ];simp [dC,Rw.ce,h0,h3,h5,hi,hd]
  | false=>
   rw [z] at hd;rw [AP];generalize hX:some (Rt.val (AV.bool ((l.drop (i+1)).any fun y=>sk y.entry x)))=X;simp [dC,Rw.ce,h0,h3,h5,hi,hd,hw];rw [<- hX];exact ih _ ⟨by simp [h0],by simp [h3,Entry.ce],by simp⟩
 ·rintro e L hL ⟨h0,h3,h5⟩;simp [dC,jR,h0,h5,hL]
 ·simp [Entry.ce]
def ordL:List Rw->Int->Option Int
 | [],a=>some a
 | r::l,a=>if r.id<=a then none else ordL l r.id
def rowG (p:Prg) (t:Int) (l:List Rw) (i:Nat):Option Int:=(l[i]?).bind fun r=>if entE p t r.entry≠0 then some (entE p t r.entry) else if (l.take i).any (fun y=>sk y.entry r.entry)=true then some 7 else none
def tabK (p:Prg) (t:Int) (l:List Rw) (next:Int) (z:Int):Option Int->Int
 | none=>14
 | some a=>if next<=a then 14 else if 1073741824<next then 14 else (fe (rowG p t l) l.length 0).getD z
def rowS (r:Rw):Prop:=EntS r.entry
theorem ct_b (p:Prg) (f:PrgS p) (t:Int) (l:List Rw) (next:Int) (d:Xb) (hl:l.length<2^40) (hs:∀r∈l,rowS r) (hd:d.args.length<2^40) (a:Int) (ha:0<=a) (e:Env) (n:Nat)
  (h1:look 1 e=some (.int .i64 t)) (h2:look 2 e=some (.slice 5 (l.map Rw.c))) (h3:look 3 e=some (.int .i64 next)) (h5:look 5 e=some (.iptr 9 [Prg.c p] 0 0)) (h9:look 9 e=some (.iptr 2 [Xb.c d] 0 0)) (h11:look 11 e=some (.int .i64 a)):
  go Φ (finP [.tmp 10]) [.c bZ] .normal ⟨e,⟨[],n⟩⟩=some (.val (.int .i64 (tabK p t l next (iT p t d) (some a)))):=by
 unfold tabK;dsimp only;by_cases z0:next<=a
 ·simp [bZ,h3,h11,z0]
 have z1:¬next<1:=by omega
 by_cases z2:1073741824<next
 ·simp [bZ,h3,h11,z0,z1,z2]
 rw [QA z0,QA z2];simp [bZ,h2,h3,h11,z0,z1,z2];refine eF l.length (fun _=>[]) 0 (fun i e=>look 1 e=some (.int .i64 t)/\look 2 e=some (.slice 5 (l.map Rw.c))/\look 5 e=some (.iptr 9 [Prg.c p] 0 0)/\look 9 e=some (.iptr 2 [Xb.c d] 0 0)/\look 50 e=some (.slice 5 (l.map Rw.c))/\look 51 e=some (.int .i64 l.length)/\look 52 e=some (.int .i64 i))
  (fun i=>some (Rt.val (.int .i64 ((fe (rowG p t l) l.length i).getD (iT p t d))))) ?_ ?_ 0 _ n (Qc _) (Qc _) ?_
 ·rintro i e n L hi hL _ ⟨h1,h2,h5,h9,h50,h51,h52⟩ ih;have hw:=aH i (by omega);have hm:=hs _ (Qd hi);have hc:=Mm p f t l[i].entry hm;have hi':i<=l.length:=by omega
  have hx:a9 Φ 75 [.slice 5 ((l.map Rw.c).take i),.func (.func 166) [] [.iptr 5 [Rw.c l[i]] 0 0]]=some (.val (.bool ((l.take i).any fun x=>sk x.entry l[i].entry))):=by
   rw [<- CG];exact LI (l.take i) l[i] (by simp;omega) fun x hx=>(hs x (Qu hx)).kl
  simp only [Prg.e,Entry.ce] at hc;rw [Rw.ce] at hx;rw [Prg.e] at h5;by_cases v:entE p t l[i].entry=0
  ·rw [v] at hc;cases w:(l.take i).any fun x=>sk x.entry l[i].entry with
   | true=>
    rw [w] at hx;rw [bX (x:=(7:Int)) hi (by simp only [rowG,Qa hi,fB];rw [QA (by simp [v]),a8 w])];simp [c9,Rw.ce,h1,h2,h5,h50,h51,h52,hi,hi',hc,hx]
   | false=>
    rw [w] at hx;rw [eW hi (by simp only [rowG,Qa hi,fB];rw [QA (by simp [v]),QA (by rw [w];decide)])];generalize hX:some (Rt.val (AV.int .i64 ((fe (rowG p t l) l.length (i+1)).getD (iT p t d))))=X;simp [c9,Rw.ce,h1,h2,h5,h50,h51,h52,hi,hi',hc,hx,hw];rw [<- hX];exact ih _ _ (Qc _) ⟨by simp [h1],by simp [h2],by simp [h5,Prg.e],by simp [h9],by simp [h50],by simp [h51],by simp⟩
  ·rw [bX (x:=entE p t l[i].entry) hi (by simp only [rowG,Qa hi,fB];rw [a8 v])];simp [c9,Rw.ce,h1,h5,h50,h51,h52,hi,hc,v]
 ·rintro e n L hL _ ⟨h1,h2,h5,h9,h50,h51,h52⟩;have hk:=R3 p f t d hd;simp only [Prg.e,Xb.ce] at hk;rw [Prg.e] at h5;rw [Xb.ce] at h9;rw [iQ];simp [c9,jM,h1,h5,h9,h51,h52,hL,hk]
 ·simp [h1,h2,h5,h9]
theorem T9 (p:Prg) (f:PrgS p) (k:Nat) (hk:k<p.Xm.length) (l:List Rw) (next:Int) (d:Xb) (hl:l.length<2^40) (hs:∀r∈l,rowS r) (hd:d.args.length<2^40):
  a9 Φ 100 [.agg (Prg.c p),.int .i64 k,.slice 5 (l.map Rw.c),.int .i64 next,.agg (Xb.c d)]=some (.val (.int .i64 (if p.Xm[k].size<l.length then 12 else tabK p k l next (iT p k d) (ordL l 0)))):=by
 rw [aC rfl rfl];by_cases z:p.Xm[k].size<(l.length:Int)
 ·simp [rL,Prg.e,Xb.ce,Tbl.e,hk,z]
 rw [QA z];simp [rL,Prg.e,Xb.ce,Tbl.e,hk,z];refine eF l.length (fun _=>[]) 0 (fun i e=>look 1 e=some (.int .i64 k)/\look 2 e=some (.slice 5 (l.map Rw.c))/\look 3 e=some (.int .i64 next)/\look 5 e=some (.iptr 9 [Prg.c p] 0 0)/\look 9 e=some (.iptr 2 [Xb.c d] 0 0)/\look 26 e=some (.slice 5 (l.map Rw.c))/\look 27 e=some (.int .i64 l.length)/\look 28 e=some (.int .i64 i)/\∃a:Int,look 11 e=some (.int .i64 a)/\0<=a/\ordL (l.drop i) a=ordL l 0)
  (fun _=>some (Rt.val (.int .i64 (tabK p k l next (iT p k d) (ordL l 0))))) ?_ ?_ 0 _ 0 (Qc _) (Qc _) ?_
 ·rintro i e n L hi hL _ ⟨h1,h2,h3,h5,h9,h26,h27,h28,a,h11,ha,ho⟩ ih;have hw:=aH i (by omega);rw [Qi hi] at ho;simp only [ordL] at ho;by_cases y:l[i].id<=a
  ·rw [a8 y] at ho;rw [<- ho];simp [d8,Rw.ce,h26,h27,h28,h11,hi,y,tabK]
  ·rw [QA y] at ho;generalize hX:some (Rt.val (AV.int .i64 (tabK p k l next (iT p k d) (ordL l 0))))=X;simp [d8,Rw.ce,h26,h27,h28,h11,hi,y,hw];rw [<- hX];exact ih _ _ (Qc _) ⟨by simp [h1],by simp [h2],by simp [h3],by simp [h5],by simp [h9],by simp [h26],by simp [h27],by simp,l[i].id,by simp,by omega,ho⟩
 ·rintro e n L hL _ ⟨h1,h2,h3,h5,h9,h26,h27,h28,a,h11,ha,ho⟩;rw [rK] at ho;simp only [ordL] at ho;rw [<- ho];generalize hX:some (Rt.val (AV.int .i64 (tabK p k l next (iT p k d) (some a))))=X;simp [d8,h27,h28,hL];rw [<- hX];exact ct_b p f k l next d hl hs hd a ha _ _ (by simp [h1]) (by simp [h2]) (by simp [h3]) (by simp [h5]) (by simp [h9]) (by simp [h11])
 ·simp [Prg.e,Xb.ce]
theorem rt_b (p:Prg) (f:PrgS p) (hv:∀t∈p.Xm,∀v∈t.Yb.args,ok32 0 v) (t:Int) (l:List Rw) (next:Int) (hl:l.length<2^40) (hs:∀r∈l,rowS r) (a:Int) (e:Env) (n:Nat)
  (h1:look 1 e=some (.int .i64 t)) (h2:look 2 e=some (.slice 5 (l.map Rw.c))) (h3:look 3 e=some (.int .i64 next)) (h4:look 4 e=some (.iptr 9 [Prg.c p] 0 0)) (h9:look 9 e=some (.int .i64 a)):
  go Φ (finP [.tmp 8]) [.c eM] .normal ⟨e,⟨[],n⟩⟩=some (.val (.int .i64 (tabK p t l next 0 (some a)))):=by
 unfold tabK;dsimp only;by_cases z0:next<=a
 ·simp [eM,h3,h9,z0]
 by_cases z2:1073741824<next
 ·simp [eM,h3,h9,z0,z2]
 rw [QA z0,QA z2];simp [eM,h3,h9,z0,z2];refine eF l.length (fun _=>[]) 0 (fun i e=>look 1 e=some (.int .i64 t)/\look 2 e=some (.slice 5 (l.map Rw.c))/\look 4 e=some (.iptr 9 [Prg.c p] 0 0)/\look 11 e=some (.int .i64 i))
  (fun i=>some (Rt.val (.int .i64 ((fe (rowG p t l) l.length i).getD 0)))) ?_ ?_ 0 _ n (Qc _) (Qc _) ?_
 ·rintro i e n L hi hL _ ⟨h1,h2,h4,h11⟩ ih;have hw:=aH i (by omega);have hm:=hs _ (Qd hi);have hc:=QS p f hv t l[i].entry hm;have hi':i<=l.length:=by omega
  have hx:a9 Φ 119 [.slice 5 ((l.map Rw.c).take i),.agg (Entry.c l[i].entry)]=some (.val (.bool ((l.take i).any fun x=>sk x.entry l[i].entry))):=by
   rw [<- CG];exact RS (l.take i) l[i].entry (by simp;omega) fun x hx=>(hs x (Qu hx)).kl
  simp only [Prg.e,Entry.ce] at hc;rw [Entry.ce] at hx;rw [Prg.e] at h4;by_cases v:entE p t l[i].entry=0
  ·rw [v] at hc;cases w:(l.take i).any fun x=>sk x.entry l[i].entry with
   | true=>
    rw [w] at hx;rw [bX (x:=(7:Int)) hi (by simp only [rowG,Qa hi,fB];rw [QA (by simp [v]),a8 w])];simp [eN,Rw.ce,h1,h2,h4,h11,hi,hi',hc,hx]
   | false=>
    rw [w] at hx;rw [eW hi (by simp only [rowG,Qa hi,fB];rw [QA (by simp [v]),QA (by rw [w];decide)])];generalize hX:some (Rt.val (AV.int .i64 ((fe (rowG p t l) l.length (i+1)).getD 0)))=X;simp [eN,Rw.ce,h1,h2,h4,h11,hi,hi',hc,hx,hw];rw [<- hX];exact ih _ _ (Qc _) ⟨by simp [h1],by simp [h2],by simp [h4,Prg.e],by simp⟩
  ·rw [bX (x:=entE p t l[i].entry) hi (by simp only [rowG,Qa hi,fB];rw [a8 v])];simp [eN,Rw.ce,h1,h2,h4,h11,hi,hc,v]
 ·rintro e n L hL _ ⟨h1,h2,h4,h11⟩;rw [iQ];simp [eN,mT,h2,h11,hL]
 ·simp [h1,h2,h4]
theorem QZ (p:Prg) (f:PrgS p) (hv:∀t∈p.Xm,∀v∈t.Yb.args,ok32 0 v) (k:Nat) (hk:k<p.Xm.length) (l:List Rw) (next:Int) (hl:l.length<2^40) (hs:∀r∈l,rowS r):
  a9 Φ 55 [.agg (Prg.c p),.int .i64 k,.slice 5 (l.map Rw.c),.int .i64 next]=some (.val (.int .i64 (if p.Xm[k].size<l.length then 12 else tabK p k l next 0 (ordL l 0)))):=by
 rw [aC rfl rfl];by_cases z:p.Xm[k].size<(l.length:Int)
 ·simp [AS,Prg.e,Tbl.e,hk,z]
 rw [QA z];simp [AS,Prg.e,Tbl.e,hk,z];refine eF l.length (fun _=>[]) 0 (fun i e=>look 1 e=some (.int .i64 k)/\look 2 e=some (.slice 5 (l.map Rw.c))/\look 3 e=some (.int .i64 next)/\look 4 e=some (.iptr 9 [Prg.c p] 0 0)/\look 10 e=some (.int .i64 i)/\∃a:Int,look 9 e=some (.int .i64 a)/\ordL (l.drop i) a=ordL l 0)
  (fun _=>some (Rt.val (.int .i64 (tabK p k l next 0 (ordL l 0))))) ?_ ?_ 0 _ 0 (Qc _) (Qc _) ?_
 ·rintro i e n L hi hL _ ⟨h1,h2,h3,h4,h10,a,h9,ho⟩ ih;have hw:=aH i (by omega);rw [Qi hi] at ho;simp only [ordL] at ho;by_cases y:l[i].id<=a
  ·rw [a8 y] at ho;rw [<- ho];simp [gX,Rw.ce,h2,h10,h9,hi,y,tabK]
  ·rw [QA y] at ho;generalize hX:some (Rt.val (AV.int .i64 (tabK p k l next 0 (ordL l 0))))=X;simp [gX,Rw.ce,h2,h10,h9,hi,y,hw];rw [<- hX];exact ih _ _ (Qc _) ⟨by simp [h1],by simp [h2],by simp [h3],by simp [h4],by simp,l[i].id,by simp,ho⟩
 ·rintro e n L hL _ ⟨h1,h2,h3,h4,h10,a,h9,ho⟩;rw [rK] at ho;simp only [ordL] at ho;rw [<- ho];generalize hX:some (Rt.val (AV.int .i64 (tabK p k l next 0 (some a))))=X;simp [gX,h2,h10,hL];rw [<- hX];exact rt_b p f hv k l next hl hs a _ _ (by simp [h1]) (by simp [h2]) (by simp [h3]) (by simp [h4]) (by simp [h9])
 ·simp [Prg.e]
end Go.Av
