/-
 Parser states and the deparser: the program's answers.
-/
import Derived.Test.YtakklbipljodeaaGreatK10
set_option linter.unusedVariables false
set_option linter.unusedSimpArgs false
set_option linter.constructorNameAsVariable false
namespace Go.Av
set_option maxRecDepth 4000
theorem qwz (x y:BitVec 32):x&&& ~~~y=0#32↔x&&& y=x:=by
 constructor
 ·intro h;apply BitVec.eq_of_getLsbD_eq;intro i hi;have:=congrArg (·.getLsbD i) h;simp [hi] at this ⊢;exact this
 ·intro h;apply BitVec.eq_of_getLsbD_eq;intro i hi;have:=congrArg (·.getLsbD i) h;simp [hi] at this ⊢;exact this
theorem qte {n:Int} (h1:0≤n) (h2:n<4294967296):IntKind.wrap .u32 n=n:=by
 have e1:(2:Int)^32=4294967296:=rfl;simp only [IntKind.wrap,IntKind.bits,IntKind.signed,Bool.false_and,e1];rw [if_neg (by simp)];omega
theorem ql8 {v:Int} (h:ok32 0 v):BitVec.ofInt 32 v=BitVec.ofNat 32 v.toNat:=by
 obtain ⟨h1,h2⟩:=h;apply BitVec.eq_of_toNat_eq;simp;omega
theorem qla {v m:Int} (hv:ok32 0 v) (hm:ok32 0 m):qgo .u32 v m=0↔v.toNat&&& m.toNat=v.toNat:=by
 have hv2:=hv.2;have hm2:=hm.2;unfold qgo;show IntKind.wrap .u32 ((BitVec.ofInt 32 v&&& ~~~BitVec.ofInt 32 m).toNat:Int)=0↔_;have hlt:=(BitVec.ofInt 32 v&&& ~~~BitVec.ofInt 32 m).isLt;rw [qte (by omega) (by omega)];rw [show (((BitVec.ofInt 32 v&&& ~~~BitVec.ofInt 32 m).toNat:Int)=0)↔(BitVec.ofInt 32 v&&& ~~~BitVec.ofInt 32 m)=0#32 by
  rw [← BitVec.toNat_inj];simp only [BitVec.toNat_ofNat];omega]
 rw [qwz,ql8 hv,ql8 hm,← BitVec.toNat_inj,BitVec.toNat_and,BitVec.toNat_ofNat,BitVec.toNat_ofNat,Nat.mod_eq_of_lt (by omega),Nat.mod_eq_of_lt (by omega)]
theorem qp2 {v m:Int} (hv:ok32 0 v) (hm:ok32 0 m):iand .u32 v m=v↔v.toNat&&& m.toNat=v.toNat:=by
 have hv1:=hv.1;have hv2:=hv.2;have hm2:=hm.2;unfold iand;show IntKind.wrap .u32 ((BitVec.ofInt 32 v&&& BitVec.ofInt 32 m).toNat:Int)=v↔_;have hlt:=(BitVec.ofInt 32 v&&& BitVec.ofInt 32 m).isLt;rw [qte (by omega) (by omega),ql8 hv,ql8 hm,BitVec.toNat_and,BitVec.toNat_ofNat,BitVec.toNat_ofNat,Nat.mod_eq_of_lt (by omega),Nat.mod_eq_of_lt (by omega)];omega
theorem qm2 (p:Prg) (s:Nat) (n:Int):qab Φ f_335 [.agg (Prg.c p),.int .i64 s,.int .i64 n]=some (.val (.bool (qdh p s n))):=by
 rw [qaa (fn:=c_335) rfl rfl];by_cases n1:n= -1
 ·simp [c_335,Prg.e,qdh,n1]
 by_cases n2:n= -2
 ·simp [c_335,Prg.e,qdh,n2]
 by_cases n3:(s:Int)<n
 ·simp [c_335,Prg.e,qdh,n1,n2,n3]
 ·simp [c_335,Prg.e,qdh,n1,n2,n3]
theorem qzk (p:Prg) (s:Nat) (hs:s<p.states.length) (c:SelectCase) (h1:ok32 0 c.value) (h2:ok32 0 c.mask):qab Φ f_334 [.agg (Prg.c p),.int .i64 s,.agg (SelectCase.c c)]=some (.val (.int .i64 (qdn p s p.states[s] c))):=by
 rw [qaa (fn:=c_334) rfl rfl];have hw:=qoo p p.states[s].on.header p.states[s].on.field;have f1:=qjk c.value (wid p p.states[s].on.header p.states[s].on.field);have f2:=qjk c.mask (wid p p.states[s].on.header p.states[s].on.field);have hl:=qm2 p s c.next;have ha:=qla h1 h2;simp only [Prg.e] at hw hl;cases q1:fits c.value (wid p p.states[s].on.header p.states[s].on.field) with
 | false=>rw [q1] at f1;simp [c_334,Prg.e,SelectCase.e,ParserState.e,hs,hw,f1,qdn,q1]
 | true=>
 rw [q1] at f1;cases q2:fits c.mask (wid p p.states[s].on.header p.states[s].on.field) with
 | false=>rw [q2] at f2;simp [c_334,Prg.e,SelectCase.e,ParserState.e,hs,hw,f1,f2,qdn,q1,q2]
 | true=>
 rw [q2] at f2;by_cases z:qgo .u32 c.value c.mask=0
 ·have z':=ha.1 z;cases q3:qdh p s c.next with
  | true=>rw [q3] at hl;simp [c_334,Prg.e,SelectCase.e,ParserState.e,hs,hw,f1,f2,hl,qdn,q1,q2,q3,z,z']
  | false=>rw [q3] at hl;simp [c_334,Prg.e,SelectCase.e,ParserState.e,hs,hw,f1,f2,hl,qdn,q1,q2,q3,z,z']
 ·have z':¬(c.value.toNat&&& c.mask.toNat=c.value.toNat):=fun h=>z (ha.2 h)
  simp [c_334,Prg.e,SelectCase.e,ParserState.e,hs,hw,f1,f2,qdn,q1,q2,z,z']
def qcr (p:Prg) (s:Nat) (x:ParserState) (i:Nat):Option (Int×Int):=(x.cases[i]?).bind fun c=>if qdn p s x c=0 then none else some ((i:Int),qdn p s x c)
def stF (p:Prg) (s:Nat) (x:ParserState):Int×Int:=if qdh p s x.dflt then (0,0) else (-1,14)
def stK (p:Prg) (s:Nat) (x:ParserState):Int×Int:=
 if x.select=true∧wid p x.on.header x.on.field=0 then (-1,8)
 else if x.select=false∧0<x.cases.length then (-1,11)
 else (fe (qcr p s x) x.cases.length 0).getD (stF p s x)
theorem qyz (p:Prg) (s:Nat) (x:ParserState):stE p s x=if 4<x.extract.length∨8<x.cases.length then (-1,12)
  else if x.extract.any (fun h=>decide (h<0) || decide ((p.headers.length:Int)≤h)) then (-1,8) else stK p s x:=by
 unfold stE stK;show (if _ then _ else if _ then _ else if _ then _ else if _ then _ else (match fe (qcr p s x) x.cases.length 0 with | some e=>e | none=>stF p s x))=_;cases fe (qcr p s x) x.cases.length 0<;>rfl
theorem qahy (p:Prg) (s:Nat) (hs:s<p.states.length) (hv:∀c∈p.states[s].cases,ok32 0 c.value∧ok32 0 c.mask) (hl:p.states[s].cases.length<2^40) (e:Env) (n:Nat)
  (h1:look 1 e=some (.int .i64 s)) (h2:look 2 e=some (.iptr 9 [Prg.c p] 0 0)) (h6:look 6 e=some (.iptr 7 [ParserState.c p.states[s]] 0 0)):
  go Φ (finP [.tmp 4,.tmp 5]) [.c c_298_k3] .normal ⟨e,⟨[],n⟩⟩=some (.val (.tup [.int .i64 (stK p s p.states[s]).1,.int .i64 (stK p s p.states[s]).2])):=by
 have hw:=qoo p p.states[s].on.header p.states[s].on.field;simp only [Prg.e] at hw;rw [Prg.e] at h2;rw [ParserState.e] at h6;cases q:p.states[s].select with
 | true=>
  rw [q] at h6;by_cases z:wid p p.states[s].on.header p.states[s].on.field=0
  ·rw [z] at hw;simp [c_298_k3,h2,h6,hw,stK,q,z]
  rw [show stK p s p.states[s]=(fe (qcr p s p.states[s]) p.states[s].cases.length 0).getD (stF p s p.states[s]) by simp [stK,q,z]];simp [c_298_k3,h2,h6,hw,z];refine qaw p.states[s].cases.length (fun _=>[]) 0 (fun i e=>look 1 e=some (.int .i64 s)∧look 2 e=some (.iptr 9 [Prg.c p] 0 0)∧look 6 e=some (.iptr 7 [ParserState.c p.states[s]] 0 0)∧look 65 e=some (.slice 3 (p.states[s].cases.map SelectCase.c))∧look 66 e=some (.int .i64 p.states[s].cases.length)∧look 67 e=some (.int .i64 i))
   (fun i=>some (Rt.val (.tup [.int .i64 ((fe (qcr p s p.states[s]) p.states[s].cases.length i).getD (stF p s p.states[s])).1,.int .i64 ((fe (qcr p s p.states[s]) p.states[s].cases.length i).getD (stF p s p.states[s])).2]))) ?_ ?_ 0 _ _ (Nat.zero_le _) (Nat.zero_le _) ?_
  ·rintro i e n L hi hL _ ⟨h1,h2,h6,h65,h66,h67⟩ ih;have hw:IntKind.wrap .i64 ((i:Int)+1)=((i+1:Nat):Int):=qac (by omega) (by omega);have hc:=hv _ (List.getElem_mem hi);have hE:=qzk p s hs p.states[s].cases[i] hc.1 hc.2;simp only [Prg.e,SelectCase.e] at hE;rw [Prg.e] at h2;by_cases y:qdn p s p.states[s] p.states[s].cases[i]=0
   ·rw [y] at hE;rw [qap hi (by simp [qcr,hi,y])];simp [c_298_l1,SelectCase.e,h1,h2,h65,h66,h67,hi,hE,hw];exact ih _ _ (Nat.zero_le _) ⟨by simp [h1],by simp [h2,Prg.e],by simp [h6],by simp [h65],by simp [h66],by simp⟩
   ·rw [qai (x:=((i:Int),qdn p s p.states[s] p.states[s].cases[i])) hi (by simp [qcr,hi,y])];simp [c_298_l1,SelectCase.e,h1,h2,h65,h66,h67,hi,hE,y]
  ·rintro e n L hL _ ⟨h1,h2,h6,h65,h66,h67⟩;rw [qa0];have hd:=qm2 p s p.states[s].dflt;simp only [Prg.e] at hd;rw [Prg.e] at h2;rw [ParserState.e] at h6;cases y:qdh p s p.states[s].dflt with
   | true=>rw [y] at hd;simp [c_298_l1,c_298_k2,h1,h2,h6,h66,h67,hL,hd,stF,y]
   | false=>rw [y] at hd;simp [c_298_l1,c_298_k2,h1,h2,h6,h66,h67,hL,hd,stF,y]
  ·simp [h1,h2,h6,Prg.e,ParserState.e,q]
 | false=>
  rw [q] at h6;by_cases z:0<p.states[s].cases.length
  ·simp [c_298_k3,h6,stK,q,z]
  have z0:p.states[s].cases.length=0:=by omega
  rw [show stK p s p.states[s]=stF p s p.states[s] by simp [stK,q,z0,qa0]];simp [c_298_k3,h6,z0];rw [qay];have hd:=qm2 p s p.states[s].dflt;simp only [Prg.e] at hd;cases y:qdh p s p.states[s].dflt with
  | true=>rw [y] at hd;simp [c_298_l1,c_298_k2,h1,h2,h6,hd,stF,y]
  | false=>rw [y] at hd;simp [c_298_l1,c_298_k2,h1,h2,h6,hd,stF,y]
theorem qahw (p:Prg) (f:PrgS p) (s:Nat) (hs:s<p.states.length):qab Φ f_298 [.agg (Prg.c p),.int .i64 s]=some (.val (.tup [.int .i64 (stE p s p.states[s]).1,.int .i64 (stE p s p.states[s]).2])):=by
 rw [qaa (fn:=c_298) rfl rfl,qyz];by_cases z0:4<p.states[s].extract.length
 ·simp [c_298,Prg.e,ParserState.e,hs,z0]
 by_cases z1:8<p.states[s].cases.length
 ·simp [c_298,Prg.e,ParserState.e,hs,z0,z1]
 rw [if_neg (by omega)];generalize hX:(if p.states[s].extract.any (fun h=>decide (h<0) || decide ((p.headers.length:Int)≤h))=true then ((-1:Int),(8:Int)) else stK p s p.states[s])=X;simp [c_298,Prg.e,ParserState.e,hs,z0,z1];refine (qdb p.states[s].extract (fun h=>decide (h<0) || decide ((p.headers.length:Int)≤h)) (some (Rt.val (.tup [.int .i64 (-1),.int .i64 8]))) (some (Rt.val (.tup [.int .i64 (stK p s p.states[s]).1,.int .i64 (stK p s p.states[s]).2])))
  (fun i e H=>look 1 e=some (.int .i64 s)∧look 2 e=some (.iptr 9 [Prg.c p] 0 0)∧look 6 e=some (.iptr 7 [ParserState.c p.states[s]] 0 0)∧look 28 e=some (.slice 1 (p.states[s].extract.map cI))∧look 29 e=some (.int .i64 p.states[s].extract.length)∧look 30 e=some (.int .i64 i)∧∃n,H=⟨[],n⟩) ?_ ?_ ?_ _ _ ?_).trans ?_
 ·rintro i e _ L hi hL ⟨h1,h2,h6,h28,h29,h30,n,rfl⟩ hb;rw [Prg.e] at h2;simp only [Bool.or_eq_true,decide_eq_true_eq] at hb;by_cases y0:p.states[s].extract[i]<0
  ·simp [c_298_l0,cI,h28,h29,h30,hi,y0]
  ·have y1:(p.headers.length:Int)≤p.states[s].extract[i]:=by omega
   simp [c_298_l0,cI,h2,h28,h29,h30,hi,y0,y1]
 ·rintro i e _ L X hi hL ⟨h1,h2,h6,h28,h29,h30,n,rfl⟩ hb ih;have hw:IntKind.wrap .i64 ((i:Int)+1)=((i+1:Nat):Int):=qac (by omega) (by omega);rw [Prg.e] at h2;simp only [Bool.or_eq_false_iff,decide_eq_false_iff_not] at hb;simp [c_298_l0,cI,h2,h28,h29,h30,hi,hb,hw];exact ih _ _ ⟨by simp [h1],by simp [h2,Prg.e],by simp [h6],by simp [h28],by simp [h29],by simp,n,rfl⟩
 ·rintro e _ L hL ⟨h1,h2,h6,h28,h29,h30,n,rfl⟩;simp [c_298_l0,h29,h30,hL];refine qahy p s hs (fun c hc=>f.sv _ (List.getElem_mem hs) c hc) (f.sc _ (List.getElem_mem hs)) _ _ ?_ ?_ ?_
  ·simp [h1]
  ·simp [h2]
  ·simp [h6]
 ·simp [Prg.e,ParserState.e]
 ·rw [← hX];cases p.states[s].extract.any (fun h=>decide (h<0) || decide ((p.headers.length:Int)≤h))<;>rfl
theorem qd6 {α β:Type} [BEq β] [LawfulBEq β] [DecidableEq β] (f:α→β) (a:β):∀l:List α,(l.map f).contains a=l.any fun y=>decide (f y=a)
 | []=>by simp
 | x::l=>by
  have ih:=qd6 f a l;simp only [List.map_cons,List.contains_cons,List.any_cons,ih];congr 1;by_cases h:a=f x
  ·subst h;simp
  ·have h2:¬f x=a:=fun e=>h e.symm
   simp [h,h2]
def parG (p:Prg) (s:Nat):Option (Int×Int×Int):=(p.states[s]?).bind fun x=>if idS x.name=false then some ((s:Int),(-1:Int),(6:Int)) else if dupN ParserState.name p.states s x then some ((s:Int),-1,7)
  else if (stE p s x).2=0 then none else some ((s:Int),(stE p s x).1,(stE p s x).2)
def tup3 (x:Int×Int×Int):Rt:= .val (.tup [.int .i64 x.1,.int .i64 x.2.1,.int .i64 x.2.2])
theorem qadw (p:Prg) (f:PrgS p):qab Φ f_245 [.agg (Prg.c p)]=some (tup3 (parE p)):=by
 rw [qaa (fn:=c_245) rfl rfl];by_cases z0:p.states.length=0
 ·simp [c_245,Prg.e,z0,parE,tup3]
 by_cases z1:12<p.states.length
 ·simp [c_245,Prg.e,z0,z1,parE,tup3]
 have hE:parE p=(fe (parG p) p.states.length 0).getD (0,0,0):=by unfold parE;rw [if_neg z0,if_neg z1];rfl
 rw [hE];simp [c_245,Prg.e,z0,z1];refine qaw p.states.length (fun i=>[(0,.map (setS ((p.states.map (·.name)).take i)))]) 1 (fun i e=>look 1 e=some (.iptr 9 [Prg.c p] 0 0)∧look 5 e=some (.map 0)∧look 22 e=some (.slice 7 (p.states.map ParserState.c))∧look 23 e=some (.int .i64 p.states.length)∧look 24 e=some (.int .i64 i))
  (fun i=>some (tup3 ((fe (parG p) p.states.length i).getD (0,0,0)))) ?_ ?_ 0 _ 1 (Nat.zero_le _) (Nat.le_refl _) ?_
 ·rintro i e n L hi hL hn ⟨h1,h5,h22,h23,h24⟩ ih;have hw:IntKind.wrap .i64 ((i:Int)+1)=((i+1:Nat):Int):=qac (by omega) (by omega);have hn0:¬(0=n):=by omega
  have hn1:¬(n=0):=by omega
  have nf:=qdv p.states[i].name (f.sn _ (List.getElem_mem hi));have hs:=qahw p f i hi;simp only [Prg.e] at hs;rw [Prg.e] at h1;cases q1:idS p.states[i].name with
  | false=>
   rw [q1] at nf;rw [qai (x:=((i:Int),-1,6)) hi (by simp [parG,hi,q1])];simp [c_245_l0,ParserState.e,h22,h23,h24,hi,hn0,nf,tup3]
  | true=>
  rw [q1] at nf;have hd:((p.states.map (·.name)).take i).contains p.states[i].name=dupN ParserState.name p.states i p.states[i]:=by
   rw [← List.map_take,qd6];rfl
  have hfnd:=qqj p.states[i].name ((p.states.map (·.name)).take i);rw [hd] at hfnd;cases q2:dupN ParserState.name p.states i p.states[i] with
  | true=>
   rw [q2] at hfnd;rw [qai (x:=((i:Int),-1,7)) hi (by simp [parG,hi,q1,q2])];simp [c_245_l0,ParserState.e,h5,h22,h23,h24,hi,hn0,nf,hfnd,tup3]
  | false=>
   rw [q2] at hfnd hd;have hput:=qs2 p.states[i].name ((p.states.map (·.name)).take i) hd;rw [show (p.states.map (·.name)).take i++[p.states[i].name]=(p.states.map (·.name)).take (i+1) from (qa1 hi).symm] at hput;by_cases y:(stE p i p.states[i]).2=0
   ·rw [y] at hs;rw [qap hi (by simp [parG,hi,q1,q2,y])];simp [c_245_l0,ParserState.e,h1,h5,h22,h23,h24,hi,hn0,nf,hfnd,hput,hs,hw];exact ih _ _ (by omega) ⟨by simp [h1,Prg.e],by simp [h5],by simp [h22],by simp [h23],by simp⟩
   ·rw [qai (x:=((i:Int),(stE p i p.states[i]).1,(stE p i p.states[i]).2)) hi (by simp [parG,hi,q1,q2,y])];simp [c_245_l0,ParserState.e,h1,h5,h22,h23,h24,hi,hn0,nf,hfnd,hput,hs,y,tup3]
 ·rintro e n L hL hn ⟨h1,h5,h22,h23,h24⟩;rw [qa0];simp [c_245_l0,c_245_k1,h23,h24,hL,tup3]
 ·simp [Prg.e]
theorem qxv (l:List Int) (x:Int) (hl:l.length<2^40):qab Φ f_337 [.slice 1 (l.map cI),.int .i64 x]=some (.val (.int .i64 (ix (fun s=>decide (x=s)) l 0))):=by
 rw [qaa (fn:=c_337) rfl rfl];simp [c_337];refine (qao l.length (fun i e=>look 0 e=some (.slice 1 (l.map cI))∧look 1 e=some (.int .i64 x)∧look 7 e=some (.int .i64 l.length)∧look 8 e=some (.int .i64 i))
  (fun i=>some (.val (.int .i64 (ix (fun s=>decide (x=s)) l i)))) ?_ ?_ 0 _ (Nat.zero_le _) ?_).trans (by simp)
 ·rintro i e L hi hL ⟨h0,h1,h7,h8⟩ ih;have hw:IntKind.wrap .i64 ((i:Int)+1)=((i+1:Nat):Int):=qac (by omega) (by omega);by_cases z:x=l[i]
  ·rw [qgb hi (by simpa using z)];simp [c_337_l0,cI,h0,h1,h7,h8,hi,← z]
  ·rw [qe7 hi (by simpa using z)];simp [c_337_l0,cI,h0,h1,h7,h8,hi,z,hw];exact ih _ ⟨by simp [h0],by simp [h1],by simp [h7],by simp⟩
 ·rintro e L hL ⟨h0,h1,h7,h8⟩;rw [qga];simp [c_337_l0,c_337_k1,h7,h8,hL]
 ·simp
theorem qrq (l:List Int) (x:Int) (hl:l.length<2^40):qab Φ f_305 [.slice 1 (l.map cI),.int .i64 x]=some (.val (.bool (l.contains x))):=by
 rw [qaa (fn:=c_305) rfl rfl];have h:=qxv l x hl;have e:=qid (p:=fun s=>decide (x=s)) (l:=l);have e2:l.contains x=l.any fun s=>decide (x=s):=by
  have:=qd6 (fun y:Int=>y) x l;rw [List.map_id'] at this;rw [this];congr 1;funext y;simp [eq_comm]
 simp [c_305,h];have e3:=e.trans e2.symm;simpa using e3
def depG (p:Prg) (i:Nat):Option (Int×Int):=(p.deparser[i]?).bind fun h=>if h<0∨(p.headers.length:Int)≤h then some ((i:Int),(8:Int)) else if (p.deparser.take i).contains h then some ((i:Int),7) else none
theorem qact (p:Prg) (f:PrgS p):qab Φ f_247 [.agg (Prg.c p)]=some (.val (.tup [.int .i64 (depE p).1,.int .i64 (depE p).2])):=by
 rw [qaa (fn:=c_247) rfl rfl];by_cases z1:8<p.deparser.length
 ·simp [c_247,Prg.e,z1,depE]
 have hE:depE p=(fe (depG p) p.deparser.length 0).getD (0,0):=by unfold depE;rw [if_neg z1];rfl
 rw [hE];simp [c_247,Prg.e,z1];refine qao p.deparser.length (fun i e=>look 1 e=some (.iptr 9 [Prg.c p] 0 0)∧look 11 e=some (.slice 1 (p.deparser.map cI))∧look 12 e=some (.int .i64 p.deparser.length)∧look 13 e=some (.int .i64 i))
  (fun i=>some (Rt.val (.tup [.int .i64 ((fe (depG p) p.deparser.length i).getD (0,0)).1,.int .i64 ((fe (depG p) p.deparser.length i).getD (0,0)).2]))) ?_ ?_ 0 _ (Nat.zero_le _) ?_
 ·rintro i e L hi hL ⟨h1,h11,h12,h13⟩ ih;have hw:IntKind.wrap .i64 ((i:Int)+1)=((i+1:Nat):Int):=qac (by omega) (by omega);have hi':i≤p.deparser.length:=by omega
  rw [Prg.e] at h1;by_cases y0:p.deparser[i]<0
  ·rw [qai (x:=((i:Int),8)) hi (by simp [depG,hi,y0])];simp [c_247_l0,cI,h11,h12,h13,hi,y0]
  by_cases y1:(p.headers.length:Int)≤p.deparser[i]
  ·rw [qai (x:=((i:Int),8)) hi (by simp [depG,hi,y0,y1])];simp [c_247_l0,cI,h1,h11,h12,h13,hi,y0,y1]
  have hc:=qrq (p.deparser.take i) p.deparser[i] (by simp;omega);rw [List.map_take] at hc;cases q:(p.deparser.take i).contains p.deparser[i] with
  | true=>
   rw [q] at hc;rw [qai (x:=((i:Int),7)) hi (by simp only [depG,List.getElem?_eq_getElem hi,Option.bind_some];rw [if_neg (by omega),q];rfl)];simp [c_247_l0,cI,h1,h11,h12,h13,hi,hi',y0,y1,hc]
  | false=>
   rw [q] at hc;rw [qap hi (by simp only [depG,List.getElem?_eq_getElem hi,Option.bind_some];rw [if_neg (by omega),q];rfl)];simp [c_247_l0,cI,h1,h11,h12,h13,hi,hi',y0,y1,hc,hw];exact ih _ ⟨by simp [h1,Prg.e],by simp [h11],by simp [h12],by simp⟩
 ·rintro e L hL ⟨h1,h11,h12,h13⟩;rw [qa0];simp [c_247_l0,c_247_k1,h12,h13,hL]
 ·simp [Prg.e]
@[simp] theorem ControlNode.kind_mk (k t:Int) (c:List ExprNode) (a b:List ControlNode):(ControlNode.mk k t c a b).kind=k:=by simp [ControlNode.kind]
@[simp] theorem ControlNode.table_mk (k t:Int) (c:List ExprNode) (a b:List ControlNode):(ControlNode.mk k t c a b).table=t:=by simp [ControlNode.table]
@[simp] theorem ControlNode.cond_mk (k t:Int) (c:List ExprNode) (a b:List ControlNode):(ControlNode.mk k t c a b).cond=c:=by simp [ControlNode.cond]
@[simp] theorem ControlNode.thn_mk (k t:Int) (c:List ExprNode) (a b:List ControlNode):(ControlNode.mk k t c a b).thn=a:=by simp [ControlNode.thn]
@[simp] theorem ControlNode.els_mk (k t:Int) (c:List ExprNode) (a b:List ControlNode):(ControlNode.mk k t c a b).els=b:=by simp [ControlNode.els]
theorem qu1 (k t:Int) (c:List ExprNode) (a b:List ControlNode):qab Φ f_304 [.agg (ControlNode.c (.mk k t c a b))]=some (.val (.bool (appl (.mk k t c a b)))):=by
 rw [qaa (fn:=c_304) rfl rfl];by_cases k1:k=1
 ·simp [c_304,ControlNode.e,appl,k1]
 ·simp [c_304,ControlNode.e,appl,k1]
def qcs (p:Prg) (us:List Int) (x:ControlNode):Int:=
 if x.kind=2 then (if (exE p [] x.cond).2=0 then (if (exE p [] x.cond).1=1 then 0 else 10) else (exE p [] x.cond).2)
 else if x.kind=1∨x.kind=3 then (if x.table<0∨(p.tables.length:Int)≤x.table then 8
  else if us.contains x.table then 7
  else if x.kind=1∧0<x.thn.length+x.els.length then 5 else 0)
 else 11
def ql7 (us:List Int) (x:ControlNode):Int:=if us.contains x.table then 7 else if x.kind=1∧0<x.thn.length+x.els.length then 5 else 0
theorem qz8 {p:Prg} (k t:Int) (c:List ExprNode) (a b:List ControlNode) (us:List Int) (ha:a.length<2^40) (hb:b.length<2^40) (hu:us.length<2^40) (e:Env)
  (h4:look 4 e=some (.iptr 5 [ControlNode.c (.mk k t c a b)] 0 0)) (h27:look 27 e=some (.slice 1 (us.map cI))) (h28:look 28 e=some (.int .i64 us.length)) (h29:look 29 e=some (.int .i64 0)):
  go Φ (finP [.tmp 6]) [.c (.loop c_303_l0),.b 1,.c c_303_k1,.b 0,.c c_303_k2] .normal ⟨e,⟨[],0⟩⟩=some (.val (.int .i64 (ql7 us (.mk k t c a b)))):=by
 have hc:=qd6 (fun y:Int=>y) t us;rw [List.map_id'] at hc;refine (qdb us (fun y=>decide (y=t)) (some (Rt.val (.int .i64 7))) (some (Rt.val (.int .i64 (if k=1∧0<a.length+b.length then 5 else 0))))
  (fun i e H=>look 4 e=some (.iptr 5 [ControlNode.c (.mk k t c a b)] 0 0)∧look 27 e=some (.slice 1 (us.map cI))∧look 28 e=some (.int .i64 us.length)∧look 29 e=some (.int .i64 i)∧H=⟨[],0⟩) ?_ ?_ ?_ _ _ ⟨h4,h27,h28,h29,rfl⟩).trans ?_
 ·rintro i e _ L hi hL ⟨h4,h27,h28,h29,rfl⟩ hb;simp only [decide_eq_true_eq] at hb;rw [ControlNode.e] at h4;simp [c_303_l0,cI,h4,h27,h28,h29,hi,hb]
 ·rintro i e _ L X hi hL ⟨h4,h27,h28,h29,rfl⟩ hb ih;have hw:IntKind.wrap .i64 ((i:Int)+1)=((i+1:Nat):Int):=qac (by omega) (by omega);simp only [decide_eq_false_iff_not] at hb;rw [ControlNode.e] at h4;simp [c_303_l0,cI,h4,h27,h28,h29,hi,hb,hw];exact ih _ _ ⟨by simp [h4,ControlNode.e],by simp [h27],by simp [h28],by simp,rfl⟩
 ·rintro e _ L hL ⟨h4,h27,h28,h29,rfl⟩;rw [ControlNode.e] at h4;have hw:IntKind.wrap .i64 ((a.length:Int)+b.length)=(a.length:Int)+b.length:=qac (by omega) (by omega);by_cases k1:k=1
  ·by_cases z:0<a.length+b.length
   ·have z':(0:Int)<(a.length:Int)+b.length:=by omega
    simp [c_303_l0,c_303_k1,c_303_k2,h4,h28,h29,hL,hw,k1,z,z']
   ·have z':¬(0:Int)<(a.length:Int)+b.length:=by omega
    have za:a.length=0:=by omega
    have zb:b.length=0:=by omega
    simp [c_303_l0,c_303_k1,c_303_k2,h4,h28,h29,hL,k1,za,zb];rw [show IntKind.wrap .i64 0=0 by decide];simp [List.eq_nil_of_length_eq_zero za,List.eq_nil_of_length_eq_zero zb]
  ·simp [c_303_l0,c_303_k1,c_303_k2,h4,h28,h29,hL,k1]
 ·unfold ql7;simp only [ControlNode.table_mk,ControlNode.kind_mk,ControlNode.thn_mk,ControlNode.els_mk,hc];cases us.any (fun y=>decide (y=t))<;>rfl
theorem qz7 (p:Prg) (k t:Int) (c:List ExprNode) (a b:List ControlNode) (us:List Int) (ha:a.length<2^40) (hb:b.length<2^40) (hu:us.length<2^40):
  qab Φ f_303 [.agg (Prg.c p),.agg (ControlNode.c (.mk k t c a b)),.slice 1 (us.map cI)]=some (.val (.int .i64 (qcs p us (.mk k t c a b)))):=by
 rw [qaa (fn:=c_303) rfl rfl];have hV:=qz8 (p:=p) k t c a b us ha hb hu;simp only [ControlNode.e] at hV;by_cases k1:k=1
 ·by_cases t0:t<0
  ·simp [c_303,c_303_k2,ControlNode.e,Prg.e,qcs,k1,t0]
  by_cases t1:(p.tables.length:Int)≤t
  ·simp [c_303,c_303_k2,ControlNode.e,Prg.e,qcs,k1,t0,t1]
  have e:qcs p us (.mk k t c a b)=ql7 us (.mk k t c a b):=by simp [qcs,ql7,k1,t0,t1]
  rw [e];simp [c_303,ControlNode.e,Prg.e,k1,t0,t1];rw [hV]
  all_goals simp [k1]
 by_cases k3:k=3
 ·by_cases t0:t<0
  ·simp [c_303,c_303_k2,ControlNode.e,Prg.e,qcs,k3,t0]
  by_cases t1:(p.tables.length:Int)≤t
  ·simp [c_303,c_303_k2,ControlNode.e,Prg.e,qcs,k3,t0,t1]
  have e:qcs p us (.mk k t c a b)=ql7 us (.mk k t c a b):=by simp [qcs,ql7,k3,t0,t1]
  rw [e];simp [c_303,ControlNode.e,Prg.e,k3,t0,t1];rw [hV]
  all_goals simp [k3]
 by_cases k2:k=2
 ·have hx:=qry p [] c;simp only [qag,List.map_nil] at hx;by_cases z:(exE p [] c).2=0
  ·rw [z] at hx;by_cases y:(exE p [] c).1=1
   ·rw [y] at hx;simp [c_303,c_303_k2,ControlNode.e,Prg.e,qcs,k2,hx,z,y]
   ·simp [c_303,c_303_k2,ControlNode.e,Prg.e,qcs,k2,hx,z,y]
  ·simp [c_303,c_303_k2,ControlNode.e,Prg.e,qcs,k2,hx,z]
 ·simp [c_303,c_303_k2,ControlNode.e,Prg.e,qcs,k1,k2,k3]
end Go.Av
