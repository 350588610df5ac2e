/-
 Registers, actions, tables, the flow: the program's answers.
-/
import Derived.Test.YtakklbipljodeaaGreatK16
set_option linter.unusedVariables false
set_option linter.unusedSimpArgs false
set_option linter.constructorNameAsVariable false
namespace Go.Av
set_option maxRecDepth 4000
def regG (p:Prg) (i:Nat):Option Dg:=(p.registers[i]?).bind fun r=>if qgd p i r=0 then none else some (qgd p i r,3,(i:Int),0)
def acG (p:Prg) (i:Nat):Option Dg:=(p.actions[i]?).bind fun a=>if (actE p i).2≠0 then some ((actE p i).2,(4:Int),(i:Int),(actE p i).1) else if dupN Action.name p.actions i a then some (7,4,(i:Int),0) else none
def tbG (p:Prg) (i:Nat):Option Dg:=(p.tables[i]?).bind fun a=>if (tblE p i).2≠0 then some ((tblE p i).2,(5:Int),(i:Int),(tblE p i).1) else if dupN Tbl.name p.tables i a then some (7,5,(i:Int),0) else none
theorem qadq (p:Prg) (f:PrgS p) (e:Env) (n:Nat) (h1:look 1 e=some (.iptr 9 [Prg.c p] 0 0)):go Φ (finP []) [.c c_148_k3] .normal ⟨e,⟨[],n⟩⟩=some (rtD (tblD p)):=by
 rw [show tblD p=fe (tbG p) p.tables.length 0 from rfl];have e1:=qtx p.tables f.t;rw [Prg.e] at h1;simp [c_148_k3,h1,e1];refine qaw p.tables.length (fun _=>[]) 0 (fun i e=>look 1 e=some (.iptr 9 [Prg.c p] 0 0)∧look 2 e=some (.slice 1 (p.tables.map fun x=>[.str x.name]))∧look 64 e=some (.int .i64 p.tables.length)∧look 65 e=some (.int .i64 i))
  (fun i=>some (rtD (fe (tbG p) p.tables.length i))) ?_ ?_ 0 _ _ (Nat.zero_le _) (Nat.zero_le _) ?_
 ·rintro i e n L hi hL _ ⟨h1,h2,h64,h65⟩ ih;have hlen:=f.t;have hw:IntKind.wrap .i64 ((i:Int)+1)=((i+1:Nat):Int):=qac (by omega) (by omega);have et:=qpn p f i;have er:=qfg Tbl.name p.tables i hi f.t;simp only [Prg.e] at et;rw [Prg.e] at h1;by_cases y:(tblE p i).2=0
  rotate_left
  ·rw [qai (x:=((tblE p i).2,5,(i:Int),(tblE p i).1)) hi (by simp [tbG,hi,y])];simp [c_148_l2,h1,h64,h65,hi,et,qav,y,rtD]
  rw [y] at et;cases q:dupN Tbl.name p.tables i p.tables[i] with
  | true=>
   rw [q] at er;rw [qai (x:=(7,5,(i:Int),0)) hi (by simp [tbG,hi,y,q])];simp [c_148_l2,h1,h2,h64,h65,hi,et,er,qa8,qav,qaz,rtD]
  | false=>
   rw [q] at er;rw [qap hi (by simp [tbG,hi,y,q])];simp [c_148_l2,h1,h2,h64,h65,hi,et,er,qa8,qaz,hw];exact ih _ _ (Nat.zero_le _) ⟨by simp [h1,Prg.e],by simp [h2],by simp [h64],by simp⟩
 ·rintro e n L hL _ ⟨h1,h2,h64,h65⟩;rw [qa0];simp [c_148_l2,h64,h65,hL,rtD]
 ·simp [h1,Prg.e]
theorem qadp (p:Prg) (f:PrgS p) (e:Env) (n:Nat) (h1:look 1 e=some (.iptr 9 [Prg.c p] 0 0)):go Φ (finP []) [.c c_148_k4] .normal ⟨e,⟨[],n⟩⟩=some (rtD ((qdp p).or (tblD p))):=by
 rw [show qdp p=fe (acG p) p.actions.length 0 from rfl];have e1:=qo6 p.actions f.a;rw [Prg.e] at h1;simp [c_148_k4,h1,e1];refine qaw p.actions.length (fun _=>[]) 0 (fun i e=>look 1 e=some (.iptr 9 [Prg.c p] 0 0)∧look 2 e=some (.slice 1 (p.actions.map fun x=>[.str x.name]))∧look 38 e=some (.int .i64 p.actions.length)∧look 39 e=some (.int .i64 i))
  (fun i=>some (rtD ((fe (acG p) p.actions.length i).or (tblD p)))) ?_ ?_ 0 _ _ (Nat.zero_le _) (Nat.zero_le _) ?_
 ·rintro i e n L hi hL _ ⟨h1,h2,h38,h39⟩ ih;have hlen:=f.a;have hw:IntKind.wrap .i64 ((i:Int)+1)=((i+1:Nat):Int):=qac (by omega) (by omega);have et:=qab4 p f i;have er:=qfg Action.name p.actions i hi f.a;simp only [Prg.e] at et;rw [Prg.e] at h1;by_cases y:(actE p i).2=0
  rotate_left
  ·rw [qai (x:=((actE p i).2,4,(i:Int),(actE p i).1)) hi (by simp [acG,hi,y])];simp [c_148_l1,h1,h38,h39,hi,et,qav,y,rtD]
  rw [y] at et;cases q:dupN Action.name p.actions i p.actions[i] with
  | true=>
   rw [q] at er;rw [qai (x:=(7,4,(i:Int),0)) hi (by simp [acG,hi,y,q])];simp [c_148_l1,h1,h2,h38,h39,hi,et,er,qa8,qav,qaz,rtD]
  | false=>
   rw [q] at er;rw [qap hi (by simp [acG,hi,y,q])];simp [c_148_l1,h1,h2,h38,h39,hi,et,er,qa8,qaz,hw];exact ih _ _ (Nat.zero_le _) ⟨by simp [h1,Prg.e],by simp [h2],by simp [h38],by simp⟩
 ·rintro e n L hL _ ⟨h1,h2,h38,h39⟩;rw [qa0];simp [c_148_l1,h38,h39,hL];exact qadq p f _ _ (by simp [h1])
 ·simp [h1,Prg.e]
theorem qagn (p:Prg) (f:PrgS p):qab Φ f_148 [.agg (Prg.c p)]=some (rtD ((regD p).or ((qdp p).or (tblD p)))):=by
 rw [qaa (fn:=c_148) rfl rfl,show regD p=fe (regG p) p.registers.length 0 from rfl];have e1:=qm5 p.registers f.r;generalize hX:(qdp p).or (tblD p)=X;simp [c_148,Prg.e,e1];refine qaw p.registers.length (fun _=>[]) 0 (fun i e=>look 1 e=some (.iptr 9 [Prg.c p] 0 0)∧look 2 e=some (.slice 1 (p.registers.map fun x=>[.str x.name]))∧look 15 e=some (.slice 3 (p.registers.map Register.c))∧look 16 e=some (.int .i64 p.registers.length)∧look 17 e=some (.int .i64 i))
  (fun i=>some (rtD ((fe (regG p) p.registers.length i).or X))) ?_ ?_ 0 _ _ (Nat.zero_le _) (Nat.zero_le _) ?_
 ·rintro i e n L hi hL _ ⟨h1,h2,h15,h16,h17⟩ ih;have hlen:=f.r;have hw:IntKind.wrap .i64 ((i:Int)+1)=((i+1:Nat):Int):=qac (by omega) (by omega);have et:=qaei p.registers[i] (f.rn _ (List.getElem_mem hi));have er:=qfg Register.name p.registers i hi f.r;simp only [Register.e] at et;by_cases y:regE p.registers[i]=0
  rotate_left
  ·rw [qai (x:=(regE p.registers[i],3,(i:Int),0)) hi (by simp [regG,hi,qgd,y])];simp [c_148_l0,Register.e,h15,h16,h17,hi,et,qav,y,rtD]
  rw [y] at et;cases q:dupN Register.name p.registers i p.registers[i] with
  | true=>
   rw [q] at er;rw [qai (x:=(7,3,(i:Int),0)) hi (by simp [regG,hi,qgd,y,q])];simp [c_148_l0,Register.e,h2,h15,h16,h17,hi,et,er,qa8,qav,qaz,rtD]
  | false=>
   rw [q] at er;rw [qap hi (by simp [regG,hi,qgd,y,q])];simp [c_148_l0,Register.e,h2,h15,h16,h17,hi,et,er,qa8,qaz,hw];exact ih _ _ (Nat.zero_le _) ⟨by simp [h1],by simp [h2],by simp [h15],by simp [h16],by simp⟩
 ·rintro e n L hL _ ⟨h1,h2,h15,h16,h17⟩;rw [qa0];simp [c_148_l0,h16,h17,hL];rw [← hX];exact qadp p f _ _ (by simp [h1])
 ·simp [Prg.e]
theorem qagf (p:Prg) (f:PrgS p) (hc:(pre p.control).length<2^40 - 1):qab Φ f_149 [.agg (Prg.c p)]=some (rtD (floD p)):=by
 rw [qaa (fn:=c_149) rfl rfl];have e1:=qadw p f;have e2:=qacq p hc;have e3:=qact p f;simp only [Prg.e,tup3] at e1 e2 e3;by_cases y1:(parE p).2.2=0
 rotate_left
 ·simp [c_149,Prg.e,e1,y1,qav,floD,rtD]
 rw [y1] at e1;by_cases y2:(ctlE p).2=0
 rotate_left
 ·simp [c_149,Prg.e,e1,y1,e2,y2,qav,qaz,floD,rtD]
 rw [y2] at e2;by_cases y3:(depE p).2=0
 rotate_left
 ·simp [c_149,Prg.e,e1,y1,e2,y2,e3,y3,qav,qaz,floD,rtD]
 rw [y3] at e3;simp [c_149,Prg.e,e1,y1,e2,y2,e3,y3,qaz,floD,rtD]
theorem qc9 {Φ:FuncId→Option AFun} (c:ACode) (s:St):qbc Φ c s=go Φ (fun o=>o) [.c c] .normal s:=by
 rw [go_c];cases qbc Φ c s with
 | none=>rfl
 | some p=>rfl
def dgC (d:Dg):List AV:=[.int .i64 d.1,.int .i64 d.2.1,.int .i64 d.2.2.1,.int .i64 d.2.2.2]
def chkE (p:Prg):Env:=[(3,.func (.func f_144) [] [.ptr 1 4 0 0]),(2,.ptr 1 4 0 0),(1,.ptr 0 9 0 0),(0,.agg (Prg.c p))]
def qde (p:Prg) (d:List AV):AH:=⟨[(0,.row 9 [Prg.c p]),(1,.row 4 [d])],2⟩
theorem qw5 (p:Prg) (f:PrgS p) (hc:(pre p.control).length<2^40 - 1):∃e',look 2 e'=some (.ptr 1 4 0 0)∧go Φ (fun o=>o) [.c (match c_63.code with | .seq _ (.dfr _ _ b)=>b | _=> .skip)] .normal ⟨chkE p,qde p [.int .i64 0,.int .i64 0,.int .i64 0,.int .i64 0]⟩=
  match (limD p).or ((hdrD p).or ((metD p).or (((regD p).or ((qdp p).or (tblD p))).or (floD p)))) with
  | none=>some (.ret,⟨e',qde p [.int .i64 0,.int .i64 0,.int .i64 0,.int .i64 0]⟩)
  | some d=>some (.pan (qfm d.1 d.2.1 d.2.2.1 d.2.2.2),⟨e',qde p [.int .i64 0,.int .i64 0,.int .i64 0,.int .i64 0]⟩):=by
 have h1:=qx1 p f;have h2:=qno p f;have h3:=qadk p f;have h4:=qagn p f;have h5:=qagf p f hc;simp only [Prg.e] at h1 h2 h3 h4 h5;cases q1:limD p with
 | some d=>rw [q1] at h1;simp [c_63,chkE,qde,Prg.e,h1,rtD]
 | none=>
 cases q2:hdrD p with
 | some d=>rw [q1] at h1;rw [q2] at h2;simp [c_63,chkE,qde,Prg.e,h1,h2,rtD]
 | none=>
 cases q3:metD p with
 | some d=>rw [q1] at h1;rw [q2] at h2;rw [q3] at h3;simp [c_63,chkE,qde,Prg.e,h1,h2,h3,rtD]
 | none=>
 cases q4:(regD p).or ((qdp p).or (tblD p)) with
 | some d=>rw [q1] at h1;rw [q2] at h2;rw [q3] at h3;rw [q4] at h4;simp [c_63,chkE,qde,Prg.e,h1,h2,h3,h4,rtD]
 | none=>
 cases q5:floD p with
 | some d=>rw [q1] at h1;rw [q2] at h2;rw [q3] at h3;rw [q4] at h4;rw [q5] at h5;simp [c_63,chkE,qde,Prg.e,h1,h2,h3,h4,h5,rtD]
 | none=>rw [q1] at h1;rw [q2] at h2;rw [q3] at h3;rw [q4] at h4;rw [q5] at h5;simp [c_63,chkE,qde,Prg.e,h1,h2,h3,h4,h5,rtD]
def kA:ACode:=match c_63.code with | .seq a _=>a | _=> .skip
def kB:ACode:=match c_63.code with | .seq _ (.dfr _ _ b)=>b | _=> .skip
theorem qady (p:Prg):prgD p=((limD p).or ((hdrD p).or ((metD p).or (((regD p).or ((qdp p).or (tblD p))).or (floD p))))).getD (0,0,0,0):=by
 unfold prgD;cases limD p<;>cases hdrD p<;>cases metD p<;>cases regD p<;>cases qdp p<;>cases tblD p<;>rfl
theorem qacj (p:Prg) (d:List AV) (hd:d.length=4):cloI Φ c_63 .niliface [.ptr 1 4 0 0] (qde p d)=some (qde p d):=by
 unfold cloI;rw [qc9];simp [c_63,recE]
theorem qack (p:Prg) (d:Dg):∃h,cloI Φ c_63 (qfm d.1 d.2.1 d.2.2.1 d.2.2.2) [.ptr 1 4 0 0] (qde p [.int .i64 0,.int .i64 0,.int .i64 0,.int .i64 0])=some h∧look 1 h.objs=some (.row 4 [dgC d]):=by
 unfold cloI;rw [qc9];simp [c_63,recE,qfm,tF,qde,dgC]
theorem qsj (p:Prg) (f:PrgS p) (hc:(pre p.control).length<2^40 - 1):qab Φ f_63 [.agg (Prg.c p)]=some (.val (.agg (dgC (prgD p)))):=by
 unfold qab;rw [qpq Φ (d:=c_63) rfl rfl,show c_63.code= .seq kA (.dfr [⟨some 3,none,.mkfunc (.func f_144) [] [.t 2]⟩] 3 kB) from rfl];have a1:qbc Φ kA ⟨qbw 0 [.agg (Prg.c p)],H0⟩=some (.normal,⟨[(2,.ptr 1 4 0 0),(1,.ptr 0 9 0 0),(0,.agg (Prg.c p))],qde p [.int .i64 0,.int .i64 0,.int .i64 0,.int .i64 0]⟩):=by
  rw [qc9];simp [kA,c_63,qde]
 obtain ⟨e',he',hb⟩:=qw5 p f hc;have hb2:qbc Φ kB ⟨chkE p,qde p [.int .i64 0,.int .i64 0,.int .i64 0,.int .i64 0]⟩=_:=(qc9 _ _).trans hb;have a2:qas (qak Φ) none [⟨some 3,none,.mkfunc (.func f_144) [] [.t 2]⟩] ⟨[(2,.ptr 1 4 0 0),(1,.ptr 0 9 0 0),(0,.agg (Prg.c p))],qde p [.int .i64 0,.int .i64 0,.int .i64 0,.int .i64 0]⟩=
   some (.normal,⟨chkE p,qde p [.int .i64 0,.int .i64 0,.int .i64 0,.int .i64 0]⟩):=by
  simp [qas,qbg,chkE]
 simp only [qdr,a1,a2];have a3:(look 3 (chkE p)).bind tgt=some (f_144,[.ptr 1 4 0 0]):=by simp [chkE]
 rw [a3];simp only [show c_63.clo=f_144 from rfl,show c_63.ncaps=1 from rfl,List.length_singleton,and_self,if_true];rw [hb2,qady];cases (limD p).or ((hdrD p).or ((metD p).or (((regD p).or ((qdp p).or (tblD p))).or (floD p)))) with
 | none=>
  simp only [qil];rw [qacj p _ rfl];simp [qen,c_63,he',qde,dgC]
 | some d=>
  obtain ⟨h,k1,k2⟩:=qack p d;simp only [qil];rw [k1];obtain ⟨O,n⟩:=h;simp only [dgC] at k2;simp [qen,c_63,show Option.isSome (some ((4:Nat),(1:Nat)))=true from rfl,he',k2,dgC]
theorem qpe (c:Int):qab Φ f_267 [.int .u8 c]=some (.val (.bool (letC c))):=by
 rw [qaa (fn:=c_267) rfl rfl];by_cases h1:97≤c<;>by_cases h2:c≤122<;>by_cases h3:65≤c<;>simp [c_267,letC,h1,h2,h3]
theorem quu (c:Int):qab Φ f_268 [.int .u8 c]=some (.val (.bool (digI c))):=by
 rw [qaa (fn:=c_268) rfl rfl];by_cases h1:48≤c<;>simp [c_268,digI,h1]
theorem qdy (s:List UInt8) (hs:s.length<2^40):qab Φ f_194 [.str s]=some (.val (.bool (idS s))):=by
 rw [qaa (fn:=c_194) rfl rfl];by_cases h0:s.length=0
 ·have:s=[]:=List.eq_nil_of_length_eq_zero h0;subst this;simp [c_194,idS]
 have hp:0<s.length:=by omega
 have hne:¬s=[]:=by intro h;subst h;simp at h0
 rw [quj hp];by_cases h16:16<s.length
 ·simp [c_194,hne,h16,Nat.not_le.2 h16]
 have hl:=qpe (s[0].toNat:Int);cases q:letC (s[0].toNat:Int) with
 | false=>
  rw [q] at hl;simp [c_194,hne,hp,h16,hl]
 | true=>
  rw [q] at hl;generalize hX:(decide (s.length≤16)&&(true&&s.all fun b=>idC b.toNat))=X;simp [c_194,hne,hp,h16,hl];refine (qdb s (fun b=> !idC b.toNat) (some (Rt.val (.bool false))) (some (Rt.val (.bool true)))
   (fun i e H=>look 0 e=some (.str s)∧look 3 e=some (.int .i64 i)∧H=⟨[],0⟩) ?_ ?_ ?_ _ _ ?_).trans ?_
  ·rintro i e _ L hi hL ⟨h0,h3,rfl⟩ hb;have g1:=qpe (s[i].toNat:Int);have g2:=quu (s[i].toNat:Int);cases z1:letC (s[i].toNat:Int) with
   | true=>simp [idC,z1] at hb
   | false=>
    cases z2:digI (s[i].toNat:Int) with
    | true=>simp [idC,z1,z2] at hb
    | false=>
     rw [z1] at g1;rw [z2] at g2;simp only [idC,z1,z2,Bool.false_or,Bool.not_eq_true',decide_eq_false_iff_not] at hb;simp [c_194_l0,h0,h3,hi,g1,g2,hb]
  ·rintro i e _ L X hi hL ⟨h0,h3,rfl⟩ hb ih;have hw:IntKind.wrap .i64 ((i:Int)+1)=((i+1:Nat):Int):=qac (by omega) (by omega);have g1:=qpe (s[i].toNat:Int);have g2:=quu (s[i].toNat:Int);cases z1:letC (s[i].toNat:Int) with
   | true=>
    rw [z1] at g1;simp [c_194_l0,h0,h3,hi,g1,hw];exact ih _ _ ⟨by simp [h0],by simp,rfl⟩
   | false=>
    rw [z1] at g1;cases z2:digI (s[i].toNat:Int) with
    | true=>
     rw [z2] at g2;simp [c_194_l0,h0,h3,hi,g1,g2,hw];exact ih _ _ ⟨by simp [h0],by simp,rfl⟩
    | false=>
     rw [z2] at g2;simp only [idC,z1,z2,Bool.false_or,Bool.not_eq_false',decide_eq_true_eq] at hb;rw [hb] at g1 g2;simp [c_194_l0,h0,h3,hi,g1,g2,hb,hw];exact ih _ _ ⟨by simp [h0],by simp,rfl⟩
  ·rintro e _ L hL ⟨h0,h3,rfl⟩;simp [c_194_l0,c_194_k1,h0,h3,hL]
  ·simp
  ·rw [← hX];have:(s.any fun b=> !idC b.toNat)= !(s.all fun b=>idC b.toNat):=by
    rw [List.not_all_eq_any_not]
   rw [this];have h16':decide (s.length≤16)=true:=by simpa using h16
   rw [h16'];cases s.all fun b=>idC b.toNat<;>rfl
theorem qme {n:Int} (h1:0≤n) (h2:n<18446744073709551616):IntKind.wrap .u64 n=n:=by
 have e1:(2:Int)^64=18446744073709551616:=rfl;simp only [IntKind.wrap,IntKind.bits,IntKind.signed,Bool.false_and,e1];rw [if_neg (by simp)];omega
theorem qut {i:Nat} (h:i<63):IntKind.wrap .u64 (2*2^i)=2^(i+1):=by
 have h1:(2:Int)^(i+1)=2*2^i:=by rw [Int.pow_succ];omega
 have h2:(2:Int)^i≤2^62:=by
  have:=Nat.pow_le_pow_right (n:=2) (by omega) (show i≤62 by omega)
  exact_mod_cast this
 have h0:(0:Int)<2^i:=by
  have:=Nat.pow_pos (a:=2) (n:=i) (by omega)
  exact_mod_cast this
 have h3:(2:Int)^62=4611686018427387904:=rfl;rw [h1];exact qme (by omega) (by omega)
theorem qiw (w:Int):qab Φ f_309 [.int .i64 w]=some (.val (.bool (!wBad w))):=by
 rw [qaa (fn:=c_309) rfl rfl];by_cases h1:w<1
 ·simp [c_309,wBad,h1,Int.not_le.2 h1]
 ·by_cases h2:32<w
  ·simp [c_309,wBad,h1,Int.not_lt.1 h1,h2,Int.not_le.2 h2]
  ·simp [c_309,wBad,h1,Int.not_lt.1 h1,h2,Int.not_lt.1 h2]
theorem qkc (n:Nat) (hn:n<63):qab Φ f_310 [.int .i64 n]=some (.val (.int .u64 (2^n))):=by
 rw [qaa (fn:=c_310) rfl rfl];simp [c_310];refine (qao n (fun i e=>look 0 e=some (.int .i64 n)∧look 3 e=some (.int .u64 (2^i))∧look 4 e=some (.int .i64 i)) (fun i=>some (Rt.val (.int .u64 (2^n)))) ?_ ?_ 0 _ (Nat.zero_le _) ?_).trans (by simp)
 ·rintro i e L hi hL ⟨h0,h3,h4⟩ ih;have hw:IntKind.wrap .i64 ((i:Int)+1)=((i+1:Nat):Int):=qac (by omega) (by omega);have hp:=qut (i:=i) (by omega);simp [c_310_l0,h0,h3,h4,hi,hw,hp];exact ih _ ⟨by simp [h0],by simp,by simp⟩
 ·rintro e L hL ⟨h0,h3,h4⟩;simp [c_310_l0,c_310_k1,h0,h3,h4,hL]
 ·simp
theorem qm8 (v w:Int) (hv:ok32 0 v):qab Φ f_254 [.int .u32 v,.int .i64 w]=some (.val (.bool (fits v w))):=by
 rw [qaa (fn:=c_254) rfl rfl];have h1:=qiw w;have hv1:=hv.1;have hv2:=hv.2;have hc:IntKind.wrap .u64 v=v:=qme (by omega) (by omega);cases q:wBad w with
 | true=>
  rw [q] at h1;simp [c_254,h1,fits,q]
 | false=>
  rw [q] at h1;obtain ⟨w1,w2⟩:=wBad_false.1 q;obtain ⟨k,rfl⟩:∃k:Nat,w=k:=⟨w.toNat,by omega⟩;have h2:=qkc k (by omega);simp [c_254,h1,h2,hc,fits,q]
theorem qke (v:Int) (hv:ok32 0 v) (k:Nat) (hk:k≤32):qab Φ f_157 [.int .u32 v,.int .i64 k]=some (.val (.bool (decide (v<2^k)))):=by
 rw [qaa (fn:=c_157) rfl rfl];have hv1:=hv.1;have hv2:=hv.2;have hc:IntKind.wrap .u64 v=v:=qme (by omega) (by omega);generalize hX:decide (v<2^k)=X;simp [c_157];refine (qao k (fun i e=>look 0 e=some (.int .u32 v)∧look 1 e=some (.int .i64 k)∧look 5 e=some (.int .u64 (2^i))∧look 6 e=some (.int .i64 i)) (fun i=>some (Rt.val (.bool X))) ?_ ?_ 0 _ (Nat.zero_le _) ?_).trans (by simp)
 ·rintro i e L hi hL ⟨h0,h1,h5,h6⟩ ih;have hw:IntKind.wrap .i64 ((i:Int)+1)=((i+1:Nat):Int):=qac (by omega) (by omega);have hp:=qut (i:=i) (by omega);simp [c_157_l0,h1,h5,h6,hi,hw,hp];exact ih _ ⟨by simp [h0],by simp [h1],by simp,by simp⟩
 ·rintro e L hL ⟨h0,h1,h5,h6⟩;simp [c_157_l0,c_157_k1,h0,h1,h5,h6,hL,hc,← hX]
 ·simp
theorem qqe (p:Prg) (h i:Int):qab Φ f_323 [.agg (Prg.c p),.agg [.int .i64 h,.int .i64 i]]=some (.val (.int .i64 (wid p h i))):=by
 rw [qaa (fn:=c_323) rfl rfl];have tail:∀(l:List Fld),(∀j:Int,decl p h j=(at? l j).map (·.width))→(i<0∧wid p h i=0)∨(¬i<0∧(l.length:Int)≤i∧wid p h i=0)∨∃k:Nat,∃hk:k<l.length,i=k∧((l[k].width<1∧wid p h i=0)∨(¬l[k].width<1∧32<l[k].width∧wid p h i=0)∨(¬l[k].width<1∧¬32<l[k].width∧wid p h i=l[k].width)):=by
  intro l hd;by_cases i0:i<0
  ·exact .inl ⟨i0,by simp [wid,hd,qbq i0]⟩
  by_cases i1:(l.length:Int)≤i
  ·exact .inr (.inl ⟨i0,i1,by simp [wid,hd,qbp i1]⟩)
  obtain ⟨k,hk⟩:∃k:Nat,i=k:=⟨i.toNat,by omega⟩;refine .inr (.inr ⟨k,by omega,hk,?_⟩);have hk2:k<l.length:=by omega
  have e:wid p h i=if wBad l[k].width then 0 else l[k].width:=by simp [wid,hd,hk,hk2]
  by_cases w1:l[k].width<1
  ·exact .inl ⟨w1,by rw [e];simp [wBad,w1]⟩
  by_cases w2:32<l[k].width
  ·exact .inr (.inl ⟨w1,w2,by rw [e];simp [wBad,w2]⟩)
  ·exact .inr (.inr ⟨w1,w2,by rw [e];simp [wBad,w1,w2]⟩)
 by_cases h0:0≤h
 ·have hm:¬h= -1:=by omega
  have hm2:¬h< -1:=by omega
  by_cases h1:(p.headers.length:Int)≤h
  ·rw [show wid p h i=0 by simp [wid,decl,hm,qbp h1]];simp [c_323,Prg.e,h0,h1]
  obtain ⟨m,rfl⟩:∃k:Nat,h=k:=⟨h.toNat,by omega⟩;have hk:m<p.headers.length:=by omega
  rcases tail p.headers[m].fields (by intro j;simp [decl,hm,hk]) with ⟨i0,e⟩ | ⟨i0,i1,e⟩ | ⟨k,hk2,rfl,⟨w1,e⟩ | ⟨w1,w2,e⟩ | ⟨w1,w2,e⟩⟩
  ·rw [e];simp [c_323,Prg.e,Header.e,hk,Nat.not_le.2 hk,hm2,i0]
  ·rw [e];simp [c_323,Prg.e,Header.e,hk,Nat.not_le.2 hk,hm2,i0,i1]
  ·rw [e];simp [c_323,Prg.e,Header.e,Fld.e,hk,Nat.not_le.2 hk,hm2,hk2,Nat.not_le.2 hk2,w1]
  ·rw [e];simp [c_323,Prg.e,Header.e,Fld.e,hk,Nat.not_le.2 hk,hm2,hk2,Nat.not_le.2 hk2,w1,w2]
  ·rw [e];simp [c_323,Prg.e,Header.e,Fld.e,hk,Nat.not_le.2 hk,hm2,hk2,Nat.not_le.2 hk2,w1,w2]
 by_cases hm:h= -1
 ·subst hm;rcases tail p.metadata (by intro j;simp [decl]) with ⟨i0,e⟩ | ⟨i0,i1,e⟩ | ⟨k,hk2,rfl,⟨w1,e⟩ | ⟨w1,w2,e⟩ | ⟨w1,w2,e⟩⟩
  ·rw [e];simp [c_323,Prg.e,i0]
  ·rw [e];simp [c_323,Prg.e,i0,i1]
  ·rw [e];simp [c_323,Prg.e,Fld.e,hk2,Nat.not_le.2 hk2,w1]
  ·rw [e];simp [c_323,Prg.e,Fld.e,hk2,Nat.not_le.2 hk2,w1,w2]
  ·rw [e];simp [c_323,Prg.e,Fld.e,hk2,Nat.not_le.2 hk2,w1,w2]
 ·have hm2:h< -1:=by omega
  rw [show wid p h i=0 by simp [wid,decl,hm,qbq (show h<0 by omega)]];simp [c_323,Prg.e,h0,hm2]
theorem qqf (p:Prg) (h i:Int):qab Φ f_306 [.agg (Prg.c p),.agg [.int .i64 h,.int .i64 i]]=some (.val (.int .i64 (wid p h i))):=by
 rw [qaa (fn:=c_306) rfl rfl];have tail:∀(l:List Fld),(∀j:Int,decl p h j=(at? l j).map (·.width))→(i<0∧wid p h i=0)∨(¬i<0∧(l.length:Int)≤i∧wid p h i=0)∨∃k:Nat,∃hk:k<l.length,i=k∧((l[k].width<1∧wid p h i=0)∨(¬l[k].width<1∧32<l[k].width∧wid p h i=0)∨(¬l[k].width<1∧¬32<l[k].width∧wid p h i=l[k].width)):=by
  intro l hd;by_cases i0:i<0
  ·exact .inl ⟨i0,by simp [wid,hd,qbq i0]⟩
  by_cases i1:(l.length:Int)≤i
  ·exact .inr (.inl ⟨i0,i1,by simp [wid,hd,qbp i1]⟩)
  obtain ⟨k,hk⟩:∃k:Nat,i=k:=⟨i.toNat,by omega⟩;refine .inr (.inr ⟨k,by omega,hk,?_⟩);have hk2:k<l.length:=by omega
  have e:wid p h i=if wBad l[k].width then 0 else l[k].width:=by simp [wid,hd,hk,hk2]
  by_cases w1:l[k].width<1
  ·exact .inl ⟨w1,by rw [e];simp [wBad,w1]⟩
  by_cases w2:32<l[k].width
  ·exact .inr (.inl ⟨w1,w2,by rw [e];simp [wBad,w2]⟩)
  ·exact .inr (.inr ⟨w1,w2,by rw [e];simp [wBad,w1,w2]⟩)
 by_cases h0:0≤h
 ·have hm:¬h= -1:=by omega
  have hm2:¬h< -1:=by omega
  by_cases h1:(p.headers.length:Int)≤h
  ·rw [show wid p h i=0 by simp [wid,decl,hm,qbp h1]];simp [c_306,Prg.e,h0,h1]
  obtain ⟨m,rfl⟩:∃k:Nat,h=k:=⟨h.toNat,by omega⟩;have hk:m<p.headers.length:=by omega
  rcases tail p.headers[m].fields (by intro j;simp [decl,hm,hk]) with ⟨i0,e⟩ | ⟨i0,i1,e⟩ | ⟨k,hk2,rfl,⟨w1,e⟩ | ⟨w1,w2,e⟩ | ⟨w1,w2,e⟩⟩
  ·rw [e];simp [c_306,Prg.e,Header.e,hk,Nat.not_le.2 hk,hm2,i0]
  ·rw [e];simp [c_306,Prg.e,Header.e,hk,Nat.not_le.2 hk,hm2,i0,i1]
  ·rw [e];simp [c_306,Prg.e,Header.e,Fld.e,hk,Nat.not_le.2 hk,hm2,hk2,Nat.not_le.2 hk2,w1]
  ·rw [e];simp [c_306,Prg.e,Header.e,Fld.e,hk,Nat.not_le.2 hk,hm2,hk2,Nat.not_le.2 hk2,w1,w2]
  ·rw [e];simp [c_306,Prg.e,Header.e,Fld.e,hk,Nat.not_le.2 hk,hm2,hk2,Nat.not_le.2 hk2,w1,w2]
 by_cases hm:h= -1
 ·subst hm;rcases tail p.metadata (by intro j;simp [decl]) with ⟨i0,e⟩ | ⟨i0,i1,e⟩ | ⟨k,hk2,rfl,⟨w1,e⟩ | ⟨w1,w2,e⟩ | ⟨w1,w2,e⟩⟩
  ·rw [e];simp [c_306,Prg.e,i0]
  ·rw [e];simp [c_306,Prg.e,i0,i1]
  ·rw [e];simp [c_306,Prg.e,Fld.e,hk2,Nat.not_le.2 hk2,w1]
  ·rw [e];simp [c_306,Prg.e,Fld.e,hk2,Nat.not_le.2 hk2,w1,w2]
  ·rw [e];simp [c_306,Prg.e,Fld.e,hk2,Nat.not_le.2 hk2,w1,w2]
 ·have hm2:h< -1:=by omega
  rw [show wid p h i=0 by simp [wid,decl,hm,qbq (show h<0 by omega)]];simp [c_306,Prg.e,h0,hm2]
def fxO {α:Type} (q:α→Bool) (l:List α) (j:Nat):Option Int:=fe (fun k=>(l[k]?).bind fun f=>if q f then some (k:Int) else none) l.length j
theorem qo2 {α:Type} {q:α→Bool} {l:List α} {i:Nat} (hi:i<l.length) (h:q l[i]=true):fxO q l i=some (i:Int):=by
 unfold fxO;rw [qai (x:=(i:Int)) hi (by simp [hi,h])]
theorem qr3 {α:Type} {q:α→Bool} {l:List α} {i:Nat} (hi:i<l.length) (h:q l[i]=false):fxO q l i=fxO q l (i+1):=by
 unfold fxO;rw [qap hi (by simp [hi,h])]
theorem qac6 {α:Type} {q:α→Bool} {l:List α}:fxO q l l.length=none:=by
 unfold fxO;rw [qa0]
theorem qr2 {α:Type} {q:α→Bool} {l:List α} {i:Nat} (hi:i<l.length) (h:q l[i]=true):∀n j,n+j=i→∃k:Nat,fxO q l j=some (k:Int)∧(decide ((k:Int)<i)=qa2 (l.take i) q j)
 | 0,j,e=>by
  have:j=i:=by omega
  subst this;refine ⟨j,qo2 hi h,?_⟩;have:=qe1 (l:=l.take j) (p:=q);rw [show (l.take j).length=j by simp;omega] at this;rw [this];simp
 | n+1,j,e=>by
  have hj:j<l.length:=by omega
  have hj2:j<(l.take i).length:=by simp;omega
  have e1:(l.take i)[j]=l[j]:=by simp
  cases z:q l[j] with
  | true=>
   refine ⟨j,qo2 hj z,?_⟩;rw [qe2 hj2 (by rw [e1];exact z)];simp;omega
  | false=>
   obtain ⟨k,k1,k2⟩:=qr2 hi h n (j+1) (by omega);refine ⟨k,by rw [qr3 hj z];exact k1,?_⟩;rw [qc8 hj2 (by rw [e1];exact z)];exact k2
def fxT (o:Option Int):AV:=match o with
 | some k=> .tup [.int .i64 k,.bool true]
 | none=> .tup [.int .i64 0,.bool false]
theorem qqy (h:Header) (nm:List UInt8) (hl:h.fields.length<2^40):qab Φ f_269 [.agg (Header.c h),.str nm]=some (.val (fxT (fxO (fun f:Fld=>decide (f.name=nm)) h.fields 0))):=by
 rw [qaa (fn:=c_269) rfl rfl];simp [c_269,Header.e];refine qao h.fields.length (fun i e=>look 1 e=some (.str nm)∧look 2 e=some (.iptr 2 [Header.c h] 0 0)∧look 6 e=some (.int .i64 i))
  (fun i=>some (Rt.val (fxT (fxO (fun f:Fld=>decide (f.name=nm)) h.fields i)))) ?_ ?_ 0 _ (Nat.zero_le _) ?_
 ·rintro i e L hi hL ⟨h1,h2,h6⟩ ih;have hw:IntKind.wrap .i64 ((i:Int)+1)=((i+1:Nat):Int):=qac (by omega) (by omega);rw [Header.e] at h2;by_cases z:h.fields[i].name=nm
  ·rw [qo2 hi (by simpa using z)];simp [c_269_l0,Fld.e,h1,h2,h6,hi,z,fxT]
  ·rw [qr3 hi (by simpa using z)];simp [c_269_l0,Fld.e,h1,h2,h6,hi,z,hw];exact ih _ ⟨by simp [h1],by simp [h2,Header.e],by simp⟩
 ·rintro e L hL ⟨h1,h2,h6⟩;rw [qac6];rw [Header.e] at h2;simp [c_269_l0,c_269_k1,h2,h6,hL,fxT]
 ·simp [Header.e]
theorem qon (l:List Fld) (h:∀k,k<l.length→fldE l k (l.getD k default)=0):∀i,i≤l.length→0≤wSum (l.take i)∧wSum (l.take i)≤32*i:=by
 intro i
 induction i with
 | zero=>intro _;simp [wSum]
 | succ i ih=>
  intro hi;have h1:=ih (by omega);have hk:=h i (by omega);rw [List.getD_eq_getElem?_getD,List.getElem?_eq_getElem (by omega),Option.getD_some] at hk;have hb:wBad l[i].width=false:=by
   cases q:wBad l[i].width with
   | false=>rfl
   | true=>
    simp only [fldE,q] at hk;split at hk
    ·omega
    ·simp at hk
  have:=wBad_false.1 hb;rw [qls (by omega)];omega
theorem qxm {l:List Fld} {i k:Nat} (hk:k<i) (hi:i≤l.length):fldE (l.take i) k ((l.take i).getD k default)=fldE l k (l.getD k default):=by
 have e1:(l.take i).getD k default=l.getD k default:=by
  rw [List.getD_eq_getElem?_getD,List.getD_eq_getElem?_getD,List.getElem?_take,if_pos hk]
 rw [e1];unfold fldE dupN;rw [List.take_take,Nat.min_eq_left (by omega)]
theorem qaau (h:Header) (hn:h.name.length<2^40) (hf:∀f∈h.fields,f.name.length<2^40):qab Φ f_196 [.agg (Header.c h)]=some (.val (.int .i64 (hdrE h))):=by
 rw [qaa (fn:=c_196) rfl rfl];have n1:=qdy h.name hn;cases q1:idS h.name with
 | false=>rw [q1] at n1;simp [c_196,Header.e,n1,hdrE,q1]
 | true=>
 rw [q1] at n1;by_cases z0:h.fields.length=0
 ·simp [c_196,Header.e,n1,hdrE,q1,z0]
 by_cases z1:12<h.fields.length
 ·simp [c_196,Header.e,n1,hdrE,q1,z0,z1]
 have hE:hdrE h=hdrR h.fields 0:=by simp [hdrE,q1,z0,z1,hdrR,qj3];rfl
 rw [hE];simp [c_196,Header.e,n1,z0,z1];refine qaw h.fields.length (fun _=>[]) 0 (fun i e=>look 1 e=some (.iptr 2 [Header.c h] 0 0)∧look 3 e=some (.int .i64 (wSum (h.fields.take i)))∧look 4 e=some (.int .i64 i)∧
   ∀k,k<i→fldE h.fields k (h.fields.getD k default)=0)
  (fun i=>some (Rt.val (.int .i64 (hdrR h.fields i)))) ?_ ?_ 0 _ 0 (Nat.zero_le _) (Nat.le_refl _) ?_
 ·rintro i e n L hi hL _ ⟨h1,h3,h4,hz⟩ ih;have hw:IntKind.wrap .i64 ((i:Int)+1)=((i+1:Nat):Int):=qac (by omega) (by omega);have nf:=qdy h.fields[i].name (hf _ (List.getElem_mem hi));have ni:=qqy h h.fields[i].name (by omega);obtain ⟨at',k1,k2⟩:=qr2 (q:=fun f:Fld=>decide (f.name=h.fields[i].name)) hi (by simp) i 0 (by omega);rw [k1] at ni;rw [qia,show (h.fields.take i).any (fun f=>decide (f.name=h.fields[i].name))=dupN Fld.name h.fields i h.fields[i] from rfl] at k2;simp only [fxT,Header.e] at ni;rw [Header.e] at h1;cases p1:idS h.fields[i].name with
  | false=>
   rw [p1] at nf;rw [qex hi (by simp [fldE,p1])];simp [c_196_l0,Fld.e,h1,h4,hi,nf,ni,fldE,p1]
  | true=>
  rw [p1] at nf;by_cases w1:h.fields[i].width<1
  ·rw [qex hi (by simp [fldE,p1,wBad,w1])];simp [c_196_l0,Fld.e,h1,h4,hi,nf,ni,fldE,p1,wBad,w1]
  by_cases w2:32<h.fields[i].width
  ·rw [qex hi (by simp [fldE,p1,wBad,w2])];simp [c_196_l0,Fld.e,h1,h4,hi,nf,ni,fldE,p1,wBad,w1,w2]
  cases p3:dupN Fld.name h.fields i h.fields[i] with
  | true=>
   rw [p3] at k2;have k3:at'<i:=by simpa using k2
   rw [qex hi (by simp [fldE,p1,wBad,w1,w2,p3])];simp [c_196_l0,Fld.e,h1,h4,hi,nf,ni,fldE,p1,wBad,w1,w2,p3,k3]
  | false=>
   rw [p3] at k2;have k3:¬at'<i:=by simpa using k2
   have hz':∀k,k<i+1→fldE h.fields k (h.fields.getD k default)=0:=by
    intro k hk;rcases Nat.lt_succ_iff_lt_or_eq.1 hk with hlt | rfl
    ·exact hz k hlt
    ·rw [List.getD_eq_getElem?_getD,List.getElem?_eq_getElem hi,Option.getD_some];simp [fldE,p1,wBad,w1,w2,p3]
   have hs:=qon (h.fields.take (i+1)) (by intro k hk;simp at hk;rw [qxm (by omega) (by omega)];exact hz' k (by omega)) (i+1) (by simp;omega);rw [List.take_take,Nat.min_self,qls hi] at hs;have hw3:IntKind.wrap .i64 (wSum (h.fields.take i)+h.fields[i].width)=wSum (h.fields.take i)+h.fields[i].width:=qac (by omega) (by omega);rw [qp1 hi (by simp [fldE,p1,wBad,w1,w2,p3])];simp [c_196_l0,Fld.e,h1,h3,h4,hi,nf,ni,w1,w2,k3,hw,hw3];exact ih _ _ (Nat.zero_le _) ⟨by simp [h1,Header.e],by simp [qls hi],by simp,hz'⟩
 ·rintro e n L hL _ ⟨h1,h3,h4,hz⟩;have hs:=(qon h.fields hz h.fields.length (Nat.le_refl _)).1;rw [List.take_length] at h3 hs;have e3:wSum h.fields % 8=(wSum h.fields).tmod 8:=(Int.tmod_eq_emod_of_nonneg hs).symm;rw [qr7,e3];rw [Header.e] at h1;by_cases z:(wSum h.fields).tmod 8=0
  ·simp [c_196_l0,c_196_k1,h1,h3,h4,hL,z]
  ·simp [c_196_l0,c_196_k1,h1,h3,h4,hL,z]
 ·simp [Header.e,wSum]
theorem qaa2 (r:Register) (hs:r.name.length<2^40):qab Φ f_198 [.agg (Register.c r)]=some (.val (.int .i64 (regE r))):=by
 rw [qaa (fn:=c_198) rfl rfl];have h1:=qdy r.name hs;cases q1:idS r.name with
 | false=>rw [q1] at h1;simp [c_198,Register.e,h1,regE,q1]
 | true=>
  rw [q1] at h1;by_cases w1:r.width<1
  ·simp [c_198,Register.e,h1,regE,q1,wBad,w1]
  by_cases w2:32<r.width
  ·simp [c_198,Register.e,h1,regE,q1,wBad,w1,w2]
  by_cases z1:r.size<1
  ·simp [c_198,Register.e,h1,regE,q1,wBad,w1,w2,z1]
  by_cases z2:64<r.size
  ·simp [c_198,Register.e,h1,regE,q1,wBad,w1,w2,z1,z2]
  simp [c_198,Register.e,h1,regE,q1,wBad,w1,w2,z1,z2]
end Go.Av
