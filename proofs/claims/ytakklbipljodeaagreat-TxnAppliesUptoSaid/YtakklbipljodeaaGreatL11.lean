/-
 The check of a program: the reference's answers for the other parts.
-/
import Derived.Test.YtakklbipljodeaaGreatL8
set_option linter.unusedVariables false
set_option linter.unusedSimpArgs false
set_option linter.constructorNameAsVariable false
namespace Go.Av
set_option maxRecDepth 4000
theorem qyj (l:List Fld) (i:Nat) (hi:i<l.length) (hl:l.length<2^40) (hf:∀f∈l,f.name.length<2^40):qab Φ f_197 [.slice 2 (l.map Fld.c),.int .i64 i]=some (.val (.int .i64 (fldE l i l[i]))):=by
 rw [qaa (fn:=c_197) rfl rfl];have nf:=qdy l[i].name (hf _ (List.getElem_mem hi));cases p1:idS l[i].name with
 | false=>
  rw [p1] at nf;simp [c_197,Fld.e,hi,nf,fldE,p1]
 | true=>
 rw [p1] at nf;by_cases w1:l[i].width<1
 ·simp [c_197,Fld.e,hi,nf,fldE,p1,wBad,w1]
 by_cases w2:32<l[i].width
 ·simp [c_197,Fld.e,hi,nf,fldE,p1,wBad,w1,w2]
 rw [show fldE l i l[i]=if dupN Fld.name l i l[i]=true then 7 else 0 by simp [fldE,p1,wBad,w1,w2]];unfold dupN;generalize hX:some (Rt.val (AV.int .i64 (if (l.take i).any (fun y=>decide (y.name=l[i].name))=true then 7 else 0)))=X;simp [c_197,Fld.e,hi,nf,w1,w2];refine (qdb (l.take i) (fun y=>decide (y.name=l[i].name)) (some (Rt.val (.int .i64 7))) (some (Rt.val (.int .i64 0)))
  (fun k e H=>look 0 e=some (.slice 2 (l.map Fld.c))∧look 1 e=some (.int .i64 i)∧look 5 e=some (.int .i64 k)∧H=⟨[],0⟩) ?_ ?_ ?_ _ _ ?_).trans ?_
 ·rintro k e _ L' hk hL' ⟨h0,h1,h5,rfl⟩ hb;simp only [List.length_take] at hk;have hk1:k<i:=by omega
  have hk2:k<l.length:=by omega
  simp only [List.getElem_take,decide_eq_true_eq] at hb;simp [c_197_l0,Fld.e,h0,h1,h5,hk1,hk2,hi,hb]
 ·rintro k e _ L' X hk hL' ⟨h0,h1,h5,rfl⟩ hb ih';simp only [List.length_take] at hk;have hk1:k<i:=by omega
  have hk2:k<l.length:=by omega
  have hw':IntKind.wrap .i64 ((k:Int)+1)=((k+1:Nat):Int):=qac (by omega) (by omega);simp only [List.getElem_take,decide_eq_false_iff_not] at hb;simp [c_197_l0,Fld.e,h0,h1,h5,hk1,hk2,hi,hb,hw'];exact ih' _ _ ⟨by simp [h0],by simp [h1],by simp,rfl⟩
 ·rintro e _ L' hL' ⟨h0,h1,h5,rfl⟩;have hm:min i l.length=i:=by omega
  simp [hm] at h5;simp [c_197_l0,c_197_k1,h1,h5,hL']
 ·simp
 ·rw [← hX];cases (l.take i).any (fun y=>decide (y.name=l[i].name))<;>rfl
theorem qaax (p:Prg) (e:Env) (h1:look 1 e=some (.iptr 9 [Prg.c p] 0 0)) (h2:look 2 e=some (.ptr 0 4 0 0)):go Φ (finP [.cell 2 true 4]) [.c c_127_k3] .normal ⟨e,dH⟩=some (dgR (fe (metH p) 3 0)):=by
 rw [Prg.e] at h1;simp [c_127_k3,dH];rw [qay];by_cases l0:p.metadata.length≤0
 ·rw [qai (x:=(5,2,0,0)) (by omega) (by unfold metH;rw [List.getElem?_eq_none l0];rfl)];have hnil:p.metadata=[]:=List.eq_nil_of_length_eq_zero (by omega);simp [c_127_l1,h1,h2,hnil,qb3,dgR,dgC]
 have k0:0<p.metadata.length:=by omega
 have hne:¬p.metadata=[]:=by intro h;rw [h] at k0;simp at k0
 by_cases a0:p.metadata[0].name=[105,110]
 rotate_left
 ·rw [qai (x:=(5,2,0,0)) (by omega) (by unfold metH;rw [List.getElem?_eq_getElem k0,if_neg (by simp [qc6,Fld.eq_iff,a0])];rfl)];simp [c_127_l1,Fld.e,h1,h2,hne,k0,a0,qb3,dgR,dgC]
 by_cases b0:p.metadata[0].width=8
 rotate_left
 ·rw [qai (x:=(5,2,0,0)) (by omega) (by unfold metH;rw [List.getElem?_eq_getElem k0,if_neg (by simp [qc6,Fld.eq_iff,b0])];rfl)];simp [c_127_l1,Fld.e,h1,h2,hne,k0,a0,b0,qb3,dgR,dgC]
 rw [qap (by omega) (by unfold metH;rw [List.getElem?_eq_getElem k0,if_pos (by simp [qc6,Fld.eq_iff,a0,b0])])];simp [c_127_l1,Fld.e,h1,hne,k0,a0,b0,wr1];rw [qay];by_cases l1:p.metadata.length≤1
 ·rw [qai (x:=(5,2,1,0)) (by omega) (by unfold metH;rw [List.getElem?_eq_none l1];rfl)];simp [h1,h2,l1,qb3,dgR,dgC]
 have k1:1<p.metadata.length:=by omega
 by_cases a1:p.metadata[1].name=[111,117,116]
 rotate_left
 ·rw [qai (x:=(5,2,1,0)) (by omega) (by unfold metH;rw [List.getElem?_eq_getElem k1,if_neg (by simp [qc6,Fld.eq_iff,a1])];rfl)];simp [Fld.e,h1,h2,k1,l1,a1,qb3,dgR,dgC]
 by_cases b1:p.metadata[1].width=8
 rotate_left
 ·rw [qai (x:=(5,2,1,0)) (by omega) (by unfold metH;rw [List.getElem?_eq_getElem k1,if_neg (by simp [qc6,Fld.eq_iff,b1])];rfl)];simp [Fld.e,h1,h2,k1,l1,a1,b1,qb3,dgR,dgC]
 rw [qap (by omega) (by unfold metH;rw [List.getElem?_eq_getElem k1,if_pos (by simp [qc6,Fld.eq_iff,a1,b1])])];simp [Fld.e,h1,k1,l1,a1,b1,wr2];rw [qay];by_cases l2:p.metadata.length≤2
 ·rw [qai (x:=(5,2,2,0)) (by omega) (by unfold metH;rw [List.getElem?_eq_none l2];rfl)];simp [h1,h2,l2,qb3,dgR,dgC]
 have k2:2<p.metadata.length:=by omega
 by_cases a2:p.metadata[2].name=[100,114,111,112]
 rotate_left
 ·rw [qai (x:=(5,2,2,0)) (by omega) (by unfold metH;rw [List.getElem?_eq_getElem k2,if_neg (by simp [qc6,Fld.eq_iff,a2])];rfl)];simp [Fld.e,h1,h2,k2,l2,a2,qb3,dgR,dgC]
 by_cases b2:p.metadata[2].width=1
 rotate_left
 ·rw [qai (x:=(5,2,2,0)) (by omega) (by unfold metH;rw [List.getElem?_eq_getElem k2,if_neg (by simp [qc6,Fld.eq_iff,b2])];rfl)];simp [Fld.e,h1,h2,k2,l2,a2,b2,qb3,dgR,dgC]
 rw [qap (by omega) (by unfold metH;rw [List.getElem?_eq_getElem k2,if_pos (by simp [qc6,Fld.eq_iff,a2,b2])])];simp [Fld.e,h1,k2,l2,a2,b2,wr3];rw [qay,qa0];simp [c_127_k2,h2,dgR,dgC]
theorem qaaw (p:Prg) (f:PrgS p):qab Φ f_127 [.agg (Prg.c p)]=some (dgR (metD p)):=by
 rw [qaa (fn:=c_127) rfl rfl,qo5];by_cases z:12<p.metadata.length
 ·simp [c_127,Prg.e,z,qb3,dgR,dgC]
 rw [if_neg z];simp [c_127,Prg.e,z];refine qao p.metadata.length (fun i e=>look 1 e=some (.iptr 9 [Prg.c p] 0 0)∧look 2 e=some (.ptr 0 4 0 0)∧look 3 e=some (.int .i64 i))
  (fun i=>some (dgR ((fe (metG p) p.metadata.length i).or (fe (metH p) 3 0)))) ?_ ?_ 0 _ (Nat.zero_le _) ?_
 ·rintro i e L hi hL ⟨h1,h2,h3⟩ ih;have hlen:=f.m;have hw:IntKind.wrap .i64 ((i:Int)+1)=((i+1:Nat):Int):=qac (by omega) (by omega);have ef:=qyj p.metadata i hi f.m f.mn;rw [Prg.e] at h1;by_cases y:fldE p.metadata i p.metadata[i]=0
  ·rw [y] at ef;rw [qap hi (by simp [metG,hi,y])];simp [c_127_l0,h1,h3,hi,ef,hw];exact ih _ ⟨by simp [h1,Prg.e],by simp [h2],by simp⟩
  ·rw [qai (x:=(fldE p.metadata i p.metadata[i],2,(i:Int),0)) hi (by simp [metG,hi,y])];simp [c_127_l0,h1,h2,h3,hi,ef,y,qb3,dgR,dgC]
 ·rintro e L hL ⟨h1,h2,h3⟩;rw [qa0];have hh:=qaax p;simp only [dH] at hh;rw [Prg.e] at h1;simp [c_127_l0,h1,h3,hL];apply hh
  ·simp [h1,Prg.e]
  ·simp [h2]
 ·simp [Prg.e]
theorem qaek (p:Prg) (f:PrgS p) (hc:(pre p.control).length<2^40 - 1):qab Φ f_131 [.agg (Prg.c p)]=some (dgR (floD p)):=by
 rw [qaa (fn:=c_131) rfl rfl];have e1:=qaaz p f;have e2:=qaao p hc;have e3:=qaap p f;simp only [Prg.e,tup3] at e1 e2 e3;by_cases y1:(parE p).2.2=0
 rotate_left
 ·simp [c_131,Prg.e,e1,y1,qb3,floD,dgR,dgC]
 rw [y1] at e1;by_cases y2:(ctlE p).2=0
 rotate_left
 ·simp [c_131,Prg.e,e1,y1,e2,y2,qb3,floD,dgR,dgC]
 rw [y2] at e2;by_cases y3:(depE p).2=0
 rotate_left
 ·simp [c_131,Prg.e,e1,y1,e2,y2,e3,y3,qb3,floD,dgR,dgC]
 rw [y3] at e3;simp [c_131,Prg.e,e1,y1,e2,y2,e3,y3,floD,dgR,dgC]
theorem qaa1 (p:Prg) (f:PrgS p):qab Φ f_128 [.agg (Prg.c p)]=some (dgR (regD p)):=by
 rw [qaa (fn:=c_128) rfl rfl,show regD p=fe (regG p) p.registers.length 0 from rfl];simp [c_128,Prg.e];refine qao p.registers.length (fun i e=>look 1 e=some (.iptr 9 [Prg.c p] 0 0)∧look 2 e=some (.ptr 0 4 0 0)∧look 3 e=some (.int .i64 i))
  (fun i=>some (dgR (fe (regG p) p.registers.length i))) ?_ ?_ 0 _ (Nat.zero_le _) ?_
 ·rintro i e L hi hL ⟨h1,h2,h3⟩ ih;have hlen:=f.r;have hw:IntKind.wrap .i64 ((i:Int)+1)=((i+1:Nat):Int):=qac (by omega) (by omega);have hm:=List.getElem_mem hi;have eh:=qaa2 p.registers[i] (f.rn _ hm);simp only [Register.e] at eh;rw [Prg.e] at h1;have bad:∀c:Int,c≠0→qgd p i p.registers[i]=c→fe (regG p) p.registers.length i=some (c,3,(i:Int),0):=fun c h0 h=>qai hi (by simp [regG,hi,h,h0])
  by_cases z1:regE p.registers[i]=0
  rotate_left
  ·rw [bad _ z1 (by simp [qgd,z1])];simp [c_128_l3,Register.e,h1,h3,hi,eh];rw [qay];by_cases hi0:0<i<;>simp [c_128_l0,c_128_k1,h2,h3,z1,hi0,qb3,dgR,dgC]
  generalize hX:some (dgR (fe (regG p) p.registers.length i))=X;simp [c_128_l3,Register.e,h1,h3,hi,eh,z1];refine (qp7 (p.registers.take i) (fun y=>decide (y.name=p.registers[i].name)) (some (dgR (some (7,3,(i:Int),0)))) (some (dgR (fe (regG p) p.registers.length (i+1))))
   (fun k b e H=>look 1 e=some (.iptr 9 [Prg.c p] 0 0)∧look 2 e=some (.ptr 0 4 0 0)∧look 3 e=some (.int .i64 i)∧look 4 e=some (.int .i64 (if b then 7 else 0))∧look 5 e=some (.int .i64 k)∧H=dH) ?_ ?_ ?_ ?_ _ _ ?_).trans ?_
  ·rintro k e _ L' Y hk hL' ⟨h1,h2,h3,h4,h5,rfl⟩ hb ih';simp only [List.length_take] at hk;have hk1:k<i:=by omega
   have hk2:k<p.registers.length:=by omega
   have hw':IntKind.wrap .i64 ((k:Int)+1)=((k+1:Nat):Int):=qac (by omega) (by omega);simp only [List.getElem_take,decide_eq_true_eq] at hb;rw [Prg.e] at h1;simp at h4;simp [c_128_l0,Register.e,h1,h3,h4,h5,hk1,hk2,hi,hb,hw'];exact ih' _ _ ⟨by simp [h1,Prg.e],by simp [h2],by simp [h3],by simp,by simp,rfl⟩
  ·rintro k e _ L' Y hk hL' ⟨h1,h2,h3,h4,h5,rfl⟩ hb ih';simp only [List.length_take] at hk;have hk1:k<i:=by omega
   have hk2:k<p.registers.length:=by omega
   have hw':IntKind.wrap .i64 ((k:Int)+1)=((k+1:Nat):Int):=qac (by omega) (by omega);simp only [List.getElem_take,decide_eq_false_iff_not] at hb;rw [Prg.e] at h1;simp at h4;simp [c_128_l0,Register.e,h1,h3,h4,h5,hk1,hk2,hi,hb,hw'];exact ih' _ _ ⟨by simp [h1,Prg.e],by simp [h2],by simp [h3],by simp [h4],by simp,rfl⟩
  ·rintro k e _ L' hk hL' ⟨h1,h2,h3,h4,h5,rfl⟩;simp only [List.length_take] at hk;simp at h4;by_cases hk1:k<i
   ·simp [c_128_l0,c_128_k1,h2,h3,h4,h5,hk1,hL',qb3,dgR,dgC,dH]
   ·simp [c_128_l0,c_128_k1,h2,h3,h4,h5,hk1,hL',qb3,dgR,dgC,dH]
  ·rintro e _ L' hL' ⟨h1,h2,h3,h4,h5,rfl⟩;have hmn:min i p.registers.length=i:=by omega
   simp [hmn] at h4 h5;simp [c_128_l0,c_128_k1,c_128_k2,h3,h4,h5,hL',hw];exact ih _ ⟨by simp [h1],by simp [h2],by simp⟩
  ·simp [h1,h2,h3,Prg.e,dH]
  ·rw [← hX];cases q:dupN Register.name p.registers i p.registers[i] with
   | true=>
    rw [bad 7 (by decide) (by simp [qgd,z1,q])];unfold dupN at q;rw [q];rfl
   | false=>
    rw [qap hi (by simp [regG,hi,qgd,z1,q])];unfold dupN at q;rw [q];rfl
 ·rintro e L hL ⟨h1,h2,h3⟩;rw [qa0];rw [Prg.e] at h1;simp [c_128_l3,c_128_k4,h1,h2,h3,hL,dgR,dgC]
 ·simp [Prg.e]
theorem qyd (p:Prg) (f:PrgS p):qab Φ f_129 [.agg (Prg.c p)]=some (dgR (qdp p)):=by
 rw [qaa (fn:=c_129) rfl rfl,show qdp p=fe (acG p) p.actions.length 0 from rfl];simp [c_129,Prg.e];refine qao p.actions.length (fun i e=>look 1 e=some (.iptr 9 [Prg.c p] 0 0)∧look 2 e=some (.ptr 0 4 0 0)∧look 3 e=some (.int .i64 i))
  (fun i=>some (dgR (fe (acG p) p.actions.length i))) ?_ ?_ 0 _ (Nat.zero_le _) ?_
 ·rintro i e L hi hL ⟨h1,h2,h3⟩ ih;have hlen:=f.a;have hw:IntKind.wrap .i64 ((i:Int)+1)=((i+1:Nat):Int):=qac (by omega) (by omega);have et:=qaal p f i;simp only [Prg.e] at et;rw [Prg.e] at h1;by_cases y:(actE p i).2=0
  rotate_left
  ·rw [qai (x:=((actE p i).2,4,(i:Int),(actE p i).1)) hi (by simp [acG,hi,y])];simp [c_129_l2,h1,h2,h3,hi,et,y,qb3,dgR,dgC]
  rw [y] at et;generalize hX:some (dgR (fe (acG p) p.actions.length i))=X;simp [c_129_l2,h1,h3,hi,et];refine (qdb (p.actions.take i) (fun g=>decide (g.name=p.actions[i].name)) (some (dgR (some (7,4,(i:Int),0)))) (some (dgR (fe (acG p) p.actions.length (i+1))))
   (fun k e H=>look 1 e=some (.iptr 9 [Prg.c p] 0 0)∧look 2 e=some (.ptr 0 4 0 0)∧look 3 e=some (.int .i64 i)∧look 6 e=some (.int .i64 k)∧H=dH) ?_ ?_ ?_ _ _ ?_).trans ?_
  ·rintro k e _ L' hk hL' ⟨h1,h2,h3,h6,rfl⟩ hb;simp only [List.length_take] at hk;have hk1:k<i:=by omega
   have hk2:k<p.actions.length:=by omega
   simp only [List.getElem_take,decide_eq_true_eq] at hb;rw [Prg.e] at h1;simp [c_129_l0,Action.e,h1,h2,h3,h6,hk1,hk2,hi,hb,qb3,dgR,dgC,dH]
  ·rintro k e _ L' Y hk hL' ⟨h1,h2,h3,h6,rfl⟩ hb ih';simp only [List.length_take] at hk;have hk1:k<i:=by omega
   have hk2:k<p.actions.length:=by omega
   have hw':IntKind.wrap .i64 ((k:Int)+1)=((k+1:Nat):Int):=qac (by omega) (by omega);simp only [List.getElem_take,decide_eq_false_iff_not] at hb;rw [Prg.e] at h1;simp [c_129_l0,Action.e,h1,h3,h6,hk1,hk2,hi,hb,hw'];exact ih' _ _ ⟨by simp [h1,Prg.e],by simp [h2],by simp [h3],by simp,rfl⟩
  ·rintro e _ L' hL' ⟨h1,h2,h3,h6,rfl⟩;have hm:min i p.actions.length=i:=by omega
   simp [hm] at h6;simp [c_129_l0,c_129_k1,h3,h6,hL',hw];exact ih _ ⟨by simp [h1],by simp [h2],by simp⟩
  ·simp [h1,h2,h3,Prg.e,dH]
  ·rw [← hX];cases q:dupN Action.name p.actions i p.actions[i] with
   | true=>
    rw [qai (x:=(7,4,(i:Int),0)) hi (by simp [acG,hi,y,q])];unfold dupN at q;rw [q];rfl
   | false=>
    rw [qap hi (by simp [acG,hi,y,q])];unfold dupN at q;rw [q];rfl
 ·rintro e L hL ⟨h1,h2,h3⟩;rw [qa0];rw [Prg.e] at h1;simp [c_129_l2,c_129_k3,h1,h2,h3,hL,dgR,dgC]
 ·simp [Prg.e]
theorem qaa5 (p:Prg) (f:PrgS p) (hv:∀t∈p.tables,∀v∈t.dflt.args,ok32 0 v):qab Φ f_130 [.agg (Prg.c p)]=some (dgR (tblD p)):=by
 rw [qaa (fn:=c_130) rfl rfl,show tblD p=fe (tbG p) p.tables.length 0 from rfl];simp [c_130,Prg.e];refine qao p.tables.length (fun i e=>look 1 e=some (.iptr 9 [Prg.c p] 0 0)∧look 2 e=some (.ptr 0 4 0 0)∧look 3 e=some (.int .i64 i))
  (fun i=>some (dgR (fe (tbG p) p.tables.length i))) ?_ ?_ 0 _ (Nat.zero_le _) ?_
 ·rintro i e L hi hL ⟨h1,h2,h3⟩ ih;have hlen:=f.t;have hw:IntKind.wrap .i64 ((i:Int)+1)=((i+1:Nat):Int):=qac (by omega) (by omega);have et:=qnc p f hv i;simp only [Prg.e] at et;rw [Prg.e] at h1;by_cases y:(tblE p i).2=0
  rotate_left
  ·rw [qai (x:=((tblE p i).2,5,(i:Int),(tblE p i).1)) hi (by simp [tbG,hi,y])];simp [c_130_l2,h1,h2,h3,hi,et,y,qb3,dgR,dgC]
  rw [y] at et;generalize hX:some (dgR (fe (tbG p) p.tables.length i))=X;simp [c_130_l2,h1,h3,hi,et];refine (qdb (p.tables.take i) (fun g=>decide (g.name=p.tables[i].name)) (some (dgR (some (7,5,(i:Int),0)))) (some (dgR (fe (tbG p) p.tables.length (i+1))))
   (fun k e H=>look 1 e=some (.iptr 9 [Prg.c p] 0 0)∧look 2 e=some (.ptr 0 4 0 0)∧look 3 e=some (.int .i64 i)∧look 6 e=some (.int .i64 k)∧H=dH) ?_ ?_ ?_ _ _ ?_).trans ?_
  ·rintro k e _ L' hk hL' ⟨h1,h2,h3,h6,rfl⟩ hb;simp only [List.length_take] at hk;have hk1:k<i:=by omega
   have hk2:k<p.tables.length:=by omega
   simp only [List.getElem_take,decide_eq_true_eq] at hb;rw [Prg.e] at h1;simp [c_130_l0,Tbl.e,h1,h2,h3,h6,hk1,hk2,hi,hb,qb3,dgR,dgC,dH]
  ·rintro k e _ L' Y hk hL' ⟨h1,h2,h3,h6,rfl⟩ hb ih';simp only [List.length_take] at hk;have hk1:k<i:=by omega
   have hk2:k<p.tables.length:=by omega
   have hw':IntKind.wrap .i64 ((k:Int)+1)=((k+1:Nat):Int):=qac (by omega) (by omega);simp only [List.getElem_take,decide_eq_false_iff_not] at hb;rw [Prg.e] at h1;simp [c_130_l0,Tbl.e,h1,h3,h6,hk1,hk2,hi,hb,hw'];exact ih' _ _ ⟨by simp [h1,Prg.e],by simp [h2],by simp [h3],by simp,rfl⟩
  ·rintro e _ L' hL' ⟨h1,h2,h3,h6,rfl⟩;have hm:min i p.tables.length=i:=by omega
   simp [hm] at h6;simp [c_130_l0,c_130_k1,h3,h6,hL',hw];exact ih _ ⟨by simp [h1],by simp [h2],by simp⟩
  ·simp [h1,h2,h3,Prg.e,dH]
  ·rw [← hX];cases q:dupN Tbl.name p.tables i p.tables[i] with
   | true=>
    rw [qai (x:=(7,5,(i:Int),0)) hi (by simp [tbG,hi,y,q])];unfold dupN at q;rw [q];rfl
   | false=>
    rw [qap hi (by simp [tbG,hi,y,q])];unfold dupN at q;rw [q];rfl
 ·rintro e L hL ⟨h1,h2,h3⟩;rw [qa0];rw [Prg.e] at h1;simp [c_130_l2,c_130_k3,h1,h2,h3,hL,dgR,dgC]
 ·simp [Prg.e]
theorem qd7 {α:Type} {f:Nat→Option α} {N:Nat} {x:α}:∀{i},fe f N i=some x→∃k,k<N∧f k=some x:=by
 have key:∀n i,feF f n i=some x→∃k,k<i+n∧f k=some x:=by
  intro n
  induction n with
  | zero=>intro i h;simp [feF] at h
  | succ n ih=>
   intro i h;simp only [feF] at h;cases q:f i with
   | some y=>rw [q] at h;cases h;exact ⟨i,by omega,q⟩
   | none=>
    rw [q] at h;obtain ⟨k,h1,h2⟩:=ih _ h;exact ⟨k,by omega,h2⟩
 intro i h;unfold fe at h;obtain ⟨k,h1,h2⟩:=key _ _ h;by_cases hi:i≤N
 ·exact ⟨k,by omega,h2⟩
 ·rw [show N - i=0 by omega] at h;simp [feF] at h
theorem qadg {p:Prg} {d:Dg} (h:limD p=some d):d.1≠0:=by
 unfold limD at h
 repeat' split at h
 all_goals first
  | (cases h;decide)
  | (cases h)
theorem qac9 {p:Prg} {d:Dg} (h:hdrD p=some d):d.1≠0:=by
 obtain ⟨k,hk,h⟩:=qd7 (f:=hdrG p) h;rw [hdrG,List.getElem?_eq_getElem hk,Option.bind_some] at h;split at h
 ·cases h
 ·rename_i z;cases h;exact z
theorem qadj {p:Prg} {d:Dg} (h:metD p=some d):d.1≠0:=by
 rw [qo5] at h;split at h
 ·cases h;decide
 ·cases q:fe (metG p) p.metadata.length 0 with
  | some x=>
   rw [q] at h;cases h;obtain ⟨k,hk,h⟩:=qd7 q;rw [metG,List.getElem?_eq_getElem hk,Option.bind_some] at h;split at h
   ·cases h
   ·rename_i z;cases h;exact z
  | none=>
   rw [q,Option.none_or] at h;obtain ⟨k,hk,h⟩:=qd7 h;unfold metH at h;split at h
   ·cases h
   ·cases h;simp
theorem qaeh {p:Prg} {d:Dg} (h:regD p=some d):d.1≠0:=by
 obtain ⟨k,hk,h⟩:=qd7 (f:=regG p) h;rw [regG,List.getElem?_eq_getElem hk,Option.bind_some] at h;split at h
 ·cases h
 ·rename_i z;cases h;exact z
theorem qzb {p:Prg} {d:Dg} (h:qdp p=some d):d.1≠0:=by
 obtain ⟨k,hk,h⟩:=qd7 (f:=acG p) h;rw [acG,List.getElem?_eq_getElem hk,Option.bind_some] at h;split at h
 ·rename_i z;cases h;exact z
 ·split at h
  ·cases h;simp
  ·cases h
theorem qae6 {p:Prg} {d:Dg} (h:tblD p=some d):d.1≠0:=by
 obtain ⟨k,hk,h⟩:=qd7 (f:=tbG p) h;rw [tbG,List.getElem?_eq_getElem hk,Option.bind_some] at h;split at h
 ·rename_i z;cases h;exact z
 ·split at h
  ·cases h;simp
  ·cases h
theorem qq0 (p:Prg) (f:PrgS p) (hv:∀t∈p.tables,∀v∈t.dflt.args,ok32 0 v) (hc:(pre p.control).length<2^40 - 1):qab Φ f_55 [.agg (Prg.c p)]=some (.val (.agg (dgC (prgD p)))):=by
 rw [qaa (fn:=c_55) rfl rfl];have h1:=qaem p f;have h2:=qaat p f;have h3:=qaaw p f;have h4:=qaa1 p f;have h5:=qyd p f;have h6:=qaa5 p f hv;have h7:=qaek p f hc;simp only [Prg.e] at h1 h2 h3 h4 h5 h6 h7;unfold prgD;cases q1:limD p with
 | some d=>have n:=qadg q1;rw [q1] at h1;simp [c_55,Prg.e,h1,dgR,dgC,n]
 | none=>
 rw [q1] at h1;cases q2:hdrD p with
 | some d=>have n:=qac9 q2;rw [q2] at h2;simp [c_55,Prg.e,h1,h2,dgR,dgC,n]
 | none=>
 rw [q2] at h2;cases q3:metD p with
 | some d=>have n:=qadj q3;rw [q3] at h3;simp [c_55,Prg.e,h1,h2,h3,dgR,dgC,n]
 | none=>
 rw [q3] at h3;cases q4:regD p with
 | some d=>have n:=qaeh q4;rw [q4] at h4;simp [c_55,Prg.e,h1,h2,h3,h4,dgR,dgC,n]
 | none=>
 rw [q4] at h4;cases q5:qdp p with
 | some d=>have n:=qzb q5;rw [q5] at h5;simp [c_55,Prg.e,h1,h2,h3,h4,h5,dgR,dgC,n]
 | none=>
 rw [q5] at h5;cases q6:tblD p with
 | some d=>have n:=qae6 q6;rw [q6] at h6;simp [c_55,Prg.e,h1,h2,h3,h4,h5,h6,dgR,dgC,n]
 | none=>
 rw [q6] at h6;cases q7:floD p with
 | some d=>rw [q7] at h7;simp [c_55,Prg.e,h1,h2,h3,h4,h5,h6,h7,dgR,dgC]
 | none=>rw [q7] at h7;simp [c_55,Prg.e,h1,h2,h3,h4,h5,h6,h7,dgR,dgC]
def IsB (x:Option Rt):Prop:=∃b,x=some (.val (.bool b))
@[simp] theorem qako (b:Bool):IsB (some (.val (.bool b))):=⟨b,rfl⟩
theorem qgq {Φ:FuncId→Option AFun} {β:Type} {fin:Option (Ex×St)→Option β} {h:AH} (N:Nat) (Inv:Nat→Env→Prop) (Q:Option β→Prop) {b:ACode} {K:List Fr}
  (step:∀i e L,i<N→(∀j s,go Φ fin L (.exit j) s=go Φ fin K (.exit j) s)→Inv i e→(∀e',Inv (i+1) e'→Q (go Φ fin L .normal ⟨e',h⟩))→Q (go Φ fin (.c b::L) .normal ⟨e,h⟩))
  (last:∀e L,(∀j s,go Φ fin L (.exit j) s=go Φ fin K (.exit j) s)→Inv N e→Q (go Φ fin (.c b::L) .normal ⟨e,h⟩)):
  ∀i e,i≤N→Inv i e→Q (go Φ fin (.c (.loop b)::K) .normal ⟨e,h⟩):=by
 intro i e hi hv;refine qj9 N (fun i e H=>H=h∧Inv i e) Q ?_ ?_ i e h hi ⟨rfl,hv⟩
 ·rintro i e _ L hi hL ⟨rfl,hv⟩ ih;exact step i e L hi hL hv fun e' hv'=>ih e' _ ⟨rfl,hv'⟩
 ·rintro e _ L hL ⟨rfl,hv⟩;exact last e L hL hv
def qb1 {α:Type} [DecidableEq α] (l m:List α) (i:Nat):Bool:=decide (l.drop i=m.drop i)
theorem qdg {α:Type} [DecidableEq α] {l m:List α} {i:Nat} (h1:i<l.length) (h2:i<m.length) (h:l[i]=m[i]):qb1 l m i=qb1 l m (i+1):=by
 unfold qb1;rw [decide_eq_decide,qmi h1 h2];simp [h]
theorem qch {α:Type} [DecidableEq α] {l m:List α} {i:Nat} (h1:i<l.length) (h2:i<m.length) (h:l[i]≠m[i]):qb1 l m i=false:=by
 unfold qb1;rw [decide_eq_false_iff_not,qmi h1 h2];simp [h]
theorem qdf {α:Type} [DecidableEq α] {l m:List α} (h:l.length=m.length):qb1 l m l.length=true:=by
 simp [qb1,h]
theorem qhs (k1 k2:List KeyMatch) (p1 p2:Int) (r1 r2:List AV) (hb:k1.length<2^40):
   qab Φ f_85 [.agg (.slice 2 (k1.map KeyMatch.c):: .int .i64 p1::r1),.agg (.slice 2 (k2.map KeyMatch.c):: .int .i64 p2::r2)]=some (.val (.bool (decide (k1=k2∧p1=p2)))):=by
  rw [qaa (fn:=c_85) rfl rfl];by_cases q1:k1.length=k2.length
  rotate_left
  · have:k1≠k2:=fun h=>q1 (by rw [h])
    simp [c_85,q1,this]
  by_cases q2:p1=p2
  rotate_left
  · simp [c_85,q1,q2]
  subst q2;simp [c_85,q1];refine (qao k1.length (fun i e=>look 2 e=some (AV.ptr 0 (r1.length+1+1) 0 0)∧look 3 e=some (AV.ptr 1 (r2.length+1+1) 0 0)∧look 5 e=some (.int .i64 i))
    (fun i=>some (Rt.val (AV.bool (qb1 k1 k2 i)))) ?_ ?_ 0 _ (Nat.zero_le _) ?_).trans (by simp [qb1])
  · rintro i e L hi hL ⟨h2,h3,h5⟩ ih
    have hi2:i<k2.length:=by omega
    have hw:IntKind.wrap .i64 ((i:Int)+1)=((i+1:Nat):Int):=qac (by omega) (by omega);by_cases c:k1[i]=k2[i]
    · rw [qdg hi hi2 c]
      simp [c_85_l0,KeyMatch.c,hi,hi2,h2,h3,h5,hw,c];exact ih _ ⟨by simp [h2],by simp [h3],by simp⟩
    · rw [qch hi hi2 c]
      have c':(decide (k1[i].value=k2[i].value)&&decide (k1[i].mask=k2[i].mask))=false:=by
        simp [KeyMatch.ext_iff] at c ⊢;exact c
      simp [c_85_l0,KeyMatch.c,hi,hi2,h2,h3,h5,c']
  · rintro e L hL ⟨h2,h3,h5⟩
    rw [qdf q1];simp [c_85_l0,c_85_k1, *]
  · simp
theorem qks (a1 a2:Int) (l1 l2:List Int) (hb:l1.length<2^40):
   qab Φ f_72 [.agg [.int .i64 a1,.slice 1 (l1.map c32)],.agg [.int .i64 a2,.slice 1 (l2.map c32)]]=some (.val (.bool (decide (a1=a2∧l1=l2)))):=by
  rw [qaa (fn:=c_72) rfl rfl];by_cases q2:a1=a2
  rotate_left
  · simp [c_72,q2]
  subst q2;by_cases q1:l1.length=l2.length
  rotate_left
  · have:l1≠l2:=fun h=>q1 (by rw [h])
    simp [c_72,q1,this]
  simp [c_72,q1];refine (qao l1.length (fun i e=>look 2 e=some (AV.ptr 0 2 0 0)∧look 3 e=some (AV.ptr 1 2 0 0)∧look 5 e=some (.int .i64 i))
    (fun i=>some (Rt.val (AV.bool (qb1 l1 l2 i)))) ?_ ?_ 0 _ (Nat.zero_le _) ?_).trans (by simp [qb1])
  · rintro i e L hi hL ⟨h2,h3,h5⟩ ih
    have hi2:i<l2.length:=by omega
    have hw:IntKind.wrap .i64 ((i:Int)+1)=((i+1:Nat):Int):=qac (by omega) (by omega);by_cases c:l1[i]=l2[i]
    · rw [qdg hi hi2 c]
      simp [c_72_l0,c32,hi,hi2,h2,h3,h5,hw,c];exact ih _ ⟨by simp [h2],by simp [h3],by simp⟩
    · rw [qch hi hi2 c]
      simp [c_72_l0,c32,hi,hi2,h2,h3,h5,c]
  · rintro e L hL ⟨h2,h3,h5⟩
    rw [qdf q1];simp [c_72_l0,c_72_k1, *]
  · simp
theorem qy9 (k1 k2:List KeyMatch) (p1 p2:Int) (a1 a2:Int) (l1 l2:List Int) (hb:k1.length<2^40) (hb':l1.length<2^40):
   qab Φ f_31 [.agg [.slice 2 (k1.map KeyMatch.c),.int .i64 p1,.int .i64 a1,.slice 1 (l1.map c32)],.agg [.slice 2 (k2.map KeyMatch.c),.int .i64 p2,.int .i64 a2,.slice 1 (l2.map c32)]]=some (.val (.bool (decide (k1=k2∧p1=p2∧a1=a2∧l1=l2)))):=by
  rw [qaa (fn:=c_31) rfl rfl];by_cases q1:k1=k2
  · by_cases q2:p1=p2
    · subst q1
      simp [c_31,qhs,qks,hb,hb',q2]
    · subst q1
      simp [c_31,qhs,hb,q2]
  · simp [c_31,qhs,hb,q1]
theorem qtq (k1 k2:List KeyMatch) (p1 p2:Int) (r1 r2:List AV) (hb:k1.length<2^40):
   qab Φ f_89 [.agg (.slice 2 (k1.map KeyMatch.c):: .int .i64 p1::r1),.agg (.slice 2 (k2.map KeyMatch.c):: .int .i64 p2::r2)]=some (.val (.bool (decide (k1=k2∧p1=p2)))):=by
  rw [qaa (fn:=c_89) rfl rfl];by_cases q2:p1=p2
  rotate_left
  · simp [c_89,q2]
  by_cases q1:k1.length=k2.length
  rotate_left
  · have:k1≠k2:=fun h=>q1 (by rw [h])
    simp [c_89,q1,this,q2]
  subst q2;simp [c_89,q1];refine (qey k1.length (fun i e h=>look 2 e=some (AV.ptr 0 (r1.length+1+1) 0 0)∧look 3 e=some (AV.ptr 1 (r2.length+1+1) 0 0)∧look 22 e=some (.slice 2 (k1.map KeyMatch.c))∧look 23 e=some (.int .i64 k2.length)∧look 24 e=some (.int .i64 i)∧
      HP [(0,AO.row (r1.length+1+1) [.slice 2 (k1.map KeyMatch.c):: .int .i64 p1::r1]),(1,AO.row (r2.length+1+1) [.slice 2 (k2.map KeyMatch.c):: .int .i64 p1::r2])] 2 h)
    (fun i=>some (Rt.val (AV.bool (qb1 k1 k2 i)))) ?_ ?_ 0 _ _ (Nat.zero_le _) ?_).trans (by simp [qb1])
  · rintro i e _ L hi hL ⟨h2,h3,h22,h23,h24,T,n,hT,rfl⟩ ih
    have hi2:i<k2.length:=by omega
    have hw:IntKind.wrap .i64 ((i:Int)+1)=((i+1:Nat):Int):=qac (by omega) (by omega);have hT':=hT (n+2) (Nat.le_refl _);by_cases c:k1[i]=k2[i]
    · rw [qdg hi hi2 c]
      simp [c_89_l0,KeyMatch.c,hi,hi2,h3,h22,h23,h24,hw,c,hT'];exact ih _ _ ⟨by simp [h2],by simp [h3],by simp [h22],by simp [h23],by simp,HP.next hT⟩
    · rw [qch hi hi2 c]
      have c':(decide (k1[i].value=k2[i].value)&&decide (k1[i].mask=k2[i].mask))=false:=by
        simp [KeyMatch.ext_iff] at c ⊢;exact c
      simp [c_89_l0,KeyMatch.c,hi,hi2,h3,h22,h23,h24,c',hT']
  · rintro e _ L hL ⟨h2,h3,h22,h23,h24,T,n,hT,rfl⟩
    rw [qdf q1];simp [c_89_l0,c_89_k1, *]
  · simp
    exact HP.mk
theorem Entry.eq_iff (x y:Entry):x=y↔x.keys=y.keys∧x.priority=y.priority∧x.call.action=y.call.action∧x.call.args=y.call.args:=by
 constructor
 ·rintro rfl;simp
 ·rintro ⟨a,b,c,d⟩;obtain ⟨k,p,u,v⟩:=x;obtain ⟨k',p',u',v'⟩:=y;simp only at a b c d;subst a b c d;rfl
def Entry.sm (x:Entry):Prop:=x.keys.length<2^40∧x.call.args.length<2^40
theorem qya (x y:Entry) (hb:x.sm):qab Φ f_31 [.agg (Entry.c x),.agg (Entry.c y)]=some (.val (.bool (decide (x=y)))):=by
 rw [decide_eq_decide.2 (Entry.eq_iff x y)];exact qy9 x.keys y.keys x.priority y.priority x.call.action y.call.action x.call.args y.call.args hb.1 hb.2
theorem Rw.ce (x:Rw):Rw.c x=[.int .i64 x.id,.slice 2 (x.entry.keys.map KeyMatch.c),.int .i64 x.entry.priority,.int .i64 x.entry.call.action,.slice 1 (x.entry.call.args.map c32)]:=by simp [Rw.c]
theorem cSe {α:Type} (z:Nat) (f:α→List AV) (l:List α):cS z f l=[.slice z (l.map f)]:=by simp [cS]
theorem ActionCall.ce (x:ActionCall):ActionCall.c x=[.int .i64 x.action,.slice 1 (x.args.map c32)]:=by simp [ActionCall.c]
theorem Entry.ce (x:Entry):Entry.c x=[.slice 2 (x.keys.map KeyMatch.c),.int .i64 x.priority,.int .i64 x.call.action,.slice 1 (x.call.args.map c32)]:=by simp [Entry.c]
theorem Config.ce (x:Config):Config.c x=[.slice 1 (x.rows.map (cS 5 Rw.c)),.slice 1 (x.nextID.map cI),.slice 2 (x.defaults.map ActionCall.c),.slice 1 (x.registers.map (cS 1 c32))]:=by simp [Config.c]
theorem cIe (x:Int):cI x=[.int .i64 x]:=by simp [cI]
theorem c32e (x:Int):c32 x=[.int .u32 x]:=by simp [c32]
theorem Rw.eq_iff (x y:Rw):x=y↔x.id=y.id∧x.entry=y.entry:=by
 constructor
 ·rintro rfl;simp
 ·rintro ⟨a,b⟩;obtain ⟨u,v⟩:=x;obtain ⟨u',v'⟩:=y;simp only at a b;subst a b;rfl
theorem ActionCall.eq_iff (x y:ActionCall):x=y↔x.action=y.action∧x.args=y.args:=by
 constructor
 ·rintro rfl;simp
 ·rintro ⟨a,b⟩;obtain ⟨u,v⟩:=x;obtain ⟨u',v'⟩:=y;simp only at a b;subst a b;rfl
end Go.Av
