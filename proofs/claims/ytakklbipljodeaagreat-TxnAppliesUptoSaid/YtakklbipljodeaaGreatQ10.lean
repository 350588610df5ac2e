/-
 Contents of registers: checks, on both sides.
-/
import Derived.Test.YtakklbipljodeaaGreatQ4
set_option linter.unusedVariables false
set_option linter.unusedSimpArgs false
set_option linter.constructorNameAsVariable false
namespace Go.Av
set_option maxRecDepth 4000
def mxF:List Int→Int→Int
 | [],a=>a
 | x::r,a=>mxF r (max a x)
theorem qx2 (M:Int):∀(l:List Int) (a:Int),M<mxF l a↔M<a∨∃x∈l,M<x
 | [],a=>by simp [mxF]
 | x::r,a=>by
  have ih:=qx2 M r (max a x);simp only [mxF,ih,List.mem_cons,exists_eq_or_imp];constructor
  ·rintro (h | h)
   ·by_cases q:M<a
    ·exact .inl q
    ·exact .inr (.inl (by omega))
   ·exact .inr (.inr h)
  ·rintro (h | h | h)
   ·exact .inl (by omega)
   ·exact .inl (by omega)
   ·exact .inr h
theorem qagm (l:List Int) (h0:0<l.length) (hl:l.length<2^40):qab Φ f_151 [.slice 1 (l.map c32)]=some (.val (.int .u32 (mxF l.tail l[0]))):=by
 rw [qaa (fn:=c_151) rfl rfl];have h1:¬(l.length:Int)<1:=by omega
 simp [c_151,h0,h1,c32];refine qaw l.length (fun _=>[]) 0 (fun i e=>look 0 e=some (.slice 1 (l.map c32))∧look 4 e=some (.int .i64 i)∧∃a:Int,look 3 e=some (.int .u32 a)∧mxF (l.drop i) a=mxF l.tail l[0])
  (fun _=>some (Rt.val (.int .u32 (mxF l.tail l[0])))) ?_ ?_ 1 _ 0 (by omega) (Nat.zero_le _) ?_
 ·rintro i e n L hi hL _ ⟨h0,h4,a,h3,hm⟩ ih;have hw:IntKind.wrap .i64 ((i:Int)+1)=((i+1:Nat):Int):=qac (by omega) (by omega);rw [List.drop_eq_getElem_cons hi] at hm;simp only [mxF] at hm;generalize hX:some (Rt.val (AV.int .u32 (mxF l.tail l[0])))=X;simp [c_151_l0,c32,h0,h4,h3,hi,hw];rw [← hX];exact ih _ _ (Nat.zero_le _) ⟨by simp [h0],by simp,max a l[i],by simp;split<;>omega,hm⟩
 ·rintro e n L hL _ ⟨h0,h4,a,h3,hm⟩;rw [List.drop_length] at hm;simp only [mxF] at hm;rw [← hm];simp [c_151_l0,c_151_k1,h0,h4,h3,hL]
 ·simp
def szG (p:Prg) (rs:List (List Int)) (i:Nat):Option Int:=match rs[i]?,p.registers[i]? with
 | some l,some r=>if (l.length:Int)=r.size then none else some 2
 | _,_=>none
def vlG (p:Prg) (rs:List (List Int)) (i:Nat):Option Int:=match rs[i]?,p.registers[i]? with
 | some l,some r=>if l.any (fun v=>decide (qbe r.width<v))=true then some 9 else none
 | _,_=>none
def conE (p:Prg) (rs:List (List Int)):Int:=if rs.length≠p.registers.length then 2 else (fe (szG p rs) rs.length 0).getD ((fe (vlG p rs) rs.length 0).getD 0)
theorem con_b (p:Prg) (f:PrgS p) (rs:List (List Int)) (hl:rs.length<2^40) (hs:∀l∈rs,l.length<2^40) (hz:rs.length=p.registers.length) (e:Env) (n:Nat)
  (h1:look 1 e=some (.slice 1 (rs.map (cS 1 c32)))) (h2:look 2 e=some (.iptr 9 [Prg.c p] 0 0)):
  go Φ (finP [.tmp 4]) [.c c_65_k3] .normal ⟨e,⟨[],n⟩⟩=some (.val (.int .i64 ((fe (vlG p rs) rs.length 0).getD 0))):=by
 simp [c_65_k3,h1];refine qaw rs.length (fun _=>[]) 0 (fun i e=>look 2 e=some (.iptr 9 [Prg.c p] 0 0)∧look 32 e=some (.slice 1 (rs.map (cS 1 c32)))∧look 33 e=some (.int .i64 rs.length)∧look 34 e=some (.int .i64 i))
  (fun i=>some (Rt.val (.int .i64 ((fe (vlG p rs) rs.length i).getD 0)))) ?_ ?_ 0 _ n (Nat.zero_le _) (Nat.zero_le _) ?_
 ·rintro i e n L hi hL _ ⟨h2,h32,h33,h34⟩ ih;have hw:IntKind.wrap .i64 ((i:Int)+1)=((i+1:Nat):Int):=qac (by omega) (by omega);have hi2:i<p.registers.length:=by omega
  have hm:=qf0 p.registers[i].width;rw [Prg.e] at h2;by_cases e0:rs[i].length=0
  ·have e1:rs[i]=[]:=List.eq_nil_of_length_eq_zero e0;rw [qap hi (by simp [vlG,hi,hi2,e1])];generalize hX:some (Rt.val (AV.int .i64 ((fe (vlG p rs) rs.length (i+1)).getD 0)))=X;simp [c_65_l1,cSe,h32,h33,h34,hi,hw,e1];rw [← hX];exact ih _ _ (Nat.zero_le _) ⟨by simp [h2,Prg.e],by simp [h32],by simp [h33],by simp⟩
  have e1:0<rs[i].length:=by omega
  have hx:=qagm rs[i] e1 (hs _ (List.getElem_mem hi));have hy:rs[i].any (fun v=>decide (qbe p.registers[i].width<v))=decide (qbe p.registers[i].width<mxF rs[i].tail rs[i][0]):=by
   rw [Bool.eq_iff_iff,decide_eq_true_eq,qx2,List.any_eq_true];have hd:rs[i]=rs[i][0]::rs[i].tail:=by
    have:=List.drop_eq_getElem_cons e1;simpa using this
   constructor
   ·rintro ⟨x,hx,hv⟩;rw [hd] at hx;rcases List.mem_cons.1 hx with rfl | hx
    ·exact .inl (of_decide_eq_true hv)
    ·exact .inr ⟨x,hx,of_decide_eq_true hv⟩
   ·rintro (h | ⟨x,hx,hv⟩)
    ·exact ⟨_,List.getElem_mem e1,decide_eq_true h⟩
    ·exact ⟨x,List.mem_of_mem_tail hx,decide_eq_true hv⟩
  by_cases v:qbe p.registers[i].width<mxF rs[i].tail rs[i][0]
  ·rw [qai (x:=(9:Int)) hi (by simp only [vlG,List.getElem?_eq_getElem hi,List.getElem?_eq_getElem hi2];rw [hy,if_pos (decide_eq_true v)])];simp [c_65_l1,cSe,Register.e,h2,h32,h33,h34,hi,hi2,e1,hx,hm,v]
  ·rw [qap hi (by simp only [vlG,List.getElem?_eq_getElem hi,List.getElem?_eq_getElem hi2];rw [hy,if_neg (by simpa using v)])];generalize hX:some (Rt.val (AV.int .i64 ((fe (vlG p rs) rs.length (i+1)).getD 0)))=X;simp [c_65_l1,cSe,Register.e,h2,h32,h33,h34,hi,hi2,e1,hx,hm,v,hw];rw [← hX];exact ih _ _ (Nat.zero_le _) ⟨by simp [h2,Prg.e],by simp [h32],by simp [h33],by simp⟩
 ·rintro e n L hL _ ⟨h2,h32,h33,h34⟩;rw [qa0];simp [c_65_l1,c_65_k2,h33,h34,hL]
 ·simp [h2]
theorem qacm (p:Prg) (f:PrgS p) (rs:List (List Int)) (hl:rs.length<2^40) (hs:∀l∈rs,l.length<2^40):qab Φ f_65 [.agg (Prg.c p),.slice 1 (rs.map (cS 1 c32))]=some (.val (.int .i64 (conE p rs))):=by
 rw [qaa (fn:=c_65) rfl rfl];unfold conE;by_cases z:rs.length=p.registers.length
 rotate_left
 ·simp [c_65,Prg.e,z]
 rw [if_neg (by simpa using z)];generalize hY:some (Rt.val (AV.int .i64 ((fe (szG p rs) rs.length 0).getD ((fe (vlG p rs) rs.length 0).getD 0))))=Y;simp [c_65,Prg.e,z];rw [← hY];refine qaw rs.length (fun _=>[]) 0 (fun i e=>look 1 e=some (.slice 1 (rs.map (cS 1 c32)))∧look 2 e=some (.iptr 9 [Prg.c p] 0 0)∧look 15 e=some (.slice 1 (rs.map (cS 1 c32)))∧look 16 e=some (.int .i64 rs.length)∧look 17 e=some (.int .i64 i))
  (fun i=>some (Rt.val (.int .i64 ((fe (szG p rs) rs.length i).getD ((fe (vlG p rs) rs.length 0).getD 0))))) ?_ ?_ 0 _ 0 (Nat.zero_le _) (Nat.zero_le _) ?_
 ·rintro i e n L hi hL _ ⟨h1,h2,h15,h16,h17⟩ ih;have hw:IntKind.wrap .i64 ((i:Int)+1)=((i+1:Nat):Int):=qac (by omega) (by omega);have hi2:i<p.registers.length:=by omega
  rw [Prg.e] at h2;by_cases v:(rs[i].length:Int)=p.registers[i].size
  ·rw [qap hi (by simp [szG,hi,hi2,v])];generalize hX:some (Rt.val (AV.int .i64 ((fe (szG p rs) rs.length (i+1)).getD ((fe (vlG p rs) rs.length 0).getD 0))))=X;simp [c_65_l0,cSe,Register.e,h2,h15,h16,h17,hi,hi2,v,hw];rw [← hX];exact ih _ _ (Nat.zero_le _) ⟨by simp [h1],by simp [h2,Prg.e],by simp [h15],by simp [h16],by simp⟩
  ·rw [qai (x:=(2:Int)) hi (by simp [szG,hi,hi2,v])];simp [c_65_l0,cSe,Register.e,h2,h15,h16,h17,hi,hi2,v]
 ·rintro e n L hL _ ⟨h1,h2,h15,h16,h17⟩;rw [qa0];generalize hX:some (Rt.val (AV.int .i64 ((none:Option Int).getD ((fe (vlG p rs) rs.length 0).getD 0))))=X;simp [c_65_l0,h16,h17,hL];rw [← hX];exact con_b p f rs hl hs z _ _ (by simp [h1]) (by simp [h2])
 ·simp [Prg.e,z]
def wd (w:Int):Nat:=if wBad w then 0 else w.toNat
theorem wd_le (w:Int):wd w≤32:=by
 unfold wd;cases q:wBad w with
 | true=>simp
 | false=>
  obtain ⟨w1,w2⟩:=wBad_false.1 q;simp;omega
theorem qsc (w v:Int):qbe w<v↔¬v<2^wd w:=by
 unfold qbe wd;cases q:wBad w with
 | true=>simp;omega
 | false=>simp;omega
theorem qahq (r:Register):qab Φ f_158 [.agg (Register.c r)]=some (.val (.int .i64 (wd r.width))):=by
 rw [qaa (fn:=c_158) rfl rfl];by_cases h1:r.width<1
 ·simp [c_158,Register.e,h1,wd,wBad]
 by_cases h2:32<r.width
 ·simp [c_158,Register.e,h1,h2,wd,wBad]
 simp [c_158,Register.e,h1,h2,wd,wBad];omega
theorem qag0 (p:Prg) (rs:List (List Int)) (hl:rs.length<2^40) (hs:∀l∈rs,l.length<2^40∧∀v∈l,ok32 0 v) (hz:rs.length=p.registers.length) (e:Env) (n:Nat)
  (h1:look 1 e=some (.slice 1 (rs.map (cS 1 c32)))) (h2:look 2 e=some (.iptr 9 [Prg.c p] 0 0)):
  go Φ (finP [.tmp 4]) [.c c_69_k5] .normal ⟨e,⟨[],n⟩⟩=some (.val (.int .i64 ((fe (vlG p rs) rs.length 0).getD 0))):=by
 simp [c_69_k5];refine qaw rs.length (fun _=>[]) 0 (fun i e=>look 1 e=some (.slice 1 (rs.map (cS 1 c32)))∧look 2 e=some (.iptr 9 [Prg.c p] 0 0)∧look 6 e=some (.int .i64 i))
  (fun i=>some (Rt.val (.int .i64 ((fe (vlG p rs) rs.length i).getD 0)))) ?_ ?_ 0 _ n (Nat.zero_le _) (Nat.zero_le _) ?_
 ·rintro i e n L hi hL _ ⟨h1,h2,h6⟩ ih;have hw:IntKind.wrap .i64 ((i:Int)+1)=((i+1:Nat):Int):=qac (by omega) (by omega);have hi2:i<p.registers.length:=by omega
  have hm:=hs _ (List.getElem_mem hi);have hwd:=qahq p.registers[i];simp only [Register.e] at hwd;have hV:fe (vlG p rs) rs.length i=if rs[i].any (fun v=>decide (qbe p.registers[i].width<v))=true then some 9 else fe (vlG p rs) rs.length (i+1):=by
   by_cases y:rs[i].any (fun v=>decide (qbe p.registers[i].width<v))=true
   ·rw [if_pos y];exact qai hi (by simp only [vlG,List.getElem?_eq_getElem hi,List.getElem?_eq_getElem hi2];rw [if_pos y])
   ·rw [if_neg y];exact qap hi (by simp only [vlG,List.getElem?_eq_getElem hi,List.getElem?_eq_getElem hi2];rw [if_neg y])
  generalize hX:some (Rt.val (AV.int .i64 ((fe (vlG p rs) rs.length (i+1)).getD 0)))=X at ih;generalize hY:some (Rt.val (AV.int .i64 ((fe (vlG p rs) rs.length i).getD 0)))=Y;have hYX:Y=if rs[i].any (fun v=>decide (qbe p.registers[i].width<v))=true then some (Rt.val (AV.int .i64 9)) else X:=by
   rw [← hY,← hX,hV];split<;>rfl
  simp [c_69_l3,h1,h6,hi];refine (qaw rs[i].length (fun _=>[]) 0 (fun j e=>look 1 e=some (.slice 1 (rs.map (cS 1 c32)))∧look 2 e=some (.iptr 9 [Prg.c p] 0 0)∧look 6 e=some (.int .i64 i)∧look 7 e=some (.int .i64 j))
   (fun j=>if (rs[i].drop j).any (fun v=>decide (qbe p.registers[i].width<v))=true then some (Rt.val (AV.int .i64 9)) else X) ?_ ?_ 0 _ n (Nat.zero_le _) (Nat.zero_le _) ?_).trans (by rw [hYX,List.drop_zero])
  ·rintro j e n L' hj hL' _ ⟨h1,h2,h6,h7⟩ ih';have hw':IntKind.wrap .i64 ((j:Int)+1)=((j+1:Nat):Int):=qac (by omega) (by omega);have hf:=qke rs[i][j] (hm.2 _ (List.getElem_mem hj)) (wd p.registers[i].width) (wd_le _);rw [Prg.e] at h2;rw [List.drop_eq_getElem_cons hj,List.any_cons];by_cases v:rs[i][j]<2^wd p.registers[i].width
   ·rw [decide_eq_true v] at hf;rw [show decide (qbe p.registers[i].width<rs[i][j])=false from decide_eq_false fun h=>(qsc _ _).1 h v,Bool.false_or];generalize hZ:(if (rs[i].drop (j+1)).any (fun v=>decide (qbe p.registers[i].width<v))=true then some (Rt.val (AV.int .i64 9)) else X)=Z;simp [c_69_l1,cSe,c32,Register.e,h1,h2,h6,h7,hi,hi2,hj,hwd,hf,hw'];rw [← hZ];exact ih' _ _ (Nat.zero_le _) ⟨by simp [h1],by simp [h2,Prg.e],by simp [h6],by simp⟩
   ·rw [decide_eq_false v] at hf;rw [show decide (qbe p.registers[i].width<rs[i][j])=true from decide_eq_true ((qsc _ _).2 v),Bool.true_or,if_pos rfl];simp [c_69_l1,cSe,c32,Register.e,h1,h2,h6,h7,hi,hi2,hj,hwd,hf]
  ·rintro e n L' hL' _ ⟨h1,h2,h6,h7⟩;rw [List.drop_length,List.any_nil,if_neg (by decide)];simp [c_69_l1,cSe,h1,h6,h7,hi,hL',c_69_k2,hw];exact ih _ _ (Nat.zero_le _) ⟨by simp [h1],by simp [h2],by simp⟩
  ·simp [h1,h2,h6]
 ·rintro e n L hL _ ⟨h1,h2,h6⟩;rw [qa0];simp [c_69_l3,c_69_k4,h1,h6,hL]
 ·simp [h1,h2]
theorem qaan (p:Prg) (rs:List (List Int)) (hl:rs.length<2^40) (hs:∀l∈rs,l.length<2^40∧∀v∈l,ok32 0 v):qab Φ f_69 [.agg (Prg.c p),.slice 1 (rs.map (cS 1 c32))]=some (.val (.int .i64 (conE p rs))):=by
 rw [qaa (fn:=c_69) rfl rfl];unfold conE;by_cases z:rs.length=p.registers.length
 rotate_left
 ·simp [c_69,Prg.e,z]
 rw [if_neg (by simpa using z)];generalize hY:some (Rt.val (AV.int .i64 ((fe (szG p rs) rs.length 0).getD ((fe (vlG p rs) rs.length 0).getD 0))))=Y;simp [c_69,Prg.e,z];rw [← hY];refine qaw rs.length (fun _=>[]) 0 (fun i e=>look 1 e=some (.slice 1 (rs.map (cS 1 c32)))∧look 2 e=some (.iptr 9 [Prg.c p] 0 0)∧look 5 e=some (.int .i64 i))
  (fun i=>some (Rt.val (.int .i64 ((fe (szG p rs) rs.length i).getD ((fe (vlG p rs) rs.length 0).getD 0))))) ?_ ?_ 0 _ 0 (Nat.zero_le _) (Nat.zero_le _) ?_
 ·rintro i e n L hi hL _ ⟨h1,h2,h5⟩ ih;have hw:IntKind.wrap .i64 ((i:Int)+1)=((i+1:Nat):Int):=qac (by omega) (by omega);have hi2:i<p.registers.length:=by omega
  rw [Prg.e] at h2;by_cases v:(rs[i].length:Int)=p.registers[i].size
  ·rw [qap hi (by simp [szG,hi,hi2,v])];generalize hX:some (Rt.val (AV.int .i64 ((fe (szG p rs) rs.length (i+1)).getD ((fe (vlG p rs) rs.length 0).getD 0))))=X;simp [c_69_l0,cSe,Register.e,h1,h2,h5,hi,hi2,v,hw];rw [← hX];exact ih _ _ (Nat.zero_le _) ⟨by simp [h1],by simp [h2,Prg.e],by simp⟩
  ·rw [qai (x:=(2:Int)) hi (by simp [szG,hi,hi2,v])];simp [c_69_l0,cSe,Register.e,h1,h2,h5,hi,hi2,v]
 ·rintro e n L hL _ ⟨h1,h2,h5⟩;rw [qa0];generalize hX:some (Rt.val (AV.int .i64 ((none:Option Int).getD ((fe (vlG p rs) rs.length 0).getD 0))))=X;simp [c_69_l0,h1,h5,hL];rw [← hX];exact qag0 p rs hl hs z _ _ (by simp [h1]) (by simp [h2])
 ·simp [Prg.e]
structure CfgT (a:Config):Prop where
 rl:a.rows.length<2^40
 rs:∀l∈a.rows,l.length<2^40∧∀r∈l,rowS r
 nl:a.nextID.length<2^40
 dl:a.defaults.length<2^40
 ds:∀d∈a.defaults,d.args.length<2^40∧∀v∈d.args,ok32 0 v
 gl:a.registers.length<2^40
 gs:∀l∈a.registers,l.length<2^40∧∀v∈l,ok32 0 v
theorem qaeo {B:Nat} (hB:B<2^40) {r:Rw} (o:r.Ok B):rowS r:=by
 simp only [Rw.Ok,Entry.Ok,ActionCall.Ok] at o;obtain ⟨_,o1,_,_,o2⟩:=o;exact ⟨by have:=o1.1;omega,fun m hm=>o1.2 m hm,by have:=o2.1;omega,fun v hv=>o2.2 v hv⟩
theorem qabz {a:Config} (o:a.Ok qbd):CfgT a:=by
 obtain ⟨o0,o1,o2,o3⟩:=o;have e:=qdq;refine ⟨by have:=o0.1;omega,?_,by have:=o1.1;omega,by have:=o2.1;omega,?_,by have:=o3.1;omega,?_⟩
 ·intro l hl;have:=o0.2 l hl;exact ⟨by have:=this.1;omega,fun r hr=>qaeo (by omega) (this.2 r hr)⟩
 ·intro d hd;have:=o2.2 d hd;simp only [ActionCall.Ok] at this;exact ⟨by have:=this.2.1;omega,fun v hv=>this.2.2 v hv⟩
 ·intro l hl;have:=o3.2 l hl;exact ⟨by have:=this.1;omega,fun v hv=>this.2 v hv⟩
def rowE (p:Prg) (k:Nat) (tb:Tbl) (l:List Rw) (nx:Int) (z:Int):Int:=if tb.size<l.length then 12 else tabK p k l nx z (ordL l 0)
theorem qah0 (p:Prg) (t:Int) (l:List Rw) (nx z:Int) (o:Option Int):tabK p t l nx z o=if tabK p t l nx 0 o≠0 then tabK p t l nx 0 o else z:=by
 cases o with
 | none=>simp [tabK]
 | some a=>
  simp only [tabK];by_cases z0:nx≤a
  ·simp [z0]
  by_cases z1:1073741824<nx
  ·simp [z0,z1]
  simp only [if_neg z0,if_neg z1];cases q:fe (rowG p t l) l.length 0 with
  | none=>simp
  | some x=>
   have hx:x≠0:=by
    obtain ⟨k,hk,hx⟩:=qd7 q;simp only [rowG,Option.bind_eq_some_iff] at hx;obtain ⟨r,_,hr⟩:=hx;split at hr
    ·cases hr;assumption
    ·split at hr
     ·cases hr;decide
     ·cases hr
   simp [hx]
theorem qahm (p:Prg) (k:Nat) (tb:Tbl) (l:List Rw) (nx z:Int):rowE p k tb l nx z=if rowE p k tb l nx 0≠0 then rowE p k tb l nx 0 else z:=by
 unfold rowE;split
 ·simp
 ·exact qah0 _ _ _ _ _ _
def stG (p:Prg) (c:Config) (k:Nat):Option Int:=match p.tables[k]?,c.rows[k]?,c.nextID[k]?,c.defaults[k]? with
 | some tb,some l,some nx,some d=>if rowE p k tb l nx (qba p k d)=0 then none else some (rowE p k tb l nx (qba p k d))
 | _,_,_,_=>none
def cfgE (p:Prg) (c:Config):Int:=if (prgD p).1≠0 then (prgD p).1 else if c.rows.length≠p.tables.length∨c.nextID.length≠p.tables.length∨c.defaults.length≠p.tables.length then 2
 else (fe (stG p c) p.tables.length 0).getD (conE p c.registers)
theorem qach (p:Prg) (f:PrgS p) (hc:(pre p.control).length<2^40 - 1) (c:Config) (s:CfgT c):qab Φ f_17 [.agg (Prg.c p),.agg (Config.c c)]=some (.val (.int .i64 (cfgE p c))):=by
 rw [qaa (fn:=c_17) rfl rfl];have h:=qsj p f hc;simp only [Prg.e,dgC] at h;have ht:=f.t;by_cases z:(prgD p).1=0
 rotate_left
 ·simp [c_17,Prg.e,Config.ce,h,z,cfgE]
 by_cases z1:c.rows.length=p.tables.length
 rotate_left
 ·simp [c_17,Prg.e,Config.ce,h,z,z1,cfgE]
 by_cases z2:c.nextID.length=p.tables.length
 rotate_left
 ·simp [c_17,Prg.e,Config.ce,h,z,z1,z2,cfgE]
 by_cases z3:c.defaults.length=p.tables.length
 rotate_left
 ·simp [c_17,Prg.e,Config.ce,h,z,z1,z2,z3,cfgE]
 rw [show cfgE p c=(fe (stG p c) p.tables.length 0).getD (conE p c.registers) by simp [cfgE,z,z1,z2,z3]];simp [c_17,Prg.e,Config.ce,h,z,z1,z2,z3];refine qaw p.tables.length (fun _=>[]) 0 (fun i e=>look 2 e=some (.iptr 9 [Prg.c p] 0 0)∧look 3 e=some (.iptr 4 [Config.c c] 0 0)∧look 38 e=some (.int .i64 p.tables.length)∧look 39 e=some (.int .i64 i))
  (fun i=>some (Rt.val (.int .i64 ((fe (stG p c) p.tables.length i).getD (conE p c.registers))))) ?_ ?_ 0 _ _ (Nat.zero_le _) (Nat.zero_le _) ?_
 ·rintro i e n L hi hL _ ⟨h2,h3,h38,h39⟩ ih;have hw:IntKind.wrap .i64 ((i:Int)+1)=((i+1:Nat):Int):=qac (by omega) (by omega);have i1:i<c.rows.length:=by omega
  have i2:i<c.nextID.length:=by omega
  have i3:i<c.defaults.length:=by omega
  have hr:=s.rs _ (List.getElem_mem i1);have hd:=s.ds _ (List.getElem_mem i3);have hk:=qacp p f i hi c.rows[i] c.nextID[i] c.defaults[i] hr.1 hr.2 hd.1;rw [show (if p.tables[i].size<(c.rows[i].length:Int) then (12:Int) else tabK p i c.rows[i] c.nextID[i] (qba p i c.defaults[i]) (ordL c.rows[i] 0))=rowE p i p.tables[i] c.rows[i] c.nextID[i] (qba p i c.defaults[i]) from rfl] at hk;simp only [Prg.e,ActionCall.ce] at hk;rw [Prg.e] at h2;rw [Config.ce] at h3;by_cases v:rowE p i p.tables[i] c.rows[i] c.nextID[i] (qba p i c.defaults[i])=0
  ·rw [qap hi (by simp [stG,hi,i1,i2,i3,v])];rw [v] at hk;generalize hX:some (Rt.val (AV.int .i64 ((fe (stG p c) p.tables.length (i+1)).getD (conE p c.registers))))=X;simp [c_17_l0,cSe,cI,ActionCall.ce,h2,h3,h38,h39,hi,i1,i2,i3,hk,hw];rw [← hX];exact ih _ _ (Nat.zero_le _) ⟨by simp [h2,Prg.e],by simp [h3,Config.ce],by simp [h38],by simp⟩
  ·rw [qai (x:=rowE p i p.tables[i] c.rows[i] c.nextID[i] (qba p i c.defaults[i])) hi (by simp [stG,hi,i1,i2,i3,v])];simp [c_17_l0,cSe,cI,ActionCall.ce,h2,h3,h38,h39,hi,i1,i2,i3,hk,v]
 ·rintro e n L hL _ ⟨h2,h3,h38,h39⟩;have hk:=qacm p f c.registers s.gl fun l hl=>(s.gs l hl).1
  simp only [Prg.e] at hk;rw [Prg.e] at h2;rw [Config.ce] at h3;rw [qa0];simp [c_17_l0,c_17_k1,h2,h3,h38,h39,hL,hk]
 ·simp [Prg.e,Config.ce]
theorem qaam (p:Prg) (f:PrgS p) (hv:∀t∈p.tables,∀v∈t.dflt.args,ok32 0 v) (hc:(pre p.control).length<2^40 - 1) (c:Config) (s:CfgT c):qab Φ f_19 [.agg (Prg.c p),.agg (Config.c c)]=some (.val (.int .i64 (cfgE p c))):=by
 rw [qaa (fn:=c_19) rfl rfl];have h:=qq0 p f hv hc;simp only [Prg.e,dgC] at h;have ht:=f.t;by_cases z:(prgD p).1=0
 rotate_left
 ·simp [c_19,Prg.e,Config.ce,h,z,cfgE]
 by_cases z1:c.rows.length=p.tables.length
 rotate_left
 ·simp [c_19,Prg.e,Config.ce,h,z,z1,cfgE]
 by_cases z2:c.nextID.length=p.tables.length
 rotate_left
 ·simp [c_19,Prg.e,Config.ce,h,z,z1,z2,cfgE]
 by_cases z3:c.defaults.length=p.tables.length
 rotate_left
 ·simp [c_19,Prg.e,Config.ce,h,z,z1,z2,z3,cfgE]
 rw [show cfgE p c=(fe (stG p c) p.tables.length 0).getD (conE p c.registers) by simp [cfgE,z,z1,z2,z3]];simp [c_19,Prg.e,Config.ce,h,z,z1,z2,z3];refine qaw p.tables.length (fun _=>[]) 0 (fun i e=>look 2 e=some (.iptr 9 [Prg.c p] 0 0)∧look 3 e=some (.iptr 4 [Config.c c] 0 0)∧look 5 e=some (.int .i64 p.tables.length)∧look 6 e=some (.int .i64 i))
  (fun i=>some (Rt.val (.int .i64 ((fe (stG p c) p.tables.length i).getD (conE p c.registers))))) ?_ ?_ 0 _ _ (Nat.zero_le _) (Nat.zero_le _) ?_
 ·rintro i e n L hi hL _ ⟨h2,h3,h5,h6⟩ ih;have hw:IntKind.wrap .i64 ((i:Int)+1)=((i+1:Nat):Int):=qac (by omega) (by omega);have i1:i<c.rows.length:=by omega
  have i2:i<c.nextID.length:=by omega
  have i3:i<c.defaults.length:=by omega
  have hr:=s.rs _ (List.getElem_mem i1);have hd:=s.ds _ (List.getElem_mem i3);have hk:=qaa3 p f hv i hi c.rows[i] c.nextID[i] hr.1 hr.2;have hq:=qna p f hv i c.defaults[i] hd.1 hd.2;rw [show (if p.tables[i].size<(c.rows[i].length:Int) then (12:Int) else tabK p i c.rows[i] c.nextID[i] 0 (ordL c.rows[i] 0))=rowE p i p.tables[i] c.rows[i] c.nextID[i] 0 from rfl] at hk;simp only [Prg.e,ActionCall.ce] at hk hq;rw [Prg.e] at h2;rw [Config.ce] at h3;have hz:=qahm p i p.tables[i] c.rows[i] c.nextID[i] (qba p i c.defaults[i]);by_cases v:rowE p i p.tables[i] c.rows[i] c.nextID[i] 0=0
  ·rw [if_neg (by simpa using v)] at hz;rw [v] at hk;by_cases w:qba p i c.defaults[i]=0
   ·rw [qap hi (by simp [stG,hi,i1,i2,i3,w,v])];rw [w] at hq;generalize hX:some (Rt.val (AV.int .i64 ((fe (stG p c) p.tables.length (i+1)).getD (conE p c.registers))))=X;simp [c_19_l0,cSe,cI,ActionCall.ce,h2,h3,h5,h6,hi,i1,i2,i3,hk,hq,hw];rw [← hX];exact ih _ _ (Nat.zero_le _) ⟨by simp [h2,Prg.e],by simp [h3,Config.ce],by simp [h5],by simp⟩
   ·rw [qai (x:=qba p i c.defaults[i]) hi (by simp [stG,hi,i1,i2,i3,hz,w])];simp [c_19_l0,cSe,cI,ActionCall.ce,h2,h3,h5,h6,hi,i1,i2,i3,hk,hq,w]
  ·rw [if_pos v] at hz;rw [qai (x:=rowE p i p.tables[i] c.rows[i] c.nextID[i] 0) hi (by simp [stG,hi,i1,i2,i3,hz,v])];simp [c_19_l0,cSe,cI,h2,h3,h5,h6,hi,i1,i2,hk,v]
 ·rintro e n L hL _ ⟨h2,h3,h5,h6⟩;have hk:=qaan p c.registers s.gl s.gs;simp only [Prg.e] at hk;rw [Prg.e] at h2;rw [Config.ce] at h3;rw [qa0];simp [c_19_l0,c_19_k1,h2,h3,h5,h6,hL,hk]
 ·simp [Prg.e,Config.ce]
structure TabV (p:Prg) (k:Nat) (tb:Tbl) (l:List Rw) (nx:Int) (d:ActionCall):Prop where
 size:(l.length:Int)≤tb.size
 pos:∀r∈l,0<r.id
 lt:∀r∈l,r.id<nx
 inc:l.Pairwise (fun a b=>a.id<b.id)
 nx0:0<nx
 nx1:nx≤1073741824
 ent:∀r∈l,entE p k r.entry=0
 uniq:l.Pairwise (fun a b=>sk a.entry b.entry=false)
 dflt:qba p k d=0
theorem qsi (nx:Int):∀(l:List Rw) (a:Int),(∃b,ordL l a=some b∧b<nx)↔a<nx∧(∀r∈l,a<r.id∧r.id<nx)∧l.Pairwise (fun a b=>a.id<b.id)
 | [],a=>by simp [ordL]
 | r::l,a=>by
  have ih:=qsi nx l r.id;simp only [ordL];by_cases h:r.id≤a
  ·rw [if_pos h];constructor
   ·rintro ⟨b,hb,_⟩;cases hb
   ·rintro ⟨_,h2,_⟩;have:=(h2 r (by simp)).1;omega
  ·rw [if_neg h,ih,List.pairwise_cons];constructor
   ·rintro ⟨h1,h2,h3⟩;refine ⟨by omega,?_,fun x hx=>(h2 x hx).1,h3⟩;intro x hx;rcases List.mem_cons.1 hx with rfl | hx
    ·exact ⟨by omega,h1⟩
    ·have:=h2 x hx;exact ⟨by omega,this.2⟩
   ·rintro ⟨h1,h2,h3,h4⟩;exact ⟨(h2 r (by simp)).2,fun x hx=>⟨h3 x hx,(h2 x (by simp [hx])).2⟩,h4⟩
theorem qym (p:Prg) (t:Int) (l:List Rw):(∀i,i<l.length→rowG p t l i=none)↔(∀r∈l,entE p t r.entry=0)∧l.Pairwise (fun a b=>sk a.entry b.entry=false):=by
 have key:∀i (hi:i<l.length),rowG p t l i=none↔entE p t l[i].entry=0∧∀j (hj:j<i),sk l[j].entry l[i].entry=false:=by
  intro i hi;simp only [rowG,List.getElem?_eq_getElem hi,Option.bind_some];by_cases h:entE p t l[i].entry=0
  ·rw [if_neg (by simpa using h)];have:((l.take i).any fun y=>sk y.entry l[i].entry)=true↔¬∀j (hj:j<i),sk l[j].entry l[i].entry=false:=by
    rw [List.any_eq_true];constructor
    ·rintro ⟨y,hy,hs⟩ hc;obtain ⟨j,hj,rfl⟩:=List.mem_iff_getElem.1 hy;simp at hj;have:=hc j (by omega);simp only [List.getElem_take] at hs;rw [this] at hs;cases hs
    ·intro hc;simp only [Classical.not_forall] at hc;obtain ⟨j,hj,hs⟩:=hc;refine ⟨l[j],?_,by simpa using hs⟩;rw [List.mem_take_iff_getElem];exact ⟨j,by omega,rfl⟩
   by_cases hu:∀j (hj:j<i),sk l[j].entry l[i].entry=false
   ·rw [if_neg (by rw [this];exact fun hc=>hc hu)];simp [h];exact hu
   ·rw [if_pos (this.2 hu)];simp [h];simpa using hu
  ·rw [if_pos h];simp [h]
 constructor
 ·intro h;refine ⟨?_,?_⟩
  ·intro r hr;obtain ⟨i,hi,rfl⟩:=List.mem_iff_getElem.1 hr;exact ((key i hi).1 (h i hi)).1
  ·rw [List.pairwise_iff_getElem];intro i j hi hj hij;exact ((key j hj).1 (h j hj)).2 i hij
 ·rintro ⟨h1,h2⟩ i hi;rw [key i hi];refine ⟨h1 _ (List.getElem_mem hi),?_⟩;intro j hj;exact List.pairwise_iff_getElem.1 h2 j i (by omega) hi hj
theorem qaen (p:Prg) (t:Int) (l:List Rw) {i:Nat} {x:Int} (h:rowG p t l i=some x):x≠0:=by
 simp only [rowG,Option.bind_eq_some_iff] at h;obtain ⟨r,_,hr⟩:=h;split at hr
 ·cases hr;assumption
 ·split at hr
  ·cases hr;decide
  ·cases hr
theorem qqi (p:Prg) (k:Nat) (tb:Tbl) (l:List Rw) (nx:Int) (d:ActionCall):rowE p k tb l nx (qba p k d)=0↔TabV p k tb l nx d:=by
 have hI:=qsi nx l 0;have hG:=qym p k l;rw [← fe_all] at hG;unfold rowE;by_cases h:tb.size<(l.length:Int)
 ·rw [if_pos h];constructor
  ·intro hc;cases hc
  ·intro hv;have:=hv.size;omega
 rw [if_neg h];cases ho:ordL l 0 with
 | none=>
  rw [ho] at hI;simp only [tabK];constructor
  ·intro hc;cases hc
  ·intro hv;obtain ⟨b,hb,_⟩:=hI.2 ⟨hv.nx0,fun r hr=>⟨hv.pos r hr,hv.lt r hr⟩,hv.inc⟩;cases hb
 | some a=>
  rw [ho] at hI;simp only [tabK];by_cases h1:nx≤a
  ·rw [if_pos h1];constructor
   ·intro hc;cases hc
   ·intro hv;obtain ⟨b,hb,h2⟩:=hI.2 ⟨hv.nx0,fun r hr=>⟨hv.pos r hr,hv.lt r hr⟩,hv.inc⟩;cases hb;omega
  rw [if_neg h1];have hJ:=hI.1 ⟨a,rfl,by omega⟩;by_cases h2:1073741824<nx
  ·rw [if_pos h2];constructor
   ·intro hc;cases hc
   ·intro hv;have:=hv.nx1;omega
  rw [if_neg h2];cases hf:fe (rowG p k l) l.length 0 with
  | some x=>
   have hx:x≠0:=by
    obtain ⟨i,_,hx⟩:=qd7 hf;exact qaen p k l hx
   rw [hf] at hG;simp only [Option.getD_some];constructor
   ·intro hc;exact absurd hc hx
   ·intro hv;have:=hG.2 ⟨hv.ent,hv.uniq⟩;cases this
  | none=>
   have hq:=hG.1 hf;simp only [Option.getD_none];constructor
   ·intro hc;exact ⟨by omega,fun r hr=>(hJ.2.1 r hr).1,fun r hr=>(hJ.2.1 r hr).2,hJ.2.2,hJ.1,by omega,hq.1,hq.2,hc⟩
   ·intro hv;exact hv.dflt
structure CfgV (p:Prg) (c:Config):Prop where
 prg:(prgD p).1=0
 rl:c.rows.length=p.tables.length
 nl:c.nextID.length=p.tables.length
 dl:c.defaults.length=p.tables.length
 tab:∀k tb l nx d,p.tables[k]? =some tb→c.rows[k]? =some l→c.nextID[k]? =some nx→c.defaults[k]? =some d→TabV p k tb l nx d
 con:conE p c.registers=0
theorem qahx (p:Prg) (c:Config) {k:Nat} {x:Int} (h:stG p c k=some x):x≠0:=by
 unfold stG at h;split at h
 ·split at h
  ·cases h
  ·cases h;assumption
 ·cases h
theorem qft (p:Prg) (c:Config):cfgE p c=0↔CfgV p c:=by
 unfold cfgE;by_cases h:(prgD p).1=0
 rotate_left
 ·rw [if_pos h];exact ⟨fun hc=>absurd hc h,fun hv=>absurd hv.prg h⟩
 rw [if_neg (by simpa using h)];by_cases hl:c.rows.length≠p.tables.length∨c.nextID.length≠p.tables.length∨c.defaults.length≠p.tables.length
 ·rw [if_pos hl];constructor
  ·intro hc;cases hc
  ·intro hv;have:=hv.rl;have:=hv.nl;have:=hv.dl;omega
 rw [if_neg hl];have l1:c.rows.length=p.tables.length:=by omega
 have l2:c.nextID.length=p.tables.length:=by omega
 have l3:c.defaults.length=p.tables.length:=by omega
 cases hf:fe (stG p c) p.tables.length 0 with
 | some x=>
  obtain ⟨k,hk,hx⟩:=qd7 hf;simp only [Option.getD_some];constructor
  ·intro hc;exact absurd hc (qahx p c hx)
  ·intro hv;have hq:stG p c k=none:=by
    unfold stG;split
    ·rename_i tb l nx d e1 e2 e3 e4;rw [if_pos ((qqi p k tb l nx d).2 (hv.tab k tb l nx d e1 e2 e3 e4))]
    ·rfl
   rw [hq] at hx;cases hx
 | none=>
  simp only [Option.getD_none];have ha:=fe_all.1 hf;constructor
  ·intro hc;refine ⟨h,l1,l2,l3,?_,hc⟩;intro k tb l nx d e1 e2 e3 e4;have hk:=(List.getElem?_eq_some_iff.1 e1).1;have hq:=ha k hk;simp only [stG,e1,e2,e3,e4] at hq;split at hq
   ·rename_i hz;exact (qqi p k tb l nx d).1 hz
   ·cases hq
  ·intro hv;exact hv.con
end Go.Av
