/-
 Contents of registers: checks, on both sides.
-/
import Derived.Test.YtakklbipljodeaaGreatE1K
set_option linter.unusedVariables false
set_option linter.unusedSimpArgs false
set_option linter.constructorNameAsVariable false
namespace Go.Av
set_option maxRecDepth 4000
@[simp] theorem dropl_nil {α:Type} (t:Nat):qcb t ([]:List (Nat×α))=[]:=Eq.trans (Eq.refl []) (Eq.refl [])
def mxF:List Int->Int->Int
 | [],a=>a
 | x::r,a=>mxF r (max a x)
theorem qaal (M:Int):∀(l:List Int) (a:Int),M<mxF l a↔M<a\/∃x∈l,M<x
 | [],a=>by simp [mxF]
 | x::r,a=>by
  have ih:=qaal M r (max a x);simp only [mxF,ih,List.mem_cons,exists_eq_or_imp];constructor
  ·rintro (h | h)
   ·by_cases q:M<a
    ·exact .inl q
    ·exact .inr (.inl (by omega))
   ·exact .inr (.inr h)
  ·rintro (h | h | h)
   ·exact .inl (by omega)
   ·exact .inl (by omega)
   ·exact .inr h
theorem qaib (l:List Int) (h0:0<l.length) (hl:l.length<2^40):qab Φ f_151 [.slice 1 (l.map c32)]=some (.val (.int .u32 (mxF l.tail l[0]))):=by
 rw [qaa (fn:=c_151) rfl rfl];have h1:¬(l.length:Int)<1:=by omega
 simp [c_151,h0,h1,c32];refine qay l.length (fun _=>[]) 0 (fun i e=>look 0 e=some (.slice 1 (l.map c32))/\look 4 e=some (.int .i64 i)/\∃a:Int,look 3 e=some (.int .u32 a)/\mxF (l.drop i) a=mxF l.tail l[0])
  (fun _=>some (Rt.val (.int .u32 (mxF l.tail l[0])))) ?_ ?_ 1 _ 0 (by omega) (Qc _) ?_
 ·rintro i e n L hi hL _ ⟨h0,h4,a,h3,hm⟩ ih;have hw:=qaf i (by omega);rw [Qi hi] at hm;simp only [mxF] at hm;generalize hX:some (Rt.val (AV.int .u32 (mxF l.tail l[0])))=X;simp [c_151_l0,c32,h0,h4,h3,hi,hw];rw [<- hX];exact ih _ _ (Qc _) ⟨by simp [h0],by simp,max a l[i],by simp;split<;>omega,hm⟩
 ·rintro e n L hL _ ⟨h0,h4,a,h3,hm⟩;rw [List.drop_length] at hm;simp only [mxF] at hm;rw [<- hm];simp [c_151_l0,c_151_k1,h0,h4,h3,hL]
 ·simp
def szG (p:Prg) (rs:List (List Int)) (i:Nat):Option Int:=match rs[i]?,p.registers[i]? with
 | some l,some r=>if (l.length:Int)=r.size then none else some 2
 | _,_=>none
def vlG (p:Prg) (rs:List (List Int)) (i:Nat):Option Int:=match rs[i]?,p.registers[i]? with
 | some l,some r=>if l.any (fun v=>decide (qbe r.width<v))=true then some 9 else none
 | _,_=>none
def conE (p:Prg) (rs:List (List Int)):Int:=if rs.length≠p.registers.length then 2 else (fe (szG p rs) rs.length 0).getD ((fe (vlG p rs) rs.length 0).getD 0)
theorem con_b (p:Prg) (f:PrgS p) (rs:List (List Int)) (hl:rs.length<2^40) (hs:∀l∈rs,l.length<2^40) (hz:rs.length=p.registers.length) (e:Env) (n:Nat)
  (h1:look 1 e=some (.slice 1 (rs.map (cS 1 c32)))) (h2:look 2 e=some (.iptr 9 [Prg.c p] 0 0)):
  go Φ (finP [.tmp 4]) [.c c_65_k3] .normal ⟨e,⟨[],n⟩⟩=some (.val (.int .i64 ((fe (vlG p rs) rs.length 0).getD 0))):=by
 simp [c_65_k3,h1];refine qay rs.length (fun _=>[]) 0 (fun i e=>look 2 e=some (.iptr 9 [Prg.c p] 0 0)/\look 32 e=some (.slice 1 (rs.map (cS 1 c32)))/\look 33 e=some (.int .i64 rs.length)/\look 34 e=some (.int .i64 i))
  (fun i=>some (Rt.val (.int .i64 ((fe (vlG p rs) rs.length i).getD 0)))) ?_ ?_ 0 _ n (Qc _) (Qc _) ?_
 ·rintro i e n L hi hL _ ⟨h2,h32,h33,h34⟩ ih;have hw:=qaf i (by omega);have hi2:i<p.registers.length:=by omega
  have hm:=qf6 p.registers[i].width;rw [Prg.e] at h2;by_cases e0:rs[i].length=0
  ·have e1:rs[i]=[]:=Qg e0;rw [qao hi (by simp [vlG,hi,hi2,e1])];generalize hX:some (Rt.val (AV.int .i64 ((fe (vlG p rs) rs.length (i+1)).getD 0)))=X;simp [c_65_l1,cSe,h32,h33,h34,hi,hw,e1];rw [<- hX];exact ih _ _ (Qc _) ⟨by simp [h2,Prg.e],by simp [h32],by simp [h33],by simp⟩
  have e1:0<rs[i].length:=by omega
  have hx:=qaib rs[i] e1 (hs _ (Qd hi));have hy:rs[i].any (fun v=>decide (qbe p.registers[i].width<v))=decide (qbe p.registers[i].width<mxF rs[i].tail rs[i][0]):=by
   rw [Bool.eq_iff_iff,decide_eq_true_eq,qaal,List.any_eq_true];have hd:rs[i]=rs[i][0]::rs[i].tail:=by
    have:=Qi e1;simpa using this
   constructor
   ·rintro ⟨x,hx,hv⟩;rw [hd] at hx;rcases List.mem_cons.1 hx with rfl | hx
    ·exact .inl (of_decide_eq_true hv)
    ·exact .inr ⟨x,hx,of_decide_eq_true hv⟩
   ·rintro (h | ⟨x,hx,hv⟩)
    ·exact ⟨_,Qd e1,decide_eq_true h⟩
    ·exact ⟨x,List.mem_of_mem_tail hx,decide_eq_true hv⟩
  by_cases v:qbe p.registers[i].width<mxF rs[i].tail rs[i][0]
  ·rw [qah (x:=(9:Int)) hi (by simp only [vlG,Qa hi,Qa hi2];rw [hy,if_pos (decide_eq_true v)])];simp [c_65_l1,cSe,Register.e,h2,h32,h33,h34,hi,hi2,e1,hx,hm,v]
  ·rw [qao hi (by simp only [vlG,Qa hi,Qa hi2];rw [hy,if_neg (by simpa using v)])];generalize hX:some (Rt.val (AV.int .i64 ((fe (vlG p rs) rs.length (i+1)).getD 0)))=X;simp [c_65_l1,cSe,Register.e,h2,h32,h33,h34,hi,hi2,e1,hx,hm,v,hw];rw [<- hX];exact ih _ _ (Qc _) ⟨by simp [h2,Prg.e],by simp [h32],by simp [h33],by simp⟩
 ·rintro e n L hL _ ⟨h2,h32,h33,h34⟩;rw [qa1];simp [c_65_l1,c_65_k2,h33,h34,hL]
 ·simp [h2]
theorem qae4 (p:Prg) (f:PrgS p) (rs:List (List Int)) (hl:rs.length<2^40) (hs:∀l∈rs,l.length<2^40):qab Φ f_65 [.agg (Prg.c p),.slice 1 (rs.map (cS 1 c32))]=some (.val (.int .i64 (conE p rs))):=by
 rw [qaa (fn:=c_65) rfl rfl];unfold conE;by_cases z:rs.length=p.registers.length
 rotate_left
 ·simp [c_65,Prg.e,z]
 rw [if_neg (by simpa using z)];generalize hY:some (Rt.val (AV.int .i64 ((fe (szG p rs) rs.length 0).getD ((fe (vlG p rs) rs.length 0).getD 0))))=Y;simp [c_65,Prg.e,z];rw [<- hY];refine qay rs.length (fun _=>[]) 0 (fun i e=>look 1 e=some (.slice 1 (rs.map (cS 1 c32)))/\look 2 e=some (.iptr 9 [Prg.c p] 0 0)/\look 15 e=some (.slice 1 (rs.map (cS 1 c32)))/\look 16 e=some (.int .i64 rs.length)/\look 17 e=some (.int .i64 i))
  (fun i=>some (Rt.val (.int .i64 ((fe (szG p rs) rs.length i).getD ((fe (vlG p rs) rs.length 0).getD 0))))) ?_ ?_ 0 _ 0 (Qc _) (Qc _) ?_
 ·rintro i e n L hi hL _ ⟨h1,h2,h15,h16,h17⟩ ih;have hw:=qaf i (by omega);have hi2:i<p.registers.length:=by omega
  rw [Prg.e] at h2;by_cases v:(rs[i].length:Int)=p.registers[i].size
  ·rw [qao hi (by simp [szG,hi,hi2,v])];generalize hX:some (Rt.val (AV.int .i64 ((fe (szG p rs) rs.length (i+1)).getD ((fe (vlG p rs) rs.length 0).getD 0))))=X;simp [c_65_l0,cSe,Register.e,h2,h15,h16,h17,hi,hi2,v,hw];rw [<- hX];exact ih _ _ (Qc _) ⟨by simp [h1],by simp [h2,Prg.e],by simp [h15],by simp [h16],by simp⟩
  ·rw [qah (x:=(2:Int)) hi (by simp [szG,hi,hi2,v])];simp [c_65_l0,cSe,Register.e,h2,h15,h16,h17,hi,hi2,v]
 ·rintro e n L hL _ ⟨h1,h2,h15,h16,h17⟩;rw [qa1];generalize hX:some (Rt.val (AV.int .i64 ((none:Option Int).getD ((fe (vlG p rs) rs.length 0).getD 0))))=X;simp [c_65_l0,h16,h17,hL];rw [<- hX];exact con_b p f rs hl hs z _ _ (by simp [h1]) (by simp [h2])
 ·simp [Prg.e,z]
def wd (w:Int):Nat:=if wBad w then 0 else w.toNat
theorem wd_le (w:Int):wd w<=32:=by
 unfold wd;cases q:wBad w with
 | true=>simp
 | false=>
  obtain ⟨w1,w2⟩:=wBad_false.1 q;simp;omega
theorem qui (w v:Int):qbe w<v↔¬v<2^wd w:=by
 unfold qbe wd;cases q:wBad w with
 | true=>simp;omega
 | false=>simp;omega
theorem qaiw (r:Register):qab Φ f_158 [.agg (Register.c r)]=some (.val (.int .i64 (wd r.width))):=by
 rw [qaa (fn:=c_158) rfl rfl];by_cases h1:r.width<1
 ·simp [c_158,Register.e,h1,wd,wBad]
 by_cases h2:32<r.width
 ·simp [c_158,Register.e,h1,h2,wd,wBad]
 simp [c_158,Register.e,h1,h2,wd,wBad];omega
theorem qaiq (p:Prg) (rs:List (List Int)) (hl:rs.length<2^40) (hs:∀l∈rs,l.length<2^40/\∀v∈l,ok32 0 v) (hz:rs.length=p.registers.length) (e:Env) (n:Nat)
  (h1:look 1 e=some (.slice 1 (rs.map (cS 1 c32)))) (h2:look 2 e=some (.iptr 9 [Prg.c p] 0 0)):
  go Φ (finP [.tmp 4]) [.c c_69_k5] .normal ⟨e,⟨[],n⟩⟩=some (.val (.int .i64 ((fe (vlG p rs) rs.length 0).getD 0))):=by
 simp [c_69_k5];refine qay rs.length (fun _=>[]) 0 (fun i e=>look 1 e=some (.slice 1 (rs.map (cS 1 c32)))/\look 2 e=some (.iptr 9 [Prg.c p] 0 0)/\look 6 e=some (.int .i64 i))
  (fun i=>some (Rt.val (.int .i64 ((fe (vlG p rs) rs.length i).getD 0)))) ?_ ?_ 0 _ n (Qc _) (Qc _) ?_
 ·rintro i e n L hi hL _ ⟨h1,h2,h6⟩ ih;have hw:=qaf i (by omega);have hi2:i<p.registers.length:=by omega
  have hm:=hs _ (Qd hi);have hwd:=qaiw p.registers[i];simp only [Register.e] at hwd;have hV:fe (vlG p rs) rs.length i=if rs[i].any (fun v=>decide (qbe p.registers[i].width<v))=true then some 9 else fe (vlG p rs) rs.length (i+1):=by
   by_cases y:rs[i].any (fun v=>decide (qbe p.registers[i].width<v))=true
   ·rw [if_pos y];exact qah hi (by simp only [vlG,Qa hi,Qa hi2];rw [if_pos y])
   ·rw [if_neg y];exact qao hi (by simp only [vlG,Qa hi,Qa hi2];rw [if_neg y])
  generalize hX:some (Rt.val (AV.int .i64 ((fe (vlG p rs) rs.length (i+1)).getD 0)))=X at ih;generalize hY:some (Rt.val (AV.int .i64 ((fe (vlG p rs) rs.length i).getD 0)))=Y;have hYX:Y=if rs[i].any (fun v=>decide (qbe p.registers[i].width<v))=true then some (Rt.val (AV.int .i64 9)) else X:=by
   rw [<- hY,<- hX,hV];split<;>rfl
  simp [c_69_l3,h1,h6,hi];refine (qay rs[i].length (fun _=>[]) 0 (fun j e=>look 1 e=some (.slice 1 (rs.map (cS 1 c32)))/\look 2 e=some (.iptr 9 [Prg.c p] 0 0)/\look 6 e=some (.int .i64 i)/\look 7 e=some (.int .i64 j))
   (fun j=>if (rs[i].drop j).any (fun v=>decide (qbe p.registers[i].width<v))=true then some (Rt.val (AV.int .i64 9)) else X) ?_ ?_ 0 _ n (Qc _) (Qc _) ?_).trans (by rw [hYX,List.drop_zero])
  ·rintro j e n L' hj hL' _ ⟨h1,h2,h6,h7⟩ ih';have hw':=qaf j (by omega);have hf:=qlq rs[i][j] (hm.2 _ (Qd hj)) (wd p.registers[i].width) (wd_le _);rw [Prg.e] at h2;rw [Qi hj,List.any_cons];by_cases v:rs[i][j]<2^wd p.registers[i].width
   ·rw [decide_eq_true v] at hf;rw [show decide (qbe p.registers[i].width<rs[i][j])=false from decide_eq_false fun h=>(qui _ _).1 h v,Bool.false_or];generalize hZ:(if (rs[i].drop (j+1)).any (fun v=>decide (qbe p.registers[i].width<v))=true then some (Rt.val (AV.int .i64 9)) else X)=Z;simp [c_69_l1,cSe,c32,Register.e,h1,h2,h6,h7,hi,hi2,hj,hwd,hf,hw'];rw [<- hZ];exact ih' _ _ (Qc _) ⟨by simp [h1],by simp [h2,Prg.e],by simp [h6],by simp⟩
   ·rw [decide_eq_false v] at hf;rw [show decide (qbe p.registers[i].width<rs[i][j])=true from decide_eq_true ((qui _ _).2 v),Bool.true_or,if_pos rfl];simp [c_69_l1,cSe,c32,Register.e,h1,h2,h6,h7,hi,hi2,hj,hwd,hf]
  ·rintro e n L' hL' _ ⟨h1,h2,h6,h7⟩;rw [List.drop_length,List.any_nil,if_neg (by decide)];simp [c_69_l1,cSe,h1,h6,h7,hi,hL',c_69_k2,hw];exact ih _ _ (Qc _) ⟨by simp [h1],by simp [h2],by simp⟩
  ·simp [h1,h2,h6]
 ·rintro e n L hL _ ⟨h1,h2,h6⟩;rw [qa1];simp [c_69_l3,c_69_k4,h1,h6,hL]
 ·simp [h1,h2]
theorem qac9 (p:Prg) (rs:List (List Int)) (hl:rs.length<2^40) (hs:∀l∈rs,l.length<2^40/\∀v∈l,ok32 0 v):qab Φ f_69 [.agg (Prg.c p),.slice 1 (rs.map (cS 1 c32))]=some (.val (.int .i64 (conE p rs))):=by
 rw [qaa (fn:=c_69) rfl rfl];unfold conE;by_cases z:rs.length=p.registers.length
 rotate_left
 ·simp [c_69,Prg.e,z]
 rw [if_neg (by simpa using z)];generalize hY:some (Rt.val (AV.int .i64 ((fe (szG p rs) rs.length 0).getD ((fe (vlG p rs) rs.length 0).getD 0))))=Y;simp [c_69,Prg.e,z];rw [<- hY];refine qay rs.length (fun _=>[]) 0 (fun i e=>look 1 e=some (.slice 1 (rs.map (cS 1 c32)))/\look 2 e=some (.iptr 9 [Prg.c p] 0 0)/\look 5 e=some (.int .i64 i))
  (fun i=>some (Rt.val (.int .i64 ((fe (szG p rs) rs.length i).getD ((fe (vlG p rs) rs.length 0).getD 0))))) ?_ ?_ 0 _ 0 (Qc _) (Qc _) ?_
 ·rintro i e n L hi hL _ ⟨h1,h2,h5⟩ ih;have hw:=qaf i (by omega);have hi2:i<p.registers.length:=by omega
  rw [Prg.e] at h2;by_cases v:(rs[i].length:Int)=p.registers[i].size
  ·rw [qao hi (by simp [szG,hi,hi2,v])];generalize hX:some (Rt.val (AV.int .i64 ((fe (szG p rs) rs.length (i+1)).getD ((fe (vlG p rs) rs.length 0).getD 0))))=X;simp [c_69_l0,cSe,Register.e,h1,h2,h5,hi,hi2,v,hw];rw [<- hX];exact ih _ _ (Qc _) ⟨by simp [h1],by simp [h2,Prg.e],by simp⟩
  ·rw [qah (x:=(2:Int)) hi (by simp [szG,hi,hi2,v])];simp [c_69_l0,cSe,Register.e,h1,h2,h5,hi,hi2,v]
 ·rintro e n L hL _ ⟨h1,h2,h5⟩;rw [qa1];generalize hX:some (Rt.val (AV.int .i64 ((none:Option Int).getD ((fe (vlG p rs) rs.length 0).getD 0))))=X;simp [c_69_l0,h1,h5,hL];rw [<- hX];exact qaiq p rs hl hs z _ _ (by simp [h1]) (by simp [h2])
 ·simp [Prg.e]
structure CfgT (a:Config):Prop where
 rl:a.rows.length<2^40
 rs:∀l∈a.rows,l.length<2^40/\∀r∈l,rowS r
 nl:a.nextID.length<2^40
 dl:a.defaults.length<2^40
 ds:∀d∈a.defaults,d.args.length<2^40/\∀v∈d.args,ok32 0 v
 gl:a.registers.length<2^40
 gs:∀l∈a.registers,l.length<2^40/\∀v∈l,ok32 0 v
theorem qagn {B:Nat} (hB:B<2^40) {r:Rw} (o:r.Ok B):rowS r:=by
 simp only [Rw.Ok,Entry.Ok,ActionCall.Ok] at o;obtain ⟨_,o1,_,_,o2⟩:=o;exact ⟨by have:=o1.1;omega,fun m hm=>o1.2 m hm,by have:=o2.1;omega,fun v hv=>o2.2 v hv⟩
theorem qjw {a:Config} (o:a.Ok qa2):CfgT a:=by
 obtain ⟨o0,o1,o2,o3⟩:=o;have e:=qdy;refine ⟨by have:=o0.1;omega,?_,by have:=o1.1;omega,by have:=o2.1;omega,?_,by have:=o3.1;omega,?_⟩
 ·intro l hl;have:=o0.2 l hl;exact ⟨by have:=this.1;omega,fun r hr=>qagn (by omega) (this.2 r hr)⟩
 ·intro d hd;have:=o2.2 d hd;simp only [ActionCall.Ok] at this;exact ⟨by have:=this.2.1;omega,fun v hv=>this.2.2 v hv⟩
 ·intro l hl;have:=o3.2 l hl;exact ⟨by have:=this.1;omega,fun v hv=>this.2 v hv⟩
def rowE (p:Prg) (k:Nat) (tb:Tbl) (l:List Rw) (nx:Int) (z:Int):Int:=if tb.size<l.length then 12 else tabK p k l nx z (ordL l 0)
theorem qai5 (p:Prg) (t:Int) (l:List Rw) (nx z:Int) (o:Option Int):tabK p t l nx z o=if tabK p t l nx 0 o≠0 then tabK p t l nx 0 o else z:=by
 cases o with
 | none=>simp [tabK]
 | some a=>
  simp only [tabK];by_cases z0:nx<=a
  ·simp [z0]
  by_cases z1:1073741824<nx
  ·simp [z0,z1]
  simp only [if_neg z0,if_neg z1];cases q:fe (rowG p t l) l.length 0 with
  | none=>simp
  | some x=>
   have hx:x≠0:=by
    obtain ⟨k,hk,hx⟩:=qec q;simp only [rowG,Qt] at hx;obtain ⟨r,_,hr⟩:=hx;split at hr
    ·cases hr;assumption
    ·split at hr
     ·cases hr;decide
     ·cases hr
   simp [hx]
theorem qait (p:Prg) (k:Nat) (tb:Tbl) (l:List Rw) (nx z:Int):rowE p k tb l nx z=if rowE p k tb l nx 0≠0 then rowE p k tb l nx 0 else z:=by
 unfold rowE;split
 ·simp
 ·exact qai5 _ _ _ _ _ _
def stG (p:Prg) (c:Config) (k:Nat):Option Int:=match p.tables[k]?,c.rows[k]?,c.nextID[k]?,c.defaults[k]? with
 | some tb,some l,some nx,some d=>if rowE p k tb l nx (qbj p k d)=0 then none else some (rowE p k tb l nx (qbj p k d))
 | _,_,_,_=>none
def cfgE (p:Prg) (c:Config):Int:=if (prgD p).1≠0 then (prgD p).1 else if c.rows.length≠p.tables.length\/c.nextID.length≠p.tables.length\/c.defaults.length≠p.tables.length then 2
 else (fe (stG p c) p.tables.length 0).getD (conE p c.registers)
theorem qwz (p:Prg) (f:PrgS p) (hc:(pre p.control).length<2^40 - 1) (c:Config) (s:CfgT c):qab Φ f_17 [.agg (Prg.c p),.agg (Config.c c)]=some (.val (.int .i64 (cfgE p c))):=by
 rw [qaa (fn:=c_17) rfl rfl];have h:=qus p f hc;simp only [Prg.e,dgC] at h;have ht:=f.t;by_cases z:(prgD p).1=0
 rotate_left
 ·simp [c_17,Prg.e,Config.ce,h,z,cfgE]
 by_cases z1:c.rows.length=p.tables.length
 rotate_left
 ·simp [c_17,Prg.e,Config.ce,h,z,z1,cfgE]
 by_cases z2:c.nextID.length=p.tables.length
 rotate_left
 ·simp [c_17,Prg.e,Config.ce,h,z,z1,z2,cfgE]
 by_cases z3:c.defaults.length=p.tables.length
 rotate_left
 ·simp [c_17,Prg.e,Config.ce,h,z,z1,z2,z3,cfgE]
 rw [show cfgE p c=(fe (stG p c) p.tables.length 0).getD (conE p c.registers) by simp [cfgE,z,z1,z2,z3]];simp [c_17,Prg.e,Config.ce,h,z,z1,z2,z3];refine qay p.tables.length (fun _=>[]) 0 (fun i e=>look 2 e=some (.iptr 9 [Prg.c p] 0 0)/\look 3 e=some (.iptr 4 [Config.c c] 0 0)/\look 38 e=some (.int .i64 p.tables.length)/\look 39 e=some (.int .i64 i))
  (fun i=>some (Rt.val (.int .i64 ((fe (stG p c) p.tables.length i).getD (conE p c.registers))))) ?_ ?_ 0 _ _ (Qc _) (Qc _) ?_
 ·rintro i e n L hi hL _ ⟨h2,h3,h38,h39⟩ ih;have hw:=qaf i (by omega);have i1:i<c.rows.length:=by omega
  have i2:i<c.nextID.length:=by omega
  have i3:i<c.defaults.length:=by omega
  have hr:=s.rs _ (Qd i1);have hd:=s.ds _ (Qd i3);have hk:=qae6 p f i hi c.rows[i] c.nextID[i] c.defaults[i] hr.1 hr.2 hd.1;rw [show (if p.tables[i].size<(c.rows[i].length:Int) then (12:Int) else tabK p i c.rows[i] c.nextID[i] (qbj p i c.defaults[i]) (ordL c.rows[i] 0))=rowE p i p.tables[i] c.rows[i] c.nextID[i] (qbj p i c.defaults[i]) from rfl] at hk;simp only [Prg.e,ActionCall.ce] at hk;rw [Prg.e] at h2;rw [Config.ce] at h3;by_cases v:rowE p i p.tables[i] c.rows[i] c.nextID[i] (qbj p i c.defaults[i])=0
  ·rw [qao hi (by simp [stG,hi,i1,i2,i3,v])];rw [v] at hk;generalize hX:some (Rt.val (AV.int .i64 ((fe (stG p c) p.tables.length (i+1)).getD (conE p c.registers))))=X;simp [c_17_l0,cSe,cI,ActionCall.ce,h2,h3,h38,h39,hi,i1,i2,i3,hk,hw];rw [<- hX];exact ih _ _ (Qc _) ⟨by simp [h2,Prg.e],by simp [h3,Config.ce],by simp [h38],by simp⟩
  ·rw [qah (x:=rowE p i p.tables[i] c.rows[i] c.nextID[i] (qbj p i c.defaults[i])) hi (by simp [stG,hi,i1,i2,i3,v])];simp [c_17_l0,cSe,cI,ActionCall.ce,h2,h3,h38,h39,hi,i1,i2,i3,hk,v]
 ·rintro e n L hL _ ⟨h2,h3,h38,h39⟩;have hk:=qae4 p f c.registers s.gl fun l hl=>(s.gs l hl).1
  simp only [Prg.e] at hk;rw [Prg.e] at h2;rw [Config.ce] at h3;rw [qa1];simp [c_17_l0,c_17_k1,h2,h3,h38,h39,hL,hk]
 ·simp [Prg.e,Config.ce]
theorem qiv (p:Prg) (f:PrgS p) (hv:∀t∈p.tables,∀v∈t.dflt.args,ok32 0 v) (hc:(pre p.control).length<2^40 - 1) (c:Config) (s:CfgT c):qab Φ f_19 [.agg (Prg.c p),.agg (Config.c c)]=some (.val (.int .i64 (cfgE p c))):=by
 rw [qaa (fn:=c_19) rfl rfl];have h:=qs4 p f hv hc;simp only [Prg.e,dgC] at h;have ht:=f.t;by_cases z:(prgD p).1=0
 rotate_left
 ·simp [c_19,Prg.e,Config.ce,h,z,cfgE]
 by_cases z1:c.rows.length=p.tables.length
 rotate_left
 ·simp [c_19,Prg.e,Config.ce,h,z,z1,cfgE]
 by_cases z2:c.nextID.length=p.tables.length
 rotate_left
 ·simp [c_19,Prg.e,Config.ce,h,z,z1,z2,cfgE]
 by_cases z3:c.defaults.length=p.tables.length
 rotate_left
 ·simp [c_19,Prg.e,Config.ce,h,z,z1,z2,z3,cfgE]
 rw [show cfgE p c=(fe (stG p c) p.tables.length 0).getD (conE p c.registers) by simp [cfgE,z,z1,z2,z3]];simp [c_19,Prg.e,Config.ce,h,z,z1,z2,z3];refine qay p.tables.length (fun _=>[]) 0 (fun i e=>look 2 e=some (.iptr 9 [Prg.c p] 0 0)/\look 3 e=some (.iptr 4 [Config.c c] 0 0)/\look 5 e=some (.int .i64 p.tables.length)/\look 6 e=some (.int .i64 i))
  (fun i=>some (Rt.val (.int .i64 ((fe (stG p c) p.tables.length i).getD (conE p c.registers))))) ?_ ?_ 0 _ _ (Qc _) (Qc _) ?_
 ·rintro i e n L hi hL _ ⟨h2,h3,h5,h6⟩ ih;have hw:=qaf i (by omega);have i1:i<c.rows.length:=by omega
  have i2:i<c.nextID.length:=by omega
  have i3:i<c.defaults.length:=by omega
  have hr:=s.rs _ (Qd i1);have hd:=s.ds _ (Qd i3);have hk:=qadr p f hv i hi c.rows[i] c.nextID[i] hr.1 hr.2;have hq:=qo5 p f hv i c.defaults[i] hd.1 hd.2;rw [show (if p.tables[i].size<(c.rows[i].length:Int) then (12:Int) else tabK p i c.rows[i] c.nextID[i] 0 (ordL c.rows[i] 0))=rowE p i p.tables[i] c.rows[i] c.nextID[i] 0 from rfl] at hk;simp only [Prg.e,ActionCall.ce] at hk hq;rw [Prg.e] at h2;rw [Config.ce] at h3;have hz:=qait p i p.tables[i] c.rows[i] c.nextID[i] (qbj p i c.defaults[i]);by_cases v:rowE p i p.tables[i] c.rows[i] c.nextID[i] 0=0
  ·rw [if_neg (by simpa using v)] at hz;rw [v] at hk;by_cases w:qbj p i c.defaults[i]=0
   ·rw [qao hi (by simp [stG,hi,i1,i2,i3,w,v])];rw [w] at hq;generalize hX:some (Rt.val (AV.int .i64 ((fe (stG p c) p.tables.length (i+1)).getD (conE p c.registers))))=X;simp [c_19_l0,cSe,cI,ActionCall.ce,h2,h3,h5,h6,hi,i1,i2,i3,hk,hq,hw];rw [<- hX];exact ih _ _ (Qc _) ⟨by simp [h2,Prg.e],by simp [h3,Config.ce],by simp [h5],by simp⟩
   ·rw [qah (x:=qbj p i c.defaults[i]) hi (by simp [stG,hi,i1,i2,i3,hz,w])];simp [c_19_l0,cSe,cI,ActionCall.ce,h2,h3,h5,h6,hi,i1,i2,i3,hk,hq,w]
  ·rw [if_pos v] at hz;rw [qah (x:=rowE p i p.tables[i] c.rows[i] c.nextID[i] 0) hi (by simp [stG,hi,i1,i2,i3,hz,v])];simp [c_19_l0,cSe,cI,h2,h3,h5,h6,hi,i1,i2,hk,v]
 ·rintro e n L hL _ ⟨h2,h3,h5,h6⟩;have hk:=qac9 p c.registers s.gl s.gs;simp only [Prg.e] at hk;rw [Prg.e] at h2;rw [Config.ce] at h3;rw [qa1];simp [c_19_l0,c_19_k1,h2,h3,h5,h6,hL,hk]
 ·simp [Prg.e,Config.ce]
def regN (r:Register):Nat:=if r.size<1\/64<r.size then 0 else r.size.toNat
def RegV (T:List (Nat×AO)) (x:AV) (r:Register):Prop:=(x= .fslice 1 []/\regN r=0)\/∃id,1<=id/\x= .row id 1 0 (regN r)/\look id T=some (.row 1 (List.replicate (regN r) [.int .u32 0]))
inductive RegL (T:List (Nat×AO)):List AV->List Register->Prop
 | nil:RegL T [] []
 | snoc {A rs x r} (h:RegL T A rs) (hx:RegV T x r):RegL T (A++[x]) (rs++[r])
theorem RegV.app {T:List (Nat×AO)} {x:AV} {r:Register} (h:RegV T x r) (U:List (Nat×AO)):RegV (T++U) x r:=by
 rcases h with h | ⟨id,h1,h2,h3⟩
 ·exact .inl h
 ·exact .inr ⟨id,h1,h2,by rw [qdb,h3];simp⟩
theorem RegL.app {T:List (Nat×AO)} {A:List AV} {rs:List Register} (h:RegL T A rs) (U:List (Nat×AO)):RegL (T++U) A rs:=by
 induction h with
 | nil=>exact .nil
 | snoc h hx ih=>exact .snoc ih (hx.app U)
theorem RegL.len {T:List (Nat×AO)} {A:List AV} {rs:List Register} (h:RegL T A rs):A.length=rs.length:=by
 induction h with
 | nil=>rfl
 | snoc h hx ih=>simp [ih]
theorem quh (H:AH) (k:Nat):∀m,mapO (mapO (snap 38 H)) (List.replicate m [AV.int .u32 k])=some (List.replicate m [AV.int .u32 k])
 | 0=>by simp [mapO]
 | m+1=>by
  have ih:=quh H k m;simp only [List.replicate_succ,mapO,ih];simp
theorem qse {α β:Type} (f:α->Option β):∀(l:List α) (x:α) (l':List β) (y:β),mapO f l=some l'->f x=some y->mapO f (l++[x])=some (l'++[y])
 | [],x,l',y,h,hy=>by
  simp [mapO] at h;subst h;simp [mapO,hy]
 | a::l,x,l',y,h,hy=>by
  simp only [mapO] at h;cases hb:f a with
  | none=>rw [hb] at h;cases h
  | some b=>
   rw [hb] at h;cases hm:mapO f l with
   | none=>rw [hm] at h;cases h
   | some m=>
    rw [hm] at h;cases h;have ih:=qse f l x m y hm hy;simp only [List.cons_append,mapO,hb,ih]
theorem RegL.snp {T:List (Nat×AO)} {A:List AV} {rs:List Register} (h:RegL T A rs) (o:AO) (n:Nat):
  mapO (mapO (snap 39 ⟨(0,o)::T,n⟩)) (A.map fun x=>[x])=some (rs.map fun r=>[AV.slice 1 (List.replicate (regN r) [.int .u32 0])]):=by
 induction h with
 | nil=>simp [mapO]
 | snoc h hx ih=>
  rw [List.map_append,List.map_append];refine qse _ _ _ _ _ ih ?_;rcases hx with ⟨rfl,h0⟩ | ⟨id,h1,rfl,h3⟩
  ·simp [mapO,h0]
  ·have hi:¬(0=id):=by omega
   have hr:=quh ⟨(0,o)::T,n⟩ 0;simp at hr;simp [mapO,look,hi,h3,hr]
structure TabV (p:Prg) (k:Nat) (tb:Tbl) (l:List Rw) (nx:Int) (d:ActionCall):Prop where
 size:(l.length:Int)<=tb.size
 pos:∀r∈l,0<r.id
 lt:∀r∈l,r.id<nx
 inc:l.Pairwise (fun a b=>a.id<b.id)
 nx0:0<nx
 nx1:nx<=1073741824
 ent:∀r∈l,entE p k r.entry=0
 uniq:l.Pairwise (fun a b=>sk a.entry b.entry=false)
 dflt:qbj p k d=0
theorem qur (nx:Int):∀(l:List Rw) (a:Int),(∃b,ordL l a=some b/\b<nx)↔a<nx/\(∀r∈l,a<r.id/\r.id<nx)/\l.Pairwise (fun a b=>a.id<b.id)
 | [],a=>by simp [ordL]
 | r::l,a=>by
  have ih:=qur nx l r.id;simp only [ordL];by_cases h:r.id<=a
  ·rw [if_pos h];constructor
   ·rintro ⟨b,hb,_⟩;cases hb
   ·rintro ⟨_,h2,_⟩;have:=(h2 r (by simp)).1;omega
  ·rw [if_neg h,ih,List.pairwise_cons];constructor
   ·rintro ⟨h1,h2,h3⟩;refine ⟨by omega,?_,fun x hx=>(h2 x hx).1,h3⟩;intro x hx;rcases List.mem_cons.1 hx with rfl | hx
    ·exact ⟨by omega,h1⟩
    ·have:=h2 x hx;exact ⟨by omega,this.2⟩
   ·rintro ⟨h1,h2,h3,h4⟩;exact ⟨(h2 r (by simp)).2,fun x hx=>⟨h3 x hx,(h2 x (by simp [hx])).2⟩,h4⟩
theorem qaa3 (p:Prg) (t:Int) (l:List Rw):(∀i,i<l.length->rowG p t l i=none)↔(∀r∈l,entE p t r.entry=0)/\l.Pairwise (fun a b=>sk a.entry b.entry=false):=by
 have key:∀i (hi:i<l.length),rowG p t l i=none↔entE p t l[i].entry=0/\∀j (hj:j<i),sk l[j].entry l[i].entry=false:=by
  intro i hi;simp only [rowG,Qa hi,Option.bind_some];by_cases h:entE p t l[i].entry=0
  ·rw [if_neg (by simpa using h)];have:((l.take i).any fun y=>sk y.entry l[i].entry)=true↔¬∀j (hj:j<i),sk l[j].entry l[i].entry=false:=by
    rw [List.any_eq_true];constructor
    ·rintro ⟨y,hy,hs⟩ hc;obtain ⟨j,hj,rfl⟩:=Qn.1 hy;simp at hj;have:=hc j (by omega);simp only [List.getElem_take] at hs;rw [this] at hs;cases hs
    ·intro hc;simp only [Classical.not_forall] at hc;obtain ⟨j,hj,hs⟩:=hc;refine ⟨l[j],?_,by simpa using hs⟩;rw [List.mem_take_iff_getElem];exact ⟨j,by omega,rfl⟩
   by_cases hu:∀j (hj:j<i),sk l[j].entry l[i].entry=false
   ·rw [if_neg (by rw [this];exact fun hc=>hc hu)];simp [h];exact hu
   ·rw [if_pos (this.2 hu)];simp [h];simpa using hu
  ·rw [if_pos h];simp [h]
 constructor
 ·intro h;refine ⟨?_,?_⟩
  ·intro r hr;obtain ⟨i,hi,rfl⟩:=Qn.1 hr;exact ((key i hi).1 (h i hi)).1
  ·rw [List.pairwise_iff_getElem];intro i j hi hj hij;exact ((key j hj).1 (h j hj)).2 i hij
 ·rintro ⟨h1,h2⟩ i hi;rw [key i hi];refine ⟨h1 _ (Qd hi),?_⟩;intro j hj;exact List.pairwise_iff_getElem.1 h2 j i (by omega) hi hj
theorem qagm (p:Prg) (t:Int) (l:List Rw) {i:Nat} {x:Int} (h:rowG p t l i=some x):x≠0:=by
 simp only [rowG,Qt] at h;obtain ⟨r,_,hr⟩:=h;split at hr
 ·cases hr;assumption
 ·split at hr
  ·cases hr;decide
  ·cases hr
theorem qsp (p:Prg) (k:Nat) (tb:Tbl) (l:List Rw) (nx:Int) (d:ActionCall):rowE p k tb l nx (qbj p k d)=0↔TabV p k tb l nx d:=by
 have hI:=qur nx l 0;have hG:=qaa3 p k l;rw [<- fe_all] at hG;unfold rowE;by_cases h:tb.size<(l.length:Int)
 ·rw [if_pos h];constructor
  ·intro hc;cases hc
  ·intro hv;have:=hv.size;omega
 rw [if_neg h];cases ho:ordL l 0 with
 | none=>
  rw [ho] at hI;simp only [tabK];constructor
  ·intro hc;cases hc
  ·intro hv;obtain ⟨b,hb,_⟩:=hI.2 ⟨hv.nx0,fun r hr=>⟨hv.pos r hr,hv.lt r hr⟩,hv.inc⟩;cases hb
 | some a=>
  rw [ho] at hI;simp only [tabK];by_cases h1:nx<=a
  ·rw [if_pos h1];constructor
   ·intro hc;cases hc
   ·intro hv;obtain ⟨b,hb,h2⟩:=hI.2 ⟨hv.nx0,fun r hr=>⟨hv.pos r hr,hv.lt r hr⟩,hv.inc⟩;cases hb;omega
  rw [if_neg h1];have hJ:=hI.1 ⟨a,rfl,by omega⟩;by_cases h2:1073741824<nx
  ·rw [if_pos h2];constructor
   ·intro hc;cases hc
   ·intro hv;have:=hv.nx1;omega
  rw [if_neg h2];cases hf:fe (rowG p k l) l.length 0 with
  | some x=>
   have hx:x≠0:=by
    obtain ⟨i,_,hx⟩:=qec hf;exact qagm p k l hx
   rw [hf] at hG;simp only [Option.getD_some];constructor
   ·intro hc;exact absurd hc hx
   ·intro hv;have:=hG.2 ⟨hv.ent,hv.uniq⟩;cases this
  | none=>
   have hq:=hG.1 hf;simp only [Option.getD_none];constructor
   ·intro hc;exact ⟨by omega,fun r hr=>(hJ.2.1 r hr).1,fun r hr=>(hJ.2.1 r hr).2,hJ.2.2,hJ.1,by omega,hq.1,hq.2,hc⟩
   ·intro hv;exact hv.dflt
structure CfgV (p:Prg) (c:Config):Prop where
 prg:(prgD p).1=0
 rl:c.rows.length=p.tables.length
 nl:c.nextID.length=p.tables.length
 dl:c.defaults.length=p.tables.length
 tab:∀k tb l nx d,p.tables[k]? =some tb->c.rows[k]? =some l->c.nextID[k]? =some nx->c.defaults[k]? =some d->TabV p k tb l nx d
 con:conE p c.registers=0
theorem qai2 (p:Prg) (c:Config) {k:Nat} {x:Int} (h:stG p c k=some x):x≠0:=by
 unfold stG at h;split at h
 ·split at h
  ·cases h
  ·cases h;assumption
 ·cases h
theorem qcf (p:Prg) (c:Config):cfgE p c=0↔CfgV p c:=by
 unfold cfgE;by_cases h:(prgD p).1=0
 rotate_left
 ·rw [if_pos h];exact ⟨fun hc=>absurd hc h,fun hv=>absurd hv.prg h⟩
 rw [if_neg (by simpa using h)];by_cases hl:c.rows.length≠p.tables.length\/c.nextID.length≠p.tables.length\/c.defaults.length≠p.tables.length
 ·rw [if_pos hl];constructor
  ·intro hc;cases hc
  ·intro hv;have:=hv.rl;have:=hv.nl;have:=hv.dl;omega
 rw [if_neg hl];have l1:c.rows.length=p.tables.length:=by omega
 have l2:c.nextID.length=p.tables.length:=by omega
 have l3:c.defaults.length=p.tables.length:=by omega
 cases hf:fe (stG p c) p.tables.length 0 with
 | some x=>
  obtain ⟨k,hk,hx⟩:=qec hf;simp only [Option.getD_some];constructor
  ·intro hc;exact absurd hc (qai2 p c hx)
  ·intro hv;have hq:stG p c k=none:=by
    unfold stG;split
    ·rename_i tb l nx d e1 e2 e3 e4;rw [if_pos ((qsp p k tb l nx d).2 (hv.tab k tb l nx d e1 e2 e3 e4))]
    ·rfl
   rw [hq] at hx;cases hx
 | none=>
  simp only [Option.getD_none];have ha:=fe_all.1 hf;constructor
  ·intro hc;refine ⟨h,l1,l2,l3,?_,hc⟩;intro k tb l nx d e1 e2 e3 e4;have hk:=(Qm.1 e1).1;have hq:=ha k hk;simp only [stG,e1,e2,e3,e4] at hq;split at hq
   ·rename_i hz;exact (qsp p k tb l nx d).1 hz
   ·cases hq
  ·intro hv;exact hv.con
def qak (c:Config) (t:Int):List Rw:=(at? c.rows t).getD []
def qc2 (c:Config) (t:Int):Int:=(at? c.nextID t).getD 0
def qqd (p:Prg) (t:Int):Int:=((at? p.tables t).map Tbl.size).getD 0
def inT (p:Prg) (t:Int):Bool:=decide (0<=t)&&decide (t<p.tables.length)
def rIdx (l:List Rw) (id:Int):Option Nat:=l.findIdx? fun r=>decide (r.id=id)
def insE (p:Prg) (c:Config) (t:Int) (x:Entry):Int:=
 if inT p t=false then 8 else if entE p t x≠0 then entE p t x else if (qak c t).any (fun y=>sk y.entry x)=true then 7
 else if qqd p t<=(qak c t).length\/1073741824<=qc2 c t then 13 else 0
def insC (c:Config) (t:Int) (x:Entry):Config:=⟨c.rows.set t.toNat (qak c t++[⟨qc2 c t,x⟩]),c.nextID.set t.toNat (qc2 c t+1),c.defaults,c.registers⟩
def modE (p:Prg) (c:Config) (t id:Int) (x:ActionCall):Int:=
 if inT p t=false then 8 else if rIdx (qak c t) id=none then 8 else qbj p t x
def qa9 (x:ActionCall) (r:Rw):Rw:=⟨r.id,⟨r.entry.keys,r.entry.priority,x⟩⟩
def modC (c:Config) (t id:Int) (x:ActionCall):Config:=match rIdx (qak c t) id with
 | some i=>⟨c.rows.set t.toNat ((qak c t).modify i (qa9 x)),c.nextID,c.defaults,c.registers⟩
 | none=>c
def delE (p:Prg) (c:Config) (t id:Int):Int:=
 if inT p t=false then 8 else if rIdx (qak c t) id=none then 8 else 0
def delC (c:Config) (t id:Int):Config:=match rIdx (qak c t) id with
 | some i=>⟨c.rows.set t.toNat ((qak c t).eraseIdx i),c.nextID,c.defaults,c.registers⟩
 | none=>c
def defE (p:Prg) (t:Int) (x:ActionCall):Int:=if inT p t=false then 8 else qbj p t x
def defC (c:Config) (t:Int) (x:ActionCall):Config:=⟨c.rows,c.nextID,c.defaults.set t.toNat x,c.registers⟩
theorem qfb {p:Prg} {t:Int} (h:inT p t=true):∃k:Nat,t=k/\k<p.tables.length:=by
 unfold inT at h;simp at h;exact ⟨t.toNat,by omega,by omega⟩
theorem qf3 {p:Prg} {k:Nat} (h:k<p.tables.length):inT p (k:Int)=true:=by
 unfold inT;simp;omega
section
variable {p:Prg} {c:Config} {k:Nat}
theorem qax (h:k<c.rows.length):qak c (k:Int)=c.rows[k]:=by
 unfold qak;rw [qeo,Qa h];rfl
theorem qd1 (h:k<c.nextID.length):qc2 c (k:Int)=c.nextID[k]:=by
 unfold qc2;rw [qeo,Qa h];rfl
theorem qqe (h:k<p.tables.length):qqd p (k:Int)=p.tables[k].size:=by
 unfold qqd;rw [qeo,Qa h];rfl
theorem CfgV.at (v:CfgV p c) (h:k<p.tables.length):TabV p k p.tables[k] (c.rows[k]'(by rw [v.rl];exact h)) (c.nextID[k]'(by rw [v.nl];exact h)) (c.defaults[k]'(by rw [v.dl];exact h)):=
 v.tab k _ _ _ _ (Qa h) (Qa (by rw [v.rl];exact h)) (Qa (by rw [v.nl];exact h)) (Qa (by rw [v.dl];exact h))
theorem CfgV.upd (v:CfgV p c) (h:k<p.tables.length) {l:List Rw} {nx:Int} {d:ActionCall} {R:List (List Rw)} {N:List Int} {D:List ActionCall}
  (hR:R=c.rows.set k l) (hN:N=c.nextID.set k nx) (hD:D=c.defaults.set k d) (t:TabV p k p.tables[k] l nx d):CfgV p ⟨R,N,D,c.registers⟩:=by
 subst hR hN hD;refine ⟨v.prg,by simp [v.rl],by simp [v.nl],by simp [v.dl],?_,v.con⟩;intro j tb l' nx' d' h1 h2 h3 h4;have hl1:=v.rl;have hl2:=v.nl;have hl3:=v.dl;by_cases hj:k=j
 ·subst hj;rw [List.getElem?_set_self (by omega)] at h2 h3 h4;rw [Qa h] at h1;cases h1;cases h2;cases h3;cases h4;exact t
 ·simp only [List.getElem?_set_ne hj] at h2 h3 h4;exact v.tab j _ _ _ _ h1 h2 h3 h4
end
theorem qaft {p:Prg} {c:Config} {t:Int} {x:Entry} (v:CfgV p c) (h:insE p c t x=0):CfgV p (insC c t x):=by
 unfold insE at h;cases hi:inT p t with
 | false=>rw [if_pos hi] at h;cases h
 | true=>
 obtain ⟨k,rfl,hk⟩:=qfb hi;rw [if_neg (by rw [hi];decide)] at h;have l1:k<c.rows.length:=by rw [v.rl];exact hk
 have l2:k<c.nextID.length:=by rw [v.nl];exact hk
 have l3:k<c.defaults.length:=by rw [v.dl];exact hk
 have hv:=v.at hk;rw [qax l1,qd1 l2,qqe hk] at h;split at h
 ·rename_i h1;exact absurd h h1
 rename_i h1;split at h
 ·cases h
 rename_i h2;split at h
 ·cases h
 rename_i h3;unfold insC;rw [qax l1,qd1 l2];refine v.upd hk (l:=c.rows[k]++[⟨c.nextID[k],x⟩]) (nx:=c.nextID[k]+1) (d:=c.defaults[k]) (by simp) (by simp) (by simp) ?_;have n0:=hv.nx0;refine ⟨by simp;omega,?_,?_,?_,by omega,by omega,?_,?_,hv.dflt⟩
 ·intro r hr;rcases List.mem_append.1 hr with hr | hr
  ·exact hv.pos r hr
  ·simp at hr;subst hr;exact n0
 ·intro r hr;rcases List.mem_append.1 hr with hr | hr
  ·have:=hv.lt r hr;omega
  ·simp at hr;subst hr;simp;omega
 ·rw [List.pairwise_append];exact ⟨hv.inc,by simp,fun a ha b hb=>by simp at hb;subst hb;exact hv.lt a ha⟩
 ·intro r hr;rcases List.mem_append.1 hr with hr | hr
  ·exact hv.ent r hr
  ·simp at hr;subst hr;simpa using h1
 ·rw [List.pairwise_append];refine ⟨hv.uniq,by simp,fun a ha b hb=>?_⟩;simp at hb;subst hb;simp only [List.any_eq_true,not_exists,not_and,Bool.not_eq_true] at h2;exact h2 a ha
theorem qzu (p:Prg) (t:Int) (x:Entry) (y:ActionCall) (h:entE p t x=0) (hc:qbj p t y=0):entE p t ⟨x.keys,x.priority,y⟩=0:=by
 unfold entE at h ⊢;split at h
 ·exact absurd h (by assumption)
 rename_i h1;rw [if_neg h1];cases ht:at? p.tables t with
 | none=>rfl
 | some tb=>
  rw [ht] at h;simp only at h ⊢;split at h
  ·cases h
  rename_i h2;rw [if_neg h2];have he:entG p tb ⟨x.keys,x.priority,y⟩=entG p tb x:=rfl;rw [he];cases hf:fe (entG p tb x) tb.keys.length 0 with
  | some e=>rw [hf] at h;simpa using h
  | none=>
   rw [hf] at h;simp only [Option.getD_none] at h ⊢;unfold entF at h ⊢;unfold qbj at hc;simp only;split at h
   ·cases h
   rename_i a1;rw [if_neg a1];split at h
   ·cases h
   rename_i a2;rw [if_neg a2];split at h
   ·cases h
   rename_i a3;rw [if_neg a3];exact hc
theorem qje {l:List Rw} {id:Int} {i:Nat} (h:rIdx l id=some i):∃hi:i<l.length,l[i].id=id:=by
 unfold rIdx at h;rw [List.findIdx?_eq_some_iff_getElem] at h;obtain ⟨hi,h1,_⟩:=h;exact ⟨hi,by simpa using h1⟩
theorem qaf2 {p:Prg} {c:Config} {t id:Int} {x:ActionCall} (v:CfgV p c) (h:modE p c t id x=0):CfgV p (modC c t id x):=by
 unfold modE at h;cases hi:inT p t with
 | false=>rw [if_pos hi] at h;cases h
 | true=>
 obtain ⟨k,rfl,hk⟩:=qfb hi;rw [if_neg (by rw [hi];decide)] at h;have l1:k<c.rows.length:=by rw [v.rl];exact hk
 have l2:k<c.nextID.length:=by rw [v.nl];exact hk
 have l3:k<c.defaults.length:=by rw [v.dl];exact hk
 have hv:=v.at hk;unfold modC;rw [qax l1] at h ⊢;cases hx:rIdx c.rows[k] id with
 | none=>simp only;exact v
 | some i=>
  rw [hx,if_neg (by simp)] at h;simp only;obtain ⟨hil,hid⟩:=qje hx;have hm:c.rows[k].modify i (qa9 x)=c.rows[k].set i (qa9 x c.rows[k][i]):=by
   refine List.ext_getElem (by simp) fun j h1 h2=>?_
   rw [List.getElem_modify,List.getElem_set];split
   ·rename_i e;subst e;rfl
   ·rfl
  refine v.upd hk (l:=c.rows[k].modify i (qa9 x)) (nx:=c.nextID[k]) (d:=c.defaults[k]) (by simp) (by simp) (by simp) ?_;have mem:∀r∈c.rows[k].modify i (qa9 x),∃r'∈c.rows[k],r.id=r'.id/\entE p k r.entry=0:=by
   intro r hr;rw [hm] at hr;rcases Qq hr with hr | rfl
   ·exact ⟨r,hr,rfl,hv.ent r hr⟩
   ·exact ⟨_,Qd hil,rfl,qzu p k _ x (hv.ent _ (Qd hil)) h⟩
  have get:∀j (hj:j<(c.rows[k].modify i (qa9 x)).length),(c.rows[k].modify i (qa9 x))[j].id=(c.rows[k][j]'(by simpa using hj)).id/\(c.rows[k].modify i (qa9 x))[j].entry.keys=(c.rows[k][j]'(by simpa using hj)).entry.keys/\(c.rows[k].modify i (qa9 x))[j].entry.priority=(c.rows[k][j]'(by simpa using hj)).entry.priority:=by
   intro j hj;rw [List.getElem_modify];split<;>simp [qa9]
  refine ⟨by simpa using hv.size,?_,?_,?_,hv.nx0,hv.nx1,?_,?_,hv.dflt⟩
  ·intro r hr;obtain ⟨r',hr',e,_⟩:=mem r hr;rw [e];exact hv.pos r' hr'
  ·intro r hr;obtain ⟨r',hr',e,_⟩:=mem r hr;rw [e];exact hv.lt r' hr'
  ·rw [List.pairwise_iff_getElem];intro a b ha hb hab;rw [(get a ha).1,(get b hb).1];exact List.pairwise_iff_getElem.1 hv.inc a b _ _ hab
  ·intro r hr;obtain ⟨_,_,_,e⟩:=mem r hr;exact e
  ·rw [List.pairwise_iff_getElem];intro a b ha hb hab;have:=List.pairwise_iff_getElem.1 hv.uniq a b (by simpa using ha) (by simpa using hb) hab;unfold sk at this ⊢;rw [(get a ha).2.1,(get a ha).2.2,(get b hb).2.1,(get b hb).2.2];exact this
theorem qafa {p:Prg} {c:Config} {t id:Int} (v:CfgV p c) (h:delE p c t id=0):CfgV p (delC c t id):=by
 unfold delE at h;cases hi:inT p t with
 | false=>rw [if_pos hi] at h;cases h
 | true=>
 obtain ⟨k,rfl,hk⟩:=qfb hi;have l1:k<c.rows.length:=by rw [v.rl];exact hk
 have l2:k<c.nextID.length:=by rw [v.nl];exact hk
 have l3:k<c.defaults.length:=by rw [v.dl];exact hk
 have hv:=v.at hk;unfold delC;rw [qax l1];cases hx:rIdx c.rows[k] id with
 | none=>simp only;exact v
 | some i=>
  simp only;refine v.upd hk (l:=c.rows[k].eraseIdx i) (nx:=c.nextID[k]) (d:=c.defaults[k]) (by simp) (by simp) (by simp) ?_;have hs:=List.eraseIdx_sublist c.rows[k] i;have hsz:=hv.size;have hle:=hs.length_le;exact ⟨by omega,fun r hr=>hv.pos r (hs.subset hr),fun r hr=>hv.lt r (hs.subset hr),hv.inc.sublist hs,hv.nx0,hv.nx1,fun r hr=>hv.ent r (hs.subset hr),hv.uniq.sublist hs,hv.dflt⟩
theorem qae9 {p:Prg} {c:Config} {t:Int} {x:ActionCall} (v:CfgV p c) (h:defE p t x=0):CfgV p (defC c t x):=by
 unfold defE at h;cases hi:inT p t with
 | false=>rw [if_pos hi] at h;cases h
 | true=>
 obtain ⟨k,rfl,hk⟩:=qfb hi;rw [if_neg (by rw [hi];decide)] at h;have l1:k<c.rows.length:=by rw [v.rl];exact hk
 have l2:k<c.nextID.length:=by rw [v.nl];exact hk
 have l3:k<c.defaults.length:=by rw [v.dl];exact hk
 have hv:=v.at hk;unfold defC;exact v.upd hk (l:=c.rows[k]) (nx:=c.nextID[k]) (d:=x) (by simp) (by simp) (by simp) ⟨hv.size,hv.pos,hv.lt,hv.inc,hv.nx0,hv.nx1,hv.ent,hv.uniq,h⟩
theorem qbr (t:Nat) (a b:List (Nat×AO)):look t (a++b)=(look t a).or (look t b):=qdb t a b
theorem qa3 (j t:Nat) (y:AO):∀O:List (Nat×AO),look j (setl t y O)=if j=t then (look t O).map (fun _=>y) else look j O
 | []=>by simp
 | (u,w)::r=>by
  have ih:=qa3 j t y r;by_cases hu:u=t
  ·subst hu;by_cases hj:j=u
   ·subst hj;simp
   ·have:¬u=j:=fun h=>hj h.symm
    simp [hj,this]
  ·by_cases hj:j=t
   ·subst hj;simp [hu];simpa using ih
   ·by_cases hv:u=j
    ·subst hv;simp [hu]
    ·simp [hu,hv,hj];simpa [hj] using ih
theorem quf {j t:Nat} (h:j≠t):∀O:List (Nat×AO),look j (qcb t O)=look j O
 | []=>by simp
 | (u,w)::r=>by
  have ih:=quf h r;by_cases hu:u=t
  ·subst hu;have:¬u=j:=fun e=>h e.symm
   simp [this]
  ·by_cases hv:u=j
   ·subst hv;simp [hu]
   ·simp [hu,hv,ih]
theorem qip {j:Nat}:∀{O:List (Nat×AO)},look j O≠some .res->look j (qbk O)=look j O
 | [],_=>by simp
 | (u,w)::r,h=>by
  by_cases hv:u=j
  ·subst hv;simp at h;cases w<;>simp at h ⊢
  ·simp [hv] at h;have ih:=qip h;cases w<;>simp [hv,ih]
section
variable (z t i o n:Nat) (es:List (List AV))
@[simp] theorem qamc:lenOf (.slice z es)=some es.length:=rfl
@[simp] theorem qama:lenOf (.fslice z es)=some es.length:=rfl
@[simp] theorem qal9:lenOf (.app z es t)=some es.length:=rfl
@[simp] theorem qamb:lenOf (.row t z o n)=some n:=rfl
@[simp] theorem qaks (cs:List AV):AV.cells (.agg cs)=some cs:=rfl
@[simp] theorem qakt (k:IntKind) (x:Int):AV.cells (.int k x)=some [.int k x]:=rfl
@[simp] theorem qaju (b:Bool):AV.cells (.bool b)=some [.bool b]:=rfl
@[simp] theorem qakw (b:List UInt8):AV.cells (.str b)=some [.str b]:=rfl
@[simp] theorem qahq:AV.cells .nilptr=some [.nilptr]:=rfl
@[simp] theorem qahp:AV.cells .nilmap=some [.nilmap]:=rfl
@[simp] theorem qalu:AV.cells (.slice z es)=some [.slice z es]:=rfl
@[simp] theorem qals:AV.cells (.fslice z es)=some [.fslice z es]:=rfl
@[simp] theorem qalr:AV.cells (.app z es t)=some [.app z es t]:=rfl
@[simp] theorem qalt:AV.cells (.row t z o n)=some [.row t z o n]:=rfl
@[simp] theorem qakv:AV.cells (.ptr t z o n)=some [.ptr t z o n]:=rfl
@[simp] theorem qajw:AV.cells (.iptr z es o n)=some [.iptr z es o n]:=rfl
@[simp] theorem qaku:AV.cells (.map t)=some [.map t]:=rfl
@[simp] theorem qajv (f:Fn) (a b:List AV):AV.cells (.func f a b)=some [.func f a b]:=rfl
end
theorem qiz {a b:List (Nat×AO)} {n:Nat}:Tail (a++b) n↔Tail a n/\Tail b n:=by
 constructor
 ·intro h;refine ⟨fun j hj=>?_,fun j hj=>?_⟩
  ·have:=h j hj;rw [qbr] at this;cases hl:look j a with
   | none=>rfl
   | some x=>rw [hl] at this;cases this
  ·have:=h j hj;rw [qbr] at this;cases hl:look j a with
   | none=>rw [hl] at this;simpa using this
   | some x=>rw [hl] at this;cases this
 ·rintro ⟨h1,h2⟩ j hj;rw [qbr,h1 j hj,h2 j hj];rfl
theorem qfp {u n:Nat} {x:AO} {r:List (Nat×AO)}:Tail ((u,x)::r) n↔u<n/\Tail r n:=by
 constructor
 ·intro h;have hu:u<n:=by
   refine Decidable.byContradiction fun hc=>?_
   have:=h u (by omega);simp at this
  refine ⟨hu,fun j hj=>?_⟩;have:=h j hj;have hne:¬u=j:=by omega
  simpa [hne] using this
 ·rintro ⟨h1,h2⟩ j hj;have hne:¬u=j:=by omega
  simp [hne,h2 j hj]
theorem qtk {n:Nat}:Tail [] n↔True:=⟨fun _=>trivial,fun _=>Tail.nil n⟩
theorem qdi {t n:Nat} {y:AO} {O:List (Nat×AO)} (h:Tail O n):Tail (setl t y O) n:=by
 intro j hj;rw [qa3];split
 ·rename_i e;rw [<- e,h j hj];rfl
 ·exact h j hj
theorem qvz {n:Nat} {O:List (Nat×AO)} (h:Tail O n):Tail (qbk O) n:=by
 intro j hj;rw [qip (by rw [h j hj];simp),h j hj]
theorem Tail.lt {O:List (Nat×AO)} {n j:Nat} {x:AO} (h:Tail O n) (hl:look j O=some x):j<n:=by
 refine Decidable.byContradiction fun hc=>?_
 rw [h j (by omega)] at hl;cases hl
def Kp (X:Nat->Prop) (N:Nat) (O O':List (Nat×AO)):Prop:=∀j,j<N->¬X j->look j O'=look j O
theorem Kp.refl {X:Nat->Prop} {N:Nat} {O:List (Nat×AO)}:Kp X N O O:=fun _ _ _=>rfl
theorem Kp.trans {X:Nat->Prop} {N N':Nat} {O O' O'':List (Nat×AO)} (h:Kp X N O O') (h2:Kp X N' O' O'') (hn:N<=N'):Kp X N O O'':=
 fun j hj hx=>(h2 j (by omega) hx).trans (h j hj hx)
theorem Kp.mono {X Y:Nat->Prop} {N:Nat} {O O':List (Nat×AO)} (h:Kp X N O O') (hx:∀j,j<N->X j->Y j):Kp Y N O O':=
 fun j hj hy=>h j hj fun hc=>hy (hx j hj hc)
section
variable {Φ:FuncId->Option AFun} {β:Type} {fin:Option (Ex×St)->Option β}
theorem loopQ {σ:Type} (m:σ->Nat) (Inv:σ->Env->AH->Prop) (R:σ->Option β->Prop) {b:ACode} {K:List Go.Av.Fr}
  (step:∀x e h L,(∀j s,go Φ fin L (.exit j) s=go Φ fin K (.exit j) s)->Inv x e h->(∀y e' h',m y<m x->Inv y e' h'->R y (go Φ fin L .normal ⟨e',h'⟩))->R x (go Φ fin (.c b::L) .normal ⟨e,h⟩)):
  ∀x e h,Inv x e h->R x (go Φ fin (.c (.loop b)::K) .normal ⟨e,h⟩):=by
 have key:∀n x e h,m x<=n->Inv x e h->R x (go Φ fin (.c (.loop b)::K) .normal ⟨e,h⟩):=by
  intro n
  induction n with
  | zero=>
   intro x e h hn hi;rw [qaw];exact step x e h _ (fun j s=>by simp) hi fun y e' h' hlt=>by omega
  | succ n ih=>
   intro x e h hn hi;rw [qaw];exact step x e h _ (fun j s=>by simp) hi fun y e' h' hlt hy=>ih y e' h' (by omega) hy
 intro x e h hi;exact key (m x) x e h (Qb _) hi
theorem qaia (N:Nat) (Inv:Nat->Env->AH->Prop) (Q:Option β->Prop) {b:ACode} {K:List Go.Av.Fr}
  (step:∀i e h L,i<N->(∀j s,go Φ fin L (.exit j) s=go Φ fin K (.exit j) s)->Inv i e h->(∀e' h',Inv (i+1) e' h'->Q (go Φ fin L .normal ⟨e',h'⟩))->Q (go Φ fin (.c b::L) .normal ⟨e,h⟩))
  (last:∀e h L,(∀j s,go Φ fin L (.exit j) s=go Φ fin K (.exit j) s)->Inv N e h->Q (go Φ fin (.c b::L) .normal ⟨e,h⟩)):
  ∀i e h,i<=N->Inv i e h->Q (go Φ fin (.c (.loop b)::K) .normal ⟨e,h⟩):=by
 intro i e h hi hinv;refine loopQ (σ:={ i:Nat // i<=N }) (fun x=>N - x.1) (fun x=>Inv x.1) (fun _=>Q) ?_ ⟨i,hi⟩ e h hinv;intro ⟨i,hi⟩ e h L hL hinv ih;rcases Nat.lt_or_eq_of_le hi with hlt | heq
 ·exact step i e h L hlt hL hinv fun e' h' hi'=>ih ⟨i+1,hlt⟩ e' h' (by simp;omega) hi'
 ·subst heq;exact last e h L hL hinv
end
def vid:AV->Option Nat
 | .row id _ _ _=>some id
 | _=>none
inductive Mu (O:List (Nat×AO)) (z:Nat):AV->List (List AV)->Prop
 | nilF:Mu O z (.fslice z []) []
 | nilA (t:Nat):Mu O z (.app z [] t) []
 | row (id:Nat) (es es0:List (List AV)) (n:Nat) (hn:n=es.length) (hl:look id O=some (.row z es0)) (hle:es.length<=es0.length) (ht:es0.take es.length=es):Mu O z (.row id z 0 n) es
theorem Mu.len {O:List (Nat×AO)} {z:Nat} {v:AV} {es:List (List AV)} (h:Mu O z v es):lenOf v=some es.length:=by
 cases h with
 | nilF=>rfl
 | nilA=>rfl
 | row id _ es0 n hn=>subst hn;rfl
theorem Mu.fr {O O':List (Nat×AO)} {z:Nat} {v:AV} {es:List (List AV)} (h:Mu O z v es) (hf:∀j,vid v=some j->look j O'=look j O):Mu O' z v es:=by
 cases h with
 | nilF=>exact .nilF
 | nilA=>exact .nilA _
 | row id _ es0 n hn hl hle ht=>exact .row id es es0 n hn (by rw [hf id rfl,hl]) hle ht
theorem Mu.nonempty {O:List (Nat×AO)} {z:Nat} {v:AV} {es:List (List AV)} (h:Mu O z v es) (hp:0<es.length):∃id es0,v= .row id z 0 es.length/\look id O=some (.row z es0)/\es.length<=es0.length/\es0.take es.length=es:=by
 cases h with
 | nilF=>simp at hp
 | nilA=>simp at hp
 | row id _ es0 n hn hl hle ht=>subst hn;exact ⟨id,es0,rfl,hl,hle,ht⟩
theorem Mu.snp {O:List (Nat×AO)} {z N n:Nat} {v:AV} {es:List (List AV)} (h:Mu O z v es):snap (n+1) ⟨O,N⟩ v=(mapO (mapO (snap n ⟨O,N⟩)) es).map (.slice z):=by
 cases h with
 | nilF=>simp
 | nilA=>simp
 | row id _ es0 k hn hl hle ht=>
  subst hn;simp [hl,hle,ht]
inductive Re (O:List (Nat×AO)) (z:Nat):AV->List (List AV)->Prop
 | sl (es:List (List AV)):Re O z (.slice z es) es
 | fs (es:List (List AV)):Re O z (.fslice z es) es
 | ap (es:List (List AV)) (t:Nat):Re O z (.app z es t) es
 | row (id:Nat) (es es0:List (List AV)) (n:Nat) (hn:n=es.length) (hl:look id O=some (.row z es0)) (hle:es.length<=es0.length) (ht:es0.take es.length=es):Re O z (.row id z 0 n) es
theorem Mu.re {O:List (Nat×AO)} {z:Nat} {v:AV} {es:List (List AV)} (h:Mu O z v es):Re O z v es:=by
 cases h with
 | nilF=>exact .fs []
 | nilA=>exact .ap [] _
 | row id _ es0 n hn hl hle ht=>exact .row id es es0 n hn hl hle ht
theorem Re.fr {O O':List (Nat×AO)} {z:Nat} {v:AV} {es:List (List AV)} (h:Re O z v es) (hf:∀j,vid v=some j->look j O'=look j O):Re O' z v es:=by
 cases h with
 | sl=>exact .sl es
 | fs=>exact .fs es
 | ap=>exact .ap es _
 | row id _ es0 n hn hl hle ht=>exact .row id es es0 n hn (by rw [hf id rfl,hl]) hle ht
theorem Re.len {O:List (Nat×AO)} {z:Nat} {v:AV} {es:List (List AV)} (h:Re O z v es):lenOf v=some es.length:=by
 cases h with
 | sl=>rfl
 | fs=>rfl
 | ap=>rfl
 | row id _ es0 n hn=>subst hn;rfl
theorem Re.snp {O:List (Nat×AO)} {z N n:Nat} {v:AV} {es:List (List AV)} (h:Re O z v es) (he:mapO (mapO (snap n ⟨O,N⟩)) es=some es):snap (n+1) ⟨O,N⟩ v=some (.slice z es):=by
 cases h with
 | sl=>simp
 | fs=>simp
 | ap=>simp
 | row id _ es0 k hn hl hle ht=>
  subst hn;simp [hl,hle,ht,he]
theorem Re.cells {O:List (Nat×AO)} {z:Nat} {v:AV} {es:List (List AV)} (h:Re O z v es):v.cells=some [v]:=by
 cases h<;>rfl
theorem Mu.cells {O:List (Nat×AO)} {z:Nat} {v:AV} {es:List (List AV)} (h:Mu O z v es):v.cells=some [v]:=h.re.cells
theorem qxc {α:Type} {f:α->Option α}:∀{l:List α},(∀x∈l,f x=some x)->mapO f l=some l
 | [],_=>rfl
 | a::l,h=>by
  have h1:=h a (by simp);have h2:=qxc (f:=f) (l:=l) fun x hx=>h x (by simp [hx])
  simp only [mapO,h1,h2]
theorem qlj {α:Type} {g:α->List AV} {n:Nat} {H:AH} (h:∀x,mapO (snap n H) (g x)=some (g x)) (l:List α):mapO (mapO (snap n H)) (l.map g)=some (l.map g):=by
 refine qxc fun x hx=>?_
 obtain ⟨y,_,rfl⟩:=List.mem_map.1 hx;exact h y
theorem qabf {n:Nat} {H:AH} (r:Rw):mapO (snap (n+1) H) (Rw.c r)=some (Rw.c r):=by simp [Rw.c]
theorem qaec {n:Nat} {H:AH} (x:ActionCall):mapO (snap (n+1) H) (ActionCall.c x)=some (ActionCall.c x):=by simp [ActionCall.c]
structure CfgM (O:List (Nat×AO)) (v1 v2 v3 v4:AV) (V:List AV) (c:Config):Prop where
 r:Mu O 1 v1 (V.map fun v=>[v])
 rl:V.length=c.rows.length
 rv:∀(k:Nat) (v:AV) (l:List Rw),V[k]? =some v->c.rows[k]? =some l->Mu O 5 v (l.map Rw.c)
 n:Mu O 1 v2 (c.nextID.map cI)
 d:Mu O 2 v3 (c.defaults.map ActionCall.c)
 g:v4= .fslice 1 (c.registers.map (cS 1 c32))\/∃t,v4= .app 1 (c.registers.map (cS 1 c32)) t
 rn:∀i,vid v1=some i->vid v2=some i->False
 vi:∀(k k':Nat) (v v':AV) (i:Nat),V[k]? =some v->V[k']? =some v'->vid v=some i->vid v'=some i->k=k'
 va:∀v∈V,∀z es t,v≠ .app z es t
def CfgM.own (v1 v2 v3:AV) (V:List AV) (j:Nat):Prop:=vid v1=some j\/vid v2=some j\/vid v3=some j\/∃v∈V,vid v=some j
theorem CfgM.fr {O O':List (Nat×AO)} {v1 v2 v3 v4:AV} {V:List AV} {c:Config} (h:CfgM O v1 v2 v3 v4 V c) (hf:∀j,CfgM.own v1 v2 v3 V j->look j O'=look j O):CfgM O' v1 v2 v3 v4 V c:=by
 refine ⟨h.r.fr fun j hj=>hf j (.inl hj),h.rl,?_,h.n.fr fun j hj=>hf j (.inr (.inl hj)),h.d.fr fun j hj=>hf j (.inr (.inr (.inl hj))),h.g,h.rn,h.vi,h.va⟩;intro k v l hv hl;exact (h.rv k v l hv hl).fr fun j hj=>hf j (.inr (.inr (.inr ⟨v,Qe hv,hj⟩)))
theorem qsc {α β:Type} {f:α->Option β}:∀{l:List α} {m:List β},l.length=m.length->(∀(k:Nat) (x:α) (y:β),l[k]? =some x->m[k]? =some y->f x=some y)->mapO f l=some m
 | [],[],_,_=>rfl
 | [],_::_,h,_=>by simp at h
 | _::_,[],h,_=>by simp at h
 | a::l,b::m,h,hf=>by
  have h1:=hf 0 a b (by simp) (by simp);have h2:=qsc (f:=f) (l:=l) (m:=m) (by simpa using h) fun k x y hx hy=>hf (k+1) x y (by simpa using hx) (by simpa using hy)
  simp only [mapO,h1,h2]
@[simp] theorem qahj (b x:Bool) (H:AH):qd7 b H (some (.val (.bool x)))=some (.val (.bool x),H):=by cases b<;>simp
@[simp] theorem qain (b:Bool) (k:IntKind) (x:Int) (H:AH):qd7 b H (some (.val (.int k x)))=some (.val (.int k x),H):=by cases b<;>simp
section
variable {β:Type} {fin:Option (Ex×St)->Option β}
end
section
variable {O O':List (Nat×AO)} {N N' n id:Nat} {X:Nat->Prop} {o y:AO}
theorem Kp.app (h:Kp X N O O') (hn:N<=n):Kp X N O (O'++[(n,o)]):=by
 intro j hj hx;have:¬n=j:=by omega
 rw [qbr,h j hj hx];simp [this]
theorem Kp.drop (h:Kp X N O O') (hn:N<=id\/X id):Kp X N O (qcb id O'):=by
 intro j hj hx;rw [quf (by rintro rfl;rcases hn with hn | hn;omega;exact hx hn),h j hj hx]
theorem Kp.setl (h:Kp X N O O') (hn:N<=id\/X id):Kp X N O (setl id y O'):=by
 intro j hj hx;rw [qa3,if_neg (by rintro rfl;rcases hn with hn | hn;omega;exact hx hn),h j hj hx]
theorem Tail.app1 (h:Tail O' N') (hn:N'<=n):Tail (O'++[(n,o)]) (n+1):=by
 rw [qiz,qfp];exact ⟨h.mono (by omega),by omega,Tail.nil _⟩
theorem qca {j:Nat} {x y:AO} (h1:look id O=some x) (h2:look j O=some y) (h:x≠y):id≠j:=by
 rintro rfl;rw [h1] at h2;cases h2;exact h rfl
end
theorem Re.src {O:List (Nat×AO)} {z N:Nat} {v:AV} {es:List (List AV)} (h:Re O z v es):qc9 ⟨O,N⟩ v=some es:=by
 cases h with
 | sl=>rfl
 | fs=>rfl
 | ap=>rfl
 | row id _ es0 n hn hl hle ht=>
  subst hn;simp [hl,hle,ht]
structure RowsR (O:List (Nat×AO)) (v:AV) (A:List AV) (R:List (List Rw)):Prop where
 v:Re O 1 v (A.map fun x=>[x])
 len:A.length=R.length
 at_:∀(k:Nat) (x:AV) (l:List Rw),A[k]? =some x->R[k]? =some l->Re O 5 x (l.map Rw.c)
theorem Re.own {O:List (Nat×AO)} {z j:Nat} {v:AV} {es:List (List AV)} (h:Re O z v es) (hj:vid v=some j):∃x,look j O=some x:=by
 cases h with
 | sl=>cases hj
 | fs=>cases hj
 | ap=>cases hj
 | row id _ es0 n hn hl hle ht=>cases hj;exact ⟨_,hl⟩
theorem Re.kp {O O':List (Nat×AO)} {z N:Nat} {v:AV} {es:List (List AV)} {X:Nat->Prop} (h:Re O z v es) (hT:Tail O N) (hk:Kp X N O O') (hx:∀j,X j->look j O=none\/N<=j):Re O' z v es:=by
 refine h.fr fun j hj=>?_
 obtain ⟨x,hl⟩:=h.own hj;refine hk j (hT.lt hl) fun hc=>?_
 rcases hx j hc with h1 | h1
 ·rw [hl] at h1;cases h1
 ·have:=hT.lt hl;omega
theorem Mu.own {O:List (Nat×AO)} {z j:Nat} {v:AV} {es:List (List AV)} (h:Mu O z v es) (hj:vid v=some j):∃es0,look j O=some (.row z es0):=by
 cases h with
 | nilF=>cases hj
 | nilA=>cases hj
 | row id _ es0 n hn hl hle ht=>cases hj;exact ⟨_,hl⟩
structure RowsW (O:List (Nat×AO)) (N:Nat) (V:List AV) (R:List (List Rw)):Prop where
 len:V.length=R.length
 mu:∀(k:Nat) (v:AV) (l:List Rw),V[k]? =some v->R[k]? =some l->Mu O 5 v (l.map Rw.c)
 fresh:∀v∈V,∀j,vid v=some j->N<=j
 inj:∀(k k':Nat) (v v':AV) (i:Nat),V[k]? =some v->V[k']? =some v'->vid v=some i->vid v'=some i->k=k'
 na:∀v∈V,∀z es t,v≠ .app z es t
theorem RowsW.nil {O:List (Nat×AO)} {N:Nat}:RowsW O N [] []:=⟨rfl,by simp,by simp,by simp,by simp⟩
theorem RowsW.own {O:List (Nat×AO)} {N:Nat} {V:List AV} {R:List (List Rw)} (h:RowsW O N V R) {v:AV} {j:Nat} (hv:v∈V) (hj:vid v=some j):∃es0,look j O=some (.row 5 es0):=by
 obtain ⟨k,hk,rfl⟩:=Qn.1 hv;have hk2:k<R.length:=by rw [<- h.len];exact hk
 exact (h.mu k _ _ (Qa hk) (Qa hk2)).own hj
theorem RowsW.fr {O O':List (Nat×AO)} {N:Nat} {V:List AV} {R:List (List Rw)} (h:RowsW O N V R) (hf:∀j es0,look j O=some (.row 5 es0)->look j O'=look j O):RowsW O' N V R:=by
 refine ⟨h.len,?_,h.fresh,h.inj,h.na⟩;intro k v l hv hl;have hm:=h.mu k v l hv hl;refine hm.fr fun j hj=>?_
 obtain ⟨es0,h0⟩:=hm.own hj;exact hf j es0 h0
theorem RowsW.snoc {O O':List (Nat×AO)} {N N':Nat} {V:List AV} {R:List (List Rw)} {w:AV} {l:List Rw} (h:RowsW O N V R) (hT:Tail O N') (hN:N<=N') (hf:∀j es0,look j O=some (.row 5 es0)->look j O'=look j O) (hw:Mu O' 5 w (l.map Rw.c)) (hn:∀j,vid w=some j->N'<=j) (ha:∀z es t,w≠ .app z es t):RowsW O' N (V++[w]) (R++[l]):=by
 have h':=h.fr hf;have hlt:∀v∈V,∀j,vid v=some j->j<N':=by
  intro v hv j hj;obtain ⟨es0,h0⟩:=h.own hv hj;exact hT.lt h0
 have hlen:=h.len;refine ⟨by simp [hlen],?_,?_,?_,fun v hv=>by rcases List.mem_append.1 hv with hv | hv;exact h.na v hv;simp at hv;subst hv;exact ha⟩
 ·intro k v l' hv hl;by_cases hk:k<V.length
  ·rw [Ql hk] at hv;rw [Ql (by omega)] at hl;exact h'.mu k v l' hv hl
  ·have hk':k=V.length:=by
    have:=(Qm.1 hv).1;simp at this;omega
   subst hk';rw [Qp (by omega)] at hv;rw [Qp (by omega),hlen] at hl;simp at hv hl;subst hv hl;exact hw
 ·intro v hv j hj;rcases List.mem_append.1 hv with hv | hv
  ·exact h.fresh v hv j hj
  ·simp at hv;subst hv;have:=hn j hj;omega
 ·intro k k' v v' i hv hv' hi hi';have hb:=(Qm.1 hv).1;have hb':=(Qm.1 hv').1;simp at hb hb';by_cases hk:k<V.length
  ·by_cases hk':k'<V.length
   ·rw [Ql hk] at hv;rw [Ql hk'] at hv';exact h.inj k k' v v' i hv hv' hi hi'
   ·rw [Ql hk] at hv;rw [Qp (by omega)] at hv';have:k' - V.length=0:=by omega
    rw [this] at hv';simp at hv';subst hv';have h1:=hlt v (Qe hv) i hi;have h2:=hn i hi';omega
  ·by_cases hk':k'<V.length
   ·rw [Ql hk'] at hv';rw [Qp (by omega)] at hv;have:k - V.length=0:=by omega
    rw [this] at hv;simp at hv;subst hv;have h1:=hlt v' (Qe hv') i hi';have h2:=hn i hi;omega
   ·omega
section
variable {β:Type} {fin:Option (Ex×St)->Option β}
end
theorem qw6 {α:Type} {f:α->List AV} {l:List α} {i:Nat} {es0:List (List AV)} (hi:i<l.length) (ht:es0.take (l.map f).length=l.map f):es0[i]? =some (f l[i]):=by
 have h:(es0.take (l.map f).length)[i]? =(l.map f)[i]? :=by rw [ht]
 rw [List.getElem?_take_of_lt (by simpa using hi)] at h;rw [h];simp [hi]
def Im (z:Nat) (v:AV) (es:List (List AV)):Prop:=v= .slice z es\/v= .fslice z es\/∃t,v= .app z es t
theorem Im.len {z:Nat} {v:AV} {es:List (List AV)} (h:Im z v es):lenOf v=some es.length:=by
 rcases h with rfl | rfl | ⟨t,rfl⟩<;>rfl
section
variable {β:Type} {fin:Option (Ex×St)->Option β}
end
structure CfgR (O:List (Nat×AO)) (v1 v2 v3 v4:AV) (A:List AV) (c:Config):Prop where
 r:RowsR O v1 A c.rows
 n:Re O 1 v2 (c.nextID.map cI)
 d:Re O 2 v3 (c.defaults.map ActionCall.c)
 g:Im 1 v4 (c.registers.map (cS 1 c32))
structure CfgU (c:Config):Prop where
 t:CfgT c
 u:∀l∈c.rows,l.length<2^39
theorem CfgR.kp {O O':List (Nat×AO)} {v1 v2 v3 v4:AV} {A:List AV} {c:Config} {N:Nat} {X:Nat->Prop} (h:CfgR O v1 v2 v3 v4 A c) (hT:Tail O N) (hk:Kp X N O O') (hx:∀j,X j->look j O=none\/N<=j):CfgR O' v1 v2 v3 v4 A c:=
 ⟨⟨h.r.v.kp hT hk hx,h.r.len,fun k x l ha hl=>(h.r.at_ k x l ha hl).kp hT hk hx⟩,h.n.kp hT hk hx,h.d.kp hT hk hx,h.g⟩
def entsF:List Rw->Nat->List (AV×AV)
 | [],_=>[]
 | r::l,n=>(.int .i64 r.id,.int .i64 n)::entsF l (n+1)
def ents (l:List Rw):List (AV×AV):=entsF l 0
structure SV where
 s:Nat
 v1:AV
 v2:AV
 v3:AV
 v4:AV
 vi:AV
 V:List AV
 M:List Nat
def SV.cells (S:SV) (p:Prg):List AV:=S.v1::S.v2::S.v3::S.v4::(Prg.c p++[S.vi,.bool true])
structure IdxM (O:List (Nat×AO)) (vi:AV) (M:List Nat) (R:List (List Rw)):Prop where
 i:Mu O 1 vi (M.map fun m=>[.map m])
 len:M.length=R.length
 m:∀(k m:Nat) (l:List Rw),M[k]? =some m->R[k]? =some l->look m O=some (.map (ents l))
 nd:∀(k k' m:Nat),M[k]? =some m->M[k']? =some m->k=k'
structure StoreM (O:List (Nat×AO)) (S:SV) (p:Prg) (c:Config):Prop where
 s:look S.s O=some (.row 15 [S.cells p])
 cm:CfgM O S.v1 S.v2 S.v3 S.v4 S.V c
 x:IdxM O S.vi S.M c.rows
 ri:∀i,vid S.v1=some i->vid S.vi=some i->False
 ni:∀i,vid S.v2=some i->vid S.vi=some i->False
def SV.own (S:SV) (j:Nat):Prop:=j=S.s\/CfgM.own S.v1 S.v2 S.v3 S.V j\/vid S.vi=some j\/j∈S.M
theorem IdxM.fr {O O':List (Nat×AO)} {vi:AV} {M:List Nat} {R:List (List Rw)} (h:IdxM O vi M R) (hf:∀j,vid vi=some j\/j∈M->look j O'=look j O):IdxM O' vi M R:=
 ⟨h.i.fr fun j hj=>hf j (.inl hj),h.len,fun k m l hm hl=>by rw [hf m (.inr (Qe hm))];exact h.m k m l hm hl,h.nd⟩
theorem StoreM.fr {O O':List (Nat×AO)} {S:SV} {p:Prg} {c:Config} (h:StoreM O S p c) (hf:∀j,S.own j->look j O'=look j O):StoreM O' S p c:=
 ⟨by rw [hf _ (.inl rfl)];exact h.s,h.cm.fr fun j hj=>hf j (.inr (.inl hj)),h.x.fr fun j hj=>hf j (.inr (.inr hj)),h.ri,h.ni⟩
theorem CfgM.own_lk {O:List (Nat×AO)} {v1 v2 v3 v4:AV} {V:List AV} {c:Config} (h:CfgM O v1 v2 v3 v4 V c) {j:Nat} (hj:CfgM.own v1 v2 v3 V j):∃z es,look j O=some (.row z es)/\(z=1\/z=2\/z=5):=by
 rcases hj with hj | hj | hj | ⟨v,hv,hj⟩
 ·obtain ⟨es,hl⟩:=h.r.own hj;exact ⟨1,es,hl,.inl rfl⟩
 ·obtain ⟨es,hl⟩:=h.n.own hj;exact ⟨1,es,hl,.inl rfl⟩
 ·obtain ⟨es,hl⟩:=h.d.own hj;exact ⟨2,es,hl,.inr (.inl rfl)⟩
 ·obtain ⟨k,hk,rfl⟩:=Qn.1 hv;have hk2:k<c.rows.length:=by rw [<- h.rl];exact hk
  obtain ⟨es,hl⟩:=(h.rv k _ _ (Qa hk) (Qa hk2)).own hj;exact ⟨5,es,hl,.inr (.inr rfl)⟩
theorem IdxM.own_lk {O:List (Nat×AO)} {vi:AV} {M:List Nat} {R:List (List Rw)} (h:IdxM O vi M R) {j:Nat} (hj:j∈M):∃es,look j O=some (.map es):=by
 obtain ⟨k,hk,rfl⟩:=Qn.1 hj;have hk2:k<R.length:=by rw [<- h.len];exact hk
 exact ⟨_,h.m k _ _ (Qa hk) (Qa hk2)⟩
theorem StoreM.own_lk {O:List (Nat×AO)} {S:SV} {p:Prg} {c:Config} (h:StoreM O S p c) {j:Nat} (hj:S.own j):∃x,look j O=some x/\x≠ .res:=by
 rcases hj with rfl | hj | hj | hj
 ·exact ⟨_,h.s,by simp⟩
 ·obtain ⟨z,es,hl,_⟩:=h.cm.own_lk hj;exact ⟨_,hl,by simp⟩
 ·obtain ⟨es,hl⟩:=h.x.i.own hj;exact ⟨_,hl,by simp⟩
 ·obtain ⟨es,hl⟩:=h.x.own_lk hj;exact ⟨_,hl,by simp⟩
theorem StoreM.kp {O O':List (Nat×AO)} {N:Nat} {X:Nat->Prop} {S:SV} {p:Prg} {c:Config} (h:StoreM O S p c) (hT:Tail O N) (hk:Kp X N O O') (hx:∀j,S.own j->¬X j):StoreM O' S p c:=by
 refine h.fr fun j hj=>?_
 obtain ⟨x,hl,_⟩:=h.own_lk hj;exact hk j (hT.lt hl) (hx j hj)
theorem CfgM.re {O:List (Nat×AO)} {v1 v2 v3 v4:AV} {V:List AV} {c:Config} (h:CfgM O v1 v2 v3 v4 V c):CfgR O v1 v2 v3 v4 V c:=
 ⟨⟨h.r.re,h.rl,fun k x l hx hl=>(h.rv k x l hx hl).re⟩,h.n.re,h.d.re,by rcases h.g with e | ⟨t,e⟩;exact .inr (.inl e);exact .inr (.inr ⟨t,e⟩)⟩
theorem CfgR.imm {O:List (Nat×AO)} (c:Config):CfgR O (.slice 1 (c.rows.map (cS 5 Rw.c))) (.slice 1 (c.nextID.map cI)) (.slice 2 (c.defaults.map ActionCall.c)) (.slice 1 (c.registers.map (cS 1 c32))) (c.rows.map fun l=> .slice 5 (l.map Rw.c)) c:=by
 refine ⟨⟨?_,by simp,?_⟩,.sl _,.sl _,.inl rfl⟩
 ·have:(c.rows.map fun l=>AV.slice 5 (l.map Rw.c)).map (fun x=>[x])=c.rows.map (cS 5 Rw.c):=by
   rw [List.map_map];rfl
  rw [this];exact .sl _
 ·intro k x l hx hl;rw [List.getElem?_map,hl] at hx;cases hx;exact .sl _
def Rs (O:List (Nat×AO)) (j:Nat):Prop:=look j O=some .res
theorem qrs {O:List (Nat×AO)} {n p:Nat} {o:AO} (h:Tail O n) (hp:p<n):Tail (O++[(p,o)]) n:=by
 rw [qiz,qfp];exact ⟨h,hp,Tail.nil _⟩
end Go.Av
