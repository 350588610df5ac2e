/-
 The rows of a table: the reference's check.
-/
import Derived.Test.YtakklbipljodeaaGreatE1K
set_option linter.unusedVariables false
set_option linter.unusedSimpArgs false
set_option linter.constructorNameAsVariable false
namespace Go.Av
set_option maxRecDepth 4000
theorem rt_b (p:Prg) (f:PrgS p) (hv:∀t∈p.tables,∀v∈t.dflt.args,ok32 0 v) (t:Int) (l:List Rw) (next:Int) (hl:l.length<2^40) (hs:∀r∈l,rowS r) (a:Int) (e:Env) (n:Nat)
  (h1:look 1 e=some (.int .i64 t)) (h2:look 2 e=some (.slice 5 (l.map Rw.c))) (h3:look 3 e=some (.int .i64 next)) (h4:look 4 e=some (.iptr 9 [Prg.c p] 0 0)) (h9:look 9 e=some (.int .i64 a)):
  go Φ (finP [.tmp 8]) [.c c_67_k3] .normal ⟨e,⟨[],n⟩⟩=some (.val (.int .i64 (tabK p t l next 0 (some a)))):=by
 unfold tabK;dsimp only;by_cases z0:next<=a
 ·simp [c_67_k3,h3,h9,z0]
 by_cases z2:1073741824<next
 ·simp [c_67_k3,h3,h9,z0,z2]
 rw [if_neg z0,if_neg z2];simp [c_67_k3,h3,h9,z0,z2];refine qav l.length (fun _=>[]) 0 (fun i e=>look 1 e=some (.int .i64 t)/\look 2 e=some (.slice 5 (l.map Rw.c))/\look 4 e=some (.iptr 9 [Prg.c p] 0 0)/\look 11 e=some (.int .i64 i))
  (fun i=>some (Rt.val (.int .i64 ((fe (rowG p t l) l.length i).getD 0)))) ?_ ?_ 0 _ n (Qc _) (Qc _) ?_
 ·rintro i e n L hi hL _ ⟨h1,h2,h4,h11⟩ ih;have hw:=qaf i (by omega);have hm:=hs _ (Qd hi);have hc:=qvy p f hv t l[i].entry hm;have hi':i<=l.length:=by omega
  have hx:qab Φ f_154 [.slice 5 ((l.map Rw.c).take i),.agg (Entry.c l[i].entry)]=some (.val (.bool ((l.take i).any fun x=>sk x.entry l[i].entry))):=by
   rw [<- List.map_take];exact qwl (l.take i) l[i].entry (by simp;omega) fun x hx=>(hs x (Qu hx)).kl
  simp only [Prg.e,Entry.ce] at hc;rw [Entry.ce] at hx;rw [Prg.e] at h4;by_cases v:entE p t l[i].entry=0
  ·rw [v] at hc;cases w:(l.take i).any fun x=>sk x.entry l[i].entry with
   | true=>
    rw [w] at hx;rw [qaj (x:=(7:Int)) hi (by simp only [rowG,Qa hi,Option.bind_some];rw [if_neg (by simp [v]),if_pos w])];simp [c_67_l1,Rw.ce,h1,h2,h4,h11,hi,hi',hc,hx]
   | false=>
    rw [w] at hx;rw [qar hi (by simp only [rowG,Qa hi,Option.bind_some];rw [if_neg (by simp [v]),if_neg (by rw [w];decide)])];generalize hX:some (Rt.val (AV.int .i64 ((fe (rowG p t l) l.length (i+1)).getD 0)))=X;simp [c_67_l1,Rw.ce,h1,h2,h4,h11,hi,hi',hc,hx,hw];rw [<- hX];exact ih _ _ (Qc _) ⟨by simp [h1],by simp [h2],by simp [h4,Prg.e],by simp⟩
  ·rw [qaj (x:=entE p t l[i].entry) hi (by simp only [rowG,Qa hi,Option.bind_some];rw [if_pos v])];simp [c_67_l1,Rw.ce,h1,h2,h4,h11,hi,hc,v]
 ·rintro e n L hL _ ⟨h1,h2,h4,h11⟩;rw [qa4];simp [c_67_l1,c_67_k2,h2,h11,hL]
 ·simp [h1,h2,h4]
theorem qafg (p:Prg) (f:PrgS p) (hv:∀t∈p.tables,∀v∈t.dflt.args,ok32 0 v) (k:Nat) (hk:k<p.tables.length) (l:List Rw) (next:Int) (hl:l.length<2^40) (hs:∀r∈l,rowS r):
  qab Φ f_67 [.agg (Prg.c p),.int .i64 k,.slice 5 (l.map Rw.c),.int .i64 next]=some (.val (.int .i64 (if p.tables[k].size<l.length then 12 else tabK p k l next 0 (ordL l 0)))):=by
 rw [qaa (fn:=c_67) rfl rfl];by_cases z:p.tables[k].size<(l.length:Int)
 ·simp [c_67,Prg.e,Tbl.e,hk,z]
 rw [if_neg z];simp [c_67,Prg.e,Tbl.e,hk,z];refine qav l.length (fun _=>[]) 0 (fun i e=>look 1 e=some (.int .i64 k)/\look 2 e=some (.slice 5 (l.map Rw.c))/\look 3 e=some (.int .i64 next)/\look 4 e=some (.iptr 9 [Prg.c p] 0 0)/\look 10 e=some (.int .i64 i)/\∃a:Int,look 9 e=some (.int .i64 a)/\ordL (l.drop i) a=ordL l 0)
  (fun _=>some (Rt.val (.int .i64 (tabK p k l next 0 (ordL l 0))))) ?_ ?_ 0 _ 0 (Qc _) (Qc _) ?_
 ·rintro i e n L hi hL _ ⟨h1,h2,h3,h4,h10,a,h9,ho⟩ ih;have hw:=qaf i (by omega);rw [Qi hi] at ho;simp only [ordL] at ho;by_cases y:l[i].id<=a
  ·rw [if_pos y] at ho;rw [<- ho];simp [c_67_l0,Rw.ce,h2,h10,h9,hi,y,tabK]
  ·rw [if_neg y] at ho;generalize hX:some (Rt.val (AV.int .i64 (tabK p k l next 0 (ordL l 0))))=X;simp [c_67_l0,Rw.ce,h2,h10,h9,hi,y,hw];rw [<- hX];exact ih _ _ (Qc _) ⟨by simp [h1],by simp [h2],by simp [h3],by simp [h4],by simp,l[i].id,by simp,ho⟩
 ·rintro e n L hL _ ⟨h1,h2,h3,h4,h10,a,h9,ho⟩;rw [List.drop_length] at ho;simp only [ordL] at ho;rw [<- ho];generalize hX:some (Rt.val (AV.int .i64 (tabK p k l next 0 (some a))))=X;simp [c_67_l0,h2,h10,hL];rw [<- hX];exact rt_b p f hv k l next hl hs a _ _ (by simp [h1]) (by simp [h2]) (by simp [h3]) (by simp [h4]) (by simp [h9])
 ·simp [Prg.e]
def mxF:List Int->Int->Int
 | [],a=>a
 | x::r,a=>mxF r (max a x)
theorem qab1 (M:Int):∀(l:List Int) (a:Int),M<mxF l a↔M<a\/∃x∈l,M<x
 | [],a=>by simp [mxF]
 | x::r,a=>by
  have ih:=qab1 M r (max a x);simp only [mxF,ih,List.mem_cons,exists_eq_or_imp];constructor
  ·rintro (h | h)
   ·by_cases q:M<a
    ·exact .inl q
    ·exact .inr (.inl (by omega))
   ·exact .inr (.inr h)
  ·rintro (h | h | h)
   ·exact .inl (by omega)
   ·exact .inl (by omega)
   ·exact .inr h
theorem qakk (l:List Int) (h0:0<l.length) (hl:l.length<2^40):qab Φ f_151 [.slice 1 (l.map c32)]=some (.val (.int .u32 (mxF l.tail l[0]))):=by
 rw [qaa (fn:=c_151) rfl rfl];have h1:¬(l.length:Int)<1:=by omega
 simp [c_151,h0,h1,c32];refine qav l.length (fun _=>[]) 0 (fun i e=>look 0 e=some (.slice 1 (l.map c32))/\look 4 e=some (.int .i64 i)/\∃a:Int,look 3 e=some (.int .u32 a)/\mxF (l.drop i) a=mxF l.tail l[0])
  (fun _=>some (Rt.val (.int .u32 (mxF l.tail l[0])))) ?_ ?_ 1 _ 0 (by omega) (Qc _) ?_
 ·rintro i e n L hi hL _ ⟨h0,h4,a,h3,hm⟩ ih;have hw:=qaf i (by omega);rw [Qi hi] at hm;simp only [mxF] at hm;generalize hX:some (Rt.val (AV.int .u32 (mxF l.tail l[0])))=X;simp [c_151_l0,c32,h0,h4,h3,hi,hw];rw [<- hX];exact ih _ _ (Qc _) ⟨by simp [h0],by simp,max a l[i],by simp;split<;>omega,hm⟩
 ·rintro e n L hL _ ⟨h0,h4,a,h3,hm⟩;rw [List.drop_length] at hm;simp only [mxF] at hm;rw [<- hm];simp [c_151_l0,c_151_k1,h0,h4,h3,hL]
 ·simp
def szG (p:Prg) (rs:List (List Int)) (i:Nat):Option Int:=match rs[i]?,p.registers[i]? with
 | some l,some r=>if (l.length:Int)=r.size then none else some 2
 | _,_=>none
def vlG (p:Prg) (rs:List (List Int)) (i:Nat):Option Int:=match rs[i]?,p.registers[i]? with
 | some l,some r=>if l.any (fun v=>decide (qbm r.width<v))=true then some 9 else none
 | _,_=>none
def conE (p:Prg) (rs:List (List Int)):Int:=if rs.length≠p.registers.length then 2 else (fe (szG p rs) rs.length 0).getD ((fe (vlG p rs) rs.length 0).getD 0)
theorem con_b (p:Prg) (f:PrgS p) (rs:List (List Int)) (hl:rs.length<2^40) (hs:∀l∈rs,l.length<2^40) (hz:rs.length=p.registers.length) (e:Env) (n:Nat)
  (h1:look 1 e=some (.slice 1 (rs.map (cS 1 c32)))) (h2:look 2 e=some (.iptr 9 [Prg.c p] 0 0)):
  go Φ (finP [.tmp 4]) [.c c_65_k3] .normal ⟨e,⟨[],n⟩⟩=some (.val (.int .i64 ((fe (vlG p rs) rs.length 0).getD 0))):=by
 simp [c_65_k3,h1];refine qav rs.length (fun _=>[]) 0 (fun i e=>look 2 e=some (.iptr 9 [Prg.c p] 0 0)/\look 32 e=some (.slice 1 (rs.map (cS 1 c32)))/\look 33 e=some (.int .i64 rs.length)/\look 34 e=some (.int .i64 i))
  (fun i=>some (Rt.val (.int .i64 ((fe (vlG p rs) rs.length i).getD 0)))) ?_ ?_ 0 _ n (Qc _) (Qc _) ?_
 ·rintro i e n L hi hL _ ⟨h2,h32,h33,h34⟩ ih;have hw:=qaf i (by omega);have hi2:i<p.registers.length:=by omega
  have hm:=qgd p.registers[i].width;rw [Prg.e] at h2;by_cases e0:rs[i].length=0
  ·have e1:rs[i]=[]:=Qg e0;rw [qar hi (by simp [vlG,hi,hi2,e1])];generalize hX:some (Rt.val (AV.int .i64 ((fe (vlG p rs) rs.length (i+1)).getD 0)))=X;simp [c_65_l1,cSe,h32,h33,h34,hi,hw,e1];rw [<- hX];exact ih _ _ (Qc _) ⟨by simp [h2,Prg.e],by simp [h32],by simp [h33],by simp⟩
  have e1:0<rs[i].length:=by omega
  have hx:=qakk rs[i] e1 (hs _ (Qd hi));have hy:rs[i].any (fun v=>decide (qbm p.registers[i].width<v))=decide (qbm p.registers[i].width<mxF rs[i].tail rs[i][0]):=by
   rw [Bool.eq_iff_iff,decide_eq_true_eq,qab1,List.any_eq_true];have hd:rs[i]=rs[i][0]::rs[i].tail:=by
    have:=Qi e1;simpa using this
   constructor
   ·rintro ⟨x,hx,hv⟩;rw [hd] at hx;rcases List.mem_cons.1 hx with rfl | hx
    ·exact .inl (of_decide_eq_true hv)
    ·exact .inr ⟨x,hx,of_decide_eq_true hv⟩
   ·rintro (h | ⟨x,hx,hv⟩)
    ·exact ⟨_,Qd e1,decide_eq_true h⟩
    ·exact ⟨x,List.mem_of_mem_tail hx,decide_eq_true hv⟩
  by_cases v:qbm p.registers[i].width<mxF rs[i].tail rs[i][0]
  ·rw [qaj (x:=(9:Int)) hi (by simp only [vlG,Qa hi,Qa hi2];rw [hy,if_pos (decide_eq_true v)])];simp [c_65_l1,cSe,Register.e,h2,h32,h33,h34,hi,hi2,e1,hx,hm,v]
  ·rw [qar hi (by simp only [vlG,Qa hi,Qa hi2];rw [hy,if_neg (by simpa using v)])];generalize hX:some (Rt.val (AV.int .i64 ((fe (vlG p rs) rs.length (i+1)).getD 0)))=X;simp [c_65_l1,cSe,Register.e,h2,h32,h33,h34,hi,hi2,e1,hx,hm,v,hw];rw [<- hX];exact ih _ _ (Qc _) ⟨by simp [h2,Prg.e],by simp [h32],by simp [h33],by simp⟩
 ·rintro e n L hL _ ⟨h2,h32,h33,h34⟩;rw [qa4];simp [c_65_l1,c_65_k2,h33,h34,hL]
 ·simp [h2]
theorem qagv (p:Prg) (f:PrgS p) (rs:List (List Int)) (hl:rs.length<2^40) (hs:∀l∈rs,l.length<2^40):qab Φ f_65 [.agg (Prg.c p),.slice 1 (rs.map (cS 1 c32))]=some (.val (.int .i64 (conE p rs))):=by
 rw [qaa (fn:=c_65) rfl rfl];unfold conE;by_cases z:rs.length=p.registers.length
 rotate_left
 ·simp [c_65,Prg.e,z]
 rw [if_neg (by simpa using z)];generalize hY:some (Rt.val (AV.int .i64 ((fe (szG p rs) rs.length 0).getD ((fe (vlG p rs) rs.length 0).getD 0))))=Y;simp [c_65,Prg.e,z];rw [<- hY];refine qav rs.length (fun _=>[]) 0 (fun i e=>look 1 e=some (.slice 1 (rs.map (cS 1 c32)))/\look 2 e=some (.iptr 9 [Prg.c p] 0 0)/\look 15 e=some (.slice 1 (rs.map (cS 1 c32)))/\look 16 e=some (.int .i64 rs.length)/\look 17 e=some (.int .i64 i))
  (fun i=>some (Rt.val (.int .i64 ((fe (szG p rs) rs.length i).getD ((fe (vlG p rs) rs.length 0).getD 0))))) ?_ ?_ 0 _ 0 (Qc _) (Qc _) ?_
 ·rintro i e n L hi hL _ ⟨h1,h2,h15,h16,h17⟩ ih;have hw:=qaf i (by omega);have hi2:i<p.registers.length:=by omega
  rw [Prg.e] at h2;by_cases v:(rs[i].length:Int)=p.registers[i].size
  ·rw [qar hi (by simp [szG,hi,hi2,v])];generalize hX:some (Rt.val (AV.int .i64 ((fe (szG p rs) rs.length (i+1)).getD ((fe (vlG p rs) rs.length 0).getD 0))))=X;simp [c_65_l0,cSe,Register.e,h2,h15,h16,h17,hi,hi2,v,hw];rw [<- hX];exact ih _ _ (Qc _) ⟨by simp [h1],by simp [h2,Prg.e],by simp [h15],by simp [h16],by simp⟩
  ·rw [qaj (x:=(2:Int)) hi (by simp [szG,hi,hi2,v])];simp [c_65_l0,cSe,Register.e,h2,h15,h16,h17,hi,hi2,v]
 ·rintro e n L hL _ ⟨h1,h2,h15,h16,h17⟩;rw [qa4];generalize hX:some (Rt.val (AV.int .i64 ((none:Option Int).getD ((fe (vlG p rs) rs.length 0).getD 0))))=X;simp [c_65_l0,h16,h17,hL];rw [<- hX];exact con_b p f rs hl hs z _ _ (by simp [h1]) (by simp [h2])
 ·simp [Prg.e,z]
def wd (w:Int):Nat:=if wBad w then 0 else w.toNat
theorem wd_le (w:Int):wd w<=32:=by
 unfold wd;cases q:wBad w with
 | true=>simp
 | false=>
  obtain ⟨w1,w2⟩:=wBad_false.1 q;simp;omega
theorem qu4 (w v:Int):qbm w<v↔¬v<2^wd w:=by
 unfold qbm wd;cases q:wBad w with
 | true=>simp;omega
 | false=>simp;omega
theorem qak8 (r:Register):qab Φ f_158 [.agg (Register.c r)]=some (.val (.int .i64 (wd r.width))):=by
 rw [qaa (fn:=c_158) rfl rfl];by_cases h1:r.width<1
 ·simp [c_158,Register.e,h1,wd,wBad]
 by_cases h2:32<r.width
 ·simp [c_158,Register.e,h1,h2,wd,wBad]
 simp [c_158,Register.e,h1,h2,wd,wBad];omega
theorem qakz (p:Prg) (rs:List (List Int)) (hl:rs.length<2^40) (hs:∀l∈rs,l.length<2^40/\∀v∈l,ok32 0 v) (hz:rs.length=p.registers.length) (e:Env) (n:Nat)
  (h1:look 1 e=some (.slice 1 (rs.map (cS 1 c32)))) (h2:look 2 e=some (.iptr 9 [Prg.c p] 0 0)):
  go Φ (finP [.tmp 4]) [.c c_69_k5] .normal ⟨e,⟨[],n⟩⟩=some (.val (.int .i64 ((fe (vlG p rs) rs.length 0).getD 0))):=by
 simp [c_69_k5];refine qav rs.length (fun _=>[]) 0 (fun i e=>look 1 e=some (.slice 1 (rs.map (cS 1 c32)))/\look 2 e=some (.iptr 9 [Prg.c p] 0 0)/\look 6 e=some (.int .i64 i))
  (fun i=>some (Rt.val (.int .i64 ((fe (vlG p rs) rs.length i).getD 0)))) ?_ ?_ 0 _ n (Qc _) (Qc _) ?_
 ·rintro i e n L hi hL _ ⟨h1,h2,h6⟩ ih;have hw:=qaf i (by omega);have hi2:i<p.registers.length:=by omega
  have hm:=hs _ (Qd hi);have hwd:=qak8 p.registers[i];simp only [Register.e] at hwd;have hV:fe (vlG p rs) rs.length i=if rs[i].any (fun v=>decide (qbm p.registers[i].width<v))=true then some 9 else fe (vlG p rs) rs.length (i+1):=by
   by_cases y:rs[i].any (fun v=>decide (qbm p.registers[i].width<v))=true
   ·rw [if_pos y];exact qaj hi (by simp only [vlG,Qa hi,Qa hi2];rw [if_pos y])
   ·rw [if_neg y];exact qar hi (by simp only [vlG,Qa hi,Qa hi2];rw [if_neg y])
  generalize hX:some (Rt.val (AV.int .i64 ((fe (vlG p rs) rs.length (i+1)).getD 0)))=X at ih;generalize hY:some (Rt.val (AV.int .i64 ((fe (vlG p rs) rs.length i).getD 0)))=Y;have hYX:Y=if rs[i].any (fun v=>decide (qbm p.registers[i].width<v))=true then some (Rt.val (AV.int .i64 9)) else X:=by
   rw [<- hY,<- hX,hV];split<;>rfl
  simp [c_69_l3,h1,h6,hi];refine (qav rs[i].length (fun _=>[]) 0 (fun j e=>look 1 e=some (.slice 1 (rs.map (cS 1 c32)))/\look 2 e=some (.iptr 9 [Prg.c p] 0 0)/\look 6 e=some (.int .i64 i)/\look 7 e=some (.int .i64 j))
   (fun j=>if (rs[i].drop j).any (fun v=>decide (qbm p.registers[i].width<v))=true then some (Rt.val (AV.int .i64 9)) else X) ?_ ?_ 0 _ n (Qc _) (Qc _) ?_).trans (by rw [hYX,List.drop_zero])
  ·rintro j e n L' hj hL' _ ⟨h1,h2,h6,h7⟩ ih';have hw':=qaf j (by omega);have hf:=qle rs[i][j] (hm.2 _ (Qd hj)) (wd p.registers[i].width) (wd_le _);rw [Prg.e] at h2;rw [Qi hj,List.any_cons];by_cases v:rs[i][j]<2^wd p.registers[i].width
   ·rw [decide_eq_true v] at hf;rw [show decide (qbm p.registers[i].width<rs[i][j])=false from decide_eq_false fun h=>(qu4 _ _).1 h v,Bool.false_or];generalize hZ:(if (rs[i].drop (j+1)).any (fun v=>decide (qbm p.registers[i].width<v))=true then some (Rt.val (AV.int .i64 9)) else X)=Z;simp [c_69_l1,cSe,c32,Register.e,h1,h2,h6,h7,hi,hi2,hj,hwd,hf,hw'];rw [<- hZ];exact ih' _ _ (Qc _) ⟨by simp [h1],by simp [h2,Prg.e],by simp [h6],by simp⟩
   ·rw [decide_eq_false v] at hf;rw [show decide (qbm p.registers[i].width<rs[i][j])=true from decide_eq_true ((qu4 _ _).2 v),Bool.true_or,if_pos rfl];simp [c_69_l1,cSe,c32,Register.e,h1,h2,h6,h7,hi,hi2,hj,hwd,hf]
  ·rintro e n L' hL' _ ⟨h1,h2,h6,h7⟩;rw [List.drop_length,List.any_nil,if_neg (by decide)];simp [c_69_l1,cSe,h1,h6,h7,hi,hL',c_69_k2,hw];exact ih _ _ (Qc _) ⟨by simp [h1],by simp [h2],by simp⟩
  ·simp [h1,h2,h6]
 ·rintro e n L hL _ ⟨h1,h2,h6⟩;rw [qa4];simp [c_69_l3,c_69_k4,h1,h6,hL]
 ·simp [h1,h2]
theorem qae0 (p:Prg) (rs:List (List Int)) (hl:rs.length<2^40) (hs:∀l∈rs,l.length<2^40/\∀v∈l,ok32 0 v):qab Φ f_69 [.agg (Prg.c p),.slice 1 (rs.map (cS 1 c32))]=some (.val (.int .i64 (conE p rs))):=by
 rw [qaa (fn:=c_69) rfl rfl];unfold conE;by_cases z:rs.length=p.registers.length
 rotate_left
 ·simp [c_69,Prg.e,z]
 rw [if_neg (by simpa using z)];generalize hY:some (Rt.val (AV.int .i64 ((fe (szG p rs) rs.length 0).getD ((fe (vlG p rs) rs.length 0).getD 0))))=Y;simp [c_69,Prg.e,z];rw [<- hY];refine qav rs.length (fun _=>[]) 0 (fun i e=>look 1 e=some (.slice 1 (rs.map (cS 1 c32)))/\look 2 e=some (.iptr 9 [Prg.c p] 0 0)/\look 5 e=some (.int .i64 i))
  (fun i=>some (Rt.val (.int .i64 ((fe (szG p rs) rs.length i).getD ((fe (vlG p rs) rs.length 0).getD 0))))) ?_ ?_ 0 _ 0 (Qc _) (Qc _) ?_
 ·rintro i e n L hi hL _ ⟨h1,h2,h5⟩ ih;have hw:=qaf i (by omega);have hi2:i<p.registers.length:=by omega
  rw [Prg.e] at h2;by_cases v:(rs[i].length:Int)=p.registers[i].size
  ·rw [qar hi (by simp [szG,hi,hi2,v])];generalize hX:some (Rt.val (AV.int .i64 ((fe (szG p rs) rs.length (i+1)).getD ((fe (vlG p rs) rs.length 0).getD 0))))=X;simp [c_69_l0,cSe,Register.e,h1,h2,h5,hi,hi2,v,hw];rw [<- hX];exact ih _ _ (Qc _) ⟨by simp [h1],by simp [h2,Prg.e],by simp⟩
  ·rw [qaj (x:=(2:Int)) hi (by simp [szG,hi,hi2,v])];simp [c_69_l0,cSe,Register.e,h1,h2,h5,hi,hi2,v]
 ·rintro e n L hL _ ⟨h1,h2,h5⟩;rw [qa4];generalize hX:some (Rt.val (AV.int .i64 ((none:Option Int).getD ((fe (vlG p rs) rs.length 0).getD 0))))=X;simp [c_69_l0,h1,h5,hL];rw [<- hX];exact qakz p rs hl hs z _ _ (by simp [h1]) (by simp [h2])
 ·simp [Prg.e]
structure CfgT (a:Config):Prop where
 rl:a.rows.length<2^40
 rs:∀l∈a.rows,l.length<2^40/\∀r∈l,rowS r
 nl:a.nextID.length<2^40
 dl:a.defaults.length<2^40
 ds:∀d∈a.defaults,d.args.length<2^40/\∀v∈d.args,ok32 0 v
 gl:a.registers.length<2^40
 gs:∀l∈a.registers,l.length<2^40/\∀v∈l,ok32 0 v
theorem qail {B:Nat} (hB:B<2^40) {r:Rw} (o:r.Ok B):rowS r:=by
 simp only [Rw.Ok,Entry.Ok,ActionCall.Ok] at o;obtain ⟨_,o1,_,_,o2⟩:=o;exact ⟨by have:=o1.1;omega,fun m hm=>o1.2 m hm,by have:=o2.1;omega,fun v hv=>o2.2 v hv⟩
theorem qqg {a:Config} (o:a.Ok qa6):CfgT a:=by
 obtain ⟨o0,o1,o2,o3⟩:=o;have e:=qdo;refine ⟨by have:=o0.1;omega,?_,by have:=o1.1;omega,by have:=o2.1;omega,?_,by have:=o3.1;omega,?_⟩
 ·intro l hl;have:=o0.2 l hl;exact ⟨by have:=this.1;omega,fun r hr=>qail (by omega) (this.2 r hr)⟩
 ·intro d hd;have:=o2.2 d hd;simp only [ActionCall.Ok] at this;exact ⟨by have:=this.2.1;omega,fun v hv=>this.2.2 v hv⟩
 ·intro l hl;have:=o3.2 l hl;exact ⟨by have:=this.1;omega,fun v hv=>this.2 v hv⟩
def rowE (p:Prg) (k:Nat) (tb:Tbl) (l:List Rw) (nx:Int) (z:Int):Int:=if tb.size<l.length then 12 else tabK p k l nx z (ordL l 0)
theorem qali (p:Prg) (t:Int) (l:List Rw) (nx z:Int) (o:Option Int):tabK p t l nx z o=if tabK p t l nx 0 o≠0 then tabK p t l nx 0 o else z:=by
 cases o with
 | none=>simp [tabK]
 | some a=>
  simp only [tabK];by_cases z0:nx<=a
  ·simp [z0]
  by_cases z1:1073741824<nx
  ·simp [z0,z1]
  simp only [if_neg z0,if_neg z1];cases q:fe (rowG p t l) l.length 0 with
  | none=>simp
  | some x=>
   have hx:x≠0:=by
    obtain ⟨k,hk,hx⟩:=qds q;simp only [rowG,Qt] at hx;obtain ⟨r,_,hr⟩:=hx;split at hr
    ·cases hr;assumption
    ·split at hr
     ·cases hr;decide
     ·cases hr
   simp [hx]
theorem qak4 (p:Prg) (k:Nat) (tb:Tbl) (l:List Rw) (nx z:Int):rowE p k tb l nx z=if rowE p k tb l nx 0≠0 then rowE p k tb l nx 0 else z:=by
 unfold rowE;split
 ·simp
 ·exact qali _ _ _ _ _ _
def stG (p:Prg) (c:Config) (k:Nat):Option Int:=match p.tables[k]?,c.rows[k]?,c.nextID[k]?,c.defaults[k]? with
 | some tb,some l,some nx,some d=>if rowE p k tb l nx (qa7 p k d)=0 then none else some (rowE p k tb l nx (qa7 p k d))
 | _,_,_,_=>none
def cfgE (p:Prg) (c:Config):Int:=if (prgD p).1≠0 then (prgD p).1 else if c.rows.length≠p.tables.length\/c.nextID.length≠p.tables.length\/c.defaults.length≠p.tables.length then 2
 else (fe (stG p c) p.tables.length 0).getD (conE p c.registers)
theorem qqn (p:Prg) (f:PrgS p) (hc:(pre p.control).length<2^40 - 1) (c:Config) (s:CfgT c):qab Φ f_17 [.agg (Prg.c p),.agg (Config.c c)]=some (.val (.int .i64 (cfgE p c))):=by
 rw [qaa (fn:=c_17) rfl rfl];have h:=qvc p f hc;simp only [Prg.e,dgC] at h;have ht:=f.t;by_cases z:(prgD p).1=0
 rotate_left
 ·simp [c_17,Prg.e,Config.ce,h,z,cfgE]
 by_cases z1:c.rows.length=p.tables.length
 rotate_left
 ·simp [c_17,Prg.e,Config.ce,h,z,z1,cfgE]
 by_cases z2:c.nextID.length=p.tables.length
 rotate_left
 ·simp [c_17,Prg.e,Config.ce,h,z,z1,z2,cfgE]
 by_cases z3:c.defaults.length=p.tables.length
 rotate_left
 ·simp [c_17,Prg.e,Config.ce,h,z,z1,z2,z3,cfgE]
 rw [show cfgE p c=(fe (stG p c) p.tables.length 0).getD (conE p c.registers) by simp [cfgE,z,z1,z2,z3]];simp [c_17,Prg.e,Config.ce,h,z,z1,z2,z3];refine qav p.tables.length (fun _=>[]) 0 (fun i e=>look 2 e=some (.iptr 9 [Prg.c p] 0 0)/\look 3 e=some (.iptr 4 [Config.c c] 0 0)/\look 38 e=some (.int .i64 p.tables.length)/\look 39 e=some (.int .i64 i))
  (fun i=>some (Rt.val (.int .i64 ((fe (stG p c) p.tables.length i).getD (conE p c.registers))))) ?_ ?_ 0 _ _ (Qc _) (Qc _) ?_
 ·rintro i e n L hi hL _ ⟨h2,h3,h38,h39⟩ ih;have hw:=qaf i (by omega);have i1:i<c.rows.length:=by omega
  have i2:i<c.nextID.length:=by omega
  have i3:i<c.defaults.length:=by omega
  have hr:=s.rs _ (Qd i1);have hd:=s.ds _ (Qd i3);have hk:=qagy p f i hi c.rows[i] c.nextID[i] c.defaults[i] hr.1 hr.2 hd.1;rw [show (if p.tables[i].size<(c.rows[i].length:Int) then (12:Int) else tabK p i c.rows[i] c.nextID[i] (qa7 p i c.defaults[i]) (ordL c.rows[i] 0))=rowE p i p.tables[i] c.rows[i] c.nextID[i] (qa7 p i c.defaults[i]) from rfl] at hk;simp only [Prg.e,ActionCall.ce] at hk;rw [Prg.e] at h2;rw [Config.ce] at h3;by_cases v:rowE p i p.tables[i] c.rows[i] c.nextID[i] (qa7 p i c.defaults[i])=0
  ·rw [qar hi (by simp [stG,hi,i1,i2,i3,v])];rw [v] at hk;generalize hX:some (Rt.val (AV.int .i64 ((fe (stG p c) p.tables.length (i+1)).getD (conE p c.registers))))=X;simp [c_17_l0,cSe,cI,ActionCall.ce,h2,h3,h38,h39,hi,i1,i2,i3,hk,hw];rw [<- hX];exact ih _ _ (Qc _) ⟨by simp [h2,Prg.e],by simp [h3,Config.ce],by simp [h38],by simp⟩
  ·rw [qaj (x:=rowE p i p.tables[i] c.rows[i] c.nextID[i] (qa7 p i c.defaults[i])) hi (by simp [stG,hi,i1,i2,i3,v])];simp [c_17_l0,cSe,cI,ActionCall.ce,h2,h3,h38,h39,hi,i1,i2,i3,hk,v]
 ·rintro e n L hL _ ⟨h2,h3,h38,h39⟩;have hk:=qagv p f c.registers s.gl fun l hl=>(s.gs l hl).1
  simp only [Prg.e] at hk;rw [Prg.e] at h2;rw [Config.ce] at h3;rw [qa4];simp [c_17_l0,c_17_k1,h2,h3,h38,h39,hL,hk]
 ·simp [Prg.e,Config.ce]
theorem qaez (p:Prg) (f:PrgS p) (hv:∀t∈p.tables,∀v∈t.dflt.args,ok32 0 v) (hc:(pre p.control).length<2^40 - 1) (c:Config) (s:CfgT c):qab Φ f_19 [.agg (Prg.c p),.agg (Config.c c)]=some (.val (.int .i64 (cfgE p c))):=by
 rw [qaa (fn:=c_19) rfl rfl];have h:=qtg p f hv hc;simp only [Prg.e,dgC] at h;have ht:=f.t;by_cases z:(prgD p).1=0
 rotate_left
 ·simp [c_19,Prg.e,Config.ce,h,z,cfgE]
 by_cases z1:c.rows.length=p.tables.length
 rotate_left
 ·simp [c_19,Prg.e,Config.ce,h,z,z1,cfgE]
 by_cases z2:c.nextID.length=p.tables.length
 rotate_left
 ·simp [c_19,Prg.e,Config.ce,h,z,z1,z2,cfgE]
 by_cases z3:c.defaults.length=p.tables.length
 rotate_left
 ·simp [c_19,Prg.e,Config.ce,h,z,z1,z2,z3,cfgE]
 rw [show cfgE p c=(fe (stG p c) p.tables.length 0).getD (conE p c.registers) by simp [cfgE,z,z1,z2,z3]];simp [c_19,Prg.e,Config.ce,h,z,z1,z2,z3];refine qav p.tables.length (fun _=>[]) 0 (fun i e=>look 2 e=some (.iptr 9 [Prg.c p] 0 0)/\look 3 e=some (.iptr 4 [Config.c c] 0 0)/\look 5 e=some (.int .i64 p.tables.length)/\look 6 e=some (.int .i64 i))
  (fun i=>some (Rt.val (.int .i64 ((fe (stG p c) p.tables.length i).getD (conE p c.registers))))) ?_ ?_ 0 _ _ (Qc _) (Qc _) ?_
 ·rintro i e n L hi hL _ ⟨h2,h3,h5,h6⟩ ih;have hw:=qaf i (by omega);have i1:i<c.rows.length:=by omega
  have i2:i<c.nextID.length:=by omega
  have i3:i<c.defaults.length:=by omega
  have hr:=s.rs _ (Qd i1);have hd:=s.ds _ (Qd i3);have hk:=qafg p f hv i hi c.rows[i] c.nextID[i] hr.1 hr.2;have hq:=qot p f hv i c.defaults[i] hd.1 hd.2;rw [show (if p.tables[i].size<(c.rows[i].length:Int) then (12:Int) else tabK p i c.rows[i] c.nextID[i] 0 (ordL c.rows[i] 0))=rowE p i p.tables[i] c.rows[i] c.nextID[i] 0 from rfl] at hk;simp only [Prg.e,ActionCall.ce] at hk hq;rw [Prg.e] at h2;rw [Config.ce] at h3;have hz:=qak4 p i p.tables[i] c.rows[i] c.nextID[i] (qa7 p i c.defaults[i]);by_cases v:rowE p i p.tables[i] c.rows[i] c.nextID[i] 0=0
  ·rw [if_neg (by simpa using v)] at hz;rw [v] at hk;by_cases w:qa7 p i c.defaults[i]=0
   ·rw [qar hi (by simp [stG,hi,i1,i2,i3,w,v])];rw [w] at hq;generalize hX:some (Rt.val (AV.int .i64 ((fe (stG p c) p.tables.length (i+1)).getD (conE p c.registers))))=X;simp [c_19_l0,cSe,cI,ActionCall.ce,h2,h3,h5,h6,hi,i1,i2,i3,hk,hq,hw];rw [<- hX];exact ih _ _ (Qc _) ⟨by simp [h2,Prg.e],by simp [h3,Config.ce],by simp [h5],by simp⟩
   ·rw [qaj (x:=qa7 p i c.defaults[i]) hi (by simp [stG,hi,i1,i2,i3,hz,w])];simp [c_19_l0,cSe,cI,ActionCall.ce,h2,h3,h5,h6,hi,i1,i2,i3,hk,hq,w]
  ·rw [if_pos v] at hz;rw [qaj (x:=rowE p i p.tables[i] c.rows[i] c.nextID[i] 0) hi (by simp [stG,hi,i1,i2,i3,hz,v])];simp [c_19_l0,cSe,cI,h2,h3,h5,h6,hi,i1,i2,hk,v]
 ·rintro e n L hL _ ⟨h2,h3,h5,h6⟩;have hk:=qae0 p c.registers s.gl s.gs;simp only [Prg.e] at hk;rw [Prg.e] at h2;rw [Config.ce] at h3;rw [qa4];simp [c_19_l0,c_19_k1,h2,h3,h5,h6,hL,hk]
 ·simp [Prg.e,Config.ce]
def regN (r:Register):Nat:=if r.size<1\/64<r.size then 0 else r.size.toNat
theorem qfa {Ψ:FuncId->Option AFun} {f z bytes:Nat} (hf:Ψ f=some (.rule (qee z bytes .app))) (es:List (List AV)) (hz:qcl z es=true) (hb:es.length*bytes<=70368744177664):qab Ψ f [.slice z es]=some (.val (.slice z es)):=by
 unfold qab;rw [qkt Ψ hf];cases es with
 | nil=>simp [qee,lenOf,qc3,evR,qev,H0,AH.put]
 | cons x es=>
  simp only [List.length_cons] at hb;simp [qee,lenOf,evR,qev,H0,AH.put,hz,hb]
theorem qt6 (l:List Int) (h:l.length<2^40):qab Φ f_161 [.slice 1 (l.map c32)]=some (.val (.slice 1 (l.map c32))):=
 qfa (bytes:=4) rfl _ (qci 1 c32 l fun x=>by simp [c32]) (by rw [List.length_map];omega)
theorem qajv (l:List KeyMatch) (h:l.length<2^40):qab Φ f_182 [.slice 2 (l.map KeyMatch.c)]=some (.val (.slice 2 (l.map KeyMatch.c))):=
 qfa (bytes:=8) rfl _ (qci 2 KeyMatch.c l fun x=>by simp [KeyMatch.c]) (by rw [List.length_map];omega)
theorem qku (c:ActionCall) (h:c.args.length<2^40):qab Φ f_74 [.agg (ActionCall.c c)]=some (.val (.agg (ActionCall.c c))):=by
 rw [qaa (fn:=c_74) rfl rfl];have k:=qt6 c.args h;simp [c_74,ActionCall.ce,k]
theorem qr0 (x:Entry) (h:x.call.args.length<2^40) (h2:x.keys.length<2^40):qab Φ f_90 [.agg (Entry.c x)]=some (.val (.agg (Entry.c x))):=by
 rw [qaa (fn:=c_90) rfl rfl];have k:=qajv x.keys h2;have k2:=qku x.call h;simp only [ActionCall.ce] at k2;simp [c_90,Entry.ce,k,k2]
theorem qagx (x:Rw) (h:rowS x):qab Φ f_163 [.agg (Rw.c x)]=some (.val (.agg (Rw.c x))):=by
 rw [qaa (fn:=c_163) rfl rfl];have k:=qr0 x.entry h.al h.kl;simp only [Entry.ce] at k;simp [c_163,Rw.ce,k]
theorem qtc (l:List Header) (hl:l.length<2^39) (hf:∀x∈l,qab Φ f_213 [.agg (Header.c x)]=some (.val (.agg (Header.c x)))):qab Φ f_212 [.slice 2 (l.map Header.c),.func (.func f_213) [] []]=some (.val (.slice 2 (l.map Header.c))):=by
 rw [qaa (fn:=c_212) rfl rfl];simp [c_212];refine (qav l.length (fun i=>[(0,.tok 2 i)]) 1 (fun i e=>look 1 e=some (.func (.func f_213) [] [])/\look 5 e=some (.app 2 ((l.map Header.c).take i) 0)/\look 8 e=some (.slice 2 (l.map Header.c))/\look 9 e=some (.int .i64 l.length)/\look 10 e=some (.int .i64 i))
  (fun _=>some (Rt.val (.slice 2 (l.map Header.c)))) ?_ ?_ 0 _ 1 (Qc _) (Qb _) ?_).trans (by simp)
 ·rintro i e n L hi hL hn ⟨h1,h5,h8,h9,h10⟩ ih;have hw:=qaf i (by omega);have hn0:¬(0=n):=by omega
  have hn1:¬(n=0):=by omega
  have hm:min i l.length=i:=by omega
  have hb:∀k,k<=128->(i+1)*k<=70368744177664:=fun k hk=>by
   have:(i+1)*k<=(i+1)*128:=Nat.mul_le_mul_left _ hk;omega
  have hN:=hf _ (Qd hi);simp only [Header.e] at hN;simp [c_212_l0,Header.e,h1,h5,h8,h9,h10,hi,hw,hn0,hm,hb,hN];exact ih _ _ (by omega) ⟨by simp [h1],by simp [qa3 hi,Header.e],by simp [h8],by simp [h9],by simp⟩
 ·rintro e n L hL hn ⟨h1,h5,h8,h9,h10⟩;simp [c_212_l0,c_212_k1,h5,h9,h10,hL]
 ·simp
theorem qoe (l:List Statement) (hl:l.length<2^39) (hf:∀x∈l,qab Φ f_288 [.agg (Statement.c x)]=some (.val (.agg (Statement.c x)))):qab Φ f_287 [.slice 7 (l.map Statement.c),.func (.func f_288) [] []]=some (.val (.slice 7 (l.map Statement.c))):=by
 rw [qaa (fn:=c_287) rfl rfl];simp [c_287];refine (qav l.length (fun i=>[(0,.tok 7 i)]) 1 (fun i e=>look 1 e=some (.func (.func f_288) [] [])/\look 5 e=some (.app 7 ((l.map Statement.c).take i) 0)/\look 8 e=some (.slice 7 (l.map Statement.c))/\look 9 e=some (.int .i64 l.length)/\look 10 e=some (.int .i64 i))
  (fun _=>some (Rt.val (.slice 7 (l.map Statement.c)))) ?_ ?_ 0 _ 1 (Qc _) (Qb _) ?_).trans (by simp)
 ·rintro i e n L hi hL hn ⟨h1,h5,h8,h9,h10⟩ ih;have hw:=qaf i (by omega);have hn0:¬(0=n):=by omega
  have hn1:¬(n=0):=by omega
  have hm:min i l.length=i:=by omega
  have hb:∀k,k<=128->(i+1)*k<=70368744177664:=fun k hk=>by
   have:(i+1)*k<=(i+1)*128:=Nat.mul_le_mul_left _ hk;omega
  have hN:=hf _ (Qd hi);simp only [Statement.e] at hN;simp [c_287_l0,Statement.e,h1,h5,h8,h9,h10,hi,hw,hn0,hm,hb,hN];exact ih _ _ (by omega) ⟨by simp [h1],by simp [qa3 hi,Statement.e],by simp [h8],by simp [h9],by simp⟩
 ·rintro e n L hL hn ⟨h1,h5,h8,h9,h10⟩;simp [c_287_l0,c_287_k1,h5,h9,h10,hL]
 ·simp
theorem qtb (l:List Action) (hl:l.length<2^39) (hf:∀x∈l,qab Φ f_217 [.agg (Action.c x)]=some (.val (.agg (Action.c x)))):qab Φ f_216 [.slice 3 (l.map Action.c),.func (.func f_217) [] []]=some (.val (.slice 3 (l.map Action.c))):=by
 rw [qaa (fn:=c_216) rfl rfl];simp [c_216];refine (qav l.length (fun i=>[(0,.tok 3 i)]) 1 (fun i e=>look 1 e=some (.func (.func f_217) [] [])/\look 5 e=some (.app 3 ((l.map Action.c).take i) 0)/\look 8 e=some (.slice 3 (l.map Action.c))/\look 9 e=some (.int .i64 l.length)/\look 10 e=some (.int .i64 i))
  (fun _=>some (Rt.val (.slice 3 (l.map Action.c)))) ?_ ?_ 0 _ 1 (Qc _) (Qb _) ?_).trans (by simp)
 ·rintro i e n L hi hL hn ⟨h1,h5,h8,h9,h10⟩ ih;have hw:=qaf i (by omega);have hn0:¬(0=n):=by omega
  have hn1:¬(n=0):=by omega
  have hm:min i l.length=i:=by omega
  have hb:∀k,k<=128->(i+1)*k<=70368744177664:=fun k hk=>by
   have:(i+1)*k<=(i+1)*128:=Nat.mul_le_mul_left _ hk;omega
  have hN:=hf _ (Qd hi);simp only [Action.e] at hN;simp [c_216_l0,Action.e,h1,h5,h8,h9,h10,hi,hw,hn0,hm,hb,hN];exact ih _ _ (by omega) ⟨by simp [h1],by simp [qa3 hi,Action.e],by simp [h8],by simp [h9],by simp⟩
 ·rintro e n L hL hn ⟨h1,h5,h8,h9,h10⟩;simp [c_216_l0,c_216_k1,h5,h9,h10,hL]
 ·simp
theorem quj (l:List Tbl) (hl:l.length<2^39) (hf:∀x∈l,qab Φ f_219 [.agg (Tbl.c x)]=some (.val (.agg (Tbl.c x)))):qab Φ f_218 [.slice 6 (l.map Tbl.c),.func (.func f_219) [] []]=some (.val (.slice 6 (l.map Tbl.c))):=by
 rw [qaa (fn:=c_218) rfl rfl];simp [c_218];refine (qav l.length (fun i=>[(0,.tok 6 i)]) 1 (fun i e=>look 1 e=some (.func (.func f_219) [] [])/\look 5 e=some (.app 6 ((l.map Tbl.c).take i) 0)/\look 8 e=some (.slice 6 (l.map Tbl.c))/\look 9 e=some (.int .i64 l.length)/\look 10 e=some (.int .i64 i))
  (fun _=>some (Rt.val (.slice 6 (l.map Tbl.c)))) ?_ ?_ 0 _ 1 (Qc _) (Qb _) ?_).trans (by simp)
 ·rintro i e n L hi hL hn ⟨h1,h5,h8,h9,h10⟩ ih;have hw:=qaf i (by omega);have hn0:¬(0=n):=by omega
  have hn1:¬(n=0):=by omega
  have hm:min i l.length=i:=by omega
  have hb:∀k,k<=128->(i+1)*k<=70368744177664:=fun k hk=>by
   have:(i+1)*k<=(i+1)*128:=Nat.mul_le_mul_left _ hk;omega
  have hN:=hf _ (Qd hi);simp only [Tbl.e] at hN;simp [c_218_l0,Tbl.e,h1,h5,h8,h9,h10,hi,hw,hn0,hm,hb,hN];exact ih _ _ (by omega) ⟨by simp [h1],by simp [qa3 hi,Tbl.e],by simp [h8],by simp [h9],by simp⟩
 ·rintro e n L hL hn ⟨h1,h5,h8,h9,h10⟩;simp [c_218_l0,c_218_k1,h5,h9,h10,hL]
 ·simp
theorem ql3 (l:List ParserState) (hl:l.length<2^39) (hf:∀x∈l,qab Φ f_221 [.agg (ParserState.c x)]=some (.val (.agg (ParserState.c x)))):qab Φ f_220 [.slice 7 (l.map ParserState.c),.func (.func f_221) [] []]=some (.val (.slice 7 (l.map ParserState.c))):=by
 rw [qaa (fn:=c_220) rfl rfl];simp [c_220];refine (qav l.length (fun i=>[(0,.tok 7 i)]) 1 (fun i e=>look 1 e=some (.func (.func f_221) [] [])/\look 5 e=some (.app 7 ((l.map ParserState.c).take i) 0)/\look 8 e=some (.slice 7 (l.map ParserState.c))/\look 9 e=some (.int .i64 l.length)/\look 10 e=some (.int .i64 i))
  (fun _=>some (Rt.val (.slice 7 (l.map ParserState.c)))) ?_ ?_ 0 _ 1 (Qc _) (Qb _) ?_).trans (by simp)
 ·rintro i e n L hi hL hn ⟨h1,h5,h8,h9,h10⟩ ih;have hw:=qaf i (by omega);have hn0:¬(0=n):=by omega
  have hn1:¬(n=0):=by omega
  have hm:min i l.length=i:=by omega
  have hb:∀k,k<=128->(i+1)*k<=70368744177664:=fun k hk=>by
   have:(i+1)*k<=(i+1)*128:=Nat.mul_le_mul_left _ hk;omega
  have hN:=hf _ (Qd hi);simp only [ParserState.e] at hN;simp [c_220_l0,ParserState.e,h1,h5,h8,h9,h10,hi,hw,hn0,hm,hb,hN];exact ih _ _ (by omega) ⟨by simp [h1],by simp [qa3 hi,ParserState.e],by simp [h8],by simp [h9],by simp⟩
 ·rintro e n L hL hn ⟨h1,h5,h8,h9,h10⟩;simp [c_220_l0,c_220_k1,h5,h9,h10,hL]
 ·simp
theorem qfb (l:List ControlNode) (hl:l.length<2^39) (hf:∀x∈l,qab Φ f_223 [.agg (ControlNode.c x)]=some (.val (.agg (ControlNode.c x)))):qab Φ f_222 [.slice 5 (l.map ControlNode.c),.func (.func f_223) [] []]=some (.val (.slice 5 (l.map ControlNode.c))):=by
 rw [qaa (fn:=c_222) rfl rfl];simp [c_222];refine (qav l.length (fun i=>[(0,.tok 5 i)]) 1 (fun i e=>look 1 e=some (.func (.func f_223) [] [])/\look 5 e=some (.app 5 ((l.map ControlNode.c).take i) 0)/\look 8 e=some (.slice 5 (l.map ControlNode.c))/\look 9 e=some (.int .i64 l.length)/\look 10 e=some (.int .i64 i))
  (fun _=>some (Rt.val (.slice 5 (l.map ControlNode.c)))) ?_ ?_ 0 _ 1 (Qc _) (Qb _) ?_).trans (by simp)
 ·rintro i e n L hi hL hn ⟨h1,h5,h8,h9,h10⟩ ih;have hw:=qaf i (by omega);have hn0:¬(0=n):=by omega
  have hn1:¬(n=0):=by omega
  have hm:min i l.length=i:=by omega
  have hb:∀k,k<=128->(i+1)*k<=70368744177664:=fun k hk=>by
   have:(i+1)*k<=(i+1)*128:=Nat.mul_le_mul_left _ hk;omega
  have hN:=hf _ (Qd hi);obtain ⟨kk,tt,cc,aa,bb,hx⟩:=qdc l[i];rw [hx,ControlNode.ce] at hN;simp [c_222_l0,hx,ControlNode.ce,h1,h5,h8,h9,h10,hi,hw,hn0,hm,hb,hN];exact ih _ _ (by omega) ⟨by simp [h1],by simp [qa3 hi,hx,ControlNode.ce],by simp [h8],by simp [h9],by simp⟩
 ·rintro e n L hL hn ⟨h1,h5,h8,h9,h10⟩;simp [c_222_l0,c_222_k1,h5,h9,h10,hL]
 ·simp
theorem qx7 (H:AH):∀l:List Int,mapO (mapO (snap 39 H)) (l.map cI)=some (l.map cI)
 | []=>by simp [mapO]
 | x::l=>by
  have ih:=qx7 H l;simp only [List.map_cons,mapO,ih];simp [cI,mapO]
theorem qt5 (l:List Int) (h:l.length<2^40):qab Φ f_162 [.slice 1 (l.map cI)]=some (.val (.slice 1 (l.map cI))):=by
 unfold qab;rw [qkt Φ (g:=qee 1 8 .row) rfl];cases l with
 | nil=>simp [qee,lenOf,qc3,evR,qev,H0,AH.put]
 | cons x l=>
  have hb:(l.length+1)*8<=70368744177664:=by simp at h;omega
  have hm:=qx7 ⟨[(0,.row 1 ((x::l).map cI))],1⟩ (x::l);simp [cI] at hm;simp [qee,lenOf,evR,qev,H0,AH.put,hb,cI,hm]
theorem qt4 (l:List Fld) (h:l.length<2^40):qab Φ f_214 [.slice 2 (l.map Fld.c)]=some (.val (.slice 2 (l.map Fld.c))):=
 qfa (bytes:=24) rfl _ (qci 2 Fld.c l fun x=>by simp [Fld.e]) (by rw [List.length_map];omega)
theorem qaju (l:List Register) (h:l.length<2^40):qab Φ f_215 [.slice 3 (l.map Register.c)]=some (.val (.slice 3 (l.map Register.c))):=
 qfa (bytes:=32) rfl _ (qci 3 Register.c l fun x=>by simp [Register.e]) (by rw [List.length_map];omega)
theorem qajw (l:List TableKey) (h:l.length<2^40):qab Φ f_289 [.slice 3 (l.map TableKey.c)]=some (.val (.slice 3 (l.map TableKey.c))):=
 qfa (bytes:=24) rfl _ (qci 3 TableKey.c l fun x=>by simp [TableKey.e]) (by rw [List.length_map];omega)
theorem qajt (l:List SelectCase) (h:l.length<2^40):qab Φ f_290 [.slice 3 (l.map SelectCase.c)]=some (.val (.slice 3 (l.map SelectCase.c))):=
 qfa (bytes:=16) rfl _ (qci 3 SelectCase.c l fun x=>by simp [SelectCase.e]) (by rw [List.length_map];omega)
theorem qt3 (l:List ExprNode) (h:l.length<2^40):qab Φ f_291 [.slice 3 (l.map ExprNode.c)]=some (.val (.slice 3 (l.map ExprNode.c))):=
 qfa (bytes:=24) rfl _ (qci 3 ExprNode.c l fun x=>by simp [ExprNode.c]) (by rw [List.length_map];omega)
theorem qyt (x:Header) (h:x.fields.length<2^40):qab Φ f_213 [.agg (Header.c x)]=some (.val (.agg (Header.c x))):=by
 rw [qaa (fn:=c_213) rfl rfl];have k:=qt4 x.fields h;simp [c_213,Header.e,k]
theorem qs7 (x:Statement) (h:x.index.length<2^40) (h2:x.value.length<2^40):qab Φ f_288 [.agg (Statement.c x)]=some (.val (.agg (Statement.c x))):=by
 rw [qaa (fn:=c_288) rfl rfl];have k:=qt3 x.index h;have k2:=qt3 x.value h2;simp [c_288,Statement.e,k,k2]
theorem qaas (x:Tbl) (h:x.keys.length<2^40) (h2:x.actions.length<2^40) (h3:x.dflt.args.length<2^40):qab Φ f_219 [.agg (Tbl.c x)]=some (.val (.agg (Tbl.c x))):=by
 rw [qaa (fn:=c_219) rfl rfl];have k:=qajw x.keys h;have k2:=qt5 x.actions h2;have k3:=qt6 x.dflt.args h3;simp [c_219,Tbl.e,k,k2,k3]
theorem qaar (x:ParserState) (h:x.extract.length<2^40) (h2:x.cases.length<2^40):qab Φ f_221 [.agg (ParserState.c x)]=some (.val (.agg (ParserState.c x))):=by
 rw [qaa (fn:=c_221) rfl rfl];have k:=qt5 x.extract h;have k2:=qajt x.cases h2;simp [c_221,ParserState.e,k,k2]
theorem qyr (x:Action) (h:x.params.length<2^40) (h2:x.body.length<2^39) (h3:∀s∈x.body,s.index.length<2^40/\s.value.length<2^40):qab Φ f_217 [.agg (Action.c x)]=some (.val (.agg (Action.c x))):=by
 rw [qaa (fn:=c_217) rfl rfl];have k:=qt4 x.params h;have k2:=qoe x.body h2 fun s hs=>qs7 s (h3 s hs).1 (h3 s hs).2
 simp [c_217,Action.e,k,k2]
theorem qoa:∀(n:Nat) (x:ControlNode),SizeOf.sizeOf x<=n->ControlNode.Ok qa6 x->qab Φ f_223 [.agg (ControlNode.c x)]=some (.val (.agg (ControlNode.c x)))
 | 0,x,h,_=>by cases x;simp at h
 | n+1,x,h,ho=>by
  obtain ⟨k,t,c,a,b,rfl⟩:=qdc x;simp only [ControlNode.Ok] at ho;obtain ⟨_,_,hc,⟨ha1,ha2⟩,hb1,hb2⟩:=ho;rw [ControlNode.oks_eq] at ha2 hb2;have e:=qdo;simp at h;have hc1:=hc.1;have k1:=qt3 c (by omega);have k2:=qfb a (by omega) fun y hy=>qoa n y (by have:=List.sizeOf_lt_of_mem hy;omega) (ha2 y hy)
  have k3:=qfb b (by omega) fun y hy=>qoa n y (by have:=List.sizeOf_lt_of_mem hy;omega) (hb2 y hy)
  rw [qaa (fn:=c_223) rfl rfl];simp [c_223,ControlNode.ce,k1,k2,k3]
theorem qab9 (p:Prg) (op:p.Ok qa6):qab Φ f_139 [.agg (Prg.c p)]=some (.val (.agg (Prg.c p))):=by
 have f:=qj4 op;obtain ⟨_,o1,o2,o3,o4,o5,o6,o7,o8⟩:=op;have e:=qdo;have k1:=qtc p.headers (by have:=o1.1;omega) fun x hx=>qyt x (f.hl x hx)
 have k2:=qt4 p.metadata f.m;have k3:=qaju p.registers f.r;have k4:=qtb p.actions (by have:=o4.1;omega) fun x hx=>qyr x (f.ap x hx) (by
  have h:=o4.2 x hx;simp only [Action.Ok] at h;have:=h.2.2.1;omega) fun s hs=>⟨f.ai x hx s hs,f.av x hx s hs⟩
 have k5:=quj p.tables (by have:=o5.1;omega) fun x hx=>qaas x (f.tk x hx) (f.ta x hx) (f.tg x hx)
 have k6:=ql3 p.states (by have:=o6.1;omega) fun x hx=>qaar x (f.se x hx) (f.sc x hx)
 have k7:=qfb p.control (by have:=o7.1;omega) fun x hx=>qoa _ x (Qb _) (o7.2 x hx)
 have k8:=qt5 p.deparser f.d;rw [qaa (fn:=c_139) rfl rfl];simp [c_139,Prg.e,k1,k2,k3,k4,k5,k6,k7,k8]
def RegV (T:List (Nat×AO)) (x:AV) (r:Register):Prop:=(x= .fslice 1 []/\regN r=0)\/∃id,1<=id/\x= .row id 1 0 (regN r)/\look id T=some (.row 1 (List.replicate (regN r) [.int .u32 0]))
inductive RegL (T:List (Nat×AO)):List AV->List Register->Prop
 | nil:RegL T [] []
 | snoc {A rs x r} (h:RegL T A rs) (hx:RegV T x r):RegL T (A++[x]) (rs++[r])
theorem RegV.app {T:List (Nat×AO)} {x:AV} {r:Register} (h:RegV T x r) (U:List (Nat×AO)):RegV (T++U) x r:=by
 rcases h with h | ⟨id,h1,h2,h3⟩
 ·exact .inl h
 ·exact .inr ⟨id,h1,h2,by rw [qeh,h3];simp⟩
theorem RegL.app {T:List (Nat×AO)} {A:List AV} {rs:List Register} (h:RegL T A rs) (U:List (Nat×AO)):RegL (T++U) A rs:=by
 induction h with
 | nil=>exact .nil
 | snoc h hx ih=>exact .snoc ih (hx.app U)
theorem RegL.len {T:List (Nat×AO)} {A:List AV} {rs:List Register} (h:RegL T A rs):A.length=rs.length:=by
 induction h with
 | nil=>rfl
 | snoc h hx ih=>simp [ih]
theorem qu3 (H:AH) (k:Nat):∀m,mapO (mapO (snap 38 H)) (List.replicate m [AV.int .u32 k])=some (List.replicate m [AV.int .u32 k])
 | 0=>by simp [mapO]
 | m+1=>by
  have ih:=qu3 H k m;simp only [List.replicate_succ,mapO,ih];simp
theorem qsl {α β:Type} (f:α->Option β):∀(l:List α) (x:α) (l':List β) (y:β),mapO f l=some l'->f x=some y->mapO f (l++[x])=some (l'++[y])
 | [],x,l',y,h,hy=>by
  simp [mapO] at h;subst h;simp [mapO,hy]
 | a::l,x,l',y,h,hy=>by
  simp only [mapO] at h;cases hb:f a with
  | none=>rw [hb] at h;cases h
  | some b=>
   rw [hb] at h;cases hm:mapO f l with
   | none=>rw [hm] at h;cases h
   | some m=>
    rw [hm] at h;cases h;have ih:=qsl f l x m y hm hy;simp only [List.cons_append,mapO,hb,ih]
theorem RegL.snp {T:List (Nat×AO)} {A:List AV} {rs:List Register} (h:RegL T A rs) (o:AO) (n:Nat):
  mapO (mapO (snap 39 ⟨(0,o)::T,n⟩)) (A.map fun x=>[x])=some (rs.map fun r=>[AV.slice 1 (List.replicate (regN r) [.int .u32 0])]):=by
 induction h with
 | nil=>simp [mapO]
 | snoc h hx ih=>
  rw [List.map_append,List.map_append];refine qsl _ _ _ _ _ ih ?_;rcases hx with ⟨rfl,h0⟩ | ⟨id,h1,rfl,h3⟩
  ·simp [mapO,h0]
  ·have hi:¬(0=id):=by omega
   have hr:=qu3 ⟨(0,o)::T,n⟩ 0;simp at hr;simp [mapO,look,hi,h3,hr]
structure TabV (p:Prg) (k:Nat) (tb:Tbl) (l:List Rw) (nx:Int) (d:ActionCall):Prop where
 size:(l.length:Int)<=tb.size
 pos:∀r∈l,0<r.id
 lt:∀r∈l,r.id<nx
 inc:l.Pairwise (fun a b=>a.id<b.id)
 nx0:0<nx
 nx1:nx<=1073741824
 ent:∀r∈l,entE p k r.entry=0
 uniq:l.Pairwise (fun a b=>sk a.entry b.entry=false)
 dflt:qa7 p k d=0
theorem qva (nx:Int):∀(l:List Rw) (a:Int),(∃b,ordL l a=some b/\b<nx)↔a<nx/\(∀r∈l,a<r.id/\r.id<nx)/\l.Pairwise (fun a b=>a.id<b.id)
 | [],a=>by simp [ordL]
 | r::l,a=>by
  have ih:=qva nx l r.id;simp only [ordL];by_cases h:r.id<=a
  ·rw [if_pos h];constructor
   ·rintro ⟨b,hb,_⟩;cases hb
   ·rintro ⟨_,h2,_⟩;have:=(h2 r (by simp)).1;omega
  ·rw [if_neg h,ih,List.pairwise_cons];constructor
   ·rintro ⟨h1,h2,h3⟩;refine ⟨by omega,?_,fun x hx=>(h2 x hx).1,h3⟩;intro x hx;rcases List.mem_cons.1 hx with rfl | hx
    ·exact ⟨by omega,h1⟩
    ·have:=h2 x hx;exact ⟨by omega,this.2⟩
   ·rintro ⟨h1,h2,h3,h4⟩;exact ⟨(h2 r (by simp)).2,fun x hx=>⟨h3 x hx,(h2 x (by simp [hx])).2⟩,h4⟩
theorem qaco (p:Prg) (t:Int) (l:List Rw):(∀i,i<l.length->rowG p t l i=none)↔(∀r∈l,entE p t r.entry=0)/\l.Pairwise (fun a b=>sk a.entry b.entry=false):=by
 have key:∀i (hi:i<l.length),rowG p t l i=none↔entE p t l[i].entry=0/\∀j (hj:j<i),sk l[j].entry l[i].entry=false:=by
  intro i hi;simp only [rowG,Qa hi,Option.bind_some];by_cases h:entE p t l[i].entry=0
  ·rw [if_neg (by simpa using h)];have:((l.take i).any fun y=>sk y.entry l[i].entry)=true↔¬∀j (hj:j<i),sk l[j].entry l[i].entry=false:=by
    rw [List.any_eq_true];constructor
    ·rintro ⟨y,hy,hs⟩ hc;obtain ⟨j,hj,rfl⟩:=Qn.1 hy;simp at hj;have:=hc j (by omega);simp only [List.getElem_take] at hs;rw [this] at hs;cases hs
    ·intro hc;simp only [Classical.not_forall] at hc;obtain ⟨j,hj,hs⟩:=hc;refine ⟨l[j],?_,by simpa using hs⟩;rw [List.mem_take_iff_getElem];exact ⟨j,by omega,rfl⟩
   by_cases hu:∀j (hj:j<i),sk l[j].entry l[i].entry=false
   ·rw [if_neg (by rw [this];exact fun hc=>hc hu)];simp [h];exact hu
   ·rw [if_pos (this.2 hu)];simp [h];simpa using hu
  ·rw [if_pos h];simp [h]
 constructor
 ·intro h;refine ⟨?_,?_⟩
  ·intro r hr;obtain ⟨i,hi,rfl⟩:=Qn.1 hr;exact ((key i hi).1 (h i hi)).1
  ·rw [List.pairwise_iff_getElem];intro i j hi hj hij;exact ((key j hj).1 (h j hj)).2 i hij
 ·rintro ⟨h1,h2⟩ i hi;rw [key i hi];refine ⟨h1 _ (Qd hi),?_⟩;intro j hj;exact List.pairwise_iff_getElem.1 h2 j i (by omega) hi hj
theorem qaik (p:Prg) (t:Int) (l:List Rw) {i:Nat} {x:Int} (h:rowG p t l i=some x):x≠0:=by
 simp only [rowG,Qt] at h;obtain ⟨r,_,hr⟩:=h;split at hr
 ·cases hr;assumption
 ·split at hr
  ·cases hr;decide
  ·cases hr
theorem qsv (p:Prg) (k:Nat) (tb:Tbl) (l:List Rw) (nx:Int) (d:ActionCall):rowE p k tb l nx (qa7 p k d)=0↔TabV p k tb l nx d:=by
 have hI:=qva nx l 0;have hG:=qaco p k l;rw [<- fe_all] at hG;unfold rowE;by_cases h:tb.size<(l.length:Int)
 ·rw [if_pos h];constructor
  ·intro hc;cases hc
  ·intro hv;have:=hv.size;omega
 rw [if_neg h];cases ho:ordL l 0 with
 | none=>
  rw [ho] at hI;simp only [tabK];constructor
  ·intro hc;cases hc
  ·intro hv;obtain ⟨b,hb,_⟩:=hI.2 ⟨hv.nx0,fun r hr=>⟨hv.pos r hr,hv.lt r hr⟩,hv.inc⟩;cases hb
 | some a=>
  rw [ho] at hI;simp only [tabK];by_cases h1:nx<=a
  ·rw [if_pos h1];constructor
   ·intro hc;cases hc
   ·intro hv;obtain ⟨b,hb,h2⟩:=hI.2 ⟨hv.nx0,fun r hr=>⟨hv.pos r hr,hv.lt r hr⟩,hv.inc⟩;cases hb;omega
  rw [if_neg h1];have hJ:=hI.1 ⟨a,rfl,by omega⟩;by_cases h2:1073741824<nx
  ·rw [if_pos h2];constructor
   ·intro hc;cases hc
   ·intro hv;have:=hv.nx1;omega
  rw [if_neg h2];cases hf:fe (rowG p k l) l.length 0 with
  | some x=>
   have hx:x≠0:=by
    obtain ⟨i,_,hx⟩:=qds hf;exact qaik p k l hx
   rw [hf] at hG;simp only [Option.getD_some];constructor
   ·intro hc;exact absurd hc hx
   ·intro hv;have:=hG.2 ⟨hv.ent,hv.uniq⟩;cases this
  | none=>
   have hq:=hG.1 hf;simp only [Option.getD_none];constructor
   ·intro hc;exact ⟨by omega,fun r hr=>(hJ.2.1 r hr).1,fun r hr=>(hJ.2.1 r hr).2,hJ.2.2,hJ.1,by omega,hq.1,hq.2,hc⟩
   ·intro hv;exact hv.dflt
structure CfgV (p:Prg) (c:Config):Prop where
 prg:(prgD p).1=0
 rl:c.rows.length=p.tables.length
 nl:c.nextID.length=p.tables.length
 dl:c.defaults.length=p.tables.length
 tab:∀k tb l nx d,p.tables[k]? =some tb->c.rows[k]? =some l->c.nextID[k]? =some nx->c.defaults[k]? =some d->TabV p k tb l nx d
 con:conE p c.registers=0
theorem qalf (p:Prg) (c:Config) {k:Nat} {x:Int} (h:stG p c k=some x):x≠0:=by
 unfold stG at h;split at h
 ·split at h
  ·cases h
  ·cases h;assumption
 ·cases h
theorem qcv (p:Prg) (c:Config):cfgE p c=0↔CfgV p c:=by
 unfold cfgE;by_cases h:(prgD p).1=0
 rotate_left
 ·rw [if_pos h];exact ⟨fun hc=>absurd hc h,fun hv=>absurd hv.prg h⟩
 rw [if_neg (by simpa using h)];by_cases hl:c.rows.length≠p.tables.length\/c.nextID.length≠p.tables.length\/c.defaults.length≠p.tables.length
 ·rw [if_pos hl];constructor
  ·intro hc;cases hc
  ·intro hv;have:=hv.rl;have:=hv.nl;have:=hv.dl;omega
 rw [if_neg hl];have l1:c.rows.length=p.tables.length:=by omega
 have l2:c.nextID.length=p.tables.length:=by omega
 have l3:c.defaults.length=p.tables.length:=by omega
 cases hf:fe (stG p c) p.tables.length 0 with
 | some x=>
  obtain ⟨k,hk,hx⟩:=qds hf;simp only [Option.getD_some];constructor
  ·intro hc;exact absurd hc (qalf p c hx)
  ·intro hv;have hq:stG p c k=none:=by
    unfold stG;split
    ·rename_i tb l nx d e1 e2 e3 e4;rw [if_pos ((qsv p k tb l nx d).2 (hv.tab k tb l nx d e1 e2 e3 e4))]
    ·rfl
   rw [hq] at hx;cases hx
 | none=>
  simp only [Option.getD_none];have ha:=fe_all.1 hf;constructor
  ·intro hc;refine ⟨h,l1,l2,l3,?_,hc⟩;intro k tb l nx d e1 e2 e3 e4;have hk:=(Qm.1 e1).1;have hq:=ha k hk;simp only [stG,e1,e2,e3,e4] at hq;split at hq
   ·rename_i hz;exact (qsv p k tb l nx d).1 hz
   ·cases hq
  ·intro hv;exact hv.con
def qak (c:Config) (t:Int):List Rw:=(at? c.rows t).getD []
def qbr (c:Config) (t:Int):Int:=(at? c.nextID t).getD 0
def qh5 (p:Prg) (t:Int):Int:=((at? p.tables t).map Tbl.size).getD 0
def inT (p:Prg) (t:Int):Bool:=decide (0<=t)&&decide (t<p.tables.length)
def rIdx (l:List Rw) (id:Int):Option Nat:=l.findIdx? fun r=>decide (r.id=id)
def insE (p:Prg) (c:Config) (t:Int) (x:Entry):Int:=
 if inT p t=false then 8 else if entE p t x≠0 then entE p t x else if (qak c t).any (fun y=>sk y.entry x)=true then 7
 else if qh5 p t<=(qak c t).length\/1073741824<=qbr c t then 13 else 0
def insC (c:Config) (t:Int) (x:Entry):Config:=⟨c.rows.set t.toNat (qak c t++[⟨qbr c t,x⟩]),c.nextID.set t.toNat (qbr c t+1),c.defaults,c.registers⟩
def modE (p:Prg) (c:Config) (t id:Int) (x:ActionCall):Int:=
 if inT p t=false then 8 else if rIdx (qak c t) id=none then 8 else qa7 p t x
def qbe (x:ActionCall) (r:Rw):Rw:=⟨r.id,⟨r.entry.keys,r.entry.priority,x⟩⟩
def modC (c:Config) (t id:Int) (x:ActionCall):Config:=match rIdx (qak c t) id with
 | some i=>⟨c.rows.set t.toNat ((qak c t).modify i (qbe x)),c.nextID,c.defaults,c.registers⟩
 | none=>c
def delE (p:Prg) (c:Config) (t id:Int):Int:=
 if inT p t=false then 8 else if rIdx (qak c t) id=none then 8 else 0
def delC (c:Config) (t id:Int):Config:=match rIdx (qak c t) id with
 | some i=>⟨c.rows.set t.toNat ((qak c t).eraseIdx i),c.nextID,c.defaults,c.registers⟩
 | none=>c
def defE (p:Prg) (t:Int) (x:ActionCall):Int:=if inT p t=false then 8 else qa7 p t x
def defC (c:Config) (t:Int) (x:ActionCall):Config:=⟨c.rows,c.nextID,c.defaults.set t.toNat x,c.registers⟩
theorem qeg {p:Prg} {t:Int} (h:inT p t=true):∃k:Nat,t=k/\k<p.tables.length:=by
 unfold inT at h;simp at h;exact ⟨t.toNat,by omega,by omega⟩
theorem qdu {p:Prg} {k:Nat} (h:k<p.tables.length):inT p (k:Int)=true:=by
 unfold inT;simp;omega
section
variable {p:Prg} {c:Config} {k:Nat}
theorem qaz (h:k<c.rows.length):qak c (k:Int)=c.rows[k]:=by
 unfold qak;rw [qet,Qa h];rfl
theorem qep (h:k<c.nextID.length):qbr c (k:Int)=c.nextID[k]:=by
 unfold qbr;rw [qet,Qa h];rfl
theorem qil (h:k<p.tables.length):qh5 p (k:Int)=p.tables[k].size:=by
 unfold qh5;rw [qet,Qa h];rfl
theorem CfgV.at (v:CfgV p c) (h:k<p.tables.length):TabV p k p.tables[k] (c.rows[k]'(by rw [v.rl];exact h)) (c.nextID[k]'(by rw [v.nl];exact h)) (c.defaults[k]'(by rw [v.dl];exact h)):=
 v.tab k _ _ _ _ (Qa h) (Qa (by rw [v.rl];exact h)) (Qa (by rw [v.nl];exact h)) (Qa (by rw [v.dl];exact h))
theorem CfgV.upd (v:CfgV p c) (h:k<p.tables.length) {l:List Rw} {nx:Int} {d:ActionCall} {R:List (List Rw)} {N:List Int} {D:List ActionCall}
  (hR:R=c.rows.set k l) (hN:N=c.nextID.set k nx) (hD:D=c.defaults.set k d) (t:TabV p k p.tables[k] l nx d):CfgV p ⟨R,N,D,c.registers⟩:=by
 subst hR hN hD;refine ⟨v.prg,by simp [v.rl],by simp [v.nl],by simp [v.dl],?_,v.con⟩;intro j tb l' nx' d' h1 h2 h3 h4;have hl1:=v.rl;have hl2:=v.nl;have hl3:=v.dl;by_cases hj:k=j
 ·subst hj;rw [List.getElem?_set_self (by omega)] at h2 h3 h4;rw [Qa h] at h1;cases h1;cases h2;cases h3;cases h4;exact t
 ·simp only [List.getElem?_set_ne hj] at h2 h3 h4;exact v.tab j _ _ _ _ h1 h2 h3 h4
end
theorem qahn {p:Prg} {c:Config} {t:Int} {x:Entry} (v:CfgV p c) (h:insE p c t x=0):CfgV p (insC c t x):=by
 unfold insE at h;cases hi:inT p t with
 | false=>rw [if_pos hi] at h;cases h
 | true=>
 obtain ⟨k,rfl,hk⟩:=qeg hi;rw [if_neg (by rw [hi];decide)] at h;have l1:k<c.rows.length:=by rw [v.rl];exact hk
 have l2:k<c.nextID.length:=by rw [v.nl];exact hk
 have l3:k<c.defaults.length:=by rw [v.dl];exact hk
 have hv:=v.at hk;rw [qaz l1,qep l2,qil hk] at h;split at h
 ·rename_i h1;exact absurd h h1
 rename_i h1;split at h
 ·cases h
 rename_i h2;split at h
 ·cases h
 rename_i h3;unfold insC;rw [qaz l1,qep l2];refine v.upd hk (l:=c.rows[k]++[⟨c.nextID[k],x⟩]) (nx:=c.nextID[k]+1) (d:=c.defaults[k]) (by simp) (by simp) (by simp) ?_;have n0:=hv.nx0;refine ⟨by simp;omega,?_,?_,?_,by omega,by omega,?_,?_,hv.dflt⟩
 ·intro r hr;rcases List.mem_append.1 hr with hr | hr
  ·exact hv.pos r hr
  ·simp at hr;subst hr;exact n0
 ·intro r hr;rcases List.mem_append.1 hr with hr | hr
  ·have:=hv.lt r hr;omega
  ·simp at hr;subst hr;simp;omega
 ·rw [List.pairwise_append];exact ⟨hv.inc,by simp,fun a ha b hb=>by simp at hb;subst hb;exact hv.lt a ha⟩
 ·intro r hr;rcases List.mem_append.1 hr with hr | hr
  ·exact hv.ent r hr
  ·simp at hr;subst hr;simpa using h1
 ·rw [List.pairwise_append];refine ⟨hv.uniq,by simp,fun a ha b hb=>?_⟩;simp at hb;subst hb;simp only [List.any_eq_true,not_exists,not_and,Bool.not_eq_true] at h2;exact h2 a ha
theorem qaa5 (p:Prg) (t:Int) (x:Entry) (y:ActionCall) (h:entE p t x=0) (hc:qa7 p t y=0):entE p t ⟨x.keys,x.priority,y⟩=0:=by
 unfold entE at h ⊢;split at h
 ·exact absurd h (by assumption)
 rename_i h1;rw [if_neg h1];cases ht:at? p.tables t with
 | none=>rfl
 | some tb=>
  rw [ht] at h;simp only at h ⊢;split at h
  ·cases h
  rename_i h2;rw [if_neg h2];have he:entG p tb ⟨x.keys,x.priority,y⟩=entG p tb x:=rfl;rw [he];cases hf:fe (entG p tb x) tb.keys.length 0 with
  | some e=>rw [hf] at h;simpa using h
  | none=>
   rw [hf] at h;simp only [Option.getD_none] at h ⊢;unfold entF at h ⊢;unfold qa7 at hc;simp only;split at h
   ·cases h
   rename_i a1;rw [if_neg a1];split at h
   ·cases h
   rename_i a2;rw [if_neg a2];split at h
   ·cases h
   rename_i a3;rw [if_neg a3];exact hc
theorem qh2 {l:List Rw} {id:Int} {i:Nat} (h:rIdx l id=some i):∃hi:i<l.length,l[i].id=id:=by
 unfold rIdx at h;rw [List.findIdx?_eq_some_iff_getElem] at h;obtain ⟨hi,h1,_⟩:=h;exact ⟨hi,by simpa using h1⟩
theorem qahy {p:Prg} {c:Config} {t id:Int} {x:ActionCall} (v:CfgV p c) (h:modE p c t id x=0):CfgV p (modC c t id x):=by
 unfold modE at h;cases hi:inT p t with
 | false=>rw [if_pos hi] at h;cases h
 | true=>
 obtain ⟨k,rfl,hk⟩:=qeg hi;rw [if_neg (by rw [hi];decide)] at h;have l1:k<c.rows.length:=by rw [v.rl];exact hk
 have l2:k<c.nextID.length:=by rw [v.nl];exact hk
 have l3:k<c.defaults.length:=by rw [v.dl];exact hk
 have hv:=v.at hk;unfold modC;rw [qaz l1] at h ⊢;cases hx:rIdx c.rows[k] id with
 | none=>simp only;exact v
 | some i=>
  rw [hx,if_neg (by simp)] at h;simp only;obtain ⟨hil,hid⟩:=qh2 hx;have hm:c.rows[k].modify i (qbe x)=c.rows[k].set i (qbe x c.rows[k][i]):=by
   refine List.ext_getElem (by simp) fun j h1 h2=>?_
   rw [List.getElem_modify,List.getElem_set];split
   ·rename_i e;subst e;rfl
   ·rfl
  refine v.upd hk (l:=c.rows[k].modify i (qbe x)) (nx:=c.nextID[k]) (d:=c.defaults[k]) (by simp) (by simp) (by simp) ?_;have mem:∀r∈c.rows[k].modify i (qbe x),∃r'∈c.rows[k],r.id=r'.id/\entE p k r.entry=0:=by
   intro r hr;rw [hm] at hr;rcases Qq hr with hr | rfl
   ·exact ⟨r,hr,rfl,hv.ent r hr⟩
   ·exact ⟨_,Qd hil,rfl,qaa5 p k _ x (hv.ent _ (Qd hil)) h⟩
  have get:∀j (hj:j<(c.rows[k].modify i (qbe x)).length),(c.rows[k].modify i (qbe x))[j].id=(c.rows[k][j]'(by simpa using hj)).id/\(c.rows[k].modify i (qbe x))[j].entry.keys=(c.rows[k][j]'(by simpa using hj)).entry.keys/\(c.rows[k].modify i (qbe x))[j].entry.priority=(c.rows[k][j]'(by simpa using hj)).entry.priority:=by
   intro j hj;rw [List.getElem_modify];split<;>simp [qbe]
  refine ⟨by simpa using hv.size,?_,?_,?_,hv.nx0,hv.nx1,?_,?_,hv.dflt⟩
  ·intro r hr;obtain ⟨r',hr',e,_⟩:=mem r hr;rw [e];exact hv.pos r' hr'
  ·intro r hr;obtain ⟨r',hr',e,_⟩:=mem r hr;rw [e];exact hv.lt r' hr'
  ·rw [List.pairwise_iff_getElem];intro a b ha hb hab;rw [(get a ha).1,(get b hb).1];exact List.pairwise_iff_getElem.1 hv.inc a b _ _ hab
  ·intro r hr;obtain ⟨_,_,_,e⟩:=mem r hr;exact e
  ·rw [List.pairwise_iff_getElem];intro a b ha hb hab;have:=List.pairwise_iff_getElem.1 hv.uniq a b (by simpa using ha) (by simpa using hb) hab;unfold sk at this ⊢;rw [(get a ha).2.1,(get a ha).2.2,(get b hb).2.1,(get b hb).2.2];exact this
theorem qag2 {p:Prg} {c:Config} {t id:Int} (v:CfgV p c) (h:delE p c t id=0):CfgV p (delC c t id):=by
 unfold delE at h;cases hi:inT p t with
 | false=>rw [if_pos hi] at h;cases h
 | true=>
 obtain ⟨k,rfl,hk⟩:=qeg hi;have l1:k<c.rows.length:=by rw [v.rl];exact hk
 have l2:k<c.nextID.length:=by rw [v.nl];exact hk
 have l3:k<c.defaults.length:=by rw [v.dl];exact hk
 have hv:=v.at hk;unfold delC;rw [qaz l1];cases hx:rIdx c.rows[k] id with
 | none=>simp only;exact v
 | some i=>
  simp only;refine v.upd hk (l:=c.rows[k].eraseIdx i) (nx:=c.nextID[k]) (d:=c.defaults[k]) (by simp) (by simp) (by simp) ?_;have hs:=List.eraseIdx_sublist c.rows[k] i;have hsz:=hv.size;have hle:=hs.length_le;exact ⟨by omega,fun r hr=>hv.pos r (hs.subset hr),fun r hr=>hv.lt r (hs.subset hr),hv.inc.sublist hs,hv.nx0,hv.nx1,fun r hr=>hv.ent r (hs.subset hr),hv.uniq.sublist hs,hv.dflt⟩
theorem qag1 {p:Prg} {c:Config} {t:Int} {x:ActionCall} (v:CfgV p c) (h:defE p t x=0):CfgV p (defC c t x):=by
 unfold defE at h;cases hi:inT p t with
 | false=>rw [if_pos hi] at h;cases h
 | true=>
 obtain ⟨k,rfl,hk⟩:=qeg hi;rw [if_neg (by rw [hi];decide)] at h;have l1:k<c.rows.length:=by rw [v.rl];exact hk
 have l2:k<c.nextID.length:=by rw [v.nl];exact hk
 have l3:k<c.defaults.length:=by rw [v.dl];exact hk
 have hv:=v.at hk;unfold defC;exact v.upd hk (l:=c.rows[k]) (nx:=c.nextID[k]) (d:=x) (by simp) (by simp) (by simp) ⟨hv.size,hv.pos,hv.lt,hv.inc,hv.nx0,hv.nx1,hv.ent,hv.uniq,h⟩
end Go.Av
