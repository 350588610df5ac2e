/-
 Contents of registers: checks, on both sides.
-/
import Derived.Test.YtcehjengeaafpaaGreatK13
set_option linter.all false
namespace Go.Av
set_option maxRecDepth 4000
def mxF:List Int->Int->Int
 | [],a=>a
 | x::r,a=>mxF r (max a x)
theorem FA (M:Int):∀(l:List Int) (a:Int),M<mxF l a↔M<a\/∃x∈l,M<x
 | [],a=>by simp [mxF]
 | x::r,a=>by
  have ih:=FA M r (max a x);simp only [mxF,ih,iW,exists_eq_or_imp];constructor
  ·rintro (h | h)
   ·by_cases q:M<a
    ·exact .inl q
    ·exact .inr (.inl (by omega))
   ·exact .inr (.inr h)
  ·rintro (h | h | h)
   ·exact .inl (by omega)
   ·exact .inl (by omega)
   ·exact .inr h
theorem W8 (l:List Int) (h0:0<l.length) (hl:l.length<2^40):a9 Φ 168 [.slice 1 (l.map c32)]=some (.val (.int .u32 (mxF l.tail l[0]))):=by
 rw [aC rfl rfl];have h1:¬(l.length:Int)<1:=by omega
 simp [vN,h0,h1,c32];refine eF l.length (fun _=>[]) 0 (fun i e=>look 0 e=some (.slice 1 (l.map c32))/\look 4 e=some (.int .i64 i)/\∃a:Int,look 3 e=some (.int .u32 a)/\mxF (l.drop i) a=mxF l.tail l[0])
  (fun _=>some (Rt.val (.int .u32 (mxF l.tail l[0])))) ?_ ?_ 1 _ 0 (by omega) (Qc _) ?_
 ·rintro i e n L hi hL _ ⟨h0,h4,a,h3,hm⟩ ih;have hw:=aH i (by omega);rw [Qi hi] at hm;simp only [mxF] at hm;generalize hX:some (Rt.val (AV.int .u32 (mxF l.tail l[0])))=X;simp [k9,c32,h0,h4,h3,hi,hw];rw [<- hX];exact ih _ _ (Qc _) ⟨by simp [h0],by simp,max a l[i],by simp;split<;>omega,hm⟩
 ·rintro e n L hL _ ⟨h0,h4,a,h3,hm⟩;rw [rK] at hm;simp only [mxF] at hm;rw [<- hm];simp [k9,nR,h0,h4,h3,hL]
 ·simp
def szG (p:Prg) (rs:List (List Int)) (i:Nat):Option Int:=match rs[i]?,p.Xl[i]? with
 | some l,some r=>if (l.length:Int)=r.size then none else some 2
 | _,_=>none
def vlG (p:Prg) (rs:List (List Int)) (i:Nat):Option Int:=match rs[i]?,p.Xl[i]? with
 | some l,some r=>if l.any (fun v=>decide (bF r.Yc<v))=true then some 9 else none
 | _,_=>none
def conE (p:Prg) (rs:List (List Int)):Int:=if rs.length≠p.Xl.length then 2 else (fe (szG p rs) rs.length 0).getD ((fe (vlG p rs) rs.length 0).getD 0)
theorem con_b (p:Prg) (f:PrgS p) (rs:List (List Int)) (hl:rs.length<2^40) (hs:∀l∈rs,l.length<2^40) (hz:rs.length=p.Xl.length) (e:Env) (n:Nat)
  (h1:look 1 e=some (.slice 1 (rs.map (cS 1 c32)))) (h2:look 2 e=some (.iptr 9 [Prg.c p] 0 0)):
  go Φ (finP [.tmp 4]) [.c fC] .normal ⟨e,⟨[],n⟩⟩=some (.val (.int .i64 ((fe (vlG p rs) rs.length 0).getD 0))):=by
 simp [fC,h1];refine eF rs.length (fun _=>[]) 0 (fun i e=>look 2 e=some (.iptr 9 [Prg.c p] 0 0)/\look 32 e=some (.slice 1 (rs.map (cS 1 c32)))/\look 33 e=some (.int .i64 rs.length)/\look 34 e=some (.int .i64 i))
  (fun i=>some (Rt.val (.int .i64 ((fe (vlG p rs) rs.length i).getD 0)))) ?_ ?_ 0 _ n (Qc _) (Qc _) ?_
 ·rintro i e n L hi hL _ ⟨h2,h32,h33,h34⟩ ih;have hw:=aH i (by omega);have hi2:i<p.Xl.length:=by omega
  have hm:=jI p.Xl[i].Yc;rw [Prg.e] at h2;by_cases e0:rs[i].length=0
  ·have e1:rs[i]=[]:=Qg e0;rw [eW hi (by simp [vlG,hi,hi2,e1])];generalize hX:some (Rt.val (AV.int .i64 ((fe (vlG p rs) rs.length (i+1)).getD 0)))=X;simp [cA,cSe,h32,h33,h34,hi,hw,e1];rw [<- hX];exact ih _ _ (Qc _) ⟨by simp [h2,Prg.e],by simp [h32],by simp [h33],by simp⟩
  have e1:0<rs[i].length:=by omega
  have hx:=W8 rs[i] e1 (hs _ (Qd hi));have hy:rs[i].any (fun v=>decide (bF p.Xl[i].Yc<v))=decide (bF p.Xl[i].Yc<mxF rs[i].tail rs[i][0]):=by
   rw [Bool.eq_iff_iff,decide_eq_true_eq,FA,tL];have hd:rs[i]=rs[i][0]::rs[i].tail:=by
    have:=Qi e1;simpa using this
   constructor
   ·rintro ⟨x,hx,hv⟩;rw [hd] at hx;rcases iW.1 hx with rfl | hx
    ·exact .inl (of_decide_eq_true hv)
    ·exact .inr ⟨x,hx,of_decide_eq_true hv⟩
   ·rintro (h | ⟨x,hx,hv⟩)
    ·exact ⟨_,Qd e1,decide_eq_true h⟩
    ·exact ⟨x,List.mem_of_mem_tail hx,decide_eq_true hv⟩
  by_cases v:bF p.Xl[i].Yc<mxF rs[i].tail rs[i][0]
  ·rw [bX (x:=(9:Int)) hi (by simp only [vlG,Qa hi,Qa hi2];rw [hy,a8 (decide_eq_true v)])];simp [cA,cSe,Xg.e,h2,h32,h33,h34,hi,hi2,e1,hx,hm,v]
  ·rw [eW hi (by simp only [vlG,Qa hi,Qa hi2];rw [hy,QA (by simpa using v)])];generalize hX:some (Rt.val (AV.int .i64 ((fe (vlG p rs) rs.length (i+1)).getD 0)))=X;simp [cA,cSe,Xg.e,h2,h32,h33,h34,hi,hi2,e1,hx,hm,v,hw];rw [<- hX];exact ih _ _ (Qc _) ⟨by simp [h2,Prg.e],by simp [h32],by simp [h33],by simp⟩
 ·rintro e n L hL _ ⟨h2,h32,h33,h34⟩;rw [iQ];simp [cA,jN,h33,h34,hL]
 ·simp [h2]
theorem T6 (p:Prg) (f:PrgS p) (rs:List (List Int)) (hl:rs.length<2^40) (hs:∀l∈rs,l.length<2^40):a9 Φ 101 [.agg (Prg.c p),.slice 1 (rs.map (cS 1 c32))]=some (.val (.int .i64 (conE p rs))):=by
 rw [aC rfl rfl];unfold conE;by_cases z:rs.length=p.Xl.length
 rotate_left
 ·simp [rM,Prg.e,z]
 rw [QA (by simpa using z)];generalize hY:some (Rt.val (AV.int .i64 ((fe (szG p rs) rs.length 0).getD ((fe (vlG p rs) rs.length 0).getD 0))))=Y;simp [rM,Prg.e,z];rw [<- hY];refine eF rs.length (fun _=>[]) 0 (fun i e=>look 1 e=some (.slice 1 (rs.map (cS 1 c32)))/\look 2 e=some (.iptr 9 [Prg.c p] 0 0)/\look 15 e=some (.slice 1 (rs.map (cS 1 c32)))/\look 16 e=some (.int .i64 rs.length)/\look 17 e=some (.int .i64 i))
  (fun i=>some (Rt.val (.int .i64 ((fe (szG p rs) rs.length i).getD ((fe (vlG p rs) rs.length 0).getD 0))))) ?_ ?_ 0 _ 0 (Qc _) (Qc _) ?_
 ·rintro i e n L hi hL _ ⟨h1,h2,h15,h16,h17⟩ ih;have hw:=aH i (by omega);have hi2:i<p.Xl.length:=by omega
  rw [Prg.e] at h2;by_cases v:(rs[i].length:Int)=p.Xl[i].size
  ·rw [eW hi (by simp [szG,hi,hi2,v])];generalize hX:some (Rt.val (AV.int .i64 ((fe (szG p rs) rs.length (i+1)).getD ((fe (vlG p rs) rs.length 0).getD 0))))=X;simp [d9,cSe,Xg.e,h2,h15,h16,h17,hi,hi2,v,hw];rw [<- hX];exact ih _ _ (Qc _) ⟨by simp [h1],by simp [h2,Prg.e],by simp [h15],by simp [h16],by simp⟩
  ·rw [bX (x:=(2:Int)) hi (by simp [szG,hi,hi2,v])];simp [d9,cSe,Xg.e,h2,h15,h16,h17,hi,hi2,v]
 ·rintro e n L hL _ ⟨h1,h2,h15,h16,h17⟩;rw [iQ];generalize hX:some (Rt.val (AV.int .i64 ((none:Option Int).getD ((fe (vlG p rs) rs.length 0).getD 0))))=X;simp [d9,h16,h17,hL];rw [<- hX];exact con_b p f rs hl hs z _ _ (by simp [h1]) (by simp [h2])
 ·simp [Prg.e,z]
def wd (w:Int):Nat:=if wBad w then 0 else w.toNat
theorem wd_le (w:Int):wd w<=32:=by
 unfold wd;cases q:wBad w with
 | true=>simp
 | false=>
  obtain ⟨w1,w2⟩:=wBad_false.1 q;simp;omega
theorem Ku (w v:Int):bF w<v↔¬v<2^wd w:=by
 unfold bF wd;cases q:wBad w with
 | true=>simp;omega
 | false=>simp;omega
theorem XW (r:Xg):a9 Φ 123 [.agg (Xg.c r)]=some (.val (.int .i64 (wd r.Yc))):=by
 rw [aC rfl rfl];by_cases h1:r.Yc<1
 ·simp [pC,Xg.e,h1,wd,wBad]
 by_cases h2:32<r.Yc
 ·simp [pC,Xg.e,h1,h2,wd,wBad]
 simp [pC,Xg.e,h1,h2,wd,wBad];omega
theorem XG (p:Prg) (rs:List (List Int)) (hl:rs.length<2^40) (hs:∀l∈rs,l.length<2^40/\∀v∈l,ok32 0 v) (hz:rs.length=p.Xl.length) (e:Env) (n:Nat)
  (h1:look 1 e=some (.slice 1 (rs.map (cS 1 c32)))) (h2:look 2 e=some (.iptr 9 [Prg.c p] 0 0)):
  go Φ (finP [.tmp 4]) [.c jA] .normal ⟨e,⟨[],n⟩⟩=some (.val (.int .i64 ((fe (vlG p rs) rs.length 0).getD 0))):=by
 simp [jA];refine eF rs.length (fun _=>[]) 0 (fun i e=>look 1 e=some (.slice 1 (rs.map (cS 1 c32)))/\look 2 e=some (.iptr 9 [Prg.c p] 0 0)/\look 6 e=some (.int .i64 i))
  (fun i=>some (Rt.val (.int .i64 ((fe (vlG p rs) rs.length i).getD 0)))) ?_ ?_ 0 _ n (Qc _) (Qc _) ?_
 ·rintro i e n L hi hL _ ⟨h1,h2,h6⟩ ih;have hw:=aH i (by omega);have hi2:i<p.Xl.length:=by omega
  have hm:=hs _ (Qd hi);have hwd:=XW p.Xl[i];simp only [Xg.e] at hwd;have hV:fe (vlG p rs) rs.length i=if rs[i].any (fun v=>decide (bF p.Xl[i].Yc<v))=true then some 9 else fe (vlG p rs) rs.length (i+1):=by
   by_cases y:rs[i].any (fun v=>decide (bF p.Xl[i].Yc<v))=true
   ·rw [a8 y];exact bX hi (by simp only [vlG,Qa hi,Qa hi2];rw [a8 y])
   ·rw [QA y];exact eW hi (by simp only [vlG,Qa hi,Qa hi2];rw [QA y])
  generalize hX:some (Rt.val (AV.int .i64 ((fe (vlG p rs) rs.length (i+1)).getD 0)))=X at ih;generalize hY:some (Rt.val (AV.int .i64 ((fe (vlG p rs) rs.length i).getD 0)))=Y;have hYX:Y=if rs[i].any (fun v=>decide (bF p.Xl[i].Yc<v))=true then some (Rt.val (AV.int .i64 9)) else X:=by
   rw [<- hY,<- hX,hV];split<;>rfl
  simp [jC,h1,h6,hi];refine (eF rs[i].length (fun _=>[]) 0 (fun j e=>look 1 e=some (.slice 1 (rs.map (cS 1 c32)))/\look 2 e=some (.iptr 9 [Prg.c p] 0 0)/\look 6 e=some (.int .i64 i)/\look 7 e=some (.int .i64 j))
   (fun j=>if (rs[i].drop j).any (fun v=>decide (bF p.Xl[i].Yc<v))=true then some (Rt.val (AV.int .i64 9)) else X) ?_ ?_ 0 _ n (Qc _) (Qc _) ?_).trans (by rw [hYX,List.drop_zero])
  ·rintro j e n L' hj hL' _ ⟨h1,h2,h6,h7⟩ ih';have hw':=aH j (by omega);have hf:=KG rs[i][j] (hm.2 _ (Qd hj)) (wd p.Xl[i].Yc) (wd_le _);rw [Prg.e] at h2;rw [Qi hj,uH];by_cases v:rs[i][j]<2^wd p.Xl[i].Yc
   ·rw [decide_eq_true v] at hf;rw [show decide (bF p.Xl[i].Yc<rs[i][j])=false from decide_eq_false fun h=>(Ku _ _).1 h v,AP];generalize hZ:(if (rs[i].drop (j+1)).any (fun v=>decide (bF p.Xl[i].Yc<v))=true then some (Rt.val (AV.int .i64 9)) else X)=Z;simp [gZ,cSe,c32,Xg.e,h1,h2,h6,h7,hi,hi2,hj,hwd,hf,hw'];rw [<- hZ];exact ih' _ _ (Qc _) ⟨by simp [h1],by simp [h2,Prg.e],by simp [h6],by simp⟩
   ·rw [decide_eq_false v] at hf;rw [show decide (bF p.Xl[i].Yc<rs[i][j])=true from decide_eq_true ((Ku _ _).2 v),CJ,a8 rfl];simp [gZ,cSe,c32,Xg.e,h1,h2,h6,h7,hi,hi2,hj,hwd,hf]
  ·rintro e n L' hL' _ ⟨h1,h2,h6,h7⟩;rw [rK,List.any_nil,QA (by decide)];simp [gZ,cSe,h1,h6,h7,hi,hL',mU,hw];exact ih _ _ (Qc _) ⟨by simp [h1],by simp [h2],by simp⟩
  ·simp [h1,h2,h6]
 ·rintro e n L hL _ ⟨h1,h2,h6⟩;rw [iQ];simp [jC,mV,h1,h6,hL]
 ·simp [h1,h2]
theorem QQ (p:Prg) (rs:List (List Int)) (hl:rs.length<2^40) (hs:∀l∈rs,l.length<2^40/\∀v∈l,ok32 0 v):a9 Φ 57 [.agg (Prg.c p),.slice 1 (rs.map (cS 1 c32))]=some (.val (.int .i64 (conE p rs))):=by
 rw [aC rfl rfl];unfold conE;by_cases z:rs.length=p.Xl.length
 rotate_left
 ·simp [AW,Prg.e,z]
 rw [QA (by simpa using z)];generalize hY:some (Rt.val (AV.int .i64 ((fe (szG p rs) rs.length 0).getD ((fe (vlG p rs) rs.length 0).getD 0))))=Y;simp [AW,Prg.e,z];rw [<- hY];refine eF rs.length (fun _=>[]) 0 (fun i e=>look 1 e=some (.slice 1 (rs.map (cS 1 c32)))/\look 2 e=some (.iptr 9 [Prg.c p] 0 0)/\look 5 e=some (.int .i64 i))
  (fun i=>some (Rt.val (.int .i64 ((fe (szG p rs) rs.length i).getD ((fe (vlG p rs) rs.length 0).getD 0))))) ?_ ?_ 0 _ 0 (Qc _) (Qc _) ?_
 ·rintro i e n L hi hL _ ⟨h1,h2,h5⟩ ih;have hw:=aH i (by omega);have hi2:i<p.Xl.length:=by omega
  rw [Prg.e] at h2;by_cases v:(rs[i].length:Int)=p.Xl[i].size
  ·rw [eW hi (by simp [szG,hi,hi2,v])];generalize hX:some (Rt.val (AV.int .i64 ((fe (szG p rs) rs.length (i+1)).getD ((fe (vlG p rs) rs.length 0).getD 0))))=X;simp [gY,cSe,Xg.e,h1,h2,h5,hi,hi2,v,hw];rw [<- hX];exact ih _ _ (Qc _) ⟨by simp [h1],by simp [h2,Prg.e],by simp⟩
  ·rw [bX (x:=(2:Int)) hi (by simp [szG,hi,hi2,v])];simp [gY,cSe,Xg.e,h1,h2,h5,hi,hi2,v]
 ·rintro e n L hL _ ⟨h1,h2,h5⟩;rw [iQ];generalize hX:some (Rt.val (AV.int .i64 ((none:Option Int).getD ((fe (vlG p rs) rs.length 0).getD 0))))=X;simp [gY,h1,h5,hL];rw [<- hX];exact XG p rs hl hs z _ _ (by simp [h1]) (by simp [h2])
 ·simp [Prg.e]
def PC (p:Prg):Prop:=a9 Φ 70 [.agg (Prg.c p)]=some (.val (.agg (dgC (prgD p))))/\a9 Φ 21 [.agg (Prg.c p)]=some (.val (.agg (dgC (prgD p))))
structure CfgT (a:Xe):Prop where
 rl:a.rows.length<2^40
 rs:∀l∈a.rows,l.length<2^40/\∀r∈l,rowS r
 nl:a.Xq.length<2^40
 dl:a.Xp.length<2^40
 ds:∀d∈a.Xp,d.args.length<2^40/\∀v∈d.args,ok32 0 v
 gl:a.Xl.length<2^40
 gs:∀l∈a.Xl,l.length<2^40/\∀v∈l,ok32 0 v
def rowE (p:Prg) (k:Nat) (tb:Tbl) (l:List Rw) (nx:Int) (z:Int):Int:=if tb.size<l.length then 12 else tabK p k l nx z (ordL l 0)
theorem Y5 (p:Prg) (t:Int) (l:List Rw) (nx z:Int) (o:Option Int):tabK p t l nx z o=if tabK p t l nx 0 o≠0 then tabK p t l nx 0 o else z:=by
 cases o with
 | none=>simp [tabK]
 | some a=>
  simp only [tabK];by_cases z0:nx<=a
  ·simp [z0]
  by_cases z1:1073741824<nx
  ·simp [z0,z1]
  simp only [QA z0,QA z1];cases q:fe (rowG p t l) l.length 0 with
  | none=>simp
  | some x=>
   have hx:x≠0:=by
    obtain ⟨k,hk,hx⟩:=IZ q;simp only [rowG,Qt] at hx;obtain ⟨r,_,hr⟩:=hx;split at hr
    ·cases hr;assumption
    ·split at hr
     ·cases hr;decide
     ·cases hr
   simp [hx]
theorem WX (p:Prg) (k:Nat) (tb:Tbl) (l:List Rw) (nx z:Int):rowE p k tb l nx z=if rowE p k tb l nx 0≠0 then rowE p k tb l nx 0 else z:=by
 unfold rowE;split
 ·simp
 ·exact Y5 _ _ _ _ _ _
def stG (p:Prg) (c:Xe) (k:Nat):Option Int:=match p.Xm[k]?,c.rows[k]?,c.Xq[k]?,c.Xp[k]? with
 | some tb,some l,some nx,some d=>if rowE p k tb l nx (iT p k d)=0 then none else some (rowE p k tb l nx (iT p k d))
 | _,_,_,_=>none
def cfgE (p:Prg) (c:Xe):Int:=if (prgD p).1≠0 then (prgD p).1 else if c.rows.length≠p.Xm.length\/c.Xq.length≠p.Xm.length\/c.Xp.length≠p.Xm.length then 2
 else (fe (stG p c) p.Xm.length 0).getD (conE p c.Xl)
theorem SY (p:Prg) (f:PrgS p) (hc:PC p) (c:Xe) (s:CfgT c):a9 Φ 46 [.agg (Prg.c p),.agg (Xe.c c)]=some (.val (.int .i64 (cfgE p c))):=by
 rw [aC rfl rfl];have h:=hc.1;simp only [Prg.e,dgC] at h;have ht:=f.t;by_cases z:(prgD p).1=0
 rotate_left
 ·simp [qM,Prg.e,Xe.ce,h,z,cfgE]
 by_cases z1:c.rows.length=p.Xm.length
 rotate_left
 ·simp [qM,Prg.e,Xe.ce,h,z,z1,cfgE]
 by_cases z2:c.Xq.length=p.Xm.length
 rotate_left
 ·simp [qM,Prg.e,Xe.ce,h,z,z1,z2,cfgE]
 by_cases z3:c.Xp.length=p.Xm.length
 rotate_left
 ·simp [qM,Prg.e,Xe.ce,h,z,z1,z2,z3,cfgE]
 rw [show cfgE p c=(fe (stG p c) p.Xm.length 0).getD (conE p c.Xl) by simp [cfgE,z,z1,z2,z3]];simp [qM,Prg.e,Xe.ce,h,z,z1,z2,z3];refine eF p.Xm.length (fun _=>[]) 0 (fun i e=>look 2 e=some (.iptr 9 [Prg.c p] 0 0)/\look 3 e=some (.iptr 4 [Xe.c c] 0 0)/\look 38 e=some (.int .i64 p.Xm.length)/\look 39 e=some (.int .i64 i))
  (fun i=>some (Rt.val (.int .i64 ((fe (stG p c) p.Xm.length i).getD (conE p c.Xl))))) ?_ ?_ 0 _ _ (Qc _) (Qc _) ?_
 ·rintro i e n L hi hL _ ⟨h2,h3,h38,h39⟩ ih;have hw:=aH i (by omega);have i1:i<c.rows.length:=by omega
  have i2:i<c.Xq.length:=by omega
  have i3:i<c.Xp.length:=by omega
  have hr:=s.rs _ (Qd i1);have hd:=s.ds _ (Qd i3);have hk:=T9 p f i hi c.rows[i] c.Xq[i] c.Xp[i] hr.1 hr.2 hd.1;rw [show (if p.Xm[i].size<(c.rows[i].length:Int) then (12:Int) else tabK p i c.rows[i] c.Xq[i] (iT p i c.Xp[i]) (ordL c.rows[i] 0))=rowE p i p.Xm[i] c.rows[i] c.Xq[i] (iT p i c.Xp[i]) from rfl] at hk;simp only [Prg.e,Xb.ce] at hk;rw [Prg.e] at h2;rw [Xe.ce] at h3;by_cases v:rowE p i p.Xm[i] c.rows[i] c.Xq[i] (iT p i c.Xp[i])=0
  ·rw [eW hi (by simp [stG,hi,i1,i2,i3,v])];rw [v] at hk;generalize hX:some (Rt.val (AV.int .i64 ((fe (stG p c) p.Xm.length (i+1)).getD (conE p c.Xl))))=X;simp [gW,cSe,cI,Xb.ce,h2,h3,h38,h39,hi,i1,i2,i3,hk,hw];rw [<- hX];exact ih _ _ (Qc _) ⟨by simp [h2,Prg.e],by simp [h3,Xe.ce],by simp [h38],by simp⟩
  ·rw [bX (x:=rowE p i p.Xm[i] c.rows[i] c.Xq[i] (iT p i c.Xp[i])) hi (by simp [stG,hi,i1,i2,i3,v])];simp [gW,cSe,cI,Xb.ce,h2,h3,h38,h39,hi,i1,i2,i3,hk,v]
 ·rintro e n L hL _ ⟨h2,h3,h38,h39⟩;have hk:=T6 p f c.Xl s.gl fun l hl=>(s.gs l hl).1
  simp only [Prg.e] at hk;rw [Prg.e] at h2;rw [Xe.ce] at h3;rw [iQ];simp [gW,mR,h2,h3,h38,h39,hL,hk]
 ·simp [Prg.e,Xe.ce]
theorem QP (p:Prg) (f:PrgS p) (hv:∀t∈p.Xm,∀v∈t.Yb.args,ok32 0 v) (hc:PC p) (c:Xe) (s:CfgT c):a9 Φ 22 [.agg (Prg.c p),.agg (Xe.c c)]=some (.val (.int .i64 (cfgE p c))):=by
 rw [aC rfl rfl];have h:=hc.2;simp only [Prg.e,dgC] at h;have ht:=f.t;by_cases z:(prgD p).1=0
 rotate_left
 ·simp [qL,Prg.e,Xe.ce,h,z,cfgE]
 by_cases z1:c.rows.length=p.Xm.length
 rotate_left
 ·simp [qL,Prg.e,Xe.ce,h,z,z1,cfgE]
 by_cases z2:c.Xq.length=p.Xm.length
 rotate_left
 ·simp [qL,Prg.e,Xe.ce,h,z,z1,z2,cfgE]
 by_cases z3:c.Xp.length=p.Xm.length
 rotate_left
 ·simp [qL,Prg.e,Xe.ce,h,z,z1,z2,z3,cfgE]
 rw [show cfgE p c=(fe (stG p c) p.Xm.length 0).getD (conE p c.Xl) by simp [cfgE,z,z1,z2,z3]];simp [qL,Prg.e,Xe.ce,h,z,z1,z2,z3];refine eF p.Xm.length (fun _=>[]) 0 (fun i e=>look 2 e=some (.iptr 9 [Prg.c p] 0 0)/\look 3 e=some (.iptr 4 [Xe.c c] 0 0)/\look 5 e=some (.int .i64 p.Xm.length)/\look 6 e=some (.int .i64 i))
  (fun i=>some (Rt.val (.int .i64 ((fe (stG p c) p.Xm.length i).getD (conE p c.Xl))))) ?_ ?_ 0 _ _ (Qc _) (Qc _) ?_
 ·rintro i e n L hi hL _ ⟨h2,h3,h5,h6⟩ ih;have hw:=aH i (by omega);have i1:i<c.rows.length:=by omega
  have i2:i<c.Xq.length:=by omega
  have i3:i<c.Xp.length:=by omega
  have hr:=s.rs _ (Qd i1);have hd:=s.ds _ (Qd i3);have hk:=QZ p f hv i hi c.rows[i] c.Xq[i] hr.1 hr.2;have hq:=QO p f hv i c.Xp[i] hd.1 hd.2;rw [show (if p.Xm[i].size<(c.rows[i].length:Int) then (12:Int) else tabK p i c.rows[i] c.Xq[i] 0 (ordL c.rows[i] 0))=rowE p i p.Xm[i] c.rows[i] c.Xq[i] 0 from rfl] at hk;simp only [Prg.e,Xb.ce] at hk hq;rw [Prg.e] at h2;rw [Xe.ce] at h3;have hz:=WX p i p.Xm[i] c.rows[i] c.Xq[i] (iT p i c.Xp[i]);by_cases v:rowE p i p.Xm[i] c.rows[i] c.Xq[i] 0=0
  ·rw [QA (by simpa using v)] at hz;rw [v] at hk;by_cases w:iT p i c.Xp[i]=0
   ·rw [eW hi (by simp [stG,hi,i1,i2,i3,w,v])];rw [w] at hq;generalize hX:some (Rt.val (AV.int .i64 ((fe (stG p c) p.Xm.length (i+1)).getD (conE p c.Xl))))=X;simp [eJ,cSe,cI,Xb.ce,h2,h3,h5,h6,hi,i1,i2,i3,hk,hq,hw];rw [<- hX];exact ih _ _ (Qc _) ⟨by simp [h2,Prg.e],by simp [h3,Xe.ce],by simp [h5],by simp⟩
   ·rw [bX (x:=iT p i c.Xp[i]) hi (by simp [stG,hi,i1,i2,i3,hz,w])];simp [eJ,cSe,cI,Xb.ce,h2,h3,h5,h6,hi,i1,i2,i3,hk,hq,w]
  ·rw [a8 v] at hz;rw [bX (x:=rowE p i p.Xm[i] c.rows[i] c.Xq[i] 0) hi (by simp [stG,hi,i1,i2,i3,hz,v])];simp [eJ,cSe,cI,h2,h3,h5,h6,hi,i1,i2,hk,v]
 ·rintro e n L hL _ ⟨h2,h3,h5,h6⟩;have hk:=QQ p c.Xl s.gl s.gs;simp only [Prg.e] at hk;rw [Prg.e] at h2;rw [Xe.ce] at h3;rw [iQ];simp [eJ,mQ,h2,h3,h5,h6,hL,hk]
 ·simp [Prg.e,Xe.ce]
structure TabV (p:Prg) (k:Nat) (tb:Tbl) (l:List Rw) (nx:Int) (d:Xb):Prop where
 size:(l.length:Int)<=tb.size
 pos:∀r∈l,0<r.id
 lt:∀r∈l,r.id<nx
 inc:l.Pairwise (fun a b=>a.id<b.id)
 nx0:0<nx
 nx1:nx<=1073741824
 ent:∀r∈l,entE p k r.entry=0
 uniq:l.Pairwise (fun a b=>sk a.entry b.entry=false)
 Yb:iT p k d=0
theorem Kv (nx:Int):∀(l:List Rw) (a:Int),(∃b,ordL l a=some b/\b<nx)↔a<nx/\(∀r∈l,a<r.id/\r.id<nx)/\l.Pairwise (fun a b=>a.id<b.id)
 | [],a=>by simp [ordL]
 | r::l,a=>by
  have ih:=Kv nx l r.id;simp only [ordL];by_cases h:r.id<=a
  ·rw [a8 h];constructor
   ·rintro ⟨b,hb,_⟩;cases hb
   ·rintro ⟨_,h2,_⟩;have:=(h2 r (by simp)).1;omega
  ·rw [QA h,ih,QD];constructor
   ·rintro ⟨h1,h2,h3⟩;refine ⟨by omega,?_,fun x hx=>(h2 x hx).1,h3⟩;intro x hx;rcases iW.1 hx with rfl | hx
    ·exact ⟨by omega,h1⟩
    ·have:=h2 x hx;exact ⟨by omega,this.2⟩
   ·rintro ⟨h1,h2,h3,h4⟩;exact ⟨(h2 r (by simp)).2,fun x hx=>⟨h3 x hx,(h2 x (by simp [hx])).2⟩,h4⟩
theorem NJ (p:Prg) (t:Int) (l:List Rw):(∀i,i<l.length->rowG p t l i=none)↔(∀r∈l,entE p t r.entry=0)/\l.Pairwise (fun a b=>sk a.entry b.entry=false):=by
 have key:∀i (hi:i<l.length),rowG p t l i=none↔entE p t l[i].entry=0/\∀j (hj:j<i),sk l[j].entry l[i].entry=false:=by
  intro i hi;simp only [rowG,Qa hi,fB];by_cases h:entE p t l[i].entry=0
  ·rw [QA (by simpa using h)];have:((l.take i).any fun y=>sk y.entry l[i].entry)=true↔¬∀j (hj:j<i),sk l[j].entry l[i].entry=false:=by
    rw [tL];constructor
    ·rintro ⟨y,hy,hs⟩ hc;obtain ⟨j,hj,rfl⟩:=Qn.1 hy;simp at hj;have:=hc j (by omega);simp only [List.getElem_take] at hs;rw [this] at hs;cases hs
    ·intro hc;simp only [Classical.not_forall] at hc;obtain ⟨j,hj,hs⟩:=hc;refine ⟨l[j],?_,by simpa using hs⟩;rw [KA];exact ⟨j,by omega,rfl⟩
   by_cases hu:∀j (hj:j<i),sk l[j].entry l[i].entry=false
   ·rw [QA (by rw [this];exact fun hc=>hc hu)];simp [h];exact hu
   ·rw [a8 (this.2 hu)];simp [h];simpa using hu
  ·rw [a8 h];simp [h]
 constructor
 ·intro h;refine ⟨?_,?_⟩
  ·intro r hr;obtain ⟨i,hi,rfl⟩:=Qn.1 hr;exact ((key i hi).1 (h i hi)).1
  ·rw [H3];intro i j hi hj hij;exact ((key j hj).1 (h j hj)).2 i hij
 ·rintro ⟨h1,h2⟩ i hi;rw [key i hi];refine ⟨h1 _ (Qd hi),?_⟩;intro j hj;exact H3.1 h2 j i (by omega) hi hj
theorem V4 (p:Prg) (t:Int) (l:List Rw) {i:Nat} {x:Int} (h:rowG p t l i=some x):x≠0:=by
 simp only [rowG,Qt] at h;obtain ⟨r,_,hr⟩:=h;split at hr
 ·cases hr;assumption
 ·split at hr
  ·cases hr;decide
  ·cases hr
theorem Jg (p:Prg) (k:Nat) (tb:Tbl) (l:List Rw) (nx:Int) (d:Xb):rowE p k tb l nx (iT p k d)=0↔TabV p k tb l nx d:=by
 have hI:=Kv nx l 0;have hG:=NJ p k l;rw [<- fe_all] at hG;unfold rowE;by_cases h:tb.size<(l.length:Int)
 ·rw [a8 h];constructor
  ·intro hc;cases hc
  ·intro hv;have:=hv.size;omega
 rw [QA h];cases ho:ordL l 0 with
 | none=>
  rw [ho] at hI;simp only [tabK];constructor
  ·intro hc;cases hc
  ·intro hv;obtain ⟨b,hb,_⟩:=hI.2 ⟨hv.nx0,fun r hr=>⟨hv.pos r hr,hv.lt r hr⟩,hv.inc⟩;cases hb
 | some a=>
  rw [ho] at hI;simp only [tabK];by_cases h1:nx<=a
  ·rw [a8 h1];constructor
   ·intro hc;cases hc
   ·intro hv;obtain ⟨b,hb,h2⟩:=hI.2 ⟨hv.nx0,fun r hr=>⟨hv.pos r hr,hv.lt r hr⟩,hv.inc⟩;cases hb;omega
  rw [QA h1];have hJ:=hI.1 ⟨a,rfl,by omega⟩;by_cases h2:1073741824<nx
  ·rw [a8 h2];constructor
   ·intro hc;cases hc
   ·intro hv;have:=hv.nx1;omega
  rw [QA h2];cases hf:fe (rowG p k l) l.length 0 with
  | some x=>
   have hx:x≠0:=by
    obtain ⟨i,_,hx⟩:=IZ hf;exact V4 p k l hx
   rw [hf] at hG;simp only [lY];constructor
   ·intro hc;exact absurd hc hx
   ·intro hv;have:=hG.2 ⟨hv.ent,hv.uniq⟩;cases this
  | none=>
   have hq:=hG.1 hf;simp only [HE];constructor
   ·intro hc;exact ⟨by omega,fun r hr=>(hJ.2.1 r hr).1,fun r hr=>(hJ.2.1 r hr).2,hJ.2.2,hJ.1,by omega,hq.1,hq.2,hc⟩
   ·intro hv;exact hv.Yb
structure CfgV (p:Prg) (c:Xe):Prop where
 prg:(prgD p).1=0
 rl:c.rows.length=p.Xm.length
 nl:c.Xq.length=p.Xm.length
 dl:c.Xp.length=p.Xm.length
 tab:∀k tb l nx d,p.Xm[k]? =some tb->c.rows[k]? =some l->c.Xq[k]? =some nx->c.Xp[k]? =some d->TabV p k tb l nx d
 con:conE p c.Xl=0
theorem Y3 (p:Prg) (c:Xe) {k:Nat} {x:Int} (h:stG p c k=some x):x≠0:=by
 unfold stG at h;split at h
 ·split at h
  ·cases h
  ·cases h;assumption
 ·cases h
theorem G3 (p:Prg) (c:Xe):cfgE p c=0↔CfgV p c:=by
 unfold cfgE;by_cases h:(prgD p).1=0
 rotate_left
 ·rw [a8 h];exact ⟨fun hc=>absurd hc h,fun hv=>absurd hv.prg h⟩
 rw [QA (by simpa using h)];by_cases hl:c.rows.length≠p.Xm.length\/c.Xq.length≠p.Xm.length\/c.Xp.length≠p.Xm.length
 ·rw [a8 hl];constructor
  ·intro hc;cases hc
  ·intro hv;have:=hv.rl;have:=hv.nl;have:=hv.dl;omega
 rw [QA hl];have l1:c.rows.length=p.Xm.length:=by omega
 have l2:c.Xq.length=p.Xm.length:=by omega
 have l3:c.Xp.length=p.Xm.length:=by omega
 cases hf:fe (stG p c) p.Xm.length 0 with
 | some x=>
  obtain ⟨k,hk,hx⟩:=IZ hf;simp only [lY];constructor
  ·intro hc;exact absurd hc (Y3 p c hx)
  ·intro hv;have hq:stG p c k=none:=by
    unfold stG;split
    ·rename_i tb l nx d e1 e2 e3 e4;rw [a8 ((Jg p k tb l nx d).2 (hv.tab k tb l nx d e1 e2 e3 e4))]
    ·rfl
   rw [hq] at hx;cases hx
 | none=>
  simp only [HE];have ha:=fe_all.1 hf;constructor
  ·intro hc;refine ⟨h,l1,l2,l3,?_,hc⟩;intro k tb l nx d e1 e2 e3 e4;have hk:=(Qm.1 e1).1;have hq:=ha k hk;simp only [stG,e1,e2,e3,e4] at hq;split at hq
   ·rename_i hz;exact (Jg p k tb l nx d).1 hz
   ·cases hq
  ·intro hv;exact hv.con
def DH (c:Xe) (t:Int):List Rw:=(at? c.rows t).getD []
def uW (c:Xe) (t:Int):Int:=(at? c.Xq t).getD 0
def JM (p:Prg) (t:Int):Int:=((at? p.Xm t).map Tbl.size).getD 0
def inT (p:Prg) (t:Int):Bool:=decide (0<=t)&&decide (t<p.Xm.length)
def insE (p:Prg) (c:Xe) (t:Int) (x:Entry):Int:=
 if inT p t=false then 8 else if entE p t x≠0 then entE p t x else if (DH c t).any (fun y=>sk y.entry x)=true then 7
 else if JM p t<=(DH c t).length\/1073741824<=uW c t then 13 else 0
def insC (c:Xe) (t:Int) (x:Entry):Xe:=⟨c.rows.set t.toNat (DH c t++[⟨uW c t,x⟩]),c.Xq.set t.toNat (uW c t+1),c.Xp,c.Xl⟩
theorem Mx {p:Prg} {t:Int} (h:inT p t=true):∃k:Nat,t=k/\k<p.Xm.length:=by
 unfold inT at h;simp at h;exact ⟨t.toNat,by omega,by omega⟩
section
variable {p:Prg} {c:Xe} {k:Nat}
theorem Ak (h:k<c.rows.length):DH c (k:Int)=c.rows[k]:=by
 unfold DH;rw [mM,Qa h];rfl
theorem Bd (h:k<c.Xq.length):uW c (k:Int)=c.Xq[k]:=by
 unfold uW;rw [mM,Qa h];rfl
theorem Ho (h:k<p.Xm.length):JM p (k:Int)=p.Xm[k].size:=by
 unfold JM;rw [mM,Qa h];rfl
theorem CfgV.at (v:CfgV p c) (h:k<p.Xm.length):TabV p k p.Xm[k] (c.rows[k]'(by rw [v.rl];exact h)) (c.Xq[k]'(by rw [v.nl];exact h)) (c.Xp[k]'(by rw [v.dl];exact h)):=
 v.tab k _ _ _ _ (Qa h) (Qa (by rw [v.rl];exact h)) (Qa (by rw [v.nl];exact h)) (Qa (by rw [v.dl];exact h))
theorem CfgV.upd (v:CfgV p c) (h:k<p.Xm.length) {l:List Rw} {nx:Int} {d:Xb} {R:List (List Rw)} {N:List Int} {D:List Xb}
  (hR:R=c.rows.set k l) (hN:N=c.Xq.set k nx) (hD:D=c.Xp.set k d) (t:TabV p k p.Xm[k] l nx d):CfgV p ⟨R,N,D,c.Xl⟩:=by
 subst hR hN hD;refine ⟨v.prg,by simp [v.rl],by simp [v.nl],by simp [v.dl],?_,v.con⟩;intro j tb l' nx' d' h1 h2 h3 h4;have hl1:=v.rl;have hl2:=v.nl;have hl3:=v.dl;by_cases hj:k=j
 ·subst hj;rw [List.getElem?_set_self (by omega)] at h2 h3 h4;rw [Qa h] at h1;cases h1;cases h2;cases h3;cases h4;exact t
 ·simp only [List.getElem?_set_ne hj] at h2 h3 h4;exact v.tab j _ _ _ _ h1 h2 h3 h4
end
theorem My {p:Prg} {c:Xe} {t:Int} {x:Entry} (v:CfgV p c) (h:insE p c t x=0):CfgV p (insC c t x):=by
 unfold insE at h;cases hi:inT p t with
 | false=>rw [a8 hi] at h;cases h
 | true=>
 obtain ⟨k,rfl,hk⟩:=Mx hi;rw [QA (by rw [hi];decide)] at h;have l1:k<c.rows.length:=by rw [v.rl];exact hk
 have l2:k<c.Xq.length:=by rw [v.nl];exact hk
 have l3:k<c.Xp.length:=by rw [v.dl];exact hk
 have hv:=v.at hk;rw [Ak l1,Bd l2,Ho hk] at h;split at h
 ·rename_i h1;exact absurd h h1
 rename_i h1;split at h
 ·cases h
 rename_i h2;split at h
 ·cases h
 rename_i h3;unfold insC;rw [Ak l1,Bd l2];refine v.upd hk (l:=c.rows[k]++[⟨c.Xq[k],x⟩]) (nx:=c.Xq[k]+1) (d:=c.Xp[k]) (by simp) (by simp) (by simp) ?_;have n0:=hv.nx0;refine ⟨by simp;omega,?_,?_,?_,by omega,by omega,?_,?_,hv.Yb⟩
 ·intro r hr;rcases eI.1 hr with hr | hr
  ·exact hv.pos r hr
  ·simp at hr;subst hr;exact n0
 ·intro r hr;rcases eI.1 hr with hr | hr
  ·have:=hv.lt r hr;omega
  ·simp at hr;subst hr;simp;omega
 ·rw [H6];exact ⟨hv.inc,by simp,fun a ha b hb=>by simp at hb;subst hb;exact hv.lt a ha⟩
 ·intro r hr;rcases eI.1 hr with hr | hr
  ·exact hv.ent r hr
  ·simp at hr;subst hr;simpa using h1
 ·rw [H6];refine ⟨hv.uniq,by simp,fun a ha b hb=>?_⟩;simp at hb;subst hb;simp only [tL,not_exists,not_and,AM] at h2;exact h2 a ha
section
variable {α:Type} (m:α->Bool) (pr:α->α->Bool)
def K4 (l:List α):Option α:=l.find? fun r=>m r&& !(l.any fun x=>m x&&pr x r)
def qE (o:Option α) (r:α):Option α:=if m r&&(match o with | none=>true | some b=>pr r b) then some r else o
def Fb (l:List α):Option α:=l.foldl (qE m pr) none
variable {m pr}
theorem Ii (irr:∀a,pr a a=false) (tr:∀a b c,pr a b=true->pr b c=true->pr a c=true):∀(l s:List α) (o:Option α),(∀a∈s++l,∀b∈s++l,a≠b->pr a b=true\/pr b a=true)->
  (match o with | none=>∀x∈s,m x=false | some r=>r∈s/\m r=true/\∀x∈s,m x=true->pr x r=false)->
  match l.foldl (qE m pr) o with | none=>∀x∈s++l,m x=false | some r=>r∈s++l/\m r=true/\∀x∈s++l,m x=true->pr x r=false
 | [],s,o,_,h=>by simpa using h
 | a::l,s,o,ht,h=>by
  have hh:s++a::l=(s++[a])++l:=by simp
  rw [hh] at ht ⊢;rw [E5];refine Ii irr tr l (s++[a]) _ ht ?_;cases o with
  | none=>
   simp only at h;cases hm:m a with
   | false=>
    simp only [qE,hm,AN];intro x hx;rcases eI.1 hx with hx | hx
    ·exact h x hx
    ·simp at hx;subst hx;exact hm
   | true=>
    simp only [qE,hm,CH,if_true];refine ⟨by simp,trivial,?_⟩;intro x hx hmx;rcases eI.1 hx with hx | hx
    ·rw [h x hx] at hmx;cases hmx
    ·simp at hx;subst hx;exact irr x
  | some b=>
   obtain ⟨h1,h2,h3⟩:=h;cases hm:m a with
   | false=>
    simp only [qE,hm,AN];refine ⟨by simp [h1],h2,?_⟩;intro x hx hmx;rcases eI.1 hx with hx | hx
    ·exact h3 x hx hmx
    ·simp at hx;subst hx;rw [hm] at hmx;cases hmx
   | true=>
    cases hp:pr a b with
    | true=>
     simp only [qE,hm,hp,CH,if_true];refine ⟨by simp,trivial,?_⟩;intro x hx hmx;rcases eI.1 hx with hx | hx
     ·refine HD.2 fun hc=>?_
      have:=tr x a b hc hp;rw [h3 x hx hmx] at this;cases this
     ·simp at hx;subst hx;exact irr x
    | false=>
     simp only [qE,hm,hp,Bool.and_false];refine ⟨by simp [h1],h2,?_⟩;intro x hx hmx;rcases eI.1 hx with hx | hx
     ·exact h3 x hx hmx
     ·simp at hx;subst hx;exact hp
theorem SK (irr:∀a,pr a a=false) (tr:∀a b c,pr a b=true->pr b c=true->pr a c=true) (l:List α) (ht:∀a∈l,∀b∈l,a≠b->pr a b=true\/pr b a=true):K4 m pr l=Fb m pr l:=by
 have h:=Ii (m:=m) irr tr l [] none (by simpa using ht) (by simp);simp only [pA] at h;unfold Fb;cases hr:l.foldl (qE m pr) none with
 | none=>
  rw [hr] at h;simp only at h;unfold K4;rw [List.find?_eq_none];intro x hx;simp [h x hx]
 | some r=>
  rw [hr] at h;simp only at h;obtain ⟨h1,h2,h3⟩:=h;have hbeat:(l.any fun x=>m x&&pr x r)=false:=by
   rw [List.any_eq_false];intro x hx;cases hm:m x with
   | false=>simp
   | true=>simp [h3 x hx hm]
  unfold K4;have huniq:∀y∈l,(m y&& !(l.any fun x=>m x&&pr x y))=true->y=r:=by
   intro y hy hc;simp only [bE,rJ] at hc;refine Classical.byContradiction fun hne=>?_
   rcases ht y hy r h1 hne with hp | hp
   ·rw [h3 y hy hc.1] at hp;cases hp
   ·have:=List.any_eq_false.1 hc.2 r h1;simp [h2,hp] at this
  cases hf:l.find? (fun r=>m r&& !(l.any fun x=>m x&&pr x r)) with
  | none=>
   rw [List.find?_eq_none] at hf;have:=hf r h1;simp [h2] at this;obtain ⟨x,hx,hmx,hp⟩:=this;rw [h3 x hx hmx] at hp;cases hp
  | some y=>
   rw [huniq y (KB hf) (by have:=List.find?_some hf;exact this)]
end
theorem aA (t:Nat) (a b:List (Nat×AO)):look t (a++b)=(look t a).or (look t b):=zF t a b
theorem a7 (j t:Nat) (y:AO):∀O:List (Nat×AO),look j (setl t y O)=if j=t then (look t O).map (fun _=>y) else look j O
 | []=>by simp
 | (u,w)::r=>by
  have ih:=a7 j t y r;by_cases hu:u=t
  ·subst hu;by_cases hj:j=u
   ·subst hj;simp
   ·have:¬u=j:=fun h=>hj h.symm
    simp [hj,this]
  ·by_cases hj:j=t
   ·subst hj;simp [hu];simpa using ih
   ·by_cases hv:u=j
    ·subst hv;simp [hu]
    ·simp [hu,hv,hj];simpa [hj] using ih
theorem iR {j t:Nat} (h:j≠t):∀O:List (Nat×AO),look j (dropl t O)=look j O
 | []=>by simp
 | (u,w)::r=>by
  have ih:=iR h r;by_cases hu:u=t
  ·subst hu;have:¬u=j:=fun e=>h e.symm
   simp [this]
  ·by_cases hv:u=j
   ·subst hv;simp [hu]
   ·simp [hu,hv,ih]
theorem uL {j t:Nat}:∀O:List (Nat×AO),look j O=none->look j (dropl t O)=none
 | [],_=>by simp
 | (u,w)::r,h=>by
  by_cases hv:u=j
  ·subst hv;simp at h
  ·simp [hv] at h;have ih:=uL (t:=t) r h;by_cases hu:u=t
   ·subst hu;simpa using h
   ·simp [hu,hv,ih]
theorem mJ {j:Nat}:∀{O:List (Nat×AO)},look j O≠some .res->look j (bW O)=look j O
 | [],_=>by simp
 | (u,w)::r,h=>by
  by_cases hv:u=j
  ·subst hv;simp at h;cases w<;>simp at h ⊢
  ·simp [hv] at h;have ih:=mJ h;cases w<;>simp [hv,ih]
section
variable (z t i o n:Nat) (es:List (List AV))
@[simp] theorem Vf:lenOf (.slice z es)=some es.length:=rfl
@[simp] theorem Vd:lenOf (.Xt z es)=some es.length:=rfl
@[simp] theorem Vc:lenOf (.app z es t)=some es.length:=rfl
@[simp] theorem Ve:lenOf (.row t z o n)=some n:=rfl
@[simp] theorem Rx (cs:List AV):AV.cells (.agg cs)=some cs:=rfl
@[simp] theorem Ry (k:IntKind) (x:Int):AV.cells (.int k x)=some [.int k x]:=rfl
@[simp] theorem Pz (b:Bool):AV.cells (.bool b)=some [.bool b]:=rfl
@[simp] theorem Se (b:List UInt8):AV.cells (.str b)=some [.str b]:=rfl
@[simp] theorem Oi:AV.cells .nilptr=some [.nilptr]:=rfl
@[simp] theorem Oh:AV.cells .nilmap=some [.nilmap]:=rfl
@[simp] theorem Tl:AV.cells (.slice z es)=some [.slice z es]:=rfl
@[simp] theorem Tj:AV.cells (.Xt z es)=some [.Xt z es]:=rfl
@[simp] theorem Ti:AV.cells (.app z es t)=some [.app z es t]:=rfl
@[simp] theorem Tk:AV.cells (.row t z o n)=some [.row t z o n]:=rfl
@[simp] theorem Sd:AV.cells (.ptr t z o n)=some [.ptr t z o n]:=rfl
@[simp] theorem Sf:AV.cells (.iptr z es o n)=some [.iptr z es o n]:=rfl
@[simp] theorem Rz:AV.cells (.map t)=some [.map t]:=rfl
@[simp] theorem Qx (f:Fn) (a b:List AV):AV.cells (.func f a b)=some [.func f a b]:=rfl
end
theorem Tail_append_iff {a b:List (Nat×AO)} {n:Nat}:Tail (a++b) n↔Tail a n/\Tail b n:=by
 constructor
 ·intro h;refine ⟨fun j hj=>?_,fun j hj=>?_⟩
  ·have:=h j hj;rw [aA] at this;cases hl:look j a with
   | none=>rfl
   | some x=>rw [hl] at this;cases this
  ·have:=h j hj;rw [aA] at this;cases hl:look j a with
   | none=>rw [hl] at this;simpa using this
   | some x=>rw [hl] at this;cases this
 ·rintro ⟨h1,h2⟩ j hj;rw [aA,h1 j hj,h2 j hj];rfl
theorem Tail_cons_iff {u n:Nat} {x:AO} {r:List (Nat×AO)}:Tail ((u,x)::r) n↔u<n/\Tail r n:=by
 constructor
 ·intro h;have hu:u<n:=by
   refine Decidable.byContradiction fun hc=>?_
   have:=h u (by omega);simp at this
  refine ⟨hu,fun j hj=>?_⟩;have:=h j hj;have hne:¬u=j:=by omega
  simpa [hne] using this
 ·rintro ⟨h1,h2⟩ j hj;have hne:¬u=j:=by omega
  simp [hne,h2 j hj]
theorem FR {n:Nat}:Tail [] n↔True:=⟨fun _=>trivial,fun _=>Tail.nil n⟩
theorem aK {t n:Nat} {y:AO} {O:List (Nat×AO)} (h:Tail O n):Tail (setl t y O) n:=by
 intro j hj;rw [a7];split
 ·rename_i e;rw [<- e,h j hj];rfl
 ·exact h j hj
theorem uN {t n:Nat} {O:List (Nat×AO)} (h:Tail O n):Tail (dropl t O) n:=fun j hj=>uL _ (h j hj)
theorem HL {n:Nat} {O:List (Nat×AO)} (h:Tail O n):Tail (bW O) n:=by
 intro j hj;rw [mJ (by rw [h j hj];simp),h j hj]
theorem Tail.lt {O:List (Nat×AO)} {n j:Nat} {x:AO} (h:Tail O n) (hl:look j O=some x):j<n:=by
 refine Decidable.byContradiction fun hc=>?_
 rw [h j (by omega)] at hl;cases hl
def Kp (X:Nat->Prop) (N:Nat) (O O':List (Nat×AO)):Prop:=∀j,j<N->¬X j->look j O'=look j O
theorem Kp.refl {X:Nat->Prop} {N:Nat} {O:List (Nat×AO)}:Kp X N O O:=fun _ _ _=>rfl
theorem Kp.trans {X:Nat->Prop} {N N':Nat} {O O' O'':List (Nat×AO)} (h:Kp X N O O') (h2:Kp X N' O' O'') (hn:N<=N'):Kp X N O O'':=
 fun j hj hx=>(h2 j (by omega) hx).trans (h j hj hx)
theorem Kp.mono {X Y:Nat->Prop} {N:Nat} {O O':List (Nat×AO)} (h:Kp X N O O') (hx:∀j,j<N->X j->Y j):Kp Y N O O':=
 fun j hj hy=>h j hj fun hc=>hy (hx j hj hc)
section
variable {Φ:FuncId->Option AFun} {I:Type} {fin:Option (Ex×St)->Option I}
theorem loopQ {C:Type} (m:C->Nat) (Inv:C->Env->AH->Prop) (R:C->Option I->Prop) {b:Xu} {K:List Go.Av.Fr}
  (step:∀x e h L,(∀j s,go Φ fin L (.exit j) s=go Φ fin K (.exit j) s)->Inv x e h->(∀y e' h',m y<m x->Inv y e' h'->R y (go Φ fin L .normal ⟨e',h'⟩))->R x (go Φ fin (.c b::L) .normal ⟨e,h⟩)):
  ∀x e h,Inv x e h->R x (go Φ fin (.c (.loop b)::K) .normal ⟨e,h⟩):=by
 have key:∀n x e h,m x<=n->Inv x e h->R x (go Φ fin (.c (.loop b)::K) .normal ⟨e,h⟩):=by
  intro n
  induction n with
  | zero=>
   intro x e h hn hi;rw [cW];exact step x e h _ (fun j s=>by simp) hi fun y e' h' hlt=>by omega
  | succ n ih=>
   intro x e h hn hi;rw [cW];exact step x e h _ (fun j s=>by simp) hi fun y e' h' hlt hy=>ih y e' h' (by omega) hy
 intro x e h hi;exact key (m x) x e h (Qb _) hi
theorem eQ (N:Nat) (Inv:Nat->Env->AH->Prop) (Q:Option I->Prop) {b:Xu} {K:List Go.Av.Fr}
  (step:∀i e h L,i<N->(∀j s,go Φ fin L (.exit j) s=go Φ fin K (.exit j) s)->Inv i e h->(∀e' h',Inv (i+1) e' h'->Q (go Φ fin L .normal ⟨e',h'⟩))->Q (go Φ fin (.c b::L) .normal ⟨e,h⟩))
  (last:∀e h L,(∀j s,go Φ fin L (.exit j) s=go Φ fin K (.exit j) s)->Inv N e h->Q (go Φ fin (.c b::L) .normal ⟨e,h⟩)):
  ∀i e h,i<=N->Inv i e h->Q (go Φ fin (.c (.loop b)::K) .normal ⟨e,h⟩):=by
 intro i e h hi hinv;refine loopQ (C:={ i:Nat // i<=N }) (fun x=>N - x.1) (fun x=>Inv x.1) (fun _=>Q) ?_ ⟨i,hi⟩ e h hinv;intro ⟨i,hi⟩ e h L hL hinv ih;rcases Nat.lt_or_eq_of_le hi with hlt | heq
 ·exact step i e h L hlt hL hinv fun e' h' hi'=>ih ⟨i+1,hlt⟩ e' h' (by simp;omega) hi'
 ·subst heq;exact last e h L hL hinv
end
def vid:AV->Option Nat
 | .row id _ _ _=>some id
 | _=>none
inductive Mu (O:List (Nat×AO)) (z:Nat):AV->List (List AV)->Prop
 | nilF:Mu O z (.Xt z []) []
 | nilA (t:Nat):Mu O z (.app z [] t) []
 | row (id:Nat) (es es0:List (List AV)) (n:Nat) (hn:n=es.length) (hl:look id O=some (.row z es0)) (hle:es.length<=es0.length) (ht:es0.take es.length=es):Mu O z (.row id z 0 n) es
theorem Mu.len {O:List (Nat×AO)} {z:Nat} {v:AV} {es:List (List AV)} (h:Mu O z v es):lenOf v=some es.length:=by
 cases h with
 | nilF=>rfl
 | nilA=>rfl
 | row id _ es0 n hn=>subst hn;rfl
theorem Mu.fr {O O':List (Nat×AO)} {z:Nat} {v:AV} {es:List (List AV)} (h:Mu O z v es) (hf:∀j,vid v=some j->look j O'=look j O):Mu O' z v es:=by
 cases h with
 | nilF=>exact .nilF
 | nilA=>exact .nilA _
 | row id _ es0 n hn hl hle ht=>exact .row id es es0 n hn (by rw [hf id rfl,hl]) hle ht
theorem Mu.nonempty {O:List (Nat×AO)} {z:Nat} {v:AV} {es:List (List AV)} (h:Mu O z v es) (hp:0<es.length):∃id es0,v= .row id z 0 es.length/\look id O=some (.row z es0)/\es.length<=es0.length/\es0.take es.length=es:=by
 cases h with
 | nilF=>simp at hp
 | nilA=>simp at hp
 | row id _ es0 n hn hl hle ht=>subst hn;exact ⟨id,es0,rfl,hl,hle,ht⟩
theorem Mu.snp {O:List (Nat×AO)} {z N n:Nat} {v:AV} {es:List (List AV)} (h:Mu O z v es):snap (n+1) ⟨O,N⟩ v=(mapO (mapO (snap n ⟨O,N⟩)) es).map (.slice z):=by
 cases h with
 | nilF=>simp
 | nilA=>simp
 | row id _ es0 k hn hl hle ht=>
  subst hn;simp [hl,hle,ht]
inductive Re (O:List (Nat×AO)) (z:Nat):AV->List (List AV)->Prop
 | sl (es:List (List AV)):Re O z (.slice z es) es
 | fs (es:List (List AV)):Re O z (.Xt z es) es
 | ap (es:List (List AV)) (t:Nat):Re O z (.app z es t) es
 | row (id:Nat) (es es0:List (List AV)) (n:Nat) (hn:n=es.length) (hl:look id O=some (.row z es0)) (hle:es.length<=es0.length) (ht:es0.take es.length=es):Re O z (.row id z 0 n) es
theorem Mu.re {O:List (Nat×AO)} {z:Nat} {v:AV} {es:List (List AV)} (h:Mu O z v es):Re O z v es:=by
 cases h with
 | nilF=>exact .fs []
 | nilA=>exact .ap [] _
 | row id _ es0 n hn hl hle ht=>exact .row id es es0 n hn hl hle ht
theorem Re.fr {O O':List (Nat×AO)} {z:Nat} {v:AV} {es:List (List AV)} (h:Re O z v es) (hf:∀j,vid v=some j->look j O'=look j O):Re O' z v es:=by
 cases h with
 | sl=>exact .sl es
 | fs=>exact .fs es
 | ap=>exact .ap es _
 | row id _ es0 n hn hl hle ht=>exact .row id es es0 n hn (by rw [hf id rfl,hl]) hle ht
theorem Re.len {O:List (Nat×AO)} {z:Nat} {v:AV} {es:List (List AV)} (h:Re O z v es):lenOf v=some es.length:=by
 cases h with
 | sl=>rfl
 | fs=>rfl
 | ap=>rfl
 | row id _ es0 n hn=>subst hn;rfl
theorem Re.snp {O:List (Nat×AO)} {z N n:Nat} {v:AV} {es:List (List AV)} (h:Re O z v es) (he:mapO (mapO (snap n ⟨O,N⟩)) es=some es):snap (n+1) ⟨O,N⟩ v=some (.slice z es):=by
 cases h with
 | sl=>simp
 | fs=>simp
 | ap=>simp
 | row id _ es0 k hn hl hle ht=>
  subst hn;simp [hl,hle,ht,he]
theorem Re.cells {O:List (Nat×AO)} {z:Nat} {v:AV} {es:List (List AV)} (h:Re O z v es):v.cells=some [v]:=by
 cases h<;>rfl
theorem Mu.cells {O:List (Nat×AO)} {z:Nat} {v:AV} {es:List (List AV)} (h:Mu O z v es):v.cells=some [v]:=h.re.cells
theorem Nd {α:Type} {f:α->Option α}:∀{l:List α},(∀x∈l,f x=some x)->mapO f l=some l
 | [],_=>rfl
 | a::l,h=>by
  have h1:=h a (by simp);have h2:=Nd (f:=f) (l:=l) fun x hx=>h x (by simp [hx])
  simp only [mapO,h1,h2]
theorem mL {α:Type} {g:α->List AV} {n:Nat} {H:AH} (h:∀x,mapO (snap n H) (g x)=some (g x)) (l:List α):mapO (mapO (snap n H)) (l.map g)=some (l.map g):=by
 refine Nd fun x hx=>?_
 obtain ⟨y,_,rfl⟩:=iN.1 hx;exact h y
theorem Ew {n:Nat} {H:AH} (r:Rw):mapO (snap (n+1) H) (Rw.c r)=some (Rw.c r):=by simp [Rw.c]
theorem XZ {n:Nat} {H:AH} (x:Int):mapO (snap (n+1) H) (cI x)=some (cI x):=by simp [cI]
theorem RM {n:Nat} {H:AH} (x:Xb):mapO (snap (n+1) H) (Xb.c x)=some (Xb.c x):=by simp [Xb.c]
structure CfgM (O:List (Nat×AO)) (v1 v2 v3 v4:AV) (V:List AV) (c:Xe):Prop where
 r:Mu O 1 v1 (V.map fun v=>[v])
 rl:V.length=c.rows.length
 rv:∀(k:Nat) (v:AV) (l:List Rw),V[k]? =some v->c.rows[k]? =some l->Mu O 5 v (l.map Rw.c)
 n:Mu O 1 v2 (c.Xq.map cI)
 d:Mu O 2 v3 (c.Xp.map Xb.c)
 g:v4= .Xt 1 (c.Xl.map (cS 1 c32))\/∃t,v4= .app 1 (c.Xl.map (cS 1 c32)) t
 rn:∀i,vid v1=some i->vid v2=some i->False
 vi:∀(k k':Nat) (v v':AV) (i:Nat),V[k]? =some v->V[k']? =some v'->vid v=some i->vid v'=some i->k=k'
 va:∀v∈V,∀z es t,v≠ .app z es t
def CfgM.own (v1 v2 v3:AV) (V:List AV) (j:Nat):Prop:=vid v1=some j\/vid v2=some j\/vid v3=some j\/∃v∈V,vid v=some j
theorem CfgM.fr {O O':List (Nat×AO)} {v1 v2 v3 v4:AV} {V:List AV} {c:Xe} (h:CfgM O v1 v2 v3 v4 V c) (hf:∀j,CfgM.own v1 v2 v3 V j->look j O'=look j O):CfgM O' v1 v2 v3 v4 V c:=by
 refine ⟨h.r.fr fun j hj=>hf j (.inl hj),h.rl,?_,h.n.fr fun j hj=>hf j (.inr (.inl hj)),h.d.fr fun j hj=>hf j (.inr (.inr (.inl hj))),h.g,h.rn,h.vi,h.va⟩;intro k v l hv hl;exact (h.rv k v l hv hl).fr fun j hj=>hf j (.inr (.inr (.inr ⟨v,Qe hv,hj⟩)))
theorem Hy {α I:Type} {f:α->Option I}:∀{l:List α} {m:List I},l.length=m.length->(∀(k:Nat) (x:α) (y:I),l[k]? =some x->m[k]? =some y->f x=some y)->mapO f l=some m
 | [],[],_,_=>rfl
 | [],_::_,h,_=>by simp at h
 | _::_,[],h,_=>by simp at h
 | a::l,b::m,h,hf=>by
  have h1:=hf 0 a b (by simp) (by simp);have h2:=Hy (f:=f) (l:=l) (m:=m) (by simpa using h) fun k x y hx hy=>hf (k+1) x y (by simpa using hx) (by simpa using hy)
  simp only [mapO,h1,h2]
theorem CfgM.snpR {O:List (Nat×AO)} {v1 v2 v3 v4:AV} {V:List AV} {c:Xe} {n N:Nat} (h:CfgM O v1 v2 v3 v4 V c):snap (n+4) ⟨O,N⟩ v1=some (.slice 1 (c.rows.map (cS 5 Rw.c))):=by
 have e1:mapO (mapO (snap (n+3) ⟨O,N⟩)) (V.map fun v=>[v])=some (c.rows.map (cS 5 Rw.c)):=by
  refine Hy (by simp [h.rl]) ?_;intro k x y hx hy;rw [List.getElem?_map] at hx hy;cases hv:V[k]? with
  | none=>rw [hv] at hx;cases hx
  | some v=>
   cases hl:c.rows[k]? with
   | none=>rw [hl] at hy;cases hy
   | some l=>
    rw [hv] at hx;rw [hl] at hy;cases hx;cases hy;have:=(h.rv k v l hv hl).snp (N:=N) (n:=n+2);simp only [mapO,this,mL (n:=n+2) (H:=⟨O,N⟩) (fun x=>Ew x) l,uF,cS]
 have k1:=h.r.snp (N:=N) (n:=n+3);rw [e1] at k1;exact k1
theorem CfgM.snpN {O:List (Nat×AO)} {v1 v2 v3 v4:AV} {V:List AV} {c:Xe} {n N:Nat} (h:CfgM O v1 v2 v3 v4 V c):snap (n+4) ⟨O,N⟩ v2=some (.slice 1 (c.Xq.map cI)):=by
 have k2:=h.n.snp (N:=N) (n:=n+3);rw [mL (n:=n+3) (H:=⟨O,N⟩) (fun x=>XZ x)] at k2;exact k2
theorem CfgM.snpD {O:List (Nat×AO)} {v1 v2 v3 v4:AV} {V:List AV} {c:Xe} {n N:Nat} (h:CfgM O v1 v2 v3 v4 V c):snap (n+4) ⟨O,N⟩ v3=some (.slice 2 (c.Xp.map Xb.c)):=by
 have k3:=h.d.snp (N:=N) (n:=n+3);rw [mL (n:=n+3) (H:=⟨O,N⟩) (fun x=>RM x)] at k3;exact k3
theorem CfgM.snpG {O:List (Nat×AO)} {v1 v2 v3 v4:AV} {V:List AV} {c:Xe} {n N:Nat} (h:CfgM O v1 v2 v3 v4 V c):snap (n+4) ⟨O,N⟩ v4=some (.slice 1 (c.Xl.map (cS 1 c32))):=by
 rcases h.g with hg | ⟨t,hg⟩<;>subst hg<;>simp
@[simp] theorem Pb (b x:Bool) (H:AH):tX b H (some (.val (.bool x)))=some (.val (.bool x),H):=by cases b<;>simp
@[simp] theorem Po (b:Bool) (k:IntKind) (x:Int) (H:AH):tX b H (some (.val (.int k x)))=some (.val (.int k x),H):=by cases b<;>simp
def regN (r:Xg):Nat:=if r.size<1\/64<r.size then 0 else r.size.toNat
theorem UV (r:Xg):regN r<=64:=by
 unfold regN;split<;>omega
def newR (p:Prg):List (List Int):=p.Xl.map fun r=>List.replicate (regN r) 0
def lU (p:Prg):Xe:=⟨p.Xm.map fun _=>[],p.Xm.map fun _=>1,p.Xm.map fun t=>t.Yb,newR p⟩
theorem O6 (p:Prg):Xe.c (lU p)=[.slice 1 (p.Xm.map fun _=>[.slice 5 []]),.slice 1 (p.Xm.map fun _=>[.int .i64 1]),.slice 2 (p.Xm.map fun t=>[.int .i64 t.Yb.Xy,.slice 1 (t.Yb.args.map c32)]),.slice 1 ((newR p).map (cS 1 c32))]:=by
 simp [lU,Xe.ce,cSe,cI,Xb.ce]
theorem BE {Ψ:FuncId->Option AFun} {f z bytes:Nat} (hf:Ψ f=some (.rule (qU z bytes .app))) (es:List (List AV)) (hz:jK z es=true) (hb:es.length*bytes<=70368744177664):a9 Ψ f [.slice z es]=some (.val (.slice z es)):=by
 unfold a9;rw [At Ψ hf];cases es with
 | nil=>simp [qU,lenOf,jJ,evR,oP,H0,AH.put]
 | cons x es=>
  simp only [tK] at hb;simp [qU,lenOf,evR,oP,H0,AH.put,hz,hb]
theorem DM (l:List Int) (h:l.length<2^40):a9 Φ 147 [.slice 1 (l.map c32)]=some (.val (.slice 1 (l.map c32))):=
 BE (bytes:=4) rfl _ (p6 1 c32 l fun x=>by simp [c32]) (by rw [cQ];omega)
theorem Ef (l:List Xh) (h:l.length<2^40):a9 Φ 97 [.slice 2 (l.map Xh.c)]=some (.val (.slice 2 (l.map Xh.c))):=
 BE (bytes:=8) rfl _ (p6 2 Xh.c l fun x=>by simp [Xh.c]) (by rw [cQ];omega)
theorem Cj (c:Xb) (h:c.args.length<2^40):a9 Φ 138 [.agg (Xb.c c)]=some (.val (.agg (Xb.c c))):=by
 rw [aC rfl rfl];have k:=DM c.args h;simp [vJ,Xb.ce,k]
theorem Il (x:Entry) (h:x.call.args.length<2^40) (h2:x.keys.length<2^40):a9 Φ 78 [.agg (Entry.c x)]=some (.val (.agg (Entry.c x))):=by
 rw [aC rfl rfl];have k:=Ef x.keys h2;have k2:=Cj x.call h;simp only [Xb.ce] at k2;simp [EE,Entry.ce,k,k2]
theorem T8 (x:Rw) (h:rowS x):a9 Φ 146 [.agg (Rw.c x)]=some (.val (.agg (Rw.c x))):=by
 rw [aC rfl rfl];have k:=Il x.entry h.al h.kl;simp only [Entry.ce] at k;simp [vL,Rw.ce,k]
theorem Wj (l:List Xi) (hl:l.length<2^39) (hf:∀x∈l,a9 Φ 225 [.agg (Xi.c x)]=some (.val (.agg (Xi.c x)))):a9 Φ 224 [.slice 2 (l.map Xi.c),.func (.func 225) [] []]=some (.val (.slice 2 (l.map Xi.c))):=by
 rw [aC rfl rfl];simp [vX];refine (eF l.length (fun i=>[(0,.tok 2 i)]) 1 (fun i e=>look 1 e=some (.func (.func 225) [] [])/\look 5 e=some (.app 2 ((l.map Xi.c).take i) 0)/\look 8 e=some (.slice 2 (l.map Xi.c))/\look 9 e=some (.int .i64 l.length)/\look 10 e=some (.int .i64 i))
  (fun _=>some (Rt.val (.slice 2 (l.map Xi.c)))) ?_ ?_ 0 _ 1 (Qc _) (Qb _) ?_).trans (by simp)
 ·rintro i e n L hi hL hn ⟨h1,h5,h8,h9,h10⟩ ih;have hw:=aH i (by omega);have hn0:¬(0=n):=by omega
  have hn1:¬(n=0):=by omega
  have hm:min i l.length=i:=by omega
  have hb:∀k,k<=128->(i+1)*k<=70368744177664:=fun k hk=>by
   have:(i+1)*k<=(i+1)*128:=CA _ hk;omega
  have hN:=hf _ (Qd hi);simp only [Xi.e] at hN;simp [fS,Xi.e,h1,h5,h8,h9,h10,hi,hw,hn0,hm,hb,hN];exact ih _ _ (by omega) ⟨by simp [h1],by simp [q6 hi,Xi.e],by simp [h8],by simp [h9],by simp⟩
 ·rintro e n L hL hn ⟨h1,h5,h8,h9,h10⟩;simp [fS,kL,h5,h9,h10,hL]
 ·simp
theorem Vv (l:List Xf) (hl:l.length<2^39) (hf:∀x∈l,a9 Φ 324 [.agg (Xf.c x)]=some (.val (.agg (Xf.c x)))):a9 Φ 323 [.slice 7 (l.map Xf.c),.func (.func 324) [] []]=some (.val (.slice 7 (l.map Xf.c))):=by
 rw [aC rfl rfl];simp [xT];refine (eF l.length (fun i=>[(0,.tok 7 i)]) 1 (fun i e=>look 1 e=some (.func (.func 324) [] [])/\look 5 e=some (.app 7 ((l.map Xf.c).take i) 0)/\look 8 e=some (.slice 7 (l.map Xf.c))/\look 9 e=some (.int .i64 l.length)/\look 10 e=some (.int .i64 i))
  (fun _=>some (Rt.val (.slice 7 (l.map Xf.c)))) ?_ ?_ 0 _ 1 (Qc _) (Qb _) ?_).trans (by simp)
 ·rintro i e n L hi hL hn ⟨h1,h5,h8,h9,h10⟩ ih;have hw:=aH i (by omega);have hn0:¬(0=n):=by omega
  have hn1:¬(n=0):=by omega
  have hm:min i l.length=i:=by omega
  have hb:∀k,k<=128->(i+1)*k<=70368744177664:=fun k hk=>by
   have:(i+1)*k<=(i+1)*128:=CA _ hk;omega
  have hN:=hf _ (Qd hi);simp only [Xf.e] at hN;simp [gH,Xf.e,h1,h5,h8,h9,h10,hi,hw,hn0,hm,hb,hN];exact ih _ _ (by omega) ⟨by simp [h1],by simp [q6 hi,Xf.e],by simp [h8],by simp [h9],by simp⟩
 ·rintro e n L hL hn ⟨h1,h5,h8,h9,h10⟩;simp [gH,l7,h5,h9,h10,hL]
 ·simp
theorem Wi (l:List Action) (hl:l.length<2^39) (hf:∀x∈l,a9 Φ 229 [.agg (Action.c x)]=some (.val (.agg (Action.c x)))):a9 Φ 228 [.slice 3 (l.map Action.c),.func (.func 229) [] []]=some (.val (.slice 3 (l.map Action.c))):=by
 rw [aC rfl rfl];simp [vZ];refine (eF l.length (fun i=>[(0,.tok 3 i)]) 1 (fun i e=>look 1 e=some (.func (.func 229) [] [])/\look 5 e=some (.app 3 ((l.map Action.c).take i) 0)/\look 8 e=some (.slice 3 (l.map Action.c))/\look 9 e=some (.int .i64 l.length)/\look 10 e=some (.int .i64 i))
  (fun _=>some (Rt.val (.slice 3 (l.map Action.c)))) ?_ ?_ 0 _ 1 (Qc _) (Qb _) ?_).trans (by simp)
 ·rintro i e n L hi hL hn ⟨h1,h5,h8,h9,h10⟩ ih;have hw:=aH i (by omega);have hn0:¬(0=n):=by omega
  have hn1:¬(n=0):=by omega
  have hm:min i l.length=i:=by omega
  have hb:∀k,k<=128->(i+1)*k<=70368744177664:=fun k hk=>by
   have:(i+1)*k<=(i+1)*128:=CA _ hk;omega
  have hN:=hf _ (Qd hi);simp only [Action.e] at hN;simp [fU,Action.e,h1,h5,h8,h9,h10,hi,hw,hn0,hm,hb,hN];exact ih _ _ (by omega) ⟨by simp [h1],by simp [q6 hi,Action.e],by simp [h8],by simp [h9],by simp⟩
 ·rintro e n L hL hn ⟨h1,h5,h8,h9,h10⟩;simp [fU,kN,h5,h9,h10,hL]
 ·simp
theorem Wn (l:List Tbl) (hl:l.length<2^39) (hf:∀x∈l,a9 Φ 231 [.agg (Tbl.c x)]=some (.val (.agg (Tbl.c x)))):a9 Φ 230 [.slice 6 (l.map Tbl.c),.func (.func 231) [] []]=some (.val (.slice 6 (l.map Tbl.c))):=by
 rw [aC rfl rfl];simp [w8];refine (eF l.length (fun i=>[(0,.tok 6 i)]) 1 (fun i e=>look 1 e=some (.func (.func 231) [] [])/\look 5 e=some (.app 6 ((l.map Tbl.c).take i) 0)/\look 8 e=some (.slice 6 (l.map Tbl.c))/\look 9 e=some (.int .i64 l.length)/\look 10 e=some (.int .i64 i))
  (fun _=>some (Rt.val (.slice 6 (l.map Tbl.c)))) ?_ ?_ 0 _ 1 (Qc _) (Qb _) ?_).trans (by simp)
 ·rintro i e n L hi hL hn ⟨h1,h5,h8,h9,h10⟩ ih;have hw:=aH i (by omega);have hn0:¬(0=n):=by omega
  have hn1:¬(n=0):=by omega
  have hm:min i l.length=i:=by omega
  have hb:∀k,k<=128->(i+1)*k<=70368744177664:=fun k hk=>by
   have:(i+1)*k<=(i+1)*128:=CA _ hk;omega
  have hN:=hf _ (Qd hi);simp only [Tbl.e] at hN;simp [fV,Tbl.e,h1,h5,h8,h9,h10,hi,hw,hn0,hm,hb,hN];exact ih _ _ (by omega) ⟨by simp [h1],by simp [q6 hi,Tbl.e],by simp [h8],by simp [h9],by simp⟩
 ·rintro e n L hL hn ⟨h1,h5,h8,h9,h10⟩;simp [fV,kO,h5,h9,h10,hL]
 ·simp
theorem Vr (l:List Xc) (hl:l.length<2^39) (hf:∀x∈l,a9 Φ 233 [.agg (Xc.c x)]=some (.val (.agg (Xc.c x)))):a9 Φ 232 [.slice 7 (l.map Xc.c),.func (.func 233) [] []]=some (.val (.slice 7 (l.map Xc.c))):=by
 rw [aC rfl rfl];simp [wA];refine (eF l.length (fun i=>[(0,.tok 7 i)]) 1 (fun i e=>look 1 e=some (.func (.func 233) [] [])/\look 5 e=some (.app 7 ((l.map Xc.c).take i) 0)/\look 8 e=some (.slice 7 (l.map Xc.c))/\look 9 e=some (.int .i64 l.length)/\look 10 e=some (.int .i64 i))
  (fun _=>some (Rt.val (.slice 7 (l.map Xc.c)))) ?_ ?_ 0 _ 1 (Qc _) (Qb _) ?_).trans (by simp)
 ·rintro i e n L hi hL hn ⟨h1,h5,h8,h9,h10⟩ ih;have hw:=aH i (by omega);have hn0:¬(0=n):=by omega
  have hn1:¬(n=0):=by omega
  have hm:min i l.length=i:=by omega
  have hb:∀k,k<=128->(i+1)*k<=70368744177664:=fun k hk=>by
   have:(i+1)*k<=(i+1)*128:=CA _ hk;omega
  have hN:=hf _ (Qd hi);simp only [Xc.e] at hN;simp [fW,Xc.e,h1,h5,h8,h9,h10,hi,hw,hn0,hm,hb,hN];exact ih _ _ (by omega) ⟨by simp [h1],by simp [q6 hi,Xc.e],by simp [h8],by simp [h9],by simp⟩
 ·rintro e n L hL hn ⟨h1,h5,h8,h9,h10⟩;simp [fW,kP,h5,h9,h10,hL]
 ·simp
theorem YT (l:List Xa) (hl:l.length<2^39) (hf:∀x∈l,a9 Φ 235 [.agg (Xa.c x)]=some (.val (.agg (Xa.c x)))):a9 Φ 234 [.slice 5 (l.map Xa.c),.func (.func 235) [] []]=some (.val (.slice 5 (l.map Xa.c))):=by
 rw [aC rfl rfl];simp [wC];refine (eF l.length (fun i=>[(0,.tok 5 i)]) 1 (fun i e=>look 1 e=some (.func (.func 235) [] [])/\look 5 e=some (.app 5 ((l.map Xa.c).take i) 0)/\look 8 e=some (.slice 5 (l.map Xa.c))/\look 9 e=some (.int .i64 l.length)/\look 10 e=some (.int .i64 i))
  (fun _=>some (Rt.val (.slice 5 (l.map Xa.c)))) ?_ ?_ 0 _ 1 (Qc _) (Qb _) ?_).trans (by simp)
 ·rintro i e n L hi hL hn ⟨h1,h5,h8,h9,h10⟩ ih;have hw:=aH i (by omega);have hn0:¬(0=n):=by omega
  have hn1:¬(n=0):=by omega
  have hm:min i l.length=i:=by omega
  have hb:∀k,k<=128->(i+1)*k<=70368744177664:=fun k hk=>by
   have:(i+1)*k<=(i+1)*128:=CA _ hk;omega
  have hN:=hf _ (Qd hi);obtain ⟨kk,tt,cc,aa,bb,hx⟩:=Nk l[i];rw [hx,Xa.ce] at hN;simp [fX,hx,Xa.ce,h1,h5,h8,h9,h10,hi,hw,hn0,hm,hb,hN];exact ih _ _ (by omega) ⟨by simp [h1],by simp [q6 hi,hx,Xa.ce],by simp [h8],by simp [h9],by simp⟩
 ·rintro e n L hL hn ⟨h1,h5,h8,h9,h10⟩;simp [fX,kQ,h5,h9,h10,hL]
 ·simp
theorem Nc (H:AH):∀l:List Int,mapO (mapO (snap 39 H)) (l.map cI)=some (l.map cI)
 | []=>by simp [mapO]
 | x::l=>by
  have ih:=Nc H l;simp only [jL,mapO,ih];simp [cI,mapO]
theorem JE (l:List Int) (h:l.length<2^40):a9 Φ 96 [.slice 1 (l.map cI)]=some (.val (.slice 1 (l.map cI))):=by
 unfold a9;rw [At Φ (g:=qU 1 8 .row) rfl];cases l with
 | nil=>simp [qU,lenOf,jJ,evR,oP,H0,AH.put]
 | cons x l=>
  have hb:(l.length+1)*8<=70368744177664:=by simp at h;omega
  have hm:=Nc ⟨[(0,.row 1 ((x::l).map cI))],1⟩ (x::l);simp [cI] at hm;simp [qU,lenOf,evR,oP,H0,AH.put,hb,cI,hm]
theorem Ee (l:List Fld) (h:l.length<2^40):a9 Φ 226 [.slice 2 (l.map Fld.c)]=some (.val (.slice 2 (l.map Fld.c))):=
 BE (bytes:=24) rfl _ (p6 2 Fld.c l fun x=>by simp [Fld.e]) (by rw [cQ];omega)
theorem WE (l:List Xg) (h:l.length<2^40):a9 Φ 227 [.slice 3 (l.map Xg.c)]=some (.val (.slice 3 (l.map Xg.c))):=
 BE (bytes:=32) rfl _ (p6 3 Xg.c l fun x=>by simp [Xg.e]) (by rw [cQ];omega)
theorem WF (l:List Xk) (h:l.length<2^40):a9 Φ 325 [.slice 3 (l.map Xk.c)]=some (.val (.slice 3 (l.map Xk.c))):=
 BE (bytes:=24) rfl _ (p6 3 Xk.c l fun x=>by simp [Xk.e]) (by rw [cQ];omega)
theorem VT (l:List Xj) (h:l.length<2^40):a9 Φ 326 [.slice 3 (l.map Xj.c)]=some (.val (.slice 3 (l.map Xj.c))):=
 BE (bytes:=16) rfl _ (p6 3 Xj.c l fun x=>by simp [Xj.e]) (by rw [cQ];omega)
theorem Ed (l:List Xd) (h:l.length<2^40):a9 Φ 327 [.slice 3 (l.map Xd.c)]=some (.val (.slice 3 (l.map Xd.c))):=
 BE (bytes:=24) rfl _ (p6 3 Xd.c l fun x=>by simp [Xd.c]) (by rw [cQ];omega)
theorem bg (x:Xi) (h:x.Xz.length<2^40):a9 Φ 225 [.agg (Xi.c x)]=some (.val (.agg (Xi.c x))):=by
 rw [aC rfl rfl];have k:=Ee x.Xz h;simp [vY,Xi.e,k]
theorem We (x:Xf) (h:x.index.length<2^40) (h2:x.value.length<2^40):a9 Φ 324 [.agg (Xf.c x)]=some (.val (.agg (Xf.c x))):=by
 rw [aC rfl rfl];have k:=Ed x.index h;have k2:=Ed x.value h2;simp [xU,Xf.e,k,k2]
theorem LC (x:Tbl) (h:x.keys.length<2^40) (h2:x.Xx.length<2^40) (h3:x.Yb.args.length<2^40):a9 Φ 231 [.agg (Tbl.c x)]=some (.val (.agg (Tbl.c x))):=by
 rw [aC rfl rfl];have k:=WF x.keys h;have k2:=JE x.Xx h2;have k3:=DM x.Yb.args h3;simp [w9,Tbl.e,k,k2,k3]
theorem LB (x:Xc) (h:x.extract.length<2^40) (h2:x.cases.length<2^40):a9 Φ 233 [.agg (Xc.c x)]=some (.val (.agg (Xc.c x))):=by
 rw [aC rfl rfl];have k:=JE x.extract h;have k2:=VT x.cases h2;simp [wB,Xc.e,k,k2]
theorem bf (x:Action) (h:x.params.length<2^40) (h2:x.body.length<2^39) (h3:∀s∈x.body,s.index.length<2^40/\s.value.length<2^40):a9 Φ 229 [.agg (Action.c x)]=some (.val (.agg (Action.c x))):=by
 rw [aC rfl rfl];have k:=Ee x.params h;have k2:=Vv x.body h2 fun s hs=>We s (h3 s hs).1 (h3 s hs).2
 simp [w6,Action.e,k,k2]
theorem Ch:∀(n:Nat) (x:Xa),SizeOf.sizeOf x<=n->Xa.Ok iH x->a9 Φ 235 [.agg (Xa.c x)]=some (.val (.agg (Xa.c x)))
 | 0,x,h,_=>by cases x;simp at h
 | n+1,x,h,ho=>by
  obtain ⟨k,t,c,a,b,rfl⟩:=Nk x;simp only [Xa.Ok] at ho;obtain ⟨_,_,hc,⟨ha1,ha2⟩,hb1,hb2⟩:=ho;rw [Xa.oks_eq] at ha2 hb2;have e:=CN;simp at h;have hc1:=hc.1;have k1:=Ed c (by omega);have k2:=YT a (by omega) fun y hy=>Ch n y (by have:=List.sizeOf_lt_of_mem hy;omega) (ha2 y hy)
  have k3:=YT b (by omega) fun y hy=>Ch n y (by have:=List.sizeOf_lt_of_mem hy;omega) (hb2 y hy)
  rw [aC rfl rfl];simp [wD,Xa.ce,k1,k2,k3]
theorem NC (p:Prg) (op:p.Ok iH):a9 Φ 135 [.agg (Prg.c p)]=some (.val (.agg (Prg.c p))):=by
 have f:=IX op;obtain ⟨_,o1,o2,o3,o4,o5,o6,o7,o8⟩:=op;have e:=CN;have k1:=Wj p.Xo (by have:=o1.1;omega) fun x hx=>bg x (f.hl x hx)
 have k2:=Ee p.Xn f.m;have k3:=WE p.Xl f.r;have k4:=Wi p.Xx (by have:=o4.1;omega) fun x hx=>bf x (f.ap x hx) (by
  have h:=o4.2 x hx;simp only [Action.Ok] at h;have:=h.2.2.1;omega) fun s hs=>⟨f.ai x hx s hs,f.av x hx s hs⟩
 have k5:=Wn p.Xm (by have:=o5.1;omega) fun x hx=>LC x (f.tk x hx) (f.ta x hx) (f.tg x hx)
 have k6:=Vr p.Xw (by have:=o6.1;omega) fun x hx=>LB x (f.se x hx) (f.sc x hx)
 have k7:=YT p.Ya (by have:=o7.1;omega) fun x hx=>Ch _ x (Qb _) (o7.2 x hx)
 have k8:=JE p.Xr f.d;rw [aC rfl rfl];simp [vF,Prg.e,k1,k2,k3,k4,k5,k6,k7,k8]
def RegV (T:List (Nat×AO)) (x:AV) (r:Xg):Prop:=(x= .Xt 1 []/\regN r=0)\/∃id,1<=id/\x= .row id 1 0 (regN r)/\look id T=some (.row 1 (List.replicate (regN r) [.int .u32 0]))
inductive RegL (T:List (Nat×AO)):List AV->List Xg->Prop
 | nil:RegL T [] []
 | snoc {A rs x r} (h:RegL T A rs) (hx:RegV T x r):RegL T (A++[x]) (rs++[r])
theorem RegV.app {T:List (Nat×AO)} {x:AV} {r:Xg} (h:RegV T x r) (U:List (Nat×AO)):RegV (T++U) x r:=by
 rcases h with h | ⟨id,h1,h2,h3⟩
 ·exact .inl h
 ·exact .inr ⟨id,h1,h2,by rw [zF,h3];simp⟩
theorem RegL.app {T:List (Nat×AO)} {A:List AV} {rs:List Xg} (h:RegL T A rs) (U:List (Nat×AO)):RegL (T++U) A rs:=by
 induction h with
 | nil=>exact .nil
 | snoc h hx ih=>exact .snoc ih (hx.app U)
theorem RegL.len {T:List (Nat×AO)} {A:List AV} {rs:List Xg} (h:RegL T A rs):A.length=rs.length:=by
 induction h with
 | nil=>rfl
 | snoc h hx ih=>simp [ih]
theorem Kt (H:AH) (k:Nat):∀m,mapO (mapO (snap 38 H)) (List.replicate m [AV.int .u32 k])=some (List.replicate m [AV.int .u32 k])
 | 0=>by simp [mapO]
 | m+1=>by
  have ih:=Kt H k m;simp only [CB,mapO,ih];simp
theorem Ia {α I:Type} (f:α->Option I):∀(l:List α) (x:α) (l':List I) (y:I),mapO f l=some l'->f x=some y->mapO f (l++[x])=some (l'++[y])
 | [],x,l',y,h,hy=>by
  simp [mapO] at h;subst h;simp [mapO,hy]
 | a::l,x,l',y,h,hy=>by
  simp only [mapO] at h;cases hb:f a with
  | none=>rw [hb] at h;cases h
  | some b=>
   rw [hb] at h;cases hm:mapO f l with
   | none=>rw [hm] at h;cases h
   | some m=>
    rw [hm] at h;cases h;have ih:=Ia f l x m y hm hy;simp only [mD,mapO,hb,ih]
theorem RegL.snp {T:List (Nat×AO)} {A:List AV} {rs:List Xg} (h:RegL T A rs) (o:AO) (n:Nat):
  mapO (mapO (snap 39 ⟨(0,o)::T,n⟩)) (A.map fun x=>[x])=some (rs.map fun r=>[AV.slice 1 (List.replicate (regN r) [.int .u32 0])]):=by
 induction h with
 | nil=>simp [mapO]
 | snoc h hx ih=>
  rw [tN,tN];refine Ia _ _ _ _ _ ih ?_;rcases hx with ⟨rfl,h0⟩ | ⟨id,h1,rfl,h3⟩
  ·simp [mapO,h0]
  ·have hi:¬(0=id):=by omega
   have hr:=Kt ⟨(0,o)::T,n⟩ 0;simp at hr;simp [mapO,look,hi,h3,hr]
theorem N6 {T:List (Nat×AO)} {n:Nat} (h:∀m,n<=m->look m T=none) (o:AO):∀m,n+1+1<=m->look m (T++[(n+1,o)])=none:=by
 intro m hm;have:¬(n+1=m):=by omega
 rw [zF,h m (by omega)];simp [look,this]
theorem W9 (p:Prg) (f:PrgS p):a9 Φ 137 [.agg (Prg.c p)]=some (.val (.slice 1 ((newR p).map (cS 1 c32)))):=by
 rw [aC rfl rfl];have hr:=f.r;have e0:(newR p).map (cS 1 c32)=p.Xl.map fun r=>[AV.slice 1 (List.replicate (regN r) [AV.int .u32 0])]:=by
  simp [newR,cSe,c32]
 rw [e0];have b0:(p.Xl.length:Int)*24<=140737488355328:=by omega
 have b3:p.Xl.length<4611686018427387904:=by omega
 simp [vI,Prg.e,b0,b3];refine zO p.Xl.length (fun i e h=>∃(A:List AV) (T:List (Nat×AO)) (n:Nat),h=⟨(0,.row 1 (A.map (fun x=>[x])++List.replicate (p.Xl.length - i) [AV.Xt 1 []]))::T,n⟩/\1<=n/\(∀m,n<=m->look m T=none)/\RegL T A (p.Xl.take i)/\
   look 3 e=some (.row 0 1 0 p.Xl.length)/\look 11 e=some (.slice 3 (p.Xl.map Xg.c))/\look 12 e=some (.int .i64 p.Xl.length)/\look 13 e=some (.int .i64 i))
  (fun _=>some (Rt.val (.slice 1 (p.Xl.map fun r=>[AV.slice 1 (List.replicate (regN r) [AV.int .u32 0])])))) ?_ ?_ 0 _ _ (Qc _) ?_
 ·rintro i e _ L hi hL ⟨A,T,n,rfl,hn,hT,hR,h3,h11,h12,h13⟩ ih;have hw:=aH i (by omega);have hA:A.length=i:=by rw [hR.len];simp;omega
  have hs:=R5 p.Xl[i];have hN:p.Xl.length - i=(p.Xl.length - (i+1))+1:=by omega
  rw [hN,CB];have hn0:¬(0=n):=by omega
  have hn1:¬(n=0):=by omega
  have hTn:=hT n (Qb _);have hTn1:=hT (n+1) (by omega);have hsn:∀{U:List (Nat×AO)} {x:AV},RegL U A (p.Xl.take i)->RegV U x p.Xl[i]->RegL U (A++[x]) (p.Xl.take (i+1)):=by
   intro U x h1 h2;rw [Qh hi];exact .snoc h1 h2
  simp only [Xg.e] at hs;by_cases z:p.Xl[i].size<1\/64<p.Xl[i].size
  ·have hz:regN p.Xl[i]=0:=by simp [regN,z]
   rw [show (!(decide (p.Xl[i].size<1) || decide (64<p.Xl[i].size)))=false by rcases z with z | z<;>simp [z]] at hs;simp [dE,Xg.e,h11,h12,h13,hi,hs,hw,hn0,hTn];exact ih _ _ ⟨A++[.Xt 1 []],T,_,by simp;rfl,by omega,fun m hm=>hT m (by omega),hsn hR (.inl ⟨rfl,hz⟩),by simp [h3],by simp [h11],by simp [h12],by simp⟩
  ·obtain ⟨k,hk⟩:∃k:Nat,p.Xl[i].size=k:=⟨p.Xl[i].size.toNat,by omega⟩;have hz:regN p.Xl[i]=k:=by simp [regN,z];omega
   rw [show (!(decide (p.Xl[i].size<1) || decide (64<p.Xl[i].size)))=true by simp;omega] at hs;have b1:(k:Int)*4<=140737488355328:=by omega
   have b2:k<4611686018427387904:=by omega
   rw [hk] at hs;simp [dE,Xg.e,h3,h11,h12,h13,hi,hs,hk,hw,hn0,hn1,hTn,hTn1,b1,b2,hA];refine ih _ _ ⟨A++[.row (n+1) 1 0 k],T++[(n+1,.row 1 (List.replicate k [.int .u32 0]))],n+1+1,by simp,by omega,N6 hT _,hsn (hR.app _) (.inr ⟨n+1,by omega,by rw [hz],by rw [zF,hTn1,hz];simp⟩),by simp [h3],by simp [h11],by simp [h12],by simp⟩
 ·rintro e _ L hL ⟨A,T,n,rfl,hn,hT,hR,h3,h11,h12,h13⟩;have hS:=hR.snp (.row 1 (A.map (fun x=>[x])++List.replicate (p.Xl.length - p.Xl.length) [AV.Xt 1 []])) n;have hA:A.length=p.Xl.length:=by rw [hR.len];simp
  simp at hS;have hTk:(A.map fun x=>[x]).take p.Xl.length=A.map fun x=>[x]:=by
   rw [Qo];simp [hA]
  simp [dE,jV,h3,h12,h13,hL,hA,hTk,hS]
 ·exact ⟨[],[],1,by simp,by omega,fun _ _=>rfl,by simpa using RegL.nil,by simp,by simp,by simp,by simp⟩
theorem EP {O O':List (Nat×AO)} {N N' k:Nat} {X:Nat->Prop} (hK:Kp X N O O') (hT:Tail O' N') (hN:N<=N') (o:AO):Kp X N O (O'++[(N'+k,o)])/\Tail (O'++[(N'+k,o)]) (N'+k+1)/\look (N'+k) (O'++[(N'+k,o)])=some o:=by
 refine ⟨?_,?_,?_⟩
 ·intro j hj hx;have:¬N'+k=j:=by omega
  rw [aA,hK j hj hx];simp [this]
 ·rw [Tail_append_iff,Tail_cons_iff];exact ⟨hT.mono (by omega),by omega,Tail.nil _⟩
 ·rw [aA,hT _ (by omega)];simp
theorem hp_mv {O O':List (Nat×AO)} {N N' k id:Nat} {X:Nat->Prop} (hK:Kp X N O O') (hT:Tail O' N') (hN:N<=N') (hid:N<=id) (o:AO):Kp X N O (dropl id O'++[(N'+k,o)])/\Tail (dropl id O'++[(N'+k,o)]) (N'+k+1)/\look (N'+k) (dropl id O'++[(N'+k,o)])=some o:=by
 have h1:Kp X N O (dropl id O'):=by
  intro j hj hx;rw [iR (by omega),hK j hj hx]
 exact EP h1 (uN hT) hN o
theorem JI {l:List Rw} {i:Nat} {es0:List (List AV)} (hi:i<l.length) (ht:es0.take (l.map Rw.c).length=l.map Rw.c):es0[i]? =some (Rw.c l[i]):=by
 have h:(es0.take (l.map Rw.c).length)[i]? =(l.map Rw.c)[i]? :=by rw [ht]
 rw [List.getElem?_take_of_lt (by simpa using hi)] at h;rw [h];simp [hi]
section
variable {I:Type} {fin:Option (Ex×St)->Option I}
theorem Lt (l:List Rw) (hs:∀r∈l,rowS r) (hl:l.length<2^39) (v:AV) (K:List Fr) (Q:Option I->Prop) (e:Env) (O:List (Nat×AO)) (N:Nat) (hT:Tail O N) (hv:Re O 5 v (l.map Rw.c))
  (h6:look 6 e=some (.Xt 5 [])) (h24:look 24 e=some v) (h25:look 25 e=some (.int .i64 l.length)) (h26:look 26 e=some (.int .i64 0))
  (hK:∀e' O' N' w,Mu O' 5 w (l.map Rw.c)->(∀j,vid w=some j->N<=j)->(∀z es t,w≠ .app z es t)->Kp (fun _=>False) N O O'->Tail O' N'->N<=N'->look 6 e'=some w->
   look 1 e'=look 1 e->look 2 e'=look 2 e->look 3 e'=look 3 e->look 18 e'=look 18 e->look 19 e'=look 19 e->look 20 e'=look 20 e->Q (go Φ fin K .normal ⟨e',⟨O',N'⟩⟩)):
  Q (go Φ fin (.c (.loop bT):: .b 2::K) .normal ⟨e,⟨O,N⟩⟩):=by
 refine eQ l.length (fun i e' h=>∃O' N' w,h=⟨O',N'⟩/\((i=0/\w= .Xt 5 [])\/∃id,w= .row id 5 0 i/\look id O'=some (.row 5 ((l.take i).map Rw.c))/\N<=id)/\Kp (fun _=>False) N O O'/\Tail O' N'/\N<=N'/\look 6 e'=some w/\look 24 e'=some v/\look 25 e'=some (.int .i64 l.length)/\look 26 e'=some (.int .i64 i)/\
   look 1 e'=look 1 e/\look 2 e'=look 2 e/\look 3 e'=look 3 e/\look 18 e'=look 18 e/\look 19 e'=look 19 e/\look 20 e'=look 20 e) Q ?_ ?_ 0 _ _ (Qc _) ?_
 ·rintro i e' _ L hi hL ⟨O',N',w,rfl,hw,hk,hT',hN,h6,h24,h25,h26,g1,g2,g3,g18,g19,g20⟩ ih;have hw1:=aH i (by omega);have hc:=T8 l[i] (hs _ (Qd hi));have hT0:=hT' N' (Qb _);have hT1:=hT' (N'+1) (by omega);have hm:min i l.length=i:=by omega
  have hd1:∀id,look (N'+1) (dropl id O')=none:=fun id=>uL _ hT1
  have htk:(l.map Rw.c).take (i+1)=(l.map Rw.c).take i++[Rw.c l[i]]:=q6 hi;rw [Rw.ce] at htk;have hb:(i+1)*72<=70368744177664:=by omega
  simp only [Rw.ce] at hc;have hv':Re O' 5 v (l.map Rw.c):=by
   refine hv.fr fun j hj=>?_
   cases hv with
   | row id _ es0 n hn hl hle ht=>cases hj;exact hk j (hT.lt hl) (by simp)
   | sl=>cases hj
   | fs=>cases hj
   | ap=>cases hj
  have hw0:min i (l.map Rw.c).length=i:=by simp;omega
  rcases hw with ⟨rfl,rfl⟩ | ⟨id,rfl,hlk,hid⟩
  ·obtain ⟨a1,a2,a3⟩:=EP (k:=1) hk hT' hN (.row 5 ((l.take (0+1)).map Rw.c));cases hv' with
   | row id' _ es0 n hn hl' hle ht=>
    have h0:=JI hi ht;simp [bT,Rw.ce,h6,h24,h25,h26,hi,hc,hT0,hT1,hn,hl',h0,wr1];refine ih _ _ ⟨_,N'+1+1,.row (N'+1) 5 0 (0+1),by simp at htk;simp [htk],.inr ⟨N'+1,rfl,a3,by omega⟩,a1,a2,by omega,?_,?_,?_,?_,?_,?_,?_,?_,?_,?_⟩<;>simp [*]
   | _=>
    simp [bT,Rw.ce,h6,h24,h25,h26,hi,hc,hT0,hT1,wr1];refine ih _ _ ⟨_,N'+1+1,.row (N'+1) 5 0 (0+1),by simp at htk;simp [htk],.inr ⟨N'+1,rfl,a3,by omega⟩,a1,a2,by omega,?_,?_,?_,?_,?_,?_,?_,?_,?_,?_⟩<;>simp [*]
  ·obtain ⟨a1,a2,a3⟩:=hp_mv (k:=1) hk hT' hN hid (.row 5 ((l.take (i+1)).map Rw.c));cases hv' with
   | row id' _ es0 n hn hl' hle ht=>
    have h0:=JI hi ht;simp [bT,Rw.ce,h6,h24,h25,h26,hi,hc,hT0,hn,hl',h0,hw1,hlk,hb,hm,hd1];refine ih _ _ ⟨_,N'+1+1,.row (N'+1) 5 0 (i+1),by simp [htk],.inr ⟨N'+1,rfl,a3,by omega⟩,a1,a2,by omega,?_,?_,?_,?_,?_,?_,?_,?_,?_,?_⟩<;>simp [*]
   | _=>
    simp [bT,Rw.ce,h6,h24,h25,h26,hi,hc,hT0,hw1,hlk,hb,hm,hd1];refine ih _ _ ⟨_,N'+1+1,.row (N'+1) 5 0 (i+1),by simp [htk],.inr ⟨N'+1,rfl,a3,by omega⟩,a1,a2,by omega,?_,?_,?_,?_,?_,?_,?_,?_,?_,?_⟩<;>simp [*]
 ·rintro e' _ L hL ⟨O',N',w,rfl,hw,hk,hT',hN,h6,h24,h25,h26,g1,g2,g3,g18,g19,g20⟩;simp [bT,h25,h26,hL];refine hK _ O' N' w ?_ ?_ ?_ hk hT' hN ?_ ?_ ?_ ?_ ?_ ?_ ?_<;>try simp [h6,g1,g2,g3,g18,g19,g20]
  ·rcases hw with ⟨hz,rfl⟩ | ⟨id,rfl,hlk,hid⟩
   ·have:l=[]:=Qg hz;subst this;exact .nilF
   ·rw [iS] at hlk;exact .row id _ _ _ (by simp) hlk (Qb _) (by rw [iS])
  ·rcases hw with ⟨hz,rfl⟩ | ⟨id,rfl,hlk,hid⟩
   ·intro j hj;cases hj
   ·intro j hj;cases hj;exact hid
  ·rcases hw with ⟨hz,rfl⟩ | ⟨id,rfl,hlk,hid⟩<;>intro z es t ht<;>cases ht
 ·exact ⟨O,N,.Xt 5 [],rfl,.inl ⟨rfl,rfl⟩,fun _ _ _=>rfl,hT,Qb _,h6,h24,h25,h26,rfl,rfl,rfl,rfl,rfl,rfl⟩
end
section
variable {O O':List (Nat×AO)} {N N' n id:Nat} {X:Nat->Prop} {o y:AO}
theorem Kp.app (h:Kp X N O O') (hn:N<=n):Kp X N O (O'++[(n,o)]):=by
 intro j hj hx;have:¬n=j:=by omega
 rw [aA,h j hj hx];simp [this]
theorem Kp.drop (h:Kp X N O O') (hn:N<=id\/X id):Kp X N O (dropl id O'):=by
 intro j hj hx;rw [iR (by rintro rfl;rcases hn with hn | hn;omega;exact hx hn),h j hj hx]
theorem Kp.setl (h:Kp X N O O') (hn:N<=id\/X id):Kp X N O (setl id y O'):=by
 intro j hj hx;rw [a7,QA (by rintro rfl;rcases hn with hn | hn;omega;exact hx hn),h j hj hx]
theorem Tail.app1 (h:Tail O' N') (hn:N'<=n):Tail (O'++[(n,o)]) (n+1):=by
 rw [Tail_append_iff,Tail_cons_iff];exact ⟨h.mono (by omega),by omega,Tail.nil _⟩
theorem Kp.lk (h:Kp X N O O') (hT:Tail O N) {j:Nat} {x:AO} (hl:look j O=some x) (hx:¬X j):look j O'=some x:=by
 rw [h j (hT.lt hl) hx,hl]
theorem aF {j:Nat} {x y:AO} (h1:look id O=some x) (h2:look j O=some y) (h:x≠y):id≠j:=by
 rintro rfl;rw [h1] at h2;cases h2;exact h rfl
theorem aY {j:Nat} {x:AO} (hT:Tail O N) (h1:look j O=some x) (hn:N<=n):¬j=n/\¬n=j:=by
 have:=hT.lt h1;omega
end
theorem Re.src {O:List (Nat×AO)} {z N:Nat} {v:AV} {es:List (List AV)} (h:Re O z v es):jJ ⟨O,N⟩ v=some es:=by
 cases h with
 | sl=>rfl
 | fs=>rfl
 | ap=>rfl
 | row id _ es0 n hn hl hle ht=>
  subst hn;simp [hl,hle,ht]
theorem SZ {O:List (Nat×AO)} {N:Nat} (hT:Tail O N) {v:AV} {l:List Int} (h:Re O 1 v (l.map cI)) (hl:l.length<2^40):
  ∃w o,aD Φ 96 [v] ⟨O,N⟩=some (.val w,⟨O++[(N,o)],N+1⟩)/\Mu (O++[(N,o)]) 1 w (l.map cI)/\∀j,vid w=some j->N<=j:=by
 have hr:Φ 96=some (.rule (qU 1 8 .row)):=rfl;rw [At Φ hr];have hN:=hT N (Qb _);have hs:=h.src (N:=N);have hlen:=h.len;cases l with
 | nil=>
  refine ⟨.app 1 [] N,.tok 1 0,?_,.nilA _,fun j hj=>by cases hj⟩;simp only [qU,hlen,oJ,CE];simp only [oJ] at hs;simp only [hs,evR];simp [hN]
 | cons x l=>
  have ha:jK 1 ((x::l).map cI)=true:=p6 1 cI (x::l) fun x=>by simp
  refine ⟨.row N 1 0 ((x::l).map cI).length,.row 1 ((x::l).map cI),?_,?_,fun j hj=>by cases hj;omega⟩
  ·have hb:((x::l).map cI).length*8<=2^46:=by rw [cQ];omega
   have hne:(x::l).map cI≠[]:=by simp
   simp only [qU,hlen,cQ,tK,evR];have e0:evOp [(5,.Xt 1 []),(6,v)] N ⟨O,N⟩ (.append .row 1 8 (.t 5) (.t 6))=some (.row N 1 0 ((x::l).map cI).length,(AH.mk O N).put N (.row 1 ((x::l).map cI))):=by
    simp only [evOp,evX,look];simp only [show ¬(5:Nat)=6 by decide,if_true,if_false,hs,ha];simp only [CE,QC,pA,true_or,true_and];rw [a8 ⟨hne,hb⟩]
   rw [e0];simp [hN]
  ·exact .row N _ _ _ rfl (by rw [aA,hN];simp) (Qb _) (by rw [iS])
def noE:Entry:=⟨[],0,⟨0,[]⟩⟩
theorem noE_s:EntS noE:=⟨by simp [noE],by simp [noE],by simp [noE],by simp [noE]⟩
theorem lk_ge {j:Nat}:∀{L:List (Nat×AO)},(∀x∈L,j<x.1)->look j L=none
 | [],_=>rfl
 | (u,w)::r,h=>by
  have:=h (u,w) (by simp);have hr:=lk_ge (L:=r) fun x hx=>h x (by simp [hx])
  have hu:¬u=j:=by simp only at this;omega
  simp [look,hu,hr]
theorem lk_lt {j:Nat}:∀{L:List (Nat×AO)},(∀x∈L,x.1<j)->look j L=none
 | [],_=>rfl
 | (u,w)::r,h=>by
  have:=h (u,w) (by simp);have hr:=lk_lt (L:=r) fun x hx=>h x (by simp [hx])
  have hu:¬u=j:=by simp only at this;omega
  simp [look,hu,hr]
theorem Kp.apps {X:Nat->Prop} {N:Nat} {O L:List (Nat×AO)} (h:∀x∈L,N<=x.1):Kp X N O (O++L):=fun j hj _=>by
 rw [aA,lk_ge (L:=L) fun x hx=>by have:=h x hx;omega];cases look j O<;>rfl
theorem Tail.apps {N M:Nat} {O L:List (Nat×AO)} (hT:Tail O N) (hn:N<=M) (h:∀x∈L,x.1<M):Tail (O++L) M:=fun j hj=>by
 rw [aA,hT j (by omega),lk_lt (L:=L) fun x hx=>by have:=h x hx;omega];rfl
def osum (a:Nat):Nat->Nat
 | 0=>0
 | i+1=>osum a i+a / 2^i % 2
theorem Mb (a:Nat):∀i,osum a i<=i
 | 0=>Qb _
 | i+1=>by have:=Mb a i;simp only [osum];omega
def GP (v:Int):Int:=(osum v.toNat 32:Nat)
theorem SB (n:Nat):iand .u32 (n:Int) 1=(n:Int) % 2:=by
 unfold iand;have e3:(BitVec.ofInt 32 (n:Int)&&& BitVec.ofInt 32 1).toNat=((n:Int) % 4294967296).toNat % 2:=by
  rw [E1];have:(BitVec.ofInt 32 1).toNat=2^1 - 1:=rfl;rw [this,DT,BitVec.toNat_ofInt];rfl
 rw [show IntKind.bits .u32=32 from rfl,e3];simp only [IntKind.wrap,IntKind.bits,IntKind.signed];simp;omega
theorem V8 (n i:Nat) (h:i<32):ishr .u32 (n:Int) (i:Int)=((n / 2^i:Nat):Int):=by
 unfold ishr;have:min (i:Int).toNat IntKind.u32.bits=i:=by simp [IntKind.bits];omega
 rw [this,K9 _ (by exact uI (r9 (by decide)))];rw [Int.natCast_ediv,Int.natCast_pow];rfl
theorem UC (n:Nat) (hn:n<2^32):a9 Φ 384 [.int .u32 (n:Int)]=some (.val (.int .i64 (osum n 32:Nat))):=by
 rw [aC rfl rfl];simp [yP];refine oD 32 (fun i e=>look 0 e=some (.int .u32 (n:Int))/\look 3 e=some (.int .i64 (osum n i:Nat))/\look 5 e=some (.int .i64 i)) (fun _=>some (Rt.val (.int .i64 (osum n 32:Nat)))) ?_ ?_ 0 _ (Qc _) ?_
 ·rintro i e L hi hL ⟨h0,h3,h5⟩ ih;have hw:=aH i (by omega);have hb:=Mb n i;have h1:=V8 n i hi;have h2:=SB (n / 2^i);have hq:osum n (i+1)=osum n i+n / 2^i % 2:=rfl;generalize n / 2^i=q at*;have hc:IntKind.wrap .i64 ((q:Int) % 2)=(q:Int) % 2:=cU;have hs:IntKind.wrap .i64 ((osum n i:Nat)+((q:Int) % 2))=((osum n (i+1):Nat):Int):=by
   rw [cU,hq];omega
  have hi':(i:Int)<32:=by omega
  simp [gO,h0,h3,h5,hi',hL,h1,h2,hc,hs,hw];exact ih _ ⟨by simp [h0],by simp,by simp⟩
 ·rintro e L hL ⟨h0,h3,h5⟩;simp [gO,lH,h3,h5,hL]
 ·simp [osum]
theorem P3 {v:Int} (h:ok32 0 v):a9 Φ 384 [.int .u32 v]=some (.val (.int .i64 (GP v))):=by
 obtain ⟨h1,h2⟩:=h;obtain ⟨n,rfl⟩:∃n:Nat,v=n:=⟨v.toNat,by omega⟩;have:=UC n (by omega);simpa [GP] using this
def pfx:List Xk->List Xh->Int
 | [],_=>0
 | k::ks,xs=>if k.kind=2 then (match xs with | m::_=>GP m.Yd | []=>0) else pfx ks (xs.drop 1)
def pfxZ (p:Prg) (t:Int) (x:Entry):Int:=match at? p.Xm t with
 | some tb=>pfx tb.keys x.keys
 | none=>0
theorem Kw (k:Xk) (ks:List Xk) (xs:List Xh):pfx (k::ks) xs=if k.kind=2 then (match xs with | m::_=>GP m.Yd | []=>0) else pfx ks (xs.drop 1):=rfl
theorem TM {ks:List Xk} {xs:List Xh} {i:Nat} (hi:i<ks.length) (h:ks[i].kind=2):pfx (ks.drop i) (xs.drop i)=if hx:i<xs.length then GP xs[i].Yd else 0:=by
 rw [Qi hi,Kw,a8 h];by_cases hx:i<xs.length
 ·rw [dif_pos hx,Qi hx]
 ·rw [dif_neg hx,List.drop_eq_nil_of_le (by omega)]
theorem QL {ks:List Xk} {xs:List Xh} {i:Nat} (hi:i<ks.length) (h:¬ks[i].kind=2):pfx (ks.drop i) (xs.drop i)=pfx (ks.drop (i+1)) (xs.drop (i+1)):=by
 rw [Qi hi,Kw,QA h,vA]
theorem TL (ks:List Xk) (xs:List Xh):pfx (ks.drop ks.length) xs=0:=by simp [pfx]
theorem Ie (p:Prg) (f:PrgS p) (t:Int) (x:Entry) (hx:EntS x):a9 Φ 351 [.agg (Prg.c p),.int .i64 t,.agg (Entry.c x)]=some (.val (.int .i64 (pfxZ p t x))):=by
 rw [aC rfl rfl];by_cases i0:t<0
 ·simp [pV,Prg.e,Entry.ce,pfxZ,iC i0,i0]
 by_cases i1:(p.Xm.length:Int)<=t
 ·simp [pV,Prg.e,Entry.ce,pfxZ,iK i1,i0,i1]
 obtain ⟨k,rfl⟩:∃k:Nat,t=k:=⟨t.toNat,by omega⟩;have hk:k<p.Xm.length:=by omega
 have hR:pfxZ p k x=pfx p.Xm[k].keys x.keys:=by rw [pfxZ,mM,Qa hk]
 rw [hR];generalize hQ:pfx p.Xm[k].keys x.keys=Q;have hkl:=f.tk p.Xm[k] (Qd hk);simp [pV,Prg.e,Entry.ce,Tbl.e,i0,i1,hk];refine eF p.Xm[k].keys.length (fun _=>[]) 0 (fun i e=>pfx (p.Xm[k].keys.drop i) (x.keys.drop i)=Q/\look 5 e=some (.iptr 4 [Entry.c x] 0 0)/\look 23 e=some (.slice 3 (p.Xm[k].keys.map Xk.c))/\look 24 e=some (.int .i64 p.Xm[k].keys.length)/\look 25 e=some (.int .i64 i)) (fun _=>some (Rt.val (.int .i64 Q))) ?_ ?_ 0 _ _ (Qc _) (Qc _) ?_
 ·rintro i e n L hi hL - ⟨he,h5,h23,h24,h25⟩ ih;have hw:=aH i (by omega);rw [Entry.ce] at h5;by_cases z:p.Xm[k].keys[i].kind=2
  ·rw [TM hi z] at he;by_cases q:i<x.keys.length
   ·rw [dif_pos q] at he;have ho:=P3 (hx.ks x.keys[i] (Qd q)).2;simp [cM,Xk.e,Xh.ce,h5,h23,h24,h25,hi,hL,z,q,ho,he]
   ·rw [dif_neg q] at he;simp [cM,Xk.e,Xh.ce,h5,h23,h24,h25,hi,hL,z,q,<- he]
  ·rw [QL hi z] at he;simp [cM,Xk.e,h5,h23,h24,h25,hi,hL,z,hw];exact ih _ _ (Qc _) ⟨he,by simp [h5,Entry.ce],by simp [h23,Xk.e],by simp [h24],by simp⟩
 ·rintro e n L hL - ⟨he,h5,h23,h24,h25⟩;rw [TL] at he;simp [cM,l8,h23,h24,h25,hL,<- he]
 ·exact ⟨by simpa using hQ,by simp [Entry.ce],by simp,by simp,by simp⟩
def prc (p:Prg) (t:Int) (a b:Rw):Bool:=if a.entry.Xs≠b.entry.Xs then decide (b.entry.Xs<a.entry.Xs) else if pfxZ p t a.entry≠pfxZ p t b.entry then decide (pfxZ p t b.entry<pfxZ p t a.entry) else decide (a.id<b.id)
theorem Zc (p:Prg) (f:PrgS p) (t:Int) (a b:Rw) (ha:EntS a.entry) (hb:EntS b.entry):a9 Φ 285 [.agg (Prg.c p),.int .i64 t,.agg (Rw.c a),.agg (Rw.c b)]=some (.val (.bool (prc p t a b))):=by
 rw [aC rfl rfl];have k1:=Ie p f t a.entry ha;have k2:=Ie p f t b.entry hb;simp only [Prg.e,Entry.ce] at k1 k2;by_cases q1:a.entry.Xs=b.entry.Xs
 ·rw [q1] at k1;by_cases q2:pfxZ p t a.entry=pfxZ p t b.entry
  ·simp [pQ,Prg.e,Rw.ce,prc,k1,k2,q1,q2]
  ·simp [pQ,Prg.e,Rw.ce,prc,k1,k2,q1,q2]
 ·simp [pQ,Prg.e,Rw.ce,prc,q1]
def qJ (m:Xh) (v:Int):Prop:=iand .u32 (ixor .u32 v m.value) m.Yd=0
instance (m:Xh) (v:Int):Decidable (qJ m v):=by unfold qJ;infer_instance
def mts:List Xh->List Int->Bool
 | m::ms,v::vs=>if qJ m v then mts ms vs else false
 | _,_=>true
def mtF (x:Entry) (key:List Int):Bool:=decide (x.keys.length=key.length)&&mts x.keys key
theorem U8 {l:List Xh} {k:List Int} {i:Nat} (h1:i<l.length) (h2:i<k.length) (h:qJ l[i] k[i]):mts (l.drop i) (k.drop i)=mts (l.drop (i+1)) (k.drop (i+1)):=by
 rw [Qi h1,Qi h2,mts,a8 h]
theorem P2 {l:List Xh} {k:List Int} {i:Nat} (h1:i<l.length) (h2:i<k.length) (h:¬qJ l[i] k[i]):mts (l.drop i) (k.drop i)=false:=by
 rw [Qi h1,Qi h2,mts,QA h]
theorem L9 (x:Entry) (hx:x.keys.length<2^40) (key:List Int):a9 Φ 281 [.agg (Entry.c x),.slice 1 (key.map c32)]=some (.val (.bool (mtF x key))):=by
 rw [aC rfl rfl];by_cases q:x.keys.length=key.length
 rotate_left
 ·have q':¬key.length=x.keys.length:=fun h=>q h.symm
  simp [sF,Entry.ce,mtF,q,q']
 have hR:mtF x key=mts x.keys key:=by simp [mtF,q]
 rw [hR];generalize hQ:mts x.keys key=Q;simp [sF,Entry.ce,q];refine eF x.keys.length (fun _=>[]) 0 (fun i e=>mts (x.keys.drop i) (key.drop i)=Q/\look 1 e=some (.slice 1 (key.map c32))/\look 14 e=some (.slice 2 (x.keys.map Xh.c))/\look 15 e=some (.int .i64 x.keys.length)/\look 16 e=some (.int .i64 i)) (fun _=>some (Rt.val (.bool Q))) ?_ ?_ 0 _ _ (Qc _) (Qc _) ?_
 ·rintro i e n L hi hL - ⟨he,h1,h14,h15,h16⟩ ih;have hw:=aH i (by omega);have hk:i<key.length:=by omega
  by_cases z:qJ x.keys[i] key[i]
  ·rw [U8 hi hk z] at he;unfold qJ at z;simp [dT,Xh.ce,c32e,h1,h14,h15,h16,hi,hk,hL,z,hw];exact ih _ _ (Qc _) ⟨he,by simp [h1],by simp [h14,Xh.ce],by simp [h15],by simp⟩
  ·rw [P2 hi hk z] at he;unfold qJ at z;simp [dT,Xh.ce,c32e,h1,h14,h15,h16,hi,hk,hL,z,<- he]
 ·rintro e n L hL - ⟨he,h1,h14,h15,h16⟩;rw [q,rK,List.drop_of_length_le (by omega)] at he;simp [dT,kU,h14,h15,h16,hL,<- he,mts]
 ·exact ⟨by simpa using hQ,by simp,by simp,by simp [q],by simp⟩
theorem Jw (r:Rw) (hr:EntS r.entry) (key:List Int):a9 Φ 280 [.agg (Rw.c r),.iptr 1 [[.slice 1 (key.map c32)]] 0 0]=some (.val (.bool (mtF r.entry key))):=by
 rw [aC rfl rfl];have h:=L9 r.entry hr.kl key;simp only [Entry.ce] at h;simp [wL,Rw.ce,h]
def zRow:List AV:=[.int .i64 0,.Xt 2 [],.int .i64 0,.int .i64 0,.Xt 1 []]
def VZ (N:Nat) (O:List (Nat×AO)) (o:Option Rw) (r:Option (Rt×AH)):Prop:=
 ∃O' N',r=some (.val (.tup [.agg (match o with | some x=>Rw.c x | none=>zRow),.bool o.isSome]),⟨O',N'⟩)/\Kp (fun _=>False) N O O'/\Tail O' N'/\N<=N'
theorem Mq {O:List (Nat×AO)} {N:Nat} (hT:Tail O N) {L:AV} {l:List Rw} (hL:Re O 5 L (l.map Rw.c)) (hll:l.length<2^40) {g:Nat} {caps caps':List AV} (P:Rw->Bool)
  (hcap:∀O' N',(∀j,j<N->look j O'=look j O)->mapO (snap 40 ⟨O',N'⟩) caps=some caps') (hP:∀x∈l,a9 Φ g (.agg (Rw.c x)::caps')=some (.val (.bool (P x)))):
  VZ N O (l.find? P) (aD Φ 282 [L,.func (.func g) [] caps] ⟨O,N⟩):=by
 rw [cP rfl rfl];have t0:=hT N (Qb _);have hlen:=hL.len;rw [cQ] at hlen;simp [wM,t0,hlen,-lenOf];generalize hR:l.find? P=R;refine eQ l.length (fun i e h=>∃O' N',h=⟨O',N'⟩/\(l.drop i).find? P=R/\Kp (fun _=>False) N O O'/\Tail O' N'/\N+1<=N'/\look N O'=some (.row 5 [zRow])/\look 1 e=some (.func (.func g) [] caps)/\look 4 e=some (.ptr N 5 0 0)/\look 9 e=some L/\look 10 e=some (.int .i64 l.length)/\look 11 e=some (.int .i64 i)) _ ?_ ?_ 0 _ _ (Qc _) ?_
 ·rintro i e _ K hi hK ⟨O',N',rfl,hf,hk,hT',hN,hb,h1,h4,h9,h10,h11⟩ ih;have hw:=aH i (by omega);have hv':Re O' 5 L (l.map Rw.c):=by
   refine hL.fr fun j hj=>?_
   cases hL with
   | row id _ es0 n hn hl hle ht=>cases hj;exact hk j (hT.lt hl) (by simp)
   | sl=>cases hj
   | fs=>cases hj
   | ap=>cases hj
  have u0:=hT' N' (Qb _);have nN:¬N=N':=by omega
  have hc:=hcap O' (N'+1) fun j hj=>hk j hj (by simp)
  have hp:=hP l[i] (Qd hi);simp only [Rw.ce] at hp;rw [Qi hi,List.find?_cons] at hf;cases hb2:P l[i] with
  | true=>
   rw [hb2] at hf hp;simp only at hf;subst hf;cases hv' with
   | row id' _ es0 n hn hl' hle ht=>
    have h0:=JI hi ht;simp [bP,Rw.ce,h1,h4,h9,h10,h11,hi,u0,hn,hl',h0,hc,hp,hb,a7,zRow];exact ⟨_,_,rfl,Kp.setl hk (.inl (Qb _)),aK (hT'.mono (by omega)),by omega⟩
   | _=>
    simp [bP,Rw.ce,h1,h4,h9,h10,h11,hi,u0,hc,hp,hb,a7,zRow];exact ⟨_,_,rfl,Kp.setl hk (.inl (Qb _)),aK (hT'.mono (by omega)),by omega⟩
  | false=>
   rw [hb2] at hf hp;simp only at hf;cases hv' with
   | row id' _ es0 n hn hl' hle ht=>
    have h0:=JI hi ht;simp [bP,Rw.ce,h1,h4,h9,h10,h11,hi,hK,u0,hn,hl',h0,hc,hp,hw];exact ih _ _ ⟨_,_,rfl,hf,hk,hT'.mono (by omega),by omega,by simp [hb,zRow],by simp [h1],by simp [h4],by simp [h9],by simp [h10],by simp⟩
   | _=>
    simp [bP,Rw.ce,h1,h4,h9,h10,h11,hi,hK,u0,hc,hp,hw];exact ih _ _ ⟨_,_,rfl,hf,hk,hT'.mono (by omega),by omega,by simp [hb,zRow],by simp [h1],by simp [h4],by simp [h9],by simp [h10],by simp⟩
 ·rintro e _ K hK ⟨O',N',rfl,hf,hk,hT',hN,hb,h1,h4,h9,h10,h11⟩;have u0:=hT' N' (Qb _);have nN:¬N'=N:=by omega
  have nN':¬N=N':=by omega
  rw [rK] at hf;simp only [List.find?_nil] at hf;subst hf;simp [bP,kV,h4,h10,h11,hK,u0,hb,aA,a7,nN,nN',zRow];exact ⟨_,_,rfl,Kp.setl (Kp.app hk (by omega)) (.inl (Qb _)),aK (hT'.app1 (Qb _)),by omega⟩
 ·refine ⟨_,_,rfl,by simpa using hR,Kp.app Kp.refl (Qb _),hT.app1 (Qb _),by omega,by simp [aA,t0,zRow],by simp,by simp,by simp,by simp,by simp⟩
def F1 (key:List Int):AV:= .func (.func 280) [] [.iptr 1 [[.slice 1 (key.map c32)]] 0 0]
theorem M2 (p:Prg) (f:PrgS p) (t:Int) (key:List Int) (x r:Rw) (hx:EntS x.entry) (hr:EntS r.entry):
  a9 Φ 284 [.agg (Rw.c x),.iptr 1 [[F1 key]] 0 0,.iptr 9 [Prg.c p] 0 0,.iptr 1 [[.int .i64 t]] 0 0,.iptr 5 [Rw.c r] 0 0]=some (.val (.bool (mtF x.entry key&&prc p t x r))):=by
 rw [aC rfl rfl];have k1:=Jw x hx key;have k2:=Zc p f t x r hx hr;simp only [Prg.e,Rw.ce] at k1 k2;cases z:mtF x.entry key<;>rw [z] at k1<;>simp [wO,F1,Prg.e,Rw.ce,k1,k2]
theorem fany {α:Type} (Q:α->Bool):∀l:List α,(l.find? Q).isSome=l.any Q
 | []=>rfl
 | a::l=>by rw [List.find?_cons,uH];cases h:Q a<;>simp [fany Q l]
theorem OM (p:Prg) (f:PrgS p) (t:Int) (key:List Int) (l:List Rw) (hl:∀x∈l,EntS x.entry) (hll:l.length<2^40) (r:Rw) (hr:EntS r.entry):
  a9 Φ 283 [.agg (Rw.c r),.iptr 1 [[F1 key]] 0 0,.iptr 1 [[.slice 5 (l.map Rw.c)]] 0 0,.iptr 9 [Prg.c p] 0 0,.iptr 1 [[.int .i64 t]] 0 0]=
   some (.val (.bool (mtF r.entry key&& !(l.any fun x=>mtF x.entry key&&prc p t x r)))):=by
 rw [aC rfl rfl];have k1:=Jw r hr key;have kf:=fun N=>Mq (O:=[]) (N:=N) (fun _ _=>rfl) (.sl (l.map Rw.c)) hll (g:=284) (caps:=[.iptr 1 [[F1 key]] 0 0,.iptr 9 [Prg.c p] 0 0,.iptr 1 [[.int .i64 t]] 0 0,.iptr 5 [Rw.c r] 0 0]) (caps':=[.iptr 1 [[F1 key]] 0 0,.iptr 9 [Prg.c p] 0 0,.iptr 1 [[.int .i64 t]] 0 0,.iptr 5 [Rw.c r] 0 0]) (fun x=>mtF x.entry key&&prc p t x r)
  (fun O' N' _=>by simp [F1,Prg.e,Rw.ce]) (fun x hx=>M2 p f t key x r (hl x hx) hr)
 have ha:(l.find? fun x=>mtF x.entry key&&prc p t x r).isSome=l.any fun x=>mtF x.entry key&&prc p t x r:=fany _ l
 cases z:mtF r.entry key with
 | false=>
  rw [z] at k1;simp only [Rw.ce] at k1;simp [pP,F1,Prg.e,Rw.ce,k1]
 | true=>
  rw [z] at k1;obtain ⟨O',N',e,hk,hT',hN'⟩:=kf 0;rw [ha] at e;have u0:=hT' N' (Qb _);simp only [Rw.ce,Prg.e,F1] at k1 e;cases q:l.find? (fun x=>mtF x.entry key&&prc p t x r) with
  | some x=>
   rw [q] at e;simp only [Rw.ce] at e;simp [pP,F1,Prg.e,Rw.ce,k1,e,u0,aA,a7]
  | none=>
   rw [q] at e;simp only [zRow] at e;simp [pP,F1,Prg.e,Rw.ce,k1,e,u0,aA,a7]
def bstP (p:Prg) (t:Int) (l:List Rw) (key:List Int):Option Rw:=K4 (fun r=>mtF r.entry key) (prc p t) l
def rowV (o:Option Rw):List AV:=match o with
 | some x=>Rw.c x
 | none=>Rw.c ⟨0,noE⟩
theorem Ka (r:Rw) (hr:EntS r.entry):a9 Φ 286 [.agg (Rw.c r)]=some (.val (.agg (Rw.c r))):=by
 rw [aC rfl rfl];have k1:=Ef r.entry.keys hr.kl;have k2:=DM r.entry.call.args hr.al;simp [wP,Rw.ce,k1,k2]
theorem OG:a9 Φ 286 [.agg (Rw.c ⟨0,noE⟩)]=some (.val (.agg (Rw.c ⟨0,noE⟩))):=Ka _ noE_s
end Go.Av
