/-
 The rows of a table: the program's check.
-/
import Derived.Test.YtcehjengeaafpaaGreatL8
set_option linter.all false
namespace Go.Av
set_option maxRecDepth 4000
def ordL:List Rw->Int->Option Int
 | [],a=>some a
 | r::l,a=>if r.id<=a then none else ordL l r.id
def rowG (p:Prg) (t:Int) (l:List Rw) (i:Nat):Option Int:=(l[i]?).bind fun r=>if entE p t r.entry≠0 then some (entE p t r.entry) else if (l.take i).any (fun y=>sk y.entry r.entry)=true then some 7 else none
def tabK (p:Prg) (t:Int) (l:List Rw) (next:Int) (z:Int):Option Int->Int
 | none=>14
 | some a=>if next<=a then 14 else if 1073741824<next then 14 else (fe (rowG p t l) l.length 0).getD z
def rowS (r:Rw):Prop:=EntS r.entry
theorem ct_b (p:Prg) (f:PrgS p) (t:Int) (l:List Rw) (next:Int) (d:Xb) (hl:l.length<2^40) (hs:∀r∈l,rowS r) (hd:d.args.length<2^40) (a:Int) (ha:0<=a) (e:Env) (n:Nat)
  (h1:look 1 e=some (a7 t)) (h2:look 2 e=some (.slice 5 (l.map Rw.c))) (h3:look 3 e=some (a7 next)) (h5:look 5 e=some (.iptr 9 [Prg.c p] 0 0)) (h9:look 9 e=some (.iptr 2 [Xb.c d] 0 0)) (h11:look 11 e=some (a7 a)):
  go Φ (finP [.tmp 10]) [.c dJ] .normal ⟨e,⟨[],n⟩⟩=some (.val (a7 (tabK p t l next (o9 p t d) (some a)))):=by
 unfold tabK;dsimp only;by_cases z0:next<=a
 ·simp [dJ,h3,h11,z0]
 have z1:¬next<1:=by omega
 by_cases z2:1073741824<next
 ·simp [dJ,h3,h11,z0,z1,z2]
 rw [QA z0,QA z2];simp [dJ,h2,h3,h11,z0,z1,z2];refine cV l.length (fun _=>[]) 0 (fun i e=>look 1 e=some (a7 t)/\look 2 e=some (.slice 5 (l.map Rw.c))/\look 5 e=some (.iptr 9 [Prg.c p] 0 0)/\look 9 e=some (.iptr 2 [Xb.c d] 0 0)/\look 50 e=some (.slice 5 (l.map Rw.c))/\look 51 e=some (a7 l.length)/\look 52 e=some (a7 i))
  (fun i=>some (Rt.val (a7 ((fe (rowG p t l) l.length i).getD (o9 p t d))))) ?_ ?_ 0 _ n (Qc _) (Qc _) ?_
 ·rintro i e n L hi hL _ ⟨h1,h2,h5,h9,h50,h51,h52⟩ ih;have hw:=aF i (by omega);have hm:=hs _ (Qd hi);have hc:=Jz p f t l[i].entry hm;have hi':i<=l.length:=by omega
  have hx:a8 Φ 75 [.slice 5 ((l.map Rw.c).take i),.func (.func 166) [] [.iptr 5 [Rw.c l[i]] 0 0]]=some (.val (.bool ((l.take i).any fun x=>sk x.entry l[i].entry))):=by
   rw [<- DY];exact ZG (l.take i) l[i] (by simp;omega) fun x hx=>(hs x (Qu hx)).kl
  simp only [Prg.e,Entry.ce] at hc;rw [Rw.ce] at hx;rw [Prg.e] at h5;by_cases v:entE p t l[i].entry=0
  ·rw [v] at hc;cases w:(l.take i).any fun x=>sk x.entry l[i].entry with
   | true=>
    rw [w] at hx;rw [aJ (x:=(7:Int)) hi (by simp only [rowG,Qa hi,dI];rw [QA (by simp [v]),a9 w])];simp [dK,Rw.ce,h1,h2,h5,h50,h51,h52,hi,hi',hc,hx]
   | false=>
    rw [w] at hx;rw [bP hi (by simp only [rowG,Qa hi,dI];rw [QA (by simp [v]),QA (by rw [w];decide)])];generalize hX:some (Rt.val (a7 ((fe (rowG p t l) l.length (i+1)).getD (o9 p t d))))=X;simp [dK,Rw.ce,h1,h2,h5,h50,h51,h52,hi,hi',hc,hx,hw];rw [<- hX];exact ih _ _ (Qc _) ⟨by simp [h1],by simp [h2],by simp [h5,Prg.e],by simp [h9],by simp [h50],by simp [h51],by simp⟩
  ·rw [aJ (x:=entE p t l[i].entry) hi (by simp only [rowG,Qa hi,dI];rw [a9 v])];simp [dK,Rw.ce,h1,h5,h50,h51,h52,hi,hc,v]
 ·rintro e n L hL _ ⟨h1,h2,h5,h9,h50,h51,h52⟩;have hk:=Gu p f t d hd;simp only [Prg.e,Xb.ce] at hk;rw [Prg.e] at h5;rw [Xb.ce] at h9;rw [d6];simp [dK,oZ,h1,h5,h9,h51,h52,hL,hk]
 ·simp [h1,h2,h5,h9]
theorem Ju (p:Prg) (f:PrgS p) (k:Nat) (hk:k<p.Xm.length) (l:List Rw) (next:Int) (d:Xb) (hl:l.length<2^40) (hs:∀r∈l,rowS r) (hd:d.args.length<2^40):
  a8 Φ 100 [.agg (Prg.c p),a7 k,.slice 5 (l.map Rw.c),a7 next,.agg (Xb.c d)]=some (.val (a7 (if p.Xm[k].size<l.length then 12 else tabK p k l next (o9 p k d) (ordL l 0)))):=by
 rw [aB rfl rfl];by_cases z:p.Xm[k].size<(l.length:Int)
 ·simp [AR,Prg.e,Xb.ce,Tbl.e,hk,z]
 rw [QA z];simp [AR,Prg.e,Xb.ce,Tbl.e,hk,z];refine cV l.length (fun _=>[]) 0 (fun i e=>look 1 e=some (a7 k)/\look 2 e=some (.slice 5 (l.map Rw.c))/\look 3 e=some (a7 next)/\look 5 e=some (.iptr 9 [Prg.c p] 0 0)/\look 9 e=some (.iptr 2 [Xb.c d] 0 0)/\look 26 e=some (.slice 5 (l.map Rw.c))/\look 27 e=some (a7 l.length)/\look 28 e=some (a7 i)/\∃a:Int,look 11 e=some (a7 a)/\0<=a/\ordL (l.drop i) a=ordL l 0)
  (fun _=>some (Rt.val (a7 (tabK p k l next (o9 p k d) (ordL l 0))))) ?_ ?_ 0 _ 0 (Qc _) (Qc _) ?_
 ·rintro i e n L hi hL _ ⟨h1,h2,h3,h5,h9,h26,h27,h28,a,h11,ha,ho⟩ ih;have hw:=aF i (by omega);rw [Qi hi] at ho;simp only [ordL] at ho;by_cases y:l[i].id<=a
  ·rw [a9 y] at ho;rw [<- ho];simp [fH,Rw.ce,h26,h27,h28,h11,hi,y,tabK]
  ·rw [QA y] at ho;generalize hX:some (Rt.val (a7 (tabK p k l next (o9 p k d) (ordL l 0))))=X;simp [fH,Rw.ce,h26,h27,h28,h11,hi,y,hw];rw [<- hX];exact ih _ _ (Qc _) ⟨by simp [h1],by simp [h2],by simp [h3],by simp [h5],by simp [h9],by simp [h26],by simp [h27],by simp,l[i].id,by simp,by omega,ho⟩
 ·rintro e n L hL _ ⟨h1,h2,h3,h5,h9,h26,h27,h28,a,h11,ha,ho⟩;rw [QB] at ho;simp only [ordL] at ho;rw [<- ho];generalize hX:some (Rt.val (a7 (tabK p k l next (o9 p k d) (some a))))=X;simp [fH,h27,h28,hL];rw [<- hX];exact ct_b p f k l next d hl hs hd a ha _ _ (by simp [h1]) (by simp [h2]) (by simp [h3]) (by simp [h5]) (by simp [h9]) (by simp [h11])
 ·simp [Prg.e,Xb.ce]
theorem rt_b (p:Prg) (f:PrgS p) (hv:∀t∈p.Xm,∀v∈t.Yb.args,ok32 0 v) (t:Int) (l:List Rw) (next:Int) (hl:l.length<2^40) (hs:∀r∈l,rowS r) (a:Int) (e:Env) (n:Nat)
  (h1:look 1 e=some (a7 t)) (h2:look 2 e=some (.slice 5 (l.map Rw.c))) (h3:look 3 e=some (a7 next)) (h4:look 4 e=some (.iptr 9 [Prg.c p] 0 0)) (h9:look 9 e=some (a7 a)):
  go Φ (finP [.tmp 8]) [.c iM] .normal ⟨e,⟨[],n⟩⟩=some (.val (a7 (tabK p t l next 0 (some a)))):=by
 unfold tabK;dsimp only;by_cases z0:next<=a
 ·simp [iM,h3,h9,z0]
 by_cases z2:1073741824<next
 ·simp [iM,h3,h9,z0,z2]
 rw [QA z0,QA z2];simp [iM,h3,h9,z0,z2];refine cV l.length (fun _=>[]) 0 (fun i e=>look 1 e=some (a7 t)/\look 2 e=some (.slice 5 (l.map Rw.c))/\look 4 e=some (.iptr 9 [Prg.c p] 0 0)/\look 11 e=some (a7 i))
  (fun i=>some (Rt.val (a7 ((fe (rowG p t l) l.length i).getD 0)))) ?_ ?_ 0 _ n (Qc _) (Qc _) ?_
 ·rintro i e n L hi hL _ ⟨h1,h2,h4,h11⟩ ih;have hw:=aF i (by omega);have hm:=hs _ (Qd hi);have hc:=Gc p f hv t l[i].entry hm;have hi':i<=l.length:=by omega
  have hx:a8 Φ 119 [.slice 5 ((l.map Rw.c).take i),.agg (Entry.c l[i].entry)]=some (.val (.bool ((l.take i).any fun x=>sk x.entry l[i].entry))):=by
   rw [<- DY];exact Hm (l.take i) l[i].entry (by simp;omega) fun x hx=>(hs x (Qu hx)).kl
  simp only [Prg.e,Entry.ce] at hc;rw [Entry.ce] at hx;rw [Prg.e] at h4;by_cases v:entE p t l[i].entry=0
  ·rw [v] at hc;cases w:(l.take i).any fun x=>sk x.entry l[i].entry with
   | true=>
    rw [w] at hx;rw [aJ (x:=(7:Int)) hi (by simp only [rowG,Qa hi,dI];rw [QA (by simp [v]),a9 w])];simp [iO,Rw.ce,h1,h2,h4,h11,hi,hi',hc,hx]
   | false=>
    rw [w] at hx;rw [bP hi (by simp only [rowG,Qa hi,dI];rw [QA (by simp [v]),QA (by rw [w];decide)])];generalize hX:some (Rt.val (a7 ((fe (rowG p t l) l.length (i+1)).getD 0)))=X;simp [iO,Rw.ce,h1,h2,h4,h11,hi,hi',hc,hx,hw];rw [<- hX];exact ih _ _ (Qc _) ⟨by simp [h1],by simp [h2],by simp [h4,Prg.e],by simp⟩
  ·rw [aJ (x:=entE p t l[i].entry) hi (by simp only [rowG,Qa hi,dI];rw [a9 v])];simp [iO,Rw.ce,h1,h2,h4,h11,hi,hc,v]
 ·rintro e n L hL _ ⟨h1,h2,h4,h11⟩;rw [d6];simp [iO,uB,h2,h11,hL]
 ·simp [h1,h2,h4]
theorem Gp (p:Prg) (f:PrgS p) (hv:∀t∈p.Xm,∀v∈t.Yb.args,ok32 0 v) (k:Nat) (hk:k<p.Xm.length) (l:List Rw) (next:Int) (hl:l.length<2^40) (hs:∀r∈l,rowS r):
  a8 Φ 55 [.agg (Prg.c p),a7 k,.slice 5 (l.map Rw.c),a7 next]=some (.val (a7 (if p.Xm[k].size<l.length then 12 else tabK p k l next 0 (ordL l 0)))):=by
 rw [aB rfl rfl];by_cases z:p.Xm[k].size<(l.length:Int)
 ·simp [KO,Prg.e,Tbl.e,hk,z]
 rw [QA z];simp [KO,Prg.e,Tbl.e,hk,z];refine cV l.length (fun _=>[]) 0 (fun i e=>look 1 e=some (a7 k)/\look 2 e=some (.slice 5 (l.map Rw.c))/\look 3 e=some (a7 next)/\look 4 e=some (.iptr 9 [Prg.c p] 0 0)/\look 10 e=some (a7 i)/\∃a:Int,look 9 e=some (a7 a)/\ordL (l.drop i) a=ordL l 0)
  (fun _=>some (Rt.val (a7 (tabK p k l next 0 (ordL l 0))))) ?_ ?_ 0 _ 0 (Qc _) (Qc _) ?_
 ·rintro i e n L hi hL _ ⟨h1,h2,h3,h4,h10,a,h9,ho⟩ ih;have hw:=aF i (by omega);rw [Qi hi] at ho;simp only [ordL] at ho;by_cases y:l[i].id<=a
  ·rw [a9 y] at ho;rw [<- ho];simp [mZ,Rw.ce,h2,h10,h9,hi,y,tabK]
  ·rw [QA y] at ho;generalize hX:some (Rt.val (a7 (tabK p k l next 0 (ordL l 0))))=X;simp [mZ,Rw.ce,h2,h10,h9,hi,y,hw];rw [<- hX];exact ih _ _ (Qc _) ⟨by simp [h1],by simp [h2],by simp [h3],by simp [h4],by simp,l[i].id,by simp,ho⟩
 ·rintro e n L hL _ ⟨h1,h2,h3,h4,h10,a,h9,ho⟩;rw [QB] at ho;simp only [ordL] at ho;rw [<- ho];generalize hX:some (Rt.val (a7 (tabK p k l next 0 (some a))))=X;simp [mZ,h2,h10,hL];rw [<- hX];exact rt_b p f hv k l next hl hs a _ _ (by simp [h1]) (by simp [h2]) (by simp [h3]) (by simp [h4]) (by simp [h9])
 ·simp [Prg.e]
def mxF:List Int->Int->Int
 | [],a=>a
 | x::r,a=>mxF r (max a x)
theorem QM (M:Int):∀(l:List Int) (a:Int),M<mxF l a↔M<a\/∃x∈l,M<x
 | [],a=>by simp [mxF]
 | x::r,a=>by
  have ih:=QM M r (max a x);simp only [mxF,ih,nK,exists_eq_or_imp];constructor
  ·rintro (h | h)
   ·by_cases q:M<a
    ·exact .inl q
    ·exact .inr (.inl (by omega))
   ·exact .inr (.inr h)
  ·rintro (h | h | h)
   ·exact .inl (by omega)
   ·exact .inl (by omega)
   ·exact .inr h
theorem Sa (l:List Int) (h0:0<l.length) (hl:l.length<2^40):a8 Φ 168 [.slice 1 (l.map c32)]=some (.val (.int .u32 (mxF l.tail l[0]))):=by
 rw [aB rfl rfl];have h1:¬(l.length:Int)<1:=by omega
 simp [FL,h0,h1,c32];refine cV l.length (fun _=>[]) 0 (fun i e=>look 0 e=some (.slice 1 (l.map c32))/\look 4 e=some (a7 i)/\∃a:Int,look 3 e=some (.int .u32 a)/\mxF (l.drop i) a=mxF l.tail l[0])
  (fun _=>some (Rt.val (.int .u32 (mxF l.tail l[0])))) ?_ ?_ 1 _ 0 (by omega) (Qc _) ?_
 ·rintro i e n L hi hL _ ⟨h0,h4,a,h3,hm⟩ ih;have hw:=aF i (by omega);rw [Qi hi] at hm;simp only [mxF] at hm;generalize hX:some (Rt.val (AV.int .u32 (mxF l.tail l[0])))=X;simp [pX,c32,h0,h4,h3,hi,hw];rw [<- hX];exact ih _ _ (Qc _) ⟨by simp [h0],by simp,max a l[i],by simp;split<;>omega,hm⟩
 ·rintro e n L hL _ ⟨h0,h4,a,h3,hm⟩;rw [QB] at hm;simp only [mxF] at hm;rw [<- hm];simp [pX,vD,h0,h4,h3,hL]
 ·simp
def szG (p:Prg) (rs:List (List Int)) (i:Nat):Option Int:=match rs[i]?,p.Xl[i]? with
 | some l,some r=>if (l.length:Int)=r.size then none else some 2
 | _,_=>none
def vlG (p:Prg) (rs:List (List Int)) (i:Nat):Option Int:=match rs[i]?,p.Xl[i]? with
 | some l,some r=>if l.any (fun v=>decide (bC r.Yc<v))=true then some 9 else none
 | _,_=>none
def conE (p:Prg) (rs:List (List Int)):Int:=if rs.length≠p.Xl.length then 2 else (fe (szG p rs) rs.length 0).getD ((fe (vlG p rs) rs.length 0).getD 0)
theorem con_b (p:Prg) (f:PrgS p) (rs:List (List Int)) (hl:rs.length<2^40) (hs:∀l∈rs,l.length<2^40) (hz:rs.length=p.Xl.length) (e:Env) (n:Nat)
  (h1:look 1 e=some (.slice 1 (rs.map (cS 1 c32)))) (h2:look 2 e=some (.iptr 9 [Prg.c p] 0 0)):
  go Φ (finP [.tmp 4]) [.c jF] .normal ⟨e,⟨[],n⟩⟩=some (.val (a7 ((fe (vlG p rs) rs.length 0).getD 0))):=by
 simp [jF,h1];refine cV rs.length (fun _=>[]) 0 (fun i e=>look 2 e=some (.iptr 9 [Prg.c p] 0 0)/\look 32 e=some (.slice 1 (rs.map (cS 1 c32)))/\look 33 e=some (a7 rs.length)/\look 34 e=some (a7 i))
  (fun i=>some (Rt.val (a7 ((fe (vlG p rs) rs.length i).getD 0)))) ?_ ?_ 0 _ n (Qc _) (Qc _) ?_
 ·rintro i e n L hi hL _ ⟨h2,h32,h33,h34⟩ ih;have hw:=aF i (by omega);have hi2:i<p.Xl.length:=by omega
  have hm:=nZ p.Xl[i].Yc;rw [Prg.e] at h2;by_cases e0:rs[i].length=0
  ·have e1:rs[i]=[]:=Qg e0;rw [bP hi (by simp [vlG,hi,hi2,e1])];generalize hX:some (Rt.val (a7 ((fe (vlG p rs) rs.length (i+1)).getD 0)))=X;simp [dL,cSe,h32,h33,h34,hi,hw,e1];rw [<- hX];exact ih _ _ (Qc _) ⟨by simp [h2,Prg.e],by simp [h32],by simp [h33],by simp⟩
  have e1:0<rs[i].length:=by omega
  have hx:=Sa rs[i] e1 (hs _ (Qd hi));have hy:rs[i].any (fun v=>decide (bC p.Xl[i].Yc<v))=decide (bC p.Xl[i].Yc<mxF rs[i].tail rs[i][0]):=by
   rw [Bool.eq_iff_iff,decide_eq_true_eq,QM,DX];have hd:rs[i]=rs[i][0]::rs[i].tail:=by
    have:=Qi e1;simpa using this
   constructor
   ·rintro ⟨x,hx,hv⟩;rw [hd] at hx;rcases nK.1 hx with rfl | hx
    ·exact .inl (of_decide_eq_true hv)
    ·exact .inr ⟨x,hx,of_decide_eq_true hv⟩
   ·rintro (h | ⟨x,hx,hv⟩)
    ·exact ⟨_,Qd e1,decide_eq_true h⟩
    ·exact ⟨x,List.mem_of_mem_tail hx,decide_eq_true hv⟩
  by_cases v:bC p.Xl[i].Yc<mxF rs[i].tail rs[i][0]
  ·rw [aJ (x:=(9:Int)) hi (by simp only [vlG,Qa hi,Qa hi2];rw [hy,a9 (decide_eq_true v)])];simp [dL,cSe,Xg.e,h2,h32,h33,h34,hi,hi2,e1,hx,hm,v]
  ·rw [bP hi (by simp only [vlG,Qa hi,Qa hi2];rw [hy,QA (by simpa using v)])];generalize hX:some (Rt.val (a7 ((fe (vlG p rs) rs.length (i+1)).getD 0)))=X;simp [dL,cSe,Xg.e,h2,h32,h33,h34,hi,hi2,e1,hx,hm,v,hw];rw [<- hX];exact ih _ _ (Qc _) ⟨by simp [h2,Prg.e],by simp [h32],by simp [h33],by simp⟩
 ·rintro e n L hL _ ⟨h2,h32,h33,h34⟩;rw [d6];simp [dL,p5,h33,h34,hL]
 ·simp [h2]
theorem Js (p:Prg) (f:PrgS p) (rs:List (List Int)) (hl:rs.length<2^40) (hs:∀l∈rs,l.length<2^40):a8 Φ 101 [.agg (Prg.c p),.slice 1 (rs.map (cS 1 c32))]=some (.val (a7 (conE p rs))):=by
 rw [aB rfl rfl];unfold conE;by_cases z:rs.length=p.Xl.length
 rotate_left
 ·simp [AS,Prg.e,z]
 rw [QA (by simpa using z)];generalize hY:some (Rt.val (a7 ((fe (szG p rs) rs.length 0).getD ((fe (vlG p rs) rs.length 0).getD 0))))=Y;simp [AS,Prg.e,z];rw [<- hY];refine cV rs.length (fun _=>[]) 0 (fun i e=>look 1 e=some (.slice 1 (rs.map (cS 1 c32)))/\look 2 e=some (.iptr 9 [Prg.c p] 0 0)/\look 15 e=some (.slice 1 (rs.map (cS 1 c32)))/\look 16 e=some (a7 rs.length)/\look 17 e=some (a7 i))
  (fun i=>some (Rt.val (a7 ((fe (szG p rs) rs.length i).getD ((fe (vlG p rs) rs.length 0).getD 0))))) ?_ ?_ 0 _ 0 (Qc _) (Qc _) ?_
 ·rintro i e n L hi hL _ ⟨h1,h2,h15,h16,h17⟩ ih;have hw:=aF i (by omega);have hi2:i<p.Xl.length:=by omega
  rw [Prg.e] at h2;by_cases v:(rs[i].length:Int)=p.Xl[i].size
  ·rw [bP hi (by simp [szG,hi,hi2,v])];generalize hX:some (Rt.val (a7 ((fe (szG p rs) rs.length (i+1)).getD ((fe (vlG p rs) rs.length 0).getD 0))))=X;simp [fI,cSe,Xg.e,h2,h15,h16,h17,hi,hi2,v,hw];rw [<- hX];exact ih _ _ (Qc _) ⟨by simp [h1],by simp [h2,Prg.e],by simp [h15],by simp [h16],by simp⟩
  ·rw [aJ (x:=(2:Int)) hi (by simp [szG,hi,hi2,v])];simp [fI,cSe,Xg.e,h2,h15,h16,h17,hi,hi2,v]
 ·rintro e n L hL _ ⟨h1,h2,h15,h16,h17⟩;rw [d6];generalize hX:some (Rt.val (a7 ((none:Option Int).getD ((fe (vlG p rs) rs.length 0).getD 0))))=X;simp [fI,h16,h17,hL];rw [<- hX];exact con_b p f rs hl hs z _ _ (by simp [h1]) (by simp [h2])
 ·simp [Prg.e,z]
def wd (w:Int):Nat:=if wBad w then 0 else w.toNat
theorem wd_le (w:Int):wd w<=32:=by
 unfold wd;cases q:wBad w with
 | true=>simp
 | false=>
  obtain ⟨w1,w2⟩:=wBad_false.1 q;simp;omega
theorem wh (w v:Int):bC w<v↔¬v<2^wd w:=by
 unfold bC wd;cases q:wBad w with
 | true=>simp;omega
 | false=>simp;omega
theorem RA (r:Xg):a8 Φ 123 [.agg (Xg.c r)]=some (.val (a7 (wd r.Yc))):=by
 rw [aB rfl rfl];by_cases h1:r.Yc<1
 ·simp [wO,Xg.e,h1,wd,wBad]
 by_cases h2:32<r.Yc
 ·simp [wO,Xg.e,h1,h2,wd,wBad]
 simp [wO,Xg.e,h1,h2,wd,wBad];omega
theorem Sv (p:Prg) (rs:List (List Int)) (hl:rs.length<2^40) (hs:∀l∈rs,l.length<2^40/\∀v∈l,ok32 0 v) (hz:rs.length=p.Xl.length) (e:Env) (n:Nat)
  (h1:look 1 e=some (.slice 1 (rs.map (cS 1 c32)))) (h2:look 2 e=some (.iptr 9 [Prg.c p] 0 0)):
  go Φ (finP [.tmp 4]) [.c oO] .normal ⟨e,⟨[],n⟩⟩=some (.val (a7 ((fe (vlG p rs) rs.length 0).getD 0))):=by
 simp [oO];refine cV rs.length (fun _=>[]) 0 (fun i e=>look 1 e=some (.slice 1 (rs.map (cS 1 c32)))/\look 2 e=some (.iptr 9 [Prg.c p] 0 0)/\look 6 e=some (a7 i))
  (fun i=>some (Rt.val (a7 ((fe (vlG p rs) rs.length i).getD 0)))) ?_ ?_ 0 _ n (Qc _) (Qc _) ?_
 ·rintro i e n L hi hL _ ⟨h1,h2,h6⟩ ih;have hw:=aF i (by omega);have hi2:i<p.Xl.length:=by omega
  have hm:=hs _ (Qd hi);have hwd:=RA p.Xl[i];simp only [Xg.e] at hwd;have hV:fe (vlG p rs) rs.length i=if rs[i].any (fun v=>decide (bC p.Xl[i].Yc<v))=true then some 9 else fe (vlG p rs) rs.length (i+1):=by
   by_cases y:rs[i].any (fun v=>decide (bC p.Xl[i].Yc<v))=true
   ·rw [a9 y];exact aJ hi (by simp only [vlG,Qa hi,Qa hi2];rw [a9 y])
   ·rw [QA y];exact bP hi (by simp only [vlG,Qa hi,Qa hi2];rw [QA y])
  generalize hX:some (Rt.val (a7 ((fe (vlG p rs) rs.length (i+1)).getD 0)))=X at ih;generalize hY:some (Rt.val (a7 ((fe (vlG p rs) rs.length i).getD 0)))=Y;have hYX:Y=if rs[i].any (fun v=>decide (bC p.Xl[i].Yc<v))=true then some (Rt.val (a7 9)) else X:=by
   rw [<- hY,<- hX,hV];split<;>rfl
  simp [oP,h1,h6,hi];refine (cV rs[i].length (fun _=>[]) 0 (fun j e=>look 1 e=some (.slice 1 (rs.map (cS 1 c32)))/\look 2 e=some (.iptr 9 [Prg.c p] 0 0)/\look 6 e=some (a7 i)/\look 7 e=some (a7 j))
   (fun j=>if (rs[i].drop j).any (fun v=>decide (bC p.Xl[i].Yc<v))=true then some (Rt.val (a7 9)) else X) ?_ ?_ 0 _ n (Qc _) (Qc _) ?_).trans (by rw [hYX,List.drop_zero])
  ·rintro j e n L' hj hL' _ ⟨h1,h2,h6,h7⟩ ih';have hw':=aF j (by omega);have hf:=S5 rs[i][j] (hm.2 _ (Qd hj)) (wd p.Xl[i].Yc) (wd_le _);rw [Prg.e] at h2;rw [Qi hj,DZ];by_cases v:rs[i][j]<2^wd p.Xl[i].Yc
   ·rw [decide_eq_true v] at hf;rw [show decide (bC p.Xl[i].Yc<rs[i][j])=false from decide_eq_false fun h=>(wh _ _).1 h v,KE];generalize hZ:(if (rs[i].drop (j+1)).any (fun v=>decide (bC p.Xl[i].Yc<v))=true then some (Rt.val (a7 9)) else X)=Z;simp [n7,cSe,c32,Xg.e,h1,h2,h6,h7,hi,hi2,hj,hwd,hf,hw'];rw [<- hZ];exact ih' _ _ (Qc _) ⟨by simp [h1],by simp [h2,Prg.e],by simp [h6],by simp⟩
   ·rw [decide_eq_false v] at hf;rw [show decide (bC p.Xl[i].Yc<rs[i][j])=true from decide_eq_true ((wh _ _).2 v),MG,a9 rfl];simp [n7,cSe,c32,Xg.e,h1,h2,h6,h7,hi,hi2,hj,hwd,hf]
  ·rintro e n L' hL' _ ⟨h1,h2,h6,h7⟩;rw [QB,List.any_nil,QA (by decide)];simp [n7,cSe,h1,h6,h7,hi,hL',uC,hw];exact ih _ _ (Qc _) ⟨by simp [h1],by simp [h2],by simp⟩
  ·simp [h1,h2,h6]
 ·rintro e n L hL _ ⟨h1,h2,h6⟩;rw [d6];simp [oP,uD,h1,h6,hL]
 ·simp [h1,h2]
theorem Ga (p:Prg) (rs:List (List Int)) (hl:rs.length<2^40) (hs:∀l∈rs,l.length<2^40/\∀v∈l,ok32 0 v):a8 Φ 57 [.agg (Prg.c p),.slice 1 (rs.map (cS 1 c32))]=some (.val (a7 (conE p rs))):=by
 rw [aB rfl rfl];unfold conE;by_cases z:rs.length=p.Xl.length
 rotate_left
 ·simp [KQ,Prg.e,z]
 rw [QA (by simpa using z)];generalize hY:some (Rt.val (a7 ((fe (szG p rs) rs.length 0).getD ((fe (vlG p rs) rs.length 0).getD 0))))=Y;simp [KQ,Prg.e,z];rw [<- hY];refine cV rs.length (fun _=>[]) 0 (fun i e=>look 1 e=some (.slice 1 (rs.map (cS 1 c32)))/\look 2 e=some (.iptr 9 [Prg.c p] 0 0)/\look 5 e=some (a7 i))
  (fun i=>some (Rt.val (a7 ((fe (szG p rs) rs.length i).getD ((fe (vlG p rs) rs.length 0).getD 0))))) ?_ ?_ 0 _ 0 (Qc _) (Qc _) ?_
 ·rintro i e n L hi hL _ ⟨h1,h2,h5⟩ ih;have hw:=aF i (by omega);have hi2:i<p.Xl.length:=by omega
  rw [Prg.e] at h2;by_cases v:(rs[i].length:Int)=p.Xl[i].size
  ·rw [bP hi (by simp [szG,hi,hi2,v])];generalize hX:some (Rt.val (a7 ((fe (szG p rs) rs.length (i+1)).getD ((fe (vlG p rs) rs.length 0).getD 0))))=X;simp [n6,cSe,Xg.e,h1,h2,h5,hi,hi2,v,hw];rw [<- hX];exact ih _ _ (Qc _) ⟨by simp [h1],by simp [h2,Prg.e],by simp⟩
  ·rw [aJ (x:=(2:Int)) hi (by simp [szG,hi,hi2,v])];simp [n6,cSe,Xg.e,h1,h2,h5,hi,hi2,v]
 ·rintro e n L hL _ ⟨h1,h2,h5⟩;rw [d6];generalize hX:some (Rt.val (a7 ((none:Option Int).getD ((fe (vlG p rs) rs.length 0).getD 0))))=X;simp [n6,h1,h5,hL];rw [<- hX];exact Sv p rs hl hs z _ _ (by simp [h1]) (by simp [h2])
 ·simp [Prg.e]
structure CfgT (a:Xe):Prop where
 rl:a.rows.length<2^40
 rs:∀l∈a.rows,l.length<2^40/\∀r∈l,rowS r
 nl:a.Xq.length<2^40
 dl:a.Xp.length<2^40
 ds:∀d∈a.Xp,d.args.length<2^40/\∀v∈d.args,ok32 0 v
 gl:a.Xl.length<2^40
 gs:∀l∈a.Xl,l.length<2^40/\∀v∈l,ok32 0 v
theorem Na {B:Nat} (hB:B<2^40) {r:Rw} (o:r.Ok B):rowS r:=by
 simp only [Rw.Ok,Entry.Ok,Xb.Ok] at o;obtain ⟨_,o1,_,_,o2⟩:=o;exact ⟨by have:=o1.1;omega,fun m hm=>o1.2 m hm,by have:=o2.1;omega,fun v hv=>o2.2 v hv⟩
theorem Ij {a:Xe} (o:a.Ok oU):CfgT a:=by
 obtain ⟨o0,o1,o2,o3⟩:=o;have e:=EI;refine ⟨by have:=o0.1;omega,?_,by have:=o1.1;omega,by have:=o2.1;omega,?_,by have:=o3.1;omega,?_⟩
 ·intro l hl;have:=o0.2 l hl;exact ⟨by have:=this.1;omega,fun r hr=>Na (by omega) (this.2 r hr)⟩
 ·intro d hd;have:=o2.2 d hd;simp only [Xb.Ok] at this;exact ⟨by have:=this.2.1;omega,fun v hv=>this.2.2 v hv⟩
 ·intro l hl;have:=o3.2 l hl;exact ⟨by have:=this.1;omega,fun v hv=>this.2 v hv⟩
def rowE (p:Prg) (k:Nat) (tb:Tbl) (l:List Rw) (nx:Int) (z:Int):Int:=if tb.size<l.length then 12 else tabK p k l nx z (ordL l 0)
theorem Ul (p:Prg) (t:Int) (l:List Rw) (nx z:Int) (o:Option Int):tabK p t l nx z o=if tabK p t l nx 0 o≠0 then tabK p t l nx 0 o else z:=by
 cases o with
 | none=>simp [tabK]
 | some a=>
  simp only [tabK];by_cases z0:nx<=a
  ·simp [z0]
  by_cases z1:1073741824<nx
  ·simp [z0,z1]
  simp only [QA z0,QA z1];cases q:fe (rowG p t l) l.length 0 with
  | none=>simp
  | some x=>
   have hx:x≠0:=by
    obtain ⟨k,hk,hx⟩:=DC q;simp only [rowG,Qt] at hx;obtain ⟨r,_,hr⟩:=hx;split at hr
    ·cases hr;assumption
    ·split at hr
     ·cases hr;decide
     ·cases hr
   simp [hx]
theorem Ug (p:Prg) (k:Nat) (tb:Tbl) (l:List Rw) (nx z:Int):rowE p k tb l nx z=if rowE p k tb l nx 0≠0 then rowE p k tb l nx 0 else z:=by
 unfold rowE;split
 ·simp
 ·exact Ul _ _ _ _ _ _
def stG (p:Prg) (c:Xe) (k:Nat):Option Int:=match p.Xm[k]?,c.rows[k]?,c.Xq[k]?,c.Xp[k]? with
 | some tb,some l,some nx,some d=>if rowE p k tb l nx (o9 p k d)=0 then none else some (rowE p k tb l nx (o9 p k d))
 | _,_,_,_=>none
def cfgE (p:Prg) (c:Xe):Int:=if (prgD p).1≠0 then (prgD p).1 else if c.rows.length≠p.Xm.length\/c.Xq.length≠p.Xm.length\/c.Xp.length≠p.Xm.length then 2
 else (fe (stG p c) p.Xm.length 0).getD (conE p c.Xl)
theorem Jo (p:Prg) (f:PrgS p) (hc:(pre p.Ya).length<2^40 - 1) (c:Xe) (s:CfgT c):a8 Φ 46 [.agg (Prg.c p),.agg (Xe.c c)]=some (.val (a7 (cfgE p c))):=by
 rw [aB rfl rfl];have h:=qy6 p f hc;simp only [Prg.e,dgC] at h;have ht:=f.t;by_cases z:(prgD p).1=0
 rotate_left
 ·simp [zF,Prg.e,Xe.ce,h,z,cfgE]
 by_cases z1:c.rows.length=p.Xm.length
 rotate_left
 ·simp [zF,Prg.e,Xe.ce,h,z,z1,cfgE]
 by_cases z2:c.Xq.length=p.Xm.length
 rotate_left
 ·simp [zF,Prg.e,Xe.ce,h,z,z1,z2,cfgE]
 by_cases z3:c.Xp.length=p.Xm.length
 rotate_left
 ·simp [zF,Prg.e,Xe.ce,h,z,z1,z2,z3,cfgE]
 rw [show cfgE p c=(fe (stG p c) p.Xm.length 0).getD (conE p c.Xl) by simp [cfgE,z,z1,z2,z3]];simp [zF,Prg.e,Xe.ce,h,z,z1,z2,z3];refine cV p.Xm.length (fun _=>[]) 0 (fun i e=>look 2 e=some (.iptr 9 [Prg.c p] 0 0)/\look 3 e=some (.iptr 4 [Xe.c c] 0 0)/\look 38 e=some (a7 p.Xm.length)/\look 39 e=some (a7 i))
  (fun i=>some (Rt.val (a7 ((fe (stG p c) p.Xm.length i).getD (conE p c.Xl))))) ?_ ?_ 0 _ _ (Qc _) (Qc _) ?_
 ·rintro i e n L hi hL _ ⟨h2,h3,h38,h39⟩ ih;have hw:=aF i (by omega);have i1:i<c.rows.length:=by omega
  have i2:i<c.Xq.length:=by omega
  have i3:i<c.Xp.length:=by omega
  have hr:=s.rs _ (Qd i1);have hd:=s.ds _ (Qd i3);have hk:=Ju p f i hi c.rows[i] c.Xq[i] c.Xp[i] hr.1 hr.2 hd.1;rw [show (if p.Xm[i].size<(c.rows[i].length:Int) then (12:Int) else tabK p i c.rows[i] c.Xq[i] (o9 p i c.Xp[i]) (ordL c.rows[i] 0))=rowE p i p.Xm[i] c.rows[i] c.Xq[i] (o9 p i c.Xp[i]) from rfl] at hk;simp only [Prg.e,Xb.ce] at hk;rw [Prg.e] at h2;rw [Xe.ce] at h3;by_cases v:rowE p i p.Xm[i] c.rows[i] c.Xq[i] (o9 p i c.Xp[i])=0
  ·rw [bP hi (by simp [stG,hi,i1,i2,i3,v])];rw [v] at hk;generalize hX:some (Rt.val (a7 ((fe (stG p c) p.Xm.length (i+1)).getD (conE p c.Xl))))=X;simp [mQ,cSe,cI,Xb.ce,h2,h3,h38,h39,hi,i1,i2,i3,hk,hw];rw [<- hX];exact ih _ _ (Qc _) ⟨by simp [h2,Prg.e],by simp [h3,Xe.ce],by simp [h38],by simp⟩
  ·rw [aJ (x:=rowE p i p.Xm[i] c.rows[i] c.Xq[i] (o9 p i c.Xp[i])) hi (by simp [stG,hi,i1,i2,i3,v])];simp [mQ,cSe,cI,Xb.ce,h2,h3,h38,h39,hi,i1,i2,i3,hk,v]
 ·rintro e n L hL _ ⟨h2,h3,h38,h39⟩;have hk:=Js p f c.Xl s.gl fun l hl=>(s.gs l hl).1
  simp only [Prg.e] at hk;rw [Prg.e] at h2;rw [Xe.ce] at h3;rw [d6];simp [mQ,tW,h2,h3,h38,h39,hL,hk]
 ·simp [Prg.e,Xe.ce]
theorem Fz (p:Prg) (f:PrgS p) (hv:∀t∈p.Xm,∀v∈t.Yb.args,ok32 0 v) (hc:(pre p.Ya).length<2^40 - 1) (c:Xe) (s:CfgT c):a8 Φ 22 [.agg (Prg.c p),.agg (Xe.c c)]=some (.val (a7 (cfgE p c))):=by
 rw [aB rfl rfl];have h:=nu p f hv hc;simp only [Prg.e,dgC] at h;have ht:=f.t;by_cases z:(prgD p).1=0
 rotate_left
 ·simp [zE,Prg.e,Xe.ce,h,z,cfgE]
 by_cases z1:c.rows.length=p.Xm.length
 rotate_left
 ·simp [zE,Prg.e,Xe.ce,h,z,z1,cfgE]
 by_cases z2:c.Xq.length=p.Xm.length
 rotate_left
 ·simp [zE,Prg.e,Xe.ce,h,z,z1,z2,cfgE]
 by_cases z3:c.Xp.length=p.Xm.length
 rotate_left
 ·simp [zE,Prg.e,Xe.ce,h,z,z1,z2,z3,cfgE]
 rw [show cfgE p c=(fe (stG p c) p.Xm.length 0).getD (conE p c.Xl) by simp [cfgE,z,z1,z2,z3]];simp [zE,Prg.e,Xe.ce,h,z,z1,z2,z3];refine cV p.Xm.length (fun _=>[]) 0 (fun i e=>look 2 e=some (.iptr 9 [Prg.c p] 0 0)/\look 3 e=some (.iptr 4 [Xe.c c] 0 0)/\look 5 e=some (a7 p.Xm.length)/\look 6 e=some (a7 i))
  (fun i=>some (Rt.val (a7 ((fe (stG p c) p.Xm.length i).getD (conE p c.Xl))))) ?_ ?_ 0 _ _ (Qc _) (Qc _) ?_
 ·rintro i e n L hi hL _ ⟨h2,h3,h5,h6⟩ ih;have hw:=aF i (by omega);have i1:i<c.rows.length:=by omega
  have i2:i<c.Xq.length:=by omega
  have i3:i<c.Xp.length:=by omega
  have hr:=s.rs _ (Qd i1);have hd:=s.ds _ (Qd i3);have hk:=Gp p f hv i hi c.rows[i] c.Xq[i] hr.1 hr.2;have hq:=Fy p f hv i c.Xp[i] hd.1 hd.2;rw [show (if p.Xm[i].size<(c.rows[i].length:Int) then (12:Int) else tabK p i c.rows[i] c.Xq[i] 0 (ordL c.rows[i] 0))=rowE p i p.Xm[i] c.rows[i] c.Xq[i] 0 from rfl] at hk;simp only [Prg.e,Xb.ce] at hk hq;rw [Prg.e] at h2;rw [Xe.ce] at h3;have hz:=Ug p i p.Xm[i] c.rows[i] c.Xq[i] (o9 p i c.Xp[i]);by_cases v:rowE p i p.Xm[i] c.rows[i] c.Xq[i] 0=0
  ·rw [QA (by simpa using v)] at hz;rw [v] at hk;by_cases w:o9 p i c.Xp[i]=0
   ·rw [bP hi (by simp [stG,hi,i1,i2,i3,w,v])];rw [w] at hq;generalize hX:some (Rt.val (a7 ((fe (stG p c) p.Xm.length (i+1)).getD (conE p c.Xl))))=X;simp [iH,cSe,cI,Xb.ce,h2,h3,h5,h6,hi,i1,i2,i3,hk,hq,hw];rw [<- hX];exact ih _ _ (Qc _) ⟨by simp [h2,Prg.e],by simp [h3,Xe.ce],by simp [h5],by simp⟩
   ·rw [aJ (x:=o9 p i c.Xp[i]) hi (by simp [stG,hi,i1,i2,i3,hz,w])];simp [iH,cSe,cI,Xb.ce,h2,h3,h5,h6,hi,i1,i2,i3,hk,hq,w]
  ·rw [a9 v] at hz;rw [aJ (x:=rowE p i p.Xm[i] c.rows[i] c.Xq[i] 0) hi (by simp [stG,hi,i1,i2,i3,hz,v])];simp [iH,cSe,cI,h2,h3,h5,h6,hi,i1,i2,hk,v]
 ·rintro e n L hL _ ⟨h2,h3,h5,h6⟩;have hk:=Ga p c.Xl s.gl s.gs;simp only [Prg.e] at hk;rw [Prg.e] at h2;rw [Xe.ce] at h3;rw [d6];simp [iH,tQ,h2,h3,h5,h6,hL,hk]
 ·simp [Prg.e,Xe.ce]
structure TabV (p:Prg) (k:Nat) (tb:Tbl) (l:List Rw) (nx:Int) (d:Xb):Prop where
 size:(l.length:Int)<=tb.size
 pos:∀r∈l,0<r.id
 lt:∀r∈l,r.id<nx
 inc:l.Pairwise (fun a b=>a.id<b.id)
 nx0:0<nx
 nx1:nx<=1073741824
 ent:∀r∈l,entE p k r.entry=0
 uniq:l.Pairwise (fun a b=>sk a.entry b.entry=false)
 Yb:o9 p k d=0
theorem uw (nx:Int):∀(l:List Rw) (a:Int),(∃b,ordL l a=some b/\b<nx)↔a<nx/\(∀r∈l,a<r.id/\r.id<nx)/\l.Pairwise (fun a b=>a.id<b.id)
 | [],a=>by simp [ordL]
 | r::l,a=>by
  have ih:=uw nx l r.id;simp only [ordL];by_cases h:r.id<=a
  ·rw [a9 h];constructor
   ·rintro ⟨b,hb,_⟩;cases hb
   ·rintro ⟨_,h2,_⟩;have:=(h2 r (by simp)).1;omega
  ·rw [QA h,ih,TI];constructor
   ·rintro ⟨h1,h2,h3⟩;refine ⟨by omega,?_,fun x hx=>(h2 x hx).1,h3⟩;intro x hx;rcases nK.1 hx with rfl | hx
    ·exact ⟨by omega,h1⟩
    ·have:=h2 x hx;exact ⟨by omega,this.2⟩
   ·rintro ⟨h1,h2,h3,h4⟩;exact ⟨(h2 r (by simp)).2,fun x hx=>⟨h3 x hx,(h2 x (by simp [hx])).2⟩,h4⟩
theorem Bn (p:Prg) (t:Int) (l:List Rw):(∀i,i<l.length->rowG p t l i=none)↔(∀r∈l,entE p t r.entry=0)/\l.Pairwise (fun a b=>sk a.entry b.entry=false):=by
 have key:∀i (hi:i<l.length),rowG p t l i=none↔entE p t l[i].entry=0/\∀j (hj:j<i),sk l[j].entry l[i].entry=false:=by
  intro i hi;simp only [rowG,Qa hi,dI];by_cases h:entE p t l[i].entry=0
  ·rw [QA (by simpa using h)];have:((l.take i).any fun y=>sk y.entry l[i].entry)=true↔¬∀j (hj:j<i),sk l[j].entry l[i].entry=false:=by
    rw [DX];constructor
    ·rintro ⟨y,hy,hs⟩ hc;obtain ⟨j,hj,rfl⟩:=Qn.1 hy;simp at hj;have:=hc j (by omega);simp only [sL] at hs;rw [this] at hs;cases hs
    ·intro hc;simp only [Classical.not_forall] at hc;obtain ⟨j,hj,hs⟩:=hc;refine ⟨l[j],?_,by simpa using hs⟩;rw [List.mem_take_iff_getElem];exact ⟨j,by omega,rfl⟩
   by_cases hu:∀j (hj:j<i),sk l[j].entry l[i].entry=false
   ·rw [QA (by rw [this];exact fun hc=>hc hu)];simp [h];exact hu
   ·rw [a9 (this.2 hu)];simp [h];simpa using hu
  ·rw [a9 h];simp [h]
 constructor
 ·intro h;refine ⟨?_,?_⟩
  ·intro r hr;obtain ⟨i,hi,rfl⟩:=Qn.1 hr;exact ((key i hi).1 (h i hi)).1
  ·rw [WN];intro i j hi hj hij;exact ((key j hj).1 (h j hj)).2 i hij
 ·rintro ⟨h1,h2⟩ i hi;rw [key i hi];refine ⟨h1 _ (Qd hi),?_⟩;intro j hj;exact WN.1 h2 j i (by omega) hi hj
theorem Mz (p:Prg) (t:Int) (l:List Rw) {i:Nat} {x:Int} (h:rowG p t l i=some x):x≠0:=by
 simp only [rowG,Qt] at h;obtain ⟨r,_,hr⟩:=h;split at hr
 ·cases hr;assumption
 ·split at hr
  ·cases hr;decide
  ·cases hr
theorem ud (p:Prg) (k:Nat) (tb:Tbl) (l:List Rw) (nx:Int) (d:Xb):rowE p k tb l nx (o9 p k d)=0↔TabV p k tb l nx d:=by
 have hI:=uw nx l 0;have hG:=Bn p k l;rw [<- fe_all] at hG;unfold rowE;by_cases h:tb.size<(l.length:Int)
 ·rw [a9 h];constructor
  ·intro hc;cases hc
  ·intro hv;have:=hv.size;omega
 rw [QA h];cases ho:ordL l 0 with
 | none=>
  rw [ho] at hI;simp only [tabK];constructor
  ·intro hc;cases hc
  ·intro hv;obtain ⟨b,hb,_⟩:=hI.2 ⟨hv.nx0,fun r hr=>⟨hv.pos r hr,hv.lt r hr⟩,hv.inc⟩;cases hb
 | some a=>
  rw [ho] at hI;simp only [tabK];by_cases h1:nx<=a
  ·rw [a9 h1];constructor
   ·intro hc;cases hc
   ·intro hv;obtain ⟨b,hb,h2⟩:=hI.2 ⟨hv.nx0,fun r hr=>⟨hv.pos r hr,hv.lt r hr⟩,hv.inc⟩;cases hb;omega
  rw [QA h1];have hJ:=hI.1 ⟨a,rfl,by omega⟩;by_cases h2:1073741824<nx
  ·rw [a9 h2];constructor
   ·intro hc;cases hc
   ·intro hv;have:=hv.nx1;omega
  rw [QA h2];cases hf:fe (rowG p k l) l.length 0 with
  | some x=>
   have hx:x≠0:=by
    obtain ⟨i,_,hx⟩:=DC hf;exact Mz p k l hx
   rw [hf] at hG;simp only [nO];constructor
   ·intro hc;exact absurd hc hx
   ·intro hv;have:=hG.2 ⟨hv.ent,hv.uniq⟩;cases this
  | none=>
   have hq:=hG.1 hf;simp only [TN];constructor
   ·intro hc;exact ⟨by omega,fun r hr=>(hJ.2.1 r hr).1,fun r hr=>(hJ.2.1 r hr).2,hJ.2.2,hJ.1,by omega,hq.1,hq.2,hc⟩
   ·intro hv;exact hv.Yb
structure CfgV (p:Prg) (c:Xe):Prop where
 prg:(prgD p).1=0
 rl:c.rows.length=p.Xm.length
 nl:c.Xq.length=p.Xm.length
 dl:c.Xp.length=p.Xm.length
 tab:∀k tb l nx d,p.Xm[k]? =some tb->c.rows[k]? =some l->c.Xq[k]? =some nx->c.Xp[k]? =some d->TabV p k tb l nx d
 con:conE p c.Xl=0
theorem Uj (p:Prg) (c:Xe) {k:Nat} {x:Int} (h:stG p c k=some x):x≠0:=by
 unfold stG at h;split at h
 ·split at h
  ·cases h
  ·cases h;assumption
 ·cases h
theorem SC (p:Prg) (c:Xe):cfgE p c=0↔CfgV p c:=by
 unfold cfgE;by_cases h:(prgD p).1=0
 rotate_left
 ·rw [a9 h];exact ⟨fun hc=>absurd hc h,fun hv=>absurd hv.prg h⟩
 rw [QA (by simpa using h)];by_cases hl:c.rows.length≠p.Xm.length\/c.Xq.length≠p.Xm.length\/c.Xp.length≠p.Xm.length
 ·rw [a9 hl];constructor
  ·intro hc;cases hc
  ·intro hv;have:=hv.rl;have:=hv.nl;have:=hv.dl;omega
 rw [QA hl];have l1:c.rows.length=p.Xm.length:=by omega
 have l2:c.Xq.length=p.Xm.length:=by omega
 have l3:c.Xp.length=p.Xm.length:=by omega
 cases hf:fe (stG p c) p.Xm.length 0 with
 | some x=>
  obtain ⟨k,hk,hx⟩:=DC hf;simp only [nO];constructor
  ·intro hc;exact absurd hc (Uj p c hx)
  ·intro hv;have hq:stG p c k=none:=by
    unfold stG;split
    ·rename_i tb l nx d e1 e2 e3 e4;rw [a9 ((ud p k tb l nx d).2 (hv.tab k tb l nx d e1 e2 e3 e4))]
    ·rfl
   rw [hq] at hx;cases hx
 | none=>
  simp only [TN];have ha:=fe_all.1 hf;constructor
  ·intro hc;refine ⟨h,l1,l2,l3,?_,hc⟩;intro k tb l nx d e1 e2 e3 e4;have hk:=(Qm.1 e1).1;have hq:=ha k hk;simp only [stG,e1,e2,e3,e4] at hq;split at hq
   ·rename_i hz;exact (ud p k tb l nx d).1 hz
   ·cases hq
  ·intro hv;exact hv.con
section
variable {p:Prg} {c:Xe} {k:Nat}
theorem CfgV.at (v:CfgV p c) (h:k<p.Xm.length):TabV p k p.Xm[k] (c.rows[k]'(by rw [v.rl];exact h)) (c.Xq[k]'(by rw [v.nl];exact h)) (c.Xp[k]'(by rw [v.dl];exact h)):=
 v.tab k _ _ _ _ (Qa h) (Qa (by rw [v.rl];exact h)) (Qa (by rw [v.nl];exact h)) (Qa (by rw [v.dl];exact h))
theorem CfgV.upd (v:CfgV p c) (h:k<p.Xm.length) {l:List Rw} {nx:Int} {d:Xb} {R:List (List Rw)} {N:List Int} {D:List Xb}
  (hR:R=c.rows.set k l) (hN:N=c.Xq.set k nx) (hD:D=c.Xp.set k d) (t:TabV p k p.Xm[k] l nx d):CfgV p ⟨R,N,D,c.Xl⟩:=by
 subst hR hN hD;refine ⟨v.prg,by simp [v.rl],by simp [v.nl],by simp [v.dl],?_,v.con⟩;intro j tb l' nx' d' h1 h2 h3 h4;have hl1:=v.rl;have hl2:=v.nl;have hl3:=v.dl;by_cases hj:k=j
 ·subst hj;rw [List.getElem?_set_self (by omega)] at h2 h3 h4;rw [Qa h] at h1;cases h1;cases h2;cases h3;cases h4;exact t
 ·simp only [List.getElem?_set_ne hj] at h2 h3 h4;exact v.tab j _ _ _ _ h1 h2 h3 h4
end
theorem PS {G:Type} {f:G->Option G}:∀{l:List G},(∀x∈l,f x=some x)->mapO f l=some l
 | [],_=>rfl
 | a::l,h=>by
  have h1:=h a (by simp);have h2:=PS (f:=f) (l:=l) fun x hx=>h x (by simp [hx])
  simp only [mapO,h1,h2]
theorem tA {G:Type} {g:G->List AV} {n:Nat} {H:AH} (h:∀x,mapO (snap n H) (g x)=some (g x)) (l:List G):mapO (mapO (snap n H)) (l.map g)=some (l.map g):=by
 refine PS fun x hx=>?_
 obtain ⟨y,_,rfl⟩:=iU.1 hx;exact h y
theorem Tf {n:Nat} {H:AH} (r:Rw):mapO (snap (n+1) H) (Rw.c r)=some (Rw.c r):=by simp [Rw.c]
structure CfgM (O:List (Nat×AO)) (v1 v2 v3 v4:AV) (V:List AV) (c:Xe):Prop where
 r:Mu O 1 v1 (V.map fun v=>[v])
 rl:V.length=c.rows.length
 rv:∀(k:Nat) (v:AV) (l:List Rw),V[k]? =some v->c.rows[k]? =some l->Mu O 5 v (l.map Rw.c)
 n:Mu O 1 v2 (c.Xq.map cI)
 d:Mu O 2 v3 (c.Xp.map Xb.c)
 g:v4= .Xt 1 (c.Xl.map (cS 1 c32))\/∃t,v4= .app 1 (c.Xl.map (cS 1 c32)) t
 rn:∀i,vid v1=some i->vid v2=some i->False
 vi:∀(k k':Nat) (v v':AV) (i:Nat),V[k]? =some v->V[k']? =some v'->vid v=some i->vid v'=some i->k=k'
 va:∀v∈V,∀z es t,v≠ .app z es t
def CfgM.own (v1 v2 v3:AV) (V:List AV) (j:Nat):Prop:=vid v1=some j\/vid v2=some j\/vid v3=some j\/∃v∈V,vid v=some j
theorem CfgM.fr {O O':List (Nat×AO)} {v1 v2 v3 v4:AV} {V:List AV} {c:Xe} (h:CfgM O v1 v2 v3 v4 V c) (hf:∀j,CfgM.own v1 v2 v3 V j->look j O'=look j O):CfgM O' v1 v2 v3 v4 V c:=by
 refine ⟨h.r.fr fun j hj=>hf j (.inl hj),h.rl,?_,h.n.fr fun j hj=>hf j (.inr (.inl hj)),h.d.fr fun j hj=>hf j (.inr (.inr (.inl hj))),h.g,h.rn,h.vi,h.va⟩;intro k v l hv hl;exact (h.rv k v l hv hl).fr fun j hj=>hf j (.inr (.inr (.inr ⟨v,Qe hv,hj⟩)))
@[simp] theorem yh (b x:Bool) (H:AH):DA b H (some (.val (.bool x)))=some (.val (.bool x),H):=by cases b<;>simp
@[simp] theorem yy (b:Bool) (k:IntKind) (x:Int) (H:AH):DA b H (some (.val (.int k x)))=some (.val (.int k x),H):=by cases b<;>simp
def regN (r:Xg):Nat:=if r.size<1\/64<r.size then 0 else r.size.toNat
theorem sq {Ψ:FuncId->Option AFun} {f z bytes:Nat} (hf:Ψ f=some (.rule (DF z bytes .app))) (es:List (List AV)) (hz:jD z es=true) (hb:es.length*bytes<=70368744177664):a8 Ψ f [.slice z es]=some (.val (.slice z es)):=by
 unfold a8;rw [pu Ψ hf];cases es with
 | nil=>simp [DF,lenOf,dF,evR,wI,H0,AH.put]
 | cons x es=>
  simp only [AQ] at hb;simp [DF,lenOf,evR,wI,H0,AH.put,hz,hb]
theorem lj (l:List Int) (h:l.length<2^40):a8 Φ 147 [.slice 1 (l.map c32)]=some (.val (.slice 1 (l.map c32))):=
 sq (bytes:=4) rfl _ (vU 1 c32 l fun x=>by simp [c32]) (by rw [tH];omega)
theorem QL (l:List Xh) (h:l.length<2^40):a8 Φ 97 [.slice 2 (l.map Xh.c)]=some (.val (.slice 2 (l.map Xh.c))):=
 sq (bytes:=8) rfl _ (vU 2 Xh.c l fun x=>by simp [Xh.c]) (by rw [tH];omega)
theorem PR (H:AH):∀l:List Int,mapO (mapO (snap 39 H)) (l.map cI)=some (l.map cI)
 | []=>by simp [mapO]
 | x::l=>by
  have ih:=PR H l;simp only [uP,mapO,ih];simp [cI,mapO]
theorem Pz (l:List Int) (h:l.length<2^40):a8 Φ 96 [.slice 1 (l.map cI)]=some (.val (.slice 1 (l.map cI))):=by
 unfold a8;rw [pu Φ (g:=DF 1 8 .row) rfl];cases l with
 | nil=>simp [DF,lenOf,dF,evR,wI,H0,AH.put]
 | cons x l=>
  have hb:(l.length+1)*8<=70368744177664:=by simp at h;omega
  have hm:=PR ⟨[(0,.row 1 ((x::l).map cI))],1⟩ (x::l);simp [cI] at hm;simp [DF,lenOf,evR,wI,H0,AH.put,hb,cI,hm]
def RegV (T:List (Nat×AO)) (x:AV) (r:Xg):Prop:=(x= .Xt 1 []/\regN r=0)\/∃id,1<=id/\x= .row id 1 0 (regN r)/\look id T=some (.row 1 (List.replicate (regN r) [.int .u32 0]))
inductive RegL (T:List (Nat×AO)):List AV->List Xg->Prop
 | nil:RegL T [] []
 | snoc {A rs x r} (h:RegL T A rs) (hx:RegV T x r):RegL T (A++[x]) (rs++[r])
theorem RegV.app {T:List (Nat×AO)} {x:AV} {r:Xg} (h:RegV T x r) (U:List (Nat×AO)):RegV (T++U) x r:=by
 rcases h with h | ⟨id,h1,h2,h3⟩
 ·exact .inl h
 ·exact .inr ⟨id,h1,h2,by rw [ML,h3];simp⟩
theorem RegL.app {T:List (Nat×AO)} {A:List AV} {rs:List Xg} (h:RegL T A rs) (U:List (Nat×AO)):RegL (T++U) A rs:=by
 induction h with
 | nil=>exact .nil
 | snoc h hx ih=>exact .snoc ih (hx.app U)
theorem RegL.len {T:List (Nat×AO)} {A:List AV} {rs:List Xg} (h:RegL T A rs):A.length=rs.length:=by
 induction h with
 | nil=>rfl
 | snoc h hx ih=>simp [ih]
theorem wg (H:AH) (k:Nat):∀m,mapO (mapO (snap 38 H)) (List.replicate m [AV.int .u32 k])=some (List.replicate m [AV.int .u32 k])
 | 0=>by simp [mapO]
 | m+1=>by
  have ih:=wg H k m;simp only [TG,mapO,ih];simp
theorem ti {G I:Type} (f:G->Option I):∀(l:List G) (x:G) (l':List I) (y:I),mapO f l=some l'->f x=some y->mapO f (l++[x])=some (l'++[y])
 | [],x,l',y,h,hy=>by
  simp [mapO] at h;subst h;simp [mapO,hy]
 | a::l,x,l',y,h,hy=>by
  simp only [mapO] at h;cases hb:f a with
  | none=>rw [hb] at h;cases h
  | some b=>
   rw [hb] at h;cases hm:mapO f l with
   | none=>rw [hm] at h;cases h
   | some m=>
    rw [hm] at h;cases h;have ih:=ti f l x m y hm hy;simp only [oY,mapO,hb,ih]
theorem RegL.snp {T:List (Nat×AO)} {A:List AV} {rs:List Xg} (h:RegL T A rs) (o:AO) (n:Nat):
  mapO (mapO (snap 39 ⟨(0,o)::T,n⟩)) (A.map fun x=>[x])=some (rs.map fun r=>[AV.slice 1 (List.replicate (regN r) [.int .u32 0])]):=by
 induction h with
 | nil=>simp [mapO]
 | snoc h hx ih=>
  rw [yZ,yZ];refine ti _ _ _ _ _ ih ?_;rcases hx with ⟨rfl,h0⟩ | ⟨id,h1,rfl,h3⟩
  ·simp [mapO,h0]
  ·have hi:¬(0=id):=by omega
   have hr:=wg ⟨(0,o)::T,n⟩ 0;simp at hr;simp [mapO,look,hi,h3,hr]
theorem QV {l:List Rw} {i:Nat} {es0:List (List AV)} (hi:i<l.length) (ht:es0.take (l.map Rw.c).length=l.map Rw.c):es0[i]? =some (Rw.c l[i]):=by
 have h:(es0.take (l.map Rw.c).length)[i]? =(l.map Rw.c)[i]? :=by rw [ht]
 rw [List.getElem?_take_of_lt (by simpa using hi)] at h;rw [h];simp [hi]
section
variable {I:Type} {fin:Option (Ex×St)->Option I}
end
section
variable {O O':List (Nat×AO)} {N N' n id:Nat} {X:Nat->Prop} {o y:AO}
theorem Kp.app (h:Kp X N O O') (hn:N<=n):Kp X N O (O'++[(n,o)]):=by
 intro j hj hx;have:¬n=j:=by omega
 rw [aC,h j hj hx];simp [this]
theorem Kp.drop (h:Kp X N O O') (hn:N<=id\/X id):Kp X N O (dropl id O'):=by
 intro j hj hx;rw [jA (by rintro rfl;rcases hn with hn | hn;omega;exact hx hn),h j hj hx]
theorem Kp.setl (h:Kp X N O O') (hn:N<=id\/X id):Kp X N O (setl id y O'):=by
 intro j hj hx;rw [aA,QA (by rintro rfl;rcases hn with hn | hn;omega;exact hx hn),h j hj hx]
theorem Tail.app1 (h:Tail O' N') (hn:N'<=n):Tail (O'++[(n,o)]) (n+1):=by
 rw [Tail_append_iff,Tail_cons_iff];exact ⟨h.mono (by omega),by omega,Tail.nil _⟩
theorem Kp.lk (h:Kp X N O O') (hT:Tail O N) {j:Nat} {x:AO} (hl:look j O=some x) (hx:¬X j):look j O'=some x:=by
 rw [h j (hT.lt hl) hx,hl]
theorem aW {j:Nat} {x y:AO} (h1:look id O=some x) (h2:look j O=some y) (h:x≠y):id≠j:=by
 rintro rfl;rw [h1] at h2;cases h2;exact h rfl
theorem eR {j:Nat} {x:AO} (hT:Tail O N) (h1:look j O=some x) (hn:N<=n):¬j=n/\¬n=j:=by
 have:=hT.lt h1;omega
end
theorem Re.src {O:List (Nat×AO)} {z N:Nat} {v:AV} {es:List (List AV)} (h:Re O z v es):dF ⟨O,N⟩ v=some es:=by
 cases h with
 | sl=>rfl
 | fs=>rfl
 | ap=>rfl
 | row id _ es0 n hn hl hle ht=>
  subst hn;simp [hl,hle,ht]
set_option maxRecDepth 6000
theorem nG (a b:List (Nat×AO)):eT (a++b)=eT a++eT b:=by
 induction a with
 | nil=>simp
 | cons x a ih=>
  obtain ⟨u,w⟩:=x;cases w<;>simp [ih]
def NR (O:List (Nat×AO)):Prop:=eT O=O
theorem NR.app {a b:List (Nat×AO)} (h:NR a) (h2:NR b):NR (a++b):=by
 unfold NR at*;rw [nG,h,h2]
theorem DE:NR []:=rfl
theorem bO {u:Nat} {x:AO} {r:List (Nat×AO)} (hx:x≠ .res) (h:NR r):NR ((u,x)::r):=by
 unfold NR at*;cases x<;>simp_all
theorem NR.one {u:Nat} {x:AO} (hx:x≠ .res):NR [(u,x)]:=bO hx DE
theorem QI {u:Nat} {x:AO} {r:List (Nat×AO)} (h:NR ((u,x)::r)):x≠ .res/\NR r:=by
 have hl:∀l:List (Nat×AO),(eT l).length<=l.length:=by
  intro l
  induction l with
  | nil=>simp
  | cons a l ih=>
   obtain ⟨v,y⟩:=a;cases y<;>simp<;>omega
 unfold NR at*;cases x with
 | res=>
  have:=hl r;rw [ZP] at h;rw [h] at this;simp at this;omega
 | _=>simp at h;exact ⟨by simp,h⟩
theorem NR.setl {t:Nat} {y:AO} (hy:y≠ .res):∀{O:List (Nat×AO)},NR O->NR (setl t y O)
 | [],h=>h
 | (u,x)::r,h=>by
  obtain ⟨h1,h2⟩:=QI h;by_cases q:u=t
  ·subst q;rw [Gv];exact bO hy h2
  ·rw [Bt _ _ _ _ _ q];exact bO h1 (NR.setl hy h2)
theorem NR.sw {O:List (Nat×AO)} (h:NR O) (t z:Nat) (es:List (List AV)):eT (Go.Av.setl t (.row z es) O)=Go.Av.setl t (.row z es) O:=h.setl (by simp)
theorem NR.eq {O:List (Nat×AO)} (h:NR O):eT O=O:=h
theorem NR.dropl {t:Nat}:∀{O:List (Nat×AO)},NR O->NR (dropl t O)
 | [],h=>h
 | (u,x)::r,h=>by
  obtain ⟨h1,h2⟩:=QI h;by_cases q:u=t
  ·subst q;rw [ZJ];exact h2
  ·rw [qb _ _ _ _ q];exact bO h1 (NR.dropl h2)
def EvP (p:Prg) (ps:List Fld) (e:Envt) (args:List Int) (l:List Xd) (id N:Nat) (O:List (Nat×AO)) (v w:Int) (j:Nat) (r:Option (Rt×AH)):Prop:=
 ∃O' N',r=some (.val (.agg [.int .u32 v,a7 w]),⟨O',N'⟩)/\look id O'=some (.row 17 [mchC p ps e args l j])/\Kp (fun j=>j=id) N O O'/\Tail O' N'/\N<=N'/\NR O'
def evlA:Xu:=match eG.body with | .seq a _=>a | c=>c
def evlB:Xu:=match eG.body with | .seq _ (.seq a _)=>a | c=>c
def evlC:Xu:=match eG.body with | .seq _ (.seq _ (.seq a _))=>a | c=>c
def evlR:Xu:=match eG.body with | .seq _ (.seq _ (.seq _ a))=>a | c=>c
theorem Kc:eG.body= .seq evlA (.seq evlB (.seq evlC evlR)):=rfl
section
variable (p:Prg) (ps:List Fld) (e:Envt) (args:List Int) (l:List Xd)
theorem Eb {O:List (Nat×AO)} {N id i:Nat} (hl:l.length<2^40) (hT:Tail O N) (hN:NR O) (hm:look id O=some (.row 17 [mchC p ps e args l i])) (hi:i<l.length) {Q:Option (Rt×AH)->Prop}
  (h:∀E O1,look 0 E=some (.ptr id 17 0 0)->look 2 E=some (.ptr N 2 0 0)->look 3 E=some (.iptr 3 [Xd.c l[i]] 0 0)->look N O1=some (.row 2 [[.int .u32 0,a7 0]])->look id O1=some (.row 17 [mchC p ps e args l (i+1:Nat)])->
   Kp (fun j=>j=id) N O O1->Tail O1 (N+5)->NR O1->Q (go Φ (finC eG.results) [.c evlR] .normal ⟨E,⟨O1,N+5⟩⟩)):
  Q (aG Φ 294 [.ptr id 17 0 0] ⟨O,N⟩):=by
 rw [eQ rfl rfl,Kc];rw [CT] at hm;have t0:=hT N (Qb _);have t1:=hT (N+1) (by omega);have t4:=hT (N+1+3) (by omega);have n4:¬N=N+1+3/\¬N+1+3=N:=by omega
 have n5:¬N+1+3+1=N+1+3/\¬N+1+3=N+1+3+1:=by omega
 have f0:=eR hT hm (Qb N);have f4:=eR (n:=N+1+3) hT hm (by omega);have hw:=aF i (by omega);have hb:(id == N+1+3)=false:=by simp;omega
 have hx:l[i]=⟨l[i].op,l[i].n,l[i].w⟩:=rfl;simp [evlA,evlB,evlC,eG,t0,t1,t4,n4,n5,aC,aA,nG,show eT O=O from hN,hm,hi,Xd.e,f0,f4,hw,hb];refine h _ _ ?_ ?_ ?_ ?_ ?_ ?_ ?_ ?_
 ·simp
 ·simp
 ·simp [Xd.e]
 ·simp [aA,aC,t0,f0]
 ·simp [aA,aC,hm,CT]
 ·exact (Kp.app Kp.refl (Qb _)).setl (.inr rfl)
 ·exact bB ((hT.app1 (Qb _)).mono (by omega))
 ·exact (hN.app (.one (by simp))).setl (by simp)
variable (hg:∀h f,ok32 0 (eGet e h f)) (ha:∀v∈args,ok32 0 v) (hl:l.length<2^40)
include hg ha hl
theorem ev_ok:∀(n i:Nat) (w:Int) (j:Nat),chk p ps l n i= .ok (w,j)->∀(O:List (Nat×AO)) (N id:Nat),Tail O N->NR O->look id O=some (.row 17 [mchC p ps e args l i])->
  EvP p ps e args l id N O (evx p ps l e args n i).1 w j (aG Φ 294 [.ptr id 17 0 0] ⟨O,N⟩)
 | 0,i,w,j,h,O,N,id,hT,hN,hm=>by cases h
 | n+1,i,w,j,h,O,N,id,hT,hN,hm=>by
  have ih:=ev_ok n;simp only [chk] at h;simp only [evx];cases hx:l[i]? with
  | none=>rw [hx] at h;cases h
  | some x=>
  rw [hx] at h;simp only at h ⊢;obtain ⟨hi,hxe⟩:=Qm.1 hx;refine Eb p ps e args l (Q:=EvP p ps e args l id N O _ w j) hl hT hN hm hi fun E O1 h0 h2 h3 hO hm1 hk1 hT1 hN1=>?_
  rw [hxe,Xd.e] at h3;have hidN:id<N:=hT.lt hm;have nid:¬id=N/\¬N=id:=by omega
  have hA:=gb x.op;split at h
  ·cases h
  rename_i a0;split at h
  ·rename_i k0;split at h
   ·rename_i k1;cases h;rw [k0] at hA;have hld:=ld_ok p ps e args l (i+1:Nat) x k0 k1 hg ha;rw [CT] at hld hm1;rw [Xd.e] at hld;rw [a9 k0];simp at hld hm1;simp [evlR,eG,h0,h2,h3,hA,hm1,hld,hO,aA];refine ⟨_,_,rfl,?_,hk1.setl (.inl (Qb _)),bB hT1,by omega,hN1.setl (by simp)⟩;rw [aA,QA nid.1,hm1,CT];simp
   ·cases h
  rename_i k0;rw [QA k0];split at h
  ·cases h
  rename_i a i1 h1;obtain ⟨e1,f1⟩:=CK p ps l e args n (i+1) a i1 h1;rw [e1];split at h
  ·rename_i k1;rw [a9 k1];split at h
   ·rename_i k2;cases h;rw [k1] at hA;obtain ⟨O2,N2,r2,m2,kp2,T2,l2,nr2⟩:=ih (i+1) a j h1 O1 (N+5+1) id (hT1.mono (by omega)) hN1 hm1;have hu:=un_ok x k1 _ a f1 k2;rw [Xd.e] at hu;have hO2:look N O2=some (.row 2 [[.int .u32 0,a7 0]]):=by rw [kp2 N (by omega) (by omega),hO]
    simp [evlR,eG,h0,h2,h3,hA,r2,hu,hO2,aA,nr2.eq,nr2.sw];refine ⟨_,_,rfl,?_,(hk1.trans kp2 (by omega)).setl (.inl (Qb _)),bB T2,by omega,nr2.setl (by simp)⟩;rw [aA,QA nid.1,m2]
   ·cases h
  rename_i k1;rw [QA k1];split at h
  ·cases h
  rename_i b i2 h2';obtain ⟨e2,f2⟩:=CK p ps l e args n i1 b i2 h2';rw [e2];split at h
  ·rename_i k2;rw [a9 k2];split at h
   ·rename_i k3;cases h;rw [k2] at hA;obtain ⟨O2,N2,r2,m2,kp2,T2,l2,nr2⟩:=ih (i+1) a i1 h1 O1 (N+5) id hT1 hN1 hm1;obtain ⟨O3,N3,r3,m3,kp3,T3,l3,nr3⟩:=ih i1 b j h2' O2 (N2+1) id (T2.mono (by omega)) nr2 m2;have hu:=Ou x k2 _ _ a b f1 f2 k3;have hO3:look N O3=some (.row 2 [[.int .u32 0,a7 0]]):=by rw [kp3 N (by omega) (by omega),kp2 N (by omega) (by omega),hO]
    have u2:=T2 N2 (Qb _);have u3:=T3 N3 (Qb _);simp [evlR,eG,h0,h2,h3,hA,r2,r3,hu,hO3,aA,u2,u3];refine ⟨_,_,rfl,?_,((hk1.trans kp2 (by omega)).trans kp3 (by omega)).setl (.inl (Qb _)),bB (T3.mono (by omega)),by omega,nr3.setl (by simp)⟩;rw [aA,QA nid.1,m3]
   ·cases h
  rename_i k2;rw [QA k2];split at h
  ·cases h
  rename_i c i3 h3';obtain ⟨e3,f3⟩:=CK p ps l e args n i2 c i3 h3';rw [e3];split at h
  rotate_left
  ·cases h
  rename_i k3;cases h;have o17:=je a0 k0 k1 k2;rw [o17] at hA;have hA3:ari 17=3:=by decide
  rw [hA3] at hA;rw [o17] at h3;obtain ⟨O2,N2,r2,m2,kp2,T2,l2,nr2⟩:=ih (i+1) a i1 h1 O1 (N+5) id hT1 hN1 hm1;obtain ⟨O3,N3,r3,m3,kp3,T3,l3,nr3⟩:=ih i1 b i2 h2' O2 (N2+1) id (T2.mono (by omega)) nr2 m2;obtain ⟨O4,N4,r4,m4,kp4,T4,l4,nr4⟩:=ih i2 c j h3' O3 (N3+1) id (T3.mono (by omega)) nr3 m3;have hO4:look N O4=some (.row 2 [[.int .u32 0,a7 0]]):=by rw [kp4 N (by omega) (by omega),kp3 N (by omega) (by omega),kp2 N (by omega) (by omega),hO]
  have u2:=T2 N2 (Qb _);have u3:=T3 N3 (Qb _);have u4:=T4 N4 (Qb _);have hcw:(comb x a b c).1=b/\b=c:=by
   unfold comb at*;rw [QA (by omega),QA (by omega),QA (by omega),a9 o17] at k3 ⊢;split
   ·rename_i q;rw [a9 q] at k3;cases k3
   ·exact ⟨rfl,by omega⟩
  rw [hcw.1];have fin:∀y:List AV,y=[.int .u32 (if (evx p ps l e args n (i+1)).1=1 then (evx p ps l e args n i1).1 else (evx p ps l e args n i2).1),a7 b]->EvP p ps e args l id N O (if (evx p ps l e args n (i+1)).1=1 then (evx p ps l e args n i1).1 else (evx p ps l e args n i2).1) b j
    (some (.val (.agg y),⟨setl N (.row 2 [y]) O4,N4+1⟩)):=fun y hy=>by
   rw [hy];refine ⟨_,_,rfl,?_,(((hk1.trans kp2 (by omega)).trans kp3 (by omega)).trans kp4 (by omega)).setl (.inl (Qb _)),bB (T4.mono (by omega)),by omega,nr4.setl (by simp)⟩;rw [aA,QA nid.1,m4]
  by_cases z:(evx p ps l e args n (i+1)).1=1
  ·rw [z] at r2;have:=fin [.int .u32 (evx p ps l e args n i1).1,a7 b] (by rw [a9 z]);simp [evlR,eG,h0,h2,h3,hA,r2,r3,r4,hO4,aA,u2,u3,u4];exact this
  ·have:=fin [.int .u32 (evx p ps l e args n i2).1,a7 c] (by rw [QA z,hcw.2]);simp [evlR,eG,h0,h2,h3,hA,r2,r3,r4,hO4,aA,u2,u3,u4,z];rw [QA z] at this;exact this
end
theorem QR (p:Prg) (ps:List Fld) (e:Envt) (args:List Int) (l:List Xd) (hg:∀h f,ok32 0 (eGet e h f)) (ha:∀v∈args,ok32 0 v):
  a8 Φ 180 [.slice 3 (l.map Xd.c),.agg (scC p ps),.agg e.c,.slice 1 (args.map c32)]=some (.val (.int .u32 (evl p ps l e args))):=by
 rw [aB rfl rfl];have hE:=VT p ps l;unfold evl;simp only [scC,Prg.e,oY,yY] at hE;by_cases z:(exE p ps l).2=0
 ·rw [z] at hE;rw [a9 z];obtain ⟨w,j,hl,hc⟩:∃w j,l.length<=24/\chk p ps l (l.length+1) 0= .ok (w,j):=by
   unfold exE at z;split at z
   ·cases z
   split at z
   ·rename_i x q;exact absurd z (NV p ps l _ _ _ q)
   ·rename_i w i q;exact ⟨w,i,by omega,q⟩
  obtain ⟨O',N',hr,_,_,_,_⟩:=ev_ok p ps e args l hg ha (by omega) (l.length+1) 0 w j hc [(0,.row 17 [mchC p ps e args l (0:Nat)])] 1 0 (Tail_cons_iff.2 ⟨by omega,Tail.nil _⟩) (.one (by simp)) (by simp);rw [CT] at hr;simp at hr;simp [BB,scC,Prg.e,Envt.ce,hE,hr]
 ·rw [QA z];have z':¬(exE p ps l).2=0:=z;simp [BB,scC,Prg.e,Envt.ce,hE,z']
structure RL (O:List (Nat×AO)) (B:Nat) (A:List AV) (L:List (List Int)):Prop where
 len:A.length=L.length
 row:∀(k:Nat) (x:AV) (l:List Int),A[k]? =some x->L[k]? =some l->(l=[]/\x= .Xt 1 [])\/∃id,x= .row id 1 0 l.length/\look id O=some (.row 1 (l.map c32))/\B<=id
 inj:∀(k k' id:Nat) (n n':Nat),A[k]? =some (.row id 1 0 n)->A[k']? =some (.row id 1 0 n')->k=k'
theorem RL.nil {O:List (Nat×AO)} {B:Nat}:RL O B [] []:=⟨rfl,by simp,by simp⟩
theorem RL.fr {O O':List (Nat×AO)} {B:Nat} {A:List AV} {L:List (List Int)} (h:RL O B A L) (hf:∀(j:Nat) (l:List Int),B<=j->look j O=some (.row 1 (l.map c32))->look j O'=some (.row 1 (l.map c32))):RL O' B A L:=by
 refine ⟨h.len,fun k x l hx hl=>?_,h.inj⟩;rcases h.row k x l hx hl with h | ⟨id,h1,h2,h3⟩
 ·exact .inl h
 ·exact .inr ⟨id,h1,hf id _ h3 h2,h3⟩
theorem RL.lt {O:List (Nat×AO)} {B n:Nat} (hT:Tail O n) {A:List AV} {L:List (List Int)} (h:RL O B A L) {k id m:Nat} (hx:A[k]? =some (.row id 1 0 m)):id<n:=by
 have hk:k<A.length:=(Qm.1 hx).1;have hk2:k<L.length:=by rw [<- h.len];exact hk
 rcases h.row k _ _ hx (Qa hk2) with ⟨_,h2⟩ | ⟨id',h1,h2,_⟩
 ·cases h2
 ·cases h1;exact hT.lt h2
theorem RL.snoc {O O':List (Nat×AO)} {B n:Nat} {A:List AV} {L:List (List Int)} (h:RL O B A L) (hT:Tail O n) (hf:∀(j:Nat) (l:List Int),B<=j->look j O=some (.row 1 (l.map c32))->look j O'=some (.row 1 (l.map c32))) {id:Nat} {l:List Int} (hid:n<=id) (hB:B<=id)
  (hl:look id O'=some (.row 1 (l.map c32))):RL O' B (A++[.row id 1 0 l.length]) (L++[l]):=by
 have h':=h.fr hf;refine ⟨by simp [h.len],fun k x y hx hy=>?_,fun k k' i m m' hx hx'=>?_⟩
 ·rw [List.getElem?_append] at hx hy;rw [h.len] at hx;split at hx
  ·rename_i q;rw [a9 q] at hy;exact h'.row k x y hx hy
  ·rename_i q;rw [QA q] at hy;cases hk:k - L.length with
   | zero=>simp [hk] at hx hy;subst hx hy;exact .inr ⟨id,rfl,hl,hB⟩
   | succ j=>simp [hk] at hx
 ·have key:∀j m,(A++[.row id 1 0 l.length])[j]? =some (.row i 1 0 m)->(j<A.length/\i<n)\/(j=A.length/\i=id):=fun j m hj=>by
   rw [List.getElem?_append] at hj;split at hj
   ·rename_i q;exact .inl ⟨q,h.lt hT hj⟩
   ·rename_i q;cases hk:j - A.length with
    | zero=>simp [hk] at hj;exact .inr ⟨by omega,hj.1.symm⟩
    | succ j=>simp [hk] at hj
  rcases key k m hx with ⟨a1,a2⟩ | ⟨a1,a2⟩<;>rcases key k' m' hx' with ⟨b1,b2⟩ | ⟨b1,b2⟩
  ·rw [Ql a1] at hx;rw [Ql b1] at hx';exact h.inj k k' i m m' hx hx'
  ·omega
  ·omega
  ·omega
theorem RL.snoc0 {O O':List (Nat×AO)} {B:Nat} {A:List AV} {L:List (List Int)} (h:RL O B A L) (hf:∀(j:Nat) (l:List Int),B<=j->look j O=some (.row 1 (l.map c32))->look j O'=some (.row 1 (l.map c32))):RL O' B (A++[.Xt 1 []]) (L++[[]]):=by
 have h':=h.fr hf;refine ⟨by simp [h.len],fun k x y hx hy=>?_,fun k k' i m m' hx hx'=>?_⟩
 ·rw [List.getElem?_append] at hx hy;rw [h.len] at hx;split at hx
  ·rename_i q;rw [a9 q] at hy;exact h'.row k x y hx hy
  ·rename_i q;rw [QA q] at hy;cases hk:k - L.length with
   | zero=>simp [hk] at hx hy;subst hx hy;exact .inl ⟨rfl,rfl⟩
   | succ j=>simp [hk] at hx
 ·have key:∀j m,(A++[.Xt 1 []])[j]? =some (.row i 1 0 m)->j<A.length:=fun j m hj=>by
   rw [List.getElem?_append] at hj;split at hj
   ·assumption
   ·rename_i q;cases hk:j - A.length with
    | zero=>simp [hk] at hj
    | succ j=>simp [hk] at hj
  have k1:=key k m hx;have k2:=key k' m' hx';rw [Ql k1] at hx;rw [Ql k2] at hx';exact h.inj k k' i m m' hx hx'
theorem RL.set {O:List (Nat×AO)} {B:Nat} {A:List AV} {L:List (List Int)} (h:RL O B A L) {k id m:Nat} (hx:A[k]? =some (.row id 1 0 m)) (l':List Int) (hl':l'.length=m):RL (setl id (.row 1 (l'.map c32)) O) B A (L.set k l'):=by
 have hk:k<A.length:=(Qm.1 hx).1;have hk2:k<L.length:=by rw [<- h.len];exact hk
 refine ⟨by simp [h.len],fun j x l hj hl=>?_,h.inj⟩;rcases h.row k _ _ hx (Qa hk2) with ⟨_,h2⟩ | ⟨id',h1,h2,h3⟩
 ·cases h2
 cases h1;rw [List.getElem?_set] at hl;split at hl
 ·rename_i q;subst q;cases hl;rw [hx] at hj;cases hj;exact .inr ⟨id,by rw [hl'],by rw [aA,a9 rfl,h2];rfl,h3⟩
 ·rename_i q;rcases h.row j x l hj hl with h | ⟨id2,g1,g2,g3⟩
  ·exact .inl h
  ·refine .inr ⟨id2,g1,?_,g3⟩;have:¬id2=id:=fun e=>q (by subst e;subst g1;exact (h.inj j k id2 _ _ hj hx).symm)
   rw [aA,QA this,g2]
theorem RL.snp {O:List (Nat×AO)} {B N:Nat} (n:Nat) {A:List AV} {L:List (List Int)} (h:RL O B A L):mapO (mapO (snap (n+2) ⟨O,N⟩)) (A.map fun x=>[x])=some (L.map (cS 1 c32)):=by
 have key:∀(A:List AV) (L:List (List Int)),A.length=L.length->(∀(k:Nat) (x:AV) (l:List Int),A[k]? =some x->L[k]? =some l->(l=[]/\x= .Xt 1 [])\/∃id,x= .row id 1 0 l.length/\look id O=some (.row 1 (l.map c32))/\B<=id)->
   mapO (mapO (snap (n+2) ⟨O,N⟩)) (A.map fun x=>[x])=some (L.map (cS 1 c32)):=by
  intro A
  induction A with
  | nil=>
   intro L hl _;cases L with
   | nil=>rfl
   | cons=>cases hl
  | cons x A ih=>
   intro L hl hr;cases L with
   | nil=>cases hl
   | cons l L=>
    have ih:=ih L (by simpa using hl) fun k y z hy hz=>hr (k+1) y z (by simpa using hy) (by simpa using hz)
    have h0:=hr 0 x l rfl rfl;have e:mapO (snap (n+2) ⟨O,N⟩) [x]=some (cS 1 c32 l):=by
     rcases h0 with ⟨rfl,rfl⟩ | ⟨id,rfl,h2,_⟩
     ·simp [mapO,cS]
     ·have:=tA (g:=c32) (n:=n+1) (H:=⟨O,N⟩) (fun x=>by simp [c32]) l;have ht:(l.map c32).take l.length=l.map c32:=Qo (by simp);simp [mapO,cS,h2,this,ht]
    rw [uP,uP,mapO,e];simp only [ih]
 exact key A L h.len h.row
def DupP (N:Nat) (O:List (Nat×AO)) (L:List (List Int)) (r:Option (Rt×AH)):Prop:=
 ∃O' N' A,r=some (.val (.row N 1 0 L.length),⟨O',N'⟩)/\look N O'=some (.row 1 (A.map fun x=>[x]))/\RL O' (N+1) A L/\Kp (fun _=>False) N O O'/\Tail O' N'/\N<N'/\NR O'
theorem Mp {O:List (Nat×AO)} {N:Nat} (hT:Tail O N) (hN:NR O) (L:List (List Int)) (hL:L.length<2^40) (hl:∀l∈L,l.length<2^40):
  DupP N O L (aG Φ 387 [.slice 1 (L.map (cS 1 c32))] ⟨O,N⟩):=by
 rw [eQ rfl rfl];have t0:=hT N (Qb _);have b1:(L.length:Int)<4611686018427387904:=by omega
 have b2:(L.length:Int)*24<=140737488355328:=by omega
 simp [IR,t0,b1,b2];refine cC L.length (fun i e h=>∃O' N' A,h=⟨O',N'⟩/\A.length=i/\look N O'=some (.row 1 ((A++List.replicate (L.length - i) (.Xt 1 [])).map fun x=>[x]))/\RL O' (N+1) A (L.take i)/\Kp (fun _=>False) N O O'/\Tail O' N'/\N<N'/\NR O'/\
  look 3 e=some (.row N 1 0 L.length)/\look 9 e=some (.slice 1 (L.map (cS 1 c32)))/\look 10 e=some (a7 L.length)/\look 11 e=some (a7 i)) (DupP N O L) ?_ ?_ 0 _ _ (Qc _) ?_
 ·rintro i e _ K hi hK ⟨O',N',A,rfl,hA,hl0,hr,hk,hT',hlt,hN',h3,h9,h10,h11⟩ ih;have hw:=aF i (by omega);have t0:=hT' N' (Qb _);have hll:=hl _ (Qd hi);generalize hx:L[i]=x at hll;have b1:(x.length:Int)<4611686018427387904:=by omega
  have b2:(x.length:Int)*4<=140737488355328:=by omega
  have n1:¬N=N'/\¬N'=N:=by omega
  have al:jD 1 (x.map c32)=true:=vU 1 c32 x fun x=>by simp
  have hd:L.length - i=(L.length - (i+1))+1:=by omega
  have hAi:i<A.length+(L.length - i):=by omega
  have hAl:A.length+(L.length - i)=L.length:=by omega
  rw [hd] at hl0;have hcs:(L.map (cS 1 c32))[i]? =some (cS 1 c32 x):=by rw [List.getElem?_map,Qa hi,hx];rfl
  simp [mF,h3,h9,h10,h11,hi,hx,cS,b1,b2,t0,n1,aC,aA,hl0,hA,al,hw];have hlo:∀j y,N+1<=j->look j O'=some y->look j (Go.Av.setl N' (.row 1 (x.map c32)) (Go.Av.setl N (.row 1 (List.map (fun x=>[x]) A++(List.replicate (L.length - (i+1)+1) [AV.Xt 1 []]).set 0 [AV.row N' 1 0 x.length])) (O'++[(N',.row 1 (List.replicate x.length [.int .u32 0]))])))=some y:=fun j y hj hy=>by
   have f:=eR hT' hy (Qb N');have:¬j=N:=by omega
   simp [aA,aC,f,this,hy]
  refine ih _ _ ⟨_,_,A++[.row N' 1 0 x.length],rfl,by simp [hA],?_,?_,?_,?_,by omega,?_,by simp [h3],by simp [h9],by simp [h10],by simp⟩
  ·simp [aA,aC,n1,hl0,TG]
  ·rw [Qh hi,hx];refine hr.snoc hT' (fun j l hj h=>hlo j _ hj h) (Qb _) (by omega) ?_;simp [aA,aC,t0,n1]
  ·refine Kp.setl (Kp.setl (Kp.app hk (by omega)) (.inl (Qb _))) (.inl (by omega))
  ·exact bB (bB (hT'.app1 (Qb _)))
  ·exact ((hN'.app (.one (by simp))).setl (by simp)).setl (by simp)
 ·rintro e _ K hK ⟨O',N',A,rfl,hA,hl0,hr,hk,hT',hlt,hN',h3,h9,h10,h11⟩;simp [mF,rY,h3,h10,h11,hK];refine ⟨O',N',A,rfl,?_,?_,hk,hT',hlt,hN'⟩
  ·simpa using hl0
  ·simpa using hr
 ·refine ⟨_,_,[],rfl,rfl,?_,by simpa using RL.nil,Kp.app Kp.refl (Qb _),hT.app1 (Qb _),by omega,hN.app (.one (by simp)),by simp,by simp,by simp,by simp⟩;simp [aC,t0]
theorem Da {O:List (Nat×AO)} {N:Nat} (hT:Tail O N) (hN:NR O) (L:List (List Int)) (hL:L.length<2^40) (hl:∀l∈L,l.length<2^40):
  DupP N O L (aG Φ 287 [.slice 1 (L.map (cS 1 c32))] ⟨O,N⟩):=by
 rw [eQ rfl rfl];have t0:=hT N (Qb _);have b1:(L.length:Int)<4611686018427387904:=by omega
 have b2:(L.length:Int)*24<=140737488355328:=by omega
 simp [H5,t0,b1,b2];refine cC L.length (fun i e h=>∃O' N' A,h=⟨O',N'⟩/\A.length=i/\look N O'=some (.row 1 ((A++List.replicate (L.length - i) (.Xt 1 [])).map fun x=>[x]))/\RL O' (N+1) A (L.take i)/\Kp (fun _=>False) N O O'/\Tail O' N'/\N<N'/\NR O'/\
  look 3 e=some (.row N 1 0 L.length)/\look 9 e=some (.slice 1 (L.map (cS 1 c32)))/\look 10 e=some (a7 L.length)/\look 11 e=some (a7 i)) (DupP N O L) ?_ ?_ 0 _ _ (Qc _) ?_
 ·rintro i e _ K hi hK ⟨O',N',A,rfl,hA,hl0,hr,hk,hT',hlt,hN',h3,h9,h10,h11⟩ ih;have hw:=aF i (by omega);have t0:=hT' N' (Qb _);have hll:=hl _ (Qd hi);generalize hx:L[i]=x at hll;have b1:(x.length:Int)<4611686018427387904:=by omega
  have b2:(x.length:Int)*4<=140737488355328:=by omega
  have n1:¬N=N'/\¬N'=N:=by omega
  have al:jD 1 (x.map c32)=true:=vU 1 c32 x fun x=>by simp
  have hd:L.length - i=(L.length - (i+1))+1:=by omega
  have hAi:i<A.length+(L.length - i):=by omega
  have hAl:A.length+(L.length - i)=L.length:=by omega
  rw [hd] at hl0;have hcs:(L.map (cS 1 c32))[i]? =some (cS 1 c32 x):=by rw [List.getElem?_map,Qa hi,hx];rfl
  simp [lE,h3,h9,h10,h11,hi,hx,cS,b1,b2,t0,n1,aC,aA,hl0,hA,al,hw];have hlo:∀j y,N+1<=j->look j O'=some y->look j (Go.Av.setl N' (.row 1 (x.map c32)) (Go.Av.setl N (.row 1 (List.map (fun x=>[x]) A++(List.replicate (L.length - (i+1)+1) [AV.Xt 1 []]).set 0 [AV.row N' 1 0 x.length])) (O'++[(N',.row 1 (List.replicate x.length [.int .u32 0]))])))=some y:=fun j y hj hy=>by
   have f:=eR hT' hy (Qb N');have:¬j=N:=by omega
   simp [aA,aC,f,this,hy]
  refine ih _ _ ⟨_,_,A++[.row N' 1 0 x.length],rfl,by simp [hA],?_,?_,?_,?_,by omega,?_,by simp [h3],by simp [h9],by simp [h10],by simp⟩
  ·simp [aA,aC,n1,hl0,TG]
  ·rw [Qh hi,hx];refine hr.snoc hT' (fun j l hj h=>hlo j _ hj h) (Qb _) (by omega) ?_;simp [aA,aC,t0,n1]
  ·refine Kp.setl (Kp.setl (Kp.app hk (by omega)) (.inl (Qb _))) (.inl (by omega))
  ·exact bB (bB (hT'.app1 (Qb _)))
  ·exact ((hN'.app (.one (by simp))).setl (by simp)).setl (by simp)
 ·rintro e _ K hK ⟨O',N',A,rfl,hA,hl0,hr,hk,hT',hlt,hN',h3,h9,h10,h11⟩;simp [lE,r8,h3,h10,h11,hK];refine ⟨O',N',A,rfl,?_,?_,hk,hT',hlt,hN'⟩
  ·simpa using hl0
  ·simpa using hr
 ·refine ⟨_,_,[],rfl,rfl,?_,by simpa using RL.nil,Kp.app Kp.refl (Qb _),hT.app1 (Qb _),by omega,hN.app (.one (by simp)),by simp,by simp,by simp,by simp⟩;simp [aC,t0]
theorem Ip (L:List (List Int)) (hL:L.length<2^40) (hl:∀l∈L,l.length<2^40):a8 Φ 287 [.slice 1 (L.map (cS 1 c32))]=some (.val (.slice 1 (L.map (cS 1 c32)))):=by
 obtain ⟨O',N',A,hr,hl0,hA,_⟩:=Da (O:=[]) (N:=0) (Tail.nil 0) DE L hL hl;have hn:=hA.len;have hs:=hA.snp (N:=N') 37;unfold a8;rw [show H0=⟨[],0⟩ from rfl,hr];have ht:(A.map fun x=>[x]).take L.length=A.map fun x=>[x]:=Qo (by simp [hn])
 simp at hs;simp [wI,hl0,hn,ht,hs]
def hasR (p:Prg) (rs:List (List Int)) (r i:Int):Bool:=match at? p.Xl r,at? rs r with
 | some g,some l=>decide (i<g.size)&&decide (i<l.length)
 | _,_=>false
theorem QX (p:Prg) (rs:List (List Int)) (r i:Int) (hi:ok32 0 i):a8 Φ 386 [.agg (Prg.c p++[.slice 1 (rs.map (cS 1 c32))]),a7 r,.int .u32 i]=some (.val (.bool (hasR p rs r i))):=by
 rw [aB rfl rfl];have hw:IntKind.wrap .i64 i=i:=aQ (by have:=hi.1;omega) (by have:=hi.2;omega);unfold hasR;by_cases h0:r<0
 ·simp [t8,Prg.e,h0,cY h0]
 by_cases h1:(p.Xl.length:Int)<=r
 ·simp [t8,Prg.e,h0,h1,cW h1]
 by_cases h2:(rs.length:Int)<=r
 ·obtain ⟨m,rfl⟩:=f9 (show 0<=r by omega);have hm:m<p.Xl.length:=by omega
  have hm2:¬p.Xl.length<=m:=by omega
  have hm3:rs.length<=m:=by omega
  simp [t8,Prg.e,hm,hm2,hm3]
 obtain ⟨m,rfl⟩:=f9 (show 0<=r by omega);have hm:m<p.Xl.length:=by omega
 have hm2:¬p.Xl.length<=m:=by omega
 have hm3:m<rs.length:=by omega
 have hm4:¬rs.length<=m:=by omega
 by_cases z:i<p.Xl[m].size
 ·simp [t8,Prg.e,Xg.e,hm,hm2,hm3,hm4,hw,z,cS]
 ·simp [t8,Prg.e,Xg.e,hm,hm2,hm3,hm4,hw,z,cS]
theorem UL {p:Prg} {rs:List (List Int)} {r i:Int} (hi:0<=i) (h:hasR p rs r i=true):∃(m k:Nat) (h1:m<p.Xl.length) (h2:m<rs.length) (h3:k<rs[m].length),r=m/\i=k/\i<p.Xl[m].size:=by
 unfold hasR at h;split at h
 ·rename_i g l hg hl;simp only [d7,decide_eq_true_eq] at h;obtain ⟨m,rfl,hm,rfl⟩:=iX hg;obtain ⟨m',e,hm',rfl⟩:=iX hl;have:m=m':=by omega
  subst this;exact ⟨m,i.toNat,hm,hm',by omega,rfl,by omega,h.1⟩
 ·cases h
theorem Ey (p:Prg) (rs:List (List Int)) (r i:Int) (hi:ok32 0 i):a8 Φ 355 [.agg (Prg.c p),.slice 1 (rs.map (cS 1 c32)),a7 r,.int .u32 i]=some (.val (.int .u32 (rGet p rs r i))):=by
 rw [aB rfl rfl];have hh:=QX p rs r i hi;simp only [Prg.e,oY,yY] at hh;cases q:hasR p rs r i with
 | false=>
  have:rGet p rs r i=0:=by
   unfold rGet hasR at*;split
   ·rename_i g l hg hl;rw [hg,hl] at q;simp only [TF,decide_eq_false_iff_not] at q;split
    ·rw [cW (by omega)];rfl
    ·rfl
   ·rfl
  rw [q] at hh;simp [C0,Prg.e,hh,this]
 | true=>
  obtain ⟨m,k,h1,h2,h3,rfl,rfl,h4⟩:=UL hi.1 q;rw [q] at hh;have:rGet p rs m k=rs[m][k]:=by simp [rGet,h1,h2,h3,h4]
  simp [C0,Prg.e,hh,this,h2,h3,cS,c32]
theorem Bs (p:Prg) (rs:List (List Int)) (hL:rs.length<2^40) (hl:∀l∈rs,l.length<2^40) (r i v:Int) (hi:ok32 0 i) (hv:ok32 0 v):a8 Φ 356 [.agg (Prg.c p),.slice 1 (rs.map (cS 1 c32)),a7 r,.int .u32 i,.int .u32 v]=some (.val (.slice 1 ((rSet p rs r i v).map (cS 1 c32)))):=by
 rw [aB rfl rfl];have hh:=QX p rs r i hi;simp only [Prg.e,oY,yY] at hh;obtain ⟨O',N',A,hr,hl0,hA,_,hT,hlt,_⟩:=Mp (O:=[]) (N:=0) (Tail.nil 0) DE rs hL hl;have hn:=hA.len;have ht:(A.map fun x=>[x]).take rs.length=A.map fun x=>[x]:=Qo (by simp [hn])
 cases q:hasR p rs r i with
 | false=>
  have e:rSet p rs r i v=rs:=by
   unfold rSet hasR at*;split
   ·rename_i g l hg hl;rw [hg,hl] at q;simp only [TF,decide_eq_false_iff_not] at q;split
    ·rename_i z;obtain ⟨m,rfl,hm,rfl⟩:=iX hl;have:rs[m].length<=i.toNat:=by omega
     rw [List.set_eq_of_length_le this];simp
    ·rfl
   ·rfl
  rw [q] at hh;have hs:=hA.snp (N:=N') 37;simp at hs;rw [e];simp [yF,Prg.e,hr,hh,hl0,hn,ht,hs]
 | true=>
  obtain ⟨m,k,h1,h2,h3,rfl,rfl,h4⟩:=UL hi.1 q;rw [q] at hh;have hmA:m<A.length:=by omega
  rcases hA.row m _ _ (Qa hmA) (Qa h2) with ⟨z,_⟩ | ⟨id,hx,hlk,hB⟩
  ·rw [z] at h3;simp at h3
  have hxA:A[m]? =some (.row id 1 0 rs[m].length):=by rw [Qa hmA,hx]
  have hid:¬id=0/\¬0=id:=by omega
  have hmk:=nZ p.Xl[m].Yc;cases z:wBad p.Xl[m].Yc with
  | true=>
   have e:rSet p rs m k v=rs:=by simp [rSet,h1,h2,z]
   have hm0:bC p.Xl[m].Yc=0:=by simp [bC,z]
   have hs:=hA.snp (N:=N') 37;simp at hs;rw [hm0] at hmk;rw [e];simp [yF,Prg.e,Xg.e,hr,hh,h1,hmk,hl0,hn,ht,hs]
  | false=>
   have e:rSet p rs m k v=rs.set m (rs[m].set k (v % 2^p.Xl[m].Yc.toNat)):=by simp [rSet,h1,h2,z,h4]
   have hw:=CM z;have hp:=CW (show p.Xl[m].Yc.toNat<=32 by omega);have hm0:0<bC p.Xl[m].Yc:=by
    rw [NL hw.1 hw.2];have:(2:Int)^1<=2^p.Xl[m].Yc.toNat:=by
     rw [<- uS,<- uS];exact MF.2 (AM (by decide) (by omega))
    omega
   have hi2:=w4 hv hw.1 hw.2;have hs':=(hA.set hxA (rs[m].set k (v % 2^p.Xl[m].Yc.toNat)) (by simp)).snp (N:=N') 37;have hst:(rs[m].map c32).set k [AV.int .u32 (v % 2^p.Xl[m].Yc.toNat)]=(rs[m].set k (v % 2^p.Xl[m].Yc.toNat)).map c32:=by rw [uX];simp [c32]
   simp only [Nat.reduceAdd] at hs';have hAm:A[m]? =some (.row id 1 0 rs[m].length):=hxA;rw [e];simp [yF,Prg.e,Xg.e,hr,hh,h1,hmk,hm0,hl0,hn,hx,h2,h3,hlk,aA,hid,hi2];rw [show (c32 rs[m][k]).tail=[] from rfl,hst,ht,hs'];simp
theorem uU {t:Nat} {x y:AO} {L:List (Nat×AO)}:∀{O:List (Nat×AO)},look t O=some x->setl t y (O++L)=setl t y O++L
 | [],h=>by cases h
 | (u,w)::r,h=>by
  by_cases q:u=t
  ·subst q;simp
  ·rw [j9 _ _ _ _ q] at h;simp [q,uU h]
theorem D8 {t:Nat} {x:AO} {L:List (Nat×AO)}:∀{O:List (Nat×AO)},look t O=some x->dropl t (O++L)=dropl t O++L
 | [],h=>by cases h
 | (u,w)::r,h=>by
  by_cases q:u=t
  ·subst q;simp
  ·rw [j9 _ _ _ _ q] at h;simp [q,D8 h]
def NRw (O:List (Nat×AO)) (B:Nat) (X:AV) (es:List (List AV)):Prop:=(es=[]/\X= .Xt 1 [])\/∃id,X= .row id 1 0 es.length/\look id O=some (.row 1 es)/\B<=id/\es≠[]
theorem NRw.fr {O O':List (Nat×AO)} {B:Nat} {X:AV} {es:List (List AV)} (h:NRw O B X es) (hf:∀j,B<=j->look j O=some (.row 1 es)->look j O'=some (.row 1 es)):NRw O' B X es:=by
 rcases h with h | ⟨id,h1,h2,h3,h4⟩
 ·exact .inl h
 ·exact .inr ⟨id,h1,hf id h3 h2,h3,h4⟩
theorem NRw.snp {O:List (Nat×AO)} {B N n:Nat} {X:AV} {es:List (List AV)} (h:NRw O B X es) {es':List (List AV)} (hs:mapO (mapO (snap n ⟨O,N⟩)) es=some es'):snap (n+1) ⟨O,N⟩ X=some (.slice 1 es'):=by
 rcases h with ⟨rfl,rfl⟩ | ⟨id,rfl,h2,_⟩
 ·simp [mapO] at hs;subst hs;simp
 ·simp [h2,hs]
structure EM (O:List (Nat×AO)) (B:Nat) (V F M:AV) (A:List AV) (e:Envt):Prop where
 v:NRw O B V (e.valid.map cB)
 m:NRw O B M (e.metaF.map c32)
 f:NRw O B F (A.map fun x=>[x])
 r:RL O B A e.Xz
 mne:∀(k id n n':Nat),A[k]? =some (.row id 1 0 n)->M≠ .row id 1 0 n'
theorem YD (a:AV) (h:AH):aG Φ 270 [a] h=go Φ (finC wX.results) [.c wX.body] .normal ⟨iP 0 [a],h⟩:=eQ rfl rfl
theorem YE (a:AV) (h:AH):aG Φ 271 [a] h=go Φ (finC wY.results) [.c wY.body] .normal ⟨iP 0 [a],h⟩:=eQ rfl rfl
theorem Ai (l:List Bool):anyL (fun c=> !flat aI c) (l.map cB).flatten=false:=by
 refine ja fun x hx=>?_
 obtain ⟨y,hy,hx⟩:=DV.1 hx;obtain ⟨b,_,rfl⟩:=iU.1 hy;simp [cB] at hx;subst hx;rfl
theorem Aj (l:List Int):anyL (fun c=> !flat aI c) (l.map c32).flatten=false:=by
 refine ja fun x hx=>?_
 obtain ⟨y,hy,hx⟩:=DV.1 hx;obtain ⟨b,_,rfl⟩:=iU.1 hy;simp [c32] at hx;subst hx;rfl
theorem Dd (l:List Bool) (hl:l.length<2^40) (nx:Nat) (H:AH):uT (aG Φ) 270 [.Xt 1 [[.slice 1 (l.map cB)]]] nx H=if l=[] then some (.val (.Xt 1 []),H) else some (.val (.row nx 1 0 l.length),H.put nx (.row 1 (l.map cB))):=by
 have w1:IntKind.wrap .i64 1=1:=rfl;have hb:l.length<=70368744177664:=by omega
 have al:jD 1 (l.map cB)=true:=vU 1 cB l fun x=>by simp
 have hs:mapO (mapO (snap aI ⟨[(0,.row 1 (l.map cB))],1⟩)) (l.map cB)=some (l.map cB):=tA (g:=cB) (fun x=>by simp [cB]) l;unfold uT;rw [show mapO (snap aI H) [AV.Xt 1 [[.slice 1 (l.map cB)]]]=some [AV.slice 1 [[.slice 1 (l.map cB)]]] by simp];simp only;rw [YD];simp [wX];rw [aT];by_cases z:l=[]
 ·subst z;simp [eE,w1];rw [aT];simp [eE,lB]
 ·rw [QA z];simp [eE,w1,z,al,hb];rw [aT];have hf:=Ai l;rw [show aI=40 from rfl] at hs hf;simp [eE,lB,hs,hf]
theorem vw (l:List Int) (hl:l.length<2^40) (nx:Nat) (H:AH):uT (aG Φ) 271 [.Xt 1 [[.slice 1 (l.map c32)]]] nx H=if l=[] then some (.val (.Xt 1 []),H) else some (.val (.row nx 1 0 l.length),H.put nx (.row 1 (l.map c32))):=by
 have w1:IntKind.wrap .i64 1=1:=rfl;have hb:l.length*4<=70368744177664:=by omega
 have al:jD 1 (l.map c32)=true:=vU 1 c32 l fun x=>by simp
 have hs:mapO (mapO (snap aI ⟨[(0,.row 1 (l.map c32))],1⟩)) (l.map c32)=some (l.map c32):=tA (g:=c32) (fun x=>by simp [c32]) l;unfold uT;rw [show mapO (snap aI H) [AV.Xt 1 [[.slice 1 (l.map c32)]]]=some [AV.slice 1 [[.slice 1 (l.map c32)]]] by simp];simp only;rw [YE];simp [wY];rw [aT];by_cases z:l=[]
 ·subst z;simp [eF,w1];rw [aT];simp [eF,lC]
 ·rw [QA z];simp [eF,w1,z,al,hb];rw [aT];have hf:=Aj l;rw [show aI=40 from rfl] at hs hf;simp [eF,lC,hs,hf]
theorem De (l:List Int) (hl:l.length<2^40):a8 Φ 272 [.slice 1 [[.slice 1 (l.map c8)]]]=some (.val (.slice 1 (l.map c8))):=by
 rw [aB rfl rfl];have w1:IntKind.wrap .i64 1=1:=rfl;have hb:l.length<=70368744177664:=by omega
 have al:jD 1 (l.map c8)=true:=vU 1 c8 l fun x=>by simp
 simp [GV];rw [aT];simp [lD,w1,al,hb];rw [aT];simp [lD,r5]
def clR (V F M:AV) (pay:List Int):AV:= .agg [V,F,M,.slice 1 (pay.map c8)]
def ClP (N:Nat) (O:List (Nat×AO)) (e:Envt) (r:Option (Rt×AH)):Prop:=
 ∃O' N' V F M A,r=some (.val (clR V F M e.payload),⟨O',N'⟩)/\EM O' N V F M A e/\Kp (fun _=>False) N O O'/\Tail O' N'/\N<=N'/\NR O'
structure EvS (e:Envt):Prop where
 v:e.valid.length<2^40
 f:e.Xz.length<2^40
 g:∀l∈e.Xz,l.length<2^40
 m:e.metaF.length<2^40
 p:e.payload.length<2^40
def z4:List AV:=[.Xt 1 [],.Xt 1 [],.Xt 1 [],.Xt 1 []]
structure CI (O0:List (Nat×AO)) (N:Nat) (e:Envt) (a b i:Nat) (E:Env) (O':List (Nat×AO)) (N':Nat) (V F M:AV) (A:List AV):Prop where
 e2:look 2 E=some (.ptr a 4 0 0)
 e3:look 3 E=some (.ptr b 4 0 0)
 e20:look 20 E=some (.slice 1 (e.Xz.map (cS 1 c32)))
 e21:look 21 E=some (a7 e.Xz.length)
 e22:look 22 E=some (a7 i)
 la:look a O'=some (.row 4 [z4])
 lb:look b O'=some (.row 4 [[V,F,M,.slice 1 (e.payload.map c8)]])
 v:NRw O' N V (e.valid.map cB)
 m:NRw O' N M (e.metaF.map c32)
 f:NRw O' N F (A.map fun x=>[x])
 r:RL O' N A (e.Xz.take i)
 mne:∀(k id n n':Nat),A[k]? =some (.row id 1 0 n)->M≠ .row id 1 0 n'
 kp:Kp (fun _=>False) N O0 O'
 t:Tail O' N'
 nr:NR O'
 hN:N<=N'
 an:N<=a
 bn:N<=b
theorem RL.head {O:List (Nat×AO)} {B:Nat} {A:List AV} {L:List (List Int)} (h:RL O B A L) {es:List (List AV)} (he:∀x∈es,(∃b,x=[.bool b])\/∃k n,x=[.int k n]) (hA:(A.map fun x=>[x])=es):es=[]:=by
 cases A with
 | nil=>exact hA.symm
 | cons a A=>
  exfalso;subst hA;have h1:=he [a] (by simp);cases L with
  | nil=>have:=h.len;simp at this
  | cons l L=>
   rcases h.row 0 a l rfl rfl with ⟨_,rfl⟩ | ⟨id,rfl,_⟩<;>rcases h1 with ⟨b,h⟩ | ⟨k,n,h⟩<;>simp at h
theorem PC {O0:List (Nat×AO)} {N:Nat} {e:Envt} {a b i:Nat} {E E':Env} {O' O1:List (Nat×AO)} {N':Nat} {V F M X:AV} {A:List AV} {L:List (Nat×AO)} (h:CI O0 N e a b i E O' N' V F M A) (hi:i<e.Xz.length) {x:List Int} (hx:e.Xz[i]=x)
  (hE:∀t,t=2\/t=3\/t=20\/t=21->look t E'=look t E) (hE2:look 22 E'=some (a7 (i+1:Nat)))
  (hb:look b O1=some (.row 4 [[V,.row (N'+32) 1 0 (A.length+1),M,.slice 1 (e.payload.map c8)]]))
  (hk:∀j y,look j O'=some y->j≠b->(∀n,F≠ .row j 1 0 n)->look j O1=some y) (hkp:∀j,j<N->look j O1=look j O') (hT1:Tail O1 N') (hn1:NR O1)
  (hX:(x=[]/\X= .Xt 1 []/\L=[(N'+31,.row 1 [[X]]),(N'+32,.row 1 ((A++[X]).map fun x=>[x]))])\/
   (x≠[]/\X= .row (N'+30) 1 0 x.length/\L=[(N'+30,.row 1 (x.map c32)),(N'+31,.row 1 [[X]]),(N'+32,.row 1 ((A++[X]).map fun x=>[x]))])):
  CI O0 N e a b (i+1) E' (O1++L) (N'+33) V (.row (N'+32) 1 0 (A.length+1)) M (A++[X]):=by
 obtain ⟨e2,e3,e20,e21,e22,la,lb,v,m,f,r,mne,kp,hT,nr,hN,an,bn⟩:=h;have ab:a≠b:=aW la lb (by simp [z4]);have app:∀j y,look j O1=some y->look j (O1++L)=some y:=fun j y h=>by rw [aC,h];rfl
 have key:∀(es:List (List AV)),(∀x∈es,(∃b,x=[.bool b])\/∃k n,x=[.int k n])->∀j,look j O'=some (.row 1 es)->es≠[]->look j (O1++L)=some (.row 1 es):=fun es he j hj hne=>by
  refine app j _ (hk j _ hj (aW hj lb (by simp)) fun n hF=>?_);rcases f with ⟨_,hF2⟩ | ⟨id,hF2,lF,_,_⟩
  ·rw [hF2] at hF;cases hF
  ·rw [hF2] at hF;cases hF;rw [lF] at hj;injection hj with hj
   injection hj with _ hj
   exact hne (r.head he hj)
 have hL2:look (N'+32) (O1++L)=some (.row 1 ((A++[X]).map fun x=>[x])):=by
  rw [aC,hT1 _ (by omega)];rcases hX with ⟨_,_,rfl⟩ | ⟨_,_,rfl⟩<;>simp
 have tk:e.Xz.take (i+1)=e.Xz.take i++[x]:=by rw [Qh hi,hx]
 have rf:∀(j:Nat) (l:List Int),N<=j->look j O'=some (.row 1 (l.map c32))->look j (O1++L)=some (.row 1 (l.map c32)):=fun j l _ hj=>by
  by_cases z:l.map c32=[]
  ·refine app j _ (hk j _ hj (aW hj lb (by simp)) fun n hF=>?_);rcases f with ⟨_,hF2⟩ | ⟨id,hF2,lF,_,hne⟩
   ·rw [hF2] at hF;cases hF
   ·rw [hF2] at hF;cases hF;rw [lF,z] at hj;injection hj with hj
    injection hj with _ hj
    exact hne hj
  ·exact key _ (fun x hx=>by obtain ⟨y,_,rfl⟩:=iU.1 hx;exact .inr ⟨_,_,rfl⟩) j hj z
 refine ⟨by rw [hE 2 (by simp),e2],by rw [hE 3 (by simp),e3],by rw [hE 20 (by simp),e20],by rw [hE 21 (by simp),e21],hE2,?_,app b _ hb,?_,?_,?_,?_,?_,?_,?_,?_,by omega,an,bn⟩
 ·refine app a _ (hk a _ la ab fun n hF=>?_);rcases f with ⟨_,hF2⟩ | ⟨id,hF2,lF,_,_⟩
  ·rw [hF2] at hF;cases hF
  ·rw [hF2] at hF;cases hF;rw [lF] at la;cases la
 ·rcases v with v | ⟨id,h1,h2,h3,h4⟩
  ·exact .inl v
  ·exact .inr ⟨id,h1,key _ (fun x hx=>by obtain ⟨y,_,rfl⟩:=iU.1 hx;exact .inl ⟨_,rfl⟩) id h2 h4,h3,h4⟩
 ·rcases m with m | ⟨id,h1,h2,h3,h4⟩
  ·exact .inl m
  ·exact .inr ⟨id,h1,key _ (fun x hx=>by obtain ⟨y,_,rfl⟩:=iU.1 hx;exact .inr ⟨_,_,rfl⟩) id h2 h4,h3,h4⟩
 ·exact .inr ⟨N'+32,by simp,hL2,by omega,by simp⟩
 ·rw [tk];rcases hX with ⟨rfl,rfl,_⟩ | ⟨_,rfl,rfl⟩
  ·exact r.snoc0 rf
  ·refine r.snoc hT rf (by omega) (by omega) ?_;rw [aC,hT1 _ (by omega)];simp
 ·intro k id n n' hk2 hM;rw [List.getElem?_append] at hk2;split at hk2
  ·exact mne k id n n' hk2 hM
  ·rcases m with ⟨_,hm⟩ | ⟨id',hm,lm,_⟩
   ·rw [hm] at hM;cases hM
   ·rw [hm] at hM;cases hM;have:=hT.lt lm;cases hkk:k - A.length with
    | zero=>
     rw [hkk] at hk2;simp at hk2;rcases hX with ⟨_,rfl,_⟩ | ⟨_,rfl,_⟩
     ·cases hk2
     ·cases hk2;omega
    | succ j=>rw [hkk] at hk2;simp at hk2
 ·intro j hj hx2;rw [aC];have h1:=kp j hj hx2;rw [hkp j hj,h1];cases hz:look j O0 with
  | some y=>rfl
  | none=>
   rcases hX with ⟨_,_,rfl⟩ | ⟨_,_,rfl⟩<;>simp<;>(repeat rw [j9 _ _ _ _ (by omega)])<;>rfl
 ·rcases hX with ⟨_,_,rfl⟩ | ⟨_,_,rfl⟩<;>simp only [Tail_append_iff,Tail_cons_iff]<;>exact ⟨hT1.mono (by omega),by omega,by omega,by first | exact Tail.nil _ | exact ⟨by omega,Tail.nil _⟩⟩
 ·rcases hX with ⟨_,_,rfl⟩ | ⟨_,_,rfl⟩
  ·exact hn1.app (bO (by simp) (.one (by simp)))
  ·exact hn1.app (bO (by simp) (bO (by simp) (.one (by simp))))
theorem Jp {O0:List (Nat×AO)} {N:Nat} {e:Envt} (s:EvS e) {a b:Nat} {E:Env} {O':List (Nat×AO)} {N':Nat} {V F M:AV} {A:List AV} (h:CI O0 N e a b 0 E O' N' V F M A):
  ClP N O0 e (go Φ (finC pZ.results) [.c (.loop bF),.b 0,.c dV] .normal ⟨E,⟨O',N'⟩⟩):=by
 refine cC e.Xz.length (fun i E h=>∃O' N' V F M A,h=⟨O',N'⟩/\CI O0 N e a b i E O' N' V F M A) _ ?_ ?_ 0 _ _ (Qc _) ⟨_,_,_,_,_,_,rfl,h⟩
 ·rintro i E _ K hi hK ⟨O',N',V,F,M,A,rfl,h⟩ ih;have hw:IntKind.wrap .i64 ((i:Int)+1)=((i+1:Nat):Int):=aQ (by omega) (by have:=s.f;omega);have t:∀k,look (N'+k) O'=none:=fun k=>h.t _ (by omega)
  have t0:=h.t N' (Qb _);have h0:=h;obtain ⟨e2,e3,e20,e21,e22,la,lb,v,m,f,r,mne,kp,hT,nr,hN,an,bn⟩:=h;generalize hx:e.Xz[i]=x;have jU:=vw x (by rw [<- hx];exact s.g _ (Qd hi));have fb:=fun k=>eR (n:=N'+k) hT lb (by omega)
  have bq:∀k,(b == N'+k)=false:=fun k=>by have:=fb k;simp;omega
  have hfl:=s.f;have hE:∀(E2:Env),(∀t,t=2\/t=3\/t=20\/t=21->look t E2=look t E)->∀t,t=2\/t=3\/t=20\/t=21->look t E2=look t E:=fun _ h=>h
  rcases f with ⟨hA,rfl⟩ | ⟨id,rfl,lF,hid,hne⟩
  ·have hA':A=[]:=by simpa using hA
   subst hA';have fin:∀{E2:Env} {Y:List AV} {L:List (Nat×AO)} {X:AV},(∀t,t=2\/t=3\/t=20\/t=21->look t E2=look t E)->look 22 E2=some (a7 (i+1:Nat))->Y=[V,.row (N'+32) 1 0 1,M,.slice 1 (e.payload.map c8)]->
     ((x=[]/\X= .Xt 1 []/\L=[(N'+31,.row 1 [[X]]),(N'+32,.row 1 [[X]])])\/(x≠[]/\X= .row (N'+30) 1 0 x.length/\L=[(N'+30,.row 1 (x.map c32)),(N'+31,.row 1 [[X]]),(N'+32,.row 1 [[X]])]))->
     ClP N O0 e (go Φ (finC pZ.results) K .normal ⟨E2,⟨setl b (.row 4 [Y]) O'++L,N'+33⟩⟩):=fun {E2 Y L X} hE hE2 hY hX=>
    ih _ _ ⟨_,_,V,_,M,_,rfl,PC h0 hi hx hE hE2 (by rw [aA,a9 rfl,lb,hY];rfl) (fun j y hj hjb _=>by rw [aA,QA hjb,hj]) (fun j hj=>by rw [aA,QA (by omega)]) (bB hT) (nr.setl (by simp)) hX⟩
   by_cases zx:x=[]
   ·simp [zx] at jU;have hx':=hx;rw [zx] at hx';simp [bF,e2,e3,e20,e21,e22,hi,hx',cS,hw,t0,t,cZ,jU,lb,aC,aA,nG,nr.eq,nr.sw,eY,fb,bq,uU lb];exact fin (by rintro t (rfl | rfl | rfl | rfl)<;>simp) (by simp) rfl (.inl ⟨zx,rfl,rfl⟩)
   ·simp [zx] at jU;simp [bF,e2,e3,e20,e21,e22,hi,hx,cS,hw,t0,t,cZ,jU,lb,aC,aA,nG,nr.eq,nr.sw,eY,fb,bq,uU lb];exact fin (by rintro t (rfl | rfl | rfl | rfl)<;>simp) (by simp) rfl (.inr ⟨zx,rfl,rfl⟩)
  ·have ib:¬id=b/\¬b=id:=by
    have:=aW lF lb (by simp);exact ⟨this,fun e=>this e.symm⟩
   have fi:=fun k=>eR (n:=N'+k) hT lF (by omega)
   have iq:∀k,(id == N'+k)=false:=fun k=>by have:=fi k;simp;omega
   have hb:(A.length+1)*24<=70368744177664:=by have:=r.len;simp at this;omega
   have lb1:look b (dropl id O')=_:=(jA ib.2 O').trans lb;have fin:∀{E2:Env} {Y:List AV} {L:List (Nat×AO)} {X:AV},(∀t,t=2\/t=3\/t=20\/t=21->look t E2=look t E)->look 22 E2=some (a7 (i+1:Nat))->Y=[V,.row (N'+32) 1 0 (A.length+1),M,.slice 1 (e.payload.map c8)]->
     ((x=[]/\X= .Xt 1 []/\L=[(N'+31,.row 1 [[X]]),(N'+32,.row 1 ((A.map fun x=>[x])++[[X]]))])\/(x≠[]/\X= .row (N'+30) 1 0 x.length/\L=[(N'+30,.row 1 (x.map c32)),(N'+31,.row 1 [[X]]),(N'+32,.row 1 ((A.map fun x=>[x])++[[X]]))]))->
     ClP N O0 e (go Φ (finC pZ.results) K .normal ⟨E2,⟨setl b (.row 4 [Y]) (dropl id O')++L,N'+33⟩⟩):=fun {E2 Y L X} hE hE2 hY hX=>
    ih _ _ ⟨_,_,V,_,M,_,rfl,PC h0 hi hx hE hE2 (by rw [aA,a9 rfl,lb1,hY];rfl) (fun j y hj hjb hjF=>by
     have:j≠id:=fun e=>hjF _ (by rw [e])
     rw [aA,QA hjb,jA this,hj]) (fun j hj=>by rw [aA,QA (by omega),jA (by omega)]) (bB (JF hT)) (nr.dropl.setl (by simp)) (by simpa using hX)⟩
   by_cases zx:x=[]
   ·simp [zx] at jU;have hx':=hx;rw [zx] at hx';simp [bF,e2,e3,e20,e21,e22,hi,hx',cS,hw,t0,t,cZ,jU,lb,lF,aC,aA,jA,nG,nr.eq,eY,fb,bq,ib,fi,iq,hb,D8 lF,uU lb1,nr.dropl.sw];exact fin (by rintro t (rfl | rfl | rfl | rfl)<;>simp) (by simp) rfl (.inl ⟨zx,rfl,rfl⟩)
   ·simp [zx] at jU;simp [bF,e2,e3,e20,e21,e22,hi,hx,cS,hw,t0,t,cZ,jU,lb,lF,aC,aA,jA,nG,nr.eq,eY,fb,bq,ib,fi,iq,hb,D8 lF,uU lb1,nr.dropl.sw];exact fin (by rintro t (rfl | rfl | rfl | rfl)<;>simp) (by simp) rfl (.inr ⟨zx,rfl,rfl⟩)
 ·rintro E _ K hK ⟨O',N',V,F,M,A,rfl,h⟩;obtain ⟨e2,e3,e20,e21,e22,la,lb,v,m,f,r,mne,kp,hT,nr,hN,an,bn⟩:=h;rw [fF] at r;have ab:a≠b:=aW la lb (by simp [z4]);have ba:¬b=a:=fun e=>ab e.symm
  rw [z4] at la;simp [pZ,bF,dV,e2,e3,e20,e21,e22,la,lb,aA] at hK ⊢;simp [dV,hK,e2,e3,la,lb,aA];have ne:∀{es:List (List AV)} {j:Nat},look j O'=some (.row 1 es)->look j (setl a (.row 4 [[V,F,M,.slice 1 (e.payload.map c8)]]) O')=some (.row 1 es):=fun {es j} h=>by
   rw [aA,QA (aW h la (by simp)),h]
  exact ⟨_,_,V,F,M,A,rfl,⟨v.fr fun j _ h=>ne h,m.fr fun j _ h=>ne h,f.fr fun j _ h=>ne h,r.fr fun j l _ h=>ne h,mne⟩,kp.setl (.inl an),bB hT,hN,nr.setl (by simp)⟩
theorem dq {O:List (Nat×AO)} {N:Nat} (hT:Tail O N) (hN:NR O) (e:Envt) (s:EvS e):ClP N O e (aG Φ 171 [.agg e.c] ⟨O,N⟩):=by
 rw [eQ rfl rfl];have t:∀k,look (N+k) O=none:=fun k=>hT _ (by omega)
 have t0:=hT N (Qb _);have jB:=Dd e.valid s.v;have jU:=vw e.metaF s.m;have jP:=De e.payload s.p;have bq:∀k,0<k->(N == N+k)=false/\(N+k == N)=false:=fun k hk=>by simp;omega
 have fin:∀{E2:Env} {V M:AV} {x:List AV} {L:List (Nat×AO)},look 2 E2=some (.ptr (N+1) 4 0 0)->look 3 E2=some (.ptr (N+5) 4 0 0)->look 20 E2=some (.slice 1 (e.Xz.map (cS 1 c32)))->look 21 E2=some (a7 e.Xz.length)->look 22 E2=some (a7 (0:Nat))->
   look (N+1) L=some (.row 4 [z4])->look (N+5) L=some (.row 4 [[V,.Xt 1 [],M,.slice 1 (e.payload.map c8)]])->NRw L N V (e.valid.map cB)->NRw L N M (e.metaF.map c32)->(∀j,j<N->look j L=none)->Tail L (N+16)->NR L->
   ClP N O e (go Φ (finC pZ.results) [.c (.loop bF),.b 0,.c dV] .normal ⟨E2,⟨O++L,N+16⟩⟩):=fun {E2 V M x L} h2 h3 h20 h21 h22 hl1 hl5 hv hm hlt hTL hNL=>
  have hw:∀j y,N<=j->look j L=some y->look j (O++L)=some y:=fun j y hj hl=>by rw [aC,hT j hj,hl];rfl
  Jp s (a:=N+1) (b:=N+5) (A:=[]) ⟨h2,h3,h20,h21,h22,hw _ _ (by omega) hl1,hw _ _ (by omega) hl5,hv.fr fun j h1 h2=>hw _ _ h1 h2,hm.fr fun j h1 h2=>hw _ _ h1 h2,.inl ⟨rfl,rfl⟩,by simpa using RL.nil,by simp,fun j hj _=>by
   rw [aC,hlt j hj];simp,Tail_append_iff.2 ⟨hT.mono (by omega),hTL⟩,hN.app hNL,by omega,by omega,by omega⟩
 have lt1:∀{u j:Nat} {y:AO} {r:List (Nat×AO)},j<u->look j r=none->look j ((u,y)::r)=none:=fun {u j y r} h1 h2=>by rw [j9 _ _ _ _ (by omega),h2]
 have ne1:∀k j,j<N->N+k≠j:=fun k j h=>by omega
 have lt6:∀k,k<16->N+k<N+16:=fun k h=>by omega
 by_cases zv:e.valid=[]<;>by_cases zm:e.metaF=[]<;>simp [zv] at jB<;>simp [zm] at jU
 all_goals
  simp [pZ,Envt.ce,t0,t,cZ,zv,zm,jB,jU,jP,aC,aA,nG,hN.eq,eY,bq]
 ·refine fin (V:= .Xt 1 []) (M:= .Xt 1 []) (x:=[]) (by simp) (by simp) (by simp) (by simp) (by simp) (by simp [z4]) (by simp) (.inl ⟨by simp [zv],rfl⟩) (.inl ⟨by simp [zm],rfl⟩) ?_ ?_ ?_
  ·intro j hj
   repeat first | exact N6 _ | refine (j9 _ _ _ _ (ne1 0 _ hj)).trans ?_ | refine (j9 _ _ _ _ (ne1 _ _ hj)).trans ?_
  ·simp only [Tail_cons_iff];exact ⟨lt6 0 (by decide),lt6 1 (by decide),lt6 _ (by decide),Tail.nil _⟩
  ·exact bO (by simp) (bO (by simp) (bO (by simp) (DE)))
 ·refine fin (V:= .Xt 1 []) (M:= .row (N+15) 1 0 e.metaF.length) (x:=[]) (by simp) (by simp) (by simp) (by simp) (by simp) (by simp [z4]) (by simp) (.inl ⟨by simp [zv],rfl⟩) (.inr ⟨N+15,by simp,by simp,by omega,by simpa using zm⟩) ?_ ?_ ?_
  ·intro j hj
   repeat first | exact N6 _ | refine (j9 _ _ _ _ (ne1 0 _ hj)).trans ?_ | refine (j9 _ _ _ _ (ne1 _ _ hj)).trans ?_
  ·simp only [Tail_cons_iff];exact ⟨lt6 0 (by decide),lt6 1 (by decide),lt6 _ (by decide),lt6 _ (by decide),Tail.nil _⟩
  ·exact bO (by simp) (bO (by simp) (bO (by simp) (bO (by simp) (DE))))
 ·refine fin (V:= .row (N+11) 1 0 e.valid.length) (M:= .Xt 1 []) (x:=[]) (by simp) (by simp) (by simp) (by simp) (by simp) (by simp [z4]) (by simp) (.inr ⟨N+11,by simp,by simp,by omega,by simpa using zv⟩) (.inl ⟨by simp [zm],rfl⟩) ?_ ?_ ?_
  ·intro j hj
   repeat first | exact N6 _ | refine (j9 _ _ _ _ (ne1 0 _ hj)).trans ?_ | refine (j9 _ _ _ _ (ne1 _ _ hj)).trans ?_
  ·simp only [Tail_cons_iff];exact ⟨lt6 0 (by decide),lt6 1 (by decide),lt6 _ (by decide),lt6 _ (by decide),Tail.nil _⟩
  ·exact bO (by simp) (bO (by simp) (bO (by simp) (bO (by simp) (DE))))
 ·refine fin (V:= .row (N+11) 1 0 e.valid.length) (M:= .row (N+15) 1 0 e.metaF.length) (x:=[]) (by simp) (by simp) (by simp) (by simp) (by simp) (by simp [z4]) (by simp) (.inr ⟨N+11,by simp,by simp,by omega,by simpa using zv⟩) (.inr ⟨N+15,by simp,by simp,by omega,by simpa using zm⟩) ?_ ?_ ?_
  ·intro j hj
   repeat first | exact N6 _ | refine (j9 _ _ _ _ (ne1 0 _ hj)).trans ?_ | refine (j9 _ _ _ _ (ne1 _ _ hj)).trans ?_
  ·simp only [Tail_cons_iff];exact ⟨lt6 0 (by decide),lt6 1 (by decide),lt6 _ (by decide),lt6 _ (by decide),lt6 _ (by decide),Tail.nil _⟩
  ·exact bO (by simp) (bO (by simp) (bO (by simp) (bO (by simp) (bO (by simp) (DE)))))
end Go.Av
