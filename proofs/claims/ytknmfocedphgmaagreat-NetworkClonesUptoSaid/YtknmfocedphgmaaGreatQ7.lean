/-
 Rows with the key of an entry; calls of a table; on both sides.
-/
import Derived.Test.YtknmfocedphgmaaGreatH1
set_option linter.unusedVariables false
set_option linter.unusedSimpArgs false
set_option linter.constructorNameAsVariable false
namespace Go.Av
set_option maxRecDepth 4000
def eB (p:Prg) (t:Int) (c:Xb):Int:=if tAl p t c.Xz=false then 8 else iC p c
theorem Ec (p:Prg) (f:PrgS p) (t:Int) (c:Xb) (hc:c.args.length<2^40):aA Φ nA [.agg (Prg.c p),a8 t,.agg (Xb.c c)]=some (.val (a8 (eB p t c))):=by
 rw [aD rfl rfl];have ha:=Ky p f t c.Xz;have hk:=Ej p f c hc;simp only [Prg.e,Xb.ce] at ha hk;cases q:tAl p t c.Xz with
 | false=>rw [q] at ha;simp [wH,Prg.e,Xb.ce,ha,eB,q]
 | true=>rw [q] at ha;simp [wH,Prg.e,Xb.ce,ha,hk,eB,q]
theorem Et (p:Prg) (f:PrgS p) (hv:∀t∈p.Xn,∀v∈t.Yc.args,ok32 0 v) (t:Int) (c:Xb) (hc:c.args.length<2^40) (hr:∀v∈c.args,ok32 0 v):aA Φ AA [.agg (Prg.c p),a8 t,.agg (Xb.c c)]=some (.val (a8 (eB p t c))):=by
 rw [aD rfl rfl];have ha:=Jy p f hv t c.Xz;have hk:=QW p f c hc hr;simp only [Prg.e,Xb.ce] at ha hk;cases q:tAl p t c.Xz with
 | false=>rw [q] at ha;simp [HO,Prg.e,Xb.ce,ha,eB,q]
 | true=>rw [q] at ha;simp [HO,Prg.e,Xb.ce,ha,hk,eB,q]
def sk (x y:Entry):Bool:=decide (x.keys=y.keys/\x.Xt=y.Xt)
theorem Rc (x y:Entry) (hb:x.keys.length<2^40):aA Φ n9 [.agg [.slice 2 (x.keys.map Xi.c),a8 x.Xt,a8 x.call.Xz,.slice 1 (x.call.args.map c32)],.agg [.slice 2 (y.keys.map Xi.c),a8 y.Xt,a8 y.call.Xz,.slice 1 (y.call.args.map c32)]]=some (.val (.bool (sk x y))):=qve _ _ _ _ _ _ hb
theorem Bk (x y:Entry) (hb:x.keys.length<2^40):aA Φ nL [.agg [.slice 2 (x.keys.map Xi.c),a8 x.Xt,a8 x.call.Xz,.slice 1 (x.call.args.map c32)],.agg [.slice 2 (y.keys.map Xi.c),a8 y.Xt,a8 y.call.Xz,.slice 1 (y.call.args.map c32)]]=some (.val (.bool (sk x y))):=QK _ _ _ _ _ _ hb
theorem E' (x r:Rw) (hb:x.entry.keys.length<2^40):aA Φ iW [.agg (Rw.c x),.iptr 5 [Rw.c r] 0 0]=some (.val (.bool (sk x.entry r.entry))):=by
 rw [aD rfl rfl];have h:=Rc x.entry r.entry hb;simp [E0,Rw.ce,h]
theorem TP (l:List Rw) (r:Rw) (hl:l.length<2^40) (hs:∀x∈l,x.entry.keys.length<2^40):aA Φ rU [.slice 5 (l.map Rw.c),.func (.func iW) [] [.iptr 5 [Rw.c r] 0 0]]=some (.val (a8 (ix (fun x=>sk x.entry r.entry) l 0))):=by
 rw [aD rfl rfl];simp [wP];refine (iJ l.length (fun i e=>look 0 e=some (.slice 5 (l.map Rw.c))/\look 1 e=some (.func (.func iW) [] [.iptr 5 [Rw.c r] 0 0])/\look 7 e=some (a8 l.length)/\look 8 e=some (a8 i))
  (fun i=>some (.val (a8 (ix (fun x=>sk x.entry r.entry) l i)))) ?_ ?_ 0 _ (Qc _) ?_).trans (by simp)
 ·rintro i e L hi hL ⟨h0,h1,h7,h8⟩ ih;have hw:=aL i (by omega);have hd:=E' l[i] r (hs _ (Qd hi));simp only [Rw.ce] at hd h1;cases z:sk l[i].entry r.entry with
  | true=>
   rw [L9 hi (by simpa using z)];rw [z] at hd;simp [c_188_l0,Rw.ce,h0,h1,h7,h8,hi,hd]
  | false=>
   rw [KO hi (by simpa using z)];rw [z] at hd;simp [c_188_l0,Rw.ce,h0,h1,h7,h8,hi,hd,hw];exact ih _ ⟨by simp [h0],by simp [h1,Rw.ce],by simp [h7],by simp⟩
 ·rintro e L hL ⟨h0,h1,h7,h8⟩;rw [L8];simp [c_188_l0,c_188_k1,h7,h8,hL]
 ·simp
theorem qzq (l:List Rw) (r:Rw) (hl:l.length<2^40) (hs:∀x∈l,x.entry.keys.length<2^40):aA Φ kP [.slice 5 (l.map Rw.c),.func (.func iW) [] [.iptr 5 [Rw.c r] 0 0]]=some (.val (.bool (l.any fun x=>sk x.entry r.entry))):=by
 rw [aD rfl rfl];have h:=TP l r hl hs;rw [<- SD];simp [wG,h]
theorem Nv (l:List Rw) (x:Entry) (hl:l.length<2^40) (hs:∀x∈l,x.entry.keys.length<2^40):aA Φ nC [.slice 5 (l.map Rw.c),.agg (Entry.c x)]=some (.val (.bool (l.any fun y=>sk y.entry x))):=by
 rw [aD rfl rfl];generalize hY:some (Rt.val (AV.bool (l.any fun y=>sk y.entry x)))=Y;simp [E7,Entry.ce];rw [show Y=some (Rt.val (AV.bool ((l.drop 0).any fun y=>sk y.entry x))) by rw [<- hY];simp];refine iJ l.length (fun i e=>look 0 e=some (.slice 5 (l.map Rw.c))/\look 3 e=some (.iptr 4 [Entry.c x] 0 0)/\look 5 e=some (a8 i))
  (fun i=>some (Rt.val (.bool ((l.drop i).any fun y=>sk y.entry x)))) ?_ ?_ 0 _ (Qc _) ?_
 ·rintro i e L hi hL ⟨h0,h3,h5⟩ ih;have hw:=aL i (by omega);have hd:=Bk l[i].entry x (hs _ (Qd hi));rw [Entry.ce] at h3;rw [Qi hi,BV];cases z:sk l[i].entry x with
  | true=>
   rw [z] at hd;rw [JW];simp [c_147_l0,Rw.ce,h0,h3,h5,hi,hd]
  | false=>
   rw [z] at hd;rw [B6];generalize hX:some (Rt.val (AV.bool ((l.drop (i+1)).any fun y=>sk y.entry x)))=X;simp [c_147_l0,Rw.ce,h0,h3,h5,hi,hd,hw];rw [<- hX];exact ih _ ⟨by simp [h0],by simp [h3,Entry.ce],by simp⟩
 ·rintro e L hL ⟨h0,h3,h5⟩;simp [c_147_l0,c_147_k1,h0,h5,hL]
 ·simp [Entry.ce]
def ordL:List Rw->Int->Option Int
 | [],a=>some a
 | r::l,a=>if r.id<=a then none else ordL l r.id
def rowG (p:Prg) (t:Int) (l:List Rw) (i:Nat):Option Int:=(l[i]?).bind fun r=>if entE p t r.entry≠0 then some (entE p t r.entry) else if (l.take i).any (fun y=>sk y.entry r.entry)=true then some 7 else none
def tabK (p:Prg) (t:Int) (l:List Rw) (next:Int) (z:Int):Option Int->Int
 | none=>14
 | some a=>if next<=a then 14 else if 1073741824<next then 14 else (fe (rowG p t l) l.length 0).getD z
def rowS (r:Rw):Prop:=EntS r.entry
theorem ct_b (p:Prg) (f:PrgS p) (t:Int) (l:List Rw) (next:Int) (d:Xb) (hl:l.length<2^40) (hs:∀r∈l,rowS r) (hd:d.args.length<2^40) (a:Int) (ha:0<=a) (e:Env) (n:Nat)
  (h1:look 1 e=some (a8 t)) (h2:look 2 e=some (.slice 5 (l.map Rw.c))) (h3:look 3 e=some (a8 next)) (h5:look 5 e=some (.iptr 9 [Prg.c p] 0 0)) (h9:look 9 e=some (.iptr 2 [Xb.c d] 0 0)) (h11:look 11 e=some (a8 a)):
  go Φ (finP [.tmp 10]) [.c c_81_k3] .normal ⟨e,⟨[],n⟩⟩=some (.val (a8 (tabK p t l next (eB p t d) (some a)))):=by
 unfold tabK;dsimp only;by_cases z0:next<=a
 ·simp [c_81_k3,h3,h11,z0]
 have z1:¬next<1:=by omega
 by_cases z2:1073741824<next
 ·simp [c_81_k3,h3,h11,z0,z1,z2]
 rw [QA z0,QA z2];simp [c_81_k3,h2,h3,h11,z0,z1,z2];refine cZ l.length (fun _=>[]) 0 (fun i e=>look 1 e=some (a8 t)/\look 2 e=some (.slice 5 (l.map Rw.c))/\look 5 e=some (.iptr 9 [Prg.c p] 0 0)/\look 9 e=some (.iptr 2 [Xb.c d] 0 0)/\look 50 e=some (.slice 5 (l.map Rw.c))/\look 51 e=some (a8 l.length)/\look 52 e=some (a8 i))
  (fun i=>some (Rt.val (a8 ((fe (rowG p t l) l.length i).getD (eB p t d))))) ?_ ?_ 0 _ n (Qc _) (Qc _) ?_
 ·rintro i e n L hi hL _ ⟨h1,h2,h5,h9,h50,h51,h52⟩ ih;have hw:=aL i (by omega);have hm:=hs _ (Qd hi);have hc:=Of p f t l[i].entry hm;have hi':i<=l.length:=by omega
  have hx:aA Φ kP [.slice 5 ((l.map Rw.c).take i),.func (.func iW) [] [.iptr 5 [Rw.c l[i]] 0 0]]=some (.val (.bool ((l.take i).any fun x=>sk x.entry l[i].entry))):=by
   rw [<- JU];exact qzq (l.take i) l[i] (by simp;omega) fun x hx=>(hs x (Qu hx)).kl
  simp only [Prg.e,Entry.ce] at hc;rw [Rw.ce] at hx;rw [Prg.e] at h5;by_cases v:entE p t l[i].entry=0
  ·rw [v] at hc;cases w:(l.take i).any fun x=>sk x.entry l[i].entry with
   | true=>
    rw [w] at hx;rw [fB (x:=(7:Int)) hi (by simp only [rowG,Qa hi,qG];rw [QA (by simp [v]),aE w])];simp [c_81_l1,Rw.ce,h1,h2,h5,h50,h51,h52,hi,hi',hc,hx]
   | false=>
    rw [w] at hx;rw [gA hi (by simp only [rowG,Qa hi,qG];rw [QA (by simp [v]),QA (by rw [w];decide)])];generalize hX:some (Rt.val (a8 ((fe (rowG p t l) l.length (i+1)).getD (eB p t d))))=X;simp [c_81_l1,Rw.ce,h1,h2,h5,h50,h51,h52,hi,hi',hc,hx,hw];rw [<- hX];exact ih _ _ (Qc _) ⟨by simp [h1],by simp [h2],by simp [h5,Prg.e],by simp [h9],by simp [h50],by simp [h51],by simp⟩
  ·rw [fB (x:=entE p t l[i].entry) hi (by simp only [rowG,Qa hi,qG];rw [aE v])];simp [c_81_l1,Rw.ce,h1,h5,h50,h51,h52,hi,hc,v]
 ·rintro e n L hL _ ⟨h1,h2,h5,h9,h50,h51,h52⟩;have hk:=Ec p f t d hd;simp only [Prg.e,Xb.ce] at hk;rw [Prg.e] at h5;rw [Xb.ce] at h9;rw [jG];simp [c_81_l1,c_81_k2,h1,h5,h9,h51,h52,hL,hk]
 ·simp [h1,h2,h5,h9]
theorem X8 (p:Prg) (f:PrgS p) (k:Nat) (hk:k<p.Xn.length) (l:List Rw) (next:Int) (d:Xb) (hl:l.length<2^40) (hs:∀r∈l,rowS r) (hd:d.args.length<2^40):
  aA Φ HZ [.agg (Prg.c p),a8 k,.slice 5 (l.map Rw.c),a8 next,.agg (Xb.c d)]=some (.val (a8 (if p.Xn[k].size<l.length then 12 else tabK p k l next (eB p k d) (ordL l 0)))):=by
 rw [aD rfl rfl];by_cases z:p.Xn[k].size<(l.length:Int)
 ·simp [HK,Prg.e,Xb.ce,Tbl.e,hk,z]
 rw [QA z];simp [HK,Prg.e,Xb.ce,Tbl.e,hk,z];refine cZ l.length (fun _=>[]) 0 (fun i e=>look 1 e=some (a8 k)/\look 2 e=some (.slice 5 (l.map Rw.c))/\look 3 e=some (a8 next)/\look 5 e=some (.iptr 9 [Prg.c p] 0 0)/\look 9 e=some (.iptr 2 [Xb.c d] 0 0)/\look 26 e=some (.slice 5 (l.map Rw.c))/\look 27 e=some (a8 l.length)/\look 28 e=some (a8 i)/\∃a:Int,look 11 e=some (a8 a)/\0<=a/\ordL (l.drop i) a=ordL l 0)
  (fun _=>some (Rt.val (a8 (tabK p k l next (eB p k d) (ordL l 0))))) ?_ ?_ 0 _ 0 (Qc _) (Qc _) ?_
 ·rintro i e n L hi hL _ ⟨h1,h2,h3,h5,h9,h26,h27,h28,a,h11,ha,ho⟩ ih;have hw:=aL i (by omega);rw [Qi hi] at ho;simp only [ordL] at ho;by_cases y:l[i].id<=a
  ·rw [aE y] at ho;rw [<- ho];simp [c_81_l0,Rw.ce,h26,h27,h28,h11,hi,y,tabK]
  ·rw [QA y] at ho;generalize hX:some (Rt.val (a8 (tabK p k l next (eB p k d) (ordL l 0))))=X;simp [c_81_l0,Rw.ce,h26,h27,h28,h11,hi,y,hw];rw [<- hX];exact ih _ _ (Qc _) ⟨by simp [h1],by simp [h2],by simp [h3],by simp [h5],by simp [h9],by simp [h26],by simp [h27],by simp,l[i].id,by simp,by omega,ho⟩
 ·rintro e n L hL _ ⟨h1,h2,h3,h5,h9,h26,h27,h28,a,h11,ha,ho⟩;rw [DU] at ho;simp only [ordL] at ho;rw [<- ho];generalize hX:some (Rt.val (a8 (tabK p k l next (eB p k d) (some a))))=X;simp [c_81_l0,h27,h28,hL];rw [<- hX];exact ct_b p f k l next d hl hs hd a ha _ _ (by simp [h1]) (by simp [h2]) (by simp [h3]) (by simp [h5]) (by simp [h9]) (by simp [h11])
 ·simp [Prg.e,Xb.ce]
theorem rt_b (p:Prg) (f:PrgS p) (hv:∀t∈p.Xn,∀v∈t.Yc.args,ok32 0 v) (t:Int) (l:List Rw) (next:Int) (hl:l.length<2^40) (hs:∀r∈l,rowS r) (a:Int) (e:Env) (n:Nat)
  (h1:look 1 e=some (a8 t)) (h2:look 2 e=some (.slice 5 (l.map Rw.c))) (h3:look 3 e=some (a8 next)) (h4:look 4 e=some (.iptr 9 [Prg.c p] 0 0)) (h9:look 9 e=some (a8 a)):
  go Φ (finP [.tmp 8]) [.c c_89_k3] .normal ⟨e,⟨[],n⟩⟩=some (.val (a8 (tabK p t l next 0 (some a)))):=by
 unfold tabK;dsimp only;by_cases z0:next<=a
 ·simp [c_89_k3,h3,h9,z0]
 by_cases z2:1073741824<next
 ·simp [c_89_k3,h3,h9,z0,z2]
 rw [QA z0,QA z2];simp [c_89_k3,h3,h9,z0,z2];refine cZ l.length (fun _=>[]) 0 (fun i e=>look 1 e=some (a8 t)/\look 2 e=some (.slice 5 (l.map Rw.c))/\look 4 e=some (.iptr 9 [Prg.c p] 0 0)/\look 11 e=some (a8 i))
  (fun i=>some (Rt.val (a8 ((fe (rowG p t l) l.length i).getD 0)))) ?_ ?_ 0 _ n (Qc _) (Qc _) ?_
 ·rintro i e n L hi hL _ ⟨h1,h2,h4,h11⟩ ih;have hw:=aL i (by omega);have hm:=hs _ (Qd hi);have hc:=Nj p f hv t l[i].entry hm;have hi':i<=l.length:=by omega
  have hx:aA Φ nC [.slice 5 ((l.map Rw.c).take i),.agg (Entry.c l[i].entry)]=some (.val (.bool ((l.take i).any fun x=>sk x.entry l[i].entry))):=by
   rw [<- JU];exact Nv (l.take i) l[i].entry (by simp;omega) fun x hx=>(hs x (Qu hx)).kl
  simp only [Prg.e,Entry.ce] at hc;rw [Entry.ce] at hx;rw [Prg.e] at h4;by_cases v:entE p t l[i].entry=0
  ·rw [v] at hc;cases w:(l.take i).any fun x=>sk x.entry l[i].entry with
   | true=>
    rw [w] at hx;rw [fB (x:=(7:Int)) hi (by simp only [rowG,Qa hi,qG];rw [QA (by simp [v]),aE w])];simp [c_89_l1,Rw.ce,h1,h2,h4,h11,hi,hi',hc,hx]
   | false=>
    rw [w] at hx;rw [gA hi (by simp only [rowG,Qa hi,qG];rw [QA (by simp [v]),QA (by rw [w];decide)])];generalize hX:some (Rt.val (a8 ((fe (rowG p t l) l.length (i+1)).getD 0)))=X;simp [c_89_l1,Rw.ce,h1,h2,h4,h11,hi,hi',hc,hx,hw];rw [<- hX];exact ih _ _ (Qc _) ⟨by simp [h1],by simp [h2],by simp [h4,Prg.e],by simp⟩
  ·rw [fB (x:=entE p t l[i].entry) hi (by simp only [rowG,Qa hi,qG];rw [aE v])];simp [c_89_l1,Rw.ce,h1,h2,h4,h11,hi,hc,v]
 ·rintro e n L hL _ ⟨h1,h2,h4,h11⟩;rw [jG];simp [c_89_l1,c_89_k2,h2,h11,hL]
 ·simp [h1,h2,h4]
theorem WO (p:Prg) (f:PrgS p) (hv:∀t∈p.Xn,∀v∈t.Yc.args,ok32 0 v) (k:Nat) (hk:k<p.Xn.length) (l:List Rw) (next:Int) (hl:l.length<2^40) (hs:∀r∈l,rowS r):
  aA Φ I2 [.agg (Prg.c p),a8 k,.slice 5 (l.map Rw.c),a8 next]=some (.val (a8 (if p.Xn[k].size<l.length then 12 else tabK p k l next 0 (ordL l 0)))):=by
 rw [aD rfl rfl];by_cases z:p.Xn[k].size<(l.length:Int)
 ·simp [HM,Prg.e,Tbl.e,hk,z]
 rw [QA z];simp [HM,Prg.e,Tbl.e,hk,z];refine cZ l.length (fun _=>[]) 0 (fun i e=>look 1 e=some (a8 k)/\look 2 e=some (.slice 5 (l.map Rw.c))/\look 3 e=some (a8 next)/\look 4 e=some (.iptr 9 [Prg.c p] 0 0)/\look 10 e=some (a8 i)/\∃a:Int,look 9 e=some (a8 a)/\ordL (l.drop i) a=ordL l 0)
  (fun _=>some (Rt.val (a8 (tabK p k l next 0 (ordL l 0))))) ?_ ?_ 0 _ 0 (Qc _) (Qc _) ?_
 ·rintro i e n L hi hL _ ⟨h1,h2,h3,h4,h10,a,h9,ho⟩ ih;have hw:=aL i (by omega);rw [Qi hi] at ho;simp only [ordL] at ho;by_cases y:l[i].id<=a
  ·rw [aE y] at ho;rw [<- ho];simp [c_89_l0,Rw.ce,h2,h10,h9,hi,y,tabK]
  ·rw [QA y] at ho;generalize hX:some (Rt.val (a8 (tabK p k l next 0 (ordL l 0))))=X;simp [c_89_l0,Rw.ce,h2,h10,h9,hi,y,hw];rw [<- hX];exact ih _ _ (Qc _) ⟨by simp [h1],by simp [h2],by simp [h3],by simp [h4],by simp,l[i].id,by simp,ho⟩
 ·rintro e n L hL _ ⟨h1,h2,h3,h4,h10,a,h9,ho⟩;rw [DU] at ho;simp only [ordL] at ho;rw [<- ho];generalize hX:some (Rt.val (a8 (tabK p k l next 0 (some a))))=X;simp [c_89_l0,h2,h10,hL];rw [<- hX];exact rt_b p f hv k l next hl hs a _ _ (by simp [h1]) (by simp [h2]) (by simp [h3]) (by simp [h4]) (by simp [h9])
 ·simp [Prg.e]
def mxF:List Int->Int->Int
 | [],a=>a
 | x::r,a=>mxF r (max a x)
theorem MZ (M:Int):∀(l:List Int) (a:Int),M<mxF l a↔M<a\/∃x∈l,M<x
 | [],a=>by simp [mxF]
 | x::r,a=>by
  have ih:=MZ M r (max a x);simp only [mxF,ih,fJ,exists_eq_or_imp];constructor
  ·rintro (h | h)
   ·by_cases q:M<a
    ·exact .inl q
    ·exact .inr (.inl (by omega))
   ·exact .inr (.inr h)
  ·rintro (h | h | h)
   ·exact .inl (by omega)
   ·exact .inl (by omega)
   ·exact .inr h
theorem Ax (l:List Int) (h0:0<l.length) (hl:l.length<2^40):aA Φ yM [.slice 1 (l.map c32)]=some (.val (.int .u32 (mxF l.tail l[0]))):=by
 rw [aD rfl rfl];have h1:¬(l.length:Int)<1:=by omega
 simp [E3,h0,h1,c32];refine cZ l.length (fun _=>[]) 0 (fun i e=>look 0 e=some (.slice 1 (l.map c32))/\look 4 e=some (a8 i)/\∃a:Int,look 3 e=some (.int .u32 a)/\mxF (l.drop i) a=mxF l.tail l[0])
  (fun _=>some (Rt.val (.int .u32 (mxF l.tail l[0])))) ?_ ?_ 1 _ 0 (by omega) (Qc _) ?_
 ·rintro i e n L hi hL _ ⟨h0,h4,a,h3,hm⟩ ih;have hw:=aL i (by omega);rw [Qi hi] at hm;simp only [mxF] at hm;generalize hX:some (Rt.val (AV.int .u32 (mxF l.tail l[0])))=X;simp [c_132_l0,c32,h0,h4,h3,hi,hw];rw [<- hX];exact ih _ _ (Qc _) ⟨by simp [h0],by simp,max a l[i],by simp;split<;>omega,hm⟩
 ·rintro e n L hL _ ⟨h0,h4,a,h3,hm⟩;rw [DU] at hm;simp only [mxF] at hm;rw [<- hm];simp [c_132_l0,c_132_k1,h0,h4,h3,hL]
 ·simp
def szG (p:Prg) (rs:List (List Int)) (i:Nat):Option Int:=match rs[i]?,p.Xm[i]? with
 | some l,some r=>if (l.length:Int)=r.size then none else some 2
 | _,_=>none
def vlG (p:Prg) (rs:List (List Int)) (i:Nat):Option Int:=match rs[i]?,p.Xm[i]? with
 | some l,some r=>if l.any (fun v=>decide (fC r.Yd<v))=true then some 9 else none
 | _,_=>none
def conE (p:Prg) (rs:List (List Int)):Int:=if rs.length≠p.Xm.length then 2 else (fe (szG p rs) rs.length 0).getD ((fe (vlG p rs) rs.length 0).getD 0)
theorem con_b (p:Prg) (f:PrgS p) (rs:List (List Int)) (hl:rs.length<2^40) (hs:∀l∈rs,l.length<2^40) (hz:rs.length=p.Xm.length) (e:Env) (n:Nat)
  (h1:look 1 e=some (.slice 1 (rs.map (cS 1 c32)))) (h2:look 2 e=some (.iptr 9 [Prg.c p] 0 0)):
  go Φ (finP [.tmp 4]) [.c c_82_k3] .normal ⟨e,⟨[],n⟩⟩=some (.val (a8 ((fe (vlG p rs) rs.length 0).getD 0))):=by
 simp [c_82_k3,h1];refine cZ rs.length (fun _=>[]) 0 (fun i e=>look 2 e=some (.iptr 9 [Prg.c p] 0 0)/\look 32 e=some (.slice 1 (rs.map (cS 1 c32)))/\look 33 e=some (a8 rs.length)/\look 34 e=some (a8 i))
  (fun i=>some (Rt.val (a8 ((fe (vlG p rs) rs.length i).getD 0)))) ?_ ?_ 0 _ n (Qc _) (Qc _) ?_
 ·rintro i e n L hi hL _ ⟨h2,h32,h33,h34⟩ ih;have hw:=aL i (by omega);have hi2:i<p.Xm.length:=by omega
  have hm:=KQ p.Xm[i].Yd;rw [Prg.e] at h2;by_cases e0:rs[i].length=0
  ·have e1:rs[i]=[]:=Qg e0;rw [gA hi (by simp [vlG,hi,hi2,e1])];generalize hX:some (Rt.val (a8 ((fe (vlG p rs) rs.length (i+1)).getD 0)))=X;simp [c_82_l1,cSe,h32,h33,h34,hi,hw,e1];rw [<- hX];exact ih _ _ (Qc _) ⟨by simp [h2,Prg.e],by simp [h32],by simp [h33],by simp⟩
  have e1:0<rs[i].length:=by omega
  have hx:=Ax rs[i] e1 (hs _ (Qd hi));have hy:rs[i].any (fun v=>decide (fC p.Xm[i].Yd<v))=decide (fC p.Xm[i].Yd<mxF rs[i].tail rs[i][0]):=by
   rw [Bool.eq_iff_iff,decide_eq_true_eq,MZ,DV];have hd:rs[i]=rs[i][0]::rs[i].tail:=by
    have:=Qi e1;simpa using this
   constructor
   ·rintro ⟨x,hx,hv⟩;rw [hd] at hx;rcases fJ.1 hx with rfl | hx
    ·exact .inl (of_decide_eq_true hv)
    ·exact .inr ⟨x,hx,of_decide_eq_true hv⟩
   ·rintro (h | ⟨x,hx,hv⟩)
    ·exact ⟨_,Qd e1,decide_eq_true h⟩
    ·exact ⟨x,List.mem_of_mem_tail hx,decide_eq_true hv⟩
  by_cases v:fC p.Xm[i].Yd<mxF rs[i].tail rs[i][0]
  ·rw [fB (x:=(9:Int)) hi (by simp only [vlG,Qa hi,Qa hi2];rw [hy,aE (decide_eq_true v)])];simp [c_82_l1,cSe,Xh.e,h2,h32,h33,h34,hi,hi2,e1,hx,hm,v]
  ·rw [gA hi (by simp only [vlG,Qa hi,Qa hi2];rw [hy,QA (by simpa using v)])];generalize hX:some (Rt.val (a8 ((fe (vlG p rs) rs.length (i+1)).getD 0)))=X;simp [c_82_l1,cSe,Xh.e,h2,h32,h33,h34,hi,hi2,e1,hx,hm,v,hw];rw [<- hX];exact ih _ _ (Qc _) ⟨by simp [h2,Prg.e],by simp [h32],by simp [h33],by simp⟩
 ·rintro e n L hL _ ⟨h2,h32,h33,h34⟩;rw [jG];simp [c_82_l1,c_82_k2,h33,h34,hL]
 ·simp [h2]
theorem X5 (p:Prg) (f:PrgS p) (rs:List (List Int)) (hl:rs.length<2^40) (hs:∀l∈rs,l.length<2^40):aA Φ I0 [.agg (Prg.c p),.slice 1 (rs.map (cS 1 c32))]=some (.val (a8 (conE p rs))):=by
 rw [aD rfl rfl];unfold conE;by_cases z:rs.length=p.Xm.length
 rotate_left
 ·simp [HL,Prg.e,z]
 rw [QA (by simpa using z)];generalize hY:some (Rt.val (a8 ((fe (szG p rs) rs.length 0).getD ((fe (vlG p rs) rs.length 0).getD 0))))=Y;simp [HL,Prg.e,z];rw [<- hY];refine cZ rs.length (fun _=>[]) 0 (fun i e=>look 1 e=some (.slice 1 (rs.map (cS 1 c32)))/\look 2 e=some (.iptr 9 [Prg.c p] 0 0)/\look 15 e=some (.slice 1 (rs.map (cS 1 c32)))/\look 16 e=some (a8 rs.length)/\look 17 e=some (a8 i))
  (fun i=>some (Rt.val (a8 ((fe (szG p rs) rs.length i).getD ((fe (vlG p rs) rs.length 0).getD 0))))) ?_ ?_ 0 _ 0 (Qc _) (Qc _) ?_
 ·rintro i e n L hi hL _ ⟨h1,h2,h15,h16,h17⟩ ih;have hw:=aL i (by omega);have hi2:i<p.Xm.length:=by omega
  rw [Prg.e] at h2;by_cases v:(rs[i].length:Int)=p.Xm[i].size
  ·rw [gA hi (by simp [szG,hi,hi2,v])];generalize hX:some (Rt.val (a8 ((fe (szG p rs) rs.length (i+1)).getD ((fe (vlG p rs) rs.length 0).getD 0))))=X;simp [c_82_l0,cSe,Xh.e,h2,h15,h16,h17,hi,hi2,v,hw];rw [<- hX];exact ih _ _ (Qc _) ⟨by simp [h1],by simp [h2,Prg.e],by simp [h15],by simp [h16],by simp⟩
  ·rw [fB (x:=(2:Int)) hi (by simp [szG,hi,hi2,v])];simp [c_82_l0,cSe,Xh.e,h2,h15,h16,h17,hi,hi2,v]
 ·rintro e n L hL _ ⟨h1,h2,h15,h16,h17⟩;rw [jG];generalize hX:some (Rt.val (a8 ((none:Option Int).getD ((fe (vlG p rs) rs.length 0).getD 0))))=X;simp [c_82_l0,h16,h17,hL];rw [<- hX];exact con_b p f rs hl hs z _ _ (by simp [h1]) (by simp [h2])
 ·simp [Prg.e,z]
def wd (w:Int):Nat:=if wBad w then 0 else w.toNat
theorem wd_le (w:Int):wd w<=32:=by
 unfold wd;cases q:wBad w with
 | true=>simp
 | false=>
  obtain ⟨w1,w2⟩:=wBad_false.1 q;simp;omega
theorem Mz (w v:Int):fC w<v↔¬v<2^wd w:=by
 unfold fC wd;cases q:wBad w with
 | true=>simp;omega
 | false=>simp;omega
theorem Bm (r:Xh):aA Φ nE [.agg (Xh.c r)]=some (.val (a8 (wd r.Yd))):=by
 rw [aD rfl rfl];by_cases h1:r.Yd<1
 ·simp [mQ,Xh.e,h1,wd,wBad]
 by_cases h2:32<r.Yd
 ·simp [mQ,Xh.e,h1,h2,wd,wBad]
 simp [mQ,Xh.e,h1,h2,wd,wBad];omega
theorem Ag (p:Prg) (rs:List (List Int)) (hl:rs.length<2^40) (hs:∀l∈rs,l.length<2^40/\∀v∈l,ok32 0 v) (hz:rs.length=p.Xm.length) (e:Env) (n:Nat)
  (h1:look 1 e=some (.slice 1 (rs.map (cS 1 c32)))) (h2:look 2 e=some (.iptr 9 [Prg.c p] 0 0)):
  go Φ (finP [.tmp 4]) [.c c_91_k5] .normal ⟨e,⟨[],n⟩⟩=some (.val (a8 ((fe (vlG p rs) rs.length 0).getD 0))):=by
 simp [c_91_k5];refine cZ rs.length (fun _=>[]) 0 (fun i e=>look 1 e=some (.slice 1 (rs.map (cS 1 c32)))/\look 2 e=some (.iptr 9 [Prg.c p] 0 0)/\look 6 e=some (a8 i))
  (fun i=>some (Rt.val (a8 ((fe (vlG p rs) rs.length i).getD 0)))) ?_ ?_ 0 _ n (Qc _) (Qc _) ?_
 ·rintro i e n L hi hL _ ⟨h1,h2,h6⟩ ih;have hw:=aL i (by omega);have hi2:i<p.Xm.length:=by omega
  have hm:=hs _ (Qd hi);have hwd:=Bm p.Xm[i];simp only [Xh.e] at hwd;have hV:fe (vlG p rs) rs.length i=if rs[i].any (fun v=>decide (fC p.Xm[i].Yd<v))=true then some 9 else fe (vlG p rs) rs.length (i+1):=by
   by_cases y:rs[i].any (fun v=>decide (fC p.Xm[i].Yd<v))=true
   ·rw [aE y];exact fB hi (by simp only [vlG,Qa hi,Qa hi2];rw [aE y])
   ·rw [QA y];exact gA hi (by simp only [vlG,Qa hi,Qa hi2];rw [QA y])
  generalize hX:some (Rt.val (a8 ((fe (vlG p rs) rs.length (i+1)).getD 0)))=X at ih;generalize hY:some (Rt.val (a8 ((fe (vlG p rs) rs.length i).getD 0)))=Y;have hYX:Y=if rs[i].any (fun v=>decide (fC p.Xm[i].Yd<v))=true then some (Rt.val (a8 9)) else X:=by
   rw [<- hY,<- hX,hV];split<;>rfl
  simp [c_91_l3,h1,h6,hi];refine (cZ rs[i].length (fun _=>[]) 0 (fun j e=>look 1 e=some (.slice 1 (rs.map (cS 1 c32)))/\look 2 e=some (.iptr 9 [Prg.c p] 0 0)/\look 6 e=some (a8 i)/\look 7 e=some (a8 j))
   (fun j=>if (rs[i].drop j).any (fun v=>decide (fC p.Xm[i].Yd<v))=true then some (Rt.val (a8 9)) else X) ?_ ?_ 0 _ n (Qc _) (Qc _) ?_).trans (by rw [hYX,List.drop_zero])
  ·rintro j e n L' hj hL' _ ⟨h1,h2,h6,h7⟩ ih';have hw':=aL j (by omega);have hf:=Dc rs[i][j] (hm.2 _ (Qd hj)) (wd p.Xm[i].Yd) (wd_le _);rw [Prg.e] at h2;rw [Qi hj,BV];by_cases v:rs[i][j]<2^wd p.Xm[i].Yd
   ·rw [decide_eq_true v] at hf;rw [show decide (fC p.Xm[i].Yd<rs[i][j])=false from decide_eq_false fun h=>(Mz _ _).1 h v,B6];generalize hZ:(if (rs[i].drop (j+1)).any (fun v=>decide (fC p.Xm[i].Yd<v))=true then some (Rt.val (a8 9)) else X)=Z;simp [c_91_l1,cSe,c32,Xh.e,h1,h2,h6,h7,hi,hi2,hj,hwd,hf,hw'];rw [<- hZ];exact ih' _ _ (Qc _) ⟨by simp [h1],by simp [h2,Prg.e],by simp [h6],by simp⟩
   ·rw [decide_eq_false v] at hf;rw [show decide (fC p.Xm[i].Yd<rs[i][j])=true from decide_eq_true ((Mz _ _).2 v),JW,aE rfl];simp [c_91_l1,cSe,c32,Xh.e,h1,h2,h6,h7,hi,hi2,hj,hwd,hf]
  ·rintro e n L' hL' _ ⟨h1,h2,h6,h7⟩;rw [DU,List.any_nil,QA (by decide)];simp [c_91_l1,cSe,h1,h6,h7,hi,hL',c_91_k2,hw];exact ih _ _ (Qc _) ⟨by simp [h1],by simp [h2],by simp⟩
  ·simp [h1,h2,h6]
 ·rintro e n L hL _ ⟨h1,h2,h6⟩;rw [jG];simp [c_91_l3,c_91_k4,h1,h6,hL]
 ·simp [h1,h2]
theorem WE (p:Prg) (rs:List (List Int)) (hl:rs.length<2^40) (hs:∀l∈rs,l.length<2^40/\∀v∈l,ok32 0 v):aA Φ I3 [.agg (Prg.c p),.slice 1 (rs.map (cS 1 c32))]=some (.val (a8 (conE p rs))):=by
 rw [aD rfl rfl];unfold conE;by_cases z:rs.length=p.Xm.length
 rotate_left
 ·simp [HQ,Prg.e,z]
 rw [QA (by simpa using z)];generalize hY:some (Rt.val (a8 ((fe (szG p rs) rs.length 0).getD ((fe (vlG p rs) rs.length 0).getD 0))))=Y;simp [HQ,Prg.e,z];rw [<- hY];refine cZ rs.length (fun _=>[]) 0 (fun i e=>look 1 e=some (.slice 1 (rs.map (cS 1 c32)))/\look 2 e=some (.iptr 9 [Prg.c p] 0 0)/\look 5 e=some (a8 i))
  (fun i=>some (Rt.val (a8 ((fe (szG p rs) rs.length i).getD ((fe (vlG p rs) rs.length 0).getD 0))))) ?_ ?_ 0 _ 0 (Qc _) (Qc _) ?_
 ·rintro i e n L hi hL _ ⟨h1,h2,h5⟩ ih;have hw:=aL i (by omega);have hi2:i<p.Xm.length:=by omega
  rw [Prg.e] at h2;by_cases v:(rs[i].length:Int)=p.Xm[i].size
  ·rw [gA hi (by simp [szG,hi,hi2,v])];generalize hX:some (Rt.val (a8 ((fe (szG p rs) rs.length (i+1)).getD ((fe (vlG p rs) rs.length 0).getD 0))))=X;simp [c_91_l0,cSe,Xh.e,h1,h2,h5,hi,hi2,v,hw];rw [<- hX];exact ih _ _ (Qc _) ⟨by simp [h1],by simp [h2,Prg.e],by simp⟩
  ·rw [fB (x:=(2:Int)) hi (by simp [szG,hi,hi2,v])];simp [c_91_l0,cSe,Xh.e,h1,h2,h5,hi,hi2,v]
 ·rintro e n L hL _ ⟨h1,h2,h5⟩;rw [jG];generalize hX:some (Rt.val (a8 ((none:Option Int).getD ((fe (vlG p rs) rs.length 0).getD 0))))=X;simp [c_91_l0,h1,h5,hL];rw [<- hX];exact Ag p rs hl hs z _ _ (by simp [h1]) (by simp [h2])
 ·simp [Prg.e]
def PC (p:Prg):Prop:=aA Φ CP [.agg (Prg.c p)]=some (.val (.agg (dgC (prgD p))))/\aA Φ uM [.agg (Prg.c p)]=some (.val (.agg (dgC (prgD p))))
structure CfgT (a:Xf):Prop where
 rl:a.rows.length<2^40
 rs:∀l∈a.rows,l.length<2^40/\∀r∈l,rowS r
 nl:a.Xr.length<2^40
 dl:a.Xq.length<2^40
 ds:∀d∈a.Xq,d.args.length<2^40/\∀v∈d.args,ok32 0 v
 gl:a.Xm.length<2^40
 gs:∀l∈a.Xm,l.length<2^40/\∀v∈l,ok32 0 v
theorem ZP {B:Nat} (hB:B<2^40) {r:Rw} (o:r.Ok B):rowS r:=by
 simp only [Rw.Ok,Entry.Ok,Xb.Ok] at o;obtain ⟨_,o1,_,_,o2⟩:=o;exact ⟨by have:=o1.1;omega,fun m hm=>o1.2 m hm,by have:=o2.1;omega,fun v hv=>o2.2 v hv⟩
theorem XJ {a:Xf} (o:a.Ok dO):CfgT a:=by
 obtain ⟨o0,o1,o2,o3⟩:=o;have e:=CW;refine ⟨by have:=o0.1;omega,?_,by have:=o1.1;omega,by have:=o2.1;omega,?_,by have:=o3.1;omega,?_⟩
 ·intro l hl;have:=o0.2 l hl;exact ⟨by have:=this.1;omega,fun r hr=>ZP (by omega) (this.2 r hr)⟩
 ·intro d hd;have:=o2.2 d hd;simp only [Xb.Ok] at this;exact ⟨by have:=this.2.1;omega,fun v hv=>this.2.2 v hv⟩
 ·intro l hl;have:=o3.2 l hl;exact ⟨by have:=this.1;omega,fun v hv=>this.2 v hv⟩
def rowE (p:Prg) (k:Nat) (tb:Tbl) (l:List Rw) (nx:Int) (z:Int):Int:=if tb.size<l.length then 12 else tabK p k l nx z (ordL l 0)
theorem Bu (p:Prg) (t:Int) (l:List Rw) (nx z:Int) (o:Option Int):tabK p t l nx z o=if tabK p t l nx 0 o≠0 then tabK p t l nx 0 o else z:=by
 cases o with
 | none=>simp [tabK]
 | some a=>
  simp only [tabK];by_cases z0:nx<=a
  ·simp [z0]
  by_cases z1:1073741824<nx
  ·simp [z0,z1]
  simp only [QA z0,QA z1];cases q:fe (rowG p t l) l.length 0 with
  | none=>simp
  | some x=>
   have hx:x≠0:=by
    obtain ⟨k,hk,hx⟩:=GH q;simp only [rowG,Qt] at hx;obtain ⟨r,_,hr⟩:=hx;split at hr
    ·cases hr;assumption
    ·split at hr
     ·cases hr;decide
     ·cases hr
   simp [hx]
theorem Ak (p:Prg) (k:Nat) (tb:Tbl) (l:List Rw) (nx z:Int):rowE p k tb l nx z=if rowE p k tb l nx 0≠0 then rowE p k tb l nx 0 else z:=by
 unfold rowE;split
 ·simp
 ·exact Bu _ _ _ _ _ _
def stG (p:Prg) (c:Xf) (k:Nat):Option Int:=match p.Xn[k]?,c.rows[k]?,c.Xr[k]?,c.Xq[k]? with
 | some tb,some l,some nx,some d=>if rowE p k tb l nx (eB p k d)=0 then none else some (rowE p k tb l nx (eB p k d))
 | _,_,_,_=>none
def cfgE (p:Prg) (c:Xf):Int:=if (prgD p).1≠0 then (prgD p).1 else if c.rows.length≠p.Xn.length\/c.Xr.length≠p.Xn.length\/c.Xq.length≠p.Xn.length then 2
 else (fe (stG p c) p.Xn.length 0).getD (conE p c.Xm)
theorem Oc (p:Prg) (f:PrgS p) (hc:PC p) (c:Xf) (s:CfgT c):aA Φ CI [.agg (Prg.c p),.agg (Xf.c c)]=some (.val (a8 (cfgE p c))):=by
 rw [aD rfl rfl];have h:=hc.1;simp only [Prg.e,dgC] at h;have ht:=f.t;by_cases z:(prgD p).1=0
 rotate_left
 ·simp [u7,Prg.e,Xf.ce,h,z,cfgE]
 by_cases z1:c.rows.length=p.Xn.length
 rotate_left
 ·simp [u7,Prg.e,Xf.ce,h,z,z1,cfgE]
 by_cases z2:c.Xr.length=p.Xn.length
 rotate_left
 ·simp [u7,Prg.e,Xf.ce,h,z,z1,z2,cfgE]
 by_cases z3:c.Xq.length=p.Xn.length
 rotate_left
 ·simp [u7,Prg.e,Xf.ce,h,z,z1,z2,z3,cfgE]
 rw [show cfgE p c=(fe (stG p c) p.Xn.length 0).getD (conE p c.Xm) by simp [cfgE,z,z1,z2,z3]];simp [u7,Prg.e,Xf.ce,h,z,z1,z2,z3];refine cZ p.Xn.length (fun _=>[]) 0 (fun i e=>look 2 e=some (.iptr 9 [Prg.c p] 0 0)/\look 3 e=some (.iptr 4 [Xf.c c] 0 0)/\look 38 e=some (a8 p.Xn.length)/\look 39 e=some (a8 i))
  (fun i=>some (Rt.val (a8 ((fe (stG p c) p.Xn.length i).getD (conE p c.Xm))))) ?_ ?_ 0 _ _ (Qc _) (Qc _) ?_
 ·rintro i e n L hi hL _ ⟨h2,h3,h38,h39⟩ ih;have hw:=aL i (by omega);have i1:i<c.rows.length:=by omega
  have i2:i<c.Xr.length:=by omega
  have i3:i<c.Xq.length:=by omega
  have hr:=s.rs _ (Qd i1);have hd:=s.ds _ (Qd i3);have hk:=X8 p f i hi c.rows[i] c.Xr[i] c.Xq[i] hr.1 hr.2 hd.1;rw [show (if p.Xn[i].size<(c.rows[i].length:Int) then (12:Int) else tabK p i c.rows[i] c.Xr[i] (eB p i c.Xq[i]) (ordL c.rows[i] 0))=rowE p i p.Xn[i] c.rows[i] c.Xr[i] (eB p i c.Xq[i]) from rfl] at hk;simp only [Prg.e,Xb.ce] at hk;rw [Prg.e] at h2;rw [Xf.ce] at h3;by_cases v:rowE p i p.Xn[i] c.rows[i] c.Xr[i] (eB p i c.Xq[i])=0
  ·rw [gA hi (by simp [stG,hi,i1,i2,i3,v])];rw [v] at hk;generalize hX:some (Rt.val (a8 ((fe (stG p c) p.Xn.length (i+1)).getD (conE p c.Xm))))=X;simp [c_35_l0,cSe,cI,Xb.ce,h2,h3,h38,h39,hi,i1,i2,i3,hk,hw];rw [<- hX];exact ih _ _ (Qc _) ⟨by simp [h2,Prg.e],by simp [h3,Xf.ce],by simp [h38],by simp⟩
  ·rw [fB (x:=rowE p i p.Xn[i] c.rows[i] c.Xr[i] (eB p i c.Xq[i])) hi (by simp [stG,hi,i1,i2,i3,v])];simp [c_35_l0,cSe,cI,Xb.ce,h2,h3,h38,h39,hi,i1,i2,i3,hk,v]
 ·rintro e n L hL _ ⟨h2,h3,h38,h39⟩;have hk:=X5 p f c.Xm s.gl fun l hl=>(s.gs l hl).1
  simp only [Prg.e] at hk;rw [Prg.e] at h2;rw [Xf.ce] at h3;rw [jG];simp [c_35_l0,c_35_k1,h2,h3,h38,h39,hL,hk]
 ·simp [Prg.e,Xf.ce]
theorem RF (p:Prg) (f:PrgS p) (hv:∀t∈p.Xn,∀v∈t.Yc.args,ok32 0 v) (hc:PC p) (c:Xf) (s:CfgT c):aA Φ uH [.agg (Prg.c p),.agg (Xf.c c)]=some (.val (a8 (cfgE p c))):=by
 rw [aD rfl rfl];have h:=hc.2;simp only [Prg.e,dgC] at h;have ht:=f.t;by_cases z:(prgD p).1=0
 rotate_left
 ·simp [u9,Prg.e,Xf.ce,h,z,cfgE]
 by_cases z1:c.rows.length=p.Xn.length
 rotate_left
 ·simp [u9,Prg.e,Xf.ce,h,z,z1,cfgE]
 by_cases z2:c.Xr.length=p.Xn.length
 rotate_left
 ·simp [u9,Prg.e,Xf.ce,h,z,z1,z2,cfgE]
 by_cases z3:c.Xq.length=p.Xn.length
 rotate_left
 ·simp [u9,Prg.e,Xf.ce,h,z,z1,z2,z3,cfgE]
 rw [show cfgE p c=(fe (stG p c) p.Xn.length 0).getD (conE p c.Xm) by simp [cfgE,z,z1,z2,z3]];simp [u9,Prg.e,Xf.ce,h,z,z1,z2,z3];refine cZ p.Xn.length (fun _=>[]) 0 (fun i e=>look 2 e=some (.iptr 9 [Prg.c p] 0 0)/\look 3 e=some (.iptr 4 [Xf.c c] 0 0)/\look 5 e=some (a8 p.Xn.length)/\look 6 e=some (a8 i))
  (fun i=>some (Rt.val (a8 ((fe (stG p c) p.Xn.length i).getD (conE p c.Xm))))) ?_ ?_ 0 _ _ (Qc _) (Qc _) ?_
 ·rintro i e n L hi hL _ ⟨h2,h3,h5,h6⟩ ih;have hw:=aL i (by omega);have i1:i<c.rows.length:=by omega
  have i2:i<c.Xr.length:=by omega
  have i3:i<c.Xq.length:=by omega
  have hr:=s.rs _ (Qd i1);have hd:=s.ds _ (Qd i3);have hk:=WO p f hv i hi c.rows[i] c.Xr[i] hr.1 hr.2;have hq:=Et p f hv i c.Xq[i] hd.1 hd.2;rw [show (if p.Xn[i].size<(c.rows[i].length:Int) then (12:Int) else tabK p i c.rows[i] c.Xr[i] 0 (ordL c.rows[i] 0))=rowE p i p.Xn[i] c.rows[i] c.Xr[i] 0 from rfl] at hk;simp only [Prg.e,Xb.ce] at hk hq;rw [Prg.e] at h2;rw [Xf.ce] at h3;have hz:=Ak p i p.Xn[i] c.rows[i] c.Xr[i] (eB p i c.Xq[i]);by_cases v:rowE p i p.Xn[i] c.rows[i] c.Xr[i] 0=0
  ·rw [QA (by simpa using v)] at hz;rw [v] at hk;by_cases w:eB p i c.Xq[i]=0
   ·rw [gA hi (by simp [stG,hi,i1,i2,i3,w,v])];rw [w] at hq;generalize hX:some (Rt.val (a8 ((fe (stG p c) p.Xn.length (i+1)).getD (conE p c.Xm))))=X;simp [c_40_l0,cSe,cI,Xb.ce,h2,h3,h5,h6,hi,i1,i2,i3,hk,hq,hw];rw [<- hX];exact ih _ _ (Qc _) ⟨by simp [h2,Prg.e],by simp [h3,Xf.ce],by simp [h5],by simp⟩
   ·rw [fB (x:=eB p i c.Xq[i]) hi (by simp [stG,hi,i1,i2,i3,hz,w])];simp [c_40_l0,cSe,cI,Xb.ce,h2,h3,h5,h6,hi,i1,i2,i3,hk,hq,w]
  ·rw [aE v] at hz;rw [fB (x:=rowE p i p.Xn[i] c.rows[i] c.Xr[i] 0) hi (by simp [stG,hi,i1,i2,i3,hz,v])];simp [c_40_l0,cSe,cI,h2,h3,h5,h6,hi,i1,i2,hk,v]
 ·rintro e n L hL _ ⟨h2,h3,h5,h6⟩;have hk:=WE p c.Xm s.gl s.gs;simp only [Prg.e] at hk;rw [Prg.e] at h2;rw [Xf.ce] at h3;rw [jG];simp [c_40_l0,c_40_k1,h2,h3,h5,h6,hL,hk]
 ·simp [Prg.e,Xf.ce]
structure TabV (p:Prg) (k:Nat) (tb:Tbl) (l:List Rw) (nx:Int) (d:Xb):Prop where
 size:(l.length:Int)<=tb.size
 pos:∀r∈l,0<r.id
 lt:∀r∈l,r.id<nx
 inc:l.Pairwise (fun a b=>a.id<b.id)
 nx0:0<nx
 nx1:nx<=1073741824
 ent:∀r∈l,entE p k r.entry=0
 uniq:l.Pairwise (fun a b=>sk a.entry b.entry=false)
 Yc:eB p k d=0
theorem Nb (nx:Int):∀(l:List Rw) (a:Int),(∃b,ordL l a=some b/\b<nx)↔a<nx/\(∀r∈l,a<r.id/\r.id<nx)/\l.Pairwise (fun a b=>a.id<b.id)
 | [],a=>by simp [ordL]
 | r::l,a=>by
  have ih:=Nb nx l r.id;simp only [ordL];by_cases h:r.id<=a
  ·rw [aE h];constructor
   ·rintro ⟨b,hb,_⟩;cases hb
   ·rintro ⟨_,h2,_⟩;have:=(h2 r (by simp)).1;omega
  ·rw [QA h,ih,Q4];constructor
   ·rintro ⟨h1,h2,h3⟩;refine ⟨by omega,?_,fun x hx=>(h2 x hx).1,h3⟩;intro x hx;rcases fJ.1 hx with rfl | hx
    ·exact ⟨by omega,h1⟩
    ·have:=h2 x hx;exact ⟨by omega,this.2⟩
   ·rintro ⟨h1,h2,h3,h4⟩;exact ⟨(h2 r (by simp)).2,fun x hx=>⟨h3 x hx,(h2 x (by simp [hx])).2⟩,h4⟩
theorem TI (p:Prg) (t:Int) (l:List Rw):(∀i,i<l.length->rowG p t l i=none)↔(∀r∈l,entE p t r.entry=0)/\l.Pairwise (fun a b=>sk a.entry b.entry=false):=by
 have key:∀i (hi:i<l.length),rowG p t l i=none↔entE p t l[i].entry=0/\∀j (hj:j<i),sk l[j].entry l[i].entry=false:=by
  intro i hi;simp only [rowG,Qa hi,qG];by_cases h:entE p t l[i].entry=0
  ·rw [QA (by simpa using h)];have:((l.take i).any fun y=>sk y.entry l[i].entry)=true↔¬∀j (hj:j<i),sk l[j].entry l[i].entry=false:=by
    rw [DV];constructor
    ·rintro ⟨y,hy,hs⟩ hc;obtain ⟨j,hj,rfl⟩:=Qn.1 hy;simp at hj;have:=hc j (by omega);simp only [HB] at hs;rw [this] at hs;cases hs
    ·intro hc;simp only [Classical.not_forall] at hc;obtain ⟨j,hj,hs⟩:=hc;refine ⟨l[j],?_,by simpa using hs⟩;rw [List.mem_take_iff_getElem];exact ⟨j,by omega,rfl⟩
   by_cases hu:∀j (hj:j<i),sk l[j].entry l[i].entry=false
   ·rw [QA (by rw [this];exact fun hc=>hc hu)];simp [h];exact hu
   ·rw [aE (this.2 hu)];simp [h];simpa using hu
  ·rw [aE h];simp [h]
 constructor
 ·intro h;refine ⟨?_,?_⟩
  ·intro r hr;obtain ⟨i,hi,rfl⟩:=Qn.1 hr;exact ((key i hi).1 (h i hi)).1
  ·rw [H8];intro i j hi hj hij;exact ((key j hj).1 (h j hj)).2 i hij
 ·rintro ⟨h1,h2⟩ i hi;rw [key i hi];refine ⟨h1 _ (Qd hi),?_⟩;intro j hj;exact H8.1 h2 j i (by omega) hi hj
theorem ZO (p:Prg) (t:Int) (l:List Rw) {i:Nat} {x:Int} (h:rowG p t l i=some x):x≠0:=by
 simp only [rowG,Qt] at h;obtain ⟨r,_,hr⟩:=h;split at hr
 ·cases hr;assumption
 ·split at hr
  ·cases hr;decide
  ·cases hr
theorem Mb (p:Prg) (k:Nat) (tb:Tbl) (l:List Rw) (nx:Int) (d:Xb):rowE p k tb l nx (eB p k d)=0↔TabV p k tb l nx d:=by
 have hI:=Nb nx l 0;have hG:=TI p k l;rw [<- fe_all] at hG;unfold rowE;by_cases h:tb.size<(l.length:Int)
 ·rw [aE h];constructor
  ·intro hc;cases hc
  ·intro hv;have:=hv.size;omega
 rw [QA h];cases ho:ordL l 0 with
 | none=>
  rw [ho] at hI;simp only [tabK];constructor
  ·intro hc;cases hc
  ·intro hv;obtain ⟨b,hb,_⟩:=hI.2 ⟨hv.nx0,fun r hr=>⟨hv.pos r hr,hv.lt r hr⟩,hv.inc⟩;cases hb
 | some a=>
  rw [ho] at hI;simp only [tabK];by_cases h1:nx<=a
  ·rw [aE h1];constructor
   ·intro hc;cases hc
   ·intro hv;obtain ⟨b,hb,h2⟩:=hI.2 ⟨hv.nx0,fun r hr=>⟨hv.pos r hr,hv.lt r hr⟩,hv.inc⟩;cases hb;omega
  rw [QA h1];have hJ:=hI.1 ⟨a,rfl,by omega⟩;by_cases h2:1073741824<nx
  ·rw [aE h2];constructor
   ·intro hc;cases hc
   ·intro hv;have:=hv.nx1;omega
  rw [QA h2];cases hf:fe (rowG p k l) l.length 0 with
  | some x=>
   have hx:x≠0:=by
    obtain ⟨i,_,hx⟩:=GH hf;exact ZO p k l hx
   rw [hf] at hG;simp only [tS];constructor
   ·intro hc;exact absurd hc hx
   ·intro hv;have:=hG.2 ⟨hv.ent,hv.uniq⟩;cases this
  | none=>
   have hq:=hG.1 hf;simp only [LR];constructor
   ·intro hc;exact ⟨by omega,fun r hr=>(hJ.2.1 r hr).1,fun r hr=>(hJ.2.1 r hr).2,hJ.2.2,hJ.1,by omega,hq.1,hq.2,hc⟩
   ·intro hv;exact hv.Yc
structure CfgV (p:Prg) (c:Xf):Prop where
 prg:(prgD p).1=0
 rl:c.rows.length=p.Xn.length
 nl:c.Xr.length=p.Xn.length
 dl:c.Xq.length=p.Xn.length
 tab:∀k tb l nx d,p.Xn[k]? =some tb->c.rows[k]? =some l->c.Xr[k]? =some nx->c.Xq[k]? =some d->TabV p k tb l nx d
 con:conE p c.Xm=0
theorem Bt (p:Prg) (c:Xf) {k:Nat} {x:Int} (h:stG p c k=some x):x≠0:=by
 unfold stG at h;split at h
 ·split at h
  ·cases h
  ·cases h;assumption
 ·cases h
theorem ID (p:Prg) (c:Xf):cfgE p c=0↔CfgV p c:=by
 unfold cfgE;by_cases h:(prgD p).1=0
 rotate_left
 ·rw [aE h];exact ⟨fun hc=>absurd hc h,fun hv=>absurd hv.prg h⟩
 rw [QA (by simpa using h)];by_cases hl:c.rows.length≠p.Xn.length\/c.Xr.length≠p.Xn.length\/c.Xq.length≠p.Xn.length
 ·rw [aE hl];constructor
  ·intro hc;cases hc
  ·intro hv;have:=hv.rl;have:=hv.nl;have:=hv.dl;omega
 rw [QA hl];have l1:c.rows.length=p.Xn.length:=by omega
 have l2:c.Xr.length=p.Xn.length:=by omega
 have l3:c.Xq.length=p.Xn.length:=by omega
 cases hf:fe (stG p c) p.Xn.length 0 with
 | some x=>
  obtain ⟨k,hk,hx⟩:=GH hf;simp only [tS];constructor
  ·intro hc;exact absurd hc (Bt p c hx)
  ·intro hv;have hq:stG p c k=none:=by
    unfold stG;split
    ·rename_i tb l nx d e1 e2 e3 e4;rw [aE ((Mb p k tb l nx d).2 (hv.tab k tb l nx d e1 e2 e3 e4))]
    ·rfl
   rw [hq] at hx;cases hx
 | none=>
  simp only [LR];have ha:=fe_all.1 hf;constructor
  ·intro hc;refine ⟨h,l1,l2,l3,?_,hc⟩;intro k tb l nx d e1 e2 e3 e4;have hk:=(Qm.1 e1).1;have hq:=ha k hk;simp only [stG,e1,e2,e3,e4] at hq;split at hq
   ·rename_i hz;exact (Mb p k tb l nx d).1 hz
   ·cases hq
  ·intro hv;exact hv.con
def iL (c:Xf) (t:Int):List Rw:=(at? c.rows t).getD []
def tG (c:Xf) (t:Int):Int:=(at? c.Xr t).getD 0
def OG (p:Prg) (t:Int):Int:=((at? p.Xn t).map Tbl.size).getD 0
def inT (p:Prg) (t:Int):Bool:=decide (0<=t)&&decide (t<p.Xn.length)
def rIdx (l:List Rw) (id:Int):Option Nat:=l.findIdx? fun r=>decide (r.id=id)
def insE (p:Prg) (c:Xf) (t:Int) (x:Entry):Int:=
 if inT p t=false then 8 else if entE p t x≠0 then entE p t x else if (iL c t).any (fun y=>sk y.entry x)=true then 7
 else if OG p t<=(iL c t).length\/1073741824<=tG c t then 13 else 0
def insC (c:Xf) (t:Int) (x:Entry):Xf:=⟨c.rows.set t.toNat (iL c t++[⟨tG c t,x⟩]),c.Xr.set t.toNat (tG c t+1),c.Xq,c.Xm⟩
def modE (p:Prg) (c:Xf) (t id:Int) (x:Xb):Int:=
 if inT p t=false then 8 else if rIdx (iL c t) id=none then 8 else eB p t x
def gU (x:Xb) (r:Rw):Rw:=⟨r.id,⟨r.entry.keys,r.entry.Xt,x⟩⟩
def modC (c:Xf) (t id:Int) (x:Xb):Xf:=match rIdx (iL c t) id with
 | some i=>⟨c.rows.set t.toNat ((iL c t).modify i (gU x)),c.Xr,c.Xq,c.Xm⟩
 | none=>c
def delE (p:Prg) (c:Xf) (t id:Int):Int:=
 if inT p t=false then 8 else if rIdx (iL c t) id=none then 8 else 0
def delC (c:Xf) (t id:Int):Xf:=match rIdx (iL c t) id with
 | some i=>⟨c.rows.set t.toNat ((iL c t).eraseIdx i),c.Xr,c.Xq,c.Xm⟩
 | none=>c
def defE (p:Prg) (t:Int) (x:Xb):Int:=if inT p t=false then 8 else eB p t x
def defC (c:Xf) (t:Int) (x:Xb):Xf:=⟨c.rows,c.Xr,c.Xq.set t.toNat x,c.Xm⟩
theorem D1 {p:Prg} {t:Int} (h:inT p t=true):∃k:Nat,t=k/\k<p.Xn.length:=by
 unfold inT at h;simp at h;exact ⟨t.toNat,by omega,by omega⟩
theorem KN {p:Prg} {k:Nat} (h:k<p.Xn.length):inT p (k:Int)=true:=by
 unfold inT;simp;omega
section
variable {p:Prg} {c:Xf} {k:Nat}
theorem AD (h:k<c.rows.length):iL c (k:Int)=c.rows[k]:=by
 unfold iL;rw [L5,Qa h];rfl
theorem QO (h:k<c.Xr.length):tG c (k:Int)=c.Xr[k]:=by
 unfold tG;rw [L5,Qa h];rfl
theorem Df (h:k<p.Xn.length):OG p (k:Int)=p.Xn[k].size:=by
 unfold OG;rw [L5,Qa h];rfl
theorem CfgV.at (v:CfgV p c) (h:k<p.Xn.length):TabV p k p.Xn[k] (c.rows[k]'(by rw [v.rl];exact h)) (c.Xr[k]'(by rw [v.nl];exact h)) (c.Xq[k]'(by rw [v.dl];exact h)):=
 v.tab k _ _ _ _ (Qa h) (Qa (by rw [v.rl];exact h)) (Qa (by rw [v.nl];exact h)) (Qa (by rw [v.dl];exact h))
theorem CfgV.upd (v:CfgV p c) (h:k<p.Xn.length) {l:List Rw} {nx:Int} {d:Xb} {R:List (List Rw)} {N:List Int} {D:List Xb}
  (hR:R=c.rows.set k l) (hN:N=c.Xr.set k nx) (hD:D=c.Xq.set k d) (t:TabV p k p.Xn[k] l nx d):CfgV p ⟨R,N,D,c.Xm⟩:=by
 subst hR hN hD;refine ⟨v.prg,by simp [v.rl],by simp [v.nl],by simp [v.dl],?_,v.con⟩;intro j tb l' nx' d' h1 h2 h3 h4;have hl1:=v.rl;have hl2:=v.nl;have hl3:=v.dl;by_cases hj:k=j
 ·subst hj;rw [List.getElem?_set_self (by omega)] at h2 h3 h4;rw [Qa h] at h1;cases h1;cases h2;cases h3;cases h4;exact t
 ·simp only [List.getElem?_set_ne hj] at h2 h3 h4;exact v.tab j _ _ _ _ h1 h2 h3 h4
end
theorem YR {p:Prg} {c:Xf} {t:Int} {x:Entry} (v:CfgV p c) (h:insE p c t x=0):CfgV p (insC c t x):=by
 unfold insE at h;cases hi:inT p t with
 | false=>rw [aE hi] at h;cases h
 | true=>
 obtain ⟨k,rfl,hk⟩:=D1 hi;rw [QA (by rw [hi];decide)] at h;have l1:k<c.rows.length:=by rw [v.rl];exact hk
 have l2:k<c.Xr.length:=by rw [v.nl];exact hk
 have l3:k<c.Xq.length:=by rw [v.dl];exact hk
 have hv:=v.at hk;rw [AD l1,QO l2,Df hk] at h;split at h
 ·rename_i h1;exact absurd h h1
 rename_i h1;split at h
 ·cases h
 rename_i h2;split at h
 ·cases h
 rename_i h3;unfold insC;rw [AD l1,QO l2];refine v.upd hk (l:=c.rows[k]++[⟨c.Xr[k],x⟩]) (nx:=c.Xr[k]+1) (d:=c.Xq[k]) (by simp) (by simp) (by simp) ?_;have n0:=hv.nx0;refine ⟨by simp;omega,?_,?_,?_,by omega,by omega,?_,?_,hv.Yc⟩
 ·intro r hr;rcases eU.1 hr with hr | hr
  ·exact hv.pos r hr
  ·simp at hr;subst hr;exact n0
 ·intro r hr;rcases eU.1 hr with hr | hr
  ·have:=hv.lt r hr;omega
  ·simp at hr;subst hr;simp;omega
 ·rw [Q0];exact ⟨hv.inc,by simp,fun a ha b hb=>by simp at hb;subst hb;exact hv.lt a ha⟩
 ·intro r hr;rcases eU.1 hr with hr | hr
  ·exact hv.ent r hr
  ·simp at hr;subst hr;simpa using h1
 ·rw [Q0];refine ⟨hv.uniq,by simp,fun a ha b hb=>?_⟩;simp at hb;subst hb;simp only [DV,not_exists,not_and,Bool.not_eq_true] at h2;exact h2 a ha
theorem qzt (p:Prg) (t:Int) (x:Entry) (y:Xb) (h:entE p t x=0) (hc:eB p t y=0):entE p t ⟨x.keys,x.Xt,y⟩=0:=by
 unfold entE at h ⊢;split at h
 ·exact absurd h (by assumption)
 rename_i h1;rw [QA h1];cases ht:at? p.Xn t with
 | none=>rfl
 | some tb=>
  rw [ht] at h;simp only at h ⊢;split at h
  ·cases h
  rename_i h2;rw [QA h2];have he:entG p tb ⟨x.keys,x.Xt,y⟩=entG p tb x:=rfl;rw [he];cases hf:fe (entG p tb x) tb.keys.length 0 with
  | some e=>rw [hf] at h;simpa using h
  | none=>
   rw [hf] at h;simp only [LR] at h ⊢;unfold entF at h ⊢;unfold eB at hc;simp only;split at h
   ·cases h
   rename_i a1;rw [QA a1];split at h
   ·cases h
   rename_i a2;rw [QA a2];split at h
   ·cases h
   rename_i a3;rw [QA a3];exact hc
theorem NT {l:List Rw} {id:Int} {i:Nat} (h:rIdx l id=some i):∃hi:i<l.length,l[i].id=id:=by
 unfold rIdx at h;rw [List.findIdx?_eq_some_iff_getElem] at h;obtain ⟨hi,h1,_⟩:=h;exact ⟨hi,by simpa using h1⟩
theorem YV {p:Prg} {c:Xf} {t id:Int} {x:Xb} (v:CfgV p c) (h:modE p c t id x=0):CfgV p (modC c t id x):=by
 unfold modE at h;cases hi:inT p t with
 | false=>rw [aE hi] at h;cases h
 | true=>
 obtain ⟨k,rfl,hk⟩:=D1 hi;rw [QA (by rw [hi];decide)] at h;have l1:k<c.rows.length:=by rw [v.rl];exact hk
 have l2:k<c.Xr.length:=by rw [v.nl];exact hk
 have l3:k<c.Xq.length:=by rw [v.dl];exact hk
 have hv:=v.at hk;unfold modC;rw [AD l1] at h ⊢;cases hx:rIdx c.rows[k] id with
 | none=>simp only;exact v
 | some i=>
  rw [hx,QA (by simp)] at h;simp only;obtain ⟨hil,hid⟩:=NT hx;have hm:c.rows[k].modify i (gU x)=c.rows[k].set i (gU x c.rows[k][i]):=by
   refine List.ext_getElem (by simp) fun j h1 h2=>?_
   rw [JO,List.getElem_set];split
   ·rename_i e;subst e;rfl
   ·rfl
  refine v.upd hk (l:=c.rows[k].modify i (gU x)) (nx:=c.Xr[k]) (d:=c.Xq[k]) (by simp) (by simp) (by simp) ?_;have mem:∀r∈c.rows[k].modify i (gU x),∃r'∈c.rows[k],r.id=r'.id/\entE p k r.entry=0:=by
   intro r hr;rw [hm] at hr;rcases Qq hr with hr | rfl
   ·exact ⟨r,hr,rfl,hv.ent r hr⟩
   ·exact ⟨_,Qd hil,rfl,qzt p k _ x (hv.ent _ (Qd hil)) h⟩
  have get:∀j (hj:j<(c.rows[k].modify i (gU x)).length),(c.rows[k].modify i (gU x))[j].id=(c.rows[k][j]'(by simpa using hj)).id/\(c.rows[k].modify i (gU x))[j].entry.keys=(c.rows[k][j]'(by simpa using hj)).entry.keys/\(c.rows[k].modify i (gU x))[j].entry.Xt=(c.rows[k][j]'(by simpa using hj)).entry.Xt:=by
   intro j hj;rw [JO];split<;>simp [gU]
  refine ⟨by simpa using hv.size,?_,?_,?_,hv.nx0,hv.nx1,?_,?_,hv.Yc⟩
  ·intro r hr;obtain ⟨r',hr',e,_⟩:=mem r hr;rw [e];exact hv.pos r' hr'
  ·intro r hr;obtain ⟨r',hr',e,_⟩:=mem r hr;rw [e];exact hv.lt r' hr'
  ·rw [H8];intro a b ha hb hab;rw [(get a ha).1,(get b hb).1];exact H8.1 hv.inc a b _ _ hab
  ·intro r hr;obtain ⟨_,_,_,e⟩:=mem r hr;exact e
  ·rw [H8];intro a b ha hb hab;have:=H8.1 hv.uniq a b (by simpa using ha) (by simpa using hb) hab;unfold sk at this ⊢;rw [(get a ha).2.1,(get a ha).2.2,(get b hb).2.1,(get b hb).2.2];exact this
theorem XA {p:Prg} {c:Xf} {t id:Int} (v:CfgV p c) (h:delE p c t id=0):CfgV p (delC c t id):=by
 unfold delE at h;cases hi:inT p t with
 | false=>rw [aE hi] at h;cases h
 | true=>
 obtain ⟨k,rfl,hk⟩:=D1 hi;have l1:k<c.rows.length:=by rw [v.rl];exact hk
 have l2:k<c.Xr.length:=by rw [v.nl];exact hk
 have l3:k<c.Xq.length:=by rw [v.dl];exact hk
 have hv:=v.at hk;unfold delC;rw [AD l1];cases hx:rIdx c.rows[k] id with
 | none=>simp only;exact v
 | some i=>
  simp only;refine v.upd hk (l:=c.rows[k].eraseIdx i) (nx:=c.Xr[k]) (d:=c.Xq[k]) (by simp) (by simp) (by simp) ?_;have hs:=List.eraseIdx_sublist c.rows[k] i;have hsz:=hv.size;have hle:=hs.length_le;exact ⟨by omega,fun r hr=>hv.pos r (hs.subset hr),fun r hr=>hv.lt r (hs.subset hr),hv.inc.sublist hs,hv.nx0,hv.nx1,fun r hr=>hv.ent r (hs.subset hr),hv.uniq.sublist hs,hv.Yc⟩
theorem X9 {p:Prg} {c:Xf} {t:Int} {x:Xb} (v:CfgV p c) (h:defE p t x=0):CfgV p (defC c t x):=by
 unfold defE at h;cases hi:inT p t with
 | false=>rw [aE hi] at h;cases h
 | true=>
 obtain ⟨k,rfl,hk⟩:=D1 hi;rw [QA (by rw [hi];decide)] at h;have l1:k<c.rows.length:=by rw [v.rl];exact hk
 have l2:k<c.Xr.length:=by rw [v.nl];exact hk
 have l3:k<c.Xq.length:=by rw [v.dl];exact hk
 have hv:=v.at hk;unfold defC;exact v.upd hk (l:=c.rows[k]) (nx:=c.Xr[k]) (d:=x) (by simp) (by simp) (by simp) ⟨hv.size,hv.pos,hv.lt,hv.inc,hv.nx0,hv.nx1,hv.ent,hv.uniq,h⟩
theorem Pf {α:Type} {f:α->Option α}:∀{l:List α},(∀x∈l,f x=some x)->mapO f l=some l
 | [],_=>rfl
 | a::l,h=>by
  have h1:=h a (by simp);have h2:=Pf (f:=f) (l:=l) fun x hx=>h x (by simp [hx])
  simp only [mapO,h1,h2]
theorem CZ {α:Type} {g:α->List AV} {n:Nat} {H:AH} (h:∀x,mapO (snap n H) (g x)=some (g x)) (l:List α):mapO (mapO (snap n H)) (l.map g)=some (l.map g):=by
 refine Pf fun x hx=>?_
 obtain ⟨y,_,rfl⟩:=oZ.1 hx;exact h y
theorem SG {n:Nat} {H:AH} (r:Rw):mapO (snap (n+1) H) (Rw.c r)=some (Rw.c r):=by simp [Rw.c]
theorem Br {n:Nat} {H:AH} (x:Int):mapO (snap (n+1) H) (cI x)=some (cI x):=by simp [cI]
theorem Nq {n:Nat} {H:AH} (x:Xb):mapO (snap (n+1) H) (Xb.c x)=some (Xb.c x):=by simp [Xb.c]
structure CfgM (O:List (Nat×AO)) (v1 v2 v3 v4:AV) (V:List AV) (c:Xf):Prop where
 r:Mu O 1 v1 (V.map fun v=>[v])
 rl:V.length=c.rows.length
 rv:∀(k:Nat) (v:AV) (l:List Rw),V[k]? =some v->c.rows[k]? =some l->Mu O 5 v (l.map Rw.c)
 n:Mu O 1 v2 (c.Xr.map cI)
 d:Mu O 2 v3 (c.Xq.map Xb.c)
 g:v4= .Xu 1 (c.Xm.map (cS 1 c32))\/∃t,v4= .app 1 (c.Xm.map (cS 1 c32)) t
 rn:∀i,vid v1=some i->vid v2=some i->False
 vi:∀(k k':Nat) (v v':AV) (i:Nat),V[k]? =some v->V[k']? =some v'->vid v=some i->vid v'=some i->k=k'
 va:∀v∈V,∀z es t,v≠ .app z es t
def CfgM.own (v1 v2 v3:AV) (V:List AV) (j:Nat):Prop:=vid v1=some j\/vid v2=some j\/vid v3=some j\/∃v∈V,vid v=some j
theorem CfgM.fr {O O':List (Nat×AO)} {v1 v2 v3 v4:AV} {V:List AV} {c:Xf} (h:CfgM O v1 v2 v3 v4 V c) (hf:∀j,CfgM.own v1 v2 v3 V j->look j O'=look j O):CfgM O' v1 v2 v3 v4 V c:=by
 refine ⟨h.r.fr fun j hj=>hf j (.inl hj),h.rl,?_,h.n.fr fun j hj=>hf j (.inr (.inl hj)),h.d.fr fun j hj=>hf j (.inr (.inr (.inl hj))),h.g,h.rn,h.vi,h.va⟩;intro k v l hv hl;exact (h.rv k v l hv hl).fr fun j hj=>hf j (.inr (.inr (.inr ⟨v,Qe hv,hj⟩)))
theorem Dv {α β:Type} {f:α->Option β}:∀{l:List α} {m:List β},l.length=m.length->(∀(k:Nat) (x:α) (y:β),l[k]? =some x->m[k]? =some y->f x=some y)->mapO f l=some m
 | [],[],_,_=>rfl
 | [],_::_,h,_=>by simp at h
 | _::_,[],h,_=>by simp at h
 | a::l,b::m,h,hf=>by
  have h1:=hf 0 a b (by simp) (by simp);have h2:=Dv (f:=f) (l:=l) (m:=m) (by simpa using h) fun k x y hx hy=>hf (k+1) x y (by simpa using hx) (by simpa using hy)
  simp only [mapO,h1,h2]
theorem CfgM.snpR {O:List (Nat×AO)} {v1 v2 v3 v4:AV} {V:List AV} {c:Xf} {n N:Nat} (h:CfgM O v1 v2 v3 v4 V c):snap (n+4) ⟨O,N⟩ v1=some (.slice 1 (c.rows.map (cS 5 Rw.c))):=by
 have e1:mapO (mapO (snap (n+3) ⟨O,N⟩)) (V.map fun v=>[v])=some (c.rows.map (cS 5 Rw.c)):=by
  refine Dv (by simp [h.rl]) ?_;intro k x y hx hy;rw [List.getElem?_map] at hx hy;cases hv:V[k]? with
  | none=>rw [hv] at hx;cases hx
  | some v=>
   cases hl:c.rows[k]? with
   | none=>rw [hl] at hy;cases hy
   | some l=>
    rw [hv] at hx;rw [hl] at hy;cases hx;cases hy;have:=(h.rv k v l hv hl).snp (N:=N) (n:=n+2);simp only [mapO,this,CZ (n:=n+2) (H:=⟨O,N⟩) (fun x=>SG x) l,vK,cS]
 have k1:=h.r.snp (N:=N) (n:=n+3);rw [e1] at k1;exact k1
theorem CfgM.snpN {O:List (Nat×AO)} {v1 v2 v3 v4:AV} {V:List AV} {c:Xf} {n N:Nat} (h:CfgM O v1 v2 v3 v4 V c):snap (n+4) ⟨O,N⟩ v2=some (.slice 1 (c.Xr.map cI)):=by
 have k2:=h.n.snp (N:=N) (n:=n+3);rw [CZ (n:=n+3) (H:=⟨O,N⟩) (fun x=>Br x)] at k2;exact k2
theorem CfgM.snpD {O:List (Nat×AO)} {v1 v2 v3 v4:AV} {V:List AV} {c:Xf} {n N:Nat} (h:CfgM O v1 v2 v3 v4 V c):snap (n+4) ⟨O,N⟩ v3=some (.slice 2 (c.Xq.map Xb.c)):=by
 have k3:=h.d.snp (N:=N) (n:=n+3);rw [CZ (n:=n+3) (H:=⟨O,N⟩) (fun x=>Nq x)] at k3;exact k3
theorem CfgM.snpG {O:List (Nat×AO)} {v1 v2 v3 v4:AV} {V:List AV} {c:Xf} {n N:Nat} (h:CfgM O v1 v2 v3 v4 V c):snap (n+4) ⟨O,N⟩ v4=some (.slice 1 (c.Xm.map (cS 1 c32))):=by
 rcases h.g with hg | ⟨t,hg⟩<;>subst hg<;>simp
@[simp] theorem Sn (b x:Bool) (H:AH):BD b H (some (.val (.bool x)))=some (.val (.bool x),H):=by cases b<;>simp
@[simp] theorem Sr (b:Bool) (k:IntKind) (x:Int) (H:AH):BD b H (some (.val (.int k x)))=some (.val (.int k x),H):=by cases b<;>simp
def regN (r:Xh):Nat:=if r.size<1\/64<r.size then 0 else r.size.toNat
theorem B9 {Ψ:FuncId->Option AFun} {f z bytes:Nat} (hf:Ψ f=some (.rule (oI z bytes .app))) (es:List (List AV)) (hz:d9 z es=true) (hb:es.length*bytes<=70368744177664):aA Ψ f [.slice z es]=some (.val (.slice z es)):=by
 unfold aA;rw [QL Ψ hf];cases es with
 | nil=>simp [oI,lenOf,gW,evR,uS,H0,AH.put]
 | cons x es=>
  simp only [BU] at hb;simp [oI,lenOf,evR,uS,H0,AH.put,hz,hb]
theorem L6 (l:List Int) (h:l.length<2^40):aA Φ gP [.slice 1 (l.map c32)]=some (.val (.slice 1 (l.map c32))):=
 B9 (bytes:=4) rfl _ (fX 1 c32 l fun x=>by simp [c32]) (by rw [cT];omega)
theorem Qz (l:List Xi) (h:l.length<2^40):aA Φ rK [.slice 2 (l.map Xi.c)]=some (.val (.slice 2 (l.map Xi.c))):=
 B9 (bytes:=8) rfl _ (fX 2 Xi.c l fun x=>by simp [Xi.c]) (by rw [cT];omega)
theorem R7 (c:Xb) (h:c.args.length<2^40):aA Φ l7 [.agg (Xb.c c)]=some (.val (.agg (Xb.c c))):=by
 rw [aD rfl rfl];have k:=L6 c.args h;simp [F9,Xb.ce,k]
theorem Ln (x:Entry) (h:x.call.args.length<2^40) (h2:x.keys.length<2^40):aA Φ t8 [.agg (Entry.c x)]=some (.val (.agg (Entry.c x))):=by
 rw [aD rfl rfl];have k:=Qz x.keys h2;have k2:=R7 x.call h;simp only [Xb.ce] at k2;simp [FU,Entry.ce,k,k2]
theorem X7 (x:Rw) (h:rowS x):aA Φ zR [.agg (Rw.c x)]=some (.val (.agg (Rw.c x))):=by
 rw [aD rfl rfl];have k:=Ln x.entry h.al h.kl;simp only [Entry.ce] at k;simp [FA,Rw.ce,k]
theorem qru (l:List Xj) (hl:l.length<2^39) (hf:∀x∈l,aA Φ l8 [.agg (Xj.c x)]=some (.val (.agg (Xj.c x)))):aA Φ sZ [.slice 2 (l.map Xj.c),.func (.func l8) [] []]=some (.val (.slice 2 (l.map Xj.c))):=by
 rw [aD rfl rfl];simp [FJ];refine (cZ l.length (fun i=>[(0,.tok 2 i)]) 1 (fun i e=>look 1 e=some (.func (.func l8) [] [])/\look 5 e=some (.app 2 ((l.map Xj.c).take i) 0)/\look 8 e=some (.slice 2 (l.map Xj.c))/\look 9 e=some (a8 l.length)/\look 10 e=some (a8 i))
  (fun _=>some (Rt.val (.slice 2 (l.map Xj.c)))) ?_ ?_ 0 _ 1 (Qc _) (Qb _) ?_).trans (by simp)
 ·rintro i e n L hi hL hn ⟨h1,h5,h8,h9,h10⟩ ih;have hw:=aL i (by omega);have hn0:¬(0=n):=by omega
  have hn1:¬(n=0):=by omega
  have hm:min i l.length=i:=by omega
  have hb:∀k,k<=128->(i+1)*k<=70368744177664:=fun k hk=>by
   have:(i+1)*k<=(i+1)*128:=JN _ hk;omega
  have hN:=hf _ (Qd hi);simp only [Xj.e] at hN;simp [c_337_l0,Xj.e,h1,h5,h8,h9,h10,hi,hw,hn0,hm,hb,hN];exact ih _ _ (by omega) ⟨by simp [h1],by simp [mJ hi,Xj.e],by simp [h8],by simp [h9],by simp⟩
 ·rintro e n L hL hn ⟨h1,h5,h8,h9,h10⟩;simp [c_337_l0,c_337_k1,h5,h9,h10,hL]
 ·simp
theorem Zv (l:List Xg) (hl:l.length<2^39) (hf:∀x∈l,aA Φ lG [.agg (Xg.c x)]=some (.val (.agg (Xg.c x)))):aA Φ tB [.slice 7 (l.map Xg.c),.func (.func lG) [] []]=some (.val (.slice 7 (l.map Xg.c))):=by
 rw [aD rfl rfl];simp [G0];refine (cZ l.length (fun i=>[(0,.tok 7 i)]) 1 (fun i e=>look 1 e=some (.func (.func lG) [] [])/\look 5 e=some (.app 7 ((l.map Xg.c).take i) 0)/\look 8 e=some (.slice 7 (l.map Xg.c))/\look 9 e=some (a8 l.length)/\look 10 e=some (a8 i))
  (fun _=>some (Rt.val (.slice 7 (l.map Xg.c)))) ?_ ?_ 0 _ 1 (Qc _) (Qb _) ?_).trans (by simp)
 ·rintro i e n L hi hL hn ⟨h1,h5,h8,h9,h10⟩ ih;have hw:=aL i (by omega);have hn0:¬(0=n):=by omega
  have hn1:¬(n=0):=by omega
  have hm:min i l.length=i:=by omega
  have hb:∀k,k<=128->(i+1)*k<=70368744177664:=fun k hk=>by
   have:(i+1)*k<=(i+1)*128:=JN _ hk;omega
  have hN:=hf _ (Qd hi);simp only [Xg.e] at hN;simp [c_364_l0,Xg.e,h1,h5,h8,h9,h10,hi,hw,hn0,hm,hb,hN];exact ih _ _ (by omega) ⟨by simp [h1],by simp [mJ hi,Xg.e],by simp [h8],by simp [h9],by simp⟩
 ·rintro e n L hL hn ⟨h1,h5,h8,h9,h10⟩;simp [c_364_l0,c_364_k1,h5,h9,h10,hL]
 ·simp
theorem qrt (l:List Action) (hl:l.length<2^39) (hf:∀x∈l,aA Φ l9 [.agg (Action.c x)]=some (.val (.agg (Action.c x)))):aA Φ t5 [.slice 3 (l.map Action.c),.func (.func l9) [] []]=some (.val (.slice 3 (l.map Action.c))):=by
 rw [aD rfl rfl];simp [FL];refine (cZ l.length (fun i=>[(0,.tok 3 i)]) 1 (fun i e=>look 1 e=some (.func (.func l9) [] [])/\look 5 e=some (.app 3 ((l.map Action.c).take i) 0)/\look 8 e=some (.slice 3 (l.map Action.c))/\look 9 e=some (a8 l.length)/\look 10 e=some (a8 i))
  (fun _=>some (Rt.val (.slice 3 (l.map Action.c)))) ?_ ?_ 0 _ 1 (Qc _) (Qb _) ?_).trans (by simp)
 ·rintro i e n L hi hL hn ⟨h1,h5,h8,h9,h10⟩ ih;have hw:=aL i (by omega);have hn0:¬(0=n):=by omega
  have hn1:¬(n=0):=by omega
  have hm:min i l.length=i:=by omega
  have hb:∀k,k<=128->(i+1)*k<=70368744177664:=fun k hk=>by
   have:(i+1)*k<=(i+1)*128:=JN _ hk;omega
  have hN:=hf _ (Qd hi);simp only [Action.e] at hN;simp [c_341_l0,Action.e,h1,h5,h8,h9,h10,hi,hw,hn0,hm,hb,hN];exact ih _ _ (by omega) ⟨by simp [h1],by simp [mJ hi,Action.e],by simp [h8],by simp [h9],by simp⟩
 ·rintro e n L hL hn ⟨h1,h5,h8,h9,h10⟩;simp [c_341_l0,c_341_k1,h5,h9,h10,hL]
 ·simp
theorem qs3 (l:List Tbl) (hl:l.length<2^39) (hf:∀x∈l,aA Φ lA [.agg (Tbl.c x)]=some (.val (.agg (Tbl.c x)))):aA Φ t6 [.slice 6 (l.map Tbl.c),.func (.func lA) [] []]=some (.val (.slice 6 (l.map Tbl.c))):=by
 rw [aD rfl rfl];simp [FN];refine (cZ l.length (fun i=>[(0,.tok 6 i)]) 1 (fun i e=>look 1 e=some (.func (.func lA) [] [])/\look 5 e=some (.app 6 ((l.map Tbl.c).take i) 0)/\look 8 e=some (.slice 6 (l.map Tbl.c))/\look 9 e=some (a8 l.length)/\look 10 e=some (a8 i))
  (fun _=>some (Rt.val (.slice 6 (l.map Tbl.c)))) ?_ ?_ 0 _ 1 (Qc _) (Qb _) ?_).trans (by simp)
 ·rintro i e n L hi hL hn ⟨h1,h5,h8,h9,h10⟩ ih;have hw:=aL i (by omega);have hn0:¬(0=n):=by omega
  have hn1:¬(n=0):=by omega
  have hm:min i l.length=i:=by omega
  have hb:∀k,k<=128->(i+1)*k<=70368744177664:=fun k hk=>by
   have:(i+1)*k<=(i+1)*128:=JN _ hk;omega
  have hN:=hf _ (Qd hi);simp only [Tbl.e] at hN;simp [c_343_l0,Tbl.e,h1,h5,h8,h9,h10,hi,hw,hn0,hm,hb,hN];exact ih _ _ (by omega) ⟨by simp [h1],by simp [mJ hi,Tbl.e],by simp [h8],by simp [h9],by simp⟩
 ·rintro e n L hL hn ⟨h1,h5,h8,h9,h10⟩;simp [c_343_l0,c_343_k1,h5,h9,h10,hL]
 ·simp
theorem Zl (l:List Xd) (hl:l.length<2^39) (hf:∀x∈l,aA Φ lB [.agg (Xd.c x)]=some (.val (.agg (Xd.c x)))):aA Φ t7 [.slice 7 (l.map Xd.c),.func (.func lB) [] []]=some (.val (.slice 7 (l.map Xd.c))):=by
 rw [aD rfl rfl];simp [FP];refine (cZ l.length (fun i=>[(0,.tok 7 i)]) 1 (fun i e=>look 1 e=some (.func (.func lB) [] [])/\look 5 e=some (.app 7 ((l.map Xd.c).take i) 0)/\look 8 e=some (.slice 7 (l.map Xd.c))/\look 9 e=some (a8 l.length)/\look 10 e=some (a8 i))
  (fun _=>some (Rt.val (.slice 7 (l.map Xd.c)))) ?_ ?_ 0 _ 1 (Qc _) (Qb _) ?_).trans (by simp)
 ·rintro i e n L hi hL hn ⟨h1,h5,h8,h9,h10⟩ ih;have hw:=aL i (by omega);have hn0:¬(0=n):=by omega
  have hn1:¬(n=0):=by omega
  have hm:min i l.length=i:=by omega
  have hb:∀k,k<=128->(i+1)*k<=70368744177664:=fun k hk=>by
   have:(i+1)*k<=(i+1)*128:=JN _ hk;omega
  have hN:=hf _ (Qd hi);simp only [Xd.e] at hN;simp [c_345_l0,Xd.e,h1,h5,h8,h9,h10,hi,hw,hn0,hm,hb,hN];exact ih _ _ (by omega) ⟨by simp [h1],by simp [mJ hi,Xd.e],by simp [h8],by simp [h9],by simp⟩
 ·rintro e n L hL hn ⟨h1,h5,h8,h9,h10⟩;simp [c_345_l0,c_345_k1,h5,h9,h10,hL]
 ·simp
theorem Bz (l:List Xa) (hl:l.length<2^39) (hf:∀x∈l,aA Φ lD [.agg (Xa.c x)]=some (.val (.agg (Xa.c x)))):aA Φ lC [.slice 5 (l.map Xa.c),.func (.func lD) [] []]=some (.val (.slice 5 (l.map Xa.c))):=by
 rw [aD rfl rfl];simp [FR];refine (cZ l.length (fun i=>[(0,.tok 5 i)]) 1 (fun i e=>look 1 e=some (.func (.func lD) [] [])/\look 5 e=some (.app 5 ((l.map Xa.c).take i) 0)/\look 8 e=some (.slice 5 (l.map Xa.c))/\look 9 e=some (a8 l.length)/\look 10 e=some (a8 i))
  (fun _=>some (Rt.val (.slice 5 (l.map Xa.c)))) ?_ ?_ 0 _ 1 (Qc _) (Qb _) ?_).trans (by simp)
 ·rintro i e n L hi hL hn ⟨h1,h5,h8,h9,h10⟩ ih;have hw:=aL i (by omega);have hn0:¬(0=n):=by omega
  have hn1:¬(n=0):=by omega
  have hm:min i l.length=i:=by omega
  have hb:∀k,k<=128->(i+1)*k<=70368744177664:=fun k hk=>by
   have:(i+1)*k<=(i+1)*128:=JN _ hk;omega
  have hN:=hf _ (Qd hi);obtain ⟨kk,tt,cc,aa,bb,hx⟩:=Pj l[i];rw [hx,Xa.ce] at hN;simp [c_347_l0,hx,Xa.ce,h1,h5,h8,h9,h10,hi,hw,hn0,hm,hb,hN];exact ih _ _ (by omega) ⟨by simp [h1],by simp [mJ hi,hx,Xa.ce],by simp [h8],by simp [h9],by simp⟩
 ·rintro e n L hL hn ⟨h1,h5,h8,h9,h10⟩;simp [c_347_l0,c_347_k1,h5,h9,h10,hL]
 ·simp
theorem Pe (H:AH):∀l:List Int,mapO (mapO (snap 39 H)) (l.map cI)=some (l.map cI)
 | []=>by simp [mapO]
 | x::l=>by
  have ih:=Pe H l;simp only [w9,mapO,ih];simp [cI,mapO]
theorem S9 (l:List Int) (h:l.length<2^40):aA Φ eR [.slice 1 (l.map cI)]=some (.val (.slice 1 (l.map cI))):=by
 unfold aA;rw [QL Φ (g:=oI 1 8 .row) rfl];cases l with
 | nil=>simp [oI,lenOf,gW,evR,uS,H0,AH.put]
 | cons x l=>
  have hb:(l.length+1)*8<=70368744177664:=by simp at h;omega
  have hm:=Pe ⟨[(0,.row 1 ((x::l).map cI))],1⟩ (x::l);simp [cI] at hm;simp [oI,lenOf,evR,uS,H0,AH.put,hb,cI,hm]
theorem Gf (l:List Fld) (h:l.length<2^40):aA Φ nX [.slice 2 (l.map Fld.c)]=some (.val (.slice 2 (l.map Fld.c))):=
 B9 (bytes:=24) rfl _ (fX 2 Fld.c l fun x=>by simp [Fld.e]) (by rw [cT];omega)
theorem Ab (l:List Xh) (h:l.length<2^40):aA Φ A3 [.slice 3 (l.map Xh.c)]=some (.val (.slice 3 (l.map Xh.c))):=
 B9 (bytes:=32) rfl _ (fX 3 Xh.c l fun x=>by simp [Xh.e]) (by rw [cT];omega)
theorem Ac (l:List Xl) (h:l.length<2^40):aA Φ A6 [.slice 3 (l.map Xl.c)]=some (.val (.slice 3 (l.map Xl.c))):=
 B9 (bytes:=24) rfl _ (fX 3 Xl.c l fun x=>by simp [Xl.e]) (by rw [cT];omega)
theorem Aa (l:List Xk) (h:l.length<2^40):aA Φ A7 [.slice 3 (l.map Xk.c)]=some (.val (.slice 3 (l.map Xk.c))):=
 B9 (bytes:=16) rfl _ (fX 3 Xk.c l fun x=>by simp [Xk.e]) (by rw [cT];omega)
theorem Ge (l:List Xe) (h:l.length<2^40):aA Φ oD [.slice 3 (l.map Xe.c)]=some (.val (.slice 3 (l.map Xe.c))):=
 B9 (bytes:=24) rfl _ (fX 3 Xe.c l fun x=>by simp [Xe.c]) (by rw [cT];omega)
theorem qxc (x:Xj) (h:x.Ya.length<2^40):aA Φ l8 [.agg (Xj.c x)]=some (.val (.agg (Xj.c x))):=by
 rw [aD rfl rfl];have k:=Gf x.Ya h;simp [FK,Xj.e,k]
theorem qrp (x:Xg) (h:x.index.length<2^40) (h2:x.value.length<2^40):aA Φ lG [.agg (Xg.c x)]=some (.val (.agg (Xg.c x))):=by
 rw [aD rfl rfl];have k:=Ge x.index h;have k2:=Ge x.value h2;simp [G1,Xg.e,k,k2]
theorem qzi (x:Tbl) (h:x.keys.length<2^40) (h2:x.Xy.length<2^40) (h3:x.Yc.args.length<2^40):aA Φ lA [.agg (Tbl.c x)]=some (.val (.agg (Tbl.c x))):=by
 rw [aD rfl rfl];have k:=Ac x.keys h;have k2:=S9 x.Xy h2;have k3:=L6 x.Yc.args h3;simp [FO,Tbl.e,k,k2,k3]
theorem qzh (x:Xd) (h:x.extract.length<2^40) (h2:x.cases.length<2^40):aA Φ lB [.agg (Xd.c x)]=some (.val (.agg (Xd.c x))):=by
 rw [aD rfl rfl];have k:=S9 x.extract h;have k2:=Aa x.cases h2;simp [FQ,Xd.e,k,k2]
theorem qxa (x:Action) (h:x.params.length<2^40) (h2:x.body.length<2^39) (h3:∀s∈x.body,s.index.length<2^40/\s.value.length<2^40):aA Φ l9 [.agg (Action.c x)]=some (.val (.agg (Action.c x))):=by
 rw [aD rfl rfl];have k:=Gf x.params h;have k2:=Zv x.body h2 fun s hs=>qrp s (h3 s hs).1 (h3 s hs).2
 simp [FM,Action.e,k,k2]
theorem Eh:∀(n:Nat) (x:Xa),SizeOf.sizeOf x<=n->Xa.Ok dO x->aA Φ lD [.agg (Xa.c x)]=some (.val (.agg (Xa.c x)))
 | 0,x,h,_=>by cases x;simp at h
 | n+1,x,h,ho=>by
  obtain ⟨k,t,c,a,b,rfl⟩:=Pj x;simp only [Xa.Ok] at ho;obtain ⟨_,_,hc,⟨ha1,ha2⟩,hb1,hb2⟩:=ho;rw [Xa.oks_eq] at ha2 hb2;have e:=CW;simp at h;have hc1:=hc.1;have k1:=Ge c (by omega);have k2:=Bz a (by omega) fun y hy=>Eh n y (by have:=List.sizeOf_lt_of_mem hy;omega) (ha2 y hy)
  have k3:=Bz b (by omega) fun y hy=>Eh n y (by have:=List.sizeOf_lt_of_mem hy;omega) (hb2 y hy)
  rw [aD rfl rfl];simp [FS,Xa.ce,k1,k2,k3]
theorem U0 (p:Prg) (op:p.Ok dO):aA Φ zQ [.agg (Prg.c p)]=some (.val (.agg (Prg.c p))):=by
 have f:=GE op;obtain ⟨_,o1,o2,o3,o4,o5,o6,o7,o8⟩:=op;have e:=CW;have k1:=qru p.Xp (by have:=o1.1;omega) fun x hx=>qxc x (f.hl x hx)
 have k2:=Gf p.Xo f.m;have k3:=Ab p.Xm f.r;have k4:=qrt p.Xy (by have:=o4.1;omega) fun x hx=>qxa x (f.ap x hx) (by
  have h:=o4.2 x hx;simp only [Action.Ok] at h;have:=h.2.2.1;omega) fun s hs=>⟨f.ai x hx s hs,f.av x hx s hs⟩
 have k5:=qs3 p.Xn (by have:=o5.1;omega) fun x hx=>qzi x (f.tk x hx) (f.ta x hx) (f.tg x hx)
 have k6:=Zl p.Xx (by have:=o6.1;omega) fun x hx=>qzh x (f.se x hx) (f.sc x hx)
 have k7:=Bz p.Yb (by have:=o7.1;omega) fun x hx=>Eh _ x (Qb _) (o7.2 x hx)
 have k8:=S9 p.Xs f.d;rw [aD rfl rfl];simp [F7,Prg.e,k1,k2,k3,k4,k5,k6,k7,k8]
def RegV (T:List (Nat×AO)) (x:AV) (r:Xh):Prop:=(x= .Xu 1 []/\regN r=0)\/∃id,1<=id/\x= .row id 1 0 (regN r)/\look id T=some (.row 1 (List.replicate (regN r) [.int .u32 0]))
inductive RegL (T:List (Nat×AO)):List AV->List Xh->Prop
 | nil:RegL T [] []
 | snoc {A rs x r} (h:RegL T A rs) (hx:RegV T x r):RegL T (A++[x]) (rs++[r])
theorem RegV.app {T:List (Nat×AO)} {x:AV} {r:Xh} (h:RegV T x r) (U:List (Nat×AO)):RegV (T++U) x r:=by
 rcases h with h | ⟨id,h1,h2,h3⟩
 ·exact .inl h
 ·exact .inr ⟨id,h1,h2,by rw [K2,h3];simp⟩
theorem RegL.app {T:List (Nat×AO)} {A:List AV} {rs:List Xh} (h:RegL T A rs) (U:List (Nat×AO)):RegL (T++U) A rs:=by
 induction h with
 | nil=>exact .nil
 | snoc h hx ih=>exact .snoc ih (hx.app U)
theorem RegL.len {T:List (Nat×AO)} {A:List AV} {rs:List Xh} (h:RegL T A rs):A.length=rs.length:=by
 induction h with
 | nil=>rfl
 | snoc h hx ih=>simp [ih]
theorem My (H:AH) (k:Nat):∀m,mapO (mapO (snap 38 H)) (List.replicate m [AV.int .u32 k])=some (List.replicate m [AV.int .u32 k])
 | 0=>by simp [mapO]
 | m+1=>by
  have ih:=My H k m;simp only [List.replicate_succ,mapO,ih];simp
theorem Li {α β:Type} (f:α->Option β):∀(l:List α) (x:α) (l':List β) (y:β),mapO f l=some l'->f x=some y->mapO f (l++[x])=some (l'++[y])
 | [],x,l',y,h,hy=>by
  simp [mapO] at h;subst h;simp [mapO,hy]
 | a::l,x,l',y,h,hy=>by
  simp only [mapO] at h;cases hb:f a with
  | none=>rw [hb] at h;cases h
  | some b=>
   rw [hb] at h;cases hm:mapO f l with
   | none=>rw [hm] at h;cases h
   | some m=>
    rw [hm] at h;cases h;have ih:=Li f l x m y hm hy;simp only [qI,mapO,hb,ih]
theorem RegL.snp {T:List (Nat×AO)} {A:List AV} {rs:List Xh} (h:RegL T A rs) (o:AO) (n:Nat):
  mapO (mapO (snap 39 ⟨(0,o)::T,n⟩)) (A.map fun x=>[x])=some (rs.map fun r=>[AV.slice 1 (List.replicate (regN r) [.int .u32 0])]):=by
 induction h with
 | nil=>simp [mapO]
 | snoc h hx ih=>
  rw [B5,B5];refine Li _ _ _ _ _ ih ?_;rcases hx with ⟨rfl,h0⟩ | ⟨id,h1,rfl,h3⟩
  ·simp [mapO,h0]
  ·have hi:¬(0=id):=by omega
   have hr:=My ⟨(0,o)::T,n⟩ 0;simp at hr;simp [mapO,look,hi,h3,hr]
theorem MW {O O':List (Nat×AO)} {N N' k:Nat} {X:Nat->Prop} (hK:Kp X N O O') (hT:Tail O' N') (hN:N<=N') (o:AO):Kp X N O (O'++[(N'+k,o)])/\Tail (O'++[(N'+k,o)]) (N'+k+1)/\look (N'+k) (O'++[(N'+k,o)])=some o:=by
 refine ⟨?_,?_,?_⟩
 ·intro j hj hx;have:¬N'+k=j:=by omega
  rw [aC,hK j hj hx];simp [this]
 ·rw [Tail_append_iff,Tail_cons_iff];exact ⟨hT.mono (by omega),by omega,Tail.nil _⟩
 ·rw [aC,hT _ (by omega)];simp
theorem hp_mv {O O':List (Nat×AO)} {N N' k id:Nat} {X:Nat->Prop} (hK:Kp X N O O') (hT:Tail O' N') (hN:N<=N') (hid:N<=id) (o:AO):Kp X N O (bW id O'++[(N'+k,o)])/\Tail (bW id O'++[(N'+k,o)]) (N'+k+1)/\look (N'+k) (bW id O'++[(N'+k,o)])=some o:=by
 have h1:Kp X N O (bW id O'):=by
  intro j hj hx;rw [bK (by omega),hK j hj hx]
 exact MW h1 (G8 hT) hN o
theorem Pw {l:List Rw} {i:Nat} {es0:List (List AV)} (hi:i<l.length) (ht:es0.take (l.map Rw.c).length=l.map Rw.c):es0[i]? =some (Rw.c l[i]):=by
 have h:(es0.take (l.map Rw.c).length)[i]? =(l.map Rw.c)[i]? :=by rw [ht]
 rw [List.getElem?_take_of_lt (by simpa using hi)] at h;rw [h];simp [hi]
section
variable {β:Type} {fin:Option (Ex×St)->Option β}
theorem Oa (l:List Rw) (hs:∀r∈l,rowS r) (hl:l.length<2^39) (v:AV) (K:List Fr) (Q:Option β->Prop) (e:Env) (O:List (Nat×AO)) (N:Nat) (hT:Tail O N) (hv:Re O 5 v (l.map Rw.c))
  (h6:look 6 e=some (.Xu 5 [])) (h24:look 24 e=some v) (h25:look 25 e=some (a8 l.length)) (h26:look 26 e=some (a8 0))
  (hK:∀e' O' N' w,Mu O' 5 w (l.map Rw.c)->(∀j,vid w=some j->N<=j)->(∀z es t,w≠ .app z es t)->Kp (fun _=>False) N O O'->Tail O' N'->N<=N'->look 6 e'=some w->
   look 1 e'=look 1 e->look 2 e'=look 2 e->look 3 e'=look 3 e->look 18 e'=look 18 e->look 19 e'=look 19 e->look 20 e'=look 20 e->Q (go Φ fin K .normal ⟨e',⟨O',N'⟩⟩)):
  Q (go Φ fin (.c (.loop c_226_l0):: .b 2::K) .normal ⟨e,⟨O,N⟩⟩):=by
 refine fF l.length (fun i e' h=>∃O' N' w,h=⟨O',N'⟩/\((i=0/\w= .Xu 5 [])\/∃id,w= .row id 5 0 i/\look id O'=some (.row 5 ((l.take i).map Rw.c))/\N<=id)/\Kp (fun _=>False) N O O'/\Tail O' N'/\N<=N'/\look 6 e'=some w/\look 24 e'=some v/\look 25 e'=some (a8 l.length)/\look 26 e'=some (a8 i)/\
   look 1 e'=look 1 e/\look 2 e'=look 2 e/\look 3 e'=look 3 e/\look 18 e'=look 18 e/\look 19 e'=look 19 e/\look 20 e'=look 20 e) Q ?_ ?_ 0 _ _ (Qc _) ?_
 ·rintro i e' _ L hi hL ⟨O',N',w,rfl,hw,hk,hT',hN,h6,h24,h25,h26,g1,g2,g3,g18,g19,g20⟩ ih;have hw1:=aL i (by omega);have hc:=X7 l[i] (hs _ (Qd hi));have hT0:=hT' N' (Qb _);have hT1:=hT' (N'+1) (by omega);have hm:min i l.length=i:=by omega
  have hd1:∀id,look (N'+1) (bW id O')=none:=fun id=>K5 _ hT1
  have htk:(l.map Rw.c).take (i+1)=(l.map Rw.c).take i++[Rw.c l[i]]:=mJ hi;rw [Rw.ce] at htk;have hb:(i+1)*72<=70368744177664:=by omega
  simp only [Rw.ce] at hc;have hv':Re O' 5 v (l.map Rw.c):=by
   refine hv.fr fun j hj=>?_
   cases hv with
   | row id _ es0 n hn hl hle ht=>cases hj;exact hk j (hT.lt hl) (by simp)
   | sl=>cases hj
   | fs=>cases hj
   | ap=>cases hj
  have hw0:min i (l.map Rw.c).length=i:=by simp;omega
  rcases hw with ⟨rfl,rfl⟩ | ⟨id,rfl,hlk,hid⟩
  ·obtain ⟨a1,a2,a3⟩:=MW (k:=1) hk hT' hN (.row 5 ((l.take (0+1)).map Rw.c));cases hv' with
   | row id' _ es0 n hn hl' hle ht=>
    have h0:=Pw hi ht;simp [c_226_l0,Rw.ce,h6,h24,h25,h26,hi,hc,hT0,hT1,hn,hl',h0,wr1];refine ih _ _ ⟨_,N'+1+1,.row (N'+1) 5 0 (0+1),by simp at htk;simp [htk],.inr ⟨N'+1,rfl,a3,by omega⟩,a1,a2,by omega,?_,?_,?_,?_,?_,?_,?_,?_,?_,?_⟩<;>simp [*]
   | _=>
    simp [c_226_l0,Rw.ce,h6,h24,h25,h26,hi,hc,hT0,hT1,wr1];refine ih _ _ ⟨_,N'+1+1,.row (N'+1) 5 0 (0+1),by simp at htk;simp [htk],.inr ⟨N'+1,rfl,a3,by omega⟩,a1,a2,by omega,?_,?_,?_,?_,?_,?_,?_,?_,?_,?_⟩<;>simp [*]
  ·obtain ⟨a1,a2,a3⟩:=hp_mv (k:=1) hk hT' hN hid (.row 5 ((l.take (i+1)).map Rw.c));cases hv' with
   | row id' _ es0 n hn hl' hle ht=>
    have h0:=Pw hi ht;simp [c_226_l0,Rw.ce,h6,h24,h25,h26,hi,hc,hT0,hn,hl',h0,hw1,hlk,hb,hm,hd1];refine ih _ _ ⟨_,N'+1+1,.row (N'+1) 5 0 (i+1),by simp [htk],.inr ⟨N'+1,rfl,a3,by omega⟩,a1,a2,by omega,?_,?_,?_,?_,?_,?_,?_,?_,?_,?_⟩<;>simp [*]
   | _=>
    simp [c_226_l0,Rw.ce,h6,h24,h25,h26,hi,hc,hT0,hw1,hlk,hb,hm,hd1];refine ih _ _ ⟨_,N'+1+1,.row (N'+1) 5 0 (i+1),by simp [htk],.inr ⟨N'+1,rfl,a3,by omega⟩,a1,a2,by omega,?_,?_,?_,?_,?_,?_,?_,?_,?_,?_⟩<;>simp [*]
 ·rintro e' _ L hL ⟨O',N',w,rfl,hw,hk,hT',hN,h6,h24,h25,h26,g1,g2,g3,g18,g19,g20⟩;simp [c_226_l0,h25,h26,hL];refine hK _ O' N' w ?_ ?_ ?_ hk hT' hN ?_ ?_ ?_ ?_ ?_ ?_ ?_<;>try simp [h6,g1,g2,g3,g18,g19,g20]
  ·rcases hw with ⟨hz,rfl⟩ | ⟨id,rfl,hlk,hid⟩
   ·have:l=[]:=Qg hz;subst this;exact .nilF
   ·rw [iI] at hlk;exact .row id _ _ _ (by simp) hlk (Qb _) (by rw [iI])
  ·rcases hw with ⟨hz,rfl⟩ | ⟨id,rfl,hlk,hid⟩
   ·intro j hj;cases hj
   ·intro j hj;cases hj;exact hid
  ·rcases hw with ⟨hz,rfl⟩ | ⟨id,rfl,hlk,hid⟩<;>intro z es t ht<;>cases ht
 ·exact ⟨O,N,.Xu 5 [],rfl,.inl ⟨rfl,rfl⟩,fun _ _ _=>rfl,hT,Qb _,h6,h24,h25,h26,rfl,rfl,rfl,rfl,rfl,rfl⟩
end
section
variable {O O':List (Nat×AO)} {N N' n id:Nat} {X:Nat->Prop} {o y:AO}
theorem Kp.app (h:Kp X N O O') (hn:N<=n):Kp X N O (O'++[(n,o)]):=by
 intro j hj hx;have:¬n=j:=by omega
 rw [aC,h j hj hx];simp [this]
theorem Kp.drop (h:Kp X N O O') (hn:N<=id\/X id):Kp X N O (bW id O'):=by
 intro j hj hx;rw [bK (by rintro rfl;rcases hn with hn | hn;omega;exact hx hn),h j hj hx]
theorem Kp.setl (h:Kp X N O O') (hn:N<=id\/X id):Kp X N O (setl id y O'):=by
 intro j hj hx;rw [aB,QA (by rintro rfl;rcases hn with hn | hn;omega;exact hx hn),h j hj hx]
theorem Tail.app1 (h:Tail O' N') (hn:N'<=n):Tail (O'++[(n,o)]) (n+1):=by
 rw [Tail_append_iff,Tail_cons_iff];exact ⟨h.mono (by omega),by omega,Tail.nil _⟩
theorem Kp.lk (h:Kp X N O O') (hT:Tail O N) {j:Nat} {x:AO} (hl:look j O=some x) (hx:¬X j):look j O'=some x:=by
 rw [h j (hT.lt hl) hx,hl]
theorem aP {j:Nat} {x y:AO} (h1:look id O=some x) (h2:look j O=some y) (h:x≠y):id≠j:=by
 rintro rfl;rw [h1] at h2;cases h2;exact h rfl
theorem BC {j:Nat} {x:AO} (hT:Tail O N) (h1:look j O=some x) (hn:N<=n):¬j=n/\¬n=j:=by
 have:=hT.lt h1;omega
end
theorem Re.src {O:List (Nat×AO)} {z N:Nat} {v:AV} {es:List (List AV)} (h:Re O z v es):gW ⟨O,N⟩ v=some es:=by
 cases h with
 | sl=>rfl
 | fs=>rfl
 | ap=>rfl
 | row id _ es0 n hn hl hle ht=>
  subst hn;simp [hl,hle,ht]
theorem Y4 {O:List (Nat×AO)} {N:Nat} (hT:Tail O N) {v:AV} {l:List Int} (h:Re O 1 v (l.map cI)) (hl:l.length<2^40):
  ∃w o,aI Φ eR [v] ⟨O,N⟩=some (.val w,⟨O++[(N,o)],N+1⟩)/\Mu (O++[(N,o)]) 1 w (l.map cI)/\∀j,vid w=some j->N<=j:=by
 have hr:Φ eR=some (.rule (oI 1 8 .row)):=rfl;rw [QL Φ hr];have hN:=hT N (Qb _);have hs:=h.src (N:=N);have hlen:=h.len;cases l with
 | nil=>
  refine ⟨.app 1 [] N,.tok 1 0,?_,.nilA _,fun j hj=>by cases hj⟩;simp only [oI,hlen,DY,w8];simp only [DY] at hs;simp only [hs,evR];simp [hN]
 | cons x l=>
  have ha:d9 1 ((x::l).map cI)=true:=fX 1 cI (x::l) fun x=>by simp
  refine ⟨.row N 1 0 ((x::l).map cI).length,.row 1 ((x::l).map cI),?_,?_,fun j hj=>by cases hj;omega⟩
  ·have hb:((x::l).map cI).length*8<=2^46:=by rw [cT];omega
   have hne:(x::l).map cI≠[]:=by simp
   simp only [oI,hlen,cT,BU,evR];have e0:evOp [(5,.Xu 1 []),(6,v)] N ⟨O,N⟩ (.append .row 1 8 (.t 5) (.t 6))=some (.row N 1 0 ((x::l).map cI).length,(AH.mk O N).put N (.row 1 ((x::l).map cI))):=by
    simp only [evOp,evX,look];simp only [show ¬(5:Nat)=6 by decide,if_true,if_false,hs,ha];simp only [w8,wA,DW,true_or,true_and];rw [aE ⟨hne,hb⟩]
   rw [e0];simp [hN]
  ·exact .row N _ _ _ rfl (by rw [aC,hN];simp) (Qb _) (by rw [iI])
theorem Kp.appL {O O':List (Nat×AO)} {N:Nat} {X:Nat->Prop} (h:Kp X N O O') {r:List (Nat×AO)} (hr:∀p∈r,N<=p.1):Kp X N O (O'++r):=by
 intro j hj hx;have:look j r=none:=by
  induction r with
  | nil=>rfl
  | cons p r ih=>
   have h1:=hr p (by simp);have:¬p.1=j:=by omega
   simp only [look,QA this];exact ih fun q hq=>hr q (by simp [hq])
 rw [aC,h j hj hx,this];simp
structure RowsR (O:List (Nat×AO)) (v:AV) (A:List AV) (R:List (List Rw)):Prop where
 v:Re O 1 v (A.map fun x=>[x])
 len:A.length=R.length
 at_:∀(k:Nat) (x:AV) (l:List Rw),A[k]? =some x->R[k]? =some l->Re O 5 x (l.map Rw.c)
theorem Re.own {O:List (Nat×AO)} {z j:Nat} {v:AV} {es:List (List AV)} (h:Re O z v es) (hj:vid v=some j):∃x,look j O=some x:=by
 cases h with
 | sl=>cases hj
 | fs=>cases hj
 | ap=>cases hj
 | row id _ es0 n hn hl hle ht=>cases hj;exact ⟨_,hl⟩
theorem Re.kp {O O':List (Nat×AO)} {z N:Nat} {v:AV} {es:List (List AV)} {X:Nat->Prop} (h:Re O z v es) (hT:Tail O N) (hk:Kp X N O O') (hx:∀j,X j->look j O=none\/N<=j):Re O' z v es:=by
 refine h.fr fun j hj=>?_
 obtain ⟨x,hl⟩:=h.own hj;refine hk j (hT.lt hl) fun hc=>?_
 rcases hx j hc with h1 | h1
 ·rw [hl] at h1;cases h1
 ·have:=hT.lt hl;omega
theorem Mu.own {O:List (Nat×AO)} {z j:Nat} {v:AV} {es:List (List AV)} (h:Mu O z v es) (hj:vid v=some j):∃es0,look j O=some (.row z es0):=by
 cases h with
 | nilF=>cases hj
 | nilA=>cases hj
 | row id _ es0 n hn hl hle ht=>cases hj;exact ⟨_,hl⟩
structure RowsW (O:List (Nat×AO)) (N:Nat) (V:List AV) (R:List (List Rw)):Prop where
 len:V.length=R.length
 mu:∀(k:Nat) (v:AV) (l:List Rw),V[k]? =some v->R[k]? =some l->Mu O 5 v (l.map Rw.c)
 fresh:∀v∈V,∀j,vid v=some j->N<=j
 inj:∀(k k':Nat) (v v':AV) (i:Nat),V[k]? =some v->V[k']? =some v'->vid v=some i->vid v'=some i->k=k'
 na:∀v∈V,∀z es t,v≠ .app z es t
theorem RowsW.nil {O:List (Nat×AO)} {N:Nat}:RowsW O N [] []:=⟨rfl,by simp,by simp,by simp,by simp⟩
theorem RowsW.own {O:List (Nat×AO)} {N:Nat} {V:List AV} {R:List (List Rw)} (h:RowsW O N V R) {v:AV} {j:Nat} (hv:v∈V) (hj:vid v=some j):∃es0,look j O=some (.row 5 es0):=by
 obtain ⟨k,hk,rfl⟩:=Qn.1 hv;have hk2:k<R.length:=by rw [<- h.len];exact hk
 exact (h.mu k _ _ (Qa hk) (Qa hk2)).own hj
theorem RowsW.fr {O O':List (Nat×AO)} {N:Nat} {V:List AV} {R:List (List Rw)} (h:RowsW O N V R) (hf:∀j es0,look j O=some (.row 5 es0)->look j O'=look j O):RowsW O' N V R:=by
 refine ⟨h.len,?_,h.fresh,h.inj,h.na⟩;intro k v l hv hl;have hm:=h.mu k v l hv hl;refine hm.fr fun j hj=>?_
 obtain ⟨es0,h0⟩:=hm.own hj;exact hf j es0 h0
theorem RowsW.snoc {O O':List (Nat×AO)} {N N':Nat} {V:List AV} {R:List (List Rw)} {w:AV} {l:List Rw} (h:RowsW O N V R) (hT:Tail O N') (hN:N<=N') (hf:∀j es0,look j O=some (.row 5 es0)->look j O'=look j O) (hw:Mu O' 5 w (l.map Rw.c)) (hn:∀j,vid w=some j->N'<=j) (ha:∀z es t,w≠ .app z es t):RowsW O' N (V++[w]) (R++[l]):=by
 have h':=h.fr hf;have hlt:∀v∈V,∀j,vid v=some j->j<N':=by
  intro v hv j hj;obtain ⟨es0,h0⟩:=h.own hv hj;exact hT.lt h0
 have hlen:=h.len;refine ⟨by simp [hlen],?_,?_,?_,fun v hv=>by rcases eU.1 hv with hv | hv;exact h.na v hv;simp at hv;subst hv;exact ha⟩
 ·intro k v l' hv hl;by_cases hk:k<V.length
  ·rw [Ql hk] at hv;rw [Ql (by omega)] at hl;exact h'.mu k v l' hv hl
  ·have hk':k=V.length:=by
    have:=(Qm.1 hv).1;simp at this;omega
   subst hk';rw [Qp (by omega)] at hv;rw [Qp (by omega),hlen] at hl;simp at hv hl;subst hv hl;exact hw
 ·intro v hv j hj;rcases eU.1 hv with hv | hv
  ·exact h.fresh v hv j hj
  ·simp at hv;subst hv;have:=hn j hj;omega
 ·intro k k' v v' i hv hv' hi hi';have hb:=(Qm.1 hv).1;have hb':=(Qm.1 hv').1;simp at hb hb';by_cases hk:k<V.length
  ·by_cases hk':k'<V.length
   ·rw [Ql hk] at hv;rw [Ql hk'] at hv';exact h.inj k k' v v' i hv hv' hi hi'
   ·rw [Ql hk] at hv;rw [Qp (by omega)] at hv';have:k' - V.length=0:=by omega
    rw [this] at hv';simp at hv';subst hv';have h1:=hlt v (Qe hv) i hi;have h2:=hn i hi';omega
  ·by_cases hk':k'<V.length
   ·rw [Ql hk'] at hv';rw [Qp (by omega)] at hv;have:k - V.length=0:=by omega
    rw [this] at hv;simp at hv;subst hv;have h1:=hlt v' (Qe hv') i hi';have h2:=hn i hi;omega
   ·omega
section
variable {β:Type} {fin:Option (Ex×St)->Option β}
theorem Y0 (R:List (List Rw)) (hR:R.length<2^40) (hs:∀l∈R,l.length<2^39/\∀r∈l,rowS r) (v w2:AV) (A:List AV) (b:Nat) (K:List Fr) (Q:Option β->Prop) (e:Env) (O:List (Nat×AO)) (N:Nat) (hT:Tail O N) (hv:RowsR O v A R)
  (hb:look b O=some (.row 4 [[.Xu 1 [],w2,.Xu 2 [],.Xu 1 []]])) (h3:look 3 e=some (.ptr b 4 0 0)) (h18:look 18 e=some v) (h19:look 19 e=some (a8 R.length)) (h20:look 20 e=some (a8 0))
  (hK:∀e' O' N' w V,Mu O' 1 w (V.map fun x=>[x])->(∀j,vid w=some j->N<=j)->RowsW O' N V R->Kp (fun j=>j=b) N O O'->Tail O' N'->N<=N'->look b O'=some (.row 4 [[w,w2,.Xu 2 [],.Xu 1 []]])->
   look 1 e'=look 1 e->look 2 e'=look 2 e->look 3 e'=look 3 e->Q (go Φ fin K .normal ⟨e',⟨O',N'⟩⟩)):
  Q (go Φ fin (.c (.loop c_226_l3):: .b 0::K) .normal ⟨e,⟨O,N⟩⟩):=by
 have hAb:∀(k:Nat) (x:AV) j,A[k]? =some x->vid x=some j->j≠b:=by
  intro k x j hx hj;have hk:k<R.length:=by
   have:=(Qm.1 hx).1;rw [hv.len] at this;exact this
  have:=hv.at_ k x _ hx (Qa hk);cases this with
  | sl=>cases hj
  | fs=>cases hj
  | ap=>cases hj
  | row id _ es0 n hn hl hle ht=>cases hj;exact aP hl hb (by simp)
 have hvb:∀j,vid v=some j->j≠b:=by
  intro j hj;cases hv.v with
  | sl=>cases hj
  | fs=>cases hj
  | ap=>cases hj
  | row id _ es0 n hn hl hle ht=>cases hj;exact aP hl hb (by simp)
 refine fF R.length (fun i e' h=>∃O' N' w V,h=⟨O',N'⟩/\((i=0/\w= .Xu 1 []/\V=[])\/∃id,w= .row id 1 0 i/\look id O'=some (.row 1 (V.map fun x=>[x]))/\N<=id)/\RowsW O' N V (R.take i)/\Kp (fun j=>j=b) N O O'/\Tail O' N'/\N<=N'/\
   look b O'=some (.row 4 [[w,w2,.Xu 2 [],.Xu 1 []]])/\look 3 e'=some (.ptr b 4 0 0)/\look 18 e'=some v/\look 19 e'=some (a8 R.length)/\look 20 e'=some (a8 i)/\
   look 1 e'=look 1 e/\look 2 e'=look 2 e) Q ?_ ?_ 0 _ _ (Qc _) ?_
 ·rintro i e' _ L hi hL ⟨O',N',w,V,rfl,hw,hV,hk,hT',hN,hb',h3,h18,h19,h20,g1,g2⟩ ih;have hw1:=aL i (by omega);have hA:i<A.length:=by rw [hv.len];exact hi
  have hlen:=hV.len;have hVl:V.length=i:=by rw [hlen];simp;omega
  have hri:=hs _ (Qd hi);have hbN:b<N:=hT.lt hb;have hx:Re O' 5 A[i] (R[i].map Rw.c):=by
   have h0:=hv.at_ i _ _ (Qa hA) (Qa hi);refine h0.fr fun j hj=>?_
   obtain ⟨x,hl⟩:=h0.own hj;exact hk j (hT.lt hl) (hAb i _ j (Qa hA) hj)
  have hxl:=hx.len;have hxc:=hx.cells;have hv':Re O' 1 v (A.map fun x=>[x]):=by
   refine hv.v.fr fun j hj=>?_
   obtain ⟨x,hl⟩:=hv.v.own hj;exact hk j (hT.lt hl) (hvb j hj)
  have after:∀e1,look 1 e1=look 1 e->look 2 e1=look 2 e->look 3 e1=some (.ptr b 4 0 0)->look 18 e1=some v->look 19 e1=some (a8 R.length)->look 20 e1=some (a8 i)->
    ∀e2 O2 N2 w',Mu O2 5 w' (R[i].map Rw.c)->(∀j,vid w'=some j->N'<=j)->(∀z es t,w'≠ .app z es t)->Kp (fun _=>False) N' O' O2->Tail O2 N2->N'<=N2->look 6 e2=some w'->look 1 e2=look 1 e1->look 2 e2=look 2 e1->look 3 e2=look 3 e1->look 18 e2=look 18 e1->look 19 e2=look 19 e1->look 20 e2=look 20 e1->
    Q (go Φ fin (.c c_226_k1:: .b 1:: .c c_226_k2::L) .normal ⟨e2,⟨O2,N2⟩⟩):=by
   intro e1 f1 f2 f3 f18 f19 f20 e2 O2 N2 w' hmu hnew hna hk2 hT2 hN2 d6 d1 d2 d3 d18 d19 d20;rw [f1] at d1;rw [f2] at d2;rw [f3] at d3;rw [f18] at d18;rw [f19] at d19;rw [f20] at d20;have hb2:look b O2=some (.row 4 [[w,w2,.Xu 2 [],.Xu 1 []]]):=hk2.lk hT' hb' (by simp);have hmc:=hmu.cells;have t0:=hT2 N2 (Qb _);have t1:=hT2 (N2+1) (by omega);have hbN2:b<N2:=by omega
   have q0:¬N2=b:=by omega
   have q1:¬N2+1=b:=by omega
   have q2:¬b=N2:=by omega
   have q3:¬b=N2+1:=by omega
   have hkk:Kp (fun j=>j=b) N O O2:=hk.trans (hk2.mono fun _ _ h=>h.elim) hN;have h5:∀(j:Nat) (es0:List (List AV)),look j O'=some (.row 5 es0)->look j O2=some (.row 5 es0):=fun j es0 hj=>hk2.lk hT' hj (by simp)
   rcases hw with ⟨rfl,rfl,rfl⟩ | ⟨id,rfl,hlk,hid⟩
   ·simp [c_226_k1,c_226_k2,d3,d6,d20,t0,t1,aC,hb2,wr1,hmc,-AV.cells];refine ih _ _ ⟨_,_,.row (N2+1) 1 0 1,[w'],rfl,.inr ⟨N2+1,rfl,?_,by omega⟩,?_,?_,?_,by omega,?_,?_,?_,?_,?_,?_,?_⟩
    ·simp [aB,q1,t1]
    ·rw [Qh hi];refine RowsW.snoc (V:=[]) hV hT' hN ?_ (hmu.fr ?_) hnew hna
     ·intro j es0 hj;have hj2:=h5 j es0 hj;have:=aP hj2 hb2 (by simp);simp [aB,aC,this,hj2,hj]
     ·intro j hj;obtain ⟨es0,hj2⟩:=hmu.own hj;have:=aP hj2 hb2 (by simp);simp [aB,aC,this,hj2]
    ·exact Kp.setl (Kp.appL hkk (by simp;omega)) (.inr rfl)
    ·exact bV (by simp [Tail_append_iff,Tail_cons_iff,pS];exact ⟨hT2.mono (by omega),by omega⟩)
    ·simp [aB,aC,hb2]
    all_goals simp [*]
   ·have hl2:look id O2=some (.row 1 (V.map fun x=>[x])):=hk2.lk hT' hlk (by simp);have hbi:=aP hb2 hl2 (by simp);have hd1:look (N2+1) (bW id (O2++[(N2,.row 1 [[w']])]))=none:=K5 _ (by simp [t1]);have hd2:look b (bW id (O2++[(N2,.row 1 [[w']])]))=some (.row 4 [[.row id 1 0 i,w2,.Xu 2 [],.Xu 1 []]]):=by rw [bK hbi,aC,hb2];rfl
    have hc:(i+1)*24<=70368744177664:=by omega
    simp [c_226_k1,c_226_k2,d3,d6,d20,t0,aC,hb2,hw1,hl2,hVl,hd1,hd2,hc,hmc,-AV.cells];refine ih _ _ ⟨_,_,.row (N2+1) 1 0 (i+1),V++[w'],rfl,.inr ⟨N2+1,rfl,?_,by omega⟩,?_,?_,?_,by omega,?_,?_,?_,?_,?_,?_,?_⟩
    ·simp [aB,q1,hd1]
    ·rw [Qh hi];refine RowsW.snoc hV hT' hN ?_ (hmu.fr ?_) hnew hna
     ·intro j es0 hj;have hj2:=h5 j es0 hj;have n1:=aP hj2 hb2 (by simp);have n2:=aP hj2 hl2 (by simp);simp [aB,aC,bK n2,n1,hj2,hj]
     ·intro j hj;obtain ⟨es0,hj2⟩:=hmu.own hj;have n1:=aP hj2 hb2 (by simp);have n2:=aP hj2 hl2 (by simp);simp [aB,aC,bK n2,n1,hj2]
    ·exact Kp.setl (Kp.appL (Kp.drop (Kp.appL hkk (by simp;omega)) (.inl hid)) (by simp;omega)) (.inr rfl)
    ·refine bV ?_;rw [Tail_append_iff];exact ⟨G8 (by simp [Tail_append_iff,Tail_cons_iff,pS];exact ⟨hT2.mono (by omega),by omega⟩),by simp [Tail_cons_iff,pS]⟩
    ·simp [aB,aC,hd2]
    all_goals simp [*]
  cases hv' with
  | row id' _ es0 n hn hl' hle ht=>
   have h0:es0[i]? =some [A[i]]:=by
    have h:(es0.take (A.map fun x=>[x]).length)[i]? =(A.map fun x=>[x])[i]? :=by rw [ht]
    rw [List.getElem?_take_of_lt (by simpa using hA)] at h;rw [h];simp [hA]
   simp [c_226_l3,h18,h19,h20,hi,hA,hn,hl',h0,hxl,-lenOf];refine Oa R[i] hri.2 hri.1 A[i] _ _ _ O' N' hT' hx ?_ ?_ ?_ ?_ (after _ ?_ ?_ ?_ ?_ ?_ ?_)<;>simp [*]
  | _=>
   simp [c_226_l3,h18,h19,h20,hi,hA,hxl,-lenOf];refine Oa R[i] hri.2 hri.1 A[i] _ _ _ O' N' hT' hx ?_ ?_ ?_ ?_ (after _ ?_ ?_ ?_ ?_ ?_ ?_)<;>simp [*]
 ·rintro e' _ L hL ⟨O',N',w,V,rfl,hw,hV,hk,hT',hN,hb',h3,h18,h19,h20,g1,g2⟩;simp [c_226_l3,h19,h20,hL];rw [iI] at hV;refine hK _ O' N' w V ?_ ?_ hV hk hT' hN hb' ?_ ?_ ?_
  ·rcases hw with ⟨hz,rfl,rfl⟩ | ⟨id,rfl,hlk,hid⟩
   ·exact .nilF
   ·exact .row id _ _ _ (by simp [hV.len]) hlk (Qb _) (by rw [iI])
  ·rcases hw with ⟨hz,rfl,rfl⟩ | ⟨id,rfl,hlk,hid⟩
   ·intro j hj;cases hj
   ·intro j hj;cases hj;exact hid
  ·simp [g1]
  ·simp [g2]
  ·simp [*]
 ·exact ⟨O,N,.Xu 1 [],[],rfl,.inl ⟨rfl,rfl,rfl⟩,by simpa using RowsW.nil,fun _ _ _=>rfl,hT,Qb _,hb,h3,h18,h19,h20,rfl,rfl⟩
end
theorem D0 {α:Type} {f:α->List AV} {l:List α} {i:Nat} {es0:List (List AV)} (hi:i<l.length) (ht:es0.take (l.map f).length=l.map f):es0[i]? =some (f l[i]):=by
 have h:(es0.take (l.map f).length)[i]? =(l.map f)[i]? :=by rw [ht]
 rw [List.getElem?_take_of_lt (by simpa using hi)] at h;rw [h];simp [hi]
def Im (z:Nat) (v:AV) (es:List (List AV)):Prop:=v= .slice z es\/v= .Xu z es\/∃t,v= .app z es t
theorem Im.len {z:Nat} {v:AV} {es:List (List AV)} (h:Im z v es):lenOf v=some es.length:=by
 rcases h with rfl | rfl | ⟨t,rfl⟩<;>rfl
section
variable {β:Type} {fin:Option (Ex×St)->Option β}
theorem XY (D:List Xb) (hD:D.length<2^40) (hs:∀d∈D,d.args.length<2^40) (v w1 w2:AV) (b:Nat) (K:List Fr) (Q:Option β->Prop) (e:Env) (O:List (Nat×AO)) (N:Nat) (hT:Tail O N) (hv:Re O 2 v (D.map Xb.c))
  (hb:look b O=some (.row 4 [[w1,w2,.Xu 2 [],.Xu 1 []]])) (h3:look 3 e=some (.ptr b 4 0 0)) (h44:look 44 e=some v) (h45:look 45 e=some (a8 D.length)) (h46:look 46 e=some (a8 0))
  (hK:∀e' O' N' w,Mu O' 2 w (D.map Xb.c)->(∀j,vid w=some j->N<=j)->Kp (fun j=>j=b) N O O'->Tail O' N'->N<=N'->look b O'=some (.row 4 [[w1,w2,w,.Xu 1 []]])->
   look 1 e'=look 1 e->look 2 e'=look 2 e->look 3 e'=look 3 e->Q (go Φ fin K .normal ⟨e',⟨O',N'⟩⟩)):
  Q (go Φ fin (.c (.loop c_226_l4):: .b 4::K) .normal ⟨e,⟨O,N⟩⟩):=by
 have hvb:∀j,vid v=some j->j≠b:=by
  intro j hj;cases hv with
  | sl=>cases hj
  | fs=>cases hj
  | ap=>cases hj
  | row id _ es0 n hn hl hle ht=>cases hj;exact aP hl hb (by simp)
 refine fF D.length (fun i e' h=>∃O' N' w,h=⟨O',N'⟩/\((i=0/\w= .Xu 2 [])\/∃id,w= .row id 2 0 i/\look id O'=some (.row 2 ((D.map Xb.c).take i))/\N<=id)/\Kp (fun j=>j=b) N O O'/\Tail O' N'/\N<=N'/\
   look b O'=some (.row 4 [[w1,w2,w,.Xu 1 []]])/\look 3 e'=some (.ptr b 4 0 0)/\look 44 e'=some v/\look 45 e'=some (a8 D.length)/\look 46 e'=some (a8 i)/\
   look 1 e'=look 1 e/\look 2 e'=look 2 e) Q ?_ ?_ 0 _ _ (Qc _) ?_
 ·rintro i e' _ L hi hL ⟨O',N',w,rfl,hw,hk,hT',hN,hb',h3,h44,h45,h46,g1,g2⟩ ih;have hw1:=aL i (by omega);have hbN:b<N:=hT.lt hb;have hc:=R7 D[i] (hs _ (Qd hi));simp only [Xb.ce] at hc;have t0:=hT' N' (Qb _);have t1:=hT' (N'+1) (by omega);have q1:¬N'+1=b:=by omega
  have hm:min i D.length=i:=by omega
  have hbd:(i+1)*32<=70368744177664:=by omega
  have htk:(D.map Xb.c).take (i+1)=(D.map Xb.c).take i++[Xb.c D[i]]:=mJ hi;rw [Xb.ce] at htk;have hv':Re O' 2 v (D.map Xb.c):=by
   refine hv.fr fun j hj=>?_
   obtain ⟨x,hl⟩:=hv.own hj;exact hk j (hT.lt hl) (hvb j hj)
  rcases hw with ⟨rfl,rfl⟩ | ⟨id,rfl,hlk,hid⟩
  ·have htk1:(D.map Xb.c).take 1=[[a8 D[0].Xz,.slice 1 (D[0].args.map c32)]]:=by simpa using htk
   cases hv' with
   | row id' _ es0 n hn hl' hle ht=>
    have h0:=D0 hi ht;simp [c_226_l4,Xb.ce,h3,h44,h45,h46,hi,hc,t0,t1,hn,hl',h0,wr1,aC,hb'];refine ih _ _ ⟨_,_,.row (N'+1) 2 0 (0+1),rfl,.inr ⟨N'+1,rfl,?_,by omega⟩,Kp.setl (Kp.app hk (by omega)) (.inr rfl),bV (hT'.app1 (by omega)),by omega,?_,?_,?_,?_,?_,?_,?_⟩
    ·simp [aB,q1,t1,htk1]
    ·simp [aB,aC,hb']
    all_goals simp [*]
   | _=>
    simp [c_226_l4,Xb.ce,h3,h44,h45,h46,hi,hc,t0,t1,wr1,aC,hb'];refine ih _ _ ⟨_,_,.row (N'+1) 2 0 (0+1),rfl,.inr ⟨N'+1,rfl,?_,by omega⟩,Kp.setl (Kp.app hk (by omega)) (.inr rfl),bV (hT'.app1 (by omega)),by omega,?_,?_,?_,?_,?_,?_,?_⟩
    ·simp [aB,q1,t1,htk1]
    ·simp [aB,aC,hb']
    all_goals simp [*]
  ·have hbi:=aP hb' hlk (by simp);have hd1:look (N'+1) (bW id O')=none:=K5 _ t1;have hd2:look b (bW id O')=some (.row 4 [[w1,w2,.row id 2 0 i,.Xu 1 []]]):=by rw [bK hbi,hb']
   cases hv' with
   | row id' _ es0 n hn hl' hle ht=>
    have h0:=D0 hi ht;simp [c_226_l4,Xb.ce,h3,h44,h45,h46,hi,hc,t0,hn,hl',h0,hw1,aC,hb',hlk,hm,hbd,hd1,hd2];refine ih _ _ ⟨_,_,.row (N'+1) 2 0 (i+1),rfl,.inr ⟨N'+1,rfl,?_,by omega⟩,Kp.setl (Kp.app (Kp.drop hk (.inl hid)) (by omega)) (.inr rfl),bV ((G8 hT').app1 (by omega)),by omega,?_,?_,?_,?_,?_,?_,?_⟩
    ·simp [aB,q1,hd1,htk]
    ·simp [aB,aC,hd2]
    all_goals simp [*]
   | _=>
    simp [c_226_l4,Xb.ce,h3,h44,h45,h46,hi,hc,t0,hw1,aC,hb',hlk,hm,hbd,hd1,hd2];refine ih _ _ ⟨_,_,.row (N'+1) 2 0 (i+1),rfl,.inr ⟨N'+1,rfl,?_,by omega⟩,Kp.setl (Kp.app (Kp.drop hk (.inl hid)) (by omega)) (.inr rfl),bV ((G8 hT').app1 (by omega)),by omega,?_,?_,?_,?_,?_,?_,?_⟩
    ·simp [aB,q1,hd1,htk]
    ·simp [aB,aC,hd2]
    all_goals simp [*]
 ·rintro e' _ L hL ⟨O',N',w,rfl,hw,hk,hT',hN,hb',h3,h44,h45,h46,g1,g2⟩;simp [c_226_l4,h45,h46,hL];refine hK _ O' N' w ?_ ?_ hk hT' hN hb' ?_ ?_ ?_
  ·rcases hw with ⟨hz,rfl⟩ | ⟨id,rfl,hlk,hid⟩
   ·have:D=[]:=Qg hz;subst this;exact .nilF
   ·rw [Qo (by simp)] at hlk;exact .row id _ _ _ (by simp) hlk (Qb _) (by rw [iI])
  ·rcases hw with ⟨hz,rfl⟩ | ⟨id,rfl,hlk,hid⟩
   ·intro j hj;cases hj
   ·intro j hj;cases hj;exact hid
  ·simp [g1]
  ·simp [g2]
  ·simp [*]
 ·exact ⟨O,N,.Xu 2 [],rfl,.inl ⟨rfl,rfl⟩,fun _ _ _=>rfl,hT,Qb _,hb,h3,h44,h45,h46,rfl,rfl⟩
theorem XZ (G:List (List Int)) (hG:G.length<2^40) (hs:∀l∈G,l.length<2^40) (v w1 w2 w3:AV) (b:Nat) (K:List Fr) (Q:Option β->Prop) (e:Env) (O:List (Nat×AO)) (N:Nat) (hT:Tail O N) (hv:Im 1 v (G.map (cS 1 c32)))
  (hb:look b O=some (.row 4 [[w1,w2,w3,.Xu 1 []]])) (h3:look 3 e=some (.ptr b 4 0 0)) (h59:look 59 e=some v) (h60:look 60 e=some (a8 G.length)) (h61:look 61 e=some (a8 0))
  (hK:∀e' O' N' w,(w= .Xu 1 (G.map (cS 1 c32))\/∃t,w= .app 1 (G.map (cS 1 c32)) t)->Kp (fun j=>j=b) N O O'->Tail O' N'->N<=N'->look b O'=some (.row 4 [[w1,w2,w3,w]])->
   look 1 e'=look 1 e->look 2 e'=look 2 e->look 3 e'=look 3 e->Q (go Φ fin K .normal ⟨e',⟨O',N'⟩⟩)):
  Q (go Φ fin (.c (.loop c_226_l5):: .b 6::K) .normal ⟨e,⟨O,N⟩⟩):=by
 refine fF G.length (fun i e' h=>∃O' N' w,h=⟨O',N'⟩/\((i=0/\w= .Xu 1 [])\/∃id,w= .app 1 ((G.map (cS 1 c32)).take i) id/\look id O'=some (.tok 1 i)/\N<=id)/\Kp (fun j=>j=b) N O O'/\Tail O' N'/\N<=N'/\
   look b O'=some (.row 4 [[w1,w2,w3,w]])/\look 3 e'=some (.ptr b 4 0 0)/\look 59 e'=some v/\look 60 e'=some (a8 G.length)/\look 61 e'=some (a8 i)/\
   look 1 e'=look 1 e/\look 2 e'=look 2 e) Q ?_ ?_ 0 _ _ (Qc _) ?_
 ·rintro i e' _ L hi hL ⟨O',N',w,rfl,hw,hk,hT',hN,hb',h3,h59,h60,h61,g1,g2⟩ ih;have hw1:=aL i (by omega);have hbN:b<N:=hT.lt hb;have hc:=L6 G[i] (hs _ (Qd hi));have t0:=hT' N' (Qb _);have q0:¬N'=b:=by omega
  have q1:¬b=N':=by omega
  have hm:min i G.length=i:=by omega
  have hbd:(i+1)*24<=70368744177664:=by omega
  have htk:(G.map (cS 1 c32)).take (i+1)=(G.map (cS 1 c32)).take i++[cS 1 c32 G[i]]:=mJ hi;rw [cSe] at htk;rcases hw with ⟨rfl,rfl⟩ | ⟨id,rfl,hlk,hid⟩
  ·have htk1:(G.map (cS 1 c32)).take 1=[[.slice 1 (G[0].map c32)]]:=by simpa using htk
   rcases hv with rfl | rfl | ⟨t,rfl⟩
   all_goals
    simp [c_226_l5,cSe,h3,h59,h60,h61,hi,hc,t0,wr1,aC,hb'];refine ih _ _ ⟨_,_,.app 1 [[.slice 1 (G[0].map c32)]] N',rfl,.inr ⟨N',by rw [htk1],?_,by omega⟩,Kp.setl (Kp.app hk (by omega)) (.inr rfl),bV (hT'.app1 (by omega)),by omega,?_,?_,?_,?_,?_,?_,?_⟩
    ·simp [aB,q0,t0]
    ·simp [aB,aC,hb']
    all_goals simp [*]
  ·have hbi:=aP hb' hlk (by simp);have hib:¬id=b:=fun h=>hbi h.symm
   rcases hv with rfl | rfl | ⟨t,rfl⟩
   all_goals
    simp [c_226_l5,cSe,h3,h59,h60,h61,hi,hc,hw1,aB,hb',hbi,hlk,hm,hbd];refine ih _ _ ⟨_,_,.app 1 ((G.map (cS 1 c32)).take i++[[.slice 1 (G[i].map c32)]]) id,rfl,.inr ⟨id,by rw [htk],?_,hid⟩,Kp.setl (Kp.setl hk (.inl hid)) (.inr rfl),bV (bV hT'),by omega,?_,?_,?_,?_,?_,?_,?_⟩
    ·simp [aB,hlk,hib]
    ·simp [aB,hbi,hb']
    all_goals simp [*]
 ·rintro e' _ L hL ⟨O',N',w,rfl,hw,hk,hT',hN,hb',h3,h59,h60,h61,g1,g2⟩;simp [c_226_l5,h60,h61,hL];refine hK _ O' N' w ?_ hk hT' hN hb' ?_ ?_ ?_
  ·rcases hw with ⟨hz,rfl⟩ | ⟨id,rfl,hlk,hid⟩
   ·have:G=[]:=Qg hz;subst this;exact .inl rfl
   ·right;exact ⟨id,by rw [Qo (by simp)]⟩
  ·simp [g1]
  ·simp [g2]
  ·simp [*]
 ·exact ⟨O,N,.Xu 1 [],rfl,.inl ⟨rfl,rfl⟩,fun _ _ _=>rfl,hT,Qb _,hb,h3,h59,h60,h61,rfl,rfl⟩
end
structure CfgR (O:List (Nat×AO)) (v1 v2 v3 v4:AV) (A:List AV) (c:Xf):Prop where
 r:RowsR O v1 A c.rows
 n:Re O 1 v2 (c.Xr.map cI)
 d:Re O 2 v3 (c.Xq.map Xb.c)
 g:Im 1 v4 (c.Xm.map (cS 1 c32))
structure CfgU (c:Xf):Prop where
 t:CfgT c
 u:∀l∈c.rows,l.length<2^39
theorem CfgR.kp {O O':List (Nat×AO)} {v1 v2 v3 v4:AV} {A:List AV} {c:Xf} {N:Nat} {X:Nat->Prop} (h:CfgR O v1 v2 v3 v4 A c) (hT:Tail O N) (hk:Kp X N O O') (hx:∀j,X j->look j O=none\/N<=j):CfgR O' v1 v2 v3 v4 A c:=
 ⟨⟨h.r.v.kp hT hk hx,h.r.len,fun k x l ha hl=>(h.r.at_ k x l ha hl).kp hT hk hx⟩,h.n.kp hT hk hx,h.d.kp hT hk hx,h.g⟩
def Pt (N:Nat) (O:List (Nat×AO)) (c:Xf) (r:Option (Rt×AH)):Prop:=
 ∃w1 w2 w3 w4 V O' N',r=some (.val (.agg [w1,w2,w3,w4]),⟨O',N'⟩)/\CfgM O' w1 w2 w3 w4 V c/\(∀j,CfgM.own w1 w2 w3 V j->N<=j)/\Kp (fun _=>False) N O O'/\Tail O' N'/\N<=N'
theorem Ie (c:Xf) (s:CfgU c) {v1 v2 v3 v4:AV} {A:List AV} {O:List (Nat×AO)} {N:Nat} (hT:Tail O N) (h:CfgR O v1 v2 v3 v4 A c):Pt N O c (aI Φ fT [.agg [v1,v2,v3,v4]] ⟨O,N⟩):=by
 rw [dA rfl rfl];have t0:=hT N (Qb _);have t1:=hT (N+1) (by omega);have hT1:Tail (O++[(N,AO.row 4 [[v1,v2,v3,v4]]),(N+1,AO.row 4 [[.Xu 1 [],.Xu 1 [],.Xu 2 [],.Xu 1 []]])]) (N+1+1):=by
  rw [Tail_append_iff,Tail_cons_iff,Tail_cons_iff];exact ⟨hT.mono (by omega),by omega,by omega,Tail.nil _⟩
 have hk1:Kp (fun _=>False) N O (O++[(N,AO.row 4 [[v1,v2,v3,v4]]),(N+1,AO.row 4 [[.Xu 1 [],.Xu 1 [],.Xu 2 [],.Xu 1 []]])]):=Kp.appL (fun _ _ _=>rfl) (by simp);have hR1:=h.kp hT hk1 (by simp);have hc1:=hR1.n.cells;have c1:=h.r.v.cells;have c2:=h.n.cells;have c3:=h.d.cells;have c4:AV.cells v4=some [v4]:=by rcases h.g with e | e | ⟨t,e⟩<;>subst e<;>rfl
 simp [EP,t0,t1];generalize hO1:O++[(N,AO.row 4 [[v1,v2,v3,v4]]),(N+1,AO.row 4 [[.Xu 1 [],.Xu 1 [],.Xu 2 [],.Xu 1 []]])]=O1 at hT1 hk1 hR1 ⊢;have lb1:look N O1=some (.row 4 [[v1,v2,v3,v4]]):=by rw [<- hO1];simp [t0]
 have lb2:look (N+1) O1=some (.row 4 [[.Xu 1 [],.Xu 1 [],.Xu 2 [],.Xu 1 []]]):=by rw [<- hO1];simp [t1]
 obtain ⟨w2,o2,e2,m2,fw2⟩:=Y4 hT1 hR1.n s.t.nl;rw [e2];have n1:¬N+1+1=N:=by omega
 have t2:=hT1 (N+1+1) (Qb _);have t3:=hT1 (N+1+1+1) (by omega);have m2c:=m2.cells;have l1:=h.r.v.len;rw [cT,h.r.len] at l1;simp [t3,aC,lb1,m2c,l1,-AV.cells,-lenOf];have hT2:Tail (O1++[(N+1+1,o2),(N+1+1+1,AO.row 4 [[.Xu 1 [],w2,.Xu 2 [],.Xu 1 []]])]) (N+1+1+1+1):=by
  rw [Tail_append_iff,Tail_cons_iff,Tail_cons_iff];exact ⟨hT1.mono (by omega),by omega,by omega,Tail.nil _⟩
 have hk2:Kp (fun _=>False) (N+1+1) O1 (O1++[(N+1+1,o2),(N+1+1+1,AO.row 4 [[.Xu 1 [],w2,.Xu 2 [],.Xu 1 []]])]):=Kp.appL (fun _ _ _=>rfl) (by simp);have hR2:=hR1.kp hT1 hk2 (by simp);have lb3:look (N+1+1+1) (O1++[(N+1+1,o2),(N+1+1+1,AO.row 4 [[.Xu 1 [],w2,.Xu 2 [],.Xu 1 []]])])=some (.row 4 [[.Xu 1 [],w2,.Xu 2 [],.Xu 1 []]]):=by
  have:¬N+1+1=N+1+1+1:=by omega
  rw [aC,t3];simp
 have m2':Mu (O1++[(N+1+1,o2),(N+1+1+1,AO.row 4 [[.Xu 1 [],w2,.Xu 2 [],.Xu 1 []]])]) 1 w2 (c.Xr.map cI):=by
  refine m2.fr fun j hj=>?_
  obtain ⟨es0,hl⟩:=m2.own hj;have hlt:=(hT1.app1 (o:=o2) (Qb _)).lt hl;have:¬N+1+1+1=j:=by omega
  rw [show O1++[(N+1+1,o2),(N+1+1+1,AO.row 4 [[.Xu 1 [],w2,.Xu 2 [],.Xu 1 []]])]=(O1++[(N+1+1,o2)])++[(N+1+1+1,AO.row 4 [[.Xu 1 [],w2,.Xu 2 [],.Xu 1 []]])] by simp];rw [aC (b:=[(N+1+1+1,_)])];simp [this]
 have lc1:look N (O1++[(N+1+1,o2),(N+1+1+1,AO.row 4 [[.Xu 1 [],w2,.Xu 2 [],.Xu 1 []]])])=some (.row 4 [[v1,v2,v3,v4]]):=by rw [aC,lb1];rfl
 have lc2:look (N+1) (O1++[(N+1+1,o2),(N+1+1+1,AO.row 4 [[.Xu 1 [],w2,.Xu 2 [],.Xu 1 []]])])=some (.row 4 [[.Xu 1 [],.Xu 1 [],.Xu 2 [],.Xu 1 []]]):=by rw [aC,lb2];rfl
 have hk12:=hk1.trans hk2 (by omega);generalize O1++[(N+1+1,o2),(N+1+1+1,AO.row 4 [[.Xu 1 [],w2,.Xu 2 [],.Xu 1 []]])]=O2 at hT2 hR2 lb3 m2' lc1 lc2 hk12 ⊢;refine Y0 c.rows s.t.rl (fun l hl=>⟨s.u l hl,(s.t.rs l hl).2⟩) v1 w2 A (N+1+1+1) _ _ _ O2 _ hT2 hR2.r lb3 ?_ ?_ ?_ ?_ ?_
 ·simp
 ·simp
 ·simp
 ·simp
 intro e3 O3 N3 w1 V mw1 fw1 hV hk3 hT3 hN3 lb3' g1 g2 g3;simp at g1 g2 g3;have hx:∀j,j=N+1+1+1->look j O1=none\/N+1+1<=j:=fun j hj=> .inr (by omega)
 have ld1:look N O3=some (.row 4 [[v1,v2,v3,v4]]):=hk3.lk hT2 lc1 (by omega);have ld2:look (N+1) O3=some (.row 4 [[.Xu 1 [],.Xu 1 [],.Xu 2 [],.Xu 1 []]]):=hk3.lk hT2 lc2 (by omega);have hk13:Kp (fun _=>False) N O O3:=fun j hj _=>(hk3 j (by omega) (by omega)).trans (hk12 j hj (by simp))
 have hR3:=h.kp hT hk13 (by simp);have m23:Mu O3 1 w2 (c.Xr.map cI):=by
  refine m2'.fr fun j hj=>?_
  obtain ⟨es0,hl⟩:=m2'.own hj;exact hk3 j (hT2.lt hl) (aP hl lb3 (by simp))
 have l3:=h.d.len;simp [c_226_k8,g1,ld1,l3,-lenOf];refine XY c.Xq s.t.dl (fun d hd=>(s.t.ds d hd).1) v3 w1 w2 (N+1+1+1) _ _ _ O3 N3 hT3 hR3.d lb3' ?_ ?_ ?_ ?_ ?_
 ·simp [g3]
 ·simp
 ·simp
 ·simp
 intro e4 O4 N4 w3 mw3 fw3 hk4 hT4 hN4 lb4 f1 f2 f3;simp at f1 f2 f3;have le1:look N O4=some (.row 4 [[v1,v2,v3,v4]]):=hk4.lk hT3 ld1 (by omega);have le2:look (N+1) O4=some (.row 4 [[.Xu 1 [],.Xu 1 [],.Xu 2 [],.Xu 1 []]]):=hk4.lk hT3 ld2 (by omega);have m24:Mu O4 1 w2 (c.Xr.map cI):=by
  refine m23.fr fun j hj=>?_
  obtain ⟨es0,hl⟩:=m23.own hj;exact hk4 j (hT3.lt hl) (aP hl lb3' (by simp))
 have m14:Mu O4 1 w1 (V.map fun x=>[x]):=by
  refine mw1.fr fun j hj=>?_
  obtain ⟨es0,hl⟩:=mw1.own hj;exact hk4 j (hT3.lt hl) (aP hl lb3' (by simp))
 have hV4:RowsW O4 (N+1+1+1+1) V c.rows:=hV.fr fun j es0 hl=>hk4 j (hT3.lt hl) (aP hl lb3' (by simp))
 have l4:lenOf v4=some c.Xm.length:=by have:=h.g.len;rw [cT] at this;exact this
 simp [c_226_k7,f1,g1,le1,l4,-lenOf];refine XZ c.Xm s.t.gl (fun l hl=>(s.t.gs l hl).1) v4 w1 w2 w3 (N+1+1+1) _ _ _ O4 N4 hT4 h.g lb4 ?_ ?_ ?_ ?_ ?_
 ·simp [f3,g3]
 ·simp
 ·simp
 ·simp
 intro e5 O5 N5 w4 mw4 hk5 hT5 hN5 lb5 d1 d2 d3;simp at d1 d2 d3;have lf2:look (N+1) O5=some (.row 4 [[.Xu 1 [],.Xu 1 [],.Xu 2 [],.Xu 1 []]]):=hk5.lk hT4 le2 (by omega);simp [c_226_k6,d2,d3,f2,f3,g2,g3,lb5,lf2,aB];refine ⟨w1,w2,w3,w4,V,_,N5,rfl,?_,?_,?_,bV hT5,by omega⟩
 ·have keep:∀j z es0,z≠4->look j O4=some (.row z es0)->look j (setl (N+1) (.row 4 [[w1,w2,w3,w4]]) O5)=look j O4:=by
   intro j z es0 hz hl;have h5:=hk5 j (hT4.lt hl) (aP hl lb4 (by simp [hz]));have hl5:look j O5=some (.row z es0):=by rw [h5,hl]
   rw [aB,QA (aP hl5 lf2 (by simp [hz])),h5]
  refine ⟨m14.fr fun j hj=>?_,hV4.len,?_,m24.fr fun j hj=>?_,mw3.fr fun j hj=>?_,mw4,?_,hV4.inj,hV4.na⟩
  ·obtain ⟨es0,hl⟩:=m14.own hj;exact keep j 1 es0 (by decide) hl
  ·intro k v l hv hl;refine (hV4.mu k v l hv hl).fr fun j hj=>?_
   obtain ⟨es0,hl⟩:=(hV4.mu k v l hv hl).own hj;exact keep j 5 es0 (by decide) hl
  ·obtain ⟨es0,hl⟩:=m24.own hj;exact keep j 1 es0 (by decide) hl
  ·obtain ⟨es0,hl⟩:=mw3.own hj;exact keep j 2 es0 (by decide) hl
  ·intro i h1 h2;have:=fw1 i h1;obtain ⟨es0,hl⟩:=m2'.own h2;have:=hT2.lt hl;omega
 ·intro j hj;rcases hj with hj | hj | hj | ⟨v,hv,hj⟩
  ·have:=fw1 j hj;omega
  ·have:=fw2 j hj;omega
  ·have:=fw3 j hj;omega
  ·have:=hV4.fresh v hv j hj;omega
 ·intro j hj _;rw [aB,QA (by omega),hk5 j (by omega) (by omega),hk4 j (by omega) (by omega),hk3 j (by omega) (by omega)];exact hk12 j hj (by simp)
def pG:List Rw->Nat->List (AV×AV)
 | [],_=>[]
 | r::l,n=>(.int .i64 r.id,.int .i64 n)::pG l (n+1)
def ents (l:List Rw):List (AV×AV):=pG l 0
theorem Ke (r:Rw):∀(l:List Rw) (n:Nat),pG (l++[r]) n=pG l n++[(a8 r.id,a8 ((n+l.length:Nat):Int))]
 | [],n=>by simp [pG]
 | a::l,n=>by
  have ih:=Ke r l (n+1);simp only [qI,pG,ih,BU];rw [show n+1+l.length=n+(l.length+1) by omega]
theorem Lt (l:List Rw) (r:Rw):ents (l++[r])=ents l++[(a8 r.id,a8 (l.length:Nat))]:=by
 unfold ents;rw [Ke,wA]
theorem Es (x:Int) (v:AV):∀(l:List Rw) (n:Nat),(∀r∈l,r.id≠x)->putA .i (a8 x) v (pG l n)=some (pG l n++[(a8 x,v)])
 | [],n,_=>rfl
 | r::l,n,h=>by
  have ih:=Es x v l (n+1) fun r hr=>h r (by simp [hr])
  have h1:¬x=r.id:=fun e=>h r (by simp) e.symm
  simp only [pG,putA,eqKd,if_true];have:(x == r.id)=false:=by simpa using h1
  rw [this];simp only [ih,vK,qI]
theorem Ki (x:Int):∀(l:List Rw) (n:Nat),gV .i (a8 x) (pG l n)=some ((rIdx l x).map fun i=> a8 ((i+n:Nat):Int))
 | [],n=>rfl
 | r::l,n=>by
  have ih:=Ki x l (n+1);unfold rIdx at ih ⊢;simp only [pG,gV,eqKd,if_true,List.findIdx?_cons];by_cases h:x=r.id
  ·subst h;simp
  ·have h':(x == r.id)=false:=by simpa using h
   have h'':¬r.id=x:=fun e=>h e.symm
   rw [h'];simp only [ih,h'',decide_false,Option.map_map,iH,if_false];congr 2;funext i;simp only [Function.comp_apply];rw [show i+(n+1)=i+1+n by omega]
theorem qz2 (x:Int) (l:List Rw):gV .i (a8 x) (ents l)=some ((rIdx l x).map fun (i:Nat)=> a8 (i:Int)):=Ki x l 0
def Qx (N:Nat) (O:List (Nat×AO)) (iid k:Nat) (es:List (List AV)) (l:List Rw) (r:Option (Rt×AH)):Prop:=
 ∃O' N',r=some (.val (.tup []),⟨O',N'⟩)/\look iid O'=some (.row 1 (es.set k [.map N]))/\look N O'=some (.map (ents l))/\Kp (fun j=>j=iid) N O O'/\Tail O' N'/\N<N'
theorem Kq {O:List (Nat×AO)} {N sid iid k:Nat} {v1 v2 v3 v4:AV} {R:List AV} {V:List AV} {l:List Rw} {es:List (List AV)} {n:Nat} (hT:Tail O N) (hl:l.length<2^39) (hk:k<n) (hVk:k<V.length)
  (hs:look sid O=some (.row 15 [v1::v2::v3::v4::(R++[.row iid 1 0 n,.bool true])])) (hR:R.length=9) (hi:look iid O=some (.row 1 es)) (hn:n<=es.length) (hes:∃x,es[k]? =some [x])
  (h1:Mu O 1 v1 (V.map fun x=>[x])) (h5:Mu O 5 V[k] (l.map Rw.c)) (hri:vid v1≠some iid) (hinc:l.Pairwise fun a b=>a.id<b.id) (hk39:k<2^40):
  Qx N O iid k es l (aI Φ nR [.ptr sid 15 0 0,a8 k] ⟨O,N⟩):=by
 rw [dA rfl rfl];obtain ⟨r0,r1,r2,r3,r4,r5,r6,r7,r8,rfl⟩:∃r0 r1 r2 r3 r4 r5 r6 r7 r8,R=[r0,r1,r2,r3,r4,r5,r6,r7,r8]:=by
  match R,hR with
  | [r0,r1,r2,r3,r4,r5,r6,r7,r8],_=>exact ⟨_,_,_,_,_,_,_,_,_,rfl⟩
 obtain ⟨x,hx⟩:=hes;have t0:=hT N (Qb _);have hsi:=aP hs hi (by simp);have fi:=BC hT hi (Qb N);have fs:=BC hT hs (Qb N);obtain ⟨rid,es1,e1,hl1,hle1,ht1⟩:=h1.nonempty (by simp;omega);subst e1;have hrid:¬rid=iid:=fun e=>hri (by rw [e];rfl)
 have fr:=BC hT hl1 (Qb N);have g1:es1[k]? =some [V[k]]:=D0 hVk ht1;have hkn:k<V.length:=hVk;have hken:k<es.length:=by omega
 have h5l:=h5.len;rw [cT] at h5l;simp [F8,hs,hi,t0,aC,hk,hx,aB,hsi,fi,fs,hl1,hrid,g1,hVk,h5l,-lenOf];have hT1:Tail (setl iid (AO.row 1 (es.set k [.map N])) (O++[(N,AO.map [])])) (N+1):=bV (hT.app1 (Qb _));have hk1:Kp (fun j=>j=iid) N O (setl iid (AO.row 1 (es.set k [.map N])) (O++[(N,AO.map [])])):=Kp.setl (Kp.app (fun _ _ _=>rfl) (Qb _)) (.inr rfl);have a1:look iid (setl iid (AO.row 1 (es.set k [.map N])) (O++[(N,AO.map [])]))=some (.row 1 (es.set k [.map N])):=by simp [aB,aC,hi]
 have a2:look N (setl iid (AO.row 1 (es.set k [.map N])) (O++[(N,AO.map [])]))=some (.map []):=by simp [aB,fi,t0]
 generalize setl iid (AO.row 1 (es.set k [.map N])) (O++[(N,AO.map [])])=O1 at hT1 hk1 a1 a2 ⊢;have a3:look sid O1=some (.row 15 [AV.row rid 1 0 V.length::v2::v3::v4::([r0,r1,r2,r3,r4,r5,r6,r7,r8]++[.row iid 1 0 n,.bool true])]):=by
  rw [hk1 sid (hT.lt hs) hsi,hs];simp
 have h51:Mu O1 5 V[k] (l.map Rw.c):=by
  refine h5.fr fun j hj=>?_
  obtain ⟨es0,hl0⟩:=h5.own hj;exact hk1 j (hT.lt hl0) (aP hl0 hi (by simp))
 refine fF l.length (fun i e h=>∃O' N',h=⟨O',N'⟩/\Kp (fun j=>j=N) (N+1) O1 O'/\Tail O' N'/\N+1<=N'/\look N O'=some (.map (ents (l.take i)))/\look 0 e=some (.ptr sid 15 0 0)/\look 1 e=some (a8 k)/\look 20 e=some V[k]/\look 21 e=some (a8 l.length)/\look 22 e=some (a8 i)) (Qx N O iid k es l) ?_ ?_ 0 _ _ (Qc _) ?_
 ·rintro i e _ L hi' hL ⟨O',N',rfl,hk',hT',hN',b2,e0,e1,e20,e21,e22⟩ ih;have hw1:=aL i (by omega);have u0:=hT' N' (Qb _);have fN:¬N'=N:=by omega
  have b1:look iid O'=some (.row 1 (es.set k [.map N])):=hk'.lk hT1 a1 (by omega);have b3:=hk'.lk hT1 a3 (by omega);have b4:(es.set k [AV.map N])[k]? =some [.map N]:=by rw [List.getElem?_set_self hken]
  have hne:∀r∈l.take i,r.id≠l[i].id:=by
   intro r hr;rw [List.mem_take_iff_getElem] at hr;obtain ⟨m,hm,rfl⟩:=hr;have:=H8.1 hinc m i (by omega) hi' (by omega);omega
  have hp:=Es l[i].id (a8 i) (l.take i) 0 hne;have hml:min i l.length=i:=by omega
  have hsn:ents (l.take (i+1))=ents (l.take i)++[(a8 l[i].id,a8 (i:Nat))]:=by
   rw [Qh hi',Lt,qH,hml]
  rw [show pG (l.take i) 0=ents (l.take i) from rfl] at hp;have h5':Mu O' 5 V[k] (l.map Rw.c):=by
   refine h51.fr fun j hj=>?_
   obtain ⟨es0,hl0⟩:=h51.own hj;exact hk' j (hT1.lt hl0) (aP hl0 a2 (by simp))
  obtain ⟨r5',es5,ev,hl5,hle5,ht5⟩:=h5'.nonempty (by simp;omega);have g5:=D0 hi' ht5;rw [ev] at e20;have f1:=BC hT' b1 (Qb N');have f3:=BC hT' b3 (Qb N');simp [c_288_l0,Rw.ce,e0,e1,e20,e21,e22,hi',hl5,g5,u0,b3,b1,hken,hk,b2,hp,hw1];refine ih _ _ ⟨_,_,rfl,Kp.setl hk' (.inr rfl),bV (hT'.mono (by omega)),by omega,?_,?_,?_,?_,?_,?_⟩
  ·simp [aB,b2,hsn]
  all_goals simp [*]
 ·rintro e _ L hL ⟨O',N',rfl,hk',hT',hN',b2,e0,e1,e20,e21,e22⟩;simp [c_288_l0,e21,e22,hL];refine ⟨O',N',rfl,hk'.lk hT1 a1 (by omega),?_,?_,hT',by omega⟩
  ·rw [b2,iI]
  ·intro j hj hx;rw [hk' j (by omega) (by omega)];exact hk1 j hj hx
 ·refine ⟨O1,N+1,rfl,fun _ _ _=>rfl,hT1,Qb _,a2,?_,?_,?_,?_,?_⟩<;>simp
structure SV where
 s:Nat
 v1:AV
 v2:AV
 v3:AV
 v4:AV
 vi:AV
 V:List AV
 M:List Nat
def SV.cells (S:SV) (p:Prg):List AV:=S.v1::S.v2::S.v3::S.v4::(Prg.c p++[S.vi,.bool true])
structure IdxM (O:List (Nat×AO)) (vi:AV) (M:List Nat) (R:List (List Rw)):Prop where
 i:Mu O 1 vi (M.map fun m=>[.map m])
 len:M.length=R.length
 m:∀(k m:Nat) (l:List Rw),M[k]? =some m->R[k]? =some l->look m O=some (.map (ents l))
 nd:∀(k k' m:Nat),M[k]? =some m->M[k']? =some m->k=k'
structure StoreM (O:List (Nat×AO)) (S:SV) (p:Prg) (c:Xf):Prop where
 s:look S.s O=some (.row 15 [S.cells p])
 cm:CfgM O S.v1 S.v2 S.v3 S.v4 S.V c
 x:IdxM O S.vi S.M c.rows
 ri:∀i,vid S.v1=some i->vid S.vi=some i->False
 ni:∀i,vid S.v2=some i->vid S.vi=some i->False
def SV.own (S:SV) (j:Nat):Prop:=j=S.s\/CfgM.own S.v1 S.v2 S.v3 S.V j\/vid S.vi=some j\/j∈S.M
theorem IdxM.fr {O O':List (Nat×AO)} {vi:AV} {M:List Nat} {R:List (List Rw)} (h:IdxM O vi M R) (hf:∀j,vid vi=some j\/j∈M->look j O'=look j O):IdxM O' vi M R:=
 ⟨h.i.fr fun j hj=>hf j (.inl hj),h.len,fun k m l hm hl=>by rw [hf m (.inr (Qe hm))];exact h.m k m l hm hl,h.nd⟩
theorem StoreM.fr {O O':List (Nat×AO)} {S:SV} {p:Prg} {c:Xf} (h:StoreM O S p c) (hf:∀j,S.own j->look j O'=look j O):StoreM O' S p c:=
 ⟨by rw [hf _ (.inl rfl)];exact h.s,h.cm.fr fun j hj=>hf j (.inr (.inl hj)),h.x.fr fun j hj=>hf j (.inr (.inr hj)),h.ri,h.ni⟩
theorem CfgM.own_lk {O:List (Nat×AO)} {v1 v2 v3 v4:AV} {V:List AV} {c:Xf} (h:CfgM O v1 v2 v3 v4 V c) {j:Nat} (hj:CfgM.own v1 v2 v3 V j):∃z es,look j O=some (.row z es)/\(z=1\/z=2\/z=5):=by
 rcases hj with hj | hj | hj | ⟨v,hv,hj⟩
 ·obtain ⟨es,hl⟩:=h.r.own hj;exact ⟨1,es,hl,.inl rfl⟩
 ·obtain ⟨es,hl⟩:=h.n.own hj;exact ⟨1,es,hl,.inl rfl⟩
 ·obtain ⟨es,hl⟩:=h.d.own hj;exact ⟨2,es,hl,.inr (.inl rfl)⟩
 ·obtain ⟨k,hk,rfl⟩:=Qn.1 hv;have hk2:k<c.rows.length:=by rw [<- h.rl];exact hk
  obtain ⟨es,hl⟩:=(h.rv k _ _ (Qa hk) (Qa hk2)).own hj;exact ⟨5,es,hl,.inr (.inr rfl)⟩
theorem IdxM.own_lk {O:List (Nat×AO)} {vi:AV} {M:List Nat} {R:List (List Rw)} (h:IdxM O vi M R) {j:Nat} (hj:j∈M):∃es,look j O=some (.map es):=by
 obtain ⟨k,hk,rfl⟩:=Qn.1 hj;have hk2:k<R.length:=by rw [<- h.len];exact hk
 exact ⟨_,h.m k _ _ (Qa hk) (Qa hk2)⟩
theorem StoreM.own_lk {O:List (Nat×AO)} {S:SV} {p:Prg} {c:Xf} (h:StoreM O S p c) {j:Nat} (hj:S.own j):∃x,look j O=some x/\x≠ .res:=by
 rcases hj with rfl | hj | hj | hj
 ·exact ⟨_,h.s,by simp⟩
 ·obtain ⟨z,es,hl,_⟩:=h.cm.own_lk hj;exact ⟨_,hl,by simp⟩
 ·obtain ⟨es,hl⟩:=h.x.i.own hj;exact ⟨_,hl,by simp⟩
 ·obtain ⟨es,hl⟩:=h.x.own_lk hj;exact ⟨_,hl,by simp⟩
theorem StoreM.kp {O O':List (Nat×AO)} {N:Nat} {X:Nat->Prop} {S:SV} {p:Prg} {c:Xf} (h:StoreM O S p c) (hT:Tail O N) (hk:Kp X N O O') (hx:∀j,S.own j->¬X j):StoreM O' S p c:=by
 refine h.fr fun j hj=>?_
 obtain ⟨x,hl,_⟩:=h.own_lk hj;exact hk j (hT.lt hl) (hx j hj)
theorem CfgM.re {O:List (Nat×AO)} {v1 v2 v3 v4:AV} {V:List AV} {c:Xf} (h:CfgM O v1 v2 v3 v4 V c):CfgR O v1 v2 v3 v4 V c:=
 ⟨⟨h.r.re,h.rl,fun k x l hx hl=>(h.rv k x l hx hl).re⟩,h.n.re,h.d.re,by rcases h.g with e | ⟨t,e⟩;exact .inr (.inl e);exact .inr (.inr ⟨t,e⟩)⟩
theorem CfgR.imm {O:List (Nat×AO)} (c:Xf):CfgR O (.slice 1 (c.rows.map (cS 5 Rw.c))) (.slice 1 (c.Xr.map cI)) (.slice 2 (c.Xq.map Xb.c)) (.slice 1 (c.Xm.map (cS 1 c32))) (c.rows.map fun l=> .slice 5 (l.map Rw.c)) c:=by
 refine ⟨⟨?_,by simp,?_⟩,.sl _,.sl _,.inl rfl⟩
 ·have:(c.rows.map fun l=>AV.slice 5 (l.map Rw.c)).map (fun x=>[x])=c.rows.map (cS 5 Rw.c):=by
   rw [List.map_map];rfl
  rw [this];exact .sl _
 ·intro k x l hx hl;rw [List.getElem?_map,hl] at hx;cases hx;exact .sl _
def Rs (O:List (Nat×AO)) (j:Nat):Prop:=look j O=some .res
def Pu (N:Nat) (O:List (Nat×AO)) (p:Prg) (c:Xf) (r:Option (Rt×AH)):Prop:=
 ∃S O' N',r=some (.val (.ptr S.s 15 0 0),⟨O',N'⟩)/\StoreM O' S p c/\(∀j,S.own j->N<=j)/\Kp (Rs O) N O O'/\Tail O' N'/\N<=N'
theorem Pc (p:Prg) (op:p.Ok dO) (c:Xf) (u:CfgU c) (hinc:∀l∈c.rows,l.Pairwise fun a b=>a.id<b.id) {v1 v2 v3 v4:AV} {A:List AV} {O:List (Nat×AO)} {N:Nat} (hT:Tail O N) (h:CfgR O v1 v2 v3 v4 A c):
  Pu N O p c (aI Φ kW [.agg (Prg.c p),.agg [v1,v2,v3,v4]] ⟨O,N⟩):=by
 rw [dA rfl rfl];have hcl:=U0 p op;simp only [Prg.e] at hcl;have t0:=hT N (Qb _);have t13:=hT (N+1+12) (by omega);have n13:¬N=N+1+12:=by omega
 simp [EN,Prg.e,t0,aC];have hT1:Tail (O++[(N,AO.row 4 [[v1,v2,v3,v4]]),(N+1+12,AO.res)]) (N+1+12+1):=by
  rw [Tail_append_iff,Tail_cons_iff,Tail_cons_iff];exact ⟨hT.mono (by omega),by omega,by omega,Tail.nil _⟩
 have hk1:Kp (fun _=>False) N O (O++[(N,AO.row 4 [[v1,v2,v3,v4]]),(N+1+12,AO.res)]):=Kp.appL (fun _ _ _=>rfl) (by simp;omega);have hres:look (N+1+12) (O++[(N,AO.row 4 [[v1,v2,v3,v4]]),(N+1+12,AO.res)])=some .res:=by simp [t13,n13]
 obtain ⟨w1,w2,w3,w4,V,O2,N2,e2,m2,f2,hk2,hT2,hN2⟩:=Ie c u hT1 (h.kp hT hk1 (by simp));have hres2:look (N+1+12) O2=some .res:=hk2.lk hT1 hres (by simp);rw [e2];have hs1:∀cs,look (N+1+12) (bZ (setl (N+1+12) (.row 15 cs) O2))=some (.row 15 cs):=fun cs=>by
  rw [aR (by simp [aB,hres2])];simp [aB,hres2]
 have hs2:∀cs,Tail (bZ (setl (N+1+12) (.row 15 cs) O2)) N2:=fun cs=>CU (bV hT2)
 have hs3:∀cs,look N2 (bZ (setl (N+1+12) (.row 15 cs) O2))=none:=fun cs=>hs2 cs _ (Qb _)
 have hs4:∀cs z es j,z≠15->look j O2=some (.row z es)->look j (bZ (setl (N+1+12) (.row 15 cs) O2))=some (.row z es):=fun cs z es j hz hl=>by
  have hne:j≠N+1+12:=aP hl hres2 (by simp);rw [aR (by simp [aB,hne,hl])];simp [aB,hne,hl]
 have hs5:∀cs,Kp (Rs O) N O (bZ (setl (N+1+12) (.row 15 cs) O2)):=fun cs j hj hx=>by
  have hne:j≠N+1+12:=by omega
  have h2:look j O2=look j O:=(hk2 j (by omega) (by simp)).trans (hk1 j hj (by simp));rw [aR (by rw [aB,QA hne,h2];exact hx),aB,QA hne,h2]
 have n2:¬N2=N+1+12:=by omega
 have l1:=m2.r.len;rw [cT,m2.rl] at l1;have hrl:=u.t.rl;have b1:(c.rows.length:Int)*8<=140737488355328:=by omega
 have b2:c.rows.length<4611686018427387904:=by omega
 have w1c:=m2.r.cells;simp [hcl,hres2,hs1,hs3,aC,aB,l1,n2,b1,b2,-lenOf,-AV.cells];generalize hO3:setl (N+1+12) _ (_++[(N2,AO.row 1 (List.replicate c.rows.length [AV.nilmap]))])=O3;have hT3:Tail O3 (N2+1):=by rw [<- hO3];exact bV ((hs2 _).app1 (Qb _))
 have hk3:Kp (Rs O) N O O3:=by rw [<- hO3];exact Kp.setl (Kp.app (hs5 _) (by omega)) (.inl (by omega))
 have ls:look (N+1+12) O3=some (.row 15 [w1::w2::w3::w4::(Prg.c p++[.row N2 1 0 c.rows.length,.bool true])]):=by
  rw [<- hO3,aB,aE rfl,aC,hs1,Prg.e];rfl
 have li:look N2 O3=some (.row 1 (List.replicate c.rows.length [AV.nilmap])):=by
  rw [<- hO3,aB,QA n2,aC,hs3];simp
 have lo:∀z es j,z≠15->look j O2=some (.row z es)->look j O3=look j O2:=fun z es j hz hl=>by
  have hne:j≠N+1+12:=aP hl hres2 (by simp);rw [<- hO3,aB,QA hne,aC,hs4 _ z es j hz hl,hl];rfl
 have m3:CfgM O3 w1 w2 w3 w4 V c:=m2.fr fun j hj=>by
  obtain ⟨z,es,hl,hz⟩:=m2.own_lk hj;exact lo z es j (by omega) hl
 clear hO3;have fo:∀j,CfgM.own w1 w2 w3 V j->j≠N2:=fun j hj=>by
  obtain ⟨z,es,hl,hz⟩:=m2.own_lk hj;have:=hT2.lt hl;omega
 refine fF c.rows.length (fun i e h=>∃(O':List (Nat×AO)) (N':Nat) (M:List Nat),h=⟨O',N'⟩/\Kp (fun j=>j=N2) (N2+1) O3 O'/\Tail O' N'/\N2+1<=N'/\look N2 O'=some (.row 1 (M.map (fun m=>[AV.map m])++List.replicate (c.rows.length - i) [AV.nilmap]))/\M.length=i/\
   (∀(k m:Nat) (l:List Rw),M[k]? =some m->c.rows[k]? =some l->look m O'=some (.map (ents l)))/\(∀m∈M,N2+1<=m)/\(∀(k k' m:Nat),M[k]? =some m->M[k']? =some m->k=k')/\
   look 5 e=some (.ptr (N+1+12) 15 0 0)/\look 28 e=some (a8 c.rows.length)/\look 29 e=some (a8 i)) (Pu N O p c) ?_ ?_ 0 _ _ (Qc _) ?_
 ·rintro i e _ L hi hL ⟨O',N',M,rfl,hk',hT',hN',ln,hMl,hMe,hMf,hMn,e5,e28,e29⟩ ih;have hw:=aL i (by omega);have hVi:i<V.length:=by rw [m2.rl];exact hi
  have ls':=hk'.lk hT3 ls (by omega);have m3':CfgM O' w1 w2 w3 w4 V c:=m3.fr fun j hj=>by
   obtain ⟨z,es,hl,hz⟩:=m3.own_lk hj;exact hk' j (hT3.lt hl) (fo j hj)
  have hes:(M.map (fun m=>[AV.map m])++List.replicate (c.rows.length - i) [AV.nilmap]).length=c.rows.length:=by simp [hMl];omega
  have hr:=Kq (k:=i) (n:=c.rows.length) (V:=V) (l:=c.rows[i]) (R:=Prg.c p) hT' (u.u _ (Qd hi)) hi hVi ls' (by simp) ln (Nat.le_of_eq hes.symm) ?_ m3'.r (m3'.rv i _ _ (Qa hVi) (Qa hi)) ?_ (hinc _ (Qd hi)) (by omega)
  rotate_left
  ·refine ⟨.nilmap,?_⟩;rw [Qp (by simp;omega),List.getElem?_replicate,aE (by simp [hMl];omega)]
  ·intro hc;exact fo N2 (.inl hc) rfl
  obtain ⟨O4,N4,e4,r1,r2,hk4,hT4,hN4⟩:=hr;simp [c_221_l0,e5,e28,e29,hi,e4,hw];refine ih _ _ ⟨O4,N4,M++[N'],rfl,?_,hT4,by omega,?_,by simp [hMl],?_,?_,?_,?_,?_,?_⟩
  ·intro j hj hx;rw [hk4 j (by omega) hx,hk' j hj hx]
  ·rw [r1];congr 1;have hd:c.rows.length - i=(c.rows.length - (i+1))+1:=by omega
   rw [hd,List.replicate_succ,List.set_append_right _ _ (by simp [hMl])];simp [hMl]
  ·intro k m l hm hl;by_cases hk:k<M.length
   ·rw [Ql hk] at hm;have h0:=hMe k m l hm hl;exact hk4.lk hT' h0 (by have:=hMf m (Qe hm);omega)
   ·have hb:=(Qm.1 hm).1;simp at hb;have hk:k=M.length:=by omega
    subst hk;rw [Qp (by omega)] at hm;simp at hm;subst hm;rw [hMl,Qa hi] at hl;cases hl;exact r2
  ·intro m hm;rcases eU.1 hm with hm | hm
   ·exact hMf m hm
   ·simp at hm;omega
  ·intro k k' m hm hm';have hb:=(Qm.1 hm).1;have hb':=(Qm.1 hm').1;simp at hb hb';have hlt:∀m,m∈M->m<N':=fun m hm=>by
    obtain ⟨q,hq,rfl⟩:=Qn.1 hm;exact hT'.lt (hMe q _ _ (Qa hq) (Qa (by omega)))
   by_cases hk:k<M.length
   ·by_cases hk':k'<M.length
    ·rw [Ql hk] at hm;rw [Ql hk'] at hm';exact hMn k k' m hm hm'
    ·rw [Ql hk] at hm;rw [Qp (by omega),show k' - M.length=0 by omega] at hm';simp at hm';have:=hlt m (Qe hm);omega
   ·by_cases hk':k'<M.length
    ·rw [Ql hk'] at hm';rw [Qp (by omega),show k - M.length=0 by omega] at hm;simp at hm;have:=hlt m (Qe hm');omega
    ·omega
  ·simp [e5]
  ·simp [e28]
  ·simp
 ·rintro e _ L hL ⟨O',N',M,rfl,hk',hT',hN',ln,hMl,hMe,hMf,hMn,e5,e28,e29⟩;simp [c_221_l0,c_221_k1,e5,e28,e29,hL];have ls':=hk'.lk hT3 ls (by omega);have m3':CfgM O' w1 w2 w3 w4 V c:=m3.fr fun j hj=>by
   obtain ⟨z,es,hl,hz⟩:=m3.own_lk hj;exact hk' j (hT3.lt hl) (fo j hj)
  refine ⟨⟨N+1+12,w1,w2,w3,w4,.row N2 1 0 c.rows.length,V,M⟩,O',N',rfl,⟨ls',m3',⟨?_,hMl,hMe,hMn⟩,?_,?_⟩,?_,?_,hT',by omega⟩
  ·rw [Nat.sub_self,List.replicate_zero,List.append_nil] at ln;exact .row N2 _ _ _ (by simp [hMl]) ln (Qb _) (by rw [iI])
  ·intro j h1 h2;cases h2;exact fo _ (.inl h1) rfl
  ·intro j h1 h2;cases h2;exact fo _ (.inr (.inl h1)) rfl
  ·intro j hj;rcases hj with rfl | hj | hj | hj
   ·simp only;omega
   ·have:=f2 j hj;omega
   ·cases hj;omega
   ·have:=hMf j hj;omega
  ·intro j hj hx;rw [hk' j (by omega) (by omega)];exact hk3 j hj hx
 ·exact ⟨O3,N2+1,[],rfl,fun _ _ _=>rfl,hT3,Qb _,by simpa using li,rfl,by simp,by simp,by simp,by simp,by simp,by simp⟩
theorem NM {O:List (Nat×AO)} {n p:Nat} {o:AO} (h:Tail O n) (hp:p<n):Tail (O++[(p,o)]) n:=by
 rw [Tail_append_iff,Tail_cons_iff];exact ⟨h,hp,Tail.nil _⟩
end Go.Av
