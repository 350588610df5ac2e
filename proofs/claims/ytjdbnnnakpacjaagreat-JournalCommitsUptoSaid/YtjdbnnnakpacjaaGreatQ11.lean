/-
 Contents of registers: the reference's check.
-/
import Derived.Test.YtjdbnnnakpacjaaGreatE1K
set_option linter.unusedVariables false
set_option linter.unusedSimpArgs false
set_option linter.constructorNameAsVariable false
namespace Go.Av
set_option maxRecDepth 4000
def wd (w:Int):Nat:=if wBad w then 0 else w.toNat
theorem wd_le (w:Int):wd w<=32:=by
 unfold wd;cases q:wBad w with
 | true=>simp
 | false=>
  obtain ⟨w1,w2⟩:=wBad_false.1 q;simp;omega
theorem qtz (w v:Int):qbh w<v↔¬v<2^wd w:=by
 unfold qbh wd;cases q:wBad w with
 | true=>simp;omega
 | false=>simp;omega
theorem qak4 (r:Xh):qab Φ f_294 [.agg (Xh.c r)]=some (.val (.int .i64 (wd r.width))):=by
 rw [qaa (fn:=c_294) rfl rfl];by_cases h1:r.width<1
 ·simp [c_294,Xh.e,h1,wd,wBad]
 by_cases h2:32<r.width
 ·simp [c_294,Xh.e,h1,h2,wd,wBad]
 simp [c_294,Xh.e,h1,h2,wd,wBad];omega
theorem qakf (p:Prg) (rs:List (List Int)) (hl:rs.length<2^40) (hs:∀l∈rs,l.length<2^40/\∀v∈l,ok32 0 v) (hz:rs.length=p.Xm.length) (e:Env) (n:Nat)
  (h1:look 1 e=some (.slice 1 (rs.map (cS 1 c32)))) (h2:look 2 e=some (.iptr 9 [Prg.c p] 0 0)):
  go Φ (finP [.tmp 4]) [.c c_256_k5] .normal ⟨e,⟨[],n⟩⟩=some (.val (.int .i64 ((fe (vlG p rs) rs.length 0).getD 0))):=by
 simp [c_256_k5];refine qau rs.length (fun _=>[]) 0 (fun i e=>look 1 e=some (.slice 1 (rs.map (cS 1 c32)))/\look 2 e=some (.iptr 9 [Prg.c p] 0 0)/\look 6 e=some (.int .i64 i))
  (fun i=>some (Rt.val (.int .i64 ((fe (vlG p rs) rs.length i).getD 0)))) ?_ ?_ 0 _ n (Qc _) (Qc _) ?_
 ·rintro i e n L hi hL _ ⟨h1,h2,h6⟩ ih;have hw:=qaf i (by omega);have hi2:i<p.Xm.length:=by omega
  have hm:=hs _ (Qd hi);have hwd:=qak4 p.Xm[i];simp only [Xh.e] at hwd;have hV:fe (vlG p rs) rs.length i=if rs[i].any (fun v=>decide (qbh p.Xm[i].width<v))=true then some 9 else fe (vlG p rs) rs.length (i+1):=by
   by_cases y:rs[i].any (fun v=>decide (qbh p.Xm[i].width<v))=true
   ·rw [QAa y];exact qal hi (by simp only [vlG,Qa hi,Qa hi2];rw [QAa y])
   ·rw [QA y];exact qar hi (by simp only [vlG,Qa hi,Qa hi2];rw [QA y])
  generalize hX:some (Rt.val (AV.int .i64 ((fe (vlG p rs) rs.length (i+1)).getD 0)))=X at ih;generalize hY:some (Rt.val (AV.int .i64 ((fe (vlG p rs) rs.length i).getD 0)))=Y;have hYX:Y=if rs[i].any (fun v=>decide (qbh p.Xm[i].width<v))=true then some (Rt.val (AV.int .i64 9)) else X:=by
   rw [<- hY,<- hX,hV];split<;>rfl
  simp [c_256_l3,h1,h6,hi];refine (qau rs[i].length (fun _=>[]) 0 (fun j e=>look 1 e=some (.slice 1 (rs.map (cS 1 c32)))/\look 2 e=some (.iptr 9 [Prg.c p] 0 0)/\look 6 e=some (.int .i64 i)/\look 7 e=some (.int .i64 j))
   (fun j=>if (rs[i].drop j).any (fun v=>decide (qbh p.Xm[i].width<v))=true then some (Rt.val (AV.int .i64 9)) else X) ?_ ?_ 0 _ n (Qc _) (Qc _) ?_).trans (by rw [hYX,List.drop_zero])
  ·rintro j e n L' hj hL' _ ⟨h1,h2,h6,h7⟩ ih';have hw':=qaf j (by omega);have hf:=qk3 rs[i][j] (hm.2 _ (Qd hj)) (wd p.Xm[i].width) (wd_le _);rw [Prg.e] at h2;rw [Qi hj,QCb];by_cases v:rs[i][j]<2^wd p.Xm[i].width
   ·rw [decide_eq_true v] at hf;rw [show decide (qbh p.Xm[i].width<rs[i][j])=false from decide_eq_false fun h=>(qtz _ _).1 h v,QCh];generalize hZ:(if (rs[i].drop (j+1)).any (fun v=>decide (qbh p.Xm[i].width<v))=true then some (Rt.val (AV.int .i64 9)) else X)=Z;simp [c_256_l1,cSe,c32,Xh.e,h1,h2,h6,h7,hi,hi2,hj,hwd,hf,hw'];rw [<- hZ];exact ih' _ _ (Qc _) ⟨by simp [h1],by simp [h2,Prg.e],by simp [h6],by simp⟩
   ·rw [decide_eq_false v] at hf;rw [show decide (qbh p.Xm[i].width<rs[i][j])=true from decide_eq_true ((qtz _ _).2 v),QCs,QAa rfl];simp [c_256_l1,cSe,c32,Xh.e,h1,h2,h6,h7,hi,hi2,hj,hwd,hf]
  ·rintro e n L' hL' _ ⟨h1,h2,h6,h7⟩;rw [QBx,List.any_nil,QA (by decide)];simp [c_256_l1,cSe,h1,h6,h7,hi,hL',c_256_k2,hw];exact ih _ _ (Qc _) ⟨by simp [h1],by simp [h2],by simp⟩
  ·simp [h1,h2,h6]
 ·rintro e n L hL _ ⟨h1,h2,h6⟩;rw [qa4];simp [c_256_l3,c_256_k4,h1,h6,hL]
 ·simp [h1,h2]
theorem qac6 (p:Prg) (rs:List (List Int)) (hl:rs.length<2^40) (hs:∀l∈rs,l.length<2^40/\∀v∈l,ok32 0 v):qab Φ f_256 [.agg (Prg.c p),.slice 1 (rs.map (cS 1 c32))]=some (.val (.int .i64 (conE p rs))):=by
 rw [qaa (fn:=c_256) rfl rfl];unfold conE;by_cases z:rs.length=p.Xm.length
 rotate_left
 ·simp [c_256,Prg.e,z]
 rw [QA (by simpa using z)];generalize hY:some (Rt.val (AV.int .i64 ((fe (szG p rs) rs.length 0).getD ((fe (vlG p rs) rs.length 0).getD 0))))=Y;simp [c_256,Prg.e,z];rw [<- hY];refine qau rs.length (fun _=>[]) 0 (fun i e=>look 1 e=some (.slice 1 (rs.map (cS 1 c32)))/\look 2 e=some (.iptr 9 [Prg.c p] 0 0)/\look 5 e=some (.int .i64 i))
  (fun i=>some (Rt.val (.int .i64 ((fe (szG p rs) rs.length i).getD ((fe (vlG p rs) rs.length 0).getD 0))))) ?_ ?_ 0 _ 0 (Qc _) (Qc _) ?_
 ·rintro i e n L hi hL _ ⟨h1,h2,h5⟩ ih;have hw:=qaf i (by omega);have hi2:i<p.Xm.length:=by omega
  rw [Prg.e] at h2;by_cases v:(rs[i].length:Int)=p.Xm[i].size
  ·rw [qar hi (by simp [szG,hi,hi2,v])];generalize hX:some (Rt.val (AV.int .i64 ((fe (szG p rs) rs.length (i+1)).getD ((fe (vlG p rs) rs.length 0).getD 0))))=X;simp [c_256_l0,cSe,Xh.e,h1,h2,h5,hi,hi2,v,hw];rw [<- hX];exact ih _ _ (Qc _) ⟨by simp [h1],by simp [h2,Prg.e],by simp⟩
  ·rw [qal (x:=(2:Int)) hi (by simp [szG,hi,hi2,v])];simp [c_256_l0,cSe,Xh.e,h1,h2,h5,hi,hi2,v]
 ·rintro e n L hL _ ⟨h1,h2,h5⟩;rw [qa4];generalize hX:some (Rt.val (AV.int .i64 ((none:Option Int).getD ((fe (vlG p rs) rs.length 0).getD 0))))=X;simp [c_256_l0,h1,h5,hL];rw [<- hX];exact qakf p rs hl hs z _ _ (by simp [h1]) (by simp [h2])
 ·simp [Prg.e]
structure CfgT (a:Xf):Prop where
 rl:a.rows.length<2^40
 rs:∀l∈a.rows,l.length<2^40/\∀r∈l,rowS r
 nl:a.Xr.length<2^40
 dl:a.Xq.length<2^40
 ds:∀d∈a.Xq,d.args.length<2^40/\∀v∈d.args,ok32 0 v
 gl:a.Xm.length<2^40
 gs:∀l∈a.Xm,l.length<2^40/\∀v∈l,ok32 0 v
def rowE (p:Prg) (k:Nat) (tb:Tbl) (l:List Rw) (nx:Int) (z:Int):Int:=if tb.size<l.length then 12 else tabK p k l nx z (ordL l 0)
theorem qald (p:Prg) (t:Int) (l:List Rw) (nx z:Int) (o:Option Int):tabK p t l nx z o=if tabK p t l nx 0 o≠0 then tabK p t l nx 0 o else z:=by
 cases o with
 | none=>simp [tabK]
 | some a=>
  simp only [tabK];by_cases z0:nx<=a
  ·simp [z0]
  by_cases z1:1073741824<nx
  ·simp [z0,z1]
  simp only [QA z0,QA z1];cases q:fe (rowG p t l) l.length 0 with
  | none=>simp
  | some x=>
   have hx:x≠0:=by
    obtain ⟨k,hk,hx⟩:=qd7 q;simp only [rowG,Qt] at hx;obtain ⟨r,_,hr⟩:=hx;split at hr
    ·cases hr;assumption
    ·split at hr
     ·cases hr;decide
     ·cases hr
   simp [hx]
theorem qak0 (p:Prg) (k:Nat) (tb:Tbl) (l:List Rw) (nx z:Int):rowE p k tb l nx z=if rowE p k tb l nx 0≠0 then rowE p k tb l nx 0 else z:=by
 unfold rowE;split
 ·simp
 ·exact qald _ _ _ _ _ _
def stG (p:Prg) (c:Xf) (k:Nat):Option Int:=match p.Xn[k]?,c.rows[k]?,c.Xr[k]?,c.Xq[k]? with
 | some tb,some l,some nx,some d=>if rowE p k tb l nx (qbg p k d)=0 then none else some (rowE p k tb l nx (qbg p k d))
 | _,_,_,_=>none
def cfgE (p:Prg) (c:Xf):Int:=if (prgD p).1≠0 then (prgD p).1 else if c.rows.length≠p.Xn.length\/c.Xr.length≠p.Xn.length\/c.Xq.length≠p.Xn.length then 2
 else (fe (stG p c) p.Xn.length 0).getD (conE p c.Xm)
theorem qae3 (p:Prg) (f:PrgS p) (hc:(pre p.control).length<2^40 - 1) (c:Xf) (s:CfgT c):qab Φ f_87 [.agg (Prg.c p),.agg (Xf.c c)]=some (.val (.int .i64 (cfgE p c))):=by
 rw [qaa (fn:=c_87) rfl rfl];have h:=qi6 p f hc;simp only [Prg.e,dgC] at h;have ht:=f.t;by_cases z:(prgD p).1=0
 rotate_left
 ·simp [c_87,Prg.e,Xf.ce,h,z,cfgE]
 by_cases z1:c.rows.length=p.Xn.length
 rotate_left
 ·simp [c_87,Prg.e,Xf.ce,h,z,z1,cfgE]
 by_cases z2:c.Xr.length=p.Xn.length
 rotate_left
 ·simp [c_87,Prg.e,Xf.ce,h,z,z1,z2,cfgE]
 by_cases z3:c.Xq.length=p.Xn.length
 rotate_left
 ·simp [c_87,Prg.e,Xf.ce,h,z,z1,z2,z3,cfgE]
 rw [show cfgE p c=(fe (stG p c) p.Xn.length 0).getD (conE p c.Xm) by simp [cfgE,z,z1,z2,z3]];simp [c_87,Prg.e,Xf.ce,h,z,z1,z2,z3];refine qau p.Xn.length (fun _=>[]) 0 (fun i e=>look 2 e=some (.iptr 9 [Prg.c p] 0 0)/\look 3 e=some (.iptr 4 [Xf.c c] 0 0)/\look 38 e=some (.int .i64 p.Xn.length)/\look 39 e=some (.int .i64 i))
  (fun i=>some (Rt.val (.int .i64 ((fe (stG p c) p.Xn.length i).getD (conE p c.Xm))))) ?_ ?_ 0 _ _ (Qc _) (Qc _) ?_
 ·rintro i e n L hi hL _ ⟨h2,h3,h38,h39⟩ ih;have hw:=qaf i (by omega);have i1:i<c.rows.length:=by omega
  have i2:i<c.Xr.length:=by omega
  have i3:i<c.Xq.length:=by omega
  have hr:=s.rs _ (Qd i1);have hd:=s.ds _ (Qd i3);have hk:=qafb p f i hi c.rows[i] c.Xr[i] c.Xq[i] hr.1 hr.2 hd.1;rw [show (if p.Xn[i].size<(c.rows[i].length:Int) then (12:Int) else tabK p i c.rows[i] c.Xr[i] (qbg p i c.Xq[i]) (ordL c.rows[i] 0))=rowE p i p.Xn[i] c.rows[i] c.Xr[i] (qbg p i c.Xq[i]) from rfl] at hk;simp only [Prg.e,Xb.ce] at hk;rw [Prg.e] at h2;rw [Xf.ce] at h3;by_cases v:rowE p i p.Xn[i] c.rows[i] c.Xr[i] (qbg p i c.Xq[i])=0
  ·rw [qar hi (by simp [stG,hi,i1,i2,i3,v])];rw [v] at hk;generalize hX:some (Rt.val (AV.int .i64 ((fe (stG p c) p.Xn.length (i+1)).getD (conE p c.Xm))))=X;simp [c_87_l0,cSe,cI,Xb.ce,h2,h3,h38,h39,hi,i1,i2,i3,hk,hw];rw [<- hX];exact ih _ _ (Qc _) ⟨by simp [h2,Prg.e],by simp [h3,Xf.ce],by simp [h38],by simp⟩
  ·rw [qal (x:=rowE p i p.Xn[i] c.rows[i] c.Xr[i] (qbg p i c.Xq[i])) hi (by simp [stG,hi,i1,i2,i3,v])];simp [c_87_l0,cSe,cI,Xb.ce,h2,h3,h38,h39,hi,i1,i2,i3,hk,v]
 ·rintro e n L hL _ ⟨h2,h3,h38,h39⟩;have hk:=qae8 p f c.Xm s.gl fun l hl=>(s.gs l hl).1
  simp only [Prg.e] at hk;rw [Prg.e] at h2;rw [Xf.ce] at h3;rw [qa4];simp [c_87_l0,c_87_k1,h2,h3,h38,h39,hL,hk]
 ·simp [Prg.e,Xf.ce]
theorem qac5 (p:Prg) (f:PrgS p) (hv:∀t∈p.Xn,∀v∈t.dflt.args,ok32 0 v) (hc:(pre p.control).length<2^40 - 1) (c:Xf) (s:CfgT c):qab Φ f_206 [.agg (Prg.c p),.agg (Xf.c c)]=some (.val (.int .i64 (cfgE p c))):=by
 rw [qaa (fn:=c_206) rfl rfl];have h:=qlk p f hv hc;simp only [Prg.e,dgC] at h;have ht:=f.t;by_cases z:(prgD p).1=0
 rotate_left
 ·simp [c_206,Prg.e,Xf.ce,h,z,cfgE]
 by_cases z1:c.rows.length=p.Xn.length
 rotate_left
 ·simp [c_206,Prg.e,Xf.ce,h,z,z1,cfgE]
 by_cases z2:c.Xr.length=p.Xn.length
 rotate_left
 ·simp [c_206,Prg.e,Xf.ce,h,z,z1,z2,cfgE]
 by_cases z3:c.Xq.length=p.Xn.length
 rotate_left
 ·simp [c_206,Prg.e,Xf.ce,h,z,z1,z2,z3,cfgE]
 rw [show cfgE p c=(fe (stG p c) p.Xn.length 0).getD (conE p c.Xm) by simp [cfgE,z,z1,z2,z3]];simp [c_206,Prg.e,Xf.ce,h,z,z1,z2,z3];refine qau p.Xn.length (fun _=>[]) 0 (fun i e=>look 2 e=some (.iptr 9 [Prg.c p] 0 0)/\look 3 e=some (.iptr 4 [Xf.c c] 0 0)/\look 5 e=some (.int .i64 p.Xn.length)/\look 6 e=some (.int .i64 i))
  (fun i=>some (Rt.val (.int .i64 ((fe (stG p c) p.Xn.length i).getD (conE p c.Xm))))) ?_ ?_ 0 _ _ (Qc _) (Qc _) ?_
 ·rintro i e n L hi hL _ ⟨h2,h3,h5,h6⟩ ih;have hw:=qaf i (by omega);have i1:i<c.rows.length:=by omega
  have i2:i<c.Xr.length:=by omega
  have i3:i<c.Xq.length:=by omega
  have hr:=s.rs _ (Qd i1);have hd:=s.ds _ (Qd i3);have hk:=qadp p f hv i hi c.rows[i] c.Xr[i] hr.1 hr.2;have hq:=qn7 p f hv i c.Xq[i] hd.1 hd.2;rw [show (if p.Xn[i].size<(c.rows[i].length:Int) then (12:Int) else tabK p i c.rows[i] c.Xr[i] 0 (ordL c.rows[i] 0))=rowE p i p.Xn[i] c.rows[i] c.Xr[i] 0 from rfl] at hk;simp only [Prg.e,Xb.ce] at hk hq;rw [Prg.e] at h2;rw [Xf.ce] at h3;have hz:=qak0 p i p.Xn[i] c.rows[i] c.Xr[i] (qbg p i c.Xq[i]);by_cases v:rowE p i p.Xn[i] c.rows[i] c.Xr[i] 0=0
  ·rw [QA (by simpa using v)] at hz;rw [v] at hk;by_cases w:qbg p i c.Xq[i]=0
   ·rw [qar hi (by simp [stG,hi,i1,i2,i3,w,v])];rw [w] at hq;generalize hX:some (Rt.val (AV.int .i64 ((fe (stG p c) p.Xn.length (i+1)).getD (conE p c.Xm))))=X;simp [c_206_l0,cSe,cI,Xb.ce,h2,h3,h5,h6,hi,i1,i2,i3,hk,hq,hw];rw [<- hX];exact ih _ _ (Qc _) ⟨by simp [h2,Prg.e],by simp [h3,Xf.ce],by simp [h5],by simp⟩
   ·rw [qal (x:=qbg p i c.Xq[i]) hi (by simp [stG,hi,i1,i2,i3,hz,w])];simp [c_206_l0,cSe,cI,Xb.ce,h2,h3,h5,h6,hi,i1,i2,i3,hk,hq,w]
  ·rw [QAa v] at hz;rw [qal (x:=rowE p i p.Xn[i] c.rows[i] c.Xr[i] 0) hi (by simp [stG,hi,i1,i2,i3,hz,v])];simp [c_206_l0,cSe,cI,h2,h3,h5,h6,hi,i1,i2,hk,v]
 ·rintro e n L hL _ ⟨h2,h3,h5,h6⟩;have hk:=qac6 p c.Xm s.gl s.gs;simp only [Prg.e] at hk;rw [Prg.e] at h2;rw [Xf.ce] at h3;rw [qa4];simp [c_206_l0,c_206_k1,h2,h3,h5,h6,hL,hk]
 ·simp [Prg.e,Xf.ce]
def regN (r:Xh):Nat:=if r.size<1\/64<r.size then 0 else r.size.toNat
theorem qahg (r:Xh):regN r<=64:=by
 unfold regN;split<;>omega
def newR (p:Prg):List (List Int):=p.Xm.map fun r=>List.replicate (regN r) 0
theorem qahl (p:Prg) (f:PrgS p):qab Φ f_138 [.agg (Prg.c p)]=some (.val (.slice 1 ((newR p).map (cS 1 c32)))):=by
 rw [qaa (fn:=c_138) rfl rfl];have hr:=f.r;have e0:(newR p).map (cS 1 c32)=p.Xm.map fun r=>[AV.slice 1 (List.replicate (regN r) [AV.int .u32 0])]:=by
  simp [newR,cSe,c32]
 rw [e0];simp [c_138,Prg.e];refine (qau p.Xm.length (fun i=>[(0,.tok 1 i)]) 1 (fun i e=>look 1 e=some (.iptr 9 [Prg.c p] 0 0)/\look 3 e=some (.app 1 ((p.Xm.map fun r=>[AV.slice 1 (List.replicate (regN r) [AV.int .u32 0])]).take i) 0)/\look 4 e=some (.int .i64 i))
  (fun _=>some (Rt.val (.slice 1 (p.Xm.map fun r=>[AV.slice 1 (List.replicate (regN r) [AV.int .u32 0])])))) ?_ ?_ 0 _ 1 (Qc _) (Qb _) ?_).trans (by simp)
 ·rintro i e n L hi hL hn ⟨h1,h3,h4⟩ ih;have hw:=qaf i (by omega);rw [Prg.e] at h1;have hn0:¬(0=n):=by omega
  have hn1:¬(n=0):=by omega
  have hm:min i p.Xm.length=i:=by omega
  have hb:(i+1)*24<=70368744177664:=by omega
  by_cases z:p.Xm[i].size<1
  ·have hz:regN p.Xm[i]=0:=by simp [regN,z]
   simp [c_138_l0,Xh.e,h1,h3,h4,hi,z,hw,hm,hb];exact ih _ _ (by omega) ⟨by simp [h1,Prg.e],by simp [qaw hi,hz],by simp⟩
  by_cases z1:64<p.Xm[i].size
  ·have hz:regN p.Xm[i]=0:=by simp [regN,z1]
   simp [c_138_l0,Xh.e,h1,h3,h4,hi,z,z1,hw,hm,hb];exact ih _ _ (by omega) ⟨by simp [h1,Prg.e],by simp [qaw hi,hz],by simp⟩
  obtain ⟨k,hk⟩:∃k:Nat,p.Xm[i].size=k:=⟨p.Xm[i].size.toNat,by omega⟩;have hz:regN p.Xm[i]=k:=by simp [regN,z,z1];omega
  have k1:(k:Int)*4<=140737488355328:=by omega
  have k3:k<4611686018427387904:=by omega
  have k0:¬(k:Int)<1:=by omega
  have k2:¬(64:Int)<k:=by omega
  simp [c_138_l0,Xh.e,h1,h3,h4,hi,hk,k0,k2,k1,k3,hw,hm,hb];exact ih _ _ (by omega) ⟨by simp [h1,Prg.e],by simp [qaw hi,hz],by simp⟩
 ·rintro e n L hL hn ⟨h1,h3,h4⟩;rw [Prg.e] at h1;simp [c_138_l0,c_138_k1,h1,h3,h4,hL]
 ·simp [Prg.e]
def qbw (p:Prg):Xf:=⟨p.Xn.map fun _=>[],p.Xn.map fun _=>1,p.Xn.map fun t=>t.dflt,newR p⟩
theorem qtd (p:Prg):Xf.c (qbw p)=[.slice 1 (p.Xn.map fun _=>[.slice 5 []]),.slice 1 (p.Xn.map fun _=>[.int .i64 1]),.slice 2 (p.Xn.map fun t=>[.int .i64 t.dflt.action,.slice 1 (t.dflt.args.map c32)]),.slice 1 ((newR p).map (cS 1 c32))]:=by
 simp [qbw,Xf.ce,cSe,cI,Xb.ce]
theorem qaay (p:Prg) (f:PrgS p):qab Φ f_66 [.agg (Prg.c p)]=some (.val (.agg (Xf.c (qbw p)))):=by
 rw [qaa (fn:=c_66) rfl rfl,qtd];have ht:=f.t;have h:=qahl p f;simp only [Prg.e] at h;generalize (newR p).map (cS 1 c32)=W at h ⊢;simp [c_66,Prg.e,h];by_cases z:p.Xn.length=0
 ·have e0:p.Xn=[]:=Qg z;rw [qap];simp [c_66_l0,c_66_k1,e0]
 have hp:0<p.Xn.length:=by omega
 rw [qap];simp [c_66_l0,Tbl.e,hp];have t1:∀{β:Type} (g:Tbl->β),(p.Xn.map g).take 1=[g p.Xn[0]]:=by
  intro β g;have:=qaw (f:=g) hp;simpa using this
 refine qcr p.Xn.length (fun i e h=>∃n,5<=n/\h=⟨[(0,AO.row 4 [[.Xu 1 [],.Xu 1 [],.Xu 2 [],.Xu 1 []]]),(1,AO.row 4 [[.app 1 ((p.Xn.map fun _=>[AV.slice 5 []]).take i) 2,.app 1 ((p.Xn.map fun _=>[AV.int .i64 1]).take i) 3,
   .app 2 ((p.Xn.map fun t=>[AV.int .i64 t.dflt.action,.slice 1 (t.dflt.args.map c32)]).take i) 4,.slice 1 W]]),(2,.tok 1 i),(3,.tok 1 i),(4,.tok 2 i)],n⟩/\look 1 e=some (.iptr 9 [Prg.c p] 0 0)/\look 2 e=some (.ptr 0 4 0 0)/\look 3 e=some (.ptr 1 4 0 0)/\look 4 e=some (.int .i64 i))
  (fun _=>some (Rt.val (.agg [.slice 1 (p.Xn.map fun _=>[.slice 5 []]),.slice 1 (p.Xn.map fun _=>[.int .i64 1]),.slice 2 (p.Xn.map fun t=>[.int .i64 t.dflt.action,.slice 1 (t.dflt.args.map c32)]),.slice 1 W]))) ?_ ?_ 1 _ _ (by omega) ?_
 ·rintro i e _ L hi hL ⟨n,hn,rfl,h1,h2,h3,h4⟩ ih;have hw:=qaf i (by omega);rw [Prg.e] at h1;have n0:¬(0=n):=by omega
  have n1:¬(1=n):=by omega
  have n2:¬(2=n):=by omega
  have n3:¬(3=n):=by omega
  have n4:¬(4=n):=by omega
  have m0:¬(n=0):=by omega
  have m1:¬(n=1):=by omega
  have m2:¬(n=2):=by omega
  have m3:¬(n=3):=by omega
  have m4:¬(n=4):=by omega
  have hm:min i p.Xn.length=i:=by omega
  have hb:(i+1)*24<=70368744177664:=by omega
  have hb2:(i+1)*8<=70368744177664:=by omega
  have hb3:(i+1)*32<=70368744177664:=by omega
  simp [Tbl.e,h1,h3,h4,hi,hw,hm,hb,hb2,hb3];exact ih _ _ ⟨_,by omega,by simp [qaw hi],by simp [h1,Prg.e],by simp [h2],by simp [h3],by simp⟩
 ·rintro e _ L hL ⟨n,hn,rfl,h1,h2,h3,h4⟩;rw [Prg.e] at h1;simp [c_66_k1,h1,h2,h3,h4,hL]
 ·exact ⟨5,by omega,by simp [t1],by simp [Prg.e],by simp,by simp,by simp [wr1]⟩
theorem qfh {Ψ:FuncId->Option AFun} {f z bytes:Nat} (hf:Ψ f=some (.rule (qeq z bytes .app))) (es:List (List AV)) (hz:qch z es=true) (hb:es.length*bytes<=70368744177664):qab Ψ f [.slice z es]=some (.val (.slice z es)):=by
 unfold qab;rw [qkk Ψ hf];cases es with
 | nil=>simp [qeq,lenOf,qcz,evR,qeg,H0,AH.put]
 | cons x es=>
  simp only [QAl] at hb;simp [qeq,lenOf,evR,qeg,H0,AH.put,hz,hb]
theorem qs2 (l:List Int) (h:l.length<2^40):qab Φ f_150 [.slice 1 (l.map c32)]=some (.val (.slice 1 (l.map c32))):=
 qfh (bytes:=4) rfl _ (qb7 1 c32 l fun x=>by simp [c32]) (by rw [QAc];omega)
theorem qaiv (l:List Xi) (h:l.length<2^40):qab Φ f_224 [.slice 2 (l.map Xi.c)]=some (.val (.slice 2 (l.map Xi.c))):=
 qfh (bytes:=8) rfl _ (qb7 2 Xi.c l fun x=>by simp [Xi.c]) (by rw [QAc];omega)
theorem qi0 (c:Xb) (h:c.args.length<2^40):qab Φ f_85 [.agg (Xb.c c)]=some (.val (.agg (Xb.c c))):=by
 rw [qaa (fn:=c_85) rfl rfl];have k:=qs2 c.args h;simp [c_85,Xb.ce,k]
theorem qqy (x:Entry) (h:x.call.args.length<2^40) (h2:x.keys.length<2^40):qab Φ f_163 [.agg (Entry.c x)]=some (.val (.agg (Entry.c x))):=by
 rw [qaa (fn:=c_163) rfl rfl];have k:=qaiv x.keys h2;have k2:=qi0 x.call h;simp only [Xb.ce] at k2;simp [c_163,Entry.ce,k,k2]
theorem qafa (x:Rw) (h:rowS x):qab Φ f_157 [.agg (Rw.c x)]=some (.val (.agg (Rw.c x))):=by
 rw [qaa (fn:=c_157) rfl rfl];have k:=qqy x.entry h.al h.kl;simp only [Entry.ce] at k;simp [c_157,Rw.ce,k]
theorem qsa (l:List Xj) (hl:l.length<2^39) (hf:∀x∈l,qab Φ f_105 [.agg (Xj.c x)]=some (.val (.agg (Xj.c x)))):qab Φ f_104 [.slice 2 (l.map Xj.c),.func (.func f_105) [] []]=some (.val (.slice 2 (l.map Xj.c))):=by
 rw [qaa (fn:=c_104) rfl rfl];simp [c_104];refine (qau l.length (fun i=>[(0,.tok 2 i)]) 1 (fun i e=>look 1 e=some (.func (.func f_105) [] [])/\look 5 e=some (.app 2 ((l.map Xj.c).take i) 0)/\look 8 e=some (.slice 2 (l.map Xj.c))/\look 9 e=some (.int .i64 l.length)/\look 10 e=some (.int .i64 i))
  (fun _=>some (Rt.val (.slice 2 (l.map Xj.c)))) ?_ ?_ 0 _ 1 (Qc _) (Qb _) ?_).trans (by simp)
 ·rintro i e n L hi hL hn ⟨h1,h5,h8,h9,h10⟩ ih;have hw:=qaf i (by omega);have hn0:¬(0=n):=by omega
  have hn1:¬(n=0):=by omega
  have hm:min i l.length=i:=by omega
  have hb:∀k,k<=128->(i+1)*k<=70368744177664:=fun k hk=>by
   have:(i+1)*k<=(i+1)*128:=QBu _ hk;omega
  have hN:=hf _ (Qd hi);simp only [Xj.e] at hN;simp [c_104_l0,Xj.e,h1,h5,h8,h9,h10,hi,hw,hn0,hm,hb,hN];exact ih _ _ (by omega) ⟨by simp [h1],by simp [qaw hi,Xj.e],by simp [h8],by simp [h9],by simp⟩
 ·rintro e n L hL hn ⟨h1,h5,h8,h9,h10⟩;simp [c_104_l0,c_104_k1,h5,h9,h10,hL]
 ·simp
theorem qnv (l:List Xg) (hl:l.length<2^39) (hf:∀x∈l,qab Φ f_189 [.agg (Xg.c x)]=some (.val (.agg (Xg.c x)))):qab Φ f_188 [.slice 7 (l.map Xg.c),.func (.func f_189) [] []]=some (.val (.slice 7 (l.map Xg.c))):=by
 rw [qaa (fn:=c_188) rfl rfl];simp [c_188];refine (qau l.length (fun i=>[(0,.tok 7 i)]) 1 (fun i e=>look 1 e=some (.func (.func f_189) [] [])/\look 5 e=some (.app 7 ((l.map Xg.c).take i) 0)/\look 8 e=some (.slice 7 (l.map Xg.c))/\look 9 e=some (.int .i64 l.length)/\look 10 e=some (.int .i64 i))
  (fun _=>some (Rt.val (.slice 7 (l.map Xg.c)))) ?_ ?_ 0 _ 1 (Qc _) (Qb _) ?_).trans (by simp)
 ·rintro i e n L hi hL hn ⟨h1,h5,h8,h9,h10⟩ ih;have hw:=qaf i (by omega);have hn0:¬(0=n):=by omega
  have hn1:¬(n=0):=by omega
  have hm:min i l.length=i:=by omega
  have hb:∀k,k<=128->(i+1)*k<=70368744177664:=fun k hk=>by
   have:(i+1)*k<=(i+1)*128:=QBu _ hk;omega
  have hN:=hf _ (Qd hi);simp only [Xg.e] at hN;simp [c_188_l0,Xg.e,h1,h5,h8,h9,h10,hi,hw,hn0,hm,hb,hN];exact ih _ _ (by omega) ⟨by simp [h1],by simp [qaw hi,Xg.e],by simp [h8],by simp [h9],by simp⟩
 ·rintro e n L hL hn ⟨h1,h5,h8,h9,h10⟩;simp [c_188_l0,c_188_k1,h5,h9,h10,hL]
 ·simp
theorem qr9 (l:List Action) (hl:l.length<2^39) (hf:∀x∈l,qab Φ f_109 [.agg (Action.c x)]=some (.val (.agg (Action.c x)))):qab Φ f_108 [.slice 3 (l.map Action.c),.func (.func f_109) [] []]=some (.val (.slice 3 (l.map Action.c))):=by
 rw [qaa (fn:=c_108) rfl rfl];simp [c_108];refine (qau l.length (fun i=>[(0,.tok 3 i)]) 1 (fun i e=>look 1 e=some (.func (.func f_109) [] [])/\look 5 e=some (.app 3 ((l.map Action.c).take i) 0)/\look 8 e=some (.slice 3 (l.map Action.c))/\look 9 e=some (.int .i64 l.length)/\look 10 e=some (.int .i64 i))
  (fun _=>some (Rt.val (.slice 3 (l.map Action.c)))) ?_ ?_ 0 _ 1 (Qc _) (Qb _) ?_).trans (by simp)
 ·rintro i e n L hi hL hn ⟨h1,h5,h8,h9,h10⟩ ih;have hw:=qaf i (by omega);have hn0:¬(0=n):=by omega
  have hn1:¬(n=0):=by omega
  have hm:min i l.length=i:=by omega
  have hb:∀k,k<=128->(i+1)*k<=70368744177664:=fun k hk=>by
   have:(i+1)*k<=(i+1)*128:=QBu _ hk;omega
  have hN:=hf _ (Qd hi);simp only [Action.e] at hN;simp [c_108_l0,Action.e,h1,h5,h8,h9,h10,hi,hw,hn0,hm,hb,hN];exact ih _ _ (by omega) ⟨by simp [h1],by simp [qaw hi,Action.e],by simp [h8],by simp [h9],by simp⟩
 ·rintro e n L hL hn ⟨h1,h5,h8,h9,h10⟩;simp [c_108_l0,c_108_k1,h5,h9,h10,hL]
 ·simp
theorem qtc (l:List Tbl) (hl:l.length<2^39) (hf:∀x∈l,qab Φ f_111 [.agg (Tbl.c x)]=some (.val (.agg (Tbl.c x)))):qab Φ f_110 [.slice 6 (l.map Tbl.c),.func (.func f_111) [] []]=some (.val (.slice 6 (l.map Tbl.c))):=by
 rw [qaa (fn:=c_110) rfl rfl];simp [c_110];refine (qau l.length (fun i=>[(0,.tok 6 i)]) 1 (fun i e=>look 1 e=some (.func (.func f_111) [] [])/\look 5 e=some (.app 6 ((l.map Tbl.c).take i) 0)/\look 8 e=some (.slice 6 (l.map Tbl.c))/\look 9 e=some (.int .i64 l.length)/\look 10 e=some (.int .i64 i))
  (fun _=>some (Rt.val (.slice 6 (l.map Tbl.c)))) ?_ ?_ 0 _ 1 (Qc _) (Qb _) ?_).trans (by simp)
 ·rintro i e n L hi hL hn ⟨h1,h5,h8,h9,h10⟩ ih;have hw:=qaf i (by omega);have hn0:¬(0=n):=by omega
  have hn1:¬(n=0):=by omega
  have hm:min i l.length=i:=by omega
  have hb:∀k,k<=128->(i+1)*k<=70368744177664:=fun k hk=>by
   have:(i+1)*k<=(i+1)*128:=QBu _ hk;omega
  have hN:=hf _ (Qd hi);simp only [Tbl.e] at hN;simp [c_110_l0,Tbl.e,h1,h5,h8,h9,h10,hi,hw,hn0,hm,hb,hN];exact ih _ _ (by omega) ⟨by simp [h1],by simp [qaw hi,Tbl.e],by simp [h8],by simp [h9],by simp⟩
 ·rintro e n L hL hn ⟨h1,h5,h8,h9,h10⟩;simp [c_110_l0,c_110_k1,h5,h9,h10,hL]
 ·simp
theorem qlt (l:List Xd) (hl:l.length<2^39) (hf:∀x∈l,qab Φ f_113 [.agg (Xd.c x)]=some (.val (.agg (Xd.c x)))):qab Φ f_112 [.slice 7 (l.map Xd.c),.func (.func f_113) [] []]=some (.val (.slice 7 (l.map Xd.c))):=by
 rw [qaa (fn:=c_112) rfl rfl];simp [c_112];refine (qau l.length (fun i=>[(0,.tok 7 i)]) 1 (fun i e=>look 1 e=some (.func (.func f_113) [] [])/\look 5 e=some (.app 7 ((l.map Xd.c).take i) 0)/\look 8 e=some (.slice 7 (l.map Xd.c))/\look 9 e=some (.int .i64 l.length)/\look 10 e=some (.int .i64 i))
  (fun _=>some (Rt.val (.slice 7 (l.map Xd.c)))) ?_ ?_ 0 _ 1 (Qc _) (Qb _) ?_).trans (by simp)
 ·rintro i e n L hi hL hn ⟨h1,h5,h8,h9,h10⟩ ih;have hw:=qaf i (by omega);have hn0:¬(0=n):=by omega
  have hn1:¬(n=0):=by omega
  have hm:min i l.length=i:=by omega
  have hb:∀k,k<=128->(i+1)*k<=70368744177664:=fun k hk=>by
   have:(i+1)*k<=(i+1)*128:=QBu _ hk;omega
  have hN:=hf _ (Qd hi);simp only [Xd.e] at hN;simp [c_112_l0,Xd.e,h1,h5,h8,h9,h10,hi,hw,hn0,hm,hb,hN];exact ih _ _ (by omega) ⟨by simp [h1],by simp [qaw hi,Xd.e],by simp [h8],by simp [h9],by simp⟩
 ·rintro e n L hL hn ⟨h1,h5,h8,h9,h10⟩;simp [c_112_l0,c_112_k1,h5,h9,h10,hL]
 ·simp
theorem qfi (l:List Xa) (hl:l.length<2^39) (hf:∀x∈l,qab Φ f_115 [.agg (Xa.c x)]=some (.val (.agg (Xa.c x)))):qab Φ f_114 [.slice 5 (l.map Xa.c),.func (.func f_115) [] []]=some (.val (.slice 5 (l.map Xa.c))):=by
 rw [qaa (fn:=c_114) rfl rfl];simp [c_114];refine (qau l.length (fun i=>[(0,.tok 5 i)]) 1 (fun i e=>look 1 e=some (.func (.func f_115) [] [])/\look 5 e=some (.app 5 ((l.map Xa.c).take i) 0)/\look 8 e=some (.slice 5 (l.map Xa.c))/\look 9 e=some (.int .i64 l.length)/\look 10 e=some (.int .i64 i))
  (fun _=>some (Rt.val (.slice 5 (l.map Xa.c)))) ?_ ?_ 0 _ 1 (Qc _) (Qb _) ?_).trans (by simp)
 ·rintro i e n L hi hL hn ⟨h1,h5,h8,h9,h10⟩ ih;have hw:=qaf i (by omega);have hn0:¬(0=n):=by omega
  have hn1:¬(n=0):=by omega
  have hm:min i l.length=i:=by omega
  have hb:∀k,k<=128->(i+1)*k<=70368744177664:=fun k hk=>by
   have:(i+1)*k<=(i+1)*128:=QBu _ hk;omega
  have hN:=hf _ (Qd hi);obtain ⟨kk,tt,cc,aa,bb,hx⟩:=qdr l[i];rw [hx,Xa.ce] at hN;simp [c_114_l0,hx,Xa.ce,h1,h5,h8,h9,h10,hi,hw,hn0,hm,hb,hN];exact ih _ _ (by omega) ⟨by simp [h1],by simp [qaw hi,hx,Xa.ce],by simp [h8],by simp [h9],by simp⟩
 ·rintro e n L hL hn ⟨h1,h5,h8,h9,h10⟩;simp [c_114_l0,c_114_k1,h5,h9,h10,hL]
 ·simp
theorem qwk (H:AH):∀l:List Int,mapO (mapO (snap 39 H)) (l.map cI)=some (l.map cI)
 | []=>by simp [mapO]
 | x::l=>by
  have ih:=qwk H l;simp only [QBt,mapO,ih];simp [cI,mapO]
theorem qs1 (l:List Int) (h:l.length<2^40):qab Φ f_116 [.slice 1 (l.map cI)]=some (.val (.slice 1 (l.map cI))):=by
 unfold qab;rw [qkk Φ (g:=qeq 1 8 .row) rfl];cases l with
 | nil=>simp [qeq,lenOf,qcz,evR,qeg,H0,AH.put]
 | cons x l=>
  have hb:(l.length+1)*8<=70368744177664:=by simp at h;omega
  have hm:=qwk ⟨[(0,.row 1 ((x::l).map cI))],1⟩ (x::l);simp [cI] at hm;simp [qeq,lenOf,evR,qeg,H0,AH.put,hb,cI,hm]
theorem qs0 (l:List Fld) (h:l.length<2^40):qab Φ f_106 [.slice 2 (l.map Fld.c)]=some (.val (.slice 2 (l.map Fld.c))):=
 qfh (bytes:=24) rfl _ (qb7 2 Fld.c l fun x=>by simp [Fld.e]) (by rw [QAc];omega)
theorem qaiu (l:List Xh) (h:l.length<2^40):qab Φ f_107 [.slice 3 (l.map Xh.c)]=some (.val (.slice 3 (l.map Xh.c))):=
 qfh (bytes:=32) rfl _ (qb7 3 Xh.c l fun x=>by simp [Xh.e]) (by rw [QAc];omega)
theorem qaiw (l:List Xl) (h:l.length<2^40):qab Φ f_190 [.slice 3 (l.map Xl.c)]=some (.val (.slice 3 (l.map Xl.c))):=
 qfh (bytes:=24) rfl _ (qb7 3 Xl.c l fun x=>by simp [Xl.e]) (by rw [QAc];omega)
theorem qait (l:List Xk) (h:l.length<2^40):qab Φ f_191 [.slice 3 (l.map Xk.c)]=some (.val (.slice 3 (l.map Xk.c))):=
 qfh (bytes:=16) rfl _ (qb7 3 Xk.c l fun x=>by simp [Xk.e]) (by rw [QAc];omega)
theorem qsz (l:List Xe) (h:l.length<2^40):qab Φ f_192 [.slice 3 (l.map Xe.c)]=some (.val (.slice 3 (l.map Xe.c))):=
 qfh (bytes:=24) rfl _ (qb7 3 Xe.c l fun x=>by simp [Xe.c]) (by rw [QAc];omega)
theorem qw8 (x:Xj) (h:x.fields.length<2^40):qab Φ f_105 [.agg (Xj.c x)]=some (.val (.agg (Xj.c x))):=by
 rw [qaa (fn:=c_105) rfl rfl];have k:=qs0 x.fields h;simp [c_105,Xj.e,k]
theorem qr5 (x:Xg) (h:x.index.length<2^40) (h2:x.value.length<2^40):qab Φ f_189 [.agg (Xg.c x)]=some (.val (.agg (Xg.c x))):=by
 rw [qaa (fn:=c_189) rfl rfl];have k:=qsz x.index h;have k2:=qsz x.value h2;simp [c_189,Xg.e,k,k2]
theorem qzb (x:Tbl) (h:x.keys.length<2^40) (h2:x.actions.length<2^40) (h3:x.dflt.args.length<2^40):qab Φ f_111 [.agg (Tbl.c x)]=some (.val (.agg (Tbl.c x))):=by
 rw [qaa (fn:=c_111) rfl rfl];have k:=qaiw x.keys h;have k2:=qs1 x.actions h2;have k3:=qs2 x.dflt.args h3;simp [c_111,Tbl.e,k,k2,k3]
theorem qza (x:Xd) (h:x.extract.length<2^40) (h2:x.cases.length<2^40):qab Φ f_113 [.agg (Xd.c x)]=some (.val (.agg (Xd.c x))):=by
 rw [qaa (fn:=c_113) rfl rfl];have k:=qs1 x.extract h;have k2:=qait x.cases h2;simp [c_113,Xd.e,k,k2]
theorem qw6 (x:Action) (h:x.params.length<2^40) (h2:x.body.length<2^39) (h3:∀s∈x.body,s.index.length<2^40/\s.value.length<2^40):qab Φ f_109 [.agg (Action.c x)]=some (.val (.agg (Action.c x))):=by
 rw [qaa (fn:=c_109) rfl rfl];have k:=qs0 x.params h;have k2:=qnv x.body h2 fun s hs=>qr5 s (h3 s hs).1 (h3 s hs).2
 simp [c_109,Action.e,k,k2]
theorem qnr:∀(n:Nat) (x:Xa),SizeOf.sizeOf x<=n->Xa.Ok qbe x->qab Φ f_115 [.agg (Xa.c x)]=some (.val (.agg (Xa.c x)))
 | 0,x,h,_=>by cases x;simp at h
 | n+1,x,h,ho=>by
  obtain ⟨k,t,c,a,b,rfl⟩:=qdr x;simp only [Xa.Ok] at ho;obtain ⟨_,_,hc,⟨ha1,ha2⟩,hb1,hb2⟩:=ho;rw [Xa.oks_eq] at ha2 hb2;have e:=qez;simp at h;have hc1:=hc.1;have k1:=qsz c (by omega);have k2:=qfi a (by omega) fun y hy=>qnr n y (by have:=QBd hy;omega) (ha2 y hy)
  have k3:=qfi b (by omega) fun y hy=>qnr n y (by have:=QBd hy;omega) (hb2 y hy)
  rw [qaa (fn:=c_115) rfl rfl];simp [c_115,Xa.ce,k1,k2,k3]
theorem qrm (p:Prg) (op:p.Ok qbe):qab Φ f_53 [.agg (Prg.c p)]=some (.val (.agg (Prg.c p))):=by
 have f:=qg4 op;obtain ⟨_,o1,o2,o3,o4,o5,o6,o7,o8⟩:=op;have e:=qez;have k1:=qsa p.Xp (by have:=o1.1;omega) fun x hx=>qw8 x (f.hl x hx)
 have k2:=qs0 p.Xo f.m;have k3:=qaiu p.Xm f.r;have k4:=qr9 p.actions (by have:=o4.1;omega) fun x hx=>qw6 x (f.ap x hx) (by
  have h:=o4.2 x hx;simp only [Action.Ok] at h;have:=h.2.2.1;omega) fun s hs=>⟨f.ai x hx s hs,f.av x hx s hs⟩
 have k5:=qtc p.Xn (by have:=o5.1;omega) fun x hx=>qzb x (f.tk x hx) (f.ta x hx) (f.tg x hx)
 have k6:=qlt p.states (by have:=o6.1;omega) fun x hx=>qza x (f.se x hx) (f.sc x hx)
 have k7:=qfi p.control (by have:=o7.1;omega) fun x hx=>qnr _ x (Qb _) (o7.2 x hx)
 have k8:=qs1 p.Xs f.d;rw [qaa (fn:=c_53) rfl rfl];simp [c_53,Prg.e,k1,k2,k3,k4,k5,k6,k7,k8]
def RegV (T:List (Nat×AO)) (x:AV) (r:Xh):Prop:=(x= .Xu 1 []/\regN r=0)\/∃id,1<=id/\x= .row id 1 0 (regN r)/\look id T=some (.row 1 (List.replicate (regN r) [.int .u32 0]))
inductive RegL (T:List (Nat×AO)):List AV->List Xh->Prop
 | nil:RegL T [] []
 | snoc {A rs x r} (h:RegL T A rs) (hx:RegV T x r):RegL T (A++[x]) (rs++[r])
theorem RegV.app {T:List (Nat×AO)} {x:AV} {r:Xh} (h:RegV T x r) (U:List (Nat×AO)):RegV (T++U) x r:=by
 rcases h with h | ⟨id,h1,h2,h3⟩
 ·exact .inl h
 ·exact .inr ⟨id,h1,h2,by rw [qa5,h3];simp⟩
theorem RegL.app {T:List (Nat×AO)} {A:List AV} {rs:List Xh} (h:RegL T A rs) (U:List (Nat×AO)):RegL (T++U) A rs:=by
 induction h with
 | nil=>exact .nil
 | snoc h hx ih=>exact .snoc ih (hx.app U)
theorem RegL.len {T:List (Nat×AO)} {A:List AV} {rs:List Xh} (h:RegL T A rs):A.length=rs.length:=by
 induction h with
 | nil=>rfl
 | snoc h hx ih=>simp [ih]
theorem qty (H:AH) (k:Nat):∀m,mapO (mapO (snap 38 H)) (List.replicate m [AV.int .u32 k])=some (List.replicate m [AV.int .u32 k])
 | 0=>by simp [mapO]
 | m+1=>by
  have ih:=qty H k m;simp only [QCp,mapO,ih];simp
theorem qri {α β:Type} (f:α->Option β):∀(l:List α) (x:α) (l':List β) (y:β),mapO f l=some l'->f x=some y->mapO f (l++[x])=some (l'++[y])
 | [],x,l',y,h,hy=>by
  simp [mapO] at h;subst h;simp [mapO,hy]
 | a::l,x,l',y,h,hy=>by
  simp only [mapO] at h;cases hb:f a with
  | none=>rw [hb] at h;cases h
  | some b=>
   rw [hb] at h;cases hm:mapO f l with
   | none=>rw [hm] at h;cases h
   | some m=>
    rw [hm] at h;cases h;have ih:=qri f l x m y hm hy;simp only [QAp,mapO,hb,ih]
theorem RegL.snp {T:List (Nat×AO)} {A:List AV} {rs:List Xh} (h:RegL T A rs) (o:AO) (n:Nat):
  mapO (mapO (snap 39 ⟨(0,o)::T,n⟩)) (A.map fun x=>[x])=some (rs.map fun r=>[AV.slice 1 (List.replicate (regN r) [.int .u32 0])]):=by
 induction h with
 | nil=>simp [mapO]
 | snoc h hx ih=>
  rw [QAu,QAu];refine qri _ _ _ _ _ ih ?_;rcases hx with ⟨rfl,h0⟩ | ⟨id,h1,rfl,h3⟩
  ·simp [mapO,h0]
  ·have hi:¬(0=id):=by omega
   have hr:=qty ⟨(0,o)::T,n⟩ 0;simp at hr;simp [mapO,look,hi,h3,hr]
theorem qaae {T:List (Nat×AO)} {n:Nat} (h:∀m,n<=m->look m T=none) (o:AO):∀m,n+1+1<=m->look m (T++[(n+1,o)])=none:=by
 intro m hm;have:¬(n+1=m):=by omega
 rw [qa5,h m (by omega)];simp [look,this]
theorem qajz (p:Prg) (f:PrgS p):qab Φ f_84 [.agg (Prg.c p)]=some (.val (.slice 1 ((newR p).map (cS 1 c32)))):=by
 rw [qaa (fn:=c_84) rfl rfl];have hr:=f.r;have e0:(newR p).map (cS 1 c32)=p.Xm.map fun r=>[AV.slice 1 (List.replicate (regN r) [AV.int .u32 0])]:=by
  simp [newR,cSe,c32]
 rw [e0];have b0:(p.Xm.length:Int)*24<=140737488355328:=by omega
 have b3:p.Xm.length<4611686018427387904:=by omega
 simp [c_84,Prg.e,b0,b3];refine qcr p.Xm.length (fun i e h=>∃(A:List AV) (T:List (Nat×AO)) (n:Nat),h=⟨(0,.row 1 (A.map (fun x=>[x])++List.replicate (p.Xm.length - i) [AV.Xu 1 []]))::T,n⟩/\1<=n/\(∀m,n<=m->look m T=none)/\RegL T A (p.Xm.take i)/\
   look 3 e=some (.row 0 1 0 p.Xm.length)/\look 11 e=some (.slice 3 (p.Xm.map Xh.c))/\look 12 e=some (.int .i64 p.Xm.length)/\look 13 e=some (.int .i64 i))
  (fun _=>some (Rt.val (.slice 1 (p.Xm.map fun r=>[AV.slice 1 (List.replicate (regN r) [AV.int .u32 0])])))) ?_ ?_ 0 _ _ (Qc _) ?_
 ·rintro i e _ L hi hL ⟨A,T,n,rfl,hn,hT,hR,h3,h11,h12,h13⟩ ih;have hw:=qaf i (by omega);have hA:A.length=i:=by rw [hR.len];simp;omega
  have hs:=quu p.Xm[i];have hN:p.Xm.length - i=(p.Xm.length - (i+1))+1:=by omega
  rw [hN,QCp];have hn0:¬(0=n):=by omega
  have hn1:¬(n=0):=by omega
  have hTn:=hT n (Qb _);have hTn1:=hT (n+1) (by omega);have hsn:∀{U:List (Nat×AO)} {x:AV},RegL U A (p.Xm.take i)->RegV U x p.Xm[i]->RegL U (A++[x]) (p.Xm.take (i+1)):=by
   intro U x h1 h2;rw [Qh hi];exact .snoc h1 h2
  simp only [Xh.e] at hs;by_cases z:p.Xm[i].size<1\/64<p.Xm[i].size
  ·have hz:regN p.Xm[i]=0:=by simp [regN,z]
   rw [show (!(decide (p.Xm[i].size<1) || decide (64<p.Xm[i].size)))=false by rcases z with z | z<;>simp [z]] at hs;simp [c_84_l0,Xh.e,h11,h12,h13,hi,hs,hw,hn0,hTn];exact ih _ _ ⟨A++[.Xu 1 []],T,_,by simp;rfl,by omega,fun m hm=>hT m (by omega),hsn hR (.inl ⟨rfl,hz⟩),by simp [h3],by simp [h11],by simp [h12],by simp⟩
  ·obtain ⟨k,hk⟩:∃k:Nat,p.Xm[i].size=k:=⟨p.Xm[i].size.toNat,by omega⟩;have hz:regN p.Xm[i]=k:=by simp [regN,z];omega
   rw [show (!(decide (p.Xm[i].size<1) || decide (64<p.Xm[i].size)))=true by simp;omega] at hs;have b1:(k:Int)*4<=140737488355328:=by omega
   have b2:k<4611686018427387904:=by omega
   rw [hk] at hs;simp [c_84_l0,Xh.e,h3,h11,h12,h13,hi,hs,hk,hw,hn0,hn1,hTn,hTn1,b1,b2,hA];refine ih _ _ ⟨A++[.row (n+1) 1 0 k],T++[(n+1,.row 1 (List.replicate k [.int .u32 0]))],n+1+1,by simp,by omega,qaae hT _,hsn (hR.app _) (.inr ⟨n+1,by omega,by rw [hz],by rw [qa5,hTn1,hz];simp⟩),by simp [h3],by simp [h11],by simp [h12],by simp⟩
 ·rintro e _ L hL ⟨A,T,n,rfl,hn,hT,hR,h3,h11,h12,h13⟩;have hS:=hR.snp (.row 1 (A.map (fun x=>[x])++List.replicate (p.Xm.length - p.Xm.length) [AV.Xu 1 []])) n;have hA:A.length=p.Xm.length:=by rw [hR.len];simp
  simp at hS;have hTk:(A.map fun x=>[x]).take p.Xm.length=A.map fun x=>[x]:=by
   rw [Qo];simp [hA]
  simp [c_84_l0,c_84_k1,h3,h12,h13,hL,hA,hTk,hS]
 ·exact ⟨[],[],1,by simp,by omega,fun _ _=>rfl,by simpa using RegL.nil,by simp,by simp,by simp,by simp⟩
structure TabV (p:Prg) (k:Nat) (tb:Tbl) (l:List Rw) (nx:Int) (d:Xb):Prop where
 size:(l.length:Int)<=tb.size
 pos:∀r∈l,0<r.id
 lt:∀r∈l,r.id<nx
 inc:l.Pairwise (fun a b=>a.id<b.id)
 nx0:0<nx
 nx1:nx<=1073741824
 ent:∀r∈l,entE p k r.entry=0
 uniq:l.Pairwise (fun a b=>sk a.entry b.entry=false)
 dflt:qbg p k d=0
theorem qt5 (nx:Int):∀(l:List Rw) (a:Int),(∃b,ordL l a=some b/\b<nx)↔a<nx/\(∀r∈l,a<r.id/\r.id<nx)/\l.Pairwise (fun a b=>a.id<b.id)
 | [],a=>by simp [ordL]
 | r::l,a=>by
  have ih:=qt5 nx l r.id;simp only [ordL];by_cases h:r.id<=a
  ·rw [QAa h];constructor
   ·rintro ⟨b,hb,_⟩;cases hb
   ·rintro ⟨_,h2,_⟩;have:=(h2 r (by simp)).1;omega
  ·rw [QA h,ih,QCu];constructor
   ·rintro ⟨h1,h2,h3⟩;refine ⟨by omega,?_,fun x hx=>(h2 x hx).1,h3⟩;intro x hx;rcases QAj.1 hx with rfl | hx
    ·exact ⟨by omega,h1⟩
    ·have:=h2 x hx;exact ⟨by omega,this.2⟩
   ·rintro ⟨h1,h2,h3,h4⟩;exact ⟨(h2 r (by simp)).2,fun x hx=>⟨h3 x hx,(h2 x (by simp [hx])).2⟩,h4⟩
theorem qaa2 (p:Prg) (t:Int) (l:List Rw):(∀i,i<l.length->rowG p t l i=none)↔(∀r∈l,entE p t r.entry=0)/\l.Pairwise (fun a b=>sk a.entry b.entry=false):=by
 have key:∀i (hi:i<l.length),rowG p t l i=none↔entE p t l[i].entry=0/\∀j (hj:j<i),sk l[j].entry l[i].entry=false:=by
  intro i hi;simp only [rowG,Qa hi,QAi];by_cases h:entE p t l[i].entry=0
  ·rw [QA (by simpa using h)];have:((l.take i).any fun y=>sk y.entry l[i].entry)=true↔¬∀j (hj:j<i),sk l[j].entry l[i].entry=false:=by
    rw [QCn];constructor
    ·rintro ⟨y,hy,hs⟩ hc;obtain ⟨j,hj,rfl⟩:=Qn.1 hy;simp at hj;have:=hc j (by omega);simp only [QAk] at hs;rw [this] at hs;cases hs
    ·intro hc;simp only [Classical.not_forall] at hc;obtain ⟨j,hj,hs⟩:=hc;refine ⟨l[j],?_,by simpa using hs⟩;rw [List.mem_take_iff_getElem];exact ⟨j,by omega,rfl⟩
   by_cases hu:∀j (hj:j<i),sk l[j].entry l[i].entry=false
   ·rw [QA (by rw [this];exact fun hc=>hc hu)];simp [h];exact hu
   ·rw [QAa (this.2 hu)];simp [h];simpa using hu
  ·rw [QAa h];simp [h]
 constructor
 ·intro h;refine ⟨?_,?_⟩
  ·intro r hr;obtain ⟨i,hi,rfl⟩:=Qn.1 hr;exact ((key i hi).1 (h i hi)).1
  ·rw [QBa];intro i j hi hj hij;exact ((key j hj).1 (h j hj)).2 i hij
 ·rintro ⟨h1,h2⟩ i hi;rw [key i hi];refine ⟨h1 _ (Qd hi),?_⟩;intro j hj;exact QBa.1 h2 j i (by omega) hi hj
theorem qahm (p:Prg) (t:Int) (l:List Rw) {i:Nat} {x:Int} (h:rowG p t l i=some x):x≠0:=by
 simp only [rowG,Qt] at h;obtain ⟨r,_,hr⟩:=h;split at hr
 ·cases hr;assumption
 ·split at hr
  ·cases hr;decide
  ·cases hr
theorem qrt (p:Prg) (k:Nat) (tb:Tbl) (l:List Rw) (nx:Int) (d:Xb):rowE p k tb l nx (qbg p k d)=0↔TabV p k tb l nx d:=by
 have hI:=qt5 nx l 0;have hG:=qaa2 p k l;rw [<- fe_all] at hG;unfold rowE;by_cases h:tb.size<(l.length:Int)
 ·rw [QAa h];constructor
  ·intro hc;cases hc
  ·intro hv;have:=hv.size;omega
 rw [QA h];cases ho:ordL l 0 with
 | none=>
  rw [ho] at hI;simp only [tabK];constructor
  ·intro hc;cases hc
  ·intro hv;obtain ⟨b,hb,_⟩:=hI.2 ⟨hv.nx0,fun r hr=>⟨hv.pos r hr,hv.lt r hr⟩,hv.inc⟩;cases hb
 | some a=>
  rw [ho] at hI;simp only [tabK];by_cases h1:nx<=a
  ·rw [QAa h1];constructor
   ·intro hc;cases hc
   ·intro hv;obtain ⟨b,hb,h2⟩:=hI.2 ⟨hv.nx0,fun r hr=>⟨hv.pos r hr,hv.lt r hr⟩,hv.inc⟩;cases hb;omega
  rw [QA h1];have hJ:=hI.1 ⟨a,rfl,by omega⟩;by_cases h2:1073741824<nx
  ·rw [QAa h2];constructor
   ·intro hc;cases hc
   ·intro hv;have:=hv.nx1;omega
  rw [QA h2];cases hf:fe (rowG p k l) l.length 0 with
  | some x=>
   have hx:x≠0:=by
    obtain ⟨i,_,hx⟩:=qd7 hf;exact qahm p k l hx
   rw [hf] at hG;simp only [QAs];constructor
   ·intro hc;exact absurd hc hx
   ·intro hv;have:=hG.2 ⟨hv.ent,hv.uniq⟩;cases this
  | none=>
   have hq:=hG.1 hf;simp only [QCy];constructor
   ·intro hc;exact ⟨by omega,fun r hr=>(hJ.2.1 r hr).1,fun r hr=>(hJ.2.1 r hr).2,hJ.2.2,hJ.1,by omega,hq.1,hq.2,hc⟩
   ·intro hv;exact hv.dflt
structure CfgV (p:Prg) (c:Xf):Prop where
 prg:(prgD p).1=0
 rl:c.rows.length=p.Xn.length
 nl:c.Xr.length=p.Xn.length
 dl:c.Xq.length=p.Xn.length
 tab:∀k tb l nx d,p.Xn[k]? =some tb->c.rows[k]? =some l->c.Xr[k]? =some nx->c.Xq[k]? =some d->TabV p k tb l nx d
 con:conE p c.Xm=0
theorem qala (p:Prg) (c:Xf) {k:Nat} {x:Int} (h:stG p c k=some x):x≠0:=by
 unfold stG at h;split at h
 ·split at h
  ·cases h
  ·cases h;assumption
 ·cases h
theorem qgc (p:Prg) (c:Xf):cfgE p c=0↔CfgV p c:=by
 unfold cfgE;by_cases h:(prgD p).1=0
 rotate_left
 ·rw [QAa h];exact ⟨fun hc=>absurd hc h,fun hv=>absurd hv.prg h⟩
 rw [QA (by simpa using h)];by_cases hl:c.rows.length≠p.Xn.length\/c.Xr.length≠p.Xn.length\/c.Xq.length≠p.Xn.length
 ·rw [QAa hl];constructor
  ·intro hc;cases hc
  ·intro hv;have:=hv.rl;have:=hv.nl;have:=hv.dl;omega
 rw [QA hl];have l1:c.rows.length=p.Xn.length:=by omega
 have l2:c.Xr.length=p.Xn.length:=by omega
 have l3:c.Xq.length=p.Xn.length:=by omega
 cases hf:fe (stG p c) p.Xn.length 0 with
 | some x=>
  obtain ⟨k,hk,hx⟩:=qd7 hf;simp only [QAs];constructor
  ·intro hc;exact absurd hc (qala p c hx)
  ·intro hv;have hq:stG p c k=none:=by
    unfold stG;split
    ·rename_i tb l nx d e1 e2 e3 e4;rw [QAa ((qrt p k tb l nx d).2 (hv.tab k tb l nx d e1 e2 e3 e4))]
    ·rfl
   rw [hq] at hx;cases hx
 | none=>
  simp only [QCy];have ha:=fe_all.1 hf;constructor
  ·intro hc;refine ⟨h,l1,l2,l3,?_,hc⟩;intro k tb l nx d e1 e2 e3 e4;have hk:=(Qm.1 e1).1;have hq:=ha k hk;simp only [stG,e1,e2,e3,e4] at hq;split at hq
   ·rename_i hz;exact (qrt p k tb l nx d).1 hz
   ·cases hq
  ·intro hv;exact hv.con
def qcm (c:Xf) (t:Int):List Rw:=(at? c.rows t).getD []
def qee (c:Xf) (t:Int):Int:=(at? c.Xr t).getD 0
def qmi (p:Prg) (t:Int):Int:=((at? p.Xn t).map Tbl.size).getD 0
def inT (p:Prg) (t:Int):Bool:=decide (0<=t)&&decide (t<p.Xn.length)
def rIdx (l:List Rw) (id:Int):Option Nat:=l.findIdx? fun r=>decide (r.id=id)
def insE (p:Prg) (c:Xf) (t:Int) (x:Entry):Int:=
 if inT p t=false then 8 else if entE p t x≠0 then entE p t x else if (qcm c t).any (fun y=>sk y.entry x)=true then 7
 else if qmi p t<=(qcm c t).length\/1073741824<=qee c t then 13 else 0
def insC (c:Xf) (t:Int) (x:Entry):Xf:=⟨c.rows.set t.toNat (qcm c t++[⟨qee c t,x⟩]),c.Xr.set t.toNat (qee c t+1),c.Xq,c.Xm⟩
def modE (p:Prg) (c:Xf) (t id:Int) (x:Xb):Int:=
 if inT p t=false then 8 else if rIdx (qcm c t) id=none then 8 else qbg p t x
def qbr (x:Xb) (r:Rw):Rw:=⟨r.id,⟨r.entry.keys,r.entry.Xt,x⟩⟩
def modC (c:Xf) (t id:Int) (x:Xb):Xf:=match rIdx (qcm c t) id with
 | some i=>⟨c.rows.set t.toNat ((qcm c t).modify i (qbr x)),c.Xr,c.Xq,c.Xm⟩
 | none=>c
def delE (p:Prg) (c:Xf) (t id:Int):Int:=
 if inT p t=false then 8 else if rIdx (qcm c t) id=none then 8 else 0
def delC (c:Xf) (t id:Int):Xf:=match rIdx (qcm c t) id with
 | some i=>⟨c.rows.set t.toNat ((qcm c t).eraseIdx i),c.Xr,c.Xq,c.Xm⟩
 | none=>c
def defE (p:Prg) (t:Int) (x:Xb):Int:=if inT p t=false then 8 else qbg p t x
def defC (c:Xf) (t:Int) (x:Xb):Xf:=⟨c.rows,c.Xr,c.Xq.set t.toNat x,c.Xm⟩
theorem qft {p:Prg} {t:Int} (h:inT p t=true):∃k:Nat,t=k/\k<p.Xn.length:=by
 unfold inT at h;simp at h;exact ⟨t.toNat,by omega,by omega⟩
theorem qis {p:Prg} {k:Nat} (h:k<p.Xn.length):inT p (k:Int)=true:=by
 unfold inT;simp;omega
section
variable {p:Prg} {c:Xf} {k:Nat}
theorem qda (h:k<c.rows.length):qcm c (k:Int)=c.rows[k]:=by
 unfold qcm;rw [qiz,Qa h];rfl
theorem qii (h:k<c.Xr.length):qee c (k:Int)=c.Xr[k]:=by
 unfold qee;rw [qiz,Qa h];rfl
theorem qk9 (h:k<p.Xn.length):qmi p (k:Int)=p.Xn[k].size:=by
 unfold qmi;rw [qiz,Qa h];rfl
theorem CfgV.at (v:CfgV p c) (h:k<p.Xn.length):TabV p k p.Xn[k] (c.rows[k]'(by rw [v.rl];exact h)) (c.Xr[k]'(by rw [v.nl];exact h)) (c.Xq[k]'(by rw [v.dl];exact h)):=
 v.tab k _ _ _ _ (Qa h) (Qa (by rw [v.rl];exact h)) (Qa (by rw [v.nl];exact h)) (Qa (by rw [v.dl];exact h))
theorem CfgV.upd (v:CfgV p c) (h:k<p.Xn.length) {l:List Rw} {nx:Int} {d:Xb} {R:List (List Rw)} {N:List Int} {D:List Xb}
  (hR:R=c.rows.set k l) (hN:N=c.Xr.set k nx) (hD:D=c.Xq.set k d) (t:TabV p k p.Xn[k] l nx d):CfgV p ⟨R,N,D,c.Xm⟩:=by
 subst hR hN hD;refine ⟨v.prg,by simp [v.rl],by simp [v.nl],by simp [v.dl],?_,v.con⟩;intro j tb l' nx' d' h1 h2 h3 h4;have hl1:=v.rl;have hl2:=v.nl;have hl3:=v.dl;by_cases hj:k=j
 ·subst hj;rw [List.getElem?_set_self (by omega)] at h2 h3 h4;rw [Qa h] at h1;cases h1;cases h2;cases h3;cases h4;exact t
 ·simp only [List.getElem?_set_ne hj] at h2 h3 h4;exact v.tab j _ _ _ _ h1 h2 h3 h4
end
theorem qaf0 {p:Prg} {c:Xf} {t:Int} {x:Entry} (v:CfgV p c) (h:insE p c t x=0):CfgV p (insC c t x):=by
 unfold insE at h;cases hi:inT p t with
 | false=>rw [QAa hi] at h;cases h
 | true=>
 obtain ⟨k,rfl,hk⟩:=qft hi;rw [QA (by rw [hi];decide)] at h;have l1:k<c.rows.length:=by rw [v.rl];exact hk
 have l2:k<c.Xr.length:=by rw [v.nl];exact hk
 have l3:k<c.Xq.length:=by rw [v.dl];exact hk
 have hv:=v.at hk;rw [qda l1,qii l2,qk9 hk] at h;split at h
 ·rename_i h1;exact absurd h h1
 rename_i h1;split at h
 ·cases h
 rename_i h2;split at h
 ·cases h
 rename_i h3;unfold insC;rw [qda l1,qii l2];refine v.upd hk (l:=c.rows[k]++[⟨c.Xr[k],x⟩]) (nx:=c.Xr[k]+1) (d:=c.Xq[k]) (by simp) (by simp) (by simp) ?_;have n0:=hv.nx0;refine ⟨by simp;omega,?_,?_,?_,by omega,by omega,?_,?_,hv.dflt⟩
 ·intro r hr;rcases QAg.1 hr with hr | hr
  ·exact hv.pos r hr
  ·simp at hr;subst hr;exact n0
 ·intro r hr;rcases QAg.1 hr with hr | hr
  ·have:=hv.lt r hr;omega
  ·simp at hr;subst hr;simp;omega
 ·rw [QCo];exact ⟨hv.inc,by simp,fun a ha b hb=>by simp at hb;subst hb;exact hv.lt a ha⟩
 ·intro r hr;rcases QAg.1 hr with hr | hr
  ·exact hv.ent r hr
  ·simp at hr;subst hr;simpa using h1
 ·rw [QCo];refine ⟨hv.uniq,by simp,fun a ha b hb=>?_⟩;simp at hb;subst hb;simp only [QCn,not_exists,not_and,Bool.not_eq_true] at h2;exact h2 a ha
theorem qzo (p:Prg) (t:Int) (x:Entry) (y:Xb) (h:entE p t x=0) (hc:qbg p t y=0):entE p t ⟨x.keys,x.Xt,y⟩=0:=by
 unfold entE at h ⊢;split at h
 ·exact absurd h (by assumption)
 rename_i h1;rw [QA h1];cases ht:at? p.Xn t with
 | none=>rfl
 | some tb=>
  rw [ht] at h;simp only at h ⊢;split at h
  ·cases h
  rename_i h2;rw [QA h2];have he:entG p tb ⟨x.keys,x.Xt,y⟩=entG p tb x:=rfl;rw [he];cases hf:fe (entG p tb x) tb.keys.length 0 with
  | some e=>rw [hf] at h;simpa using h
  | none=>
   rw [hf] at h;simp only [QCy] at h ⊢;unfold entF at h ⊢;unfold qbg at hc;simp only;split at h
   ·cases h
   rename_i a1;rw [QA a1];split at h
   ·cases h
   rename_i a2;rw [QA a2];split at h
   ·cases h
   rename_i a3;rw [QA a3];exact hc
theorem qh9 {l:List Rw} {id:Int} {i:Nat} (h:rIdx l id=some i):∃hi:i<l.length,l[i].id=id:=by
 unfold rIdx at h;rw [List.findIdx?_eq_some_iff_getElem] at h;obtain ⟨hi,h1,_⟩:=h;exact ⟨hi,by simpa using h1⟩
theorem qagg {p:Prg} {c:Xf} {t id:Int} {x:Xb} (v:CfgV p c) (h:modE p c t id x=0):CfgV p (modC c t id x):=by
 unfold modE at h;cases hi:inT p t with
 | false=>rw [QAa hi] at h;cases h
 | true=>
 obtain ⟨k,rfl,hk⟩:=qft hi;rw [QA (by rw [hi];decide)] at h;have l1:k<c.rows.length:=by rw [v.rl];exact hk
 have l2:k<c.Xr.length:=by rw [v.nl];exact hk
 have l3:k<c.Xq.length:=by rw [v.dl];exact hk
 have hv:=v.at hk;unfold modC;rw [qda l1] at h ⊢;cases hx:rIdx c.rows[k] id with
 | none=>simp only;exact v
 | some i=>
  rw [hx,QA (by simp)] at h;simp only;obtain ⟨hil,hid⟩:=qh9 hx;have hm:c.rows[k].modify i (qbr x)=c.rows[k].set i (qbr x c.rows[k][i]):=by
   refine List.ext_getElem (by simp) fun j h1 h2=>?_
   rw [QBv,List.getElem_set];split
   ·rename_i e;subst e;rfl
   ·rfl
  refine v.upd hk (l:=c.rows[k].modify i (qbr x)) (nx:=c.Xr[k]) (d:=c.Xq[k]) (by simp) (by simp) (by simp) ?_;have mem:∀r∈c.rows[k].modify i (qbr x),∃r'∈c.rows[k],r.id=r'.id/\entE p k r.entry=0:=by
   intro r hr;rw [hm] at hr;rcases Qq hr with hr | rfl
   ·exact ⟨r,hr,rfl,hv.ent r hr⟩
   ·exact ⟨_,Qd hil,rfl,qzo p k _ x (hv.ent _ (Qd hil)) h⟩
  have get:∀j (hj:j<(c.rows[k].modify i (qbr x)).length),(c.rows[k].modify i (qbr x))[j].id=(c.rows[k][j]'(by simpa using hj)).id/\(c.rows[k].modify i (qbr x))[j].entry.keys=(c.rows[k][j]'(by simpa using hj)).entry.keys/\(c.rows[k].modify i (qbr x))[j].entry.Xt=(c.rows[k][j]'(by simpa using hj)).entry.Xt:=by
   intro j hj;rw [QBv];split<;>simp [qbr]
  refine ⟨by simpa using hv.size,?_,?_,?_,hv.nx0,hv.nx1,?_,?_,hv.dflt⟩
  ·intro r hr;obtain ⟨r',hr',e,_⟩:=mem r hr;rw [e];exact hv.pos r' hr'
  ·intro r hr;obtain ⟨r',hr',e,_⟩:=mem r hr;rw [e];exact hv.lt r' hr'
  ·rw [QBa];intro a b ha hb hab;rw [(get a ha).1,(get b hb).1];exact QBa.1 hv.inc a b _ _ hab
  ·intro r hr;obtain ⟨_,_,_,e⟩:=mem r hr;exact e
  ·rw [QBa];intro a b ha hb hab;have:=QBa.1 hv.uniq a b (by simpa using ha) (by simpa using hb) hab;unfold sk at this ⊢;rw [(get a ha).2.1,(get a ha).2.2,(get b hb).2.1,(get b hb).2.2];exact this
theorem qafe {p:Prg} {c:Xf} {t id:Int} (v:CfgV p c) (h:delE p c t id=0):CfgV p (delC c t id):=by
 unfold delE at h;cases hi:inT p t with
 | false=>rw [QAa hi] at h;cases h
 | true=>
 obtain ⟨k,rfl,hk⟩:=qft hi;have l1:k<c.rows.length:=by rw [v.rl];exact hk
 have l2:k<c.Xr.length:=by rw [v.nl];exact hk
 have l3:k<c.Xq.length:=by rw [v.dl];exact hk
 have hv:=v.at hk;unfold delC;rw [qda l1];cases hx:rIdx c.rows[k] id with
 | none=>simp only;exact v
 | some i=>
  simp only;refine v.upd hk (l:=c.rows[k].eraseIdx i) (nx:=c.Xr[k]) (d:=c.Xq[k]) (by simp) (by simp) (by simp) ?_;have hs:=List.eraseIdx_sublist c.rows[k] i;have hsz:=hv.size;have hle:=hs.length_le;exact ⟨by omega,fun r hr=>hv.pos r (hs.subset hr),fun r hr=>hv.lt r (hs.subset hr),hv.inc.sublist hs,hv.nx0,hv.nx1,fun r hr=>hv.ent r (hs.subset hr),hv.uniq.sublist hs,hv.dflt⟩
theorem qafd {p:Prg} {c:Xf} {t:Int} {x:Xb} (v:CfgV p c) (h:defE p t x=0):CfgV p (defC c t x):=by
 unfold defE at h;cases hi:inT p t with
 | false=>rw [QAa hi] at h;cases h
 | true=>
 obtain ⟨k,rfl,hk⟩:=qft hi;rw [QA (by rw [hi];decide)] at h;have l1:k<c.rows.length:=by rw [v.rl];exact hk
 have l2:k<c.Xr.length:=by rw [v.nl];exact hk
 have l3:k<c.Xq.length:=by rw [v.dl];exact hk
 have hv:=v.at hk;unfold defC;exact v.upd hk (l:=c.rows[k]) (nx:=c.Xr[k]) (d:=x) (by simp) (by simp) (by simp) ⟨hv.size,hv.pos,hv.lt,hv.inc,hv.nx0,hv.nx1,hv.ent,hv.uniq,h⟩
end Go.Av
