/-
 Rows with the key of an entry; calls of a table; on both sides.
-/
import Derived.Test.YtakklbipljodeaaGreatQ1
set_option linter.unusedVariables false
set_option linter.unusedSimpArgs false
set_option linter.constructorNameAsVariable false
namespace Go.Av
set_option maxRecDepth 4000
def qbs (p:Prg) (t:Int) (c:ActionCall):Int:=if tAl p t c.action=false then 8 else qdi p c
theorem qy7 (p:Prg) (f:PrgS p) (t:Int) (c:ActionCall) (hc:c.args.length<2^40):qab Φ f_92 [.agg (Prg.c p),.int .i64 t,.agg (ActionCall.c c)]=some (.val (.int .i64 (qbs p t c))):=by
 rw [qaa (fn:=c_92) rfl rfl]
 have ha:=qnd p f t c.action
 have hk:=qlz p f c hc
 simp only [Prg.e,ActionCall.ce] at ha hk
 cases q:tAl p t c.action with
 | false=>rw [q] at ha;simp [c_92,Prg.e,ActionCall.ce,ha,qbs,q]
 | true=>rw [q] at ha;simp [c_92,Prg.e,ActionCall.ce,ha,hk,qbs,q]
theorem qym (p:Prg) (f:PrgS p) (hv:∀t∈p.tables,∀v∈t.dflt.args,ok32 0 v) (t:Int) (c:ActionCall) (hc:c.args.length<2^40) (hr:∀v∈c.args,ok32 0 v):qab Φ f_68 [.agg (Prg.c p),.int .i64 t,.agg (ActionCall.c c)]=some (.val (.int .i64 (qbs p t c))):=by
 rw [qaa (fn:=c_68) rfl rfl]
 have ha:=qm5 p f hv t c.action
 have hk:=qkp p f c hc hr
 simp only [Prg.e,ActionCall.ce] at ha hk
 cases q:tAl p t c.action with
 | false=>rw [q] at ha;simp [c_68,Prg.e,ActionCall.ce,ha,qbs,q]
 | true=>rw [q] at ha;simp [c_68,Prg.e,ActionCall.ce,ha,hk,qbs,q]
def sk (x y:Entry):Bool:=decide (x.keys=y.keys∧x.priority=y.priority)
theorem qadm (x y:Entry) (hb:x.keys.length<2^40):qab Φ f_89 [.agg [.slice 2 (x.keys.map KeyMatch.c),.int .i64 x.priority,.int .i64 x.call.action,.slice 1 (x.call.args.map c32)],.agg [.slice 2 (y.keys.map KeyMatch.c),.int .i64 y.priority,.int .i64 y.call.action,.slice 1 (y.call.args.map c32)]]=some (.val (.bool (sk x y))):=qsd _ _ _ _ _ _ hb
theorem qae4 (x y:Entry) (hb:x.keys.length<2^40):qab Φ f_85 [.agg [.slice 2 (x.keys.map KeyMatch.c),.int .i64 x.priority,.int .i64 x.call.action,.slice 1 (x.call.args.map c32)],.agg [.slice 2 (y.keys.map KeyMatch.c),.int .i64 y.priority,.int .i64 y.call.action,.slice 1 (y.call.args.map c32)]]=some (.val (.bool (sk x y))):=qg3 _ _ _ _ _ _ hb
theorem qadj (x r:Rw) (hb:x.entry.keys.length<2^40):qab Φ f_150 [.agg (Rw.c x),.iptr 5 [Rw.c r] 0 0]=some (.val (.bool (sk x.entry r.entry))):=by
 rw [qaa (fn:=c_150) rfl rfl]
 have h:=qadm x.entry r.entry hb
 simp [c_150,Rw.ce,h]
theorem qv3 (l:List Rw) (r:Rw) (hl:l.length<2^40) (hs:∀x∈l,x.entry.keys.length<2^40):qab Φ f_181 [.slice 5 (l.map Rw.c),.func (.func f_150) [] [.iptr 5 [Rw.c r] 0 0]]=some (.val (.int .i64 (ix (fun x=>sk x.entry r.entry) l 0))):=by
 rw [qaa (fn:=c_181) rfl rfl]
 simp [c_181]
 refine (qaw l.length (fun i e=>look 0 e=some (.slice 5 (l.map Rw.c))∧look 1 e=some (.func (.func f_150) [] [.iptr 5 [Rw.c r] 0 0])∧look 7 e=some (.int .i64 l.length)∧look 8 e=some (.int .i64 i))
  (fun i=>some (.val (.int .i64 (ix (fun x=>sk x.entry r.entry) l i)))) ?_ ?_ 0 _ (Nat.zero_le _) ?_).trans (by simp)
 ·rintro i e L hi hL ⟨h0,h1,h7,h8⟩ ih
  have hw:IntKind.wrap .i64 ((i:Int)+1)=((i+1:Nat):Int):=qad (by omega) (by omega)
  have hd:=qadj l[i] r (hs _ (List.getElem_mem hi))
  simp only [Rw.ce] at hd h1
  cases z:sk l[i].entry r.entry with
  | true=>
   rw [qiy hi (by simpa using z)]
   rw [z] at hd
   simp [c_181_l0,Rw.ce,h0,h1,h7,h8,hi,hL,hd]
  | false=>
   rw [qhf hi (by simpa using z)]
   rw [z] at hd
   simp [c_181_l0,Rw.ce,h0,h1,h7,h8,hi,hL,hd,hw]
   exact ih _ ⟨by simp [h0],by simp [h1,Rw.ce],by simp [h7],by simp⟩
 ·rintro e L hL ⟨h0,h1,h7,h8⟩
  rw [qix]
  simp [c_181_l0,c_181_k1,h0,h1,h7,h8,hL]
 ·simp
theorem qvj (l:List Rw) (r:Rw) (hl:l.length<2^40) (hs:∀x∈l,x.entry.keys.length<2^40):qab Φ f_87 [.slice 5 (l.map Rw.c),.func (.func f_150) [] [.iptr 5 [Rw.c r] 0 0]]=some (.val (.bool (l.any fun x=>sk x.entry r.entry))):=by
 rw [qaa (fn:=c_87) rfl rfl]
 have h:=qv3 l r hl hs
 rw [← qiw]
 simp [c_87,h]
theorem qzr (l:List Rw) (x:Entry) (hl:l.length<2^40) (hs:∀x∈l,x.entry.keys.length<2^40):qab Φ f_154 [.slice 5 (l.map Rw.c),.agg (Entry.c x)]=some (.val (.bool (l.any fun y=>sk y.entry x))):=by
 rw [qaa (fn:=c_154) rfl rfl]
 generalize hY:some (Rt.val (AV.bool (l.any fun y=>sk y.entry x)))=Y
 simp [c_154,Entry.ce]
 rw [show Y=some (Rt.val (AV.bool ((l.drop 0).any fun y=>sk y.entry x))) by rw [← hY];simp]
 refine qaw l.length (fun i e=>look 0 e=some (.slice 5 (l.map Rw.c))∧look 3 e=some (.iptr 4 [Entry.c x] 0 0)∧look 5 e=some (.int .i64 i))
  (fun i=>some (Rt.val (.bool ((l.drop i).any fun y=>sk y.entry x)))) ?_ ?_ 0 _ (Nat.zero_le _) ?_
 ·rintro i e L hi hL ⟨h0,h3,h5⟩ ih
  have hw:IntKind.wrap .i64 ((i:Int)+1)=((i+1:Nat):Int):=qad (by omega) (by omega)
  have hd:=qae4 l[i].entry x (hs _ (List.getElem_mem hi))
  rw [Entry.ce] at h3
  rw [List.drop_eq_getElem_cons hi,List.any_cons]
  cases z:sk l[i].entry x with
  | true=>
   rw [z] at hd
   rw [Bool.true_or]
   simp [c_154_l0,Rw.ce,h0,h3,h5,hi,hL,hd]
  | false=>
   rw [z] at hd
   rw [Bool.false_or]
   generalize hX:some (Rt.val (AV.bool ((l.drop (i+1)).any fun y=>sk y.entry x)))=X
   simp [c_154_l0,Rw.ce,h0,h3,h5,hi,hL,hd,hw]
   rw [← hX]
   exact ih _ ⟨by simp [h0],by simp [h3,Entry.ce],by simp⟩
 ·rintro e L hL ⟨h0,h3,h5⟩
  simp [c_154_l0,c_154_k1,h0,h3,h5,hL]
 ·simp [Entry.ce]
end Go.Av
namespace Go.Av
set_option maxRecDepth 4000
def ordL:List Rw→Int→Option Int
 | [],a=>some a
 | r::l,a=>if r.id≤a then none else ordL l r.id
def rowG (p:Prg) (t:Int) (l:List Rw) (i:Nat):Option Int:=(l[i]?).bind fun r=>if entE p t r.entry≠0 then some (entE p t r.entry) else if (l.take i).any (fun y=>sk y.entry r.entry)=true then some 7 else none
def tabK (p:Prg) (t:Int) (l:List Rw) (next:Int) (z:Int):Option Int→Int
 | none=>14
 | some a=>if next≤a then 14 else if 1073741824<next then 14 else (fe (rowG p t l) l.length 0).getD z
def rowS (r:Rw):Prop:=EntS r.entry
theorem ct_b (p:Prg) (f:PrgS p) (t:Int) (l:List Rw) (next:Int) (d:ActionCall) (hl:l.length<2^40) (hs:∀r∈l,rowS r) (hd:d.args.length<2^40) (a:Int) (ha:0≤a) (e:Env) (n:Nat)
  (h1:look 1 e=some (.int .i64 t)) (h2:look 2 e=some (.slice 5 (l.map Rw.c))) (h3:look 3 e=some (.int .i64 next)) (h5:look 5 e=some (.iptr 9 [Prg.c p] 0 0)) (h9:look 9 e=some (.iptr 2 [ActionCall.c d] 0 0)) (h11:look 11 e=some (.int .i64 a)):
  go Φ (finP [.tmp 10]) [.c c_64_k3] .normal ⟨e,⟨[],n⟩⟩=some (.val (.int .i64 (tabK p t l next (qbs p t d) (some a)))):=by
 unfold tabK
 dsimp only
 by_cases z0:next≤a
 ·simp [c_64_k3,h3,h11,z0]
 have z1:¬next<1:=by omega
 by_cases z2:1073741824<next
 ·simp [c_64_k3,h3,h11,z0,z1,z2]
 rw [if_neg z0,if_neg z2]
 simp [c_64_k3,h2,h3,h11,z0,z1,z2]
 refine qau l.length (fun _=>[]) 0 (fun i e=>look 1 e=some (.int .i64 t)∧look 2 e=some (.slice 5 (l.map Rw.c))∧look 5 e=some (.iptr 9 [Prg.c p] 0 0)∧look 9 e=some (.iptr 2 [ActionCall.c d] 0 0)∧look 50 e=some (.slice 5 (l.map Rw.c))∧look 51 e=some (.int .i64 l.length)∧look 52 e=some (.int .i64 i))
  (fun i=>some (Rt.val (.int .i64 ((fe (rowG p t l) l.length i).getD (qbs p t d))))) ?_ ?_ 0 _ n (Nat.zero_le _) (Nat.zero_le _) ?_
 ·rintro i e n L hi hL _ ⟨h1,h2,h5,h9,h50,h51,h52⟩ ih
  have hw:IntKind.wrap .i64 ((i:Int)+1)=((i+1:Nat):Int):=qad (by omega) (by omega)
  have hm:=hs _ (List.getElem_mem hi)
  have hc:=qaar p f t l[i].entry hm
  have hi':i≤l.length:=by omega
  have hx:qab Φ f_87 [.slice 5 ((l.map Rw.c).take i),.func (.func f_150) [] [.iptr 5 [Rw.c l[i]] 0 0]]=some (.val (.bool ((l.take i).any fun x=>sk x.entry l[i].entry))):=by
   rw [← List.map_take]
   exact qvj (l.take i) l[i] (by simp;omega) fun x hx=>(hs x (List.mem_of_mem_take hx)).kl
  simp only [Prg.e,Entry.ce] at hc
  rw [Rw.ce] at hx
  rw [Prg.e] at h5
  by_cases v:entE p t l[i].entry=0
  ·rw [v] at hc
   cases w:(l.take i).any fun x=>sk x.entry l[i].entry with
   | true=>
    rw [w] at hx
    rw [qah (x:=(7:Int)) hi (by simp only [rowG,List.getElem?_eq_getElem hi,Option.bind_some];rw [if_neg (by simp [v]),if_pos w])]
    simp [c_64_l1,Rw.ce,h1,h2,h5,h9,h50,h51,h52,hi,hi',hL,hc,hx]
   | false=>
    rw [w] at hx
    rw [qap hi (by simp only [rowG,List.getElem?_eq_getElem hi,Option.bind_some];rw [if_neg (by simp [v]),if_neg (by rw [w];decide)])]
    generalize hX:some (Rt.val (AV.int .i64 ((fe (rowG p t l) l.length (i+1)).getD (qbs p t d))))=X
    simp [c_64_l1,Rw.ce,h1,h2,h5,h9,h50,h51,h52,hi,hi',hL,hc,hx,hw]
    rw [← hX]
    exact ih _ _ (Nat.zero_le _) ⟨by simp [h1],by simp [h2],by simp [h5,Prg.e],by simp [h9],by simp [h50],by simp [h51],by simp⟩
  ·rw [qah (x:=entE p t l[i].entry) hi (by simp only [rowG,List.getElem?_eq_getElem hi,Option.bind_some];rw [if_pos v])]
   simp [c_64_l1,Rw.ce,h1,h2,h5,h9,h50,h51,h52,hi,hi',hL,hc,v]
 ·rintro e n L hL _ ⟨h1,h2,h5,h9,h50,h51,h52⟩
  have hk:=qy7 p f t d hd
  simp only [Prg.e,ActionCall.ce] at hk
  rw [Prg.e] at h5
  rw [ActionCall.ce] at h9
  rw [qaz]
  simp [c_64_l1,c_64_k2,h1,h2,h5,h9,h50,h51,h52,hL,hk]
 ·simp [h1,h2,h5,h9]
theorem qaan (p:Prg) (f:PrgS p) (k:Nat) (hk:k<p.tables.length) (l:List Rw) (next:Int) (d:ActionCall) (hl:l.length<2^40) (hs:∀r∈l,rowS r) (hd:d.args.length<2^40):
  qab Φ f_64 [.agg (Prg.c p),.int .i64 k,.slice 5 (l.map Rw.c),.int .i64 next,.agg (ActionCall.c d)]=some (.val (.int .i64 (if p.tables[k].size<l.length then 12 else tabK p k l next (qbs p k d) (ordL l 0)))):=by
 rw [qaa (fn:=c_64) rfl rfl]
 by_cases z:p.tables[k].size<(l.length:Int)
 ·simp [c_64,Prg.e,ActionCall.ce,Tbl.e,hk,z]
 rw [if_neg z]
 simp [c_64,Prg.e,ActionCall.ce,Tbl.e,hk,z]
 refine qau l.length (fun _=>[]) 0 (fun i e=>look 1 e=some (.int .i64 k)∧look 2 e=some (.slice 5 (l.map Rw.c))∧look 3 e=some (.int .i64 next)∧look 5 e=some (.iptr 9 [Prg.c p] 0 0)∧look 9 e=some (.iptr 2 [ActionCall.c d] 0 0)∧look 26 e=some (.slice 5 (l.map Rw.c))∧look 27 e=some (.int .i64 l.length)∧look 28 e=some (.int .i64 i)∧∃a:Int,look 11 e=some (.int .i64 a)∧0≤a∧ordL (l.drop i) a=ordL l 0)
  (fun _=>some (Rt.val (.int .i64 (tabK p k l next (qbs p k d) (ordL l 0))))) ?_ ?_ 0 _ 0 (Nat.zero_le _) (Nat.zero_le _) ?_
 ·rintro i e n L hi hL _ ⟨h1,h2,h3,h5,h9,h26,h27,h28,a,h11,ha,ho⟩ ih
  have hw:IntKind.wrap .i64 ((i:Int)+1)=((i+1:Nat):Int):=qad (by omega) (by omega)
  rw [List.drop_eq_getElem_cons hi] at ho
  simp only [ordL] at ho
  by_cases y:l[i].id≤a
  ·rw [if_pos y] at ho
   rw [← ho]
   simp [c_64_l0,Rw.ce,h1,h2,h26,h27,h28,h11,hi,hL,y,tabK]
  ·rw [if_neg y] at ho
   generalize hX:some (Rt.val (AV.int .i64 (tabK p k l next (qbs p k d) (ordL l 0))))=X
   simp [c_64_l0,Rw.ce,h1,h2,h26,h27,h28,h11,hi,hL,y,hw]
   rw [← hX]
   exact ih _ _ (Nat.zero_le _) ⟨by simp [h1],by simp [h2],by simp [h3],by simp [h5],by simp [h9],by simp [h26],by simp [h27],by simp,l[i].id,by simp,by omega,ho⟩
 ·rintro e n L hL _ ⟨h1,h2,h3,h5,h9,h26,h27,h28,a,h11,ha,ho⟩
  rw [List.drop_length] at ho
  simp only [ordL] at ho
  rw [← ho]
  generalize hX:some (Rt.val (AV.int .i64 (tabK p k l next (qbs p k d) (some a))))=X
  simp [c_64_l0,h26,h27,h28,hL]
  rw [← hX]
  exact ct_b p f k l next d hl hs hd a ha _ _ (by simp [h1]) (by simp [h2]) (by simp [h3]) (by simp [h5]) (by simp [h9]) (by simp [h11])
 ·simp [Prg.e,ActionCall.ce]
end Go.Av
namespace Go.Av
set_option maxRecDepth 4000
theorem rt_b (p:Prg) (f:PrgS p) (hv:∀t∈p.tables,∀v∈t.dflt.args,ok32 0 v) (t:Int) (l:List Rw) (next:Int) (hl:l.length<2^40) (hs:∀r∈l,rowS r) (a:Int) (e:Env) (n:Nat)
  (h1:look 1 e=some (.int .i64 t)) (h2:look 2 e=some (.slice 5 (l.map Rw.c))) (h3:look 3 e=some (.int .i64 next)) (h4:look 4 e=some (.iptr 9 [Prg.c p] 0 0)) (h9:look 9 e=some (.int .i64 a)):
  go Φ (finP [.tmp 8]) [.c c_67_k3] .normal ⟨e,⟨[],n⟩⟩=some (.val (.int .i64 (tabK p t l next 0 (some a)))):=by
 unfold tabK
 dsimp only
 by_cases z0:next≤a
 ·simp [c_67_k3,h3,h9,z0]
 by_cases z2:1073741824<next
 ·simp [c_67_k3,h3,h9,z0,z2]
 rw [if_neg z0,if_neg z2]
 simp [c_67_k3,h3,h9,z0,z2]
 refine qau l.length (fun _=>[]) 0 (fun i e=>look 1 e=some (.int .i64 t)∧look 2 e=some (.slice 5 (l.map Rw.c))∧look 4 e=some (.iptr 9 [Prg.c p] 0 0)∧look 11 e=some (.int .i64 i))
  (fun i=>some (Rt.val (.int .i64 ((fe (rowG p t l) l.length i).getD 0)))) ?_ ?_ 0 _ n (Nat.zero_le _) (Nat.zero_le _) ?_
 ·rintro i e n L hi hL _ ⟨h1,h2,h4,h11⟩ ih
  have hw:IntKind.wrap .i64 ((i:Int)+1)=((i+1:Nat):Int):=qad (by omega) (by omega)
  have hm:=hs _ (List.getElem_mem hi)
  have hc:=qyr p f hv t l[i].entry hm
  have hi':i≤l.length:=by omega
  have hx:qab Φ f_154 [.slice 5 ((l.map Rw.c).take i),.agg (Entry.c l[i].entry)]=some (.val (.bool ((l.take i).any fun x=>sk x.entry l[i].entry))):=by
   rw [← List.map_take]
   exact qzr (l.take i) l[i].entry (by simp;omega) fun x hx=>(hs x (List.mem_of_mem_take hx)).kl
  simp only [Prg.e,Entry.ce] at hc
  rw [Entry.ce] at hx
  rw [Prg.e] at h4
  by_cases v:entE p t l[i].entry=0
  ·rw [v] at hc
   cases w:(l.take i).any fun x=>sk x.entry l[i].entry with
   | true=>
    rw [w] at hx
    rw [qah (x:=(7:Int)) hi (by simp only [rowG,List.getElem?_eq_getElem hi,Option.bind_some];rw [if_neg (by simp [v]),if_pos w])]
    simp [c_67_l1,Rw.ce,h1,h2,h4,h11,hi,hi',hL,hc,hx]
   | false=>
    rw [w] at hx
    rw [qap hi (by simp only [rowG,List.getElem?_eq_getElem hi,Option.bind_some];rw [if_neg (by simp [v]),if_neg (by rw [w];decide)])]
    generalize hX:some (Rt.val (AV.int .i64 ((fe (rowG p t l) l.length (i+1)).getD 0)))=X
    simp [c_67_l1,Rw.ce,h1,h2,h4,h11,hi,hi',hL,hc,hx,hw]
    rw [← hX]
    exact ih _ _ (Nat.zero_le _) ⟨by simp [h1],by simp [h2],by simp [h4,Prg.e],by simp⟩
  ·rw [qah (x:=entE p t l[i].entry) hi (by simp only [rowG,List.getElem?_eq_getElem hi,Option.bind_some];rw [if_pos v])]
   simp [c_67_l1,Rw.ce,h1,h2,h4,h11,hi,hi',hL,hc,v]
 ·rintro e n L hL _ ⟨h1,h2,h4,h11⟩
  rw [qaz]
  simp [c_67_l1,c_67_k2,h1,h2,h4,h11,hL]
 ·simp [h1,h2,h4]
theorem qy3 (p:Prg) (f:PrgS p) (hv:∀t∈p.tables,∀v∈t.dflt.args,ok32 0 v) (k:Nat) (hk:k<p.tables.length) (l:List Rw) (next:Int) (hl:l.length<2^40) (hs:∀r∈l,rowS r):
  qab Φ f_67 [.agg (Prg.c p),.int .i64 k,.slice 5 (l.map Rw.c),.int .i64 next]=some (.val (.int .i64 (if p.tables[k].size<l.length then 12 else tabK p k l next 0 (ordL l 0)))):=by
 rw [qaa (fn:=c_67) rfl rfl]
 by_cases z:p.tables[k].size<(l.length:Int)
 ·simp [c_67,Prg.e,Tbl.e,hk,z]
 rw [if_neg z]
 simp [c_67,Prg.e,Tbl.e,hk,z]
 refine qau l.length (fun _=>[]) 0 (fun i e=>look 1 e=some (.int .i64 k)∧look 2 e=some (.slice 5 (l.map Rw.c))∧look 3 e=some (.int .i64 next)∧look 4 e=some (.iptr 9 [Prg.c p] 0 0)∧look 10 e=some (.int .i64 i)∧∃a:Int,look 9 e=some (.int .i64 a)∧ordL (l.drop i) a=ordL l 0)
  (fun _=>some (Rt.val (.int .i64 (tabK p k l next 0 (ordL l 0))))) ?_ ?_ 0 _ 0 (Nat.zero_le _) (Nat.zero_le _) ?_
 ·rintro i e n L hi hL _ ⟨h1,h2,h3,h4,h10,a,h9,ho⟩ ih
  have hw:IntKind.wrap .i64 ((i:Int)+1)=((i+1:Nat):Int):=qad (by omega) (by omega)
  rw [List.drop_eq_getElem_cons hi] at ho
  simp only [ordL] at ho
  by_cases y:l[i].id≤a
  ·rw [if_pos y] at ho
   rw [← ho]
   simp [c_67_l0,Rw.ce,h1,h2,h10,h9,hi,hL,y,tabK]
  ·rw [if_neg y] at ho
   generalize hX:some (Rt.val (AV.int .i64 (tabK p k l next 0 (ordL l 0))))=X
   simp [c_67_l0,Rw.ce,h1,h2,h10,h9,hi,hL,y,hw]
   rw [← hX]
   exact ih _ _ (Nat.zero_le _) ⟨by simp [h1],by simp [h2],by simp [h3],by simp [h4],by simp,l[i].id,by simp,ho⟩
 ·rintro e n L hL _ ⟨h1,h2,h3,h4,h10,a,h9,ho⟩
  rw [List.drop_length] at ho
  simp only [ordL] at ho
  rw [← ho]
  generalize hX:some (Rt.val (AV.int .i64 (tabK p k l next 0 (some a))))=X
  simp [c_67_l0,h2,h10,hL]
  rw [← hX]
  exact rt_b p f hv k l next hl hs a _ _ (by simp [h1]) (by simp [h2]) (by simp [h3]) (by simp [h4]) (by simp [h9])
 ·simp [Prg.e]
end Go.Av
namespace Go.Av
set_option maxRecDepth 4000
def mxF:List Int→Int→Int
 | [],a=>a
 | x::r,a=>mxF r (max a x)
theorem qwc (M:Int):∀(l:List Int) (a:Int),M<mxF l a↔M<a∨∃x∈l,M<x
 | [],a=>by simp [mxF]
 | x::r,a=>by
  have ih:=qwc M r (max a x)
  simp only [mxF,ih,List.mem_cons,exists_eq_or_imp]
  constructor
  ·rintro (h | h)
   ·by_cases q:M<a
    ·exact .inl q
    ·exact .inr (.inl (by omega))
   ·exact .inr (.inr h)
  ·rintro (h | h | h)
   ·exact .inl (by omega)
   ·exact .inl (by omega)
   ·exact .inr h
theorem qad1 (l:List Int) (h0:0<l.length) (hl:l.length<2^40):qab Φ f_151 [.slice 1 (l.map c32)]=some (.val (.int .u32 (mxF l.tail l[0]))):=by
 rw [qaa (fn:=c_151) rfl rfl]
 have h1:¬(l.length:Int)<1:=by omega
 simp [c_151,h0,h1,c32]
 refine qau l.length (fun _=>[]) 0 (fun i e=>look 0 e=some (.slice 1 (l.map c32))∧look 4 e=some (.int .i64 i)∧∃a:Int,look 3 e=some (.int .u32 a)∧mxF (l.drop i) a=mxF l.tail l[0])
  (fun _=>some (Rt.val (.int .u32 (mxF l.tail l[0])))) ?_ ?_ 1 _ 0 (by omega) (Nat.zero_le _) ?_
 ·rintro i e n L hi hL _ ⟨h0,h4,a,h3,hm⟩ ih
  have hw:IntKind.wrap .i64 ((i:Int)+1)=((i+1:Nat):Int):=qad (by omega) (by omega)
  rw [List.drop_eq_getElem_cons hi] at hm
  simp only [mxF] at hm
  generalize hX:some (Rt.val (AV.int .u32 (mxF l.tail l[0])))=X
  simp [c_151_l0,c32,h0,h4,h3,hi,hL,hw]
  rw [← hX]
  exact ih _ _ (Nat.zero_le _) ⟨by simp [h0,c32],by simp,max a l[i],by simp;split<;>omega,hm⟩
 ·rintro e n L hL _ ⟨h0,h4,a,h3,hm⟩
  rw [List.drop_length] at hm
  simp only [mxF] at hm
  rw [← hm]
  simp [c_151_l0,c_151_k1,h0,h4,h3,hL]
 ·simp [c32]
def szG (p:Prg) (rs:List (List Int)) (i:Nat):Option Int:=match rs[i]?,p.registers[i]? with
 | some l,some r=>if (l.length:Int)=r.size then none else some 2
 | _,_=>none
def vlG (p:Prg) (rs:List (List Int)) (i:Nat):Option Int:=match rs[i]?,p.registers[i]? with
 | some l,some r=>if l.any (fun v=>decide (qa7 r.width<v))=true then some 9 else none
 | _,_=>none
def conE (p:Prg) (rs:List (List Int)):Int:=if rs.length≠p.registers.length then 2 else (fe (szG p rs) rs.length 0).getD ((fe (vlG p rs) rs.length 0).getD 0)
theorem con_b (p:Prg) (f:PrgS p) (rs:List (List Int)) (hl:rs.length<2^40) (hs:∀l∈rs,l.length<2^40) (hz:rs.length=p.registers.length) (e:Env) (n:Nat)
  (h1:look 1 e=some (.slice 1 (rs.map (cS 1 c32)))) (h2:look 2 e=some (.iptr 9 [Prg.c p] 0 0)):
  go Φ (finP [.tmp 4]) [.c c_65_k3] .normal ⟨e,⟨[],n⟩⟩=some (.val (.int .i64 ((fe (vlG p rs) rs.length 0).getD 0))):=by
 simp [c_65_k3,h1]
 refine qau rs.length (fun _=>[]) 0 (fun i e=>look 2 e=some (.iptr 9 [Prg.c p] 0 0)∧look 32 e=some (.slice 1 (rs.map (cS 1 c32)))∧look 33 e=some (.int .i64 rs.length)∧look 34 e=some (.int .i64 i))
  (fun i=>some (Rt.val (.int .i64 ((fe (vlG p rs) rs.length i).getD 0)))) ?_ ?_ 0 _ n (Nat.zero_le _) (Nat.zero_le _) ?_
 ·rintro i e n L hi hL _ ⟨h2,h32,h33,h34⟩ ih
  have hw:IntKind.wrap .i64 ((i:Int)+1)=((i+1:Nat):Int):=qad (by omega) (by omega)
  have hi2:i<p.registers.length:=by omega
  have hm:=qfk p.registers[i].width
  rw [Prg.e] at h2
  by_cases e0:rs[i].length=0
  ·have e1:rs[i]=[]:=List.eq_nil_of_length_eq_zero e0
   rw [qap hi (by simp [vlG,hi,hi2,e1])]
   generalize hX:some (Rt.val (AV.int .i64 ((fe (vlG p rs) rs.length (i+1)).getD 0)))=X
   simp [c_65_l1,cSe,h2,h32,h33,h34,hi,hL,hw,e1]
   rw [← hX]
   exact ih _ _ (Nat.zero_le _) ⟨by simp [h2,Prg.e],by simp [h32],by simp [h33],by simp⟩
  have e1:0<rs[i].length:=by omega
  have hx:=qad1 rs[i] e1 (hs _ (List.getElem_mem hi))
  have hy:rs[i].any (fun v=>decide (qa7 p.registers[i].width<v))=decide (qa7 p.registers[i].width<mxF rs[i].tail rs[i][0]):=by
   rw [Bool.eq_iff_iff,decide_eq_true_eq,qwc,List.any_eq_true]
   have hd:rs[i]=rs[i][0]::rs[i].tail:=by
    have:=List.drop_eq_getElem_cons e1
    simpa using this
   constructor
   ·rintro ⟨x,hx,hv⟩
    rw [hd] at hx
    rcases List.mem_cons.1 hx with rfl | hx
    ·exact .inl (of_decide_eq_true hv)
    ·exact .inr ⟨x,hx,of_decide_eq_true hv⟩
   ·rintro (h | ⟨x,hx,hv⟩)
    ·exact ⟨_,List.getElem_mem e1,decide_eq_true h⟩
    ·exact ⟨x,List.mem_of_mem_tail hx,decide_eq_true hv⟩
  by_cases v:qa7 p.registers[i].width<mxF rs[i].tail rs[i][0]
  ·rw [qah (x:=(9:Int)) hi (by simp only [vlG,List.getElem?_eq_getElem hi,List.getElem?_eq_getElem hi2];rw [hy,if_pos (decide_eq_true v)])]
   simp [c_65_l1,cSe,Register.e,h2,h32,h33,h34,hi,hi2,hL,e1,hx,hm,v]
  ·rw [qap hi (by simp only [vlG,List.getElem?_eq_getElem hi,List.getElem?_eq_getElem hi2];rw [hy,if_neg (by simpa using v)])]
   generalize hX:some (Rt.val (AV.int .i64 ((fe (vlG p rs) rs.length (i+1)).getD 0)))=X
   simp [c_65_l1,cSe,Register.e,h2,h32,h33,h34,hi,hi2,hL,e1,hx,hm,v,hw]
   rw [← hX]
   exact ih _ _ (Nat.zero_le _) ⟨by simp [h2,Prg.e],by simp [h32],by simp [h33],by simp⟩
 ·rintro e n L hL _ ⟨h2,h32,h33,h34⟩
  rw [qaz]
  simp [c_65_l1,c_65_k2,h32,h33,h34,hL]
 ·simp [h2]
theorem qaak (p:Prg) (f:PrgS p) (rs:List (List Int)) (hl:rs.length<2^40) (hs:∀l∈rs,l.length<2^40):qab Φ f_65 [.agg (Prg.c p),.slice 1 (rs.map (cS 1 c32))]=some (.val (.int .i64 (conE p rs))):=by
 rw [qaa (fn:=c_65) rfl rfl]
 unfold conE
 by_cases z:rs.length=p.registers.length
 rotate_left
 ·simp [c_65,Prg.e,z]
 rw [if_neg (by simpa using z)]
 generalize hY:some (Rt.val (AV.int .i64 ((fe (szG p rs) rs.length 0).getD ((fe (vlG p rs) rs.length 0).getD 0))))=Y
 simp [c_65,Prg.e,z]
 rw [← hY]
 refine qau rs.length (fun _=>[]) 0 (fun i e=>look 1 e=some (.slice 1 (rs.map (cS 1 c32)))∧look 2 e=some (.iptr 9 [Prg.c p] 0 0)∧look 15 e=some (.slice 1 (rs.map (cS 1 c32)))∧look 16 e=some (.int .i64 rs.length)∧look 17 e=some (.int .i64 i))
  (fun i=>some (Rt.val (.int .i64 ((fe (szG p rs) rs.length i).getD ((fe (vlG p rs) rs.length 0).getD 0))))) ?_ ?_ 0 _ 0 (Nat.zero_le _) (Nat.zero_le _) ?_
 ·rintro i e n L hi hL _ ⟨h1,h2,h15,h16,h17⟩ ih
  have hw:IntKind.wrap .i64 ((i:Int)+1)=((i+1:Nat):Int):=qad (by omega) (by omega)
  have hi2:i<p.registers.length:=by omega
  rw [Prg.e] at h2
  by_cases v:(rs[i].length:Int)=p.registers[i].size
  ·rw [qap hi (by simp [szG,hi,hi2,v])]
   generalize hX:some (Rt.val (AV.int .i64 ((fe (szG p rs) rs.length (i+1)).getD ((fe (vlG p rs) rs.length 0).getD 0))))=X
   simp [c_65_l0,cSe,Register.e,h2,h15,h16,h17,hi,hi2,hL,v,hw]
   rw [← hX]
   exact ih _ _ (Nat.zero_le _) ⟨by simp [h1],by simp [h2,Prg.e],by simp [h15],by simp [h16],by simp⟩
  ·rw [qah (x:=(2:Int)) hi (by simp [szG,hi,hi2,v])]
   simp [c_65_l0,cSe,Register.e,h2,h15,h16,h17,hi,hi2,hL,v]
 ·rintro e n L hL _ ⟨h1,h2,h15,h16,h17⟩
  rw [qaz]
  generalize hX:some (Rt.val (AV.int .i64 ((none:Option Int).getD ((fe (vlG p rs) rs.length 0).getD 0))))=X
  simp [c_65_l0,h15,h16,h17,hL]
  rw [← hX]
  exact con_b p f rs hl hs z _ _ (by simp [h1]) (by simp [h2])
 ·simp [Prg.e,z]
end Go.Av
namespace Go.Av
set_option maxRecDepth 4000
def wd (w:Int):Nat:=if wBad w then 0 else w.toNat
theorem wd_le (w:Int):wd w≤32:=by
 unfold wd
 cases q:wBad w with
 | true=>simp
 | false=>
  obtain ⟨w1,w2⟩:=wBad_false.1 q
  simp
  omega
theorem qq4 (w v:Int):qa7 w<v↔¬v<2^wd w:=by
 unfold qa7 wd
 cases q:wBad w with
 | true=>simp;omega
 | false=>simp;omega
theorem qae5 (r:Register):qab Φ f_158 [.agg (Register.c r)]=some (.val (.int .i64 (wd r.width))):=by
 rw [qaa (fn:=c_158) rfl rfl]
 by_cases h1:r.width<1
 ·simp [c_158,Register.e,h1,wd,wBad]
 by_cases h2:32<r.width
 ·simp [c_158,Register.e,h1,h2,wd,wBad]
 simp [c_158,Register.e,h1,h2,wd,wBad]
 omega
theorem qaeh (p:Prg) (rs:List (List Int)) (hl:rs.length<2^40) (hs:∀l∈rs,l.length<2^40∧∀v∈l,ok32 0 v) (hz:rs.length=p.registers.length) (e:Env) (n:Nat)
  (h1:look 1 e=some (.slice 1 (rs.map (cS 1 c32)))) (h2:look 2 e=some (.iptr 9 [Prg.c p] 0 0)):
  go Φ (finP [.tmp 4]) [.c c_69_k5] .normal ⟨e,⟨[],n⟩⟩=some (.val (.int .i64 ((fe (vlG p rs) rs.length 0).getD 0))):=by
 simp [c_69_k5]
 refine qau rs.length (fun _=>[]) 0 (fun i e=>look 1 e=some (.slice 1 (rs.map (cS 1 c32)))∧look 2 e=some (.iptr 9 [Prg.c p] 0 0)∧look 6 e=some (.int .i64 i))
  (fun i=>some (Rt.val (.int .i64 ((fe (vlG p rs) rs.length i).getD 0)))) ?_ ?_ 0 _ n (Nat.zero_le _) (Nat.zero_le _) ?_
 ·rintro i e n L hi hL _ ⟨h1,h2,h6⟩ ih
  have hw:IntKind.wrap .i64 ((i:Int)+1)=((i+1:Nat):Int):=qad (by omega) (by omega)
  have hi2:i<p.registers.length:=by omega
  have hm:=hs _ (List.getElem_mem hi)
  have hwd:=qae5 p.registers[i]
  simp only [Register.e] at hwd
  have hV:fe (vlG p rs) rs.length i=if rs[i].any (fun v=>decide (qa7 p.registers[i].width<v))=true then some 9 else fe (vlG p rs) rs.length (i+1):=by
   by_cases y:rs[i].any (fun v=>decide (qa7 p.registers[i].width<v))=true
   ·rw [if_pos y]
    exact qah hi (by simp only [vlG,List.getElem?_eq_getElem hi,List.getElem?_eq_getElem hi2];rw [if_pos y])
   ·rw [if_neg y]
    exact qap hi (by simp only [vlG,List.getElem?_eq_getElem hi,List.getElem?_eq_getElem hi2];rw [if_neg y])
  generalize hX:some (Rt.val (AV.int .i64 ((fe (vlG p rs) rs.length (i+1)).getD 0)))=X at ih
  generalize hY:some (Rt.val (AV.int .i64 ((fe (vlG p rs) rs.length i).getD 0)))=Y
  have hYX:Y=if rs[i].any (fun v=>decide (qa7 p.registers[i].width<v))=true then some (Rt.val (AV.int .i64 9)) else X:=by
   rw [← hY,← hX,hV]
   split<;>rfl
  simp [c_69_l3,cSe,h1,h2,h6,hi,hL]
  refine (qau rs[i].length (fun _=>[]) 0 (fun j e=>look 1 e=some (.slice 1 (rs.map (cS 1 c32)))∧look 2 e=some (.iptr 9 [Prg.c p] 0 0)∧look 6 e=some (.int .i64 i)∧look 7 e=some (.int .i64 j))
   (fun j=>if (rs[i].drop j).any (fun v=>decide (qa7 p.registers[i].width<v))=true then some (Rt.val (AV.int .i64 9)) else X) ?_ ?_ 0 _ n (Nat.zero_le _) (Nat.zero_le _) ?_).trans (by rw [hYX,List.drop_zero])
  ·rintro j e n L' hj hL' _ ⟨h1,h2,h6,h7⟩ ih'
   have hw':IntKind.wrap .i64 ((j:Int)+1)=((j+1:Nat):Int):=qad (by omega) (by omega)
   have hf:=qjq rs[i][j] (hm.2 _ (List.getElem_mem hj)) (wd p.registers[i].width) (wd_le _)
   rw [Prg.e] at h2
   rw [List.drop_eq_getElem_cons hj,List.any_cons]
   by_cases v:rs[i][j]<2^wd p.registers[i].width
   ·rw [decide_eq_true v] at hf
    rw [show decide (qa7 p.registers[i].width<rs[i][j])=false from decide_eq_false fun h=>(qq4 _ _).1 h v,Bool.false_or]
    generalize hZ:(if (rs[i].drop (j+1)).any (fun v=>decide (qa7 p.registers[i].width<v))=true then some (Rt.val (AV.int .i64 9)) else X)=Z
    simp [c_69_l1,cSe,c32,Register.e,h1,h2,h6,h7,hi,hi2,hj,hL',hwd,hf,hw']
    rw [← hZ]
    exact ih' _ _ (Nat.zero_le _) ⟨by simp [h1],by simp [h2,Prg.e],by simp [h6],by simp⟩
   ·rw [decide_eq_false v] at hf
    rw [show decide (qa7 p.registers[i].width<rs[i][j])=true from decide_eq_true ((qq4 _ _).2 v),Bool.true_or,if_pos rfl]
    simp [c_69_l1,cSe,c32,Register.e,h1,h2,h6,h7,hi,hi2,hj,hL,hL',hwd,hf]
  ·rintro e n L' hL' _ ⟨h1,h2,h6,h7⟩
   rw [List.drop_length,List.any_nil,if_neg (by decide)]
   simp [c_69_l1,cSe,h1,h2,h6,h7,hi,hL',c_69_k2,hw]
   exact ih _ _ (Nat.zero_le _) ⟨by simp [h1],by simp [h2],by simp⟩
  ·simp [h1,h2,h6]
 ·rintro e n L hL _ ⟨h1,h2,h6⟩
  rw [qaz]
  simp [c_69_l3,c_69_k4,h1,h6,hL]
 ·simp [h1,h2]
theorem qyo (p:Prg) (rs:List (List Int)) (hl:rs.length<2^40) (hs:∀l∈rs,l.length<2^40∧∀v∈l,ok32 0 v):qab Φ f_69 [.agg (Prg.c p),.slice 1 (rs.map (cS 1 c32))]=some (.val (.int .i64 (conE p rs))):=by
 rw [qaa (fn:=c_69) rfl rfl]
 unfold conE
 by_cases z:rs.length=p.registers.length
 rotate_left
 ·simp [c_69,Prg.e,z]
 rw [if_neg (by simpa using z)]
 generalize hY:some (Rt.val (AV.int .i64 ((fe (szG p rs) rs.length 0).getD ((fe (vlG p rs) rs.length 0).getD 0))))=Y
 simp [c_69,Prg.e,z]
 rw [← hY]
 refine qau rs.length (fun _=>[]) 0 (fun i e=>look 1 e=some (.slice 1 (rs.map (cS 1 c32)))∧look 2 e=some (.iptr 9 [Prg.c p] 0 0)∧look 5 e=some (.int .i64 i))
  (fun i=>some (Rt.val (.int .i64 ((fe (szG p rs) rs.length i).getD ((fe (vlG p rs) rs.length 0).getD 0))))) ?_ ?_ 0 _ 0 (Nat.zero_le _) (Nat.zero_le _) ?_
 ·rintro i e n L hi hL _ ⟨h1,h2,h5⟩ ih
  have hw:IntKind.wrap .i64 ((i:Int)+1)=((i+1:Nat):Int):=qad (by omega) (by omega)
  have hi2:i<p.registers.length:=by omega
  rw [Prg.e] at h2
  by_cases v:(rs[i].length:Int)=p.registers[i].size
  ·rw [qap hi (by simp [szG,hi,hi2,v])]
   generalize hX:some (Rt.val (AV.int .i64 ((fe (szG p rs) rs.length (i+1)).getD ((fe (vlG p rs) rs.length 0).getD 0))))=X
   simp [c_69_l0,cSe,Register.e,h1,h2,h5,hi,hi2,hL,v,hw]
   rw [← hX]
   exact ih _ _ (Nat.zero_le _) ⟨by simp [h1],by simp [h2,Prg.e],by simp⟩
  ·rw [qah (x:=(2:Int)) hi (by simp [szG,hi,hi2,v])]
   simp [c_69_l0,cSe,Register.e,h1,h2,h5,hi,hi2,hL,v]
 ·rintro e n L hL _ ⟨h1,h2,h5⟩
  rw [qaz]
  generalize hX:some (Rt.val (AV.int .i64 ((none:Option Int).getD ((fe (vlG p rs) rs.length 0).getD 0))))=X
  simp [c_69_l0,h1,h5,hL]
  rw [← hX]
  exact qaeh p rs hl hs z _ _ (by simp [h1]) (by simp [h2])
 ·simp [Prg.e]
end Go.Av
