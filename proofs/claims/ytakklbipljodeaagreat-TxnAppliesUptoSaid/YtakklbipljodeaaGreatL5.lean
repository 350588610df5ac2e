/-
 Tables: the reference's answers.
-/
import Derived.Test.YtakklbipljodeaaGreatL3
set_option linter.unusedVariables false
set_option linter.unusedSimpArgs false
set_option linter.constructorNameAsVariable false
namespace Go.Av
set_option maxRecDepth 4000
theorem qll (l:List Int) (x:Int) (hl:l.length<2^40):qab Φ f_253 [.slice 1 (l.map cI),.int .i64 x]=some (.val (.int .i64 (ix (fun s=>decide (s=x)) l 0))):=by
 rw [qaa (fn:=c_253) rfl rfl];simp [c_253];refine (qao l.length (fun i e=>look 0 e=some (.slice 1 (l.map cI))∧look 1 e=some (.int .i64 x)∧look 5 e=some (.int .i64 i))
  (fun i=>some (.val (.int .i64 (ix (fun s=>decide (s=x)) l i)))) ?_ ?_ 0 _ (Nat.zero_le _) ?_).trans (by simp)
 ·rintro i e L hi hL ⟨h0,h1,h5⟩ ih;have hw:IntKind.wrap .i64 ((i:Int)+1)=((i+1:Nat):Int):=qac (by omega) (by omega);by_cases z:l[i]=x
  ·rw [qgb hi (by simpa using z)];simp [c_253_l0,cI,h0,h1,h5,hi,z]
  ·rw [qe7 hi (by simpa using z)];simp [c_253_l0,cI,h0,h1,h5,hi,z,hw];exact ih _ ⟨by simp [h0],by simp [h1],by simp⟩
 ·rintro e L hL ⟨h0,h1,h5⟩;rw [qga];simp [c_253_l0,c_253_k1,h0,h5,hL]
 ·simp
theorem qyk (p:Prg) (x:Tbl) (hl:x.keys.length<2^40):qab Φ f_273 [.agg (Prg.c p),.agg (Tbl.c x)]=some (.val (.tup [.int .i64 (qep p x).1,.int .i64 (qep p x).2])):=by
 rw [qaa (fn:=c_273) rfl rfl];have hE:qep p x=(fe (keyG p x) x.keys.length 0).getD (qeq p x):=by
  unfold qep keyE;show (match fe (keyG p x) x.keys.length 0 with | some e=>e | none=>qeq p x)=_;cases fe (keyG p x) x.keys.length 0<;>rfl
 rw [hE];simp [c_273,Prg.e,Tbl.e];refine qao x.keys.length (fun i e=>look 2 e=some (.iptr 9 [Prg.c p] 0 0)∧look 3 e=some (.iptr 6 [Tbl.c x] 0 0)∧look 7 e=some (.int .i64 ((x.keys.take i).countP fun k=>decide (k.kind=2):Nat))∧look 6 e=some (.int .i64 ((kWid p x).take i).sum)∧look 8 e=some (.int .i64 i))
  (fun i=>some (Rt.val (.tup [.int .i64 ((fe (keyG p x) x.keys.length i).getD (qeq p x)).1,.int .i64 ((fe (keyG p x) x.keys.length i).getD (qeq p x)).2]))) ?_ ?_ 0 _ (Nat.zero_le _) ?_
 ·rintro i e L hi hL ⟨h2,h3,h7,h6,h8⟩ ih;have hw:IntKind.wrap .i64 ((i:Int)+1)=((i+1:Nat):Int):=qac (by omega) (by omega);have hv:=qqf p x.keys[i].field.header x.keys[i].field.field;simp only [Prg.e] at hv;rw [Prg.e] at h2;rw [Tbl.e] at h3;by_cases z:wid p x.keys[i].field.header x.keys[i].field.field=0
  ·rw [z] at hv;rw [qai (x:=((i:Int),8)) hi (by simp [keyG,hi,z])];simp [c_273_l0,TableKey.e,h2,h3,h8,hi,hv]
  have hs:=qht p x (i+1) (by omega);have hs0:=qht p x i (by omega);have he:((kWid p x).take (i+1)).sum=((kWid p x).take i).sum+wid p x.keys[i].field.header x.keys[i].field.field:=by
   have hl:i<(kWid p x).length:=by simp [kWid];omega
   rw [List.take_succ_eq_append_getElem hl,List.sum_append,List.sum_singleton];congr 1;simp [kWid]
  have hw7:IntKind.wrap .i64 (((kWid p x).take i).sum+wid p x.keys[i].field.header x.keys[i].field.field)=((kWid p x).take (i+1)).sum:=by rw [← he];exact qac (by omega) (by omega)
  have hc:(x.keys.take (i+1)).countP (fun k=>decide (k.kind=2))=(x.keys.take i).countP (fun k=>decide (k.kind=2))+if x.keys[i].kind=2 then 1 else 0:=by
   rw [List.take_succ_eq_append_getElem hi,List.countP_append];congr 1;simp [List.countP_cons]
  have hcl:(x.keys.take i).countP (fun k=>decide (k.kind=2))≤i:=by
   have:=List.countP_le_length (l:=x.keys.take i) (p:=fun k=>decide (k.kind=2));simp at this;omega
  have hw6:IntKind.wrap .i64 (((x.keys.take i).countP (fun k=>decide (k.kind=2)):Nat)+1:Int)=(((x.keys.take i).countP (fun k=>decide (k.kind=2))+1:Nat):Int):=qac (by omega) (by omega);by_cases k2:x.keys[i].kind=2
  ·rw [qap hi (by simp [keyG,hi,z,k2])];rw [if_pos k2] at hc;simp [c_273_l0,TableKey.e,h2,h3,h6,h7,h8,hi,hv,z,k2,hw7,hw6,hw];exact ih _ ⟨by simp [h2,Prg.e],by simp [h3,Tbl.e],by simp [hc],by simp,by simp⟩
  rw [if_neg k2] at hc;by_cases k1:x.keys[i].kind=1
  ·rw [qap hi (by simp [keyG,hi,z,k1])];simp [c_273_l0,TableKey.e,h2,h3,h6,h8,hi,hv,z,k1,hw7,hw];exact ih _ ⟨by simp [h2,Prg.e],by simp [h3,Tbl.e],by simp [hc,h7],by simp,by simp⟩
  by_cases k3:x.keys[i].kind=3
  ·rw [qap hi (by simp [keyG,hi,z,k3])];simp [c_273_l0,TableKey.e,h2,h3,h6,h8,hi,hv,z,k3,hw7,hw];exact ih _ ⟨by simp [h2,Prg.e],by simp [h3,Tbl.e],by simp [hc,h7],by simp,by simp⟩
  ·rw [qai (x:=((i:Int),11)) hi (by simp [keyG,hi,z,k1,k2,k3])];simp [c_273_l0,TableKey.e,h2,h3,h8,hi,hv,z,k1,k2,k3]
 ·rintro e L hL ⟨h2,h3,h7,h6,h8⟩;rw [qa0];have ht:(kWid p x).take x.keys.length=kWid p x:=by rw [List.take_of_length_le];simp [kWid]
  rw [ht] at h6;rw [List.take_length] at h7;rw [Tbl.e] at h3;by_cases y1:1<x.keys.countP (fun k=>decide (k.kind=2))
  ·simp [c_273_l0,c_273_k1,h3,h7,h8,hL,qeq,y1]
  by_cases y2:64<(kWid p x).sum
  ·simp [c_273_l0,c_273_k1,h3,h6,h7,h8,hL,qeq,y1,y2]
  ·simp [c_273_l0,c_273_k1,h3,h6,h7,h8,hL,qeq,y1,y2]
 ·simp [Prg.e,Tbl.e]
theorem qg0 (x:Int) (l:List Int):l.contains x=l.any fun s=>decide (s=x):=by
 have:=qd6 (fun y:Int=>y) x l;rw [List.map_id'] at this;exact this
theorem qyq (p:Prg) (f:PrgS p) (x:Tbl) (hl:x.actions.length<2^40) (hg:x.dflt.args.length<2^40) (hv:∀v∈x.dflt.args,ok32 0 v):qab Φ f_274 [.agg (Prg.c p),.agg (Tbl.c x)]=some (.val (.int .i64 (qix p x))):=by
 rw [qaa (fn:=c_274) rfl rfl,qs9];simp [c_274,Prg.e,Tbl.e];refine qao x.actions.length (fun i e=>look 2 e=some (.iptr 9 [Prg.c p] 0 0)∧look 3 e=some (.iptr 6 [Tbl.c x] 0 0)∧look 5 e=some (.int .i64 i))
  (fun i=>some (Rt.val (.int .i64 ((fe (qfa p x) x.actions.length i).getD (qfn p x))))) ?_ ?_ 0 _ (Nat.zero_le _) ?_
 ·rintro i e L hi hL ⟨h2,h3,h5⟩ ih;have hw:IntKind.wrap .i64 ((i:Int)+1)=((i+1:Nat):Int):=qac (by omega) (by omega);rw [Prg.e] at h2;rw [Tbl.e] at h3;by_cases z0:x.actions[i]<0
  ·rw [qai (x:=8) hi (by simp [qfa,hi,z0])];simp [c_274_l0,cI,h3,h5,hi,z0]
  by_cases z1:(p.actions.length:Int)≤x.actions[i]
  ·rw [qai (x:=8) hi (by simp [qfa,hi,z0,z1])];simp [c_274_l0,cI,h2,h3,h5,hi,z0,z1]
  have hx:=qll x.actions x.actions[i] hl;obtain ⟨at',k1,k2⟩:=qr2 (q:=fun s:Int=>decide (s=x.actions[i])) hi (by simp) i 0 (by omega);rw [show ix (fun s=>decide (s=x.actions[i])) x.actions 0=(fxO (fun s:Int=>decide (s=x.actions[i])) x.actions 0).getD (-1) from rfl,k1] at hx;rw [qia,← qg0] at k2;simp only [Option.getD_some] at hx;cases q:(x.actions.take i).contains x.actions[i] with
  | true=>
   rw [q] at k2;have k3:at'<i:=by simpa using k2
   rw [qai (x:=7) hi (by simp only [qfa,List.getElem?_eq_getElem hi,Option.bind_some];rw [if_neg (by omega),q];rfl)];simp [c_274_l0,cI,h2,h3,h5,hi,z0,z1,hx,k3]
  | false=>
   rw [q] at k2;have k3:¬at'<i:=by simpa using k2
   rw [qap hi (by simp only [qfa,List.getElem?_eq_getElem hi,Option.bind_some];rw [if_neg (by omega),q];rfl)];simp [c_274_l0,cI,h2,h3,h5,hi,z0,z1,hx,k3,hw];exact ih _ ⟨by simp [h2,Prg.e],by simp [h3,Tbl.e],by simp⟩
 ·rintro e L hL ⟨h2,h3,h5⟩;rw [qa0];have hx:=qll x.actions x.dflt.action hl;have hc:=qlh p f x.dflt hg hv;have ha:=qid (p:=fun s=>decide (s=x.dflt.action)) (l:=x.actions);rw [← qg0] at ha;simp only [Prg.e,ActionCall.e] at hc;rw [Prg.e] at h2;rw [Tbl.e] at h3;cases q:x.actions.contains x.dflt.action with
  | true=>
   rw [q] at ha;have ha2:¬ix (fun s=>decide (s=x.dflt.action)) x.actions 0<0:=by simpa using ha
   rw [show qfn p x=qdm p x.dflt by simp only [qfn,q];rfl];simp [c_274_l0,c_274_k1,h2,h3,h5,hL,hx,ha2,hc]
  | false=>
   rw [q] at ha;have ha2:ix (fun s=>decide (s=x.dflt.action)) x.actions 0<0:=by simpa using ha
   rw [show qfn p x=8 by simp only [qfn,q];rfl];simp [c_274_l0,c_274_k1,h3,h5,hL,hx,ha2]
 ·simp [Prg.e,Tbl.e]
theorem qnc (p:Prg) (f:PrgS p) (hv:∀t∈p.tables,∀v∈t.dflt.args,ok32 0 v) (t:Int):qab Φ f_200 [.agg (Prg.c p),.int .i64 t]=some (.val (.tup [.int .i64 (tblE p t).1,.int .i64 (tblE p t).2])):=by
 rw [qaa (fn:=c_200) rfl rfl];by_cases i0:t<0
 ·simp [c_200,Prg.e,i0,tblE,qbq i0]
 by_cases i1:(p.tables.length:Int)≤t
 ·simp [c_200,Prg.e,i0,i1,tblE,qbp i1]
 obtain ⟨k,rfl⟩:∃k:Nat,t=k:=⟨t.toNat,by omega⟩;have hk:k<p.tables.length:=by omega
 have hm:=List.getElem_mem hk;have n1:=qdy p.tables[k].name (f.tn _ hm);have h1:=qyk p p.tables[k] (f.tk _ hm);have h2:=qyq p f p.tables[k] (f.ta _ hm) (f.tg _ hm) (hv _ hm);simp only [Prg.e,Tbl.e] at h1 h2;cases q1:idS p.tables[k].name with
 | false=>rw [q1] at n1;simp [c_200,Prg.e,Tbl.e,hk,Nat.not_le.2 hk,n1,tblE,q1]
 | true=>
 rw [q1] at n1;by_cases z0:6<p.tables[k].keys.length
 ·simp [c_200,Prg.e,Tbl.e,hk,Nat.not_le.2 hk,n1,tblE,q1,z0]
 by_cases z1:16<p.tables[k].actions.length
 ·simp [c_200,Prg.e,Tbl.e,hk,Nat.not_le.2 hk,n1,tblE,q1,z0,z1]
 by_cases z2:p.tables[k].size<1
 ·simp [c_200,Prg.e,Tbl.e,hk,Nat.not_le.2 hk,n1,tblE,q1,z0,z1,z2]
 by_cases z3:256<p.tables[k].size
 ·simp [c_200,Prg.e,Tbl.e,hk,Nat.not_le.2 hk,n1,tblE,q1,z0,z1,z2,z3]
 by_cases y1:(qep p p.tables[k]).2=0
 rotate_left
 ·simp [c_200,Prg.e,Tbl.e,hk,Nat.not_le.2 hk,n1,tblE,q1,z0,z1,z2,z3,h1,y1]
 rw [y1] at h1;by_cases y2:qix p p.tables[k]=0
 ·rw [y2] at h2;simp [c_200,Prg.e,Tbl.e,hk,Nat.not_le.2 hk,n1,tblE,q1,z0,z1,z2,z3,h1,y1,h2,y2]
 ·simp [c_200,Prg.e,Tbl.e,hk,Nat.not_le.2 hk,n1,tblE,q1,z0,z1,z2,z3,h1,y1,h2,y2]
theorem qqh (p:Prg) (s:Nat) (n:Int):qab Φ f_325 [.agg (Prg.c p),.int .i64 s,.int .i64 n]=some (.val (.bool (qdh p s n))):=by
 rw [qaa (fn:=c_325) rfl rfl];by_cases n1:n= -1
 ·simp [c_325,Prg.e,qdh,n1]
 by_cases n2:n= -2
 ·simp [c_325,Prg.e,qdh,n2]
 by_cases n3:(s:Int)<n
 ·simp [c_325,Prg.e,qdh,n1,n2,n3]
 ·simp [c_325,Prg.e,qdh,n1,n2,n3]
theorem qah5 {p:Prg} {h i:Int} (z:wid p h i≠0):wBad (wid p h i)=false:=by
 unfold wid at z ⊢;cases q:decl p h i with
 | none=>rw [q] at z;simp at z
 | some w=>
  rw [q] at z;simp only at z ⊢;cases y:wBad w with
  | true=>rw [y] at z;simp at z
  | false=>simpa using y
theorem qyg (p:Prg) (s:Nat) (hs:s<p.states.length) (hv:∀c∈p.states[s].cases,ok32 0 c.value∧ok32 0 c.mask) (hl:p.states[s].cases.length<2^40) (hz:p.states[s].cases.length=0∨wid p p.states[s].on.header p.states[s].on.field≠0):
  qab Φ f_324 [.agg (Prg.c p),.int .i64 s]=some (.val (.tup [.int .i64 ((fe (qcr p s p.states[s]) p.states[s].cases.length 0).getD (-1,0)).1,.int .i64 ((fe (qcr p s p.states[s]) p.states[s].cases.length 0).getD (-1,0)).2])):=by
 rw [qaa (fn:=c_324) rfl rfl];have hw:=qqe p p.states[s].on.header p.states[s].on.field;simp only [Prg.e] at hw;simp [c_324,Prg.e,ParserState.e,hs,hw];refine qaw p.states[s].cases.length (fun _=>[]) 0 (fun i e=>look 1 e=some (.int .i64 s)∧look 2 e=some (.iptr 9 [Prg.c p] 0 0)∧look 6 e=some (.iptr 7 [ParserState.c p.states[s]] 0 0)∧look 7 e=some (.int .i64 (wid p p.states[s].on.header p.states[s].on.field))∧look 8 e=some (.int .i64 i))
  (fun i=>some (Rt.val (.tup [.int .i64 ((fe (qcr p s p.states[s]) p.states[s].cases.length i).getD (-1,0)).1,.int .i64 ((fe (qcr p s p.states[s]) p.states[s].cases.length i).getD (-1,0)).2]))) ?_ ?_ 0 _ _ (Nat.zero_le _) (Nat.zero_le _) ?_
 ·rintro i e n L hi hL _ ⟨h1,h2,h6,h7,h8⟩ ih;have hwi:IntKind.wrap .i64 ((i:Int)+1)=((i+1:Nat):Int):=qac (by omega) (by omega);have hc:=hv _ (List.getElem_mem hi);have hz':wid p p.states[s].on.header p.states[s].on.field≠0:=by
   rcases hz with hz | hz
   ·omega
   ·exact hz
  have hb:=qah5 hz';have hbr:=wBad_false.1 hb;obtain ⟨k,hk⟩:∃k:Nat,wid p p.states[s].on.header p.states[s].on.field=k:=⟨(wid p p.states[s].on.header p.states[s].on.field).toNat,by omega⟩;have f1:=qke p.states[s].cases[i].value hc.1 k (by omega);have f2:=qke p.states[s].cases[i].mask hc.2 k (by omega);have e1:∀v,fits v (wid p p.states[s].on.header p.states[s].on.field)=decide (v<2^k):=by
   intro v;unfold fits;rw [hb,hk];simp
  have hd:=qqh p s p.states[s].cases[i].next;have ha:=qp2 hc.1 hc.2;simp only [Prg.e] at hd;rw [Prg.e] at h2;rw [ParserState.e] at h6;rw [hk] at h7;have done:∀z:Int,z≠0→qdn p s p.states[s] p.states[s].cases[i]=z→fe (qcr p s p.states[s]) p.states[s].cases.length i=some ((i:Int),z):=by
   intro z z0 z1;exact qai hi (by simp [qcr,hi,z1,z0])
  by_cases y1:p.states[s].cases[i].value<2^k
  rotate_left
  ·rw [done 9 (by decide) (by simp [qdn,e1,y1])];simp [c_324_l0,SelectCase.e,h6,h7,h8,hi,f1,y1]
  by_cases y2:p.states[s].cases[i].mask<2^k
  rotate_left
  ·rw [done 9 (by decide) (by simp [qdn,e1,y2])];simp [c_324_l0,SelectCase.e,h6,h7,h8,hi,f1,f2,y1,y2]
  by_cases y3:iand .u32 p.states[s].cases[i].value p.states[s].cases[i].mask=p.states[s].cases[i].value
  rotate_left
  ·have y3':¬(p.states[s].cases[i].value.toNat&&& p.states[s].cases[i].mask.toNat=p.states[s].cases[i].value.toNat):=fun h=>y3 (ha.2 h)
   rw [done 5 (by decide) (by simp [qdn,e1,y1,y2,y3'])];simp [c_324_l0,SelectCase.e,h6,h7,h8,hi,f1,f2,y1,y2,y3]
  have y3':=ha.1 y3;cases y4:qdh p s p.states[s].cases[i].next with
  | false=>
   rw [y4] at hd;rw [done 14 (by decide) (by simp [qdn,e1,y1,y2,y3',y4])];simp [c_324_l0,SelectCase.e,h1,h2,h6,h7,h8,hi,f1,f2,y1,y2,y3,hd]
  | true=>
   rw [y4] at hd;rw [qap hi (by simp [qcr,hi,qdn,e1,y1,y2,y3',y4])];simp [c_324_l0,SelectCase.e,h1,h2,h6,h7,h8,hi,f1,f2,y1,y2,y3,hd,hwi];exact ih _ _ (Nat.zero_le _) ⟨by simp [h1],by simp [h2,Prg.e],by simp [h6,ParserState.e],by simp [h7,hk],by simp⟩
 ·rintro e n L hL _ ⟨h1,h2,h6,h7,h8⟩;rw [qa0];rw [ParserState.e] at h6;simp [c_324_l0,c_324_k1,h6,h8,hL]
 ·simp [Prg.e,ParserState.e]
theorem qaer (p:Prg) (s:Nat) (hs:s<p.states.length) (hv:∀c∈p.states[s].cases,ok32 0 c.value∧ok32 0 c.mask) (hl:p.states[s].cases.length<2^40) (e:Env) (n:Nat)
  (h1:look 1 e=some (.int .i64 s)) (h2:look 2 e=some (.iptr 9 [Prg.c p] 0 0)) (h6:look 6 e=some (.iptr 7 [ParserState.c p.states[s]] 0 0)):
  go Φ (finP [.tmp 4,.tmp 5]) [.c c_275_k2] .normal ⟨e,⟨[],n⟩⟩=some (.val (.tup [.int .i64 (stK p s p.states[s]).1,.int .i64 (stK p s p.states[s]).2])):=by
 have hw:=qqe p p.states[s].on.header p.states[s].on.field;have hd:=qqh p s p.states[s].dflt;simp only [Prg.e] at hw hd;rw [Prg.e] at h2;rw [ParserState.e] at h6;have fin:∀(hz:p.states[s].cases.length=0∨wid p p.states[s].on.header p.states[s].on.field≠0),∃a b,qab Φ f_324 [.agg (Prg.c p),.int .i64 s]=some (.val (.tup [.int .i64 a,.int .i64 b]))∧
   ((b=0∧(fe (qcr p s p.states[s]) p.states[s].cases.length 0).getD (stF p s p.states[s])=stF p s p.states[s])∨(b≠0∧(fe (qcr p s p.states[s]) p.states[s].cases.length 0).getD (stF p s p.states[s])=(a,b))):=by
  intro hz;have hc:=qyg p s hs hv hl hz;refine ⟨_,_,hc,?_⟩;cases q:fe (qcr p s p.states[s]) p.states[s].cases.length 0 with
  | none=>exact .inl ⟨rfl,rfl⟩
  | some x=>
   refine .inr ⟨?_,rfl⟩;intro h0;have:x.2=0:=h0;have key:∀m i x,feF (qcr p s p.states[s]) m i=some x→x.2≠0:=by
    intro m
    induction m with
    | zero=>intro i x h;simp [feF] at h
    | succ m ih=>
     intro i x h;simp only [feF] at h;cases g:qcr p s p.states[s] i with
     | none=>rw [g] at h;exact ih _ _ h
     | some y=>
      rw [g] at h;cases h;unfold qcr at g;cases gi:p.states[s].cases[i]? with
      | none=>rw [gi] at g;simp at g
      | some c=>
       rw [gi] at g;simp only [Option.bind_some] at g;split at g
       ·cases g
       ·rename_i hne;cases g;exact hne
   exact key _ _ _ q this
 cases q:p.states[s].select with
 | true=>
  rw [q] at h6;by_cases z:wid p p.states[s].on.header p.states[s].on.field=0
  ·rw [z] at hw;simp [c_275_k2,h2,h6,hw,stK,q,z]
  obtain ⟨a,b,hc,hab⟩:=fin (.inr z);simp only [Prg.e] at hc;rw [show stK p s p.states[s]=(fe (qcr p s p.states[s]) p.states[s].cases.length 0).getD (stF p s p.states[s]) by simp [stK,q,z]];rcases hab with ⟨b0,e1⟩ | ⟨b0,e1⟩
  ·rw [e1];rw [b0] at hc;cases y:qdh p s p.states[s].dflt with
   | true=>rw [y] at hd;simp [c_275_k2,h1,h2,h6,hw,z,hc,hd,stF,y]
   | false=>rw [y] at hd;simp [c_275_k2,h1,h2,h6,hw,z,hc,hd,stF,y]
  ·rw [e1];simp [c_275_k2,h1,h2,h6,hw,z,hc,b0]
 | false=>
  rw [q] at h6;by_cases z:0<p.states[s].cases.length
  ·simp [c_275_k2,h6,stK,q,z]
  have z0:p.states[s].cases.length=0:=by omega
  obtain ⟨a,b,hc,hab⟩:=fin (.inl z0);simp only [Prg.e] at hc;rw [show stK p s p.states[s]=(fe (qcr p s p.states[s]) p.states[s].cases.length 0).getD (stF p s p.states[s]) by simp [stK,q,z0]];rcases hab with ⟨b0,e1⟩ | ⟨b0,e1⟩
  ·rw [e1];rw [b0] at hc;cases y:qdh p s p.states[s].dflt with
   | true=>rw [y] at hd;simp [c_275_k2,h1,h2,h6,z0,hc,hd,stF,y]
   | false=>rw [y] at hd;simp [c_275_k2,h1,h2,h6,z0,hc,hd,stF,y]
  ·rw [e1];simp [c_275_k2,h1,h2,h6,z0,hc,b0]
theorem qaeq (p:Prg) (f:PrgS p) (s:Nat) (hs:s<p.states.length) (e:Env) (n:Nat)
  (h1:look 1 e=some (.int .i64 s)) (h2:look 2 e=some (.iptr 9 [Prg.c p] 0 0)) (h6:look 6 e=some (.iptr 7 [ParserState.c p.states[s]] 0 0)):
  go Φ (finP [.tmp 4,.tmp 5]) [.c c_275_k3] .normal ⟨e,⟨[],n⟩⟩=some (.val (.tup [.int .i64 (stE p s p.states[s]).1,.int .i64 (stE p s p.states[s]).2])):=by
 rw [qyz];have hm:=List.getElem_mem hs;have hse:=f.se _ hm;rw [ParserState.e] at h6;by_cases z0:4<p.states[s].extract.length
 ·simp [c_275_k3,h6,z0]
 by_cases z1:8<p.states[s].cases.length
 ·simp [c_275_k3,h6,z0,z1]
 rw [if_neg (by omega)];generalize hX:(if p.states[s].extract.any (fun h=>decide (h<0) || decide ((p.headers.length:Int)≤h))=true then ((-1:Int),(8:Int)) else stK p s p.states[s])=X;simp [c_275_k3,h6,z0,z1];refine (qdb p.states[s].extract (fun h=>decide (h<0) || decide ((p.headers.length:Int)≤h)) (some (Rt.val (.tup [.int .i64 (-1),.int .i64 8]))) (some (Rt.val (.tup [.int .i64 (stK p s p.states[s]).1,.int .i64 (stK p s p.states[s]).2])))
  (fun i e H=>look 1 e=some (.int .i64 s)∧look 2 e=some (.iptr 9 [Prg.c p] 0 0)∧look 6 e=some (.iptr 7 [ParserState.c p.states[s]] 0 0)∧look 8 e=some (.int .i64 i)∧H=⟨[],n⟩) ?_ ?_ ?_ _ _ ?_).trans ?_
 ·rintro i e _ L hi hL ⟨h1,h2,h6,h8,rfl⟩ hb;rw [Prg.e] at h2;rw [ParserState.e] at h6;simp only [Bool.or_eq_true,decide_eq_true_eq] at hb;by_cases y0:p.states[s].extract[i]<0
  ·simp [c_275_l1,cI,h6,h8,hi,y0]
  ·have y1:(p.headers.length:Int)≤p.states[s].extract[i]:=by omega
   simp [c_275_l1,cI,h2,h6,h8,hi,y0,y1]
 ·rintro i e _ L X hi hL ⟨h1,h2,h6,h8,rfl⟩ hb ih;have hw:IntKind.wrap .i64 ((i:Int)+1)=((i+1:Nat):Int):=qac (by omega) (by omega);rw [Prg.e] at h2;rw [ParserState.e] at h6;simp only [Bool.or_eq_false_iff,decide_eq_false_iff_not] at hb;simp [c_275_l1,cI,h2,h6,h8,hi,hb,hw];exact ih _ _ ⟨by simp [h1],by simp [h2,Prg.e],by simp [h6,ParserState.e],by simp,rfl⟩
 ·rintro e _ L hL ⟨h1,h2,h6,h8,rfl⟩;rw [ParserState.e] at h6;simp [c_275_l1,h6,h8,hL];refine qaer p s hs (fun c hc=>f.sv _ hm c hc) (f.sc _ hm) _ _ ?_ ?_ ?_
  ·simp [h1]
  ·simp [h2]
  ·simp [h6,ParserState.e]
 ·simp [h1,h2,h6,ParserState.e]
 ·rw [← hX];cases p.states[s].extract.any (fun h=>decide (h<0) || decide ((p.headers.length:Int)≤h))<;>rfl
def stA (p:Prg) (s:Nat) (x:ParserState):Int×Int:=if idS x.name=false then (-1,6) else if dupN ParserState.name p.states s x then (-1,7) else stE p s x
theorem qyp (p:Prg) (f:PrgS p) (s:Nat) (hs:s<p.states.length):qab Φ f_275 [.agg (Prg.c p),.int .i64 s]=some (.val (.tup [.int .i64 (stA p s p.states[s]).1,.int .i64 (stA p s p.states[s]).2])):=by
 rw [qaa (fn:=c_275) rfl rfl];have hm:=List.getElem_mem hs;have n1:=qdy p.states[s].name (f.sn _ hm);have hsl:=f.s;cases q1:idS p.states[s].name with
 | false=>rw [q1] at n1;simp [c_275,Prg.e,ParserState.e,hs,n1,stA,q1]
 | true=>
 rw [q1] at n1;have hE:stA p s p.states[s]=if dupN ParserState.name p.states s p.states[s]=true then (-1,7) else stE p s p.states[s]:=by simp [stA,q1]
 rw [hE];unfold dupN;generalize hX:(if (p.states.take s).any (fun y=>decide (y.name=p.states[s].name))=true then ((-1:Int),(7:Int)) else stE p s p.states[s])=X;simp [c_275,Prg.e,ParserState.e,hs,n1];refine (qdb (p.states.take s) (fun y=>decide (y.name=p.states[s].name)) (some (Rt.val (.tup [.int .i64 (-1),.int .i64 7]))) (some (Rt.val (.tup [.int .i64 (stE p s p.states[s]).1,.int .i64 (stE p s p.states[s]).2])))
  (fun k e H=>look 1 e=some (.int .i64 s)∧look 2 e=some (.iptr 9 [Prg.c p] 0 0)∧look 6 e=some (.iptr 7 [ParserState.c p.states[s]] 0 0)∧look 7 e=some (.int .i64 k)∧∃n,H=⟨[],n⟩) ?_ ?_ ?_ _ _ ?_).trans ?_
 ·rintro k e _ L hk hL ⟨h1,h2,h6,h7,n,rfl⟩ hb;simp only [List.length_take] at hk;have hk1:k<s:=by omega
  have hk2:k<p.states.length:=by omega
  simp only [List.getElem_take,decide_eq_true_eq] at hb;rw [Prg.e] at h2;rw [ParserState.e] at h6;simp [c_275_l0,ParserState.e,h1,h2,h6,h7,hk1,hk2,hb]
 ·rintro k e _ L X hk hL ⟨h1,h2,h6,h7,n,rfl⟩ hb ih;simp only [List.length_take] at hk;have hk1:k<s:=by omega
  have hk2:k<p.states.length:=by omega
  simp only [List.getElem_take,decide_eq_false_iff_not] at hb;have hw:IntKind.wrap .i64 ((k:Int)+1)=((k+1:Nat):Int):=qac (by omega) (by omega);rw [Prg.e] at h2;rw [ParserState.e] at h6;simp [c_275_l0,ParserState.e,h1,h2,h6,h7,hk1,hk2,hb,hw];exact ih _ _ ⟨by simp [h1],by simp [h2,Prg.e],by simp [h6,ParserState.e],by simp,n,rfl⟩
 ·rintro e _ L hL ⟨h1,h2,h6,h7,n,rfl⟩;have hmn:min s p.states.length=s:=by omega
  simp [hmn] at h7;simp [c_275_l0,h1,h7,hL];refine qaeq p f s hs _ _ ?_ ?_ ?_
  ·simp [h1]
  ·simp [h2]
  ·simp [h6]
 ·simp [Prg.e,ParserState.e]
 ·rw [← hX];cases (p.states.take s).any (fun y=>decide (y.name=p.states[s].name))<;>rfl
theorem qaaz (p:Prg) (f:PrgS p):qab Φ f_201 [.agg (Prg.c p)]=some (tup3 (parE p)):=by
 rw [qaa (fn:=c_201) rfl rfl];by_cases z0:p.states.length=0
 ·simp [c_201,Prg.e,z0,parE,tup3]
 by_cases z1:12<p.states.length
 ·simp [c_201,Prg.e,z0,z1,parE,tup3]
 have hE:parE p=(fe (parG p) p.states.length 0).getD (0,0,0):=by unfold parE;rw [if_neg z0,if_neg z1];rfl
 rw [hE];simp [c_201,Prg.e,z0,z1];refine qao p.states.length (fun i e=>look 1 e=some (.iptr 9 [Prg.c p] 0 0)∧look 5 e=some (.int .i64 i))
  (fun i=>some (tup3 ((fe (parG p) p.states.length i).getD (0,0,0)))) ?_ ?_ 0 _ (Nat.zero_le _) ?_
 ·rintro i e L hi hL ⟨h1,h5⟩ ih;have hw:IntKind.wrap .i64 ((i:Int)+1)=((i+1:Nat):Int):=qac (by omega) (by omega);have hs:=qyp p f i hi;simp only [Prg.e] at hs;rw [Prg.e] at h1;by_cases y:(stA p i p.states[i]).2=0
  ·rw [y] at hs;have e1:parG p i=none:=by
    unfold stA at y;unfold parG;rw [List.getElem?_eq_getElem hi,Option.bind_some];split at y
    ·simp at y
    ·rename_i a1;split at y
     ·simp at y
     ·rename_i a2;rw [if_neg a1,if_neg a2,if_pos y]
   rw [qap hi e1];simp [c_201_l0,h1,h5,hi,hs,hw];exact ih _ ⟨by simp [h1,Prg.e],by simp⟩
  ·have e1:parG p i=some ((i:Int),(stA p i p.states[i]).1,(stA p i p.states[i]).2):=by
    unfold stA at y ⊢;unfold parG;rw [List.getElem?_eq_getElem hi,Option.bind_some];split
    ·rfl
    ·rename_i a1;rw [if_neg a1] at y;split
     ·rfl
     ·rename_i a2;rw [if_neg a2] at y;rw [if_neg y]
   rw [qai hi e1];simp [c_201_l0,h1,h5,hi,hs,y,tup3]
 ·rintro e L hL ⟨h1,h5⟩;rw [qa0];rw [Prg.e] at h1;simp [c_201_l0,c_201_k1,h1,h5,hL,tup3]
 ·simp [Prg.e]
theorem qaap (p:Prg) (f:PrgS p):qab Φ f_203 [.agg (Prg.c p)]=some (.val (.tup [.int .i64 (depE p).1,.int .i64 (depE p).2])):=by
 rw [qaa (fn:=c_203) rfl rfl];by_cases z1:8<p.deparser.length
 ·simp [c_203,Prg.e,z1,depE]
 have hE:depE p=(fe (depG p) p.deparser.length 0).getD (0,0):=by unfold depE;rw [if_neg z1];rfl
 rw [hE];simp [c_203,Prg.e,z1];refine qao p.deparser.length (fun i e=>look 1 e=some (.iptr 9 [Prg.c p] 0 0)∧look 4 e=some (.int .i64 i))
  (fun i=>some (Rt.val (.tup [.int .i64 ((fe (depG p) p.deparser.length i).getD (0,0)).1,.int .i64 ((fe (depG p) p.deparser.length i).getD (0,0)).2]))) ?_ ?_ 0 _ (Nat.zero_le _) ?_
 ·rintro i e L hi hL ⟨h1,h4⟩ ih;have hw:IntKind.wrap .i64 ((i:Int)+1)=((i+1:Nat):Int):=qac (by omega) (by omega);rw [Prg.e] at h1;by_cases y0:p.deparser[i]<0
  ·rw [qai (x:=((i:Int),8)) hi (by simp [depG,hi,y0])];simp [c_203_l2,cI,h1,h4,hi,y0]
  by_cases y1:(p.headers.length:Int)≤p.deparser[i]
  ·rw [qai (x:=((i:Int),8)) hi (by simp [depG,hi,y0,y1])];simp [c_203_l2,cI,h1,h4,hi,y0,y1]
  generalize hX:some (Rt.val (.tup [AV.int .i64 ((fe (depG p) p.deparser.length i).getD (0,0)).1,.int .i64 ((fe (depG p) p.deparser.length i).getD (0,0)).2]))=X;simp [c_203_l2,cI,h1,h4,hi,y0,y1];refine (qdb (p.deparser.take i) (fun g=>decide (g=p.deparser[i])) (some (Rt.val (.tup [.int .i64 i,.int .i64 7]))) (some (Rt.val (.tup [.int .i64 ((fe (depG p) p.deparser.length (i+1)).getD (0,0)).1,.int .i64 ((fe (depG p) p.deparser.length (i+1)).getD (0,0)).2])))
   (fun k e H=>look 1 e=some (.iptr 9 [Prg.c p] 0 0)∧look 4 e=some (.int .i64 i)∧look 5 e=some (.int .i64 k)∧H=⟨[],0⟩) ?_ ?_ ?_ _ _ ?_).trans ?_
  ·rintro k e _ L' hk hL' ⟨h1,h4,h5,rfl⟩ hb;simp only [List.length_take] at hk;have hk1:k<i:=by omega
   have hk2:k<p.deparser.length:=by omega
   simp only [List.getElem_take,decide_eq_true_eq] at hb;rw [Prg.e] at h1;simp [c_203_l0,cI,h1,h4,h5,hk1,hk2,hi,hb]
  ·rintro k e _ L' X hk hL' ⟨h1,h4,h5,rfl⟩ hb ih';simp only [List.length_take] at hk;have hk1:k<i:=by omega
   have hk2:k<p.deparser.length:=by omega
   simp only [List.getElem_take,decide_eq_false_iff_not] at hb;have hw':IntKind.wrap .i64 ((k:Int)+1)=((k+1:Nat):Int):=qac (by omega) (by omega);rw [Prg.e] at h1;simp [c_203_l0,cI,h1,h4,h5,hk1,hk2,hi,hb,hw'];exact ih' _ _ ⟨by simp [h1,Prg.e],by simp [h4],by simp,rfl⟩
  ·rintro e _ L' hL' ⟨h1,h4,h5,rfl⟩;have hm:min i p.deparser.length=i:=by omega
   simp [hm] at h5;simp [c_203_l0,c_203_k1,h4,h5,hL',hw];exact ih _ ⟨by simp [h1],by simp⟩
  ·simp [h1,h4,Prg.e]
  ·rw [← hX];cases q:(p.deparser.take i).contains p.deparser[i] with
   | true=>
    rw [qai (x:=((i:Int),7)) hi (by simp only [depG,List.getElem?_eq_getElem hi,Option.bind_some];rw [if_neg (by omega),q];rfl)];rw [qg0] at q;rw [q];rfl
   | false=>
    rw [qap hi (by simp only [depG,List.getElem?_eq_getElem hi,Option.bind_some];rw [if_neg (by omega),q];rfl)];rw [qg0] at q;rw [q];rfl
 ·rintro e L hL ⟨h1,h4⟩;rw [qa0];rw [Prg.e] at h1;simp [c_203_l2,c_203_k3,h1,h4,hL]
 ·simp [Prg.e]
end Go.Av
