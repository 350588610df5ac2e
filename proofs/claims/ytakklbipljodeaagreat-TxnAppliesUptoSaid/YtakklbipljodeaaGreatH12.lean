/-
 The law StoreChecks returns true for every program and every configuration.
-/
import Derived.Test.YtakklbipljodeaaGreatW25K
import Derived.Test.YtakklbipljodeaaGreatH17
set_option linter.unusedVariables false
set_option linter.unusedSimpArgs false
set_option linter.constructorNameAsVariable false
namespace Go.Av
set_option maxRecDepth 4000
theorem CfgT.s {c:Config} (t:CfgT c):CfgS c:=
 ⟨t.rl,fun l hl=>⟨(t.rs l hl).1,fun r hr=>⟨((t.rs l hl).2 r hr).kl,((t.rs l hl).2 r hr).al⟩⟩,t.nl,t.dl,fun d hd=>(t.ds d hd).1,t.gl,fun l hl=>(t.gs l hl).1⟩
theorem prgHv {p:Prg} (op:p.Ok qbd):∀t∈p.tables,∀v∈t.dflt.args,ok32 0 v:=by
 intro t ht v hv;have:=op.2.2.2.2.2.1.2 t ht;simp only [Tbl.Ok,ActionCall.Ok] at this;exact this.2.2.2.1.2.2 v hv
theorem qsk {l:List Rw} {id:Int} (h:rIdx l id=none):rIx l id= -1:=by simp [rIx,h]
theorem qsl {l:List Rw} {id:Int} {i:Nat} (h:rIdx l id=some i):rIx l id=i:=by simp [rIx,h]
section
variable {p:Prg} (f:PrgS p) (hv:∀t∈p.tables,∀v∈t.dflt.args,ok32 0 v) {c:Config} (v:CfgV p c) (s:CfgT c) (t:Int)
include f hv v s
theorem qv0 (x:Entry) (hx:EntS x):qab Φ f_77 [.agg (Prg.c p),.agg (Config.c c),.int .i64 t,.agg (Entry.c x)]=
  some (.val (.tup [.agg (Config.c (if insE p c t x=0 then insC c t x else c)),.int .i64 (if insE p c t x=0 then qdw c t else 0),.int .i64 (insE p c t x)])):=by
 rw [qaa (fn:=c_77) rfl rfl];have he:=qss p f hv t x hx;simp only [Prg.e,Entry.ce] at he;by_cases z0:t<0
 ·have hE:insE p c t x=8:=by simp [insE,inT];omega
  simp [c_77,Prg.e,Config.ce,Entry.ce,hE,z0]
 by_cases z1:(p.tables.length:Int)≤t
 ·have hE:insE p c t x=8:=by simp [insE,inT];omega
  simp [c_77,Prg.e,Config.ce,Entry.ce,hE,z0,z1]
 obtain ⟨k,rfl⟩:∃k:Nat,t=k:=⟨t.toNat,by omega⟩;have hk:k<p.tables.length:=by omega
 have hk1:k<c.rows.length:=by rw [v.rl];exact hk
 have hk2:k<c.nextID.length:=by rw [v.nl];exact hk
 have hi:=qh4 hk;have hkn:¬p.tables.length≤k:=by omega
 have hrow:qcb c (k:Int)=c.rows[k]:=qcu hk1;have hnx:qdw c (k:Int)=c.nextID[k]:=qhv hk2;have hsz:qlp p (k:Int)=p.tables[k].size:=qkk hk;have hE:insE p c k x=if entE p k x≠0 then entE p k x else if (c.rows[k].any fun y=>sk y.entry x)=true then 7 else if p.tables[k].size≤c.rows[k].length∨1073741824≤c.nextID[k] then 13 else 0:=by
  unfold insE;rw [hi,hrow,hnx,hsz];simp
 by_cases y:entE p k x=0
 rotate_left
 ·rw [if_pos y] at hE;simp [c_77,Prg.e,Config.ce,Entry.ce,hE,hkn,he,y]
 rw [if_neg (by simpa using y)] at hE;rw [y] at he;have hsl:=s.rs _ (List.getElem_mem hk1);have htk:=qta c.rows[k] x hsl.1 fun r hr=>(hsl.2 r hr).kl
 simp only [Entry.ce] at htk;cases w:c.rows[k].any fun y=>sk y.entry x with
 | true=>
  rw [if_pos w] at hE;rw [w] at htk;simp [c_77,Prg.e,Config.ce,cSe,Entry.ce,hE,hkn,hk1,he,htk]
 | false=>
 rw [if_neg (by rw [w];decide)] at hE;rw [w] at htk;by_cases u:p.tables[k].size≤c.rows[k].length
 ·rw [if_pos (.inl u)] at hE;simp [c_77,Prg.e,Config.ce,cSe,Tbl.e,Entry.ce,hE,hk,hkn,hk1,he,htk,u]
 by_cases q:1073741824≤c.nextID[k]
 ·rw [if_pos (.inr q)] at hE;simp [c_77,Prg.e,Config.ce,cSe,cIe,Tbl.e,Entry.ce,hE,hk,hkn,hk1,hk2,he,htk,u,q]
 rw [if_neg (by omega)] at hE;have hvt:=v.at hk;have hrp:=qi9 c k (c.rows[k]++[⟨c.nextID[k],x⟩]) (c.nextID[k]+1) hk1 (by rw [v.nl,v.rl]) (by have:=s.rl;omega);have hw:IntKind.wrap .i64 (c.nextID[k]+1)=c.nextID[k]+1:=qac (by have:=hvt.nx0;omega) (by omega);have hci:insC c (k:Int) x=⟨c.rows.set k (c.rows[k]++[⟨c.nextID[k],x⟩]),c.nextID.set k (c.nextID[k]+1),c.defaults,c.registers⟩:=by
  unfold insC;rw [hrow,hnx];simp
 rw [hE,if_pos rfl,if_pos rfl,hci,hnx];generalize hR:Config.c ⟨c.rows.set k (c.rows[k]++[⟨c.nextID[k],x⟩]),c.nextID.set k (c.nextID[k]+1),c.defaults,c.registers⟩=R at hrp ⊢;have hRl:R.length=4:=by rw [← hR];simp
 obtain ⟨r0,r1,r2,r3,rfl⟩:∃r0 r1 r2 r3,R=[r0,r1,r2,r3]:=by
  match R,hRl with
  | [r0,r1,r2,r3],_=>exact ⟨_,_,_,_,rfl⟩
 have hs0:∀H:AH,snap 38 H r0=some r0∧snap 38 H r1=some r1∧snap 38 H r2=some r2∧snap 38 H r3=some r3:=by
  intro H;rw [Config.ce] at hR;cases hR;simp
 have hal:qcc 5 (c.rows[k].map Rw.c)=true:=qb7 5 Rw.c _ fun x=>by simp
 have hls:=v.small _ (List.getElem_mem hk1);have b1:c.rows[k].length*72≤70368744177664:=by omega
 have b2:(c.rows[k].length+1)*72≤70368744177664:=by omega
 simp only [Config.ce,List.map_append,List.map_cons,List.map_nil,Rw.ce] at hrp;simp [c_77,Prg.e,Config.ce,cSe,cIe,Tbl.e,Entry.ce,hk,hkn,hk1,hk2,he,htk,u,q,hal,b1,b2,hw,hrp,hs0]
end
section
variable {p:Prg} (f:PrgS p) (hv:∀t∈p.tables,∀v∈t.dflt.args,ok32 0 v) {c:Config} (v:CfgV p c) (s:CfgT c) (t:Int)
include f hv v s
theorem qpf (x:ActionCall) (hx:x.args.length<2^40) (hr:∀v∈x.args,ok32 0 v):qab Φ f_80 [.agg (Prg.c p),.agg (Config.c c),.int .i64 t,.agg (ActionCall.c x)]=
  some (.val (.tup [.agg (Config.c (if defE p t x=0 then defC c t x else c)),.int .i64 (defE p t x)])):=by
 rw [qaa (fn:=c_80) rfl rfl];have hc:=qna p f hv t x hx hr;simp only [Prg.e,ActionCall.ce] at hc;by_cases z0:t<0
 ·have hE:defE p t x=8:=by simp [defE,inT];omega
  simp [c_80,Prg.e,Config.ce,ActionCall.ce,hE,z0]
 by_cases z1:(p.tables.length:Int)≤t
 ·have hE:defE p t x=8:=by simp [defE,inT];omega
  simp [c_80,Prg.e,Config.ce,ActionCall.ce,hE,z0,z1]
 obtain ⟨k,rfl⟩:∃k:Nat,t=k:=⟨t.toNat,by omega⟩;have hk:k<p.tables.length:=by omega
 have hkn:¬p.tables.length≤k:=by omega
 have hk1:k<c.defaults.length:=by rw [v.dl];exact hk
 have hE:defE p k x=qba p k x:=by simp [defE,qh4 hk]
 by_cases q:qba p k x=0
 rotate_left
 ·simp [c_80,Prg.e,Config.ce,ActionCall.ce,hE,hkn,hc,q]
 have hal:qcc 2 (c.defaults.map ActionCall.c)=true:=qb7 2 ActionCall.c _ fun x=>by simp
 have hne:¬c.defaults=[]:=by intro e;rw [e] at hk1;simp at hk1
 have hdl:=s.dl;have b1:c.defaults.length*32≤70368744177664:=by omega
 have hci:defC c (k:Int) x=⟨c.rows,c.nextID,c.defaults.set k x,c.registers⟩:=by simp [defC]
 rw [q] at hc;rw [hE,q,if_pos rfl,hci];have hset:∀H,mapO (mapO (snap 37 H)) (((c.defaults.map ActionCall.c).set k [.int .i64 x.action,.slice 1 (x.args.map c32)]).take c.defaults.length)=some ((c.defaults.map ActionCall.c).set k [.int .i64 x.action,.slice 1 (x.args.map c32)]):=by
  intro H;rw [List.take_of_length_le (by simp),← ActionCall.ce,← List.map_set];exact qed (n:=37) (H:=H) (fun x=>qs4 x) _
 simp [c_80,Prg.e,Config.ce,ActionCall.ce,hkn,hc,hal,hne,b1,hk1,hset]
theorem qvz (id:Int):qab Φ f_79 [.agg (Prg.c p),.agg (Config.c c),.int .i64 t,.int .i64 id]=
  some (.val (.tup [.agg (Config.c (if delE p c t id=0 then delC c t id else c)),.int .i64 (delE p c t id)])):=by
 have _:=f;have _:=hv;rw [qaa (fn:=c_79) rfl rfl];by_cases z0:t<0
 ·have hE:delE p c t id=8:=by simp [delE,inT];omega
  simp [c_79,Prg.e,Config.ce,hE,z0]
 by_cases z1:(p.tables.length:Int)≤t
 ·have hE:delE p c t id=8:=by simp [delE,inT];omega
  simp [c_79,Prg.e,Config.ce,hE,z0,z1]
 obtain ⟨k,rfl⟩:∃k:Nat,t=k:=⟨t.toNat,by omega⟩;have hk:k<p.tables.length:=by omega
 have hkn:¬p.tables.length≤k:=by omega
 have hk1:k<c.rows.length:=by rw [v.rl];exact hk
 have hk2:k<c.nextID.length:=by rw [v.nl];exact hk
 have hrow:qcb c (k:Int)=c.rows[k]:=qcu hk1;have hls:=v.small _ (List.getElem_mem hk1);have hix:=qod c.rows[k] id (by omega);cases hx:rIdx c.rows[k] id with
 | none=>
  have hE:delE p c k id=8:=by simp [delE,qh4 hk,hrow,hx]
  rw [qsk hx] at hix;simp [c_79,Prg.e,Config.ce,cSe,hE,hkn,hk1,hix]
 | some i=>
  obtain ⟨hi,hid⟩:=qhj hx;have hE:delE p c k id=0:=by simp [delE,qh4 hk,hrow,hx]
  rw [qsl hx] at hix;have hci:delC c (k:Int) id=⟨c.rows.set k (c.rows[k].eraseIdx i),c.nextID.set k c.nextID[k],c.defaults,c.registers⟩:=by
   unfold delC;rw [hrow,hx];simp
  have hrp:=qi9 c k (c.rows[k].eraseIdx i) c.nextID[k] hk1 (by rw [v.nl,v.rl]) (by have:=s.rl;omega);rw [hE,if_pos rfl,hci];generalize hR:Config.c ⟨c.rows.set k (c.rows[k].eraseIdx i),c.nextID.set k c.nextID[k],c.defaults,c.registers⟩=R at hrp ⊢;have hRl:R.length=4:=by rw [← hR];simp
  obtain ⟨r0,r1,r2,r3,rfl⟩:∃r0 r1 r2 r3,R=[r0,r1,r2,r3]:=by
   match R,hRl with
   | [r0,r1,r2,r3],_=>exact ⟨_,_,_,_,rfl⟩
  have hs0:∀H:AH,snap 38 H r0=some r0∧snap 38 H r1=some r1∧snap 38 H r2=some r2∧snap 38 H r3=some r3:=by
   intro H;rw [Config.ce] at hR;cases hR;simp
  have a1:i≤c.rows[k].length:=by omega
  have a2:(i:Int)+1≤(c.rows[k].length:Int):=by omega
  have a3:(0:Int)≤(i:Int)+1:=by omega
  have a4:i+1≤c.rows[k].length:=by omega
  have a5:min i c.rows[k].length=i:=by omega
  have hw:IntKind.wrap .i64 ((i:Int)+1)=(i:Int)+1:=qac (by omega) (by omega);have hneg:¬(i:Int)<0:=by omega
  have t1:qcc 5 ((c.rows[k].map Rw.c).take i)=true:=by rw [← List.map_take];exact qb7 5 Rw.c _ fun x=>by simp
  have t2:qcc 5 ((c.rows[k].map Rw.c).drop (i+1))=true:=by rw [← List.map_drop];exact qb7 5 Rw.c _ fun x=>by simp
  have htk:((c.rows[k].map Rw.c).drop (i+1)).take (c.rows[k].length - (i+1))=(c.rows[k].map Rw.c).drop (i+1):=List.take_of_length_le (by simp);have b1:i*72≤70368744177664:=by omega
  have b2:(i+(c.rows[k].length - (i+1)))*72≤70368744177664:=by omega
  have b3:(c.rows[k].length - (i+1))+(i+1)=c.rows[k].length:=by omega
  rw [List.eraseIdx_eq_take_drop_succ,List.map_append,List.map_take,List.map_drop] at hrp;simp only [Config.ce] at hrp;simp [c_79,Prg.e,Config.ce,cSe,cIe,hkn,hk1,hk2,hix,hneg,a1,a2,a3,a5,hw,htk,t1,t2,b1,b2,hrp,hs0]
end
theorem qv1 {p:Prg} (f:PrgS p) (hv:∀t∈p.tables,∀v∈t.dflt.args,ok32 0 v) {c:Config} (v:CfgV p c) (s:CfgT c) (t id:Int) (x:ActionCall) (hxl:x.args.length<2^40) (hr:∀v∈x.args,ok32 0 v):
  qab Φ f_78 [.agg (Prg.c p),.agg (Config.c c),.int .i64 t,.int .i64 id,.agg (ActionCall.c x)]=
  some (.val (.tup [.agg (Config.c (if modE p c t id x=0 then modC c t id x else c)),.int .i64 (modE p c t id x)])):=by
 rw [qaa (fn:=c_78) rfl rfl];have hc:=qna p f hv t x hxl hr;simp only [Prg.e,ActionCall.ce] at hc;by_cases z0:t<0
 ·have hE:modE p c t id x=8:=by simp [modE,inT];omega
  simp [c_78,Prg.e,Config.ce,ActionCall.ce,hE,z0]
 by_cases z1:(p.tables.length:Int)≤t
 ·have hE:modE p c t id x=8:=by simp [modE,inT];omega
  simp [c_78,Prg.e,Config.ce,ActionCall.ce,hE,z0,z1]
 obtain ⟨k,rfl⟩:∃k:Nat,t=k:=⟨t.toNat,by omega⟩;have hk:k<p.tables.length:=by omega
 have hkn:¬p.tables.length≤k:=by omega
 have hk1:k<c.rows.length:=by rw [v.rl];exact hk
 have hk2:k<c.nextID.length:=by rw [v.nl];exact hk
 have hrow:qcb c (k:Int)=c.rows[k]:=qcu hk1;have hls:=v.small _ (List.getElem_mem hk1);have hix:=qod c.rows[k] id (by omega);cases hx:rIdx c.rows[k] id with
 | none=>
  have hE:modE p c k id x=8:=by simp [modE,qh4 hk,hrow,hx]
  rw [qsk hx] at hix;simp [c_78,Prg.e,Config.ce,cSe,ActionCall.ce,hE,hkn,hk1,hix]
 | some i=>
  obtain ⟨hi,hid⟩:=qhj hx;have hE:modE p c k id x=qba p k x:=by simp [modE,qh4 hk,hrow,hx]
  rw [qsl hx] at hix;have hneg:¬(i:Int)<0:=by omega
  by_cases q:qba p k x=0
  rotate_left
  ·simp [c_78,Prg.e,Config.ce,cSe,ActionCall.ce,hE,hkn,hk1,hix,hneg,hc,q]
  have hci:modC c (k:Int) id x=⟨c.rows.set k (c.rows[k].modify i (qbm x)),c.nextID.set k c.nextID[k],c.defaults,c.registers⟩:=by
   unfold modC;rw [hrow,hx];simp
  have hrp:=qi9 c k (c.rows[k].modify i (qbm x)) c.nextID[k] hk1 (by rw [v.nl,v.rl]) (by have:=s.rl;omega);rw [hE,q,if_pos rfl,hci];rw [q] at hc;generalize hR:Config.c ⟨c.rows.set k (c.rows[k].modify i (qbm x)),c.nextID.set k c.nextID[k],c.defaults,c.registers⟩=R at hrp ⊢;have hRl:R.length=4:=by rw [← hR];simp
  obtain ⟨r0,r1,r2,r3,rfl⟩:∃r0 r1 r2 r3,R=[r0,r1,r2,r3]:=by
   match R,hRl with
   | [r0,r1,r2,r3],_=>exact ⟨_,_,_,_,rfl⟩
  have hs0:∀H:AH,snap 38 H r0=some r0∧snap 38 H r1=some r1∧snap 38 H r2=some r2∧snap 38 H r3=some r3:=by
   intro H;rw [Config.ce] at hR;cases hR;simp
  have hal:qcc 5 (c.rows[k].map Rw.c)=true:=qb7 5 Rw.c _ fun x=>by simp
  have hne:¬c.rows[k]=[]:=by intro e;rw [e] at hi;simp at hi
  have b1:c.rows[k].length*72≤70368744177664:=by omega
  have hlist:(c.rows[k].map Rw.c).set i [.int .i64 c.rows[k][i].id,.slice 2 (c.rows[k][i].entry.keys.map KeyMatch.c),.int .i64 c.rows[k][i].entry.priority,.int .i64 x.action,.slice 1 (x.args.map c32)]=(c.rows[k].modify i (qbm x)).map Rw.c:=by
   refine List.ext_getElem (by simp) fun j h1 h2=>?_
   rw [List.getElem_set,List.getElem_map,List.getElem_map,List.getElem_modify];split
   ·rename_i e;subst e;simp [Rw.ce,qbm]
   ·simp
  have t1:∀H,mapO (mapO (snap 39 H)) (c.rows[k].map Rw.c)=some (c.rows[k].map Rw.c):=fun H=>qed (n:=39) (H:=H) (fun x=>qoi x) _
  have hns:anyL (bor 40) ((c.rows[k].modify i (qbm x)).map Rw.c).flatten=false:=by
   have:∀l:List Rw,anyL (bor 40) (l.map Rw.c).flatten=false:=by
    intro l
    induction l with
    | nil=>rfl
    | cons a l ih=>
     have ha:∀(xs ys:List AV),anyL (bor 40) xs=false→anyL (bor 40) ys=false→anyL (bor 40) (xs++ys)=false:=by
      intro xs ys
      induction xs with
      | nil=>intro _ h;exact h
      | cons b xs ih2=>
       intro h1 h2;simp only [List.cons_append,anyL,Bool.or_eq_false_iff] at h1 ⊢;exact ⟨h1.1,ih2 h1.2 h2⟩
     simp only [List.map_cons,List.flatten_cons];exact ha _ _ (by simp [Rw.ce]) ih
   exact this _
  have t2:∀H,mapO (mapO (snap 40 H)) ((c.rows[k].modify i (qbm x)).map Rw.c)=some ((c.rows[k].modify i (qbm x)).map Rw.c):=fun H=>qed (n:=40) (H:=H) (fun x=>qoi x) _
  have t3:((c.rows[k].modify i (qbm x)).map Rw.c).take c.rows[k].length=(c.rows[k].modify i (qbm x)).map Rw.c:=List.take_of_length_le (by simp);have t4:(c.rows[k].map Rw.c).take c.rows[k].length=c.rows[k].map Rw.c:=List.take_of_length_le (by simp);simp only [Config.ce] at hrp;generalize hml:(c.rows[k].modify i (qbm x)).map Rw.c=ml at hlist hrp hns t2 t3;have hmll:ml.length=c.rows[k].length:=by rw [← hml];simp
  simp [c_78,Prg.e,Config.ce,cSe,cIe,ActionCall.ce,hkn,hk1,hk2,hix,hneg,hc,hal,hne,b1,hi,Rw.ce,hlist,qew,qjl,hns,t1,t2,t3,t4,hmll,hrp,hs0]
def xoE (p:Prg) (c:Config) (o:TableOp):Int:=if o.kind=1 then insE p c o.table o.entry else if o.kind=2 then modE p c o.table o.id o.call else if o.kind=3 then delE p c o.table o.id else if o.kind=4 then defE p o.table o.call else 11
def xoD (c:Config) (o:TableOp):Config:=if o.kind=1 then insC c o.table o.entry else if o.kind=2 then modC c o.table o.id o.call else if o.kind=3 then delC c o.table o.id else defC c o.table o.call
def xoC (p:Prg) (c:Config) (o:TableOp):Config:=if xoE p c o=0 then xoD c o else c
def xoI (p:Prg) (c:Config) (o:TableOp):Int:=if xoE p c o=0∧o.kind=1 then qdw c o.table else 0
structure CallS (x:ActionCall):Prop where
 al:x.args.length<2^40
 ar:∀v∈x.args,ok32 0 v
structure OpS (o:TableOp):Prop where
 e:EntS o.entry
 c:CallS o.call
theorem qafq {o:TableOp} (h:o.Ok qbd):OpS o:=by
 have e:=qdq;simp only [TableOp.Ok,Entry.Ok,ActionCall.Ok] at h;obtain ⟨_,_,_,⟨h1,_,_,h2⟩,_,h3⟩:=h;exact ⟨⟨by have:=h1.1;omega,fun m hm=>h1.2 m hm,by have:=h2.1;omega,fun v hv=>h2.2 v hv⟩,⟨by have:=h3.1;omega,fun v hv=>h3.2 v hv⟩⟩
theorem qy6 {p:Prg} {c:Config} (v:CfgV p c) (o:TableOp):CfgV p (xoC p c o):=by
 unfold xoC;split
 ·rename_i h;unfold xoE at h;unfold xoD;split
  ·rename_i h1;rw [if_pos h1] at h;exact qadc v h
  rename_i h1;rw [if_neg h1] at h;split
  ·rename_i h2;rw [if_pos h2] at h;exact qadm v h
  rename_i h2;rw [if_neg h2] at h;split
  ·rename_i h3;rw [if_pos h3] at h;exact qacs v h
  rename_i h3;rw [if_neg h3] at h;by_cases h4:o.kind=4
  ·rw [if_pos h4] at h;exact qacr v h
  ·rw [if_neg h4] at h;cases h
 ·exact v
theorem CfgT.mk_rows {p:Prg} {c c':Config} (s:CfgT c) (v':CfgV p c') (hp:p.tables.length<2^40) (hr:∀l∈c'.rows,∀r∈l,rowS r) (hd:∀d∈c'.defaults,d.args.length<2^40∧∀v∈d.args,ok32 0 v) (hg:c'.registers=c.registers):CfgT c':=by
 refine ⟨by rw [v'.rl];exact hp,fun l hl=>⟨by have:=v'.small l hl;omega,hr l hl⟩,by rw [v'.nl];exact hp,by rw [v'.dl];exact hp,hd,by rw [hg];exact s.gl,by rw [hg];exact s.gs⟩
theorem qv8 {c:Config} {t:Int} {r:Rw} (h:r∈qcb c t):∃l∈c.rows,r∈l:=by
 unfold qcb at h;cases ha:at? c.rows t with
 | none=>rw [ha] at h;cases h
 | some l=>
  rw [ha] at h;refine ⟨l,?_,h⟩;unfold at? at ha;split at ha
  ·cases ha
  ·exact List.mem_of_getElem? ha
theorem xoC_t {p:Prg} {c:Config} (v:CfgV p c) (s:CfgT c) (hp:p.tables.length<2^40) (o:TableOp) (ho:OpS o):CfgT (xoC p c o):=by
 have v':=qy6 v o;unfold xoC at v' ⊢;split
 rotate_left
 ·exact s
 rename_i h;rw [if_pos h] at v';have old:∀l∈c.rows,∀r∈l,rowS r:=fun l hl=>(s.rs l hl).2
 have oldA:∀r∈qcb c o.table,rowS r:=fun r hr=>by
  obtain ⟨l,hl,hr⟩:=qv8 hr;exact old l hl r hr
 unfold xoD at v' ⊢;split
 ·rename_i h1;rw [if_pos h1] at v';refine s.mk_rows v' hp ?_ s.ds rfl;intro l hl r hr;simp only [insC] at hl;rcases List.mem_or_eq_of_mem_set hl with hl | rfl
  ·exact old l hl r hr
  ·rcases List.mem_append.1 hr with hr | hr
   ·exact oldA r hr
   ·simp at hr;subst hr;exact ho.e
 rename_i h1;rw [if_neg h1] at v';split
 ·rename_i h2;rw [if_pos h2] at v';unfold modC at v' ⊢;split
  ·rename_i i hi;rw [hi] at v';refine s.mk_rows v' hp ?_ s.ds rfl;intro l hl r hr;rcases List.mem_or_eq_of_mem_set hl with hl | rfl
   ·exact old l hl r hr
   ·obtain ⟨j,hj,rfl⟩:=List.mem_iff_getElem.1 hr;rw [List.getElem_modify];have hj':j<(qcb c o.table).length:=by simpa using hj
    have h0:=oldA _ (List.getElem_mem hj');split
    ·exact ⟨h0.kl,h0.ks,ho.c.al,ho.c.ar⟩
    ·exact h0
  ·exact s
 rename_i h2;rw [if_neg h2] at v';split
 ·rename_i h3;rw [if_pos h3] at v';unfold delC at v' ⊢;split
  ·rename_i i hi;rw [hi] at v';refine s.mk_rows v' hp ?_ s.ds rfl;intro l hl r hr;rcases List.mem_or_eq_of_mem_set hl with hl | rfl
   ·exact old l hl r hr
   ·exact oldA r ((List.eraseIdx_sublist _ _).subset hr)
  ·exact s
 ·rename_i h3;rw [if_neg h3] at v';refine s.mk_rows v' hp old ?_ rfl;intro d hd;simp only [defC] at hd;rcases List.mem_or_eq_of_mem_set hd with hd | rfl
  ·exact s.ds d hd
  ·exact ⟨ho.c.al,ho.c.ar⟩
inductive RunR where
 | ok (c:Config) (ids:List Int)
 | err (i:Nat) (e:Int)
def xoF (p:Prg) (c:Config) (l:List TableOp):Config:=l.foldl (xoC p) c
theorem TableOp.ce2 (x:TableOp):TableOp.c x=[.int .i64 x.kind,.int .i64 x.table,.int .i64 x.id,.slice 2 (x.entry.keys.map KeyMatch.c),.int .i64 x.entry.priority,.int .i64 x.entry.call.action,.slice 1 (x.entry.call.args.map c32),.int .i64 x.call.action,.slice 1 (x.call.args.map c32)]:=by simp [TableOp.c]
theorem cfg4 (c:Config):∃r0 r1 r2 r3,Config.c c=[r0,r1,r2,r3]∧(∀(H:AH),(snap 37 H r0=some r0∧snap 37 H r1=some r1∧snap 37 H r2=some r2∧snap 37 H r3=some r3)∧(snap 38 H r0=some r0∧snap 38 H r1=some r1∧snap 38 H r2=some r2∧snap 38 H r3=some r3)∧(snap 39 H r0=some r0∧snap 39 H r1=some r1∧snap 39 H r2=some r2∧snap 39 H r3=some r3)∧(snap 40 H r0=some r0∧snap 40 H r1=some r1∧snap 40 H r2=some r2∧snap 40 H r3=some r3))∧(bor 37 r0=false∧bor 37 r1=false∧bor 37 r2=false∧bor 37 r3=false)∧(bor 38 r0=false∧bor 38 r1=false∧bor 38 r2=false∧bor 38 r3=false)∧(bor 39 r0=false∧bor 39 r1=false∧bor 39 r2=false∧bor 39 r3=false)∧(bor 40 r0=false∧bor 40 r1=false∧bor 40 r2=false∧bor 40 r3=false):=by
 refine ⟨_,_,_,_,Config.ce c,fun H=>⟨?_,?_,?_,?_⟩,?_,?_,?_,?_⟩<;>simp
theorem qaas {p:Prg} (f:PrgS p) (hv:∀t∈p.tables,∀v∈t.dflt.args,ok32 0 v) {c:Config} (v:CfgV p c) (s:CfgT c) (o:TableOp) (ho:OpS o):
  qab Φ f_190 [.agg (Prg.c p),.agg (Config.c c),.agg (TableOp.c o)]=some (.val (.tup [.agg (Config.c (xoC p c o)),.int .i64 (xoI p c o),.int .i64 (xoE p c o)])):=by
 rw [qaa (fn:=c_190) rfl rfl];obtain ⟨r0,r1,r2,r3,hR,hs,hs2⟩:=cfg4 (xoC p c o);obtain ⟨q0,q1,q2,q3,hC,hq,hq2⟩:=cfg4 c;by_cases z1:o.kind=1
 ·have h:=qv0 f hv v s o.table o.entry ho.e;have e1:xoE p c o=insE p c o.table o.entry:=by simp [xoE,z1]
  have e2:(if insE p c o.table o.entry=0 then insC c o.table o.entry else c)=xoC p c o:=by simp [xoC,e1,xoD,z1]
  have e3:(if insE p c o.table o.entry=0 then qdw c o.table else 0)=xoI p c o:=by simp [xoI,e1,z1]
  rw [e2,e3,← e1] at h;rw [hR,hC] at h ⊢;simp only [Prg.e,Entry.ce] at h;simp [c_190,Prg.e,TableOp.ce2,z1,h,hs,hq,hq2]
 by_cases z2:o.kind=2
 ·have h:=qv1 f hv v s o.table o.id o.call ho.c.al ho.c.ar;have e1:xoE p c o=modE p c o.table o.id o.call:=by simp [xoE,z2]
  have e2:(if modE p c o.table o.id o.call=0 then modC c o.table o.id o.call else c)=xoC p c o:=by simp [xoC,e1,xoD,z2]
  have e3:xoI p c o=0:=by simp [xoI,z1]
  rw [e2,← e1] at h;rw [e3,hR,hC] at*;simp only [Prg.e,ActionCall.ce] at h;simp [c_190,Prg.e,TableOp.ce2,z2,h,hs,hs2,hq,hq2]
 by_cases z3:o.kind=3
 ·have h:=qvz f hv v s o.table o.id;have e1:xoE p c o=delE p c o.table o.id:=by simp [xoE,z3]
  have e2:(if delE p c o.table o.id=0 then delC c o.table o.id else c)=xoC p c o:=by simp [xoC,e1,xoD,z3]
  have e3:xoI p c o=0:=by simp [xoI,z1]
  rw [e2,← e1] at h;rw [e3,hR,hC] at*;simp only [Prg.e] at h;simp [c_190,Prg.e,TableOp.ce2,z3,h,hs,hs2,hq,hq2]
 by_cases z4:o.kind=4
 ·have h:=qpf f hv v s o.table o.call ho.c.al ho.c.ar;have e1:xoE p c o=defE p o.table o.call:=by simp [xoE,z4]
  have e2:(if defE p o.table o.call=0 then defC c o.table o.call else c)=xoC p c o:=by simp [xoC,e1,xoD,z4]
  have e3:xoI p c o=0:=by simp [xoI,z1]
  rw [e2,← e1] at h;rw [e3,hR,hC] at*;simp only [Prg.e,ActionCall.ce] at h;simp [c_190,Prg.e,TableOp.ce2,z4,h,hs,hs2,hq,hq2]
 ·have e1:xoE p c o=11:=by simp [xoE,z1,z2,z3,z4]
  have e2:xoC p c o=c:=by simp [xoC,e1]
  have e3:xoI p c o=0:=by simp [xoI,z1]
  rw [e1,e2,e3,hC];simp [c_190,Prg.e,TableOp.ce2,z1,z2,z3,z4,hq,hq2]
def cfgN (p:Prg) (c:Config) (l:List TableOp) (i:Nat):Config:=xoF p c (l.take i)
def idN (p:Prg) (c:Config) (l:List TableOp) (i:Nat):Int:=match l[i]? with
 | some o=>xoI p (cfgN p c l i) o
 | none=>0
def badF (p:Prg):Config→List TableOp→Nat→Option (Nat×Int)
 | _,[],_=>none
 | c,o::l,i=>if xoE p c o=0 then badF p (xoC p c o) l (i+1) else some (i,xoE p c o)
theorem qha (p:Prg) (c:Config) (l:List TableOp):cfgN p c l 0=c:=by simp [cfgN,xoF]
theorem qg9 (p:Prg) (c:Config) (l:List TableOp) {i:Nat} (h:i<l.length):cfgN p c l (i+1)=xoC p (cfgN p c l i) l[i]:=by
 simp only [cfgN,xoF,List.take_succ_eq_append_getElem h,List.foldl_append,List.foldl_cons,List.foldl_nil]
theorem qje {p:Prg} {c:Config} (v:CfgV p c) (s:CfgT c) (hp:p.tables.length<2^40) (l:List TableOp) (hl:∀o∈l,OpS o):∀i,CfgV p (cfgN p c l i)∧CfgT (cfgN p c l i)
 | 0=>by rw [qha];exact ⟨v,s⟩
 | i+1=>by
  have ih:=qje v s hp l hl i;by_cases h:i<l.length
  ·rw [qg9 p c l h];exact ⟨qy6 ih.1 _,xoC_t ih.1 ih.2 hp _ (hl _ (List.getElem_mem h))⟩
  ·have:cfgN p c l (i+1)=cfgN p c l i:=by
    unfold cfgN;rw [List.take_of_length_le (by omega),List.take_of_length_le (by omega)]
   rw [this];exact ih
def ql5 (p:Prg) (c:Config) (l:List TableOp) (i:Nat):List AV:=[.slice 4 ((List.range (i+1)).map fun j=>Config.c (cfgN p c l j)),.slice 1 ((List.range i).map fun j=>cI (idN p c l j))]
def noH:List AV:=[.slice 4 [],.slice 1 []]
def ql6 (p:Prg) (c:Config) (l:List TableOp) (i:Nat):List AV:=[.fslice 4 ((List.range (i+1)).map fun j=>Config.c (cfgN p c l j)),.fslice 1 ((List.range i).map fun j=>cI (idN p c l j))]
def runA (p:Prg) (c:Config) (l:List TableOp):Rt:=
 if cfgE p c≠0 then .val (.tup [.agg noH,.int .i64 (-1),.int .i64 (cfgE p c)])
 else if 64<l.length then .val (.tup [.agg noH,.int .i64 (-1),.int .i64 12])
 else match badF p c l 0 with
  | some (k,e)=> .val (.tup [.agg noH,.int .i64 k,.int .i64 e])
  | none=> .val (.tup [.agg (ql5 p c l l.length),.int .i64 0,.int .i64 0])
theorem qaep (p:Prg) (f:PrgS p) (hv:∀t∈p.tables,∀v∈t.dflt.args,ok32 0 v) (hc:(pre p.control).length<2^40 - 1) (hp:p.tables.length<2^40) {c:Config} (s:CfgT c) (l:List TableOp) (hll:l.length<2^40) (hl:∀o∈l,OpS o):
  qab Φ f_109 [.agg (Prg.c p),.agg (Config.c c),.slice 9 (l.map TableOp.c)]=some (runA p c l):=by
 rw [qaa (fn:=c_109) rfl rfl];have hk:=qaam p f hv hc c s;obtain ⟨q0,q1,q2,q3,hC,hq,hq2⟩:=cfg4 c;by_cases z:cfgE p c=0
 case neg=>
  have hR:runA p c l= .val (.tup [.agg noH,.int .i64 (-1),.int .i64 (cfgE p c)]):=by simp [runA,z]
  rw [hR];rw [hC] at hk ⊢;simp only [Prg.e] at hk;simp [c_109,Prg.e,hk,hq,hq2,z,noH]
 have v:=(qft p c).1 z;by_cases z2:64<l.length
 ·have hR:runA p c l= .val (.tup [.agg noH,.int .i64 (-1),.int .i64 12]):=by simp [runA,z,z2]
  rw [hR];rw [hC] at hk ⊢;have z3:(64:Int)<(l.length:Int):=by omega
  simp only [Prg.e] at hk;simp [c_109,Prg.e,hk,hq,hq2,z,z3,noH]
 generalize hR:runA p c l=R;have z3:¬(64:Int)<(l.length:Int):=by omega
 rw [hC] at hk ⊢;simp only [Prg.e] at hk;simp [c_109,Prg.e,hk,hq,hq2,z,z3];have h0:ql6 p c l 0=[.fslice 4 [[q0,q1,q2,q3]],.fslice 1 []]:=by simp [ql6,qha,hC]
 rw [← h0];refine qey l.length (fun i e h=>(∃n,2≤n∧((h=⟨[(0,.row 2 [[.fslice 4 [],.fslice 1 []]]),(1,.row 2 [ql6 p c l i])],n⟩)∨∃A B,2≤A∧A<B∧B<n∧h=⟨[(0,.row 2 [[.fslice 4 [],.fslice 1 []]]),(1,.row 2 [[.app 4 ((List.range (i+1)).map fun j=>Config.c (cfgN p c l j)) A,.app 1 ((List.range i).map fun j=>cI (idN p c l j)) B]]),(A,.tok 4 (i+1)),(B,.tok 1 i)],n⟩))∧badF p c l 0=badF p (cfgN p c l i) (l.drop i) i∧look 2 e=some (.slice 9 (l.map TableOp.c))∧look 3 e=some (.iptr 9 [Prg.c p] 0 0)∧look 6 e=some (.ptr 0 2 0 0)∧look 10 e=some (.ptr 1 2 0 0)∧look 11 e=some (.int .i64 i)) (fun _=>some R) ?_ ?_ 0 _ _ (Nat.zero_le _) ?_
 ·rintro i e h L hi hL ⟨⟨n,hn,hh⟩,hb,e2,e3,e6,e10,e11⟩ ih;obtain ⟨vi,si⟩:=qje v s hp l hl i;have hx:=qaas f hv vi si l[i] (hl _ (List.getElem_mem hi));obtain ⟨r0,r1,r2,r3,hD,hr,hr2⟩:=cfg4 (cfgN p c l i);obtain ⟨s0,s1,s2,s3,hE,hs,hs2⟩:=cfg4 (xoC p (cfgN p c l i) l[i]);rw [hD,hE] at hx;have h1:(i:Int)<(i:Int)+1:=by omega
  have hw:IntKind.wrap .i64 ((i:Int)+1)=((i+1:Nat):Int):=qac (by omega) (by omega);have hm:(List.map (fun j=>Config.c (cfgN p c l j)) (List.range (i+1)))[i]? =some [r0,r1,r2,r3]:=by simp [hD]
  have t0:∀k,¬(n+k=0):=fun k=>by omega
  have t1:∀k,¬(n+k=1):=fun k=>by omega
  have t2:¬n=0:=by omega
  have t3:¬n=1:=by omega
  have hb2:badF p (cfgN p c l i) (l.drop i) i=if xoE p (cfgN p c l i) l[i]=0 then badF p (xoC p (cfgN p c l i) l[i]) (l.drop (i+1)) (i+1) else some (i,xoE p (cfgN p c l i) l[i]):=by
   rw [List.drop_eq_getElem_cons hi,badF]
  rw [hb2] at hb;generalize hml:List.map (fun j=>Config.c (cfgN p c l j)) (List.range (i+1))=ml at hm;have hmi:i<ml.length:=by rw [← hml];simp
  have hlen:ml.length=i+1:=by rw [← hml];simp
  have h96:(i+1+1)*96≤70368744177664:=by omega
  have h8:(i+1)*8≤70368744177664:=by omega
  generalize hil:List.map (fun j=>cI (idN p c l j)) (List.range i)=il;have hill:il.length=i:=by rw [← hil];simp
  have hm':ml[i]=[r0,r1,r2,r3]:=by rw [List.getElem?_eq_getElem hmi] at hm;exact Option.some.inj hm
  simp only [Prg.e,TableOp.ce2] at hx;by_cases zi:xoE p (cfgN p c l i) l[i]=0
  ·rw [if_pos zi,← qg9 p c l hi] at hb;rw [zi] at hx;have hr1:List.map (fun j=>Config.c (cfgN p c l j)) (List.range (i+1+1))=ml++[[s0,s1,s2,s3]]:=by
    rw [List.range_succ,List.map_append,hml,List.map_singleton,qg9 p c l hi,hE]
   have hr2':List.map (fun j=>cI (idN p c l j)) (List.range (i+1))=il++[[.int .i64 (xoI p (cfgN p c l i) l[i])]]:=by
    rw [List.range_succ,List.map_append,hil,List.map_singleton];simp [idN,hi,cI]
   rcases hh with rfl | ⟨A,B,hA,hAB,hBn,rfl⟩
   ·simp [c_109_l0,e2,e3,e10,e11,hi,ql6,hml,hil,hill,hlen,h1,hm',Prg.e,hx,hr,hr2,hs,hs2,TableOp.ce2,t2,hw,h96,h8];refine ih _ _ ⟨⟨n+12+1+1+1,by omega,.inr ⟨n+12+1,n+12+1+1,by omega,by omega,by omega,by rw [hr1,hr2']⟩⟩,hb,?_⟩;simp [e2,e3,e6,e10]
   ·have g0:¬A=0:=by omega
    have g1:¬A=1:=by omega
    have g2:¬B=0:=by omega
    have g3:¬B=1:=by omega
    have g4:¬B=A:=by omega
    have g5:∀k,¬(n+k=A):=fun k=>by omega
    have g6:∀k,¬(n+k=B):=fun k=>by omega
    have g7:¬n=A:=by omega
    have g8:¬n=B:=by omega
    have i0:¬0=A:=by omega
    have i1:¬1=A:=by omega
    have i2:¬0=B:=by omega
    have i3:¬1=B:=by omega
    have i4:¬A=B:=by omega
    have g9:∀k,¬(A=n+k):=fun k=>by omega
    have g10:∀k,¬(B=n+k):=fun k=>by omega
    simp [c_109_l0,e2,e3,e10,e11,hi,hml,hil,hill,hlen,h1,hm',Prg.e,hx,hr,hr2,hs,hs2,TableOp.ce2,t2,hw,h96,h8,g9,g10,i0,i1,i2,i3,i4];refine ih _ _ ⟨⟨n+12+1,by omega,.inr ⟨A,B,hA,hAB,by omega,by rw [hr1,hr2']⟩⟩,hb,?_⟩;simp [e2,e3,e6,e10]
  ·rw [if_neg zi] at hb;have hR':R= .val (.tup [.agg noH,.int .i64 i,.int .i64 (xoE p (cfgN p c l i) l[i])]):=by
    rw [← hR];simp [runA,z,z2,hb]
   rw [hR'];rcases hh with rfl | ⟨A,B,hA,hAB,hBn,rfl⟩
   ·simp [c_109_l0,e2,e3,e6,e10,e11,hi,ql6,hml,hil,hlen,h1,hm',Prg.e,hx,hr,hr2,hs,hs2,TableOp.ce2,zi,t2,noH]
   ·have g0:¬A=0:=by omega
    have g1:¬A=1:=by omega
    have g2:¬B=0:=by omega
    have g3:¬B=1:=by omega
    have g4:¬B=A:=by omega
    have g5:∀k,¬(n+k=A):=fun k=>by omega
    have g6:∀k,¬(n+k=B):=fun k=>by omega
    have g7:¬n=A:=by omega
    have g8:¬n=B:=by omega
    have i0:¬0=A:=by omega
    have i1:¬1=A:=by omega
    have i2:¬0=B:=by omega
    have i3:¬1=B:=by omega
    have i4:¬A=B:=by omega
    have g9:∀k,¬(A=n+k):=fun k=>by omega
    have g10:∀k,¬(B=n+k):=fun k=>by omega
    simp [c_109_l0,e2,e3,e6,e10,e11,hi,hml,hil,hlen,h1,hm',Prg.e,hx,hr,hr2,hs,hs2,TableOp.ce2,zi,t2,noH,g9,g10]
 ·rintro e h L hL ⟨⟨n,hn,hh⟩,hb,e2,e3,e6,e10,e11⟩;have hR':R= .val (.tup [.agg (ql5 p c l l.length),.int .i64 0,.int .i64 0]):=by
   rw [← hR];simp [runA,z,z2,hb,badF]
  rw [hR'];rcases hh with rfl | ⟨A,B,hA,hAB,hBn,rfl⟩
  ·simp [c_109_l0,c_109_k1,e2,e6,e10,e11,hL,ql6,ql5]
  ·simp [c_109_l0,c_109_k1,e2,e6,e10,e11,hL,ql5]
 ·refine ⟨⟨2,Nat.le_refl _,.inl rfl⟩,?_⟩;simp [qha,Prg.e]
end Go.Av
