/-
 Running the difference of two tables.
-/
import Derived.Test.YtakklbipljodeaaGreatD1
set_option linter.unusedVariables false
set_option linter.unusedSimpArgs false
set_option linter.constructorNameAsVariable false
namespace Go.Av
set_option maxRecDepth 4000
theorem qzk {c:Config} {t:Nat} (h:t<c.nextID.length) (R:List (List Rw)) (x:Int) (D:List ActionCall) (G:List (List Int)):qbr ⟨R,c.nextID.set t x,D,G⟩ t=x:=by
 unfold qbr;rw [setA h,if_pos rfl];rfl
theorem qzy {c:Config} {t:Nat} (h:t<c.rows.length) (N:List Int) (x:List Rw) (D:List ActionCall) (G:List (List Int)):qak ⟨c.rows.set t x,N,D,G⟩ t=x:=by
 unfold qak;rw [setA h,if_pos rfl];rfl
theorem qad8 {p:Prg} {c:Config} {t:Nat} (ht:t<p.tables.length) {r:Rw} (h1:entE p t r.entry=0) (h2:(qak c t).any (fun y=>sk y.entry r.entry)=false) (h3:((qak c t).length:Int)<qh5 p t) (h4:qbr c t<1073741824):
  xoE p c (insO t r)=0/\xoC p c (insO t r)=⟨c.rows.set t (qak c t++[⟨qbr c t,r.entry⟩]),c.nextID.set t (qbr c t+1),c.defaults,c.registers⟩:=by
 have he:xoE p c (insO t r)=0:=by
  unfold xoE insO insE;simp only [if_true,qdu ht,Bool.true_eq_false,if_false,h1,ne_eq,not_true,h2,Bool.false_eq_true];rw [if_neg (by omega)]
 refine ⟨he,?_⟩;unfold xoC;rw [if_pos he];simp only [xoD,insO,insC,if_true,Int.toNat_natCast]
theorem qyh {p:Prg} {t:Nat} (ht:t<p.tables.length):∀(z:List Rw) (c:Config) (w:List Rw),CfgV p c->enR (qak c t)=enR w->(w++z).Pairwise (fun a b=>sk a.entry b.entry=false)->(∀r∈z,entE p t r.entry=0)->((w++z).length:Int)<=qh5 p t->qbr c t+z.length<=1073741824->
  okF p c (z.map (insO t))/\∃R nx,xoF p c (z.map (insO t))=⟨c.rows.set t R,c.nextID.set t nx,c.defaults,c.registers⟩/\enR R=enR (w++z)
 | [],c,w,v,h,_,_,_,_=>by
  refine ⟨trivial,qak c t,qbr c t,?_,by rw [h];simp⟩;rw [qaz (by rw [v.rl];exact ht),qep (by rw [v.nl];exact ht)];simp [xoF]
 | r::z,c,w,v,h,hu,he,hs,hn=>by
  have l1:t<c.rows.length:=by rw [v.rl];exact ht
  have l2:t<c.nextID.length:=by rw [v.nl];exact ht
  have hlen:(qak c t).length=w.length:=by simpa [enR] using congrArg List.length h
  simp only [List.length_append,List.length_cons] at hs hn;have hany:(qak c t).any (fun y=>sk y.entry r.entry)=false:=by
   have e1:(qak c t).any (fun y=>sk y.entry r.entry)=(enR (qak c t)).any (fun y=>sk y r.entry):=by simp [enR,List.any_map,Function.comp_def]
   rw [e1,h,List.any_eq_false];intro y hy;obtain ⟨q,hq,rfl⟩:=List.mem_map.1 hy;rw [List.pairwise_append] at hu;rw [hu.2.2 q hq r (by simp)];decide
  obtain ⟨s1,s2⟩:=qad8 (c:=c) ht (he r (by simp)) hany (by omega) (by omega);have ih:=qyh ht z (xoC p c (insO t r)) (w++[r]) (qi8 v _) (by
   rw [s2,qzy l1];unfold enR at h ⊢;simp [h]) (by simpa using hu) (fun q hq=>he q (by simp [hq])) (by simp;omega) (by rw [s2,qzk l2];omega)
  obtain ⟨i1,R,nx,i2,i3⟩:=ih;refine ⟨⟨s1,i1⟩,R,nx,?_,by rw [i3];simp⟩;rw [List.map_cons,qi9,i2,s2];simp
theorem qv9 {p:Prg} {c:Config} {t:Nat} (ht:t<p.tables.length) {x:ActionCall} (hx:qa7 p t x=0):xoE p c (setO t x)=0/\xoC p c (setO t x)=⟨c.rows,c.nextID,c.defaults.set t x,c.registers⟩:=by
 have he:xoE p c (setO t x)=0:=by
  simp [xoE,setO,defE,qdu ht,hx]
 refine ⟨he,?_⟩;unfold xoC;rw [if_pos he];simp [xoD,setO,defC]
theorem qaip {p:Prg} {t:Nat} (ht:t<p.tables.length) {c b:Config} (v:CfgV p c) (vb:CfgV p b) (hn:qbr c t+insN (tabG t (qak c t) (qak b t) (qa9 c t) (qa9 b t)) t<=1073741824):
  okF p c (tabG t (qak c t) (qak b t) (qa9 c t) (qa9 b t))/\∃R nx,xoF p c (tabG t (qak c t) (qak b t) (qa9 c t) (qa9 b t))=⟨c.rows.set t R,c.nextID.set t nx,c.defaults.set t (qa9 b t),c.registers⟩/\enR R=enR (qak b t):=by
 have l1:t<c.rows.length:=by rw [v.rl];exact ht
 have l2:t<c.nextID.length:=by rw [v.nl];exact ht
 have l3:t<c.defaults.length:=by rw [v.dl];exact ht
 have b1:t<b.rows.length:=by rw [vb.rl];exact ht
 have b3:t<b.defaults.length:=by rw [vb.dl];exact ht
 have tv:=vb.at ht;have hux:(qak c t).Pairwise fun x y=>sk x.entry y.entry=false:=by rw [qaz l1];exact (v.at ht).uniq
 have huy:(qak b t).Pairwise fun x y=>sk x.entry y.entry=false:=by rw [qaz b1];exact tv.uniq
 have hey:∀r∈qak b t,entE p t r.entry=0:=by rw [qaz b1];exact tv.ent
 have hsz:((qak b t).length:Int)<=qh5 p t:=by rw [qaz b1,qil ht];exact tv.size
 have hdb:qa7 p t (qa9 b t)=0:=by
  have:=tv.dflt;simpa [qa9,Qa b3] using this
 have hdc:c.defaults.set t (qa9 c t)=c.defaults:=by
  simp [qa9,Qa l3]
 generalize hx:qak c t=x at*;generalize hy:qak b t=y at*;generalize hd:qa9 c t=dc at*;generalize hd2:qa9 b t=db at*;have hkl:=qhy x y 0;have hkg:=qi2 x y 0;have hki:=qmd x y 0;have hkq:=qmc x y 0;have hins:insN (tabG t x y dc db) t=(y.drop (qbi x 0 y).length).length:=by
  have h4:∀o∈(if dc=db then [] else [setO t db]),o.kind≠1:=by
   intro o ho;split at ho
   ·simp at ho
   ·simp at ho;subst ho;simp [setO]
  unfold tabG;rw [qk5,qk5,qk5,qmb (qm1 t x 0 _),qmb (qnd t x _ y),qmb h4,qad7,if_pos rfl];omega
 rw [hins] at hn;unfold tabG;generalize qbi x 0 y=ks at*;obtain ⟨d1,d2⟩:=qnk ht x 0 ks c [] v (by simpa using hx);have hpg:=qop x 0 ks hki fun s hs=>⟨Qc _,by have:=(hkg s hs).2;omega⟩
 simp only [Nat.sub_zero] at hpg;generalize hP:pick x 0 ks=P at*;simp only [List.nil_append] at d2;have hPl:P.length=ks.length:=by simpa using congrArg List.length hpg
 have hsk:∀k (h:k<P.length) (h2:k<y.length),sk P[k].entry y[k].entry=true:=by
  intro k h h2;have hk:k<ks.length:=by omega
  have ha:=hkq k hk h2;obtain ⟨hi,hs,_⟩:=List.findIdx?_eq_some_iff_getElem.1 ha;have hg:=congrArg (fun l=>l[k]?) hpg;simp only [List.getElem?_map,Qa h,Qa hk,Option.map_some,Option.some.injEq] at hg;rw [Qa hi] at hg;rw [Option.some.inj hg];exact hs
 obtain ⟨m1,P',m2,m3⟩:=qrr ht P y (xoF p c (delG t x 0 ks)) [] (qh9 _ v) (by rw [d2,qfv l1];simp) (by omega) hsk fun r hr=>qag5 (qdu ht) (hey r hr)
 rw [<- qabz t x ks P y hpg] at m1 m2;simp only [List.nil_append,d2,qli] at m2;rw [hPl] at m3;have vm:CfgV p (xoF p (xoF p c (delG t x 0 ks)) (modG t x ks y)):=qh9 _ (qh9 _ v);rw [d2,m2] at vm;rw [d2] at m1;have hns:qbr (setR c t P') t=qbr c t:=rfl;obtain ⟨i1,R,nx,i2,i3⟩:=qyh ht (y.drop ks.length) (setR c t P') (y.take ks.length) vm (by rw [qfv l1];exact m3) (by rw [List.take_append_drop];exact huy) (fun r hr=>hey r (List.mem_of_mem_drop hr)) (by rw [List.take_append_drop];exact hsz) (by rw [hns];exact hn);rw [List.take_append_drop] at i3;have vi:CfgV p (xoF p (setR c t P') ((y.drop ks.length).map (insO t))):=qh9 _ vm;have hall:xoF p c (delG t x 0 ks++(modG t x ks y++((y.drop ks.length).map (insO t)++(if dc=db then [] else [setO t db]))))=⟨c.rows.set t R,c.nextID.set t nx,c.defaults.set t db,c.registers⟩:=by
  rw [qno,d2,qno,m2,qno,i2];by_cases q:dc=db
  ·rw [if_pos q];subst q;simp [xoF,setR,hdc]
  ·rw [if_neg q,qi9,(qv9 ht hdb).2];simp [xoF,setR]
 refine ⟨qkl p _ _ _ d1 ?_,R,nx,hall,i3⟩;rw [d2];refine qkl p _ _ _ m1 ?_;rw [m2];refine qkl p _ _ _ i1 ?_;split
 ·trivial
 ·exact ⟨(qv9 ht hdb).1,trivial⟩
theorem qaa3 {c:Config} {t:Nat} (h:t<c.defaults.length) (R:List (List Rw)) (N:List Int) (x:ActionCall) (G:List (List Int)) (s:Nat):qa9 ⟨R,N,c.defaults.set t x,G⟩ s=if s=t then x else qa9 c s:=by
 unfold qa9;rw [setA h];split<;>rfl
theorem quy {p:Prg} {a b:Config} {n:Nat}:∀m,n<m->insN (tabG n (qak a n) (qak b n) (qa9 a n) (qa9 b n)) n<=insN (opsD p a b m) n
 | 0,h=>by omega
 | m+1,h=>by
  rw [opsD,qk5];by_cases q:n=m
  ·subst q;omega
  ·have:=quy (p:=p) (a:=a) (b:=b) m (n:=n) (by omega);omega
theorem qyg {p:Prg} {a b:Config} (va:CfgV p a) (vb:CfgV p b) (hf:qgn p a (opsD p a b p.tables.length)=false):∀n,n<=p.tables.length->okF p a (opsD p a b n)/\
  (∀s,s<n->enR (qak (xoF p a (opsD p a b n)) s)=enR (qak b s)/\qa9 (xoF p a (opsD p a b n)) s=qa9 b s)/\
  (∀s,n<=s->qak (xoF p a (opsD p a b n)) s=qak a s/\qbr (xoF p a (opsD p a b n)) s=qbr a s/\qa9 (xoF p a (opsD p a b n)) s=qa9 a s)/\(xoF p a (opsD p a b n)).registers=a.registers
 | 0,_=>by
  refine ⟨trivial,fun s hs=>absurd hs (by omega),fun s _=>⟨rfl,rfl,rfl⟩,rfl⟩
 | n+1,hn=>by
  obtain ⟨i1,i2,i3,i4⟩:=qyg va vb hf n (by omega);have ht:n<p.tables.length:=by omega
  have vc:CfgV p (xoF p a (opsD p a b n)):=qh9 _ va;obtain ⟨e1,e2,e3⟩:=i3 n (Qb _);have hlt:=quy (p:=p) (a:=a) (b:=b) (n:=n) p.tables.length ht;have hnx:qbr a n+insN (tabG n (qak a n) (qak b n) (qa9 a n) (qa9 b n)) n<=1073741824:=by
   unfold qgn at hf;have:=List.any_eq_false.1 hf n (by simpa using ht);simp only [decide_eq_true_eq] at this;omega
  have hrun:=qaip ht vc vb (by rw [e1,e2,e3];exact hnx);rw [e1,e3] at hrun;obtain ⟨r1,R,nx,r2,r3⟩:=hrun;rw [opsD];generalize hc:xoF p a (opsD p a b n)=c at*;have l1:n<c.rows.length:=by rw [vc.rl];exact ht
  have l2:n<c.nextID.length:=by rw [vc.nl];exact ht
  have l3:n<c.defaults.length:=by rw [vc.dl];exact ht
  have hx:xoF p a (opsD p a b n++tabG n (qak a n) (qak b n) (qa9 a n) (qa9 b n))=⟨c.rows.set n R,c.nextID.set n nx,c.defaults.set n (qa9 b n),c.registers⟩:=by
   rw [qno,hc,r2]
  have hr:∀s:Nat,qak (xoF p a (opsD p a b n++tabG n (qak a n) (qak b n) (qa9 a n) (qa9 b n))) s=if s=n then R else qak c s:=by
   intro s;rw [hx];unfold qak;rw [setA l1];split<;>rfl
  have hd:∀s:Nat,qa9 (xoF p a (opsD p a b n++tabG n (qak a n) (qak b n) (qa9 a n) (qa9 b n))) s=if s=n then qa9 b n else qa9 c s:=by
   intro s;rw [hx,qaa3 l3]
  have hnn:∀s:Nat,s≠n->qbr (xoF p a (opsD p a b n++tabG n (qak a n) (qak b n) (qa9 a n) (qa9 b n))) s=qbr c s:=by
   intro s hs;rw [hx];unfold qbr;rw [setA l2,if_neg hs]
  refine ⟨qkl p _ _ _ i1 (by rw [hc];exact r1),?_,?_,?_⟩
  ·intro s hs;rw [hr,hd];by_cases q:s=n
   ·subst q;rw [if_pos rfl,if_pos rfl];exact ⟨r3,rfl⟩
   ·rw [if_neg q,if_neg q];exact i2 s (by omega)
  ·intro s hs;rw [hr,hd,hnn s (by omega),if_neg (by omega),if_neg (by omega)];exact i3 s (by omega)
  ·rw [hx];exact i4
theorem qads {p:Prg} {a b:Config} (va:CfgV p a) (vb:CfgV p b) (hf:qgn p a (opsD p a b p.tables.length)=false):okF p a (opsD p a b p.tables.length)/\opsD p (xoF p a (opsD p a b p.tables.length)) b p.tables.length=[]/\qhl (xoF p a (opsD p a b p.tables.length)) (mv a b)=true:=by
 obtain ⟨h1,h2,_,h4⟩:=qyg va vb hf _ (Qb _);have vd:CfgV p (xoF p a (opsD p a b p.tables.length)):=qh9 _ va;have hn:=(qoo vd vb _ (Qb _)).2 h2;refine ⟨h1,hn,?_⟩;have he:=(qah8 vd vb).1 hn;unfold qhl mv at he ⊢;rw [Bool.and_eq_true,Bool.and_eq_true] at he ⊢;exact ⟨he.1,he.2.1,decide_eq_true h4⟩
theorem qw1 (p:Prg) (a b:Config):(∃E:Int,E≠0/\qeb p a b= .tup [.slice 9 [],.int .i64 E])\/(CfgV p a/\CfgV p b/\(opsD p a b p.tables.length).length<=64/\qgn p a (opsD p a b p.tables.length)=false/\qeb p a b= .tup [.slice 9 ((opsD p a b p.tables.length).map TableOp.c),.int .i64 0]):=by
 by_cases z1:cfgE p a=0
 rotate_left
 ·exact .inl ⟨_,z1,by unfold qeb;rw [if_pos z1]⟩
 by_cases z2:cfgE p b=0
 rotate_left
 ·exact .inl ⟨_,z2,by unfold qeb;rw [if_neg (by simpa using z1),if_pos z2]⟩
 by_cases z3:64<(opsD p a b p.tables.length).length
 ·exact .inl ⟨12,by decide,by unfold qeb;rw [if_neg (by simpa using z1),if_neg (by simpa using z2),if_pos z3]⟩
 cases z4:qgn p a (opsD p a b p.tables.length) with
 | true=>exact .inl ⟨13,by decide,by unfold qeb;rw [if_neg (by simpa using z1),if_neg (by simpa using z2),if_neg z3,z4];rfl⟩
 | false=>
  have va:=(qcv p a).1 z1;have vb:=(qcv p b).1 z2;exact .inr ⟨va,vb,by omega,rfl,que va vb rfl (by omega) z4⟩
theorem qj3 (p:Prg) (a b:Config) (op:p.Ok qa6) (oa:a.Ok qa6) (ob:b.Ok qa6):
  qab Φ f_10 [.agg (Prg.c p),.agg (Config.c a),.agg (Config.c b)]=some (.val (.bool true)):=by
 have f:=qj4 op;have sa:=qqg oa;have sb:=qqg ob;obtain ⟨w,hb,hb2⟩:=qsy p a op;have hsb:=qj5 b;rw [qaa (fn:=c_10) rfl rfl];cases w with
 | false=>
  simp only [Prg.e,Config.ce] at hb;simp [c_10,Prg.e,Config.ce,hb,qnm]
 | true=>
 cases b2:qgv b with
 | false=>
  rw [b2] at hsb;simp only [Prg.e,Config.ce] at hb hsb;simp [c_10,Prg.e,Config.ce,hb,hsb,qnm]
 | true=>
 rw [b2] at hsb;have hc:(pre p.control).length<2^40 - 1:=by have:=(hb2 rfl).1;omega
 have hp:p.tables.length<2^26:=by have:=op.2.2.2.2.2.1.1;have:=qdo;omega
 have k1:=qxt p f hc hp sa sb;rcases qw1 p a b with ⟨E,hE,h⟩ | ⟨va,vb,h64,hf,h⟩
 ·rw [h] at k1;simp only [Prg.e,Config.ce] at hb hsb k1;simp [c_10,Prg.e,Config.ce,hb,hsb,k1,hE,qnm]
 obtain ⟨r1,r2,r3⟩:=qads va vb hf;have hl:=qab7 va vb sb _ (Qb p.tables.length);have vd:CfgV p (xoF p a (opsD p a b p.tables.length)):=qh9 _ va;rw [h] at k1;generalize opsD p a b p.tables.length=L at*;have hN:cfgN p a L L.length=xoF p a L:=by unfold cfgN;rw [List.take_length]
 have hA:badA p a L=none:=by
  unfold badA;rw [if_neg (by simpa using (qcv p a).2 va),if_neg (by omega),qtz p a L 0 r1];rfl
 have sd:=(qip va sa f.t L hl L.length).2;have k2:=qadd p op hc f.t sa L hl;rw [show appA p a L= .tup [.agg (Config.c (cfgN p a L L.length)),.slice 1 (idsA p a L),.int .i64 0,.int .i64 0] by simp only [appA,hA];rfl] at k2;rw [hN] at k2 sd;have k3:=qxt p f hc hp sd sb;rw [que vd vb r2 (by simp) (qad1 vd)] at k3;have km:=qaef a b;have kq:=qq7 (xoF p a L) (mv a b) (qagb sd);rw [r3] at kq;generalize idsA p a L=il at k2;generalize xoF p a L=d at k2 k3 kq;simp only [Prg.e,Config.ce,mv] at hb hsb k1 k2 k3 km kq;simp [c_10,Prg.e,Config.ce,hb,hsb,k1,k2,k3,km,kq,qnm]
end Go.Av
