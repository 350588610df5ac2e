/-
 Insert adds a row.
-/
import Derived.Test.YtakklbipljodeaaGreatH7
set_option linter.unusedVariables false
set_option linter.unusedSimpArgs false
set_option linter.constructorNameAsVariable false
namespace Go.Av
set_option maxRecDepth 4000
theorem qahy (r:Rw) (x:Entry) (hb:r.entry.keys.length<2^40):qab Φ f_88 [.agg (Rw.c r),.iptr 4 [Entry.c x] 0 0]=some (.val (.bool (sk r.entry x))):=by
 rw [qaa (fn:=c_88) rfl rfl];have h:=qzj r.entry x hb;simp [c_88,Rw.ce,Entry.ce,h]
theorem qab0 (l:List Rw) (x:Entry) (hl:l.length<2^40) (hs:∀r∈l,r.entry.keys.length<2^40):qab Φ f_181 [.slice 5 (l.map Rw.c),.func (.func f_88) [] [.iptr 4 [Entry.c x] 0 0]]=some (.val (.int .i64 (ix (fun r=>sk r.entry x) l 0))):=by
 rw [qaa (fn:=c_181) rfl rfl];simp [c_181];refine (qau l.length (fun i e=>look 0 e=some (.slice 5 (l.map Rw.c))/\look 1 e=some (.func (.func f_88) [] [.iptr 4 [Entry.c x] 0 0])/\look 7 e=some (.int .i64 l.length)/\look 8 e=some (.int .i64 i))
  (fun i=>some (.val (.int .i64 (ix (fun r=>sk r.entry x) l i)))) ?_ ?_ 0 _ (Qc _) ?_).trans (by simp)
 ·rintro i e L hi hL ⟨h0,h1,h7,h8⟩ ih;have hw:=qag i (by omega);have hd:=qahy l[i] x (hs _ (Qd hi));simp only [Rw.ce,Entry.ce] at hd h1;cases z:sk l[i].entry x with
  | true=>
   rw [qgn hi (by simpa using z)];rw [z] at hd;simp [c_181_l0,Rw.ce,h0,h1,h7,h8,hi,hd]
  | false=>
   rw [qfk hi (by simpa using z)];rw [z] at hd;simp [c_181_l0,Rw.ce,h0,h1,h7,h8,hi,hd,hw];exact ih _ ⟨by simp [h0],by simp [h1,Entry.ce],by simp [h7],by simp⟩
 ·rintro e L hL ⟨h0,h1,h7,h8⟩;rw [qgm];simp [c_181_l0,c_181_k1,h7,h8,hL]
 ·simp
theorem qabn (l:List Rw) (x:Entry) (hl:l.length<2^40) (hs:∀r∈l,r.entry.keys.length<2^40):qab Φ f_87 [.slice 5 (l.map Rw.c),.func (.func f_88) [] [.iptr 4 [Entry.c x] 0 0]]=some (.val (.bool (l.any fun r=>sk r.entry x))):=by
 rw [qaa (fn:=c_87) rfl rfl];have h:=qab0 l x hl hs;simp only [Entry.ce] at h;rw [<- qiq];simp [c_87,Entry.ce,h]
theorem qrc {O:List (Nat×AO)} {N:Nat} {S:SV} {p:Prg} {c:Config} (m:StoreM O S p c) (f:PrgS p) (v:CfgV p c) (s:CfgT c) (hT:Tail O N) (t:Int) (x:Entry) (hx:EntS x):
  MDpost N O S p (if insE p c t x=0 then insC c t x else c) (.tup [.int .i64 (if insE p c t x=0 then qcd c t else 0),.int .i64 (insE p c t x)]) (qal Φ f_33 [.ptr S.s 15 0 0,.int .i64 t,.agg (Entry.c x)] ⟨O,N⟩):=by
 rw [qbg (fn:=c_33) rfl rfl];have t0:=hT N (Qb _);have hl:=v.rl;have hk1:Kp (fun j=>S.own j\/Rs O j) N O (O++[(N,AO.row 4 [Entry.c x])]):=Kp.app (fun _ _ _=>rfl) (Qb _);have hT1:=hT.app1 (o:=AO.row 4 [Entry.c x]) (Qb N);have m1:StoreM (O++[(N,AO.row 4 [Entry.c x])]) S p c:=m.kp (X:=fun _=>False) hT (Kp.app (fun _ _ _=>rfl) (Qb _)) (by simp);have b1:look N (O++[(N,AO.row 4 [Entry.c x])])=some (.row 4 [Entry.c x]):=by rw [qah,t0];simp
 have same:insE p c t x≠0->MDpost N O S p (if insE p c t x=0 then insC c t x else c) (.tup [.int .i64 (if insE p c t x=0 then qcd c t else 0),.int .i64 (insE p c t x)]) (some (.val (.tup [.int .i64 0,.int .i64 (insE p c t x)]),⟨O++[(N,AO.row 4 [Entry.c x])],N+1⟩)):=by
  intro h;rw [if_neg h,if_neg h];exact ⟨S,_,_,rfl,m1,rfl,fun j hj=> .inl hj,hk1,hT1,by omega⟩
 have hs:=m1.se;have ht:=qiv (N:=N+1) m1 hl t;have he:=qwm p f t x hx;simp only [Prg.e] at he;simp only [Entry.ce] at b1 hs ht he same;cases z:inT p t with
 | false=>
  have hE:insE p c t x=8:=by simp [insE,z]
  rw [z] at ht;have same:=same (by rw [hE];decide);rw [hE] at same ⊢;simp [c_33,Entry.ce,t0,hs,ht];simpa using same
 | true=>
 obtain ⟨k,rfl,hk⟩:=qc6 z;have hk':k<c.rows.length:=by omega
 have hkn:k<c.nextID.length:=by rw [v.nl];exact hk
 have hrow:qbi c (k:Int)=c.rows[k]:=qbr hk';have hnx:qcd c (k:Int)=c.nextID[k]:=qfm hkn;have hsz:qm5 p (k:Int)=p.tables[k].size:=qli hk;have hE:insE p c k x=if entE p k x≠0 then entE p k x else if (c.rows[k].any fun y=>sk y.entry x)=true then 7 else if p.tables[k].size<=c.rows[k].length\/1073741824<=c.nextID[k] then 13 else 0:=by
  unfold insE;rw [z,hrow,hnx,hsz];simp
 rw [z] at ht;by_cases y:entE p k x=0
 rotate_left
 ·rw [if_pos y] at hE;have same:=same (by rw [hE];exact y);rw [hE] at same ⊢;simp [c_33,Entry.ce,t0,hs,ht,b1,he,y];simpa [y] using same
 rw [if_neg (by simpa using y)] at hE;rw [y] at he;obtain ⟨rid,es1,e1,lr,hle1,⟨hV,g1,g5⟩,ht1⟩:=m1.tab hk';have hsl:=s.rs _ (Qd hk');have hcon:=qabn c.rows[k] x hsl.1 fun r hr=>(hsl.2 r hr).kl
 have hsnp:=fun n=>g5.snp (N:=N+1) (n:=n)
 have hsn2:∀n,snap (n+2) ⟨O++[(N,AO.row 4 [Entry.c x])],N+1⟩ S.V[k]=some (.slice 5 (c.rows[k].map Rw.c)):=fun n=>by
  rw [hsnp (n+1),qd3 (n:=n+1) (fun x=>qm6 x)];rfl
 have hsn3:=hsn2 38;rw [e1] at hs;simp only [Entry.ce] at hcon hsn3 lr;cases w:c.rows[k].any fun y=>sk y.entry x with
 | true=>
  rw [if_pos w] at hE;have same:=same (by rw [hE];decide);rw [w] at hcon;rw [hE] at same ⊢;simp [c_33,Entry.ce,t0,hs,ht,b1,he,lr,hk',g1,hsn3,hcon];simpa using same
 | false=>
 rw [if_neg (by rw [w];decide)] at hE;rw [w] at hcon;have hvl:=g5.len;rw [List.length_map] at hvl;obtain ⟨nid,esn,e2,ln,hle2,ht2⟩:=m1.cm.n.nonempty (by simp;omega);rw [List.length_map] at e2 hle2;have gn:=qfi hkn ht2;rw [cIe] at gn;rw [e2] at hs;simp only [Entry.ce] at ln;have hkt:=hk;by_cases u:p.tables[k].size<=c.rows[k].length
 ·rw [if_pos (.inl u)] at hE;have same:=same (by rw [hE];decide);rw [hE] at same ⊢;simp [c_33,Entry.ce,Tbl.e,t0,hs,ht,b1,he,lr,hk',g1,hsn3,hcon,hvl,ln,hkn,gn,hkt,u,-lenOf];simpa using same
 by_cases q:1073741824<=c.nextID[k]
 ·rw [if_pos (.inr q)] at hE;have same:=same (by rw [hE];decide);rw [hE] at same ⊢;simp [c_33,Entry.ce,Tbl.e,t0,hs,ht,b1,he,lr,hk',g1,hsn3,hcon,hvl,ln,hkn,gn,hkt,u,q,-lenOf];simpa using same
 rw [if_neg (by omega)] at hE;rw [hE];have hM:=m1.x.len;obtain ⟨iid,esi,e3,li,hle3,hMk,gi,lm⟩:=m1.idx hk';rw [e3] at hs;simp only [Entry.ce] at li lm;have hv:=v.at hk;have hput:=qol c.nextID[k] (.int .i64 (c.rows[k].length:Nat)) c.rows[k] 0 fun r hr=>by have:=hv.lt r hr;omega
 rw [show qeb c.rows[k] 0=ents c.rows[k] from rfl] at hput;have hce:=qrh x hx.al hx.kl;simp only [Entry.ce] at hce;simp [c_33,Entry.ce,Tbl.e,t0,hs,ht,b1,he,lr,hk',g1,hsn3,hcon,hvl,ln,hkn,gn,hkt,u,q,li,lm,gi,hput,-lenOf,-qabx];generalize hO2:setl S.M[k] (AO.map (ents c.rows[k]++[(AV.int IntKind.i64 c.nextID[k],AV.int IntKind.i64 (c.rows[k].length:Nat))])) (O++[(N,AO.row 4 [[AV.slice 2 (List.map KeyMatch.c x.keys),AV.int IntKind.i64 x.priority,AV.int IntKind.i64 x.call.action,AV.slice 1 (List.map c32 x.call.args)]])])=O2;rw [<- Entry.ce] at hO2;have hlm:look S.M[k] (O++[(N,AO.row 4 [Entry.c x])])=some (.map (ents c.rows[k])):=m1.x.m k _ _ (Qa hMk) (Qa hk');have k2:∀j,j≠S.M[k]->look j O2=look j (O++[(N,AO.row 4 [Entry.c x])]):=fun j hj=>by rw [<- hO2,qad,if_neg hj]
 have hT2:Tail O2 (N+1):=by rw [<- hO2];exact qao hT1
 have kr:∀j z es,look j (O++[(N,AO.row 4 [Entry.c x])])=some (.row z es)->look j O2=some (.row z es):=fun j z es hj=>by rw [k2 j (qaw hj hlm (by simp)),hj]
 have ls2:=kr S.s _ _ (by simp only [Entry.ce];exact hs);have lr2:=kr rid _ _ (by simp only [Entry.ce];exact lr);have ln2:=kr nid _ _ (by simp only [Entry.ce];exact ln);have lb2:=kr N _ _ (by simp only [Entry.ce];exact b1);have lm2:look S.M[k] O2=some (.map (ents c.rows[k]++[(AV.int IntKind.i64 c.nextID[k],AV.int IntKind.i64 (c.rows[k].length:Nat))])):=by rw [<- hO2,qad,if_pos rfl,hlm];rfl
 clear hO2;have u0:=hT2 (N+1+112) (by omega);have fsx:=qd9 (n:=N+1+112) hT2 ls2 (by omega);have frx:=qd9 (n:=N+1+112) hT2 lr2 (by omega);have fnx:=qd9 (n:=N+1+112) hT2 ln2 (by omega);have fnb:¬N=N+1+112/\¬N+1+112=N:=by omega
 have hrn:¬rid=nid:=fun e=>m1.cm.rn rid (by rw [e1];rfl) (by rw [e2,e];rfl)
 have hnr:¬nid=rid:=fun e=>hrn e.symm
 have hwr:IntKind.wrap .i64 (c.nextID[k]+1)=c.nextID[k]+1:=qa6 (by have:=hv.nx0;omega) (by omega);have hsr:=qaw ls2 lr2 (by simp);have hsn:=qaw ls2 ln2 (by simp);have hrs:=hsr.symm;have hns:=hsn.symm;have hbeq:(S.s == N+1+112)=false:=by simp [fsx]
 have hkl1:k<es1.length:=by omega
 have hkln:k<esn.length:=by omega
 have hci:insC c (k:Int) x=⟨c.rows.set k (c.rows[k]++[⟨c.nextID[k],x⟩]),c.nextID.set k (c.nextID[k]+1),c.defaults,c.registers⟩:=by
  unfold insC;rw [hrow,hnx];simp
 have hsnoc:ents (c.rows[k]++[⟨c.nextID[k],x⟩])=ents c.rows[k]++[(AV.int IntKind.i64 c.nextID[k],AV.int IntKind.i64 (c.rows[k].length:Nat))]:=qrn _ _;have hVl:=m1.cm.rl;have fin:∀(O':List (Nat×AO)) (N':Nat) (v':AV),Tail O' N'->N<=N'->look rid O'=some (.row 1 (es1.set k [v']))->look nid O'=some (.row 1 (esn.set k [.int .i64 (c.nextID[k]+1)]))->
   (∀j,j<N+1->j≠rid->j≠nid->(∀i,vid S.V[k]=some i->j≠i)->look j O2≠some .res->look j O'=look j O2)->Mu O' 5 v' ((c.rows[k]++[Rw.mk c.nextID[k] x]).map Rw.c)->(∀z es t,v'≠ .app z es t)->(∀i,vid v'=some i->vid S.V[k]=some i\/N+1<=i)->
   MDpost N O S p (insC c (k:Int) x) (.tup [.int .i64 (qcd c (k:Int)),.int .i64 0]) (some (.val (.tup [.int .i64 c.nextID[k],.int .i64 0]),⟨O',N'⟩)):=by
  intro O' N' v' hT' hN' a1 a2 a3 a4 a5 a6;rw [hnx,hci];have own1:S.own rid:= .inr (.inl (.inl (by rw [e1];rfl)));have own2:S.own nid:= .inr (.inl (.inr (.inl (by rw [e2];rfl))));have own3:S.own S.M[k]:= .inr (.inr (.inr (Qd hMk)));have own4:∀i,vid S.V[k]=some i->S.own i:=fun i hi=> .inr (.inl (.inr (.inr (.inr ⟨_,Qd hV,hi⟩))))
  have keep:∀j,S.own j->¬S.chg k j->look j O'=look j (O++[(N,AO.row 4 [Entry.c x])]):=by
   intro j hj hc;obtain ⟨w,hw,hwn⟩:=m1.own_lk hj;have h2:look j O2=some w:=by
    rw [k2 j (fun e=>hc (.inr (.inr (.inr (.inr (by rw [e];exact Qa hMk)))))),hw]
   rw [a3 j (hT1.lt hw) (fun e=>hc (.inr (.inl (by rw [e,e1];rfl)))) (fun e=>hc (.inr (.inr (.inl (by rw [e,e2];rfl))))) (fun i hi e=>hc (.inl ⟨_,Qa hV,by rw [e];exact hi⟩)) (by rw [h2];simpa using hwn),h2,hw]
  have h5no:∀i,vid S.V[k]=some i->∃es,look i (O++[(N,AO.row 4 [Entry.c x])])=some (.row 5 es):=fun i hi=>m1.vrow (Qa hV) hi
  have up:=m1.upd (k:=k) (v':=v') (m':=S.M[k]) (l':=c.rows[k]++[⟨c.nextID[k],x⟩]) (nx:=c.nextID[k]+1) (O':=O') hk' keep
   (by
    have hmu:=Mu.upd (O':=O') (id:=rid) (z:=1) (k:=k) (es:=S.V.map fun x=>[x]) (es0:=es1) (y:=[v']) a1 (by rw [List.length_map,hVl];exact hle1) (by rw [List.length_map,hVl];exact ht1);rw [List.length_map,hVl] at hmu;rw [e1,List.map_set];exact hmu)
   (by
    have hmu:=Mu.upd (O':=O') (id:=nid) (z:=1) (k:=k) (es:=c.nextID.map cI) (es0:=esn) (y:=[.int .i64 (c.nextID[k]+1)]) a2 (by rw [List.length_map];exact hle2) ht2;rw [List.length_map] at hmu;rw [e2,List.map_set,cIe];exact hmu)
   (by
    have hmm:S.M.set k S.M[k]=S.M:=by simp
    rw [hmm];refine m1.x.i.fr fun i hi=>?_
    obtain ⟨es0,hl0⟩:=m1.x.i.own hi;have h2:=kr i _ _ hl0;rw [a3 i (hT1.lt hl0) (fun e=>m1.ri i (by rw [e,e1];rfl) hi) (fun e=>m1.ni i (by rw [e,e2];rfl) hi) (fun i' hi' e=>by obtain ⟨es5,h5⟩:=h5no i' hi';exact qaw hl0 h5 (by simp) e) (by rw [h2];simp),h2,hl0])
   a4
   (by
    rw [hsnoc,<- lm2];refine a3 _ (hT1.lt hlm) (fun e=>?_) (fun e=>?_) (fun i hi e=>?_) (by rw [lm2];simp)
    ·exact qaw lm2 lr2 (by simp) e
    ·exact qaw lm2 ln2 (by simp) e
    ·obtain ⟨es5,h5⟩:=h5no i hi;exact qaw lm2 (kr i _ _ h5) (by simp) e)
   a5
   (fun i hi=>by
    rcases a6 i hi with h | h
    ·exact .inl ⟨_,Qa hV,h⟩
    ·exact .inr fun w hw=>by have:=hT1.lt hw;omega)
   (.inl (Qa hMk))
  refine ⟨S.tab k v' S.M[k],O',N',rfl,up,rfl,?_,?_,hT',hN'⟩
  ·intro j hj;rcases hj with hj | hj | hj | hj
   ·exact .inl (.inl hj)
   ·rcases hj with hj | hj | hj | ⟨w,hw,hj⟩
    ·exact .inl (.inr (.inl (.inl hj)))
    ·exact .inl (.inr (.inl (.inr (.inl hj))))
    ·exact .inl (.inr (.inl (.inr (.inr (.inl hj)))))
    ·rcases Qq hw with hw | rfl
     ·exact .inl (.inr (.inl (.inr (.inr (.inr ⟨w,hw,hj⟩)))))
     ·rcases a6 j hj with h | h
      ·exact .inl (own4 j h)
      ·exact .inr (by omega)
   ·exact .inl (.inr (.inr (.inl hj)))
   ·simp only [SV.tab] at hj;rcases Qq hj with hj | rfl
    ·exact .inl (.inr (.inr (.inr hj)))
    ·exact .inl own3
  ·intro j hj hx;have hx1:¬S.own j:=fun h=>hx (.inl h)
   have hx2:¬look j O=some .res:=fun h=>hx (.inr h)
   have h1:=hk1 j hj hx;have h2:=k2 j (fun e=>hx1 (by rw [e];exact own3));rw [a3 j (by omega) (fun e=>hx1 (by rw [e];exact own1)) (fun e=>hx1 (by rw [e];exact own2)) (fun i hi e=>hx1 (by rw [e];exact own4 i hi)) (by rw [h2,h1];exact hx2),h2,h1]
 cases hVk:S.V[k] with
 | fslice z es=>
  rw [hVk] at g5 g1;have hl0:c.rows[k]=[]/\z=5/\es=[]:=by
   generalize hgen:c.rows[k].map Rw.c=gl at g5;cases g5;exact ⟨by simpa using hgen,rfl,rfl⟩
  obtain ⟨hl0,rfl,rfl⟩:=hl0;simp [ls2,lr2,ln2,lb2,u0,qah,qad,qbk,fsx,frx,fnx,fnb,hk',hkn,g1,hce,gn,hnr,hwr,hbeq,hsr];refine fin _ (N+1+112+1) (.row (N+1+112) 5 0 1) ?_ (by omega) ?_ ?_ ?_ ?_ (by simp) (by intro i hi;cases hi;right;omega)
  ·refine qao (qex (qao ?_));exact qhk (hT2.mono (by omega)) (Nat.lt_succ_self _)
  ·simp [qad,qbk,qah,lr2,hrn]
  ·simp [qad,qbk,qah,ln2,hnr]
  ·intro j hj b1 b2 b3 b4;have hj2:¬N+1+112=j:=by omega
   have hi:look j (setl rid (AO.row 1 (es1.set k [.row (N+1+112) 5 0 1])) (O2++[(N+1+112,AO.row 5 [[AV.int IntKind.i64 c.nextID[k],AV.slice 2 (List.map KeyMatch.c x.keys),AV.int IntKind.i64 x.priority,AV.int IntKind.i64 x.call.action,AV.slice 1 (List.map c32 x.call.args)]])]))=look j O2:=by
    rw [qad,if_neg b1,qah];simp [look,hj2]
   rw [qad,if_neg b2,qbk (by rw [hi];exact b4),hi]
  ·refine .row (N+1+112) _ [Rw.c (Rw.mk c.nextID[k] x)] _ (by simp [hl0]) ?_ (by simp [hl0]) (by simp [hl0]);simp [qad,qbk,fnx,frx,u0,Rw.ce]
 | row id5 z off n=>
  rw [hVk] at g5 g1;have hg:z=5/\off=0/\n=c.rows[k].length/\∃es5,look id5 (O++[(N,AO.row 4 [Entry.c x])])=some (.row 5 es5)/\c.rows[k].length<=es5.length/\es5.take c.rows[k].length=c.rows[k].map Rw.c:=by
   generalize hgen:c.rows[k].map Rw.c=gl at g5;have hlen:gl.length=c.rows[k].length:=by rw [<- hgen];simp
   cases g5 with
   | row _ _ es5 _ hn hl5 hle5 ht5=>exact ⟨rfl,rfl,by omega,es5,hl5,by omega,by rw [<- hlen];exact ht5⟩
  obtain ⟨rfl,rfl,rfl,es5,hl5,hle5,ht5⟩:=hg;have l52:=kr _ _ _ hl5;have f5:=qd9 (n:=N+1+112) hT2 l52 (by omega);have h5s:=qaw l52 ls2 (by simp);have h5r:=qaw l52 lr2 (by simp);have h5n:=qaw l52 ln2 (by simp);have hs5:=h5s.symm;have hr5:=h5r.symm;have hn5:=h5n.symm;have h5b:=qaw l52 lb2 (by simp);have hb5:=h5b.symm;have hq5:(S.s == id5)=false:=by simpa using hs5
  have hbd:(c.rows[k].length+1)*72<=70368744177664:=by have:=v.small _ (Qd hk');omega
  have hls:=v.small _ (Qd hk');have hres:look (N+1+112) (O2++[(N+1+112,AO.res)])=some .res:=by rw [qah,u0];simp
  have hdr:look (N+1+112) (qbf id5 (O2++[(N+1+112,AO.res)]))=some .res:=by rw [qde (fun e=>f5.2 e),hres]
  by_cases hfull:c.rows[k].length=es5.length
  ·have hbd2:(es5.length+1)*72<=70368744177664:=by rw [<- hfull];exact hbd
   simp [ls2,lr2,ln2,lb2,u0,qah,qad,qbk,qde,fsx,frx,fnx,fnb,hk',hkn,g1,hce,gn,hnr,hwr,hbeq,hsr,l52,f5,hs5,hr5,hn5,hq5,hbd2,hfull,hdr];refine fin _ (N+1+112+1) (.row (N+1+112) 5 0 (es5.length+1)) ?_ (by omega) ?_ ?_ ?_ ?_ (by simp) (by intro i hi;cases hi;right;omega)
   ·refine qao (qex (qao (qao (qfp ?_))));exact qhk (hT2.mono (by omega)) (Nat.lt_succ_self _)
   ·simp [qad,qbk,qah,qde,lr2,hrn,frx,hr5]
   ·simp [qad,qbk,qah,qde,ln2,hnr,fnx,hn5]
   ·intro j hj b1 b2 b3 b4;have hj2:¬N+1+112=j:=by omega
    have hj3:¬j=N+1+112:=by omega
    have hj5:j≠id5:=b3 id5 (by rw [hVk];rfl);have hi:∀A B,look j (setl rid A (setl (N+1+112) B (qbf id5 (O2++[(N+1+112,AO.res)]))))=look j O2:=by
     intro A B;rw [qad,if_neg b1,qad,if_neg hj3,qde hj5,qah];simp [look,hj2]
    rw [qad,if_neg b2,qbk (by rw [hi];exact b4),hi]
   ·have htk:es5=c.rows[k].map Rw.c:=by rw [<- ht5,hfull,List.take_length]
    refine .row (N+1+112) _ (es5++[Rw.c (Rw.mk c.nextID[k] x)]) _ (by simp [hfull]) ?_ (by simp [htk]) (by simp [htk,Qo]);simp [qad,qbk,hdr,fnx,frx,Rw.ce]
  ·have hlt:c.rows[k].length<es5.length:=by omega
   have hlt2:c.rows[k].length+1<=es5.length:=by omega
   have hne:¬es5.length=c.rows[k].length:=by omega
   simp [ls2,lr2,ln2,lb2,u0,qah,qad,qbk,fsx,frx,fnx,fnb,hk',hkn,g1,hce,gn,hnr,hwr,hsr,l52,f5,hs5,hr5,hn5,hq5,hbd,hfull,hlt2];refine fin _ (N+1+112+1) (.row id5 5 0 (c.rows[k].length+1)) ?_ (by omega) ?_ ?_ ?_ ?_ (by simp) (by intro i hi;cases hi;left;rw [hVk];rfl)
   ·refine qao (qex (qao (qao ?_)));exact qhk (hT2.mono (by omega)) (Nat.lt_succ_self _)
   ·simp [qad,qbk,qah,lr2,hrn,hr5]
   ·simp [qad,qbk,qah,ln2,hnr,hn5]
   ·intro j hj b1 b2 b3 b4;have hj2:¬N+1+112=j:=by omega
    have hj5:j≠id5:=b3 id5 (by rw [hVk];rfl);have hi:∀A B,look j (setl rid A (setl id5 B (O2++[(N+1+112,AO.res)])))=look j O2:=by
     intro A B;rw [qad,if_neg b1,qad,if_neg hj5,qah];simp [look,hj2]
    rw [qad,if_neg b2,qbk (by rw [hi];exact b4),hi]
   ·refine .row id5 _ (es5.take c.rows[k].length++Rw.c (Rw.mk c.nextID[k] x)::es5.drop (c.rows[k].length+1)) _ (by simp) ?_ (by simp;omega) ?_
    ·simp [qad,qbk,qah,l52,h5r,h5n,Rw.ce]
    ·rw [List.length_map,List.length_append,List.length_singleton,List.map_append,ht5];have hll:(c.rows[k].map Rw.c).length=c.rows[k].length:=by simp
     rw [List.take_append,hll,Qo (by rw [hll];omega),show c.rows[k].length+1 - c.rows[k].length=1 by omega];simp
 | app z es t=>exact absurd hVk (m1.cm.va _ (Qd hV) _ _ _)
 | _=>rw [hVk] at g5;cases g5
theorem qne {α:Type} {f:Nat->Option α} {Q:α->Prop} (h:∀i x,f i=some x->Q x) {N:Nat} {x:α} (hx:fe f N 0=some x):Q x:=by
 obtain ⟨k,_,hk⟩:=qdw hx;exact h k x hk
theorem qafc {p:Prg} {d:Dg} (h:limD p=some d):d.1≠0:=by
 unfold limD at h
 repeat' split at h
 all_goals first | (cases h;simp;done) | cases h
theorem qae6 {p:Prg} {d:Dg} (h:hdrD p=some d):d.1≠0:=by
 refine qne (Q:=fun d:Dg=>d.1≠0) (fun i x hx=>?_) h;rw [Qt] at hx;obtain ⟨a,_,hx⟩:=hx;split at hx
 ·cases hx
 ·cases hx;assumption
theorem qaff {p:Prg} {d:Dg} (h:metD p=some d):d.1≠0:=by
 unfold metD at h;split at h
 ·cases h;simp
 split at h
 ·rename_i d' hd';cases h;refine qne (Q:=fun d:Dg=>d.1≠0) (fun i x hx=>?_) hd';rw [Qt] at hx;obtain ⟨a,_,hx⟩:=hx;split at hx
  ·cases hx
  ·cases hx;assumption
 ·refine qne (Q:=fun d:Dg=>d.1≠0) (fun i x hx=>?_) h;split at hx
  ·cases hx
  ·cases hx;simp
theorem qafz {p:Prg} {d:Dg} (h:regD p=some d):d.1≠0:=by
 refine qne (Q:=fun d:Dg=>d.1≠0) (fun i x hx=>?_) h;rw [Qt] at hx;obtain ⟨a,_,hx⟩:=hx;split at hx
 ·cases hx
 ·cases hx;assumption
theorem qad0 {p:Prg} {d:Dg} (h:qdy p=some d):d.1≠0:=by
 refine qne (Q:=fun d:Dg=>d.1≠0) (fun i x hx=>?_) h;rw [Qt] at hx;obtain ⟨a,_,hx⟩:=hx;split at hx
 ·cases hx;assumption
 ·split at hx
  ·cases hx;simp
  ·cases hx
theorem qagn {p:Prg} {d:Dg} (h:tblD p=some d):d.1≠0:=by
 refine qne (Q:=fun d:Dg=>d.1≠0) (fun i x hx=>?_) h;rw [Qt] at hx;obtain ⟨a,_,hx⟩:=hx;split at hx
 ·cases hx;assumption
 ·split at hx
  ·cases hx;simp
  ·cases hx
theorem qaez {p:Prg} {d:Dg} (h:floD p=some d):d.1≠0:=by
 unfold floD at h;split at h
 ·cases h;assumption
 split at h
 ·cases h;assumption
 split at h
 ·cases h;assumption
 ·cases h
structure PrgV (p:Prg):Prop where
 lim:limD p=none
 hdr:hdrD p=none
 met:metD p=none
 reg:regD p=none
 act:qdy p=none
 tbl:tblD p=none
 flo:floD p=none
theorem qwh {p:Prg} (h:(prgD p).1=0):PrgV p:=by
 unfold prgD at h;cases h1:limD p with
 | some d=>rw [h1] at h;exact absurd h (qafc h1)
 | none=>
 cases h2:hdrD p with
 | some d=>rw [h1,h2] at h;exact absurd h (qae6 h2)
 | none=>
 cases h3:metD p with
 | some d=>rw [h1,h2,h3] at h;exact absurd h (qaff h3)
 | none=>
 cases h4:regD p with
 | some d=>rw [h1,h2,h3,h4] at h;exact absurd h (qafz h4)
 | none=>
 cases h5:qdy p with
 | some d=>rw [h1,h2,h3,h4,h5] at h;exact absurd h (qad0 h5)
 | none=>
 cases h6:tblD p with
 | some d=>rw [h1,h2,h3,h4,h5,h6] at h;exact absurd h (qagn h6)
 | none=>
 cases h7:floD p with
 | some d=>rw [h1,h2,h3,h4,h5,h6,h7] at h;exact absurd h (qaez h7)
 | none=>exact ⟨h1,h2,h3,h4,h5,h6,h7⟩
theorem PrgV.nest {p:Prg} (v:PrgV p):nest p.control<=6:=by
 have h:=v.flo;unfold floD at h;split at h
 ·cases h
 split at h
 ·cases h
 rename_i h1;refine Decidable.byContradiction fun hc=>h1 ?_
 unfold ctlE;split
 ·simp
 ·rw [if_pos (by omega)];simp
theorem PrgV.tabs {p:Prg} (v:PrgV p):p.tables.length<=12:=by
 have h:=v.lim;unfold limD at h
 repeat' split at h
 all_goals first | omega | cases h
theorem qgi {α:Type} (f:α->α->Bool):∀l:List α,(∀x∈l,f x x=true)->eqL f l l=true
 | [],_=>by simp [eqL]
 | x::r,h=>by simp [eqL,h x (List.mem_cons_self ..),qgi f r (fun y hy=>h y (List.mem_cons_of_mem _ hy))]
def Rf (n:Nat) (v:AV):Prop:=avEq n v v=true
theorem Rf.int (n:Nat) (k:IntKind) (v:Int):Rf (n+1) (.int k v):=by unfold Rf avEq;simp
theorem Rf.bool (n:Nat) (b:Bool):Rf (n+1) (.bool b):=by unfold Rf avEq;simp
theorem Rf.str (n:Nat) (b:List UInt8):Rf (n+1) (.str b):=by unfold Rf avEq;simp
theorem Rf.row (n a b c d:Nat):Rf (n+1) (.row a b c d):=by unfold Rf avEq;simp
theorem Rf.slice (n z:Nat) (es:List (List AV)) (h:∀e∈es,∀c∈e,Rf n c):Rf (n+1) (.slice z es):=by
 have:=qgi (eqL (avEq n)) es fun e he=>qgi (avEq n) e (h e he)
 unfold Rf avEq;simp [this]
theorem Rf.fslice (n z:Nat) (es:List (List AV)) (h:∀e∈es,∀c∈e,Rf n c):Rf (n+1) (.fslice z es):=by
 have:=qgi (eqL (avEq n)) es fun e he=>qgi (avEq n) e (h e he)
 unfold Rf avEq;simp [this]
theorem Rf.app (n z t:Nat) (es:List (List AV)) (h:∀e∈es,∀c∈e,Rf n c):Rf (n+1) (.app z es t):=by
 have:=qgi (eqL (avEq n)) es fun e he=>qgi (avEq n) e (h e he)
 unfold Rf avEq;simp [this]
theorem Rf.map {α:Type} (n z:Nat) (f:α->List AV) (l:List α) (h:∀x∈l,∀c∈f x,Rf n c):Rf (n+1) (.slice z (l.map f)):=by
 refine Rf.slice n z _ fun e he=>?_
 obtain ⟨x,hx,rfl⟩:=List.mem_map.1 he;exact h x hx
theorem qq2 (n:Nat) (x:ExprNode):∀c∈ExprNode.c x,Rf (n+1) c:=by
 simp [ExprNode.c,Rf.int]
theorem quy (n:Nat) (x:Fld):∀c∈Fld.c x,Rf (n+1) c:=by
 simp [Fld.c,Rf.int,Rf.str]
theorem rf_I (n:Nat) (x:Int):∀c∈cI x,Rf (n+1) c:=by simp [cI,Rf.int]
theorem qlc (n:Nat) (x:Int):∀c∈c32 x,Rf (n+1) c:=by simp [c32,Rf.int]
theorem qux:∀(k:Nat) (l:List ControlNode),nest l<=k->Rf (k+3) (.slice 5 (l.map ControlNode.c))
 | 0,l,h=>by
  cases l with
  | nil=>exact Rf.slice _ _ _ (by simp)
  | cons x l=>simp only [nest] at h;omega
 | k+1,l,h=>by
  have key:∀x∈l,qhi x<=k:=by
   intro x hx;have:∀l:List ControlNode,x∈l->1+qhi x<=nest l:=by
    intro l
    induction l with
    | nil=>intro h;cases h
    | cons y l ih=>
     intro h;simp only [nest];rcases List.mem_cons.1 h with rfl | h
     ·omega
     ·have:=ih h;omega
   have:=this l hx;omega
  refine Rf.map _ _ _ _ fun x hx=>?_
  have hk:=key x hx;cases x with
  | mk kd t cnd a b=>
   simp only [qhi] at hk;rw [ControlNode.ce];intro c hc;simp only [List.mem_cons,List.not_mem_nil,or_false] at hc;rcases hc with rfl | rfl | rfl | rfl | rfl
   ·exact Rf.int _ _ _
   ·exact Rf.int _ _ _
   ·exact Rf.map _ _ _ _ fun x _=>qq2 _ x
   ·exact qux k a (by omega)
   ·exact qux k b (by omega)
theorem qaij {p:Prg} (v:PrgV p):∀c∈Prg.c p,Rf 40 c:=by
 rw [Prg.ce];intro c hc;simp only [List.mem_cons,List.not_mem_nil,or_false] at hc;rcases hc with rfl | rfl | rfl | rfl | rfl | rfl | rfl | rfl | rfl
 ·exact Rf.str _ _
 ·refine Rf.map _ _ _ _ fun x _=>?_
  simp only [Header.c,List.mem_cons,List.not_mem_nil,or_false];rintro c (rfl | rfl)
  ·exact Rf.str _ _
  ·exact Rf.map _ _ _ _ fun x _=>quy _ x
 ·exact Rf.map _ _ _ _ fun x _=>quy _ x
 ·refine Rf.map _ _ _ _ fun x _=>?_
  simp [Register.c,Rf.int,Rf.str]
 ·refine Rf.map _ _ _ _ fun x _=>?_
  rw [Action.ce];simp only [List.mem_cons,List.not_mem_nil,or_false];rintro c (rfl | rfl | rfl)
  ·exact Rf.str _ _
  ·exact Rf.map _ _ _ _ fun x _=>quy _ x
  ·refine Rf.map _ _ _ _ fun x _=>?_
   rw [Statement.ce];simp only [List.mem_cons,List.not_mem_nil,or_false];rintro c (rfl | rfl | rfl | rfl | rfl | rfl | rfl)
   ·exact Rf.int _ _ _
   ·exact Rf.int _ _ _
   ·exact Rf.int _ _ _
   ·exact Rf.int _ _ _
   ·exact Rf.int _ _ _
   ·exact Rf.map _ _ _ _ fun x _=>qq2 _ x
   ·exact Rf.map _ _ _ _ fun x _=>qq2 _ x
 ·refine Rf.map _ _ _ _ fun x _=>?_
  rw [Tbl.ce];simp only [List.mem_cons,List.not_mem_nil,or_false];rintro c (rfl | rfl | rfl | rfl | rfl | rfl)
  ·exact Rf.str _ _
  ·exact Rf.map _ _ _ _ fun x _=>by simp [TableKey.c,Rf.int]
  ·exact Rf.map _ _ _ _ fun x _=>rf_I _ x
  ·exact Rf.int _ _ _
  ·exact Rf.map _ _ _ _ fun x _=>qlc _ x
  ·exact Rf.int _ _ _
 ·refine Rf.map _ _ _ _ fun x _=>?_
  rw [ParserState.ce];simp only [List.mem_cons,List.not_mem_nil,or_false];rintro c (rfl | rfl | rfl | rfl | rfl | rfl | rfl)
  ·exact Rf.str _ _
  ·exact Rf.map _ _ _ _ fun x _=>rf_I _ x
  ·exact Rf.bool _ _
  ·exact Rf.int _ _ _
  ·exact Rf.int _ _ _
  ·exact Rf.map _ _ _ _ fun x _=>by simp [SelectCase.c,Rf.int]
  ·exact Rf.int _ _ _
 ·have:=v.nest;exact qux 37 p.control (by omega)
 ·exact Rf.map _ _ _ _ fun x _=>rf_I _ x
theorem qld {O:List (Nat×AO)} {z n:Nat} {v:AV} {es:List (List AV)} (h:Mu O z v es):Rf (n+1) v:=by
 cases h with
 | nilF=>exact Rf.fslice _ _ _ (by simp)
 | nilA=>exact Rf.app _ _ _ _ (by simp)
 | row=>exact Rf.row _ _ _ _ _
theorem qxb {O:List (Nat×AO)} {S:SV} {p:Prg} {c:Config} (m:StoreM O S p c) (v:PrgV p):aoEq (some (.row 15 [S.cells p])) (some (.row 15 [S.cells p]))=true:=by
 have h:∀x∈S.cells p,avEq 40 x x=true:=by
  intro x hx;simp only [SV.cells,List.mem_cons,List.mem_append,List.not_mem_nil,or_false] at hx;rcases hx with rfl | rfl | rfl | rfl | hx | rfl | rfl
  ·exact qld m.cm.r
  ·exact qld m.cm.n
  ·exact qld m.cm.d
  ·rcases m.cm.g with e | ⟨t,e⟩<;>rw [e]
   ·refine Rf.fslice _ _ _ fun e he=>?_
    obtain ⟨l,_,rfl⟩:=List.mem_map.1 he;simp only [cS,List.mem_cons,List.not_mem_nil,or_false];rintro c rfl;exact Rf.map _ _ _ _ fun x _=>qlc _ x
   ·refine Rf.app _ _ _ _ fun e he=>?_
    obtain ⟨l,_,rfl⟩:=List.mem_map.1 he;simp only [cS,List.mem_cons,List.not_mem_nil,or_false];rintro c rfl;exact Rf.map _ _ _ _ fun x _=>qlc _ x
  ·exact qaij v x hx
  ·exact qld m.x.i
  ·exact Rf.bool _ _
 have h1:=qgi (avEq 40) _ h;unfold aoEq;simp [qai,eqL,h1]
theorem qlh {t:Nat} {y z:AO}:∀{O:List (Nat×AO)},setl t z (setl t y O)=setl t z O
 | []=>by simp
 | (u,w)::r=>by
  by_cases hu:u=t
  ·subst hu;simp
  ·simp [hu,qlh]
theorem qagb {O:List (Nat×AO)} {N id n i:Nat} {es:List (List AV)} {l:List Rw} (hl:look id O=some (.row 5 es)) (hn:n=l.length) (hle:n<=es.length) (ht:es.take n=l.map Rw.c) (hi:i<n) (hb:n<2^39):
  ∃N' es',qal Φ f_93 [.row id 5 0 n,.int .i64 i,.int .i64 ((i:Int)+1)] ⟨O,N⟩=some (.val (.row id 5 0 (n - 1)),⟨setl id (.row 5 es') O,N'⟩)/\N<=N'/\N'<=N+1/\n - 1<=es'.length/\es'.take (n - 1)=(l.eraseIdx i).map Rw.c:=by
 rw [qbg (fn:=c_93) rfl rfl];have hi1:(i:Int)+1=((i+1:Nat):Int):=by omega
 have a1:i+1<=n:=by omega
 have a2:i<=i+1:=by omega
 have a3:i<=n:=by omega
 have a4:i+1<=es.length:=by omega
 have a5:i<=es.length:=by omega
 have hne:¬i=i+1:=by omega
 rw [hi1];have b1:(0:Int)<=(i:Int)+1:=by omega
 have b2:(i:Int)+1<=(n:Int):=by omega
 have b3:(i:Int)+1<=(es.length:Int):=by omega
 have c1:i+(n - (i+1))=n - 1:=by omega
 have c2:min (n - (i+1)) (es.length - (i+1))=n - (i+1):=by omega
 have c3:i+(n - (i+1))<=es.length:=by omega
 have c4:i+1+(n - (i+1))<=es.length:=by omega
 have c5:¬i=es.length:=by omega
 have c6:(((n - 1:Nat):Int))<=(n:Int):=by omega
 have c7:n - 1<=n:=by omega
 have c9:¬(i:Int)=(i:Int)+1:=by omega
 have c8:(i:Int)<=(i:Int)+1:=by omega
 have c10:n<=es.length+1:=by omega
 have hys:(es.drop (i+1)).take (n - (i+1))=(l.drop (i+1)).map Rw.c:=by
  rw [<- List.drop_take,ht,List.map_drop]
 have c11:qcf 5 ((es.drop (i+1)).take (n - (i+1)))=true:=by rw [hys];exact qcb 5 Rw.c _ fun x=>by simp
 have hE1l:(es.take i++((es.drop (i+1)).take (n - (i+1))++es.drop (n - 1))).length=es.length:=by
  simp only [List.length_append,List.length_take,List.length_drop];omega
 have hE1t:(es.take i++((es.drop (i+1)).take (n - (i+1))++es.drop (n - 1))).take (n - 1)=(l.eraseIdx i).map Rw.c:=by
  have hti:es.take i=(l.take i).map Rw.c:=by
   have:(es.take n).take i=es.take i:=by rw [List.take_take,Nat.min_eq_left (by omega)]
   rw [<- this,ht,List.map_take]
  rw [hys,hti,List.eraseIdx_eq_take_drop_succ,List.map_append,<- List.append_assoc,List.take_append_of_le_length (by simp;omega)];exact Qo (by simp;omega)
 have d1:((n - 1:Nat):Int)<=(es.length:Int):=by omega
 have d2:(n:Int)<=(es.length:Int):=by omega
 have d3:n - 1+(n - (n - 1))<=es.length:=by omega
 have d4:¬n - 1=n:=by omega
 have fin:∀N',N<=N'->N'<=N+1->∀(E1 D:List (List AV)),E1.length=es.length->E1.take (n - 1)=(l.eraseIdx i).map Rw.c->
   ∃N2 es',(setl id (AO.row 5 (E1.take (n - 1)++(List.replicate (n - (n - 1)) [AV.int .i64 0,.fslice 2 [],.int .i64 0,.int .i64 0,.fslice 1 []]++D))) O=setl id (AO.row 5 es') O/\N'=N2)/\N<=N2/\N2<=N+1/\n<=es'.length+1/\es'.take (n - 1)=(l.eraseIdx i).map Rw.c:=by
  intro N' h1 h2 E1 D h3 h4;refine ⟨N',_,⟨rfl,rfl⟩,h1,h2,?_,?_⟩
  ·simp only [List.length_append,List.length_take,List.length_replicate];omega
  ·rw [List.take_append_of_le_length (by simp;omega),List.take_take,Nat.min_self,h4]
 by_cases hfull:n=es.length
 ·have hf2:=eq_true hfull;simp [c_93,hl,hle,a1,a3,b1,b2,hf2,c1,c2,c5,c8,c9];rw [if_pos ⟨c10,c11⟩];generalize es.take i++((es.drop (i+1)).take (n - (i+1))++es.drop (n - 1))=E1 at hE1l hE1t ⊢;simp [qad,hl,hE1l,c6,c7,d2,qlh,hle];exact fin N (Qb _) (by omega) E1 _ hE1l hE1t
 ·have hf2:=eq_false hfull;simp [c_93,hl,hle,a1,a3,b1,b2,hf2,c1,c2,c5,c8,c9];rw [if_pos ⟨c10,c11⟩];generalize es.take i++((es.drop (i+1)).take (n - (i+1))++es.drop (n - 1))=E1 at hE1l hE1t ⊢;simp [qad,hl,hE1l,c6,c7,d2,qlh,hle];exact fin (N+1) (by omega) (by omega) E1 _ hE1l hE1t
theorem qrb {O:List (Nat×AO)} {N:Nat} {S:SV} {p:Prg} {c:Config} (m:StoreM O S p c) (v:CfgV p c) (hT:Tail O N) (t id:Int):
  MDpost N O S p (if delE p c t id=0 then delC c t id else c) (.int .i64 (delE p c t id)) (qal Φ f_35 [.ptr S.s 15 0 0,.int .i64 t,.int .i64 id] ⟨O,N⟩):=by
 rw [qbg (fn:=c_35) rfl rfl];have hl:=v.rl;have hr:=qaap (N:=N) m hl t id;have hE:delE p c t id=rowX p c t id:=rfl;rw [hE];by_cases z:rowX p c t id=0
 rotate_left
 ·rw [if_neg z];simp [c_35,hr,z];exact ⟨S,O,N,rfl,m,rfl,fun j hj=> .inl hj,fun _ _ _=>rfl,hT,Qb _⟩
 rw [if_pos z,z];cases hi:inT p t with
 | false=>simp [rowX,hi] at z
 | true=>
 obtain ⟨k,rfl,hk⟩:=qc6 hi;have hk':k<c.rows.length:=by omega
 have hrow:qbi c (k:Int)=c.rows[k]:=qbr hk';cases hx2:rIdx c.rows[k] id with
 | none=>simp [rowX,hi,hrow,hx2] at z
 | some i=>
 obtain ⟨hil,hid⟩:=qgb hx2;have hI:rowI p c k id=i:=by simp [rowI,hi,hrow,hx2]
 have hM:delC c (k:Int) id=⟨c.rows.set k (c.rows[k].eraseIdx i),c.nextID,c.defaults,c.registers⟩:=by
  unfold delC;rw [hrow,hx2];simp
 rw [z,hI] at hr;rw [hM];have hv:=v.at hk;have hsm:=v.small _ (Qd hk');have hs:=m.se;obtain ⟨rid,es1,e1,lr,hle1,⟨hV,g1,g5⟩,ht1⟩:=m.tab hk';obtain ⟨r5,es5,e5,l5,hle5,ht5⟩:=g5.nonempty (by simp;omega);rw [List.length_map] at e5 hle5 ht5;rw [e1] at hs;rw [e5] at g1;have hao:=qxb m (qwh v.prg);simp only [SV.cells,Prg.e,List.cons_append,List.nil_append,e1] at hao;obtain ⟨N2,es',e6,n1,n2,h7,h8⟩:=qagb (N:=N+1) l5 rfl hle5 ht5 hil (by omega);have hwi:IntKind.wrap .i64 ((i:Int)+1)=(i:Int)+1:=qa6 (by omega) (by omega);have hsr:=qaw hs lr (by simp);have hs5:=qaw hs l5 (by simp);have hr5:=qaw lr l5 (by simp);have h5r:=hr5.symm;have hrs:=hsr.symm;simp [c_35,hr,hs,lr,hk',g1,hwi,e6,qad,hs5,hr5,hao];have hMl:=m.x.len;have hVl:=m.cm.rl;obtain ⟨iid,esi,e3,li,hle3,hMk,gi,lm⟩:=m.idx hk';have own1:S.own rid:= .inr (.inl (.inl (by rw [e1];rfl)));have own3:S.own S.M[k]:= .inr (.inr (.inr (Qd hMk)));have own4:S.own r5:= .inr (.inl (.inr (.inr (.inr ⟨_,Qd hV,by rw [e5];rfl⟩))));have own5:S.own iid:= .inr (.inr (.inl (by rw [e3];rfl)));have k3:∀A B j,j≠rid->j≠r5->look j O≠some .res->look j (qa4 (setl rid A (setl r5 B O)))=look j O:=by
  intro A B j h1 h2 h3;have h0:look j (setl rid A (setl r5 B O))=look j O:=by rw [qad,if_neg h1,qad,if_neg h2]
  rw [qbk (by rw [h0];exact h3),h0]
 have a1:∀B es,look rid (qa4 (setl rid (.row 1 es) (setl r5 B O)))=some (.row 1 es):=by
  intro B es;have h0:look rid (setl rid (.row 1 es) (setl r5 B O))=some (.row 1 es):=by rw [qad,if_pos rfl,qad,if_neg hr5,lr];rfl
  rw [qbk (by rw [h0];simp),h0]
 have a2:∀A es,look r5 (qa4 (setl rid A (setl r5 (.row 5 es) O)))=some (.row 5 es):=by
  intro A es;have h0:look r5 (setl rid A (setl r5 (.row 5 es) O))=some (.row 5 es):=by rw [qad,if_neg h5r,qad,if_pos rfl,l5];rfl
  rw [qbk (by rw [h0];simp),h0]
 have hT3:∀A B,Tail (qa4 (setl rid A (setl r5 B O))) N2:=fun A B=>qex (qao (qao (hT.mono (by omega))))
 generalize hO3:qa4 (setl rid (AO.row 1 (es1.set k [AV.row r5 5 0 (c.rows[k].length - 1)])) (setl r5 (AO.row 5 es') O))=O3;have k3':∀j,j≠rid->j≠r5->look j O≠some .res->look j O3=look j O:=fun j h1 h2 h3=>by rw [<- hO3];exact k3 _ _ j h1 h2 h3
 have a1':look rid O3=some (.row 1 (es1.set k [AV.row r5 5 0 (c.rows[k].length - 1)])):=by rw [<- hO3];exact a1 _ _
 have a2':look r5 O3=some (.row 5 es'):=by rw [<- hO3];exact a2 _ _
 have hT3':Tail O3 N2:=by rw [<- hO3];exact hT3 _ _
 clear hO3;have hinc:(c.rows[k].eraseIdx i).Pairwise fun a b=>a.id<b.id:=hv.inc.sublist (List.eraseIdx_sublist _ _)
 have hll:(c.rows[k].eraseIdx i).length=c.rows[k].length - 1:=by rw [List.length_eraseIdx];simp [hil]
 have m5:Mu O3 5 (.row r5 5 0 (c.rows[k].length - 1)) ((c.rows[k].eraseIdx i).map Rw.c):= .row r5 _ es' _ (by simp [hll]) a2' (by simp [hll];omega) (by rw [List.length_map,hll];exact h8);have m1:Mu O3 1 S.v1 ((S.V.set k (.row r5 5 0 (c.rows[k].length - 1))).map fun x=>[x]):=by
  have hmu:=Mu.upd (O':=O3) (id:=rid) (z:=1) (k:=k) (es:=S.V.map fun x=>[x]) (es0:=es1) (y:=[.row r5 5 0 (c.rows[k].length - 1)]) a1' (by rw [List.length_map,hVl];exact hle1) (by rw [List.length_map,hVl];exact ht1);rw [List.length_map,hVl] at hmu;rw [e1,List.map_set];exact hmu
 have ls3:look S.s O3=some (.row 15 [S.cells p]):=by rw [k3' S.s hsr hs5 (by rw [m.s];simp),m.s]
 have li3:look iid O3=some (.row 1 esi):=by
  rw [k3' iid (fun e=>m.ri rid (by rw [e1];rfl) (by rw [e3,e];rfl)) (qaw li l5 (by simp)) (by rw [li];simp),li]
 have hri:vid S.v1≠some iid:=fun e=>m.ri iid e (by rw [e3];rfl)
 have hVs:k<(S.V.set k (AV.row r5 5 0 (c.rows[k].length - 1))).length:=by simpa using hV
 have hVk:(S.V.set k (AV.row r5 5 0 (c.rows[k].length - 1)))[k]=AV.row r5 5 0 (c.rows[k].length - 1):=by simp
 have ls4:=ls3;simp only [SV.cells,e3] at ls4;have hrl:c.rows.length<2^40:=by have:=(qwh v.prg).tabs;omega
 have hnv:c.nextID.set k ((c.nextID[k]?).getD 0)=c.nextID:=by
  rw [Qa (by rw [v.nl];exact hk)];simp
 have hcz:esi.take c.rows.length=S.M.map fun x=>[.map x]:=by
  obtain ⟨iid',es0,e9,hl9,hle9,ht9⟩:=m.x.i.nonempty (by simp;omega);rw [e3] at e9;simp only [AV.row.injEq] at e9;obtain ⟨rfl,-⟩:=e9;rw [li] at hl9;cases hl9;rw [List.length_map,hMl] at ht9;exact ht9
 obtain ⟨O4,N4,e7,r1,r2,k4,hT4,hN4⟩:=qpt (k:=k) (n:=c.rows.length) (V:=S.V.set k (.row r5 5 0 (c.rows[k].length - 1))) (l:=c.rows[k].eraseIdx i) (R:=Prg.c p) (es:=esi) hT3' (by omega) hk' hVs ls4 (by simp) li3 hle3 ⟨_,gi⟩ m1 (by rw [hVk];exact m5) hri hinc (by omega);simp [e7];have keep:∀j,S.own j->¬S.chg k j->look j O4=look j O:=by
  intro j hj hc;obtain ⟨w,hw,hwn⟩:=m.own_lk hj;have h3:=k3' j (fun e=>hc (.inr (.inl (by rw [e,e1];rfl)))) (fun e=>hc (.inl ⟨_,Qa hV,by rw [e5,e];rfl⟩)) (by rw [hw];simpa using hwn);rw [k4 j (by have:=hT.lt hw;omega) (fun e=>hc (.inr (.inr (.inr (.inl (by rw [e,e3];rfl)))))),h3]
 have hfr:∀x,look N2 O=some x->x= .res:=fun x hx=>by have:=hT.lt hx;omega
 have up:=m.upd (k:=k) (v':= .row r5 5 0 (c.rows[k].length - 1)) (m':=N2) (l':=c.rows[k].eraseIdx i) (nx:=(c.nextID[k]?).getD 0) (O':=O4) hk' keep
  (m1.fr fun j hj=>by
   obtain ⟨es0,h0⟩:=m1.own hj;exact k4 j (hT3'.lt h0) (fun e=>hri (by rw [hj,e])))
  (by
   rw [hnv];refine m.cm.n.fr fun j hj=>?_
   obtain ⟨es0,h0⟩:=m.cm.n.own hj;have h3:=k3' j (fun e=>m.cm.rn j (by rw [e1,e];rfl) hj) (qaw h0 l5 (by simp)) (by rw [h0];simp);rw [k4 j (by have:=hT.lt h0;omega) (fun e=>m.ni j hj (by rw [e3,e];rfl)),h3])
  (by
   have hmu:=Mu.upd (O':=O4) (id:=iid) (z:=1) (k:=k) (es:=S.M.map fun x=>[.map x]) (es0:=esi) (y:=[.map N2]) r1 (by rw [List.length_map,hMl];exact hle3) (by rw [List.length_map,hMl];exact hcz);rw [List.length_map,hMl] at hmu;rw [e3,List.map_set];exact hmu)
  (m5.fr fun j hj=>by
   obtain ⟨es0,h0⟩:=m5.own hj;exact k4 j (hT3'.lt h0) (qaw h0 li3 (by simp)))
  r2 (by simp) (fun j hj=> .inl ⟨_,Qa hV,by rw [e5];exact hj⟩) (.inr hfr)
 rw [hnv] at up;refine ⟨S.tab k (.row r5 5 0 (c.rows[k].length - 1)) N2,O4,N4,rfl,up,rfl,?_,?_,hT4,by omega⟩
 ·intro j hj;rcases hj with hj | hj | hj | hj
  ·exact .inl (.inl hj)
  ·rcases hj with hj | hj | hj | ⟨w,hw,hj⟩
   ·exact .inl (.inr (.inl (.inl hj)))
   ·exact .inl (.inr (.inl (.inr (.inl hj))))
   ·exact .inl (.inr (.inl (.inr (.inr (.inl hj)))))
   ·rcases Qq hw with hw | rfl
    ·exact .inl (.inr (.inl (.inr (.inr (.inr ⟨w,hw,hj⟩)))))
    ·cases hj;exact .inl own4
  ·exact .inl (.inr (.inr (.inl hj)))
  ·simp only [SV.tab] at hj;rcases Qq hj with hj | rfl
   ·exact .inl (.inr (.inr (.inr hj)))
   ·exact .inr (by omega)
 ·intro j hj hx;have hx1:¬S.own j:=fun h=>hx (.inl h)
  have hx2:¬look j O=some .res:=fun h=>hx (.inr h)
  rw [k4 j (by omega) (fun e=>hx1 (by rw [e];exact own5)),k3' j (fun e=>hx1 (by rw [e];exact own1)) (fun e=>hx1 (by rw [e];exact own4)) hx2]
def xoE (p:Prg) (c:Config) (o:TableOp):Int:=if o.kind=1 then insE p c o.table o.entry else if o.kind=2 then modE p c o.table o.id o.call else if o.kind=3 then delE p c o.table o.id else if o.kind=4 then defE p o.table o.call else 11
def xoD (c:Config) (o:TableOp):Config:=if o.kind=1 then insC c o.table o.entry else if o.kind=2 then modC c o.table o.id o.call else if o.kind=3 then delC c o.table o.id else defC c o.table o.call
def xoC (p:Prg) (c:Config) (o:TableOp):Config:=if xoE p c o=0 then xoD c o else c
def xoI (p:Prg) (c:Config) (o:TableOp):Int:=if xoE p c o=0/\o.kind=1 then qcd c o.table else 0
structure CallS (x:ActionCall):Prop where
 al:x.args.length<2^40
 ar:∀v∈x.args,ok32 0 v
structure OpS (o:TableOp):Prop where
 e:EntS o.entry
 c:CallS o.call
theorem qaa8 {p:Prg} {c:Config} (v:CfgV p c) (o:TableOp):CfgV p (xoC p c o):=by
 unfold xoC;split
 ·rename_i h;unfold xoE at h;unfold xoD;split
  ·rename_i h1;rw [if_pos h1] at h;exact qws v h
  rename_i h1;rw [if_neg h1] at h;split
  ·rename_i h2;rw [if_pos h2] at h;exact qw0 v h
  rename_i h2;rw [if_neg h2] at h;split
  ·rename_i h3;rw [if_pos h3] at h;exact qaeo v h
  rename_i h3;rw [if_neg h3] at h;by_cases h4:o.kind=4
  ·rw [if_pos h4] at h;exact qaen v h
  ·rw [if_neg h4] at h;cases h
 ·exact v
theorem CfgT.mk_rows {p:Prg} {c c':Config} (s:CfgT c) (v':CfgV p c') (hp:p.tables.length<2^40) (hr:∀l∈c'.rows,∀r∈l,rowS r) (hd:∀d∈c'.defaults,d.args.length<2^40/\∀v∈d.args,ok32 0 v) (hg:c'.registers=c.registers):CfgT c':=by
 refine ⟨by rw [v'.rl];exact hp,fun l hl=>⟨by have:=v'.small l hl;omega,hr l hl⟩,by rw [v'.nl];exact hp,by rw [v'.dl];exact hp,hd,by rw [hg];exact s.gl,by rw [hg];exact s.gs⟩
theorem qpv {c:Config} {t:Int} {r:Rw} (h:r∈qbi c t):∃l∈c.rows,r∈l:=by
 unfold qbi at h;cases ha:at? c.rows t with
 | none=>rw [ha] at h;cases h
 | some l=>
  rw [ha] at h;refine ⟨l,?_,h⟩;unfold at? at ha;split at ha
  ·cases ha
  ·exact Qe ha
theorem qyu {p:Prg} {c:Config} (v:CfgV p c) (s:CfgT c) (hp:p.tables.length<2^40) (o:TableOp) (ho:OpS o):CfgT (xoC p c o):=by
 have v':=qaa8 v o;unfold xoC at v' ⊢;split
 rotate_left
 ·exact s
 rename_i h;rw [if_pos h] at v';have old:∀l∈c.rows,∀r∈l,rowS r:=fun l hl=>(s.rs l hl).2
 have oldA:∀r∈qbi c o.table,rowS r:=fun r hr=>by
  obtain ⟨l,hl,hr⟩:=qpv hr;exact old l hl r hr
 unfold xoD at v' ⊢;split
 ·rename_i h1;rw [if_pos h1] at v';refine s.mk_rows v' hp ?_ s.ds rfl;intro l hl r hr;simp only [insC] at hl;rcases Qq hl with hl | rfl
  ·exact old l hl r hr
  ·rcases List.mem_append.1 hr with hr | hr
   ·exact oldA r hr
   ·simp at hr;subst hr;exact ho.e
 rename_i h1;rw [if_neg h1] at v';split
 ·rename_i h2;rw [if_pos h2] at v';unfold modC at v' ⊢;split
  ·rename_i i hi;rw [hi] at v';refine s.mk_rows v' hp ?_ s.ds rfl;intro l hl r hr;rcases Qq hl with hl | rfl
   ·exact old l hl r hr
   ·obtain ⟨j,hj,rfl⟩:=Qn.1 hr;rw [List.getElem_modify];have hj':j<(qbi c o.table).length:=by simpa using hj
    have h0:=oldA _ (Qd hj');split
    ·exact ⟨h0.kl,h0.ks,ho.c.al,ho.c.ar⟩
    ·exact h0
  ·exact s
 rename_i h2;rw [if_neg h2] at v';split
 ·rename_i h3;rw [if_pos h3] at v';unfold delC at v' ⊢;split
  ·rename_i i hi;rw [hi] at v';refine s.mk_rows v' hp ?_ s.ds rfl;intro l hl r hr;rcases Qq hl with hl | rfl
   ·exact old l hl r hr
   ·exact oldA r ((List.eraseIdx_sublist _ _).subset hr)
  ·exact s
 ·rename_i h3;rw [if_neg h3] at v';refine s.mk_rows v' hp old ?_ rfl;intro d hd;simp only [defC] at hd;rcases Qq hd with hd | rfl
  ·exact s.ds d hd
  ·exact ⟨ho.c.al,ho.c.ar⟩
inductive RunR where
 | ok (c:Config) (ids:List Int)
 | err (i:Nat) (e:Int)
theorem qady {p:Prg} {d:Config} {u:TableOp} (hx:xoE p d u=0):(xoC p d u).nextID=if u.kind=1 then d.nextID.set u.table.toNat (qcd d u.table+1) else d.nextID:=by
 unfold xoC;rw [if_pos hx];unfold xoD;by_cases z1:u.kind=1
 ·simp [z1,insC]
 by_cases z2:u.kind=2
 ·simp [z2,modC];split<;>rfl
 by_cases z3:u.kind=3
 ·simp [z3,delC];split<;>rfl
 ·simp [z1,z2,z3,defC]
theorem qru {p:Prg} {c:Config} {t:Int} {x:Entry} (h:insE p c t x=0):inT p t=true/\entE p t x=0:=by
 unfold insE at h;cases hi:inT p t with
 | false=>simp [hi] at h
 | true=>
  refine ⟨rfl,?_⟩;by_cases z:entE p t x=0
  ·exact z
  ·simp [hi,z] at h
theorem qaes {p:Prg} {t:Int} {x:Entry} (hi:inT p t=true) (h:entE p t x=0):qbb p t x.call=0:=by
 obtain ⟨k,rfl,hk⟩:=qc6 hi;unfold entE at h;split at h
 ·exact absurd h (by assumption)
 rw [qhl,Qa hk] at h;simp only at h;split at h
 ·cases h
 cases hf:fe (entG p p.tables[k] x) p.tables[k].keys.length 0 with
 | some e=>
  rw [hf] at h;simp only [Option.getD_some] at h;obtain ⟨i,_,hx⟩:=qdw hf;unfold entG at hx;split at hx
  ·split at hx
   ·cases hx
   ·cases hx;exact absurd h (by assumption)
  ·cases hx
 | none=>
  rw [hf] at h;simp only [Option.getD_none] at h;unfold entF at h;unfold qbb;split at h
  ·cases h
  split at h
  ·cases h
  split at h
  ·cases h
  exact h
theorem qafa {p:Prg} {c:Config} {t:Int} {x:Entry} (v:CfgV p c) (h:insE p c t x=0):modE p (insC c t x) t (qcd c t) x.call=0:=by
 obtain ⟨hi,he⟩:=qru h;have hc:=qaes hi he;obtain ⟨k,rfl,hk⟩:=qc6 hi;have l1:k<c.rows.length:=by rw [v.rl];exact hk
 unfold modE;rw [if_neg (by rw [hi];decide),if_neg,hc];have e:qbi (insC c k x) (k:Int)=qbi c k++[⟨qcd c k,x⟩]:=by
  rw [qbr (by simp [insC];exact l1)];simp [insC]
 rw [e];unfold rIdx;rw [List.findIdx?_eq_none_iff];intro hn;have:=hn ⟨qcd c k,x⟩ (by simp);simp at this
theorem qaep {p:Prg} {c:Config} {t id:Int} (v:CfgV p c) (h:delE p c t id=0):delE p (delC c t id) t id=8:=by
 unfold delE at h ⊢;cases hi:inT p t with
 | false=>simp [hi] at h
 | true=>
 obtain ⟨k,rfl,hk⟩:=qc6 hi;have l1:k<c.rows.length:=by rw [v.rl];exact hk
 cases hr:rIdx (qbi c (k:Int)) id with
 | none=>simp [hi,hr] at h
 | some i=>
 rw [if_neg (by simp),if_pos];have e:qbi (delC c k id) (k:Int)=(qbi c k).eraseIdx i:=by
  unfold delC;rw [hr];simp only;rw [qbr (by simp;exact l1)];simp
 rw [e];rw [qbr l1] at hr ⊢;obtain ⟨h1,h2⟩:=qgb hr;unfold rIdx;rw [List.findIdx?_eq_none_iff];intro r hr2;rw [List.mem_eraseIdx_iff_getElem] at hr2;obtain ⟨j,hj,hne,rfl⟩:=hr2;have hinc:=(v.at hk).inc;rw [List.pairwise_iff_getElem] at hinc;simp only [decide_eq_false_iff_not];intro he;rcases Nat.lt_or_gt_of_ne hne with q | q
 ·have:=hinc j i hj h1 q;omega
 ·have:=hinc i j h1 hj q;omega
theorem qwt {α:Type} {p:α->Bool} {l:List α}:∀n i,n+i=l.length->ix p l i=(((l.drop i).findIdx? p).map fun j=>((i+j:Nat):Int)).getD (-1)
 | 0,i,h=>by
  have:i=l.length:=by omega
  subst this;rw [qgm];simp
 | n+1,i,h=>by
  have hi:i<l.length:=by omega
  rw [Qi hi,List.findIdx?_cons];cases hp:p l[i] with
  | true=>rw [qgn hi hp];simp
  | false=>
   rw [qfk hi hp,qwt n (i+1) (by omega)];cases (l.drop (i+1)).findIdx? p with
   | none=>rfl
   | some j=>simp;omega
def rIx (l:List Rw) (id:Int):Int:=((rIdx l id).map fun (j:Nat)=>(j:Int)).getD (-1)
theorem qahz (l:List Rw) (id:Int):ix (fun r=>decide (r.id=id)) l 0=rIx l id:=by
 rw [qwt l.length 0 (by omega)];simp [rIx,rIdx]
theorem qpu (l:List Rw) (id:Int) (hl:l.length<2^40):qab Φ f_165 [.slice 5 (l.map Rw.c),.int .i64 id]=some (.val (.int .i64 (rIx l id))):=by
 rw [qaa (fn:=c_165) rfl rfl,<- qahz];simp [c_165];refine qau l.length (fun i e=>look 0 e=some (.slice 5 (l.map Rw.c))/\look 1 e=some (.int .i64 id)/\look 5 e=some (.int .i64 i))
  (fun i=>some (Rt.val (.int .i64 (ix (fun r=>decide (r.id=id)) l i)))) ?_ ?_ 0 _ (Qc _) ?_
 ·rintro i e L hi hL ⟨h0,h1,h5⟩ ih;have hw:=qag i (by omega);by_cases z:l[i].id=id
  ·rw [qgn hi (by simpa using z)];simp [c_165_l0,Rw.ce,h0,h1,h5,hi,z]
  ·rw [qfk hi (by simpa using z)];simp [c_165_l0,Rw.ce,h0,h1,h5,hi,z,hw];exact ih _ ⟨by simp [h0],by simp [h1],by simp⟩
 ·rintro e L hL ⟨h0,h1,h5⟩;rw [qgm];simp [c_165_l0,c_165_k1,h0,h5,hL]
 ·simp
theorem qjl (c:Config) (k:Nat) (l:List Rw) (nx:Int) (hk:k<c.rows.length) (hn:c.nextID.length=c.rows.length) (hl:c.rows.length<2^40):
  qab Φ f_164 [.agg (Config.c c),.int .i64 k,.slice 5 (l.map Rw.c),.int .i64 nx]=some (.val (.agg (Config.c ⟨c.rows.set k l,c.nextID.set k nx,c.defaults,c.registers⟩))):=by
 rw [qaa (fn:=c_164) rfl rfl];generalize hR:c.rows.set k l=R;generalize hNn:c.nextID.set k nx=M;have hRl:R.length=c.rows.length:=by rw [<- hR];simp
 have hMl:M.length=c.rows.length:=by rw [<- hNn];simp [hn]
 generalize hQ:(fun r:Option Rt=>r=some (Rt.val (.agg (Config.c ⟨R,M,c.defaults,c.registers⟩))))=Q;have hq:∀r,Q r=(r=some (Rt.val (.agg (Config.c ⟨R,M,c.defaults,c.registers⟩)))):=fun r=>by rw [<- hQ]
 rw [<- hq];clear hQ;simp [c_164,Config.ce];refine qhs c.rows.length (fun i e h=>∃(O':List (Nat×AO)) (N':Nat) (w1 w2:AV),h=⟨O',N'⟩/\Tail O' N'/\look 0 O'=some (.row 4 [[.fslice 1 [],.fslice 1 [],.fslice 2 [],.fslice 1 []]])/\look 1 O'=some (.row 4 [[w1,w2,.slice 2 (c.defaults.map ActionCall.c),.slice 1 (c.registers.map (cS 1 c32))]])/\
   ((i=0/\w1= .fslice 1 []/\w2= .fslice 1 [])\/∃a b,w1= .app 1 ((R.map (cS 5 Rw.c)).take i) a/\look a O'=some (.tok 1 i)/\w2= .app 1 ((M.map cI).take i) b/\look b O'=some (.tok 1 i)/\a≠b)/\
   look 1 e=some (.int .i64 k)/\look 2 e=some (.slice 5 (l.map Rw.c))/\look 3 e=some (.int .i64 nx)/\look 4 e=some (.iptr 4 [Config.c c] 0 0)/\look 8 e=some (.ptr 0 4 0 0)/\look 9 e=some (.ptr 1 4 0 0)/\look 10 e=some (.int .i64 i)) Q ?_ ?_ 0 _ _ (Qc _) ?_
 ·rintro i e _ L hi hL ⟨O',N',w1,w2,rfl,hT',l0,l1,hw,e1,e2,e3,e4,e8,e9,e10⟩ ih;have hw1:=qag i (by omega);have i2:i<c.nextID.length:=by omega
  have iR:i<R.length:=by omega
  have iM:i<M.length:=by omega
  have t0:=hT' N' (Qb _);have t1:=hT' (N'+1) (by omega);have nz:¬N'=0:=by have:=hT'.lt l1;omega
  have n1:1<N':=hT'.lt l1;have n2:¬N'=1:=by omega
  have n3:¬1=N':=by omega
  have n4:¬0=N':=by omega
  have hTm:Tail O' (N'+1+1):=hT'.mono (by omega);have sR:(R.map (cS 5 Rw.c)).take (i+1)=(R.map (cS 5 Rw.c)).take i++[cS 5 Rw.c R[i]]:=qa2 iR;have sM:(M.map cI).take (i+1)=(M.map cI).take i++[cI M[i]]:=qa2 iM;rw [cSe] at sR;rw [cIe] at sM;rw [Config.ce] at e4;have mR:min i R.length=i:=by omega
  have mM:min i M.length=i:=by omega
  have c1:(i+1)*24<=70368744177664:=by omega
  have c2:(i+1)*8<=70368744177664:=by omega
  by_cases hik:i=k
  ·have vR:R[i]=l:=by simp [<- hR,hik]
   have vM:M[i]=nx:=by simp [<- hNn,hik]
   rw [vR] at sR;rw [vM] at sM;have d0:(i=k)=True:=eq_true hik;rcases hw with ⟨rfl,rfl,rfl⟩ | ⟨a,b,rfl,la,rfl,lb,hab⟩
   ·have hk0:k=0:=hik.symm;simp [c_164_l0,e1,e2,e3,e4,e9,e10,hi,hk0,t0,t1,wr1,qah,qad,l1,n2,nz];refine ih _ _ ⟨_,_,_,_,rfl,?_,?_,?_,.inr ⟨N',N'+1,by rw [sR],?_,by rw [sM],?_,by omega⟩,?_,?_,?_,?_,?_,?_,?_⟩
    ·repeat' first | exact hTm | apply qao | apply qhk | omega
    ·simp [qah,qad,l0]
    ·simp [qah,qad,l1]
    ·simp [qah,qad,n2,t0]
    ·simp [qad,t1,nz]
    all_goals simp [e1,e2,e3,e4,e8,e9,Config.ce,hk0]
   ·have i0:0≠a:=qaw l0 la (by simp);have i1:1≠a:=qaw l1 la (by simp);have i2:0≠b:=qaw l0 lb (by simp);have i3:1≠b:=qaw l1 lb (by simp);have j0:=i0.symm;have j1:=i1.symm;have j2:=i2.symm;have j3:=i3.symm;have hba:=hab.symm;simp [c_164_l0,e1,e2,e3,e4,e9,e10,hi,d0,hw1,qad,l1,la,lb,i1,i3,j3,hba,mR,mM,c1,c2];refine ih _ _ ⟨_,_,_,_,rfl,?_,?_,?_,.inr ⟨a,b,by rw [sR],?_,by rw [sM],?_,hab⟩,?_,?_,?_,?_,?_,?_,?_⟩
    ·repeat' first | exact hT' | apply qao
    ·simp [qad,l0,i0,i2]
    ·simp [qad,l1,i1,i3]
    ·simp [qad,la,j1,hab]
    ·simp [qad,lb,j3,hba]
    all_goals simp [e1,e2,e3,e4,e8,e9,Config.ce]
  ·have vR:R[i]=c.rows[i]:=by simp [<- hR,show ¬k=i by omega]
   have vM:M[i]=c.nextID[i]:=by simp [<- hNn,show ¬k=i by omega]
   rw [vR] at sR;rw [vM] at sM;have d0:¬(i:Int)=(k:Int):=by omega
   rcases hw with ⟨rfl,rfl,rfl⟩ | ⟨a,b,rfl,la,rfl,lb,hab⟩
   ·have hk0:¬k=0:=fun h=>hik h.symm
    have hk1:¬0=k:=fun h=>hik h
    simp [c_164_l0,cSe,cIe,e1,e4,e9,e10,hi,i2,hk1,t0,t1,wr1,qah,qad,l1,n2,nz];refine ih _ _ ⟨_,_,_,_,rfl,?_,?_,?_,.inr ⟨N',N'+1,by rw [sR],?_,by rw [sM],?_,by omega⟩,?_,?_,?_,?_,?_,?_,?_⟩
    ·repeat' first | exact hTm | apply qao | apply qhk | omega
    ·simp [qah,qad,l0]
    ·simp [qah,qad,l1]
    ·simp [qah,qad,n2,t0]
    ·simp [qad,t1,nz]
    all_goals simp [e1,e2,e3,e4,e8,e9,Config.ce]
   ·have i0:0≠a:=qaw l0 la (by simp);have i1:1≠a:=qaw l1 la (by simp);have i2':0≠b:=qaw l0 lb (by simp);have i3:1≠b:=qaw l1 lb (by simp);have j0:=i0.symm;have j1:=i1.symm;have j2:=i2'.symm;have j3:=i3.symm;have hba:=hab.symm;simp [c_164_l0,cSe,cIe,e1,e4,e9,e10,hi,i2,d0,hw1,qad,l1,la,lb,i1,i3,j3,hba,mR,mM,c1,c2];refine ih _ _ ⟨_,_,_,_,rfl,?_,?_,?_,.inr ⟨a,b,by rw [sR],?_,by rw [sM],?_,hab⟩,?_,?_,?_,?_,?_,?_,?_⟩
    ·repeat' first | exact hT' | apply qao
    ·simp [qad,l0,i0,i2']
    ·simp [qad,l1,i1,i3]
    ·simp [qad,la,j1,hab]
    ·simp [qad,lb,j3,hba]
    all_goals simp [e1,e2,e3,e4,e8,e9,Config.ce]
 ·rintro e _ L hL ⟨O',N',w1,w2,rfl,hT',l0,l1,hw,e1,e2,e3,e4,e8,e9,e10⟩;rw [Config.ce] at e4;simp [c_164_l0,c_164_k1,e4,e8,e9,e10,hL,l0,l1,qad];rw [hq];have tR:(R.map (cS 5 Rw.c)).take c.rows.length=R.map (cS 5 Rw.c):=Qo (by simp;omega);have tM:(M.map cI).take c.rows.length=M.map cI:=Qo (by simp;omega);rcases hw with ⟨hz,rfl,rfl⟩ | ⟨a,b,rfl,la,rfl,lb,hab⟩
  ·omega
  ·rw [tR,tM];simp [Config.ce]
 ·refine ⟨_,_,.fslice 1 [],.fslice 1 [],rfl,?_,?_,?_,.inl ⟨rfl,rfl,rfl⟩,?_,?_,?_,?_,?_,?_,?_⟩
  all_goals simp [qbv,qgf,Config.ce]
theorem quk {l:List Rw} {id:Int} (h:rIdx l id=none):rIx l id= -1:=by simp [rIx,h]
theorem qul {l:List Rw} {id:Int} {i:Nat} (h:rIdx l id=some i):rIx l id=i:=by simp [rIx,h]
section
variable {p:Prg} (f:PrgS p) (hv:∀t∈p.tables,∀v∈t.dflt.args,ok32 0 v) {c:Config} (v:CfgV p c) (s:CfgT c) (t:Int)
include f hv v s
theorem qyb (x:Entry) (hx:EntS x):qab Φ f_77 [.agg (Prg.c p),.agg (Config.c c),.int .i64 t,.agg (Entry.c x)]=
  some (.val (.tup [.agg (Config.c (if insE p c t x=0 then insC c t x else c)),.int .i64 (if insE p c t x=0 then qcd c t else 0),.int .i64 (insE p c t x)])):=by
 rw [qaa (fn:=c_77) rfl rfl];have he:=quv p f hv t x hx;simp only [Prg.e,Entry.ce] at he;by_cases z0:t<0
 ·have hE:insE p c t x=8:=by simp [insE,inT];omega
  simp [c_77,Prg.e,Config.ce,Entry.ce,hE,z0]
 by_cases z1:(p.tables.length:Int)<=t
 ·have hE:insE p c t x=8:=by simp [insE,inT];omega
  simp [c_77,Prg.e,Config.ce,Entry.ce,hE,z0,z1]
 obtain ⟨k,rfl⟩:∃k:Nat,t=k:=⟨t.toNat,by omega⟩;have hk:k<p.tables.length:=by omega
 have hk1:k<c.rows.length:=by rw [v.rl];exact hk
 have hk2:k<c.nextID.length:=by rw [v.nl];exact hk
 have hi:=qg4 hk;have hkn:¬p.tables.length<=k:=by omega
 have hrow:qbi c (k:Int)=c.rows[k]:=qbr hk1;have hnx:qcd c (k:Int)=c.nextID[k]:=qfm hk2;have hsz:qm5 p (k:Int)=p.tables[k].size:=qli hk;have hE:insE p c k x=if entE p k x≠0 then entE p k x else if (c.rows[k].any fun y=>sk y.entry x)=true then 7 else if p.tables[k].size<=c.rows[k].length\/1073741824<=c.nextID[k] then 13 else 0:=by
  unfold insE;rw [hi,hrow,hnx,hsz];simp
 by_cases y:entE p k x=0
 rotate_left
 ·rw [if_pos y] at hE;simp [c_77,Prg.e,Config.ce,Entry.ce,hE,hkn,he,y]
 rw [if_neg (by simpa using y)] at hE;rw [y] at he;have hsl:=s.rs _ (Qd hk1);have htk:=qvf c.rows[k] x hsl.1 fun r hr=>(hsl.2 r hr).kl
 simp only [Entry.ce] at htk;cases w:c.rows[k].any fun y=>sk y.entry x with
 | true=>
  rw [if_pos w] at hE;rw [w] at htk;simp [c_77,Prg.e,Config.ce,cSe,Entry.ce,hE,hkn,hk1,he,htk]
 | false=>
 rw [if_neg (by rw [w];decide)] at hE;rw [w] at htk;by_cases u:p.tables[k].size<=c.rows[k].length
 ·rw [if_pos (.inl u)] at hE;simp [c_77,Prg.e,Config.ce,cSe,Tbl.e,Entry.ce,hE,hk,hkn,hk1,he,htk,u]
 by_cases q:1073741824<=c.nextID[k]
 ·rw [if_pos (.inr q)] at hE;simp [c_77,Prg.e,Config.ce,cSe,cIe,Tbl.e,Entry.ce,hE,hk,hkn,hk1,hk2,he,htk,u,q]
 rw [if_neg (by omega)] at hE;have hvt:=v.at hk;have hrp:=qjl c k (c.rows[k]++[⟨c.nextID[k],x⟩]) (c.nextID[k]+1) hk1 (by rw [v.nl,v.rl]) (by have:=s.rl;omega);have hw:IntKind.wrap .i64 (c.nextID[k]+1)=c.nextID[k]+1:=qa6 (by have:=hvt.nx0;omega) (by omega);have hci:insC c (k:Int) x=⟨c.rows.set k (c.rows[k]++[⟨c.nextID[k],x⟩]),c.nextID.set k (c.nextID[k]+1),c.defaults,c.registers⟩:=by
  unfold insC;rw [hrow,hnx];simp
 rw [hE,if_pos rfl,if_pos rfl,hci,hnx];generalize hR:Config.c ⟨c.rows.set k (c.rows[k]++[⟨c.nextID[k],x⟩]),c.nextID.set k (c.nextID[k]+1),c.defaults,c.registers⟩=R at hrp ⊢;have hRl:R.length=4:=by rw [<- hR];simp
 obtain ⟨r0,r1,r2,r3,rfl⟩:∃r0 r1 r2 r3,R=[r0,r1,r2,r3]:=by
  match R,hRl with
  | [r0,r1,r2,r3],_=>exact ⟨_,_,_,_,rfl⟩
 have hs0:∀H:AH,snap 38 H r0=some r0/\snap 38 H r1=some r1/\snap 38 H r2=some r2/\snap 38 H r3=some r3:=by
  intro H;rw [Config.ce] at hR;cases hR;simp
 have hal:qcf 5 (c.rows[k].map Rw.c)=true:=qcb 5 Rw.c _ fun x=>by simp
 have hls:=v.small _ (Qd hk1);have b1:c.rows[k].length*72<=70368744177664:=by omega
 have b2:(c.rows[k].length+1)*72<=70368744177664:=by omega
 simp only [Config.ce,List.map_append,List.map_cons,List.map_nil,Rw.ce] at hrp;simp [c_77,Prg.e,Config.ce,cSe,cIe,Tbl.e,Entry.ce,hk,hkn,hk1,hk2,he,htk,u,q,hal,b1,b2,hw,hrp,hs0]
end
section
variable {p:Prg} (f:PrgS p) (hv:∀t∈p.tables,∀v∈t.dflt.args,ok32 0 v) {c:Config} (v:CfgV p c) (s:CfgT c) (t:Int)
include f hv v s
theorem qqz (x:ActionCall) (hx:x.args.length<2^40) (hr:∀v∈x.args,ok32 0 v):qab Φ f_80 [.agg (Prg.c p),.agg (Config.c c),.int .i64 t,.agg (ActionCall.c x)]=
  some (.val (.tup [.agg (Config.c (if defE p t x=0 then defC c t x else c)),.int .i64 (defE p t x)])):=by
 rw [qaa (fn:=c_80) rfl rfl];have hc:=qon p f hv t x hx hr;simp only [Prg.e,ActionCall.ce] at hc;by_cases z0:t<0
 ·have hE:defE p t x=8:=by simp [defE,inT];omega
  simp [c_80,Prg.e,Config.ce,ActionCall.ce,hE,z0]
 by_cases z1:(p.tables.length:Int)<=t
 ·have hE:defE p t x=8:=by simp [defE,inT];omega
  simp [c_80,Prg.e,Config.ce,ActionCall.ce,hE,z0,z1]
 obtain ⟨k,rfl⟩:∃k:Nat,t=k:=⟨t.toNat,by omega⟩;have hk:k<p.tables.length:=by omega
 have hkn:¬p.tables.length<=k:=by omega
 have hk1:k<c.defaults.length:=by rw [v.dl];exact hk
 have hE:defE p k x=qbb p k x:=by simp [defE,qg4 hk]
 by_cases q:qbb p k x=0
 rotate_left
 ·simp [c_80,Prg.e,Config.ce,ActionCall.ce,hE,hkn,hc,q]
 have hal:qcf 2 (c.defaults.map ActionCall.c)=true:=qcb 2 ActionCall.c _ fun x=>by simp
 have hne:¬c.defaults=[]:=by intro e;rw [e] at hk1;simp at hk1
 have hdl:=s.dl;have b1:c.defaults.length*32<=70368744177664:=by omega
 have hci:defC c (k:Int) x=⟨c.rows,c.nextID,c.defaults.set k x,c.registers⟩:=by simp [defC]
 rw [q] at hc;rw [hE,q,if_pos rfl,hci];have hset:∀H,mapO (mapO (snap 37 H)) (((c.defaults.map ActionCall.c).set k [.int .i64 x.action,.slice 1 (x.args.map c32)]).take c.defaults.length)=some ((c.defaults.map ActionCall.c).set k [.int .i64 x.action,.slice 1 (x.args.map c32)]):=by
  intro H;rw [Qo (by simp),<- ActionCall.ce,<- List.map_set];exact qd3 (n:=37) (H:=H) (fun x=>qu8 x) _
 simp [c_80,Prg.e,Config.ce,ActionCall.ce,hkn,hc,hal,hne,b1,hk1,hset]
theorem qya (id:Int):qab Φ f_79 [.agg (Prg.c p),.agg (Config.c c),.int .i64 t,.int .i64 id]=
  some (.val (.tup [.agg (Config.c (if delE p c t id=0 then delC c t id else c)),.int .i64 (delE p c t id)])):=by
 have _:=f;have _:=hv;rw [qaa (fn:=c_79) rfl rfl];by_cases z0:t<0
 ·have hE:delE p c t id=8:=by simp [delE,inT];omega
  simp [c_79,Prg.e,Config.ce,hE,z0]
 by_cases z1:(p.tables.length:Int)<=t
 ·have hE:delE p c t id=8:=by simp [delE,inT];omega
  simp [c_79,Prg.e,Config.ce,hE,z0,z1]
 obtain ⟨k,rfl⟩:∃k:Nat,t=k:=⟨t.toNat,by omega⟩;have hk:k<p.tables.length:=by omega
 have hkn:¬p.tables.length<=k:=by omega
 have hk1:k<c.rows.length:=by rw [v.rl];exact hk
 have hk2:k<c.nextID.length:=by rw [v.nl];exact hk
 have hrow:qbi c (k:Int)=c.rows[k]:=qbr hk1;have hls:=v.small _ (Qd hk1);have hix:=qpu c.rows[k] id (by omega);cases hx:rIdx c.rows[k] id with
 | none=>
  have hE:delE p c k id=8:=by simp [delE,qg4 hk,hrow,hx]
  rw [quk hx] at hix;simp [c_79,Prg.e,Config.ce,cSe,hE,hkn,hk1,hix]
 | some i=>
  obtain ⟨hi,hid⟩:=qgb hx;have hE:delE p c k id=0:=by simp [delE,qg4 hk,hrow,hx]
  rw [qul hx] at hix;have hci:delC c (k:Int) id=⟨c.rows.set k (c.rows[k].eraseIdx i),c.nextID.set k c.nextID[k],c.defaults,c.registers⟩:=by
   unfold delC;rw [hrow,hx];simp
  have hrp:=qjl c k (c.rows[k].eraseIdx i) c.nextID[k] hk1 (by rw [v.nl,v.rl]) (by have:=s.rl;omega);rw [hE,if_pos rfl,hci];generalize hR:Config.c ⟨c.rows.set k (c.rows[k].eraseIdx i),c.nextID.set k c.nextID[k],c.defaults,c.registers⟩=R at hrp ⊢;have hRl:R.length=4:=by rw [<- hR];simp
  obtain ⟨r0,r1,r2,r3,rfl⟩:∃r0 r1 r2 r3,R=[r0,r1,r2,r3]:=by
   match R,hRl with
   | [r0,r1,r2,r3],_=>exact ⟨_,_,_,_,rfl⟩
  have hs0:∀H:AH,snap 38 H r0=some r0/\snap 38 H r1=some r1/\snap 38 H r2=some r2/\snap 38 H r3=some r3:=by
   intro H;rw [Config.ce] at hR;cases hR;simp
  have a1:i<=c.rows[k].length:=by omega
  have a2:(i:Int)+1<=(c.rows[k].length:Int):=by omega
  have a3:(0:Int)<=(i:Int)+1:=by omega
  have a4:i+1<=c.rows[k].length:=by omega
  have a5:min i c.rows[k].length=i:=by omega
  have hw:IntKind.wrap .i64 ((i:Int)+1)=(i:Int)+1:=qa6 (by omega) (by omega);have hneg:¬(i:Int)<0:=by omega
  have t1:qcf 5 ((c.rows[k].map Rw.c).take i)=true:=by rw [<- List.map_take];exact qcb 5 Rw.c _ fun x=>by simp
  have t2:qcf 5 ((c.rows[k].map Rw.c).drop (i+1))=true:=by rw [<- List.map_drop];exact qcb 5 Rw.c _ fun x=>by simp
  have htk:((c.rows[k].map Rw.c).drop (i+1)).take (c.rows[k].length - (i+1))=(c.rows[k].map Rw.c).drop (i+1):=Qo (by simp);have b1:i*72<=70368744177664:=by omega
  have b2:(i+(c.rows[k].length - (i+1)))*72<=70368744177664:=by omega
  have b3:(c.rows[k].length - (i+1))+(i+1)=c.rows[k].length:=by omega
  rw [List.eraseIdx_eq_take_drop_succ,List.map_append,List.map_take,List.map_drop] at hrp;simp only [Config.ce] at hrp;simp [c_79,Prg.e,Config.ce,cSe,cIe,hkn,hk1,hk2,hix,hneg,a1,a2,a3,a5,hw,htk,t1,t2,b1,b2,hrp,hs0]
end
end Go.Av
