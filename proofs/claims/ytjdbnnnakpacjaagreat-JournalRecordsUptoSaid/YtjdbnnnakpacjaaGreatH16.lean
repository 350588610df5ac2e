/-
 Insert adds a row.
-/
import Derived.Test.YtjdbnnnakpacjaaGreatH7
set_option linter.unusedVariables false
set_option linter.unusedSimpArgs false
set_option linter.constructorNameAsVariable false
namespace Go.Av
set_option maxRecDepth 4000
theorem qafo (r:Rw) (x:Entry) (hb:r.entry.keys.length<2^40):qad Φ f_161 [.agg (Rw.c r),.iptr 4 [Entry.c x] 0 0]=some (.val (.bool (sk r.entry x))):=by
 rw [qaa (fn:=c_161) rfl rfl];have h:=qw9 r.entry x hb;simp [c_161,Rw.ce,Entry.ce,h]
theorem qzn (l:List Rw) (x:Entry) (hl:l.length<2^40) (hs:∀r∈l,r.entry.keys.length<2^40):qad Φ f_223 [.slice 5 (l.map Rw.c),.func (.func f_161) [] [.iptr 4 [Entry.c x] 0 0]]=some (.val (.int .i64 (ix (fun r=>sk r.entry x) l 0))):=by
 rw [qaa (fn:=c_223) rfl rfl];simp [c_223];refine (qdg l.length (fun i e=>look 0 e=some (.slice 5 (l.map Rw.c))/\look 1 e=some (.func (.func f_161) [] [.iptr 4 [Entry.c x] 0 0])/\look 7 e=some (.int .i64 l.length)/\look 8 e=some (.int .i64 i))
  (fun i=>some (.val (.int .i64 (ix (fun r=>sk r.entry x) l i)))) ?_ ?_ 0 _ (Qc _) ?_).trans (by simp)
 ·rintro i e L hi hL ⟨h0,h1,h7,h8⟩ ih;have hw:=qap i (by omega);have hd:=qafo l[i] x (hs _ (Qd hi));simp only [Rw.ce,Entry.ce] at hd h1;cases z:sk l[i].entry x with
  | true=>
   rw [qi6 hi (by simpa using z)];rw [z] at hd;simp [c_223_l0,Rw.ce,h0,h1,h7,h8,hi,hd]
  | false=>
   rw [qhl hi (by simpa using z)];rw [z] at hd;simp [c_223_l0,Rw.ce,h0,h1,h7,h8,hi,hd,hw];exact ih _ ⟨by simp [h0],by simp [h1,Entry.ce],by simp [h7],by simp⟩
 ·rintro e L hL ⟨h0,h1,h7,h8⟩;rw [qi5];simp [c_223_l0,c_223_k1,h7,h8,hL]
 ·simp
theorem qy2 (l:List Rw) (x:Entry) (hl:l.length<2^40) (hs:∀r∈l,r.entry.keys.length<2^40):qad Φ f_160 [.slice 5 (l.map Rw.c),.func (.func f_161) [] [.iptr 4 [Entry.c x] 0 0]]=some (.val (.bool (l.any fun r=>sk r.entry x))):=by
 rw [qaa (fn:=c_160) rfl rfl];have h:=qzn l x hl hs;simp only [Entry.ce] at h;rw [<- qku];simp [c_160,Entry.ce,h]
theorem qwm {O:List (Nat×AO)} {N:Nat} {S:SV} {p:Prg} {c:Xf} (m:StoreM O S p c) (f:PrgS p) (v:CfgV p c) (s:CfgT c) (hT:Tail O N) (t:Int) (x:Entry) (hx:EntS x):
  MDpost N O S p (if insE p c t x=0 then insC c t x else c) (.tup [.int .i64 (if insE p c t x=0 then qer c t else 0),.int .i64 (insE p c t x)]) (qah Φ f_93 [.ptr S.s 15 0 0,.int .i64 t,.agg (Entry.c x)] ⟨O,N⟩):=by
 rw [qav (fn:=c_93) rfl rfl];have t0:=hT N (Qb _);have hl:=v.rl;have hk1:Kp (fun j=>S.own j\/Rs O j) N O (O++[(N,AO.row 4 [Entry.c x])]):=Kp.app (fun _ _ _=>rfl) (Qb _);have hT1:=hT.app1 (o:=AO.row 4 [Entry.c x]) (Qb N);have m1:StoreM (O++[(N,AO.row 4 [Entry.c x])]) S p c:=m.kp (X:=fun _=>False) hT (Kp.app (fun _ _ _=>rfl) (Qb _)) (by simp);have b1:look N (O++[(N,AO.row 4 [Entry.c x])])=some (.row 4 [Entry.c x]):=by rw [qag,t0];simp
 have same:insE p c t x≠0->MDpost N O S p (if insE p c t x=0 then insC c t x else c) (.tup [.int .i64 (if insE p c t x=0 then qer c t else 0),.int .i64 (insE p c t x)]) (some (.val (.tup [.int .i64 0,.int .i64 (insE p c t x)]),⟨O++[(N,AO.row 4 [Entry.c x])],N+1⟩)):=by
  intro h;rw [QA h,QA h];exact ⟨S,_,_,rfl,m1,rfl,fun j hj=> .inl hj,hk1,hT1,by omega⟩
 have hs:=m1.se;have ht:=qmw (N:=N+1) m1 hl t;have he:=qtx p f t x hx;simp only [Prg.e] at he;simp only [Entry.ce] at b1 hs ht he same;cases z:inT p t with
 | false=>
  have hE:insE p c t x=8:=by simp [insE,z]
  rw [z] at ht;have same:=same (by rw [hE];decide);rw [hE] at same ⊢;simp [c_93,Entry.ce,t0,hs,ht];simpa using same
 | true=>
 obtain ⟨k,rfl,hk⟩:=qex z;have hk':k<c.rows.length:=by omega
 have hkn:k<c.Xr.length:=by rw [v.nl];exact hk
 have hrow:qcd c (k:Int)=c.rows[k]:=qdu hk';have hnx:qer c (k:Int)=c.Xr[k]:=qjt hkn;have hsz:qny p (k:Int)=p.Xn[k].size:=qnz hk;have hE:insE p c k x=if entE p k x≠0 then entE p k x else if (c.rows[k].any fun y=>sk y.entry x)=true then 7 else if p.Xn[k].size<=c.rows[k].length\/1073741824<=c.Xr[k] then 13 else 0:=by
  unfold insE;rw [z,hrow,hnx,hsz];simp
 rw [z] at ht;by_cases y:entE p k x=0
 rotate_left
 ·rw [QAa y] at hE;have same:=same (by rw [hE];exact y);rw [hE] at same ⊢;simp [c_93,Entry.ce,t0,hs,ht,b1,he,y];simpa [y] using same
 rw [QA (by simpa using y)] at hE;rw [y] at he;obtain ⟨rid,es1,e1,lr,hle1,⟨hV,g1,g5⟩,ht1⟩:=m1.tab hk';have hsl:=s.rs _ (Qd hk');have hcon:=qy2 c.rows[k] x hsl.1 fun r hr=>(hsl.2 r hr).kl
 have hsnp:=fun n=>g5.snp (N:=N+1) (n:=n)
 have hsn2:∀n,snap (n+2) ⟨O++[(N,AO.row 4 [Entry.c x])],N+1⟩ S.V[k]=some (.slice 5 (c.rows[k].map Rw.c)):=fun n=>by
  rw [hsnp (n+1),qez (n:=n+1) (fun x=>qyg x)];rfl
 have hsn3:=hsn2 38;rw [e1] at hs;simp only [Entry.ce] at hcon hsn3 lr;cases w:c.rows[k].any fun y=>sk y.entry x with
 | true=>
  rw [QAa w] at hE;have same:=same (by rw [hE];decide);rw [w] at hcon;rw [hE] at same ⊢;simp [c_93,Entry.ce,t0,hs,ht,b1,he,lr,hk',g1,hsn3,hcon];simpa using same
 | false=>
 rw [QA (by rw [w];decide)] at hE;rw [w] at hcon;have hvl:=g5.len;rw [QAb] at hvl;obtain ⟨nid,esn,e2,ln,hle2,ht2⟩:=m1.cm.n.nonempty (by simp;omega);rw [QAb] at e2 hle2;have gn:=qew hkn ht2;rw [cIe] at gn;rw [e2] at hs;simp only [Entry.ce] at ln;have hkt:=hk;by_cases u:p.Xn[k].size<=c.rows[k].length
 ·rw [QAa (.inl u)] at hE;have same:=same (by rw [hE];decide);rw [hE] at same ⊢;simp [c_93,Entry.ce,Tbl.e,t0,hs,ht,b1,he,lr,hk',g1,hsn3,hcon,hvl,ln,hkn,gn,hkt,u,-lenOf];simpa using same
 by_cases q:1073741824<=c.Xr[k]
 ·rw [QAa (.inr q)] at hE;have same:=same (by rw [hE];decide);rw [hE] at same ⊢;simp [c_93,Entry.ce,Tbl.e,t0,hs,ht,b1,he,lr,hk',g1,hsn3,hcon,hvl,ln,hkn,gn,hkt,u,q,-lenOf];simpa using same
 rw [QA (by omega)] at hE;rw [hE];have hM:=m1.x.len;obtain ⟨iid,esi,e3,li,hle3,hMk,gi,lm⟩:=m1.idx hk';rw [e3] at hs;simp only [Entry.ce] at li lm;have hv:=v.at hk;have hput:=qmq c.Xr[k] (.int .i64 (c.rows[k].length:Nat)) c.rows[k] 0 fun r hr=>by have:=hv.lt r hr;omega
 rw [show qd0 c.rows[k] 0=ents c.rows[k] from rfl] at hput;have hce:=qpb x hx.al hx.kl;simp only [Entry.ce] at hce;simp [c_93,Entry.ce,Tbl.e,t0,hs,ht,b1,he,lr,hk',g1,hsn3,hcon,hvl,ln,hkn,gn,hkt,u,q,li,lm,gi,hput,-lenOf,-qzj];generalize hO2:setl S.M[k] (AO.map (ents c.rows[k]++[(AV.int IntKind.i64 c.Xr[k],AV.int IntKind.i64 (c.rows[k].length:Nat))])) (O++[(N,AO.row 4 [[AV.slice 2 (List.map Xi.c x.keys),AV.int IntKind.i64 x.Xt,AV.int IntKind.i64 x.call.action,AV.slice 1 (List.map c32 x.call.args)]])])=O2;rw [<- Entry.ce] at hO2;have hlm:look S.M[k] (O++[(N,AO.row 4 [Entry.c x])])=some (.map (ents c.rows[k])):=m1.x.m k _ _ (Qa hMk) (Qa hk');have k2:∀j,j≠S.M[k]->look j O2=look j (O++[(N,AO.row 4 [Entry.c x])]):=fun j hj=>by rw [<- hO2,qac,QA hj]
 have hT2:Tail O2 (N+1):=by rw [<- hO2];exact qai hT1
 have kr:∀j z es,look j (O++[(N,AO.row 4 [Entry.c x])])=some (.row z es)->look j O2=some (.row z es):=fun j z es hj=>by rw [k2 j (qam hj hlm (by simp)),hj]
 have ls2:=kr S.s _ _ (by simp only [Entry.ce];exact hs);have lr2:=kr rid _ _ (by simp only [Entry.ce];exact lr);have ln2:=kr nid _ _ (by simp only [Entry.ce];exact ln);have lb2:=kr N _ _ (by simp only [Entry.ce];exact b1);have lm2:look S.M[k] O2=some (.map (ents c.rows[k]++[(AV.int IntKind.i64 c.Xr[k],AV.int IntKind.i64 (c.rows[k].length:Nat))])):=by rw [<- hO2,qac,QAa rfl,hlm];rfl
 clear hO2;have u0:=hT2 (N+1+112) (by omega);have fsx:=qbx (n:=N+1+112) hT2 ls2 (by omega);have frx:=qbx (n:=N+1+112) hT2 lr2 (by omega);have fnx:=qbx (n:=N+1+112) hT2 ln2 (by omega);have fnb:¬N=N+1+112/\¬N+1+112=N:=by omega
 have hrn:¬rid=nid:=fun e=>m1.cm.rn rid (by rw [e1];rfl) (by rw [e2,e];rfl)
 have hnr:¬nid=rid:=fun e=>hrn e.symm
 have hwr:IntKind.wrap .i64 (c.Xr[k]+1)=c.Xr[k]+1:=qbu (by have:=hv.nx0;omega) (by omega);have hsr:=qam ls2 lr2 (by simp);have hsn:=qam ls2 ln2 (by simp);have hrs:=hsr.symm;have hns:=hsn.symm;have hbeq:(S.s == N+1+112)=false:=by simp [fsx]
 have hkl1:k<es1.length:=by omega
 have hkln:k<esn.length:=by omega
 have hci:insC c (k:Int) x=⟨c.rows.set k (c.rows[k]++[⟨c.Xr[k],x⟩]),c.Xr.set k (c.Xr[k]+1),c.Xq,c.Xm⟩:=by
  unfold insC;rw [hrow,hnx];simp
 have hsnoc:ents (c.rows[k]++[⟨c.Xr[k],x⟩])=ents c.rows[k]++[(AV.int IntKind.i64 c.Xr[k],AV.int IntKind.i64 (c.rows[k].length:Nat))]:=qph _ _;have hVl:=m1.cm.rl;have fin:∀(O':List (Nat×AO)) (N':Nat) (v':AV),Tail O' N'->N<=N'->look rid O'=some (.row 1 (es1.set k [v']))->look nid O'=some (.row 1 (esn.set k [.int .i64 (c.Xr[k]+1)]))->
   (∀j,j<N+1->j≠rid->j≠nid->(∀i,vid S.V[k]=some i->j≠i)->look j O2≠some .res->look j O'=look j O2)->Mu O' 5 v' ((c.rows[k]++[Rw.mk c.Xr[k] x]).map Rw.c)->(∀z es t,v'≠ .app z es t)->(∀i,vid v'=some i->vid S.V[k]=some i\/N+1<=i)->
   MDpost N O S p (insC c (k:Int) x) (.tup [.int .i64 (qer c (k:Int)),.int .i64 0]) (some (.val (.tup [.int .i64 c.Xr[k],.int .i64 0]),⟨O',N'⟩)):=by
  intro O' N' v' hT' hN' a1 a2 a3 a4 a5 a6;rw [hnx,hci];have own1:S.own rid:= .inr (.inl (.inl (by rw [e1];rfl)));have own2:S.own nid:= .inr (.inl (.inr (.inl (by rw [e2];rfl))));have own3:S.own S.M[k]:= .inr (.inr (.inr (Qd hMk)));have own4:∀i,vid S.V[k]=some i->S.own i:=fun i hi=> .inr (.inl (.inr (.inr (.inr ⟨_,Qd hV,hi⟩))))
  have keep:∀j,S.own j->¬S.chg k j->look j O'=look j (O++[(N,AO.row 4 [Entry.c x])]):=by
   intro j hj hc;obtain ⟨w,hw,hwn⟩:=m1.own_lk hj;have h2:look j O2=some w:=by
    rw [k2 j (fun e=>hc (.inr (.inr (.inr (.inr (by rw [e];exact Qa hMk)))))),hw]
   rw [a3 j (hT1.lt hw) (fun e=>hc (.inr (.inl (by rw [e,e1];rfl)))) (fun e=>hc (.inr (.inr (.inl (by rw [e,e2];rfl))))) (fun i hi e=>hc (.inl ⟨_,Qa hV,by rw [e];exact hi⟩)) (by rw [h2];simpa using hwn),h2,hw]
  have h5no:∀i,vid S.V[k]=some i->∃es,look i (O++[(N,AO.row 4 [Entry.c x])])=some (.row 5 es):=fun i hi=>m1.vrow (Qa hV) hi
  have up:=m1.upd (k:=k) (v':=v') (m':=S.M[k]) (l':=c.rows[k]++[⟨c.Xr[k],x⟩]) (nx:=c.Xr[k]+1) (O':=O') hk' keep
   (by
    have hmu:=Mu.upd (O':=O') (id:=rid) (z:=1) (k:=k) (es:=S.V.map fun x=>[x]) (es0:=es1) (y:=[v']) a1 (by rw [QAb,hVl];exact hle1) (by rw [QAb,hVl];exact ht1);rw [QAb,hVl] at hmu;rw [e1,List.map_set];exact hmu)
   (by
    have hmu:=Mu.upd (O':=O') (id:=nid) (z:=1) (k:=k) (es:=c.Xr.map cI) (es0:=esn) (y:=[.int .i64 (c.Xr[k]+1)]) a2 (by rw [QAb];exact hle2) ht2;rw [QAb] at hmu;rw [e2,List.map_set,cIe];exact hmu)
   (by
    have hmm:S.M.set k S.M[k]=S.M:=by simp
    rw [hmm];refine m1.x.i.fr fun i hi=>?_
    obtain ⟨es0,hl0⟩:=m1.x.i.own hi;have h2:=kr i _ _ hl0;rw [a3 i (hT1.lt hl0) (fun e=>m1.ri i (by rw [e,e1];rfl) hi) (fun e=>m1.ni i (by rw [e,e2];rfl) hi) (fun i' hi' e=>by obtain ⟨es5,h5⟩:=h5no i' hi';exact qam hl0 h5 (by simp) e) (by rw [h2];simp),h2,hl0])
   a4
   (by
    rw [hsnoc,<- lm2];refine a3 _ (hT1.lt hlm) (fun e=>?_) (fun e=>?_) (fun i hi e=>?_) (by rw [lm2];simp)
    ·exact qam lm2 lr2 (by simp) e
    ·exact qam lm2 ln2 (by simp) e
    ·obtain ⟨es5,h5⟩:=h5no i hi;exact qam lm2 (kr i _ _ h5) (by simp) e)
   a5
   (fun i hi=>by
    rcases a6 i hi with h | h
    ·exact .inl ⟨_,Qa hV,h⟩
    ·exact .inr fun w hw=>by have:=hT1.lt hw;omega)
   (.inl (Qa hMk))
  refine ⟨S.tab k v' S.M[k],O',N',rfl,up,rfl,?_,?_,hT',hN'⟩
  ·intro j hj;rcases hj with hj | hj | hj | hj
   ·exact .inl (.inl hj)
   ·rcases hj with hj | hj | hj | ⟨w,hw,hj⟩
    ·exact .inl (.inr (.inl (.inl hj)))
    ·exact .inl (.inr (.inl (.inr (.inl hj))))
    ·exact .inl (.inr (.inl (.inr (.inr (.inl hj)))))
    ·rcases Qq hw with hw | rfl
     ·exact .inl (.inr (.inl (.inr (.inr (.inr ⟨w,hw,hj⟩)))))
     ·rcases a6 j hj with h | h
      ·exact .inl (own4 j h)
      ·exact .inr (by omega)
   ·exact .inl (.inr (.inr (.inl hj)))
   ·simp only [SV.tab] at hj;rcases Qq hj with hj | rfl
    ·exact .inl (.inr (.inr (.inr hj)))
    ·exact .inl own3
  ·intro j hj hx;have hx1:¬S.own j:=fun h=>hx (.inl h)
   have hx2:¬look j O=some .res:=fun h=>hx (.inr h)
   have h1:=hk1 j hj hx;have h2:=k2 j (fun e=>hx1 (by rw [e];exact own3));rw [a3 j (by omega) (fun e=>hx1 (by rw [e];exact own1)) (fun e=>hx1 (by rw [e];exact own2)) (fun i hi e=>hx1 (by rw [e];exact own4 i hi)) (by rw [h2,h1];exact hx2),h2,h1]
 cases hVk:S.V[k] with
 | Xu z es=>
  rw [hVk] at g5 g1;have hl0:c.rows[k]=[]/\z=5/\es=[]:=by
   generalize hgen:c.rows[k].map Rw.c=gl at g5;cases g5;exact ⟨by simpa using hgen,rfl,rfl⟩
  obtain ⟨hl0,rfl,rfl⟩:=hl0;simp [ls2,lr2,ln2,lb2,u0,qag,qac,qaw,fsx,frx,fnx,fnb,hk',hkn,g1,hce,gn,hnr,hwr,hbeq,hsr];refine fin _ (N+1+112+1) (.row (N+1+112) 5 0 1) ?_ (by omega) ?_ ?_ ?_ ?_ (by simp) (by intro i hi;cases hi;right;omega)
  ·refine qai (qdw (qai ?_));exact qgu (hT2.mono (by omega)) (QCn _)
  ·simp [qac,qaw,qag,lr2,hrn]
  ·simp [qac,qaw,qag,ln2,hnr]
  ·intro j hj b1 b2 b3 b4;have hj2:¬N+1+112=j:=by omega
   have hi:look j (setl rid (AO.row 1 (es1.set k [.row (N+1+112) 5 0 1])) (O2++[(N+1+112,AO.row 5 [[AV.int IntKind.i64 c.Xr[k],AV.slice 2 (List.map Xi.c x.keys),AV.int IntKind.i64 x.Xt,AV.int IntKind.i64 x.call.action,AV.slice 1 (List.map c32 x.call.args)]])]))=look j O2:=by
    rw [qac,QA b1,qag];simp [look,hj2]
   rw [qac,QA b2,qaw (by rw [hi];exact b4),hi]
  ·refine .row (N+1+112) _ [Rw.c (Rw.mk c.Xr[k] x)] _ (by simp [hl0]) ?_ (by simp [hl0]) (by simp [hl0]);simp [qac,qaw,fnx,frx,u0,Rw.ce]
 | row id5 z off n=>
  rw [hVk] at g5 g1;have hg:z=5/\off=0/\n=c.rows[k].length/\∃es5,look id5 (O++[(N,AO.row 4 [Entry.c x])])=some (.row 5 es5)/\c.rows[k].length<=es5.length/\es5.take c.rows[k].length=c.rows[k].map Rw.c:=by
   generalize hgen:c.rows[k].map Rw.c=gl at g5;have hlen:gl.length=c.rows[k].length:=by rw [<- hgen];simp
   cases g5 with
   | row _ _ es5 _ hn hl5 hle5 ht5=>exact ⟨rfl,rfl,by omega,es5,hl5,by omega,by rw [<- hlen];exact ht5⟩
  obtain ⟨rfl,rfl,rfl,es5,hl5,hle5,ht5⟩:=hg;have l52:=kr _ _ _ hl5;have f5:=qbx (n:=N+1+112) hT2 l52 (by omega);have h5s:=qam l52 ls2 (by simp);have h5r:=qam l52 lr2 (by simp);have h5n:=qam l52 ln2 (by simp);have hs5:=h5s.symm;have hr5:=h5r.symm;have hn5:=h5n.symm;have h5b:=qam l52 lb2 (by simp);have hb5:=h5b.symm;have hq5:(S.s == id5)=false:=by simpa using hs5
  have hbd:(c.rows[k].length+1)*72<=70368744177664:=by have:=v.small _ (Qd hk');omega
  have hls:=v.small _ (Qd hk');have hres:look (N+1+112) (O2++[(N+1+112,AO.res)])=some .res:=by rw [qag,u0];simp
  have hdr:look (N+1+112) (qbe id5 (O2++[(N+1+112,AO.res)]))=some .res:=by rw [qb1 (fun e=>f5.2 e),hres]
  by_cases hfull:c.rows[k].length=es5.length
  ·have hbd2:(es5.length+1)*72<=70368744177664:=by rw [<- hfull];exact hbd
   simp [ls2,lr2,ln2,lb2,u0,qag,qac,qaw,qb1,fsx,frx,fnx,fnb,hk',hkn,g1,hce,gn,hnr,hwr,hbeq,hsr,l52,f5,hs5,hr5,hn5,hq5,hbd2,hfull,hdr];refine fin _ (N+1+112+1) (.row (N+1+112) 5 0 (es5.length+1)) ?_ (by omega) ?_ ?_ ?_ ?_ (by simp) (by intro i hi;cases hi;right;omega)
   ·refine qai (qdw (qai (qai (qdv ?_))));exact qgu (hT2.mono (by omega)) (QCn _)
   ·simp [qac,qaw,qag,qb1,lr2,hrn,frx,hr5]
   ·simp [qac,qaw,qag,qb1,ln2,hnr,fnx,hn5]
   ·intro j hj b1 b2 b3 b4;have hj2:¬N+1+112=j:=by omega
    have hj3:¬j=N+1+112:=by omega
    have hj5:j≠id5:=b3 id5 (by rw [hVk];rfl);have hi:∀A B,look j (setl rid A (setl (N+1+112) B (qbe id5 (O2++[(N+1+112,AO.res)]))))=look j O2:=by
     intro A B;rw [qac,QA b1,qac,QA hj3,qb1 hj5,qag];simp [look,hj2]
    rw [qac,QA b2,qaw (by rw [hi];exact b4),hi]
   ·have htk:es5=c.rows[k].map Rw.c:=by rw [<- ht5,hfull,QAh]
    refine .row (N+1+112) _ (es5++[Rw.c (Rw.mk c.Xr[k] x)]) _ (by simp [hfull]) ?_ (by simp [htk]) (by simp [htk,Qo]);simp [qac,qaw,hdr,fnx,frx,Rw.ce]
  ·have hlt:c.rows[k].length<es5.length:=by omega
   have hlt2:c.rows[k].length+1<=es5.length:=by omega
   have hne:¬es5.length=c.rows[k].length:=by omega
   simp [ls2,lr2,ln2,lb2,u0,qag,qac,qaw,fsx,frx,fnx,fnb,hk',hkn,g1,hce,gn,hnr,hwr,hsr,l52,f5,hs5,hr5,hn5,hq5,hbd,hfull,hlt2];refine fin _ (N+1+112+1) (.row id5 5 0 (c.rows[k].length+1)) ?_ (by omega) ?_ ?_ ?_ ?_ (by simp) (by intro i hi;cases hi;left;rw [hVk];rfl)
   ·refine qai (qdw (qai (qai ?_)));exact qgu (hT2.mono (by omega)) (QCn _)
   ·simp [qac,qaw,qag,lr2,hrn,hr5]
   ·simp [qac,qaw,qag,ln2,hnr,hn5]
   ·intro j hj b1 b2 b3 b4;have hj2:¬N+1+112=j:=by omega
    have hj5:j≠id5:=b3 id5 (by rw [hVk];rfl);have hi:∀A B,look j (setl rid A (setl id5 B (O2++[(N+1+112,AO.res)])))=look j O2:=by
     intro A B;rw [qac,QA b1,qac,QA hj5,qag];simp [look,hj2]
    rw [qac,QA b2,qaw (by rw [hi];exact b4),hi]
   ·refine .row id5 _ (es5.take c.rows[k].length++Rw.c (Rw.mk c.Xr[k] x)::es5.drop (c.rows[k].length+1)) _ (by simp) ?_ (by simp;omega) ?_
    ·simp [qac,qaw,qag,l52,h5r,h5n,Rw.ce]
    ·rw [QAb,QAd,List.length_singleton,QBg,ht5];have hll:(c.rows[k].map Rw.c).length=c.rows[k].length:=by simp
     rw [List.take_append,hll,Qo (by rw [hll];omega),show c.rows[k].length+1 - c.rows[k].length=1 by omega];simp
 | app z es t=>exact absurd hVk (m1.cm.va _ (Qd hV) _ _ _)
 | _=>rw [hVk] at g5;cases g5
theorem qlf {α:Type} {f:Nat->Option α} {Q:α->Prop} (h:∀i x,f i=some x->Q x) {N:Nat} {x:α} (hx:fe f N 0=some x):Q x:=by
 obtain ⟨k,_,hk⟩:=qlg hx;exact h k x hk
theorem qaco {p:Prg} {d:Dg} (h:limD p=some d):d.1≠0:=by
 unfold limD at h
 repeat' split at h
 all_goals first | (cases h;simp;done) | cases h
theorem qace {p:Prg} {d:Dg} (h:hdrD p=some d):d.1≠0:=by
 refine qlf (Q:=fun d:Dg=>d.1≠0) (fun i x hx=>?_) h;rw [Qt] at hx;obtain ⟨a,_,hx⟩:=hx;split at hx
 ·cases hx
 ·cases hx;assumption
theorem qacr {p:Prg} {d:Dg} (h:metD p=some d):d.1≠0:=by
 unfold metD at h;split at h
 ·cases h;simp
 split at h
 ·rename_i d' hd';cases h;refine qlf (Q:=fun d:Dg=>d.1≠0) (fun i x hx=>?_) hd';rw [Qt] at hx;obtain ⟨a,_,hx⟩:=hx;split at hx
  ·cases hx
  ·cases hx;assumption
 ·refine qlf (Q:=fun d:Dg=>d.1≠0) (fun i x hx=>?_) h;split at hx
  ·cases hx
  ·cases hx;simp
theorem qads {p:Prg} {d:Dg} (h:regD p=some d):d.1≠0:=by
 refine qlf (Q:=fun d:Dg=>d.1≠0) (fun i x hx=>?_) h;rw [Qt] at hx;obtain ⟨a,_,hx⟩:=hx;split at hx
 ·cases hx
 ·cases hx;assumption
theorem qaa6 {p:Prg} {d:Dg} (h:qeu p=some d):d.1≠0:=by
 refine qlf (Q:=fun d:Dg=>d.1≠0) (fun i x hx=>?_) h;rw [Qt] at hx;obtain ⟨a,_,hx⟩:=hx;split at hx
 ·cases hx;assumption
 ·split at hx
  ·cases hx;simp
  ·cases hx
theorem qad9 {p:Prg} {d:Dg} (h:tblD p=some d):d.1≠0:=by
 refine qlf (Q:=fun d:Dg=>d.1≠0) (fun i x hx=>?_) h;rw [Qt] at hx;obtain ⟨a,_,hx⟩:=hx;split at hx
 ·cases hx;assumption
 ·split at hx
  ·cases hx;simp
  ·cases hx
theorem qab7 {p:Prg} {d:Dg} (h:floD p=some d):d.1≠0:=by
 unfold floD at h;split at h
 ·cases h;assumption
 split at h
 ·cases h;assumption
 split at h
 ·cases h;assumption
 ·cases h
structure PrgV (p:Prg):Prop where
 lim:limD p=none
 hdr:hdrD p=none
 met:metD p=none
 reg:regD p=none
 act:qeu p=none
 tbl:tblD p=none
 flo:floD p=none
theorem qts {p:Prg} (h:(prgD p).1=0):PrgV p:=by
 unfold prgD at h;cases h1:limD p with
 | some d=>rw [h1] at h;exact absurd h (qaco h1)
 | none=>
 cases h2:hdrD p with
 | some d=>rw [h1,h2] at h;exact absurd h (qace h2)
 | none=>
 cases h3:metD p with
 | some d=>rw [h1,h2,h3] at h;exact absurd h (qacr h3)
 | none=>
 cases h4:regD p with
 | some d=>rw [h1,h2,h3,h4] at h;exact absurd h (qads h4)
 | none=>
 cases h5:qeu p with
 | some d=>rw [h1,h2,h3,h4,h5] at h;exact absurd h (qaa6 h5)
 | none=>
 cases h6:tblD p with
 | some d=>rw [h1,h2,h3,h4,h5,h6] at h;exact absurd h (qad9 h6)
 | none=>
 cases h7:floD p with
 | some d=>rw [h1,h2,h3,h4,h5,h6,h7] at h;exact absurd h (qab7 h7)
 | none=>exact ⟨h1,h2,h3,h4,h5,h6,h7⟩
theorem PrgV.nest {p:Prg} (v:PrgV p):nest p.control<=6:=by
 have h:=v.flo;unfold floD at h;split at h
 ·cases h
 split at h
 ·cases h
 rename_i h1;refine Decidable.byContradiction fun hc=>h1 ?_
 unfold ctlE;split
 ·simp
 ·rw [QAa (by omega)];simp
theorem PrgV.tabs {p:Prg} (v:PrgV p):p.Xn.length<=12:=by
 have h:=v.lim;unfold limD at h
 repeat' split at h
 all_goals first | omega | cases h
theorem qgx {α:Type} (f:α->α->Bool):∀l:List α,(∀x∈l,f x x=true)->eqL f l l=true
 | [],_=>by simp [eqL]
 | x::r,h=>by simp [eqL,h x (QBl ..),qgx f r (fun y hy=>h y (QAr _ hy))]
def Rf (n:Nat) (v:AV):Prop:=avEq n v v=true
theorem Rf.int (n:Nat) (k:IntKind) (v:Int):Rf (n+1) (.int k v):=by unfold Rf avEq;simp
theorem Rf.bool (n:Nat) (b:Bool):Rf (n+1) (.bool b):=by unfold Rf avEq;simp
theorem Rf.str (n:Nat) (b:List UInt8):Rf (n+1) (.str b):=by unfold Rf avEq;simp
theorem Rf.row (n a b c d:Nat):Rf (n+1) (.row a b c d):=by unfold Rf avEq;simp
theorem Rf.slice (n z:Nat) (es:List (List AV)) (h:∀e∈es,∀c∈e,Rf n c):Rf (n+1) (.slice z es):=by
 have:=qgx (eqL (avEq n)) es fun e he=>qgx (avEq n) e (h e he)
 unfold Rf avEq;simp [this]
theorem Rf.Xu (n z:Nat) (es:List (List AV)) (h:∀e∈es,∀c∈e,Rf n c):Rf (n+1) (.Xu z es):=by
 have:=qgx (eqL (avEq n)) es fun e he=>qgx (avEq n) e (h e he)
 unfold Rf avEq;simp [this]
theorem Rf.app (n z t:Nat) (es:List (List AV)) (h:∀e∈es,∀c∈e,Rf n c):Rf (n+1) (.app z es t):=by
 have:=qgx (eqL (avEq n)) es fun e he=>qgx (avEq n) e (h e he)
 unfold Rf avEq;simp [this]
theorem Rf.map {α:Type} (n z:Nat) (f:α->List AV) (l:List α) (h:∀x∈l,∀c∈f x,Rf n c):Rf (n+1) (.slice z (l.map f)):=by
 refine Rf.slice n z _ fun e he=>?_
 obtain ⟨x,hx,rfl⟩:=QAv.1 he;exact h x hx
theorem qo2 (n:Nat) (x:Xe):∀c∈Xe.c x,Rf (n+1) c:=by
 simp [Xe.c,Rf.int]
theorem qsc (n:Nat) (x:Fld):∀c∈Fld.c x,Rf (n+1) c:=by
 simp [Fld.c,Rf.int,Rf.str]
theorem rf_I (n:Nat) (x:Int):∀c∈cI x,Rf (n+1) c:=by simp [cI,Rf.int]
theorem qv2 (n:Nat) (x:Int):∀c∈c32 x,Rf (n+1) c:=by simp [c32,Rf.int]
theorem qsb:∀(k:Nat) (l:List Xa),nest l<=k->Rf (k+3) (.slice 5 (l.map Xa.c))
 | 0,l,h=>by
  cases l with
  | nil=>exact Rf.slice _ _ _ (by simp)
  | cons x l=>simp only [nest] at h;omega
 | k+1,l,h=>by
  have key:∀x∈l,qhb x<=k:=by
   intro x hx;have:∀l:List Xa,x∈l->1+qhb x<=nest l:=by
    intro l
    induction l with
    | nil=>intro h;cases h
    | cons y l ih=>
     intro h;simp only [nest];rcases QAg.1 h with rfl | h
     ·omega
     ·have:=ih h;omega
   have:=this l hx;omega
  refine Rf.map _ _ _ _ fun x hx=>?_
  have hk:=key x hx;cases x with
  | mk kd t cnd a b=>
   simp only [qhb] at hk;rw [Xa.ce];intro c hc;simp only [QAg,QAu,or_false] at hc;rcases hc with rfl | rfl | rfl | rfl | rfl
   ·exact Rf.int _ _ _
   ·exact Rf.int _ _ _
   ·exact Rf.map _ _ _ _ fun x _=>qo2 _ x
   ·exact qsb k a (by omega)
   ·exact qsb k b (by omega)
theorem qagy {p:Prg} (v:PrgV p):∀c∈Prg.c p,Rf 40 c:=by
 rw [Prg.ce];intro c hc;simp only [QAg,QAu,or_false] at hc;rcases hc with rfl | rfl | rfl | rfl | rfl | rfl | rfl | rfl | rfl
 ·exact Rf.str _ _
 ·refine Rf.map _ _ _ _ fun x _=>?_
  simp only [Xj.c,QAg,QAu,or_false];rintro c (rfl | rfl)
  ·exact Rf.str _ _
  ·exact Rf.map _ _ _ _ fun x _=>qsc _ x
 ·exact Rf.map _ _ _ _ fun x _=>qsc _ x
 ·refine Rf.map _ _ _ _ fun x _=>?_
  simp [Xh.c,Rf.int,Rf.str]
 ·refine Rf.map _ _ _ _ fun x _=>?_
  rw [Action.ce];simp only [QAg,QAu,or_false];rintro c (rfl | rfl | rfl)
  ·exact Rf.str _ _
  ·exact Rf.map _ _ _ _ fun x _=>qsc _ x
  ·refine Rf.map _ _ _ _ fun x _=>?_
   rw [Xg.ce];simp only [QAg,QAu,or_false];rintro c (rfl | rfl | rfl | rfl | rfl | rfl | rfl)
   ·exact Rf.int _ _ _
   ·exact Rf.int _ _ _
   ·exact Rf.int _ _ _
   ·exact Rf.int _ _ _
   ·exact Rf.int _ _ _
   ·exact Rf.map _ _ _ _ fun x _=>qo2 _ x
   ·exact Rf.map _ _ _ _ fun x _=>qo2 _ x
 ·refine Rf.map _ _ _ _ fun x _=>?_
  rw [Tbl.ce];simp only [QAg,QAu,or_false];rintro c (rfl | rfl | rfl | rfl | rfl | rfl)
  ·exact Rf.str _ _
  ·exact Rf.map _ _ _ _ fun x _=>by simp [Xl.c,Rf.int]
  ·exact Rf.map _ _ _ _ fun x _=>rf_I _ x
  ·exact Rf.int _ _ _
  ·exact Rf.map _ _ _ _ fun x _=>qv2 _ x
  ·exact Rf.int _ _ _
 ·refine Rf.map _ _ _ _ fun x _=>?_
  rw [Xd.ce];simp only [QAg,QAu,or_false];rintro c (rfl | rfl | rfl | rfl | rfl | rfl | rfl)
  ·exact Rf.str _ _
  ·exact Rf.map _ _ _ _ fun x _=>rf_I _ x
  ·exact Rf.bool _ _
  ·exact Rf.int _ _ _
  ·exact Rf.int _ _ _
  ·exact Rf.map _ _ _ _ fun x _=>by simp [Xk.c,Rf.int]
  ·exact Rf.int _ _ _
 ·have:=v.nest;exact qsb 37 p.control (by omega)
 ·exact Rf.map _ _ _ _ fun x _=>rf_I _ x
theorem qqu {O:List (Nat×AO)} {z n:Nat} {v:AV} {es:List (List AV)} (h:Mu O z v es):Rf (n+1) v:=by
 cases h with
 | nilF=>exact Rf.Xu _ _ _ (by simp)
 | nilA=>exact Rf.app _ _ _ _ (by simp)
 | row=>exact Rf.row _ _ _ _ _
theorem qum {O:List (Nat×AO)} {S:SV} {p:Prg} {c:Xf} (m:StoreM O S p c) (v:PrgV p):aoEq (some (.row 15 [S.cells p])) (some (.row 15 [S.cells p]))=true:=by
 have h:∀x∈S.cells p,avEq 40 x x=true:=by
  intro x hx;simp only [SV.cells,QAg,QAf,QAu,or_false] at hx;rcases hx with rfl | rfl | rfl | rfl | hx | rfl | rfl
  ·exact qqu m.cm.r
  ·exact qqu m.cm.n
  ·exact qqu m.cm.d
  ·rcases m.cm.g with e | ⟨t,e⟩<;>rw [e]
   ·refine Rf.Xu _ _ _ fun e he=>?_
    obtain ⟨l,_,rfl⟩:=QAv.1 he;simp only [cS,QAg,QAu,or_false];rintro c rfl;exact Rf.map _ _ _ _ fun x _=>qv2 _ x
   ·refine Rf.app _ _ _ _ fun e he=>?_
    obtain ⟨l,_,rfl⟩:=QAv.1 he;simp only [cS,QAg,QAu,or_false];rintro c rfl;exact Rf.map _ _ _ _ fun x _=>qv2 _ x
  ·exact qagy v x hx
  ·exact qqu m.x.i
  ·exact Rf.bool _ _
 have h1:=qgx (avEq 40) _ h;unfold aoEq;simp [qaf,eqL,h1]
theorem qjz {t:Nat} {y z:AO}:∀{O:List (Nat×AO)},setl t z (setl t y O)=setl t z O
 | []=>by simp
 | (u,w)::r=>by
  by_cases hu:u=t
  ·subst hu;simp
  ·simp [hu,qjz]
theorem qadx {O:List (Nat×AO)} {N id n i:Nat} {es:List (List AV)} {l:List Rw} (hl:look id O=some (.row 5 es)) (hn:n=l.length) (hle:n<=es.length) (ht:es.take n=l.map Rw.c) (hi:i<n) (hb:n<2^39):
  ∃N' es',qah Φ f_164 [.row id 5 0 n,.int .i64 i,.int .i64 ((i:Int)+1)] ⟨O,N⟩=some (.val (.row id 5 0 (n - 1)),⟨setl id (.row 5 es') O,N'⟩)/\N<=N'/\N'<=N+1/\n - 1<=es'.length/\es'.take (n - 1)=(l.eraseIdx i).map Rw.c:=by
 rw [qav (fn:=c_164) rfl rfl];have hi1:(i:Int)+1=((i+1:Nat):Int):=by omega
 have a1:i+1<=n:=by omega
 have a2:i<=i+1:=by omega
 have a3:i<=n:=by omega
 have a4:i+1<=es.length:=by omega
 have a5:i<=es.length:=by omega
 have hne:¬i=i+1:=by omega
 rw [hi1];have b1:(0:Int)<=(i:Int)+1:=by omega
 have b2:(i:Int)+1<=(n:Int):=by omega
 have b3:(i:Int)+1<=(es.length:Int):=by omega
 have c1:i+(n - (i+1))=n - 1:=by omega
 have c2:min (n - (i+1)) (es.length - (i+1))=n - (i+1):=by omega
 have c3:i+(n - (i+1))<=es.length:=by omega
 have c4:i+1+(n - (i+1))<=es.length:=by omega
 have c5:¬i=es.length:=by omega
 have c6:(((n - 1:Nat):Int))<=(n:Int):=by omega
 have c7:n - 1<=n:=by omega
 have c9:¬(i:Int)=(i:Int)+1:=by omega
 have c8:(i:Int)<=(i:Int)+1:=by omega
 have c10:n<=es.length+1:=by omega
 have hys:(es.drop (i+1)).take (n - (i+1))=(l.drop (i+1)).map Rw.c:=by
  rw [<- List.drop_take,ht,List.map_drop]
 have c11:qcm 5 ((es.drop (i+1)).take (n - (i+1)))=true:=by rw [hys];exact qcn 5 Rw.c _ fun x=>by simp
 have hE1l:(es.take i++((es.drop (i+1)).take (n - (i+1))++es.drop (n - 1))).length=es.length:=by
  simp only [QAd,QAx,List.length_drop];omega
 have hE1t:(es.take i++((es.drop (i+1)).take (n - (i+1))++es.drop (n - 1))).take (n - 1)=(l.eraseIdx i).map Rw.c:=by
  have hti:es.take i=(l.take i).map Rw.c:=by
   have:(es.take n).take i=es.take i:=by rw [List.take_take,Nat.min_eq_left (by omega)]
   rw [<- this,ht,QBd]
  rw [hys,hti,List.eraseIdx_eq_take_drop_succ,QBg,<- QAl,QBk (by simp;omega)];exact Qo (by simp;omega)
 have d1:((n - 1:Nat):Int)<=(es.length:Int):=by omega
 have d2:(n:Int)<=(es.length:Int):=by omega
 have d3:n - 1+(n - (n - 1))<=es.length:=by omega
 have d4:¬n - 1=n:=by omega
 have fin:∀N',N<=N'->N'<=N+1->∀(E1 D:List (List AV)),E1.length=es.length->E1.take (n - 1)=(l.eraseIdx i).map Rw.c->
   ∃N2 es',(setl id (AO.row 5 (E1.take (n - 1)++(List.replicate (n - (n - 1)) [AV.int .i64 0,.Xu 2 [],.int .i64 0,.int .i64 0,.Xu 1 []]++D))) O=setl id (AO.row 5 es') O/\N'=N2)/\N<=N2/\N2<=N+1/\n<=es'.length+1/\es'.take (n - 1)=(l.eraseIdx i).map Rw.c:=by
  intro N' h1 h2 E1 D h3 h4;refine ⟨N',_,⟨rfl,rfl⟩,h1,h2,?_,?_⟩
  ·simp only [QAd,QAx,List.length_replicate];omega
  ·rw [QBk (by simp;omega),List.take_take,Nat.min_self,h4]
 by_cases hfull:n=es.length
 ·have hf2:=eq_true hfull;simp [c_164,hl,hle,a1,a3,b1,b2,hf2,c1,c2,c5,c8,c9];rw [QAa ⟨c10,c11⟩];generalize es.take i++((es.drop (i+1)).take (n - (i+1))++es.drop (n - 1))=E1 at hE1l hE1t ⊢;simp [qac,hl,hE1l,c6,c7,d2,qjz,hle];exact fin N (Qb _) (by omega) E1 _ hE1l hE1t
 ·have hf2:=eq_false hfull;simp [c_164,hl,hle,a1,a3,b1,b2,hf2,c1,c2,c5,c8,c9];rw [QAa ⟨c10,c11⟩];generalize es.take i++((es.drop (i+1)).take (n - (i+1))++es.drop (n - 1))=E1 at hE1l hE1t ⊢;simp [qac,hl,hE1l,c6,c7,d2,qjz,hle];exact fin (N+1) (by omega) (by omega) E1 _ hE1l hE1t
theorem qwl {O:List (Nat×AO)} {N:Nat} {S:SV} {p:Prg} {c:Xf} (m:StoreM O S p c) (v:CfgV p c) (hT:Tail O N) (t id:Int):
  MDpost N O S p (if delE p c t id=0 then delC c t id else c) (.int .i64 (delE p c t id)) (qah Φ f_94 [.ptr S.s 15 0 0,.int .i64 t,.int .i64 id] ⟨O,N⟩):=by
 rw [qav (fn:=c_94) rfl rfl];have hl:=v.rl;have hr:=qse (N:=N) m hl t id;have hE:delE p c t id=rowX p c t id:=rfl;rw [hE];by_cases z:rowX p c t id=0
 rotate_left
 ·rw [QA z];simp [c_94,hr,z];exact ⟨S,O,N,rfl,m,rfl,fun j hj=> .inl hj,fun _ _ _=>rfl,hT,Qb _⟩
 rw [QAa z,z];cases hi:inT p t with
 | false=>simp [rowX,hi] at z
 | true=>
 obtain ⟨k,rfl,hk⟩:=qex hi;have hk':k<c.rows.length:=by omega
 have hrow:qcd c (k:Int)=c.rows[k]:=qdu hk';cases hx2:rIdx c.rows[k] id with
 | none=>simp [rowX,hi,hrow,hx2] at z
 | some i=>
 obtain ⟨hil,hid⟩:=qk2 hx2;have hI:rowI p c k id=i:=by simp [rowI,hi,hrow,hx2]
 have hM:delC c (k:Int) id=⟨c.rows.set k (c.rows[k].eraseIdx i),c.Xr,c.Xq,c.Xm⟩:=by
  unfold delC;rw [hrow,hx2];simp
 rw [z,hI] at hr;rw [hM];have hv:=v.at hk;have hsm:=v.small _ (Qd hk');have hs:=m.se;obtain ⟨rid,es1,e1,lr,hle1,⟨hV,g1,g5⟩,ht1⟩:=m.tab hk';obtain ⟨r5,es5,e5,l5,hle5,ht5⟩:=g5.nonempty (by simp;omega);rw [QAb] at e5 hle5 ht5;rw [e1] at hs;rw [e5] at g1;have hao:=qum m (qts v.prg);simp only [SV.cells,Prg.e,QAm,QAo,e1] at hao;obtain ⟨N2,es',e6,n1,n2,h7,h8⟩:=qadx (N:=N+1) l5 rfl hle5 ht5 hil (by omega);have hwi:IntKind.wrap .i64 ((i:Int)+1)=(i:Int)+1:=qbu (by omega) (by omega);have hsr:=qam hs lr (by simp);have hs5:=qam hs l5 (by simp);have hr5:=qam lr l5 (by simp);have h5r:=hr5.symm;have hrs:=hsr.symm;simp [c_94,hr,hs,lr,hk',g1,hwi,e6,qac,hs5,hr5,hao];have hMl:=m.x.len;have hVl:=m.cm.rl;obtain ⟨iid,esi,e3,li,hle3,hMk,gi,lm⟩:=m.idx hk';have own1:S.own rid:= .inr (.inl (.inl (by rw [e1];rfl)));have own3:S.own S.M[k]:= .inr (.inr (.inr (Qd hMk)));have own4:S.own r5:= .inr (.inl (.inr (.inr (.inr ⟨_,Qd hV,by rw [e5];rfl⟩))));have own5:S.own iid:= .inr (.inr (.inl (by rw [e3];rfl)));have k3:∀A B j,j≠rid->j≠r5->look j O≠some .res->look j (qaz (setl rid A (setl r5 B O)))=look j O:=by
  intro A B j h1 h2 h3;have h0:look j (setl rid A (setl r5 B O))=look j O:=by rw [qac,QA h1,qac,QA h2]
  rw [qaw (by rw [h0];exact h3),h0]
 have a1:∀B es,look rid (qaz (setl rid (.row 1 es) (setl r5 B O)))=some (.row 1 es):=by
  intro B es;have h0:look rid (setl rid (.row 1 es) (setl r5 B O))=some (.row 1 es):=by rw [qac,QAa rfl,qac,QA hr5,lr];rfl
  rw [qaw (by rw [h0];simp),h0]
 have a2:∀A es,look r5 (qaz (setl rid A (setl r5 (.row 5 es) O)))=some (.row 5 es):=by
  intro A es;have h0:look r5 (setl rid A (setl r5 (.row 5 es) O))=some (.row 5 es):=by rw [qac,QA h5r,qac,QAa rfl,l5];rfl
  rw [qaw (by rw [h0];simp),h0]
 have hT3:∀A B,Tail (qaz (setl rid A (setl r5 B O))) N2:=fun A B=>qdw (qai (qai (hT.mono (by omega))))
 generalize hO3:qaz (setl rid (AO.row 1 (es1.set k [AV.row r5 5 0 (c.rows[k].length - 1)])) (setl r5 (AO.row 5 es') O))=O3;have k3':∀j,j≠rid->j≠r5->look j O≠some .res->look j O3=look j O:=fun j h1 h2 h3=>by rw [<- hO3];exact k3 _ _ j h1 h2 h3
 have a1':look rid O3=some (.row 1 (es1.set k [AV.row r5 5 0 (c.rows[k].length - 1)])):=by rw [<- hO3];exact a1 _ _
 have a2':look r5 O3=some (.row 5 es'):=by rw [<- hO3];exact a2 _ _
 have hT3':Tail O3 N2:=by rw [<- hO3];exact hT3 _ _
 clear hO3;have hinc:(c.rows[k].eraseIdx i).Pairwise fun a b=>a.id<b.id:=hv.inc.sublist (List.eraseIdx_sublist _ _)
 have hll:(c.rows[k].eraseIdx i).length=c.rows[k].length - 1:=by rw [List.length_eraseIdx];simp [hil]
 have m5:Mu O3 5 (.row r5 5 0 (c.rows[k].length - 1)) ((c.rows[k].eraseIdx i).map Rw.c):= .row r5 _ es' _ (by simp [hll]) a2' (by simp [hll];omega) (by rw [QAb,hll];exact h8);have m1:Mu O3 1 S.v1 ((S.V.set k (.row r5 5 0 (c.rows[k].length - 1))).map fun x=>[x]):=by
  have hmu:=Mu.upd (O':=O3) (id:=rid) (z:=1) (k:=k) (es:=S.V.map fun x=>[x]) (es0:=es1) (y:=[.row r5 5 0 (c.rows[k].length - 1)]) a1' (by rw [QAb,hVl];exact hle1) (by rw [QAb,hVl];exact ht1);rw [QAb,hVl] at hmu;rw [e1,List.map_set];exact hmu
 have ls3:look S.s O3=some (.row 15 [S.cells p]):=by rw [k3' S.s hsr hs5 (by rw [m.s];simp),m.s]
 have li3:look iid O3=some (.row 1 esi):=by
  rw [k3' iid (fun e=>m.ri rid (by rw [e1];rfl) (by rw [e3,e];rfl)) (qam li l5 (by simp)) (by rw [li];simp),li]
 have hri:vid S.v1≠some iid:=fun e=>m.ri iid e (by rw [e3];rfl)
 have hVs:k<(S.V.set k (AV.row r5 5 0 (c.rows[k].length - 1))).length:=by simpa using hV
 have hVk:(S.V.set k (AV.row r5 5 0 (c.rows[k].length - 1)))[k]=AV.row r5 5 0 (c.rows[k].length - 1):=by simp
 have ls4:=ls3;simp only [SV.cells,e3] at ls4;have hrl:c.rows.length<2^40:=by have:=(qts v.prg).tabs;omega
 have hnv:c.Xr.set k ((c.Xr[k]?).getD 0)=c.Xr:=by
  rw [Qa (by rw [v.nl];exact hk)];simp
 have hcz:esi.take c.rows.length=S.M.map fun x=>[.map x]:=by
  obtain ⟨iid',es0,e9,hl9,hle9,ht9⟩:=m.x.i.nonempty (by simp;omega);rw [e3] at e9;simp only [AV.row.injEq] at e9;obtain ⟨rfl,-⟩:=e9;rw [li] at hl9;cases hl9;rw [QAb,hMl] at ht9;exact ht9
 obtain ⟨O4,N4,e7,r1,r2,k4,hT4,hN4⟩:=qnw (k:=k) (n:=c.rows.length) (V:=S.V.set k (.row r5 5 0 (c.rows[k].length - 1))) (l:=c.rows[k].eraseIdx i) (R:=Prg.c p) (es:=esi) hT3' (by omega) hk' hVs ls4 (by simp) li3 hle3 ⟨_,gi⟩ m1 (by rw [hVk];exact m5) hri hinc (by omega);simp [e7];have keep:∀j,S.own j->¬S.chg k j->look j O4=look j O:=by
  intro j hj hc;obtain ⟨w,hw,hwn⟩:=m.own_lk hj;have h3:=k3' j (fun e=>hc (.inr (.inl (by rw [e,e1];rfl)))) (fun e=>hc (.inl ⟨_,Qa hV,by rw [e5,e];rfl⟩)) (by rw [hw];simpa using hwn);rw [k4 j (by have:=hT.lt hw;omega) (fun e=>hc (.inr (.inr (.inr (.inl (by rw [e,e3];rfl)))))),h3]
 have hfr:∀x,look N2 O=some x->x= .res:=fun x hx=>by have:=hT.lt hx;omega
 have up:=m.upd (k:=k) (v':= .row r5 5 0 (c.rows[k].length - 1)) (m':=N2) (l':=c.rows[k].eraseIdx i) (nx:=(c.Xr[k]?).getD 0) (O':=O4) hk' keep
  (m1.fr fun j hj=>by
   obtain ⟨es0,h0⟩:=m1.own hj;exact k4 j (hT3'.lt h0) (fun e=>hri (by rw [hj,e])))
  (by
   rw [hnv];refine m.cm.n.fr fun j hj=>?_
   obtain ⟨es0,h0⟩:=m.cm.n.own hj;have h3:=k3' j (fun e=>m.cm.rn j (by rw [e1,e];rfl) hj) (qam h0 l5 (by simp)) (by rw [h0];simp);rw [k4 j (by have:=hT.lt h0;omega) (fun e=>m.ni j hj (by rw [e3,e];rfl)),h3])
  (by
   have hmu:=Mu.upd (O':=O4) (id:=iid) (z:=1) (k:=k) (es:=S.M.map fun x=>[.map x]) (es0:=esi) (y:=[.map N2]) r1 (by rw [QAb,hMl];exact hle3) (by rw [QAb,hMl];exact hcz);rw [QAb,hMl] at hmu;rw [e3,List.map_set];exact hmu)
  (m5.fr fun j hj=>by
   obtain ⟨es0,h0⟩:=m5.own hj;exact k4 j (hT3'.lt h0) (qam h0 li3 (by simp)))
  r2 (by simp) (fun j hj=> .inl ⟨_,Qa hV,by rw [e5];exact hj⟩) (.inr hfr)
 rw [hnv] at up;refine ⟨S.tab k (.row r5 5 0 (c.rows[k].length - 1)) N2,O4,N4,rfl,up,rfl,?_,?_,hT4,by omega⟩
 ·intro j hj;rcases hj with hj | hj | hj | hj
  ·exact .inl (.inl hj)
  ·rcases hj with hj | hj | hj | ⟨w,hw,hj⟩
   ·exact .inl (.inr (.inl (.inl hj)))
   ·exact .inl (.inr (.inl (.inr (.inl hj))))
   ·exact .inl (.inr (.inl (.inr (.inr (.inl hj)))))
   ·rcases Qq hw with hw | rfl
    ·exact .inl (.inr (.inl (.inr (.inr (.inr ⟨w,hw,hj⟩)))))
    ·cases hj;exact .inl own4
  ·exact .inl (.inr (.inr (.inl hj)))
  ·simp only [SV.tab] at hj;rcases Qq hj with hj | rfl
   ·exact .inl (.inr (.inr (.inr hj)))
   ·exact .inr (by omega)
 ·intro j hj hx;have hx1:¬S.own j:=fun h=>hx (.inl h)
  have hx2:¬look j O=some .res:=fun h=>hx (.inr h)
  rw [k4 j (by omega) (fun e=>hx1 (by rw [e];exact own5)),k3' j (fun e=>hx1 (by rw [e];exact own1)) (fun e=>hx1 (by rw [e];exact own4)) hx2]
def xoE (p:Prg) (c:Xf) (o:Xc):Int:=if o.kind=1 then insE p c o.table o.entry else if o.kind=2 then modE p c o.table o.id o.call else if o.kind=3 then delE p c o.table o.id else if o.kind=4 then defE p o.table o.call else 11
def xoD (c:Xf) (o:Xc):Xf:=if o.kind=1 then insC c o.table o.entry else if o.kind=2 then modC c o.table o.id o.call else if o.kind=3 then delC c o.table o.id else defC c o.table o.call
def xoC (p:Prg) (c:Xf) (o:Xc):Xf:=if xoE p c o=0 then xoD c o else c
def xoI (p:Prg) (c:Xf) (o:Xc):Int:=if xoE p c o=0/\o.kind=1 then qer c o.table else 0
structure CallS (x:Xb):Prop where
 al:x.args.length<2^40
 ar:∀v∈x.args,ok32 0 v
structure OpS (o:Xc):Prop where
 e:EntS o.entry
 c:CallS o.call
theorem qaeu {o:Xc} (h:o.Ok qbd):OpS o:=by
 have e:=qdo;simp only [Xc.Ok,Entry.Ok,Xb.Ok] at h;obtain ⟨_,_,_,⟨h1,_,_,h2⟩,_,h3⟩:=h;exact ⟨⟨by have:=h1.1;omega,fun m hm=>h1.2 m hm,by have:=h2.1;omega,fun v hv=>h2.2 v hv⟩,⟨by have:=h3.1;omega,fun v hv=>h3.2 v hv⟩⟩
theorem qyp {p:Prg} {c:Xf} (v:CfgV p c) (o:Xc):CfgV p (xoC p c o):=by
 unfold xoC;split
 ·rename_i h;unfold xoE at h;unfold xoD;split
  ·rename_i h1;rw [QAa h1] at h;exact qaci v h
  rename_i h1;rw [QA h1] at h;split
  ·rename_i h2;rw [QAa h2] at h;exact qacu v h
  rename_i h2;rw [QA h2] at h;split
  ·rename_i h3;rw [QAa h3] at h;exact qabw v h
  rename_i h3;rw [QA h3] at h;by_cases h4:o.kind=4
  ·rw [QAa h4] at h;exact qabv v h
  ·rw [QA h4] at h;cases h
 ·exact v
theorem CfgT.mk_rows {p:Prg} {c c':Xf} (s:CfgT c) (v':CfgV p c') (hp:p.Xn.length<2^40) (hr:∀l∈c'.rows,∀r∈l,rowS r) (hd:∀d∈c'.Xq,d.args.length<2^40/\∀v∈d.args,ok32 0 v) (hg:c'.Xm=c.Xm):CfgT c':=by
 refine ⟨by rw [v'.rl];exact hp,fun l hl=>⟨by have:=v'.small l hl;omega,hr l hl⟩,by rw [v'.nl];exact hp,by rw [v'.dl];exact hp,hd,by rw [hg];exact s.gl,by rw [hg];exact s.gs⟩
theorem qv4 {c:Xf} {t:Int} {r:Rw} (h:r∈qcd c t):∃l∈c.rows,r∈l:=by
 unfold qcd at h;cases ha:at? c.rows t with
 | none=>rw [ha] at h;cases h
 | some l=>
  rw [ha] at h;refine ⟨l,?_,h⟩;unfold at? at ha;split at ha
  ·cases ha
  ·exact Qe ha
theorem xoC_t {p:Prg} {c:Xf} (v:CfgV p c) (s:CfgT c) (hp:p.Xn.length<2^40) (o:Xc) (ho:OpS o):CfgT (xoC p c o):=by
 have v':=qyp v o;unfold xoC at v' ⊢;split
 rotate_left
 ·exact s
 rename_i h;rw [QAa h] at v';have old:∀l∈c.rows,∀r∈l,rowS r:=fun l hl=>(s.rs l hl).2
 have oldA:∀r∈qcd c o.table,rowS r:=fun r hr=>by
  obtain ⟨l,hl,hr⟩:=qv4 hr;exact old l hl r hr
 unfold xoD at v' ⊢;split
 ·rename_i h1;rw [QAa h1] at v';refine s.mk_rows v' hp ?_ s.ds rfl;intro l hl r hr;simp only [insC] at hl;rcases Qq hl with hl | rfl
  ·exact old l hl r hr
  ·rcases QAf.1 hr with hr | hr
   ·exact oldA r hr
   ·simp at hr;subst hr;exact ho.e
 rename_i h1;rw [QA h1] at v';split
 ·rename_i h2;rw [QAa h2] at v';unfold modC at v' ⊢;split
  ·rename_i i hi;rw [hi] at v';refine s.mk_rows v' hp ?_ s.ds rfl;intro l hl r hr;rcases Qq hl with hl | rfl
   ·exact old l hl r hr
   ·obtain ⟨j,hj,rfl⟩:=Qn.1 hr;rw [QBw];have hj':j<(qcd c o.table).length:=by simpa using hj
    have h0:=oldA _ (Qd hj');split
    ·exact ⟨h0.kl,h0.ks,ho.c.al,ho.c.ar⟩
    ·exact h0
  ·exact s
 rename_i h2;rw [QA h2] at v';split
 ·rename_i h3;rw [QAa h3] at v';unfold delC at v' ⊢;split
  ·rename_i i hi;rw [hi] at v';refine s.mk_rows v' hp ?_ s.ds rfl;intro l hl r hr;rcases Qq hl with hl | rfl
   ·exact old l hl r hr
   ·exact oldA r ((List.eraseIdx_sublist _ _).subset hr)
  ·exact s
 ·rename_i h3;rw [QA h3] at v';refine s.mk_rows v' hp old ?_ rfl;intro d hd;simp only [defC] at hd;rcases Qq hd with hd | rfl
  ·exact s.ds d hd
  ·exact ⟨ho.c.al,ho.c.ar⟩
inductive RunR where
 | ok (c:Xf) (ids:List Int)
 | err (i:Nat) (e:Int)
def xoF (p:Prg) (c:Xf) (l:List Xc):Xf:=l.foldl (xoC p) c
section
variable {p:Prg} (f:PrgS p) (hv:∀t∈p.Xn,∀v∈t.dflt.args,ok32 0 v) {c:Xf} (v:CfgV p c) (s:CfgT c) (t:Int)
include f hv v s
end
section
variable {p:Prg} (f:PrgS p) (hv:∀t∈p.Xn,∀v∈t.dflt.args,ok32 0 v) {c:Xf} (v:CfgV p c) (s:CfgT c) (t:Int)
include f hv v s
end
theorem Xc.ce2 (x:Xc):Xc.c x=[.int .i64 x.kind,.int .i64 x.table,.int .i64 x.id,.slice 2 (x.entry.keys.map Xi.c),.int .i64 x.entry.Xt,.int .i64 x.entry.call.action,.slice 1 (x.entry.call.args.map c32),.int .i64 x.call.action,.slice 1 (x.call.args.map c32)]:=by simp [Xc.c]
theorem cfg4 (c:Xf):∃r0 r1 r2 r3,Xf.c c=[r0,r1,r2,r3]/\(∀(H:AH),(snap 37 H r0=some r0/\snap 37 H r1=some r1/\snap 37 H r2=some r2/\snap 37 H r3=some r3)/\(snap 38 H r0=some r0/\snap 38 H r1=some r1/\snap 38 H r2=some r2/\snap 38 H r3=some r3)/\(snap 39 H r0=some r0/\snap 39 H r1=some r1/\snap 39 H r2=some r2/\snap 39 H r3=some r3)/\(snap 40 H r0=some r0/\snap 40 H r1=some r1/\snap 40 H r2=some r2/\snap 40 H r3=some r3))/\(bor 37 r0=false/\bor 37 r1=false/\bor 37 r2=false/\bor 37 r3=false)/\(bor 38 r0=false/\bor 38 r1=false/\bor 38 r2=false/\bor 38 r3=false)/\(bor 39 r0=false/\bor 39 r1=false/\bor 39 r2=false/\bor 39 r3=false)/\(bor 40 r0=false/\bor 40 r1=false/\bor 40 r2=false/\bor 40 r3=false):=by
 refine ⟨_,_,_,_,Xf.ce c,fun H=>⟨?_,?_,?_,?_⟩,?_,?_,?_,?_⟩<;>simp
def cfgN (p:Prg) (c:Xf) (l:List Xc) (i:Nat):Xf:=xoF p c (l.take i)
def idN (p:Prg) (c:Xf) (l:List Xc) (i:Nat):Int:=match l[i]? with
 | some o=>xoI p (cfgN p c l i) o
 | none=>0
def badF (p:Prg):Xf->List Xc->Nat->Option (Nat×Int)
 | _,[],_=>none
 | c,o::l,i=>if xoE p c o=0 then badF p (xoC p c o) l (i+1) else some (i,xoE p c o)
theorem qkj (p:Prg) (c:Xf) (l:List Xc):cfgN p c l 0=c:=by simp [cfgN,xoF]
theorem qki (p:Prg) (c:Xf) (l:List Xc) {i:Nat} (h:i<l.length):cfgN p c l (i+1)=xoC p (cfgN p c l i) l[i]:=by
 simp only [cfgN,xoF,Qh h,List.foldl_append,List.foldl_cons,List.foldl_nil]
theorem qoj {p:Prg} {c:Xf} (v:CfgV p c) (s:CfgT c) (hp:p.Xn.length<2^40) (l:List Xc) (hl:∀o∈l,OpS o):∀i,CfgV p (cfgN p c l i)/\CfgT (cfgN p c l i)
 | 0=>by rw [qkj];exact ⟨v,s⟩
 | i+1=>by
  have ih:=qoj v s hp l hl i;by_cases h:i<l.length
  ·rw [qki p c l h];exact ⟨qyp ih.1 _,xoC_t ih.1 ih.2 hp _ (hl _ (Qd h))⟩
  ·have:cfgN p c l (i+1)=cfgN p c l i:=by
    unfold cfgN;rw [Qo (by omega),Qo (by omega)]
   rw [this];exact ih
def noC:List AV:=[.slice 1 [],.slice 1 [],.slice 2 [],.slice 1 []]
def badA (p:Prg) (c:Xf) (l:List Xc):Option (Int×Int):=
 if cfgE p c≠0 then some (-1,cfgE p c) else if 64<l.length then some (-1,12) else (badF p c l 0).map fun x=>((x.1:Int),x.2)
def appA (p:Prg) (c:Xf) (l:List Xc):AV:=match badA p c l with
 | some (k,e)=> .tup [.agg noC,.slice 1 [],.int .i64 k,.int .i64 e]
 | none=> .tup [.agg (Xf.c (cfgN p c l l.length)),.slice 1 ((List.range l.length).map fun j=>cI (idN p c l j)),.int .i64 0,.int .i64 0]
theorem qoh {p:Prg} {k:Nat} {e:Int}:∀{l:List Xc} {c:Xf} {i:Nat},badF p c l i=some (k,e)->e≠0
 | [],_,_,h=>by simp [badF] at h
 | o::l,c,i,h=>by
  unfold badF at h;by_cases z:xoE p c o=0
  ·rw [QAa z] at h;exact qoh h
  ·rw [QA z] at h;simp only [Option.some.injEq,Prod.mk.injEq] at h;rw [<- h.2];exact z
theorem qld {p:Prg} {c:Xf} {l:List Xc} {k e:Int} (h:badA p c l=some (k,e)):e≠0:=by
 unfold badA at h;by_cases z:cfgE p c=0
 case neg=>simp only [ne_eq,z,not_false_eq_true,if_true,Option.some.injEq,Prod.mk.injEq] at h;rw [<- h.2];exact z
 by_cases z2:64<l.length
 ·simp only [ne_eq,z,not_true,if_false,z2,if_true,Option.some.injEq,Prod.mk.injEq] at h;rw [<- h.2];decide
 ·simp only [ne_eq,z,not_true,if_false,z2] at h;cases hb:badF p c l 0 with
  | none=>simp [hb] at h
  | some x=>simp only [hb,QBa,Option.some.injEq,Prod.mk.injEq] at h;rw [<- h.2];exact qoh (k:=x.1) (e:=x.2) hb
theorem MDpost.pre {N N1:Nat} {O O1:List (Nat×AO)} {S:SV} {p:Prg} {c:Xf} {v:AV} {r:Option (Rt×AH)} (hk:Kp (fun _=>False) N O O1) (hN:N<=N1) (h:MDpost N1 O1 S p c v r):MDpost N O S p c v r:=by
 obtain ⟨S',O',N',e,h1,h2,h3,h4,h5,h6⟩:=h;refine ⟨S',O',N',e,h1,h2,fun j hj=>(h3 j hj).imp id fun h=>by omega,?_,h5,by omega⟩;intro j hj hx;rw [h4 j (by omega) fun hc=>hx (hc.imp id fun hc=>?_)]
 ·exact hk j hj (by simp)
 ·show look j O=some .res;rw [<- hk j hj (by simp)];exact hc
theorem qvb {O:List (Nat×AO)} {N:Nat} {S:SV} {p:Prg} {c:Xf} (m:StoreM O S p c) (f:PrgS p) (v:CfgV p c) (s:CfgT c) (hT:Tail O N) (o:Xc) (ho:OpS o):
  MDpost N O S p (xoC p c o) (.tup [.int .i64 (xoI p c o),.int .i64 (xoE p c o)]) (qah Φ f_45 [.ptr S.s 15 0 0,.agg (Xc.c o)] ⟨O,N⟩):=by
 rw [qav (fn:=c_45) rfl rfl];have t0:=hT N (Qb _);have hk1:Kp (fun _=>False) N O (O++[(N,AO.row 9 [Xc.c o])]):=Kp.app (fun _ _ _=>rfl) (Qb _);have hT1:=hT.app1 (o:=AO.row 9 [Xc.c o]) (Qb N);have m1:StoreM (O++[(N,AO.row 9 [Xc.c o])]) S p c:=m.kp (X:=fun _=>False) hT (Kp.app (fun _ _ _=>rfl) (Qb _)) (by simp);have b1:look N (O++[(N,AO.row 9 [Xc.c o])])=some (.row 9 [Xc.c o]):=by rw [qag,t0];simp
 simp only [Xc.ce2] at b1 hk1 hT1 m1;by_cases z1:o.kind=1
 ·simp only [z1] at b1 hk1 hT1 m1;refine MDpost.pre hk1 (QBe N) ?_;obtain ⟨S',O',N',e,h1,h2,h3,h4,h5,h6⟩:=qwm m1 f v s hT1 o.table o.entry ho.e;have e1:xoE p c o=insE p c o.table o.entry:=by simp [xoE,z1]
  have e2:(if insE p c o.table o.entry=0 then insC c o.table o.entry else c)=xoC p c o:=by simp [xoC,e1,xoD,z1]
  have e3:(if insE p c o.table o.entry=0 then qer c o.table else 0)=xoI p c o:=by simp [xoI,e1,z1]
  rw [e2] at h1;rw [e3,<- e1] at e;simp only [Entry.ce] at e;simp [c_45,Xc.ce2,z1,b1,t0,e];exact ⟨S',O',N',rfl,h1,h2,h3,h4,h5,h6⟩
 by_cases z2:o.kind=2
 ·simp only [z2] at b1 hk1 hT1 m1;refine MDpost.pre hk1 (QBe N) ?_;obtain ⟨S',O',N',e,h1,h2,h3,h4,h5,h6⟩:=qwo m1 f v.rl hT1 o.table o.id o.call ho.c.al;have e1:xoE p c o=modE p c o.table o.id o.call:=by simp [xoE,z2]
  have e2:(if modE p c o.table o.id o.call=0 then modC c o.table o.id o.call else c)=xoC p c o:=by simp [xoC,e1,xoD,z2]
  have e3:xoI p c o=0:=by simp [xoI,z2]
  rw [e2] at h1;rw [<- e1] at e;rw [e3];simp only [Xb.ce] at e;simp [c_45,Xc.ce2,z2,b1,t0,e];exact ⟨S',O',N',rfl,h1,h2,h3,h4,h5,h6⟩
 by_cases z3:o.kind=3
 ·simp only [z3] at b1 hk1 hT1 m1;refine MDpost.pre hk1 (QBe N) ?_;obtain ⟨S',O',N',e,h1,h2,h3,h4,h5,h6⟩:=qwl m1 v hT1 o.table o.id;have e1:xoE p c o=delE p c o.table o.id:=by simp [xoE,z3]
  have e2:(if delE p c o.table o.id=0 then delC c o.table o.id else c)=xoC p c o:=by simp [xoC,e1,xoD,z3]
  have e3:xoI p c o=0:=by simp [xoI,z3]
  rw [e2] at h1;rw [<- e1] at e;rw [e3];simp [c_45,Xc.ce2,z3,b1,t0,e];exact ⟨S',O',N',rfl,h1,h2,h3,h4,h5,h6⟩
 by_cases z4:o.kind=4
 ·simp only [z4] at b1 hk1 hT1 m1;refine MDpost.pre hk1 (QBe N) ?_;obtain ⟨S',O',N',e,h1,h2,h3,h4,h5,h6⟩:=qp6 m1 f v.rl v.dl hT1 o.table o.call ho.c.al;have e1:xoE p c o=defE p o.table o.call:=by simp [xoE,z4]
  have e2:(if defE p o.table o.call=0 then defC c o.table o.call else c)=xoC p c o:=by simp [xoC,e1,xoD,z4]
  have e3:xoI p c o=0:=by simp [xoI,z4]
  rw [e2] at h1;rw [<- e1] at e;rw [e3];simp only [Xb.ce] at e;simp [c_45,Xc.ce2,z4,b1,t0,e];exact ⟨S',O',N',rfl,h1,h2,h3,h4,h5,h6⟩
 ·have e1:xoE p c o=11:=by simp [xoE,z1,z2,z3,z4]
  have e2:xoC p c o=c:=by simp [xoC,e1]
  have e3:xoI p c o=0:=by simp [xoI,z1]
  rw [e1,e2,e3];refine MDpost.pre hk1 (QBe N) ?_;simp [c_45,Xc.ce2,z1,z2,z3,z4,b1,t0];exact ⟨S,_,_,rfl,m1,rfl,fun j hj=> .inl hj,Kp.refl,hT1,Qb _⟩
def qaes (N:Nat) (O:List (Nat×AO)) (p:Prg) (c:Xf) (r:Option (Rt×AH)):Prop:=
 ∃S O' N',r=some (.val (.ptr S.s 15 0 0),⟨O',N'⟩)/\StoreM O' S p c/\(∀j,S.own j->N<=j)/\Kp (Rs O) N O O'/\Tail O' N'/\N<=N'
theorem qyr {O:List (Nat×AO)} {N:Nat} {S:SV} {p:Prg} (op:p.Ok qbd) {c:Xf} (m:StoreM O S p c) (v:CfgV p c) (s:CfgT c) (hT:Tail O N):
  qaes N O p c (qah Φ f_89 [.ptr S.s 15 0 0] ⟨O,N⟩):=by
 rw [qav (fn:=c_89) rfl rfl];obtain ⟨S',O',N',e,h1,h2,h3,h4,h5⟩:=qt4 p op c (v.u s) v.incs hT m.cm.re;have hs:=m.s;simp only [Prg.e] at e;simp [c_89,SV.cells,Prg.e,hs,e];exact ⟨S',O',N',rfl,h1,h2,h3,h4,h5⟩
theorem qacv {O:List (Nat×AO)} {N:Nat} {S:SV} {p:Prg} {c:Xf} (m:StoreM O S p c) (hl:c.rows.length=p.Xn.length) (hT:Tail O N):
  qah Φ f_90 [.ptr S.s 15 0 0,.int .i64 (-1),.int .i64 0,.agg [.int .i64 0,.Xu 1 []]] ⟨O,N⟩=some (.val (.int .i64 8),⟨O++[(N,.row 2 [[.int .i64 0,.Xu 1 []]])],N+1⟩):=by
 rw [qav (fn:=c_90) rfl rfl];have t0:=hT N (Qb _);have m1:StoreM (O++[(N,.row 2 [[.int .i64 0,.Xu 1 []]])]) S p c:=m.kp (X:=fun _=>False) hT (Kp.app (fun _ _ _=>rfl) (Qb _)) (by simp);have hr:=qse (N:=N+1) m1 hl (-1) 0;have hE:rowX p c (-1) 0=8:=by simp [rowX,inT]
 rw [hE] at hr;simp [c_90,t0,hr]
structure CmF (O:List (Nat×AO)) (M:Nat) (S:SV) (l:List Xc) (b2 b6 w T:Nat):Prop where
 fb2:look b2 O=some (.row 1 [[.ptr S.s 15 0 0]])
 fb6:look b6 O=some (.row 1 [[.int .i64 0]])
 fw:look w O=some (.row 9 (l.map Xc.c))
 ft:look T O=some (.tok 1 0)
 n2:¬S.own b2
 n6:¬S.own b6
 nw:¬S.own w
 nt:¬S.own T
 tl:Tail O M
structure CmI (O0:List (Nat×AO)) (M:Nat) (S:SV) (p:Prg) (c:Xf) (l:List Xc) (b2 b6 w T:Nat) (i:Nat) (e:Env) (O:List (Nat×AO)) (N:Nat):Prop where
 tl:Tail O N
 hM:M<=N
 st:∃S',StoreM O S' p (cfgN p c l i)/\S'.s=S.s/\∀j,S'.own j->S.own j\/M<=j
 kp:Kp (fun j=>S.own j\/Rs O0 j\/j=T\/j=b6) M O0 O
 tk:look T O=some (.tok 1 i)
 k6:look b6 O=some (.row 1 [[.int .i64 0]])
 bad:badF p c l 0=badF p (cfgN p c l i) (l.drop i) i
 e2:look 2 e=some (.ptr b2 1 0 0)
 e6:look 6 e=some (.ptr b6 1 0 0)
 e7:look 34 e=some (.row w 9 0 l.length)
 e35:look 35 e=some (.int .i64 l.length)
 e36:look 36 e=some (.int .i64 i)
 e9:look 9 e=some (.app 1 ((List.range i).map fun j=>cI (idN p c l j)) T)
def CmQ (O0:List (Nat×AO)) (M:Nat) (S:SV) (p:Prg) (c:Xf) (l:List Xc) (b6 T:Nat) (r:Option (Ex×St)):Prop:=
 ∃e' S' O' N',r=some (.ret,⟨e',⟨O',N'⟩⟩)/\Tail O' N'/\M<=N'/\S'.s=S.s/\(∀j,S'.own j->S.own j\/M<=j)/\Kp (fun j=>S.own j\/Rs O0 j\/j=T\/j=b6) M O0 O'/\look 6 e'=some (.ptr b6 1 0 0)/\
  match badF p c l 0 with
  | some (k,x)=>look 4 e'=some (.Xu 1 [])/\look 5 e'=some (.int .i64 k)/\look b6 O'=some (.row 1 [[.int .i64 x]])/\∃d,StoreM O' S' p d
  | none=>look 4 e'=some (.app 1 ((List.range l.length).map fun j=>cI (idN p c l j)) T)/\look T O'=some (.tok 1 l.length)/\look 5 e'=some (.int .i64 0)/\look b6 O'=some (.row 1 [[.int .i64 0]])/\StoreM O' S' p (cfgN p c l l.length)
theorem qae5 (p:Prg) (f:PrgS p) (hp:p.Xn.length<2^40) {c:Xf} (v:CfgV p c) (s:CfgT c) (l:List Xc) (hl64:l.length<=64) (hl:∀o∈l,OpS o) {O0:List (Nat×AO)} {M:Nat} {S:SV} {b2 b6 w T:Nat} (F:CmF O0 M S l b2 b6 w T)
  (e:Env) (O:List (Nat×AO)) (N:Nat) (h0:CmI O0 M S p c l b2 b6 w T 0 e O N):
  CmQ O0 M S p c l b6 T (go Φ (fun o=>o) [.c (.loop c_42_l0),.b 0,.c c_42_k1] .normal ⟨e,⟨O,N⟩⟩):=by
 refine qg1 l.length (fun i e h=>∃O N,h=⟨O,N⟩/\CmI O0 M S p c l b2 b6 w T i e O N) _ ?_ ?_ 0 e _ (Qc _) ⟨O,N,rfl,h0⟩
 ·rintro i e _ L hi hL ⟨O,N,rfl,I⟩ ih;obtain ⟨S1,m1,es,ho⟩:=I.st;obtain ⟨vi,si⟩:=qoj v s hp l hl i;have t0:=I.tl N (Qb _);have hnx:∀j x,look j O0=some x->x≠ .res->x≠ .tok 1 0->x≠ .row 1 [[.int .i64 0]]->¬S.own j->look j O=some x:=by
   intro j x hx h1 h2 h3 hn;refine I.kp.lk F.tl hx ?_;rintro (h | h | h | h)
   ·exact hn h
   ·have h:look j O0=some .res:=h;rw [hx] at h;exact h1 (Option.some.inj h)
   ·subst h;rw [F.ft] at hx;exact h2 (Option.some.inj hx).symm
   ·subst h;rw [F.fb6] at hx;exact h3 (Option.some.inj hx).symm
  have bw:=hnx w _ F.fw (by simp) (by simp) (by simp) F.nw;have bb:=hnx b2 _ F.fb2 (by simp) (by simp) (by simp) F.n2;have hk1:Kp (fun _=>False) N O (O++[(N,AO.row 9 [Xc.c l[i]])]):=Kp.app (fun _ _ _=>rfl) (Qb _);have m1':StoreM (O++[(N,AO.row 9 [Xc.c l[i]])]) S1 p (cfgN p c l i):=m1.kp (X:=fun _=>False) I.tl (Kp.app (fun _ _ _=>rfl) (Qb _)) (by simp);obtain ⟨S2,O2,N2,e2,x1,x2,x3,x4,x5,x6⟩:=qvb m1' f vi si (I.tl.app1 (o:=AO.row 9 [Xc.c l[i]]) (Qb N)) l[i] (hl _ (Qd hi));have hw:=qap i (by omega);rw [es] at e2 x2;have hM:=I.hM;have ho2:∀j,S2.own j->S.own j\/M<=j:=fun j hj=>by
   rcases x3 j hj with h | h
   ·exact ho j h
   ·exact .inr (by omega)
  have hkp:Kp (fun j=>S.own j\/Rs O0 j\/j=T\/j=b6) M O0 O2:=by
   intro j hj hx;have h0:look j O=look j O0:=I.kp j hj hx;rw [x4 j (by omega),hk1 j (by omega) (by simp),h0];rintro (h | h)
   ·rcases ho j h with h | h
    ·exact hx (.inl h)
    ·omega
   ·have h':look j (O++[(N,AO.row 9 [Xc.c l[i]])])=look j O:=hk1 j (by omega) (by simp);exact hx (.inr (.inl (by show look j O0=_;rw [<- h0,<- h'];exact h)))
  have kpj:∀j x,look j O=some x->x≠ .res->j<M->¬S.own j->look j O2=some x:=by
   intro j x hx hr hj hn;rw [x4 j (by omega),hk1 j (by omega) (by simp),hx];rintro (h | h)
   ·rcases ho j h with h | h
    ·exact hn h
    ·omega
   ·have h':look j (O++[(N,AO.row 9 [Xc.c l[i]])])=look j O:=hk1 j (by omega) (by simp);have:look j (O++[(N,AO.row 9 [Xc.c l[i]])])=some .res:=h;rw [h',hx] at this;exact hr (Option.some.inj this)
  have tM:=F.tl.lt F.ft;have wt:=kpj T _ I.tk (by simp) tM F.nt;have h6:look b6 O2=some (.row 1 [[.int .i64 0]]):=kpj b6 _ I.k6 (by simp) (F.tl.lt F.fb6) F.n6;have hfr:∀t y,t<M->¬S.own t->StoreM (setl t y O2) S2 p (xoC p (cfgN p c l i) l[i]):=fun t y ht hn=>x1.fr fun j hj=>by
   rw [qac,QA];rintro rfl;rcases ho2 _ hj with h | h
   ·exact hn h
   ·omega
  have hb2:badF p (cfgN p c l i) (l.drop i) i=if xoE p (cfgN p c l i) l[i]=0 then badF p (xoC p (cfgN p c l i) l[i]) (l.drop (i+1)) (i+1) else some (i,xoE p (cfgN p c l i) l[i]):=by
   rw [Qi hi,badF]
  have hb:=I.bad;rw [hb2] at hb;simp only [Xc.ce2] at e2;by_cases zi:xoE p (cfgN p c l i) l[i]=0
  ·rw [QAa zi,<- qki p c l hi] at hb;rw [zi] at e2;have hr2':List.map (fun j=>cI (idN p c l j)) (List.range (i+1))=List.map (fun j=>cI (idN p c l j)) (List.range i)++[[.int .i64 (xoI p (cfgN p c l i) l[i])]]:=by
    rw [List.range_succ,QBg,List.map_singleton];simp [idN,hi,cI]
   generalize hil:List.map (fun j=>cI (idN p c l j)) (List.range i)=il at hr2';have hill:il.length=i:=by rw [<- hil];simp
   have e9:=I.e9;rw [hil] at e9;have h8:(i+1)*8<=70368744177664:=by omega
   simp [c_42_l0,I.e2,I.e7,I.e35,I.e36,e9,hi,bw,bb,t0,qag,Xc.ce2,e2,wt,hill,h8,hw];have hbT:¬b6=T:=by
    intro h;have h1:=F.fb6;rw [h,F.ft] at h1;cases h1
   have hcs:cfgN p c l (i+1)=xoC p (cfgN p c l i) l[i]:=qki p c l hi;refine ih _ _ ⟨_,_,rfl,⟨qai x5,by omega,⟨S2,?_,x2,ho2⟩,?_,?_,?_,hb,?_,?_,?_,?_,?_,?_⟩⟩
   ·rw [hcs];exact hfr T _ tM F.nt
   ·exact hkp.setl (.inr (.inr (.inr (.inl rfl))))
   ·simp [qac,wt]
   ·rw [qac,QA hbT];exact h6
   ·simp [I.e2]
   ·simp [I.e6]
   ·simp [I.e7]
   ·simp [I.e35]
   ·simp
   ·simp [hr2']
  ·rw [QA zi] at hb;simp [c_42_l0,I.e2,I.e6,I.e7,I.e35,I.e36,hi,bw,bb,t0,qag,Xc.ce2,e2,zi,h6];refine ⟨_,S2,_,_,rfl,qai x5,by omega,x2,ho2,hkp.setl (.inr (.inr (.inr (.inr rfl)))),by simp [I.e6],?_⟩;rw [hb];exact ⟨by simp,by simp,by simp [qac,h6],_,hfr b6 _ (F.tl.lt F.fb6) F.n6⟩
 ·rintro e _ L hL ⟨O,N,rfl,I⟩;obtain ⟨S1,m1,es,ho⟩:=I.st;have hb:=I.bad;rw [QCp,badF] at hb;have k6:=I.k6;simp [c_42_l0,c_42_k1,I.e6,I.e35,I.e36,I.e9,hL,k6];have hbT:¬T=b6:=by
   intro h;have h1:=F.fb6;rw [<- h,F.ft] at h1;cases h1
  have hM:=I.hM;refine ⟨_,S1,_,_,rfl,qai I.tl,I.hM,es,ho,I.kp.setl (.inr (.inr (.inr (.inr rfl)))),by simp [I.e6],?_⟩;rw [hb];refine ⟨by simp,by rw [qac,QA hbT];exact I.tk,by simp,by simp [qac,k6],m1.fr fun j hj=>?_⟩;rw [qac,QA];rintro rfl;rcases ho _ hj with h | h
  ·exact F.n6 h
  ·have:=F.tl.lt F.fb6;omega
end Go.Av
