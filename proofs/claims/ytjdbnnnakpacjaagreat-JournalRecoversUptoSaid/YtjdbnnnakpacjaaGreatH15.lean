/-
 Modify replaces the call of a row.
-/
import Derived.Test.YtjdbnnnakpacjaaGreatH6
set_option linter.unusedVariables false
set_option linter.unusedSimpArgs false
set_option linter.constructorNameAsVariable false
namespace Go.Av
set_option maxRecDepth 4000
theorem qad2 {p:Prg} {c:Xf} {t id:Int} {x:Xb}:modE p c t id x=if rowX p c t id=0 then qbp p t x else rowX p c t id:=by
 unfold modE rowX;split
 ·simp
 split
 ·simp
 ·simp
theorem qzt {O:List (Nat×AO)} {N:Nat} {S:SV} {p:Prg} {c:Xf} (m:StoreM O S p c) (f:PrgS p) (hl:c.rows.length=p.Xn.length) (hT:Tail O N) (t id:Int) (x:Xb) (hx:x.args.length<2^40):
  MDpost N O S p (if modE p c t id x=0 then modC c t id x else c) (.int .i64 (modE p c t id x)) (qah Φ f_90 [.ptr S.s 15 0 0,.int .i64 t,.int .i64 id,.agg (Xb.c x)] ⟨O,N⟩):=by
 rw [qau (fn:=c_90) rfl rfl];have t0:=hT N (Qb _);have hk1:Kp (fun j=>S.own j\/Rs O j) N O (O++[(N,AO.row 2 [Xb.c x])]):=Kp.app (fun _ _ _=>rfl) (Qb _);have hT1:=hT.app1 (o:=AO.row 2 [Xb.c x]) (Qb N);have m1:StoreM (O++[(N,AO.row 2 [Xb.c x])]) S p c:=m.kp (X:=fun _=>False) hT (Kp.app (fun _ _ _=>rfl) (Qb _)) (by simp);have b1:look N (O++[(N,AO.row 2 [Xb.c x])])=some (.row 2 [Xb.c x]):=by rw [qag,t0];simp
 have same:MDpost N O S p c (.int .i64 (modE p c t id x)) (some (.val (.int .i64 (modE p c t id x)),⟨O++[(N,AO.row 2 [Xb.c x])],N+1⟩)):=
  ⟨S,_,_,rfl,m1,rfl,fun j hj=> .inl hj,hk1,hT1,by omega⟩
 have hs:=m1.se;have hr:=qu1 (N:=N+1) m1 hl t id;have hc:=qog p f t x hx;have hcl:=qix x hx;have hE:=qad2 (p:=p) (c:=c) (t:=t) (id:=id) (x:=x);simp only [Prg.e] at hc;simp only [Xb.ce] at b1 hs hr hc hcl same;by_cases z:rowX p c t id=0
 rotate_left
 ·rw [QA z] at hE;rw [hE] at same ⊢;simp [c_90,Xb.ce,t0,hr,z];exact same
 rw [QAa z] at hE;by_cases q:qbp p t x=0
 rotate_left
 ·rw [hE] at same ⊢;simp [c_90,Xb.ce,t0,hr,hs,z,b1,hc,q];exact same
 have hE0:modE p c t id x=0:=by rw [hE,q]
 rw [hE0] at same ⊢;cases hi:inT p t with
 | false=>simp [rowX,hi] at z
 | true=>
 obtain ⟨k,rfl,hk⟩:=qep hi;have hk':k<c.rows.length:=by omega
 have hrow:qcm c (k:Int)=c.rows[k]:=qdy hk';cases hx2:rIdx c.rows[k] id with
 | none=>simp [rowX,hi,hrow,hx2] at z
 | some i=>
 obtain ⟨hil,hid⟩:=qjk hx2;have hI:rowI p c k id=i:=by simp [rowI,hi,hrow,hx2]
 have hM:modC c (k:Int) id x=⟨c.rows.set k (c.rows[k].modify i (qdj x)),c.Xr,c.Xq,c.Xm⟩:=by
  unfold modC;rw [hrow,hx2];simp
 rw [z,hI] at hr;obtain ⟨rid,es1,e1,lr,hle1,⟨hV,g1,g5⟩,ht1⟩:=m1.tab hk';obtain ⟨r5,es5,e5,l5,hle5,ht5⟩:=g5.nonempty (by simp;omega);rw [QAb] at e5 hle5;rw [e1] at hs;rw [e5] at g1;have g2:=qfj hil ht5;have hi5:i<es5.length:=by omega
 have hlr:=lr;have hl5:=l5;simp only [Xb.ce] at hlr hl5;rw [q] at hc;rw [QAa rfl,hM];simp [c_90,Xb.ce,t0,hr,hs,b1,hc,hcl,hlr,hk',g1,hl5,hil,g2,Rw.ce];simp only [<- Xb.ce] at hl5 ⊢;have ho:S.own r5:= .inr (.inl (.inr (.inr (.inr ⟨S.V[k],Qd hV,by rw [e5];rfl⟩))));have hch:∀j,¬S.chg k j->j≠r5:=fun j hj e=>hj (.inl ⟨S.V[k],Qa hV,by rw [e5,e];rfl⟩)
 have hMl:=m1.x.len;have hMk:k<S.M.length:=by omega
 have hnx:k<c.Xr.length\/c.Xr.length<=k:=by omega
 have keep:∀j,j≠r5->look j (setl r5 (.row 5 (es5.set i [.int .i64 c.rows[k][i].id,.slice 2 (c.rows[k][i].entry.keys.map Xi.c),.int .i64 c.rows[k][i].entry.Xt,.int .i64 x.action,.slice 1 (x.args.map c32)])) (O++[(N,AO.row 2 [Xb.c x])]))=look j (O++[(N,AO.row 2 [Xb.c x])]):=fun j hj=>by rw [qab,QA hj]
 have kmu:∀z v es,z≠5->Mu (O++[(N,AO.row 2 [Xb.c x])]) z v es->Mu (setl r5 (.row 5 (es5.set i [.int .i64 c.rows[k][i].id,.slice 2 (c.rows[k][i].entry.keys.map Xi.c),.int .i64 c.rows[k][i].entry.Xt,.int .i64 x.action,.slice 1 (x.args.map c32)])) (O++[(N,AO.row 2 [Xb.c x])])) z v es:=by
  intro z v es hz hm;refine hm.fr fun j hj=>?_
  obtain ⟨es1,h1⟩:=hm.own hj;exact keep j (qan h1 l5 (by simp [hz]))
 have up:=m1.upd (k:=k) (v':=S.V[k]) (m':=S.M[k]) (l':=c.rows[k].modify i (qdj x)) (nx:=(c.Xr[k]?).getD 0) (O':=setl r5 (.row 5 (es5.set i [.int .i64 c.rows[k][i].id,.slice 2 (c.rows[k][i].entry.keys.map Xi.c),.int .i64 c.rows[k][i].entry.Xt,.int .i64 x.action,.slice 1 (x.args.map c32)])) (O++[(N,AO.row 2 [Xb.c x])])) hk'
  (fun j _ hj=>keep j (hch j hj)) (by simpa using kmu _ _ _ (by decide) m1.cm.r)
  (by
   have hset:c.Xr.set k ((c.Xr[k]?).getD 0)=c.Xr:=by
    rcases hnx with h | h
    ·rw [Qa h];simp
    ·rw [List.set_eq_of_length_le h]
   rw [hset];exact kmu _ _ _ (by decide) m1.cm.n)
  (by simpa using kmu _ _ _ (by decide) m1.x.i)
  (by
   have hmu:=Mu.upd (O':=setl r5 (.row 5 (es5.set i [.int .i64 c.rows[k][i].id,.slice 2 (c.rows[k][i].entry.keys.map Xi.c),.int .i64 c.rows[k][i].entry.Xt,.int .i64 x.action,.slice 1 (x.args.map c32)])) (O++[(N,AO.row 2 [Xb.c x])])) (id:=r5) (z:=5) (k:=i) (es:=c.rows[k].map Rw.c) (es0:=es5)
    (y:=[.int .i64 c.rows[k][i].id,.slice 2 (c.rows[k][i].entry.keys.map Xi.c),.int .i64 c.rows[k][i].entry.Xt,.int .i64 x.action,.slice 1 (x.args.map c32)]) (by rw [qab,QAa rfl,l5];rfl) (by simpa using hle5) ht5
   have hlist:(c.rows[k].map Rw.c).set i [.int .i64 c.rows[k][i].id,.slice 2 (c.rows[k][i].entry.keys.map Xi.c),.int .i64 c.rows[k][i].entry.Xt,.int .i64 x.action,.slice 1 (x.args.map c32)]=(c.rows[k].modify i (qdj x)).map Rw.c:=by
    refine List.ext_getElem (by simp) fun j h1 h2=>?_
    rw [List.getElem_set,List.getElem_map,List.getElem_map,QBy];split
    ·rename_i e;subst e;simp [Rw.ce,qdj]
    ·simp
   rw [hlist,QAb] at hmu;rw [e5];exact hmu)
  (by
   have h0:=m1.x.m k _ _ (Qa hMk) (Qa hk');have hents:ents (c.rows[k].modify i (qdj x))=ents c.rows[k]:=qac1 (by simp) fun j h1 h2=>by
    rw [QBy];split<;>rfl
   rw [keep _ (qan h0 l5 (by simp)),h0,hents])
  (m1.cm.va _ (Qd hV)) (fun i hi=> .inl ⟨_,Qa hV,hi⟩) (.inl (Qa hMk))
 have htab:S.tab k S.V[k] S.M[k]=S:=by
  cases S;simp [SV.tab]
 rw [htab] at up;have hset:c.Xr.set k ((c.Xr[k]?).getD 0)=c.Xr:=by
  rcases hnx with h | h
  ·rw [Qa h];simp
  ·rw [List.set_eq_of_length_le h]
 rw [hset] at up;exact ⟨S,_,_,rfl,up,rfl,fun j hj=> .inl hj,Kp.setl hk1 (.inr (.inl ho)),qai hT1,by omega⟩
theorem qaj0 (r:Rw) (x:Entry) (hb:r.entry.keys.length<2^40):qad Φ f_161 [.agg (Rw.c r),.iptr 4 [Entry.c x] 0 0]=some (.val (.bool (sk r.entry x))):=by
 rw [qaa (fn:=c_161) rfl rfl];have h:=qaan r.entry x hb;simp [c_161,Rw.ce,Entry.ce,h]
theorem qadc (l:List Rw) (x:Entry) (hl:l.length<2^40) (hs:∀r∈l,r.entry.keys.length<2^40):qad Φ f_223 [.slice 5 (l.map Rw.c),.func (.func f_161) [] [.iptr 4 [Entry.c x] 0 0]]=some (.val (.int .i64 (ix (fun r=>sk r.entry x) l 0))):=by
 rw [qaa (fn:=c_223) rfl rfl];simp [c_223];refine (qcj l.length (fun i e=>look 0 e=some (.slice 5 (l.map Rw.c))/\look 1 e=some (.func (.func f_161) [] [.iptr 4 [Entry.c x] 0 0])/\look 7 e=some (.int .i64 l.length)/\look 8 e=some (.int .i64 i))
  (fun i=>some (.val (.int .i64 (ix (fun r=>sk r.entry x) l i)))) ?_ ?_ 0 _ (Qc _) ?_).trans (by simp)
 ·rintro i e L hi hL ⟨h0,h1,h7,h8⟩ ih;have hw:=qal i (by omega);have hd:=qaj0 l[i] x (hs _ (Qd hi));simp only [Rw.ce,Entry.ce] at hd h1;cases z:sk l[i].entry x with
  | true=>
   rw [qke hi (by simpa using z)];rw [z] at hd;simp [c_223_l0,Rw.ce,h0,h1,h7,h8,hi,hd]
  | false=>
   rw [qik hi (by simpa using z)];rw [z] at hd;simp [c_223_l0,Rw.ce,h0,h1,h7,h8,hi,hd,hw];exact ih _ ⟨by simp [h0],by simp [h1,Entry.ce],by simp [h7],by simp⟩
 ·rintro e L hL ⟨h0,h1,h7,h8⟩;rw [qkd];simp [c_223_l0,c_223_k1,h7,h8,hL]
 ·simp
theorem qacq (l:List Rw) (x:Entry) (hl:l.length<2^40) (hs:∀r∈l,r.entry.keys.length<2^40):qad Φ f_160 [.slice 5 (l.map Rw.c),.func (.func f_161) [] [.iptr 4 [Entry.c x] 0 0]]=some (.val (.bool (l.any fun r=>sk r.entry x))):=by
 rw [qaa (fn:=c_160) rfl rfl];have h:=qadc l x hl hs;simp only [Entry.ce] at h;rw [<- qma];simp [c_160,Entry.ce,h]
theorem qzr {O:List (Nat×AO)} {N:Nat} {S:SV} {p:Prg} {c:Xf} (m:StoreM O S p c) (f:PrgS p) (v:CfgV p c) (s:CfgT c) (hT:Tail O N) (t:Int) (x:Entry) (hx:EntS x):
  MDpost N O S p (if insE p c t x=0 then insC c t x else c) (.tup [.int .i64 (if insE p c t x=0 then qe0 c t else 0),.int .i64 (insE p c t x)]) (qah Φ f_93 [.ptr S.s 15 0 0,.int .i64 t,.agg (Entry.c x)] ⟨O,N⟩):=by
 rw [qau (fn:=c_93) rfl rfl];have t0:=hT N (Qb _);have hl:=v.rl;have hk1:Kp (fun j=>S.own j\/Rs O j) N O (O++[(N,AO.row 4 [Entry.c x])]):=Kp.app (fun _ _ _=>rfl) (Qb _);have hT1:=hT.app1 (o:=AO.row 4 [Entry.c x]) (Qb N);have m1:StoreM (O++[(N,AO.row 4 [Entry.c x])]) S p c:=m.kp (X:=fun _=>False) hT (Kp.app (fun _ _ _=>rfl) (Qb _)) (by simp);have b1:look N (O++[(N,AO.row 4 [Entry.c x])])=some (.row 4 [Entry.c x]):=by rw [qag,t0];simp
 have same:insE p c t x≠0->MDpost N O S p (if insE p c t x=0 then insC c t x else c) (.tup [.int .i64 (if insE p c t x=0 then qe0 c t else 0),.int .i64 (insE p c t x)]) (some (.val (.tup [.int .i64 0,.int .i64 (insE p c t x)]),⟨O++[(N,AO.row 4 [Entry.c x])],N+1⟩)):=by
  intro h;rw [QA h,QA h];exact ⟨S,_,_,rfl,m1,rfl,fun j hj=> .inl hj,hk1,hT1,by omega⟩
 have hs:=m1.se;have ht:=qol (N:=N+1) m1 hl t;have he:=qwp p f t x hx;simp only [Prg.e] at he;simp only [Entry.ce] at b1 hs ht he same;cases z:inT p t with
 | false=>
  have hE:insE p c t x=8:=by simp [insE,z]
  rw [z] at ht;have same:=same (by rw [hE];decide);rw [hE] at same ⊢;simp [c_93,Entry.ce,t0,hs,ht];simpa using same
 | true=>
 obtain ⟨k,rfl,hk⟩:=qep z;have hk':k<c.rows.length:=by omega
 have hkn:k<c.Xr.length:=by rw [v.nl];exact hk
 have hrow:qcm c (k:Int)=c.rows[k]:=qdy hk';have hnx:qe0 c (k:Int)=c.Xr[k]:=qk8 hkn;have hsz:qpt p (k:Int)=p.Xn[k].size:=qpu hk;have hE:insE p c k x=if entE p k x≠0 then entE p k x else if (c.rows[k].any fun y=>sk y.entry x)=true then 7 else if p.Xn[k].size<=c.rows[k].length\/1073741824<=c.Xr[k] then 13 else 0:=by
  unfold insE;rw [z,hrow,hnx,hsz];simp
 rw [z] at ht;by_cases y:entE p k x=0
 rotate_left
 ·rw [QAa y] at hE;have same:=same (by rw [hE];exact y);rw [hE] at same ⊢;simp [c_93,Entry.ce,t0,hs,ht,b1,he,y];simpa [y] using same
 rw [QA (by simpa using y)] at hE;rw [y] at he;obtain ⟨rid,es1,e1,lr,hle1,⟨hV,g1,g5⟩,ht1⟩:=m1.tab hk';have hsl:=s.rs _ (Qd hk');have hcon:=qacq c.rows[k] x hsl.1 fun r hr=>(hsl.2 r hr).kl
 have hsnp:=fun n=>g5.snp (N:=N+1) (n:=n)
 have hsn2:∀n,snap (n+2) ⟨O++[(N,AO.row 4 [Entry.c x])],N+1⟩ S.V[k]=some (.slice 5 (c.rows[k].map Rw.c)):=fun n=>by
  rw [hsnp (n+1),qfl (n:=n+1) (fun x=>qab1 x)];rfl
 have hsn3:=hsn2 38;rw [e1] at hs;simp only [Entry.ce] at hcon hsn3 lr;cases w:c.rows[k].any fun y=>sk y.entry x with
 | true=>
  rw [QAa w] at hE;have same:=same (by rw [hE];decide);rw [w] at hcon;rw [hE] at same ⊢;simp [c_93,Entry.ce,t0,hs,ht,b1,he,lr,hk',g1,hsn3,hcon];simpa using same
 | false=>
 rw [QA (by rw [w];decide)] at hE;rw [w] at hcon;have hvl:=g5.len;rw [QAb] at hvl;obtain ⟨nid,esn,e2,ln,hle2,ht2⟩:=m1.cm.n.nonempty (by simp;omega);rw [QAb] at e2 hle2;have gn:=qfj hkn ht2;rw [cIe] at gn;rw [e2] at hs;simp only [Entry.ce] at ln;have hkt:=hk;by_cases u:p.Xn[k].size<=c.rows[k].length
 ·rw [QAa (.inl u)] at hE;have same:=same (by rw [hE];decide);rw [hE] at same ⊢;simp [c_93,Entry.ce,Tbl.e,t0,hs,ht,b1,he,lr,hk',g1,hsn3,hcon,hvl,ln,hkn,gn,hkt,u,-lenOf];simpa using same
 by_cases q:1073741824<=c.Xr[k]
 ·rw [QAa (.inr q)] at hE;have same:=same (by rw [hE];decide);rw [hE] at same ⊢;simp [c_93,Entry.ce,Tbl.e,t0,hs,ht,b1,he,lr,hk',g1,hsn3,hcon,hvl,ln,hkn,gn,hkt,u,q,-lenOf];simpa using same
 rw [QA (by omega)] at hE;rw [hE];have hM:=m1.x.len;obtain ⟨iid,esi,e3,li,hle3,hMk,gi,lm⟩:=m1.idx hk';rw [e3] at hs;simp only [Entry.ce] at li lm;have hv:=v.at hk;have hput:=qof c.Xr[k] (.int .i64 (c.rows[k].length:Nat)) c.rows[k] 0 fun r hr=>by have:=hv.lt r hr;omega
 rw [show qei c.rows[k] 0=ents c.rows[k] from rfl] at hput;have hce:=qq9 x hx.al hx.kl;simp only [Entry.ce] at hce;simp [c_93,Entry.ce,Tbl.e,t0,hs,ht,b1,he,lr,hk',g1,hsn3,hcon,hvl,ln,hkn,gn,hkt,u,q,li,lm,gi,hput,-lenOf,-qac8];generalize hO2:setl S.M[k] (AO.map (ents c.rows[k]++[(AV.int IntKind.i64 c.Xr[k],AV.int IntKind.i64 (c.rows[k].length:Nat))])) (O++[(N,AO.row 4 [[AV.slice 2 (List.map Xi.c x.keys),AV.int IntKind.i64 x.Xt,AV.int IntKind.i64 x.call.action,AV.slice 1 (List.map c32 x.call.args)]])])=O2;rw [<- Entry.ce] at hO2;have hlm:look S.M[k] (O++[(N,AO.row 4 [Entry.c x])])=some (.map (ents c.rows[k])):=m1.x.m k _ _ (Qa hMk) (Qa hk');have k2:∀j,j≠S.M[k]->look j O2=look j (O++[(N,AO.row 4 [Entry.c x])]):=fun j hj=>by rw [<- hO2,qab,QA hj]
 have hT2:Tail O2 (N+1):=by rw [<- hO2];exact qai hT1
 have kr:∀j z es,look j (O++[(N,AO.row 4 [Entry.c x])])=some (.row z es)->look j O2=some (.row z es):=fun j z es hj=>by rw [k2 j (qan hj hlm (by simp)),hj]
 have ls2:=kr S.s _ _ (by simp only [Entry.ce];exact hs);have lr2:=kr rid _ _ (by simp only [Entry.ce];exact lr);have ln2:=kr nid _ _ (by simp only [Entry.ce];exact ln);have lb2:=kr N _ _ (by simp only [Entry.ce];exact b1);have lm2:look S.M[k] O2=some (.map (ents c.rows[k]++[(AV.int IntKind.i64 c.Xr[k],AV.int IntKind.i64 (c.rows[k].length:Nat))])):=by rw [<- hO2,qab,QAa rfl,hlm];rfl
 clear hO2;have u0:=hT2 (N+1+112) (by omega);have fsx:=qb6 (n:=N+1+112) hT2 ls2 (by omega);have frx:=qb6 (n:=N+1+112) hT2 lr2 (by omega);have fnx:=qb6 (n:=N+1+112) hT2 ln2 (by omega);have fnb:¬N=N+1+112/\¬N+1+112=N:=by omega
 have hrn:¬rid=nid:=fun e=>m1.cm.rn rid (by rw [e1];rfl) (by rw [e2,e];rfl)
 have hnr:¬nid=rid:=fun e=>hrn e.symm
 have hwr:IntKind.wrap .i64 (c.Xr[k]+1)=c.Xr[k]+1:=qbb (by have:=hv.nx0;omega) (by omega);have hsr:=qan ls2 lr2 (by simp);have hsn:=qan ls2 ln2 (by simp);have hrs:=hsr.symm;have hns:=hsn.symm;have hbeq:(S.s == N+1+112)=false:=by simp [fsx]
 have hkl1:k<es1.length:=by omega
 have hkln:k<esn.length:=by omega
 have hci:insC c (k:Int) x=⟨c.rows.set k (c.rows[k]++[⟨c.Xr[k],x⟩]),c.Xr.set k (c.Xr[k]+1),c.Xq,c.Xm⟩:=by
  unfold insC;rw [hrow,hnx];simp
 have hsnoc:ents (c.rows[k]++[⟨c.Xr[k],x⟩])=ents c.rows[k]++[(AV.int IntKind.i64 c.Xr[k],AV.int IntKind.i64 (c.rows[k].length:Nat))]:=qrf _ _;have hVl:=m1.cm.rl;have fin:∀(O':List (Nat×AO)) (N':Nat) (v':AV),Tail O' N'->N<=N'->look rid O'=some (.row 1 (es1.set k [v']))->look nid O'=some (.row 1 (esn.set k [.int .i64 (c.Xr[k]+1)]))->
   (∀j,j<N+1->j≠rid->j≠nid->(∀i,vid S.V[k]=some i->j≠i)->look j O2≠some .res->look j O'=look j O2)->Mu O' 5 v' ((c.rows[k]++[Rw.mk c.Xr[k] x]).map Rw.c)->(∀z es t,v'≠ .app z es t)->(∀i,vid v'=some i->vid S.V[k]=some i\/N+1<=i)->
   MDpost N O S p (insC c (k:Int) x) (.tup [.int .i64 (qe0 c (k:Int)),.int .i64 0]) (some (.val (.tup [.int .i64 c.Xr[k],.int .i64 0]),⟨O',N'⟩)):=by
  intro O' N' v' hT' hN' a1 a2 a3 a4 a5 a6;rw [hnx,hci];have own1:S.own rid:= .inr (.inl (.inl (by rw [e1];rfl)));have own2:S.own nid:= .inr (.inl (.inr (.inl (by rw [e2];rfl))));have own3:S.own S.M[k]:= .inr (.inr (.inr (Qd hMk)));have own4:∀i,vid S.V[k]=some i->S.own i:=fun i hi=> .inr (.inl (.inr (.inr (.inr ⟨_,Qd hV,hi⟩))))
  have keep:∀j,S.own j->¬S.chg k j->look j O'=look j (O++[(N,AO.row 4 [Entry.c x])]):=by
   intro j hj hc;obtain ⟨w,hw,hwn⟩:=m1.own_lk hj;have h2:look j O2=some w:=by
    rw [k2 j (fun e=>hc (.inr (.inr (.inr (.inr (by rw [e];exact Qa hMk)))))),hw]
   rw [a3 j (hT1.lt hw) (fun e=>hc (.inr (.inl (by rw [e,e1];rfl)))) (fun e=>hc (.inr (.inr (.inl (by rw [e,e2];rfl))))) (fun i hi e=>hc (.inl ⟨_,Qa hV,by rw [e];exact hi⟩)) (by rw [h2];simpa using hwn),h2,hw]
  have h5no:∀i,vid S.V[k]=some i->∃es,look i (O++[(N,AO.row 4 [Entry.c x])])=some (.row 5 es):=fun i hi=>m1.vrow (Qa hV) hi
  have up:=m1.upd (k:=k) (v':=v') (m':=S.M[k]) (l':=c.rows[k]++[⟨c.Xr[k],x⟩]) (nx:=c.Xr[k]+1) (O':=O') hk' keep
   (by
    have hmu:=Mu.upd (O':=O') (id:=rid) (z:=1) (k:=k) (es:=S.V.map fun x=>[x]) (es0:=es1) (y:=[v']) a1 (by rw [QAb,hVl];exact hle1) (by rw [QAb,hVl];exact ht1);rw [QAb,hVl] at hmu;rw [e1,List.map_set];exact hmu)
   (by
    have hmu:=Mu.upd (O':=O') (id:=nid) (z:=1) (k:=k) (es:=c.Xr.map cI) (es0:=esn) (y:=[.int .i64 (c.Xr[k]+1)]) a2 (by rw [QAb];exact hle2) ht2;rw [QAb] at hmu;rw [e2,List.map_set,cIe];exact hmu)
   (by
    have hmm:S.M.set k S.M[k]=S.M:=by simp
    rw [hmm];refine m1.x.i.fr fun i hi=>?_
    obtain ⟨es0,hl0⟩:=m1.x.i.own hi;have h2:=kr i _ _ hl0;rw [a3 i (hT1.lt hl0) (fun e=>m1.ri i (by rw [e,e1];rfl) hi) (fun e=>m1.ni i (by rw [e,e2];rfl) hi) (fun i' hi' e=>by obtain ⟨es5,h5⟩:=h5no i' hi';exact qan hl0 h5 (by simp) e) (by rw [h2];simp),h2,hl0])
   a4
   (by
    rw [hsnoc,<- lm2];refine a3 _ (hT1.lt hlm) (fun e=>?_) (fun e=>?_) (fun i hi e=>?_) (by rw [lm2];simp)
    ·exact qan lm2 lr2 (by simp) e
    ·exact qan lm2 ln2 (by simp) e
    ·obtain ⟨es5,h5⟩:=h5no i hi;exact qan lm2 (kr i _ _ h5) (by simp) e)
   a5
   (fun i hi=>by
    rcases a6 i hi with h | h
    ·exact .inl ⟨_,Qa hV,h⟩
    ·exact .inr fun w hw=>by have:=hT1.lt hw;omega)
   (.inl (Qa hMk))
  refine ⟨S.tab k v' S.M[k],O',N',rfl,up,rfl,?_,?_,hT',hN'⟩
  ·intro j hj;rcases hj with hj | hj | hj | hj
   ·exact .inl (.inl hj)
   ·rcases hj with hj | hj | hj | ⟨w,hw,hj⟩
    ·exact .inl (.inr (.inl (.inl hj)))
    ·exact .inl (.inr (.inl (.inr (.inl hj))))
    ·exact .inl (.inr (.inl (.inr (.inr (.inl hj)))))
    ·rcases Qq hw with hw | rfl
     ·exact .inl (.inr (.inl (.inr (.inr (.inr ⟨w,hw,hj⟩)))))
     ·rcases a6 j hj with h | h
      ·exact .inl (own4 j h)
      ·exact .inr (by omega)
   ·exact .inl (.inr (.inr (.inl hj)))
   ·simp only [SV.tab] at hj;rcases Qq hj with hj | rfl
    ·exact .inl (.inr (.inr (.inr hj)))
    ·exact .inl own3
  ·intro j hj hx;have hx1:¬S.own j:=fun h=>hx (.inl h)
   have hx2:¬look j O=some .res:=fun h=>hx (.inr h)
   have h1:=hk1 j hj hx;have h2:=k2 j (fun e=>hx1 (by rw [e];exact own3));rw [a3 j (by omega) (fun e=>hx1 (by rw [e];exact own1)) (fun e=>hx1 (by rw [e];exact own2)) (fun i hi e=>hx1 (by rw [e];exact own4 i hi)) (by rw [h2,h1];exact hx2),h2,h1]
 cases hVk:S.V[k] with
 | Xu z es=>
  rw [hVk] at g5 g1;have hl0:c.rows[k]=[]/\z=5/\es=[]:=by
   generalize hgen:c.rows[k].map Rw.c=gl at g5;cases g5;exact ⟨by simpa using hgen,rfl,rfl⟩
  obtain ⟨hl0,rfl,rfl⟩:=hl0;simp [ls2,lr2,ln2,lb2,u0,qag,qab,qaw,fsx,frx,fnx,fnb,hk',hkn,g1,hce,gn,hnr,hwr,hbeq,hsr];refine fin _ (N+1+112+1) (.row (N+1+112) 5 0 1) ?_ (by omega) ?_ ?_ ?_ ?_ (by simp) (by intro i hi;cases hi;right;omega)
  ·refine qai (qdn (qai ?_));exact qho (hT2.mono (by omega)) (QAt _)
  ·simp [qab,qaw,qag,lr2,hrn]
  ·simp [qab,qaw,qag,ln2,hnr]
  ·intro j hj b1 b2 b3 b4;have hj2:¬N+1+112=j:=by omega
   have hi:look j (setl rid (AO.row 1 (es1.set k [.row (N+1+112) 5 0 1])) (O2++[(N+1+112,AO.row 5 [[AV.int IntKind.i64 c.Xr[k],AV.slice 2 (List.map Xi.c x.keys),AV.int IntKind.i64 x.Xt,AV.int IntKind.i64 x.call.action,AV.slice 1 (List.map c32 x.call.args)]])]))=look j O2:=by
    rw [qab,QA b1,qag];simp [look,hj2]
   rw [qab,QA b2,qaw (by rw [hi];exact b4),hi]
  ·refine .row (N+1+112) _ [Rw.c (Rw.mk c.Xr[k] x)] _ (by simp [hl0]) ?_ (by simp [hl0]) (by simp [hl0]);simp [qab,qaw,fnx,frx,u0,Rw.ce]
 | row id5 z off n=>
  rw [hVk] at g5 g1;have hg:z=5/\off=0/\n=c.rows[k].length/\∃es5,look id5 (O++[(N,AO.row 4 [Entry.c x])])=some (.row 5 es5)/\c.rows[k].length<=es5.length/\es5.take c.rows[k].length=c.rows[k].map Rw.c:=by
   generalize hgen:c.rows[k].map Rw.c=gl at g5;have hlen:gl.length=c.rows[k].length:=by rw [<- hgen];simp
   cases g5 with
   | row _ _ es5 _ hn hl5 hle5 ht5=>exact ⟨rfl,rfl,by omega,es5,hl5,by omega,by rw [<- hlen];exact ht5⟩
  obtain ⟨rfl,rfl,rfl,es5,hl5,hle5,ht5⟩:=hg;have l52:=kr _ _ _ hl5;have f5:=qb6 (n:=N+1+112) hT2 l52 (by omega);have h5s:=qan l52 ls2 (by simp);have h5r:=qan l52 lr2 (by simp);have h5n:=qan l52 ln2 (by simp);have hs5:=h5s.symm;have hr5:=h5r.symm;have hn5:=h5n.symm;have h5b:=qan l52 lb2 (by simp);have hb5:=h5b.symm;have hq5:(S.s == id5)=false:=by simpa using hs5
  have hbd:(c.rows[k].length+1)*72<=70368744177664:=by have:=v.small _ (Qd hk');omega
  have hls:=v.small _ (Qd hk');have hres:look (N+1+112) (O2++[(N+1+112,AO.res)])=some .res:=by rw [qag,u0];simp
  have hdr:look (N+1+112) (qbg id5 (O2++[(N+1+112,AO.res)]))=some .res:=by rw [qb5 (fun e=>f5.2 e),hres]
  by_cases hfull:c.rows[k].length=es5.length
  ·have hbd2:(es5.length+1)*72<=70368744177664:=by rw [<- hfull];exact hbd
   simp [ls2,lr2,ln2,lb2,u0,qag,qab,qaw,qb5,fsx,frx,fnx,fnb,hk',hkn,g1,hce,gn,hnr,hwr,hbeq,hsr,l52,f5,hs5,hr5,hn5,hq5,hbd2,hfull,hdr];refine fin _ (N+1+112+1) (.row (N+1+112) 5 0 (es5.length+1)) ?_ (by omega) ?_ ?_ ?_ ?_ (by simp) (by intro i hi;cases hi;right;omega)
   ·refine qai (qdn (qai (qai (qdz ?_))));exact qho (hT2.mono (by omega)) (QAt _)
   ·simp [qab,qaw,qag,qb5,lr2,hrn,frx,hr5]
   ·simp [qab,qaw,qag,qb5,ln2,hnr,fnx,hn5]
   ·intro j hj b1 b2 b3 b4;have hj2:¬N+1+112=j:=by omega
    have hj3:¬j=N+1+112:=by omega
    have hj5:j≠id5:=b3 id5 (by rw [hVk];rfl);have hi:∀A B,look j (setl rid A (setl (N+1+112) B (qbg id5 (O2++[(N+1+112,AO.res)]))))=look j O2:=by
     intro A B;rw [qab,QA b1,qab,QA hj3,qb5 hj5,qag];simp [look,hj2]
    rw [qab,QA b2,qaw (by rw [hi];exact b4),hi]
   ·have htk:es5=c.rows[k].map Rw.c:=by rw [<- ht5,hfull,QAk]
    refine .row (N+1+112) _ (es5++[Rw.c (Rw.mk c.Xr[k] x)]) _ (by simp [hfull]) ?_ (by simp [htk]) (by simp [htk,Qo]);simp [qab,qaw,hdr,fnx,frx,Rw.ce]
  ·have hlt:c.rows[k].length<es5.length:=by omega
   have hlt2:c.rows[k].length+1<=es5.length:=by omega
   have hne:¬es5.length=c.rows[k].length:=by omega
   simp [ls2,lr2,ln2,lb2,u0,qag,qab,qaw,fsx,frx,fnx,fnb,hk',hkn,g1,hce,gn,hnr,hwr,hsr,l52,f5,hs5,hr5,hn5,hq5,hbd,hfull,hlt2];refine fin _ (N+1+112+1) (.row id5 5 0 (c.rows[k].length+1)) ?_ (by omega) ?_ ?_ ?_ ?_ (by simp) (by intro i hi;cases hi;left;rw [hVk];rfl)
   ·refine qai (qdn (qai (qai ?_)));exact qho (hT2.mono (by omega)) (QAt _)
   ·simp [qab,qaw,qag,lr2,hrn,hr5]
   ·simp [qab,qaw,qag,ln2,hnr,hn5]
   ·intro j hj b1 b2 b3 b4;have hj2:¬N+1+112=j:=by omega
    have hj5:j≠id5:=b3 id5 (by rw [hVk];rfl);have hi:∀A B,look j (setl rid A (setl id5 B (O2++[(N+1+112,AO.res)])))=look j O2:=by
     intro A B;rw [qab,QA b1,qab,QA hj5,qag];simp [look,hj2]
    rw [qab,QA b2,qaw (by rw [hi];exact b4),hi]
   ·refine .row id5 _ (es5.take c.rows[k].length++Rw.c (Rw.mk c.Xr[k] x)::es5.drop (c.rows[k].length+1)) _ (by simp) ?_ (by simp;omega) ?_
    ·simp [qab,qaw,qag,l52,h5r,h5n,Rw.ce]
    ·rw [QAb,QAc,QCf,QBb,ht5];have hll:(c.rows[k].map Rw.c).length=c.rows[k].length:=by simp
     rw [List.take_append,hll,Qo (by rw [hll];omega),show c.rows[k].length+1 - c.rows[k].length=1 by omega];simp
 | app z es t=>exact absurd hVk (m1.cm.va _ (Qd hV) _ _ _)
 | _=>rw [hVk] at g5;cases g5
theorem qmz {α:Type} {f:Nat->Option α} {Q:α->Prop} (h:∀i x,f i=some x->Q x) {N:Nat} {x:α} (hx:fe f N 0=some x):Q x:=by
 obtain ⟨k,_,hk⟩:=qii hx;exact h k x hk
theorem qagk {p:Prg} {d:Dg} (h:limD p=some d):d.1≠0:=by
 unfold limD at h
 repeat' split at h
 all_goals first | (cases h;simp;done) | cases h
theorem qaf9 {p:Prg} {d:Dg} (h:hdrD p=some d):d.1≠0:=by
 refine qmz (Q:=fun d:Dg=>d.1≠0) (fun i x hx=>?_) h;rw [Qt] at hx;obtain ⟨a,_,hx⟩:=hx;split at hx
 ·cases hx
 ·cases hx;assumption
theorem qagn {p:Prg} {d:Dg} (h:metD p=some d):d.1≠0:=by
 unfold metD at h;split at h
 ·cases h;simp
 split at h
 ·rename_i d' hd';cases h;refine qmz (Q:=fun d:Dg=>d.1≠0) (fun i x hx=>?_) hd';rw [Qt] at hx;obtain ⟨a,_,hx⟩:=hx;split at hx
  ·cases hx
  ·cases hx;assumption
 ·refine qmz (Q:=fun d:Dg=>d.1≠0) (fun i x hx=>?_) h;split at hx
  ·cases hx
  ·cases hx;simp
theorem qahw {p:Prg} {d:Dg} (h:regD p=some d):d.1≠0:=by
 refine qmz (Q:=fun d:Dg=>d.1≠0) (fun i x hx=>?_) h;rw [Qt] at hx;obtain ⟨a,_,hx⟩:=hx;split at hx
 ·cases hx
 ·cases hx;assumption
theorem qaex {p:Prg} {d:Dg} (h:qe6 p=some d):d.1≠0:=by
 refine qmz (Q:=fun d:Dg=>d.1≠0) (fun i x hx=>?_) h;rw [Qt] at hx;obtain ⟨a,_,hx⟩:=hx;split at hx
 ·cases hx;assumption
 ·split at hx
  ·cases hx;simp
  ·cases hx
theorem qaif {p:Prg} {d:Dg} (h:tblD p=some d):d.1≠0:=by
 refine qmz (Q:=fun d:Dg=>d.1≠0) (fun i x hx=>?_) h;rw [Qt] at hx;obtain ⟨a,_,hx⟩:=hx;split at hx
 ·cases hx;assumption
 ·split at hx
  ·cases hx;simp
  ·cases hx
theorem qaf2 {p:Prg} {d:Dg} (h:floD p=some d):d.1≠0:=by
 unfold floD at h;split at h
 ·cases h;assumption
 split at h
 ·cases h;assumption
 split at h
 ·cases h;assumption
 ·cases h
structure PrgV (p:Prg):Prop where
 lim:limD p=none
 hdr:hdrD p=none
 met:metD p=none
 reg:regD p=none
 act:qe6 p=none
 tbl:tblD p=none
 flo:floD p=none
theorem qmt {p:Prg} (h:(prgD p).1=0):PrgV p:=by
 unfold prgD at h;cases h1:limD p with
 | some d=>rw [h1] at h;exact absurd h (qagk h1)
 | none=>
 cases h2:hdrD p with
 | some d=>rw [h1,h2] at h;exact absurd h (qaf9 h2)
 | none=>
 cases h3:metD p with
 | some d=>rw [h1,h2,h3] at h;exact absurd h (qagn h3)
 | none=>
 cases h4:regD p with
 | some d=>rw [h1,h2,h3,h4] at h;exact absurd h (qahw h4)
 | none=>
 cases h5:qe6 p with
 | some d=>rw [h1,h2,h3,h4,h5] at h;exact absurd h (qaex h5)
 | none=>
 cases h6:tblD p with
 | some d=>rw [h1,h2,h3,h4,h5,h6] at h;exact absurd h (qaif h6)
 | none=>
 cases h7:floD p with
 | some d=>rw [h1,h2,h3,h4,h5,h6,h7] at h;exact absurd h (qaf2 h7)
 | none=>exact ⟨h1,h2,h3,h4,h5,h6,h7⟩
theorem PrgV.nest {p:Prg} (v:PrgV p):nest p.control<=6:=by
 have h:=v.flo;unfold floD at h;split at h
 ·cases h
 split at h
 ·cases h
 rename_i h1;refine Decidable.byContradiction fun hc=>h1 ?_
 unfold ctlE;split
 ·simp
 ·rw [QAa (by omega)];simp
theorem PrgV.tabs {p:Prg} (v:PrgV p):p.Xn.length<=12:=by
 have h:=v.lim;unfold limD at h
 repeat' split at h
 all_goals first | omega | cases h
theorem qfq {α:Type} (f:α->α->Bool):∀l:List α,(∀x∈l,f x x=true)->eqL f l l=true
 | [],_=>by simp [eqL]
 | x::r,h=>by simp [eqL,h x (QAz ..),qfq f r (fun y hy=>h y (QAo _ hy))]
def Rf (n:Nat) (v:AV):Prop:=avEq n v v=true
theorem Rf.int (n:Nat) (k:IntKind) (v:Int):Rf (n+1) (.int k v):=by unfold Rf avEq;simp
theorem Rf.bool (n:Nat) (b:Bool):Rf (n+1) (.bool b):=by unfold Rf avEq;simp
theorem Rf.str (n:Nat) (b:List UInt8):Rf (n+1) (.str b):=by unfold Rf avEq;simp
theorem Rf.row (n a b c d:Nat):Rf (n+1) (.row a b c d):=by unfold Rf avEq;simp
theorem Rf.slice (n z:Nat) (es:List (List AV)) (h:∀e∈es,∀c∈e,Rf n c):Rf (n+1) (.slice z es):=by
 have:=qfq (eqL (avEq n)) es fun e he=>qfq (avEq n) e (h e he)
 unfold Rf avEq;simp [this]
theorem Rf.Xu (n z:Nat) (es:List (List AV)) (h:∀e∈es,∀c∈e,Rf n c):Rf (n+1) (.Xu z es):=by
 have:=qfq (eqL (avEq n)) es fun e he=>qfq (avEq n) e (h e he)
 unfold Rf avEq;simp [this]
theorem Rf.app (n z t:Nat) (es:List (List AV)) (h:∀e∈es,∀c∈e,Rf n c):Rf (n+1) (.app z es t):=by
 have:=qfq (eqL (avEq n)) es fun e he=>qfq (avEq n) e (h e he)
 unfold Rf avEq;simp [this]
theorem Rf.map {α:Type} (n z:Nat) (f:α->List AV) (l:List α) (h:∀x∈l,∀c∈f x,Rf n c):Rf (n+1) (.slice z (l.map f)):=by
 refine Rf.slice n z _ fun e he=>?_
 obtain ⟨x,hx,rfl⟩:=QAv.1 he;exact h x hx
theorem qq0 (n:Nat) (x:Xe):∀c∈Xe.c x,Rf (n+1) c:=by
 simp [Xe.c,Rf.int]
theorem quz (n:Nat) (x:Fld):∀c∈Fld.c x,Rf (n+1) c:=by
 simp [Fld.c,Rf.int,Rf.str]
theorem rf_I (n:Nat) (x:Int):∀c∈cI x,Rf (n+1) c:=by simp [cI,Rf.int]
theorem qsx (n:Nat) (x:Int):∀c∈c32 x,Rf (n+1) c:=by simp [c32,Rf.int]
theorem quy:∀(k:Nat) (l:List Xa),nest l<=k->Rf (k+3) (.slice 5 (l.map Xa.c))
 | 0,l,h=>by
  cases l with
  | nil=>exact Rf.slice _ _ _ (by simp)
  | cons x l=>simp only [nest] at h;omega
 | k+1,l,h=>by
  have key:∀x∈l,qh8 x<=k:=by
   intro x hx;have:∀l:List Xa,x∈l->1+qh8 x<=nest l:=by
    intro l
    induction l with
    | nil=>intro h;cases h
    | cons y l ih=>
     intro h;simp only [nest];rcases QAe.1 h with rfl | h
     ·omega
     ·have:=ih h;omega
   have:=this l hx;omega
  refine Rf.map _ _ _ _ fun x hx=>?_
  have hk:=key x hx;cases x with
  | mk kd t cnd a b=>
   simp only [qh8] at hk;rw [Xa.ce];intro c hc;simp only [QAe,QAr,or_false] at hc;rcases hc with rfl | rfl | rfl | rfl | rfl
   ·exact Rf.int _ _ _
   ·exact Rf.int _ _ _
   ·exact Rf.map _ _ _ _ fun x _=>qq0 _ x
   ·exact quy k a (by omega)
   ·exact quy k b (by omega)
theorem qale {p:Prg} (v:PrgV p):∀c∈Prg.c p,Rf 40 c:=by
 rw [Prg.ce];intro c hc;simp only [QAe,QAr,or_false] at hc;rcases hc with rfl | rfl | rfl | rfl | rfl | rfl | rfl | rfl | rfl
 ·exact Rf.str _ _
 ·refine Rf.map _ _ _ _ fun x _=>?_
  simp only [Xj.c,QAe,QAr,or_false];rintro c (rfl | rfl)
  ·exact Rf.str _ _
  ·exact Rf.map _ _ _ _ fun x _=>quz _ x
 ·exact Rf.map _ _ _ _ fun x _=>quz _ x
 ·refine Rf.map _ _ _ _ fun x _=>?_
  simp [Xh.c,Rf.int,Rf.str]
 ·refine Rf.map _ _ _ _ fun x _=>?_
  rw [Action.ce];simp only [QAe,QAr,or_false];rintro c (rfl | rfl | rfl)
  ·exact Rf.str _ _
  ·exact Rf.map _ _ _ _ fun x _=>quz _ x
  ·refine Rf.map _ _ _ _ fun x _=>?_
   rw [Xg.ce];simp only [QAe,QAr,or_false];rintro c (rfl | rfl | rfl | rfl | rfl | rfl | rfl)
   ·exact Rf.int _ _ _
   ·exact Rf.int _ _ _
   ·exact Rf.int _ _ _
   ·exact Rf.int _ _ _
   ·exact Rf.int _ _ _
   ·exact Rf.map _ _ _ _ fun x _=>qq0 _ x
   ·exact Rf.map _ _ _ _ fun x _=>qq0 _ x
 ·refine Rf.map _ _ _ _ fun x _=>?_
  rw [Tbl.ce];simp only [QAe,QAr,or_false];rintro c (rfl | rfl | rfl | rfl | rfl | rfl)
  ·exact Rf.str _ _
  ·exact Rf.map _ _ _ _ fun x _=>by simp [Xl.c,Rf.int]
  ·exact Rf.map _ _ _ _ fun x _=>rf_I _ x
  ·exact Rf.int _ _ _
  ·exact Rf.map _ _ _ _ fun x _=>qsx _ x
  ·exact Rf.int _ _ _
 ·refine Rf.map _ _ _ _ fun x _=>?_
  rw [Xd.ce];simp only [QAe,QAr,or_false];rintro c (rfl | rfl | rfl | rfl | rfl | rfl | rfl)
  ·exact Rf.str _ _
  ·exact Rf.map _ _ _ _ fun x _=>rf_I _ x
  ·exact Rf.bool _ _
  ·exact Rf.int _ _ _
  ·exact Rf.int _ _ _
  ·exact Rf.map _ _ _ _ fun x _=>by simp [Xk.c,Rf.int]
  ·exact Rf.int _ _ _
 ·have:=v.nest;exact quy 37 p.control (by omega)
 ·exact Rf.map _ _ _ _ fun x _=>rf_I _ x
theorem qsy {O:List (Nat×AO)} {z n:Nat} {v:AV} {es:List (List AV)} (h:Mu O z v es):Rf (n+1) v:=by
 cases h with
 | nilF=>exact Rf.Xu _ _ _ (by simp)
 | nilA=>exact Rf.app _ _ _ _ (by simp)
 | row=>exact Rf.row _ _ _ _ _
theorem qxp {O:List (Nat×AO)} {S:SV} {p:Prg} {c:Xf} (m:StoreM O S p c) (v:PrgV p):aoEq (some (.row 15 [S.cells p])) (some (.row 15 [S.cells p]))=true:=by
 have h:∀x∈S.cells p,avEq 40 x x=true:=by
  intro x hx;simp only [SV.cells,QAe,QAf,QAr,or_false] at hx;rcases hx with rfl | rfl | rfl | rfl | hx | rfl | rfl
  ·exact qsy m.cm.r
  ·exact qsy m.cm.n
  ·exact qsy m.cm.d
  ·rcases m.cm.g with e | ⟨t,e⟩<;>rw [e]
   ·refine Rf.Xu _ _ _ fun e he=>?_
    obtain ⟨l,_,rfl⟩:=QAv.1 he;simp only [cS,QAe,QAr,or_false];rintro c rfl;exact Rf.map _ _ _ _ fun x _=>qsx _ x
   ·refine Rf.app _ _ _ _ fun e he=>?_
    obtain ⟨l,_,rfl⟩:=QAv.1 he;simp only [cS,QAe,QAr,or_false];rintro c rfl;exact Rf.map _ _ _ _ fun x _=>qsx _ x
  ·exact qale v x hx
  ·exact qsy m.x.i
  ·exact Rf.bool _ _
 have h1:=qfq (avEq 40) _ h;unfold aoEq;simp [qaf,eqL,h1]
theorem qlg {t:Nat} {y z:AO}:∀{O:List (Nat×AO)},setl t z (setl t y O)=setl t z O
 | []=>by simp
 | (u,w)::r=>by
  by_cases hu:u=t
  ·subst hu;simp
  ·simp [hu,qlg]
theorem qah1 {O:List (Nat×AO)} {N id n i:Nat} {es:List (List AV)} {l:List Rw} (hl:look id O=some (.row 5 es)) (hn:n=l.length) (hle:n<=es.length) (ht:es.take n=l.map Rw.c) (hi:i<n) (hb:n<2^39):
  ∃N' es',qah Φ f_164 [.row id 5 0 n,.int .i64 i,.int .i64 ((i:Int)+1)] ⟨O,N⟩=some (.val (.row id 5 0 (n - 1)),⟨setl id (.row 5 es') O,N'⟩)/\N<=N'/\N'<=N+1/\n - 1<=es'.length/\es'.take (n - 1)=(l.eraseIdx i).map Rw.c:=by
 rw [qau (fn:=c_164) rfl rfl];have hi1:(i:Int)+1=((i+1:Nat):Int):=by omega
 have a1:i+1<=n:=by omega
 have a2:i<=i+1:=by omega
 have a3:i<=n:=by omega
 have a4:i+1<=es.length:=by omega
 have a5:i<=es.length:=by omega
 have hne:¬i=i+1:=by omega
 rw [hi1];have b1:(0:Int)<=(i:Int)+1:=by omega
 have b2:(i:Int)+1<=(n:Int):=by omega
 have b3:(i:Int)+1<=(es.length:Int):=by omega
 have c1:i+(n - (i+1))=n - 1:=by omega
 have c2:min (n - (i+1)) (es.length - (i+1))=n - (i+1):=by omega
 have c3:i+(n - (i+1))<=es.length:=by omega
 have c4:i+1+(n - (i+1))<=es.length:=by omega
 have c5:¬i=es.length:=by omega
 have c6:(((n - 1:Nat):Int))<=(n:Int):=by omega
 have c7:n - 1<=n:=by omega
 have c9:¬(i:Int)=(i:Int)+1:=by omega
 have c8:(i:Int)<=(i:Int)+1:=by omega
 have c10:n<=es.length+1:=by omega
 have hys:(es.drop (i+1)).take (n - (i+1))=(l.drop (i+1)).map Rw.c:=by
  rw [<- List.drop_take,ht,List.map_drop]
 have c11:qc7 5 ((es.drop (i+1)).take (n - (i+1)))=true:=by rw [hys];exact qc8 5 Rw.c _ fun x=>by simp
 have hE1l:(es.take i++((es.drop (i+1)).take (n - (i+1))++es.drop (n - 1))).length=es.length:=by
  simp only [QAc,QAp,List.length_drop];omega
 have hE1t:(es.take i++((es.drop (i+1)).take (n - (i+1))++es.drop (n - 1))).take (n - 1)=(l.eraseIdx i).map Rw.c:=by
  have hti:es.take i=(l.take i).map Rw.c:=by
   have:(es.take n).take i=es.take i:=by rw [List.take_take,Nat.min_eq_left (by omega)]
   rw [<- this,ht,QBa]
  rw [hys,hti,List.eraseIdx_eq_take_drop_succ,QBb,<- QAi,QAy (by simp;omega)];exact Qo (by simp;omega)
 have d1:((n - 1:Nat):Int)<=(es.length:Int):=by omega
 have d2:(n:Int)<=(es.length:Int):=by omega
 have d3:n - 1+(n - (n - 1))<=es.length:=by omega
 have d4:¬n - 1=n:=by omega
 have fin:∀N',N<=N'->N'<=N+1->∀(E1 D:List (List AV)),E1.length=es.length->E1.take (n - 1)=(l.eraseIdx i).map Rw.c->
   ∃N2 es',(setl id (AO.row 5 (E1.take (n - 1)++(List.replicate (n - (n - 1)) [AV.int .i64 0,.Xu 2 [],.int .i64 0,.int .i64 0,.Xu 1 []]++D))) O=setl id (AO.row 5 es') O/\N'=N2)/\N<=N2/\N2<=N+1/\n<=es'.length+1/\es'.take (n - 1)=(l.eraseIdx i).map Rw.c:=by
  intro N' h1 h2 E1 D h3 h4;refine ⟨N',_,⟨rfl,rfl⟩,h1,h2,?_,?_⟩
  ·simp only [QAc,QAp,List.length_replicate];omega
  ·rw [QAy (by simp;omega),List.take_take,Nat.min_self,h4]
 by_cases hfull:n=es.length
 ·have hf2:=eq_true hfull;simp [c_164,hl,hle,a1,a3,b1,b2,hf2,c1,c2,c5,c8,c9];rw [QAa ⟨c10,c11⟩];generalize es.take i++((es.drop (i+1)).take (n - (i+1))++es.drop (n - 1))=E1 at hE1l hE1t ⊢;simp [qab,hl,hE1l,c6,c7,d2,qlg,hle];exact fin N (Qb _) (by omega) E1 _ hE1l hE1t
 ·have hf2:=eq_false hfull;simp [c_164,hl,hle,a1,a3,b1,b2,hf2,c1,c2,c5,c8,c9];rw [QAa ⟨c10,c11⟩];generalize es.take i++((es.drop (i+1)).take (n - (i+1))++es.drop (n - 1))=E1 at hE1l hE1t ⊢;simp [qab,hl,hE1l,c6,c7,d2,qlg,hle];exact fin (N+1) (by omega) (by omega) E1 _ hE1l hE1t
theorem qzq {O:List (Nat×AO)} {N:Nat} {S:SV} {p:Prg} {c:Xf} (m:StoreM O S p c) (v:CfgV p c) (hT:Tail O N) (t id:Int):
  MDpost N O S p (if delE p c t id=0 then delC c t id else c) (.int .i64 (delE p c t id)) (qah Φ f_94 [.ptr S.s 15 0 0,.int .i64 t,.int .i64 id] ⟨O,N⟩):=by
 rw [qau (fn:=c_94) rfl rfl];have hl:=v.rl;have hr:=qu1 (N:=N) m hl t id;have hE:delE p c t id=rowX p c t id:=rfl;rw [hE];by_cases z:rowX p c t id=0
 rotate_left
 ·rw [QA z];simp [c_94,hr,z];exact ⟨S,O,N,rfl,m,rfl,fun j hj=> .inl hj,fun _ _ _=>rfl,hT,Qb _⟩
 rw [QAa z,z];cases hi:inT p t with
 | false=>simp [rowX,hi] at z
 | true=>
 obtain ⟨k,rfl,hk⟩:=qep hi;have hk':k<c.rows.length:=by omega
 have hrow:qcm c (k:Int)=c.rows[k]:=qdy hk';cases hx2:rIdx c.rows[k] id with
 | none=>simp [rowX,hi,hrow,hx2] at z
 | some i=>
 obtain ⟨hil,hid⟩:=qjk hx2;have hI:rowI p c k id=i:=by simp [rowI,hi,hrow,hx2]
 have hM:delC c (k:Int) id=⟨c.rows.set k (c.rows[k].eraseIdx i),c.Xr,c.Xq,c.Xm⟩:=by
  unfold delC;rw [hrow,hx2];simp
 rw [z,hI] at hr;rw [hM];have hv:=v.at hk;have hsm:=v.small _ (Qd hk');have hs:=m.se;obtain ⟨rid,es1,e1,lr,hle1,⟨hV,g1,g5⟩,ht1⟩:=m.tab hk';obtain ⟨r5,es5,e5,l5,hle5,ht5⟩:=g5.nonempty (by simp;omega);rw [QAb] at e5 hle5 ht5;rw [e1] at hs;rw [e5] at g1;have hao:=qxp m (qmt v.prg);simp only [SV.cells,Prg.e,QAh,QAj,e1] at hao;obtain ⟨N2,es',e6,n1,n2,h7,h8⟩:=qah1 (N:=N+1) l5 rfl hle5 ht5 hil (by omega);have hwi:IntKind.wrap .i64 ((i:Int)+1)=(i:Int)+1:=qbb (by omega) (by omega);have hsr:=qan hs lr (by simp);have hs5:=qan hs l5 (by simp);have hr5:=qan lr l5 (by simp);have h5r:=hr5.symm;have hrs:=hsr.symm;simp [c_94,hr,hs,lr,hk',g1,hwi,e6,qab,hs5,hr5,hao];have hMl:=m.x.len;have hVl:=m.cm.rl;obtain ⟨iid,esi,e3,li,hle3,hMk,gi,lm⟩:=m.idx hk';have own1:S.own rid:= .inr (.inl (.inl (by rw [e1];rfl)));have own3:S.own S.M[k]:= .inr (.inr (.inr (Qd hMk)));have own4:S.own r5:= .inr (.inl (.inr (.inr (.inr ⟨_,Qd hV,by rw [e5];rfl⟩))));have own5:S.own iid:= .inr (.inr (.inl (by rw [e3];rfl)));have k3:∀A B j,j≠rid->j≠r5->look j O≠some .res->look j (qao (setl rid A (setl r5 B O)))=look j O:=by
  intro A B j h1 h2 h3;have h0:look j (setl rid A (setl r5 B O))=look j O:=by rw [qab,QA h1,qab,QA h2]
  rw [qaw (by rw [h0];exact h3),h0]
 have a1:∀B es,look rid (qao (setl rid (.row 1 es) (setl r5 B O)))=some (.row 1 es):=by
  intro B es;have h0:look rid (setl rid (.row 1 es) (setl r5 B O))=some (.row 1 es):=by rw [qab,QAa rfl,qab,QA hr5,lr];rfl
  rw [qaw (by rw [h0];simp),h0]
 have a2:∀A es,look r5 (qao (setl rid A (setl r5 (.row 5 es) O)))=some (.row 5 es):=by
  intro A es;have h0:look r5 (setl rid A (setl r5 (.row 5 es) O))=some (.row 5 es):=by rw [qab,QA h5r,qab,QAa rfl,l5];rfl
  rw [qaw (by rw [h0];simp),h0]
 have hT3:∀A B,Tail (qao (setl rid A (setl r5 B O))) N2:=fun A B=>qdn (qai (qai (hT.mono (by omega))))
 generalize hO3:qao (setl rid (AO.row 1 (es1.set k [AV.row r5 5 0 (c.rows[k].length - 1)])) (setl r5 (AO.row 5 es') O))=O3;have k3':∀j,j≠rid->j≠r5->look j O≠some .res->look j O3=look j O:=fun j h1 h2 h3=>by rw [<- hO3];exact k3 _ _ j h1 h2 h3
 have a1':look rid O3=some (.row 1 (es1.set k [AV.row r5 5 0 (c.rows[k].length - 1)])):=by rw [<- hO3];exact a1 _ _
 have a2':look r5 O3=some (.row 5 es'):=by rw [<- hO3];exact a2 _ _
 have hT3':Tail O3 N2:=by rw [<- hO3];exact hT3 _ _
 clear hO3;have hinc:(c.rows[k].eraseIdx i).Pairwise fun a b=>a.id<b.id:=hv.inc.sublist (List.eraseIdx_sublist _ _)
 have hll:(c.rows[k].eraseIdx i).length=c.rows[k].length - 1:=by rw [List.length_eraseIdx];simp [hil]
 have m5:Mu O3 5 (.row r5 5 0 (c.rows[k].length - 1)) ((c.rows[k].eraseIdx i).map Rw.c):= .row r5 _ es' _ (by simp [hll]) a2' (by simp [hll];omega) (by rw [QAb,hll];exact h8);have m1:Mu O3 1 S.v1 ((S.V.set k (.row r5 5 0 (c.rows[k].length - 1))).map fun x=>[x]):=by
  have hmu:=Mu.upd (O':=O3) (id:=rid) (z:=1) (k:=k) (es:=S.V.map fun x=>[x]) (es0:=es1) (y:=[.row r5 5 0 (c.rows[k].length - 1)]) a1' (by rw [QAb,hVl];exact hle1) (by rw [QAb,hVl];exact ht1);rw [QAb,hVl] at hmu;rw [e1,List.map_set];exact hmu
 have ls3:look S.s O3=some (.row 15 [S.cells p]):=by rw [k3' S.s hsr hs5 (by rw [m.s];simp),m.s]
 have li3:look iid O3=some (.row 1 esi):=by
  rw [k3' iid (fun e=>m.ri rid (by rw [e1];rfl) (by rw [e3,e];rfl)) (qan li l5 (by simp)) (by rw [li];simp),li]
 have hri:vid S.v1≠some iid:=fun e=>m.ri iid e (by rw [e3];rfl)
 have hVs:k<(S.V.set k (AV.row r5 5 0 (c.rows[k].length - 1))).length:=by simpa using hV
 have hVk:(S.V.set k (AV.row r5 5 0 (c.rows[k].length - 1)))[k]=AV.row r5 5 0 (c.rows[k].length - 1):=by simp
 have ls4:=ls3;simp only [SV.cells,e3] at ls4;have hrl:c.rows.length<2^40:=by have:=(qmt v.prg).tabs;omega
 have hnv:c.Xr.set k ((c.Xr[k]?).getD 0)=c.Xr:=by
  rw [Qa (by rw [v.nl];exact hk)];simp
 have hcz:esi.take c.rows.length=S.M.map fun x=>[.map x]:=by
  obtain ⟨iid',es0,e9,hl9,hle9,ht9⟩:=m.x.i.nonempty (by simp;omega);rw [e3] at e9;simp only [AV.row.injEq] at e9;obtain ⟨rfl,-⟩:=e9;rw [li] at hl9;cases hl9;rw [QAb,hMl] at ht9;exact ht9
 obtain ⟨O4,N4,e7,r1,r2,k4,hT4,hN4⟩:=qpr (k:=k) (n:=c.rows.length) (V:=S.V.set k (.row r5 5 0 (c.rows[k].length - 1))) (l:=c.rows[k].eraseIdx i) (R:=Prg.c p) (es:=esi) hT3' (by omega) hk' hVs ls4 (by simp) li3 hle3 ⟨_,gi⟩ m1 (by rw [hVk];exact m5) hri hinc (by omega);simp [e7];have keep:∀j,S.own j->¬S.chg k j->look j O4=look j O:=by
  intro j hj hc;obtain ⟨w,hw,hwn⟩:=m.own_lk hj;have h3:=k3' j (fun e=>hc (.inr (.inl (by rw [e,e1];rfl)))) (fun e=>hc (.inl ⟨_,Qa hV,by rw [e5,e];rfl⟩)) (by rw [hw];simpa using hwn);rw [k4 j (by have:=hT.lt hw;omega) (fun e=>hc (.inr (.inr (.inr (.inl (by rw [e,e3];rfl)))))),h3]
 have hfr:∀x,look N2 O=some x->x= .res:=fun x hx=>by have:=hT.lt hx;omega
 have up:=m.upd (k:=k) (v':= .row r5 5 0 (c.rows[k].length - 1)) (m':=N2) (l':=c.rows[k].eraseIdx i) (nx:=(c.Xr[k]?).getD 0) (O':=O4) hk' keep
  (m1.fr fun j hj=>by
   obtain ⟨es0,h0⟩:=m1.own hj;exact k4 j (hT3'.lt h0) (fun e=>hri (by rw [hj,e])))
  (by
   rw [hnv];refine m.cm.n.fr fun j hj=>?_
   obtain ⟨es0,h0⟩:=m.cm.n.own hj;have h3:=k3' j (fun e=>m.cm.rn j (by rw [e1,e];rfl) hj) (qan h0 l5 (by simp)) (by rw [h0];simp);rw [k4 j (by have:=hT.lt h0;omega) (fun e=>m.ni j hj (by rw [e3,e];rfl)),h3])
  (by
   have hmu:=Mu.upd (O':=O4) (id:=iid) (z:=1) (k:=k) (es:=S.M.map fun x=>[.map x]) (es0:=esi) (y:=[.map N2]) r1 (by rw [QAb,hMl];exact hle3) (by rw [QAb,hMl];exact hcz);rw [QAb,hMl] at hmu;rw [e3,List.map_set];exact hmu)
  (m5.fr fun j hj=>by
   obtain ⟨es0,h0⟩:=m5.own hj;exact k4 j (hT3'.lt h0) (qan h0 li3 (by simp)))
  r2 (by simp) (fun j hj=> .inl ⟨_,Qa hV,by rw [e5];exact hj⟩) (.inr hfr)
 rw [hnv] at up;refine ⟨S.tab k (.row r5 5 0 (c.rows[k].length - 1)) N2,O4,N4,rfl,up,rfl,?_,?_,hT4,by omega⟩
 ·intro j hj;rcases hj with hj | hj | hj | hj
  ·exact .inl (.inl hj)
  ·rcases hj with hj | hj | hj | ⟨w,hw,hj⟩
   ·exact .inl (.inr (.inl (.inl hj)))
   ·exact .inl (.inr (.inl (.inr (.inl hj))))
   ·exact .inl (.inr (.inl (.inr (.inr (.inl hj)))))
   ·rcases Qq hw with hw | rfl
    ·exact .inl (.inr (.inl (.inr (.inr (.inr ⟨w,hw,hj⟩)))))
    ·cases hj;exact .inl own4
  ·exact .inl (.inr (.inr (.inl hj)))
  ·simp only [SV.tab] at hj;rcases Qq hj with hj | rfl
   ·exact .inl (.inr (.inr (.inr hj)))
   ·exact .inr (by omega)
 ·intro j hj hx;have hx1:¬S.own j:=fun h=>hx (.inl h)
  have hx2:¬look j O=some .res:=fun h=>hx (.inr h)
  rw [k4 j (by omega) (fun e=>hx1 (by rw [e];exact own5)),k3' j (fun e=>hx1 (by rw [e];exact own1)) (fun e=>hx1 (by rw [e];exact own4)) hx2]
def xoE (p:Prg) (c:Xf) (o:Xc):Int:=if o.kind=1 then insE p c o.table o.entry else if o.kind=2 then modE p c o.table o.id o.call else if o.kind=3 then delE p c o.table o.id else if o.kind=4 then defE p o.table o.call else 11
def xoD (c:Xf) (o:Xc):Xf:=if o.kind=1 then insC c o.table o.entry else if o.kind=2 then modC c o.table o.id o.call else if o.kind=3 then delC c o.table o.id else defC c o.table o.call
def xoC (p:Prg) (c:Xf) (o:Xc):Xf:=if xoE p c o=0 then xoD c o else c
def xoI (p:Prg) (c:Xf) (o:Xc):Int:=if xoE p c o=0/\o.kind=1 then qe0 c o.table else 0
structure CallS (x:Xb):Prop where
 al:x.args.length<2^40
 ar:∀v∈x.args,ok32 0 v
structure OpS (o:Xc):Prop where
 e:EntS o.entry
 c:CallS o.call
theorem qai2 {o:Xc} (h:o.Ok qaz):OpS o:=by
 have e:=qd6;simp only [Xc.Ok,Entry.Ok,Xb.Ok] at h;obtain ⟨_,_,_,⟨h1,_,_,h2⟩,_,h3⟩:=h;exact ⟨⟨by have:=h1.1;omega,fun m hm=>h1.2 m hm,by have:=h2.1;omega,fun v hv=>h2.2 v hv⟩,⟨by have:=h3.1;omega,fun v hv=>h3.2 v hv⟩⟩
theorem qp7 {p:Prg} {c:Xf} (v:CfgV p c) (o:Xc):CfgV p (xoC p c o):=by
 unfold xoC;split
 ·rename_i h;unfold xoE at h;unfold xoD;split
  ·rename_i h1;rw [QAa h1] at h;exact qagd v h
  rename_i h1;rw [QA h1] at h;split
  ·rename_i h2;rw [QAa h2] at h;exact qagq v h
  rename_i h2;rw [QA h2] at h;split
  ·rename_i h3;rw [QAa h3] at h;exact qafp v h
  rename_i h3;rw [QA h3] at h;by_cases h4:o.kind=4
  ·rw [QAa h4] at h;exact qafo v h
  ·rw [QA h4] at h;cases h
 ·exact v
theorem CfgT.mk_rows {p:Prg} {c c':Xf} (s:CfgT c) (v':CfgV p c') (hp:p.Xn.length<2^40) (hr:∀l∈c'.rows,∀r∈l,rowS r) (hd:∀d∈c'.Xq,d.args.length<2^40/\∀v∈d.args,ok32 0 v) (hg:c'.Xm=c.Xm):CfgT c':=by
 refine ⟨by rw [v'.rl];exact hp,fun l hl=>⟨by have:=v'.small l hl;omega,hr l hl⟩,by rw [v'.nl];exact hp,by rw [v'.dl];exact hp,hd,by rw [hg];exact s.gl,by rw [hg];exact s.gs⟩
theorem qy8 {c:Xf} {t:Int} {r:Rw} (h:r∈qcm c t):∃l∈c.rows,r∈l:=by
 unfold qcm at h;cases ha:at? c.rows t with
 | none=>rw [ha] at h;cases h
 | some l=>
  rw [ha] at h;refine ⟨l,?_,h⟩;unfold at? at ha;split at ha
  ·cases ha
  ·exact Qe ha
theorem xoC_t {p:Prg} {c:Xf} (v:CfgV p c) (s:CfgT c) (hp:p.Xn.length<2^40) (o:Xc) (ho:OpS o):CfgT (xoC p c o):=by
 have v':=qp7 v o;unfold xoC at v' ⊢;split
 rotate_left
 ·exact s
 rename_i h;rw [QAa h] at v';have old:∀l∈c.rows,∀r∈l,rowS r:=fun l hl=>(s.rs l hl).2
 have oldA:∀r∈qcm c o.table,rowS r:=fun r hr=>by
  obtain ⟨l,hl,hr⟩:=qy8 hr;exact old l hl r hr
 unfold xoD at v' ⊢;split
 ·rename_i h1;rw [QAa h1] at v';refine s.mk_rows v' hp ?_ s.ds rfl;intro l hl r hr;simp only [insC] at hl;rcases Qq hl with hl | rfl
  ·exact old l hl r hr
  ·rcases QAf.1 hr with hr | hr
   ·exact oldA r hr
   ·simp at hr;subst hr;exact ho.e
 rename_i h1;rw [QA h1] at v';split
 ·rename_i h2;rw [QAa h2] at v';unfold modC at v' ⊢;split
  ·rename_i i hi;rw [hi] at v';refine s.mk_rows v' hp ?_ s.ds rfl;intro l hl r hr;rcases Qq hl with hl | rfl
   ·exact old l hl r hr
   ·obtain ⟨j,hj,rfl⟩:=Qn.1 hr;rw [QBy];have hj':j<(qcm c o.table).length:=by simpa using hj
    have h0:=oldA _ (Qd hj');split
    ·exact ⟨h0.kl,h0.ks,ho.c.al,ho.c.ar⟩
    ·exact h0
  ·exact s
 rename_i h2;rw [QA h2] at v';split
 ·rename_i h3;rw [QAa h3] at v';unfold delC at v' ⊢;split
  ·rename_i i hi;rw [hi] at v';refine s.mk_rows v' hp ?_ s.ds rfl;intro l hl r hr;rcases Qq hl with hl | rfl
   ·exact old l hl r hr
   ·exact oldA r ((List.eraseIdx_sublist _ _).subset hr)
  ·exact s
 ·rename_i h3;rw [QA h3] at v';refine s.mk_rows v' hp old ?_ rfl;intro d hd;simp only [defC] at hd;rcases Qq hd with hd | rfl
  ·exact s.ds d hd
  ·exact ⟨ho.c.al,ho.c.ar⟩
inductive RunR where
 | ok (c:Xf) (ids:List Int)
 | err (i:Nat) (e:Int)
def xoF (p:Prg) (c:Xf) (l:List Xc):Xf:=l.foldl (xoC p) c
section
variable {p:Prg} (f:PrgS p) (hv:∀t∈p.Xn,∀v∈t.dflt.args,ok32 0 v) {c:Xf} (v:CfgV p c) (s:CfgT c) (t:Int)
include f hv v s
end
section
variable {p:Prg} (f:PrgS p) (hv:∀t∈p.Xn,∀v∈t.dflt.args,ok32 0 v) {c:Xf} (v:CfgV p c) (s:CfgT c) (t:Int)
include f hv v s
end
theorem Xc.ce2 (x:Xc):Xc.c x=[.int .i64 x.kind,.int .i64 x.table,.int .i64 x.id,.slice 2 (x.entry.keys.map Xi.c),.int .i64 x.entry.Xt,.int .i64 x.entry.call.action,.slice 1 (x.entry.call.args.map c32),.int .i64 x.call.action,.slice 1 (x.call.args.map c32)]:=by simp [Xc.c]
theorem cfg4 (c:Xf):∃r0 r1 r2 r3,Xf.c c=[r0,r1,r2,r3]/\(∀(H:AH),(snap 37 H r0=some r0/\snap 37 H r1=some r1/\snap 37 H r2=some r2/\snap 37 H r3=some r3)/\(snap 38 H r0=some r0/\snap 38 H r1=some r1/\snap 38 H r2=some r2/\snap 38 H r3=some r3)/\(snap 39 H r0=some r0/\snap 39 H r1=some r1/\snap 39 H r2=some r2/\snap 39 H r3=some r3)/\(snap 40 H r0=some r0/\snap 40 H r1=some r1/\snap 40 H r2=some r2/\snap 40 H r3=some r3))/\(bor 37 r0=false/\bor 37 r1=false/\bor 37 r2=false/\bor 37 r3=false)/\(bor 38 r0=false/\bor 38 r1=false/\bor 38 r2=false/\bor 38 r3=false)/\(bor 39 r0=false/\bor 39 r1=false/\bor 39 r2=false/\bor 39 r3=false)/\(bor 40 r0=false/\bor 40 r1=false/\bor 40 r2=false/\bor 40 r3=false):=by
 refine ⟨_,_,_,_,Xf.ce c,fun H=>⟨?_,?_,?_,?_⟩,?_,?_,?_,?_⟩<;>simp
def cfgN (p:Prg) (c:Xf) (l:List Xc) (i:Nat):Xf:=xoF p c (l.take i)
def idN (p:Prg) (c:Xf) (l:List Xc) (i:Nat):Int:=match l[i]? with
 | some o=>xoI p (cfgN p c l i) o
 | none=>0
def badF (p:Prg):Xf->List Xc->Nat->Option (Nat×Int)
 | _,[],_=>none
 | c,o::l,i=>if xoE p c o=0 then badF p (xoC p c o) l (i+1) else some (i,xoE p c o)
theorem ql0 (p:Prg) (c:Xf) (l:List Xc):cfgN p c l 0=c:=by simp [cfgN,xoF]
theorem qlz (p:Prg) (c:Xf) (l:List Xc) {i:Nat} (h:i<l.length):cfgN p c l (i+1)=xoC p (cfgN p c l i) l[i]:=by
 simp only [cfgN,xoF,Qh h,List.foldl_append,List.foldl_cons,List.foldl_nil]
theorem qmx {p:Prg} {c:Xf} (v:CfgV p c) (s:CfgT c) (hp:p.Xn.length<2^40) (l:List Xc) (hl:∀o∈l,OpS o):∀i,CfgV p (cfgN p c l i)/\CfgT (cfgN p c l i)
 | 0=>by rw [ql0];exact ⟨v,s⟩
 | i+1=>by
  have ih:=qmx v s hp l hl i;by_cases h:i<l.length
  ·rw [qlz p c l h];exact ⟨qp7 ih.1 _,xoC_t ih.1 ih.2 hp _ (hl _ (Qd h))⟩
  ·have:cfgN p c l (i+1)=cfgN p c l i:=by
    unfold cfgN;rw [Qo (by omega),Qo (by omega)]
   rw [this];exact ih
def noC:List AV:=[.slice 1 [],.slice 1 [],.slice 2 [],.slice 1 []]
def badA (p:Prg) (c:Xf) (l:List Xc):Option (Int×Int):=
 if cfgE p c≠0 then some (-1,cfgE p c) else if 64<l.length then some (-1,12) else (badF p c l 0).map fun x=>((x.1:Int),x.2)
def appA (p:Prg) (c:Xf) (l:List Xc):AV:=match badA p c l with
 | some (k,e)=> .tup [.agg noC,.slice 1 [],.int .i64 k,.int .i64 e]
 | none=> .tup [.agg (Xf.c (cfgN p c l l.length)),.slice 1 ((List.range l.length).map fun j=>cI (idN p c l j)),.int .i64 0,.int .i64 0]
theorem qqc {p:Prg} {k:Nat} {e:Int}:∀{l:List Xc} {c:Xf} {i:Nat},badF p c l i=some (k,e)->e≠0
 | [],_,_,h=>by simp [badF] at h
 | o::l,c,i,h=>by
  unfold badF at h;by_cases z:xoE p c o=0
  ·rw [QAa z] at h;exact qqc h
  ·rw [QA z] at h;simp only [Option.some.injEq,Prod.mk.injEq] at h;rw [<- h.2];exact z
theorem qj3 {p:Prg} {c:Xf} {l:List Xc} {k e:Int} (h:badA p c l=some (k,e)):e≠0:=by
 unfold badA at h;by_cases z:cfgE p c=0
 case neg=>simp only [ne_eq,z,not_false_eq_true,if_true,Option.some.injEq,Prod.mk.injEq] at h;rw [<- h.2];exact z
 by_cases z2:64<l.length
 ·simp only [ne_eq,z,not_true,if_false,z2,if_true,Option.some.injEq,Prod.mk.injEq] at h;rw [<- h.2];decide
 ·simp only [ne_eq,z,not_true,if_false,z2] at h;cases hb:badF p c l 0 with
  | none=>simp [hb] at h
  | some x=>simp only [hb,QBg,Option.some.injEq,Prod.mk.injEq] at h;rw [<- h.2];exact qqc (k:=x.1) (e:=x.2) hb
theorem MDpost.pre {N N1:Nat} {O O1:List (Nat×AO)} {S:SV} {p:Prg} {c:Xf} {v:AV} {r:Option (Rt×AH)} (hk:Kp (fun _=>False) N O O1) (hN:N<=N1) (h:MDpost N1 O1 S p c v r):MDpost N O S p c v r:=by
 obtain ⟨S',O',N',e,h1,h2,h3,h4,h5,h6⟩:=h;refine ⟨S',O',N',e,h1,h2,fun j hj=>(h3 j hj).imp id fun h=>by omega,?_,h5,by omega⟩;intro j hj hx;rw [h4 j (by omega) fun hc=>hx (hc.imp id fun hc=>?_)]
 ·exact hk j hj (by simp)
 ·show look j O=some .res;rw [<- hk j hj (by simp)];exact hc
theorem qyd {O:List (Nat×AO)} {N:Nat} {S:SV} {p:Prg} {c:Xf} (m:StoreM O S p c) (f:PrgS p) (v:CfgV p c) (s:CfgT c) (hT:Tail O N) (o:Xc) (ho:OpS o):
  MDpost N O S p (xoC p c o) (.tup [.int .i64 (xoI p c o),.int .i64 (xoE p c o)]) (qah Φ f_45 [.ptr S.s 15 0 0,.agg (Xc.c o)] ⟨O,N⟩):=by
 rw [qau (fn:=c_45) rfl rfl];have t0:=hT N (Qb _);have hk1:Kp (fun _=>False) N O (O++[(N,AO.row 9 [Xc.c o])]):=Kp.app (fun _ _ _=>rfl) (Qb _);have hT1:=hT.app1 (o:=AO.row 9 [Xc.c o]) (Qb N);have m1:StoreM (O++[(N,AO.row 9 [Xc.c o])]) S p c:=m.kp (X:=fun _=>False) hT (Kp.app (fun _ _ _=>rfl) (Qb _)) (by simp);have b1:look N (O++[(N,AO.row 9 [Xc.c o])])=some (.row 9 [Xc.c o]):=by rw [qag,t0];simp
 simp only [Xc.ce2] at b1 hk1 hT1 m1;by_cases z1:o.kind=1
 ·simp only [z1] at b1 hk1 hT1 m1;refine MDpost.pre hk1 (QBh N) ?_;obtain ⟨S',O',N',e,h1,h2,h3,h4,h5,h6⟩:=qzr m1 f v s hT1 o.table o.entry ho.e;have e1:xoE p c o=insE p c o.table o.entry:=by simp [xoE,z1]
  have e2:(if insE p c o.table o.entry=0 then insC c o.table o.entry else c)=xoC p c o:=by simp [xoC,e1,xoD,z1]
  have e3:(if insE p c o.table o.entry=0 then qe0 c o.table else 0)=xoI p c o:=by simp [xoI,e1,z1]
  rw [e2] at h1;rw [e3,<- e1] at e;simp only [Entry.ce] at e;simp [c_45,Xc.ce2,z1,b1,t0,e];exact ⟨S',O',N',rfl,h1,h2,h3,h4,h5,h6⟩
 by_cases z2:o.kind=2
 ·simp only [z2] at b1 hk1 hT1 m1;refine MDpost.pre hk1 (QBh N) ?_;obtain ⟨S',O',N',e,h1,h2,h3,h4,h5,h6⟩:=qzt m1 f v.rl hT1 o.table o.id o.call ho.c.al;have e1:xoE p c o=modE p c o.table o.id o.call:=by simp [xoE,z2]
  have e2:(if modE p c o.table o.id o.call=0 then modC c o.table o.id o.call else c)=xoC p c o:=by simp [xoC,e1,xoD,z2]
  have e3:xoI p c o=0:=by simp [xoI,z2]
  rw [e2] at h1;rw [<- e1] at e;rw [e3];simp only [Xb.ce] at e;simp [c_45,Xc.ce2,z2,b1,t0,e];exact ⟨S',O',N',rfl,h1,h2,h3,h4,h5,h6⟩
 by_cases z3:o.kind=3
 ·simp only [z3] at b1 hk1 hT1 m1;refine MDpost.pre hk1 (QBh N) ?_;obtain ⟨S',O',N',e,h1,h2,h3,h4,h5,h6⟩:=qzq m1 v hT1 o.table o.id;have e1:xoE p c o=delE p c o.table o.id:=by simp [xoE,z3]
  have e2:(if delE p c o.table o.id=0 then delC c o.table o.id else c)=xoC p c o:=by simp [xoC,e1,xoD,z3]
  have e3:xoI p c o=0:=by simp [xoI,z3]
  rw [e2] at h1;rw [<- e1] at e;rw [e3];simp [c_45,Xc.ce2,z3,b1,t0,e];exact ⟨S',O',N',rfl,h1,h2,h3,h4,h5,h6⟩
 by_cases z4:o.kind=4
 ·simp only [z4] at b1 hk1 hT1 m1;refine MDpost.pre hk1 (QBh N) ?_;obtain ⟨S',O',N',e,h1,h2,h3,h4,h5,h6⟩:=qr8 m1 f v.rl v.dl hT1 o.table o.call ho.c.al;have e1:xoE p c o=defE p o.table o.call:=by simp [xoE,z4]
  have e2:(if defE p o.table o.call=0 then defC c o.table o.call else c)=xoC p c o:=by simp [xoC,e1,xoD,z4]
  have e3:xoI p c o=0:=by simp [xoI,z4]
  rw [e2] at h1;rw [<- e1] at e;rw [e3];simp only [Xb.ce] at e;simp [c_45,Xc.ce2,z4,b1,t0,e];exact ⟨S',O',N',rfl,h1,h2,h3,h4,h5,h6⟩
 ·have e1:xoE p c o=11:=by simp [xoE,z1,z2,z3,z4]
  have e2:xoC p c o=c:=by simp [xoC,e1]
  have e3:xoI p c o=0:=by simp [xoI,z1]
  rw [e1,e2,e3];refine MDpost.pre hk1 (QBh N) ?_;simp [c_45,Xc.ce2,z1,z2,z3,z4,b1,t0];exact ⟨S,_,_,rfl,m1,rfl,fun j hj=> .inl hj,Kp.refl,hT1,Qb _⟩
def qaiz (N:Nat) (O:List (Nat×AO)) (p:Prg) (c:Xf) (r:Option (Rt×AH)):Prop:=
 ∃S O' N',r=some (.val (.ptr S.s 15 0 0),⟨O',N'⟩)/\StoreM O' S p c/\(∀j,S.own j->N<=j)/\Kp (Rs O) N O O'/\Tail O' N'/\N<=N'
theorem qacd {O:List (Nat×AO)} {N:Nat} {S:SV} {p:Prg} (op:p.Ok qaz) {c:Xf} (m:StoreM O S p c) (v:CfgV p c) (s:CfgT c) (hT:Tail O N):
  qaiz N O p c (qah Φ f_89 [.ptr S.s 15 0 0] ⟨O,N⟩):=by
 rw [qau (fn:=c_89) rfl rfl];obtain ⟨S',O',N',e,h1,h2,h3,h4,h5⟩:=qwy p op c (v.u s) v.incs hT m.cm.re;have hs:=m.s;simp only [Prg.e] at e;simp [c_89,SV.cells,Prg.e,hs,e];exact ⟨S',O',N',rfl,h1,h2,h3,h4,h5⟩
end Go.Av
