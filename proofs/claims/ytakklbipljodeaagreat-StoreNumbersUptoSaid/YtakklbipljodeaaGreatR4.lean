/-
 The reference's Modify.
-/
import Derived.Test.YtakklbipljodeaaGreatH16
set_option linter.unusedVariables false
set_option linter.unusedSimpArgs false
set_option linter.constructorNameAsVariable false
namespace Go.Av
set_option maxRecDepth 4000
theorem qyc {p:Prg} (f:PrgS p) (hv:∀t∈p.tables,∀v∈t.dflt.args,ok32 0 v) {c:Config} (v:CfgV p c) (s:CfgT c) (t id:Int) (x:ActionCall) (hxl:x.args.length<2^40) (hr:∀v∈x.args,ok32 0 v):
  qab Φ f_78 [.agg (Prg.c p),.agg (Config.c c),.int .i64 t,.int .i64 id,.agg (ActionCall.c x)]=
  some (.val (.tup [.agg (Config.c (if modE p c t id x=0 then modC c t id x else c)),.int .i64 (modE p c t id x)])):=by
 rw [qaa (fn:=c_78) rfl rfl];have hc:=qon p f hv t x hxl hr;simp only [Prg.e,ActionCall.ce] at hc;by_cases z0:t<0
 ·have hE:modE p c t id x=8:=by simp [modE,inT];omega
  simp [c_78,Prg.e,Config.ce,ActionCall.ce,hE,z0]
 by_cases z1:(p.tables.length:Int)<=t
 ·have hE:modE p c t id x=8:=by simp [modE,inT];omega
  simp [c_78,Prg.e,Config.ce,ActionCall.ce,hE,z0,z1]
 obtain ⟨k,rfl⟩:∃k:Nat,t=k:=⟨t.toNat,by omega⟩;have hk:k<p.tables.length:=by omega
 have hkn:¬p.tables.length<=k:=by omega
 have hk1:k<c.rows.length:=by rw [v.rl];exact hk
 have hk2:k<c.nextID.length:=by rw [v.nl];exact hk
 have hrow:qbi c (k:Int)=c.rows[k]:=qbr hk1;have hls:=v.small _ (Qd hk1);have hix:=qpu c.rows[k] id (by omega);cases hx:rIdx c.rows[k] id with
 | none=>
  have hE:modE p c k id x=8:=by simp [modE,qg4 hk,hrow,hx]
  rw [quk hx] at hix;simp [c_78,Prg.e,Config.ce,cSe,ActionCall.ce,hE,hkn,hk1,hix]
 | some i=>
  obtain ⟨hi,hid⟩:=qgb hx;have hE:modE p c k id x=qbb p k x:=by simp [modE,qg4 hk,hrow,hx]
  rw [qul hx] at hix;have hneg:¬(i:Int)<0:=by omega
  by_cases q:qbb p k x=0
  rotate_left
  ·simp [c_78,Prg.e,Config.ce,cSe,ActionCall.ce,hE,hkn,hk1,hix,hneg,hc,q]
  have hci:modC c (k:Int) id x=⟨c.rows.set k (c.rows[k].modify i (qbs x)),c.nextID.set k c.nextID[k],c.defaults,c.registers⟩:=by
   unfold modC;rw [hrow,hx];simp
  have hrp:=qjl c k (c.rows[k].modify i (qbs x)) c.nextID[k] hk1 (by rw [v.nl,v.rl]) (by have:=s.rl;omega);rw [hE,q,if_pos rfl,hci];rw [q] at hc;generalize hR:Config.c ⟨c.rows.set k (c.rows[k].modify i (qbs x)),c.nextID.set k c.nextID[k],c.defaults,c.registers⟩=R at hrp ⊢;have hRl:R.length=4:=by rw [<- hR];simp
  obtain ⟨r0,r1,r2,r3,rfl⟩:∃r0 r1 r2 r3,R=[r0,r1,r2,r3]:=by
   match R,hRl with
   | [r0,r1,r2,r3],_=>exact ⟨_,_,_,_,rfl⟩
  have hs0:∀H:AH,snap 38 H r0=some r0/\snap 38 H r1=some r1/\snap 38 H r2=some r2/\snap 38 H r3=some r3:=by
   intro H;rw [Config.ce] at hR;cases hR;simp
  have hal:qcf 5 (c.rows[k].map Rw.c)=true:=qcb 5 Rw.c _ fun x=>by simp
  have hne:¬c.rows[k]=[]:=by intro e;rw [e] at hi;simp at hi
  have b1:c.rows[k].length*72<=70368744177664:=by omega
  have hlist:(c.rows[k].map Rw.c).set i [.int .i64 c.rows[k][i].id,.slice 2 (c.rows[k][i].entry.keys.map KeyMatch.c),.int .i64 c.rows[k][i].entry.priority,.int .i64 x.action,.slice 1 (x.args.map c32)]=(c.rows[k].modify i (qbs x)).map Rw.c:=by
   refine List.ext_getElem (by simp) fun j h1 h2=>?_
   rw [List.getElem_set,List.getElem_map,List.getElem_map,List.getElem_modify];split
   ·rename_i e;subst e;simp [Rw.ce,qbs]
   ·simp
  have t1:∀H,mapO (mapO (snap 39 H)) (c.rows[k].map Rw.c)=some (c.rows[k].map Rw.c):=fun H=>qd3 (n:=39) (H:=H) (fun x=>qm6 x) _
  have hns:anyL (bor 40) ((c.rows[k].modify i (qbs x)).map Rw.c).flatten=false:=by
   have:∀l:List Rw,anyL (bor 40) (l.map Rw.c).flatten=false:=by
    intro l
    induction l with
    | nil=>rfl
    | cons a l ih=>
     have ha:∀(xs ys:List AV),anyL (bor 40) xs=false->anyL (bor 40) ys=false->anyL (bor 40) (xs++ys)=false:=by
      intro xs ys
      induction xs with
      | nil=>intro _ h;exact h
      | cons b xs ih2=>
       intro h1 h2;simp only [List.cons_append,anyL,Bool.or_eq_false_iff] at h1 ⊢;exact ⟨h1.1,ih2 h1.2 h2⟩
     simp only [List.map_cons,List.flatten_cons];exact ha _ _ (by simp [Rw.ce]) ih
   exact this _
  have t2:∀H,mapO (mapO (snap 40 H)) ((c.rows[k].modify i (qbs x)).map Rw.c)=some ((c.rows[k].modify i (qbs x)).map Rw.c):=fun H=>qd3 (n:=40) (H:=H) (fun x=>qm6 x) _
  have t3:((c.rows[k].modify i (qbs x)).map Rw.c).take c.rows[k].length=(c.rows[k].modify i (qbs x)).map Rw.c:=Qo (by simp);have t4:(c.rows[k].map Rw.c).take c.rows[k].length=c.rows[k].map Rw.c:=Qo (by simp);simp only [Config.ce] at hrp;generalize hml:(c.rows[k].modify i (qbs x)).map Rw.c=ml at hlist hrp hns t2 t3;have hmll:ml.length=c.rows[k].length:=by rw [<- hml];simp
  simp [c_78,Prg.e,Config.ce,cSe,cIe,ActionCall.ce,hkn,hk1,hk2,hix,hneg,hc,hal,hne,b1,hi,Rw.ce,hlist,qfb,qjy,hns,t1,t2,t3,t4,hmll,hrp,hs0]
theorem cfg4 (c:Config):∃r0 r1 r2 r3,Config.c c=[r0,r1,r2,r3]/\(∀(H:AH),(snap 37 H r0=some r0/\snap 37 H r1=some r1/\snap 37 H r2=some r2/\snap 37 H r3=some r3)/\(snap 38 H r0=some r0/\snap 38 H r1=some r1/\snap 38 H r2=some r2/\snap 38 H r3=some r3)/\(snap 39 H r0=some r0/\snap 39 H r1=some r1/\snap 39 H r2=some r2/\snap 39 H r3=some r3)/\(snap 40 H r0=some r0/\snap 40 H r1=some r1/\snap 40 H r2=some r2/\snap 40 H r3=some r3))/\(bor 37 r0=false/\bor 37 r1=false/\bor 37 r2=false/\bor 37 r3=false)/\(bor 38 r0=false/\bor 38 r1=false/\bor 38 r2=false/\bor 38 r3=false)/\(bor 39 r0=false/\bor 39 r1=false/\bor 39 r2=false/\bor 39 r3=false)/\(bor 40 r0=false/\bor 40 r1=false/\bor 40 r2=false/\bor 40 r3=false):=by
 refine ⟨_,_,_,_,Config.ce c,fun H=>⟨?_,?_,?_,?_⟩,?_,?_,?_,?_⟩<;>simp
theorem MDpost.pre {N N1:Nat} {O O1:List (Nat×AO)} {S:SV} {p:Prg} {c:Config} {v:AV} {r:Option (Rt×AH)} (hk:Kp (fun _=>False) N O O1) (hN:N<=N1) (h:MDpost N1 O1 S p c v r):MDpost N O S p c v r:=by
 obtain ⟨S',O',N',e,h1,h2,h3,h4,h5,h6⟩:=h;refine ⟨S',O',N',e,h1,h2,fun j hj=>(h3 j hj).imp id fun h=>by omega,?_,h5,by omega⟩;intro j hj hx;rw [h4 j (by omega) fun hc=>hx (hc.imp id fun hc=>?_)]
 ·exact hk j hj (by simp)
 ·show look j O=some .res;rw [<- hk j hj (by simp)];exact hc
def qag6 (N:Nat) (O:List (Nat×AO)) (p:Prg) (c:Config) (r:Option (Rt×AH)):Prop:=
 ∃S O' N',r=some (.val (.ptr S.s 15 0 0),⟨O',N'⟩)/\StoreM O' S p c/\(∀j,S.own j->N<=j)/\Kp (Rs O) N O O'/\Tail O' N'/\N<=N'
theorem qs8 {O:List (Nat×AO)} {N:Nat} {S:SV} {p:Prg} (op:p.Ok qa5) {c:Config} (m:StoreM O S p c) (v:CfgV p c) (s:CfgT c) (hT:Tail O N):
  qag6 N O p c (qal Φ f_36 [.ptr S.s 15 0 0] ⟨O,N⟩):=by
 rw [qbg (fn:=c_36) rfl rfl];obtain ⟨S',O',N',e,h1,h2,h3,h4,h5⟩:=qwv p op c (v.u s) v.incs hT m.cm.re;have hs:=m.s;simp only [Prg.e] at e;simp [c_36,SV.cells,Prg.e,hs,e];exact ⟨S',O',N',rfl,h1,h2,h3,h4,h5⟩
@[ext] structure Call25 where
 kind:Int
 table:Int
 id:Int
 entry:Entry
 call:ActionCall
 key:List Int
 deriving DecidableEq,Inhabited
def Call25.c (x:Call25):List AV:=[.int .i64 x.kind,.int .i64 x.table,.int .i64 x.id,.slice 2 (x.entry.keys.map KeyMatch.c),.int .i64 x.entry.priority,.int .i64 x.entry.call.action,.slice 1 (x.entry.call.args.map c32),.int .i64 x.call.action,.slice 1 (x.call.args.map c32),.slice 1 (x.key.map c32)]
@[simp] theorem Call25.c_length (x:Call25):(Call25.c x).length=10:=by simp [Call25.c]
def Call25.Ok (B:Nat) (x:Call25):Prop:=okI B x.kind/\okI B x.table/\okI B x.id/\Entry.Ok B x.entry/\ActionCall.Ok B x.call/\okL B (ok32 B) x.key
theorem Call25.rd {P:Go.Program} {B:Nat} {t:TypeId} {f0 f1 f2 f3 f4 f5:Go.Field} (hu:P.underlying t=some (.struct #[f0,f1,f2,f3,f4,f5])) (h0:Rd P B f0.type cI (okI B)) (h1:Rd P B f1.type cI (okI B)) (h2:Rd P B f2.type cI (okI B)) (h3:Rd P B f3.type Entry.c (Entry.Ok B)) (h4:Rd P B f4.type ActionCall.c (ActionCall.Ok B)) (h5:Rd P B f5.type (cS 1 c32) (okL B (ok32 B))):Rd P B t Call25.c (Call25.Ok B):=by
 intro xs hx;obtain ⟨xss,rfl,hl,hh⟩:=qbu hu hx
 match xss,hl,hh with
 | [a0,a1,a2,a3,a4,a5],_,hh=>
  obtain ⟨y0,rfl,o0⟩:=h0 a0 (hh 0 _ _ rfl rfl);obtain ⟨y1,rfl,o1⟩:=h1 a1 (hh 1 _ _ rfl rfl);obtain ⟨y2,rfl,o2⟩:=h2 a2 (hh 2 _ _ rfl rfl);obtain ⟨y3,rfl,o3⟩:=h3 a3 (hh 3 _ _ rfl rfl);obtain ⟨y4,rfl,o4⟩:=h4 a4 (hh 4 _ _ rfl rfl);obtain ⟨y5,rfl,o5⟩:=h5 a5 (hh 5 _ _ rfl rfl);exact ⟨⟨y0,y1,y2,y3,y4,y5⟩,by simp [Call25.c,ActionCall.c,Entry.c,cI,cS],⟨o0,o1,o2,o3,o4,o5⟩⟩
@[ext] structure Case25 where
 p:Prg
 cc:Config
 calls:List Call25
 deriving Inhabited
def Case25.c (x:Case25):List AV:=[.str x.p.name,.slice 2 (x.p.headers.map Header.c),.slice 2 (x.p.metadata.map Fld.c),.slice 3 (x.p.registers.map Register.c),.slice 3 (x.p.actions.map Action.c),.slice 6 (x.p.tables.map Tbl.c),.slice 7 (x.p.states.map ParserState.c),.slice 5 (x.p.control.map ControlNode.c),.slice 1 (x.p.deparser.map cI),.slice 1 (x.cc.rows.map (cS 5 Rw.c)),.slice 1 (x.cc.nextID.map cI),.slice 2 (x.cc.defaults.map ActionCall.c),.slice 1 (x.cc.registers.map (cS 1 c32)),.slice 10 (x.calls.map Call25.c)]
@[simp] theorem Case25.c_length (x:Case25):(Case25.c x).length=14:=by simp [Case25.c]
def Case25.Ok (B:Nat) (x:Case25):Prop:=Prg.Ok B x.p/\Config.Ok B x.cc/\okL B (Call25.Ok B) x.calls
theorem Case25.rd {P:Go.Program} {B:Nat} {t:TypeId} {f0 f1 f2:Go.Field} (hu:P.underlying t=some (.struct #[f0,f1,f2])) (h0:Rd P B f0.type Prg.c (Prg.Ok B)) (h1:Rd P B f1.type Config.c (Config.Ok B)) (h2:Rd P B f2.type (cS 10 Call25.c) (okL B (Call25.Ok B))):Rd P B t Case25.c (Case25.Ok B):=by
 intro xs hx;obtain ⟨xss,rfl,hl,hh⟩:=qbu hu hx
 match xss,hl,hh with
 | [a0,a1,a2],_,hh=>
  obtain ⟨y0,rfl,o0⟩:=h0 a0 (hh 0 _ _ rfl rfl);obtain ⟨y1,rfl,o1⟩:=h1 a1 (hh 1 _ _ rfl rfl);obtain ⟨y2,rfl,o2⟩:=h2 a2 (hh 2 _ _ rfl rfl);exact ⟨⟨y0,y1,y2⟩,by simp [Case25.c,Config.c,Prg.c,cS],⟨o0,o1,o2⟩⟩
theorem Call25.ce (x:Call25):Call25.c x=[.int .i64 x.kind,.int .i64 x.table,.int .i64 x.id,.slice 2 (x.entry.keys.map KeyMatch.c),.int .i64 x.entry.priority,.int .i64 x.entry.call.action,.slice 1 (x.entry.call.args.map c32),.int .i64 x.call.action,.slice 1 (x.call.args.map c32),.slice 1 (x.key.map c32)]:=by simp [Call25.c]
def Call25.op (x:Call25):TableOp:=⟨x.kind+1,x.table,x.id,x.entry,x.call⟩
def Call25.mu (x:Call25):Prop:=x.kind=0\/x.kind=1\/x.kind=2\/x.kind=3
instance (x:Call25):Decidable x.mu:=by unfold Call25.mu;infer_instance
def doE (p:Prg) (c:Config) (x:Call25):Int:=if x.mu then xoE p c x.op else 0
def doI (p:Prg) (c:Config) (x:Call25):Int:=if x.mu then xoI p c x.op else 0
def doC (p:Prg) (c:Config) (x:Call25):Config:=if x.mu then xoC p c x.op else c
structure Call25S (x:Call25):Prop where
 o:OpS x.op
 k:x.key.length<2^40
 r:∀v∈x.key,ok32 0 v
theorem qkk {x:Call25} (h:x.Ok qa5):Call25S x:=by
 have e:=qdz;simp only [Call25.Ok,Entry.Ok,ActionCall.Ok] at h;obtain ⟨_,_,_,⟨h1,_,_,h2⟩,⟨_,h3⟩,h4⟩:=h;exact ⟨⟨⟨by have:=h1.1;simp only [Call25.op];omega,fun m hm=>h1.2 m hm,by have:=h2.1;simp only [Call25.op];omega,fun v hv=>h2.2 v hv⟩,⟨by have:=h3.1;simp only [Call25.op];omega,fun v hv=>h3.2 v hv⟩⟩,by have:=h4.1;omega,fun v hv=>h4.2 v hv⟩
theorem qin {p:Prg} {c:Config} (v:CfgV p c) (x:Call25):CfgV p (doC p c x):=by
 unfold doC;split
 ·exact qaa8 v _
 ·exact v
theorem qh4 {p:Prg} {c:Config} (v:CfgV p c) (s:CfgT c) (hp:p.tables.length<2^40) (x:Call25) (hx:Call25S x):CfgT (doC p c x):=by
 unfold doC;split
 ·exact qyu v s hp _ hx.o
 ·exact s
theorem qwl {p:Prg} {c:Config} {x:Call25} (h:doE p c x≠0):doC p c x=c:=by
 unfold doE at h;unfold doC;split
 ·rename_i hm;rw [if_pos hm] at h;unfold xoC;rw [if_neg h]
 ·rfl
theorem qo5 {O:List (Nat×AO)} {N:Nat} {S:SV} {p:Prg} {c:Config} (m:StoreM O S p c) (f:PrgS p) (v:CfgV p c) (s:CfgT c) (hT:Tail O N) (o:Call25) (ho:Call25S o):
  MDpost N O S p (doC p c o) (.tup [.int .i64 (doI p c o),.int .i64 (doE p c o)]) (qal Φ f_28 [.ptr S.s 15 0 0,.agg (Call25.c o)] ⟨O,N⟩):=by
 rw [qbg (fn:=c_28) rfl rfl];have t0:=hT N (Qb _);have hk1:Kp (fun _=>False) N O (O++[(N,AO.row 10 [Call25.c o])]):=Kp.app (fun _ _ _=>rfl) (Qb _);have hT1:=hT.app1 (o:=AO.row 10 [Call25.c o]) (Qb N);have m1:StoreM (O++[(N,AO.row 10 [Call25.c o])]) S p c:=m.kp (X:=fun _=>False) hT (Kp.app (fun _ _ _=>rfl) (Qb _)) (by simp);have b1:look N (O++[(N,AO.row 10 [Call25.c o])])=some (.row 10 [Call25.c o]):=by rw [qah,t0];simp
 have he:=ho.o.e;have hcl:=ho.o.c.al;simp only [Call25.op] at he hcl;simp only [Call25.ce] at b1 hk1 hT1 m1;by_cases z1:o.kind=0
 ·simp only [z1] at b1 hk1 hT1 m1;refine MDpost.pre hk1 (Nat.le_succ N) ?_;obtain ⟨S',O',N',e,h1,h2,h3,h4,h5,h6⟩:=qrc m1 f v s hT1 o.table o.entry he;have e1:doE p c o=insE p c o.table o.entry:=by simp [doE,Call25.mu,Call25.op,xoE,z1]
  have e2:(if insE p c o.table o.entry=0 then insC c o.table o.entry else c)=doC p c o:=by simp [doC,Call25.mu,Call25.op,xoC,xoE,xoD,z1]
  have e3:(if insE p c o.table o.entry=0 then qcd c o.table else 0)=doI p c o:=by simp [doI,Call25.mu,Call25.op,xoI,xoE,z1]
  rw [e2] at h1;rw [e3,<- e1] at e;simp only [Entry.ce] at e;simp [c_28,Call25.ce,z1,b1,t0,e];exact ⟨S',O',N',rfl,h1,h2,h3,h4,h5,h6⟩
 by_cases z2:o.kind=1
 ·simp only [z2] at b1 hk1 hT1 m1;refine MDpost.pre hk1 (Nat.le_succ N) ?_;obtain ⟨S',O',N',e,h1,h2,h3,h4,h5,h6⟩:=qrd m1 f v.rl hT1 o.table o.id o.call hcl;have e1:doE p c o=modE p c o.table o.id o.call:=by simp [doE,Call25.mu,Call25.op,xoE,z2]
  have e2:(if modE p c o.table o.id o.call=0 then modC c o.table o.id o.call else c)=doC p c o:=by simp [doC,Call25.mu,Call25.op,xoC,xoE,xoD,z2]
  have e3:doI p c o=0:=by simp [doI,Call25.mu,Call25.op,xoI,z2]
  rw [e2] at h1;rw [<- e1] at e;rw [e3];simp only [ActionCall.ce] at e;simp [c_28,Call25.ce,z2,b1,t0,e];exact ⟨S',O',N',rfl,h1,h2,h3,h4,h5,h6⟩
 by_cases z3:o.kind=2
 ·simp only [z3] at b1 hk1 hT1 m1;refine MDpost.pre hk1 (Nat.le_succ N) ?_;obtain ⟨S',O',N',e,h1,h2,h3,h4,h5,h6⟩:=qrb m1 v hT1 o.table o.id;have e1:doE p c o=delE p c o.table o.id:=by simp [doE,Call25.mu,Call25.op,xoE,z3]
  have e2:(if delE p c o.table o.id=0 then delC c o.table o.id else c)=doC p c o:=by simp [doC,Call25.mu,Call25.op,xoC,xoE,xoD,z3]
  have e3:doI p c o=0:=by simp [doI,Call25.mu,Call25.op,xoI,z3]
  rw [e2] at h1;rw [<- e1] at e;rw [e3];simp [c_28,Call25.ce,z3,b1,t0,e];exact ⟨S',O',N',rfl,h1,h2,h3,h4,h5,h6⟩
 by_cases z4:o.kind=3
 ·simp only [z4] at b1 hk1 hT1 m1;refine MDpost.pre hk1 (Nat.le_succ N) ?_;obtain ⟨S',O',N',e,h1,h2,h3,h4,h5,h6⟩:=qsh m1 f v.rl v.dl hT1 o.table o.call hcl;have e1:doE p c o=defE p o.table o.call:=by simp [doE,Call25.mu,Call25.op,xoE,z4]
  have e2:(if defE p o.table o.call=0 then defC c o.table o.call else c)=doC p c o:=by simp [doC,Call25.mu,Call25.op,xoC,xoE,xoD,z4]
  have e3:doI p c o=0:=by simp [doI,Call25.mu,Call25.op,xoI,z4]
  rw [e2] at h1;rw [<- e1] at e;rw [e3];simp only [ActionCall.ce] at e;simp [c_28,Call25.ce,z4,b1,t0,e];exact ⟨S',O',N',rfl,h1,h2,h3,h4,h5,h6⟩
 ·have e1:doE p c o=0:=by simp [doE,Call25.mu,z1,z2,z3,z4]
  have e2:doC p c o=c:=by simp [doC,Call25.mu,z1,z2,z3,z4]
  have e3:doI p c o=0:=by simp [doI,Call25.mu,z1,z2,z3,z4]
  rw [e1,e2,e3];refine MDpost.pre hk1 (Nat.le_succ N) ?_;simp [c_28,Call25.ce,z1,z2,z3,z4,b1,t0];exact ⟨S,_,_,rfl,m1,rfl,fun j hj=> .inl hj,Kp.refl,hT1,Qb _⟩
def bigC (x:Call25):Bool:=decide (30<x.entry.keys.length) || (decide (30<x.entry.call.args.length) || (decide (30<x.call.args.length) || decide (30<x.key.length)))
def fewF (l:List Call25):Bool:=decide (l.length<=60)&& !qcg l bigC 0
theorem qpb (l:List Call25):qab Φ f_25 [.slice 10 (l.map Call25.c)]=some (.val (.bool (fewF l))):=by
 rw [qaa (fn:=c_25) rfl rfl];by_cases q:l.length<=60
 rotate_left
 ·have:60<l.length:=by omega
  simp [c_25,fewF,q,this]
 have q':¬60<l.length:=by omega
 simp [c_25,fewF,q,q'];refine qau l.length (fun i e=>look 0 e=some (.slice 10 (l.map Call25.c))/\look 3 e=some (.int .i64 i)) (fun i=>some (Rt.val (AV.bool (!qcg l bigC i)))) ?_ ?_ 0 _ (Qc _) ?_
 ·rintro i e L hi hL ⟨h0,h3⟩ ih;have hw:=qag i (by omega);by_cases x1:30<l[i].entry.keys.length
  ·rw [qgw hi (by simp [bigC,x1])];simp [c_25_l0,Call25.ce,h0,h3,hi,x1]
  by_cases x2:30<l[i].entry.call.args.length
  ·rw [qgw hi (by simp [bigC,x2])];simp [c_25_l0,Call25.ce,h0,h3,hi,x1,x2]
  by_cases x3:30<l[i].call.args.length
  ·rw [qgw hi (by simp [bigC,x3])];simp [c_25_l0,Call25.ce,h0,h3,hi,x1,x2,x3]
  by_cases x4:30<l[i].key.length
  ·rw [qgw hi (by simp [bigC,x4])];simp [c_25_l0,Call25.ce,h0,h3,hi,x1,x2,x3,x4]
  rw [qe6 hi (by simp [bigC];omega)];simp [c_25_l0,Call25.ce,h0,h3,hi,x1,x2,x3,x4,hL,hw];refine (ih _ ⟨by simp [h0,Call25.ce],by simp⟩).trans (by simp)
 ·rintro e L hL ⟨h0,h3⟩;simp [c_25_l0,c_25_k1,h0,h3,hL,qjn]
 ·simp
theorem Case25.ce (x:Case25):Case25.c x=[.str x.p.name,.slice 2 (x.p.headers.map Header.c),.slice 2 (x.p.metadata.map Fld.c),.slice 3 (x.p.registers.map Register.c),.slice 3 (x.p.actions.map Action.c),.slice 6 (x.p.tables.map Tbl.c),.slice 7 (x.p.states.map ParserState.c),.slice 5 (x.p.control.map ControlNode.c),.slice 1 (x.p.deparser.map cI),.slice 1 (x.cc.rows.map (cS 5 Rw.c)),.slice 1 (x.cc.nextID.map cI),.slice 2 (x.cc.defaults.map ActionCall.c),.slice 1 (x.cc.registers.map (cS 1 c32)),.slice 10 (x.calls.map Call25.c)]:=by simp [Case25.c]
def qag8 (N:Nat) (O:List (Nat×AO)) (p:Prg) (c:Config) (r:Option (Rt×AH)):Prop:=
 ∃S O' N',r=some (.val (.ptr S.s 15 0 0),⟨O',N'⟩)/\StoreM O' S p c/\(∀j,S.own j->N<=j)/\Kp (Rs O) N O O'/\Tail O' N'/\N<=N'
theorem qma (x:Case25) (op:x.p.Ok qa5) (hc:(pre x.p.control).length<2^40 - 1) (s:CfgT x.cc) (hb:qab Φ f_15 [.agg (Prg.c x.p),.agg (Config.c x.cc)]=some (.val (.bool true))) (hf:fewF x.calls=true) (hz:cfgE x.p x.cc=0) {O:List (Nat×AO)} {N:Nat} (hT:Tail O N):
  qag8 N O x.p x.cc (qal Φ f_26 [.agg (Case25.c x)] ⟨O,N⟩):=by
 rw [qbg (fn:=c_26) rfl rfl];have f:=qee op;have k1:=qpb x.calls;have k2:=qlb x.p f (qpp op) hc x.cc s;rw [hf] at k1;rw [hz] at k2;have t0:=hT N (Qb _);have hT1:Tail (O++[(N,.row 14 [Case25.c x])]) (N+1):=hT.app1 (Qb _);rcases qadz x.p op hc x.cc s hT1 with ⟨z,-⟩ | ⟨-,S,O1,N1,e,m1,w1,hk1,hT1',hN1⟩
 ·exact absurd hz z
 simp only [Prg.e,Config.ce,Case25.ce] at hb k2 e hk1;simp [c_26,Case25.ce,t0,qah,hb,k1,k2,e];refine ⟨S,O1,N1,rfl,m1,fun j hj=>by have:=w1 j hj;omega,fun j hj hx=>?_,hT1',by omega⟩;have h0:look j (O++[(N,.row 14 [Case25.c x])])=look j O:=Kp.app (X:=fun _=>False) Kp.refl (Qb N) j hj (by simp);simp only [Case25.ce] at h0;rw [hk1 j (by omega) (fun h=>hx (by rw [Rs,<- h0];exact h)),h0]
theorem StoreM.lt {O:List (Nat×AO)} {N:Nat} {S:SV} {p:Prg} {c:Config} (m:StoreM O S p c) (hT:Tail O N) {j:Nat} (hj:S.own j):j<N:=by
 obtain ⟨x,hx,_⟩:=m.own_lk hj;exact hT.lt hx
theorem StoreM.nr {O:List (Nat×AO)} {S:SV} {p:Prg} {c:Config} (m:StoreM O S p c) {j:Nat} (hj:S.own j):¬Rs O j:=fun hr=>by
 obtain ⟨x,hx,hne⟩:=m.own_lk hj;have hr:look j O=some .res:=hr;rw [hx] at hr;exact hne (Option.some.inj hr)
theorem StoreM.kpR {O O':List (Nat×AO)} {N:Nat} {S:SV} {p:Prg} {c:Config} (m:StoreM O S p c) (hT:Tail O N) (hk:Kp (Rs O) N O O'):StoreM O' S p c:=m.kp hT hk fun _ hj=>m.nr hj
theorem StoreM.kpD {O O':List (Nat×AO)} {N:Nat} {S:SV} {p:Prg} {c:Config} {Q:Nat->Prop} (m:StoreM O S p c) (hT:Tail O N) (hk:Kp (fun j=>Q j\/Rs O j) N O O') (hd:∀j,S.own j->¬Q j):StoreM O' S p c:=
 m.kp hT hk fun j hj h=>h.elim (hd j hj) (m.nr hj)
theorem StoreM.swp {O:List (Nat×AO)} {S:SV} {p:Prg} {c:Config} (m:StoreM O S p c):StoreM (qa4 O) S p c:=m.fr fun j hj=>qbk (m.nr hj)
theorem CfgM.kpX {O O':List (Nat×AO)} {N:Nat} {X:Nat->Prop} {v1 v2 v3 v4:AV} {V:List AV} {c:Config} (h:CfgM O v1 v2 v3 v4 V c) (hT:Tail O N) (hk:Kp X N O O') (hx:∀j,CfgM.own v1 v2 v3 V j->¬X j):CfgM O' v1 v2 v3 v4 V c:=h.fr fun j hj=>by
 obtain ⟨z,es,hl,_⟩:=h.own_lk hj;exact hk j (hT.lt hl) (hx j hj)
theorem CfgM.lt {O:List (Nat×AO)} {N:Nat} {v1 v2 v3 v4:AV} {V:List AV} {c:Config} (h:CfgM O v1 v2 v3 v4 V c) (hT:Tail O N) {j:Nat} (hj:CfgM.own v1 v2 v3 V j):j<N:=by
 obtain ⟨z,es,hl,_⟩:=h.own_lk hj;exact hT.lt hl
theorem CfgM.nr {O:List (Nat×AO)} {v1 v2 v3 v4:AV} {V:List AV} {c:Config} (h:CfgM O v1 v2 v3 v4 V c) {j:Nat} (hj:CfgM.own v1 v2 v3 V j):¬Rs O j:=fun hr=>by
 obtain ⟨z,es,hl,_⟩:=h.own_lk hj;have hr:look j O=some .res:=hr;rw [hl] at hr;cases hr
theorem CfgM.ao {O:List (Nat×AO)} {w1 w2 w3 w4:AV} {V:List AV} {c:Config} (h:CfgM O w1 w2 w3 w4 V c):aoEq (some (.row 4 [[w1,w2,w3,w4]])) (some (.row 4 [[w1,w2,w3,w4]]))=true:=by
 have hr:∀es∈c.registers.map (cS 1 c32),∀x∈es,Rf 39 x:=by
  intro es he x hx;obtain ⟨l,_,rfl⟩:=List.mem_map.1 he;simp only [cS,List.mem_cons,List.not_mem_nil,or_false] at hx;subst hx;exact Rf.map _ _ _ _ fun x _=>qlc _ x
 have g:Rf 40 w4:=by
  rcases h.g with e | ⟨t,e⟩
  ·rw [e];exact Rf.fslice _ _ _ hr
  ·rw [e];exact Rf.app _ _ _ _ hr
 have h0:∀x∈[w1,w2,w3,w4],avEq 40 x x=true:=by
  simp only [List.mem_cons,List.not_mem_nil,or_false];rintro x (rfl | rfl | rfl | rfl)
  ·exact qld h.r
  ·exact qld h.n
  ·exact qld h.d
  ·exact g
 unfold aoEq;simp only [List.mem_cons,List.not_mem_nil,or_false,forall_eq_or_imp,forall_eq] at h0;simp [qai,eqL,h0]
theorem kpT {p:Prg} {c:Config} (f:PrgS p) (v:CfgV p c) (s:CfgT c) {S S3:SV} {x:Call25} (hx:Call25S x) {O:List (Nat×AO)} {N:Nat} (hT:Tail O N) (mS:StoreM O S p c) (mT:StoreM O S3 p (doC p c x)) (dj:∀j,S.own j->¬S3.own j):
  ∃(S6:SV) (O6:List (Nat×AO)) (N6:Nat) (y1 y2 y3 y4:AV) (Y:List AV) (O7:List (Nat×AO)) (N7:Nat) (z1 z2 z3 z4:AV) (Z:List AV) (O8:List (Nat×AO)) (N8:Nat),
   qal Φ f_28 [.ptr S.s 15 0 0,.agg (Call25.c x)] ⟨qa4 O,N⟩=some (.val (.tup [.int .i64 (doI p c x),.int .i64 (doE p c x)]),⟨O6,N6⟩)/\
   qal Φ f_24 [.ptr S.s 15 0 0] ⟨O6,N6⟩=some (.val (.agg [y1,y2,y3,y4]),⟨O7,N7⟩)/\
   qal Φ f_24 [.ptr S3.s 15 0 0] ⟨O7,N7⟩=some (.val (.agg [z1,z2,z3,z4]),⟨O8,N8⟩)/\
   CfgM O8 y1 y2 y3 y4 Y (doC p c x)/\CfgM O8 z1 z2 z3 z4 Z (doC p c x)/\Tail O8 N8/\StoreM O8 S6 p (doC p c x)/\S6.s=S.s:=by
 have v6:=qin v x;have s6:=qh4 v s f.t x hx;have hTs:Tail (qa4 O) N:=qex hT;obtain ⟨S6,O6,N6,c6,m6,es6,f6,k6,hT6,hN6⟩:=qo5 mS.swp f v s hTs x hx;have mT6:StoreM O6 S3 p (doC p c x):=mT.swp.kpD hTs k6 fun j hj h=>dj j h hj
 obtain ⟨y1,y2,y3,y4,Y,O7,N7,c7,n7,f7,k7,hT7,hN7⟩:=qc9 (v6.u s6) hT6 m6;rw [es6] at c7;obtain ⟨z1,z2,z3,z4,Z,O8,N8,c8,n8,f8,k8,hT8,hN8⟩:=qc9 (v6.u s6) hT7 (mT6.kp hT6 k7 (by simp));exact ⟨S6,O6,N6,y1,y2,y3,y4,Y,O7,N7,z1,z2,z3,z4,Z,O8,N8,c6,c7,c8,n7.kpX hT7 k8 (by simp),n8,hT8,(m6.kp hT6 k7 (by simp)).kp hT7 k8 (by simp),es6⟩
structure KpI (p:Prg) (x:Case25) (s0:Nat) (i:Nat) (e:Env) (O:List (Nat×AO)) (N:Nat):Prop where
 tl:Tail O N
 st:∃S c,StoreM O S p c/\S.s=s0/\CfgV p c/\CfgT c
 e1:look 1 e=some (.iptr 14 [Case25.c x] 0 0)
 e3:look 3 e=some (.ptr s0 15 0 0)
 e4:look 4 e=some (.int .i64 i)
theorem kp0 (x:Case25) (op:x.p.Ok qa5) (hl60:x.calls.length<=60) (hl:∀o∈x.calls,Call25S o) {s0:Nat}:
  ∀e O N,KpI x.p x s0 0 e O N->go Φ (finP [.tmp 2]) [.c (.loop c_6_l0),.b 0,.c c_6_k1] .normal ⟨e,⟨O,N⟩⟩=some (.val (.bool true)):=by
 have f:=qee op;have hp:=f.t;intro e O N I0;refine qds x.calls.length (fun i e h=>∃O N,h=⟨O,N⟩/\KpI x.p x s0 i e O N) (fun _=>some (Rt.val (.bool true))) ?_ ?_ 0 e _ (Qc _) ⟨O,N,rfl,I0⟩
 ·rintro i e _ L hi hL ⟨O,N,rfl,I⟩ ih;obtain ⟨S,c,m0,es,v,s⟩:=I.st;have hT0:=I.tl;have hw:=qag i (by omega);have hxo:=hl _ (Qd hi);have e1:=I.e1;rw [Case25.ce] at e1;obtain ⟨w1,w2,w3,w4,V,O1,N1,c1,n1,f1,k1,hT1,hN1⟩:=qc9 (v.u s) hT0 m0;have u1:=hT1 N1 (Qb _);rw [es] at c1;cases hbo:anyL (bor 40) [w1,w2,w3,w4] with
  | true=>
   have hTa:Tail (O1++[(N1,.row 4 [[w1,w2,w3,w4]])]) (N1+1):=hT1.app1 (Qb _);have ma:StoreM (O1++[(N1,.row 4 [[w1,w2,w3,w4]])]) S x.p c:=(m0.kp hT0 k1 (by simp)).kp (X:=fun _=>False) hT1 (Kp.app Kp.refl (Qb _)) (by simp);obtain ⟨S2,O2,N2,c2,m2,f2,k2,hT2,hN2⟩:=qs8 op ma v s hTa;obtain ⟨S3,O3,N3,c3,m3,es3,f3,k3,hT3,hN3⟩:=qo5 m2 f v s hT2 x.calls[i] hxo;have mb:StoreM O2 S x.p c:=ma.kpR hTa k2;have ow:∀j,S.own j->¬S2.own j:=fun j hj h=>by
    have:=m0.lt hT0 hj;have:=f2 j h;omega
   have mc:StoreM O3 S x.p c:=mb.kpD hT2 k3 ow;have ow3:∀j,S.own j->¬S3.own j:=fun j hj h=>by
    have:=m0.lt hT0 hj;rcases f3 j h with h | h
    ·have:=f2 j h;omega
    ·omega
   rw [es] at c2;simp only [Call25.ce] at c3;have na:=n1.kpX (X:=fun _=>False) hT1 (Kp.app (o:= .row 4 [[w1,w2,w3,w4]]) Kp.refl (Qb N1)) (by simp);have nb:=na.kpX hTa k2 fun j hj=>na.nr hj
   have nc:=nb.kpX hT2 k3 fun j hj h=>h.elim (fun h=>by
    have:=n1.lt hT1 hj;have:=f2 j h;omega) (nb.nr hj)
   have ra:look N1 (O1++[(N1,.row 4 [[w1,w2,w3,w4]])])=some (.row 4 [[w1,w2,w3,w4]]):=by simp [qah,u1]
   have rb:=k2.lk hTa ra (fun h=>by have h:look N1 (O1++[(N1,.row 4 [[w1,w2,w3,w4]])])=some .res:=h;rw [ra] at h;cases h);have rc:=k3.lk hT2 rb (fun h=>h.elim (fun h=>by have:=f2 _ h;omega) (fun h=>by have h:look N1 O2=some .res:=h;rw [rb] at h;cases h));have hT3':Tail O3 (N3+1):=hT3.mono (Nat.le_succ _);have q1:=qgq c c s.s;simp only [decide_true,Config.ce] at q1;have q2:=qgq (doC x.p c x.calls[i]) (doC x.p c x.calls[i]) (qh4 v s hp _ hxo).s;simp only [decide_true,Config.ce] at q2;by_cases z:doE x.p c x.calls[i]=0
   ·simp only [z] at c3;obtain ⟨y1,y2,y3,y4,Y,O5,N5,c5,n5,f5,k5,hT5,hN5⟩:=qc9 (v.u s) hT3' mc;rw [es] at c5;have rd:=k5.lk hT3' rc (by simp);have nd:=nc.kpX hT3' k5 (by simp);have mS:=mc.kp hT3' k5 (by simp);have mT:=m3.kp hT3' k5 (by simp);have a1:=nd.snpR (n:=35) (N:=N5);have a2:=nd.snpN (n:=35) (N:=N5);have a3:=nd.snpD (n:=35) (N:=N5);have a4:=nd.snpG (n:=35) (N:=N5);have b1:=n5.snpR (n:=35) (N:=N5);have b2:=n5.snpN (n:=35) (N:=N5);have b3:=n5.snpD (n:=35) (N:=N5);have b4:=n5.snpG (n:=35) (N:=N5);obtain ⟨S6,O6,N6,g1,g2,g3,g4,G,O7,N7,h1,h2,h3,h4,H,O8,N8,c6,c7,c8,n7,n8,hT8,m8,es8⟩:=kpT f v s hxo hT5 mS mT ow3;rw [es] at c6 c7 es8;rw [es3] at c8;simp only [Call25.ce,z] at c6;have d1:=n7.snpR (n:=35) (N:=N8);have d2:=n7.snpN (n:=35) (N:=N8);have d3:=n7.snpD (n:=35) (N:=N8);have d4:=n7.snpG (n:=35) (N:=N8);have j1:=n8.snpR (n:=35) (N:=N8);have j2:=n8.snpN (n:=35) (N:=N8);have j3:=n8.snpD (n:=35) (N:=N8);have j4:=n8.snpG (n:=35) (N:=N8);simp [c_6_l0,e1,I.e3,I.e4,hi,hL,c1,u1,qah,qad,hbo,frzB,c2,c3,Call25.ce,z,c5,rc,rd,n1.ao,a1,a2,a3,a4,b1,b2,b3,b4,q1,q2,c6,c7,c8,d1,d2,d3,d4,j1,j2,j3,j4,hw];exact ih _ _ ⟨_,_,rfl,⟨hT8,⟨S6,_,m8,es8,qin v _,qh4 v s hp _ hxo⟩,by simp [e1,Case25.ce],by simp [I.e3],by simp⟩⟩
   ·have hd:=qwl z;rw [hd] at m3;obtain ⟨t1,t2,t3,t4,T,O4,N4,c4,n4,f4,k4,hT4,hN4⟩:=qc9 (v.u s) hT3' m3;rw [es3] at c4;obtain ⟨y1,y2,y3,y4,Y,O5,N5,c5,n5,f5,k5,hT5,hN5⟩:=qc9 (v.u s) hT4 (mc.kp hT3' k4 (by simp));rw [es] at c5;have rd4:=k4.lk hT3' rc (by simp);have rd:=k5.lk hT4 rd4 (by simp);have nd4:=nc.kpX hT3' k4 (by simp);have nd:=nd4.kpX hT4 k5 (by simp);have mS:=(mc.kp hT3' k4 (by simp)).kp hT4 k5 (by simp);have mT:=(m3.kp hT3' k4 (by simp)).kp hT4 k5 (by simp);rw [<- hd] at mT;have i1:=n4.snpR (n:=35) (N:=N4);have i2:=n4.snpN (n:=35) (N:=N4);have i3:=n4.snpD (n:=35) (N:=N4);have i4:=n4.snpG (n:=35) (N:=N4);have l1:=nd4.snpR (n:=35) (N:=N4);have l2:=nd4.snpN (n:=35) (N:=N4);have l3:=nd4.snpD (n:=35) (N:=N4);have l4:=nd4.snpG (n:=35) (N:=N4);have a1:=nd.snpR (n:=35) (N:=N5);have a2:=nd.snpN (n:=35) (N:=N5);have a3:=nd.snpD (n:=35) (N:=N5);have a4:=nd.snpG (n:=35) (N:=N5);have b1:=n5.snpR (n:=35) (N:=N5);have b2:=n5.snpN (n:=35) (N:=N5);have b3:=n5.snpD (n:=35) (N:=N5);have b4:=n5.snpG (n:=35) (N:=N5);obtain ⟨S6,O6,N6,g1,g2,g3,g4,G,O7,N7,h1,h2,h3,h4,H,O8,N8,c6,c7,c8,n7,n8,hT8,m8,es8⟩:=kpT f v s hxo hT5 mS mT ow3;rw [es] at c6 c7 es8;rw [es3] at c8;simp only [Call25.ce,z] at c6;have d1:=n7.snpR (n:=35) (N:=N8);have d2:=n7.snpN (n:=35) (N:=N8);have d3:=n7.snpD (n:=35) (N:=N8);have d4:=n7.snpG (n:=35) (N:=N8);have j1:=n8.snpR (n:=35) (N:=N8);have j2:=n8.snpN (n:=35) (N:=N8);have j3:=n8.snpD (n:=35) (N:=N8);have j4:=n8.snpG (n:=35) (N:=N8);simp [c_6_l0,e1,I.e3,I.e4,hi,hL,c1,u1,qah,qad,hbo,frzB,c2,c3,Call25.ce,z,c4,c5,rc,rd4,rd,n1.ao,a1,a2,a3,a4,b1,b2,b3,b4,i1,i2,i3,i4,l1,l2,l3,l4,q1,q2,c6,c7,c8,d1,d2,d3,d4,j1,j2,j3,j4,hw];exact ih _ _ ⟨_,_,rfl,⟨hT8,⟨S6,_,m8,es8,qin v _,qh4 v s hp _ hxo⟩,by simp [e1,Case25.ce],by simp [I.e3],by simp⟩⟩
  | false=>
   have hTa:Tail O1 (N1+1):=hT1.mono (Nat.le_succ _);have ma:StoreM O1 S x.p c:=m0.kp hT0 k1 (by simp);obtain ⟨S2,O2,N2,c2,m2,f2,k2,hT2,hN2⟩:=qs8 op ma v s hTa;obtain ⟨S3,O3,N3,c3,m3,es3,f3,k3,hT3,hN3⟩:=qo5 m2 f v s hT2 x.calls[i] hxo;have mb:StoreM O2 S x.p c:=ma.kpR hTa k2;have ow:∀j,S.own j->¬S2.own j:=fun j hj h=>by
    have:=m0.lt hT0 hj;have:=f2 j h;omega
   have mc:StoreM O3 S x.p c:=mb.kpD hT2 k3 ow;have ow3:∀j,S.own j->¬S3.own j:=fun j hj h=>by
    have:=m0.lt hT0 hj;rcases f3 j h with h | h
    ·have:=f2 j h;omega
    ·omega
   rw [es] at c2;simp only [Call25.ce] at c3;have na:=n1.kpX (X:=fun _=>False) hT1 (Kp.app (o:= .row 4 [[w1,w2,w3,w4]]) Kp.refl (Qb N1)) (by simp);have p1:=na.snpR (n:=36) (N:=N1+1);have p2:=na.snpN (n:=36) (N:=N1+1);have p3:=na.snpD (n:=36) (N:=N1+1);have p4:=na.snpG (n:=36) (N:=N1+1);have hT3':Tail O3 (N3+1):=hT3.mono (Nat.le_succ _);have q1:=qgq c c s.s;simp only [decide_true,Config.ce] at q1;have q2:=qgq (doC x.p c x.calls[i]) (doC x.p c x.calls[i]) (qh4 v s hp _ hxo).s;simp only [decide_true,Config.ce] at q2;by_cases z:doE x.p c x.calls[i]=0
   ·simp only [z] at c3;obtain ⟨y1,y2,y3,y4,Y,O5,N5,c5,n5,f5,k5,hT5,hN5⟩:=qc9 (v.u s) hT3' mc;rw [es] at c5;have mS:=mc.kp hT3' k5 (by simp);have mT:=m3.kp hT3' k5 (by simp);have b1:=n5.snpR (n:=35) (N:=N5);have b2:=n5.snpN (n:=35) (N:=N5);have b3:=n5.snpD (n:=35) (N:=N5);have b4:=n5.snpG (n:=35) (N:=N5);obtain ⟨S6,O6,N6,g1,g2,g3,g4,G,O7,N7,h1,h2,h3,h4,H,O8,N8,c6,c7,c8,n7,n8,hT8,m8,es8⟩:=kpT f v s hxo hT5 mS mT ow3;rw [es] at c6 c7 es8;rw [es3] at c8;simp only [Call25.ce,z] at c6;have d1:=n7.snpR (n:=35) (N:=N8);have d2:=n7.snpN (n:=35) (N:=N8);have d3:=n7.snpD (n:=35) (N:=N8);have d4:=n7.snpG (n:=35) (N:=N8);have j1:=n8.snpR (n:=35) (N:=N8);have j2:=n8.snpN (n:=35) (N:=N8);have j3:=n8.snpD (n:=35) (N:=N8);have j4:=n8.snpG (n:=35) (N:=N8);simp [c_6_l0,e1,I.e3,I.e4,hi,hL,c1,u1,qah,qad,hbo,frzB,c2,c3,Call25.ce,z,c5,p1,p2,p3,p4,b1,b2,b3,b4,q1,q2,c6,c7,c8,d1,d2,d3,d4,j1,j2,j3,j4,hw];exact ih _ _ ⟨_,_,rfl,⟨hT8,⟨S6,_,m8,es8,qin v _,qh4 v s hp _ hxo⟩,by simp [e1,Case25.ce],by simp [I.e3],by simp⟩⟩
   ·have hd:=qwl z;rw [hd] at m3;obtain ⟨t1,t2,t3,t4,T,O4,N4,c4,n4,f4,k4,hT4,hN4⟩:=qc9 (v.u s) hT3' m3;rw [es3] at c4;obtain ⟨y1,y2,y3,y4,Y,O5,N5,c5,n5,f5,k5,hT5,hN5⟩:=qc9 (v.u s) hT4 (mc.kp hT3' k4 (by simp));rw [es] at c5;have mS:=(mc.kp hT3' k4 (by simp)).kp hT4 k5 (by simp);have mT:=(m3.kp hT3' k4 (by simp)).kp hT4 k5 (by simp);rw [<- hd] at mT;have i1:=n4.snpR (n:=35) (N:=N4);have i2:=n4.snpN (n:=35) (N:=N4);have i3:=n4.snpD (n:=35) (N:=N4);have i4:=n4.snpG (n:=35) (N:=N4);have b1:=n5.snpR (n:=35) (N:=N5);have b2:=n5.snpN (n:=35) (N:=N5);have b3:=n5.snpD (n:=35) (N:=N5);have b4:=n5.snpG (n:=35) (N:=N5);obtain ⟨S6,O6,N6,g1,g2,g3,g4,G,O7,N7,h1,h2,h3,h4,H,O8,N8,c6,c7,c8,n7,n8,hT8,m8,es8⟩:=kpT f v s hxo hT5 mS mT ow3;rw [es] at c6 c7 es8;rw [es3] at c8;simp only [Call25.ce,z] at c6;have d1:=n7.snpR (n:=35) (N:=N8);have d2:=n7.snpN (n:=35) (N:=N8);have d3:=n7.snpD (n:=35) (N:=N8);have d4:=n7.snpG (n:=35) (N:=N8);have j1:=n8.snpR (n:=35) (N:=N8);have j2:=n8.snpN (n:=35) (N:=N8);have j3:=n8.snpD (n:=35) (N:=N8);have j4:=n8.snpG (n:=35) (N:=N8);simp [c_6_l0,e1,I.e3,I.e4,hi,hL,c1,u1,qah,qad,hbo,frzB,c2,c3,Call25.ce,z,c4,c5,p1,p2,p3,p4,b1,b2,b3,b4,i1,i2,i3,i4,q1,q2,c6,c7,c8,d1,d2,d3,d4,j1,j2,j3,j4,hw];exact ih _ _ ⟨_,_,rfl,⟨hT8,⟨S6,_,m8,es8,qin v _,qh4 v s hp _ hxo⟩,by simp [e1,Case25.ce],by simp [I.e3],by simp⟩⟩
 ·rintro e _ L hL ⟨O,N,rfl,I⟩;have e1:=I.e1;rw [Case25.ce] at e1;simp [c_6_l0,c_6_k1,e1,I.e4,hL,qdp]
theorem qod {l:List Call25} (h:fewF l=true):l.length<=60:=by
 unfold fewF at h;simp at h;exact h.1
theorem qqb (x:Case25) (o:x.Ok qa5):qab Φ f_6 [.agg (Case25.c x)]=some (.val (.bool true)):=by
 obtain ⟨op,oc,ol⟩:=o;have f:=qee op;have s:=qqa oc;have hv:=qpp op;obtain ⟨b,hb⟩:=qu3 x.p x.cc (qid op) s.s;have hpre:=qq3 x.p x.cc (qid op);have kf:=qpb x.calls;have hbl:=hb;rw [qaa (fn:=c_6) rfl rfl];cases b with
 | false=>
  simp only [Prg.e,Config.ce] at hb;simp [c_6,Case25.ce,hb,qdp]
 | true=>
 have hc:(pre x.p.control).length<2^40 - 1:=by have:=hpre hb;omega
 have kc:=qlb x.p f hv hc x.cc s;simp only [Prg.e,Config.ce] at hb kc;cases hF:fewF x.calls with
 | false=>
  rw [hF] at kf;simp [c_6,Case25.ce,hb,kf,qdp]
 | true=>
 rw [hF] at kf;by_cases z:cfgE x.p x.cc=0
 rotate_left
 ·simp [c_6,Case25.ce,hb,kf,kc,z,qdp]
 rw [z] at kc;have v:=(qhn x.p x.cc).1 z;obtain ⟨S,O1,N1,e,m1,w1,k1,hT1,hN1⟩:=qma x op hc s hbl hF z (O:=[]) (N:=0) (Tail.nil 0);have hl60:=qod hF;have hl:∀o∈x.calls,Call25S o:=fun o ho=>qkk (ol.2 o ho)
 simp only [Case25.ce] at e;simp [c_6,Case25.ce,hb,kf,kc,e];exact kp0 x op hl60 hl _ _ _ ⟨hT1,⟨S,x.cc,m1,rfl,v,s⟩,by simp [Case25.ce],by simp,by simp⟩
end Go.Av
