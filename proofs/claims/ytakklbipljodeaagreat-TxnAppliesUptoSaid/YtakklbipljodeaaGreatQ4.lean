/-
 Keys of entries: checks, on both sides.
-/
import Derived.Test.YtakklbipljodeaaGreatSK3
set_option linter.unusedVariables false
set_option linter.unusedSimpArgs false
set_option linter.constructorNameAsVariable false
namespace Go.Av
set_option maxRecDepth 4000
theorem KeyMatch.ce (m:KeyMatch):KeyMatch.c m=[.int .u32 m.value,.int .u32 m.mask]:=by simp [KeyMatch.c]
def keyK (m:KeyMatch) (kind w:Int):Int:=
 if fits m.value w=false∨fits m.mask w=false then 9
 else if m.value.toNat&&& m.mask.toNat≠m.value.toNat then 5
 else if kind=1∧m.mask≠qbe w then 11
 else if kind=2∧(plE m.mask w).isSome=false then 11 else 0
theorem qacu (m:KeyMatch) (kind w:Int) (h1:ok32 0 m.value) (h2:ok32 0 m.mask):qab Φ f_177 [.agg (KeyMatch.c m),.int .i64 kind,.int .i64 w]=some (.val (.int .i64 (keyK m kind w))):=by
 rw [qaa (fn:=c_177) rfl rfl];have f1:=qjk m.value w;have f2:=qjk m.mask w;have hm:=qf0 w;have hp:=qadx m.mask w;have ha:=qla h1 h2;unfold keyK;cases q1:fits m.value w with
 | false=>rw [q1] at f1;simp [c_177,KeyMatch.ce,f1]
 | true=>
 rw [q1] at f1;cases q2:fits m.mask w with
 | false=>rw [q2] at f2;simp [c_177,KeyMatch.ce,f1,f2]
 | true=>
 rw [q2] at f2;by_cases z:qgo .u32 m.value m.mask=0
 rotate_left
 ·have z':¬(m.value.toNat&&& m.mask.toNat=m.value.toNat):=fun h=>z (ha.2 h)
  simp [c_177,KeyMatch.ce,f1,f2,z,z']
 have z':=ha.1 z;by_cases k1:kind=1
 ·subst k1;by_cases y:m.mask=qbe w
  ·rw [y] at f2 z z';simp [c_177,KeyMatch.ce,f1,f2,z,z',hm,y]
  ·simp [c_177,KeyMatch.ce,f1,f2,z,z',hm,y]
 by_cases k2:kind=2
 ·subst k2;cases y:plE m.mask w with
  | none=>rw [y] at hp;simp [plV] at hp;simp [c_177,KeyMatch.ce,f1,f2,z,z',hp]
  | some x=>rw [y] at hp;simp [plV] at hp;simp [c_177,KeyMatch.ce,f1,f2,z,z',hp]
 simp [c_177,KeyMatch.ce,f1,f2,z,z',k1,k2]
theorem qael (m:KeyMatch) (kind w:Int) (h1:ok32 0 m.value) (h2:ok32 0 m.mask):qab Φ f_250 [.agg (KeyMatch.c m),.int .i64 w,.int .i64 kind]=some (.val (.int .i64 (keyK m kind w))):=by
 rw [qaa (fn:=c_250) rfl rfl];have f1:=qm8 m.value w h1;have f2:=qm8 m.mask w h2;have hm:=qsw w;have hp:=qaa0 m.mask w;have ha:=qp2 h1 h2;simp [plV] at hp;unfold keyK;cases q1:fits m.value w with
 | false=>rw [q1] at f1;simp [c_250,KeyMatch.ce,hp,f1]
 | true=>
 rw [q1] at f1;cases q2:fits m.mask w with
 | false=>rw [q2] at f2;simp [c_250,KeyMatch.ce,hp,f1,f2]
 | true=>
 rw [q2] at f2;by_cases z:iand .u32 m.value m.mask=m.value
 rotate_left
 ·have z':¬(m.value.toNat&&& m.mask.toNat=m.value.toNat):=fun h=>z (ha.2 h)
  simp [c_250,KeyMatch.ce,hp,f1,f2,z,z']
 have z':=ha.1 z;by_cases k1:kind=1
 ·subst k1;by_cases y:m.mask=qbe w
  ·rw [y] at hp f2 z z';simp [c_250,KeyMatch.ce,hp,f1,f2,z,z',hm,y]
  ·simp [c_250,KeyMatch.ce,hp,f1,f2,z,z',hm,y]
 by_cases k2:kind=2
 ·subst k2;cases y:plE m.mask w with
  | none=>rw [y] at hp;simp [c_250,KeyMatch.ce,f1,f2,z,z',hp]
  | some x=>rw [y] at hp;simp [c_250,KeyMatch.ce,f1,f2,z,z',hp]
 simp [c_250,KeyMatch.ce,hp,f1,f2,z,z',k1,k2]
structure EntS (x:Entry):Prop where
 kl:x.keys.length<2^40
 ks:∀m∈x.keys,ok32 0 m.value∧ok32 0 m.mask
 al:x.call.args.length<2^40
 ar:∀v∈x.call.args,ok32 0 v
def entF (p:Prg) (t:Int) (x:Entry):Int:=if x.priority<0 then 9 else if 255<x.priority then 9 else if x.priority≠0∧qgf p t≠3 then 11 else if tAl p t x.call.action=false then 8 else qdm p x.call
def entG (p:Prg) (tb:Tbl) (x:Entry) (i:Nat):Option Int:=match x.keys[i]?,tb.keys[i]? with
 | some m,some k=>if keyK m k.kind (wid p k.field.header k.field.field)=0 then none else some (keyK m k.kind (wid p k.field.header k.field.field))
 | _,_=>none
def entE (p:Prg) (t:Int) (x:Entry):Int:=if (tblE p t).2≠0 then (tblE p t).2 else match at? p.tables t with
 | some tb=>if x.keys.length≠tb.keys.length then 2 else (fe (entG p tb x) tb.keys.length 0).getD (entF p t x)
 | none=>0
theorem qacv (p:Prg) (f:PrgS p) (t:Int) (x:Entry) (s:EntS x) (e:Env) (n:Nat) (h1:look 1 e=some (.int .i64 t)) (h3:look 3 e=some (.iptr 9 [Prg.c p] 0 0)) (h5:look 5 e=some (.iptr 4 [Entry.c x] 0 0)):
  go Φ (finP [.tmp 6]) [.c c_86_k1] .normal ⟨e,⟨[],n⟩⟩=some (.val (.int .i64 (entF p t x))):=by
 have hk:=qabs p f t;have ha:=qok p f t x.call.action;have hc:=qmz p f x.call s.al;simp only [Prg.e,ActionCall.ce] at hk ha hc;rw [Prg.e] at h3;rw [Entry.ce] at h5;unfold entF;by_cases p0:x.priority<0
 ·simp [c_86_k1,h5,p0]
 by_cases p1:255<x.priority
 ·simp [c_86_k1,h5,p0,p1]
 by_cases p2:x.priority=0
 ·cases q:tAl p t x.call.action with
  | false=>rw [q] at ha;simp [c_86_k1,h1,h3,h5,p2,ha]
  | true=>rw [q] at ha;simp [c_86_k1,h1,h3,h5,p2,ha,hc]
 by_cases p3:qgf p t=3
 ·cases q:tAl p t x.call.action with
  | false=>rw [q] at ha;simp [c_86_k1,h1,h3,h5,p0,p1,p2,p3,hk,ha]
  | true=>rw [q] at ha;simp [c_86_k1,h1,h3,h5,p0,p1,p2,p3,hk,ha,hc]
 ·simp [c_86_k1,h1,h3,h5,p0,p1,p2,p3,hk]
theorem quf (p:Prg) (f:PrgS p) (t:Int) (x:Entry) (s:EntS x):qab Φ f_86 [.agg (Prg.c p),.int .i64 t,.agg (Entry.c x)]=some (.val (.int .i64 (entE p t x))):=by
 rw [qaa (fn:=c_86) rfl rfl];have h:=qpn p f t;simp only [Prg.e] at h;by_cases z:(tblE p t).2=0
 rotate_left
 ·simp [c_86,Prg.e,Entry.ce,h,z,entE]
 have q:tOk p t=true:=by simp [tOk,z]
 obtain ⟨k,hk,rfl,o⟩:=qhm q;have hw:=qwm p f k hk q;simp only [Prg.e] at hw;have hb:=o.keys;by_cases y:x.keys.length=p.tables[k].keys.length
 rotate_left
 ·simp [c_86,Prg.e,Entry.ce,Tbl.e,hk,h,z,hw,y,entE]
 have hE:entE p (k:Int) x=(fe (entG p p.tables[k] x) p.tables[k].keys.length 0).getD (entF p k x):=by simp [entE,z,hk,y]
 rw [hE];simp [c_86,Prg.e,Entry.ce,Tbl.e,hk,h,z,hw,y];refine qaw p.tables[k].keys.length (fun _=>[]) 0 (fun i e=>look 1 e=some (.int .i64 k)∧look 3 e=some (.iptr 9 [Prg.c p] 0 0)∧look 5 e=some (.iptr 4 [Entry.c x] 0 0)∧look 9 e=some (.slice 3 (p.tables[k].keys.map TableKey.c))∧look 10 e=some (.slice 1 ((kWid p p.tables[k]).map cI))∧look 39 e=some (.slice 2 (x.keys.map KeyMatch.c))∧look 40 e=some (.int .i64 p.tables[k].keys.length)∧look 41 e=some (.int .i64 i))
  (fun i=>some (Rt.val (.int .i64 ((fe (entG p p.tables[k] x) p.tables[k].keys.length i).getD (entF p k x))))) ?_ ?_ 0 _ 0 (Nat.zero_le _) (Nat.le_refl _) ?_
 ·rintro i e n L hi hL _ ⟨h1,h3,h5,h9,h10,h39,h40,h41⟩ ih;have hi2:i<x.keys.length:=by omega
  have hi3:i<(kWid p p.tables[k]).length:=by simp [kWid];exact hi
  have hkw:(kWid p p.tables[k])[i]=wid p p.tables[k].keys[i].field.header p.tables[k].keys[i].field.field:=by simp [kWid]
  have hw:IntKind.wrap .i64 ((i:Int)+1)=((i+1:Nat):Int):=qac (by omega) (by omega);have hm:=s.ks _ (List.getElem_mem hi2);have hc:=qacu x.keys[i] p.tables[k].keys[i].kind (wid p p.tables[k].keys[i].field.header p.tables[k].keys[i].field.field) hm.1 hm.2;simp only [KeyMatch.ce] at hc;by_cases v:keyK x.keys[i] p.tables[k].keys[i].kind (wid p p.tables[k].keys[i].field.header p.tables[k].keys[i].field.field)=0
  ·rw [qap hi (by simp [entG,hi,hi2,v])];rw [v] at hc;generalize hX:some (Rt.val (AV.int .i64 ((fe (entG p p.tables[k] x) p.tables[k].keys.length (i+1)).getD (entF p k x))))=X;simp [c_86_l0,TableKey.e,KeyMatch.ce,cI,h9,h10,h39,h40,h41,hi,hi2,hi3,hkw,hc,hw];rw [← hX];exact ih _ _ (Nat.zero_le _) ⟨by simp [h1],by simp [h3],by simp [h5],by simp [h9],by simp [h10],by simp [h39],by simp [h40],by simp⟩
  ·rw [qai (x:=keyK x.keys[i] p.tables[k].keys[i].kind (wid p p.tables[k].keys[i].field.header p.tables[k].keys[i].field.field)) hi (by simp [entG,hi,hi2,v])];simp [c_86_l0,TableKey.e,KeyMatch.ce,cI,h9,h10,h39,h40,h41,hi,hi2,hi3,hkw,hc,v]
 ·rintro e n L hL _ ⟨h1,h3,h5,h9,h10,h39,h40,h41⟩;rw [qa0];simp [c_86_l0,h40,h41,hL];exact qacv p f k x s _ _ (by simp [h1]) (by simp [h3]) (by simp [h5])
 ·simp [Prg.e,Entry.ce]
theorem qaaq (p:Prg) (f:PrgS p) (hv:∀t∈p.tables,∀v∈t.dflt.args,ok32 0 v) (t:Int) (x:Entry) (s:EntS x) (e:Env) (n:Nat) (h1:look 1 e=some (.int .i64 t)) (h3:look 3 e=some (.iptr 9 [Prg.c p] 0 0)) (h5:look 5 e=some (.iptr 4 [Entry.c x] 0 0)):
  go Φ (finP [.tmp 6]) [.c c_153_k1] .normal ⟨e,⟨[],n⟩⟩=some (.val (.int .i64 (entF p t x))):=by
 have hk:=qaav p f hv t;have ha:=qn8 p f hv t x.call.action;have hc:=qlh p f x.call s.al s.ar;simp only [Prg.e,ActionCall.ce] at hk ha hc;rw [Prg.e] at h3;rw [Entry.ce] at h5;unfold entF;by_cases p0:x.priority<0
 ·simp [c_153_k1,h5,p0]
 by_cases p1:255<x.priority
 ·simp [c_153_k1,h5,p0,p1]
 by_cases p2:x.priority=0
 ·cases q:tAl p t x.call.action with
  | false=>rw [q] at ha;simp [c_153_k1,h1,h3,h5,p2,ha]
  | true=>rw [q] at ha;simp [c_153_k1,h1,h3,h5,p2,ha,hc]
 have p4:0<x.priority:=by omega
 by_cases p3:qgf p t=3
 ·cases q:tAl p t x.call.action with
  | false=>rw [q] at ha;simp [c_153_k1,h1,h3,h5,p0,p1,p2,p3,p4,hk,ha]
  | true=>rw [q] at ha;simp [c_153_k1,h1,h3,h5,p0,p1,p2,p3,p4,hk,ha,hc]
 ·simp [c_153_k1,h1,h3,h5,p0,p1,p2,p3,p4,hk]
theorem qss (p:Prg) (f:PrgS p) (hv:∀t∈p.tables,∀v∈t.dflt.args,ok32 0 v) (t:Int) (x:Entry) (s:EntS x):qab Φ f_153 [.agg (Prg.c p),.int .i64 t,.agg (Entry.c x)]=some (.val (.int .i64 (entE p t x))):=by
 rw [qaa (fn:=c_153) rfl rfl];have h:=qnc p f hv t;simp only [Prg.e] at h;by_cases z:(tblE p t).2=0
 rotate_left
 ·simp [c_153,Prg.e,Entry.ce,h,z,entE]
 have q:tOk p t=true:=by simp [tOk,z]
 obtain ⟨k,hk,rfl,o⟩:=qhm q;have hw:=qv9 p f hv k hk q;simp only [Prg.e] at hw;have hb:=o.keys;have hkl:(kWid p p.tables[k]).length=p.tables[k].keys.length:=by simp [kWid]
 by_cases y:x.keys.length=p.tables[k].keys.length
 rotate_left
 ·simp [c_153,Prg.e,Entry.ce,hk,h,z,hw,y,hkl,entE]
 have hE:entE p (k:Int) x=(fe (entG p p.tables[k] x) p.tables[k].keys.length 0).getD (entF p k x):=by simp [entE,z,hk,y]
 rw [hE];simp [c_153,Prg.e,Entry.ce,h,z,hw,y,hkl];refine qaw p.tables[k].keys.length (fun _=>[]) 0 (fun i e=>look 1 e=some (.int .i64 k)∧look 3 e=some (.iptr 9 [Prg.c p] 0 0)∧look 5 e=some (.iptr 4 [Entry.c x] 0 0)∧look 9 e=some (.slice 1 ((kWid p p.tables[k]).map cI))∧look 10 e=some (.int .i64 i))
  (fun i=>some (Rt.val (.int .i64 ((fe (entG p p.tables[k] x) p.tables[k].keys.length i).getD (entF p k x))))) ?_ ?_ 0 _ 0 (Nat.zero_le _) (Nat.le_refl _) ?_
 ·rintro i e n L hi hL _ ⟨h1,h3,h5,h9,h10⟩ ih;have hi2:i<x.keys.length:=by omega
  have hi3:i<(kWid p p.tables[k]).length:=by omega
  have hkw:(kWid p p.tables[k])[i]=wid p p.tables[k].keys[i].field.header p.tables[k].keys[i].field.field:=by simp [kWid]
  have hw:IntKind.wrap .i64 ((i:Int)+1)=((i+1:Nat):Int):=qac (by omega) (by omega);have hm:=s.ks _ (List.getElem_mem hi2);have hc:=qael x.keys[i] p.tables[k].keys[i].kind (wid p p.tables[k].keys[i].field.header p.tables[k].keys[i].field.field) hm.1 hm.2;simp only [KeyMatch.ce] at hc;rw [Prg.e] at h3;rw [Entry.ce] at h5;by_cases v:keyK x.keys[i] p.tables[k].keys[i].kind (wid p p.tables[k].keys[i].field.header p.tables[k].keys[i].field.field)=0
  ·rw [qap hi (by simp [entG,hi,hi2,v])];rw [v] at hc;generalize hX:some (Rt.val (AV.int .i64 ((fe (entG p p.tables[k] x) p.tables[k].keys.length (i+1)).getD (entF p k x))))=X;simp [c_153_l0,TableKey.e,Tbl.e,KeyMatch.ce,cI,h1,h3,h5,h9,h10,hk,hkl,hi,hi2,hkw,hc,hw];rw [← hX];exact ih _ _ (Nat.zero_le _) ⟨by simp [h1],by simp [h3,Prg.e],by simp [h5,Entry.ce],by simp [h9],by simp⟩
  ·rw [qai (x:=keyK x.keys[i] p.tables[k].keys[i].kind (wid p p.tables[k].keys[i].field.header p.tables[k].keys[i].field.field)) hi (by simp [entG,hi,hi2,v])];simp [c_153_l0,TableKey.e,Tbl.e,KeyMatch.ce,cI,h1,h3,h5,h9,h10,hk,hkl,hi,hi2,hkw,hc,v]
 ·rintro e n L hL _ ⟨h1,h3,h5,h9,h10⟩;rw [qa0];simp [c_153_l0,h9,h10,hkl,hL];exact qaaq p f hv k x s _ _ (by simp [h1]) (by simp [h3]) (by simp [h5])
 ·simp [Prg.e,Entry.ce]
def qba (p:Prg) (t:Int) (c:ActionCall):Int:=if tAl p t c.action=false then 8 else qdm p c
theorem qnd (p:Prg) (f:PrgS p) (t:Int) (c:ActionCall) (hc:c.args.length<2^40):qab Φ f_92 [.agg (Prg.c p),.int .i64 t,.agg (ActionCall.c c)]=some (.val (.int .i64 (qba p t c))):=by
 rw [qaa (fn:=c_92) rfl rfl];have ha:=qok p f t c.action;have hk:=qmz p f c hc;simp only [Prg.e,ActionCall.ce] at ha hk;cases q:tAl p t c.action with
 | false=>rw [q] at ha;simp [c_92,Prg.e,ActionCall.ce,ha,qba,q]
 | true=>rw [q] at ha;simp [c_92,Prg.e,ActionCall.ce,ha,hk,qba,q]
theorem qna (p:Prg) (f:PrgS p) (hv:∀t∈p.tables,∀v∈t.dflt.args,ok32 0 v) (t:Int) (c:ActionCall) (hc:c.args.length<2^40) (hr:∀v∈c.args,ok32 0 v):qab Φ f_68 [.agg (Prg.c p),.int .i64 t,.agg (ActionCall.c c)]=some (.val (.int .i64 (qba p t c))):=by
 rw [qaa (fn:=c_68) rfl rfl];have ha:=qn8 p f hv t c.action;have hk:=qlh p f c hc hr;simp only [Prg.e,ActionCall.ce] at ha hk;cases q:tAl p t c.action with
 | false=>rw [q] at ha;simp [c_68,Prg.e,ActionCall.ce,ha,qba,q]
 | true=>rw [q] at ha;simp [c_68,Prg.e,ActionCall.ce,ha,hk,qba,q]
def sk (x y:Entry):Bool:=decide (x.keys=y.keys∧x.priority=y.priority)
theorem qxe (x y:Entry) (hb:x.keys.length<2^40):qab Φ f_89 [.agg [.slice 2 (x.keys.map KeyMatch.c),.int .i64 x.priority,.int .i64 x.call.action,.slice 1 (x.call.args.map c32)],.agg [.slice 2 (y.keys.map KeyMatch.c),.int .i64 y.priority,.int .i64 y.call.action,.slice 1 (y.call.args.map c32)]]=some (.val (.bool (sk x y))):=qtq _ _ _ _ _ _ hb
theorem qahp (x y:Entry) (hb:x.keys.length<2^40):qab Φ f_85 [.agg [.slice 2 (x.keys.map KeyMatch.c),.int .i64 x.priority,.int .i64 x.call.action,.slice 1 (x.call.args.map c32)],.agg [.slice 2 (y.keys.map KeyMatch.c),.int .i64 y.priority,.int .i64 y.call.action,.slice 1 (y.call.args.map c32)]]=some (.val (.bool (sk x y))):=qhs _ _ _ _ _ _ hb
theorem qaf1 (x r:Rw) (hb:x.entry.keys.length<2^40):qab Φ f_150 [.agg (Rw.c x),.iptr 5 [Rw.c r] 0 0]=some (.val (.bool (sk x.entry r.entry))):=by
 rw [qaa (fn:=c_150) rfl rfl];have h:=qxe x.entry r.entry hb;simp [c_150,Rw.ce,h]
theorem qxu (l:List Rw) (r:Rw) (hl:l.length<2^40) (hs:∀x∈l,x.entry.keys.length<2^40):qab Φ f_181 [.slice 5 (l.map Rw.c),.func (.func f_150) [] [.iptr 5 [Rw.c r] 0 0]]=some (.val (.int .i64 (ix (fun x=>sk x.entry r.entry) l 0))):=by
 rw [qaa (fn:=c_181) rfl rfl];simp [c_181];refine (qao l.length (fun i e=>look 0 e=some (.slice 5 (l.map Rw.c))∧look 1 e=some (.func (.func f_150) [] [.iptr 5 [Rw.c r] 0 0])∧look 7 e=some (.int .i64 l.length)∧look 8 e=some (.int .i64 i))
  (fun i=>some (.val (.int .i64 (ix (fun x=>sk x.entry r.entry) l i)))) ?_ ?_ 0 _ (Nat.zero_le _) ?_).trans (by simp)
 ·rintro i e L hi hL ⟨h0,h1,h7,h8⟩ ih;have hw:IntKind.wrap .i64 ((i:Int)+1)=((i+1:Nat):Int):=qac (by omega) (by omega);have hd:=qaf1 l[i] r (hs _ (List.getElem_mem hi));simp only [Rw.ce] at hd h1;cases z:sk l[i].entry r.entry with
  | true=>
   rw [qgb hi (by simpa using z)];rw [z] at hd;simp [c_181_l0,Rw.ce,h0,h1,h7,h8,hi,hd]
  | false=>
   rw [qe7 hi (by simpa using z)];rw [z] at hd;simp [c_181_l0,Rw.ce,h0,h1,h7,h8,hi,hd,hw];exact ih _ ⟨by simp [h0],by simp [h1,Rw.ce],by simp [h7],by simp⟩
 ·rintro e L hL ⟨h0,h1,h7,h8⟩;rw [qga];simp [c_181_l0,c_181_k1,h7,h8,hL]
 ·simp
theorem qw9 (l:List Rw) (r:Rw) (hl:l.length<2^40) (hs:∀x∈l,x.entry.keys.length<2^40):qab Φ f_87 [.slice 5 (l.map Rw.c),.func (.func f_150) [] [.iptr 5 [Rw.c r] 0 0]]=some (.val (.bool (l.any fun x=>sk x.entry r.entry))):=by
 rw [qaa (fn:=c_87) rfl rfl];have h:=qxu l r hl hs;rw [← qid];simp [c_87,h]
theorem qta (l:List Rw) (x:Entry) (hl:l.length<2^40) (hs:∀x∈l,x.entry.keys.length<2^40):qab Φ f_154 [.slice 5 (l.map Rw.c),.agg (Entry.c x)]=some (.val (.bool (l.any fun y=>sk y.entry x))):=by
 rw [qaa (fn:=c_154) rfl rfl];generalize hY:some (Rt.val (AV.bool (l.any fun y=>sk y.entry x)))=Y;simp [c_154,Entry.ce];rw [show Y=some (Rt.val (AV.bool ((l.drop 0).any fun y=>sk y.entry x))) by rw [← hY];simp];refine qao l.length (fun i e=>look 0 e=some (.slice 5 (l.map Rw.c))∧look 3 e=some (.iptr 4 [Entry.c x] 0 0)∧look 5 e=some (.int .i64 i))
  (fun i=>some (Rt.val (.bool ((l.drop i).any fun y=>sk y.entry x)))) ?_ ?_ 0 _ (Nat.zero_le _) ?_
 ·rintro i e L hi hL ⟨h0,h3,h5⟩ ih;have hw:IntKind.wrap .i64 ((i:Int)+1)=((i+1:Nat):Int):=qac (by omega) (by omega);have hd:=qahp l[i].entry x (hs _ (List.getElem_mem hi));rw [Entry.ce] at h3;rw [List.drop_eq_getElem_cons hi,List.any_cons];cases z:sk l[i].entry x with
  | true=>
   rw [z] at hd;rw [Bool.true_or];simp [c_154_l0,Rw.ce,h0,h3,h5,hi,hd]
  | false=>
   rw [z] at hd;rw [Bool.false_or];generalize hX:some (Rt.val (AV.bool ((l.drop (i+1)).any fun y=>sk y.entry x)))=X;simp [c_154_l0,Rw.ce,h0,h3,h5,hi,hd,hw];rw [← hX];exact ih _ ⟨by simp [h0],by simp [h3,Entry.ce],by simp⟩
 ·rintro e L hL ⟨h0,h3,h5⟩;simp [c_154_l0,c_154_k1,h0,h5,hL]
 ·simp [Entry.ce]
def ordL:List Rw→Int→Option Int
 | [],a=>some a
 | r::l,a=>if r.id≤a then none else ordL l r.id
def rowG (p:Prg) (t:Int) (l:List Rw) (i:Nat):Option Int:=(l[i]?).bind fun r=>if entE p t r.entry≠0 then some (entE p t r.entry) else if (l.take i).any (fun y=>sk y.entry r.entry)=true then some 7 else none
def tabK (p:Prg) (t:Int) (l:List Rw) (next:Int) (z:Int):Option Int→Int
 | none=>14
 | some a=>if next≤a then 14 else if 1073741824<next then 14 else (fe (rowG p t l) l.length 0).getD z
def rowS (r:Rw):Prop:=EntS r.entry
theorem ct_b (p:Prg) (f:PrgS p) (t:Int) (l:List Rw) (next:Int) (d:ActionCall) (hl:l.length<2^40) (hs:∀r∈l,rowS r) (hd:d.args.length<2^40) (a:Int) (ha:0≤a) (e:Env) (n:Nat)
  (h1:look 1 e=some (.int .i64 t)) (h2:look 2 e=some (.slice 5 (l.map Rw.c))) (h3:look 3 e=some (.int .i64 next)) (h5:look 5 e=some (.iptr 9 [Prg.c p] 0 0)) (h9:look 9 e=some (.iptr 2 [ActionCall.c d] 0 0)) (h11:look 11 e=some (.int .i64 a)):
  go Φ (finP [.tmp 10]) [.c c_64_k3] .normal ⟨e,⟨[],n⟩⟩=some (.val (.int .i64 (tabK p t l next (qba p t d) (some a)))):=by
 unfold tabK;dsimp only;by_cases z0:next≤a
 ·simp [c_64_k3,h3,h11,z0]
 have z1:¬next<1:=by omega
 by_cases z2:1073741824<next
 ·simp [c_64_k3,h3,h11,z0,z1,z2]
 rw [if_neg z0,if_neg z2];simp [c_64_k3,h2,h3,h11,z0,z1,z2];refine qaw l.length (fun _=>[]) 0 (fun i e=>look 1 e=some (.int .i64 t)∧look 2 e=some (.slice 5 (l.map Rw.c))∧look 5 e=some (.iptr 9 [Prg.c p] 0 0)∧look 9 e=some (.iptr 2 [ActionCall.c d] 0 0)∧look 50 e=some (.slice 5 (l.map Rw.c))∧look 51 e=some (.int .i64 l.length)∧look 52 e=some (.int .i64 i))
  (fun i=>some (Rt.val (.int .i64 ((fe (rowG p t l) l.length i).getD (qba p t d))))) ?_ ?_ 0 _ n (Nat.zero_le _) (Nat.zero_le _) ?_
 ·rintro i e n L hi hL _ ⟨h1,h2,h5,h9,h50,h51,h52⟩ ih;have hw:IntKind.wrap .i64 ((i:Int)+1)=((i+1:Nat):Int):=qac (by omega) (by omega);have hm:=hs _ (List.getElem_mem hi);have hc:=quf p f t l[i].entry hm;have hi':i≤l.length:=by omega
  have hx:qab Φ f_87 [.slice 5 ((l.map Rw.c).take i),.func (.func f_150) [] [.iptr 5 [Rw.c l[i]] 0 0]]=some (.val (.bool ((l.take i).any fun x=>sk x.entry l[i].entry))):=by
   rw [← List.map_take];exact qw9 (l.take i) l[i] (by simp;omega) fun x hx=>(hs x (List.mem_of_mem_take hx)).kl
  simp only [Prg.e,Entry.ce] at hc;rw [Rw.ce] at hx;rw [Prg.e] at h5;by_cases v:entE p t l[i].entry=0
  ·rw [v] at hc;cases w:(l.take i).any fun x=>sk x.entry l[i].entry with
   | true=>
    rw [w] at hx;rw [qai (x:=(7:Int)) hi (by simp only [rowG,List.getElem?_eq_getElem hi,Option.bind_some];rw [if_neg (by simp [v]),if_pos w])];simp [c_64_l1,Rw.ce,h1,h2,h5,h50,h51,h52,hi,hi',hc,hx]
   | false=>
    rw [w] at hx;rw [qap hi (by simp only [rowG,List.getElem?_eq_getElem hi,Option.bind_some];rw [if_neg (by simp [v]),if_neg (by rw [w];decide)])];generalize hX:some (Rt.val (AV.int .i64 ((fe (rowG p t l) l.length (i+1)).getD (qba p t d))))=X;simp [c_64_l1,Rw.ce,h1,h2,h5,h50,h51,h52,hi,hi',hc,hx,hw];rw [← hX];exact ih _ _ (Nat.zero_le _) ⟨by simp [h1],by simp [h2],by simp [h5,Prg.e],by simp [h9],by simp [h50],by simp [h51],by simp⟩
  ·rw [qai (x:=entE p t l[i].entry) hi (by simp only [rowG,List.getElem?_eq_getElem hi,Option.bind_some];rw [if_pos v])];simp [c_64_l1,Rw.ce,h1,h5,h50,h51,h52,hi,hc,v]
 ·rintro e n L hL _ ⟨h1,h2,h5,h9,h50,h51,h52⟩;have hk:=qnd p f t d hd;simp only [Prg.e,ActionCall.ce] at hk;rw [Prg.e] at h5;rw [ActionCall.ce] at h9;rw [qa0];simp [c_64_l1,c_64_k2,h1,h5,h9,h51,h52,hL,hk]
 ·simp [h1,h2,h5,h9]
theorem qacp (p:Prg) (f:PrgS p) (k:Nat) (hk:k<p.tables.length) (l:List Rw) (next:Int) (d:ActionCall) (hl:l.length<2^40) (hs:∀r∈l,rowS r) (hd:d.args.length<2^40):
  qab Φ f_64 [.agg (Prg.c p),.int .i64 k,.slice 5 (l.map Rw.c),.int .i64 next,.agg (ActionCall.c d)]=some (.val (.int .i64 (if p.tables[k].size<l.length then 12 else tabK p k l next (qba p k d) (ordL l 0)))):=by
 rw [qaa (fn:=c_64) rfl rfl];by_cases z:p.tables[k].size<(l.length:Int)
 ·simp [c_64,Prg.e,ActionCall.ce,Tbl.e,hk,z]
 rw [if_neg z];simp [c_64,Prg.e,ActionCall.ce,Tbl.e,hk,z];refine qaw l.length (fun _=>[]) 0 (fun i e=>look 1 e=some (.int .i64 k)∧look 2 e=some (.slice 5 (l.map Rw.c))∧look 3 e=some (.int .i64 next)∧look 5 e=some (.iptr 9 [Prg.c p] 0 0)∧look 9 e=some (.iptr 2 [ActionCall.c d] 0 0)∧look 26 e=some (.slice 5 (l.map Rw.c))∧look 27 e=some (.int .i64 l.length)∧look 28 e=some (.int .i64 i)∧∃a:Int,look 11 e=some (.int .i64 a)∧0≤a∧ordL (l.drop i) a=ordL l 0)
  (fun _=>some (Rt.val (.int .i64 (tabK p k l next (qba p k d) (ordL l 0))))) ?_ ?_ 0 _ 0 (Nat.zero_le _) (Nat.zero_le _) ?_
 ·rintro i e n L hi hL _ ⟨h1,h2,h3,h5,h9,h26,h27,h28,a,h11,ha,ho⟩ ih;have hw:IntKind.wrap .i64 ((i:Int)+1)=((i+1:Nat):Int):=qac (by omega) (by omega);rw [List.drop_eq_getElem_cons hi] at ho;simp only [ordL] at ho;by_cases y:l[i].id≤a
  ·rw [if_pos y] at ho;rw [← ho];simp [c_64_l0,Rw.ce,h26,h27,h28,h11,hi,y,tabK]
  ·rw [if_neg y] at ho;generalize hX:some (Rt.val (AV.int .i64 (tabK p k l next (qba p k d) (ordL l 0))))=X;simp [c_64_l0,Rw.ce,h26,h27,h28,h11,hi,y,hw];rw [← hX];exact ih _ _ (Nat.zero_le _) ⟨by simp [h1],by simp [h2],by simp [h3],by simp [h5],by simp [h9],by simp [h26],by simp [h27],by simp,l[i].id,by simp,by omega,ho⟩
 ·rintro e n L hL _ ⟨h1,h2,h3,h5,h9,h26,h27,h28,a,h11,ha,ho⟩;rw [List.drop_length] at ho;simp only [ordL] at ho;rw [← ho];generalize hX:some (Rt.val (AV.int .i64 (tabK p k l next (qba p k d) (some a))))=X;simp [c_64_l0,h27,h28,hL];rw [← hX];exact ct_b p f k l next d hl hs hd a ha _ _ (by simp [h1]) (by simp [h2]) (by simp [h3]) (by simp [h5]) (by simp [h9]) (by simp [h11])
 ·simp [Prg.e,ActionCall.ce]
theorem rt_b (p:Prg) (f:PrgS p) (hv:∀t∈p.tables,∀v∈t.dflt.args,ok32 0 v) (t:Int) (l:List Rw) (next:Int) (hl:l.length<2^40) (hs:∀r∈l,rowS r) (a:Int) (e:Env) (n:Nat)
  (h1:look 1 e=some (.int .i64 t)) (h2:look 2 e=some (.slice 5 (l.map Rw.c))) (h3:look 3 e=some (.int .i64 next)) (h4:look 4 e=some (.iptr 9 [Prg.c p] 0 0)) (h9:look 9 e=some (.int .i64 a)):
  go Φ (finP [.tmp 8]) [.c c_67_k3] .normal ⟨e,⟨[],n⟩⟩=some (.val (.int .i64 (tabK p t l next 0 (some a)))):=by
 unfold tabK;dsimp only;by_cases z0:next≤a
 ·simp [c_67_k3,h3,h9,z0]
 by_cases z2:1073741824<next
 ·simp [c_67_k3,h3,h9,z0,z2]
 rw [if_neg z0,if_neg z2];simp [c_67_k3,h3,h9,z0,z2];refine qaw l.length (fun _=>[]) 0 (fun i e=>look 1 e=some (.int .i64 t)∧look 2 e=some (.slice 5 (l.map Rw.c))∧look 4 e=some (.iptr 9 [Prg.c p] 0 0)∧look 11 e=some (.int .i64 i))
  (fun i=>some (Rt.val (.int .i64 ((fe (rowG p t l) l.length i).getD 0)))) ?_ ?_ 0 _ n (Nat.zero_le _) (Nat.zero_le _) ?_
 ·rintro i e n L hi hL _ ⟨h1,h2,h4,h11⟩ ih;have hw:IntKind.wrap .i64 ((i:Int)+1)=((i+1:Nat):Int):=qac (by omega) (by omega);have hm:=hs _ (List.getElem_mem hi);have hc:=qss p f hv t l[i].entry hm;have hi':i≤l.length:=by omega
  have hx:qab Φ f_154 [.slice 5 ((l.map Rw.c).take i),.agg (Entry.c l[i].entry)]=some (.val (.bool ((l.take i).any fun x=>sk x.entry l[i].entry))):=by
   rw [← List.map_take];exact qta (l.take i) l[i].entry (by simp;omega) fun x hx=>(hs x (List.mem_of_mem_take hx)).kl
  simp only [Prg.e,Entry.ce] at hc;rw [Entry.ce] at hx;rw [Prg.e] at h4;by_cases v:entE p t l[i].entry=0
  ·rw [v] at hc;cases w:(l.take i).any fun x=>sk x.entry l[i].entry with
   | true=>
    rw [w] at hx;rw [qai (x:=(7:Int)) hi (by simp only [rowG,List.getElem?_eq_getElem hi,Option.bind_some];rw [if_neg (by simp [v]),if_pos w])];simp [c_67_l1,Rw.ce,h1,h2,h4,h11,hi,hi',hc,hx]
   | false=>
    rw [w] at hx;rw [qap hi (by simp only [rowG,List.getElem?_eq_getElem hi,Option.bind_some];rw [if_neg (by simp [v]),if_neg (by rw [w];decide)])];generalize hX:some (Rt.val (AV.int .i64 ((fe (rowG p t l) l.length (i+1)).getD 0)))=X;simp [c_67_l1,Rw.ce,h1,h2,h4,h11,hi,hi',hc,hx,hw];rw [← hX];exact ih _ _ (Nat.zero_le _) ⟨by simp [h1],by simp [h2],by simp [h4,Prg.e],by simp⟩
  ·rw [qai (x:=entE p t l[i].entry) hi (by simp only [rowG,List.getElem?_eq_getElem hi,Option.bind_some];rw [if_pos v])];simp [c_67_l1,Rw.ce,h1,h2,h4,h11,hi,hc,v]
 ·rintro e n L hL _ ⟨h1,h2,h4,h11⟩;rw [qa0];simp [c_67_l1,c_67_k2,h2,h11,hL]
 ·simp [h1,h2,h4]
theorem qaa3 (p:Prg) (f:PrgS p) (hv:∀t∈p.tables,∀v∈t.dflt.args,ok32 0 v) (k:Nat) (hk:k<p.tables.length) (l:List Rw) (next:Int) (hl:l.length<2^40) (hs:∀r∈l,rowS r):
  qab Φ f_67 [.agg (Prg.c p),.int .i64 k,.slice 5 (l.map Rw.c),.int .i64 next]=some (.val (.int .i64 (if p.tables[k].size<l.length then 12 else tabK p k l next 0 (ordL l 0)))):=by
 rw [qaa (fn:=c_67) rfl rfl];by_cases z:p.tables[k].size<(l.length:Int)
 ·simp [c_67,Prg.e,Tbl.e,hk,z]
 rw [if_neg z];simp [c_67,Prg.e,Tbl.e,hk,z];refine qaw l.length (fun _=>[]) 0 (fun i e=>look 1 e=some (.int .i64 k)∧look 2 e=some (.slice 5 (l.map Rw.c))∧look 3 e=some (.int .i64 next)∧look 4 e=some (.iptr 9 [Prg.c p] 0 0)∧look 10 e=some (.int .i64 i)∧∃a:Int,look 9 e=some (.int .i64 a)∧ordL (l.drop i) a=ordL l 0)
  (fun _=>some (Rt.val (.int .i64 (tabK p k l next 0 (ordL l 0))))) ?_ ?_ 0 _ 0 (Nat.zero_le _) (Nat.zero_le _) ?_
 ·rintro i e n L hi hL _ ⟨h1,h2,h3,h4,h10,a,h9,ho⟩ ih;have hw:IntKind.wrap .i64 ((i:Int)+1)=((i+1:Nat):Int):=qac (by omega) (by omega);rw [List.drop_eq_getElem_cons hi] at ho;simp only [ordL] at ho;by_cases y:l[i].id≤a
  ·rw [if_pos y] at ho;rw [← ho];simp [c_67_l0,Rw.ce,h2,h10,h9,hi,y,tabK]
  ·rw [if_neg y] at ho;generalize hX:some (Rt.val (AV.int .i64 (tabK p k l next 0 (ordL l 0))))=X;simp [c_67_l0,Rw.ce,h2,h10,h9,hi,y,hw];rw [← hX];exact ih _ _ (Nat.zero_le _) ⟨by simp [h1],by simp [h2],by simp [h3],by simp [h4],by simp,l[i].id,by simp,ho⟩
 ·rintro e n L hL _ ⟨h1,h2,h3,h4,h10,a,h9,ho⟩;rw [List.drop_length] at ho;simp only [ordL] at ho;rw [← ho];generalize hX:some (Rt.val (AV.int .i64 (tabK p k l next 0 (some a))))=X;simp [c_67_l0,h2,h10,hL];rw [← hX];exact rt_b p f hv k l next hl hs a _ _ (by simp [h1]) (by simp [h2]) (by simp [h3]) (by simp [h4]) (by simp [h9])
 ·simp [Prg.e]
end Go.Av
