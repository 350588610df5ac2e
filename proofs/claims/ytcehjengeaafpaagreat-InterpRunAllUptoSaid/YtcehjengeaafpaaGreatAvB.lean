/-
  An abstract interpreter over the model, proved sound: part B.
-/
import Derived.Test.YtcehjengeaafpaaGreatAvA
set_option linter.all false
namespace Go.Av
section
variable {F:Nat->Nat->Prop} {B0:Nat} {w:World} {I:Beta} {H:AH} {P:Program}
theorem rm {n:Int} (h0:0<=n) (h1:n<2^62):IntKind.i64.wrap n=n:=by
 have e1:IntKind.i64.bits=64:=rfl;have e2:IntKind.i64.signed=true:=rfl;simp only [IntKind.wrap,e1,e2];rw [EZ h0 (by omega)];simp;omega
theorem WQ (W:World) {t e:TypeId} {n:Nat} {q q':IntKind} {l c:Int} {zv:Value}
  (hu:P.underlying t=some (.slice e)) (hn:szOf P e=some n) (hz:(zeroValue e).run P W= .ok zv W)
  (h0:0<=l) (h1:l<=c) (h2:c<2^62) (h3:c*P.bytesOf e<=2^47):
  ∃cells,(Instr.makeSlice t (.int q l) (.int q' c)).run P W= .ok (.slice (some ⟨W.heap.size,0,none⟩) l.toNat c.toNat) (W.alloc (.cells cells e))/\
   (cells=((Array.range (c.toNat*n)).map (zv.cells[· % zv.cells.size]!))\/(c.toNat*n=0/\cells= #[])):=by
 obtain ⟨i,hi,hin⟩:=MV hn;have hb:P.bytesOf e=i.bytes:=by simp [Program.bytesOf,hi]
 rw [hb] at h3;have w1:=rm h0 (by omega);have w2:=rm (n:=c) (by omega) h2;have t1:¬(281474976710656<(i.bytes:Int)*c):=by rw [Int.mul_comm];omega
 have t2:¬c<0:=by omega
 have t3:¬l<0:=by omega
 have t4:¬c<l:=by omega
 by_cases hc:c.toNat*n=0
 ·refine ⟨#[],?_,.inr ⟨hc,rfl⟩⟩;have hr:(Array.range 0).map (fun _=>(default:Value))= #[]:=by simp
  simp [Instr.makeSlice,Go.asInt,b9 W hu,JH,U3 W hi,w1,w2,t1,t2,t3,t4,uJ W hn,hc,newRow];rw [hr]
 ·refine ⟨_,?_,.inl rfl⟩;simp [Instr.makeSlice,Go.asInt,b9 W hu,JH,U3 W hi,w1,w2,t1,t2,t3,t4,uJ W hn,hc,hz,newRow]
theorem VS (hr:HR F B0 w I H) {w':World} {id:Nat} {ob ob':AO} {b o:Nat} (hget:H.get id=some ob) (hb:I id=some (b,o)) (he:Ext (Mut I H) w w')
  (hm:∀i,Past ob' o i->Past ob o i)
  (hk:(∃z es es',ob= .row z es/\ob'= .row z es'/\es.length=es'.length)\/(∃es es',ob= .map es/\ob'= .map es')\/(∃z f f',ob= .tok z f/\ob'= .tok z f'/\f<=f')):
  Tr w I H w' I (H.set id ob'):=by
 refine ⟨he,?_,fun _ hk'=>MT (by rcases hk with ⟨_,_,_,_,rfl,_⟩ | ⟨_,_,_,rfl⟩ | ⟨_,_,_,_,rfl,_⟩<;>simp) hk',?_,?_,?_⟩
 ·rintro b' i ⟨id',ob2,o',h1,h2,h3⟩;rw [AH.get_set] at h1;by_cases e:id=id'
  ·subst e;rw [a9 rfl,hget] at h1;simp at h1;subst h1;rw [hb] at h2;cases h2;exact .inl ⟨id,ob,o,hget,hb,hm i h3⟩
  ·rw [QA e] at h1;exact .inl ⟨id',ob2,o',h1,h2,h3⟩
 ·intro id' z es hid h;rw [AH.get_set] at h;by_cases e:id=id'
  ·subst e;rw [a9 rfl,hget] at h;simp at h;rcases hk with ⟨z1,e1,e1',rfl,rfl,hll⟩ | ⟨e1,e1',rfl,rfl⟩ | ⟨z1,f,f',rfl,rfl,_⟩
   ·cases h;exact ⟨⟨e1,hget,hll⟩,rfl⟩
   ·cases h
   ·cases h
  ·rw [QA e] at h;exact ⟨⟨es,h,rfl⟩,rfl⟩
 ·intro id' es hid h;rw [AH.get_set] at h;by_cases e:id=id'
  ·subst e;rw [a9 rfl,hget] at h;simp at h;rcases hk with ⟨z1,e1,e1',rfl,rfl,hll⟩ | ⟨e1,e1',rfl,rfl⟩ | ⟨z1,f,f',rfl,rfl,_⟩
   ·cases h
   ·cases h;exact ⟨⟨e1,hget⟩,rfl⟩
   ·cases h
  ·rw [QA e] at h;exact ⟨⟨es,h⟩,rfl⟩
 ·intro t z f hid h;rw [AH.get_set] at h;by_cases e:id=t
  ·subst e;rw [a9 rfl,hget] at h;simp at h;rcases hk with ⟨z1,e1,e1',rfl,rfl,hll⟩ | ⟨e1,e1',rfl,rfl⟩ | ⟨z1,f1,f',rfl,rfl,hle⟩
   ·cases h
   ·cases h
   ·cases h;exact ⟨f1,hget,hle,fun _=>rfl⟩
  ·rw [QA e] at h;exact ⟨f,h,Qb _,fun _=>rfl⟩
theorem VX (hr:HR F B0 w I H) {w':World} {id:Nat} {ob ob':AO} {b o:Nat} (hget:H.get id=some ob) (hb:I id=some (b,o))
  (ht:Tr w I H w' I (H.set id ob')) (hs:∀k,k<w.heap.size->k≠b->w'.heap[k]? =w.heap[k]?) (hob:ObjR F B0 w' I (H.set id ob') id ob'):
  HR F B0 w' I (H.set id ob'):=by
 refine ⟨wB hr.base ht.ext.size,hr.far,SB _ _ _ hr.uniq,?_,?_,?_⟩
 ·intro id' hid;rw [AH.get_set];rw [AH.next_set] at hid;rw [hr.next id' hid];split<;>rfl
 ·intro id1 id2 o1 o2 b' k1 k2 h1 h2 h3 h4;have old:∀{i o'},(H.set id ob').get i=some o'->∃o0,H.get i=some o0:=by
   intro i o' h;rw [AH.get_set] at h;split at h
   ·rename_i e;subst e;exact ⟨ob,hget⟩
   ·exact ⟨o',h⟩
  obtain ⟨p1,q1⟩:=old h1;obtain ⟨p2,q2⟩:=old h2;exact hr.inj id1 id2 p1 p2 b' k1 k2 q1 q2 h3 h4
 ·intro id' ob2 h;have h0:=h;rw [AH.get_set] at h;by_cases e:id=id'
  ·subst e;rw [a9 rfl,hget] at h;simp at h;subst h;exact hob
  ·rw [QA e] at h;refine (hr.obj id' ob2 h).tr ht rfl (fun b' o' hb'=>?_);have hlt:=((hr.obj id' ob2 h).lt hb').1;refine hs b' hlt (fun hbb=>?_);subst hbb;exact e (hr.inj id id' ob ob2 b' o o' hget h hb hb')
theorem U9 (M:Nat->Nat->Prop) {b:Nat} {c c':Array Value} {ty:TypeId} (h:w.heap[b]? =some (.cells c ty (0,0))) (hs:c'.size=c.size) (hM:∀i,¬M b i->c'[i]? =c[i]?):
  Ext M w (nD w b c' ty):=by
 have hb:=w8 h;refine ⟨rfl,rfl,rfl,by simp [nD],?_⟩;intro k hk;by_cases e:k=b
 ·subst e;refine .inr (.inl ⟨c,c',ty,h,?_,hs,hM⟩);rw [A5 _ _ _ _ hk,a9 rfl]
 ·left;rw [A5 _ _ _ _ hb,QA e]
theorem Fk (hr:HR F B0 w I H) {t:TypeId} {id z i off n:Nat} {es:List (List AV)} {cs vs cs':List AV} {xv:AV} {pv v0:Value}
  (hn:szOf P t=some n) (hp:VRH F w I H (.ptr id z i off) pv) (hv:VRH F w I H xv v0) (hc:xv.cells=some vs) (hvn:vs.length=n)
  (hget:H.get id=some (.row z es)) (hi:es[i]? =some cs) (hput:NA off vs cs=some cs'):
  ∃w',(Instr.storeAt t pv v0).run P w= .ok () w'/\∃I',Tr w I H w' I' (H.set id (.row z (es.set i cs')))/\HR F B0 w' I' (H.set id (.row z (es.set i cs'))):=by
 obtain ⟨_,_,h3⟩:=DK hp;obtain ⟨b,o,hb,rfl⟩:=h3 _ _ hget;obtain ⟨b',o',c,m1,m2,⟨ty,m3⟩,m4,m5,m6⟩:=hr.obj id _ hget;rw [hb] at m1;cases m1;have pw:=MN hc hv;obtain ⟨p1,p2,p3⟩:=og hput;have hlen:cs.length=z:=m5 cs (Qe hi);have hil:i<es.length:=by
  rcases Qv i es.length with h' | h'
  ·exact h'
  ·simp [Qk h'] at hi
 have hmul:i*z+z<=es.length*z:=by
  have:(i+1)*z<=es.length*z:=Qj _ hil;rw [j5] at this;omega
 have hsz:v0.cells.size=n:=by have:=pw.1;simp at this;omega
 have hvl:vs.length=v0.cells.toList.length:=pw.1;obtain ⟨c',r1,r2,r3⟩:=Yp P v0.cells.toList w b (o+i*z+off) 0 c ty m3 (by simp at hvl ⊢;omega) (fun u hu=>pw.2.1 u hu);have hM:∀k,Mut I H b k:=fun k=>⟨id,_,o,hget,hb,trivial⟩
 have he:Ext (Mut I H) w (nD w b c' ty):=U9 _ m3 r2 (fun k hk=>absurd (hM k) hk);have ht:=VS hr hget hb he (ob':= .row z (es.set i cs')) (fun _ h=>h) (.inl ⟨z,es,_,rfl,rfl,by simp⟩);have hbl:=w8 m3;refine ⟨nD w b c' ty,?_,I,ht,VX hr hget hb ht (fun k hk hkb=>by rw [A5 _ _ _ _ hbl,QA hkb]) ?_⟩
 ·simp only [Instr.storeAt,Instr.sureAddr,Sem.run_bind,Sem.run_pure,Result.andThen_ok,storeVar,uJ w hn];rw [QA (by simpa using hsz)];exact r1
 ·refine ⟨b,o,c',hb,m2,⟨ty,by rw [A5 _ _ _ _ hbl,a9 rfl]⟩,by simp;omega,?_,?_⟩
  ·intro e he;rcases Qq he with he | rfl
   ·exact m5 e he
   ·omega
  ·intro i' j e x he' hx;have hz0:∀(k:Nat) e,es[k]? =some e->∀{j:Nat} {y:AV},e[j]? =some y->j<z:=by
    intro k e hk j y hy;have:=m5 e (Qe hk);rcases Qv j e.length with h' | h'
    ·omega
    ·simp [Qk h'] at hy
   rw [List.getElem?_set] at he';by_cases hii:i=i'
   ·subst hii;rw [a9 rfl,a9 hil] at he';cases he';rw [p3 j] at hx;rw [r3];by_cases hj:off<=j/\j<off+vs.length
    ·rw [a9 hj] at hx;obtain ⟨u,q1,q2,q3⟩:=pw.get hx;refine ⟨u,?_,q2,ht.vr q3⟩;rw [a9 (by simp at hvl ⊢;omega),<- q1];congr 1;omega
    ·rw [QA hj] at hx;obtain ⟨u,q1,q2,q3⟩:=m6 i j cs x hi hx;refine ⟨u,?_,q2,ht.vr q3⟩;rw [QA (by simp at hvl ⊢;omega),<- q1]
   ·rw [QA hii] at he';obtain ⟨u,q1,q2,q3⟩:=m6 i' j e x he' hx;have hj:=hz0 i' e he' hx;refine ⟨u,?_,q2,ht.vr q3⟩;rw [r3,QA,<- q1];intro hcon;have hlt:o+i'*z+j - (o+i*z)<z:=by simp at hvl hcon;omega
    have:=su (z:=z) (i:=i') (j:=j) (i':=i) (j':=o+i'*z+j - (o+i*z)) hj hlt (by simp at hcon;omega);exact hii this.1.symm
end
end Go.Av
namespace Go.Av
section
variable {F:Nat->Nat->Prop} {B0:Nat} {w:World} {I:Beta} {H:AH} {P:Program}
def SrcQ (P:Program) (Q:AV->Value->Prop) (w:World) (z:Nat) (ys:List (List AV)) (v:Value):Prop:=
 ∃cl:List Value,cl.length=ys.length*z/\(∀u∈cl,u.oneCell'=true)/\(∀W,(Builtin.lenOf v).run P W= .ok ys.length W)/\
  (∀(W:World) (k:Nat),W.heap=w.heap->k<=ys.length->(Builtin.firstCells z k v).run P W= .ok (cl.take (k*z)).toArray W)/\
  ∀(i j:Nat) e x,ys[i]? =some e->e[j]? =some x->∃u,cl[i*z+j]? =some u/\Q x u
theorem D' {W w:World} (h:W.heap=w.heap) (a:Addr):W.cell? a=w.cell? a:=by unfold World.cell?;rw [h]
theorem ea {Q:AV->Value->Prop} {z b o cap:Nat} {ys:List (List AV)} (hz:∀e∈ys,e.length=z)
  (h:∀(i j:Nat) e x,ys[i]? =some e->e[j]? =some x->∃u,w.cell? ⟨b,o+i*z+j,none⟩=some u/\u.oneCell'=true/\Q x u):
  SrcQ P Q w z ys (.slice (some ⟨b,o,none⟩) ys.length cap):=by
 have key:∀k,k<ys.length*z->∃u,w.cell? ⟨b,o+k,none⟩=some u/\u.oneCell'=true:=by
  intro k hk;have hz0:0<z:=by
   rcases Qw z with rfl | h'
   ·simp at hk
   ·exact h'
  have hi:k / z<ys.length:=by rw [Nat.div_lt_iff_lt_mul hz0];exact hk
  have hj:k % z<z:=Nat.mod_lt _ hz0;have hlen:=hz ys[k / z] (Qd hi);obtain ⟨u,h1,h2,_⟩:=h (k / z) (k % z) ys[k / z] (ys[k / z])[k % z] (by simp [hi]) (by simp [hlen,hj]);have e:o+k / z*z+k % z=o+k:=by
   have:=Nat.div_add_mod k z;rw [Nat.mul_comm] at this;omega
  rw [e] at h1;exact ⟨u,h1,h2⟩
 refine ⟨(List.range (ys.length*z)).map (fun k=>(w.cell? ⟨b,o+k,none⟩).getD default),by simp,?_,fun W=>rfl,?_,?_⟩
 ·intro u hu;obtain ⟨k,hk,rfl⟩:=iU.1 hu;obtain ⟨u,h1,h2⟩:=key k (by simpa using hk);rw [h1];exact h2
 ·intro W k hW hk;have hkz:k*z<=ys.length*z:=Qj _ hk;have hl:(((List.range (ys.length*z)).map (fun k=>(w.cell? ⟨b,o+k,none⟩).getD default)).take (k*z)).length=k*z:=by
   rw [iF,tH,List.length_range];omega
  refine run_firstCells_some (P:=P) W z k ⟨b,o,none⟩ ys.length cap _ hl ?_;intro j v hj;rw [D7,D' hW];rw [List.getElem?_take] at hj;split at hj
  ·rename_i hjk;have hjl:j<ys.length*z:=by omega
   obtain ⟨u,h1,h2⟩:=key j hjl;rw [List.getElem?_map,List.getElem?_range hjl] at hj;simp [h1] at hj;rw [h1,hj]
  ·cases hj
 ·intro i j e x he hx;obtain ⟨u,h1,h2,h3⟩:=h i j e x he hx;refine ⟨u,?_,h3⟩;have hj:j<z:=by
   have:=hz e (Qe he);rcases Qv j e.length with h' | h'
   ·omega
   ·simp [Qk h'] at hx
  have hi:i<ys.length:=by
   rcases Qv i ys.length with h' | h'
   ·exact h'
   ·simp [Qk h'] at he
  have hlt:i*z+j<ys.length*z:=by
   have:(i+1)*z<=ys.length*z:=Qj _ hi;rw [j5] at this;omega
  rw [List.getElem?_map,List.getElem?_range hlt];have e:o+(i*z+j)=o+i*z+j:=by omega
  simp [e,h1]
theorem UY {Q:AV->Value->Prop} {z cap:Nat} {a:Option Addr}:SrcQ P Q w z [] (.slice a 0 cap):=by
 refine ⟨[],by simp,by simp,fun W=>rfl,?_,by simp⟩;intro W k _ hk;have:k=0:=by simpa using hk
 subst this;cases a with
 | none=>simp [Builtin.firstCells]
 | some a=>
  simp only [Builtin.firstCells,Nat.zero_mul,loadCells,loadCellsFrom];simp
theorem xh {Q:AV->Value->Prop} (hQ:∀n,Q (.int .u8 n) (.int .u8 n)) (s:List UInt8):SrcQ P Q w 1 (s.map fun b=>[AV.int .u8 b.toNat]) (.string ⟨s.toArray⟩):=by
 refine ⟨s.map fun b=>Value.int .u8 b.toNat,by simp,?_,?_,?_,?_⟩
 ·intro u hu;obtain ⟨b,_,rfl⟩:=iU.1 hu;rfl
 ·intro W;simp [Builtin.lenOf,ByteArray.size]
 ·intro W k _ hk;simp only [Builtin.firstCells,Sem.run_pure,Nat.mul_one];congr 1;rw [ByteArray.data_extract];simp [List.extract,DY]
 ·intro i j e x he hx;rw [List.getElem?_map] at he;cases hs:s[i]? with
  | none=>rw [hs] at he;cases he
  | some b=>
   rw [hs] at he;cases he;cases j with
   | zero=>simp at hx;subst hx;exact ⟨.int .u8 b.toNat,by simp [hs],hQ _⟩
   | succ j=>simp at hx
theorem ND {z:Nat} {ys:List (List AV)} {zz:Nat} {v:Value} (h:VRD w (Imm F I H) (.slice zz ys) v) (hz:∀e∈ys,e.length=z):SrcQ P (VRD w (Imm F I H)) w z ys v:=by
 obtain ⟨a,cap,rfl,hc,h3⟩:=sO h;rcases h3 with rfl | ⟨b,o,rfl,hz',vs,h4,h5⟩
 ·exact UY
 ·cases ys with
  | nil=>exact UY
  | cons e0 es=>
   have:zz=z:=(hz' e0 (by simp)).symm.trans (hz e0 (by simp));subst this;exact ea hz (fun i j e x he hx=>⟨_,(h4 i j e x he hx).2.1,(h4 i j e x he hx).2.2,h5 i j e x he hx⟩)
theorem qzw {z:Nat} {ys:List (List AV)} {v:Value} (h:SrcR F w I H z ys v) (hz:∀e∈ys,e.length=z):SrcQ P (VRH F w I H) w z ys v:=by
 obtain ⟨base,cap,rfl,_,h3⟩:=h;rcases h3 with rfl | ⟨b,o,rfl,h4⟩
 ·exact UY
 ·exact ea hz h4
theorem Ay {Q Q':AV->Value->Prop} {z:Nat} {ys:List (List AV)} {v:Value} (h:SrcQ P Q w z ys v) (hq:∀x u,Q x u->Q' x u):SrcQ P Q' w z ys v:=by
 obtain ⟨cl,h1,h2,h3,h4,h5⟩:=h;exact ⟨cl,h1,h2,h3,h4,fun i j e x he hx=>let ⟨u,a,b⟩:=h5 i j e x he hx;⟨u,a,hq _ _ b⟩⟩
theorem NO {z:Nat} {ys:List (List AV)} {yv:AV} {v:Value} (hr:HR F B0 w I H) (hv:VRH F w I H yv v) (h:dF H yv=some ys) (hz:∀e∈ys,e.length=z):
  SrcQ P (VRH F w I H) w z ys v:=by
 by_cases hs:∃s,yv= .str s
 ·obtain ⟨s,rfl⟩:=hs;cases h;rw [uV hv];cases s with
  | nil=>exact ⟨[],by simp,by simp,fun W=>by simp [Builtin.lenOf,ByteArray.size],fun W k _ hk=>by
    have:k=0:=by simpa using hk
    subst this;simp [Builtin.firstCells],by simp⟩
  | cons b s=>
   have:z=1:=by have:=hz [AV.int .u8 b.toNat] (by simp);simpa using this.symm
   subst this;exact xh (fun n=> .d (.int _ _)) _
 ·exact qzw (uh hr hv h hz (fun s e=>hs ⟨s,e⟩)) hz
theorem kg {z:Nat} {ys0 ys:List (List AV)} {yv:AV} {v:Value} (hr:HR F B0 w I H) (hv:VRH F w I H yv v) (h:dF H yv=some ys0) (hf:frz H yv ys0=some ys) (hz:∀e∈ys,e.length=z):
  SrcQ P (VRD w (Imm F I H)) w z ys v:=by
 by_cases hrow:∃a b c d,yv= .row a b c d
 ·obtain ⟨a,b,c,d,rfl⟩:=hrow;simp only [frz] at hf;split at hf
  ·cases hf
  ·rename_i hb;have hz0:∀e∈ys0,e.length=z:=by
    intro e he;obtain ⟨i,hi,rfl⟩:=Qn.1 he;obtain ⟨e1,h1,h2⟩:=(D6 hf).2 i ys0[i] (by simp [hi]);rw [jC h2];exact hz e1 (Qe h1)
   obtain ⟨cl,h1,h2,h3,h4,h5⟩:=NO (P:=P) hr hv h hz0;have hl:=jC hf;refine ⟨cl,by rw [<- hl];exact h1,h2,by rw [<- hl];exact h3,by rw [<- hl];exact h4,?_⟩;intro i j e x he hx;obtain ⟨e0,k1,k2⟩:=nH hf he;obtain ⟨x0,k3,k4⟩:=nH k2 hx;obtain ⟨u,q1,q2⟩:=h5 i j e0 x0 k1 k3;have hb0:=vT (by simpa using hb) x0 (by
    rw [DV];exact ⟨e0,Qe k1,Qe k3⟩)
   exact ⟨u,q1,LL aI x0 x u k4 hb0 q2⟩
 ·have hys:ys=ys0:=by
   unfold frz at hf;split at hf
   ·rename_i a b c d;exact absurd ⟨_,_,_,_,rfl⟩ hrow
   ·cases hf;rfl
  subst hys;unfold dF at h;split at h
  ·cases h;exact ND (EO hv) hz
  ·cases h;exact ND (zI hv).1 hz
  ·cases h;exact ND (EW hv).2.1 hz
  ·exact absurd ⟨_,_,_,_,rfl⟩ hrow
  ·cases h;rename_i s;rw [uV hv];cases s with
   | nil=>exact ⟨[],by simp,by simp,fun W=>by simp [Builtin.lenOf,ByteArray.size],fun W k _ hk=>by
     have:k=0:=by simpa using hk
     subst this;simp [Builtin.firstCells],by simp⟩
   | cons b s=>
    have:z=1:=by have:=hz [AV.int .u8 b.toNat] (by simp);simpa using this.symm
    subst this;exact xh (fun n=> .int _ _) _
  ·cases h
theorem L8 {t u ty el:TypeId} {z:Nat} {base:Option Addr} {len cap n:Nat} {y:Value} {cl:Array Value} {W W':World}
  (ht:P.underlying t=some (.slice el)) (hz:szOf P el=some z) (hu:∃d,P.underlying u=some d/\∀k,d≠ .int k)
  (hlen:(Builtin.lenOf y).run P W= .ok n W) (hfc:(Builtin.firstCells z n y).run P W= .ok cl W) (hroom:len+n<=cap)
  (hst:match base with | some a=>(storeCells (a.add (len*z)) cl.toList).run P W= .ok () W' | none=>W'=W):
  (Builtin.append_ #[t,u] ty #[.slice base len cap,y]).run P W= .ok (.slice base (len+n) cap) W':=by
 obtain ⟨d,hd,hk⟩:=hu;have hm:(match d with | .int _=>true | _=>false)=false:=by
  cases d<;>first | rfl | exact absurd rfl (hk _)
 cases base with
 | none=>
  subst hst;simp [Builtin.append_,b9 W' ht,uJ W' hz,b9 W' hd,hm,hlen,hroom,hfc]
 | some a=>
  simp [Builtin.append_,b9 W ht,uJ W hz,b9 W hd,hm,hlen,hroom,hfc,hst]
theorem qzp {t u ty el:TypeId} {z:Nat} {i:TypeInfo} {zv:Value} {base:Option Addr} {len cap n:Nat} {y:Value} {co cl:Array Value} {W:World}
  (ht:P.underlying t=some (.slice el)) (hi:P.info? el=some i) (hiz:i.size=z) (hzv:i.zero=some zv) (hu:∃d,P.underlying u=some d/\∀k,d≠ .int k)
  (hlen:(Builtin.lenOf y).run P W= .ok n W) (hfc:(Builtin.firstCells z n y).run P W.drew= .ok cl W.drew) (hfo:(Builtin.firstCells z len (.slice base len cap)).run P W.drew= .ok co W.drew)
  (hroom:cap<len+n) (hb:(len+n)*i.bytes<=2^46) (hb0:i.bytes≠0):
  ∃cap' rest,len+n<=cap'/\(Builtin.append_ #[t,u] ty #[.slice base len cap,y]).run P W=
   .ok (.slice (some ⟨W.heap.size,0,none⟩) (len+n) cap') (W.drew.alloc (.cells (co++cl++rest) el))/\rest=Builtin.zeroCells zv.cells (cap' - (len+n)):=by
 obtain ⟨d,hd,hk⟩:=hu;have hm:(match d with | .int _=>true | _=>false)=false:=by
  cases d<;>first | rfl | exact absurd rfl (hk _)
 have hn:¬(len+n<=cap):=by omega
 have hle:len+n<=(len+n)*i.bytes:=Nat.le_mul_of_pos_right _ (by omega);have h48:¬(281474976710656<Builtin.nextslicecap (len+n) cap*i.bytes):=by
  have:=growslice_fits (need:=len+n) (old:=cap) (bytes:=i.bytes) hroom (by omega);omega
 subst hiz;refine ⟨grownCap W (len+n) cap el,_,?_,?_,rfl⟩
 ·exact KA _ _
 ·simp [Builtin.append_,b9 W ht,sizeOf,typeInfo,zeroValue,hi,hzv,b9 W hd,hm,hlen,hn,h48,hb0,Question.forced,hfc,hfo,newRow,grownCap]
end
end Go.Av
namespace Go.Av
section
variable {F:Nat->Nat->Prop} {B0:Nat} {w:World} {I:Beta} {H:AH} {P:Program}
structure AT (P:Program) (t u el:TypeId) (z:Nat):Prop where
 ht:P.underlying t=some (.slice el)
 hz:szOf P el=some z
 hne:z≠0
 hu:∃d,P.underlying u=some d/\∀k,d≠ .int k
 hb:P.bytesOf el≠0
 hzero:∃i zv,P.info? el=some i/\i.zero=some zv/\zv.cells.size=z
theorem zL {G:Type} {l:List G} {i:Nat} {a:G} (h:l[i]? =some a):i<l.length:=by
 rcases Qv i l.length with h' | h'
 ·exact h'
 ·simp [Qk h'] at h
theorem Hx {Q:AV->Value->Prop} {z:Nat} {es ys:List (List AV)} {co cl:List Value} {rest:Array Value} (hzo:∀e∈es,e.length=z) (hzn:∀e∈ys,e.length=z)
  (hlo:co.length=es.length*z) (hln:cl.length=ys.length*z) (h1:∀u∈co,u.oneCell'=true) (h2:∀u∈cl,u.oneCell'=true)
  (ho:∀(i j:Nat) e x,es[i]? =some e->e[j]? =some x->∃u,co[i*z+j]? =some u/\Q x u)
  (hn:∀(i j:Nat) e x,ys[i]? =some e->e[j]? =some x->∃u,cl[i*z+j]? =some u/\Q x u):
  (∀e∈es++ys,e.length=z)/\∀(i j:Nat) e x,(es++ys)[i]? =some e->e[j]? =some x->∃v,(co.toArray++cl.toArray++rest)[i*z+j]? =some v/\v.oneCell'=true/\Q x v:=by
 refine ⟨fun e he=>(nE.1 he).elim (hzo e) (hzn e),?_⟩;intro i j e x he hx;rw [List.getElem?_append] at he;split at he
 ·rename_i hi;obtain ⟨u,k1,k2⟩:=ho i j e x he hx;have hlt:=zL k1;refine ⟨u,?_,h1 u (Qe k1),k2⟩;rw [Array.getElem?_append_left (by simp;omega),Array.getElem?_append_left (by simpa using hlt)];simpa using k1
 ·rename_i hi;obtain ⟨u,k1,k2⟩:=hn _ j e x he hx;have hlt:=zL k1;refine ⟨u,?_,h2 u (Qe k1),k2⟩;have hm:i*z=es.length*z+(i - es.length)*z:=by rw [<- j5];congr 1;omega
  rw [Array.getElem?_append_left (by simp;omega),Array.getElem?_append_right (by simp;omega)];have e2:i*z+j - co.toArray.size=(i - es.length)*z+j:=by simp;omega
  rw [e2];simpa using k1
theorem qvu (zc:Array Value) (n:Nat):(Builtin.zeroCells zc n).size=n*zc.size:=by simp [Builtin.zeroCells]
theorem UK {Q:AV->Value->Prop} {t u ty el:TypeId} {z:Nat} (A:AT P t u el z) {es ys:List (List AV)} {base:Option Addr} {cap:Nat} {y:Value}
  (hx:SrcQ P Q w z es (.slice base es.length cap)) (hy:SrcQ P Q w z ys y) (hzo:∀e∈es,e.length=z) (hzn:∀e∈ys,e.length=z)
  (hroom:cap<es.length+ys.length) (hb:(es.length+ys.length)*P.bytesOf el<=2^46):
  ∃c cap',es.length+ys.length<=cap'/\cap'*z<=c.size/\(Builtin.append_ #[t,u] ty #[.slice base es.length cap,y]).run P w=
   .ok (.slice (some ⟨w.heap.size,0,none⟩) (es.length+ys.length) cap') (w.drew.alloc (.cells c el))/\
   (∀e∈es++ys,e.length=z)/\∀(i j:Nat) e x,(es++ys)[i]? =some e->e[j]? =some x->∃v,c[i*z+j]? =some v/\v.oneCell'=true/\Q x v:=by
 obtain ⟨co,o1,o2,o3,o4,o5⟩:=hx;obtain ⟨cl,n1,n2,n3,n4,n5⟩:=hy;obtain ⟨i,zv,i1,i2,i3⟩:=A.hzero;obtain ⟨i',i4,i5⟩:=MV A.hz;rw [i1] at i4;cases i4;have hbb:P.bytesOf el=i.bytes:=by simp [Program.bytesOf,i1]
 have hfc:=n4 w.drew ys.length rfl (Qb _);have hfo:=o4 w.drew es.length rfl (Qb _);rw [Qo (by omega)] at hfc hfo;obtain ⟨cap',rest,g1,g2,g3⟩:=qzp (ty:=ty) (W:=w) A.ht i1 i5 i2 A.hu (n3 w) hfc hfo hroom (by rw [<- hbb];exact hb) (by rw [<- hbb];exact A.hb);refine ⟨_,cap',g1,?_,g2,Hx hzo hzn o1 n1 o2 n2 o5 n5⟩;rw [g3];simp only [Array.size_append,List.size_toArray,o1,n1,qvu,i3];rw [<- j5,<- j5];refine Qj _ ?_;omega
theorem sa {x:AV} {H':AH} {v:Value} {w':World} (hr:HR F B0 w I H) (h:HR F B0 w.drew I H->Good F B0 w.drew I H x H' v w'):Good F B0 w I H x H' v w':=by
 obtain ⟨I',h1,h2,h3⟩:=h hr.drew;exact ⟨I',tr_drew.trans h1,h2,h3⟩
theorem Gf {imm:Nat->Nat->Prop} {x:AV} {v:Value} (h:VRD w imm x v):VRD w.drew imm x v:=h.mono fun _ _ _ a b=>⟨a,b⟩
theorem qh {t u ty el:TypeId} {z:Nat} (A:AT P t u el z) {nx:Nat} (hfr:Free H nx) (hr:HR F B0 w I H) {z0:Nat} {es ys:List (List AV)} {xv y:Value}
  (hx:VRH F w I H (.Xt z0 es) xv) (hz0:z0=z\/es=[]) (hy:SrcQ P (VRD w (Imm F I H)) w z ys y) (hzn:∀e∈ys,e.length=z)
  (hb:(es.length+ys.length)*P.bytesOf el<=2^46):
  ∃v w',(Builtin.append_ #[t,u] ty #[xv,y]).run P w= .ok v w'/\Good F B0 w I H (.app z (es++ys) nx) (H.put nx (.tok z (es.length+ys.length))) v w':=by
 obtain ⟨hd,a,len,rfl⟩:=zI hx;have hzo:∀e∈es,e.length=z:=by
  rcases hz0 with rfl | rfl
  ·obtain ⟨_,_,_,_,h3⟩:=sO hd;rcases h3 with rfl | ⟨b,o,_,hz,_⟩
   ·simp
   ·exact hz
  ·simp
 obtain ⟨a',cap,e1,hc,h3⟩:=sO hd;cases e1;have hsx:SrcQ P (VRD w (Imm F I H)) w z es (.slice a es.length es.length):=ND hd hzo;by_cases hys:ys=[]
 ·subst hys;obtain ⟨cl,n1,n2,n3,n4,n5⟩:=hy;have hcl:cl=[]:=Qg (by simpa using n1);subst hcl;have hfc:=n4 w 0 rfl (Qb _);refine ⟨_,_,L8 (cap:=es.length) A.ht A.hz A.hu (n3 w) hfc (by simp) (W':=w) ?_,?_⟩
  ·cases a with
   | none=>rfl
   | some a=>simp [storeCells]
  ·have ht:=LW hfr hr (Ext.refl _ w) (.tok z es.length) none (by simp);have hn:=NY hfr hr (Ext.refl _ w) (.tok z es.length) none (by simp) (fun _ _=>rfl) (by intro b o h;rw [iZ] at h;cases h);refine ⟨upd I nx none,ht,hn,.l ⟨EE hr hfr (by simp),?_,?_⟩⟩
   ·have:=ht.vrd hd;rcases hz0 with rfl | rfl
    ·simpa using this
    ·simp at this ⊢;exact .slice0 _ _ _
   ·intro z' f hf;rw [uR hr hfr,a9 rfl] at hf;cases hf;refine ⟨by simp,fun _=>?_⟩;rw [iZ];exact ⟨a,_,rfl⟩
 ·have hlt:es.length<es.length+ys.length:=by
   cases ys with
   | nil=>exact absurd rfl hys
   | cons=>simp
  obtain ⟨c,cap',g1,g2,g3,g4,g5⟩:=UK (ty:=ty) A hsx hy hzo hzn hlt hb;refine ⟨_,_,g3,sa hr fun hr'=>?_⟩;have:=Ww (cap:=cap') (n:=es.length+ys.length) (ty:=el) hfr hr' (es:=es++ys) (z:=z) (c:=c) ⟨g4,fun i j e x he hx=>by
   obtain ⟨v,q1,q2,q3⟩:=g5 i j e x he hx;exact ⟨v,q1,q2,Gf q3⟩⟩ (by simp) g2 g1
  exact this
theorem qsz {t u ty el:TypeId} {z:Nat} (A:AT P t u el z) (hr:HR F B0 w I H) {z0:Nat} {xv y:Value}
  (hx:VRH F w I H (.Xt z0 []) xv) (hy:SrcQ P (VRH F w I H) w z [] y):
  ∃v w',(Builtin.append_ #[t,u] ty #[xv,y]).run P w= .ok v w'/\Good F B0 w I H (.Xt z []) H v w':=by
 obtain ⟨hd,a,len,rfl⟩:=zI hx;obtain ⟨a',cap,e1,hc,h3⟩:=sO hd;cases e1;obtain ⟨cl,n1,n2,n3,n4,n5⟩:=hy;have hcl:cl=[]:=Qg (by simpa using n1);subst hcl;have hfc:=n4 w 0 rfl (Qb _);refine ⟨_,_,L8 (cap:=0) A.ht A.hz A.hu (n3 w) hfc (by simp) (W':=w) ?_,?_⟩
 ·cases a with
  | none=>rfl
  | some a=>simp [storeCells]
 ·exact .same hr (.l ⟨.slice0 _ _ _,a,_,rfl⟩)
theorem quk {t u ty el:TypeId} {z:Nat} (A:AT P t u el z) {nx:Nat} (hfr:Free H nx) (hr:HR F B0 w I H) {z0:Nat} {es ys:List (List AV)} {xv y:Value}
  (hx:VRH F w I H (.Xt z0 es) xv) (hz0:z0=z\/es=[]) (hy:SrcQ P (VRH F w I H) w z ys y) (hzn:∀e∈ys,e.length=z) (hne:ys≠[])
  (hb:(es.length+ys.length)*P.bytesOf el<=2^46):
  ∃v w',(Builtin.append_ #[t,u] ty #[xv,y]).run P w= .ok v w'/\Good F B0 w I H (.row nx z 0 (es.length+ys.length)) (H.put nx (.row z (es++ys))) v w':=by
 obtain ⟨hd,a,len,rfl⟩:=zI hx;have hzo:∀e∈es,e.length=z:=by
  rcases hz0 with rfl | rfl
  ·obtain ⟨_,_,_,_,h3⟩:=sO hd;rcases h3 with rfl | ⟨b,o,_,hz,_⟩
   ·simp
   ·exact hz
  ·simp
 obtain ⟨a',cap,e1,hc,h3⟩:=sO hd;cases e1;have hsx:SrcQ P (VRH F w I H) w z es (.slice a es.length es.length):=Ay (ND hd hzo) (fun _ _ h=> .d h);have hlt:es.length<es.length+ys.length:=by
  cases ys with
  | nil=>exact absurd rfl hne
  | cons=>simp
 obtain ⟨c,cap',g1,g2,g3,g4,g5⟩:=UK (ty:=ty) A hsx hy hzo hzn hlt hb;refine ⟨_,_,g3,sa hr fun hr'=>?_⟩;obtain ⟨k1,k2⟩:=UJ hfr hr' c el z (es++ys) g4 (by simp;exact wB (Qj _ g1) g2) (fun i j e x he hx=>by
  obtain ⟨v,q1,q2,q3⟩:=g5 i j e x he hx;exact ⟨v,q1,q2,tr_drew.vr q3⟩)
 refine ⟨_,k1,k2,.l ⟨EE hr hfr (by simp),⟨_,_,rfl,g1,.inr ⟨_,_,rfl⟩⟩,?_⟩⟩;intro zz ees hg;rw [uR hr hfr,a9 rfl] at hg;cases hg;exact ⟨w.drew.heap.size,0,_,cap',c,iZ _ _ _,rfl,g1,.inr (by simp),⟨el,CA _ _⟩,by simpa using g2,by simp;omega⟩
theorem xa {Q:AV->Value->Prop} {t u ty el:TypeId} {z:Nat} (A:AT P t u el z) {ys:List (List AV)} {b o len cap:Nat} {c:Array Value} {tyb:TypeId} {y:Value}
  (hblk:w.heap[b]? =some (.cells c tyb (0,0))) (hcap:o+cap*z<=c.size) (hy:SrcQ P Q w z ys y) (hzn:∀e∈ys,e.length=z) (hroom:len+ys.length<=cap):
  ∃c',(Builtin.append_ #[t,u] ty #[.slice (some ⟨b,o,none⟩) len cap,y]).run P w= .ok (.slice (some ⟨b,o,none⟩) (len+ys.length) cap) (nD w b c' tyb)/\c'.size=c.size/\
   (∀k,¬(o+len*z<=k/\k<o+(len+ys.length)*z)->c'[k]? =c[k]?)/\
   ∀(i j:Nat) e x,ys[i]? =some e->e[j]? =some x->∃v,c'[o+(len+i)*z+j]? =some v/\v.oneCell'=true/\Q x v:=by
 obtain ⟨cl,n1,n2,n3,n4,n5⟩:=hy;have hfc:=n4 w ys.length rfl (Qb _);rw [Qo (by omega)] at hfc;have hm:(len+ys.length)*z<=cap*z:=Qj _ hroom;have hm2:(len+ys.length)*z=len*z+ys.length*z:=j5 _ _ _;obtain ⟨c',r1,r2,r3⟩:=Yp P cl w b (o+len*z) 0 c tyb hblk (by omega) n2;refine ⟨c',?_,r2,?_,?_⟩
 ·refine L8 (W:=w) A.ht A.hz A.hu (n3 w) hfc hroom ?_;simp only [D7];exact r1
 ·intro k hk;rw [r3,QA (by omega)]
 ·intro i j e x he hx;obtain ⟨v,k1,k2⟩:=n5 i j e x he hx;have hlt:=zL k1;refine ⟨v,?_,n2 v (Qe k1),k2⟩;have e1:(len+i)*z=len*z+i*z:=j5 _ _ _;rw [r3,a9 (by omega),<- k1];congr 1;omega
theorem Ix {t u ty el:TypeId} {z:Nat} (A:AT P t u el z) (hr:HR F B0 w I H) {es ys:List (List AV)} {tk:Nat} {xv y:Value}
  (hx:VRH F w I H (.app z es tk) xv) (hget:H.get tk=some (.tok z es.length)) (hy:SrcQ P (VRD w (Imm F I H)) w z ys y) (hzn:∀e∈ys,e.length=z)
  (hb:(es.length+ys.length)*P.bytesOf el<=2^46):
  ∃v w',(Builtin.append_ #[t,u] ty #[xv,y]).run P w= .ok v w'/\Good F B0 w I H (.app z (es++ys) tk) (H.set tk (.tok z (es.length+ys.length))) v w':=by
 obtain ⟨htk,hd,htok⟩:=EW hx;have htok:=(htok z es.length hget).2 rfl;obtain ⟨a',cap',e1,hc,h3⟩:=sO hd;subst e1;have hzo:∀e∈es,e.length=z:=by
  rcases h3 with rfl | ⟨b,o,_,hz,_⟩
  ·simp
  ·exact hz
 have grow:cap'<es.length+ys.length->∃v w',(Builtin.append_ #[t,u] ty #[.slice a' es.length cap',y]).run P w= .ok v w'/\
   Good F B0 w I H (.app z (es++ys) tk) (H.set tk (.tok z (es.length+ys.length))) v w':=by
  intro hroom;have hsx:SrcQ P (VRD w (Imm F I H)) w z es (.slice a' es.length cap'):=ND hd hzo;obtain ⟨c,cap2,g1,g2,g3,g4,g5⟩:=UK (ty:=ty) A hsx hy hzo hzn hroom hb;have hypos:0<ys.length:=by omega
  refine ⟨_,_,g3,?_⟩;have he:Ext (Mut I H) w (w.drew.alloc (.cells c el)):=(Ext.drew _ w).trans (Ext.alloc (Mut I H) _ _) (fun _ _ h _=>h);have hget':∀id,(H.set tk (.tok z (es.length+ys.length))).get id=if tk=id then some (.tok z (es.length+ys.length)) else H.get id:=by
   intro id;rw [AH.get_set];by_cases e:tk=id
   ·subst e;rw [a9 rfl,a9 rfl,hget];rfl
   ·rw [QA e,QA e]
  have ht:Tr w I H (w.drew.alloc (.cells c el)) (upd I tk (some (w.heap.size,0))) (H.set tk (.tok z (es.length+ys.length))):=by
   refine ⟨he,?_,fun _ hk'=>MT (by simp) hk',?_,?_,?_⟩
   ·rintro b i ⟨id,ob,o,m1,m2,m3⟩;rw [hget'] at m1;by_cases e:tk=id
    ·subst e;rw [iZ] at m2;cases m2;exact .inr (Qb _)
    ·rw [QA e] at m1;rw [nB _ _ (fun h=>e h.symm)] at m2;exact .inl ⟨id,ob,o,m1,m2,m3⟩
   ·intro id zz ees hid h;rw [hget'] at h;by_cases e:tk=id
    ·rw [a9 e] at h;cases h
    ·rw [QA e] at h;exact ⟨⟨ees,h,rfl⟩,nB _ _ (fun h=>e h.symm)⟩
   ·intro id ees hid h;rw [hget'] at h;by_cases e:tk=id
    ·rw [a9 e] at h;cases h
    ·rw [QA e] at h;exact ⟨⟨ees,h⟩,nB _ _ (fun h=>e h.symm)⟩
   ·intro id zz f hid h;rw [hget'] at h;by_cases e:tk=id
    ·subst e;rw [a9 rfl] at h;cases h;exact ⟨es.length,hget,by omega,fun e=>by omega⟩
    ·rw [QA e] at h;exact ⟨f,h,Qb _,fun _=>nB _ _ (fun h=>e h.symm)⟩
  have hblk:Blk (w.drew.alloc (.cells c el)) w.heap.size c:=⟨el,CA w.drew _⟩;have hcsz:(es.length+ys.length)*z<=c.size:=wB (Qj _ g1) g2;have hhr:HR F B0 (w.drew.alloc (.cells c el)) (upd I tk (some (w.heap.size,0))) (H.set tk (.tok z (es.length+ys.length))):=by
   refine ⟨wB hr.base he.size,hr.far,SB _ _ _ hr.uniq,?_,?_,?_⟩
   ·intro id hid;rw [hget'];rw [AH.next_set] at hid;rw [QA (by have:=htk.1;omega)];exact hr.next id hid
   ·intro id1 id2 o1 o2 b k1 k2 m1 m2 m3 m4;rw [hget'] at m1 m2;by_cases e1:tk=id1<;>by_cases e2:tk=id2
    ·omega
    ·subst e1;rw [iZ] at m3;rw [QA e2] at m2;rw [nB _ _ (fun h=>e2 h.symm)] at m4;cases m3;have:=((hr.obj id2 o2 m2).lt m4).1;omega
    ·subst e2;rw [iZ] at m4;rw [QA e1] at m1;rw [nB _ _ (fun h=>e1 h.symm)] at m3;cases m4;have:=((hr.obj id1 o1 m1).lt m3).1;omega
    ·rw [QA e1] at m1;rw [QA e2] at m2;rw [nB _ _ (fun h=>e1 h.symm)] at m3;rw [nB _ _ (fun h=>e2 h.symm)] at m4;exact hr.inj id1 id2 o1 o2 b k1 k2 m1 m2 m3 m4
   ·intro id ob m;rw [hget'] at m;by_cases e:tk=id
    ·subst e;rw [a9 rfl] at m;cases m;intro b o hbo;rw [iZ] at hbo;cases hbo;exact ⟨hr.base,c,hblk,by omega⟩
    ·rw [QA e] at m;refine (hr.obj id ob m).tr ht (nB _ _ (fun h=>e h.symm)) (fun b o hbo=>?_);have:=((hr.obj id ob m).lt hbo).1;exact MJ w.drew _ this
  refine ⟨_,ht,hhr,.l ⟨MT (by simp) htk,?_,?_⟩⟩
  ·have:=ec (w':=w.drew.alloc (.cells c el)) (imm:=Imm F (upd I tk (some (w.heap.size,0))) (H.set tk (.tok z (es.length+ys.length)))) (z:=z) (b:=w.heap.size) (es:=es++ys) (c:=c) (cap:=cap2) hblk ?_ g4 (by simpa using g1) ?_
   ·simpa using this
   ·intro i hi;refine ⟨fun hm=>?_,fun hf=>?_⟩
    ·obtain ⟨id,ob,o,m1,m2,m3⟩:=hm;rw [hget'] at m1;by_cases e:tk=id
     ·subst e;rw [a9 rfl] at m1;cases m1;rw [iZ] at m2;cases m2;simp [Past] at m3 hi;omega
     ·rw [QA e] at m1;rw [nB _ _ (fun h=>e h.symm)] at m2;have:=((hr.obj id ob m1).lt m2).1;omega
    ·have:=hr.far _ _ hf;have:=hr.base;omega
   ·intro i j e x he hx;obtain ⟨v,q1,q2,q3⟩:=g5 i j e x he hx;exact ⟨v,q1,q2,ht.vrd q3⟩
  ·intro zz f hf;rw [hget',a9 rfl] at hf;cases hf;refine ⟨by simp,fun _=>?_⟩;rw [iZ];exact ⟨_,cap2,c,rfl,hblk,by omega⟩
 by_cases hroom:es.length+ys.length<=cap'
 ·cases hbt:I tk with
  | none=>
   rw [hbt] at htok;obtain ⟨a,len,e2⟩:=htok;cases e2;have hys:ys=[]:=Qg (by omega);subst hys;obtain ⟨cl,n1,n2,n3,n4,n5⟩:=hy;have hcl:cl=[]:=Qg (by simpa using n1);subst hcl;have hfc:=n4 w 0 rfl (Qb _);refine ⟨_,_,L8 (cap:=es.length) A.ht A.hz A.hu (n3 w) hfc (by simp) (W':=w) ?_,?_⟩
   ·cases a' with
    | none=>rfl
    | some a=>simp [storeCells]
   ·have hset:∀id,(H.set tk (.tok z (es.length+0))).get id=H.get id:=by
     intro id;rw [AH.get_set];split
     ·rename_i e;subst e;rw [hget];rfl
     ·rfl
    have htr:Tr w I H w I (H.set tk (.tok z (es.length+0))):=by
     refine ⟨.refl _ _,?_,fun _ hk'=>MT (by simp) hk',?_,?_,?_⟩
     ·rintro b i ⟨id,ob,o,m1,m2,m3⟩;rw [hset] at m1;exact .inl ⟨id,ob,o,m1,m2,m3⟩
     ·intro id zz ees _ h;rw [hset] at h;exact ⟨⟨ees,h,rfl⟩,rfl⟩
     ·intro id ees _ h;rw [hset] at h;exact ⟨⟨ees,h⟩,rfl⟩
     ·intro id zz f _ h;rw [hset] at h;exact ⟨f,h,Qb _,fun _=>rfl⟩
    refine ⟨I,by simpa using htr,?_,?_⟩
    ·refine ⟨hr.base,hr.far,SB _ _ _ hr.uniq,?_,?_,?_⟩
     ·intro id hid;have:=hset id;simp only [KB] at this ⊢;rw [this];exact hr.next id hid
     ·intro id1 id2 o1 o2 b k1 k2 m1 m2 m3 m4;have s1:=hset id1;have s2:=hset id2;simp only [KB] at m1 m2;rw [s1] at m1;rw [s2] at m2;exact hr.inj id1 id2 o1 o2 b k1 k2 m1 m2 m3 m4
     ·intro id ob m;have s1:=hset id;simp only [KB] at m ⊢;rw [s1] at m;exact (hr.obj id ob m).tr htr rfl (fun _ _ _=>rfl)
    ·have:=htr.vr hx;simpa using this
  | some p=>
   obtain ⟨b,o⟩:=p;rw [hbt] at htok;obtain ⟨len,cap,c,e2,⟨tyb,hblk⟩,hsz⟩:=htok;cases e2;obtain ⟨c',r1,r2,r3,r4⟩:=xa (ty:=ty) A hblk hsz hy hzn hroom;have hB0:=((hr.obj tk _ hget).lt hbt).2;have hbl:=w8 hblk;have hM:∀k,o+es.length*z<=k->Mut I H b k:=fun k hk=>⟨tk,_,o,hget,hbt,hk⟩
   have he:Ext (Mut I H) w (nD w b c' tyb):=U9 _ hblk r2 (fun k hk=>r3 k (fun hc2=>hk (hM k hc2.1)));have ht:=VS hr hget hbt he (ob':= .tok z (es.length+ys.length)) (fun k hk=>by
    simp only [Past] at hk ⊢;have:es.length*z<=(es.length+ys.length)*z:=Qj _ (by omega);omega) (.inr (.inr ⟨z,_,_,rfl,rfl,by omega⟩))
   have hblk':Blk (nD w b c' tyb) b c':=⟨tyb,by rw [A5 _ _ _ _ hbl,a9 rfl]⟩;have hmm:(es.length+ys.length)*z<=cap'*z:=Qj _ hroom;have hhr:=VX hr hget hbt ht (fun k hk hkb=>by rw [A5 _ _ _ _ hbl,QA hkb]) (by
    intro b' o' hb';rw [hbt] at hb';cases hb';exact ⟨hB0,c',hblk',by omega⟩)
   refine ⟨_,_,r1,I,ht,hhr,.l ⟨MT (by simp) htk,?_,?_⟩⟩
   ·-- the elements, old and new
    have himm:∀k,o<=k->k<o+(es.length+ys.length)*z->Imm F I (H.set tk (.tok z (es.length+ys.length))) b k:=by
     intro k hk1 hk2;refine ⟨?_,fun hf=>?_⟩
     ·rintro ⟨id,ob,o',m1,m2,m3⟩;rw [AH.get_set] at m1;by_cases e:tk=id
      ·subst e;rw [a9 rfl,hget] at m1;simp at m1;subst m1;rw [hbt] at m2;cases m2;simp [Past] at m3;omega
      ·rw [QA e] at m1;exact e (hr.inj tk id _ ob b o o' hget m1 hbt m2)
     ·have:=hr.far _ _ hf;omega
    have hall:∀(i j:Nat) e x,(es++ys)[i]? =some e->e[j]? =some x->∃v,c'[o+i*z+j]? =some v/\v.oneCell'=true/\VRD (nD w b c' tyb) (Imm F I (H.set tk (.tok z (es.length+ys.length)))) x v:=by
     intro i j e x he' hx';rw [List.getElem?_append] at he';split at he'
     ·rename_i hi;rcases h3 with rfl | ⟨b2,o2,e3,hz,vs,h4,h5⟩
      ·simp at hi
      ·cases e3;obtain ⟨_,q1,q2⟩:=h4 i j e x he' hx';obtain ⟨cc,ty2,fz2,q3,q4⟩:=cell_iff.1 q1;rw [hblk] at q3;cases q3;have hj:j<z:=by
        have:=hz e (Qe he');have:=zL hx';omega
       have hlt:i*z+j<es.length*z:=by
        have:(i+1)*z<=es.length*z:=Qj _ hi;rw [j5] at this;omega
       exact ⟨vs i j,by rw [r3 _ (by omega)];exact q4,q2,ht.vrd (h5 i j e x he' hx')⟩
     ·rename_i hi;obtain ⟨v,q1,q2,q3⟩:=r4 _ j e x he' hx';have:es.length+(i - es.length)=i:=by omega
      rw [this] at q1;exact ⟨v,q1,q2,ht.vrd q3⟩
    have hza:∀e∈es++ys,e.length=z:=fun e he=>(nE.1 he).elim (hzo e) (hzn e)
    cases hcat:es++ys with
    | nil=>
     have:es.length+ys.length=0:=by rw [<- sR,hcat];rfl
     rw [this];exact .slice0 _ _ _
    | cons e0 r0=>
     rw [<- hcat];have:=VRD.slice (w:=nD w b c' tyb) (imm:=Imm F I (H.set tk (.tok z (es.length+ys.length)))) z (es++ys) b o cap' (fun i j=>(c'[o+i*z+j]?).getD default) (by rw [hcat];simp) hza (by simpa using hroom) ?_ ?_
     ·simpa using this
     ·intro i j e x he' hx';obtain ⟨v,q1,q2,q3⟩:=hall i j e x he' hx';obtain ⟨tt,hb3⟩:=hblk';have hj:j<z:=by
       have:=hza e (Qe he');have:=zL hx';omega
      have hi:=zL he';have hlt:i*z+j<(es++ys).length*z:=by
       have:(i+1)*z<=(es++ys).length*z:=Qj _ hi;rw [j5] at this;omega
      simp only [q1,nO];exact ⟨himm _ (by omega) (by simp at hlt;omega),cell_iff.2 ⟨c',tt,(0,0),hb3,q1⟩,q2⟩
     ·intro i j e x he' hx';obtain ⟨v,q1,q2,q3⟩:=hall i j e x he' hx';simp only [q1,nO];exact q3
   ·intro zz f hf;rw [AH.get_set,a9 rfl,hget] at hf;simp at hf;obtain ⟨rfl,rfl⟩:=hf;refine ⟨by simp,fun _=>?_⟩;rw [hbt];exact ⟨_,cap',c',rfl,hblk',by omega⟩
 ·exact grow (by omega)
end
end Go.Av
namespace Go.Av
section
variable {F:Nat->Nat->Prop} {B0:Nat} {w:World} {I:Beta} {H:AH} {P:Program}
theorem D9 (hr:HR F B0 w I H) (u id:Nat):(H.kill u).get id=if u=id then none else H.get id:=by
 simp only [AH.kill,AH.get];exact qq id u H.objs hr.uniq
theorem NP (hr:HR F B0 w I H) (u:Nat):Tr w I H w I (H.kill u):=by
 have old:∀{id ob},(H.kill u).get id=some ob->H.get id=some ob:=by
  intro id ob h;rw [D9 hr] at h;split at h
  ·cases h
  ·exact h
 refine ⟨.refl _ _,?_,fun k hk=>⟨hk.1,by rw [D9 hr];split;simp;exact hk.2⟩,?_,?_,?_⟩
 ·rintro b i ⟨id,ob,o,h1,h2,h3⟩;exact .inl ⟨id,ob,o,old h1,h2,h3⟩
 ·intro id z es _ h;exact ⟨⟨es,old h,rfl⟩,rfl⟩
 ·intro id es _ h;exact ⟨⟨es,old h⟩,rfl⟩
 ·intro id z f _ h;exact ⟨f,old h,Qb _,fun _=>rfl⟩
theorem CD (hr:HR F B0 w I H) (u:Nat):HR F B0 w I (H.kill u):=by
 have old:∀{id ob},(H.kill u).get id=some ob->H.get id=some ob:=by
  intro id ob h;rw [D9 hr] at h;split at h
  ·cases h
  ·exact h
 refine ⟨hr.base,hr.far,ZS _ _ hr.uniq,?_,?_,?_⟩
 ·intro id hid;rw [D9 hr];split
  ·rfl
  ·exact hr.next id hid
 ·intro id1 id2 o1 o2 b k1 k2 h1 h2 h3 h4;exact hr.inj id1 id2 o1 o2 b k1 k2 (old h1) (old h2) h3 h4
 ·intro id ob h;exact (hr.obj id ob (old h)).tr (NP hr u) rfl (fun _ _ _=>rfl)
theorem qn {nx:Nat} (hfr:Free H nx) (hr:HR F B0 w I H) {id z:Nat} {es es':List (List AV)} {b o o':Nat} {c c':Array Value} {ty:TypeId} (hget:H.get id=some (.row z es)) (hb:I id=some (b,o))
  (hblk:w.heap[b]? =some (.cells c ty (0,0))) (hs:c'.size=c.size) (hz:∀e∈es',e.length=z) (hsz:o'+es'.length*z<=c.size)
  (hc:∀(i j:Nat) e x,es'[i]? =some e->e[j]? =some x->∃v,c'[o'+i*z+j]? =some v/\v.oneCell'=true/\VRH F w I H x v):
  Tr w I H (nD w b c' ty) (upd I nx (some (b,o'))) ((H.kill id).put nx (.row z es'))/\HR F B0 (nD w b c' ty) (upd I nx (some (b,o'))) ((H.kill id).put nx (.row z es')):=by
 have hbl:=w8 hblk;have hB0:=((hr.obj id _ hget).lt hb).2;have hidn:=lr hr hget;have hin:id≠nx:=by
  rintro rfl;exact hfr.not_known hr ⟨hidn,by rw [hget];simp⟩
 have hfk:Free (H.kill id) nx:=by
  rcases hfr with h | h
  ·exact .inl h
  ·exact .inr (by rw [D9 hr,QA hin];exact h)
 have hnk:∀k,H.Known k->k≠nx:=fun k hk e=>hfr.not_known hr (e ▸ hk)
 have hget':∀k,((H.kill id).put nx (.row z es')).get k=if k=nx then some (.row z es') else if id=k then none else H.get k:=by
  intro k;rw [uR (CD hr id) hfk,D9 hr]
 have hM:∀k,Mut I H b k:=fun k=>⟨id,_,o,hget,hb,trivial⟩
 have he:Ext (Mut I H) w (nD w b c' ty):=U9 _ hblk hs (fun k hk=>absurd (hM k) hk);have ht:Tr w I H (nD w b c' ty) (upd I nx (some (b,o'))) ((H.kill id).put nx (.row z es')):=by
  refine ⟨he,?_,fun k hk=>⟨OE hk.1 (US (H.kill id) nx _),by rw [hget',QA (hnk k hk)];split;simp;exact hk.2⟩,?_,?_,?_⟩
  ·rintro b2 i ⟨k,ob,o2,h1,h2,h3⟩;rw [hget'] at h1;by_cases e:k=nx
   ·subst e;rw [iZ] at h2;cases h2;exact .inl (hM i)
   ·rw [QA e] at h1;split at h1
    ·cases h1
    ·rw [nB _ _ e] at h2;exact .inl ⟨k,ob,o2,h1,h2,h3⟩
  ·intro k zz ees hk h;rw [hget',QA (hnk k hk)] at h;split at h
   ·cases h
   ·exact ⟨⟨ees,h,rfl⟩,nB _ _ (hnk k hk)⟩
  ·intro k ees hk h;rw [hget',QA (hnk k hk)] at h;split at h
   ·cases h
   ·exact ⟨⟨ees,h⟩,nB _ _ (hnk k hk)⟩
  ·intro k zz f hk h;rw [hget',QA (hnk k hk)] at h;split at h
   ·cases h
   ·exact ⟨f,h,Qb _,fun _=>nB _ _ (hnk k hk)⟩
 refine ⟨ht,wB hr.base he.size,hr.far,?_,?_,?_,?_⟩
 ·exact Ge (CD hr id) nx _
 ·intro k hk;have h1:=cu (CD hr id) hfk (.row z es');have h2:=US (H.kill id) nx (.row z es');rw [AH.next_kill] at h2;rw [hget',QA (by omega),QA (by omega)];exact hr.next k (by omega)
 ·intro k1 k2 ob1 ob2 b2 p1 p2 h1 h2 h3 h4;rw [hget'] at h1 h2;by_cases e1:k1=nx<;>by_cases e2:k2=nx
  ·omega
  ·subst e1;rw [iZ] at h3;cases h3;rw [QA e2] at h2;rw [nB _ _ e2] at h4;split at h2
   ·cases h2
   ·rename_i hne;exact absurd (hr.inj id k2 _ _ b o p2 hget h2 hb h4) hne
  ·subst e2;rw [iZ] at h4;cases h4;rw [QA e1] at h1;rw [nB _ _ e1] at h3;split at h1
   ·cases h1
   ·rename_i hne;exact absurd (hr.inj id k1 _ _ b o p1 hget h1 hb h3) hne
  ·rw [QA e1] at h1;rw [QA e2] at h2;rw [nB _ _ e1] at h3;rw [nB _ _ e2] at h4;split at h1
   ·cases h1
   ·split at h2
    ·cases h2
    ·exact hr.inj k1 k2 _ _ b2 p1 p2 h1 h2 h3 h4
 ·intro k ob h;have h0:=h;rw [hget'] at h;by_cases e:k=nx
  ·subst e;rw [a9 rfl] at h;cases h;refine ⟨b,o',c',iZ _ _ _,hB0,⟨ty,by rw [A5 _ _ _ _ hbl,a9 rfl]⟩,by omega,hz,?_⟩;intro i j e x he hx;obtain ⟨v,k1,k2,k3⟩:=hc i j e x he hx;exact ⟨v,k1,k2,ht.vr k3⟩
  ·rw [QA e] at h;split at h
   ·cases h
   ·rename_i hne;refine (hr.obj k ob h).tr ht (nB _ _ e) (fun b2 p2 hb2=>?_);rw [A5 _ _ _ _ hbl,QA];intro hbb;subst hbb;exact hne (hr.inj id k _ _ b2 o p2 hget h hb hb2)
theorem Z9 {b:Nat} {c:Array Value} {ty:TypeId} (h:w.heap[b]? =some (.cells c ty (0,0))):nD w b c ty=w:=by
 have hb:=w8 h;have e2:w.heap.setIfInBounds b (.cells c ty (0,0))=w.heap:=by
  apply OH;intro k;rw [Array.getElem?_setIfInBounds];by_cases hk:b=k
  ·subst hk;rw [a9 rfl,a9 hb,h]
  ·rw [QA hk]
 unfold nD;rw [e2]
theorem Iz {t u ty el:TypeId} {z:Nat} (A:AT P t u el z) {nx:Nat} (hfr:Free H nx) (hr:HR F B0 w I H) {id off len:Nat} {es ys:List (List AV)} {xv y:Value}
  (hx:VRH F w I H (.row id z off len) xv) (hget:H.get id=some (.row z es)) (hf:off+len=es.length) (hy:SrcQ P (VRH F w I H) w z ys y) (hzn:∀e∈ys,e.length=z)
  (hb:(len+ys.length)*P.bytesOf el<=2^46):
  ∃v w',(Builtin.append_ #[t,u] ty #[xv,y]).run P w= .ok v w'/\Good F B0 w I H (.row nx z 0 (len+ys.length)) ((H.kill id).put nx (.row z (es.drop off++ys))) v w':=by
 obtain ⟨hid,⟨base,cap,rfl,hlc,hsh⟩,hl⟩:=AA hx;obtain ⟨b,o,base',cap',c0,e1,e2,e3,e4,e5,e6,e9⟩:=hl _ _ hget;cases e2;obtain ⟨b',o',c,m1,m2,⟨tyb,m3⟩,m4,m5,m6⟩:=hr.obj id _ hget;rw [e1] at m1;cases m1;have hcc:c0=c:=by
  obtain ⟨ty0,e5⟩:=e5;rw [m3] at e5;cases e5;rfl
 subst hcc;have hbl:=w8 m3;have hin:id≠nx:=by
  rintro rfl;exact hfr.not_known hr hid
 have hfk:Free (H.kill id) nx:=by
  rcases hfr with h | h
  ·exact .inl h
  ·exact .inr (by rw [D9 hr,QA hin];exact h)
 have hkn:((H.kill id).put nx (.row z (es.drop off++ys))).Known nx:=EE (CD hr id) hfk (by simp);have hdl:(es.drop off).length=len:=by simp;omega
 have hzd:∀e∈es.drop off,e.length=z:=fun e he=>m5 e (DU he)
 have hold:∀(i j:Nat) e x,(es.drop off)[i]? =some e->e[j]? =some x->∃v,c0[o+off*z+i*z+j]? =some v/\v.oneCell'=true/\VRH F w I H x v:=by
  intro i j e x he hx';rw [List.getElem?_drop] at he;obtain ⟨v,q1,q2,q3⟩:=m6 _ j e x he hx';refine ⟨v,?_,q2,q3⟩;rw [<- q1,j5];congr 1;omega
 have hza:∀e∈es.drop off++ys,e.length=z:=fun e he=>(nE.1 he).elim (hzd e) (hzn e)
 by_cases hroom:len+ys.length<=cap
 ·by_cases hc0:cap=0
  ·subst hc0;have hl0:len=0:=by omega
   subst hl0;have hys:ys=[]:=Qg (by omega);subst hys;obtain ⟨cl,n1,n2,n3,n4,n5⟩:=hy;have hcl:cl=[]:=Qg (by simpa using n1);subst hcl;have hfc:=n4 w 0 rfl (Qb _);have hd0:es.drop off=[]:=Qg hdl;obtain ⟨g1,g2⟩:=qn (es':=[]) (o':=o) hfr hr hget e1 m3 rfl (by simp) (by simp;omega) (by simp);rw [Z9 m3] at g1 g2;refine ⟨_,_,L8 (cap:=0) A.ht A.hz A.hu (n3 w) hfc (by simp) (W':=w) ?_,?_⟩
   ·cases base with
    | none=>rfl
    | some a=>simp [storeCells]
   ·rw [hd0] at hkn ⊢;refine ⟨_,g1,g2,.l ⟨hkn,⟨_,_,rfl,by simp,.inl (by simp)⟩,?_⟩⟩;intro zz ees hg;rw [uR (CD hr id) hfk,a9 rfl] at hg;cases hg;exact ⟨b,o,base,0,c0,iZ _ _ _,rfl,by simp,.inl rfl,⟨tyb,m3⟩,by simp;omega,by simp⟩
  ·have hbase:base=some ⟨b,o+off*z,none⟩:=e4.resolve_left hc0;subst hbase;have hcap:o+off*z+cap*z<=c0.size:=by rw [j5] at e6;omega
   obtain ⟨c',r1,r2,r3,r4⟩:=xa (ty:=ty) A m3 hcap hy hzn hroom;have hmm:(len+ys.length)*z<=cap*z:=Qj _ hroom;obtain ⟨g1,g2⟩:=qn (es':=es.drop off++ys) (o':=o+off*z) (c':=c') hfr hr hget e1 m3 r2 hza (by rw [sR,hdl];omega) (by
    intro i j e x he hx';rw [List.getElem?_append] at he;split at he
    ·rename_i hi;obtain ⟨v,q1,q2,q3⟩:=hold i j e x he hx';have hj:j<z:=by
      have:=hzd e (Qe he);have:=zL hx';omega
     have hlt:i*z+j<len*z:=by
      have:(i+1)*z<=len*z:=Qj _ (by omega);rw [j5] at this;omega
     exact ⟨v,by rw [r3 _ (by omega)];exact q1,q2,q3⟩
    ·rename_i hi;obtain ⟨v,q1,q2,q3⟩:=r4 _ j e x he hx';rw [hdl] at q1;have:len+(i - len)=i:=by omega
     rw [this] at q1;exact ⟨v,q1,q2,q3⟩)
   refine ⟨_,_,r1,_,g1,g2,.l ⟨hkn,⟨_,_,rfl,hroom,.inr ⟨_,_,rfl⟩⟩,?_⟩⟩;intro zz ees hg;rw [uR (CD hr id) hfk,a9 rfl] at hg;cases hg;exact ⟨b,o+off*z,_,cap,c',iZ _ _ _,rfl,hroom,.inr (by simp),⟨tyb,by rw [A5 _ _ _ _ hbl,a9 rfl]⟩,by rw [ME];omega,by rw [sR,hdl];omega⟩
 ·have hsx:SrcQ P (VRH F w I H) w z (es.drop off) (.slice base (es.drop off).length cap):=by
   rcases Qw len with h0 | h0
   ·have hd0:es.drop off=[]:=Qg (by omega);rw [hd0];exact UY
   ·have hbase:base=some ⟨b,o+off*z,none⟩:=e4.resolve_left (by omega);subst hbase;refine ea hzd (fun i j e x he hx'=>?_);obtain ⟨v,q1,q2,q3⟩:=hold i j e x he hx';exact ⟨v,cell_iff.2 ⟨c0,tyb,(0,0),m3,q1⟩,q2,q3⟩
  obtain ⟨c,cap2,g1,g2,g3,g4,g5⟩:=UK (ty:=ty) A hsx hy hzd hzn (by omega) (by rw [hdl];exact hb);rw [hdl] at g3 g1;refine ⟨_,_,g3,?_⟩;have hk:=CD hr id;have htk:=NP hr id;obtain ⟨k1,k2⟩:=UJ hfk hk.drew c el z (es.drop off++ys) g4 (by rw [sR,hdl];exact wB (Qj _ g1) g2) (fun i j e x he hx'=>by
   obtain ⟨v,q1,q2,q3⟩:=g5 i j e x he hx';exact ⟨v,q1,q2,tr_drew.vr (htk.vr q3)⟩)
  refine ⟨_,htk.trans (tr_drew.trans k1),k2,.l ⟨hkn,⟨_,_,rfl,g1,.inr ⟨_,_,rfl⟩⟩,?_⟩⟩;intro zz ees hg;rw [uR (CD hr id) hfk,a9 rfl] at hg;cases hg;exact ⟨w.drew.heap.size,0,_,cap2,c,iZ _ _ _,rfl,g1,.inr (by simp),⟨el,CA _ _⟩,by simpa using g2,by rw [sR,hdl];omega⟩
theorem fg (hr:HR F B0 w I H) {id z off k:Nat} {es ys:List (List AV)} {b o:Nat} {c:Array Value} {tyb:TypeId} {cl:List Value} (hget:H.get id=some (.row z es)) (hb:I id=some (b,o))
  (m3:w.heap[b]? =some (.cells c tyb (0,0))) (hk:ys.length=k) (hle:off+k<=es.length) (hz:∀e∈ys,e.length=z) (hcl:cl.length=k*z) (h1:∀u∈cl,u.oneCell'=true)
  (hc:∀(i j:Nat) e x,ys[i]? =some e->e[j]? =some x->∃u,cl[i*z+j]? =some u/\VRH F w I H x u):
  ∃w',(storeCells ⟨b,o+off*z,none⟩ cl).run P w= .ok () w'/\Tr w I H w' I (H.set id (.row z (es.take off++ys++es.drop (off+k))))/\
   HR F B0 w' I (H.set id (.row z (es.take off++ys++es.drop (off+k)))):=by
 obtain ⟨b',o',c1,m1,m2,⟨ty1,m3'⟩,m4,m5,m6⟩:=hr.obj id _ hget;rw [hb] at m1;cases m1;rw [m3] at m3';cases m3';have hbl:=w8 m3;have hm:(off+k)*z<=es.length*z:=Qj _ hle;have hm2:(off+k)*z=off*z+k*z:=j5 _ _ _;obtain ⟨c',r1,r2,r3⟩:=Yp P cl w b (o+off*z) 0 c tyb m3 (by omega) h1;have hM:∀q,Mut I H b q:=fun q=>⟨id,_,o,hget,hb,trivial⟩
 have he:Ext (Mut I H) w (nD w b c' tyb):=U9 _ m3 r2 (fun q hq=>absurd (hM q) hq);have ht:=VS hr hget hb he (ob':= .row z (es.take off++ys++es.drop (off+k))) (fun _ h=>h) (.inl ⟨z,es,_,rfl,rfl,by simp;omega⟩);have hza:∀e∈es.take off++ys++es.drop (off+k),e.length=z:=by
  intro e he;rcases nE.1 he with he | he
  ·rcases nE.1 he with he | he
   ·exact m5 e (Qu he)
   ·exact hz e he
  ·exact m5 e (DU he)
 refine ⟨_,r1,ht,VX hr hget hb ht (fun q hq hqb=>by rw [A5 _ _ _ _ hbl,QA hqb]) ?_⟩;refine ⟨b,o,c',hb,m2,⟨tyb,by rw [A5 _ _ _ _ hbl,a9 rfl]⟩,?_,hza,?_⟩
 ·have:(es.take off++ys++es.drop (off+k)).length=es.length:=by simp;omega
  rw [this];omega
 ·intro i j e x he' hx;have hj:j<z:=by
   have:=hza e (Qe he');have:=zL hx;omega
  have ht0:(es.take off).length=off:=by simp;omega
  rw [AN,List.getElem?_append,ht0] at he';split at he'
  ·rename_i hi;rw [List.getElem?_take,a9 hi] at he';obtain ⟨v,q1,q2,q3⟩:=m6 i j e x he' hx;have hlt:i*z+j<off*z:=by
    have:(i+1)*z<=off*z:=Qj _ hi;rw [j5] at this;omega
   exact ⟨v,by rw [r3,QA (by omega)];exact q1,q2,ht.vr q3⟩
  ·rename_i hi;rw [List.getElem?_append] at he';split at he'
   ·rename_i hi2;obtain ⟨u,q1,q2⟩:=hc _ j e x he' hx;have hlt:=zL q1;have e1:i*z=off*z+(i - off)*z:=by rw [<- j5];congr 1;omega
    refine ⟨u,?_,h1 u (Qe q1),ht.vr q2⟩;rw [r3,a9 (by omega),<- q1];congr 1;omega
   ·rename_i hi2;rw [List.getElem?_drop] at he';have e1:off+k+(i - off - ys.length)=i:=by omega
    rw [e1] at he';obtain ⟨v,q1,q2,q3⟩:=m6 i j e x he' hx;have hge:(off+k)*z<=i*z:=Qj _ (by omega);exact ⟨v,by rw [r3,QA (by omega)];exact q1,q2,ht.vr q3⟩
theorem Iy {t u ty el:TypeId} {z:Nat} (A:AT P t u el z) (hr:HR F B0 w I H) {id off len:Nat} {es ys:List (List AV)} {xv y:Value}
  (hx:VRH F w I H (.row id z off len) xv) (hget:H.get id=some (.row z es)) (hle:off+len+ys.length<=es.length) (hy:SrcQ P (VRH F w I H) w z ys y) (hzn:∀e∈ys,e.length=z):
  ∃v w',(Builtin.append_ #[t,u] ty #[xv,y]).run P w= .ok v w'/\Good F B0 w I H (.row id z off (len+ys.length)) (H.set id (.row z (es.take (off+len)++ys++es.drop (off+len+ys.length)))) v w':=by
 obtain ⟨hid,⟨base,cap,rfl,hlc,hsh⟩,hl⟩:=AA hx;obtain ⟨b,o,base',cap',c0,e1,e2,e3,e4,⟨tyb,e5⟩,e6,e9⟩:=hl _ _ hget;cases e2;obtain ⟨cl,n1,n2,n3,n4,n5⟩:=hy;have hfc:=n4 w ys.length rfl (Qb _);rw [Qo (by omega)] at hfc;have hroom:len+ys.length<=cap:=by omega
 obtain ⟨w',r1,r2,r3⟩:=fg (P:=P) hr (off:=off+len) (k:=ys.length) (ys:=ys) (cl:=cl) hget e1 e5 rfl hle hzn n1 n2 n5;have hlen:(es.take (off+len)++ys++es.drop (off+len+ys.length)).length=es.length:=by simp;omega
 have fin:∀(base:Option Addr),(cap=0\/base=some ⟨b,o+off*z,none⟩)->(len+ys.length=0\/∃b k,base=some ⟨b,k,none⟩)->
   Good F B0 w I H (.row id z off (len+ys.length)) (H.set id (.row z (es.take (off+len)++ys++es.drop (off+len+ys.length)))) (.slice base (len+ys.length) cap) w':=by
  intro base q1 q2;refine ⟨I,r2,r3,.l ⟨MT (by simp) hid,⟨_,_,rfl,hroom,q2⟩,?_⟩⟩;intro zz ees hg;rw [AH.get_set,a9 rfl,hget] at hg;simp only [F2] at hg;cases hg;obtain ⟨c',k1,k2⟩:=r2.ext.blk ⟨tyb,e5⟩;exact ⟨b,o,base,cap,c',e1,rfl,hroom,q1,k1,by omega,by omega⟩
 by_cases hc0:cap=0
 ·have hys:ys=[]:=Qg (by omega);subst hys;have hcl:cl=[]:=Qg (by simpa using n1);subst hcl;have hw:w'=w:=by
   have:(storeCells ⟨b,o+(off+len)*z,none⟩ ([]:List Value)).run P w= .ok () w:=rfl;rw [this] at r1;injection r1 with _ h;exact h.symm
  subst hw;refine ⟨_,_,L8 (cap:=cap) A.ht A.hz A.hu (n3 w') hfc hroom (W':=w') ?_,fin _ (.inl hc0) (.inl (by simp;omega))⟩;cases base with
  | none=>rfl
  | some a=>simp [storeCells]
 ·have hbase:base=some ⟨b,o+off*z,none⟩:=e4.resolve_left hc0;subst hbase;refine ⟨_,_,L8 (cap:=cap) A.ht A.hz A.hu (n3 w) hfc hroom (W':=w') ?_,fin _ (.inr rfl) (.inr ⟨_,_,rfl⟩)⟩;have:o+(off+len)*z=o+off*z+len*z:=by rw [j5];omega
  rw [this] at r1;simp only [D7];exact r1
theorem Lk {t u ty el:TypeId} {z:Nat} (ht:P.underlying t=some (.slice el)) (hz:szOf P el=some z) (hr:HR F B0 w I H) {id off len:Nat} {es ys:List (List AV)} {xv y:Value}
  (hx:VRH F w I H (.row id z off len) xv) (hget:H.get id=some (.row z es)) (hle:off+len<=es.length) (hy:SrcQ P (VRH F w I H) w z ys y) (hzn:∀e∈ys,e.length=z):
  ∃v w',(Builtin.copy_ #[t,u] ty #[xv,y]).run P w= .ok v w'/\
   Good F B0 w I H (.int .i64 (min len ys.length:Nat)) (H.set id (.row z (es.take off++ys.take (min len ys.length)++es.drop (off+min len ys.length)))) v w':=by
 obtain ⟨hid,⟨base,cap,rfl,hlc,hsh⟩,hl⟩:=AA hx;obtain ⟨b,o,base',cap',c0,e1,e2,e3,e4,⟨tyb,e5⟩,e6,e9⟩:=hl _ _ hget;cases e2;obtain ⟨cl,n1,n2,n3,n4,n5⟩:=hy;have hfc:=n4 w (min len ys.length) rfl (Nat.min_le_right _ _);have hmin:Nat.min ys.length len=min len ys.length:=by rw [Nat.min_comm]
 obtain ⟨w',r1,r2,r3⟩:=fg (P:=P) hr (off:=off) (k:=min len ys.length) (ys:=ys.take (min len ys.length)) (cl:=cl.take (min len ys.length*z)) hget e1 e5 (by simp) (by omega)
  (fun e he=>hzn e (Qu he)) (by
   rw [iF,n1];have:min len ys.length*z<=ys.length*z:=Qj _ (Nat.min_le_right _ _);omega) (fun v hv=>n2 v (Qu hv)) (by
   intro i j e x he hx';rw [List.getElem?_take] at he;split at he
   ·rename_i hi;obtain ⟨v,q1,q2⟩:=n5 i j e x he hx';have hj:j<z:=by
     have:=hzn e (Qe he);have:=zL hx';omega
    have:(i+1)*z<=min len ys.length*z:=Qj _ hi;rw [j5] at this;refine ⟨v,?_,q2⟩;rw [List.getElem?_take,a9 (by omega)];exact q1
   ·cases he)
 by_cases hc0:cap=0
 ·have hl0:len=0:=by omega
  subst hl0;have hcl:cl.take (min 0 ys.length*z)=[]:=by simp
  rw [hcl] at r1;have hw:w'=w:=by
   have:(storeCells ⟨b,o+off*z,none⟩ ([]:List Value)).run P w= .ok () w:=rfl;rw [this] at r1;injection r1 with _ h;exact h.symm
  subst hw;refine ⟨.int .i64 0,w',?_,I,r2,r3,by simpa using (VR.d (.int _ _))⟩;rw [hcl] at hfc;have hm0:Nat.min ys.length 0=0:=Nat.min_zero _;have hfc':(Builtin.firstCells z 0 y).run P w'= .ok #[] w':=by simpa using hfc
  cases base with
  | none=>simp [Builtin.copy_,b9 w' ht,uJ w' hz,n3,hm0,hfc',goInt]
  | some a=>simp [Builtin.copy_,b9 w' ht,uJ w' hz,n3,hm0,hfc',goInt,storeCells]
 ·have hbase:base=some ⟨b,o+off*z,none⟩:=e4.resolve_left hc0;subst hbase;refine ⟨_,w',?_,I,r2,r3,.d (.int _ _)⟩;simp [Builtin.copy_,b9 w ht,uJ w hz,n3,hmin,hfc,r1,goInt]
theorem Ff {t ty el:TypeId} {zs:List AV} {z:Nat} (ht:P.underlying t=some (.slice el)) (hzero:sI P el=some zs) (hzl:zs.length=z) (hr:HR F B0 w I H) {id off len:Nat} {es:List (List AV)} {xv:Value}
  (hx:VRH F w I H (.row id z off len) xv) (hget:H.get id=some (.row z es)) (hle:off+len<=es.length):
  ∃v w',(Builtin.clear_ #[t] ty #[xv]).run P w= .ok v w'/\
   Good F B0 w I H (.tup []) (H.set id (.row z (es.take off++List.replicate len zs++es.drop (off+len)))) v w':=by
 obtain ⟨hid,⟨base,cap,rfl,hlc,hsh⟩,hl⟩:=AA hx;obtain ⟨b,o,base',cap',c0,e1,e2,e3,e4,⟨tyb,e5⟩,e6,e9⟩:=hl _ _ hget;cases e2;obtain ⟨zv,hzv,hpz⟩:=NS (F:=F) (w:=w) (I:=I) (H:=H) hzero;have hzs:zv.cells.size=z:=by have:=hpz.1;simp at this;omega
 have hcell:∀k,k<len*z->(Builtin.zeroCells zv.cells len).toList[k]? =zv.cells[k % z]? :=by
  intro k hk;have hz0:0<z:=by
   rcases Qw z with h | h
   ·rw [h] at hk;simp at hk
   ·exact h
  have hmod:k % z<zv.cells.size:=by rw [hzs];exact Nat.mod_lt _ hz0
  simp only [Builtin.zeroCells,Array.getElem?_toList,Array.getElem?_map,Array.getElem?_range,hzs];rw [a9 hk];simp [getElem!_def,Array.getElem?_eq_getElem hmod]
 obtain ⟨w',r1,r2,r3⟩:=fg (P:=P) hr (off:=off) (k:=len) (ys:=List.replicate len zs) (cl:=(Builtin.zeroCells zv.cells len).toList) hget e1 e5 (by simp) hle
  (fun e he=>by rw [WP he];exact hzl) (by simp [Builtin.zeroCells,hzs]) (by
   intro u hu;obtain ⟨k,hk,rfl⟩:=Qn.1 hu;have hk':k<len*z:=by simpa [Builtin.zeroCells,hzs] using hk
   have:=hcell k hk';rw [Qa hk] at this;have hm:=Qe (l:=zv.cells.toList) (by rw [Array.getElem?_toList];exact this.symm);exact hpz.2.1 _ hm) (by
   intro i j e x he hx';have hi:i<len:=by
    have:=zL he;simpa using this
   have hee:e=zs:=by simp [List.getElem?_replicate,hi] at he;exact he.symm
   subst hee;have hj:j<z:=by have:=zL hx';omega
   obtain ⟨u,q1,q2,q3⟩:=hpz.get hx';have hlt:i*z+j<len*z:=by
    have:(i+1)*z<=len*z:=Qj _ hi;rw [j5] at this;omega
   refine ⟨u,?_,q3⟩;rw [hcell _ hlt];have hmod:(i*z+j) % z=j:=by rw [Nat.mul_comm,Nat.mul_add_mod];exact QC hj
   rw [hmod];simpa using q1)
 rcases Qw len with hl0 | hlp
 ·subst hl0;have hz0:(Builtin.zeroCells zv.cells 0).toList=[]:=Qg (by simp [Builtin.zeroCells]);rw [hz0] at r1;have hw:w'=w:=by
   have:(storeCells ⟨b,o+off*z,none⟩ ([]:List Value)).run P w= .ok () w:=rfl;rw [this] at r1;injection r1 with _ h;exact h.symm
  subst hw;refine ⟨.tuple #[],w',?_,I,r2,r3,.d (.tup [] #[] rfl (by simp))⟩;cases base<;>simp [Builtin.clear_,b9 w' ht]
 ·have hbase:base=some ⟨b,o+off*z,none⟩:=e4.resolve_left (by omega);subst hbase;refine ⟨.tuple #[],w',?_,I,r2,r3,.d (.tup [] #[] rfl (by simp))⟩;cases len with
  | zero=>omega
  | succ n=>simp [Builtin.clear_,b9 w ht,hzv,r1]
end
end Go.Av
namespace Go.Av
section
variable {F:Nat->Nat->Prop} {B0:Nat} {w:World} {I:Beta} {H:AH} {P:Program}
theorem SG (W:World) {r:Nat} {es:Array MapEntry} {ck:Nat} (h:W.heap[r]? =some (.map es ck)):(getObj r).run P W= .ok (.map es ck) W:=by
 simp [getObj,Sem.run,h]
theorem ww (W:World) {r:Nat} {es:Array MapEntry} {ck:Nat} (h:W.heap[r]? =some (.map es ck)) (o:Obj):
  (setObj r o).run P W= .ok () { W with heap:=W.heap.setIfInBounds r o }:=by
 simp [setObj,Sem.run,h]
structure PairT (P:Program) (t:TypeId) (f0 f1:Field):Prop where
 hu:P.underlying t=some (.struct #[f0,f1])
 i0:∃k,P.underlying f0.type=some (.int k)
 i1:∃k,P.underlying f1.type=some (.int k)
 o0:f0.offset=0
 o1:f1.offset=1
 s0:szOf P f0.type=some 1
 s1:szOf P f1.type=some 1
 lv:sE P 20 t=some [.i,.i]
theorem qz {t:TypeId} {kd:Kd} (h:DP P t=some kd):(∃td,P.underlying t=some td/\((td= .bool/\kd= .b)\/(∃k,td= .int k/\kd= .i)\/(td= .string/\kd= .s)))\/(kd= .p/\∃f0 f1,PairT P t f0 f1):=by
 unfold DP at h;split at h
 ·rename_i hu;cases h;exact .inl ⟨_,hu,.inl ⟨rfl,rfl⟩⟩
 ·rename_i k hu;cases h;exact .inl ⟨_,hu,.inr (.inl ⟨k,rfl,rfl⟩)⟩
 ·rename_i hu;cases h;exact .inl ⟨_,hu,.inr (.inr ⟨rfl,rfl⟩)⟩
 ·rename_i fs hu;split at h
  ·rename_i f0 f1 hfs;obtain ⟨l⟩:=fs;simp only at hfs;subst hfs;split at h
   ·rename_i k0 k1 h0 h1;split at h
    ·rename_i hc;cases h;exact .inr ⟨rfl,f0,f1,hu,⟨_,h0⟩,⟨_,h1⟩,hc.1,hc.2.1,hc.2.2.1,hc.2.2.2.1,hc.2.2.2.2⟩
    ·cases h
   ·cases h
  ·cases h
 ·cases h
theorem ZN {kd:Kd} {x y:AV} {r:Bool} {a b:Value} (hkp:kd≠ .p) (h:eqKd kd x y=some r) (ha:VRH F w I H x a) (hb:VRH F w I H y b):
  (∃p q,kd= .b/\a= .bool p/\b= .bool q/\r=(p == q))\/(∃k p q,kd= .i/\a= .int k p/\b= .int k q/\r=(p == q))\/
  (∃p q:List UInt8,kd= .s/\a= .string ⟨p.toArray⟩/\b= .string ⟨q.toArray⟩/\r=(p == q)):=by
 unfold eqKd at h;split at h
 ·cases h;exact .inl ⟨_,_,rfl,wH ha,wH hb,rfl⟩
 ·split at h
  ·rename_i hk;subst hk;cases h;exact .inr (.inl ⟨_,_,_,rfl,fG ha,fG hb,rfl⟩)
  ·cases h
 ·cases h;exact .inr (.inr ⟨_,_,rfl,uV ha,uV hb,rfl⟩)
 ·exact absurd rfl hkp
 ·cases h
theorem oh {t:TypeId} {kd:Kd} {td:TypeDesc} {x y:AV} {r:Bool} {a b:Value} (htd:(td= .bool/\kd= .b)\/(∃k,td= .int k/\kd= .i)\/(td= .string/\kd= .s))
  (h:eqKd kd x y=some r) (ha:VRH F w I H x a) (hb:VRH F w I H y b):Instr.sameNow td a b=some r/\(r=true->Instr.sameBits 10000 b a=true):=by
 have hkp:kd≠ .p:=by rintro rfl;rcases htd with ⟨_,e⟩ | ⟨_,_,e⟩ | ⟨_,e⟩<;>cases e
 rcases ZN hkp h ha hb with ⟨p,q,rfl,rfl,rfl,rfl⟩ | ⟨k,p,q,rfl,rfl,rfl,rfl⟩ | ⟨p,q,rfl,rfl,rfl,rfl⟩
 ·rcases htd with ⟨rfl,_⟩ | ⟨k,_,e⟩ | ⟨_,e⟩
  ·refine ⟨rfl,fun e=>?_⟩;have:p=q:=by simpa using e
   subst this;simp [Instr.sameBits]
  ·cases e
  ·cases e
 ·rcases htd with ⟨_,e⟩ | ⟨k',rfl,_⟩ | ⟨_,e⟩
  ·cases e
  ·refine ⟨by simp [Instr.sameNow],fun e=>?_⟩;have:p=q:=by simpa using e
   subst this;simp [Instr.sameBits]
  ·cases e
 ·rcases htd with ⟨_,e⟩ | ⟨k,_,e⟩ | ⟨rfl,_⟩
  ·cases e
  ·cases e
  ·have hb:((⟨p.toArray⟩:ByteArray) == ⟨q.toArray⟩)=(p == q):=by
    rw [beq_toListBytes,ByteArray.toList_eq,ByteArray.toList_eq]
   refine ⟨by simp only [Instr.sameNow,hb],fun e=>?_⟩;have:p=q:=by simpa using e
   subst this;simp only [Instr.sameBits,hb];exact e
theorem dw (W:World) {t:TypeId} {td:TypeDesc} (b:Bool) (n:Nat) (hu:P.underlying t=some td) (h:td= .bool\/(∃k,td= .int k)\/td= .string) (v:Value):
  (Instr.checkKey b (n+1) t v).run P W= .ok () W:=by
 rcases h with rfl | ⟨k,rfl⟩ | rfl<;>simp [Instr.checkKey,b9 W hu]
theorem nh {kd:Kd} {td:TypeDesc} (htd:(td= .bool/\kd= .b)\/(∃k,td= .int k/\kd= .i)\/(td= .string/\kd= .s)) {k:AV} {kv:Value} (hk:VRH F w I H k kv):
  ∀(ents:List (AV×AV)) (es:List MapEntry) (i:Nat) (r:Option AV),ents.length=es.length->
   (∀(j:Nat) k x e,ents[j]? =some (k,x)->es[j]? =some e->VRD w (Imm F I H) k e.key/\VRH F w I H x e.val)->nL kd k ents=some r->
   (r=none/\Instr.findNow td kv es i=some none)\/(∃x j e,r=some x/\Instr.findNow td kv es i=some (some (i+j,e.val))/\es[j]? =some e/\VRH F w I H x e.val/\Instr.sameBits 10000 e.key kv=true/\
    ∀v,putA kd k v ents=some (ents.set j (k,v))/\delA kd k ents=some (ents.eraseIdx j))
 | [],[],i,r,_,_,h=>by
  simp only [nL] at h;split at h
  ·cases h
  ·cases h;exact .inl ⟨rfl,rfl⟩
 | (k',x)::ents,e::es,i,r,hl,hrel,h=>by
  obtain ⟨h1,h2⟩:=hrel 0 k' x e rfl rfl;simp only [nL] at h;split at h
  ·cases h
  ·rename_i heq;cases h;obtain ⟨s1,s2⟩:=oh (t:=0) htd heq hk (.d h1);refine .inr ⟨x,0,e,rfl,?_,rfl,h2,s2 rfl,?_⟩
   ·simp [Instr.findNow,s1]
   ·intro v;simp [putA,delA,heq]
  ·rename_i heq;obtain ⟨s1,s2⟩:=oh (t:=0) htd heq hk (.d h1);rcases nh htd hk ents es (i+1) r (by simpa using hl) (fun j k x e ha hb=>hrel (j+1) k x e (by simpa using ha) (by simpa using hb)) h with ⟨rfl,q⟩ | ⟨x,j,e',rfl,q1,q2,q3,q4,q5⟩
   ·exact .inl ⟨rfl,by simp [Instr.findNow,s1,q]⟩
   ·refine .inr ⟨x,j+1,e',rfl,?_,by simpa using q2,q3,q4,?_⟩
    ·simp only [Instr.findNow,s1,q1];congr 3;omega
    ·intro v;obtain ⟨p1,p2⟩:=q5 v;simp [putA,delA,heq,p1,p2]
 | [],_::_,_,_,hl,_,_=>by simp at hl
 | _::_,[],_,_,hl,_,_=>by simp at hl
theorem mq {kd:Kd} {k v:AV}:∀{ents:List (AV×AV)},nL kd k ents=some none->putA kd k v ents=some (ents++[(k,v)])/\delA kd k ents=some ents
 | [],_=>⟨rfl,rfl⟩
 | (k',x)::ents,h=>by
  simp only [nL] at h;split at h
  ·cases h
  ·cases h
  ·rename_i heq;obtain ⟨h1,h2⟩:=mq (v:=v) h;simp [putA,delA,heq,h1,h2]
theorem tw {kd:Kd} {k v:AV} (hok:kdOk kd k=true):∀{ents es':List (AV×AV)},putA kd k v ents=some es'->∃r,nL kd k ents=some r
 | [],_,_=>⟨none,by simp [nL,hok]⟩
 | (k',x)::ents,es',h=>by
  simp only [putA] at h;split at h
  ·cases h
  ·rename_i heq;exact ⟨some x,by simp [nL,heq]⟩
  ·rename_i heq;cases hp:putA kd k v ents with
   | none=>rw [hp] at h;cases h
   | some q=>
    obtain ⟨r,hr⟩:=tw hok hp;exact ⟨r,by simp [nL,heq,hr]⟩
theorem ua (W:World) {t:TypeId} {td:TypeDesc} (hu:P.underlying t=some td) {kv:Value} {es:List MapEntry} {r:Option (Nat×Value)} (h:Instr.findNow td kv es 0=some r):
  (Instr.findKey t kv es).run P W= .ok r W:=by
 simp [Instr.findKey,b9 W hu,h]
theorem Ej {td:TypeDesc} {kd:Kd} (h:(td= .bool/\kd= .b)\/(∃k,td= .int k/\kd= .i)\/(td= .string/\kd= .s)):td= .bool\/(∃k,td= .int k)\/td= .string:=by
 rcases h with ⟨h,_⟩ | ⟨k,h,_⟩ | ⟨h,_⟩
 ·exact .inl h
 ·exact .inr (.inl ⟨k,h⟩)
 ·exact .inr (.inr h)
theorem VM {k k':IntKind} {x y:Int} {v:Value} (h:VRH F w I H (.agg [.int k x,.int k' y]) v):v= .agg #[.int k x,.int k' y]:=by
 obtain ⟨vs,rfl,h1⟩:=CL h;obtain ⟨l⟩:=vs;have hl:=h1.1
 match l,hl,h1 with
 | [a,b],_,h1=>
  obtain ⟨u,e1,_,e3⟩:=h1.get (i:=0) (x:= .int k x) rfl;obtain ⟨u',e1',_,e3'⟩:=h1.get (i:=1) (x:= .int k' y) rfl;simp at e1 e1';subst e1;subst e1';rw [fG e3,fG e3']
theorem Ra {x y:AV} {r:Bool} {a b:Value} (h:eqKd .p x y=some r) (ha:VRH F w I H x a) (hb:VRH F w I H y b):
  ∃k k' p q p' q',x= .agg [.int k p,.int k' q]/\y= .agg [.int k p',.int k' q']/\a= .agg #[.int k p,.int k' q]/\b= .agg #[.int k p',.int k' q']/\r=((p == p')&&(q == q')):=by
 unfold eqKd at h;split at h
 ·cases (by assumption:Kd.p=Kd.b)
 ·cases (by assumption:Kd.p=Kd.i)
 ·cases (by assumption:Kd.p=Kd.s)
 ·split at h
  ·rename_i hk;obtain ⟨rfl,rfl⟩:=hk;cases h;exact ⟨_,_,_,_,_,_,rfl,rfl,VM ha,VM hb,rfl⟩
  ·cases h
 ·cases h
theorem qf {t:TypeId} {f0 f1:Field} (hp:PairT P t f0 f1) {x y:AV} {r:Bool} {a b:Value} (h:eqKd .p x y=some r) (ha:VRH F w I H x a) (hb:VRH F w I H y b) (W:World):
  (Op.equal t a b).run P W= .ok r W/\(r=true->Instr.sameBits 10000 b a=true):=by
 have hg:dE P t=some true:=by simp [dE,hp.hu]
 obtain ⟨k,k',p,q,p',q',rfl,rfl,rfl,rfl,rfl⟩:=Ra h ha hb;obtain ⟨va,e1,pa⟩:=CL ha;obtain ⟨vb,e2,pb⟩:=CL hb;cases e1;cases e2;have main:=S7 (F:=F) (w:=w) (I:=I) (H:=H) 20 9980 t _ hp.lv W _ _ [.int k p,.int k' q] [.int k p',.int k' q'] ((p == p')&&(q == q')) (.inl ⟨hg,_,rfl,pa⟩) (.inl ⟨hg,_,rfl,pb⟩) (by simp [eqLs,eqKd]);refine ⟨by simpa [Op.equal,Op.maxDepth] using main,?_⟩;intro e;simp only [d7,beq_iff_eq] at e;obtain ⟨rfl,rfl⟩:=e;simp [Instr.sameBits]
theorem mj {t:TypeId} {f0 f1:Field} (hp:PairT P t f0 f1) {k:AV} {kv:Value} (hk:VRH F w I H k kv) (W:World):
  ∀(ents:List (AV×AV)) (es:List MapEntry) (i:Nat) (r:Option AV),ents.length=es.length->
   (∀(j:Nat) k x e,ents[j]? =some (k,x)->es[j]? =some e->VRD w (Imm F I H) k e.key/\VRH F w I H x e.val)->nL .p k ents=some r->
   (r=none/\(Instr.findAsking t kv es i).run P W= .ok none W)\/(∃x j e,r=some x/\(Instr.findAsking t kv es i).run P W= .ok (some (i+j,e.val)) W/\es[j]? =some e/\VRH F w I H x e.val/\Instr.sameBits 10000 e.key kv=true/\
    ∀v,putA .p k v ents=some (ents.set j (k,v))/\delA .p k ents=some (ents.eraseIdx j))
 | [],[],i,r,_,_,h=>by
  simp only [nL] at h;split at h
  ·cases h
  ·cases h;exact .inl ⟨rfl,rfl⟩
 | (k',x)::ents,e::es,i,r,hl,hrel,h=>by
  obtain ⟨h1,h2⟩:=hrel 0 k' x e rfl rfl;simp only [nL] at h;split at h
  ·cases h
  ·rename_i heq;cases h;obtain ⟨s1,s2⟩:=qf hp heq hk (.d h1) W;refine .inr ⟨x,0,e,rfl,?_,rfl,h2,s2 rfl,?_⟩
   ·simp [Instr.findAsking,s1]
   ·intro v;simp [putA,delA,heq]
  ·rename_i heq;obtain ⟨s1,s2⟩:=qf hp heq hk (.d h1) W;rcases mj hp hk W ents es (i+1) r (by simpa using hl) (fun j k x e ha hb=>hrel (j+1) k x e (by simpa using ha) (by simpa using hb)) h with ⟨rfl,q⟩ | ⟨x,j,e',rfl,q1,q2,q3,q4,q5⟩
   ·exact .inl ⟨rfl,by simp [Instr.findAsking,s1,q]⟩
   ·refine .inr ⟨x,j+1,e',rfl,?_,by simpa using q2,q3,q4,?_⟩
    ·simp only [Instr.findAsking,Sem.run_bind,s1,Result.andThen_ok,nX,if_false,q1];congr 3;omega
    ·intro v;obtain ⟨p1,p2⟩:=q5 v;simp [putA,delA,heq,p1,p2]
 | [],_::_,_,_,hl,_,_=>by simp at hl
 | _::_,[],_,_,hl,_,_=>by simp at hl
theorem vg {t:TypeId} {kd:Kd} (hkt:DP P t=some kd) {k:AV} {kv:Value} (hk:VRH F w I H k kv) (ents:List (AV×AV)) (es:List MapEntry) (r:Option AV) (hl:ents.length=es.length)
  (hrel:∀(j:Nat) k x e,ents[j]? =some (k,x)->es[j]? =some e->VRD w (Imm F I H) k e.key/\VRH F w I H x e.val) (h:nL kd k ents=some r) (W:World):
  (r=none/\(Instr.findKey t kv es).run P W= .ok none W)\/(∃x j e,r=some x/\(Instr.findKey t kv es).run P W= .ok (some (j,e.val)) W/\es[j]? =some e/\VRH F w I H x e.val/\Instr.sameBits 10000 e.key kv=true/\
    ∀v,putA kd k v ents=some (ents.set j (k,v))/\delA kd k ents=some (ents.eraseIdx j)):=by
 rcases qz hkt with ⟨td,hut,htd⟩ | ⟨rfl,f0,f1,hp⟩
 ·rcases nh (F:=F) (w:=w) (I:=I) (H:=H) htd hk ents es 0 r hl hrel h with ⟨rfl,q⟩ | ⟨x,j,e,rfl,q1,q2,q3,q4,q5⟩
  ·exact .inl ⟨rfl,ua W hut q⟩
  ·rw [ME] at q1;exact .inr ⟨x,j,e,rfl,ua W hut q1,q2,q3,q4,q5⟩
 ·have hask:∀q,(Instr.findAsking t kv es 0).run P W= .ok q W->(Instr.findKey t kv es).run P W= .ok q W:=by
   intro q hq;cases es with
   | nil=>
    simp only [Instr.findAsking,Sem.run_pure] at hq;cases hq;simp [Instr.findKey,b9 W hp.hu,Instr.findNow]
   | cons e es=>
    have:Instr.findNow (.struct #[f0,f1]) kv (e::es) 0=none:=by simp [Instr.findNow,Instr.sameNow]
    simp only [Instr.findKey,Sem.run_bind,b9 W hp.hu,Result.andThen_ok,this];exact hq
  rcases mj (F:=F) (w:=w) (I:=I) (H:=H) hp hk W ents es 0 r hl hrel h with ⟨rfl,q⟩ | ⟨x,j,e,rfl,q1,q2,q3,q4,q5⟩
  ·exact .inl ⟨rfl,hask _ q⟩
  ·rw [ME] at q1;exact .inr ⟨x,j,e,rfl,hask _ q1,q2,q3,q4,q5⟩
theorem YF {t:TypeId} {f0 f1:Field} (hp:PairT P t f0 f1) {a c:IntKind} {x y:Int} {kv:Value} (hk:VRH F w I H (.agg [.int a x,.int c y]) kv) (b:Bool) (n:Nat) (W:World):
  (Instr.checkKey b (n+2) t kv).run P W= .ok () W:=by
 obtain rfl:=VM hk;obtain ⟨vs,e1,px⟩:=CL hk;cases e1;obtain ⟨k0,u0⟩:=hp.i0;obtain ⟨k1,u1⟩:=hp.i1;obtain ⟨v0,p0,_⟩:=MR (P:=P) (t:=f0.type) (off:=0) (g:=false) (by simp [dE,u0]) hp.s0 px (by simp) (fun _=>rfl) W;obtain ⟨v1,p1,_⟩:=MR (P:=P) (t:=f1.type) (off:=1) (g:=false) (by simp [dE,u1]) hp.s1 px (by simp) (fun _=>rfl) W;have c0:=fun v=>dw (P:=P) W b n u0 (.inr (.inl ⟨k0,rfl⟩)) v
 have c1:=fun v=>dw (P:=P) W b n u1 (.inr (.inl ⟨k1,rfl⟩)) v
 rw [Instr.checkKey]
 by_cases n0 : f0.name = "_" <;> by_cases n1 : f1.name = "_" <;> simp [b9 W hp.hu, n0, n1, hp.o0, hp.o1, p0, p1, c0, c1]
theorem so {t:TypeId} {kd:Kd} (hkt:DP P t=some kd) {k:AV} {kv:Value} (hk:VRH F w I H k kv) (hkd:kd= .p->∃a b c d,k= .agg [.int a b,.int c d]) (b:Bool) (W:World):
  (Instr.checkKey b 10000 t kv).run P W= .ok () W:=by
 rcases qz hkt with ⟨td,hut,htd⟩ | ⟨rfl,f0,f1,hp⟩
 ·exact dw W b 9999 hut (Ej htd) kv
 ·obtain ⟨a,n,c,m,rfl⟩:=hkd rfl;exact YF hp hk b 9998 W
theorem sx {k:AV} (h:kdOk .p k=true):∃a b c d,k= .agg [.int a b,.int c d]:=by
 unfold kdOk at h;split at h
 ·cases (by assumption:Kd.p=Kd.b)
 ·cases (by assumption:Kd.p=Kd.i)
 ·cases (by assumption:Kd.p=Kd.s)
 ·exact ⟨_,_,_,_,rfl⟩
 ·cases h
theorem YV {k:AV} {ents:List (AV×AV)} {r:Option AV} (h:nL .p k ents=some r):∃a b c d,k= .agg [.int a b,.int c d]:=by
 match ents,h with
 | [],h=>
  simp only [nL,true_and] at h;split at h
  ·cases h
  ·rename_i hne;exact sx (by simpa using hne)
 | (k',x)::ents,h=>
  simp only [nL] at h;have hs:∃q,eqKd .p k k'=some q:=by
   split at h
   ·cases h
   ·exact ⟨_,by assumption⟩
   ·exact ⟨_,by assumption⟩
  obtain ⟨q,hq⟩:=hs;unfold eqKd at hq;split at hq
  ·cases (by assumption:Kd.p=Kd.b)
  ·cases (by assumption:Kd.p=Kd.i)
  ·cases (by assumption:Kd.p=Kd.s)
  ·exact ⟨_,_,_,_,rfl⟩
  ·cases hq
theorem ot {t:TypeId} {z:AV} (h:M5 P t=some z):∃v,(∀W,(zeroValue t).run P W= .ok v W)/\VRH F w I H z v:=by
  unfold M5 at h;split at h
  · rename_i zs h1 h2
    split at h
    · rename_i hsh
      cases h;obtain ⟨i,v,i1,i2,i3⟩:=S1 h2;rw [i1] at hsh;simp only [dI,i2] at hsh;obtain ⟨l1,l2,l3⟩:=RY (F:=F) (w:=w) (I:=I) (H:=H) i3;cases v<;>first
        | (rename_i cs
           exact ⟨.agg cs,fun W=>bm W i1 i2,.agg zs cs (by simpa [Value.cells] using l1) (fun u hu=>l2 u (by simpa [Value.cells] using hu)) (fun j x u hx hu=>l3 j x u hx (by simpa [Value.cells] using hu))⟩)
        | cases hsh
    · cases h
  · rename_i z0 h1 h2
    split at h
    · rename_i hsh
      cases h;obtain ⟨i,v,i1,i2,i3⟩:=S1 h2;rw [i1] at hsh;simp only [dI,i2] at hsh;obtain ⟨l1,l2,l3⟩:=RY (F:=F) (w:=w) (I:=I) (H:=H) i3;refine ⟨v,fun W=>bm W i1 i2,?_⟩;cases v<;>first
        | (cases hsh;done)
        | exact l3 0 z _ rfl rfl
    · cases h
  · cases h
theorem Fi {nx:Nat} (hfr:Free H nx) (hr:HR F B0 w I H) {t k e:TypeId} {r:Option Value} (hu:P.underlying t=some (.map k e)) (hres:r=none\/∃q n,r=some (.int q n)):
  ∃v w',(Instr.makeMap t r).run P w= .ok v w'/\Good F B0 w I H (.map nx) (H.put nx (.map [])) v w':=by
 have hp:∀b o,(some (w.heap.size,0):Option (Nat×Nat))=some (b,o)->w.heap.size<=b:=by rintro b o ⟨⟩;exact Qb _
 have ht:=LW hfr hr (Ext.alloc (Mut I H) w (.map #[] 0)) (.map []) _ hp;have hh:=NY hfr hr (Ext.alloc (Mut I H) w (.map #[] 0)) (.map []) _ hp (fun b hb=>MJ w _ hb) ⟨w.heap.size,0,#[],0,iZ _ _ _,hr.base,CA w _,rfl,by simp⟩;refine ⟨.map (some w.heap.size),w.alloc (.map #[] 0),?_,_,ht,hh,.l ⟨EE hr hfr (by simp),⟨_,rfl⟩,fun _ _=>⟨_,0,iZ _ _ _,rfl⟩⟩⟩;rcases hres with rfl | ⟨q,n,rfl⟩
 ·simp [Instr.makeMap]
 ·simp [Instr.makeMap,b9 w hu,Go.asInt,JH]
theorem Y3 (hr:HR F B0 w I H) {x:AV} {v:Value} {ents:List (AV×AV)} (hx:VRH F w I H x v) (h:NW H x=some ents):
  (v= .map none/\ents=[])\/∃b es ck,v= .map (some b)/\w.heap[b]? =some (.map es ck)/\MapR F w I H ents es.toList:=by
 unfold NW at h;split at h
 ·cases h;exact .inl ⟨UH hx,rfl⟩
 ·split at h
  ·rename_i id es hget;cases h;obtain ⟨_,_,h3⟩:=lw hx;obtain ⟨b,o,e1,rfl⟩:=h3 _ hget;obtain ⟨b',o',es',ck,m1,m2,m3,m4⟩:=hr.obj _ _ hget;rw [e1] at m1;cases m1;exact .inr ⟨b,es',ck,rfl,m3,m4⟩
  ·cases h
 ·cases h
theorem Z' (hr:HR F B0 w I H) {t kt et:TypeId} {kd:Kd} {z:AV} {ok:Bool} {x k:AV} {xv kv:Value} {ents:List (AV×AV)} {r:Option AV}
  (hu:P.underlying t=some (.map kt et)) (hk:DP P kt=some kd) (hz:M5 P et=some z) (hx:VRH F w I H x xv) (hkv:VRH F w I H k kv)
  (he:NW H x=some ents) (hf:nL kd k ents=some r):
  ∃v,(Instr.lookup t xv kv ok).run P w= .ok v w/\VRH F w I H (if ok then .tup [r.getD z,.bool r.isSome] else r.getD z) v:=by
 have hck:=fun b=>so hk hkv (fun e=>by subst e;exact YV hf) b w
 obtain ⟨zv,hz1,hz2⟩:=ot (F:=F) (w:=w) (I:=I) (H:=H) hz;have fin:∀(val:Value) (b:Bool) (y:AV),VRH F w I H y val->VRH F w I H (if ok then .tup [y,.bool b] else y) (if ok then .tuple #[val,.bool b] else val):=by
  intro val b y hy;cases ok
  ·exact hy
  ·refine .tup _ _ rfl ?_;intro i x u hx hu
   match i with
   | 0=>simp at hx hu;subst hx;subst hu;exact hy
   | 1=>simp at hx hu;subst hx;subst hu;exact .d (.bool b)
   | i+2=>simp at hx
 have main:∀(es:List MapEntry),MapR F w I H ents es->∃val b y,r.getD z=y/\r.isSome=b/\VRH F w I H y val/\
   (∃q,(Instr.findKey kt kv es).run P w= .ok q w/\((q=none/\val=zv/\b=false)\/∃j,q=some (j,val)/\b=true)):=by
  intro es hm;rcases vg hk hkv ents es r hm.1 hm.2 hf w with ⟨rfl,q⟩ | ⟨y,j,e,rfl,q1,q2,q3,_⟩
  ·exact ⟨zv,false,z,rfl,rfl,hz2,none,q,.inl ⟨rfl,rfl,rfl⟩⟩
  ·exact ⟨e.val,true,y,rfl,rfl,q3,_,q1,.inr ⟨_,rfl,rfl⟩⟩
 rcases Y3 hr hx he with ⟨rfl,rfl⟩ | ⟨b,es,ck,rfl,hb,hm⟩
 ·obtain ⟨val,bb,y,e1,e2,hy,q,hq,hcase⟩:=main [] ⟨rfl,by simp⟩;refine ⟨if ok then .tuple #[val,.bool bb] else val,?_,by rw [e1,e2];exact fin val bb y hy⟩;rcases hcase with ⟨rfl,rfl,rfl⟩ | ⟨j,rfl,rfl⟩
  ·simp [Instr.lookup,b9 w hu,hck true,hq,hz1]
  ·simp [Instr.lookup,b9 w hu,hck true,hq]
 ·obtain ⟨val,bb,y,e1,e2,hy,q,hq,hcase⟩:=main es.toList hm;refine ⟨if ok then .tuple #[val,.bool bb] else val,?_,by rw [e1,e2];exact fin val bb y hy⟩;rcases hcase with ⟨rfl,rfl,rfl⟩ | ⟨j,rfl,rfl⟩
  ·simp [Instr.lookup,b9 w hu,SG w hb,hck,hq,hz1]
  ·simp [Instr.lookup,b9 w hu,SG w hb,hck,hq]
theorem tj (hr:HR F B0 w I H) {id b o:Nat} {ents ents':List (AV×AV)} {es es':Array MapEntry} {ck ck':Nat} (hget:H.get id=some (.map ents)) (hb:I id=some (b,o))
  (hblk:w.heap[b]? =some (.map es ck)) (hm:MapR F w I H ents' es'.toList):
  Tr w I H { w with heap:=w.heap.setIfInBounds b (.map es' ck') } I (H.set id (.map ents'))/\HR F B0 { w with heap:=w.heap.setIfInBounds b (.map es' ck') } I (H.set id (.map ents')):=by
 have hbl:=w8 hblk;have hB0:=((hr.obj id _ hget).lt hb).2;have hheap:∀k,(w.heap.setIfInBounds b (.map es' ck'))[k]? =if k=b then some (.map es' ck') else w.heap[k]? :=by
  intro k;rw [Array.getElem?_setIfInBounds];by_cases h:b=k
  ·subst h;simp [hbl]
  ·have:¬k=b:=fun e=>h e.symm
   simp [h,this]
 have he:Ext (Mut I H) w { w with heap:=w.heap.setIfInBounds b (.map es' ck') }:=by
  refine ⟨rfl,rfl,rfl,by simp,?_⟩;intro k hk;by_cases e:k=b
  ·subst e;exact .inr (.inr ⟨⟨id,_,o,hget,hb,trivial⟩,es,ck,es',ck',hblk,by simp only [hheap,if_true]⟩)
  ·exact .inl (by simp only [hheap,QA e])
 have ht:=VS hr hget hb he (ob':= .map ents') (fun _ h=>h) (.inr (.inl ⟨_,_,rfl,rfl⟩));refine ⟨ht,VX hr hget hb ht (fun k hk hkb=>by simp only [hheap,QA hkb]) ⟨b,o,es',ck',hb,hB0,by simp only [hheap,if_true],hm.1,?_⟩⟩;intro i k x e h1 h2;obtain ⟨q1,q2⟩:=hm.2 i k x e h1 h2;exact ⟨ht.vrd q1,ht.vr q2⟩
theorem Df {kd:Kd} {k:AV} {v:Value} (h:kdOk kd k=true) (hk:VRH F w I H k v):VRD w (Imm F I H) k v:=by
 unfold kdOk at h;split at h
 ·rw [wH hk];exact .bool _
 ·rw [fG hk];exact .int _ _
 ·rw [uV hk];exact .str _
 ·rw [VM hk];refine .agg _ _ rfl (fun v hv=>?_) ?_
  ·simp at hv;rcases hv with rfl | rfl<;>rfl
  ·intro i x u hx hu
   match i with
   | 0=>simp at hx hu;subst hx;subst hu;exact .int _ _
   | 1=>simp at hx hu;subst hx;subst hu;exact .int _ _
   | i+2=>simp at hx
 ·cases h
theorem Aa (hr:HR F B0 w I H) {t kt et:TypeId} {kd:Kd} {id:Nat} {k vv:AV} {xv kv v0:Value} {ents ents':List (AV×AV)}
  (hu:P.underlying t=some (.map kt et)) (hk:DP P kt=some kd) (hx:VRH F w I H (.map id) xv) (hkv:VRH F w I H k kv) (hvv:VRH F w I H vv v0) (hok:kdOk kd k=true)
  (hget:H.get id=some (.map ents)) (hp:putA kd k vv ents=some ents'):
  ∃w',(Instr.mapUpdate t xv kv v0).run P w= .ok () w'/\∃I',Tr w I H w' I' (H.set id (.map ents'))/\HR F B0 w' I' (H.set id (.map ents')):=by
 have hck:=fun b=>so hk hkv (fun e=>by subst e;exact sx hok) b w
 have hkd:=Df hok hkv;obtain ⟨_,_,h3⟩:=lw hx;obtain ⟨b,o,hb,rfl⟩:=h3 _ hget;obtain ⟨b',o',es,ck,m1,m2,m3,m4⟩:=hr.obj _ _ hget;rw [hb] at m1;cases m1;obtain ⟨r,hf⟩:=tw hok hp;rcases vg hk hkv ents es.toList r m4.1 m4.2 hf w with ⟨rfl,q⟩ | ⟨y,j,e,rfl,q1,q2,q3,q4,q5⟩
 ·obtain ⟨p1,_⟩:=mq (v:=vv) hf;rw [p1] at hp;cases hp;obtain ⟨g1,g2⟩:=tj (es':=es.push { key:=kv,val:=v0,born:=ck }) (ck':=ck+1) (ents':=ents++[(k,vv)]) hr hget hb m3 (by
   refine ⟨by have:=m4.1;simp at this ⊢;omega,?_⟩;intro i k2 x2 e2 h1 h2;rw [Array.toList_push] at h2;have hl:=m4.1;rw [List.getElem?_append] at h1 h2;rw [<- hl] at h2;split at h1
   ·rename_i hi;rw [a9 hi] at h2;exact m4.2 i k2 x2 e2 h1 h2
   ·rename_i hi;rw [QA hi] at h2;cases hii:i - ents.length with
    | zero=>
     rw [hii] at h1 h2;simp at h1 h2;obtain ⟨rfl,rfl⟩:=h1;subst h2;exact ⟨hkd,hvv⟩
    | succ n=>rw [hii] at h1;simp at h1)
  refine ⟨_,?_,I,g1,g2⟩;simp only [Instr.mapUpdate,Sem.run_bind,b9 w hu,Result.andThen_ok,SG w m3,hck,q,ww w m3]
 ·obtain ⟨p1,_⟩:=q5 vv;rw [p1] at hp;cases hp;have hj:es[j]? =some e:=by simpa using q2
  obtain ⟨g1,g2⟩:=tj (es':=es.modify j fun x=>{ x with key:=kv,val:=v0 }) (ck':=ck) (ents':=ents.set j (k,vv)) hr hget hb m3 (by
   refine ⟨by have:=m4.1;simp at this ⊢;omega,?_⟩;intro i k2 x2 e2 h1 h2;rw [Array.getElem?_toList,Array.getElem?_modify] at h2;rw [List.getElem?_set] at h1;by_cases hi:j=i
   ·subst hi;rw [a9 rfl] at h1 h2;split at h1
    ·cases h1;rw [hj] at h2;simp at h2;subst h2;exact ⟨hkd,hvv⟩
    ·cases h1
   ·rw [QA hi] at h1 h2;exact m4.2 i k2 x2 e2 h1 (by simpa using h2))
  refine ⟨_,?_,I,g1,g2⟩;have hks:(Instr.keyThatStays (((es[j]?).map (·.key)).getD kv) kv).run P w= .ok kv w:=by
   simp [Instr.keyThatStays,hj,q4]
  simp only [Instr.mapUpdate,Sem.run_bind,b9 w hu,Result.andThen_ok,SG w m3,hck,q1,hks,ww w m3]
end
end Go.Av
namespace Go.Av
variable {nx:Nat}
section
variable {F:Nat->Nat->Prop} {B0:Nat} {w:World} {I:Beta} {H:AH} {P:Program} {A:Ann} {fn:FuncId} {e:Env} {a:Act}
def Does (P:Program) (a:Act) (o:Oper) (w:World) (v:Value) (w':World):Prop:=
 (execOp a.eval o).run P w= .ok (.value v) w'\/((execOp a.eval o).run P w= .ok .skip w'/\v=undef)
def OpOk (P:Program) (a:Act) (o:Oper) (F:Nat->Nat->Prop) (B0:Nat) (w:World) (I:Beta) (H:AH) (x:AV) (H':AH):Prop:=
 ∃v w',Does P a o w v w'/\Good F B0 w I H x H' v w'
theorem uI {o:Oper} {x:AV} {v:Value} (hr:HR F B0 w I H) (h:(execOp a.eval o).run P w= .ok (.value v) w) (hx:VRH F w I H x v):OpOk P a o F B0 w I H x H:=
 ⟨v,w,.inl h,.same hr hx⟩
theorem zH {o:Oper} {x:AV} {H':AH} {s:Sem Value} (h:execOp a.eval o=(do pure (.value (<- s)))) (hs:∃v w',s.run P w= .ok v w'/\Good F B0 w I H x H' v w'):OpOk P a o F B0 w I H x H':=by
 obtain ⟨v,w',h1,h2⟩:=hs;exact ⟨v,w',.inl (by rw [h];simp [h1]),h2⟩
theorem sD {o:Oper} {x:AV} {H':AH} {s:Sem Value} (hr:HR F B0 w I H) (h:execOp a.eval o=(do pure (.value (<- s)))) (hs:∃v,s.run P w= .ok v w/\VRH F w I H x v/\H'=H):OpOk P a o F B0 w I H x H':=by
 obtain ⟨v,h1,h2,rfl⟩:=hs;exact uI hr (by rw [h];simp [h1]) h2
theorem map_some {G Z:Type} {f:G->Z} {o:Option G} {y:Z} (h:o.map f=some y):∃x,o=some x/\f x=y:=by
 cases o with
 | none=>cases h
 | some x=>exact ⟨x,rfl,by simpa using h⟩
theorem aV {P:Program} {t:TypeId} {x:Operand} {ax:AX} (h:cX P t x=some ax) (he:EnvR F w I H e a.tmps) {y:AV} (hy:evX e ax=some y):VRH F w I H y (a.eval x):=Ce h hy he
theorem PB {P:Program} {t:TypeId} (he:EnvR F w I H e a.tmps) {xs:List Operand} {axs:List AX} {ys:List AV} (h:mapO (cX P t) xs=some axs) (hy:mapO (evX e) axs=some ys):
  ys.length=xs.length/\∀(i:Nat) y x,ys[i]? =some y->xs[i]? =some x->VRH F w I H y (a.eval x):=by
 refine ⟨(jC hy).symm.trans (jC h).symm,?_⟩;intro i y x h1 h2;obtain ⟨ax,k1,k2⟩:=nH hy h1;obtain ⟨x',k3,k4⟩:=nH h k1;rw [h2] at k3;cases k3;exact aV k4 he k2
theorem gf {P:Program} (he:EnvR F w I H e a.tmps):∀{ts:List TypeId} {xs:List Operand} {axs:List AX} {ys:List AV},cXs P ts xs=some axs->mapO (evX e) axs=some ys->
  ys.length=xs.length/\∀(i:Nat) y x,ys[i]? =some y->xs[i]? =some x->VRH F w I H y (a.eval x)
 | _,[],axs,ys,h,hy=>by
  simp only [cXs] at h;cases h;cases hy;exact ⟨rfl,by simp⟩
 | [],_::_,_,_,h,_=>by cases h
 | t::ts,x::xs,axs,ys,h,hy=>by
  simp only [cXs] at h;cases h1:cX P t x with
  | none=>rw [h1] at h;cases h
  | some ax=>
   cases h2:cXs P ts xs with
   | none=>rw [h1,h2] at h;cases h
   | some r=>
    rw [h1,h2] at h;cases h;simp only [mapO] at hy;split at hy
    ·cases hy
    ·rename_i y hy1;split at hy
     ·cases hy
     ·rename_i ys' hy2;cases hy;obtain ⟨l1,l2⟩:=gf he h2 hy2;refine ⟨by simp [l1],?_⟩;intro i u v hu hv;cases i with
      | zero=>simp at hu hv;subst hu;subst hv;exact aV h1 he hy1
      | succ i=>simp at hu hv;exact l2 i u v hu hv
theorem L0 {t:TypeId} {x:Option Operand} {ax:Option AX} (h:oX P t x=some ax) (he:EnvR F w I H e a.tmps):BX F w I H e ax (x.map a.eval):=by
 unfold oX at h;split at h
 ·cases h;trivial
 ·rename_i x;obtain ⟨ax',h1,rfl⟩:=map_some h;intro y hy;exact aV h1 he hy
theorem ie {o:Oper} {x:Operand} {t:TypeId} {ax:AX} {y:AV} {H':AH} (hr:HR F B0 w I H) (he:EnvR F w I H e a.tmps)
  (ho:execOp a.eval o=pure (.value (a.eval x))) (hx:cX P t x=some ax) (hev:evOp e nx H (.mov ax)=some (y,H')):OpOk P a o F B0 w I H y H':=by
 simp only [evOp] at hev;obtain ⟨y',h1,h2⟩:=map_some hev;cases h2;exact uI hr (by rw [ho];rfl) (aV hx he h1)
theorem YO {o:Oper} {esz:Nat} {y:AV} {H':AH} (hfr:Free H nx) (hr:HR F B0 w I H)
  (ho:execOp a.eval o=pure (.value (.slice none 0 0))) (hev:evOp e nx H (.nilapp esz)=some (y,H')):OpOk P a o F B0 w I H y H':=by
 simp only [evOp] at hev;cases hev;have ht:=LW hfr hr (Ext.refl _ w) (.tok esz 0) none (by simp);have hn:=NY hfr hr (Ext.refl _ w) (.tok esz 0) none (by simp) (fun _ _=>rfl) (by intro b o h;rw [iZ] at h;cases h);refine ⟨.slice none 0 0,w,.inl (by rw [ho];rfl),_,ht,hn,.l ⟨EE hr hfr (by simp),.slice0 _ _ _,?_⟩⟩;intro z' f hf;rw [uR hr hfr,a9 rfl] at hf;cases hf;refine ⟨by simp,fun _=>?_⟩;rw [iZ];exact ⟨_,_,rfl⟩
theorem He {o:Oper} {c x y:Operand} {t:TypeId} {ac ax ay:AX} {r:AV} {H':AH} (hr:HR F B0 w I H) (he:EnvR F w I H e a.tmps)
  (ho:execOp a.eval o=(do pure (.value (if <- asBool (a.eval c) then a.eval x else a.eval y)))) (hc:cX P t c=some ac) (hx:cX P t x=some ax) (hy:cX P t y=some ay)
  (hev:evOp e nx H (.pick ac ax ay)=some (r,H')):OpOk P a o F B0 w I H r H':=by
 simp only [evOp] at hev;split at hev
 ·rename_i hcv;obtain ⟨r',h1,h2⟩:=map_some hev;cases h2;have:=wH (aV hc he hcv);exact uI hr (by rw [ho,this];simp [asBool]) (aV hx he h1)
 ·rename_i hcv;obtain ⟨r',h1,h2⟩:=map_some hev;cases h2;have:=wH (aV hc he hcv);exact uI hr (by rw [ho,this];simp [asBool]) (aV hy he h1)
 ·cases hev
theorem Q1 {o:Oper} {op:BinOp} {t u:TypeId} {x y:Operand} {ax ay:AX} {r:AV} {H':AH} (hr:HR F B0 w I H) (he:EnvR F w I H e a.tmps)
  (ho:o.op= .binOp op t x y u) (hx:cX P t x=some ax) (hy:cX P u y=some ay)
  (hev:evOp e nx H (.bin op ax ay)=some (r,H')):OpOk P a o F B0 w I H r H':=by
 simp only [evOp] at hev;split at hev
 ·rename_i xv yv hxv hyv;obtain ⟨r',h1,h2⟩:=map_some hev;cases h2;obtain ⟨v,k1,k2,k3,k4⟩:=Se (P:=P) (t:=t) (aV hx he hxv) (aV hy he hyv) h1;refine uI hr ?_ k2;unfold execOp;rw [ho];simp [VG w op t x y (a.eval x) (a.eval y) (fun xs ys e1 _=>absurd e1 (k3 xs)) (.inl k4),k1]
 ·cases hev
theorem Mb {o:Oper} {op:BinOp} {t u:TypeId} {x y:Operand} {ax ay:AX} {r:AV} {H':AH} {ks:List Kd} {g:Bool} (hr:HR F B0 w I H) (he:EnvR F w I H e a.tmps)
  (ho:o.op= .binOp op t x y u) (hop:op= .eql\/op= .neq) (hl:sE P 20 t=some ks) (hg:dE P t=some g) (hx:cX P t x=some ax) (hy:cX P u y=some ay)
  (hev:evOp e nx H (.eqs (op == .neq) g ks ax ay)=some (r,H')):OpOk P a o F B0 w I H r H':=by
 simp only [evOp] at hev;split at hev
 ·rename_i xv yv hxv hyv;split at hev
  ·rename_i b hb;cases hev;obtain ⟨k1,k2,k3,k4⟩:=Si (P:=P) hl hg (aV hx he hxv) (aV hy he hyv) hb;refine uI hr ?_ (.d (.bool _));unfold execOp;rw [ho];simp only [Sem.run_bind,VG w op t x y (a.eval x) (a.eval y) (fun xs ys e1 _=>k3 xs e1) (.inl k4),Result.andThen_ok];rcases hop with rfl | rfl
   ·rw [k1];rfl
   ·rw [k2];rfl
  ·cases hev
 ·cases hev
theorem Ma {o:Oper} {op:BinOp} {t u el:TypeId} {x y:Operand} {ax ay:AX} {r:AV} {H':AH} (hr:HR F B0 w I H) (he:EnvR F w I H e a.tmps)
  (ho:o.op= .binOp op t x y u) (hop:op= .eql\/op= .neq) (hu:P.underlying t=some (.pointer el)) (hx:cX P t x=some ax) (hy:cX P u y=some ay)
  (hev:evOp e nx H (.eqn (op == .neq) ax ay)=some (r,H')):OpOk P a o F B0 w I H r H':=by
 simp only [evOp] at hev;split at hev
 ·rename_i xv yv hxv hyv;split at hev
  ·rename_i b hb;cases hev;obtain ⟨k1,k2,k3,k4⟩:=Sh (P:=P) hu (aV hx he hxv) (aV hy he hyv) hb;refine uI hr ?_ (.d (.bool _));unfold execOp;rw [ho];simp only [Sem.run_bind,VG w op t x y (a.eval x) (a.eval y) (fun xs ys e1 _=>absurd e1 (k3 xs)) (.inl k4),Result.andThen_ok];rcases hop with rfl | rfl
   ·rw [k1];rfl
   ·rw [k2];rfl
  ·cases hev
 ·cases hev
theorem Q2 {o:Oper} {op:BinOp} {t u:TypeId} {td:TypeDesc} {x:Operand} {c:Value} {ax ay:AX} {r:AV} {H':AH} (hr:HR F B0 w I H) (he:EnvR F w I H e a.tmps)
  (ho:o.op= .binOp op t x (.const c) u) (hop:op= .eql\/op= .neq) (hu:P.underlying t=some td) (hd:((∃ms,td= .interface ms)/\c= .nilIface)\/((∃ps rs v,td= .func ps rs v)/\c= .nilFunc)) (hx:cX P t x=some ax) (hy:cX P u (.const c)=some ay)
  (hev:evOp e nx H (.eqs (op == .neq) false [] ax ay)=some (r,H')):OpOk P a o F B0 w I H r H':=by
 simp only [evOp] at hev;split at hev
 ·rename_i xv yv hxv hyv;split at hev
  ·rename_i b hb;cases hev;have hyv':((∃ms,td= .interface ms)/\yv= .niliface)\/((∃ps rs v,td= .func ps rs v)/\yv= .nilfunc):=by
    rcases hd with ⟨h1,rfl⟩ | ⟨h1,rfl⟩
    ·left;refine ⟨h1,?_⟩;have:ay= .c .niliface:=by simpa [cX,cVal] using hy.symm
     subst this;simpa [evX] using hyv.symm
    ·right;refine ⟨h1,?_⟩;have:ay= .c .nilfunc:=by simpa [cX,cVal] using hy.symm
     subst this;simpa [evX] using hyv.symm
   obtain ⟨k1,k2,k3,k4⟩:=Sg (P:=P) hu hyv' (aV hx he hxv) (aV hy he hyv) hb;refine uI hr ?_ (.d (.bool _));unfold execOp;rw [ho];simp only [Sem.run_bind];rw [XQ w op t x c _ _ k4 k3];simp only [Result.andThen_ok];rcases hop with rfl | rfl
   ·rw [k1];rfl
   ·rw [k2];rfl
  ·cases hev
 ·cases hev
end
end Go.Av
namespace Go.Av
variable {nx:Nat}
section
variable {F:Nat->Nat->Prop} {B0:Nat} {w:World} {I:Beta} {H:AH} {P:Program} {A:Ann} {fn:FuncId} {e:Env} {a:Act}
theorem Bu {o:Oper} {t:TypeId} {z:List AV} {r:AV} {H':AH} (hfr:Free H nx) (hr:HR F B0 w I H) (ho:o.op= .alloc t) (hz:sI P t=some z)
  (hev:evOp e nx H (.alloc z)=some (r,H')):OpOk P a o F B0 w I H r H':=by
 simp only [evOp] at hev;cases hev;exact zH (s:=Instr.alloc t true (.tuple #[])) (by unfold execOp;rw [ho]) (Fe hfr hr hz)
theorem Ly {o:Oper} {t:TypeId} {x:Operand} {ax:AX} {r:AV} {H':AH} (hfr:Free H nx) (hr:HR F B0 w I H) (he:EnvR F w I H e a.tmps) (ho:o.op= .box t x) (hx:cX P t x=some ax)
  (hev:evOp e nx H (.box ax)=some (r,H')):OpOk P a o F B0 w I H r H':=by
 simp only [evOp] at hev;split at hev
 ·rename_i xv hxv;split at hev
  ·rename_i cs hcs;cases hev;exact zH (s:=Instr.box t (a.eval x)) (by unfold execOp;rw [ho]) (Sf hfr hr hcs (aV hx he hxv))
  ·cases hev
 ·cases hev
theorem Gx {o:Oper} {t:TypeId} {x:Operand} {ax:AX} {r:AV} {H':AH} (hr:HR F B0 w I H) (he:EnvR F w I H e a.tmps) (ho:o.op= .box t x) (hx:cX P t x=some ax)
  (hev:evOp e nx H (.boxi ax)=some (r,H')):OpOk P a o F B0 w I H r H':=by
 simp only [evOp] at hev;split at hev
 ·rename_i xv hxv;split at hev
  ·rename_i cs hcs;split at hev
   ·cases hev
   ·rename_i cs' hcs';split at hev
    ·cases hev
    ·rename_i hb;cases hev;have hp:=MN hcs (aV hx he hxv);refine zH (s:=Instr.box t (a.eval x)) (by unfold execOp;rw [ho]) ⟨.pointer (some { block:=w.heap.size,off:=0 }),w.alloc (.cells (a.eval x).cells t),by simp [Instr.box,newVar,newRow],?_⟩;have hR:RowR F w I H cs.length [cs] 0 (a.eval x).cells:=by
      refine ⟨by simp,by have:=hp.1;simp at this ⊢;omega,?_⟩;intro i j e x he hx;cases i with
      | zero=>
       simp at he;subst he;obtain ⟨u,q1,q2,q3⟩:=hp.get hx;exact ⟨u,by simpa using q1,q2,q3⟩
      | succ i=>simp at he
     obtain ⟨⟨f1,f2⟩,_⟩:=ch (es':=[cs']) hR (by simpa using hb) (by simp only [mapO,hcs']);have hl:cs'.length=cs.length:=(jC hcs').symm;have ht:Tr w I H (w.alloc (.cells (a.eval x).cells t)) I H:=ii (F:=F) (B0:=B0) _;refine ⟨I,ht,hr.alloc _,.d ?_⟩;have:=VRD.iptr (w:=w.alloc (.cells (a.eval x).cells t)) (imm:=Imm F I H) cs'.length [cs'] 0 0 w.heap.size 0 (fun i j=>((a.eval x).cells[i*cs.length+j]?).getD default) (fun e he=>by rw [List.mem_singleton] at he;rw [he]) ?_ ?_
     ·simpa using this
     ·intro i j e y hi hj;obtain ⟨v,k1,k2,k3⟩:=f2 i j e y hi hj;have hi0:i=0:=by
       cases i with
       | zero=>rfl
       | succ i=>simp at hi
      subst hi0;simp only [Nat.zero_mul,ME] at k1 ⊢;refine ⟨⟨fun hm=>?_,fun hf=>?_⟩,?_,?_⟩
      ·have:=(hr.mut_lt hm).1;omega
      ·have:=hr.far _ _ hf;have:=hr.base;omega
      ·rw [k1];exact cell_iff.2 ⟨_,t,(0,0),CA w _,k1⟩
      ·rw [k1];exact k2
     ·intro i j e y hi hj;obtain ⟨v,k1,k2,k3⟩:=f2 i j e y hi hj;rw [k1];exact ht.vrd k3
  ·cases hev
 ·cases hev
theorem Ax {o:Oper} {t:TypeId} {x v:Operand} {ax av:AX} {n:Nat} {r:AV} {H':AH} (hr:HR F B0 w I H) (he:EnvR F w I H e a.tmps) (ho:o.op= .store t x v)
  (hn:szOf P t=some n) (hx:cX P t x=some ax) (hv:cX P t v=some av)
  (hev:evOp e nx H (.store n ax av)=some (r,H')):OpOk P a o F B0 w I H r H':=by
 simp only [evOp] at hev;split at hev
 ·rename_i id esz i off vv hxv hvv;split at hev
  ·cases hev
  ·rename_i vs hvs;split at hev
   ·rename_i hlen;split at hev
    ·rename_i esz' es hget;split at hev
     ·rename_i hz;subst hz;split at hev
      ·rename_i cs hcs;split at hev
       ·rename_i cs' hput;cases hev;obtain ⟨w',h1,I',h2,h3⟩:=Fk (P:=P) hr hn (aV hx he hxv) (aV hv he hvv) hvs hlen hget hcs hput;refine ⟨undef,w',.inr ⟨?_,rfl⟩,I',h2,h3,.d (.tup [] #[] rfl (by simp))⟩;unfold execOp;rw [ho];simp [h1]
       ·cases hev
      ·cases hev
     ·cases hev
    ·cases hev
   ·cases hev
 ·cases hev
theorem qss {o:Oper} {t:TypeId} {fs:Array Field} {z:List AV} {parts:Array (Nat×Operand)} {aps:List (Nat×Nat×AX)} {r:AV} {H':AH} (hr:HR F B0 w I H) (he:EnvR F w I H e a.tmps)
  (ho:o.op= .build t parts) (hu:P.underlying t=some (.struct fs)) (hz:sI P t=some z)
  (hp:mapO (fun p=>match fs[p.1]? with
    | some f=>match szOf P f.type,cX P f.type p.2 with
     | some n,some a=>some (f.offset,n,a)
     | _,_=>none
    | none=>none) parts.toList=some aps)
  (hev:evOp e nx H (.build z aps)=some (r,H')):OpOk P a o F B0 w I H r H':=by
 simp only [evOp] at hev;split at hev
 ·cases hev
 ·rename_i ps hps;split at hev
  ·cases hev
  ·rename_i cs hcs;cases hev;refine sD (s:=Instr.build t (parts.map fun (i,x)=>(i,a.eval x))) hr (by unfold execOp;rw [ho]) ?_;obtain ⟨v,h1,h2⟩:=qtn (P:=P) (F:=F) (w:=w) (I:=I) (H:=H) (vps:=parts.map fun (i,x)=>(i,a.eval x)) (aps:=ps) hu hz (by
    have l1:=jC hp;have l2:=jC hps;simp at l1 ⊢;omega) (by
    intro i p q hp1 hq1;obtain ⟨y,k1,k2⟩:=nH hps hq1;obtain ⟨x,k3,k4⟩:=nH hp k1;obtain ⟨yv,k5,k6⟩:=map_some k2;have hx:parts[i]? =some x:=by simpa using k3
    rw [Array.getElem?_map,hx] at hp1;simp at hp1;subst hp1;subst k6;split at k4
    ·rename_i f hf;split at k4
     ·rename_i n ax hn hax;cases k4;exact ⟨⟨f,n,hf,hn,rfl,rfl⟩,aV hax he k5⟩
     ·cases k4
    ·cases k4) hcs
   exact ⟨v,h1,h2,rfl⟩
theorem qt1 {o:Oper} {t el:TypeId} {m n:Nat} {z:List AV} {parts:Array (Nat×Operand)} {aps:List (Nat×Nat×AX)} {r:AV} {H':AH} (hr:HR F B0 w I H) (he:EnvR F w I H e a.tmps)
  (ho:o.op= .build t parts) (hu:P.underlying t=some (.array m el)) (hz:sI P t=some z) (hn:szOf P el=some n)
  (hp:mapO (fun p=>(cX P el p.2).map fun a=>(p.1*n,n,a)) parts.toList=some aps)
  (hev:evOp e nx H (.build z aps)=some (r,H')):OpOk P a o F B0 w I H r H':=by
 simp only [evOp] at hev;split at hev
 ·cases hev
 ·rename_i ps hps;split at hev
  ·cases hev
  ·rename_i cs hcs;cases hev;refine sD (s:=Instr.build t (parts.map fun (i,x)=>(i,a.eval x))) hr (by unfold execOp;rw [ho]) ?_;obtain ⟨v,h1,h2⟩:=qva (P:=P) (F:=F) (w:=w) (I:=I) (H:=H) (vps:=parts.map fun (i,x)=>(i,a.eval x)) (aps:=ps) hu hn hz (by
    have l1:=jC hp;have l2:=jC hps;simp at l1 ⊢;omega) (by
    intro i p q hp1 hq1;obtain ⟨y,k1,k2⟩:=nH hps hq1;obtain ⟨x,k3,k4⟩:=nH hp k1;obtain ⟨yv,k5,k6⟩:=map_some k2;have hx:parts[i]? =some x:=by simpa using k3
    rw [Array.getElem?_map,hx] at hp1;simp at hp1;subst hp1;subst k6;obtain ⟨ax,k7,k8⟩:=map_some k4;subst k8;exact ⟨⟨rfl,rfl⟩,aV k7 he k5⟩) hcs
   exact ⟨v,h1,h2,rfl⟩
theorem YL {o:Oper} {t el:TypeId} {len n:Nat} {z:List AV} {m:SM} {parts:Array (Nat×Operand)} {aps:List (Nat×AX)} {r:AV} {H':AH} (hfr:Free H nx) (hr:HR F B0 w I H) (he:EnvR F w I H e a.tmps)
  (ho:o.op= .buildSlice t len parts) (hu:P.underlying t=some (.slice el)) (hn:szOf P el=some n) (hz:sI P el=some z) (hzl:z.length=n) (hn0:n≠0) (hsm:len*n<=2^24)
  (hpl:∀p∈parts.toList,p.1<len) (hp:mapO (fun p=>(cX P el p.2).map fun a=>(p.1,a)) parts.toList=some aps)
  (hev:evOp e nx H (.bslice m n (List.replicate len z) aps)=some (r,H')):OpOk P a o F B0 w I H r H':=by
 simp only [evOp] at hev;split at hev
 ·cases hev
 ·rename_i ps hps;obtain ⟨zv,hzv,hpz⟩:=NS (F:=F) (w:=w) (I:=I) (H:=H) hz;obtain ⟨z1,z2⟩:=ro (F:=F) (w:=w) (I:=I) (H:=H) hn0 hzl hpz len;obtain ⟨c',k1,k2,k3,k4⟩:=ng (F:=F) (w:=w) (I:=I) (H:=H) hn0 (parts.map fun (i,x)=>(i,a.eval x)).toList ps (List.replicate len z) _ (by
   have l1:=jC hp;have l2:=jC hps;simp at l1 ⊢;omega) (by
   intro i p q hp1 hq1;obtain ⟨y,j1,j2⟩:=nH hps hq1;obtain ⟨x,j3,j4⟩:=nH hp j1;have hx:parts[i]? =some x:=by simpa using j3
   rw [Array.getElem?_toList,Array.getElem?_map,hx] at hp1;simp at hp1;subst hp1;obtain ⟨ax,j7,j8⟩:=map_some j4;subst j8;split at j2
   ·rename_i yv hyv;split at j2
    ·rename_i vs hvs;split at j2
     ·rename_i hvl;cases j2;exact ⟨rfl,by simpa using hpl x (Qe j3),hvl,MN hvs (aV j7 he hyv)⟩
     ·cases j2
    ·cases j2
   ·cases j2) z1 z2
  have hrun:=qy9 w (parts:=parts.map fun (i,x)=>(i,a.eval x)) hu hn (hzv w) hsm k1;have hex:execOp a.eval o=(do pure (.value (<- Instr.buildSlice t len (parts.map fun (i,x)=>(i,a.eval x))))):=by unfold execOp;rw [ho]
  have hsz:c'.size=(ps.foldl (fun es p=>es.set p.1 p.2) (List.replicate len z)).length*n:=by rw [k3,z2,k4]
  have hlen:len=(ps.foldl (fun es p=>es.set p.1 p.2) (List.replicate len z)).length:=by rw [k4];simp
  cases m with
  | row=>
   simp only at hev;cases hev;exact zH hex ⟨_,_,hrun,by rw [<- hlen];exact mt hfr hr k2 hlen hsz⟩
  | app=>
   simp only at hev;split at hev
   ·cases hev
   ·rename_i es' hes';split at hev
    ·cases hev
    ·rename_i hb;cases hev;obtain ⟨f1,f2⟩:=ch k2 (by simpa using hb) hes';refine zH hex ⟨_,_,hrun,?_⟩;have hl2:len=es'.length:=by rw [f2];exact hlen
     rw [<- hl2];exact Ww hfr hr f1 hl2 (by rw [hsz,<- hlen];exact Qb _) (Qb _)
  | imm=>
   simp only at hev;split at hev
   ·cases hev
   ·rename_i es' hes';split at hev
    ·cases hev
    ·rename_i hb;cases hev;obtain ⟨f1,f2⟩:=ch k2 (by simpa using hb) hes';exact zH hex ⟨_,_,hrun,mr hr f1 (by rw [f2];exact hlen)⟩
theorem ZV {x:AV} {v:Value} (h:SS x v=true):bor aI x=false:=by
 unfold SS at h;split at h<;>first | rfl | cases h
theorem ou:∀{cs:List AV} {vs:List Value},A7 cs vs=true->∀x∈cs,bor aI x=false
 | [],_,_,_,h=>by cases h
 | c::cs,[],h,_,_=>by cases h
 | c::cs,v::vs,h,x,hx=>by
  simp only [A7,d7] at h;rcases nK.1 hx with rfl | hx
  ·exact ZV h.1
  ·exact ou h.2 x hx
theorem WW {o:Oper} {t el:TypeId} {n:Nat} {z:List AV} {m:SM} {l c:Operand} {al ac:AX} {r:AV} {H':AH} {tt:TypeId} (hfr:Free H nx) (hr:HR F B0 w I H) (he:EnvR F w I H e a.tmps)
  (ho:o.op= .makeSlice t l c) (hu:P.underlying t=some (.slice el)) (hn:szOf P el=some n) (hz:sI P el=some z) (hzl:z.length=n) (hn0:n≠0)
  (hl:cX P tt l=some al) (hc:cX P tt c=some ac)
  (hev:evOp e nx H (.mkslice m n (P.bytesOf el) z al ac)=some (r,H')):OpOk P a o F B0 w I H r H':=by
 simp only [evOp] at hev;split at hev
 ·rename_i q lv q' cv hlv hcv;split at hev
  ·rename_i hcond;obtain ⟨c0,c1,c2,c3⟩:=hcond;obtain ⟨zv,hzv,hpz⟩:=NS (F:=F) (w:=w) (I:=I) (H:=H) hz;obtain ⟨cells,k1,k2⟩:=WQ w (q:=q) (q':=q') hu hn (hzv w) c0 c1 c2 c3;have hex:execOp a.eval o=(do pure (.value (<- Instr.makeSlice t (a.eval l) (a.eval c)))):=by unfold execOp;rw [ho]
   rw [fG (aV hl he hlv),fG (aV hc he hcv)] at hex;have hcells:cells=((Array.range (cv.toNat*n)).map (zv.cells[· % zv.cells.size]!)):=by
    rcases k2 with k2 | ⟨k2,k3⟩
    ·exact k2
    ·rw [k3,k2];simp
   obtain ⟨z1,z2⟩:=ro (F:=F) (w:=w) (I:=I) (H:=H) hn0 hzl hpz cv.toNat;rw [<- hcells] at z1 z2;have hD:∀z',w6 H z=some z'->∀k,k<=cv.toNat->RowD F w I H n (List.replicate k z') cells:=by
    intro z' hz' k hk;refine ⟨?_,?_⟩
    ·intro e he;rw [WP he,<- jC hz'];exact hzl
    ·intro i j e x hi hx;have hik:i<k:=by have:=zL hi;simpa using this
     have hee:e=z':=by simp [List.getElem?_replicate,hik] at hi;exact hi.symm
     subst hee;obtain ⟨x0,h1,h2⟩:=nH hz' hx;obtain ⟨v,q1,q2,q3⟩:=z1.2.2 i j z x0 (by simp [List.getElem?_replicate];omega) h1;refine ⟨v,by simpa using q1,q2,LL aI x0 x v h2 ?_ q3⟩;obtain ⟨i',v',i1,i2,i3⟩:=S1 hz;exact ou i3 x0 (Qe h1)
   cases m with
   | row=>
    simp only at hev;split at hev
    ·rename_i hlc;cases hev;subst hlc;refine zH hex ⟨_,_,k1,mt hfr hr z1 (by simp) z2⟩
    ·cases hev
   | app=>
    simp only at hev;split at hev
    ·rename_i z' hz';cases hev;refine zH hex ⟨_,_,k1,Ww hfr hr (hD z' hz' lv.toNat (by omega)) (by simp) ?_ (by omega)⟩;rw [z2];simp
    ·cases hev
   | imm=>
    simp only at hev;split at hev
    ·rename_i z' hz';split at hev
     ·rename_i hlc;cases hev;subst hlc;exact zH hex ⟨_,_,k1,mr hr (hD z' hz' lv.toNat (Qb _)) (by simp)⟩
     ·cases hev
    ·cases hev
  ·cases hev
 ·cases hev
end
end Go.Av
namespace Go.Av
variable {nx:Nat}
section
variable {F:Nat->Nat->Prop} {B0:Nat} {w:World} {I:Beta} {H:AH} {P:Program} {A:Ann} {fn:FuncId} {e:Env} {a:Act}
theorem D4 {o:Oper} {c:Call} {b:Builtin} (ho:o.op= .call c) (hc:c.callee= .builtin b):
  execOp a.eval o=Go.builtin b c.argTypes o.type (c.args.map fun | .const _=>true | _=>false) (c.args.map a.eval):=by
 unfold execOp;rw [ho];simp only [resolve,hc];rfl
theorem arr1 {G:Type} {x:Array G} {p:G} (h:x.toList=[p]):x= #[p]:=by
 apply Array.ext';simpa using h
theorem arr2 {G:Type} {x:Array G} {p q:G} (h:x.toList=[p,q]):x= #[p,q]:=by
 apply Array.ext';simpa using h
theorem Nr {o:Oper} {c:Call} {t el:TypeId} {x:Operand} {ax:AX} {r:AV} {H':AH} (hr:HR F B0 w I H) (he:EnvR F w I H e a.tmps) (ho:o.op= .call c) (hc:c.callee= .builtin .len)
  (ht:c.argTypes.toList=[t]) (hx:c.args.toList=[x]) (hu:P.underlying t=some (.slice el)) (hax:cX P t x=some ax)
  (hev:evOp e nx H (.len ax)=some (r,H')):OpOk P a o F B0 w I H r H':=by
 simp only [evOp] at hev;split at hev
 ·rename_i xv hxv;split at hev
  ·rename_i n h1;cases hev;have hv:=aV hax he hxv;have:∃base cap,a.eval x= .slice base n cap:=by
    unfold lenOf at h1;split at h1
    ·cases h1;obtain ⟨b,cap,h,_⟩:=sO (EO hv);exact ⟨b,cap,h⟩
    ·cases h1;obtain ⟨b,cap,h,_⟩:=sO (zI hv).1;exact ⟨b,cap,h⟩
    ·cases h1;obtain ⟨b,cap,h,_⟩:=sO (EW hv).2.1;exact ⟨b,cap,h⟩
    ·cases h1;obtain ⟨_,⟨b,cap,h,_⟩,_⟩:=AA hv;exact ⟨b,cap,h⟩
    ·cases h1
   obtain ⟨b,cap,hb⟩:=this;refine uI hr ?_ (.d (.int _ _));rw [D4 ho hc,arr1 ht,arr1 hx];simp [Go.builtin,Builtin.len_,hb,b9 w hu,goInt]
  ·cases hev
 ·cases hev
theorem Hg {o:Oper} {c:Call} {t:TypeId} {x:Operand} {ax:AX} {r:AV} {H':AH} (hr:HR F B0 w I H) (he:EnvR F w I H e a.tmps) (ho:o.op= .call c) (hc:c.callee= .builtin .len)
  (ht:c.argTypes.toList=[t]) (hx:c.args.toList=[x]) (hu:P.underlying t=some .string) (hax:cX P t x=some ax)
  (hev:evOp e nx H (.slen ax)=some (r,H')):OpOk P a o F B0 w I H r H':=by
 simp only [evOp] at hev;split at hev
 ·rename_i s hxv;cases hev;have hv:=uV (aV hax he hxv);refine uI hr ?_ (.d (.int _ _));rw [D4 ho hc,arr1 ht,arr1 hx];have hs:(⟨s.toArray⟩:ByteArray).size=s.length:=by simp [ByteArray.size]
  simp [Go.builtin,Builtin.len_,hv,b9 w hu,goInt,hs]
 ·cases hev
theorem Hd {o:Oper} {c:Call} {t k el:TypeId} {x:Operand} {ax:AX} {r:AV} {H':AH} (hr:HR F B0 w I H) (he:EnvR F w I H e a.tmps) (ho:o.op= .call c) (hc:c.callee= .builtin .len)
  (ht:c.argTypes.toList=[t]) (hx:c.args.toList=[x]) (hu:P.underlying t=some (.map k el)) (hax:cX P t x=some ax)
  (hev:evOp e nx H (.mlen ax)=some (r,H')):OpOk P a o F B0 w I H r H':=by
 simp only [evOp] at hev;split at hev
 ·rename_i hxv;cases hev;have hv:=UH (aV hax he hxv);refine uI hr ?_ (.d (.int _ _));rw [D4 ho hc,arr1 ht,arr1 hx];simp [Go.builtin,Builtin.len_,hv,b9 w hu,goInt]
 ·rename_i id hxv;split at hev
  ·rename_i es hget;cases hev;obtain ⟨_,_,h3⟩:=lw (aV hax he hxv);obtain ⟨b,o',h4,hv⟩:=h3 _ hget;obtain ⟨b',o2,es',ck,m1,m2,m3,m4⟩:=hr.obj _ _ hget;rw [h4] at m1;cases m1;refine uI hr ?_ (.d (.int _ _));rw [D4 ho hc,arr1 ht,arr1 hx];have hl:es.length=es'.size:=by simpa using m4.1
   simp [Go.builtin,Builtin.len_,hv,b9 w hu,goInt,SG w m3,hl]
  ·cases hev
 ·cases hev
theorem Lz {o:Oper} {c:Call} {t el:TypeId} {x:Operand} {ax:AX} {r:AV} {H':AH} (hr:HR F B0 w I H) (he:EnvR F w I H e a.tmps) (ho:o.op= .call c) (hc:c.callee= .builtin .cap)
  (ht:c.argTypes.toList=[t]) (hx:c.args.toList=[x]) (hu:P.underlying t=some (.slice el)) (hax:cX P t x=some ax)
  (hev:evOp e nx H (.cap ax)=some (r,H')):OpOk P a o F B0 w I H r H':=by
 simp only [evOp] at hev;split at hev
 ·rename_i z es hxv;cases hev;obtain ⟨hd,b,len,hb⟩:=zI (aV hax he hxv);obtain ⟨b',cap,hb',_⟩:=sO hd;rw [hb'] at hb;cases hb;refine uI hr ?_ (.d (.int _ _));rw [D4 ho hc,arr1 ht,arr1 hx];simp [Go.builtin,Builtin.cap_,hb',b9 w hu,goInt]
 ·cases hev
theorem YK {o:Oper} {c:Call} {t u el:TypeId} {x y:Operand} {ax ay:AX} {z:Nat} {m:SM} {r:AV} {H':AH} (hfr:Free H nx) (hr:HR F B0 w I H) (he:EnvR F w I H e a.tmps) (ho:o.op= .call c) (hc:c.callee= .builtin .append)
  (ht:c.argTypes.toList=[t,u]) (hx:c.args.toList=[x,y]) (T:AT P t u el z) (hax:cX P t x=some ax) (hay:cX P u y=some ay)
  (hev:evOp e nx H (.append m z (P.bytesOf el) ax ay)=some (r,H')):OpOk P a o F B0 w I H r H':=by
 have hex:execOp a.eval o=(do pure (.value (<- Builtin.append_ #[t,u] o.type #[a.eval x,a.eval y]))):=by
  rw [D4 ho hc,arr2 ht,arr2 hx];simp only [Go.builtin,List.map_toArray,uP,zA]
 refine zH hex ?_;simp only [evOp] at hev;split at hev
 ·rename_i xv yv hxv hyv;have hvx:=aV hax he hxv;have hvy:=aV hay he hyv;split at hev
  ·cases hev
  ·rename_i ys0 hys0;split at hev
   ·rename_i id zz off len;split at hev
    ·rename_i hz;subst hz;split at hev
     ·rename_i z' es hget;split at hev
      ·rename_i hcond;obtain ⟨c1,c2,c3,c4⟩:=hcond;subst c1;cases hev;have hz:=L9 c3;exact Iz T hfr hr hvx hget c2 (NO hr hvy hys0 hz) hz c4
      ·split at hev
       ·rename_i hcond;obtain ⟨c1,c2,c3⟩:=hcond;subst c1;cases hev;have hz:=L9 c3;exact Iy T hr hvx hget c2 (NO hr hvy hys0 hz) hz
       ·cases hev
     ·cases hev
    ·cases hev
   ·rename_i zz es tk;split at hev
    ·rename_i hz;subst hz;split at hev
     ·rename_i z' f ys hget hfz;split at hev
      ·rename_i hcond;obtain ⟨c1,c2,c3,c4⟩:=hcond;subst c1;subst c2;cases hev;have hz:=L9 c3;exact Ix T hr hvx hget (kg hr hvy hys0 hfz hz) hz c4
      ·cases hev
     ·cases hev
    ·cases hev
   ·rename_i zz es;cases m with
    | row=>
     simp only at hev;split at hev
     ·rename_i hcond;obtain ⟨c1,c2,c3,c4⟩:=hcond;cases hev;have hz:=L9 c3;exact quk T hfr hr hvx c1 (NO hr hvy hys0 hz) hz c2 c4
     ·split at hev
      ·rename_i hcond;obtain ⟨c1,c2⟩:=hcond;subst c1;subst c2;cases hev;exact qsz T hr hvx (NO hr hvy hys0 (by simp))
      ·cases hev
    | app=>
     simp only at hev;split at hev
     ·cases hev
     ·rename_i ys hfz;split at hev
      ·rename_i hcond;obtain ⟨c1,c3,c4⟩:=hcond;cases hev;have hz:=L9 c3;exact qh T hfr hr hvx c1 (kg hr hvy hys0 hfz hz) hz c4
      ·cases hev
    | imm=>
     simp only at hev;split at hev
     ·cases hev
     ·rename_i ys hfz;split at hev
      ·rename_i hcond;obtain ⟨c1,c3,c4⟩:=hcond;cases hev;have hz:=L9 c3;exact qh T hfr hr hvx c1 (kg hr hvy hys0 hfz hz) hz c4
      ·cases hev
   ·cases hev
 ·cases hev
theorem Gz {o:Oper} {c:Call} {t u el:TypeId} {x y:Operand} {ax ay:AX} {z:Nat} {r:AV} {H':AH} (hr:HR F B0 w I H) (he:EnvR F w I H e a.tmps) (ho:o.op= .call c) (hc:c.callee= .builtin .copy)
  (ht:c.argTypes.toList=[t,u]) (hx:c.args.toList=[x,y]) (hu:P.underlying t=some (.slice el)) (hz:szOf P el=some z) (hax:cX P t x=some ax) (hay:cX P u y=some ay)
  (hev:evOp e nx H (.copy z ax ay)=some (r,H')):OpOk P a o F B0 w I H r H':=by
 have hex:execOp a.eval o=(do pure (.value (<- Builtin.copy_ #[t,u] o.type #[a.eval x,a.eval y]))):=by
  rw [D4 ho hc,arr2 ht,arr2 hx];simp only [Go.builtin,List.map_toArray,uP,zA]
 refine zH hex ?_;simp only [evOp] at hev;split at hev
 ·rename_i id zz off len yv hxv hyv;have hvx:=aV hax he hxv;have hvy:=aV hay he hyv;split at hev
  ·cases hev
  ·rename_i ys hys;split at hev
   ·rename_i hz2;subst hz2;split at hev
    ·rename_i z' es hget;split at hev
     ·rename_i hcond;obtain ⟨c1,c2,c3⟩:=hcond;subst c1;cases hev;have hzz:=L9 c3;exact Lk hu hz hr hvx hget c2 (NO hr hvy hys hzz) hzz
     ·cases hev
    ·cases hev
   ·cases hev
 ·cases hev
theorem Bv {o:Oper} {c:Call} {t el:TypeId} {x:Operand} {ax:AX} {z:List AV} {r:AV} {H':AH} (hr:HR F B0 w I H) (he:EnvR F w I H e a.tmps) (ho:o.op= .call c) (hc:c.callee= .builtin .clear)
  (ht:c.argTypes.toList=[t]) (hx:c.args.toList=[x]) (hu:P.underlying t=some (.slice el)) (hz:sI P el=some z) (hax:cX P t x=some ax)
  (hev:evOp e nx H (.clear z ax)=some (r,H')):OpOk P a o F B0 w I H r H':=by
 have hex:execOp a.eval o=(do pure (.value (<- Builtin.clear_ #[t] o.type #[a.eval x]))):=by
  rw [D4 ho hc,arr1 ht,arr1 hx];simp only [Go.builtin,List.map_toArray,uP,zA]
 simp only [evOp] at hev;split at hev
 ·rename_i id zz off len hxv;split at hev
  ·rename_i z' es hget;split at hev
   ·rename_i hcond;obtain ⟨c1,c2,c3⟩:=hcond;subst c1;cases hev;refine zH hex ?_;exact Ff hu hz c2.symm hr (aV hax he hxv) hget c3
   ·cases hev
  ·cases hev
 ·rename_i zz hxv;cases hev;obtain ⟨b,cap,hb,_⟩:=sO (EO (aV hax he hxv));refine sD hr hex ⟨.tuple #[],?_,.d (.tup [] #[] rfl (by simp)),rfl⟩;rw [hb];cases b<;>simp [Builtin.clear_,b9 w hu]
 ·rename_i zz hxv;cases hev;obtain ⟨b,cap,hb,_⟩:=sO (zI (aV hax he hxv)).1;refine sD hr hex ⟨.tuple #[],?_,.d (.tup [] #[] rfl (by simp)),rfl⟩;rw [hb];cases b<;>simp [Builtin.clear_,b9 w hu]
 ·cases hev
def mm (mx:Bool):Option AV->AV->Option AV:=fun acc w=>match acc,w with
 | some (.int k a),.int _ b=>some (.int k (if mx then (if b>a then b else a) else (if b<a then b else a)))
 | _,_=>none
theorem PV (mx:Bool):∀(l:List AV),l.foldl (mm mx) none=none
 | []=>rfl
 | x::l=>by
  rw [QD];exact PV mx l
theorem PU (mx:Bool):∀(l:List AV) (vs:List Value) (x r:AV) (v:Value),l.length=vs.length->(∀(i:Nat) y u,l[i]? =some y->vs[i]? =some u->VRH F w I H y u)->VRH F w I H x v->
  l.foldl (mm mx) (some x)=some r->∃u,(vs.foldlM (if mx then Builtin.max2 else Builtin.min2) v).run P w= .ok u w/\VRH F w I H r u
 | [],[],x,r,v,_,_,hx,h=>by
  cases h;exact ⟨v,rfl,hx⟩
 | y::l,u::vs,x,r,v,hl,hrel,hx,h=>by
  rw [QD] at h;cases hm:mm mx (some x) y with
  | none=>rw [hm,PV] at h;cases h
  | some x'=>
   rw [hm] at h;unfold mm at hm;split at hm
   ·rename_i k m k2 n hxe;cases hxe;cases hm;have hvx:=fG hx;have hvu:=fG (hrel 0 _ u rfl rfl);subst hvx;subst hvu;obtain ⟨q,h1,h2⟩:=PU mx l vs (.int k (if mx then (if n>m then n else m) else (if n<m then n else m))) r (.int k (if mx then (if n>m then n else m) else (if n<m then n else m))) (by simpa using hl)
     (fun i y u ha hb=>hrel (i+1) y u (by simpa using ha) (by simpa using hb)) (.d (.int _ _)) h
    refine ⟨q,?_,h2⟩;rw [List.foldlM_cons];cases mx
    ·simp only [nX,if_false] at h1 ⊢;simp only [Builtin.min2,Sem.run_bind,Sem.run_pure,Result.andThen_ok];exact h1
    ·simp only [if_true] at h1 ⊢;simp only [Builtin.max2,Sem.run_bind,Sem.run_pure,Result.andThen_ok];exact h1
   ·cases hm
 | [],_::_,_,_,_,hl,_,_,_=>by simp at hl
 | _::_,[],_,_,_,hl,_,_,_=>by simp at hl
end
end Go.Av
namespace Go.Av
variable {nx:Nat}
section
variable {F:Nat->Nat->Prop} {B0:Nat} {w:World} {I:Beta} {H:AH} {P:Program} {A:Ann} {fn:FuncId} {e:Env} {a:Act}
theorem Hc {o:Oper} {t:TypeId} {x:Operand} {ax:AX} {g:Bool} {n:Nat} {r:AV} {H':AH} (hr:HR F B0 w I H) (he:EnvR F w I H e a.tmps) (ho:o.op= .load t x)
  (hg:dE P t=some g) (hn:szOf P t=some n) (hx:cX P t x=some ax) (hev:evOp e nx H (.load g n ax)=some (r,H')):OpOk P a o F B0 w I H r H':=by
 cases hxv:evX e ax with
 | none=>simp [evOp,hxv] at hev
 | some xv=>exact sD (s:=Instr.loadAt t (a.eval x)) hr (by unfold execOp;rw [ho]) (OX hr hg hn hxv (aV hx he hxv) hev)
theorem Bw {o:Oper} {t:TypeId} {i:Nat} {f:Field} {x:Operand} {ax:AX} {n:Nat} {r:AV} {H':AH} (hr:HR F B0 w I H) (he:EnvR F w I H e a.tmps) (ho:o.op= .fieldAddr t x i)
  (hf:JR P t i=some f) (hn:szOf P f.type=some n) (h0:n≠0) (hx:cX P t x=some ax) (hev:evOp e nx H (.faddr f.offset ax)=some (r,H')):OpOk P a o F B0 w I H r H':=by
 cases hxv:evX e ax with
 | none=>simp [evOp,hxv] at hev
 | some xv=>exact sD (s:=Instr.fieldAt t (a.eval x) i) hr (by unfold execOp;rw [ho]) (Fg hf hn (by rw [hn];simpa using h0) hxv (aV hx he hxv) hev)
theorem Nq {o:Oper} {t:TypeId} {i:Nat} {f:Field} {x:Operand} {ax:AX} {g:Bool} {n:Nat} {r:AV} {H':AH} (hr:HR F B0 w I H) (he:EnvR F w I H e a.tmps) (ho:o.op= .field t x i)
  (hf:JR P t i=some f) (hg:dE P f.type=some g) (hn:szOf P f.type=some n) (hx:cX P t x=some ax) (hev:evOp e nx H (.fld g f.offset n ax)=some (r,H')):OpOk P a o F B0 w I H r H':=by
 cases hxv:evX e ax with
 | none=>simp [evOp,hxv] at hev
 | some xv=>exact sD (s:=Instr.field t (a.eval x) i) hr (by unfold execOp;rw [ho]) (Sk hf hg hn hxv (aV hx he hxv) hev)
theorem Aw {o:Oper} {t el tt:TypeId} {z:Nat} {x i:Operand} {ax ai:AX} {r:AV} {H':AH} (hr:HR F B0 w I H) (he:EnvR F w I H e a.tmps) (ho:o.op= .indexAddr t x i)
  (hu:P.underlying t=some (.slice el)) (hn:szOf P el=some z) (hx:cX P t x=some ax) (hi:cX P tt i=some ai) (hev:evOp e nx H (.iaddr z none ax ai)=some (r,H')):OpOk P a o F B0 w I H r H':=by
 cases hxv:evX e ax with
 | none=>simp [evOp,hxv] at hev
 | some xv=>
  cases hiv:evX e ai with
  | none=>simp [evOp,hxv,hiv] at hev
  | some iv=>exact sD (s:=Instr.indexAt t (a.eval x) (a.eval i)) hr (by unfold execOp;rw [ho]) (Fh hr hu hn hxv hiv (aV hx he hxv) (aV hi he hiv) hev)
theorem qw9 {o:Oper} {t el tt:TypeId} {z len:Nat} {x i:Operand} {ax ai:AX} {r:AV} {H':AH} (hr:HR F B0 w I H) (he:EnvR F w I H e a.tmps) (ho:o.op= .indexAddr t x i)
  (hu:P.underlying t=some (.array len el)) (hn:szOf P el=some z) (hx:cX P t x=some ax) (hi:cX P tt i=some ai) (hev:evOp e nx H (.iaddr z (some len) ax ai)=some (r,H')):OpOk P a o F B0 w I H r H':=by
 cases hxv:evX e ax with
 | none=>simp [evOp,hxv] at hev
 | some xv=>
  cases hiv:evX e ai with
  | none=>simp [evOp,hxv,hiv] at hev
  | some iv=>exact sD (s:=Instr.indexAt t (a.eval x) (a.eval i)) hr (by unfold execOp;rw [ho]) (qyz hu hn hxv hiv (aV hx he hxv) (aV hi he hiv) hev)
theorem Hb {o:Oper} {t tt:TypeId} {x i:Operand} {ax ai:AX} {r:AV} {H':AH} (hr:HR F B0 w I H) (he:EnvR F w I H e a.tmps) (ho:o.op= .index t x i)
  (hu:P.underlying t=some .string) (hx:cX P t x=some ax) (hi:cX P tt i=some ai) (hev:evOp e nx H (.idxs ax ai)=some (r,H')):OpOk P a o F B0 w I H r H':=by
 cases hxv:evX e ax with
 | none=>simp [evOp,hxv] at hev
 | some xv=>
  cases hiv:evX e ai with
  | none=>simp [evOp,hxv,hiv] at hev
  | some iv=>exact sD (s:=Instr.index t (a.eval x) (a.eval i)) hr (by unfold execOp;rw [ho]) (Lm hu hxv hiv (aV hx he hxv) (aV hi he hiv) hev)
theorem Ha {o:Oper} {t el tt:TypeId} {g:Bool} {n len:Nat} {x i:Operand} {ax ai:AX} {r:AV} {H':AH} (hr:HR F B0 w I H) (he:EnvR F w I H e a.tmps) (ho:o.op= .index t x i)
  (hu:P.underlying t=some (.array len el)) (hg:dE P el=some g) (hn:szOf P el=some n) (hx:cX P t x=some ax) (hi:cX P tt i=some ai) (hev:evOp e nx H (.idxa g len n ax ai)=some (r,H')):OpOk P a o F B0 w I H r H':=by
 cases hxv:evX e ax with
 | none=>simp [evOp,hxv] at hev
 | some xv=>
  cases hiv:evX e ai with
  | none=>simp [evOp,hxv,hiv] at hev
  | some iv=>exact sD (s:=Instr.index t (a.eval x) (a.eval i)) hr (by unfold execOp;rw [ho]) (Ll hu hg hn hxv hiv (aV hx he hxv) (aV hi he hiv) hev)
theorem Mc {o:Oper} {i:Nat} {t:TypeId} {x:Operand} {ax:AX} {r:AV} {H':AH} (hr:HR F B0 w I H) (he:EnvR F w I H e a.tmps) (ho:o.op= .extract x i)
  (hx:cX P t x=some ax) (hev:evOp e nx H (.ext i ax)=some (r,H')):OpOk P a o F B0 w I H r H':=by
 cases hxv:evX e ax with
 | none=>simp [evOp,hxv] at hev
 | some xv=>exact sD (s:=Instr.extract (a.eval x) i) hr (by unfold execOp;rw [ho]) (Sj hxv (aV hx he hxv) hev)
theorem Te {o:Oper} {op:UnOp} {t:TypeId} {x:Operand} {ax:AX} {r:AV} {H':AH} (hr:HR F B0 w I H) (he:EnvR F w I H e a.tmps) (ho:o.op= .unOp op t x)
  (hx:cX P t x=some ax) (hev:evOp e nx H (.un op ax)=some (r,H')):OpOk P a o F B0 w I H r H':=by
 simp only [evOp] at hev;split at hev
 ·rename_i xv hxv;obtain ⟨r',h1,h2⟩:=map_some hev;cases h2;obtain ⟨v,k1,k2⟩:=op_un (P:=P) (aV hx he hxv) h1;exact sD (s:=Op.unary op (a.eval x)) hr (by unfold execOp;rw [ho]) ⟨v,k1,k2,rfl⟩
 ·cases hev
theorem Gy {o:Oper} {s d:TypeId} {k0 k:IntKind} {x:Operand} {ax:AX} {r:AV} {H':AH} (hr:HR F B0 w I H) (he:EnvR F w I H e a.tmps) (ho:o.op= .convert s d x)
  (hs:P.underlying s=some (.int k0)) (hd:P.underlying d=some (.int k)) (hx:cX P s x=some ax) (hev:evOp e nx H (.conv k ax)=some (r,H')):OpOk P a o F B0 w I H r H':=by
 simp only [evOp] at hev;split at hev
 ·rename_i q n hxv;cases hev;have hv:=fG (aV hx he hxv);refine sD (s:=Go.convert s d (a.eval x)) hr (by unfold execOp;rw [ho]) ⟨.int k (k.wrap n),?_,.d (.int _ _),rfl⟩;rw [hv];simp [Go.convert,b9 w hs,b9 w hd,Conv.intToInt]
 ·cases hev
theorem Hf {o:Oper} {s d:TypeId} {x:Operand} {ax:AX} {r:AV} {H':AH} (hr:HR F B0 w I H) (he:EnvR F w I H e a.tmps) (ho:o.op= .convert s d x)
  (hs:P.underlying s=some .string) (hd:P.underlying d=some .string) (hx:cX P s x=some ax) (hev:evOp e nx H (.same ax)=some (r,H')):OpOk P a o F B0 w I H r H':=by
 simp only [evOp] at hev;split at hev
 ·rename_i q hxv;cases hev;have h0:=aV hx he hxv;have hv:=uV h0;refine sD (s:=Go.convert s d (a.eval x)) hr (by unfold execOp;rw [ho]) ⟨a.eval x,?_,h0,rfl⟩;rw [hv];simp [Go.convert,b9 w hs,b9 w hd]
 ·cases hev
theorem Lx {o:Oper} {s d el:TypeId} {x:Operand} {ax:AX} {r:AV} {H':AH} (hr:HR F B0 w I H) (he:EnvR F w I H e a.tmps) (ho:o.op= .convert s d x)
  (hs:P.underlying s=some (.slice el)) (hel:P.underlying el=some (.int .u8)) (hd:P.underlying d=some .string) (hx:cX P s x=some ax) (hev:evOp e nx H (.b2s ax)=some (r,H')):OpOk P a o F B0 w I H r H':=by
 simp only [evOp] at hev;split at hev
 ·cases hev
 ·rename_i xv hns hxv;split at hev
  ·rename_i es hes;split at hev
   ·rename_i bs hbs;cases hev;have hv:=aV hx he hxv;have hz:∀c∈es,c.length=1:=by
     intro c hc;obtain ⟨i,hi,rfl⟩:=Qn.1 hc;obtain ⟨b,_,hb⟩:=(D6 hbs).2 i es[i] (by simp [hi]);split at hb
     ·rename_i heq;rw [heq];rfl
     ·cases hb
    by_cases hstr:∃q,xv= .str q
    ·obtain ⟨q,rfl⟩:=hstr;exact absurd rfl (hns q)
    ·obtain ⟨base,cap,h1,h2,h3⟩:=uh hr hv hes hz (fun q hq=>hstr ⟨q,hq⟩);refine sD (s:=Go.convert s d (a.eval x)) hr (by unfold execOp;rw [ho]) ⟨.string ⟨bs.toArray⟩,?_,.d (.str _),rfl⟩;rw [h1];have hlen:=jC hbs;rcases h3 with h3 | ⟨b,off,rfl,h4⟩
     ·subst h3;have:bs=[]:=Qg (by simpa using hlen.symm);subst this;rw [run_convert_bytes_string w s d el _ _ _ hs hel hd];cases base with
      | none=>simp [Conv.bytesToString];rfl
      | some a=>simp [Conv.bytesToString,loadCells,loadCellsFrom];rfl
     ·have hnum:∀i,i<es.length->∃n,w.cell? ⟨b,off+i,none⟩=some (.int .u8 n)/\bs[i]? =some (UInt8.ofNat n.toNat):=by
       intro i hi;obtain ⟨bb,hb1,hb2⟩:=(D6 hbs).2 i es[i] (by simp [hi]);split at hb2
       ·rename_i n heq;cases hb2;obtain ⟨u,q1,_,q3⟩:=h4 i 0 es[i] (.int .u8 n) (by simp [hi]) (by rw [heq];rfl);rw [fG q3] at q1;exact ⟨n,by simpa using q1,hb1⟩
       ·cases hb2
      have hx2:∃xs:List Int,xs.length=es.length/\(∀i,i<es.length->w.cell? ⟨b,off+i,none⟩=some (.int .u8 (xs.getD i 0)))/\xs.map (fun n=>UInt8.ofNat n.toNat)=bs:=by
       refine ⟨(List.range es.length).map (fun i=>match w.cell? ⟨b,off+i,none⟩ with | some (.int .u8 n)=>n | _=>0),by simp,?_,?_⟩
       ·intro i hi;obtain ⟨n,q1,_⟩:=hnum i hi;rw [q1];simp [List.getD,List.getElem?_map,List.getElem?_range hi,q1]
       ·apply List.ext_getElem?;intro i;rcases Qv i es.length with hi | hi
        ·obtain ⟨n,q1,q2⟩:=hnum i hi;rw [q2];simp [List.getElem?_map,List.getElem?_range hi,q1]
        ·rw [Qk (by simpa using hi),Qk (by omega)]
      obtain ⟨xs,l1,l2,l3⟩:=hx2;rw [run_convert_bytes_arg w s el hs hel b off es.length cap xs l1 l2 d hd];rw [<- l3];rfl
   ·cases hev
  ·cases hev
 ·cases hev
theorem WV {o:Oper} {t:TypeId} {td:TypeDesc} {x:Operand} {ax:AX} {r:AV} {H':AH} (hr:HR F B0 w I H) (he:EnvR F w I H e a.tmps) (ho:o.op= .makeInterface t x)
  (hu:P.underlying t=some td) (hni:∀ms,td≠ .interface ms) (hx:cX P t x=some ax) (hev:evOp e nx H (.mkiface t ax)=some (r,H')):OpOk P a o F B0 w I H r H':=by
 simp only [evOp] at hev;split at hev
 ·rename_i xv hxv;cases hev;refine sD (s:=Instr.makeInterface t (a.eval x)) hr (by unfold execOp;rw [ho]) ⟨.iface t (a.eval x),?_,.iface t xv _ (aV hx he hxv),rfl⟩;cases td<;>first
   | (exact absurd rfl (hni _))
   | simp [Instr.makeInterface,b9 w hu]
 ·cases hev
theorem YN {o:Oper} {t:TypeId} {f:Fn} {first caps:Array Operand} {af ac:List AX} {r:AV} {H':AH} (hr:HR F B0 w I H) (he:EnvR F w I H e a.tmps) (ho:o.op= .makeFunc f first caps)
  (h1:mapO (cX P t) first.toList=some af) (h2:mapO (cX P t) caps.toList=some ac) (hev:evOp e nx H (.mkfunc f af ac)=some (r,H')):OpOk P a o F B0 w I H r H':=by
 simp only [evOp] at hev;split at hev
 ·rename_i vf vc hf hc;cases hev;obtain ⟨l1,l2⟩:=PB he h1 hf;obtain ⟨l3,l4⟩:=PB he h2 hc;refine sD (s:=Instr.makeFunc f (first.map a.eval) (caps.map a.eval)) hr (by unfold execOp;rw [ho]) ⟨_,rfl,.func f vf vc _ _ (by simpa using l1) (by simpa using l3) ?_ ?_,rfl⟩
  ·intro i y u hy hu;rw [Array.getElem?_map] at hu;obtain ⟨x,hx,rfl⟩:=map_some hu;exact l2 i y x hy (by simpa using hx)
  ·intro i y u hy hu;rw [Array.getElem?_map] at hu;obtain ⟨x,hx,rfl⟩:=map_some hu;exact l4 i y x hy (by simpa using hx)
 ·cases hev
theorem YP {o:Oper} {t:TypeId} {x:Operand} {ax:AX} {r:AV} {H':AH} (hr:HR F B0 w I H) (he:EnvR F w I H e a.tmps) (ho:o.op= .nilCheck x)
  (hx:cX P t x=some ax) (hev:evOp e nx H (.nilchk ax)=some (r,H')):OpOk P a o F B0 w I H r H':=by
 simp only [evOp] at hev;split at hev
 ·rename_i p q i j hxv;cases hev;have h0:=aV hx he hxv;obtain ⟨_,⟨b,k,hv⟩,_⟩:=DK h0;refine uI hr ?_ h0;unfold execOp;rw [ho];simp [hv]
 ·rename_i p q i j hxv;cases hev;have h0:=aV hx he hxv;have h1:=JT h0;refine uI hr ?_ h0;unfold execOp;rw [ho];have hv:∃p,a.eval x= .pointer (some p):=by
   generalize a.eval x=v at h1;cases h1;exact ⟨_,rfl⟩
  obtain ⟨p,hv⟩:=hv;simp [hv]
 ·rename_i f p q hxv;cases hev;have h0:=aV hx he hxv;obtain ⟨va,vb,hv,_⟩:=NQ h0;refine uI hr ?_ h0;unfold execOp;rw [ho];simp [hv]
 ·rename_i t v hxv;cases hev;have h0:=aV hx he hxv;obtain ⟨u,hv,_⟩:=LM h0;refine uI hr ?_ h0;unfold execOp;rw [ho];simp [hv]
 ·cases hev
theorem qj {o:Oper} {c:Call} {mx:Bool} {xs:List AX} {r:AV} {H':AH} (hr:HR F B0 w I H) (he:EnvR F w I H e a.tmps) (ho:o.op= .call c) (hc:c.callee= .builtin (if mx then .max else .min))
  (hx:cXs P c.argTypes.toList c.args.toList=some xs) (hev:evOp e nx H (.minmax mx xs)=some (r,H')):OpOk P a o F B0 w I H r H':=by
 simp only [evOp] at hev;split at hev
 ·rename_i v vs hvs;obtain ⟨r',h1,h2⟩:=map_some hev;cases h2;obtain ⟨l1,l2⟩:=gf he hx hvs;cases hargs:c.args.toList with
  | nil=>rw [hargs] at l1;simp at l1
  | cons x0 xs0=>
   rw [hargs] at l1 l2;obtain ⟨u,k1,k2⟩:=PU (P:=P) (F:=F) (w:=w) (I:=I) (H:=H) mx vs (xs0.map a.eval) v r (a.eval x0) (by simpa using l1) (by
    intro i y u hy hu;rw [List.getElem?_map] at hu;obtain ⟨x,hx,rfl⟩:=map_some hu;exact l2 (i+1) y x (by simpa using hy) (by simpa using hx)) (l2 0 v x0 rfl rfl) h1
   refine uI hr ?_ k2;rw [D4 ho hc];have hm:(c.args.map a.eval).toList=a.eval x0::xs0.map a.eval:=by simp [hargs]
   cases mx
   ·simp only [nX,if_false] at k1 ⊢;simp only [Go.builtin,Builtin.min_,hm,Sem.run_bind,k1,Result.andThen_ok,Sem.run_pure]
   ·simp only [if_true] at k1 ⊢;simp only [Go.builtin,Builtin.max_,hm,Sem.run_bind,k1,Result.andThen_ok,Sem.run_pure]
 ·cases hev
theorem Ns {o:Oper} {t el:TypeId} {z:Nat} {x:Operand} {lo hi mx:Option Operand} {ax:AX} {al ah am:Option AX} {r:AV} {H':AH} (hr:HR F B0 w I H) (he:EnvR F w I H e a.tmps) (ho:o.op= .slice t x lo hi mx)
  (hu:P.underlying t=some (.slice el)) (hn:szOf P el=some z) (hx:cX P t x=some ax) (hl:oX P t lo=some al) (hh:oX P t hi=some ah) (hm:oX P t mx=some am) (hmh:am.isSome=true->ah.isSome=true)
  (hev:evOp e nx H (.slc z ax al ah am)=some (r,H')):OpOk P a o F B0 w I H r H':=by
 cases hxv:evX e ax with
 | none=>simp [evOp,hxv] at hev
 | some xv=>
  exact sD (s:=Instr.sliceAt t (a.eval x) (lo.map a.eval) (hi.map a.eval) (mx.map a.eval)) hr (by unfold execOp;rw [ho])
   (Sl hu hn hxv (aV hx he hxv) (L0 hl he) (L0 hh he) (L0 hm he) hmh hev)
theorem Od (w:World) (I:Beta) (H:AH):Tr w I H w I ⟨H.objs,H.next+1⟩:=
 ⟨.refl _ _,fun _ _ hm=> .inl hm,fun _ hk=>⟨Nat.lt_succ_of_lt hk.1,hk.2⟩,fun _ _ _ _ h=>⟨⟨_,h,rfl⟩,rfl⟩,fun _ _ _ h=>⟨⟨_,h⟩,rfl⟩,fun _ _ _ _ h=>⟨_,h,Qb _,fun _=>rfl⟩⟩
theorem hr_bump (hr:HR F B0 w I H):HR F B0 w I ⟨H.objs,H.next+1⟩:=
 ⟨hr.base,hr.far,hr.uniq,fun id h=>hr.next id (Nat.le_of_succ_le h),hr.inj,fun id ob h=>(hr.obj id ob h).tr (Od w I H) rfl (fun _ _ _=>rfl)⟩
theorem YM {o:Oper} {t kt et:TypeId} {kd:Kd} {z:AV} {ok:Bool} {x k:Operand} {ax ak:AX} {r:AV} {H':AH} (hr:HR F B0 w I H) (he:EnvR F w I H e a.tmps) (ho:o.op= .lookup t x k ok)
  (hu:P.underlying t=some (.map kt et)) (hk:DP P kt=some kd) (hz:M5 P et=some z) (hx:cX P t x=some ax) (hkk:cX P kt k=some ak) (hev:evOp e nx H (.lookup kd z ok ax ak)=some (r,H')):OpOk P a o F B0 w I H r H':=by
 simp only [evOp] at hev;split at hev
 ·rename_i xv kv hxv hkv;split at hev
  ·cases hev
  ·rename_i es hes;split at hev
   ·cases hev
   ·rename_i rr hrr;cases hev;obtain ⟨v,k1,k2⟩:=Z' (P:=P) (ok:=ok) hr hu hk hz (aV hx he hxv) (aV hkk he hkv) hes hrr;exact sD (s:=Instr.lookup t (a.eval x) (a.eval k) ok) hr (by unfold execOp;rw [ho]) ⟨v,k1,k2,rfl⟩
 ·cases hev
theorem YQ {o:Oper} {t kt et:TypeId} {kd:Kd} {x k v:Operand} {ax ak av:AX} {r:AV} {H':AH} (hr:HR F B0 w I H) (he:EnvR F w I H e a.tmps) (ho:o.op= .mapUpdate t x k v)
  (hu:P.underlying t=some (.map kt et)) (hk:DP P kt=some kd) (hx:cX P t x=some ax) (hkk:cX P kt k=some ak) (hvv:cX P et v=some av) (hev:evOp e nx H (.update kd ax ak av)=some (r,H')):OpOk P a o F B0 w I H r H':=by
 simp only [evOp] at hev;split at hev
 ·rename_i id kv vv hxv hkv hvv2;split at hev
  ·rename_i es hget;split at hev
   ·rename_i hok;split at hev
    ·cases hev
    ·rename_i es' hes';cases hev;obtain ⟨w',h1,I',h2,h3⟩:=Aa (P:=P) hr hu hk (aV hx he hxv) (aV hkk he hkv) (aV hvv he hvv2) hok hget hes';refine ⟨undef,w',.inr ⟨?_,rfl⟩,I',h2,h3,.d (.tup [] #[] rfl (by simp))⟩;unfold execOp;rw [ho];simp [h1]
   ·cases hev
  ·cases hev
 ·cases hev
theorem WX {o:Oper} {t xt:TypeId} {ok:Bool} {z:AV} {td:TypeDesc} {x:Operand} {ax:AX} {r:AV} {H':AH} (hr:HR F B0 w I H) (he:EnvR F w I H e a.tmps) (ho:o.op= .typeAssert x xt t ok)
  (hu:P.underlying t=some td) (hni:∀ms,td≠ .interface ms) (hz:M5 P t=some z) (hx:cX P xt x=some ax) (hev:evOp e nx H (.tassert t ok z ax)=some (r,H')):OpOk P a o F B0 w I H r H':=by
 obtain ⟨zv,hz1,hz2⟩:=ot (F:=F) (w:=w) (I:=I) (H:=H) hz;have pair:∀(y:AV) (u:Value) (b:Bool),VRH F w I H y u->VRH F w I H (.tup [y,.bool b]) (.tuple #[u,.bool b]):=by
  intro y u b hy;refine .tup _ _ rfl ?_;intro i x' u' hx' hu'
  match i with
  | 0=>simp at hx' hu';subst hx';subst hu';exact hy
  | 1=>simp at hx' hu';subst hx';subst hu';exact .d (.bool b)
  | i+2=>simp at hx'
 simp only [evOp] at hev;split at hev
 ·rename_i u v hxv;obtain ⟨v',hv',hvv⟩:=LM (aV hx he hxv);split at hev
  ·rename_i hut;subst hut;cases hev;refine sD (s:=Instr.typeAssert (a.eval x) xt u ok) hr (by unfold execOp;rw [ho]) ⟨if ok then .tuple #[v',.bool true] else v',?_,?_,rfl⟩
   ·rw [hv'];cases td<;>first
     | (exact absurd rfl (hni _))
     | simp [Instr.typeAssert,b9 w hu]
   ·cases ok
    ·exact hvv
    ·exact pair v v' true hvv
  ·rename_i hut;split at hev
   ·rename_i hok;cases hev;refine sD (s:=Instr.typeAssert (a.eval x) xt t ok) hr (by unfold execOp;rw [ho]) ⟨.tuple #[zv,.bool false],?_,pair z zv false hz2,rfl⟩;rw [hv',hok];cases td<;>first
     | (exact absurd rfl (hni _))
     | simp [Instr.typeAssert,b9 w hu,hut,hz1]
   ·cases hev
 ·rename_i hxv;have hv':=S3 (aV hx he hxv);split at hev
  ·rename_i hok;cases hev;refine sD (s:=Instr.typeAssert (a.eval x) xt t ok) hr (by unfold execOp;rw [ho]) ⟨.tuple #[zv,.bool false],?_,pair z zv false hz2,rfl⟩;rw [hv',hok];cases td<;>first
    | (exact absurd rfl (hni _))
    | simp [Instr.typeAssert,b9 w hu,hz1]
  ·cases hev
 ·cases hev
end
end Go.Av
namespace Go.Av
variable {nx:Nat}
theorem ow:∀{a:List AV} {b:List Value},A7 a b=true->a.length=b.length
 | [],[],_=>rfl
 | [],_::_,h=>by cases h
 | _::_,[],h=>by cases h
 | a::r,b::s,h=>by
  simp only [A7,d7] at h;simp [ow h.2]
theorem RZ {P:Program} {t el:TypeId} (h:JQ P t=some el):P.underlying t=some (.slice el):=by
 unfold JQ at h;split at h
 ·rename_i e he;cases h;exact he
 ·cases h
section
variable {F:Nat->Nat->Prop} {B0:Nat} {w:World} {I:Beta} {H:AH} {P:Program} {A:Ann} {fn:FuncId} {e:Env} {a:Act}
theorem ug {o:Oper} {t k el:TypeId} {rs:Option Operand} {r:AV} {H':AH} (hfr:Free H nx) (hr:HR F B0 w I H) (ho:o.op= .makeMap t rs) (hu:P.underlying t=some (.map k el))
  (hrs:rs=none\/∃q n,rs=some (.const (.int q n))) (hev:evOp e nx H .mkmap=some (r,H')):OpOk P a o F B0 w I H r H':=by
 simp only [evOp] at hev;cases hev;refine zH (s:=Instr.makeMap t (rs.map a.eval)) (by unfold execOp;rw [ho]) (Fi hfr hr hu ?_);rcases hrs with rfl | ⟨q,n,rfl⟩
 ·exact .inl rfl
 ·exact .inr ⟨q,n,rfl⟩
theorem Cb {o:Oper} {c:Call} {b:Builtin} {ao:AOp} {r:AV} {H':AH} (hfr:Free H nx) (hr:HR F B0 w I H) (he:EnvR F w I H e a.tmps) (ho:o.op= .call c) (hc:c.callee= .builtin b)
  (h:K1 P A fn o c=some ao) (hev:evOp e nx H ao=some (r,H')):OpOk P a o F B0 w I H r H':=by
 unfold K1 at h;rw [hc] at h;cases b
 case len=>
  simp only at h;split at h
  ·rename_i t x ht hx;split at h
   ·rename_i e0 ax hu hax;cases h;exact Nr hr he ho hc ht hx hu hax hev
   ·rename_i ax hu hax;cases h;exact Hg hr he ho hc ht hx hu hax hev
   ·rename_i k el ax hu hax;cases h;exact Hd hr he ho hc ht hx hu hax hev
   ·rename_i n el hu;cases h;simp only [evOp,evX,F2] at hev;cases hev;refine uI (v:= .int .i64 n) hr ?_ (.d (.int _ _));rw [D4 ho hc,arr1 ht,arr1 hx];simp [Go.builtin,Builtin.len_,b9 w hu,goInt]
   ·cases h
  ·cases h
 case cap=>
  simp only at h;split at h
  ·rename_i t x ht hx;split at h
   ·rename_i e0 ax hu hax;cases h;exact Lz hr he ho hc ht hx hu hax hev
   ·cases h
  ·cases h
 case append=>
  simp only at h;split at h
  ·rename_i t u x y ht hx;split at h
   ·rename_i el ax ay hel hax hay;split at h
    ·rename_i z hz;split at h
     ·cases h
     ·rename_i hchk;cases h;have ht':=RZ hel;simp only [D3,not_or,OJ,Bool.not_eq_false',decide_eq_true_eq,Option.isNone_eq_false_iff,beq_eq_false_iff_ne] at hchk;obtain ⟨⟨⟨⟨c1,c2⟩,c3⟩,c4⟩,c5⟩:=hchk;obtain ⟨zz,c6,c7⟩:=map_some c5;obtain ⟨i,zv,k1,k2,k3⟩:=S1 c6;refine YK hfr hr he ho hc ht hx ⟨ht',hz,c2,?_,c3,i,zv,k1,k2,?_⟩ hax hay hev
      ·obtain ⟨d,hd⟩:=zX.1 c4;refine ⟨d,hd,?_⟩;intro k hk;subst hk;unfold intT at c1;rw [hd] at c1;cases c1
      ·have:=ow k3;rw [<- c7,this];simp
    ·cases h
   ·cases h
  ·cases h
 case copy=>
  simp only at h;split at h
  ·rename_i t u x y ht hx;split at h
   ·rename_i el ax ay hel hax hay;split at h
    ·rename_i z hz;split at h
     ·cases h
     ·cases h;exact Gz hr he ho hc ht hx (RZ hel) hz hax hay hev
    ·cases h
   ·cases h
  ·cases h
 case clear=>
  simp only at h;split at h
  ·rename_i t x ht hx;split at h
   ·rename_i el ax hel hax;obtain ⟨z,hz,rfl⟩:=map_some h;exact Bv hr he ho hc ht hx (RZ hel) hz hax hev
   ·cases h
  ·cases h
 case min=>
  simp only at h;obtain ⟨xs,hxs,rfl⟩:=map_some h;exact qj (mx:=false) hr he ho hc hxs hev
 case max=>
  simp only at h;obtain ⟨xs,hxs,rfl⟩:=map_some h;exact qj (mx:=true) hr he ho hc hxs hev
 all_goals exact absurd h (by simp)
theorem Fj {o:Oper} {ao:AOp} {r:AV} {H':AH} (hfr:Free H nx) (hr:HR F B0 w I H) (he:EnvR F w I H e a.tmps)
  (h:cOp P A fn o=some ao) (hev:evOp e nx H ao=some (r,H')):OpOk P a o F B0 w I H r H':=by
 unfold cOp at h;split at h
 ·rename_i x ho;obtain ⟨ax,hx,rfl⟩:=map_some h;exact ie hr he (by simp [execOp,ho]) hx hev
 ·rename_i x ho;split at h
  ·split at h
   ·split at h
    ·rename_i el hel;obtain ⟨z,hz,rfl⟩:=map_some h;exact YO hfr hr (by simp [execOp,ho,Act.eval]) hev
    ·cases h
   ·obtain ⟨ax,hx,rfl⟩:=map_some h;exact ie hr he (by simp [execOp,ho]) hx hev
  ·obtain ⟨ax,hx,rfl⟩:=map_some h;exact ie hr he (by simp [execOp,ho]) hx hev
 ·rename_i c x y ho;split at h
  ·rename_i ac ax ay hc hx hy;cases h;exact He hr he (by simp [execOp,ho]) hc hx hy hev
  ·cases h
 ·rename_i t ho;obtain ⟨z,hz,rfl⟩:=map_some h;exact Bu hfr hr ho hz hev
 ·rename_i t x ho;obtain ⟨ax,hx,rfl⟩:=map_some h;split at hev
  ·exact Gx hr he ho hx hev
  ·exact Ly hfr hr he ho hx hev
 ·rename_i t parts ho;split at h
  ·rename_i fs z hu hz;obtain ⟨aps,hp,rfl⟩:=map_some h;exact qss hr he ho hu hz hp hev
  ·rename_i m el z hu hz;split at h
   ·rename_i n hn;obtain ⟨aps,hp,rfl⟩:=map_some h;exact qt1 hr he ho hu hz hn hp hev
   ·cases h
  ·cases h
 ·rename_i t len parts ho;split at h
  ·rename_i el hel;split at h
   ·rename_i n z hn hz;split at h
    ·rename_i hc;obtain ⟨aps,hp,rfl⟩:=map_some h;refine YL hfr hr he ho (RZ hel) hn hz hc.1 hc.2.1 hc.2.2.1 ?_ hp hev;intro p hp;have:=Qr.1 hc.2.2.2 p hp;simpa using this
    ·cases h
   ·cases h
  ·cases h
 ·rename_i t x ho;split at h
  ·rename_i g n ax hg hn hx;cases h;exact Hc hr he ho hg hn hx hev
  ·cases h
 ·rename_i t x v ho;split at h
  ·rename_i n ax av hn hx hv;cases h;exact Ax hr he ho hn hx hv hev
  ·cases h
 ·rename_i x ho;obtain ⟨ax,hx,rfl⟩:=map_some h;exact YP hr he ho hx hev
 ·rename_i op t x y u ho;split at h
  ·rename_i ax ay hx hy;split at h
   ·rename_i hop;have hop':op= .eql\/op= .neq:=by
     rcases Bool.or_eq_true_iff.1 hop with k | k
     ·exact .inl (by simpa using k)
     ·exact .inr (by simpa using k)
    split at h
    ·cases h;exact Q1 hr he ho hx hy hev
    ·split at h
     ·rename_i ks g hks hg;cases h;exact Mb hr he ho hop' hks hg hx hy hev
     ·split at h
      ·rename_i el hel;cases h;exact Ma hr he ho hop' hel hx hy hev
      ·rename_i ms hms;split at h
       ·cases h;exact Q2 hr he ho hop' hms (.inl ⟨⟨_,rfl⟩,rfl⟩) hx hy hev
       ·cases h
      ·rename_i ps rs vv hms;split at h
       ·cases h;exact Q2 hr he ho hop' hms (.inr ⟨⟨_,_,_,rfl⟩,rfl⟩) hx hy hev
       ·cases h
      ·cases h
   ·split at h
    ·cases h;exact Q1 hr he ho hx hy hev
    ·cases h
  ·cases h
 ·rename_i op t x ho;obtain ⟨ax,hx,rfl⟩:=map_some h;exact Te hr he ho hx hev
 ·rename_i s d x ho;split at h
  ·rename_i k0 k ax hs hd hx;cases h;exact Gy hr he ho hs hd hx hev
  ·rename_i ax hs hd hx;cases h;exact Hf hr he ho hs hd hx hev
  ·rename_i el ax hs hd hx;split at h
   ·rename_i hel;cases h;exact Lx hr he ho hs hel hd hx hev
   ·cases h
  ·cases h
 ·rename_i t x ho;split at h
  ·cases h
  ·rename_i td hni hu;obtain ⟨ax,hx,rfl⟩:=map_some h;exact WV hr he ho hu (fun ms hm=>hni ms hm) hx hev
  ·cases h
 ·rename_i f first caps ho
  split at h
  ·rename_i af ac h1 h2;cases h;exact YN hr he ho h1 h2 hev
  ·cases h
 ·rename_i t rs ho;split at h
  ·rename_i k el hu;split at h
   ·cases h;exact ug hfr hr ho hu (.inl rfl) hev
   ·cases h;exact ug hfr hr ho hu (.inr ⟨_,_,rfl⟩) hev
   ·cases h
  ·cases h
 ·rename_i t l c ho;split at h
  ·rename_i el hel;split at h
   ·rename_i n z al ac hn hz hl hc;split at h
    ·rename_i hchk;cases h;exact WW hfr hr he ho (RZ hel) hn hz hchk.1 hchk.2 hl hc hev
    ·cases h
   ·cases h
  ·cases h
 ·rename_i t x lo hi mx ho;split at h
  ·rename_i el ax al ah am hu hx hl hh hm;split at h
   ·rename_i z hz;split at h
    ·cases h
    ·rename_i hchk;have hmh:am.isSome=true->ah.isSome=true:=by
      intro hs;cases hah:ah.isSome with
      | true=>rfl
      | false=>exact absurd (.inr ⟨hs,hah⟩) hchk
     cases h;exact Ns hr he ho hu hz hx hl hh hm hmh hev
   ·cases h
  ·cases h
 ·rename_i t x i ho;split at h
  ·rename_i f ax hf hx;split at h
   ·rename_i n hn;split at h
    ·cases h
    ·rename_i h0;cases h;exact Bw hr he ho hf hn h0 hx hev
   ·cases h
  ·cases h
 ·rename_i t x i ho;split at h
  ·rename_i f ax hf hx;split at h
   ·rename_i g n hg hn;cases h;exact Nq hr he ho hf hg hn hx hev
   ·cases h
  ·cases h
 ·rename_i t x i ho;split at h
  ·rename_i el ax ai hu hx hi;split at h
   ·rename_i z hz;cases h;exact Aw hr he ho hu hz hx hi hev
   ·cases h
  ·rename_i n el ax ai hu hx hi;split at h
   ·rename_i z hz;cases h;exact qw9 hr he ho hu hz hx hi hev
   ·cases h
  ·cases h
 ·rename_i t x i ho;split at h
  ·rename_i ax ai hu hx hi;cases h;exact Hb hr he ho hu hx hi hev
  ·rename_i n el ax ai hu hx hi;split at h
   ·rename_i g z hg hz;cases h;exact Ha hr he ho hu hg hz hx hi hev
   ·cases h
  ·cases h
 ·rename_i t x k ok ho;split at h
  ·rename_i kt et hu;split at h
   ·rename_i ax ak z kd hx hk hz hkd;cases h;exact YM hr he ho hu hkd hz hx hk hev
   ·cases h
  ·cases h
 ·rename_i t m k v ho;split at h
  ·rename_i kt et hu;split at h
   ·rename_i ax ak av kd hx hk hv hkd;cases h;exact YQ hr he ho hu hkd hx hk hv hev
   ·cases h
  ·cases h
 ·rename_i x xt t ok ho;split at h
  ·cases h
  ·rename_i td hni hu;split at h
   ·rename_i ax z hx hz;cases h;exact WX hr he ho hu (fun ms hm=>hni ms hm) hz hx hev
   ·cases h
  ·cases h
 ·rename_i x i ho;obtain ⟨ax,hx,rfl⟩:=map_some h;exact Mc hr he ho hx hev
 ·rename_i c ho;cases hc:c.callee with
  | builtin b=>exact Cb hfr hr he ho hc h hev
  | invoke rv nm=>
   unfold K1 at h;rw [hc] at h;cases rv with
   | tmp t=>
    simp only at h;split at h
    ·cases h;split at hev<;>cases hev
    ·cases h
   | func f=>cases h
   | const v=>cases h
   | global g=>cases h
  | value f=>
   unfold K1 at h;rw [hc] at h;cases f with
   | tmp t=>
    simp only at h;split at h
    ·cases h;split at hev<;>cases hev
    ·cases h
   | func f=>
    simp only at h;split at h
    ·split at h
     ·cases h
      (repeat' split at hev)<;>cases hev
     ·cases h
    ·cases h
   | const v=>cases h
   | global g=>cases h
 ·rename_i x ho;obtain ⟨ax,hx,rfl⟩:=map_some h;cases hev
 ·cases h
end
end Go.Av
namespace Go.Av
variable {nx:Nat}
def CN (F:Nat->Nat->Prop) (B0:Nat) (w:World) (I:Beta) (H:AH) (r:Rt) (H':AH):Ending->World->Prop
 | .returned v,w'=>∃x,r= .val x/\Good F B0 w I H x H' v w'
 | .panicked c,w'=>∃x u,r= .pan x/\c=[{ v:=u,recovered:=false }]/\Good F B0 w I H x H' u w'
 | .outgrown,_=>False
def EP (P : Program) (f : FuncId) : Prop := ∃ fn, P.funcs[f]? = some fn ∧ fn.body.isNone = false ∧ (fn.name == "runtime.NumGoroutine") = false
def ArgsR (F:Nat->Nat->Prop) (w:World) (I:Beta) (H:AH) (as:List AV) (vs:Array Value):Prop:=
 as.length=vs.size/\∀(i:Nat) x v,as[i]? =some x->vs[i]? =some v->VRH F w I H x v
structure CallOk (P:Program) (call:aP):Prop where
 body:∀f as H r H',call f as H=some (r,H')->EP P f
 runs:∀f as H r H',call f as H=some (r,H')->∀F B0 w I (vs:Array Value),HR F B0 w I H->ArgsR F w I H as vs->Calls P f vs w (CN F B0 w I H r H')
section
variable {F:Nat->Nat->Prop} {B0:Nat} {w:World} {I:Beta} {H:AH} {P:Program} {A:Ann} {fn:FuncId} {e:Env} {a:Act}
theorem SQ (id:Nat):H0.get id=none:=rfl
theorem zN {I0:Beta} {b i:Nat} (h:Mut I0 H0 b i):False:=by
 obtain ⟨id,ob,o,h1,_⟩:=h;rw [SQ] at h1;cases h1
theorem Ext.still {M:Nat->Nat->Prop} {w w':World} (h:Ext M w w') (hM:∀b i,¬M b i):∀b,b<w.heap.size->w'.heap[b]? =w.heap[b]? :=by
 intro b hb;rcases h.block b hb with h1 | ⟨c,c',ty,h1,h2,h3,h4⟩ | ⟨h1,_⟩
 ·exact h1
 ·have:c'=c:=OH (fun i=>h4 i (hM b i));rw [h2,h1,this]
 ·exact absurd h1 (hM b 0)
theorem TT {call:aP} (hc:CallOk P call) {f:FuncId} {as:List AV} {r:Rt} {H':AH} (h:nY call f as H=some (r,H')):EP P f:=by
 unfold nY at h;split at h
 ·cases h
 ·rename_i as' has;split at h
  ·rename_i x H1 hcall;exact hc.body _ _ _ _ _ hcall
  ·rename_i x H1 hcall;exact hc.body _ _ _ _ _ hcall
  ·cases h
theorem TU {call:aP} (hc:CallOk P call) {f:FuncId} {as:List AV} {r:Rt} {H':AH} (h:nY call f as H=some (r,H'))
    {vs:Array Value} (hr:HR F B0 w I H) (ha:ArgsR F w I H as vs):Calls P f vs w (CN F B0 w I H r H'):=by
  unfold nY at h;split at h
  · cases h
  · rename_i as' has
    let F':Nat->Nat->Prop:=fun b i=>anyL (bor aI) as=false/\(Mut I H b i\/F b i)
    let I0:Beta:=fun _=>none
    have hlt:∀b i,(Mut I H b i\/F b i)->b<w.heap.size:=by
      intro b i hm;rcases hm with hm | hm
      · exact (hr.mut_lt hm).1
      · exact OE (hr.far b i hm) hr.base
    have hr0:HR F' w.heap.size w I0 H0:=by
      refine ⟨Qb _,fun b i hf=>hlt b i hf.2,trivial,fun _ _=>rfl,?_,?_⟩
      · intro id _ ob _ _ _ _ h1
        rw [SQ] at h1;cases h1
      · intro id ob h1
        rw [SQ] at h1;cases h1
    have hargs:ArgsR F' w I0 H0 as' vs:=by
      refine ⟨(jC has).symm.trans ha.1,?_⟩;intro i y v hy hv;obtain ⟨x,h1,h2⟩:=nH has hy;have hx:=ha.2 i x v h1 hv;cases hb:anyL (bor aI) as with
      | false=>
        refine .d ((LL _ x y v h2 (vT hb x (Qe h1)) hx).mono ?_);intro b j u hi hcell;exact ⟨⟨fun hm=>zN hm,fun hf=>by rcases hf.2 with hm | hm;exact hi.1 hm;exact hi.2 hm⟩,hcell⟩
      | true=>
        refine .d (MO hr (J:=Imm F' I0 H0) ?_ ?_ _ x y v h2 hx)
        · intro b j _
          exact ⟨fun hm=>zN hm,fun hf=>by have:=hf.1;rw [hb] at this;cases this⟩
        · intro b j _
          exact ⟨fun hm=>zN hm,fun hf=>by have:=hf.1;rw [hb] at this;cases this⟩
    have back:∀{x:AV} {H1:AH} {v:Value} {w':World},Good F' w.heap.size w I0 H0 x H1 v w'->
        Tr w I H w' I H/\HR F B0 w' I H/\∃I',HR F' w.heap.size w' I' H1/\VRH F' w' I' H1 x v:=by
      intro x H1 v w' hg;obtain ⟨I',h1,h2,h3⟩:=hg;have hs:=h1.ext.still (fun b i hm=>zN hm);have ht:Tr w I H w' I H:=by
        refine ⟨h1.ext.mono (fun b i hm=>(zN hm).elim),fun b i hm=> .inl hm,fun _ h=>h,?_,?_,?_⟩
        · intro id z es _ hg;exact ⟨⟨es,hg,rfl⟩,rfl⟩
        · intro id es _ hg;exact ⟨⟨es,hg⟩,rfl⟩
        · intro t z f _ hg;exact ⟨f,hg,Qb _,fun _=>rfl⟩
      exact ⟨ht,hr.same ht hs,I',h2,h3⟩
    split at h
    · rename_i x H1 hcall
      split at h
      · rename_i y hy
        split at h
        · cases h
        · rename_i hb
          cases h;refine (hc.runs _ _ _ _ _ hcall F' _ w I0 vs hr0 hargs).mono ?_;intro en w' hen;cases en with
          | returned v=>
            obtain ⟨x',hx',hg⟩:=hen;cases hx';obtain ⟨ht,hh,I',hr1,hv⟩:=back hg;refine ⟨y,rfl,I,ht,hh,.d ?_⟩;cases hbor:anyL (bor aI) as with
            | false=>
              refine MO hr1 (J:=Imm F I H) ?_ ?_ _ x y v hy hv
              · intro b j hi
                exact ⟨fun hm=>hi.2 ⟨hbor,.inl hm⟩,fun hm=>hi.2 ⟨hbor,.inr hm⟩⟩
              · intro b j hle
                exact ⟨fun hm=>by have:=hlt b j (.inl hm);omega,fun hm=>by have:=hlt b j (.inr hm);omega⟩
            | true=>
              rw [hbor] at hb;have hf:flat aI y=true:=by simpa using hb
              exact de _ _ _ hf (MO hr1 (J:=fun _ _=>True) (fun _ _ _=>trivial) (fun _ _ _=>trivial) _ x y v hy hv)
          | panicked c=>obtain ⟨x',u,hx',_⟩:=hen;cases hx'
          | outgrown=>exact hen.elim
      · cases h
    · rename_i x H1 hcall
      split at h
      · rename_i y hy
        split at h
        · rename_i hf
          cases h;refine (hc.runs _ _ _ _ _ hcall F' _ w I0 vs hr0 hargs).mono ?_;intro en w' hen;cases en with
          | returned v=>obtain ⟨x',hx',_⟩:=hen;cases hx'
          | panicked c=>
            obtain ⟨x',u,hx',hc',hg⟩:=hen;cases hx';obtain ⟨ht,hh,I',hr1,hv⟩:=back hg;exact ⟨y,u,rfl,hc',I,ht,hh,.d (de _ _ _ hf (MO hr1 (J:=fun _ _=>True) (fun _ _ _=>trivial) (fun _ _ _=>trivial) _ x y u hy hv))⟩
          | outgrown=>exact hen.elim
        · cases h
      · cases h
    · cases h
theorem qy7 {call:aP} (hc:CallOk P call) {f:FuncId} {as:List AV} {r:Rt} {H':AH} (h:uT call f as nx H=some (r,H')):EP P f:=by
 unfold uT at h;split at h
 ·cases h
 ·split at h
  ·rename_i hcall;exact hc.body _ _ _ _ _ hcall
  ·rename_i hcall;exact hc.body _ _ _ _ _ hcall
  ·cases h
theorem qy8 {call:aP} (hc:CallOk P call) {f:FuncId} {as:List AV} {r:Rt} {H':AH} (hfr:Free H nx) (h:uT call f as nx H=some (r,H'))
    {vs:Array Value} (hr:HR F B0 w I H) (ha:ArgsR F w I H as vs):Calls P f vs w (CN F B0 w I H r H'):=by
  unfold uT at h;split at h
  · cases h
  · rename_i as' has
    let F':Nat->Nat->Prop:=fun _ _=>False
    let I0:Beta:=fun _=>none
    have hr0:HR F' w.heap.size w I0 H0:=by
      refine ⟨Qb _,fun b i hf=>hf.elim,trivial,fun _ _=>rfl,?_,?_⟩
      · intro id _ ob _ _ _ _ h1
        rw [SQ] at h1;cases h1
      · intro id ob h1
        rw [SQ] at h1;cases h1
    have hargs:ArgsR F' w I0 H0 as' vs:=by
      refine ⟨(jC has).symm.trans ha.1,?_⟩;intro i y v hy hv;obtain ⟨x,h1,h2⟩:=nH has hy;have hx:=ha.2 i x v h1 hv;refine .d (MO hr (J:=Imm F' I0 H0) ?_ ?_ _ x y v h2 hx)
      · intro b j _
        exact ⟨fun hm=>zN hm,fun hf=>hf⟩
      · intro b j _
        exact ⟨fun hm=>zN hm,fun hf=>hf⟩
    split at h
    · rename_i id z off len H1 hcall
      split at h
      · rename_i z' es hget
        split at h
        rotate_left
        · cases h
        rename_i es' hsn;split at h
        · cases h
        rename_i hfl;simp only [OJ] at hfl;cases h;refine (hc.runs _ _ _ _ _ hcall F' _ w I0 vs hr0 hargs).mono ?_;intro en w' hen;cases en with
        | outgrown=>exact hen.elim
        | panicked c=>obtain ⟨x',u,hx',_⟩:=hen;cases hx'
        | returned v=>
          obtain ⟨x',hx',I1,h1,h2,h3⟩:=hen;cases hx';have hs:=h1.ext.still (fun b i hm=>zN hm);have hext:Ext (Mut I H) w w':=h1.ext.mono (fun b i hm=>(zN hm).elim);obtain ⟨k1,k2,k3⟩:=AA h3;obtain ⟨b,o,c,m1,m2,m3,m4,m5,m6⟩:=h2.obj id _ hget;have hp:∀b' o',(some (b,o):Option (Nat×Nat))=some (b',o')->w.heap.size<=b':=by rintro b' o' ⟨⟩;exact m2
          have ht:=LW hfr hr hext (.row z' es') (some (b,o)) hp;have hle:=jC hsn;have hob:ObjR F B0 w' (upd I nx (some (b,o))) (H.put nx (.row z' es')) nx (.row z' es'):=by
            refine ⟨b,o,c,iZ _ _ _,wB hr.base m2,m3,by rw [<- hle];exact m4,fun e he=>?_,fun i j e x he hx=>?_⟩
            · obtain ⟨i,hi,rfl⟩:=Qn.1 he
              obtain ⟨e0,q1,q2⟩:=nH hsn (i:=i) (b:=es'[i]) (by simp [hi]);rw [<- jC q2];exact m5 e0 (Qe q1)
            · obtain ⟨e0,q1,q2⟩:=nH hsn he
              obtain ⟨x0,q3,q4⟩:=nH q2 hx;obtain ⟨u,p1,p2,p3⟩:=m6 i j e0 x0 q1 q3;have hf:flat aI x=true:=by
                have:=vT hfl x (DV.2 ⟨e,Qe he,Qe hx⟩);simpa using this
              exact ⟨u,p1,p2,.d (de _ _ _ hf (MO h2 (J:=fun _ _=>True) (fun _ _ _=>trivial) (fun _ _ _=>trivial) _ x0 x u q4 p3))⟩
          have hh:=NY hfr hr hext (.row z' es') (some (b,o)) hp hs hob;refine ⟨_,rfl,_,ht,hh,.l ⟨EE hr hfr (by intro q;cases q),k2,fun z2 es2 hg=>?_⟩⟩;rw [uR hr hfr,a9 rfl] at hg;cases hg;obtain ⟨b',o',base,cap,c',e1,e2⟩:=k3 _ _ hget;rw [m1] at e1;cases e1;rw [hle] at e2;exact ⟨b,o,base,cap,c',iZ _ _ _,e2⟩
      · cases h
    · rename_i z H1 hcall
      cases h;refine (hc.runs _ _ _ _ _ hcall F' _ w I0 vs hr0 hargs).mono ?_;intro en w' hen;cases en with
      | outgrown=>exact hen.elim
      | panicked c=>obtain ⟨x',u,hx',_⟩:=hen;cases hx'
      | returned v=>
        obtain ⟨x',hx',I1,h1,h2,h3⟩:=hen;cases hx';have hs:=h1.ext.still (fun b i hm=>zN hm);have ht:Tr w I H w' I H:=by
          refine ⟨h1.ext.mono (fun b i hm=>(zN hm).elim),fun b i hm=> .inl hm,fun _ h=>h,?_,?_,?_⟩
          · intro id z es _ hg;exact ⟨⟨es,hg,rfl⟩,rfl⟩
          · intro id es _ hg;exact ⟨⟨es,hg⟩,rfl⟩
          · intro t z f _ hg;exact ⟨f,hg,Qb _,fun _=>rfl⟩
        refine ⟨_,rfl,I,ht,hr.same ht hs,?_⟩;cases h3 with
        | d h=>cases h
        | l h=>
          obtain ⟨a,cap,rfl,_⟩:=sO h.1;exact .l ⟨.slice0 _ _ _,h.2⟩
    · cases h
theorem qi {n:Nat} {J:Nat->Nat->Prop} {esz b o:Nat} {es es':List (List AV)} {c:Array Value} (hb:Blk w b c)
  (hJ:∀i,J b i)
  (ih:∀e∈es,∀x∈e,∀y v,snap n H x=some y->VRH F w I H x v->VRD w J y v)
  (hz:∀e∈es,e.length=esz)
  (hc:∀(i j:Nat) e x,es[i]? =some e->e[j]? =some x->∃v,c[o+i*esz+j]? =some v/\v.oneCell'=true/\VRH F w I H x v)
  (hs:mapO (mapO (snap n H)) es=some es'):
  es'.length=es.length/\(∀e∈es',e.length=esz)/\∃vs:Nat->Nat->Value,
   (∀(i j:Nat) e x,es'[i]? =some e->e[j]? =some x->J b (o+i*esz+j)/\w.cell? ⟨b,o+i*esz+j,none⟩=some (vs i j)/\(vs i j).oneCell'=true)/\
   (∀(i j:Nat) e x,es'[i]? =some e->e[j]? =some x->VRD w J x (vs i j)):=by
 have key:∀(i j:Nat) e x,es'[i]? =some e->e[j]? =some x->∃v,c[o+i*esz+j]? =some v/\v.oneCell'=true/\VRD w J x v:=by
  intro i j e x he hx;obtain ⟨e0,h1,h2⟩:=nH hs he;obtain ⟨x0,h3,h4⟩:=nH h2 hx;obtain ⟨v,k1,k2,k3⟩:=hc i j e0 x0 h1 h3;exact ⟨v,k1,k2,ih e0 (Qe h1) x0 (Qe h3) x v h4 k3⟩
 refine ⟨(jC hs).symm,?_,fun i j=>(c[o+i*esz+j]?).getD default,?_,?_⟩
 ·intro e he;obtain ⟨i,hi,rfl⟩:=Qn.1 he;obtain ⟨e0,h1,h2⟩:=nH hs (i:=i) (b:=es'[i]) (by simp [hi]);rw [<- jC h2];exact hz e0 (Qe h1)
 ·intro i j e x he hx;obtain ⟨v,k1,k2,k3⟩:=key i j e x he hx;obtain ⟨ty,hb⟩:=hb;simp only [k1,nO];exact ⟨hJ _,cell_iff.2 ⟨c,ty,(0,0),hb,k1⟩,k2⟩
 ·intro i j e x he hx;obtain ⟨v,k1,k2,k3⟩:=key i j e x he hx;simp only [k1,nO];exact k3
theorem gm (hr:HR F B0 w I H) {u b j:Nat} (h:Imm F I H b j):Imm F I (H.kill u) b j:=by
 refine ⟨?_,h.2⟩;rintro ⟨id,ob,o,h1,h2,h3⟩;rw [D9 hr] at h1;split at h1
 ·cases h1
 ·exact h.1 ⟨id,ob,o,h1,h2,h3⟩
theorem ry (hr:HR F B0 w I H) {id z off len:Nat} {y:AV} {v:Value} (h:ET H id z off len=some y) (hv:VRH F w I H (.row id z off len) v):VRD w (Imm F I (H.kill id)) y v:=by
 unfold ET at h;split at h
 ·rename_i esz' es hget;split at h
  ·rename_i hz;obtain ⟨hz,hle,hbr⟩:=hz;subst hz;cases hm:mapO (mapO (snap aI H)) ((es.drop off).take len) with
   | none=>rw [hm] at h;cases h
   | some es'=>
    rw [hm] at h;cases h;obtain ⟨_,⟨base,cap,rfl,k3,k4⟩,k5⟩:=AA hv;obtain ⟨b,o,base',cap',c,e1,e2,e3,e4,e5,e6,_⟩:=k5 _ _ hget;cases e2;obtain ⟨b',o',c',m1,m2,m3,m4,m5,m6⟩:=hr.obj id _ hget;rw [e1] at m1;cases m1;have hlen:((es.drop off).take len).length=len:=by simp;omega
    have hJ:∀i,Imm F I (H.kill id) b i:=by
     intro i;refine ⟨?_,fun hf=>by have:=hr.far b i hf;omega⟩;rintro ⟨id',ob,o',h1,h2,h3⟩;rw [D9 hr] at h1;split at h1
     ·cases h1
     ·rename_i hne;exact hne (hr.inj id id' _ ob b _ o' hget h1 e1 h2)
    obtain ⟨q0,q1,vs,q2,q3⟩:=qi (J:=Imm F I (H.kill id)) (o:=o+off*esz') m3 hJ
     (fun e he x hx y v hs hv=>(LL aI x y v hs (vT hbr x (by
      rw [DV];exact ⟨e,DU (Qu he),hx⟩)) hv).mono fun b j u hi hcell=>⟨gm hr hi,hcell⟩)
     (fun e he=>m5 e (DU (Qu he))) (by
      intro i j e x he hx;rw [List.getElem?_take] at he;split at he
      ·rw [List.getElem?_drop] at he;obtain ⟨u,n1,n2,n3⟩:=m6 _ j e x he hx;refine ⟨u,?_,n2,n3⟩;rw [<- n1,j5];congr 1;omega
      ·cases he) hm
    rw [hlen] at q0;rcases Qw len with hl0 | hlp
    ·subst hl0;have:es'=[]:=Qg q0;subst this;exact .slice0 _ _ _
    ·have hbase:base=some ⟨b,o+off*esz',none⟩:=by
      rcases e4 with e4 | e4
      ·omega
      ·exact e4
     rw [hbase,<- q0];exact .slice esz' es' b _ cap vs (by intro e;rw [e] at q0;simp at q0;omega) q1 (by omega) q2 q3
  ·cases h
 ·cases h
theorem Al (hr:HR F B0 w I H) {id z i off:Nat} {y:AV} {v:Value} (h:VU H id z i off=some y) (hv:VRH F w I H (.ptr id z i off) v):VRD w (Imm F I (H.kill id)) y v:=by
 unfold VU at h;split at h
 ·rename_i esz' es hget;split at h
  ·rename_i hz;obtain ⟨hz,hbr⟩:=hz;subst hz;cases hm:mapO (mapO (snap aI H)) es with
   | none=>rw [hm] at h;cases h
   | some es'=>
    rw [hm] at h;cases h;obtain ⟨_,_,h3⟩:=DK hv;obtain ⟨b,o,k1,rfl⟩:=h3 _ _ hget;obtain ⟨b',o',c,m1,m2,m3,m4,m5,m6⟩:=hr.obj id _ hget;rw [k1] at m1;cases m1;have hJ:∀i,Imm F I (H.kill id) b i:=by
     intro i;refine ⟨?_,fun hf=>by have:=hr.far b i hf;omega⟩;rintro ⟨id',ob,o',h1,h2,h3⟩;rw [D9 hr] at h1;split at h1
     ·cases h1
     ·rename_i hne;exact hne (hr.inj id id' _ ob b _ o' hget h1 k1 h2)
    obtain ⟨q0,q1,vs,q2,q3⟩:=qi (J:=Imm F I (H.kill id)) m3 hJ
     (fun e he x hx y v hs hv=>(LL aI x y v hs (vT hbr x (by
      rw [DV];exact ⟨e,he,hx⟩)) hv).mono fun b j u hi hcell=>⟨gm hr hi,hcell⟩)
     m5 m6 hm
    exact .iptr esz' es' i off b o vs q1 q2 q3
  ·cases h
 ·cases h
theorem Eg (hr:HR F B0 w I H) {id:Nat} {as as':List AV} {vs:Array Value} (ha:ArgsR F w I H as vs) (h:mapO (DJ H id) as=some as'):ArgsR F w I (H.kill id) as' vs:=by
 refine ⟨(jC h).symm.trans ha.1,?_⟩;intro i y v hy hv;obtain ⟨x,h1,h2⟩:=nH h hy;have hx:=ha.2 i x v h1 hv;refine .d ?_;unfold DJ at h2;split at h2
 ·rename_i j z off len;split at h2
  ·rename_i hj;subst hj;exact ry hr h2 hx
  ·cases h2
 ·split at h2
  ·cases h2
  ·rename_i hb;exact (LL _ x y v h2 (by simpa using hb) hx).mono fun b j u hi hcell=>⟨gm hr hi,hcell⟩
theorem Ep (hr:HR F B0 w I H) {id:Nat} {r:Rt} {H':AH} {en:Ending} {w':World} (h:CN F B0 w I (H.kill id) r H' en w'):CN F B0 w I H r H' en w':=by
 cases en with
 | returned v=>
  obtain ⟨x,hx,I',h1,h2,h3⟩:=h;exact ⟨x,hx,I',(NP hr id).trans h1,h2,h3⟩
 | panicked c=>
  obtain ⟨x,u,hx,hc,I',h1,h2,h3⟩:=h;exact ⟨x,u,hx,hc,I',(NP hr id).trans h1,h2,h3⟩
 | outgrown=>exact h
structure Nxt (F:Nat->Nat->Prop) (B0:Nat) (w:World) (I:Beta) (H:AH) (a:Act) (o:Oper) (r:Rt) (H':AH) (K:Act->World->Prop) (Q:Exit->Act->World->Prop):Prop where
 val:∀x v w',r= .val x->Good F B0 w I H x H' v w'->K (a.put o.dst v) w'
 pan:∀x u w',r= .pan x->Good F B0 w I H x H' u w'->Q (.panic [{ v:=u,recovered:=false }]) a w'
theorem JG {o:Oper} {r:Rt} {H':AH} {f:FuncId} {vs:Array Value} {K:Act->World->Prop} {Q:Exit->Act->World->Prop}
  (hx:(execOp a.eval o).run P w= .ok (.enter f vs) w) (hc:Calls P f vs w (CN F B0 w I H r H')) (hn:Nxt F B0 w I H a o r H' K Q):o.wp P a w K Q:=by
 unfold Oper.wp;rw [hx];refine hc.mono ?_;intro en w' hen;cases en with
 | returned v=>obtain ⟨x,rfl,hg⟩:=hen;exact hn.val x v w' rfl hg
 | panicked c=>obtain ⟨x,u,rfl,rfl,hg⟩:=hen;exact hn.pan x u w' rfl hg
 | outgrown=>exact hen.elim
theorem NF {o:Oper} {c:Call} {f:FuncId} {caps:Array Value} {g:Operand} (hb:EP P f) (ho:o.op= .call c) (hg:c.callee= .value g) {first:Array Value} (hv:a.eval g= .func (.func f) first caps):
  (execOp a.eval o).run P w= .ok (.enter f (first++c.args.map a.eval++caps)) w:=by
 obtain ⟨d,h1,h2,h3⟩:=hb
 have h3' : d.name ≠ "runtime.NumGoroutine" := by simpa using h3
 have h2':d.body≠none:=by intro hn;rw [hn] at h2;cases h2
 unfold execOp;simp [ho,resolve,hg,hv,Deferred.ofValue,invoke,callFunc,h1,h2',h3']
theorem JO {c:Call} {axs:List AX} {ys:List AV} (he:EnvR F w I H e a.tmps) (h:cXs P c.argTypes.toList c.args.toList=some axs) (hy:mapO (evX e) axs=some ys):
  ArgsR F w I H ys (c.args.map a.eval):=by
 obtain ⟨l1,l2⟩:=gf he h hy;refine ⟨by simpa using l1,?_⟩;intro i x v hx hv;rw [Array.getElem?_map] at hv;obtain ⟨p,hp,rfl⟩:=map_some hv;exact l2 i x p hx (by simpa using hp)
theorem ArgsR.append {as bs:List AV} {vs us:Array Value} (h:ArgsR F w I H as vs) (h':ArgsR F w I H bs us):ArgsR F w I H (as++bs) (vs++us):=by
 refine ⟨by simp [h.1,h'.1],?_⟩;intro i x v hx hv;rcases Qv i as.length with hi | hi
 ·rw [Ql hi] at hx;rw [Array.getElem?_append_left (by rw [<- h.1];exact hi)] at hv;exact h.2 i x v hx hv
 ·rw [Qp hi] at hx;rw [Array.getElem?_append_right (by rw [<- h.1];exact hi),<- h.1] at hv;exact h'.2 _ x v hx hv
theorem Ba {v:AV} {f:FuncId} {first caps:List AV} (h:tgt2 v=some (f,first,caps)):v= .func (.func f) first caps:=by
 unfold tgt2 at h;split at h
 ·cases h;rfl
 ·cases h
theorem Hn {v:AV} {f:FuncId} {caps:List AV} (h:tgt v=some (f,caps)):v= .func (.func f) [] caps:=by
 unfold tgt at h;split at h
 ·cases h;rfl
 ·cases h
def AOp.isCall:AOp->Bool
 | .pcall .. | .pcallk .. | .pcallr .. | .tcall .. | .pcallv .. | .tcallv .. | .pinvoke .. | .tinvoke .. | .panic _=>true
 | _=>false
theorem L7 {call:aP} {ao:AOp} (h:ao.isCall=false):aD call e nx H ao=match evOp e nx H ao with | some (v,H')=>some (Rt.val v,H') | none=>none:=by
 cases ao<;>first
  | rfl
  | cases h
theorem UR {nm:String} {t:TypeId} {f:FuncId}:∀{l:List Nat},look t (mthL P nm l)=some f->WE P nm t=some f
 | [],h=>by cases h
 | u::r,h=>by
  unfold mthL at h;split at h
  ·rename_i g hg;simp only [look] at h;split at h
   ·rename_i e;subst e;cases h;exact hg
   ·exact UR h
  ·exact UR h
theorem uz {o:Oper} {c:Call} {f:FuncId} {rv:Operand} {nm:String} (hb:EP P f) (ho:o.op= .call c) (hg:c.callee= .invoke rv nm) {t:TypeId} {u:Value} (hv:a.eval rv= .iface t u) (hm:WE P nm t=some f):
  (execOp a.eval o).run P w= .ok (.enter f (#[u]++c.args.map a.eval)) w:=by
 obtain ⟨d,h1,h2,h3⟩:=hb
 have h3' : d.name ≠ "runtime.NumGoroutine" := by simpa using h3
 have h2':d.body≠none:=by intro hn;rw [hn] at h2;cases h2
 unfold WE at hm;split at hm
 ·cases hm
 rename_i i hi;split at hm
 ·rename_i m d' hfind hu;split at hm
  ·rename_i f' hf;split at hm
   ·rename_i hc;cases hm;simp only [d7] at hc;have hp:m.path.toList=[]:=by simpa using hc.1.1
    have hr:∀wr,(receiverAt t (.val u) false wr).run P w= .ok u w:=fun wr=>by
     unfold receiverAt;have:(underlying t).run P w= .ok d' w:=by simp [underlying,hu,go_sem]
     cases d'<;>first
      | (simp [QN] at hc;done)
      | simp [this,Place.get,go_sem]
    have hmt:(method (P.types.size+Made.depth) t u nm).run P w= .ok (f,u) w:=by
     rw [show P.types.size+Made.depth=(P.types.size+Made.depth - 1)+1 by simp [Made.depth]];unfold method;simp [typeInfo,hi,hfind,hp,follow,hf,hr,go_sem]
    have hx:(#[Value.iface t u]++c.args.map a.eval).extract 1 (1+c.args.size)=c.args.map a.eval:=by
     apply Array.ext';simp;exact Qo (by simp)
    have h0:(#[Value.iface t u]++c.args.map a.eval)[0]? =some (.iface t u):=by rw [Array.getElem?_append_left (by simp)];rfl
    have e1:execOp a.eval o=(do let d <- resolve a.eval c o.type;invoke d.target d.args):=by unfold execOp;rw [ho]
    rw [e1];simp only [resolve,hg,hv];generalize hA: #[Value.iface t u]++c.args.map a.eval=A at h0;have hsz:A.size=1+c.args.size:=by rw [<- hA];simp
    rw [hA] at hx;rw [<- hsz] at hx;simp [invoke,h0,hx,callMethod,hmt,callFunc,h1,h2',h3',go_sem]
   ·cases hm
  ·cases hm
 ·cases hm
theorem Cd {o:Oper} {ao:AOp} (h:cOp P A fn o=some ao) (hk:ao.isCall=true):(∃c g,o.op= .call c/\c.callee= .value g)\/(∃x,o.op= .panic x)\/∃c rv nm,o.op= .call c/\c.callee= .invoke rv nm:=by
 cases hop:o.op
 case panic x=>exact .inr (.inl ⟨x,rfl⟩)
 case call c=>
  cases hc:c.callee with
  | value g=>exact .inl ⟨c,g,rfl,hc⟩
  | invoke rv nm=>exact .inr (.inr ⟨c,rv,nm,rfl,hc⟩)
  | builtin b=>
   exfalso;unfold cOp K1 at h;rw [hop] at h;simp only [hc] at h;cases b<;>simp only at h<;>(repeat' split at h)<;>first
    | (cases h;done)
    | (cases h;cases hk;done)
    | (obtain ⟨_,_,rfl⟩:=map_some h;cases hk)
 all_goals
  exfalso;unfold cOp at h;rw [hop] at h;simp only at h
  (repeat' split at h)<;>first
    | (cases h;done)
    | (cases h;cases hk;done)
    | (obtain ⟨_,_,rfl⟩:=map_some h;cases hk)
theorem pz {call:aP} (hc:CallOk P call) {o:Oper} {ao:AOp} {r:Rt} {H':AH} {K:Act->World->Prop} {Q:Exit->Act->World->Prop} (hr:HR F B0 w I H) (he:EnvR F w I H e a.tmps)
  (hfr:Free H nx) (h:cOp P A fn o=some ao) (hev:aD call e nx H ao=some (r,H')) (hn:Nxt F B0 w I H a o r H' K Q):o.wp P a w K Q:=by
 cases hk:ao.isCall with
 | false=>
  rw [L7 hk] at hev;split at hev
  ·rename_i x H1 hop;cases hev;obtain ⟨v,w',hd,hg⟩:=Fj hfr hr he h hop;have:=hn.val x v w' rfl hg;unfold Oper.wp;rcases hd with hd | ⟨hd,rfl⟩
   ·rw [hd];exact this
   ·rw [hd];exact this
  ·cases hev
 | true=>
  rcases Cd h hk with ⟨c,g,ho,hg⟩ | ⟨x,ho⟩ | ⟨c,rv,nm,ho,hg⟩
  rotate_left 2
  ·unfold cOp K1 at h;rw [ho] at h;simp only [hg] at h;cases rv with
   | const v=>cases h
   | global v=>cases h
   | func f=>cases h
   | tmp t=>
    simp only at h;split at h
    ·rename_i axs hxs;cases h;have target:∀{ty:TypeId} {x:AV},look t e=some (.iface ty x)->∃u,a.eval (.tmp t)= .iface ty u/\ArgsR F w I H [x] #[u]:=by
      intro ty x hfv;obtain ⟨u,h1,h2⟩:=he t _ hfv;obtain ⟨u',rfl,h3⟩:=LM h2;refine ⟨u',?_,rfl,?_⟩
      ·simp [Act.eval,DT,h1]
      ·intro i y v hy hv;cases i with
       | zero=>simp at hy hv;subst hy hv;exact h3
       | succ i=>simp at hy
     split at hev
     ·simp only [aD] at hev;split at hev
      ·rename_i ty x ys hfv hys;split at hev
       ·rename_i f hm;obtain ⟨u,hv,hfirst⟩:=target hfv;exact JG (uz (w:=w) (TT hc hev) ho hg hv (UR hm)) (TU hc hev hr (hfirst.append (JO he hxs hys))) hn
       ·cases hev
      ·cases hev
     ·simp only [aD] at hev;split at hev
      ·rename_i ty x ys hfv hys;split at hev
       ·rename_i f hm;obtain ⟨u,hv,hfirst⟩:=target hfv;exact JG (uz (w:=w) (hc.body _ _ _ _ _ hev) ho hg hv (UR hm)) (hc.runs _ _ _ _ _ hev _ _ _ _ _ hr (hfirst.append (JO he hxs hys))) hn
       ·cases hev
      ·cases hev
    ·cases h
  ·unfold cOp K1 at h;rw [ho] at h;simp only [hg] at h;cases g with
   | const v=>cases h
   | global v=>cases h
   | func f=>
    simp only at h;split at h
    ·rename_i axs hxs;split at h
     ·cases h;have hv:a.eval (.func f)= .func (.func f) #[] #[]:=rfl;split at hev
      ·split at hev
       ·simp only [aD] at hev;split at hev
        ·rename_i ys hys;split at hev
         ·rename_i id _;split at hev
          ·rename_i ys' hys';split at hev
           ·cases hev
           have:=NF (w:=w) (TT hc hev) ho hg hv;rw [TK] at this;exact JG this ((TU hc hev (CD hr id) (Eg hr (by simpa using JO he hxs hys) hys')).mono fun en w' h=>Ep hr h) hn
          ·cases hev
         ·cases hev
        ·cases hev
       ·split at hev
        ·simp only [aD] at hev;split at hev
         ·rename_i ys hys;have:=NF (w:=w) (qy7 hc hev) ho hg hv;rw [TK] at this;exact JG this (qy8 hc hfr hev hr (by simpa using JO he hxs hys)) hn
         ·cases hev
        simp only [aD] at hev;split at hev
        ·rename_i ys hys;have:=NF (w:=w) (TT hc hev) ho hg hv;rw [TK] at this;exact JG this (TU hc hev hr (by simpa using JO he hxs hys)) hn
        ·cases hev
      ·simp only [aD] at hev;split at hev
       ·rename_i ys hys;have:=NF (w:=w) (hc.body _ _ _ _ _ hev) ho hg hv;rw [TK] at this;exact JG this (hc.runs _ _ _ _ _ hev _ _ _ _ _ hr (by simpa using JO he hxs hys)) hn
       ·cases hev
     ·cases h
    ·cases h
   | tmp t=>
    simp only at h;split at h
    ·rename_i axs hxs;cases h;have target:∀{fv:AV} {f:FuncId} {first caps:List AV},look t e=some fv->tgt2 fv=some (f,first,caps)->∃va vc,a.eval (.tmp t)= .func (.func f) va vc/\ArgsR F w I H first va/\ArgsR F w I H caps vc:=by
      intro fv f first caps hfv htg
      have:=Ba htg;subst this;obtain ⟨u,h1,h2⟩:=he t _ hfv;obtain ⟨va,vb,rfl,p1,p2,p3,p4⟩:=NQ h2;refine ⟨va,vb,?_,⟨p1,p3⟩,p2,p4⟩;simp [Act.eval,DT,h1]
     split at hev
     ·simp only [aD] at hev;split at hev
      ·rename_i fv ys hfv hys;split at hev
       ·rename_i f first caps htg
        obtain ⟨va,vc,hv,hfirst,hcaps⟩:=target hfv htg;exact JG (NF (w:=w) (TT hc hev) ho hg hv) (TU hc hev hr ((hfirst.append (JO he hxs hys)).append hcaps)) hn
       ·cases hev
      ·cases hev
     ·simp only [aD] at hev;split at hev
      ·rename_i fv ys hfv hys;split at hev
       ·rename_i f first caps htg
        obtain ⟨va,vc,hv,hfirst,hcaps⟩:=target hfv htg;exact JG (NF (w:=w) (hc.body _ _ _ _ _ hev) ho hg hv) (hc.runs _ _ _ _ _ hev _ _ _ _ _ hr ((hfirst.append (JO he hxs hys)).append hcaps)) hn
       ·cases hev
      ·cases hev
    ·cases h
  ·unfold cOp at h;rw [ho] at h;simp only at h;obtain ⟨ax,hx,rfl⟩:=map_some h;simp only [aD] at hev;split at hev
   ·rename_i t x' hxv;cases hev;have hv:=aV hx he hxv;obtain ⟨u,hu,hvu⟩:=LM hv;have:=hn.pan _ _ w rfl (.same hr hv);unfold Oper.wp;have hrun:(execOp a.eval o).run P w= .halt (.panic (a.eval x)) w:=by
     unfold execOp;simp [ho,Instr.panic,hu]
    rw [hrun];exact this
   ·cases hev
end
end Go.Av
