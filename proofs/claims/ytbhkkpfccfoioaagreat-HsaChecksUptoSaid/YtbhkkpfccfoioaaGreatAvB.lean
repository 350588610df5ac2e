/-
  An abstract interpreter over the model, proved sound: part B.
-/
import Derived.Test.YtbhkkpfccfoioaaGreatAvA
set_option linter.unusedVariables false
set_option linter.unusedSimpArgs false
set_option linter.constructorNameAsVariable false
namespace Go.Av
section
variable {F:Nat->Nat->Prop} {B0:Nat} {w:World} {Z:Beta} {H:AH} {P:Program}
theorem ZP (off:Nat) (v:Value) (cells:Array Value) (h:off+v.cells.size<=cells.size):
  (v.cells.zipIdx.foldl (fun cs (x:Value×Nat)=>cs.setIfInBounds (off+x.2) x.1) cells).size=cells.size/\
  ∀k,(v.cells.zipIdx.foldl (fun cs (x:Value×Nat)=>cs.setIfInBounds (off+x.2) x.1) cells)[k]? =
   if off<=k/\k<off+v.cells.size then v.cells[k - off]? else cells[k]? :=by
 have e:v.cells.zipIdx.foldl (fun cs (x:Value×Nat)=>cs.setIfInBounds (off+x.2) x.1) cells=
   (v.cells.toList.zipIdx 0).foldl (fun cs (x:Value×Nat)=>cs.setIfInBounds (off+x.2) x.1) cells:=by
  rw [<- Array.foldl_toList,Array.toList_zipIdx]
 rw [e];obtain ⟨h1,h2⟩:=Great.foldl_set off v.cells.toList 0 cells;refine ⟨h1,fun k=>?_⟩;rw [h2 k];simp only [Nat.add_zero,Array.length_toList,Array.getElem?_toList];by_cases hk:off<=k/\k<off+v.cells.size
 ·rw [a9 ⟨hk.1,hk.2,by omega⟩,a9 hk]
 ·rw [a8 (by omega),a8 hk]
theorem XX {off:Nat} {new cs cs':List AV} (h:F3 off new cs=some cs'):cs'.length=cs.length/\off+new.length<=cs.length/\
  ∀(k:Nat),cs'[k]? =if off<=k/\k<off+new.length then new[k - off]? else cs[k]? :=by
 unfold F3 at h;split at h
 ·rename_i hle;cases h;refine ⟨by simp;omega,hle,fun k=>?_⟩;rw [List.append_assoc,List.getElem?_append];have ht:(cs.take off).length=off:=by simp;omega
  rw [ht];by_cases h1:k<off
  ·rw [a9 h1,a8 (by omega),List.getElem?_take,a9 h1]
  ·rw [a8 h1,List.getElem?_append];by_cases h2:k - off<new.length
   ·rw [a9 h2,a9 (by omega)]
   ·rw [a8 h2,a8 (by omega),List.getElem?_drop];congr 1;omega
 ·cases h
theorem UD {place:Nat->Option (Nat×Nat)}:∀(vps:List (Nat×Value)) (aps:List (Nat×Nat×AV)) (z z':List AV) (cells:Array Value),
  vps.length=aps.length->(∀(i:Nat) p q,vps[i]? =some p->aps[i]? =some q->place p.1=some (q.1,q.2.1)/\VRH F w Z H q.2.2 p.2)->
  PW F w Z H z cells.toList->E4 z aps=some z'->∃c',Instr.fill place cells vps=some c'/\PW F w Z H z' c'.toList
 | [],[],z,z',cells,_,_,hp,h=>by
  cases h;exact ⟨cells,rfl,hp⟩
 | (i,v)::vps,(off,n,x)::aps,z,z',cells,hl,hrel,hp,h=>by
  obtain ⟨h1,h2⟩:=hrel 0 (i,v) (off,n,x) rfl rfl;simp only [E4] at h;split at h
  ·cases h
  ·rename_i xs hxs;split at h
   ·rename_i hn;split at h
    ·cases h
    ·rename_i z1 hz1;obtain ⟨p1,p2,p3⟩:=XX hz1;have pw:=EU hxs h2;have hsz:v.cells.size=n:=by have:=pw.1;simp at this;omega
     have hcs:z.length=cells.size:=by simpa using hp.1
     have hfit:off+v.cells.size<=cells.size:=by omega
     obtain ⟨f1,f2⟩:=ZP off v cells hfit;have hpw:PW F w Z H z1 (v.cells.zipIdx.foldl (fun cs (x:Value×Nat)=>cs.setIfInBounds (off+x.2) x.1) cells).toList:=by
      refine PW.mk' (by simp only [Array.length_toList];omega) ?_;intro k y u hy hu;rw [Array.getElem?_toList,f2 k] at hu;rw [p3 k] at hy;have hlen:xs.length=v.cells.size:=by have:=pw.1;simpa using this
      by_cases hk:off<=k/\k<off+v.cells.size
      ·rw [a9 hk] at hu;rw [a9 (by omega)] at hy;exact ⟨pw.2.1 u (by rw [<- Array.getElem?_toList] at hu;exact Qe hu),pw.2.2 _ y u hy (by simpa using hu)⟩
      ·rw [a8 hk] at hu;rw [a8 (by omega)] at hy;exact ⟨hp.2.1 u (by rw [<- Array.getElem?_toList] at hu;exact Qe hu),hp.2.2 _ y u hy (by simpa using hu)⟩
     obtain ⟨c',k1,k2⟩:=UD vps aps z1 z' _ (by simpa using hl) (fun j p q hp hq=>hrel (j+1) p q (by simpa using hp) (by simpa using hq)) hpw h;refine ⟨c',?_,k2⟩;simp only [Instr.fill,h1];rw [a8 (by simp;omega)];exact k1
   ·cases h
 | [],_::_,_,_,_,hl,_,_,_=>by simp at hl
 | _::_,[],_,_,_,hl,_,_,_=>by simp at hl
theorem Al {U I:Type} (W:World) (f:U->Sem I) (g:U->I):∀(l:List U),(∀a∈l,(f a).run P W= .ok (g a) W)->(l.mapM f).run P W= .ok (l.map g) W
 | [],_=>rfl
 | a::l,h=>by
  rw [List.mapM_cons];simp [h a (by simp),Al W f g l (fun b hb=>h b (by simp [hb]))]
theorem Dv {t:TypeId} {n:Nat} {z:List AV} {fs:Array Field} (h:n7 P n t=some z) (hu:P.underlying t=some (.struct fs)):∀f∈fs.toList,∃k,szOf P f.type=some k:=by
 cases n with
 | zero=>cases h
 | succ n=>
  unfold n7 at h;rw [hu] at h;simp only at h;cases hm:mapO (fun f=>n7 P n f.type) fs.toList with
  | none=>rw [hm] at h;cases h
  | some zs=>
   intro f hf;obtain ⟨i,hi,rfl⟩:=Ql.1 hf;obtain ⟨b,_,hb⟩:=(vD hm).2 i fs.toList[i] (by simp [hi]);cases n with
   | zero=>cases hb
   | succ n=>
    unfold szOf;cases hi2:P.info? (fs.toList[i]).type with
    | none=>
     have:P.underlying (fs.toList[i]).type=none:=by unfold Program.underlying;rw [hi2]
     unfold n7 at hb;rw [this] at hb;cases hb
    | some i=>exact ⟨i.size,rfl⟩
theorem Af {t:TypeId} {z:List AV} (h:eP P t=some z):n7 P 20 t=some z:=by
 unfold eP at h;split at h
 ·rename_i z' v h1 h2;split at h
  ·cases h;exact h1
  ·cases h
 ·cases h
theorem DX {t:TypeId} {z:List AV} (h:eP P t=some z):∃v,(∀W,(zeroValue t).run P W= .ok v W)/\PW F w Z H z v.cells.toList:=by
 obtain ⟨i,v,h1,h2,h3⟩:=N9 h;obtain ⟨k1,k2,k3⟩:=N4 (F:=F) (w:=w) (Z:=Z) (H:=H) h3;exact ⟨v,fun W=>U7 W h1 h2,k1,k2,k3⟩
theorem Bo {t:TypeId} {fs:Array Field} {z:List AV} {vps:Array (Nat×Value)} {aps:List (Nat×Nat×AV)} {cs:List AV}
  (hu:P.underlying t=some (.struct fs)) (hz:eP P t=some z) (hl:vps.size=aps.length)
  (hrel:∀(i:Nat) p q,vps[i]? =some p->aps[i]? =some q->(∃f n,fs[p.1]? =some f/\szOf P f.type=some n/\q.1=f.offset/\q.2.1=n)/\VRH F w Z H q.2.2 p.2)
  (h:E4 z aps=some cs):∃v,(Instr.build t vps).run P w= .ok v w/\VRH F w Z H (.agg cs) v:=by
 obtain ⟨zv,hzv,hpz⟩:=DX (F:=F) (w:=w) (Z:=Z) (H:=H) hz;have hfld:=Dv (Af hz) hu;have hmap:(fs.mapM fun f=>do pure (f.offset,<- sizeOf f.type):Sem (Array (Nat×Nat))).run P w= .ok (fs.map fun f=>(f.offset,P.cellsOf f.type)) w:=by
  have e:fs=fs.toList.toArray:=by simp
  rw [e,List.mapM_toArray];simp only [Sem.run_map];rw [Al w _ (fun f=>(f.offset,P.cellsOf f.type)) fs.toList]
  ·simp only [Result.andThen_ok];congr 1;apply Array.ext';simp
  ·intro f hf;obtain ⟨k,hk⟩:=hfld f hf;obtain ⟨i,h1,h2⟩:=EX hk;simp [gA w hk,Program.cellsOf,h1,h2]
 obtain ⟨c',k1,k2⟩:=UD (place:=fun i=>(fs.map fun f=>(f.offset,P.cellsOf f.type))[i]?) vps.toList aps z cs zv.cells (by simpa using hl) (by
  intro i p q hp hq;obtain ⟨⟨f,n,h1,h2,h3,h4⟩,h5⟩:=hrel i p q (by simpa using hp) hq;obtain ⟨j,h6,h7⟩:=EX h2;refine ⟨?_,h5⟩;simp [h1,Program.cellsOf,h6,h7,h3,h4]) hpz h
 refine ⟨.agg c',?_,by have:=k2.agg;simpa using this⟩;simp only [Instr.build,Sem.run_bind,hzv w,Result.andThen_ok,aX w hu,hmap,k1,Sem.run_pure]
theorem Bt {t el:TypeId} {m n:Nat} {z:List AV} {vps:Array (Nat×Value)} {aps:List (Nat×Nat×AV)} {cs:List AV}
  (hu:P.underlying t=some (.array m el)) (hn:szOf P el=some n) (hz:eP P t=some z) (hl:vps.size=aps.length)
  (hrel:∀(i:Nat) p q,vps[i]? =some p->aps[i]? =some q->(q.1=p.1*n/\q.2.1=n)/\VRH F w Z H q.2.2 p.2)
  (h:E4 z aps=some cs):∃v,(Instr.build t vps).run P w= .ok v w/\VRH F w Z H (.agg cs) v:=by
 obtain ⟨zv,hzv,hpz⟩:=DX (F:=F) (w:=w) (Z:=Z) (H:=H) hz;obtain ⟨c',k1,k2⟩:=UD (place:=fun i=>some (i*n,n)) vps.toList aps z cs zv.cells (by simpa using hl) (by
  intro i p q hp hq;obtain ⟨⟨h1,h2⟩,h5⟩:=hrel i p q (by simpa using hp) hq;exact ⟨by rw [h1,h2],h5⟩) hpz h
 refine ⟨.agg c',?_,by have:=k2.agg;simpa using this⟩;simp only [Instr.build,Sem.run_bind,hzv w,Result.andThen_ok,aX w hu,gA w hn,k1,Sem.run_pure]
def RowR (F:Nat->Nat->Prop) (w:World) (Z:Beta) (H:AH) (z:Nat) (es:List (List AV)) (o:Nat) (c:Array Value):Prop:=
 (∀e∈es,e.length=z)/\o+es.length*z<=c.size/\∀(i j:Nat) e x,es[i]? =some e->e[j]? =some x->∃v,c[o+i*z+j]? =some v/\v.oneCell'=true/\VRH F w Z H x v
theorem ZC {z i j i' j':Nat} (hj:j<z) (hj':j'<z) (h:i*z+j=i'*z+j'):i=i'/\j=j':=by
 have h1:(i*z+j) / z=i:=by rw [Nat.mul_comm,Nat.mul_add_div (by omega),Nat.div_eq_of_lt hj];rfl
 have h2:(i'*z+j') / z=i':=by rw [Nat.mul_comm,Nat.mul_add_div (by omega),Nat.div_eq_of_lt hj'];rfl
 have:i=i':=by rw [<- h1,<- h2,h]
 subst this;exact ⟨rfl,by omega⟩
theorem XQ {z:Nat} (hz:z≠0):∀(vps:List (Nat×Value)) (aps:List (Nat×List AV)) (es:List (List AV)) (cells:Array Value),
  vps.length=aps.length->(∀(i:Nat) p q,vps[i]? =some p->aps[i]? =some q->p.1=q.1/\q.1<es.length/\q.2.length=z/\PW F w Z H q.2 p.2.cells.toList)->
  RowR F w Z H z es 0 cells->cells.size=es.length*z->
  ∃c',Instr.fill (fun i=>some (i*z,z)) cells vps=some c'/\RowR F w Z H z (aps.foldl (fun es p=>es.set p.1 p.2) es) 0 c'/\c'.size=cells.size/\(aps.foldl (fun es p=>es.set p.1 p.2) es).length=es.length
 | [],[],es,cells,_,_,hr,hs=>⟨cells,rfl,hr,rfl,rfl⟩
 | (i,v)::vps,(i',xs)::aps,es,cells,hl,hrel,hr,hs=>by
  obtain ⟨h1,h2,h3,h4⟩:=hrel 0 (i,v) (i',xs) rfl rfl;simp only at h1 h2 h3 h4;subst h1;have hsz:v.cells.size=z:=by have:=h4.1;simp at this;omega
  have hmul:i*z+z<=es.length*z:=by
   have:(i+1)*z<=es.length*z:=Qh _ h2;rw [cG] at this;omega
  obtain ⟨f1,f2⟩:=ZP (i*z) v cells (by omega);have hr':RowR F w Z H z (es.set i xs) 0 (v.cells.zipIdx.foldl (fun cs (x:Value×Nat)=>cs.setIfInBounds (i*z+x.2) x.1) cells):=by
   refine ⟨?_,by rw [f1];simp;omega,?_⟩
   ·intro e he;rcases List.mem_or_eq_of_mem_set he with he | rfl
    ·exact hr.1 e he
    ·exact h3
   ·intro k j e x he hx;rw [List.getElem?_set] at he;by_cases hki:i=k
    ·subst hki;rw [a9 rfl,a9 h2] at he;cases he;obtain ⟨u,q1,q2,q3⟩:=h4.get hx;have hj:j<z:=by
      rcases Qs j xs.length with h' | h'
      ·omega
      ·simp [Qi h'] at hx
     refine ⟨u,?_,q2,q3⟩;rw [f2,a9 (by omega)];rw [<- q1,Array.getElem?_toList];congr 1;omega
    ·rw [a8 hki] at he;obtain ⟨u,q1,q2,q3⟩:=hr.2.2 k j e x he hx;have hj:j<z:=by
      rcases Qs j e.length with h' | h'
      ·have:=hr.1 e (Qe he);omega
      ·simp [Qi h'] at hx
     refine ⟨u,?_,q2,q3⟩;rw [f2,a8,q1];intro hc;have hlt:0+k*z+j - i*z<z:=by omega
     have:=ZC (z:=z) (i:=k) (j:=j) (i':=i) (j':=0+k*z+j - i*z) hj hlt (by omega);omega
  obtain ⟨c',k1,k2,k3,k4⟩:=XQ hz vps aps (es.set i xs) _ (by simpa using hl) (fun j p q hp hq=>by
   have:=hrel (j+1) p q (by simpa using hp) (by simpa using hq);simpa using this) hr' (by rw [f1,hs];simp)
  refine ⟨c',?_,by simpa using k2,by rw [k3,f1],by simpa using k4⟩;simp only [Instr.fill];rw [a8 (by simp;omega)];exact k1
 | [],_::_,_,_,hl,_,_,_=>by simp at hl
 | _::_,[],_,_,hl,_,_,_=>by simp at hl
theorem YG {z:Nat} {zs:List AV} {zc:Array Value} (hz:z≠0) (hl:zs.length=z) (hp:PW F w Z H zs zc.toList) (len:Nat):
  RowR F w Z H z (List.replicate len zs) 0 ((Array.range (len*z)).map (zc[· % zc.size]!))/\((Array.range (len*z)).map (zc[· % zc.size]!)).size=(List.replicate len zs).length*z:=by
 have hsz:zc.size=z:=by have:=hp.1;simp at this;omega
 refine ⟨⟨?_,by simp,?_⟩,by simp⟩
 ·intro e he;rw [RS he];exact hl
 ·intro i j e x he hx;have hi:i<len:=by
   rcases Qs i len with h' | h'
   ·exact h'
   ·simp [h'] at he
  have he':e=zs:=by simp [List.getElem?_replicate,hi] at he;exact he.symm
  subst he';have hj:j<z:=by
   rcases Qs j e.length with h' | h'
   ·omega
   ·simp [Qi h'] at hx
  obtain ⟨u,q1,q2,q3⟩:=hp.get hx;refine ⟨u,?_,q2,q3⟩;have hlt:i*z+j<len*z:=by
   have:(i+1)*z<=len*z:=Qh _ hi;rw [cG] at this;omega
  have hmod:(i*z+j) % z=j:=by rw [Nat.mul_comm,Nat.mul_add_mod];exact Nat.mod_eq_of_lt hj
  have hju:zc[j]? =some u:=by simpa using q1
  simp only [CU,Array.getElem?_map,Array.getElem?_range];rw [a9 hlt];simp [hsz,hmod,getElem!_def,hju]
end
end Go.Av
namespace Go.Av
section
variable {F:Nat->Nat->Prop} {B0:Nat} {w:World} {Z:Beta} {H:AH} {P:Program}
theorem YZ {w':World} {Z':Beta} {H':AH} {id z b:Nat} (hid:H'.Known id) (hb:Z' id=some (b,0)):VRH F w' Z' H' (.ptr id z 0 0) (.pointer (some ⟨b,0,none⟩)):=
 .l ⟨hid,⟨b,0,rfl⟩,fun _ _ _=>⟨b,0,hb,by simp⟩⟩
theorem ZS {nx:Nat} (hfr:Free H nx) (hr:HR F B0 w Z H) {cs:List AV} {v:Value} {t:TypeId} (hp:PW F w Z H cs v.cells.toList):
  Good F B0 w Z H (.ptr nx cs.length 0 0) (H.put nx (.row cs.length [cs])) (.pointer (some ⟨w.heap.size,0,none⟩)) (w.alloc (.cells v.cells t)):=by
 obtain ⟨h1,h2⟩:=NJ hfr hr v.cells t cs.length [cs] (by simp) (by have:=hp.1;simp at this ⊢;omega) (by
  intro i j e x he hx;cases i with
  | zero=>
   simp at he;subst he;obtain ⟨u,q1,q2,q3⟩:=hp.get hx;exact ⟨u,by simpa using q1,q2,q3⟩
  | succ i=>simp at he)
 exact ⟨_,h1,h2,YZ (vC hr hfr (by simp)) (cU _ _ _)⟩
theorem Ik {nx:Nat} (hfr:Free H nx) (hr:HR F B0 w Z H) {t:TypeId} {z:List AV} {old:Value} (hz:eP P t=some z):
  ∃v w',(Instr.alloc t true old).run P w= .ok v w'/\Good F B0 w Z H (.ptr nx z.length 0 0) (H.put nx (.row z.length [z])) v w':=by
 obtain ⟨zv,h1,h2⟩:=DX (F:=F) (w:=w) (Z:=Z) (H:=H) hz;refine ⟨_,_,?_,ZS (t:=t) hfr hr h2⟩;simp [Instr.alloc,h1,newVar,newRow]
theorem Mh {nx:Nat} (hfr:Free H nx) (hr:HR F B0 w Z H) {t:TypeId} {x:AV} {cs:List AV} {v0:Value} (hc:x.cells=some cs) (hv:VRH F w Z H x v0):
  ∃v w',(Instr.box t v0).run P w= .ok v w'/\Good F B0 w Z H (.ptr nx cs.length 0 0) (H.put nx (.row cs.length [cs])) v w':=by
 refine ⟨_,_,?_,ZS (t:=t) hfr hr (EU hc hv)⟩;simp [Instr.box,newVar,newRow]
theorem XO {nx:Nat} (hfr:Free H nx) (hr:HR F B0 w Z H) {z n:Nat} {es:List (List AV)} {c:Array Value} {ty:TypeId} (hR:RowR F w Z H z es 0 c) (hn:n=es.length) (hs:c.size=es.length*z):
  Good F B0 w Z H (.row nx z 0 n) (H.put nx (.row z es)) (.slice (some ⟨w.heap.size,0,none⟩) n n) (w.alloc (.cells c ty)):=by
 obtain ⟨h1,h2⟩:=NJ hfr hr c ty z es hR.1 (by have:=hR.2.1;omega) (by
  intro i j e x he hx;obtain ⟨u,q1,q2,q3⟩:=hR.2.2 i j e x he hx;exact ⟨u,by simpa using q1,q2,q3⟩)
 refine ⟨_,h1,h2,.l ⟨vC hr hfr (by simp),⟨_,n,rfl,Qb _,.inr ⟨_,_,rfl⟩⟩,?_⟩⟩;intro zz ees hg;rw [h9 hr hfr,a9 rfl] at hg;cases hg;refine ⟨w.heap.size,0,_,n,c,cU _ _ _,rfl,Qb _,.inr (by simp),⟨ty,vB w _⟩,?_,by omega⟩;subst hn;simp [hs]
theorem UL {w':World} {imm:Nat->Nat->Prop} {z b:Nat} {es:List (List AV)} {c:Array Value} {cap:Nat} (hb:∃ty,w'.heap[b]? =some (.cells c ty (0,0)))
  (himm:∀i,i<es.length*z->imm b i) (hz:∀e∈es,e.length=z) (hcap:es.length<=cap)
  (h:∀(i j:Nat) e x,es[i]? =some e->e[j]? =some x->∃v,c[i*z+j]? =some v/\v.oneCell'=true/\VRD w' imm x v):
  VRD w' imm (.slice z es) (.slice (some ⟨b,0,none⟩) es.length cap):=by
 obtain ⟨ty,hb⟩:=hb;cases es with
 | nil=>exact .slice0 _ _ _
 | cons e0 es=>
  refine .slice z (e0::es) b 0 cap (fun i j=>(c[i*z+j]?).getD default) (by simp) hz hcap ?_ ?_
  ·intro i j e x he hx;obtain ⟨v,h1,h2,h3⟩:=h i j e x he hx;have hj:j<z:=by
    have:=hz e (Qe he);rcases Qs j e.length with h' | h'
    ·omega
    ·simp [Qi h'] at hx
   have hi:i<(e0::es).length:=by
    rcases Qs i (e0::es).length with h' | h'
    ·exact h'
    ·simp [Qi h'] at he
   have hlt:i*z+j<(e0::es).length*z:=by
    have:(i+1)*z<=(e0::es).length*z:=Qh _ hi;rw [cG] at this;omega
   simp only [CU,h1,A2];exact ⟨himm _ hlt,cell_iff.2 ⟨c,ty,(0,0),hb,h1⟩,h2⟩
  ·intro i j e x he hx;obtain ⟨v,h1,h2,h3⟩:=h i j e x he hx;simp only [h1,A2];exact h3
def RowD (F:Nat->Nat->Prop) (w:World) (Z:Beta) (H:AH) (z:Nat) (es:List (List AV)) (c:Array Value):Prop:=
 (∀e∈es,e.length=z)/\∀(i j:Nat) e x,es[i]? =some e->e[j]? =some x->∃v,c[i*z+j]? =some v/\v.oneCell'=true/\VRD w (Imm F Z H) x v
theorem Ji {Z:Beta} {H:AH} {nx:Nat} (hfr:Free H nx) (hr:HR F B0 w Z H) {ob:AO} {p:Option (Nat×Nat)} {b i:Nat} (hm:Mut (upd Z nx p) (H.put nx ob) b i):
  Mut Z H b i\/∃o,p=some (b,o)/\Past ob o i:=by
 obtain ⟨id,ob',o,h1,h2,h3⟩:=hm;rw [h9 hr hfr ob id] at h1;by_cases e:id=nx
 ·rw [a9 e] at h1;cases h1;rw [e,cU] at h2;exact .inr ⟨o,h2,h3⟩
 ·rw [a8 e] at h1;rw [dU Z p e] at h2;exact .inl ⟨id,ob',o,h1,h2,h3⟩
theorem TQ {nx:Nat} (hfr:Free H nx) (hr:HR F B0 w Z H) {z n cap:Nat} {es:List (List AV)} {c:Array Value} {ty:TypeId} (hR:RowD F w Z H z es c) (hn:n=es.length) (hs:cap*z<=c.size) (hcap:n<=cap):
  Good F B0 w Z H (.app z es nx) (H.put nx (.tok z n)) (.slice (some ⟨w.heap.size,0,none⟩) n cap) (w.alloc (.cells c ty)):=by
 have hnz:n*z<=c.size:=jL (Qh _ hcap) hs;obtain ⟨h1,h2⟩:=Ig hfr hr c ty z n hnz;refine ⟨_,h1,h2,.l ⟨vC hr hfr (by simp),?_,?_⟩⟩
 ·subst hn;refine UL ⟨ty,vB w _⟩ ?_ hR.1 hcap ?_
  ·intro i hi;refine ⟨fun hm=>?_,fun hf=>?_⟩
   ·rcases Ji hfr hr hm with hm | ⟨o,e1,e2⟩
    ·have:=(hr.mut_lt hm).1;omega
    ·cases e1;simp [Past] at e2;omega
   ·have:=hr.far _ _ hf;have:=hr.base;omega
  ·intro i j e x he hx;obtain ⟨v,k1,k2,k3⟩:=hR.2 i j e x he hx;exact ⟨v,k1,k2,h1.vrd k3⟩
 ·intro z' f hf;rw [h9 hr hfr,a9 rfl] at hf;cases hf;refine ⟨by omega,fun _=>?_⟩;rw [cU];exact ⟨n,cap,c,rfl,⟨ty,vB w _⟩,by omega⟩
theorem XN (hr:HR F B0 w Z H) {z n:Nat} {es:List (List AV)} {c:Array Value} {ty:TypeId} (hR:RowD F w Z H z es c) (hn:n=es.length):
  Good F B0 w Z H (.Xa z es) H (.slice (some ⟨w.heap.size,0,none⟩) n n) (w.alloc (.cells c ty)):=by
 have ht:Tr w Z H (w.alloc (.cells c ty)) Z H:=NH (F:=F) (B0:=B0) _;refine ⟨Z,ht,hr.alloc _,.l ⟨?_,_,_,rfl⟩⟩;subst hn;refine UL ⟨ty,vB w _⟩ ?_ hR.1 (Qb _) ?_
 ·intro i hi;refine ⟨fun hm=>?_,fun hf=>?_⟩
  ·have:=(hr.mut_lt hm).1;omega
  ·have:=hr.far _ _ hf;have:=hr.base;omega
 ·intro i j e x he hx;obtain ⟨v,k1,k2,k3⟩:=hR.2 i j e x he hx;exact ⟨v,k1,k2,ht.vrd k3⟩
theorem U3 {z:Nat} {es es':List (List AV)} {c:Array Value} (hR:RowR F w Z H z es 0 c) (hb:anyL (bor aA) es.flatten=false) (hf:mapO (jP H) es=some es'):
  RowD F w Z H z es' c/\es'.length=es.length:=by
 refine ⟨⟨?_,?_⟩,(cN hf).symm⟩
 ·intro e he;obtain ⟨i,hi,rfl⟩:=Ql.1 he;obtain ⟨e0,h1,h2⟩:=dC hf (i:=i) (b:=es'[i]) (by simp [hi]);rw [<- cN h2];exact hR.1 e0 (Qe h1)
 ·intro i j e x he hx;obtain ⟨e0,h1,h2⟩:=dC hf he;obtain ⟨x0,h3,h4⟩:=dC h2 hx;obtain ⟨v,k1,k2,k3⟩:=hR.2.2 i j e0 x0 h1 h3;have hb0:=gB hb x0 (by
   rw [wJ];exact ⟨e0,Qe h1,Qe h3⟩)
  exact ⟨v,by simpa using k1,k2,CF aA x0 x v h4 hb0 k3⟩
theorem Ct (W:World) {t e:TypeId} {len n:Nat} {parts:Array (Nat×Value)} {cells:Array Value} {zv:Value}
  (hu:P.underlying t=some (.slice e)) (hn:szOf P e=some n) (hz:(zeroValue e).run P W= .ok zv W) (hsmall:len*n<=2^24)
  (h:Instr.fill (fun i=>some (i*n,n)) ((Array.range (len*n)).map (zv.cells[· % zv.cells.size]!)) parts.toList=some cells):
  (Instr.buildSlice t len parts).run P W= .ok (.slice (some ⟨W.heap.size,0,none⟩) len len) (W.alloc (.cells cells e)):=by
 by_cases h0:len*n=0
 ·have e0:((Array.range (len*n)).map (zv.cells[· % zv.cells.size]!))=((Array.range (len*n)).map ((#[]:Array Value)[· % (#[]:Array Value).size]!)):=by
   rw [h0];simp
  rw [e0] at h;simp only [Instr.buildSlice,Sem.run_bind,aX W hu,Result.andThen_ok,gA W hn];rw [a8 (by omega)];simp [h0] at h ⊢;simp [h,newRow]
 ·simp only [Instr.buildSlice,Sem.run_bind,aX W hu,Result.andThen_ok,gA W hn];rw [a8 (by omega)];simp [h0,hz,h,newRow]
end
end Go.Av
namespace Go.Av
section
variable {F:Nat->Nat->Prop} {B0:Nat} {w:World} {Z:Beta} {H:AH} {P:Program}
theorem YD {n:Int} (h0:0<=n) (h1:n<2^62):IntKind.i64.wrap n=n:=by
 have e1:IntKind.i64.bits=64:=rfl;have e2:IntKind.i64.signed=true:=rfl;simp only [IntKind.wrap,e1,e2];rw [Int.emod_eq_of_lt h0 (by omega)];simp;omega
theorem Dn (W:World) {t e:TypeId} {n:Nat} {q q':IntKind} {l c:Int} {zv:Value}
  (hu:P.underlying t=some (.slice e)) (hn:szOf P e=some n) (hz:(zeroValue e).run P W= .ok zv W)
  (h0:0<=l) (h1:l<=c) (h2:c<2^62) (h3:c*P.bytesOf e<=2^47):
  ∃cells,(Instr.makeSlice t (.int q l) (.int q' c)).run P W= .ok (.slice (some ⟨W.heap.size,0,none⟩) l.toNat c.toNat) (W.alloc (.cells cells e))/\
   (cells=((Array.range (c.toNat*n)).map (zv.cells[· % zv.cells.size]!))\/(c.toNat*n=0/\cells= #[])):=by
 obtain ⟨i,hi,hin⟩:=EX hn;have hb:P.bytesOf e=i.bytes:=by simp [Program.bytesOf,hi]
 rw [hb] at h3;have w1:=YD h0 (by omega);have w2:=YD (n:=c) (by omega) h2;have t1:¬(281474976710656<(i.bytes:Int)*c):=by rw [Int.mul_comm];omega
 have t2:¬c<0:=by omega
 have t3:¬l<0:=by omega
 have t4:¬c<l:=by omega
 by_cases hc:c.toNat*n=0
 ·refine ⟨#[],?_,.inr ⟨hc,rfl⟩⟩;have hr:(Array.range 0).map (fun _=>(default:Value))= #[]:=by simp
  simp [Instr.makeSlice,Go.asInt,aX W hu,CA,QF W hi,w1,w2,t1,t2,t3,t4,gA W hn,hc,newRow];rw [hr]
 ·refine ⟨_,?_,.inl rfl⟩;simp [Instr.makeSlice,Go.asInt,aX W hu,CA,QF W hi,w1,w2,t1,t2,t3,t4,gA W hn,hc,hz,newRow]
theorem RA (hr:HR F B0 w Z H) {w':World} {id:Nat} {ob ob':AO} {b o:Nat} (hget:H.get id=some ob) (hb:Z id=some (b,o)) (he:Ext (Mut Z H) w w')
  (hm:∀i,Past ob' o i->Past ob o i)
  (hk:(∃z es es',ob= .row z es/\ob'= .row z es'/\es.length=es'.length)\/(∃es es',ob= .map es/\ob'= .map es')\/(∃z f f',ob= .tok z f/\ob'= .tok z f'/\f<=f')):
  Tr w Z H w' Z (H.set id ob'):=by
 refine ⟨he,?_,fun _ hk'=>EW (by rcases hk with ⟨_,_,_,_,rfl,_⟩ | ⟨_,_,_,rfl⟩ | ⟨_,_,_,_,rfl,_⟩<;>simp) hk',?_,?_,?_⟩
 ·rintro b' i ⟨id',ob2,o',h1,h2,h3⟩;rw [AH.get_set] at h1;by_cases e:id=id'
  ·subst e;rw [a9 rfl,hget] at h1;simp at h1;subst h1;rw [hb] at h2;cases h2;exact .inl ⟨id,ob,o,hget,hb,hm i h3⟩
  ·rw [a8 e] at h1;exact .inl ⟨id',ob2,o',h1,h2,h3⟩
 ·intro id' z es hid h;rw [AH.get_set] at h;by_cases e:id=id'
  ·subst e;rw [a9 rfl,hget] at h;simp at h;rcases hk with ⟨z1,e1,e1',rfl,rfl,hll⟩ | ⟨e1,e1',rfl,rfl⟩ | ⟨z1,f,f',rfl,rfl,_⟩
   ·cases h;exact ⟨⟨e1,hget,hll⟩,rfl⟩
   ·cases h
   ·cases h
  ·rw [a8 e] at h;exact ⟨⟨es,h,rfl⟩,rfl⟩
 ·intro id' es hid h;rw [AH.get_set] at h;by_cases e:id=id'
  ·subst e;rw [a9 rfl,hget] at h;simp at h;rcases hk with ⟨z1,e1,e1',rfl,rfl,hll⟩ | ⟨e1,e1',rfl,rfl⟩ | ⟨z1,f,f',rfl,rfl,_⟩
   ·cases h
   ·cases h;exact ⟨⟨e1,hget⟩,rfl⟩
   ·cases h
  ·rw [a8 e] at h;exact ⟨⟨es,h⟩,rfl⟩
 ·intro t z f hid h;rw [AH.get_set] at h;by_cases e:id=t
  ·subst e;rw [a9 rfl,hget] at h;simp at h;rcases hk with ⟨z1,e1,e1',rfl,rfl,hll⟩ | ⟨e1,e1',rfl,rfl⟩ | ⟨z1,f1,f',rfl,rfl,hle⟩
   ·cases h
   ·cases h
   ·cases h;exact ⟨f1,hget,hle,fun _=>rfl⟩
  ·rw [a8 e] at h;exact ⟨f,h,Qb _,fun _=>rfl⟩
theorem R9 (hr:HR F B0 w Z H) {w':World} {id:Nat} {ob ob':AO} {b o:Nat} (hget:H.get id=some ob) (hb:Z id=some (b,o))
  (ht:Tr w Z H w' Z (H.set id ob')) (hs:∀k,k<w.heap.size->k≠b->w'.heap[k]? =w.heap[k]?) (hob:ObjR F B0 w' Z (H.set id ob') id ob'):
  HR F B0 w' Z (H.set id ob'):=by
 refine ⟨jL hr.base ht.ext.size,hr.far,NF _ _ _ hr.uniq,?_,?_,?_⟩
 ·intro id' hid;rw [AH.get_set];rw [AH.next_set] at hid;rw [hr.next id' hid];split<;>rfl
 ·intro id1 id2 o1 o2 b' k1 k2 h1 h2 h3 h4;have old:∀{i o'},(H.set id ob').get i=some o'->∃o0,H.get i=some o0:=by
   intro i o' h;rw [AH.get_set] at h;split at h
   ·rename_i e;subst e;exact ⟨ob,hget⟩
   ·exact ⟨o',h⟩
  obtain ⟨p1,q1⟩:=old h1;obtain ⟨p2,q2⟩:=old h2;exact hr.inj id1 id2 p1 p2 b' k1 k2 q1 q2 h3 h4
 ·intro id' ob2 h;have h0:=h;rw [AH.get_set] at h;by_cases e:id=id'
  ·subst e;rw [a9 rfl,hget] at h;simp at h;subst h;exact hob
  ·rw [a8 e] at h;refine (hr.obj id' ob2 h).tr ht rfl (fun b' o' hb'=>?_);have hlt:=((hr.obj id' ob2 h).lt hb').1;refine hs b' hlt (fun hbb=>?_);subst hbb;exact e (hr.inj id id' ob ob2 b' o o' hget h hb hb')
theorem Q3 (M:Nat->Nat->Prop) {b:Nat} {c c':Array Value} {ty:TypeId} (h:w.heap[b]? =some (.cells c ty (0,0))) (hs:c'.size=c.size) (hM:∀i,¬M b i->c'[i]? =c[i]?):
  Ext M w (dV w b c' ty):=by
 have hb:=f5 h;refine ⟨rfl,rfl,rfl,by simp [dV],?_⟩;intro k hk;by_cases e:k=b
 ·subst e;refine .inr (.inl ⟨c,c',ty,h,?_,hs,hM⟩);rw [mU _ _ _ _ hk,a9 rfl]
 ·left;rw [mU _ _ _ _ hb,a8 e]
theorem It (hr:HR F B0 w Z H) {t:TypeId} {id z i off n:Nat} {es:List (List AV)} {cs vs cs':List AV} {xv:AV} {pv v0:Value}
  (hn:szOf P t=some n) (hp:VRH F w Z H (.ptr id z i off) pv) (hv:VRH F w Z H xv v0) (hc:xv.cells=some vs) (hvn:vs.length=n)
  (hget:H.get id=some (.row z es)) (hi:es[i]? =some cs) (hput:F3 off vs cs=some cs'):
  ∃w',(Instr.storeAt t pv v0).run P w= .ok () w'/\∃Z',Tr w Z H w' Z' (H.set id (.row z (es.set i cs')))/\HR F B0 w' Z' (H.set id (.row z (es.set i cs'))):=by
 obtain ⟨_,_,h3⟩:=mW hp;obtain ⟨b,o,hb,rfl⟩:=h3 _ _ hget;obtain ⟨b',o',c,m1,m2,⟨ty,m3⟩,m4,m5,m6⟩:=hr.obj id _ hget;rw [hb] at m1;cases m1;have pw:=EU hc hv;obtain ⟨p1,p2,p3⟩:=XX hput;have hlen:cs.length=z:=m5 cs (Qe hi);have hil:i<es.length:=by
  rcases Qs i es.length with h' | h'
  ·exact h'
  ·simp [Qi h'] at hi
 have hmul:i*z+z<=es.length*z:=by
  have:(i+1)*z<=es.length*z:=Qh _ hil;rw [cG] at this;omega
 have hsz:v0.cells.size=n:=by have:=pw.1;simp at this;omega
 have hvl:vs.length=v0.cells.toList.length:=pw.1;obtain ⟨c',r1,r2,r3⟩:=TR P v0.cells.toList w b (o+i*z+off) 0 c ty m3 (by simp at hvl ⊢;omega) (fun u hu=>pw.2.1 u hu);have hM:∀k,Mut Z H b k:=fun k=>⟨id,_,o,hget,hb,trivial⟩
 have he:Ext (Mut Z H) w (dV w b c' ty):=Q3 _ m3 r2 (fun k hk=>absurd (hM k) hk);have ht:=RA hr hget hb he (ob':= .row z (es.set i cs')) (fun _ h=>h) (.inl ⟨z,es,_,rfl,rfl,by simp⟩);have hbl:=f5 m3;refine ⟨dV w b c' ty,?_,Z,ht,R9 hr hget hb ht (fun k hk hkb=>by rw [mU _ _ _ _ hbl,a8 hkb]) ?_⟩
 ·simp only [Instr.storeAt,Instr.sureAddr,Sem.run_bind,Sem.run_pure,Result.andThen_ok,storeVar,gA w hn];rw [a8 (by simpa using hsz)];exact r1
 ·refine ⟨b,o,c',hb,m2,⟨ty,by rw [mU _ _ _ _ hbl,a9 rfl]⟩,by simp;omega,?_,?_⟩
  ·intro e he;rcases List.mem_or_eq_of_mem_set he with he | rfl
   ·exact m5 e he
   ·omega
  ·intro i' j e x he' hx;have hz0:∀(k:Nat) e,es[k]? =some e->∀{j:Nat} {y:AV},e[j]? =some y->j<z:=by
    intro k e hk j y hy;have:=m5 e (Qe hk);rcases Qs j e.length with h' | h'
    ·omega
    ·simp [Qi h'] at hy
   rw [List.getElem?_set] at he';by_cases hii:i=i'
   ·subst hii;rw [a9 rfl,a9 hil] at he';cases he';rw [p3 j] at hx;rw [r3];by_cases hj:off<=j/\j<off+vs.length
    ·rw [a9 hj] at hx;obtain ⟨u,q1,q2,q3⟩:=pw.get hx;refine ⟨u,?_,q2,ht.vr q3⟩;rw [a9 (by simp at hvl ⊢;omega),<- q1];congr 1;omega
    ·rw [a8 hj] at hx;obtain ⟨u,q1,q2,q3⟩:=m6 i j cs x hi hx;refine ⟨u,?_,q2,ht.vr q3⟩;rw [a8 (by simp at hvl ⊢;omega),<- q1]
   ·rw [a8 hii] at he';obtain ⟨u,q1,q2,q3⟩:=m6 i' j e x he' hx;have hj:=hz0 i' e he' hx;refine ⟨u,?_,q2,ht.vr q3⟩;rw [r3,a8,<- q1];intro hcon;have hlt:o+i'*z+j - (o+i*z)<z:=by simp at hvl hcon;omega
    have:=ZC (z:=z) (i:=i') (j:=j) (i':=i) (j':=o+i'*z+j - (o+i*z)) hj hlt (by simp at hcon;omega);exact hii this.1.symm
end
end Go.Av
namespace Go.Av
section
variable {F:Nat->Nat->Prop} {B0:Nat} {w:World} {Z:Beta} {H:AH} {P:Program}
def SrcQ (P:Program) (Q:AV->Value->Prop) (w:World) (z:Nat) (ys:List (List AV)) (v:Value):Prop:=
 ∃cl:List Value,cl.length=ys.length*z/\(∀u∈cl,u.oneCell'=true)/\(∀W,(Builtin.lenOf v).run P W= .ok ys.length W)/\
  (∀(W:World) (k:Nat),W.heap=w.heap->k<=ys.length->(Builtin.firstCells z k v).run P W= .ok (cl.take (k*z)).toArray W)/\
  ∀(i j:Nat) e x,ys[i]? =some e->e[j]? =some x->∃u,cl[i*z+j]? =some u/\Q x u
theorem Gm {W w:World} (h:W.heap=w.heap) (a:Addr):W.cell? a=w.cell? a:=by unfold World.cell?;rw [h]
theorem U1 {Q:AV->Value->Prop} {z b o cap:Nat} {ys:List (List AV)} (hz:∀e∈ys,e.length=z)
  (h:∀(i j:Nat) e x,ys[i]? =some e->e[j]? =some x->∃u,w.cell? ⟨b,o+i*z+j,none⟩=some u/\u.oneCell'=true/\Q x u):
  SrcQ P Q w z ys (.slice (some ⟨b,o,none⟩) ys.length cap):=by
 have key:∀k,k<ys.length*z->∃u,w.cell? ⟨b,o+k,none⟩=some u/\u.oneCell'=true:=by
  intro k hk;have hz0:0<z:=by
   rcases Qt z with rfl | h'
   ·simp at hk
   ·exact h'
  have hi:k / z<ys.length:=by rw [Nat.div_lt_iff_lt_mul hz0];exact hk
  have hj:k % z<z:=Nat.mod_lt _ hz0;have hlen:=hz ys[k / z] (Qd hi);obtain ⟨u,h1,h2,_⟩:=h (k / z) (k % z) ys[k / z] (ys[k / z])[k % z] (by simp [hi]) (by simp [hlen,hj]);have e:o+k / z*z+k % z=o+k:=by
   have:=Nat.div_add_mod k z;rw [Nat.mul_comm] at this;omega
  rw [e] at h1;exact ⟨u,h1,h2⟩
 refine ⟨(List.range (ys.length*z)).map (fun k=>(w.cell? ⟨b,o+k,none⟩).getD default),by simp,?_,fun W=>rfl,?_,?_⟩
 ·intro u hu;obtain ⟨k,hk,rfl⟩:=vZ.1 hu;obtain ⟨u,h1,h2⟩:=key k (by simpa using hk);rw [h1];exact h2
 ·intro W k hW hk;have hkz:k*z<=ys.length*z:=Qh _ hk;have hl:(((List.range (ys.length*z)).map (fun k=>(w.cell? ⟨b,o+k,none⟩).getD default)).take (k*z)).length=k*z:=by
   rw [List.length_take,List.length_map,List.length_range];omega
  refine run_firstCells_some (P:=P) W z k ⟨b,o,none⟩ ys.length cap _ hl ?_;intro j v hj;rw [lR,Gm hW];rw [List.getElem?_take] at hj;split at hj
  ·rename_i hjk;have hjl:j<ys.length*z:=by omega
   obtain ⟨u,h1,h2⟩:=key j hjl;rw [List.getElem?_map,List.getElem?_range hjl] at hj;simp [h1] at hj;rw [h1,hj]
  ·cases hj
 ·intro i j e x he hx;obtain ⟨u,h1,h2,h3⟩:=h i j e x he hx;refine ⟨u,?_,h3⟩;have hj:j<z:=by
   have:=hz e (Qe he);rcases Qs j e.length with h' | h'
   ·omega
   ·simp [Qi h'] at hx
  have hi:i<ys.length:=by
   rcases Qs i ys.length with h' | h'
   ·exact h'
   ·simp [Qi h'] at he
  have hlt:i*z+j<ys.length*z:=by
   have:(i+1)*z<=ys.length*z:=Qh _ hi;rw [cG] at this;omega
  rw [List.getElem?_map,List.getElem?_range hlt];have e:o+(i*z+j)=o+i*z+j:=by omega
  simp [e,h1]
theorem QS {Q:AV->Value->Prop} {z cap:Nat} {a:Option Addr}:SrcQ P Q w z [] (.slice a 0 cap):=by
 refine ⟨[],by simp,by simp,fun W=>rfl,?_,by simp⟩;intro W k _ hk;have:k=0:=by simpa using hk
 subst this;cases a with
 | none=>simp [Builtin.firstCells]
 | some a=>
  simp only [Builtin.firstCells,Nat.zero_mul,loadCells,loadCellsFrom];simp
theorem O' {Q:AV->Value->Prop} (hQ:∀n,Q (.int .u8 n) (.int .u8 n)) (s:List UInt8):SrcQ P Q w 1 (s.map fun b=>[AV.int .u8 b.toNat]) (.string ⟨s.toArray⟩):=by
 refine ⟨s.map fun b=>Value.int .u8 b.toNat,by simp,?_,?_,?_,?_⟩
 ·intro u hu;obtain ⟨b,_,rfl⟩:=vZ.1 hu;rfl
 ·intro W;simp [Builtin.lenOf,ByteArray.size]
 ·intro W k _ hk;simp only [Builtin.firstCells,Sem.run_pure,Nat.mul_one];congr 1;rw [ByteArray.data_extract];simp [List.extract,List.map_take]
 ·intro i j e x he hx;rw [List.getElem?_map] at he;cases hs:s[i]? with
  | none=>rw [hs] at he;cases he
  | some b=>
   rw [hs] at he;cases he;cases j with
   | zero=>simp at hx;subst hx;exact ⟨.int .u8 b.toNat,by simp [hs],hQ _⟩
   | succ j=>simp at hx
theorem F5 {z:Nat} {ys:List (List AV)} {zz:Nat} {v:Value} (h:VRD w (Imm F Z H) (.slice zz ys) v) (hz:∀e∈ys,e.length=z):SrcQ P (VRD w (Imm F Z H)) w z ys v:=by
 obtain ⟨a,cap,rfl,hc,h3⟩:=fF h;rcases h3 with rfl | ⟨b,o,rfl,hz',vs,h4,h5⟩
 ·exact QS
 ·cases ys with
  | nil=>exact QS
  | cons e0 es=>
   have:zz=z:=(hz' e0 (by simp)).symm.trans (hz e0 (by simp));subst this;exact U1 hz (fun i j e x he hx=>⟨_,(h4 i j e x he hx).2.1,(h4 i j e x he hx).2.2,h5 i j e x he hx⟩)
theorem Cy {z:Nat} {ys:List (List AV)} {v:Value} (h:SrcR F w Z H z ys v) (hz:∀e∈ys,e.length=z):SrcQ P (VRH F w Z H) w z ys v:=by
 obtain ⟨base,cap,rfl,_,h3⟩:=h;rcases h3 with rfl | ⟨b,o,rfl,h4⟩
 ·exact QS
 ·exact U1 hz h4
theorem Ho {Q Q':AV->Value->Prop} {z:Nat} {ys:List (List AV)} {v:Value} (h:SrcQ P Q w z ys v) (hq:∀x u,Q x u->Q' x u):SrcQ P Q' w z ys v:=by
 obtain ⟨cl,h1,h2,h3,h4,h5⟩:=h;exact ⟨cl,h1,h2,h3,h4,fun i j e x he hx=>let ⟨u,a,b⟩:=h5 i j e x he hx;⟨u,a,hq _ _ b⟩⟩
theorem F8 {z:Nat} {ys:List (List AV)} {yv:AV} {v:Value} (hr:HR F B0 w Z H) (hv:VRH F w Z H yv v) (h:gC H yv=some ys) (hz:∀e∈ys,e.length=z):
  SrcQ P (VRH F w Z H) w z ys v:=by
 by_cases hs:∃s,yv= .str s
 ·obtain ⟨s,rfl⟩:=hs;cases h;rw [gP hv];cases s with
  | nil=>exact ⟨[],by simp,by simp,fun W=>by simp [Builtin.lenOf,ByteArray.size],fun W k _ hk=>by
    have:k=0:=by simpa using hk
    subst this;simp [Builtin.firstCells],by simp⟩
  | cons b s=>
   have:z=1:=by have:=hz [AV.int .u8 b.toNat] (by simp);simpa using this.symm
   subst this;exact O' (fun n=> .d (.int _ _)) _
 ·exact Cy (YX hr hv h hz (fun s e=>hs ⟨s,e⟩)) hz
theorem V9 {z:Nat} {ys0 ys:List (List AV)} {yv:AV} {v:Value} (hr:HR F B0 w Z H) (hv:VRH F w Z H yv v) (h:gC H yv=some ys0) (hf:frz H yv ys0=some ys) (hz:∀e∈ys,e.length=z):
  SrcQ P (VRD w (Imm F Z H)) w z ys v:=by
 by_cases hrow:∃a b c d,yv= .row a b c d
 ·obtain ⟨a,b,c,d,rfl⟩:=hrow;simp only [frz] at hf;split at hf
  ·cases hf
  ·rename_i hb;have hz0:∀e∈ys0,e.length=z:=by
    intro e he;obtain ⟨i,hi,rfl⟩:=Ql.1 he;obtain ⟨e1,h1,h2⟩:=(vD hf).2 i ys0[i] (by simp [hi]);rw [cN h2];exact hz e1 (Qe h1)
   obtain ⟨cl,h1,h2,h3,h4,h5⟩:=F8 (P:=P) hr hv h hz0;have hl:=cN hf;refine ⟨cl,by rw [<- hl];exact h1,h2,by rw [<- hl];exact h3,by rw [<- hl];exact h4,?_⟩;intro i j e x he hx;obtain ⟨e0,k1,k2⟩:=dC hf he;obtain ⟨x0,k3,k4⟩:=dC k2 hx;obtain ⟨u,q1,q2⟩:=h5 i j e0 x0 k1 k3;have hb0:=gB (by simpa using hb) x0 (by
    rw [wJ];exact ⟨e0,Qe k1,Qe k3⟩)
   exact ⟨u,q1,CF aA x0 x u k4 hb0 q2⟩
 ·have hys:ys=ys0:=by
   unfold frz at hf;split at hf
   ·rename_i a b c d;exact absurd ⟨_,_,_,_,rfl⟩ hrow
   ·cases hf;rfl
  subst hys;unfold gC at h;split at h
  ·cases h;exact F5 (yY hv) hz
  ·cases h;exact F5 (mF hv).1 hz
  ·cases h;exact F5 (z9 hv).2.1 hz
  ·exact absurd ⟨_,_,_,_,rfl⟩ hrow
  ·cases h;rename_i s;rw [gP hv];cases s with
   | nil=>exact ⟨[],by simp,by simp,fun W=>by simp [Builtin.lenOf,ByteArray.size],fun W k _ hk=>by
     have:k=0:=by simpa using hk
     subst this;simp [Builtin.firstCells],by simp⟩
   | cons b s=>
    have:z=1:=by have:=hz [AV.int .u8 b.toNat] (by simp);simpa using this.symm
    subst this;exact O' (fun n=> .int _ _) _
  ·cases h
theorem DI {t u ty el:TypeId} {z:Nat} {base:Option Addr} {len cap n:Nat} {y:Value} {cl:Array Value} {W W':World}
  (ht:P.underlying t=some (.slice el)) (hz:szOf P el=some z) (hu:∃d,P.underlying u=some d/\∀k,d≠ .int k)
  (hlen:(Builtin.lenOf y).run P W= .ok n W) (hfc:(Builtin.firstCells z n y).run P W= .ok cl W) (hroom:len+n<=cap)
  (hst:match base with | some a=>(storeCells (a.add (len*z)) cl.toList).run P W= .ok () W' | none=>W'=W):
  (Builtin.append_ #[t,u] ty #[.slice base len cap,y]).run P W= .ok (.slice base (len+n) cap) W':=by
 obtain ⟨d,hd,hk⟩:=hu;have hm:(match d with | .int _=>true | _=>false)=false:=by
  cases d<;>first | rfl | exact absurd rfl (hk _)
 cases base with
 | none=>
  subst hst;simp [Builtin.append_,aX W' ht,gA W' hz,aX W' hd,hm,hlen,hroom,hfc]
 | some a=>
  simp [Builtin.append_,aX W ht,gA W hz,aX W hd,hm,hlen,hroom,hfc,hst]
theorem Cw {t u ty el:TypeId} {z:Nat} {i:TypeInfo} {zv:Value} {base:Option Addr} {len cap n:Nat} {y:Value} {co cl:Array Value} {W:World}
  (ht:P.underlying t=some (.slice el)) (hi:P.info? el=some i) (hiz:i.size=z) (hzv:i.zero=some zv) (hu:∃d,P.underlying u=some d/\∀k,d≠ .int k)
  (hlen:(Builtin.lenOf y).run P W= .ok n W) (hfc:(Builtin.firstCells z n y).run P W.drew= .ok cl W.drew) (hfo:(Builtin.firstCells z len (.slice base len cap)).run P W.drew= .ok co W.drew)
  (hroom:cap<len+n) (hb:(len+n)*i.bytes<=2^46) (hb0:i.bytes≠0):
  ∃cap' rest,len+n<=cap'/\(Builtin.append_ #[t,u] ty #[.slice base len cap,y]).run P W=
   .ok (.slice (some ⟨W.heap.size,0,none⟩) (len+n) cap') (W.drew.alloc (.cells (co++cl++rest) el))/\rest=Builtin.zeroCells zv.cells (cap' - (len+n)):=by
 obtain ⟨d,hd,hk⟩:=hu;have hm:(match d with | .int _=>true | _=>false)=false:=by
  cases d<;>first | rfl | exact absurd rfl (hk _)
 have hn:¬(len+n<=cap):=by omega
 have hle:len+n<=(len+n)*i.bytes:=Nat.le_mul_of_pos_right _ (by omega);have h48:¬(281474976710656<Builtin.nextslicecap (len+n) cap*i.bytes):=by
  have:=growslice_fits (need:=len+n) (old:=cap) (bytes:=i.bytes) hroom (by omega);omega
 subst hiz;refine ⟨grownCap W (len+n) cap el,_,?_,?_,rfl⟩
 ·exact Nat.le_add_right _ _
 ·simp [Builtin.append_,aX W ht,sizeOf,typeInfo,zeroValue,hi,hzv,aX W hd,hm,hlen,hn,h48,hb0,Question.forced,hfc,hfo,newRow,grownCap]
end
end Go.Av
namespace Go.Av
section
variable {F:Nat->Nat->Prop} {B0:Nat} {w:World} {Z:Beta} {H:AH} {P:Program}
structure AT (P:Program) (t u el:TypeId) (z:Nat):Prop where
 ht:P.underlying t=some (.slice el)
 hz:szOf P el=some z
 hne:z≠0
 hu:∃d,P.underlying u=some d/\∀k,d≠ .int k
 hb:P.bytesOf el≠0
 hzero:∃i zv,P.info? el=some i/\i.zero=some zv/\zv.cells.size=z
theorem mG {U:Type} {l:List U} {i:Nat} {a:U} (h:l[i]? =some a):i<l.length:=by
 rcases Qs i l.length with h' | h'
 ·exact h'
 ·simp [Qi h'] at h
theorem Kb {Q:AV->Value->Prop} {z:Nat} {es ys:List (List AV)} {co cl:List Value} {rest:Array Value} (hzo:∀e∈es,e.length=z) (hzn:∀e∈ys,e.length=z)
  (hlo:co.length=es.length*z) (hln:cl.length=ys.length*z) (h1:∀u∈co,u.oneCell'=true) (h2:∀u∈cl,u.oneCell'=true)
  (ho:∀(i j:Nat) e x,es[i]? =some e->e[j]? =some x->∃u,co[i*z+j]? =some u/\Q x u)
  (hn:∀(i j:Nat) e x,ys[i]? =some e->e[j]? =some x->∃u,cl[i*z+j]? =some u/\Q x u):
  (∀e∈es++ys,e.length=z)/\∀(i j:Nat) e x,(es++ys)[i]? =some e->e[j]? =some x->∃v,(co.toArray++cl.toArray++rest)[i*z+j]? =some v/\v.oneCell'=true/\Q x v:=by
 refine ⟨fun e he=>(fT.1 he).elim (hzo e) (hzn e),?_⟩;intro i j e x he hx;rw [List.getElem?_append] at he;split at he
 ·rename_i hi;obtain ⟨u,k1,k2⟩:=ho i j e x he hx;have hlt:=mG k1;refine ⟨u,?_,h1 u (Qe k1),k2⟩;rw [Array.getElem?_append_left (by simp;omega),Array.getElem?_append_left (by simpa using hlt)];simpa using k1
 ·rename_i hi;obtain ⟨u,k1,k2⟩:=hn _ j e x he hx;have hlt:=mG k1;refine ⟨u,?_,h2 u (Qe k1),k2⟩;have hm:i*z=es.length*z+(i - es.length)*z:=by rw [<- cG];congr 1;omega
  rw [Array.getElem?_append_left (by simp;omega),Array.getElem?_append_right (by simp;omega)];have e2:i*z+j - co.toArray.size=(i - es.length)*z+j:=by simp;omega
  rw [e2];simpa using k1
theorem Bv (zc:Array Value) (n:Nat):(Builtin.zeroCells zc n).size=n*zc.size:=by simp [Builtin.zeroCells]
theorem QN {Q:AV->Value->Prop} {t u ty el:TypeId} {z:Nat} (A:AT P t u el z) {es ys:List (List AV)} {base:Option Addr} {cap:Nat} {y:Value}
  (hx:SrcQ P Q w z es (.slice base es.length cap)) (hy:SrcQ P Q w z ys y) (hzo:∀e∈es,e.length=z) (hzn:∀e∈ys,e.length=z)
  (hroom:cap<es.length+ys.length) (hb:(es.length+ys.length)*P.bytesOf el<=2^46):
  ∃c cap',es.length+ys.length<=cap'/\cap'*z<=c.size/\(Builtin.append_ #[t,u] ty #[.slice base es.length cap,y]).run P w=
   .ok (.slice (some ⟨w.heap.size,0,none⟩) (es.length+ys.length) cap') (w.drew.alloc (.cells c el))/\
   (∀e∈es++ys,e.length=z)/\∀(i j:Nat) e x,(es++ys)[i]? =some e->e[j]? =some x->∃v,c[i*z+j]? =some v/\v.oneCell'=true/\Q x v:=by
 obtain ⟨co,o1,o2,o3,o4,o5⟩:=hx;obtain ⟨cl,n1,n2,n3,n4,n5⟩:=hy;obtain ⟨i,zv,i1,i2,i3⟩:=A.hzero;obtain ⟨i',i4,i5⟩:=EX A.hz;rw [i1] at i4;cases i4;have hbb:P.bytesOf el=i.bytes:=by simp [Program.bytesOf,i1]
 have hfc:=n4 w.drew ys.length rfl (Qb _);have hfo:=o4 w.drew es.length rfl (Qb _);rw [Qm (by omega)] at hfc hfo;obtain ⟨cap',rest,g1,g2,g3⟩:=Cw (ty:=ty) (W:=w) A.ht i1 i5 i2 A.hu (n3 w) hfc hfo hroom (by rw [<- hbb];exact hb) (by rw [<- hbb];exact A.hb);refine ⟨_,cap',g1,?_,g2,Kb hzo hzn o1 n1 o2 n2 o5 n5⟩;rw [g3];simp only [Array.size_append,List.size_toArray,o1,n1,Bv,i3];rw [<- cG,<- cG];refine Qh _ ?_;omega
theorem ZB {x:AV} {H':AH} {v:Value} {w':World} (hr:HR F B0 w Z H) (h:HR F B0 w.drew Z H->Good F B0 w.drew Z H x H' v w'):Good F B0 w Z H x H' v w':=by
 obtain ⟨Z',h1,h2,h3⟩:=h hr.drew;exact ⟨Z',tr_drew.trans h1,h2,h3⟩
theorem Jr {imm:Nat->Nat->Prop} {x:AV} {v:Value} (h:VRD w imm x v):VRD w.drew imm x v:=h.mono fun _ _ _ a b=>⟨a,b⟩
theorem XY {t u ty el:TypeId} {z:Nat} (A:AT P t u el z) {nx:Nat} (hfr:Free H nx) (hr:HR F B0 w Z H) {z0:Nat} {es ys:List (List AV)} {xv y:Value}
  (hx:VRH F w Z H (.Xa z0 es) xv) (hz0:z0=z\/es=[]) (hy:SrcQ P (VRD w (Imm F Z H)) w z ys y) (hzn:∀e∈ys,e.length=z)
  (hb:(es.length+ys.length)*P.bytesOf el<=2^46):
  ∃v w',(Builtin.append_ #[t,u] ty #[xv,y]).run P w= .ok v w'/\Good F B0 w Z H (.app z (es++ys) nx) (H.put nx (.tok z (es.length+ys.length))) v w':=by
 obtain ⟨hd,a,len,rfl⟩:=mF hx;have hzo:∀e∈es,e.length=z:=by
  rcases hz0 with rfl | rfl
  ·obtain ⟨_,_,_,_,h3⟩:=fF hd;rcases h3 with rfl | ⟨b,o,_,hz,_⟩
   ·simp
   ·exact hz
  ·simp
 obtain ⟨a',cap,e1,hc,h3⟩:=fF hd;cases e1;have hsx:SrcQ P (VRD w (Imm F Z H)) w z es (.slice a es.length es.length):=F5 hd hzo;by_cases hys:ys=[]
 ·subst hys;obtain ⟨cl,n1,n2,n3,n4,n5⟩:=hy;have hcl:cl=[]:=Qf (by simpa using n1);subst hcl;have hfc:=n4 w 0 rfl (Qb _);refine ⟨_,_,DI (cap:=es.length) A.ht A.hz A.hu (n3 w) hfc (by simp) (W':=w) ?_,?_⟩
  ·cases a with
   | none=>rfl
   | some a=>simp [storeCells]
  ·have ht:=CO hfr hr (Ext.refl _ w) (.tok z es.length) none (by simp);have hn:=E1 hfr hr (Ext.refl _ w) (.tok z es.length) none (by simp) (fun _ _=>rfl) (by intro b o h;rw [cU] at h;cases h);refine ⟨upd Z nx none,ht,hn,.l ⟨vC hr hfr (by simp),?_,?_⟩⟩
   ·have:=ht.vrd hd;rcases hz0 with rfl | rfl
    ·simpa using this
    ·simp at this ⊢;exact .slice0 _ _ _
   ·intro z' f hf;rw [h9 hr hfr,a9 rfl] at hf;cases hf;refine ⟨by simp,fun _=>?_⟩;rw [cU];exact ⟨a,_,rfl⟩
 ·have hlt:es.length<es.length+ys.length:=by
   cases ys with
   | nil=>exact absurd rfl hys
   | cons=>simp
  obtain ⟨c,cap',g1,g2,g3,g4,g5⟩:=QN (ty:=ty) A hsx hy hzo hzn hlt hb;refine ⟨_,_,g3,ZB hr fun hr'=>?_⟩;have:=TQ (cap:=cap') (n:=es.length+ys.length) (ty:=el) hfr hr' (es:=es++ys) (z:=z) (c:=c) ⟨g4,fun i j e x he hx=>by
   obtain ⟨v,q1,q2,q3⟩:=g5 i j e x he hx;exact ⟨v,q1,q2,Jr q3⟩⟩ (by simp) g2 g1
  exact this
theorem Bn {t u ty el:TypeId} {z:Nat} (A:AT P t u el z) (hr:HR F B0 w Z H) {z0:Nat} {xv y:Value}
  (hx:VRH F w Z H (.Xa z0 []) xv) (hy:SrcQ P (VRH F w Z H) w z [] y):
  ∃v w',(Builtin.append_ #[t,u] ty #[xv,y]).run P w= .ok v w'/\Good F B0 w Z H (.Xa z []) H v w':=by
 obtain ⟨hd,a,len,rfl⟩:=mF hx;obtain ⟨a',cap,e1,hc,h3⟩:=fF hd;cases e1;obtain ⟨cl,n1,n2,n3,n4,n5⟩:=hy;have hcl:cl=[]:=Qf (by simpa using n1);subst hcl;have hfc:=n4 w 0 rfl (Qb _);refine ⟨_,_,DI (cap:=0) A.ht A.hz A.hu (n3 w) hfc (by simp) (W':=w) ?_,?_⟩
 ·cases a with
  | none=>rfl
  | some a=>simp [storeCells]
 ·exact .same hr (.l ⟨.slice0 _ _ _,a,_,rfl⟩)
theorem Bl {t u ty el:TypeId} {z:Nat} (A:AT P t u el z) {nx:Nat} (hfr:Free H nx) (hr:HR F B0 w Z H) {z0:Nat} {es ys:List (List AV)} {xv y:Value}
  (hx:VRH F w Z H (.Xa z0 es) xv) (hz0:z0=z\/es=[]) (hy:SrcQ P (VRH F w Z H) w z ys y) (hzn:∀e∈ys,e.length=z) (hne:ys≠[])
  (hb:(es.length+ys.length)*P.bytesOf el<=2^46):
  ∃v w',(Builtin.append_ #[t,u] ty #[xv,y]).run P w= .ok v w'/\Good F B0 w Z H (.row nx z 0 (es.length+ys.length)) (H.put nx (.row z (es++ys))) v w':=by
 obtain ⟨hd,a,len,rfl⟩:=mF hx;have hzo:∀e∈es,e.length=z:=by
  rcases hz0 with rfl | rfl
  ·obtain ⟨_,_,_,_,h3⟩:=fF hd;rcases h3 with rfl | ⟨b,o,_,hz,_⟩
   ·simp
   ·exact hz
  ·simp
 obtain ⟨a',cap,e1,hc,h3⟩:=fF hd;cases e1;have hsx:SrcQ P (VRH F w Z H) w z es (.slice a es.length es.length):=Ho (F5 hd hzo) (fun _ _ h=> .d h);have hlt:es.length<es.length+ys.length:=by
  cases ys with
  | nil=>exact absurd rfl hne
  | cons=>simp
 obtain ⟨c,cap',g1,g2,g3,g4,g5⟩:=QN (ty:=ty) A hsx hy hzo hzn hlt hb;refine ⟨_,_,g3,ZB hr fun hr'=>?_⟩;obtain ⟨k1,k2⟩:=NJ hfr hr' c el z (es++ys) g4 (by simp;exact jL (Qh _ g1) g2) (fun i j e x he hx=>by
  obtain ⟨v,q1,q2,q3⟩:=g5 i j e x he hx;exact ⟨v,q1,q2,tr_drew.vr q3⟩)
 refine ⟨_,k1,k2,.l ⟨vC hr hfr (by simp),⟨_,_,rfl,g1,.inr ⟨_,_,rfl⟩⟩,?_⟩⟩;intro zz ees hg;rw [h9 hr hfr,a9 rfl] at hg;cases hg;exact ⟨w.drew.heap.size,0,_,cap',c,cU _ _ _,rfl,g1,.inr (by simp),⟨el,vB _ _⟩,by simpa using g2,by simp;omega⟩
theorem K' {Q:AV->Value->Prop} {t u ty el:TypeId} {z:Nat} (A:AT P t u el z) {ys:List (List AV)} {b o len cap:Nat} {c:Array Value} {tyb:TypeId} {y:Value}
  (hblk:w.heap[b]? =some (.cells c tyb (0,0))) (hcap:o+cap*z<=c.size) (hy:SrcQ P Q w z ys y) (hzn:∀e∈ys,e.length=z) (hroom:len+ys.length<=cap):
  ∃c',(Builtin.append_ #[t,u] ty #[.slice (some ⟨b,o,none⟩) len cap,y]).run P w= .ok (.slice (some ⟨b,o,none⟩) (len+ys.length) cap) (dV w b c' tyb)/\c'.size=c.size/\
   (∀k,¬(o+len*z<=k/\k<o+(len+ys.length)*z)->c'[k]? =c[k]?)/\
   ∀(i j:Nat) e x,ys[i]? =some e->e[j]? =some x->∃v,c'[o+(len+i)*z+j]? =some v/\v.oneCell'=true/\Q x v:=by
 obtain ⟨cl,n1,n2,n3,n4,n5⟩:=hy;have hfc:=n4 w ys.length rfl (Qb _);rw [Qm (by omega)] at hfc;have hm:(len+ys.length)*z<=cap*z:=Qh _ hroom;have hm2:(len+ys.length)*z=len*z+ys.length*z:=cG _ _ _;obtain ⟨c',r1,r2,r3⟩:=TR P cl w b (o+len*z) 0 c tyb hblk (by omega) n2;refine ⟨c',?_,r2,?_,?_⟩
 ·refine DI (W:=w) A.ht A.hz A.hu (n3 w) hfc hroom ?_;simp only [lR];exact r1
 ·intro k hk;rw [r3,a8 (by omega)]
 ·intro i j e x he hx;obtain ⟨v,k1,k2⟩:=n5 i j e x he hx;have hlt:=mG k1;refine ⟨v,?_,n2 v (Qe k1),k2⟩;have e1:(len+i)*z=len*z+i*z:=cG _ _ _;rw [r3,a9 (by omega),<- k1];congr 1;omega
theorem Jy {t u ty el:TypeId} {z:Nat} (A:AT P t u el z) (hr:HR F B0 w Z H) {es ys:List (List AV)} {tk:Nat} {xv y:Value}
  (hx:VRH F w Z H (.app z es tk) xv) (hget:H.get tk=some (.tok z es.length)) (hy:SrcQ P (VRD w (Imm F Z H)) w z ys y) (hzn:∀e∈ys,e.length=z)
  (hb:(es.length+ys.length)*P.bytesOf el<=2^46):
  ∃v w',(Builtin.append_ #[t,u] ty #[xv,y]).run P w= .ok v w'/\Good F B0 w Z H (.app z (es++ys) tk) (H.set tk (.tok z (es.length+ys.length))) v w':=by
 obtain ⟨htk,hd,htok⟩:=z9 hx;have htok:=(htok z es.length hget).2 rfl;obtain ⟨a',cap',e1,hc,h3⟩:=fF hd;subst e1;have hzo:∀e∈es,e.length=z:=by
  rcases h3 with rfl | ⟨b,o,_,hz,_⟩
  ·simp
  ·exact hz
 have grow:cap'<es.length+ys.length->∃v w',(Builtin.append_ #[t,u] ty #[.slice a' es.length cap',y]).run P w= .ok v w'/\
   Good F B0 w Z H (.app z (es++ys) tk) (H.set tk (.tok z (es.length+ys.length))) v w':=by
  intro hroom;have hsx:SrcQ P (VRD w (Imm F Z H)) w z es (.slice a' es.length cap'):=F5 hd hzo;obtain ⟨c,cap2,g1,g2,g3,g4,g5⟩:=QN (ty:=ty) A hsx hy hzo hzn hroom hb;have hypos:0<ys.length:=by omega
  refine ⟨_,_,g3,?_⟩;have he:Ext (Mut Z H) w (w.drew.alloc (.cells c el)):=(Ext.drew _ w).trans (Ext.alloc (Mut Z H) _ _) (fun _ _ h _=>h);have hget':∀id,(H.set tk (.tok z (es.length+ys.length))).get id=if tk=id then some (.tok z (es.length+ys.length)) else H.get id:=by
   intro id;rw [AH.get_set];by_cases e:tk=id
   ·subst e;rw [a9 rfl,a9 rfl,hget];rfl
   ·rw [a8 e,a8 e]
  have ht:Tr w Z H (w.drew.alloc (.cells c el)) (upd Z tk (some (w.heap.size,0))) (H.set tk (.tok z (es.length+ys.length))):=by
   refine ⟨he,?_,fun _ hk'=>EW (by simp) hk',?_,?_,?_⟩
   ·rintro b i ⟨id,ob,o,m1,m2,m3⟩;rw [hget'] at m1;by_cases e:tk=id
    ·subst e;rw [cU] at m2;cases m2;exact .inr (Qb _)
    ·rw [a8 e] at m1;rw [dU _ _ (fun h=>e h.symm)] at m2;exact .inl ⟨id,ob,o,m1,m2,m3⟩
   ·intro id zz ees hid h;rw [hget'] at h;by_cases e:tk=id
    ·rw [a9 e] at h;cases h
    ·rw [a8 e] at h;exact ⟨⟨ees,h,rfl⟩,dU _ _ (fun h=>e h.symm)⟩
   ·intro id ees hid h;rw [hget'] at h;by_cases e:tk=id
    ·rw [a9 e] at h;cases h
    ·rw [a8 e] at h;exact ⟨⟨ees,h⟩,dU _ _ (fun h=>e h.symm)⟩
   ·intro id zz f hid h;rw [hget'] at h;by_cases e:tk=id
    ·subst e;rw [a9 rfl] at h;cases h;exact ⟨es.length,hget,by omega,fun e=>by omega⟩
    ·rw [a8 e] at h;exact ⟨f,h,Qb _,fun _=>dU _ _ (fun h=>e h.symm)⟩
  have hblk:Blk (w.drew.alloc (.cells c el)) w.heap.size c:=⟨el,vB w.drew _⟩;have hcsz:(es.length+ys.length)*z<=c.size:=jL (Qh _ g1) g2;have hhr:HR F B0 (w.drew.alloc (.cells c el)) (upd Z tk (some (w.heap.size,0))) (H.set tk (.tok z (es.length+ys.length))):=by
   refine ⟨jL hr.base he.size,hr.far,NF _ _ _ hr.uniq,?_,?_,?_⟩
   ·intro id hid;rw [hget'];rw [AH.next_set] at hid;rw [a8 (by have:=htk.1;omega)];exact hr.next id hid
   ·intro id1 id2 o1 o2 b k1 k2 m1 m2 m3 m4;rw [hget'] at m1 m2;by_cases e1:tk=id1<;>by_cases e2:tk=id2
    ·omega
    ·subst e1;rw [cU] at m3;rw [a8 e2] at m2;rw [dU _ _ (fun h=>e2 h.symm)] at m4;cases m3;have:=((hr.obj id2 o2 m2).lt m4).1;omega
    ·subst e2;rw [cU] at m4;rw [a8 e1] at m1;rw [dU _ _ (fun h=>e1 h.symm)] at m3;cases m4;have:=((hr.obj id1 o1 m1).lt m3).1;omega
    ·rw [a8 e1] at m1;rw [a8 e2] at m2;rw [dU _ _ (fun h=>e1 h.symm)] at m3;rw [dU _ _ (fun h=>e2 h.symm)] at m4;exact hr.inj id1 id2 o1 o2 b k1 k2 m1 m2 m3 m4
   ·intro id ob m;rw [hget'] at m;by_cases e:tk=id
    ·subst e;rw [a9 rfl] at m;cases m;intro b o hbo;rw [cU] at hbo;cases hbo;exact ⟨hr.base,c,hblk,by omega⟩
    ·rw [a8 e] at m;refine (hr.obj id ob m).tr ht (dU _ _ (fun h=>e h.symm)) (fun b o hbo=>?_);have:=((hr.obj id ob m).lt hbo).1;exact DG w.drew _ this
  refine ⟨_,ht,hhr,.l ⟨EW (by simp) htk,?_,?_⟩⟩
  ·have:=UL (w':=w.drew.alloc (.cells c el)) (imm:=Imm F (upd Z tk (some (w.heap.size,0))) (H.set tk (.tok z (es.length+ys.length)))) (z:=z) (b:=w.heap.size) (es:=es++ys) (c:=c) (cap:=cap2) hblk ?_ g4 (by simpa using g1) ?_
   ·simpa using this
   ·intro i hi;refine ⟨fun hm=>?_,fun hf=>?_⟩
    ·obtain ⟨id,ob,o,m1,m2,m3⟩:=hm;rw [hget'] at m1;by_cases e:tk=id
     ·subst e;rw [a9 rfl] at m1;cases m1;rw [cU] at m2;cases m2;simp [Past] at m3 hi;omega
     ·rw [a8 e] at m1;rw [dU _ _ (fun h=>e h.symm)] at m2;have:=((hr.obj id ob m1).lt m2).1;omega
    ·have:=hr.far _ _ hf;have:=hr.base;omega
   ·intro i j e x he hx;obtain ⟨v,q1,q2,q3⟩:=g5 i j e x he hx;exact ⟨v,q1,q2,ht.vrd q3⟩
  ·intro zz f hf;rw [hget',a9 rfl] at hf;cases hf;refine ⟨by simp,fun _=>?_⟩;rw [cU];exact ⟨_,cap2,c,rfl,hblk,by omega⟩
 by_cases hroom:es.length+ys.length<=cap'
 ·cases hbt:Z tk with
  | none=>
   rw [hbt] at htok;obtain ⟨a,len,e2⟩:=htok;cases e2;have hys:ys=[]:=Qf (by omega);subst hys;obtain ⟨cl,n1,n2,n3,n4,n5⟩:=hy;have hcl:cl=[]:=Qf (by simpa using n1);subst hcl;have hfc:=n4 w 0 rfl (Qb _);refine ⟨_,_,DI (cap:=es.length) A.ht A.hz A.hu (n3 w) hfc (by simp) (W':=w) ?_,?_⟩
   ·cases a' with
    | none=>rfl
    | some a=>simp [storeCells]
   ·have hset:∀id,(H.set tk (.tok z (es.length+0))).get id=H.get id:=by
     intro id;rw [AH.get_set];split
     ·rename_i e;subst e;rw [hget];rfl
     ·rfl
    have htr:Tr w Z H w Z (H.set tk (.tok z (es.length+0))):=by
     refine ⟨.refl _ _,?_,fun _ hk'=>EW (by simp) hk',?_,?_,?_⟩
     ·rintro b i ⟨id,ob,o,m1,m2,m3⟩;rw [hset] at m1;exact .inl ⟨id,ob,o,m1,m2,m3⟩
     ·intro id zz ees _ h;rw [hset] at h;exact ⟨⟨ees,h,rfl⟩,rfl⟩
     ·intro id ees _ h;rw [hset] at h;exact ⟨⟨ees,h⟩,rfl⟩
     ·intro id zz f _ h;rw [hset] at h;exact ⟨f,h,Qb _,fun _=>rfl⟩
    refine ⟨Z,by simpa using htr,?_,?_⟩
    ·refine ⟨hr.base,hr.far,NF _ _ _ hr.uniq,?_,?_,?_⟩
     ·intro id hid;have:=hset id;simp only [List.length_nil] at this ⊢;rw [this];exact hr.next id hid
     ·intro id1 id2 o1 o2 b k1 k2 m1 m2 m3 m4;have s1:=hset id1;have s2:=hset id2;simp only [List.length_nil] at m1 m2;rw [s1] at m1;rw [s2] at m2;exact hr.inj id1 id2 o1 o2 b k1 k2 m1 m2 m3 m4
     ·intro id ob m;have s1:=hset id;simp only [List.length_nil] at m ⊢;rw [s1] at m;exact (hr.obj id ob m).tr htr rfl (fun _ _ _=>rfl)
    ·have:=htr.vr hx;simpa using this
  | some p=>
   obtain ⟨b,o⟩:=p;rw [hbt] at htok;obtain ⟨len,cap,c,e2,⟨tyb,hblk⟩,hsz⟩:=htok;cases e2;obtain ⟨c',r1,r2,r3,r4⟩:=K' (ty:=ty) A hblk hsz hy hzn hroom;have hB0:=((hr.obj tk _ hget).lt hbt).2;have hbl:=f5 hblk;have hM:∀k,o+es.length*z<=k->Mut Z H b k:=fun k hk=>⟨tk,_,o,hget,hbt,hk⟩
   have he:Ext (Mut Z H) w (dV w b c' tyb):=Q3 _ hblk r2 (fun k hk=>r3 k (fun hc2=>hk (hM k hc2.1)));have ht:=RA hr hget hbt he (ob':= .tok z (es.length+ys.length)) (fun k hk=>by
    simp only [Past] at hk ⊢;have:es.length*z<=(es.length+ys.length)*z:=Qh _ (by omega);omega) (.inr (.inr ⟨z,_,_,rfl,rfl,by omega⟩))
   have hblk':Blk (dV w b c' tyb) b c':=⟨tyb,by rw [mU _ _ _ _ hbl,a9 rfl]⟩;have hmm:(es.length+ys.length)*z<=cap'*z:=Qh _ hroom;have hhr:=R9 hr hget hbt ht (fun k hk hkb=>by rw [mU _ _ _ _ hbl,a8 hkb]) (by
    intro b' o' hb';rw [hbt] at hb';cases hb';exact ⟨hB0,c',hblk',by omega⟩)
   refine ⟨_,_,r1,Z,ht,hhr,.l ⟨EW (by simp) htk,?_,?_⟩⟩
   ·-- the elements, old and new
    have himm:∀k,o<=k->k<o+(es.length+ys.length)*z->Imm F Z (H.set tk (.tok z (es.length+ys.length))) b k:=by
     intro k hk1 hk2;refine ⟨?_,fun hf=>?_⟩
     ·rintro ⟨id,ob,o',m1,m2,m3⟩;rw [AH.get_set] at m1;by_cases e:tk=id
      ·subst e;rw [a9 rfl,hget] at m1;simp at m1;subst m1;rw [hbt] at m2;cases m2;simp [Past] at m3;omega
      ·rw [a8 e] at m1;exact e (hr.inj tk id _ ob b o o' hget m1 hbt m2)
     ·have:=hr.far _ _ hf;omega
    have hall:∀(i j:Nat) e x,(es++ys)[i]? =some e->e[j]? =some x->∃v,c'[o+i*z+j]? =some v/\v.oneCell'=true/\VRD (dV w b c' tyb) (Imm F Z (H.set tk (.tok z (es.length+ys.length)))) x v:=by
     intro i j e x he' hx';rw [List.getElem?_append] at he';split at he'
     ·rename_i hi;rcases h3 with rfl | ⟨b2,o2,e3,hz,vs,h4,h5⟩
      ·simp at hi
      ·cases e3;obtain ⟨_,q1,q2⟩:=h4 i j e x he' hx';obtain ⟨cc,ty2,fz2,q3,q4⟩:=cell_iff.1 q1;rw [hblk] at q3;cases q3;have hj:j<z:=by
        have:=hz e (Qe he');have:=mG hx';omega
       have hlt:i*z+j<es.length*z:=by
        have:(i+1)*z<=es.length*z:=Qh _ hi;rw [cG] at this;omega
       exact ⟨vs i j,by rw [r3 _ (by omega)];exact q4,q2,ht.vrd (h5 i j e x he' hx')⟩
     ·rename_i hi;obtain ⟨v,q1,q2,q3⟩:=r4 _ j e x he' hx';have:es.length+(i - es.length)=i:=by omega
      rw [this] at q1;exact ⟨v,q1,q2,ht.vrd q3⟩
    have hza:∀e∈es++ys,e.length=z:=fun e he=>(fT.1 he).elim (hzo e) (hzn e)
    cases hcat:es++ys with
    | nil=>
     have:es.length+ys.length=0:=by rw [<- QB,hcat];rfl
     rw [this];exact .slice0 _ _ _
    | cons e0 r0=>
     rw [<- hcat];have:=VRD.slice (w:=dV w b c' tyb) (imm:=Imm F Z (H.set tk (.tok z (es.length+ys.length)))) z (es++ys) b o cap' (fun i j=>(c'[o+i*z+j]?).getD default) (by rw [hcat];simp) hza (by simpa using hroom) ?_ ?_
     ·simpa using this
     ·intro i j e x he' hx';obtain ⟨v,q1,q2,q3⟩:=hall i j e x he' hx';obtain ⟨tt,hb3⟩:=hblk';have hj:j<z:=by
       have:=hza e (Qe he');have:=mG hx';omega
      have hi:=mG he';have hlt:i*z+j<(es++ys).length*z:=by
       have:(i+1)*z<=(es++ys).length*z:=Qh _ hi;rw [cG] at this;omega
      simp only [q1,A2];exact ⟨himm _ (by omega) (by simp at hlt;omega),cell_iff.2 ⟨c',tt,(0,0),hb3,q1⟩,q2⟩
     ·intro i j e x he' hx';obtain ⟨v,q1,q2,q3⟩:=hall i j e x he' hx';simp only [q1,A2];exact q3
   ·intro zz f hf;rw [AH.get_set,a9 rfl,hget] at hf;simp at hf;obtain ⟨rfl,rfl⟩:=hf;refine ⟨by simp,fun _=>?_⟩;rw [hbt];exact ⟨_,cap',c',rfl,hblk',by omega⟩
 ·exact grow (by omega)
end
end Go.Av
namespace Go.Av
section
variable {F:Nat->Nat->Prop} {B0:Nat} {w:World} {Z:Beta} {H:AH} {P:Program}
theorem mR (hr:HR F B0 w Z H) (u id:Nat):(H.kill u).get id=if u=id then none else H.get id:=by
 simp only [AH.kill,AH.get];exact YO id u H.objs hr.uniq
theorem z7 (hr:HR F B0 w Z H) (u:Nat):Tr w Z H w Z (H.kill u):=by
 have old:∀{id ob},(H.kill u).get id=some ob->H.get id=some ob:=by
  intro id ob h;rw [mR hr] at h;split at h
  ·cases h
  ·exact h
 refine ⟨.refl _ _,?_,fun k hk=>⟨hk.1,by rw [mR hr];split;simp;exact hk.2⟩,?_,?_,?_⟩
 ·rintro b i ⟨id,ob,o,h1,h2,h3⟩;exact .inl ⟨id,ob,o,old h1,h2,h3⟩
 ·intro id z es _ h;exact ⟨⟨es,old h,rfl⟩,rfl⟩
 ·intro id es _ h;exact ⟨⟨es,old h⟩,rfl⟩
 ·intro id z f _ h;exact ⟨f,old h,Qb _,fun _=>rfl⟩
theorem lP (hr:HR F B0 w Z H) (u:Nat):HR F B0 w Z (H.kill u):=by
 have old:∀{id ob},(H.kill u).get id=some ob->H.get id=some ob:=by
  intro id ob h;rw [mR hr] at h;split at h
  ·cases h
  ·exact h
 refine ⟨hr.base,hr.far,Gh _ _ hr.uniq,?_,?_,?_⟩
 ·intro id hid;rw [mR hr];split
  ·rfl
  ·exact hr.next id hid
 ·intro id1 id2 o1 o2 b k1 k2 h1 h2 h3 h4;exact hr.inj id1 id2 o1 o2 b k1 k2 (old h1) (old h2) h3 h4
 ·intro id ob h;exact (hr.obj id ob (old h)).tr (z7 hr u) rfl (fun _ _ _=>rfl)
theorem YL {nx:Nat} (hfr:Free H nx) (hr:HR F B0 w Z H) {id z:Nat} {es es':List (List AV)} {b o o':Nat} {c c':Array Value} {ty:TypeId} (hget:H.get id=some (.row z es)) (hb:Z id=some (b,o))
  (hblk:w.heap[b]? =some (.cells c ty (0,0))) (hs:c'.size=c.size) (hz:∀e∈es',e.length=z) (hsz:o'+es'.length*z<=c.size)
  (hc:∀(i j:Nat) e x,es'[i]? =some e->e[j]? =some x->∃v,c'[o'+i*z+j]? =some v/\v.oneCell'=true/\VRH F w Z H x v):
  Tr w Z H (dV w b c' ty) (upd Z nx (some (b,o'))) ((H.kill id).put nx (.row z es'))/\HR F B0 (dV w b c' ty) (upd Z nx (some (b,o'))) ((H.kill id).put nx (.row z es')):=by
 have hbl:=f5 hblk;have hB0:=((hr.obj id _ hget).lt hb).2;have hidn:=VB hr hget;have hin:id≠nx:=by
  rintro rfl;exact hfr.not_known hr ⟨hidn,by rw [hget];simp⟩
 have hfk:Free (H.kill id) nx:=by
  rcases hfr with h | h
  ·exact .inl h
  ·exact .inr (by rw [mR hr,a8 hin];exact h)
 have hnk:∀k,H.Known k->k≠nx:=fun k hk e=>hfr.not_known hr (e ▸ hk)
 have hget':∀k,((H.kill id).put nx (.row z es')).get k=if k=nx then some (.row z es') else if id=k then none else H.get k:=by
  intro k;rw [h9 (lP hr id) hfk,mR hr]
 have hM:∀k,Mut Z H b k:=fun k=>⟨id,_,o,hget,hb,trivial⟩
 have he:Ext (Mut Z H) w (dV w b c' ty):=Q3 _ hblk hs (fun k hk=>absurd (hM k) hk);have ht:Tr w Z H (dV w b c' ty) (upd Z nx (some (b,o'))) ((H.kill id).put nx (.row z es')):=by
  refine ⟨he,?_,fun k hk=>⟨FK hk.1 (QL (H.kill id) nx _),by rw [hget',a8 (hnk k hk)];split;simp;exact hk.2⟩,?_,?_,?_⟩
  ·rintro b2 i ⟨k,ob,o2,h1,h2,h3⟩;rw [hget'] at h1;by_cases e:k=nx
   ·subst e;rw [cU] at h2;cases h2;exact .inl (hM i)
   ·rw [a8 e] at h1;split at h1
    ·cases h1
    ·rw [dU _ _ e] at h2;exact .inl ⟨k,ob,o2,h1,h2,h3⟩
  ·intro k zz ees hk h;rw [hget',a8 (hnk k hk)] at h;split at h
   ·cases h
   ·exact ⟨⟨ees,h,rfl⟩,dU _ _ (hnk k hk)⟩
  ·intro k ees hk h;rw [hget',a8 (hnk k hk)] at h;split at h
   ·cases h
   ·exact ⟨⟨ees,h⟩,dU _ _ (hnk k hk)⟩
  ·intro k zz f hk h;rw [hget',a8 (hnk k hk)] at h;split at h
   ·cases h
   ·exact ⟨f,h,Qb _,fun _=>dU _ _ (hnk k hk)⟩
 refine ⟨ht,jL hr.base he.size,hr.far,?_,?_,?_,?_⟩
 ·exact Ib (lP hr id) nx _
 ·intro k hk;have h1:=U6 (lP hr id) hfk (.row z es');have h2:=QL (H.kill id) nx (.row z es');rw [AH.next_kill] at h2;rw [hget',a8 (by omega),a8 (by omega)];exact hr.next k (by omega)
 ·intro k1 k2 ob1 ob2 b2 p1 p2 h1 h2 h3 h4;rw [hget'] at h1 h2;by_cases e1:k1=nx<;>by_cases e2:k2=nx
  ·omega
  ·subst e1;rw [cU] at h3;cases h3;rw [a8 e2] at h2;rw [dU _ _ e2] at h4;split at h2
   ·cases h2
   ·rename_i hne;exact absurd (hr.inj id k2 _ _ b o p2 hget h2 hb h4) hne
  ·subst e2;rw [cU] at h4;cases h4;rw [a8 e1] at h1;rw [dU _ _ e1] at h3;split at h1
   ·cases h1
   ·rename_i hne;exact absurd (hr.inj id k1 _ _ b o p1 hget h1 hb h3) hne
  ·rw [a8 e1] at h1;rw [a8 e2] at h2;rw [dU _ _ e1] at h3;rw [dU _ _ e2] at h4;split at h1
   ·cases h1
   ·split at h2
    ·cases h2
    ·exact hr.inj k1 k2 _ _ b2 p1 p2 h1 h2 h3 h4
 ·intro k ob h;have h0:=h;rw [hget'] at h;by_cases e:k=nx
  ·subst e;rw [a9 rfl] at h;cases h;refine ⟨b,o',c',cU _ _ _,hB0,⟨ty,by rw [mU _ _ _ _ hbl,a9 rfl]⟩,by omega,hz,?_⟩;intro i j e x he hx;obtain ⟨v,k1,k2,k3⟩:=hc i j e x he hx;exact ⟨v,k1,k2,ht.vr k3⟩
  ·rw [a8 e] at h;split at h
   ·cases h
   ·rename_i hne;refine (hr.obj k ob h).tr ht (dU _ _ e) (fun b2 p2 hb2=>?_);rw [mU _ _ _ _ hbl,a8];intro hbb;subst hbb;exact hne (hr.inj id k _ _ b2 o p2 hget h hb hb2)
theorem Fo {b:Nat} {c:Array Value} {ty:TypeId} (h:w.heap[b]? =some (.cells c ty (0,0))):dV w b c ty=w:=by
 have hb:=f5 h;have e2:w.heap.setIfInBounds b (.cells c ty (0,0))=w.heap:=by
  apply FM;intro k;rw [Array.getElem?_setIfInBounds];by_cases hk:b=k
  ·subst hk;rw [a9 rfl,a9 hb,h]
  ·rw [a8 hk]
 unfold dV;rw [e2]
theorem Ka {t u ty el:TypeId} {z:Nat} (A:AT P t u el z) {nx:Nat} (hfr:Free H nx) (hr:HR F B0 w Z H) {id off len:Nat} {es ys:List (List AV)} {xv y:Value}
  (hx:VRH F w Z H (.row id z off len) xv) (hget:H.get id=some (.row z es)) (hf:off+len=es.length) (hy:SrcQ P (VRH F w Z H) w z ys y) (hzn:∀e∈ys,e.length=z)
  (hb:(len+ys.length)*P.bytesOf el<=2^46):
  ∃v w',(Builtin.append_ #[t,u] ty #[xv,y]).run P w= .ok v w'/\Good F B0 w Z H (.row nx z 0 (len+ys.length)) ((H.kill id).put nx (.row z (es.drop off++ys))) v w':=by
 obtain ⟨hid,⟨base,cap,rfl,hlc,hsh⟩,hl⟩:=lT hx;obtain ⟨b,o,base',cap',c0,e1,e2,e3,e4,e5,e6,e9⟩:=hl _ _ hget;cases e2;obtain ⟨b',o',c,m1,m2,⟨tyb,m3⟩,m4,m5,m6⟩:=hr.obj id _ hget;rw [e1] at m1;cases m1;have hcc:c0=c:=by
  obtain ⟨ty0,e5⟩:=e5;rw [m3] at e5;cases e5;rfl
 subst hcc;have hbl:=f5 m3;have hin:id≠nx:=by
  rintro rfl;exact hfr.not_known hr hid
 have hfk:Free (H.kill id) nx:=by
  rcases hfr with h | h
  ·exact .inl h
  ·exact .inr (by rw [mR hr,a8 hin];exact h)
 have hkn:((H.kill id).put nx (.row z (es.drop off++ys))).Known nx:=vC (lP hr id) hfk (by simp);have hdl:(es.drop off).length=len:=by simp;omega
 have hzd:∀e∈es.drop off,e.length=z:=fun e he=>m5 e (nI he)
 have hold:∀(i j:Nat) e x,(es.drop off)[i]? =some e->e[j]? =some x->∃v,c0[o+off*z+i*z+j]? =some v/\v.oneCell'=true/\VRH F w Z H x v:=by
  intro i j e x he hx';rw [List.getElem?_drop] at he;obtain ⟨v,q1,q2,q3⟩:=m6 _ j e x he hx';refine ⟨v,?_,q2,q3⟩;rw [<- q1,cG];congr 1;omega
 have hza:∀e∈es.drop off++ys,e.length=z:=fun e he=>(fT.1 he).elim (hzd e) (hzn e)
 by_cases hroom:len+ys.length<=cap
 ·by_cases hc0:cap=0
  ·subst hc0;have hl0:len=0:=by omega
   subst hl0;have hys:ys=[]:=Qf (by omega);subst hys;obtain ⟨cl,n1,n2,n3,n4,n5⟩:=hy;have hcl:cl=[]:=Qf (by simpa using n1);subst hcl;have hfc:=n4 w 0 rfl (Qb _);have hd0:es.drop off=[]:=Qf hdl;obtain ⟨g1,g2⟩:=YL (es':=[]) (o':=o) hfr hr hget e1 m3 rfl (by simp) (by simp;omega) (by simp);rw [Fo m3] at g1 g2;refine ⟨_,_,DI (cap:=0) A.ht A.hz A.hu (n3 w) hfc (by simp) (W':=w) ?_,?_⟩
   ·cases base with
    | none=>rfl
    | some a=>simp [storeCells]
   ·rw [hd0] at hkn ⊢;refine ⟨_,g1,g2,.l ⟨hkn,⟨_,_,rfl,by simp,.inl (by simp)⟩,?_⟩⟩;intro zz ees hg;rw [h9 (lP hr id) hfk,a9 rfl] at hg;cases hg;exact ⟨b,o,base,0,c0,cU _ _ _,rfl,by simp,.inl rfl,⟨tyb,m3⟩,by simp;omega,by simp⟩
  ·have hbase:base=some ⟨b,o+off*z,none⟩:=e4.resolve_left hc0;subst hbase;have hcap:o+off*z+cap*z<=c0.size:=by rw [cG] at e6;omega
   obtain ⟨c',r1,r2,r3,r4⟩:=K' (ty:=ty) A m3 hcap hy hzn hroom;have hmm:(len+ys.length)*z<=cap*z:=Qh _ hroom;obtain ⟨g1,g2⟩:=YL (es':=es.drop off++ys) (o':=o+off*z) (c':=c') hfr hr hget e1 m3 r2 hza (by rw [QB,hdl];omega) (by
    intro i j e x he hx';rw [List.getElem?_append] at he;split at he
    ·rename_i hi;obtain ⟨v,q1,q2,q3⟩:=hold i j e x he hx';have hj:j<z:=by
      have:=hzd e (Qe he);have:=mG hx';omega
     have hlt:i*z+j<len*z:=by
      have:(i+1)*z<=len*z:=Qh _ (by omega);rw [cG] at this;omega
     exact ⟨v,by rw [r3 _ (by omega)];exact q1,q2,q3⟩
    ·rename_i hi;obtain ⟨v,q1,q2,q3⟩:=r4 _ j e x he hx';rw [hdl] at q1;have:len+(i - len)=i:=by omega
     rw [this] at q1;exact ⟨v,q1,q2,q3⟩)
   refine ⟨_,_,r1,_,g1,g2,.l ⟨hkn,⟨_,_,rfl,hroom,.inr ⟨_,_,rfl⟩⟩,?_⟩⟩;intro zz ees hg;rw [h9 (lP hr id) hfk,a9 rfl] at hg;cases hg;exact ⟨b,o+off*z,_,cap,c',cU _ _ _,rfl,hroom,.inr (by simp),⟨tyb,by rw [mU _ _ _ _ hbl,a9 rfl]⟩,by rw [CU];omega,by rw [QB,hdl];omega⟩
 ·have hsx:SrcQ P (VRH F w Z H) w z (es.drop off) (.slice base (es.drop off).length cap):=by
   rcases Qt len with h0 | h0
   ·have hd0:es.drop off=[]:=Qf (by omega);rw [hd0];exact QS
   ·have hbase:base=some ⟨b,o+off*z,none⟩:=e4.resolve_left (by omega);subst hbase;refine U1 hzd (fun i j e x he hx'=>?_);obtain ⟨v,q1,q2,q3⟩:=hold i j e x he hx';exact ⟨v,cell_iff.2 ⟨c0,tyb,(0,0),m3,q1⟩,q2,q3⟩
  obtain ⟨c,cap2,g1,g2,g3,g4,g5⟩:=QN (ty:=ty) A hsx hy hzd hzn (by omega) (by rw [hdl];exact hb);rw [hdl] at g3 g1;refine ⟨_,_,g3,?_⟩;have hk:=lP hr id;have htk:=z7 hr id;obtain ⟨k1,k2⟩:=NJ hfk hk.drew c el z (es.drop off++ys) g4 (by rw [QB,hdl];exact jL (Qh _ g1) g2) (fun i j e x he hx'=>by
   obtain ⟨v,q1,q2,q3⟩:=g5 i j e x he hx';exact ⟨v,q1,q2,tr_drew.vr (htk.vr q3)⟩)
  refine ⟨_,htk.trans (tr_drew.trans k1),k2,.l ⟨hkn,⟨_,_,rfl,g1,.inr ⟨_,_,rfl⟩⟩,?_⟩⟩;intro zz ees hg;rw [h9 (lP hr id) hfk,a9 rfl] at hg;cases hg;exact ⟨w.drew.heap.size,0,_,cap2,c,cU _ _ _,rfl,g1,.inr (by simp),⟨el,vB _ _⟩,by simpa using g2,by rw [QB,hdl];omega⟩
theorem UF (hr:HR F B0 w Z H) {id z off k:Nat} {es ys:List (List AV)} {b o:Nat} {c:Array Value} {tyb:TypeId} {cl:List Value} (hget:H.get id=some (.row z es)) (hb:Z id=some (b,o))
  (m3:w.heap[b]? =some (.cells c tyb (0,0))) (hk:ys.length=k) (hle:off+k<=es.length) (hz:∀e∈ys,e.length=z) (hcl:cl.length=k*z) (h1:∀u∈cl,u.oneCell'=true)
  (hc:∀(i j:Nat) e x,ys[i]? =some e->e[j]? =some x->∃u,cl[i*z+j]? =some u/\VRH F w Z H x u):
  ∃w',(storeCells ⟨b,o+off*z,none⟩ cl).run P w= .ok () w'/\Tr w Z H w' Z (H.set id (.row z (es.take off++ys++es.drop (off+k))))/\
   HR F B0 w' Z (H.set id (.row z (es.take off++ys++es.drop (off+k)))):=by
 obtain ⟨b',o',c1,m1,m2,⟨ty1,m3'⟩,m4,m5,m6⟩:=hr.obj id _ hget;rw [hb] at m1;cases m1;rw [m3] at m3';cases m3';have hbl:=f5 m3;have hm:(off+k)*z<=es.length*z:=Qh _ hle;have hm2:(off+k)*z=off*z+k*z:=cG _ _ _;obtain ⟨c',r1,r2,r3⟩:=TR P cl w b (o+off*z) 0 c tyb m3 (by omega) h1;have hM:∀q,Mut Z H b q:=fun q=>⟨id,_,o,hget,hb,trivial⟩
 have he:Ext (Mut Z H) w (dV w b c' tyb):=Q3 _ m3 r2 (fun q hq=>absurd (hM q) hq);have ht:=RA hr hget hb he (ob':= .row z (es.take off++ys++es.drop (off+k))) (fun _ h=>h) (.inl ⟨z,es,_,rfl,rfl,by simp;omega⟩);have hza:∀e∈es.take off++ys++es.drop (off+k),e.length=z:=by
  intro e he;rcases fT.1 he with he | he
  ·rcases fT.1 he with he | he
   ·exact m5 e (Qr he)
   ·exact hz e he
  ·exact m5 e (nI he)
 refine ⟨_,r1,ht,R9 hr hget hb ht (fun q hq hqb=>by rw [mU _ _ _ _ hbl,a8 hqb]) ?_⟩;refine ⟨b,o,c',hb,m2,⟨tyb,by rw [mU _ _ _ _ hbl,a9 rfl]⟩,?_,hza,?_⟩
 ·have:(es.take off++ys++es.drop (off+k)).length=es.length:=by simp;omega
  rw [this];omega
 ·intro i j e x he' hx;have hj:j<z:=by
   have:=hza e (Qe he');have:=mG hx;omega
  have ht0:(es.take off).length=off:=by simp;omega
  rw [List.append_assoc,List.getElem?_append,ht0] at he';split at he'
  ·rename_i hi;rw [List.getElem?_take,a9 hi] at he';obtain ⟨v,q1,q2,q3⟩:=m6 i j e x he' hx;have hlt:i*z+j<off*z:=by
    have:(i+1)*z<=off*z:=Qh _ hi;rw [cG] at this;omega
   exact ⟨v,by rw [r3,a8 (by omega)];exact q1,q2,ht.vr q3⟩
  ·rename_i hi;rw [List.getElem?_append] at he';split at he'
   ·rename_i hi2;obtain ⟨u,q1,q2⟩:=hc _ j e x he' hx;have hlt:=mG q1;have e1:i*z=off*z+(i - off)*z:=by rw [<- cG];congr 1;omega
    refine ⟨u,?_,h1 u (Qe q1),ht.vr q2⟩;rw [r3,a9 (by omega),<- q1];congr 1;omega
   ·rename_i hi2;rw [List.getElem?_drop] at he';have e1:off+k+(i - off - ys.length)=i:=by omega
    rw [e1] at he';obtain ⟨v,q1,q2,q3⟩:=m6 i j e x he' hx;have hge:(off+k)*z<=i*z:=Qh _ (by omega);exact ⟨v,by rw [r3,a8 (by omega)];exact q1,q2,ht.vr q3⟩
theorem Jz {t u ty el:TypeId} {z:Nat} (A:AT P t u el z) (hr:HR F B0 w Z H) {id off len:Nat} {es ys:List (List AV)} {xv y:Value}
  (hx:VRH F w Z H (.row id z off len) xv) (hget:H.get id=some (.row z es)) (hle:off+len+ys.length<=es.length) (hy:SrcQ P (VRH F w Z H) w z ys y) (hzn:∀e∈ys,e.length=z):
  ∃v w',(Builtin.append_ #[t,u] ty #[xv,y]).run P w= .ok v w'/\Good F B0 w Z H (.row id z off (len+ys.length)) (H.set id (.row z (es.take (off+len)++ys++es.drop (off+len+ys.length)))) v w':=by
 obtain ⟨hid,⟨base,cap,rfl,hlc,hsh⟩,hl⟩:=lT hx;obtain ⟨b,o,base',cap',c0,e1,e2,e3,e4,⟨tyb,e5⟩,e6,e9⟩:=hl _ _ hget;cases e2;obtain ⟨cl,n1,n2,n3,n4,n5⟩:=hy;have hfc:=n4 w ys.length rfl (Qb _);rw [Qm (by omega)] at hfc;have hroom:len+ys.length<=cap:=by omega
 obtain ⟨w',r1,r2,r3⟩:=UF (P:=P) hr (off:=off+len) (k:=ys.length) (ys:=ys) (cl:=cl) hget e1 e5 rfl hle hzn n1 n2 n5;have hlen:(es.take (off+len)++ys++es.drop (off+len+ys.length)).length=es.length:=by simp;omega
 have fin:∀(base:Option Addr),(cap=0\/base=some ⟨b,o+off*z,none⟩)->(len+ys.length=0\/∃b k,base=some ⟨b,k,none⟩)->
   Good F B0 w Z H (.row id z off (len+ys.length)) (H.set id (.row z (es.take (off+len)++ys++es.drop (off+len+ys.length)))) (.slice base (len+ys.length) cap) w':=by
  intro base q1 q2;refine ⟨Z,r2,r3,.l ⟨EW (by simp) hid,⟨_,_,rfl,hroom,q2⟩,?_⟩⟩;intro zz ees hg;rw [AH.get_set,a9 rfl,hget] at hg;simp only [A3] at hg;cases hg;obtain ⟨c',k1,k2⟩:=r2.ext.blk ⟨tyb,e5⟩;exact ⟨b,o,base,cap,c',e1,rfl,hroom,q1,k1,by omega,by omega⟩
 by_cases hc0:cap=0
 ·have hys:ys=[]:=Qf (by omega);subst hys;have hcl:cl=[]:=Qf (by simpa using n1);subst hcl;have hw:w'=w:=by
   have:(storeCells ⟨b,o+(off+len)*z,none⟩ ([]:List Value)).run P w= .ok () w:=rfl;rw [this] at r1;injection r1 with _ h;exact h.symm
  subst hw;refine ⟨_,_,DI (cap:=cap) A.ht A.hz A.hu (n3 w') hfc hroom (W':=w') ?_,fin _ (.inl hc0) (.inl (by simp;omega))⟩;cases base with
  | none=>rfl
  | some a=>simp [storeCells]
 ·have hbase:base=some ⟨b,o+off*z,none⟩:=e4.resolve_left hc0;subst hbase;refine ⟨_,_,DI (cap:=cap) A.ht A.hz A.hu (n3 w) hfc hroom (W':=w') ?_,fin _ (.inr rfl) (.inr ⟨_,_,rfl⟩)⟩;have:o+(off+len)*z=o+off*z+len*z:=by rw [cG];omega
  rw [this] at r1;simp only [lR];exact r1
theorem Jj {t u ty el:TypeId} {z:Nat} (ht:P.underlying t=some (.slice el)) (hz:szOf P el=some z) (hr:HR F B0 w Z H) {id off len:Nat} {es ys:List (List AV)} {xv y:Value}
  (hx:VRH F w Z H (.row id z off len) xv) (hget:H.get id=some (.row z es)) (hle:off+len<=es.length) (hy:SrcQ P (VRH F w Z H) w z ys y) (hzn:∀e∈ys,e.length=z):
  ∃v w',(Builtin.copy_ #[t,u] ty #[xv,y]).run P w= .ok v w'/\
   Good F B0 w Z H (.int .i64 (min len ys.length:Nat)) (H.set id (.row z (es.take off++ys.take (min len ys.length)++es.drop (off+min len ys.length)))) v w':=by
 obtain ⟨hid,⟨base,cap,rfl,hlc,hsh⟩,hl⟩:=lT hx;obtain ⟨b,o,base',cap',c0,e1,e2,e3,e4,⟨tyb,e5⟩,e6,e9⟩:=hl _ _ hget;cases e2;obtain ⟨cl,n1,n2,n3,n4,n5⟩:=hy;have hfc:=n4 w (min len ys.length) rfl (Nat.min_le_right _ _);have hmin:Nat.min ys.length len=min len ys.length:=by rw [Nat.min_comm]
 obtain ⟨w',r1,r2,r3⟩:=UF (P:=P) hr (off:=off) (k:=min len ys.length) (ys:=ys.take (min len ys.length)) (cl:=cl.take (min len ys.length*z)) hget e1 e5 (by simp) (by omega)
  (fun e he=>hzn e (Qr he)) (by
   rw [List.length_take,n1];have:min len ys.length*z<=ys.length*z:=Qh _ (Nat.min_le_right _ _);omega) (fun v hv=>n2 v (Qr hv)) (by
   intro i j e x he hx';rw [List.getElem?_take] at he;split at he
   ·rename_i hi;obtain ⟨v,q1,q2⟩:=n5 i j e x he hx';have hj:j<z:=by
     have:=hzn e (Qe he);have:=mG hx';omega
    have:(i+1)*z<=min len ys.length*z:=Qh _ hi;rw [cG] at this;refine ⟨v,?_,q2⟩;rw [List.getElem?_take,a9 (by omega)];exact q1
   ·cases he)
 by_cases hc0:cap=0
 ·have hl0:len=0:=by omega
  subst hl0;have hcl:cl.take (min 0 ys.length*z)=[]:=by simp
  rw [hcl] at r1;have hw:w'=w:=by
   have:(storeCells ⟨b,o+off*z,none⟩ ([]:List Value)).run P w= .ok () w:=rfl;rw [this] at r1;injection r1 with _ h;exact h.symm
  subst hw;refine ⟨.int .i64 0,w',?_,Z,r2,r3,by simpa using (VR.d (.int _ _))⟩;rw [hcl] at hfc;have hm0:Nat.min ys.length 0=0:=Nat.min_zero _;have hfc':(Builtin.firstCells z 0 y).run P w'= .ok #[] w':=by simpa using hfc
  cases base with
  | none=>simp [Builtin.copy_,aX w' ht,gA w' hz,n3,hm0,hfc',goInt]
  | some a=>simp [Builtin.copy_,aX w' ht,gA w' hz,n3,hm0,hfc',goInt,storeCells]
 ·have hbase:base=some ⟨b,o+off*z,none⟩:=e4.resolve_left hc0;subst hbase;refine ⟨_,w',?_,Z,r2,r3,.d (.int _ _)⟩;simp [Builtin.copy_,aX w ht,gA w hz,n3,hmin,hfc,r1,goInt]
theorem Il {t ty el:TypeId} {zs:List AV} {z:Nat} (ht:P.underlying t=some (.slice el)) (hzero:eP P el=some zs) (hzl:zs.length=z) (hr:HR F B0 w Z H) {id off len:Nat} {es:List (List AV)} {xv:Value}
  (hx:VRH F w Z H (.row id z off len) xv) (hget:H.get id=some (.row z es)) (hle:off+len<=es.length):
  ∃v w',(Builtin.clear_ #[t] ty #[xv]).run P w= .ok v w'/\
   Good F B0 w Z H (.tup []) (H.set id (.row z (es.take off++List.replicate len zs++es.drop (off+len)))) v w':=by
 obtain ⟨hid,⟨base,cap,rfl,hlc,hsh⟩,hl⟩:=lT hx;obtain ⟨b,o,base',cap',c0,e1,e2,e3,e4,⟨tyb,e5⟩,e6,e9⟩:=hl _ _ hget;cases e2;obtain ⟨zv,hzv,hpz⟩:=DX (F:=F) (w:=w) (Z:=Z) (H:=H) hzero;have hzs:zv.cells.size=z:=by have:=hpz.1;simp at this;omega
 have hcell:∀k,k<len*z->(Builtin.zeroCells zv.cells len).toList[k]? =zv.cells[k % z]? :=by
  intro k hk;have hz0:0<z:=by
   rcases Qt z with h | h
   ·rw [h] at hk;simp at hk
   ·exact h
  have hmod:k % z<zv.cells.size:=by rw [hzs];exact Nat.mod_lt _ hz0
  simp only [Builtin.zeroCells,Array.getElem?_toList,Array.getElem?_map,Array.getElem?_range,hzs];rw [a9 hk];simp [getElem!_def,Array.getElem?_eq_getElem hmod]
 obtain ⟨w',r1,r2,r3⟩:=UF (P:=P) hr (off:=off) (k:=len) (ys:=List.replicate len zs) (cl:=(Builtin.zeroCells zv.cells len).toList) hget e1 e5 (by simp) hle
  (fun e he=>by rw [RS he];exact hzl) (by simp [Builtin.zeroCells,hzs]) (by
   intro u hu;obtain ⟨k,hk,rfl⟩:=Ql.1 hu;have hk':k<len*z:=by simpa [Builtin.zeroCells,hzs] using hk
   have:=hcell k hk';rw [Qa hk] at this;have hm:=Qe (l:=zv.cells.toList) (by rw [Array.getElem?_toList];exact this.symm);exact hpz.2.1 _ hm) (by
   intro i j e x he hx';have hi:i<len:=by
    have:=mG he;simpa using this
   have hee:e=zs:=by simp [List.getElem?_replicate,hi] at he;exact he.symm
   subst hee;have hj:j<z:=by have:=mG hx';omega
   obtain ⟨u,q1,q2,q3⟩:=hpz.get hx';have hlt:i*z+j<len*z:=by
    have:(i+1)*z<=len*z:=Qh _ hi;rw [cG] at this;omega
   refine ⟨u,?_,q3⟩;rw [hcell _ hlt];have hmod:(i*z+j) % z=j:=by rw [Nat.mul_comm,Nat.mul_add_mod];exact Nat.mod_eq_of_lt hj
   rw [hmod];simpa using q1)
 rcases Qt len with hl0 | hlp
 ·subst hl0;have hz0:(Builtin.zeroCells zv.cells 0).toList=[]:=Qf (by simp [Builtin.zeroCells]);rw [hz0] at r1;have hw:w'=w:=by
   have:(storeCells ⟨b,o+off*z,none⟩ ([]:List Value)).run P w= .ok () w:=rfl;rw [this] at r1;injection r1 with _ h;exact h.symm
  subst hw;refine ⟨.tuple #[],w',?_,Z,r2,r3,.d (.tup [] #[] rfl (by simp))⟩;cases base<;>simp [Builtin.clear_,aX w' ht]
 ·have hbase:base=some ⟨b,o+off*z,none⟩:=e4.resolve_left (by omega);subst hbase;refine ⟨.tuple #[],w',?_,Z,r2,r3,.d (.tup [] #[] rfl (by simp))⟩;cases len with
  | zero=>omega
  | succ n=>simp [Builtin.clear_,aX w ht,hzv,r1]
end
end Go.Av
namespace Go.Av
section
variable {F:Nat->Nat->Prop} {B0:Nat} {w:World} {Z:Beta} {H:AH} {P:Program}
theorem NK (W:World) {r:Nat} {es:Array MapEntry} {ck:Nat} (h:W.heap[r]? =some (.map es ck)):(getObj r).run P W= .ok (.map es ck) W:=by
 simp [getObj,Sem.run,h]
theorem G' (W:World) {r:Nat} {es:Array MapEntry} {ck:Nat} (h:W.heap[r]? =some (.map es ck)) (o:Obj):
  (setObj r o).run P W= .ok () { W with heap:=W.heap.setIfInBounds r o }:=by
 simp [setObj,Sem.run,h]
structure PairT (P:Program) (t:TypeId) (f0 f1:Field):Prop where
 hu:P.underlying t=some (.struct #[f0,f1])
 i0:∃k,P.underlying f0.type=some (.int k)
 i1:∃k,P.underlying f1.type=some (.int k)
 o0:f0.offset=0
 o1:f1.offset=1
 s0:szOf P f0.type=some 1
 s1:szOf P f1.type=some 1
 lv:f6 P 20 t=some [.i,.i]
theorem YP {t:TypeId} {kd:Kd} (h:wC P t=some kd):(∃td,P.underlying t=some td/\((td= .bool/\kd= .b)\/(∃k,td= .int k/\kd= .i)\/(td= .string/\kd= .s)))\/(kd= .p/\∃f0 f1,PairT P t f0 f1):=by
 unfold wC at h;split at h
 ·rename_i hu;cases h;exact .inl ⟨_,hu,.inl ⟨rfl,rfl⟩⟩
 ·rename_i k hu;cases h;exact .inl ⟨_,hu,.inr (.inl ⟨k,rfl,rfl⟩)⟩
 ·rename_i hu;cases h;exact .inl ⟨_,hu,.inr (.inr ⟨rfl,rfl⟩)⟩
 ·rename_i fs hu;split at h
  ·rename_i f0 f1 hfs;obtain ⟨l⟩:=fs;simp only at hfs;subst hfs;split at h
   ·rename_i k0 k1 h0 h1;split at h
    ·rename_i hc;cases h;exact .inr ⟨rfl,f0,f1,hu,⟨_,h0⟩,⟨_,h1⟩,hc.1,hc.2.1,hc.2.2.1,hc.2.2.2.1,hc.2.2.2.2⟩
    ·cases h
   ·cases h
  ·cases h
 ·cases h
theorem Fj {kd:Kd} {x y:AV} {r:Bool} {a b:Value} (hkp:kd≠ .p) (h:eqKd kd x y=some r) (ha:VRH F w Z H x a) (hb:VRH F w Z H y b):
  (∃p q,kd= .b/\a= .bool p/\b= .bool q/\r=(p == q))\/(∃k p q,kd= .i/\a= .int k p/\b= .int k q/\r=(p == q))\/
  (∃p q:List UInt8,kd= .s/\a= .string ⟨p.toArray⟩/\b= .string ⟨q.toArray⟩/\r=(p == q)):=by
 unfold eqKd at h;split at h
 ·cases h;exact .inl ⟨_,_,rfl,iR ha,iR hb,rfl⟩
 ·split at h
  ·rename_i hk;subst hk;cases h;exact .inr (.inl ⟨_,_,_,rfl,cM ha,cM hb,rfl⟩)
  ·cases h
 ·cases h;exact .inr (.inr ⟨_,_,rfl,gP ha,gP hb,rfl⟩)
 ·exact absurd rfl hkp
 ·cases h
theorem XP {t:TypeId} {kd:Kd} {td:TypeDesc} {x y:AV} {r:Bool} {a b:Value} (htd:(td= .bool/\kd= .b)\/(∃k,td= .int k/\kd= .i)\/(td= .string/\kd= .s))
  (h:eqKd kd x y=some r) (ha:VRH F w Z H x a) (hb:VRH F w Z H y b):Instr.sameNow td a b=some r/\(r=true->Instr.sameBits 10000 b a=true):=by
 have hkp:kd≠ .p:=by rintro rfl;rcases htd with ⟨_,e⟩ | ⟨_,_,e⟩ | ⟨_,e⟩<;>cases e
 rcases Fj hkp h ha hb with ⟨p,q,rfl,rfl,rfl,rfl⟩ | ⟨k,p,q,rfl,rfl,rfl,rfl⟩ | ⟨p,q,rfl,rfl,rfl,rfl⟩
 ·rcases htd with ⟨rfl,_⟩ | ⟨k,_,e⟩ | ⟨_,e⟩
  ·refine ⟨rfl,fun e=>?_⟩;have:p=q:=by simpa using e
   subst this;simp [Instr.sameBits]
  ·cases e
  ·cases e
 ·rcases htd with ⟨_,e⟩ | ⟨k',rfl,_⟩ | ⟨_,e⟩
  ·cases e
  ·refine ⟨by simp [Instr.sameNow],fun e=>?_⟩;have:p=q:=by simpa using e
   subst this;simp [Instr.sameBits]
  ·cases e
 ·rcases htd with ⟨_,e⟩ | ⟨k,_,e⟩ | ⟨rfl,_⟩
  ·cases e
  ·cases e
  ·have hb:((⟨p.toArray⟩:ByteArray) == ⟨q.toArray⟩)=(p == q):=by
    rw [beq_toListBytes,ByteArray.toList_eq,ByteArray.toList_eq]
   refine ⟨by simp only [Instr.sameNow,hb],fun e=>?_⟩;have:p=q:=by simpa using e
   subst this;simp only [Instr.sameBits,hb];exact e
theorem U0 (W:World) {t:TypeId} {td:TypeDesc} (b:Bool) (n:Nat) (hu:P.underlying t=some td) (h:td= .bool\/(∃k,td= .int k)\/td= .string) (v:Value):
  (Instr.checkKey b (n+1) t v).run P W= .ok () W:=by
 rcases h with rfl | ⟨k,rfl⟩ | rfl<;>simp [Instr.checkKey,aX W hu]
theorem XR {kd:Kd} {td:TypeDesc} (htd:(td= .bool/\kd= .b)\/(∃k,td= .int k/\kd= .i)\/(td= .string/\kd= .s)) {k:AV} {kv:Value} (hk:VRH F w Z H k kv):
  ∀(ents:List (AV×AV)) (es:List MapEntry) (i:Nat) (r:Option AV),ents.length=es.length->
   (∀(j:Nat) k x e,ents[j]? =some (k,x)->es[j]? =some e->VRD w (Imm F Z H) k e.key/\VRH F w Z H x e.val)->gO kd k ents=some r->
   (r=none/\Instr.findNow td kv es i=some none)\/(∃x j e,r=some x/\Instr.findNow td kv es i=some (some (i+j,e.val))/\es[j]? =some e/\VRH F w Z H x e.val/\Instr.sameBits 10000 e.key kv=true/\
    ∀v,putA kd k v ents=some (ents.set j (k,v))/\delA kd k ents=some (ents.eraseIdx j))
 | [],[],i,r,_,_,h=>by
  simp only [gO] at h;split at h
  ·cases h
  ·cases h;exact .inl ⟨rfl,rfl⟩
 | (k',x)::ents,e::es,i,r,hl,hrel,h=>by
  obtain ⟨h1,h2⟩:=hrel 0 k' x e rfl rfl;simp only [gO] at h;split at h
  ·cases h
  ·rename_i heq;cases h;obtain ⟨s1,s2⟩:=XP (t:=0) htd heq hk (.d h1);refine .inr ⟨x,0,e,rfl,?_,rfl,h2,s2 rfl,?_⟩
   ·simp [Instr.findNow,s1]
   ·intro v;simp [putA,delA,heq]
  ·rename_i heq;obtain ⟨s1,s2⟩:=XP (t:=0) htd heq hk (.d h1);rcases XR htd hk ents es (i+1) r (by simpa using hl) (fun j k x e ha hb=>hrel (j+1) k x e (by simpa using ha) (by simpa using hb)) h with ⟨rfl,q⟩ | ⟨x,j,e',rfl,q1,q2,q3,q4,q5⟩
   ·exact .inl ⟨rfl,by simp [Instr.findNow,s1,q]⟩
   ·refine .inr ⟨x,j+1,e',rfl,?_,by simpa using q2,q3,q4,?_⟩
    ·simp only [Instr.findNow,s1,q1];congr 3;omega
    ·intro v;obtain ⟨p1,p2⟩:=q5 v;simp [putA,delA,heq,p1,p2]
 | [],_::_,_,_,hl,_,_=>by simp at hl
 | _::_,[],_,_,hl,_,_=>by simp at hl
theorem XM {kd:Kd} {k v:AV}:∀{ents:List (AV×AV)},gO kd k ents=some none->putA kd k v ents=some (ents++[(k,v)])/\delA kd k ents=some ents
 | [],_=>⟨rfl,rfl⟩
 | (k',x)::ents,h=>by
  simp only [gO] at h;split at h
  ·cases h
  ·cases h
  ·rename_i heq;obtain ⟨h1,h2⟩:=XM (v:=v) h;simp [putA,delA,heq,h1,h2]
theorem ZK {kd:Kd} {k v:AV} (hok:kdOk kd k=true):∀{ents es':List (AV×AV)},putA kd k v ents=some es'->∃r,gO kd k ents=some r
 | [],_,_=>⟨none,by simp [gO,hok]⟩
 | (k',x)::ents,es',h=>by
  simp only [putA] at h;split at h
  ·cases h
  ·rename_i heq;exact ⟨some x,by simp [gO,heq]⟩
  ·rename_i heq;cases hp:putA kd k v ents with
   | none=>rw [hp] at h;cases h
   | some q=>
    obtain ⟨r,hr⟩:=ZK hok hp;exact ⟨r,by simp [gO,heq,hr]⟩
theorem YR (W:World) {t:TypeId} {td:TypeDesc} (hu:P.underlying t=some td) {kv:Value} {es:List MapEntry} {r:Option (Nat×Value)} (h:Instr.findNow td kv es 0=some r):
  (Instr.findKey t kv es).run P W= .ok r W:=by
 simp [Instr.findKey,aX W hu,h]
theorem Ih {td:TypeDesc} {kd:Kd} (h:(td= .bool/\kd= .b)\/(∃k,td= .int k/\kd= .i)\/(td= .string/\kd= .s)):td= .bool\/(∃k,td= .int k)\/td= .string:=by
 rcases h with ⟨h,_⟩ | ⟨k,h,_⟩ | ⟨h,_⟩
 ·exact .inl h
 ·exact .inr (.inl ⟨k,h⟩)
 ·exact .inr (.inr h)
theorem R3 {k k':IntKind} {x y:Int} {v:Value} (h:VRH F w Z H (.agg [.int k x,.int k' y]) v):v= .agg #[.int k x,.int k' y]:=by
 obtain ⟨vs,rfl,h1⟩:=vL h;obtain ⟨l⟩:=vs;have hl:=h1.1
 match l,hl,h1 with
 | [a,b],_,h1=>
  obtain ⟨u,e1,_,e3⟩:=h1.get (i:=0) (x:= .int k x) rfl;obtain ⟨u',e1',_,e3'⟩:=h1.get (i:=1) (x:= .int k' y) rfl;simp at e1 e1';subst e1;subst e1';rw [cM e3,cM e3']
theorem Kw {x y:AV} {r:Bool} {a b:Value} (h:eqKd .p x y=some r) (ha:VRH F w Z H x a) (hb:VRH F w Z H y b):
  ∃k k' p q p' q',x= .agg [.int k p,.int k' q]/\y= .agg [.int k p',.int k' q']/\a= .agg #[.int k p,.int k' q]/\b= .agg #[.int k p',.int k' q']/\r=((p == p')&&(q == q')):=by
 unfold eqKd at h;split at h
 ·cases (by assumption:Kd.p=Kd.b)
 ·cases (by assumption:Kd.p=Kd.i)
 ·cases (by assumption:Kd.p=Kd.s)
 ·split at h
  ·rename_i hk;obtain ⟨rfl,rfl⟩:=hk;cases h;exact ⟨_,_,_,_,_,_,rfl,rfl,R3 ha,R3 hb,rfl⟩
  ·cases h
 ·cases h
theorem YK {t:TypeId} {f0 f1:Field} (hp:PairT P t f0 f1) {x y:AV} {r:Bool} {a b:Value} (h:eqKd .p x y=some r) (ha:VRH F w Z H x a) (hb:VRH F w Z H y b) (W:World):
  (Op.equal t a b).run P W= .ok r W/\(r=true->Instr.sameBits 10000 b a=true):=by
 have hg:bY P t=some true:=by simp [bY,hp.hu]
 obtain ⟨k,k',p,q,p',q',rfl,rfl,rfl,rfl,rfl⟩:=Kw h ha hb;obtain ⟨va,e1,pa⟩:=vL ha;obtain ⟨vb,e2,pb⟩:=vL hb;cases e1;cases e2;have main:=NA (F:=F) (w:=w) (Z:=Z) (H:=H) 20 9980 t _ hp.lv W _ _ [.int k p,.int k' q] [.int k p',.int k' q'] ((p == p')&&(q == q')) (.inl ⟨hg,_,rfl,pa⟩) (.inl ⟨hg,_,rfl,pb⟩) (by simp [eqLs,eqKd]);refine ⟨by simpa [Op.equal,Op.maxDepth] using main,?_⟩;intro e;simp only [QA,beq_iff_eq] at e;obtain ⟨rfl,rfl⟩:=e;simp [Instr.sameBits]
theorem XL {t:TypeId} {f0 f1:Field} (hp:PairT P t f0 f1) {k:AV} {kv:Value} (hk:VRH F w Z H k kv) (W:World):
  ∀(ents:List (AV×AV)) (es:List MapEntry) (i:Nat) (r:Option AV),ents.length=es.length->
   (∀(j:Nat) k x e,ents[j]? =some (k,x)->es[j]? =some e->VRD w (Imm F Z H) k e.key/\VRH F w Z H x e.val)->gO .p k ents=some r->
   (r=none/\(Instr.findAsking t kv es i).run P W= .ok none W)\/(∃x j e,r=some x/\(Instr.findAsking t kv es i).run P W= .ok (some (i+j,e.val)) W/\es[j]? =some e/\VRH F w Z H x e.val/\Instr.sameBits 10000 e.key kv=true/\
    ∀v,putA .p k v ents=some (ents.set j (k,v))/\delA .p k ents=some (ents.eraseIdx j))
 | [],[],i,r,_,_,h=>by
  simp only [gO] at h;split at h
  ·cases h
  ·cases h;exact .inl ⟨rfl,rfl⟩
 | (k',x)::ents,e::es,i,r,hl,hrel,h=>by
  obtain ⟨h1,h2⟩:=hrel 0 k' x e rfl rfl;simp only [gO] at h;split at h
  ·cases h
  ·rename_i heq;cases h;obtain ⟨s1,s2⟩:=YK hp heq hk (.d h1) W;refine .inr ⟨x,0,e,rfl,?_,rfl,h2,s2 rfl,?_⟩
   ·simp [Instr.findAsking,s1]
   ·intro v;simp [putA,delA,heq]
  ·rename_i heq;obtain ⟨s1,s2⟩:=YK hp heq hk (.d h1) W;rcases XL hp hk W ents es (i+1) r (by simpa using hl) (fun j k x e ha hb=>hrel (j+1) k x e (by simpa using ha) (by simpa using hb)) h with ⟨rfl,q⟩ | ⟨x,j,e',rfl,q1,q2,q3,q4,q5⟩
   ·exact .inl ⟨rfl,by simp [Instr.findAsking,s1,q]⟩
   ·refine .inr ⟨x,j+1,e',rfl,?_,by simpa using q2,q3,q4,?_⟩
    ·simp only [Instr.findAsking,Sem.run_bind,s1,Result.andThen_ok,eM,if_false,q1];congr 3;omega
    ·intro v;obtain ⟨p1,p2⟩:=q5 v;simp [putA,delA,heq,p1,p2]
 | [],_::_,_,_,hl,_,_=>by simp at hl
 | _::_,[],_,_,hl,_,_=>by simp at hl
theorem ZQ {t:TypeId} {kd:Kd} (hkt:wC P t=some kd) {k:AV} {kv:Value} (hk:VRH F w Z H k kv) (ents:List (AV×AV)) (es:List MapEntry) (r:Option AV) (hl:ents.length=es.length)
  (hrel:∀(j:Nat) k x e,ents[j]? =some (k,x)->es[j]? =some e->VRD w (Imm F Z H) k e.key/\VRH F w Z H x e.val) (h:gO kd k ents=some r) (W:World):
  (r=none/\(Instr.findKey t kv es).run P W= .ok none W)\/(∃x j e,r=some x/\(Instr.findKey t kv es).run P W= .ok (some (j,e.val)) W/\es[j]? =some e/\VRH F w Z H x e.val/\Instr.sameBits 10000 e.key kv=true/\
    ∀v,putA kd k v ents=some (ents.set j (k,v))/\delA kd k ents=some (ents.eraseIdx j)):=by
 rcases YP hkt with ⟨td,hut,htd⟩ | ⟨rfl,f0,f1,hp⟩
 ·rcases XR (F:=F) (w:=w) (Z:=Z) (H:=H) htd hk ents es 0 r hl hrel h with ⟨rfl,q⟩ | ⟨x,j,e,rfl,q1,q2,q3,q4,q5⟩
  ·exact .inl ⟨rfl,YR W hut q⟩
  ·rw [CU] at q1;exact .inr ⟨x,j,e,rfl,YR W hut q1,q2,q3,q4,q5⟩
 ·have hask:∀q,(Instr.findAsking t kv es 0).run P W= .ok q W->(Instr.findKey t kv es).run P W= .ok q W:=by
   intro q hq;cases es with
   | nil=>
    simp only [Instr.findAsking,Sem.run_pure] at hq;cases hq;simp [Instr.findKey,aX W hp.hu,Instr.findNow]
   | cons e es=>
    have:Instr.findNow (.struct #[f0,f1]) kv (e::es) 0=none:=by simp [Instr.findNow,Instr.sameNow]
    simp only [Instr.findKey,Sem.run_bind,aX W hp.hu,Result.andThen_ok,this];exact hq
  rcases XL (F:=F) (w:=w) (Z:=Z) (H:=H) hp hk W ents es 0 r hl hrel h with ⟨rfl,q⟩ | ⟨x,j,e,rfl,q1,q2,q3,q4,q5⟩
  ·exact .inl ⟨rfl,hask _ q⟩
  ·rw [CU] at q1;exact .inr ⟨x,j,e,rfl,hask _ q1,q2,q3,q4,q5⟩
theorem Em {t:TypeId} {f0 f1:Field} (hp:PairT P t f0 f1) {a c:IntKind} {x y:Int} {kv:Value} (hk:VRH F w Z H (.agg [.int a x,.int c y]) kv) (b:Bool) (n:Nat) (W:World):
  (Instr.checkKey b (n+2) t kv).run P W= .ok () W:=by
 obtain rfl:=R3 hk;obtain ⟨vs,e1,px⟩:=vL hk;cases e1;obtain ⟨k0,u0⟩:=hp.i0;obtain ⟨k1,u1⟩:=hp.i1;obtain ⟨v0,p0,_⟩:=EZ (P:=P) (t:=f0.type) (off:=0) (g:=false) (by simp [bY,u0]) hp.s0 px (by simp) (fun _=>rfl) W;obtain ⟨v1,p1,_⟩:=EZ (P:=P) (t:=f1.type) (off:=1) (g:=false) (by simp [bY,u1]) hp.s1 px (by simp) (fun _=>rfl) W;have c0:=fun v=>U0 (P:=P) W b n u0 (.inr (.inl ⟨k0,rfl⟩)) v
 have c1:=fun v=>U0 (P:=P) W b n u1 (.inr (.inl ⟨k1,rfl⟩)) v
 rw [Instr.checkKey]
 by_cases n0 : f0.name = "_" <;> by_cases n1 : f1.name = "_" <;> simp [aX W hp.hu, n0, n1, hp.o0, hp.o1, p0, p1, c0, c1]
theorem Z5 {t:TypeId} {kd:Kd} (hkt:wC P t=some kd) {k:AV} {kv:Value} (hk:VRH F w Z H k kv) (hkd:kd= .p->∃a b c d,k= .agg [.int a b,.int c d]) (b:Bool) (W:World):
  (Instr.checkKey b 10000 t kv).run P W= .ok () W:=by
 rcases YP hkt with ⟨td,hut,htd⟩ | ⟨rfl,f0,f1,hp⟩
 ·exact U0 W b 9999 hut (Ih htd) kv
 ·obtain ⟨a,n,c,m,rfl⟩:=hkd rfl;exact Em hp hk b 9998 W
theorem ZD {k:AV} (h:kdOk .p k=true):∃a b c d,k= .agg [.int a b,.int c d]:=by
 unfold kdOk at h;split at h
 ·cases (by assumption:Kd.p=Kd.b)
 ·cases (by assumption:Kd.p=Kd.i)
 ·cases (by assumption:Kd.p=Kd.s)
 ·exact ⟨_,_,_,_,rfl⟩
 ·cases h
theorem Fd {k:AV} {ents:List (AV×AV)} {r:Option AV} (h:gO .p k ents=some r):∃a b c d,k= .agg [.int a b,.int c d]:=by
 match ents,h with
 | [],h=>
  simp only [gO,true_and] at h;split at h
  ·cases h
  ·rename_i hne;exact ZD (by simpa using hne)
 | (k',x)::ents,h=>
  simp only [gO] at h;have hs:∃q,eqKd .p k k'=some q:=by
   split at h
   ·cases h
   ·exact ⟨_,by assumption⟩
   ·exact ⟨_,by assumption⟩
  obtain ⟨q,hq⟩:=hs;unfold eqKd at hq;split at hq
  ·cases (by assumption:Kd.p=Kd.b)
  ·cases (by assumption:Kd.p=Kd.i)
  ·cases (by assumption:Kd.p=Kd.s)
  ·exact ⟨_,_,_,_,rfl⟩
  ·cases hq
theorem Y9 {t:TypeId} {z:AV} (h:E5 P t=some z):∃v,(∀W,(zeroValue t).run P W= .ok v W)/\VRH F w Z H z v:=by
  unfold E5 at h;split at h
  · rename_i zs h1 h2
    split at h
    · rename_i hsh
      cases h;obtain ⟨i,v,i1,i2,i3⟩:=N9 h2;rw [i1] at hsh;simp only [Option.bind_some,i2] at hsh;obtain ⟨l1,l2,l3⟩:=N4 (F:=F) (w:=w) (Z:=Z) (H:=H) i3;cases v<;>first
        | (rename_i cs
           exact ⟨.agg cs,fun W=>U7 W i1 i2,.agg zs cs (by simpa [Value.cells] using l1) (fun u hu=>l2 u (by simpa [Value.cells] using hu)) (fun j x u hx hu=>l3 j x u hx (by simpa [Value.cells] using hu))⟩)
        | cases hsh
    · cases h
  · rename_i z0 h1 h2
    split at h
    · rename_i hsh
      cases h;obtain ⟨i,v,i1,i2,i3⟩:=N9 h2;rw [i1] at hsh;simp only [Option.bind_some,i2] at hsh;obtain ⟨l1,l2,l3⟩:=N4 (F:=F) (w:=w) (Z:=Z) (H:=H) i3;refine ⟨v,fun W=>U7 W i1 i2,?_⟩;cases v<;>first
        | (cases hsh;done)
        | exact l3 0 z _ rfl rfl
    · cases h
  · cases h
theorem Iq {nx:Nat} (hfr:Free H nx) (hr:HR F B0 w Z H) {t k e:TypeId} {r:Option Value} (hu:P.underlying t=some (.map k e)) (hres:r=none\/∃q n,r=some (.int q n)):
  ∃v w',(Instr.makeMap t r).run P w= .ok v w'/\Good F B0 w Z H (.map nx) (H.put nx (.map [])) v w':=by
 have hp:∀b o,(some (w.heap.size,0):Option (Nat×Nat))=some (b,o)->w.heap.size<=b:=by rintro b o ⟨⟩;exact Qb _
 have ht:=CO hfr hr (Ext.alloc (Mut Z H) w (.map #[] 0)) (.map []) _ hp;have hh:=E1 hfr hr (Ext.alloc (Mut Z H) w (.map #[] 0)) (.map []) _ hp (fun b hb=>DG w _ hb) ⟨w.heap.size,0,#[],0,cU _ _ _,hr.base,vB w _,rfl,by simp⟩;refine ⟨.map (some w.heap.size),w.alloc (.map #[] 0),?_,_,ht,hh,.l ⟨vC hr hfr (by simp),⟨_,rfl⟩,fun _ _=>⟨_,0,cU _ _ _,rfl⟩⟩⟩;rcases hres with rfl | ⟨q,n,rfl⟩
 ·simp [Instr.makeMap]
 ·simp [Instr.makeMap,aX w hu,Go.asInt,CA]
theorem Ez (hr:HR F B0 w Z H) {x:AV} {v:Value} {ents:List (AV×AV)} (hx:VRH F w Z H x v) (h:R6 H x=some ents):
  (v= .map none/\ents=[])\/∃b es ck,v= .map (some b)/\w.heap[b]? =some (.map es ck)/\MapR F w Z H ents es.toList:=by
 unfold R6 at h;split at h
 ·cases h;exact .inl ⟨Q7 hx,rfl⟩
 ·split at h
  ·rename_i id es hget;cases h;obtain ⟨_,_,h3⟩:=VF hx;obtain ⟨b,o,e1,rfl⟩:=h3 _ hget;obtain ⟨b',o',es',ck,m1,m2,m3,m4⟩:=hr.obj _ _ hget;rw [e1] at m1;cases m1;exact .inr ⟨b,es',ck,rfl,m3,m4⟩
  ·cases h
 ·cases h
theorem Hc (hr:HR F B0 w Z H) {t kt et:TypeId} {kd:Kd} {z:AV} {ok:Bool} {x k:AV} {xv kv:Value} {ents:List (AV×AV)} {r:Option AV}
  (hu:P.underlying t=some (.map kt et)) (hk:wC P kt=some kd) (hz:E5 P et=some z) (hx:VRH F w Z H x xv) (hkv:VRH F w Z H k kv)
  (he:R6 H x=some ents) (hf:gO kd k ents=some r):
  ∃v,(Instr.lookup t xv kv ok).run P w= .ok v w/\VRH F w Z H (if ok then .tup [r.getD z,.bool r.isSome] else r.getD z) v:=by
 have hck:=fun b=>Z5 hk hkv (fun e=>by subst e;exact Fd hf) b w
 obtain ⟨zv,hz1,hz2⟩:=Y9 (F:=F) (w:=w) (Z:=Z) (H:=H) hz;have fin:∀(val:Value) (b:Bool) (y:AV),VRH F w Z H y val->VRH F w Z H (if ok then .tup [y,.bool b] else y) (if ok then .tuple #[val,.bool b] else val):=by
  intro val b y hy;cases ok
  ·exact hy
  ·refine .tup _ _ rfl ?_;intro i x u hx hu
   match i with
   | 0=>simp at hx hu;subst hx;subst hu;exact hy
   | 1=>simp at hx hu;subst hx;subst hu;exact .d (.bool b)
   | i+2=>simp at hx
 have main:∀(es:List MapEntry),MapR F w Z H ents es->∃val b y,r.getD z=y/\r.isSome=b/\VRH F w Z H y val/\
   (∃q,(Instr.findKey kt kv es).run P w= .ok q w/\((q=none/\val=zv/\b=false)\/∃j,q=some (j,val)/\b=true)):=by
  intro es hm;rcases ZQ hk hkv ents es r hm.1 hm.2 hf w with ⟨rfl,q⟩ | ⟨y,j,e,rfl,q1,q2,q3,_⟩
  ·exact ⟨zv,false,z,rfl,rfl,hz2,none,q,.inl ⟨rfl,rfl,rfl⟩⟩
  ·exact ⟨e.val,true,y,rfl,rfl,q3,_,q1,.inr ⟨_,rfl,rfl⟩⟩
 rcases Ez hr hx he with ⟨rfl,rfl⟩ | ⟨b,es,ck,rfl,hb,hm⟩
 ·obtain ⟨val,bb,y,e1,e2,hy,q,hq,hcase⟩:=main [] ⟨rfl,by simp⟩;refine ⟨if ok then .tuple #[val,.bool bb] else val,?_,by rw [e1,e2];exact fin val bb y hy⟩;rcases hcase with ⟨rfl,rfl,rfl⟩ | ⟨j,rfl,rfl⟩
  ·simp [Instr.lookup,aX w hu,hck true,hq,hz1]
  ·simp [Instr.lookup,aX w hu,hck true,hq]
 ·obtain ⟨val,bb,y,e1,e2,hy,q,hq,hcase⟩:=main es.toList hm;refine ⟨if ok then .tuple #[val,.bool bb] else val,?_,by rw [e1,e2];exact fin val bb y hy⟩;rcases hcase with ⟨rfl,rfl,rfl⟩ | ⟨j,rfl,rfl⟩
  ·simp [Instr.lookup,aX w hu,NK w hb,hck,hq,hz1]
  ·simp [Instr.lookup,aX w hu,NK w hb,hck,hq]
theorem ZI (hr:HR F B0 w Z H) {id b o:Nat} {ents ents':List (AV×AV)} {es es':Array MapEntry} {ck ck':Nat} (hget:H.get id=some (.map ents)) (hb:Z id=some (b,o))
  (hblk:w.heap[b]? =some (.map es ck)) (hm:MapR F w Z H ents' es'.toList):
  Tr w Z H { w with heap:=w.heap.setIfInBounds b (.map es' ck') } Z (H.set id (.map ents'))/\HR F B0 { w with heap:=w.heap.setIfInBounds b (.map es' ck') } Z (H.set id (.map ents')):=by
 have hbl:=f5 hblk;have hB0:=((hr.obj id _ hget).lt hb).2;have hheap:∀k,(w.heap.setIfInBounds b (.map es' ck'))[k]? =if k=b then some (.map es' ck') else w.heap[k]? :=by
  intro k;rw [Array.getElem?_setIfInBounds];by_cases h:b=k
  ·subst h;simp [hbl]
  ·have:¬k=b:=fun e=>h e.symm
   simp [h,this]
 have he:Ext (Mut Z H) w { w with heap:=w.heap.setIfInBounds b (.map es' ck') }:=by
  refine ⟨rfl,rfl,rfl,by simp,?_⟩;intro k hk;by_cases e:k=b
  ·subst e;exact .inr (.inr ⟨⟨id,_,o,hget,hb,trivial⟩,es,ck,es',ck',hblk,by simp only [hheap,if_true]⟩)
  ·exact .inl (by simp only [hheap,a8 e])
 have ht:=RA hr hget hb he (ob':= .map ents') (fun _ h=>h) (.inr (.inl ⟨_,_,rfl,rfl⟩));refine ⟨ht,R9 hr hget hb ht (fun k hk hkb=>by simp only [hheap,a8 hkb]) ⟨b,o,es',ck',hb,hB0,by simp only [hheap,if_true],hm.1,?_⟩⟩;intro i k x e h1 h2;obtain ⟨q1,q2⟩:=hm.2 i k x e h1 h2;exact ⟨ht.vrd q1,ht.vr q2⟩
theorem Ii {kd:Kd} {k:AV} {v:Value} (h:kdOk kd k=true) (hk:VRH F w Z H k v):VRD w (Imm F Z H) k v:=by
 unfold kdOk at h;split at h
 ·rw [iR hk];exact .bool _
 ·rw [cM hk];exact .int _ _
 ·rw [gP hk];exact .str _
 ·rw [R3 hk];refine .agg _ _ rfl (fun v hv=>?_) ?_
  ·simp at hv;rcases hv with rfl | rfl<;>rfl
  ·intro i x u hx hu
   match i with
   | 0=>simp at hx hu;subst hx;subst hu;exact .int _ _
   | 1=>simp at hx hu;subst hx;subst hu;exact .int _ _
   | i+2=>simp at hx
 ·cases h
theorem Hd (hr:HR F B0 w Z H) {t kt et:TypeId} {kd:Kd} {id:Nat} {k vv:AV} {xv kv v0:Value} {ents ents':List (AV×AV)}
  (hu:P.underlying t=some (.map kt et)) (hk:wC P kt=some kd) (hx:VRH F w Z H (.map id) xv) (hkv:VRH F w Z H k kv) (hvv:VRH F w Z H vv v0) (hok:kdOk kd k=true)
  (hget:H.get id=some (.map ents)) (hp:putA kd k vv ents=some ents'):
  ∃w',(Instr.mapUpdate t xv kv v0).run P w= .ok () w'/\∃Z',Tr w Z H w' Z' (H.set id (.map ents'))/\HR F B0 w' Z' (H.set id (.map ents')):=by
 have hck:=fun b=>Z5 hk hkv (fun e=>by subst e;exact ZD hok) b w
 have hkd:=Ii hok hkv;obtain ⟨_,_,h3⟩:=VF hx;obtain ⟨b,o,hb,rfl⟩:=h3 _ hget;obtain ⟨b',o',es,ck,m1,m2,m3,m4⟩:=hr.obj _ _ hget;rw [hb] at m1;cases m1;obtain ⟨r,hf⟩:=ZK hok hp;rcases ZQ hk hkv ents es.toList r m4.1 m4.2 hf w with ⟨rfl,q⟩ | ⟨y,j,e,rfl,q1,q2,q3,q4,q5⟩
 ·obtain ⟨p1,_⟩:=XM (v:=vv) hf;rw [p1] at hp;cases hp;obtain ⟨g1,g2⟩:=ZI (es':=es.push { key:=kv,val:=v0,born:=ck }) (ck':=ck+1) (ents':=ents++[(k,vv)]) hr hget hb m3 (by
   refine ⟨by have:=m4.1;simp at this ⊢;omega,?_⟩;intro i k2 x2 e2 h1 h2;rw [Array.toList_push] at h2;have hl:=m4.1;rw [List.getElem?_append] at h1 h2;rw [<- hl] at h2;split at h1
   ·rename_i hi;rw [a9 hi] at h2;exact m4.2 i k2 x2 e2 h1 h2
   ·rename_i hi;rw [a8 hi] at h2;cases hii:i - ents.length with
    | zero=>
     rw [hii] at h1 h2;simp at h1 h2;obtain ⟨rfl,rfl⟩:=h1;subst h2;exact ⟨hkd,hvv⟩
    | succ n=>rw [hii] at h1;simp at h1)
  refine ⟨_,?_,Z,g1,g2⟩;simp only [Instr.mapUpdate,Sem.run_bind,aX w hu,Result.andThen_ok,NK w m3,hck,q,G' w m3]
 ·obtain ⟨p1,_⟩:=q5 vv;rw [p1] at hp;cases hp;have hj:es[j]? =some e:=by simpa using q2
  obtain ⟨g1,g2⟩:=ZI (es':=es.modify j fun x=>{ x with key:=kv,val:=v0 }) (ck':=ck) (ents':=ents.set j (k,vv)) hr hget hb m3 (by
   refine ⟨by have:=m4.1;simp at this ⊢;omega,?_⟩;intro i k2 x2 e2 h1 h2;rw [Array.getElem?_toList,Array.getElem?_modify] at h2;rw [List.getElem?_set] at h1;by_cases hi:j=i
   ·subst hi;rw [a9 rfl] at h1 h2;split at h1
    ·cases h1;rw [hj] at h2;simp at h2;subst h2;exact ⟨hkd,hvv⟩
    ·cases h1
   ·rw [a8 hi] at h1 h2;exact m4.2 i k2 x2 e2 h1 (by simpa using h2))
  refine ⟨_,?_,Z,g1,g2⟩;have hks:(Instr.keyThatStays (((es[j]?).map (·.key)).getD kv) kv).run P w= .ok kv w:=by
   simp [Instr.keyThatStays,hj,q4]
  simp only [Instr.mapUpdate,Sem.run_bind,aX w hu,Result.andThen_ok,NK w m3,hck,q1,hks,G' w m3]
end
end Go.Av
namespace Go.Av
variable {nx:Nat}
section
variable {F:Nat->Nat->Prop} {B0:Nat} {w:World} {Z:Beta} {H:AH} {P:Program} {A:Ann} {fn:FuncId} {e:Env} {a:Act}
def Does (P:Program) (a:Act) (o:Oper) (w:World) (v:Value) (w':World):Prop:=
 (execOp a.eval o).run P w= .ok (.value v) w'\/((execOp a.eval o).run P w= .ok .skip w'/\v=undef)
def OpOk (P:Program) (a:Act) (o:Oper) (F:Nat->Nat->Prop) (B0:Nat) (w:World) (Z:Beta) (H:AH) (x:AV) (H':AH):Prop:=
 ∃v w',Does P a o w v w'/\Good F B0 w Z H x H' v w'
theorem g9 {o:Oper} {x:AV} {v:Value} (hr:HR F B0 w Z H) (h:(execOp a.eval o).run P w= .ok (.value v) w) (hx:VRH F w Z H x v):OpOk P a o F B0 w Z H x H:=
 ⟨v,w,.inl h,.same hr hx⟩
theorem jO {o:Oper} {x:AV} {H':AH} {s:Sem Value} (h:execOp a.eval o=(do pure (.value (<- s)))) (hs:∃v w',s.run P w= .ok v w'/\Good F B0 w Z H x H' v w'):OpOk P a o F B0 w Z H x H':=by
 obtain ⟨v,w',h1,h2⟩:=hs;exact ⟨v,w',.inl (by rw [h];simp [h1]),h2⟩
theorem eO {o:Oper} {x:AV} {H':AH} {s:Sem Value} (hr:HR F B0 w Z H) (h:execOp a.eval o=(do pure (.value (<- s)))) (hs:∃v,s.run P w= .ok v w/\VRH F w Z H x v/\H'=H):OpOk P a o F B0 w Z H x H':=by
 obtain ⟨v,h1,h2,rfl⟩:=hs;exact g9 hr (by rw [h];simp [h1]) h2
theorem map_some {U I:Type} {f:U->I} {o:Option U} {y:I} (h:o.map f=some y):∃x,o=some x/\f x=y:=by
 cases o with
 | none=>cases h
 | some x=>exact ⟨x,rfl,by simpa using h⟩
theorem aO {P:Program} {t:TypeId} {x:Operand} {ax:AX} (h:cX P t x=some ax) (he:EnvR F w Z H e a.tmps) {y:AV} (hy:evX e ax=some y):VRH F w Z H y (a.eval x):=Gq h hy he
theorem Ad {P:Program} {t:TypeId} (he:EnvR F w Z H e a.tmps) {xs:List Operand} {axs:List AX} {ys:List AV} (h:mapO (cX P t) xs=some axs) (hy:mapO (evX e) axs=some ys):
  ys.length=xs.length/\∀(i:Nat) y x,ys[i]? =some y->xs[i]? =some x->VRH F w Z H y (a.eval x):=by
 refine ⟨(cN hy).symm.trans (cN h).symm,?_⟩;intro i y x h1 h2;obtain ⟨ax,k1,k2⟩:=dC hy h1;obtain ⟨x',k3,k4⟩:=dC h k1;rw [h2] at k3;cases k3;exact aO k4 he k2
theorem V1 {P:Program} (he:EnvR F w Z H e a.tmps):∀{ts:List TypeId} {xs:List Operand} {axs:List AX} {ys:List AV},cXs P ts xs=some axs->mapO (evX e) axs=some ys->
  ys.length=xs.length/\∀(i:Nat) y x,ys[i]? =some y->xs[i]? =some x->VRH F w Z H y (a.eval x)
 | _,[],axs,ys,h,hy=>by
  simp only [cXs] at h;cases h;cases hy;exact ⟨rfl,by simp⟩
 | [],_::_,_,_,h,_=>by cases h
 | t::ts,x::xs,axs,ys,h,hy=>by
  simp only [cXs] at h;cases h1:cX P t x with
  | none=>rw [h1] at h;cases h
  | some ax=>
   cases h2:cXs P ts xs with
   | none=>rw [h1,h2] at h;cases h
   | some r=>
    rw [h1,h2] at h;cases h;simp only [mapO] at hy;split at hy
    ·cases hy
    ·rename_i y hy1;split at hy
     ·cases hy
     ·rename_i ys' hy2;cases hy;obtain ⟨l1,l2⟩:=V1 he h2 hy2;refine ⟨by simp [l1],?_⟩;intro i u v hu hv;cases i with
      | zero=>simp at hu hv;subst hu;subst hv;exact aO h1 he hy1
      | succ i=>simp at hu hv;exact l2 i u v hu hv
theorem lS {t:TypeId} {x:Option Operand} {ax:Option AX} (h:oX P t x=some ax) (he:EnvR F w Z H e a.tmps):BX F w Z H e ax (x.map a.eval):=by
 unfold oX at h;split at h
 ·cases h;trivial
 ·rename_i x;obtain ⟨ax',h1,rfl⟩:=map_some h;intro y hy;exact aO h1 he hy
theorem UY {o:Oper} {x:Operand} {t:TypeId} {ax:AX} {y:AV} {H':AH} (hr:HR F B0 w Z H) (he:EnvR F w Z H e a.tmps)
  (ho:execOp a.eval o=pure (.value (a.eval x))) (hx:cX P t x=some ax) (hev:evOp e nx H (.mov ax)=some (y,H')):OpOk P a o F B0 w Z H y H':=by
 simp only [evOp] at hev;obtain ⟨y',h1,h2⟩:=map_some hev;cases h2;exact g9 hr (by rw [ho];rfl) (aO hx he h1)
theorem Ga {o:Oper} {esz:Nat} {y:AV} {H':AH} (hfr:Free H nx) (hr:HR F B0 w Z H)
  (ho:execOp a.eval o=pure (.value (.slice none 0 0))) (hev:evOp e nx H (.nilapp esz)=some (y,H')):OpOk P a o F B0 w Z H y H':=by
 simp only [evOp] at hev;cases hev;have ht:=CO hfr hr (Ext.refl _ w) (.tok esz 0) none (by simp);have hn:=E1 hfr hr (Ext.refl _ w) (.tok esz 0) none (by simp) (fun _ _=>rfl) (by intro b o h;rw [cU] at h;cases h);refine ⟨.slice none 0 0,w,.inl (by rw [ho];rfl),_,ht,hn,.l ⟨vC hr hfr (by simp),.slice0 _ _ _,?_⟩⟩;intro z' f hf;rw [h9 hr hfr,a9 rfl] at hf;cases hf;refine ⟨by simp,fun _=>?_⟩;rw [cU];exact ⟨_,_,rfl⟩
theorem Jf {o:Oper} {c x y:Operand} {t:TypeId} {ac ax ay:AX} {r:AV} {H':AH} (hr:HR F B0 w Z H) (he:EnvR F w Z H e a.tmps)
  (ho:execOp a.eval o=(do pure (.value (if <- asBool (a.eval c) then a.eval x else a.eval y)))) (hc:cX P t c=some ac) (hx:cX P t x=some ax) (hy:cX P t y=some ay)
  (hev:evOp e nx H (.pick ac ax ay)=some (r,H')):OpOk P a o F B0 w Z H r H':=by
 simp only [evOp] at hev;split at hev
 ·rename_i hcv;obtain ⟨r',h1,h2⟩:=map_some hev;cases h2;have:=iR (aO hc he hcv);exact g9 hr (by rw [ho,this];simp [asBool]) (aO hx he h1)
 ·rename_i hcv;obtain ⟨r',h1,h2⟩:=map_some hev;cases h2;have:=iR (aO hc he hcv);exact g9 hr (by rw [ho,this];simp [asBool]) (aO hy he h1)
 ·cases hev
theorem X' {o:Oper} {op:BinOp} {t u:TypeId} {x y:Operand} {ax ay:AX} {r:AV} {H':AH} (hr:HR F B0 w Z H) (he:EnvR F w Z H e a.tmps)
  (ho:o.op= .binOp op t x y u) (hx:cX P t x=some ax) (hy:cX P u y=some ay)
  (hev:evOp e nx H (.bin op ax ay)=some (r,H')):OpOk P a o F B0 w Z H r H':=by
 simp only [evOp] at hev;split at hev
 ·rename_i xv yv hxv hyv;obtain ⟨r',h1,h2⟩:=map_some hev;cases h2;obtain ⟨v,k1,k2,k3,k4⟩:=Mg (P:=P) (t:=t) (aO hx he hxv) (aO hy he hyv) h1;refine g9 hr ?_ k2;unfold execOp;rw [ho];simp [QZ w op t x y (a.eval x) (a.eval y) (fun xs ys e1 _=>absurd e1 (k3 xs)) (.inl k4),k1]
 ·cases hev
theorem Le {o:Oper} {op:BinOp} {t u:TypeId} {x y:Operand} {ax ay:AX} {r:AV} {H':AH} {ks:List Kd} {g:Bool} (hr:HR F B0 w Z H) (he:EnvR F w Z H e a.tmps)
  (ho:o.op= .binOp op t x y u) (hop:op= .eql\/op= .neq) (hl:f6 P 20 t=some ks) (hg:bY P t=some g) (hx:cX P t x=some ax) (hy:cX P u y=some ay)
  (hev:evOp e nx H (.eqs (op == .neq) g ks ax ay)=some (r,H')):OpOk P a o F B0 w Z H r H':=by
 simp only [evOp] at hev;split at hev
 ·rename_i xv yv hxv hyv;split at hev
  ·rename_i b hb;cases hev;obtain ⟨k1,k2,k3,k4⟩:=Ml (P:=P) hl hg (aO hx he hxv) (aO hy he hyv) hb;refine g9 hr ?_ (.d (.bool _));unfold execOp;rw [ho];simp only [Sem.run_bind,QZ w op t x y (a.eval x) (a.eval y) (fun xs ys e1 _=>k3 xs e1) (.inl k4),Result.andThen_ok];rcases hop with rfl | rfl
   ·rw [k1];rfl
   ·rw [k2];rfl
  ·cases hev
 ·cases hev
theorem Ld {o:Oper} {op:BinOp} {t u el:TypeId} {x y:Operand} {ax ay:AX} {r:AV} {H':AH} (hr:HR F B0 w Z H) (he:EnvR F w Z H e a.tmps)
  (ho:o.op= .binOp op t x y u) (hop:op= .eql\/op= .neq) (hu:P.underlying t=some (.pointer el)) (hx:cX P t x=some ax) (hy:cX P u y=some ay)
  (hev:evOp e nx H (.eqn (op == .neq) ax ay)=some (r,H')):OpOk P a o F B0 w Z H r H':=by
 simp only [evOp] at hev;split at hev
 ·rename_i xv yv hxv hyv;split at hev
  ·rename_i b hb;cases hev;obtain ⟨k1,k2,k3,k4⟩:=Mj (P:=P) hu (aO hx he hxv) (aO hy he hyv) hb;refine g9 hr ?_ (.d (.bool _));unfold execOp;rw [ho];simp only [Sem.run_bind,QZ w op t x y (a.eval x) (a.eval y) (fun xs ys e1 _=>absurd e1 (k3 xs)) (.inl k4),Result.andThen_ok];rcases hop with rfl | rfl
   ·rw [k1];rfl
   ·rw [k2];rfl
  ·cases hev
 ·cases hev
theorem Y' {o:Oper} {op:BinOp} {t u:TypeId} {td:TypeDesc} {x:Operand} {c:Value} {ax ay:AX} {r:AV} {H':AH} (hr:HR F B0 w Z H) (he:EnvR F w Z H e a.tmps)
  (ho:o.op= .binOp op t x (.const c) u) (hop:op= .eql\/op= .neq) (hu:P.underlying t=some td) (hd:((∃ms,td= .interface ms)/\c= .nilIface)\/((∃ps rs v,td= .func ps rs v)/\c= .nilFunc)) (hx:cX P t x=some ax) (hy:cX P u (.const c)=some ay)
  (hev:evOp e nx H (.eqs (op == .neq) false [] ax ay)=some (r,H')):OpOk P a o F B0 w Z H r H':=by
 simp only [evOp] at hev;split at hev
 ·rename_i xv yv hxv hyv;split at hev
  ·rename_i b hb;cases hev;have hyv':((∃ms,td= .interface ms)/\yv= .niliface)\/((∃ps rs v,td= .func ps rs v)/\yv= .nilfunc):=by
    rcases hd with ⟨h1,rfl⟩ | ⟨h1,rfl⟩
    ·left;refine ⟨h1,?_⟩;have:ay= .c .niliface:=by simpa [cX,cVal] using hy.symm
     subst this;simpa [evX] using hyv.symm
    ·right;refine ⟨h1,?_⟩;have:ay= .c .nilfunc:=by simpa [cX,cVal] using hy.symm
     subst this;simpa [evX] using hyv.symm
   obtain ⟨k1,k2,k3,k4⟩:=Mi (P:=P) hu hyv' (aO hx he hxv) (aO hy he hyv) hb;refine g9 hr ?_ (.d (.bool _));unfold execOp;rw [ho];simp only [Sem.run_bind];rw [Dl w op t x c _ _ k4 k3];simp only [Result.andThen_ok];rcases hop with rfl | rfl
   ·rw [k1];rfl
   ·rw [k2];rfl
  ·cases hev
 ·cases hev
end
end Go.Av
namespace Go.Av
variable {nx:Nat}
section
variable {F:Nat->Nat->Prop} {B0:Nat} {w:World} {Z:Beta} {H:AH} {P:Program} {A:Ann} {fn:FuncId} {e:Env} {a:Act}
theorem Hi {o:Oper} {t:TypeId} {z:List AV} {r:AV} {H':AH} (hfr:Free H nx) (hr:HR F B0 w Z H) (ho:o.op= .alloc t) (hz:eP P t=some z)
  (hev:evOp e nx H (.alloc z)=some (r,H')):OpOk P a o F B0 w Z H r H':=by
 simp only [evOp] at hev;cases hev;exact jO (s:=Instr.alloc t true (.tuple #[])) (by unfold execOp;rw [ho]) (Ik hfr hr hz)
theorem Lb {o:Oper} {t:TypeId} {x:Operand} {ax:AX} {r:AV} {H':AH} (hfr:Free H nx) (hr:HR F B0 w Z H) (he:EnvR F w Z H e a.tmps) (ho:o.op= .box t x) (hx:cX P t x=some ax)
  (hev:evOp e nx H (.box ax)=some (r,H')):OpOk P a o F B0 w Z H r H':=by
 simp only [evOp] at hev;split at hev
 ·rename_i xv hxv;split at hev
  ·rename_i cs hcs;cases hev;exact jO (s:=Instr.box t (a.eval x)) (by unfold execOp;rw [ho]) (Mh hfr hr hcs (aO hx he hxv))
  ·cases hev
 ·cases hev
theorem Iy {o:Oper} {t:TypeId} {x:Operand} {ax:AX} {r:AV} {H':AH} (hr:HR F B0 w Z H) (he:EnvR F w Z H e a.tmps) (ho:o.op= .box t x) (hx:cX P t x=some ax)
  (hev:evOp e nx H (.boxi ax)=some (r,H')):OpOk P a o F B0 w Z H r H':=by
 simp only [evOp] at hev;split at hev
 ·rename_i xv hxv;split at hev
  ·rename_i cs hcs;split at hev
   ·cases hev
   ·rename_i cs' hcs';split at hev
    ·cases hev
    ·rename_i hb;cases hev;have hp:=EU hcs (aO hx he hxv);refine jO (s:=Instr.box t (a.eval x)) (by unfold execOp;rw [ho]) ⟨.pointer (some { block:=w.heap.size,off:=0 }),w.alloc (.cells (a.eval x).cells t),by simp [Instr.box,newVar,newRow],?_⟩;have hR:RowR F w Z H cs.length [cs] 0 (a.eval x).cells:=by
      refine ⟨by simp,by have:=hp.1;simp at this ⊢;omega,?_⟩;intro i j e x he hx;cases i with
      | zero=>
       simp at he;subst he;obtain ⟨u,q1,q2,q3⟩:=hp.get hx;exact ⟨u,by simpa using q1,q2,q3⟩
      | succ i=>simp at he
     obtain ⟨⟨f1,f2⟩,_⟩:=U3 (es':=[cs']) hR (by simpa using hb) (by simp only [mapO,hcs']);have hl:cs'.length=cs.length:=(cN hcs').symm;have ht:Tr w Z H (w.alloc (.cells (a.eval x).cells t)) Z H:=NH (F:=F) (B0:=B0) _;refine ⟨Z,ht,hr.alloc _,.d ?_⟩;have:=VRD.iptr (w:=w.alloc (.cells (a.eval x).cells t)) (imm:=Imm F Z H) cs'.length [cs'] 0 0 w.heap.size 0 (fun i j=>((a.eval x).cells[i*cs.length+j]?).getD default) (fun e he=>by rw [List.mem_singleton] at he;rw [he]) ?_ ?_
     ·simpa using this
     ·intro i j e y hi hj;obtain ⟨v,k1,k2,k3⟩:=f2 i j e y hi hj;have hi0:i=0:=by
       cases i with
       | zero=>rfl
       | succ i=>simp at hi
      subst hi0;simp only [Nat.zero_mul,CU] at k1 ⊢;refine ⟨⟨fun hm=>?_,fun hf=>?_⟩,?_,?_⟩
      ·have:=(hr.mut_lt hm).1;omega
      ·have:=hr.far _ _ hf;have:=hr.base;omega
      ·rw [k1];exact cell_iff.2 ⟨_,t,(0,0),vB w _,k1⟩
      ·rw [k1];exact k2
     ·intro i j e y hi hj;obtain ⟨v,k1,k2,k3⟩:=f2 i j e y hi hj;rw [k1];exact ht.vrd k3
  ·cases hev
 ·cases hev
theorem Hn {o:Oper} {t:TypeId} {x v:Operand} {ax av:AX} {n:Nat} {r:AV} {H':AH} (hr:HR F B0 w Z H) (he:EnvR F w Z H e a.tmps) (ho:o.op= .store t x v)
  (hn:szOf P t=some n) (hx:cX P t x=some ax) (hv:cX P t v=some av)
  (hev:evOp e nx H (.store n ax av)=some (r,H')):OpOk P a o F B0 w Z H r H':=by
 simp only [evOp] at hev;split at hev
 ·rename_i id esz i off vv hxv hvv;split at hev
  ·cases hev
  ·rename_i vs hvs;split at hev
   ·rename_i hlen;split at hev
    ·rename_i esz' es hget;split at hev
     ·rename_i hz;subst hz;split at hev
      ·rename_i cs hcs;split at hev
       ·rename_i cs' hput;cases hev;obtain ⟨w',h1,Z',h2,h3⟩:=It (P:=P) hr hn (aO hx he hxv) (aO hv he hvv) hvs hlen hget hcs hput;refine ⟨undef,w',.inr ⟨?_,rfl⟩,Z',h2,h3,.d (.tup [] #[] rfl (by simp))⟩;unfold execOp;rw [ho];simp [h1]
       ·cases hev
      ·cases hev
     ·cases hev
    ·cases hev
   ·cases hev
 ·cases hev
theorem Bk {o:Oper} {t:TypeId} {fs:Array Field} {z:List AV} {parts:Array (Nat×Operand)} {aps:List (Nat×Nat×AX)} {r:AV} {H':AH} (hr:HR F B0 w Z H) (he:EnvR F w Z H e a.tmps)
  (ho:o.op= .build t parts) (hu:P.underlying t=some (.struct fs)) (hz:eP P t=some z)
  (hp:mapO (fun p=>match fs[p.1]? with
    | some f=>match szOf P f.type,cX P f.type p.2 with
     | some n,some a=>some (f.offset,n,a)
     | _,_=>none
    | none=>none) parts.toList=some aps)
  (hev:evOp e nx H (.build z aps)=some (r,H')):OpOk P a o F B0 w Z H r H':=by
 simp only [evOp] at hev;split at hev
 ·cases hev
 ·rename_i ps hps;split at hev
  ·cases hev
  ·rename_i cs hcs;cases hev;refine eO (s:=Instr.build t (parts.map fun (i,x)=>(i,a.eval x))) hr (by unfold execOp;rw [ho]) ?_;obtain ⟨v,h1,h2⟩:=Bo (P:=P) (F:=F) (w:=w) (Z:=Z) (H:=H) (vps:=parts.map fun (i,x)=>(i,a.eval x)) (aps:=ps) hu hz (by
    have l1:=cN hp;have l2:=cN hps;simp at l1 ⊢;omega) (by
    intro i p q hp1 hq1;obtain ⟨y,k1,k2⟩:=dC hps hq1;obtain ⟨x,k3,k4⟩:=dC hp k1;obtain ⟨yv,k5,k6⟩:=map_some k2;have hx:parts[i]? =some x:=by simpa using k3
    rw [Array.getElem?_map,hx] at hp1;simp at hp1;subst hp1;subst k6;split at k4
    ·rename_i f hf;split at k4
     ·rename_i n ax hn hax;cases k4;exact ⟨⟨f,n,hf,hn,rfl,rfl⟩,aO hax he k5⟩
     ·cases k4
    ·cases k4) hcs
   exact ⟨v,h1,h2,rfl⟩
theorem Bp {o:Oper} {t el:TypeId} {m n:Nat} {z:List AV} {parts:Array (Nat×Operand)} {aps:List (Nat×Nat×AX)} {r:AV} {H':AH} (hr:HR F B0 w Z H) (he:EnvR F w Z H e a.tmps)
  (ho:o.op= .build t parts) (hu:P.underlying t=some (.array m el)) (hz:eP P t=some z) (hn:szOf P el=some n)
  (hp:mapO (fun p=>(cX P el p.2).map fun a=>(p.1*n,n,a)) parts.toList=some aps)
  (hev:evOp e nx H (.build z aps)=some (r,H')):OpOk P a o F B0 w Z H r H':=by
 simp only [evOp] at hev;split at hev
 ·cases hev
 ·rename_i ps hps;split at hev
  ·cases hev
  ·rename_i cs hcs;cases hev;refine eO (s:=Instr.build t (parts.map fun (i,x)=>(i,a.eval x))) hr (by unfold execOp;rw [ho]) ?_;obtain ⟨v,h1,h2⟩:=Bt (P:=P) (F:=F) (w:=w) (Z:=Z) (H:=H) (vps:=parts.map fun (i,x)=>(i,a.eval x)) (aps:=ps) hu hn hz (by
    have l1:=cN hp;have l2:=cN hps;simp at l1 ⊢;omega) (by
    intro i p q hp1 hq1;obtain ⟨y,k1,k2⟩:=dC hps hq1;obtain ⟨x,k3,k4⟩:=dC hp k1;obtain ⟨yv,k5,k6⟩:=map_some k2;have hx:parts[i]? =some x:=by simpa using k3
    rw [Array.getElem?_map,hx] at hp1;simp at hp1;subst hp1;subst k6;obtain ⟨ax,k7,k8⟩:=map_some k4;subst k8;exact ⟨⟨rfl,rfl⟩,aO k7 he k5⟩) hcs
   exact ⟨v,h1,h2,rfl⟩
theorem Fx {o:Oper} {t el:TypeId} {len n:Nat} {z:List AV} {m:SM} {parts:Array (Nat×Operand)} {aps:List (Nat×AX)} {r:AV} {H':AH} (hfr:Free H nx) (hr:HR F B0 w Z H) (he:EnvR F w Z H e a.tmps)
  (ho:o.op= .buildSlice t len parts) (hu:P.underlying t=some (.slice el)) (hn:szOf P el=some n) (hz:eP P el=some z) (hzl:z.length=n) (hn0:n≠0) (hsm:len*n<=2^24)
  (hpl:∀p∈parts.toList,p.1<len) (hp:mapO (fun p=>(cX P el p.2).map fun a=>(p.1,a)) parts.toList=some aps)
  (hev:evOp e nx H (.bslice m n (List.replicate len z) aps)=some (r,H')):OpOk P a o F B0 w Z H r H':=by
 simp only [evOp] at hev;split at hev
 ·cases hev
 ·rename_i ps hps;obtain ⟨zv,hzv,hpz⟩:=DX (F:=F) (w:=w) (Z:=Z) (H:=H) hz;obtain ⟨z1,z2⟩:=YG (F:=F) (w:=w) (Z:=Z) (H:=H) hn0 hzl hpz len;obtain ⟨c',k1,k2,k3,k4⟩:=XQ (F:=F) (w:=w) (Z:=Z) (H:=H) hn0 (parts.map fun (i,x)=>(i,a.eval x)).toList ps (List.replicate len z) _ (by
   have l1:=cN hp;have l2:=cN hps;simp at l1 ⊢;omega) (by
   intro i p q hp1 hq1;obtain ⟨y,j1,j2⟩:=dC hps hq1;obtain ⟨x,j3,j4⟩:=dC hp j1;have hx:parts[i]? =some x:=by simpa using j3
   rw [Array.getElem?_toList,Array.getElem?_map,hx] at hp1;simp at hp1;subst hp1;obtain ⟨ax,j7,j8⟩:=map_some j4;subst j8;split at j2
   ·rename_i yv hyv;split at j2
    ·rename_i vs hvs;split at j2
     ·rename_i hvl;cases j2;exact ⟨rfl,by simpa using hpl x (Qe j3),hvl,EU hvs (aO j7 he hyv)⟩
     ·cases j2
    ·cases j2
   ·cases j2) z1 z2
  have hrun:=Ct w (parts:=parts.map fun (i,x)=>(i,a.eval x)) hu hn (hzv w) hsm k1;have hex:execOp a.eval o=(do pure (.value (<- Instr.buildSlice t len (parts.map fun (i,x)=>(i,a.eval x))))):=by unfold execOp;rw [ho]
  have hsz:c'.size=(ps.foldl (fun es p=>es.set p.1 p.2) (List.replicate len z)).length*n:=by rw [k3,z2,k4]
  have hlen:len=(ps.foldl (fun es p=>es.set p.1 p.2) (List.replicate len z)).length:=by rw [k4];simp
  cases m with
  | row=>
   simp only at hev;cases hev;exact jO hex ⟨_,_,hrun,by rw [<- hlen];exact XO hfr hr k2 hlen hsz⟩
  | app=>
   simp only at hev;split at hev
   ·cases hev
   ·rename_i es' hes';split at hev
    ·cases hev
    ·rename_i hb;cases hev;obtain ⟨f1,f2⟩:=U3 k2 (by simpa using hb) hes';refine jO hex ⟨_,_,hrun,?_⟩;have hl2:len=es'.length:=by rw [f2];exact hlen
     rw [<- hl2];exact TQ hfr hr f1 hl2 (by rw [hsz,<- hlen];exact Qb _) (Qb _)
  | imm=>
   simp only at hev;split at hev
   ·cases hev
   ·rename_i es' hes';split at hev
    ·cases hev
    ·rename_i hb;cases hev;obtain ⟨f1,f2⟩:=U3 k2 (by simpa using hb) hes';exact jO hex ⟨_,_,hrun,XN hr f1 (by rw [f2];exact hlen)⟩
theorem Gk {x:AV} {v:Value} (h:NP x v=true):bor aA x=false:=by
 unfold NP at h;split at h<;>first | rfl | cases h
theorem YA:∀{cs:List AV} {vs:List Value},mX cs vs=true->∀x∈cs,bor aA x=false
 | [],_,_,_,h=>by cases h
 | c::cs,[],h,_,_=>by cases h
 | c::cs,v::vs,h,x,hx=>by
  simp only [mX,QA] at h;rcases lW.1 hx with rfl | hx
  ·exact Gk h.1
  ·exact YA h.2 x hx
theorem Dr {o:Oper} {t el:TypeId} {n:Nat} {z:List AV} {m:SM} {l c:Operand} {al ac:AX} {r:AV} {H':AH} {tt:TypeId} (hfr:Free H nx) (hr:HR F B0 w Z H) (he:EnvR F w Z H e a.tmps)
  (ho:o.op= .makeSlice t l c) (hu:P.underlying t=some (.slice el)) (hn:szOf P el=some n) (hz:eP P el=some z) (hzl:z.length=n) (hn0:n≠0)
  (hl:cX P tt l=some al) (hc:cX P tt c=some ac)
  (hev:evOp e nx H (.mkslice m n (P.bytesOf el) z al ac)=some (r,H')):OpOk P a o F B0 w Z H r H':=by
 simp only [evOp] at hev;split at hev
 ·rename_i q lv q' cv hlv hcv;split at hev
  ·rename_i hcond;obtain ⟨c0,c1,c2,c3⟩:=hcond;obtain ⟨zv,hzv,hpz⟩:=DX (F:=F) (w:=w) (Z:=Z) (H:=H) hz;obtain ⟨cells,k1,k2⟩:=Dn w (q:=q) (q':=q') hu hn (hzv w) c0 c1 c2 c3;have hex:execOp a.eval o=(do pure (.value (<- Instr.makeSlice t (a.eval l) (a.eval c)))):=by unfold execOp;rw [ho]
   rw [cM (aO hl he hlv),cM (aO hc he hcv)] at hex;have hcells:cells=((Array.range (cv.toNat*n)).map (zv.cells[· % zv.cells.size]!)):=by
    rcases k2 with k2 | ⟨k2,k3⟩
    ·exact k2
    ·rw [k3,k2];simp
   obtain ⟨z1,z2⟩:=YG (F:=F) (w:=w) (Z:=Z) (H:=H) hn0 hzl hpz cv.toNat;rw [<- hcells] at z1 z2;have hD:∀z',jP H z=some z'->∀k,k<=cv.toNat->RowD F w Z H n (List.replicate k z') cells:=by
    intro z' hz' k hk;refine ⟨?_,?_⟩
    ·intro e he;rw [RS he,<- cN hz'];exact hzl
    ·intro i j e x hi hx;have hik:i<k:=by have:=mG hi;simpa using this
     have hee:e=z':=by simp [List.getElem?_replicate,hik] at hi;exact hi.symm
     subst hee;obtain ⟨x0,h1,h2⟩:=dC hz' hx;obtain ⟨v,q1,q2,q3⟩:=z1.2.2 i j z x0 (by simp [List.getElem?_replicate];omega) h1;refine ⟨v,by simpa using q1,q2,CF aA x0 x v h2 ?_ q3⟩;obtain ⟨i',v',i1,i2,i3⟩:=N9 hz;exact YA i3 x0 (Qe h1)
   cases m with
   | row=>
    simp only at hev;split at hev
    ·rename_i hlc;cases hev;subst hlc;refine jO hex ⟨_,_,k1,XO hfr hr z1 (by simp) z2⟩
    ·cases hev
   | app=>
    simp only at hev;split at hev
    ·rename_i z' hz';cases hev;refine jO hex ⟨_,_,k1,TQ hfr hr (hD z' hz' lv.toNat (by omega)) (by simp) ?_ (by omega)⟩;rw [z2];simp
    ·cases hev
   | imm=>
    simp only at hev;split at hev
    ·rename_i z' hz';split at hev
     ·rename_i hlc;cases hev;subst hlc;exact jO hex ⟨_,_,k1,XN hr (hD z' hz' lv.toNat (Qb _)) (by simp)⟩
     ·cases hev
    ·cases hev
  ·cases hev
 ·cases hev
end
end Go.Av
namespace Go.Av
variable {nx:Nat}
section
variable {F:Nat->Nat->Prop} {B0:Nat} {w:World} {Z:Beta} {H:AH} {P:Program} {A:Ann} {fn:FuncId} {e:Env} {a:Act}
theorem w5 {o:Oper} {c:Call} {b:Builtin} (ho:o.op= .call c) (hc:c.callee= .builtin b):
  execOp a.eval o=Go.builtin b c.argTypes o.type (c.args.map fun | .const _=>true | _=>false) (c.args.map a.eval):=by
 unfold execOp;rw [ho];simp only [resolve,hc];rfl
theorem arr1 {U:Type} {x:Array U} {p:U} (h:x.toList=[p]):x= #[p]:=by
 apply Array.ext';simpa using h
theorem arr2 {U:Type} {x:Array U} {p q:U} (h:x.toList=[p,q]):x= #[p,q]:=by
 apply Array.ext';simpa using h
theorem Lh {o:Oper} {c:Call} {t el:TypeId} {x:Operand} {ax:AX} {r:AV} {H':AH} (hr:HR F B0 w Z H) (he:EnvR F w Z H e a.tmps) (ho:o.op= .call c) (hc:c.callee= .builtin .len)
  (ht:c.argTypes.toList=[t]) (hx:c.args.toList=[x]) (hu:P.underlying t=some (.slice el)) (hax:cX P t x=some ax)
  (hev:evOp e nx H (.len ax)=some (r,H')):OpOk P a o F B0 w Z H r H':=by
 simp only [evOp] at hev;split at hev
 ·rename_i xv hxv;split at hev
  ·rename_i n h1;cases hev;have hv:=aO hax he hxv;have:∃base cap,a.eval x= .slice base n cap:=by
    unfold lenOf at h1;split at h1
    ·cases h1;obtain ⟨b,cap,h,_⟩:=fF (yY hv);exact ⟨b,cap,h⟩
    ·cases h1;obtain ⟨b,cap,h,_⟩:=fF (mF hv).1;exact ⟨b,cap,h⟩
    ·cases h1;obtain ⟨b,cap,h,_⟩:=fF (z9 hv).2.1;exact ⟨b,cap,h⟩
    ·cases h1;obtain ⟨_,⟨b,cap,h,_⟩,_⟩:=lT hv;exact ⟨b,cap,h⟩
    ·cases h1
   obtain ⟨b,cap,hb⟩:=this;refine g9 hr ?_ (.d (.int _ _));rw [w5 ho hc,arr1 ht,arr1 hx];simp [Go.builtin,Builtin.len_,hb,aX w hu,goInt]
  ·cases hev
 ·cases hev
theorem Hu {o:Oper} {c:Call} {t:TypeId} {x:Operand} {ax:AX} {r:AV} {H':AH} (hr:HR F B0 w Z H) (he:EnvR F w Z H e a.tmps) (ho:o.op= .call c) (hc:c.callee= .builtin .len)
  (ht:c.argTypes.toList=[t]) (hx:c.args.toList=[x]) (hu:P.underlying t=some .string) (hax:cX P t x=some ax)
  (hev:evOp e nx H (.slen ax)=some (r,H')):OpOk P a o F B0 w Z H r H':=by
 simp only [evOp] at hev;split at hev
 ·rename_i s hxv;cases hev;have hv:=gP (aO hax he hxv);refine g9 hr ?_ (.d (.int _ _));rw [w5 ho hc,arr1 ht,arr1 hx];have hs:(⟨s.toArray⟩:ByteArray).size=s.length:=by simp [ByteArray.size]
  simp [Go.builtin,Builtin.len_,hv,aX w hu,goInt,hs]
 ·cases hev
theorem Je {o:Oper} {c:Call} {t k el:TypeId} {x:Operand} {ax:AX} {r:AV} {H':AH} (hr:HR F B0 w Z H) (he:EnvR F w Z H e a.tmps) (ho:o.op= .call c) (hc:c.callee= .builtin .len)
  (ht:c.argTypes.toList=[t]) (hx:c.args.toList=[x]) (hu:P.underlying t=some (.map k el)) (hax:cX P t x=some ax)
  (hev:evOp e nx H (.mlen ax)=some (r,H')):OpOk P a o F B0 w Z H r H':=by
 simp only [evOp] at hev;split at hev
 ·rename_i hxv;cases hev;have hv:=Q7 (aO hax he hxv);refine g9 hr ?_ (.d (.int _ _));rw [w5 ho hc,arr1 ht,arr1 hx];simp [Go.builtin,Builtin.len_,hv,aX w hu,goInt]
 ·rename_i id hxv;split at hev
  ·rename_i es hget;cases hev;obtain ⟨_,_,h3⟩:=VF (aO hax he hxv);obtain ⟨b,o',h4,hv⟩:=h3 _ hget;obtain ⟨b',o2,es',ck,m1,m2,m3,m4⟩:=hr.obj _ _ hget;rw [h4] at m1;cases m1;refine g9 hr ?_ (.d (.int _ _));rw [w5 ho hc,arr1 ht,arr1 hx];have hl:es.length=es'.size:=by simpa using m4.1
   simp [Go.builtin,Builtin.len_,hv,aX w hu,goInt,NK w m3,hl]
  ·cases hev
 ·cases hev
theorem Lc {o:Oper} {c:Call} {t el:TypeId} {x:Operand} {ax:AX} {r:AV} {H':AH} (hr:HR F B0 w Z H) (he:EnvR F w Z H e a.tmps) (ho:o.op= .call c) (hc:c.callee= .builtin .cap)
  (ht:c.argTypes.toList=[t]) (hx:c.args.toList=[x]) (hu:P.underlying t=some (.slice el)) (hax:cX P t x=some ax)
  (hev:evOp e nx H (.cap ax)=some (r,H')):OpOk P a o F B0 w Z H r H':=by
 simp only [evOp] at hev;split at hev
 ·rename_i z es hxv;cases hev;obtain ⟨hd,b,len,hb⟩:=mF (aO hax he hxv);obtain ⟨b',cap,hb',_⟩:=fF hd;rw [hb'] at hb;cases hb;refine g9 hr ?_ (.d (.int _ _));rw [w5 ho hc,arr1 ht,arr1 hx];simp [Go.builtin,Builtin.cap_,hb',aX w hu,goInt]
 ·cases hev
theorem Fw {o:Oper} {c:Call} {t u el:TypeId} {x y:Operand} {ax ay:AX} {z:Nat} {m:SM} {r:AV} {H':AH} (hfr:Free H nx) (hr:HR F B0 w Z H) (he:EnvR F w Z H e a.tmps) (ho:o.op= .call c) (hc:c.callee= .builtin .append)
  (ht:c.argTypes.toList=[t,u]) (hx:c.args.toList=[x,y]) (T:AT P t u el z) (hax:cX P t x=some ax) (hay:cX P u y=some ay)
  (hev:evOp e nx H (.append m z (P.bytesOf el) ax ay)=some (r,H')):OpOk P a o F B0 w Z H r H':=by
 have hex:execOp a.eval o=(do pure (.value (<- Builtin.append_ #[t,u] o.type #[a.eval x,a.eval y]))):=by
  rw [w5 ho hc,arr2 ht,arr2 hx];simp only [Go.builtin,List.map_toArray,List.map_cons,List.map_nil]
 refine jO hex ?_;simp only [evOp] at hev;split at hev
 ·rename_i xv yv hxv hyv;have hvx:=aO hax he hxv;have hvy:=aO hay he hyv;split at hev
  ·cases hev
  ·rename_i ys0 hys0;split at hev
   ·rename_i id zz off len;split at hev
    ·rename_i hz;subst hz;split at hev
     ·rename_i z' es hget;split at hev
      ·rename_i hcond;obtain ⟨c1,c2,c3,c4⟩:=hcond;subst c1;cases hev;have hz:=DJ c3;exact Ka T hfr hr hvx hget c2 (F8 hr hvy hys0 hz) hz c4
      ·split at hev
       ·rename_i hcond;obtain ⟨c1,c2,c3⟩:=hcond;subst c1;cases hev;have hz:=DJ c3;exact Jz T hr hvx hget c2 (F8 hr hvy hys0 hz) hz
       ·cases hev
     ·cases hev
    ·cases hev
   ·rename_i zz es tk;split at hev
    ·rename_i hz;subst hz;split at hev
     ·rename_i z' f ys hget hfz;split at hev
      ·rename_i hcond;obtain ⟨c1,c2,c3,c4⟩:=hcond;subst c1;subst c2;cases hev;have hz:=DJ c3;exact Jy T hr hvx hget (V9 hr hvy hys0 hfz hz) hz c4
      ·cases hev
     ·cases hev
    ·cases hev
   ·rename_i zz es;cases m with
    | row=>
     simp only at hev;split at hev
     ·rename_i hcond;obtain ⟨c1,c2,c3,c4⟩:=hcond;cases hev;have hz:=DJ c3;exact Bl T hfr hr hvx c1 (F8 hr hvy hys0 hz) hz c2 c4
     ·split at hev
      ·rename_i hcond;obtain ⟨c1,c2⟩:=hcond;subst c1;subst c2;cases hev;exact Bn T hr hvx (F8 hr hvy hys0 (by simp))
      ·cases hev
    | app=>
     simp only at hev;split at hev
     ·cases hev
     ·rename_i ys hfz;split at hev
      ·rename_i hcond;obtain ⟨c1,c3,c4⟩:=hcond;cases hev;have hz:=DJ c3;exact XY T hfr hr hvx c1 (V9 hr hvy hys0 hfz hz) hz c4
      ·cases hev
    | imm=>
     simp only at hev;split at hev
     ·cases hev
     ·rename_i ys hfz;split at hev
      ·rename_i hcond;obtain ⟨c1,c3,c4⟩:=hcond;cases hev;have hz:=DJ c3;exact XY T hfr hr hvx c1 (V9 hr hvy hys0 hfz hz) hz c4
      ·cases hev
   ·cases hev
 ·cases hev
theorem Ja {o:Oper} {c:Call} {t u el:TypeId} {x y:Operand} {ax ay:AX} {z:Nat} {r:AV} {H':AH} (hr:HR F B0 w Z H) (he:EnvR F w Z H e a.tmps) (ho:o.op= .call c) (hc:c.callee= .builtin .copy)
  (ht:c.argTypes.toList=[t,u]) (hx:c.args.toList=[x,y]) (hu:P.underlying t=some (.slice el)) (hz:szOf P el=some z) (hax:cX P t x=some ax) (hay:cX P u y=some ay)
  (hev:evOp e nx H (.copy z ax ay)=some (r,H')):OpOk P a o F B0 w Z H r H':=by
 have hex:execOp a.eval o=(do pure (.value (<- Builtin.copy_ #[t,u] o.type #[a.eval x,a.eval y]))):=by
  rw [w5 ho hc,arr2 ht,arr2 hx];simp only [Go.builtin,List.map_toArray,List.map_cons,List.map_nil]
 refine jO hex ?_;simp only [evOp] at hev;split at hev
 ·rename_i id zz off len yv hxv hyv;have hvx:=aO hax he hxv;have hvy:=aO hay he hyv;split at hev
  ·cases hev
  ·rename_i ys hys;split at hev
   ·rename_i hz2;subst hz2;split at hev
    ·rename_i z' es hget;split at hev
     ·rename_i hcond;obtain ⟨c1,c2,c3⟩:=hcond;subst c1;cases hev;have hzz:=DJ c3;exact Jj hu hz hr hvx hget c2 (F8 hr hvy hys hzz) hzz
     ·cases hev
    ·cases hev
   ·cases hev
 ·cases hev
theorem Hj {o:Oper} {c:Call} {t el:TypeId} {x:Operand} {ax:AX} {z:List AV} {r:AV} {H':AH} (hr:HR F B0 w Z H) (he:EnvR F w Z H e a.tmps) (ho:o.op= .call c) (hc:c.callee= .builtin .clear)
  (ht:c.argTypes.toList=[t]) (hx:c.args.toList=[x]) (hu:P.underlying t=some (.slice el)) (hz:eP P el=some z) (hax:cX P t x=some ax)
  (hev:evOp e nx H (.clear z ax)=some (r,H')):OpOk P a o F B0 w Z H r H':=by
 have hex:execOp a.eval o=(do pure (.value (<- Builtin.clear_ #[t] o.type #[a.eval x]))):=by
  rw [w5 ho hc,arr1 ht,arr1 hx];simp only [Go.builtin,List.map_toArray,List.map_cons,List.map_nil]
 simp only [evOp] at hev;split at hev
 ·rename_i id zz off len hxv;split at hev
  ·rename_i z' es hget;split at hev
   ·rename_i hcond;obtain ⟨c1,c2,c3⟩:=hcond;subst c1;cases hev;refine jO hex ?_;exact Il hu hz c2.symm hr (aO hax he hxv) hget c3
   ·cases hev
  ·cases hev
 ·rename_i zz hxv;cases hev;obtain ⟨b,cap,hb,_⟩:=fF (yY (aO hax he hxv));refine eO hr hex ⟨.tuple #[],?_,.d (.tup [] #[] rfl (by simp)),rfl⟩;rw [hb];cases b<;>simp [Builtin.clear_,aX w hu]
 ·rename_i zz hxv;cases hev;obtain ⟨b,cap,hb,_⟩:=fF (mF (aO hax he hxv)).1;refine eO hr hex ⟨.tuple #[],?_,.d (.tup [] #[] rfl (by simp)),rfl⟩;rw [hb];cases b<;>simp [Builtin.clear_,aX w hu]
 ·cases hev
def mm (mx:Bool):Option AV->AV->Option AV:=fun acc w=>match acc,w with
 | some (.int k a),.int _ b=>some (.int k (if mx then (if b>a then b else a) else (if b<a then b else a)))
 | _,_=>none
theorem U' (mx:Bool):∀(l:List AV),l.foldl (mm mx) none=none
 | []=>rfl
 | x::l=>by
  rw [List.foldl_cons];exact U' mx l
theorem T' (mx:Bool):∀(l:List AV) (vs:List Value) (x r:AV) (v:Value),l.length=vs.length->(∀(i:Nat) y u,l[i]? =some y->vs[i]? =some u->VRH F w Z H y u)->VRH F w Z H x v->
  l.foldl (mm mx) (some x)=some r->∃u,(vs.foldlM (if mx then Builtin.max2 else Builtin.min2) v).run P w= .ok u w/\VRH F w Z H r u
 | [],[],x,r,v,_,_,hx,h=>by
  cases h;exact ⟨v,rfl,hx⟩
 | y::l,u::vs,x,r,v,hl,hrel,hx,h=>by
  rw [List.foldl_cons] at h;cases hm:mm mx (some x) y with
  | none=>rw [hm,U'] at h;cases h
  | some x'=>
   rw [hm] at h;unfold mm at hm;split at hm
   ·rename_i k m k2 n hxe;cases hxe;cases hm;have hvx:=cM hx;have hvu:=cM (hrel 0 _ u rfl rfl);subst hvx;subst hvu;obtain ⟨q,h1,h2⟩:=T' mx l vs (.int k (if mx then (if n>m then n else m) else (if n<m then n else m))) r (.int k (if mx then (if n>m then n else m) else (if n<m then n else m))) (by simpa using hl)
     (fun i y u ha hb=>hrel (i+1) y u (by simpa using ha) (by simpa using hb)) (.d (.int _ _)) h
    refine ⟨q,?_,h2⟩;rw [List.foldlM_cons];cases mx
    ·simp only [eM,if_false] at h1 ⊢;simp only [Builtin.min2,Sem.run_bind,Sem.run_pure,Result.andThen_ok];exact h1
    ·simp only [if_true] at h1 ⊢;simp only [Builtin.max2,Sem.run_bind,Sem.run_pure,Result.andThen_ok];exact h1
   ·cases hm
 | [],_::_,_,_,_,hl,_,_,_=>by simp at hl
 | _::_,[],_,_,_,hl,_,_,_=>by simp at hl
end
end Go.Av
namespace Go.Av
variable {nx:Nat}
section
variable {F:Nat->Nat->Prop} {B0:Nat} {w:World} {Z:Beta} {H:AH} {P:Program} {A:Ann} {fn:FuncId} {e:Env} {a:Act}
theorem Jd {o:Oper} {t:TypeId} {x:Operand} {ax:AX} {g:Bool} {n:Nat} {r:AV} {H':AH} (hr:HR F B0 w Z H) (he:EnvR F w Z H e a.tmps) (ho:o.op= .load t x)
  (hg:bY P t=some g) (hn:szOf P t=some n) (hx:cX P t x=some ax) (hev:evOp e nx H (.load g n ax)=some (r,H')):OpOk P a o F B0 w Z H r H':=by
 cases hxv:evX e ax with
 | none=>simp [evOp,hxv] at hev
 | some xv=>exact eO (s:=Instr.loadAt t (a.eval x)) hr (by unfold execOp;rw [ho]) (V' hr hg hn hxv (aO hx he hxv) hev)
theorem Hk {o:Oper} {t:TypeId} {i:Nat} {f:Field} {x:Operand} {ax:AX} {n:Nat} {r:AV} {H':AH} (hr:HR F B0 w Z H) (he:EnvR F w Z H e a.tmps) (ho:o.op= .fieldAddr t x i)
  (hf:CJ P t i=some f) (hn:szOf P f.type=some n) (h0:n≠0) (hx:cX P t x=some ax) (hev:evOp e nx H (.faddr f.offset ax)=some (r,H')):OpOk P a o F B0 w Z H r H':=by
 cases hxv:evX e ax with
 | none=>simp [evOp,hxv] at hev
 | some xv=>exact eO (s:=Instr.fieldAt t (a.eval x) i) hr (by unfold execOp;rw [ho]) (Im hf hn (by rw [hn];simpa using h0) hxv (aO hx he hxv) hev)
theorem Lg {o:Oper} {t:TypeId} {i:Nat} {f:Field} {x:Operand} {ax:AX} {g:Bool} {n:Nat} {r:AV} {H':AH} (hr:HR F B0 w Z H) (he:EnvR F w Z H e a.tmps) (ho:o.op= .field t x i)
  (hf:CJ P t i=some f) (hg:bY P f.type=some g) (hn:szOf P f.type=some n) (hx:cX P t x=some ax) (hev:evOp e nx H (.fld g f.offset n ax)=some (r,H')):OpOk P a o F B0 w Z H r H':=by
 cases hxv:evX e ax with
 | none=>simp [evOp,hxv] at hev
 | some xv=>exact eO (s:=Instr.field t (a.eval x) i) hr (by unfold execOp;rw [ho]) (Mn hf hg hn hxv (aO hx he hxv) hev)
theorem Hl {o:Oper} {t el tt:TypeId} {z:Nat} {x i:Operand} {ax ai:AX} {r:AV} {H':AH} (hr:HR F B0 w Z H) (he:EnvR F w Z H e a.tmps) (ho:o.op= .indexAddr t x i)
  (hu:P.underlying t=some (.slice el)) (hn:szOf P el=some z) (hx:cX P t x=some ax) (hi:cX P tt i=some ai) (hev:evOp e nx H (.iaddr z none ax ai)=some (r,H')):OpOk P a o F B0 w Z H r H':=by
 cases hxv:evX e ax with
 | none=>simp [evOp,hxv] at hev
 | some xv=>
  cases hiv:evX e ai with
  | none=>simp [evOp,hxv,hiv] at hev
  | some iv=>exact eO (s:=Instr.indexAt t (a.eval x) (a.eval i)) hr (by unfold execOp;rw [ho]) (Ip hr hu hn hxv hiv (aO hx he hxv) (aO hi he hiv) hev)
theorem Cb {o:Oper} {t el tt:TypeId} {z len:Nat} {x i:Operand} {ax ai:AX} {r:AV} {H':AH} (hr:HR F B0 w Z H) (he:EnvR F w Z H e a.tmps) (ho:o.op= .indexAddr t x i)
  (hu:P.underlying t=some (.array len el)) (hn:szOf P el=some z) (hx:cX P t x=some ax) (hi:cX P tt i=some ai) (hev:evOp e nx H (.iaddr z (some len) ax ai)=some (r,H')):OpOk P a o F B0 w Z H r H':=by
 cases hxv:evX e ax with
 | none=>simp [evOp,hxv] at hev
 | some xv=>
  cases hiv:evX e ai with
  | none=>simp [evOp,hxv,hiv] at hev
  | some iv=>exact eO (s:=Instr.indexAt t (a.eval x) (a.eval i)) hr (by unfold execOp;rw [ho]) (Co hu hn hxv hiv (aO hx he hxv) (aO hi he hiv) hev)
theorem Jc {o:Oper} {t tt:TypeId} {x i:Operand} {ax ai:AX} {r:AV} {H':AH} (hr:HR F B0 w Z H) (he:EnvR F w Z H e a.tmps) (ho:o.op= .index t x i)
  (hu:P.underlying t=some .string) (hx:cX P t x=some ax) (hi:cX P tt i=some ai) (hev:evOp e nx H (.idxs ax ai)=some (r,H')):OpOk P a o F B0 w Z H r H':=by
 cases hxv:evX e ax with
 | none=>simp [evOp,hxv] at hev
 | some xv=>
  cases hiv:evX e ai with
  | none=>simp [evOp,hxv,hiv] at hev
  | some iv=>exact eO (s:=Instr.index t (a.eval x) (a.eval i)) hr (by unfold execOp;rw [ho]) (Jl hu hxv hiv (aO hx he hxv) (aO hi he hiv) hev)
theorem Jb {o:Oper} {t el tt:TypeId} {g:Bool} {n len:Nat} {x i:Operand} {ax ai:AX} {r:AV} {H':AH} (hr:HR F B0 w Z H) (he:EnvR F w Z H e a.tmps) (ho:o.op= .index t x i)
  (hu:P.underlying t=some (.array len el)) (hg:bY P el=some g) (hn:szOf P el=some n) (hx:cX P t x=some ax) (hi:cX P tt i=some ai) (hev:evOp e nx H (.idxa g len n ax ai)=some (r,H')):OpOk P a o F B0 w Z H r H':=by
 cases hxv:evX e ax with
 | none=>simp [evOp,hxv] at hev
 | some xv=>
  cases hiv:evX e ai with
  | none=>simp [evOp,hxv,hiv] at hev
  | some iv=>exact eO (s:=Instr.index t (a.eval x) (a.eval i)) hr (by unfold execOp;rw [ho]) (Jk hu hg hn hxv hiv (aO hx he hxv) (aO hi he hiv) hev)
theorem Lf {o:Oper} {i:Nat} {t:TypeId} {x:Operand} {ax:AX} {r:AV} {H':AH} (hr:HR F B0 w Z H) (he:EnvR F w Z H e a.tmps) (ho:o.op= .extract x i)
  (hx:cX P t x=some ax) (hev:evOp e nx H (.ext i ax)=some (r,H')):OpOk P a o F B0 w Z H r H':=by
 cases hxv:evX e ax with
 | none=>simp [evOp,hxv] at hev
 | some xv=>exact eO (s:=Instr.extract (a.eval x) i) hr (by unfold execOp;rw [ho]) (Mm hxv (aO hx he hxv) hev)
theorem Lw {o:Oper} {op:UnOp} {t:TypeId} {x:Operand} {ax:AX} {r:AV} {H':AH} (hr:HR F B0 w Z H) (he:EnvR F w Z H e a.tmps) (ho:o.op= .unOp op t x)
  (hx:cX P t x=some ax) (hev:evOp e nx H (.un op ax)=some (r,H')):OpOk P a o F B0 w Z H r H':=by
 simp only [evOp] at hev;split at hev
 ·rename_i xv hxv;obtain ⟨r',h1,h2⟩:=map_some hev;cases h2;obtain ⟨v,k1,k2⟩:=op_un (P:=P) (aO hx he hxv) h1;exact eO (s:=Op.unary op (a.eval x)) hr (by unfold execOp;rw [ho]) ⟨v,k1,k2,rfl⟩
 ·cases hev
theorem Iz {o:Oper} {s d:TypeId} {k0 k:IntKind} {x:Operand} {ax:AX} {r:AV} {H':AH} (hr:HR F B0 w Z H) (he:EnvR F w Z H e a.tmps) (ho:o.op= .convert s d x)
  (hs:P.underlying s=some (.int k0)) (hd:P.underlying d=some (.int k)) (hx:cX P s x=some ax) (hev:evOp e nx H (.conv k ax)=some (r,H')):OpOk P a o F B0 w Z H r H':=by
 simp only [evOp] at hev;split at hev
 ·rename_i q n hxv;cases hev;have hv:=cM (aO hx he hxv);refine eO (s:=Go.convert s d (a.eval x)) hr (by unfold execOp;rw [ho]) ⟨.int k (k.wrap n),?_,.d (.int _ _),rfl⟩;rw [hv];simp [Go.convert,aX w hs,aX w hd,Conv.intToInt]
 ·cases hev
theorem Jg {o:Oper} {s d:TypeId} {x:Operand} {ax:AX} {r:AV} {H':AH} (hr:HR F B0 w Z H) (he:EnvR F w Z H e a.tmps) (ho:o.op= .convert s d x)
  (hs:P.underlying s=some .string) (hd:P.underlying d=some .string) (hx:cX P s x=some ax) (hev:evOp e nx H (.same ax)=some (r,H')):OpOk P a o F B0 w Z H r H':=by
 simp only [evOp] at hev;split at hev
 ·rename_i q hxv;cases hev;have h0:=aO hx he hxv;have hv:=gP h0;refine eO (s:=Go.convert s d (a.eval x)) hr (by unfold execOp;rw [ho]) ⟨a.eval x,?_,h0,rfl⟩;rw [hv];simp [Go.convert,aX w hs,aX w hd]
 ·cases hev
theorem La {o:Oper} {s d el:TypeId} {x:Operand} {ax:AX} {r:AV} {H':AH} (hr:HR F B0 w Z H) (he:EnvR F w Z H e a.tmps) (ho:o.op= .convert s d x)
  (hs:P.underlying s=some (.slice el)) (hel:P.underlying el=some (.int .u8)) (hd:P.underlying d=some .string) (hx:cX P s x=some ax) (hev:evOp e nx H (.b2s ax)=some (r,H')):OpOk P a o F B0 w Z H r H':=by
 simp only [evOp] at hev;split at hev
 ·cases hev
 ·rename_i xv hns hxv;split at hev
  ·rename_i es hes;split at hev
   ·rename_i bs hbs;cases hev;have hv:=aO hx he hxv;have hz:∀c∈es,c.length=1:=by
     intro c hc;obtain ⟨i,hi,rfl⟩:=Ql.1 hc;obtain ⟨b,_,hb⟩:=(vD hbs).2 i es[i] (by simp [hi]);split at hb
     ·rename_i heq;rw [heq];rfl
     ·cases hb
    by_cases hstr:∃q,xv= .str q
    ·obtain ⟨q,rfl⟩:=hstr;exact absurd rfl (hns q)
    ·obtain ⟨base,cap,h1,h2,h3⟩:=YX hr hv hes hz (fun q hq=>hstr ⟨q,hq⟩);refine eO (s:=Go.convert s d (a.eval x)) hr (by unfold execOp;rw [ho]) ⟨.string ⟨bs.toArray⟩,?_,.d (.str _),rfl⟩;rw [h1];have hlen:=cN hbs;rcases h3 with h3 | ⟨b,off,rfl,h4⟩
     ·subst h3;have:bs=[]:=Qf (by simpa using hlen.symm);subst this;rw [run_convert_bytes_string w s d el _ _ _ hs hel hd];cases base with
      | none=>simp [Conv.bytesToString];rfl
      | some a=>simp [Conv.bytesToString,loadCells,loadCellsFrom];rfl
     ·have hnum:∀i,i<es.length->∃n,w.cell? ⟨b,off+i,none⟩=some (.int .u8 n)/\bs[i]? =some (UInt8.ofNat n.toNat):=by
       intro i hi;obtain ⟨bb,hb1,hb2⟩:=(vD hbs).2 i es[i] (by simp [hi]);split at hb2
       ·rename_i n heq;cases hb2;obtain ⟨u,q1,_,q3⟩:=h4 i 0 es[i] (.int .u8 n) (by simp [hi]) (by rw [heq];rfl);rw [cM q3] at q1;exact ⟨n,by simpa using q1,hb1⟩
       ·cases hb2
      have hx2:∃xs:List Int,xs.length=es.length/\(∀i,i<es.length->w.cell? ⟨b,off+i,none⟩=some (.int .u8 (xs.getD i 0)))/\xs.map (fun n=>UInt8.ofNat n.toNat)=bs:=by
       refine ⟨(List.range es.length).map (fun i=>match w.cell? ⟨b,off+i,none⟩ with | some (.int .u8 n)=>n | _=>0),by simp,?_,?_⟩
       ·intro i hi;obtain ⟨n,q1,_⟩:=hnum i hi;rw [q1];simp [List.getD,List.getElem?_map,List.getElem?_range hi,q1]
       ·apply List.ext_getElem?;intro i;rcases Qs i es.length with hi | hi
        ·obtain ⟨n,q1,q2⟩:=hnum i hi;rw [q2];simp [List.getElem?_map,List.getElem?_range hi,q1]
        ·rw [Qi (by simpa using hi),Qi (by omega)]
      obtain ⟨xs,l1,l2,l3⟩:=hx2;rw [run_convert_bytes_arg w s el hs hel b off es.length cap xs l1 l2 d hd];rw [<- l3];rfl
   ·cases hev
  ·cases hev
 ·cases hev
theorem Dq {o:Oper} {t:TypeId} {td:TypeDesc} {x:Operand} {ax:AX} {r:AV} {H':AH} (hr:HR F B0 w Z H) (he:EnvR F w Z H e a.tmps) (ho:o.op= .makeInterface t x)
  (hu:P.underlying t=some td) (hni:∀ms,td≠ .interface ms) (hx:cX P t x=some ax) (hev:evOp e nx H (.mkiface t ax)=some (r,H')):OpOk P a o F B0 w Z H r H':=by
 simp only [evOp] at hev;split at hev
 ·rename_i xv hxv;cases hev;refine eO (s:=Instr.makeInterface t (a.eval x)) hr (by unfold execOp;rw [ho]) ⟨.iface t (a.eval x),?_,.iface t xv _ (aO hx he hxv),rfl⟩;cases td<;>first
   | (exact absurd rfl (hni _))
   | simp [Instr.makeInterface,aX w hu]
 ·cases hev
theorem Fz {o:Oper} {t:TypeId} {f:Fn} {first caps:Array Operand} {af ac:List AX} {r:AV} {H':AH} (hr:HR F B0 w Z H) (he:EnvR F w Z H e a.tmps) (ho:o.op= .makeFunc f first caps)
  (h1:mapO (cX P t) first.toList=some af) (h2:mapO (cX P t) caps.toList=some ac) (hev:evOp e nx H (.mkfunc f af ac)=some (r,H')):OpOk P a o F B0 w Z H r H':=by
 simp only [evOp] at hev;split at hev
 ·rename_i vf vc hf hc;cases hev;obtain ⟨l1,l2⟩:=Ad he h1 hf;obtain ⟨l3,l4⟩:=Ad he h2 hc;refine eO (s:=Instr.makeFunc f (first.map a.eval) (caps.map a.eval)) hr (by unfold execOp;rw [ho]) ⟨_,rfl,.func f vf vc _ _ (by simpa using l1) (by simpa using l3) ?_ ?_,rfl⟩
  ·intro i y u hy hu;rw [Array.getElem?_map] at hu;obtain ⟨x,hx,rfl⟩:=map_some hu;exact l2 i y x hy (by simpa using hx)
  ·intro i y u hy hu;rw [Array.getElem?_map] at hu;obtain ⟨x,hx,rfl⟩:=map_some hu;exact l4 i y x hy (by simpa using hx)
 ·cases hev
theorem Gb {o:Oper} {t:TypeId} {x:Operand} {ax:AX} {r:AV} {H':AH} (hr:HR F B0 w Z H) (he:EnvR F w Z H e a.tmps) (ho:o.op= .nilCheck x)
  (hx:cX P t x=some ax) (hev:evOp e nx H (.nilchk ax)=some (r,H')):OpOk P a o F B0 w Z H r H':=by
 simp only [evOp] at hev;split at hev
 ·rename_i p q i j hxv;cases hev;have h0:=aO hx he hxv;obtain ⟨_,⟨b,k,hv⟩,_⟩:=mW h0;refine g9 hr ?_ h0;unfold execOp;rw [ho];simp [hv]
 ·rename_i p q i j hxv;cases hev;have h0:=aO hx he hxv;have h1:=CE h0;refine g9 hr ?_ h0;unfold execOp;rw [ho];have hv:∃p,a.eval x= .pointer (some p):=by
   generalize a.eval x=v at h1;cases h1;exact ⟨_,rfl⟩
  obtain ⟨p,hv⟩:=hv;simp [hv]
 ·rename_i f p q hxv;cases hev;have h0:=aO hx he hxv;obtain ⟨va,vb,hv,_⟩:=DW h0;refine g9 hr ?_ h0;unfold execOp;rw [ho];simp [hv]
 ·rename_i t v hxv;cases hev;have h0:=aO hx he hxv;obtain ⟨u,hv,_⟩:=DT h0;refine g9 hr ?_ h0;unfold execOp;rw [ho];simp [hv]
 ·cases hev
theorem YQ {o:Oper} {c:Call} {mx:Bool} {xs:List AX} {r:AV} {H':AH} (hr:HR F B0 w Z H) (he:EnvR F w Z H e a.tmps) (ho:o.op= .call c) (hc:c.callee= .builtin (if mx then .max else .min))
  (hx:cXs P c.argTypes.toList c.args.toList=some xs) (hev:evOp e nx H (.minmax mx xs)=some (r,H')):OpOk P a o F B0 w Z H r H':=by
 simp only [evOp] at hev;split at hev
 ·rename_i v vs hvs;obtain ⟨r',h1,h2⟩:=map_some hev;cases h2;obtain ⟨l1,l2⟩:=V1 he hx hvs;cases hargs:c.args.toList with
  | nil=>rw [hargs] at l1;simp at l1
  | cons x0 xs0=>
   rw [hargs] at l1 l2;obtain ⟨u,k1,k2⟩:=T' (P:=P) (F:=F) (w:=w) (Z:=Z) (H:=H) mx vs (xs0.map a.eval) v r (a.eval x0) (by simpa using l1) (by
    intro i y u hy hu;rw [List.getElem?_map] at hu;obtain ⟨x,hx,rfl⟩:=map_some hu;exact l2 (i+1) y x (by simpa using hy) (by simpa using hx)) (l2 0 v x0 rfl rfl) h1
   refine g9 hr ?_ k2;rw [w5 ho hc];have hm:(c.args.map a.eval).toList=a.eval x0::xs0.map a.eval:=by simp [hargs]
   cases mx
   ·simp only [eM,if_false] at k1 ⊢;simp only [Go.builtin,Builtin.min_,hm,Sem.run_bind,k1,Result.andThen_ok,Sem.run_pure]
   ·simp only [if_true] at k1 ⊢;simp only [Go.builtin,Builtin.max_,hm,Sem.run_bind,k1,Result.andThen_ok,Sem.run_pure]
 ·cases hev
theorem Li {o:Oper} {t el:TypeId} {z:Nat} {x:Operand} {lo hi mx:Option Operand} {ax:AX} {al ah am:Option AX} {r:AV} {H':AH} (hr:HR F B0 w Z H) (he:EnvR F w Z H e a.tmps) (ho:o.op= .slice t x lo hi mx)
  (hu:P.underlying t=some (.slice el)) (hn:szOf P el=some z) (hx:cX P t x=some ax) (hl:oX P t lo=some al) (hh:oX P t hi=some ah) (hm:oX P t mx=some am) (hmh:am.isSome=true->ah.isSome=true)
  (hev:evOp e nx H (.slc z ax al ah am)=some (r,H')):OpOk P a o F B0 w Z H r H':=by
 cases hxv:evX e ax with
 | none=>simp [evOp,hxv] at hev
 | some xv=>
  exact eO (s:=Instr.sliceAt t (a.eval x) (lo.map a.eval) (hi.map a.eval) (mx.map a.eval)) hr (by unfold execOp;rw [ho])
   (Mo hu hn hxv (aO hx he hxv) (lS hl he) (lS hh he) (lS hm he) hmh hev)
theorem Ab (w:World) (Z:Beta) (H:AH):Tr w Z H w Z ⟨H.objs,H.next+1⟩:=
 ⟨.refl _ _,fun _ _ hm=> .inl hm,fun _ hk=>⟨Nat.lt_succ_of_lt hk.1,hk.2⟩,fun _ _ _ _ h=>⟨⟨_,h,rfl⟩,rfl⟩,fun _ _ _ h=>⟨⟨_,h⟩,rfl⟩,fun _ _ _ _ h=>⟨_,h,Qb _,fun _=>rfl⟩⟩
theorem Ko (hr:HR F B0 w Z H):HR F B0 w Z ⟨H.objs,H.next+1⟩:=
 ⟨hr.base,hr.far,hr.uniq,fun id h=>hr.next id (Nat.le_of_succ_le h),hr.inj,fun id ob h=>(hr.obj id ob h).tr (Ab w Z H) rfl (fun _ _ _=>rfl)⟩
theorem Ht {o:Oper} {t el:TypeId} {z:Nat} {x:Operand} {lo hi mx:Option Operand} {ax:AX} {al ah am:Option AX} {r:AV} {H':AH} (hr:HR F B0 w Z H) (he:EnvR F w Z H e a.tmps) (ho:o.op= .slice t x lo hi mx)
  (hu:P.underlying t=some (.slice el)) (hn:szOf P el=some z) (hx:cX P t x=some ax) (hl:oX P t lo=some al) (hh:oX P t hi=some ah) (hm:oX P t mx=some am) (hmh:am.isSome=true->ah.isSome=true)
  (hev:evOp e nx H (.slcH z ax al ah am)=some (r,H')):OpOk P a o F B0 w Z H r H':=by
 cases hxv:evX e ax with
 | none=>simp [evOp,hxv] at hev
 | some xv=>
  obtain ⟨v,h1,h2⟩:=Jm hu hn hxv (aO hx he hxv) (lS hl he) (lS hh he) (lS hm he) hmh hev;have hx1:execOp a.eval o=(do pure (.value (<- Instr.sliceAt t (a.eval x) (lo.map a.eval) (hi.map a.eval) (mx.map a.eval)))):=by unfold execOp;rw [ho]
  rcases h2 with ⟨h2,rfl⟩ | ⟨rfl,n,base,cap,rfl,rfl,h3,h4⟩
  ·exact g9 hr (by rw [hx1];simp [h1]) h2
  ·refine jO hx1 ⟨_,w,h1,Z,Ab w Z H,Ko hr,.l ⟨⟨Nat.lt_succ_self _,?_⟩,⟨_,_,rfl,h3,h4⟩,?_⟩⟩
   ·show H.get H.next≠some .res;rw [hr.next _ (Qb _)];simp
   ·intro z' es hl';have:H.get H.next=some (.row z' es):=hl';rw [hr.next _ (Qb _)] at this;cases this
theorem Hv {o:Oper} {t:TypeId} {x:Operand} {lo hi mx:Option Operand} {ax:AX} {al ah:Option AX} {r:AV} {H':AH} (hr:HR F B0 w Z H) (he:EnvR F w Z H e a.tmps) (ho:o.op= .slice t x lo hi mx)
  (hu:P.underlying t=some .string) (hx:cX P t x=some ax) (hl:oX P t lo=some al) (hh:oX P t hi=some ah) (hm:oX P t mx=some none)
  (hev:evOp e nx H (.sslc ax al ah)=some (r,H')):OpOk P a o F B0 w Z H r H':=by
 have hmx:mx=none:=by
  cases mx with
  | none=>rfl
  | some m=>
   simp only [oX] at hm;obtain ⟨y,_,hy⟩:=map_some hm;cases hy
 subst hmx;cases hxv:evX e ax with
 | none=>simp [evOp,hxv] at hev
 | some xv=>
  exact eO (s:=Instr.sliceAt t (a.eval x) (lo.map a.eval) (hi.map a.eval) none) hr (by unfold execOp;rw [ho];rfl)
   (Jn hu hxv (aO hx he hxv) (lS hl he) (lS hh he) hev)
theorem Fy {o:Oper} {t kt et:TypeId} {kd:Kd} {z:AV} {ok:Bool} {x k:Operand} {ax ak:AX} {r:AV} {H':AH} (hr:HR F B0 w Z H) (he:EnvR F w Z H e a.tmps) (ho:o.op= .lookup t x k ok)
  (hu:P.underlying t=some (.map kt et)) (hk:wC P kt=some kd) (hz:E5 P et=some z) (hx:cX P t x=some ax) (hkk:cX P kt k=some ak) (hev:evOp e nx H (.lookup kd z ok ax ak)=some (r,H')):OpOk P a o F B0 w Z H r H':=by
 simp only [evOp] at hev;split at hev
 ·rename_i xv kv hxv hkv;split at hev
  ·cases hev
  ·rename_i es hes;split at hev
   ·cases hev
   ·rename_i rr hrr;cases hev;obtain ⟨v,k1,k2⟩:=Hc (P:=P) (ok:=ok) hr hu hk hz (aO hx he hxv) (aO hkk he hkv) hes hrr;exact eO (s:=Instr.lookup t (a.eval x) (a.eval k) ok) hr (by unfold execOp;rw [ho]) ⟨v,k1,k2,rfl⟩
 ·cases hev
theorem Gc {o:Oper} {t kt et:TypeId} {kd:Kd} {x k v:Operand} {ax ak av:AX} {r:AV} {H':AH} (hr:HR F B0 w Z H) (he:EnvR F w Z H e a.tmps) (ho:o.op= .mapUpdate t x k v)
  (hu:P.underlying t=some (.map kt et)) (hk:wC P kt=some kd) (hx:cX P t x=some ax) (hkk:cX P kt k=some ak) (hvv:cX P et v=some av) (hev:evOp e nx H (.update kd ax ak av)=some (r,H')):OpOk P a o F B0 w Z H r H':=by
 simp only [evOp] at hev;split at hev
 ·rename_i id kv vv hxv hkv hvv2;split at hev
  ·rename_i es hget;split at hev
   ·rename_i hok;split at hev
    ·cases hev
    ·rename_i es' hes';cases hev;obtain ⟨w',h1,Z',h2,h3⟩:=Hd (P:=P) hr hu hk (aO hx he hxv) (aO hkk he hkv) (aO hvv he hvv2) hok hget hes';refine ⟨undef,w',.inr ⟨?_,rfl⟩,Z',h2,h3,.d (.tup [] #[] rfl (by simp))⟩;unfold execOp;rw [ho];simp [h1]
   ·cases hev
  ·cases hev
 ·cases hev
theorem Ds {o:Oper} {t xt:TypeId} {ok:Bool} {z:AV} {td:TypeDesc} {x:Operand} {ax:AX} {r:AV} {H':AH} (hr:HR F B0 w Z H) (he:EnvR F w Z H e a.tmps) (ho:o.op= .typeAssert x xt t ok)
  (hu:P.underlying t=some td) (hni:∀ms,td≠ .interface ms) (hz:E5 P t=some z) (hx:cX P xt x=some ax) (hev:evOp e nx H (.tassert t ok z ax)=some (r,H')):OpOk P a o F B0 w Z H r H':=by
 obtain ⟨zv,hz1,hz2⟩:=Y9 (F:=F) (w:=w) (Z:=Z) (H:=H) hz;have pair:∀(y:AV) (u:Value) (b:Bool),VRH F w Z H y u->VRH F w Z H (.tup [y,.bool b]) (.tuple #[u,.bool b]):=by
  intro y u b hy;refine .tup _ _ rfl ?_;intro i x' u' hx' hu'
  match i with
  | 0=>simp at hx' hu';subst hx';subst hu';exact hy
  | 1=>simp at hx' hu';subst hx';subst hu';exact .d (.bool b)
  | i+2=>simp at hx'
 simp only [evOp] at hev;split at hev
 ·rename_i u v hxv;obtain ⟨v',hv',hvv⟩:=DT (aO hx he hxv);split at hev
  ·rename_i hut;subst hut;cases hev;refine eO (s:=Instr.typeAssert (a.eval x) xt u ok) hr (by unfold execOp;rw [ho]) ⟨if ok then .tuple #[v',.bool true] else v',?_,?_,rfl⟩
   ·rw [hv'];cases td<;>first
     | (exact absurd rfl (hni _))
     | simp [Instr.typeAssert,aX w hu]
   ·cases ok
    ·exact hvv
    ·exact pair v v' true hvv
  ·rename_i hut;split at hev
   ·rename_i hok;cases hev;refine eO (s:=Instr.typeAssert (a.eval x) xt t ok) hr (by unfold execOp;rw [ho]) ⟨.tuple #[zv,.bool false],?_,pair z zv false hz2,rfl⟩;rw [hv',hok];cases td<;>first
     | (exact absurd rfl (hni _))
     | simp [Instr.typeAssert,aX w hu,hut,hz1]
   ·cases hev
 ·rename_i hxv;have hv':=N8 (aO hx he hxv);split at hev
  ·rename_i hok;cases hev;refine eO (s:=Instr.typeAssert (a.eval x) xt t ok) hr (by unfold execOp;rw [ho]) ⟨.tuple #[zv,.bool false],?_,pair z zv false hz2,rfl⟩;rw [hv',hok];cases td<;>first
    | (exact absurd rfl (hni _))
    | simp [Instr.typeAssert,aX w hu,hz1]
  ·cases hev
 ·cases hev
end
end Go.Av
namespace Go.Av
section
variable {F:Nat->Nat->Prop} {B0:Nat} {w:World} {Z:Beta} {H:AH} {P:Program} {a:Act} {e:Env} {nx:Nat}
theorem QG {n:Nat} {J:Nat->Nat->Prop} {esz b o:Nat} {es es':List (List AV)} {c:Array Value} (hb:Blk w b c)
  (hJ:∀i,J b i)
  (ih:∀e∈es,∀x∈e,∀y v,snap n H x=some y->VRH F w Z H x v->VRD w J y v)
  (hz:∀e∈es,e.length=esz)
  (hc:∀(i j:Nat) e x,es[i]? =some e->e[j]? =some x->∃v,c[o+i*esz+j]? =some v/\v.oneCell'=true/\VRH F w Z H x v)
  (hs:mapO (mapO (snap n H)) es=some es'):
  es'.length=es.length/\(∀e∈es',e.length=esz)/\∃vs:Nat->Nat->Value,
   (∀(i j:Nat) e x,es'[i]? =some e->e[j]? =some x->J b (o+i*esz+j)/\w.cell? ⟨b,o+i*esz+j,none⟩=some (vs i j)/\(vs i j).oneCell'=true)/\
   (∀(i j:Nat) e x,es'[i]? =some e->e[j]? =some x->VRD w J x (vs i j)):=by
 have key:∀(i j:Nat) e x,es'[i]? =some e->e[j]? =some x->∃v,c[o+i*esz+j]? =some v/\v.oneCell'=true/\VRD w J x v:=by
  intro i j e x he hx;obtain ⟨e0,h1,h2⟩:=dC hs he;obtain ⟨x0,h3,h4⟩:=dC h2 hx;obtain ⟨v,k1,k2,k3⟩:=hc i j e0 x0 h1 h3;exact ⟨v,k1,k2,ih e0 (Qe h1) x0 (Qe h3) x v h4 k3⟩
 refine ⟨(cN hs).symm,?_,fun i j=>(c[o+i*esz+j]?).getD default,?_,?_⟩
 ·intro e he;obtain ⟨i,hi,rfl⟩:=Ql.1 he;obtain ⟨e0,h1,h2⟩:=dC hs (i:=i) (b:=es'[i]) (by simp [hi]);rw [<- cN h2];exact hz e0 (Qe h1)
 ·intro i j e x he hx;obtain ⟨v,k1,k2,k3⟩:=key i j e x he hx;obtain ⟨ty,hb⟩:=hb;simp only [k1,A2];exact ⟨hJ _,cell_iff.2 ⟨c,ty,(0,0),hb,k1⟩,k2⟩
 ·intro i j e x he hx;obtain ⟨v,k1,k2,k3⟩:=key i j e x he hx;simp only [k1,A2];exact k3
theorem QO (hr:HR F B0 w Z H) {u b j:Nat} (h:Imm F Z H b j):Imm F Z (H.kill u) b j:=by
 refine ⟨?_,h.2⟩;rintro ⟨id,ob,o,h1,h2,h3⟩;rw [mR hr] at h1;split at h1
 ·cases h1
 ·exact h.1 ⟨id,ob,o,h1,h2,h3⟩
theorem ZR {U:Type} (c:List U):∀(n i j:Nat),i<n->j<c.length->((List.replicate n c).flatten)[i*c.length+j]? =c[j]?
 | 0,_,_,h,_=>by omega
 | n+1,0,j,_,hj=>by
  rw [List.replicate_succ,FO,Qj (by omega)];simp
 | n+1,i+1,j,hi,hj=>by
  rw [List.replicate_succ,FO,Qn (by rw [cG];omega)];rw [show (i+1)*c.length+j - c.length=i*c.length+j by rw [cG];omega];exact ZR c n i j (by omega) hj
theorem Fv {o:Oper} {t el:TypeId} {z c:List AV} {n:Nat} {r:AV} {H':AH} (hfr:Free H nx) (hr:HR F B0 w Z H) (ho:o.op= .alloc t) (hu:P.underlying t=some (.array n el)) (hz:eP P t=some z) (hc:n7 P 19 el=some c)
  (hev:evOp e nx H (.alloca n c)=some (r,H')):OpOk P a o F B0 w Z H r H':=by
 simp only [evOp] at hev;cases hev;have hzt:=Af hz;unfold n7 at hzt;rw [hu] at hzt;simp only [hc,A3,Option.some.injEq] at hzt;obtain ⟨zv,h1,h2⟩:=DX (F:=F) (w:=w) (Z:=Z) (H:=H) hz;have hlen:z.length=n*c.length:=by rw [<- hzt];simp [List.length_flatten]
 refine jO (s:=Instr.alloc t true (.tuple #[])) (by unfold execOp;rw [ho]) ⟨.pointer (some ⟨w.heap.size,0,none⟩),w.alloc (.cells zv.cells t),by simp [Instr.alloc,h1,newVar,newRow],?_⟩;obtain ⟨g1,g2⟩:=NJ hfr hr zv.cells t c.length (List.replicate n c) (fun x hx=>by rw [(List.mem_replicate.1 hx).2]) (by
   have:=h2.1;simp at this;simp;omega) (by
  intro i j x y hx hy;rw [List.getElem?_replicate] at hx;split at hx
  ·rename_i hi;cases hx;have hj:j<c.length:=(Qk.1 hy).1;have hg:z[i*c.length+j]? =some y:=by rw [<- hzt,ZR c n i j hi hj];exact hy
   obtain ⟨u,q1,q2,q3⟩:=h2.get hg;exact ⟨u,by simpa using q1,q2,q3⟩
  ·cases hx)
 exact ⟨_,g1,g2,YZ (vC hr hfr (by simp)) (cU _ _ _)⟩
theorem I' (W:World) {t el:TypeId} {z n:Nat} (ha:P.underlying t=some (.array n el)) (hn:szOf P el=some z) {b k l h m:Nat} {vl vh vm:Option Value}
  (hb:(Instr.sliceBounds false n n vl vh vm).run P W= .ok (l,h,m) W):
  (Instr.sliceAt t (.pointer (some ⟨b,k,none⟩)) vl vh vm).run P W= .ok (.slice (some (if m=l then ⟨b,k,none⟩ else ⟨b,k+l*z,none⟩)) (h - l) (m - l)) W:=by
 simp [Instr.sliceAt,aX W ha,hb,gA W hn,Instr.sureAddr,lR]
section
variable {t el:TypeId} {z n:Nat} {o:Oper} {x:Operand} {lo hi mx:Option Operand} {ax:AX} {al ah am:Option AX} {r:AV} {H':AH}
theorem YT (hr:HR F B0 w Z H) (he:EnvR F w Z H e a.tmps) (hx:cX P t x=some ax) {id:Nat} (hxv:evX e ax=some (.ptr id z 0 0)) {es:List (List AV)} (hget:H.get id=some (.row z es)):
  ∃b k c,a.eval x= .pointer (some ⟨b,k,none⟩)/\Z id=some (b,k)/\B0<=b/\Blk w b c/\k+es.length*z<=c.size/\(∀e∈es,e.length=z)/\
   ∀(i j:Nat) e x,es[i]? =some e->e[j]? =some x->∃v,c[k+i*z+j]? =some v/\v.oneCell'=true/\VRH F w Z H x v:=by
 obtain ⟨h1,_,h3⟩:=mW (aO hx he hxv);obtain ⟨b,k,k1,k2⟩:=h3 _ _ hget;obtain ⟨b',k',c,m1,m2,m3,m4,m5,m6⟩:=hr.obj id _ hget;rw [k1] at m1;cases m1;exact ⟨b,k,c,by simpa using k2,k1,m2,m3,m4,m5,m6⟩
theorem Hs (hr:HR F B0 w Z H) (he:EnvR F w Z H e a.tmps) (ho:o.op= .slice t x lo hi mx) (ha:P.underlying t=some (.array n el)) (hn:szOf P el=some z) (hx:cX P t x=some ax)
  (hl:oX P t lo=some al) (hh:oX P t hi=some ah) (hm:oX P t mx=some am) (hmh:am.isSome=true->ah.isSome=true) (hev:evOp e nx H (.sarr z n ax al ah am)=some (r,H')):OpOk P a o F B0 w Z H r H':=by
 simp only [evOp] at hev;split at hev
 ·rename_i id z' hxv;split at hev
  ·rename_i z2 es hget;split at hev
   ·rename_i hz;obtain ⟨hz1,hz2,hlen⟩:=hz;rw [hz1] at hxv;rw [hz2] at hget;split at hev
    ·rename_i l h mo hb;split at hev
     ·rename_i hmo;cases hev;obtain ⟨b,k,c,q1,q2,q3,q4,q5,q6,q7⟩:=YT hr he hx hxv hget;obtain ⟨k1,k2,k3,k4⟩:=ET (P:=P) false hb (Qb n) (lS hl he) (lS hh he) (lS hm he) hmh;rw [hmo] at k1;have hk:=(mW (aO hx he hxv)).1;refine eO (s:=Instr.sliceAt t (a.eval x) (lo.map a.eval) (hi.map a.eval) (mx.map a.eval)) hr (by unfold execOp;rw [ho]) ⟨_,by rw [q1];exact I' w ha hn k1,.l ⟨hk,⟨_,n - l,rfl,by omega,.inr ⟨b,if n=l then k else k+l*z,by split<;>rfl⟩⟩,?_⟩,rfl⟩;intro z3 es3 hg3;rw [hget] at hg3;cases hg3;refine ⟨b,k,_,n - l,c,q2,rfl,by omega,?_,q4,?_,by omega⟩
      ·by_cases e0:n=l
       ·left;omega
       ·right;rw [a8 e0]
      ·rw [show l+(n - l)=n by omega,<- hlen];exact q5
     ·cases hev
    ·cases hev
   ·cases hev
  ·cases hev
 ·cases hev
theorem Hm (hr:HR F B0 w Z H) (he:EnvR F w Z H e a.tmps) (ho:o.op= .slice t x lo hi mx) (ha:P.underlying t=some (.array n el)) (hn:szOf P el=some z) (hx:cX P t x=some ax)
  (hl:oX P t lo=some al) (hh:oX P t hi=some ah) (hm:oX P t mx=some am) (hmh:am.isSome=true->ah.isSome=true) (hev:evOp e nx H (.sarrF z n ax al ah am)=some (r,H')):OpOk P a o F B0 w Z H r H':=by
 simp only [evOp] at hev;split at hev
 ·rename_i id z' hxv;split at hev
  ·rename_i z2 es hget;split at hev
   ·rename_i hz;obtain ⟨hz1,hz2,hlen,hbr⟩:=hz;rw [hz1] at hxv;rw [hz2] at hget;split at hev
    ·rename_i l h mo hb;obtain ⟨es',hm',h2⟩:=map_some hev;cases h2;obtain ⟨b,k,c,q1,q2,q3,q4,q5,q6,q7⟩:=YT hr he hx hxv hget;obtain ⟨k1,k2,k3,k4⟩:=ET (P:=P) false hb (Qb n) (lS hl he) (lS hh he) (lS hm he) hmh;have hmn:h<=mo.getD n/\mo.getD n<=n:=by
      cases mo with
      | none=>simp;omega
      | some m=>exact k4 m rfl
     have hl2:((es.drop l).take (h - l)).length=h - l:=by simp;omega
     have hJ:∀i,Imm F Z (H.kill id) b i:=by
      intro i;refine ⟨?_,fun hf=>by have:=hr.far b i hf;omega⟩;rintro ⟨id',ob,o',h1,h2,h3⟩;rw [mR hr] at h1;split at h1
      ·cases h1
      ·rename_i hne;exact hne (hr.inj id id' _ ob b _ o' hget h1 q2 h2)
     obtain ⟨p0,p1,vs,p2,p3⟩:=QG (J:=Imm F Z (H.kill id)) (o:=k+l*z) q4 hJ
      (fun e he x hx y v hs hv=>(CF aA x y v hs (gB hbr x (by
       rw [wJ];exact ⟨e,nI (Qr he),hx⟩)) hv).mono fun b j u hi hcell=>⟨QO hr hi,hcell⟩)
      (fun e he=>q6 e (nI (Qr he))) (by
       intro i j e x he hx;rw [List.getElem?_take] at he;split at he
       ·rw [List.getElem?_drop] at he;obtain ⟨u,n1,n2,n3⟩:=q7 _ j e x he hx;refine ⟨u,?_,n2,n3⟩;rw [<- n1,cG];congr 1;omega
       ·cases he) hm'
     rw [hl2] at p0;refine ⟨_,w,.inl (by
      have hx1:execOp a.eval o=(do pure (.value (<- Instr.sliceAt t (a.eval x) (lo.map a.eval) (hi.map a.eval) (mx.map a.eval)))):=by unfold execOp;rw [ho]
      have hx2:=I' w ha hn k1 (b:=b) (k:=k);rw [hx1,q1];simp [hx2];rfl),Z,z7 hr id,lP hr id,.d ?_⟩
     rcases Qt (h - l) with hl0 | hlp
     ·have:es'=[]:=Qf (by omega);subst this;rw [hl0];exact .slice0 _ _ _
     ·rw [a8 (by omega),<- p0];exact .slice z es' b _ _ vs (by intro e;rw [e] at p0;simp at p0;omega) p1 (by omega) p2 p3
    ·cases hev
   ·cases hev
  ·cases hev
 ·cases hev
end
end
end Go.Av
namespace Go.Av
variable {nx:Nat}
theorem YB:∀{a:List AV} {b:List Value},mX a b=true->a.length=b.length
 | [],[],_=>rfl
 | [],_::_,h=>by cases h
 | _::_,[],h=>by cases h
 | a::r,b::s,h=>by
  simp only [mX,QA] at h;simp [YB h.2]
theorem N5 {P:Program} {t el:TypeId} (h:CH P t=some el):P.underlying t=some (.slice el):=by
 unfold CH at h;split at h
 ·rename_i e he;cases h;exact he
 ·cases h
section
variable {F:Nat->Nat->Prop} {B0:Nat} {w:World} {Z:Beta} {H:AH} {P:Program} {A:Ann} {fn:FuncId} {e:Env} {a:Act}
theorem YW {o:Oper} {t k el:TypeId} {rs:Option Operand} {r:AV} {H':AH} (hfr:Free H nx) (hr:HR F B0 w Z H) (ho:o.op= .makeMap t rs) (hu:P.underlying t=some (.map k el))
  (hrs:rs=none\/∃q n,rs=some (.const (.int q n))) (hev:evOp e nx H .mkmap=some (r,H')):OpOk P a o F B0 w Z H r H':=by
 simp only [evOp] at hev;cases hev;refine jO (s:=Instr.makeMap t (rs.map a.eval)) (by unfold execOp;rw [ho]) (Iq hfr hr hu ?_);rcases hrs with rfl | ⟨q,n,rfl⟩
 ·exact .inl rfl
 ·exact .inr ⟨q,n,rfl⟩
theorem Hr {o:Oper} {c:Call} {b:Builtin} {ao:AOp} {r:AV} {H':AH} (hfr:Free H nx) (hr:HR F B0 w Z H) (he:EnvR F w Z H e a.tmps) (ho:o.op= .call c) (hc:c.callee= .builtin b)
  (h:zA P A fn o c=some ao) (hev:evOp e nx H ao=some (r,H')):OpOk P a o F B0 w Z H r H':=by
 unfold zA at h;rw [hc] at h;cases b
 case len=>
  simp only at h;split at h
  ·rename_i t x ht hx;split at h
   ·rename_i e0 ax hu hax;cases h;exact Lh hr he ho hc ht hx hu hax hev
   ·rename_i ax hu hax;cases h;exact Hu hr he ho hc ht hx hu hax hev
   ·rename_i k el ax hu hax;cases h;exact Je hr he ho hc ht hx hu hax hev
   ·rename_i n el hu;cases h;simp only [evOp,evX,A3] at hev;cases hev;refine g9 (v:= .int .i64 n) hr ?_ (.d (.int _ _));rw [w5 ho hc,arr1 ht,arr1 hx];simp [Go.builtin,Builtin.len_,aX w hu,goInt]
   ·cases h
  ·cases h
 case cap=>
  simp only at h;split at h
  ·rename_i t x ht hx;split at h
   ·rename_i e0 ax hu hax;cases h;exact Lc hr he ho hc ht hx hu hax hev
   ·cases h
  ·cases h
 case append=>
  simp only at h;split at h
  ·rename_i t u x y ht hx;split at h
   ·rename_i el ax ay hel hax hay;split at h
    ·rename_i z hz;split at h
     ·cases h
     ·rename_i hchk;cases h;have ht':=N5 hel;simp only [A4,not_or,PV,Bool.not_eq_false',decide_eq_true_eq,Option.isNone_eq_false_iff,beq_eq_false_iff_ne] at hchk;obtain ⟨⟨⟨⟨c1,c2⟩,c3⟩,c4⟩,c5⟩:=hchk;obtain ⟨zz,c6,c7⟩:=map_some c5;obtain ⟨i,zv,k1,k2,k3⟩:=N9 c6;refine Fw hfr hr he ho hc ht hx ⟨ht',hz,c2,?_,c3,i,zv,k1,k2,?_⟩ hax hay hev
      ·obtain ⟨d,hd⟩:=Option.isSome_iff_exists.1 c4;refine ⟨d,hd,?_⟩;intro k hk;subst hk;unfold intT at c1;rw [hd] at c1;cases c1
      ·have:=YB k3;rw [<- c7,this];simp
    ·cases h
   ·cases h
  ·cases h
 case copy=>
  simp only at h;split at h
  ·rename_i t u x y ht hx;split at h
   ·rename_i el ax ay hel hax hay;split at h
    ·rename_i z hz;split at h
     ·cases h
     ·cases h;exact Ja hr he ho hc ht hx (N5 hel) hz hax hay hev
    ·cases h
   ·cases h
  ·cases h
 case clear=>
  simp only at h;split at h
  ·rename_i t x ht hx;split at h
   ·rename_i el ax hel hax;obtain ⟨z,hz,rfl⟩:=map_some h;exact Hj hr he ho hc ht hx (N5 hel) hz hax hev
   ·cases h
  ·cases h
 case min=>
  simp only at h;obtain ⟨xs,hxs,rfl⟩:=map_some h;exact YQ (mx:=false) hr he ho hc hxs hev
 case max=>
  simp only at h;obtain ⟨xs,hxs,rfl⟩:=map_some h;exact YQ (mx:=true) hr he ho hc hxs hev
 all_goals exact absurd h (by simp)
theorem Ir {o:Oper} {ao:AOp} {r:AV} {H':AH} (hfr:Free H nx) (hr:HR F B0 w Z H) (he:EnvR F w Z H e a.tmps)
  (h:cOp P A fn o=some ao) (hev:evOp e nx H ao=some (r,H')):OpOk P a o F B0 w Z H r H':=by
 unfold cOp at h;split at h
 ·rename_i x ho;obtain ⟨ax,hx,rfl⟩:=map_some h;exact UY hr he (by simp [execOp,ho]) hx hev
 ·rename_i x ho;split at h
  ·split at h
   ·split at h
    ·rename_i el hel;obtain ⟨z,hz,rfl⟩:=map_some h;exact Ga hfr hr (by simp [execOp,ho,Act.eval]) hev
    ·cases h
   ·obtain ⟨ax,hx,rfl⟩:=map_some h;exact UY hr he (by simp [execOp,ho]) hx hev
  ·obtain ⟨ax,hx,rfl⟩:=map_some h;exact UY hr he (by simp [execOp,ho]) hx hev
 ·rename_i c x y ho;split at h
  ·rename_i ac ax ay hc hx hy;cases h;exact Jf hr he (by simp [execOp,ho]) hc hx hy hev
  ·cases h
 ·rename_i t ho;split at h
  ·split at h
   ·rename_i n el z hu hz;cases hc:n7 P 19 el with
    | none=>rw [hc] at h;cases h
    | some c=>
     rw [hc] at h;obtain ⟨_,h⟩:=RQ.1 h;cases h;exact Fv hfr hr ho hu hz hc hev
   ·cases h
  ·obtain ⟨z,hz,rfl⟩:=map_some h;exact Hi hfr hr ho hz hev
 ·rename_i t x ho;obtain ⟨ax,hx,rfl⟩:=map_some h;split at hev
  ·exact Iy hr he ho hx hev
  ·exact Lb hfr hr he ho hx hev
 ·rename_i t parts ho;split at h
  ·rename_i fs z hu hz;obtain ⟨aps,hp,rfl⟩:=map_some h;exact Bk hr he ho hu hz hp hev
  ·rename_i m el z hu hz;split at h
   ·rename_i n hn;obtain ⟨aps,hp,rfl⟩:=map_some h;exact Bp hr he ho hu hz hn hp hev
   ·cases h
  ·cases h
 ·rename_i t len parts ho;split at h
  ·rename_i el hel;split at h
   ·rename_i n z hn hz;split at h
    ·rename_i hc;obtain ⟨aps,hp,rfl⟩:=map_some h;refine Fx hfr hr he ho (N5 hel) hn hz hc.1 hc.2.1 hc.2.2.1 ?_ hp hev;intro p hp;have:=Qo.1 hc.2.2.2 p hp;simpa using this
    ·cases h
   ·cases h
  ·cases h
 ·rename_i t x ho;split at h
  ·rename_i g n ax hg hn hx;cases h;exact Jd hr he ho hg hn hx hev
  ·cases h
 ·rename_i t x v ho;split at h
  ·rename_i n ax av hn hx hv;cases h;exact Hn hr he ho hn hx hv hev
  ·cases h
 ·rename_i x ho;obtain ⟨ax,hx,rfl⟩:=map_some h;exact Gb hr he ho hx hev
 ·rename_i op t x y u ho;split at h
  ·rename_i ax ay hx hy;split at h
   ·rename_i hop;have hop':op= .eql\/op= .neq:=by
     rcases Bool.or_eq_true_iff.1 hop with k | k
     ·exact .inl (by simpa using k)
     ·exact .inr (by simpa using k)
    split at h
    ·cases h;exact X' hr he ho hx hy hev
    ·split at h
     ·rename_i ks g hks hg;cases h;exact Le hr he ho hop' hks hg hx hy hev
     ·split at h
      ·rename_i el hel;cases h;exact Ld hr he ho hop' hel hx hy hev
      ·rename_i ms hms;split at h
       ·cases h;exact Y' hr he ho hop' hms (.inl ⟨⟨_,rfl⟩,rfl⟩) hx hy hev
       ·cases h
      ·rename_i ps rs vv hms;split at h
       ·cases h;exact Y' hr he ho hop' hms (.inr ⟨⟨_,_,_,rfl⟩,rfl⟩) hx hy hev
       ·cases h
      ·cases h
   ·split at h
    ·cases h;exact X' hr he ho hx hy hev
    ·cases h
  ·cases h
 ·rename_i op t x ho;obtain ⟨ax,hx,rfl⟩:=map_some h;exact Lw hr he ho hx hev
 ·rename_i s d x ho;split at h
  ·rename_i k0 k ax hs hd hx;cases h;exact Iz hr he ho hs hd hx hev
  ·rename_i ax hs hd hx;cases h;exact Jg hr he ho hs hd hx hev
  ·rename_i el ax hs hd hx;split at h
   ·rename_i hel;cases h;exact La hr he ho hs hel hd hx hev
   ·cases h
  ·cases h
 ·rename_i t x ho;split at h
  ·cases h
  ·rename_i td hni hu;obtain ⟨ax,hx,rfl⟩:=map_some h;exact Dq hr he ho hu (fun ms hm=>hni ms hm) hx hev
  ·cases h
 ·rename_i f first caps ho
  split at h
  ·rename_i af ac h1 h2;cases h;exact Fz hr he ho h1 h2 hev
  ·cases h
 ·rename_i t rs ho;split at h
  ·rename_i k el hu;split at h
   ·cases h;exact YW hfr hr ho hu (.inl rfl) hev
   ·cases h;exact YW hfr hr ho hu (.inr ⟨_,_,rfl⟩) hev
   ·cases h
  ·cases h
 ·rename_i t l c ho;split at h
  ·rename_i el hel;split at h
   ·rename_i n z al ac hn hz hl hc;split at h
    ·rename_i hchk;cases h;exact Dr hfr hr he ho (N5 hel) hn hz hchk.1 hchk.2 hl hc hev
    ·cases h
   ·cases h
  ·cases h
 ·rename_i t x lo hi mx ho;split at h
  ·rename_i ax al ah hu hx hl hh hm;cases h;exact Hv hr he ho hu hx hl hh hm hev
  ·rename_i n el ax al ah am ha hx hl hh hm;split at h
   ·rename_i z hz;split at h
    ·cases h
    ·rename_i hchk;have hmh:am.isSome=true->ah.isSome=true:=by
      intro hs;cases hah:ah.isSome with
      | true=>rfl
      | false=>exact absurd (.inr ⟨hs,hah⟩) hchk
     split at h
     ·cases h;exact Hm hr he ho ha hz hx hl hh hm hmh hev
     ·cases h;exact Hs hr he ho ha hz hx hl hh hm hmh hev
   ·cases h
  ·rename_i el ax al ah am hu hx hl hh hm;split at h
   ·rename_i z hz;split at h
    ·cases h
    ·rename_i hchk;have hmh:am.isSome=true->ah.isSome=true:=by
      intro hs;cases hah:ah.isSome with
      | true=>rfl
      | false=>exact absurd (.inr ⟨hs,hah⟩) hchk
     split at h
     ·cases h;exact Ht hr he ho hu hz hx hl hh hm hmh hev
     ·cases h;exact Li hr he ho hu hz hx hl hh hm hmh hev
   ·cases h
  ·cases h
 ·rename_i t x i ho;split at h
  ·rename_i f ax hf hx;split at h
   ·rename_i n hn;split at h
    ·cases h
    ·rename_i h0;cases h;exact Hk hr he ho hf hn h0 hx hev
   ·cases h
  ·cases h
 ·rename_i t x i ho;split at h
  ·rename_i f ax hf hx;split at h
   ·rename_i g n hg hn;cases h;exact Lg hr he ho hf hg hn hx hev
   ·cases h
  ·cases h
 ·rename_i t x i ho;split at h
  ·rename_i el ax ai hu hx hi;split at h
   ·rename_i z hz;cases h;exact Hl hr he ho hu hz hx hi hev
   ·cases h
  ·rename_i n el ax ai hu hx hi;split at h
   ·rename_i z hz;cases h;exact Cb hr he ho hu hz hx hi hev
   ·cases h
  ·cases h
 ·rename_i t x i ho;split at h
  ·rename_i ax ai hu hx hi;cases h;exact Jc hr he ho hu hx hi hev
  ·rename_i n el ax ai hu hx hi;split at h
   ·rename_i g z hg hz;cases h;exact Jb hr he ho hu hg hz hx hi hev
   ·cases h
  ·cases h
 ·rename_i t x k ok ho;split at h
  ·rename_i kt et hu;split at h
   ·rename_i ax ak z kd hx hk hz hkd;cases h;exact Fy hr he ho hu hkd hz hx hk hev
   ·cases h
  ·cases h
 ·rename_i t m k v ho;split at h
  ·rename_i kt et hu;split at h
   ·rename_i ax ak av kd hx hk hv hkd;cases h;exact Gc hr he ho hu hkd hx hk hv hev
   ·cases h
  ·cases h
 ·rename_i x xt t ok ho;split at h
  ·cases h
  ·rename_i td hni hu;split at h
   ·rename_i ax z hx hz;cases h;exact Ds hr he ho hu (fun ms hm=>hni ms hm) hz hx hev
   ·cases h
  ·cases h
 ·rename_i x i ho;obtain ⟨ax,hx,rfl⟩:=map_some h;exact Lf hr he ho hx hev
 ·rename_i c ho;cases hc:c.callee with
  | builtin b=>exact Hr hfr hr he ho hc h hev
  | invoke rv nm=>
   unfold zA at h;rw [hc] at h;cases rv with
   | tmp t=>
    simp only at h;split at h
    ·cases h;split at hev<;>cases hev
    ·cases h
   | func f=>cases h
   | const v=>cases h
   | global g=>cases h
  | value f=>
   unfold zA at h;rw [hc] at h;cases f with
   | tmp t=>
    simp only at h;split at h
    ·cases h;split at hev<;>cases hev
    ·cases h
   | func f=>
    simp only at h;split at h
    ·split at h
     ·cases h
      (repeat' split at hev)<;>cases hev
     ·cases h
    ·cases h
   | const v=>cases h
   | global g=>cases h
 ·rename_i x ho;obtain ⟨ax,hx,rfl⟩:=map_some h;cases hev
 ·cases h
end
end Go.Av
