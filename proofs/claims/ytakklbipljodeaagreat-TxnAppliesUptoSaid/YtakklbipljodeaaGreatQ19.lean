/-
 Initial contents of registers: the program's.
-/
import Derived.Test.YtakklbipljodeaaGreatV2
set_option linter.unusedVariables false
set_option linter.unusedSimpArgs false
set_option linter.constructorNameAsVariable false
namespace Go.Av
set_option maxRecDepth 4000
def RegV (T:List (Nat×AO)) (x:AV) (r:Register):Prop:=(x= .fslice 1 []∧regN r=0)∨∃id,1≤id∧x= .row id 1 0 (regN r)∧look id T=some (.row 1 (List.replicate (regN r) [.int .u32 0]))
inductive RegL (T:List (Nat×AO)):List AV→List Register→Prop
 | nil:RegL T [] []
 | snoc {A rs x r} (h:RegL T A rs) (hx:RegV T x r):RegL T (A++[x]) (rs++[r])
theorem RegV.app {T:List (Nat×AO)} {x:AV} {r:Register} (h:RegV T x r) (U:List (Nat×AO)):RegV (T++U) x r:=by
 rcases h with h | ⟨id,h1,h2,h3⟩
 ·exact .inl h
 ·exact .inr ⟨id,h1,h2,by rw [qd8,h3];simp⟩
theorem RegL.app {T:List (Nat×AO)} {A:List AV} {rs:List Register} (h:RegL T A rs) (U:List (Nat×AO)):RegL (T++U) A rs:=by
 induction h with
 | nil=>exact .nil
 | snoc h hx ih=>exact .snoc ih (hx.app U)
theorem RegL.len {T:List (Nat×AO)} {A:List AV} {rs:List Register} (h:RegL T A rs):A.length=rs.length:=by
 induction h with
 | nil=>rfl
 | snoc h hx ih=>simp [ih]
theorem qsb (H:AH) (k:Nat):∀m,mapO (mapO (snap 38 H)) (List.replicate m [AV.int .u32 k])=some (List.replicate m [AV.int .u32 k])
 | 0=>by simp [mapO]
 | m+1=>by
  have ih:=qsb H k m;simp only [List.replicate_succ,mapO,ih];simp
theorem qp9 {α β:Type} (f:α→Option β):∀(l:List α) (x:α) (l':List β) (y:β),mapO f l=some l'→f x=some y→mapO f (l++[x])=some (l'++[y])
 | [],x,l',y,h,hy=>by
  simp [mapO] at h;subst h;simp [mapO,hy]
 | a::l,x,l',y,h,hy=>by
  simp only [mapO] at h;cases hb:f a with
  | none=>rw [hb] at h;cases h
  | some b=>
   rw [hb] at h;cases hm:mapO f l with
   | none=>rw [hm] at h;cases h
   | some m=>
    rw [hm] at h;cases h;have ih:=qp9 f l x m y hm hy;simp only [List.cons_append,mapO,hb,ih]
theorem RegL.snp {T:List (Nat×AO)} {A:List AV} {rs:List Register} (h:RegL T A rs) (o:AO) (n:Nat):
  mapO (mapO (snap 39 ⟨(0,o)::T,n⟩)) (A.map fun x=>[x])=some (rs.map fun r=>[AV.slice 1 (List.replicate (regN r) [.int .u32 0])]):=by
 induction h with
 | nil=>simp [mapO]
 | snoc h hx ih=>
  rw [List.map_append,List.map_append];refine qp9 _ _ _ _ _ ih ?_;rcases hx with ⟨rfl,h0⟩ | ⟨id,h1,rfl,h3⟩
  ·simp [mapO,h0]
  ·have hi:¬(0=id):=by omega
   have hr:=qsb ⟨(0,o)::T,n⟩ 0;simp at hr;simp [mapO,look,hi,h3,hr]
theorem qxt {O O':List (Nat×AO)} {N N' k:Nat} {X:Nat→Prop} (hK:Kp X N O O') (hT:Tail O' N') (hN:N≤N') (o:AO):Kp X N O (O'++[(N'+k,o)])∧Tail (O'++[(N'+k,o)]) (N'+k+1)∧look (N'+k) (O'++[(N'+k,o)])=some o:=by
 refine ⟨?_,?_,?_⟩
 ·intro j hj hx;have:¬N'+k=j:=by omega
  rw [qal,hK j hj hx];simp [this]
 ·rw [qb6,qbo];exact ⟨hT.mono (by omega),by omega,Tail.nil _⟩
 ·rw [qal,hT _ (by omega)];simp
theorem hp_mv {O O':List (Nat×AO)} {N N' k id:Nat} {X:Nat→Prop} (hK:Kp X N O O') (hT:Tail O' N') (hN:N≤N') (hid:N≤id) (o:AO):Kp X N O (qbf id O'++[(N'+k,o)])∧Tail (qbf id O'++[(N'+k,o)]) (N'+k+1)∧look (N'+k) (qbf id O'++[(N'+k,o)])=some o:=by
 have h1:Kp X N O (qbf id O'):=by
  intro j hj hx;rw [qda (by omega),hK j hj hx]
 exact qxt h1 (qfb hT) hN o
theorem qxr {l:List Rw} {i:Nat} {es0:List (List AV)} (hi:i<l.length) (ht:es0.take (l.map Rw.c).length=l.map Rw.c):es0[i]? =some (Rw.c l[i]):=by
 have h:(es0.take (l.map Rw.c).length)[i]? =(l.map Rw.c)[i]? :=by rw [ht]
 rw [List.getElem?_take_of_lt (by simpa using hi)] at h;rw [h];simp [hi]
section
variable {β:Type} {fin:Option (Ex×St)→Option β}
theorem que (l:List Rw) (hs:∀r∈l,rowS r) (hl:l.length<2^39) (v:AV) (K:List Fr) (Q:Option β→Prop) (e:Env) (O:List (Nat×AO)) (N:Nat) (hT:Tail O N) (hv:Re O 5 v (l.map Rw.c))
  (h6:look 6 e=some (.fslice 5 [])) (h24:look 24 e=some v) (h25:look 25 e=some (.int .i64 l.length)) (h26:look 26 e=some (.int .i64 0))
  (hK:∀e' O' N' w,Mu O' 5 w (l.map Rw.c)→(∀j,vid w=some j→N≤j)→(∀z es t,w≠ .app z es t)→Kp (fun _=>False) N O O'→Tail O' N'→N≤N'→look 6 e'=some w→
   look 1 e'=look 1 e→look 2 e'=look 2 e→look 3 e'=look 3 e→look 18 e'=look 18 e→look 19 e'=look 19 e→look 20 e'=look 20 e→Q (go Φ fin K .normal ⟨e',⟨O',N'⟩⟩)):
  Q (go Φ fin (.c (.loop c_76_l0):: .b 2::K) .normal ⟨e,⟨O,N⟩⟩):=by
 refine qhg l.length (fun i e' h=>∃O' N' w,h=⟨O',N'⟩∧((i=0∧w= .fslice 5 [])∨∃id,w= .row id 5 0 i∧look id O'=some (.row 5 ((l.take i).map Rw.c))∧N≤id)∧Kp (fun _=>False) N O O'∧Tail O' N'∧N≤N'∧look 6 e'=some w∧look 24 e'=some v∧look 25 e'=some (.int .i64 l.length)∧look 26 e'=some (.int .i64 i)∧
   look 1 e'=look 1 e∧look 2 e'=look 2 e∧look 3 e'=look 3 e∧look 18 e'=look 18 e∧look 19 e'=look 19 e∧look 20 e'=look 20 e) Q ?_ ?_ 0 _ _ (Nat.zero_le _) ?_
 ·rintro i e' _ L hi hL ⟨O',N',w,rfl,hw,hk,hT',hN,h6,h24,h25,h26,g1,g2,g3,g18,g19,g20⟩ ih;have hw1:IntKind.wrap .i64 ((i:Int)+1)=((i+1:Nat):Int):=qac (by omega) (by omega);have hc:=qaco l[i] (hs _ (List.getElem_mem hi));have hT0:=hT' N' (Nat.le_refl _);have hT1:=hT' (N'+1) (by omega);have hm:min i l.length=i:=by omega
  have hd1:∀id,look (N'+1) (qbf id O')=none:=fun id=>qeg _ hT1
  have htk:(l.map Rw.c).take (i+1)=(l.map Rw.c).take i++[Rw.c l[i]]:=qa1 hi;rw [Rw.ce] at htk;have hb:(i+1)*72≤70368744177664:=by omega
  simp only [Rw.ce] at hc;have hv':Re O' 5 v (l.map Rw.c):=by
   refine hv.fr fun j hj=>?_
   cases hv with
   | row id _ es0 n hn hl hle ht=>cases hj;exact hk j (hT.lt hl) (by simp)
   | sl=>cases hj
   | fs=>cases hj
   | ap=>cases hj
  have hw0:min i (l.map Rw.c).length=i:=by simp;omega
  rcases hw with ⟨rfl,rfl⟩ | ⟨id,rfl,hlk,hid⟩
  ·obtain ⟨a1,a2,a3⟩:=qxt (k:=1) hk hT' hN (.row 5 ((l.take (0+1)).map Rw.c));cases hv' with
   | row id' _ es0 n hn hl' hle ht=>
    have h0:=qxr hi ht;simp [c_76_l0,Rw.ce,h6,h24,h25,h26,hi,hc,hT0,hT1,hn,hl',h0,wr1];refine ih _ _ ⟨_,N'+1+1,.row (N'+1) 5 0 (0+1),by simp at htk;simp [htk],.inr ⟨N'+1,rfl,a3,by omega⟩,a1,a2,by omega,?_,?_,?_,?_,?_,?_,?_,?_,?_,?_⟩<;>simp [*]
   | _=>
    simp [c_76_l0,Rw.ce,h6,h24,h25,h26,hi,hc,hT0,hT1,wr1];refine ih _ _ ⟨_,N'+1+1,.row (N'+1) 5 0 (0+1),by simp at htk;simp [htk],.inr ⟨N'+1,rfl,a3,by omega⟩,a1,a2,by omega,?_,?_,?_,?_,?_,?_,?_,?_,?_,?_⟩<;>simp [*]
  ·obtain ⟨a1,a2,a3⟩:=hp_mv (k:=1) hk hT' hN hid (.row 5 ((l.take (i+1)).map Rw.c));cases hv' with
   | row id' _ es0 n hn hl' hle ht=>
    have h0:=qxr hi ht;simp [c_76_l0,Rw.ce,h6,h24,h25,h26,hi,hc,hT0,hn,hl',h0,hw1,hlk,hb,hm,hd1];refine ih _ _ ⟨_,N'+1+1,.row (N'+1) 5 0 (i+1),by simp [htk],.inr ⟨N'+1,rfl,a3,by omega⟩,a1,a2,by omega,?_,?_,?_,?_,?_,?_,?_,?_,?_,?_⟩<;>simp [*]
   | _=>
    simp [c_76_l0,Rw.ce,h6,h24,h25,h26,hi,hc,hT0,hw1,hlk,hb,hm,hd1];refine ih _ _ ⟨_,N'+1+1,.row (N'+1) 5 0 (i+1),by simp [htk],.inr ⟨N'+1,rfl,a3,by omega⟩,a1,a2,by omega,?_,?_,?_,?_,?_,?_,?_,?_,?_,?_⟩<;>simp [*]
 ·rintro e' _ L hL ⟨O',N',w,rfl,hw,hk,hT',hN,h6,h24,h25,h26,g1,g2,g3,g18,g19,g20⟩;simp [c_76_l0,h25,h26,hL];refine hK _ O' N' w ?_ ?_ ?_ hk hT' hN ?_ ?_ ?_ ?_ ?_ ?_ ?_<;>try simp [h6,g1,g2,g3,g18,g19,g20]
  ·rcases hw with ⟨hz,rfl⟩ | ⟨id,rfl,hlk,hid⟩
   ·have:l=[]:=List.eq_nil_of_length_eq_zero hz;subst this;exact .nilF
   ·rw [List.take_length] at hlk;exact .row id _ _ _ (by simp) hlk (Nat.le_refl _) (by rw [List.take_length])
  ·rcases hw with ⟨hz,rfl⟩ | ⟨id,rfl,hlk,hid⟩
   ·intro j hj;cases hj
   ·intro j hj;cases hj;exact hid
  ·rcases hw with ⟨hz,rfl⟩ | ⟨id,rfl,hlk,hid⟩<;>intro z es t ht<;>cases ht
 ·exact ⟨O,N,.fslice 5 [],rfl,.inl ⟨rfl,rfl⟩,fun _ _ _=>rfl,hT,Nat.le_refl _,h6,h24,h25,h26,rfl,rfl,rfl,rfl,rfl,rfl⟩
end
section
variable {O O':List (Nat×AO)} {N N' n id:Nat} {X:Nat→Prop} {o y:AO}
theorem Kp.app (h:Kp X N O O') (hn:N≤n):Kp X N O (O'++[(n,o)]):=by
 intro j hj hx;have:¬n=j:=by omega
 rw [qal,h j hj hx];simp [this]
theorem Kp.drop (h:Kp X N O O') (hn:N≤id∨X id):Kp X N O (qbf id O'):=by
 intro j hj hx;rw [qda (by rintro rfl;rcases hn with hn | hn;omega;exact hx hn),h j hj hx]
theorem Kp.setl (h:Kp X N O O') (hn:N≤id∨X id):Kp X N O (setl id y O'):=by
 intro j hj hx;rw [qae,if_neg (by rintro rfl;rcases hn with hn | hn;omega;exact hx hn),h j hj hx]
theorem Tail.app1 (h:Tail O' N') (hn:N'≤n):Tail (O'++[(n,o)]) (n+1):=by
 rw [qb6,qbo];exact ⟨h.mono (by omega),by omega,Tail.nil _⟩
theorem Kp.lk (h:Kp X N O O') (hT:Tail O N) {j:Nat} {x:AO} (hl:look j O=some x) (hx:¬X j):look j O'=some x:=by
 rw [h j (hT.lt hl) hx,hl]
theorem qau {j:Nat} {x y:AO} (h1:look id O=some x) (h2:look j O=some y) (h:x≠y):id≠j:=by
 rintro rfl;rw [h1] at h2;cases h2;exact h rfl
theorem qd1 {j:Nat} {x:AO} (hT:Tail O N) (h1:look j O=some x) (hn:N≤n):¬j=n∧¬n=j:=by
 have:=hT.lt h1;omega
end
theorem Re.src {O:List (Nat×AO)} {z N:Nat} {v:AV} {es:List (List AV)} (h:Re O z v es):qcz ⟨O,N⟩ v=some es:=by
 cases h with
 | sl=>rfl
 | fs=>rfl
 | ap=>rfl
 | row id _ es0 n hn hl hle ht=>
  subst hn;simp [hl,hle,ht]
theorem qaci {O:List (Nat×AO)} {N:Nat} (hT:Tail O N) {v:AV} {l:List Int} (h:Re O 1 v (l.map cI)) (hl:l.length<2^40):
  ∃w o,qak Φ f_162 [v] ⟨O,N⟩=some (.val w,⟨O++[(N,o)],N+1⟩)∧Mu (O++[(N,o)]) 1 w (l.map cI)∧∀j,vid w=some j→N≤j:=by
 have hr:Φ f_162=some (.rule (qd5 1 8 .row)):=rfl;rw [qjv Φ hr];have hN:=hT N (Nat.le_refl _);have hs:=h.src (N:=N);have hlen:=h.len;cases l with
 | nil=>
  refine ⟨.app 1 [] N,.tok 1 0,?_,.nilA _,fun j hj=>by cases hj⟩;simp only [qd5,hlen,List.map_nil,List.length_nil];simp only [List.map_nil] at hs;simp only [hs,evR];simp [hN]
 | cons x l=>
  have ha:qcc 1 ((x::l).map cI)=true:=qb7 1 cI (x::l) fun x=>by simp
  refine ⟨.row N 1 0 ((x::l).map cI).length,.row 1 ((x::l).map cI),?_,?_,fun j hj=>by cases hj;omega⟩
  ·have hb:((x::l).map cI).length*8≤2^46:=by rw [List.length_map];omega
   have hne:(x::l).map cI≠[]:=by simp
   simp only [qd5,hlen,List.length_map,List.length_cons,evR];have e0:evOp [(5,.fslice 1 []),(6,v)] N ⟨O,N⟩ (.append .row 1 8 (.t 5) (.t 6))=some (.row N 1 0 ((x::l).map cI).length,(AH.mk O N).put N (.row 1 ((x::l).map cI))):=by
    simp only [evOp,evX,look];simp only [show ¬(5:Nat)=6 by decide,if_true,if_false,hs,ha];simp only [List.length_nil,Nat.zero_add,List.nil_append,true_or,true_and];rw [if_pos ⟨hne,hb⟩]
   rw [e0];simp [hN]
  ·exact .row N _ _ _ rfl (by rw [qal,hN];simp) (Nat.le_refl _) (by rw [List.take_length])
theorem Kp.appL {O O':List (Nat×AO)} {N:Nat} {X:Nat→Prop} (h:Kp X N O O') {r:List (Nat×AO)} (hr:∀p∈r,N≤p.1):Kp X N O (O'++r):=by
 intro j hj hx;have:look j r=none:=by
  induction r with
  | nil=>rfl
  | cons p r ih=>
   have h1:=hr p (by simp);have:¬p.1=j:=by omega
   simp only [look,if_neg this];exact ih fun q hq=>hr q (by simp [hq])
 rw [qal,h j hj hx,this];simp
structure RowsR (O:List (Nat×AO)) (v:AV) (A:List AV) (R:List (List Rw)):Prop where
 v:Re O 1 v (A.map fun x=>[x])
 len:A.length=R.length
 at_:∀(k:Nat) (x:AV) (l:List Rw),A[k]? =some x→R[k]? =some l→Re O 5 x (l.map Rw.c)
theorem Re.own {O:List (Nat×AO)} {z j:Nat} {v:AV} {es:List (List AV)} (h:Re O z v es) (hj:vid v=some j):∃x,look j O=some x:=by
 cases h with
 | sl=>cases hj
 | fs=>cases hj
 | ap=>cases hj
 | row id _ es0 n hn hl hle ht=>cases hj;exact ⟨_,hl⟩
theorem Re.kp {O O':List (Nat×AO)} {z N:Nat} {v:AV} {es:List (List AV)} {X:Nat→Prop} (h:Re O z v es) (hT:Tail O N) (hk:Kp X N O O') (hx:∀j,X j→look j O=none∨N≤j):Re O' z v es:=by
 refine h.fr fun j hj=>?_
 obtain ⟨x,hl⟩:=h.own hj;refine hk j (hT.lt hl) fun hc=>?_
 rcases hx j hc with h1 | h1
 ·rw [hl] at h1;cases h1
 ·have:=hT.lt hl;omega
theorem Mu.own {O:List (Nat×AO)} {z j:Nat} {v:AV} {es:List (List AV)} (h:Mu O z v es) (hj:vid v=some j):∃es0,look j O=some (.row z es0):=by
 cases h with
 | nilF=>cases hj
 | nilA=>cases hj
 | row id _ es0 n hn hl hle ht=>cases hj;exact ⟨_,hl⟩
structure RowsW (O:List (Nat×AO)) (N:Nat) (V:List AV) (R:List (List Rw)):Prop where
 len:V.length=R.length
 mu:∀(k:Nat) (v:AV) (l:List Rw),V[k]? =some v→R[k]? =some l→Mu O 5 v (l.map Rw.c)
 fresh:∀v∈V,∀j,vid v=some j→N≤j
 inj:∀(k k':Nat) (v v':AV) (i:Nat),V[k]? =some v→V[k']? =some v'→vid v=some i→vid v'=some i→k=k'
 na:∀v∈V,∀z es t,v≠ .app z es t
theorem RowsW.nil {O:List (Nat×AO)} {N:Nat}:RowsW O N [] []:=⟨rfl,by simp,by simp,by simp,by simp⟩
theorem RowsW.own {O:List (Nat×AO)} {N:Nat} {V:List AV} {R:List (List Rw)} (h:RowsW O N V R) {v:AV} {j:Nat} (hv:v∈V) (hj:vid v=some j):∃es0,look j O=some (.row 5 es0):=by
 obtain ⟨k,hk,rfl⟩:=List.mem_iff_getElem.1 hv;have hk2:k<R.length:=by rw [← h.len];exact hk
 exact (h.mu k _ _ (List.getElem?_eq_getElem hk) (List.getElem?_eq_getElem hk2)).own hj
theorem RowsW.fr {O O':List (Nat×AO)} {N:Nat} {V:List AV} {R:List (List Rw)} (h:RowsW O N V R) (hf:∀j es0,look j O=some (.row 5 es0)→look j O'=look j O):RowsW O' N V R:=by
 refine ⟨h.len,?_,h.fresh,h.inj,h.na⟩;intro k v l hv hl;have hm:=h.mu k v l hv hl;refine hm.fr fun j hj=>?_
 obtain ⟨es0,h0⟩:=hm.own hj;exact hf j es0 h0
theorem RowsW.snoc {O O':List (Nat×AO)} {N N':Nat} {V:List AV} {R:List (List Rw)} {w:AV} {l:List Rw} (h:RowsW O N V R) (hT:Tail O N') (hN:N≤N') (hf:∀j es0,look j O=some (.row 5 es0)→look j O'=look j O) (hw:Mu O' 5 w (l.map Rw.c)) (hn:∀j,vid w=some j→N'≤j) (ha:∀z es t,w≠ .app z es t):RowsW O' N (V++[w]) (R++[l]):=by
 have h':=h.fr hf;have hlt:∀v∈V,∀j,vid v=some j→j<N':=by
  intro v hv j hj;obtain ⟨es0,h0⟩:=h.own hv hj;exact hT.lt h0
 have hlen:=h.len;refine ⟨by simp [hlen],?_,?_,?_,fun v hv=>by rcases List.mem_append.1 hv with hv | hv;exact h.na v hv;simp at hv;subst hv;exact ha⟩
 ·intro k v l' hv hl;by_cases hk:k<V.length
  ·rw [List.getElem?_append_left hk] at hv;rw [List.getElem?_append_left (by omega)] at hl;exact h'.mu k v l' hv hl
  ·have hk':k=V.length:=by
    have:=(List.getElem?_eq_some_iff.1 hv).1;simp at this;omega
   subst hk';rw [List.getElem?_append_right (by omega)] at hv;rw [List.getElem?_append_right (by omega),hlen] at hl;simp at hv hl;subst hv hl;exact hw
 ·intro v hv j hj;rcases List.mem_append.1 hv with hv | hv
  ·exact h.fresh v hv j hj
  ·simp at hv;subst hv;have:=hn j hj;omega
 ·intro k k' v v' i hv hv' hi hi';have hb:=(List.getElem?_eq_some_iff.1 hv).1;have hb':=(List.getElem?_eq_some_iff.1 hv').1;simp at hb hb';by_cases hk:k<V.length
  ·by_cases hk':k'<V.length
   ·rw [List.getElem?_append_left hk] at hv;rw [List.getElem?_append_left hk'] at hv';exact h.inj k k' v v' i hv hv' hi hi'
   ·rw [List.getElem?_append_left hk] at hv;rw [List.getElem?_append_right (by omega)] at hv';have:k' - V.length=0:=by omega
    rw [this] at hv';simp at hv';subst hv';have h1:=hlt v (List.mem_of_getElem? hv) i hi;have h2:=hn i hi';omega
  ·by_cases hk':k'<V.length
   ·rw [List.getElem?_append_left hk'] at hv';rw [List.getElem?_append_right (by omega)] at hv;have:k - V.length=0:=by omega
    rw [this] at hv;simp at hv;subst hv;have h1:=hlt v' (List.mem_of_getElem? hv') i hi';have h2:=hn i hi;omega
   ·omega
section
variable {β:Type} {fin:Option (Ex×St)→Option β}
theorem qacf (R:List (List Rw)) (hR:R.length<2^40) (hs:∀l∈R,l.length<2^39∧∀r∈l,rowS r) (v w2:AV) (A:List AV) (b:Nat) (K:List Fr) (Q:Option β→Prop) (e:Env) (O:List (Nat×AO)) (N:Nat) (hT:Tail O N) (hv:RowsR O v A R)
  (hb:look b O=some (.row 4 [[.fslice 1 [],w2,.fslice 2 [],.fslice 1 []]])) (h3:look 3 e=some (.ptr b 4 0 0)) (h18:look 18 e=some v) (h19:look 19 e=some (.int .i64 R.length)) (h20:look 20 e=some (.int .i64 0))
  (hK:∀e' O' N' w V,Mu O' 1 w (V.map fun x=>[x])→(∀j,vid w=some j→N≤j)→RowsW O' N V R→Kp (fun j=>j=b) N O O'→Tail O' N'→N≤N'→look b O'=some (.row 4 [[w,w2,.fslice 2 [],.fslice 1 []]])→
   look 1 e'=look 1 e→look 2 e'=look 2 e→look 3 e'=look 3 e→Q (go Φ fin K .normal ⟨e',⟨O',N'⟩⟩)):
  Q (go Φ fin (.c (.loop c_76_l3):: .b 0::K) .normal ⟨e,⟨O,N⟩⟩):=by
 have hAb:∀(k:Nat) (x:AV) j,A[k]? =some x→vid x=some j→j≠b:=by
  intro k x j hx hj;have hk:k<R.length:=by
   have:=(List.getElem?_eq_some_iff.1 hx).1;rw [hv.len] at this;exact this
  have:=hv.at_ k x _ hx (List.getElem?_eq_getElem hk);cases this with
  | sl=>cases hj
  | fs=>cases hj
  | ap=>cases hj
  | row id _ es0 n hn hl hle ht=>cases hj;exact qau hl hb (by simp)
 have hvb:∀j,vid v=some j→j≠b:=by
  intro j hj;cases hv.v with
  | sl=>cases hj
  | fs=>cases hj
  | ap=>cases hj
  | row id _ es0 n hn hl hle ht=>cases hj;exact qau hl hb (by simp)
 refine qhg R.length (fun i e' h=>∃O' N' w V,h=⟨O',N'⟩∧((i=0∧w= .fslice 1 []∧V=[])∨∃id,w= .row id 1 0 i∧look id O'=some (.row 1 (V.map fun x=>[x]))∧N≤id)∧RowsW O' N V (R.take i)∧Kp (fun j=>j=b) N O O'∧Tail O' N'∧N≤N'∧
   look b O'=some (.row 4 [[w,w2,.fslice 2 [],.fslice 1 []]])∧look 3 e'=some (.ptr b 4 0 0)∧look 18 e'=some v∧look 19 e'=some (.int .i64 R.length)∧look 20 e'=some (.int .i64 i)∧
   look 1 e'=look 1 e∧look 2 e'=look 2 e) Q ?_ ?_ 0 _ _ (Nat.zero_le _) ?_
 ·rintro i e' _ L hi hL ⟨O',N',w,V,rfl,hw,hV,hk,hT',hN,hb',h3,h18,h19,h20,g1,g2⟩ ih;have hw1:IntKind.wrap .i64 ((i:Int)+1)=((i+1:Nat):Int):=qac (by omega) (by omega);have hA:i<A.length:=by rw [hv.len];exact hi
  have hlen:=hV.len;have hVl:V.length=i:=by rw [hlen];simp;omega
  have hri:=hs _ (List.getElem_mem hi);have hbN:b<N:=hT.lt hb;have hx:Re O' 5 A[i] (R[i].map Rw.c):=by
   have h0:=hv.at_ i _ _ (List.getElem?_eq_getElem hA) (List.getElem?_eq_getElem hi);refine h0.fr fun j hj=>?_
   obtain ⟨x,hl⟩:=h0.own hj;exact hk j (hT.lt hl) (hAb i _ j (List.getElem?_eq_getElem hA) hj)
  have hxl:=hx.len;have hxc:=hx.cells;have hv':Re O' 1 v (A.map fun x=>[x]):=by
   refine hv.v.fr fun j hj=>?_
   obtain ⟨x,hl⟩:=hv.v.own hj;exact hk j (hT.lt hl) (hvb j hj)
  have after:∀e1,look 1 e1=look 1 e→look 2 e1=look 2 e→look 3 e1=some (.ptr b 4 0 0)→look 18 e1=some v→look 19 e1=some (.int .i64 R.length)→look 20 e1=some (.int .i64 i)→
    ∀e2 O2 N2 w',Mu O2 5 w' (R[i].map Rw.c)→(∀j,vid w'=some j→N'≤j)→(∀z es t,w'≠ .app z es t)→Kp (fun _=>False) N' O' O2→Tail O2 N2→N'≤N2→look 6 e2=some w'→look 1 e2=look 1 e1→look 2 e2=look 2 e1→look 3 e2=look 3 e1→look 18 e2=look 18 e1→look 19 e2=look 19 e1→look 20 e2=look 20 e1→
    Q (go Φ fin (.c c_76_k1:: .b 1:: .c c_76_k2::L) .normal ⟨e2,⟨O2,N2⟩⟩):=by
   intro e1 f1 f2 f3 f18 f19 f20 e2 O2 N2 w' hmu hnew hna hk2 hT2 hN2 d6 d1 d2 d3 d18 d19 d20;rw [f1] at d1;rw [f2] at d2;rw [f3] at d3;rw [f18] at d18;rw [f19] at d19;rw [f20] at d20;have hb2:look b O2=some (.row 4 [[w,w2,.fslice 2 [],.fslice 1 []]]):=hk2.lk hT' hb' (by simp);have hmc:=hmu.cells;have t0:=hT2 N2 (Nat.le_refl _);have t1:=hT2 (N2+1) (by omega);have hbN2:b<N2:=by omega
   have q0:¬N2=b:=by omega
   have q1:¬N2+1=b:=by omega
   have q2:¬b=N2:=by omega
   have q3:¬b=N2+1:=by omega
   have hkk:Kp (fun j=>j=b) N O O2:=hk.trans (hk2.mono fun _ _ h=>h.elim) hN;have h5:∀(j:Nat) (es0:List (List AV)),look j O'=some (.row 5 es0)→look j O2=some (.row 5 es0):=fun j es0 hj=>hk2.lk hT' hj (by simp)
   rcases hw with ⟨rfl,rfl,rfl⟩ | ⟨id,rfl,hlk,hid⟩
   ·simp [c_76_k1,c_76_k2,d3,d6,d20,t0,t1,qal,hb2,wr1,hmc,-AV.cells];refine ih _ _ ⟨_,_,.row (N2+1) 1 0 1,[w'],rfl,.inr ⟨N2+1,rfl,?_,by omega⟩,?_,?_,?_,by omega,?_,?_,?_,?_,?_,?_,?_⟩
    ·simp [qae,q1,t1]
    ·rw [List.take_succ_eq_append_getElem hi];refine RowsW.snoc (V:=[]) hV hT' hN ?_ (hmu.fr ?_) hnew hna
     ·intro j es0 hj;have hj2:=h5 j es0 hj;have:=qau hj2 hb2 (by simp);simp [qae,qal,this,hj2,hj]
     ·intro j hj;obtain ⟨es0,hj2⟩:=hmu.own hj;have:=qau hj2 hb2 (by simp);simp [qae,qal,this,hj2]
    ·exact Kp.setl (Kp.appL hkk (by simp;omega)) (.inr rfl)
    ·exact qaq (by simp [qb6,qbo,qf5];exact ⟨hT2.mono (by omega),by omega⟩)
    ·simp [qae,qal,hb2]
    all_goals simp [*]
   ·have hl2:look id O2=some (.row 1 (V.map fun x=>[x])):=hk2.lk hT' hlk (by simp);have hbi:=qau hb2 hl2 (by simp);have hd1:look (N2+1) (qbf id (O2++[(N2,.row 1 [[w']])]))=none:=qeg _ (by simp [t1]);have hd2:look b (qbf id (O2++[(N2,.row 1 [[w']])]))=some (.row 4 [[.row id 1 0 i,w2,.fslice 2 [],.fslice 1 []]]):=by rw [qda hbi,qal,hb2];rfl
    have hc:(i+1)*24≤70368744177664:=by omega
    simp [c_76_k1,c_76_k2,d3,d6,d20,t0,qal,hb2,hw1,hl2,hVl,hd1,hd2,hc,hmc,-AV.cells];refine ih _ _ ⟨_,_,.row (N2+1) 1 0 (i+1),V++[w'],rfl,.inr ⟨N2+1,rfl,?_,by omega⟩,?_,?_,?_,by omega,?_,?_,?_,?_,?_,?_,?_⟩
    ·simp [qae,q1,hd1]
    ·rw [List.take_succ_eq_append_getElem hi];refine RowsW.snoc hV hT' hN ?_ (hmu.fr ?_) hnew hna
     ·intro j es0 hj;have hj2:=h5 j es0 hj;have n1:=qau hj2 hb2 (by simp);have n2:=qau hj2 hl2 (by simp);simp [qae,qal,qda n2,n1,hj2,hj]
     ·intro j hj;obtain ⟨es0,hj2⟩:=hmu.own hj;have n1:=qau hj2 hb2 (by simp);have n2:=qau hj2 hl2 (by simp);simp [qae,qal,qda n2,n1,hj2]
    ·exact Kp.setl (Kp.appL (Kp.drop (Kp.appL hkk (by simp;omega)) (.inl hid)) (by simp;omega)) (.inr rfl)
    ·refine qaq ?_;rw [qb6];exact ⟨qfb (by simp [qb6,qbo,qf5];exact ⟨hT2.mono (by omega),by omega⟩),by simp [qbo,qf5]⟩
    ·simp [qae,qal,hd2]
    all_goals simp [*]
  cases hv' with
  | row id' _ es0 n hn hl' hle ht=>
   have h0:es0[i]? =some [A[i]]:=by
    have h:(es0.take (A.map fun x=>[x]).length)[i]? =(A.map fun x=>[x])[i]? :=by rw [ht]
    rw [List.getElem?_take_of_lt (by simpa using hA)] at h;rw [h];simp [hA]
   simp [c_76_l3,h18,h19,h20,hi,hA,hn,hl',h0,hxl,-lenOf];refine que R[i] hri.2 hri.1 A[i] _ _ _ O' N' hT' hx ?_ ?_ ?_ ?_ (after _ ?_ ?_ ?_ ?_ ?_ ?_)<;>simp [*]
  | _=>
   simp [c_76_l3,h18,h19,h20,hi,hA,hxl,-lenOf];refine que R[i] hri.2 hri.1 A[i] _ _ _ O' N' hT' hx ?_ ?_ ?_ ?_ (after _ ?_ ?_ ?_ ?_ ?_ ?_)<;>simp [*]
 ·rintro e' _ L hL ⟨O',N',w,V,rfl,hw,hV,hk,hT',hN,hb',h3,h18,h19,h20,g1,g2⟩;simp [c_76_l3,h19,h20,hL];rw [List.take_length] at hV;refine hK _ O' N' w V ?_ ?_ hV hk hT' hN hb' ?_ ?_ ?_
  ·rcases hw with ⟨hz,rfl,rfl⟩ | ⟨id,rfl,hlk,hid⟩
   ·exact .nilF
   ·exact .row id _ _ _ (by simp [hV.len]) hlk (Nat.le_refl _) (by rw [List.take_length])
  ·rcases hw with ⟨hz,rfl,rfl⟩ | ⟨id,rfl,hlk,hid⟩
   ·intro j hj;cases hj
   ·intro j hj;cases hj;exact hid
  ·simp [g1]
  ·simp [g2]
  ·simp [*]
 ·exact ⟨O,N,.fslice 1 [],[],rfl,.inl ⟨rfl,rfl,rfl⟩,by simpa using RowsW.nil,fun _ _ _=>rfl,hT,Nat.le_refl _,hb,h3,h18,h19,h20,rfl,rfl⟩
end
end Go.Av
