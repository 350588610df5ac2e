/-
 Headers: the program's answer.
-/
import Derived.Test.YtakklbipljodeaaGreatK1
set_option linter.unusedVariables false
set_option linter.unusedSimpArgs false
set_option linter.constructorNameAsVariable false
namespace Go.Av
set_option maxRecDepth 4000
def Any (h:AH):Prop:=Tail h.objs h.next
theorem Any.app {T:List (Nat×AO)} {n:Nat} {o:AO} (h:Any ⟨T,n⟩):Any ⟨T++[(n,o)],n+1⟩:=Tail.app h o
theorem Any.mk {T:List (Nat×AO)} {n:Nat} (h:Tail T n):Any ⟨T,n⟩:=h
def hdrR (l:List Fld) (i:Nat):Int:=match fe (fun i=>(l[i]?).bind fun f=>er (fldE l i f)) l.length i with
 | some e=>e
 | none=>if wSum l % 8=0 then 0 else 10
theorem qeq {l:List Fld} {i:Nat} (hi:i<l.length) (h:fldE l i l[i]≠0):hdrR l i=fldE l i l[i]:=by
 unfold hdrR
 rw [qah (x:=fldE l i l[i]) hi (by simp [hi,er,h])]
theorem qor {l:List Fld} {i:Nat} (hi:i<l.length) (h:fldE l i l[i]=0):hdrR l i=hdrR l (i+1):=by
 unfold hdrR
 rw [qap hi (by simp [hi,h])]
theorem qqz {l:List Fld}:hdrR l l.length=if wSum l % 8=0 then 0 else 10:=by
 unfold hdrR
 rw [qaz]
theorem fe_all {α:Type} {f:Nat→Option α} {N:Nat}:fe f N 0=none↔∀i,i<N→f i=none:=by
 have key:∀n i,feF f n i=none↔∀k,i≤k→k<i+n→f k=none:=by
  intro n
  induction n with
  | zero=>intro i;simp [feF];omega
  | succ n ih=>
   intro i
   simp only [feF]
   cases h:f i with
   | some x=>simp;exact ⟨i,Nat.le_refl _,by omega,by simp [h]⟩
   | none=>
    simp only [ih]
    constructor
    ·intro hh k h1 h2
     rcases Nat.eq_or_lt_of_le h1 with rfl | h3
     ·exact h
     ·exact hh k (by omega) (by omega)
    ·intro hh k h1 h2;exact hh k (by omega) (by omega)
 unfold fe
 rw [key]
 simp
theorem wSum_eq (l:List Fld):wSum l=(l.map (·.width)).sum:=rfl
theorem qaa5 (h:Header) (hn:h.name.length<2^40) (hf:∀f∈h.fields,f.name.length<2^40):qab Φ f_232 [.agg (Header.c h)]=some (.val (.int .i64 (hdrE h))):=by
 rw [qaa (fn:=c_232) rfl rfl]
 have n1:=qdp h.name hn
 cases q1:idS h.name with
 | false=>rw [q1] at n1;simp [c_232,Header.e,n1,hdrE,q1]
 | true=>
 rw [q1] at n1
 by_cases z0:h.fields.length=0
 ·simp [c_232,Header.e,n1,hdrE,q1,z0]
 by_cases z1:12<h.fields.length
 ·simp [c_232,Header.e,n1,hdrE,q1,z0,z1]
 have hE:hdrE h=hdrR h.fields 0:=by simp [hdrE,q1,z0,z1,hdrR,qjf];rfl
 rw [hE]
 simp [c_232,Header.e,n1,z0,z1]
 refine qd3 h.fields.length (fun i e H=>look 1 e=some (.iptr 2 [[.str h.name,.slice 2 (h.fields.map Fld.c)]] 0 0)∧look 23 e=some (.slice 2 (h.fields.map Fld.c))∧look 24 e=some (.int .i64 h.fields.length)∧look 25 e=some (.int .i64 i)∧Any H∧
   ∀k,k<i→fldE h.fields k (h.fields.getD k default)=0)
  (fun i=>some (Rt.val (.int .i64 (hdrR h.fields i)))) ?_ ?_ 0 _ _ (Nat.zero_le _) ?_
 ·rintro i e ⟨T,n⟩ L hi hL ⟨h1,h23,h24,h25,hT,hz⟩ ih
  have hT':look n T=none:=hT n (Nat.le_refl _)
  have hw:IntKind.wrap .i64 ((i:Int)+1)=((i+1:Nat):Int):=qad (by omega) (by omega)
  have nf:=qdp h.fields[i].name (hf _ (List.getElem_mem hi))
  cases p1:idS h.fields[i].name with
  | false=>
   rw [p1] at nf
   rw [qeq hi (by simp [fldE,p1])]
   simp [c_232_l2,Fld.e,h1,h23,h24,h25,hi,hL,hT',nf,fldE,p1]
  | true=>
  rw [p1] at nf
  by_cases w1:h.fields[i].width<1
  ·rw [qeq hi (by simp [fldE,p1,wBad,w1])]
   simp [c_232_l2,Fld.e,h1,h23,h24,h25,hi,hL,hT',nf,fldE,p1,wBad,w1]
  by_cases w2:32<h.fields[i].width
  ·rw [qeq hi (by simp [fldE,p1,wBad,w2])]
   simp [c_232_l2,Fld.e,h1,h23,h24,h25,hi,hL,hT',nf,fldE,p1,wBad,w1,w2]
  have hi':i≤h.fields.length:=by omega
  have hmi:min i h.fields.length=i:=by omega
  simp [c_232_l2,Fld.e,h1,h23,h24,h25,hi,hL,hT',nf,w1,w2,hi']
  refine (qc7 (h.fields.take i) (fun g=>decide (g.name=h.fields[i].name)) (some (Rt.val (.int .i64 7))) (some (Rt.val (.int .i64 (hdrR h.fields (i+1)))))
   (fun k e H=>look 1 e=some (.iptr 2 [[.str h.name,.slice 2 (h.fields.map Fld.c)]] 0 0)∧look 23 e=some (.slice 2 (h.fields.map Fld.c))∧look 24 e=some (.int .i64 h.fields.length)∧look 25 e=some (.int .i64 i)∧
    look 4 e=some (.iptr 2 [[.str h.fields[i].name,.int .i64 h.fields[i].width]] 0 0)∧look 45 e=some (.slice 2 ((h.fields.map Fld.c).take i))∧look 46 e=some (.int .i64 i)∧look 47 e=some (.int .i64 k)∧Any H∧
    (0<k→qcf (h.fields.take i) (fun g=>decide (g.name=h.fields[i].name)) 0=qcf (h.fields.take i) (fun g=>decide (g.name=h.fields[i].name)) k)) ?_ ?_ ?_ _ _ ?_).trans ?_
  ·rintro k e ⟨T2,m⟩ L' hk hL' ⟨h1,h23,h24,h25,g4,g45,g46,g47,hT2,_⟩ hb
   simp only [List.length_take] at hk
   have hk1:k<i:=by omega
   have hk2:k<h.fields.length:=by omega
   simp only [List.getElem_take,decide_eq_true_eq] at hb
   have hm:look m T2=none:=hT2 m (Nat.le_refl _)
   simp [c_232_l0,Fld.e,g4,g45,g46,g47,hk1,hk2,hL',hm,hb,hmi]
  ·rintro k e ⟨T2,m⟩ L' X hk hL' ⟨h1,h23,h24,h25,g4,g45,g46,g47,hT2,hy⟩ hb ih'
   have hb':=hb
   have hk0:=hk
   simp only [List.length_take] at hk
   have hk1:k<i:=by omega
   have hk2:k<h.fields.length:=by omega
   simp only [List.getElem_take,decide_eq_false_iff_not] at hb
   have hm:look m T2=none:=hT2 m (Nat.le_refl _)
   have hw':IntKind.wrap .i64 ((k:Int)+1)=((k+1:Nat):Int):=qad (by omega) (by omega)
   simp [c_232_l0,Fld.e,g4,g45,g46,g47,hk1,hk2,hL',hm,hb,hmi,hw']
   refine ih' _ _ ⟨by simp [h1],by simp [h23],by simp [h24],by simp [h25],by simp [g4],by simp [g45],by simp [g46],by simp,Any.app hT2,fun _=>?_⟩
   rcases Nat.eq_zero_or_pos k with rfl | hp
   ·exact qfa hk0 hb'
   ·rw [hy hp];exact qfa hk0 hb'
  ·rintro e ⟨T2,m⟩ L' hL' ⟨h1,h23,h24,h25,g4,g45,g46,g47,hT2,hy⟩
   have hm:min i h.fields.length=i:=by omega
   simp [hm] at g47 hy
   have hd:dupN Fld.name h.fields i h.fields[i]=false:=by
    unfold dupN
    rw [← qhl]
    rcases Nat.eq_zero_or_pos i with hp | hp
    ·subst hp;simp [qcf]
    ·rw [hy hp]
     have:=qk0 (l:=h.fields.take i) (p:=fun g=>decide (g.name=h.fields[i].name))
     simpa [hm] using this
   simp [c_232_l0,c_232_k1,g45,g46,g47,h25,hL',hw]
   refine ih _ _ ⟨by simp [h1],by simp [h23],by simp [h24],by simp,hT2,?_⟩
   intro k hk
   rcases Nat.lt_succ_iff_lt_or_eq.1 hk with hlt | rfl
   ·exact hz k hlt
   ·rw [List.getD_eq_getElem?_getD,List.getElem?_eq_getElem hi,Option.getD_some]
    simp [fldE,p1,wBad,w1,w2,hd]
  ·simp [h1,h23,h24,h25,hT.mono (Nat.le_succ _),Any]
  ·cases p3:dupN Fld.name h.fields i h.fields[i] with
   | true=>
    rw [qeq hi (by simp [fldE,p1,wBad,w1,w2,p3])]
    unfold dupN at p3
    simp only [p3,if_true]
    simp [fldE,p1,wBad,w1,w2,dupN,p3]
   | false=>
    rw [qor hi (by simp [fldE,p1,wBad,w1,w2,p3])]
    unfold dupN at p3
    simp [p3]
 ·rintro e ⟨T,n⟩ L hL ⟨h1,h23,h24,h25,hT,hz⟩
  have hb:∀x∈h.fields.map (·.width),1≤x∧x≤32:=by
   intro x hx
   obtain ⟨f,hf,rfl⟩:=List.mem_map.1 hx
   obtain ⟨k,hk,rfl⟩:=List.mem_iff_getElem.1 hf
   have:=hz k hk
   rw [List.getD_eq_getElem?_getD,List.getElem?_eq_getElem hk,Option.getD_some] at this
   refine wBad_false.1 ?_
   cases q:wBad h.fields[k].width with
   | false=>rfl
   | true=>
    simp only [fldE,q] at this
    split at this
    ·omega
    ·simp at this
  have e1:=qxd h (by omega)
  have e2:=qafg (h.fields.map (·.width)) (by simp;omega) hb
  simp only [Header.e] at e1
  simp only [List.map_map] at e2
  have hs:0≤wSum h.fields:=by
   unfold wSum
   have:∀l:List Int,(∀x∈l,1≤x∧x≤32)→0≤l.sum:=by
    intro l
    induction l with
    | nil=>intro _;simp
    | cons a l ih=>intro hh;have:=ih fun x hx=>hh x (by simp [hx]);have:=hh a (by simp);simp;omega
   exact this _ hb
  have e3:wSum h.fields % 8=(wSum h.fields).tmod 8:=(Int.tmod_eq_emod_of_nonneg hs).symm
  rw [qqz,e3]
  have e4:qab Φ f_293 [.slice 1 (h.fields.map fun f=>[.int .i64 f.width])]=some (.val (.int .i64 (wSum h.fields))):=e2
  by_cases z:(wSum h.fields).tmod 8=0
  ·simp [c_232_l2,c_232_k3,h1,h23,h24,h25,hL,e1,e4,z]
  ·simp [c_232_l2,c_232_k3,h1,h23,h24,h25,hL,e1,e4,z]
 ·simp [Any,Tail]
end Go.Av
namespace Go.Av
set_option maxRecDepth 4000
def tF:Nat:=207
def qe8 (c p i s:Int):AV:= .iface tF (.agg [.int .i64 c,.int .i64 p,.int .i64 i,.int .i64 s])
theorem qaid (c p i s:Int):AV.iface 207 (.agg [.int .i64 c,.int .i64 p,.int .i64 i,.int .i64 s])=qe8 c p i s:=rfl
@[simp] theorem qago (c p i s:Int) (n:Nat):flat (n+3) (qe8 c p i s)=true:=by simp [qe8]
@[simp] theorem qagp (c p i s:Int) (n:Nat) (H:AH):snap (n+3) H (qe8 c p i s)=some (qe8 c p i s):=by simp [qe8]
def rtD (o:Option Dg):Rt:=match o with
 | none=> .val (.tup [])
 | some d=> .pan (qe8 d.1 d.2.1 d.2.2.1 d.2.2.2)
theorem qam (p i s:Int):qab Φ f_227 [.int .i64 0,.int .i64 p,.int .i64 i,.int .i64 s]=some (.val (.tup [])):=by
 rw [qaa (fn:=c_227) rfl rfl]
 simp [c_227]
theorem qar {c:Int} (h:¬c=0) (p i s:Int):qab Φ f_227 [.int .i64 c,.int .i64 p,.int .i64 i,.int .i64 s]=some (.pan (qe8 c p i s)):=by
 rw [qaa (fn:=c_227) rfl rfl]
 simp [c_227,h,qe8,tF]
theorem qj4 (s:List UInt8) (hs:s.length<2^40):qab Φ f_229 [.str s]=some (.val (.bool (!idS s))):=by
 rw [qaa (fn:=c_229) rfl rfl]
 simp [c_229,qdp s hs]
theorem qni (w:Int):qab Φ f_236 [.int .i64 w]=some (.val (.bool (wBad w))):=by
 rw [qaa (fn:=c_236) rfl rfl]
 by_cases h1:w<1<;>simp [c_236,wBad,h1]
def ix {α:Type} (p:α→Bool) (l:List α) (i:Nat):Int:=(fe (fun k=>(l[k]?).bind fun a=>if p a then some (k:Int) else none) l.length i).getD (-1)
theorem qiy {α:Type} {p:α→Bool} {l:List α} {i:Nat} (hi:i<l.length) (h:p l[i]=true):ix p l i=i:=by
 unfold ix
 rw [qah (x:=(i:Int)) hi (by simp [hi,h])]
 rfl
theorem qhf {α:Type} {p:α→Bool} {l:List α} {i:Nat} (hi:i<l.length) (h:p l[i]=false):ix p l i=ix p l (i+1):=by
 unfold ix
 rw [qap hi (by simp [hi,h])]
theorem qix {α:Type} {p:α→Bool} {l:List α}:ix p l l.length= -1:=by
 unfold ix
 rw [qaz]
 rfl
theorem qs6 {α:Type} {p:α→Bool} {l:List α}:∀n i,n+i=l.length→decide (0≤ix p l i)=qcf l p i
 | 0,i,h=>by
  have:i=l.length:=by omega
  subst this
  rw [qix,qk0]
  rfl
 | n+1,i,h=>by
  have hi:i<l.length:=by omega
  cases q:p l[i] with
  | true=>rw [qiy hi q,qnl hi q];simp
  | false=>rw [qhf hi q,qfa hi q];exact qs6 n (i+1) (by omega)
theorem qiw {α:Type} {p:α→Bool} {l:List α}:decide (0≤ix p l 0)=l.any p:=by
 rw [qs6 l.length 0 (by omega),qhl]
theorem qv5 (l:List (List UInt8)) (x:List UInt8) (hl:l.length<2^40):qab Φ f_328 [.slice 1 (l.map fun s=>[.str s]),.str x]=some (.val (.int .i64 (ix (fun s=>decide (x=s)) l 0))):=by
 rw [qaa (fn:=c_328) rfl rfl]
 simp [c_328]
 refine (qaw l.length (fun i e=>look 0 e=some (.slice 1 (l.map fun s=>[.str s]))∧look 1 e=some (.str x)∧look 6 e=some (.slice 1 (l.map fun s=>[.str s]))∧look 7 e=some (.int .i64 l.length)∧look 8 e=some (.int .i64 i))
  (fun i=>some (.val (.int .i64 (ix (fun s=>decide (x=s)) l i)))) ?_ ?_ 0 _ (Nat.zero_le _) ?_).trans (by simp)
 ·rintro i e L hi hL ⟨h0,h1,h6,h7,h8⟩ ih
  have hw:IntKind.wrap .i64 ((i:Int)+1)=((i+1:Nat):Int):=qad (by omega) (by omega)
  by_cases z:x=l[i]
  ·rw [qiy hi (by simpa using z)]
   simp [c_328_l0,h0,h1,h6,h7,h8,hi,hL,← z]
  ·rw [qhf hi (by simpa using z)]
   simp [c_328_l0,h0,h1,h6,h7,h8,hi,hL,z,hw]
   exact ih _ ⟨by simp [h0],by simp [h1],by simp [h6],by simp [h7],by simp⟩
 ·rintro e L hL ⟨h0,h1,h6,h7,h8⟩
  rw [qix]
  simp [c_328_l0,c_328_k1,h0,h1,h6,h7,h8,hL]
 ·simp
theorem qqg (l:List (List UInt8)) (x:List UInt8) (hl:l.length<2^40):qab Φ f_295 [.slice 1 (l.map fun s=>[.str s]),.str x]=some (.val (.bool (l.any fun s=>decide (x=s)))):=by
 rw [qaa (fn:=c_295) rfl rfl]
 have h:=qv5 l x hl
 have e:=qiw (p:=fun s=>decide (x=s)) (l:=l)
 simp [c_295,h]
 rw [← e]
theorem qe1 {α:Type} (nm:α→List UInt8) (l:List α) (i:Nat) (hi:i<l.length) (hl:l.length<2^40):qab Φ f_233 [.slice 1 (l.map fun x=>[.str (nm x)]),.int .i64 i]=some (.val (.bool (dupN nm l i l[i]))):=by
 rw [qaa (fn:=c_233) rfl rfl]
 have h:=qqg ((l.map nm).take i) (nm l[i]) (by simp;omega)
 have e:(((l.map nm).take i).any fun s=>decide (nm l[i]=s))=dupN nm l i l[i]:=by
  unfold dupN
  rw [← List.map_take,List.any_map]
  congr 1
  funext y
  simp [eq_comm]
 rw [e] at h
 rw [← List.map_take,List.map_map,List.map_take] at h
 have h':qab Φ f_295 [.slice 1 ((l.map fun x=>[AV.str (nm x)]).take i),.str (nm l[i])]=some (.val (.bool (dupN nm l i l[i]))):=h
 have hi':i≤l.length:=by omega
 simp [c_233,hi,hi',h']
theorem qpp (x:Header):qab Φ f_231 [.agg (Header.c x)]=some (.val (.str x.name)):=by
 rw [qaa (fn:=c_231) rfl rfl]
 simp [c_231,Header.e]
theorem qnz (l:List Header) (hl:l.length<2^40):qab Φ f_230 [.slice 2 (l.map Header.c),.func (.func f_231) [] []]=some (.val (.slice 1 (l.map fun x=>[.str x.name]))):=by
 rw [qaa (fn:=c_230) rfl rfl]
 simp [c_230]
 refine (qau l.length (fun i=>[(0,.tok 1 i)]) 1 (fun i e=>look 1 e=some (.func (.func f_231) [] [])∧look 5 e=some (.app 1 ((l.map fun x=>[AV.str x.name]).take i) 0)∧look 8 e=some (.slice 2 (l.map Header.c))∧look 9 e=some (.int .i64 l.length)∧look 10 e=some (.int .i64 i))
  (fun i=>some (.val (.slice 1 (l.map fun x=>[.str x.name])))) ?_ ?_ 0 _ 1 (Nat.zero_le _) (Nat.le_refl _) ?_).trans (by simp)
 ·rintro i e n L hi hL hn ⟨h1,h5,h8,h9,h10⟩ ih
  have hw:IntKind.wrap .i64 ((i:Int)+1)=((i+1:Nat):Int):=qad (by omega) (by omega)
  have hn0:¬(0=n):=by omega
  have hn1:¬(n=0):=by omega
  have hm:min i l.length=i:=by omega
  have hb:(i+1)*16≤70368744177664:=by omega
  have hN:=qpp l[i]
  simp only [Header.e] at hN
  simp [c_230_l0,Header.e,h1,h5,h8,h9,h10,hi,hL,hw,hn0,hn1,hm,hb,hN]
  exact ih _ _ (by omega) ⟨by simp [h1],by simp [qav hi],by simp [h8],by simp [h9],by simp⟩
 ·rintro e n L hL hn ⟨h1,h5,h8,h9,h10⟩
  simp [c_230_l0,c_230_k1,h1,h5,h8,h9,h10,hL]
 ·simp
theorem qqr (x:Fld):qab Φ f_235 [.agg (Fld.c x)]=some (.val (.str x.name)):=by
 rw [qaa (fn:=c_235) rfl rfl]
 simp [c_235,Fld.e]
theorem qsj (l:List Fld) (hl:l.length<2^40):qab Φ f_234 [.slice 2 (l.map Fld.c),.func (.func f_235) [] []]=some (.val (.slice 1 (l.map fun x=>[.str x.name]))):=by
 rw [qaa (fn:=c_234) rfl rfl]
 simp [c_234]
 refine (qau l.length (fun i=>[(0,.tok 1 i)]) 1 (fun i e=>look 1 e=some (.func (.func f_235) [] [])∧look 5 e=some (.app 1 ((l.map fun x=>[AV.str x.name]).take i) 0)∧look 8 e=some (.slice 2 (l.map Fld.c))∧look 9 e=some (.int .i64 l.length)∧look 10 e=some (.int .i64 i))
  (fun i=>some (.val (.slice 1 (l.map fun x=>[.str x.name])))) ?_ ?_ 0 _ 1 (Nat.zero_le _) (Nat.le_refl _) ?_).trans (by simp)
 ·rintro i e n L hi hL hn ⟨h1,h5,h8,h9,h10⟩ ih
  have hw:IntKind.wrap .i64 ((i:Int)+1)=((i+1:Nat):Int):=qad (by omega) (by omega)
  have hn0:¬(0=n):=by omega
  have hn1:¬(n=0):=by omega
  have hm:min i l.length=i:=by omega
  have hb:(i+1)*16≤70368744177664:=by omega
  have hN:=qqr l[i]
  simp only [Fld.e] at hN
  simp [c_234_l0,Fld.e,h1,h5,h8,h9,h10,hi,hL,hw,hn0,hn1,hm,hb,hN]
  exact ih _ _ (by omega) ⟨by simp [h1],by simp [qav hi],by simp [h8],by simp [h9],by simp⟩
 ·rintro e n L hL hn ⟨h1,h5,h8,h9,h10⟩
  simp [c_234_l0,c_234_k1,h1,h5,h8,h9,h10,hL]
 ·simp
theorem qm7 (x:Register):qab Φ f_238 [.agg (Register.c x)]=some (.val (.str x.name)):=by
 rw [qaa (fn:=c_238) rfl rfl]
 simp [c_238,Register.e]
theorem ql7 (l:List Register) (hl:l.length<2^40):qab Φ f_237 [.slice 3 (l.map Register.c),.func (.func f_238) [] []]=some (.val (.slice 1 (l.map fun x=>[.str x.name]))):=by
 rw [qaa (fn:=c_237) rfl rfl]
 simp [c_237]
 refine (qau l.length (fun i=>[(0,.tok 1 i)]) 1 (fun i e=>look 1 e=some (.func (.func f_238) [] [])∧look 5 e=some (.app 1 ((l.map fun x=>[AV.str x.name]).take i) 0)∧look 8 e=some (.slice 3 (l.map Register.c))∧look 9 e=some (.int .i64 l.length)∧look 10 e=some (.int .i64 i))
  (fun i=>some (.val (.slice 1 (l.map fun x=>[.str x.name])))) ?_ ?_ 0 _ 1 (Nat.zero_le _) (Nat.le_refl _) ?_).trans (by simp)
 ·rintro i e n L hi hL hn ⟨h1,h5,h8,h9,h10⟩ ih
  have hw:IntKind.wrap .i64 ((i:Int)+1)=((i+1:Nat):Int):=qad (by omega) (by omega)
  have hn0:¬(0=n):=by omega
  have hn1:¬(n=0):=by omega
  have hm:min i l.length=i:=by omega
  have hb:(i+1)*16≤70368744177664:=by omega
  have hN:=qm7 l[i]
  simp only [Register.e] at hN
  simp [c_237_l0,Register.e,h1,h5,h8,h9,h10,hi,hL,hw,hn0,hn1,hm,hb,hN]
  exact ih _ _ (by omega) ⟨by simp [h1],by simp [qav hi],by simp [h8],by simp [h9],by simp⟩
 ·rintro e n L hL hn ⟨h1,h5,h8,h9,h10⟩
  simp [c_237_l0,c_237_k1,h1,h5,h8,h9,h10,hL]
 ·simp
theorem qpg (x:Action):qab Φ f_241 [.agg (Action.c x)]=some (.val (.str x.name)):=by
 rw [qaa (fn:=c_241) rfl rfl]
 simp [c_241,Action.e]
theorem qny (l:List Action) (hl:l.length<2^40):qab Φ f_240 [.slice 3 (l.map Action.c),.func (.func f_241) [] []]=some (.val (.slice 1 (l.map fun x=>[.str x.name]))):=by
 rw [qaa (fn:=c_240) rfl rfl]
 simp [c_240]
 refine (qau l.length (fun i=>[(0,.tok 1 i)]) 1 (fun i e=>look 1 e=some (.func (.func f_241) [] [])∧look 5 e=some (.app 1 ((l.map fun x=>[AV.str x.name]).take i) 0)∧look 8 e=some (.slice 3 (l.map Action.c))∧look 9 e=some (.int .i64 l.length)∧look 10 e=some (.int .i64 i))
  (fun i=>some (.val (.slice 1 (l.map fun x=>[.str x.name])))) ?_ ?_ 0 _ 1 (Nat.zero_le _) (Nat.le_refl _) ?_).trans (by simp)
 ·rintro i e n L hi hL hn ⟨h1,h5,h8,h9,h10⟩ ih
  have hw:IntKind.wrap .i64 ((i:Int)+1)=((i+1:Nat):Int):=qad (by omega) (by omega)
  have hn0:¬(0=n):=by omega
  have hn1:¬(n=0):=by omega
  have hm:min i l.length=i:=by omega
  have hb:(i+1)*16≤70368744177664:=by omega
  have hN:=qpg l[i]
  simp only [Action.e] at hN
  simp [c_240_l0,Action.e,h1,h5,h8,h9,h10,hi,hL,hw,hn0,hn1,hm,hb,hN]
  exact ih _ _ (by omega) ⟨by simp [h1],by simp [qav hi],by simp [h8],by simp [h9],by simp⟩
 ·rintro e n L hL hn ⟨h1,h5,h8,h9,h10⟩
  simp [c_240_l0,c_240_k1,h1,h5,h8,h9,h10,hL]
 ·simp
theorem qrw (x:Tbl):qab Φ f_244 [.agg (Tbl.c x)]=some (.val (.str x.name)):=by
 rw [qaa (fn:=c_244) rfl rfl]
 simp [c_244,Tbl.e]
theorem qsk (l:List Tbl) (hl:l.length<2^40):qab Φ f_243 [.slice 6 (l.map Tbl.c),.func (.func f_244) [] []]=some (.val (.slice 1 (l.map fun x=>[.str x.name]))):=by
 rw [qaa (fn:=c_243) rfl rfl]
 simp [c_243]
 refine (qau l.length (fun i=>[(0,.tok 1 i)]) 1 (fun i e=>look 1 e=some (.func (.func f_244) [] [])∧look 5 e=some (.app 1 ((l.map fun x=>[AV.str x.name]).take i) 0)∧look 8 e=some (.slice 6 (l.map Tbl.c))∧look 9 e=some (.int .i64 l.length)∧look 10 e=some (.int .i64 i))
  (fun i=>some (.val (.slice 1 (l.map fun x=>[.str x.name])))) ?_ ?_ 0 _ 1 (Nat.zero_le _) (Nat.le_refl _) ?_).trans (by simp)
 ·rintro i e n L hi hL hn ⟨h1,h5,h8,h9,h10⟩ ih
  have hw:IntKind.wrap .i64 ((i:Int)+1)=((i+1:Nat):Int):=qad (by omega) (by omega)
  have hn0:¬(0=n):=by omega
  have hn1:¬(n=0):=by omega
  have hm:min i l.length=i:=by omega
  have hb:(i+1)*16≤70368744177664:=by omega
  have hN:=qrw l[i]
  simp only [Tbl.e] at hN
  simp [c_243_l0,Tbl.e,h1,h5,h8,h9,h10,hi,hL,hw,hn0,hn1,hm,hb,hN]
  exact ih _ _ (by omega) ⟨by simp [h1],by simp [qav hi],by simp [h8],by simp [h9],by simp⟩
 ·rintro e n L hL hn ⟨h1,h5,h8,h9,h10⟩
  simp [c_243_l0,c_243_k1,h1,h5,h8,h9,h10,hL]
 ·simp
end Go.Av
namespace Go.Av
set_option maxRecDepth 4000
structure PrgS (p:Prg):Prop where
 n:p.name.length<2^40
 h:p.headers.length<2^40
 hn:∀h∈p.headers,h.name.length<2^40
 hf:∀h∈p.headers,∀f∈h.fields,f.name.length<2^40
 hl:∀h∈p.headers,h.fields.length<2^40
 m:p.metadata.length<2^40
 mn:∀f∈p.metadata,f.name.length<2^40
 r:p.registers.length<2^40
 rn:∀r∈p.registers,r.name.length<2^40
 a:p.actions.length<2^40
 an:∀a∈p.actions,a.name.length<2^40
 ap:∀a∈p.actions,a.params.length<2^40
 apn:∀a∈p.actions,∀f∈a.params,f.name.length<2^40
 ab:∀a∈p.actions,a.body.length<2^40
 ai:∀a∈p.actions,∀s∈a.body,s.index.length<2^40
 av:∀a∈p.actions,∀s∈a.body,s.value.length<2^40
 t:p.tables.length<2^40
 tn:∀t∈p.tables,t.name.length<2^40
 tk:∀t∈p.tables,t.keys.length<2^40
 ta:∀t∈p.tables,t.actions.length<2^40
 tg:∀t∈p.tables,t.dflt.args.length<2^40
 s:p.states.length<2^40
 sn:∀s∈p.states,s.name.length<2^40
 se:∀s∈p.states,s.extract.length<2^40
 sc:∀s∈p.states,s.cases.length<2^40
 sv:∀s∈p.states,∀c∈s.cases,ok32 qbo c.value∧ok32 qbo c.mask
 c:p.control.length<2^40
 co:∀x∈p.control,ControlNode.Ok qbo x
 d:p.deparser.length<2^40
theorem qij {p:Prg} (o:p.Ok qbo):PrgS p:=by
 obtain ⟨o0,o1,o2,o3,o4,o5,o6,o7,o8⟩:=o
 have e:=qdm
 simp only [qdq,okL,Header.Ok,Fld.Ok,Register.Ok,Action.Ok,Statement.Ok,Tbl.Ok,ActionCall.Ok,ParserState.Ok,SelectCase.Ok] at o0 o1 o2 o3 o4 o5 o6 o7 o8
 refine ⟨by omega,by omega,?_,?_,?_,by omega,?_,by omega,?_,by omega,?_,?_,?_,?_,?_,?_,by omega,?_,?_,?_,?_,by omega,?_,?_,?_,?_,by omega,o7.2,by omega⟩
 ·intro h hh;have:=(o1.2 h hh).1;omega
 ·intro h hh f hf;have:=((o1.2 h hh).2.2 f hf).1;omega
 ·intro h hh;have:=(o1.2 h hh).2.1;omega
 ·intro f hf;have:=(o2.2 f hf).1;omega
 ·intro r hr;have:=(o3.2 r hr).1;omega
 ·intro a ha;have:=(o4.2 a ha).1;omega
 ·intro a ha;have:=(o4.2 a ha).2.1.1;omega
 ·intro a ha f hf;have:=((o4.2 a ha).2.1.2 f hf).1;omega
 ·intro a ha;have:=(o4.2 a ha).2.2.1;omega
 ·intro a ha s hs;have:=((o4.2 a ha).2.2.2 s hs).2.2.2.2.1.1;omega
 ·intro a ha s hs;have:=((o4.2 a ha).2.2.2 s hs).2.2.2.2.2.1;omega
 ·intro t ht;have:=(o5.2 t ht).1;omega
 ·intro t ht;have:=(o5.2 t ht).2.1.1;omega
 ·intro t ht;have:=(o5.2 t ht).2.2.1.1;omega
 ·intro t ht;have:=(o5.2 t ht).2.2.2.1.2.1;omega
 ·intro s hs;have:=(o6.2 s hs).1;omega
 ·intro s hs;have:=(o6.2 s hs).2.1.1;omega
 ·intro s hs;have:=(o6.2 s hs).2.2.2.1.1;omega
 ·intro s hs c hc;have:=(o6.2 s hs).2.2.2.1.2 c hc;exact ⟨this.1,this.2.1⟩
def prgP (p:Prg):AV:= .iptr 9 [[.str p.name,.slice 2 (p.headers.map Header.c),.slice 2 (p.metadata.map Fld.c),.slice 3 (p.registers.map Register.c),.slice 3 (p.actions.map Action.c),.slice 6 (p.tables.map Tbl.c),.slice 7 (p.states.map ParserState.c),.slice 5 (p.control.map ControlNode.c),.slice 1 (p.deparser.map cI)]] 0 0
theorem qwa (p:Prg) (f:PrgS p):qab Φ f_145 [.agg (Prg.c p)]=some (rtD (limD p)):=by
 rw [qaa (fn:=c_145) rfl rfl]
 have n1:=qj4 p.name f.n
 cases q1:idS p.name with
 | false=>rw [q1] at n1;simp [c_145,Prg.e,n1,qa4,qar,limD,q1,rtD]
 | true=>
 rw [q1] at n1
 by_cases z1:8<p.headers.length
 ·simp [c_145,Prg.e,n1,qa4,qam,qar,limD,q1,rtD,z1]
 by_cases z2:4<p.registers.length
 ·simp [c_145,Prg.e,n1,qa4,qam,qar,limD,q1,rtD,z1,z2]
 by_cases z3:16<p.actions.length
 ·simp [c_145,Prg.e,n1,qa4,qam,qar,limD,q1,rtD,z1,z2,z3]
 by_cases z4:12<p.tables.length
 ·simp [c_145,Prg.e,n1,qa4,qam,qar,limD,q1,rtD,z1,z2,z3,z4]
 simp [c_145,Prg.e,n1,qa4,qam,limD,q1,rtD,z1,z2,z3,z4]
def hdrG (p:Prg) (i:Nat):Option Dg:=(p.headers[i]?).bind fun h=>if qeu p i h=0 then none else some (qeu p i h,1,(i:Int),0)
theorem qml (p:Prg) (f:PrgS p):qab Φ f_146 [.agg (Prg.c p)]=some (rtD (hdrD p)):=by
 rw [qaa (fn:=c_146) rfl rfl,show hdrD p=fe (hdrG p) p.headers.length 0 from rfl]
 have e1:=qnz p.headers f.h
 simp [c_146,Prg.e,e1]
 refine qau p.headers.length (fun _=>[]) 0 (fun i e=>look 2 e=some (.slice 1 (p.headers.map fun x=>[.str x.name]))∧look 9 e=some (.slice 2 (p.headers.map Header.c))∧look 10 e=some (.int .i64 p.headers.length)∧look 11 e=some (.int .i64 i))
  (fun i=>some (rtD (fe (hdrG p) p.headers.length i))) ?_ ?_ 0 _ 0 (Nat.zero_le _) (Nat.le_refl _) ?_
 ·rintro i e n L hi hL _ ⟨h2,h9,h10,h11⟩ ih
  have hlen:=f.h
  have hw:IntKind.wrap .i64 ((i:Int)+1)=((i+1:Nat):Int):=qad (by omega) (by omega)
  have hm:=List.getElem_mem hi
  have eh:=qaa5 p.headers[i] (f.hn _ hm) (f.hf _ hm)
  simp only [Header.e] at eh
  have er:=qe1 Header.name p.headers i hi f.h
  by_cases z1:hdrE p.headers[i]=0
  rotate_left
  ·rw [qah (x:=(hdrE p.headers[i],1,(i:Int),0)) hi (by simp [hdrG,hi,qeu,z1])]
   simp [c_146_l0,Header.e,h2,h9,h10,h11,hi,hL,eh,qar,z1,rtD]
  by_cases z2:p.headers[i].name=[109,101,116,97]
  ·rw [qah (x:=(6,1,(i:Int),0)) hi (by simp [hdrG,hi,qeu,z1,z2])]
   rw [z2] at eh
   simp [c_146_l0,Header.e,h2,h9,h10,h11,hi,hL,eh,qar,qam,qa4,z1,z2,rtD]
  cases z3:dupN Header.name p.headers i p.headers[i] with
  | true=>
   rw [z3] at er
   rw [qah (x:=(7,1,(i:Int),0)) hi (by simp [hdrG,hi,qeu,z1,z2,z3])]
   simp [c_146_l0,Header.e,h2,h9,h10,h11,hi,hL,eh,er,qar,qam,qa4,z1,z2,rtD]
  | false=>
   rw [z3] at er
   rw [qap hi (by simp [hdrG,hi,qeu,z1,z2,z3])]
   simp [c_146_l0,Header.e,h2,h9,h10,h11,hi,hL,eh,er,qam,qa4,z1,z2,hw]
   exact ih _ _ (Nat.zero_le _) ⟨by simp [h2],by simp [h9],by simp [h10],by simp⟩
 ·rintro e n L hL _ ⟨h2,h9,h10,h11⟩
  rw [qaz]
  simp [c_146_l0,h2,h9,h10,h11,hL,rtD]
 ·simp
end Go.Av
namespace Go.Av
set_option maxRecDepth 4000
def scC (p:Prg) (ps:List Fld):List AV:=[.str p.name,.slice 2 (p.headers.map Header.c),.slice 2 (p.metadata.map Fld.c),.slice 3 (p.registers.map Register.c),.slice 3 (p.actions.map Action.c),.slice 6 (p.tables.map Tbl.c),.slice 7 (p.states.map ParserState.c),.slice 5 (p.control.map ControlNode.c),.slice 1 (p.deparser.map cI),.slice 2 (ps.map Fld.c)]
theorem qaf (p:Prg) (ps:List Fld):scC p ps=[.str p.name,.slice 2 (p.headers.map Header.c),.slice 2 (p.metadata.map Fld.c),.slice 3 (p.registers.map Register.c),.slice 3 (p.actions.map Action.c),.slice 6 (p.tables.map Tbl.c),.slice 7 (p.states.map ParserState.c),.slice 5 (p.control.map ControlNode.c),.slice 1 (p.deparser.map cI),.slice 2 (ps.map Fld.c)]:=by simp [scC]
theorem qp5 (op:Int):qab Φ f_347 [.int .i64 op]=some (.val (.int .i64 (ari op))):=by
 rw [qaa (fn:=c_347) rfl rfl]
 rcases (show op=1∨op=2∨op=3∨op=4∨op=5∨op=6∨op=7∨op=8∨op=9∨op=10∨op=11∨op=12∨op=13∨op=14∨op=15∨op=16∨op=17∨(op<1∨17<op) by omega) with rfl | rfl | rfl | rfl | rfl | rfl | rfl | rfl | rfl | rfl | rfl | rfl | rfl | rfl | rfl | rfl | rfl | h
 rotate_right
 ·have e:ari op= -1:=by
   unfold ari
   rw [if_neg (by omega),if_neg (by omega),if_neg (by omega),if_neg (by omega)]
  rw [e]
  have h1:¬op=1:=by omega
  have h2:¬op=2:=by omega
  have h3:¬op=3:=by omega
  have h4:¬op=4:=by omega
  have h5:¬op=5:=by omega
  have h6:¬op=6:=by omega
  have h7:¬op=7:=by omega
  have h8:¬op=8:=by omega
  have h9:¬op=9:=by omega
  have h10:¬op=10:=by omega
  have h11:¬op=11:=by omega
  have h12:¬op=12:=by omega
  have h13:¬op=13:=by omega
  have h14:¬op=14:=by omega
  have h15:¬op=15:=by omega
  have h16:¬op=16:=by omega
  have h17:¬op=17:=by omega
  simp [c_347,h1,h2,h3,h4,h5,h6,h7,h8,h9,h10,h11,h12,h13,h14,h15,h16,h17]
 all_goals simp [c_347,ari]
theorem qi3 (w:Int):qab Φ f_351 [.int .i64 w]=some (.val (.tup [.int .i64 (wide w).1,.int .i64 (wide w).2])):=by
 rw [qaa (fn:=c_351) rfl rfl]
 by_cases h1:w<1
 ·simp [c_351,wide,wBad,h1]
 by_cases h2:32<w
 ·simp [c_351,wide,wBad,h1,h2]
 simp [c_351,wide,wBad,h1,h2]
def qax (p:Prg) (h f:Int):Option Fld:=(if h= -1 then some p.metadata else (at? p.headers h).map (·.fields)).bind fun l=>at? l f
theorem qk2 (p:Prg) (h f:Int):decl p h f=(qax p h f).map (·.width):=by
 unfold decl qax
 cases (if h= -1 then some p.metadata else (at? p.headers h).map (·.fields))<;>rfl
theorem qxv (p:Prg) (ps:List Fld) (h i:Int):qab Φ f_352 [.agg (scC p ps),.int .i64 h,.int .i64 i]=some (.val (match qax p h i with
  | some f=> .tup [.agg (Fld.c f),.bool true]
  | none=> .tup [.agg [.str [],.int .i64 0],.bool false])):=by
 rw [qaa (fn:=c_352) rfl rfl]
 by_cases hm:h= -1
 ·subst hm
  by_cases i0:i<0
  ·rw [show qax p (-1) i=none by simp [qax,qbk i0]]
   simp [c_352,qaf,i0]
  by_cases i1:(p.metadata.length:Int)≤i
  ·rw [show qax p (-1) i=none by simp [qax,qbj i1]]
   simp [c_352,qaf,i0,i1]
  obtain ⟨k,rfl⟩:∃k:Nat,i=k:=⟨i.toNat,by omega⟩
  have hk:k<p.metadata.length:=by omega
  rw [show qax p (-1) k=some p.metadata[k] by simp [qax,hk]]
  simp [c_352,qaf,i0,i1,hk,Nat.not_le.2 hk,Fld.e]
 by_cases h0:h<0
 ·rw [show qax p h i=none by simp [qax,hm,qbk h0]]
  simp [c_352,qaf,hm,h0]
 by_cases h1:(p.headers.length:Int)≤h
 ·rw [show qax p h i=none by simp [qax,hm,qbj h1]]
  simp [c_352,qaf,hm,h0,h1]
 obtain ⟨m,rfl⟩:∃k:Nat,h=k:=⟨h.toNat,by omega⟩
 have hk:m<p.headers.length:=by omega
 by_cases i0:i<0
 ·rw [show qax p m i=none by simp [qax,hm,hk,qbk i0]]
  simp [c_352,qaf,hm,hk,Nat.not_le.2 hk,i0,Header.e]
 by_cases i1:(p.headers[m].fields.length:Int)≤i
 ·rw [show qax p m i=none by simp [qax,hm,hk,qbj i1]]
  simp [c_352,qaf,hm,hk,Nat.not_le.2 hk,i0,i1,Header.e]
 obtain ⟨k,rfl⟩:∃k:Nat,i=k:=⟨i.toNat,by omega⟩
 have hk2:k<p.headers[m].fields.length:=by omega
 rw [show qax p m k=some p.headers[m].fields[k] by simp [qax,hm,hk,hk2]]
 simp [c_352,qaf,hm,hk,Nat.not_le.2 hk,hk2,Nat.not_le.2 hk2,Header.e,Fld.e]
end Go.Av
