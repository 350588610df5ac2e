/-
 Widths, registers, headers: the program's answers.
-/
import Derived.Test.YtakklbipljodeaaGreatH1
set_option linter.unusedVariables false
set_option linter.unusedSimpArgs false
set_option linter.constructorNameAsVariable false
namespace Go.Av
set_option maxRecDepth 4000
def qbe (w:Int):Int:=if wBad w then 0 else 2^w.toNat - 1
theorem wBad_false {w:Int}:wBad w=false↔1≤w∧w≤32:=by
 simp [wBad]
theorem wr1:IntKind.wrap .i64 1=1:=by decide
theorem wr2:IntKind.wrap .i64 2=2:=by decide
theorem wr3:IntKind.wrap .i64 3=3:=by decide
theorem qiy (w:Int):qab Φ f_248 [.slice 1 [[.int .i64 w]]]=some (.val (.bool (!wBad w))):=by
 rw [qaa (fn:=c_248) rfl rfl];by_cases h1:w<1
 ·simp [c_248];rw [qay];simp [c_248_l0,h1,wBad]
 by_cases h2:32<w
 ·simp [c_248];rw [qay];simp [c_248_l0,h1,h2,wBad]
 simp [c_248];rw [qay];simp [c_248_l0,h1,h2,wr1];rw [qay];simp [c_248_k1,h1,h2,wBad]
theorem qz4:∀k:Nat,k<33→1≤k→ishr .u32 4294967295 (IntKind.wrap .i64 (32 - (k:Int)))=2^k - 1∧0≤IntKind.wrap .i64 (32 - (k:Int)):=by decide
theorem qf0 (w:Int):qab Φ f_152 [.int .i64 w]=some (.val (.int .u32 (qbe w))):=by
 rw [qaa (fn:=c_152) rfl rfl];have hv:=qiy w;cases h:wBad w with
 | true=>
  rw [h] at hv;simp [c_152,hv,qbe,h]
 | false=>
  rw [h] at hv;obtain ⟨h1,h2⟩:=wBad_false.1 h;obtain ⟨k,rfl⟩:∃k:Nat,w=k:=⟨w.toNat,by omega⟩;obtain ⟨e1,e2⟩:=qz4 k (by omega) (by omega);simp [c_152,hv,qbe,h,e2];exact e1
theorem qjk (v w:Int):qab Φ f_262 [.int .u32 v,.int .i64 w]=some (.val (.bool (fits v w))):=by
 rw [qaa (fn:=c_262) rfl rfl];have hv:=qiy w;have hm:=qf0 w;cases h:wBad w with
 | true=>
  rw [h] at hv;simp [c_262,hv,fits,h]
 | false=>
  rw [h] at hv;have e:(v≤qbe w)↔v<2^w.toNat:=by
   simp only [qbe,h];simp;omega
  simp [c_262,hv,hm,fits,h,e]
theorem qa8 (b:Bool) (c:Int):qab Φ f_228 [.bool b,.int .i64 c]=some (.val (.int .i64 (if b then c else 0))):=by
 rw [qaa (fn:=c_228) rfl rfl];cases b<;>simp [c_228]
theorem qaba (r:Register):qab Φ f_160 [.agg (Register.c r)]=some (.val (.bool (!(decide (r.size<1) || decide (64<r.size))))):=by
 rw [qaa (fn:=c_160) rfl rfl];by_cases h1:r.size<1<;>by_cases h2:64<r.size<;>simp [c_160,Register.e,h1,h2,Int.not_le.2,Int.not_lt.1]
 all_goals omega
theorem qaei (r:Register) (hs:r.name.length<2^40):qab Φ f_239 [.agg (Register.c r)]=some (.val (.int .i64 (regE r))):=by
 rw [qaa (fn:=c_239) rfl rfl];have h1:=qdv r.name hs;have h2:=qf0 r.width;have h3:=qaba r;rw [Register.e] at h3;cases q1:idS r.name with
 | false=>rw [q1] at h1;simp [c_239,Register.e,h1,regE,q1]
 | true=>
  rw [q1] at h1;cases q2:wBad r.width with
  | true=>simp [c_239,Register.e,h1,h2,regE,q1,q2,qbe]
  | false=>
   obtain ⟨w1,w2⟩:=wBad_false.1 q2;have:¬(2:Int)^r.width.toNat - 1=0:=by
    have:(2:Int)^1≤2^r.width.toNat:=by
     have:=Nat.pow_le_pow_right (n:=2) (by omega) (show 1≤r.width.toNat by omega)
     exact_mod_cast this
    omega
   by_cases z1:r.size<1
   ·simp [z1] at h3;simp [c_239,Register.e,h1,h2,h3,regE,q1,q2,qbe,this,z1]
   by_cases z2:64<r.size
   ·simp [z1,z2] at h3;simp [c_239,Register.e,h1,h2,h3,regE,q1,q2,qbe,this,z1,z2]
   simp [z1,z2] at h3;simp [c_239,Register.e,h1,h2,h3,regE,q1,q2,qbe,this,z1,z2]
theorem qls {l:List Fld} {i:Nat} (h:i<l.length):wSum (l.take (i+1))=wSum (l.take i)+l[i].width:=by
 unfold wSum;rw [List.take_succ_eq_append_getElem h,List.map_append,List.sum_append,List.map_singleton,List.sum_singleton]
@[simp] theorem qah2 {α β:Type} (f:α→β) (l:List α):(l.map f).take l.length=l.map f:=by
 rw [List.take_of_length_le];simp
theorem qy4 (h:Header) (hl:h.fields.length<2^40):qab Φ f_294 [.agg (Header.c h)]=some (.val (.slice 1 (h.fields.map fun f=>[.int .i64 f.width]))):=by
 rw [qaa (fn:=c_294) rfl rfl];simp [c_294,Header.e];refine (qaw h.fields.length (fun i=>[(0,.tok 1 i)]) 1 (fun i e=>look 3 e=some (.app 1 ((h.fields.map fun f=>[AV.int .i64 f.width]).take i) 0)∧look 7 e=some (.slice 2 (h.fields.map Fld.c))∧look 8 e=some (.int .i64 h.fields.length)∧look 9 e=some (.int .i64 i))
  (fun i=>some (.val (.slice 1 (h.fields.map fun f=>[.int .i64 f.width])))) ?_ ?_ 0 _ 1 (Nat.zero_le _) (Nat.le_refl _) ?_).trans (by simp)
 ·rintro i e n L hi hL hn ⟨h3,h7,h8,h9⟩ ih;have hw:IntKind.wrap .i64 ((i:Int)+1)=((i+1:Nat):Int):=qac (by omega) (by omega);have hn0:¬(0=n):=by omega
  have hn1:¬(n=0):=by omega
  have hm:min i h.fields.length=i:=by omega
  have hb:(i+1)*8≤70368744177664:=by omega
  simp [c_294_l0,Fld.e,h3,h7,h8,h9,hi,hw,hn0,hm,hb];exact ih _ _ (by omega) ⟨by simp [qa1 hi],by simp [h7],by simp [h8],by simp⟩
 ·rintro e n L hL hn ⟨h3,h7,h8,h9⟩;simp [c_294_l0,c_294_k1,h3,h8,h9,hL]
 ·simp
theorem qahz (l:List Int) (hl:l.length<2^40) (hb:∀x∈l,1≤x∧x≤32):qab Φ f_293 [.slice 1 (l.map fun x=>[.int .i64 x])]=some (.val (.int .i64 l.sum)):=by
 rw [qaa (fn:=c_293) rfl rfl];simp [c_293];have key:∀i,i≤l.length→0≤(l.take i).sum∧(l.take i).sum≤32*i:=by
  intro i
  induction i with
  | zero=>intro _;simp
  | succ i ih=>
   intro hi;have:=ih (by omega);have hx:=hb _ (List.getElem_mem (show i<l.length by omega));rw [List.take_succ_eq_append_getElem (by omega),List.sum_append,List.sum_singleton];omega
 refine (qao l.length (fun i e=>look 3 e=some (.int .i64 (l.take i).sum)∧look 6 e=some (.slice 1 (l.map fun x=>[.int .i64 x]))∧look 7 e=some (.int .i64 l.length)∧look 8 e=some (.int .i64 i))
  (fun i=>some (.val (.int .i64 l.sum))) ?_ ?_ 0 _ (Nat.zero_le _) ?_).trans (by simp)
 ·rintro i e L hi hL ⟨h3,h6,h7,h8⟩ ih;have hw:IntKind.wrap .i64 ((i:Int)+1)=((i+1:Nat):Int):=qac (by omega) (by omega);have k1:=key (i+1) (by omega);have e1:(l.take (i+1)).sum=(l.take i).sum+l[i]:=by rw [List.take_succ_eq_append_getElem hi,List.sum_append,List.sum_singleton]
  have hw2:IntKind.wrap .i64 ((l.take i).sum+l[i])=(l.take (i+1)).sum:=by rw [← e1];exact qac (by omega) (by omega)
  simp [c_293_l0,h3,h6,h7,h8,hi,hw,hw2];exact ih _ ⟨by simp,by simp [h6],by simp [h7],by simp⟩
 ·rintro e L hL ⟨h3,h6,h7,h8⟩;simp [c_293_l0,c_293_k1,h3,h7,h8,hL]
 ·simp
def Any (h:AH):Prop:=Tail h.objs h.next
theorem Any.app {T:List (Nat×AO)} {n:Nat} {o:AO} (h:Any ⟨T,n⟩):Any ⟨T++[(n,o)],n+1⟩:=Tail.app h o
theorem Any.mk {T:List (Nat×AO)} {n:Nat} (h:Tail T n):Any ⟨T,n⟩:=h
def hdrR (l:List Fld) (i:Nat):Int:=match fe (fun i=>(l[i]?).bind fun f=>er (fldE l i f)) l.length i with
 | some e=>e
 | none=>if wSum l % 8=0 then 0 else 10
theorem qex {l:List Fld} {i:Nat} (hi:i<l.length) (h:fldE l i l[i]≠0):hdrR l i=fldE l i l[i]:=by
 unfold hdrR;rw [qai (x:=fldE l i l[i]) hi (by simp [hi,er,h])]
theorem qp1 {l:List Fld} {i:Nat} (hi:i<l.length) (h:fldE l i l[i]=0):hdrR l i=hdrR l (i+1):=by
 unfold hdrR;rw [qap hi (by simp [hi,h])]
theorem qr7 {l:List Fld}:hdrR l l.length=if wSum l % 8=0 then 0 else 10:=by
 unfold hdrR;rw [qa0]
theorem fe_all {α:Type} {f:Nat→Option α} {N:Nat}:fe f N 0=none↔∀i,i<N→f i=none:=by
 have key:∀n i,feF f n i=none↔∀k,i≤k→k<i+n→f k=none:=by
  intro n
  induction n with
  | zero=>intro i;simp [feF];omega
  | succ n ih=>
   intro i;simp only [feF];cases h:f i with
   | some x=>simp;exact ⟨i,Nat.le_refl _,by omega,by simp [h]⟩
   | none=>
    simp only [ih];constructor
    ·intro hh k h1 h2;rcases Nat.eq_or_lt_of_le h1 with rfl | h3
     ·exact h
     ·exact hh k (by omega) (by omega)
    ·intro hh k h1 h2;exact hh k (by omega) (by omega)
 unfold fe;rw [key];simp
theorem wSum_eq (l:List Fld):wSum l=(l.map (·.width)).sum:=rfl
theorem qada (h:Header) (hn:h.name.length<2^40) (hf:∀f∈h.fields,f.name.length<2^40):qab Φ f_232 [.agg (Header.c h)]=some (.val (.int .i64 (hdrE h))):=by
 rw [qaa (fn:=c_232) rfl rfl];have n1:=qdv h.name hn;cases q1:idS h.name with
 | false=>rw [q1] at n1;simp [c_232,Header.e,n1,hdrE,q1]
 | true=>
 rw [q1] at n1;by_cases z0:h.fields.length=0
 ·simp [c_232,Header.e,n1,hdrE,q1,z0]
 by_cases z1:12<h.fields.length
 ·simp [c_232,Header.e,n1,hdrE,q1,z0,z1]
 have hE:hdrE h=hdrR h.fields 0:=by simp [hdrE,q1,z0,z1,hdrR,qj3];rfl
 rw [hE];simp [c_232,Header.e,n1,z0,z1];refine qey h.fields.length (fun i e H=>look 1 e=some (.iptr 2 [[.str h.name,.slice 2 (h.fields.map Fld.c)]] 0 0)∧look 23 e=some (.slice 2 (h.fields.map Fld.c))∧look 24 e=some (.int .i64 h.fields.length)∧look 25 e=some (.int .i64 i)∧Any H∧
   ∀k,k<i→fldE h.fields k (h.fields.getD k default)=0)
  (fun i=>some (Rt.val (.int .i64 (hdrR h.fields i)))) ?_ ?_ 0 _ _ (Nat.zero_le _) ?_
 ·rintro i e ⟨T,n⟩ L hi hL ⟨h1,h23,h24,h25,hT,hz⟩ ih;have hT':look n T=none:=hT n (Nat.le_refl _);have hw:IntKind.wrap .i64 ((i:Int)+1)=((i+1:Nat):Int):=qac (by omega) (by omega);have nf:=qdv h.fields[i].name (hf _ (List.getElem_mem hi));cases p1:idS h.fields[i].name with
  | false=>
   rw [p1] at nf;rw [qex hi (by simp [fldE,p1])];simp [c_232_l2,Fld.e,h23,h24,h25,hi,hT',nf,fldE,p1]
  | true=>
  rw [p1] at nf;by_cases w1:h.fields[i].width<1
  ·rw [qex hi (by simp [fldE,p1,wBad,w1])];simp [c_232_l2,Fld.e,h23,h24,h25,hi,hT',nf,fldE,p1,wBad,w1]
  by_cases w2:32<h.fields[i].width
  ·rw [qex hi (by simp [fldE,p1,wBad,w2])];simp [c_232_l2,Fld.e,h23,h24,h25,hi,hT',nf,fldE,p1,wBad,w1,w2]
  have hi':i≤h.fields.length:=by omega
  have hmi:min i h.fields.length=i:=by omega
  simp [c_232_l2,Fld.e,h1,h23,h24,h25,hi,hT',nf,w1,w2,hi'];refine (qdb (h.fields.take i) (fun g=>decide (g.name=h.fields[i].name)) (some (Rt.val (.int .i64 7))) (some (Rt.val (.int .i64 (hdrR h.fields (i+1)))))
   (fun k e H=>look 1 e=some (.iptr 2 [[.str h.name,.slice 2 (h.fields.map Fld.c)]] 0 0)∧look 23 e=some (.slice 2 (h.fields.map Fld.c))∧look 24 e=some (.int .i64 h.fields.length)∧look 25 e=some (.int .i64 i)∧
    look 4 e=some (.iptr 2 [[.str h.fields[i].name,.int .i64 h.fields[i].width]] 0 0)∧look 45 e=some (.slice 2 ((h.fields.map Fld.c).take i))∧look 46 e=some (.int .i64 i)∧look 47 e=some (.int .i64 k)∧Any H∧
    (0<k→qa2 (h.fields.take i) (fun g=>decide (g.name=h.fields[i].name)) 0=qa2 (h.fields.take i) (fun g=>decide (g.name=h.fields[i].name)) k)) ?_ ?_ ?_ _ _ ?_).trans ?_
  ·rintro k e ⟨T2,m⟩ L' hk hL' ⟨h1,h23,h24,h25,g4,g45,g46,g47,hT2,_⟩ hb;simp only [List.length_take] at hk;have hk1:k<i:=by omega
   have hk2:k<h.fields.length:=by omega
   simp only [List.getElem_take,decide_eq_true_eq] at hb;have hm:look m T2=none:=hT2 m (Nat.le_refl _);simp [c_232_l0,Fld.e,g4,g45,g46,g47,hk1,hm,hb,hmi]
  ·rintro k e ⟨T2,m⟩ L' X hk hL' ⟨h1,h23,h24,h25,g4,g45,g46,g47,hT2,hy⟩ hb ih';have hb':=hb;have hk0:=hk;simp only [List.length_take] at hk;have hk1:k<i:=by omega
   have hk2:k<h.fields.length:=by omega
   simp only [List.getElem_take,decide_eq_false_iff_not] at hb;have hm:look m T2=none:=hT2 m (Nat.le_refl _);have hw':IntKind.wrap .i64 ((k:Int)+1)=((k+1:Nat):Int):=qac (by omega) (by omega);simp [c_232_l0,Fld.e,g4,g45,g46,g47,hk1,hm,hb,hmi,hw'];refine ih' _ _ ⟨by simp [h1],by simp [h23],by simp [h24],by simp [h25],by simp [g4],by simp [g45],by simp [g46],by simp,Any.app hT2,fun _=>?_⟩;rcases Nat.eq_zero_or_pos k with rfl | hp
   ·exact qc8 hk0 hb'
   ·rw [hy hp];exact qc8 hk0 hb'
  ·rintro e ⟨T2,m⟩ L' hL' ⟨h1,h23,h24,h25,g4,g45,g46,g47,hT2,hy⟩;have hm:min i h.fields.length=i:=by omega
   simp [hm] at g47 hy;have hd:dupN Fld.name h.fields i h.fields[i]=false:=by
    unfold dupN;rw [← qia];rcases Nat.eq_zero_or_pos i with hp | hp
    ·subst hp;simp [qa2]
    ·rw [hy hp];have:=qe1 (l:=h.fields.take i) (p:=fun g=>decide (g.name=h.fields[i].name));simpa [hm] using this
   simp [c_232_l0,c_232_k1,g46,g47,h25,hL',hw];refine ih _ _ ⟨by simp [h1],by simp [h23],by simp [h24],by simp,hT2,?_⟩;intro k hk;rcases Nat.lt_succ_iff_lt_or_eq.1 hk with hlt | rfl
   ·exact hz k hlt
   ·rw [List.getD_eq_getElem?_getD,List.getElem?_eq_getElem hi,Option.getD_some];simp [fldE,p1,wBad,w1,w2,hd]
  ·simp [h1,h23,h24,h25,hT.mono (Nat.le_succ _),Any]
  ·cases p3:dupN Fld.name h.fields i h.fields[i] with
   | true=>
    rw [qex hi (by simp [fldE,p1,wBad,w1,w2,p3])];unfold dupN at p3;simp only [p3,if_true];simp [fldE,p1,wBad,w1,w2,dupN,p3]
   | false=>
    rw [qp1 hi (by simp [fldE,p1,wBad,w1,w2,p3])];unfold dupN at p3;simp [p3]
 ·rintro e ⟨T,n⟩ L hL ⟨h1,h23,h24,h25,hT,hz⟩;have hb:∀x∈h.fields.map (·.width),1≤x∧x≤32:=by
   intro x hx;obtain ⟨f,hf,rfl⟩:=List.mem_map.1 hx;obtain ⟨k,hk,rfl⟩:=List.mem_iff_getElem.1 hf;have:=hz k hk;rw [List.getD_eq_getElem?_getD,List.getElem?_eq_getElem hk,Option.getD_some] at this;refine wBad_false.1 ?_;cases q:wBad h.fields[k].width with
   | false=>rfl
   | true=>
    simp only [fldE,q] at this;split at this
    ·omega
    ·simp at this
  have e1:=qy4 h (by omega);have e2:=qahz (h.fields.map (·.width)) (by simp;omega) hb;simp only [Header.e] at e1;simp only [List.map_map] at e2;have hs:0≤wSum h.fields:=by
   unfold wSum;have:∀l:List Int,(∀x∈l,1≤x∧x≤32)→0≤l.sum:=by
    intro l
    induction l with
    | nil=>intro _;simp
    | cons a l ih=>intro hh;have:=ih fun x hx=>hh x (by simp [hx]);have:=hh a (by simp);simp;omega
   exact this _ hb
  have e3:wSum h.fields % 8=(wSum h.fields).tmod 8:=(Int.tmod_eq_emod_of_nonneg hs).symm;rw [qr7,e3];have e4:qab Φ f_293 [.slice 1 (h.fields.map fun f=>[.int .i64 f.width])]=some (.val (.int .i64 (wSum h.fields))):=e2;by_cases z:(wSum h.fields).tmod 8=0
  ·simp [c_232_l2,c_232_k3,h1,h24,h25,hL,e1,e4,z]
  ·simp [c_232_l2,c_232_k3,h1,h24,h25,hL,e1,e4,z]
 ·simp [Any,Tail]
def tF:Nat:=207
def qfm (c p i s:Int):AV:= .iface tF (.agg [.int .i64 c,.int .i64 p,.int .i64 i,.int .i64 s])
theorem qaky (c p i s:Int):AV.iface 207 (.agg [.int .i64 c,.int .i64 p,.int .i64 i,.int .i64 s])=qfm c p i s:=rfl
@[simp] theorem qai9 (c p i s:Int) (n:Nat):flat (n+3) (qfm c p i s)=true:=by simp [qfm]
@[simp] theorem qaja (c p i s:Int) (n:Nat) (H:AH):snap (n+3) H (qfm c p i s)=some (qfm c p i s):=by simp [qfm]
def rtD (o:Option Dg):Rt:=match o with
 | none=> .val (.tup [])
 | some d=> .pan (qfm d.1 d.2.1 d.2.2.1 d.2.2.2)
theorem qaz (p i s:Int):qab Φ f_227 [.int .i64 0,.int .i64 p,.int .i64 i,.int .i64 s]=some (.val (.tup [])):=by
 rw [qaa (fn:=c_227) rfl rfl];simp [c_227]
theorem qav {c:Int} (h:¬c=0) (p i s:Int):qab Φ f_227 [.int .i64 c,.int .i64 p,.int .i64 i,.int .i64 s]=some (.pan (qfm c p i s)):=by
 rw [qaa (fn:=c_227) rfl rfl];simp [c_227,h,qfm,tF]
theorem qkw (s:List UInt8) (hs:s.length<2^40):qab Φ f_229 [.str s]=some (.val (.bool (!idS s))):=by
 rw [qaa (fn:=c_229) rfl rfl];simp [c_229,qdv s hs]
theorem qop (w:Int):qab Φ f_236 [.int .i64 w]=some (.val (.bool (wBad w))):=by
 rw [qaa (fn:=c_236) rfl rfl];by_cases h1:w<1<;>simp [c_236,wBad,h1]
def ix {α:Type} (p:α→Bool) (l:List α) (i:Nat):Int:=(fe (fun k=>(l[k]?).bind fun a=>if p a then some (k:Int) else none) l.length i).getD (-1)
theorem qgb {α:Type} {p:α→Bool} {l:List α} {i:Nat} (hi:i<l.length) (h:p l[i]=true):ix p l i=i:=by
 unfold ix;rw [qai (x:=(i:Int)) hi (by simp [hi,h])];rfl
theorem qe7 {α:Type} {p:α→Bool} {l:List α} {i:Nat} (hi:i<l.length) (h:p l[i]=false):ix p l i=ix p l (i+1):=by
 unfold ix;rw [qap hi (by simp [hi,h])]
theorem qga {α:Type} {p:α→Bool} {l:List α}:ix p l l.length= -1:=by
 unfold ix;rw [qa0];rfl
theorem qul {α:Type} {p:α→Bool} {l:List α}:∀n i,n+i=l.length→decide (0≤ix p l i)=qa2 l p i
 | 0,i,h=>by
  have:i=l.length:=by omega
  subst this;rw [qga,qe1];rfl
 | n+1,i,h=>by
  have hi:i<l.length:=by omega
  cases q:p l[i] with
  | true=>rw [qgb hi q,qe2 hi q];simp
  | false=>rw [qe7 hi q,qc8 hi q];exact qul n (i+1) (by omega)
theorem qid {α:Type} {p:α→Bool} {l:List α}:decide (0≤ix p l 0)=l.any p:=by
 rw [qul l.length 0 (by omega),qia]
theorem qxw (l:List (List UInt8)) (x:List UInt8) (hl:l.length<2^40):qab Φ f_328 [.slice 1 (l.map fun s=>[.str s]),.str x]=some (.val (.int .i64 (ix (fun s=>decide (x=s)) l 0))):=by
 rw [qaa (fn:=c_328) rfl rfl];simp [c_328];refine (qao l.length (fun i e=>look 0 e=some (.slice 1 (l.map fun s=>[.str s]))∧look 1 e=some (.str x)∧look 6 e=some (.slice 1 (l.map fun s=>[.str s]))∧look 7 e=some (.int .i64 l.length)∧look 8 e=some (.int .i64 i))
  (fun i=>some (.val (.int .i64 (ix (fun s=>decide (x=s)) l i)))) ?_ ?_ 0 _ (Nat.zero_le _) ?_).trans (by simp)
 ·rintro i e L hi hL ⟨h0,h1,h6,h7,h8⟩ ih;have hw:IntKind.wrap .i64 ((i:Int)+1)=((i+1:Nat):Int):=qac (by omega) (by omega);by_cases z:x=l[i]
  ·rw [qgb hi (by simpa using z)];simp [c_328_l0,h0,h1,h7,h8,hi,← z]
  ·rw [qe7 hi (by simpa using z)];simp [c_328_l0,h0,h1,h7,h8,hi,z,hw];exact ih _ ⟨by simp [h0],by simp [h1],by simp [h6],by simp [h7],by simp⟩
 ·rintro e L hL ⟨h0,h1,h6,h7,h8⟩;rw [qga];simp [c_328_l0,c_328_k1,h7,h8,hL]
 ·simp
theorem qrr (l:List (List UInt8)) (x:List UInt8) (hl:l.length<2^40):qab Φ f_295 [.slice 1 (l.map fun s=>[.str s]),.str x]=some (.val (.bool (l.any fun s=>decide (x=s)))):=by
 rw [qaa (fn:=c_295) rfl rfl];have h:=qxw l x hl;have e:=qid (p:=fun s=>decide (x=s)) (l:=l);simp [c_295,h];rw [← e]
theorem qfg {α:Type} (nm:α→List UInt8) (l:List α) (i:Nat) (hi:i<l.length) (hl:l.length<2^40):qab Φ f_233 [.slice 1 (l.map fun x=>[.str (nm x)]),.int .i64 i]=some (.val (.bool (dupN nm l i l[i]))):=by
 rw [qaa (fn:=c_233) rfl rfl];have h:=qrr ((l.map nm).take i) (nm l[i]) (by simp;omega);have e:(((l.map nm).take i).any fun s=>decide (nm l[i]=s))=dupN nm l i l[i]:=by
  unfold dupN;rw [← List.map_take,List.any_map];congr 1;funext y;simp [eq_comm]
 rw [e] at h;rw [← List.map_take,List.map_map,List.map_take] at h;have h':qab Φ f_295 [.slice 1 ((l.map fun x=>[AV.str (nm x)]).take i),.str (nm l[i])]=some (.val (.bool (dupN nm l i l[i]))):=h;have hi':i≤l.length:=by omega
 simp [c_233,hi,hi',h']
theorem qqz (x:Header):qab Φ f_231 [.agg (Header.c x)]=some (.val (.str x.name)):=by
 rw [qaa (fn:=c_231) rfl rfl];simp [c_231,Header.e]
theorem qo7 (l:List Header) (hl:l.length<2^40):qab Φ f_230 [.slice 2 (l.map Header.c),.func (.func f_231) [] []]=some (.val (.slice 1 (l.map fun x=>[.str x.name]))):=by
 rw [qaa (fn:=c_230) rfl rfl];simp [c_230];refine (qaw l.length (fun i=>[(0,.tok 1 i)]) 1 (fun i e=>look 1 e=some (.func (.func f_231) [] [])∧look 5 e=some (.app 1 ((l.map fun x=>[AV.str x.name]).take i) 0)∧look 8 e=some (.slice 2 (l.map Header.c))∧look 9 e=some (.int .i64 l.length)∧look 10 e=some (.int .i64 i))
  (fun i=>some (.val (.slice 1 (l.map fun x=>[.str x.name])))) ?_ ?_ 0 _ 1 (Nat.zero_le _) (Nat.le_refl _) ?_).trans (by simp)
 ·rintro i e n L hi hL hn ⟨h1,h5,h8,h9,h10⟩ ih;have hw:IntKind.wrap .i64 ((i:Int)+1)=((i+1:Nat):Int):=qac (by omega) (by omega);have hn0:¬(0=n):=by omega
  have hn1:¬(n=0):=by omega
  have hm:min i l.length=i:=by omega
  have hb:(i+1)*16≤70368744177664:=by omega
  have hN:=qqz l[i];simp only [Header.e] at hN;simp [c_230_l0,Header.e,h1,h5,h8,h9,h10,hi,hw,hn0,hm,hb,hN];exact ih _ _ (by omega) ⟨by simp [h1],by simp [qa1 hi],by simp [h8],by simp [h9],by simp⟩
 ·rintro e n L hL hn ⟨h1,h5,h8,h9,h10⟩;simp [c_230_l0,c_230_k1,h5,h9,h10,hL]
 ·simp
theorem qrz (x:Fld):qab Φ f_235 [.agg (Fld.c x)]=some (.val (.str x.name)):=by
 rw [qaa (fn:=c_235) rfl rfl];simp [c_235,Fld.e]
theorem qtw (l:List Fld) (hl:l.length<2^40):qab Φ f_234 [.slice 2 (l.map Fld.c),.func (.func f_235) [] []]=some (.val (.slice 1 (l.map fun x=>[.str x.name]))):=by
 rw [qaa (fn:=c_234) rfl rfl];simp [c_234];refine (qaw l.length (fun i=>[(0,.tok 1 i)]) 1 (fun i e=>look 1 e=some (.func (.func f_235) [] [])∧look 5 e=some (.app 1 ((l.map fun x=>[AV.str x.name]).take i) 0)∧look 8 e=some (.slice 2 (l.map Fld.c))∧look 9 e=some (.int .i64 l.length)∧look 10 e=some (.int .i64 i))
  (fun i=>some (.val (.slice 1 (l.map fun x=>[.str x.name])))) ?_ ?_ 0 _ 1 (Nat.zero_le _) (Nat.le_refl _) ?_).trans (by simp)
 ·rintro i e n L hi hL hn ⟨h1,h5,h8,h9,h10⟩ ih;have hw:IntKind.wrap .i64 ((i:Int)+1)=((i+1:Nat):Int):=qac (by omega) (by omega);have hn0:¬(0=n):=by omega
  have hn1:¬(n=0):=by omega
  have hm:min i l.length=i:=by omega
  have hb:(i+1)*16≤70368744177664:=by omega
  have hN:=qrz l[i];simp only [Fld.e] at hN;simp [c_234_l0,Fld.e,h1,h5,h8,h9,h10,hi,hw,hn0,hm,hb,hN];exact ih _ _ (by omega) ⟨by simp [h1],by simp [qa1 hi],by simp [h8],by simp [h9],by simp⟩
 ·rintro e n L hL hn ⟨h1,h5,h8,h9,h10⟩;simp [c_234_l0,c_234_k1,h5,h9,h10,hL]
 ·simp
theorem qob (x:Register):qab Φ f_238 [.agg (Register.c x)]=some (.val (.str x.name)):=by
 rw [qaa (fn:=c_238) rfl rfl];simp [c_238,Register.e]
theorem qm5 (l:List Register) (hl:l.length<2^40):qab Φ f_237 [.slice 3 (l.map Register.c),.func (.func f_238) [] []]=some (.val (.slice 1 (l.map fun x=>[.str x.name]))):=by
 rw [qaa (fn:=c_237) rfl rfl];simp [c_237];refine (qaw l.length (fun i=>[(0,.tok 1 i)]) 1 (fun i e=>look 1 e=some (.func (.func f_238) [] [])∧look 5 e=some (.app 1 ((l.map fun x=>[AV.str x.name]).take i) 0)∧look 8 e=some (.slice 3 (l.map Register.c))∧look 9 e=some (.int .i64 l.length)∧look 10 e=some (.int .i64 i))
  (fun i=>some (.val (.slice 1 (l.map fun x=>[.str x.name])))) ?_ ?_ 0 _ 1 (Nat.zero_le _) (Nat.le_refl _) ?_).trans (by simp)
 ·rintro i e n L hi hL hn ⟨h1,h5,h8,h9,h10⟩ ih;have hw:IntKind.wrap .i64 ((i:Int)+1)=((i+1:Nat):Int):=qac (by omega) (by omega);have hn0:¬(0=n):=by omega
  have hn1:¬(n=0):=by omega
  have hm:min i l.length=i:=by omega
  have hb:(i+1)*16≤70368744177664:=by omega
  have hN:=qob l[i];simp only [Register.e] at hN;simp [c_237_l0,Register.e,h1,h5,h8,h9,h10,hi,hw,hn0,hm,hb,hN];exact ih _ _ (by omega) ⟨by simp [h1],by simp [qa1 hi],by simp [h8],by simp [h9],by simp⟩
 ·rintro e n L hL hn ⟨h1,h5,h8,h9,h10⟩;simp [c_237_l0,c_237_k1,h5,h9,h10,hL]
 ·simp
theorem qqq (x:Action):qab Φ f_241 [.agg (Action.c x)]=some (.val (.str x.name)):=by
 rw [qaa (fn:=c_241) rfl rfl];simp [c_241,Action.e]
theorem qo6 (l:List Action) (hl:l.length<2^40):qab Φ f_240 [.slice 3 (l.map Action.c),.func (.func f_241) [] []]=some (.val (.slice 1 (l.map fun x=>[.str x.name]))):=by
 rw [qaa (fn:=c_240) rfl rfl];simp [c_240];refine (qaw l.length (fun i=>[(0,.tok 1 i)]) 1 (fun i e=>look 1 e=some (.func (.func f_241) [] [])∧look 5 e=some (.app 1 ((l.map fun x=>[AV.str x.name]).take i) 0)∧look 8 e=some (.slice 3 (l.map Action.c))∧look 9 e=some (.int .i64 l.length)∧look 10 e=some (.int .i64 i))
  (fun i=>some (.val (.slice 1 (l.map fun x=>[.str x.name])))) ?_ ?_ 0 _ 1 (Nat.zero_le _) (Nat.le_refl _) ?_).trans (by simp)
 ·rintro i e n L hi hL hn ⟨h1,h5,h8,h9,h10⟩ ih;have hw:IntKind.wrap .i64 ((i:Int)+1)=((i+1:Nat):Int):=qac (by omega) (by omega);have hn0:¬(0=n):=by omega
  have hn1:¬(n=0):=by omega
  have hm:min i l.length=i:=by omega
  have hb:(i+1)*16≤70368744177664:=by omega
  have hN:=qqq l[i];simp only [Action.e] at hN;simp [c_240_l0,Action.e,h1,h5,h8,h9,h10,hi,hw,hn0,hm,hb,hN];exact ih _ _ (by omega) ⟨by simp [h1],by simp [qa1 hi],by simp [h8],by simp [h9],by simp⟩
 ·rintro e n L hL hn ⟨h1,h5,h8,h9,h10⟩;simp [c_240_l0,c_240_k1,h5,h9,h10,hL]
 ·simp
theorem qs8 (x:Tbl):qab Φ f_244 [.agg (Tbl.c x)]=some (.val (.str x.name)):=by
 rw [qaa (fn:=c_244) rfl rfl];simp [c_244,Tbl.e]
theorem qtx (l:List Tbl) (hl:l.length<2^40):qab Φ f_243 [.slice 6 (l.map Tbl.c),.func (.func f_244) [] []]=some (.val (.slice 1 (l.map fun x=>[.str x.name]))):=by
 rw [qaa (fn:=c_243) rfl rfl];simp [c_243];refine (qaw l.length (fun i=>[(0,.tok 1 i)]) 1 (fun i e=>look 1 e=some (.func (.func f_244) [] [])∧look 5 e=some (.app 1 ((l.map fun x=>[AV.str x.name]).take i) 0)∧look 8 e=some (.slice 6 (l.map Tbl.c))∧look 9 e=some (.int .i64 l.length)∧look 10 e=some (.int .i64 i))
  (fun i=>some (.val (.slice 1 (l.map fun x=>[.str x.name])))) ?_ ?_ 0 _ 1 (Nat.zero_le _) (Nat.le_refl _) ?_).trans (by simp)
 ·rintro i e n L hi hL hn ⟨h1,h5,h8,h9,h10⟩ ih;have hw:IntKind.wrap .i64 ((i:Int)+1)=((i+1:Nat):Int):=qac (by omega) (by omega);have hn0:¬(0=n):=by omega
  have hn1:¬(n=0):=by omega
  have hm:min i l.length=i:=by omega
  have hb:(i+1)*16≤70368744177664:=by omega
  have hN:=qs8 l[i];simp only [Tbl.e] at hN;simp [c_243_l0,Tbl.e,h1,h5,h8,h9,h10,hi,hw,hn0,hm,hb,hN];exact ih _ _ (by omega) ⟨by simp [h1],by simp [qa1 hi],by simp [h8],by simp [h9],by simp⟩
 ·rintro e n L hL hn ⟨h1,h5,h8,h9,h10⟩;simp [c_243_l0,c_243_k1,h5,h9,h10,hL]
 ·simp
end Go.Av
