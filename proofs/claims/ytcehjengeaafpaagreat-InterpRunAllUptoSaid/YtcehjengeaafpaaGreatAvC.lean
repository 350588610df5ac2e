/-
  An abstract interpreter over the model, proved sound: part C.
-/
import Derived.Test.YtcehjengeaafpaaGreatAvB
import Derived.LoopN
import Derived.Scope
import Derived.Recover
import Derived.Tactics
set_option linter.all false
namespace Go.Av
variable {nx:Nat}
def EqE (e e':Env):Prop:=∀t,look t e=look t e'
section
variable {e e':Env} {H:AH} {call:aP}
theorem eX {x:AX} (h:∀t,t∈x.rds->look t e=look t e'):evX e x=evX e' x:=by
 cases x with
 | t n=>exact h n (by simp [AX.rds])
 | c v=>rfl
theorem yQ {G Z:Type} {f g:G->Option Z}:∀{l:List G},(∀a,a∈l->f a=g a)->mapO f l=mapO g l
 | [],_=>rfl
 | a::l,h=>by
  simp only [mapO,h a (by simp),yQ (l:=l) (fun b hb=>h b (by simp [hb]))]
theorem UN {x:AX} {t:Nat}:∀{l:List AX},x∈l->t∈x.rds->t∈lRds l
 | [],h,_=>by cases h
 | y::l,h,ht=>by
  simp only [lRds,nE];rcases nK.1 h with rfl | h
  ·exact .inl ht
  ·exact .inr (UN h ht)
theorem CC {xs:List AX} (h:∀t,t∈lRds xs->look t e=look t e'):mapO (evX e) xs=mapO (evX e') xs:=
 yQ fun x hx=>eX fun t ht=>h t (UN hx ht)
theorem qw2 {n:Nat} {lo hi mx:Option AX} (h1:∀t,t∈oRds lo->look t e=look t e') (h2:∀t,t∈oRds hi->look t e=look t e') (h3:∀t,t∈oRds mx->look t e=look t e'):
  DB e n lo hi mx=DB e' n lo hi mx:=by
 have hM:bndM e n mx=bndM e' n mx:=by
  cases mx with
  | none=>rfl
  | some x=>simp only [bndM,eX (x:=x) h3]
 have hH:∀k,bndH e k hi=bndH e' k hi:=by
  intro k;cases hi with
  | none=>rfl
  | some x=>simp only [bndH,eX (x:=x) h2]
 have hL:∀k,bndL e k lo=bndL e' k lo:=by
  intro k;cases lo with
  | none=>rfl
  | some x=>simp only [bndL,eX (x:=x) h1]
 unfold DB;simp only [hM,hH,hL]
theorem mz {op:AOp} (h:∀t,t∈op.rds->look t e=look t e'):aD call e nx H op=aD call e' nx H op:=by
 cases op
 case nilapp=>rfl
 case alloc=>rfl
 case mkmap=>rfl
 case pick c a b=>
  simp only [AOp.rds,nE] at h;simp only [aD,evOp,eX (x:=c) (fun t ht=>h t (by simp [ht])),eX (x:=a) (fun t ht=>h t (by simp [ht])),eX (x:=b) (fun t ht=>h t (by simp [ht]))]
 case update kd c a b=>
  simp only [AOp.rds,nE] at h;simp only [aD,evOp,eX (x:=c) (fun t ht=>h t (by simp [ht])),eX (x:=a) (fun t ht=>h t (by simp [ht])),eX (x:=b) (fun t ht=>h t (by simp [ht]))]
 case build z parts=>
  simp only [AOp.rds] at h;have hp:mapO (fun p:Nat×Nat×AX=>(evX e p.2.2).map fun v=>(p.1,p.2.1,v)) parts=mapO (fun p=>(evX e' p.2.2).map fun v=>(p.1,p.2.1,v)) parts:=
   yQ fun p hp=>by rw [eX (x:=p.2.2) (fun t ht=>h t (UN (iU.2 ⟨p,hp,rfl⟩) ht))]
  simp only [aD,evOp,hp]
 case bslice m esz z parts=>
  simp only [AOp.rds] at h;have hp:∀p:Nat×AX,p∈parts->evX e p.2=evX e' p.2:=fun p hp=>eX (fun t ht=>h t (UN (iU.2 ⟨p,hp,rfl⟩) ht))
  simp only [aD,evOp];rw [yQ (l:=parts) (fun p hpp=>by rw [hp p hpp])]
 case mkfunc fn a b=>
  simp only [AOp.rds,nE] at h;simp only [aD,evOp,CC (xs:=a) (fun t ht=>h t (by simp [ht])),CC (xs:=b) (fun t ht=>h t (by simp [ht]))]
 case slc esz x lo hi mx=>
  simp only [AOp.rds,nE] at h;have hb:∀n,DB e n lo hi mx=DB e' n lo hi mx:=fun n=>qw2 (fun t ht=>h t (by simp [ht])) (fun t ht=>h t (by simp [ht])) (fun t ht=>h t (by simp [ht]))
  simp only [aD,evOp,eX (x:=x) (fun t ht=>h t (by simp [ht])),hb]
 case minmax m xs=>simp only [aD,evOp,CC (xs:=xs) h]
 case pcall f xs=>simp only [aD,CC (xs:=xs) h]
 case pcallk f xs=>simp only [aD,CC (xs:=xs) h]
 case pcallr f xs=>simp only [aD,CC (xs:=xs) h]
 case tcall f xs=>simp only [aD,CC (xs:=xs) h]
 case pcallv f xs=>
  simp only [AOp.rds,nE] at h;simp only [aD,eX (x:=f) (fun t ht=>h t (by simp [ht])),CC (xs:=xs) (fun t ht=>h t (by simp [ht]))]
 case tcallv f xs=>
  simp only [AOp.rds,nE] at h;simp only [aD,eX (x:=f) (fun t ht=>h t (by simp [ht])),CC (xs:=xs) (fun t ht=>h t (by simp [ht]))]
 case pinvoke ms f xs=>
  simp only [AOp.rds,nE] at h;simp only [aD,eX (x:=f) (fun t ht=>h t (by simp [ht])),CC (xs:=xs) (fun t ht=>h t (by simp [ht]))]
 case tinvoke ms f xs=>
  simp only [AOp.rds,nE] at h;simp only [aD,eX (x:=f) (fun t ht=>h t (by simp [ht])),CC (xs:=xs) (fun t ht=>h t (by simp [ht]))]
 case panic x=>simp only [aD,eX (x:=x) h]
 case mov x=>simp only [aD,evOp,eX (x:=x) h]
 case box x=>simp only [aD,evOp,eX (x:=x) h]
 case boxi x=>simp only [aD,evOp,eX (x:=x) h]
 case load g n x=>simp only [aD,evOp,eX (x:=x) h]
 case nilchk x=>simp only [aD,evOp,eX (x:=x) h]
 case un o x=>simp only [aD,evOp,eX (x:=x) h]
 case conv k x=>simp only [aD,evOp,eX (x:=x) h]
 case same x=>simp only [aD,evOp,eX (x:=x) h]
 case b2s x=>simp only [aD,evOp,eX (x:=x) h]
 case mkiface t x=>simp only [aD,evOp,eX (x:=x) h]
 case faddr o x=>simp only [aD,evOp,eX (x:=x) h]
 case fld g o n x=>simp only [aD,evOp,eX (x:=x) h]
 case ext i x=>simp only [aD,evOp,eX (x:=x) h]
 case len x=>simp only [aD,evOp,eX (x:=x) h]
 case slen x=>simp only [aD,evOp,eX (x:=x) h]
 case cap x=>simp only [aD,evOp,eX (x:=x) h]
 case clear z x=>simp only [aD,evOp,eX (x:=x) h]
 case mlen x=>simp only [aD,evOp,eX (x:=x) h]
 case tassert t ok z x=>simp only [aD,evOp,eX (x:=x) h]
 all_goals
  rename_i x y;simp only [AOp.rds,nE] at h;simp only [aD,evOp,eX (x:=x) (fun t ht=>h t (by simp [ht])),eX (x:=y) (fun t ht=>h t (by simp [ht]))]
theorem LB:∀(n:Nat) (x:AV) (H1 H2:AH),bor n x=false->snap n H1 x=snap n H2 x:=by
 intro n
 induction n with
 | zero=>intro x H1 H2 h;cases h
 | succ n ih=>
  intro x H1 H2 h;have lst:∀{cs:List AV},anyL (bor n) cs=false->mapO (snap n H1) cs=mapO (snap n H2) cs:=fun hc=>yQ fun a ha=>ih a H1 H2 (vT hc a ha)
  cases x with
  | agg cs=>simp only [bor] at h;simp only [snap,lst h]
  | tup cs=>simp only [bor] at h;simp only [snap,lst h]
  | iface t v=>simp only [bor] at h;simp only [snap,ih v H1 H2 h]
  | func fn a b=>
   simp only [bor,EY] at h;simp only [snap,lst h.1,lst h.2]
  | ptr=>cases h
  | row=>cases h
  | map=>cases h
  | _=>rfl
theorem ja {G:Type} {f:G->Bool}:∀{l:List G},(∀a,a∈l->f a=false)->anyL f l=false
 | [],_=>rfl
 | a::l,h=>by simp only [anyL,h a (by simp),ja (l:=l) (fun b hb=>h b (by simp [hb])),Bool.or_false]
theorem oa {es:List (List AV)} (h:anyL (bor aI) es.flatten=false) (H1 H2:AH):mapO (w6 H1) es=mapO (w6 H2) es:=
 yQ fun c hc=>yQ fun x hx=>LB _ x H1 H2 (vT h x (DV.2 ⟨c,hc,hx⟩))
theorem QP {op:AOp} (h:op.cls= .i):evOp e nx H op=(evOp e 0 H0 op).map (fun r=>(r.1,H)):=by
  cases op
  case boxi x=>
    simp only [evOp];split
    · rename_i v hv
      split
      · rename_i vs hvs
        cases hb:anyL (bor aI) vs with
        | true=>
          simp only [if_true]
          (repeat' split)<;>rfl
        | false=>
          have hf:w6 H vs=w6 H0 vs:=yQ fun x hx=>LB _ x H H0 (vT hb x hx)
          rw [hf];simp only [nX,if_false]
          (repeat' split)<;>rfl
      · rfl
    · rfl
  case bslice m esz z parts=>
    cases m
    case imm=>
      simp only [evOp];split
      · rfl
      · rename_i ps hps
        cases hb:anyL (bor aI) (List.foldl (fun es p=>es.set p.1 p.2) z ps).flatten with
        | true=>
          simp only [if_true]
          (repeat' split)<;>rfl
        | false=>
          rw [oa hb H H0];simp only [nX,if_false]
          (repeat' split)<;>rfl
    all_goals cases h
  all_goals first
    | (cases h;done)
    | (simp only [evOp]
       (repeat' split)<;>first
         | rfl
         | (simp only [Option.map_map,Function.comp_def];done)
         | (simp_all;done))
def rOp (call:aP) (base:Option Nat) (o:Xv) (e:Env) (h:AH):Option (AV×AH):=
 match nI e o.guard with
 | none=>none
 | some false=>some (.tup [],h)
 | some true=>match aD call e (cE base o.dst h) h o.op with
  | some (.val v,h')=>some (v,h')
  | _=>none
theorem evOps_cons {base:Option Nat} {o:Xv} {r:List Xv} {s s':St}:aU call base (o::r) s=some (.normal,s')↔
  ∃v h',rOp call base o s.e s.h=some (v,h')/\aU call base r ⟨putE s.e o.dst v,h'⟩=some (.normal,s'):=by
 unfold rOp;rw [aU];cases hg:nI s.e o.guard with
 | none=>simp
 | some b=>
  cases b with
  | false=>
   simp only [Option.some.injEq,Prod.mk.injEq];exact ⟨fun h=>⟨_,_,⟨rfl,rfl⟩,h⟩,by rintro ⟨_,_,⟨rfl,rfl⟩,h⟩;exact h⟩
  | true=>
   simp only;cases hc:aD call s.e (cE base o.dst s.h) s.h o.op with
   | none=>simp
   | some p=>
    obtain ⟨r',h'⟩:=p;cases r' with
    | val v=>
     simp only [Option.some.injEq,Prod.mk.injEq];exact ⟨fun h=>⟨_,_,⟨rfl,rfl⟩,h⟩,by rintro ⟨_,_,⟨rfl,rfl⟩,h⟩;exact h⟩
    | pan v=>simp
theorem XG {o:Xv} (h:∀t,t∈o.rds->look t e=look t e'):nI e o.guard=nI e' o.guard:=by
 unfold Xv.rds at h;cases hg:o.guard with
 | none=>rfl
 | some p=>
  obtain ⟨t,b⟩:=p;rw [hg] at h;simp only [nI,h t (by simp)]
theorem Tt {o:Xv} {t:Nat} (h:t∈o.op.rds):t∈o.rds:=by
 unfold Xv.rds;cases o.guard with
 | none=>exact h
 | some p=>exact D1 _ h
theorem tx {base:Option Nat} {o:Xv} {h:AH} (hh:∀t,t∈o.rds->look t e=look t e'):rOp call base o e h=rOp call base o e' h:=by
 unfold rOp;rw [XG hh,mz (fun t ht=>hh t (Tt ht))]
def ApOk (f:Foot) (ap:AH->AH):Prop:=
 match f.2 with
 | .no=>ap=id
 | .set i=>(∃ob,ap=fun h=>h.set i ob)/\∃l,f.1=some l/\i∈l
 | .chg _ h'=>ap=fun _=>h'
 | .mv i n=>(∃ob,ap=fun h=>(h.kill i).set n ob)/\∃l,f.1=some l/\i∈l/\n∈l
 | .any=>True
def CJ (w:Wr) (h:AH):Prop:=
 match w with
 | .chg h0 _=>h=h0
 | _=>True
def Agree (f:Foot) (h h2:AH):Prop:=
 (match f.1 with | none=>h2=h | some l=>∀id,id∈l->h2.get id=h.get id)/\(match f.2 with | .chg h0 _=>h2=h0 | .any=>h2=h | _=>True)
structure Stb (call:aP) (base:Option Nat) (o:Xv) (e:Env) (h:AH) (f:Foot) (v:AV) (ap:AH->AH):Prop where
 ok:ApOk f ap
 next:CJ f.2 h
 run:∀e2 h2,(∀t,t∈o.rds->look t e2=look t e)->Agree f h h2->rOp call base o e2 h2=some (v,ap h2)
theorem Agree.refl {f:Foot} {h:AH} (hn:CJ f.2 h):Agree f h h:=by
 obtain ⟨r,w⟩:=f;refine ⟨?_,?_⟩
 ·cases r with
  | none=>rfl
  | some l=>exact fun _ _=>rfl
 ·cases w with
  | chg a b=>exact hn
  | any=>rfl
  | _=>trivial
theorem Agree.trans {f:Foot} {h h1 h2:AH} (a:Agree f h h1) (b:Agree f h1 h2):Agree f h h2:=by
 obtain ⟨r,w⟩:=f;refine ⟨?_,?_⟩
 ·have a1:=a.1;have b1:=b.1;cases r with
  | none=>exact b1.trans a1
  | some l=>exact fun i hi=>(b1 i hi).trans (a1 i hi)
 ·have a2:=a.2;have b2:=b.2;cases w with
  | chg a b=>exact b2
  | any=>exact b2.trans a2
  | _=>trivial
theorem Agree.symm {f:Foot} {h h1:AH} (hn:CJ f.2 h) (a:Agree f h h1):Agree f h1 h:=by
 obtain ⟨r,w⟩:=f;refine ⟨?_,?_⟩
 ·have a1:=a.1;cases r with
  | none=>exact a1.symm
  | some l=>exact fun i hi=>(a1 i hi).symm
 ·have a2:=a.2;cases w with
  | chg a b=>exact hn
  | any=>exact a2.symm
  | _=>trivial
theorem Stb.move {base:Option Nat} {o:Xv} {h h':AH} {f:Foot} {v:AV} {ap:AH->AH} (s:Stb call base o e h f v ap) (hh:∀t,t∈o.rds->look t e'=look t e) (ha:Agree f h h'):Stb call base o e' h' f v ap:=by
 refine ⟨s.ok,?_,?_⟩
 ·have:=ha.2;obtain ⟨r,w⟩:=f;cases w with
  | chg a b=>exact this
  | _=>trivial
 ·intro e2 h2 k1 k2;exact s.run e2 h2 (fun t ht=>(k1 t ht).trans (hh t ht)) (ha.trans k2)
theorem qm {h:AH} {i j:Nat} {ob:AO} (hne:j≠i):(h.set i ob).get j=h.get j:=by
 unfold AH.set AH.get;generalize h.objs=l
 induction l with
 | nil=>rfl
 | cons p l ih=>
  obtain ⟨u,x⟩:=p;simp only [setl];by_cases hu:u=i
  ·subst hu;rw [a9 rfl];simp only [look,QA (Ne.symm hne)]
  ·rw [QA hu];simp only [look,ih]
theorem ci {h:AH} {i j:Nat} (hne:j≠i):(h.kill i).get j=h.get j:=by
 unfold AH.kill AH.get;generalize h.objs=l
 induction l with
 | nil=>rfl
 | cons p l ih=>
  obtain ⟨u,x⟩:=p;simp only [dropl];by_cases hu:u=i
  ·subst hu;simp [look,Ne.symm hne]
  ·rw [QA hu];simp only [look,ih]
theorem wa {h:AH} {i j:Nat} {a:AO} (hne:i≠j):(h.set j a).kill i=(h.kill i).set j a:=by
 unfold AH.set AH.kill;simp only [AH.mk.injEq,and_true];generalize h.objs=l
 induction l with
 | nil=>rfl
 | cons p l ih=>
  obtain ⟨u,x⟩:=p;simp only [setl,dropl];by_cases hu:u=j
  ·subst hu;simp [dropl,Ne.symm hne,setl]
  ·rw [QA hu];by_cases hi:u=i
   ·subst hi;simp [dropl,hu]
   ·simp [dropl,hi,setl,hu,ih]
theorem jz {h:AH} {i j:Nat} {a b:AO} (hne:i≠j):(h.set i a).set j b=(h.set j b).set i a:=by
 unfold AH.set;simp only [AH.mk.injEq,and_true];generalize h.objs=l
 induction l with
 | nil=>rfl
 | cons p l ih=>
  obtain ⟨u,x⟩:=p;simp only [setl];by_cases hu:u=i
  ·subst hu;simp [setl,hne]
  ·by_cases hu':u=j
   ·subst hu';simp [setl,hu]
   ·simp [setl,hu,hu',ih]
theorem memNat_iff {t:Nat} {l:List Nat}:oC t l=true↔t∈l:=by
 induction l with
 | nil=>simp [oC]
 | cons u r ih=>
  rw [nK,<- ih];simp only [oC,D3,beq_iff_eq];constructor<;>(rintro (h | h);exact .inl h.symm;exact .inr h)
theorem LR {G:Type} {f:G->G->Bool} (h:∀a b,f a b=true->a=b):∀{a b:List G},eqL f a b=true->a=b
 | [],[],_=>rfl
 | x::a,y::b,k=>by
  simp only [eqL,d7] at k;rw [h _ _ k.1,LR h k.2]
 | [],_::_,k=>by cases k
 | _::_,[],k=>by cases k
theorem ZW (n:Nat) (ih:∀a b,avEq n a b=true->a=b) (f g:Fn) (a b c d:List AV) (h:avEq (n+1) (.func f a b) (.func g c d)=true):(AV.func f a b)= .func g c d:=by
 have l1:∀{x y:List AV},eqL (avEq n) x y=true->x=y:=LR ih;cases f with
 | func f=>cases g with
  | func g=>
   have h2:(f == g&&eqL (avEq n) a c&&eqL (avEq n) b d)=true:=h;simp only [d7,beq_iff_eq] at h2;rw [h2.1.1,l1 h2.1.2,l1 h2.2]
  | _=>cases h
 | _=>cases h
theorem jg:∀(n:Nat) (a b:AV),avEq n a b=true->a=b:=by
  intro n
  induction n with
  | zero=>intro a b h;cases h
  | succ n ih=>
    intro a b h;have l1:∀{x y:List AV},eqL (avEq n) x y=true->x=y:=LR ih;have l2:∀{x y:List (List AV)},eqL (eqL (avEq n)) x y=true->x=y:=LR fun _ _=>l1
    cases a<;>cases b<;>first
      | rfl
      | (cases h;done)
      | exact ZW n ih _ _ _ _ _ _ h
      | (simp only [avEq,d7,beq_iff_eq,decide_eq_true_eq] at h
         first
          | (rw [h];done)
          | (rw [h.1,h.2];done)
          | (rw [l1 h];done)
          | (rw [h.1,ih _ _ h.2];done)
          | (rw [h.1,l2 h.2];done)
          | (rw [h.1.1,h.1.2,l2 h.2];done)
          | (rw [h.1.1.1,h.1.1.2,h.1.2,l2 h.2];done)
          | (rw [h.1.1.1,h.1.1.2,h.1.2,h.2];done)
          | (cases h;done))
theorem Iu {a b:Option AO} (h:aoEq a b=true):a=b:=by
 have l1:∀{x y:List (List AV)},eqL (eqL (avEq aI)) x y=true->x=y:=LR fun _ _=>LR (jg _)
 unfold aoEq at h;split at h
 ·simp only [d7,beq_iff_eq] at h;rw [h.1,l1 h.2]
 ·simp only [d7,beq_iff_eq] at h;rw [h.1,h.2]
 ·rw [LR (fun p q k=>?_) h];simp only [d7] at k;exact Prod.ext (jg _ _ _ k.1) (jg _ _ _ k.2)
 ·rfl
 ·rfl
 ·cases h
theorem Y' {w:Wr} {ap:AH->AH} {r:Option (List Nat)} {f:Foot} {h:AH} (hap:ApOk (r,w) ap) (hn:CJ w h) (hoff:w.off f.1=true)
  (hany:f.2= .any->ap=id) (hchg:∀a b,f.2= .chg a b->ap=id) (hnf:CJ f.2 h):Agree f h (ap h):=by
 obtain ⟨q,u⟩:=f;cases w with
 | no=>
  have:ap=id:=hap;subst this;exact Agree.refl hnf
 | set i=>
  obtain ⟨⟨ob,rfl⟩,_⟩:=hap;cases q with
  | none=>cases hoff
  | some l=>
   simp only [Wr.off,AP] at hoff;have hni:i∉l:=by intro hm;rw [memNat_iff.2 hm] at hoff;cases hoff
   refine ⟨fun id hid=>qm (by intro hh;subst hh;exact hni hid),?_⟩;cases u with
   | chg a b=>exact (congrFun (hchg a b rfl) h).trans hnf
   | any=>exact congrFun (hany rfl) h
   | _=>trivial
 | mv i n=>
  obtain ⟨⟨ob,rfl⟩,_⟩:=hap;cases q with
  | none=>cases hoff
  | some l=>
   simp only [Wr.off,d7,AP] at hoff;have hni:i∉l:=by intro hm;rw [memNat_iff.2 hm] at hoff;cases hoff.1
   have hnn:n∉l:=by intro hm;rw [memNat_iff.2 hm] at hoff;cases hoff.2
   refine ⟨fun id hid=>(qm (by intro hh;subst hh;exact hnn hid)).trans (ci (by intro hh;subst hh;exact hni hid)),?_⟩;cases u with
   | chg a b=>exact (congrFun (hchg a b rfl) h).trans hnf
   | any=>exact congrFun (hany rfl) h
   | _=>trivial
 | chg a b=>
  have hap':ap=fun _=>b:=hap
  subst hap';have hn':h=a:=hn;subst hn';cases q with
  | none=>cases hoff
  | some l=>
   simp only [Wr.off,Qr] at hoff;refine ⟨fun id hid=>(Iu (hoff id hid)).symm,?_⟩;cases u with
   | chg a b=>exact (congrFun (hchg a b rfl) h).trans hnf
   | any=>exact congrFun (hany rfl) h
   | _=>trivial
 | any=>cases q<;>cases hoff
end
end Go.Av
namespace Go.Av
section
variable {e e':Env} {H:AH} {call:aP} {base:Option Nat}
theorem isNo_iff {w:Wr}:w.isNo=true↔w= .no:=by cases w<;>simp [Wr.isNo]
theorem TV {x y:Foot} (h:x.compat y=true):x=(some [],.no)\/y=(some [],.no)\/((∀n m p q,x.2= .mv n m->y.2= .mv p q->False)/\(∀a b,x.2= .chg a b->y.2= .no)/\(∀a b,y.2= .chg a b->x.2= .no)/\x.2.off y.1=true/\y.2.off x.1=true):=by
 unfold Foot.compat at h;split at h
 ·exact .inl rfl
 ·exact .inr (.inl rfl)
 ·cases h
 ·simp only [d7] at h;obtain rfl:=isNo_iff.1 h.1;exact .inr (.inr ⟨(fun _ _ _ _ k=>by cases k),(fun _ _ _=>rfl),(fun _ _ k=>by cases k),h.2,rfl⟩)
 ·simp only [d7] at h;obtain rfl:=isNo_iff.1 h.1;exact .inr (.inr ⟨(fun _ _ _ _ k=>by cases k),(fun _ _ k=>by cases k),(fun _ _ _=>rfl),rfl,h.2⟩)
 ·rename_i r v q u _ _ hnn hc1 hc2;simp only [d7] at h;refine .inr (.inr ⟨?_,?_,?_,h⟩)
  ·intro n m p q h1 h2;cases h1;cases h2;exact hnn _ _ _ _ rfl rfl
  ·intro a b h1;cases h1;exact absurd rfl (hc1 _ _)
  ·intro a b h1;cases h1;exact absurd rfl (hc2 _ _)
theorem DM {f:Foot} {ap:AH->AH} (h:ApOk f ap) (hf:f.2= .no):ap=id:=by
 obtain ⟨r,w⟩:=f;cases hf;exact h
theorem my {x y:Foot} {apx:AH->AH} {h:AH} (hc:x.compat y=true\/y.compat x=true) (hx:ApOk x apx) (hnx:CJ x.2 h) (hny:CJ y.2 h):Agree y h (apx h):=by
 have key:(x=(some [],.no)\/y=(some [],.no)\/((∀n m p q,x.2= .mv n m->y.2= .mv p q->False)/\(∀a b,x.2= .chg a b->y.2= .no)/\(∀a b,y.2= .chg a b->x.2= .no)/\x.2.off y.1=true/\y.2.off x.1=true))->Agree y h (apx h):=by
  rintro (rfl | rfl | ⟨h1,c1,c2,h2,h3⟩)
  ·rw [DM hx rfl];exact Agree.refl hny
  ·exact ⟨fun id hid=>(by cases hid),trivial⟩
  ·refine Y' (r:=x.1) (w:=x.2) hx hnx h2 ?_ (fun a b k=>DM hx (c2 a b k)) hny;intro hany;rw [hany] at h3;cases hxx:x.1<;>rw [hxx] at h3<;>cases h3
 rcases hc with hc | hc
 ·exact key (TV hc)
 ·rcases TV hc with h1 | h1 | ⟨h1,c1,c2,h2,h3⟩
  ·exact key (.inr (.inl h1))
  ·exact key (.inl h1)
  ·exact key (.inr (.inr ⟨fun n m p q a b=>h1 p q n m b a,c2,c1,h3,h2⟩))
theorem X7 {x y:Foot} {apx apy:AH->AH} {h:AH} (hc:x.compat y=true) (hx:ApOk x apx) (hy:ApOk y apy) (hnx:CJ x.2 h) (hny:CJ y.2 h):apy (apx h)=apx (apy h):=by
 rcases TV hc with rfl | rfl | ⟨h1,c1,c2,h2,h3⟩
 ·rw [DM hx rfl];rfl
 ·rw [DM hy rfl];rfl
 ·obtain ⟨r,w⟩:=x;obtain ⟨q,u⟩:=y;cases w with
  | no=>rw [DM hx rfl];rfl
  | any=>cases q<;>cases h2
  | chg a b=>
   obtain rfl:u= .no:=c1 a b rfl;rw [DM hy rfl];rfl
  | set i=>
   cases u with
   | no=>rw [DM hy rfl];rfl
   | chg a b=>cases c2 a b rfl
   | any=>cases r<;>cases h3
   | set j=>
    obtain ⟨⟨a,rfl⟩,_⟩:=hx;obtain ⟨⟨b,rfl⟩,l,hl,hj⟩:=hy;simp only at hl;subst hl;refine jz ?_;intro hij;subst hij;simp only [Wr.off,AP] at h2;rw [memNat_iff.2 hj] at h2;cases h2
   | mv m n=>
    obtain ⟨⟨a,rfl⟩,l,hl,hi⟩:=hx;obtain ⟨⟨b,rfl⟩,_⟩:=hy;simp only at hl;subst hl;simp only [Wr.off,d7,AP] at h3;have h31:m≠i:=by intro hij;subst hij;rw [memNat_iff.2 hi] at h3;cases h3.1
    have h32:n≠i:=by intro hij;subst hij;rw [memNat_iff.2 hi] at h3;cases h3.2
    show ((h.set i a).kill m).set n b=((h.kill m).set n b).set i a;rw [wa h31,jz (Ne.symm h32)]
  | mv m n=>
   cases u with
   | no=>rw [DM hy rfl];rfl
   | chg a b=>cases c2 a b rfl
   | any=>cases r<;>cases h3
   | mv _ _=>exact (h1 _ _ _ _ rfl rfl).elim
   | set j=>
    obtain ⟨⟨a,rfl⟩,_⟩:=hx;obtain ⟨⟨b,rfl⟩,l,hl,hj⟩:=hy;simp only at hl;subst hl;simp only [Wr.off,d7,AP] at h2;have h31:m≠j:=by intro hij;subst hij;rw [memNat_iff.2 hj] at h2;cases h2.1
    have h32:n≠j:=by intro hij;subst hij;rw [memNat_iff.2 hj] at h2;cases h2.2
    show ((h.kill m).set n a).set j b=((h.set j b).kill m).set n a;rw [wa h31,jz h32]
structure DD where
 o:Xv
 f:Foot
 v:AV
 ap:AH->AH
def Seq (call:aP) (base:Option Nat):Env->AH->List DD->Prop
 | _,_,[]=>True
 | e,h,d::r=>Stb call base d.o e h d.f d.v d.ap/\Seq call base (putE e d.o.dst d.v) (d.ap h) r
def finE:Env->List DD->Env
 | e,[]=>e
 | e,d::r=>finE (putE e d.o.dst d.v) r
def finH:AH->List DD->AH
 | h,[]=>h
 | h,d::r=>finH (d.ap h) r
theorem S8 {e:Env} {d:Option Nat} {v:AV} {t:Nat}:look t (putE e d v)=if d=some t then some v else look t e:=by
 cases d with
 | none=>simp [putE]
 | some d=>
  simp only [putE,look];by_cases h:d=t<;>simp [h]
theorem EqE.put {e e':Env} (h:EqE e e') (d:Option Nat) (v:AV):EqE (putE e d v) (putE e' d v):=by
 intro t;rw [S8,S8,h t]
theorem Seq.eqE:∀{ds:List DD} {e e':Env} {h:AH},EqE e e'->Seq call base e h ds->Seq call base e' h ds/\EqE (finE e ds) (finE e' ds)
 | [],_,_,_,he,_=>⟨trivial,he⟩
 | d::r,e,e',h,he,hs=>by
  obtain ⟨h1,h2⟩:=hs;obtain ⟨k1,k2⟩:=Seq.eqE (he.put d.o.dst d.v) h2;exact ⟨⟨h1.move (fun t _=>(he t).symm) (Agree.refl h1.next),k1⟩,k2⟩
structure PairOk (x y:DD):Prop where
 t:NU x.o y.o=true
 h:x.f.compat y.f=true
theorem X3 {x y:Xv} (h:NU x y=true):(∀d,x.dst=some d->d∉y.rds/\y.dst≠some d)/\∀d,y.dst=some d->d∉x.rds:=by
 unfold NU at h;simp only [d7] at h;obtain ⟨h1,h2⟩:=h;refine ⟨?_,?_⟩
 ·intro d hd;rw [hd] at h1;simp only [d7,AP,beq_eq_false_iff_ne,ne_eq] at h1;exact ⟨fun hm=>(by rw [memNat_iff.2 hm] at h1;cases h1.1),h1.2⟩
 ·intro d hd;rw [hd] at h2;simp only [AP] at h2;exact fun hm=>by rw [memNat_iff.2 hm] at h2;cases h2
theorem pq {e:Env} {o:Xv} {d:Option Nat} {v:AV} (h:∀t,d=some t->t∉o.rds):∀t,t∈o.rds->look t (putE e d v)=look t e:=by
 intro t ht;rw [S8,QA];intro hd;exact h t hd ht
theorem swap2 {x y:DD} {r:List DD} {h:AH} (hp:PairOk y x) (hs:Seq call base e h (y::x::r)):
  Seq call base e h (x::y::r)/\EqE (finE e (y::x::r)) (finE e (x::y::r))/\finH h (y::x::r)=finH h (x::y::r):=by
 obtain ⟨hy,hx,hr⟩:=hs;obtain ⟨t1,t2⟩:=X3 hp.t;have hxr:∀t,y.o.dst=some t->t∉x.o.rds:=fun t ht=>(t1 t ht).1
 have hnx0:CJ x.f.2 h:=by
  have:=hx.next;have hyok:=hy.ok;rcases TV hp.h with h1 | h1 | ⟨_,_,c2,_,_⟩
  ·rw [DM hyok (by rw [h1])] at this;exact this
  ·rw [h1];trivial
  ·generalize x.f=fx at*;obtain ⟨r2,w2⟩:=fx;cases w2 with
   | chg a b=>rw [DM hyok (c2 a b rfl)] at this;exact this
   | _=>trivial
 have ha1:Agree x.f h (y.ap h):=my (.inl hp.h) hy.ok hy.next hnx0;have hx0:Stb call base x.o e h x.f x.v x.ap:=hx.move (fun t ht=>(pq hxr t ht).symm) (Agree.symm hnx0 ha1);have ha2:Agree y.f h (x.ap h):=my (.inr hp.h) hx0.ok hnx0 hy.next;have hy1:Stb call base y.o (putE e x.o.dst x.v) (x.ap h) y.f y.v y.ap:=hy.move (pq t2) ha2;have hcomm:x.ap (y.ap h)=y.ap (x.ap h):=X7 hp.h hy.ok hx.ok hy.next hnx0;have hee:EqE (putE (putE e y.o.dst y.v) x.o.dst x.v) (putE (putE e x.o.dst x.v) y.o.dst y.v):=by
  intro t;simp only [S8];by_cases h1:x.o.dst=some t
  ·by_cases h2:y.o.dst=some t
   ·exact absurd h1 (t1 t h2).2
   ·simp [h1,h2]
  ·simp [h1]
 rw [hcomm] at hr;obtain ⟨k1,k2⟩:=Seq.eqE hee hr;exact ⟨⟨hx0,hy1,k1⟩,k2,by simp only [finH,hcomm]⟩
theorem dv {x:DD}:∀{as bs:List DD} {e:Env} {h:AH},(∀y,y∈as->PairOk y x)->Seq call base e h (as++x::bs)->
  Seq call base e h (x::(as++bs))/\EqE (finE e (as++x::bs)) (finE e (x::(as++bs)))/\finH h (as++x::bs)=finH h (x::(as++bs))
 | [],_,_,_,_,hs=>⟨hs,fun _=>rfl,rfl⟩
 | y::as,bs,e,h,hp,hs=>by
  obtain ⟨hy,hr⟩:=hs;obtain ⟨k1,k2,k3⟩:=dv (as:=as) (bs:=bs) (fun z hz=>hp z (D1 _ hz)) hr;obtain ⟨m1,m2,m3⟩:=swap2 (hp y (by simp)) (r:=as++bs) ⟨hy,k1⟩;exact ⟨m1,fun t=>(k2 t).trans (m2 t),k3.trans m3⟩
end
end Go.Av
namespace Go.Av
section
variable {e e':Env} {h:AH} {call:aP} {base dst:Option Nat} {nx:Nat}
def OpFoot (call:aP) (base:Option Nat) (dst:Option Nat) (e:Env) (h:AH) (op:AOp) (v:AV) (h':AH) (f:Foot):Prop:=
 ∃ap,ApOk f ap/\CJ f.2 h/\h'=ap h/\∀h2,Agree f h h2->aD call e (cE base dst h2) h2 op=some (.val v,ap h2)
theorem OpFoot.any {op:AOp} {v:AV} {h':AH} (hv:aD call e (cE base dst h) h op=some (.val v,h')):OpFoot call base dst e h op v h' (none,.any):=
 ⟨fun _=>h',trivial,trivial,rfl,fun h2 ha=>by have h1:h2=h:=ha.2;rw [h1];exact hv⟩
theorem OpFoot.read {op:AOp} {v:AV} {h':AH} (hv:aD call e (cE base dst h) h op=some (.val v,h')) (hh:h'=h):OpFoot call base dst e h op v h' (none,.no):=
 ⟨id,rfl,trivial,hh,fun h2 ha=>by have h1:h2=h:=ha.1;subst h1;rw [hv,hh];rfl⟩
theorem OpFoot.quiet {op:AOp} {v:AV} {h':AH} (hh:h'=h) (hv:∀nx h2,aD call e nx h2 op=some (.val v,h2)):OpFoot call base dst e h op v h' (some [],.no):=
 ⟨id,rfl,trivial,hh,fun h2 _=>hv _ h2⟩
theorem OpFoot.set {op:AOp} {v:AV} {h':AH} (id:Nat) (ob:AO) (hh:h'=h.set id ob) (hv:∀nx (h2:AH),h2.get id=h.get id->aD call e nx h2 op=some (.val v,h2.set id ob)):OpFoot call base dst e h op v h' (some [id],.set id):=
 ⟨fun h=>h.set id ob,⟨⟨ob,rfl⟩,[id],rfl,by simp⟩,trivial,hh,fun h2 ha=>hv _ h2 (ha.1 id (by simp))⟩
theorem OpFoot.get {op:AOp} {v:AV} {h':AH} (id:Nat) (hh:h'=h) (hv:∀nx (h2:AH),h2.get id=h.get id->aD call e nx h2 op=some (.val v,h2)):OpFoot call base dst e h op v h' (some [id],.no):=
 ⟨fun h=>h,rfl,trivial,hh,fun h2 ha=>hv _ h2 (ha.1 id (by simp))⟩
theorem UC {h:AH} (hne:cE base dst h≠h.next):∃n d,base=some n/\dst=some d/\cE base dst h=n+d:=by
 unfold cE at hne ⊢;split at hne
 ·rename_i n d;split at hne
  ·rename_i hg;exact ⟨n,d,rfl,rfl,by simp only [hg]⟩
  ·exact absurd rfl hne
 ·exact absurd rfl hne
theorem OpFoot.new {op:AOp} {v:AV} {h':AH} (ob:AO) (hv:aD call e (cE base dst h) h op=some (.val v,h')) (hh:h'=h.put (cE base dst h) ob)
  (hv2:∀h2:AH,aD call e (cE base dst h) h2 op=some (.val v,h2.put (cE base dst h) ob)):OpFoot call base dst e h op v h' (JS (cE base dst h) h):=by
 unfold JS;split
 ·rename_i hres;split
  ·exact .any hv
  ·rename_i hne;obtain ⟨n,d,rfl,rfl,hnx⟩:=UC hne;rw [hnx] at hres hv2 hh ⊢;refine ⟨fun h=>h.set (n+d) ob,⟨⟨ob,rfl⟩,[n+d],rfl,by simp⟩,trivial,?_,?_⟩
   ·rw [hh];unfold AH.put;rw [hres]
   ·intro h2 ha;have hg:h2.get (n+d)=some .res:=by rw [ha.1 (n+d) (by simp)];exact hres
    have:cE (some n) (some d) h2=n+d:=by
     unfold cE;simp only [hg]
    rw [this,hv2 h2];unfold AH.put;rw [hg]
 ·exact .any hv
theorem yP {op:AOp} {v:AV} {h':AH} (hk:op.isCall=false) (hv:aD call e nx h op=some (.val v,h')):evOp e nx h op=some (v,h'):=by
 rw [L7 hk] at hv;split at hv
 ·rename_i heq;cases hv;exact heq
 ·cases hv
theorem sN {op:AOp} {v:AV} {h':AH} (hk:op.isCall=false) (hv:evOp e nx h op=some (v,h')):aD call e nx h op=some (.val v,h'):=by
 rw [L7 hk,hv]
theorem Rm {op:AOp} {v:AV} {h':AH} (hk:op.isCall=false) (hc:op.cls= .i) (hv:aD call e (cE base dst h) h op=some (.val v,h')):OpFoot call base dst e h op v h' (some [],.no):=by
 have h1:=yP hk hv;rw [QP hc] at h1;obtain ⟨r,k1,k2⟩:=map_some h1;cases k2;refine .quiet rfl fun _ h2=>sN hk ?_
 rw [QP hc,k1];rfl
theorem ic {H:AH} {t:Nat} {y:AO} (h:H.get t=some y):H.set t y=H:=by
 have key:∀l:List (Nat×AO),look t l=some y->setl t y l=l:=by
  intro l
  induction l with
  | nil=>intro h;cases h
  | cons p r ih=>
   obtain ⟨u,x⟩:=p;intro h;unfold setl;unfold look at h;split
   ·rename_i hu;rw [a9 hu] at h;cases h;rfl
   ·rename_i hu;rw [QA hu] at h;rw [ih h]
 unfold AH.set;rw [key _ h]
theorem PN {h:AH} {id:Nat}:∀{as as':List AV},LU as=some id->mapO (DJ h id) as=some as'->∃z es,h.get id=some (.row z es)
 | [],_,hr,_=>by cases hr
 | x::r,as',hr,hm=>by
  unfold mapO at hm;split at hm
  ·cases hm
  ·rename_i y hy;split at hm
   ·cases hm
   ·rename_i ys hys;cases x
    case row i z off len=>
     cases hr;unfold DJ at hy;simp only [if_true] at hy;unfold ET at hy;split at hy
     ·rename_i z' es hg;exact ⟨z',es,hg⟩
     ·cases hy
    all_goals exact PN (as:=r) hr hys
theorem Am {h h2:AH} {id:Nat} (as:List AV) (hg:h2.get id=h.get id):mapO (DJ h2 id) as=mapO (DJ h id) as:=by
 refine yQ fun a _=>?_
 unfold DJ;split
 ·rename_i i z off len _;split
  ·rename_i hi;subst hi;unfold ET;rw [hg];split
   ·rename_i z' es hget;split
    ·rename_i hc;have:mapO (mapO (snap aI h2)) ((es.drop off).take len)=mapO (mapO (snap aI h)) ((es.drop off).take len):=by
      refine yQ fun e he=>yQ fun x hx=>LB _ x h2 h (vT hc.2.2 x ?_)
      rw [DV];exact ⟨e,DU (Qu he),hx⟩
     rw [this]
    ·rfl
   ·rfl
  ·rfl
 ·split
  ·rfl
  ·rename_i hb;exact LB _ a h2 h (by simpa using hb)
theorem ek {f:FuncId} {vs:List AV} {v:AV} {h':AH} (hv:nY call f vs h=some (.val v,h')):
  h'=h/\(anyL (bor aI) vs=false->∀h2,nY call f vs h2=some (.val v,h2)):=by
 unfold nY at hv;have hsn:anyL (bor aI) vs=false->∀h2,mapO (snap aI h2) vs=mapO (snap aI h) vs:=fun hb h2=>
  yQ fun a ha=>LB _ a h2 h (vT hb a ha)
 split at hv
 ·cases hv
 ·rename_i as has;split at hv
  ·rename_i r H1 hcall;split at hv
   ·rename_i y hy;split at hv
    ·cases hv
    ·cases hv;refine ⟨rfl,fun hb h2=>?_⟩;unfold nY;rw [hsn hb h2,has];simp only [hcall,hy,hb,MC,nX,if_false]
   ·cases hv
  ·split at hv
   ·split at hv<;>cases hv
   ·cases hv
  ·cases hv
theorem Kh {op:AOp} {v:AV} {h':AH} (hv:aD call e (cE base dst h) h op=some (.val v,h')):OpFoot call base dst e h op v h' (foot e (cE base dst h) h op):=by
 by_cases hi:op.isCall=false/\op.cls= .i
 ·have:foot e (cE base dst h) h op=(some [],.no):=by
   cases op<;>first
    | rfl
    | (cases hi.2;done)
    | (rename_i m _ _ _;cases m<;>first | rfl | (cases hi.2;done))
  rw [this];exact Rm hi.1 hi.2 hv
 ·cases op
  case load g n x=>
   have h1:=yP rfl hv;simp only [evOp] at h1;simp only [foot];split at h1
   ·rename_i id esz i off hx;simp only [hx];split at h1
    ·rename_i esz' es hget;split at h1
     ·rename_i hz;split at h1
      ·rename_i cs hcs;obtain ⟨y,hy,k2⟩:=map_some h1;cases k2;refine .get id rfl fun _ h2 hg=>sN rfl ?_
       rw [hget] at hg;simp only [evOp,hx,hg,a9 hz,hcs,hy,F2]
      ·cases h1
     ·cases h1
    ·cases h1
   ·rename_i esz es i off hx;simp only [hx];split at h1
    ·rename_i cs hcs;obtain ⟨y,hy,k2⟩:=map_some h1;cases k2;refine .quiet rfl fun _ h2=>sN rfl ?_
     simp only [evOp,hx,hcs,hy,F2]
    ·cases h1
   ·cases h1
  case pcall f xs=>
   simp only [aD] at hv;split at hv
   ·rename_i as has;obtain ⟨h1,h2⟩:=ek hv;simp only [foot,LO,has];cases hb:anyL (bor aI) as with
    | true=>exact .read (by simp only [aD,has,hv]) h1
    | false=>exact .quiet h1 fun _ h3=>by simp only [aD,has,h2 hb h3]
   ·cases hv
  case pcallk f xs=>
   simp only [aD] at hv;split at hv
   ·rename_i as has;split at hv
    ·rename_i id hid;split at hv
     ·rename_i as' has';split at hv
      ·cases hv
      rename_i hnb;have hnb':anyL (bor aI) as'=false:=by simpa using hnb
      obtain ⟨h1,h2⟩:=ek hv;subst h1;simp only [foot,KY,has,hid];split
      ·rename_i hres;split
       ·exact .any (by simp only [aD,has,hid,has',hv,QA hnb])
       ·rename_i hne;obtain ⟨n,d,rfl,rfl,hnx⟩:=UC hne;rw [hnx] at hres ⊢;obtain ⟨z,es,hget⟩:=PN hid has';have hin:n+d≠id:=by intro hh;rw [hh,hget] at hres;cases hres
        have hset:∀h2:AH,h2.get (n+d)=some .res->(h2.kill id).set (n+d) .res=h2.kill id:=fun h2 hg=>ic (by rw [ci hin];exact hg)
        refine ⟨fun h=>(h.kill id).set (n+d) .res,⟨⟨_,rfl⟩,[id,n+d],rfl,by simp,by simp⟩,trivial,(hset h hres).symm,?_⟩;intro h3 ha;have hg:h3.get (n+d)=some .res:=by rw [ha.1 (n+d) (by simp)];exact hres
        have hg2:h3.get id=h.get id:=ha.1 id (by simp);simp only [aD,has,hid,Am as hg2,has',QA hnb,h2 hnb' (h3.kill id),hset h3 hg]
      ·exact .any (by simp only [aD,has,hid,has',hv,QA hnb])
     ·cases hv
    ·cases hv
   ·cases hv
  case pcallr f xs=>
   simp only [aD] at hv;split at hv
   ·rename_i as has;simp only [foot,eY,has];split
    ·exact .any (by simp only [aD,has,hv])
    rename_i hb;have hb':anyL (bor aI) as=false:=by simpa using hb
    have hsn:∀h2,mapO (snap aI h2) as=mapO (snap aI h) as:=fun h2=>
     yQ fun a ha=>LB _ a h2 h (vT hb' a ha)
    unfold uT at hv;split at hv
    ·cases hv
    rename_i as' has';split at hv
    ·rename_i id z off len H1 hcall;split at hv
     ·rename_i z' es hget;split at hv
      ·rename_i es' hes;split at hv
       ·cases hv
       ·rename_i hfl;cases hv;refine .new (.row z' es') (by simp only [aD,has,uT,has',hcall,hget,hes,QA hfl]) rfl fun h2=>?_
        simp only [aD,has,uT,hsn h2,has',hcall,hget,hes,QA hfl]
      ·cases hv
     ·cases hv
    ·rename_i z H1 hcall;cases hv;unfold JS;split
     ·rename_i hres;split
      ·exact .any (by simp only [aD,has,uT,has',hcall])
      ·rename_i hne;obtain ⟨n,d,rfl,rfl,hnx⟩:=UC hne;rw [hnx] at hres ⊢;refine .set (n+d) .res (ic hres).symm fun nx h2 hg=>?_
       rw [hres] at hg;rw [ic hg];simp only [aD,has,uT,hsn h2,has',hcall]
     ·exact .any (by simp only [aD,has,uT,has',hcall])
    ·cases hv
   ·cases hv
  case pcallv f xs=>
   simp only [aD] at hv;split at hv
   ·rename_i fv as hf has;split at hv
    ·rename_i k first caps htg
     obtain ⟨h1,h2⟩:=ek hv;simp only [foot,LO,hf,has,htg];cases hb:anyL (bor aI) (first++as++caps) with
     | true=>exact .read (by simp only [aD,hf,has,htg,hv]) h1
     | false=>exact .quiet h1 fun _ h3=>by simp only [aD,hf,has,htg,h2 hb h3]
    ·cases hv
   ·cases hv
  case b2s x=>
   have h1:=yP rfl hv;have hh:h'=h:=by
    simp only [evOp] at h1
    repeat' split at h1
    all_goals first
     | (cases h1;done)
     | (cases h1;rfl)
   simp only [foot];subst hh;cases hv0:evX e x with
   | none=>exact .read hv rfl
   | some v0=>
    cases v0 with
    | row id z off len=>
     refine .get id rfl fun _ h2 hg=>sN rfl ?_
     simp only [evOp,hv0,dF] at h1 ⊢;rw [hg];revert h1
     repeat' split
     all_goals first
      | (intro k;cases k;done)
      | (intro k;cases k;simp [*])
      | (intro k;cases k;rfl)
    | str s=>simp only [evOp,hv0] at h1;cases h1
    | slice z es=>refine .quiet rfl fun nx h2=>sN rfl ?_;simp only [evOp,hv0,dF] at h1 ⊢;split at h1<;>first | (cases h1;done) | (rename_i hb;cases h1;simp only [hb])
    | Xt z es=>refine .quiet rfl fun nx h2=>sN rfl ?_;simp only [evOp,hv0,dF] at h1 ⊢;split at h1<;>first | (cases h1;done) | (rename_i hb;cases h1;simp only [hb])
    | app z es t=>refine .quiet rfl fun nx h2=>sN rfl ?_;simp only [evOp,hv0,dF] at h1 ⊢;split at h1<;>first | (cases h1;done) | (rename_i hb;cases h1;simp only [hb])
    | _=>simp only [evOp,hv0,dF] at h1;cases h1
  case lookup kd z ok x k=>
   refine .read hv ?_;have h1:=yP rfl hv;simp only [evOp] at h1
   repeat' split at h1
   all_goals first
    | (cases h1;done)
    | (cases h1;rfl)
  case mlen x=>
   refine .read hv ?_;have h1:=yP rfl hv;simp only [evOp] at h1
   repeat' split at h1
   all_goals first
    | (cases h1;done)
    | (cases h1;rfl)
  case store n x y=>
   have h1:=yP rfl hv;simp only [evOp] at h1;simp only [foot];split at h1
   ·rename_i id esz i off yv hx hy;simp only [hx];split at h1
    ·cases h1
    ·rename_i vs hvs;split at h1
     ·rename_i hl;split at h1
      ·rename_i esz' es hget;split at h1
       ·rename_i hz;split at h1
        ·rename_i cs hcs;split at h1
         ·rename_i cs' hcs';cases h1;refine .set id _ rfl fun _ h2 hg=>sN rfl ?_
          rw [hget] at hg;simp only [evOp,hx,hy,hvs,a9 hl,hg,a9 hz,hcs,hcs']
         ·cases h1
        ·cases h1
       ·cases h1
      ·cases h1
     ·cases h1
   ·cases h1
  case alloc z=>
   have h1:=yP rfl hv;simp only [evOp] at h1;cases h1;exact .new _ hv rfl fun h2=>sN rfl (by simp only [evOp])
  case nilapp z=>
   have h1:=yP rfl hv;simp only [evOp] at h1;cases h1;exact .new _ hv rfl fun h2=>sN rfl (by simp only [evOp])
  case mkmap=>
   have h1:=yP rfl hv;simp only [evOp] at h1;cases h1;exact .new _ hv rfl fun h2=>sN rfl (by simp only [evOp])
  case box x=>
   have h1:=yP rfl hv;simp only [evOp] at h1;split at h1
   ·rename_i y hy;split at h1
    ·rename_i vs hvs;cases h1;exact .new _ hv rfl fun h2=>sN rfl (by simp only [evOp,hy,hvs])
    ·cases h1
   ·cases h1
  case bslice m esz z parts=>
   have h1:=yP rfl hv;cases m
   case imm=>exact absurd ⟨rfl,rfl⟩ hi
   case row=>
    simp only [evOp] at h1;split at h1
    ·cases h1
    ·rename_i ps hps;cases h1;exact .new _ hv rfl fun h2=>sN rfl (by simp only [evOp,hps])
   case app=>
    simp only [evOp] at h1;split at h1
    ·cases h1
    ·rename_i ps hps;split at h1
     ·cases h1
     ·rename_i es' hes;split at h1
      ·cases h1
      ·rename_i hb;cases h1;refine .new _ hv rfl fun h2=>sN rfl ?_
       have hb':anyL (bor aI) (List.foldl (fun es p=>es.set p.1 p.2) z ps).flatten=false:=by simpa using hb
       have hf:=oa hb' h2 h;simp only [evOp,hps];rw [hf,hes];simp only [hb',nX,if_false]
  case mkslice m esz bytes z len cp=>
   cases m
   case row=>
    have h1:=yP rfl hv;simp only [evOp] at h1;split at h1
    ·rename_i k1 l k2 c hl hc;split at h1
     ·rename_i hb;split at h1
      ·rename_i hlc;cases h1;exact .new _ hv rfl fun h2=>sN rfl (by simp only [evOp,hl,hc,a9 hb,a9 hlc])
      ·cases h1
     ·cases h1
    ·cases h1
   case imm=>
    have h1:=yP rfl hv;simp only [foot];cases hb:anyL (bor aI) z with
    | true=>exact .any hv
    | false=>
     simp only [nX,if_false];simp only [evOp] at h1;split at h1
     ·rename_i k1 l k2 c hl hc;split at h1
      ·rename_i hbd;split at h1
       ·rename_i z' hz';split at h1
        ·rename_i hlc;cases h1;refine .quiet rfl fun nx h2=>sN rfl ?_
         have hf:w6 h2 z=w6 h z:=yQ fun x hx=>LB _ x h2 h (vT hb x hx)
         simp only [evOp,hl,hc,a9 hbd,hf,hz',a9 hlc]
        ·cases h1
       ·cases h1
      ·cases h1
     ·cases h1
   all_goals exact .any hv
  case append m esz bytes x y=>
   have h1:=yP rfl hv;have srow:∀{yv:AV} (h2:AH),CR yv=false->dF h2 yv=dF h yv:=by
    intro yv h2 hr;cases yv<;>first
     | rfl
     | cases hr
   have sfrz:∀{yv:AV} {es:List (List AV)} (h2:AH),CR yv=false->frz h2 yv es=frz h yv es:=by
    intro yv es h2 hr;cases yv<;>first
     | rfl
     | cases hr
   cases hx:evX e x with
   | none=>simp only [foot,hx];exact .any hv
   | some xv=>
    cases hy:evX e y with
    | none=>simp only [evOp,hx,hy] at h1;cases h1
    | some yv=>
     cases hr:CR yv with
     | true=>
      have:foot e (cE base dst h) h (.append m esz bytes x y)=(none,.any):=by
       simp only [foot,hx,hy];cases xv<;>simp [hr]
      rw [this];exact .any hv
     | false=>
      cases xv with
      | app z es t=>
       simp only [foot,hx,hy,hr,nX,if_false];simp only [evOp,hx,hy] at h1;split at h1
       ·cases h1
       ·rename_i ys0 hys0;split at h1
        ·rename_i hz;split at h1
         ·rename_i z' f ys hget hfz;split at h1
          ·rename_i hc;cases h1;refine .set t _ rfl fun _ h2 hg=>sN rfl ?_
           rw [hget] at hg;simp only [evOp,hx,hy,srow h2 hr,hys0,a9 hz,hg,sfrz h2 hr,hfz,a9 hc]
          ·cases h1
         ·cases h1
        ·cases h1
      | Xt z es=>
       simp only [foot,hx,hy,hr,nX,if_false];simp only [evOp,hx,hy] at h1;split at h1
       ·cases h1
       ·rename_i ys0 hys0;rw [hys0];split at h1
        ·split at h1
         ·rename_i hc;cases h1;have hnr:SK .row (some ys0)=false:=by
           cases ys0 with
           | nil=>exact absurd rfl hc.2.1
           | cons=>rfl
          rw [QA (by rw [hnr];decide)];exact .new _ hv rfl fun h2=>sN rfl (by simp only [evOp,hx,hy,srow h2 hr,hys0,a9 hc])
         ·split at h1
          ·rename_i hc;obtain ⟨_,c2⟩:=hc;subst c2;rw [a9 (show SK .row (some [])=true from rfl)];exact .any hv
          ·cases h1
        ·rename_i hm;have hnr:SK m (some ys0)=false:=by
          cases m
          case row=>exact absurd rfl hm
          all_goals rfl
         rw [QA (by rw [hnr];decide)];split at h1
         ·cases h1
         ·rename_i ys hfz;split at h1
          ·rename_i hc;cases h1;refine .new _ hv rfl fun h2=>sN rfl ?_
           cases m
           case row=>exact absurd rfl hm
           all_goals simp only [evOp,hx,hy,srow h2 hr,hys0,sfrz h2 hr,hfz,a9 hc]
          ·cases h1
      | row id z off len=>
       simp only [foot,hx,hy,hr,nX,if_false];simp only [evOp,hx,hy] at h1;split at h1
       ·cases h1
       ·rename_i ys0 hys0;split at h1
        ·rename_i hz;split at h1
         ·rename_i z' es hget;rw [hys0];simp only [jo,hget];split at h1
          ·rename_i hc;rw [a9 hc];cases h1;split
           ·rename_i hres;split
            ·exact .any hv
            ·rename_i hne;obtain ⟨n,d,rfl,rfl,hnx⟩:=UC hne;rw [hnx] at hres ⊢;have hin:n+d≠id:=by intro hh;rw [hh] at hres;rw [hget] at hres;cases hres
             have hput:∀h2:AH,h2.get (n+d)=some .res->∀ob,(h2.kill id).put (n+d) ob=(h2.kill id).set (n+d) ob:=by
              intro h2 hg ob;unfold AH.put;rw [ci hin,hg]
             refine ⟨fun h=>(h.kill id).set (n+d) (.row esz (es.drop off++ys0)),⟨⟨_,rfl⟩,[id,n+d],rfl,by simp,by simp⟩,trivial,hput h hres _,?_⟩;intro h2 ha;have hg:h2.get (n+d)=some .res:=by rw [ha.1 (n+d) (by simp)];exact hres
             have hg2:h2.get id=some (.row z' es):=by rw [ha.1 id (by simp)];exact hget
             have hn:cE (some n) (some d) h2=n+d:=by
              unfold cE;simp only [hg]
             rw [hn];refine sN rfl ?_;simp only [evOp,hx,hy,srow h2 hr,hys0,a9 hz,hg2,a9 hc,hput h2 hg]
           ·exact .any hv
          ·rename_i hc;rw [QA hc];split at h1
           ·rename_i hc2;cases h1;refine .set id _ rfl fun _ h2 hg=>sN rfl ?_
            rw [hget] at hg;simp only [evOp,hx,hy,srow h2 hr,hys0,a9 hz,hg,QA hc,a9 hc2]
           ·cases h1
         ·cases h1
        ·cases h1
      | _=>simp only [foot,hx,hy];exact .any hv
  all_goals first
   | exact absurd ⟨rfl,rfl⟩ hi
   | exact .any hv
end
end Go.Av
namespace Go.Av
section
variable {e e':Env} {h:AH} {call:aP} {base:Option Nat}
theorem Ef {o:Xv} {v:AV} {h':AH} (hr:rOp call base o e h=some (v,h')):∃ap,Stb call base o e h (yS base ⟨e,h⟩ o) v ap/\h'=ap h:=by
 unfold rOp at hr;unfold yS;simp only;cases hg:nI e o.guard with
 | none=>rw [hg] at hr;cases hr
 | some b=>
  rw [hg] at hr;cases b with
  | false=>
   cases hr;refine ⟨id,⟨rfl,trivial,?_⟩,rfl⟩;intro e2 h2 hh _;rw [tx hh];unfold rOp;rw [hg];rfl
  | true=>
   simp only at hr;split at hr
   ·rename_i y H1 hc;cases hr;obtain ⟨ap,k1,k2,k3,k4⟩:=Kh hc;refine ⟨ap,⟨k1,k2,?_⟩,k3⟩;intro e2 h2 hh ha;rw [tx hh];unfold rOp;rw [hg];simp only [k4 h2 ha]
   ·cases hr
theorem Kg {o:Xv} {v:AV} {h':AH} (hr:rOp call base o e h=some (v,h')):∃ap,Stb call base o e h (uN (yS base ⟨e,h⟩ o) h h') v ap/\h'=ap h:=by
 obtain ⟨ap,k1,k2⟩:=Ef hr;generalize yS base ⟨e,h⟩ o=f at*;by_cases hf:f=(none,.any)
 ·subst hf;refine ⟨fun _=>h',⟨rfl,rfl,?_⟩,rfl⟩;intro e2 h2 hh ha;have h3:h2=h:=ha.1;subst h3;have:=k1.run e2 h2 hh ⟨rfl,rfl⟩;rw [this,k2]
 ·have:uN f h h'=f:=by
   unfold uN;split
   ·exact absurd rfl hf
   ·rfl
  rw [this];exact ⟨ap,k1,k2⟩
theorem mg:∀{ops:List Xv} {s s':St},aU call base ops s=some (.normal,s')->
  ∃ds:List DD,ds.map (·.o)=ops/\Seq call base s.e s.h ds/\s'=⟨finE s.e ds,finH s.h ds⟩/\feet call base ops s=ds.map (·.f)/\∀d,d∈ds->∃s h h',d.f=uN (yS base s d.o) h h'
 | [],s,s',hs=>by
  cases hs;exact ⟨[],rfl,trivial,rfl,rfl,by simp⟩
 | o::r,s,s',hs=>by
  obtain ⟨v,h',h1,h2⟩:=evOps_cons.1 hs;obtain ⟨ap,k1,k2⟩:=Kg h1;subst k2;obtain ⟨ds,m1,m2,m3,m4,m5⟩:=mg h2;refine ⟨⟨o,uN (yS base s o) s.h (ap s.h),v,ap⟩::ds,by simp [m1],⟨k1,?_⟩,?_,?_,?_⟩
  ·exact m2
  ·exact m3
  ·have:aU call base [o] s=some (.normal,⟨putE s.e o.dst v,ap s.h⟩):=evOps_cons.2 ⟨v,ap s.h,h1,rfl⟩;simp only [feet,this,m4,uP]
  ·intro d hd;rcases nK.1 hd with rfl | hd
   ·exact ⟨s,s.h,ap s.h,rfl⟩
   ·exact m5 d hd
theorem ia:∀{ds:List DD} {e:Env} {h:AH},Seq call base e h ds->aU call base (ds.map (·.o)) ⟨e,h⟩=some (.normal,⟨finE e ds,finH h ds⟩)
 | [],_,_,_=>rfl
 | d::r,e,h,hs=>by
  obtain ⟨h1,h2⟩:=hs;refine evOps_cons.2 ⟨d.v,d.ap h,h1.run e h (fun _ _=>rfl) (Agree.refl h1.next),?_⟩;exact ia h2
theorem V7 {o:Xv} {s:St} (hc:o.op.cls= .i):yS base s o=(some [],.no):=by
 unfold yS;split
 ·generalize o.op=op at hc;cases op<;>first
    | rfl
    | (cases hc;done)
    | (rename_i m _ _ _;cases m<;>first | rfl | (cases hc;done))
 ·rfl
theorem YW (vs:Option (List AV)):(LO vs).2= .no:=by
 unfold LO;split
 ·rfl
 ·split<;>rfl
theorem V8 {o:Xv} {s:St} (hc:o.op.cls= .r):(yS base s o).2= .no:=by
 unfold yS;split
 ·generalize o.op=op at hc;cases op<;>first
    | rfl
    | (cases hc;done)
    | exact YW _
    | (simp only [foot];split<;>rfl)
    | (simp only [foot];split<;>first | rfl | (split<;>rfl))
    | (rename_i m _ _ _;cases m<;>first | rfl | (cases hc;done))
 ·rfl
theorem V9 {f:Foot} (hf:f=(some [],.no)) (h h':AH):uN f h h'=(some [],.no):=by subst hf;rfl
theorem VA {f:Foot} (hf:f.2= .no) (h h':AH):(uN f h h').2= .no:=by
 obtain ⟨r,w⟩:=f;cases hf;unfold uN;split
 ·rename_i heq;cases heq
 ·rfl
theorem ul {x y:Foot} (hx:x=(some [],.no)):x.compat y=true:=by subst hx;rfl
theorem sr {x y:Foot} (hy:y=(some [],.no)):x.compat y=true:=by
 subst hy;obtain ⟨r,v⟩:=x
 match r,v with
 | some [],.no=>rfl
 | some (_::_),.no=>rfl
 | none,.no=>rfl
 | some [],.set _=>rfl
 | some (_::_),.set _=>rfl
 | none,.set _=>rfl
 | some [],.mv _ _=>rfl
 | some (_::_),.mv _ _=>rfl
 | none,.mv _ _=>rfl
 | some [],.chg _ _=>rfl
 | some (_::_),.chg _ _=>rfl
 | none,.chg _ _=>rfl
 | some [],.any=>rfl
 | some (_::_),.any=>rfl
 | none,.any=>rfl
theorem rp {x y:Foot} (hx:x.2= .no) (hy:y.2= .no):x.compat y=true:=by
 obtain ⟨r,v⟩:=x;obtain ⟨q,u⟩:=y;cases hx;cases hy;cases r with
 | none=>cases q with
  | none=>rfl
  | some l=>cases l<;>rfl
 | some l'=>cases l' with
  | nil=>rfl
  | cons a b=>cases q with
   | none=>rfl
   | some l=>cases l<;>rfl
def LF (ops:Array Oper) (listed:Array Bool):Prop:=
 ∀(j:Nat) oj,ops[j]? =some oj->listed.getD j false=true->∀e,e∈oj.after->Region.binds .any e=true->listed.getD e.on false=true
theorem U1 {ops:Array Oper} {listed:Array Bool} (hc:LF ops listed):∀(n i k:Nat),ordB ops n i k=true->
  (∀o,ops[i]? =some o->∀e,e∈o.after->Region.binds .any e=true->listed.getD e.on false=true)->listed.getD k false=true
 | 0,_,_,h,_=>by cases h
 | n+1,i,k,h,ha=>by
  simp only [ordB] at h;split at h
  ·cases h
  ·rename_i o ho;obtain ⟨e,he,h1⟩:=DX.1 h;simp only [d7,D3,beq_iff_eq] at h1;obtain ⟨hb,h2⟩:=h1;have hl:=ha o ho e (by simpa using he) hb;rcases h2 with h2 | ⟨_,h2⟩
   ·rw [<- h2];exact hl
   ·exact U1 hc n e.on k h2 (fun o' ho' e' he' hb'=>hc e.on o' ho' hl e' he' hb')
theorem tp {l:List Nat} {i:Nat} (h:i∈l) (hp:l.Pairwise (· < ·)):∃as bs,l=as++i::bs/\(∀k,k∈as->k<i)/\(as++bs).Pairwise (· < ·)/\∀k,k∈as++bs↔(k∈l/\k≠i):=by
 obtain ⟨as,bs,rfl⟩:=List.append_of_mem h;have h1:=List.pairwise_append.1 hp;have h2:=TI.1 h1.2.1;refine ⟨as,bs,rfl,fun k hk=>h1.2.2 k hk i (by simp),?_,?_⟩
 ·exact List.pairwise_append.2 ⟨h1.1,h2.2,fun a ha b hb=>h1.2.2 a ha b (by simp [hb])⟩
 ·intro k;simp only [nE,nK];constructor
  ·rintro (hk | hk)
   ·exact ⟨.inl hk,Nat.ne_of_lt (h1.2.2 k hk i (by simp))⟩
   ·exact ⟨.inr (.inr hk),(Nat.ne_of_lt (h2.1 k hk)).symm⟩
  ·rintro ⟨hk | hk | hk,hne⟩
   ·exact .inl hk
   ·exact absurd hk hne
   ·exact .inr hk
theorem il {listed:Array Bool} {j n:Nat} (hs:listed.size=n) (hj:j<n) (h:¬listed.getD j true=false):listed.getD j false=true:=by
 have:j<listed.size:=by omega
 simp [this] at h ⊢;exact h
theorem lin {ops:Array Oper} {D:List DD} (hD:D.length=ops.size)
  (hback:∀(i:Nat) o,ops[i]? =some o->∀e,e∈o.after->Region.binds .any e=true->e.on<i)
  (hpair:∀k i,k<i->i<ops.size->ordB ops ops.size i k=true\/∀x y,D[k]? =some x->D[i]? =some y->PairOk x y):
  ∀(fuel t:Nat) (listed:Array Bool) (rem:List Nat) (e:Env) (h:AH),listed.size=ops.size->(∀k,k∈rem↔k<ops.size/\listed.getD k true=false)->rem.Pairwise (· < ·)->rem.length<=fuel->
   LF ops listed->Seq call base e h (rem.filterMap (D[·]?))->
   ∃L,Region.linearise.go .any ops fuel t listed []=L/\Seq call base e h (L.filterMap (D[·]?))/\EqE (finE e (rem.filterMap (D[·]?))) (finE e (L.filterMap (D[·]?)))/\finH h (rem.filterMap (D[·]?))=finH h (L.filterMap (D[·]?)):=by
 intro fuel
 induction fuel with
 | zero=>
  intro t listed rem e h _ _ _ hl _ hs;have:rem=[]:=Qg (by omega);subst this;exact ⟨[],rfl,trivial,fun _=>rfl,rfl⟩
 | succ fuel ih=>
  intro t listed rem e h hsz hmem hpw hl hcl hs;simp only [Region.linearise.go]
  change ∃L,(match (Region.ready .any ops listed)[t % (Region.ready .any ops listed).length]? with
   | some i=>Region.linearise.go .any ops fuel (t / (Region.ready .any ops listed).length) (listed.setIfInBounds i true) [i]
   | none=>[].reverse)=L/\_
  have hready:∀i,i∈Region.ready .any ops listed->i∈rem:=by
   intro i hi;obtain ⟨h1,o,ho,_⟩:=mem_ready.1 hi;exact (hmem i).2 ⟨(Array.getElem?_eq_some_iff.1 ho).1,h1⟩
  cases hi:(Region.ready .any ops listed)[t % (Region.ready .any ops listed).length]? with
  | none=>
   have hnil:Region.ready .any ops listed=[]:=by
    cases hr:Region.ready .any ops listed with
    | nil=>rfl
    | cons x xs=>
     rw [hr] at hi;have hlt:t % (x::xs).length<(x::xs).length:=Nat.mod_lt _ (by simp);simp at hi;simp at hlt;omega
   have hrem:rem=[]:=by
    cases hrr:rem with
    | nil=>rfl
    | cons m ms=>
     exfalso;subst hrr;have hm:=(hmem m).1 (by simp);have ho:ops[m]? =some ops[m]:=by simp [hm.1]
     have:m∈Region.ready .any ops listed:=by
      refine mem_ready.2 ⟨hm.2,ops[m],ho,fun e he hb=>?_⟩;have hlt:=hback m _ ho e he hb;refine il hsz (by omega) ?_;intro hf;have hin:=(hmem e.on).2 ⟨by omega,hf⟩;rcases nK.1 hin with hh | hh
      ·omega
      ·have:=(TI.1 hpw).1 _ hh;omega
     rw [hnil] at this;cases this
   subst hrem;exact ⟨[],rfl,trivial,fun _=>rfl,rfl⟩
  | some i=>
   have hir:i∈Region.ready .any ops listed:=Qe hi;obtain ⟨hun,oi,hoi,hall⟩:=mem_ready.1 hir;obtain ⟨as,bs,rfl,has,hpw',hmem'⟩:=tp (hready i hir) hpw;have hin:i<ops.size:=(Array.getElem?_eq_some_iff.1 hoi).1;have hDi:D[i]? =some D[i]:=by simp [hD,hin]
   have hsplit:(as++i::bs).filterMap (D[·]?)=as.filterMap (D[·]?)++D[i]::bs.filterMap (D[·]?):=by
    rw [OD,yX hDi]
   have hpok:∀y,y∈as.filterMap (D[·]?)->PairOk y D[i]:=by
    intro y hy;obtain ⟨k,hk,hky⟩:=List.mem_filterMap.1 hy;rcases hpair k i (has k hk) hin with ho | ho
    ·have h1:=U1 hcl _ _ _ ho (fun o ho' e he hb=>by
      rw [hoi] at ho';cases ho';exact hall e he hb)
     have h2:=((hmem k).1 (by simp [hk])).2;have h3:=((hmem k).1 (by simp [hk])).1;exfalso;have:k<listed.size:=by omega
     simp [this] at h1 h2;rw [h1] at h2;cases h2
    ·exact ho _ _ hky hDi
   rw [hsplit] at hs ⊢;obtain ⟨k1,k2,k3⟩:=dv hpok hs;obtain ⟨hx,hrest⟩:=k1;rw [<- OD] at hrest k2 k3;have hcl':LF ops (listed.setIfInBounds i true):=by
    intro j oj hj hlj e' he' hb';by_cases hij:i=j
    ·subst hij;rw [hoi] at hj;cases hj;exact getD_set_true (hall e' he' hb')
    ·rw [getD_set_ne false hij] at hlj;exact getD_set_true (hcl j oj hj hlj e' he' hb')
   have hm2:∀k,k∈as++bs↔k<ops.size/\(listed.setIfInBounds i true).getD k true=false:=by
    intro k;rw [hmem' k,hmem k];by_cases hik:i=k
    ·subst hik;have:i<listed.size:=by omega
     simp [this]
    ·rw [getD_set_ne true hik];simp [Ne.symm hik]
   obtain ⟨L,m1,m2,m3,m4⟩:=ih (t / (Region.ready .any ops listed).length) (listed.setIfInBounds i true) (as++bs) _ _ (by simp [hsz]) hm2 hpw' (by simp at hl ⊢;omega) hcl' hrest;simp only [];rw [linearise_go_acc,List.reverse_singleton,TD,m1];refine ⟨i::L,rfl,?_,?_,?_⟩
   ·rw [yX hDi];exact ⟨hx,m2⟩
   ·rw [yX hDi];exact fun t=>(k2 t).trans (m3 t)
   ·rw [yX hDi];exact k3.trans m4
theorem UE (n:Nat) (D:List DD) (hD:D.length=n):(List.range n).filterMap (D[·]?)=D:=by
 subst hD
 induction D with
 | nil=>rfl
 | cons d r ih=>
  rw [AQ,List.range_succ_eq_map,yX (f:=fun x=>(d::r)[x]?) (b:=d) (by simp)];rw [List.filterMap_map];have:((fun x=>(d::r)[x]?) ∘ Nat.succ)=fun x=>r[x]? :=by funext x;simp
  rw [this,ih]
theorem Y1 {ops:Array Oper} {l:List Xv} {pairs:List (Nat×Nat)} {s s':St} (hl:l.length=ops.size) (hd:kx ops l pairs=true)
  (hf:(pairs.isEmpty || JV pairs (feet call base l s))=true) (he:aU call base l s=some (.normal,s')) (t:Nat):
  ∃s'',aU call base ((Region.linearise .any ops t).filterMap (l[·]?)) s=some (.normal,s'')/\EqE s'.e s''.e/\s''.h=s'.h:=by
 obtain ⟨D,d1,d2,d3,d4,d5⟩:=mg he;have hD:D.length=ops.size:=by rw [<- hl,<- d1];simp
 have hall:=Qr.1 hd;have JZ:∀i,i<ops.size->∃o y,ops[i]? =some o/\l[i]? =some y/\(∀e,e∈o.after->Region.binds .any e=true->e.on<i)/\
   ∀k,k<i->∃x,l[k]? =some x/\((NU x y=true/\(NT x y=true\/∃p,p∈pairs/\p.1=k/\p.2=i))\/ordB ops ops.size i k=true):=by
  intro i hi;have h1:=hall i (F4.2 hi);split at h1
  ·rename_i o y ho hy;simp only [d7] at h1;refine ⟨o,y,ho,hy,?_,?_⟩
   ·intro e hee hb;have:=Qr.1 h1.1 e (by simpa using hee);simpa [hb] using this
   ·intro k hk;have:=Qr.1 h1.2 k (F4.2 hk);split at this
    ·rename_i x hx;refine ⟨x,hx,?_⟩;simp only [D3,d7,DX,beq_iff_eq] at this;exact this
    ·cases this
  ·cases h1
 have hback:∀(i:Nat) o,ops[i]? =some o->∀e,e∈o.after->Region.binds .any e=true->e.on<i:=by
  intro i o ho;have hi:i<ops.size:=(Array.getElem?_eq_some_iff.1 ho).1;obtain ⟨o',y,h1,_,h3,_⟩:=JZ i hi;rw [ho] at h1;cases h1;exact h3
 have hpair:∀k i,k<i->i<ops.size->ordB ops ops.size i k=true\/∀x y,D[k]? =some x->D[i]? =some y->PairOk x y:=by
  intro k i hk hi;obtain ⟨o,y,h1,h2,h3,h4⟩:=JZ i hi;obtain ⟨x,hx,h5⟩:=h4 k hk;rcases h5 with ⟨ht,hh⟩ | h5
  ·refine .inr fun dx dy hdx hdy=>?_
   have ex:dx.o=x:=by
    have:l[k]? =some dx.o:=by rw [<- d1,List.getElem?_map,hdx];rfl
    rw [hx] at this;cases this;rfl
   have ey:dy.o=y:=by
    have:l[i]? =some dy.o:=by rw [<- d1,List.getElem?_map,hdy];rfl
    rw [h2] at this;cases this;rfl
   refine ⟨by rw [ex,ey];exact ht,?_⟩;obtain ⟨s1,a1,b1,f1⟩:=d5 dx (Qe hdx);obtain ⟨s2,a2,b2,f2⟩:=d5 dy (Qe hdy);rcases hh with hh | ⟨p,hp,hp1,hp2⟩
   ·unfold NT at hh;simp only [D3,d7,beq_iff_eq] at hh;rcases hh with (hh | hh) | ⟨hh1,hh2⟩
    ·exact ul (f1.trans (V9 (V7 (by rw [ex];exact hh)) _ _))
    ·exact sr (f2.trans (V9 (V7 (by rw [ey];exact hh)) _ _))
    ·exact rp (by rw [f1];exact VA (V8 (by rw [ex];exact hh1)) _ _) (by rw [f2];exact VA (V8 (by rw [ey];exact hh2)) _ _)
   ·have hne:pairs.isEmpty=false:=by cases pairs<;>first | (cases hp;done) | rfl
    rw [hne,KE] at hf;have:=Qr.1 hf p hp;rw [hp1,hp2,d4,List.getElem?_map,List.getElem?_map,hdx,hdy] at this;exact this
  ·exact .inl h5
 have hrem:∀k,k∈List.range ops.size↔k<ops.size/\(Array.replicate ops.size false).getD k true=false:=by
  intro k;rw [F4];constructor
  ·intro hk;exact ⟨hk,by simp [hk]⟩
  ·exact fun hk=>hk.1
 have hcl:LF ops (Array.replicate ops.size false):=by
  intro j oj hj hlj;have:j<ops.size:=(Array.getElem?_eq_some_iff.1 hj).1;simp [this] at hlj
 have hseq:Seq call base s.e s.h ((List.range ops.size).filterMap (D[·]?)):=by rw [UE _ _ hD];exact d2
 obtain ⟨L,m1,m2,m3,m4⟩:=lin hD hback hpair ops.size t _ (List.range ops.size) s.e s.h (by simp) hrem List.pairwise_lt_range (by simp) hcl hseq;rw [UE _ _ hD] at m3 m4;have hL:Region.linearise .any ops t=L:=m1;refine ⟨⟨finE s.e (L.filterMap (D[·]?)),finH s.h (L.filterMap (D[·]?))⟩,?_,?_,?_⟩
 ·rw [hL,<- ia m2];congr 1;rw [<- d1,List.map_filterMap];congr 1;funext x;rw [List.getElem?_map]
 ·rw [d3];exact m3
 ·rw [d3];exact m4.symm
end
end Go.Av
namespace Go.Av
section
variable {call:aP} {base:Option Nat}
theorem lin1 {ops:Array Oper} {z:Nat} {D:List DD} (hz:ops.size=z+1) (hD:D.length=z)
  (hback:∀(i:Nat) o,ops[i]? =some o->∀e,e∈o.after->Region.binds .any e=true->e.on<i)
  (hpair:∀k i,k<i->i<z->ordB ops ops.size i k=true\/∀x y,D[k]? =some x->D[i]? =some y->PairOk x y)
  (hlast:∀k,k<z->ordB ops ops.size z k=true):
  ∀(fuel t:Nat) (listed:Array Bool) (rem:List Nat) (e:Env) (h:AH),listed.size=ops.size->(∀k,k∈rem↔k<z/\listed.getD k true=false)->listed.getD z true=false->rem.Pairwise (· < ·)->rem.length<fuel->
   LF ops listed->Seq call base e h (rem.filterMap (D[·]?))->
   ∃L,Region.linearise.go .any ops fuel t listed []=L++[z]/\Seq call base e h (L.filterMap (D[·]?))/\EqE (finE e (rem.filterMap (D[·]?))) (finE e (L.filterMap (D[·]?)))/\finH h (rem.filterMap (D[·]?))=finH h (L.filterMap (D[·]?))/\∀k,k∈L->k<z:=by
 intro fuel
 induction fuel with
 | zero=>intro t listed rem e h _ _ _ _ hl;omega
 | succ fuel ih=>
  intro t listed rem e h hsz hmem hzun hpw hl hcl hs;simp only [Region.linearise.go]
  change ∃L,(match (Region.ready .any ops listed)[t % (Region.ready .any ops listed).length]? with
   | some i=>Region.linearise.go .any ops fuel (t / (Region.ready .any ops listed).length) (listed.setIfInBounds i true) [i]
   | none=>[].reverse)=L++[z]/\_
  have hzo:ops[z]? =some ops[z]:=by simp [hz]
  cases hi:(Region.ready .any ops listed)[t % (Region.ready .any ops listed).length]? with
  | none=>
   have hnil:Region.ready .any ops listed=[]:=by
    cases hr:Region.ready .any ops listed with
    | nil=>rfl
    | cons x xs=>
     rw [hr] at hi;have hlt:t % (x::xs).length<(x::xs).length:=Nat.mod_lt _ (by simp);simp at hi;simp at hlt;omega
   exfalso;cases hrr:rem with
   | nil=>
    subst hrr;have:z∈Region.ready .any ops listed:=by
     refine mem_ready.2 ⟨hzun,ops[z],hzo,fun e he hb=>?_⟩;have hlt:=hback z _ hzo e he hb;refine il hsz (by omega) ?_;intro hf;have:=(hmem e.on).2 ⟨hlt,hf⟩;cases this
    rw [hnil] at this;cases this
   | cons m ms=>
    subst hrr;have hm:=(hmem m).1 (by simp);have ho:ops[m]? =some ops[m]:=by simp [hz]
    have:m∈Region.ready .any ops listed:=by
     refine mem_ready.2 ⟨hm.2,ops[m],ho,fun e he hb=>?_⟩;have hlt:=hback m _ ho e he hb;refine il hsz (by omega) ?_;intro hf;have hin:=(hmem e.on).2 ⟨by omega,hf⟩;rcases nK.1 hin with hh | hh
     ·omega
     ·have:=(TI.1 hpw).1 _ hh;omega
    rw [hnil] at this;cases this
  | some i=>
   have hir:i∈Region.ready .any ops listed:=Qe hi;obtain ⟨hun,oi,hoi,hall⟩:=mem_ready.1 hir;have hin:i<ops.size:=(Array.getElem?_eq_some_iff.1 hoi).1;by_cases hiz:i=z
   ·subst hiz;have hrem:rem=[]:=by
     cases hrr:rem with
     | nil=>rfl
     | cons m ms=>
      exfalso;subst hrr;have hm:=(hmem m).1 (by simp);have h1:=U1 hcl _ _ _ (hlast m hm.1) (fun o ho' e he hb=>by
       rw [hoi] at ho';cases ho';exact hall e he hb)
      have h2:=hm.2;have:m<listed.size:=by omega
      simp [this] at h1 h2;rw [h1] at h2;cases h2
    subst hrem;refine ⟨[],?_,trivial,fun _=>rfl,rfl,by simp⟩;simp only [];rw [linearise_go_acc,List.reverse_singleton,yY];have hno:Region.ready .any ops (listed.setIfInBounds i true)=[]:=by
     cases hr:Region.ready .any ops (listed.setIfInBounds i true) with
     | nil=>rfl
     | cons x xs=>
      exfalso;have hx:x∈Region.ready .any ops (listed.setIfInBounds i true):=by rw [hr];simp
      obtain ⟨hxu,ox,hox,_⟩:=mem_ready.1 hx;have hxs:x<ops.size:=(Array.getElem?_eq_some_iff.1 hox).1;by_cases hxi:i=x
      ·subst hxi;have:i<listed.size:=by omega
       simp [this] at hxu
      ·rw [getD_set_ne true hxi] at hxu;have:=(hmem x).2 ⟨by omega,hxu⟩;cases this
    cases fuel with
    | zero=>rfl
    | succ fuel=>
     simp only [Region.linearise.go]
     change [i]++(match (Region.ready .any ops (listed.setIfInBounds i true))[_ % (Region.ready .any ops (listed.setIfInBounds i true)).length]? with
      | some j=>_
      | none=>[].reverse)=[i]
     rw [hno];rfl
   ·have hready:i∈rem:=(hmem i).2 ⟨by omega,hun⟩;obtain ⟨as,bs,rfl,has,hpw',hmem'⟩:=tp hready hpw;have hDi:D[i]? =some D[i]:=by simp [hD]
    have hsplit:(as++i::bs).filterMap (D[·]?)=as.filterMap (D[·]?)++D[i]::bs.filterMap (D[·]?):=by
     rw [OD,yX hDi]
    have hpok:∀y,y∈as.filterMap (D[·]?)->PairOk y D[i]:=by
     intro y hy;obtain ⟨k,hk,hky⟩:=List.mem_filterMap.1 hy;rcases hpair k i (has k hk) (by omega) with ho | ho
     ·have h1:=U1 hcl _ _ _ ho (fun o ho' e he hb=>by
       rw [hoi] at ho';cases ho';exact hall e he hb)
      have h2:=((hmem k).1 (by simp [hk])).2;have h3:=((hmem k).1 (by simp [hk])).1;exfalso;have:k<listed.size:=by omega
      simp [this] at h1 h2;rw [h1] at h2;cases h2
     ·exact ho _ _ hky hDi
    rw [hsplit] at hs ⊢;obtain ⟨k1,k2,k3⟩:=dv hpok hs;obtain ⟨hx,hrest⟩:=k1;rw [<- OD] at hrest k2 k3;have hcl':LF ops (listed.setIfInBounds i true):=by
     intro j oj hj hlj e' he' hb';by_cases hij:i=j
     ·subst hij;rw [hoi] at hj;cases hj;exact getD_set_true (hall e' he' hb')
     ·rw [getD_set_ne false hij] at hlj;exact getD_set_true (hcl j oj hj hlj e' he' hb')
    have hm2:∀k,k∈as++bs↔k<z/\(listed.setIfInBounds i true).getD k true=false:=by
     intro k;rw [hmem' k,hmem k];by_cases hik:i=k
     ·subst hik;have:i<listed.size:=by omega
      simp [this]
     ·rw [getD_set_ne true hik];simp [Ne.symm hik]
    obtain ⟨L,m1,m2,m3,m4,m5⟩:=ih (t / (Region.ready .any ops listed).length) (listed.setIfInBounds i true) (as++bs) _ _ (by simp [hsz]) hm2 (by rw [getD_set_ne true hiz];exact hzun) hpw' (by simp at hl ⊢;omega) hcl' hrest;simp only [];rw [linearise_go_acc,List.reverse_singleton,TD,m1];refine ⟨i::L,rfl,?_,?_,?_,?_⟩
    ·rw [yX hDi];exact ⟨hx,m2⟩
    ·rw [yX hDi];exact fun t=>(k2 t).trans (m3 t)
    ·rw [yX hDi];exact k3.trans m4
    ·intro k hk;rcases nK.1 hk with rfl | hk
     ·omega
     ·exact m5 k hk
theorem dr:∀(a b:List Xv) (s:St),aU call base (a++b) s=match aU call base a s with
  | some (.normal,s')=>aU call base b s'
  | r=>r
 | [],b,s=>rfl
 | o::a,b,s=>by
  rw [oY,aU,aU];cases nI s.e o.guard with
  | none=>rfl
  | some g=>cases g with
   | false=>exact dr a b _
   | true=>
    simp only;cases aD call s.e (cE base o.dst s.h) s.h o.op with
    | none=>rfl
    | some p=>
     obtain ⟨r,h⟩:=p;cases r with
     | val v=>exact dr a b _
     | pan v=>rfl
theorem Af {o:Xv} {s s2:St} {ex:Ex} {s':St} (he:EqE s.e s2.e) (hh:s2.h=s.h) (h:aU call base [o] s=some (ex,s')):
  ∃s2',aU call base [o] s2=some (ex,s2')/\EqE s'.e s2'.e/\s2'.h=s'.h:=by
 obtain ⟨e,H⟩:=s;obtain ⟨e2,H2⟩:=s2;simp only at he hh;subst hh;simp only [aU] at h ⊢;have hg:nI e2 o.guard=nI e o.guard:=by
  unfold nI;split
  ·rfl
  ·rw [he]
 rw [hg];cases hgo:nI e o.guard with
 | none=>rw [hgo] at h;cases h
 | some g=>
  rw [hgo] at h;cases g with
  | false=>
   simp only at h ⊢;cases h;exact ⟨_,rfl,he.put _ _,rfl⟩
  | true=>
   simp only at h ⊢;rw [<- mz (e:=e) (e':=e2) (fun t _=>he t)];cases hc:aD call e (cE base o.dst H2) H2 o.op with
   | none=>rw [hc] at h;cases h
   | some p=>
    obtain ⟨r,h'⟩:=p;rw [hc] at h;cases r with
    | val v=>
     simp only at h ⊢;cases h;exact ⟨_,rfl,he.put _ _,rfl⟩
    | pan v=>
     simp only at h ⊢;cases h;exact ⟨_,rfl,he,rfl⟩
theorem XB {ops:Array Oper} {l:List Xv} {s s1:St} {ex:Ex} {s':St} (hl:l.length=ops.size) (hd:kx ops l []=true) (hsp:ka ops=true)
  (he1:aU call none l.dropLast s=some (.normal,s1)) (he2:aU call none (l.drop (l.length - 1)) s1=some (ex,s')) (t:Nat):
  ∃s'',aU call none ((Region.linearise .any ops t).filterMap (l[·]?)) s=some (ex,s'')/\EqE s'.e s''.e/\s''.h=s'.h:=by
 unfold ka at hsp;simp only [d7,decide_eq_true_eq] at hsp;obtain ⟨hpos,hls⟩:=hsp;obtain ⟨z,hz⟩:∃z,ops.size=z+1:=⟨ops.size - 1,by omega⟩;have hlast:∀k,k<z->ordB ops ops.size z k=true:=by
  intro k hk;have:=Qr.1 hls k (F4.2 (by omega))
  rwa [show ops.size - 1=z by omega] at this
 obtain ⟨D,d1,d2,d3,d4,d5⟩:=mg he1;have hD:D.length=z:=by
  have:=congrArg List.length d1;simp at this;omega
 have hDl:∀k,k<z->(D.map (·.o))[k]? =l[k]? :=by
  intro k hk;rw [d1,List.dropLast_eq_take,List.getElem?_take,a9 (by omega)]
 have hall:=Qr.1 hd;have JZ:∀i,i<ops.size->∃o y,ops[i]? =some o/\l[i]? =some y/\(∀e,e∈o.after->Region.binds .any e=true->e.on<i)/\
   ∀k,k<i->∃x,l[k]? =some x/\((NU x y=true/\NT x y=true)\/ordB ops ops.size i k=true):=by
  intro i hi;have h1:=hall i (F4.2 hi);split at h1
  ·rename_i o y ho hy;simp only [d7] at h1;refine ⟨o,y,ho,hy,?_,?_⟩
   ·intro e hee hb;have:=Qr.1 h1.1 e (by simpa using hee);simpa [hb] using this
   ·intro k hk;have:=Qr.1 h1.2 k (F4.2 hk);split at this
    ·rename_i x hx;refine ⟨x,hx,?_⟩;simpa using this
    ·cases this
  ·cases h1
 have hback:∀(i:Nat) o,ops[i]? =some o->∀e,e∈o.after->Region.binds .any e=true->e.on<i:=by
  intro i o ho;have hi:i<ops.size:=(Array.getElem?_eq_some_iff.1 ho).1;obtain ⟨o',y,h1,_,h3,_⟩:=JZ i hi;rw [ho] at h1;cases h1;exact h3
 have hpair:∀k i,k<i->i<z->ordB ops ops.size i k=true\/∀x y,D[k]? =some x->D[i]? =some y->PairOk x y:=by
  intro k i hk hi;obtain ⟨o,y,h1,h2,h3,h4⟩:=JZ i (by omega);obtain ⟨x,hx,h5⟩:=h4 k hk;rcases h5 with ⟨ht,hh⟩ | h5
  ·refine .inr fun dx dy hdx hdy=>?_
   have ex:dx.o=x:=by
    have:l[k]? =some dx.o:=by rw [<- hDl k (by omega),List.getElem?_map,hdx];rfl
    rw [hx] at this;cases this;rfl
   have ey:dy.o=y:=by
    have:l[i]? =some dy.o:=by rw [<- hDl i hi,List.getElem?_map,hdy];rfl
    rw [h2] at this;cases this;rfl
   refine ⟨by rw [ex,ey];exact ht,?_⟩;obtain ⟨s1,a1,b1,f1⟩:=d5 dx (Qe hdx);obtain ⟨s2,a2,b2,f2⟩:=d5 dy (Qe hdy);unfold NT at hh;simp only [D3,d7,beq_iff_eq] at hh;rcases hh with (hh | hh) | ⟨hh1,hh2⟩
   ·exact ul (f1.trans (V9 (V7 (by rw [ex];exact hh)) _ _))
   ·exact sr (f2.trans (V9 (V7 (by rw [ey];exact hh)) _ _))
   ·exact rp (by rw [f1];exact VA (V8 (by rw [ex];exact hh1)) _ _) (by rw [f2];exact VA (V8 (by rw [ey];exact hh2)) _ _)
  ·exact .inl h5
 have hrem:∀k,k∈List.range z↔k<z/\(Array.replicate ops.size false).getD k true=false:=by
  intro k;rw [F4];constructor
  ·intro hk;have:k<ops.size:=by omega
   exact ⟨hk,by simp [this]⟩
  ·exact fun hk=>hk.1
 have hcl:LF ops (Array.replicate ops.size false):=by
  intro j oj hj hlj;have:j<ops.size:=(Array.getElem?_eq_some_iff.1 hj).1;simp [this] at hlj
 have hseq:Seq call none s.e s.h ((List.range z).filterMap (D[·]?)):=by rw [UE _ _ hD];exact d2
 obtain ⟨L,m1,m2,m3,m4,hlt⟩:=lin1 hz hD hback hpair hlast ops.size t _ (List.range z) s.e s.h (by simp) hrem (by simp [hz]) List.pairwise_lt_range (by simp [hz]) hcl hseq;rw [UE _ _ hD] at m3 m4;have hL:Region.linearise .any ops t=L++[z]:=m1;obtain ⟨o,y,h1,h2,_⟩:=JZ z (by omega);have hdrop:l.drop (l.length - 1)=[y]:=by
  rw [show l.length - 1=z by omega,Qi (by omega),List.drop_eq_nil_of_le (by omega)];obtain ⟨hh,he⟩:=Qm.1 h2;rw [he]
 rw [hdrop] at he2;have hL0:aU call none (L.filterMap (l[·]?)) s=some (.normal,⟨finE s.e (L.filterMap (D[·]?)),finH s.h (L.filterMap (D[·]?))⟩):=by
  rw [<- ia m2];congr 1;rw [List.map_filterMap];clear m1 m2 m3 m4 hL
  induction L with
  | nil=>rfl
  | cons k L ih=>
   have hk:=hlt k (by simp);have:=hDl k hk;rw [List.getElem?_map] at this;rw [List.filterMap_cons,List.filterMap_cons,<- this,ih (fun j hj=>hlt j (by simp [hj]))]
 have hE:EqE s1.e (finE s.e (L.filterMap (D[·]?))):=by rw [d3];exact m3
 have hH:finH s.h (L.filterMap (D[·]?))=s1.h:=by rw [d3];exact m4.symm
 obtain ⟨s2',r1,r2,r3⟩:=Af (s2:=⟨finE s.e (L.filterMap (D[·]?)),finH s.h (L.filterMap (D[·]?))⟩) hE hH he2;refine ⟨s2',?_,r2,r3⟩;rw [hL,OD,yX h2,List.filterMap_nil,dr,hL0];exact r1
end
end Go.Av
namespace Go.Av
section
variable {F:Nat->Nat->Prop} {B0:Nat} {w:World} {I:Beta} {H:AH}
theorem gr {G:Type} (t:Nat):∀(a b:List (Nat×G)),look t (a++b)=match look t a with | some x=>some x | none=>look t b
 | [],b=>by simp [look]
 | (u,x)::a,b=>by
  simp only [oY,look];by_cases h:u=t
  ·simp [h]
  ·simp only [QA h];exact gr t a b
def resL (n:Nat) (ds:List Nat):List (Nat×AO):=ds.map fun d=>(n+d,.res)
theorem N9 (n t:Nat):∀(ds:List Nat),(look t (resL n ds)=none\/look t (resL n ds)=some .res)/\(t<n->look t (resL n ds)=none)/\(n+maxN ds<t->look t (resL n ds)=none)/\∀d,t=n+d->d∉ds->look t (resL n ds)=none
 | []=>⟨.inl rfl,fun _=>rfl,fun _=>rfl,fun _ _ _=>rfl⟩
 | d::ds=>by
  obtain ⟨h1,h2,h3,h4⟩:=N9 n t ds;have e:look t (resL n (d::ds))=if n+d=t then some .res else look t (resL n ds):=rfl
  rw [e];refine ⟨?_,?_,?_,?_⟩
  ·split
   ·exact .inr rfl
   ·exact h1
  ·intro h;rw [QA (by omega)];exact h2 h
  ·intro h;simp only [maxN] at h;have:d<=max d (maxN ds):=Nat.le_max_left _ _;have:maxN ds<=max d (maxN ds):=Nat.le_max_right _ _;rw [QA (by omega)];exact h3 (by omega)
  ·intro d' hd hn;rw [QA]
   ·exact h4 d' hd (fun hm=>hn (D1 _ hm))
   ·intro hh;have:d=d':=by omega
    subst this;exact hn (by simp)
theorem wq (n:Nat):∀(ds:List Nat),K5 ds=true->Uniq (resL n ds)
 | [],_=>trivial
 | d::ds,h=>by
  simp only [K5,d7,AP] at h;refine ⟨?_,wq n ds h.2⟩;refine (N9 n (n+d) ds).2.2.2 d rfl ?_;intro hm;rw [memNat_iff.2 hm] at h;cases h.1
theorem ws {G:Type}:∀(a b:List (Nat×G)),Uniq a->Uniq b->(∀t,look t a≠none->look t b=none)->Uniq (a++b)
 | [],_,_,hb,_=>hb
 | (u,x)::a,b,ha,hb,h=>by
  refine ⟨?_,ws a b ha.2 hb ?_⟩
  ·show look u (a++b)=none;rw [gr,ha.1];exact h u (by simp [look])
  ·intro t ht;refine h t ?_;simp only [look];split
   ·simp
   ·exact ht
def cutB (I:Beta) (n:Nat):Beta:=fun id=>if id<n then I id else none
theorem ZE (hr:HR F B0 w I H) {ds:List Nat} (hd:K5 ds=true):Tr w I H w (cutB I H.next) (H.resv ds)/\HR F B0 w (cutB I H.next) (H.resv ds):=by
 have hget:∀id,(H.resv ds).get id=match H.get id with | some x=>some x | none=>look id (resL H.next ds):=by
  intro id;show look id (H.objs++resL H.next ds)=_;rw [gr];unfold AH.get;cases look id H.objs<;>rfl
 have hlow:∀id,id<H.next->(H.resv ds).get id=H.get id:=by
  intro id hid;rw [hget,(N9 H.next id ds).2.1 hid];cases H.get id<;>rfl
 have hhigh:∀id,¬id<H.next->(H.resv ds).get id=none\/(H.resv ds).get id=some .res:=by
  intro id hid;rw [hget,hr.next id (by omega)];exact (N9 H.next id ds).1
 have hβ:∀id,id<H.next->cutB I H.next id=I id:=fun id h=>by simp [cutB,h]
 have hb:∀{id b o},cutB I H.next id=some (b,o)->id<H.next:=by
  intro id b o h;unfold cutB at h;split at h
  ·assumption
  ·cases h
 have ht:Tr w I H w (cutB I H.next) (H.resv ds):=by
  refine ⟨.refl _ _,?_,?_,?_,?_,?_⟩
  ·rintro b i ⟨id,ob,o,h1,h2,h3⟩;have hid:=hb h2;rw [hlow id hid] at h1;rw [hβ id hid] at h2;exact .inl ⟨id,ob,o,h1,h2,h3⟩
  ·intro id hid;refine ⟨?_,by rw [hlow id hid.1];exact hid.2⟩;show id<H.next+maxN ds+1;have:=hid.1;omega
  ·intro id z es hid h;rw [hlow id hid.1] at h;exact ⟨⟨es,h,rfl⟩,hβ id hid.1⟩
  ·intro id es hid h;rw [hlow id hid.1] at h;exact ⟨⟨es,h⟩,hβ id hid.1⟩
  ·intro id z f hid h;rw [hlow id hid.1] at h;exact ⟨f,h,Qb _,fun _=>hβ id hid.1⟩
 refine ⟨ht,hr.base,hr.far,?_,?_,?_,?_⟩
 ·refine ws H.objs (resL H.next ds) hr.uniq (wq _ _ hd) ?_;intro t htt;refine (N9 H.next t ds).2.1 ?_;rcases Qv t H.next with h | h
  ·exact h
  ·exact absurd (hr.next t h) htt
 ·intro id hid;have hid':H.next+maxN ds+1<=id:=hid;rw [hget,hr.next id (by omega)];exact (N9 H.next id ds).2.2.1 (by omega)
 ·intro id id' ob ob' b o o' h1 h2 h3 h4;have k1:=hb h3;have k2:=hb h4;rw [hlow id k1] at h1;rw [hlow id' k2] at h2;rw [hβ id k1] at h3;rw [hβ id' k2] at h4;exact hr.inj id id' ob ob' b o o' h1 h2 h3 h4
 ·intro id ob h;by_cases hid:id<H.next
  ·rw [hlow id hid] at h;exact (hr.obj id ob h).tr ht (hβ id hid) (fun _ _ _=>rfl)
  ·rcases hhigh id hid with h' | h'
   ·rw [h'] at h;cases h
   ·rw [h'] at h;cases h;show cutB I H.next id=none;simp [cutB,hid]
theorem U4 {t:Nat}:∀{l:List (Nat×AO)},look t l=none->look t (eT l)=none
 | [],_=>rfl
 | (u,x)::l,h=>by
  simp only [look] at h;split at h
  ·cases h
  ·rename_i hu;cases x with
   | res=>
    show look t (eT l)=none;exact U4 h
   | _=>simp only [eT,look,QA hu];exact U4 h
theorem du {t:Nat}:∀{l:List (Nat×AO)},Uniq l->look t (eT l)=match look t l with | some .res=>none | x=>x
 | [],_=>rfl
 | (u,x)::l,hu=>by
  by_cases h:u=t
  ·subst h;cases x with
   | res=>simp only [look,eT,if_true];exact U4 hu.1
   | _=>simp only [look,eT,if_true]
  ·cases x with
   | res=>simp only [look,eT,QA h];exact du hu.2
   | _=>simp only [look,eT,QA h];exact du hu.2
theorem eb:∀{l:List (Nat×AO)},Uniq l->Uniq (eT l)
 | [],_=>trivial
 | (u,x)::l,h=>by
  cases x with
  | res=>
   show Uniq (eT l);exact eb h.2
  | _=>exact ⟨U4 h.1,eb h.2⟩
theorem WZ (hr:HR F B0 w I H):Tr w I H w I H.sweep/\HR F B0 w I H.sweep:=by
 have hget:∀id,H.sweep.get id=match H.get id with | some .res=>none | x=>x:=fun id=>du hr.uniq
 have old:∀{id ob},H.sweep.get id=some ob->H.get id=some ob:=by
  intro id ob h;rw [hget] at h;split at h
  ·cases h
  ·exact h
 have ht:Tr w I H w I H.sweep:=by
  refine ⟨.refl _ _,?_,?_,?_,?_,?_⟩
  ·rintro b i ⟨id,ob,o,h1,h2,h3⟩;exact .inl ⟨id,ob,o,old h1,h2,h3⟩
  ·intro id hid;refine ⟨hid.1,?_⟩;intro h;exact hid.2 (old h)
  ·intro id z es _ h;exact ⟨⟨es,old h,rfl⟩,rfl⟩
  ·intro id es _ h;exact ⟨⟨es,old h⟩,rfl⟩
  ·intro id z f _ h;exact ⟨f,old h,Qb _,fun _=>rfl⟩
 refine ⟨ht,hr.base,hr.far,eb hr.uniq,?_,?_,?_⟩
 ·intro id hid;rw [hget,hr.next id hid]
 ·intro id1 id2 o1 o2 b k1 k2 h1 h2 h3 h4;exact hr.inj id1 id2 o1 o2 b k1 k2 (old h1) (old h2) h3 h4
 ·intro id ob h;exact (hr.obj id ob (old h)).tr ht rfl (fun _ _ _=>rfl)
theorem qs (base dst:Option Nat) (H:AH):Free H (cE base dst H):=by
 unfold cE;split
 ·split
  ·rename_i h;exact .inr h
  ·exact .inl rfl
 ·exact .inl rfl
end
end Go.Av
namespace Go.Av
section
variable {F:Nat->Nat->Prop} {B0:Nat} {P:Program} {A:Ann} {fn nt:FuncId} {call:aP}
def Fine (F:Nat->Nat->Prop) (B0:Nat) (w:World) (I:Beta) (H:AH) (a:Act) (a':Act) (w':World) (s':St):Prop:=
 ∃I',Tr w I H w' I' s'.h/\HR F B0 w' I' s'.h/\EnvR F w' I' s'.h s'.e a'.tmps/\a'.tmps.size=a.tmps.size/\a'.defers=a.defers
def FineP (F:Nat->Nat->Prop) (B0:Nat) (w:World) (I:Beta) (H:AH) (a:Act) (v:AV) (a':Act) (w':World) (u:Value) (s':St):Prop:=
 ∃I',Tr w I H w' I' s'.h/\HR F B0 w' I' s'.h/\VRH F w' I' s'.h v u/\EnvR F w' I' s'.h s'.e a'.tmps/\a'.tmps.size=a.tmps.size/\a'.defers=a.defers
theorem FineP.good {w w':World} {I:Beta} {H:AH} {a a':Act} {v:AV} {u:Value} {s':St} (h:FineP F B0 w I H a v a' w' u s'):Good F B0 w I H v s'.h u w':=
 let ⟨I',k1,k2,k3,_⟩:=h;⟨I',k1,k2,k3⟩
def wC (F:Nat->Nat->Prop) (B0:Nat) (w:World) (I:Beta) (H:AH) (a:Act) (ex:Ex) (s':St) (Q:Exit->Act->World->Prop):Prop:=
 match ex with
 | .normal=>∀a' w',Fine F B0 w I H a a' w' s'->Q .normal a' w'
 | .exit id=>∀a' w',Fine F B0 w I H a a' w' s'->Q (.exit id) a' w'
 | .ret=>∀a' w',Fine F B0 w I H a a' w' s'->Q .ret a' w'
 | .pan v=>∀a' w' u,FineP F B0 w I H a v a' w' u s'->Q (.panic [{ v:=u,recovered:=false }]) a' w'
theorem Fine.step {w w1:World} {I I1:Beta} {H H1:AH} {a a1 a':Act} {w':World} {s':St} (ht:Tr w I H w1 I1 H1) (hs:a1.tmps.size=a.tmps.size) (hd:a1.defers=a.defers)
  (h:Fine F B0 w1 I1 H1 a1 a' w' s'):Fine F B0 w I H a a' w' s':=by
 obtain ⟨I',k1,k2,k3,k4,k5⟩:=h;exact ⟨I',ht.trans k1,k2,k3,k4.trans hs,k5.trans hd⟩
theorem Good.step {w w1:World} {I I1:Beta} {H H1 H':AH} {x:AV} {u:Value} {w':World} (ht:Tr w I H w1 I1 H1) (h:Good F B0 w1 I1 H1 x H' u w'):Good F B0 w I H x H' u w':=by
 obtain ⟨I',k1,k2,k3⟩:=h;exact ⟨I',ht.trans k1,k2,k3⟩
theorem FineP.step {w w1:World} {I I1:Beta} {H H1:AH} {a a1 a':Act} {v:AV} {u:Value} {w':World} {s':St} (ht:Tr w I H w1 I1 H1) (hs:a1.tmps.size=a.tmps.size) (hd:a1.defers=a.defers)
  (h:FineP F B0 w1 I1 H1 a1 v a' w' u s'):FineP F B0 w I H a v a' w' u s':=by
 obtain ⟨I',k1,k2,k3,k4,k5,k6⟩:=h;exact ⟨I',ht.trans k1,k2,k3,k4,k5.trans hs,k6.trans hd⟩
theorem wC.step {w w1:World} {I I1:Beta} {H H1:AH} {a a1:Act} {ex:Ex} {s':St} {Q:Exit->Act->World->Prop} (ht:Tr w I H w1 I1 H1) (hs:a1.tmps.size=a.tmps.size) (hd:a1.defers=a.defers)
  (h:wC F B0 w I H a ex s' Q):wC F B0 w1 I1 H1 a1 ex s' Q:=by
 cases ex with
 | normal=>exact fun a' w' hf=>h a' w' (hf.step ht hs hd)
 | exit id=>exact fun a' w' hf=>h a' w' (hf.step ht hs hd)
 | ret=>exact fun a' w' hf=>h a' w' (hf.step ht hs hd)
 | pan v=>exact fun a' w' u hf=>h a' w' u (hf.step ht hs hd)
theorem A8 (a:Act) (d:Option Tmp) (v:Value):(a.put d v).tmps.size=a.tmps.size:=by
 cases d<;>simp [Act.put]
theorem LQ (a:Act) (d:Option Tmp) (v:Value):(a.put d v).defers=a.defers:=by
 cases d<;>simp [Act.put]
theorem LN {w:World} {I:Beta} {H:AH} {e:Env} {a:Act} {d:Option Nat} {x:AV} {v:Value} (he:EnvR F w I H e a.tmps) (hx:VRH F w I H x v) (hd:∀k,d=some k->k<a.tmps.size):
  EnvR F w I H (putE e d x) (a.put d v).tmps:=by
 intro t y hy;rw [S8] at hy;cases d with
 | none=>
  simp at hy;exact he t y hy
 | some d=>
  have hlt:=hd d rfl;by_cases h:d=t
  ·subst h;simp at hy;subst hy;exact ⟨v,by simp [Act.put,hlt],hx⟩
  ·have:¬(some d=some t):=by simpa using h
   rw [QA this] at hy;obtain ⟨u,h1,h2⟩:=he t y hy;exact ⟨u,by simp [Act.put,Array.getElem?_setIfInBounds_ne h,h1],h2⟩
theorem dg {ops:Array Oper} {o:Oper} {ao:Xv} (h:AB P A fn nt ops o=some ao):cOp P A fn o=some ao.op/\ao.dst=o.dst/\(∀d,o.dst=some d->d<nt)/\
  (match o.guard with | none=>ao.guard=none | some (j,want)=>∃t,(ops[j]?).bind (·.dst)=some t/\ao.guard=some (t,want)):=by
 unfold AB at h;split at h
 ·cases h
 ·rename_i op hop;split at h
  ·rename_i hdst;have hd:∀d,o.dst=some d->d<nt:=by
    intro d hd;rw [hd] at hdst;simpa [WB] using hdst
   split at h
   ·rename_i hg;cases h;refine ⟨hop,rfl,hd,?_⟩;rw [hg]
   ·rename_i j want hg;split at h
    ·rename_i t ht;cases h;refine ⟨hop,rfl,hd,?_⟩;rw [hg];exact ⟨t,ht,rfl⟩
    ·cases h
  ·cases h
theorem ui {ops:Array Oper} {o:Oper} {ao:Xv} {w:World} {I:Beta} {H:AH} {e:Env} {a:Act} {b:Bool} (h:AB P A fn nt ops o=some ao) (he:EnvR F w I H e a.tmps) (hg:nI e ao.guard=some b):
  Region.wanted o (yielded ops a.tmps)=b:=by
 obtain ⟨_,_,_,h4⟩:=dg h;unfold Region.wanted;split at h4
 ·rename_i hgn;rw [h4] at hg;cases hg;rw [hgn]
 ·rename_i j want hgn;obtain ⟨t,h5,h6⟩:=h4;rw [h6] at hg;rw [hgn];simp only [nI] at hg;split at hg
  ·rename_i c hc;cases hg;obtain ⟨v,k1,k2⟩:=he t _ hc;rw [wH k2] at k1;simp [yielded,h5,k1]
  ·rename_i hc;cases hg;obtain ⟨v,k1,k2⟩:=he t _ hc;obtain ⟨vs,rfl,_⟩:=W5 k2;simp [yielded,h5,k1]
  ·cases hg
theorem LC (hc:CallOk P call) {ops:Array Oper} {l:List Xv} (hl:mapO (AB P A fn nt ops) ops.toList=some l) {Q:Exit->Act->World->Prop} (base:Option Nat):
  ∀(L:List Nat) (s:St) (ex:Ex) (s':St) (a:Act) (w:World) (I:Beta),aU call base (L.filterMap (l[·]?)) s=some (ex,s')->HR F B0 w I s.h->EnvR F w I s.h s.e a.tmps->a.tmps.size=nt->
   wC F B0 w I s.h a ex s' Q->wpOps P ops Q L a w
 | [],s,ex,s',a,w,I,hev,hr,he,hn,hq=>by
  cases hev;exact hq a w ⟨I,.refl _ _ _,hr,he,rfl,rfl⟩
 | i::L,s,ex,s',a,w,I,hev,hr,he,hn,hq=>by
  simp only [wpOps];cases ho:ops[i]? with
  | none=>
   have hi:l[i]? =none:=by
    have h1:ops.size<=i:=by simpa using ho
    have h2:=jC hl;simp at h2;exact Qk (by omega)
   rw [List.filterMap_cons_none hi] at hev;exact LC hc hl base L s ex s' a w I hev hr he hn hq
  | some o=>
   have hi:∃ao,l[i]? =some ao/\AB P A fn nt ops o=some ao:=by
    have h2:=(D6 hl).2 i o (by simpa using ho);exact h2
   obtain ⟨ao,hao,hco⟩:=hi;rw [yX hao] at hev;obtain ⟨h1,h2,h3,h4⟩:=dg hco;simp only;rw [aU] at hev;cases hg:nI s.e ao.guard with
   | none=>rw [hg] at hev;cases hev
   | some b=>
    rw [hg] at hev;rw [ui hco he hg];cases b with
    | false=>
     simp only at hev;simp only [nX,if_false];rw [h2] at hev;refine LC hc hl base L _ ex s' (a.put o.dst undef) w I hev hr (LN he (.d (.tup [] #[] rfl (by simp))) (by intro k hk;rw [hn];exact h3 k hk)) (by rw [A8];exact hn) ?_;exact hq.step (.refl _ _ _) (A8 _ _ _) (LQ _ _ _)
    | true=>
     simp only at hev;simp only [if_true];left;cases hcall:aD call s.e (cE base ao.dst s.h) s.h ao.op with
     | none=>rw [hcall] at hev;cases hev
     | some p=>
      obtain ⟨r,H1⟩:=p;rw [hcall] at hev;refine pz hc hr he (qs _ _ _) h1 hcall ⟨?_,?_⟩
      ·intro x v w' hx hgood;subst hx;simp only at hev;rw [h2] at hev;obtain ⟨I',t1,t2,t3⟩:=hgood;refine LC hc hl base L _ ex s' (a.put o.dst v) w' I' hev t2 (LN (t1.env he) t3 (by intro k hk;rw [hn];exact h3 k hk)) (by rw [A8];exact hn) ?_;exact hq.step t1 (A8 _ _ _) (LQ _ _ _)
      ·intro x u w' hx hgood;subst hx;simp only at hev;cases hev;obtain ⟨I',t1,t2,t3⟩:=hgood;exact hq a w' u ⟨I',t1,t2,t3,t1.env he,rfl,rfl⟩
end
end Go.Av
namespace Go.Av
section
variable {F:Nat->Nat->Prop} {B0:Nat} {P:Program} {A:Ann} {fn nt:FuncId} {call:aP}
theorem Jd {w:World} {I:Beta} {s:St} {T:Array Value} (t:Nat) (hr:HR F B0 w I s.h) (he:EnvR F w I s.h s.e T):
  Tr w I s.h w I (frzP t s).h/\HR F B0 w I (frzP t s).h/\EnvR F w I (frzP t s).h (frzP t s).e T:=by
 unfold frzP;split
 ·rename_i id z i off hl;split
  ·rename_i y hy;have ht:=NP hr id;refine ⟨ht,CD hr id,?_⟩;intro u x hx;simp only [look] at hx;split at hx
   ·rename_i hu;subst hu;cases hx;obtain ⟨v,h1,h2⟩:=he _ _ hl;exact ⟨v,h1,.d (Al hr hy h2)⟩
   ·exact ht.env he u x hx
  ·exact ⟨.refl _ _ _,hr,he⟩
 ·rename_i id z off len hl;split
  ·rename_i y hy;have ht:=NP hr id;refine ⟨ht,CD hr id,?_⟩;intro u x hx;simp only [look] at hx;split at hx
   ·rename_i hu;subst hu;cases hx;obtain ⟨v,h1,h2⟩:=he _ _ hl;exact ⟨v,h1,.d (ry hr hy h2)⟩
   ·exact ht.env he u x hx
  ·exact ⟨.refl _ _ _,hr,he⟩
 ·exact ⟨.refl _ _ _,hr,he⟩
theorem vz {w:World} {I:Beta} {T:Array Value}:∀(ts:List Nat) {s:St},HR F B0 w I s.h->EnvR F w I s.h s.e T->
  Tr w I s.h w I (LY ts s).h/\HR F B0 w I (LY ts s).h/\EnvR F w I (LY ts s).h (LY ts s).e T
 | [],s,hr,he=>⟨.refl _ _ _,hr,he⟩
 | t::ts,s,hr,he=>by
  obtain ⟨h1,h2,h3⟩:=Jd t hr he;obtain ⟨k1,k2,k3⟩:=vz ts h2 h3;exact ⟨h1.trans k1,k2,k3⟩
theorem nz (l:List Xv):(List.range l.length).filterMap (l[·]?)=l:=by
 induction l with
 | nil=>rfl
 | cons d r ih=>
  rw [AQ,List.range_succ_eq_map,yX (f:=fun x=>(d::r)[x]?) (b:=d) (by simp)];rw [List.filterMap_map];have:((fun x=>(d::r)[x]?) ∘ Nat.succ)=fun x=>r[x]? :=by funext x;simp
  rw [this,ih]
theorem qzh (hc:CallOk P call) (hm:P.follows .mixedOrders=true) {n id:Nat} {ops:Array Oper} {draw:Bool} {ac:Xu} (h:V2 P A fn nt id ops draw=some ac) {Q:Exit->Act->World->Prop}
    {s:St} {ex:Ex} {s':St} {a:Act} {w:World} {I:Beta} (hev:evC call n ac s=some (ex,s')) (hr:HR F B0 w I s.h) (he:EnvR F w I s.h s.e a.tmps) (hn:a.tmps.size=nt)
    (hq:wC F B0 w I s.h a ex s' Q):(Code.region id ops draw).wp P Q a w:=by
  unfold V2 at h;split at h
  · cases h
  · rename_i l hl
    have hlen:l.length=ops.size:=by have:=jC hl;simpa using this.symm
    have keepQ:∀{s1:St} {w1:World} {I1:Beta} {a1:Act} {ks:Option (List Nat)},wC F B0 w1 I1 s.h a1 .normal (kept ks s1) Q->wC F B0 w1 I1 s.h a1 .normal s1 Q:=by
      intro s1 w1 I1 a1 ks hq1;cases ks with
      | none=>exact hq1
      | some ks=>
        intro a' w' hf;obtain ⟨I',k1,k2,k3,k4,k5⟩:=hf;obtain ⟨j1,j2,j3⟩:=vz ks k2 k3;exact hq1 a' w' ⟨I',k1.trans j1,j2,j3,k4,k5⟩
    cases draw with
    | false=>
      simp only [nX,if_false] at h;cases h;simp only [evC,TO,if_true] at hev;refine wp_region ?_;have hf:(List.range ops.size).filterMap (l[·]?)=l:=by rw [<- hlen];exact nz l
      split at hev
      · rename_i s1 hs1
        cases hev;exact LC hc hl none _ s .normal s1 a w I (by rw [hf];exact hs1) hr he hn (keepQ hq)
      · simp only [nX,if_false] at hev
        exact LC hc hl none _ s ex s' a w I (by rw [hf];exact hev) hr he hn hq
    | true=>
      simp only [if_true] at h;split at h
      · rename_i hd
        split at h
        · -- the last operation may panic
          rename_i hsp;simp only [d7] at hsp;obtain ⟨⟨_,hemp⟩,hsp⟩:=hsp;have hp:MQ ops l=[]:=List.isEmpty_iff.1 hemp;rw [hp] at hd;cases h;simp only [evC,TO,if_true,kept] at hev;have hgo:∃s1 ex2 s2,aU call none l.dropLast s=some (.normal,s1)/\aU call none (l.drop (l.length - 1)) s1=some (ex2,s2)/\wC F B0 w I s.h a ex2 s2 Q:=by
            cases h1:aU call none l.dropLast s with
            | none=>rw [h1] at hev;cases hev
            | some q=>
              obtain ⟨ex1,s1⟩:=q;rw [h1] at hev;cases ex1 with
              | normal=>
                simp only [nX,if_false] at hev;cases h2:aU call none (l.drop (l.length - 1)) s1 with
                | none=>rw [h2] at hev;cases hev
                | some q2=>
                  obtain ⟨ex2,s2⟩:=q2;rw [h2] at hev;refine ⟨s1,ex2,s2,rfl,h2,?_⟩;cases ex2 with
                  | normal=>cases hev;exact keepQ hq
                  | exit i=>cases hev;exact hq
                  | ret=>cases hev;exact hq
                  | pan v=>cases hev;exact hq
              | _=>cases hev
          obtain ⟨s1,ex2,s2,h1,h2,hq2⟩:=hgo;refine wp_region_draw fun t=>?_
          simp only [Region.schedule,hm,MG,if_true];obtain ⟨s3,q1,q2,q3⟩:=XB hlen hd hsp h1 h2 t;refine LC hc hl none _ s ex2 s3 a w.drew I q1 hr.drew (tr_drew.env he) hn ?_;have hq3:=wC.step (a1:=a) tr_drew rfl rfl hq2;cases ex2 with
          | normal=>
            intro a' w' hf;obtain ⟨I',k1,k2,k3,k4,k5⟩:=hf;rw [q3] at k1 k2 k3;exact hq3 a' w' ⟨I',k1,k2,fun t y hy=>k3 t y (by rw [<- q2 t];exact hy),k4,k5⟩
          | exit i=>
            intro a' w' hf;obtain ⟨I',k1,k2,k3,k4,k5⟩:=hf;rw [q3] at k1 k2 k3;exact hq3 a' w' ⟨I',k1,k2,fun t y hy=>k3 t y (by rw [<- q2 t];exact hy),k4,k5⟩
          | ret=>
            intro a' w' hf;obtain ⟨I',k1,k2,k3,k4,k5⟩:=hf;rw [q3] at k1 k2 k3;exact hq3 a' w' ⟨I',k1,k2,fun t y hy=>k3 t y (by rw [<- q2 t];exact hy),k4,k5⟩
          | pan v=>
            intro a' w' u hf;obtain ⟨I',k1,k2,k3,k4,k5,k6⟩:=hf;rw [q3] at k1 k2 k3 k4;exact hq3 a' w' u ⟨I',k1,k2,k3,fun t y hy=>k4 t y (by rw [<- q2 t];exact hy),k5,k6⟩
        cases h;simp only [evC] at hev;have any:∀(base:Option Nat) (s0 s1:St) (I0:Beta),((MQ ops l).isEmpty || JV (MQ ops l) (feet call base l s0))=true->aU call base l s0=some (.normal,s1)->
            HR F B0 w I0 s0.h->EnvR F w I0 s0.h s0.e a.tmps->wC F B0 w I0 s0.h a .normal s1 Q->(Code.region id ops true).wp P Q a w:=by
          intro base s0 s1 I0 hfeet hs1 hr0 he0 hq0;refine wp_region_draw fun t=>?_
          simp only [Region.schedule,hm,MG,if_true];obtain ⟨s2,q1,q2,q3⟩:=Y1 hlen hd hfeet hs1 t;refine LC hc hl base _ s0 .normal s2 a w.drew I0 q1 hr0.drew (tr_drew.env he0) hn ?_;have hq2:=wC.step (a1:=a) tr_drew rfl rfl hq0;intro a' w' hf;obtain ⟨I',k1,k2,k3,k4,k5⟩:=hf;rw [q3] at k1 k2 k3;exact hq2 a' w' ⟨I',k1,k2,fun t y hy=>k3 t y (by rw [<- q2 t];exact hy),k4,k5⟩
        split at hev
        · rename_i hemp
          split at hev
          · rename_i s1 hs1
            cases hev;exact any none s s1 I (by rw [hemp];rfl) hs1 hr he (keepQ hq)
          · cases hev
        · split at hev
          · rename_i hcond
            simp only [d7] at hcond;split at hev
            · rename_i s1 hs1
              cases hev;obtain ⟨t0,h0⟩:=ZE hr hcond.1;have hq1:=wC.step (a1:=a) t0 rfl rfl (keepQ hq);refine any _ ⟨s.e,s.h.resv (w9 l)⟩ s1 _ (by rw [hcond.2,Bool.or_true]) hs1 h0 (t0.env he) ?_;intro a' w' hf;obtain ⟨I',k1,k2,k3,k4,k5⟩:=hf;obtain ⟨t2,h2⟩:=WZ k2;exact hq1 a' w' ⟨I',k1.trans t2,h2,t2.env k3,k4,k5⟩
            · cases hev
          · cases hev
      · cases h
theorem sC (hc:CallOk P call) (hm:P.follows .mixedOrders=true) (n:Nat):∀(c:Code) (ac:Xu),nC P A fn nt c=some ac->∀(Q:Exit->Act->World->Prop) (s:St) (ex:Ex) (s':St) (a:Act) (w:World) (I:Beta),
  evC call n ac s=some (ex,s')->HR F B0 w I s.h->EnvR F w I s.h s.e a.tmps->a.tmps.size=nt->wC F B0 w I s.h a ex s' Q->c.wp P Q a w
 | .skip,ac,h,Q,s,ex,s',a,w,I,hev,hr,he,hn,hq=>by
  cases h;cases hev;exact wp_skip (hq a w ⟨I,.refl _ _ _,hr,he,rfl,rfl⟩)
 | .region id ops draw,ac,h,Q,s,ex,s',a,w,I,hev,hr,he,hn,hq=>qzh hc hm h hev hr he hn hq
 | .seq x y,ac,h,Q,s,ex,s',a,w,I,hev,hr,he,hn,hq=>by
  simp only [nC] at h;split at h
  ·rename_i ax ay hx hy;cases h;simp only [evC] at hev;refine wp_seq ?_;split at hev
   ·rename_i s1 hs1;refine sC hc hm n x ax hx _ s .normal s1 a w I hs1 hr he hn ?_;intro a' w' hf;obtain ⟨I',k1,k2,k3,k4,k5⟩:=hf;exact sC hc hm n y ay hy Q s1 ex s' a' w' I' hev k2 k3 (k4.trans hn) (hq.step k1 k4 k5)
   ·rename_i hne;refine sC hc hm n x ax hx _ s ex s' a w I hev hr he hn ?_;cases ex with
    | normal=>exact absurd hev (hne s')
    | exit i=>exact hq
    | ret=>exact hq
    | pan v=>exact hq
  ·cases h
 | .cond c x y,ac,h,Q,s,ex,s',a,w,I,hev,hr,he,hn,hq=>by
  simp only [nC] at h;split at h
  ·rename_i cx ax ay hcx hx hy;cases h;simp only [evC] at hev;split at hev
   ·rename_i hcv;exact wp_cond_true (wH (aV hcx he hcv)) (sC hc hm n x ax hx Q s ex s' a w I hev hr he hn hq)
   ·rename_i hcv;exact wp_cond_false (wH (aV hcx he hcv)) (sC hc hm n y ay hy Q s ex s' a w I hev hr he hn hq)
   ·cases hev
  ·cases h
 | .block id b,ac,h,Q,s,ex,s',a,w,I,hev,hr,he,hn,hq=>by
  simp only [nC] at h;obtain ⟨ab,hb,rfl⟩:=map_some h;simp only [evC] at hev;refine wp_block ?_;split at hev
  ·rename_i i s1 hs1;split at hev
   ·rename_i hi;cases hev;refine sC hc hm n b ab hb _ s (.exit i) s' a w I hs1 hr he hn ?_;intro a' w' hf;simp only [Exit.inBlock,a9 hi];exact hq a' w' hf
   ·rename_i hi;cases hev;refine sC hc hm n b ab hb _ s (.exit i) s' a w I hs1 hr he hn ?_;intro a' w' hf;simp only [Exit.inBlock,QA hi];exact hq a' w' hf
  ·rename_i hne;refine sC hc hm n b ab hb _ s ex s' a w I hev hr he hn ?_;cases ex with
   | exit i=>exact absurd hev (hne i s')
   | normal=>exact hq
   | ret=>exact hq
   | pan v=>exact hq
 | .loop b,ac,h,Q,s,ex,s',a,w,I,hev,hr,he,hn,hq=>by
  simp only [nC] at h;obtain ⟨ab,hb,rfl⟩:=map_some h;simp only [evC] at hev;have key:∀(k:Nat) (s:St) (a:Act) (w:World) (I:Beta),DH (evC call n ab) k s=some (ex,s')->HR F B0 w I s.h->EnvR F w I s.h s.e a.tmps->a.tmps.size=nt->wC F B0 w I s.h a ex s' Q->
    Code.rounds P b Q k a w:=by
   intro k
   induction k with
   | zero=>intro s a w I hev;cases hev
   | succ k ih=>
    intro s a w I hev hr he hn hq;simp only [DH] at hev;rw [rounds_succ];split at hev
    ·rename_i s1 hs1;refine sC hc hm n b ab hb _ s .normal s1 a w I hs1 hr he hn ?_;intro a' w' hf;obtain ⟨I',k1,k2,k3,k4,k5⟩:=hf;exact ih s1 a' w' I' hev k2 k3 (k4.trans hn) (hq.step k1 k4 k5)
    ·rename_i hne;refine sC hc hm n b ab hb _ s ex s' a w I hev hr he hn ?_;cases ex with
     | normal=>exact absurd hev (hne s')
     | exit i=>exact hq
     | ret=>exact hq
     | pan v=>exact hq
  exact wp_loop_rounds n (key n s a w I hev hr he hn hq)
 | .exit id,ac,h,Q,s,ex,s',a,w,I,hev,hr,he,hn,hq=>by
  cases h;cases hev;exact wp_exit (hq a w ⟨I,.refl _ _ _,hr,he,rfl,rfl⟩)
 | .ret,ac,h,Q,s,ex,s',a,w,I,hev,hr,he,hn,hq=>by
  cases h;cases hev;exact wp_ret (hq a w ⟨I,.refl _ _ _,hr,he,rfl,rfl⟩)
 | .rangeFunc ..,_,h,_,_,_,_,_,_,_,_,_,_,_,_=>by cases h
 | .scope b,ac,h,Q,s,ex,s',a,w,I,hev,hr,he,hn,hq=>by
  simp only [nC] at h;refine wp_scope_straight (sC hc hm n b ac h _ s ex s' a w I hev hr he hn ?_);cases ex with
  | normal=>exact hq
  | exit i=>exact hq
  | ret=>exact hq
  | pan v=>exact hq
 | .label _,ac,h,Q,s,ex,s',a,w,I,hev,hr,he,hn,hq=>by
  cases h;cases hev;exact wp_label (hq a w ⟨I,.refl _ _ _,hr,he,rfl,rfl⟩)
 | .goto _,_,h,_,_,_,_,_,_,_,_,_,_,_,_=>by cases h
 | .refuse _,_,h,_,_,_,_,_,_,_,_,_,_,_,_=>by cases h
end
end Go.Av
namespace Go.Av
section
variable {F:Nat->Nat->Prop} {B0:Nat} {P:Program} {A:Ann} {fn nt:FuncId} {call:aP}
theorem UB:∀{as:List AV} {n t:Nat} {y:AV},look t (iP n as)=some y->n<=t/\as[t - n]? =some y
 | [],_,_,_,h=>by cases h
 | a::as,n,t,y,h=>by
  simp only [iP,look] at h;split at h
  ·rename_i hnt;subst hnt;cases h;exact ⟨Qb _,by simp⟩
  ·obtain ⟨h1,h2⟩:=UB h;refine ⟨by omega,?_⟩;have:t - n=(t - (n+1))+1:=by omega
   rw [this,List.getElem?_cons_succ];exact h2
def Q5 (P:Program) (ops:Array Oper) (Q:Exit->Act->World->Prop) (L2:List Nat):Exit->Act->World->Prop
 | .normal,a,w=>wpOps P ops Q L2 a w
 | e,a,w=>Q e a w
theorem S4 (hc:CallOk P call) {ops:Array Oper} {l:List Xv} {Q:Exit->Act->World->Prop} (base:Option Nat) (L2:List Nat):
  ∀(L:List Nat) (hl:∀i∈L,∃o ao,ops[i]? =some o/\l[i]? =some ao/\AB P A fn nt ops o=some ao) (s:St) (ex:Ex) (s':St) (a:Act) (w:World) (I:Beta),aU call base (L.filterMap (l[·]?)) s=some (ex,s')->HR F B0 w I s.h->EnvR F w I s.h s.e a.tmps->a.tmps.size=nt->
   wC F B0 w I s.h a ex s' (Q5 P ops Q L2)->wpOps P ops Q (L++L2) a w
 | [],_,s,ex,s',a,w,I,hev,hr,he,hn,hq=>by
  cases hev;exact hq a w ⟨I,.refl _ _ _,hr,he,rfl,rfl⟩
 | i::L,hl,s,ex,s',a,w,I,hev,hr,he,hn,hq=>by
  rw [oY];simp only [wpOps];obtain ⟨o,ao,ho,hao,hco⟩:=hl i OG;have hl':∀i∈L,∃o ao,ops[i]? =some o/\l[i]? =some ao/\AB P A fn nt ops o=some ao:=fun j hj=>hl j (D1 _ hj)
  rw [ho];rw [yX hao] at hev;obtain ⟨h1,h2,h3,h4⟩:=dg hco;simp only;rw [aU] at hev;cases hg:nI s.e ao.guard with
  | none=>rw [hg] at hev;cases hev
  | some b=>
   rw [hg] at hev;rw [ui hco he hg];cases b with
   | false=>
    simp only at hev;simp only [nX,if_false];rw [h2] at hev;refine S4 hc base L2 L hl' _ ex s' (a.put o.dst undef) w I hev hr (LN he (.d (.tup [] #[] rfl (by simp))) (by intro k hk;rw [hn];exact h3 k hk)) (by rw [A8];exact hn) ?_;exact hq.step (.refl _ _ _) (A8 _ _ _) (LQ _ _ _)
   | true=>
    simp only at hev;simp only [if_true];left;cases hcall:aD call s.e (cE base ao.dst s.h) s.h ao.op with
    | none=>rw [hcall] at hev;cases hev
    | some p=>
     obtain ⟨r,H1⟩:=p;rw [hcall] at hev;refine pz hc hr he (qs _ _ _) h1 hcall ⟨?_,?_⟩
     ·intro x v w' hx hgood;subst hx;simp only at hev;rw [h2] at hev;obtain ⟨I',t1,t2,t3⟩:=hgood;refine S4 hc base L2 L hl' _ ex s' (a.put o.dst v) w' I' hev t2 (LN (t1.env he) t3 (by intro k hk;rw [hn];exact h3 k hk)) (by rw [A8];exact hn) ?_;exact hq.step t1 (A8 _ _ _) (LQ _ _ _)
     ·intro x u w' hx hgood;subst hx;simp only at hev;cases hev;obtain ⟨I',t1,t2,t3⟩:=hgood;exact hq a w' u ⟨I',t1,t2,t3,t1.env he,rfl,rfl⟩
theorem WR {nt:Nat} {ops:List Oper} {draw:Bool} {ab:Nat×Nat} (h:md nt ops draw=some ab):∃o1 o2 a b,ops=[o1,o2]/\WG o1=some a/\W7 o2=some (b,a)/\draw=false/\a<nt/\b<nt/\ab=(a,b):=by
 unfold md at h;split at h
 ·rename_i o1 o2;split at h
  ·rename_i a b a' h1 h2;split at h
   ·rename_i hc;obtain ⟨rfl,rfl,k1,k2⟩:=hc;cases h;exact ⟨o1,o2,_,_,rfl,h1,h2,rfl,k1,k2,rfl⟩
   ·cases h
  ·cases h
 ·cases h
theorem ZC {o:Oper} {a:Nat} (h:WG o=some a):o.dst=some a/\o.guard=none/\∀(U:Operand->Value) (w:World),(execOp U o).run P w= .ok .recover w:=by
 unfold WG at h;split at h
 ·rename_i c hop;split at h
  ·rename_i hcal;split at h
   ·rename_i hcond;refine ⟨h,hcond.2,fun U w=>?_⟩;have:c.args= #[]:=TB hcond.1;simp [execOp,hop,resolve,hcal,this,invoke,builtin,go_sem]
   ·cases h
  ·cases h
 ·cases h
theorem Y6 {o:Oper} {b a:Nat} (h:W7 o=some (b,a)):o.dst=some b/\o.guard=none/\∀(U:Operand->Value) (w:World),(execOp U o).run P w= .ok (.value (U (.tmp a))) w:=by
 unfold W7 at h;split at h
 ·rename_i a' hop;split at h
  ·rename_i hcond;rw [Qs] at h;obtain ⟨b',h1,h2⟩:=h;cases h2;refine ⟨h1,hcond,fun U w=>?_⟩;simp [execOp,hop]
  ·cases h
 ·cases h
theorem S' (hc:CallOk P call) (hm:P.follows .mixedOrders=true) {n:Nat} {d:ADFn} {gd:Func} {gc:Code} (hg:P.funcs[d.clo]? =some gd) (hgb:gd.body=some gc)
    (hk:cClo P A d.clo gd.ntmps gc=some (d.rcv,d.cbody)) (hcap:gd.nfree=d.ncaps) (hle:gd.nfree<=gd.ntmps) (hres:gd.results.size=0)
    {caps:List AV} {vs:Array Value} {w:World} {I:Beta} {H H':AH} (hr:HR F B0 w I H) (ha:ArgsR F w I H caps vs) (hlen:caps.length=d.ncaps)
    {u:FrameMode} {x:AV} (hev:zS call n d x caps H=some H')
    (hu:(u= .returning/\x= .niliface)\/(d.rcv.isSome=true/\∃v,u= .panicking [{ v,recovered:=false }]/\VRH F w I H x v)):
    CallsD P d.clo vs u w fun e u' w'=>∃v,e= .returned v/\settle u'= .returning/\∃I',Tr w I H w' I' H'/\HR F B0 w' I' H':=by
  have hvs:vs.size=gd.nfree:=by rw [<- ha.1,hlen,hcap]
  have hn:(vs++Array.replicate (gd.ntmps - vs.size) undef).size=gd.ntmps:=by simp;omega
  have he:EnvR F w I H (iP 0 caps) (vs++Array.replicate (gd.ntmps - vs.size) undef):=by
    intro t y hy;obtain ⟨_,h1⟩:=UB hy;simp at h1;have hlt:t<caps.length:=(Qm.1 h1).1;have hlt':t<vs.size:=by rw [<- ha.1];exact hlt
    refine ⟨vs[t],by simp [Array.getElem?_append,hlt'],ha.2 t y _ h1 (by simp [hlt'])⟩
  have hrs:∀tmps,∀w,(results gd tmps).run P w= .ok (.tuple #[]) w:=by
    intro tmps w;have:gd.results= #[]:=TB hres;simp [results,this]
  have fin:∀{ex:Ex} {s:St},evC call n d.cbody ⟨recE d.rcv x (iP 0 caps),H⟩=some (ex,s)->(ex= .normal\/ex= .ret)/\s.h=H':=by
    intro ex s h;unfold zS at hev;rw [h] at hev;cases ex with
    | normal=>simp at hev;exact ⟨.inl rfl,hev⟩
    | ret=>simp at hev;exact ⟨.inr rfl,hev⟩
    | exit i=>cases hev
    | pan v=>cases hev
  obtain ⟨ex,s,hex⟩:∃ex s,evC call n d.cbody ⟨recE d.rcv x (iP 0 caps),H⟩=some (ex,s):=by
    unfold zS at hev;split at hev
    · rename_i s h;exact ⟨_,s,h⟩
    · rename_i s h;exact ⟨_,s,h⟩
    · cases hev
  obtain ⟨hends,hsh⟩:=fin hex;unfold cClo at hk;have plain:∀ac,nC P A d.clo gd.ntmps gc=some ac->d.rcv=none->d.cbody=ac->CallsD P d.clo vs u w fun e u' w'=>∃v,e= .returned v/\settle u'= .returning/\∃I',Tr w I H w' I' H'/\HR F B0 w' I' H':=by
    intro ac hac hrcv hcb;have hu':u= .returning:=by
      rcases hu with ⟨h,_⟩ | ⟨h,_⟩
      · exact h
      · rw [hrcv] at h;cases h
    subst hu';refine (callsD_of_wp (R:=fun e w'=>∃v,e= .returned v/\∃I',Tr w I H w' I' H'/\HR F B0 w' I' H') hg hgb ?_).mono ?_
    · rw [hcb,hrcv] at hex
      refine sC hc hm n gc ac hac _ _ ex s _ w I hex hr he hn ?_;have done:∀a' w',Fine F B0 w I H { tmps:=vs++Array.replicate (gd.ntmps - vs.size) undef,defers:=[] } a' w' s->a'.defers=[]/\∃v,(results gd a'.tmps).run P w'= .ok v w'/\∃v',Ending.returned v= .returned v'/\∃I',Tr w I H w' I' H'/\HR F B0 w' I' H':=by
        rintro a' w' ⟨I',k1,k2,k3,k4,k5⟩;rw [hsh] at k1 k2;exact ⟨k5,_,hrs _ _,_,rfl,I',k1,k2⟩
      rcases hends with rfl | rfl
      · exact done
      · exact done
    · rintro e u' w' ⟨rfl,v,rfl,hh⟩
      exact ⟨v,rfl,rfl,hh⟩
  split at hk
  · rename_i id ops draw y
    split at hk
    · rename_i ab hrr
      obtain ⟨o1,o2,a,b,hops,ho1,ho2,rfl,hlt1,hlt2,rfl⟩:=WR hrr;obtain ⟨ac,hac,heq⟩:=map_some hk;simp only [Prod.mk.injEq] at heq;obtain ⟨hrcv,hcb⟩:=heq;rw [<- hcb,<- hrcv] at hex;simp only [recE] at hex;obtain ⟨v,u',hrec,hset,hxv⟩:∃v u',(∀(c₀:Frame) (cs:List Frame),c₀.mode=u->(match recoverD (c₀::cs) with | some (v',cs')=>v'=v/\cs'={ c₀ with mode:=u' }::cs | none=>v= .nilIface/\u'=u))/\settle u'= .returning/\VRH F w I H x v:=by
        rcases hu with ⟨rfl,rfl⟩ | ⟨_,v,rfl,hx⟩
        · refine ⟨.nilIface,.returning,?_,rfl,.d .niliface⟩
          intro c₀ cs h;simp [recoverD,h]
        · refine ⟨v,.panicking [{ v,recovered:=true }],?_,by simp [settle],hx⟩
          intro c₀ cs h;simp [recoverD,h]
      have hops':ops= #[o1,o2]:=by
        apply Array.toList_inj.1;simpa using hops
      subst hops';have hwant:∀(o:Oper),o.guard=none->∀tmps,Region.wanted o tmps=true:=by
        intro o h tmps;simp [Region.wanted,h]
      obtain ⟨hd1,hg1,hx1⟩:=ZC (P:=P) ho1;obtain ⟨hd2,hg2,hx2⟩:=Y6 (P:=P) ho2;refine callsD_of_wpS (R:=fun e u' w'=>∃v,e= .returned v/\settle u'= .returning/\∃I',Tr w I H w' I' H'/\HR F B0 w' I' H') hg hgb fun c₀ cs hmode=>?_
      have hr0:=hrec c₀ cs hmode;generalize hRR:(fun e u' w'=>∃v,e=Ending.returned v/\settle u'= .returning/\∃I',Tr w I H w' I' H'/\HR F B0 w' I' H')=RR;have hRR':∀v u' w',settle u'= .returning->(∃I',Tr w I H w' I' H'/\HR F B0 w' I' H')->RR (.returned v) u' w':=by
        rw [<- hRR];intro v u' w' h1 h2;exact ⟨v,rfl,h1,h2⟩
      apply wpS_seq;apply wpS_region;have hrange:List.range (#[o1,o2]:Array Oper).size=[0,1]:=rfl;rw [hrange];have key:∀(cs':List Frame),cs'={ c₀ with mode:=u' }::cs->∀a1:Act,a1=Act.put { tmps:=vs++Array.replicate (gd.ntmps - vs.size) undef,defers:=[] } (some a) v->
          wpOpsS P #[o1,o2] (Exit.thenS (y.wpS P (bodyPostS P gd c₀ cs RR)) (bodyPostS P gd c₀ cs RR)) [1] a1 cs' w:=by
        intro cs' hcs' a1 ha1;have hva:a1.eval (.tmp a)=v:=by
          rw [ha1];have:a<(vs++Array.replicate (gd.ntmps - vs.size) undef).size:=by rw [hn];exact hlt1
          simp [Act.eval,Act.put,DT,this];intro hh;simp at this;omega
        have h1:(#[o1,o2]:Array Oper)[1]? =some o2:=rfl;simp only [wpOpsS,h1,hwant o2 hg2,if_true,hx2,Oper.upon];rw [hd2];simp only [Exit.thenS];rw [hva,hcs'];refine wpS_of_wp ?_;have he1:EnvR F w I H ((b,x)::(a,x)::iP 0 caps) (a1.put (some b) v).tmps:=by
          rw [ha1];refine LN (d:=some b) (LN (d:=some a) he hxv ?_) hxv ?_
          · intro k hk;cases hk;rw [hn];exact hlt1
          · intro k hk;cases hk;rw [A8];simp only;rw [hn];exact hlt2
        have hn1:(a1.put (some b) v).tmps.size=gd.ntmps:=by rw [A8,ha1,A8];exact hn
        have hd0:(a1.put (some b) v).defers=[]:=by rw [LQ,ha1,LQ]
        refine sC hc hm n y ac hac _ _ ex s _ w I hex hr he1 hn1 ?_;have done:∀a' w',Fine F B0 w I H (a1.put (some b) v) a' w' s->a'.defers=[]/\∃u'',{ c₀ with mode:=u' }::cs={ c₀ with mode:=u'' }::cs/\∃v',(results gd a'.tmps).run P w'= .ok v' w'/\RR (.returned v') u'' w':=by
          rintro a' w' ⟨I',k1,k2,k3,k4,k5⟩;rw [hsh] at k1 k2;exact ⟨k5.trans hd0,u',rfl,_,hrs _ _,hRR' _ _ _ hset ⟨I',k1,k2⟩⟩
        rcases hends with rfl | rfl
        · exact done
        · exact done
      have h0:(#[o1,o2]:Array Oper)[0]? =some o1:=rfl;rw [wpOpsS];simp only [h0,hwant o1 hg1,if_true,hx1];rw [hd1];cases hq:recoverD (c₀::cs) with
      | none=>
        rw [hq] at hr0;obtain ⟨rfl,rfl⟩:=hr0;exact key _ (by rw [<- hmode]) _ rfl
      | some p=>
        obtain ⟨v',cs'⟩:=p;rw [hq] at hr0;obtain ⟨rfl,rfl⟩:=hr0;exact key _ rfl _ rfl
    · obtain ⟨ac,hac,heq⟩:=map_some hk
      simp only [Prod.mk.injEq] at heq;exact plain ac hac heq.1.symm heq.2.symm
  · obtain ⟨ac,hac,heq⟩:=map_some hk
    simp only [Prod.mk.injEq] at heq;exact plain ac hac heq.1.symm heq.2.symm
theorem Y0 {o:Oper} {t:Nat} (h:W9 o=some t):o.dst=none/\o.guard=none/\∀(U:Operand->Value) (w:World) (g:FuncId) (cs:Array Value),U (.tmp t)= .func (.func g) #[] cs->
  (execOp U o).run P w= .ok (.defer { target:= .fn (.func g) cs,args:= #[] }) w:=by
 unfold W9 at h;split at h
 ·rename_i c hop;split at h
  ·rename_i t' hcal;split at h
   ·rename_i hcond;cases h;refine ⟨hcond.2.1,hcond.2.2,fun U w g cs hρ=>?_⟩;have:c.args= #[]:=TB hcond.1;simp [execOp,hop,resolve,hcal,this,hρ,Deferred.ofValue,go_sem]
   ·cases h
  ·cases h
 ·cases h
def W6 (F:Nat->Nat->Prop) (B0:Nat) (nt:Nat) (w:World) (I:Beta) (H:AH) (s':St) (tmps:Array Value) (w':World):Prop:=
 ∃I',Tr w I H w' I' s'.h/\HR F B0 w' I' s'.h/\EnvR F w' I' s'.h s'.e tmps/\tmps.size=nt
theorem pd (hc:CallOk P call) (hm:P.follows .mixedOrders=true) {n:Nat} {d:ADFn} {fd gd:Func} {gc:Code} (hg:P.funcs[d.clo]? =some gd) (hgb:gd.body=some gc)
  (hk:cClo P A d.clo gd.ntmps gc=some (d.rcv,d.cbody)) (hcap:gd.nfree=d.ncaps) (hle:gd.nfree<=gd.ntmps) (hres:gd.results.size=0) (hbd:EP P d.clo) {R:Ending->World->Prop}:
  ∀(c:Code) (dc:DCode),K0 P A fn nt c=some dc->∀(s:St) (ex:Ex) (s':St) (a:Act) (w:World) (I:Beta),
  evD call n d dc s=some (ex,s')->HR F B0 w I s.h->EnvR F w I s.h s.e a.tmps->a.tmps.size=nt->a.defers=[]->(∀i,ex≠ .exit i)->
  (ex= .normal\/ex= .ret->∀tmps w',W6 F B0 nt w I s.h s' tmps w'->∃v,(results fd tmps).run P w'= .ok v w'/\R (.returned v) w')->
  (∀v,ex= .pan v->∀w' u,Good F B0 w I s.h v s'.h u w'->R (.panicked [{ v:=u,recovered:=false }]) w')->
  c.wp P (bodyPostD P fd R) a w:=by
 have front:∀(x y:Code) (ax:Xu) (k:DCode),nC P A fn nt x=some ax->(∀(s:St) (ex:Ex) (s':St) (a:Act) (w:World) (I:Beta),
   evD call n d k s=some (ex,s')->HR F B0 w I s.h->EnvR F w I s.h s.e a.tmps->a.tmps.size=nt->a.defers=[]->(∀i,ex≠ .exit i)->
   (ex= .normal\/ex= .ret->∀tmps w',W6 F B0 nt w I s.h s' tmps w'->∃v,(results fd tmps).run P w'= .ok v w'/\R (.returned v) w')->
   (∀v,ex= .pan v->∀w' u,Good F B0 w I s.h v s'.h u w'->R (.panicked [{ v:=u,recovered:=false }]) w')->
   y.wp P (bodyPostD P fd R) a w)->∀(s:St) (ex:Ex) (s':St) (a:Act) (w:World) (I:Beta),
   evD call n d (.seq ax k) s=some (ex,s')->HR F B0 w I s.h->EnvR F w I s.h s.e a.tmps->a.tmps.size=nt->a.defers=[]->(∀i,ex≠ .exit i)->
   (ex= .normal\/ex= .ret->∀tmps w',W6 F B0 nt w I s.h s' tmps w'->∃v,(results fd tmps).run P w'= .ok v w'/\R (.returned v) w')->
   (∀v,ex= .pan v->∀w' u,Good F B0 w I s.h v s'.h u w'->R (.panicked [{ v:=u,recovered:=false }]) w')->
   (Code.seq x y).wp P (bodyPostD P fd R) a w:=by
  intro x y ax k hx ih s ex s' a w I hev hr he hn hd hex hret hpan;simp only [evD] at hev;refine wp_seq ?_;split at hev
  ·rename_i s1 hs1;refine sC hc hm n x ax hx _ s .normal s1 a w I hs1 hr he hn ?_;rintro a' w' ⟨I',k1,k2,k3,k4,k5⟩;refine ih s1 ex s' a' w' I' hev k2 k3 (k4.trans hn) (k5.trans hd) hex ?_ ?_
   ·rintro h tmps w2 ⟨I2,m1,m2⟩;exact hret h tmps w2 ⟨I2,k1.trans m1,m2⟩
   ·intro v h w2 u hgood;exact hpan v h w2 u (hgood.step k1)
  ·rename_i hne;refine sC hc hm n x ax hx _ s ex s' a w I hev hr he hn ?_;cases ex with
   | normal=>exact absurd hev (hne s')
   | exit i=>exact absurd rfl (hex i)
   | ret=>
    rintro a' w' ⟨I',k1,k2,k3,k4,k5⟩;show Leaves P fd a'.tmps R a'.defers .returning w';rw [k5,hd];obtain ⟨v,h1,h2⟩:=hret (.inr rfl) a'.tmps w' ⟨I',k1,k2,k3,k4.trans hn⟩;exact ⟨v,h1,h2⟩
   | pan v=>
    intro a' w' u hf;obtain ⟨_,_,_,_,_,_,hdd⟩:=(show _ from hf:FineP _ _ _ _ _ _ _ _ _ _ _);show Leaves P fd a'.tmps R a'.defers (.panicking _) w';rw [hdd,hd];exact hpan v rfl w' u hf.good
 intro c
 induction c with
 | seq x y ihx ihy=>
  intro dc hdc;have other:∀ax k,nC P A fn nt x=some ax->K0 P A fn nt y=some k->dc= .seq ax k->∀(s:St) (ex:Ex) (s':St) (a:Act) (w:World) (I:Beta),
    evD call n d dc s=some (ex,s')->HR F B0 w I s.h->EnvR F w I s.h s.e a.tmps->a.tmps.size=nt->a.defers=[]->(∀i,ex≠ .exit i)->
    (ex= .normal\/ex= .ret->∀tmps w',W6 F B0 nt w I s.h s' tmps w'->∃v,(results fd tmps).run P w'= .ok v w'/\R (.returned v) w')->
    (∀v,ex= .pan v->∀w' u,Good F B0 w I s.h v s'.h u w'->R (.panicked [{ v:=u,recovered:=false }]) w')->
    (Code.seq x y).wp P (bodyPostD P fd R) a w:=by
   intro ax k hx hy hh;subst hh;exact front x y ax k hx (ihy k hy)
  cases x with
  | region id ops draw=>
   simp only [K0] at hdc;cases hops:KX P A fn nt ops with
   | none=>
    rw [hops] at hdc;simp only at hdc;split at hdc
    ·rename_i ax k hx hy;cases hdc;exact other ax k hx hy rfl
    ·cases hdc
   | some lt=>
    obtain ⟨l,t⟩:=lt;rw [hops] at hdc;simp only at hdc;cases draw with
    | true=>cases hdc
    | false=>
     simp only [nX,if_false] at hdc;obtain ⟨ay,hy,rfl⟩:=map_some hdc;intro s ex s' a w I hev hr he hn hd hex hret hpan;unfold KX at hops;cases hlast:ops.toList.getLast?.bind W9 with
     | none=>rw [hlast] at hops;cases hops
     | some t'=>
      rw [hlast] at hops;simp only at hops;obtain ⟨l',hl',heq⟩:=map_some hops;simp only [Prod.mk.injEq] at heq;obtain ⟨rfl,rfl⟩:=heq;rw [Qt] at hlast;obtain ⟨o,ho,hdo⟩:=hlast;obtain ⟨hdst,hgd,hrun⟩:=Y0 (P:=P) hdo;have hsplit:ops.toList=ops.toList.dropLast++[o]:=by
       have hne:ops.toList≠[]:=by intro h;rw [h] at ho;cases ho
       rw [List.getLast?_eq_some_getLast hne] at ho;cases ho;exact (List.dropLast_concat_getLast hne).symm
      have hlenl:l'.length=ops.toList.dropLast.length:=(jC hl').symm;have hsz:ops.size=l'.length+1:=by
       have:=congrArg List.length hsplit;simp at this hlenl;omega
      have hoat:ops[l'.length]? =some o:=by
       have:ops.toList[l'.length]? =some o:=by rw [hsplit,hlenl];simp
       simpa using this
      refine wp_seq (wp_region ?_);rw [hsz,List.range_succ];simp only [evD] at hev;have hfr:(List.range l'.length).filterMap (l'[·]?)=l':=nz l';have hall:∀i∈List.range l'.length,∃o ao,ops[i]? =some o/\l'[i]? =some ao/\AB P A fn nt ops o=some ao:=by
       intro i hi;rw [F4] at hi;have hi2:i<ops.toList.dropLast.length:=by omega
       obtain ⟨o',ho'⟩:∃o',ops.toList.dropLast[i]? =some o':=⟨_,Qa hi2⟩;obtain ⟨ao,h1,h2⟩:=(D6 hl').2 i o' ho';refine ⟨o',ao,?_,h1,h2⟩;have:ops.toList[i]? =some o':=by
        rw [hsplit,Ql hi2];exact ho'
       simpa using this
      split at hev
      ·rename_i s1 hs1;refine S4 hc none [l'.length] (List.range l'.length) hall s .normal s1 a w I (by rw [hfr];exact hs1) hr he hn ?_;rintro a1 w1 ⟨I1,k1,k2,k3,k4,k5⟩;simp only [Q5];cases hcl:(look t' s1.e).bind tgt with
       | none=>rw [hcl] at hev;cases hev
       | some p=>
        obtain ⟨f,caps⟩:=p;rw [hcl] at hev;simp only at hev;split at hev
        ·rename_i hcond;obtain ⟨rfl,hcl2⟩:=hcond;rw [Qt] at hcl;obtain ⟨fv,hfv,htg⟩:=hcl;obtain ⟨vv,hvv,hvr⟩:=k3 _ _ hfv;have:=Hn htg;subst this;obtain ⟨va,vb,rfl,p1,p2,p3,p4⟩:=NQ hvr;have hva:va= #[]:=by apply TB;simpa using p1.symm
         subst hva;have heval:a1.eval (.tmp t')= .func (.func d.clo) #[] vb:=by
          show a1.tmps.getD t' undef=_;rw [DT,hvv];rfl
         have hargs:ArgsR F w1 I1 s1.h caps vb:=⟨p2,p4⟩;have hw0:Region.wanted o (yielded ops a1.tmps)=true:=by simp [Region.wanted,hgd]
         simp only [wpOps,hoat,hw0,if_true];left;simp only [Oper.wp,hrun a1.eval w1 d.clo vb heval,Oper.upon,hdst];show y.wp P (bodyPostD P fd R) { tmps:=a1.tmps,defers:={ target:= .fn (.func d.clo) vb,args:= #[] }::a1.defers } w1;rw [k5,hd];have hinv:∀w,(invoke (.fn (.func d.clo) vb) #[]).run P w= .ok (.enter d.clo vb) w:=by
          intro w;obtain ⟨fn',q1,q2,q3⟩:=hbd;simp only [invoke,Array.empty_append];have q2':fn'.body.isNone=false:=q2
          have q3' : ¬ (fn'.name = "runtime.NumGoroutine") := by simpa using q3
          have q4:fn'.body≠none:=by intro hh;rw [hh] at q2';cases q2'
          simp [callFunc,q1,q4,q3']
         have atEnd:∀(x:AV) (u:FrameMode) (s2:St) (a2:Act) (w2:World) (I2:Beta) (h3:AH),Tr w1 I1 s1.h w2 I2 s2.h->HR F B0 w2 I2 s2.h->EnvR F w2 I2 s2.h s2.e a2.tmps->a2.tmps.size=nt->
           a2.defers=[{ target:= .fn (.func d.clo) vb,args:= #[] }]->zS call n d x caps s2.h=some h3->u≠ .run->
           ((u= .returning/\x= .niliface)\/(d.rcv.isSome=true/\∃v,u= .panicking [{ v,recovered:=false }]/\VRH F w2 I2 s2.h x v))->some (Ex.ret,(⟨s2.e,h3⟩:St))=some (ex,s')->
           Leaves P fd a2.tmps R a2.defers u w2:=by
          intro x u s2 a2 w2 I2 h3 m1 m2 m3 m4 m5 m6 m7 m8 m9;cases m9;rw [m5];refine leaves_cons m7 (hinv w2) ?_;refine (S' hc hm hg hgb hk hcap hle hres m2 ⟨hargs.1,fun i x v hx hv=>m1.vr (hargs.2 i x v hx hv)⟩ hcl2 m6 m8).mono ?_;rintro e u' w' ⟨v,rfl,hs',I3,q1,q2⟩;show Leaves P fd a2.tmps R [] (settle u') w';rw [hs'];exact hret (.inr rfl) a2.tmps w' ⟨I3,(k1.trans m1).trans q1,q2,q1.env m3,m4⟩
         unfold ES at hev;split at hev
         ·rename_i s2 hs2;rw [Qs] at hev;obtain ⟨h3,e1,e2⟩:=hev;refine sC hc hm n y ay hy _ s1 .normal s2 _ w1 I1 hs2 k2 k3 (k4.trans hn) ?_;rintro a2 w2 ⟨I2,m1,m2,m3,m4,m5⟩;exact atEnd _ _ s2 a2 w2 I2 h3 m1 m2 m3 (m4.trans (k4.trans hn)) m5 e1 (by simp) (.inl ⟨rfl,rfl⟩) (congrArg some e2)
         ·rename_i s2 hs2;rw [Qs] at hev;obtain ⟨h3,e1,e2⟩:=hev;refine sC hc hm n y ay hy _ s1 .ret s2 _ w1 I1 hs2 k2 k3 (k4.trans hn) ?_;rintro a2 w2 ⟨I2,m1,m2,m3,m4,m5⟩;exact atEnd _ _ s2 a2 w2 I2 h3 m1 m2 m3 (m4.trans (k4.trans hn)) m5 e1 (by simp) (.inl ⟨rfl,rfl⟩) (congrArg some e2)
         ·rename_i v s2 hs2;split at hev
          ·rename_i hrc;rw [Qs] at hev;obtain ⟨h3,e1,e2⟩:=hev;refine sC hc hm n y ay hy _ s1 (.pan v) s2 _ w1 I1 hs2 k2 k3 (k4.trans hn) ?_;rintro a2 w2 u ⟨I2,m1,m2,m2',m3,m4,m5⟩;exact atEnd _ (.panicking _) s2 a2 w2 I2 h3 m1 m2 m3 (m4.trans (k4.trans hn)) m5 e1 (by simp) (.inr ⟨hrc,u,rfl,m2'⟩) (congrArg some e2)
          ·cases hev
         ·cases hev
        ·cases hev
      ·rename_i hne;refine S4 hc none [l'.length] (List.range l'.length) hall s ex s' a w I (by rw [hfr];exact hev) hr he hn ?_;cases ex with
       | normal=>exact absurd hev (hne s')
       | exit i=>exact absurd rfl (hex i)
       | ret=>
        rintro a' w' ⟨I',k1,k2,k3,k4,k5⟩;show Leaves P fd a'.tmps R a'.defers .returning w';rw [k5,hd];obtain ⟨v,h1,h2⟩:=hret (.inr rfl) a'.tmps w' ⟨I',k1,k2,k3,k4.trans hn⟩;exact ⟨v,h1,h2⟩
       | pan v=>
        intro a' w' u hf;obtain ⟨_,_,_,_,_,_,hdd⟩:=(show _ from hf:FineP _ _ _ _ _ _ _ _ _ _ _);show Leaves P fd a'.tmps R a'.defers (.panicking _) w';rw [hdd,hd];exact hpan v rfl w' u hf.good
  | skip | seq _ _ | cond _ _ _ | block _ _ | loop _ | exit _ | ret | rangeFunc _ _ _ _ | scope _ | label _ | goto _ | refuse _=>
   simp only [K0] at hdc;split at hdc
   ·rename_i ax k hx hy;cases hdc;exact other ax k hx hy rfl
   ·cases hdc
 | _=>intro dc hdc;simp [K0] at hdc
end
end Go.Av
namespace Go.Av
section
variable {F:Nat->Nat->Prop} {B0:Nat} {P:Program} {A:Ann}
def SX (tmps:Array Value):ResultVar->Sem Value
 | .tmp t=>pure (tmps.getD t undef)
 | .cell a t=>do loadVar t (<- asAddr (tmps.getD a undef))
theorem Mt {w:World} {I:Beta} {s:St} {tmps:Array Value} {rv:ResultVar} {ar:ARes} {y:AV} (h:cRes P rv=some ar) (hr:HR F B0 w I s.h) (he:EnvR F w I s.h s.e tmps) (hy:DO s ar=some y):
  ∃v,(SX tmps rv).run P w= .ok v w/\VRH F w I s.h y v:=by
 cases rv with
 | tmp t=>
  cases h;obtain ⟨v,h1,h2⟩:=he t y hy;exact ⟨v,by simp [SX,DT,h1],h2⟩
 | cell a t=>
  simp only [cRes] at h;split at h
  ·rename_i g n hg hn;cases h;simp only [DO] at hy;split at hy
   ·rename_i id esz i off hx;obtain ⟨v0,h1,h2⟩:=he a _ hx;have hev:evOp s.e 0 s.h (.load g n (.t a))=some (y,s.h):=by
     simp only [evOp,evX,hx];split at hy
     ·rename_i esz' es hget;split at hy
      ·rename_i hz;split at hy
       ·rename_i cs hcs;simp only [hcs,hy,F2,a9 hz]
       ·cases hy
      ·cases hy
     ·cases hy
    obtain ⟨v,k1,k2,_⟩:=OX (P:=P) (ax:= .t a) hr hg hn hx h2 hev;obtain ⟨_,⟨b,k,rfl⟩,_⟩:=DK h2;refine ⟨v,?_,k2⟩;have:tmps.getD a undef= .pointer (some ⟨b,k,none⟩):=by simp [DT,h1]
    simp only [SX,this];simpa [Instr.loadAt,Instr.sureAddr,asAddr] using k1
   ·cases hy
  ·cases h
theorem wz {w:World} {I:Beta} {s:St} {tmps:Array Value} (hr:HR F B0 w I s.h) (he:EnvR F w I s.h s.e tmps):
  ∀{rvs:List ResultVar} {ars:List ARes} {ys:List AV},mapO (cRes P) rvs=some ars->mapO (DO s) ars=some ys->
   ∃vs:List Value,(rvs.mapM (SX tmps)).run P w= .ok vs w/\vs.length=ys.length/\∀(i:Nat) y v,ys[i]? =some y->vs[i]? =some v->VRH F w I s.h y v
 | [],ars,ys,h1,h2=>by
  cases h1;cases h2;exact ⟨[],rfl,rfl,by simp⟩
 | rv::rvs,ars,ys,h1,h2=>by
  simp only [mapO] at h1;split at h1
  ·cases h1
  ·rename_i ar hr1;split at h1
   ·cases h1
   ·rename_i ars' hr2;cases h1;simp only [mapO] at h2;split at h2
    ·cases h2
    ·rename_i y hy;split at h2
     ·cases h2
     ·rename_i ys' hys;cases h2;obtain ⟨v,k1,k2⟩:=Mt hr1 hr he hy;obtain ⟨vs,m1,m2,m3⟩:=wz hr he hr2 hys;refine ⟨v::vs,?_,by simp [m2],?_⟩
      ·rw [List.mapM_cons];simp [k1,m1]
      ·intro i a b ha hb;cases i with
       | zero=>simp at ha hb;subst ha;subst hb;exact k2
       | succ i=>simp at ha hb;exact m3 i a b ha hb
theorem ZD (fn:Func) (tmps:Array Value):results fn tmps=(do
  let vs <- fn.results.toList.mapM (SX tmps)
  pure (if h:vs.toArray.size=1 then vs.toArray[0] else .tuple vs.toArray)):=by
 unfold results;rw [Array.mapM_eq_mapM_toList];rw [bind_map_left];congr 1
def WF:List AV->AV
 | [v]=>v
 | vs=> .tup vs
theorem eu {w:World} {I:Beta} {s:St} {tmps:Array Value} {fn:Func} {ars:List ARes} {ys:List AV} (hr:HR F B0 w I s.h) (he:EnvR F w I s.h s.e tmps)
  (h1:mapO (cRes P) fn.results.toList=some ars) (h2:mapO (DO s) ars=some ys):∃v,(results fn tmps).run P w= .ok v w/\VRH F w I s.h (WF ys) v:=by
 obtain ⟨vs,k1,k2,k3⟩:=wz hr he h1 h2;refine ⟨if h:vs.toArray.size=1 then vs.toArray[0] else .tuple vs.toArray,?_,?_⟩
 ·rw [ZD];simp [k1]
 ·match ys,vs,k2 with
  | [y],[v],_=>simpa [WF] using k3 0 y v rfl rfl
  | [],[],_=>exact .d (.tup [] #[] rfl (by simp))
  | y::y'::ys,v::v'::vs,hl=>
   have:¬((v::v'::vs).toArray.size=1):=by simp
   rw [dif_neg this];refine .tup _ _ (by simpa using hl.symm) ?_;intro i a b ha hb;exact k3 i a b ha (by simpa using hb)
structure TableOk (P:Program) (A:Ann) (Φ:FuncId->Option AFun):Prop where
 mixed:P.follows .mixedOrders=true
 body:∀f af,Φ f=some af->EP P f
 code:∀f fn,Φ f=some (.code fn)->cFn P A f=some fn
 dfr:∀f d,Φ f=some (.dfr d)->cDFn P A f d.clo=some d/\EP P d.clo
 rule:∀f g,Φ f=some (.rule g)->∀call,CallOk P call->∀as H r H',evR call (g as H)=some (r,H')->∀F B0 w I (vs:Array Value),HR F B0 w I H->ArgsR F w I H as vs->Calls P f vs w (CN F B0 w I H r H')
theorem ql {o:Option (Ex×St)} {rs:List ARes} {r:Rt} {H':AH} (h:CP o rs=some (r,H')):
  (∃v s,o=some (.pan v,s)/\r= .pan v/\H'=s.h)\/(∃ex s ys,o=some (ex,s)/\(ex= .normal\/ex= .ret)/\mapO (DO s) rs=some ys/\r= .val (WF ys)/\H'=s.h):=by
 unfold CP at h;split at h
 ·cases h;exact .inl ⟨_,_,rfl,rfl,rfl⟩
 ·cases h
 ·rename_i ex s hne hne';right;have hex:ex= .normal\/ex= .ret:=by
   cases ex with
   | normal=>exact .inl rfl
   | ret=>exact .inr rfl
   | exit i=>exact absurd rfl (hne' i)
   | pan v=>exact absurd rfl (hne v)
  split at h
  ·cases h
  ·rename_i v hv;cases h;exact ⟨ex,s,[v],rfl,hex,hv,rfl,rfl⟩
  ·rename_i vs hvs hv;cases h;refine ⟨ex,s,vs,rfl,hex,hv,?_,rfl⟩;congr 1
   match vs,hvs with
   | [],_=>rfl
   | [v],hh=>exact absurd rfl (hh v)
   | _::_::_,_=>rfl
 ·cases h
theorem ru {Φ:FuncId->Option AFun} (T:TableOk P A Φ):∀n,CallOk P (evF Φ n)
 | 0=>⟨fun _ _ _ _ _ h=>(by cases h),fun _ _ _ _ _ h=>(by cases h)⟩
 | n+1=>by
  have ih:=ru T n;refine ⟨?_,?_⟩
  ·intro f as H r H' h;simp only [evF] at h;split at h
   ·cases h
   ·rename_i g hg;exact T.body _ _ hg
   ·rename_i g hg;exact T.body _ _ hg
   ·rename_i g hg;exact T.body _ _ hg
  ·intro f as H r H' h F B0 w I vs hr ha;simp only [evF] at h;split at h
   ·cases h
   ·rename_i g hg;exact T.rule f g hg _ ih as H r H' h F B0 w I vs hr ha
   ·rename_i d hg;split at h
    ·rename_i hlen;obtain ⟨hc,hbd⟩:=T.dfr f d hg;unfold cDFn at hc;split at hc
     ·rename_i fd gd hfd hgd;split at hc
      ·rename_i c k hbody hkb;split at hc
       ·rename_i b rcv cb rs hb hk hrs;split at hc
        ·rename_i hsz;obtain ⟨s1,s2,s3,s4⟩:=hsz;have hdd:d=⟨fd.params.size+fd.nfree,rs,b,d.clo,gd.nfree,rcv,cb⟩:=by simpa using hc.symm
         have e1:d.nparams=fd.params.size+fd.nfree:=by rw [hdd]
         have e2:d.results=rs:=by rw [hdd]
         have e3:d.code=b:=by rw [hdd]
         have e4:gd.nfree=d.ncaps:=by rw [hdd]
         have e5:d.rcv=rcv:=by rw [hdd]
         have e6:d.cbody=cb:=by rw [hdd]
         rw [e1] at hlen;rw [e2,e3] at h;rw [<- e5,<- e6] at hk;refine calls_of_wp_defers hfd hbody ?_;have hvs:vs.size=fd.params.size+fd.nfree:=by rw [<- ha.1];exact hlen
         have hn:(vs++Array.replicate (fd.ntmps - vs.size) undef).size=fd.ntmps:=by simp;omega
         have he:EnvR F w I H (iP 0 as) (vs++Array.replicate (fd.ntmps - vs.size) undef):=by
          intro t y hy;obtain ⟨_,h1⟩:=UB hy;simp at h1;have hlt:t<as.length:=(Qm.1 h1).1;have hlt':t<vs.size:=by rw [<- ha.1];exact hlt
          refine ⟨vs[t],by simp [Array.getElem?_append,hlt'],ha.2 t y _ h1 (by simp [hlt'])⟩
         rcases ql h with ⟨v,s,h1,rfl,rfl⟩ | ⟨ex,s,ys,h1,hex,h2,rfl,rfl⟩
         ·refine pd ih T.mixed (fd:=fd) hgd hkb hk e4 s3 s4 hbd c b hb ⟨iP 0 as,H⟩ _ s _ w I h1 hr he hn rfl (by simp) (by simp) ?_;intro v' hv' w' u hgood;cases hv';exact ⟨v,u,rfl,rfl,hgood⟩
         ·refine pd ih T.mixed (fd:=fd) hgd hkb hk e4 s3 s4 hbd c b hb ⟨iP 0 as,H⟩ ex s _ w I h1 hr he hn rfl ?_ ?_ ?_
          ·rcases hex with rfl | rfl<;>simp
          ·rintro _ tmps w' ⟨I',k1,k2,k3,k4⟩;obtain ⟨v,m1,m2⟩:=eu k2 k3 hrs h2;exact ⟨v,m1,_,rfl,I',k1,k2,m2⟩
          ·intro v hv;rcases hex with rfl | rfl<;>cases hv
        ·cases hc
       ·cases hc
      ·cases hc
     ·cases hc
    ·cases h
   ·rename_i fn hg;split at h
    ·rename_i hlen;have hc:=T.code f fn hg;unfold cFn at hc;split at hc
     ·cases hc
     ·rename_i fd hfd;split at hc
      ·cases hc
      ·rename_i c hbody;split at hc
       ·rename_i b rs hb hrs;split at hc
        ·rename_i hsz;cases hc;simp only at h hlen;refine calls_of_wp hfd hbody ?_;have hvs:vs.size=fd.params.size+fd.nfree:=by rw [<- ha.1];exact hlen
         have hn:(vs++Array.replicate (fd.ntmps - vs.size) undef).size=fd.ntmps:=by simp;omega
         have he:EnvR F w I H (iP 0 as) (vs++Array.replicate (fd.ntmps - vs.size) undef):=by
          intro t y hy;obtain ⟨_,h1⟩:=UB hy;simp at h1;have hlt:t<as.length:=(Qm.1 h1).1;have hlt':t<vs.size:=by rw [<- ha.1];exact hlt
          refine ⟨vs[t],by simp [Array.getElem?_append,hlt'],ha.2 t y _ h1 (by simp [hlt'])⟩
         rcases ql h with ⟨v,s,h1,rfl,rfl⟩ | ⟨ex,s,ys,h1,hex,h2,rfl,rfl⟩
         ·refine sC ih T.mixed n c b hb _ ⟨iP 0 as,H⟩ _ s _ w I h1 hr he hn ?_;intro a' w' u hf;obtain ⟨_,_,_,_,_,_,hd⟩:=id hf;exact ⟨hd,v,u,rfl,rfl,hf.good⟩
         ·refine sC ih T.mixed n c b hb _ ⟨iP 0 as,H⟩ ex s _ w I h1 hr he hn ?_;have fin:∀(a':Act) (w':World),Fine F B0 w I H { tmps:=vs++Array.replicate (fd.ntmps - vs.size) undef,defers:=[] } a' w' s->
            a'.defers=[]/\∃v,(results fd a'.tmps).run P w'= .ok v w'/\CN F B0 w I H (.val (WF ys)) s.h (.returned v) w':=by
           intro a' w' hf;obtain ⟨I',k1,k2,k3,k4,k5⟩:=hf;obtain ⟨v,m1,m2⟩:=eu k2 k3 hrs h2;exact ⟨k5,v,m1,_,rfl,I',k1,k2,m2⟩
          rcases hex with rfl | rfl
          ·intro a' w' hf;exact fin a' w' hf
          ·intro a' w' hf;exact fin a' w' hf
        ·cases hc
       ·cases hc
    ·cases h
end
end Go.Av
namespace Go.Av
structure CloneParts where
 fd:Func
 i1:Nat
 x:Code
 ops1:Array Oper
 t:Nat
 x2:Code
 rest:Code
def dh (P:Program) (f:FuncId):Option CloneParts:=
 match P.funcs[f]? with
 | some fd=>match fd.body with
  | some (.seq x (.seq (.seq (.region i1 ops1 draw) (.cond (.tmp t) x2 .skip)) rest))=>if draw then none else some ⟨fd,i1,x,ops1,t,x2,rest⟩
  | _=>none
 | none=>none
def QY:Value->Bool
 | .slice none 0 0=>true
 | _=>false
def ll (P:Program) (nt:Nat) (o:Oper):Option (Nat×Nat):=match o.op with
 | .binOp .eql t (.tmp a) (.const c) _=>if QY c/\o.guard=none/\WB nt o.dst=true then match P.underlying t with
   | some (.slice _)=>o.dst.map (·,a)
   | _=>none
  else none
 | _=>none
structure CloneForm where
 x:Xu
 ops1:List Xv
 cmp:Nat×Nat
 t:Nat
 x2:Xu
 rest:Xu
 np:Nat
 res:List ARes
def JP (P:Program) (A0 A:Ann) (f:FuncId):Option CloneForm:=
 match dh P f with
 | some p=>match nC P A0 f p.fd.ntmps p.x,mapO (AB P A f p.fd.ntmps p.ops1) p.ops1.toList.dropLast,p.ops1.toList.getLast?.bind (ll P p.fd.ntmps),nC P A f p.fd.ntmps p.x2,nC P A f p.fd.ntmps p.rest,mapO (cRes P) p.fd.results.toList with
  | some ax,some l1,some cm,some a2,some ar,some rs=>if p.fd.params.size+p.fd.nfree<=p.fd.ntmps then some ⟨ax,l1,cm,p.t,a2,ar,p.fd.params.size+p.fd.nfree,rs⟩ else none
  | _,_,_,_,_,_=>none
 | none=>none
def A6 (z bytes:Nat) (m:SM):CloneForm:=
 ⟨.region false [] [⟨some 2,none,.mov (.c (.Xt z []))⟩] none,[⟨some 3,none,.mov (.t 0)⟩],(4,3),4,.seq (.region false [] [⟨some 2,none,.nilapp z⟩] none) .ret,
  .seq (.region false [] [⟨some 5,none,.bslice .imm z [] []⟩,⟨some 6,none,.mov (.t 0)⟩,⟨some 7,none,.append m z bytes (.t 5) (.t 6)⟩,⟨some 2,none,.mov (.t 7)⟩] none) .ret,1,[.tmp 2]⟩
def annC (m:SM) (b:Bool):Ann:=
  { pure:=fun _ _ _=>true,purev:=fun _ _=>true,bmode:=fun _ _=> .imm,smode:=fun _ _=> .row,amode:=fun _ _=>m,nilapp:=fun _ _=>b,slch:=fun _ _=>false,boxi:=fun _ _=>false,keep:=fun _ _=>none,split:=fun _ _=>false }
def DF (z bytes:Nat) (m:SM) (as:List AV) (H:AH):RProg:=
 match as with
 | [v]=>match lenOf v with
  | some 0=>match dF H v with
   | some []=> .ret (some (.val (.app z [] H.next),H.put H.next (.tok z 0)))
   | _=> .ret none
  | some (_+1)=> .ret ((evOp [(5,.Xt z []),(6,v)] H.next H (.append m z bytes (.t 5) (.t 6))).map fun r=>(.val r.1,r.2))
  | none=> .ret none
 | _=> .ret none
section
variable {F:Nat->Nat->Prop} {B0:Nat} {P:Program} {w:World} {I:Beta} {H:AH}
theorem Up {v:AV} {n:Nat} {u:Value} (h:lenOf v=some n) (hv:VRH F w I H v u):∃base cap,u= .slice base n cap/\(n≠0->base≠none):=by
 unfold lenOf at h;split at h
 ·cases h;obtain ⟨b,cap,h,_,h3⟩:=sO (EO hv);refine ⟨b,cap,h,?_⟩;intro hn;rcases h3 with h3 | ⟨_,_,rfl,_⟩
  ·rw [h3] at hn;simp at hn
  ·simp
 ·cases h;obtain ⟨b,cap,h,_,h3⟩:=sO (zI hv).1;refine ⟨b,cap,h,?_⟩;intro hn;rcases h3 with h3 | ⟨_,_,rfl,_⟩
  ·rw [h3] at hn;simp at hn
  ·simp
 ·cases h;obtain ⟨b,cap,h,_,h3⟩:=sO (EW hv).2.1;refine ⟨b,cap,h,?_⟩;intro hn;rcases h3 with h3 | ⟨_,_,rfl,_⟩
  ·rw [h3] at hn;simp at hn
  ·simp
 ·cases h;obtain ⟨_,⟨base,cap,h,_,h3⟩,_⟩:=AA hv;refine ⟨base,cap,h,?_⟩;intro hn;rcases h3 with h3 | ⟨_,_,rfl⟩
  ·exact absurd h3 hn
  ·simp
 ·cases h
theorem Jt {call:aP} {e:Env} {v y:AV} {z bytes:Nat} {m:SM} {H2:AH} (h0:look 0 e=some v) (hap:evOp [(5,.Xt z []),(6,v)] H.next H (.append m z bytes (.t 5) (.t 6))=some (y,H2)):
  evC call 0 (A6 z bytes m).rest ⟨e,H⟩=some (.ret,⟨(2,y)::(7,y)::(6,v)::(5,.Xt z [])::e,H2⟩):=by
 have hap':evOp ((6,v)::(5,.Xt z [])::e) H.next H (.append m z bytes (.t 5) (.t 6))=some (y,H2):=by
  have e5:evX ((6,v)::(5,.Xt z [])::e) (.t 5)=evX [(5,.Xt z []),(6,v)] (.t 5):=rfl;have e6:evX ((6,v)::(5,.Xt z [])::e) (.t 6)=evX [(5,.Xt z []),(6,v)] (.t 6):=rfl;rw [<- hap];simp only [evOp,e5,e6]
 have b1:∀nx,evOp e nx H (.bslice .imm z [] [])=some (.Xt z [],H):=fun _=>rfl
 have b2:∀nx,evOp ((5,.Xt z [])::e) nx H (.mov (.t 0))=some (v,H):=by
  intro nx;simp only [evOp,evX,look];simp [h0]
 have b3:∀nx,evOp ((7,y)::(6,v)::(5,.Xt z [])::e) nx H2 (.mov (.t 7))=some (y,H2):=fun _=>rfl
 simp only [A6,evC,TO,if_true,aU,nI,aD,b1,putE,b2,cE,hap',b3,kept]
theorem qw1 {v:AV} {z bytes:Nat} (hs:dF H v=some []):evOp [(5,.Xt z []),(6,v)] H.next H (.append .app z bytes (.t 5) (.t 6))=some (.app z [] H.next,H.put H.next (.tok z 0)):=by
 have src:frz H v []=some []:=by
  unfold frz;split<;>simp [anyL,mapO]
 simp only [evOp,evX,look];simp [hs,src,jD,anyL]
theorem X4 {f:FuncId} {z bytes:Nat} {m:SM} (hm:P.follows .mixedOrders=true)
    (h1:JP P (annC m false) (annC m true) f=some (A6 z bytes m)) (h2:JP P (annC .app false) (annC .app true) f=some (A6 z bytes .app))
    {call:aP} (hc:CallOk P call) {as:List AV} {r:Rt} {H':AH} (hev:evR call (DF z bytes m as H)=some (r,H')) {vs:Array Value} (hr:HR F B0 w I H) (ha:ArgsR F w I H as vs):
    Calls P f vs w (CN F B0 w I H r H'):=by
  unfold DF at hev;split at hev
  · rename_i v
    have parts:∀m',JP P (annC m' false) (annC m' true) f=some (A6 z bytes m')->∃p,dh P f=some p/\nC P (annC m' false) f p.fd.ntmps p.x=some (.region false [] [⟨some 2,none,.mov (.c (.Xt z []))⟩] none)/\
        mapO (AB P (annC m' true) f p.fd.ntmps p.ops1) p.ops1.toList.dropLast=some [⟨some 3,none,.mov (.t 0)⟩]/\p.ops1.toList.getLast?.bind (ll P p.fd.ntmps)=some (4,3)/\p.t=4/\
        nC P (annC m' true) f p.fd.ntmps p.x2=some (.seq (.region false [] [⟨some 2,none,.nilapp z⟩] none) .ret)/\
        nC P (annC m' true) f p.fd.ntmps p.rest=some (A6 z bytes m').rest/\mapO (cRes P) p.fd.results.toList=some [.tmp 2]/\p.fd.params.size+p.fd.nfree=1/\1<=p.fd.ntmps:=by
      intro m' h;unfold JP at h;split at h
      · rename_i p hp
        split at h
        · rename_i ax l1 cm a2 ar rs e1 e2 e3 e4 e5 e6
          split at h
          · rename_i hle
            simp only [A6,Option.some.injEq,CloneForm.mk.injEq] at h;obtain ⟨rfl,rfl,rfl,ht,rfl,rfl,hn,rfl⟩:=h;exact ⟨p,hp,e1,e2,e3,ht,e4,e5,e6,hn,by omega⟩
          · cases h
        · cases h
      · cases h
    obtain ⟨p,hp,x1,x2,x3,x4,x5,x6,x7,x8,x9⟩:=parts m h1;obtain ⟨p',hp',y1,y2,y3,y4,y5,y6,y7,y8,y9⟩:=parts .app h2;rw [hp] at hp';cases hp';unfold dh at hp;split at hp
    · rename_i fd hfd
      split at hp
      · rename_i xc i1 ops1 draw t xc2 rest hbody
        split at hp
        · cases hp
        · rename_i hdraw
          have hdr:draw=false:=by simpa using hdraw
          subst hdr;cases hp;simp only at x1 x2 x3 x4 x5 x6 x7 x8 x9 y5 y6;subst x4;refine calls_of_wp hfd hbody ?_;have hvs:vs.size=1:=by rw [<- ha.1];rfl
          have hn:(vs++Array.replicate (fd.ntmps - vs.size) undef).size=fd.ntmps:=by simp;omega
          obtain ⟨u0,hu0⟩:∃u0,vs[0]? =some u0:=⟨vs[0],by simp [hvs]⟩;have hv0:VRH F w I H v u0:=ha.2 0 v u0 rfl hu0;have he:EnvR F w I H [(0,v)] (vs++Array.replicate (fd.ntmps - vs.size) undef):=by
            intro t y hy;simp only [look] at hy;split at hy
            · rename_i ht;subst ht;cases hy
              refine ⟨u0,?_,hv0⟩;rw [Array.getElem?_append_left (by omega)];exact hu0
            · cases hy
          have fin:∀(s':St) (y:AV) (H2:AH) (tmps:Array Value) (w2 w':World) (I2:Beta),Tr w I H w2 I2 H->look 2 s'.e=some y->s'.h=H2->(∃I',Tr w2 I2 H w' I' s'.h/\HR F B0 w' I' s'.h/\EnvR F w' I' s'.h s'.e tmps)->r= .val y->H'=H2->
              ∃v,(results fd tmps).run P w'= .ok v w'/\CN F B0 w I H r H' (.returned v) w':=by
            rintro s' y H2 tmps w2 w' I2 t0 hy rfl ⟨I',k1,k2,k3⟩ rfl rfl;obtain ⟨vv,m1,m2⟩:=eu k2 k3 x7 (ys:=[y]) (by simp [mapO,DO,hy]);exact ⟨vv,m1,y,rfl,I',t0.trans k1,k2,m2⟩
          refine wp_seq ?_;refine sC hc hm 0 xc _ x1 _ ⟨[(0,v)],H⟩ .normal ⟨[(2,.Xt z []),(0,v)],H⟩ _ w I (by rfl) hr he hn ?_;rintro a1 w1 ⟨I1,k1,k2,k3,k4,k5⟩;refine wp_seq (wp_seq (wp_region ?_));rw [Qt] at x3;obtain ⟨o,ho,hcmp⟩:=x3;have hsplit:ops1.toList=ops1.toList.dropLast++[o]:=by
            have hne:ops1.toList≠[]:=by intro h;rw [h] at ho;cases ho
            rw [List.getLast?_eq_some_getLast hne] at ho;cases ho;exact (List.dropLast_concat_getLast hne).symm
          have hl1:ops1.toList.dropLast.length=1:=(jC x2);have hsz:ops1.size=2:=by
            have:=congrArg List.length hsplit;simp at this hl1;omega
          have hoat:ops1[1]? =some o:=by
            have:ops1.toList[1]? =some o:=by rw [hsplit];simp [hl1]
            simpa using this
          rw [hsz];show wpOps P ops1 _ ([0]++[1]) a1 w1;obtain ⟨o0,ho0⟩:∃o0,ops1.toList.dropLast[0]? =some o0:=⟨_,Qa (by omega)⟩;obtain ⟨ao,g1,g2⟩:=(D6 x2).2 0 o0 ho0;have ho0':ops1[0]? =some o0:=by
            have:ops1.toList[0]? =some o0:=by
              rw [hsplit,Ql (by omega)];exact ho0
            simpa using this
          refine S4 (A:=annC m true) (fn:=f) (call:=call) hc none [1] [0] (l:=[⟨some 3,none,.mov (.t 0)⟩]) ?_ ⟨[(2,.Xt z []),(0,v)],H⟩ .normal ⟨[(3,v),(2,.Xt z []),(0,v)],H⟩ a1 w1 I1 (by rfl) k2 k3 (k4.trans hn) ?_
          · intro i hi
            simp at hi;subst hi;exact ⟨o0,ao,ho0',g1,g2⟩
          rintro a2 w2 ⟨I2,m1,m2,m3,m4,m5⟩;unfold ll at hcmp;split at hcmp
          · rename_i t a c ty hop
            split at hcmp
            · rename_i hcond
              obtain ⟨hnil,hgd,hds⟩:=hcond;split at hcmp
              · rename_i el hel
                rw [Qs] at hcmp;obtain ⟨d,hd,hda⟩:=hcmp;cases hda;have hcv:c= .slice none 0 0:=by
                  unfold QY at hnil;split at hnil
                  · rfl
                  · cases hnil
                subst hcv;obtain ⟨u3,hu3,hv3⟩:=m3 3 v (by simp [look]);have hlen:∃n,lenOf v=some n:=by
                  cases hl:lenOf v with
                  | none=>rw [hl] at hev;cases hev
                  | some n=>exact ⟨n,rfl⟩
                obtain ⟨n,hln⟩:=hlen;obtain ⟨base,cap,rfl,hbase⟩:=Up hln hv3;have heq:∀dd,(Op.equalIn (dd+1) t (.slice base n cap) (.slice none 0 0)).run P w2= .ok base.isNone w2:=by
                  intro dd;cases base with
                  | none=>simp [Op.equalIn,b9 w2 hel]
                  | some b=>simp [Op.equalIn,b9 w2 hel]
                have hrun:(execOp a2.eval o).run P w2= .ok (.value (.bool base.isNone)) w2:=by
                  have ev:a2.eval (.tmp 3)= .slice base n cap:=by
                    show a2.tmps.getD 3 undef=_;rw [DT,hu3];rfl
                  unfold execOp;rw [hop];simp only [Sem.run_bind];rw [ev];rw [show a2.eval (.const (.slice none 0 0))= .slice none 0 0 from rfl];rw [VG w2 .eql t (.tmp 3) (.const (.slice none 0 0)) (.slice base n cap) (.slice none 0 0) (by simp) (.inl (by simp))];have e10:=heq 9999;have:(Go.binOp .eql t (.slice base n cap) (.slice none 0 0)).run P w2= .ok (.bool base.isNone) w2:=by
                    simp only [Go.binOp];simp [Op.equal,Op.maxDepth,e10]
                  simp only [Result.andThen_ok,this];rfl
                show wpOps P ops1 _ [1] a2 w2;have hw0:Region.wanted o (yielded ops1 a2.tmps)=true:=by simp [Region.wanted,hgd]
                simp only [wpOps,hoat,hw0,if_true];left;simp only [Oper.wp,hrun,Oper.upon,hd];have h4:4<fd.ntmps:=by rw [hd] at hds;simpa [WB] using hds
                have hsz2:a2.tmps.size=fd.ntmps:=m4.trans (k4.trans hn);have he4:EnvR F w2 I2 H [(4,.bool base.isNone),(3,v),(2,.Xt z []),(0,v)] (a2.put (some 4) (.bool base.isNone)).tmps:=
                  LN (d:=some 4) m3 (.d (.bool _)) (by intro k hk;cases hk;rw [hsz2];exact h4)
                have hcv:(a2.put (some 4) (.bool base.isNone)).eval (.tmp 4)= .bool base.isNone:=by
                  show (a2.put (some 4) (.bool base.isNone)).tmps.getD 4 undef=_;have:4<a2.tmps.size:=by rw [hsz2];exact h4
                  simp [Act.put,DT,this]
                have hn4:(a2.put (some 4) (.bool base.isNone)).tmps.size=fd.ntmps:=by rw [A8];exact hsz2
                have hd4:(a2.put (some 4) (.bool base.isNone)).defers=[]:=by rw [LQ,m5,k5]
                show (Code.cond (.tmp 4) xc2 .skip).wp P _ _ w2;have copy:∀(m':SM) (y:AV) (H2:AH),nC P (annC m' true) f fd.ntmps rest=some (A6 z bytes m').rest->evOp [(5,.Xt z []),(6,v)] H.next H (.append m' z bytes (.t 5) (.t 6))=some (y,H2)->r= .val y->H'=H2->
                    rest.wp P (bodyPost P fd (CN F B0 w I H r H')) (a2.put (some 4) (.bool base.isNone)) w2:=by
                  intro m' y H2 hcr hap hry hHy;refine sC hc hm 0 rest _ hcr _ ⟨[(4,.bool base.isNone),(3,v),(2,.Xt z []),(0,v)],H⟩ .ret ⟨[(2,y),(7,y),(6,v),(5,.Xt z []),(4,.bool base.isNone),(3,v),(2,.Xt z []),(0,v)],H2⟩ _ w2 I2 ?_ m2 he4 hn4 ?_
                  · exact Jt rfl hap
                  · rintro a' w' ⟨I',q1,q2,q3,q4,q5⟩
                    refine ⟨q5.trans hd4,?_⟩;exact fin _ y H2 a'.tmps w2 w' I2 (k1.trans m1) rfl rfl ⟨I',q1,q2,q3⟩ hry hHy
                cases base with
                | none=>
                  have hn0:n=0:=by
                    rcases Qw n with h | h
                    · exact h
                    · exact absurd rfl (hbase (by omega))
                  subst hn0;rw [hln] at hev;simp only at hev;split at hev
                  rotate_left
                  · cases hev
                  cases hev;refine wp_cond_true hcv ?_;refine sC hc hm 0 xc2 _ x5 _ ⟨[(4,.bool true),(3,v),(2,.Xt z []),(0,v)],H⟩ .ret ⟨[(2,.app z [] H.next),(4,.bool true),(3,v),(2,.Xt z []),(0,v)],H.put H.next (.tok z 0)⟩ _ w2 I2 (by rfl) m2 he4 hn4 ?_;rintro a' w' ⟨I',q1,q2,q3,q4,q5⟩;refine ⟨q5.trans hd4,?_⟩;exact fin _ _ _ a'.tmps w2 w' I2 (k1.trans m1) rfl rfl ⟨I',q1,q2,q3⟩ rfl rfl
                | some b=>
                  refine wp_cond_false hcv (wp_skip ?_);show rest.wp P _ _ w2;cases n with
                  | zero=>
                    rw [hln] at hev;simp only at hev;split at hev
                    rotate_left
                    · cases hev
                    rename_i hsrc;cases hev;refine copy .app _ _ y6 (qw1 hsrc) rfl rfl
                  | succ n=>
                    rw [hln] at hev;simp only [evR,Qs] at hev;obtain ⟨q,hq,hqe⟩:=hev;cases hqe;exact copy m q.1 q.2 x6 hq rfl rfl
              · cases hcmp
            · cases hcmp
          · cases hcmp
      · cases hp
    · cases hp
  · cases hev
end
end Go.Av
namespace Go.Av
def LeC (c c':aP):Prop:=∀f as H r,c f as H=some r->c' f as H=some r
section
variable {call call':aP}
theorem UD (hc:LeC call call') {f:FuncId} {as:List AV} {H:AH} {r:Rt×AH} (h:nY call f as H=some r):nY call' f as H=some r:=by
 unfold nY at h ⊢;split at h
 ·cases h
 ·rename_i as' has;split at h
  ·rename_i x H1 hcall;rw [hc _ _ _ _ hcall];exact h
  ·rename_i x H1 hcall;rw [hc _ _ _ _ hcall];exact h
  ·cases h
theorem pm (hc:LeC call call') {e:Env} {nx:Nat} {H:AH} {op:AOp} {r:Rt×AH} (h:aD call e nx H op=some r):aD call' e nx H op=some r:=by
 cases hk:op.isCall with
 | false=>rw [L7 hk] at h ⊢;exact h
 | true=>
  cases op<;>first
   | (cases hk;done)
   | skip
  case pcall f xs=>
   simp only [aD] at h ⊢;split at h
   ·exact UD hc h
   ·cases h
  case pcallk f xs=>
   simp only [aD] at h ⊢;split at h
   ·split at h
    ·split at h
     ·split at h
      ·cases h
      ·rename_i hb;rw [QA hb];exact UD hc h
     ·cases h
    ·cases h
   ·cases h
  case pcallr f xs=>
   simp only [aD] at h ⊢;split at h
   ·unfold uT at h ⊢;split at h
    ·cases h
    ·split at h
     ·rename_i hcall;rw [hc _ _ _ _ hcall];exact h
     ·rename_i hcall;rw [hc _ _ _ _ hcall];exact h
     ·cases h
   ·cases h
  case tcall f xs=>
   simp only [aD] at h ⊢;split at h
   ·exact hc _ _ _ _ h
   ·cases h
  case pcallv f xs=>
   simp only [aD] at h ⊢;split at h
   ·split at h
    ·exact UD hc h
    ·cases h
   ·cases h
  case tcallv f xs=>
   simp only [aD] at h ⊢;split at h
   ·split at h
    ·exact hc _ _ _ _ h
    ·cases h
   ·cases h
  case pinvoke ms x xs=>
   simp only [aD] at h ⊢;split at h
   ·split at h
    ·exact UD hc h
    ·cases h
   ·cases h
  case tinvoke ms x xs=>
   simp only [aD] at h ⊢;split at h
   ·split at h
    ·exact hc _ _ _ _ h
    ·cases h
   ·cases h
  case panic x=>exact h
theorem JD (hc:LeC call call') {base:Option Nat}:∀{ops:List Xv} {s:St} {r:Ex×St},aU call base ops s=some r->aU call' base ops s=some r
 | [],s,r,h=>h
 | o::ops,s,r,h=>by
  rw [aU] at h ⊢;split at h
  ·cases h
  ·exact JD hc h
  ·split at h
   ·cases h
   ·rename_i v H1 hcall;rw [pm hc hcall];exact JD hc h
   ·rename_i v H1 hcall;rw [pm hc hcall];exact h
theorem rx (hc:LeC call call') {base:Option Nat}:∀{ops:List Xv} {s s':St},aU call base ops s=some (.normal,s')->feet call' base ops s=feet call base ops s
 | [],s,s',h=>rfl
 | o::ops,s,s',h=>by
  obtain ⟨v,h',h1,h2⟩:=evOps_cons.1 h;have e1:aU call base [o] s=some (.normal,⟨putE s.e o.dst v,h'⟩):=evOps_cons.2 ⟨v,h',h1,rfl⟩;have e2:=JD hc e1;simp only [feet,e1,e2];rw [rx hc h2]
theorem TX {b b':St->Option (Ex×St)} (hb:∀s r,b s=some r->b' s=some r):∀{n m:Nat} {s:St} {r:Ex×St},n<=m->DH b n s=some r->DH b' m s=some r
 | 0,_,_,_,_,h=>by cases h
 | n+1,0,_,_,hnm,_=>by omega
 | n+1,m+1,s,r,hnm,h=>by
  simp only [DH] at h ⊢;split at h
  ·rename_i s1 hs1;rw [hb _ _ hs1];exact TX hb (by omega) h
  ·rename_i hne;rw [hb _ _ h];split
   ·rename_i s1 heq;cases heq;exact absurd h (hne s1)
   ·rfl
theorem w5 (hc:LeC call call') {n m:Nat} (hnm:n<=m):∀{c:Xu} {s:St} {r:Ex×St},evC call n c s=some r->evC call' m c s=some r
 | .skip,s,r,h=>h
 | .region draw pairs ops keep,s,r,h=>by
  simp only [evC] at h ⊢;split at h
  ·rename_i hp;rw [a9 hp];split at h
   ·rename_i s1 hs1;rw [JD hc hs1];exact h
   ·rename_i hne;split at h
    ·cases h
    ·rename_i hd;rw [JD hc h];split
     ·rename_i s1 heq;cases heq;exact absurd h (hne s1)
     ·rw [QA hd]
  ·rename_i hp;rw [QA hp];split at h
   ·rename_i hcond;split at h
    ·rename_i s1 hs1;rw [rx hc hs1,a9 hcond,JD hc hs1];exact h
    ·cases h
   ·cases h
 | .seq a b,s,r,h=>by
  simp only [evC] at h ⊢;split at h
  ·rename_i s1 hs1;rw [w5 hc hnm hs1];exact w5 hc hnm h
  ·rename_i hne;rw [w5 hc hnm h];split
   ·rename_i s1 heq;cases heq;exact absurd h (hne s1)
   ·rfl
 | .cond c a b,s,r,h=>by
  simp only [evC] at h ⊢;split at h
  ·exact w5 hc hnm h
  ·exact w5 hc hnm h
  ·cases h
 | .block id b,s,r,h=>by
  simp only [evC] at h ⊢;split at h
  ·rename_i i s1 hs1;rw [w5 hc hnm hs1];exact h
  ·rename_i hne;rw [w5 hc hnm h];split
   ·rename_i i s1 heq;cases heq;exact absurd h (hne i s1)
   ·rfl
 | .loop b,s,r,h=>by
  simp only [evC] at h ⊢;exact TX (fun s r hs=>w5 hc hnm hs) hnm h
 | .exit id,s,r,h=>h
 | .ret,s,r,h=>h
end
theorem uo {call call':aP} (hc:LeC call call'):∀{p:RProg} {r:Rt×AH},evR call p=some r->evR call' p=some r
 | .ret o,r,h=>h
 | .call f as H k,r,h=>by
  simp only [evR] at h ⊢;split at h
  ·rename_i x H' hx;rw [hc _ _ _ _ hx];exact uo hc h
  ·cases h
section
variable {call call':aP} {n m:Nat}
theorem YU (hc:LeC call call') (hnm:n<=m) {d:ADFn} {v:AV} {caps:List AV} {h h':AH} (he:zS call n d v caps h=some h'):zS call' m d v caps h=some h':=by
 unfold zS at he ⊢;cases hb:evC call n d.cbody ⟨recE d.rcv v (iP 0 caps),h⟩ with
 | none=>rw [hb] at he;cases he
 | some p=>rw [hb] at he;rw [w5 hc hnm hb];exact he
theorem XE (hc:LeC call call') (hnm:n<=m) {d:ADFn} {caps:List AV} {o:Option (Ex×St)} {r:Ex×St} (he:ES call n d caps o=some r):ES call' m d caps o=some r:=by
 have one:∀(v:AV) (s:St),(zS call n d v caps s.h).map (fun h=>(Ex.ret,(⟨s.e,h⟩:St)))=some r->(zS call' m d v caps s.h).map (fun h=>(Ex.ret,(⟨s.e,h⟩:St)))=some r:=by
  intro v s h;rw [Qs] at h;obtain ⟨h',h1,h2⟩:=h;rw [YU hc hnm h1];simpa using h2
 match o,he with
 | some (.normal,s),he=>exact one _ s he
 | some (.ret,s),he=>exact one _ s he
 | some (.pan v,s),he=>
  simp only [ES] at he ⊢;split at he
  ·rename_i hr;rw [a9 hr];exact one _ s he
  ·cases he
 | some (.exit _,_),he=>cases he
 | none,he=>cases he
theorem um (hc:LeC call call') (hnm:n<=m) {d:ADFn}:∀{c:DCode} {s:St} {r:Ex×St},evD call n d c s=some r->evD call' m d c s=some r
 | .seq a k,s,r,he=>by
  simp only [evD] at he ⊢;split at he
  ·rename_i s' hs;rw [w5 hc hnm hs];exact um hc hnm he
  ·rename_i hne;rw [w5 hc hnm he];split
   ·rename_i s1 heq;cases heq;exact absurd he (hne s1)
   ·rfl
 | .dfr ops t body,s,r,he=>by
  simp only [evD] at he ⊢;split at he
  ·rename_i s1 hs;rw [JD hc hs];simp only;cases ht:(look t s1.e).bind tgt with
   | none=>rw [ht] at he;cases he
   | some p=>
    rw [ht] at he;simp only at he ⊢;split at he
    ·rename_i hh;rw [a9 hh];cases hb:evC call n body s1 with
     | none=>rw [hb] at he;cases he
     | some q=>
      rw [hb] at he;rw [w5 hc hnm hb];exact XE hc hnm he
    ·cases he
  ·rename_i hne;rw [JD hc he];split
   ·rename_i s1 heq;cases heq;exact absurd he (hne s1)
   ·rfl
end
theorem LJ {Φ:FuncId->Option AFun}:∀{n m:Nat},n<=m->LeC (evF Φ n) (evF Φ m)
 | 0,_,_=>fun _ _ _ _ h=>(by cases h)
 | n+1,0,h=>(by omega)
 | n+1,m+1,hnm=>by
  intro f as H r h;simp only [evF] at h ⊢;split at h
  ·cases h
  ·exact uo (LJ (by omega)) h
  ·rename_i d hd;split at h
   ·rename_i hl;rw [a9 hl];cases hb:evD (evF Φ n) n d d.code ⟨iP 0 as,H⟩ with
    | none=>rw [hb] at h;cases h
    | some p=>
     rw [hb] at h;rw [um (LJ (by omega)) (by omega) hb];exact h
   ·cases h
  ·rename_i fn hfn;split at h
   ·rename_i hl;rw [a9 hl];cases hb:evC (evF Φ n) n fn.body ⟨iP 0 as,H⟩ with
    | none=>rw [hb] at h;cases h
    | some p=>
     rw [hb] at h;rw [w5 (LJ (by omega)) (by omega) hb];exact h
   ·cases h
end Go.Av
namespace Go.Av
section lim
open Classical in
noncomputable def limO {G : Type} (f : Nat -> Option G) : Option G :=
 if h:∃n r,f n=some r then f (Classical.choose h) else none
theorem iu {G:Type} {f:Nat->Option G} (hm:∀n m r,n<=m->f n=some r->f m=some r):∃N,∀m,N<=m->f m=limO f:=by
 unfold limO;split
 ·rename_i h;obtain ⟨r,hr⟩:=Classical.choose_spec h;refine ⟨Classical.choose h,fun m hn=>?_⟩;rw [hr,hm _ _ _ hn hr]
 ·rename_i h;refine ⟨0,fun m _=>?_⟩;cases hf:f m with
  | none=>rfl
  | some r=>exact absurd ⟨m,r,hf⟩ h
theorem Au {G:Type} {f:Nat->Option G} {r:G} (h:limO f=some r):∃n,f n=some r:=by
 unfold limO at h;split at h
 ·exact ⟨_,h⟩
 ·cases h
theorem Ky {G:Type} {f:Nat->Option G} (hm:∀n m r,n<=m->f n=some r->f m=some r) {n:Nat} {r:G} (h:f n=some r):limO f=some r:=by
 obtain ⟨N,hN⟩:=iu hm;rw [<- hN (max n N) (by omega)];exact hm _ _ _ (by omega) h
end lim
section
variable (Φ:FuncId->Option AFun)
noncomputable def aG : aP := fun f as H => limO fun n => evF Φ n f as H
noncomputable def fE (c : Xu) (s : St) : Option (Ex × St) := limO fun n => evC (evF Φ n) n c s
theorem EN (f:FuncId) (as:List AV) (H:AH):∃N,∀m,N<=m->evF Φ m f as H=aG Φ f as H:=
 iu fun _ _ r hnm h=>LJ hnm f as H r h
theorem YC {f:FuncId} {as:List AV} {H:AH} {r:Rt×AH} (h:aG Φ f as H=some r):∃n,evF Φ n f as H=some r:=Au h
theorem Cf {f:FuncId} {as:List AV} {H:AH} {r:Rt×AH} {n:Nat} (h:evF Φ n f as H=some r):aG Φ f as H=some r:=
 Ky (fun _ _ r hnm h=>LJ hnm f as H r h) h
theorem t9 (c:Xu) (s:St):∃N,∀m,N<=m->evC (evF Φ m) m c s=fE Φ c s:=
 iu fun _ _ _ hnm h=>w5 (LJ hnm) hnm h
theorem Ae (e:Env) (nx:Nat) (H:AH) (op:AOp):∃N,∀m,N<=m->aD (evF Φ m) e nx H op=aD (aG Φ) e nx H op:=by
 cases hk:op.isCall with
 | false=>exact ⟨0,fun m _=>by rw [L7 hk,L7 hk]⟩
 | true=>
  have pc:∀f as H,∃N,∀m,N<=m->nY (evF Φ m) f as H=nY (aG Φ) f as H:=by
   intro f as H;unfold nY;cases mapO (snap aI H) as with
   | none=>exact ⟨0,fun _ _=>rfl⟩
   | some as'=>
    obtain ⟨N,hN⟩:=EN Φ f as' H0;exact ⟨N,fun m hm=>by simp only [hN m hm]⟩
  cases op<;>first
   | (cases hk;done)
   | skip
  case pcall f xs=>
   simp only [aD];cases mapO (evX e) xs with
   | none=>exact ⟨0,fun _ _=>rfl⟩
   | some as=>exact pc f as H
  case pcallk f xs=>
   simp only [aD];cases mapO (evX e) xs with
   | none=>exact ⟨0,fun _ _=>rfl⟩
   | some as=>
    cases hr:LU as with
    | none=>exact ⟨0,fun _ _=>by simp only [hr]⟩
    | some id=>
     cases ha:mapO (DJ H id) as with
     | none=>exact ⟨0,fun _ _=>by simp only [hr,ha]⟩
     | some as'=>
      obtain ⟨N,hN⟩:=pc f as' (H.kill id);refine ⟨N,fun m hm=>?_⟩;simp only [hr,ha];split
      ·rfl
      ·exact hN m hm
  case pcallr f xs=>
   simp only [aD];cases mapO (evX e) xs with
   | none=>exact ⟨0,fun _ _=>rfl⟩
   | some as=>
    unfold uT;simp only;cases mapO (snap aI H) as with
    | none=>exact ⟨0,fun _ _=>rfl⟩
    | some as'=>
     obtain ⟨N,hN⟩:=EN Φ f as' H0;exact ⟨N,fun m hm=>by simp only [hN m hm]⟩
  case tcall f xs=>
   simp only [aD];cases mapO (evX e) xs with
   | none=>exact ⟨0,fun _ _=>rfl⟩
   | some as=>exact EN Φ f as H
  case pcallv f xs=>
   simp only [aD];split
   ·rename_i fv as _ _;cases tgt2 fv with
    | none=>exact ⟨0,fun _ _=>rfl⟩
    | some p=>exact pc p.1 (p.2.1++as++p.2.2) H
   ·exact ⟨0,fun _ _=>rfl⟩
  case tcallv f xs=>
   simp only [aD];split
   ·rename_i fv as _ _;cases tgt2 fv with
    | none=>exact ⟨0,fun _ _=>rfl⟩
    | some p=>exact EN Φ p.1 (p.2.1++as++p.2.2) H
   ·exact ⟨0,fun _ _=>rfl⟩
  case pinvoke ms x xs=>
   simp only [aD];split
   ·rename_i t v as _ _;cases look t ms with
    | none=>exact ⟨0,fun _ _=>rfl⟩
    | some f=>exact pc f (v::as) H
   ·exact ⟨0,fun _ _=>rfl⟩
  case tinvoke ms x xs=>
   simp only [aD];split
   ·rename_i t v as _ _;cases look t ms with
    | none=>exact ⟨0,fun _ _=>rfl⟩
    | some f=>exact EN Φ f (v::as) H
   ·exact ⟨0,fun _ _=>rfl⟩
  case panic x=>exact ⟨0,fun _ _=>rfl⟩
theorem MX (base:Option Nat):∀(ops:List Xv) (s:St),∃N,∀m,N<=m->aU (evF Φ m) base ops s=aU (aG Φ) base ops s
 | [],s=>⟨0,fun _ _=>rfl⟩
 | o::r,s=>by
  simp only [aU];cases nI s.e o.guard with
  | none=>exact ⟨0,fun _ _=>rfl⟩
  | some b=>cases b with
   | false=>exact MX base r _
   | true=>
    obtain ⟨N,hN⟩:=Ae Φ s.e (cE base o.dst s.h) s.h o.op;cases hc:aD (aG Φ) s.e (cE base o.dst s.h) s.h o.op with
    | none=>exact ⟨N,fun m hm=>by simp only [hN m hm,hc]⟩
    | some p=>
     obtain ⟨x,h⟩:=p;cases x with
     | pan v=>exact ⟨N,fun m hm=>by simp only [hN m hm,hc]⟩
     | val v=>
      obtain ⟨M,hM⟩:=MX base r ⟨putE s.e o.dst v,h⟩;exact ⟨max N M,fun m hm=>by simp only [hN m (by omega),hc,hM m (by omega)]⟩
theorem PJ (base:Option Nat):∀(ops:List Xv) (s:St),∃N,∀m,N<=m->feet (evF Φ m) base ops s=feet (aG Φ) base ops s
 | [],s=>⟨0,fun _ _=>rfl⟩
 | o::r,s=>by
  simp only [feet];obtain ⟨N,hN⟩:=MX Φ base [o] s;cases hc:aU (aG Φ) base [o] s with
  | none=>exact ⟨N,fun m hm=>by simp only [hN m hm,hc]⟩
  | some p=>
   obtain ⟨M,hM⟩:=PJ base r p.2;exact ⟨max N M,fun m hm=>by simp only [hN m (by omega),hc,hM m (by omega)]⟩
theorem XY (s:St):fE Φ .skip s=some (.normal,s):=by
 obtain ⟨N,hN⟩:=t9 Φ .skip s;rw [<- hN N (Qb _)];rfl
theorem U' (s:St):fE Φ .ret s=some (.ret,s):=by
 obtain ⟨N,hN⟩:=t9 Φ .ret s;rw [<- hN N (Qb _)];rfl
theorem XW (i:Nat) (s:St):fE Φ (.exit i) s=some (.exit i,s):=by
 obtain ⟨N,hN⟩:=t9 Φ (.exit i) s;rw [<- hN N (Qb _)];rfl
theorem ZF (a b:Xu) (s:St):fE Φ (.seq a b) s=match fE Φ a s with
  | some (.normal,s')=>fE Φ b s'
  | r=>r:=by
 obtain ⟨N,hN⟩:=t9 Φ (.seq a b) s;obtain ⟨N1,hN1⟩:=t9 Φ a s;cases ha:fE Φ a s with
 | none=>
  rw [<- hN (max N N1) (by omega)];simp only [evC,hN1 (max N N1) (by omega),ha]
 | some p=>
  obtain ⟨ex,s'⟩:=p;obtain ⟨N2,hN2⟩:=t9 Φ b s';rw [<- hN (max N (max N1 N2)) (by omega)];simp only [evC,hN1 (max N (max N1 N2)) (by omega),ha];cases ex with
  | normal=>simp only [hN2 (max N (max N1 N2)) (by omega)]
  | _=>rfl
theorem XU (c:AX) (a b:Xu) (s:St):fE Φ (.cond c a b) s=match evX s.e c with
  | some (.bool true)=>fE Φ a s
  | some (.bool false)=>fE Φ b s
  | _=>none:=by
 obtain ⟨N,hN⟩:=t9 Φ (.cond c a b) s;obtain ⟨N1,hN1⟩:=t9 Φ a s;obtain ⟨N2,hN2⟩:=t9 Φ b s;rw [<- hN (max N (max N1 N2)) (by omega)];simp only [evC,hN1 (max N (max N1 N2)) (by omega),hN2 (max N (max N1 N2)) (by omega)];rfl
theorem X5 (i:Nat) (b:Xu) (s:St):fE Φ (.block i b) s=match fE Φ b s with
  | some (.exit j,s')=>if j=i then some (.normal,s') else some (.exit j,s')
  | r=>r:=by
 obtain ⟨N,hN⟩:=t9 Φ (.block i b) s;obtain ⟨N1,hN1⟩:=t9 Φ b s;rw [<- hN (max N N1) (by omega)];simp only [evC,hN1 (max N N1) (by omega)];rfl
theorem XX (b:Xu) (s:St):fE Φ (.loop b) s=match fE Φ b s with
  | some (.normal,s')=>fE Φ (.loop b) s'
  | r=>r:=by
 obtain ⟨N,hN⟩:=t9 Φ (.loop b) s;obtain ⟨N1,hN1⟩:=t9 Φ b s;cases hb:fE Φ b s with
 | none=>
  rw [<- hN (max N N1+1) (by omega)];simp only [evC,DH,hN1 (max N N1+1) (by omega),hb]
 | some p=>
  obtain ⟨ex,s'⟩:=p;obtain ⟨N2,hN2⟩:=t9 Φ (.loop b) s';have e1:=hN (max N (max N1 N2)+1) (by omega);rw [<- e1];simp only [evC,DH,hN1 (max N (max N1 N2)+1) (by omega),hb];cases ex with
  | normal=>
   simp only;have lo:=hN2 (max N (max N1 N2)) (by omega);have hi:=hN2 (max N (max N1 N2)+2) (by omega);simp only [evC] at lo hi;have step:∀n m,n<=m->LeC (evF Φ n) (evF Φ m):=fun n m h=>LJ h
   cases hl:fE Φ (.loop b) s' with
   | some r=>
    rw [hl] at lo;exact TX (fun s r hs=>w5 (step _ _ (by omega)) (by omega) hs) (Qb _) lo
   | none=>
    cases hm:DH (evC (evF Φ (max N (max N1 N2)+1)) (max N (max N1 N2)+1) b) (max N (max N1 N2)) s' with
    | none=>rfl
    | some r=>
     have:=TX (b':=evC (evF Φ (max N (max N1 N2)+2)) (max N (max N1 N2)+2) b) (fun s r hs=>w5 (step _ _ (by omega)) (by omega) hs) (m:=max N (max N1 N2)+2) (by omega) hm;rw [hi,hl] at this;cases this
  | _=>rfl
theorem qxz (draw:Bool) (ops:List Xv) (keep:Option (List Nat)) (s:St):fE Φ (.region draw [] ops keep) s=match aU (aG Φ) none ops s with
  | some (.normal,s')=>some (.normal,kept keep s')
  | r=>if draw then none else r:=by
 obtain ⟨N,hN⟩:=t9 Φ (.region draw [] ops keep) s;obtain ⟨N1,hN1⟩:=MX Φ none ops s;rw [<- hN (max N N1) (by omega)];simp only [evC,hN1 (max N N1) (by omega),TO,if_true];rfl
theorem X6 (draw:Bool) (p:Nat×Nat) (ps:List (Nat×Nat)) (ops:List Xv) (keep:Option (List Nat)) (s:St):fE Φ (.region draw (p::ps) ops keep) s=
  if K5 (w9 ops)&&JV (p::ps) (feet (aG Φ) (some s.h.next) ops ⟨s.e,s.h.resv (w9 ops)⟩) then
   match aU (aG Φ) (some s.h.next) ops ⟨s.e,s.h.resv (w9 ops)⟩ with
   | some (.normal,s')=>some (.normal,kept keep ⟨s'.e,s'.h.sweep⟩)
   | _=>none
  else none:=by
 obtain ⟨N,hN⟩:=t9 Φ (.region draw (p::ps) ops keep) s;obtain ⟨N1,hN1⟩:=MX Φ (some s.h.next) ops ⟨s.e,s.h.resv (w9 ops)⟩;obtain ⟨N2,hN2⟩:=PJ Φ (some s.h.next) ops ⟨s.e,s.h.resv (w9 ops)⟩;rw [<- hN (max N (max N1 N2)) (by omega)];simp only [evC,hN1 (max N (max N1 N2)) (by omega),hN2 (max N (max N1 N2)) (by omega)];rfl
theorem YB {f:FuncId} {fn:AFn} (hf:Φ f=some (.code fn)) {as:List AV} {H:AH} (hl:as.length=fn.nparams):
  aG Φ f as H=CP (fE Φ fn.body ⟨iP 0 as,H⟩) fn.results:=by
 obtain ⟨N,hN⟩:=EN Φ f as H;obtain ⟨N1,hN1⟩:=t9 Φ fn.body ⟨iP 0 as,H⟩;rw [<- hN (max N N1+1) (by omega)];simp only [evF,hf,a9 hl];rw [hN1 (max N N1) (by omega)]
theorem QQ:∀(p:RProg),∃N,∀m,N<=m->evR (evF Φ m) p=evR (aG Φ) p
 | .ret o=>⟨0,fun _ _=>rfl⟩
 | .call f as H k=>by
  obtain ⟨N,hN⟩:=EN Φ f as H;cases hc:aG Φ f as H with
  | none=>exact ⟨N,fun m hm=>by simp only [evR,hN m hm,hc]⟩
  | some q=>
   obtain ⟨M,hM⟩:=QQ (k q.1 q.2);exact ⟨max N M,fun m hm=>by simp only [evR,hN m (by omega),hc,hM m (by omega)]⟩
theorem pu {f:FuncId} {g:List AV->AH->RProg} (hf:Φ f=some (.rule g)) (as:List AV) (H:AH):aG Φ f as H=evR (aG Φ) (g as H):=by
 obtain ⟨N,hN⟩:=EN Φ f as H;obtain ⟨M,hM⟩:=QQ Φ (g as H);rw [<- hN (max N M+1) (by omega),<- hM (max N M) (by omega)];simp only [evF,hf]
noncomputable def cloI (d : ADFn) (v : AV) (caps : List AV) (h : AH) : Option AH :=
 match fE Φ d.cbody ⟨recE d.rcv v (iP 0 caps),h⟩ with
 | some (.normal,s)=>some s.h
 | some (.ret,s)=>some s.h
 | _=>none
noncomputable def LZ (d : ADFn) (caps : List AV) : Option (Ex × St) -> Option (Ex × St)
 | some (.normal,s) | some (.ret,s)=>(cloI Φ d .niliface caps s.h).map fun h=>(.ret,⟨s.e,h⟩)
 | some (.pan v,s)=>if d.rcv.isSome then (cloI Φ d v caps s.h).map fun h=>(.ret,⟨s.e,h⟩) else none
 | _=>none
noncomputable def A9 (d : ADFn) : DCode -> St -> Option (Ex × St)
 | .seq a k,s=>match fE Φ a s with
  | some (.normal,s')=>A9 d k s'
  | r=>r
 | .dfr ops t body,s=>match aU (aG Φ) none ops s with
  | some (.normal,s1)=>match (look t s1.e).bind tgt with
   | some (f,caps)=>if f=d.clo/\caps.length=d.ncaps then LZ Φ d caps (fE Φ body s1) else none
   | none=>none
  | r=>r
theorem jj (d:ADFn) (v:AV) (caps:List AV) (h:AH):∃N,∀m,N<=m->zS (evF Φ m) m d v caps h=cloI Φ d v caps h:=by
 obtain ⟨N,hN⟩:=t9 Φ d.cbody ⟨recE d.rcv v (iP 0 caps),h⟩;exact ⟨N,fun m hm=>by unfold zS cloI;rw [hN m hm];rfl⟩
theorem Ds (d:ADFn) (caps:List AV) (o:Option (Ex×St)):∃N,∀m,N<=m->ES (evF Φ m) m d caps o=LZ Φ d caps o:=by
 match o with
 | none=>exact ⟨0,fun _ _=>rfl⟩
 | some (.exit _,_)=>exact ⟨0,fun _ _=>rfl⟩
 | some (.normal,s)=>obtain ⟨N,hN⟩:=jj Φ d .niliface caps s.h;exact ⟨N,fun m hm=>by simp only [ES,LZ,hN m hm]⟩
 | some (.ret,s)=>obtain ⟨N,hN⟩:=jj Φ d .niliface caps s.h;exact ⟨N,fun m hm=>by simp only [ES,LZ,hN m hm]⟩
 | some (.pan v,s)=>obtain ⟨N,hN⟩:=jj Φ d v caps s.h;exact ⟨N,fun m hm=>by simp only [ES,LZ,hN m hm]⟩
theorem rq (d:ADFn):∀(c:DCode) (s:St),∃N,∀m,N<=m->evD (evF Φ m) m d c s=A9 Φ d c s
 | .seq a k,s=>by
  obtain ⟨N,hN⟩:=t9 Φ a s;cases ha:fE Φ a s with
  | none=>exact ⟨N,fun m hm=>by simp only [evD,A9,hN m hm,ha]⟩
  | some p=>
   obtain ⟨ex,s'⟩:=p;obtain ⟨M,hM⟩:=rq d k s';refine ⟨max N M,fun m hm=>?_⟩;simp only [evD,A9,hN m (by omega),ha];cases ex with
   | normal=>simp only [hM m (by omega)]
   | _=>rfl
 | .dfr ops t body,s=>by
  obtain ⟨N,hN⟩:=MX Φ none ops s;cases ha:aU (aG Φ) none ops s with
  | none=>exact ⟨N,fun m hm=>by simp only [evD,A9,hN m hm,ha]⟩
  | some p=>
   obtain ⟨ex,s1⟩:=p;cases ex with
   | normal=>
    cases ht:(look t s1.e).bind tgt with
    | none=>exact ⟨N,fun m hm=>by simp only [evD,A9,hN m hm,ha,ht]⟩
    | some q=>
     obtain ⟨N2,hN2⟩:=t9 Φ body s1;obtain ⟨N3,hN3⟩:=Ds Φ d q.2 (fE Φ body s1);exact ⟨max N (max N2 N3),fun m hm=>by simp only [evD,A9,hN m (by omega),ha,ht,hN2 m (by omega),hN3 m (by omega)]⟩
   | exit i=>exact ⟨N,fun m hm=>by simp only [evD,A9,hN m hm,ha]⟩
   | ret=>exact ⟨N,fun m hm=>by simp only [evD,A9,hN m hm,ha]⟩
   | pan v=>exact ⟨N,fun m hm=>by simp only [evD,A9,hN m hm,ha]⟩
theorem C' {f:FuncId} {d:ADFn} (hf:Φ f=some (.dfr d)) {as:List AV} {H:AH} (hl:as.length=d.nparams):
  aG Φ f as H=CP (A9 Φ d d.code ⟨iP 0 as,H⟩) d.results:=by
 obtain ⟨N,hN⟩:=EN Φ f as H;obtain ⟨N1,hN1⟩:=rq Φ d d.code ⟨iP 0 as,H⟩;rw [<- hN (max N N1+1) (by omega)];simp only [evF,hf,a9 hl];rw [hN1 (max N N1) (by omega)]
end
end Go.Av
namespace Go.Av
inductive Fr where
 | c (c:Xu)
 | b (id:Nat)
 | f (ks:List Nat)
noncomputable def goX (Φ : FuncId -> Option AFun) : List Fr -> Ex -> St -> Option (Ex × St)
 | [],ex,s=>some (ex,s)
 | .b i::K,ex,s=>match ex with
  | .exit j=>if j=i then goX Φ K .normal s else goX Φ K (.exit j) s
  | ex=>goX Φ K ex s
 | .f ks::K,ex,s=>match ex with
  | .normal=>goX Φ K .normal (LY ks s)
  | ex=>goX Φ K ex s
 | .c c::K,ex,s=>match ex with
  | .normal=>match fE Φ c s with
   | some (ex',s')=>goX Φ K ex' s'
   | none=>none
  | ex=>goX Φ K ex s
def wI:Option (Rt×AH)->Option Rt
 | some (.val r,H)=>match snap aI H r with
  | some r'=>some (.val r')
  | none=>none
 | some (.pan r,H)=>match snap aI H r with
  | some r'=>some (.pan r')
  | none=>none
 | none=>none
noncomputable def a8 (Φ : FuncId -> Option AFun) (f : FuncId) (as : List AV) : Option Rt := wI (aG Φ f as H0)
def DA (b:Bool) (H:AH):Option Rt->Option (Rt×AH)
 | some (.val r)=>if b&& !flat aI r then none else some (.val r,H)
 | some (.pan r)=>if flat aI r then some (.pan r,H) else none
 | none=>none
theorem XN (Φ:FuncId->Option AFun) (f:FuncId) (as:List AV) (H:AH):nY (aG Φ) f as H=
  match mapO (snap aI H) as with
  | some as'=>DA (anyL (bor aI) as) H (a8 Φ f as')
  | none=>none:=by
 unfold nY a8;split<;>rename_i h
 ·simp [h]
 ·simp only [h];split<;>rename_i h2
  ·rw [h2];simp only [wI];split<;>rename_i h3<;>simp [h3,DA]
  ·rw [h2];simp only [wI];split<;>rename_i h3<;>simp [h3,DA]
  ·rw [h2];rfl
def finC (rs:List ARes) (o:Option (Ex×St)):Option (Rt×AH):=CP o rs
def finP (rs:List ARes) (o:Option (Ex×St)):Option Rt:=wI (CP o rs)
def retV (rs:List ARes) (s:St):Option AV:=match mapO (DO s) rs with
 | none=>none
 | some [v]=>some v
 | some vs=>some (.tup vs)
section
variable (Φ:FuncId->Option AFun) {I:Type} (fin:Option (Ex×St)->Option I)
noncomputable def go (K : List Fr) (ex : Ex) (s : St) : Option I := fin (goX Φ K ex s)
noncomputable def wA (d : Bool) (ops : List Xv) (K : List Fr) (s : St) : Option I :=
 match aU (aG Φ) none ops s with
 | some (.normal,s')=>go Φ fin K .normal s'
 | some (ex,s')=>if d then fin none else go Φ fin K ex s'
 | none=>fin none
noncomputable def CX (d : Bool) (dst : Option Nat) (r : List Xv) (K : List Fr) (e : Env) (o : Option (Rt × AH)) : Option I :=
 match o with
 | some (.val v,h)=>wA Φ fin d r K ⟨putE e dst v,h⟩
 | some (.pan v,h)=>if d then fin none else go Φ fin K (.pan v) ⟨e,h⟩
 | none=>fin none
noncomputable def SY (o : Option AV) (a b : Xu) (K : List Fr) (s : St) : Option I := match o with
 | some (.bool true)=>go Φ fin (.c a::K) .normal s
 | some (.bool false)=>go Φ fin (.c b::K) .normal s
 | _=>fin none
noncomputable def EU (o : Option AV) (w : Bool) (d : Bool) (dst : Option Nat) (op : AOp) (r : List Xv) (K : List Fr) (e : Env) (h : AH) : Option I := match o with
 | some (.bool b)=>match b,w with
  | true,true | false,false=>CX Φ fin d dst r K e (aD (aG Φ) e h.next h op)
  | true,false | false,true=>wA Φ fin d r K ⟨putE e dst (.tup []),h⟩
 | some (.tup [])=>wA Φ fin d r K ⟨putE e dst (.tup []),h⟩
 | _=>fin none
theorem WY {d:Bool} {dst:Option Nat} {r:List Xv} {K:List Fr} {e:Env} {o o':Option (Rt×AH)} (h:o=o'):CX Φ fin d dst r K e o=CX Φ fin d dst r K e o':=by rw [h]
theorem X8 {o o':Option AV} {a b:Xu} {K:List Fr} {s:St} (h:o=o'):SY Φ fin o a b K s=SY Φ fin o' a b K s:=by rw [h]
theorem qyj {o o':Option AV} {w d:Bool} {dst:Option Nat} {op:AOp} {r:List Xv} {K:List Fr} {e:Env} {h:AH} (ho:o=o'):EU Φ fin o w d dst op r K e h=EU Φ fin o' w d dst op r K e h:=by rw [ho]
attribute [congr] WY X8 qyj
@[simp] theorem XZ (a b:Xu) (K:List Fr) (s:St):SY Φ fin (some (.bool true)) a b K s=go Φ fin (.c a::K) .normal s:=rfl
@[simp] theorem X9 (a b:Xu) (K:List Fr) (s:St):SY Φ fin (some (.bool false)) a b K s=go Φ fin (.c b::K) .normal s:=rfl
@[simp] theorem a1b (d:Bool) (dst:Option Nat) (op:AOp) (r:List Xv) (K:List Fr) (e:Env) (h:AH):EU Φ fin (some (.bool true)) true d dst op r K e h=CX Φ fin d dst r K e (aD (aG Φ) e h.next h op):=rfl
@[simp] theorem a18 (d:Bool) (dst:Option Nat) (op:AOp) (r:List Xv) (K:List Fr) (e:Env) (h:AH):EU Φ fin (some (.bool false)) false d dst op r K e h=CX Φ fin d dst r K e (aD (aG Φ) e h.next h op):=rfl
@[simp] theorem a1a (d:Bool) (dst:Option Nat) (op:AOp) (r:List Xv) (K:List Fr) (e:Env) (h:AH):EU Φ fin (some (.bool true)) false d dst op r K e h=wA Φ fin d r K ⟨putE e dst (.tup []),h⟩:=rfl
@[simp] theorem a19 (d:Bool) (dst:Option Nat) (op:AOp) (r:List Xv) (K:List Fr) (e:Env) (h:AH):EU Φ fin (some (.bool false)) true d dst op r K e h=wA Φ fin d r K ⟨putE e dst (.tup []),h⟩:=rfl
@[simp] theorem a0G (w d:Bool) (dst:Option Nat) (op:AOp) (r:List Xv) (K:List Fr) (e:Env) (h:AH):EU Φ fin (some (.tup [])) w d dst op r K e h=wA Φ fin d r K ⟨putE e dst (.tup []),h⟩:=rfl
variable {Φ fin}
@[simp] theorem a0L (d:Bool) (t:Nat) (r:List Xv) (K:List Fr) (e:Env) (v:AV) (h:AH):CX Φ fin d (some t) r K e (some (.val v,h))=wA Φ fin d r K ⟨(t,v)::e,h⟩:=rfl
@[simp] theorem a0c (d:Bool) (r:List Xv) (K:List Fr) (e:Env) (v:AV) (h:AH):CX Φ fin d none r K e (some (.val v,h))=wA Φ fin d r K ⟨e,h⟩:=rfl
@[simp] theorem a0K (dst:Option Nat) (r:List Xv) (K:List Fr) (e:Env) (v:AV) (h:AH):CX Φ fin false dst r K e (some (.pan v,h))=go Φ fin K (.pan v) ⟨e,h⟩:=rfl
@[simp] theorem a16 (d:Bool) (K:List Fr) (s:St):wA Φ fin d [] K s=go Φ fin K .normal s:=rfl
@[simp] theorem a0F (d:Bool) (dst:Option Nat) (op:AOp) (r:List Xv) (K:List Fr) (e:Env) (h:AH):
  wA Φ fin d (⟨dst,none,op⟩::r) K ⟨e,h⟩=CX Φ fin d dst r K e (aD (aG Φ) e h.next h op):=by
 unfold wA;simp only [aU,nI];have:cE none dst h=h.next:=by cases dst<;>rfl
 rw [this];cases hc:aD (aG Φ) e h.next h op with
 | none=>rfl
 | some p=>
  obtain ⟨x,h'⟩:=p;cases x<;>rfl
@[simp] theorem zo (d:Bool) (dst:Option Nat) (t:Nat) (w:Bool) (op:AOp) (r:List Xv) (K:List Fr) (e:Env) (h:AH):
  wA Φ fin d (⟨dst,some (t,w),op⟩::r) K ⟨e,h⟩=EU Φ fin (look t e) w d dst op r K e h:=by
 conv=>lhs;unfold wA
 simp only [aU];have:cE none dst h=h.next:=by cases dst<;>rfl
 rw [this];have run:(match aD (aG Φ) e h.next h op with
   | none=>fin none
   | some (.val v,h')=>match aU (aG Φ) none r ⟨putE e dst v,h'⟩ with
    | some (.normal,s')=>go Φ fin K .normal s'
    | some (ex,s')=>if d then fin none else go Φ fin K ex s'
    | none=>fin none
   | some (.pan v,h')=>if d then fin none else go Φ fin K (.pan v) ⟨e,h'⟩)=CX Φ fin d dst r K e (aD (aG Φ) e h.next h op):=by
  cases aD (aG Φ) e h.next h op with
  | none=>rfl
  | some p=>obtain ⟨x,h'⟩:=p;cases x<;>rfl
 have step:nI e (some (t,w))=some true->(match aU (aG Φ) none (⟨dst,some (t,w),op⟩::r) ⟨e,h⟩ with
   | some (.normal,s')=>go Φ fin K .normal s'
   | some (ex,s')=>if d then fin none else go Φ fin K ex s'
   | none=>fin none)=CX Φ fin d dst r K e (aD (aG Φ) e h.next h op):=by
  intro hg;rw [<- run];simp only [aU,hg,this];cases aD (aG Φ) e h.next h op with
  | none=>rfl
  | some p=>obtain ⟨x,h'⟩:=p;cases x<;>rfl
 have skip:nI e (some (t,w))=some false->(match aU (aG Φ) none (⟨dst,some (t,w),op⟩::r) ⟨e,h⟩ with
   | some (.normal,s')=>go Φ fin K .normal s'
   | some (ex,s')=>if d then fin none else go Φ fin K ex s'
   | none=>fin none)=wA Φ fin d r K ⟨putE e dst (.tup []),h⟩:=by
  intro hg;simp only [aU,hg];rfl
 simp only [aU,this] at step skip;cases hl:look t e with
 | none=>simp only [nI,hl,EU]
 | some v=>
  have hgo:nI e (some (t,w))=match (some v:Option AV) with
   | some (.bool b)=>some (b == w)
   | some (.tup [])=>some false
   | _=>none:=by simp only [nI,hl];rfl
  cases v with
  | bool b=>
   cases b<;>cases w
   ·exact step hgo
   ·exact skip hgo
   ·exact skip hgo
   ·exact step hgo
  | tup vs=>match vs with
   | []=>exact skip hgo
   | x::xs=>rw [hgo];rfl
  | _=>rw [hgo];rfl
@[simp] theorem go_nil (ex:Ex) (s:St):go Φ fin [] ex s=fin (some (ex,s)):=rfl
@[simp] theorem go_b (i:Nat) (K:List Fr) (s:St):go Φ fin (.b i::K) .normal s=go Φ fin K .normal s:=rfl
@[simp] theorem go_bx (i j:Nat) (K:List Fr) (s:St):go Φ fin (.b i::K) (.exit j) s=if j=i then go Φ fin K .normal s else go Φ fin K (.exit j) s:=by
 unfold go;simp only [goX];split<;>rfl
@[simp] theorem go_fx (ks:List Nat) (j:Nat) (K:List Fr) (s:St):go Φ fin (.f ks::K) (.exit j) s=go Φ fin K (.exit j) s:=rfl
@[simp] theorem go_f0 (K:List Fr) (s:St):go Φ fin (.f []::K) .normal s=go Φ fin K .normal s:=rfl
def frK:Option (List Nat)->List Fr->List Fr
 | none,K=>K
 | some ks,K=> .f ks::K
@[simp] theorem a1B (K:List Fr):frK none K=K:=rfl
@[simp] theorem a1C (ks:List Nat) (K:List Fr):frK (some ks) K= .f ks::K:=rfl
theorem QW (o:Option (List Nat)) (K:List Fr) (s:St):go Φ fin (frK o K) .normal s=go Φ fin K .normal (kept o s):=by cases o<;>rfl
theorem Z1 (o:Option (List Nat)) (K:List Fr) (v:AV) (s:St):go Φ fin (frK o K) (.pan v) s=go Φ fin K (.pan v) s:=by cases o<;>rfl
theorem XF (o:Option (List Nat)) (K:List Fr) (j:Nat) (s:St):go Φ fin (frK o K) (.exit j) s=go Φ fin K (.exit j) s:=by cases o<;>rfl
theorem Z2 (o:Option (List Nat)) (K:List Fr) (s:St):go Φ fin (frK o K) .ret s=go Φ fin K .ret s:=by cases o<;>rfl
theorem VW {t:Nat} {ks:List Nat} {K:List Fr} {e:Env} {H:AH}:go Φ fin (.f (t::ks)::K) .normal ⟨e,H⟩=go Φ fin (.f ks::K) .normal (frzP t ⟨e,H⟩):=rfl
noncomputable def frzG (Φ : FuncId -> Option AFun) (fin : Option (Ex × St) -> Option I) (t : Nat) (ks : List Nat) (K : List Fr) (e : Env) (H : AH) (id z i off : Nat) (o : Option AO) : Option I := match o with
 | some (.row z' es)=>if z'=z/\anyL (bor aI) es.flatten=false then match mapO (mapO (snap aI H)) es with
   | some es'=>go Φ fin (.f ks::K) .normal ⟨(t,.iptr z es' i off)::e,H.kill id⟩
   | none=>go Φ fin (.f ks::K) .normal ⟨e,H⟩
  else go Φ fin (.f ks::K) .normal ⟨e,H⟩
 | _=>go Φ fin (.f ks::K) .normal ⟨e,H⟩
@[simp] theorem go_cx (c:Xu) (j:Nat) (K:List Fr) (s:St):go Φ fin (.c c::K) (.exit j) s=go Φ fin K (.exit j) s:=rfl
theorem VC:∀(K:List Fr) (s:St),goX Φ K .ret s=some (.ret,s)
 | [],s=>rfl
 | .b _::K,s=>VC K s
 | .f _::K,s=>VC K s
 | .c _::K,s=>VC K s
theorem VB (v:AV):∀(K:List Fr) (s:St),goX Φ K (.pan v) s=some (.pan v,s)
 | [],s=>rfl
 | .b _::K,s=>VB v K s
 | .f _::K,s=>VB v K s
 | .c _::K,s=>VB v K s
@[simp] theorem Jf (K:List Fr) (s:St):go Φ fin K .ret s=fin (some (.ret,s)):=by
 unfold go;rw [VC]
@[simp] theorem go_pan (K:List Fr) (v:AV) (s:St):go Φ fin K (.pan v) s=fin (some (.pan v,s)):=by
 unfold go;rw [VB]
theorem go_c (c:Xu) (K:List Fr) (s:St):go Φ fin (.c c::K) .normal s=match fE Φ c s with
  | some (ex',s')=>go Φ fin K ex' s'
  | none=>fin none:=by
 unfold go;simp only [goX];cases fE Φ c s<;>rfl
@[simp] theorem go_skip (K:List Fr) (s:St):go Φ fin (.c .skip::K) .normal s=go Φ fin K .normal s:=by
 rw [go_c,XY]
@[simp] theorem go_ret (K:List Fr) (s:St):go Φ fin (.c .ret::K) .normal s=fin (some (.ret,s)):=by
 rw [go_c,U'];exact Jf K s
@[simp] theorem go_exit (i:Nat) (K:List Fr) (s:St):go Φ fin (.c (.exit i)::K) .normal s=go Φ fin K (.exit i) s:=by
 rw [go_c,XW]
@[simp] theorem go_seq (a b:Xu) (K:List Fr) (s:St):go Φ fin (.c (.seq a b)::K) .normal s=go Φ fin (.c a:: .c b::K) .normal s:=by
 rw [go_c,go_c,ZF];cases fE Φ a s with
 | none=>rfl
 | some p=>
  obtain ⟨ex,s'⟩:=p;cases ex with
  | normal=>simp only [];rw [go_c]
  | exit i=>simp
  | ret=>simp
  | pan v=>simp
@[simp] theorem a1G (i:Nat) (b:Xu) (K:List Fr) (s:St):go Φ fin (.c (.block i b)::K) .normal s=go Φ fin (.c b:: .b i::K) .normal s:=by
 rw [go_c,go_c,X5];cases fE Φ b s with
 | none=>rfl
 | some p=>
  obtain ⟨ex,s'⟩:=p;cases ex with
  | normal=>simp
  | exit j=>
   simp only [go_bx];by_cases h:j=i
   ·simp [h]
   ·simp [h]
  | ret=>simp
  | pan v=>simp
theorem aT (b:Xu) (K:List Fr) (s:St):go Φ fin (.c (.loop b)::K) .normal s=go Φ fin (.c b:: .c (.loop b)::K) .normal s:=by
 rw [go_c,go_c,XX];cases fE Φ b s with
 | none=>rfl
 | some p=>
  obtain ⟨ex,s'⟩:=p;cases ex with
  | normal=>simp only [];rw [go_c]
  | exit i=>simp
  | ret=>simp
  | pan v=>simp
@[simp] theorem go_cond (x:AX) (a b:Xu) (K:List Fr) (s:St):go Φ fin (.c (.cond x a b)::K) .normal s=SY Φ fin (evX s.e x) a b K s:=by
 rw [go_c,XU];cases h:evX s.e x with
 | none=>rfl
 | some v=>
  cases v with
  | bool b=>
   cases b with
   | true=>simp only [XZ];rw [go_c]
   | false=>simp only [X9];rw [go_c]
  | _=>rfl
theorem Ki {t:Nat} {ks:List Nat} {K:List Fr} {e:Env} {H:AH} {id z i off:Nat} (h:look t e=some (.ptr id z i off)):go Φ fin (.f (t::ks)::K) .normal ⟨e,H⟩=frzG Φ fin t ks K e H id z i off (H.get id):=by
 rw [VW];simp only [frzP,h,VU,frzG];cases H.get id with
 | none=>rfl
 | some o=>cases o with
  | row z' es=>
   by_cases hc:z'=z/\anyL (bor aI) es.flatten=false
   ·simp only [a9 hc];cases mapO (mapO (snap aI H)) es<;>rfl
   ·simp only [QA hc]
  | _=>rfl
@[simp] theorem a17 (d:Bool) (ops:List Xv) (o:Option (List Nat)) (K:List Fr) (s:St):go Φ fin (.c (.region d [] ops o)::K) .normal s=wA Φ fin d ops (frK o K) s:=by
 rw [go_c,qxz];unfold wA;cases aU (aG Φ) none ops s with
 | none=>cases d<;>rfl
 | some p=>
  obtain ⟨ex,s'⟩:=p;cases ex<;>cases d<;>simp [QW,Z1,XF,Z2]
theorem eQ {f:FuncId} {fn:AFn} (hf:Φ f=some (.code fn)) {as:List AV} {H:AH} (hl:as.length=fn.nparams):
  aG Φ f as H=go Φ (finC fn.results) [.c fn.body] .normal ⟨iP 0 as,H⟩:=by
 rw [YB Φ hf hl,go_c];cases fE Φ fn.body ⟨iP 0 as,H⟩ with
 | none=>rfl
 | some p=>rfl
theorem aB {f:FuncId} {fn:AFn} (hf:Φ f=some (.code fn)) {as:List AV} (hl:as.length=fn.nparams):
  a8 Φ f as=go Φ (finP fn.results) [.c fn.body] .normal ⟨iP 0 as,H0⟩:=by
 unfold a8;rw [eQ hf hl];rfl
end
def retC (h:AH):Option AV->Option (Rt×AH)
 | some v=>some (.val v,h)
 | none=>none
def retP (h:AH):Option AV->Option Rt
 | some v=>match snap aI h v with
  | some r=>some (.val r)
  | none=>none
 | none=>none
@[simp] theorem a1f (h:AH) (v:AV):retC h (some v)=some (.val v,h):=rfl
theorem MU (h:AH) (v:AV):retP h (some v)=match snap aI h v with
  | some r=>some (.val r)
  | none=>none:=rfl
theorem jl {rs:List ARes} {ex:Ex} {s:St} (he:ex= .ret\/ex= .normal):finC rs (some (ex,s))=retC s.h (retV rs s):=by
 unfold finC CP retV retC;rcases he with rfl | rfl
 all_goals
  dsimp only;cases mapO (DO s) rs with
  | none=>rfl
  | some vs=>match vs with
   | []=>rfl
   | [v]=>rfl
   | _::_::_=>rfl
@[simp] theorem a1v (rs:List ARes) (s:St):finC rs (some (.ret,s))=retC s.h (retV rs s):=jl (.inl rfl)
@[simp] theorem zj (rs:List ARes) (s:St):finC rs (some (.normal,s))=retC s.h (retV rs s):=jl (.inr rfl)
@[simp] theorem a1u (rs:List ARes) (v:AV) (s:St):finC rs (some (.pan v,s))=some (.pan v,s.h):=rfl
theorem PL {rs:List ARes} {ex:Ex} {s:St} (he:ex= .ret\/ex= .normal):finP rs (some (ex,s))=retP s.h (retV rs s):=by
 have:=jl (rs:=rs) (s:=s) he;unfold finC at this;unfold finP;rw [this];cases retV rs s<;>rfl
@[simp] theorem a1x (rs:List ARes) (s:St):finP rs (some (.ret,s))=retP s.h (retV rs s):=PL (.inl rfl)
@[simp] theorem zn (rs:List ARes) (s:St):finP rs (some (.normal,s))=retP s.h (retV rs s):=PL (.inr rfl)
@[simp] theorem a1w (rs:List ARes) (v:AV) (s:St):finP rs (some (.pan v,s))=wI (some (.pan v,s.h)):=rfl
end Go.Av
